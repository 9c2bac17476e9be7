import Derived.Test.YthoobepfkfjgnaaDoorPLx0
import Derived.Test.YthoobepfkfjgnaaDoorPLx1
import Derived.Test.YthoobepfkfjgnaaDoorLexW
import Derived.Lib.SmallJoins
import Derived.WalkLawsBesides
import Derived.Outline
import Derived.StillTailTactics
import Derived.Test.YthoobepfkfjgnaaDoorMore
namespace Go.Proofs.YthoobepfkfjgnaaDoor.PL
open Go.RowKit Go.Proofs.YthoobepfkfjgnaaDoorW.PrintWords Go.Proofs.YthoobepfkfjgnaaDoorW.PrintLast Go.Proofs.YthoobepfkfjgnaaDoorW.PrintMore
attribute [local go_sem] max2_int min2_int max_two min_two max_three min_three max_four min_four
set_option linter.unusedVariables false
set_option linter.unusedSimpArgs false
-- GIVEN plain making
/-- The scanner at block g of W (as the print tells a state), its slice no longer than its capacity. -/
def LexS (w0 W : World) (g : Nat) (f0 : List Int) (f1 : Int) : Prop := ∃ A0 c0, W.heap[g]? = some (.cells #[.slice A0 f0.length c0, .int .i64 f1] 50 (0, 0)) ∧ w0.heap.size ≤ g ∧ Kd.C (Kd.int .u8) w0 A0 f0.length f0 ∧ f0.length ≤ c0
theorem LexS.grown {w0 W : World} {g : Nat} {f0 : List Int} {f1 : Int} {W1 : World} {row : Option Nat} (h : LexS w0 W g f0 f1) (hw : W.grownBy W1 row) (hne : some g ≠ row) : LexS w0 W1 g f0 f1 := by
  obtain ⟨A0, c0, hb, hg, hr0, hcp⟩ := h
  exact ⟨A0, c0, blk_grown hb hw hne, hg, hr0, hcp⟩
theorem LexS.own_neN {w0 W : World} {g : Nat} {f0 : List Int} {f1 : Int} {α : Type} {d : Kd α} {e : Nat} {base : Nat} {ok : Nat → Prop} {v : Value} {xs : List α} (h : LexS w0 W g f0 f1) (ho : Kd.N d e W base ok v xs) (ht : e ≠ 50) : some g ≠ v.ownBlock := by
  obtain ⟨A0, c0, hb, hg, hr0, hcp⟩ := h
  exact Kd.N_ne ho hb ht
theorem LexS.fresh {w0 W : World} {g : Nat} {f0 : List Int} {f1 : Int} (h : LexS w0 W g f0 f1) : ∀ k, W.heap.size ≤ k → k ≠ g := by
  obtain ⟨A0, c0, hb, hg, hr0, hcp⟩ := h
  exact Kd.freshB hb
theorem LexS.kept {w0 W : World} {g : Nat} {f0 : List Int} {f1 : Int} {W1 : World} {S : Nat → Prop} (h : LexS w0 W g f0 f1) (hk : Kept W W1 S) (hne : ¬ S g) : LexS w0 W1 g f0 f1 := by
  obtain ⟨A0, c0, hb, hg, hr0, hcp⟩ := h
  exact ⟨A0, c0, blk_kept hb hk hne, hg, hr0, hcp⟩
theorem LexS.below {w0 W : World} {g : Nat} {f0 : List Int} {f1 : Int} {W1 : World} (h : LexS w0 W g f0 f1) (hw : Below W.heap.size W W1) : LexS w0 W1 g f0 f1 := h.grown (grown_of_below hw none) (by simp)
theorem LexS.alloc {w0 W : World} {g : Nat} {f0 : List Int} {f1 : Int} (h : LexS w0 W g f0 f1) (o : Obj) : LexS w0 (W.alloc o) g f0 f1 := h.below (below_alloc (Below.refl _ _) o)
theorem LexS.drewN {w0 W : World} {g : Nat} {f0 : List Int} {f1 : Int} (h : LexS w0 W g f0 f1) (m : Nat) : LexS w0 (W.drewN m) g f0 f1 := h
theorem LexS.drew {w0 W : World} {g : Nat} {f0 : List Int} {f1 : Int} (h : LexS w0 W g f0 f1) : LexS w0 W.drew g f0 f1 := h
theorem LexS.at_ {w0 W : World} {g : Nat} {f0 : List Int} {f1 : Int} {w' : World} {m : Nat} (hq : W.drewN m = w') (h : LexS w0 W g f0 f1) : LexS w0 w' g f0 f1 := by subst hq; exact LexS.drewN h m
theorem LexS.apart {w0 W : World} {g : Nat} {f0 : List Int} {f1 : Int} {α : Type} {d : Kd α} {e : Nat} {base : Nat} {ok : Nat → Prop} {v : Value} {xs : List α} (h : LexS w0 W g f0 f1) (ho : d.R e W base ok v xs) (ht : ∀ q, q ∈ e :: d.E → q ≠ 50) : d.R e W base (fun k => ok k ∧ k ≠ g) v xs := by
  obtain ⟨A0, c0, hb, hg, hr0, hcp⟩ := h
  exact Kd.R_types ho hb ht
theorem LexS.own_ne {w0 W : World} {g : Nat} {f0 : List Int} {f1 : Int} {α : Type} {d : Kd α} {e : Nat} {base : Nat} {ok : Nat → Prop} {v : Value} {xs : List α} (h : LexS w0 W g f0 f1) (ho : d.R e W base ok v xs) (ht : e ≠ 50) : some g ≠ v.ownBlock := by
  obtain ⟨A0, c0, hb, hg, hr0, hcp⟩ := h
  exact Kd.R_ne ho hb ht
theorem LexS.apartQ {w0 W : World} {g : Nat} {f0 : List Int} {f1 : Int} {α : Type} {d : Kd α} {e : Nat} {base : Nat} {ok : Nat → Prop} {v : Value} {xs : List α} (h : LexS w0 W g f0 f1) (ho : d.Q e W base ok v xs) (ht : ∀ q, q ∈ e :: d.E → q ≠ 50) : d.Q e W base (fun k => ok k ∧ k ≠ g) v xs := by
  obtain ⟨A0, c0, hb, hg, hr0, hcp⟩ := h
  exact Kd.Q_types ho hb ht
theorem LexS.own_neQ {w0 W : World} {g : Nat} {f0 : List Int} {f1 : Int} {α : Type} {d : Kd α} {e : Nat} {base : Nat} {ok : Nat → Prop} {v : Value} {xs : List α} (h : LexS w0 W g f0 f1) (ho : d.Q e W base ok v xs) (ht : e ≠ 50) : some g ≠ v.ownBlock := by
  obtain ⟨A0, c0, hb, hg, hr0, hcp⟩ := h
  exact Kd.Q_ne ho hb ht
theorem LexS.apartS {w0 W : World} {g : Nat} {f0 : List Int} {f1 : Int} {α : Type} {d : Kd α} {e : Nat} {base : Nat} {ok : Nat → Prop} {v : Value} {xs : List α} (h : LexS w0 W g f0 f1) (ho : d.S e W base ok v xs) (ht : ∀ q, q ∈ e :: d.E → q ≠ 50) : d.S e W base (fun k => ok k ∧ k ≠ g) v xs := by
  obtain ⟨A0, c0, hb, hg, hr0, hcp⟩ := h
  exact Kd.S_types ho hb ht
theorem LexS.own_neS {w0 W : World} {g : Nat} {f0 : List Int} {f1 : Int} {α : Type} {d : Kd α} {e : Nat} {base : Nat} {ok : Nat → Prop} {v : Value} {xs : List α} (h : LexS w0 W g f0 f1) (ho : d.S e W base ok v xs) (ht : e ≠ 50) : some g ≠ v.ownBlock := by
  obtain ⟨A0, c0, hb, hg, hr0, hcp⟩ := h
  exact Kd.S_ne ho hb ht
theorem LexS.lt {w0 W : World} {g : Nat} {f0 : List Int} {f1 : Int} (h : LexS w0 W g f0 f1) : g < W.heap.size := by
  obtain ⟨A0, c0, hb, hg, hr0, hcp⟩ := h
  exact blk_lt hb
theorem LexS.ge {w0 W : World} {g : Nat} {f0 : List Int} {f1 : Int} (h : LexS w0 W g f0 f1) : w0.heap.size ≤ g := by
  obtain ⟨A0, c0, hb, hg, hr0, hcp⟩ := h
  exact hg
theorem LexS.ne_blk {w0 W : World} {g : Nat} {f0 : List Int} {f1 : Int} {a : Nat} {cs : Array Value} {t : TypeId} {fr : Nat × Nat} (h : LexS w0 W g f0 f1) (hb2 : W.heap[a]? = some (.cells cs t fr)) (ht : t ≠ 50) : g ≠ a := by
  obtain ⟨A0, c0, hb, hg, hr0, hcp⟩ := h
  rintro rfl
  rw [hb] at hb2
  injection hb2 with hb2
  injection hb2 with _ ht2
  exact ht ht2.symm
theorem LexS.far {w0 W : World} {g : Nat} {f0 : List Int} {f1 : Int} {p : Addr} (h : LexS w0 W g f0 f1) (hne : g ≠ p.block) (u : Value) : LexS w0 (W.setCell p u) g f0 f1 := by
  obtain ⟨A0, c0, hb, hg, hr0, hcp⟩ := h
  exact ⟨A0, c0, blk_far hb hne u, hg, hr0, hcp⟩
theorem cellLexS_0 {W : World} {g : Nat} {A0 : Option Addr} {c0 : Nat} {f0 : List Int} {f1 : Int} (h : W.heap[g]? = some (.cells #[.slice A0 f0.length c0, .int .i64 f1] 50 (0, 0))) : W.cell? ⟨g, 0, none⟩ = some (.slice A0 f0.length c0) := (blk_cell h 0).trans rfl
theorem cellLexS_1 {W : World} {g : Nat} {A0 : Option Addr} {c0 : Nat} {f0 : List Int} {f1 : Int} (h : W.heap[g]? = some (.cells #[.slice A0 f0.length c0, .int .i64 f1] 50 (0, 0))) : W.cell? ⟨g, 1, none⟩ = some (.int .i64 f1) := (blk_cell h 1).trans rfl
theorem LexS.set_1 {w0 W : World} {g : Nat} {f0 : List Int} {f1 : Int} (h : LexS w0 W g f0 f1) (x : Int) : LexS w0 (W.setCell ⟨g, 1, none⟩ (.int .i64 x)) g f0 x := by
  obtain ⟨A0, c0, hb, hg, hr0, hcp⟩ := h
  exact ⟨A0, c0, by simpa using blk_set hb 1 (.int .i64 x), hg, hr0, hcp⟩
theorem LexS.new (w0 W : World) (A0 : Option Addr) (c0 : Nat) (f0 : List Int) (f1 : Int) (hB : Below w0.heap.size w0 W) (hr0 : Kd.C (Kd.int .u8) w0 A0 f0.length f0) (hcp : f0.length ≤ c0) : LexS w0 (W.alloc (.cells #[.slice A0 f0.length c0, .int .i64 f1] 50)) W.heap.size f0 f1 := ⟨A0, c0, by simpa using heap_alloc_new W _, hB.size, hr0, hcp⟩

set_option maxHeartbeats 8000000 in
set_option maxRecDepth 100000 in
theorem lexs_peek.calls (g : Nat) (s0_0 : List Int) (s0_1 : Int) (r1 : Int) (r2 : Bool) (r3 : Int) (w0 w : World) (hI : LexS w0 w g s0_0 s0_1) (hB : Below w0.heap.size w0 w) (h : lex_scanner_peek.f s0_0 s0_1 = some (r1, r2, r3)) :
    Calls Tryd.prog 28 #[.pointer (some ⟨g, 0, none⟩)] w fun e w' => e = .returned (.tuple #[.int .u8 r1, .bool r2]) ∧ LexS w0 w' g s0_0 r3 ∧ Below w0.heap.size w0 w' ∧ KeepBut w w' g none := by
  have HI0 := Aside0.mk hI
  have HK := Aside0.mk (KeepBut.refl w g none)
  have HL := Aside0.mk hB.size
  clear hI
  have HW0 := Aside0.mk hB.size
  have HB := Aside0.mk hB
  clear hB
  have H : (if s0_1 < (s0_0.length : Int) then (if 0 ≤ s0_1 then (some (rd s0_0 s0_1, true, s0_1)) else (none)) else (some (0, false, s0_1))) = some (r1, r2, r3) := h
  clear h
  by_cases c2 : s0_1 < (s0_0.length : Int)
  · rw [if_pos c2] at H
    have c2b0 : decide (s0_1 < (s0_0.length : Int)) = true := decide_eq_true c2
    clear c2
    by_cases c3 : 0 ≤ s0_1
    · rw [if_pos c3] at H
      have c3b0 : decide (0 ≤ s0_1) = true := decide_eq_true c3
      clear c3
      simp only [Option.some.injEq, Prod.mk.injEq] at H
      obtain ⟨rfl, rfl, rfl⟩ := H
      obtain ⟨ASz4_0, cSz4_0, HGz4, hgz4, HSz4_0, _⟩ := HI0.out
      have hcz4_0 := cellLexS_0 HGz4
      have hcz4_1 := cellLexS_1 HGz4
      have hfz4_1 := blk_frozen HGz4 1
      clear HGz4 hgz4
      have p106 : 0 ≤ (s0_1 : Int) := of_decide_eq_true (by first | (with_reducible assumption) | assumption)
      have q106 : s0_1 < (s0_0.length : Int) := of_decide_eq_true (by first | (with_reducible assumption) | assumption)
      obtain ⟨ad106, e106, hx106_0⟩ := Kd.at_int HSz4_0 s0_1 p106 q106
      cases e106
      replace hx106_0 := pw_cell_below HB.out hx106_0
      replace p106 := eq_true p106
      replace q106 := eq_true q106
      go_enter Tryd.func28, Tryd.ntmps28
      go_wp2
      repeat (go_quiet (fail); try go_wp2)
      go_ret2
      exact ⟨by first | rfl | (simp [errW_none, errW_some] <;> rfl) | (simp [*, errW_none, errW_some] <;> rfl), by repeat (first | (with_reducible first | exact HI0.out | apply LexS.alloc | apply LexS.drewN | apply LexS.drew | apply LexS.set_1) | exact HI0.out), by repeat (first | (with_reducible first | exact HB.out | apply below_alloc | apply pw_below_drewN | apply below_drew1 | refine below_set ?_ (LexS.ge HI0.out)) | exact HB.out), by repeat (first | (with_reducible first | exact HK.out | apply KeepBut.set_ | apply keep_drewN | apply keep_drew | apply keep_alloc) | exact HK.out)⟩
    · rw [if_neg c3] at H
      exact absurd H (by simp)
  · rw [if_neg c2] at H
    have c2b0 : decide (s0_1 < (s0_0.length : Int)) = false := decide_eq_false c2
    clear c2
    simp only [Option.some.injEq, Prod.mk.injEq] at H
    obtain ⟨rfl, rfl, rfl⟩ := H
    obtain ⟨ASz5_0, cSz5_0, HGz5, hgz5, HSz5_0, _⟩ := HI0.out
    have hcz5_0 := cellLexS_0 HGz5
    have hcz5_1 := cellLexS_1 HGz5
    have hfz5_1 := blk_frozen HGz5 1
    clear HGz5 hgz5
    go_enter Tryd.func28, Tryd.ntmps28
    go_wp2
    repeat (go_quiet (fail); try go_wp2)
    go_ret2
    exact ⟨by first | rfl | (simp [errW_none, errW_some] <;> rfl) | (simp [*, errW_none, errW_some] <;> rfl), by repeat (first | (with_reducible first | exact HI0.out | apply LexS.alloc | apply LexS.drewN | apply LexS.drew | apply LexS.set_1) | exact HI0.out), by repeat (first | (with_reducible first | exact HB.out | apply below_alloc | apply pw_below_drewN | apply below_drew1 | refine below_set ?_ (LexS.ge HI0.out)) | exact HB.out), by repeat (first | (with_reducible first | exact HK.out | apply KeepBut.set_ | apply keep_drewN | apply keep_drew | apply keep_alloc) | exact HK.out)⟩

set_option maxHeartbeats 8000000 in
set_option maxRecDepth 100000 in
theorem lexs_may.calls (k : Nat) (g : Nat) (s0_0 : List Int) (s0_1 : Int) (A1 : Option Addr) (c1 : Nat) (l1 : List Int) (r1 : Bool) (r2 : Int) (w0 w : World) (hI : LexS w0 w g s0_0 s0_1) (hB : Below w0.heap.size w0 w) (hr1 : Kd.C (Kd.int .u8) w A1 l1.length l1) (hc1 : l1.length ≤ c1) (hf1 : ∀ ad, A1 = some ad → 0 < l1.length → ad.block ≠ g) (h : lex_scanner_may.f k s0_0 s0_1 l1 = some (r1, r2)) :
    Calls Tryd.prog 45 #[.pointer (some ⟨g, 0, none⟩), .slice A1 l1.length c1] w fun e w' => e = .returned (.bool r1) ∧ LexS w0 w' g s0_0 r2 ∧ Below w0.heap.size w0 w' ∧ KeepBut w w' g none := by
  have HR1 := Aside0.mk hr1
  have HC1 := Aside0.mk hc1
  clear hr1 hc1
  have HI0 := Aside0.mk hI
  have HK := Aside0.mk (KeepBut.refl w g none)
  have HL := Aside0.mk hB.size
  clear hI
  have HW0 := Aside0.mk hB.size
  have HB := Aside0.mk hB
  clear hB
  have H : ((lex_scanner_peek.f s0_0 s0_1).bind fun bt108 => (if bt108.2.1 = true then ((lex_one.f k bt108.1 l1).bind fun t111 => (if t111 = true then (some (true, wrap64 (bt108.2.2 + 1))) else (some (false, bt108.2.2)))) else (some (false, bt108.2.2)))) = some (r1, r2) := h
  clear h
  replace H := Option.bind_eq_some_iff.mp H
  obtain ⟨⟨t108, t109, t110⟩, A30, H⟩ := H
  replace H : (if t109 = true then ((lex_one.f k t108 l1).bind fun t111 => (if t111 = true then (some (true, wrap64 (t110 + 1))) else (some (false, t110)))) else (some (false, t110))) = some (r1, r2) := H
  have A3 := Aside0.mk A30
  clear A30
  by_cases c4 : t109 = true
  · subst c4
    have H1 : ((lex_one.f k t108 l1).bind fun t111 => (if t111 = true then (some (true, wrap64 (t110 + 1))) else (some (false, t110)))) = some (r1, r2) := by rw [if_pos rfl] at H; exact H
    clear H
    have H := H1
    clear H1
    replace H := Option.bind_eq_some_iff.mp H
    obtain ⟨t111, A50, H⟩ := H
    replace H : (if t111 = true then (some (true, wrap64 (t110 + 1))) else (some (false, t110))) = some (r1, r2) := H
    have A5 := Aside0.mk A50
    clear A50
    by_cases c6 : t111 = true
    · subst c6
      have H1 : (some (true, wrap64 (t110 + 1))) = some (r1, r2) := by rw [if_pos rfl] at H; exact H
      clear H
      have H := H1
      clear H1
      simp only [Option.some.injEq, Prod.mk.injEq] at H
      obtain ⟨rfl, rfl⟩ := H
      go_enter Tryd.func45, Tryd.ntmps45
      go_wp2_with (first | ((with_reducible refine gate_callee (f := 28) rfl ?_); refine goesL_ (some 9) rfl rfl Tryd.func28 (by kernel_rfl) rfl #[.pointer (some ⟨g, 0, none⟩)] rfl (by (try simp only [List.map_toArray, List.map_cons, List.map_nil]); first | done | rfl | (simp only [List.length_drop, List.length_take]; rfl)) ?_; (with_reducible refine (lexs_peek.calls g s0_0 s0_1 t108 true t110 w0 _ ?side1 ?side2 A3.out).mono ?_); (case side1 => repeat (first | (with_reducible first | exact HI0.out | apply LexS.alloc | apply LexS.drewN | apply LexS.drew | apply LexS.set_1) | exact HI0.out)); (case side2 => repeat (first | (with_reducible first | exact HB.out | apply below_alloc | apply pw_below_drewN | apply below_drew1 | refine below_set ?_ (LexS.ge HI0.out)) | exact HB.out)); rintro e w7 ⟨rfl, hi, hb, hk⟩; refine ⟨_, rfl, ?_⟩; have n0_ := Aside0.mk (KeepBut.trans (by repeat (first | (with_reducible first | exact HK.out | apply KeepBut.set_ | apply keep_drewN | apply keep_drew | apply keep_alloc) | exact HK.out)) hk (.inl rfl)); have n1_ := Aside0.mk (hb); have n2_ := Aside0.mk (hi); clear HK; clear HB; clear HI0; have HK := n0_; have HB := n1_; have HI0 := n2_; clear n0_ n1_ n2_; (try clear hb); (try clear hb2); (try clear hk); (try clear hi)) | (go_at_call 25; (with_reducible refine (lex_one.calls k t108 _ _ l1 true _ ?side1 ?side2 A5.out).mono ?_); (case side1 => exact Kd.C_keep 0 HR1.out (by repeat (first | (with_reducible first | exact HK.out | apply KeepBut.set_ | apply keep_drewN | apply keep_drew | apply keep_alloc) | exact HK.out)) hf1); (case side2 => exact HC1.out); rintro e w' ⟨rfl, ⟨nd, rfl⟩⟩; (try (rw [drewN_self w7]; generalize hq_ : World.drewN w7 _ = w7; have n0_ : Aside0 (LexS w0 w7 g s0_0 t110) := ⟨by rw [← hq_]; exact (by repeat (first | (with_reducible first | exact HI0.out | apply LexS.alloc | apply LexS.drewN | apply LexS.drew | apply LexS.set_1) | exact HI0.out))⟩; have n1_ : Aside0 (KeepBut w w7 g none) := ⟨by rw [← hq_]; exact (by repeat (first | (with_reducible first | exact HK.out | apply KeepBut.set_ | apply keep_drewN | apply keep_drew | apply keep_alloc) | exact HK.out))⟩; have n2_ : Aside0 (Below w0.heap.size w0 w7) := ⟨by rw [← hq_]; exact (by repeat (first | (with_reducible first | exact HB.out | apply below_alloc | apply pw_below_drewN | apply below_drew1 | refine below_set ?_ (LexS.ge HI0.out)) | exact HB.out))⟩; clear HI0 HK HB hq_; have HI0 := n0_; have HK := n1_; have HB := n2_; clear n0_ n1_ n2_)); obtain ⟨ASz8_0, cSz8_0, HGz8, hgz8, HSz8_0, _⟩ := HI0.out; have hcz8_0 := cellLexS_0 HGz8; have hcz8_1 := cellLexS_1 HGz8; have hfz8_1 := blk_frozen HGz8 1; clear HGz8 hgz8))
      go_ret
      exact ⟨by first | rfl | (simp [errW_none, errW_some] <;> rfl) | (simp [*, errW_none, errW_some] <;> rfl), by repeat (first | (with_reducible first | exact HI0.out | apply LexS.alloc | apply LexS.drewN | apply LexS.drew | apply LexS.set_1) | exact HI0.out), by repeat (first | (with_reducible first | exact HB.out | apply below_alloc | apply pw_below_drewN | apply below_drew1 | refine below_set ?_ (LexS.ge HI0.out)) | exact HB.out), by repeat (first | (with_reducible first | exact HK.out | apply KeepBut.set_ | apply keep_drewN | apply keep_drew | apply keep_alloc) | exact HK.out)⟩
    · replace c6 := Bool.eq_false_iff.mpr c6
      subst c6
      have H1 : (some (false, t110)) = some (r1, r2) := by rw [if_neg (show ¬ (false = true) by decide)] at H; exact H
      clear H
      have H := H1
      clear H1
      simp only [Option.some.injEq, Prod.mk.injEq] at H
      obtain ⟨rfl, rfl⟩ := H
      go_enter Tryd.func45, Tryd.ntmps45
      go_wp2_with (first | ((with_reducible refine gate_callee (f := 28) rfl ?_); refine goesL_ (some 9) rfl rfl Tryd.func28 (by kernel_rfl) rfl #[.pointer (some ⟨g, 0, none⟩)] rfl (by (try simp only [List.map_toArray, List.map_cons, List.map_nil]); first | done | rfl | (simp only [List.length_drop, List.length_take]; rfl)) ?_; (with_reducible refine (lexs_peek.calls g s0_0 s0_1 t108 true t110 w0 _ ?side1 ?side2 A3.out).mono ?_); (case side1 => repeat (first | (with_reducible first | exact HI0.out | apply LexS.alloc | apply LexS.drewN | apply LexS.drew | apply LexS.set_1) | exact HI0.out)); (case side2 => repeat (first | (with_reducible first | exact HB.out | apply below_alloc | apply pw_below_drewN | apply below_drew1 | refine below_set ?_ (LexS.ge HI0.out)) | exact HB.out)); rintro e w9 ⟨rfl, hi, hb, hk⟩; refine ⟨_, rfl, ?_⟩; have n0_ := Aside0.mk (KeepBut.trans (by repeat (first | (with_reducible first | exact HK.out | apply KeepBut.set_ | apply keep_drewN | apply keep_drew | apply keep_alloc) | exact HK.out)) hk (.inl rfl)); have n1_ := Aside0.mk (hb); have n2_ := Aside0.mk (hi); clear HK; clear HB; clear HI0; have HK := n0_; have HB := n1_; have HI0 := n2_; clear n0_ n1_ n2_; (try clear hb); (try clear hb2); (try clear hk); (try clear hi)) | (go_at_call 25; (with_reducible refine (lex_one.calls k t108 _ _ l1 false _ ?side1 ?side2 A5.out).mono ?_); (case side1 => exact Kd.C_keep 0 HR1.out (by repeat (first | (with_reducible first | exact HK.out | apply KeepBut.set_ | apply keep_drewN | apply keep_drew | apply keep_alloc) | exact HK.out)) hf1); (case side2 => exact HC1.out); rintro e w' ⟨rfl, ⟨nd, rfl⟩⟩))
      go_ret
      exact ⟨by first | rfl | (simp [errW_none, errW_some] <;> rfl) | (simp [*, errW_none, errW_some] <;> rfl), by repeat (first | (with_reducible first | exact HI0.out | apply LexS.alloc | apply LexS.drewN | apply LexS.drew | apply LexS.set_1) | exact HI0.out), by repeat (first | (with_reducible first | exact HB.out | apply below_alloc | apply pw_below_drewN | apply below_drew1 | refine below_set ?_ (LexS.ge HI0.out)) | exact HB.out), by repeat (first | (with_reducible first | exact HK.out | apply KeepBut.set_ | apply keep_drewN | apply keep_drew | apply keep_alloc) | exact HK.out)⟩
  · replace c4 := Bool.eq_false_iff.mpr c4
    subst c4
    have H1 : (some (false, t110)) = some (r1, r2) := by rw [if_neg (show ¬ (false = true) by decide)] at H; exact H
    clear H
    have H := H1
    clear H1
    simp only [Option.some.injEq, Prod.mk.injEq] at H
    obtain ⟨rfl, rfl⟩ := H
    go_enter Tryd.func45, Tryd.ntmps45
    go_wp2_with (first | ((with_reducible refine gate_callee (f := 28) rfl ?_); refine goesL_ (some 9) rfl rfl Tryd.func28 (by kernel_rfl) rfl #[.pointer (some ⟨g, 0, none⟩)] rfl (by (try simp only [List.map_toArray, List.map_cons, List.map_nil]); first | done | rfl | (simp only [List.length_drop, List.length_take]; rfl)) ?_; (with_reducible refine (lexs_peek.calls g s0_0 s0_1 t108 false t110 w0 _ ?side1 ?side2 A3.out).mono ?_); (case side1 => repeat (first | (with_reducible first | exact HI0.out | apply LexS.alloc | apply LexS.drewN | apply LexS.drew | apply LexS.set_1) | exact HI0.out)); (case side2 => repeat (first | (with_reducible first | exact HB.out | apply below_alloc | apply pw_below_drewN | apply below_drew1 | refine below_set ?_ (LexS.ge HI0.out)) | exact HB.out)); rintro e w10 ⟨rfl, hi, hb, hk⟩; refine ⟨_, rfl, ?_⟩; have n0_ := Aside0.mk (KeepBut.trans (by repeat (first | (with_reducible first | exact HK.out | apply KeepBut.set_ | apply keep_drewN | apply keep_drew | apply keep_alloc) | exact HK.out)) hk (.inl rfl)); have n1_ := Aside0.mk (hb); have n2_ := Aside0.mk (hi); clear HK; clear HB; clear HI0; have HK := n0_; have HB := n1_; have HI0 := n2_; clear n0_ n1_ n2_; (try clear hb); (try clear hb2); (try clear hk); (try clear hi)))
    go_ret
    exact ⟨by first | rfl | (simp [errW_none, errW_some] <;> rfl) | (simp [*, errW_none, errW_some] <;> rfl), by repeat (first | (with_reducible first | exact HI0.out | apply LexS.alloc | apply LexS.drewN | apply LexS.drew | apply LexS.set_1) | exact HI0.out), by repeat (first | (with_reducible first | exact HB.out | apply below_alloc | apply pw_below_drewN | apply below_drew1 | refine below_set ?_ (LexS.ge HI0.out)) | exact HB.out), by repeat (first | (with_reducible first | exact HK.out | apply KeepBut.set_ | apply keep_drewN | apply keep_drew | apply keep_alloc) | exact HK.out)⟩


-- GIVEN plain making
/-- The error 'v' of W: none: nil; some L: a *bad of length L. -/
def BadE (W : World) (v : Value) : Option Int → Prop
  | none => v = .nilIface
  | some L => ∃ p, v = .iface 52 (.pointer (some ⟨p, 0, none⟩)) ∧ W.heap[p]? = some (.cells #[.int .i64 L] 56 (0, 0))
theorem BadE.below {W W1 : World} {v : Value} {r : Option Int} (h : BadE W v r) (hb : Below W.heap.size W W1) : BadE W1 v r := by
  cases r with
  | none => exact h
  | some L => obtain ⟨p, e, hp⟩ := h; exact ⟨p, e, blk_grown hp (grown_of_below hb none) (by simp)⟩
theorem BadE.keep {w0 W W1 : World} {v : Value} {r : Option Int} {g : Nat} {b : List Int} {at_ : Int} (h : BadE W v r) (hI : LexS w0 W g b at_) (hk : KeepBut W W1 g none) : BadE W1 v r := by
  cases r with
  | none => exact h
  | some L => obtain ⟨p, e, hp⟩ := h; exact ⟨p, e, hk.blk hp (Ne.symm (hI.ne_blk hp (by decide))) (by simp)⟩
theorem keep_from {w W W1 : World} {g : Nat} (h : KeepBut w W g none) (k : KeepBut W W1 g none) : KeepBut w W1 g none := h.trans k (.inl rfl)
set_option maxHeartbeats 4000000 in
set_option maxRecDepth 100000 in
theorem lex_scanner_fail.calls (g : Nat) (b : List Int) (p : Nat) (hp : p < 9223372036854775807) (w0 w : World) (hI : LexS w0 w g b p) (hB : Below w0.heap.size w0 w) :
    Calls Tryd.prog 33 #[.pointer (some ⟨g, 0, none⟩)] w fun e w' => ∃ v, e = .returned v ∧ BadE w' v (some ((p + 1 : Nat) : Int)) ∧ LexS w0 w' g b p ∧ Below w0.heap.size w0 w' ∧ KeepBut w w' g none := by
  have HI := Aside0.mk hI
  have HK := Aside0.mk (KeepBut.refl w g none)
  have HB := Aside0.mk hB
  clear hI hB
  obtain ⟨A0, c0, HG, hg, HS, hcp⟩ := HI.out
  have hc0 := cellLexS_0 HG
  have hc1 := cellLexS_1 HG
  clear HG hg HS
  have hw : wrap64 ((p : Int) + 1) = ((p + 1 : Nat) : Int) := by unfold wrap64; omega
  go_enter Tryd.func33, Tryd.ntmps33
  go_wp2
  go_ret
  exact ⟨_, rfl, ⟨_, rfl, by first | (simpa using heap_alloc_new w _) | (rw [← hw]; simpa using heap_alloc_new w _)⟩, HI.out.alloc _, below_alloc HB.out _, keep_alloc HK.out _⟩

-- GIVEN plain making
theorem LexT.lit (W : World) (k : IntKind) (xs : List Int) (e : TypeId) (n : Nat) (hn : n = W.heap.size) (hx : xs.length ≤ 9223372036854775807) : Kd.C (Kd.int k) (W.alloc (.cells (xs.map (Value.int k)).toArray e)) (some ⟨n, 0, none⟩) xs.length xs := by
  subst hn
  refine Kd.C_of_reads (d := (0 : Int)) (h1 := fun _ => rfl) ⟨rfl, hx, fun _ => ⟨_, rfl, fun j hj => ?_⟩⟩
  rw [add_plain]
  have h1 : (W.alloc (.cells (xs.map (Value.int k)).toArray e)).heap[W.heap.size]? = some (.cells (xs.map (Value.int k)).toArray e) := by
    show (W.heap.push _)[W.heap.size]? = _
    simp
  unfold World.cell?
  rw [h1]
  simp [List.getElem?_eq_getElem hj]
theorem LexT.digit (c : Int) (W : World) : Calls Tryd.prog 30 #[.int .u8 c] W fun e W' => e = .returned (.bool (LexW.digit c)) ∧ Below W.heap.size W W' := by
  refine (lex_digit.calls c _ W (show lex_digit.f c = some (LexW.digit c) from ?_)).mono ?_
  · unfold lex_digit.f LexW.digit
    by_cases h : 48 ≤ c
    · rw [if_pos h, decide_eq_true h]; rfl
    · rw [if_neg h, decide_eq_false h]; rfl
  · rintro e w1 ⟨rfl, hd⟩
    exact ⟨rfl, hd.below⟩
set_option maxHeartbeats 4000000 in
set_option maxRecDepth 100000 in
theorem LexT.eq (c x : Int) (a : Addr) (W : World) (h : W.cell? a = some (.int .u8 c)) : Calls Tryd.prog 44 #[.int .u8 x, .pointer (some a)] W fun e W' => e = .returned (.bool (x == c)) ∧ Below W.heap.size W W' := by
  go_enter Tryd.func44, Tryd.ntmps44
  go_wp2
  go_ret
  exact ⟨rfl, Below.refl _ _⟩
theorem LexW.peek_f (b : List Int) (p : Nat) : lex_scanner_peek.f b p = some (if p < b.length then LexW.at_ b p else 0, decide (p < b.length), (p : Int)) := by
  unfold lex_scanner_peek.f
  by_cases h : p < b.length
  · rw [if_pos (by omega), if_pos (by omega), if_pos h, decide_eq_true h]; unfold rd LexW.at_; rw [Int.toNat_natCast]
  · rw [if_neg (by omega), if_neg h, decide_eq_false h]
set_option maxHeartbeats 4000000 in
set_option maxRecDepth 100000 in
theorem lex_scanner_must.calls_digit (g : Nat) (b : List Int) (p : Nat) (w0 w : World) (hI : LexS w0 w g b p) (hB : Below w0.heap.size w0 w) (hpl : p ≤ b.length) (hm : b.length < 9223372036854775807) :
    Calls Tryd.prog 43 #[.pointer (some ⟨g, 0, none⟩), .func (.func 30) #[] #[]] w fun e w' => ∃ v, e = .returned v ∧ BadE w' v (((LexW.must LexW.digit b p).1).map fun (n : Nat) => (n : Int)) ∧ LexS w0 w' g b (LexW.must LexW.digit b p).2 ∧ Below w0.heap.size w0 w' ∧ KeepBut w w' g none := by
  have HI := Aside0.mk hI
  have HK := Aside0.mk (KeepBut.refl w g none)
  have HB := Aside0.mk hB
  clear hI hB
  have hpk := LexW.peek_f b p
  by_cases hp : p < b.length
  · rw [if_pos hp, decide_eq_true hp] at hpk
    have HPK := Aside0.mk hpk
    clear hpk
    by_cases ht : LexW.digit (LexW.at_ b p) = true
    · rw [show LexW.must LexW.digit b p = (none, p + 1) by unfold LexW.must; rw [if_pos hp, if_pos ht]]
      go_enter Tryd.func43, Tryd.ntmps43
      go_wp2_with (first | (go_at_call 28; (with_reducible refine (lexs_peek.calls g b p _ _ _ w0 _ HI.out HB.out HPK.out).mono ?_); rintro e w1 ⟨rfl, hi, hb, hk⟩; have n0_ := Aside0.mk (keep_from HK.out hk); have n1_ := Aside0.mk hb; have n2_ := Aside0.mk hi; clear HK HB HI hi hb hk; have HK := n0_; have HB := n1_; have HI := n2_; clear n0_ n1_ n2_) | (go_at_call 30; (with_reducible refine (LexT.digit (LexW.at_ b p) _).mono ?_); rintro e w1 ⟨rfl, hb⟩; rw [ht]; have n0_ := Aside0.mk (keep_from HK.out (KeepBut.of_below hb g none)); have n1_ := Aside0.mk (below_step HB.out hb); have n2_ := Aside0.mk (HI.out.below hb); clear HK HB HI hb; have HK := n0_; have HB := n1_; have HI := n2_; clear n0_ n1_ n2_; obtain ⟨A0, c0, HG, hg, HS, hcp⟩ := HI.out; have hc0 := cellLexS_0 HG; have hc1 := cellLexS_1 HG; have hf1 := blk_frozen HG 1; have hge := Aside0.mk hg; have HSA := Aside0.mk HS; clear HG hg HS))
      go_ret
      exact ⟨_, rfl, rfl, by first | exact HI.out.set_1 _ | exact (HI.out.set_1 _), below_set HB.out HI.out.ge, HK.out.set_ _ _⟩
    · rw [show LexW.must LexW.digit b p = (some (p + 1), p) by unfold LexW.must; rw [if_pos hp, if_neg ht]]
      replace ht := Bool.eq_false_iff.mpr ht
      go_enter Tryd.func43, Tryd.ntmps43
      go_wp2_with (first | (go_at_call 28; (with_reducible refine (lexs_peek.calls g b p _ _ _ w0 _ HI.out HB.out HPK.out).mono ?_); rintro e w1 ⟨rfl, hi, hb, hk⟩; have n0_ := Aside0.mk (keep_from HK.out hk); have n1_ := Aside0.mk hb; have n2_ := Aside0.mk hi; clear HK HB HI hi hb hk; have HK := n0_; have HB := n1_; have HI := n2_; clear n0_ n1_ n2_) | (go_at_call 30; (with_reducible refine (LexT.digit (LexW.at_ b p) _).mono ?_); rintro e w1 ⟨rfl, hb⟩; rw [ht]; have n0_ := Aside0.mk (keep_from HK.out (KeepBut.of_below hb g none)); have n1_ := Aside0.mk (below_step HB.out hb); have n2_ := Aside0.mk (HI.out.below hb); clear HK HB HI hb; have HK := n0_; have HB := n1_; have HI := n2_; clear n0_ n1_ n2_) | (go_at_call 33; (with_reducible refine (lex_scanner_fail.calls g b p (by omega) w0 _ HI.out HB.out).mono ?_); rintro e w1 ⟨v1, rfl, he, hi, hb, hk⟩; have HE := Aside0.mk he; clear he; have n0_ := Aside0.mk (keep_from HK.out hk); have n1_ := Aside0.mk hb; have n2_ := Aside0.mk hi; clear HK HB HI hi hb hk; have HK := n0_; have HB := n1_; have HI := n2_; clear n0_ n1_ n2_))
      go_ret
      exact ⟨_, rfl, HE.out, HI.out, HB.out, HK.out⟩
  · rw [if_neg hp, decide_eq_false hp] at hpk
    have HPK := Aside0.mk hpk
    clear hpk
    rw [show LexW.must LexW.digit b p = (some (p + 1), p) by unfold LexW.must; rw [if_neg hp]]
    go_enter Tryd.func43, Tryd.ntmps43
    go_wp2_with (first | (go_at_call 28; (with_reducible refine (lexs_peek.calls g b p _ _ _ w0 _ HI.out HB.out HPK.out).mono ?_); rintro e w1 ⟨rfl, hi, hb, hk⟩; have n0_ := Aside0.mk (keep_from HK.out hk); have n1_ := Aside0.mk hb; have n2_ := Aside0.mk hi; clear HK HB HI hi hb hk; have HK := n0_; have HB := n1_; have HI := n2_; clear n0_ n1_ n2_) | (go_at_call 33; (with_reducible refine (lex_scanner_fail.calls g b p (by omega) w0 _ HI.out HB.out).mono ?_); rintro e w1 ⟨v1, rfl, he, hi, hb, hk⟩; have HE := Aside0.mk he; clear he; have n0_ := Aside0.mk (keep_from HK.out hk); have n1_ := Aside0.mk hb; have n2_ := Aside0.mk hi; clear HK HB HI hi hb hk; have HK := n0_; have HB := n1_; have HI := n2_; clear n0_ n1_ n2_))
    go_ret
    exact ⟨_, rfl, HE.out, HI.out, HB.out, HK.out⟩
set_option maxHeartbeats 4000000 in
set_option maxRecDepth 100000 in
theorem lex_scanner_must.calls_eq (g : Nat) (b : List Int) (p : Nat) (c : Int) (a : Addr) (w0 w : World) (ha : w.cell? a = some (.int .u8 c)) (hne : a.block ≠ g) (hI : LexS w0 w g b p) (hB : Below w0.heap.size w0 w) (hpl : p ≤ b.length) (hm : b.length < 9223372036854775807) :
    Calls Tryd.prog 43 #[.pointer (some ⟨g, 0, none⟩), .func (.func 44) #[] #[.pointer (some a)]] w fun e w' => ∃ v, e = .returned v ∧ BadE w' v (((LexW.must (fun x => x == c) b p).1).map fun (n : Nat) => (n : Int)) ∧ LexS w0 w' g b (LexW.must (fun x => x == c) b p).2 ∧ Below w0.heap.size w0 w' ∧ KeepBut w w' g none := by
  have HI := Aside0.mk hI
  have HK := Aside0.mk (KeepBut.refl w g none)
  have HB := Aside0.mk hB
  clear hI hB
  have hpk := LexW.peek_f b p
  by_cases hp : p < b.length
  · rw [if_pos hp, decide_eq_true hp] at hpk
    have HPK := Aside0.mk hpk
    clear hpk
    by_cases ht : (fun x => x == c) (LexW.at_ b p) = true
    · rw [show LexW.must (fun x => x == c) b p = (none, p + 1) by unfold LexW.must; rw [if_pos hp, if_pos ht]]
      go_enter Tryd.func43, Tryd.ntmps43
      go_wp2_with (first | (go_at_call 28; (with_reducible refine (lexs_peek.calls g b p _ _ _ w0 _ HI.out HB.out HPK.out).mono ?_); rintro e w1 ⟨rfl, hi, hb, hk⟩; have n0_ := Aside0.mk (keep_from HK.out hk); have n1_ := Aside0.mk hb; have n2_ := Aside0.mk hi; clear HK HB HI hi hb hk; have HK := n0_; have HB := n1_; have HI := n2_; clear n0_ n1_ n2_) | (go_at_call 44; (with_reducible refine (LexT.eq c (LexW.at_ b p) a _ (keep_cell HK.out ha hne)).mono ?_); rintro e w1 ⟨rfl, hb⟩; rw [ht]; have n0_ := Aside0.mk (keep_from HK.out (KeepBut.of_below hb g none)); have n1_ := Aside0.mk (below_step HB.out hb); have n2_ := Aside0.mk (HI.out.below hb); clear HK HB HI hb; have HK := n0_; have HB := n1_; have HI := n2_; clear n0_ n1_ n2_; obtain ⟨A0, c0, HG, hg, HS, hcp⟩ := HI.out; have hc0 := cellLexS_0 HG; have hc1 := cellLexS_1 HG; have hf1 := blk_frozen HG 1; have hge := Aside0.mk hg; have HSA := Aside0.mk HS; clear HG hg HS))
      go_ret
      exact ⟨_, rfl, rfl, by first | exact HI.out.set_1 _ | exact (HI.out.set_1 _), below_set HB.out HI.out.ge, HK.out.set_ _ _⟩
    · rw [show LexW.must (fun x => x == c) b p = (some (p + 1), p) by unfold LexW.must; rw [if_pos hp, if_neg ht]]
      replace ht := Bool.eq_false_iff.mpr ht
      go_enter Tryd.func43, Tryd.ntmps43
      go_wp2_with (first | (go_at_call 28; (with_reducible refine (lexs_peek.calls g b p _ _ _ w0 _ HI.out HB.out HPK.out).mono ?_); rintro e w1 ⟨rfl, hi, hb, hk⟩; have n0_ := Aside0.mk (keep_from HK.out hk); have n1_ := Aside0.mk hb; have n2_ := Aside0.mk hi; clear HK HB HI hi hb hk; have HK := n0_; have HB := n1_; have HI := n2_; clear n0_ n1_ n2_) | (go_at_call 44; (with_reducible refine (LexT.eq c (LexW.at_ b p) a _ (keep_cell HK.out ha hne)).mono ?_); rintro e w1 ⟨rfl, hb⟩; rw [ht]; have n0_ := Aside0.mk (keep_from HK.out (KeepBut.of_below hb g none)); have n1_ := Aside0.mk (below_step HB.out hb); have n2_ := Aside0.mk (HI.out.below hb); clear HK HB HI hb; have HK := n0_; have HB := n1_; have HI := n2_; clear n0_ n1_ n2_) | (go_at_call 33; (with_reducible refine (lex_scanner_fail.calls g b p (by omega) w0 _ HI.out HB.out).mono ?_); rintro e w1 ⟨v1, rfl, he, hi, hb, hk⟩; have HE := Aside0.mk he; clear he; have n0_ := Aside0.mk (keep_from HK.out hk); have n1_ := Aside0.mk hb; have n2_ := Aside0.mk hi; clear HK HB HI hi hb hk; have HK := n0_; have HB := n1_; have HI := n2_; clear n0_ n1_ n2_))
      go_ret
      exact ⟨_, rfl, HE.out, HI.out, HB.out, HK.out⟩
  · rw [if_neg hp, decide_eq_false hp] at hpk
    have HPK := Aside0.mk hpk
    clear hpk
    rw [show LexW.must (fun x => x == c) b p = (some (p + 1), p) by unfold LexW.must; rw [if_neg hp]]
    go_enter Tryd.func43, Tryd.ntmps43
    go_wp2_with (first | (go_at_call 28; (with_reducible refine (lexs_peek.calls g b p _ _ _ w0 _ HI.out HB.out HPK.out).mono ?_); rintro e w1 ⟨rfl, hi, hb, hk⟩; have n0_ := Aside0.mk (keep_from HK.out hk); have n1_ := Aside0.mk hb; have n2_ := Aside0.mk hi; clear HK HB HI hi hb hk; have HK := n0_; have HB := n1_; have HI := n2_; clear n0_ n1_ n2_) | (go_at_call 33; (with_reducible refine (lex_scanner_fail.calls g b p (by omega) w0 _ HI.out HB.out).mono ?_); rintro e w1 ⟨v1, rfl, he, hi, hb, hk⟩; have HE := Aside0.mk he; clear he; have n0_ := Aside0.mk (keep_from HK.out hk); have n1_ := Aside0.mk hb; have n2_ := Aside0.mk hi; clear HK HB HI hi hb hk; have HK := n0_; have HB := n1_; have HI := n2_; clear n0_ n1_ n2_))
    go_ret
    exact ⟨_, rfl, HE.out, HI.out, HB.out, HK.out⟩

-- GIVEN plain making
theorem LexT.blank (c : Int) (W : World) : Calls Tryd.prog 14 #[.int .u8 c] W fun e W' => e = .returned (.bool (LexW.blank c)) ∧ Below W.heap.size W W' := by
  refine (lex_Blank.calls 6 c _ W (show lex_Blank.f 6 c = some (LexW.blank c) from ?_)).mono ?_
  · unfold lex_Blank.f lex_one.f LexW.blank
    by_cases h1 : c = 9
    · subst h1; simp [lex_one.l0, rd, wrap64]
    · by_cases h2 : c = 10
      · subst h2; simp [lex_one.l0, rd, wrap64]
      · by_cases h3 : c = 13
        · subst h3; simp [lex_one.l0, rd, wrap64]
        · by_cases h4 : c = 32
          · subst h4; simp [lex_one.l0, rd, wrap64]
          · have e1 : (c == 9) = false := by simp [h1]
            have e2 : (c == 10) = false := by simp [h2]
            have e3 : (c == 13) = false := by simp [h3]
            have e4 : (c == 32) = false := by simp [h4]
            rw [e1, e2, e3, e4]
            simp [lex_one.l0, rd, wrap64, Ne.symm h1, Ne.symm h2, Ne.symm h3, Ne.symm h4]
  · rintro e w1 ⟨rfl, hd⟩
    exact ⟨rfl, hd⟩
set_option maxHeartbeats 4000000 in
set_option maxRecDepth 100000 in
theorem LexT.plain (c : Int) (W : World) : Calls Tryd.prog 47 #[.int .u8 c] W fun e W' => e = .returned (.bool (LexW.plain c)) ∧ Below W.heap.size W W' := by
  unfold LexW.plain
  by_cases h1 : 32 ≤ c
  · by_cases h2 : c = 34
    · subst h2
      go_enter Tryd.func47, Tryd.ntmps47
      go_wp2
      go_ret
      exact ⟨rfl, Below.refl _ _⟩
    · have b1 : decide (32 ≤ c) = true := decide_eq_true h1
      have b2 : (c != 34) = true := by simp [h2]
      rw [b1, b2]
      by_cases h3 : c = 92
      · subst h3
        go_enter Tryd.func47, Tryd.ntmps47
        go_wp2
        go_ret
        exact ⟨rfl, Below.refl _ _⟩
      · have b3 : (c != 92) = true := by simp [h3]
        rw [b3]
        go_enter Tryd.func47, Tryd.ntmps47
        go_wp2
        go_ret
        exact ⟨rfl, Below.refl _ _⟩
  · have b1 : decide (32 ≤ c) = false := decide_eq_false h1
    rw [b1]
    go_enter Tryd.func47, Tryd.ntmps47
    go_wp2
    go_ret
    exact ⟨rfl, Below.refl _ _⟩
set_option maxHeartbeats 4000000 in
set_option maxRecDepth 100000 in
theorem lex_scanner_pass.calls_digit (g : Nat) (b : List Int) (p0 : Nat) (w0 w : World) (hI : LexS w0 w g b p0) (hB : Below w0.heap.size w0 w) (hpl : p0 ≤ b.length) (hm : b.length < 9223372036854775807) :
    Calls Tryd.prog 27 #[.pointer (some ⟨g, 0, none⟩), .func (.func 30) #[] #[]] w fun e w' => e = .returned (.tuple #[]) ∧ LexS w0 w' g b (LexW.pass LexW.digit b p0) ∧ Below w0.heap.size w0 w' ∧ KeepBut w w' g none := by
  have HI0 := Aside0.mk hI
  have HB0 := Aside0.mk hB
  clear hI hB
  go_enter Tryd.func27, Tryd.ntmps27
  go_wp2
  go_loopg [] (b.length - p0) (fun kq wr => ∃ p : Nat, Aside0 (LexW.pass LexW.digit b p = LexW.pass LexW.digit b p0) ∧ p ≤ b.length ∧ kq = b.length - p ∧ Aside0 (LexS w0 wr g b p) ∧ Aside0 (Below w0.heap.size w0 wr) ∧ Aside0 (KeepBut w wr g none))
  case atStart => exact ⟨p0, ⟨rfl⟩, hpl, rfl, HI0, HB0, ⟨KeepBut.refl _ _ _⟩⟩
  case round =>
    clear HI0 HB0
    obtain ⟨p, HP, hp1, hk1, HI, HB, HK⟩ := hrel
    obtain ⟨A0, c0, HG, hg, HS, hcp⟩ := HI.out
    have hc0 := cellLexS_0 HG
    have hc1 := cellLexS_1 HG
    have HSA := Aside0.mk HS
    clear HG hg HS
    by_cases hp : p < b.length
    · obtain ⟨ad, e1, hx⟩ := Kd.at_int HSA.out (p : Int) (by omega) (by omega)
      cases e1
      replace hx := pw_cell_below HB.out hx
      rw [show rd b (p : Int) = LexW.at_ b p by unfold rd LexW.at_; rw [Int.toNat_natCast]] at hx
      rw [Int.toNat_natCast] at hx
      by_cases ht : LexW.digit (LexW.at_ b p) = true
      · have HP2 := Aside0.mk (show LexW.pass LexW.digit b (p + 1) = LexW.pass LexW.digit b p0 by rw [← HP.out]; conv => rhs; rw [LexW.pass, if_pos hp, if_pos ht])
        clear HP
        go_wp2
        go_still_tail 22, (by kernel_rfl)
        change wpList _ _ _ _ _ wr.drew
        clear hc0 hc1 hx
        have n0_ := Aside0.mk (keep_drew HK.out)
        have n1_ := Aside0.mk (below_drew1 HB.out)
        have n2_ := Aside0.mk (LexS.drew HI.out)
        clear HK HB HI
        have HK := n0_
        have HB := n1_
        have HI := n2_
        clear n0_ n1_ n2_
        generalize wr.drew = w2 at HK HB HI ⊢
        go_wp2_with (first | (go_at_call 30; (with_reducible refine (LexT.digit (LexW.at_ b p) _).mono ?_); rintro e w1 ⟨rfl, hb⟩; rw [ht]; have n0_ := Aside0.mk (keep_from HK.out (KeepBut.of_below hb g none)); have n1_ := Aside0.mk (below_step HB.out hb); have n2_ := Aside0.mk (HI.out.below hb); clear HK HB HI hb; have HK := n0_; have HB := n1_; have HI := n2_; clear n0_ n1_ n2_; obtain ⟨A1, c1, HG1, hg1, HS1, hcp1⟩ := HI.out; have hd1 := cellLexS_1 HG1; have hf2 := blk_frozen HG1 1; clear HG1 hg1 HS1))
        go_roundg (b.length - (p + 1))
        case measure => omega
        case rel => exact ⟨p + 1, HP2, by omega, rfl, ⟨HI.out.set_1 _⟩, ⟨below_set HB.out HI.out.ge⟩, ⟨HK.out.set_ _ _⟩⟩
      · have HP2 := Aside0.mk (show p = LexW.pass LexW.digit b p0 by rw [← HP.out, LexW.pass, if_pos hp, if_neg ht])
        clear HP
        replace ht := Bool.eq_false_iff.mpr ht
        go_wp2
        go_still_tail 22, (by kernel_rfl)
        change wpList _ _ _ _ _ wr.drew
        clear hc0 hc1 hx
        have n0_ := Aside0.mk (keep_drew HK.out)
        have n1_ := Aside0.mk (below_drew1 HB.out)
        have n2_ := Aside0.mk (LexS.drew HI.out)
        clear HK HB HI
        have HK := n0_
        have HB := n1_
        have HI := n2_
        clear n0_ n1_ n2_
        generalize wr.drew = w2 at HK HB HI ⊢
        go_wp2_with (first | (go_at_call 30; (with_reducible refine (LexT.digit (LexW.at_ b p) _).mono ?_); rintro e w1 ⟨rfl, hb⟩; rw [ht]; have n0_ := Aside0.mk (keep_from HK.out (KeepBut.of_below hb g none)); have n1_ := Aside0.mk (below_step HB.out hb); have n2_ := Aside0.mk (HI.out.below hb); clear HK HB HI hb; have HK := n0_; have HB := n1_; have HI := n2_; clear n0_ n1_ n2_; obtain ⟨A1, c1, HG1, hg1, HS1, hcp1⟩ := HI.out; have hd1 := cellLexS_1 HG1; have hf2 := blk_frozen HG1 1; clear HG1 hg1 HS1))
        go_end0
        exact ⟨rfl, by rw [← HP2.out]; exact HI.out, HB.out, HK.out⟩
    · have HP2 := Aside0.mk (show p = LexW.pass LexW.digit b p0 by rw [← HP.out, LexW.pass, if_neg hp])
      clear HP
      obtain rfl : p = b.length := by omega
      clear hp hp1 hk1 hpl
      go_wp2
      go_quiet (fail)
      go_wp2
      go_end0
      exact ⟨rfl, by rw [← HP2.out]; exact LexS.drewN HI.out _, pw_below_drewN HB.out _, keep_drewN HK.out _⟩
set_option maxHeartbeats 4000000 in
set_option maxRecDepth 100000 in
theorem lex_scanner_pass.calls_blank (g : Nat) (b : List Int) (p0 : Nat) (w0 w : World) (hI : LexS w0 w g b p0) (hB : Below w0.heap.size w0 w) (hpl : p0 ≤ b.length) (hm : b.length < 9223372036854775807) :
    Calls Tryd.prog 27 #[.pointer (some ⟨g, 0, none⟩), .func (.func 14) #[] #[]] w fun e w' => e = .returned (.tuple #[]) ∧ LexS w0 w' g b (LexW.pass LexW.blank b p0) ∧ Below w0.heap.size w0 w' ∧ KeepBut w w' g none := by
  have HI0 := Aside0.mk hI
  have HB0 := Aside0.mk hB
  clear hI hB
  go_enter Tryd.func27, Tryd.ntmps27
  go_wp2
  go_loopg [] (b.length - p0) (fun kq wr => ∃ p : Nat, Aside0 (LexW.pass LexW.blank b p = LexW.pass LexW.blank b p0) ∧ p ≤ b.length ∧ kq = b.length - p ∧ Aside0 (LexS w0 wr g b p) ∧ Aside0 (Below w0.heap.size w0 wr) ∧ Aside0 (KeepBut w wr g none))
  case atStart => exact ⟨p0, ⟨rfl⟩, hpl, rfl, HI0, HB0, ⟨KeepBut.refl _ _ _⟩⟩
  case round =>
    clear HI0 HB0
    obtain ⟨p, HP, hp1, hk1, HI, HB, HK⟩ := hrel
    obtain ⟨A0, c0, HG, hg, HS, hcp⟩ := HI.out
    have hc0 := cellLexS_0 HG
    have hc1 := cellLexS_1 HG
    have HSA := Aside0.mk HS
    clear HG hg HS
    by_cases hp : p < b.length
    · obtain ⟨ad, e1, hx⟩ := Kd.at_int HSA.out (p : Int) (by omega) (by omega)
      cases e1
      replace hx := pw_cell_below HB.out hx
      rw [show rd b (p : Int) = LexW.at_ b p by unfold rd LexW.at_; rw [Int.toNat_natCast]] at hx
      rw [Int.toNat_natCast] at hx
      by_cases ht : LexW.blank (LexW.at_ b p) = true
      · have HP2 := Aside0.mk (show LexW.pass LexW.blank b (p + 1) = LexW.pass LexW.blank b p0 by rw [← HP.out]; conv => rhs; rw [LexW.pass, if_pos hp, if_pos ht])
        clear HP
        go_wp2
        go_still_tail 22, (by kernel_rfl)
        change wpList _ _ _ _ _ wr.drew
        clear hc0 hc1 hx
        have n0_ := Aside0.mk (keep_drew HK.out)
        have n1_ := Aside0.mk (below_drew1 HB.out)
        have n2_ := Aside0.mk (LexS.drew HI.out)
        clear HK HB HI
        have HK := n0_
        have HB := n1_
        have HI := n2_
        clear n0_ n1_ n2_
        generalize wr.drew = w2 at HK HB HI ⊢
        go_wp2_with (first | (go_at_call 14; (with_reducible refine (LexT.blank (LexW.at_ b p) _).mono ?_); rintro e w1 ⟨rfl, hb⟩; rw [ht]; have n0_ := Aside0.mk (keep_from HK.out (KeepBut.of_below hb g none)); have n1_ := Aside0.mk (below_step HB.out hb); have n2_ := Aside0.mk (HI.out.below hb); clear HK HB HI hb; have HK := n0_; have HB := n1_; have HI := n2_; clear n0_ n1_ n2_; obtain ⟨A1, c1, HG1, hg1, HS1, hcp1⟩ := HI.out; have hd1 := cellLexS_1 HG1; have hf2 := blk_frozen HG1 1; clear HG1 hg1 HS1))
        go_roundg (b.length - (p + 1))
        case measure => omega
        case rel => exact ⟨p + 1, HP2, by omega, rfl, ⟨HI.out.set_1 _⟩, ⟨below_set HB.out HI.out.ge⟩, ⟨HK.out.set_ _ _⟩⟩
      · have HP2 := Aside0.mk (show p = LexW.pass LexW.blank b p0 by rw [← HP.out, LexW.pass, if_pos hp, if_neg ht])
        clear HP
        replace ht := Bool.eq_false_iff.mpr ht
        go_wp2
        go_still_tail 22, (by kernel_rfl)
        change wpList _ _ _ _ _ wr.drew
        clear hc0 hc1 hx
        have n0_ := Aside0.mk (keep_drew HK.out)
        have n1_ := Aside0.mk (below_drew1 HB.out)
        have n2_ := Aside0.mk (LexS.drew HI.out)
        clear HK HB HI
        have HK := n0_
        have HB := n1_
        have HI := n2_
        clear n0_ n1_ n2_
        generalize wr.drew = w2 at HK HB HI ⊢
        go_wp2_with (first | (go_at_call 14; (with_reducible refine (LexT.blank (LexW.at_ b p) _).mono ?_); rintro e w1 ⟨rfl, hb⟩; rw [ht]; have n0_ := Aside0.mk (keep_from HK.out (KeepBut.of_below hb g none)); have n1_ := Aside0.mk (below_step HB.out hb); have n2_ := Aside0.mk (HI.out.below hb); clear HK HB HI hb; have HK := n0_; have HB := n1_; have HI := n2_; clear n0_ n1_ n2_; obtain ⟨A1, c1, HG1, hg1, HS1, hcp1⟩ := HI.out; have hd1 := cellLexS_1 HG1; have hf2 := blk_frozen HG1 1; clear HG1 hg1 HS1))
        go_end0
        exact ⟨rfl, by rw [← HP2.out]; exact HI.out, HB.out, HK.out⟩
    · have HP2 := Aside0.mk (show p = LexW.pass LexW.blank b p0 by rw [← HP.out, LexW.pass, if_neg hp])
      clear HP
      obtain rfl : p = b.length := by omega
      clear hp hp1 hk1 hpl
      go_wp2
      go_quiet (fail)
      go_wp2
      go_end0
      exact ⟨rfl, by rw [← HP2.out]; exact LexS.drewN HI.out _, pw_below_drewN HB.out _, keep_drewN HK.out _⟩
set_option maxHeartbeats 4000000 in
set_option maxRecDepth 100000 in
theorem lex_scanner_pass.calls_plain (g : Nat) (b : List Int) (p0 : Nat) (w0 w : World) (hI : LexS w0 w g b p0) (hB : Below w0.heap.size w0 w) (hpl : p0 ≤ b.length) (hm : b.length < 9223372036854775807) :
    Calls Tryd.prog 27 #[.pointer (some ⟨g, 0, none⟩), .func (.func 47) #[] #[]] w fun e w' => e = .returned (.tuple #[]) ∧ LexS w0 w' g b (LexW.pass LexW.plain b p0) ∧ Below w0.heap.size w0 w' ∧ KeepBut w w' g none := by
  have HI0 := Aside0.mk hI
  have HB0 := Aside0.mk hB
  clear hI hB
  go_enter Tryd.func27, Tryd.ntmps27
  go_wp2
  go_loopg [] (b.length - p0) (fun kq wr => ∃ p : Nat, Aside0 (LexW.pass LexW.plain b p = LexW.pass LexW.plain b p0) ∧ p ≤ b.length ∧ kq = b.length - p ∧ Aside0 (LexS w0 wr g b p) ∧ Aside0 (Below w0.heap.size w0 wr) ∧ Aside0 (KeepBut w wr g none))
  case atStart => exact ⟨p0, ⟨rfl⟩, hpl, rfl, HI0, HB0, ⟨KeepBut.refl _ _ _⟩⟩
  case round =>
    clear HI0 HB0
    obtain ⟨p, HP, hp1, hk1, HI, HB, HK⟩ := hrel
    obtain ⟨A0, c0, HG, hg, HS, hcp⟩ := HI.out
    have hc0 := cellLexS_0 HG
    have hc1 := cellLexS_1 HG
    have HSA := Aside0.mk HS
    clear HG hg HS
    by_cases hp : p < b.length
    · obtain ⟨ad, e1, hx⟩ := Kd.at_int HSA.out (p : Int) (by omega) (by omega)
      cases e1
      replace hx := pw_cell_below HB.out hx
      rw [show rd b (p : Int) = LexW.at_ b p by unfold rd LexW.at_; rw [Int.toNat_natCast]] at hx
      rw [Int.toNat_natCast] at hx
      by_cases ht : LexW.plain (LexW.at_ b p) = true
      · have HP2 := Aside0.mk (show LexW.pass LexW.plain b (p + 1) = LexW.pass LexW.plain b p0 by rw [← HP.out]; conv => rhs; rw [LexW.pass, if_pos hp, if_pos ht])
        clear HP
        go_wp2
        go_still_tail 22, (by kernel_rfl)
        change wpList _ _ _ _ _ wr.drew
        clear hc0 hc1 hx
        have n0_ := Aside0.mk (keep_drew HK.out)
        have n1_ := Aside0.mk (below_drew1 HB.out)
        have n2_ := Aside0.mk (LexS.drew HI.out)
        clear HK HB HI
        have HK := n0_
        have HB := n1_
        have HI := n2_
        clear n0_ n1_ n2_
        generalize wr.drew = w2 at HK HB HI ⊢
        go_wp2_with (first | (go_at_call 47; (with_reducible refine (LexT.plain (LexW.at_ b p) _).mono ?_); rintro e w1 ⟨rfl, hb⟩; rw [ht]; have n0_ := Aside0.mk (keep_from HK.out (KeepBut.of_below hb g none)); have n1_ := Aside0.mk (below_step HB.out hb); have n2_ := Aside0.mk (HI.out.below hb); clear HK HB HI hb; have HK := n0_; have HB := n1_; have HI := n2_; clear n0_ n1_ n2_; obtain ⟨A1, c1, HG1, hg1, HS1, hcp1⟩ := HI.out; have hd1 := cellLexS_1 HG1; have hf2 := blk_frozen HG1 1; clear HG1 hg1 HS1))
        go_roundg (b.length - (p + 1))
        case measure => omega
        case rel => exact ⟨p + 1, HP2, by omega, rfl, ⟨HI.out.set_1 _⟩, ⟨below_set HB.out HI.out.ge⟩, ⟨HK.out.set_ _ _⟩⟩
      · have HP2 := Aside0.mk (show p = LexW.pass LexW.plain b p0 by rw [← HP.out, LexW.pass, if_pos hp, if_neg ht])
        clear HP
        replace ht := Bool.eq_false_iff.mpr ht
        go_wp2
        go_still_tail 22, (by kernel_rfl)
        change wpList _ _ _ _ _ wr.drew
        clear hc0 hc1 hx
        have n0_ := Aside0.mk (keep_drew HK.out)
        have n1_ := Aside0.mk (below_drew1 HB.out)
        have n2_ := Aside0.mk (LexS.drew HI.out)
        clear HK HB HI
        have HK := n0_
        have HB := n1_
        have HI := n2_
        clear n0_ n1_ n2_
        generalize wr.drew = w2 at HK HB HI ⊢
        go_wp2_with (first | (go_at_call 47; (with_reducible refine (LexT.plain (LexW.at_ b p) _).mono ?_); rintro e w1 ⟨rfl, hb⟩; rw [ht]; have n0_ := Aside0.mk (keep_from HK.out (KeepBut.of_below hb g none)); have n1_ := Aside0.mk (below_step HB.out hb); have n2_ := Aside0.mk (HI.out.below hb); clear HK HB HI hb; have HK := n0_; have HB := n1_; have HI := n2_; clear n0_ n1_ n2_; obtain ⟨A1, c1, HG1, hg1, HS1, hcp1⟩ := HI.out; have hd1 := cellLexS_1 HG1; have hf2 := blk_frozen HG1 1; clear HG1 hg1 HS1))
        go_end0
        exact ⟨rfl, by rw [← HP2.out]; exact HI.out, HB.out, HK.out⟩
    · have HP2 := Aside0.mk (show p = LexW.pass LexW.plain b p0 by rw [← HP.out, LexW.pass, if_neg hp])
      clear HP
      obtain rfl : p = b.length := by omega
      clear hp hp1 hk1 hpl
      go_wp2
      go_quiet (fail)
      go_wp2
      go_end0
      exact ⟨rfl, by rw [← HP2.out]; exact LexS.drewN HI.out _, pw_below_drewN HB.out _, keep_drewN HK.out _⟩

-- GIVEN plain making
theorem LexW.must_le {T : Int → Bool} {b : List Int} {p q : Nat} {r : Option Nat} (h : LexW.must T b p = (r, q)) (hp : p ≤ b.length) : q ≤ b.length := by
  unfold LexW.must at h
  split at h
  · split at h <;> cases h <;> omega
  · cases h; exact hp
theorem LexW.digits_le {b : List Int} {p q : Nat} {r : Option Nat} (h : LexW.digits b p = (r, q)) (hp : p ≤ b.length) : q ≤ b.length := by
  unfold LexW.digits at h
  rcases hm : LexW.must LexW.digit b p with ⟨r1, q1⟩
  rw [hm] at h
  cases h
  exact LexW.pass_le _ _ _ _ rfl (LexW.must_le hm hp)
theorem LexW.may_le {of b : List Int} {p q : Nat} {m : Bool} (h : LexW.may of b p = (m, q)) (hp : p ≤ b.length) : q ≤ b.length := by
  unfold LexW.may at h
  split at h
  · split at h <;> cases h <;> omega
  · cases h; exact hp
set_option maxHeartbeats 4000000 in
set_option maxRecDepth 100000 in
theorem lex_scanner_digits.calls (g : Nat) (b : List Int) (p q : Nat) (r : Option Nat) (w0 w : World) (hI : LexS w0 w g b p) (hB : Below w0.heap.size w0 w) (hpl : p ≤ b.length) (hm : b.length < 9223372036854775807) (h : LexW.digits b p = (r, q)) :
    Calls Tryd.prog 46 #[.pointer (some ⟨g, 0, none⟩)] w fun e w' => ∃ v, e = .returned v ∧ BadE w' v (r.map fun (n : Nat) => (n : Int)) ∧ LexS w0 w' g b q ∧ Below w0.heap.size w0 w' ∧ KeepBut w w' g none := by
  have HI := Aside0.mk hI
  have HK := Aside0.mk (KeepBut.refl w g none)
  have HB := Aside0.mk hB
  clear hI hB
  unfold LexW.digits at h
  rcases hmu : LexW.must LexW.digit b p with ⟨r1, q1⟩
  rw [hmu] at h
  cases h
  have hq1 := LexW.must_le hmu hpl
  go_enter Tryd.func46, Tryd.ntmps46
  go_wp2_with (first | (go_at_call 43; (with_reducible refine (lex_scanner_must.calls_digit g b p w0 _ HI.out HB.out hpl hm).mono ?_); rintro e w1 ⟨v1, rfl, he, hi, hb, hk⟩; rw [hmu] at he hi; have HE := Aside0.mk he; clear he; have n0_ := Aside0.mk (keep_from HK.out hk); have n1_ := Aside0.mk hb; have n2_ := Aside0.mk hi; clear HK HB HI hi hb hk; have HK := n0_; have HB := n1_; have HI := n2_; clear n0_ n1_ n2_) | (go_at_call 27; (with_reducible refine (lex_scanner_pass.calls_digit g b q1 w0 _ HI.out HB.out hq1 hm).mono ?_); rintro e w1 ⟨rfl, hi, hb, hk⟩; have n3_ := Aside0.mk (BadE.keep HE.out HI.out hk); clear HE; have HE := n3_; clear n3_; have n0_ := Aside0.mk (keep_from HK.out hk); have n1_ := Aside0.mk hb; have n2_ := Aside0.mk hi; clear HK HB HI hi hb hk; have HK := n0_; have HB := n1_; have HI := n2_; clear n0_ n1_ n2_))
  go_ret
  exact ⟨_, rfl, HE.out, HI.out, HB.out, HK.out⟩

-- GIVEN plain making
theorem LexW.one_f (a : Int) (of : List Int) (hl : of.length < 9223372036854775807) : ∀ n i k, of.length - i = n → i ≤ of.length → n < k → lex_one.l0 k a of (of.length : Int) (i : Int) = some ((of.drop i).contains a) := by
  intro n
  induction n with
  | zero =>
    intro i k h1 h2 h3
    obtain ⟨k, rfl⟩ : ∃ k', k = k' + 1 := ⟨k - 1, by omega⟩
    rw [lex_one.l0, if_neg (by omega), List.drop_eq_nil_of_le (by omega)]
    rfl
  | succ n ih =>
    intro i k h1 h2 h3
    obtain ⟨k, rfl⟩ : ∃ k', k = k' + 1 := ⟨k - 1, by omega⟩
    have hi : i < of.length := by omega
    rw [lex_one.l0, if_pos (by omega), if_pos (by omega), if_pos (by omega)]
    have e1 : rd of (i : Int) = of[i] := by unfold rd; rw [Int.toNat_natCast, List.getD_eq_getElem?_getD, List.getElem?_eq_getElem hi]; rfl
    rw [e1, List.drop_eq_getElem_cons hi, List.contains_cons]
    by_cases h4 : of[i] = a
    · rw [if_pos h4, h4]; simp
    · rw [if_neg h4, show wrap64 ((i : Int) + 1) = ((i + 1 : Nat) : Int) by unfold wrap64; omega, ih (i + 1) k (by omega) (by omega) (by omega)]
      have h5 : (a == of[i]) = false := by simp; exact fun h => h4 h.symm
      rw [h5, Bool.false_or]
theorem LexW.may_f {of b : List Int} {p q : Nat} {m : Bool} (h : LexW.may of b p = (m, q)) (hl : of.length < 9223372036854775807) (hp : p ≤ b.length) (hm : b.length < 9223372036854775807) : lex_scanner_may.f (of.length + 1) b p of = some (m, (q : Int)) := by
  unfold lex_scanner_may.f
  rw [LexW.peek_f]
  unfold LexW.may at h
  by_cases h1 : p < b.length
  · rw [if_pos h1] at h ⊢
    rw [decide_eq_true h1]
    have h2 : lex_one.f (of.length + 1) (LexW.at_ b p) of = some (of.contains (LexW.at_ b p)) := LexW.one_f _ of hl of.length 0 _ rfl (Nat.zero_le _) (Nat.lt_succ_self _)
    simp only [Option.bind_some, if_true, h2]
    by_cases h3 : of.contains (LexW.at_ b p) = true
    · rw [if_pos h3] at h ⊢
      cases h
      rw [show wrap64 ((p : Int) + 1) = ((p + 1 : Nat) : Int) by unfold wrap64; omega]
    · rw [if_neg h3] at h ⊢
      cases h
      rfl
  · rw [if_neg h1] at h ⊢
    rw [decide_eq_false h1]
    cases h
    rfl
theorem LexT.may1 (g : Nat) (b : List Int) (p q : Nat) (m : Bool) (x : Int) (w0 W : World) (hI : LexS w0 W g b p) (hB : Below w0.heap.size w0 W) (hpl : p ≤ b.length) (hm : b.length < 9223372036854775807) (h : LexW.may [x] b p = (m, q)) :
    Calls Tryd.prog 45 #[.pointer (some ⟨g, 0, none⟩), .slice (some ⟨W.heap.size, 0, none⟩) 1 1] (W.alloc (.cells #[.int .u8 x] 5)) fun e w' => e = .returned (.bool m) ∧ LexS w0 w' g b q ∧ Below w0.heap.size w0 w' ∧ KeepBut W w' g none := by
  refine (lexs_may.calls _ g b p (some ⟨W.heap.size, 0, none⟩) 1 [x] m q w0 _ (hI.alloc _) (below_alloc hB _) (LexT.lit W .u8 [x] 5 _ rfl (by simp)) (Nat.le_refl _) ?_ (LexW.may_f h (by simp) hpl hm)).mono ?_
  · intro ad e _
    cases e
    exact Nat.ne_of_gt hI.lt
  · rintro e w1 ⟨he, hi, hb, hk⟩
    exact ⟨he, hi, hb, keep_from (keep_alloc (KeepBut.refl _ _ _) _) hk⟩
theorem LexT.may2 (g : Nat) (b : List Int) (p q : Nat) (m : Bool) (x y : Int) (w0 W : World) (hI : LexS w0 W g b p) (hB : Below w0.heap.size w0 W) (hpl : p ≤ b.length) (hm : b.length < 9223372036854775807) (h : LexW.may [x, y] b p = (m, q)) :
    Calls Tryd.prog 45 #[.pointer (some ⟨g, 0, none⟩), .slice (some ⟨W.heap.size, 0, none⟩) 2 2] (W.alloc (.cells #[.int .u8 x, .int .u8 y] 5)) fun e w' => e = .returned (.bool m) ∧ LexS w0 w' g b q ∧ Below w0.heap.size w0 w' ∧ KeepBut W w' g none := by
  refine (lexs_may.calls _ g b p (some ⟨W.heap.size, 0, none⟩) 2 [x, y] m q w0 _ (hI.alloc _) (below_alloc hB _) (LexT.lit W .u8 [x, y] 5 _ rfl (by simp)) (Nat.le_refl _) ?_ (LexW.may_f h (by simp) hpl hm)).mono ?_
  · intro ad e _
    cases e
    exact Nat.ne_of_gt hI.lt
  · rintro e w1 ⟨he, hi, hb, hk⟩
    exact ⟨he, hi, hb, keep_from (keep_alloc (KeepBut.refl _ _ _) _) hk⟩

-- GIVEN plain making
set_option maxHeartbeats 4000000 in
set_option maxRecDepth 100000 in
theorem lex_scanner_number.calls (g : Nat) (b : List Int) (p q : Nat) (r : Option Nat) (w0 w : World) (hI : LexS w0 w g b p) (hB : Below w0.heap.size w0 w) (hpl : p ≤ b.length) (hm : b.length < 9223372036854775807) (h : LexW.number b p = (r, q)) :
    Calls Tryd.prog 31 #[.pointer (some ⟨g, 0, none⟩)] w fun e w' => ∃ v, e = .returned v ∧ BadE w' v (r.map fun (n : Nat) => (n : Int)) ∧ LexS w0 w' g b q ∧ Below w0.heap.size w0 w' ∧ KeepBut w w' g none := by
  have HI := Aside0.mk hI
  have HK := Aside0.mk (KeepBut.refl w g none)
  have HB := Aside0.mk hB
  clear hI hB
  unfold LexW.number LexW.int_ LexW.frac LexW.expo at h
  rcases h1 : LexW.may [45] b p with ⟨m1, q1⟩
  have l1 := LexW.may_le h1 hpl
  rcases h2 : LexW.may [48] b q1 with ⟨m2, q2⟩
  have l2 := LexW.may_le h2 l1
  simp only [h1, h2] at h
  cases m2 with
  | true =>
    simp only [if_true] at h
    rcases h4 : LexW.may [46] b q2 with ⟨m4, q4⟩
    have l4 := LexW.may_le h4 l2
    simp only [h4, Option.isSome_none, Bool.false_eq_true, if_false, if_true] at h
    cases m4 with
    | false =>
      simp only [Bool.false_eq_true, if_false, if_true, Option.isSome_none] at h
      rcases h6 : LexW.may [101, 69] b q4 with ⟨m6, q6⟩
      have l6 := LexW.may_le h6 l4
      simp only [h6] at h
      cases m6 with
      | false =>
        simp only [Bool.false_eq_true, if_false] at h
        cases h
        go_enter Tryd.func31, Tryd.ntmps31
        go_wp2_with (first | (go_at_call 45; (with_reducible refine (LexT.may1 g b _ _ _ 45 w0 _ HI.out HB.out (by assumption) hm h1).mono ?_); rintro e w1 ⟨rfl, hi, hb, hk⟩; have n0_ := Aside0.mk (keep_from HK.out hk); have n1_ := Aside0.mk hb; have n2_ := Aside0.mk hi; clear HK HB HI hi hb hk; have HK := n0_; have HB := n1_; have HI := n2_; clear n0_ n1_ n2_) | (go_at_call 45; (with_reducible refine (LexT.may1 g b _ _ _ 48 w0 _ HI.out HB.out (by assumption) hm h2).mono ?_); rintro e w1 ⟨rfl, hi, hb, hk⟩; have n0_ := Aside0.mk (keep_from HK.out hk); have n1_ := Aside0.mk hb; have n2_ := Aside0.mk hi; clear HK HB HI hi hb hk; have HK := n0_; have HB := n1_; have HI := n2_; clear n0_ n1_ n2_) | (go_at_call 45; (with_reducible refine (LexT.may1 g b _ _ _ 46 w0 _ HI.out HB.out (by assumption) hm h4).mono ?_); rintro e w1 ⟨rfl, hi, hb, hk⟩; have n0_ := Aside0.mk (keep_from HK.out hk); have n1_ := Aside0.mk hb; have n2_ := Aside0.mk hi; clear HK HB HI hi hb hk; have HK := n0_; have HB := n1_; have HI := n2_; clear n0_ n1_ n2_) | (go_at_call 45; (with_reducible refine (LexT.may2 g b _ _ _ 101 69 w0 _ HI.out HB.out (by assumption) hm h6).mono ?_); rintro e w1 ⟨rfl, hi, hb, hk⟩; have n0_ := Aside0.mk (keep_from HK.out hk); have n1_ := Aside0.mk hb; have n2_ := Aside0.mk hi; clear HK HB HI hi hb hk; have HK := n0_; have HB := n1_; have HI := n2_; clear n0_ n1_ n2_))
        go_ret
        exact ⟨_, rfl, rfl, HI.out, HB.out, HK.out⟩
      | true =>
        simp only [if_true] at h
        rcases h7 : LexW.may [43, 45] b q6 with ⟨m7, q7⟩
        have l7 := LexW.may_le h7 l6
        simp only [h7] at h
        go_enter Tryd.func31, Tryd.ntmps31
        go_wp2_with (first | (go_at_call 45; (with_reducible refine (LexT.may1 g b _ _ _ 45 w0 _ HI.out HB.out (by assumption) hm h1).mono ?_); rintro e w1 ⟨rfl, hi, hb, hk⟩; have n0_ := Aside0.mk (keep_from HK.out hk); have n1_ := Aside0.mk hb; have n2_ := Aside0.mk hi; clear HK HB HI hi hb hk; have HK := n0_; have HB := n1_; have HI := n2_; clear n0_ n1_ n2_) | (go_at_call 45; (with_reducible refine (LexT.may1 g b _ _ _ 48 w0 _ HI.out HB.out (by assumption) hm h2).mono ?_); rintro e w1 ⟨rfl, hi, hb, hk⟩; have n0_ := Aside0.mk (keep_from HK.out hk); have n1_ := Aside0.mk hb; have n2_ := Aside0.mk hi; clear HK HB HI hi hb hk; have HK := n0_; have HB := n1_; have HI := n2_; clear n0_ n1_ n2_) | (go_at_call 45; (with_reducible refine (LexT.may1 g b _ _ _ 46 w0 _ HI.out HB.out (by assumption) hm h4).mono ?_); rintro e w1 ⟨rfl, hi, hb, hk⟩; have n0_ := Aside0.mk (keep_from HK.out hk); have n1_ := Aside0.mk hb; have n2_ := Aside0.mk hi; clear HK HB HI hi hb hk; have HK := n0_; have HB := n1_; have HI := n2_; clear n0_ n1_ n2_) | (go_at_call 45; (with_reducible refine (LexT.may2 g b _ _ _ 101 69 w0 _ HI.out HB.out (by assumption) hm h6).mono ?_); rintro e w1 ⟨rfl, hi, hb, hk⟩; have n0_ := Aside0.mk (keep_from HK.out hk); have n1_ := Aside0.mk hb; have n2_ := Aside0.mk hi; clear HK HB HI hi hb hk; have HK := n0_; have HB := n1_; have HI := n2_; clear n0_ n1_ n2_) | (go_at_call 45; (with_reducible refine (LexT.may2 g b _ _ _ 43 45 w0 _ HI.out HB.out (by assumption) hm h7).mono ?_); rintro e w1 ⟨rfl, hi, hb, hk⟩; have n0_ := Aside0.mk (keep_from HK.out hk); have n1_ := Aside0.mk hb; have n2_ := Aside0.mk hi; clear HK HB HI hi hb hk; have HK := n0_; have HB := n1_; have HI := n2_; clear n0_ n1_ n2_) | (go_at_call 46; (with_reducible refine (lex_scanner_digits.calls g b _ _ _ w0 _ HI.out HB.out (by assumption) hm h).mono ?_); rintro e w1 ⟨v1, rfl, he, hi, hb, hk⟩; have HE := Aside0.mk he; clear he; have n0_ := Aside0.mk (keep_from HK.out hk); have n1_ := Aside0.mk hb; have n2_ := Aside0.mk hi; clear HK HB HI hi hb hk; have HK := n0_; have HB := n1_; have HI := n2_; clear n0_ n1_ n2_))
        go_ret
        exact ⟨_, rfl, HE.out, HI.out, HB.out, HK.out⟩
    | true =>
      simp only [if_true] at h
      rcases h5 : LexW.digits b q4 with ⟨r5, q5⟩
      have l5 := LexW.digits_le h5 l4
      simp only [h5] at h
      cases r5 with
      | some e5 =>
        simp only [Option.isSome_some, if_true] at h
        cases h
        go_enter Tryd.func31, Tryd.ntmps31
        go_wp2_with (first | (go_at_call 45; (with_reducible refine (LexT.may1 g b _ _ _ 45 w0 _ HI.out HB.out (by assumption) hm h1).mono ?_); rintro e w1 ⟨rfl, hi, hb, hk⟩; have n0_ := Aside0.mk (keep_from HK.out hk); have n1_ := Aside0.mk hb; have n2_ := Aside0.mk hi; clear HK HB HI hi hb hk; have HK := n0_; have HB := n1_; have HI := n2_; clear n0_ n1_ n2_) | (go_at_call 45; (with_reducible refine (LexT.may1 g b _ _ _ 48 w0 _ HI.out HB.out (by assumption) hm h2).mono ?_); rintro e w1 ⟨rfl, hi, hb, hk⟩; have n0_ := Aside0.mk (keep_from HK.out hk); have n1_ := Aside0.mk hb; have n2_ := Aside0.mk hi; clear HK HB HI hi hb hk; have HK := n0_; have HB := n1_; have HI := n2_; clear n0_ n1_ n2_) | (go_at_call 45; (with_reducible refine (LexT.may1 g b _ _ _ 46 w0 _ HI.out HB.out (by assumption) hm h4).mono ?_); rintro e w1 ⟨rfl, hi, hb, hk⟩; have n0_ := Aside0.mk (keep_from HK.out hk); have n1_ := Aside0.mk hb; have n2_ := Aside0.mk hi; clear HK HB HI hi hb hk; have HK := n0_; have HB := n1_; have HI := n2_; clear n0_ n1_ n2_) | (go_at_call 46; (with_reducible refine (lex_scanner_digits.calls g b _ _ _ w0 _ HI.out HB.out (by assumption) hm h5).mono ?_); rintro e w1 ⟨v1, rfl, he, hi, hb, hk⟩; obtain ⟨pe, rfl, hpe⟩ := he; have HE := Aside0.mk (show BadE _ _ (some _) from ⟨pe, rfl, hpe⟩); clear hpe; have n0_ := Aside0.mk (keep_from HK.out hk); have n1_ := Aside0.mk hb; have n2_ := Aside0.mk hi; clear HK HB HI hi hb hk; have HK := n0_; have HB := n1_; have HI := n2_; clear n0_ n1_ n2_))
        go_ret
        exact ⟨_, rfl, HE.out, HI.out, HB.out, HK.out⟩
      | none =>
        simp only [Option.isSome_none, Bool.false_eq_true, if_false] at h
        rcases h6 : LexW.may [101, 69] b q5 with ⟨m6, q6⟩
        have l6 := LexW.may_le h6 l5
        simp only [h6] at h
        cases m6 with
        | false =>
          simp only [Bool.false_eq_true, if_false] at h
          cases h
          go_enter Tryd.func31, Tryd.ntmps31
          go_wp2_with (first | (go_at_call 45; (with_reducible refine (LexT.may1 g b _ _ _ 45 w0 _ HI.out HB.out (by assumption) hm h1).mono ?_); rintro e w1 ⟨rfl, hi, hb, hk⟩; have n0_ := Aside0.mk (keep_from HK.out hk); have n1_ := Aside0.mk hb; have n2_ := Aside0.mk hi; clear HK HB HI hi hb hk; have HK := n0_; have HB := n1_; have HI := n2_; clear n0_ n1_ n2_) | (go_at_call 45; (with_reducible refine (LexT.may1 g b _ _ _ 48 w0 _ HI.out HB.out (by assumption) hm h2).mono ?_); rintro e w1 ⟨rfl, hi, hb, hk⟩; have n0_ := Aside0.mk (keep_from HK.out hk); have n1_ := Aside0.mk hb; have n2_ := Aside0.mk hi; clear HK HB HI hi hb hk; have HK := n0_; have HB := n1_; have HI := n2_; clear n0_ n1_ n2_) | (go_at_call 45; (with_reducible refine (LexT.may1 g b _ _ _ 46 w0 _ HI.out HB.out (by assumption) hm h4).mono ?_); rintro e w1 ⟨rfl, hi, hb, hk⟩; have n0_ := Aside0.mk (keep_from HK.out hk); have n1_ := Aside0.mk hb; have n2_ := Aside0.mk hi; clear HK HB HI hi hb hk; have HK := n0_; have HB := n1_; have HI := n2_; clear n0_ n1_ n2_) | (go_at_call 46; (with_reducible refine (lex_scanner_digits.calls g b _ _ _ w0 _ HI.out HB.out (by assumption) hm h5).mono ?_); rintro e w1 ⟨v1, rfl, he, hi, hb, hk⟩; (obtain rfl : v1 = _ := he); have n0_ := Aside0.mk (keep_from HK.out hk); have n1_ := Aside0.mk hb; have n2_ := Aside0.mk hi; clear HK HB HI hi hb hk; have HK := n0_; have HB := n1_; have HI := n2_; clear n0_ n1_ n2_) | (go_at_call 45; (with_reducible refine (LexT.may2 g b _ _ _ 101 69 w0 _ HI.out HB.out (by assumption) hm h6).mono ?_); rintro e w1 ⟨rfl, hi, hb, hk⟩; have n0_ := Aside0.mk (keep_from HK.out hk); have n1_ := Aside0.mk hb; have n2_ := Aside0.mk hi; clear HK HB HI hi hb hk; have HK := n0_; have HB := n1_; have HI := n2_; clear n0_ n1_ n2_))
          go_ret
          exact ⟨_, rfl, rfl, HI.out, HB.out, HK.out⟩
        | true =>
          simp only [if_true] at h
          rcases h7 : LexW.may [43, 45] b q6 with ⟨m7, q7⟩
          have l7 := LexW.may_le h7 l6
          simp only [h7] at h
          go_enter Tryd.func31, Tryd.ntmps31
          go_wp2_with (first | (go_at_call 45; (with_reducible refine (LexT.may1 g b _ _ _ 45 w0 _ HI.out HB.out (by assumption) hm h1).mono ?_); rintro e w1 ⟨rfl, hi, hb, hk⟩; have n0_ := Aside0.mk (keep_from HK.out hk); have n1_ := Aside0.mk hb; have n2_ := Aside0.mk hi; clear HK HB HI hi hb hk; have HK := n0_; have HB := n1_; have HI := n2_; clear n0_ n1_ n2_) | (go_at_call 45; (with_reducible refine (LexT.may1 g b _ _ _ 48 w0 _ HI.out HB.out (by assumption) hm h2).mono ?_); rintro e w1 ⟨rfl, hi, hb, hk⟩; have n0_ := Aside0.mk (keep_from HK.out hk); have n1_ := Aside0.mk hb; have n2_ := Aside0.mk hi; clear HK HB HI hi hb hk; have HK := n0_; have HB := n1_; have HI := n2_; clear n0_ n1_ n2_) | (go_at_call 45; (with_reducible refine (LexT.may1 g b _ _ _ 46 w0 _ HI.out HB.out (by assumption) hm h4).mono ?_); rintro e w1 ⟨rfl, hi, hb, hk⟩; have n0_ := Aside0.mk (keep_from HK.out hk); have n1_ := Aside0.mk hb; have n2_ := Aside0.mk hi; clear HK HB HI hi hb hk; have HK := n0_; have HB := n1_; have HI := n2_; clear n0_ n1_ n2_) | (go_at_call 46; (with_reducible refine (lex_scanner_digits.calls g b _ _ _ w0 _ HI.out HB.out (by assumption) hm h5).mono ?_); rintro e w1 ⟨v1, rfl, he, hi, hb, hk⟩; (obtain rfl : v1 = _ := he); have n0_ := Aside0.mk (keep_from HK.out hk); have n1_ := Aside0.mk hb; have n2_ := Aside0.mk hi; clear HK HB HI hi hb hk; have HK := n0_; have HB := n1_; have HI := n2_; clear n0_ n1_ n2_) | (go_at_call 45; (with_reducible refine (LexT.may2 g b _ _ _ 101 69 w0 _ HI.out HB.out (by assumption) hm h6).mono ?_); rintro e w1 ⟨rfl, hi, hb, hk⟩; have n0_ := Aside0.mk (keep_from HK.out hk); have n1_ := Aside0.mk hb; have n2_ := Aside0.mk hi; clear HK HB HI hi hb hk; have HK := n0_; have HB := n1_; have HI := n2_; clear n0_ n1_ n2_) | (go_at_call 45; (with_reducible refine (LexT.may2 g b _ _ _ 43 45 w0 _ HI.out HB.out (by assumption) hm h7).mono ?_); rintro e w1 ⟨rfl, hi, hb, hk⟩; have n0_ := Aside0.mk (keep_from HK.out hk); have n1_ := Aside0.mk hb; have n2_ := Aside0.mk hi; clear HK HB HI hi hb hk; have HK := n0_; have HB := n1_; have HI := n2_; clear n0_ n1_ n2_) | (go_at_call 46; (with_reducible refine (lex_scanner_digits.calls g b _ _ _ w0 _ HI.out HB.out (by assumption) hm h).mono ?_); rintro e w1 ⟨v1, rfl, he, hi, hb, hk⟩; have HE := Aside0.mk he; clear he; have n0_ := Aside0.mk (keep_from HK.out hk); have n1_ := Aside0.mk hb; have n2_ := Aside0.mk hi; clear HK HB HI hi hb hk; have HK := n0_; have HB := n1_; have HI := n2_; clear n0_ n1_ n2_))
          go_ret
          exact ⟨_, rfl, HE.out, HI.out, HB.out, HK.out⟩
  | false =>
    simp only [Bool.false_eq_true, if_false] at h
    rcases h3 : LexW.digits b q2 with ⟨r3, q3⟩
    have l3 := LexW.digits_le h3 l2
    simp only [h3] at h
    cases r3 with
    | some e3 =>
      simp only [Option.isSome_some, if_true] at h
      cases h
      go_enter Tryd.func31, Tryd.ntmps31
      go_wp2_with (first | (go_at_call 45; (with_reducible refine (LexT.may1 g b _ _ _ 45 w0 _ HI.out HB.out (by assumption) hm h1).mono ?_); rintro e w1 ⟨rfl, hi, hb, hk⟩; have n0_ := Aside0.mk (keep_from HK.out hk); have n1_ := Aside0.mk hb; have n2_ := Aside0.mk hi; clear HK HB HI hi hb hk; have HK := n0_; have HB := n1_; have HI := n2_; clear n0_ n1_ n2_) | (go_at_call 45; (with_reducible refine (LexT.may1 g b _ _ _ 48 w0 _ HI.out HB.out (by assumption) hm h2).mono ?_); rintro e w1 ⟨rfl, hi, hb, hk⟩; have n0_ := Aside0.mk (keep_from HK.out hk); have n1_ := Aside0.mk hb; have n2_ := Aside0.mk hi; clear HK HB HI hi hb hk; have HK := n0_; have HB := n1_; have HI := n2_; clear n0_ n1_ n2_) | (go_at_call 46; (with_reducible refine (lex_scanner_digits.calls g b _ _ _ w0 _ HI.out HB.out (by assumption) hm h3).mono ?_); rintro e w1 ⟨v1, rfl, he, hi, hb, hk⟩; obtain ⟨pe, rfl, hpe⟩ := he; have HE := Aside0.mk (show BadE _ _ (some _) from ⟨pe, rfl, hpe⟩); clear hpe; have n0_ := Aside0.mk (keep_from HK.out hk); have n1_ := Aside0.mk hb; have n2_ := Aside0.mk hi; clear HK HB HI hi hb hk; have HK := n0_; have HB := n1_; have HI := n2_; clear n0_ n1_ n2_))
      go_ret
      exact ⟨_, rfl, HE.out, HI.out, HB.out, HK.out⟩
    | none =>
      rcases h4 : LexW.may [46] b q3 with ⟨m4, q4⟩
      have l4 := LexW.may_le h4 l3
      simp only [h4, Option.isSome_none, Bool.false_eq_true, if_false, if_true] at h
      cases m4 with
      | false =>
        simp only [Bool.false_eq_true, if_false, if_true, Option.isSome_none] at h
        rcases h6 : LexW.may [101, 69] b q4 with ⟨m6, q6⟩
        have l6 := LexW.may_le h6 l4
        simp only [h6] at h
        cases m6 with
        | false =>
          simp only [Bool.false_eq_true, if_false] at h
          cases h
          go_enter Tryd.func31, Tryd.ntmps31
          go_wp2_with (first | (go_at_call 45; (with_reducible refine (LexT.may1 g b _ _ _ 45 w0 _ HI.out HB.out (by assumption) hm h1).mono ?_); rintro e w1 ⟨rfl, hi, hb, hk⟩; have n0_ := Aside0.mk (keep_from HK.out hk); have n1_ := Aside0.mk hb; have n2_ := Aside0.mk hi; clear HK HB HI hi hb hk; have HK := n0_; have HB := n1_; have HI := n2_; clear n0_ n1_ n2_) | (go_at_call 45; (with_reducible refine (LexT.may1 g b _ _ _ 48 w0 _ HI.out HB.out (by assumption) hm h2).mono ?_); rintro e w1 ⟨rfl, hi, hb, hk⟩; have n0_ := Aside0.mk (keep_from HK.out hk); have n1_ := Aside0.mk hb; have n2_ := Aside0.mk hi; clear HK HB HI hi hb hk; have HK := n0_; have HB := n1_; have HI := n2_; clear n0_ n1_ n2_) | (go_at_call 46; (with_reducible refine (lex_scanner_digits.calls g b _ _ _ w0 _ HI.out HB.out (by assumption) hm h3).mono ?_); rintro e w1 ⟨v1, rfl, he, hi, hb, hk⟩; (obtain rfl : v1 = _ := he); have n0_ := Aside0.mk (keep_from HK.out hk); have n1_ := Aside0.mk hb; have n2_ := Aside0.mk hi; clear HK HB HI hi hb hk; have HK := n0_; have HB := n1_; have HI := n2_; clear n0_ n1_ n2_) | (go_at_call 45; (with_reducible refine (LexT.may1 g b _ _ _ 46 w0 _ HI.out HB.out (by assumption) hm h4).mono ?_); rintro e w1 ⟨rfl, hi, hb, hk⟩; have n0_ := Aside0.mk (keep_from HK.out hk); have n1_ := Aside0.mk hb; have n2_ := Aside0.mk hi; clear HK HB HI hi hb hk; have HK := n0_; have HB := n1_; have HI := n2_; clear n0_ n1_ n2_) | (go_at_call 45; (with_reducible refine (LexT.may2 g b _ _ _ 101 69 w0 _ HI.out HB.out (by assumption) hm h6).mono ?_); rintro e w1 ⟨rfl, hi, hb, hk⟩; have n0_ := Aside0.mk (keep_from HK.out hk); have n1_ := Aside0.mk hb; have n2_ := Aside0.mk hi; clear HK HB HI hi hb hk; have HK := n0_; have HB := n1_; have HI := n2_; clear n0_ n1_ n2_))
          go_ret
          exact ⟨_, rfl, rfl, HI.out, HB.out, HK.out⟩
        | true =>
          simp only [if_true] at h
          rcases h7 : LexW.may [43, 45] b q6 with ⟨m7, q7⟩
          have l7 := LexW.may_le h7 l6
          simp only [h7] at h
          go_enter Tryd.func31, Tryd.ntmps31
          go_wp2_with (first | (go_at_call 45; (with_reducible refine (LexT.may1 g b _ _ _ 45 w0 _ HI.out HB.out (by assumption) hm h1).mono ?_); rintro e w1 ⟨rfl, hi, hb, hk⟩; have n0_ := Aside0.mk (keep_from HK.out hk); have n1_ := Aside0.mk hb; have n2_ := Aside0.mk hi; clear HK HB HI hi hb hk; have HK := n0_; have HB := n1_; have HI := n2_; clear n0_ n1_ n2_) | (go_at_call 45; (with_reducible refine (LexT.may1 g b _ _ _ 48 w0 _ HI.out HB.out (by assumption) hm h2).mono ?_); rintro e w1 ⟨rfl, hi, hb, hk⟩; have n0_ := Aside0.mk (keep_from HK.out hk); have n1_ := Aside0.mk hb; have n2_ := Aside0.mk hi; clear HK HB HI hi hb hk; have HK := n0_; have HB := n1_; have HI := n2_; clear n0_ n1_ n2_) | (go_at_call 46; (with_reducible refine (lex_scanner_digits.calls g b _ _ _ w0 _ HI.out HB.out (by assumption) hm h3).mono ?_); rintro e w1 ⟨v1, rfl, he, hi, hb, hk⟩; (obtain rfl : v1 = _ := he); have n0_ := Aside0.mk (keep_from HK.out hk); have n1_ := Aside0.mk hb; have n2_ := Aside0.mk hi; clear HK HB HI hi hb hk; have HK := n0_; have HB := n1_; have HI := n2_; clear n0_ n1_ n2_) | (go_at_call 45; (with_reducible refine (LexT.may1 g b _ _ _ 46 w0 _ HI.out HB.out (by assumption) hm h4).mono ?_); rintro e w1 ⟨rfl, hi, hb, hk⟩; have n0_ := Aside0.mk (keep_from HK.out hk); have n1_ := Aside0.mk hb; have n2_ := Aside0.mk hi; clear HK HB HI hi hb hk; have HK := n0_; have HB := n1_; have HI := n2_; clear n0_ n1_ n2_) | (go_at_call 45; (with_reducible refine (LexT.may2 g b _ _ _ 101 69 w0 _ HI.out HB.out (by assumption) hm h6).mono ?_); rintro e w1 ⟨rfl, hi, hb, hk⟩; have n0_ := Aside0.mk (keep_from HK.out hk); have n1_ := Aside0.mk hb; have n2_ := Aside0.mk hi; clear HK HB HI hi hb hk; have HK := n0_; have HB := n1_; have HI := n2_; clear n0_ n1_ n2_) | (go_at_call 45; (with_reducible refine (LexT.may2 g b _ _ _ 43 45 w0 _ HI.out HB.out (by assumption) hm h7).mono ?_); rintro e w1 ⟨rfl, hi, hb, hk⟩; have n0_ := Aside0.mk (keep_from HK.out hk); have n1_ := Aside0.mk hb; have n2_ := Aside0.mk hi; clear HK HB HI hi hb hk; have HK := n0_; have HB := n1_; have HI := n2_; clear n0_ n1_ n2_) | (go_at_call 46; (with_reducible refine (lex_scanner_digits.calls g b _ _ _ w0 _ HI.out HB.out (by assumption) hm h).mono ?_); rintro e w1 ⟨v1, rfl, he, hi, hb, hk⟩; have HE := Aside0.mk he; clear he; have n0_ := Aside0.mk (keep_from HK.out hk); have n1_ := Aside0.mk hb; have n2_ := Aside0.mk hi; clear HK HB HI hi hb hk; have HK := n0_; have HB := n1_; have HI := n2_; clear n0_ n1_ n2_))
          go_ret
          exact ⟨_, rfl, HE.out, HI.out, HB.out, HK.out⟩
      | true =>
        simp only [if_true] at h
        rcases h5 : LexW.digits b q4 with ⟨r5, q5⟩
        have l5 := LexW.digits_le h5 l4
        simp only [h5] at h
        cases r5 with
        | some e5 =>
          simp only [Option.isSome_some, if_true] at h
          cases h
          go_enter Tryd.func31, Tryd.ntmps31
          go_wp2_with (first | (go_at_call 45; (with_reducible refine (LexT.may1 g b _ _ _ 45 w0 _ HI.out HB.out (by assumption) hm h1).mono ?_); rintro e w1 ⟨rfl, hi, hb, hk⟩; have n0_ := Aside0.mk (keep_from HK.out hk); have n1_ := Aside0.mk hb; have n2_ := Aside0.mk hi; clear HK HB HI hi hb hk; have HK := n0_; have HB := n1_; have HI := n2_; clear n0_ n1_ n2_) | (go_at_call 45; (with_reducible refine (LexT.may1 g b _ _ _ 48 w0 _ HI.out HB.out (by assumption) hm h2).mono ?_); rintro e w1 ⟨rfl, hi, hb, hk⟩; have n0_ := Aside0.mk (keep_from HK.out hk); have n1_ := Aside0.mk hb; have n2_ := Aside0.mk hi; clear HK HB HI hi hb hk; have HK := n0_; have HB := n1_; have HI := n2_; clear n0_ n1_ n2_) | (go_at_call 46; (with_reducible refine (lex_scanner_digits.calls g b _ _ _ w0 _ HI.out HB.out (by assumption) hm h3).mono ?_); rintro e w1 ⟨v1, rfl, he, hi, hb, hk⟩; (obtain rfl : v1 = _ := he); have n0_ := Aside0.mk (keep_from HK.out hk); have n1_ := Aside0.mk hb; have n2_ := Aside0.mk hi; clear HK HB HI hi hb hk; have HK := n0_; have HB := n1_; have HI := n2_; clear n0_ n1_ n2_) | (go_at_call 45; (with_reducible refine (LexT.may1 g b _ _ _ 46 w0 _ HI.out HB.out (by assumption) hm h4).mono ?_); rintro e w1 ⟨rfl, hi, hb, hk⟩; have n0_ := Aside0.mk (keep_from HK.out hk); have n1_ := Aside0.mk hb; have n2_ := Aside0.mk hi; clear HK HB HI hi hb hk; have HK := n0_; have HB := n1_; have HI := n2_; clear n0_ n1_ n2_) | (go_at_call 46; (with_reducible refine (lex_scanner_digits.calls g b _ _ _ w0 _ HI.out HB.out (by assumption) hm h5).mono ?_); rintro e w1 ⟨v1, rfl, he, hi, hb, hk⟩; obtain ⟨pe, rfl, hpe⟩ := he; have HE := Aside0.mk (show BadE _ _ (some _) from ⟨pe, rfl, hpe⟩); clear hpe; have n0_ := Aside0.mk (keep_from HK.out hk); have n1_ := Aside0.mk hb; have n2_ := Aside0.mk hi; clear HK HB HI hi hb hk; have HK := n0_; have HB := n1_; have HI := n2_; clear n0_ n1_ n2_))
          go_ret
          exact ⟨_, rfl, HE.out, HI.out, HB.out, HK.out⟩
        | none =>
          simp only [Option.isSome_none, Bool.false_eq_true, if_false] at h
          rcases h6 : LexW.may [101, 69] b q5 with ⟨m6, q6⟩
          have l6 := LexW.may_le h6 l5
          simp only [h6] at h
          cases m6 with
          | false =>
            simp only [Bool.false_eq_true, if_false] at h
            cases h
            go_enter Tryd.func31, Tryd.ntmps31
            go_wp2_with (first | (go_at_call 45; (with_reducible refine (LexT.may1 g b _ _ _ 45 w0 _ HI.out HB.out (by assumption) hm h1).mono ?_); rintro e w1 ⟨rfl, hi, hb, hk⟩; have n0_ := Aside0.mk (keep_from HK.out hk); have n1_ := Aside0.mk hb; have n2_ := Aside0.mk hi; clear HK HB HI hi hb hk; have HK := n0_; have HB := n1_; have HI := n2_; clear n0_ n1_ n2_) | (go_at_call 45; (with_reducible refine (LexT.may1 g b _ _ _ 48 w0 _ HI.out HB.out (by assumption) hm h2).mono ?_); rintro e w1 ⟨rfl, hi, hb, hk⟩; have n0_ := Aside0.mk (keep_from HK.out hk); have n1_ := Aside0.mk hb; have n2_ := Aside0.mk hi; clear HK HB HI hi hb hk; have HK := n0_; have HB := n1_; have HI := n2_; clear n0_ n1_ n2_) | (go_at_call 46; (with_reducible refine (lex_scanner_digits.calls g b _ _ _ w0 _ HI.out HB.out (by assumption) hm h3).mono ?_); rintro e w1 ⟨v1, rfl, he, hi, hb, hk⟩; (obtain rfl : v1 = _ := he); have n0_ := Aside0.mk (keep_from HK.out hk); have n1_ := Aside0.mk hb; have n2_ := Aside0.mk hi; clear HK HB HI hi hb hk; have HK := n0_; have HB := n1_; have HI := n2_; clear n0_ n1_ n2_) | (go_at_call 45; (with_reducible refine (LexT.may1 g b _ _ _ 46 w0 _ HI.out HB.out (by assumption) hm h4).mono ?_); rintro e w1 ⟨rfl, hi, hb, hk⟩; have n0_ := Aside0.mk (keep_from HK.out hk); have n1_ := Aside0.mk hb; have n2_ := Aside0.mk hi; clear HK HB HI hi hb hk; have HK := n0_; have HB := n1_; have HI := n2_; clear n0_ n1_ n2_) | (go_at_call 46; (with_reducible refine (lex_scanner_digits.calls g b _ _ _ w0 _ HI.out HB.out (by assumption) hm h5).mono ?_); rintro e w1 ⟨v1, rfl, he, hi, hb, hk⟩; (obtain rfl : v1 = _ := he); have n0_ := Aside0.mk (keep_from HK.out hk); have n1_ := Aside0.mk hb; have n2_ := Aside0.mk hi; clear HK HB HI hi hb hk; have HK := n0_; have HB := n1_; have HI := n2_; clear n0_ n1_ n2_) | (go_at_call 45; (with_reducible refine (LexT.may2 g b _ _ _ 101 69 w0 _ HI.out HB.out (by assumption) hm h6).mono ?_); rintro e w1 ⟨rfl, hi, hb, hk⟩; have n0_ := Aside0.mk (keep_from HK.out hk); have n1_ := Aside0.mk hb; have n2_ := Aside0.mk hi; clear HK HB HI hi hb hk; have HK := n0_; have HB := n1_; have HI := n2_; clear n0_ n1_ n2_))
            go_ret
            exact ⟨_, rfl, rfl, HI.out, HB.out, HK.out⟩
          | true =>
            simp only [if_true] at h
            rcases h7 : LexW.may [43, 45] b q6 with ⟨m7, q7⟩
            have l7 := LexW.may_le h7 l6
            simp only [h7] at h
            go_enter Tryd.func31, Tryd.ntmps31
            go_wp2_with (first | (go_at_call 45; (with_reducible refine (LexT.may1 g b _ _ _ 45 w0 _ HI.out HB.out (by assumption) hm h1).mono ?_); rintro e w1 ⟨rfl, hi, hb, hk⟩; have n0_ := Aside0.mk (keep_from HK.out hk); have n1_ := Aside0.mk hb; have n2_ := Aside0.mk hi; clear HK HB HI hi hb hk; have HK := n0_; have HB := n1_; have HI := n2_; clear n0_ n1_ n2_) | (go_at_call 45; (with_reducible refine (LexT.may1 g b _ _ _ 48 w0 _ HI.out HB.out (by assumption) hm h2).mono ?_); rintro e w1 ⟨rfl, hi, hb, hk⟩; have n0_ := Aside0.mk (keep_from HK.out hk); have n1_ := Aside0.mk hb; have n2_ := Aside0.mk hi; clear HK HB HI hi hb hk; have HK := n0_; have HB := n1_; have HI := n2_; clear n0_ n1_ n2_) | (go_at_call 46; (with_reducible refine (lex_scanner_digits.calls g b _ _ _ w0 _ HI.out HB.out (by assumption) hm h3).mono ?_); rintro e w1 ⟨v1, rfl, he, hi, hb, hk⟩; (obtain rfl : v1 = _ := he); have n0_ := Aside0.mk (keep_from HK.out hk); have n1_ := Aside0.mk hb; have n2_ := Aside0.mk hi; clear HK HB HI hi hb hk; have HK := n0_; have HB := n1_; have HI := n2_; clear n0_ n1_ n2_) | (go_at_call 45; (with_reducible refine (LexT.may1 g b _ _ _ 46 w0 _ HI.out HB.out (by assumption) hm h4).mono ?_); rintro e w1 ⟨rfl, hi, hb, hk⟩; have n0_ := Aside0.mk (keep_from HK.out hk); have n1_ := Aside0.mk hb; have n2_ := Aside0.mk hi; clear HK HB HI hi hb hk; have HK := n0_; have HB := n1_; have HI := n2_; clear n0_ n1_ n2_) | (go_at_call 46; (with_reducible refine (lex_scanner_digits.calls g b _ _ _ w0 _ HI.out HB.out (by assumption) hm h5).mono ?_); rintro e w1 ⟨v1, rfl, he, hi, hb, hk⟩; (obtain rfl : v1 = _ := he); have n0_ := Aside0.mk (keep_from HK.out hk); have n1_ := Aside0.mk hb; have n2_ := Aside0.mk hi; clear HK HB HI hi hb hk; have HK := n0_; have HB := n1_; have HI := n2_; clear n0_ n1_ n2_) | (go_at_call 45; (with_reducible refine (LexT.may2 g b _ _ _ 101 69 w0 _ HI.out HB.out (by assumption) hm h6).mono ?_); rintro e w1 ⟨rfl, hi, hb, hk⟩; have n0_ := Aside0.mk (keep_from HK.out hk); have n1_ := Aside0.mk hb; have n2_ := Aside0.mk hi; clear HK HB HI hi hb hk; have HK := n0_; have HB := n1_; have HI := n2_; clear n0_ n1_ n2_) | (go_at_call 45; (with_reducible refine (LexT.may2 g b _ _ _ 43 45 w0 _ HI.out HB.out (by assumption) hm h7).mono ?_); rintro e w1 ⟨rfl, hi, hb, hk⟩; have n0_ := Aside0.mk (keep_from HK.out hk); have n1_ := Aside0.mk hb; have n2_ := Aside0.mk hi; clear HK HB HI hi hb hk; have HK := n0_; have HB := n1_; have HI := n2_; clear n0_ n1_ n2_) | (go_at_call 46; (with_reducible refine (lex_scanner_digits.calls g b _ _ _ w0 _ HI.out HB.out (by assumption) hm h).mono ?_); rintro e w1 ⟨v1, rfl, he, hi, hb, hk⟩; have HE := Aside0.mk he; clear he; have n0_ := Aside0.mk (keep_from HK.out hk); have n1_ := Aside0.mk hb; have n2_ := Aside0.mk hi; clear HK HB HI hi hb hk; have HK := n0_; have HB := n1_; have HI := n2_; clear n0_ n1_ n2_))
            go_ret
            exact ⟨_, rfl, HE.out, HI.out, HB.out, HK.out⟩

end Go.Proofs.YthoobepfkfjgnaaDoor.PL
