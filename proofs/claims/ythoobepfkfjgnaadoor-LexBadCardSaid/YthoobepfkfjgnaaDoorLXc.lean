import Derived.Test.YthoobepfkfjgnaaDoorPLx0
import Derived.Test.YthoobepfkfjgnaaDoorLXb
import Derived.Test.YthoobepfkfjgnaaDoorPLx3
import Derived.Test.YthoobepfkfjgnaaDoorLexW
import Derived.Lib.SmallJoins
import Derived.WalkLawsBesides
import Derived.Outline
import Derived.StillTailTactics
import Derived.Test.YthoobepfkfjgnaaDoorMore
namespace Go.Proofs.YthoobepfkfjgnaaDoor.PL
open Go.RowKit Go.Proofs.YthoobepfkfjgnaaDoorW.PrintWords Go.Proofs.YthoobepfkfjgnaaDoorW.PrintLast Go.Proofs.YthoobepfkfjgnaaDoorW.PrintMore
attribute [local go_sem] max2_int min2_int max_two min_two max_three min_three max_four min_four
set_option linter.unusedVariables false
set_option linter.unusedSimpArgs false
-- GIVEN plain making
theorem LexW.escape_le {b : List Int} {p q : Nat} {r : Option Nat} {n : Int} (h : LexW.escape b p = (r, n, q)) (hp : p ≤ b.length) : q ≤ b.length := by
  unfold LexW.escape at h
  split at h
  · split at h
    · cases h; omega
    · unfold LexW.uesc at h
      rcases h2 : LexW.exactly [117] b p with ⟨r2, q2⟩
      have l2 := LexW.exactly_le _ h2 hp
      rcases h3 : LexW.four LexW.T1 b 4 0 0 q2 with ⟨r3, hi, q3⟩
      have l3 := LexW.four_le _ _ _ _ _ h3 l2
      unfold LexW.tail2 at h
      rcases h6 : LexW.exactly [92, 117] b q3 with ⟨r6, q6⟩
      have l6 := LexW.exactly_le _ h6 l3
      rcases h7 : LexW.four LexW.T2 b 4 0 0 q6 with ⟨r7, lo, q7⟩
      have l7 := LexW.four_le _ _ _ _ _ h7 l6
      simp only [h2, h3, h6, h7] at h
      repeat' split at h
      all_goals (cases h; assumption)
  · cases h; exact hp
/-- One round of text: where the plain bytes end, what they are, how good. -/
def LexW.tq (b : List Int) (p : Nat) : Nat := LexW.pass LexW.plain b p
def LexW.tpl (b : List Int) (p : Nat) : List Int := (b.take (LexW.tq b p)).drop p
def LexW.text (b : List Int) : Nat → List Int → Nat → Option (Option Nat × List Int × Nat)
  | 0, _, _ => none
  | k + 1, out, p =>
    (utf_Good.f (b.length + 2) (LexW.tpl b p)).bind fun gd =>
    if 0 ≤ gd.1 ∧ gd.1 ≤ (LexW.tpl b p).length then
      (if gd.2 = false ∧ (LexW.tq b p < b.length ∨ gd.1 < (LexW.tpl b p).length) then some (some (p + gd.1.toNat + 1), [], LexW.tq b p)
      else if LexW.tq b p < b.length ∧ 32 ≤ LexW.at_ b (LexW.tq b p) then
        (if out.length + (LexW.tpl b p).length < 140737488355328 then
          (if LexW.at_ b (LexW.tq b p) = 34 then some (none, out ++ LexW.tpl b p, LexW.tq b p + 1)
          else if (LexW.escape b (LexW.tq b p + 1)).1.isSome = true then some ((LexW.escape b (LexW.tq b p + 1)).1, [], (LexW.escape b (LexW.tq b p + 1)).2.2)
          else (utf_Put.f (out ++ LexW.tpl b p) (LexW.escape b (LexW.tq b p + 1)).2.1).bind fun o => LexW.text b k o.1 (LexW.escape b (LexW.tq b p + 1)).2.2)
        else none)
      else some (some (LexW.tq b p + 1), [], LexW.tq b p))
    else none
theorem LexT.Rkeep {w0 W W1 : World} {g : Nat} {b : List Int} {p : Int} {base : Nat} {v : Value} {xs : List Int} (ho : Kd.R (Kd.int .u8) 5 W base (fun _ => True) v xs) (hI : LexS w0 W g b p) (hk : KeepBut W W1 g none) : Kd.R (Kd.int .u8) 5 W1 base (fun _ => True) v xs :=
  Kd.R_mono (Kd.R_keep (hI.apart ho (by decide)) hk (fun _ h => h.2)) (fun _ _ => trivial)
theorem LexT.keep_base {w W w1 : World} {g : Nat} (hk : KeepBut w W g none) (hb : Below w.heap.size W w1) : KeepBut w w1 g none := ⟨Nat.le_trans hk.1 hb.size, fun i hi hg hr => (hb.block i hi).trans (hk.2 i hi hg hr)⟩
set_option maxHeartbeats 4000000 in
set_option maxRecDepth 100000 in
theorem lex_scanner_text.calls (g : Nat) (b : List Int) (p0 q : Nat) (r : Option Nat) (out : List Int) (k : Nat) (w0 w : World) (hI : LexS w0 w g b p0) (hB : Below w0.heap.size w0 w) (hpl : p0 ≤ b.length) (hm : b.length < 4611686018427387904) (hby : ∀ p, 0 ≤ LexW.at_ b p ∧ LexW.at_ b p ≤ 255) (h : LexW.text b k [] p0 = some (r, out, q)) :
    Calls Tryd.prog 32 #[.pointer (some ⟨g, 0, none⟩)] w fun e w' => ∃ v, e = .returned (.tuple #[.string (strOfNums out), v]) ∧ BadE w' v (r.map fun (n : Nat) => (n : Int)) ∧ LexS w0 w' g b q ∧ Below w0.heap.size w0 w' ∧ KeepBut w w' g none := by
  have HI0 := Aside0.mk hI
  have HB0 := Aside0.mk hB
  have HBY := Aside0.mk hby
  have HW0 := Aside0.mk hB.size
  clear hI hB hby
  go_enter Tryd.func32, Tryd.ntmps32
  go_wp2
  go_loopg [4] k (fun kq v4 wr => ∃ (p : Nat) (o : List Int), Aside0 (LexW.text b kq o p = some (r, out, q)) ∧ p ≤ b.length ∧ Aside0 (LexS w0 wr g b p) ∧ Aside0 (Below w0.heap.size w0 wr) ∧ Aside0 (KeepBut w wr g none) ∧ Aside0 (Kd.R (Kd.int .u8) 5 wr w.heap.size (fun _ => True) v4 o))
  case atStart => exact ⟨p0, [], ⟨h⟩, hpl, HI0, HB0, ⟨KeepBut.refl _ _ _⟩, ⟨Kd.R_nil _ _ _ _ _⟩⟩
  case round =>
    clear HI0 HB0 h hpl
    obtain ⟨p, o, HX, hp1, HI, HB, HK, HO⟩ := hrel
    have hm2 : b.length < 9223372036854775807 := by omega
    cases gk with
    | zero => exact absurd HX.out (by simp [LexW.text])
    | succ k1 =>
      have hx := HX.out
      rw [LexW.text] at hx
      obtain ⟨⟨n, wh⟩, hgd, hx⟩ := Option.bind_eq_some_iff.mp hx
      dsimp only at hx
      have HGD := Aside0.mk hgd
      clear HX hgd
      have hq1 : p ≤ LexW.tq b p := LexW.le_pass _ _ _ _ rfl
      have hq2 : LexW.tq b p ≤ b.length := LexW.pass_le _ _ _ _ rfl hp1
      have hpk := LexW.peek_f b (LexW.tq b p)
      have HQ := Aside0.mk (show LexW.pass LexW.plain b p = LexW.tq b p from rfl)
      by_cases hn : 0 ≤ n ∧ n ≤ (LexW.tpl b p).length
      · rw [if_pos hn] at hx
        obtain ⟨A1, c1, HG1, hg1, HS1, hcp1⟩ := HI.out
        have hd1 := cellLexS_1 HG1
        clear HG1 hg1 HS1 hcp1
        go_upto_region 4 with (first | (go_at_call 27; (with_reducible refine (lex_scanner_pass.calls_plain g b p w0 _ HI.out HB.out hp1 hm2).mono ?_); rintro e w1 ⟨rfl, hi, hb, hk⟩; rw [HQ.out] at hi; have n4_ := Aside0.mk (LexT.Rkeep HO.out HI.out hk); clear HO; have HO := n4_; clear n4_; have n0_ := Aside0.mk (keep_from HK.out hk); have n1_ := Aside0.mk hb; have n2_ := Aside0.mk hi; clear HK HB HI hi hb hk; have HK := n0_; have HB := n1_; have HI := n2_; clear n0_ n1_ n2_))
        clear hd1
        obtain ⟨A0, c0, HG, hg, HS, hcp⟩ := HI.out
        have hc0 := cellLexS_0 HG
        have hc1 := cellLexS_1 HG
        clear HG hg
        obtain ⟨i0, hi0, _, hsz0, _⟩ := info_parts info5
        obtain ⟨A9, hcut, hA9, hC9⟩ := print_mid_of (P := Tryd.prog) (Value.int .u8) 0 22 5 .i64 .i64 Tryd.underlying22 hi0 hsz0 A0 c0 b (p : Int) (LexW.tq b p : Int) (by omega) (by omega) (by omega) hcp
        simp only [Int.toNat_natCast] at hcut hA9 hC9
        rw [show (b.take (LexW.tq b p)).drop p = LexW.tpl b p from rfl] at hcut hA9 hC9
        have HRPW := Aside0.mk (show Kd.C (Kd.int .u8) w0 A9 (LexW.tpl b p).length (LexW.tpl b p) from Kd.C_of_reads (h1 := fun _ => rfl) (hA9 _ (Kd.reads_of_C HS)))
        clear HS
        have HCP := Aside0.mk hC9
        clear hA9 hC9 hi0 hsz0 hcp
        have b1 : decide ((p : Int) ≤ (LexW.tq b p : Int)) = true := decide_eq_true (by omega)
        go_wp2
        go_quiet (fail)
        have n0_ := Aside0.mk (keep_drewN HK.out nq)
        have n1_ := Aside0.mk (pw_below_drewN HB.out nq)
        have n2_ := Aside0.mk (LexS.drewN HI.out nq)
        have n3_ := Aside0.mk (Kd.R_drewN HO.out nq)
        clear HK HB HI HO hc0 hc1 hcut b1
        have HK := n0_
        have HB := n1_
        have HI := n2_
        have HO := n3_
        clear n0_ n1_ n2_ n3_
        generalize w1.drewN nq = w5 at HK HB HI HO ⊢
        have HPK := Aside0.mk hpk
        clear hpk
        go_upto_region 7 with (first | (go_at_call 16; (with_reducible refine (utf_Good.calls _ _ _ (LexW.tpl b p) n wh _ (Kd.C_below HRPW.out HB.out) HCP.out HGD.out).mono ?_); rintro e w1 ⟨rfl, hd⟩; have hb := hd.below; clear hd; have n4_ := Aside0.mk (LexT.Rkeep HO.out HI.out (KeepBut.of_below hb g none)); clear HO; have HO := n4_; clear n4_; have n0_ := Aside0.mk (keep_from HK.out (KeepBut.of_below hb g none)); have n1_ := Aside0.mk (below_step HB.out hb); have n2_ := Aside0.mk (HI.out.below hb); clear HK HB HI hb; have HK := n0_; have HB := n1_; have HI := n2_; clear n0_ n1_ n2_) | (go_at_call 28; (with_reducible refine (lexs_peek.calls g b (LexW.tq b p) _ _ _ w0 _ HI.out HB.out HPK.out).mono ?_); rintro e w1 ⟨rfl, hi, hb, hk⟩; have n4_ := Aside0.mk (LexT.Rkeep HO.out HI.out hk); clear HO; have HO := n4_; clear n4_; have n0_ := Aside0.mk (keep_from HK.out hk); have n1_ := Aside0.mk hb; have n2_ := Aside0.mk hi; clear HK HB HI hi hb hk; have HK := n0_; have HB := n1_; have HI := n2_; clear n0_ n1_ n2_))
        obtain ⟨hn0, hn1⟩ := hn
        have htl : (LexW.tpl b p).length = LexW.tq b p - p := by unfold LexW.tpl; rw [List.length_drop, List.length_take]; omega
        have hwb : wrap64 (wrap64 ((p : Int) + n) + 1) = ((p + n.toNat + 1 : Nat) : Int) := by unfold wrap64; omega
        have hwc : wrap64 ((p : Int) + n) = (p : Int) + n := by unfold wrap64; omega
        clear htl
        by_cases hw : wh = false ∧ (LexW.tq b p < b.length ∨ n < (LexW.tpl b p).length)
        · rw [if_pos hw] at hx
          obtain ⟨rfl, hor⟩ := hw
          simp only [Option.some.injEq, Prod.mk.injEq] at hx
          obtain ⟨e1, e2, e3⟩ := hx
          subst e1; subst e2; subst e3
          have HWB := Aside0.mk hwb
          have HWC := Aside0.mk hwc
          by_cases hq : LexW.tq b p < b.length
          · simp only [hq, if_true, decide_true]
            clear hwb hwc hor hn0 hn1 hq1 hq2
            go_wp2
            go_ret2
            exact ⟨_, rfl, ⟨_, rfl, by first | (simpa using heap_alloc_new _ _) | (dsimp only [Option.map_some]; rw [← HWB.out, HWC.out]; simpa [HWC.out] using heap_alloc_new _ _)⟩, HI.out.alloc _, below_alloc HB.out _, keep_alloc HK.out _⟩
          · have b3 : decide (n < ((LexW.tpl b p).length : Int)) = true := decide_eq_true (hor.resolve_left hq)
            simp only [hq, if_false, decide_false]
            clear hwb hwc hor hn0 hn1 hq1 hq2
            go_wp2
            go_ret2
            exact ⟨_, rfl, ⟨_, rfl, by first | (simpa using heap_alloc_new _ _) | (dsimp only [Option.map_some]; rw [← HWB.out, HWC.out]; simpa [HWC.out] using heap_alloc_new _ _)⟩, HI.out.alloc _, below_alloc HB.out _, keep_alloc HK.out _⟩
        · rw [if_neg hw] at hx
          by_cases hc : LexW.tq b p < b.length ∧ 32 ≤ LexW.at_ b (LexW.tq b p)
          · rw [if_pos hc] at hx
            obtain ⟨hq, hc2⟩ := hc
            have hwt : wh = true := by cases wh with | true => rfl | false => exact absurd ⟨rfl, .inl hq⟩ hw
            subst hwt
            have b4 : decide (LexW.at_ b (LexW.tq b p) < 32) = false := decide_eq_false (by omega)
            simp only [hq, if_true, decide_true]
            clear hwb hwc hn0 hn1 hw
            by_cases hl : o.length + (LexW.tpl b p).length < 140737488355328
            · rw [if_pos hl] at hx
              have HL := Aside0.mk hl
              clear hl
              obtain ⟨o2, ho2⟩ : ∃ x, x = o ++ LexW.tpl b p := ⟨_, rfl⟩
              rw [← ho2] at hx
              have HO2N := Aside0.mk ho2
              clear ho2
              go_upto_region 12 with (first | ((with_reducible refine gate_builtin (b := .append) (xs := #[.tmp 65, .tmp 66]) rfl ?_); at_builtin; refine Kd.R_append_rows (Kd.int .u8) (w0 := w1) w.heap.size rfl (.tmp 65) (.tmp 66) 22 5 (.int .u8 0) 1 rfl Tryd.underlying22 info5 rfl (by decide) (by omega) u4 o (LexW.tpl b p) _ _ _ (fun _ => True) (fun _ => False) rfl rfl HO.out (Kd.C_below HRPW.out HB.out) (fun _ _ h => h) (fun _ h => h.elim) (fun _ _ => trivial) (Below.refl _ _) HK.out.1 (by have := HL.out; omega) ?_; intro v6 w6 ho hb hg hat; rw [← HO2N.out] at ho; have n0_ := Aside0.mk (LexT.keep_base HK.out hb); have n1_ := Aside0.mk (HB.out.trans (hb.mono HW0.out)); have n2_ := Aside0.mk (HI.out.grown hg (HI.out.own_ne HO.out (by decide))); have n3_ := Aside0.mk ho; clear HK HB HI HO hb hg hat ho; have HK := n0_; have HB := n1_; have HI := n2_; have HO := n3_; clear n0_ n1_ n2_ n3_))
              obtain ⟨A2, c2, HG2, hg2, HS2, hcp2⟩ := HI.out
              have hd1 := cellLexS_1 HG2
              have hd2 := blk_frozen HG2 1
              clear HG2 hg2 HS2 hcp2
              have hsw : wrap64 ((LexW.tq b p : Int) + 1) = ((LexW.tq b p + 1 : Nat) : Int) := by unfold wrap64; omega
              have HSW := Aside0.mk hsw
              clear hsw
              by_cases h34 : LexW.at_ b (LexW.tq b p) = 34
              · rw [if_pos h34] at hx
                simp only [Option.some.injEq, Prod.mk.injEq] at hx
                obtain ⟨e1, e2, e3⟩ := hx
                subst e1; subst e2; subst e3
                have b34 : (LexW.at_ b (LexW.tq b p) == 34) = true := beq_iff_eq.mpr h34
                go_upto_region 14 with (fail)
                obtain ⟨Ao, co, eo⟩ := Kd.R_slice HO.out
                subst eo
                have HO2 := Aside0.mk (LexT.Rkeep HO.out HI.out (KeepBut.set_ (KeepBut.refl w6 g none) 1 (.int .i64 ((LexW.tq b p : Int) + 1))))
                have hcv := Kd.C_string (P := Tryd.prog) (A := Ao) (c := co) Tryd.underlying22 Tryd.underlying5 Tryd.underlying9 (Kd.R_reads' HO2.out).2.2
                go_wp2
                go_ret2
                exact ⟨_, rfl, rfl, HI.out.set_1 _, below_set HB.out HI.out.ge, HK.out.set_ _ _⟩
              · rw [if_neg h34] at hx
                have b34 : (LexW.at_ b (LexW.tq b p) == 34) = false := beq_eq_false_iff_ne.mpr h34
                go_upto_region 15 with (fail)
                have n0_ := Aside0.mk (HK.out.set_ 1 (.int .i64 ((LexW.tq b p : Int) + 1)))
                have n1_ := Aside0.mk (show Below w0.heap.size w0 (w6.setCell ⟨g, 1, none⟩ (.int .i64 ((LexW.tq b p : Int) + 1))) from below_set HB.out HI.out.ge)
                have n2_ := Aside0.mk (show LexS w0 (w6.setCell ⟨g, 1, none⟩ (.int .i64 ((LexW.tq b p : Int) + 1))) g b ((LexW.tq b p + 1 : Nat) : Int) from HI.out.set_1 _)
                have n3_ := Aside0.mk (LexT.Rkeep HO.out HI.out (KeepBut.set_ (KeepBut.refl w6 g none) 1 (.int .i64 ((LexW.tq b p : Int) + 1))))
                clear HK HB HI HO hd1 hd2
                have HK := n0_
                have HB := n1_
                have HI := n2_
                have HO := n3_
                clear n0_ n1_ n2_ n3_
                generalize w6.setCell ⟨g, 1, none⟩ (.int .i64 ((LexW.tq b p : Int) + 1)) = w7 at HK HB HI HO ⊢
                rcases hes : LexW.escape b (LexW.tq b p + 1) with ⟨r8, n8, q8⟩
                simp only [hes] at hx
                have hqs : LexW.tq b p + 1 ≤ b.length := by omega
                cases r8 with
                | some e8 =>
                  simp only [Option.isSome_some, if_true, Option.some.injEq, Prod.mk.injEq] at hx
                  obtain ⟨e1, e2, e3⟩ := hx
                  subst e1; subst e2; subst e3
                  go_wp2_with (first | (go_at_call 48; (with_reducible refine (lex_scanner_escape.calls g b (LexW.tq b p + 1) _ _ _ w0 _ HI.out HB.out hqs hm2 HBY.out hes).mono ?_); rintro e w1 ⟨v1, rfl, he, hi, hb, hk⟩; obtain ⟨pe, rfl, hpe⟩ := he; have HE := Aside0.mk (show BadE _ _ (some _) from ⟨pe, rfl, hpe⟩); clear hpe; have n0_ := Aside0.mk (keep_from HK.out hk); have n1_ := Aside0.mk hb; have n2_ := Aside0.mk hi; clear HK HB HI hi hb hk; have HK := n0_; have HB := n1_; have HI := n2_; clear n0_ n1_ n2_))
                  go_ret2
                  exact ⟨_, rfl, HE.out, HI.out, HB.out, HK.out⟩
                | none =>
                  simp only [Option.isSome_none, Bool.false_eq_true, if_false] at hx
                  obtain ⟨⟨o3, e3⟩, hput, hx⟩ := Option.bind_eq_some_iff.mp hx
                  dsimp only at hx
                  have HPU := Aside0.mk hput
                  have HX := Aside0.mk hx
                  clear hput hx
                  have lq8 := LexW.escape_le hes hqs
                  go_wp2_with (first | (go_at_call 48; (with_reducible refine (lex_scanner_escape.calls g b (LexW.tq b p + 1) _ _ _ w0 _ HI.out HB.out hqs hm2 HBY.out hes).mono ?_); rintro e w1 ⟨v1, rfl, he, hi, hb, hk⟩; (obtain rfl : v1 = _ := he); have n4_ := Aside0.mk (LexT.Rkeep HO.out HI.out hk); clear HO; have HO := n4_; clear n4_; have n0_ := Aside0.mk (keep_from HK.out hk); have n1_ := Aside0.mk hb; have n2_ := Aside0.mk hi; clear HK HB HI hi hb hk; have HK := n0_; have HB := n1_; have HI := n2_; clear n0_ n1_ n2_) | (go_at_call 49; obtain ⟨Ao, co, eo⟩ := Kd.R_slice HO.out; subst eo; (with_reducible refine (utf_Put.calls Ao co o2 n8 o3 e3 _ (Kd.R_reads' HO.out).2.2 (Kd.R_reads' HO.out).2.1 HPU.out).mono ?_); rintro e w9 ⟨v9, rfl, hr, hb⟩; have n4_ := Aside0.mk (Kd.R_lower hr HK.out.1); clear hr HO; have HO := n4_; clear n4_; have n0_ := Aside0.mk (keep_from HK.out (KeepBut.of_below hb g none)); have n1_ := Aside0.mk (below_step HB.out hb); have n2_ := Aside0.mk (HI.out.below hb); clear HK HB HI hb; have HK := n0_; have HB := n1_; have HI := n2_; clear n0_ n1_ n2_))
                  go_roundg k1
                  case measure => omega
                  case rel => exact ⟨q8, o3, HX, lq8, HI, HB, HK, HO⟩
            · rw [if_neg hl] at hx
              cases hx
          · rw [if_neg hc] at hx
            simp only [Option.some.injEq, Prod.mk.injEq] at hx
            obtain ⟨e1, e2, e3⟩ := hx
            subst e1; subst e2; subst e3
            by_cases hq : LexW.tq b p < b.length
            · have hwt : wh = true := by cases wh with | true => rfl | false => exact absurd ⟨rfl, .inl hq⟩ hw
              subst hwt
              have b4 : decide (LexW.at_ b (LexW.tq b p) < 32) = true := decide_eq_true (by omega)
              simp only [hq, if_true, decide_true]
              clear hwb hwc hn0 hn1 hw hc
              go_wp2_with (first | (go_at_call 33; (with_reducible refine (lex_scanner_fail.calls g b (LexW.tq b p) (by omega) w0 _ HI.out HB.out).mono ?_); rintro e w1 ⟨v1, rfl, he, hi, hb, hk⟩; have HE := Aside0.mk he; clear he; have n0_ := Aside0.mk (keep_from HK.out hk); have n1_ := Aside0.mk hb; have n2_ := Aside0.mk hi; clear HK HB HI hi hb hk; have HK := n0_; have HB := n1_; have HI := n2_; clear n0_ n1_ n2_))
              go_ret2
              exact ⟨_, rfl, HE.out, HI.out, HB.out, HK.out⟩
            · simp only [hq, if_false, decide_false]
              cases wh with
              | true =>
                clear hwb hwc hn0 hn1 hw hc
                go_wp2_with (first | (go_at_call 33; (with_reducible refine (lex_scanner_fail.calls g b (LexW.tq b p) (by omega) w0 _ HI.out HB.out).mono ?_); rintro e w1 ⟨v1, rfl, he, hi, hb, hk⟩; have HE := Aside0.mk he; clear he; have n0_ := Aside0.mk (keep_from HK.out hk); have n1_ := Aside0.mk hb; have n2_ := Aside0.mk hi; clear HK HB HI hi hb hk; have HK := n0_; have HB := n1_; have HI := n2_; clear n0_ n1_ n2_))
                go_ret2
                exact ⟨_, rfl, HE.out, HI.out, HB.out, HK.out⟩
              | false =>
                have b5 : decide (n < ((LexW.tpl b p).length : Int)) = false := decide_eq_false fun h => hw ⟨rfl, .inr h⟩
                clear hwb hwc hn0 hn1 hw hc
                go_wp2_with (first | (go_at_call 33; (with_reducible refine (lex_scanner_fail.calls g b (LexW.tq b p) (by omega) w0 _ HI.out HB.out).mono ?_); rintro e w1 ⟨v1, rfl, he, hi, hb, hk⟩; have HE := Aside0.mk he; clear he; have n0_ := Aside0.mk (keep_from HK.out hk); have n1_ := Aside0.mk hb; have n2_ := Aside0.mk hi; clear HK HB HI hi hb hk; have HK := n0_; have HB := n1_; have HI := n2_; clear n0_ n1_ n2_))
                go_ret2
                exact ⟨_, rfl, HE.out, HI.out, HB.out, HK.out⟩
      · rw [if_neg hn] at hx
        cases hx

-- GIVEN plain making
theorem LexW.inj4 {a a' : Option Nat} {b b' : Int} {c c' : List Int} {d d' : Nat} (h : some (a, b, c, d) = some (a', b', c', d')) : a = a' ∧ b = b' ∧ c = c' ∧ d = d' := by cases h; exact ⟨rfl, rfl, rfl, rfl⟩
def LexW.cut (b : List Int) (p q : Nat) : List Int := (b.take q).drop p
/-- What stands at p, behind the blanks: the bad length, the kind, a string's text, where it ends. -/
def LexW.sw (b : List Int) (k p : Nat) : Option (Option Nat × Int × List Int × Nat) :=
  if p < b.length then
    (if [91, 93, 123, 125, 44, 58].contains (LexW.at_ b p) = true then some (none, 4, [], p + 1)
    else if LexW.at_ b p = 110 then some ((LexW.exactly [110, 117, 108, 108] b p).1, 3, [], (LexW.exactly [110, 117, 108, 108] b p).2)
    else if LexW.at_ b p = 116 then some ((LexW.exactly [116, 114, 117, 101] b p).1, 3, [], (LexW.exactly [116, 114, 117, 101] b p).2)
    else if LexW.at_ b p = 102 then some ((LexW.exactly [102, 97, 108, 115, 101] b p).1, 3, [], (LexW.exactly [102, 97, 108, 115, 101] b p).2)
    else if LexW.at_ b p = 45 ∨ LexW.digit (LexW.at_ b p) = true then some ((LexW.number b p).1, 2, [], (LexW.number b p).2)
    else if LexW.at_ b p = 34 then (LexW.text b k [] (p + 1)).bind fun t => some (t.1, 1, t.2.1, t.2.2)
    else some (some (p + 1), 0, [], p))
  else some (none, 0, [], p)
def LexW.token (b : List Int) (k p0 : Nat) : Option (Option Nat × Int × List Int × Nat × Nat) :=
  (LexW.sw b k (LexW.pass LexW.blank b p0)).bind fun s =>
    if s.1.isSome = true then some (s.1, 0, [], 0, 0) else some (none, s.2.1, if s.2.1 = 1 then s.2.2.1 else LexW.cut b (LexW.pass LexW.blank b p0) s.2.2.2, LexW.pass LexW.blank b p0, s.2.2.2)
theorem LexT.sign (c : Int) (W : World) : Calls Tryd.prog 25 #[.int .u8 c, .slice (some ⟨W.heap.size, 0, none⟩) 6 6] (W.alloc (.cells #[.int .u8 91, .int .u8 93, .int .u8 123, .int .u8 125, .int .u8 44, .int .u8 58] 5)) fun e w' => e = .returned (.bool ([91, 93, 123, 125, 44, 58].contains c)) ∧ Below W.heap.size W w' := by
  refine (lex_one.calls 7 c (some ⟨W.heap.size, 0, none⟩) 6 [91, 93, 123, 125, 44, 58] ([91, 93, 123, 125, 44, 58].contains c) _ (LexT.lit W .u8 [91, 93, 123, 125, 44, 58] 5 _ rfl (by simp)) (Nat.le_refl _) (LexW.one_f c [91, 93, 123, 125, 44, 58] (by simp) 6 0 7 rfl (by simp) (by omega))).mono ?_
  rintro e w1 ⟨rfl, hd⟩
  exact ⟨rfl, below_step (below_alloc (Below.refl _ _) _) hd.below⟩
theorem LexT.keep_far {w W : World} {g t j : Nat} {v : Value} (h : KeepBut w W g none) (hg : w.heap.size ≤ t) : KeepBut w (W.setCell ⟨t, j, none⟩ v) g none :=
  ⟨by rw [show (W.setCell ⟨t, j, none⟩ v).heap.size = W.heap.size by simp [World.setCell]]; exact h.1, fun i hi hig hr => (Below.heap_setCell W ⟨t, j, none⟩ v i (show i ≠ t by omega)).trans (h.2 i hi hig hr)⟩
theorem BadE.far {W : World} {v : Value} {r : Option Int} {t j : Nat} {u : Value} {cs : Array Value} (h : BadE W v r) (ht : W.heap[t]? = some (.cells cs 25 (0, 0))) : BadE (W.setCell ⟨t, j, none⟩ u) v r := by
  cases r with
  | none => exact h
  | some L =>
    obtain ⟨p, e, hp⟩ := h
    refine ⟨p, e, blk_far hp (p := ⟨t, j, none⟩) ?_ u⟩
    intro he
    have he2 : p = t := he
    rw [he2, ht] at hp
    injection hp with hp
    injection hp with _ ht2
    exact absurd ht2 (by decide)
theorem LexW.number_le {b : List Int} {p q : Nat} {r : Option Nat} (h : LexW.number b p = (r, q)) (hp : p ≤ b.length) : q ≤ b.length := by
  unfold LexW.number LexW.int_ LexW.frac LexW.expo at h
  rcases h1 : LexW.may [45] b p with ⟨m1, q1⟩
  have l1 := LexW.may_le h1 hp
  rcases h2 : LexW.may [48] b q1 with ⟨m2, q2⟩
  have l2 := LexW.may_le h2 l1
  rcases h3 : LexW.digits b q2 with ⟨r3, q3⟩
  have l3 := LexW.digits_le h3 l2
  have key : ∀ x, x ≤ b.length → ∀ {r q}, (if (if (LexW.may [46] b x).1 = true then LexW.digits b (LexW.may [46] b x).2 else (none, (LexW.may [46] b x).2)).1.isSome = true then (if (LexW.may [46] b x).1 = true then LexW.digits b (LexW.may [46] b x).2 else (none, (LexW.may [46] b x).2)) else if (LexW.may [101, 69] b (if (LexW.may [46] b x).1 = true then LexW.digits b (LexW.may [46] b x).2 else (none, (LexW.may [46] b x).2)).2).1 = true then LexW.digits b (LexW.may [43, 45] b (LexW.may [101, 69] b (if (LexW.may [46] b x).1 = true then LexW.digits b (LexW.may [46] b x).2 else (none, (LexW.may [46] b x).2)).2).2).2 else (none, (LexW.may [101, 69] b (if (LexW.may [46] b x).1 = true then LexW.digits b (LexW.may [46] b x).2 else (none, (LexW.may [46] b x).2)).2).2)) = (r, q) → q ≤ b.length := by
    intro x hx r q h
    rcases h4 : LexW.may [46] b x with ⟨m4, q4⟩
    have l4 := LexW.may_le h4 hx
    rcases h5 : LexW.digits b q4 with ⟨r5, q5⟩
    have l5 := LexW.digits_le h5 l4
    simp only [h4, h5] at h
    have fin : ∀ y, y ≤ b.length → ∀ {r q}, (if (LexW.may [101, 69] b y).1 = true then LexW.digits b (LexW.may [43, 45] b (LexW.may [101, 69] b y).2).2 else (none, (LexW.may [101, 69] b y).2)) = (r, q) → q ≤ b.length := by
      intro y hy r q h
      rcases h6 : LexW.may [101, 69] b y with ⟨m6, q6⟩
      have l6 := LexW.may_le h6 hy
      rcases h7 : LexW.may [43, 45] b q6 with ⟨m7, q7⟩
      have l7 := LexW.may_le h7 l6
      simp only [h6, h7] at h
      split at h
      · exact LexW.digits_le h l7
      · cases h; exact l6
    cases m4 with
    | true =>
      simp only [if_true] at h
      split at h
      · cases h; exact l5
      · exact fin _ l5 h
    | false =>
      simp only [Bool.false_eq_true, if_false, Option.isSome_none] at h
      exact fin _ l4 h
  simp only [h1, h2, h3] at h
  cases m2 with
  | true =>
    simp only [if_true, Option.isSome_none, Bool.false_eq_true, if_false] at h
    exact key _ l2 h
  | false =>
    simp only [Bool.false_eq_true, if_false] at h
    split at h
    · cases h; exact l3
    · exact key _ l3 h
theorem LexW.text_le {b : List Int} : ∀ (k : Nat) {o : List Int} {p : Nat} {r : Option Nat} {out : List Int} {q : Nat}, LexW.text b k o p = some (r, out, q) → p ≤ b.length → q ≤ b.length := by
  intro k
  induction k with
  | zero => intro o p r out q h; cases h
  | succ k ih =>
    intro o p r out q h hp
    rw [LexW.text] at h
    obtain ⟨gd, _, h⟩ := Option.bind_eq_some_iff.mp h
    have hq2 : LexW.tq b p ≤ b.length := LexW.pass_le _ _ _ _ rfl hp
    split at h
    · split at h
      · cases h; exact hq2
      · split at h
        · rename_i hc
          split at h
          · split at h
            · cases h; omega
            · rcases hes : LexW.escape b (LexW.tq b p + 1) with ⟨r8, n8, q8⟩
              have l8 := LexW.escape_le hes (by omega)
              simp only [hes] at h
              split at h
              · cases h; exact l8
              · obtain ⟨o3, _, h⟩ := Option.bind_eq_some_iff.mp h
                exact ih h l8
          · cases h
        · cases h; exact hq2
    · cases h
theorem LexW.sw_le {b : List Int} {k p : Nat} {r : Option Nat} {kd : Int} {out : List Int} {q : Nat} (h : LexW.sw b k p = some (r, kd, out, q)) (hp : p ≤ b.length) : q ≤ b.length := by
  unfold LexW.sw at h
  split at h
  · split at h
    · cases h; omega
    · split at h
      · cases h; exact LexW.exactly_le _ (r := (LexW.exactly [110, 117, 108, 108] b p).1) rfl hp
      · split at h
        · cases h; exact LexW.exactly_le _ (r := (LexW.exactly [116, 114, 117, 101] b p).1) rfl hp
        · split at h
          · cases h; exact LexW.exactly_le _ (r := (LexW.exactly [102, 97, 108, 115, 101] b p).1) rfl hp
          · split at h
            · cases h; exact LexW.number_le (r := (LexW.number b p).1) rfl hp
            · split at h
              · obtain ⟨t, ht, h⟩ := Option.bind_eq_some_iff.mp h
                obtain ⟨t1, t2, t3⟩ := t
                cases h
                exact LexW.text_le _ ht (by omega)
              · cases h; exact hp
  · cases h; exact hp
theorem LexW.must_ge {T : Int → Bool} {b : List Int} {p q : Nat} {r : Option Nat} (h : LexW.must T b p = (r, q)) : p ≤ q := by
  unfold LexW.must at h
  split at h
  · split at h <;> cases h <;> omega
  · cases h; exact Nat.le_refl _
theorem LexW.digits_ge {b : List Int} {p q : Nat} {r : Option Nat} (h : LexW.digits b p = (r, q)) : p ≤ q := by
  unfold LexW.digits at h
  rcases hm : LexW.must LexW.digit b p with ⟨r1, q1⟩
  rw [hm] at h
  cases h
  exact Nat.le_trans (LexW.must_ge hm) (LexW.le_pass _ _ _ _ rfl)
theorem LexW.may_ge {of b : List Int} {p q : Nat} {m : Bool} (h : LexW.may of b p = (m, q)) : p ≤ q := by
  unfold LexW.may at h
  split at h
  · split at h <;> cases h <;> omega
  · cases h; exact Nat.le_refl _
theorem LexW.exactly_ge : ∀ (l : List Int) {b : List Int} {p q : Nat} {r : Option Nat}, LexW.exactly l b p = (r, q) → p ≤ q := by
  intro l
  induction l with
  | nil => intro b p q r h; rw [LexW.exactly] at h; cases h; exact Nat.le_refl _
  | cons c l ih =>
    intro b p q r h
    rw [LexW.exactly] at h
    rcases hmu : LexW.must (fun x => x == c) b p with ⟨r1, q1⟩
    rw [hmu] at h
    have := LexW.must_ge hmu
    split at h
    · cases h; exact this
    · exact Nat.le_trans this (ih h)
theorem LexW.int_ge {b : List Int} {p q : Nat} {r : Option Nat} (h : LexW.int_ b p = (r, q)) : p ≤ q := by
  unfold LexW.int_ at h
  split at h
  · cases h; exact LexW.may_ge (m := (LexW.may [48] b p).1) rfl
  · exact Nat.le_trans (LexW.may_ge (m := (LexW.may [48] b p).1) rfl) (LexW.digits_ge h)
theorem LexW.frac_ge {b : List Int} {p q : Nat} {r : Option Nat} (h : LexW.frac b p = (r, q)) : p ≤ q := by
  unfold LexW.frac at h
  split at h
  · exact Nat.le_trans (LexW.may_ge (m := (LexW.may [46] b p).1) rfl) (LexW.digits_ge h)
  · cases h; exact LexW.may_ge (m := (LexW.may [46] b p).1) rfl
theorem LexW.expo_ge {b : List Int} {p q : Nat} {r : Option Nat} (h : LexW.expo b p = (r, q)) : p ≤ q := by
  unfold LexW.expo at h
  have h1 : p ≤ (LexW.may [101, 69] b p).2 := LexW.may_ge (m := (LexW.may [101, 69] b p).1) rfl
  split at h
  · exact Nat.le_trans (Nat.le_trans h1 (LexW.may_ge (m := (LexW.may [43, 45] b (LexW.may [101, 69] b p).2).1) rfl)) (LexW.digits_ge h)
  · cases h; exact h1
theorem LexW.number_ge {b : List Int} {p q : Nat} {r : Option Nat} (h : LexW.number b p = (r, q)) : p ≤ q := by
  unfold LexW.number at h
  have h1 : p ≤ (LexW.may [45] b p).2 := LexW.may_ge (m := (LexW.may [45] b p).1) rfl
  have h2 : (LexW.may [45] b p).2 ≤ (LexW.int_ b (LexW.may [45] b p).2).2 := LexW.int_ge (r := (LexW.int_ b (LexW.may [45] b p).2).1) rfl
  have h3 : (LexW.int_ b (LexW.may [45] b p).2).2 ≤ (LexW.frac b (LexW.int_ b (LexW.may [45] b p).2).2).2 := LexW.frac_ge (r := (LexW.frac b (LexW.int_ b (LexW.may [45] b p).2).2).1) rfl
  split at h
  · have := LexW.int_ge h; omega
  · split at h
    · have := LexW.frac_ge h; omega
    · have := LexW.expo_ge h; omega
theorem LexW.sw_ge {b : List Int} {k p : Nat} {kd : Int} {out : List Int} {q : Nat} (h : LexW.sw b k p = some (none, kd, out, q)) (hk : kd ≠ 1) : p ≤ q := by
  unfold LexW.sw at h
  split at h
  · split at h
    · cases h; omega
    · split at h
      · simp only [Option.some.injEq, Prod.mk.injEq] at h; obtain ⟨h1, _, _, h4⟩ := h; exact LexW.exactly_ge _ (Prod.ext h1 h4)
      · split at h
        · simp only [Option.some.injEq, Prod.mk.injEq] at h; obtain ⟨h1, _, _, h4⟩ := h; exact LexW.exactly_ge _ (Prod.ext h1 h4)
        · split at h
          · simp only [Option.some.injEq, Prod.mk.injEq] at h; obtain ⟨h1, _, _, h4⟩ := h; exact LexW.exactly_ge _ (Prod.ext h1 h4)
          · split at h
            · simp only [Option.some.injEq, Prod.mk.injEq] at h; obtain ⟨h1, _, _, h4⟩ := h; exact LexW.number_ge (Prod.ext h1 h4)
            · split at h
              · obtain ⟨t, _, h⟩ := Option.bind_eq_some_iff.mp h
                simp only [Option.some.injEq, Prod.mk.injEq] at h
                exact absurd h.2.1.symm hk
              · cases h
  · cases h; exact Nat.le_refl _

-- GIVEN plain making
set_option maxHeartbeats 4000000 in
set_option maxRecDepth 100000 in
theorem lex_scanner_token.calls (g : Nat) (b : List Int) (p0 k : Nat) (rt : Option Nat) (kt : Int) (txt : List Int) (ft et : Nat) (w0 w : World) (hI : LexS w0 w g b p0) (hB : Below w0.heap.size w0 w) (hpl : p0 ≤ b.length) (hm : b.length < 4611686018427387904) (hby : ∀ p, 0 ≤ LexW.at_ b p ∧ LexW.at_ b p ≤ 255) (h : LexW.token b k p0 = some (rt, kt, txt, ft, et)) :
    Calls Tryd.prog 17 #[.pointer (some ⟨g, 0, none⟩)] w fun e w' => ∃ v, e = .returned (.tuple #[.agg #[.int .i64 kt, .string (strOfNums txt), .int .i64 ft, .int .i64 et], v]) ∧ BadE w' v (rt.map fun (n : Nat) => (n : Int)) ∧ Below w0.heap.size w0 w' ∧ KeepBut w w' g none := by
  have HBY := Aside0.mk hby
  have HW0 := Aside0.mk hB.size
  have hm2 : b.length < 9223372036854775807 := by omega
  have HI := Aside0.mk hI
  have HK := Aside0.mk (KeepBut.refl w g none)
  have HB := Aside0.mk hB
  clear hI hB hby
  obtain ⟨⟨r, kd, out, q⟩, hsw, h⟩ := Option.bind_eq_some_iff.mp h
  dsimp only at h
  have hp1 : LexW.pass LexW.blank b p0 ≤ b.length := LexW.pass_le _ _ _ _ rfl hpl
  obtain ⟨p, hp⟩ : ∃ p, p = LexW.pass LexW.blank b p0 := ⟨_, rfl⟩
  rw [← hp] at hsw h hp1
  have HP := Aside0.mk hp
  clear hp
  have HQL := Aside0.mk (LexW.sw_le hsw hp1)
  have HPQ := Aside0.mk (fun (e : r = none) (hk : kd ≠ 1) => LexW.sw_ge (by rw [← e]; exact hsw) hk)
  have HH := Aside0.mk h
  clear h
  have HSW := Aside0.mk hsw
  clear hsw
  have hu25 := Tryd.underlying25
  go_enter Tryd.func17, Tryd.ntmps17
  go_upto_region 2 with (first | ((with_reducible refine gate_dst (N := 2) rfl ?_); (try (refine gate_guard (by rfl) ?_; dsimp only)); refine box_event ?hg (N := 2) ?hd (cs := #[.int .i64 0, .string (⟨#[]⟩ : ByteArray), .int .i64 0, .int .i64 0]) (t := 25) ?hr ?_; (case hd => rfl); (case hg => rfl); (case hr => first | (go_simp; done) | (go_simp; rfl)); intro gr hg w2 hbox hb; have n0_ := Aside0.mk (keep_from HK.out (KeepBut.of_below hb g none)); have n1_ := Aside0.mk (below_step HB.out hb); have n2_ := Aside0.mk (HI.out.below hb); have HR := Aside0.mk hbox; have HGR := Aside0.mk (show w.heap.size ≤ gr by rw [hg]; exact Nat.le_refl _); have HNR := Aside0.mk (show gr ≠ g by rw [hg]; exact Nat.ne_of_gt HI.out.lt); clear HK HB HI; have HK := n0_; have HB := n1_; have HI := n2_; clear n0_ n1_ n2_; clear hb hbox hg) | (go_at_call 27; (with_reducible refine (lex_scanner_pass.calls_blank g b p0 w0 _ HI.out HB.out hpl hm2).mono ?_); rintro e w1 ⟨rfl, hi, hb, hk⟩; rw [← HP.out] at hi; have n5_ := Aside0.mk (hk.blk HR.out HNR.out (by simp)); clear HR; have HR := n5_; clear n5_; obtain ⟨A0, c0, HG, hg1, HS, hcp⟩ := hi; have hc1 := cellLexS_1 HG; have hi := (show LexS w0 w1 g b p from ⟨A0, c0, HG, hg1, HS, hcp⟩); clear HG hg1 HS hcp; have n0_ := Aside0.mk (keep_from HK.out hk); have n1_ := Aside0.mk hb; have n2_ := Aside0.mk hi; clear HK HB HI hi hb hk; have HK := n0_; have HB := n1_; have HI := n2_; clear n0_ n1_ n2_))
  clear hpl
  go_cut [4] (fun v4 wc => ∃ gt, v4 = .pointer (some ⟨gt, 0, none⟩) ∧ Aside0 (LexS w0 wc g b p) ∧ Aside0 (Below w0.heap.size w0 wc) ∧ Aside0 (KeepBut w wc g none) ∧ Aside0 (wc.heap[gt]? = some (.cells #[.int .i64 0, .string (⟨#[]⟩ : ByteArray), .int .i64 p, .int .i64 0] 25 (0, 0))) ∧ Aside0 (wc.heap[gr]? = some (.cells #[.int .i64 0, .string (⟨#[]⟩ : ByteArray), .int .i64 0, .int .i64 0] 25 (0, 0))) ∧ Aside0 (w.heap.size ≤ gt) ∧ Aside0 (gt ≠ g) ∧ Aside0 (gr ≠ gt))
  case first =>
    go_wp2_with (first | ((with_reducible refine gate_dst (N := 4) rfl ?_); (try (refine gate_guard (by rfl) ?_; dsimp only)); refine box_event ?hg (N := 4) ?hd (cs := #[.int .i64 0, .string (⟨#[]⟩ : ByteArray), .int .i64 0, .int .i64 0]) (t := 25) ?hr ?_; (case hd => rfl); (case hg => rfl); (case hr => first | (go_simp; done) | (go_simp; rfl)); intro gt hg w2 hbox hb; have n0_ := Aside0.mk (keep_from HK.out (KeepBut.of_below hb g none)); have n1_ := Aside0.mk (below_step HB.out hb); have n2_ := Aside0.mk (HI.out.below hb); have n5_ := Aside0.mk (blk_grown HR.out (grown_of_below hb none) (by simp)); have HNTR := Aside0.mk (show gr ≠ gt by rw [hg]; exact Nat.ne_of_lt (blk_lt HR.out)); have HGT := Aside0.mk (show w.heap.size ≤ gt by rw [hg]; exact HK.out.1); have HNT := Aside0.mk (show gt ≠ g by rw [hg]; exact Nat.ne_of_gt HI.out.lt); clear HK HB HI; have HK := n0_; have HB := n1_; have HI := n2_; clear n0_ n1_ n2_; clear HR; have HR := n5_; have HT := Aside0.mk hbox; have ht0 := (blk_cell hbox 0).trans rfl; have ht1 := (blk_cell hbox 1).trans rfl; have ht2 := (blk_cell hbox 2).trans rfl; have ht3 := (blk_cell hbox 3).trans rfl; have hf0 := blk_frozen hbox 0; have hf1 := blk_frozen hbox 1; have hf2 := blk_frozen hbox 2; have hf3 := blk_frozen hbox 3; clear n5_ hb hbox hg))
    go_meet
    case rel => exact ⟨gt, rfl, ⟨(((HI.out.far (Ne.symm HNT.out) _).far (Ne.symm HNT.out) _).far (Ne.symm HNT.out) _).far (Ne.symm HNT.out) _⟩, ⟨below_set (below_set (below_set (below_set HB.out (Nat.le_trans HW0.out HGT.out)) (Nat.le_trans HW0.out HGT.out)) (Nat.le_trans HW0.out HGT.out)) (Nat.le_trans HW0.out HGT.out)⟩, ⟨LexT.keep_far (LexT.keep_far (LexT.keep_far (LexT.keep_far HK.out HGT.out) HGT.out) HGT.out) HGT.out⟩, ⟨blk_put (blk_put (blk_put (blk_put HT.out 0 _ rfl) 1 _ rfl) 2 _ rfl) 3 _ rfl⟩, ⟨blk_far (blk_far (blk_far (blk_far HR.out HNTR.out _) HNTR.out _) HNTR.out _) HNTR.out _⟩, HGT, HNT, HNTR⟩
  case rest =>
    clear HI HB HK HR hc1
    obtain ⟨gt, rfl, HI, HB, HK, HT, HR, HGT, HNT, HNTR⟩ := hcut
    have hpk := LexW.peek_f b p
    obtain ⟨cc, hcc⟩ : ∃ x, x = if p < b.length then LexW.at_ b p else 0 := ⟨_, rfl⟩
    obtain ⟨okk, hok⟩ : ∃ x, x = decide (p < b.length) := ⟨_, rfl⟩
    rw [← hcc, ← hok] at hpk
    have HPK := Aside0.mk hpk
    have HCC := Aside0.mk hcc
    have HOK := Aside0.mk hok
    clear hpk hcc hok
    go_upto_block 0 with (first | (go_at_call 28; (with_reducible refine (lexs_peek.calls g b p _ _ _ w0 _ HI.out HB.out HPK.out).mono ?_); rintro e w1 ⟨rfl, hi, hb, hk⟩; have n5_ := Aside0.mk (hk.blk HR.out HNR.out (by simp)); have n6_ := Aside0.mk (hk.blk HT.out HNT.out (by simp)); clear HR HT; have HR := n5_; have HT := n6_; clear n5_ n6_; have n0_ := Aside0.mk (keep_from HK.out hk); have n1_ := Aside0.mk hb; have n2_ := Aside0.mk hi; clear HK HB HI hi hb hk; have HK := n0_; have HB := n1_; have HI := n2_; clear n0_ n1_ n2_))
    go_cut [7] (fun v7 wc => Aside0 (BadE wc v7 (r.map fun (n : Nat) => (n : Int))) ∧ Aside0 (LexS w0 wc g b q) ∧ Aside0 (Below w0.heap.size w0 wc) ∧ Aside0 (KeepBut w wc g none) ∧ Aside0 (wc.heap[gt]? = some (.cells #[.int .i64 kd, .string (strOfNums out), .int .i64 p, .int .i64 0] 25 (0, 0))) ∧ Aside0 (wc.heap[gr]? = some (.cells #[.int .i64 0, .string (⟨#[]⟩ : ByteArray), .int .i64 0, .int .i64 0] 25 (0, 0))))
    case first =>
      clear HH HQL HP
      have hsw := HSW.out
      clear HSW
      unfold LexW.sw at hsw
      by_cases hlt : p < b.length
      · rw [if_pos hlt] at hsw
        have hok := HOK.out
        have hcc := HCC.out
        rw [decide_eq_true hlt] at hok
        rw [if_pos hlt] at hcc
        subst hok
        clear HOK HCC
        rw [← hcc] at hsw
        clear hcc
        rcases hsg : [91, 93, 123, 125, 44, 58].contains cc with _ | _
        · rw [if_neg (by rw [hsg]; decide)] at hsw
          have HSG := Aside0.mk hsg
          clear hsg
          by_cases c1 : cc = 110
          · have b1 : (cc == 110) = true := beq_iff_eq.mpr c1
            rw [if_pos c1] at hsw
            clear c1
            have HX := Aside0.mk (show LexW.exactly (bytesOf (⟨#[110, 117, 108, 108]⟩ : ByteArray)) b p = (r, q) by obtain ⟨e1, _, _, e2⟩ := LexW.inj4 hsw; exact Prod.ext e1 e2)
            obtain ⟨_, e2, e3, _⟩ := LexW.inj4 hsw
            subst e2; subst e3
            clear hsw
            go_wp2_with (first | (go_at_call 25; (with_reducible refine (LexT.sign cc _).mono ?_); rintro e w1 ⟨rfl, hb⟩; rw [HSG.out]; have n5_ := Aside0.mk (blk_grown HR.out (grown_of_below hb none) (by simp)); have n6_ := Aside0.mk (blk_grown HT.out (grown_of_below hb none) (by simp)); clear HR HT; have HR := n5_; have HT := n6_; clear n5_ n6_; have n0_ := Aside0.mk (keep_from HK.out (KeepBut.of_below hb g none)); have n1_ := Aside0.mk (below_step HB.out hb); have n2_ := Aside0.mk (HI.out.below hb); clear HK HB HI hb; have HK := n0_; have HB := n1_; have HI := n2_; clear n0_ n1_ n2_) | (go_at_call 29; (with_reducible refine (lex_scanner_exactly.calls g b (⟨#[110, 117, 108, 108]⟩ : ByteArray) _ _ _ w0 _ HI.out HB.out hp1 hm2 (by decide) HX.out).mono ?_); rintro e w1 ⟨v1, rfl, he, hi, hb, hk⟩; have HE := Aside0.mk he; clear he; have n5_ := Aside0.mk (hk.blk HR.out HNR.out (by simp)); have n6_ := Aside0.mk (hk.blk HT.out HNT.out (by simp)); clear HR HT; have HR := n5_; have HT := n6_; clear n5_ n6_; have ht0 := (blk_cell HT.out 0).trans rfl; have hf0 := blk_frozen HT.out 0; have n0_ := Aside0.mk (keep_from HK.out hk); have n1_ := Aside0.mk hb; have n2_ := Aside0.mk hi; clear HK HB HI hi hb hk; have HK := n0_; have HB := n1_; have HI := n2_; clear n0_ n1_ n2_))
            go_meet
            case rel => exact ⟨⟨HE.out.far HT.out⟩, ⟨HI.out.far (Ne.symm HNT.out) _⟩, ⟨below_set HB.out (Nat.le_trans HW0.out HGT.out)⟩, ⟨LexT.keep_far HK.out HGT.out⟩, ⟨blk_put HT.out 0 _ rfl⟩, ⟨blk_far HR.out HNTR.out _⟩⟩

          · rw [if_neg c1] at hsw
            have b1 : (cc == 110) = false := beq_eq_false_iff_ne.mpr c1
            by_cases c2 : cc = 116
            · have b2 : (cc == 116) = true := beq_iff_eq.mpr c2
              rw [if_pos c2] at hsw
              clear c1 c2
              have HX := Aside0.mk (show LexW.exactly (bytesOf (⟨#[116, 114, 117, 101]⟩ : ByteArray)) b p = (r, q) by obtain ⟨e1, _, _, e2⟩ := LexW.inj4 hsw; exact Prod.ext e1 e2)
              obtain ⟨_, e2, e3, _⟩ := LexW.inj4 hsw
              subst e2; subst e3
              clear hsw
              go_wp2_with (first | (go_at_call 25; (with_reducible refine (LexT.sign cc _).mono ?_); rintro e w1 ⟨rfl, hb⟩; rw [HSG.out]; have n5_ := Aside0.mk (blk_grown HR.out (grown_of_below hb none) (by simp)); have n6_ := Aside0.mk (blk_grown HT.out (grown_of_below hb none) (by simp)); clear HR HT; have HR := n5_; have HT := n6_; clear n5_ n6_; have n0_ := Aside0.mk (keep_from HK.out (KeepBut.of_below hb g none)); have n1_ := Aside0.mk (below_step HB.out hb); have n2_ := Aside0.mk (HI.out.below hb); clear HK HB HI hb; have HK := n0_; have HB := n1_; have HI := n2_; clear n0_ n1_ n2_) | (go_at_call 29; (with_reducible refine (lex_scanner_exactly.calls g b (⟨#[116, 114, 117, 101]⟩ : ByteArray) _ _ _ w0 _ HI.out HB.out hp1 hm2 (by decide) HX.out).mono ?_); rintro e w1 ⟨v1, rfl, he, hi, hb, hk⟩; have HE := Aside0.mk he; clear he; have n5_ := Aside0.mk (hk.blk HR.out HNR.out (by simp)); have n6_ := Aside0.mk (hk.blk HT.out HNT.out (by simp)); clear HR HT; have HR := n5_; have HT := n6_; clear n5_ n6_; have ht0 := (blk_cell HT.out 0).trans rfl; have hf0 := blk_frozen HT.out 0; have n0_ := Aside0.mk (keep_from HK.out hk); have n1_ := Aside0.mk hb; have n2_ := Aside0.mk hi; clear HK HB HI hi hb hk; have HK := n0_; have HB := n1_; have HI := n2_; clear n0_ n1_ n2_))
              go_meet
              case rel => exact ⟨⟨HE.out.far HT.out⟩, ⟨HI.out.far (Ne.symm HNT.out) _⟩, ⟨below_set HB.out (Nat.le_trans HW0.out HGT.out)⟩, ⟨LexT.keep_far HK.out HGT.out⟩, ⟨blk_put HT.out 0 _ rfl⟩, ⟨blk_far HR.out HNTR.out _⟩⟩

            · rw [if_neg c2] at hsw
              have b2 : (cc == 116) = false := beq_eq_false_iff_ne.mpr c2
              by_cases c3 : cc = 102
              · have b3 : (cc == 102) = true := beq_iff_eq.mpr c3
                rw [if_pos c3] at hsw
                clear c1 c2 c3
                have HX := Aside0.mk (show LexW.exactly (bytesOf (⟨#[102, 97, 108, 115, 101]⟩ : ByteArray)) b p = (r, q) by obtain ⟨e1, _, _, e2⟩ := LexW.inj4 hsw; exact Prod.ext e1 e2)
                obtain ⟨_, e2, e3, _⟩ := LexW.inj4 hsw
                subst e2; subst e3
                clear hsw
                go_wp2_with (first | (go_at_call 25; (with_reducible refine (LexT.sign cc _).mono ?_); rintro e w1 ⟨rfl, hb⟩; rw [HSG.out]; have n5_ := Aside0.mk (blk_grown HR.out (grown_of_below hb none) (by simp)); have n6_ := Aside0.mk (blk_grown HT.out (grown_of_below hb none) (by simp)); clear HR HT; have HR := n5_; have HT := n6_; clear n5_ n6_; have n0_ := Aside0.mk (keep_from HK.out (KeepBut.of_below hb g none)); have n1_ := Aside0.mk (below_step HB.out hb); have n2_ := Aside0.mk (HI.out.below hb); clear HK HB HI hb; have HK := n0_; have HB := n1_; have HI := n2_; clear n0_ n1_ n2_) | (go_at_call 29; (with_reducible refine (lex_scanner_exactly.calls g b (⟨#[102, 97, 108, 115, 101]⟩ : ByteArray) _ _ _ w0 _ HI.out HB.out hp1 hm2 (by decide) HX.out).mono ?_); rintro e w1 ⟨v1, rfl, he, hi, hb, hk⟩; have HE := Aside0.mk he; clear he; have n5_ := Aside0.mk (hk.blk HR.out HNR.out (by simp)); have n6_ := Aside0.mk (hk.blk HT.out HNT.out (by simp)); clear HR HT; have HR := n5_; have HT := n6_; clear n5_ n6_; have ht0 := (blk_cell HT.out 0).trans rfl; have hf0 := blk_frozen HT.out 0; have n0_ := Aside0.mk (keep_from HK.out hk); have n1_ := Aside0.mk hb; have n2_ := Aside0.mk hi; clear HK HB HI hi hb hk; have HK := n0_; have HB := n1_; have HI := n2_; clear n0_ n1_ n2_))
                go_meet
                case rel => exact ⟨⟨HE.out.far HT.out⟩, ⟨HI.out.far (Ne.symm HNT.out) _⟩, ⟨below_set HB.out (Nat.le_trans HW0.out HGT.out)⟩, ⟨LexT.keep_far HK.out HGT.out⟩, ⟨blk_put HT.out 0 _ rfl⟩, ⟨blk_far HR.out HNTR.out _⟩⟩

              · rw [if_neg c3] at hsw
                have b3 : (cc == 102) = false := beq_eq_false_iff_ne.mpr c3
                by_cases c4 : cc = 45
                · have b4 : (cc == 45) = true := beq_iff_eq.mpr c4
                  rw [if_pos (.inl c4)] at hsw
                  clear c1 c2 c3 c4
                  have HX := Aside0.mk (show LexW.number b p = (r, q) by obtain ⟨e1, _, _, e2⟩ := LexW.inj4 hsw; exact Prod.ext e1 e2)
                  obtain ⟨_, e2, e3, _⟩ := LexW.inj4 hsw
                  subst e2; subst e3
                  clear hsw
                  go_wp2_with (first | (go_at_call 25; (with_reducible refine (LexT.sign cc _).mono ?_); rintro e w1 ⟨rfl, hb⟩; rw [HSG.out]; have n5_ := Aside0.mk (blk_grown HR.out (grown_of_below hb none) (by simp)); have n6_ := Aside0.mk (blk_grown HT.out (grown_of_below hb none) (by simp)); clear HR HT; have HR := n5_; have HT := n6_; clear n5_ n6_; have n0_ := Aside0.mk (keep_from HK.out (KeepBut.of_below hb g none)); have n1_ := Aside0.mk (below_step HB.out hb); have n2_ := Aside0.mk (HI.out.below hb); clear HK HB HI hb; have HK := n0_; have HB := n1_; have HI := n2_; clear n0_ n1_ n2_) | (go_at_call 31; (with_reducible refine (lex_scanner_number.calls g b p _ _ w0 _ HI.out HB.out hp1 hm2 HX.out).mono ?_); rintro e w1 ⟨v1, rfl, he, hi, hb, hk⟩; have HE := Aside0.mk he; clear he; have n5_ := Aside0.mk (hk.blk HR.out HNR.out (by simp)); have n6_ := Aside0.mk (hk.blk HT.out HNT.out (by simp)); clear HR HT; have HR := n5_; have HT := n6_; clear n5_ n6_; have ht0 := (blk_cell HT.out 0).trans rfl; have hf0 := blk_frozen HT.out 0; have n0_ := Aside0.mk (keep_from HK.out hk); have n1_ := Aside0.mk hb; have n2_ := Aside0.mk hi; clear HK HB HI hi hb hk; have HK := n0_; have HB := n1_; have HI := n2_; clear n0_ n1_ n2_))
                  go_meet
                  case rel => exact ⟨⟨HE.out.far HT.out⟩, ⟨HI.out.far (Ne.symm HNT.out) _⟩, ⟨below_set HB.out (Nat.le_trans HW0.out HGT.out)⟩, ⟨LexT.keep_far HK.out HGT.out⟩, ⟨blk_put HT.out 0 _ rfl⟩, ⟨blk_far HR.out HNTR.out _⟩⟩
                · have b4 : (cc == 45) = false := beq_eq_false_iff_ne.mpr c4
                  rcases hdg : LexW.digit cc with _ | _
                  · rw [if_neg (by rw [hdg]; rintro (h | h); exact c4 h; cases h)] at hsw
                    by_cases c5 : cc = 34
                    · rw [if_pos c5] at hsw
                      have b5 : (cc == 34) = true := beq_iff_eq.mpr c5
                      obtain ⟨⟨t1, t2, t3⟩, ht, hsw⟩ := Option.bind_eq_some_iff.mp hsw
                      have HX := Aside0.mk ht
                      clear ht
                      obtain ⟨e1, e2, e3, e4⟩ := LexW.inj4 hsw
                      dsimp only at e1 e2 e3 e4
                      subst e1; subst e2; subst e3; subst e4; clear hsw
                      have hps : p + 1 ≤ b.length := hlt
                      clear c1 c2 c3 c4 c5
                      go_upto_region 21 with (first | (go_at_call 25; (with_reducible refine (LexT.sign cc _).mono ?_); rintro e w1 ⟨rfl, hb⟩; rw [HSG.out]; have n5_ := Aside0.mk (blk_grown HR.out (grown_of_below hb none) (by simp)); have n6_ := Aside0.mk (blk_grown HT.out (grown_of_below hb none) (by simp)); clear HR HT; have HR := n5_; have HT := n6_; clear n5_ n6_; have n0_ := Aside0.mk (keep_from HK.out (KeepBut.of_below hb g none)); have n1_ := Aside0.mk (below_step HB.out hb); have n2_ := Aside0.mk (HI.out.below hb); clear HK HB HI hb; have HK := n0_; have HB := n1_; have HI := n2_; clear n0_ n1_ n2_; obtain ⟨A0, c0, HG, hg1, HS, hcp⟩ := HI.out; have hc1 := cellLexS_1 HG; have hfg := blk_frozen HG 1; clear HG hg1 HS hcp; have ht0 := (blk_cell HT.out 0).trans rfl; have hf0 := blk_frozen HT.out 0) | (go_at_call 30; (with_reducible refine (LexT.digit cc _).mono ?_); rintro e w1 ⟨rfl, hb⟩; rw [hdg]; have n5_ := Aside0.mk (blk_grown HR.out (grown_of_below hb none) (by simp)); have n6_ := Aside0.mk (blk_grown HT.out (grown_of_below hb none) (by simp)); clear HR HT; have HR := n5_; have HT := n6_; clear n5_ n6_; have n0_ := Aside0.mk (keep_from HK.out (KeepBut.of_below hb g none)); have n1_ := Aside0.mk (below_step HB.out hb); have n2_ := Aside0.mk (HI.out.below hb); clear HK HB HI hb; have HK := n0_; have HB := n1_; have HI := n2_; clear n0_ n1_ n2_; obtain ⟨A0, c0, HG, hg1, HS, hcp⟩ := HI.out; have hc1 := cellLexS_1 HG; have hfg := blk_frozen HG 1; clear HG hg1 HS hcp; have ht0 := (blk_cell HT.out 0).trans rfl; have hf0 := blk_frozen HT.out 0))
                      have n0_ := Aside0.mk (show KeepBut w ((w1.setCell ⟨g, 1, none⟩ (.int .i64 ((p : Int) + 1))).setCell ⟨gt, 0, none⟩ (.int .i64 1)) g none from LexT.keep_far (HK.out.set_ 1 _) HGT.out)
                      have n1_ := Aside0.mk (show Below w0.heap.size w0 ((w1.setCell ⟨g, 1, none⟩ (.int .i64 ((p : Int) + 1))).setCell ⟨gt, 0, none⟩ (.int .i64 1)) from below_set (below_set HB.out HI.out.ge) (Nat.le_trans HW0.out HGT.out))
                      have n2_ := Aside0.mk (show LexS w0 ((w1.setCell ⟨g, 1, none⟩ (.int .i64 ((p : Int) + 1))).setCell ⟨gt, 0, none⟩ (.int .i64 1)) g b ((p + 1 : Nat) : Int) from (HI.out.set_1 _).far (Ne.symm HNT.out) _)
                      have n3_ := Aside0.mk (show ((w1.setCell ⟨g, 1, none⟩ (.int .i64 ((p : Int) + 1))).setCell ⟨gt, 0, none⟩ (.int .i64 1)).heap[gt]? = some (.cells #[.int .i64 1, .string (⟨#[]⟩ : ByteArray), .int .i64 p, .int .i64 0] 25 (0, 0)) from blk_put (blk_far HT.out HNT.out _) 0 _ rfl)
                      have n4_ := Aside0.mk (show ((w1.setCell ⟨g, 1, none⟩ (.int .i64 ((p : Int) + 1))).setCell ⟨gt, 0, none⟩ (.int .i64 1)).heap[gr]? = some (.cells #[.int .i64 0, .string (⟨#[]⟩ : ByteArray), .int .i64 0, .int .i64 0] 25 (0, 0)) from blk_far (blk_far HR.out HNR.out _) HNTR.out _)
                      clear HK HB HI HT HR hc1 hfg ht0 hf0
                      have HK := n0_
                      have HB := n1_
                      have HI := n2_
                      have HT := n3_
                      have HR := n4_
                      clear n0_ n1_ n2_ n3_ n4_
                      generalize (w1.setCell ⟨g, 1, none⟩ (.int .i64 ((p : Int) + 1))).setCell ⟨gt, 0, none⟩ (.int .i64 1) = w7 at HK HB HI HT HR ⊢
                      go_wp2_with (first | (go_at_call 32; (with_reducible refine (lex_scanner_text.calls g b (p + 1) _ _ _ k w0 _ HI.out HB.out hps hm HBY.out HX.out).mono ?_); rintro e w1 ⟨v1, rfl, he, hi, hb, hk⟩; have HE := Aside0.mk he; clear he; have n5_ := Aside0.mk (hk.blk HR.out HNR.out (by simp)); have n6_ := Aside0.mk (hk.blk HT.out HNT.out (by simp)); clear HR HT; have HR := n5_; have HT := n6_; clear n5_ n6_; have ht1 := (blk_cell HT.out 1).trans rfl; have hf1 := blk_frozen HT.out 1; have n0_ := Aside0.mk (keep_from HK.out hk); have n1_ := Aside0.mk hb; have n2_ := Aside0.mk hi; clear HK HB HI hi hb hk; have HK := n0_; have HB := n1_; have HI := n2_; clear n0_ n1_ n2_))
                      go_meet
                      case rel => exact ⟨⟨HE.out.far HT.out⟩, ⟨HI.out.far (Ne.symm HNT.out) _⟩, ⟨below_set HB.out (Nat.le_trans HW0.out HGT.out)⟩, ⟨LexT.keep_far HK.out HGT.out⟩, ⟨blk_put HT.out 1 _ rfl⟩, ⟨blk_far HR.out HNTR.out _⟩⟩
                    · rw [if_neg c5] at hsw
                      have b5 : (cc == 34) = false := beq_eq_false_iff_ne.mpr c5
                      obtain ⟨e1, e2, e3, e4⟩ := LexW.inj4 hsw
                      subst e1; subst e2; subst e3; subst e4; clear hsw
                      clear c1 c2 c3 c4 c5
                      go_wp2_with (first | (go_at_call 25; (with_reducible refine (LexT.sign cc _).mono ?_); rintro e w1 ⟨rfl, hb⟩; rw [HSG.out]; have n5_ := Aside0.mk (blk_grown HR.out (grown_of_below hb none) (by simp)); have n6_ := Aside0.mk (blk_grown HT.out (grown_of_below hb none) (by simp)); clear HR HT; have HR := n5_; have HT := n6_; clear n5_ n6_; have n0_ := Aside0.mk (keep_from HK.out (KeepBut.of_below hb g none)); have n1_ := Aside0.mk (below_step HB.out hb); have n2_ := Aside0.mk (HI.out.below hb); clear HK HB HI hb; have HK := n0_; have HB := n1_; have HI := n2_; clear n0_ n1_ n2_) | (go_at_call 30; (with_reducible refine (LexT.digit cc _).mono ?_); rintro e w1 ⟨rfl, hb⟩; rw [hdg]; have n5_ := Aside0.mk (blk_grown HR.out (grown_of_below hb none) (by simp)); have n6_ := Aside0.mk (blk_grown HT.out (grown_of_below hb none) (by simp)); clear HR HT; have HR := n5_; have HT := n6_; clear n5_ n6_; have n0_ := Aside0.mk (keep_from HK.out (KeepBut.of_below hb g none)); have n1_ := Aside0.mk (below_step HB.out hb); have n2_ := Aside0.mk (HI.out.below hb); clear HK HB HI hb; have HK := n0_; have HB := n1_; have HI := n2_; clear n0_ n1_ n2_) | (go_at_call 33; (with_reducible refine (lex_scanner_fail.calls g b p (by omega) w0 _ HI.out HB.out).mono ?_); rintro e w1 ⟨v1, rfl, he, hi, hb, hk⟩; have HE := Aside0.mk he; clear he; have n5_ := Aside0.mk (hk.blk HR.out HNR.out (by simp)); have n6_ := Aside0.mk (hk.blk HT.out HNT.out (by simp)); clear HR HT; have HR := n5_; have HT := n6_; clear n5_ n6_; have n0_ := Aside0.mk (keep_from HK.out hk); have n1_ := Aside0.mk hb; have n2_ := Aside0.mk hi; clear HK HB HI hi hb hk; have HK := n0_; have HB := n1_; have HI := n2_; clear n0_ n1_ n2_))
                      go_meet
                      case rel => exact ⟨HE, HI, HB, HK, HT, HR⟩
                  · rw [if_pos (.inr hdg)] at hsw
                    clear c1 c2 c3 c4
                    have HX := Aside0.mk (show LexW.number b p = (r, q) by obtain ⟨e1, _, _, e2⟩ := LexW.inj4 hsw; exact Prod.ext e1 e2)
                    obtain ⟨_, e2, e3, _⟩ := LexW.inj4 hsw
                    subst e2; subst e3
                    clear hsw
                    go_wp2_with (first | (go_at_call 25; (with_reducible refine (LexT.sign cc _).mono ?_); rintro e w1 ⟨rfl, hb⟩; rw [HSG.out]; have n5_ := Aside0.mk (blk_grown HR.out (grown_of_below hb none) (by simp)); have n6_ := Aside0.mk (blk_grown HT.out (grown_of_below hb none) (by simp)); clear HR HT; have HR := n5_; have HT := n6_; clear n5_ n6_; have n0_ := Aside0.mk (keep_from HK.out (KeepBut.of_below hb g none)); have n1_ := Aside0.mk (below_step HB.out hb); have n2_ := Aside0.mk (HI.out.below hb); clear HK HB HI hb; have HK := n0_; have HB := n1_; have HI := n2_; clear n0_ n1_ n2_) | (go_at_call 30; (with_reducible refine (LexT.digit cc _).mono ?_); rintro e w1 ⟨rfl, hb⟩; rw [hdg]; have n5_ := Aside0.mk (blk_grown HR.out (grown_of_below hb none) (by simp)); have n6_ := Aside0.mk (blk_grown HT.out (grown_of_below hb none) (by simp)); clear HR HT; have HR := n5_; have HT := n6_; clear n5_ n6_; have n0_ := Aside0.mk (keep_from HK.out (KeepBut.of_below hb g none)); have n1_ := Aside0.mk (below_step HB.out hb); have n2_ := Aside0.mk (HI.out.below hb); clear HK HB HI hb; have HK := n0_; have HB := n1_; have HI := n2_; clear n0_ n1_ n2_) | (go_at_call 31; (with_reducible refine (lex_scanner_number.calls g b p _ _ w0 _ HI.out HB.out hp1 hm2 HX.out).mono ?_); rintro e w1 ⟨v1, rfl, he, hi, hb, hk⟩; have HE := Aside0.mk he; clear he; have n5_ := Aside0.mk (hk.blk HR.out HNR.out (by simp)); have n6_ := Aside0.mk (hk.blk HT.out HNT.out (by simp)); clear HR HT; have HR := n5_; have HT := n6_; clear n5_ n6_; have ht0 := (blk_cell HT.out 0).trans rfl; have hf0 := blk_frozen HT.out 0; have n0_ := Aside0.mk (keep_from HK.out hk); have n1_ := Aside0.mk hb; have n2_ := Aside0.mk hi; clear HK HB HI hi hb hk; have HK := n0_; have HB := n1_; have HI := n2_; clear n0_ n1_ n2_))
                    go_meet
                    case rel => exact ⟨⟨HE.out.far HT.out⟩, ⟨HI.out.far (Ne.symm HNT.out) _⟩, ⟨below_set HB.out (Nat.le_trans HW0.out HGT.out)⟩, ⟨LexT.keep_far HK.out HGT.out⟩, ⟨blk_put HT.out 0 _ rfl⟩, ⟨blk_far HR.out HNTR.out _⟩⟩
        · rw [if_pos hsg] at hsw
          have HSG := Aside0.mk hsg
          clear hsg
          obtain ⟨e1, e2, e3, e4⟩ := LexW.inj4 hsw
          subst e1; subst e2; subst e3; subst e4; clear hsw
          go_wp2_with (first | (go_at_call 25; (with_reducible refine (LexT.sign cc _).mono ?_); rintro e w1 ⟨rfl, hb⟩; rw [HSG.out]; have n5_ := Aside0.mk (blk_grown HR.out (grown_of_below hb none) (by simp)); have n6_ := Aside0.mk (blk_grown HT.out (grown_of_below hb none) (by simp)); clear HR HT; have HR := n5_; have HT := n6_; clear n5_ n6_; have n0_ := Aside0.mk (keep_from HK.out (KeepBut.of_below hb g none)); have n1_ := Aside0.mk (below_step HB.out hb); have n2_ := Aside0.mk (HI.out.below hb); clear HK HB HI hb; have HK := n0_; have HB := n1_; have HI := n2_; clear n0_ n1_ n2_; obtain ⟨A0, c0, HG, hg1, HS, hcp⟩ := HI.out; have hc1 := cellLexS_1 HG; have hfg := blk_frozen HG 1; clear HG hg1 HS hcp; have ht0 := (blk_cell HT.out 0).trans rfl; have hf0 := blk_frozen HT.out 0))
          go_meet
          case rel => exact ⟨⟨rfl⟩, ⟨(HI.out.set_1 _).far (Ne.symm HNT.out) _⟩, ⟨below_set (below_set HB.out HI.out.ge) (Nat.le_trans HW0.out HGT.out)⟩, ⟨LexT.keep_far (HK.out.set_ _ _) HGT.out⟩, ⟨blk_put (blk_far HT.out HNT.out _) 0 _ rfl⟩, ⟨blk_far (blk_far HR.out HNR.out _) HNTR.out _⟩⟩
      · rw [if_neg hlt] at hsw
        have hok := HOK.out
        rw [decide_eq_false hlt] at hok
        subst hok
        clear HOK HCC
        obtain ⟨e1, e2, e3, e4⟩ := LexW.inj4 hsw
        subst e1; subst e2; subst e3; subst e4; clear hsw
        go_wp2
        go_meet
        case rel => exact ⟨⟨rfl⟩, HI, HB, HK, HT, HR⟩
    case rest =>
      clear HSW HI HB HK HT HR HPK HCC HOK
      obtain ⟨HE, HI, HB, HK, HT, HR⟩ := hcut
      have h := HH.out
      clear HH
      have hr0 := (blk_cell HR.out 0).trans rfl
      have hr1 := (blk_cell HR.out 1).trans rfl
      have hr2 := (blk_cell HR.out 2).trans rfl
      have hr3 := (blk_cell HR.out 3).trans rfl
      have hx0 := blk_frozen HR.out 0
      have hx1 := blk_frozen HR.out 1
      have hx2 := blk_frozen HR.out 2
      have hx3 := blk_frozen HR.out 3
      cases r with
      | some e =>
        simp only [Option.isSome_some, if_true, Option.some.injEq, Prod.mk.injEq] at h
        obtain ⟨e1, e2, e3, e4, e5⟩ := h
        subst e1; subst e2; subst e3; subst e4; subst e5
        obtain ⟨pe, rfl, hpe⟩ := HE.out
        have HE := Aside0.mk (show BadE wc _ (some _) from ⟨pe, rfl, hpe⟩)
        clear hpe
        go_wp2
        refine bodyPost_ret (results_ct rfl _ _ gr 25 #[.int .i64 0, .string (⟨#[]⟩ : ByteArray), .int .i64 0, .int .i64 0] (0, 0) _ rfl (by exact blk_put (blk_put (blk_put (blk_put HR.out 0 _ rfl) 1 _ rfl) 2 _ rfl) 3 _ rfl) hu25 rfl (by kernel_rfl)) rfl ?_
        exact ⟨_, rfl, (((HE.out.far HR.out).far (blk_put HR.out 0 _ rfl)).far (blk_put (blk_put HR.out 0 _ rfl) 1 _ rfl)).far (blk_put (blk_put (blk_put HR.out 0 _ rfl) 1 _ rfl) 2 _ rfl), below_set (below_set (below_set (below_set HB.out (Nat.le_trans HW0.out HGR.out)) (Nat.le_trans HW0.out HGR.out)) (Nat.le_trans HW0.out HGR.out)) (Nat.le_trans HW0.out HGR.out), LexT.keep_far (LexT.keep_far (LexT.keep_far (LexT.keep_far HK.out HGR.out) HGR.out) HGR.out) HGR.out⟩
      | none =>
        simp only [Option.isSome_none, Bool.false_eq_true, if_false, Option.some.injEq, Prod.mk.injEq] at h
        obtain ⟨e1, e2, e3, e4, e5⟩ := h
        subst e1; subst e4; subst e5; subst e2
        obtain rfl := HE.out
        clear HE
        have ht0 := (blk_cell HT.out 0).trans rfl
        have ht1 := (blk_cell HT.out 1).trans rfl
        have ht2 := (blk_cell HT.out 2).trans rfl
        have ht3 := (blk_cell HT.out 3).trans rfl
        have hf0 := blk_frozen HT.out 0
        have hf1 := blk_frozen HT.out 1
        have hf2 := blk_frozen HT.out 2
        have hf3 := blk_frozen HT.out 3
        obtain ⟨A0, c0, HG, hg1, HS, hcp⟩ := HI.out
        have hc0 := cellLexS_0 HG
        have hc1 := cellLexS_1 HG
        clear HG hg1
        have hntr := HNTR.out
        have hntr2 := Ne.symm HNTR.out
        by_cases hk1 : kd = 1
        · rw [if_pos hk1] at e3
          subst e3
          have bk : (kd != 1) = false := by rw [hk1]; rfl
          clear HS hcp hk1
          go_wp2
          refine bodyPost_ret (results_ct rfl _ _ gr 25 #[.int .i64 kd, .string (strOfNums out), .int .i64 p, .int .i64 q] (0, 0) _ rfl (by exact blk_put (blk_put (blk_put (blk_put (blk_far HR.out HNTR.out _) 0 _ rfl) 1 _ rfl) 2 _ rfl) 3 _ rfl) hu25 rfl (by kernel_rfl)) rfl ?_
          exact ⟨_, rfl, rfl, below_set (below_set (below_set (below_set (below_set HB.out (Nat.le_trans HW0.out HGT.out)) (Nat.le_trans HW0.out HGR.out)) (Nat.le_trans HW0.out HGR.out)) (Nat.le_trans HW0.out HGR.out)) (Nat.le_trans HW0.out HGR.out), LexT.keep_far (LexT.keep_far (LexT.keep_far (LexT.keep_far (LexT.keep_far HK.out HGT.out) HGR.out) HGR.out) HGR.out) HGR.out⟩
        · rw [if_neg hk1] at e3
          subst e3
          have bk : (kd != 1) = true := by simpa using hk1
          have hpq : p ≤ q := HPQ.out rfl hk1
          have hql : q ≤ b.length := HQL.out
          clear hk1
          obtain ⟨i0, hi0, _, hsz0, _⟩ := info_parts info5
          obtain ⟨A9, hcut, hA9, hC9⟩ := print_mid_of (P := Tryd.prog) (Value.int .u8) 0 22 5 .i64 .i64 Tryd.underlying22 hi0 hsz0 A0 c0 b (p : Int) (q : Int) (by omega) (by omega) (by omega) hcp
          simp only [Int.toNat_natCast] at hcut hA9 hC9
          rw [show (b.take q).drop p = LexW.cut b p q from rfl] at hcut hA9 hC9
          have b1 : decide ((p : Int) ≤ (q : Int)) = true := decide_eq_true (by omega)
          have HCW := Aside0.mk (show Kd.C (Kd.int .u8) w0 A9 (LexW.cut b p q).length (LexW.cut b p q) from Kd.C_of_reads (h1 := fun _ => rfl) (hA9 _ (Kd.reads_of_C HS)))
          clear HS hcp hA9 hC9 hi0 hsz0
          go_upto_region 26 with (fail)
          have n0_ := Aside0.mk (show KeepBut w (wc.setCell ⟨gt, 3, none⟩ (.int .i64 q)) g none from LexT.keep_far HK.out HGT.out)
          have n1_ := Aside0.mk (show Below w0.heap.size w0 (wc.setCell ⟨gt, 3, none⟩ (.int .i64 q)) from below_set HB.out (Nat.le_trans HW0.out HGT.out))
          have n3_ := Aside0.mk (show (wc.setCell ⟨gt, 3, none⟩ (.int .i64 q)).heap[gt]? = some (.cells #[.int .i64 kd, .string (strOfNums out), .int .i64 p, .int .i64 q] 25 (0, 0)) from blk_put HT.out 3 _ rfl)
          have n4_ := Aside0.mk (show (wc.setCell ⟨gt, 3, none⟩ (.int .i64 q)).heap[gr]? = some (.cells #[.int .i64 0, .string (⟨#[]⟩ : ByteArray), .int .i64 0, .int .i64 0] 25 (0, 0)) from blk_far HR.out HNTR.out _)
          have n5_ : (wc.setCell ⟨gt, 3, none⟩ (.int .i64 q)).cell? ⟨g, 0, none⟩ = some (.slice A0 b.length c0) := by
            obtain ⟨A1, c1, HG1, _, _, _⟩ := HI.out
            have e := (cellLexS_0 HG1).symm.trans hc0
            have f := cellLexS_0 (blk_far HG1 (p := ⟨gt, 3, none⟩) (Ne.symm HNT.out) (.int .i64 q))
            rw [f]; exact e
          clear HK HB HI HT HR hc0 hc1 ht0 ht1 ht2 ht3 hf0 hf1 hf2 hf3 hr0 hr1 hr2 hr3 hx0 hx1 hx2 hx3
          have HK := n0_
          have HB := n1_
          have HT := n3_
          have HR := n4_
          have hc0 := n5_
          clear n0_ n1_ n3_ n4_ n5_
          generalize wc.setCell ⟨gt, 3, none⟩ (.int .i64 q) = w7 at HK HB HT HR hc0 ⊢
          have hcv : (convert 22 9 (.slice A9 (LexW.cut b p q).length (c0 - p))).run Tryd.prog w7.drew = .ok (.string (strOfNums (LexW.cut b p q))) w7.drew := Kd.C_string (P := Tryd.prog) Tryd.underlying22 Tryd.underlying5 Tryd.underlying9 (Kd.C_below HCW.out (show Below w0.heap.size w0 w7.drew from below_drew1 HB.out))
          have ht2 : w7.cell? ⟨gt, 2, none⟩ = some (.int .i64 p) := (blk_cell HT.out 2).trans rfl
          have ht3 : w7.cell? ⟨gt, 3, none⟩ = some (.int .i64 q) := (blk_cell HT.out 3).trans rfl
          go_still_tail 11, (by kernel_rfl)
          change wpList _ _ _ _ _ w7.drew
          clear hc0 ht2 ht3 hcut hcv
          have n0_ := Aside0.mk (keep_drew HK.out)
          have n1_ := Aside0.mk (below_drew1 HB.out)
          have n3_ := Aside0.mk (blk_drew HT.out)
          have n4_ := Aside0.mk (blk_drew HR.out)
          clear HK HB HT HR
          have HK := n0_
          have HB := n1_
          have HT := n3_
          have HR := n4_
          clear n0_ n1_ n3_ n4_
          generalize w7.drew = w8 at HK HB HT HR ⊢
          have ht0 := (blk_cell HT.out 0).trans rfl
          have ht1 := (blk_cell HT.out 1).trans rfl
          have ht2 := (blk_cell HT.out 2).trans rfl
          have ht3 := (blk_cell HT.out 3).trans rfl
          have hf0 := blk_frozen HT.out 0
          have hf1 := blk_frozen HT.out 1
          have hf2 := blk_frozen HT.out 2
          have hf3 := blk_frozen HT.out 3
          have hr0 := (blk_cell HR.out 0).trans rfl
          have hr1 := (blk_cell HR.out 1).trans rfl
          have hr2 := (blk_cell HR.out 2).trans rfl
          have hr3 := (blk_cell HR.out 3).trans rfl
          have hx0 := blk_frozen HR.out 0
          have hx1 := blk_frozen HR.out 1
          have hx2 := blk_frozen HR.out 2
          have hx3 := blk_frozen HR.out 3
          go_wp2
          refine bodyPost_ret (results_ct rfl _ _ gr 25 #[.int .i64 kd, .string (strOfNums (LexW.cut b p q)), .int .i64 p, .int .i64 q] (0, 0) _ rfl (by exact blk_put (blk_put (blk_put (blk_put (blk_far HR.out HNTR.out _) 0 _ rfl) 1 _ rfl) 2 _ rfl) 3 _ rfl) hu25 rfl (by kernel_rfl)) rfl ?_
          exact ⟨_, rfl, rfl, below_set (below_set (below_set (below_set (below_set HB.out (Nat.le_trans HW0.out HGT.out)) (Nat.le_trans HW0.out HGR.out)) (Nat.le_trans HW0.out HGR.out)) (Nat.le_trans HW0.out HGR.out)) (Nat.le_trans HW0.out HGR.out), LexT.keep_far (LexT.keep_far (LexT.keep_far (LexT.keep_far (LexT.keep_far HK.out HGT.out) HGR.out) HGR.out) HGR.out) HGR.out⟩

end Go.Proofs.YthoobepfkfjgnaaDoor.PL
