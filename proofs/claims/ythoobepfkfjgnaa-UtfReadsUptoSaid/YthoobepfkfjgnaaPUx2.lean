-- Written by printx.py (this claim's own program, over the kit's print): the functions that this claim reaches. Not trusted: Lean checks it.
import Derived.Test.YthoobepfkfjgnaaPUx0
import Derived.Test.YthoobepfkfjgnaaPUx1
namespace Go.Proofs.Ythoobepfkfjgnaa.PU
open Go.RowKit Go.Proofs.YthoobepfkfjgnaaW.PrintWords Go.Proofs.YthoobepfkfjgnaaW.PrintLast Go.Proofs.YthoobepfkfjgnaaW.PrintMore
attribute [local go_sem] max2_int min2_int max_two min_two max_three min_three max_four min_four   -- for this text's walks alone
set_option linter.unusedVariables false
set_option linter.unusedSimpArgs false

/-! ### utf_Pair: function 13 -/
def utf_Pair.f (a0 : Int) (a1 : Int) : Option (Int × Int) := if a0 < 55296 then (some (0, 11)) else (if a0 ≥ 56320 then (some (0, 11)) else (if a1 < 56320 then (some (0, 11)) else (if a1 ≥ 57344 then (some (0, 11)) else (some (wrap64 (65536 + (Go.bits .or .i64 (wrap64 ((wrap64 (a0 - 55296)) * 1024)) (wrap64 ((wrap64 (a1 - 55296)) - 1024)))), 0)))))
set_option maxHeartbeats 8000000 in
set_option maxRecDepth 100000 in
theorem utf_Pair.calls (a0 : Int) (a1 : Int) (r1 : Int) (r2 : Int) (w : World) (h : utf_Pair.f a0 a1 = some (r1, r2)) :
    Calls Try.prog 13 #[.int .i64 a0, .int .i64 a1] w fun e w' => e = .returned (.tuple #[.int .i64 r1, .int .i64 r2]) ∧ Below w.heap.size w w' := by
  have HB := Aside0.mk (Below.refl w.heap.size w)
  have H : (if a0 < 55296 then (some (0, 11)) else (if a0 ≥ 56320 then (some (0, 11)) else (if a1 < 56320 then (some (0, 11)) else (if a1 ≥ 57344 then (some (0, 11)) else (some (wrap64 (65536 + (Go.bits .or .i64 (wrap64 ((wrap64 (a0 - 55296)) * 1024)) (wrap64 ((wrap64 (a1 - 55296)) - 1024)))), 0)))))) = some (r1, r2) := h
  clear h
  by_cases c3 : a0 < 55296
  · rw [if_pos c3] at H
    have c3b0 : decide (a0 < 55296) = true := decide_eq_true c3
    clear c3
    simp only [Option.some.injEq, Prod.mk.injEq] at H
    obtain ⟨rfl, rfl⟩ := H
    go_enter Try.func13, Try.ntmps13
    go_wp2
    go_ret2
    exact ⟨by first | rfl | (simp [errW_none, errW_some] <;> rfl) | (simp [*, errW_none, errW_some] <;> rfl), by repeat (first | (with_reducible first | exact HB.out | apply below_alloc | apply pw_below_drewN | apply below_drew1) | exact HB.out)⟩
  · rw [if_neg c3] at H
    have c3b0 : decide (a0 < 55296) = false := decide_eq_false c3
    clear c3
    by_cases c4 : a0 ≥ 56320
    · rw [if_pos c4] at H
      have c4b0 : decide (56320 ≤ a0) = true := decide_eq_true c4
      clear c4
      simp only [Option.some.injEq, Prod.mk.injEq] at H
      obtain ⟨rfl, rfl⟩ := H
      go_enter Try.func13, Try.ntmps13
      go_wp2
      go_ret2
      exact ⟨by first | rfl | (simp [errW_none, errW_some] <;> rfl) | (simp [*, errW_none, errW_some] <;> rfl), by repeat (first | (with_reducible first | exact HB.out | apply below_alloc | apply pw_below_drewN | apply below_drew1) | exact HB.out)⟩
    · rw [if_neg c4] at H
      have c4b0 : decide (56320 ≤ a0) = false := decide_eq_false c4
      clear c4
      by_cases c5 : a1 < 56320
      · rw [if_pos c5] at H
        have c5b0 : decide (a1 < 56320) = true := decide_eq_true c5
        clear c5
        simp only [Option.some.injEq, Prod.mk.injEq] at H
        obtain ⟨rfl, rfl⟩ := H
        go_enter Try.func13, Try.ntmps13
        go_wp2
        go_ret2
        exact ⟨by first | rfl | (simp [errW_none, errW_some] <;> rfl) | (simp [*, errW_none, errW_some] <;> rfl), by repeat (first | (with_reducible first | exact HB.out | apply below_alloc | apply pw_below_drewN | apply below_drew1) | exact HB.out)⟩
      · rw [if_neg c5] at H
        have c5b0 : decide (a1 < 56320) = false := decide_eq_false c5
        clear c5
        by_cases c6 : a1 ≥ 57344
        · rw [if_pos c6] at H
          have c6b0 : decide (57344 ≤ a1) = true := decide_eq_true c6
          clear c6
          simp only [Option.some.injEq, Prod.mk.injEq] at H
          obtain ⟨rfl, rfl⟩ := H
          go_enter Try.func13, Try.ntmps13
          go_wp2
          go_ret2
          exact ⟨by first | rfl | (simp [errW_none, errW_some] <;> rfl) | (simp [*, errW_none, errW_some] <;> rfl), by repeat (first | (with_reducible first | exact HB.out | apply below_alloc | apply pw_below_drewN | apply below_drew1) | exact HB.out)⟩
        · rw [if_neg c6] at H
          have c6b0 : decide (57344 ≤ a1) = false := decide_eq_false c6
          clear c6
          simp only [Option.some.injEq, Prod.mk.injEq] at H
          obtain ⟨rfl, rfl⟩ := H
          go_enter Try.func13, Try.ntmps13
          go_wp2
          go_ret2
          exact ⟨by first | rfl | (simp [errW_none, errW_some] <;> rfl) | (simp [*, errW_none, errW_some] <;> rfl), by repeat (first | (with_reducible first | exact HB.out | apply below_alloc | apply pw_below_drewN | apply below_drew1) | exact HB.out)⟩

/-! ### utf_Points: function 14: given -/
-- GIVEN plain making
def utf_Points.ok (l : List Int) : Bool := l.all fun x => decide (0 ≤ x ∧ x ≤ 255)
def utf_Points.f (l0 : List Int) : Option (List Int × Int) := if utf_Points.ok l0 = true then (if (Utf.good l0).2 = true then (if l0.length ≤ 9223372036854775807 ∧ (Utf.pts l0).length < 17592186044416 then some (Utf.pts l0, 0) else none) else (if l0.length ≤ 9223372036854775807 then some ([], 10) else none)) else none
theorem utf_Points.goes (c : Int) (k : Nat) (hk : 0 < k) : utf_goes.f k c = some (Utf.goes c) := by
  obtain ⟨k, rfl⟩ : ∃ m, k = m + 1 := ⟨k - 1, by omega⟩
  unfold utf_goes.f Utf.goes
  by_cases h1 : c < 128
  · rw [if_pos h1, if_pos h1]
  · rw [if_neg h1, if_neg h1]
    have hj : ∀ b : Bool, utf_goes.j0 (k + 1) c b = some (if b = true then ((-1, 0, 0) : Int × Int × Int) else if c < 224 then (1, 128, 191) else if c = 224 then (2, 160, 191) else if c = 237 then (2, 128, 159) else if c < 240 then (2, 128, 191) else if c = 240 then (3, 144, 191) else if c = 244 then (3, 128, 143) else (3, 128, 191)) := by
      intro b
      simp only [utf_goes.j0]
      repeat' split
      all_goals rfl
    by_cases h2 : c < 194
    · rw [if_pos h2, hj, if_pos rfl, if_pos (.inl h2)]
    · rw [if_neg h2, hj]
      by_cases h3 : c > 244
      · rw [if_pos (decide_eq_true h3), if_pos (.inr h3)]
      · rw [if_neg (show ¬ decide (c > 244) = true by simpa using h3), if_neg (show ¬ (c < 194 ∨ c > 244) by omega)]
theorem utf_Points.wrap (i : Int) (n : Nat) (h0 : 0 ≤ i) (h : i < (n : Int)) (hn : n ≤ 9223372036854775807) : wrap64 (i + 1) = i + 1 := by
  unfold wrap64
  omega
theorem utf_Points.good_l (l : List Int) (hl : l.length ≤ 9223372036854775807) : ∀ (r : List Int) (k : Nat) (n lo hg i : Int), 0 ≤ i → r = l.drop i.toNat → (i : Int) + r.length = l.length → 0 ≤ n → n ≤ 3 → r.length + 1 < k →
    utf_Good.l0 k l n lo hg l (l.length : Int) i = some (Utf.run r n lo hg i) := by
  intro r
  induction r with
  | nil =>
    intro k n lo hg i h0 hr hi hn hn3 hk
    obtain ⟨k, rfl⟩ : ∃ m, k = m + 1 := ⟨k - 1, by omega⟩
    simp only [utf_Good.l0]
    simp only [List.length_nil, Int.natCast_zero, Int.add_zero] at hi
    rw [if_neg (by omega), ← hi]
    rfl
  | cons c r ih =>
    intro k n lo hg i h0 hr hi hn hn3 hk
    obtain ⟨k, rfl⟩ : ∃ m, k = m + 1 := ⟨k - 1, by omega⟩
    simp only [List.length_cons, Int.natCast_add, Int.natCast_one] at hi hk
    have hlt : i < (l.length : Int) := by omega
    have hrd : rd l i = c := by
      unfold rd
      rw [List.getD_eq_getElem?_getD]
      have h1 : (l.drop i.toNat)[0]? = some c := by rw [← hr]; rfl
      rw [List.getElem?_drop] at h1
      rw [show i.toNat = i.toNat + 0 from rfl, h1]
      rfl
    have hr2 : r = l.drop (i + 1).toNat := by
      rw [show (i + 1).toNat = i.toNat + 1 by omega, ← List.drop_drop, ← hr]
      rfl
    simp only [utf_Good.l0]
    rw [if_pos hlt, if_pos h0, if_pos hlt, hrd, utf_Points.wrap i _ h0 hlt hl, Utf.run]
    by_cases h1 : n = 0
    · rw [if_pos h1, if_pos h1, utf_Points.goes c k (by omega)]
      simp only [Option.bind_some]
      by_cases h2 : (Utf.goes c).1 < 0
      · rw [if_pos h2, if_pos h2]
      · rw [if_neg h2, if_neg h2]
        refine ih k _ _ _ (i + 1) (by omega) hr2 (by omega) (by omega) ?_ (by omega)
        unfold Utf.goes
        repeat' split
        all_goals simp
    · rw [if_neg h1, if_neg h1]
      by_cases h2 : c < lo
      · rw [if_pos h2, if_pos h2]
      · rw [if_neg h2, if_neg h2]
        by_cases h3 : c > hg
        · rw [if_pos h3, if_pos h3]
        · rw [if_neg h3, if_neg h3]
          rw [show wrap64 (n - 1) = n - 1 by unfold wrap64; omega]
          exact ih k _ _ _ (i + 1) (by omega) hr2 (by omega) (by omega) (by omega) (by omega)
/-- utf.Good runs the automaton. -/
theorem utf_Points.good_k (l : List Int) (hl : l.length ≤ 9223372036854775807) (k : Nat) (hk : l.length + 1 < k) : utf_Good.f k l = some (Utf.good l) := by
  unfold utf_Good.f Utf.good
  exact utf_Points.good_l l hl l k 0 128 191 0 (Int.le_refl _) rfl (by omega) (by decide) (by decide) hk
theorem utf_Points.bytes {l : List Int} (h : utf_Points.ok l = true) : Utf.Bytes l := by
  intro x hx
  have := List.all_eq_true.1 h x hx
  simpa using this
theorem utf_Points.str {l : List Int} (h : Utf.Bytes l) : bytesOf (strOfNums l) = l := by
  unfold bytesOf strOfNums
  simp only
  rw [List.map_map]
  conv => rhs; rw [← List.map_id l]
  refine List.map_congr_left fun x hx => ?_
  have := h x hx
  simp
  omega
theorem utf_Points.info : (Try.prog.info? 3).map (fun i => (i.zero, i.size, i.bytes)) = some (some (.int .i64 0), 1, 8) := by kernel_rfl
theorem utf_Points.cells {w : World} {base : Nat} {ok : Nat → Prop} {v : Value} {xs : List Int} {k : Nat} {s : ByteArray} {p : Nat} (h : Kd.R (Kd.int .i64) 3 w base ok v xs) (hk : w.heap[k]? = some (.stringIter s p)) : some k ≠ v.ownBlock := by
  intro e
  obtain ⟨inner, ho⟩ := Kd.R_own h
  obtain ⟨cells, hc⟩ := own_typed ho k e.symm
  rw [hc] at hk
  cases hk
theorem utf_Points.move {w : World} {base : Nat} {v : Value} {xs : List Int} {k : Nat} {s : ByteArray} {p : Nat} (p' : Nat) (h : Kd.R (Kd.int .i64) 3 w base (fun _ => True) v xs) (hk : w.heap[k]? = some (.stringIter s p)) : Kd.R (Kd.int .i64) 3 (w.iterAt k s p') base (fun _ => True) v xs := by
  refine Kd.R_mono (Kd.R_move (Kd.R_bound h) (fun j hj => ?_)) (fun _ _ => trivial)
  obtain ⟨_, _, _, q, _, cells, hc⟩ := hj
  refine Lib.iterAt_other w k j s p' (fun e => ?_)
  rw [e, hk] at hc
  cases hc
theorem utf_Points.conv {w : World} {A0 : Option Addr} {l : List Int} {s : ByteArray} (c : Nat) (hs : s = strOfNums l) (h : Kd.C (Kd.int .u8) w A0 l.length l) : (convert 22 9 (.slice A0 l.length c)).run Try.prog w = .ok (.string s) w := by
  rw [hs]
  exact Kd.C_string Try.underlying22 Try.underlying5 Try.underlying9 h
theorem utf_Points.pos {l ps : List Int} {s : ByteArray} (he : l = Utf.encs ps) (hs : bytesOf s = l) (j : Nat) :
    (j < ps.length → (∀ p ∈ ps, Utf.Scalar p) → ∃ p, ps[j]? = some p ∧ Utf.Scalar p ∧ (Utf.encs (ps.take j)).length < s.size ∧ (Utf.encs (ps.take (j + 1))).length = (Utf.encs (ps.take j)).length + (Utf.enc p).length ∧ ps.take (j + 1) = ps.take j ++ [p]) ∧ (Utf.encs (ps.take j)).length ≤ s.size := by
  have hsz : s.size = (Utf.encs ps).length := by rw [← he, ← hs, bytesOf_length]
  have hsplit : (Utf.encs ps).length = (Utf.encs (ps.take j)).length + (Utf.encs (ps.drop j)).length := by rw [← List.length_append, ← Utf.encs_append, List.take_append_drop]
  refine ⟨fun hj hp => ⟨ps[j], List.getElem?_eq_getElem hj, hp _ (List.getElem_mem hj), ?_, ?_, List.take_succ_eq_append_getElem hj⟩, by omega⟩
  · have h1 : ps.drop j = ps[j] :: ps.drop (j + 1) := List.drop_eq_getElem_cons hj
    rw [h1, Utf.encs_cons, List.length_append] at hsplit
    have := Utf.enc_length_pos ps[j]
    omega
  · rw [List.take_succ_eq_append_getElem hj, Utf.encs_append, List.length_append, Utf.encs_cons, Utf.encs_nil, List.append_nil]
theorem utf_Points.dec {l ps : List Int} {s : ByteArray} (he : l = Utf.encs ps) (hs : bytesOf s = l) {j : Nat} {p : Int} (hp : ps[j]? = some p) (hsc : Utf.Scalar p) : Go.Utf8.decode s (Utf.encs (ps.take j)).length = (p.toNat, (Utf.enc p).length) := by
  obtain ⟨hj, rfl⟩ := List.getElem?_eq_some_iff.1 hp
  refine Utf.decode_enc s _ hsc (Utf.encs (ps.drop (j + 1))) ?_
  rw [show Utf.bytesAt s = Utf.encs ps by rw [← he, ← hs]; rfl]
  have h1 : ps = ps.take j ++ (ps[j] :: ps.drop (j + 1)) := by rw [← List.drop_eq_getElem_cons hj, List.take_append_drop]
  conv => lhs; rw [h1, Utf.encs_append]
  rw [List.take_append_of_le_length (by rw [List.length_take]; omega), List.take_take, Nat.min_self, List.drop_left, Utf.encs_cons]
set_option maxHeartbeats 4000000 in
set_option maxRecDepth 100000 in
theorem utf_Points.calls (A0 : Option Addr) (c0 : Nat) (l0 : List Int) (r1 : List Int) (r2 : Int) (w : World) (hr0 : Kd.C (Kd.int .u8) w A0 l0.length l0) (hc0 : l0.length ≤ c0) (h : utf_Points.f l0 = some (r1, r2)) :
    Calls Try.prog 14 #[.slice A0 l0.length c0] w fun e w' => ∃ v0_ : Value, e = .returned (.tuple #[v0_, .int .i64 r2]) ∧ Kd.R (Kd.int .i64) 3 w' w.heap.size (fun _ => True) v0_ r1 ∧ Below w.heap.size w w' := by
  unfold utf_Points.f at h
  have HR0 := Aside0.mk hr0
  clear hr0
  by_cases hok : utf_Points.ok l0 = true
  · rw [if_pos hok] at h
    by_cases hg : (Utf.good l0).2 = true
    · rw [if_pos hg] at h
      by_cases hlim : l0.length ≤ 9223372036854775807 ∧ (Utf.pts l0).length < 17592186044416
      · rw [if_pos hlim] at h
        obtain ⟨rfl, rfl⟩ := Prod.mk.inj (Option.some.inj h)
        clear h
        have hgk := utf_Points.good_k l0 hlim.1 (l0.length + 2) (by omega)
        rw [show Utf.good l0 = ((Utf.good l0).1, true) by rw [← hg]] at hgk
        have HG := Aside0.mk hgk
        clear hgk
        obtain ⟨hps, he⟩ := Utf.valid_of_good (utf_Points.bytes hok) hg
        have hstr := utf_Points.str (utf_Points.bytes hok)
        obtain ⟨ps, hpe⟩ : ∃ ps, ps = Utf.pts l0 := ⟨_, rfl⟩
        rw [← hpe] at hps he hlim ⊢
        have HPS := Aside0.mk hps
        have HE := Aside0.mk he
        obtain ⟨s, hs⟩ : ∃ s, s = strOfNums l0 := ⟨_, rfl⟩
        have HS := Aside0.mk (show bytesOf s = l0 by rw [hs]; exact hstr)
        have HSS := Aside0.mk hs
        clear hstr hs
        have hlim2 := hlim.2
        have hmx : s.size ≤ 9223372036854775807 := by have h1 := bytesOf_length s; rw [HS.out] at h1; have := hlim.1; omega
        clear hps he hpe hg hok hlim
        go_enter Try.func14, Try.ntmps14
        go_wp2_with (first | (go_at_call 9; (with_reducible refine (utf_Good.calls _ _ _ l0 _ _ _ HR0.out hc0 HG.out).mono ?_); rintro e w0 ⟨rfl, hd⟩; have HB0 := Aside0.mk (show Below w.heap.size w w0 by first | exact hd | exact hd.below); clear hd; have hcv := utf_Points.conv c0 HSS.out (Kd.C_below HR0.out HB0.out)))
        clear hcv
        obtain ⟨k, hk⟩ : ∃ k, k = w0.heap.size := ⟨_, rfl⟩
        have HKB := Aside0.mk (show w.heap.size ≤ k by rw [hk]; exact HB0.out.size)
        have HB1 := Aside0.mk (show Below w.heap.size w (w0.iter s 0) from below_alloc HB0.out _)
        have HI1 := Aside0.mk (show (w0.iter s 0).heap[k]? = some (.stringIter s 0) by rw [hk]; exact World.iter_heap w0 s 0)
        have HKS := Aside0.mk (show (w0.iter s 0).heap.size = k + 1 by rw [hk]; exact Array.size_push ..)
        rw [← hk]
        clear hk
        generalize w0.iter s 0 = w1 at HB1 HI1 HKS ⊢
        go_loopw [6] (fun v wr => ∃ j : Nat, j ≤ ps.length ∧ Aside0 (wr.heap[k]? = some (.stringIter s (Utf.encs (ps.take j)).length)) ∧ Aside0 (Kd.R (Kd.int .i64) 3 wr w.heap.size (fun _ => True) v (ps.take j)) ∧ Aside0 (Below w.heap.size w wr)) (fun _ wr => s.size - wr.iterPos k)
        case atStart => exact ⟨0, Nat.zero_le _, ⟨HI1.out⟩, ⟨Kd.R_nil _ _ _ _ _⟩, ⟨HB1.out⟩⟩
        case round =>
          obtain ⟨j, hj, HI, HR, HB⟩ := hrel
          have hpos := utf_Points.pos HE.out HS.out j
          by_cases hlt : j < ps.length
          · obtain ⟨p, hp, hsc, hx, hlen, htk⟩ := hpos.1 hlt HPS.out
            have hnx := fun ty => (Lib.run_next_any_at (P := Try.prog) wr k s (Utf.encs (ps.take j)).length ty HI.out hx)
            have hdec := utf_Points.dec HE.out HS.out hp hsc
            rw [hdec] at hnx
            simp only [] at hnx
            have hp0 : ((p.toNat : Nat) : Int) = p := by unfold Utf.Scalar at hsc; omega
            rw [hp0, ← hlen] at hnx
            clear hp0 hdec
            have HI2 := Aside0.mk (Lib.iterAt_heap wr k s _ (Utf.encs (ps.take (j + 1))).length HI.out)
            have HR2 := Aside0.mk (utf_Points.move (Utf.encs (ps.take (j + 1))).length HR.out HI.out)
            have HB2 := Aside0.mk (Lib.below_iterAt HB.out HKB.out s (Utf.encs (ps.take (j + 1))).length)
            generalize wr.iterAt k s (Utf.encs (ps.take (j + 1))).length = w2 at hnx HI2 HR2 HB2
            have HTK := Aside0.mk htk
            have hmax : (Utf.encs (ps.take j)).length ≤ 9223372036854775807 := by have := hpos.2; omega
            have hp1 : 0 ≤ p ∧ p ≤ 1114111 := by unfold Utf.Scalar at hsc; omega
            have HX := Aside0.mk hx
            have HLN := Aside0.mk hlen
            have hpl : 0 < (Utf.enc p).length := Utf.enc_length_pos p
            clear hpos hp hsc hx hlen htk
            go_wp2_with ((with_reducible refine gate_builtin (b := .append) (xs := #[.tmp 22, .tmp 25]) rfl ?_); at_builtin; refine Kd.R_append (Kd.int .i64) (w0 := w) w.heap.size rfl (.tmp 22) (.tmp 25) 35 3 (.int .i64 0) 8 rfl Try.underlying35 utf_Points.info rfl (by decide) (by omega) u6 (ps.take j) p [.int .i64 p] (fun _ => True) (fun _ => False) rfl rfl rfl (fun _ hk => hk.elim) (fun _ _ => trivial) HR2.out HB2.out HB2.out.size ?aL ?_; (case aL => rw [List.length_take]; omega); intro v1 w3 ho hb hg hat; have HI3 := Aside0.mk ((hg.block k (Array.getElem?_eq_some_iff.1 HI2.out).1 (utf_Points.cells HR2.out HI2.out)).trans HI2.out); have HR3 := Aside0.mk ho; have HB3 := Aside0.mk hb; clear ho hb hg hat)
            go_roundw
            case rel => exact ⟨j + 1, by omega, ⟨HI3.out⟩, ⟨by rw [HTK.out]; exact HR3.out⟩, ⟨HB3.out⟩⟩
            case measure =>
              simp only [World.iterPos, HI3.out, HI.out]
              have := HX.out
              have := HLN.out
              omega
          · obtain rfl : j = ps.length := by omega
            have hnx := fun ty => (Lib.run_next_end_at (P := Try.prog) wr k s (Utf.encs (ps.take ps.length)).length ty HI.out (by rw [List.take_length]; have := hpos.2; rw [← HE.out, ← HS.out, bytesOf_length]; omega))
            have HR2 := Aside0.mk (show Kd.R (Kd.int .i64) 3 wr w.heap.size (fun _ => True) u6 ps by have := HR.out; rwa [List.take_length] at this)
            clear hpos HR HI
            go_wp2
            go_ret2
            exact ⟨_, rfl, HR2.out, HB.out⟩
      · rw [if_neg hlim] at h
        exact absurd h (by simp)
    · rw [if_neg hg] at h
      by_cases hlim : l0.length ≤ 9223372036854775807
      · rw [if_pos hlim] at h
        obtain ⟨rfl, rfl⟩ := Prod.mk.inj (Option.some.inj h)
        clear h
        have hgk := utf_Points.good_k l0 hlim (l0.length + 2) (by omega)
        rw [show Utf.good l0 = ((Utf.good l0).1, false) by rw [← Bool.eq_false_iff.2 hg]] at hgk
        have HG := Aside0.mk hgk
        clear hgk hg hok
        go_enter Try.func14, Try.ntmps14
        go_wp2_with (go_at_call 9; (with_reducible refine (utf_Good.calls _ _ _ l0 _ _ _ HR0.out hc0 HG.out).mono ?_); rintro e w0 ⟨rfl, hd⟩; have HB0 := Aside0.mk (show Below w.heap.size w w0 by first | exact hd | exact hd.below); clear hd)
        go_ret2
        exact ⟨_, rfl, Kd.R_nil _ _ _ _ _, HB0.out⟩
      · rw [if_neg hlim] at h
        exact absurd h (by simp)
  · rw [if_neg hok] at h
    exact absurd h (by simp)


/-! ### caliperref01_Ints: function 18 -/
def caliperref01_Ints.l0 : Nat → List Int → List Int → Int → Option (Bool)
  | 0, _, _, _ => none
  | k + 1, x0, x1, x5 => if x5 < (x0.length : Int) then (if 0 ≤ x5 then (if x5 < (x1.length : Int) then (if (rd x0 x5) = (rd x1 x5) then (caliperref01_Ints.l0 k x0 x1 (wrap64 (x5 + 1))) else (some false)) else (none)) else (none)) else (some true)
def caliperref01_Ints.f (k : Nat) (l0 : List Int) (l1 : List Int) : Option (Bool) := if (l0.length : Int) = (l1.length : Int) then (caliperref01_Ints.l0 k l0 l1 0) else (some false)
theorem caliperref01_Ints.mono_l : ∀ k, (∀ y0 y1 y2, LeO (caliperref01_Ints.l0 k y0 y1 y2) (caliperref01_Ints.l0 (k + 1) y0 y1 y2))
  | 0 => fun _ _ _ r h => by simp [caliperref01_Ints.l0] at h
  | k + 1 => by
    have ih0 := caliperref01_Ints.mono_l k
    · intro y0 y1 y2
      unfold caliperref01_Ints.l0
      repeat' first
      | (with_reducible exact ih0 _ _ _)
      | (with_reducible exact LeO.refl _)
      | (with_reducible exact LeO.none _)
      | (with_reducible refine LeO.ite ?_ ?_)
      | (with_reducible refine LeO.bind ?_ (fun _ => ?_))
      | exact ih0 _ _ _
      | exact LeO.none _
      | refine LeO.ite ?_ ?_
      | refine LeO.bind ?_ (fun _ => ?_)
theorem caliperref01_Ints.mono : ∀ a0 a1 k, LeO (caliperref01_Ints.f k a0 a1) (caliperref01_Ints.f (k + 1) a0 a1) := by
  intro a0 a1 k
  have ih0 := caliperref01_Ints.mono_l k
  unfold caliperref01_Ints.f
  repeat' first
      | (with_reducible exact ih0 _ _ _)
      | (with_reducible exact LeO.refl _)
      | (with_reducible exact LeO.none _)
      | (with_reducible refine LeO.ite ?_ ?_)
      | (with_reducible refine LeO.bind ?_ (fun _ => ?_))
      | exact ih0 _ _ _
      | exact LeO.none _
      | refine LeO.ite ?_ ?_
      | refine LeO.bind ?_ (fun _ => ?_)
set_option maxHeartbeats 8000000 in
set_option maxRecDepth 100000 in
theorem caliperref01_Ints.calls (k : Nat) (A0 : Option Addr) (c0 : Nat) (l0 : List Int) (A1 : Option Addr) (c1 : Nat) (l1 : List Int) (r : Bool) (w : World) (hr0 : Kd.C (Kd.int .i64) w A0 l0.length l0) (hc0 : l0.length ≤ c0) (hr1 : Kd.C (Kd.int .i64) w A1 l1.length l1) (hc1 : l1.length ≤ c1) (h : caliperref01_Ints.f k l0 l1 = some r) :
    Calls Try.prog 18 #[.slice A0 l0.length c0, .slice A1 l1.length c1] w fun e w' => e = .returned (.bool r) ∧ Below w.heap.size w w' := by
  have HR0 := Aside0.mk hr0
  have HC0 := Aside0.mk hc0
  clear hr0 hc0
  have HR1 := Aside0.mk hr1
  have HC1 := Aside0.mk hc1
  clear hr1 hc1
  have HB := Aside0.mk (Below.refl w.heap.size w)
  have H : (if (l0.length : Int) = (l1.length : Int) then (caliperref01_Ints.l0 k l0 l1 0) else (some false)) = some r := h
  clear h
  by_cases c3 : (l0.length : Int) = (l1.length : Int)
  · rw [if_pos c3] at H
    have c3b0 : ((l0.length : Int) == (l1.length : Int)) = true := beq_iff_eq.mpr c3
    have c3b1 : ((l0.length : Int) != (l1.length : Int)) = false := bne_eq_false_iff_eq.mpr c3
    have c3b2 : (l0.length == l1.length) = true := by first | simpa using c3 | (simp at c3 ⊢; omega)
    clear c3
    have H' := Aside0.mk H
    clear H
    go_enter Try.func18, Try.ntmps18
    go_wp2
    repeat (go_quiet (fail); try go_wp2)
    go_loopg [5] k (fun kq v5 w' => ∃ (x5_1 : Int), v5 = .int .i64 x5_1 ∧ Aside0 (caliperref01_Ints.l0 kq l0 l1 x5_1 = some r) ∧ Aside0 (kq ≤ k) ∧ Aside0 (Below w.heap.size w w'))
    case atStart => exact ⟨(0), (by first | rfl | (simp; done) | (simp [*]; done)), H', ⟨Nat.le_refl _⟩, ⟨by repeat (first | (with_reducible first | exact HB.out | apply below_alloc | apply pw_below_drewN | apply below_drew1) | exact HB.out)⟩⟩
    case round =>
      clear H'
      try clear c1
      try clear p2
      try clear c3
      try clear c3b0
      try clear c3b1
      try clear c3b2
      obtain ⟨x5_1, rfl, HA, HK1, HB⟩ := hrel
      cases gk with
      | zero => exact absurd HA.out (by simp [caliperref01_Ints.l0])
      | succ k1 =>
        have H := HA.out
        clear HA
        simp only [caliperref01_Ints.l0] at H
        by_cases c4 : x5_1 < (l0.length : Int)
        · rw [if_pos c4] at H
          have c4b0 : decide (x5_1 < (l0.length : Int)) = true := decide_eq_true c4
          clear c4
          by_cases c5 : 0 ≤ x5_1
          · rw [if_pos c5] at H
            have c5b0 : decide (0 ≤ x5_1) = true := decide_eq_true c5
            clear c5
            by_cases c6 : x5_1 < (l1.length : Int)
            · rw [if_pos c6] at H
              have c6b0 : decide (x5_1 < (l1.length : Int)) = true := decide_eq_true c6
              clear c6
              by_cases c7 : (rd l0 x5_1) = (rd l1 x5_1)
              · rw [if_pos c7] at H
                have c7b0 : ((rd l0 x5_1) == (rd l1 x5_1)) = true := beq_iff_eq.mpr c7
                have c7b1 : ((rd l0 x5_1) != (rd l1 x5_1)) = false := bne_eq_false_iff_eq.mpr c7
                clear c7
                have H' := Aside0.mk H
                clear H
                have p111 : 0 ≤ (x5_1 : Int) := of_decide_eq_true (by first | (with_reducible assumption) | assumption)
                have q111 : x5_1 < (l0.length : Int) := of_decide_eq_true (by first | (with_reducible assumption) | assumption)
                obtain ⟨ad111, e111, hx111_0⟩ := Kd.at_int HR0.out x5_1 p111 q111
                cases e111
                replace hx111_0 := (HB.out.cell (World.block_lt_of_cell? w _ hx111_0)).trans hx111_0
                replace p111 := eq_true p111
                replace q111 := eq_true q111
                have p112 : 0 ≤ (x5_1 : Int) := of_decide_eq_true (by first | (with_reducible assumption) | assumption)
                have q112 : x5_1 < (l1.length : Int) := of_decide_eq_true (by first | (with_reducible assumption) | assumption)
                obtain ⟨ad112, e112, hx112_0⟩ := Kd.at_int HR1.out x5_1 p112 q112
                cases e112
                replace hx112_0 := (HB.out.cell (World.block_lt_of_cell? w _ hx112_0)).trans hx112_0
                replace p112 := eq_true p112
                replace q112 := eq_true q112
                go_wp2
                repeat (go_quiet (fail); try go_wp2)
                go_roundg k1
                case measure => have := HK1.out; omega
                case rel => exact ⟨(wrap64 (x5_1 + 1)), (by first | rfl | (simp; done) | (simp [*]; done)), H', ⟨by have := HK1.out; omega⟩, ⟨by repeat (first | (with_reducible first | exact HB.out | apply below_alloc | apply pw_below_drewN | apply below_drew1) | exact HB.out)⟩⟩
              · rw [if_neg c7] at H
                have c7b0 : ((rd l0 x5_1) == (rd l1 x5_1)) = false := beq_eq_false_iff_ne.mpr c7
                have c7b1 : ((rd l0 x5_1) != (rd l1 x5_1)) = true := bne_iff_ne.mpr c7
                obtain rfl := Option.some.inj H
                have p111 : 0 ≤ (x5_1 : Int) := of_decide_eq_true (by first | (with_reducible assumption) | assumption)
                have q111 : x5_1 < (l0.length : Int) := of_decide_eq_true (by first | (with_reducible assumption) | assumption)
                obtain ⟨ad111, e111, hx111_0⟩ := Kd.at_int HR0.out x5_1 p111 q111
                cases e111
                replace hx111_0 := (HB.out.cell (World.block_lt_of_cell? w _ hx111_0)).trans hx111_0
                replace p111 := eq_true p111
                replace q111 := eq_true q111
                have p112 : 0 ≤ (x5_1 : Int) := of_decide_eq_true (by first | (with_reducible assumption) | assumption)
                have q112 : x5_1 < (l1.length : Int) := of_decide_eq_true (by first | (with_reducible assumption) | assumption)
                obtain ⟨ad112, e112, hx112_0⟩ := Kd.at_int HR1.out x5_1 p112 q112
                cases e112
                replace hx112_0 := (HB.out.cell (World.block_lt_of_cell? w _ hx112_0)).trans hx112_0
                replace p112 := eq_true p112
                replace q112 := eq_true q112
                go_wp2
                repeat (go_quiet (fail); try go_wp2)
                go_ret
                exact ⟨by first | rfl | (simp [errW_none, errW_some] <;> rfl) | (simp [*, errW_none, errW_some] <;> rfl), by repeat (first | (with_reducible first | exact HB.out | apply below_alloc | apply pw_below_drewN | apply below_drew1) | exact HB.out)⟩
            · rw [if_neg c6] at H
              exact absurd H (by simp)
          · rw [if_neg c5] at H
            exact absurd H (by simp)
        · rw [if_neg c4] at H
          have c4b0 : decide (x5_1 < (l0.length : Int)) = false := decide_eq_false c4
          clear c4
          obtain rfl := Option.some.inj H
          go_wp2
          repeat (go_quiet (fail); try go_wp2)
          go_ret
          exact ⟨by first | rfl | (simp [errW_none, errW_some] <;> rfl) | (simp [*, errW_none, errW_some] <;> rfl), by repeat (first | (with_reducible first | exact HB.out | apply below_alloc | apply pw_below_drewN | apply below_drew1) | exact HB.out)⟩
  · rw [if_neg c3] at H
    have c3b0 : ((l0.length : Int) == (l1.length : Int)) = false := beq_eq_false_iff_ne.mpr c3
    have c3b1 : ((l0.length : Int) != (l1.length : Int)) = true := bne_iff_ne.mpr c3
    have c3b2 : (l0.length == l1.length) = false := by first | simpa using c3 | (simp at c3 ⊢; omega)
    obtain rfl := Option.some.inj H
    go_enter Try.func18, Try.ntmps18
    go_wp2
    repeat (go_quiet (fail); try go_wp2)
    go_ret
    exact ⟨by first | rfl | (simp [errW_none, errW_some] <;> rfl) | (simp [*, errW_none, errW_some] <;> rfl), by repeat (first | (with_reducible first | exact HB.out | apply below_alloc | apply pw_below_drewN | apply below_drew1) | exact HB.out)⟩

end Go.Proofs.Ythoobepfkfjgnaa.PU
