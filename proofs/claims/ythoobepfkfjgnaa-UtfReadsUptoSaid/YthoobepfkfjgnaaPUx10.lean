-- Written by printx.py (this claim's own program, over the kit's print): the functions that this claim reaches. Not trusted: Lean checks it.
import Derived.Test.YthoobepfkfjgnaaPUx0
namespace Go.Proofs.Ythoobepfkfjgnaa.PU
open Go.RowKit Go.Proofs.YthoobepfkfjgnaaW.PrintWords Go.Proofs.YthoobepfkfjgnaaW.PrintLast Go.Proofs.YthoobepfkfjgnaaW.PrintMore
attribute [local go_sem] max2_int min2_int max_two min_two max_three min_three max_four min_four   -- for this text's walks alone
set_option linter.unusedVariables false
set_option linter.unusedSimpArgs false

/-! ### utf_Count: function 19: given -/
-- GIVEN plain making
def utf_Count.f (a0 : ByteArray) : Option (Int) := if a0.size ≤ 9223372036854775807 then some (Utf.cnt (bytesOf a0)) else none
theorem utf_Count.take (l : List Int) (k : Nat) (h : k < l.length) (h1 : 0 ≤ l.getD k 0 ∧ l.getD k 0 ≤ 255) : Utf.cnt (l.take (k + 1)) = Utf.cnt (l.take k) + (if l.getD k 0 / 64 = 2 then 0 else 1) := by
  rw [List.take_succ_eq_append_getElem h, Utf.cnt_append, Utf.cnt_cons]
  have e : l.getD k 0 = l[k] := by rw [List.getD_eq_getElem?_getD, List.getElem?_eq_getElem h]; rfl
  rw [e] at h1 ⊢
  have hn : Utf.cnt [] = 0 := rfl
  rw [hn]
  by_cases h2 : l[k] / 64 = 2
  · rw [if_pos h2, if_neg (by omega)]; rfl
  · rw [if_neg h2, if_pos (by omega)]; rfl
set_option maxHeartbeats 4000000 in
set_option maxRecDepth 100000 in
theorem utf_Count.calls (a0 : ByteArray) (r : Int) (w : World) (h : utf_Count.f a0 = some r) :
    Calls Try.prog 19 #[.string a0] w fun e w' => e = .returned (.int .i64 r) ∧ Below w.heap.size w w' := by
  unfold utf_Count.f at h
  by_cases hs : a0.size ≤ 9223372036854775807
  · rw [if_pos hs] at h
    obtain rfl := Option.some.inj h
    clear h
    have hl := bytesOf_length a0
    have hb : ∀ k, 0 ≤ (bytesOf a0).getD k 0 ∧ (bytesOf a0).getD k 0 ≤ 255 := by
      intro k
      have h2 := rd_bytesOf a0 (k : Int)
      have h3 := bt_range a0 (k : Int)
      unfold rd at h2
      rw [Int.toNat_natCast] at h2
      rw [h2]
      exact h3
    have HB := Aside0.mk hb
    have HL := Aside0.mk hl
    clear hb hl
    obtain ⟨l, hl⟩ : ∃ l, l = bytesOf a0 := ⟨_, rfl⟩
    rw [← hl] at HB HL ⊢
    have HE := Aside0.mk hl
    clear hl
    go_enter Try.func19, Try.ntmps19
    go_wp2_with (first | ((with_reducible refine gate_dst (N := 7) rfl ?_); refine More.conv_bytes rfl 9 22 5 (.tmp 6) rfl a0 rfl Try.underlying9 Try.underlying22 Try.underlying5 hs ?_; intro ad c w1 hc hR hB; rw [← HE.out] at hR ⊢; have HR := Aside0.mk hR; have HW := Aside0.mk hB; clear hR hB))
    go_loop [3, 9] (fun n i => ∃ k : Nat, k ≤ l.length ∧ i = .int .i64 k ∧ n = .int .i64 (Utf.cnt (l.take k))) (fun _ i => l.length - (intOf i).toNat)
    case atStart => exact ⟨0, Nat.zero_le _, rfl, rfl⟩
    case round =>
      obtain ⟨k, hk, rfl, rfl⟩ := hrel
      have hmax : l.length ≤ 9223372036854775807 := by have := HL.out; omega
      have hcb := Utf.cnt_le (l.take k)
      have htl : (l.take k).length ≤ k := List.length_take_le _ _
      by_cases hlt : k < l.length
      · obtain ⟨ad', e', hc'⟩ := Kd.at_int HR.out (k : Int) (by omega) (by omega)
        cases e'
        have hbk := HB.out k
        have htk := utf_Count.take l k hlt hbk
        have er : rd l (k : Int) = l.getD k 0 := by unfold rd; rw [Int.toNat_natCast]
        rw [er] at hc'
        rw [Int.toNat_natCast] at hc'
        obtain ⟨x, hx⟩ : ∃ x, x = l.getD k 0 := ⟨_, rfl⟩
        rw [← hx] at hc' hbk htk
        clear hx er
        have HT := Aside0.mk htk
        clear htk
        by_cases h2 : x / 64 = 2
        · have h2b : (x / 64 != 2) = false := by simp [h2]
          have HT2 := Aside0.mk (HT.out.trans (by rw [if_pos h2]))
          clear h2 HT
          go_wp2
          go_round
          case rel => exact ⟨k + 1, by omega, by go_num, by rw [HT2.out]; go_num⟩
          case measure => simp [intOf]; omega
        · have h2b : (x / 64 != 2) = true := by simp [h2]
          have HT2 := Aside0.mk (HT.out.trans (by rw [if_neg h2]))
          clear h2 HT
          go_wp2
          go_round
          case rel => exact ⟨k + 1, by omega, by go_num, by rw [HT2.out]⟩
          case measure => simp [intOf]; omega
      · obtain rfl : k = l.length := by omega
        go_wp2
        go_ret
        exact ⟨rfl, HW.out⟩
  · rw [if_neg hs] at h
    exact absurd h (by simp)


/-! ### caliperref01_Count: function 20 -/
def caliperref01_Count.l0 : Nat → ByteArray → Int → Int → Option (Int)
  | 0, _, _, _ => none
  | k + 1, x0, x3, x4 => if x4 < (x0.size : Int) then (if 0 ≤ x4 then (if (bt x0 x4) < 128 then (caliperref01_Count.l0 k x0 (wrap64 (x3 + 1)) (wrap64 (x4 + 1))) else (if (bt x0 x4) > 191 then (caliperref01_Count.l0 k x0 (wrap64 (x3 + 1)) (wrap64 (x4 + 1))) else (caliperref01_Count.l0 k x0 x3 (wrap64 (x4 + 1))))) else (none)) else (some x3)
def caliperref01_Count.f (k : Nat) (a0 : ByteArray) : Option (Int) := caliperref01_Count.l0 k a0 0 0
theorem caliperref01_Count.mono_l : ∀ k, (∀ y0 y1 y2, LeO (caliperref01_Count.l0 k y0 y1 y2) (caliperref01_Count.l0 (k + 1) y0 y1 y2))
  | 0 => fun _ _ _ r h => by simp [caliperref01_Count.l0] at h
  | k + 1 => by
    have ih0 := caliperref01_Count.mono_l k
    · intro y0 y1 y2
      unfold caliperref01_Count.l0
      repeat' first
      | (with_reducible exact ih0 _ _ _)
      | (with_reducible exact LeO.refl _)
      | (with_reducible exact LeO.none _)
      | (with_reducible refine LeO.ite ?_ ?_)
      | (with_reducible refine LeO.bind ?_ (fun _ => ?_))
      | exact ih0 _ _ _
      | exact LeO.none _
      | refine LeO.ite ?_ ?_
      | refine LeO.bind ?_ (fun _ => ?_)
theorem caliperref01_Count.mono : ∀ a0 k, LeO (caliperref01_Count.f k a0) (caliperref01_Count.f (k + 1) a0) := by
  intro a0 k
  have ih0 := caliperref01_Count.mono_l k
  unfold caliperref01_Count.f
  repeat' first
      | (with_reducible exact ih0 _ _ _)
      | (with_reducible exact LeO.refl _)
      | (with_reducible exact LeO.none _)
      | (with_reducible refine LeO.ite ?_ ?_)
      | (with_reducible refine LeO.bind ?_ (fun _ => ?_))
      | exact ih0 _ _ _
      | exact LeO.none _
      | refine LeO.ite ?_ ?_
      | refine LeO.bind ?_ (fun _ => ?_)
set_option maxHeartbeats 8000000 in
set_option maxRecDepth 100000 in
theorem caliperref01_Count.calls (k : Nat) (a0 : ByteArray) (r : Int) (w : World) (h : caliperref01_Count.f k a0 = some r) :
    Calls Try.prog 20 #[.string a0] w fun e w' => e = .returned (.int .i64 r) ∧ Below w.heap.size w w' := by
  have HB := Aside0.mk (Below.refl w.heap.size w)
  have H : (caliperref01_Count.l0 k a0 0 0) = some r := h
  clear h
  have H' := Aside0.mk H
  clear H
  go_enter Try.func20, Try.ntmps20
  go_wp2
  go_loopg [3, 4] k (fun kq v3 v4 w' => ∃ (x3_1 : Int) (x4_1 : Int), v3 = .int .i64 x3_1 ∧ v4 = .int .i64 x4_1 ∧ Aside0 (caliperref01_Count.l0 kq a0 x3_1 x4_1 = some r) ∧ Aside0 (kq ≤ k) ∧ Aside0 (Below w.heap.size w w'))
  case atStart => exact ⟨(0), (0), (by first | rfl | (simp; done) | (simp [*]; done)), (by first | rfl | (simp; done) | (simp [*]; done)), H', ⟨Nat.le_refl _⟩, ⟨by repeat (first | (with_reducible first | exact HB.out | apply below_alloc | apply pw_below_drewN | apply below_drew1) | exact HB.out)⟩⟩
  case round =>
    clear H'
    obtain ⟨x3_1, x4_1, rfl, rfl, HA, HK1, HB⟩ := hrel
    cases gk with
    | zero => exact absurd HA.out (by simp [caliperref01_Count.l0])
    | succ k1 =>
      have H := HA.out
      clear HA
      simp only [caliperref01_Count.l0] at H
      by_cases c2 : x4_1 < (a0.size : Int)
      · rw [if_pos c2] at H
        have c2b0 : decide (x4_1 < (a0.size : Int)) = true := decide_eq_true c2
        clear c2
        by_cases c3 : 0 ≤ x4_1
        · rw [if_pos c3] at H
          have c3b0 : decide (0 ≤ x4_1) = true := decide_eq_true c3
          clear c3
          by_cases c5 : (bt a0 x4_1) < 128
          · rw [if_pos c5] at H
            have c5b0 : decide ((bt a0 x4_1) < 128) = true := decide_eq_true c5
            clear c5
            have H' := Aside0.mk H
            clear H
            have p4 : 0 ≤ (x4_1 : Int) := of_decide_eq_true (by first | (with_reducible assumption) | assumption)
            have q4 : x4_1 < (a0.size : Int) := of_decide_eq_true (by first | (with_reducible assumption) | assumption)
            have hx4 := bt_at a0 x4_1
            replace p4 := eq_true p4
            replace q4 := eq_true q4
            go_wp2
            go_roundg k1
            case measure => have := HK1.out; omega
            case rel => exact ⟨(wrap64 (x3_1 + 1)), (wrap64 (x4_1 + 1)), (by first | rfl | (simp; done) | (simp [*]; done)), (by first | rfl | (simp; done) | (simp [*]; done)), H', ⟨by have := HK1.out; omega⟩, ⟨by repeat (first | (with_reducible first | exact HB.out | apply below_alloc | apply pw_below_drewN | apply below_drew1) | exact HB.out)⟩⟩
          · rw [if_neg c5] at H
            have c5b0 : decide ((bt a0 x4_1) < 128) = false := decide_eq_false c5
            clear c5
            by_cases c7 : (bt a0 x4_1) > 191
            · rw [if_pos c7] at H
              have c7b0 : decide (191 < (bt a0 x4_1)) = true := decide_eq_true c7
              clear c7
              have H' := Aside0.mk H
              clear H
              have p4 : 0 ≤ (x4_1 : Int) := of_decide_eq_true (by first | (with_reducible assumption) | assumption)
              have q4 : x4_1 < (a0.size : Int) := of_decide_eq_true (by first | (with_reducible assumption) | assumption)
              have hx4 := bt_at a0 x4_1
              replace p4 := eq_true p4
              replace q4 := eq_true q4
              have p6 : 0 ≤ (x4_1 : Int) := of_decide_eq_true (by first | (with_reducible assumption) | assumption)
              have q6 : x4_1 < (a0.size : Int) := of_decide_eq_true (by first | (with_reducible assumption) | assumption)
              have hx6 := bt_at a0 x4_1
              replace p6 := eq_true p6
              replace q6 := eq_true q6
              go_wp2
              go_roundg k1
              case measure => have := HK1.out; omega
              case rel => exact ⟨(wrap64 (x3_1 + 1)), (wrap64 (x4_1 + 1)), (by first | rfl | (simp; done) | (simp [*]; done)), (by first | rfl | (simp; done) | (simp [*]; done)), H', ⟨by have := HK1.out; omega⟩, ⟨by repeat (first | (with_reducible first | exact HB.out | apply below_alloc | apply pw_below_drewN | apply below_drew1) | exact HB.out)⟩⟩
            · rw [if_neg c7] at H
              have c7b0 : decide (191 < (bt a0 x4_1)) = false := decide_eq_false c7
              clear c7
              have H' := Aside0.mk H
              clear H
              have p4 : 0 ≤ (x4_1 : Int) := of_decide_eq_true (by first | (with_reducible assumption) | assumption)
              have q4 : x4_1 < (a0.size : Int) := of_decide_eq_true (by first | (with_reducible assumption) | assumption)
              have hx4 := bt_at a0 x4_1
              replace p4 := eq_true p4
              replace q4 := eq_true q4
              have p6 : 0 ≤ (x4_1 : Int) := of_decide_eq_true (by first | (with_reducible assumption) | assumption)
              have q6 : x4_1 < (a0.size : Int) := of_decide_eq_true (by first | (with_reducible assumption) | assumption)
              have hx6 := bt_at a0 x4_1
              replace p6 := eq_true p6
              replace q6 := eq_true q6
              go_wp2
              go_roundg k1
              case measure => have := HK1.out; omega
              case rel => exact ⟨(x3_1), (wrap64 (x4_1 + 1)), (by first | rfl | (simp; done) | (simp [*]; done)), (by first | rfl | (simp; done) | (simp [*]; done)), H', ⟨by have := HK1.out; omega⟩, ⟨by repeat (first | (with_reducible first | exact HB.out | apply below_alloc | apply pw_below_drewN | apply below_drew1) | exact HB.out)⟩⟩
        · rw [if_neg c3] at H
          exact absurd H (by simp)
      · rw [if_neg c2] at H
        have c2b0 : decide (x4_1 < (a0.size : Int)) = false := decide_eq_false c2
        clear c2
        obtain rfl := Option.some.inj H
        go_wp2
        go_ret
        exact ⟨by first | rfl | (simp [errW_none, errW_some] <;> rfl) | (simp [*, errW_none, errW_some] <;> rfl), by repeat (first | (with_reducible first | exact HB.out | apply below_alloc | apply pw_below_drewN | apply below_drew1) | exact HB.out)⟩

/-! ### caliperref01_Compare: function 21: given -/
-- GIVEN plain making
def caliperref01_Compare.f (a0 : ByteArray) (a1 : ByteArray) : Option (Int) := if (Op.bytesLess a0.toList a1.toList) = true then (some (-1)) else (if (Op.bytesLess a0.toList a1.toList || a0.toList == a1.toList) = true then (some 0) else (some 1))
set_option maxHeartbeats 800000 in
theorem caliperref01_Compare.calls (a0 : ByteArray) (a1 : ByteArray) (r : Int) (w : World) (h : caliperref01_Compare.f a0 a1 = some r) :
    Calls Try.prog 21 #[.string a0, .string a1] w fun e w' => e = .returned (.int .i64 r) ∧ Below w.heap.size w w' := by
  unfold caliperref01_Compare.f at h
  by_cases c3 : (Op.bytesLess a0.toList a1.toList) = true
  · rw [if_pos c3] at h
    obtain rfl := Option.some.inj h
    clear h
    go_enter Try.func21, Try.ntmps21
    go_wp2
    go_ret
    exact ⟨rfl, Below.refl _ _⟩
  · rw [if_neg c3] at h
    have c3b : (Op.bytesLess a0.toList a1.toList) = false := by simpa using c3
    clear c3
    by_cases c4 : (Op.bytesLess a0.toList a1.toList || a0.toList == a1.toList) = true
    · rw [if_pos c4] at h
      obtain rfl := Option.some.inj h
      clear h
      have c5 : (a0.toList == a1.toList) = true := by rw [c3b] at c4; simpa using c4
      clear c4
      go_enter Try.func21, Try.ntmps21
      go_wp2
      go_ret
      exact ⟨rfl, Below.refl _ _⟩
    · rw [if_neg c4] at h
      obtain rfl := Option.some.inj h
      clear h
      have c5 : (a0.toList == a1.toList) = false := by rw [c3b] at c4; simpa using c4
      clear c4
      go_enter Try.func21, Try.ntmps21
      go_wp2
      go_ret
      exact ⟨rfl, Below.refl _ _⟩


end Go.Proofs.Ythoobepfkfjgnaa.PU
