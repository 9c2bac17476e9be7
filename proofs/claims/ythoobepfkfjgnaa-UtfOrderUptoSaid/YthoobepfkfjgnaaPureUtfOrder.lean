/- UtfOrder, the pure statement (at most 1048576 bytes): valid texts stand as their code points do. -/
import Derived.Test.YthoobepfkfjgnaaPUx6
import Derived.Test.YthoobepfkfjgnaaBase
import Derived.Test.YthoobepfkfjgnaaCmp
namespace Go.Proofs.Ythoobepfkfjgnaa.Pure
open Go.RowKit Go.Proofs.Ythoobepfkfjgnaa.PU Go.Proofs.YthoobepfkfjgnaaW.PrintWords Go.Proofs.YthoobepfkfjgnaaW.PrintLast

theorem compare_cmp {a b : List Int} (ha : Utf.Bytes a) (hb : Utf.Bytes b) : utf_Compare.f (strOfNums a) (strOfNums b) = some (Utf.cmp a b) := by
  have e : ∀ {l : List Int}, Utf.Bytes l → Utf.ints (strOfNums l).toList = l := by
    intro l hl
    rw [ByteArray.toList_eq]
    exact utf_Points.str hl
  obtain ⟨h1, h2⟩ := Utf.less_cmp (strOfNums a).toList (strOfNums b).toList
  rw [e ha, e hb] at h1 h2
  unfold utf_Compare.f
  rcases Utf.cmp_range a b with h | h | h
  · rw [if_pos (h1.2 h), h]
  · have n1 : ¬ Op.bytesLess (strOfNums a).toList (strOfNums b).toList = true := fun c => by have := h1.1 c; omega
    rw [if_neg n1, if_pos (by rw [h2.2 h, Bool.or_true]), h]
  · have n1 : Op.bytesLess (strOfNums a).toList (strOfNums b).toList = false := Bool.eq_false_iff.2 fun c => by have := h1.1 c; omega
    have n2 : ((strOfNums a).toList == (strOfNums b).toList) = false := Bool.eq_false_iff.2 fun c => by have := h2.1 c; omega
    rw [n1, n2, if_neg (by decide), if_neg (by decide), h]

section
variable (a b xs ys : List Int) (w : Int) (ha : Utf.Bytes a) (hb : Utf.Bytes b) (hw : Utf.cmp a b = w)
include ha hb hw
theorem order_end (x : Int) (i : Int) (hxw : x = w) : Ev (fun k => caliperlaw01_UtfOrder.j2 k a b xs ys x i false) true := by
  subst hxw
  refine Ev.step (f := fun k => (caliperlaw01_heads.f k).bind fun t => some t) (fun k => ?_) (Ev.bind heads_ev (Ev.now _))
  simp only [caliperlaw01_UtfOrder.j2]
  rw [if_neg (by decide), compare_cmp ha hb, compare_cmp hb ha, hw]
  simp only [Option.bind_some]
  rw [if_pos trivial, Utf.cmp_anti a b, hw, if_pos]
  have := Utf.cmp_range a b
  rw [wrap64_id (by omega) (by omega)]
/-- Behind a difference. -/
theorem order_out (i : Int) (hw0 : w ≠ 0) : Ev (fun k => caliperlaw01_UtfOrder.l0 k a b xs ys w i) true := by
  refine Ev.step (f := fun k => caliperlaw01_UtfOrder.j2 k a b xs ys w i false) (fun k => ?_) (order_end a b xs ys w ha hb hw w i rfl)
  simp only [caliperlaw01_UtfOrder.l0]
  rw [if_neg hw0]
theorem order_loop (hx : xs.length ≤ 1048576) (_hy : ys.length ≤ 1048576) : ∀ (d i : Nat), xs.length + ys.length + 1 ≤ i + d → i ≤ xs.length → i ≤ ys.length → Utf.cmp (xs.drop i) (ys.drop i) = w → Ev (fun k => caliperlaw01_UtfOrder.l0 k a b xs ys 0 (i : Int)) true := by
  intro d
  induction d with
  | zero => intro i h1 h2 h3 h4; omega
  | succ d ih =>
    intro i h1 h2 h3 h4
    have e1 : wrap64 ((i : Int) + 1) = ((i + 1 : Nat) : Int) := by rw [wrap64_id (by omega) (by omega)]; omega
    by_cases hend : i = xs.length ∧ i = ys.length
    · obtain ⟨hi1, hi2⟩ := hend
      rw [List.drop_eq_nil_of_le (by omega), List.drop_eq_nil_of_le (by omega)] at h4
      refine Ev.step (f := fun k => caliperlaw01_UtfOrder.j2 k a b xs ys 0 i false) (fun k => ?_) (order_end a b xs ys w ha hb hw 0 i h4)
      simp only [caliperlaw01_UtfOrder.l0]
      rw [if_pos trivial, if_neg (by omega), decide_eq_false (by omega)]
    · have hgo : Ev (fun k => caliperlaw01_UtfOrder.j2 k a b xs ys 0 (i : Int) true) true := by
        by_cases hxe : i = xs.length
        · -- the first is at its end
          have hw1 : w = -1 := by
            rw [show xs.drop i = [] from List.drop_eq_nil_of_le (by omega)] at h4
            cases hdr : ys.drop i with
            | nil => have := List.drop_eq_nil_iff.1 hdr; omega
            | cons c r => rw [hdr] at h4; exact h4.symm
          subst hw1
          refine Ev.step (f := fun k => caliperlaw01_UtfOrder.j3 k a b xs ys 0 (i : Int) true) (fun k => ?_) ?_
          · simp only [caliperlaw01_UtfOrder.j2]
            rw [if_pos trivial, if_pos (by omega)]
          · refine Ev.step (f := fun k => caliperlaw01_UtfOrder.l0 k a b xs ys (-1) ((i + 1 : Nat) : Int)) (fun k => ?_) (order_out a b xs ys (-1) ha hb hw _ (by decide))
            simp only [caliperlaw01_UtfOrder.j3]
            rw [if_pos trivial, e1]
        · have hxl : i < xs.length := by omega
          have hrx : rd xs (i : Int) = xs[i] := by unfold rd; rw [Int.toNat_natCast, List.getD_eq_getElem?_getD, List.getElem?_eq_getElem hxl]; rfl
          by_cases hye : i = ys.length
          · have hw1 : w = 1 := by
              rw [show ys.drop i = [] from List.drop_eq_nil_of_le (by omega), List.drop_eq_getElem_cons hxl] at h4
              exact h4.symm
            subst hw1
            refine Ev.step (f := fun k => caliperlaw01_UtfOrder.j3 k a b xs ys 0 (i : Int) false) (fun k => ?_) ?_
            · simp only [caliperlaw01_UtfOrder.j2]
              rw [if_pos trivial, if_neg (by omega), if_neg (by omega)]
            · refine Ev.step (f := fun k => caliperlaw01_UtfOrder.l0 k a b xs ys 1 ((i + 1 : Nat) : Int)) (fun k => ?_) (order_out a b xs ys 1 ha hb hw _ (by decide))
              simp only [caliperlaw01_UtfOrder.j3]
              rw [if_neg (by decide), if_pos (by omega), e1]
          · have hyl : i < ys.length := by omega
            have hry : rd ys (i : Int) = ys[i] := by unfold rd; rw [Int.toNat_natCast, List.getD_eq_getElem?_getD, List.getElem?_eq_getElem hyl]; rfl
            rw [List.drop_eq_getElem_cons hxl, List.drop_eq_getElem_cons hyl] at h4
            refine Ev.step (f := fun k => caliperlaw01_UtfOrder.j3 k a b xs ys 0 (i : Int) (decide (xs[i] < ys[i]))) (fun k => ?_) ?_
            · simp only [caliperlaw01_UtfOrder.j2]
              rw [if_pos trivial, if_neg (by omega), if_pos (by omega), if_pos (by omega), if_pos (by omega), hrx, hry]
            · by_cases c1 : xs[i] < ys[i]
              · rw [Utf.cmp_cons_lt c1] at h4
                subst h4
                refine Ev.step (f := fun k => caliperlaw01_UtfOrder.l0 k a b xs ys (-1) ((i + 1 : Nat) : Int)) (fun k => ?_) (order_out a b xs ys (-1) ha hb hw _ (by decide))
                simp only [caliperlaw01_UtfOrder.j3]
                rw [if_pos (decide_eq_true c1), e1]
              · by_cases c2 : ys[i] < xs[i]
                · rw [Utf.cmp_cons_gt c2] at h4
                  subst h4
                  refine Ev.step (f := fun k => caliperlaw01_UtfOrder.l0 k a b xs ys 1 ((i + 1 : Nat) : Int)) (fun k => ?_) (order_out a b xs ys 1 ha hb hw _ (by decide))
                  simp only [caliperlaw01_UtfOrder.j3]
                  rw [if_neg (by simpa using c1), if_neg (by omega), if_pos (by omega), if_pos (by omega), if_pos (by omega), hrx, hry, if_pos c2, e1]
                · rw [show xs[i] = ys[i] by omega, Utf.cmp_cons_eq] at h4
                  refine Ev.step (f := fun k => caliperlaw01_UtfOrder.l0 k a b xs ys 0 ((i + 1 : Nat) : Int)) (fun k => ?_) (ih (i + 1) (by omega) (by omega) (by omega) h4)
                  simp only [caliperlaw01_UtfOrder.j3]
                  rw [if_neg (by simpa using c1), if_neg (by omega), if_pos (by omega), if_pos (by omega), if_pos (by omega), hrx, hry, if_neg c2, e1]
      refine Ev.step (f := fun k => caliperlaw01_UtfOrder.j2 k a b xs ys 0 (i : Int) true) (fun k => ?_) hgo
      simp only [caliperlaw01_UtfOrder.l0]
      rw [if_pos trivial]
      by_cases c : (i : Int) < (xs.length : Int)
      · rw [if_pos c]
      · rw [if_neg c, decide_eq_true (by omega)]
end

theorem UtfOrderUpto : ∀ a b : List Int, a.length ≤ 1048576 → (∀ x ∈ a, (Lit.int .u8 x).wf = true) → b.length ≤ 1048576 → (∀ x ∈ b, (Lit.int .u8 x).wf = true) → ∃ k, caliperlaw01_UtfOrder.f k a b = some true := by
  intro a b hla hwa hlb hwb
  have ha := bytes_of hwa
  have hb := bytes_of hwb
  have pt : ∀ l : List Int, l.length ≤ 1048576 → Utf.Bytes l → utf_Points.f l = some (if (Utf.good l).2 = true then (Utf.pts l, 0) else ([], 10)) := by
    intro l hl hbl
    have hpl := Utf.pts_length_le l.length l (Nat.le_refl _)
    unfold utf_Points.f
    rw [if_pos (points_ok hbl)]
    by_cases h : (Utf.good l).2 = true
    · rw [if_pos h, if_pos h, if_pos ⟨by omega, by omega⟩]
    · rw [if_neg h, if_neg h, if_pos (by omega)]
  have hbad : ∀ xs ys, Ev (fun k => caliperlaw01_UtfOrder.j0 k a b xs ys true) true := by
    intro xs ys
    refine Ev.step (f := fun k => (caliperlaw01_heads.f k).bind fun t => some t) (fun k => ?_) (Ev.bind heads_ev (Ev.now _))
    simp only [caliperlaw01_UtfOrder.j0]
    rw [if_pos trivial]
  refine Ev.rounds (g := fun k => caliperlaw01_UtfOrder.f k a b) ?_
  by_cases h1 : (Utf.good a).2 = true
  · by_cases h2 : (Utf.good b).2 = true
    · obtain ⟨sa, ea⟩ := Utf.valid_of_good ha h1
      obtain ⟨sb, eb⟩ := Utf.valid_of_good hb h2
      have la := Utf.pts_length_le a.length a (Nat.le_refl _)
      have lb := Utf.pts_length_le b.length b (Nat.le_refl _)
      have hc := Utf.cmp_encs (Utf.pts a) (Utf.pts b) sa sb
      rw [← ea, ← eb] at hc
      refine Ev.congr (f := fun k => caliperlaw01_UtfOrder.j0 k a b (Utf.pts a) (Utf.pts b) false) (fun k => ?_) ?_
      · unfold caliperlaw01_UtfOrder.f
        rw [pt a hla ha, pt b hlb hb, if_pos h1, if_pos h2]
        rfl
      · refine Ev.step (f := fun k => caliperlaw01_UtfOrder.l0 k a b (Utf.pts a) (Utf.pts b) 0 0) (fun k => ?_) ?_
        · simp only [caliperlaw01_UtfOrder.j0]
          rw [if_neg (by decide)]
        · exact order_loop a b (Utf.pts a) (Utf.pts b) _ ha hb hc (by omega) (by omega) ((Utf.pts a).length + (Utf.pts b).length + 1) 0 (by omega) (by omega) (by omega) rfl
    · refine Ev.congr (f := fun k => caliperlaw01_UtfOrder.j0 k a b (Utf.pts a) [] true) (fun k => ?_) (hbad _ _)
      unfold caliperlaw01_UtfOrder.f
      rw [pt a hla ha, pt b hlb hb, if_pos h1, if_neg h2]
      rfl
  · refine Ev.congr (f := fun k => caliperlaw01_UtfOrder.j0 k a b [] (if (Utf.good b).2 = true then (Utf.pts b, (0 : Int)) else ([], 10)).1 true) (fun k => ?_) (hbad _ _)
    unfold caliperlaw01_UtfOrder.f
    rw [pt a hla ha, pt b hlb hb, if_neg h1]
    rfl
end Go.Proofs.Ythoobepfkfjgnaa.Pure
