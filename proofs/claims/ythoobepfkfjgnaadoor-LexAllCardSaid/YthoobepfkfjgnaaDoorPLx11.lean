-- Written by printx.py (this claim's own program, over the kit's print): the functions that this claim reaches. Not trusted: Lean checks it.
import Derived.Test.YthoobepfkfjgnaaDoorPLx0
import Derived.Test.YthoobepfkfjgnaaDoorPLx9
import Derived.Test.YthoobepfkfjgnaaDoorPLx10
namespace Go.Proofs.YthoobepfkfjgnaaDoor.PL
open Go.RowKit Go.Proofs.YthoobepfkfjgnaaDoorW.PrintWords Go.Proofs.YthoobepfkfjgnaaDoorW.PrintLast Go.Proofs.YthoobepfkfjgnaaDoorW.PrintMore
attribute [local go_sem] max2_int min2_int max_two min_two max_three min_three max_four min_four   -- for this text's walks alone
set_option linter.unusedVariables false
set_option linter.unusedSimpArgs false

/-! ### caliperref04_escape: function 39 -/
mutual
def caliperref04_escape.l0 : Nat → List Int → Int → ByteArray → ByteArray → Int → Option (Int × Int × Int)
  | 0, _, _, _, _, _ => none
  | k + 1, x0, x1, x7, x8, x9 => if x9 < (x7.size : Int) then (if 0 ≤ x1 then (if x1 < (x0.length : Int) then (if 0 ≤ x9 then (if (rd x0 x1) = (bt x7 x9) then (if x9 < (x8.size : Int) then (some (wrap64 (bt x8 x9), wrap64 (x1 + 1), 0)) else (none)) else (caliperref04_escape.l0 k x0 x1 x7 x8 (wrap64 (x9 + 1)))) else (none)) else (none)) else (none)) else (if 0 ≤ x1 then (if x1 < (x0.length : Int) then (if (rd x0 x1) = 117 then ((caliperref04_four.f k x0 (wrap64 (x1 + 1)) false).bind fun bt166 => (if bt166.2.2 > 0 then (caliperref04_escape.j1 k x0 bt166.1 bt166.2.1 bt166.2.2 true) else (if bt166.1 < 55296 then (caliperref04_escape.j1 k x0 bt166.1 bt166.2.1 bt166.2.2 true) else (caliperref04_escape.j1 k x0 bt166.1 bt166.2.1 bt166.2.2 (decide (bt166.1 > 56319)))))) else (some (0, 0, wrap64 (x1 + 1)))) else (none)) else (none))
def caliperref04_escape.j1 : Nat → List Int → Int → Int → Int → Bool → Option (Int × Int × Int)
  | 0, _, _, _, _, _ => none
  | k + 1, x0, x10, x11, x12, x70 => if x70 = true then (some (x10, x11, x12)) else (caliperref04_escape.l1 k x0 x10 x11 (⟨#[92, 117]⟩ : ByteArray) 0)
def caliperref04_escape.l1 : Nat → List Int → Int → Int → ByteArray → Int → Option (Int × Int × Int)
  | 0, _, _, _, _, _ => none
  | k + 1, x0, x10, x11, x13, x14 => if x14 < 2 then (if (wrap64 (x11 + x14)) = (x0.length : Int) then (some (0, 0, wrap64 ((wrap64 (x11 + x14)) + 1))) else (if 0 ≤ (wrap64 (x11 + x14)) then (if (wrap64 (x11 + x14)) < (x0.length : Int) then (if 0 ≤ x14 then (if x14 < (x13.size : Int) then (if (rd x0 (wrap64 (x11 + x14))) = (bt x13 x14) then (caliperref04_escape.l1 k x0 x10 x11 x13 (wrap64 (x14 + 1))) else (some (0, 0, wrap64 ((wrap64 (x11 + x14)) + 1)))) else (none)) else (none)) else (none)) else (none))) else ((caliperref04_four.f k x0 (wrap64 (x11 + 2)) true).bind fun bt170 => (if bt170.2.2 > 0 then (some (0, 0, bt170.2.2)) else ((caliperref01_Pair.f x10 bt170.1).bind fun bt173 => (some (bt173.1, bt170.2.1, 0)))))
end
def caliperref04_escape.f (k : Nat) (l0 : List Int) (a1 : Int) : Option (Int × Int × Int) := if a1 = (l0.length : Int) then (some (0, 0, wrap64 (a1 + 1))) else (caliperref04_escape.l0 k l0 a1 (⟨#[34, 92, 47, 98, 102, 110, 114, 116]⟩ : ByteArray) (⟨#[34, 92, 47, 8, 12, 10, 13, 9]⟩ : ByteArray) 0)
theorem caliperref04_escape.mono_l : ∀ k, (∀ y0 y1 y2 y3 y4, LeO (caliperref04_escape.l0 k y0 y1 y2 y3 y4) (caliperref04_escape.l0 (k + 1) y0 y1 y2 y3 y4)) ∧ (∀ y0 y1 y2 y3 y4, LeO (caliperref04_escape.j1 k y0 y1 y2 y3 y4) (caliperref04_escape.j1 (k + 1) y0 y1 y2 y3 y4)) ∧ (∀ y0 y1 y2 y3 y4, LeO (caliperref04_escape.l1 k y0 y1 y2 y3 y4) (caliperref04_escape.l1 (k + 1) y0 y1 y2 y3 y4))
  | 0 => ⟨fun _ _ _ _ _ r h => by simp [caliperref04_escape.l0] at h, fun _ _ _ _ _ r h => by simp [caliperref04_escape.j1] at h, fun _ _ _ _ _ r h => by simp [caliperref04_escape.l1] at h⟩
  | k + 1 => by
    obtain ⟨ih0, ih1, ih2⟩ := caliperref04_escape.mono_l k
    refine ⟨?_, ?_, ?_⟩
    · intro y0 y1 y2 y3 y4
      unfold caliperref04_escape.l0
      repeat' first
      | (with_reducible exact ih0 _ _ _ _ _)
      | (with_reducible exact ih1 _ _ _ _ _)
      | (with_reducible exact ih2 _ _ _ _ _)
      | (with_reducible exact caliperref04_four.mono _ _ _ _)
      | (with_reducible exact LeO.refl _)
      | (with_reducible exact LeO.none _)
      | (with_reducible refine LeO.ite ?_ ?_)
      | (with_reducible refine LeO.bind ?_ (fun _ => ?_))
      | exact ih0 _ _ _ _ _
      | exact ih1 _ _ _ _ _
      | exact ih2 _ _ _ _ _
      | exact caliperref04_four.mono _ _ _ _
      | exact LeO.none _
      | refine LeO.ite ?_ ?_
      | refine LeO.bind ?_ (fun _ => ?_)
    · intro y0 y1 y2 y3 y4
      unfold caliperref04_escape.j1
      repeat' first
      | (with_reducible exact ih0 _ _ _ _ _)
      | (with_reducible exact ih1 _ _ _ _ _)
      | (with_reducible exact ih2 _ _ _ _ _)
      | (with_reducible exact caliperref04_four.mono _ _ _ _)
      | (with_reducible exact LeO.refl _)
      | (with_reducible exact LeO.none _)
      | (with_reducible refine LeO.ite ?_ ?_)
      | (with_reducible refine LeO.bind ?_ (fun _ => ?_))
      | exact ih0 _ _ _ _ _
      | exact ih1 _ _ _ _ _
      | exact ih2 _ _ _ _ _
      | exact caliperref04_four.mono _ _ _ _
      | exact LeO.none _
      | refine LeO.ite ?_ ?_
      | refine LeO.bind ?_ (fun _ => ?_)
    · intro y0 y1 y2 y3 y4
      unfold caliperref04_escape.l1
      repeat' first
      | (with_reducible exact ih0 _ _ _ _ _)
      | (with_reducible exact ih1 _ _ _ _ _)
      | (with_reducible exact ih2 _ _ _ _ _)
      | (with_reducible exact caliperref04_four.mono _ _ _ _)
      | (with_reducible exact LeO.refl _)
      | (with_reducible exact LeO.none _)
      | (with_reducible refine LeO.ite ?_ ?_)
      | (with_reducible refine LeO.bind ?_ (fun _ => ?_))
      | exact ih0 _ _ _ _ _
      | exact ih1 _ _ _ _ _
      | exact ih2 _ _ _ _ _
      | exact caliperref04_four.mono _ _ _ _
      | exact LeO.none _
      | refine LeO.ite ?_ ?_
      | refine LeO.bind ?_ (fun _ => ?_)
theorem caliperref04_escape.mono : ∀ a0 a1 k, LeO (caliperref04_escape.f k a0 a1) (caliperref04_escape.f (k + 1) a0 a1) := by
  intro a0 a1 k
  obtain ⟨ih0, ih1, ih2⟩ := caliperref04_escape.mono_l k
  unfold caliperref04_escape.f
  repeat' first
      | (with_reducible exact ih0 _ _ _ _ _)
      | (with_reducible exact ih1 _ _ _ _ _)
      | (with_reducible exact ih2 _ _ _ _ _)
      | (with_reducible exact caliperref04_four.mono _ _ _ _)
      | (with_reducible exact LeO.refl _)
      | (with_reducible exact LeO.none _)
      | (with_reducible refine LeO.ite ?_ ?_)
      | (with_reducible refine LeO.bind ?_ (fun _ => ?_))
      | exact ih0 _ _ _ _ _
      | exact ih1 _ _ _ _ _
      | exact ih2 _ _ _ _ _
      | exact caliperref04_four.mono _ _ _ _
      | exact LeO.none _
      | refine LeO.ite ?_ ?_
      | refine LeO.bind ?_ (fun _ => ?_)
set_option maxHeartbeats 8000000 in
set_option maxRecDepth 100000 in
theorem caliperref04_escape.calls (k : Nat) (A0 : Option Addr) (c0 : Nat) (l0 : List Int) (a1 : Int) (r1 : Int) (r2 : Int) (r3 : Int) (w : World) (hr0 : Kd.C (Kd.int .u8) w A0 l0.length l0) (hc0 : l0.length ≤ c0) (h : caliperref04_escape.f k l0 a1 = some (r1, r2, r3)) :
    Calls Tryd.prog 39 #[.slice A0 l0.length c0, .int .i64 a1] w fun e w' => e = .returned (.tuple #[.int .i64 r1, .int .i64 r2, .int .i64 r3]) ∧ Drawn0 w w' := by
  have HR0 := Aside0.mk hr0
  have HC0 := Aside0.mk hc0
  clear hr0 hc0
  have H : (if a1 = (l0.length : Int) then (some (0, 0, wrap64 (a1 + 1))) else (caliperref04_escape.l0 k l0 a1 (⟨#[34, 92, 47, 98, 102, 110, 114, 116]⟩ : ByteArray) (⟨#[34, 92, 47, 8, 12, 10, 13, 9]⟩ : ByteArray) 0)) = some (r1, r2, r3) := h
  clear h
  by_cases c3 : a1 = (l0.length : Int)
  · rw [if_pos c3] at H
    have c3b0 : (a1 == (l0.length : Int)) = true := beq_iff_eq.mpr c3
    have c3b1 : (a1 != (l0.length : Int)) = false := bne_eq_false_iff_eq.mpr c3
    clear c3
    simp only [Option.some.injEq, Prod.mk.injEq] at H
    obtain ⟨rfl, rfl, rfl⟩ := H
    go_enter Tryd.func39, Tryd.ntmps39
    go_wp2
    repeat (go_quiet (fail); try go_wp2)
    go_ret3
    exact ⟨by first | rfl | (simp; done) | (simp [*]; done), by repeat (first | exact Drawn0.refl _ | apply Drawn0.step)⟩
  · rw [if_neg c3] at H
    have c3b0 : (a1 == (l0.length : Int)) = false := beq_eq_false_iff_ne.mpr c3
    have c3b1 : (a1 != (l0.length : Int)) = true := bne_iff_ne.mpr c3
    have H' := Aside0.mk H
    clear H
    go_enter Tryd.func39, Tryd.ntmps39
    go_wp2
    repeat (go_quiet (fail); try go_wp2)
    go_loopg [9] k (fun kq v9 w' => ∃ (x9_1 : Int), v9 = .int .i64 x9_1 ∧ Aside0 (caliperref04_escape.l0 kq l0 a1 (⟨#[34, 92, 47, 98, 102, 110, 114, 116]⟩ : ByteArray) (⟨#[34, 92, 47, 8, 12, 10, 13, 9]⟩ : ByteArray) x9_1 = some (r1, r2, r3)) ∧ Aside0 (kq ≤ k) ∧ Drawn0 w w')
    case atStart => exact ⟨(0), (by first | rfl | (simp; done) | (simp [*]; done)), H', ⟨Nat.le_refl _⟩, by repeat (first | exact Drawn0.refl _ | apply Drawn0.step)⟩
    case round =>
      clear H'
      try clear p2
      try clear c3
      try clear c3b0
      try clear c3b1
      obtain ⟨x9_1, rfl, HA, HK1, ⟨m1, rfl⟩⟩ := hrel
      cases gk with
      | zero => exact absurd HA.out (by simp [caliperref04_escape.l0])
      | succ k1 =>
        have H := HA.out
        clear HA
        simp only [caliperref04_escape.l0] at H
        by_cases c4 : x9_1 < ((⟨#[34, 92, 47, 98, 102, 110, 114, 116]⟩ : ByteArray).size : Int)
        · rw [if_pos c4] at H
          have c4b0 : decide (x9_1 < ((⟨#[34, 92, 47, 98, 102, 110, 114, 116]⟩ : ByteArray).size : Int)) = true := decide_eq_true c4
          have c4b0l : decide (x9_1 < (8 : Int)) = true := c4b0
          clear c4
          by_cases c5 : 0 ≤ a1
          · rw [if_pos c5] at H
            have c5b0 : decide (0 ≤ a1) = true := decide_eq_true c5
            clear c5
            by_cases c6 : a1 < (l0.length : Int)
            · rw [if_pos c6] at H
              have c6b0 : decide (a1 < (l0.length : Int)) = true := decide_eq_true c6
              clear c6
              by_cases c7 : 0 ≤ x9_1
              · rw [if_pos c7] at H
                have c7b0 : decide (0 ≤ x9_1) = true := decide_eq_true c7
                clear c7
                by_cases c9 : (rd l0 a1) = (bt (⟨#[34, 92, 47, 98, 102, 110, 114, 116]⟩ : ByteArray) x9_1)
                · rw [if_pos c9] at H
                  have c9b0 : ((rd l0 a1) == (bt (⟨#[34, 92, 47, 98, 102, 110, 114, 116]⟩ : ByteArray) x9_1)) = true := beq_iff_eq.mpr c9
                  have c9b1 : ((rd l0 a1) != (bt (⟨#[34, 92, 47, 98, 102, 110, 114, 116]⟩ : ByteArray) x9_1)) = false := bne_eq_false_iff_eq.mpr c9
                  clear c9
                  by_cases c10 : x9_1 < ((⟨#[34, 92, 47, 8, 12, 10, 13, 9]⟩ : ByteArray).size : Int)
                  · rw [if_pos c10] at H
                    have c10b0 : decide (x9_1 < ((⟨#[34, 92, 47, 8, 12, 10, 13, 9]⟩ : ByteArray).size : Int)) = true := decide_eq_true c10
                    have c10b0l : decide (x9_1 < (8 : Int)) = true := c10b0
                    clear c10
                    simp only [Option.some.injEq, Prod.mk.injEq] at H
                    obtain ⟨rfl, rfl, rfl⟩ := H
                    have p164 : 0 ≤ (a1 : Int) := of_decide_eq_true (by first | (with_reducible assumption) | assumption)
                    have q164 : a1 < (l0.length : Int) := of_decide_eq_true (by first | (with_reducible assumption) | assumption)
                    obtain ⟨ad164, e164, hx164_0⟩ := Kd.at_int HR0.out a1 p164 q164
                    cases e164
                    replace p164 := eq_true p164
                    replace q164 := eq_true q164
                    have p8 : 0 ≤ (x9_1 : Int) := of_decide_eq_true (by first | (with_reducible assumption) | assumption)
                    have q8 : x9_1 < (8 : Int) := of_decide_eq_true (by first | (with_reducible assumption) | assumption)
                    have hx8 := bt_at (⟨#[34, 92, 47, 98, 102, 110, 114, 116]⟩ : ByteArray) x9_1
                    replace p8 := eq_true p8
                    replace q8 := eq_true q8
                    have p11 : 0 ≤ (x9_1 : Int) := of_decide_eq_true (by first | (with_reducible assumption) | assumption)
                    have q11 : x9_1 < (8 : Int) := of_decide_eq_true (by first | (with_reducible assumption) | assumption)
                    have hx11 := bt_at (⟨#[34, 92, 47, 8, 12, 10, 13, 9]⟩ : ByteArray) x9_1
                    replace p11 := eq_true p11
                    replace q11 := eq_true q11
                    go_wp2
                    repeat (go_quiet (fail); try go_wp2)
                    go_ret3
                    exact ⟨by first | rfl | (simp; done) | (simp [*]; done), by repeat (first | exact Drawn0.refl _ | apply Drawn0.step)⟩
                  · rw [if_neg c10] at H
                    exact absurd H (by simp)
                · rw [if_neg c9] at H
                  have c9b0 : ((rd l0 a1) == (bt (⟨#[34, 92, 47, 98, 102, 110, 114, 116]⟩ : ByteArray) x9_1)) = false := beq_eq_false_iff_ne.mpr c9
                  have c9b1 : ((rd l0 a1) != (bt (⟨#[34, 92, 47, 98, 102, 110, 114, 116]⟩ : ByteArray) x9_1)) = true := bne_iff_ne.mpr c9
                  have H' := Aside0.mk H
                  clear H
                  have p164 : 0 ≤ (a1 : Int) := of_decide_eq_true (by first | (with_reducible assumption) | assumption)
                  have q164 : a1 < (l0.length : Int) := of_decide_eq_true (by first | (with_reducible assumption) | assumption)
                  obtain ⟨ad164, e164, hx164_0⟩ := Kd.at_int HR0.out a1 p164 q164
                  cases e164
                  replace p164 := eq_true p164
                  replace q164 := eq_true q164
                  have p8 : 0 ≤ (x9_1 : Int) := of_decide_eq_true (by first | (with_reducible assumption) | assumption)
                  have q8 : x9_1 < (8 : Int) := of_decide_eq_true (by first | (with_reducible assumption) | assumption)
                  have hx8 := bt_at (⟨#[34, 92, 47, 98, 102, 110, 114, 116]⟩ : ByteArray) x9_1
                  replace p8 := eq_true p8
                  replace q8 := eq_true q8
                  go_wp2
                  repeat (go_quiet (fail); try go_wp2)
                  go_roundg k1
                  case measure => have := HK1.out; omega
                  case rel => exact ⟨(wrap64 (x9_1 + 1)), (by first | rfl | (simp; done) | (simp [*]; done)), H', ⟨by have := HK1.out; omega⟩, by repeat (first | exact Drawn0.refl _ | apply Drawn0.step)⟩
              · rw [if_neg c7] at H
                exact absurd H (by simp)
            · rw [if_neg c6] at H
              exact absurd H (by simp)
          · rw [if_neg c5] at H
            exact absurd H (by simp)
        · rw [if_neg c4] at H
          have c4b0 : decide (x9_1 < ((⟨#[34, 92, 47, 98, 102, 110, 114, 116]⟩ : ByteArray).size : Int)) = false := decide_eq_false c4
          have c4b0l : decide (x9_1 < (8 : Int)) = false := c4b0
          clear c4
          by_cases c12 : 0 ≤ a1
          · rw [if_pos c12] at H
            have c12b0 : decide (0 ≤ a1) = true := decide_eq_true c12
            clear c12
            by_cases c13 : a1 < (l0.length : Int)
            · rw [if_pos c13] at H
              have c13b0 : decide (a1 < (l0.length : Int)) = true := decide_eq_true c13
              clear c13
              by_cases c14 : (rd l0 a1) = 117
              · rw [if_pos c14] at H
                have c14b0 : ((rd l0 a1) == 117) = true := beq_iff_eq.mpr c14
                have c14b1 : ((rd l0 a1) != 117) = false := bne_eq_false_iff_eq.mpr c14
                clear c14
                replace H := Option.bind_eq_some_iff.mp H
                obtain ⟨⟨t166, t167, t168⟩, A150, H⟩ := H
                replace H : (if t168 > 0 then (caliperref04_escape.j1 k1 l0 t166 t167 t168 true) else (if t166 < 55296 then (caliperref04_escape.j1 k1 l0 t166 t167 t168 true) else (caliperref04_escape.j1 k1 l0 t166 t167 t168 (decide (t166 > 56319))))) = some (r1, r2, r3) := H
                have A15 := Aside0.mk A150
                clear A150
                have HC16 := Aside0.mk H
                clear H
                have p165 : 0 ≤ (a1 : Int) := of_decide_eq_true (by first | (with_reducible assumption) | assumption)
                have q165 : a1 < (l0.length : Int) := of_decide_eq_true (by first | (with_reducible assumption) | assumption)
                obtain ⟨ad165, e165, hx165_0⟩ := Kd.at_int HR0.out a1 p165 q165
                cases e165
                replace p165 := eq_true p165
                replace q165 := eq_true q165
                go_upto_region 12 with (first | (go_at_call 53; (with_reducible refine (caliperref04_four.calls k1 _ _ l0 (wrap64 (a1 + 1)) false t166 t167 t168 _ ?side1 ?side2 A15.out).mono ?_); (case side1 => repeat (first | exact HR0.out | (with_reducible refine Kd.C_alloc ?_ _) | (with_reducible refine Kd.C_drewN ?_ _) | (with_reducible refine Kd.C_drew ?_))); (case side2 => exact HC0.out); rintro e w' ⟨rfl, ⟨nd, rfl⟩⟩; (try first | exact ⟨rfl, _, World.drewN_drewN _ _ _⟩ | exact ⟨rfl, _, Eq.trans (World.drewN_drewN _ _ _) (congrArg (World.drewN _) (Nat.add_assoc _ _ _))⟩)))
                repeat (go_quiet (first | (go_at_call 53; (with_reducible refine (caliperref04_four.calls k1 _ _ l0 (wrap64 (a1 + 1)) false t166 t167 t168 _ ?side1 ?side2 A15.out).mono ?_); (case side1 => repeat (first | exact HR0.out | (with_reducible refine Kd.C_alloc ?_ _) | (with_reducible refine Kd.C_drewN ?_ _) | (with_reducible refine Kd.C_drew ?_))); (case side2 => exact HC0.out); rintro e w' ⟨rfl, ⟨nd, rfl⟩⟩; (try first | exact ⟨rfl, _, World.drewN_drewN _ _ _⟩ | exact ⟨rfl, _, Eq.trans (World.drewN_drewN _ _ _) (congrArg (World.drewN _) (Nat.add_assoc _ _ _))⟩))); go_upto_region 12 with (first | (go_at_call 53; (with_reducible refine (caliperref04_four.calls k1 _ _ l0 (wrap64 (a1 + 1)) false t166 t167 t168 _ ?side1 ?side2 A15.out).mono ?_); (case side1 => repeat (first | exact HR0.out | (with_reducible refine Kd.C_alloc ?_ _) | (with_reducible refine Kd.C_drewN ?_ _) | (with_reducible refine Kd.C_drew ?_))); (case side2 => exact HC0.out); rintro e w' ⟨rfl, ⟨nd, rfl⟩⟩; (try first | exact ⟨rfl, _, World.drewN_drewN _ _ _⟩ | exact ⟨rfl, _, Eq.trans (World.drewN_drewN _ _ _) (congrArg (World.drewN _) (Nat.add_assoc _ _ _))⟩))))
                (try simp only [Act.put, List.setIfInBounds_toArray, List.set_cons_zero, List.set_cons_succ])
                go_cut [70] (fun v70 wc => ∃ (kq : Nat) (x70_15 : Bool), v70 = .bool x70_15 ∧ Aside0 (caliperref04_escape.j1 kq l0 t166 t167 t168 x70_15 = some (r1, r2, r3)) ∧ Aside0 (kq ≤ k1) ∧ Drawn0 w wc)
                case first =>
                  have H := HC16.out
                  clear HC16
                  by_cases c17 : t168 > 0
                  · rw [if_pos c17] at H
                    have c17b0 : decide (0 < t168) = true := decide_eq_true c17
                    clear c17
                    (first | rw [c17b0] | (simp only [i64_w, i32_w]; rw [c17b0]) | skip)
                    have H' := Aside0.mk H
                    clear H
                    go_wp2
                    repeat (go_quiet (fail); try go_wp2)
                    go_meet
                    case rel => exact ⟨_, (true), (by first | rfl | (simp; done) | (simp [*]; done)), H', ⟨by have := HK1.out; first | omega | exact Nat.le_refl _⟩, by repeat (first | exact Drawn0.refl _ | apply Drawn0.step)⟩
                  · rw [if_neg c17] at H
                    have c17b0 : decide (0 < t168) = false := decide_eq_false c17
                    clear c17
                    (first | rw [c17b0] | (simp only [i64_w, i32_w]; rw [c17b0]) | skip)
                    by_cases c18 : t166 < 55296
                    · rw [if_pos c18] at H
                      have c18b0 : decide (t166 < 55296) = true := decide_eq_true c18
                      clear c18
                      have H' := Aside0.mk H
                      clear H
                      go_wp2
                      repeat (go_quiet (fail); try go_wp2)
                      go_meet
                      case rel => exact ⟨_, (true), (by first | rfl | (simp; done) | (simp [*]; done)), H', ⟨by have := HK1.out; first | omega | exact Nat.le_refl _⟩, by repeat (first | exact Drawn0.refl _ | apply Drawn0.step)⟩
                    · rw [if_neg c18] at H
                      have c18b0 : decide (t166 < 55296) = false := decide_eq_false c18
                      clear c18
                      have H' := Aside0.mk H
                      clear H
                      go_wp2
                      repeat (go_quiet (fail); try go_wp2)
                      go_meet
                      case rel => exact ⟨_, (decide (t166 > 56319)), (by first | rfl | (simp; done) | (simp [*]; done)), H', ⟨by have := HK1.out; first | omega | exact Nat.le_refl _⟩, by repeat (first | exact Drawn0.refl _ | apply Drawn0.step)⟩
                case rest =>
                  clear HC16
                  try clear c1
                  try clear p1
                  try clear q1
                  try clear hx1
                  try clear p2
                  try clear c3
                  try clear c3b0
                  try clear c3b1
                  try clear c4
                  try clear c4b0
                  try clear c5
                  try clear c5b0
                  try clear c6
                  try clear c6b0
                  try clear p6
                  try clear c7
                  try clear c7b0
                  try clear p8
                  try clear q8
                  try clear hx8
                  try clear c9
                  try clear c9b0
                  try clear c9b1
                  try clear c10
                  try clear c10b0
                  try clear p11
                  try clear q11
                  try clear hx11
                  try clear c12
                  try clear c12b0
                  try clear c13
                  try clear c13b0
                  try clear c14
                  try clear c14b0
                  try clear c14b1
                  try clear p16
                  try clear q16
                  try clear hx16
                  try clear c17
                  try clear c17b0
                  try clear c18
                  try clear c18b0
                  try clear hx164_0
                  try clear hx165_0
                  try clear p11
                  try clear p164
                  try clear p165
                  try clear p2
                  try clear p8
                  try clear q11
                  try clear q164
                  try clear q165
                  try clear q8
                  obtain ⟨kq, x70_15, rfl, HA, HJ15, ⟨mc15, rfl⟩⟩ := hcut
                  cases kq with
                  | zero => exact absurd HA.out (by simp [caliperref04_escape.j1])
                  | succ kj15 =>
                    have H := HA.out
                    clear HA
                    simp only [caliperref04_escape.j1] at H
                    by_cases c19 : x70_15 = true
                    · subst c19
                      have H1 : (some (t166, t167, t168)) = some (r1, r2, r3) := by rw [if_pos rfl] at H; exact H
                      clear H
                      have H := H1
                      clear H1
                      simp only [Option.some.injEq, Prod.mk.injEq] at H
                      obtain ⟨rfl, rfl, rfl⟩ := H
                      go_wp2
                      repeat (go_quiet (fail); try go_wp2)
                      go_ret3
                      exact ⟨by first | rfl | (simp; done) | (simp [*]; done), by repeat (first | exact Drawn0.refl _ | apply Drawn0.step)⟩
                    · replace c19 := Bool.eq_false_iff.mpr c19
                      subst c19
                      have H1 : (caliperref04_escape.l1 kj15 l0 t166 t167 (⟨#[92, 117]⟩ : ByteArray) 0) = some (r1, r2, r3) := by rw [if_neg (show ¬ (false = true) by decide)] at H; exact H
                      clear H
                      have H := H1
                      clear H1
                      have H' := Aside0.mk H
                      clear H
                      go_wp2
                      repeat (go_quiet (fail); try go_wp2)
                      go_loopg [14] kj15 (fun kq v14 w' => ∃ (x14_3 : Int), v14 = .int .i64 x14_3 ∧ Aside0 (caliperref04_escape.l1 kq l0 t166 t167 (⟨#[92, 117]⟩ : ByteArray) x14_3 = some (r1, r2, r3)) ∧ Aside0 (kq ≤ kj15) ∧ Drawn0 w w')
                      case atStart => exact ⟨(0), (by first | rfl | (simp; done) | (simp [*]; done)), H', ⟨Nat.le_refl _⟩, by repeat (first | exact Drawn0.refl _ | apply Drawn0.step)⟩
                      case round =>
                        clear H'
                        try clear c1
                        try clear p1
                        try clear q1
                        try clear hx1
                        try clear p2
                        try clear c3
                        try clear c3b0
                        try clear c3b1
                        try clear c4
                        try clear c4b0
                        try clear c5
                        try clear c5b0
                        try clear c6
                        try clear c6b0
                        try clear p6
                        try clear c7
                        try clear c7b0
                        try clear p8
                        try clear q8
                        try clear hx8
                        try clear c9
                        try clear c9b0
                        try clear c9b1
                        try clear c10
                        try clear c10b0
                        try clear p11
                        try clear q11
                        try clear hx11
                        try clear c12
                        try clear c12b0
                        try clear c13
                        try clear c13b0
                        try clear c14
                        try clear c14b0
                        try clear c14b1
                        try clear c15
                        try clear p16
                        try clear q16
                        try clear hx16
                        try clear c17
                        try clear c17b0
                        try clear c18
                        try clear c18b0
                        try clear c19
                        try clear hx164_0
                        try clear hx165_0
                        try clear p1
                        try clear p11
                        try clear p16
                        try clear p164
                        try clear p165
                        try clear p2
                        try clear p6
                        try clear p8
                        try clear q1
                        try clear q11
                        try clear q16
                        try clear q164
                        try clear q165
                        try clear q8
                        obtain ⟨x14_3, rfl, HA, HK3, ⟨m3, rfl⟩⟩ := hrel
                        cases gk with
                        | zero => exact absurd HA.out (by simp [caliperref04_escape.l1])
                        | succ k3 =>
                          have H := HA.out
                          clear HA
                          simp only [caliperref04_escape.l1] at H
                          by_cases c20 : x14_3 < 2
                          · rw [if_pos c20] at H
                            have c20b0 : decide (x14_3 < 2) = true := decide_eq_true c20
                            clear c20
                            by_cases c21 : (wrap64 (t167 + x14_3)) = (l0.length : Int)
                            · rw [if_pos c21] at H
                              have c21b0 : ((wrap64 (t167 + x14_3)) == (l0.length : Int)) = true := beq_iff_eq.mpr c21
                              have c21b1 : ((wrap64 (t167 + x14_3)) != (l0.length : Int)) = false := bne_eq_false_iff_eq.mpr c21
                              clear c21
                              simp only [Option.some.injEq, Prod.mk.injEq] at H
                              obtain ⟨rfl, rfl, rfl⟩ := H
                              go_wp2
                              repeat (go_quiet (fail); try go_wp2)
                              go_ret3
                              exact ⟨by first | rfl | (simp; done) | (simp [*]; done), by repeat (first | exact Drawn0.refl _ | apply Drawn0.step)⟩
                            · rw [if_neg c21] at H
                              have c21b0 : ((wrap64 (t167 + x14_3)) == (l0.length : Int)) = false := beq_eq_false_iff_ne.mpr c21
                              have c21b1 : ((wrap64 (t167 + x14_3)) != (l0.length : Int)) = true := bne_iff_ne.mpr c21
                              obtain ⟨ji22, hji22⟩ : ∃ j_ : Int, (wrap64 (t167 + x14_3)) = j_ := ⟨_, rfl⟩
                              replace H : (if 0 ≤ (ji22) then (if (ji22) < (l0.length : Int) then (if 0 ≤ x14_3 then (if x14_3 < ((⟨#[92, 117]⟩ : ByteArray).size : Int) then (if (rd l0 (ji22)) = (bt (⟨#[92, 117]⟩ : ByteArray) x14_3) then (caliperref04_escape.l1 k3 l0 t166 t167 (⟨#[92, 117]⟩ : ByteArray) (wrap64 (x14_3 + 1))) else (some (0, 0, wrap64 ((ji22) + 1)))) else (none)) else (none)) else (none)) else (none)) = some (r1, r2, r3) := by first | (rw [hji22] at H; exact H) | (simp only [hji22] at H ⊢; exact H)
                              (try rw [hji22] at c21b0)
                              (try rw [hji22] at c21b1)
                              have hji22w : (IntKind.i64.wrap (t167 + x14_3)) = ji22 := (i64_w _).trans hji22
                              by_cases c23 : 0 ≤ (ji22)
                              · rw [if_pos c23] at H
                                have c23b0 : decide (0 ≤ (ji22)) = true := decide_eq_true c23
                                clear c23
                                by_cases c24 : (ji22) < (l0.length : Int)
                                · rw [if_pos c24] at H
                                  have c24b0 : decide ((ji22) < (l0.length : Int)) = true := decide_eq_true c24
                                  clear c24
                                  by_cases c25 : 0 ≤ x14_3
                                  · rw [if_pos c25] at H
                                    have c25b0 : decide (0 ≤ x14_3) = true := decide_eq_true c25
                                    clear c25
                                    by_cases c26 : x14_3 < ((⟨#[92, 117]⟩ : ByteArray).size : Int)
                                    · rw [if_pos c26] at H
                                      have c26b0 : decide (x14_3 < ((⟨#[92, 117]⟩ : ByteArray).size : Int)) = true := decide_eq_true c26
                                      have c26b0l : decide (x14_3 < (2 : Int)) = true := c26b0
                                      clear c26
                                      by_cases c28 : (rd l0 (ji22)) = (bt (⟨#[92, 117]⟩ : ByteArray) x14_3)
                                      · rw [if_pos c28] at H
                                        have c28b0 : ((rd l0 (ji22)) == (bt (⟨#[92, 117]⟩ : ByteArray) x14_3)) = true := beq_iff_eq.mpr c28
                                        have c28b1 : ((rd l0 (ji22)) != (bt (⟨#[92, 117]⟩ : ByteArray) x14_3)) = false := bne_eq_false_iff_eq.mpr c28
                                        clear c28
                                        have H' := Aside0.mk H
                                        clear H
                                        have p169 : 0 ≤ ((ji22) : Int) := of_decide_eq_true (by first | (with_reducible assumption) | assumption)
                                        have q169 : (ji22) < (l0.length : Int) := of_decide_eq_true (by first | (with_reducible assumption) | assumption)
                                        obtain ⟨ad169, e169, hx169_0⟩ := Kd.at_int HR0.out (ji22) p169 q169
                                        obtain rfl : ad165 = ad169 := (by injection e169)
                                        replace p169 := eq_true p169
                                        replace q169 := eq_true q169
                                        have p27 : 0 ≤ (x14_3 : Int) := of_decide_eq_true (by first | (with_reducible assumption) | assumption)
                                        have q27 : x14_3 < (2 : Int) := of_decide_eq_true (by first | (with_reducible assumption) | assumption)
                                        have hx27 := bt_at (⟨#[92, 117]⟩ : ByteArray) x14_3
                                        replace p27 := eq_true p27
                                        replace q27 := eq_true q27
                                        go_wp2
                                        repeat (go_quiet (fail); try go_wp2)
                                        go_roundg k3
                                        case measure => have := HK1.out; have := HJ15.out; have := HK3.out; omega
                                        case rel => exact ⟨(wrap64 (x14_3 + 1)), (by first | rfl | (simp; done) | (simp [*]; done)), H', ⟨by have := HK1.out; have := HJ15.out; have := HK3.out; omega⟩, by repeat (first | exact Drawn0.refl _ | apply Drawn0.step)⟩
                                      · rw [if_neg c28] at H
                                        have c28b0 : ((rd l0 (ji22)) == (bt (⟨#[92, 117]⟩ : ByteArray) x14_3)) = false := beq_eq_false_iff_ne.mpr c28
                                        have c28b1 : ((rd l0 (ji22)) != (bt (⟨#[92, 117]⟩ : ByteArray) x14_3)) = true := bne_iff_ne.mpr c28
                                        simp only [Option.some.injEq, Prod.mk.injEq] at H
                                        obtain ⟨rfl, rfl, rfl⟩ := H
                                        have p169 : 0 ≤ ((ji22) : Int) := of_decide_eq_true (by first | (with_reducible assumption) | assumption)
                                        have q169 : (ji22) < (l0.length : Int) := of_decide_eq_true (by first | (with_reducible assumption) | assumption)
                                        obtain ⟨ad169, e169, hx169_0⟩ := Kd.at_int HR0.out (ji22) p169 q169
                                        obtain rfl : ad165 = ad169 := (by injection e169)
                                        replace p169 := eq_true p169
                                        replace q169 := eq_true q169
                                        have p27 : 0 ≤ (x14_3 : Int) := of_decide_eq_true (by first | (with_reducible assumption) | assumption)
                                        have q27 : x14_3 < (2 : Int) := of_decide_eq_true (by first | (with_reducible assumption) | assumption)
                                        have hx27 := bt_at (⟨#[92, 117]⟩ : ByteArray) x14_3
                                        replace p27 := eq_true p27
                                        replace q27 := eq_true q27
                                        go_wp2
                                        repeat (go_quiet (fail); try go_wp2)
                                        go_ret3
                                        exact ⟨by first | rfl | (simp; done) | (simp only [← hji22] <;> (first | rfl | simp)) | (simp [*]; done), by repeat (first | exact Drawn0.refl _ | apply Drawn0.step)⟩
                                    · rw [if_neg c26] at H
                                      exact absurd H (by simp)
                                  · rw [if_neg c25] at H
                                    exact absurd H (by simp)
                                · rw [if_neg c24] at H
                                  exact absurd H (by simp)
                              · rw [if_neg c23] at H
                                exact absurd H (by simp)
                          · rw [if_neg c20] at H
                            have c20b0 : decide (x14_3 < 2) = false := decide_eq_false c20
                            clear c20
                            replace H := Option.bind_eq_some_iff.mp H
                            obtain ⟨⟨t170, t171, t172⟩, A290, H⟩ := H
                            replace H : (if t172 > 0 then (some (0, 0, t172)) else ((caliperref01_Pair.f t166 t170).bind fun bt173 => (some (bt173.1, t171, 0)))) = some (r1, r2, r3) := H
                            have A29 := Aside0.mk A290
                            clear A290
                            by_cases c30 : t172 > 0
                            · rw [if_pos c30] at H
                              have c30b0 : decide (0 < t172) = true := decide_eq_true c30
                              clear c30
                              simp only [Option.some.injEq, Prod.mk.injEq] at H
                              obtain ⟨rfl, rfl, rfl⟩ := H
                              go_wp2_with (first | (go_at_call 53; (with_reducible refine (caliperref04_four.calls k3 _ _ l0 (wrap64 (t167 + 2)) true t170 t171 t172 _ ?side1 ?side2 A29.out).mono ?_); (case side1 => repeat (first | exact HR0.out | (with_reducible refine Kd.C_alloc ?_ _) | (with_reducible refine Kd.C_drewN ?_ _) | (with_reducible refine Kd.C_drew ?_))); (case side2 => exact HC0.out); rintro e w' ⟨rfl, ⟨nd, rfl⟩⟩; (try first | exact ⟨rfl, _, World.drewN_drewN _ _ _⟩ | exact ⟨rfl, _, Eq.trans (World.drewN_drewN _ _ _) (congrArg (World.drewN _) (Nat.add_assoc _ _ _))⟩)))
                              repeat (go_quiet (first | (go_at_call 53; (with_reducible refine (caliperref04_four.calls k3 _ _ l0 (wrap64 (t167 + 2)) true t170 t171 t172 _ ?side1 ?side2 A29.out).mono ?_); (case side1 => repeat (first | exact HR0.out | (with_reducible refine Kd.C_alloc ?_ _) | (with_reducible refine Kd.C_drewN ?_ _) | (with_reducible refine Kd.C_drew ?_))); (case side2 => exact HC0.out); rintro e w' ⟨rfl, ⟨nd, rfl⟩⟩; (try first | exact ⟨rfl, _, World.drewN_drewN _ _ _⟩ | exact ⟨rfl, _, Eq.trans (World.drewN_drewN _ _ _) (congrArg (World.drewN _) (Nat.add_assoc _ _ _))⟩))); try go_wp2_with (first | (go_at_call 53; (with_reducible refine (caliperref04_four.calls k3 _ _ l0 (wrap64 (t167 + 2)) true t170 t171 t172 _ ?side1 ?side2 A29.out).mono ?_); (case side1 => repeat (first | exact HR0.out | (with_reducible refine Kd.C_alloc ?_ _) | (with_reducible refine Kd.C_drewN ?_ _) | (with_reducible refine Kd.C_drew ?_))); (case side2 => exact HC0.out); rintro e w' ⟨rfl, ⟨nd, rfl⟩⟩; (try first | exact ⟨rfl, _, World.drewN_drewN _ _ _⟩ | exact ⟨rfl, _, Eq.trans (World.drewN_drewN _ _ _) (congrArg (World.drewN _) (Nat.add_assoc _ _ _))⟩))))
                              go_ret3
                              exact ⟨by first | rfl | (simp; done) | (simp [*]; done), by repeat (first | exact Drawn0.refl _ | apply Drawn0.step)⟩
                            · rw [if_neg c30] at H
                              have c30b0 : decide (0 < t172) = false := decide_eq_false c30
                              clear c30
                              replace H := Option.bind_eq_some_iff.mp H
                              obtain ⟨⟨t173, t174⟩, A310, H⟩ := H
                              replace H : (some (t173, t171, 0)) = some (r1, r2, r3) := H
                              have A31 := Aside0.mk A310
                              clear A310
                              simp only [Option.some.injEq, Prod.mk.injEq] at H
                              obtain ⟨rfl, rfl, rfl⟩ := H
                              go_wp2_with (first | (go_at_call 53; (with_reducible refine (caliperref04_four.calls k3 _ _ l0 (wrap64 (t167 + 2)) true t170 t171 t172 _ ?side1 ?side2 A29.out).mono ?_); (case side1 => repeat (first | exact HR0.out | (with_reducible refine Kd.C_alloc ?_ _) | (with_reducible refine Kd.C_drewN ?_ _) | (with_reducible refine Kd.C_drew ?_))); (case side2 => exact HC0.out); rintro e w' ⟨rfl, ⟨nd, rfl⟩⟩; (try first | exact ⟨rfl, _, World.drewN_drewN _ _ _⟩ | exact ⟨rfl, _, Eq.trans (World.drewN_drewN _ _ _) (congrArg (World.drewN _) (Nat.add_assoc _ _ _))⟩)) | (go_at_call 54; (with_reducible refine (caliperref01_Pair.calls t166 t170 t173 t174 _ A31.out).mono ?_); rintro e w' ⟨rfl, ⟨nd, rfl⟩⟩; (try first | exact ⟨rfl, _, World.drewN_drewN _ _ _⟩ | exact ⟨rfl, _, Eq.trans (World.drewN_drewN _ _ _) (congrArg (World.drewN _) (Nat.add_assoc _ _ _))⟩)))
                              repeat (go_quiet (first | (go_at_call 53; (with_reducible refine (caliperref04_four.calls k3 _ _ l0 (wrap64 (t167 + 2)) true t170 t171 t172 _ ?side1 ?side2 A29.out).mono ?_); (case side1 => repeat (first | exact HR0.out | (with_reducible refine Kd.C_alloc ?_ _) | (with_reducible refine Kd.C_drewN ?_ _) | (with_reducible refine Kd.C_drew ?_))); (case side2 => exact HC0.out); rintro e w' ⟨rfl, ⟨nd, rfl⟩⟩; (try first | exact ⟨rfl, _, World.drewN_drewN _ _ _⟩ | exact ⟨rfl, _, Eq.trans (World.drewN_drewN _ _ _) (congrArg (World.drewN _) (Nat.add_assoc _ _ _))⟩)) | (go_at_call 54; (with_reducible refine (caliperref01_Pair.calls t166 t170 t173 t174 _ A31.out).mono ?_); rintro e w' ⟨rfl, ⟨nd, rfl⟩⟩; (try first | exact ⟨rfl, _, World.drewN_drewN _ _ _⟩ | exact ⟨rfl, _, Eq.trans (World.drewN_drewN _ _ _) (congrArg (World.drewN _) (Nat.add_assoc _ _ _))⟩))); try go_wp2_with (first | (go_at_call 53; (with_reducible refine (caliperref04_four.calls k3 _ _ l0 (wrap64 (t167 + 2)) true t170 t171 t172 _ ?side1 ?side2 A29.out).mono ?_); (case side1 => repeat (first | exact HR0.out | (with_reducible refine Kd.C_alloc ?_ _) | (with_reducible refine Kd.C_drewN ?_ _) | (with_reducible refine Kd.C_drew ?_))); (case side2 => exact HC0.out); rintro e w' ⟨rfl, ⟨nd, rfl⟩⟩; (try first | exact ⟨rfl, _, World.drewN_drewN _ _ _⟩ | exact ⟨rfl, _, Eq.trans (World.drewN_drewN _ _ _) (congrArg (World.drewN _) (Nat.add_assoc _ _ _))⟩)) | (go_at_call 54; (with_reducible refine (caliperref01_Pair.calls t166 t170 t173 t174 _ A31.out).mono ?_); rintro e w' ⟨rfl, ⟨nd, rfl⟩⟩; (try first | exact ⟨rfl, _, World.drewN_drewN _ _ _⟩ | exact ⟨rfl, _, Eq.trans (World.drewN_drewN _ _ _) (congrArg (World.drewN _) (Nat.add_assoc _ _ _))⟩))))
                              go_ret3
                              exact ⟨by first | rfl | (simp; done) | (simp [*]; done), by repeat (first | exact Drawn0.refl _ | apply Drawn0.step)⟩
              · rw [if_neg c14] at H
                have c14b0 : ((rd l0 a1) == 117) = false := beq_eq_false_iff_ne.mpr c14
                have c14b1 : ((rd l0 a1) != 117) = true := bne_iff_ne.mpr c14
                simp only [Option.some.injEq, Prod.mk.injEq] at H
                obtain ⟨rfl, rfl, rfl⟩ := H
                have p165 : 0 ≤ (a1 : Int) := of_decide_eq_true (by first | (with_reducible assumption) | assumption)
                have q165 : a1 < (l0.length : Int) := of_decide_eq_true (by first | (with_reducible assumption) | assumption)
                obtain ⟨ad165, e165, hx165_0⟩ := Kd.at_int HR0.out a1 p165 q165
                cases e165
                replace p165 := eq_true p165
                replace q165 := eq_true q165
                go_wp2
                repeat (go_quiet (fail); try go_wp2)
                go_ret3
                exact ⟨by first | rfl | (simp; done) | (simp [*]; done), by repeat (first | exact Drawn0.refl _ | apply Drawn0.step)⟩
            · rw [if_neg c13] at H
              exact absurd H (by simp)
          · rw [if_neg c12] at H
            exact absurd H (by simp)

end Go.Proofs.YthoobepfkfjgnaaDoor.PL
