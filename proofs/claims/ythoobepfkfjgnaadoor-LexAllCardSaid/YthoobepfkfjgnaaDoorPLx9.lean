-- Written by printx.py (this claim's own program, over the kit's print): the functions that this claim reaches. Not trusted: Lean checks it.
import Derived.Test.YthoobepfkfjgnaaDoorPLx0
import Derived.Test.YthoobepfkfjgnaaDoorPLx8
namespace Go.Proofs.YthoobepfkfjgnaaDoor.PL
open Go.RowKit Go.Proofs.YthoobepfkfjgnaaDoorW.PrintWords Go.Proofs.YthoobepfkfjgnaaDoorW.PrintLast Go.Proofs.YthoobepfkfjgnaaDoorW.PrintMore
attribute [local go_sem] max2_int min2_int max_two min_two max_three min_three max_four min_four   -- for this text's walks alone
set_option linter.unusedVariables false
set_option linter.unusedSimpArgs false

/-! ### caliperref04_four: function 53 -/
mutual
def caliperref04_four.l0 : Nat → List Int → Int → Bool → Int → Int → Option (Int × Int × Int)
  | 0, _, _, _, _, _ => none
  | k + 1, x0, x1, x2, x9, x10 => if x10 < 4 then (if (wrap64 (x1 + x10)) = (x0.length : Int) then (caliperref04_four.j1 k x0 x1 x2 x9 x10 true) else (if 0 ≤ (wrap64 (x1 + x10)) then (if (wrap64 (x1 + x10)) < (x0.length : Int) then ((caliperref04_Hex.f k (rd x0 (wrap64 (x1 + x10)))).bind fun t161 => (caliperref04_four.j1 k x0 x1 x2 x9 x10 (decide (t161 < 0)))) else (none)) else (none))) else (some (x9, wrap64 (x1 + 4), 0))
def caliperref04_four.j1 : Nat → List Int → Int → Bool → Int → Int → Bool → Option (Int × Int × Int)
  | 0, _, _, _, _, _, _ => none
  | k + 1, x0, x1, x2, x9, x10, x30 => if x30 = true then (some (0, 0, wrap64 ((wrap64 (x1 + x10)) + 1))) else (if 0 ≤ (wrap64 (x1 + x10)) then (if (wrap64 (x1 + x10)) < (x0.length : Int) then ((caliperref04_Hex.f k (rd x0 (wrap64 (x1 + x10)))).bind fun t163 => (if x2 = true then (if x10 = 0 then (if (wrap64 ((wrap64 (16 * x9)) + t163)) = 13 then (if x10 = 1 then (if (wrap64 ((wrap64 (16 * x9)) + t163)) < 220 then (some (0, 0, wrap64 ((wrap64 (x1 + x10)) + 1))) else (caliperref04_four.l0 k x0 x1 x2 (wrap64 ((wrap64 (16 * x9)) + t163)) (wrap64 (x10 + 1)))) else (caliperref04_four.l0 k x0 x1 x2 (wrap64 ((wrap64 (16 * x9)) + t163)) (wrap64 (x10 + 1)))) else (some (0, 0, wrap64 ((wrap64 (x1 + x10)) + 1)))) else (if x10 = 1 then (if (wrap64 ((wrap64 (16 * x9)) + t163)) < 220 then (some (0, 0, wrap64 ((wrap64 (x1 + x10)) + 1))) else (caliperref04_four.l0 k x0 x1 x2 (wrap64 ((wrap64 (16 * x9)) + t163)) (wrap64 (x10 + 1)))) else (caliperref04_four.l0 k x0 x1 x2 (wrap64 ((wrap64 (16 * x9)) + t163)) (wrap64 (x10 + 1))))) else (if x10 = 1 then (if (wrap64 ((wrap64 (16 * x9)) + t163)) ≥ 220 then (if (wrap64 ((wrap64 (16 * x9)) + t163)) ≤ 223 then (some (0, 0, wrap64 ((wrap64 (x1 + x10)) + 1))) else (caliperref04_four.l0 k x0 x1 x2 (wrap64 ((wrap64 (16 * x9)) + t163)) (wrap64 (x10 + 1)))) else (caliperref04_four.l0 k x0 x1 x2 (wrap64 ((wrap64 (16 * x9)) + t163)) (wrap64 (x10 + 1)))) else (caliperref04_four.l0 k x0 x1 x2 (wrap64 ((wrap64 (16 * x9)) + t163)) (wrap64 (x10 + 1)))))) else (none)) else (none))
end
def caliperref04_four.f (k : Nat) (l0 : List Int) (a1 : Int) (a2 : Bool) : Option (Int × Int × Int) := caliperref04_four.l0 k l0 a1 a2 0 0
theorem caliperref04_four.mono_l : ∀ k, (∀ y0 y1 y2 y3 y4, LeO (caliperref04_four.l0 k y0 y1 y2 y3 y4) (caliperref04_four.l0 (k + 1) y0 y1 y2 y3 y4)) ∧ (∀ y0 y1 y2 y3 y4 y5, LeO (caliperref04_four.j1 k y0 y1 y2 y3 y4 y5) (caliperref04_four.j1 (k + 1) y0 y1 y2 y3 y4 y5))
  | 0 => ⟨fun _ _ _ _ _ r h => by simp [caliperref04_four.l0] at h, fun _ _ _ _ _ _ r h => by simp [caliperref04_four.j1] at h⟩
  | k + 1 => by
    obtain ⟨ih0, ih1⟩ := caliperref04_four.mono_l k
    refine ⟨?_, ?_⟩
    · intro y0 y1 y2 y3 y4
      unfold caliperref04_four.l0
      repeat' first
      | (with_reducible exact ih0 _ _ _ _ _)
      | (with_reducible exact ih1 _ _ _ _ _ _)
      | (with_reducible exact caliperref04_Hex.mono _ _)
      | (with_reducible exact LeO.refl _)
      | (with_reducible exact LeO.none _)
      | (with_reducible refine LeO.ite ?_ ?_)
      | (with_reducible refine LeO.bind ?_ (fun _ => ?_))
      | exact ih0 _ _ _ _ _
      | exact ih1 _ _ _ _ _ _
      | exact caliperref04_Hex.mono _ _
      | exact LeO.none _
      | refine LeO.ite ?_ ?_
      | refine LeO.bind ?_ (fun _ => ?_)
    · intro y0 y1 y2 y3 y4 y5
      unfold caliperref04_four.j1
      repeat' first
      | (with_reducible exact ih0 _ _ _ _ _)
      | (with_reducible exact ih1 _ _ _ _ _ _)
      | (with_reducible exact caliperref04_Hex.mono _ _)
      | (with_reducible exact LeO.refl _)
      | (with_reducible exact LeO.none _)
      | (with_reducible refine LeO.ite ?_ ?_)
      | (with_reducible refine LeO.bind ?_ (fun _ => ?_))
      | exact ih0 _ _ _ _ _
      | exact ih1 _ _ _ _ _ _
      | exact caliperref04_Hex.mono _ _
      | exact LeO.none _
      | refine LeO.ite ?_ ?_
      | refine LeO.bind ?_ (fun _ => ?_)
theorem caliperref04_four.mono : ∀ a0 a1 a2 k, LeO (caliperref04_four.f k a0 a1 a2) (caliperref04_four.f (k + 1) a0 a1 a2) := by
  intro a0 a1 a2 k
  obtain ⟨ih0, ih1⟩ := caliperref04_four.mono_l k
  unfold caliperref04_four.f
  repeat' first
      | (with_reducible exact ih0 _ _ _ _ _)
      | (with_reducible exact ih1 _ _ _ _ _ _)
      | (with_reducible exact caliperref04_Hex.mono _ _)
      | (with_reducible exact LeO.refl _)
      | (with_reducible exact LeO.none _)
      | (with_reducible refine LeO.ite ?_ ?_)
      | (with_reducible refine LeO.bind ?_ (fun _ => ?_))
      | exact ih0 _ _ _ _ _
      | exact ih1 _ _ _ _ _ _
      | exact caliperref04_Hex.mono _ _
      | exact LeO.none _
      | refine LeO.ite ?_ ?_
      | refine LeO.bind ?_ (fun _ => ?_)
set_option maxHeartbeats 8000000 in
set_option maxRecDepth 100000 in
theorem caliperref04_four.calls (k : Nat) (A0 : Option Addr) (c0 : Nat) (l0 : List Int) (a1 : Int) (a2 : Bool) (r1 : Int) (r2 : Int) (r3 : Int) (w : World) (hr0 : Kd.C (Kd.int .u8) w A0 l0.length l0) (hc0 : l0.length ≤ c0) (h : caliperref04_four.f k l0 a1 a2 = some (r1, r2, r3)) :
    Calls Tryd.prog 53 #[.slice A0 l0.length c0, .int .i64 a1, .bool a2] w fun e w' => e = .returned (.tuple #[.int .i64 r1, .int .i64 r2, .int .i64 r3]) ∧ Drawn0 w w' := by
  have HR0 := Aside0.mk hr0
  have HC0 := Aside0.mk hc0
  clear hr0 hc0
  have H : (caliperref04_four.l0 k l0 a1 a2 0 0) = some (r1, r2, r3) := h
  clear h
  have H' := Aside0.mk H
  clear H
  go_enter Tryd.func53, Tryd.ntmps53
  go_wp2
  go_loopg [9, 10] k (fun kq v9 v10 w' => ∃ (x9_1 : Int) (x10_1 : Int), v9 = .int .i64 x9_1 ∧ v10 = .int .i64 x10_1 ∧ Aside0 (caliperref04_four.l0 kq l0 a1 a2 x9_1 x10_1 = some (r1, r2, r3)) ∧ Aside0 (kq ≤ k) ∧ Drawn0 w w')
  case atStart => exact ⟨(0), (0), (by first | rfl | (simp; done) | (simp [*]; done)), (by first | rfl | (simp; done) | (simp [*]; done)), H', ⟨Nat.le_refl _⟩, by repeat (first | exact Drawn0.refl _ | apply Drawn0.step)⟩
  case round =>
    clear H'
    try clear p2
    obtain ⟨x9_1, x10_1, rfl, rfl, HA, HK1, ⟨m1, rfl⟩⟩ := hrel
    cases gk with
    | zero => exact absurd HA.out (by simp [caliperref04_four.l0])
    | succ k1 =>
      have H := HA.out
      clear HA
      simp only [caliperref04_four.l0] at H
      by_cases c4 : x10_1 < 4
      · rw [if_pos c4] at H
        have c4b0 : decide (x10_1 < 4) = true := decide_eq_true c4
        clear c4
        have HC5 := Aside0.mk H
        clear H
        go_upto_region 5 with (fail)
        go_cut [30] (fun v30 wc => ∃ (kq : Nat) (x30_4 : Bool), v30 = .bool x30_4 ∧ Aside0 (caliperref04_four.j1 kq l0 a1 a2 x9_1 x10_1 x30_4 = some (r1, r2, r3)) ∧ Aside0 (kq ≤ k1) ∧ Drawn0 w wc)
        case first =>
          have H := HC5.out
          clear HC5
          by_cases c6 : (wrap64 (a1 + x10_1)) = (l0.length : Int)
          · rw [if_pos c6] at H
            have c6b0 : ((wrap64 (a1 + x10_1)) == (l0.length : Int)) = true := beq_iff_eq.mpr c6
            have c6b1 : ((wrap64 (a1 + x10_1)) != (l0.length : Int)) = false := bne_eq_false_iff_eq.mpr c6
            clear c6
            (first | rw [c6b0] | (simp only [i64_w, i32_w]; rw [c6b0]) | skip)
            have H' := Aside0.mk H
            clear H
            go_wp2
            go_meet
            case rel => exact ⟨_, (true), (by first | rfl | (simp; done) | (simp [*]; done)), H', ⟨by have := HK1.out; first | omega | exact Nat.le_refl _⟩, by repeat (first | exact Drawn0.refl _ | apply Drawn0.step)⟩
          · rw [if_neg c6] at H
            have c6b0 : ((wrap64 (a1 + x10_1)) == (l0.length : Int)) = false := beq_eq_false_iff_ne.mpr c6
            have c6b1 : ((wrap64 (a1 + x10_1)) != (l0.length : Int)) = true := bne_iff_ne.mpr c6
            (first | rw [c6b0] | (simp only [i64_w, i32_w]; rw [c6b0]) | skip)
            obtain ⟨ji7, hji7⟩ : ∃ j_ : Int, (wrap64 (a1 + x10_1)) = j_ := ⟨_, rfl⟩
            replace H : (if 0 ≤ (ji7) then (if (ji7) < (l0.length : Int) then ((caliperref04_Hex.f k1 (rd l0 (ji7))).bind fun t161 => (caliperref04_four.j1 k1 l0 a1 a2 x9_1 x10_1 (decide (t161 < 0)))) else (none)) else (none)) = some (r1, r2, r3) := by first | (rw [hji7] at H; exact H) | (simp only [hji7] at H ⊢; exact H)
            (try rw [hji7] at c6b0)
            (try rw [hji7] at c6b1)
            have hji7w : (IntKind.i64.wrap (a1 + x10_1)) = ji7 := (i64_w _).trans hji7
            by_cases c8 : 0 ≤ (ji7)
            · rw [if_pos c8] at H
              have c8b0 : decide (0 ≤ (ji7)) = true := decide_eq_true c8
              clear c8
              by_cases c9 : (ji7) < (l0.length : Int)
              · rw [if_pos c9] at H
                have c9b0 : decide ((ji7) < (l0.length : Int)) = true := decide_eq_true c9
                clear c9
                replace H := Option.bind_eq_some_iff.mp H
                obtain ⟨t161, A100, H⟩ := H
                replace H : (caliperref04_four.j1 k1 l0 a1 a2 x9_1 x10_1 (decide (t161 < 0))) = some (r1, r2, r3) := H
                have A10 := Aside0.mk A100
                clear A100
                have H' := Aside0.mk H
                clear H
                have p160 : 0 ≤ ((ji7) : Int) := of_decide_eq_true (by first | (with_reducible assumption) | assumption)
                have q160 : (ji7) < (l0.length : Int) := of_decide_eq_true (by first | (with_reducible assumption) | assumption)
                obtain ⟨ad160, e160, hx160_0⟩ := Kd.at_int HR0.out (ji7) p160 q160
                cases e160
                replace p160 := eq_true p160
                replace q160 := eq_true q160
                go_wp2_with (first | (go_at_call 68; (with_reducible refine (caliperref04_Hex.calls k1 (rd l0 (ji7)) t161 _ A10.out).mono ?_); rintro e w' ⟨rfl, ⟨nd, rfl⟩⟩))
                first | go_meet | ((try rw [← hji7]); go_meet)
                case rel => exact ⟨_, (decide (t161 < 0)), (by first | rfl | (simp; done) | (simp [*]; done)), (by first | exact H' | ((try rw [hji7]); exact H')), ⟨by have := HK1.out; first | omega | exact Nat.le_refl _⟩, by repeat (first | exact Drawn0.refl _ | apply Drawn0.step)⟩
              · rw [if_neg c9] at H
                exact absurd H (by simp)
            · rw [if_neg c8] at H
              exact absurd H (by simp)
        case rest =>
          clear HC5
          try clear p1
          try clear q1
          try clear hx1
          try clear p2
          try clear c4
          try clear c4b0
          try clear c5
          try clear c6
          try clear c6b0
          try clear c6b1
          try clear p6
          try clear c8
          try clear c8b0
          try clear c9
          try clear c9b0
          try clear hx160_0
          try clear p160
          try clear p2
          try clear q160
          obtain ⟨kq, x30_4, rfl, HA, HJ4, ⟨mc4, rfl⟩⟩ := hcut
          cases kq with
          | zero => exact absurd HA.out (by simp [caliperref04_four.j1])
          | succ kj4 =>
            have H := HA.out
            clear HA
            simp only [caliperref04_four.j1] at H
            by_cases c11 : x30_4 = true
            · subst c11
              have H1 : (some (0, 0, wrap64 ((wrap64 (a1 + x10_1)) + 1))) = some (r1, r2, r3) := by rw [if_pos rfl] at H; exact H
              clear H
              have H := H1
              clear H1
              simp only [Option.some.injEq, Prod.mk.injEq] at H
              obtain ⟨rfl, rfl, rfl⟩ := H
              go_wp2
              go_ret3
              exact ⟨by first | rfl | (simp; done) | (simp [*]; done), by repeat (first | exact Drawn0.refl _ | apply Drawn0.step)⟩
            · replace c11 := Bool.eq_false_iff.mpr c11
              subst c11
              have H1 : (if 0 ≤ (wrap64 (a1 + x10_1)) then (if (wrap64 (a1 + x10_1)) < (l0.length : Int) then ((caliperref04_Hex.f kj4 (rd l0 (wrap64 (a1 + x10_1)))).bind fun t163 => (if a2 = true then (if x10_1 = 0 then (if (wrap64 ((wrap64 (16 * x9_1)) + t163)) = 13 then (if x10_1 = 1 then (if (wrap64 ((wrap64 (16 * x9_1)) + t163)) < 220 then (some (0, 0, wrap64 ((wrap64 (a1 + x10_1)) + 1))) else (caliperref04_four.l0 kj4 l0 a1 a2 (wrap64 ((wrap64 (16 * x9_1)) + t163)) (wrap64 (x10_1 + 1)))) else (caliperref04_four.l0 kj4 l0 a1 a2 (wrap64 ((wrap64 (16 * x9_1)) + t163)) (wrap64 (x10_1 + 1)))) else (some (0, 0, wrap64 ((wrap64 (a1 + x10_1)) + 1)))) else (if x10_1 = 1 then (if (wrap64 ((wrap64 (16 * x9_1)) + t163)) < 220 then (some (0, 0, wrap64 ((wrap64 (a1 + x10_1)) + 1))) else (caliperref04_four.l0 kj4 l0 a1 a2 (wrap64 ((wrap64 (16 * x9_1)) + t163)) (wrap64 (x10_1 + 1)))) else (caliperref04_four.l0 kj4 l0 a1 a2 (wrap64 ((wrap64 (16 * x9_1)) + t163)) (wrap64 (x10_1 + 1))))) else (if x10_1 = 1 then (if (wrap64 ((wrap64 (16 * x9_1)) + t163)) ≥ 220 then (if (wrap64 ((wrap64 (16 * x9_1)) + t163)) ≤ 223 then (some (0, 0, wrap64 ((wrap64 (a1 + x10_1)) + 1))) else (caliperref04_four.l0 kj4 l0 a1 a2 (wrap64 ((wrap64 (16 * x9_1)) + t163)) (wrap64 (x10_1 + 1)))) else (caliperref04_four.l0 kj4 l0 a1 a2 (wrap64 ((wrap64 (16 * x9_1)) + t163)) (wrap64 (x10_1 + 1)))) else (caliperref04_four.l0 kj4 l0 a1 a2 (wrap64 ((wrap64 (16 * x9_1)) + t163)) (wrap64 (x10_1 + 1)))))) else (none)) else (none)) = some (r1, r2, r3) := by rw [if_neg (show ¬ (false = true) by decide)] at H; exact H
              clear H
              have H := H1
              clear H1
              obtain ⟨ji12, hji12⟩ : ∃ j_ : Int, (wrap64 (a1 + x10_1)) = j_ := ⟨_, rfl⟩
              replace H : (if 0 ≤ (ji12) then (if (ji12) < (l0.length : Int) then ((caliperref04_Hex.f kj4 (rd l0 (ji12))).bind fun t163 => (if a2 = true then (if x10_1 = 0 then (if (wrap64 ((wrap64 (16 * x9_1)) + t163)) = 13 then (if x10_1 = 1 then (if (wrap64 ((wrap64 (16 * x9_1)) + t163)) < 220 then (some (0, 0, wrap64 ((ji12) + 1))) else (caliperref04_four.l0 kj4 l0 a1 a2 (wrap64 ((wrap64 (16 * x9_1)) + t163)) (wrap64 (x10_1 + 1)))) else (caliperref04_four.l0 kj4 l0 a1 a2 (wrap64 ((wrap64 (16 * x9_1)) + t163)) (wrap64 (x10_1 + 1)))) else (some (0, 0, wrap64 ((ji12) + 1)))) else (if x10_1 = 1 then (if (wrap64 ((wrap64 (16 * x9_1)) + t163)) < 220 then (some (0, 0, wrap64 ((ji12) + 1))) else (caliperref04_four.l0 kj4 l0 a1 a2 (wrap64 ((wrap64 (16 * x9_1)) + t163)) (wrap64 (x10_1 + 1)))) else (caliperref04_four.l0 kj4 l0 a1 a2 (wrap64 ((wrap64 (16 * x9_1)) + t163)) (wrap64 (x10_1 + 1))))) else (if x10_1 = 1 then (if (wrap64 ((wrap64 (16 * x9_1)) + t163)) ≥ 220 then (if (wrap64 ((wrap64 (16 * x9_1)) + t163)) ≤ 223 then (some (0, 0, wrap64 ((ji12) + 1))) else (caliperref04_four.l0 kj4 l0 a1 a2 (wrap64 ((wrap64 (16 * x9_1)) + t163)) (wrap64 (x10_1 + 1)))) else (caliperref04_four.l0 kj4 l0 a1 a2 (wrap64 ((wrap64 (16 * x9_1)) + t163)) (wrap64 (x10_1 + 1)))) else (caliperref04_four.l0 kj4 l0 a1 a2 (wrap64 ((wrap64 (16 * x9_1)) + t163)) (wrap64 (x10_1 + 1)))))) else (none)) else (none)) = some (r1, r2, r3) := by first | (rw [hji12] at H; exact H) | (simp only [hji12] at H ⊢; exact H)
              have hji12w : (IntKind.i64.wrap (a1 + x10_1)) = ji12 := (i64_w _).trans hji12
              by_cases c13 : 0 ≤ (ji12)
              · rw [if_pos c13] at H
                have c13b0 : decide (0 ≤ (ji12)) = true := decide_eq_true c13
                clear c13
                by_cases c14 : (ji12) < (l0.length : Int)
                · rw [if_pos c14] at H
                  have c14b0 : decide ((ji12) < (l0.length : Int)) = true := decide_eq_true c14
                  clear c14
                  replace H := Option.bind_eq_some_iff.mp H
                  obtain ⟨t163, A150, H⟩ := H
                  replace H : (if a2 = true then (if x10_1 = 0 then (if (wrap64 ((wrap64 (16 * x9_1)) + t163)) = 13 then (if x10_1 = 1 then (if (wrap64 ((wrap64 (16 * x9_1)) + t163)) < 220 then (some (0, 0, wrap64 ((ji12) + 1))) else (caliperref04_four.l0 kj4 l0 a1 a2 (wrap64 ((wrap64 (16 * x9_1)) + t163)) (wrap64 (x10_1 + 1)))) else (caliperref04_four.l0 kj4 l0 a1 a2 (wrap64 ((wrap64 (16 * x9_1)) + t163)) (wrap64 (x10_1 + 1)))) else (some (0, 0, wrap64 ((ji12) + 1)))) else (if x10_1 = 1 then (if (wrap64 ((wrap64 (16 * x9_1)) + t163)) < 220 then (some (0, 0, wrap64 ((ji12) + 1))) else (caliperref04_four.l0 kj4 l0 a1 a2 (wrap64 ((wrap64 (16 * x9_1)) + t163)) (wrap64 (x10_1 + 1)))) else (caliperref04_four.l0 kj4 l0 a1 a2 (wrap64 ((wrap64 (16 * x9_1)) + t163)) (wrap64 (x10_1 + 1))))) else (if x10_1 = 1 then (if (wrap64 ((wrap64 (16 * x9_1)) + t163)) ≥ 220 then (if (wrap64 ((wrap64 (16 * x9_1)) + t163)) ≤ 223 then (some (0, 0, wrap64 ((ji12) + 1))) else (caliperref04_four.l0 kj4 l0 a1 a2 (wrap64 ((wrap64 (16 * x9_1)) + t163)) (wrap64 (x10_1 + 1)))) else (caliperref04_four.l0 kj4 l0 a1 a2 (wrap64 ((wrap64 (16 * x9_1)) + t163)) (wrap64 (x10_1 + 1)))) else (caliperref04_four.l0 kj4 l0 a1 a2 (wrap64 ((wrap64 (16 * x9_1)) + t163)) (wrap64 (x10_1 + 1))))) = some (r1, r2, r3) := H
                  have A15 := Aside0.mk A150
                  clear A150
                  by_cases c16 : a2 = true
                  · subst c16
                    have H1 : (if x10_1 = 0 then (if (wrap64 ((wrap64 (16 * x9_1)) + t163)) = 13 then (if x10_1 = 1 then (if (wrap64 ((wrap64 (16 * x9_1)) + t163)) < 220 then (some (0, 0, wrap64 ((ji12) + 1))) else (caliperref04_four.l0 kj4 l0 a1 true (wrap64 ((wrap64 (16 * x9_1)) + t163)) (wrap64 (x10_1 + 1)))) else (caliperref04_four.l0 kj4 l0 a1 true (wrap64 ((wrap64 (16 * x9_1)) + t163)) (wrap64 (x10_1 + 1)))) else (some (0, 0, wrap64 ((ji12) + 1)))) else (if x10_1 = 1 then (if (wrap64 ((wrap64 (16 * x9_1)) + t163)) < 220 then (some (0, 0, wrap64 ((ji12) + 1))) else (caliperref04_four.l0 kj4 l0 a1 true (wrap64 ((wrap64 (16 * x9_1)) + t163)) (wrap64 (x10_1 + 1)))) else (caliperref04_four.l0 kj4 l0 a1 true (wrap64 ((wrap64 (16 * x9_1)) + t163)) (wrap64 (x10_1 + 1))))) = some (r1, r2, r3) := by rw [if_pos rfl] at H; exact H
                    clear H
                    have H := H1
                    clear H1
                    by_cases c17 : x10_1 = 0
                    · rw [if_pos c17] at H
                      have c17b0 : (x10_1 == 0) = true := beq_iff_eq.mpr c17
                      have c17b1 : (x10_1 != 0) = false := bne_eq_false_iff_eq.mpr c17
                      clear c17
                      by_cases c18 : (wrap64 ((wrap64 (16 * x9_1)) + t163)) = 13
                      · rw [if_pos c18] at H
                        have c18b0 : ((wrap64 ((wrap64 (16 * x9_1)) + t163)) == 13) = true := beq_iff_eq.mpr c18
                        have c18b1 : ((wrap64 ((wrap64 (16 * x9_1)) + t163)) != 13) = false := bne_eq_false_iff_eq.mpr c18
                        clear c18
                        by_cases c19 : x10_1 = 1
                        · rw [if_pos c19] at H
                          have c19b0 : (x10_1 == 1) = true := beq_iff_eq.mpr c19
                          have c19b1 : (x10_1 != 1) = false := bne_eq_false_iff_eq.mpr c19
                          clear c19
                          by_cases c20 : (wrap64 ((wrap64 (16 * x9_1)) + t163)) < 220
                          · rw [if_pos c20] at H
                            have c20b0 : decide ((wrap64 ((wrap64 (16 * x9_1)) + t163)) < 220) = true := decide_eq_true c20
                            clear c20
                            simp only [Option.some.injEq, Prod.mk.injEq] at H
                            obtain ⟨rfl, rfl, rfl⟩ := H
                            have p162 : 0 ≤ ((ji12) : Int) := of_decide_eq_true (by first | (with_reducible assumption) | assumption)
                            have q162 : (ji12) < (l0.length : Int) := of_decide_eq_true (by first | (with_reducible assumption) | assumption)
                            obtain ⟨ad162, e162, hx162_0⟩ := Kd.at_int HR0.out (ji12) p162 q162
                            cases e162
                            replace p162 := eq_true p162
                            replace q162 := eq_true q162
                            go_wp2_with (first | ((with_reducible refine gate_callee (f := 68) rfl ?_); refine goesL_ (some 43) rfl rfl Tryd.func68 (by kernel_rfl) rfl #[.int .u8 (rd l0 (ji12))] rfl (by (try simp only [List.map_toArray, List.map_cons, List.map_nil]); first | done | (simp only [hji12]; rfl) | rfl | (simp only [List.length_drop, List.length_take]; rfl)) ?_; (with_reducible refine (caliperref04_Hex.calls kj4 (rd l0 (ji12)) t163 _ A15.out).mono ?_); rintro e w' ⟨rfl, ⟨nd, rfl⟩⟩; refine ⟨_, rfl, ?_⟩))
                            go_ret3
                            exact ⟨by first | rfl | (simp; done) | (simp only [← hji12] <;> (first | rfl | simp)) | (simp [*]; done), by repeat (first | exact Drawn0.refl _ | apply Drawn0.step)⟩
                          · rw [if_neg c20] at H
                            have c20b0 : decide ((wrap64 ((wrap64 (16 * x9_1)) + t163)) < 220) = false := decide_eq_false c20
                            clear c20
                            have H' := Aside0.mk H
                            clear H
                            have p162 : 0 ≤ ((ji12) : Int) := of_decide_eq_true (by first | (with_reducible assumption) | assumption)
                            have q162 : (ji12) < (l0.length : Int) := of_decide_eq_true (by first | (with_reducible assumption) | assumption)
                            obtain ⟨ad162, e162, hx162_0⟩ := Kd.at_int HR0.out (ji12) p162 q162
                            cases e162
                            replace p162 := eq_true p162
                            replace q162 := eq_true q162
                            go_wp2_with (first | ((with_reducible refine gate_callee (f := 68) rfl ?_); refine goesL_ (some 43) rfl rfl Tryd.func68 (by kernel_rfl) rfl #[.int .u8 (rd l0 (ji12))] rfl (by (try simp only [List.map_toArray, List.map_cons, List.map_nil]); first | done | (simp only [hji12]; rfl) | rfl | (simp only [List.length_drop, List.length_take]; rfl)) ?_; (with_reducible refine (caliperref04_Hex.calls kj4 (rd l0 (ji12)) t163 _ A15.out).mono ?_); rintro e w' ⟨rfl, ⟨nd, rfl⟩⟩; refine ⟨_, rfl, ?_⟩))
                            go_roundg kj4
                            case measure => have := HK1.out; have := HJ4.out; omega
                            case rel => exact ⟨(wrap64 ((wrap64 (16 * x9_1)) + t163)), (wrap64 (x10_1 + 1)), (by first | rfl | (simp; done) | (simp [*]; done)), (by first | rfl | (simp; done) | (simp [*]; done)), H', ⟨by have := HK1.out; have := HJ4.out; omega⟩, by repeat (first | exact Drawn0.refl _ | apply Drawn0.step)⟩
                        · rw [if_neg c19] at H
                          have c19b0 : (x10_1 == 1) = false := beq_eq_false_iff_ne.mpr c19
                          have c19b1 : (x10_1 != 1) = true := bne_iff_ne.mpr c19
                          have H' := Aside0.mk H
                          clear H
                          have p162 : 0 ≤ ((ji12) : Int) := of_decide_eq_true (by first | (with_reducible assumption) | assumption)
                          have q162 : (ji12) < (l0.length : Int) := of_decide_eq_true (by first | (with_reducible assumption) | assumption)
                          obtain ⟨ad162, e162, hx162_0⟩ := Kd.at_int HR0.out (ji12) p162 q162
                          cases e162
                          replace p162 := eq_true p162
                          replace q162 := eq_true q162
                          go_wp2_with (first | ((with_reducible refine gate_callee (f := 68) rfl ?_); refine goesL_ (some 43) rfl rfl Tryd.func68 (by kernel_rfl) rfl #[.int .u8 (rd l0 (ji12))] rfl (by (try simp only [List.map_toArray, List.map_cons, List.map_nil]); first | done | (simp only [hji12]; rfl) | rfl | (simp only [List.length_drop, List.length_take]; rfl)) ?_; (with_reducible refine (caliperref04_Hex.calls kj4 (rd l0 (ji12)) t163 _ A15.out).mono ?_); rintro e w' ⟨rfl, ⟨nd, rfl⟩⟩; refine ⟨_, rfl, ?_⟩))
                          go_roundg kj4
                          case measure => have := HK1.out; have := HJ4.out; omega
                          case rel => exact ⟨(wrap64 ((wrap64 (16 * x9_1)) + t163)), (wrap64 (x10_1 + 1)), (by first | rfl | (simp; done) | (simp [*]; done)), (by first | rfl | (simp; done) | (simp [*]; done)), H', ⟨by have := HK1.out; have := HJ4.out; omega⟩, by repeat (first | exact Drawn0.refl _ | apply Drawn0.step)⟩
                      · rw [if_neg c18] at H
                        have c18b0 : ((wrap64 ((wrap64 (16 * x9_1)) + t163)) == 13) = false := beq_eq_false_iff_ne.mpr c18
                        have c18b1 : ((wrap64 ((wrap64 (16 * x9_1)) + t163)) != 13) = true := bne_iff_ne.mpr c18
                        simp only [Option.some.injEq, Prod.mk.injEq] at H
                        obtain ⟨rfl, rfl, rfl⟩ := H
                        have p162 : 0 ≤ ((ji12) : Int) := of_decide_eq_true (by first | (with_reducible assumption) | assumption)
                        have q162 : (ji12) < (l0.length : Int) := of_decide_eq_true (by first | (with_reducible assumption) | assumption)
                        obtain ⟨ad162, e162, hx162_0⟩ := Kd.at_int HR0.out (ji12) p162 q162
                        cases e162
                        replace p162 := eq_true p162
                        replace q162 := eq_true q162
                        go_wp2_with (first | ((with_reducible refine gate_callee (f := 68) rfl ?_); refine goesL_ (some 43) rfl rfl Tryd.func68 (by kernel_rfl) rfl #[.int .u8 (rd l0 (ji12))] rfl (by (try simp only [List.map_toArray, List.map_cons, List.map_nil]); first | done | (simp only [hji12]; rfl) | rfl | (simp only [List.length_drop, List.length_take]; rfl)) ?_; (with_reducible refine (caliperref04_Hex.calls kj4 (rd l0 (ji12)) t163 _ A15.out).mono ?_); rintro e w' ⟨rfl, ⟨nd, rfl⟩⟩; refine ⟨_, rfl, ?_⟩))
                        go_ret3
                        exact ⟨by first | rfl | (simp; done) | (simp only [← hji12] <;> (first | rfl | simp)) | (simp [*]; done), by repeat (first | exact Drawn0.refl _ | apply Drawn0.step)⟩
                    · rw [if_neg c17] at H
                      have c17b0 : (x10_1 == 0) = false := beq_eq_false_iff_ne.mpr c17
                      have c17b1 : (x10_1 != 0) = true := bne_iff_ne.mpr c17
                      by_cases c21 : x10_1 = 1
                      · rw [if_pos c21] at H
                        have c21b0 : (x10_1 == 1) = true := beq_iff_eq.mpr c21
                        have c21b1 : (x10_1 != 1) = false := bne_eq_false_iff_eq.mpr c21
                        clear c21
                        by_cases c22 : (wrap64 ((wrap64 (16 * x9_1)) + t163)) < 220
                        · rw [if_pos c22] at H
                          have c22b0 : decide ((wrap64 ((wrap64 (16 * x9_1)) + t163)) < 220) = true := decide_eq_true c22
                          clear c22
                          simp only [Option.some.injEq, Prod.mk.injEq] at H
                          obtain ⟨rfl, rfl, rfl⟩ := H
                          have p162 : 0 ≤ ((ji12) : Int) := of_decide_eq_true (by first | (with_reducible assumption) | assumption)
                          have q162 : (ji12) < (l0.length : Int) := of_decide_eq_true (by first | (with_reducible assumption) | assumption)
                          obtain ⟨ad162, e162, hx162_0⟩ := Kd.at_int HR0.out (ji12) p162 q162
                          cases e162
                          replace p162 := eq_true p162
                          replace q162 := eq_true q162
                          go_wp2_with (first | ((with_reducible refine gate_callee (f := 68) rfl ?_); refine goesL_ (some 43) rfl rfl Tryd.func68 (by kernel_rfl) rfl #[.int .u8 (rd l0 (ji12))] rfl (by (try simp only [List.map_toArray, List.map_cons, List.map_nil]); first | done | (simp only [hji12]; rfl) | rfl | (simp only [List.length_drop, List.length_take]; rfl)) ?_; (with_reducible refine (caliperref04_Hex.calls kj4 (rd l0 (ji12)) t163 _ A15.out).mono ?_); rintro e w' ⟨rfl, ⟨nd, rfl⟩⟩; refine ⟨_, rfl, ?_⟩))
                          go_ret3
                          exact ⟨by first | rfl | (simp; done) | (simp only [← hji12] <;> (first | rfl | simp)) | (simp [*]; done), by repeat (first | exact Drawn0.refl _ | apply Drawn0.step)⟩
                        · rw [if_neg c22] at H
                          have c22b0 : decide ((wrap64 ((wrap64 (16 * x9_1)) + t163)) < 220) = false := decide_eq_false c22
                          clear c22
                          have H' := Aside0.mk H
                          clear H
                          have p162 : 0 ≤ ((ji12) : Int) := of_decide_eq_true (by first | (with_reducible assumption) | assumption)
                          have q162 : (ji12) < (l0.length : Int) := of_decide_eq_true (by first | (with_reducible assumption) | assumption)
                          obtain ⟨ad162, e162, hx162_0⟩ := Kd.at_int HR0.out (ji12) p162 q162
                          cases e162
                          replace p162 := eq_true p162
                          replace q162 := eq_true q162
                          go_wp2_with (first | ((with_reducible refine gate_callee (f := 68) rfl ?_); refine goesL_ (some 43) rfl rfl Tryd.func68 (by kernel_rfl) rfl #[.int .u8 (rd l0 (ji12))] rfl (by (try simp only [List.map_toArray, List.map_cons, List.map_nil]); first | done | (simp only [hji12]; rfl) | rfl | (simp only [List.length_drop, List.length_take]; rfl)) ?_; (with_reducible refine (caliperref04_Hex.calls kj4 (rd l0 (ji12)) t163 _ A15.out).mono ?_); rintro e w' ⟨rfl, ⟨nd, rfl⟩⟩; refine ⟨_, rfl, ?_⟩))
                          go_roundg kj4
                          case measure => have := HK1.out; have := HJ4.out; omega
                          case rel => exact ⟨(wrap64 ((wrap64 (16 * x9_1)) + t163)), (wrap64 (x10_1 + 1)), (by first | rfl | (simp; done) | (simp [*]; done)), (by first | rfl | (simp; done) | (simp [*]; done)), H', ⟨by have := HK1.out; have := HJ4.out; omega⟩, by repeat (first | exact Drawn0.refl _ | apply Drawn0.step)⟩
                      · rw [if_neg c21] at H
                        have c21b0 : (x10_1 == 1) = false := beq_eq_false_iff_ne.mpr c21
                        have c21b1 : (x10_1 != 1) = true := bne_iff_ne.mpr c21
                        have H' := Aside0.mk H
                        clear H
                        have p162 : 0 ≤ ((ji12) : Int) := of_decide_eq_true (by first | (with_reducible assumption) | assumption)
                        have q162 : (ji12) < (l0.length : Int) := of_decide_eq_true (by first | (with_reducible assumption) | assumption)
                        obtain ⟨ad162, e162, hx162_0⟩ := Kd.at_int HR0.out (ji12) p162 q162
                        cases e162
                        replace p162 := eq_true p162
                        replace q162 := eq_true q162
                        go_wp2_with (first | ((with_reducible refine gate_callee (f := 68) rfl ?_); refine goesL_ (some 43) rfl rfl Tryd.func68 (by kernel_rfl) rfl #[.int .u8 (rd l0 (ji12))] rfl (by (try simp only [List.map_toArray, List.map_cons, List.map_nil]); first | done | (simp only [hji12]; rfl) | rfl | (simp only [List.length_drop, List.length_take]; rfl)) ?_; (with_reducible refine (caliperref04_Hex.calls kj4 (rd l0 (ji12)) t163 _ A15.out).mono ?_); rintro e w' ⟨rfl, ⟨nd, rfl⟩⟩; refine ⟨_, rfl, ?_⟩))
                        go_roundg kj4
                        case measure => have := HK1.out; have := HJ4.out; omega
                        case rel => exact ⟨(wrap64 ((wrap64 (16 * x9_1)) + t163)), (wrap64 (x10_1 + 1)), (by first | rfl | (simp; done) | (simp [*]; done)), (by first | rfl | (simp; done) | (simp [*]; done)), H', ⟨by have := HK1.out; have := HJ4.out; omega⟩, by repeat (first | exact Drawn0.refl _ | apply Drawn0.step)⟩
                  · replace c16 := Bool.eq_false_iff.mpr c16
                    subst c16
                    have H1 : (if x10_1 = 1 then (if (wrap64 ((wrap64 (16 * x9_1)) + t163)) ≥ 220 then (if (wrap64 ((wrap64 (16 * x9_1)) + t163)) ≤ 223 then (some (0, 0, wrap64 ((ji12) + 1))) else (caliperref04_four.l0 kj4 l0 a1 false (wrap64 ((wrap64 (16 * x9_1)) + t163)) (wrap64 (x10_1 + 1)))) else (caliperref04_four.l0 kj4 l0 a1 false (wrap64 ((wrap64 (16 * x9_1)) + t163)) (wrap64 (x10_1 + 1)))) else (caliperref04_four.l0 kj4 l0 a1 false (wrap64 ((wrap64 (16 * x9_1)) + t163)) (wrap64 (x10_1 + 1)))) = some (r1, r2, r3) := by rw [if_neg (show ¬ (false = true) by decide)] at H; exact H
                    clear H
                    have H := H1
                    clear H1
                    by_cases c23 : x10_1 = 1
                    · rw [if_pos c23] at H
                      have c23b0 : (x10_1 == 1) = true := beq_iff_eq.mpr c23
                      have c23b1 : (x10_1 != 1) = false := bne_eq_false_iff_eq.mpr c23
                      clear c23
                      by_cases c24 : (wrap64 ((wrap64 (16 * x9_1)) + t163)) ≥ 220
                      · rw [if_pos c24] at H
                        have c24b0 : decide (220 ≤ (wrap64 ((wrap64 (16 * x9_1)) + t163))) = true := decide_eq_true c24
                        clear c24
                        by_cases c25 : (wrap64 ((wrap64 (16 * x9_1)) + t163)) ≤ 223
                        · rw [if_pos c25] at H
                          have c25b0 : decide ((wrap64 ((wrap64 (16 * x9_1)) + t163)) ≤ 223) = true := decide_eq_true c25
                          clear c25
                          simp only [Option.some.injEq, Prod.mk.injEq] at H
                          obtain ⟨rfl, rfl, rfl⟩ := H
                          have p162 : 0 ≤ ((ji12) : Int) := of_decide_eq_true (by first | (with_reducible assumption) | assumption)
                          have q162 : (ji12) < (l0.length : Int) := of_decide_eq_true (by first | (with_reducible assumption) | assumption)
                          obtain ⟨ad162, e162, hx162_0⟩ := Kd.at_int HR0.out (ji12) p162 q162
                          cases e162
                          replace p162 := eq_true p162
                          replace q162 := eq_true q162
                          go_wp2_with (first | ((with_reducible refine gate_callee (f := 68) rfl ?_); refine goesL_ (some 43) rfl rfl Tryd.func68 (by kernel_rfl) rfl #[.int .u8 (rd l0 (ji12))] rfl (by (try simp only [List.map_toArray, List.map_cons, List.map_nil]); first | done | (simp only [hji12]; rfl) | rfl | (simp only [List.length_drop, List.length_take]; rfl)) ?_; (with_reducible refine (caliperref04_Hex.calls kj4 (rd l0 (ji12)) t163 _ A15.out).mono ?_); rintro e w' ⟨rfl, ⟨nd, rfl⟩⟩; refine ⟨_, rfl, ?_⟩))
                          go_ret3
                          exact ⟨by first | rfl | (simp; done) | (simp only [← hji12] <;> (first | rfl | simp)) | (simp [*]; done), by repeat (first | exact Drawn0.refl _ | apply Drawn0.step)⟩
                        · rw [if_neg c25] at H
                          have c25b0 : decide ((wrap64 ((wrap64 (16 * x9_1)) + t163)) ≤ 223) = false := decide_eq_false c25
                          clear c25
                          have H' := Aside0.mk H
                          clear H
                          have p162 : 0 ≤ ((ji12) : Int) := of_decide_eq_true (by first | (with_reducible assumption) | assumption)
                          have q162 : (ji12) < (l0.length : Int) := of_decide_eq_true (by first | (with_reducible assumption) | assumption)
                          obtain ⟨ad162, e162, hx162_0⟩ := Kd.at_int HR0.out (ji12) p162 q162
                          cases e162
                          replace p162 := eq_true p162
                          replace q162 := eq_true q162
                          go_wp2_with (first | ((with_reducible refine gate_callee (f := 68) rfl ?_); refine goesL_ (some 43) rfl rfl Tryd.func68 (by kernel_rfl) rfl #[.int .u8 (rd l0 (ji12))] rfl (by (try simp only [List.map_toArray, List.map_cons, List.map_nil]); first | done | (simp only [hji12]; rfl) | rfl | (simp only [List.length_drop, List.length_take]; rfl)) ?_; (with_reducible refine (caliperref04_Hex.calls kj4 (rd l0 (ji12)) t163 _ A15.out).mono ?_); rintro e w' ⟨rfl, ⟨nd, rfl⟩⟩; refine ⟨_, rfl, ?_⟩))
                          go_roundg kj4
                          case measure => have := HK1.out; have := HJ4.out; omega
                          case rel => exact ⟨(wrap64 ((wrap64 (16 * x9_1)) + t163)), (wrap64 (x10_1 + 1)), (by first | rfl | (simp; done) | (simp [*]; done)), (by first | rfl | (simp; done) | (simp [*]; done)), H', ⟨by have := HK1.out; have := HJ4.out; omega⟩, by repeat (first | exact Drawn0.refl _ | apply Drawn0.step)⟩
                      · rw [if_neg c24] at H
                        have c24b0 : decide (220 ≤ (wrap64 ((wrap64 (16 * x9_1)) + t163))) = false := decide_eq_false c24
                        clear c24
                        have H' := Aside0.mk H
                        clear H
                        have p162 : 0 ≤ ((ji12) : Int) := of_decide_eq_true (by first | (with_reducible assumption) | assumption)
                        have q162 : (ji12) < (l0.length : Int) := of_decide_eq_true (by first | (with_reducible assumption) | assumption)
                        obtain ⟨ad162, e162, hx162_0⟩ := Kd.at_int HR0.out (ji12) p162 q162
                        cases e162
                        replace p162 := eq_true p162
                        replace q162 := eq_true q162
                        go_wp2_with (first | ((with_reducible refine gate_callee (f := 68) rfl ?_); refine goesL_ (some 43) rfl rfl Tryd.func68 (by kernel_rfl) rfl #[.int .u8 (rd l0 (ji12))] rfl (by (try simp only [List.map_toArray, List.map_cons, List.map_nil]); first | done | (simp only [hji12]; rfl) | rfl | (simp only [List.length_drop, List.length_take]; rfl)) ?_; (with_reducible refine (caliperref04_Hex.calls kj4 (rd l0 (ji12)) t163 _ A15.out).mono ?_); rintro e w' ⟨rfl, ⟨nd, rfl⟩⟩; refine ⟨_, rfl, ?_⟩))
                        go_roundg kj4
                        case measure => have := HK1.out; have := HJ4.out; omega
                        case rel => exact ⟨(wrap64 ((wrap64 (16 * x9_1)) + t163)), (wrap64 (x10_1 + 1)), (by first | rfl | (simp; done) | (simp [*]; done)), (by first | rfl | (simp; done) | (simp [*]; done)), H', ⟨by have := HK1.out; have := HJ4.out; omega⟩, by repeat (first | exact Drawn0.refl _ | apply Drawn0.step)⟩
                    · rw [if_neg c23] at H
                      have c23b0 : (x10_1 == 1) = false := beq_eq_false_iff_ne.mpr c23
                      have c23b1 : (x10_1 != 1) = true := bne_iff_ne.mpr c23
                      have H' := Aside0.mk H
                      clear H
                      have p162 : 0 ≤ ((ji12) : Int) := of_decide_eq_true (by first | (with_reducible assumption) | assumption)
                      have q162 : (ji12) < (l0.length : Int) := of_decide_eq_true (by first | (with_reducible assumption) | assumption)
                      obtain ⟨ad162, e162, hx162_0⟩ := Kd.at_int HR0.out (ji12) p162 q162
                      cases e162
                      replace p162 := eq_true p162
                      replace q162 := eq_true q162
                      go_wp2_with (first | ((with_reducible refine gate_callee (f := 68) rfl ?_); refine goesL_ (some 43) rfl rfl Tryd.func68 (by kernel_rfl) rfl #[.int .u8 (rd l0 (ji12))] rfl (by (try simp only [List.map_toArray, List.map_cons, List.map_nil]); first | done | (simp only [hji12]; rfl) | rfl | (simp only [List.length_drop, List.length_take]; rfl)) ?_; (with_reducible refine (caliperref04_Hex.calls kj4 (rd l0 (ji12)) t163 _ A15.out).mono ?_); rintro e w' ⟨rfl, ⟨nd, rfl⟩⟩; refine ⟨_, rfl, ?_⟩))
                      go_roundg kj4
                      case measure => have := HK1.out; have := HJ4.out; omega
                      case rel => exact ⟨(wrap64 ((wrap64 (16 * x9_1)) + t163)), (wrap64 (x10_1 + 1)), (by first | rfl | (simp; done) | (simp [*]; done)), (by first | rfl | (simp; done) | (simp [*]; done)), H', ⟨by have := HK1.out; have := HJ4.out; omega⟩, by repeat (first | exact Drawn0.refl _ | apply Drawn0.step)⟩
                · rw [if_neg c14] at H
                  exact absurd H (by simp)
              · rw [if_neg c13] at H
                exact absurd H (by simp)
      · rw [if_neg c4] at H
        have c4b0 : decide (x10_1 < 4) = false := decide_eq_false c4
        clear c4
        simp only [Option.some.injEq, Prod.mk.injEq] at H
        obtain ⟨rfl, rfl, rfl⟩ := H
        go_wp2
        go_ret3
        exact ⟨by first | rfl | (simp; done) | (simp [*]; done), by repeat (first | exact Drawn0.refl _ | apply Drawn0.step)⟩

end Go.Proofs.YthoobepfkfjgnaaDoor.PL
