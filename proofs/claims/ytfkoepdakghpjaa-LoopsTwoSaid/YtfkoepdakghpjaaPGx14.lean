-- Written by printx.py (this claim's own program, over the kit's print): the functions that this claim reaches. Not trusted: Lean checks it.
import Derived.Test.YtfkoepdakghpjaaPGx0
import Derived.Test.YtfkoepdakghpjaaPGx1
import Derived.Test.YtfkoepdakghpjaaPGx6
namespace Go.Proofs.Ytfkoepdakghpjaa.PG
open Go.RowKit Go.Proofs.YtfkoepdakghpjaaW.PrintWords Go.Proofs.YtfkoepdakghpjaaW.PrintLast Go.Proofs.YtfkoepdakghpjaaW.PrintMore
attribute [local go_sem] max2_int min2_int max_two min_two max_three min_three max_four min_four   -- for this text's walks alone
set_option linter.unusedVariables false
set_option linter.unusedSimpArgs false

/-! ### caliperref15_Any: function 16 -/
def caliperref15_Any.f (k : Nat) (a0 : Int) (l1 : List (S31)) : Option (Bool) := (caliperref15_Ranks.f k a0 l1).bind fun bt273 => (some (!bt273.2))
theorem caliperref15_Any.mono : ∀ a0 a1 k, LeO (caliperref15_Any.f k a0 a1) (caliperref15_Any.f (k + 1) a0 a1) := by
  intro a0 a1 k
  unfold caliperref15_Any.f
  repeat' first
      | (with_reducible exact caliperref15_Ranks.mono _ _ _)
      | (with_reducible exact LeO.refl _)
      | (with_reducible exact LeO.none _)
      | (with_reducible refine LeO.ite ?_ ?_)
      | (with_reducible refine LeO.bind ?_ (fun _ => ?_))
      | exact caliperref15_Ranks.mono _ _ _
      | exact LeO.none _
      | refine LeO.ite ?_ ?_
      | refine LeO.bind ?_ (fun _ => ?_)
set_option maxHeartbeats 8000000 in
set_option maxRecDepth 100000 in
theorem caliperref15_Any.calls (k : Nat) (a0 : Int) (A1 : Option Addr) (c1 : Nat) (l1 : List (S31)) (r : Bool) (w : World) (hr1 : Kd.C k31 w A1 l1.length l1) (hc1 : l1.length ≤ c1) (h : caliperref15_Any.f k a0 l1 = some r) :
    Calls Try.prog 16 #[.int .i64 a0, .slice A1 l1.length c1] w fun e w' => e = .returned (.bool r) ∧ Below w.heap.size w w' := by
  have HR1 := Aside0.mk hr1
  have HC1 := Aside0.mk hc1
  clear hr1 hc1
  have HB := Aside0.mk (Below.refl w.heap.size w)
  have H : ((caliperref15_Ranks.f k a0 l1).bind fun bt273 => (some (!bt273.2))) = some r := h
  clear h
  replace H := Option.bind_eq_some_iff.mp H
  obtain ⟨⟨t273, t274⟩, A30, H⟩ := H
  replace H : (some (!t274)) = some r := H
  have A3 := Aside0.mk A30
  clear A30
  obtain rfl := Option.some.inj H
  go_enter Try.func16, Try.ntmps16
  go_wp2_with (first | ((with_reducible refine gate_callee (f := 11) rfl ?_); refine goesL_ (some 10) rfl rfl Try.func11 (by kernel_rfl) rfl #[.int .i64 a0, .slice A1 l1.length c1] rfl (by (try simp only [List.map_toArray, List.map_cons, List.map_nil]); first | done | rfl | (simp only [List.length_drop, List.length_take]; rfl)) ?_; (with_reducible refine (caliperref15_Ranks.calls k a0 _ _ l1 t273 t274 _ ?side1 ?side2 A3.out).mono ?_); (case side1 => repeat (first | exact HR1.out | (with_reducible refine Kd.C_alloc ?_ _) | (with_reducible refine Kd.C_drewN ?_ _) | (with_reducible refine Kd.C_drew ?_))); (case side2 => exact HC1.out); rintro e w4 ⟨v275, rfl, ho0, hb⟩; refine ⟨_, rfl, ?_⟩; have n0_ := Aside0.mk (Kd.R_lower ho0 (below_size (by repeat (first | (with_reducible first | exact HB.out | apply below_alloc | apply pw_below_drewN | apply below_drew1) | exact HB.out)))); have n1_ := Aside0.mk (below_step (by repeat (first | (with_reducible first | exact HB.out | apply below_alloc | apply pw_below_drewN | apply below_drew1) | exact HB.out)) hb); clear HB; have HO276 := n0_; have HB := n1_; clear n0_ n1_; (try clear hb); (try clear hb2); (try clear hk); (try clear hi); (try clear ho0)))
  go_ret
  exact ⟨by first | rfl | (simp [errW_none, errW_some] <;> rfl) | (simp [*, errW_none, errW_some] <;> rfl), by repeat (first | (with_reducible first | exact HB.out | apply below_alloc | apply pw_below_drewN | apply below_drew1) | exact HB.out)⟩

/-! ### slices_Index_int_int: function 24 -/
def slices_Index_int_int.l0 : Nat → List Int → Int → Int → Int → Option (Int)
  | 0, _, _, _, _ => none
  | k + 1, x0, x1, x7, x8 => if x8 < x7 then (if 0 ≤ x8 then (if x8 < (x0.length : Int) then (if x1 = (rd x0 x8) then (some x8) else (slices_Index_int_int.l0 k x0 x1 x7 (wrap64 (x8 + 1)))) else (none)) else (none)) else (some (-1))
def slices_Index_int_int.f (k : Nat) (l0 : List Int) (a1 : Int) : Option (Int) := slices_Index_int_int.l0 k l0 a1 (l0.length : Int) 0
theorem slices_Index_int_int.mono_l : ∀ k, (∀ y0 y1 y2 y3, LeO (slices_Index_int_int.l0 k y0 y1 y2 y3) (slices_Index_int_int.l0 (k + 1) y0 y1 y2 y3))
  | 0 => fun _ _ _ _ r h => by simp [slices_Index_int_int.l0] at h
  | k + 1 => by
    have ih0 := slices_Index_int_int.mono_l k
    · intro y0 y1 y2 y3
      unfold slices_Index_int_int.l0
      repeat' first
      | (with_reducible exact ih0 _ _ _ _)
      | (with_reducible exact LeO.refl _)
      | (with_reducible exact LeO.none _)
      | (with_reducible refine LeO.ite ?_ ?_)
      | (with_reducible refine LeO.bind ?_ (fun _ => ?_))
      | exact ih0 _ _ _ _
      | exact LeO.none _
      | refine LeO.ite ?_ ?_
      | refine LeO.bind ?_ (fun _ => ?_)
theorem slices_Index_int_int.mono : ∀ a0 a1 k, LeO (slices_Index_int_int.f k a0 a1) (slices_Index_int_int.f (k + 1) a0 a1) := by
  intro a0 a1 k
  have ih0 := slices_Index_int_int.mono_l k
  unfold slices_Index_int_int.f
  repeat' first
      | (with_reducible exact ih0 _ _ _ _)
      | (with_reducible exact LeO.refl _)
      | (with_reducible exact LeO.none _)
      | (with_reducible refine LeO.ite ?_ ?_)
      | (with_reducible refine LeO.bind ?_ (fun _ => ?_))
      | exact ih0 _ _ _ _
      | exact LeO.none _
      | refine LeO.ite ?_ ?_
      | refine LeO.bind ?_ (fun _ => ?_)
set_option maxHeartbeats 8000000 in
set_option maxRecDepth 100000 in
theorem slices_Index_int_int.calls (k : Nat) (A0 : Option Addr) (c0 : Nat) (l0 : List Int) (a1 : Int) (r : Int) (w : World) (hr0 : Kd.C (Kd.int .i64) w A0 l0.length l0) (hc0 : l0.length ≤ c0) (h : slices_Index_int_int.f k l0 a1 = some r) :
    Calls Try.prog 24 #[.slice A0 l0.length c0, .int .i64 a1] w fun e w' => e = .returned (.int .i64 r) ∧ Drawn0 w w' := by
  have HR0 := Aside0.mk hr0
  have HC0 := Aside0.mk hc0
  clear hr0 hc0
  have H : (slices_Index_int_int.l0 k l0 a1 (l0.length : Int) 0) = some r := h
  clear h
  have H' := Aside0.mk H
  clear H
  go_enter Try.func24, Try.ntmps24
  go_wp2
  go_loopg [8] k (fun kq v8 w' => ∃ (x8_1 : Int), v8 = .int .i64 x8_1 ∧ Aside0 (slices_Index_int_int.l0 kq l0 a1 (l0.length : Int) x8_1 = some r) ∧ Aside0 (kq ≤ k) ∧ Drawn0 w w')
  case atStart => exact ⟨(0), (by first | rfl | (simp; done) | (simp [*]; done)), H', ⟨Nat.le_refl _⟩, by repeat (first | exact Drawn0.refl _ | apply Drawn0.step)⟩
  case round =>
    clear H'
    try clear c2
    try clear p2
    obtain ⟨x8_1, rfl, HA, HK1, ⟨m1, rfl⟩⟩ := hrel
    cases gk with
    | zero => exact absurd HA.out (by simp [slices_Index_int_int.l0])
    | succ k1 =>
      have H := HA.out
      clear HA
      simp only [slices_Index_int_int.l0] at H
      by_cases c3 : x8_1 < (l0.length : Int)
      · rw [if_pos c3] at H
        have c3b0 : decide (x8_1 < (l0.length : Int)) = true := decide_eq_true c3
        clear c3
        by_cases c4 : 0 ≤ x8_1
        · rw [if_pos c4] at H
          have c4b0 : decide (0 ≤ x8_1) = true := decide_eq_true c4
          clear c4
          by_cases c5 : x8_1 < (l0.length : Int)
          · rw [if_pos c5] at H
            have c5b0 : decide (x8_1 < (l0.length : Int)) = true := decide_eq_true c5
            clear c5
            by_cases c6 : a1 = (rd l0 x8_1)
            · rw [if_pos c6] at H
              have c6b0 : (a1 == (rd l0 x8_1)) = true := beq_iff_eq.mpr c6
              have c6b1 : (a1 != (rd l0 x8_1)) = false := bne_eq_false_iff_eq.mpr c6
              clear c6
              obtain rfl := Option.some.inj H
              have p277 : 0 ≤ (x8_1 : Int) := of_decide_eq_true (by first | (with_reducible assumption) | assumption)
              have q277 : x8_1 < (l0.length : Int) := of_decide_eq_true (by first | (with_reducible assumption) | assumption)
              obtain ⟨ad277, e277, hx277_0⟩ := Kd.at_int HR0.out x8_1 p277 q277
              cases e277
              replace p277 := eq_true p277
              replace q277 := eq_true q277
              go_wp2
              go_ret
              exact ⟨by first | rfl | (simp; done) | (simp [*]; done), by repeat (first | exact Drawn0.refl _ | apply Drawn0.step)⟩
            · rw [if_neg c6] at H
              have c6b0 : (a1 == (rd l0 x8_1)) = false := beq_eq_false_iff_ne.mpr c6
              have c6b1 : (a1 != (rd l0 x8_1)) = true := bne_iff_ne.mpr c6
              have H' := Aside0.mk H
              clear H
              have p277 : 0 ≤ (x8_1 : Int) := of_decide_eq_true (by first | (with_reducible assumption) | assumption)
              have q277 : x8_1 < (l0.length : Int) := of_decide_eq_true (by first | (with_reducible assumption) | assumption)
              obtain ⟨ad277, e277, hx277_0⟩ := Kd.at_int HR0.out x8_1 p277 q277
              cases e277
              replace p277 := eq_true p277
              replace q277 := eq_true q277
              go_wp2
              go_roundg k1
              case measure => have := HK1.out; omega
              case rel => exact ⟨(wrap64 (x8_1 + 1)), (by first | rfl | (simp; done) | (simp [*]; done)), H', ⟨by have := HK1.out; omega⟩, by repeat (first | exact Drawn0.refl _ | apply Drawn0.step)⟩
          · rw [if_neg c5] at H
            exact absurd H (by simp)
        · rw [if_neg c4] at H
          exact absurd H (by simp)
      · rw [if_neg c3] at H
        have c3b0 : decide (x8_1 < (l0.length : Int)) = false := decide_eq_false c3
        clear c3
        obtain rfl := Option.some.inj H
        go_wp2
        go_ret
        exact ⟨by first | rfl | (simp; done) | (simp [*]; done), by repeat (first | exact Drawn0.refl _ | apply Drawn0.step)⟩

/-! ### slices_Contains_int_int: function 23 -/
def slices_Contains_int_int.f (k : Nat) (l0 : List Int) (a1 : Int) : Option (Bool) := (slices_Index_int_int.f k l0 a1).bind fun t278 => (some (decide (t278 ≥ 0)))
theorem slices_Contains_int_int.mono : ∀ a0 a1 k, LeO (slices_Contains_int_int.f k a0 a1) (slices_Contains_int_int.f (k + 1) a0 a1) := by
  intro a0 a1 k
  unfold slices_Contains_int_int.f
  repeat' first
      | (with_reducible exact slices_Index_int_int.mono _ _ _)
      | (with_reducible exact LeO.refl _)
      | (with_reducible exact LeO.none _)
      | (with_reducible refine LeO.ite ?_ ?_)
      | (with_reducible refine LeO.bind ?_ (fun _ => ?_))
      | exact slices_Index_int_int.mono _ _ _
      | exact LeO.none _
      | refine LeO.ite ?_ ?_
      | refine LeO.bind ?_ (fun _ => ?_)
set_option maxHeartbeats 8000000 in
set_option maxRecDepth 100000 in
theorem slices_Contains_int_int.calls (k : Nat) (A0 : Option Addr) (c0 : Nat) (l0 : List Int) (a1 : Int) (r : Bool) (w : World) (hr0 : Kd.C (Kd.int .i64) w A0 l0.length l0) (hc0 : l0.length ≤ c0) (h : slices_Contains_int_int.f k l0 a1 = some r) :
    Calls Try.prog 23 #[.slice A0 l0.length c0, .int .i64 a1] w fun e w' => e = .returned (.bool r) ∧ Drawn0 w w' := by
  have HR0 := Aside0.mk hr0
  have HC0 := Aside0.mk hc0
  clear hr0 hc0
  have H : ((slices_Index_int_int.f k l0 a1).bind fun t278 => (some (decide (t278 ≥ 0)))) = some r := h
  clear h
  replace H := Option.bind_eq_some_iff.mp H
  obtain ⟨t278, A30, H⟩ := H
  replace H : (some (decide (t278 ≥ 0))) = some r := H
  have A3 := Aside0.mk A30
  clear A30
  obtain rfl := Option.some.inj H
  go_enter Try.func23, Try.ntmps23
  go_wp2_with (first | ((with_reducible refine gate_callee (f := 24) rfl ?_); refine goesL_ (some 7) rfl rfl Try.func24 (by kernel_rfl) rfl #[.slice A0 l0.length c0, .int .i64 a1] rfl (by (try simp only [List.map_toArray, List.map_cons, List.map_nil]); first | done | rfl | (simp only [List.length_drop, List.length_take]; rfl)) ?_; (with_reducible refine (slices_Index_int_int.calls k _ _ l0 a1 t278 _ ?side1 ?side2 A3.out).mono ?_); (case side1 => repeat (first | exact HR0.out | (with_reducible refine Kd.C_alloc ?_ _) | (with_reducible refine Kd.C_drewN ?_ _) | (with_reducible refine Kd.C_drew ?_))); (case side2 => exact HC0.out); rintro e w' ⟨rfl, ⟨nd, rfl⟩⟩; refine ⟨_, rfl, ?_⟩))
  go_ret
  exact ⟨by first | rfl | (simp; done) | (simp [*]; done), by repeat (first | exact Drawn0.refl _ | apply Drawn0.step)⟩

/-! ### loops_Real: function 17: given -/
-- GIVEN plain making
open Go.Proofs.Ytfkoepdakghpjaa.Mp
namespace Rl
def okI (l : List Int) : Bool := l.all fun x => decide (-9223372036854775808 ≤ x) && decide (x ≤ 9223372036854775807)
theorem okI_wf {l : List Int} (h : okI l = true) {x : Int} (hx : x ∈ l) : Wf x := by
  have := List.all_eq_true.1 h x hx
  simp only [Bool.and_eq_true, decide_eq_true_eq] at this
  exact wf_of this.1 this.2
def real (G : Int → List Int) (p : List Int) : Nat → Bool
  | 0 => decide (p.length > 0)
  | k + 1 => if (G (p.getD (p.length - (k + 1)) 0)).contains (p.getD ((p.length - (k + 1) + 1) % p.length) 0) = true then real G p k else false
end Rl
def loops_Real.f (a0 : Int) (l1 : List (S31)) (l2 : List Int) : Option Bool := if a0 ≤ 1000000 ∧ l1.length ≤ 1000000 ∧ Rl.okI l2 = true then some (Rl.real (Gr.of a0 l1) l2 l2.length) else none
set_option maxHeartbeats 8000000 in
set_option maxRecDepth 100000 in
theorem loops_Real.calls (a0 : Int) (A1 : Option Addr) (c1 : Nat) (l1 : List (S31)) (A2 : Option Addr) (c2 : Nat) (l2 : List Int) (r : Bool) (w : World) (hr1 : Kd.C k31 w A1 l1.length l1) (hc1 : l1.length ≤ c1) (hr2 : Kd.C (Kd.int .i64) w A2 l2.length l2) (hc2 : l2.length ≤ c2) (h : loops_Real.f a0 l1 l2 = some r) :
    Calls Try.prog 17 #[.int .i64 a0, .slice A1 l1.length c1, .slice A2 l2.length c2] w fun e w' => e = .returned (.bool r) ∧ Below w.heap.size w w' := by
  unfold loops_Real.f at h
  by_cases hb : a0 ≤ 1000000 ∧ l1.length ≤ 1000000 ∧ Rl.okI l2 = true
  · rw [if_pos hb] at h
    have HG := Aside0.mk (graph_any a0 A1 c1 l1 w hr1 hc1 hb.1 hb.2.1)
    have HWF := Aside0.mk (fun x hx => Rl.okI_wf hb.2.2 (x := x) hx)
    have HR2 := Aside0.mk hr2
    have H := Aside0.mk (Option.some.inj h)
    have hmax := Kd.C_max hr2
    have hl1 := hb.2.1
    clear h hr1 hc1 hr2 hb
    go_enter Try.func17, Try.ntmps17
    go_wp2_with (first | (go_at_call 21; (with_reducible refine HG.out.mono ?_); rintro e w1 ⟨b, m, rfl, hb, hm, hg, hB⟩; have HB := Aside0.mk hB; have HGR := Aside0.mk hg; have HM := Aside0.mk (Nat.le_trans hm hl1); clear hB hg hb hm))
    obtain ⟨G, hG⟩ : ∃ G, G = Gr.of a0 l1 := ⟨_, rfl⟩
    rw [← hG] at HGR H
    clear hG HG hl1
    go_loopw [15] (fun v15 wr => ∃ (i k : Nat), v15 = .int .i64 i ∧ i + k = l2.length ∧ Aside0 (Rl.real G l2 k = r) ∧ Aside0 (Below w1.heap.size w1 wr)) (fun v15 _ => l2.length - (intOf v15).toNat)
    case atStart => exact ⟨0, l2.length, rfl, by omega, H, ⟨Below.refl _ _⟩⟩
    case round =>
      clear H
      obtain ⟨i, k, rfl, hik, H, HB2⟩ := hrel
      cases k with
      | zero =>
        obtain rfl : i = l2.length := by omega
        have h1 := H.out
        simp only [Rl.real] at h1
        subst h1
        go_wp2_with fail
        go_ret
        exact ⟨by first | rfl | simp, HB.out.trans (HB2.out.mono HB.out.size)⟩
      | succ k =>
        have hlt : i < l2.length := by omega
        have h1 := H.out
        simp only [Rl.real] at h1
        rw [show l2.length - (k + 1) = i by omega] at h1
        have hmod : (i + 1) % l2.length < l2.length := Nat.mod_lt _ (by omega)
        obtain ⟨j, hj⟩ : ∃ j, j = (i + 1) % l2.length := ⟨_, rfl⟩
        rw [← hj] at h1 hmod
        obtain ⟨ad, hd, hcx⟩ := Kd.at_int HR2.out (i : Int) (by omega) (by omega)
        obtain ⟨ad', hd', hcy⟩ := Kd.at_int HR2.out (j : Int) (by omega) (by omega)
        rw [hd] at hd'
        cases hd'
        subst hd
        simp only [Int.toNat_natCast] at hcx hcy
        have HBw := HB.out.trans (HB2.out.mono HB.out.size)
        replace hcx := (HBw.cell (World.block_lt_of_cell? w _ hcx)).trans hcx
        replace hcy := (HBw.cell (World.block_lt_of_cell? w _ hcy)).trans hcy
        have hrdx : rd l2 (i : Int) = l2.getD i 0 := by unfold rd; rw [Int.toNat_natCast]
        have hrdy : rd l2 (j : Int) = l2.getD j 0 := by unfold rd; rw [Int.toNat_natCast]
        have hxw : Wf (rd l2 (i : Int)) := by
          rw [hrdx]
          refine HWF.out _ ?_
          rw [List.getD_eq_getElem?_getD, List.getElem?_eq_getElem hlt]
          exact List.getElem_mem hlt
        rw [← hrdx, ← hrdy] at h1
        obtain ⟨lv, hlk, hlrow, _, hln⟩ := HGR.out.look2 (by have := HM.out; omega) hxw
        have hl4 := fun n => hlk (wr.drewN n) (pw_below_drewN HB2.out n)
        have hrow4 := fun n => Row.move (w' := wr.drewN n) hlrow (fun k hk => (pw_below_drewN HB2.out n).block k (Kd.R_lt hlrow k hk))
        obtain ⟨Al, capl, rfl⟩ := Kd.R_slice hlrow
        have HCT := Aside0.mk (fun n => contains_row (hrow4 n) (rd l2 (j : Int)))
        generalize rd l2 (i : Int) = x at hcx hxw h1 hl4 HCT hlrow hrow4 hlk
        generalize rd l2 (j : Int) = y at hcy h1 HCT
        obtain ⟨cb, hcb⟩ : ∃ cb, (G x).contains y = cb := ⟨_, rfl⟩
        rw [hcb] at h1 HCT
        clear hlrow hrow4 hlk hln hcb H HWF HR2 hxw hrdx hrdy
        go_upto_region 5 with (fail)
        obtain ⟨i1, hi1⟩ : ∃ i1 : Nat, i1 = i + 1 := ⟨_, rfl⟩
        have hs1 : IntKind.i64.wrap ((i : Int) + 1) = (i1 : Int) := by rw [IntWalk.i64_in _ (by omega)]; omega
        have hs2 : ((i1 : Int).tmod (l2.length : Int)) = (j : Int) := by rw [hi1, hj]; rfl
        have hs3 : IntKind.i64.wrap (j : Int) = (j : Int) := IntWalk.i64_in _ (by omega)
        have hs4 : ((l2.length : Int) == 0) = false := by rw [beq_eq_false_iff_ne]; omega
        have hs5 : (0 : Int) ≤ (j : Int) := by omega
        have hs6 : (j : Int) < (l2.length : Int) := by omega
        clear hj hi1
        go_quiet ((go_at_call 23; exact Calls.quiet_of_same (HCT.out _)))
        clear hs1 hs2 hs3 hs4 hs5 hs6 hl4
        cases cb with
        | false =>
          rw [if_neg (by decide)] at h1
          subst h1
          go_wp2_with fail
          go_ret
          exact ⟨rfl, pw_below_drewN HBw _⟩
        | true =>
          rw [if_pos rfl] at h1
          have H1 := Aside0.mk h1
          have HB3 := Aside0.mk (fun n => pw_below_drewN HB2.out n)
          clear h1
          go_wp2_with fail
          go_roundw
          case rel => exact ⟨i + 1, k, by go_num, by omega, H1, ⟨HB3.out _⟩⟩
          case measure => simp [intOf]; omega
  · rw [if_neg hb] at h
    cases h


end Go.Proofs.Ytfkoepdakghpjaa.PG
