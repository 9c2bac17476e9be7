/- The library's functions on a row of the call's own. -/
import Derived.Test.YtfkoepdakghpjaaMp
import Derived.Test.YtfkoepdakghpjaaShelf
namespace Go.Proofs.Ytfkoepdakghpjaa.Mp
open Go Go.RowKit Go.Proofs.YtfkoepdakghpjaaW.PrintWords Go.Proofs.YtfkoepdakghpjaaW.PrintMore
set_option linter.unusedVariables false
theorem row_cells {w : World} {B g cap : Nat} {l : List Int} (h : Row w B (.slice (some ⟨g, 0, none⟩) l.length cap) l) (q : Nat) : ∀ j, j < (l.drop q).length → w.cell? ⟨g, q + j, none⟩ = some (.int .i64 ((l.drop q).getD j 0)) := by
  intro j hj
  rw [List.length_drop] at hj
  obtain ⟨ad, hd, hc⟩ := Kd.at_int (Kd.R_reads' h).2.2 ((q + j : Nat) : Int) (by omega) (by omega)
  cases hd
  rw [add_plain] at hc
  simp only [Int.toNat_natCast] at hc
  rw [hc]
  congr 2
  unfold rd
  rw [Int.toNat_natCast, List.getD_eq_getElem?_getD, List.getD_eq_getElem?_getD, List.getElem?_drop]
theorem contains_row {w : World} {B c : Nat} {A : Option Addr} {l : List Int} (h : Row w B (.slice A l.length c) l) (x : Int) :
    Calls Try.prog 23 #[.slice A l.length c, .int .i64 x] w fun e w' => e = .returned (.bool (l.contains x)) ∧ w' = w := by
  rcases Nat.eq_zero_or_pos l.length with h0 | h0
  · rw [h0]
    have : l = [] := List.length_eq_zero_iff.1 h0
    subst this
    exact Try.slices_Contains_int_empty A c x w
  · have hr := Kd.R_reads' h
    have hcm := Kd.C_max hr.2.2
    obtain ⟨g, cap, hv, _, _, _⟩ := Kd.R_form h h0
    cases hv
    have := Try.slices_Contains_int g 0 l.length c l x w (Nat.le_refl _) hcm (fun j hj => row_cells h 0 j hj)
    rwa [List.take_of_length_le (Nat.le_refl _)] at this
theorem index_row {w : World} {B g cap : Nat} {l : List Int} (h : Row w B (.slice (some ⟨g, 0, none⟩) l.length cap) l) (x : Int) (hx : l.idxOf x < l.length) :
    Calls Try.prog 24 #[.slice (some ⟨g, 0, none⟩) l.length cap, .int .i64 x] w fun e w' => e = .returned (.int .i64 (l.idxOf x : Nat)) ∧ w' = w := by
  have hcm := Kd.C_max (Kd.R_reads' h).2.2
  have := Try.slices_Index_int g 0 l.length cap l x w (Nat.le_refl _) hcm (fun j hj => row_cells h 0 j hj)
  rwa [Lib.idxOf_hit l l.length (l.idxOf x) x hx (Nat.le_refl _) (by rw [List.getD_eq_getElem?_getD, List.getElem?_eq_getElem hx]; exact List.getElem_idxOf hx) (fun j hj => by
    rw [List.getD_eq_getElem?_getD, List.getElem?_eq_getElem (by omega)]
    exact fun e => by have := List.not_of_lt_findIdx (p := (· == x)) hj; simp at this e; exact this e)] at this
theorem min_row {w : World} {B g cap : Nat} {l : List Int} (h : Row w B (.slice (some ⟨g, 0, none⟩) l.length cap) l) (q : Nat) (hq : q < l.length) (c : Nat) :
    Calls Try.prog 25 #[.slice (some ⟨g, q, none⟩) (l.length - q) c] w fun e w' => e = .returned (.int .i64 (Lib.minOf (l.drop q))) ∧ w' = w := by
  have hcm := Kd.C_max (Kd.R_reads' h).2.2
  have := Try.slices_Min_int g q (l.length - q) c (l.drop q) w (by omega) (by rw [List.length_drop]; exact Nat.le_refl _) (by omega) (fun j hj => row_cells h q j hj)
  rwa [List.take_of_length_le (by rw [List.length_drop]; exact Nat.le_refl _)] at this
theorem clone_row (g off cap : Nat) (l : List Int) (w : World) (hl : l.length ≤ 1000000) (hc : ∀ j, j < l.length → w.cell? ⟨g, off + j, none⟩ = some (.int .i64 (l.getD j 0))) :
    Calls Try.prog 29 #[.slice (some ⟨g, off, none⟩) l.length cap] w fun e w' => ∃ A c, e = .returned (.slice A l.length c) ∧ Row w' w.heap.size (.slice A l.length c) l ∧ Below w.heap.size w w' := by
  refine (Try.slices_Clone_int g off l.length cap l w (Nat.le_refl _) (by omega) hc).mono ?_
  rintro e w' ⟨v', rfl, ho, _, hb⟩
  rw [List.take_of_length_le (Nat.le_refl _)] at ho
  have hr : Row w' w.heap.size v' l := Kd.R_of_own ho (fun _ _ => trivial)
  obtain ⟨A, c, rfl⟩ := Kd.R_slice hr
  exact ⟨A, c, rfl, hr, hb⟩
theorem minOf_mem : ∀ {l : List Int}, l ≠ [] → Lib.minOf l ∈ l := by
  intro l hl
  have key : ∀ (l : List Int) (a : Int), l.foldl min a = a ∨ l.foldl min a ∈ l := by
    intro l
    induction l with
    | nil => exact fun a => .inl rfl
    | cons x l ih =>
      intro a
      rw [List.foldl_cons]
      rcases ih (min a x) with h | h
      · rw [h]
        rcases Int.le_total a x with hax | hax
        · rw [Int.min_eq_left hax]
          exact .inl rfl
        · rw [Int.min_eq_right hax]
          exact .inr (List.mem_cons_self ..)
      · exact .inr (List.mem_cons_of_mem _ h)
  cases l with
  | nil => exact absurd rfl hl
  | cons x l =>
    unfold Lib.minOf
    rw [List.headD_cons]
    rcases key (x :: l) x with h | h
    · rw [h]
      exact List.mem_cons_self ..
    · exact h
theorem minOf_le {l : List Int} {x : Int} (hx : x ∈ l) : Lib.minOf l ≤ x := by
  have key : ∀ (l : List Int) (a : Int), l.foldl min a ≤ a ∧ ∀ x ∈ l, l.foldl min a ≤ x := by
    intro l
    induction l with
    | nil => exact fun a => ⟨Int.le_refl _, fun x hx => by cases hx⟩
    | cons y l ih =>
      intro a
      rw [List.foldl_cons]
      have h := ih (min a y)
      refine ⟨Int.le_trans h.1 (Int.min_le_left _ _), fun x hx => ?_⟩
      rcases List.mem_cons.1 hx with rfl | hx
      · exact Int.le_trans h.1 (Int.min_le_right _ _)
      · exact h.2 x hx
  exact (key l _).2 x hx
end Go.Proofs.Ytfkoepdakghpjaa.Mp
