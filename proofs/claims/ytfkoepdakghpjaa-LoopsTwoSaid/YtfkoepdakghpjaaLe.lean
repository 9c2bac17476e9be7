/- An argument of type []api.Edge: what its cells hold. -/
import Derived.Test.YtfkoepdakghpjaaPGx0
import Derived.Deep.Slices
import Derived.Deep.Fields
import Derived.ChangeSame
namespace Go.Proofs.Ytfkoepdakghpjaa.PG
open Go.RowKit Go.ChangeShapes Go.WideShapes Go.Deep Go.Proofs.YtfkoepdakghpjaaW.PrintWords Go.Proofs.YtfkoepdakghpjaaW.PrintLast Go.Proofs.YtfkoepdakghpjaaW.PrintMore
set_option linter.unusedVariables false
section
variable {H : Type} {enc : TypeId × Value → H} {w : World} {base : Nat} {spare : Nat → Bool} {held : Bool}
/-- One edge's five cells. -/
theorem open_edge {n : Nat} {cs : List Value} {x : DataW H × List MemPlace} (h : DataW.trod enc Try.prog w base spare held n 31 cs = some x) :
    ∃ e : S31, cs = [.int .i64 e.f0, .int .i64 e.f1, .string e.f2, .bool e.f3, .string e.f4] := by
  obtain ⟨xs, m, _, _, hl, hxl, hf⟩ := DataW.trod_struct Try.underlying31 h
  have hl5 : cs.length = 5 := hl.trans (by kernel_rfl)
  match cs, hl5 with
  | [c0, c1, c2, c3, c4], _ =>
    have g0 := hf 0 _ rfl
    have g1 := hf 1 _ rfl
    have g2 := hf 2 _ rfl
    have g3 := hf 3 _ rfl
    have g4 := hf 4 _ rfl
    have hx : ∀ j, j < 5 → ∃ y, xs[j]? = some y := fun j hj => ⟨_, List.getElem?_eq_getElem (by rw [hxl]; exact hj)⟩
    obtain ⟨y0, e0⟩ := hx 0 (by omega)
    obtain ⟨y1, e1⟩ := hx 1 (by omega)
    obtain ⟨y2, e2⟩ := hx 2 (by omega)
    obtain ⟨y3, e3⟩ := hx 3 (by omega)
    obtain ⟨y4, e4⟩ := hx 4 (by omega)
    rw [e0] at g0
    rw [e1] at g1
    rw [e2] at g2
    rw [e3] at g3
    rw [e4] at g4
    have k3 : Try.prog.cellsOf 3 = 1 := by kernel_rfl
    have k9 : Try.prog.cellsOf 9 = 1 := by kernel_rfl
    have k4 : Try.prog.cellsOf 4 = 1 := by kernel_rfl
    replace g0 : DataW.trod enc Try.prog w base spare held m 3 [c0] = some y0 := by rw [← g0]; show _ = DataW.trod enc Try.prog w base spare held m 3 (([c0, c1, c2, c3, c4].drop 0).take (Try.prog.cellsOf 3)); rw [k3]; rfl
    replace g1 : DataW.trod enc Try.prog w base spare held m 3 [c1] = some y1 := by rw [← g1]; show _ = DataW.trod enc Try.prog w base spare held m 3 (([c0, c1, c2, c3, c4].drop 1).take (Try.prog.cellsOf 3)); rw [k3]; rfl
    replace g2 : DataW.trod enc Try.prog w base spare held m 9 [c2] = some y2 := by rw [← g2]; show _ = DataW.trod enc Try.prog w base spare held m 9 (([c0, c1, c2, c3, c4].drop 2).take (Try.prog.cellsOf 9)); rw [k9]; rfl
    replace g3 : DataW.trod enc Try.prog w base spare held m 4 [c3] = some y3 := by rw [← g3]; show _ = DataW.trod enc Try.prog w base spare held m 4 (([c0, c1, c2, c3, c4].drop 3).take (Try.prog.cellsOf 4)); rw [k4]; rfl
    replace g4 : DataW.trod enc Try.prog w base spare held m 9 [c4] = some y4 := by rw [← g4]; show _ = DataW.trod enc Try.prog w base spare held m 9 (([c0, c1, c2, c3, c4].drop 4).take (Try.prog.cellsOf 9)); rw [k9]; rfl
    obtain ⟨a, ha, _⟩ := DataW.trod_int Try.underlying3 g0
    obtain ⟨b, hb, _⟩ := DataW.trod_int Try.underlying3 g1
    obtain ⟨c, hc, _⟩ := DataW.trod_string Try.underlying9 g2
    obtain ⟨d, hd, _⟩ := DataW.trod_bool Try.underlying4 g3
    obtain ⟨e, he, _⟩ := DataW.trod_string Try.underlying9 g4
    cases ha
    cases hb
    cases hc
    cases hd
    cases he
    exact ⟨⟨a, b, c, d, e⟩, rfl⟩
theorem open_edges {fuel : Nat} {cs : List Value} {x : DataW H × List MemPlace} (h : DataW.trod enc Try.prog w base spare held fuel 22 cs = some x) :
    ∃ A len cap, cs = [.slice A len cap] ∧ len ≤ cap ∧ ∃ l : List S31, l.length = len ∧ Kd.C k31 w A len l := by
  rcases open_slice Try.underlying22 h with ⟨rfl, _⟩ | ⟨a, len, cap, m, n, D, Pl, rfl, _, hl, hm, hmm, _, hi⟩
  · exact ⟨none, 0, 0, rfl, Nat.le_refl _, [], rfl, Kd.C_nil k31 w⟩
  · have hc : Try.prog.cellsOf 31 = 5 := by kernel_rfl
    have key : ∀ i, i < len → ∃ e : S31, ∀ j u, ([.int .i64 e.f0, .int .i64 e.f1, .string e.f2, .bool e.f3, .string e.f4] : List Value)[j]? = some u → w.cell? (a.add (i * 5 + j)) = some u := by
      intro i hil
      obtain ⟨cs', h1, h2⟩ := hi i (by split at hmm <;> omega)
      rw [hc] at h1
      obtain ⟨_, hcl, hat⟩ := World.cells?_some h1
      obtain ⟨e, rfl⟩ := open_edge h2
      refine ⟨e, fun j u hu => ?_⟩
      have hj : j < 5 := by
        have := (List.getElem?_eq_some_iff.1 hu).1
        simpa using this
      rw [← Go.Deep.add_add, hat j hj, hu]
    have pick : ∀ k, k ≤ len → ∃ l : List S31, l.length = k ∧ ∀ i e, l[i]? = some e → ∀ j u, ([.int .i64 e.f0, .int .i64 e.f1, .string e.f2, .bool e.f3, .string e.f4] : List Value)[j]? = some u → w.cell? (a.add (i * 5 + j)) = some u := by
      intro k
      induction k with
      | zero => exact fun _ => ⟨[], rfl, fun i e h => by simp at h⟩
      | succ k ih =>
        intro hk
        obtain ⟨l, hll, hle⟩ := ih (by omega)
        obtain ⟨e, he⟩ := key k (by omega)
        refine ⟨l ++ [e], by simp [hll], fun i e' hie => ?_⟩
        by_cases hik : i < l.length
        · rw [List.getElem?_append_left hik] at hie
          exact hle i e' hie
        · rw [List.getElem?_append_right (by omega)] at hie
          have : i - l.length = 0 := by
            have := (List.getElem?_eq_some_iff.1 hie).1
            simp at this
            omega
          rw [this] at hie
          simp at hie
          subst hie
          have : i = k := by omega
          subst this
          exact he
    obtain ⟨l, hll, hle⟩ := pick len (Nat.le_refl _)
    refine ⟨some a, len, cap, rfl, hl, l, hll, hll, by unfold maxLen at hm; omega, fun _ => ⟨a, rfl, fun j p hp => ⟨_, rfl, k31_mk w p, fun i u hu => hle j p hp i u hu⟩⟩⟩
end
end Go.Proofs.Ytfkoepdakghpjaa.PG
