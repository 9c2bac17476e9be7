/- The document's answers for layer 15 (an edge, a real cycle, ranks): plain lists and integers. -/
import Derived.Test.YtfkoepdakghpjaaQs
import Derived.Test.YtfkoepdakghpjaaPGx4
import Derived.Test.YtfkoepdakghpjaaPGx6
import Derived.Test.YtfkoepdakghpjaaPGx14
import Derived.Test.YtfkoepdakghpjaaPGx14
namespace Go.Proofs.Ytfkoepdakghpjaa.Qr
open Go.RowKit Go.Proofs.YtfkoepdakghpjaaW.PrintWords Go.Proofs.YtfkoepdakghpjaaW.PrintMore Go.Proofs.Ytfkoepdakghpjaa.Mp Go.Proofs.Ytfkoepdakghpjaa.Lp Go.Proofs.Ytfkoepdakghpjaa.Qs
set_option linter.unusedVariables false
abbrev S31 := PG.S31
def Evt {α : Type} (g : Nat → Option α) (r : α) : Prop := ∃ K, ∀ k, K ≤ k → g k = some r
theorem Evt.succ {α : Type} {g h : Nat → Option α} {r : α} (e : ∀ k, g (k + 1) = h k) (hh : Evt h r) : Evt g r := by
  obtain ⟨K, hK⟩ := hh
  refine ⟨K + 1, fun k hk => ?_⟩
  obtain ⟨j, rfl⟩ : ∃ j, k = j + 1 := ⟨k - 1, by omega⟩
  rw [e]
  exact hK j (by omega)
theorem Evt.const {α : Type} (r : α) : Evt (fun _ => some r) r := ⟨0, fun _ _ => rfl⟩
theorem Evt.bind {α β : Type} {g : Nat → Option α} {h : Nat → α → Option β} {a : α} {r : β} (hg : Evt g a) (hh : Evt (fun k => h k a) r) : Evt (fun k => (g k).bind (h k)) r := by
  obtain ⟨K, hK⟩ := hg
  obtain ⟨L, hL⟩ := hh
  refine ⟨max K L, fun k hk => ?_⟩
  show (g k).bind (h k) = some r
  rw [hK k (by omega)]
  exact hL k (by omega)
theorem Evt.one {α : Type} {g : Nat → Option α} {r : α} (h : Evt g r) : ∃ k, g k = some r := by
  obtain ⟨K, hK⟩ := h
  exact ⟨K, hK K (Nat.le_refl _)⟩
theorem wrap_id {x : Int} (h0 : -9223372036854775808 ≤ x) (h1 : x ≤ 9223372036854775807) : wrap64 x = x := by
  unfold wrap64
  omega
theorem rd_nat (l : List Int) (i : Nat) : rd l (i : Int) = l.getD i 0 := by
  unfold rd
  rw [Int.toNat_natCast]

/-! ### edges -/
theorem counts_eq (n : Int) (e : S31) : PG.caliperref15_counts.f n e.f0 e.f1 e.f2 e.f3 e.f4 = some (PG.Gr.cnt n e) := by
  unfold PG.caliperref15_counts.f PG.Gr.cnt
  by_cases h1 : e.f3 = true
  · rw [if_pos h1]
    by_cases h2 : e.f0 ≥ 0
    · rw [if_pos h2]
      by_cases h3 : e.f0 < n
      · rw [if_pos h3]
        by_cases h4 : e.f1 ≥ 0
        · rw [if_pos h4]
          simp [h1, h2, h3, h4]
        · rw [if_neg h4]
          simp [h4]
      · rw [if_neg h3]
        simp [h3]
    · rw [if_neg h2]
      simp [h2]
  · rw [if_neg h1]
    simp [h1]
theorem mem_of (n : Int) (l : List S31) (a b : Int) : b ∈ PG.Gr.of n l a ↔ ∃ e ∈ l, PG.Gr.cnt n e = true ∧ e.f0 = a ∧ e.f1 = b := by
  unfold PG.Gr.of
  simp only [List.mem_map, List.mem_filter, Bool.and_eq_true, decide_eq_true_eq]
  constructor
  · rintro ⟨e, ⟨h1, h2, h3⟩, h4⟩
    exact ⟨e, h1, h2, h3, h4⟩
  · rintro ⟨e, h1, h2, h3, h4⟩
    exact ⟨e, ⟨h1, h2, h3⟩, h4⟩
theorem of_rng (n : Int) (l : List S31) (a b : Int) (h : b ∈ PG.Gr.of n l a) : InR n.toNat a ∧ InR n.toNat b := by
  obtain ⟨e, _, hc, rfl, rfl⟩ := (mem_of n l a b).1 h
  obtain ⟨_, h1, h2, h3, h4⟩ := PG.Gr.cnt_true hc
  exact ⟨⟨h1, by omega⟩, ⟨h3, by omega⟩⟩
theorem drop_cons {α : Type} {l : List α} {i : Nat} (h : i < l.length) : l.drop i = l[i] :: l.drop (i + 1) := List.drop_eq_getElem_cons h
theorem rdT {l : List S31} {i : Nat} (h : i < l.length) : PG.rd_T31 l (i : Int) = l[i] := by
  unfold PG.rd_T31
  rw [Int.toNat_natCast, List.getD_eq_getElem?_getD, List.getElem?_eq_getElem h]
  rfl
theorem edge_l0 (n : Int) (l : List S31) (a b : Int) (hl : l.length ≤ 9223372036854775807) : ∀ (j i : Nat), i + j = l.length → Evt (fun k => PG.caliperref15_edge.l0 k n l a b (i : Int)) ((l.drop i).any fun e => PG.Gr.cnt n e && (decide (e.f0 = a) && decide (e.f1 = b)))
  | 0, i, h => by
    refine Evt.succ (h := fun _ => some false) (fun k => ?_) ?_
    · simp only [PG.caliperref15_edge.l0]
      rw [if_neg (by omega)]
    · rw [List.drop_eq_nil_of_le (by omega)]
      exact Evt.const _
  | j + 1, i, h => by
    have hi : i < l.length := by omega
    have ih := edge_l0 n l a b hl j (i + 1) (by omega)
    rw [drop_cons hi]
    have hw : wrap64 ((i : Int) + 1) = ((i + 1 : Nat) : Int) := by rw [wrap_id (by omega) (by omega)]; omega
    by_cases hc : PG.Gr.cnt n l[i] = true ∧ l[i].f0 = a ∧ l[i].f1 = b
    · refine Evt.succ (h := fun _ => some true) (fun k => ?_) ?_
      · simp only [PG.caliperref15_edge.l0]
        rw [if_pos (by omega), if_pos (by omega), rdT hi, counts_eq, Option.bind_some, if_pos hc.1, if_pos hc.2.1, if_pos hc.2.2]
      · rw [List.any_cons, hc.1, decide_eq_true hc.2.1, decide_eq_true hc.2.2]
        exact Evt.const _
    · refine Evt.succ (h := fun k => PG.caliperref15_edge.l0 k n l a b ((i + 1 : Nat) : Int)) (fun k => ?_) ?_
      · simp only [PG.caliperref15_edge.l0]
        rw [if_pos (by omega), if_pos (by omega), rdT hi, counts_eq, Option.bind_some, hw]
        by_cases h1 : PG.Gr.cnt n l[i] = true
        · rw [if_pos h1]
          by_cases h2 : l[i].f0 = a
          · rw [if_pos h2, if_neg (fun h3 => hc ⟨h1, h2, h3⟩)]
          · rw [if_neg h2]
        · rw [if_neg h1]
      · have : (PG.Gr.cnt n l[i] && (decide (l[i].f0 = a) && decide (l[i].f1 = b))) = false := by
          rw [Bool.eq_false_iff]
          intro h0
          simp only [Bool.and_eq_true, decide_eq_true_eq] at h0
          exact hc h0
        rw [List.any_cons, this, Bool.false_or]
        exact ih
theorem edge_ok (n : Int) (l : List S31) (a b : Int) (hl : l.length ≤ 9223372036854775807) : Evt (fun k => PG.caliperref15_edge.f k n l a b) ((PG.Gr.of n l a).contains b) := by
  have h := edge_l0 n l a b hl l.length 0 (by omega)
  have e : ((l.drop 0).any fun e => PG.Gr.cnt n e && (decide (e.f0 = a) && decide (e.f1 = b))) = (PG.Gr.of n l a).contains b := by
    rw [Bool.eq_iff_iff, List.any_eq_true, List.contains_iff_mem, mem_of, List.drop_zero]
    simp only [Bool.and_eq_true, decide_eq_true_eq]
  rw [e] at h
  exact h
/-! ### a real cycle -/
theorem real_l0 (n : Int) (l : List S31) (p : List Int) (hl : l.length ≤ 9223372036854775807) (hp : p.length ≤ 9223372036854775807) : ∀ (j i : Nat), i + j = p.length → Evt (fun k => PG.caliperref15_Real.l0 k n l p (i : Int)) (PG.Rl.real (PG.Gr.of n l) p j)
  | 0, i, h => by
    refine Evt.succ (h := fun _ => some (decide (p.length > 0))) (fun k => ?_) ?_
    · simp only [PG.caliperref15_Real.l0]
      rw [if_neg (by omega)]
      congr 1
      apply decide_eq_decide.2
      omega
    · exact Evt.const _
  | j + 1, i, h => by
    have hi : i < p.length := by omega
    have ih := real_l0 n l p hl hp j (i + 1) (by omega)
    have hw : wrap64 ((i : Int) + 1) = ((i + 1 : Nat) : Int) := by rw [wrap_id (by omega) (by omega)]; omega
    have hm : Int.tmod ((i + 1 : Nat) : Int) (p.length : Int) = (((i + 1) % p.length : Nat) : Int) := rfl
    have hml : (i + 1) % p.length < p.length := Nat.mod_lt _ (by omega)
    have he := edge_ok n l (p.getD i 0) (p.getD ((i + 1) % p.length) 0) hl
    have hr : PG.Rl.real (PG.Gr.of n l) p (j + 1) = if (PG.Gr.of n l (p.getD i 0)).contains (p.getD ((i + 1) % p.length) 0) = true then PG.Rl.real (PG.Gr.of n l) p j else false := by
      simp only [PG.Rl.real]
      rw [show p.length - (j + 1) = i by omega]
    refine Evt.succ (h := fun k => (PG.caliperref15_edge.f k n l (p.getD i 0) (p.getD ((i + 1) % p.length) 0)).bind fun t => if t = true then PG.caliperref15_Real.l0 k n l p ((i + 1 : Nat) : Int) else some false) (fun k => ?_) ?_
    · simp only [PG.caliperref15_Real.l0]
      rw [if_pos (by omega), if_pos (by omega), if_neg (by omega), hw, hm, if_pos (by omega), if_pos (by omega), rd_nat, rd_nat]
    · rw [hr]
      refine Evt.bind (h := fun k t => if t = true then PG.caliperref15_Real.l0 k n l p ((i + 1 : Nat) : Int) else some false) he ?_
      by_cases hc : (PG.Gr.of n l (p.getD i 0)).contains (p.getD ((i + 1) % p.length) 0) = true
      · simp only [if_pos hc]
        exact ih
      · simp only [if_neg hc]
        exact Evt.const _
theorem real_ok (n : Int) (l : List S31) (p : List Int) (hl : l.length ≤ 9223372036854775807) (hp : p.length ≤ 9223372036854775807) : Evt (fun k => PG.caliperref15_Real.f k n l p) (PG.Rl.real (PG.Gr.of n l) p p.length) := real_l0 n l p hl hp p.length 0 (by omega)
theorem real_cyc {G : Int → List Int} {p : List Int} (h : Cyc G p) : ∀ j, j ≤ p.length → PG.Rl.real G p j = true
  | 0, _ => by
    have : p.length ≠ 0 := fun e => h.1 (List.length_eq_zero_iff.1 e)
    simp only [PG.Rl.real]
    exact decide_eq_true (by omega)
  | j + 1, hj => by
    simp only [PG.Rl.real]
    rw [if_pos, real_cyc h j (by omega)]
    rw [List.contains_iff_mem]
    have := h.2 (p.length - (j + 1)) (by omega)
    exact this
/-! ### two lists of numbers -/
theorem ints_l0 (a b : List Int) (hab : a.length = b.length) (ha : a.length ≤ 9223372036854775807) : ∀ (j i : Nat), i + j = a.length → Evt (fun k => PG.caliperref01_Ints.l0 k a b (i : Int)) (decide (a.drop i = b.drop i))
  | 0, i, h => by
    refine Evt.succ (h := fun _ => some true) (fun k => ?_) ?_
    · simp only [PG.caliperref01_Ints.l0]
      rw [if_neg (by omega)]
    · rw [List.drop_eq_nil_of_le (by omega), List.drop_eq_nil_of_le (by omega)]
      exact Evt.const _
  | j + 1, i, h => by
    have hi : i < a.length := by omega
    have hib : i < b.length := by omega
    have ih := ints_l0 a b hab ha j (i + 1) (by omega)
    have hw : wrap64 ((i : Int) + 1) = ((i + 1 : Nat) : Int) := by rw [wrap_id (by omega) (by omega)]; omega
    rw [drop_cons hi, drop_cons hib]
    by_cases hc : a[i] = b[i]
    · refine Evt.succ (h := fun k => PG.caliperref01_Ints.l0 k a b ((i + 1 : Nat) : Int)) (fun k => ?_) ?_
      · simp only [PG.caliperref01_Ints.l0]
        rw [if_pos (by omega), if_pos (by omega), if_pos (by omega), hw, rd_nat, rd_nat, getD_lt hi, getD_lt hib, if_pos hc]
      · have : decide (a[i] :: a.drop (i + 1) = b[i] :: b.drop (i + 1)) = decide (a.drop (i + 1) = b.drop (i + 1)) := by
          apply decide_eq_decide.2
          exact ⟨fun e => by injection e, fun e => by rw [hc, e]⟩
        rw [this]
        exact ih
    · refine Evt.succ (h := fun _ => some false) (fun k => ?_) ?_
      · simp only [PG.caliperref01_Ints.l0]
        rw [if_pos (by omega), if_pos (by omega), if_pos (by omega), rd_nat, rd_nat, getD_lt hi, getD_lt hib, if_neg hc]
      · have : decide (a[i] :: a.drop (i + 1) = b[i] :: b.drop (i + 1)) = false := by
          apply decide_eq_false
          intro e
          injection e with e
          exact hc e
        rw [this]
        exact Evt.const _
theorem ints_same (a : List Int) (ha : a.length ≤ 9223372036854775807) : Evt (fun k => PG.caliperref01_Ints.f k a a) true := by
  have h := ints_l0 a a rfl ha a.length 0 (by omega)
  simp only [decide_true] at h
  obtain ⟨K, hK⟩ := h
  refine ⟨K, fun k hk => ?_⟩
  show PG.caliperref01_Ints.f k a a = some true
  unfold PG.caliperref01_Ints.f
  rw [if_pos rfl]
  exact hK k hk
end Go.Proofs.Ytfkoepdakghpjaa.Qr
