/- UTF-8's automaton on the bytes behind a first one: how many it takes (for the texts of lex and its reference). -/
import Derived.Test.YthoobepfkfjgnaaDoorUtf
import Derived.Test.YthoobepfkfjgnaaDoorLexW
namespace Go.Proofs.YthoobepfkfjgnaaDoor.TxA
/-- How many of m owed bytes stand there, and whether all do. -/
def acc : Nat → Int → Int → List Int → Nat × Bool
  | 0, _, _, _ => (0, true)
  | _ + 1, _, _, [] => (0, false)
  | m + 1, lo, hi, d :: r => if lo ≤ d ∧ d ≤ hi then ((acc m 128 191 r).1 + 1, (acc m 128 191 r).2) else (0, false)
theorem run (m : Nat) : ∀ (lo hi : Int) (r : List Int) (i : Int), Utf.run r (m : Int) lo hi i = if (acc m lo hi r).2 = true then Utf.run (r.drop (acc m lo hi r).1) 0 128 191 (i + ((acc m lo hi r).1 : Nat)) else (i + ((acc m lo hi r).1 : Nat), false) := by
  induction m with
  | zero =>
    intro lo hi r i
    rw [acc]
    simp only [if_true, List.drop_zero]
    rw [show i + ((0 : Nat) : Int) = i by omega]
    exact Utf.run_zero_any _ _ _ _ _ _
  | succ m ih =>
    intro lo hi r i
    cases r with
    | nil =>
      rw [acc, Utf.run]
      simp only [Bool.false_eq_true, if_false]
      rw [show i + ((0 : Nat) : Int) = i by omega]
      first | (congr 1; done) | (congr 1; exact beq_eq_false_iff_ne.mpr (by omega))
    | cons d r =>
      rw [acc]
      by_cases h : lo ≤ d ∧ d ≤ hi
      · rw [if_pos h, Utf.run_more d r _ _ _ _ (by omega) h.1 h.2, show ((m + 1 : Nat) : Int) - 1 = (m : Int) by omega, ih]
        simp only [List.drop_succ_cons]
        rw [show i + 1 + (((acc m 128 191 r).1 : Nat) : Int) = i + (((acc m 128 191 r).1 + 1 : Nat) : Int) by omega]
      · rw [if_neg h, Utf.run, if_neg (by omega)]
        simp only [Bool.false_eq_true, if_false]
        rw [show i + ((0 : Nat) : Int) = i by omega]
        by_cases h1 : d < lo
        · rw [if_pos h1]
        · rw [if_neg h1, if_pos (by omega)]
theorem acc_le (m : Nat) : ∀ (lo hi : Int) (r : List Int), (acc m lo hi r).1 ≤ m ∧ (acc m lo hi r).1 ≤ r.length ∧ ((acc m lo hi r).2 = true → (acc m lo hi r).1 = m) := by
  induction m with
  | zero => intro lo hi r; rw [acc]; exact ⟨Nat.le_refl _, Nat.zero_le _, fun _ => rfl⟩
  | succ m ih =>
    intro lo hi r
    cases r with
    | nil => rw [acc]; exact ⟨Nat.zero_le _, Nat.zero_le _, fun h => by cases h⟩
    | cons d r =>
      rw [acc]
      obtain ⟨i1, i2, i3⟩ := ih 128 191 r
      split
      · exact ⟨by omega, by rw [List.length_cons]; omega, fun h => by have := i3 h; omega⟩
      · exact ⟨Nat.zero_le _, Nat.zero_le _, fun h => by cases h⟩
/-- The bytes that were taken go on a code point. -/
theorem acc_cont (m : Nat) : ∀ (lo hi : Int) (r : List Int), 128 ≤ lo → hi ≤ 191 → ∀ j, j < (acc m lo hi r).1 → 128 ≤ r.getD j 0 ∧ r.getD j 0 ≤ 191 := by
  induction m with
  | zero => intro lo hi r _ _ j hj; rw [acc] at hj; exact absurd hj (Nat.not_lt_zero _)
  | succ m ih =>
    intro lo hi r h1 h2 j hj
    cases r with
    | nil => rw [acc] at hj; exact absurd hj (Nat.not_lt_zero _)
    | cons d r =>
      rw [acc] at hj
      split at hj
      · cases j with
        | zero => simp; omega
        | succ j => simpa using ih 128 191 r (by decide) (by decide) j (by simpa using hj)
      · exact absurd hj (Nat.not_lt_zero _)
theorem acc_take (m : Nat) : ∀ (lo hi : Int) (r : List Int) (j : Nat), acc m lo hi (r.take j) = if (acc m lo hi r).2 = true ∧ m ≤ j then (m, true) else (min j (acc m lo hi r).1, false) := by
  induction m with
  | zero => intro lo hi r j; rw [acc, acc]; rw [if_pos ⟨rfl, Nat.zero_le _⟩]
  | succ m ih =>
    intro lo hi r j
    cases j with
    | zero => rw [List.take_zero, acc, if_neg (by omega), Nat.zero_min]
    | succ j =>
      cases r with
      | nil => rw [List.take_nil, acc]; simp
      | cons d r =>
        rw [List.take_succ_cons, acc, acc]
        by_cases h : lo ≤ d ∧ d ≤ hi
        · rw [if_pos h, if_pos h, ih 128 191 r j]
          by_cases h2 : (acc m 128 191 r).2 = true ∧ m ≤ j
          · rw [if_pos h2, if_pos ⟨h2.1, by omega⟩]
          · rw [if_neg h2, if_neg (by rintro ⟨a, b⟩; exact h2 ⟨a, by omega⟩)]
            simp only [Prod.mk.injEq, and_true]
            omega
        · rw [if_neg h, if_neg h, if_neg (by simp)]
          simp
/-- What the automaton says of a first byte and j bytes behind it. -/
theorem good_take {c : Int} {r : List Int} {m : Nat} (hg : (Utf.goes c).1 = (m : Int)) (j : Nat) : Utf.good (c :: r.take j) = if (acc m (Utf.goes c).2.1 (Utf.goes c).2.2 r).2 = true ∧ m ≤ j then Utf.run ((r.take j).drop m) 0 128 191 (1 + (m : Int)) else (1 + ((min j (acc m (Utf.goes c).2.1 (Utf.goes c).2.2 r).1 : Nat) : Int), false) := by
  unfold Utf.good
  rw [Utf.run_zero, hg, if_neg (by omega), run, acc_take]
  by_cases h : (acc m (Utf.goes c).2.1 (Utf.goes c).2.2 r).2 = true ∧ m ≤ j
  · rw [if_pos h, if_pos h]
    simp only [if_true, Int.zero_add]
  · rw [if_neg h, if_neg h]
    simp only [Bool.false_eq_true, if_false, Int.zero_add]
theorem goes_ge (c : Int) : (Utf.goes c).1 = -1 ∨ (Utf.goes c).1 = 0 ∨ ((Utf.goes c).1 = 1 ∨ (Utf.goes c).1 = 2 ∨ (Utf.goes c).1 = 3) ∧ 194 ≤ c ∧ 128 ≤ (Utf.goes c).2.1 ∧ (Utf.goes c).2.2 ≤ 191 := by
  unfold Utf.goes
  repeat' split
  all_goals simp
  all_goals omega
theorem goes_zero {c : Int} (h : (Utf.goes c).1 = 0) : c < 128 := by
  unfold Utf.goes at h
  repeat' split at h
  all_goals first | assumption | simp at h
theorem shift : ∀ (l : List Int) (n lo hi i : Int), Utf.run l n lo hi i = (i + (Utf.run l n lo hi 0).1, (Utf.run l n lo hi 0).2) := by
  intro l
  induction l with
  | nil => intro n lo hi i; rw [Utf.run, Utf.run]; simp
  | cons c r ih =>
    intro n lo hi i
    rw [Utf.run, Utf.run]
    by_cases h0 : n = 0
    · rw [if_pos h0, if_pos h0]
      by_cases h1 : (Utf.goes c).1 < 0
      · rw [if_pos h1, if_pos h1]; simp
      · rw [if_neg h1, if_neg h1, ih _ _ _ (i + 1), ih _ _ _ (0 + 1)]
        simp only [Prod.mk.injEq, and_true]
        omega
    · rw [if_neg h0, if_neg h0]
      by_cases h1 : c < lo
      · rw [if_pos h1, if_pos h1]; simp
      · rw [if_neg h1, if_neg h1]
        by_cases h2 : c > hi
        · rw [if_pos h2, if_pos h2]; simp
        · rw [if_neg h2, if_neg h2, ih _ _ _ (i + 1), ih _ _ _ (0 + 1)]
          simp only [Prod.mk.injEq, and_true]
          omega
end Go.Proofs.YthoobepfkfjgnaaDoor.TxA
