/- What the document's Good, Points, Ints, Count answer: the printed functions of the reference. -/
import Derived.Test.YthoobepfkfjgnaaPUx9
import Derived.Test.YthoobepfkfjgnaaPUx2
import Derived.Test.YthoobepfkfjgnaaBase
namespace Go.Proofs.Ythoobepfkfjgnaa.Pure
open Go.RowKit Go.Proofs.Ythoobepfkfjgnaa.PU Go.Proofs.YthoobepfkfjgnaaW.PrintWords Go.Proofs.YthoobepfkfjgnaaW.PrintLast

theorem len_goes (c : Int) (k : Nat) (hk : 2 ≤ k) : caliperref01_length.f k c = some ((Utf.goes c).1 + 1) := by
  obtain ⟨k, rfl⟩ : ∃ m, k = m + 2 := ⟨k - 2, by omega⟩
  unfold caliperref01_length.f
  by_cases h1 : c < 128
  · rw [if_pos h1, Utf.goes_1 h1]; rfl
  · rw [if_neg h1]
    by_cases h2 : c ≥ 194
    · rw [if_pos h2]
      simp only [caliperref01_length.j0]
      by_cases h3 : c ≤ 223
      · rw [if_pos (decide_eq_true h3), Utf.goes_2 h2 (by omega)]; rfl
      · rw [if_neg (by simpa using h3), if_pos (by omega)]
        simp only [caliperref01_length.j1]
        by_cases h4 : c ≤ 239
        · rw [if_pos (decide_eq_true h4), (Utf.goes_3 (c := c) (by omega) (by omega)).1]; rfl
        · rw [if_neg (by simpa using h4), if_pos (by omega)]
          by_cases h5 : c ≤ 244
          · rw [if_pos h5, (Utf.goes_4 (c := c) (by omega) h5).1]; rfl
          · rw [if_neg h5, Utf.goes_bad (c := c) (by omega) (by omega)]; rfl
    · rw [if_neg h2]
      simp only [caliperref01_length.j0]
      rw [if_neg (by decide), if_neg (by omega)]
      simp only [caliperref01_length.j1]
      rw [if_neg (by decide), if_neg (by omega), Utf.goes_bad (c := c) (by omega) (by omega)]; rfl
theorem second_goes (c d : Int) (h : 194 ≤ c ∧ c ≤ 244) : caliperref01_second.f c d = some (decide ((Utf.goes c).2.1 ≤ d ∧ d ≤ (Utf.goes c).2.2)) := by
  have hb : (Utf.goes c).2.1 = (if c = 224 then 160 else if c = 240 then 144 else 128) ∧ (Utf.goes c).2.2 = (if c = 237 then 159 else if c = 244 then 143 else 191) := by
    by_cases h1 : c < 224
    · rw [Utf.goes_2 h.1 h1, if_neg (by omega), if_neg (by omega), if_neg (by omega), if_neg (by omega)]; exact ⟨rfl, rfl⟩
    · by_cases h2 : c < 240
      · obtain ⟨_, a, b⟩ := Utf.goes_3 (c := c) (by omega) h2
        rw [a, b]
        refine ⟨?_, ?_⟩
        · split
          · rfl
          · rw [if_neg (by omega)]
        · split
          · rfl
          · rw [if_neg (by omega)]
      · obtain ⟨_, a, b⟩ := Utf.goes_4 (c := c) (by omega) h.2
        rw [a, b, if_neg (show ¬ c = 224 by omega), if_neg (show ¬ c = 237 by omega)]
        exact ⟨rfl, rfl⟩
  rw [hb.1, hb.2]
  unfold caliperref01_second.f
  by_cases c1 : c = 224
  · subst c1
    rw [if_pos rfl]
    by_cases d1 : d ≥ 160
    · rw [if_pos d1]; simp; omega
    · rw [if_neg d1]; simp; omega
  · rw [if_neg c1, if_neg c1]
    by_cases c2 : c = 237
    · subst c2
      rw [if_pos rfl]
      by_cases d1 : d ≥ 128
      · rw [if_pos d1]; simp; omega
      · rw [if_neg d1]; simp; omega
    · rw [if_neg c2, if_neg c2]
      by_cases c3 : c = 240
      · subst c3
        rw [if_pos rfl]
        by_cases d1 : d ≥ 144
        · rw [if_pos d1]; simp; omega
        · rw [if_neg d1]; simp; omega
      · rw [if_neg c3, if_neg c3]
        by_cases c4 : c = 244
        · subst c4
          rw [if_pos rfl]
          by_cases d1 : d ≥ 128
          · rw [if_pos d1]; simp; omega
          · rw [if_neg d1]; simp; omega
        · rw [if_neg c4, if_neg c4]
          by_cases d1 : d ≥ 128
          · rw [if_pos d1]; simp; omega
          · rw [if_neg d1]; simp; omega

/-- What one step says of the automaton. -/
def StepOf (l : List Int) (i : Nat) (m : Int) (ok : Bool) (r : Int × Bool) : Prop :=
  if ok = true then ∃ n : Nat, m = n ∧ 1 ≤ n ∧ i + n ≤ l.length ∧ r = Utf.run (l.drop (i + n)) 0 128 191 ((i + n : Nat) : Int) else ∃ n : Nat, m = n ∧ r = (((i + n : Nat) : Int), false)

section
variable (l : List Int) (hl : l.length ≤ 140737488351232) (i : Nat) (hi : i < l.length)
include hl hi
set_option maxHeartbeats 1000000 in
theorem step_loop (c g lo0 hg0 : Int) (hc : rd l (i : Int) = c) (hsec : ∀ d, caliperref01_second.f c d = some (decide (lo0 ≤ d ∧ d ≤ hg0))) (n : Nat) (hn : (n : Int) = g + 1) (hn4 : n ≤ 4) :
    ∀ (d j : Nat), j + d = n → 1 ≤ j → i + j ≤ l.length → ∀ k, d < k → ∃ m ok, caliperref01_step.l0 k l i n (j : Int) = some (m, ok) ∧ (ok = true → m = n) ∧
      StepOf l i m ok (Utf.run (l.drop (i + j)) ((n : Int) - j) (if j = 1 then lo0 else 128) (if j = 1 then hg0 else 191) ((i + j : Nat) : Int)) := by
  intro d
  induction d with
  | zero =>
    intro j hj h1 hjl k hk
    obtain ⟨k, rfl⟩ : ∃ m, k = m + 1 := ⟨k - 1, by omega⟩
    obtain rfl : j = n := by omega
    refine ⟨j, true, ?_, fun _ => rfl, ?_⟩
    · simp only [caliperref01_step.l0]
      rw [if_neg (by omega)]
    · unfold StepOf
      rw [if_pos rfl]
      refine ⟨j, rfl, h1, hjl, ?_⟩
      rw [show ((j : Int) - j) = 0 by omega]
      exact Utf.run_zero_any _ _ _ _ _ _
  | succ d ih =>
    intro j hj h1 hjl k hk
    obtain ⟨k, rfl⟩ : ∃ m, k = m + 1 := ⟨k - 1, by omega⟩
    have e1 : wrap64 ((i : Int) + j) = ((i + j : Nat) : Int) := by rw [wrap64_id (by omega) (by omega)]; omega
    have e2 : wrap64 ((j : Int) + 1) = ((j + 1 : Nat) : Int) := by rw [wrap64_id (by omega) (by omega)]; omega
    have a0 : (j : Int) < n := by omega
    simp only [caliperref01_step.l0]
    rw [if_pos a0, e1, e2]
    clear e1 e2 a0
    by_cases hend : i + j = l.length
    · rw [if_pos (by omega), List.drop_eq_nil_of_le (by omega)]
      refine ⟨j, false, rfl, fun h => by simp at h, ?_⟩
      unfold StepOf
      rw [if_neg (by decide)]
      refine ⟨j, rfl, ?_⟩
      rw [Utf.run]
      simp
      omega
    · have hlt : i + j < l.length := by omega
      have a1 : ¬ ((i + j : Nat) : Int) = (l.length : Int) := by omega
      have a2 : (0 : Int) ≤ ((i + j : Nat) : Int) := by omega
      have a3 : ((i + j : Nat) : Int) < (l.length : Int) := by omega
      obtain ⟨x, hrd, hdrop⟩ : ∃ x, rd l ((i + j : Nat) : Int) = x ∧ l.drop (i + j) = x :: l.drop (i + j + 1) :=
        ⟨l[i + j], by unfold rd; rw [Int.toNat_natCast, List.getD_eq_getElem?_getD, List.getElem?_eq_getElem hlt]; rfl, List.drop_eq_getElem_cons hlt⟩
      rw [if_neg a1, if_pos a2, if_pos a3, hrd, hdrop]
      clear hrd hdrop a1 a2 a3 hend
      have hnext := ih (j + 1) (by omega) (by omega) (by omega) k (by omega)
      rw [if_neg (show ¬ j + 1 = 1 by omega), if_neg (show ¬ j + 1 = 1 by omega), show (n : Int) - ((j + 1 : Nat) : Int) = (n : Int) - j - 1 by omega, ← Nat.add_assoc] at hnext
      have hcast : ((i + j : Nat) : Int) + 1 = ((i + j + 1 : Nat) : Int) := by omega
      have hno : ∀ lo hg : Int, ¬ (lo ≤ x ∧ x ≤ hg) → Utf.run (x :: l.drop (i + j + 1)) ((n : Int) - j) lo hg ((i + j : Nat) : Int) = (((i + j : Nat) : Int), false) := by
        intro lo hg h
        rw [Utf.run, if_neg (by omega)]
        by_cases h2 : x < lo
        · rw [if_pos h2]
        · rw [if_neg h2, if_pos (by omega)]
      have hyes : ∀ lo hg : Int, lo ≤ x ∧ x ≤ hg → Utf.run (x :: l.drop (i + j + 1)) ((n : Int) - j) lo hg ((i + j : Nat) : Int) = Utf.run (l.drop (i + j + 1)) ((n : Int) - j - 1) 128 191 ((i + j + 1 : Nat) : Int) := by
        intro lo hg h
        rw [Utf.run_more _ _ _ _ _ _ (by omega) h.1 h.2, hcast]
      have hfall : ∃ m ok, (some ((j : Int), false) : Option (Int × Bool)) = some (m, ok) ∧ (ok = true → m = n) ∧ StepOf l i m ok (((i + j : Nat) : Int), false) := by
        refine ⟨j, false, rfl, fun h => by simp at h, ?_⟩
        unfold StepOf
        rw [if_neg (by decide)]
        exact ⟨j, rfl, rfl⟩
      by_cases hj1 : j = 1
      · subst hj1
        rw [if_pos (by decide), if_pos (by omega), if_pos (by omega), hc, hsec, if_pos rfl, if_pos rfl]
        simp only [Option.bind_some]
        by_cases hok : lo0 ≤ x ∧ x ≤ hg0
        · rw [if_pos (decide_eq_true hok), if_neg (by decide), hyes _ _ hok]
          exact hnext
        · rw [if_neg (by simpa using hok), hno _ _ hok]
          exact hfall
      · rw [if_neg (by omega), if_pos (by omega), if_neg hj1, if_neg hj1]
        by_cases h2 : x < 128
        · rw [if_pos h2, hno _ _ (by omega)]; exact hfall
        · rw [if_neg h2]
          by_cases h3 : x > 191
          · rw [if_pos h3, hno _ _ (by omega)]; exact hfall
          · rw [if_neg h3, hyes _ _ (by omega)]; exact hnext
theorem step_f (k : Nat) (hk : 5 < k) : ∃ m ok, caliperref01_step.f k l i = some (m, ok) ∧ (ok = true → m = (Utf.goes (rd l (i : Int))).1 + 1) ∧ StepOf l i m ok (Utf.run (l.drop i) 0 128 191 (i : Int)) := by
  have hrd : rd l (i : Int) = l[i] := by unfold rd; rw [Int.toNat_natCast, List.getD_eq_getElem?_getD, List.getElem?_eq_getElem hi]; rfl
  unfold caliperref01_step.f
  rw [if_pos (by omega), if_pos (by omega), len_goes _ _ (by omega), List.drop_eq_getElem_cons hi, Utf.run_zero, ← hrd]
  simp only [Option.bind_some]
  generalize hc : rd l (i : Int) = c
  by_cases h0 : (Utf.goes c).1 < 0
  · have h1 : (Utf.goes c).1 = -1 := by
      by_cases h2 : c < 128
      · rw [Utf.goes_1 h2] at h0; simp at h0
      · by_cases h3 : c < 194 ∨ 244 < c
        · exact Utf.goes_bad (by omega) h3
        · by_cases h4 : c < 224
          · rw [Utf.goes_2 (by omega) h4] at h0; simp at h0
          · by_cases h5 : c < 240
            · have := (Utf.goes_3 (c := c) (by omega) h5).1; omega
            · have := (Utf.goes_4 (c := c) (by omega) (by omega)).1; omega
    rw [if_pos (by omega), if_pos h0]
    refine ⟨0, false, rfl, fun h => by simp at h, ?_⟩
    unfold StepOf
    rw [if_neg (by decide)]
    exact ⟨0, rfl, rfl⟩
  · rw [if_neg (by omega), if_neg h0]
    by_cases h2 : c < 128
    · rw [Utf.goes_1 h2]
      obtain ⟨k, rfl⟩ : ∃ m, k = m + 1 := ⟨k - 1, by omega⟩
      simp only [caliperref01_step.l0]
      rw [if_neg (by decide)]
      refine ⟨1, true, rfl, fun _ => rfl, ?_⟩
      unfold StepOf
      rw [if_pos rfl]
      refine ⟨1, rfl, Nat.le_refl _, by omega, ?_⟩
      rw [show ((i + 1 : Nat) : Int) = (i : Int) + 1 by omega]
      exact Utf.run_zero_any _ _ _ _ _ _
    · have h3 : 194 ≤ c ∧ c ≤ 244 := by
        by_cases h4 : c < 194 ∨ 244 < c
        · have := Utf.goes_bad (c := c) (by omega) h4; omega
        · omega
      have hn : ∃ n : Nat, (n : Int) = (Utf.goes c).1 + 1 ∧ 2 ≤ n ∧ n ≤ 4 := by
        by_cases h4 : c < 224
        · exact ⟨2, by rw [Utf.goes_2 h3.1 h4]; rfl, by omega, by omega⟩
        · by_cases h5 : c < 240
          · exact ⟨3, by rw [(Utf.goes_3 (c := c) (by omega) h5).1]; rfl, by omega, by omega⟩
          · exact ⟨4, by rw [(Utf.goes_4 (c := c) (by omega) h3.2).1]; rfl, by omega, by omega⟩
      obtain ⟨n, hn1, hn2, hn4⟩ := hn
      obtain ⟨m, ok, e1, e2, e3⟩ := step_loop l hl i hi c (Utf.goes c).1 (Utf.goes c).2.1 (Utf.goes c).2.2 hc (fun d => second_goes c d h3) n hn1 hn4 (n - 1) 1 (by omega) (Nat.le_refl _) (by omega) k (by omega)
      rw [if_pos rfl, if_pos rfl, show ((n : Int) - ((1 : Nat) : Int)) = (Utf.goes c).1 by omega] at e3
      rw [← hn1]
      refine ⟨m, ok, e1, e2, ?_⟩
      rw [show ((i + 1 : Nat) : Int) = (i : Int) + 1 by omega] at e3
      exact e3
end

theorem rgood_l (l : List Int) (hl : l.length ≤ 140737488351232) : ∀ (d i : Nat), l.length ≤ i + d → i ≤ l.length → ∀ k, d + 7 ≤ k → caliperref01_Good.l0 k l (i : Int) = some (Utf.run (l.drop i) 0 128 191 (i : Int)) := by
  intro d
  induction d with
  | zero =>
    intro i h1 h2 k hk
    obtain ⟨k, rfl⟩ : ∃ m, k = m + 1 := ⟨k - 1, by omega⟩
    simp only [caliperref01_Good.l0]
    rw [if_neg (by omega), List.drop_eq_nil_of_le (by omega)]
    rfl
  | succ d ih =>
    intro i h1 h2 k hk
    obtain ⟨k, rfl⟩ : ∃ m, k = m + 1 := ⟨k - 1, by omega⟩
    simp only [caliperref01_Good.l0]
    by_cases hi : i < l.length
    · rw [if_pos (by omega)]
      obtain ⟨m, ok, e1, _, e3⟩ := step_f l hl i hi k (by omega)
      rw [e1]
      simp only [Option.bind_some]
      unfold StepOf at e3
      cases ok with
      | true =>
        rw [if_pos rfl] at e3
        obtain ⟨n, rfl, n1, n2, e3⟩ := e3
        rw [if_pos rfl, e3, show wrap64 ((i : Int) + n) = ((i + n : Nat) : Int) by rw [wrap64_id (by omega) (by omega)]; omega]
        exact ih (i + n) (by omega) n2 k (by omega)
      | false =>
        rw [if_neg (by decide)] at e3
        obtain ⟨n, rfl, e3⟩ := e3
        rw [if_neg (by decide), e3]
        have := (Utf.run_le (l.drop i) 0 128 191 (i : Int)).2
        rw [e3, List.length_drop] at this
        simp only at this
        rw [show wrap64 ((i : Int) + n) = ((i + n : Nat) : Int) by rw [wrap64_id (by omega) (by omega)]; omega]
    · rw [if_neg (by omega), List.drop_eq_nil_of_le (by omega)]
      rfl
theorem rgood_ev (l : List Int) (hl : l.length ≤ 140737488351232) : Ev (fun k => caliperref01_Good.f k l) (Utf.good l) :=
  ⟨l.length + 7, fun k hk => by unfold caliperref01_Good.f Utf.good; exact rgood_l l hl l.length 0 (by omega) (by omega) k hk⟩

theorem ints_refl (l : List Int) (hl : l.length ≤ 140737488351232) : Ev (fun k => caliperref01_Ints.f k l l) true := by
  have loop : ∀ (d i : Nat), l.length = i + d → Ev (fun k => caliperref01_Ints.l0 k l l (i : Int)) true := by
    intro d
    induction d with
    | zero =>
      intro i h
      refine Ev.step (f := fun _ => some true) (fun k => ?_) (Ev.now _)
      simp only [caliperref01_Ints.l0]
      rw [if_neg (by omega)]
    | succ d ih =>
      intro i h
      refine Ev.step (f := fun k => caliperref01_Ints.l0 k l l ((i + 1 : Nat) : Int)) (fun k => ?_) (ih (i + 1) (by omega))
      simp only [caliperref01_Ints.l0]
      rw [if_pos (by omega), if_pos (by omega), if_pos (by omega), if_pos trivial, show wrap64 ((i : Int) + 1) = ((i + 1 : Nat) : Int) by rw [wrap64_id (by omega) (by omega)]; omega]
  refine Ev.congr (fun k => ?_) (loop l.length 0 (by omega))
  unfold caliperref01_Ints.f
  rw [if_pos rfl]
  rfl

end Go.Proofs.Ythoobepfkfjgnaa.Pure
