import Derived.Test.YthoobepfkfjgnaaDoorPLx0
import Derived.Test.YthoobepfkfjgnaaDoorLXd
import Derived.Test.YthoobepfkfjgnaaDoorLXh
import Derived.Test.YthoobepfkfjgnaaDoorLexV
import Derived.Test.YthoobepfkfjgnaaDoorLexW
import Derived.Lib.SmallJoins
import Derived.WalkLawsBesides
import Derived.Outline
import Derived.StillTailTactics
import Derived.Test.YthoobepfkfjgnaaDoorMore
import Derived.Lib.Bytealg
import Derived.Lib.AppendStr
import Derived.Deep.RegionLaw
namespace Go.Proofs.YthoobepfkfjgnaaDoor.PL
open Go.RowKit Go.Proofs.YthoobepfkfjgnaaDoorW.PrintWords Go.Proofs.YthoobepfkfjgnaaDoorW.PrintLast Go.Proofs.YthoobepfkfjgnaaDoorW.PrintMore
attribute [local go_sem] max2_int min2_int max_two min_two max_three min_three max_four min_four
set_option linter.unusedVariables false
set_option linter.unusedSimpArgs false
-- GIVEN plain making
theorem RefP.tq_stop (l : List Int) (p : Nat) (h : ¬ (p < l.length ∧ LexW.plain (LexW.at_ l p) = true)) : LexW.tq l p = p := by
  unfold LexW.tq
  rw [LexW.pass]
  by_cases h1 : p < l.length
  · rw [if_pos h1, if_neg (fun h2 => h ⟨h1, h2⟩)]
  · rw [if_neg h1]
theorem RefP.tq_go (l : List Int) (p : Nat) (h1 : p < l.length) (h2 : LexW.plain (LexW.at_ l p) = true) : LexW.tq l p = LexW.tq l (p + 1) := by
  unfold LexW.tq
  conv => lhs; rw [LexW.pass, if_pos h1, if_pos h2]
theorem RefP.drop_at (l : List Int) (p j : Nat) : (l.drop p).getD j 0 = LexW.at_ l (p + j) := by
  unfold LexW.at_
  rw [List.getD_eq_getElem?_getD, List.getD_eq_getElem?_getD, List.getElem?_drop]
theorem RefP.ev_exactly1 {l : List Int} {p : Nat} (c : Int) : LexW.exactly [c] l p = if p < l.length then (if LexW.at_ l p = c then (none, p + 1) else (some (p + 1), p)) else (some (p + 1), p) := by
  rw [LexW.exactly]
  unfold LexW.must
  by_cases h1 : p < l.length
  · rw [if_pos h1, if_pos h1]
    by_cases h2 : LexW.at_ l p = c
    · simp [h2, LexW.exactly]
    · simp [h2]
  · rw [if_neg h1, if_neg h1]
    simp
theorem LexW.four_ge (T : Nat → Int → Bool) (b : List Int) : ∀ (k i : Nat) (n : Int) {p q : Nat} {r : Option Nat} {nr : Int}, LexW.four T b k i n p = (r, nr, q) → p ≤ q := by
  intro k
  induction k with
  | zero => intro i n p q r nr h; rw [LexW.four] at h; cases h; exact Nat.le_refl _
  | succ k ih =>
    intro i n p q r nr h
    rw [LexW.four] at h
    split at h
    · split at h
      · split at h
        · have := ih _ _ h; omega
        · cases h; exact Nat.le_refl _
      · cases h; exact Nat.le_refl _
    · cases h; exact Nat.le_refl _
theorem LexW.four_add (T : Nat → Int → Bool) (b : List Int) : ∀ (k i : Nat) (n : Int) {p q : Nat} {nr : Int}, LexW.four T b k i n p = (none, nr, q) → q = p + k := by
  intro k
  induction k with
  | zero => intro i n p q nr h; rw [LexW.four] at h; cases h; rfl
  | succ k ih =>
    intro i n p q nr h
    rw [LexW.four] at h
    split at h
    · split at h
      · split at h
        · have := ih _ _ h; omega
        · cases h
      · cases h
    · cases h
theorem LexW.escTo_small (j : Nat) : LexW.escTo.getD j 0 < 128 := by
  match j with
  | 0 | 1 | 2 | 3 | 4 | 5 | 6 | 7 => decide
  | n + 8 => exact (by decide : (0 : Int) < 128)
theorem LexW.escape_len {b : List Int} {p q : Nat} {n : Int} (h : LexW.escape b p = (none, n, q)) : p + 4 ≤ q ∨ (p + 1 ≤ q ∧ n < 128) := by
  unfold LexW.escape at h
  by_cases hpl : p < b.length
  · rw [if_pos hpl] at h
    by_cases h0 : 0 ≤ LexW.idx (LexW.at_ b p) LexW.escFrom
    · rw [if_pos h0] at h
      cases h
      exact .inr ⟨Nat.le_refl _, LexW.escTo_small _⟩
    · rw [if_neg h0] at h
      unfold LexW.uesc at h
      have hex : LexW.exactly [117] b p = if LexW.at_ b p = 117 then (none, p + 1) else (some (p + 1), p) := by rw [RefP.ev_exactly1, if_pos hpl]
      by_cases h1 : LexW.at_ b p = 117
      · rw [if_pos h1] at hex
        simp only [hex, Option.isSome_none, Bool.false_eq_true, if_false] at h
        rcases h3 : LexW.four LexW.T1 b 4 0 0 (p + 1) with ⟨r3, hi, q3⟩
        cases r3 with
        | some e =>
          simp only [h3, Option.isSome_some, if_true] at h
          cases h
        | none =>
          have g3 := LexW.four_add _ _ _ _ _ h3
          unfold LexW.tail2 at h
          rcases h6 : LexW.exactly [92, 117] b q3 with ⟨r6, q6⟩
          have g6 := LexW.exactly_ge _ h6
          rcases h7 : LexW.four LexW.T2 b 4 0 0 q6 with ⟨r7, lo, q7⟩
          have g7 := LexW.four_ge _ _ _ _ _ h7
          simp only [h3, h6, h7] at h
          refine .inl ?_
          repeat' split at h
          all_goals (simp only [Prod.mk.injEq] at h; omega)
      · rw [if_neg h1] at hex
        simp only [hex, Option.isSome_some, if_true] at h
        cases h
  · rw [if_neg hpl] at h
    cases h
theorem LexW.escape_gt {b : List Int} {p q : Nat} {n : Int} (h : LexW.escape b p = (none, n, q)) : p + 1 ≤ q := by
  rcases LexW.escape_len h with h | ⟨h, _⟩ <;> omega
theorem LexP.put_total (l : List Int) (v : Int) (h : l.length + 4 < 140737488355328) : ∃ o, utf_Put.f l v = some o ∧ o.1.length ≤ l.length + 4 := by
  by_cases hs : Utf.Scalar v
  · refine ⟨_, Pure.put_yes h hs, ?_⟩
    rw [List.length_append]
    have : (Utf.enc v).length ≤ 4 := by rcases Utf.enc_cases hs with ⟨_, _, e⟩ | ⟨_, _, e⟩ | ⟨_, _, e⟩ | ⟨_, _, e⟩ <;> (rw [e]; simp)
    omega
  · exact ⟨_, Pure.put_no hs, by simp⟩
theorem LexP.put_len (o : List Int) (hl : o.length + 4 < 140737488355328) {b : List Int} {p q : Nat} {n : Int} (h : LexW.escape b p = (none, n, q)) : ∃ r, utf_Put.f o n = some r ∧ r.1.length + p ≤ o.length + q := by
  have hd := LexW.escape_len h
  by_cases hs : Utf.Scalar n
  · refine ⟨_, Pure.put_yes hl hs, ?_⟩
    have h4 := (Utf.enc_length n).2
    have h1 : n < 128 → (Utf.enc n).length ≤ 1 := by
      intro hn
      unfold Utf.enc
      rw [if_pos hn]
      exact Nat.le_refl _
    simp only [List.length_append]
    rcases hd with hd | ⟨hd, hn⟩
    · omega
    · have := h1 hn
      omega
  · refine ⟨_, Pure.put_no hs, ?_⟩
    simp only [List.length_nil]
    omega
/-- Text always answers: every round passes a byte. -/
theorem LexW.text_total (l : List Int) (hm : l.length < 140737488355300) : ∀ (n : Nat) (o : List Int) (p : Nat), p ≤ l.length → o.length ≤ p → l.length - p < n → ∃ r, LexW.text l n o p = some r := by
  intro n
  induction n with
  | zero => intro o p _ _ h; omega
  | succ n ih =>
    intro o p hp ho hn
    have hle : p ≤ LexW.tq l p := LexW.le_pass _ _ _ _ rfl
    have hql : LexW.tq l p ≤ l.length := LexW.pass_le _ _ _ _ rfl hp
    have hlen : (LexW.tpl l p).length = LexW.tq l p - p := by unfold LexW.tpl; rw [List.length_drop, List.length_take]; omega
    have hgr := Utf.good_range (LexW.tpl l p)
    rw [LexW.text, Pure.utf_Points.good_k (LexW.tpl l p) (by omega) _ (by omega)]
    simp only [Option.bind_some]
    rw [if_pos hgr]
    split
    · exact ⟨_, rfl⟩
    · split
      · rename_i hc
        rw [if_pos (by omega)]
        split
        · exact ⟨_, rfl⟩
        · rcases he : LexW.escape l (LexW.tq l p + 1) with ⟨r8, n8, q8⟩
          have hq8 := LexW.escape_le he hc.1
          cases r8 with
          | some e => simp only [Option.isSome_some, if_true]; exact ⟨_, rfl⟩
          | none =>
            simp only [Option.isSome_none, Bool.false_eq_true, if_false]
            have hgt := LexW.escape_gt he
            obtain ⟨⟨o3, e3⟩, p1, p3⟩ := LexP.put_len (o ++ LexW.tpl l p) (by rw [List.length_append]; omega) he
            rw [List.length_append] at p3
            dsimp only at p3
            rw [p1]
            simp only [Option.bind_some]
            exact ih o3 q8 hq8 (by omega) (by omega)
      · exact ⟨_, rfl⟩
theorem LexW.exactly_cut : ∀ (l : List Int) {b : List Int} {p q : Nat}, LexW.exactly l b p = (none, q) → q = p + l.length ∧ LexW.cut b p q = l := by
  intro l
  induction l with
  | nil => intro b p q h; rw [LexW.exactly] at h; cases h; exact ⟨rfl, by unfold LexW.cut; simp⟩
  | cons c l ih =>
    intro b p q h
    rw [LexW.exactly] at h
    unfold LexW.must at h
    by_cases h1 : p < b.length
    · rw [if_pos h1] at h
      by_cases h2 : (LexW.at_ b p == c) = true
      · simp only [h2, if_true, Option.isSome_none, Bool.false_eq_true, if_false] at h
        obtain ⟨i1, i2⟩ := ih h
        refine ⟨by rw [i1, List.length_cons]; omega, ?_⟩
        have h3 : LexW.at_ b p = c := by simpa using h2
        unfold LexW.cut at i2 ⊢
        have h4 : p < (b.take q).length := by rw [List.length_take]; omega
        rw [List.drop_eq_getElem_cons h4, i2]
        congr 1
        rw [List.getElem_take]
        unfold LexW.at_ at h3
        rw [List.getD_eq_getElem?_getD, List.getElem?_eq_getElem h1] at h3
        exact h3
      · simp only [h2, Bool.false_eq_true, if_false, Option.isSome_some, if_true] at h
        cases h
    · simp only [if_neg h1, Option.isSome_some, if_true] at h
      cases h

-- GIVEN plain making
theorem LexW.may_gt {of b : List Int} {p q : Nat} (h : LexW.may of b p = (true, q)) : p + 1 ≤ q := by
  unfold LexW.may at h
  split at h
  · split at h <;> cases h; exact Nat.le_refl _
  · cases h
theorem LexW.digits_gt {b : List Int} {p q : Nat} (h : LexW.digits b p = (none, q)) : p + 1 ≤ q := by
  unfold LexW.digits at h
  rcases hm : LexW.must LexW.digit b p with ⟨r1, q1⟩
  rw [hm] at h
  simp only [Prod.mk.injEq] at h
  obtain ⟨h1, h2⟩ := h
  have h3 : q1 ≤ LexW.pass LexW.digit b q1 := LexW.le_pass _ _ _ _ rfl
  subst h1
  unfold LexW.must at hm
  split at hm
  · split at hm
    · cases hm; omega
    · cases hm
  · cases hm
theorem LexW.number_gt {b : List Int} {p q : Nat} (h : LexW.number b p = (none, q)) : p + 1 ≤ q := by
  unfold LexW.number at h
  have h1 : p ≤ (LexW.may [45] b p).2 := LexW.may_ge (m := (LexW.may [45] b p).1) rfl
  rcases hi : LexW.int_ b (LexW.may [45] b p).2 with ⟨ri, qi⟩
  have h2 : ri = none → (LexW.may [45] b p).2 + 1 ≤ qi := by
    intro e
    subst e
    unfold LexW.int_ at hi
    split at hi
    · rename_i hm
      cases hi
      exact LexW.may_gt (Prod.ext hm rfl)
    · have := LexW.digits_gt hi
      have h3 : (LexW.may [45] b p).2 ≤ (LexW.may [48] b (LexW.may [45] b p).2).2 := LexW.may_ge (m := (LexW.may [48] b (LexW.may [45] b p).2).1) rfl
      omega
  simp only [hi] at h
  cases ri with
  | some e => simp only [Option.isSome_some, if_true] at h; cases h
  | none =>
    have := h2 rfl
    simp only [Option.isSome_none, Bool.false_eq_true, if_false] at h
    have h3 : qi ≤ (LexW.frac b qi).2 := LexW.frac_ge (r := (LexW.frac b qi).1) rfl
    split at h
    · have := LexW.frac_ge h; omega
    · have := LexW.expo_ge h; omega
theorem LexW.text_ge (l : List Int) : ∀ (k : Nat) {o : List Int} {p : Nat} {out : List Int} {q : Nat}, LexW.text l k o p = some (none, out, q) → p + 1 ≤ q := by
  intro k
  induction k with
  | zero => intro o p out q h; cases h
  | succ k ih =>
    intro o p out q h
    have hle : p ≤ LexW.tq l p := LexW.le_pass _ _ _ _ rfl
    rw [LexW.text] at h
    obtain ⟨gd, _, h⟩ := Option.bind_eq_some_iff.mp h
    split at h
    · split at h
      · cases h
      · split at h
        · split at h
          · split at h
            · cases h; omega
            · rcases hes : LexW.escape l (LexW.tq l p + 1) with ⟨r8, n8, q8⟩
              simp only [hes] at h
              cases r8 with
              | some e => simp only [Option.isSome_some, if_true] at h; cases h
              | none =>
                simp only [Option.isSome_none, Bool.false_eq_true, if_false] at h
                obtain ⟨o3, _, h⟩ := Option.bind_eq_some_iff.mp h
                have := ih h
                have := LexW.escape_gt hes
                omega
          · cases h
        · cases h
    · cases h
theorem LexW.sw_gt {b : List Int} {k p : Nat} {kd : Int} {out : List Int} {q : Nat} (h : LexW.sw b k p = some (none, kd, out, q)) (hk : kd ≠ 0) : p + 1 ≤ q := by
  unfold LexW.sw at h
  split at h
  · split at h
    · cases h; exact Nat.le_refl _
    · split at h
      · obtain ⟨h1, _, _, h4⟩ := LexW.inj4 h; have := (LexW.exactly_cut _ (Prod.ext h1 h4)).1; simp at this; omega
      · split at h
        · obtain ⟨h1, _, _, h4⟩ := LexW.inj4 h; have := (LexW.exactly_cut _ (Prod.ext h1 h4)).1; simp at this; omega
        · split at h
          · obtain ⟨h1, _, _, h4⟩ := LexW.inj4 h; have := (LexW.exactly_cut _ (Prod.ext h1 h4)).1; simp at this; omega
          · split at h
            · obtain ⟨h1, _, _, h4⟩ := LexW.inj4 h; exact LexW.number_gt (Prod.ext h1 h4)
            · split at h
              · obtain ⟨⟨t1, t2, t3⟩, ht, h⟩ := Option.bind_eq_some_iff.mp h
                obtain ⟨h1, _, _, h4⟩ := LexW.inj4 h
                dsimp only at h1 h4
                subst h1; subst h4
                have := LexW.text_ge b _ ht
                omega
              · cases h
  · cases h; exact absurd rfl hk
theorem LexW.next_adv {b : List Int} {k a : Nat} {rk : Int} {rx : List Int} {rf rt2 rn : Nat} {re : Int} (h : LexW.next b k (a : Int) = some (rk, rx, rf, rt2, rn, re)) (ha : a ≤ b.length) (he : re = 0) (hk : rk ≠ 0) : a + 1 ≤ rt2 ∧ rt2 ≤ b.length := by
  unfold LexW.next at h
  rw [if_neg (by omega), if_neg (by omega)] at h
  obtain ⟨⟨rt, kt, txt, ft, et⟩, htk, h⟩ := Option.bind_eq_some_iff.mp h
  rw [Int.toNat_natCast] at htk
  cases rt with
  | some e => obtain ⟨_, _, _, _, _, h6⟩ := LexW.inj6 h; omega
  | none =>
    obtain ⟨h1, _, _, h4, _, _⟩ := LexW.inj6 h
    dsimp only at h1 h4
    subst h1; subst h4
    unfold LexW.token at htk
    obtain ⟨⟨r, kd, out, q⟩, hsw, htk⟩ := Option.bind_eq_some_iff.mp htk
    dsimp only at htk
    have hp1 : LexW.pass LexW.blank b a ≤ b.length := LexW.pass_le _ _ _ _ rfl ha
    have hp2 : a ≤ LexW.pass LexW.blank b a := LexW.le_pass _ _ _ _ rfl
    cases r with
    | some e => simp only [Option.isSome_some, if_true, Option.some.injEq, Prod.mk.injEq] at htk; cases htk.1
    | none =>
      simp only [Option.isSome_none, Bool.false_eq_true, if_false, Option.some.injEq, Prod.mk.injEq] at htk
      obtain ⟨_, e2, _, _, e5⟩ := htk
      subst e2; subst e5
      have := LexW.sw_gt hsw hk
      have := LexW.sw_le hsw hp1
      omega

-- GIVEN plain making
/-- Two rows of bytes that agree on the first q. -/
def LexW.Ag (b c : List Int) (q : Nat) : Prop := q ≤ b.length ∧ q ≤ c.length ∧ b.take q = c.take q
theorem LexW.Ag.at {b c : List Int} {q : Nat} (h : LexW.Ag b c q) {i : Nat} (hi : i < q) : LexW.at_ b i = LexW.at_ c i := by
  have e : (b.take q)[i]? = (c.take q)[i]? := by rw [h.2.2]
  rw [List.getElem?_take_of_lt hi, List.getElem?_take_of_lt hi] at e
  unfold LexW.at_
  rw [List.getD_eq_getElem?_getD, List.getD_eq_getElem?_getD, e]
theorem LexW.Ag.cut {b c : List Int} {q : Nat} (h : LexW.Ag b c q) (p i : Nat) (hi : i ≤ q) : (b.take i).drop p = (c.take i).drop p := by
  have e : (b.take q).take i = (c.take q).take i := by rw [h.2.2]
  rw [List.take_take, List.take_take, Nat.min_eq_left hi] at e
  rw [e]
theorem LexW.pass_loc {T : Int → Bool} {b c : List Int} {q : Nat} (h : LexW.Ag b c q) : ∀ (n p : Nat), q - p = n → LexW.pass T b p < q → LexW.pass T c p = LexW.pass T b p := by
  intro n
  induction n with
  | zero => intro p hn hp; have : p ≤ LexW.pass T b p := LexW.le_pass _ _ _ _ rfl; omega
  | succ n ih =>
    intro p hn hp
    have hle : p ≤ LexW.pass T b p := LexW.le_pass _ _ _ _ rfl
    have hb := h.1
    have hc := h.2.1
    have e := h.at (show p < q by omega)
    by_cases ht : T (LexW.at_ b p) = true
    · have e1 : LexW.pass T b p = LexW.pass T b (p + 1) := by conv => lhs; rw [LexW.pass, if_pos (by omega), if_pos ht]
      have e2 : LexW.pass T c p = LexW.pass T c (p + 1) := by conv => lhs; rw [LexW.pass, if_pos (by omega), if_pos (by rw [← e]; exact ht)]
      rw [e2, e1]
      exact ih (p + 1) (by omega) (by rw [← e1]; exact hp)
    · rw [LexW.pass, if_pos (by omega), if_neg (by rw [← e]; exact ht), LexW.pass, if_pos (by omega), if_neg ht]
theorem LexW.must_loc {T : Int → Bool} {b c : List Int} {q p q1 : Nat} (h : LexW.Ag b c q) (hm : LexW.must T b p = (none, q1)) (hq : q1 ≤ q) : LexW.must T c p = (none, q1) := by
  have hc := h.2.1
  unfold LexW.must at hm ⊢
  split at hm
  · split at hm
    · rename_i h1 h2
      cases hm
      rw [if_pos (by omega), ← h.at (by omega), if_pos h2]
    · cases hm
  · cases hm
theorem LexW.exactly_loc : ∀ (l : List Int) {b c : List Int} {q p q1 : Nat}, LexW.Ag b c q → LexW.exactly l b p = (none, q1) → q1 ≤ q → LexW.exactly l c p = (none, q1) := by
  intro l
  induction l with
  | nil => intro b c q p q1 h hm hq; rw [LexW.exactly] at hm ⊢; exact hm
  | cons x l ih =>
    intro b c q p q1 h hm hq
    rw [LexW.exactly] at hm ⊢
    rcases hmu : LexW.must (fun y => y == x) b p with ⟨r1, p1⟩
    rw [hmu] at hm
    cases r1 with
    | some e => simp only [Option.isSome_some, if_true] at hm; cases hm
    | none =>
      simp only [Option.isSome_none, Bool.false_eq_true, if_false] at hm
      have := LexW.exactly_ge _ hm
      rw [LexW.must_loc h hmu (by omega)]
      simp only [Option.isSome_none, Bool.false_eq_true, if_false]
      exact ih h hm hq
theorem LexW.four_loc (T : Nat → Int → Bool) {b c : List Int} {q : Nat} (h : LexW.Ag b c q) : ∀ (k i : Nat) (n : Int) {p q1 : Nat} {nr : Int}, LexW.four T b k i n p = (none, nr, q1) → q1 ≤ q → LexW.four T c k i n p = (none, nr, q1) := by
  intro k
  induction k with
  | zero => intro i n p q1 nr hm hq; rw [LexW.four] at hm ⊢; exact hm
  | succ k ih =>
    intro i n p q1 nr hm hq
    have hc := h.2.1
    have hs := LexW.four_step hm
    obtain ⟨s1, s2, s3, s4⟩ := hs
    have := LexW.four_ge _ _ _ _ _ s4
    rw [LexW.four, ← h.at (by omega), if_pos (by omega), if_pos s2, if_pos s3]
    exact ih _ _ s4 hq
theorem LexW.escape_loc {b c : List Int} {q p q1 : Nat} {n : Int} (h : LexW.Ag b c q) (hm : LexW.escape b p = (none, n, q1)) (hq : q1 ≤ q) : LexW.escape c p = (none, n, q1) := by
  have hgt := LexW.escape_gt hm
  have hb := h.1
  have hc := h.2.1
  have e := h.at (show p < q by omega)
  unfold LexW.escape at hm ⊢
  rw [if_pos (by omega)] at hm ⊢
  rw [← e]
  by_cases h0 : 0 ≤ LexW.idx (LexW.at_ b p) LexW.escFrom
  · rw [if_pos h0] at hm ⊢; exact hm
  · rw [if_neg h0] at hm ⊢
    unfold LexW.uesc at hm ⊢
    rcases h2 : LexW.exactly [117] b p with ⟨r2, q2⟩
    simp only [h2] at hm
    cases r2 with
    | some e => simp only [Option.isSome_some, if_true] at hm; cases hm
    | none =>
      simp only [Option.isSome_none, Bool.false_eq_true, if_false] at hm
      rcases h3 : LexW.four LexW.T1 b 4 0 0 q2 with ⟨r3, hi, q3⟩
      simp only [h3] at hm
      cases r3 with
      | some e => simp only [Option.isSome_some, if_true] at hm; cases hm
      | none =>
        simp only [Option.isSome_none, Bool.false_eq_true, if_false] at hm
        have g3 := LexW.four_ge _ _ _ _ _ h3
        by_cases c1 : hi < 55296
        · rw [if_pos c1] at hm
          cases hm
          have h3' := LexW.four_loc LexW.T1 h 4 0 0 h3 hq
          have h2' := LexW.exactly_loc [117] h h2 (by omega)
          simp only [h2', h3', Option.isSome_none, Bool.false_eq_true, if_false, if_pos c1]
        · rw [if_neg c1] at hm
          by_cases c2 : hi > 57343
          · rw [if_pos c2] at hm
            cases hm
            have h3' := LexW.four_loc LexW.T1 h 4 0 0 h3 hq
            have h2' := LexW.exactly_loc [117] h h2 (by omega)
            simp only [h2', h3', Option.isSome_none, Bool.false_eq_true, if_false, if_neg c1, if_pos c2]
          · rw [if_neg c2] at hm
            unfold LexW.tail2 at hm
            rcases h6 : LexW.exactly [92, 117] b q3 with ⟨r6, q6⟩
            simp only [h6] at hm
            cases r6 with
            | some e => simp only [Option.isSome_some, if_true] at hm; cases hm
            | none =>
              simp only [Option.isSome_none, Bool.false_eq_true, if_false] at hm
              have g6 := LexW.exactly_ge _ h6
              rcases h7 : LexW.four LexW.T2 b 4 0 0 q6 with ⟨r7, lo, q7⟩
              simp only [h7] at hm
              have g7 := LexW.four_ge _ _ _ _ _ h7
              cases r7 with
              | some e => simp only [Option.isSome_some, if_true] at hm; cases hm
              | none =>
                simp only [Option.isSome_none, Bool.false_eq_true, if_false] at hm
                cases hm
                have h3' := LexW.four_loc LexW.T1 h 4 0 0 h3 (by omega)
                have h2' := LexW.exactly_loc [117] h h2 (by omega)
                have h6' := LexW.exactly_loc [92, 117] h h6 (by omega)
                have h7' := LexW.four_loc LexW.T2 h 4 0 0 h7 hq
                unfold LexW.tail2
                simp only [h2', h3', h6', h7', Option.isSome_none, Bool.false_eq_true, if_false, if_neg c1, if_neg c2]
theorem LexW.text_loc {b c : List Int} {q : Nat} (hmb : b.length < 140737488355328) (hmc : c.length < 140737488355328) (h : LexW.Ag b c q) : ∀ (k : Nat) {o : List Int} {p : Nat} {out : List Int} {q1 : Nat}, LexW.text b k o p = some (none, out, q1) → q1 ≤ q → LexW.text c k o p = some (none, out, q1) := by
  intro k
  induction k with
  | zero => intro o p out q1 hm hq; cases hm
  | succ k ih =>
    intro o p out q1 hm hq
    have hb := h.1
    have hc := h.2.1
    have hle : p ≤ LexW.tq b p := LexW.le_pass _ _ _ _ rfl
    have hlb : (LexW.tpl b p).length ≤ b.length := by unfold LexW.tpl; rw [List.length_drop, List.length_take]; omega
    have hlc : (LexW.tpl c p).length ≤ c.length := by unfold LexW.tpl; rw [List.length_drop, List.length_take]; omega
    rw [LexW.text, Pure.utf_Points.good_k (LexW.tpl b p) (by omega) _ (by omega)] at hm
    rw [LexW.text, Pure.utf_Points.good_k (LexW.tpl c p) (by omega) _ (by omega)]
    simp only [Option.bind_some] at hm ⊢
    split at hm
    · rename_i hg
      split at hm
      · cases hm
      · rename_i hbad
        split at hm
        · rename_i h32
          split at hm
          · rename_i hlen
            have key : LexW.tq b p < q := by
              split at hm
              · cases hm; omega
              · rcases hes : LexW.escape b (LexW.tq b p + 1) with ⟨r8, n8, q8⟩
                simp only [hes] at hm
                cases r8 with
                | some e => simp only [Option.isSome_some, if_true] at hm; cases hm
                | none =>
                  simp only [Option.isSome_none, Bool.false_eq_true, if_false] at hm
                  obtain ⟨o3, _, hm⟩ := Option.bind_eq_some_iff.mp hm
                  have := LexW.text_ge b k hm
                  have := LexW.escape_gt hes
                  omega
            have e1 : LexW.tq c p = LexW.tq b p := LexW.pass_loc h _ p rfl key
            have e2 : LexW.tpl c p = LexW.tpl b p := by unfold LexW.tpl; rw [e1]; exact (h.cut p _ (Nat.le_of_lt key)).symm
            have e3 := h.at key
            rw [e1, e2, ← e3, if_pos hg, if_neg (by rintro ⟨x, y⟩; exact hbad ⟨x, .inl h32.1⟩), if_pos ⟨by omega, h32.2⟩, if_pos hlen]
            by_cases h34 : LexW.at_ b (LexW.tq b p) = 34
            · rw [if_pos h34] at hm ⊢; exact hm
            · rw [if_neg h34] at hm ⊢
              rcases hes : LexW.escape b (LexW.tq b p + 1) with ⟨r8, n8, q8⟩
              simp only [hes] at hm
              cases r8 with
              | some e => simp only [Option.isSome_some, if_true] at hm; cases hm
              | none =>
                simp only [Option.isSome_none, Bool.false_eq_true, if_false] at hm
                obtain ⟨o3, ho3, hm⟩ := Option.bind_eq_some_iff.mp hm
                have := LexW.text_ge b k hm
                have hes' := LexW.escape_loc h hes (by omega)
                simp only [hes', Option.isSome_none, Bool.false_eq_true, if_false, ho3, Option.bind_some]
                exact ih hm hq
          · cases hm
        · cases hm
    · cases hm
theorem LexW.next_loc {b c : List Int} {k : Nat} {rk : Int} {rx : List Int} {rf rt2 rn : Nat} {re : Int} (hmb : b.length < 140737488355328) (hmc : c.length < 140737488355328) (hn : LexW.next b k 0 = some (rk, rx, rf, rt2, rn, re)) (he : re = 0) (h0 : rk ≠ 0) (h2 : rk ≠ 2) (h : LexW.Ag b c rt2) : LexW.next c k 0 = some (rk, rx, rf, rt2, rn, re) := by
  unfold LexW.next at hn ⊢
  rw [if_neg (by decide), if_neg (by omega)] at hn ⊢
  obtain ⟨⟨rt, kt, txt, ft, et⟩, htk, hn⟩ := Option.bind_eq_some_iff.mp hn
  rw [show (0 : Int).toNat = 0 from rfl] at htk ⊢
  cases rt with
  | some e => obtain ⟨_, _, _, _, _, h6⟩ := LexW.inj6 hn; omega
  | none =>
    obtain ⟨f1, f2, f3, f4, f5, f6⟩ := LexW.inj6 hn
    dsimp only at f1 f2 f3 f4
    subst f1; subst f2; subst f3; subst f4; subst f5; subst f6
    have key : LexW.token c k 0 = some (none, kt, txt, ft, et) := by
      unfold LexW.token at htk ⊢
      obtain ⟨⟨r, kd, out, q⟩, hsw, htk⟩ := Option.bind_eq_some_iff.mp htk
      dsimp only at htk
      cases r with
      | some e => simp only [Option.isSome_some, if_true, Option.some.injEq, Prod.mk.injEq] at htk; cases htk.1
      | none =>
        simp only [Option.isSome_none, Bool.false_eq_true, if_false, Option.some.injEq, Prod.mk.injEq] at htk
        obtain ⟨_, e2, e3, e4, e5⟩ := htk
        subst e2; subst e4; subst e5
        have hgt := LexW.sw_gt hsw h0
        have hp : LexW.pass LexW.blank c 0 = LexW.pass LexW.blank b 0 := LexW.pass_loc h _ 0 rfl (by omega)
        have hat := h.at (show LexW.pass LexW.blank b 0 < q by omega)
        have hb := h.1
        have hc := h.2.1
        rw [hp]
        have hsw' : LexW.sw c k (LexW.pass LexW.blank b 0) = some (none, kd, out, q) := by
          obtain ⟨P, hP⟩ : ∃ P, P = LexW.pass LexW.blank b 0 := ⟨_, rfl⟩
          rw [← hP] at hsw hat hgt ⊢
          unfold LexW.sw at hsw ⊢
          rw [if_pos (by omega)] at hsw ⊢
          rw [← hat]
          split at hsw
          · rename_i hs; rw [if_pos hs]; exact hsw
          · rename_i hs
            rw [if_neg hs]
            split at hsw
            · rename_i hs; rw [if_pos hs]; obtain ⟨a1, a2, a3, a4⟩ := LexW.inj4 hsw; rw [LexW.exactly_loc _ h (Prod.ext a1 a4) (Nat.le_refl _), ← a2, ← a3]
            · rename_i hs
              rw [if_neg hs]
              split at hsw
              · rename_i hs; rw [if_pos hs]; obtain ⟨a1, a2, a3, a4⟩ := LexW.inj4 hsw; rw [LexW.exactly_loc _ h (Prod.ext a1 a4) (Nat.le_refl _), ← a2, ← a3]
              · rename_i hs
                rw [if_neg hs]
                split at hsw
                · rename_i hs; rw [if_pos hs]; obtain ⟨a1, a2, a3, a4⟩ := LexW.inj4 hsw; rw [LexW.exactly_loc _ h (Prod.ext a1 a4) (Nat.le_refl _), ← a2, ← a3]
                · rename_i hs
                  rw [if_neg hs]
                  split at hsw
                  · obtain ⟨_, a2, _, _⟩ := LexW.inj4 hsw; exact absurd a2.symm h2
                  · rename_i hs
                    rw [if_neg hs]
                    split at hsw
                    · rename_i hs
                      rw [if_pos hs]
                      obtain ⟨⟨t1, t2, t3⟩, ht, hsw⟩ := Option.bind_eq_some_iff.mp hsw
                      obtain ⟨a1, a2, a3, a4⟩ := LexW.inj4 hsw
                      dsimp only at a1 a3 a4
                      subst a1; subst a4
                      rw [LexW.text_loc hmb hmc h k ht (Nat.le_refl _)]
                      exact hsw
                    · cases hsw
        rw [hsw']
        simp only [Option.bind_some, Option.isSome_none, Bool.false_eq_true, if_false, Option.some.injEq, Prod.mk.injEq, true_and, and_true]
        rw [← e3]
        by_cases k1 : kd = 1
        · rw [if_pos k1, if_pos k1]
        · rw [if_neg k1, if_neg k1]; unfold LexW.cut; exact (h.cut _ _ (Nat.le_refl _)).symm
    rw [key]
    rfl
theorem LexW.next_total2 (l : List Int) (hm : l.length < 140737488355300) (k : Nat) (hk : l.length < k) (a : Int) : ∃ r, LexW.next l k a = some r := by
  unfold LexW.next
  split
  · exact ⟨_, rfl⟩
  · split
    · exact ⟨_, rfl⟩
    · have hp : LexW.pass LexW.blank l a.toNat ≤ l.length := LexW.pass_le _ _ _ _ rfl (by omega)
      have hsw : ∃ s, LexW.sw l k (LexW.pass LexW.blank l a.toNat) = some s := by
        unfold LexW.sw
        repeat' split
        all_goals first | exact ⟨_, rfl⟩ | skip
        obtain ⟨r, hr⟩ := LexW.text_total l hm k [] (LexW.pass LexW.blank l a.toNat + 1) (by omega) (by simp) (by omega)
        rw [hr]
        exact ⟨_, rfl⟩
      obtain ⟨s, hs⟩ := hsw
      unfold LexW.token
      rw [hs]
      simp only [Option.bind_some]
      split
      · simp only [Option.bind_some]
        split <;> exact ⟨_, rfl⟩
      · exact ⟨_, rfl⟩

-- GIVEN plain making
theorem LexW.must_some {T : Int → Bool} {b : List Int} {p n q1 : Nat} (hm : LexW.must T b p = (some n, q1)) : n = p + 1 ∧ q1 = p ∧ (p < b.length → T (LexW.at_ b p) = false) := by
  unfold LexW.must at hm
  split at hm
  · split at hm
    · cases hm
    · rename_i h2
      cases hm
      exact ⟨rfl, rfl, fun _ => by simpa using h2⟩
  · cases hm
    exact ⟨rfl, rfl, fun h => by omega⟩
theorem LexW.must_none {T : Int → Bool} {b : List Int} {p q1 : Nat} (hm : LexW.must T b p = (none, q1)) : q1 = p + 1 ∧ p < b.length ∧ T (LexW.at_ b p) = true := by
  unfold LexW.must at hm
  split at hm
  · split at hm
    · rename_i h1 h2
      cases hm
      exact ⟨rfl, h1, h2⟩
    · cases hm
  · cases hm
theorem LexW.must_bad {T : Int → Bool} {b c : List Int} {q p n q1 : Nat} (h : LexW.Ag b c q) (hm : LexW.must T b p = (some n, q1)) (hn : n ≤ q) : LexW.must T c p = (some n, q1) := by
  obtain ⟨h1, h2, h3⟩ := LexW.must_some hm
  have hb := h.1
  have hc := h.2.1
  subst h1; subst h2
  have h4 := h3 (by omega)
  rw [h.at (by omega)] at h4
  unfold LexW.must
  rw [if_pos (by omega), if_neg (by rw [h4]; decide)]
theorem LexW.exactly_some : ∀ (l : List Int) {b : List Int} {p n q1 : Nat}, LexW.exactly l b p = (some n, q1) → n = q1 + 1 ∧ p ≤ q1 := by
  intro l
  induction l with
  | nil => intro b p n q1 hm; rw [LexW.exactly] at hm; cases hm
  | cons x l ih =>
    intro b p n q1 hm
    rw [LexW.exactly] at hm
    rcases hmu : LexW.must (fun y => y == x) b p with ⟨r1, p1⟩
    rw [hmu] at hm
    cases r1 with
    | some e =>
      simp only [Option.isSome_some, if_true] at hm
      obtain ⟨a1, a2, _⟩ := LexW.must_some hmu
      cases hm
      omega
    | none =>
      simp only [Option.isSome_none, Bool.false_eq_true, if_false] at hm
      obtain ⟨a1, _, _⟩ := LexW.must_none hmu
      have := ih hm
      omega
theorem LexW.exactly_bad : ∀ (l : List Int) {b c : List Int} {q p n q1 : Nat}, LexW.Ag b c q → LexW.exactly l b p = (some n, q1) → n ≤ q → LexW.exactly l c p = (some n, q1) := by
  intro l
  induction l with
  | nil => intro b c q p n q1 h hm hn; rw [LexW.exactly] at hm; cases hm
  | cons x l ih =>
    intro b c q p n q1 h hm hn
    rw [LexW.exactly] at hm ⊢
    rcases hmu : LexW.must (fun y => y == x) b p with ⟨r1, p1⟩
    rw [hmu] at hm
    cases r1 with
    | some e =>
      simp only [Option.isSome_some, if_true] at hm
      cases hm
      rw [LexW.must_bad h hmu hn]
      rfl
    | none =>
      simp only [Option.isSome_none, Bool.false_eq_true, if_false] at hm
      have := LexW.exactly_some _ hm
      rw [LexW.must_loc h hmu (by omega)]
      simp only [Option.isSome_none, Bool.false_eq_true, if_false]
      exact ih h hm hn
theorem LexW.may_at {of b : List Int} {p : Nat} : (LexW.may of b p = (true, p + 1) ∧ p < b.length ∧ of.contains (LexW.at_ b p) = true) ∨ (LexW.may of b p = (false, p) ∧ (p < b.length → of.contains (LexW.at_ b p) = false)) := by
  unfold LexW.may
  split
  · split
    · rename_i h1 h2; exact .inl ⟨rfl, h1, h2⟩
    · rename_i h1 h2; exact .inr ⟨rfl, fun _ => by simpa using h2⟩
  · rename_i h1; exact .inr ⟨rfl, fun h => absurd h h1⟩
theorem LexW.may_same {of b c : List Int} {p : Nat} (h1 : p < b.length) (h2 : p < c.length) (h3 : LexW.at_ b p = LexW.at_ c p) : LexW.may of c p = LexW.may of b p := by
  unfold LexW.may
  rw [if_pos h1, if_pos h2, h3]
theorem LexW.digits_some {b : List Int} {p n q1 : Nat} (h : LexW.digits b p = (some n, q1)) : n = p + 1 ∧ (p < b.length → LexW.digit (LexW.at_ b p) = false) := by
  unfold LexW.digits at h
  have h1 := congrArg Prod.fst h
  dsimp only at h1
  obtain ⟨a1, _, a3⟩ := LexW.must_some (T := LexW.digit) (b := b) (p := p) (Prod.ext h1 rfl)
  exact ⟨a1, a3⟩
theorem LexW.digits_bad {b c : List Int} {q p n q1 : Nat} (h : LexW.Ag b c q) (hm : LexW.digits b p = (some n, q1)) (hn : n ≤ q) : (LexW.digits c p).1 = some n := by
  unfold LexW.digits at hm ⊢
  have h1 := congrArg Prod.fst hm
  dsimp only at h1 ⊢
  rw [LexW.must_bad h (Prod.ext h1 rfl) hn]
theorem LexW.digits_none {b : List Int} {p q1 : Nat} (h : LexW.digits b p = (none, q1)) : p < b.length ∧ LexW.digit (LexW.at_ b p) = true ∧ q1 = LexW.pass LexW.digit b (p + 1) ∧ p + 1 ≤ q1 := by
  unfold LexW.digits at h
  have h1 := congrArg Prod.fst h
  have h2 : LexW.pass LexW.digit b (LexW.must LexW.digit b p).2 = q1 := congrArg Prod.snd h
  dsimp only at h1
  have hmu : LexW.must LexW.digit b p = (none, (LexW.must LexW.digit b p).2) := Prod.ext h1 rfl
  obtain ⟨a1, a2, a3⟩ := LexW.must_none hmu
  rw [a1] at h2
  have := LexW.le_pass LexW.digit b _ (p + 1) rfl
  exact ⟨a2, a3, h2.symm, by omega⟩
theorem LexW.digits_loc {b c : List Int} {q p q1 : Nat} (h : LexW.Ag b c q) (hm : LexW.digits b p = (none, q1)) (hq : q1 < q) : LexW.digits c p = (none, q1) := by
  obtain ⟨a1, a2, a3, a4⟩ := LexW.digits_none hm
  have hc := h.2.1
  have e : LexW.must LexW.digit c p = (none, p + 1) := by
    unfold LexW.must
    rw [if_pos (by omega), ← h.at (by omega), if_pos a2]
  unfold LexW.digits
  rw [e]
  dsimp only
  rw [LexW.pass_loc h _ (p + 1) rfl (by omega), ← a3]
theorem LexW.int_loc {b c : List Int} {q p q1 : Nat} (h : LexW.Ag b c q) (hm : LexW.int_ b p = (none, q1)) (hq : q1 < q) : LexW.int_ c p = (none, q1) := by
  have hb := h.1
  have hc := h.2.1
  rcases LexW.may_at (of := [48]) (b := b) (p := p) with ⟨e, h1, h2⟩ | ⟨e, h1⟩
  · unfold LexW.int_ at hm ⊢
    rw [e] at hm
    simp only [if_true] at hm
    cases hm
    rw [LexW.may_same (of := [48]) h1 (by omega) (h.at (by omega)), e]
    rfl
  · unfold LexW.int_ at hm ⊢
    rw [e] at hm
    simp only [Bool.false_eq_true, if_false] at hm
    have := LexW.digits_none hm
    rw [LexW.may_same (of := [48]) this.1 (by omega) (h.at (by omega)), e]
    simp only [Bool.false_eq_true, if_false]
    exact LexW.digits_loc h hm hq
theorem LexW.frac_loc {b c : List Int} {q p q1 : Nat} (h : LexW.Ag b c q) (hm : LexW.frac b p = (none, q1)) (hq : q1 < q) (hp : p ≤ q1) : LexW.frac c p = (none, q1) := by
  have hb := h.1
  have hc := h.2.1
  have e0 := LexW.may_same (of := [46]) (b := b) (c := c) (p := p) (by omega) (by omega) (h.at (by omega))
  unfold LexW.frac at hm ⊢
  rw [e0]
  split at hm
  · rename_i h1
    rw [if_pos h1]
    exact LexW.digits_loc h hm hq
  · rename_i h1
    rw [if_neg h1]
    exact hm
/-- Where a number falls. -/
theorem LexW.number_some {b : List Int} {p n q1 : Nat} (h : LexW.number b p = (some n, q1)) :
    ∃ p1, LexW.may [45] b p = (decide (p1 = p + 1), p1) ∧ ((∃ p2, LexW.may [48] b p1 = (false, p1) ∧ LexW.digits b p1 = (some n, p2) ∧ n = p1 + 1) ∨
    ∃ p2, LexW.int_ b p1 = (none, p2) ∧ p1 < p2 ∧ ((∃ p3, LexW.may [46] b p2 = (true, p2 + 1) ∧ LexW.digits b (p2 + 1) = (some n, p3) ∧ n = p2 + 2) ∨
    ∃ p3 m p4 p5, LexW.frac b p2 = (none, p3) ∧ p2 ≤ p3 ∧ LexW.may [101, 69] b p3 = (true, p3 + 1) ∧ LexW.may [43, 45] b (p3 + 1) = (m, p4) ∧ LexW.digits b p4 = (some n, p5) ∧ n = p4 + 1 ∧ p3 + 1 ≤ p4)) := by
  obtain ⟨p1, hp1⟩ : ∃ x, LexW.may [45] b p = (decide (x = p + 1), x) := by
    rcases LexW.may_at (of := [45]) (b := b) (p := p) with ⟨e, _⟩ | ⟨e, _⟩
    · exact ⟨p + 1, by rw [e]; simp⟩
    · exact ⟨p, by rw [e]; simp⟩
  refine ⟨p1, hp1, ?_⟩
  unfold LexW.number at h
  rw [hp1] at h
  dsimp only at h
  rcases hi : LexW.int_ b p1 with ⟨r2, p2⟩
  rw [hi] at h
  cases r2 with
  | some e =>
    simp only [Option.isSome_some, if_true] at h
    cases h
    left
    unfold LexW.int_ at hi
    rcases LexW.may_at (of := [48]) (b := b) (p := p1) with ⟨e, _⟩ | ⟨e, _⟩
    · rw [e] at hi; simp only [if_true] at hi; cases hi
    · rw [e] at hi
      simp only [Bool.false_eq_true, if_false] at hi
      exact ⟨_, e, hi, (LexW.digits_some hi).1⟩
  | none =>
    simp only [Option.isSome_none, Bool.false_eq_true, if_false] at h
    right
    have h12 : p1 < p2 := by
      unfold LexW.int_ at hi
      rcases LexW.may_at (of := [48]) (b := b) (p := p1) with ⟨e, _⟩ | ⟨e, _⟩
      · rw [e] at hi; simp only [if_true] at hi; cases hi; omega
      · rw [e] at hi
        simp only [Bool.false_eq_true, if_false] at hi
        have := (LexW.digits_none hi).2.2.2
        omega
    refine ⟨p2, rfl, h12, ?_⟩
    rcases hf : LexW.frac b p2 with ⟨r3, p3⟩
    rw [hf] at h
    cases r3 with
    | some e =>
      simp only [Option.isSome_some, if_true] at h
      cases h
      left
      unfold LexW.frac at hf
      rcases LexW.may_at (of := [46]) (b := b) (p := p2) with ⟨e, _⟩ | ⟨e, _⟩
      · rw [e] at hf
        simp only [if_true] at hf
        exact ⟨_, e, hf, (LexW.digits_some hf).1⟩
      · rw [e] at hf; simp only [Bool.false_eq_true, if_false] at hf; cases hf
    | none =>
      simp only [Option.isSome_none, Bool.false_eq_true, if_false] at h
      right
      have h23 : p2 ≤ p3 := by
        unfold LexW.frac at hf
        rcases LexW.may_at (of := [46]) (b := b) (p := p2) with ⟨e, _⟩ | ⟨e, _⟩
        · rw [e] at hf
          simp only [if_true] at hf
          have := (LexW.digits_none hf).2.2.2
          omega
        · rw [e] at hf; simp only [Bool.false_eq_true, if_false] at hf; cases hf; omega
      unfold LexW.expo at h
      rcases LexW.may_at (of := [101, 69]) (b := b) (p := p3) with ⟨e, _⟩ | ⟨e, _⟩
      · rw [e] at h
        simp only [if_true] at h
        rcases hs : LexW.may [43, 45] b (p3 + 1) with ⟨m, p4⟩
        rw [hs] at h
        dsimp only at h
        refine ⟨p3, m, p4, q1, rfl, h23, e, hs, h, (LexW.digits_some h).1, ?_⟩
        rcases LexW.may_at (of := [43, 45]) (b := b) (p := p3 + 1) with ⟨e, _⟩ | ⟨e, _⟩
        · rw [e] at hs; cases hs; omega
        · rw [e] at hs; cases hs; omega
      · rw [e] at h; simp only [Bool.false_eq_true, if_false] at h; cases h
/-- Putting a number together. -/
theorem LexW.number_some1 {b : List Int} {p n p1 : Nat} (h1 : (LexW.may [45] b p).2 = p1) (h2 : (LexW.may [48] b p1).1 = false) (h3 : (LexW.may [48] b p1).2 = p1) (h4 : (LexW.digits b p1).1 = some n) : (LexW.number b p).1 = some n := by
  unfold LexW.number
  have e : LexW.int_ b p1 = LexW.digits b p1 := by unfold LexW.int_; rw [h2, h3]; rfl
  rw [h1, e, h4]
  simp only [Option.isSome_some, if_true]
  exact h4
theorem LexW.number_some2 {b : List Int} {p n p1 p2 : Nat} (h1 : (LexW.may [45] b p).2 = p1) (h2 : LexW.int_ b p1 = (none, p2)) (h3 : LexW.may [46] b p2 = (true, p2 + 1)) (h4 : (LexW.digits b (p2 + 1)).1 = some n) : (LexW.number b p).1 = some n := by
  unfold LexW.number
  have e : LexW.frac b p2 = LexW.digits b (p2 + 1) := by unfold LexW.frac; rw [h3]; rfl
  rw [h1, h2]
  simp only [Option.isSome_none, Bool.false_eq_true, if_false]
  rw [e, h4]
  simp only [Option.isSome_some, if_true]
  exact h4
theorem LexW.number_via3 {b : List Int} {p p1 p2 p3 p4 : Nat} (h1 : (LexW.may [45] b p).2 = p1) (h2 : LexW.int_ b p1 = (none, p2)) (h3 : LexW.frac b p2 = (none, p3)) (h4 : LexW.may [101, 69] b p3 = (true, p3 + 1)) (h5 : (LexW.may [43, 45] b (p3 + 1)).2 = p4) : LexW.number b p = LexW.digits b p4 := by
  unfold LexW.number
  rw [h1, h2]
  simp only [Option.isSome_none, Bool.false_eq_true, if_false]
  rw [h3]
  simp only [Option.isSome_none, Bool.false_eq_true, if_false]
  unfold LexW.expo
  rw [h4]
  simp only [if_true]
  rw [h5]
theorem LexW.number_bad {b c : List Int} {q p n q1 : Nat} (h : LexW.Ag b c q) (hm : LexW.number b p = (some n, q1)) (hn : n ≤ q) (hp : p < q) : (LexW.number c p).1 = some n := by
  have hb := h.1
  have hc := h.2.1
  obtain ⟨p1, m1, hh⟩ := LexW.number_some hm
  have e1 : LexW.may [45] c p = LexW.may [45] b p := LexW.may_same (by omega) (by omega) (h.at hp)
  have f1 : (LexW.may [45] c p).2 = p1 := by rw [e1, m1]
  rcases hh with ⟨p2, a1, a2, a3⟩ | ⟨p2, a1, a2, a3⟩
  · have e2 : LexW.may [48] c p1 = LexW.may [48] b p1 := LexW.may_same (by omega) (by omega) (h.at (by omega))
    exact LexW.number_some1 f1 (by rw [e2, a1]) (by rw [e2, a1]) (LexW.digits_bad h a2 hn)
  · rcases a3 with ⟨p3, b1, b2, b3⟩ | ⟨p3, m, p4, p5, b1, b2, b3, b4, b5, b6, b7⟩
    · have e2 : LexW.may [46] c p2 = LexW.may [46] b p2 := LexW.may_same (by omega) (by omega) (h.at (by omega))
      exact LexW.number_some2 f1 (LexW.int_loc h a1 (by omega)) (by rw [e2, b1]) (LexW.digits_bad h b2 hn)
    · have e2 : LexW.may [101, 69] c p3 = LexW.may [101, 69] b p3 := LexW.may_same (by omega) (by omega) (h.at (by omega))
      have e3 : LexW.may [43, 45] c (p3 + 1) = LexW.may [43, 45] b (p3 + 1) := LexW.may_same (by omega) (by omega) (h.at (by omega))
      rw [LexW.number_via3 f1 (LexW.int_loc h a1 (by omega)) (LexW.frac_loc h b1 (by omega) b2) (by rw [e2, b3]) (by rw [e3, b4])]
      exact LexW.digits_bad h b5 hn
theorem LexW.four_some (T : Nat → Int → Bool) {b : List Int} : ∀ (k i : Nat) (n : Int) {p m q1 : Nat} {nr : Int}, LexW.four T b k i n p = (some m, nr, q1) → m = q1 + 1 ∧ p ≤ q1 := by
  intro k
  induction k with
  | zero => intro i n p m q1 nr hm; rw [LexW.four] at hm; cases hm
  | succ k ih =>
    intro i n p m q1 nr hm
    rw [LexW.four] at hm
    repeat' split at hm
    · have := ih _ _ hm; omega
    all_goals (cases hm; omega)
theorem LexW.four_bad (T : Nat → Int → Bool) {b c : List Int} {q : Nat} (h : LexW.Ag b c q) : ∀ (k i : Nat) (n : Int) {p m q1 : Nat} {nr : Int}, LexW.four T b k i n p = (some m, nr, q1) → m ≤ q → LexW.four T c k i n p = (some m, nr, q1) := by
  intro k
  induction k with
  | zero => intro i n p m q1 nr hm hq; rw [LexW.four] at hm; cases hm
  | succ k ih =>
    intro i n p m q1 nr hm hq
    have hb := h.1
    have hc := h.2.1
    have hs := LexW.four_some T _ _ _ hm
    rw [LexW.four] at hm ⊢
    rw [if_pos (by omega)] at hm ⊢
    rw [← h.at (by omega)]
    split at hm
    · rename_i h1
      rw [if_pos h1]
      split at hm
      · rename_i h2
        rw [if_pos h2]
        exact ih _ _ hm hq
      · rename_i h2
        rw [if_neg h2]
        exact hm
    · rename_i h1
      rw [if_neg h1]
      exact hm
theorem LexW.tail2_bad {b c : List Int} {q p n q1 : Nat} {hi v : Int} (h : LexW.Ag b c q) (hm : LexW.tail2 b hi p = (some n, v, q1)) (hn : n ≤ q) : LexW.tail2 c hi p = (some n, v, q1) := by
  unfold LexW.tail2 at hm ⊢
  rcases h6 : LexW.exactly [92, 117] b p with ⟨r6, q6⟩
  simp only [h6] at hm
  cases r6 with
  | some e =>
    simp only [Option.isSome_some, if_true] at hm
    cases hm
    have h6' := LexW.exactly_bad [92, 117] h h6 hn
    simp only [h6', Option.isSome_some, if_true]
  | none =>
    simp only [Option.isSome_none, Bool.false_eq_true, if_false] at hm
    rcases h7 : LexW.four LexW.T2 b 4 0 0 q6 with ⟨r7, lo, q7⟩
    simp only [h7] at hm
    cases r7 with
    | some e =>
      simp only [Option.isSome_some, if_true] at hm
      cases hm
      have g := LexW.four_some _ _ _ _ h7
      have h6' := LexW.exactly_loc [92, 117] h h6 (by omega)
      have h7' := LexW.four_bad LexW.T2 h 4 0 0 h7 hn
      simp only [h6', h7', Option.isSome_none, Option.isSome_some, Bool.false_eq_true, if_false, if_true]
    | none =>
      simp only [Option.isSome_none, Bool.false_eq_true, if_false] at hm
      cases hm
theorem LexW.tail2_some {b : List Int} {p n q1 : Nat} {hi v : Int} (hm : LexW.tail2 b hi p = (some n, v, q1)) : n = q1 + 1 ∧ p ≤ q1 := by
  unfold LexW.tail2 at hm
  rcases h6 : LexW.exactly [92, 117] b p with ⟨r6, q6⟩
  simp only [h6] at hm
  cases r6 with
  | some e =>
    simp only [Option.isSome_some, if_true] at hm
    cases hm
    exact LexW.exactly_some _ h6
  | none =>
    simp only [Option.isSome_none, Bool.false_eq_true, if_false] at hm
    have g6 := LexW.exactly_ge _ h6
    rcases h7 : LexW.four LexW.T2 b 4 0 0 q6 with ⟨r7, lo, q7⟩
    simp only [h7] at hm
    cases r7 with
    | some e =>
      simp only [Option.isSome_some, if_true] at hm
      cases hm
      have g := LexW.four_some _ _ _ _ h7
      omega
    | none =>
      simp only [Option.isSome_none, Bool.false_eq_true, if_false] at hm
      cases hm
/-- Where an escape falls. -/
theorem LexW.escape_some {b : List Int} {p n q1 : Nat} {v : Int} (hm : LexW.escape b p = (some n, v, q1)) :
    n = q1 + 1 ∧ p ≤ q1 ∧ ((n = p + 1 ∧ (p < b.length → LexW.idx (LexW.at_ b p) LexW.escFrom < 0 ∧ LexW.at_ b p ≠ 117)) ∨
    (p < b.length ∧ LexW.at_ b p = 117 ∧ ((∃ v', LexW.four LexW.T1 b 4 0 0 (p + 1) = (some n, v', q1)) ∨ ∃ hi q3, LexW.four LexW.T1 b 4 0 0 (p + 1) = (none, hi, q3) ∧ 55296 ≤ hi ∧ hi ≤ 57343 ∧ LexW.tail2 b hi q3 = (some n, v, q1)))) := by
  unfold LexW.escape at hm
  split at hm
  · rename_i hlt
    split at hm
    · cases hm
    · rename_i hidx
      unfold LexW.uesc at hm
      rcases h2 : LexW.exactly [117] b p with ⟨r2, q2⟩
      simp only [h2] at hm
      have h2' := h2
      rw [LexW.exactly] at h2'
      rcases hmu : LexW.must (fun y => y == 117) b p with ⟨r1, p1⟩
      rw [hmu] at h2'
      cases r2 with
      | some e =>
        simp only [Option.isSome_some, if_true] at hm
        cases hm
        have g := LexW.exactly_some _ h2
        cases r1 with
        | some e1 =>
          obtain ⟨a1, a2, a3⟩ := LexW.must_some hmu
          simp only [Option.isSome_some, if_true] at h2'
          cases h2'
          exact ⟨g.1, g.2, .inl ⟨a1, fun hh => ⟨by omega, by simpa using a3 hh⟩⟩⟩
        | none =>
          simp only [Option.isSome_none, Bool.false_eq_true, if_false, LexW.exactly] at h2'
          cases h2'
      | none =>
        simp only [Option.isSome_none, Bool.false_eq_true, if_false] at hm
        cases r1 with
        | some e1 => simp only [Option.isSome_some, if_true] at h2'; cases h2'
        | none =>
          obtain ⟨a1, a2, a3⟩ := LexW.must_none hmu
          simp only [Option.isSome_none, Bool.false_eq_true, if_false, LexW.exactly] at h2'
          cases h2'
          subst a1
          have a4 : LexW.at_ b p = 117 := by simpa using a3
          rcases h3 : LexW.four LexW.T1 b 4 0 0 (p + 1) with ⟨r3, hi, q3⟩
          simp only [h3] at hm
          cases r3 with
          | some e =>
            simp only [Option.isSome_some, if_true] at hm
            cases hm
            have g := LexW.four_some _ _ _ _ h3
            exact ⟨g.1, by omega, .inr ⟨hlt, a4, .inl ⟨_, rfl⟩⟩⟩
          | none =>
            simp only [Option.isSome_none, Bool.false_eq_true, if_false] at hm
            have g3 := LexW.four_ge _ _ _ _ _ h3
            split at hm
            · cases hm
            · split at hm
              · cases hm
              · have g := LexW.tail2_some hm
                exact ⟨g.1, by omega, .inr ⟨hlt, a4, .inr ⟨hi, q3, rfl, by omega, by omega, hm⟩⟩⟩
  · cases hm
    exact ⟨rfl, Nat.le_refl _, .inl ⟨rfl, fun h => by omega⟩⟩
/-- An escape's reading, told by its parts. -/
theorem LexW.escape_u {c : List Int} {p : Nat} (h1 : p < c.length) (h2 : LexW.at_ c p = 117) : LexW.escape c p = (if (LexW.four LexW.T1 c 4 0 0 (p + 1)).1.isSome = true then LexW.four LexW.T1 c 4 0 0 (p + 1) else if (LexW.four LexW.T1 c 4 0 0 (p + 1)).2.1 < 55296 then LexW.four LexW.T1 c 4 0 0 (p + 1) else if (LexW.four LexW.T1 c 4 0 0 (p + 1)).2.1 > 57343 then LexW.four LexW.T1 c 4 0 0 (p + 1) else LexW.tail2 c (LexW.four LexW.T1 c 4 0 0 (p + 1)).2.1 (LexW.four LexW.T1 c 4 0 0 (p + 1)).2.2) := by
  unfold LexW.escape
  rw [if_pos h1, h2, if_neg (by decide)]
  unfold LexW.uesc
  have e : LexW.exactly [117] c p = (none, p + 1) := by rw [RefP.ev_exactly1, if_pos h1, if_pos h2]
  rw [e]
  simp only [Option.isSome_none, Bool.false_eq_true, if_false]
theorem LexW.escape_bad {b c : List Int} {q p n q1 : Nat} {v : Int} (h : LexW.Ag b c q) (hm : LexW.escape b p = (some n, v, q1)) (hn : n ≤ q) : (LexW.escape c p).1 = some n := by
  have hb := h.1
  have hc := h.2.1
  obtain ⟨g1, g2, hh⟩ := LexW.escape_some hm
  rcases hh with ⟨a1, a2⟩ | ⟨a1, a2, hh⟩
  · obtain ⟨a3, a4⟩ := a2 (by omega)
    rw [h.at (by omega)] at a3 a4
    unfold LexW.escape
    rw [if_pos (by omega), if_neg (by omega)]
    unfold LexW.uesc
    have e : LexW.exactly [117] c p = (some (p + 1), p) := by rw [RefP.ev_exactly1, if_pos (by omega), if_neg a4]
    rw [e, a1]
    rfl
  · rw [LexW.escape_u (by omega) (by rw [← h.at (by omega)]; exact a2)]
    rcases hh with ⟨v', h3⟩ | ⟨hi, q3, h3, k1, k2, h4⟩
    · rw [LexW.four_bad LexW.T1 h 4 0 0 h3 hn]
      rfl
    · have g := LexW.tail2_some h4
      rw [LexW.four_loc LexW.T1 h 4 0 0 h3 (by omega)]
      simp only [Option.isSome_none, Bool.false_eq_true, if_false]
      rw [if_neg (by omega), if_neg (by omega), LexW.tail2_bad h h4 hn]

-- GIVEN plain making
/-- A round of text, told without the program. -/
theorem LexW.text_eq {b : List Int} (hb : b.length < 140737488355328) (k : Nat) (o : List Int) (p : Nat) :
    LexW.text b (k + 1) o p = (if (Utf.good (LexW.tpl b p)).2 = false ∧ (LexW.tq b p < b.length ∨ (Utf.good (LexW.tpl b p)).1 < (LexW.tpl b p).length) then some (some (p + (Utf.good (LexW.tpl b p)).1.toNat + 1), [], LexW.tq b p)
      else if LexW.tq b p < b.length ∧ 32 ≤ LexW.at_ b (LexW.tq b p) then
        (if o.length + (LexW.tpl b p).length < 140737488355328 then
          (if LexW.at_ b (LexW.tq b p) = 34 then some (none, o ++ LexW.tpl b p, LexW.tq b p + 1)
          else if (LexW.escape b (LexW.tq b p + 1)).1.isSome = true then some ((LexW.escape b (LexW.tq b p + 1)).1, [], (LexW.escape b (LexW.tq b p + 1)).2.2)
          else (utf_Put.f (o ++ LexW.tpl b p) (LexW.escape b (LexW.tq b p + 1)).2.1).bind fun o => LexW.text b k o.1 (LexW.escape b (LexW.tq b p + 1)).2.2)
        else none)
      else some (some (LexW.tq b p + 1), [], LexW.tq b p)) := by
  have hl : (LexW.tpl b p).length ≤ b.length := by unfold LexW.tpl; rw [List.length_drop, List.length_take]; omega
  obtain ⟨m, e1, e2, _⟩ := Pure.run_prefix (LexW.tpl b p) 0 128 191 0
  have e3 : (Utf.good (LexW.tpl b p)).1 = (m : Int) := by unfold Utf.good; omega
  rw [LexW.text, Pure.utf_Points.good_k _ (by omega) _ (by omega)]
  simp only [Option.bind_some]
  rw [if_pos ⟨by omega, by omega⟩]
theorem LexP.st_take {l : List Int} {s : Int × Int × Int} {m j : Nat} (h : (Pure.st (l.take m) s).isSome = true) (hj : j ≤ m) : (Pure.st (l.take j) s).isSome = true := by
  have e : l.take m = l.take j ++ (l.take m).drop j := by
    have := (List.take_append_drop j (l.take m)).symm
    rw [List.take_take, Nat.min_eq_left hj] at this
    exact this
  rw [e, Pure.st_append] at h
  cases h2 : Pure.st (l.take j) s with
  | none => rw [h2] at h; cases h
  | some t => rfl
/-- What the automaton says is told by the bytes it took and one more. -/
theorem LexP.good_cut {l l' : List Int} {m : Nat} (hm : m < l.length) (hm' : m < l'.length) (e : l.take (m + 1) = l'.take (m + 1)) (hg : (Utf.good l).1 = (m : Int)) : Utf.good l' = ((m : Int), false) := by
  obtain ⟨m1, a1, a2, ⟨s1, a3⟩, a4, a5⟩ := Pure.run_prefix l 0 128 191 0
  obtain ⟨m2, b1, b2, ⟨s2, b3⟩, b4, b5⟩ := Pure.run_prefix l' 0 128 191 0
  have c1 : m1 = m := by unfold Utf.good at hg; omega
  subst c1
  have a6 := a4 hm
  have hm2 : m2 = m1 := by
    rcases Nat.lt_trichotomy m2 m1 with h | h | h
    · have h1 := b4 (by omega)
      have h2 : (Pure.st (l.take m1) (0, 128, 191)).isSome = true := by rw [a3]; rfl
      have h3 := LexP.st_take h2 (show m2 + 1 ≤ m1 by omega)
      have e2 : l.take (m2 + 1) = l'.take (m2 + 1) := by
        have := congrArg (List.take (m2 + 1)) e
        rwa [List.take_take, List.take_take, Nat.min_eq_left (by omega)] at this
      rw [e2, h1] at h3
      cases h3
    · exact h
    · have h2 : (Pure.st (l'.take m2) (0, 128, 191)).isSome = true := by rw [b3]; rfl
      have h3 := LexP.st_take h2 (show m1 + 1 ≤ m2 by omega)
      rw [← e, a6] at h3
      cases h3
  subst hm2
  refine Prod.ext ?_ ?_
  · show (Utf.good l').1 = _
    unfold Utf.good
    omega
  · show (Utf.good l').2 = false
    cases h : (Utf.good l').2 with
    | false => rfl
    | true => have := b5 h; omega
theorem LexP.pass_ge {T : Int → Bool} {b : List Int} : ∀ (j p : Nat), (∀ i, i < j → p + i < b.length ∧ T (LexW.at_ b (p + i)) = true) → p + j ≤ LexW.pass T b p := by
  intro j
  induction j with
  | zero => intro p _; have := LexW.le_pass T b _ p rfl; omega
  | succ j ih =>
    intro p h
    have h0 := h 0 (by omega)
    rw [Nat.add_zero] at h0
    rw [LexW.pass, if_pos h0.1, if_pos h0.2]
    have := ih (p + 1) (fun i hi => by have := h (i + 1) (by omega); rwa [show p + 1 + i = p + (i + 1) by omega])
    omega
theorem LexP.pass_all {T : Int → Bool} {b : List Int} : ∀ (n p i : Nat), b.length - p = n → p + i < LexW.pass T b p → p + i < b.length ∧ T (LexW.at_ b (p + i)) = true := by
  intro n
  induction n with
  | zero => intro p i hn h; rw [LexW.pass, if_neg (by omega)] at h; omega
  | succ n ih =>
    intro p i hn h
    rw [LexW.pass, if_pos (by omega)] at h
    split at h
    · rename_i ht
      cases i with
      | zero => exact ⟨by omega, ht⟩
      | succ i =>
        have := ih (p + 1) i (by omega) (by omega)
        rwa [show p + 1 + i = p + (i + 1) by omega] at this
    · omega
theorem LexP.tpl_len {b : List Int} {p : Nat} (hp : p ≤ b.length) : (LexW.tpl b p).length = LexW.tq b p - p ∧ p ≤ LexW.tq b p ∧ LexW.tq b p ≤ b.length := by
  have h1 : LexW.tq b p ≤ b.length := LexW.pass_le _ _ _ _ rfl hp
  have h2 : p ≤ LexW.tq b p := LexW.le_pass _ _ _ _ rfl
  refine ⟨?_, h2, h1⟩
  unfold LexW.tpl
  rw [List.length_drop, List.length_take]
  omega
theorem LexP.good_m (l : List Int) : ∃ m : Nat, (Utf.good l).1 = (m : Int) ∧ m ≤ l.length ∧ ((Utf.good l).2 = true → m = l.length) := by
  obtain ⟨m, e1, e2, _, _, e5⟩ := Pure.run_prefix l 0 128 191 0
  exact ⟨m, by unfold Utf.good; omega, e2, e5⟩
theorem LexW.text_gt {b : List Int} (hmb : b.length < 140737488355328) : ∀ (k : Nat) {o : List Int} {p n : Nat} {out : List Int} {q1 : Nat}, LexW.text b k o p = some (some n, out, q1) → p ≤ b.length → p < n ∧ n ≤ b.length + 1 := by
  intro k
  induction k with
  | zero => intro o p n out q1 hm _; cases hm
  | succ k ih =>
    intro o p n out q1 hm hp
    obtain ⟨t1, t2, t3⟩ := LexP.tpl_len hp
    obtain ⟨g, g1, g2, g3⟩ := LexP.good_m (LexW.tpl b p)
    rw [LexW.text_eq hmb] at hm
    split at hm
    · rw [g1] at hm
      simp only [Int.toNat_natCast, Option.some.injEq, Prod.mk.injEq] at hm
      omega
    · split at hm
      · rename_i h32
        split at hm
        · split at hm
          · cases hm
          · rcases hes : LexW.escape b (LexW.tq b p + 1) with ⟨r8, n8, q8⟩
            simp only [hes] at hm
            have hle := LexW.escape_le hes (by omega)
            cases r8 with
            | some e =>
              simp only [Option.isSome_some, if_true, Option.some.injEq, Prod.mk.injEq] at hm
              have := LexW.escape_some hes
              omega
            | none =>
              simp only [Option.isSome_none, Bool.false_eq_true, if_false] at hm
              obtain ⟨o3, _, hm⟩ := Option.bind_eq_some_iff.mp hm
              have := LexW.escape_gt hes
              have := ih hm hle
              omega
        · cases hm
      · simp only [Option.some.injEq, Prod.mk.injEq] at hm
        omega
theorem LexW.text_bad {b c : List Int} {q : Nat} (hmb : b.length < 140737488355328) (hmc : c.length < 140737488355328) (h : LexW.Ag b c q) : ∀ (k : Nat) {o : List Int} {p n : Nat} {out : List Int} {q1 : Nat}, LexW.text b k o p = some (some n, out, q1) → p ≤ b.length → p ≤ q → n ≤ q → ∃ q2, LexW.text c k o p = some (some n, [], q2) := by
  intro k
  induction k with
  | zero => intro o p n out q1 hm _ _ _; cases hm
  | succ k ih =>
    intro o p n out q1 hm hp hpq hn
    have hb := h.1
    have hc := h.2.1
    obtain ⟨t1, t2, t3⟩ := LexP.tpl_len hp
    obtain ⟨g, g1, g2, g3⟩ := LexP.good_m (LexW.tpl b p)
    rw [LexW.text_eq hmb] at hm
    rw [LexW.text_eq hmc]
    have same : LexW.tq b p < q → LexW.tq c p = LexW.tq b p ∧ LexW.tpl c p = LexW.tpl b p ∧ LexW.at_ c (LexW.tq b p) = LexW.at_ b (LexW.tq b p) := by
      intro hlt
      have e1 : LexW.tq c p = LexW.tq b p := LexW.pass_loc h _ p rfl hlt
      exact ⟨e1, by unfold LexW.tpl; rw [e1]; exact (h.cut p _ (Nat.le_of_lt hlt)).symm, (h.at hlt).symm⟩
    split at hm
    · rename_i hbad
      rw [g1] at hm hbad
      simp only [Int.toNat_natCast, Option.some.injEq, Prod.mk.injEq] at hm
      obtain ⟨n1, _, n2⟩ := hm
      by_cases hgl : g < (LexW.tpl b p).length
      · -- the bad byte is a plain one
        have hpl : ∀ i, i < g + 1 → p + i < c.length ∧ LexW.plain (LexW.at_ c (p + i)) = true := by
          intro i hi
          have := LexP.pass_all (T := LexW.plain) (b := b) _ p i rfl (show p + i < LexW.tq b p by omega)
          rw [h.at (by omega)] at this
          exact ⟨by omega, this.2⟩
        have hge : p + (g + 1) ≤ LexW.tq c p := LexP.pass_ge (g + 1) p hpl
        have hlc : g < (LexW.tpl c p).length := by
          have := LexP.tpl_len (b := c) (p := p) (by omega)
          omega
        have hcut : ∀ (x : List Int), p + (g + 1) ≤ LexW.tq x p → (LexW.tpl x p).take (g + 1) = (x.take (p + (g + 1))).drop p := by
          intro x hx
          unfold LexW.tpl
          rw [List.take_drop, List.take_take, Nat.min_eq_left (by omega)]
        have e : (LexW.tpl b p).take (g + 1) = (LexW.tpl c p).take (g + 1) := by
          rw [hcut b (by omega), hcut c hge]
          exact h.cut p _ (by omega)
        have hgc := LexP.good_cut hgl hlc e g1
        rw [hgc, if_pos ⟨rfl, .inr (by omega)⟩]
        exact ⟨_, by rw [Int.toNat_natCast, n1]⟩
      · have hlt : LexW.tq b p < b.length := by
          rcases hbad.2 with h | h
          · exact h
          · omega
        obtain ⟨e1, e2, e3⟩ := same (by omega)
        rw [e1, e2, g1, if_pos ⟨hbad.1, .inl (by omega)⟩]
        exact ⟨_, by rw [Int.toNat_natCast, n1]⟩
    · rename_i hbad
      split at hm
      · rename_i h32
        split at hm
        · rename_i hlen
          have key : LexW.tq b p < q := by
            split at hm
            · cases hm
            · rcases hes : LexW.escape b (LexW.tq b p + 1) with ⟨r8, n8, q8⟩
              simp only [hes] at hm
              cases r8 with
              | some e =>
                simp only [Option.isSome_some, if_true, Option.some.injEq, Prod.mk.injEq] at hm
                have := LexW.escape_some hes
                omega
              | none =>
                simp only [Option.isSome_none, Bool.false_eq_true, if_false] at hm
                obtain ⟨o3, _, hm⟩ := Option.bind_eq_some_iff.mp hm
                have := LexW.text_gt hmb k hm (LexW.escape_le hes (by omega))
                have := LexW.escape_gt hes
                omega
          obtain ⟨e1, e2, e3⟩ := same key
          rw [e1, e2, e3, if_neg (by rintro ⟨x, y⟩; exact hbad ⟨x, .inl h32.1⟩), if_pos ⟨by omega, h32.2⟩, if_pos hlen]
          by_cases h34 : LexW.at_ b (LexW.tq b p) = 34
          · rw [if_pos h34] at hm; cases hm
          · rw [if_neg h34] at hm ⊢
            rcases hes : LexW.escape b (LexW.tq b p + 1) with ⟨r8, n8, q8⟩
            simp only [hes] at hm
            cases r8 with
            | some e =>
              simp only [Option.isSome_some, if_true, Option.some.injEq, Prod.mk.injEq] at hm
              obtain ⟨m1, _, _⟩ := hm
              subst m1
              have hes' := LexW.escape_bad h hes hn
              rw [hes']
              simp only [Option.isSome_some, if_true]
              exact ⟨_, rfl⟩
            | none =>
              simp only [Option.isSome_none, Bool.false_eq_true, if_false] at hm
              obtain ⟨o3, ho3, hm⟩ := Option.bind_eq_some_iff.mp hm
              have hen := LexW.escape_le hes (by omega)
              have hgt := LexW.text_gt hmb k hm hen
              have hg2 := LexW.escape_gt hes
              have hes' := LexW.escape_loc h hes (by omega)
              simp only [hes', Option.isSome_none, Bool.false_eq_true, if_false, ho3, Option.bind_some]
              exact ih hm (by omega) (by omega) hn
        · cases hm
      · rename_i h32
        simp only [Option.some.injEq, Prod.mk.injEq] at hm
        obtain ⟨n1, _, n2⟩ := hm
        obtain ⟨e1, e2, e3⟩ := same (by omega)
        rw [e1, e2, e3, if_neg (by rintro ⟨x, y⟩; exact hbad ⟨x, .inl (by omega)⟩), if_neg (by rintro ⟨x, y⟩; exact h32 ⟨by omega, y⟩)]
        exact ⟨_, by rw [n1]⟩

-- GIVEN plain making
theorem LexW.number_fall {b : List Int} {p n q1 : Nat} (h : LexW.number b p = (some n, q1)) (hp : p < b.length) : p < n ∧ n ≤ b.length + 1 := by
  obtain ⟨p1, m1, hh⟩ := LexW.number_some h
  have hp1 : p ≤ p1 ∧ p1 ≤ b.length := by
    rcases LexW.may_at (of := [45]) (b := b) (p := p) with ⟨e, _⟩ | ⟨e, _⟩ <;> (rw [e] at m1; injection m1 with _ m2; omega)
  rcases hh with ⟨p2, a1, a2, a3⟩ | ⟨p2, a1, a2, a3⟩
  · omega
  · have hmay : ∀ (of : List Int) (x : Nat), LexW.may of b x = (true, x + 1) → x < b.length := by
      intro of x hx
      rcases LexW.may_at (of := of) (b := b) (p := x) with ⟨_, h, _⟩ | ⟨e, _⟩
      · exact h
      · rw [e] at hx; injection hx with hx _; cases hx
    rcases a3 with ⟨p3, b1, b2, b3⟩ | ⟨p3, m, p4, p5, b1, b2, b3, b4, b5, b6, b7⟩
    · have := hmay _ _ b1; omega
    · have h3 := hmay _ _ b3
      have h4 : p4 ≤ b.length := by
        rcases LexW.may_at (of := [43, 45]) (b := b) (p := p3 + 1) with ⟨e, h, _⟩ | ⟨e, _⟩ <;> (rw [e] at b4; injection b4 with _ b4; omega)
      omega
theorem LexW.exactly_fall : ∀ (l : List Int) {b : List Int} {p n q1 : Nat}, LexW.exactly l b p = (some n, q1) → p ≤ b.length → n ≤ b.length + 1 := by
  intro l
  induction l with
  | nil => intro b p n q1 hm _; rw [LexW.exactly] at hm; cases hm
  | cons x l ih =>
    intro b p n q1 hm hp
    rw [LexW.exactly] at hm
    rcases hmu : LexW.must (fun y => y == x) b p with ⟨r1, p1⟩
    rw [hmu] at hm
    cases r1 with
    | some e =>
      simp only [Option.isSome_some, if_true] at hm
      obtain ⟨a1, a2, _⟩ := LexW.must_some hmu
      cases hm
      omega
    | none =>
      simp only [Option.isSome_none, Bool.false_eq_true, if_false] at hm
      obtain ⟨a1, a2, _⟩ := LexW.must_none hmu
      exact ih hm (by omega)
theorem LexW.sw_fall {b : List Int} (hmb : b.length < 140737488355328) {k p n q : Nat} {kd : Int} {out : List Int} (h : LexW.sw b k p = some (some n, kd, out, q)) : p < b.length ∧ p < n ∧ n ≤ b.length + 1 := by
  unfold LexW.sw at h
  split at h
  · rename_i hp
    refine ⟨hp, ?_⟩
    have ex : ∀ w : List Int, (LexW.exactly w b p).1 = some n → p < n ∧ n ≤ b.length + 1 := by
      intro w hw
      have h1 := LexW.exactly_some w (b := b) (p := p) (Prod.ext hw rfl)
      have h2 := LexW.exactly_fall w (b := b) (p := p) (Prod.ext hw rfl) (by omega)
      omega
    split at h
    · cases h
    · split at h
      · exact ex _ (LexW.inj4 h).1
      · split at h
        · exact ex _ (LexW.inj4 h).1
        · split at h
          · exact ex _ (LexW.inj4 h).1
          · split at h
            · exact LexW.number_fall (Prod.ext (LexW.inj4 h).1 rfl) hp
            · split at h
              · obtain ⟨⟨t1, t2, t3⟩, ht, h⟩ := Option.bind_eq_some_iff.mp h
                have a1 := (LexW.inj4 h).1
                dsimp only at a1
                subst a1
                have := LexW.text_gt hmb k ht (by omega)
                omega
              · have := (LexW.inj4 h).1
                injection this with this
                omega
  · cases h
theorem LexW.sw_bad {b c : List Int} {q : Nat} (hmb : b.length < 140737488355328) (hmc : c.length < 140737488355328) (h : LexW.Ag b c q) {k p n q1 : Nat} {kd : Int} {out : List Int} (hs : LexW.sw b k p = some (some n, kd, out, q1)) (hn : n ≤ q) : ∃ kd' out' q2, LexW.sw c k p = some (some n, kd', out', q2) := by
  obtain ⟨h1, h2, h3⟩ := LexW.sw_fall hmb hs
  have hb := h.1
  have hc := h.2.1
  have hat := h.at (show p < q by omega)
  unfold LexW.sw at hs ⊢
  rw [if_pos (by omega)] at hs ⊢
  rw [← hat]
  have ex : ∀ w : List Int, (LexW.exactly w b p).1 = some n → (LexW.exactly w c p).1 = some n := by
    intro w hw
    rw [LexW.exactly_bad w h (Prod.ext hw rfl) hn]
  split at hs
  · cases hs
  · rename_i g
    rw [if_neg g]
    split at hs
    · rename_i g; rw [if_pos g, ex _ (LexW.inj4 hs).1]; exact ⟨_, _, _, rfl⟩
    · rename_i g
      rw [if_neg g]
      split at hs
      · rename_i g; rw [if_pos g, ex _ (LexW.inj4 hs).1]; exact ⟨_, _, _, rfl⟩
      · rename_i g
        rw [if_neg g]
        split at hs
        · rename_i g; rw [if_pos g, ex _ (LexW.inj4 hs).1]; exact ⟨_, _, _, rfl⟩
        · rename_i g
          rw [if_neg g]
          split at hs
          · rename_i g; rw [if_pos g, LexW.number_bad h (Prod.ext (LexW.inj4 hs).1 rfl) hn (by omega)]; exact ⟨_, _, _, rfl⟩
          · rename_i g
            rw [if_neg g]
            split at hs
            · rename_i g
              rw [if_pos g]
              obtain ⟨⟨t1, t2, t3⟩, ht, hs⟩ := Option.bind_eq_some_iff.mp hs
              have a1 := (LexW.inj4 hs).1
              dsimp only at a1
              subst a1
              obtain ⟨q2, e⟩ := LexW.text_bad hmb hmc h k ht (by omega) (by omega) hn
              rw [e]
              exact ⟨_, _, _, rfl⟩
            · rename_i g
              rw [if_neg g, (LexW.inj4 hs).1]
              exact ⟨_, _, _, rfl⟩
/-- What next tells of bad bytes. -/
theorem LexW.next_fall {b : List Int} {k n : Nat} {rk : Int} {rx : List Int} {rf rt2 : Nat} (hmb : b.length < 140737488355328) (h : LexW.next b k 0 = some (rk, rx, rf, rt2, n, 50)) : ∃ kd out q, LexW.sw b k (LexW.pass LexW.blank b 0) = some (some n, kd, out, q) := by
  unfold LexW.next at h
  rw [if_neg (by decide), if_neg (by omega)] at h
  obtain ⟨⟨rt, kt, txt, ft, et⟩, htk, h⟩ := Option.bind_eq_some_iff.mp h
  rw [show (0 : Int).toNat = 0 from rfl] at htk
  unfold LexW.token at htk
  obtain ⟨⟨r, kd, out, q⟩, hsw, htk⟩ := Option.bind_eq_some_iff.mp htk
  cases rt with
  | none => obtain ⟨_, _, _, _, _, h6⟩ := LexW.inj6 h; omega
  | some e =>
    obtain ⟨_, _, _, _, h5, _⟩ := LexW.inj6 h
    dsimp only at htk
    cases r with
    | none => simp only [Option.isSome_none, Bool.false_eq_true, if_false, Option.some.injEq, Prod.mk.injEq] at htk; cases htk.1
    | some e2 =>
      simp only [Option.isSome_some, if_true, Option.some.injEq, Prod.mk.injEq] at htk
      obtain ⟨a1, _⟩ := htk
      refine ⟨kd, out, q, ?_⟩
      rw [hsw, a1, h5]
theorem LexW.next_of_sw {c : List Int} {k n q : Nat} {kd : Int} {out : List Int} (h : LexW.sw c k (LexW.pass LexW.blank c 0) = some (some n, kd, out, q)) : LexW.next c k 0 = some (0, [], 0, 0, n, 50) := by
  unfold LexW.next LexW.token
  rw [if_neg (by decide), if_neg (by omega), show (0 : Int).toNat = 0 from rfl, h]
  simp
theorem LexW.next_ok {c : List Int} {k q : Nat} {kd : Int} {out : List Int} (h : LexW.sw c k (LexW.pass LexW.blank c 0) = some (none, kd, out, q)) : ∃ rk rx rf rt2, LexW.next c k 0 = some (rk, rx, rf, rt2, 0, 0) := by
  unfold LexW.next LexW.token
  rw [if_neg (by decide), if_neg (by omega), show (0 : Int).toNat = 0 from rfl, h]
  simp
/-- As long as the bad bytes, and what stands behind them: as bad. -/
theorem LexW.next_bad {b c : List Int} {k n : Nat} {rk : Int} {rx : List Int} {rf rt2 : Nat} (hmb : b.length < 140737488355328) (hmc : c.length < 140737488355328) (hn : LexW.next b k 0 = some (rk, rx, rf, rt2, n, 50)) (h : LexW.Ag b c n) : LexW.next c k 0 = some (0, [], 0, 0, n, 50) := by
  obtain ⟨kd, out, q, hs⟩ := LexW.next_fall hmb hn
  obtain ⟨h1, h2, h3⟩ := LexW.sw_fall hmb hs
  have hp : LexW.pass LexW.blank c 0 = LexW.pass LexW.blank b 0 := LexW.pass_loc h _ 0 rfl h2
  obtain ⟨kd', out', q2, hs'⟩ := LexW.sw_bad hmb hmc h hs (Nat.le_refl _)
  exact LexW.next_of_sw (by rw [hp]; exact hs')

-- GIVEN plain making
theorem LexP.jag {b e : List Int} {m : Nat} (h : m ≤ b.length) : LexW.Ag b (b.take m ++ e) m := by
  refine ⟨h, by rw [List.length_append, List.length_take]; omega, ?_⟩
  rw [List.take_append_of_le_length (by rw [List.length_take]; omega), List.take_take, Nat.min_self]
theorem LexP.jdrop {b e : List Int} {m : Nat} (h : m ≤ b.length) : (b.take m ++ e).drop m = e := by
  have : (b.take m).length = m := by rw [List.length_take]; omega
  conv => lhs; arg 1; rw [← this]
  exact List.drop_left ..
theorem LexP.jlen {b e : List Int} {m : Nat} (h : m ≤ b.length) : (b.take m ++ e).length = m + e.length := by rw [List.length_append, List.length_take]; omega
theorem LexP.drop_at {L xs : List Int} {q j : Nat} (h : L.drop q = xs) (hj : j < xs.length) : LexW.at_ L (q + j) = xs.getD j 0 ∧ q + j < L.length := by
  refine ⟨by rw [← h, RefP.drop_at], ?_⟩
  have : (L.drop q).length = xs.length := by rw [h]
  rw [List.length_drop] at this
  omega
theorem LexP.drop_cons {L xs : List Int} {q : Nat} {x : Int} (h : L.drop q = x :: xs) : LexW.at_ L q = x ∧ q < L.length ∧ L.drop (q + 1) = xs := by
  have := LexP.drop_at (j := 0) h (by simp)
  rw [Nat.add_zero] at this
  refine ⟨by simpa using this.1, this.2, ?_⟩
  rw [← List.drop_drop, h]
  rfl
theorem LexP.exactly_lit : ∀ (w : List Int) {c zs : List Int} {p : Nat}, c.drop p = w ++ zs → LexW.exactly w c p = (none, p + w.length) := by
  intro w
  induction w with
  | nil => intro c zs p _; rw [LexW.exactly]; rfl
  | cons x w ih =>
    intro c zs p h
    obtain ⟨h1, h2, h3⟩ := LexP.drop_cons h
    have e : LexW.must (fun y => y == x) c p = (none, p + 1) := by unfold LexW.must; rw [if_pos h2, h1, if_pos (by simp)]
    rw [LexW.exactly, e]
    simp only [Option.isSome_none, Bool.false_eq_true, if_false]
    rw [ih h3, List.length_cons]
    simp only [Prod.mk.injEq, true_and]
    omega
theorem LexP.exactly_part : ∀ (w : List Int) {b : List Int} {p n q1 : Nat}, LexW.exactly w b p = (some n, q1) → p ≤ b.length → ∃ j, j < w.length ∧ n = p + j + 1 ∧ p + j ≤ b.length ∧ (b.take (p + j)).drop p = w.take j := by
  intro w
  induction w with
  | nil => intro b p n q1 hm _; rw [LexW.exactly] at hm; cases hm
  | cons x w ih =>
    intro b p n q1 hm hp
    rw [LexW.exactly] at hm
    rcases hmu : LexW.must (fun y => y == x) b p with ⟨r1, p1⟩
    rw [hmu] at hm
    cases r1 with
    | some e =>
      simp only [Option.isSome_some, if_true] at hm
      obtain ⟨a1, a2, _⟩ := LexW.must_some hmu
      cases hm
      exact ⟨0, by simp, by omega, by omega, by rw [Nat.add_zero, List.take_zero]; exact List.drop_eq_nil_of_le (by rw [List.length_take]; omega)⟩
    | none =>
      simp only [Option.isSome_none, Bool.false_eq_true, if_false] at hm
      obtain ⟨a1, a2, a3⟩ := LexW.must_none hmu
      subst a1
      obtain ⟨j, j1, j2, j3, j4⟩ := ih hm (by omega)
      refine ⟨j + 1, by rw [List.length_cons]; omega, by omega, by omega, ?_⟩
      have hx : LexW.at_ b p = x := by simpa using a3
      rw [List.take_succ_cons, ← j4, show p + (j + 1) = p + 1 + j by omega]
      have hl : p < (b.take (p + 1 + j)).length := by rw [List.length_take]; omega
      rw [List.drop_eq_getElem_cons hl]
      congr 1
      rw [List.getElem_take, ← hx]
      unfold LexW.at_
      rw [List.getD_eq_getElem?_getD, List.getElem?_eq_getElem a2]
      rfl
theorem LexP.exactly_end {w b : List Int} {p n q1 : Nat} (hm : LexW.exactly w b p = (some n, q1)) (hp : p ≤ b.length) : ∃ j, j < w.length ∧ n - 1 = p + j ∧ n - 1 ≤ b.length ∧ ∀ zs, LexW.exactly w (b.take (n - 1) ++ (w.drop j ++ zs)) p = (none, n - 1 + (w.drop j).length) := by
  obtain ⟨j, j1, j2, j3, j4⟩ := LexP.exactly_part w hm hp
  have hn : n - 1 = p + j := by omega
  refine ⟨j, j1, hn, by omega, fun zs => ?_⟩
  rw [hn]
  have hd : (b.take (p + j) ++ (w.drop j ++ zs)).drop p = w ++ zs := by
    rw [List.drop_append_of_le_length (by rw [List.length_take]; omega), j4, ← List.append_assoc, List.take_append_drop]
  rw [LexP.exactly_lit w hd, List.length_drop]
  simp only [Prod.mk.injEq, true_and]
  omega
-- numbers
theorem LexP.may_end {of c : List Int} {p : Nat} (h : c.length ≤ p) : LexW.may of c p = (false, p) := by unfold LexW.may; rw [if_neg (by omega)]
theorem LexP.digits_end {c : List Int} {p : Nat} (h : c.drop p = [48]) : LexW.digits c p = (none, p + 1) := by
  obtain ⟨h1, h2, h3⟩ := LexP.drop_cons h
  have hl : c.length = p + 1 := by have := congrArg List.length h; rw [List.length_drop] at this; simp at this; omega
  have e : LexW.must LexW.digit c p = (none, p + 1) := by unfold LexW.must; rw [if_pos h2, h1, if_pos (by decide)]
  unfold LexW.digits
  rw [e]
  dsimp only
  rw [LexW.pass, if_neg (by omega)]
theorem LexP.number_fin {c : List Int} {p p1 p2 p3 : Nat} (h1 : (LexW.may [45] c p).2 = p1) (h2 : LexW.int_ c p1 = (none, p2)) (h3 : LexW.frac c p2 = (none, p3)) (h4 : c.length ≤ p3) : (LexW.number c p).1 = none := by
  unfold LexW.number
  rw [h1, h2]
  simp only [Option.isSome_none, Bool.false_eq_true, if_false]
  rw [h3]
  simp only [Option.isSome_none, Bool.false_eq_true, if_false]
  unfold LexW.expo
  rw [LexP.may_end h4]
  rfl
theorem LexP.number_end {b : List Int} {p n q1 : Nat} (hm : LexW.number b p = (some n, q1)) (hp : p < b.length) (hat : LexW.at_ b p = 45 ∨ LexW.digit (LexW.at_ b p) = true) : p < n - 1 ∧ (LexW.number (b.take (n - 1) ++ [48]) p).1 = none := by
  have hf := LexW.number_fall hm hp
  obtain ⟨p1, m1, hh⟩ := LexW.number_some hm
  have hp1 : (p1 = p + 1 ∧ LexW.may [45] b p = (true, p + 1)) ∨ (p1 = p ∧ LexW.may [45] b p = (false, p) ∧ LexW.at_ b p ≠ 45) := by
    rcases LexW.may_at (of := [45]) (b := b) (p := p) with ⟨e, _⟩ | ⟨e, h⟩
    · rw [e] at m1; injection m1 with _ m2; exact .inl ⟨m2.symm, e⟩
    · rw [e] at m1; injection m1 with _ m2; exact .inr ⟨m2.symm, e, by have := h hp; simpa using this⟩
  have hag := LexP.jag (b := b) (e := [48]) (m := n - 1) (by omega)
  have hd := LexP.jdrop (b := b) (e := [48]) (m := n - 1) (by omega)
  have hl := LexP.jlen (b := b) (e := [48]) (m := n - 1) (by omega)
  obtain ⟨c, hc⟩ : ∃ c, c = b.take (n - 1) ++ [48] := ⟨_, rfl⟩
  rw [← hc] at hag hd hl ⊢
  have hl : c.length = n - 1 + 1 := hl
  have h48 := (LexP.drop_cons hd).1
  have first : p < n - 1 → (LexW.may [45] c p).2 = p1 := by
    intro h
    rw [LexW.may_same (of := [45]) hp (by omega) (hag.at h), m1]
  rcases hh with ⟨p2, a1, a2, a3⟩ | ⟨p2, a1, a2, a3⟩
  · have hlt : p < n - 1 := by
      rcases hp1 with ⟨h, _⟩ | ⟨h, _, h45⟩
      · omega
      · exfalso
        subst h
        rcases hat with h | h
        · exact h45 h
        · rw [(LexW.digits_some a2).2 hp] at h; cases h
    refine ⟨hlt, ?_⟩
    have hn : n - 1 = p1 := by omega
    rw [hn] at h48 hd hl
    have hm48 : LexW.may [48] c p1 = (true, p1 + 1) := by unfold LexW.may; rw [if_pos (by omega), h48, if_pos (by decide)]
    have hi : LexW.int_ c p1 = (none, p1 + 1) := by unfold LexW.int_; rw [hm48]; rfl
    have hfr : LexW.frac c (p1 + 1) = (none, p1 + 1) := by unfold LexW.frac; rw [LexP.may_end (by omega)]; rfl
    exact LexP.number_fin (first hlt) hi hfr (by omega)
  · rcases a3 with ⟨p3, b1, b2, b3⟩ | ⟨p3, m, p4, p5, b1, b2, b3, b4, b5, b6, b7⟩
    · have hlt : p < n - 1 := by omega
      refine ⟨hlt, ?_⟩
      have hn : n - 1 = p2 + 1 := by omega
      have hi := LexW.int_loc hag a1 (by omega)
      have e2 : LexW.may [46] c p2 = (true, p2 + 1) := by rw [LexW.may_same (b := b) (by omega) (by omega) (hag.at (by omega)), b1]
      rw [hn] at hd
      have hfr : LexW.frac c p2 = (none, p2 + 2) := by unfold LexW.frac; rw [e2]; simp only [if_true]; exact LexP.digits_end hd
      exact LexP.number_fin (first hlt) hi hfr (by omega)
    · have hlt : p < n - 1 := by omega
      refine ⟨hlt, ?_⟩
      have hn : n - 1 = p4 := by omega
      have hi := LexW.int_loc hag a1 (by omega)
      have hfr := LexW.frac_loc hag b1 (by omega) b2
      have e2 : LexW.may [101, 69] c p3 = (true, p3 + 1) := by rw [LexW.may_same (b := b) (by omega) (by omega) (hag.at (by omega)), b3]
      have e3 : (LexW.may [43, 45] c (p3 + 1)).2 = p4 := by
        rcases LexW.may_at (of := [43, 45]) (b := b) (p := p3 + 1) with ⟨e, h, _⟩ | ⟨e, _⟩
        · rw [e] at b4
          injection b4 with _ b4
          rw [LexW.may_same (b := b) h (by omega) (hag.at (by omega)), e]
          exact b4
        · rw [e] at b4
          injection b4 with _ b4
          rw [hn, ← b4] at h48
          unfold LexW.may
          rw [if_pos (by omega), h48, if_neg (by decide)]
          exact b4
      rw [LexW.number_via3 (first hlt) hi hfr e2 e3]
      rw [hn] at hd
      rw [LexP.digits_end hd]
-- four digits
def LexP.tok (T : Nat → Int → Bool) : Nat → Int → List Int → Prop
  | _, _, [] => True
  | i, n, d :: ds => 0 ≤ d ∧ d < 16 ∧ T i (n * 16 + d) = true ∧ LexP.tok T (i + 1) (n * 16 + d) ds
theorem LexP.hex_lt (c : Int) : LexW.hex c < 16 := by
  unfold LexW.hex
  repeat' split
  all_goals omega
theorem LexP.four_go {T : Nat → Int → Bool} {c zs : List Int} {k i p : Nat} {n x : Int} (hd : c.drop p = x :: zs) (h0 : 0 ≤ LexW.hex x) (hT : T i (n * 16 + LexW.hex x) = true) : LexW.four T c (k + 1) i n p = LexW.four T c k (i + 1) (n * 16 + LexW.hex x) (p + 1) ∧ c.drop (p + 1) = zs := by
  obtain ⟨h1, h2, h3⟩ := LexP.drop_cons hd
  refine ⟨?_, h3⟩
  rw [LexW.four, if_pos h2, h1, if_pos h0, if_pos hT]
theorem LexP.four_part (T : Nat → Int → Bool) {b : List Int} : ∀ (k i : Nat) (n : Int) {p m q1 : Nat} {nr : Int}, LexW.four T b k i n p = (some m, nr, q1) → p ≤ b.length →
    ∃ ds : List Int, ds.length < k ∧ m = p + ds.length + 1 ∧ p + ds.length ≤ b.length ∧ LexP.tok T i n ds ∧ ∀ c, LexW.Ag b c (p + ds.length) → LexW.four T c k i n p = LexW.four T c (k - ds.length) (i + ds.length) (ds.foldl (fun n d => n * 16 + d) n) (p + ds.length) := by
  intro k
  induction k with
  | zero => intro i n p m q1 nr hm _; rw [LexW.four] at hm; cases hm
  | succ k ih =>
    intro i n p m q1 nr hm hp
    rw [LexW.four] at hm
    have stop : m = p + 1 → ∃ ds : List Int, ds.length < k + 1 ∧ m = p + ds.length + 1 ∧ p + ds.length ≤ b.length ∧ LexP.tok T i n ds ∧ ∀ c, LexW.Ag b c (p + ds.length) → LexW.four T c (k + 1) i n p = LexW.four T c (k + 1 - ds.length) (i + ds.length) (ds.foldl (fun n d => n * 16 + d) n) (p + ds.length) :=
      fun h => ⟨[], Nat.succ_pos _, h, hp, trivial, fun c _ => rfl⟩
    split at hm
    · rename_i h1
      split at hm
      · rename_i h2
        split at hm
        · rename_i h3
          obtain ⟨ds, d1, d2, d3, d4, d5⟩ := ih _ _ hm (by omega)
          refine ⟨LexW.hex (LexW.at_ b p) :: ds, by rw [List.length_cons]; omega, by rw [List.length_cons]; omega, by rw [List.length_cons]; omega, ⟨h2, LexP.hex_lt _, h3, d4⟩, fun c hc => ?_⟩
          rw [List.length_cons, show p + (ds.length + 1) = p + 1 + ds.length by omega] at hc
          have hcl := hc.2.1
          rw [LexW.four, if_pos (by omega), ← hc.at (by omega), if_pos h2, if_pos h3, d5 c hc]
          rw [List.length_cons, List.foldl_cons, show k + 1 - (ds.length + 1) = k - ds.length by omega, show i + (ds.length + 1) = i + 1 + ds.length by omega, show p + (ds.length + 1) = p + 1 + ds.length by omega]
        · cases hm; exact stop rfl
      · cases hm; exact stop rfl
    · cases hm; exact stop rfl
theorem LexP.tail2_lit {c zs : List Int} {p : Nat} (hi : Int) (h : c.drop p = 92 :: 117 :: 100 :: 99 :: 48 :: 48 :: zs) : ∃ v, LexW.tail2 c hi p = (none, v, p + 6) := by
  have h6 : LexW.exactly [92, 117] c p = (none, p + 2) := LexP.exactly_lit [92, 117] (zs := 100 :: 99 :: 48 :: 48 :: zs) h
  have hd : c.drop (p + 2) = 100 :: 99 :: 48 :: 48 :: zs := by rw [← List.drop_drop, h]; rfl
  obtain ⟨f1, g1⟩ := LexP.four_go (T := LexW.T2) (k := 3) (i := 0) (n := 0) hd (by decide) (by decide)
  obtain ⟨f2, g2⟩ := LexP.four_go (T := LexW.T2) (k := 2) (i := 1) (n := 0 * 16 + LexW.hex 100) g1 (by decide) (by decide)
  obtain ⟨f3, g3⟩ := LexP.four_go (T := LexW.T2) (k := 1) (i := 2) (n := (0 * 16 + LexW.hex 100) * 16 + LexW.hex 99) g2 (by decide) (by decide)
  obtain ⟨f4, g4⟩ := LexP.four_go (T := LexW.T2) (k := 0) (i := 3) (n := ((0 * 16 + LexW.hex 100) * 16 + LexW.hex 99) * 16 + LexW.hex 48) g3 (by decide) (by decide)
  unfold LexW.tail2
  rw [h6]
  dsimp only
  rw [f1, f2, f3, f4, LexW.four]
  exact ⟨_, rfl⟩

-- GIVEN plain making
theorem LexP.four_zero {T : Nat → Int → Bool} {c zs : List Int} {k i p : Nat} {n : Int} (hd : c.drop p = 48 :: zs) (hT : T i (n * 16) = true) : LexW.four T c (k + 1) i n p = LexW.four T c k (i + 1) (n * 16) (p + 1) ∧ c.drop (p + 1) = zs := by
  have e : n * 16 + LexW.hex 48 = n * 16 := by rw [show LexW.hex 48 = 0 from rfl]; omega
  have := LexP.four_go (T := T) (k := k) (i := i) (n := n) hd (by decide) (by rw [e]; exact hT)
  rwa [e] at this
def LexP.eends : List (List Int) := [[34], [117, 48, 48, 48, 48], [48, 48, 48, 48], [48, 48, 48], [48, 48], [48], [92, 117, 100, 99, 48, 48], [117, 100, 99, 48, 48], [100, 99, 48, 48], [99, 48, 48], [48, 48, 92, 117, 100, 99, 48, 48], [48, 92, 117, 100, 99, 48, 48]]
theorem LexP.four1_end {b : List Int} {p m q1 : Nat} {nr : Int} (hm : LexW.four LexW.T1 b 4 0 0 p = (some m, nr, q1)) (hp : p ≤ b.length) : ∃ e ∈ LexP.eends, ∀ zs, ∃ V p5, LexW.four LexW.T1 (b.take (m - 1) ++ (e ++ zs)) 4 0 0 p = (none, V, p5) ∧
    (((V < 55296 ∨ V > 57343) ∧ p5 = m - 1 + e.length) ∨ (55296 ≤ V ∧ V ≤ 57343 ∧ ∃ v', LexW.tail2 (b.take (m - 1) ++ (e ++ zs)) V p5 = (none, v', m - 1 + e.length))) := by
  obtain ⟨ds, d1, d2, d3, d4, d5⟩ := LexP.four_part LexW.T1 4 0 0 hm hp
  have hn : m - 1 = p + ds.length := by omega
  have hle : m - 1 ≤ b.length := by omega
  have t1 : ∀ x : Int, (x < 220 ∨ x > 223) → LexW.T1 1 x = true := by intro x h; unfold LexW.T1; simp; omega
  match ds, d1, d4, d5, hn with
  | [], _, _, d5, hn =>
    rw [List.length_nil, Nat.add_zero] at hn
    refine ⟨[48, 48, 48, 48], by simp [LexP.eends], fun zs => ?_⟩
    have hd := LexP.jdrop (b := b) (e := [48, 48, 48, 48] ++ zs) hle
    obtain ⟨c, hc⟩ : ∃ c, c = b.take (m - 1) ++ ([48, 48, 48, 48] ++ zs) := ⟨_, rfl⟩
    rw [← hc, hn] at hd
    rw [← hc]
    obtain ⟨f1, g1⟩ := LexP.four_zero (T := LexW.T1) (k := 3) (i := 0) (n := 0) hd rfl
    obtain ⟨f2, g2⟩ := LexP.four_zero (T := LexW.T1) (k := 2) (i := 1) (n := 0 * 16) g1 (t1 _ (by omega))
    obtain ⟨f3, g3⟩ := LexP.four_zero (T := LexW.T1) (k := 1) (i := 2) (n := 0 * 16 * 16) g2 rfl
    obtain ⟨f4, g4⟩ := LexP.four_zero (T := LexW.T1) (k := 0) (i := 3) (n := 0 * 16 * 16 * 16) g3 rfl
    rw [f1, f2, f3, f4, LexW.four]
    exact ⟨_, _, rfl, .inl ⟨by omega, by simp; omega⟩⟩
  | [a], _, d4, d5, hn =>
    obtain ⟨a0, a1, _, _⟩ := d4
    rw [List.length_singleton] at hn
    refine ⟨[48, 48, 48], by simp [LexP.eends], fun zs => ?_⟩
    have hd := LexP.jdrop (b := b) (e := [48, 48, 48] ++ zs) hle
    have hag := LexP.jag (b := b) (e := [48, 48, 48] ++ zs) hle
    obtain ⟨c, hc⟩ : ∃ c, c = b.take (m - 1) ++ ([48, 48, 48] ++ zs) := ⟨_, rfl⟩
    rw [← hc, hn] at hd hag
    rw [← hc]
    have f0 := d5 c hag
    simp only [List.foldl_cons, List.foldl_nil, List.length_singleton, Nat.reduceSub, Nat.reduceAdd] at f0
    obtain ⟨f2, g2⟩ := LexP.four_zero (T := LexW.T1) (k := 2) (i := 1) (n := 0 * 16 + a) hd (t1 _ (by omega))
    obtain ⟨f3, g3⟩ := LexP.four_zero (T := LexW.T1) (k := 1) (i := 2) (n := (0 * 16 + a) * 16) g2 rfl
    obtain ⟨f4, g4⟩ := LexP.four_zero (T := LexW.T1) (k := 0) (i := 3) (n := (0 * 16 + a) * 16 * 16) g3 rfl
    rw [f0, f2, f3, f4, LexW.four]
    exact ⟨_, _, rfl, .inl ⟨by omega, by simp; omega⟩⟩
  | [a, a2], _, d4, d5, hn =>
    obtain ⟨a0, a1, _, a3, a4, a5, _⟩ := d4
    have a5' : (0 * 16 + a) * 16 + a2 < 220 ∨ (0 * 16 + a) * 16 + a2 > 223 := by unfold LexW.T1 at a5; simp at a5; omega
    have hn : m - 1 = p + 2 := hn
    obtain ⟨N, hN⟩ : ∃ N, N = (0 * 16 + a) * 16 + a2 := ⟨_, rfl⟩
    by_cases hV : N * 256 < 55296 ∨ N * 256 > 57343
    · refine ⟨[48, 48], by simp [LexP.eends], fun zs => ?_⟩
      have hd := LexP.jdrop (b := b) (e := [48, 48] ++ zs) hle
      have hag := LexP.jag (b := b) (e := [48, 48] ++ zs) hle
      obtain ⟨c, hc⟩ : ∃ c, c = b.take (m - 1) ++ ([48, 48] ++ zs) := ⟨_, rfl⟩
      rw [← hc, hn] at hd hag
      rw [← hc]
      have f0 := d5 c hag
      simp only [List.foldl_cons, List.foldl_nil, List.length_cons, List.length_nil, Nat.reduceSub, Nat.reduceAdd] at f0
      rw [← hN] at f0
      obtain ⟨f3, g3⟩ := LexP.four_zero (T := LexW.T1) (k := 1) (i := 2) (n := N) hd rfl
      obtain ⟨f4, g4⟩ := LexP.four_zero (T := LexW.T1) (k := 0) (i := 3) (n := N * 16) g3 rfl
      rw [f0, f3, f4, LexW.four]
      exact ⟨_, _, rfl, .inl ⟨by omega, by simp; omega⟩⟩
    · refine ⟨[48, 48, 92, 117, 100, 99, 48, 48], by simp [LexP.eends], fun zs => ?_⟩
      have hd := LexP.jdrop (b := b) (e := [48, 48, 92, 117, 100, 99, 48, 48] ++ zs) hle
      have hag := LexP.jag (b := b) (e := [48, 48, 92, 117, 100, 99, 48, 48] ++ zs) hle
      obtain ⟨c, hc⟩ : ∃ c, c = b.take (m - 1) ++ ([48, 48, 92, 117, 100, 99, 48, 48] ++ zs) := ⟨_, rfl⟩
      rw [← hc, hn] at hd hag
      rw [← hc]
      have f0 := d5 c hag
      simp only [List.foldl_cons, List.foldl_nil, List.length_cons, List.length_nil, Nat.reduceSub, Nat.reduceAdd] at f0
      rw [← hN] at f0
      obtain ⟨f3, g3⟩ := LexP.four_zero (T := LexW.T1) (k := 1) (i := 2) (n := N) hd rfl
      obtain ⟨f4, g4⟩ := LexP.four_zero (T := LexW.T1) (k := 0) (i := 3) (n := N * 16) g3 rfl
      obtain ⟨v', t⟩ := LexP.tail2_lit (N * 16 * 16) g4
      rw [f0, f3, f4, LexW.four]
      refine ⟨_, _, rfl, .inr ⟨by omega, by omega, v', ?_⟩⟩
      rw [t]
      simp
      omega
  | [a, a2, a3], _, d4, d5, hn =>
    obtain ⟨b0, b1, _, b3, b4, b5, b6, b7, _, _⟩ := d4
    have a5' : (0 * 16 + a) * 16 + a2 < 220 ∨ (0 * 16 + a) * 16 + a2 > 223 := by unfold LexW.T1 at b5; simp at b5; omega
    have hn : m - 1 = p + 3 := hn
    obtain ⟨N, hN⟩ : ∃ N, N = ((0 * 16 + a) * 16 + a2) * 16 + a3 := ⟨_, rfl⟩
    by_cases hV : N * 16 < 55296 ∨ N * 16 > 57343
    · refine ⟨[48], by simp [LexP.eends], fun zs => ?_⟩
      have hd := LexP.jdrop (b := b) (e := [48] ++ zs) hle
      have hag := LexP.jag (b := b) (e := [48] ++ zs) hle
      obtain ⟨c, hc⟩ : ∃ c, c = b.take (m - 1) ++ ([48] ++ zs) := ⟨_, rfl⟩
      rw [← hc, hn] at hd hag
      rw [← hc]
      have f0 := d5 c hag
      simp only [List.foldl_cons, List.foldl_nil, List.length_cons, List.length_nil, Nat.reduceSub, Nat.reduceAdd] at f0
      rw [← hN] at f0
      obtain ⟨f4, g4⟩ := LexP.four_zero (T := LexW.T1) (k := 0) (i := 3) (n := N) hd rfl
      rw [f0, f4, LexW.four]
      exact ⟨_, _, rfl, .inl ⟨by omega, by simp; omega⟩⟩
    · refine ⟨[48, 92, 117, 100, 99, 48, 48], by simp [LexP.eends], fun zs => ?_⟩
      have hd := LexP.jdrop (b := b) (e := [48, 92, 117, 100, 99, 48, 48] ++ zs) hle
      have hag := LexP.jag (b := b) (e := [48, 92, 117, 100, 99, 48, 48] ++ zs) hle
      obtain ⟨c, hc⟩ : ∃ c, c = b.take (m - 1) ++ ([48, 92, 117, 100, 99, 48, 48] ++ zs) := ⟨_, rfl⟩
      rw [← hc, hn] at hd hag
      rw [← hc]
      have f0 := d5 c hag
      simp only [List.foldl_cons, List.foldl_nil, List.length_cons, List.length_nil, Nat.reduceSub, Nat.reduceAdd] at f0
      rw [← hN] at f0
      obtain ⟨f4, g4⟩ := LexP.four_zero (T := LexW.T1) (k := 0) (i := 3) (n := N) hd rfl
      obtain ⟨v', t⟩ := LexP.tail2_lit (N * 16) g4
      rw [f0, f4, LexW.four]
      refine ⟨_, _, rfl, .inr ⟨by omega, by omega, v', ?_⟩⟩
      rw [t]
      simp
      omega
  | _ :: _ :: _ :: _ :: _, d1, _, _, _ => simp at d1; omega
theorem LexP.four2_end {b : List Int} {p m q1 : Nat} {nr : Int} (hm : LexW.four LexW.T2 b 4 0 0 p = (some m, nr, q1)) (hp : p ≤ b.length) : ∃ e ∈ LexP.eends, ∀ zs, ∃ V, LexW.four LexW.T2 (b.take (m - 1) ++ (e ++ zs)) 4 0 0 p = (none, V, m - 1 + e.length) := by
  obtain ⟨ds, d1, d2, d3, d4, d5⟩ := LexP.four_part LexW.T2 4 0 0 hm hp
  have hn : m - 1 = p + ds.length := by omega
  have hle : m - 1 ≤ b.length := by omega
  have t1 : ∀ x : Int, x ≥ 220 → LexW.T2 1 x = true := by intro x h; unfold LexW.T2; simp; omega
  have t2 : ∀ x : Int, LexW.T2 2 x = true := fun _ => rfl
  have t3 : ∀ x : Int, LexW.T2 3 x = true := fun _ => rfl
  match ds, d1, d4, d5, hn with
  | [], _, _, d5, hn =>
    rw [List.length_nil, Nat.add_zero] at hn
    refine ⟨[100, 99, 48, 48], by simp [LexP.eends], fun zs => ?_⟩
    have hd := LexP.jdrop (b := b) (e := [100, 99, 48, 48] ++ zs) hle
    obtain ⟨c, hc⟩ : ∃ c, c = b.take (m - 1) ++ ([100, 99, 48, 48] ++ zs) := ⟨_, rfl⟩
    rw [← hc, hn] at hd
    rw [← hc]
    obtain ⟨f1, g1⟩ := LexP.four_go (T := LexW.T2) (k := 3) (i := 0) (n := 0) hd (by decide) (by decide)
    obtain ⟨f2, g2⟩ := LexP.four_go (T := LexW.T2) (k := 2) (i := 1) (n := 0 * 16 + LexW.hex 100) g1 (by decide) (by decide)
    obtain ⟨f3, g3⟩ := LexP.four_zero (T := LexW.T2) (k := 1) (i := 2) (n := (0 * 16 + LexW.hex 100) * 16 + LexW.hex 99) g2 (t2 _)
    obtain ⟨f4, g4⟩ := LexP.four_zero (T := LexW.T2) (k := 0) (i := 3) (n := ((0 * 16 + LexW.hex 100) * 16 + LexW.hex 99) * 16) g3 (t3 _)
    rw [f1, f2, f3, f4, LexW.four]
    refine ⟨_, Prod.ext rfl (Prod.ext rfl ?_)⟩
    simp
    omega
  | [a], _, d4, d5, hn =>
    obtain ⟨a0, a1, a2, _⟩ := d4
    have a13 : 0 * 16 + a = 13 := by unfold LexW.T2 at a2; simpa using a2
    rw [List.length_singleton] at hn
    refine ⟨[99, 48, 48], by simp [LexP.eends], fun zs => ?_⟩
    have hd := LexP.jdrop (b := b) (e := [99, 48, 48] ++ zs) hle
    have hag := LexP.jag (b := b) (e := [99, 48, 48] ++ zs) hle
    obtain ⟨c, hc⟩ : ∃ c, c = b.take (m - 1) ++ ([99, 48, 48] ++ zs) := ⟨_, rfl⟩
    rw [← hc, hn] at hd hag
    rw [← hc]
    have f0 := d5 c hag
    simp only [List.foldl_cons, List.foldl_nil, List.length_singleton, Nat.reduceSub, Nat.reduceAdd] at f0
    rw [a13] at f0
    obtain ⟨f2, g2⟩ := LexP.four_go (T := LexW.T2) (k := 2) (i := 1) (n := 13) hd (by decide) (by decide)
    obtain ⟨f3, g3⟩ := LexP.four_zero (T := LexW.T2) (k := 1) (i := 2) (n := 13 * 16 + LexW.hex 99) g2 (t2 _)
    obtain ⟨f4, g4⟩ := LexP.four_zero (T := LexW.T2) (k := 0) (i := 3) (n := (13 * 16 + LexW.hex 99) * 16) g3 (t3 _)
    rw [f0, f2, f3, f4, LexW.four]
    refine ⟨_, Prod.ext rfl (Prod.ext rfl ?_)⟩
    simp
    omega
  | [a, a2], _, d4, d5, hn =>
    have hn : m - 1 = p + 2 := hn
    refine ⟨[48, 48], by simp [LexP.eends], fun zs => ?_⟩
    have hd := LexP.jdrop (b := b) (e := [48, 48] ++ zs) hle
    have hag := LexP.jag (b := b) (e := [48, 48] ++ zs) hle
    obtain ⟨c, hc⟩ : ∃ c, c = b.take (m - 1) ++ ([48, 48] ++ zs) := ⟨_, rfl⟩
    rw [← hc, hn] at hd hag
    rw [← hc]
    have f0 := d5 c hag
    simp only [List.foldl_cons, List.foldl_nil, List.length_cons, List.length_nil, Nat.reduceSub, Nat.reduceAdd] at f0
    obtain ⟨f3, g3⟩ := LexP.four_zero (T := LexW.T2) (k := 1) (i := 2) (n := (0 * 16 + a) * 16 + a2) hd (t2 _)
    obtain ⟨f4, g4⟩ := LexP.four_zero (T := LexW.T2) (k := 0) (i := 3) (n := ((0 * 16 + a) * 16 + a2) * 16) g3 (t3 _)
    rw [f0, f3, f4, LexW.four]
    refine ⟨_, Prod.ext rfl (Prod.ext rfl ?_)⟩
    simp
    omega
  | [a, a2, a3], _, d4, d5, hn =>
    have hn : m - 1 = p + 3 := hn
    refine ⟨[48], by simp [LexP.eends], fun zs => ?_⟩
    have hd := LexP.jdrop (b := b) (e := [48] ++ zs) hle
    have hag := LexP.jag (b := b) (e := [48] ++ zs) hle
    obtain ⟨c, hc⟩ : ∃ c, c = b.take (m - 1) ++ ([48] ++ zs) := ⟨_, rfl⟩
    rw [← hc, hn] at hd hag
    rw [← hc]
    have f0 := d5 c hag
    simp only [List.foldl_cons, List.foldl_nil, List.length_cons, List.length_nil, Nat.reduceSub, Nat.reduceAdd] at f0
    obtain ⟨f4, g4⟩ := LexP.four_zero (T := LexW.T2) (k := 0) (i := 3) (n := ((0 * 16 + a) * 16 + a2) * 16 + a3) hd (t3 _)
    rw [f0, f4, LexW.four]
    refine ⟨_, Prod.ext rfl (Prod.ext rfl ?_)⟩
    simp
    omega
  | _ :: _ :: _ :: _ :: _, d1, _, _, _ => simp at d1; omega
theorem LexP.escape_end {b : List Int} {p n q1 : Nat} {v : Int} (hm : LexW.escape b p = (some n, v, q1)) (hp : p ≤ b.length) : n - 1 ≤ b.length ∧ p ≤ n - 1 ∧ ∃ e ∈ LexP.eends, ∀ zs, ∃ v', LexW.escape (b.take (n - 1) ++ (e ++ zs)) p = (none, v', n - 1 + e.length) := by
  obtain ⟨g1, g2, hh⟩ := LexW.escape_some hm
  have hle := LexW.escape_le hm hp
  refine ⟨by omega, by omega, ?_⟩
  rcases hh with ⟨a1, a2⟩ | ⟨a1, a2, hh⟩
  · refine ⟨[34], by simp [LexP.eends], fun zs => ?_⟩
    have hd := LexP.jdrop (b := b) (e := [34] ++ zs) (m := n - 1) (by omega)
    obtain ⟨c, hc⟩ : ∃ c, c = b.take (n - 1) ++ ([34] ++ zs) := ⟨_, rfl⟩
    rw [← hc, show n - 1 = p by omega] at hd
    rw [← hc]
    obtain ⟨h1, h2, _⟩ := LexP.drop_cons hd
    unfold LexW.escape
    rw [if_pos h2, h1, if_pos (by decide)]
    refine ⟨_, Prod.ext rfl (Prod.ext rfl ?_)⟩
    simp
    omega
  · have base : ∀ e : List Int, n - 1 ≤ b.length → p < n - 1 → p < (b.take (n - 1) ++ e).length ∧ LexW.at_ (b.take (n - 1) ++ e) p = 117 := by
      intro e h1 h2
      have hag := LexP.jag (b := b) (e := e) h1
      exact ⟨by have := hag.2.1; omega, by rw [← hag.at h2]; exact a2⟩
    rcases hh with ⟨v', h3⟩ | ⟨hi, q3, h3, k1, k2, h4⟩
    · have g := LexW.four_some _ _ _ _ h3
      obtain ⟨e, he, hz⟩ := LexP.four1_end h3 (by omega)
      refine ⟨e, he, fun zs => ?_⟩
      obtain ⟨V, p5, f, hV⟩ := hz zs
      obtain ⟨c1, c2⟩ := base (e ++ zs) (by omega) (by omega)
      rw [LexW.escape_u c1 c2, f]
      simp only [Option.isSome_none, Bool.false_eq_true, if_false]
      rcases hV with ⟨h | h, h5⟩ | ⟨h, h', v', h5⟩
      · rw [if_pos h, h5]; exact ⟨_, rfl⟩
      · rw [if_neg (by omega), if_pos h, h5]; exact ⟨_, rfl⟩
      · rw [if_neg (by omega), if_neg (by omega), h5]; exact ⟨_, rfl⟩
    · have gf := LexW.four_ge _ _ _ _ _ h3
      have gt := LexW.tail2_some h4
      have hq3 : q3 ≤ b.length := by omega
      have key : ∃ e ∈ LexP.eends, ∀ zs, ∃ v', LexW.tail2 (b.take (n - 1) ++ (e ++ zs)) hi q3 = (none, v', n - 1 + e.length) := by
        unfold LexW.tail2 at h4
        rcases h6 : LexW.exactly [92, 117] b q3 with ⟨r6, q6⟩
        simp only [h6] at h4
        cases r6 with
        | some e =>
          simp only [Option.isSome_some, if_true] at h4
          cases h4
          obtain ⟨j, j1, j2, j3, j4⟩ := LexP.exactly_part _ h6 hq3
          have hn : n - 1 = q3 + j := by omega
          have hd0 : ∀ e : List Int, (b.take (n - 1) ++ e).drop q3 = ([92, 117] : List Int).take j ++ e := by
            intro e
            rw [hn, List.drop_append_of_le_length (by rw [List.length_take]; omega), j4]
          have hj : j = 0 ∨ j = 1 := by simp at j1; omega
          rcases hj with rfl | rfl
          · refine ⟨[92, 117, 100, 99, 48, 48], by simp [LexP.eends], fun zs => ?_⟩
            obtain ⟨v', t⟩ := LexP.tail2_lit hi (hd0 ([92, 117, 100, 99, 48, 48] ++ zs))
            refine ⟨v', ?_⟩
            rw [t]
            simp
            omega
          · refine ⟨[117, 100, 99, 48, 48], by simp [LexP.eends], fun zs => ?_⟩
            obtain ⟨v', t⟩ := LexP.tail2_lit hi (hd0 ([117, 100, 99, 48, 48] ++ zs))
            refine ⟨v', ?_⟩
            rw [t]
            simp
            omega
        | none =>
          simp only [Option.isSome_none, Bool.false_eq_true, if_false] at h4
          have g6 := LexW.exactly_ge _ h6
          rcases h7 : LexW.four LexW.T2 b 4 0 0 q6 with ⟨r7, lo, q7⟩
          simp only [h7] at h4
          cases r7 with
          | none =>
            simp only [Option.isSome_none, Bool.false_eq_true, if_false] at h4
            cases h4
          | some e =>
            simp only [Option.isSome_some, if_true] at h4
            cases h4
            have g7 := LexW.four_some _ _ _ _ h7
            obtain ⟨e, he, hz⟩ := LexP.four2_end h7 (by omega)
            refine ⟨e, he, fun zs => ?_⟩
            obtain ⟨V, f⟩ := hz zs
            have hag := LexP.jag (b := b) (e := e ++ zs) (m := n - 1) (by omega)
            have h6' := LexW.exactly_loc [92, 117] hag h6 (by omega)
            unfold LexW.tail2
            rw [h6']
            simp only [Option.isSome_none, Bool.false_eq_true, if_false]
            rw [f]
            simp only [Option.isSome_none, Bool.false_eq_true, if_false]
            exact ⟨_, rfl⟩
      obtain ⟨e, he, hz⟩ := key
      refine ⟨e, he, fun zs => ?_⟩
      obtain ⟨v', t⟩ := hz zs
      obtain ⟨c1, c2⟩ := base (e ++ zs) (by omega) (by omega)
      have hag := LexP.jag (b := b) (e := e ++ zs) (m := n - 1) (by omega)
      rw [LexW.escape_u c1 c2, LexW.four_loc LexW.T1 hag 4 0 0 h3 (by omega)]
      simp only [Option.isSome_none, Bool.false_eq_true, if_false]
      rw [if_neg (by omega), if_neg (by omega), t]
      exact ⟨_, rfl⟩

-- GIVEN plain making
/-- The states that are come to. -/
def LexP.Inv (s : Int × Int × Int) : Prop := s.1 = 0 ∨ s = (1, 128, 191) ∨ s = (2, 160, 191) ∨ s = (2, 128, 159) ∨ s = (2, 128, 191) ∨ s = (3, 144, 191) ∨ s = (3, 128, 143) ∨ s = (3, 128, 191)
theorem LexP.goes_inv (c : Int) (h : ¬ (Utf.goes c).1 < 0) : LexP.Inv (Utf.goes c) := by
  unfold Utf.goes at h ⊢
  unfold LexP.Inv
  repeat' split
  all_goals simp_all
theorem LexP.st_inv : ∀ (l : List Int) (s t : Int × Int × Int), LexP.Inv s → Pure.st l s = some t → LexP.Inv t
  | [], s, t, h, e => by rw [Pure.st] at e; obtain rfl := Option.some.inj e; exact h
  | c :: r, s, t, h, e => by
    rw [Pure.st] at e
    by_cases h1 : s.1 = 0
    · rw [if_pos h1] at e
      by_cases h2 : (Utf.goes c).1 < 0
      · rw [if_pos h2] at e; simp at e
      · rw [if_neg h2] at e; exact LexP.st_inv r _ t (LexP.goes_inv c h2) e
    · rw [if_neg h1] at e
      by_cases h2 : c < s.2.1
      · rw [if_pos h2] at e; simp at e
      · rw [if_neg h2] at e
        by_cases h3 : c > s.2.2
        · rw [if_pos h3] at e; simp at e
        · rw [if_neg h3] at e
          refine LexP.st_inv r _ t ?_ e
          rcases h with h | rfl | rfl | rfl | rfl | rfl | rfl | rfl
          · exact absurd h h1
          all_goals (unfold LexP.Inv; simp)
def LexP.uends : List (List Int) := [[], [128], [160, 128], [128, 128], [144, 128, 128], [128, 128, 128]]
theorem LexP.some_end {s : Int × Int × Int} (h : LexP.Inv s) : ∃ e ∈ LexP.uends, ∃ a b, Pure.st e s = some (0, a, b) := by
  obtain ⟨n, lo, hi⟩ := s
  rcases h with h | h | h | h | h | h | h | h
  · simp only at h
    subst h
    exact ⟨[], by simp [LexP.uends], lo, hi, rfl⟩
  all_goals (simp only [Prod.mk.injEq] at h; obtain ⟨rfl, rfl, rfl⟩ := h)
  · exact ⟨[128], by simp [LexP.uends], 128, 191, rfl⟩
  · exact ⟨[160, 128], by simp [LexP.uends], 128, 191, rfl⟩
  · exact ⟨[128, 128], by simp [LexP.uends], 128, 191, rfl⟩
  · exact ⟨[128, 128], by simp [LexP.uends], 128, 191, rfl⟩
  · exact ⟨[144, 128, 128], by simp [LexP.uends], 128, 191, rfl⟩
  · exact ⟨[128, 128, 128], by simp [LexP.uends], 128, 191, rfl⟩
  · exact ⟨[128, 128, 128], by simp [LexP.uends], 128, 191, rfl⟩
/-- How far the automaton came can be gone on with. -/
theorem LexP.good_end (l : List Int) : ∃ g : Nat, (Utf.good l).1 = (g : Int) ∧ g ≤ l.length ∧ ((Utf.good l).2 = true → g = l.length) ∧ ∃ e ∈ LexP.uends, (Utf.good (l.take g ++ e)).2 = true := by
  obtain ⟨m, e1, e2, ⟨s, e3⟩, e4, e5⟩ := Pure.run_prefix l 0 128 191 0
  refine ⟨m, by unfold Utf.good; omega, e2, e5, ?_⟩
  obtain ⟨e, he, a, b, hs⟩ := LexP.some_end (LexP.st_inv _ _ _ (.inl rfl) e3)
  exact ⟨e, he, (Pure.good_st _).2 ⟨a, b, by rw [Pure.st_append, e3]; exact hs⟩⟩
def LexP.ends : List (List Int) := [[], [48], [34], [117, 108, 108], [108, 108], [108], [114, 117, 101], [117, 101], [101], [97, 108, 115, 101], [108, 115, 101], [115, 101], [117, 48, 48, 48, 48, 34], [48, 48, 48, 48, 34], [48, 48, 48, 34], [48, 48, 34], [48, 34], [92, 117, 100, 99, 48, 48, 34], [117, 100, 99, 48, 48, 34], [100, 99, 48, 48, 34], [99, 48, 48, 34], [128, 34], [160, 128, 34], [128, 128, 34], [144, 128, 128, 34], [128, 128, 128, 34], [34, 34], [56, 48, 48, 34], [48, 48, 92, 117, 100, 99, 48, 48, 34], [48, 92, 117, 100, 99, 48, 48, 34]]
theorem LexP.ends_u : ∀ e ∈ LexP.uends, e ++ [34] ∈ LexP.ends ∧ (∀ x ∈ e, LexW.plain x = true) ∧ e.length ≤ 3 := by decide +kernel
theorem LexP.ends_e : ∀ e ∈ LexP.eends, e ++ [34] ∈ LexP.ends ∧ e.length ≤ 8 := by decide +kernel
theorem LexP.run_plain {L : List Int} : ∀ {A : List Int} {p : Nat} {y : Int} {zs : List Int}, L.drop p = A ++ y :: zs → (∀ b ∈ A, LexW.plain b = true) → LexW.plain y = false → LexW.tq L p = p + A.length := by
  intro A
  induction A with
  | nil =>
    intro p y zs h _ hy
    obtain ⟨h1, h2, _⟩ := LexP.drop_cons (show L.drop p = y :: zs from h)
    rw [List.length_nil, Nat.add_zero]
    exact RefP.tq_stop L p (by rintro ⟨_, h3⟩; rw [h1, hy] at h3; cases h3)
  | cons c A ih =>
    intro p y zs h hA hy
    obtain ⟨h1, h2, h3⟩ := LexP.drop_cons (show L.drop p = c :: (A ++ y :: zs) from h)
    rw [RefP.tq_go L p h2 (by rw [h1]; exact hA c (List.mem_cons_self ..))]
    rw [ih h3 (fun b hb => hA b (List.mem_cons_of_mem _ hb)) hy, List.length_cons]
    omega
/-- The last round of a good text. -/
theorem LexP.text_fin {c A zs o : List Int} {p k : Nat} (hc : c.length < 140737488355328) (h : c.drop p = A ++ 34 :: zs) (hA : ∀ b ∈ A, LexW.plain b = true) (hg : (Utf.good A).2 = true) (ho : o.length + A.length < 140737488355328) : LexW.text c (k + 1) o p = some (none, o ++ A, p + A.length + 1) := by
  have htq := LexP.run_plain h hA (by decide)
  have htpl : LexW.tpl c p = A := by
    unfold LexW.tpl
    rw [List.drop_take, htq, show p + A.length - p = A.length by omega, h, List.take_left]
  have hat := LexP.drop_at (j := A.length) h (by simp)
  have h34 : LexW.at_ c (p + A.length) = 34 := by rw [hat.1]; simp
  rw [LexW.text_eq hc, htpl, htq, h34, if_neg (by rw [hg]; rintro ⟨h, _⟩; cases h), if_pos ⟨hat.2, by decide⟩, if_pos ho, if_pos rfl]
theorem LexP.text_end {b : List Int} (hmb : b.length < 140737488351233) : ∀ (k : Nat) {o : List Int} {p n : Nat} {out : List Int} {q1 : Nat}, LexW.text b k o p = some (some n, out, q1) → p ≤ b.length → o.length ≤ p → ∃ e ∈ LexP.ends, ∃ k' out' q', LexW.text (b.take (n - 1) ++ e) k' o p = some (none, out', q') := by
  intro k
  induction k with
  | zero => intro o p n out q1 hm _ _; cases hm
  | succ k ih =>
    intro o p n out q1 hm hp ho
    have hfall := LexW.text_gt (by omega) (k + 1) hm hp
    obtain ⟨t1, t2, t3⟩ := LexP.tpl_len hp
    obtain ⟨g, g1, g2, g3, e, he, hge⟩ := LexP.good_end (LexW.tpl b p)
    rw [LexW.text_eq (by omega)] at hm
    have hplain : ∀ x ∈ LexW.tpl b p, LexW.plain x = true := by
      intro x hx
      obtain ⟨i, hi⟩ := List.mem_iff_getElem?.1 hx
      have hil := (List.getElem?_eq_some_iff.1 hi).1
      have h1 := LexP.pass_all (T := LexW.plain) (b := b) _ p i rfl (show p + i < LexW.tq b p by omega)
      have h2 : LexW.at_ b (p + i) = x := by
        unfold LexW.tpl at hi
        rw [List.getElem?_drop, List.getElem?_take_of_lt (by omega)] at hi
        unfold LexW.at_
        rw [List.getD_eq_getElem?_getD, hi]
        rfl
      rw [← h2]
      exact h1.2
    have short : n - 1 = p + g → ∃ e ∈ LexP.ends, ∃ k' out' q', LexW.text (b.take (n - 1) ++ e) k' o p = some (none, out', q') := by
      intro hn
      obtain ⟨e1, e2, e3⟩ := LexP.ends_u e he
      refine ⟨e ++ [34], e1, 1, ?_⟩
      have hd : (b.take (n - 1) ++ (e ++ [34])).drop p = ((LexW.tpl b p).take g ++ e) ++ 34 :: [] := by
        rw [hn, List.drop_append_of_le_length (by rw [List.length_take]; omega), List.append_assoc]
        congr 1
        unfold LexW.tpl
        rw [List.take_drop, List.take_take, Nat.min_eq_left (by omega)]
      have hlen := LexP.jlen (b := b) (e := e ++ [34]) (m := n - 1) (by omega)
      have e34 : (e ++ [34]).length = e.length + 1 := by simp
      rw [e34] at hlen
      refine ⟨_, _, LexP.text_fin (k := 0) (by rw [hlen]; omega) hd ?_ hge (by rw [List.length_append, List.length_take]; omega)⟩
      intro x hx
      rcases List.mem_append.1 hx with h | h
      · exact hplain x (List.mem_of_mem_take h)
      · exact e2 x h
    split at hm
    · rw [g1] at hm
      simp only [Int.toNat_natCast, Option.some.injEq, Prod.mk.injEq] at hm
      exact short (by omega)
    · rename_i hbad
      have hgl : LexW.tq b p < b.length ∨ g = (LexW.tpl b p).length := by
        by_cases h : LexW.tq b p < b.length
        · exact .inl h
        · cases hok : (Utf.good (LexW.tpl b p)).2 with
          | true => exact .inr (g3 hok)
          | false =>
            right
            by_cases h2 : g = (LexW.tpl b p).length
            · exact h2
            · exact absurd ⟨hok, .inr (by omega)⟩ hbad
      split at hm
      · rename_i h32
        have hok : (Utf.good (LexW.tpl b p)).2 = true := by
          cases hok : (Utf.good (LexW.tpl b p)).2 with
          | true => rfl
          | false => exact absurd ⟨hok, .inl h32.1⟩ hbad
        split at hm
        · rename_i hlen
          split at hm
          · cases hm
          · rename_i h34
            rcases hes : LexW.escape b (LexW.tq b p + 1) with ⟨r8, n8, q8⟩
            simp only [hes] at hm
            have hle := LexW.escape_le hes (by omega)
            -- what is alike in c
            have round : ∀ (c : List Int) (M : Nat), LexW.Ag b c M → LexW.tq b p < M → c.length < 140737488355328 → ∀ (k' : Nat) (v : Int) (q : Nat) (o3 : List Int × Int) r, LexW.escape c (LexW.tq b p + 1) = (none, v, q) → utf_Put.f (o ++ LexW.tpl b p) v = some o3 → LexW.text c k' o3.1 q = r → LexW.text c (k' + 1) o p = r := by
              intro c M hag hM hcl k' v q o3 r h1 h2 h3
              have hc := hag.2.1
              have e1 : LexW.tq c p = LexW.tq b p := LexW.pass_loc hag _ p rfl hM
              have e2 : LexW.tpl c p = LexW.tpl b p := by unfold LexW.tpl; rw [e1]; exact (hag.cut p _ (Nat.le_of_lt hM)).symm
              have e3 := hag.at hM
              rw [LexW.text_eq hcl, e1, e2, ← e3, if_neg (by rw [hok]; rintro ⟨h, _⟩; cases h), if_pos ⟨by omega, h32.2⟩, if_pos hlen, if_neg h34, h1]
              simp only [Option.isSome_none, Bool.false_eq_true, if_false, h2, Option.bind_some]
              exact h3
            cases r8 with
            | some e8 =>
              simp only [Option.isSome_some, if_true, Option.some.injEq, Prod.mk.injEq] at hm
              obtain ⟨m1, _, _⟩ := hm
              subst m1
              obtain ⟨x1, x2, e, he, hz⟩ := LexP.escape_end hes (by omega)
              obtain ⟨v', hv'⟩ := hz [34]
              obtain ⟨e1, e3⟩ := LexP.ends_e e he
              refine ⟨e ++ [34], e1, 2, ?_⟩
              have hcl := LexP.jlen (b := b) (e := e ++ [34]) (m := e8 - 1) (by omega)
              have e34 : (e ++ [34]).length = e.length + 1 := by simp
              rw [e34] at hcl
              obtain ⟨o3, hput, ho3⟩ := LexP.put_total (o ++ LexW.tpl b p) v' (by rw [List.length_append]; omega)
              rw [List.length_append] at ho3
              have hd : (b.take (e8 - 1) ++ (e ++ [34])).drop (e8 - 1 + e.length) = [] ++ 34 :: [] := by
                rw [← List.drop_drop, LexP.jdrop (by omega), List.drop_left]
                rfl
              have hfin := LexP.text_fin (k := 0) (o := o3.1) (by rw [hcl]; omega) hd (by intro x hx; cases hx) (by decide) (by rw [List.length_nil]; omega)
              exact ⟨_, _, round _ (e8 - 1) (LexP.jag (by omega)) (by omega) (by rw [hcl]; omega) 1 v' _ o3 _ hv' hput hfin⟩
            | none =>
              simp only [Option.isSome_none, Bool.false_eq_true, if_false] at hm
              obtain ⟨o3, ho3, hm⟩ := Option.bind_eq_some_iff.mp hm
              have hgt := LexW.text_gt (by omega) k hm hle
              have hg2 := LexW.escape_gt hes
              obtain ⟨o3', hput, ho3'⟩ := LexP.put_len (o ++ LexW.tpl b p) (by rw [List.length_append]; omega) hes
              have e33 : o3 = o3' := by rw [ho3] at hput; exact Option.some.inj hput
              subst e33
              rw [List.length_append] at ho3'
              obtain ⟨e, he, k', out', q', ht⟩ := ih hm hle (by omega)
              refine ⟨e, he, k' + 1, out', q', ?_⟩
              have hel : e.length ≤ 9 := by
                have : ∀ e ∈ LexP.ends, e.length ≤ 9 := by decide +kernel
                exact this e he
              have hcl := LexP.jlen (b := b) (e := e) (m := n - 1) (by omega)
              have hag := LexP.jag (b := b) (e := e) (m := n - 1) (by omega)
              exact round _ (n - 1) hag (by omega) (by rw [hcl]; omega) k' n8 q8 o3 _ (LexW.escape_loc hag hes (by omega)) hput ht
        · cases hm
      · rename_i h32
        simp only [Option.some.injEq, Prod.mk.injEq] at hm
        refine short ?_
        have : g = (LexW.tpl b p).length := by
          rcases hgl with h | h
          · cases hok : (Utf.good (LexW.tpl b p)).2 with
            | true => exact g3 hok
            | false => exact absurd ⟨hok, .inl h⟩ hbad
          · exact h
        omega

-- GIVEN plain making
theorem LexP.ends_len : ∀ e ∈ LexP.ends, e.length ≤ 9 := by decide +kernel
theorem LexP.word_end {x : Int} {w b : List Int} {p n q1 : Nat} (hm : LexW.exactly (x :: w) b p = (some n, q1)) (hp : p < b.length) (hat : LexW.at_ b p = x) : ∃ j, j < w.length ∧ p < n - 1 ∧ n - 1 ≤ b.length ∧ (LexW.exactly (x :: w) (b.take (n - 1) ++ w.drop j) p).1 = none := by
  have go : ∀ (c : List Int), p < c.length → LexW.at_ c p = x → LexW.exactly (x :: w) c p = LexW.exactly w c (p + 1) := by
    intro c h1 h2
    have e : LexW.must (fun y => y == x) c p = (none, p + 1) := by unfold LexW.must; rw [if_pos h1, h2, if_pos (by simp)]
    rw [LexW.exactly, e]
    simp only [Option.isSome_none, Bool.false_eq_true, if_false]
  rw [go b hp hat] at hm
  obtain ⟨j, j1, j2, j3, j4⟩ := LexP.exactly_end hm (by omega)
  have j5 := j4 []
  rw [List.append_nil] at j5
  have hag := LexP.jag (b := b) (e := w.drop j) j3
  refine ⟨j, j1, by omega, j3, ?_⟩
  rw [go _ (by have := hag.2.1; omega) (by rw [← hag.at (by omega)]; exact hat), j5]
theorem LexP.sw_end {b : List Int} (hmb : b.length < 140737488351233) {k n q1 : Nat} {kd : Int} {out : List Int} (hs : LexW.sw b k (LexW.pass LexW.blank b 0) = some (some n, kd, out, q1)) : ∃ e ∈ LexP.ends, ∃ k' kd' out' q', LexW.sw (b.take (n - 1) ++ e) k' (LexW.pass LexW.blank (b.take (n - 1) ++ e) 0) = some (none, kd', out', q') := by
  obtain ⟨h1, h2, h3⟩ := LexW.sw_fall (by omega) hs
  obtain ⟨p, hp⟩ : ∃ p, p = LexW.pass LexW.blank b 0 := ⟨_, rfl⟩
  have far : ∀ e : List Int, p < n - 1 → n - 1 ≤ b.length → LexW.pass LexW.blank (b.take (n - 1) ++ e) 0 = p ∧ p < (b.take (n - 1) ++ e).length ∧ LexW.at_ (b.take (n - 1) ++ e) p = LexW.at_ b p := by
    intro e g1 g2
    have hag := LexP.jag (b := b) (e := e) g2
    refine ⟨?_, by have := hag.2.1; omega, (hag.at g1).symm⟩
    rw [hp]
    exact LexW.pass_loc hag _ 0 rfl (by omega)
  have hpb := hp
  rw [← hp] at hs h1 h2
  unfold LexW.sw at hs
  rw [if_pos h1] at hs
  have word : ∀ (x : Int) (w : List Int), LexW.at_ b p = x → (LexW.exactly (x :: w) b p).1 = some n → (∀ j, j < w.length → w.drop j ∈ LexP.ends) → (∀ c : List Int, LexW.at_ c p = x → p < c.length → ∀ k', LexW.sw c k' p = some ((LexW.exactly (x :: w) c p).1, 3, [], (LexW.exactly (x :: w) c p).2)) → ∃ e ∈ LexP.ends, ∃ k' kd' out' q', LexW.sw (b.take (n - 1) ++ e) k' (LexW.pass LexW.blank (b.take (n - 1) ++ e) 0) = some (none, kd', out', q') := by
    intro x w g1 g2 g3 g4
    obtain ⟨j, j1, j2, j3, j4⟩ := LexP.word_end (Prod.ext g2 rfl) h1 g1
    obtain ⟨f1, f2, f3⟩ := far (w.drop j) j2 j3
    refine ⟨w.drop j, g3 j j1, 0, ?_⟩
    rw [f1, g4 _ (by rw [f3]; exact g1) f2, j4]
    exact ⟨_, _, _, rfl⟩
  split at hs
  · cases hs
  · rename_i g0
    split at hs
    · rename_i g1
      refine word 110 [117, 108, 108] g1 (LexW.inj4 hs).1 (by decide +kernel) (fun c c1 c2 k' => ?_)
      unfold LexW.sw
      rw [if_pos c2, c1, if_neg (by decide), if_pos rfl]
    · rename_i g1
      split at hs
      · rename_i g2
        refine word 116 [114, 117, 101] g2 (LexW.inj4 hs).1 (by decide +kernel) (fun c c1 c2 k' => ?_)
        unfold LexW.sw
        rw [if_pos c2, c1, if_neg (by decide), if_neg (by decide), if_pos rfl]
      · rename_i g2
        split at hs
        · rename_i g3
          refine word 102 [97, 108, 115, 101] g3 (LexW.inj4 hs).1 (by decide +kernel) (fun c c1 c2 k' => ?_)
          unfold LexW.sw
          rw [if_pos c2, c1, if_neg (by decide), if_neg (by decide), if_neg (by decide), if_pos rfl]
        · rename_i g3
          split at hs
          · rename_i g4
            have hnum : LexW.number b p = (some n, (LexW.number b p).2) := Prod.ext (LexW.inj4 hs).1 rfl
            obtain ⟨e1, e2⟩ := LexP.number_end hnum h1 g4
            obtain ⟨f1, f2, f3⟩ := far [48] e1 (by omega)
            refine ⟨[48], by decide +kernel, 0, ?_⟩
            rw [f1]
            unfold LexW.sw
            rw [if_pos f2, f3, if_neg g0, if_neg g1, if_neg g2, if_neg g3, if_pos g4, e2]
            exact ⟨_, _, _, rfl⟩
          · rename_i g4
            split at hs
            · rename_i g5
              obtain ⟨⟨t1, t2, t3⟩, ht, hs⟩ := Option.bind_eq_some_iff.mp hs
              have a1 := (LexW.inj4 hs).1
              dsimp only at a1
              subst a1
              have hgt := LexW.text_gt (by omega) k ht (by omega)
              obtain ⟨e, he, k', out', q', hte⟩ := LexP.text_end hmb k ht (by omega) (by simp)
              obtain ⟨f1, f2, f3⟩ := far e (by omega) (by omega)
              refine ⟨e, he, k', ?_⟩
              rw [f1]
              unfold LexW.sw
              rw [if_pos f2, f3, if_neg g0, if_neg g1, if_neg g2, if_neg g3, if_neg g4, if_pos g5, hte]
              exact ⟨_, _, _, rfl⟩
            · have hn := (LexW.inj4 hs).1
              injection hn with hn
              refine ⟨[], by decide +kernel, 0, ?_⟩
              rw [List.append_nil, show n - 1 = p by omega]
              have hl : (b.take p).length = p := by rw [List.length_take]; omega
              have e1 : LexW.pass LexW.blank (b.take p) 0 = p := by
                have u1 : LexW.pass LexW.blank (b.take p) 0 ≤ (b.take p).length := LexW.pass_le _ _ _ _ rfl (by omega)
                have u2 : 0 + p ≤ LexW.pass LexW.blank (b.take p) 0 := by
                  refine LexP.pass_ge p 0 (fun i hi => ⟨by omega, ?_⟩)
                  have := LexP.pass_all (T := LexW.blank) (b := b) _ 0 i rfl (by omega)
                  have hag := LexP.jag (b := b) (e := []) (m := p) (by omega)
                  rw [List.append_nil] at hag
                  rw [← hag.at (by omega)]
                  exact this.2
                omega
              rw [e1]
              unfold LexW.sw
              rw [if_neg (by omega)]
              exact ⟨_, _, _, rfl⟩
/-- What is bad: as long as told; shorter it can be gone on with by one of the ends; what stands behind it changes nothing. -/
theorem LexP.bad {b : List Int} (hmb : b.length < 140737488351233) {k n : Nat} {rk : Int} {rx : List Int} {rf rt2 : Nat} (h : LexW.next b k 0 = some (rk, rx, rf, rt2, n, 50)) :
    1 ≤ n ∧ n ≤ b.length + 1 ∧ (∃ e ∈ LexP.ends, ∃ k' rk rx rf rt2, LexW.next (b.take (n - 1) ++ e) k' 0 = some (rk, rx, rf, rt2, 0, 0)) ∧ (n ≤ b.length → ∀ e : List Int, e.length ≤ 9 → LexW.next (b.take n ++ e) k 0 = some (0, [], 0, 0, n, 50)) := by
  obtain ⟨kd, out, q, hs⟩ := LexW.next_fall (by omega) h
  obtain ⟨h1, h2, h3⟩ := LexW.sw_fall (by omega) hs
  refine ⟨by omega, h3, ?_, fun hn e he => ?_⟩
  · obtain ⟨e, he, k', kd', out', q', hse⟩ := LexP.sw_end hmb hs
    exact ⟨e, he, k', LexW.next_ok hse⟩
  · exact LexW.next_bad (by omega) (by rw [LexP.jlen hn]; omega) h (LexP.jag hn)

-- GIVEN plain making
/-- append(v, y...), y a string: one step of a region that draws its order. -/
theorem LexT.append_str_step {P : Program} {ops : Array Oper} {o : Oper} {a : Act} {Q : Exit → Act → World → Prop} {Kc : Act → World → Prop} {w0 W : World} (base : Nat) (hw : Region.wanted o (yielded ops a.tmps) = true) (sl x : Operand) (t u e : TypeId) (ho : o.op = .call { callee := .builtin .append, args := #[sl, x], argTypes := #[t, u] })
    (ht : P.underlying t = some (.slice e)) (hu : P.underlying u = some .string) (hinfo : (P.info? e).map (fun i => (i.zero, i.size, i.bytes)) = some (some (.int .u8 0), 1, 1)) (v : Value) (xs : List Int) (hs : a.eval sl = v) (y : ByteArray) (hx : a.eval x = .string y)
    (HO : Kd.R (Kd.int .u8) e W base (fun _ => True) v xs) (HB : Below base w0 W) (hbase : base ≤ W.heap.size) (hl : xs.length + y.size ≤ 140737488355328)
    (h : ∀ v1 w1, Kd.R (Kd.int .u8) e w1 base (fun _ => True) v1 (xs ++ bytesOf y) → Below base w0 w1 → W.grownBy w1 v.ownBlock → Kc (a.put o.dst v1) w1) :
    if Region.wanted o (yielded ops a.tmps) = true then Oper.wp P o a W Kc Q else Kc (a.put o.dst undef) W := by
  obtain ⟨i0, hi, hzz⟩ := Option.map_eq_some_iff.1 hinfo
  simp only [Prod.mk.injEq] at hzz
  obtain ⟨hz0, hz1, hz2⟩ := hzz
  have own := Kd.own_of_R HO
  have hxl : (encs (Value.int .u8) xs).length = xs.length := by simp [encs]
  obtain ⟨v', w', hr, h2, h3, _⟩ := Lib.run_append_own_string (P := P) W base t u o.type e i0 ht hu hi hz0 hz1 hz2 v xs.length (encs (Value.int .u8) xs) own y (by simp only [maxLen]; omega) hl hbase
  have hl2 : (xs ++ bytesOf y).length = xs.length + y.size := by rw [List.length_append, bytesOf_length]
  have hc : encs (Value.int .u8) (xs ++ bytesOf y) = encs (Value.int .u8) xs ++ Lib.strCells y := by
    unfold encs
    rw [List.map_append]
    congr 1
    simp [bytesOf, Lib.strCells]
  have hrun : (execOp a.eval o).run P W = .ok (.value v') w' := by
    unfold execOp
    simp only [ho, resolve, invoke, builtin, Sem.run_bind, Sem.run_pure, Result.andThen_ok, List.map_toArray, List.map_cons, List.map_nil, hs, hx, hr]
  exact event_step hw hrun (h v' w' (Kd.R_of_own (by rw [hl2, hc]; exact h2) (fun _ _ => trivial)) (HB.grown h3 hbase (own_base own)) h3)
/-- A literal row, its cells told. -/
theorem LexT.lit_row {P : Program} {ops : Array Oper} {rest : List Oper} {o : Oper} {a : Act} {Q : Exit → Act → World → Prop} {W : World} (hgd : o.guard = none) {N : Tmp} (_hd : o.dst = some N) {cs : Array Value} {t : TypeId} {n : Nat}
    (hrun : (execOp a.eval o).run P W = .ok (.value (.slice (some ⟨W.heap.size, 0, none⟩) n n)) (W.alloc (.cells cs t (0, 0))))
    (h : ∀ g, g = W.heap.size → ∀ w1, w1.heap[g]? = some (.cells cs t (0, 0)) → Below W.heap.size W w1 → wpList P ops Q rest (a.put o.dst (.slice (some ⟨g, 0, none⟩) n n)) w1) : wpList P ops Q (o :: rest) a W :=
  Kd.event_run hgd hrun (h _ rfl _ (blk_new W _) (below_alloc (Below.refl _ _) _))
def LexT.endV : Array Value := #[.string (⟨#[]⟩ : ByteArray), .string (⟨#[48]⟩ : ByteArray), .string (⟨#[34]⟩ : ByteArray), .string (⟨#[117, 108, 108]⟩ : ByteArray), .string (⟨#[108, 108]⟩ : ByteArray), .string (⟨#[108]⟩ : ByteArray), .string (⟨#[114, 117, 101]⟩ : ByteArray), .string (⟨#[117, 101]⟩ : ByteArray), .string (⟨#[101]⟩ : ByteArray), .string (⟨#[97, 108, 115, 101]⟩ : ByteArray), .string (⟨#[108, 115, 101]⟩ : ByteArray), .string (⟨#[115, 101]⟩ : ByteArray), .string (⟨#[117, 48, 48, 48, 48, 34]⟩ : ByteArray), .string (⟨#[48, 48, 48, 48, 34]⟩ : ByteArray), .string (⟨#[48, 48, 48, 34]⟩ : ByteArray), .string (⟨#[48, 48, 34]⟩ : ByteArray), .string (⟨#[48, 34]⟩ : ByteArray), .string (⟨#[92, 117, 100, 99, 48, 48, 34]⟩ : ByteArray), .string (⟨#[117, 100, 99, 48, 48, 34]⟩ : ByteArray), .string (⟨#[100, 99, 48, 48, 34]⟩ : ByteArray), .string (⟨#[99, 48, 48, 34]⟩ : ByteArray), .string (⟨#[128, 34]⟩ : ByteArray), .string (⟨#[160, 128, 34]⟩ : ByteArray), .string (⟨#[128, 128, 34]⟩ : ByteArray), .string (⟨#[144, 128, 128, 34]⟩ : ByteArray), .string (⟨#[128, 128, 128, 34]⟩ : ByteArray), .string (⟨#[34, 34]⟩ : ByteArray), .string (⟨#[56, 48, 48, 34]⟩ : ByteArray), .string (⟨#[48, 48, 92, 117, 100, 99, 48, 48, 34]⟩ : ByteArray), .string (⟨#[48, 92, 117, 100, 99, 48, 48, 34]⟩ : ByteArray)]
theorem LexT.endV_at : ∀ i, i < 30 → LexT.endV[i]? = some (.string (strOfNums (LexP.ends.getD i []))) := by
  intro i hi
  obtain rfl | rfl | rfl | rfl | rfl | rfl | rfl | rfl | rfl | rfl | rfl | rfl | rfl | rfl | rfl | rfl | rfl | rfl | rfl | rfl | rfl | rfl | rfl | rfl | rfl | rfl | rfl | rfl | rfl | rfl : i = 0 ∨ i = 1 ∨ i = 2 ∨ i = 3 ∨ i = 4 ∨ i = 5 ∨ i = 6 ∨ i = 7 ∨ i = 8 ∨ i = 9 ∨ i = 10 ∨ i = 11 ∨ i = 12 ∨ i = 13 ∨ i = 14 ∨ i = 15 ∨ i = 16 ∨ i = 17 ∨ i = 18 ∨ i = 19 ∨ i = 20 ∨ i = 21 ∨ i = 22 ∨ i = 23 ∨ i = 24 ∨ i = 25 ∨ i = 26 ∨ i = 27 ∨ i = 28 ∨ i = 29 := by omega
  all_goals rfl
theorem LexP.ends_bytes : ∀ e ∈ LexP.ends, ∀ x ∈ e, 0 ≤ x ∧ x ≤ 255 := by decide +kernel
theorem LexP.end_at {i : Nat} (h : i < 30) : LexP.ends.getD i [] ∈ LexP.ends := by
  rw [List.getD_eq_getElem?_getD, List.getElem?_eq_getElem (show i < LexP.ends.length from h)]
  exact List.getElem_mem _
theorem LexP.end_str {i : Nat} (h : i < 30) : bytesOf (strOfNums (LexP.ends.getD i [])) = LexP.ends.getD i [] := by
  have hb := LexP.ends_bytes _ (LexP.end_at h)
  unfold bytesOf strOfNums
  simp only
  rw [List.map_map]
  conv => rhs; rw [← List.map_id (LexP.ends.getD i [])]
  refine List.map_congr_left fun x hx => ?_
  have := hb x hx
  simp
  omega
/-- What next tells of each end, the good one told as good. -/
theorem LexP.round {b : List Int} (hmb : b.length < 140737488351233) {k n : Nat} {rk : Int} {rx : List Int} {rf rt2 : Nat} (h : LexW.next b k 0 = some (rk, rx, rf, rt2, n, 50)) :
    ∃ j, j < 30 ∧ ∀ i, i < 30 → ∃ k' rk rx rf rt2 rn re, LexW.next (b.take (n - 1) ++ LexP.ends.getD i []) k' 0 = some (rk, rx, rf, rt2, rn, re) ∧ (i = j → re = 0) := by
  obtain ⟨h1, h2, ⟨e, he, k', rk', rx', rf', rt', hg⟩, _⟩ := LexP.bad hmb h
  obtain ⟨j, hj⟩ := List.mem_iff_getElem?.1 he
  have hjl : j < LexP.ends.length := (List.getElem?_eq_some_iff.1 hj).1
  have hjl : j < 30 := hjl
  refine ⟨j, hjl, fun i hi => ?_⟩
  by_cases hij : i = j
  · subst hij
    have e1 : LexP.ends.getD i [] = e := by rw [List.getD_eq_getElem?_getD, hj]; rfl
    rw [e1]
    exact ⟨k', _, _, _, _, _, _, hg, fun _ => rfl⟩
  · have hel := LexP.ends_len _ (LexP.end_at hi)
    have hcl := LexP.jlen (b := b) (e := LexP.ends.getD i []) (m := n - 1) (by omega)
    obtain ⟨⟨r1, r2, r3, r4, r5, r6⟩, hr⟩ := LexW.next_total2 (b.take (n - 1) ++ LexP.ends.getD i []) (by rw [hcl]; omega) (b.length + 20) (by rw [hcl]; omega) 0
    exact ⟨_, _, _, _, _, _, _, hr, fun h => absurd h hij⟩

-- GIVEN plain making
attribute [local go_sem high] LexT.eq25 LexT.conv_const
theorem LexT.blk_drew {w : World} {g : Nat} {o : Obj} (h : w.heap[g]? = some o) : w.drew.heap[g]? = some o := h
theorem LexW.next_zero {b : List Int} {k : Nat} {a rk : Int} {rx : List Int} {rf rt2 rn : Nat} {re : Int} (h : LexW.next b k a = some (rk, rx, rf, rt2, rn, re)) (he : re ≠ 50) : rn = 0 := by
  unfold LexW.next at h
  split at h
  · exact (LexW.inj6 h).2.2.2.2.1.symm
  · split at h
    · exact (LexW.inj6 h).2.2.2.2.1.symm
    · obtain ⟨⟨rt, kt, txt, ft, et⟩, _, h⟩ := Option.bind_eq_some_iff.mp h
      cases rt with
      | some e => exact absurd (LexW.inj6 h).2.2.2.2.2.symm he
      | none => exact (LexW.inj6 h).2.2.2.2.1.symm
set_option maxHeartbeats 4000000 in
set_option maxRecDepth 100000 in
theorem lexlaw_Bad.calls (A0 : Option Addr) (c0 : Nat) (l0 : List Int) (w : World) (hr0 : Kd.C (Kd.int .u8) w A0 l0.length l0) (hcp : l0.length ≤ c0) (y0 : l0.length ≤ 140737488351232) (hb0 : Utf.Bytes l0) (hgl : w.cell? ⟨0, 0, none⟩ = some (.iface 98 (.agg #[.pointer (some ⟨2, 46, none⟩)]))) :
    Calls Tryd.prog 6 #[.slice A0 l0.length c0] w fun e w' => e = .returned (.bool true) ∧ Below w.heap.size w w' := by
  obtain ⟨⟨rk, rx, rf, rt2, rn, re⟩, hnx⟩ := LexW.next_total2 l0 (by omega) (l0.length + 20) (by omega) 0
  have hm : l0.length < 4611686018427387904 := by omega
  obtain ⟨N, hN⟩ : ∃ N : Int, N = (rn : Int) := ⟨_, rfl⟩
  have hu25 := Tryd.underlying25
  have HR0 := Aside0.mk hr0
  have HGL := Aside0.mk hgl
  have HB := Aside0.mk (Below.refl w.heap.size w)
  have HNX := Aside0.mk (show ∀ W : World, Below w.heap.size w W → Calls Tryd.prog 9 #[.slice A0 l0.length c0, .int .i64 0] W fun e w' => e = .returned (.tuple #[.agg #[.int .i64 rk, .string (strOfNums rx), .int .i64 rf, .int .i64 rt2], .int .i64 N, .int .i64 re]) ∧ Below W.heap.size W w' by
    intro W hW
    rw [hN]
    exact lexn_Next.calls (l0.length + 20) A0 c0 l0 0 rk rx rf rt2 rn re W (Kd.C_below HR0.out hW) hcp hm (LexW.at_bytes hb0) (pw_cell_below hW HGL.out) hnx)
  have HN0 := Aside0.mk hN
  clear hr0 hgl hN
  go_enter Tryd.func6, Tryd.ntmps6
  go_upto_region 1 with (fail)
  go_cut [3, 4, 5] (fun v3 v4 v5 wc => ∃ t3, v3 = .pointer (some ⟨t3, 0, none⟩) ∧ v4 = .int .i64 N ∧ v5 = .int .i64 re ∧ Aside0 (Below w.heap.size w wc) ∧ Aside0 (w.heap.size ≤ t3) ∧ Aside0 (wc.heap[t3]? = some (.cells #[.int .i64 rk, .string (strOfNums rx), .int .i64 rf, .int .i64 rt2] 25 (0, 0))))
  case first =>
    go_wp2_with (first | (go_at_call 9; (with_reducible refine (HNX.out _ HB.out).mono ?_); rintro e w1 ⟨rfl, hb⟩; have n1_ := Aside0.mk (below_step HB.out hb); clear HB hb; have HB := n1_; clear n1_) | ((with_reducible refine gate_dst (N := 3) rfl ?_); (try (refine gate_guard (by rfl) ?_; dsimp only)); refine box_event ?hg (N := 3) ?hd (cs := #[.int .i64 0, .string (⟨#[]⟩ : ByteArray), .int .i64 0, .int .i64 0]) (t := 25) ?hr ?_; (case hd => rfl); (case hg => rfl); (case hr => first | (go_simp; done) | (go_simp; rfl)); intro t3 hg w2 hbox hb; have n1_ := Aside0.mk (below_step HB.out hb); have HG_ := Aside0.mk (show w.heap.size ≤ t3 by rw [hg]; exact HB.out.size); clear HB; have HB := n1_; have HT := Aside0.mk hbox; clear n1_ hb hbox hg; have ht0 := (blk_cell HT.out 0).trans rfl; have hf0 := blk_frozen HT.out 0; have ht1 := (blk_cell HT.out 1).trans rfl; have hf1 := blk_frozen HT.out 1; have ht2 := (blk_cell HT.out 2).trans rfl; have hf2 := blk_frozen HT.out 2; have ht3 := (blk_cell HT.out 3).trans rfl; have hf3 := blk_frozen HT.out 3))
    go_meet
    case rel => exact ⟨t3, rfl, rfl, rfl, ⟨below_set (below_set (below_set (below_set HB.out HG_.out) HG_.out) HG_.out) HG_.out⟩, HG_, ⟨blk_put (blk_put (blk_put (blk_put HT.out 0 _ rfl) 1 _ rfl) 2 _ rfl) 3 _ rfl⟩⟩
  case rest =>
    clear HB
    obtain ⟨t3, rfl, rfl, rfl, HB, HG_t3, HT_t3⟩ := hcut
    clear HNX
    have hN := HN0.out
    clear HN0
    by_cases he : re = 50
    · subst he
      obtain ⟨g1, g2, g3, g4⟩ := LexP.bad (by omega) hnx
      obtain ⟨js, hjs, hround⟩ := LexP.round (by omega) hnx
      obtain ⟨G, hG⟩ : ∃ x, x = l0.take (rn - 1) := ⟨_, rfl⟩
      have hGl : G.length = rn - 1 := by rw [hG, List.length_take]; omega
      have hGb : Utf.Bytes G := by intro x hx; rw [hG] at hx; exact hb0 x (List.mem_of_mem_take hx)
      rw [← hG] at hround
      obtain ⟨i0, hi0, _, hsz0, _⟩ := info_parts info5
      obtain ⟨hct, hA9, hC9⟩ := print_take_of (P := Tryd.prog) (Value.int .u8) 0 22 5 .i64 Tryd.underlying22 hi0 hsz0 A0 c0 l0 ((rn - 1 : Nat) : Int) (by omega) (by omega) hcp
      simp only [Int.toNat_natCast] at hct hA9 hC9
      rw [← hG] at hct hA9 hC9
      have HGC := Aside0.mk (show Kd.C (Kd.int .u8) w A0 G.length G from Kd.C_of_reads (h1 := fun _ => rfl) (hA9 _ (Kd.reads_of_C HR0.out)))
      have HLB := Aside0.mk (show G.length ≤ 140737488351232 by omega)
      have n1 : decide (N < 1) = false := decide_eq_false (by omega)
      have n2 : decide ((l0.length : Int) + 1 < N) = false := decide_eq_false (by omega)
      have n3 : wrap64 (N - 1) = ((rn - 1 : Nat) : Int) := by unfold wrap64; omega
      have n4 : IntKind.i64.wrap (N - 1) = ((rn - 1 : Nat) : Int) := by rw [IntKind.wrap_i64]; omega
      have n5 : mn ((rn - 1 : Nat) : Int) (l0.length : Int) = ((rn - 1 : Nat) : Int) := by unfold mn; rw [if_neg (by omega)]
      have hT2 : rn ≤ l0.length → ∃ TN : List Int, (∀ W : World, (Instr.slice 22 (.slice A0 l0.length c0) none (some (.int .i64 N)) none).run Tryd.prog W = .ok (.slice A0 TN.length c0) W) ∧ Kd.C (Kd.int .u8) w A0 TN.length TN ∧ TN.length ≤ 140737488351232 ∧ ∀ (E : List Int) (W : World) (A2 : Option Addr) (c2 : Nat), E.length ≤ 9 → Utf.Bytes E → Kd.C (Kd.int .u8) W A2 (TN ++ E).length (TN ++ E) → (TN ++ E).length ≤ c2 → W.cell? ⟨0, 0, none⟩ = some (.iface 98 (.agg #[.pointer (some ⟨2, 46, none⟩)])) → Calls Tryd.prog 9 #[.slice A2 (TN ++ E).length c2, .int .i64 0] W fun e w' => e = .returned (.tuple #[.agg #[.int .i64 0, .string (⟨#[]⟩ : ByteArray), .int .i64 0, .int .i64 0], .int .i64 N, .int .i64 50]) ∧ Below W.heap.size W w' := by
        intro hle
        obtain ⟨hct2, hA8, hC8⟩ := print_take_of (P := Tryd.prog) (Value.int .u8) 0 22 5 .i64 Tryd.underlying22 hi0 hsz0 A0 c0 l0 N (by omega) (by omega) hcp
        have hNt : N.toNat = rn := by omega
        rw [hNt] at hct2 hA8
        have hTb : Utf.Bytes (l0.take rn) := fun x hx => hb0 x (List.mem_of_mem_take hx)
        refine ⟨l0.take rn, hct2, Kd.C_of_reads (h1 := fun _ => rfl) (hA8 _ (Kd.reads_of_C HR0.out)), by rw [List.length_take]; omega, fun E W A2 c2 hE hEb hC hcc hg => ?_⟩
        have hl2 := LexP.jlen (b := l0) (e := E) hle
        rw [hN]
        exact lexn_Next.calls (l0.length + 20) A2 c2 (l0.take rn ++ E) 0 0 [] 0 0 rn 50 W hC hcc (by omega) (LexW.at_bytes (by intro x hx; rcases List.mem_append.1 hx with h | h; exact hTb x h; exact hEb x h)) hg (g4 hle E hE)
      have HT2 := Aside0.mk hT2
      have HROUND := Aside0.mk hround
      have HGB := Aside0.mk hGb
      have HJS := Aside0.mk hjs
      have HNL := Aside0.mk (show (rn ≤ l0.length ∧ decide (N ≤ (l0.length : Int)) = true) ∨ (¬ rn ≤ l0.length ∧ decide (N ≤ (l0.length : Int)) = false) by
        by_cases h : rn ≤ l0.length
        · exact .inl ⟨h, decide_eq_true (by omega)⟩
        · exact .inr ⟨h, decide_eq_false (by omega)⟩)
      have n6 : (l0.length < rn - 1) = False := eq_false (by omega)
      clear hA9 hC9 hi0 hsz0 g1 g2 g3 g4 hT2 hround hG hGl hGb hN hnx hjs
      go_wp2_with (first | ((with_reducible refine gate_dst (N := 45) rfl ?_); refine LexT.lit_row ?hg (N := 45) ?hd (cs := LexT.endV) (t := 9) (n := 30) ?hr ?_; (case hd => rfl); (case hg => rfl); (case hr => first | (go_simp; done) | (go_simp; rfl)); intro te hte w45 hbox hb; have HT_e := Aside0.mk hbox; have n1_ := Aside0.mk (below_step HB.out hb); clear HB hb hbox hte; have HB := n1_; clear n1_))
      clear n1 n2 n3 n4 n5 n6 hct
      go_loopg [8, 9] (30 : Nat) (fun kq v8 v9 wr => ∃ (i : Nat) (sm : Bool), v8 = .bool sm ∧ v9 = .int .i64 i ∧ i ≤ 30 ∧ kq = 30 - i ∧ Aside0 (js < i → sm = true) ∧ Aside0 (Below w.heap.size w wr) ∧ Aside0 (wr.heap[te]? = some (.cells LexT.endV 9 (0, 0))))
      case atStart => exact ⟨0, false, rfl, rfl, Nat.zero_le _, rfl, ⟨fun h => by omega⟩, HB, HT_e⟩
      case round =>
        clear HB HT_e
        obtain ⟨i, sm, rfl, rfl, hi, hk, HSM, HB, HT_e⟩ := hrel
        by_cases hlt : i < 30
        · have hsi := LexT.endV_at i hlt
          have hstr := LexP.end_str hlt
          have hEl := LexP.ends_len _ (LexP.end_at hlt)
          have hEb : Utf.Bytes (LexP.ends.getD i []) := LexP.ends_bytes _ (LexP.end_at hlt)
          obtain ⟨k', rk1, rx1, rf1, rt1, rn1, re1, hnx1, hgood1⟩ := HROUND.out i hlt
          obtain ⟨E, hE⟩ : ∃ x, x = LexP.ends.getD i [] := ⟨_, rfl⟩
          rw [← hE] at hsi hstr hEl hEb hnx1
          obtain ⟨si, hsi'⟩ : ∃ x, x = strOfNums E := ⟨_, rfl⟩
          rw [← hsi'] at hsi hstr
          have hsl : si.size ≤ 9 := by rw [← bytesOf_length, hstr]; exact hEl
          obtain ⟨L1, hL1⟩ : ∃ x, x = G ++ E := ⟨_, rfl⟩
          have HNX1 := Aside0.mk (show ∀ (W : World) (A2 : Option Addr) (c2 : Nat), Kd.C (Kd.int .u8) W A2 L1.length L1 → L1.length ≤ c2 → W.cell? ⟨0, 0, none⟩ = some (.iface 98 (.agg #[.pointer (some ⟨2, 46, none⟩)])) → Calls Tryd.prog 9 #[.slice A2 L1.length c2, .int .i64 0] W fun e w' => e = .returned (.tuple #[.agg #[.int .i64 rk1, .string (strOfNums rx1), .int .i64 rf1, .int .i64 rt1], .int .i64 rn1, .int .i64 re1]) ∧ Below W.heap.size W w' by
            intro W A2 c2 hC hcc hg
            rw [← hL1] at hnx1
            exact lexn_Next.calls k' A2 c2 L1 0 rk1 rx1 rf1 rt1 rn1 re1 W hC hcc (by have := HLB.out; rw [hL1, List.length_append]; omega) (LexW.at_bytes (by intro x hx; rw [hL1] at hx; rcases List.mem_append.1 hx with h | h; exact HGB.out x h; exact hEb x h)) hg hnx1)
          have HSL := Aside0.mk hsl
          have HL1 := Aside0.mk (show G ++ bytesOf si = L1 by rw [hstr, hL1])
          have HSTR := Aside0.mk hstr
          have HEB := Aside0.mk (And.intro hEl hEb)
          have HGOOD := Aside0.mk hgood1
          have bi : decide ((i : Int) < 30) = true := decide_eq_true (by omega)
          have bi0 : (0 : Int) ≤ (i : Int) := by omega
          have bi1 : (i : Int) < 30 := by omega
          clear hE hsi' hL1 hnx1 hgood1 hstr hEl hEb hsl
          go_upto_region 12 with (fail)
          go_cut [12] (fun v12 wc => v12 = .int .i64 re1 ∧ Aside0 (Below w.heap.size w wc) ∧ Aside0 (wc.heap[te]? = some (.cells LexT.endV 9 (0, 0))))
          case first =>
            have n1_ := Aside0.mk (below_drew1 HB.out)
            have n2_ := Aside0.mk (LexT.blk_drew HT_e.out)
            clear HB HT_e
            have HB := n1_
            have HT_e := n2_
            clear n1_ n2_
            refine start_ (n := 17) (S := fun w' => w'.cell? ⟨te, i, none⟩ = some (.string si)) (ds := []) #[false, false, false, false, false, false, false, false, false, false, false, false, false, false, false, false, false] (by kernel_rfl) rfl rfl ((blk_cell HT_e.out i).trans hsi) (fun hHeld => ?_)
            refine pure_ (i := 1) (N := some 54) (v := ?_) (a' := ?_) #[false, true, false, false, false, false, false, false, false, false, false, false, false, false, false, false, false] rfl rfl (by kernel_rfl) (fun _ _ _ h => h) (Or.inl ⟨by rfl, ?_⟩) ?_ ?_
            rotate_left
            · intro w'
              go_simp
              with_reducible rfl
            rotate_left
            · simp only [Act.put, List.setIfInBounds_toArray, List.set_cons_zero, List.set_cons_succ, i64_w, i32_w]
              rfl
            refine pure_ (i := 3) (N := some 56) (v := ?_) (a' := ?_) #[false, true, false, true, false, false, false, false, false, false, false, false, false, false, false, false, false] rfl rfl (by kernel_rfl) (fun _ _ _ h => h) (Or.inl ⟨by rfl, ?_⟩) ?_ ?_
            rotate_left
            · intro w'
              go_simp
              with_reducible rfl
            rotate_left
            · simp only [Act.put, List.setIfInBounds_toArray, List.set_cons_zero, List.set_cons_succ, i64_w, i32_w]
              rfl
            refine pure_ (i := 4) (N := some 57) (v := ?_) (a' := ?_) #[false, true, false, true, true, false, false, false, false, false, false, false, false, false, false, false, false] rfl rfl (by kernel_rfl) (fun _ _ _ h => h) (Or.inl ⟨by rfl, ?_⟩) ?_ ?_
            rotate_left
            · intro w'
              go_simp
              with_reducible rfl
            rotate_left
            · simp only [Act.put, List.setIfInBounds_toArray, List.set_cons_zero, List.set_cons_succ, i64_w, i32_w]
              rfl
            refine pure_ (i := 5) (N := some 58) (v := ?_) (a' := ?_) #[false, true, false, true, true, true, false, false, false, false, false, false, false, false, false, false, false] rfl rfl (by kernel_rfl) (fun _ _ _ h => h) (Or.inl ⟨by rfl, ?_⟩) ?_ ?_
            rotate_left
            · intro w'
              go_simp
              with_reducible rfl
            rotate_left
            · simp only [Act.put, List.setIfInBounds_toArray, List.set_cons_zero, List.set_cons_succ, i64_w, i32_w]
              rfl
            refine take_ (i := 6) (N := some 59) (v := ?_) (a' := ?_) #[false, true, false, true, true, true, true, false, false, false, false, false, false, false, false, false, false] rfl rfl (by kernel_rfl) (fun _ _ _ h => h) (Or.inl ⟨by rfl, ?_⟩) hHeld ?_ ?_
            rotate_left
            · intro w' s0
              go_simp
              with_reducible rfl
            rotate_left
            · simp only [Act.put, List.setIfInBounds_toArray, List.set_cons_zero, List.set_cons_succ, i64_w, i32_w]
              rfl
            refine join_ (σ := Value × Value × Value × Nat) 3 #[true, true, true, true, true, true, true, true, true, true, true, true, true, true, false, false, false] (fun s => [(53, s.1), (55, s.2.1), (60, s.2.2.1), (61, .tuple #[.agg #[.int .i64 rk1, .string (strOfNums rx1), .int .i64 rf1, .int .i64 rt1], .int .i64 rn1, .int .i64 re1]), (10, .pointer (some ⟨s.2.2.2, 0, none⟩)), (52, .tuple #[.agg #[.int .i64 rk1, .string (strOfNums rx1), .int .i64 rf1, .int .i64 rt1], .int .i64 rn1, .int .i64 re1]), (62, .agg #[.int .i64 rk1, .string (strOfNums rx1), .int .i64 rf1, .int .i64 rt1]), (63, .int .i64 rn1), (64, .int .i64 re1)]) (fun s w' => Aside0 (Below w.heap.size w w') ∧ Aside0 (w.heap.size ≤ s.2.2.2) ∧ Aside0 (te ≠ s.2.2.2) ∧ Aside0 (w'.heap[te]? = some (.cells LexT.endV 9 (0, 0))) ∧ Aside0 (w'.heap[s.2.2.2]? = some (.cells #[.int .i64 0, .string (⟨#[]⟩ : ByteArray), .int .i64 0, .int .i64 0] 25 (0, 0)))) ?_ ?_
            rotate_left
            · intro hCont
              refine two_ (i := 0) (j := 13) (Ni := some 53) (Nj := some 10) #[true, true, false, true, true, true, true, false, false, false, false, false, false, false, false, false, false] #[false, true, false, true, true, true, true, false, false, false, false, false, false, true, false, false, false] rfl rfl rfl rfl (by kernel_rfl) (by decide) (by decide) (fun K hK => ?_) (fun K hK => ?_)
              · skip
                refine Kd.R_lit_step (Kd.int .u8) (w0 := w) w.heap.size 5 (by rfl) (N := 53) ?hd (xs := ([] : List Int)) (inner := []) (ok := fun _ => True) (okp := fun _ => True) ?hr ?hp (fun _ hk => hk) trivial HB.out HB.out.size (by simp) ?_
                case hd => rfl
                case hr => first | (go_simp; done) | (go_simp; rfl)
                case hp => exact (Reps.none _ _)
                intro v53 w53 ho hb hg_ hnew_
                have m0_ := Aside0.mk (blk_grown HT_e.out hg_ (by simp))
                clear HT_e
                have HT_e := m0_
                clear m0_
                clear HB
                have HO := Aside0.mk ho
                have HB := Aside0.mk hb
                clear ho hb hg_ hnew_
                refine hK.out _ _ ((blk_cell HT_e.out i).trans hsi) (fun hHeld => ?_)
                clear hK K
                refine norm_ (a' := ?_) ?_ ?_
                rotate_left
                · show Act.put _ (some 53) _ = _
                  simp only [Act.put, List.setIfInBounds_toArray, List.set_cons_zero, List.set_cons_succ, i64_w, i32_w]
                  rfl
                refine two_ (i := 2) (j := 13) (Ni := some 55) (Nj := some 10) #[true, true, true, true, true, true, true, false, false, false, false, false, false, false, false, false, false] #[true, true, false, true, true, true, true, false, false, false, false, false, false, true, false, false, false] rfl rfl rfl rfl (by kernel_rfl) (by decide) (by decide) (fun K hK => ?_) (fun K hK => ?_)
                · skip
                  refine Kd.R_append_rows_step (Kd.int .u8) (w0 := w) w.heap.size (by rfl) (.tmp 53) (.tmp 54) 22 5 (.int .u8 0) 1 rfl Tryd.underlying22 info5 rfl (by decide) (by omega) _ ([]) (G) _ _ _ (fun _ => True) (fun _ => False) rfl rfl HO.out (Kd.C_below HGC.out HB.out) (fun _ _ h => h) (fun _ h => h.elim) (fun _ _ => trivial) HB.out HB.out.size (by have := HLB.out; simp only [List.length_nil]; omega) ?_
                  intro v55 w55 ho hb hg hat
                  rw [List.nil_append] at ho
                  have m0_ := Aside0.mk (blk_grown HT_e.out hg (Kd.R_ne HO.out HT_e.out (by decide)))
                  clear HT_e
                  have HT_e := m0_
                  clear m0_
                  clear HB HO
                  have HO := Aside0.mk ho
                  have HB := Aside0.mk hb
                  clear ho hb hg hat
                  refine hK.out _ _ ((blk_cell HT_e.out i).trans hsi) (fun hHeld => ?_)
                  clear hK K
                  refine norm_ (a' := ?_) ?_ ?_
                  rotate_left
                  · show Act.put _ (some 55) _ = _
                    simp only [Act.put, List.setIfInBounds_toArray, List.set_cons_zero, List.set_cons_succ, i64_w, i32_w]
                    rfl
                  refine two_ (i := 7) (j := 13) (Ni := some 60) (Nj := some 10) #[true, true, true, true, true, true, true, true, false, false, false, false, false, false, false, false, false] #[true, true, true, true, true, true, true, false, false, false, false, false, false, true, false, false, false] rfl rfl rfl rfl (by kernel_rfl) (by decide) (by decide) (fun K hK => ?_) (fun K hK => ?_)
                  · skip
                    refine LexT.append_str_step (w0 := w) w.heap.size (by rfl) (.tmp 55) (.tmp 59) 22 9 5 (by rfl) Tryd.underlying22 Tryd.underlying9 info5 _ (G) rfl si rfl HO.out HB.out HB.out.size (by have := HLB.out; have := HSL.out; omega) ?_
                    intro v60 w60 ho hb hg
                    rw [HL1.out] at ho
                    have m0_ := Aside0.mk (blk_grown HT_e.out hg (Kd.R_ne HO.out HT_e.out (by decide)))
                    clear HT_e
                    have HT_e := m0_
                    clear m0_
                    clear HB HO
                    have HO := Aside0.mk ho
                    have HB := Aside0.mk hb
                    obtain ⟨Ao, co, eo⟩ := Kd.R_slice HO.out
                    subst eo
                    clear ho hb hg
                    refine hK.out _ _ ((blk_cell HT_e.out i).trans hsi) (fun hHeld => ?_)
                    clear hK K
                    refine norm_ (a' := ?_) ?_ ?_
                    rotate_left
                    · show Act.put _ (some 60) _ = _
                      simp only [Act.put, List.setIfInBounds_toArray, List.set_cons_zero, List.set_cons_succ, i64_w, i32_w]
                      rfl
                    refine two_ (i := 8) (j := 13) (Ni := some 61) (Nj := some 10) #[true, true, true, true, true, true, true, true, true, false, false, false, false, false, false, false, false] #[true, true, true, true, true, true, true, true, false, false, false, false, false, true, false, false, false] rfl rfl rfl rfl (by kernel_rfl) (by decide) (by decide) (fun K hK => ?_) (fun K hK => ?_)
                    · skip
                      refine goes_ Tryd.func9 (by kernel_rfl) rfl #[.slice Ao L1.length co, .int .i64 0] (by rfl) rfl rfl (by simp only [List.map_toArray, List.map_cons, List.map_nil]; rfl) ?_
                      with_reducible refine (HNX1.out _ Ao co (Kd.R_reads' HO.out).2.2 (Kd.R_reads' HO.out).2.1 (pw_cell_below HB.out HGL.out)).mono ?_
                      rintro e w3 ⟨rfl, hb⟩
                      have n1_ := Aside0.mk (below_step HB.out hb)
                      have m0_ := Aside0.mk (blk_grown HT_e.out (grown_of_below hb none) (by simp))
                      clear HT_e
                      have HT_e := m0_
                      clear m0_
                      clear HB hb HO
                      have HB := n1_
                      clear n1_
                      refine ⟨_, rfl, ?_⟩
                      refine hK.out _ _ ((blk_cell HT_e.out i).trans hsi) (fun hHeld => ?_)
                      clear hK K
                      refine norm_ (a' := ?_) ?_ ?_
                      rotate_left
                      · show Act.put _ (some 61) _ = _
                        simp only [Act.put, List.setIfInBounds_toArray, List.set_cons_zero, List.set_cons_succ, i64_w, i32_w]
                        rfl
                      refine pure_ (i := 9) (N := some 52) (v := ?_) (a' := ?_) #[true, true, true, true, true, true, true, true, true, true, false, false, false, false, false, false, false] rfl rfl (by kernel_rfl) (fun _ _ _ h => h) (Or.inl ⟨by rfl, ?_⟩) ?_ ?_
                      rotate_left
                      · intro w'
                        go_simp
                        with_reducible rfl
                      rotate_left
                      · simp only [Act.put, List.setIfInBounds_toArray, List.set_cons_zero, List.set_cons_succ, i64_w, i32_w]
                        rfl
                      refine pure_ (i := 10) (N := some 62) (v := ?_) (a' := ?_) #[true, true, true, true, true, true, true, true, true, true, true, false, false, false, false, false, false] rfl rfl (by kernel_rfl) (fun _ _ _ h => h) (Or.inl ⟨by rfl, ?_⟩) ?_ ?_
                      rotate_left
                      · intro w'
                        go_simp
                        with_reducible rfl
                      rotate_left
                      · simp only [Act.put, List.setIfInBounds_toArray, List.set_cons_zero, List.set_cons_succ, i64_w, i32_w]
                        rfl
                      refine pure_ (i := 11) (N := some 63) (v := ?_) (a' := ?_) #[true, true, true, true, true, true, true, true, true, true, true, true, false, false, false, false, false] rfl rfl (by kernel_rfl) (fun _ _ _ h => h) (Or.inl ⟨by rfl, ?_⟩) ?_ ?_
                      rotate_left
                      · intro w'
                        go_simp
                        with_reducible rfl
                      rotate_left
                      · simp only [Act.put, List.setIfInBounds_toArray, List.set_cons_zero, List.set_cons_succ, i64_w, i32_w]
                        rfl
                      refine pure_ (i := 12) (N := some 64) (v := ?_) (a' := ?_) #[true, true, true, true, true, true, true, true, true, true, true, true, true, false, false, false, false] rfl rfl (by kernel_rfl) (fun _ _ _ h => h) (Or.inl ⟨by rfl, ?_⟩) ?_ ?_
                      rotate_left
                      · intro w'
                        go_simp
                        with_reducible rfl
                      rotate_left
                      · simp only [Act.put, List.setIfInBounds_toArray, List.set_cons_zero, List.set_cons_succ, i64_w, i32_w]
                        rfl
                      refine one_ (i := 13) (N := some 10) #[true, true, true, true, true, true, true, true, true, true, true, true, true, true, false, false, false] rfl rfl (by kernel_rfl) (by decide) (fun K hK => ?_)
                      refine box_step (by rfl) (N := 10) ?hd (cs := #[.int .i64 0, .string (⟨#[]⟩ : ByteArray), .int .i64 0, .int .i64 0]) (t := 25) ?hr ?_
                      case hd => rfl
                      case hr => first | (go_simp; done) | (go_simp; rfl)
                      intro t10 hg w2 hbox hb
                      have n1_ := Aside0.mk (below_step HB.out hb)
                      have HG_ := Aside0.mk (show w.heap.size ≤ t10 by rw [hg]; exact HB.out.size)
                      have HN_ := Aside0.mk (show te ≠ t10 by rw [hg]; exact Nat.ne_of_lt (blk_lt HT_e.out))
                      have m0_ := Aside0.mk (blk_grown HT_e.out (grown_of_below hb none) (by simp))
                      clear HT_e
                      have HT_e := m0_
                      clear m0_
                      clear HB
                      have HB := n1_
                      have HT := Aside0.mk hbox
                      clear n1_ hb hbox hg
                      refine hK.out _ _ ((blk_cell HT_e.out i).trans hsi) (fun hHeld => ?_)
                      clear hK K
                      refine norm_ (a' := ?_) ?_ ?_
                      rotate_left
                      · show Act.put _ (some 10) _ = _
                        simp only [Act.put, List.setIfInBounds_toArray, List.set_cons_zero, List.set_cons_succ, i64_w, i32_w]
                        rfl
                      exact norm_ (by simp only [putAll, Act.put, List.setIfInBounds_toArray, List.set_cons_zero, List.set_cons_succ]) (hCont (v53, v55, .slice Ao L1.length co, t10) _ ⟨HB, HG_, HN_, HT_e, HT⟩)
                    · skip
                      refine box_step (by rfl) (N := 10) ?hd (cs := #[.int .i64 0, .string (⟨#[]⟩ : ByteArray), .int .i64 0, .int .i64 0]) (t := 25) ?hr ?_
                      case hd => rfl
                      case hr => first | (go_simp; done) | (go_simp; rfl)
                      intro t10 hg w2 hbox hb
                      have n1_ := Aside0.mk (below_step HB.out hb)
                      have HG_ := Aside0.mk (show w.heap.size ≤ t10 by rw [hg]; exact HB.out.size)
                      have HN_ := Aside0.mk (show te ≠ t10 by rw [hg]; exact Nat.ne_of_lt (blk_lt HT_e.out))
                      have n2_ := Aside0.mk (Kd.R_below HO.out hb)
                      clear HO
                      have HO := n2_
                      clear n2_
                      have m0_ := Aside0.mk (blk_grown HT_e.out (grown_of_below hb none) (by simp))
                      clear HT_e
                      have HT_e := m0_
                      clear m0_
                      clear HB
                      have HB := n1_
                      have HT := Aside0.mk hbox
                      clear n1_ hb hbox hg
                      refine hK.out _ _ ((blk_cell HT_e.out i).trans hsi) (fun hHeld => ?_)
                      clear hK K
                      refine norm_ (a' := ?_) ?_ ?_
                      rotate_left
                      · show Act.put _ (some 10) _ = _
                        simp only [Act.put, List.setIfInBounds_toArray, List.set_cons_zero, List.set_cons_succ, i64_w, i32_w]
                        rfl
                      refine one_ (i := 8) (N := some 61) #[true, true, true, true, true, true, true, true, true, false, false, false, false, true, false, false, false] rfl rfl (by kernel_rfl) (by decide) (fun K hK => ?_)
                      refine goes_ Tryd.func9 (by kernel_rfl) rfl #[.slice Ao L1.length co, .int .i64 0] (by rfl) rfl rfl (by simp only [List.map_toArray, List.map_cons, List.map_nil]; rfl) ?_
                      with_reducible refine (HNX1.out _ Ao co (Kd.R_reads' HO.out).2.2 (Kd.R_reads' HO.out).2.1 (pw_cell_below HB.out HGL.out)).mono ?_
                      rintro e w3 ⟨rfl, hb⟩
                      have n1_ := Aside0.mk (below_step HB.out hb)
                      have m0_ := Aside0.mk (blk_grown HT_e.out (grown_of_below hb none) (by simp))
                      clear HT_e
                      have HT_e := m0_
                      clear m0_
                      have m0_ := Aside0.mk (blk_grown HT.out (grown_of_below hb none) (by simp))
                      clear HT
                      have HT := m0_
                      clear m0_
                      clear HB hb HO
                      have HB := n1_
                      clear n1_
                      refine ⟨_, rfl, ?_⟩
                      refine hK.out _ _ ((blk_cell HT_e.out i).trans hsi) (fun hHeld => ?_)
                      clear hK K
                      refine norm_ (a' := ?_) ?_ ?_
                      rotate_left
                      · show Act.put _ (some 61) _ = _
                        simp only [Act.put, List.setIfInBounds_toArray, List.set_cons_zero, List.set_cons_succ, i64_w, i32_w]
                        rfl
                      refine pure_ (i := 9) (N := some 52) (v := ?_) (a' := ?_) #[true, true, true, true, true, true, true, true, true, true, false, false, false, true, false, false, false] rfl rfl (by kernel_rfl) (fun _ _ _ h => h) (Or.inl ⟨by rfl, ?_⟩) ?_ ?_
                      rotate_left
                      · intro w'
                        go_simp
                        with_reducible rfl
                      rotate_left
                      · simp only [Act.put, List.setIfInBounds_toArray, List.set_cons_zero, List.set_cons_succ, i64_w, i32_w]
                        rfl
                      refine pure_ (i := 10) (N := some 62) (v := ?_) (a' := ?_) #[true, true, true, true, true, true, true, true, true, true, true, false, false, true, false, false, false] rfl rfl (by kernel_rfl) (fun _ _ _ h => h) (Or.inl ⟨by rfl, ?_⟩) ?_ ?_
                      rotate_left
                      · intro w'
                        go_simp
                        with_reducible rfl
                      rotate_left
                      · simp only [Act.put, List.setIfInBounds_toArray, List.set_cons_zero, List.set_cons_succ, i64_w, i32_w]
                        rfl
                      refine pure_ (i := 11) (N := some 63) (v := ?_) (a' := ?_) #[true, true, true, true, true, true, true, true, true, true, true, true, false, true, false, false, false] rfl rfl (by kernel_rfl) (fun _ _ _ h => h) (Or.inl ⟨by rfl, ?_⟩) ?_ ?_
                      rotate_left
                      · intro w'
                        go_simp
                        with_reducible rfl
                      rotate_left
                      · simp only [Act.put, List.setIfInBounds_toArray, List.set_cons_zero, List.set_cons_succ, i64_w, i32_w]
                        rfl
                      refine pure_ (i := 12) (N := some 64) (v := ?_) (a' := ?_) #[true, true, true, true, true, true, true, true, true, true, true, true, true, true, false, false, false] rfl rfl (by kernel_rfl) (fun _ _ _ h => h) (Or.inl ⟨by rfl, ?_⟩) ?_ ?_
                      rotate_left
                      · intro w'
                        go_simp
                        with_reducible rfl
                      rotate_left
                      · simp only [Act.put, List.setIfInBounds_toArray, List.set_cons_zero, List.set_cons_succ, i64_w, i32_w]
                        rfl
                      exact norm_ (by simp only [putAll, Act.put, List.setIfInBounds_toArray, List.set_cons_zero, List.set_cons_succ]) (hCont (v53, v55, .slice Ao L1.length co, t10) _ ⟨HB, HG_, HN_, HT_e, HT⟩)
                  · skip
                    refine box_step (by rfl) (N := 10) ?hd (cs := #[.int .i64 0, .string (⟨#[]⟩ : ByteArray), .int .i64 0, .int .i64 0]) (t := 25) ?hr ?_
                    case hd => rfl
                    case hr => first | (go_simp; done) | (go_simp; rfl)
                    intro t10 hg w2 hbox hb
                    have n1_ := Aside0.mk (below_step HB.out hb)
                    have HG_ := Aside0.mk (show w.heap.size ≤ t10 by rw [hg]; exact HB.out.size)
                    have HN_ := Aside0.mk (show te ≠ t10 by rw [hg]; exact Nat.ne_of_lt (blk_lt HT_e.out))
                    have n2_ := Aside0.mk (Kd.R_below HO.out hb)
                    clear HO
                    have HO := n2_
                    clear n2_
                    have m0_ := Aside0.mk (blk_grown HT_e.out (grown_of_below hb none) (by simp))
                    clear HT_e
                    have HT_e := m0_
                    clear m0_
                    clear HB
                    have HB := n1_
                    have HT := Aside0.mk hbox
                    clear n1_ hb hbox hg
                    refine hK.out _ _ ((blk_cell HT_e.out i).trans hsi) (fun hHeld => ?_)
                    clear hK K
                    refine norm_ (a' := ?_) ?_ ?_
                    rotate_left
                    · show Act.put _ (some 10) _ = _
                      simp only [Act.put, List.setIfInBounds_toArray, List.set_cons_zero, List.set_cons_succ, i64_w, i32_w]
                      rfl
                    refine one_ (i := 7) (N := some 60) #[true, true, true, true, true, true, true, true, false, false, false, false, false, true, false, false, false] rfl rfl (by kernel_rfl) (by decide) (fun K hK => ?_)
                    refine LexT.append_str_step (w0 := w) w.heap.size (by rfl) (.tmp 55) (.tmp 59) 22 9 5 (by rfl) Tryd.underlying22 Tryd.underlying9 info5 _ (G) rfl si rfl HO.out HB.out HB.out.size (by have := HLB.out; have := HSL.out; omega) ?_
                    intro v60 w60 ho hb hg
                    rw [HL1.out] at ho
                    have m0_ := Aside0.mk (blk_grown HT_e.out hg (Kd.R_ne HO.out HT_e.out (by decide)))
                    clear HT_e
                    have HT_e := m0_
                    clear m0_
                    have m0_ := Aside0.mk (blk_grown HT.out hg (Kd.R_ne HO.out HT.out (by decide)))
                    clear HT
                    have HT := m0_
                    clear m0_
                    clear HB HO
                    have HO := Aside0.mk ho
                    have HB := Aside0.mk hb
                    obtain ⟨Ao, co, eo⟩ := Kd.R_slice HO.out
                    subst eo
                    clear ho hb hg
                    refine hK.out _ _ ((blk_cell HT_e.out i).trans hsi) (fun hHeld => ?_)
                    clear hK K
                    refine norm_ (a' := ?_) ?_ ?_
                    rotate_left
                    · show Act.put _ (some 60) _ = _
                      simp only [Act.put, List.setIfInBounds_toArray, List.set_cons_zero, List.set_cons_succ, i64_w, i32_w]
                      rfl
                    refine one_ (i := 8) (N := some 61) #[true, true, true, true, true, true, true, true, true, false, false, false, false, true, false, false, false] rfl rfl (by kernel_rfl) (by decide) (fun K hK => ?_)
                    refine goes_ Tryd.func9 (by kernel_rfl) rfl #[.slice Ao L1.length co, .int .i64 0] (by rfl) rfl rfl (by simp only [List.map_toArray, List.map_cons, List.map_nil]; rfl) ?_
                    with_reducible refine (HNX1.out _ Ao co (Kd.R_reads' HO.out).2.2 (Kd.R_reads' HO.out).2.1 (pw_cell_below HB.out HGL.out)).mono ?_
                    rintro e w3 ⟨rfl, hb⟩
                    have n1_ := Aside0.mk (below_step HB.out hb)
                    have m0_ := Aside0.mk (blk_grown HT_e.out (grown_of_below hb none) (by simp))
                    clear HT_e
                    have HT_e := m0_
                    clear m0_
                    have m0_ := Aside0.mk (blk_grown HT.out (grown_of_below hb none) (by simp))
                    clear HT
                    have HT := m0_
                    clear m0_
                    clear HB hb HO
                    have HB := n1_
                    clear n1_
                    refine ⟨_, rfl, ?_⟩
                    refine hK.out _ _ ((blk_cell HT_e.out i).trans hsi) (fun hHeld => ?_)
                    clear hK K
                    refine norm_ (a' := ?_) ?_ ?_
                    rotate_left
                    · show Act.put _ (some 61) _ = _
                      simp only [Act.put, List.setIfInBounds_toArray, List.set_cons_zero, List.set_cons_succ, i64_w, i32_w]
                      rfl
                    refine pure_ (i := 9) (N := some 52) (v := ?_) (a' := ?_) #[true, true, true, true, true, true, true, true, true, true, false, false, false, true, false, false, false] rfl rfl (by kernel_rfl) (fun _ _ _ h => h) (Or.inl ⟨by rfl, ?_⟩) ?_ ?_
                    rotate_left
                    · intro w'
                      go_simp
                      with_reducible rfl
                    rotate_left
                    · simp only [Act.put, List.setIfInBounds_toArray, List.set_cons_zero, List.set_cons_succ, i64_w, i32_w]
                      rfl
                    refine pure_ (i := 10) (N := some 62) (v := ?_) (a' := ?_) #[true, true, true, true, true, true, true, true, true, true, true, false, false, true, false, false, false] rfl rfl (by kernel_rfl) (fun _ _ _ h => h) (Or.inl ⟨by rfl, ?_⟩) ?_ ?_
                    rotate_left
                    · intro w'
                      go_simp
                      with_reducible rfl
                    rotate_left
                    · simp only [Act.put, List.setIfInBounds_toArray, List.set_cons_zero, List.set_cons_succ, i64_w, i32_w]
                      rfl
                    refine pure_ (i := 11) (N := some 63) (v := ?_) (a' := ?_) #[true, true, true, true, true, true, true, true, true, true, true, true, false, true, false, false, false] rfl rfl (by kernel_rfl) (fun _ _ _ h => h) (Or.inl ⟨by rfl, ?_⟩) ?_ ?_
                    rotate_left
                    · intro w'
                      go_simp
                      with_reducible rfl
                    rotate_left
                    · simp only [Act.put, List.setIfInBounds_toArray, List.set_cons_zero, List.set_cons_succ, i64_w, i32_w]
                      rfl
                    refine pure_ (i := 12) (N := some 64) (v := ?_) (a' := ?_) #[true, true, true, true, true, true, true, true, true, true, true, true, true, true, false, false, false] rfl rfl (by kernel_rfl) (fun _ _ _ h => h) (Or.inl ⟨by rfl, ?_⟩) ?_ ?_
                    rotate_left
                    · intro w'
                      go_simp
                      with_reducible rfl
                    rotate_left
                    · simp only [Act.put, List.setIfInBounds_toArray, List.set_cons_zero, List.set_cons_succ, i64_w, i32_w]
                      rfl
                    exact norm_ (by simp only [putAll, Act.put, List.setIfInBounds_toArray, List.set_cons_zero, List.set_cons_succ]) (hCont (v53, v55, .slice Ao L1.length co, t10) _ ⟨HB, HG_, HN_, HT_e, HT⟩)
                · skip
                  refine box_step (by rfl) (N := 10) ?hd (cs := #[.int .i64 0, .string (⟨#[]⟩ : ByteArray), .int .i64 0, .int .i64 0]) (t := 25) ?hr ?_
                  case hd => rfl
                  case hr => first | (go_simp; done) | (go_simp; rfl)
                  intro t10 hg w2 hbox hb
                  have n1_ := Aside0.mk (below_step HB.out hb)
                  have HG_ := Aside0.mk (show w.heap.size ≤ t10 by rw [hg]; exact HB.out.size)
                  have HN_ := Aside0.mk (show te ≠ t10 by rw [hg]; exact Nat.ne_of_lt (blk_lt HT_e.out))
                  have n2_ := Aside0.mk (Kd.R_below HO.out hb)
                  clear HO
                  have HO := n2_
                  clear n2_
                  have m0_ := Aside0.mk (blk_grown HT_e.out (grown_of_below hb none) (by simp))
                  clear HT_e
                  have HT_e := m0_
                  clear m0_
                  clear HB
                  have HB := n1_
                  have HT := Aside0.mk hbox
                  clear n1_ hb hbox hg
                  refine hK.out _ _ ((blk_cell HT_e.out i).trans hsi) (fun hHeld => ?_)
                  clear hK K
                  refine norm_ (a' := ?_) ?_ ?_
                  rotate_left
                  · show Act.put _ (some 10) _ = _
                    simp only [Act.put, List.setIfInBounds_toArray, List.set_cons_zero, List.set_cons_succ, i64_w, i32_w]
                    rfl
                  refine one_ (i := 2) (N := some 55) #[true, true, true, true, true, true, true, false, false, false, false, false, false, true, false, false, false] rfl rfl (by kernel_rfl) (by decide) (fun K hK => ?_)
                  refine Kd.R_append_rows_step (Kd.int .u8) (w0 := w) w.heap.size (by rfl) (.tmp 53) (.tmp 54) 22 5 (.int .u8 0) 1 rfl Tryd.underlying22 info5 rfl (by decide) (by omega) _ ([]) (G) _ _ _ (fun _ => True) (fun _ => False) rfl rfl HO.out (Kd.C_below HGC.out HB.out) (fun _ _ h => h) (fun _ h => h.elim) (fun _ _ => trivial) HB.out HB.out.size (by have := HLB.out; simp only [List.length_nil]; omega) ?_
                  intro v55 w55 ho hb hg hat
                  rw [List.nil_append] at ho
                  have m0_ := Aside0.mk (blk_grown HT_e.out hg (Kd.R_ne HO.out HT_e.out (by decide)))
                  clear HT_e
                  have HT_e := m0_
                  clear m0_
                  have m0_ := Aside0.mk (blk_grown HT.out hg (Kd.R_ne HO.out HT.out (by decide)))
                  clear HT
                  have HT := m0_
                  clear m0_
                  clear HB HO
                  have HO := Aside0.mk ho
                  have HB := Aside0.mk hb
                  clear ho hb hg hat
                  refine hK.out _ _ ((blk_cell HT_e.out i).trans hsi) (fun hHeld => ?_)
                  clear hK K
                  refine norm_ (a' := ?_) ?_ ?_
                  rotate_left
                  · show Act.put _ (some 55) _ = _
                    simp only [Act.put, List.setIfInBounds_toArray, List.set_cons_zero, List.set_cons_succ, i64_w, i32_w]
                    rfl
                  refine one_ (i := 7) (N := some 60) #[true, true, true, true, true, true, true, true, false, false, false, false, false, true, false, false, false] rfl rfl (by kernel_rfl) (by decide) (fun K hK => ?_)
                  refine LexT.append_str_step (w0 := w) w.heap.size (by rfl) (.tmp 55) (.tmp 59) 22 9 5 (by rfl) Tryd.underlying22 Tryd.underlying9 info5 _ (G) rfl si rfl HO.out HB.out HB.out.size (by have := HLB.out; have := HSL.out; omega) ?_
                  intro v60 w60 ho hb hg
                  rw [HL1.out] at ho
                  have m0_ := Aside0.mk (blk_grown HT_e.out hg (Kd.R_ne HO.out HT_e.out (by decide)))
                  clear HT_e
                  have HT_e := m0_
                  clear m0_
                  have m0_ := Aside0.mk (blk_grown HT.out hg (Kd.R_ne HO.out HT.out (by decide)))
                  clear HT
                  have HT := m0_
                  clear m0_
                  clear HB HO
                  have HO := Aside0.mk ho
                  have HB := Aside0.mk hb
                  obtain ⟨Ao, co, eo⟩ := Kd.R_slice HO.out
                  subst eo
                  clear ho hb hg
                  refine hK.out _ _ ((blk_cell HT_e.out i).trans hsi) (fun hHeld => ?_)
                  clear hK K
                  refine norm_ (a' := ?_) ?_ ?_
                  rotate_left
                  · show Act.put _ (some 60) _ = _
                    simp only [Act.put, List.setIfInBounds_toArray, List.set_cons_zero, List.set_cons_succ, i64_w, i32_w]
                    rfl
                  refine one_ (i := 8) (N := some 61) #[true, true, true, true, true, true, true, true, true, false, false, false, false, true, false, false, false] rfl rfl (by kernel_rfl) (by decide) (fun K hK => ?_)
                  refine goes_ Tryd.func9 (by kernel_rfl) rfl #[.slice Ao L1.length co, .int .i64 0] (by rfl) rfl rfl (by simp only [List.map_toArray, List.map_cons, List.map_nil]; rfl) ?_
                  with_reducible refine (HNX1.out _ Ao co (Kd.R_reads' HO.out).2.2 (Kd.R_reads' HO.out).2.1 (pw_cell_below HB.out HGL.out)).mono ?_
                  rintro e w3 ⟨rfl, hb⟩
                  have n1_ := Aside0.mk (below_step HB.out hb)
                  have m0_ := Aside0.mk (blk_grown HT_e.out (grown_of_below hb none) (by simp))
                  clear HT_e
                  have HT_e := m0_
                  clear m0_
                  have m0_ := Aside0.mk (blk_grown HT.out (grown_of_below hb none) (by simp))
                  clear HT
                  have HT := m0_
                  clear m0_
                  clear HB hb HO
                  have HB := n1_
                  clear n1_
                  refine ⟨_, rfl, ?_⟩
                  refine hK.out _ _ ((blk_cell HT_e.out i).trans hsi) (fun hHeld => ?_)
                  clear hK K
                  refine norm_ (a' := ?_) ?_ ?_
                  rotate_left
                  · show Act.put _ (some 61) _ = _
                    simp only [Act.put, List.setIfInBounds_toArray, List.set_cons_zero, List.set_cons_succ, i64_w, i32_w]
                    rfl
                  refine pure_ (i := 9) (N := some 52) (v := ?_) (a' := ?_) #[true, true, true, true, true, true, true, true, true, true, false, false, false, true, false, false, false] rfl rfl (by kernel_rfl) (fun _ _ _ h => h) (Or.inl ⟨by rfl, ?_⟩) ?_ ?_
                  rotate_left
                  · intro w'
                    go_simp
                    with_reducible rfl
                  rotate_left
                  · simp only [Act.put, List.setIfInBounds_toArray, List.set_cons_zero, List.set_cons_succ, i64_w, i32_w]
                    rfl
                  refine pure_ (i := 10) (N := some 62) (v := ?_) (a' := ?_) #[true, true, true, true, true, true, true, true, true, true, true, false, false, true, false, false, false] rfl rfl (by kernel_rfl) (fun _ _ _ h => h) (Or.inl ⟨by rfl, ?_⟩) ?_ ?_
                  rotate_left
                  · intro w'
                    go_simp
                    with_reducible rfl
                  rotate_left
                  · simp only [Act.put, List.setIfInBounds_toArray, List.set_cons_zero, List.set_cons_succ, i64_w, i32_w]
                    rfl
                  refine pure_ (i := 11) (N := some 63) (v := ?_) (a' := ?_) #[true, true, true, true, true, true, true, true, true, true, true, true, false, true, false, false, false] rfl rfl (by kernel_rfl) (fun _ _ _ h => h) (Or.inl ⟨by rfl, ?_⟩) ?_ ?_
                  rotate_left
                  · intro w'
                    go_simp
                    with_reducible rfl
                  rotate_left
                  · simp only [Act.put, List.setIfInBounds_toArray, List.set_cons_zero, List.set_cons_succ, i64_w, i32_w]
                    rfl
                  refine pure_ (i := 12) (N := some 64) (v := ?_) (a' := ?_) #[true, true, true, true, true, true, true, true, true, true, true, true, true, true, false, false, false] rfl rfl (by kernel_rfl) (fun _ _ _ h => h) (Or.inl ⟨by rfl, ?_⟩) ?_ ?_
                  rotate_left
                  · intro w'
                    go_simp
                    with_reducible rfl
                  rotate_left
                  · simp only [Act.put, List.setIfInBounds_toArray, List.set_cons_zero, List.set_cons_succ, i64_w, i32_w]
                    rfl
                  exact norm_ (by simp only [putAll, Act.put, List.setIfInBounds_toArray, List.set_cons_zero, List.set_cons_succ]) (hCont (v53, v55, .slice Ao L1.length co, t10) _ ⟨HB, HG_, HN_, HT_e, HT⟩)
              · skip
                refine box_step (by rfl) (N := 10) ?hd (cs := #[.int .i64 0, .string (⟨#[]⟩ : ByteArray), .int .i64 0, .int .i64 0]) (t := 25) ?hr ?_
                case hd => rfl
                case hr => first | (go_simp; done) | (go_simp; rfl)
                intro t10 hg w2 hbox hb
                have n1_ := Aside0.mk (below_step HB.out hb)
                have HG_ := Aside0.mk (show w.heap.size ≤ t10 by rw [hg]; exact HB.out.size)
                have HN_ := Aside0.mk (show te ≠ t10 by rw [hg]; exact Nat.ne_of_lt (blk_lt HT_e.out))
                have m0_ := Aside0.mk (blk_grown HT_e.out (grown_of_below hb none) (by simp))
                clear HT_e
                have HT_e := m0_
                clear m0_
                clear HB
                have HB := n1_
                have HT := Aside0.mk hbox
                clear n1_ hb hbox hg
                refine hK.out _ _ ((blk_cell HT_e.out i).trans hsi) (fun hHeld => ?_)
                clear hK K
                refine norm_ (a' := ?_) ?_ ?_
                rotate_left
                · show Act.put _ (some 10) _ = _
                  simp only [Act.put, List.setIfInBounds_toArray, List.set_cons_zero, List.set_cons_succ, i64_w, i32_w]
                  rfl
                refine one_ (i := 0) (N := some 53) #[true, true, false, true, true, true, true, false, false, false, false, false, false, true, false, false, false] rfl rfl (by kernel_rfl) (by decide) (fun K hK => ?_)
                refine Kd.R_lit_step (Kd.int .u8) (w0 := w) w.heap.size 5 (by rfl) (N := 53) ?hd (xs := ([] : List Int)) (inner := []) (ok := fun _ => True) (okp := fun _ => True) ?hr ?hp (fun _ hk => hk) trivial HB.out HB.out.size (by simp) ?_
                case hd => rfl
                case hr => first | (go_simp; done) | (go_simp; rfl)
                case hp => exact (Reps.none _ _)
                intro v53 w53 ho hb hg_ hnew_
                have m0_ := Aside0.mk (blk_grown HT_e.out hg_ (by simp))
                clear HT_e
                have HT_e := m0_
                clear m0_
                have m0_ := Aside0.mk (blk_grown HT.out hg_ (by simp))
                clear HT
                have HT := m0_
                clear m0_
                clear HB
                have HO := Aside0.mk ho
                have HB := Aside0.mk hb
                clear ho hb hg_ hnew_
                refine hK.out _ _ ((blk_cell HT_e.out i).trans hsi) (fun hHeld => ?_)
                clear hK K
                refine norm_ (a' := ?_) ?_ ?_
                rotate_left
                · show Act.put _ (some 53) _ = _
                  simp only [Act.put, List.setIfInBounds_toArray, List.set_cons_zero, List.set_cons_succ, i64_w, i32_w]
                  rfl
                refine one_ (i := 2) (N := some 55) #[true, true, true, true, true, true, true, false, false, false, false, false, false, true, false, false, false] rfl rfl (by kernel_rfl) (by decide) (fun K hK => ?_)
                refine Kd.R_append_rows_step (Kd.int .u8) (w0 := w) w.heap.size (by rfl) (.tmp 53) (.tmp 54) 22 5 (.int .u8 0) 1 rfl Tryd.underlying22 info5 rfl (by decide) (by omega) _ ([]) (G) _ _ _ (fun _ => True) (fun _ => False) rfl rfl HO.out (Kd.C_below HGC.out HB.out) (fun _ _ h => h) (fun _ h => h.elim) (fun _ _ => trivial) HB.out HB.out.size (by have := HLB.out; simp only [List.length_nil]; omega) ?_
                intro v55 w55 ho hb hg hat
                rw [List.nil_append] at ho
                have m0_ := Aside0.mk (blk_grown HT_e.out hg (Kd.R_ne HO.out HT_e.out (by decide)))
                clear HT_e
                have HT_e := m0_
                clear m0_
                have m0_ := Aside0.mk (blk_grown HT.out hg (Kd.R_ne HO.out HT.out (by decide)))
                clear HT
                have HT := m0_
                clear m0_
                clear HB HO
                have HO := Aside0.mk ho
                have HB := Aside0.mk hb
                clear ho hb hg hat
                refine hK.out _ _ ((blk_cell HT_e.out i).trans hsi) (fun hHeld => ?_)
                clear hK K
                refine norm_ (a' := ?_) ?_ ?_
                rotate_left
                · show Act.put _ (some 55) _ = _
                  simp only [Act.put, List.setIfInBounds_toArray, List.set_cons_zero, List.set_cons_succ, i64_w, i32_w]
                  rfl
                refine one_ (i := 7) (N := some 60) #[true, true, true, true, true, true, true, true, false, false, false, false, false, true, false, false, false] rfl rfl (by kernel_rfl) (by decide) (fun K hK => ?_)
                refine LexT.append_str_step (w0 := w) w.heap.size (by rfl) (.tmp 55) (.tmp 59) 22 9 5 (by rfl) Tryd.underlying22 Tryd.underlying9 info5 _ (G) rfl si rfl HO.out HB.out HB.out.size (by have := HLB.out; have := HSL.out; omega) ?_
                intro v60 w60 ho hb hg
                rw [HL1.out] at ho
                have m0_ := Aside0.mk (blk_grown HT_e.out hg (Kd.R_ne HO.out HT_e.out (by decide)))
                clear HT_e
                have HT_e := m0_
                clear m0_
                have m0_ := Aside0.mk (blk_grown HT.out hg (Kd.R_ne HO.out HT.out (by decide)))
                clear HT
                have HT := m0_
                clear m0_
                clear HB HO
                have HO := Aside0.mk ho
                have HB := Aside0.mk hb
                obtain ⟨Ao, co, eo⟩ := Kd.R_slice HO.out
                subst eo
                clear ho hb hg
                refine hK.out _ _ ((blk_cell HT_e.out i).trans hsi) (fun hHeld => ?_)
                clear hK K
                refine norm_ (a' := ?_) ?_ ?_
                rotate_left
                · show Act.put _ (some 60) _ = _
                  simp only [Act.put, List.setIfInBounds_toArray, List.set_cons_zero, List.set_cons_succ, i64_w, i32_w]
                  rfl
                refine one_ (i := 8) (N := some 61) #[true, true, true, true, true, true, true, true, true, false, false, false, false, true, false, false, false] rfl rfl (by kernel_rfl) (by decide) (fun K hK => ?_)
                refine goes_ Tryd.func9 (by kernel_rfl) rfl #[.slice Ao L1.length co, .int .i64 0] (by rfl) rfl rfl (by simp only [List.map_toArray, List.map_cons, List.map_nil]; rfl) ?_
                with_reducible refine (HNX1.out _ Ao co (Kd.R_reads' HO.out).2.2 (Kd.R_reads' HO.out).2.1 (pw_cell_below HB.out HGL.out)).mono ?_
                rintro e w3 ⟨rfl, hb⟩
                have n1_ := Aside0.mk (below_step HB.out hb)
                have m0_ := Aside0.mk (blk_grown HT_e.out (grown_of_below hb none) (by simp))
                clear HT_e
                have HT_e := m0_
                clear m0_
                have m0_ := Aside0.mk (blk_grown HT.out (grown_of_below hb none) (by simp))
                clear HT
                have HT := m0_
                clear m0_
                clear HB hb HO
                have HB := n1_
                clear n1_
                refine ⟨_, rfl, ?_⟩
                refine hK.out _ _ ((blk_cell HT_e.out i).trans hsi) (fun hHeld => ?_)
                clear hK K
                refine norm_ (a' := ?_) ?_ ?_
                rotate_left
                · show Act.put _ (some 61) _ = _
                  simp only [Act.put, List.setIfInBounds_toArray, List.set_cons_zero, List.set_cons_succ, i64_w, i32_w]
                  rfl
                refine pure_ (i := 9) (N := some 52) (v := ?_) (a' := ?_) #[true, true, true, true, true, true, true, true, true, true, false, false, false, true, false, false, false] rfl rfl (by kernel_rfl) (fun _ _ _ h => h) (Or.inl ⟨by rfl, ?_⟩) ?_ ?_
                rotate_left
                · intro w'
                  go_simp
                  with_reducible rfl
                rotate_left
                · simp only [Act.put, List.setIfInBounds_toArray, List.set_cons_zero, List.set_cons_succ, i64_w, i32_w]
                  rfl
                refine pure_ (i := 10) (N := some 62) (v := ?_) (a' := ?_) #[true, true, true, true, true, true, true, true, true, true, true, false, false, true, false, false, false] rfl rfl (by kernel_rfl) (fun _ _ _ h => h) (Or.inl ⟨by rfl, ?_⟩) ?_ ?_
                rotate_left
                · intro w'
                  go_simp
                  with_reducible rfl
                rotate_left
                · simp only [Act.put, List.setIfInBounds_toArray, List.set_cons_zero, List.set_cons_succ, i64_w, i32_w]
                  rfl
                refine pure_ (i := 11) (N := some 63) (v := ?_) (a' := ?_) #[true, true, true, true, true, true, true, true, true, true, true, true, false, true, false, false, false] rfl rfl (by kernel_rfl) (fun _ _ _ h => h) (Or.inl ⟨by rfl, ?_⟩) ?_ ?_
                rotate_left
                · intro w'
                  go_simp
                  with_reducible rfl
                rotate_left
                · simp only [Act.put, List.setIfInBounds_toArray, List.set_cons_zero, List.set_cons_succ, i64_w, i32_w]
                  rfl
                refine pure_ (i := 12) (N := some 64) (v := ?_) (a' := ?_) #[true, true, true, true, true, true, true, true, true, true, true, true, true, true, false, false, false] rfl rfl (by kernel_rfl) (fun _ _ _ h => h) (Or.inl ⟨by rfl, ?_⟩) ?_ ?_
                rotate_left
                · intro w'
                  go_simp
                  with_reducible rfl
                rotate_left
                · simp only [Act.put, List.setIfInBounds_toArray, List.set_cons_zero, List.set_cons_succ, i64_w, i32_w]
                  rfl
                exact norm_ (by simp only [putAll, Act.put, List.setIfInBounds_toArray, List.set_cons_zero, List.set_cons_succ]) (hCont (v53, v55, .slice Ao L1.length co, t10) _ ⟨HB, HG_, HN_, HT_e, HT⟩)
            clear HB HT_e
            rintro ⟨v53, v55, v60, t10⟩ w3 ⟨HB, HG_, HN_, HT_e, HT⟩
            dsimp only at HG_ HN_ HT_e HT
            have hHeld : w3.cell? ⟨te, i, none⟩ = some (.string si) := (blk_cell HT_e.out i).trans hsi
            have ht0 := (blk_cell HT.out 0).trans rfl
            have hf0 := blk_frozen HT.out 0
            have ht1 := (blk_cell HT.out 1).trans rfl
            have hf1 := blk_frozen HT.out 1
            have ht2 := (blk_cell HT.out 2).trans rfl
            have hf2 := blk_frozen HT.out 2
            have ht3 := (blk_cell HT.out 3).trans rfl
            have hf3 := blk_frozen HT.out 3
            refine norm_ (a' := ?_) ?_ ?_
            rotate_left
            · simp only [putAll, Act.put, List.setIfInBounds_toArray, List.set_cons_zero, List.set_cons_succ]
              rfl
            refine one_ (i := 14) (N := none) #[true, true, true, true, true, true, true, true, true, true, true, true, true, true, true, false, false] rfl rfl (by kernel_rfl) (by decide) (fun K hK => ?_)
            refine skip_ (w1 := ?_) (by rfl) rfl ?_ ?_
            rotate_left
            · go_simp
              rfl
            refine hK.out _ _ ((blk_cell (blk_far (blk_far (blk_far (blk_far HT_e.out HN_.out _) HN_.out _) HN_.out _) HN_.out _) i).trans hsi) (fun hHeld => ?_)
            clear hK K
            refine pure_ (i := 15) (N := some 11) (v := ?_) (a' := ?_) #[true, true, true, true, true, true, true, true, true, true, true, true, true, true, true, true, false] rfl rfl (by kernel_rfl) (fun _ _ _ h => h) (Or.inl ⟨by rfl, ?_⟩) ?_ ?_
            rotate_left
            · intro w'
              go_simp
              with_reducible rfl
            rotate_left
            · simp only [Act.put, List.setIfInBounds_toArray, List.set_cons_zero, List.set_cons_succ, i64_w, i32_w]
              rfl
            refine pure_ (i := 16) (N := some 12) (v := ?_) (a' := ?_) #[true, true, true, true, true, true, true, true, true, true, true, true, true, true, true, true, true] rfl rfl (by kernel_rfl) (fun _ _ _ h => h) (Or.inl ⟨by rfl, ?_⟩) ?_ ?_
            rotate_left
            · intro w'
              go_simp
              with_reducible rfl
            rotate_left
            · simp only [Act.put, List.setIfInBounds_toArray, List.set_cons_zero, List.set_cons_succ, i64_w, i32_w]
              rfl
            refine done_ (by kernel_rfl) ?_
            go_wp2
            go_meet
            case rel => exact ⟨rfl, ⟨below_set (below_set (below_set (below_set HB.out HG_.out) HG_.out) HG_.out) HG_.out⟩, ⟨blk_far (blk_far (blk_far (blk_far HT_e.out HN_.out _) HN_.out _) HN_.out _) HN_.out _⟩⟩
          case rest =>
            clear HB HT_e
            obtain ⟨rfl, HB, HT_e⟩ := hcut
            go_upto_region 13 with (fail)
            go_cut [8] (fun v8 wc => ∃ sm' : Bool, v8 = .bool sm' ∧ Aside0 (js < i + 1 → sm' = true) ∧ Aside0 (Below w.heap.size w wc) ∧ Aside0 (wc.heap[te]? = some (.cells LexT.endV 9 (0, 0))))
            case first =>
              cases sm with
              | true =>
                go_wp2
                go_meet
                case rel => exact ⟨true, rfl, ⟨fun _ => rfl⟩, HB, HT_e⟩
              | false =>
                go_wp2
                go_meet
                case rel =>
                  refine ⟨(re1 == 0), rfl, ⟨fun h => ?_⟩, HB, HT_e⟩
                  have h1 : i = js := by
                    by_cases h2 : js < i
                    · have := HSM.out h2; cases this
                    · omega
                  rw [HGOOD.out h1]
                  rfl
            case rest =>
              clear HB HT_e HSM HGOOD
              obtain ⟨sm', rfl, HSM, HB, HT_e⟩ := hcut
              rcases HNL.out with ⟨hle, bn⟩ | ⟨hle, bn⟩
              · obtain ⟨TN, hct2, hTC, hTl, hTN⟩ := HT2.out hle
                obtain ⟨L2, hL2⟩ : ∃ x, x = TN ++ E := ⟨_, rfl⟩
                have HNX2 := Aside0.mk (hTN E)
                rw [← hL2] at HNX2
                have HNX3 := Aside0.mk (fun (W : World) (A2 : Option Addr) (c2 : Nat) => HNX2.out W A2 c2 HEB.out.1 HEB.out.2)
                have HTC := Aside0.mk hTC
                have HL2 := Aside0.mk (show TN ++ bytesOf si = L2 by rw [HSTR.out, hL2])
                have HLB0 := Aside0.mk hTl
                clear HLB
                have HLB := HLB0
                clear hTN HNX2 hTC hTl hL2 HLB0 hle
                go_upto_region 15 with (fail)
                go_cut [14, 15] (fun v14 v15 wc => v14 = .int .i64 N ∧ v15 = .int .i64 50 ∧ Aside0 (Below w.heap.size w wc) ∧ Aside0 (wc.heap[te]? = some (.cells LexT.endV 9 (0, 0))))
                case first =>
                  have n1_ := Aside0.mk (below_drew1 HB.out)
                  have n2_ := Aside0.mk (LexT.blk_drew HT_e.out)
                  clear HB HT_e
                  have HB := n1_
                  have HT_e := n2_
                  clear n1_ n2_
                  refine start_ (n := 19) (S := fun w' => w'.cell? ⟨te, i, none⟩ = some (.string si)) (ds := []) #[false, false, false, false, false, false, false, false, false, false, false, false, false, false, false, false, false, false, false] (by kernel_rfl) rfl rfl ((blk_cell HT_e.out i).trans hsi) (fun hHeld => ?_)
                  refine pure_ (i := 1) (N := some 76) (v := ?_) (a' := ?_) #[false, true, false, false, false, false, false, false, false, false, false, false, false, false, false, false, false, false, false] rfl rfl (by kernel_rfl) (fun _ _ _ h => h) (Or.inl ⟨by rfl, ?_⟩) ?_ ?_
                  rotate_left
                  · intro w'
                    go_simp
                    with_reducible rfl
                  rotate_left
                  · simp only [Act.put, List.setIfInBounds_toArray, List.set_cons_zero, List.set_cons_succ, i64_w, i32_w]
                    rfl
                  refine pure_ (i := 2) (N := some 77) (v := ?_) (a' := ?_) #[false, true, true, false, false, false, false, false, false, false, false, false, false, false, false, false, false, false, false] rfl rfl (by kernel_rfl) (fun _ _ _ h => h) (Or.inl ⟨by rfl, ?_⟩) ?_ ?_
                  rotate_left
                  · intro w'
                    go_simp
                    with_reducible rfl
                  rotate_left
                  · simp only [Act.put, List.setIfInBounds_toArray, List.set_cons_zero, List.set_cons_succ, i64_w, i32_w]
                    rfl
                  refine pure_ (i := 3) (N := some 78) (v := ?_) (a' := ?_) #[false, true, true, true, false, false, false, false, false, false, false, false, false, false, false, false, false, false, false] rfl rfl (by kernel_rfl) (fun _ _ _ h => h) (Or.inl ⟨by rfl, ?_⟩) ?_ ?_
                  rotate_left
                  · intro w'
                    go_simp
                    with_reducible rfl
                  rotate_left
                  · simp only [Act.put, List.setIfInBounds_toArray, List.set_cons_zero, List.set_cons_succ, i64_w, i32_w]
                    rfl
                  refine pure_ (i := 5) (N := some 80) (v := ?_) (a' := ?_) #[false, true, true, true, false, true, false, false, false, false, false, false, false, false, false, false, false, false, false] rfl rfl (by kernel_rfl) (fun _ _ _ h => h) (Or.inl ⟨by rfl, ?_⟩) ?_ ?_
                  rotate_left
                  · intro w'
                    go_simp
                    with_reducible rfl
                  rotate_left
                  · simp only [Act.put, List.setIfInBounds_toArray, List.set_cons_zero, List.set_cons_succ, i64_w, i32_w]
                    rfl
                  refine pure_ (i := 6) (N := some 81) (v := ?_) (a' := ?_) #[false, true, true, true, false, true, true, false, false, false, false, false, false, false, false, false, false, false, false] rfl rfl (by kernel_rfl) (fun _ _ _ h => h) (Or.inl ⟨by rfl, ?_⟩) ?_ ?_
                  rotate_left
                  · intro w'
                    go_simp
                    with_reducible rfl
                  rotate_left
                  · simp only [Act.put, List.setIfInBounds_toArray, List.set_cons_zero, List.set_cons_succ, i64_w, i32_w]
                    rfl
                  refine pure_ (i := 7) (N := some 82) (v := ?_) (a' := ?_) #[false, true, true, true, false, true, true, true, false, false, false, false, false, false, false, false, false, false, false] rfl rfl (by kernel_rfl) (fun _ _ _ h => h) (Or.inl ⟨by rfl, ?_⟩) ?_ ?_
                  rotate_left
                  · intro w'
                    go_simp
                    with_reducible rfl
                  rotate_left
                  · simp only [Act.put, List.setIfInBounds_toArray, List.set_cons_zero, List.set_cons_succ, i64_w, i32_w]
                    rfl
                  refine take_ (i := 8) (N := some 83) (v := ?_) (a' := ?_) #[false, true, true, true, false, true, true, true, true, false, false, false, false, false, false, false, false, false, false] rfl rfl (by kernel_rfl) (fun _ _ _ h => h) (Or.inl ⟨by rfl, ?_⟩) hHeld ?_ ?_
                  rotate_left
                  · intro w' s0
                    go_simp
                    with_reducible rfl
                  rotate_left
                  · simp only [Act.put, List.setIfInBounds_toArray, List.set_cons_zero, List.set_cons_succ, i64_w, i32_w]
                    rfl
                  refine join_ (σ := Value × Value × Value × Nat) 3 #[true, true, true, true, true, true, true, true, true, true, true, true, true, true, true, true, false, false, false] (fun s => [(75, s.1), (79, s.2.1), (84, s.2.2.1), (85, .tuple #[.agg #[.int .i64 0, .string (⟨#[]⟩ : ByteArray), .int .i64 0, .int .i64 0], .int .i64 N, .int .i64 50]), (13, .pointer (some ⟨s.2.2.2, 0, none⟩)), (74, .tuple #[.agg #[.int .i64 0, .string (⟨#[]⟩ : ByteArray), .int .i64 0, .int .i64 0], .int .i64 N, .int .i64 50]), (86, .agg #[.int .i64 0, .string (⟨#[]⟩ : ByteArray), .int .i64 0, .int .i64 0]), (87, .int .i64 N), (88, .int .i64 50)]) (fun s w' => Aside0 (Below w.heap.size w w') ∧ Aside0 (w.heap.size ≤ s.2.2.2) ∧ Aside0 (te ≠ s.2.2.2) ∧ Aside0 (w'.heap[te]? = some (.cells LexT.endV 9 (0, 0))) ∧ Aside0 (w'.heap[s.2.2.2]? = some (.cells #[.int .i64 0, .string (⟨#[]⟩ : ByteArray), .int .i64 0, .int .i64 0] 25 (0, 0)))) ?_ ?_
                  rotate_left
                  · intro hCont
                    refine two_ (i := 0) (j := 15) (Ni := some 75) (Nj := some 13) #[true, true, true, true, false, true, true, true, true, false, false, false, false, false, false, false, false, false, false] #[false, true, true, true, false, true, true, true, true, false, false, false, false, false, false, true, false, false, false] rfl rfl rfl rfl (by kernel_rfl) (by decide) (by decide) (fun K hK => ?_) (fun K hK => ?_)
                    · skip
                      refine Kd.R_lit_step (Kd.int .u8) (w0 := w) w.heap.size 5 (by rfl) (N := 75) ?hd (xs := ([] : List Int)) (inner := []) (ok := fun _ => True) (okp := fun _ => True) ?hr ?hp (fun _ hk => hk) trivial HB.out HB.out.size (by simp) ?_
                      case hd => rfl
                      case hr => first | (go_simp; done) | (go_simp; rfl)
                      case hp => exact (Reps.none _ _)
                      intro v75 w75 ho hb hg_ hnew_
                      have m0_ := Aside0.mk (blk_grown HT_e.out hg_ (by simp))
                      clear HT_e
                      have HT_e := m0_
                      clear m0_
                      clear HB
                      have HO := Aside0.mk ho
                      have HB := Aside0.mk hb
                      clear ho hb hg_ hnew_
                      refine hK.out _ _ ((blk_cell HT_e.out i).trans hsi) (fun hHeld => ?_)
                      clear hK K
                      refine norm_ (a' := ?_) ?_ ?_
                      rotate_left
                      · show Act.put _ (some 75) _ = _
                        simp only [Act.put, List.setIfInBounds_toArray, List.set_cons_zero, List.set_cons_succ, i64_w, i32_w]
                        rfl
                      refine two_ (i := 4) (j := 15) (Ni := some 79) (Nj := some 13) #[true, true, true, true, true, true, true, true, true, false, false, false, false, false, false, false, false, false, false] #[true, true, true, true, false, true, true, true, true, false, false, false, false, false, false, true, false, false, false] rfl rfl rfl rfl (by kernel_rfl) (by decide) (by decide) (fun K hK => ?_) (fun K hK => ?_)
                      · skip
                        refine Kd.R_append_rows_step (Kd.int .u8) (w0 := w) w.heap.size (by rfl) (.tmp 75) (.tmp 78) 22 5 (.int .u8 0) 1 rfl Tryd.underlying22 info5 rfl (by decide) (by omega) _ ([]) (TN) _ _ _ (fun _ => True) (fun _ => False) rfl rfl HO.out (Kd.C_below HTC.out HB.out) (fun _ _ h => h) (fun _ h => h.elim) (fun _ _ => trivial) HB.out HB.out.size (by have := HLB.out; simp only [List.length_nil]; omega) ?_
                        intro v79 w79 ho hb hg hat
                        rw [List.nil_append] at ho
                        have m0_ := Aside0.mk (blk_grown HT_e.out hg (Kd.R_ne HO.out HT_e.out (by decide)))
                        clear HT_e
                        have HT_e := m0_
                        clear m0_
                        clear HB HO
                        have HO := Aside0.mk ho
                        have HB := Aside0.mk hb
                        clear ho hb hg hat
                        refine hK.out _ _ ((blk_cell HT_e.out i).trans hsi) (fun hHeld => ?_)
                        clear hK K
                        refine norm_ (a' := ?_) ?_ ?_
                        rotate_left
                        · show Act.put _ (some 79) _ = _
                          simp only [Act.put, List.setIfInBounds_toArray, List.set_cons_zero, List.set_cons_succ, i64_w, i32_w]
                          rfl
                        refine two_ (i := 9) (j := 15) (Ni := some 84) (Nj := some 13) #[true, true, true, true, true, true, true, true, true, true, false, false, false, false, false, false, false, false, false] #[true, true, true, true, true, true, true, true, true, false, false, false, false, false, false, true, false, false, false] rfl rfl rfl rfl (by kernel_rfl) (by decide) (by decide) (fun K hK => ?_) (fun K hK => ?_)
                        · skip
                          refine LexT.append_str_step (w0 := w) w.heap.size (by rfl) (.tmp 79) (.tmp 83) 22 9 5 (by rfl) Tryd.underlying22 Tryd.underlying9 info5 _ (TN) rfl si rfl HO.out HB.out HB.out.size (by have := HLB.out; have := HSL.out; omega) ?_
                          intro v84 w84 ho hb hg
                          rw [HL2.out] at ho
                          have m0_ := Aside0.mk (blk_grown HT_e.out hg (Kd.R_ne HO.out HT_e.out (by decide)))
                          clear HT_e
                          have HT_e := m0_
                          clear m0_
                          clear HB HO
                          have HO := Aside0.mk ho
                          have HB := Aside0.mk hb
                          obtain ⟨Ao, co, eo⟩ := Kd.R_slice HO.out
                          subst eo
                          clear ho hb hg
                          refine hK.out _ _ ((blk_cell HT_e.out i).trans hsi) (fun hHeld => ?_)
                          clear hK K
                          refine norm_ (a' := ?_) ?_ ?_
                          rotate_left
                          · show Act.put _ (some 84) _ = _
                            simp only [Act.put, List.setIfInBounds_toArray, List.set_cons_zero, List.set_cons_succ, i64_w, i32_w]
                            rfl
                          refine two_ (i := 10) (j := 15) (Ni := some 85) (Nj := some 13) #[true, true, true, true, true, true, true, true, true, true, true, false, false, false, false, false, false, false, false] #[true, true, true, true, true, true, true, true, true, true, false, false, false, false, false, true, false, false, false] rfl rfl rfl rfl (by kernel_rfl) (by decide) (by decide) (fun K hK => ?_) (fun K hK => ?_)
                          · skip
                            refine goes_ Tryd.func9 (by kernel_rfl) rfl #[.slice Ao L2.length co, .int .i64 0] (by rfl) rfl rfl (by simp only [List.map_toArray, List.map_cons, List.map_nil]; rfl) ?_
                            with_reducible refine (HNX3.out _ Ao co (Kd.R_reads' HO.out).2.2 (Kd.R_reads' HO.out).2.1 (pw_cell_below HB.out HGL.out)).mono ?_
                            rintro e w3 ⟨rfl, hb⟩
                            have n1_ := Aside0.mk (below_step HB.out hb)
                            have m0_ := Aside0.mk (blk_grown HT_e.out (grown_of_below hb none) (by simp))
                            clear HT_e
                            have HT_e := m0_
                            clear m0_
                            clear HB hb HO
                            have HB := n1_
                            clear n1_
                            refine ⟨_, rfl, ?_⟩
                            refine hK.out _ _ ((blk_cell HT_e.out i).trans hsi) (fun hHeld => ?_)
                            clear hK K
                            refine norm_ (a' := ?_) ?_ ?_
                            rotate_left
                            · show Act.put _ (some 85) _ = _
                              simp only [Act.put, List.setIfInBounds_toArray, List.set_cons_zero, List.set_cons_succ, i64_w, i32_w]
                              rfl
                            refine pure_ (i := 11) (N := some 74) (v := ?_) (a' := ?_) #[true, true, true, true, true, true, true, true, true, true, true, true, false, false, false, false, false, false, false] rfl rfl (by kernel_rfl) (fun _ _ _ h => h) (Or.inl ⟨by rfl, ?_⟩) ?_ ?_
                            rotate_left
                            · intro w'
                              go_simp
                              with_reducible rfl
                            rotate_left
                            · simp only [Act.put, List.setIfInBounds_toArray, List.set_cons_zero, List.set_cons_succ, i64_w, i32_w]
                              rfl
                            refine pure_ (i := 12) (N := some 86) (v := ?_) (a' := ?_) #[true, true, true, true, true, true, true, true, true, true, true, true, true, false, false, false, false, false, false] rfl rfl (by kernel_rfl) (fun _ _ _ h => h) (Or.inl ⟨by rfl, ?_⟩) ?_ ?_
                            rotate_left
                            · intro w'
                              go_simp
                              with_reducible rfl
                            rotate_left
                            · simp only [Act.put, List.setIfInBounds_toArray, List.set_cons_zero, List.set_cons_succ, i64_w, i32_w]
                              rfl
                            refine pure_ (i := 13) (N := some 87) (v := ?_) (a' := ?_) #[true, true, true, true, true, true, true, true, true, true, true, true, true, true, false, false, false, false, false] rfl rfl (by kernel_rfl) (fun _ _ _ h => h) (Or.inl ⟨by rfl, ?_⟩) ?_ ?_
                            rotate_left
                            · intro w'
                              go_simp
                              with_reducible rfl
                            rotate_left
                            · simp only [Act.put, List.setIfInBounds_toArray, List.set_cons_zero, List.set_cons_succ, i64_w, i32_w]
                              rfl
                            refine pure_ (i := 14) (N := some 88) (v := ?_) (a' := ?_) #[true, true, true, true, true, true, true, true, true, true, true, true, true, true, true, false, false, false, false] rfl rfl (by kernel_rfl) (fun _ _ _ h => h) (Or.inl ⟨by rfl, ?_⟩) ?_ ?_
                            rotate_left
                            · intro w'
                              go_simp
                              with_reducible rfl
                            rotate_left
                            · simp only [Act.put, List.setIfInBounds_toArray, List.set_cons_zero, List.set_cons_succ, i64_w, i32_w]
                              rfl
                            refine one_ (i := 15) (N := some 13) #[true, true, true, true, true, true, true, true, true, true, true, true, true, true, true, true, false, false, false] rfl rfl (by kernel_rfl) (by decide) (fun K hK => ?_)
                            refine box_step (by rfl) (N := 13) ?hd (cs := #[.int .i64 0, .string (⟨#[]⟩ : ByteArray), .int .i64 0, .int .i64 0]) (t := 25) ?hr ?_
                            case hd => rfl
                            case hr => first | (go_simp; done) | (go_simp; rfl)
                            intro t13 hg w2 hbox hb
                            have n1_ := Aside0.mk (below_step HB.out hb)
                            have HG_ := Aside0.mk (show w.heap.size ≤ t13 by rw [hg]; exact HB.out.size)
                            have HN_ := Aside0.mk (show te ≠ t13 by rw [hg]; exact Nat.ne_of_lt (blk_lt HT_e.out))
                            have m0_ := Aside0.mk (blk_grown HT_e.out (grown_of_below hb none) (by simp))
                            clear HT_e
                            have HT_e := m0_
                            clear m0_
                            clear HB
                            have HB := n1_
                            have HT := Aside0.mk hbox
                            clear n1_ hb hbox hg
                            refine hK.out _ _ ((blk_cell HT_e.out i).trans hsi) (fun hHeld => ?_)
                            clear hK K
                            refine norm_ (a' := ?_) ?_ ?_
                            rotate_left
                            · show Act.put _ (some 13) _ = _
                              simp only [Act.put, List.setIfInBounds_toArray, List.set_cons_zero, List.set_cons_succ, i64_w, i32_w]
                              rfl
                            exact norm_ (by simp only [putAll, Act.put, List.setIfInBounds_toArray, List.set_cons_zero, List.set_cons_succ]) (hCont (v75, v79, .slice Ao L2.length co, t13) _ ⟨HB, HG_, HN_, HT_e, HT⟩)
                          · skip
                            refine box_step (by rfl) (N := 13) ?hd (cs := #[.int .i64 0, .string (⟨#[]⟩ : ByteArray), .int .i64 0, .int .i64 0]) (t := 25) ?hr ?_
                            case hd => rfl
                            case hr => first | (go_simp; done) | (go_simp; rfl)
                            intro t13 hg w2 hbox hb
                            have n1_ := Aside0.mk (below_step HB.out hb)
                            have HG_ := Aside0.mk (show w.heap.size ≤ t13 by rw [hg]; exact HB.out.size)
                            have HN_ := Aside0.mk (show te ≠ t13 by rw [hg]; exact Nat.ne_of_lt (blk_lt HT_e.out))
                            have n2_ := Aside0.mk (Kd.R_below HO.out hb)
                            clear HO
                            have HO := n2_
                            clear n2_
                            have m0_ := Aside0.mk (blk_grown HT_e.out (grown_of_below hb none) (by simp))
                            clear HT_e
                            have HT_e := m0_
                            clear m0_
                            clear HB
                            have HB := n1_
                            have HT := Aside0.mk hbox
                            clear n1_ hb hbox hg
                            refine hK.out _ _ ((blk_cell HT_e.out i).trans hsi) (fun hHeld => ?_)
                            clear hK K
                            refine norm_ (a' := ?_) ?_ ?_
                            rotate_left
                            · show Act.put _ (some 13) _ = _
                              simp only [Act.put, List.setIfInBounds_toArray, List.set_cons_zero, List.set_cons_succ, i64_w, i32_w]
                              rfl
                            refine one_ (i := 10) (N := some 85) #[true, true, true, true, true, true, true, true, true, true, true, false, false, false, false, true, false, false, false] rfl rfl (by kernel_rfl) (by decide) (fun K hK => ?_)
                            refine goes_ Tryd.func9 (by kernel_rfl) rfl #[.slice Ao L2.length co, .int .i64 0] (by rfl) rfl rfl (by simp only [List.map_toArray, List.map_cons, List.map_nil]; rfl) ?_
                            with_reducible refine (HNX3.out _ Ao co (Kd.R_reads' HO.out).2.2 (Kd.R_reads' HO.out).2.1 (pw_cell_below HB.out HGL.out)).mono ?_
                            rintro e w3 ⟨rfl, hb⟩
                            have n1_ := Aside0.mk (below_step HB.out hb)
                            have m0_ := Aside0.mk (blk_grown HT_e.out (grown_of_below hb none) (by simp))
                            clear HT_e
                            have HT_e := m0_
                            clear m0_
                            have m0_ := Aside0.mk (blk_grown HT.out (grown_of_below hb none) (by simp))
                            clear HT
                            have HT := m0_
                            clear m0_
                            clear HB hb HO
                            have HB := n1_
                            clear n1_
                            refine ⟨_, rfl, ?_⟩
                            refine hK.out _ _ ((blk_cell HT_e.out i).trans hsi) (fun hHeld => ?_)
                            clear hK K
                            refine norm_ (a' := ?_) ?_ ?_
                            rotate_left
                            · show Act.put _ (some 85) _ = _
                              simp only [Act.put, List.setIfInBounds_toArray, List.set_cons_zero, List.set_cons_succ, i64_w, i32_w]
                              rfl
                            refine pure_ (i := 11) (N := some 74) (v := ?_) (a' := ?_) #[true, true, true, true, true, true, true, true, true, true, true, true, false, false, false, true, false, false, false] rfl rfl (by kernel_rfl) (fun _ _ _ h => h) (Or.inl ⟨by rfl, ?_⟩) ?_ ?_
                            rotate_left
                            · intro w'
                              go_simp
                              with_reducible rfl
                            rotate_left
                            · simp only [Act.put, List.setIfInBounds_toArray, List.set_cons_zero, List.set_cons_succ, i64_w, i32_w]
                              rfl
                            refine pure_ (i := 12) (N := some 86) (v := ?_) (a' := ?_) #[true, true, true, true, true, true, true, true, true, true, true, true, true, false, false, true, false, false, false] rfl rfl (by kernel_rfl) (fun _ _ _ h => h) (Or.inl ⟨by rfl, ?_⟩) ?_ ?_
                            rotate_left
                            · intro w'
                              go_simp
                              with_reducible rfl
                            rotate_left
                            · simp only [Act.put, List.setIfInBounds_toArray, List.set_cons_zero, List.set_cons_succ, i64_w, i32_w]
                              rfl
                            refine pure_ (i := 13) (N := some 87) (v := ?_) (a' := ?_) #[true, true, true, true, true, true, true, true, true, true, true, true, true, true, false, true, false, false, false] rfl rfl (by kernel_rfl) (fun _ _ _ h => h) (Or.inl ⟨by rfl, ?_⟩) ?_ ?_
                            rotate_left
                            · intro w'
                              go_simp
                              with_reducible rfl
                            rotate_left
                            · simp only [Act.put, List.setIfInBounds_toArray, List.set_cons_zero, List.set_cons_succ, i64_w, i32_w]
                              rfl
                            refine pure_ (i := 14) (N := some 88) (v := ?_) (a' := ?_) #[true, true, true, true, true, true, true, true, true, true, true, true, true, true, true, true, false, false, false] rfl rfl (by kernel_rfl) (fun _ _ _ h => h) (Or.inl ⟨by rfl, ?_⟩) ?_ ?_
                            rotate_left
                            · intro w'
                              go_simp
                              with_reducible rfl
                            rotate_left
                            · simp only [Act.put, List.setIfInBounds_toArray, List.set_cons_zero, List.set_cons_succ, i64_w, i32_w]
                              rfl
                            exact norm_ (by simp only [putAll, Act.put, List.setIfInBounds_toArray, List.set_cons_zero, List.set_cons_succ]) (hCont (v75, v79, .slice Ao L2.length co, t13) _ ⟨HB, HG_, HN_, HT_e, HT⟩)
                        · skip
                          refine box_step (by rfl) (N := 13) ?hd (cs := #[.int .i64 0, .string (⟨#[]⟩ : ByteArray), .int .i64 0, .int .i64 0]) (t := 25) ?hr ?_
                          case hd => rfl
                          case hr => first | (go_simp; done) | (go_simp; rfl)
                          intro t13 hg w2 hbox hb
                          have n1_ := Aside0.mk (below_step HB.out hb)
                          have HG_ := Aside0.mk (show w.heap.size ≤ t13 by rw [hg]; exact HB.out.size)
                          have HN_ := Aside0.mk (show te ≠ t13 by rw [hg]; exact Nat.ne_of_lt (blk_lt HT_e.out))
                          have n2_ := Aside0.mk (Kd.R_below HO.out hb)
                          clear HO
                          have HO := n2_
                          clear n2_
                          have m0_ := Aside0.mk (blk_grown HT_e.out (grown_of_below hb none) (by simp))
                          clear HT_e
                          have HT_e := m0_
                          clear m0_
                          clear HB
                          have HB := n1_
                          have HT := Aside0.mk hbox
                          clear n1_ hb hbox hg
                          refine hK.out _ _ ((blk_cell HT_e.out i).trans hsi) (fun hHeld => ?_)
                          clear hK K
                          refine norm_ (a' := ?_) ?_ ?_
                          rotate_left
                          · show Act.put _ (some 13) _ = _
                            simp only [Act.put, List.setIfInBounds_toArray, List.set_cons_zero, List.set_cons_succ, i64_w, i32_w]
                            rfl
                          refine one_ (i := 9) (N := some 84) #[true, true, true, true, true, true, true, true, true, true, false, false, false, false, false, true, false, false, false] rfl rfl (by kernel_rfl) (by decide) (fun K hK => ?_)
                          refine LexT.append_str_step (w0 := w) w.heap.size (by rfl) (.tmp 79) (.tmp 83) 22 9 5 (by rfl) Tryd.underlying22 Tryd.underlying9 info5 _ (TN) rfl si rfl HO.out HB.out HB.out.size (by have := HLB.out; have := HSL.out; omega) ?_
                          intro v84 w84 ho hb hg
                          rw [HL2.out] at ho
                          have m0_ := Aside0.mk (blk_grown HT_e.out hg (Kd.R_ne HO.out HT_e.out (by decide)))
                          clear HT_e
                          have HT_e := m0_
                          clear m0_
                          have m0_ := Aside0.mk (blk_grown HT.out hg (Kd.R_ne HO.out HT.out (by decide)))
                          clear HT
                          have HT := m0_
                          clear m0_
                          clear HB HO
                          have HO := Aside0.mk ho
                          have HB := Aside0.mk hb
                          obtain ⟨Ao, co, eo⟩ := Kd.R_slice HO.out
                          subst eo
                          clear ho hb hg
                          refine hK.out _ _ ((blk_cell HT_e.out i).trans hsi) (fun hHeld => ?_)
                          clear hK K
                          refine norm_ (a' := ?_) ?_ ?_
                          rotate_left
                          · show Act.put _ (some 84) _ = _
                            simp only [Act.put, List.setIfInBounds_toArray, List.set_cons_zero, List.set_cons_succ, i64_w, i32_w]
                            rfl
                          refine one_ (i := 10) (N := some 85) #[true, true, true, true, true, true, true, true, true, true, true, false, false, false, false, true, false, false, false] rfl rfl (by kernel_rfl) (by decide) (fun K hK => ?_)
                          refine goes_ Tryd.func9 (by kernel_rfl) rfl #[.slice Ao L2.length co, .int .i64 0] (by rfl) rfl rfl (by simp only [List.map_toArray, List.map_cons, List.map_nil]; rfl) ?_
                          with_reducible refine (HNX3.out _ Ao co (Kd.R_reads' HO.out).2.2 (Kd.R_reads' HO.out).2.1 (pw_cell_below HB.out HGL.out)).mono ?_
                          rintro e w3 ⟨rfl, hb⟩
                          have n1_ := Aside0.mk (below_step HB.out hb)
                          have m0_ := Aside0.mk (blk_grown HT_e.out (grown_of_below hb none) (by simp))
                          clear HT_e
                          have HT_e := m0_
                          clear m0_
                          have m0_ := Aside0.mk (blk_grown HT.out (grown_of_below hb none) (by simp))
                          clear HT
                          have HT := m0_
                          clear m0_
                          clear HB hb HO
                          have HB := n1_
                          clear n1_
                          refine ⟨_, rfl, ?_⟩
                          refine hK.out _ _ ((blk_cell HT_e.out i).trans hsi) (fun hHeld => ?_)
                          clear hK K
                          refine norm_ (a' := ?_) ?_ ?_
                          rotate_left
                          · show Act.put _ (some 85) _ = _
                            simp only [Act.put, List.setIfInBounds_toArray, List.set_cons_zero, List.set_cons_succ, i64_w, i32_w]
                            rfl
                          refine pure_ (i := 11) (N := some 74) (v := ?_) (a' := ?_) #[true, true, true, true, true, true, true, true, true, true, true, true, false, false, false, true, false, false, false] rfl rfl (by kernel_rfl) (fun _ _ _ h => h) (Or.inl ⟨by rfl, ?_⟩) ?_ ?_
                          rotate_left
                          · intro w'
                            go_simp
                            with_reducible rfl
                          rotate_left
                          · simp only [Act.put, List.setIfInBounds_toArray, List.set_cons_zero, List.set_cons_succ, i64_w, i32_w]
                            rfl
                          refine pure_ (i := 12) (N := some 86) (v := ?_) (a' := ?_) #[true, true, true, true, true, true, true, true, true, true, true, true, true, false, false, true, false, false, false] rfl rfl (by kernel_rfl) (fun _ _ _ h => h) (Or.inl ⟨by rfl, ?_⟩) ?_ ?_
                          rotate_left
                          · intro w'
                            go_simp
                            with_reducible rfl
                          rotate_left
                          · simp only [Act.put, List.setIfInBounds_toArray, List.set_cons_zero, List.set_cons_succ, i64_w, i32_w]
                            rfl
                          refine pure_ (i := 13) (N := some 87) (v := ?_) (a' := ?_) #[true, true, true, true, true, true, true, true, true, true, true, true, true, true, false, true, false, false, false] rfl rfl (by kernel_rfl) (fun _ _ _ h => h) (Or.inl ⟨by rfl, ?_⟩) ?_ ?_
                          rotate_left
                          · intro w'
                            go_simp
                            with_reducible rfl
                          rotate_left
                          · simp only [Act.put, List.setIfInBounds_toArray, List.set_cons_zero, List.set_cons_succ, i64_w, i32_w]
                            rfl
                          refine pure_ (i := 14) (N := some 88) (v := ?_) (a' := ?_) #[true, true, true, true, true, true, true, true, true, true, true, true, true, true, true, true, false, false, false] rfl rfl (by kernel_rfl) (fun _ _ _ h => h) (Or.inl ⟨by rfl, ?_⟩) ?_ ?_
                          rotate_left
                          · intro w'
                            go_simp
                            with_reducible rfl
                          rotate_left
                          · simp only [Act.put, List.setIfInBounds_toArray, List.set_cons_zero, List.set_cons_succ, i64_w, i32_w]
                            rfl
                          exact norm_ (by simp only [putAll, Act.put, List.setIfInBounds_toArray, List.set_cons_zero, List.set_cons_succ]) (hCont (v75, v79, .slice Ao L2.length co, t13) _ ⟨HB, HG_, HN_, HT_e, HT⟩)
                      · skip
                        refine box_step (by rfl) (N := 13) ?hd (cs := #[.int .i64 0, .string (⟨#[]⟩ : ByteArray), .int .i64 0, .int .i64 0]) (t := 25) ?hr ?_
                        case hd => rfl
                        case hr => first | (go_simp; done) | (go_simp; rfl)
                        intro t13 hg w2 hbox hb
                        have n1_ := Aside0.mk (below_step HB.out hb)
                        have HG_ := Aside0.mk (show w.heap.size ≤ t13 by rw [hg]; exact HB.out.size)
                        have HN_ := Aside0.mk (show te ≠ t13 by rw [hg]; exact Nat.ne_of_lt (blk_lt HT_e.out))
                        have n2_ := Aside0.mk (Kd.R_below HO.out hb)
                        clear HO
                        have HO := n2_
                        clear n2_
                        have m0_ := Aside0.mk (blk_grown HT_e.out (grown_of_below hb none) (by simp))
                        clear HT_e
                        have HT_e := m0_
                        clear m0_
                        clear HB
                        have HB := n1_
                        have HT := Aside0.mk hbox
                        clear n1_ hb hbox hg
                        refine hK.out _ _ ((blk_cell HT_e.out i).trans hsi) (fun hHeld => ?_)
                        clear hK K
                        refine norm_ (a' := ?_) ?_ ?_
                        rotate_left
                        · show Act.put _ (some 13) _ = _
                          simp only [Act.put, List.setIfInBounds_toArray, List.set_cons_zero, List.set_cons_succ, i64_w, i32_w]
                          rfl
                        refine one_ (i := 4) (N := some 79) #[true, true, true, true, true, true, true, true, true, false, false, false, false, false, false, true, false, false, false] rfl rfl (by kernel_rfl) (by decide) (fun K hK => ?_)
                        refine Kd.R_append_rows_step (Kd.int .u8) (w0 := w) w.heap.size (by rfl) (.tmp 75) (.tmp 78) 22 5 (.int .u8 0) 1 rfl Tryd.underlying22 info5 rfl (by decide) (by omega) _ ([]) (TN) _ _ _ (fun _ => True) (fun _ => False) rfl rfl HO.out (Kd.C_below HTC.out HB.out) (fun _ _ h => h) (fun _ h => h.elim) (fun _ _ => trivial) HB.out HB.out.size (by have := HLB.out; simp only [List.length_nil]; omega) ?_
                        intro v79 w79 ho hb hg hat
                        rw [List.nil_append] at ho
                        have m0_ := Aside0.mk (blk_grown HT_e.out hg (Kd.R_ne HO.out HT_e.out (by decide)))
                        clear HT_e
                        have HT_e := m0_
                        clear m0_
                        have m0_ := Aside0.mk (blk_grown HT.out hg (Kd.R_ne HO.out HT.out (by decide)))
                        clear HT
                        have HT := m0_
                        clear m0_
                        clear HB HO
                        have HO := Aside0.mk ho
                        have HB := Aside0.mk hb
                        clear ho hb hg hat
                        refine hK.out _ _ ((blk_cell HT_e.out i).trans hsi) (fun hHeld => ?_)
                        clear hK K
                        refine norm_ (a' := ?_) ?_ ?_
                        rotate_left
                        · show Act.put _ (some 79) _ = _
                          simp only [Act.put, List.setIfInBounds_toArray, List.set_cons_zero, List.set_cons_succ, i64_w, i32_w]
                          rfl
                        refine one_ (i := 9) (N := some 84) #[true, true, true, true, true, true, true, true, true, true, false, false, false, false, false, true, false, false, false] rfl rfl (by kernel_rfl) (by decide) (fun K hK => ?_)
                        refine LexT.append_str_step (w0 := w) w.heap.size (by rfl) (.tmp 79) (.tmp 83) 22 9 5 (by rfl) Tryd.underlying22 Tryd.underlying9 info5 _ (TN) rfl si rfl HO.out HB.out HB.out.size (by have := HLB.out; have := HSL.out; omega) ?_
                        intro v84 w84 ho hb hg
                        rw [HL2.out] at ho
                        have m0_ := Aside0.mk (blk_grown HT_e.out hg (Kd.R_ne HO.out HT_e.out (by decide)))
                        clear HT_e
                        have HT_e := m0_
                        clear m0_
                        have m0_ := Aside0.mk (blk_grown HT.out hg (Kd.R_ne HO.out HT.out (by decide)))
                        clear HT
                        have HT := m0_
                        clear m0_
                        clear HB HO
                        have HO := Aside0.mk ho
                        have HB := Aside0.mk hb
                        obtain ⟨Ao, co, eo⟩ := Kd.R_slice HO.out
                        subst eo
                        clear ho hb hg
                        refine hK.out _ _ ((blk_cell HT_e.out i).trans hsi) (fun hHeld => ?_)
                        clear hK K
                        refine norm_ (a' := ?_) ?_ ?_
                        rotate_left
                        · show Act.put _ (some 84) _ = _
                          simp only [Act.put, List.setIfInBounds_toArray, List.set_cons_zero, List.set_cons_succ, i64_w, i32_w]
                          rfl
                        refine one_ (i := 10) (N := some 85) #[true, true, true, true, true, true, true, true, true, true, true, false, false, false, false, true, false, false, false] rfl rfl (by kernel_rfl) (by decide) (fun K hK => ?_)
                        refine goes_ Tryd.func9 (by kernel_rfl) rfl #[.slice Ao L2.length co, .int .i64 0] (by rfl) rfl rfl (by simp only [List.map_toArray, List.map_cons, List.map_nil]; rfl) ?_
                        with_reducible refine (HNX3.out _ Ao co (Kd.R_reads' HO.out).2.2 (Kd.R_reads' HO.out).2.1 (pw_cell_below HB.out HGL.out)).mono ?_
                        rintro e w3 ⟨rfl, hb⟩
                        have n1_ := Aside0.mk (below_step HB.out hb)
                        have m0_ := Aside0.mk (blk_grown HT_e.out (grown_of_below hb none) (by simp))
                        clear HT_e
                        have HT_e := m0_
                        clear m0_
                        have m0_ := Aside0.mk (blk_grown HT.out (grown_of_below hb none) (by simp))
                        clear HT
                        have HT := m0_
                        clear m0_
                        clear HB hb HO
                        have HB := n1_
                        clear n1_
                        refine ⟨_, rfl, ?_⟩
                        refine hK.out _ _ ((blk_cell HT_e.out i).trans hsi) (fun hHeld => ?_)
                        clear hK K
                        refine norm_ (a' := ?_) ?_ ?_
                        rotate_left
                        · show Act.put _ (some 85) _ = _
                          simp only [Act.put, List.setIfInBounds_toArray, List.set_cons_zero, List.set_cons_succ, i64_w, i32_w]
                          rfl
                        refine pure_ (i := 11) (N := some 74) (v := ?_) (a' := ?_) #[true, true, true, true, true, true, true, true, true, true, true, true, false, false, false, true, false, false, false] rfl rfl (by kernel_rfl) (fun _ _ _ h => h) (Or.inl ⟨by rfl, ?_⟩) ?_ ?_
                        rotate_left
                        · intro w'
                          go_simp
                          with_reducible rfl
                        rotate_left
                        · simp only [Act.put, List.setIfInBounds_toArray, List.set_cons_zero, List.set_cons_succ, i64_w, i32_w]
                          rfl
                        refine pure_ (i := 12) (N := some 86) (v := ?_) (a' := ?_) #[true, true, true, true, true, true, true, true, true, true, true, true, true, false, false, true, false, false, false] rfl rfl (by kernel_rfl) (fun _ _ _ h => h) (Or.inl ⟨by rfl, ?_⟩) ?_ ?_
                        rotate_left
                        · intro w'
                          go_simp
                          with_reducible rfl
                        rotate_left
                        · simp only [Act.put, List.setIfInBounds_toArray, List.set_cons_zero, List.set_cons_succ, i64_w, i32_w]
                          rfl
                        refine pure_ (i := 13) (N := some 87) (v := ?_) (a' := ?_) #[true, true, true, true, true, true, true, true, true, true, true, true, true, true, false, true, false, false, false] rfl rfl (by kernel_rfl) (fun _ _ _ h => h) (Or.inl ⟨by rfl, ?_⟩) ?_ ?_
                        rotate_left
                        · intro w'
                          go_simp
                          with_reducible rfl
                        rotate_left
                        · simp only [Act.put, List.setIfInBounds_toArray, List.set_cons_zero, List.set_cons_succ, i64_w, i32_w]
                          rfl
                        refine pure_ (i := 14) (N := some 88) (v := ?_) (a' := ?_) #[true, true, true, true, true, true, true, true, true, true, true, true, true, true, true, true, false, false, false] rfl rfl (by kernel_rfl) (fun _ _ _ h => h) (Or.inl ⟨by rfl, ?_⟩) ?_ ?_
                        rotate_left
                        · intro w'
                          go_simp
                          with_reducible rfl
                        rotate_left
                        · simp only [Act.put, List.setIfInBounds_toArray, List.set_cons_zero, List.set_cons_succ, i64_w, i32_w]
                          rfl
                        exact norm_ (by simp only [putAll, Act.put, List.setIfInBounds_toArray, List.set_cons_zero, List.set_cons_succ]) (hCont (v75, v79, .slice Ao L2.length co, t13) _ ⟨HB, HG_, HN_, HT_e, HT⟩)
                    · skip
                      refine box_step (by rfl) (N := 13) ?hd (cs := #[.int .i64 0, .string (⟨#[]⟩ : ByteArray), .int .i64 0, .int .i64 0]) (t := 25) ?hr ?_
                      case hd => rfl
                      case hr => first | (go_simp; done) | (go_simp; rfl)
                      intro t13 hg w2 hbox hb
                      have n1_ := Aside0.mk (below_step HB.out hb)
                      have HG_ := Aside0.mk (show w.heap.size ≤ t13 by rw [hg]; exact HB.out.size)
                      have HN_ := Aside0.mk (show te ≠ t13 by rw [hg]; exact Nat.ne_of_lt (blk_lt HT_e.out))
                      have m0_ := Aside0.mk (blk_grown HT_e.out (grown_of_below hb none) (by simp))
                      clear HT_e
                      have HT_e := m0_
                      clear m0_
                      clear HB
                      have HB := n1_
                      have HT := Aside0.mk hbox
                      clear n1_ hb hbox hg
                      refine hK.out _ _ ((blk_cell HT_e.out i).trans hsi) (fun hHeld => ?_)
                      clear hK K
                      refine norm_ (a' := ?_) ?_ ?_
                      rotate_left
                      · show Act.put _ (some 13) _ = _
                        simp only [Act.put, List.setIfInBounds_toArray, List.set_cons_zero, List.set_cons_succ, i64_w, i32_w]
                        rfl
                      refine one_ (i := 0) (N := some 75) #[true, true, true, true, false, true, true, true, true, false, false, false, false, false, false, true, false, false, false] rfl rfl (by kernel_rfl) (by decide) (fun K hK => ?_)
                      refine Kd.R_lit_step (Kd.int .u8) (w0 := w) w.heap.size 5 (by rfl) (N := 75) ?hd (xs := ([] : List Int)) (inner := []) (ok := fun _ => True) (okp := fun _ => True) ?hr ?hp (fun _ hk => hk) trivial HB.out HB.out.size (by simp) ?_
                      case hd => rfl
                      case hr => first | (go_simp; done) | (go_simp; rfl)
                      case hp => exact (Reps.none _ _)
                      intro v75 w75 ho hb hg_ hnew_
                      have m0_ := Aside0.mk (blk_grown HT_e.out hg_ (by simp))
                      clear HT_e
                      have HT_e := m0_
                      clear m0_
                      have m0_ := Aside0.mk (blk_grown HT.out hg_ (by simp))
                      clear HT
                      have HT := m0_
                      clear m0_
                      clear HB
                      have HO := Aside0.mk ho
                      have HB := Aside0.mk hb
                      clear ho hb hg_ hnew_
                      refine hK.out _ _ ((blk_cell HT_e.out i).trans hsi) (fun hHeld => ?_)
                      clear hK K
                      refine norm_ (a' := ?_) ?_ ?_
                      rotate_left
                      · show Act.put _ (some 75) _ = _
                        simp only [Act.put, List.setIfInBounds_toArray, List.set_cons_zero, List.set_cons_succ, i64_w, i32_w]
                        rfl
                      refine one_ (i := 4) (N := some 79) #[true, true, true, true, true, true, true, true, true, false, false, false, false, false, false, true, false, false, false] rfl rfl (by kernel_rfl) (by decide) (fun K hK => ?_)
                      refine Kd.R_append_rows_step (Kd.int .u8) (w0 := w) w.heap.size (by rfl) (.tmp 75) (.tmp 78) 22 5 (.int .u8 0) 1 rfl Tryd.underlying22 info5 rfl (by decide) (by omega) _ ([]) (TN) _ _ _ (fun _ => True) (fun _ => False) rfl rfl HO.out (Kd.C_below HTC.out HB.out) (fun _ _ h => h) (fun _ h => h.elim) (fun _ _ => trivial) HB.out HB.out.size (by have := HLB.out; simp only [List.length_nil]; omega) ?_
                      intro v79 w79 ho hb hg hat
                      rw [List.nil_append] at ho
                      have m0_ := Aside0.mk (blk_grown HT_e.out hg (Kd.R_ne HO.out HT_e.out (by decide)))
                      clear HT_e
                      have HT_e := m0_
                      clear m0_
                      have m0_ := Aside0.mk (blk_grown HT.out hg (Kd.R_ne HO.out HT.out (by decide)))
                      clear HT
                      have HT := m0_
                      clear m0_
                      clear HB HO
                      have HO := Aside0.mk ho
                      have HB := Aside0.mk hb
                      clear ho hb hg hat
                      refine hK.out _ _ ((blk_cell HT_e.out i).trans hsi) (fun hHeld => ?_)
                      clear hK K
                      refine norm_ (a' := ?_) ?_ ?_
                      rotate_left
                      · show Act.put _ (some 79) _ = _
                        simp only [Act.put, List.setIfInBounds_toArray, List.set_cons_zero, List.set_cons_succ, i64_w, i32_w]
                        rfl
                      refine one_ (i := 9) (N := some 84) #[true, true, true, true, true, true, true, true, true, true, false, false, false, false, false, true, false, false, false] rfl rfl (by kernel_rfl) (by decide) (fun K hK => ?_)
                      refine LexT.append_str_step (w0 := w) w.heap.size (by rfl) (.tmp 79) (.tmp 83) 22 9 5 (by rfl) Tryd.underlying22 Tryd.underlying9 info5 _ (TN) rfl si rfl HO.out HB.out HB.out.size (by have := HLB.out; have := HSL.out; omega) ?_
                      intro v84 w84 ho hb hg
                      rw [HL2.out] at ho
                      have m0_ := Aside0.mk (blk_grown HT_e.out hg (Kd.R_ne HO.out HT_e.out (by decide)))
                      clear HT_e
                      have HT_e := m0_
                      clear m0_
                      have m0_ := Aside0.mk (blk_grown HT.out hg (Kd.R_ne HO.out HT.out (by decide)))
                      clear HT
                      have HT := m0_
                      clear m0_
                      clear HB HO
                      have HO := Aside0.mk ho
                      have HB := Aside0.mk hb
                      obtain ⟨Ao, co, eo⟩ := Kd.R_slice HO.out
                      subst eo
                      clear ho hb hg
                      refine hK.out _ _ ((blk_cell HT_e.out i).trans hsi) (fun hHeld => ?_)
                      clear hK K
                      refine norm_ (a' := ?_) ?_ ?_
                      rotate_left
                      · show Act.put _ (some 84) _ = _
                        simp only [Act.put, List.setIfInBounds_toArray, List.set_cons_zero, List.set_cons_succ, i64_w, i32_w]
                        rfl
                      refine one_ (i := 10) (N := some 85) #[true, true, true, true, true, true, true, true, true, true, true, false, false, false, false, true, false, false, false] rfl rfl (by kernel_rfl) (by decide) (fun K hK => ?_)
                      refine goes_ Tryd.func9 (by kernel_rfl) rfl #[.slice Ao L2.length co, .int .i64 0] (by rfl) rfl rfl (by simp only [List.map_toArray, List.map_cons, List.map_nil]; rfl) ?_
                      with_reducible refine (HNX3.out _ Ao co (Kd.R_reads' HO.out).2.2 (Kd.R_reads' HO.out).2.1 (pw_cell_below HB.out HGL.out)).mono ?_
                      rintro e w3 ⟨rfl, hb⟩
                      have n1_ := Aside0.mk (below_step HB.out hb)
                      have m0_ := Aside0.mk (blk_grown HT_e.out (grown_of_below hb none) (by simp))
                      clear HT_e
                      have HT_e := m0_
                      clear m0_
                      have m0_ := Aside0.mk (blk_grown HT.out (grown_of_below hb none) (by simp))
                      clear HT
                      have HT := m0_
                      clear m0_
                      clear HB hb HO
                      have HB := n1_
                      clear n1_
                      refine ⟨_, rfl, ?_⟩
                      refine hK.out _ _ ((blk_cell HT_e.out i).trans hsi) (fun hHeld => ?_)
                      clear hK K
                      refine norm_ (a' := ?_) ?_ ?_
                      rotate_left
                      · show Act.put _ (some 85) _ = _
                        simp only [Act.put, List.setIfInBounds_toArray, List.set_cons_zero, List.set_cons_succ, i64_w, i32_w]
                        rfl
                      refine pure_ (i := 11) (N := some 74) (v := ?_) (a' := ?_) #[true, true, true, true, true, true, true, true, true, true, true, true, false, false, false, true, false, false, false] rfl rfl (by kernel_rfl) (fun _ _ _ h => h) (Or.inl ⟨by rfl, ?_⟩) ?_ ?_
                      rotate_left
                      · intro w'
                        go_simp
                        with_reducible rfl
                      rotate_left
                      · simp only [Act.put, List.setIfInBounds_toArray, List.set_cons_zero, List.set_cons_succ, i64_w, i32_w]
                        rfl
                      refine pure_ (i := 12) (N := some 86) (v := ?_) (a' := ?_) #[true, true, true, true, true, true, true, true, true, true, true, true, true, false, false, true, false, false, false] rfl rfl (by kernel_rfl) (fun _ _ _ h => h) (Or.inl ⟨by rfl, ?_⟩) ?_ ?_
                      rotate_left
                      · intro w'
                        go_simp
                        with_reducible rfl
                      rotate_left
                      · simp only [Act.put, List.setIfInBounds_toArray, List.set_cons_zero, List.set_cons_succ, i64_w, i32_w]
                        rfl
                      refine pure_ (i := 13) (N := some 87) (v := ?_) (a' := ?_) #[true, true, true, true, true, true, true, true, true, true, true, true, true, true, false, true, false, false, false] rfl rfl (by kernel_rfl) (fun _ _ _ h => h) (Or.inl ⟨by rfl, ?_⟩) ?_ ?_
                      rotate_left
                      · intro w'
                        go_simp
                        with_reducible rfl
                      rotate_left
                      · simp only [Act.put, List.setIfInBounds_toArray, List.set_cons_zero, List.set_cons_succ, i64_w, i32_w]
                        rfl
                      refine pure_ (i := 14) (N := some 88) (v := ?_) (a' := ?_) #[true, true, true, true, true, true, true, true, true, true, true, true, true, true, true, true, false, false, false] rfl rfl (by kernel_rfl) (fun _ _ _ h => h) (Or.inl ⟨by rfl, ?_⟩) ?_ ?_
                      rotate_left
                      · intro w'
                        go_simp
                        with_reducible rfl
                      rotate_left
                      · simp only [Act.put, List.setIfInBounds_toArray, List.set_cons_zero, List.set_cons_succ, i64_w, i32_w]
                        rfl
                      exact norm_ (by simp only [putAll, Act.put, List.setIfInBounds_toArray, List.set_cons_zero, List.set_cons_succ]) (hCont (v75, v79, .slice Ao L2.length co, t13) _ ⟨HB, HG_, HN_, HT_e, HT⟩)
                  clear HB HT_e
                  rintro ⟨v75, v79, v84, t13⟩ w3 ⟨HB, HG_, HN_, HT_e, HT⟩
                  dsimp only at HG_ HN_ HT_e HT
                  have hHeld : w3.cell? ⟨te, i, none⟩ = some (.string si) := (blk_cell HT_e.out i).trans hsi
                  have ht0 := (blk_cell HT.out 0).trans rfl
                  have hf0 := blk_frozen HT.out 0
                  have ht1 := (blk_cell HT.out 1).trans rfl
                  have hf1 := blk_frozen HT.out 1
                  have ht2 := (blk_cell HT.out 2).trans rfl
                  have hf2 := blk_frozen HT.out 2
                  have ht3 := (blk_cell HT.out 3).trans rfl
                  have hf3 := blk_frozen HT.out 3
                  refine norm_ (a' := ?_) ?_ ?_
                  rotate_left
                  · simp only [putAll, Act.put, List.setIfInBounds_toArray, List.set_cons_zero, List.set_cons_succ]
                    rfl
                  refine one_ (i := 16) (N := none) #[true, true, true, true, true, true, true, true, true, true, true, true, true, true, true, true, true, false, false] rfl rfl (by kernel_rfl) (by decide) (fun K hK => ?_)
                  refine skip_ (w1 := ?_) (by rfl) rfl ?_ ?_
                  rotate_left
                  · go_simp
                    rfl
                  refine hK.out _ _ ((blk_cell (blk_far (blk_far (blk_far (blk_far HT_e.out HN_.out _) HN_.out _) HN_.out _) HN_.out _) i).trans hsi) (fun hHeld => ?_)
                  clear hK K
                  refine pure_ (i := 17) (N := some 14) (v := ?_) (a' := ?_) #[true, true, true, true, true, true, true, true, true, true, true, true, true, true, true, true, true, true, false] rfl rfl (by kernel_rfl) (fun _ _ _ h => h) (Or.inl ⟨by rfl, ?_⟩) ?_ ?_
                  rotate_left
                  · intro w'
                    go_simp
                    with_reducible rfl
                  rotate_left
                  · simp only [Act.put, List.setIfInBounds_toArray, List.set_cons_zero, List.set_cons_succ, i64_w, i32_w]
                    rfl
                  refine pure_ (i := 18) (N := some 15) (v := ?_) (a' := ?_) #[true, true, true, true, true, true, true, true, true, true, true, true, true, true, true, true, true, true, true] rfl rfl (by kernel_rfl) (fun _ _ _ h => h) (Or.inl ⟨by rfl, ?_⟩) ?_ ?_
                  rotate_left
                  · intro w'
                    go_simp
                    with_reducible rfl
                  rotate_left
                  · simp only [Act.put, List.setIfInBounds_toArray, List.set_cons_zero, List.set_cons_succ, i64_w, i32_w]
                    rfl
                  refine done_ (by kernel_rfl) ?_
                  go_wp2
                  go_meet
                  case rel => exact ⟨rfl, rfl, ⟨below_set (below_set (below_set (below_set HB.out HG_.out) HG_.out) HG_.out) HG_.out⟩, ⟨blk_far (blk_far (blk_far (blk_far HT_e.out HN_.out _) HN_.out _) HN_.out _) HN_.out _⟩⟩
                case rest =>
                  clear HB HT_e
                  obtain ⟨rfl, rfl, HB, HT_e⟩ := hcut
                  go_wp2
                  go_roundg (30 - (i + 1))
                  case measure => omega
                  case rel => exact ⟨i + 1, sm', rfl, by go_num, by omega, rfl, HSM, HB, HT_e⟩
              · clear hle
                go_wp2
                go_roundg (30 - (i + 1))
                case measure => omega
                case rel => exact ⟨i + 1, sm', rfl, by go_num, by omega, rfl, HSM, HB, HT_e⟩
        · obtain rfl : i = 30 := by omega
          obtain rfl := HSM.out HJS.out
          clear hlt
          go_wp2_with (first | (go_at_call 11; (with_reducible refine (lexlaw_heads.calls _ (pw_cell_below HB.out HGL.out)).mono ?_); rintro e w1 ⟨rfl, hb⟩; have n1_ := Aside0.mk (below_step HB.out hb); clear HB hb; have HB := n1_; clear n1_))
          go_ret
          exact ⟨rfl, HB.out⟩
    · have hz : N = 0 := by rw [hN, LexW.next_zero hnx he]; rfl
      subst hz
      have b1 : (re != 50) = true := by simpa using he
      clear hN hnx he
      go_wp2_with (first | (go_at_call 11; (with_reducible refine (lexlaw_heads.calls _ (pw_cell_below HB.out HGL.out)).mono ?_); rintro e w1 ⟨rfl, hb⟩; have n1_ := Aside0.mk (below_step HB.out hb); clear HB hb; have HB := n1_; clear n1_))
      go_ret
      exact ⟨rfl, HB.out⟩

end Go.Proofs.YthoobepfkfjgnaaDoor.PL
