import Derived.Test.YthoobepfkfjgnaaDoorPLx0
import Derived.Test.YthoobepfkfjgnaaDoorLXe
import Derived.Test.YthoobepfkfjgnaaDoorLXh
import Derived.Test.YthoobepfkfjgnaaDoorRPa
import Derived.Test.YthoobepfkfjgnaaDoorLexW
import Derived.Lib.SmallJoins
import Derived.WalkLawsBesides
import Derived.Outline
import Derived.StillTailTactics
import Derived.Test.YthoobepfkfjgnaaDoorMore
namespace Go.Proofs.YthoobepfkfjgnaaDoor.PL
open Go.RowKit Go.Proofs.YthoobepfkfjgnaaDoorW.PrintWords Go.Proofs.YthoobepfkfjgnaaDoorW.PrintLast Go.Proofs.YthoobepfkfjgnaaDoorW.PrintMore
attribute [local go_sem] max2_int min2_int max_two min_two max_three min_three max_four min_four
set_option linter.unusedVariables false
set_option linter.unusedSimpArgs false
-- GIVEN plain making
theorem LexW.may_gt {of b : List Int} {p q : Nat} (h : LexW.may of b p = (true, q)) : p + 1 ≤ q := by
  unfold LexW.may at h
  split at h
  · split at h <;> cases h; exact Nat.le_refl _
  · cases h
theorem LexW.digits_gt {b : List Int} {p q : Nat} (h : LexW.digits b p = (none, q)) : p + 1 ≤ q := by
  unfold LexW.digits at h
  rcases hm : LexW.must LexW.digit b p with ⟨r1, q1⟩
  rw [hm] at h
  simp only [Prod.mk.injEq] at h
  obtain ⟨h1, h2⟩ := h
  have h3 : q1 ≤ LexW.pass LexW.digit b q1 := LexW.le_pass _ _ _ _ rfl
  subst h1
  unfold LexW.must at hm
  split at hm
  · split at hm
    · cases hm; omega
    · cases hm
  · cases hm
theorem LexW.number_gt {b : List Int} {p q : Nat} (h : LexW.number b p = (none, q)) : p + 1 ≤ q := by
  unfold LexW.number at h
  have h1 : p ≤ (LexW.may [45] b p).2 := LexW.may_ge (m := (LexW.may [45] b p).1) rfl
  rcases hi : LexW.int_ b (LexW.may [45] b p).2 with ⟨ri, qi⟩
  have h2 : ri = none → (LexW.may [45] b p).2 + 1 ≤ qi := by
    intro e
    subst e
    unfold LexW.int_ at hi
    split at hi
    · rename_i hm
      cases hi
      exact LexW.may_gt (Prod.ext hm rfl)
    · have := LexW.digits_gt hi
      have h3 : (LexW.may [45] b p).2 ≤ (LexW.may [48] b (LexW.may [45] b p).2).2 := LexW.may_ge (m := (LexW.may [48] b (LexW.may [45] b p).2).1) rfl
      omega
  simp only [hi] at h
  cases ri with
  | some e => simp only [Option.isSome_some, if_true] at h; cases h
  | none =>
    have := h2 rfl
    simp only [Option.isSome_none, Bool.false_eq_true, if_false] at h
    have h3 : qi ≤ (LexW.frac b qi).2 := LexW.frac_ge (r := (LexW.frac b qi).1) rfl
    split at h
    · have := LexW.frac_ge h; omega
    · have := LexW.expo_ge h; omega
theorem LexW.text_ge (l : List Int) : ∀ (k : Nat) {o : List Int} {p : Nat} {out : List Int} {q : Nat}, LexW.text l k o p = some (none, out, q) → p + 1 ≤ q := by
  intro k
  induction k with
  | zero => intro o p out q h; cases h
  | succ k ih =>
    intro o p out q h
    have hle : p ≤ LexW.tq l p := LexW.le_pass _ _ _ _ rfl
    rw [LexW.text] at h
    obtain ⟨gd, _, h⟩ := Option.bind_eq_some_iff.mp h
    split at h
    · split at h
      · cases h
      · split at h
        · split at h
          · split at h
            · cases h; omega
            · rcases hes : LexW.escape l (LexW.tq l p + 1) with ⟨r8, n8, q8⟩
              simp only [hes] at h
              cases r8 with
              | some e => simp only [Option.isSome_some, if_true] at h; cases h
              | none =>
                simp only [Option.isSome_none, Bool.false_eq_true, if_false] at h
                obtain ⟨o3, _, h⟩ := Option.bind_eq_some_iff.mp h
                have := ih h
                have := LexW.escape_gt hes
                omega
          · cases h
        · cases h
    · cases h
theorem LexW.sw_gt {b : List Int} {k p : Nat} {kd : Int} {out : List Int} {q : Nat} (h : LexW.sw b k p = some (none, kd, out, q)) (hk : kd ≠ 0) : p + 1 ≤ q := by
  unfold LexW.sw at h
  split at h
  · split at h
    · cases h; exact Nat.le_refl _
    · split at h
      · obtain ⟨h1, _, _, h4⟩ := LexW.inj4 h; have := (LexW.exactly_cut _ (Prod.ext h1 h4)).1; simp at this; omega
      · split at h
        · obtain ⟨h1, _, _, h4⟩ := LexW.inj4 h; have := (LexW.exactly_cut _ (Prod.ext h1 h4)).1; simp at this; omega
        · split at h
          · obtain ⟨h1, _, _, h4⟩ := LexW.inj4 h; have := (LexW.exactly_cut _ (Prod.ext h1 h4)).1; simp at this; omega
          · split at h
            · obtain ⟨h1, _, _, h4⟩ := LexW.inj4 h; exact LexW.number_gt (Prod.ext h1 h4)
            · split at h
              · obtain ⟨⟨t1, t2, t3⟩, ht, h⟩ := Option.bind_eq_some_iff.mp h
                obtain ⟨h1, _, _, h4⟩ := LexW.inj4 h
                dsimp only at h1 h4
                subst h1; subst h4
                have := LexW.text_ge b _ ht
                omega
              · cases h
  · cases h; exact absurd rfl hk
theorem LexW.next_adv {b : List Int} {k a : Nat} {rk : Int} {rx : List Int} {rf rt2 rn : Nat} {re : Int} (h : LexW.next b k (a : Int) = some (rk, rx, rf, rt2, rn, re)) (ha : a ≤ b.length) (he : re = 0) (hk : rk ≠ 0) : a + 1 ≤ rt2 ∧ rt2 ≤ b.length := by
  unfold LexW.next at h
  rw [if_neg (by omega), if_neg (by omega)] at h
  obtain ⟨⟨rt, kt, txt, ft, et⟩, htk, h⟩ := Option.bind_eq_some_iff.mp h
  rw [Int.toNat_natCast] at htk
  cases rt with
  | some e => obtain ⟨_, _, _, _, _, h6⟩ := LexW.inj6 h; omega
  | none =>
    obtain ⟨h1, _, _, h4, _, _⟩ := LexW.inj6 h
    dsimp only at h1 h4
    subst h1; subst h4
    unfold LexW.token at htk
    obtain ⟨⟨r, kd, out, q⟩, hsw, htk⟩ := Option.bind_eq_some_iff.mp htk
    dsimp only at htk
    have hp1 : LexW.pass LexW.blank b a ≤ b.length := LexW.pass_le _ _ _ _ rfl ha
    have hp2 : a ≤ LexW.pass LexW.blank b a := LexW.le_pass _ _ _ _ rfl
    cases r with
    | some e => simp only [Option.isSome_some, if_true, Option.some.injEq, Prod.mk.injEq] at htk; cases htk.1
    | none =>
      simp only [Option.isSome_none, Bool.false_eq_true, if_false, Option.some.injEq, Prod.mk.injEq] at htk
      obtain ⟨_, e2, _, _, e5⟩ := htk
      subst e2; subst e5
      have := LexW.sw_gt hsw hk
      have := LexW.sw_le hsw hp1
      omega

-- GIVEN plain making
/-- Two rows of bytes that agree on the first q. -/
def LexW.Ag (b c : List Int) (q : Nat) : Prop := q ≤ b.length ∧ q ≤ c.length ∧ b.take q = c.take q
theorem LexW.Ag.at {b c : List Int} {q : Nat} (h : LexW.Ag b c q) {i : Nat} (hi : i < q) : LexW.at_ b i = LexW.at_ c i := by
  have e : (b.take q)[i]? = (c.take q)[i]? := by rw [h.2.2]
  rw [List.getElem?_take_of_lt hi, List.getElem?_take_of_lt hi] at e
  unfold LexW.at_
  rw [List.getD_eq_getElem?_getD, List.getD_eq_getElem?_getD, e]
theorem LexW.Ag.cut {b c : List Int} {q : Nat} (h : LexW.Ag b c q) (p i : Nat) (hi : i ≤ q) : (b.take i).drop p = (c.take i).drop p := by
  have e : (b.take q).take i = (c.take q).take i := by rw [h.2.2]
  rw [List.take_take, List.take_take, Nat.min_eq_left hi] at e
  rw [e]
theorem LexW.pass_loc {T : Int → Bool} {b c : List Int} {q : Nat} (h : LexW.Ag b c q) : ∀ (n p : Nat), q - p = n → LexW.pass T b p < q → LexW.pass T c p = LexW.pass T b p := by
  intro n
  induction n with
  | zero => intro p hn hp; have : p ≤ LexW.pass T b p := LexW.le_pass _ _ _ _ rfl; omega
  | succ n ih =>
    intro p hn hp
    have hle : p ≤ LexW.pass T b p := LexW.le_pass _ _ _ _ rfl
    have hb := h.1
    have hc := h.2.1
    have e := h.at (show p < q by omega)
    by_cases ht : T (LexW.at_ b p) = true
    · have e1 : LexW.pass T b p = LexW.pass T b (p + 1) := by conv => lhs; rw [LexW.pass, if_pos (by omega), if_pos ht]
      have e2 : LexW.pass T c p = LexW.pass T c (p + 1) := by conv => lhs; rw [LexW.pass, if_pos (by omega), if_pos (by rw [← e]; exact ht)]
      rw [e2, e1]
      exact ih (p + 1) (by omega) (by rw [← e1]; exact hp)
    · rw [LexW.pass, if_pos (by omega), if_neg (by rw [← e]; exact ht), LexW.pass, if_pos (by omega), if_neg ht]
theorem LexW.must_loc {T : Int → Bool} {b c : List Int} {q p q1 : Nat} (h : LexW.Ag b c q) (hm : LexW.must T b p = (none, q1)) (hq : q1 ≤ q) : LexW.must T c p = (none, q1) := by
  have hc := h.2.1
  unfold LexW.must at hm ⊢
  split at hm
  · split at hm
    · rename_i h1 h2
      cases hm
      rw [if_pos (by omega), ← h.at (by omega), if_pos h2]
    · cases hm
  · cases hm
theorem LexW.exactly_loc : ∀ (l : List Int) {b c : List Int} {q p q1 : Nat}, LexW.Ag b c q → LexW.exactly l b p = (none, q1) → q1 ≤ q → LexW.exactly l c p = (none, q1) := by
  intro l
  induction l with
  | nil => intro b c q p q1 h hm hq; rw [LexW.exactly] at hm ⊢; exact hm
  | cons x l ih =>
    intro b c q p q1 h hm hq
    rw [LexW.exactly] at hm ⊢
    rcases hmu : LexW.must (fun y => y == x) b p with ⟨r1, p1⟩
    rw [hmu] at hm
    cases r1 with
    | some e => simp only [Option.isSome_some, if_true] at hm; cases hm
    | none =>
      simp only [Option.isSome_none, Bool.false_eq_true, if_false] at hm
      have := LexW.exactly_ge _ hm
      rw [LexW.must_loc h hmu (by omega)]
      simp only [Option.isSome_none, Bool.false_eq_true, if_false]
      exact ih h hm hq
theorem LexW.four_loc (T : Nat → Int → Bool) {b c : List Int} {q : Nat} (h : LexW.Ag b c q) : ∀ (k i : Nat) (n : Int) {p q1 : Nat} {nr : Int}, LexW.four T b k i n p = (none, nr, q1) → q1 ≤ q → LexW.four T c k i n p = (none, nr, q1) := by
  intro k
  induction k with
  | zero => intro i n p q1 nr hm hq; rw [LexW.four] at hm ⊢; exact hm
  | succ k ih =>
    intro i n p q1 nr hm hq
    have hc := h.2.1
    have hs := LexW.four_step hm
    obtain ⟨s1, s2, s3, s4⟩ := hs
    have := LexW.four_ge _ _ _ _ _ s4
    rw [LexW.four, ← h.at (by omega), if_pos (by omega), if_pos s2, if_pos s3]
    exact ih _ _ s4 hq
theorem LexW.escape_loc {b c : List Int} {q p q1 : Nat} {n : Int} (h : LexW.Ag b c q) (hm : LexW.escape b p = (none, n, q1)) (hq : q1 ≤ q) : LexW.escape c p = (none, n, q1) := by
  have hgt := LexW.escape_gt hm
  have hb := h.1
  have hc := h.2.1
  have e := h.at (show p < q by omega)
  unfold LexW.escape at hm ⊢
  rw [if_pos (by omega)] at hm ⊢
  rw [← e]
  by_cases h0 : 0 ≤ LexW.idx (LexW.at_ b p) LexW.escFrom
  · rw [if_pos h0] at hm ⊢; exact hm
  · rw [if_neg h0] at hm ⊢
    unfold LexW.uesc at hm ⊢
    rcases h2 : LexW.exactly [117] b p with ⟨r2, q2⟩
    simp only [h2] at hm
    cases r2 with
    | some e => simp only [Option.isSome_some, if_true] at hm; cases hm
    | none =>
      simp only [Option.isSome_none, Bool.false_eq_true, if_false] at hm
      rcases h3 : LexW.four LexW.T1 b 4 0 0 q2 with ⟨r3, hi, q3⟩
      simp only [h3] at hm
      cases r3 with
      | some e => simp only [Option.isSome_some, if_true] at hm; cases hm
      | none =>
        simp only [Option.isSome_none, Bool.false_eq_true, if_false] at hm
        have g3 := LexW.four_ge _ _ _ _ _ h3
        by_cases c1 : hi < 55296
        · rw [if_pos c1] at hm
          cases hm
          have h3' := LexW.four_loc LexW.T1 h 4 0 0 h3 hq
          have h2' := LexW.exactly_loc [117] h h2 (by omega)
          simp only [h2', h3', Option.isSome_none, Bool.false_eq_true, if_false, if_pos c1]
        · rw [if_neg c1] at hm
          by_cases c2 : hi > 57343
          · rw [if_pos c2] at hm
            cases hm
            have h3' := LexW.four_loc LexW.T1 h 4 0 0 h3 hq
            have h2' := LexW.exactly_loc [117] h h2 (by omega)
            simp only [h2', h3', Option.isSome_none, Bool.false_eq_true, if_false, if_neg c1, if_pos c2]
          · rw [if_neg c2] at hm
            unfold LexW.tail2 at hm
            rcases h6 : LexW.exactly [92, 117] b q3 with ⟨r6, q6⟩
            simp only [h6] at hm
            cases r6 with
            | some e => simp only [Option.isSome_some, if_true] at hm; cases hm
            | none =>
              simp only [Option.isSome_none, Bool.false_eq_true, if_false] at hm
              have g6 := LexW.exactly_ge _ h6
              rcases h7 : LexW.four LexW.T2 b 4 0 0 q6 with ⟨r7, lo, q7⟩
              simp only [h7] at hm
              have g7 := LexW.four_ge _ _ _ _ _ h7
              cases r7 with
              | some e => simp only [Option.isSome_some, if_true] at hm; cases hm
              | none =>
                simp only [Option.isSome_none, Bool.false_eq_true, if_false] at hm
                cases hm
                have h3' := LexW.four_loc LexW.T1 h 4 0 0 h3 (by omega)
                have h2' := LexW.exactly_loc [117] h h2 (by omega)
                have h6' := LexW.exactly_loc [92, 117] h h6 (by omega)
                have h7' := LexW.four_loc LexW.T2 h 4 0 0 h7 hq
                unfold LexW.tail2
                simp only [h2', h3', h6', h7', Option.isSome_none, Bool.false_eq_true, if_false, if_neg c1, if_neg c2]
theorem LexW.text_loc {b c : List Int} {q : Nat} (hmb : b.length < 1099511627776) (hmc : c.length < 1099511627776) (h : LexW.Ag b c q) : ∀ (k : Nat) {o : List Int} {p : Nat} {out : List Int} {q1 : Nat}, LexW.text b k o p = some (none, out, q1) → q1 ≤ q → LexW.text c k o p = some (none, out, q1) := by
  intro k
  induction k with
  | zero => intro o p out q1 hm hq; cases hm
  | succ k ih =>
    intro o p out q1 hm hq
    have hb := h.1
    have hc := h.2.1
    have hle : p ≤ LexW.tq b p := LexW.le_pass _ _ _ _ rfl
    have hlb : (LexW.tpl b p).length ≤ b.length := by unfold LexW.tpl; rw [List.length_drop, List.length_take]; omega
    have hlc : (LexW.tpl c p).length ≤ c.length := by unfold LexW.tpl; rw [List.length_drop, List.length_take]; omega
    rw [LexW.text, Pure.utf_Points.good_k (LexW.tpl b p) (by omega) _ (by omega)] at hm
    rw [LexW.text, Pure.utf_Points.good_k (LexW.tpl c p) (by omega) _ (by omega)]
    simp only [Option.bind_some] at hm ⊢
    split at hm
    · rename_i hg
      split at hm
      · cases hm
      · rename_i hbad
        split at hm
        · rename_i h32
          split at hm
          · rename_i hlen
            have key : LexW.tq b p < q := by
              split at hm
              · cases hm; omega
              · rcases hes : LexW.escape b (LexW.tq b p + 1) with ⟨r8, n8, q8⟩
                simp only [hes] at hm
                cases r8 with
                | some e => simp only [Option.isSome_some, if_true] at hm; cases hm
                | none =>
                  simp only [Option.isSome_none, Bool.false_eq_true, if_false] at hm
                  obtain ⟨o3, _, hm⟩ := Option.bind_eq_some_iff.mp hm
                  have := LexW.text_ge b k hm
                  have := LexW.escape_gt hes
                  omega
            have e1 : LexW.tq c p = LexW.tq b p := LexW.pass_loc h _ p rfl key
            have e2 : LexW.tpl c p = LexW.tpl b p := by unfold LexW.tpl; rw [e1]; exact (h.cut p _ (Nat.le_of_lt key)).symm
            have e3 := h.at key
            rw [e1, e2, ← e3, if_pos hg, if_neg (by rintro ⟨x, y⟩; exact hbad ⟨x, .inl h32.1⟩), if_pos ⟨by omega, h32.2⟩, if_pos hlen]
            by_cases h34 : LexW.at_ b (LexW.tq b p) = 34
            · rw [if_pos h34] at hm ⊢; exact hm
            · rw [if_neg h34] at hm ⊢
              rcases hes : LexW.escape b (LexW.tq b p + 1) with ⟨r8, n8, q8⟩
              simp only [hes] at hm
              cases r8 with
              | some e => simp only [Option.isSome_some, if_true] at hm; cases hm
              | none =>
                simp only [Option.isSome_none, Bool.false_eq_true, if_false] at hm
                obtain ⟨o3, ho3, hm⟩ := Option.bind_eq_some_iff.mp hm
                have := LexW.text_ge b k hm
                have hes' := LexW.escape_loc h hes (by omega)
                simp only [hes', Option.isSome_none, Bool.false_eq_true, if_false, ho3, Option.bind_some]
                exact ih hm hq
          · cases hm
        · cases hm
    · cases hm
theorem LexW.next_loc {b c : List Int} {k : Nat} {rk : Int} {rx : List Int} {rf rt2 rn : Nat} {re : Int} (hmb : b.length < 1099511627776) (hmc : c.length < 1099511627776) (hn : LexW.next b k 0 = some (rk, rx, rf, rt2, rn, re)) (he : re = 0) (h0 : rk ≠ 0) (h2 : rk ≠ 2) (h : LexW.Ag b c rt2) : LexW.next c k 0 = some (rk, rx, rf, rt2, rn, re) := by
  unfold LexW.next at hn ⊢
  rw [if_neg (by decide), if_neg (by omega)] at hn ⊢
  obtain ⟨⟨rt, kt, txt, ft, et⟩, htk, hn⟩ := Option.bind_eq_some_iff.mp hn
  rw [show (0 : Int).toNat = 0 from rfl] at htk ⊢
  cases rt with
  | some e => obtain ⟨_, _, _, _, _, h6⟩ := LexW.inj6 hn; omega
  | none =>
    obtain ⟨f1, f2, f3, f4, f5, f6⟩ := LexW.inj6 hn
    dsimp only at f1 f2 f3 f4
    subst f1; subst f2; subst f3; subst f4; subst f5; subst f6
    have key : LexW.token c k 0 = some (none, kt, txt, ft, et) := by
      unfold LexW.token at htk ⊢
      obtain ⟨⟨r, kd, out, q⟩, hsw, htk⟩ := Option.bind_eq_some_iff.mp htk
      dsimp only at htk
      cases r with
      | some e => simp only [Option.isSome_some, if_true, Option.some.injEq, Prod.mk.injEq] at htk; cases htk.1
      | none =>
        simp only [Option.isSome_none, Bool.false_eq_true, if_false, Option.some.injEq, Prod.mk.injEq] at htk
        obtain ⟨_, e2, e3, e4, e5⟩ := htk
        subst e2; subst e4; subst e5
        have hgt := LexW.sw_gt hsw h0
        have hp : LexW.pass LexW.blank c 0 = LexW.pass LexW.blank b 0 := LexW.pass_loc h _ 0 rfl (by omega)
        have hat := h.at (show LexW.pass LexW.blank b 0 < q by omega)
        have hb := h.1
        have hc := h.2.1
        rw [hp]
        have hsw' : LexW.sw c k (LexW.pass LexW.blank b 0) = some (none, kd, out, q) := by
          obtain ⟨P, hP⟩ : ∃ P, P = LexW.pass LexW.blank b 0 := ⟨_, rfl⟩
          rw [← hP] at hsw hat hgt ⊢
          unfold LexW.sw at hsw ⊢
          rw [if_pos (by omega)] at hsw ⊢
          rw [← hat]
          split at hsw
          · rename_i hs; rw [if_pos hs]; exact hsw
          · rename_i hs
            rw [if_neg hs]
            split at hsw
            · rename_i hs; rw [if_pos hs]; obtain ⟨a1, a2, a3, a4⟩ := LexW.inj4 hsw; rw [LexW.exactly_loc _ h (Prod.ext a1 a4) (Nat.le_refl _), ← a2, ← a3]
            · rename_i hs
              rw [if_neg hs]
              split at hsw
              · rename_i hs; rw [if_pos hs]; obtain ⟨a1, a2, a3, a4⟩ := LexW.inj4 hsw; rw [LexW.exactly_loc _ h (Prod.ext a1 a4) (Nat.le_refl _), ← a2, ← a3]
              · rename_i hs
                rw [if_neg hs]
                split at hsw
                · rename_i hs; rw [if_pos hs]; obtain ⟨a1, a2, a3, a4⟩ := LexW.inj4 hsw; rw [LexW.exactly_loc _ h (Prod.ext a1 a4) (Nat.le_refl _), ← a2, ← a3]
                · rename_i hs
                  rw [if_neg hs]
                  split at hsw
                  · obtain ⟨_, a2, _, _⟩ := LexW.inj4 hsw; exact absurd a2.symm h2
                  · rename_i hs
                    rw [if_neg hs]
                    split at hsw
                    · rename_i hs
                      rw [if_pos hs]
                      obtain ⟨⟨t1, t2, t3⟩, ht, hsw⟩ := Option.bind_eq_some_iff.mp hsw
                      obtain ⟨a1, a2, a3, a4⟩ := LexW.inj4 hsw
                      dsimp only at a1 a3 a4
                      subst a1; subst a4
                      rw [LexW.text_loc hmb hmc h k ht (Nat.le_refl _)]
                      exact hsw
                    · cases hsw
        rw [hsw']
        simp only [Option.bind_some, Option.isSome_none, Bool.false_eq_true, if_false, Option.some.injEq, Prod.mk.injEq, true_and, and_true]
        rw [← e3]
        by_cases k1 : kd = 1
        · rw [if_pos k1, if_pos k1]
        · rw [if_neg k1, if_neg k1]; unfold LexW.cut; exact (h.cut _ _ (Nat.le_refl _)).symm
    rw [key]
    rfl
theorem LexW.next_total2 (l : List Int) (hm : l.length < 1099511627776) (k : Nat) (hk : l.length < k) (a : Int) : ∃ r, LexW.next l k a = some r := by
  unfold LexW.next
  split
  · exact ⟨_, rfl⟩
  · split
    · exact ⟨_, rfl⟩
    · have hp : LexW.pass LexW.blank l a.toNat ≤ l.length := LexW.pass_le _ _ _ _ rfl (by omega)
      have hsw : ∃ s, LexW.sw l k (LexW.pass LexW.blank l a.toNat) = some s := by
        unfold LexW.sw
        repeat' split
        all_goals first | exact ⟨_, rfl⟩ | skip
        obtain ⟨r, hr⟩ := LexW.text_total l hm k [] (LexW.pass LexW.blank l a.toNat + 1) (by omega) (by simp) (by omega)
        rw [hr]
        exact ⟨_, rfl⟩
      obtain ⟨s, hs⟩ := hsw
      unfold LexW.token
      rw [hs]
      simp only [Option.bind_some]
      split
      · simp only [Option.bind_some]
        split <;> exact ⟨_, rfl⟩
      · exact ⟨_, rfl⟩

-- GIVEN plain making
attribute [local go_sem high] LexT.eq25 LexT.conv_const
set_option maxHeartbeats 4000000 in
set_option maxRecDepth 100000 in
theorem lexlaw_Ends.calls (A0 : Option Addr) (c0 : Nat) (l0 : List Int) (A1 : Option Addr) (c1 : Nat) (l1 : List Int) (w : World) (hr0 : Kd.C (Kd.int .u8) w A0 l0.length l0) (hcp : l0.length ≤ c0) (y0 : l0.length ≤ 1048576) (hb0 : Utf.Bytes l0) (hr1 : Kd.C (Kd.int .u8) w A1 l1.length l1) (hcp1 : l1.length ≤ c1) (y1 : l1.length ≤ 1048576) (hb1 : Utf.Bytes l1) (hgl : w.cell? ⟨0, 0, none⟩ = some (.iface 98 (.agg #[.pointer (some ⟨2, 46, none⟩)]))) :
    Calls Tryd.prog 5 #[.slice A0 l0.length c0, .slice A1 l1.length c1] w fun e w' => e = .returned (.bool true) ∧ Below w.heap.size w w' := by
  obtain ⟨k, hk⟩ : ∃ k, k = l0.length + l1.length + 2 := ⟨_, rfl⟩
  obtain ⟨⟨rk, rx, rf, rt2, rn, re⟩, hnx⟩ := LexW.next_total2 l0 (by omega) k (by omega) 0
  have hm : l0.length < 4611686018427387904 := by omega
  have HADV := Aside0.mk (LexW.next_adv (a := 0) hnx (Nat.zero_le _))
  have HLOC := Aside0.mk (fun c (hc : c.length < 1099511627776) => LexW.next_loc (c := c) (by omega) hc hnx)
  have HNX := Aside0.mk hnx
  have HBY := Aside0.mk (LexW.at_bytes hb0)
  have HBB := Aside0.mk (show ∀ x ∈ l0.take rt2 ++ l1, 0 ≤ x ∧ x ≤ 255 by intro x hx; rcases List.mem_append.1 hx with h | h; exact hb0 x (List.mem_of_mem_take h); exact hb1 x h)
  have hu25 := Tryd.underlying25
  have HR0 := Aside0.mk hr0
  have HR1 := Aside0.mk hr1
  have HGL := Aside0.mk hgl
  have HB := Aside0.mk (Below.refl w.heap.size w)
  clear hr0 hr1 hgl hnx hb0 hb1 hk
  go_enter Tryd.func5, Tryd.ntmps5
  go_upto_region 1 with (fail)
  go_cut [5, 6, 7] (fun v5 v6 v7 wc => ∃ t5, v5 = .pointer (some ⟨t5, 0, none⟩) ∧ v6 = .int .i64 rn ∧ v7 = .int .i64 re ∧ Aside0 (Below w.heap.size w wc) ∧ Aside0 (w.heap.size ≤ t5) ∧ Aside0 (wc.heap[t5]? = some (.cells #[.int .i64 rk, .string (strOfNums rx), .int .i64 rf, .int .i64 rt2] 25 (0, 0))))
  case first =>
    go_wp2_with (first | (go_at_call 9; (with_reducible refine (lexn_Next.calls k A0 c0 l0 0 rk rx rf rt2 rn re _ (Kd.C_below HR0.out HB.out) hcp hm HBY.out (pw_cell_below HB.out HGL.out) HNX.out).mono ?_); rintro e w1 ⟨rfl, hb⟩; have n1_ := Aside0.mk (below_step HB.out hb); clear HB hb; have HB := n1_; clear n1_) | ((with_reducible refine gate_dst (N := 5) rfl ?_); (try (refine gate_guard (by rfl) ?_; dsimp only)); refine box_event ?hg (N := 5) ?hd (cs := #[.int .i64 0, .string (⟨#[]⟩ : ByteArray), .int .i64 0, .int .i64 0]) (t := 25) ?hr ?_; (case hd => rfl); (case hg => rfl); (case hr => first | (go_simp; done) | (go_simp; rfl)); intro t5 hg w2 hbox hb; have n1_ := Aside0.mk (below_step HB.out hb); have HG_ := Aside0.mk (show w.heap.size ≤ t5 by rw [hg]; exact HB.out.size); clear HB; have HB := n1_; have HT := Aside0.mk hbox; clear n1_ hb hbox hg; have ht0 := (blk_cell HT.out 0).trans rfl; have hf0 := blk_frozen HT.out 0; have ht1 := (blk_cell HT.out 1).trans rfl; have hf1 := blk_frozen HT.out 1; have ht2 := (blk_cell HT.out 2).trans rfl; have hf2 := blk_frozen HT.out 2; have ht3 := (blk_cell HT.out 3).trans rfl; have hf3 := blk_frozen HT.out 3))
    go_meet
    case rel => exact ⟨t5, rfl, rfl, rfl, ⟨below_set (below_set (below_set (below_set HB.out HG_.out) HG_.out) HG_.out) HG_.out⟩, HG_, ⟨blk_put (blk_put (blk_put (blk_put HT.out 0 _ rfl) 1 _ rfl) 2 _ rfl) 3 _ rfl⟩⟩
  case rest =>
    clear HB
    obtain ⟨t5, rfl, rfl, rfl, HB, HG_t5, HT_t5⟩ := hcut
    have h_t5_0 := (blk_cell HT_t5.out 0).trans rfl
    have h_t5_1 := (blk_cell HT_t5.out 1).trans rfl
    have h_t5_2 := (blk_cell HT_t5.out 2).trans rfl
    have h_t5_3 := (blk_cell HT_t5.out 3).trans rfl
    by_cases he : re = 0
    · have b1 : (re != 0) = false := by rw [he]; rfl
      by_cases h0 : rk = 0
      · have b2 : (rk == 0) = true := beq_iff_eq.mpr h0
        clear he h0
        go_wp2_with (first | (go_at_call 11; (with_reducible refine (lexlaw_heads.calls _ (pw_cell_below HB.out HGL.out)).mono ?_); rintro e w1 ⟨rfl, hb⟩; have n1_ := Aside0.mk (below_step HB.out hb); clear HB hb; have HB := n1_; clear n1_))
        go_ret
        exact ⟨rfl, HB.out⟩
      · have b2 : (rk == 0) = false := beq_eq_false_iff_ne.mpr h0
        by_cases h2 : rk = 2
        · have b3 : (rk == 2) = true := beq_iff_eq.mpr h2
          clear he h0 h2
          go_wp2_with (first | (go_at_call 11; (with_reducible refine (lexlaw_heads.calls _ (pw_cell_below HB.out HGL.out)).mono ?_); rintro e w1 ⟨rfl, hb⟩; have n1_ := Aside0.mk (below_step HB.out hb); clear HB hb; have HB := n1_; clear n1_))
          go_ret
          exact ⟨rfl, HB.out⟩
        · have b3 : (rk == 2) = false := beq_eq_false_iff_ne.mpr h2
          obtain ⟨hv1, hv2⟩ := HADV.out he h0
          have HE := Aside0.mk he
          obtain ⟨T, hT⟩ : ∃ x, x = l0.take rt2 := ⟨_, rfl⟩
          obtain ⟨L2, hL⟩ : ∃ x, x = T ++ l1 := ⟨_, rfl⟩
          have hTl : T.length = rt2 := by rw [hT, List.length_take]; omega
          have hL2 : L2.length = rt2 + l1.length := by rw [hL, List.length_append, hTl]
          have hm3 : L2.length < 4611686018427387904 := by omega
          have HBY3 := Aside0.mk (LexW.at_bytes (l := L2) (by rw [hL, hT]; exact HBB.out))
          have HNX2 := Aside0.mk (HLOC.out L2 (by omega) he h0 h2 ⟨hv2, by omega, by rw [hL, hT, List.take_append_of_le_length (by rw [List.length_take]; omega), List.take_take, Nat.min_self]⟩)
          obtain ⟨i0, hi0, _, hsz0, _⟩ := info_parts info5
          obtain ⟨hct, hA9, hC9⟩ := print_take_of (P := Tryd.prog) (Value.int .u8) 0 22 5 .i64 Tryd.underlying22 hi0 hsz0 A0 c0 l0 (rt2 : Int) (by omega) (by omega) hcp
          simp only [Int.toNat_natCast] at hct hA9 hC9
          rw [← hT] at hct hA9 hC9
          have HTC := Aside0.mk (show Kd.C (Kd.int .u8) w A0 T.length T from Kd.C_of_reads (h1 := fun _ => rfl) (hA9 _ (Kd.reads_of_C HR0.out)))
          have HL := Aside0.mk hL
          have HLB := Aside0.mk (show T.length + l1.length ≤ 4000000 by omega)
          clear he h0 h2 hT hL hTl hL2 hA9 hC9 hi0 hsz0 hv1
          go_upto_region 4 with (fail)
          go_cut [8, 9, 10] (fun v8 v9 v10 wc => ∃ t8, v8 = .pointer (some ⟨t8, 0, none⟩) ∧ v9 = .int .i64 rn ∧ v10 = .int .i64 re ∧ Aside0 (Below w.heap.size w wc) ∧ Aside0 (w.heap.size ≤ t8) ∧ Aside0 (wc.heap[t8]? = some (.cells #[.int .i64 rk, .string (strOfNums rx), .int .i64 rf, .int .i64 rt2] 25 (0, 0))) ∧ Aside0 (wc.heap[t5]? = some (.cells #[.int .i64 rk, .string (strOfNums rx), .int .i64 rf, .int .i64 rt2] 25 (0, 0))) ∧ Aside0 (t5 ≠ t8))
          case first =>
            go_wp2_with (first | ((with_reducible refine gate_dst (N := 31) rfl ?_); refine Kd.R_lit (Kd.int .u8) w.heap.size 5 ?hg (N := 31) ?hd (xs := ([] : List Int)) (inner := []) (ok := fun _ => True) (okp := fun _ => True) ?hr ?hp (fun _ hk => hk) trivial HB.out HB.out.size (by simp) ?_; (case hd => rfl); (case hg => rfl); (case hr => first | (go_simp; done) | (go_simp; rfl)); (case hp => exact (Reps.none _ _)); intro v31 w31 ho hb hg_ hnew_; have m0_ := Aside0.mk (blk_grown HT_t5.out hg_ (by simp)); clear HT_t5; have HT_t5 := m0_; clear m0_; have hq3 := (blk_cell HT_t5.out 3).trans rfl; clear HB; have HO := Aside0.mk ho; have HB := Aside0.mk hb; clear ho hb hg_ hnew_) | ((with_reducible refine gate_builtin (b := .append) (xs := #[.tmp 31, .tmp 35]) rfl ?_); at_builtin; refine Kd.R_append_rows (Kd.int .u8) (w0 := w) w.heap.size rfl (.tmp 31) (.tmp 35) 22 5 (.int .u8 0) 1 rfl Tryd.underlying22 info5 rfl (by decide) (by omega) v31 ([]) (T) _ _ _ (fun _ => True) (fun _ => False) rfl rfl HO.out (Kd.C_below HTC.out HB.out) (fun _ _ h => h) (fun _ h => h.elim) (fun _ _ => trivial) HB.out HB.out.size (by have := HLB.out; simp only [List.length_nil]; omega) ?_; intro v36 w36 ho hb hg hat; rw [List.nil_append] at ho; have m0_ := Aside0.mk (blk_grown HT_t5.out hg (Kd.R_ne HO.out HT_t5.out (by decide))); clear HT_t5; have HT_t5 := m0_; clear m0_; clear HB HO; have HO := Aside0.mk ho; have HB := Aside0.mk hb; clear ho hb hg hat) | ((with_reducible refine gate_builtin (b := .append) (xs := #[.tmp 36, .tmp 37]) rfl ?_); at_builtin; refine Kd.R_append_rows (Kd.int .u8) (w0 := w) w.heap.size rfl (.tmp 36) (.tmp 37) 22 5 (.int .u8 0) 1 rfl Tryd.underlying22 info5 rfl (by decide) (by omega) v36 (T) (l1) _ _ _ (fun _ => True) (fun _ => False) rfl rfl HO.out (Kd.C_below HR1.out HB.out) (fun _ _ h => h) (fun _ h => h.elim) (fun _ _ => trivial) HB.out HB.out.size (by have := HLB.out; omega) ?_; intro v38 w38 ho hb hg hat; rw [← HL.out] at ho; have m0_ := Aside0.mk (blk_grown HT_t5.out hg (Kd.R_ne HO.out HT_t5.out (by decide))); clear HT_t5; have HT_t5 := m0_; clear m0_; clear HB HO; have HO := Aside0.mk ho; have HB := Aside0.mk hb; clear ho hb hg hat) | (go_at_call 9; obtain ⟨Ao, co, eo⟩ := Kd.R_slice HO.out; subst eo; (with_reducible refine (lexn_Next.calls k Ao co L2 0 rk rx rf rt2 rn re _ (Kd.R_reads' HO.out).2.2 (Kd.R_reads' HO.out).2.1 hm3 HBY3.out (pw_cell_below HB.out HGL.out) HNX2.out).mono ?_); rintro e w1 ⟨rfl, hb⟩; have n1_ := Aside0.mk (below_step HB.out hb); have m0_ := Aside0.mk (blk_grown HT_t5.out (grown_of_below hb none) (by simp)); clear HT_t5; have HT_t5 := m0_; clear m0_; clear HB hb; have HB := n1_; clear n1_) | ((with_reducible refine gate_dst (N := 8) rfl ?_); (try (refine gate_guard (by rfl) ?_; dsimp only)); refine box_event ?hg (N := 8) ?hd (cs := #[.int .i64 0, .string (⟨#[]⟩ : ByteArray), .int .i64 0, .int .i64 0]) (t := 25) ?hr ?_; (case hd => rfl); (case hg => rfl); (case hr => first | (go_simp; done) | (go_simp; rfl)); intro t8 hg w2 hbox hb; have n1_ := Aside0.mk (below_step HB.out hb); have HG_ := Aside0.mk (show w.heap.size ≤ t8 by rw [hg]; exact HB.out.size); have m0_ := Aside0.mk (blk_grown HT_t5.out (grown_of_below hb none) (by simp)); have HN_t5 := Aside0.mk (show t5 ≠ t8 by rw [hg]; exact Nat.ne_of_lt (blk_lt HT_t5.out)); clear HB; have HB := n1_; clear HT_t5; have HT_t5 := m0_; clear m0_; have HT := Aside0.mk hbox; clear n1_ hb hbox hg; have ht0 := (blk_cell HT.out 0).trans rfl; have hf0 := blk_frozen HT.out 0; have ht1 := (blk_cell HT.out 1).trans rfl; have hf1 := blk_frozen HT.out 1; have ht2 := (blk_cell HT.out 2).trans rfl; have hf2 := blk_frozen HT.out 2; have ht3 := (blk_cell HT.out 3).trans rfl; have hf3 := blk_frozen HT.out 3))
            go_meet
            case rel => exact ⟨t8, rfl, rfl, rfl, ⟨below_set (below_set (below_set (below_set HB.out HG_.out) HG_.out) HG_.out) HG_.out⟩, HG_, ⟨blk_put (blk_put (blk_put (blk_put HT.out 0 _ rfl) 1 _ rfl) 2 _ rfl) 3 _ rfl⟩, ⟨blk_far (blk_far (blk_far (blk_far HT_t5.out HN_t5.out _) HN_t5.out _) HN_t5.out _) HN_t5.out _⟩, HN_t5⟩
          case rest =>
            clear HB HT_t5
            obtain ⟨t8, rfl, rfl, rfl, HB, HG_t8, HT_t8, HT_t5, HN_t5_t8⟩ := hcut
            have h_t5_0 := (blk_cell HT_t5.out 0).trans rfl
            have h_t5_1 := (blk_cell HT_t5.out 1).trans rfl
            have h_t5_2 := (blk_cell HT_t5.out 2).trans rfl
            have h_t5_3 := (blk_cell HT_t5.out 3).trans rfl
            have h_t8_0 := (blk_cell HT_t8.out 0).trans rfl
            have h_t8_1 := (blk_cell HT_t8.out 1).trans rfl
            have h_t8_2 := (blk_cell HT_t8.out 2).trans rfl
            have h_t8_3 := (blk_cell HT_t8.out 3).trans rfl
            have he := HE.out
            have b4 : (re == 0) = true := beq_iff_eq.mpr he
            clear he b1 b2 b3
            go_wp2_with (first | (go_at_call 11; (with_reducible refine (lexlaw_heads.calls _ (pw_cell_below HB.out HGL.out)).mono ?_); rintro e w1 ⟨rfl, hb⟩; have n1_ := Aside0.mk (below_step HB.out hb); clear HB hb; have HB := n1_; clear n1_))
            go_ret
            exact ⟨rfl, HB.out⟩
    · have b1 : (re != 0) = true := by simpa using he
      clear he
      go_wp2_with (first | (go_at_call 11; (with_reducible refine (lexlaw_heads.calls _ (pw_cell_below HB.out HGL.out)).mono ?_); rintro e w1 ⟨rfl, hb⟩; have n1_ := Aside0.mk (below_step HB.out hb); clear HB hb; have HB := n1_; clear n1_))
      go_ret
      exact ⟨rfl, HB.out⟩

end Go.Proofs.YthoobepfkfjgnaaDoor.PL
