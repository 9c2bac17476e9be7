/- UtfShortest, the pure statement: the good beginning can be made valid by one of eight ends, and with the next byte by none of them. -/
import Derived.Test.YthoobepfkfjgnaaPUx4
import Derived.Test.YthoobepfkfjgnaaBase
namespace Go.Proofs.Ythoobepfkfjgnaa.Pure
open Go.RowKit Go.Proofs.Ythoobepfkfjgnaa.PU Go.Proofs.YthoobepfkfjgnaaW.PrintWords Go.Proofs.YthoobepfkfjgnaaW.PrintLast

/-- The automaton's state behind some bytes; none: it has fallen. -/
def st : List Int → Int × Int × Int → Option (Int × Int × Int)
  | [], s => some s
  | c :: r, s => if s.1 = 0 then (if (Utf.goes c).1 < 0 then none else st r (Utf.goes c)) else if c < s.2.1 then none else if c > s.2.2 then none else st r (s.1 - 1, 128, 191)
theorem st_append : ∀ (a b : List Int) (s : Int × Int × Int), st (a ++ b) s = (st a s).bind (st b)
  | [], b, s => rfl
  | c :: r, b, s => by
    rw [List.cons_append, st, st]
    repeat' split
    · rfl
    · exact st_append r b _
    · rfl
    · rfl
    · exact st_append r b _
theorem run_st : ∀ (l : List Int) (n lo hi i : Int), (Utf.run l n lo hi i).2 = true ↔ ∃ a b, st l (n, lo, hi) = some (0, a, b)
  | [], n, lo, hi, i => by
    rw [Utf.run, st]
    constructor
    · intro h
      have : n = 0 := by simpa using h
      subst this
      exact ⟨lo, hi, rfl⟩
    · rintro ⟨a, b, h⟩
      simp only [Option.some.injEq, Prod.mk.injEq] at h
      simp [h.1]
  | c :: r, n, lo, hi, i => by
    rw [Utf.run, st]
    by_cases h1 : n = 0
    · rw [if_pos h1, if_pos h1]
      by_cases h2 : (Utf.goes c).1 < 0
      · rw [if_pos h2, if_pos h2]; simp
      · rw [if_neg h2, if_neg h2]; exact run_st r _ _ _ _
    · rw [if_neg h1, if_neg h1]
      by_cases h2 : c < lo
      · rw [if_pos h2, if_pos h2]; simp
      · rw [if_neg h2, if_neg h2]
        by_cases h3 : c > hi
        · rw [if_pos h3, if_pos h3]; simp
        · rw [if_neg h3, if_neg h3]; exact run_st r _ _ _ _
theorem good_st (l : List Int) : (Utf.good l).2 = true ↔ ∃ a b, st l (0, 128, 191) = some (0, a, b) := run_st l 0 128 191 0

/-- How far it came: it has not fallen before, and falls at the next byte. -/
theorem run_prefix : ∀ (l : List Int) (n lo hi i : Int), ∃ m : Nat, (Utf.run l n lo hi i).1 = i + m ∧ m ≤ l.length ∧ (∃ s, st (l.take m) (n, lo, hi) = some s) ∧ (m < l.length → st (l.take (m + 1)) (n, lo, hi) = none) ∧ ((Utf.run l n lo hi i).2 = true → m = l.length)
  | [], n, lo, hi, i => ⟨0, by simp [Utf.run], by simp, ⟨_, rfl⟩, fun h => by simp at h, fun _ => rfl⟩
  | c :: r, n, lo, hi, i => by
    rw [Utf.run]
    by_cases h1 : n = 0
    · rw [if_pos h1]
      by_cases h2 : (Utf.goes c).1 < 0
      · rw [if_pos h2]
        refine ⟨0, by simp, by simp, ⟨_, rfl⟩, fun _ => ?_, fun h => by simp at h⟩
        simp only [Nat.zero_add, List.take_succ_cons, List.take_zero, st]
        rw [if_pos h1, if_pos h2]
      · rw [if_neg h2]
        obtain ⟨m, e1, e2, ⟨s, e3⟩, e4, e5⟩ := run_prefix r (Utf.goes c).1 (Utf.goes c).2.1 (Utf.goes c).2.2 (i + 1)
        refine ⟨m + 1, by rw [e1]; omega, by simp; omega, ⟨s, ?_⟩, fun h => ?_, fun h => by rw [List.length_cons, e5 h]⟩
        · rw [List.take_succ_cons, st, if_pos h1, if_neg h2]; exact e3
        · rw [List.take_succ_cons, st, if_pos h1, if_neg h2]; exact e4 (by simpa using h)
    · rw [if_neg h1]
      by_cases h2 : c < lo
      · rw [if_pos h2]
        refine ⟨0, by simp, by simp, ⟨_, rfl⟩, fun _ => ?_, fun h => by simp at h⟩
        simp only [Nat.zero_add, List.take_succ_cons, List.take_zero, st]
        rw [if_neg h1, if_pos h2]
      · rw [if_neg h2]
        by_cases h3 : c > hi
        · rw [if_pos h3]
          refine ⟨0, by simp, by simp, ⟨_, rfl⟩, fun _ => ?_, fun h => by simp at h⟩
          simp only [Nat.zero_add, List.take_succ_cons, List.take_zero, st]
          rw [if_neg h1, if_neg h2, if_pos h3]
        · rw [if_neg h3]
          obtain ⟨m, e1, e2, ⟨s, e3⟩, e4, e5⟩ := run_prefix r (n - 1) 128 191 (i + 1)
          refine ⟨m + 1, by rw [e1]; omega, by simp; omega, ⟨s, ?_⟩, fun h => ?_, fun h => by rw [List.length_cons, e5 h]⟩
          · rw [List.take_succ_cons, st, if_neg h1, if_neg h2, if_neg h3]; exact e3
          · rw [List.take_succ_cons, st, if_neg h1, if_neg h2, if_neg h3]; exact e4 (by simpa using h)

/-- The states that are come to. -/
def Inv (s : Int × Int × Int) : Prop := s.1 = 0 ∨ s = (1, 128, 191) ∨ s = (2, 160, 191) ∨ s = (2, 128, 159) ∨ s = (2, 128, 191) ∨ s = (3, 144, 191) ∨ s = (3, 128, 143) ∨ s = (3, 128, 191)
theorem goes_inv (c : Int) (h : ¬ (Utf.goes c).1 < 0) : Inv (Utf.goes c) := by
  unfold Utf.goes at h ⊢
  unfold Inv
  repeat' split
  all_goals simp_all
theorem st_inv : ∀ (l : List Int) (s t : Int × Int × Int), Inv s → st l s = some t → Inv t
  | [], s, t, h, e => by rw [st] at e; obtain rfl := Option.some.inj e; exact h
  | c :: r, s, t, h, e => by
    rw [st] at e
    by_cases h1 : s.1 = 0
    · rw [if_pos h1] at e
      by_cases h2 : (Utf.goes c).1 < 0
      · rw [if_pos h2] at e; simp at e
      · rw [if_neg h2] at e; exact st_inv r _ t (goes_inv c h2) e
    · rw [if_neg h1] at e
      by_cases h2 : c < s.2.1
      · rw [if_pos h2] at e; simp at e
      · rw [if_neg h2] at e
        by_cases h3 : c > s.2.2
        · rw [if_pos h3] at e; simp at e
        · rw [if_neg h3] at e
          refine st_inv r _ t ?_ e
          rcases h with h | rfl | rfl | rfl | rfl | rfl | rfl | rfl
          · exact absurd h h1
          all_goals (unfold Inv; simp)

def ends : List (List Int) := [[], [128], [191], [160, 128], [128, 128], [144, 128, 128], [128, 128, 128], [160]]
/-- One of the ends makes it whole. -/
theorem some_end {s : Int × Int × Int} (h : Inv s) : ∃ e ∈ ends, ∃ a b, st e s = some (0, a, b) := by
  obtain ⟨n, lo, hi⟩ := s
  rcases h with h | h | h | h | h | h | h | h
  · simp only at h
    subst h
    exact ⟨[], by simp [ends], lo, hi, rfl⟩
  all_goals (simp only [Prod.mk.injEq] at h; obtain ⟨rfl, rfl, rfl⟩ := h)
  · exact ⟨[128], by simp [ends], 128, 191, rfl⟩
  · exact ⟨[160, 128], by simp [ends], 128, 191, rfl⟩
  · exact ⟨[128, 128], by simp [ends], 128, 191, rfl⟩
  · exact ⟨[128, 128], by simp [ends], 128, 191, rfl⟩
  · exact ⟨[144, 128, 128], by simp [ends], 128, 191, rfl⟩
  · exact ⟨[128, 128, 128], by simp [ends], 128, 191, rfl⟩
  · exact ⟨[128, 128, 128], by simp [ends], 128, 191, rfl⟩

theorem copy_f (l : List Int) (h : l.length < 140737488355328) : caliperref01_Copy.f l = some l := by
  unfold caliperref01_Copy.f
  simp only [Option.bind_some, List.nil_append, List.length_nil, Nat.zero_add]
  rw [if_pos h]

section
variable (l : List Int) (m : Nat) (hl : l.length ≤ 140737488351232) (hm : m ≤ l.length) (hbad : m < l.length → st (l.take (m + 1)) (0, 128, 191) = none)
include hl hm hbad
theorem round (i : Nat) (hi : i < 8) (b : Bool) (r : Bool)
    (h : Ev (fun k => caliperlaw01_UtfShortest.l0 k l m ends (b || (Utf.good (l.take m ++ ends.getD i [])).2) ((i + 1 : Nat) : Int)) r) :
    Ev (fun k => caliperlaw01_UtfShortest.l0 k l m ends b (i : Int)) r := by
  have hel : (ends.getD i []).length ≤ 3 := by
    have : ∀ j : Fin 8, (ends.getD j.1 []).length ≤ 3 := by decide
    exact this ⟨i, hi⟩
  have hlen : ends.length = 8 := rfl
  have hrd : rd_L2 ends (i : Int) = ends.getD i [] := by unfold rd_L2; rw [Int.toNat_natCast]
  have e1 : wrap64 ((i : Int) + 1) = ((i + 1 : Nat) : Int) := by rw [wrap64_id (by omega) (by omega)]; omega
  have e2 : wrap64 ((m : Int) + 1) = ((m + 1 : Nat) : Int) := by rw [wrap64_id (by omega) (by omega)]; omega
  -- the second half
  have hj : ∀ b' : Bool, Ev (fun k => caliperlaw01_UtfShortest.l0 k l m ends b' ((i + 1 : Nat) : Int)) r → Ev (fun k => caliperlaw01_UtfShortest.j2 k l m ends b' (i : Int)) r := by
    intro b' hb'
    refine Ev.step (f := fun k => _) (fun k => by simp only [caliperlaw01_UtfShortest.j2]; rw [e1, e2, hrd]) ?_
    by_cases hlt : m < l.length
    · have hc := copy_f (l.take (m + 1)) (by rw [List.length_take]; omega)
      have hgood : (Utf.good (l.take (m + 1) ++ ends.getD i [])).2 = false := by
        rw [Bool.eq_false_iff]
        intro hg
        obtain ⟨a, c, hs⟩ := (good_st _).1 hg
        rw [st_append, hbad hlt] at hs
        simp at hs
      refine Ev.congr (f := fun k => (utf_Good.f k (l.take (m + 1) ++ ends.getD i [])).bind fun g => if g.2 = true then some false else caliperlaw01_UtfShortest.l0 k l m ends b' ((i + 1 : Nat) : Int)) (fun k => ?_) ?_
      · rw [if_pos (by omega), if_pos (by omega), if_pos (by omega), Int.toNat_natCast, hc]
        simp only [Option.bind_some]
        rw [if_pos (by omega), if_pos (by omega), if_pos (by rw [List.length_take]; omega)]
      · refine Ev.bind (good_ev _ (by rw [List.length_append, List.length_take]; omega)) ?_
        rw [hgood]
        exact hb'
    · refine Ev.congr (f := fun k => caliperlaw01_UtfShortest.l0 k l m ends b' ((i + 1 : Nat) : Int)) (fun k => ?_) hb'
      rw [if_neg (by omega)]
  refine Ev.step (f := fun k => _) (fun k => by simp only [caliperlaw01_UtfShortest.l0]; rw [hrd]) ?_
  have hc := copy_f (l.take m) (by rw [List.length_take]; omega)
  refine Ev.congr (f := fun k => (utf_Good.f k (l.take m ++ ends.getD i [])).bind fun g => caliperlaw01_UtfShortest.j2 k l m ends (b || g.2) (i : Int)) (fun k => ?_) ?_
  · rw [if_pos (by omega), if_pos (by omega), if_pos (by omega), Int.toNat_natCast, hc]
    simp only [Option.bind_some]
    rw [if_pos (by omega), if_pos (by rw [List.length_take]; omega)]
    congr 1
    funext g
    cases b <;> simp
  · exact Ev.bind (good_ev _ (by rw [List.length_append, List.length_take]; omega)) (hj _ h)
end

theorem UtfShortest : caliperlaw01_UtfShortest.Pure := by
  intro l hm0 hl hw
  have hl : l.length ≤ 140737488351232 := by omega
  obtain ⟨m, e1, e2, ⟨s, e3⟩, e4, e5⟩ := run_prefix l 0 128 191 0
  have e1 : (Utf.good l).1 = (m : Int) := by unfold Utf.good; omega
  have hinv : Inv s := st_inv _ _ _ (.inl rfl) e3
  obtain ⟨e, he, a, b, hs⟩ := some_end hinv
  have hgood : (Utf.good (l.take m ++ e)).2 = true := (good_st _).2 ⟨a, b, by rw [st_append, e3]; exact hs⟩
  have R := round l m hl e2 e4
  have fin : ∀ b', b' = true → Ev (fun k => caliperlaw01_UtfShortest.l0 k l m ends b' 8) true := by
    rintro b' rfl
    refine Ev.step (f := fun k => (caliperlaw01_heads.f k).bind fun t => some t) (fun k => ?_) (Ev.bind heads_ev (Ev.now _))
    simp only [caliperlaw01_UtfShortest.l0]
    rw [if_neg (by decide)]
    rfl
  have all : Ev (fun k => caliperlaw01_UtfShortest.l0 k l m ends false 0) true := by
    refine R 0 (by decide) _ _ (R 1 (by decide) _ _ (R 2 (by decide) _ _ (R 3 (by decide) _ _ (R 4 (by decide) _ _ (R 5 (by decide) _ _ (R 6 (by decide) _ _ (R 7 (by decide) _ _ (fin _ ?_))))))))
    simp only [ends, List.mem_cons, List.not_mem_nil, or_false] at he
    rcases he with rfl | rfl | rfl | rfl | rfl | rfl | rfl | rfl <;> simp [ends] at hgood ⊢ <;> simp [hgood]
  have hj0 : Ev (fun k => caliperlaw01_UtfShortest.j0 k l m false) true := by
    refine Ev.step (f := fun k => caliperlaw01_UtfShortest.l0 k l m ends false 0) (fun k => ?_) all
    simp only [caliperlaw01_UtfShortest.j0]
    rw [if_neg (by decide)]
    rfl
  refine Ev.rounds (g := fun k => caliperlaw01_UtfShortest.f k l) (Ev.bind (good_ev l (by omega)) ?_)
  rw [e1]
  refine Ev.congr (fun k => ?_) hj0
  rw [if_neg (by omega), if_neg (by omega)]
  by_cases hok : (Utf.good l).2 = true
  · rw [if_pos hok]
    have := e5 hok
    rw [this]
    simp
  · rw [if_neg hok]
end Go.Proofs.Ythoobepfkfjgnaa.Pure
