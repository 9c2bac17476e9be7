/- UTF-8's automaton, Good and Put, for the pure laws of lex (without the reference). -/
import Derived.Test.YthoobepfkfjgnaaDoorPLx2
import Derived.Test.YthoobepfkfjgnaaDoorPLx3
import Derived.Test.YthoobepfkfjgnaaDoorUtf
namespace Go.Proofs.YthoobepfkfjgnaaDoor.Pure
open Go.RowKit Go.Proofs.YthoobepfkfjgnaaDoor.PL Go.Proofs.YthoobepfkfjgnaaDoorW.PrintWords Go.Proofs.YthoobepfkfjgnaaDoorW.PrintLast Go.Proofs.YthoobepfkfjgnaaDoorW.PrintMore
theorem utf_Points.goes (c : Int) (k : Nat) (hk : 0 < k) : utf_goes.f k c = some (Utf.goes c) := by
  obtain ⟨k, rfl⟩ : ∃ m, k = m + 1 := ⟨k - 1, by omega⟩
  unfold utf_goes.f Utf.goes
  by_cases h1 : c < 128
  · rw [if_pos h1, if_pos h1]
  · rw [if_neg h1, if_neg h1]
    have hj : ∀ b : Bool, utf_goes.j0 (k + 1) c b = some (if b = true then ((-1, 0, 0) : Int × Int × Int) else if c < 224 then (1, 128, 191) else if c = 224 then (2, 160, 191) else if c = 237 then (2, 128, 159) else if c < 240 then (2, 128, 191) else if c = 240 then (3, 144, 191) else if c = 244 then (3, 128, 143) else (3, 128, 191)) := by
      intro b
      simp only [utf_goes.j0]
      repeat' split
      all_goals rfl
    by_cases h2 : c < 194
    · rw [if_pos h2, hj, if_pos rfl, if_pos (.inl h2)]
    · rw [if_neg h2, hj]
      by_cases h3 : c > 244
      · rw [if_pos (decide_eq_true h3), if_pos (.inr h3)]
      · rw [if_neg (show ¬ decide (c > 244) = true by simpa using h3), if_neg (show ¬ (c < 194 ∨ c > 244) by omega)]
theorem utf_Points.wrap (i : Int) (n : Nat) (h0 : 0 ≤ i) (h : i < (n : Int)) (hn : n ≤ 9223372036854775807) : wrap64 (i + 1) = i + 1 := by
  unfold wrap64
  omega
theorem utf_Points.good_l (l : List Int) (hl : l.length ≤ 9223372036854775807) : ∀ (r : List Int) (k : Nat) (n lo hg i : Int), 0 ≤ i → r = l.drop i.toNat → (i : Int) + r.length = l.length → 0 ≤ n → n ≤ 3 → r.length + 1 < k →
    utf_Good.l0 k l n lo hg l (l.length : Int) i = some (Utf.run r n lo hg i) := by
  intro r
  induction r with
  | nil =>
    intro k n lo hg i h0 hr hi hn hn3 hk
    obtain ⟨k, rfl⟩ : ∃ m, k = m + 1 := ⟨k - 1, by omega⟩
    simp only [utf_Good.l0]
    simp only [List.length_nil, Int.natCast_zero, Int.add_zero] at hi
    rw [if_neg (by omega), ← hi]
    rfl
  | cons c r ih =>
    intro k n lo hg i h0 hr hi hn hn3 hk
    obtain ⟨k, rfl⟩ : ∃ m, k = m + 1 := ⟨k - 1, by omega⟩
    simp only [List.length_cons, Int.natCast_add, Int.natCast_one] at hi hk
    have hlt : i < (l.length : Int) := by omega
    have hrd : rd l i = c := by
      unfold rd
      rw [List.getD_eq_getElem?_getD]
      have h1 : (l.drop i.toNat)[0]? = some c := by rw [← hr]; rfl
      rw [List.getElem?_drop] at h1
      rw [show i.toNat = i.toNat + 0 from rfl, h1]
      rfl
    have hr2 : r = l.drop (i + 1).toNat := by
      rw [show (i + 1).toNat = i.toNat + 1 by omega, ← List.drop_drop, ← hr]
      rfl
    simp only [utf_Good.l0]
    rw [if_pos hlt, if_pos h0, if_pos hlt, hrd, utf_Points.wrap i _ h0 hlt hl, Utf.run]
    by_cases h1 : n = 0
    · rw [if_pos h1, if_pos h1, utf_Points.goes c k (by omega)]
      simp only [Option.bind_some]
      by_cases h2 : (Utf.goes c).1 < 0
      · rw [if_pos h2, if_pos h2]
      · rw [if_neg h2, if_neg h2]
        refine ih k _ _ _ (i + 1) (by omega) hr2 (by omega) (by omega) ?_ (by omega)
        unfold Utf.goes
        repeat' split
        all_goals simp
    · rw [if_neg h1, if_neg h1]
      by_cases h2 : c < lo
      · rw [if_pos h2, if_pos h2]
      · rw [if_neg h2, if_neg h2]
        by_cases h3 : c > hg
        · rw [if_pos h3, if_pos h3]
        · rw [if_neg h3, if_neg h3]
          rw [show wrap64 (n - 1) = n - 1 by unfold wrap64; omega]
          exact ih k _ _ _ (i + 1) (by omega) hr2 (by omega) (by omega) (by omega) (by omega)
/-- utf.Good runs the automaton. -/
theorem utf_Points.good_k (l : List Int) (hl : l.length ≤ 9223372036854775807) (k : Nat) (hk : l.length + 1 < k) : utf_Good.f k l = some (Utf.good l) := by
  unfold utf_Good.f Utf.good
  exact utf_Points.good_l l hl l k 0 128 191 0 (Int.le_refl _) rfl (by omega) (by decide) (by decide) hk
theorem wraps_i64 (n : Int) (h0 : 0 ≤ n) (h1 : n < 2 ^ 62) : IntKind.i64.wrap n = n := by rw [IntKind.wrap_i64]; omega
theorem wrap64_id {n : Int} (h0 : -9223372036854775808 ≤ n) (h1 : n ≤ 9223372036854775807) : wrap64 n = n := by unfold wrap64; omega
theorem and_mask (i : Nat) (hi : i ≤ 62) (x : Int) (h0 : 0 ≤ x) (h1 : x < 2 ^ 62) : Go.bits .and .i64 x (2 ^ i - 1) = x % 2 ^ i := bits_mask .i64 62 (by decide) wraps_i64 i hi x h0 h1
theorem and63 {x : Int} (h0 : 0 ≤ x) (h1 : x < 2 ^ 62) : Go.bits .and .i64 x 63 = x % 64 := and_mask 6 (by decide) x h0 h1
theorem and31 {x : Int} (h0 : 0 ≤ x) (h1 : x < 2 ^ 62) : Go.bits .and .i64 x 31 = x % 32 := and_mask 5 (by decide) x h0 h1
theorem and15 {x : Int} (h0 : 0 ≤ x) (h1 : x < 2 ^ 62) : Go.bits .and .i64 x 15 = x % 16 := and_mask 4 (by decide) x h0 h1
theorem and7 {x : Int} (h0 : 0 ≤ x) (h1 : x < 2 ^ 62) : Go.bits .and .i64 x 7 = x % 8 := and_mask 3 (by decide) x h0 h1
theorem and1023 {x : Int} (h0 : 0 ≤ x) (h1 : x < 2 ^ 62) : Go.bits .and .i64 x 1023 = x % 1024 := and_mask 10 (by decide) x h0 h1
theorem or_add (i : Nat) {x y : Int} (hx0 : 0 ≤ x) (hx : x % 2 ^ i = 0) (hx1 : x < 2 ^ 62) (hy0 : 0 ≤ y) (hy : y < 2 ^ i) (hy1 : y < 2 ^ 62) : Go.bits .or .i64 x y = x + y := bits_join .i64 62 (by decide) wraps_i64 i x y hx0 hx hx1 hy0 hy hy1

theorem bytes_of {l : List Int} (h : ∀ x ∈ l, (Lit.int .u8 x).wf = true) : Utf.Bytes l := by
  intro x hx
  have := h x hx
  simp only [Lit.wf, IntKind.min, IntKind.max, IntKind.signed, IntKind.bits, Bool.and_eq_true] at this
  simp at this
  omega
theorem int_of {x : Int} (h : (Lit.int .i64 x).wf = true) : -9223372036854775808 ≤ x ∧ x ≤ 9223372036854775807 := by
  simp only [Lit.wf, IntKind.min, IntKind.max, IntKind.signed, IntKind.bits, Bool.and_eq_true, decide_eq_true_eq, if_true] at h
  simp at h
  omega
theorem shr_pow (x : Int) (n : Nat) (hn : n ≤ 64) : shr .i64 x (n : Int) = x / 2 ^ n := by
  unfold shr
  rw [Int.toNat_natCast, Nat.min_eq_left (by simpa [IntKind.bits] using hn)]
theorem tail_eq {p : Int} (h0 : 0 ≤ p) (h1 : p ≤ 1114111) :
    utf_Put.T p 0 = 128 + p % 64 ∧ utf_Put.T p 6 = 128 + p / 64 % 64 ∧ utf_Put.T p 12 = 128 + p / 4096 % 64 := by
  have e0 : shr .i64 p 0 = p := by rw [show (0 : Int) = ((0 : Nat) : Int) from rfl, shr_pow p 0 (by decide)]; omega
  have e6 : shr .i64 p 6 = p / 64 := by rw [show (6 : Int) = ((6 : Nat) : Int) from rfl, shr_pow p 6 (by decide)]; rfl
  have e12 : shr .i64 p 12 = p / 4096 := by rw [show (12 : Int) = ((12 : Nat) : Int) from rfl, shr_pow p 12 (by decide)]; rfl
  unfold utf_Put.T
  rw [e0, e6, e12, and63 h0 (by omega), and63 (by omega) (by omega), and63 (by omega) (by omega)]
  rw [or_add 6 (by decide) (by decide) (by decide) (by omega) (by omega) (by omega), or_add 6 (by decide) (by decide) (by decide) (by omega) (by omega) (by omega), or_add 6 (by decide) (by decide) (by decide) (by omega) (by omega) (by omega)]
  omega
theorem lead_eq {p : Int} (h0 : 0 ≤ p) (h1 : p ≤ 1114111) :
    (p < 2048 → Go.bits .or .i64 192 (p / 64) % 256 = 192 + p / 64) ∧ (p < 65536 → Go.bits .or .i64 224 (p / 4096) % 256 = 224 + p / 4096) ∧ Go.bits .or .i64 240 (p / 262144) % 256 = 240 + p / 262144 := by
  refine ⟨fun h => ?_, fun h => ?_, ?_⟩
  · rw [or_add 5 (by decide) (by decide) (by decide) (by omega) (by omega) (by omega)]; omega
  · rw [or_add 4 (by decide) (by decide) (by decide) (by omega) (by omega) (by omega)]; omega
  · rw [or_add 3 (by decide) (by decide) (by decide) (by omega) (by omega) (by omega)]; omega
theorem cont_eq {p : Int} (h0 : 0 ≤ p) (h1 : p ≤ 1114111) :
    Go.bits .or .i64 128 (Go.bits .and .i64 p 63) % 256 = 128 + p % 64 ∧ Go.bits .or .i64 128 (Go.bits .and .i64 (p / 64) 63) % 256 = 128 + p / 64 % 64 ∧ Go.bits .or .i64 128 (Go.bits .and .i64 (p / 4096) 63) % 256 = 128 + p / 4096 % 64 := by
  rw [and63 h0 (by omega), and63 (by omega) (by omega), and63 (by omega) (by omega)]
  rw [or_add 6 (by decide) (by decide) (by decide) (by omega) (by omega) (by omega), or_add 6 (by decide) (by decide) (by decide) (by omega) (by omega) (by omega), or_add 6 (by decide) (by decide) (by decide) (by omega) (by omega) (by omega)]
  omega
theorem scalar_f {p : Int} : (Utf.Scalar p → utf_scalar.f p = some true) ∧ (¬ Utf.Scalar p → utf_scalar.f p = some false) := by
  unfold utf_scalar.f Utf.Scalar
  by_cases h1 : p ≥ 0
  · rw [if_pos h1]
    by_cases h2 : p ≤ 1114111
    · rw [if_pos h2]
      by_cases h3 : p < 55296
      · rw [if_pos h3]; exact ⟨fun _ => rfl, fun h => absurd (.inl ⟨h1, h3⟩) h⟩
      · rw [if_neg h3]; exact ⟨fun h => by simp; omega, fun h => by simp; omega⟩
    · rw [if_neg h2]; exact ⟨fun h => by omega, fun _ => rfl⟩
  · rw [if_neg h1]; exact ⟨fun h => by omega, fun _ => rfl⟩
theorem put_yes {l : List Int} (hl : l.length + 4 < 140737488355328) {p : Int} (h : Utf.Scalar p) : utf_Put.f l p = some (l ++ Utf.enc p, 0) := by
  have hp := h
  unfold Utf.Scalar at hp
  obtain ⟨t0, t6, t12⟩ := tail_eq (p := p) (by omega) (by omega)
  obtain ⟨a1, a2, a3⟩ := lead_eq (p := p) (by omega) (by omega)
  unfold utf_Put.f
  rw [scalar_f.1 h]
  simp only [Option.bind_some, if_true]
  unfold utf_joined.f
  rcases Utf.enc_cases h with ⟨a, b, e⟩ | ⟨a, b, e⟩ | ⟨a, b, e⟩ | ⟨a, b, e⟩ <;> rw [e]
  · rw [if_pos b, if_pos (by simp; omega)]; rfl
  · rw [if_neg (by omega), if_pos b, if_pos (by simp; omega), t0, a1 b]; rfl
  · rw [if_neg (by omega), if_neg (by omega), if_pos b, if_pos (by simp; omega), t0, t6, a2 b]; rfl
  · rw [if_neg (by omega), if_neg (by omega), if_neg (by omega), if_pos (by simp; omega), t0, t6, t12, a3]; rfl
theorem put_no {l : List Int} {p : Int} (h : ¬ Utf.Scalar p) : utf_Put.f l p = some ([], 2) := by
  unfold utf_Put.f
  rw [scalar_f.2 h]
  rfl
/-- The automaton's state behind some bytes; none: it has fallen. -/
def st : List Int → Int × Int × Int → Option (Int × Int × Int)
  | [], s => some s
  | c :: r, s => if s.1 = 0 then (if (Utf.goes c).1 < 0 then none else st r (Utf.goes c)) else if c < s.2.1 then none else if c > s.2.2 then none else st r (s.1 - 1, 128, 191)
theorem st_append : ∀ (a b : List Int) (s : Int × Int × Int), st (a ++ b) s = (st a s).bind (st b)
  | [], b, s => rfl
  | c :: r, b, s => by
    rw [List.cons_append, st, st]
    repeat' split
    · rfl
    · exact st_append r b _
    · rfl
    · rfl
    · exact st_append r b _
theorem run_st : ∀ (l : List Int) (n lo hi i : Int), (Utf.run l n lo hi i).2 = true ↔ ∃ a b, st l (n, lo, hi) = some (0, a, b)
  | [], n, lo, hi, i => by
    rw [Utf.run, st]
    constructor
    · intro h
      have : n = 0 := by simpa using h
      subst this
      exact ⟨lo, hi, rfl⟩
    · rintro ⟨a, b, h⟩
      simp only [Option.some.injEq, Prod.mk.injEq] at h
      simp [h.1]
  | c :: r, n, lo, hi, i => by
    rw [Utf.run, st]
    by_cases h1 : n = 0
    · rw [if_pos h1, if_pos h1]
      by_cases h2 : (Utf.goes c).1 < 0
      · rw [if_pos h2, if_pos h2]; simp
      · rw [if_neg h2, if_neg h2]; exact run_st r _ _ _ _
    · rw [if_neg h1, if_neg h1]
      by_cases h2 : c < lo
      · rw [if_pos h2, if_pos h2]; simp
      · rw [if_neg h2, if_neg h2]
        by_cases h3 : c > hi
        · rw [if_pos h3, if_pos h3]; simp
        · rw [if_neg h3, if_neg h3]; exact run_st r _ _ _ _
theorem good_st (l : List Int) : (Utf.good l).2 = true ↔ ∃ a b, st l (0, 128, 191) = some (0, a, b) := run_st l 0 128 191 0

/-- How far it came: it has not fallen before, and falls at the next byte. -/
theorem run_prefix : ∀ (l : List Int) (n lo hi i : Int), ∃ m : Nat, (Utf.run l n lo hi i).1 = i + m ∧ m ≤ l.length ∧ (∃ s, st (l.take m) (n, lo, hi) = some s) ∧ (m < l.length → st (l.take (m + 1)) (n, lo, hi) = none) ∧ ((Utf.run l n lo hi i).2 = true → m = l.length)
  | [], n, lo, hi, i => ⟨0, by simp [Utf.run], by simp, ⟨_, rfl⟩, fun h => by simp at h, fun _ => rfl⟩
  | c :: r, n, lo, hi, i => by
    rw [Utf.run]
    by_cases h1 : n = 0
    · rw [if_pos h1]
      by_cases h2 : (Utf.goes c).1 < 0
      · rw [if_pos h2]
        refine ⟨0, by simp, by simp, ⟨_, rfl⟩, fun _ => ?_, fun h => by simp at h⟩
        simp only [Nat.zero_add, List.take_succ_cons, List.take_zero, st]
        rw [if_pos h1, if_pos h2]
      · rw [if_neg h2]
        obtain ⟨m, e1, e2, ⟨s, e3⟩, e4, e5⟩ := run_prefix r (Utf.goes c).1 (Utf.goes c).2.1 (Utf.goes c).2.2 (i + 1)
        refine ⟨m + 1, by rw [e1]; omega, by simp; omega, ⟨s, ?_⟩, fun h => ?_, fun h => by rw [List.length_cons, e5 h]⟩
        · rw [List.take_succ_cons, st, if_pos h1, if_neg h2]; exact e3
        · rw [List.take_succ_cons, st, if_pos h1, if_neg h2]; exact e4 (by simpa using h)
    · rw [if_neg h1]
      by_cases h2 : c < lo
      · rw [if_pos h2]
        refine ⟨0, by simp, by simp, ⟨_, rfl⟩, fun _ => ?_, fun h => by simp at h⟩
        simp only [Nat.zero_add, List.take_succ_cons, List.take_zero, st]
        rw [if_neg h1, if_pos h2]
      · rw [if_neg h2]
        by_cases h3 : c > hi
        · rw [if_pos h3]
          refine ⟨0, by simp, by simp, ⟨_, rfl⟩, fun _ => ?_, fun h => by simp at h⟩
          simp only [Nat.zero_add, List.take_succ_cons, List.take_zero, st]
          rw [if_neg h1, if_neg h2, if_pos h3]
        · rw [if_neg h3]
          obtain ⟨m, e1, e2, ⟨s, e3⟩, e4, e5⟩ := run_prefix r (n - 1) 128 191 (i + 1)
          refine ⟨m + 1, by rw [e1]; omega, by simp; omega, ⟨s, ?_⟩, fun h => ?_, fun h => by rw [List.length_cons, e5 h]⟩
          · rw [List.take_succ_cons, st, if_neg h1, if_neg h2, if_neg h3]; exact e3
          · rw [List.take_succ_cons, st, if_neg h1, if_neg h2, if_neg h3]; exact e4 (by simpa using h)

end Go.Proofs.YthoobepfkfjgnaaDoor.Pure
