/- Texts compared by bytes and by code points: the same. -/
import Derived.Test.YthoobepfkfjgnaaUtf
import GoSem.Op.String
namespace Go.Proofs.Ythoobepfkfjgnaa.Utf

def cmp : List Int → List Int → Int
  | [], [] => 0
  | [], _ :: _ => -1
  | _ :: _, [] => 1
  | x :: xs, y :: ys => if x < y then -1 else if y < x then 1 else cmp xs ys
theorem cmp_self : ∀ xs : List Int, cmp xs xs = 0
  | [] => rfl
  | x :: xs => by rw [cmp, if_neg (by omega), if_neg (by omega)]; exact cmp_self xs
theorem cmp_anti : ∀ xs ys : List Int, cmp ys xs = -cmp xs ys
  | [], [] => rfl
  | [], _ :: _ => rfl
  | _ :: _, [] => rfl
  | x :: xs, y :: ys => by
    rw [cmp, cmp]
    by_cases h1 : x < y
    · rw [if_neg (show ¬ y < x by omega), if_pos h1, if_pos h1]; rfl
    · rw [if_neg h1]
      by_cases h2 : y < x
      · rw [if_pos h2, if_neg h1, if_pos h2]
      · rw [if_neg h2, if_neg h1, if_neg h2]; exact cmp_anti xs ys
theorem cmp_range : ∀ xs ys : List Int, cmp xs ys = -1 ∨ cmp xs ys = 0 ∨ cmp xs ys = 1
  | [], [] => .inr (.inl rfl)
  | [], _ :: _ => .inl rfl
  | _ :: _, [] => .inr (.inr rfl)
  | x :: xs, y :: ys => by
    rw [cmp]
    by_cases h1 : x < y
    · rw [if_pos h1]; exact .inl rfl
    · rw [if_neg h1]
      by_cases h2 : y < x
      · rw [if_pos h2]; exact .inr (.inr rfl)
      · rw [if_neg h2]; exact cmp_range xs ys
theorem cmp_cons_lt {x y : Int} (h : x < y) (xs ys : List Int) : cmp (x :: xs) (y :: ys) = -1 := by rw [cmp, if_pos h]
theorem cmp_cons_gt {x y : Int} (h : y < x) (xs ys : List Int) : cmp (x :: xs) (y :: ys) = 1 := by rw [cmp, if_neg (by omega), if_pos h]
theorem cmp_cons_eq (x : Int) (xs ys : List Int) : cmp (x :: xs) (x :: ys) = cmp xs ys := by rw [cmp, if_neg (by omega), if_neg (by omega)]
theorem cmp_append : ∀ (a xs ys : List Int), cmp (a ++ xs) (a ++ ys) = cmp xs ys
  | [], _, _ => rfl
  | x :: a, xs, ys => by rw [List.cons_append, List.cons_append, cmp_cons_eq]; exact cmp_append a xs ys

theorem enc_lt {p q : Int} (hp : Scalar p) (hq : Scalar q) (h : p < q) (a b : List Int) : cmp (enc p ++ a) (enc q ++ b) = -1 := by
  have hp0 := hp
  have hq0 := hq
  unfold Scalar at hp0 hq0
  rcases enc_cases hp with ⟨p1, p2, ep⟩ | ⟨p1, p2, ep⟩ | ⟨p1, p2, ep⟩ | ⟨p1, p2, ep⟩ <;> rcases enc_cases hq with ⟨q1, q2, eq⟩ | ⟨q1, q2, eq⟩ | ⟨q1, q2, eq⟩ | ⟨q1, q2, eq⟩ <;> rw [ep, eq] <;> simp only [List.cons_append, List.nil_append]
  all_goals try (exact cmp_cons_lt (by omega) _ _)
  all_goals try omega
  · by_cases h1 : 192 + p / 64 < 192 + q / 64
    · exact cmp_cons_lt h1 _ _
    · rw [show 192 + p / 64 = 192 + q / 64 by omega, cmp_cons_eq]; exact cmp_cons_lt (by omega) _ _
  · by_cases h1 : 224 + p / 4096 < 224 + q / 4096
    · exact cmp_cons_lt h1 _ _
    · rw [show 224 + p / 4096 = 224 + q / 4096 by omega, cmp_cons_eq]
      by_cases h2 : 128 + p / 64 % 64 < 128 + q / 64 % 64
      · exact cmp_cons_lt h2 _ _
      · rw [show 128 + p / 64 % 64 = 128 + q / 64 % 64 by omega, cmp_cons_eq]; exact cmp_cons_lt (by omega) _ _
  · by_cases h1 : 240 + p / 262144 < 240 + q / 262144
    · exact cmp_cons_lt h1 _ _
    · rw [show 240 + p / 262144 = 240 + q / 262144 by omega, cmp_cons_eq]
      by_cases h2 : 128 + p / 4096 % 64 < 128 + q / 4096 % 64
      · exact cmp_cons_lt h2 _ _
      · rw [show 128 + p / 4096 % 64 = 128 + q / 4096 % 64 by omega, cmp_cons_eq]
        by_cases h3 : 128 + p / 64 % 64 < 128 + q / 64 % 64
        · exact cmp_cons_lt h3 _ _
        · rw [show 128 + p / 64 % 64 = 128 + q / 64 % 64 by omega, cmp_cons_eq]; exact cmp_cons_lt (by omega) _ _
/-- Texts stand as their code points do. -/
theorem cmp_encs : ∀ (xs ys : List Int), (∀ p ∈ xs, Scalar p) → (∀ p ∈ ys, Scalar p) → cmp (encs xs) (encs ys) = cmp xs ys
  | [], [], _, _ => rfl
  | [], y :: ys, _, _ => by
    rw [encs_cons, encs_nil]
    have := enc_length_pos y
    cases h : enc y with
    | nil => rw [h] at this; simp at this
    | cons c r => rfl
  | x :: xs, [], _, _ => by
    rw [encs_cons, encs_nil]
    have := enc_length_pos x
    cases h : enc x with
    | nil => rw [h] at this; simp at this
    | cons c r => rfl
  | x :: xs, y :: ys, hx, hy => by
    have sx := hx x List.mem_cons_self
    have sy := hy y List.mem_cons_self
    rw [encs_cons, encs_cons]
    by_cases h1 : x < y
    · rw [enc_lt sx sy h1, cmp_cons_lt h1]
    · by_cases h2 : y < x
      · rw [cmp_anti (enc y ++ encs ys) (enc x ++ encs xs), enc_lt sy sx h2, cmp_cons_gt h2]; rfl
      · obtain rfl : x = y := by omega
        rw [cmp_append, cmp_cons_eq]
        exact cmp_encs xs ys (fun p hp => hx p (List.mem_cons_of_mem _ hp)) (fun p hp => hy p (List.mem_cons_of_mem _ hp))

def ints (l : List UInt8) : List Int := l.map fun b => (b.toNat : Int)
theorem less_cmp : ∀ (a b : List UInt8), (Op.bytesLess a b = true ↔ cmp (ints a) (ints b) = -1) ∧ ((a == b) = true ↔ cmp (ints a) (ints b) = 0)
  | [], [] => by simp [Op.bytesLess, ints, cmp]
  | [], y :: ys => by simp [Op.bytesLess, ints, cmp]
  | x :: xs, [] => by simp [Op.bytesLess, ints, cmp]
  | x :: xs, y :: ys => by
    obtain ⟨h1, h2⟩ := less_cmp xs ys
    have e1 : ints (x :: xs) = (x.toNat : Int) :: ints xs := rfl
    have e2 : ints (y :: ys) = (y.toNat : Int) :: ints ys := rfl
    rw [e1, e2]
    have lt : x < y ↔ (x.toNat : Int) < (y.toNat : Int) := by rw [UInt8.lt_iff_toNat_lt]; omega
    by_cases c1 : (x.toNat : Int) < (y.toNat : Int)
    · have ne : x ≠ y := fun e => by rw [e] at c1; omega
      rw [cmp_cons_lt c1]
      simp [Op.bytesLess, lt.2 c1, ne]
    · by_cases c2 : (y.toNat : Int) < (x.toNat : Int)
      · have ne : x ≠ y := fun e => by rw [e] at c2; omega
        have nlt : ¬ x < y := fun h => c1 (lt.1 h)
        rw [cmp_cons_gt c2]
        simp [Op.bytesLess, ne]
        exact UInt8.not_lt.1 nlt
      · have eq : x = y := UInt8.toNat_inj.1 (by omega)
        subst eq
        rw [cmp_cons_eq]
        have : Op.bytesLess (x :: xs) (x :: ys) = Op.bytesLess xs ys := by simp [Op.bytesLess]
        rw [this]
        refine ⟨h1, ?_⟩
        rw [← h2]
        simp
end Go.Proofs.Ythoobepfkfjgnaa.Utf
