-- The scanner's steps as plain functions on a list of bytes and a place.
import Derived.RowKit
namespace LexW
def digit (c : Int) : Bool := decide (48 ≤ c) && decide (c ≤ 57)
def blank (c : Int) : Bool := c == 9 || c == 10 || c == 13 || c == 32
def plain (c : Int) : Bool := decide (32 ≤ c) && c != 34 && c != 92
def at_ (b : List Int) (p : Nat) : Int := b.getD p 0
def pass (T : Int → Bool) (b : List Int) (p : Nat) : Nat :=
  if p < b.length then (if T (at_ b p) = true then pass T b (p + 1) else p) else p
termination_by b.length - p
def must (T : Int → Bool) (b : List Int) (p : Nat) : Option Nat × Nat :=
  if p < b.length then (if T (at_ b p) = true then (none, p + 1) else (some (p + 1), p)) else (some (p + 1), p)
def digits (b : List Int) (p : Nat) : Option Nat × Nat := ((must digit b p).1, pass digit b (must digit b p).2)
def may (of : List Int) (b : List Int) (p : Nat) : Bool × Nat :=
  if p < b.length then (if of.contains (at_ b p) = true then (true, p + 1) else (false, p)) else (false, p)
def int_ (b : List Int) (p : Nat) : Option Nat × Nat := if (may [48] b p).1 = true then (none, (may [48] b p).2) else digits b (may [48] b p).2
def frac (b : List Int) (p : Nat) : Option Nat × Nat := if (may [46] b p).1 = true then digits b (may [46] b p).2 else (none, (may [46] b p).2)
def expo (b : List Int) (p : Nat) : Option Nat × Nat := if (may [101, 69] b p).1 = true then digits b (may [43, 45] b (may [101, 69] b p).2).2 else (none, (may [101, 69] b p).2)
def number (b : List Int) (p : Nat) : Option Nat × Nat :=
  if (int_ b (may [45] b p).2).1.isSome = true then int_ b (may [45] b p).2
  else if (frac b (int_ b (may [45] b p).2).2).1.isSome = true then frac b (int_ b (may [45] b p).2).2
  else expo b (frac b (int_ b (may [45] b p).2).2).2
def exactly : List Int → List Int → Nat → Option Nat × Nat
  | [], _, p => (none, p)
  | c :: w, b, p => if (must (fun x => x == c) b p).1.isSome = true then must (fun x => x == c) b p else exactly w b (must (fun x => x == c) b p).2
def hex (c : Int) : Int :=
  if 48 ≤ c ∧ c ≤ 57 then c - 48 else if 97 ≤ c ∧ c ≤ 102 then c - 87 else if 65 ≤ c ∧ c ≤ 70 then c - 55 else -1
/-- k rounds from round i on. -/
def four (T : Nat → Int → Bool) (b : List Int) : Nat → Nat → Int → Nat → Option Nat × Int × Nat
  | 0, _, n, p => (none, n, p)
  | k + 1, i, n, p =>
    if p < b.length then (if 0 ≤ hex (at_ b p) then (if T i (n * 16 + hex (at_ b p)) = true then four T b k (i + 1) (n * 16 + hex (at_ b p)) (p + 1) else (some (p + 1), 0, p)) else (some (p + 1), 0, p)) else (some (p + 1), 0, p)
def T1 (i : Nat) (n : Int) : Bool := i != 1 || decide (n < 220) || decide (n > 223)
def T2 (i : Nat) (n : Int) : Bool := decide (i > 1) || (i == 0 && n == 13) || (i == 1 && decide (n ≥ 220))
/-- Which of some bytes a byte is; -1: none. -/
def idx (c : Int) : List Int → Int
  | [] => -1
  | x :: l => if x = c then 0 else (if idx c l < 0 then -1 else idx c l + 1)
def pairOf (h l : Int) : Int := 65536 + (h - 55296) * 1024 + (l - 56320)
def tail2 (b : List Int) (high : Int) (p : Nat) : Option Nat × Int × Nat :=
  if (exactly [92, 117] b p).1.isSome = true then ((exactly [92, 117] b p).1, 0, (exactly [92, 117] b p).2)
  else if (four T2 b 4 0 0 (exactly [92, 117] b p).2).1.isSome = true then ((four T2 b 4 0 0 (exactly [92, 117] b p).2).1, 0, (four T2 b 4 0 0 (exactly [92, 117] b p).2).2.2)
  else (none, pairOf high (four T2 b 4 0 0 (exactly [92, 117] b p).2).2.1, (four T2 b 4 0 0 (exactly [92, 117] b p).2).2.2)
def uesc (b : List Int) (p : Nat) : Option Nat × Int × Nat :=
  if (exactly [117] b p).1.isSome = true then ((exactly [117] b p).1, 0, (exactly [117] b p).2)
  else if (four T1 b 4 0 0 (exactly [117] b p).2).1.isSome = true then four T1 b 4 0 0 (exactly [117] b p).2
  else if (four T1 b 4 0 0 (exactly [117] b p).2).2.1 < 55296 then four T1 b 4 0 0 (exactly [117] b p).2
  else if (four T1 b 4 0 0 (exactly [117] b p).2).2.1 > 57343 then four T1 b 4 0 0 (exactly [117] b p).2
  else tail2 b (four T1 b 4 0 0 (exactly [117] b p).2).2.1 (four T1 b 4 0 0 (exactly [117] b p).2).2.2
def escFrom : List Int := [34, 92, 47, 98, 102, 110, 114, 116]
def escTo : List Int := [34, 92, 47, 8, 12, 10, 13, 9]
def escape (b : List Int) (p : Nat) : Option Nat × Int × Nat :=
  if p < b.length then (if 0 ≤ idx (at_ b p) escFrom then (none, escTo.getD (idx (at_ b p) escFrom).toNat 0, p + 1) else uesc b p) else (some (p + 1), 0, p)
theorem pass_le (T : Int → Bool) (b : List Int) : ∀ n p, b.length - p = n → p ≤ b.length → pass T b p ≤ b.length := by
  intro n
  induction n with
  | zero => intro p h1 h2; rw [pass]; rw [if_neg (by omega)]; exact h2
  | succ n ih =>
    intro p h1 h2
    rw [pass, if_pos (by omega)]
    by_cases h3 : T (at_ b p) = true
    · rw [if_pos h3]; exact ih _ (by omega) (by omega)
    · rw [if_neg h3]; exact h2
theorem le_pass (T : Int → Bool) (b : List Int) : ∀ n p, b.length - p = n → p ≤ pass T b p := by
  intro n
  induction n with
  | zero => intro p h1; rw [pass]; rw [if_neg (by omega)]; exact Nat.le_refl _
  | succ n ih =>
    intro p h1
    rw [pass, if_pos (by omega)]
    by_cases h3 : T (at_ b p) = true
    · rw [if_pos h3]; have := ih (p + 1) (by omega); omega
    · rw [if_neg h3]; exact Nat.le_refl _
end LexW
