/- Tarjan's way, in plain words: what loops.Parts' closure does to its state. -/
import Derived.Test.YtfkoepdakghpjaaRw
namespace Go.Proofs.Ytfkoepdakghpjaa.Tp
open Go.RowKit Go.Proofs.YtfkoepdakghpjaaW.PrintWords Go.Proofs.YtfkoepdakghpjaaW.PrintMore Go.Proofs.Ytfkoepdakghpjaa.Mp
set_option linter.unusedVariables false

structure St where
  num : Int → Option Int
  numN : Nat
  low : Int → Option Int
  lowN : Nat
  stack : List Int
  part : Int → Option Int
  partN : Nat
def at0 (g : Int → Option Int) (x : Int) : Int := (g x).getD 0
def cnt (g : Int → Option Int) (n : Nat) (x : Int) : Nat := if (g x).isSome = true then n else n + 1
def St.enter (s : St) (x : Int) : St := { s with num := upd s.num x (some ((s.numN : Int) + 1)), numN := cnt s.num s.numN x, low := upd s.low x (some ((s.numN : Int) + 1)), lowN := cnt s.low s.lowN x, stack := s.stack ++ [x] }
def St.setLow (s : St) (x v : Int) : St := { s with low := upd s.low x (some v), lowN := cnt s.low s.lowN x }
def St.setPart (v : Int) (s : St) (y : Int) : St := { s with part := upd s.part y (some v), partN := cnt s.part s.partN y }
def St.close (s : St) (q : Nat) : St := { (s.stack.drop q).foldl (St.setPart (Lib.minOf (s.stack.drop q))) s with stack := s.stack.take q }
def St.small (s : St) : Prop := s.numN < 1000000 ∧ s.lowN < 1000000 ∧ s.partN < 1000000 ∧ s.stack.length < 1000000
instance (s : St) : Decidable s.small := by unfold St.small; infer_instance
def loop (v : St → Int → Option St) (x : Int) : List Int → St → Option St
  | [], s => some s
  | y :: ys, s =>
    if at0 s.num y = 0 then (match v s y with
      | none => none
      | some s2 => if s2.small then loop v x ys (s2.setLow x (mn (at0 s2.low x) (at0 s2.low y))) else none)
    else if s.stack.contains y = true then (if s.small then loop v x ys (s.setLow x (mn (at0 s.low x) (at0 s.num y))) else none)
    else loop v x ys s
def visit (G : Int → List Int) : Nat → St → Int → Option St
  | 0, _, _ => none
  | k + 1, s, x => if s.small then (match loop (visit G k) x (G x) (s.enter x) with
      | none => none
      | some s2 => if at0 s2.low x < at0 s2.num x then some s2 else if s2.stack.idxOf x < s2.stack.length ∧ s2.small then some (s2.close (s2.stack.idxOf x)) else none)
    else none
def top (G : Int → List Int) (k : Nat) : List Int → St → Option St
  | [], s => some s
  | i :: is, s => if at0 s.num i = 0 then (match visit G k s i with | none => none | some s2 => top G k is s2) else top G k is s
def start : St := ⟨fun _ => none, 0, fun _ => none, 0, [], fun _ => none, 0⟩
theorem foldl_partN (m : Int) : ∀ (l : List Int) (s : St), (l.foldl (St.setPart m) s).partN ≤ s.partN + l.length
  | [], s => Nat.le_refl _
  | y :: l, s => by
    rw [List.foldl_cons]
    have h := foldl_partN m l (s.setPart m y)
    have h2 : (s.setPart m y).partN ≤ s.partN + 1 := by
      unfold St.setPart cnt
      simp only
      split <;> omega
    rw [List.length_cons]
    omega
end Go.Proofs.Ytfkoepdakghpjaa.Tp
