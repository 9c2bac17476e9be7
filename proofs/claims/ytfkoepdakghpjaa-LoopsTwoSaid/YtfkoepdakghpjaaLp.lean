/- Depth first search, in plain words: what loops.search's closure does to its state, and what comes of it. -/
import Derived.Test.YtfkoepdakghpjaaMp
namespace Go.Proofs.Ytfkoepdakghpjaa.Lp
open Go.RowKit Go.Proofs.YtfkoepdakghpjaaW.PrintWords Go.Proofs.YtfkoepdakghpjaaW.PrintMore Go.Proofs.Ytfkoepdakghpjaa.Mp
set_option linter.unusedVariables false

/-- The state: which numbers lie on the path (their places, from 1 on), which have a rank, the path. -/
structure St where
  on : Int → Option Int
  onN : Nat
  rk : Int → Option Int
  rkN : Nat
  path : List Int

def St.push (s : St) (x : Int) : St := { s with path := s.path ++ [x], on := upd s.on x (some ((s.path.length : Int) + 1)), onN := if (s.on x).isSome = true then s.onN else s.onN + 1 }
def St.pop (s : St) (x r : Int) : St := { s with path := s.path.take (s.path.length - 1), on := upd s.on x none, onN := if (s.on x).isSome = true then s.onN - 1 else s.onN, rk := upd s.rk x (some r), rkN := if (s.rk x).isSome = true then s.rkN else s.rkN + 1 }
def St.small (s : St) : Prop := s.path.length < 1000000 ∧ s.onN < 1000000 ∧ s.rkN < 1000000
instance (s : St) : Decidable s.small := by unfold St.small; infer_instance
def loop (v : St → Int → Option (List Int ⊕ St)) : List Int → St → Int → Option (List Int ⊕ (St × Int))
  | [], s, r => some (.inr (s, r))
  | y :: ys, s, r => match v s y with
    | none => none
    | some (.inl c) => some (.inl c)
    | some (.inr s2) => if 0 ≤ (s2.rk y).getD 0 ∧ (s2.rk y).getD 0 < 1000000 then loop v ys s2 (mx r ((s2.rk y).getD 0 + 1)) else none
def visit (G : Int → List Int) : Nat → St → Int → Option (List Int ⊕ St)
  | 0, _, _ => none
  | k + 1, s, x =>
    if 0 < (s.on x).getD 0 then (if (s.on x).getD 0 ≤ (s.path.length : Int) ∧ s.path.length < 1000000 then some (.inl (s.path.drop (((s.on x).getD 0).toNat - 1))) else none)
    else if (s.rk x).isSome = true then some (.inr s)
    else if s.small then
      (match loop (visit G k) (G x) (s.push x) 0 with
      | none => none
      | some (.inl c) => some (.inl c)
      | some (.inr (s2, r)) => if s2.small ∧ 0 < s2.path.length ∧ 0 ≤ r ∧ r < 1000000000 then some (.inr (s2.pop x r)) else none)
    else none
def top (G : Int → List Int) (k : Nat) : List Int → St → Option (List Int ⊕ St)
  | [], s => some (.inr s)
  | i :: is, s => match visit G k s i with
    | none => none
    | some (.inl c) => some (.inl c)
    | some (.inr s2) => top G k is s2
def start : St := ⟨fun _ => none, 0, fun _ => none, 0, []⟩
def nums (n : Int) : List Int := (List.range n.toNat).map fun (i : Nat) => (i : Int)
def search (G : Int → List Int) (n : Int) : Option (List Int ⊕ St) := top G (n.toNat + 2) (nums n) start
end Go.Proofs.Ytfkoepdakghpjaa.Lp
