/-
  No cell of these rows narrows 'for every input' (looked for: loops, veiled, ifaces, maps, wideKeys, modest, calm, conditions, laid).
  DERIVED. THE GIVEN ROWS OF THIS SEAT. 6 by the template 'for every input the law returns true; each argument reads behind the call as it read before'; 0 by the template 'total and deterministic' (their statements: YtfkoepdakghpjaaTotals.lean).
  GIVEN WITH THE SEED: the statements are not yours to turn. If you find one false, say at which input.
  Laid BY PROGRAM, IN A SANDBOX (cutbox-rows.mjs): the forced cells as the released guide's own fill.sh prints them over the translation 1209be243b8c2b03… (all of the seat's roots in one cut). By AI agents, Wed Nov 11 2026. No macro, syntax, notation, axiom, sorry.
-/
import Derived.Test.YtfkoepdakghpjaaChecked
import GoSem.Claim
import GoSem.ClaimJoined
import GoSem.ClaimMapViews
import Derived.JoinedTies
import Derived.KernelRfl
namespace Go.Proofs.Ytfkoepdakghpjaa
/- THE CELL 'sum', in the pinned program and in every row, IS THE sha256 OF THE DUMP (.gsa) THAT YtfkoepdakghpjaaProg.lean LOADS. Nothing in Lean hashes anything: it is a label: what it is worth is what the hold of that sum in a sandbox is worth. -/
noncomputable def Try.pinned : Pinned := { name := "ytfkoepdakghpjaa", sum := "1209be243b8c2b03c3cbf11ffe9af2fd0a7b7c6fe33994260af322c86fdaffc9", checked := Try.checked }
namespace Rows
def none {H : Type} : Left H := { results := [], args := [] }

/-- 'caliperlaw15.LoopsRanks': WHATEVER THE INPUT: true; the input reads as it did. -/
def loopsRanksSpec : ChangeSpec := { name := "loopsRanks", fn := fun _ => fun
  | [d1, d2] => { results := [.lit (.bool true)], args := [d1, d2] }
  | _ => none }
def loopsRanksRow : OpenClaim := { program := "ytfkoepdakghpjaa", sum := "1209be243b8c2b03c3cbf11ffe9af2fd0a7b7c6fe33994260af322c86fdaffc9", func := "caliper/caliperlaw15.LoopsRanks", spec := "loopsRanks", unfollowed := true, recurses := true, apart := false }
def LoopsRanksSaid : Prop := loopsRanksRow.holds Try.pinned (OpenSpec.ofChange loopsRanksSpec)

/-- ITS FALSE NEIGHBOUR: 'it returns false'. Refute it at one input. -/
def loopsRanksWrong : ChangeSpec := { name := "loopsRanks", fn := fun _ => fun
  | [d1, d2] => { results := [.lit (.bool false)], args := [d1, d2] }
  | _ => none }
def LoopsRanksWrongFalsely : Prop := loopsRanksRow.holds Try.pinned (OpenSpec.ofChange loopsRanksWrong)

/-- 'caliperlaw15.LoopsParts': WHATEVER THE INPUT: true; the input reads as it did. -/
def loopsPartsSpec : ChangeSpec := { name := "loopsParts", fn := fun _ => fun
  | [d1, d2] => { results := [.lit (.bool true)], args := [d1, d2] }
  | _ => none }
def loopsPartsRow : OpenClaim := { program := "ytfkoepdakghpjaa", sum := "1209be243b8c2b03c3cbf11ffe9af2fd0a7b7c6fe33994260af322c86fdaffc9", func := "caliper/caliperlaw15.LoopsParts", spec := "loopsParts", unfollowed := true, recurses := true, apart := false }
def LoopsPartsSaid : Prop := loopsPartsRow.holds Try.pinned (OpenSpec.ofChange loopsPartsSpec)

/-- ITS FALSE NEIGHBOUR: 'it returns false'. Refute it at one input. -/
def loopsPartsWrong : ChangeSpec := { name := "loopsParts", fn := fun _ => fun
  | [d1, d2] => { results := [.lit (.bool false)], args := [d1, d2] }
  | _ => none }
def LoopsPartsWrongFalsely : Prop := loopsPartsRow.holds Try.pinned (OpenSpec.ofChange loopsPartsWrong)

/-- 'caliperlaw15.LoopsTwo': WHATEVER THE INPUT: true; the input reads as it did. -/
def loopsTwoSpec : ChangeSpec := { name := "loopsTwo", fn := fun _ => fun
  | [d1, d2] => { results := [.lit (.bool true)], args := [d1, d2] }
  | _ => none }
def loopsTwoRow : OpenClaim := { program := "ytfkoepdakghpjaa", sum := "1209be243b8c2b03c3cbf11ffe9af2fd0a7b7c6fe33994260af322c86fdaffc9", func := "caliper/caliperlaw15.LoopsTwo", spec := "loopsTwo", unfollowed := true, recurses := true, apart := false }
def LoopsTwoSaid : Prop := loopsTwoRow.holds Try.pinned (OpenSpec.ofChange loopsTwoSpec)

/-- ITS FALSE NEIGHBOUR: 'it returns false'. Refute it at one input. -/
def loopsTwoWrong : ChangeSpec := { name := "loopsTwo", fn := fun _ => fun
  | [d1, d2] => { results := [.lit (.bool false)], args := [d1, d2] }
  | _ => none }
def LoopsTwoWrongFalsely : Prop := loopsTwoRow.holds Try.pinned (OpenSpec.ofChange loopsTwoWrong)

/-- 'caliperlaw15.LoopsFall': WHATEVER THE INPUT: true; the input reads as it did. -/
def loopsFallSpec : ChangeSpec := { name := "loopsFall", fn := fun _ => fun
  | [d1, d2] => { results := [.lit (.bool true)], args := [d1, d2] }
  | _ => none }
def loopsFallRow : OpenClaim := { program := "ytfkoepdakghpjaa", sum := "1209be243b8c2b03c3cbf11ffe9af2fd0a7b7c6fe33994260af322c86fdaffc9", func := "caliper/caliperlaw15.LoopsFall", spec := "loopsFall", unfollowed := true, recurses := true, apart := false }
def LoopsFallSaid : Prop := loopsFallRow.holds Try.pinned (OpenSpec.ofChange loopsFallSpec)

/-- ITS FALSE NEIGHBOUR: 'it returns false'. Refute it at one input. -/
def loopsFallWrong : ChangeSpec := { name := "loopsFall", fn := fun _ => fun
  | [d1, d2] => { results := [.lit (.bool false)], args := [d1, d2] }
  | _ => none }
def LoopsFallWrongFalsely : Prop := loopsFallRow.holds Try.pinned (OpenSpec.ofChange loopsFallWrong)

/-- 'caliperlaw15.LoopsTurns': WHATEVER THE INPUT: true; the input reads as it did. -/
def loopsTurnsSpec : ChangeSpec := { name := "loopsTurns", fn := fun _ => fun
  | [d1, d2] => { results := [.lit (.bool true)], args := [d1, d2] }
  | _ => none }
def loopsTurnsRow : OpenClaim := { program := "ytfkoepdakghpjaa", sum := "1209be243b8c2b03c3cbf11ffe9af2fd0a7b7c6fe33994260af322c86fdaffc9", func := "caliper/caliperlaw15.LoopsTurns", spec := "loopsTurns", unfollowed := true, recurses := true, apart := false }
def LoopsTurnsSaid : Prop := loopsTurnsRow.holds Try.pinned (OpenSpec.ofChange loopsTurnsSpec)

/-- ITS FALSE NEIGHBOUR: 'it returns false'. Refute it at one input. -/
def loopsTurnsWrong : ChangeSpec := { name := "loopsTurns", fn := fun _ => fun
  | [d1, d2] => { results := [.lit (.bool false)], args := [d1, d2] }
  | _ => none }
def LoopsTurnsWrongFalsely : Prop := loopsTurnsRow.holds Try.pinned (OpenSpec.ofChange loopsTurnsWrong)

/-- 'caliperlaw15.LoopsFinds': WHATEVER THE INPUT: true; the input reads as it did. -/
def loopsFindsSpec : ChangeSpec := { name := "loopsFinds", fn := fun _ => fun
  | [d1, d2, d3] => { results := [.lit (.bool true)], args := [d1, d2, d3] }
  | _ => none }
def loopsFindsRow : OpenClaim := { program := "ytfkoepdakghpjaa", sum := "1209be243b8c2b03c3cbf11ffe9af2fd0a7b7c6fe33994260af322c86fdaffc9", func := "caliper/caliperlaw15.LoopsFinds", spec := "loopsFinds", unfollowed := true, recurses := true, apart := false }
def LoopsFindsSaid : Prop := loopsFindsRow.holds Try.pinned (OpenSpec.ofChange loopsFindsSpec)

/-- ITS FALSE NEIGHBOUR: 'it returns false'. Refute it at one input. -/
def loopsFindsWrong : ChangeSpec := { name := "loopsFinds", fn := fun _ => fun
  | [d1, d2, d3] => { results := [.lit (.bool false)], args := [d1, d2, d3] }
  | _ => none }
def LoopsFindsWrongFalsely : Prop := loopsFindsRow.holds Try.pinned (OpenSpec.ofChange loopsFindsWrong)

/- THE SECOND FORM. 'bulk': how many values and letters a reading holds, each counted each time it is reached (what is shared counts as often as it is met; a slice's spare places count too). A statement '..UptoSaid' is the law's where the arguments, and the package variables that the reading takes, are together of bulk at most 1048576: NARROWER than '..Said'. Prove '..Said' where nothing that the law and all that it calls make is longer than what came in: it says more and counts as full. Else prove '..UptoSaid'. A law counts once. -/
mutual
def uptoBulk {H : Type} : DataW H → Nat
  | .lit (.string bytes) => bytes.length + 1
  | .lit _ => 1
  | .nil => 1
  | .ptr d => uptoBulk d + 1
  | .slice elems spare => uptoBulkAll elems + uptoBulkAll spare + 1
  | .agg parts => uptoBulkAll parts + 1
  | .iface _ d => uptoBulk d + 1
  | .map entries => uptoBulkEntries entries + 1
  | .held _ => 1
def uptoBulkAll {H : Type} : List (DataW H) → Nat
  | [] => 0
  | d :: r => uptoBulk d + uptoBulkAll r
def uptoBulkEntries {H : Type} : List (Lit × DataW H) → Nat
  | [] => 0
  | x :: r => uptoBulkEntry x + uptoBulkEntries r
def uptoBulkEntry {H : Type} : Lit × DataW H → Nat
  | (.string bytes, d) => bytes.length + uptoBulk d + 1
  | (_, d) => uptoBulk d + 1
 end
def uptoSmall : (H : Type) → List (DataW H) → Bool := fun _ ds => decide (uptoBulkAll ds ≤ 1048576)
def OpenSpec.upto (s : _root_.Go.ChangeSpec) : _root_.Go.OpenSpec := { _root_.Go.OpenSpec.ofChange s with cond := some uptoSmall }

/-- 'caliperlaw15.LoopsRanks', WHERE WHAT IT READS IS OF BULK AT MOST 1048576: true; the input reads as it did. -/
def loopsRanksUptoRow : OpenClaim := { program := "ytfkoepdakghpjaa", sum := "1209be243b8c2b03c3cbf11ffe9af2fd0a7b7c6fe33994260af322c86fdaffc9", func := "caliper/caliperlaw15.LoopsRanks", spec := "loopsRanks", unfollowed := true, recurses := true, apart := false, narrowed := true }
def LoopsRanksUptoSaid : Prop := loopsRanksUptoRow.holds Try.pinned (OpenSpec.upto loopsRanksSpec)

/-- 'caliperlaw15.LoopsParts', WHERE WHAT IT READS IS OF BULK AT MOST 1048576: true; the input reads as it did. -/
def loopsPartsUptoRow : OpenClaim := { program := "ytfkoepdakghpjaa", sum := "1209be243b8c2b03c3cbf11ffe9af2fd0a7b7c6fe33994260af322c86fdaffc9", func := "caliper/caliperlaw15.LoopsParts", spec := "loopsParts", unfollowed := true, recurses := true, apart := false, narrowed := true }
def LoopsPartsUptoSaid : Prop := loopsPartsUptoRow.holds Try.pinned (OpenSpec.upto loopsPartsSpec)

/-- 'caliperlaw15.LoopsTwo', WHERE WHAT IT READS IS OF BULK AT MOST 1048576: true; the input reads as it did. -/
def loopsTwoUptoRow : OpenClaim := { program := "ytfkoepdakghpjaa", sum := "1209be243b8c2b03c3cbf11ffe9af2fd0a7b7c6fe33994260af322c86fdaffc9", func := "caliper/caliperlaw15.LoopsTwo", spec := "loopsTwo", unfollowed := true, recurses := true, apart := false, narrowed := true }
def LoopsTwoUptoSaid : Prop := loopsTwoUptoRow.holds Try.pinned (OpenSpec.upto loopsTwoSpec)

/-- 'caliperlaw15.LoopsFall', WHERE WHAT IT READS IS OF BULK AT MOST 1048576: true; the input reads as it did. -/
def loopsFallUptoRow : OpenClaim := { program := "ytfkoepdakghpjaa", sum := "1209be243b8c2b03c3cbf11ffe9af2fd0a7b7c6fe33994260af322c86fdaffc9", func := "caliper/caliperlaw15.LoopsFall", spec := "loopsFall", unfollowed := true, recurses := true, apart := false, narrowed := true }
def LoopsFallUptoSaid : Prop := loopsFallUptoRow.holds Try.pinned (OpenSpec.upto loopsFallSpec)

/-- 'caliperlaw15.LoopsTurns', WHERE WHAT IT READS IS OF BULK AT MOST 1048576: true; the input reads as it did. -/
def loopsTurnsUptoRow : OpenClaim := { program := "ytfkoepdakghpjaa", sum := "1209be243b8c2b03c3cbf11ffe9af2fd0a7b7c6fe33994260af322c86fdaffc9", func := "caliper/caliperlaw15.LoopsTurns", spec := "loopsTurns", unfollowed := true, recurses := true, apart := false, narrowed := true }
def LoopsTurnsUptoSaid : Prop := loopsTurnsUptoRow.holds Try.pinned (OpenSpec.upto loopsTurnsSpec)

/-- 'caliperlaw15.LoopsFinds', WHERE WHAT IT READS IS OF BULK AT MOST 1048576: true; the input reads as it did. -/
def loopsFindsUptoRow : OpenClaim := { program := "ytfkoepdakghpjaa", sum := "1209be243b8c2b03c3cbf11ffe9af2fd0a7b7c6fe33994260af322c86fdaffc9", func := "caliper/caliperlaw15.LoopsFinds", spec := "loopsFinds", unfollowed := true, recurses := true, apart := false, narrowed := true }
def LoopsFindsUptoSaid : Prop := loopsFindsUptoRow.holds Try.pinned (OpenSpec.upto loopsFindsSpec)

end Rows
end Go.Proofs.Ytfkoepdakghpjaa
