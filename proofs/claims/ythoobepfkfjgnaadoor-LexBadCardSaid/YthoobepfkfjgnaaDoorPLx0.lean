-- Written by printx.py (this claim's own program, over the kit's print): the functions that this claim reaches. Not trusted: Lean checks it.
import Derived.Test.YthoobepfkfjgnaaDoorProg
import Derived.Below
import Derived.Deep.Draws
import Derived.Deep.AppendLies
import Derived.Maps.AppendAt
import Derived.OwnWalk
import Derived.Laws.BytesArg
import Derived.Laws.MakeOwn
import Derived.Laws.OwnMore
import Derived.Deep.OwnRows
import Derived.Tactics
import Derived.Lib.ConvBytes
import Derived.Laws.Slices
import Derived.WalkKit
import Derived.KernelRfl
import Derived.RowKit3
import Derived.Deep.LoopGhost
import Derived.Deep.QuietTactic
import Derived.BigQuiet
import Derived.WideLaws
import Derived.Deep.DeepCutAuto
import Derived.Deep.CutBlock
import Derived.Deep.RegionHeld3
import Derived.Laws.Rows
import Derived.Lib.AppendStr
import Derived.ArgAppend
import Derived.Laws.IdiomCopy
import Derived.OrdersHeld
import Derived.Laws.BitsLemmas
import Derived.RowKit
import Derived.WalkLawsBesides
import Derived.Test.YthoobepfkfjgnaaDoorMore
import Derived.Test.YthoobepfkfjgnaaDoorWWords
import Derived.Test.YthoobepfkfjgnaaDoorWLast
import Derived.Test.YthoobepfkfjgnaaDoorWTab
import Derived.Test.YthoobepfkfjgnaaDoorWFour
import Derived.Test.YthoobepfkfjgnaaDoorWQPut
import Derived.Test.YthoobepfkfjgnaaDoorWApart
import Derived.Test.YthoobepfkfjgnaaDoorWArr
import Derived.Test.YthoobepfkfjgnaaDoorWZeros
import Derived.Test.YthoobepfkfjgnaaDoorWFoot
import Derived.Test.YthoobepfkfjgnaaDoorWKept
import Derived.Test.YthoobepfkfjgnaaDoorWShare
import Derived.Test.YthoobepfkfjgnaaDoorWN
import Derived.Test.YthoobepfkfjgnaaDoorWFootNe
import Derived.Test.YthoobepfkfjgnaaDoorWAt
import Derived.Test.YthoobepfkfjgnaaDoorWEqStruct
import Derived.Test.YthoobepfkfjgnaaDoorWRepsOne
import Derived.Test.YthoobepfkfjgnaaDoorWInv
import Derived.Test.YthoobepfkfjgnaaDoorWInvWords
import Derived.Test.YthoobepfkfjgnaaDoorWGuard
import Derived.Test.YthoobepfkfjgnaaDoorWNEv
import Derived.Test.YthoobepfkfjgnaaDoorWMore
namespace Go.Proofs.YthoobepfkfjgnaaDoor.PL
open Go.RowKit Go.Proofs.YthoobepfkfjgnaaDoorW.PrintWords Go.Proofs.YthoobepfkfjgnaaDoorW.PrintLast Go.Proofs.YthoobepfkfjgnaaDoorW.PrintMore
attribute [local go_sem] max2_int min2_int max_two min_two max_three min_three max_four min_four   -- for this text's walks alone
set_option linter.unusedVariables false
set_option linter.unusedSimpArgs false



def errW : Option Int → Value
  | none => .nilIface
  | some c => .iface 0 (.int .i64 c)
theorem errW_none : errW none = .nilIface := rfl
theorem errW_some (c : Int) : errW (some c) = .iface 0 (.int .i64 c) := rfl

theorem info5 : (Tryd.prog.info? 5).map (fun i => (i.zero, i.size, i.bytes)) = some (some (.int .u8 0), 1, 1) := by kernel_rfl
-- the values' own types

end Go.Proofs.YthoobepfkfjgnaaDoor.PL
