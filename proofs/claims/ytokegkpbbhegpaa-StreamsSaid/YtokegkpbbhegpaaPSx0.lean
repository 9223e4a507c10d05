/- The functions that the laws use, as Lean functions, and the contracts: printed by a program of this session out of the translation; Lean checks them. -/
import Derived.Test.YtokegkpbbhegpaaProg
import Derived.Below
import Derived.Deep.Draws
import Derived.Deep.AppendLies
import Derived.Maps.AppendAt
import Derived.OwnWalk
import Derived.Laws.BytesArg
import Derived.Laws.MakeOwn
import Derived.Laws.OwnMore
import Derived.Deep.OwnRows
import Derived.Tactics
import Derived.Lib.ConvBytes
import Derived.Laws.Slices
import Derived.WalkKit
import Derived.KernelRfl
import Derived.RowKit3
import Derived.Deep.LoopGhost
import Derived.Deep.QuietTactic
import Derived.BigQuiet
import Derived.WideLaws
import Derived.Deep.DeepCutAuto
import Derived.Deep.CutBlock
import Derived.Deep.RegionHeld3
import Derived.Laws.Rows
import Derived.Lib.AppendStr
import Derived.ArgAppend
import Derived.Laws.IdiomCopy
import Derived.OrdersHeld
import Derived.Laws.BitsLemmas
import Derived.RowKit
import Derived.Test.YtokegkpbbhegpaaPAwk
import Derived.Test.YtokegkpbbhegpaaBlkS
import Derived.Test.YtokegkpbbhegpaaWWords
import Derived.Test.YtokegkpbbhegpaaWLast
import Derived.Test.YtokegkpbbhegpaaWTab
import Derived.Test.YtokegkpbbhegpaaWFour
import Derived.Test.YtokegkpbbhegpaaWQPut
import Derived.Test.YtokegkpbbhegpaaWApart
import Derived.Test.YtokegkpbbhegpaaWArr
import Derived.Test.YtokegkpbbhegpaaWZeros
import Derived.Test.YtokegkpbbhegpaaWFoot
import Derived.Test.YtokegkpbbhegpaaWKept
import Derived.Test.YtokegkpbbhegpaaWShare
import Derived.Test.YtokegkpbbhegpaaWN
import Derived.Test.YtokegkpbbhegpaaWFootNe
import Derived.Test.YtokegkpbbhegpaaWAt
import Derived.Test.YtokegkpbbhegpaaWEqStruct
import Derived.Test.YtokegkpbbhegpaaWRepsOne
import Derived.Test.YtokegkpbbhegpaaWInv
import Derived.Test.YtokegkpbbhegpaaWInvWords
import Derived.Test.YtokegkpbbhegpaaWGuard
import Derived.Test.YtokegkpbbhegpaaWNEv
import Derived.Test.YtokegkpbbhegpaaWMore
namespace Go.Proofs.Ytokegkpbbhegpaa.PS
open Go.RowKit Go.Proofs.YtokegkpbbhegpaaW.PrintWords Go.Proofs.YtokegkpbbhegpaaW.PrintLast Go.Proofs.YtokegkpbbhegpaaW.PrintMore
attribute [local go_sem] max2_int min2_int max_two min_two max_three min_three max_four min_four   -- for this text's walks alone
set_option linter.unusedVariables false
set_option linter.unusedSimpArgs false



def errW : Option Int → Value
  | none => .nilIface
  | some c => .iface 0 (.int .i64 c)
theorem errW_none : errW none = .nilIface := rfl
theorem errW_some (c : Int) : errW (some c) = .iface 0 (.int .i64 c) := rfl

theorem info9 : (Try.prog.info? 9).map (fun i => (i.zero, i.size, i.bytes)) = some (some (.string ⟨#[]⟩), 1, 16) := by kernel_rfl
-- the values' own types

end Go.Proofs.Ytokegkpbbhegpaa.PS
