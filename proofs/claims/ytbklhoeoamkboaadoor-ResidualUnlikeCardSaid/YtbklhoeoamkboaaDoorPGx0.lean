/- The functions that the laws use, as Lean functions, and the contracts: printed by a program of this session out of the translation; Lean checks them. -/
import Derived.Test.YtbklhoeoamkboaaDoorProg
import Derived.Below
import Derived.Deep.Draws
import Derived.Deep.AppendLies
import Derived.Maps.AppendAt
import Derived.OwnWalk
import Derived.Laws.BytesArg
import Derived.Laws.MakeOwn
import Derived.Laws.OwnMore
import Derived.Deep.OwnRows
import Derived.Tactics
import Derived.Lib.ConvBytes
import Derived.Laws.Slices
import Derived.WalkKit
import Derived.KernelRfl
import Derived.RowKit3
import Derived.Deep.LoopGhost
import Derived.Deep.QuietTactic
import Derived.BigQuiet
import Derived.WideLaws
import Derived.Deep.DeepCutAuto
import Derived.Deep.CutBlock
import Derived.Deep.RegionHeld3
import Derived.Laws.Rows
import Derived.Lib.AppendStr
import Derived.ArgAppend
import Derived.Laws.IdiomCopy
import Derived.OrdersHeld
import Derived.Laws.BitsLemmas
import Derived.RowKit
import Derived.Test.YtbklhoeoamkboaaDoorGRep
import Derived.Test.YtbklhoeoamkboaaDoorShelf
import Derived.Test.YtbklhoeoamkboaaDoorNumG
import Derived.Test.YtbklhoeoamkboaaDoorWWords
import Derived.Test.YtbklhoeoamkboaaDoorWLast
import Derived.Test.YtbklhoeoamkboaaDoorWTab
import Derived.Test.YtbklhoeoamkboaaDoorWFour
import Derived.Test.YtbklhoeoamkboaaDoorWQPut
import Derived.Test.YtbklhoeoamkboaaDoorWApart
import Derived.Test.YtbklhoeoamkboaaDoorWArr
import Derived.Test.YtbklhoeoamkboaaDoorWZeros
import Derived.Test.YtbklhoeoamkboaaDoorWFoot
import Derived.Test.YtbklhoeoamkboaaDoorWKept
import Derived.Test.YtbklhoeoamkboaaDoorWShare
import Derived.Test.YtbklhoeoamkboaaDoorWN
import Derived.Test.YtbklhoeoamkboaaDoorWFootNe
import Derived.Test.YtbklhoeoamkboaaDoorWAt
import Derived.Test.YtbklhoeoamkboaaDoorWEqStruct
import Derived.Test.YtbklhoeoamkboaaDoorWRepsOne
import Derived.Test.YtbklhoeoamkboaaDoorWInv
import Derived.Test.YtbklhoeoamkboaaDoorWInvWords
import Derived.Test.YtbklhoeoamkboaaDoorWGuard
import Derived.Test.YtbklhoeoamkboaaDoorWNEv
import Derived.Test.YtbklhoeoamkboaaDoorWMore
namespace Go.Proofs.YtbklhoeoamkboaaDoor.PG
open Go.RowKit Go.Proofs.YtbklhoeoamkboaaDoorW.PrintWords Go.Proofs.YtbklhoeoamkboaaDoorW.PrintLast Go.Proofs.YtbklhoeoamkboaaDoorW.PrintMore
attribute [local go_sem] max2_int min2_int max_two min_two max_three min_three max_four min_four   -- for this text's walks alone
set_option linter.unusedVariables false
set_option linter.unusedSimpArgs false



def errW : Option Int → Value
  | none => .nilIface
  | some c => .iface 0 (.int .i64 c)
theorem errW_none : errW none = .nilIface := rfl
theorem errW_some (c : Int) : errW (some c) = .iface 0 (.int .i64 c) := rfl

theorem info3 : (Tryd.prog.info? 3).map (fun i => (i.zero, i.size, i.bytes)) = some (some (.int .i64 0), 1, 8) := by kernel_rfl
theorem info5 : (Tryd.prog.info? 5).map (fun i => (i.zero, i.size, i.bytes)) = some (some (.int .u8 0), 1, 1) := by kernel_rfl
-- the values' own types

end Go.Proofs.YtbklhoeoamkboaaDoor.PG
