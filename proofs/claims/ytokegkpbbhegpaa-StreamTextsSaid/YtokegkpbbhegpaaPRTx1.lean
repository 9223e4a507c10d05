/- The functions that the laws use, as Lean functions, and the contracts: printed by a program of this session out of the translation; Lean checks them. -/
import Derived.Test.YtokegkpbbhegpaaPRTx0
namespace Go.Proofs.Ytokegkpbbhegpaa.PRT
open Go.RowKit Go.Proofs.YtokegkpbbhegpaaW.PrintWords Go.Proofs.YtokegkpbbhegpaaW.PrintLast Go.Proofs.YtokegkpbbhegpaaW.PrintMore
attribute [local go_sem] max2_int min2_int max_two min_two max_three min_three max_four min_four   -- for this text's walks alone
set_option linter.unusedVariables false
set_option linter.unusedSimpArgs false

/-! ### descantlaw23_StreamTexts: function 5 -/
def descantlaw23_StreamTexts.Pure : Prop := True
theorem descantlaw23_StreamTexts.walk (P : descantlaw23_StreamTexts.Pure) (a0 : Int) (a1 : Int) (a2 : Int) (w : World) (w0 : (Lit.int .i64 a0).wf = true) (w1 : (Lit.int .i64 a1).wf = true) (w2 : (Lit.int .i64 a2).wf = true) :
    Calls Try.prog 5 #[.int .i64 a0, .int .i64 a1, .int .i64 a2] w fun e w' => e = .returned (.bool true) ∧ Below w.heap.size w w' := PS.texts_walk a0 a1 a2 w


end Go.Proofs.Ytokegkpbbhegpaa.PRT
