/- The functions that the laws use, as Lean functions, and the contracts: printed by a program of this session out of the translation; Lean checks them. -/
import Derived.Test.YtokegkpbbhegpaaPRLx0
namespace Go.Proofs.Ytokegkpbbhegpaa.PRL
open Go.RowKit Go.Proofs.YtokegkpbbhegpaaW.PrintWords Go.Proofs.YtokegkpbbhegpaaW.PrintLast Go.Proofs.YtokegkpbbhegpaaW.PrintMore
attribute [local go_sem] max2_int min2_int max_two min_two max_three min_three max_four min_four   -- for this text's walks alone
set_option linter.unusedVariables false
set_option linter.unusedSimpArgs false

/-! ### descantlaw23_StreamLoose: function 6 -/
def descantlaw23_StreamLoose.Pure : Prop := True
theorem descantlaw23_StreamLoose.walk (P : descantlaw23_StreamLoose.Pure) (a0 : ByteArray) (a1 : ByteArray) (w : World) (w0 : a0.size ≤ 140737488351232) (w1 : a1.size ≤ 140737488351232) :
    Calls Try.prog 6 #[.string a0, .string a1] w fun e w' => e = .returned (.bool true) ∧ Below w.heap.size w w' := PS.loose_walk a0 a1 w


end Go.Proofs.Ytokegkpbbhegpaa.PRL
