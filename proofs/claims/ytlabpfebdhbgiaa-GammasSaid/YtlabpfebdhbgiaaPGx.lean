/- The functions that the laws use, as Lean functions, and the contracts: printed by a program of this session out of the translation; Lean checks them. -/
import Derived.Test.YtlabpfebdhbgiaaPGx0
import Derived.Test.YtlabpfebdhbgiaaPGx1
import Derived.Test.YtlabpfebdhbgiaaPGx2
import Derived.Test.YtlabpfebdhbgiaaPGx3
import Derived.Test.YtlabpfebdhbgiaaPGx4
import Derived.Test.YtlabpfebdhbgiaaPGx5
namespace Go.Proofs.Ytlabpfebdhbgiaa.PG
open Go.RowKit Go.Proofs.YtlabpfebdhbgiaaW.PrintWords Go.Proofs.YtlabpfebdhbgiaaW.PrintLast Go.Proofs.YtlabpfebdhbgiaaW.PrintMore
attribute [local go_sem] max2_int min2_int max_two min_two max_three min_three max_four min_four   -- for this text's walks alone
set_option linter.unusedVariables false
set_option linter.unusedSimpArgs false

end Go.Proofs.Ytlabpfebdhbgiaa.PG
