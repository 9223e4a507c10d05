/- Gammas: any number, bits: every call; for every number and every list of numbers: the walk has shown it. -/
import Derived.Test.YtlabpfebdhbgiaaPGx
namespace Go.Proofs.Ytlabpfebdhbgiaa.Pure
open Go.RowKit Go.Proofs.Ytlabpfebdhbgiaa.PG Go.Proofs.Ytlabpfebdhbgiaa.L
theorem Gammas : descantlaw11_Gammas.Pure := trivial
end Go.Proofs.Ytlabpfebdhbgiaa.Pure
