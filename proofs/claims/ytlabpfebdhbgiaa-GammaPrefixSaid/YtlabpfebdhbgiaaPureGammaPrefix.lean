/- GammaPrefix: no number's bits begin with another's; for every two numbers: the walk has shown it. -/
import Derived.Test.YtlabpfebdhbgiaaPGx
namespace Go.Proofs.Ytlabpfebdhbgiaa.Pure
open Go.RowKit Go.Proofs.Ytlabpfebdhbgiaa.PG
theorem GammaPrefix : descantlaw11_GammaPrefix.Pure := trivial
end Go.Proofs.Ytlabpfebdhbgiaa.Pure
