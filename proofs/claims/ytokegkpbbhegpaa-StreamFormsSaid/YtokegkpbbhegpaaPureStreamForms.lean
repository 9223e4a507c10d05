/- The law, walked by hand: nothing is left to show. -/
import Derived.Test.YtokegkpbbhegpaaPRFx1
namespace Go.Proofs.Ytokegkpbbhegpaa.Pure
theorem StreamForms : Go.Proofs.Ytokegkpbbhegpaa.PRF.descantlaw23_StreamForms.Pure := trivial
end Go.Proofs.Ytokegkpbbhegpaa.Pure
