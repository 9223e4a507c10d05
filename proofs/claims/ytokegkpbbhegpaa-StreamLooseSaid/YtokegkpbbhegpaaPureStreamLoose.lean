/- The law, walked by hand: nothing is left to show. -/
import Derived.Test.YtokegkpbbhegpaaPRLx1
namespace Go.Proofs.Ytokegkpbbhegpaa.Pure
theorem StreamLoose : Go.Proofs.Ytokegkpbbhegpaa.PRL.descantlaw23_StreamLoose.Pure := trivial
end Go.Proofs.Ytokegkpbbhegpaa.Pure
