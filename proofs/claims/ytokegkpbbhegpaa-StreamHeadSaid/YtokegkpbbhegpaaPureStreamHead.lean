/- The law, walked by hand: nothing is left to show. -/
import Derived.Test.YtokegkpbbhegpaaPRHx1
namespace Go.Proofs.Ytokegkpbbhegpaa.Pure
theorem StreamHead : Go.Proofs.Ytokegkpbbhegpaa.PRH.descantlaw23_StreamHead.Pure := trivial
end Go.Proofs.Ytokegkpbbhegpaa.Pure
