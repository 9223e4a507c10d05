/- The law, walked by hand: nothing is left to show. -/
import Derived.Test.YtokegkpbbhegpaaPRTx1
namespace Go.Proofs.Ytokegkpbbhegpaa.Pure
theorem StreamTexts : Go.Proofs.Ytokegkpbbhegpaa.PRT.descantlaw23_StreamTexts.Pure := trivial
end Go.Proofs.Ytokegkpbbhegpaa.Pure
