/- Mine. Plain words on lists: the first place at which a test holds. -/
import Derived.Test.YtgmflbgeaiplhaaWMore
namespace Go.Proofs.YtgmflbgeaiplhaaW.PrintIdx







end Go.Proofs.YtgmflbgeaiplhaaW.PrintIdx

