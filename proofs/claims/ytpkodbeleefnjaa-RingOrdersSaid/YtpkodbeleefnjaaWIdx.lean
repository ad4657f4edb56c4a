/- Mine. Plain words on lists: the first place at which a test holds. -/
import Derived.Test.YtpkodbeleefnjaaWMore
namespace Go.Proofs.YtpkodbeleefnjaaW.PrintIdx







end Go.Proofs.YtpkodbeleefnjaaW.PrintIdx

