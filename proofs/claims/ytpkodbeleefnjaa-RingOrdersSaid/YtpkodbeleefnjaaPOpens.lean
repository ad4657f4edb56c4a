-- Printed by fprint.py (a program of this session's, over the kit's print), for this claim.
import Derived.Test.YtpkodbeleefnjaaPx0
import Derived.Test.YtpkodbeleefnjaaWOpen
import Derived.KernelRfl
namespace Go.Proofs.Ytpkodbeleefnjaa.P
open Go.RowKit Go.Proofs.YtpkodbeleefnjaaW.PrintWords Go.Proofs.YtpkodbeleefnjaaW.PrintOpen
end Go.Proofs.Ytpkodbeleefnjaa.P
