/- Mine. A row of one's own (Kd.R) whose elements' cells are a function of the element: its cells are the elements' cells, one behind the other. -/
import Derived.Test.YtcnkmajengephaaWMore
namespace Go.Proofs.YtcnkmajengephaaW.PrintFlat
open Go Go.Proofs Go.RowKit Go.Lib Go.Proofs.YtcnkmajengephaaW.PrintWords
variable {α : Type}








end Go.Proofs.YtcnkmajengephaaW.PrintFlat

