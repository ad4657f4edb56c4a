/- Mine. A row of one's own (Kd.R) whose elements' cells are a function of the element: its cells are the elements' cells, one behind the other. -/
import Derived.Test.YtfgalgeloflilaaWMore
namespace Go.Proofs.YtfgalgeloflilaaW.PrintFlat
open Go Go.Proofs Go.RowKit Go.Lib Go.Proofs.YtfgalgeloflilaaW.PrintWords
variable {α : Type}








end Go.Proofs.YtfgalgeloflilaaW.PrintFlat

