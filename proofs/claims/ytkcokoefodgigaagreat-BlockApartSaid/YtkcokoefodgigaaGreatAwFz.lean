/- A map of rows, each behind a box of its own: the rows as values. No program is named here. -/
import Derived.Test.YtkcokoefodgigaaGreatAwSet
namespace Go.Proofs.YtkcokoefodgigaaGreat.Aw
open Go Go.RowKit
set_option linter.unusedSimpArgs false
set_option linter.unusedVariables false
end Go.Proofs.YtkcokoefodgigaaGreat.Aw
