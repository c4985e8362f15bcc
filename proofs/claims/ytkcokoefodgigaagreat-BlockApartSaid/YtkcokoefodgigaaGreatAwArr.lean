/- An array of two ints as a map's key: what gentab's row wants of it. -/
import Derived.Test.YtkcokoefodgigaaGreatAwMap
namespace Go.Proofs.YtkcokoefodgigaaGreat.Aw
open Go Go.RowKit
set_option linter.unusedSimpArgs false
set_option linter.unusedVariables false
end Go.Proofs.YtkcokoefodgigaaGreat.Aw
