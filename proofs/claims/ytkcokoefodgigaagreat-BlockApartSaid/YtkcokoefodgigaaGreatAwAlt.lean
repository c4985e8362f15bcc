/- Regions in which several operations that write may come first. -/
import Derived.Test.YtkcokoefodgigaaGreatAwSet
namespace Go.Proofs.YtkcokoefodgigaaGreat.Aw
open Go Go.RowKit
set_option linter.unusedSimpArgs false
set_option linter.unusedVariables false
section
variable {P:Program} {T:Tab} {N:Nat} {ops:Array Oper} {M B:List Nat} {st0:St} {J:Frm→St→Prop}
end
section
variable {N:Nat} {Q:AQ} {fr:Frm} {st:St} {id:Nat}
end
end Go.Proofs.YtkcokoefodgigaaGreat.Aw
