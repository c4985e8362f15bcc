/- Lemmas. -/
import Derived.Test.YtbgngpdonpeboaaGreatDoorAwMap
set_option linter.defProp false
namespace Go.Proofs.YtbgngpdonpeboaaGreatDoor
namespace Aw
open Go Go.RowKit
def Qv{P:Program}{t q:Nat}{k:IntKind}(ht:P.underlying t=some (.array 2 q))(hq:P.underlying q=some (.int k))(ha:∀ w,(isAgg q).run P w=.ok false w)(hz:∀ w,(sizeOf q).run P w=.ok 1 w)
 (hp:P.stoodInHeld t=false) (hg:P.eqGuardType P.depth t=false):Da P t true [k,k]:=by
 refine⟨fun w as1 bs1 h1 h2=>?_,fun w em as1 h1=>?_,fun _=>hg,(fun h=>by cases h),_,ht,.inr fun as1 bs1 h1 h2=>by simp[cg,Instr.sameNow]⟩
 .match as1,bs1,h1,h2 with
  |[x0,x1],[y0,y1],_,_=>
   have he:∀(w:World) (a b:Int),(Op.equalIn 9999 q (.int k a) (.int k b)).run P w=.ok (a==b) w:=fun w a b=>by have:=run_equalIn_int (P:=P) w 9998 q k k a b hq;simpa using this
   simp only[cg,fp,ef];unfold Op.equal Op.maxDepth;rw[show(10000:Nat)=9999+1 from rfl];unfold Op.equalIn;simp only[Sem.run_bind,run_underlying ht,Result.andThen_ok];simp[List.range',hz];unfold part;simp[ha,he];by_cases e0:x0=y0<;>by_cases e1:x1=y1<;>simp[e0,e1]
 .match as1,h1 with
  |[x0,x1],_=>
   simp only[cg,fp,ef];unfold Instr.checkKey;simp only[Sem.run_bind,run_underlying ht,Result.andThen_ok];simp[List.range',uX hq];simp[hz]
   go_simp
   simp[ha,uX hq]
end Aw
end Go.Proofs.YtbgngpdonpeboaaGreatDoor
