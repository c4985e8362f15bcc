/- Rows within a value, a call's argument or its answer, that are written no more. No program is named here. -/
import Derived.Test.YtkcokoefodgigaaGreatAwLd
namespace Go.Proofs.YtkcokoefodgigaaGreat.Aw
open Go Go.RowKit
set_option linter.unusedSimpArgs false
set_option linter.unusedVariables false
def Frz (st st':St) (x y:LV):Prop:=∀ (w:World) (g:G) (v:Value),Inv w g st→Rep w g x v→∃ g',Inv w g' st'∧Rep w g' y v∧Ext w g w g'
def FrzL (st st':St) (xs ys:List LV):Prop:=∀ (w:World) (g:G) (vs:List Value),Inv w g st→RepL w g xs vs→∃ g',Inv w g' st'∧RepL w g' ys vs∧Ext w g w g'
theorem frzL_same (st:St) (xs:List LV):FrzL st st xs xs:=fun w g _ hi hr=>⟨g,hi,hr,Ext.refl w g⟩
theorem frzL_cons {st st1 st2:St} {x y:LV} {xs ys:List LV} (h:Frz st st1 x y) (k:FrzL st1 st2 xs ys):FrzL st st2 (x::xs) (y::ys):=fun w g vs hi hr=>by
 simp only [RepL] at hr ⊢
 obtain ⟨v,vs',rfl,h1,h2⟩:=hr
 obtain ⟨g1,i1,r1,e1⟩:=h w g v hi h1
 obtain ⟨g2,i2,r2,e2⟩:=k w g1 vs' i1 (RepL.mono e1 _ _ h2)
 exact ⟨g2,i2,⟨v,vs',rfl,Rep.mono e2 _ _ r1,r2⟩,e1.trans e2⟩
theorem frz_ag {st st':St} {xs ys:List LV} (h:FrzL st st' xs ys):Frz st st' (.ag xs) (.ag ys):=fun w g v hi hr=>by
 simp only [Rep] at hr ⊢
 obtain ⟨vs,rfl,h1⟩:=hr
 obtain ⟨g',k1,k2,k3⟩:=h w g vs hi h1
 exact ⟨g',k1,⟨vs,rfl,k2⟩,k3⟩
theorem frz_tok (st:St) (t n:Nat) (cs:List LV):Frz st st (.sl t n cs) (.sl 0 n cs):=fun w g v hi hr=>by
 refine ⟨g,hi,?_,Ext.refl w g⟩
 simp only [Rep] at hr ⊢
 obtain ⟨A,cap,h1,h2,h3,_,h5⟩:=hr
 exact ⟨A,cap,h1,h2,h3,fun h=>absurd rfl h,h5⟩
variable {P:Program}
theorem acalls_frzR {f:FuncId} {args:List LV} {st:St} {Q:LV→St→Prop} (h:ACalls P f args st fun r s=>∃ y s',Frz s s' r y∧Q y s'):ACalls P f args st Q:=by
 refine ⟨h.1,fun w g vs hi hr=>(h.2 w g vs hi hr).mono ?_⟩
 rintro x w' ⟨v,r,s,g',rfl,⟨y,s',hf,hq⟩,hrep,hi',he⟩
 obtain ⟨g2,k1,k2,k3⟩:=hf w' g' v hi' hrep
 exact ⟨v,y,s',g2,rfl,hq,k2,k1,he.trans k3⟩
end Go.Proofs.YtkcokoefodgigaaGreat.Aw
