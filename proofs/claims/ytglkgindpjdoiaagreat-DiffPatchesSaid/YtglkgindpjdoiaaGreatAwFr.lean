/- Rows within a value, a call's argument or its answer, that are written no more. No program is named here. -/
import Derived.Test.YtglkgindpjdoiaaGreatAwLd
namespace Go.Proofs.YtglkgindpjdoiaaGreat.Aw
open Go Go.RowKit
set_option linter.unusedSimpArgs false
set_option linter.unusedVariables false
def Frz (st st':St) (x y:LV):Prop:=∀ (w:World) (g:G) (v:Value),Inv w g st→Rep w g x v→∃ g',Inv w g' st'∧Rep w g' y v∧Ext w g w g'
def FrzL (st st':St) (xs ys:List LV):Prop:=∀ (w:World) (g:G) (vs:List Value),Inv w g st→RepL w g xs vs→∃ g',Inv w g' st'∧RepL w g' ys vs∧Ext w g w g'
theorem frz_same (st:St) (x:LV):Frz st st x x:=fun w g _ hi hr=>⟨g,hi,hr,Ext.refl w g⟩
theorem frzL_same (st:St) (xs:List LV):FrzL st st xs xs:=fun w g _ hi hr=>⟨g,hi,hr,Ext.refl w g⟩
theorem frzL_cons {st st1 st2:St} {x y:LV} {xs ys:List LV} (h:Frz st st1 x y) (k:FrzL st1 st2 xs ys):FrzL st st2 (x::xs) (y::ys):=fun w g vs hi hr=>by
 simp only [RepL] at hr ⊢
 obtain ⟨v,vs',rfl,h1,h2⟩:=hr
 obtain ⟨g1,i1,r1,e1⟩:=h w g v hi h1
 obtain ⟨g2,i2,r2,e2⟩:=k w g1 vs' i1 (RepL.mono e1 _ _ h2)
 exact ⟨g2,i2,⟨v,vs',rfl,Rep.mono e2 _ _ r1,r2⟩,e1.trans e2⟩
theorem frz_ag {st st':St} {xs ys:List LV} (h:FrzL st st' xs ys):Frz st st' (.ag xs) (.ag ys):=fun w g v hi hr=>by
 simp only [Rep] at hr ⊢
 obtain ⟨vs,rfl,h1⟩:=hr
 obtain ⟨g',k1,k2,k3⟩:=h w g vs hi h1
 exact ⟨g',k1,⟨vs,rfl,k2⟩,k3⟩
theorem frz_tu {st st':St} {xs ys:List LV} (h:FrzL st st' xs ys):Frz st st' (.tu xs) (.tu ys):=fun w g v hi hr=>by
 simp only [Rep] at hr ⊢
 obtain ⟨vs,rfl,h1⟩:=hr
 obtain ⟨g',k1,k2,k3⟩:=h w g vs hi h1
 exact ⟨g',k1,⟨vs,rfl,k2⟩,k3⟩
theorem frz_ms {st:St} {l n e s:Nat} {cs:List LV} (hl:st.H l=.box e s cs) (hn:n * s≤cs.length):Frz st (st.set l .dead) (.ms l 0 n) (.sl 0 n (cs.take (n * s))):=fun w g v hi hr=>by
 obtain ⟨g',k1,k2,k3⟩:=ghost_freeze (fr:=upd (fun _=>.dead) 0 (.ms l 0 n)) 0 rfl hl hn { tmps:=#[v],defers:=[] } w g hi (by
  intro j
  unfold upd
  by_cases hj:j=0
  ·subst hj;rw [if_pos rfl];exact hr
  ·rw [if_neg hj];simp only [Rep])
 exact ⟨g',k1,k2 0,k3⟩
theorem frz_row {st:St} {l n e s:Nat} {cs:List LV} (hl:st.H l=.box e s cs) (hn:cs.length=n * s):Frz st (st.set l .dead) (.ms l 0 n) (.sl 0 n cs):=by
 have:=frz_ms hl (Nat.le_of_eq hn.symm)
 rwa [List.take_of_length_le (Nat.le_of_eq hn)] at this
theorem frz_tok (st:St) (t n:Nat) (cs:List LV):Frz st st (.sl t n cs) (.sl 0 n cs):=fun w g v hi hr=>by
 refine ⟨g,hi,?_,Ext.refl w g⟩
 simp only [Rep] at hr ⊢
 obtain ⟨A,cap,h1,h2,h3,_,h5⟩:=hr
 exact ⟨A,cap,h1,h2,h3,fun h=>absurd rfl h,h5⟩
variable {P:Program}
theorem acalls_frzA {f:FuncId} {args args':List LV} {st st':St} {Q:LV→St→Prop} (hf:FrzL st st' args args') (h:ACalls P f args' st' Q):ACalls P f args st Q:=by
 refine ⟨h.1,fun w g vs hi hr=>?_⟩
 obtain ⟨g1,k1,k2,k3⟩:=hf w g vs hi hr
 refine (h.2 w g1 vs k1 k2).mono ?_
 rintro x w' ⟨v,r,s',g2,rfl,hq,hrep,hi',he⟩
 exact ⟨v,r,s',g2,rfl,hq,hrep,hi',k3.trans he⟩
theorem acalls_frzR {f:FuncId} {args:List LV} {st:St} {Q:LV→St→Prop} (h:ACalls P f args st fun r s=>∃ y s',Frz s s' r y∧Q y s'):ACalls P f args st Q:=by
 refine ⟨h.1,fun w g vs hi hr=>(h.2 w g vs hi hr).mono ?_⟩
 rintro x w' ⟨v,r,s,g',rfl,⟨y,s',hf,hq⟩,hrep,hi',he⟩
 obtain ⟨g2,k1,k2,k3⟩:=hf w' g' v hi' hrep
 exact ⟨v,y,s',g2,rfl,hq,k2,k1,he.trans k3⟩
end Go.Proofs.YtglkgindpjdoiaaGreat.Aw
