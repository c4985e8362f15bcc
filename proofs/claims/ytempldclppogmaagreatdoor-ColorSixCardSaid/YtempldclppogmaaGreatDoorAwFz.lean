/- A map of rows, each behind a box of its own: the rows as values. No program is named here. -/
import Derived.Test.YtempldclppogmaaGreatDoorAwSet
set_option linter.unusedVariables false
set_option linter.unusedSimpArgs false
namespace Go.Proofs.YtempldclppogmaaGreatDoor
namespace Aw
open Go Go.RowKit
theorem Inv.setMap{w:World}{g:G}{st:St}(h:Inv w g st){m:Nat}{ag:Bool}{ks:List IntKind}{es es':List (List Int×LV)}(hm:st.H m=.map ag ks es)(h':yB w g m ag ks es'):Inv w g (st.set m (.map ag ks es')):=by
 have Yw:=h.map_lt hm;have YN:=h.next;have hb:∀ x,blk g (st.set m (.map ag ks es')) x↔blk g st x:=by
  intro x;unfold blk;rw[bF];by_cases hx:x=m
  .subst hx;simp[hm]
  .rw[aAa hx]
 refine⟨h.next,h.pos,fun l hl=>?_,fun x hx=>h.lt x ((hb x).1 hx),fun x y hx hy=>h.inj x y ((hb x).1 hx) ((hb y).1 hy),fun x e s n hx=>?_,fun x e s cs hx=>?_,fun x P6 Zy es'' hx=>?_,fun x e n hx=>?_,h.aside.keep (Ext.refl w g) (iW rfl)⟩
 .rw[bS]at hl;rw[bF,aAa oO];exact h.fresh l hl
 .rw[bF]at hx;by_cases e0:x=m
  .rw[aAe e0]at hx;cases hx
  .rw[aAa e0]at hx;exact h.own x e s n hx
 .rw[bF]at hx;by_cases e0:x=m
  .rw[aAe e0]at hx;cases hx
  .rw[aAa e0]at hx;exact h.box x e s cs hx
 .rw[bF]at hx;by_cases e0:x=m
  .rw[aAe e0]at hx;injection hx with h1 h2 h3;subst h1 h2 h3 e0;exact h'
  .rw[aAa e0]at hx;exact h.mp x P6 Zy es'' hx
 .rw[bF]at hx;by_cases e0:x=m
  .rw[aAe e0]at hx;cases hx
  .rw[aAa e0]at hx;exact h.qu x e n hx
theorem Mu{w:World}{g:G}{st:St}(hi:Inv w g st){m l n e:Nat}{ag:Bool}{ks:List IntKind}{pre post:List (List Int×LV)}{k:List Int}{cs:List LV}(hm:st.H m=.map ag ks (pre++(k,.ms l 0 n)::post))(hl:st.H l=.box e 1 cs)(hn:n=cs.length):
 ∃ g',Inv w g' ((st.set l .dead).set m (.map ag ks (pre++(k,.sl 0 n cs)::post)))/\Ext w g w g':=by
 obtain⟨Xi,hlen,dX,clock,h3,h4,h5,h6,h7⟩:=hi.mp m ag ks _ hm;rw[aAu,aAi]at h5;obtain⟨v,hv,F⟩:=mR (pre.map (·.2)) _ h5
 obtain⟨g',k1,k2,k3⟩:=gJ (fr:=upd (fun _=>.dead) 0 (.ms l 0 n)) 0 rfl hl oO { tmps:=#[v],defers:=[] } w g hi (by
  intro j;unfold upd;by_cases hj:j=0
  .subst hj;rw[aAe rfl];exact hv
  .rw[aAa hj];simp only[Rep])
 have Wu:¬m=l:=fun h=>by rw[h,hl]at hm;cases hm
 have hm':(st.set l .dead).H m=.map ag ks (pre++(k,.ms l 0 n)::post):=by rw[bF,aAa Wu];exact hm
 obtain⟨_,_,_,_,_,_,_,j6,_⟩:=k1.mp m ag ks _ hm';have Yw:=hi.map_lt hm;have Q7:Rep w g' (.sl 0 n cs) v:=by have:=k2 0;simpa[upd,hn]using this
 refine⟨g',k1.setMap hm' ⟨by rw[k3.nl m Yw];exact Xi,?_,dX,clock,by rw[k3.β m Yw];exact h3,by simpa using h4,?_,j6,h7⟩,k3⟩
 .intro p hp;rcases aAg.1 hp with hp|hp
  .exact hlen p (by simp[hp])
  .rcases aAf.1 hp with rfl|hp
   .exact hlen (k,.ms l 0 n) sS
   .exact hlen p (by simp[hp])
 .rw[aAu,aAi];exact F g' _ k3 Q7
abbrev Qd:=List Int×Nat×List LV
def GX(L:List Qd):List (List Int×LV):=L.map fun p=>(p.1,.ms p.2.1 0 p.2.2.length)
def FP(L:List Qd):List (List Int×LV):=L.map fun p=>(p.1,.sl 0 p.2.2.length p.2.2)
theorem Ac{w:World}{m e:Nat}{ag:Bool}{ks:List IntKind}:∀(L:List Qd) (pre:List (List Int×LV)) (g:G) (st:St),Inv w g st->st.H m=.map ag ks (pre++GX L)->(∀ p∈L,st.H p.2.1=.box e 1 p.2.2)->(L.map fun p=>p.2.1).Nodup->
 ∃ g' st',Inv w g' st'/\Ext w g w g'/\st'.next=st.next/\st'.H m=.map ag ks (pre++FP L)/\∀ l,l≠m->(∀ p∈L,l≠p.2.1)->st'.H l=st.H l
 |[],pre,g,st,hi,hm,_,_=>⟨g,st,hi,Ext.refl w g,rfl,hm,fun _ _ _=>rfl⟩
 |p::L,pre,g,st,hi,hm,hL,hnd=>by
  obtain⟨k,l,cs⟩:=p;have hl:=hL (k,l,cs) sS;simp only[aAi,aAy]at hnd;obtain⟨g1,h1,h2⟩:=Mu hi (pre:=pre) (k:=k) (n:=cs.length) (post:=GX L) hm hl rfl;have Wu:∀ p∈L,¬p.2.1=l:=fun p hp h=>hnd.1 (aAm.2 ⟨p,hp,h⟩);have I6:∀ p∈L,¬p.2.1=m:=fun p hp h=>by have:=hL p (by simp[hp]);rw[h,hm]at this;cases this
  obtain⟨g2,st2,k1,k2,k3,k4,k5⟩:=Ac (ag:=ag) (ks:=ks) (m:=m) (e:=e) L (pre++[(k,.sl 0 cs.length cs)]) g1 _ h1 (by rw[bF,aAe rfl];simp) (fun p hp=>by rw[bF,aAa (I6 p hp),bF,aAa (Wu p hp)];exact hL p (by simp[hp])) hnd.2;refine⟨g2,st2,k1,h2.trans k2,k3,by rw[k4];simp[FP],fun l' Yn hp=>?_⟩;rw[k5 l' Yn (fun p h=>hp p (by simp[h])),bF,aAa Yn,bF,aAa (hp (k,l,cs) sS)]
theorem BX{P:Program}{f:FuncId}{args:List LV}{st:St}{e:Nat}{ag:Bool}{ks:List IntKind}{R:List Qd->Prop}
 (h:aB P f args st fun r st'=>∃ m L,r=.mp m/\st.next<=m/\m<st'.next/\aA st st'/\st'.H m=.map ag ks (GX L)/\(∀ p∈L,st.next<=p.2.1/\st'.H p.2.1=.box e 1 p.2.2)/\(L.map fun p=>p.2.1).Nodup/\R L):
 aB P f args st fun r st'=>∃ m L,r=.mp m/\st.next<=m/\m<st'.next/\aA st st'/\st'.H m=.map ag ks (FP L)/\R L:=by
 refine⟨h.1,fun w g vs hi hr=>(h.2 w g vs hi hr).mono ?_⟩;rintro x w' ⟨v,r,st',g',rfl,⟨m,L,rfl,h1,h2,h3,h4,h5,h6,h7⟩,YF,Yq,he⟩;obtain⟨g2,st2,k1,k2,k3,k4,k5⟩:=Ac L [] g' st' Yq h4 (fun p hp=>(h5 p hp).2) h6;exact⟨v,.mp m,st2,g2,rfl,⟨m,L,rfl,h1,oO,⟨by have:=h3.next;omega,fun l hl=>by rw[k5 l oO (fun p hp=>by have:=(h5 p hp).1;omega)];exact h3.H l hl⟩,k4,h7⟩,Rep.mono k2 _ _ YF,k1,he.trans k2⟩
end Aw
end Go.Proofs.YtempldclppogmaaGreatDoor
