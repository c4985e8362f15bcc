/- A map of rows, each behind a box of its own: the rows as values. No program is named here. -/
import Derived.Test.YtbgngpdonpeboaaGreatDoorAwSet
set_option linter.unusedVariables false
set_option linter.unusedSimpArgs false
namespace Go.Proofs.YtbgngpdonpeboaaGreatDoor
namespace Aw
open Go Go.RowKit
theorem Inv.setMap{w:World}{g:G}{st:St}(h:Inv w g st){m:Nat}{ag:Bool}{ks:List IntKind}{es es':List (List Int×LV)}(hm:st.H m=.map ag ks es)(h':yG w g m ag ks es'):Inv w g (st.set m (.map ag ks es')):=by
 have Q7:=h.map_lt hm;have M6:=h.next;have hb:∀ x,blk g (st.set m (.map ag ks es')) x↔blk g st x:=by
  intro x;unfold blk;rw[bQ];by_cases hx:x=m
  .grind
  .grind
 refine⟨h.next,h.pos,fun l hl=>?_,fun x hx=>h.lt x ((hb x).1 hx),fun x y hx hy=>h.inj x y ((hb x).1 hx) ((hb y).1 hy),fun x e s n hx=>?_,fun x e s cs hx=>?_,fun x ag' V5 es'' hx=>?_,fun x e n hx=>?_,h.aside.keep (Ext.refl w g) (jJ rfl)⟩
 .rw[bH]at hl;rw[bQ,aAa oO];exact h.fresh l hl
 .rw[bQ]at hx;by_cases e0:x=m
  .grind
  .rw[aAa e0]at hx;exact h.own x e s n hx
 .rw[bQ]at hx;by_cases e0:x=m
  .grind
  .rw[aAa e0]at hx;exact h.box x e s cs hx
 .rw[bQ]at hx;by_cases e0:x=m
  .grind
  .rw[aAa e0]at hx;exact h.mp x ag' V5 es'' hx
 .rw[bQ]at hx;by_cases e0:x=m
  .grind
  .rw[aAa e0]at hx;exact h.qu x e n hx
theorem OX{w:World}{g:G}{st:St}(hi:Inv w g st){m l n e:Nat}{ag:Bool}{ks:List IntKind}{pre post:List (List Int×LV)}{k:List Int}{cs:List LV}(hm:st.H m=.map ag ks (pre++(k,.ms l 0 n)::post))(hl:st.H l=.box e 1 cs)(hn:n=cs.length):
 ∃ g',Inv w g' ((st.set l .dead).set m (.map ag ks (pre++(k,.sl 0 n cs)::post)))/\Ext w g w g':=by
 obtain⟨r9,hlen,cO,clock,h3,h4,h5,h6,h7⟩:=hi.mp m ag ks _ hm;rw[aAv,aAm]at h5;obtain⟨v,hv,F⟩:=nD (pre.map (·.2)) _ h5
 obtain⟨g',k1,k2,k3⟩:=iK (fr:=upd (fun _=>.dead) 0 (.ms l 0 n)) 0 rfl hl oO { tmps:=#[v],defers:=[] } w g hi (by
  intro j;unfold upd;by_cases hj:j=0
  .simp_all
  grind [Rep])
 have c7:¬m=l:=fun h=>by grind
 have hm':(st.set l .dead).H m=.map ag ks (pre++(k,.ms l 0 n)::post):=by rw[bQ,aAa c7];exact hm
 obtain⟨_,_,_,_,_,_,_,j6,_⟩:=k1.mp m ag ks _ hm';have Q7:=hi.map_lt hm;have hv':Rep w g' (.sl 0 n cs) v:=by have:=k2 0;simpa[upd,hn]using this
 refine⟨g',k1.setMap hm' ⟨oO,?_,cO,clock,by rw[k3.β m Q7];omega,by grind,?_,j6,h7⟩,k3⟩
 .intro p hp;rcases aAd.1 hp with hp|hp
  .grind
  .rcases aAe.1 hp with rfl|hp
   .exact hlen (k,.ms l 0 n) sS
   grind
 grind
abbrev UJ:=List Int×Nat×List LV
def IW(L:List UJ):List (List Int×LV):=L.map fun p=>(p.1,.ms p.2.1 0 p.2.2.length)
def IY(L:List UJ):List (List Int×LV):=L.map fun p=>(p.1,.sl 0 p.2.2.length p.2.2)
theorem Cn{w:World}{m e:Nat}{ag:Bool}{ks:List IntKind}:∀(L:List UJ) (pre:List (List Int×LV)) (g:G) (st:St),Inv w g st->st.H m=.map ag ks (pre++IW L)->(∀ p∈L,st.H p.2.1=.box e 1 p.2.2)->(L.map fun p=>p.2.1).Nodup->
 ∃ g' st',Inv w g' st'/\Ext w g w g'/\st'.next=st.next/\st'.H m=.map ag ks (pre++IY L)/\∀ l,l≠m->(∀ p∈L,l≠p.2.1)->st'.H l=st.H l
 |[],pre,g,st,hi,hm,_,_=>⟨g,st,hi,Ext.refl w g,rfl,hm,fun _ _ _=>rfl⟩
 |p::L,pre,g,st,hi,hm,hL,hnd=>by
  obtain⟨k,l,cs⟩:=p;have hl:=hL (k,l,cs) sS;simp only[aAm,aAq]at hnd;obtain⟨g1,h1,h2⟩:=OX hi (pre:=pre) (k:=k) (n:=cs.length) (post:=IW L) hm hl rfl;have c7:∀ p∈L,¬p.2.1=l:=fun p hp h=>hnd.1 (aAi.2 ⟨p,hp,h⟩);have hnm:∀ p∈L,¬p.2.1=m:=fun p hp h=>by grind
  obtain⟨g2,st2,k1,k2,k3,k4,k5⟩:=Cn (ag:=ag) (ks:=ks) (m:=m) (e:=e) L (pre++[(k,.sl 0 cs.length cs)]) g1 _ h1 (by simp_all) (fun p hp=>by grind [bQ]) hnd.2;refine⟨g2,st2,k1,h2.trans k2,k3,by grind [IY],fun l' O5 hp=>?_⟩;rw[k5 l' O5 (fun p h=>hp p (by grind)),bQ,aAa O5,bQ,aAa (hp (k,l,cs) sS)]
theorem Cd{P:Program}{f:FuncId}{args:List LV}{st:St}{e:Nat}{ag:Bool}{ks:List IntKind}{R:List UJ->Prop}
 (h:aB P f args st fun r st'=>∃ m L,r=.mp m/\st.next<=m/\m<st'.next/\aA st st'/\st'.H m=.map ag ks (IW L)/\(∀ p∈L,st.next<=p.2.1/\st'.H p.2.1=.box e 1 p.2.2)/\(L.map fun p=>p.2.1).Nodup/\R L):
 aB P f args st fun r st'=>∃ m L,r=.mp m/\st.next<=m/\m<st'.next/\aA st st'/\st'.H m=.map ag ks (IY L)/\R L:=by
 refine⟨h.1,fun w g vs hi hr=>(h.2 w g vs hi hr).mono ?_⟩;rintro x w' ⟨v,r,st',g',rfl,⟨m,L,rfl,h1,h2,h3,h4,h5,h6,h7⟩,K9,M4,he⟩;obtain⟨g2,st2,k1,k2,k3,k4,k5⟩:=Cn L [] g' st' M4 h4 (fun p hp=>(h5 p hp).2) h6;exact⟨v,.mp m,st2,g2,rfl,⟨m,L,rfl,h1,oO,⟨oO,fun l hl=>by rw[k5 l oO (fun p hp=>by grind)];exact h3.H l hl⟩,k4,h7⟩,Rep.mono k2 _ _ K9,k1,he.trans k2⟩
end Aw
end Go.Proofs.YtbgngpdonpeboaaGreatDoor
