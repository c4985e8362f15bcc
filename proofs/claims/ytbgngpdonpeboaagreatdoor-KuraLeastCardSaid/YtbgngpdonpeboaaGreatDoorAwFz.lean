/- A map of rows, each behind a box of its own: the rows as values. No program is named here. -/
import Derived.Test.YtbgngpdonpeboaaGreatDoorAwSet
set_option linter.unusedVariables false
set_option linter.unusedSimpArgs false
namespace Go.Proofs.YtbgngpdonpeboaaGreatDoor
namespace Aw
open Go Go.RowKit
theorem Inv.setMap{w:World}{g:G}{st:St}(h:Inv w g st){m:Nat}{ag:Bool}{ks:List IntKind}{es es':List (List Int×LV)}(hm:st.H m=.map ag ks es)(h':xY w g m ag ks es'):Inv w g (st.set m (.map ag ks es')):=by
 have M6:=h.map_lt hm;have L0:=h.next;have hb:∀ x,blk g (st.set m (.map ag ks es')) x↔blk g st x:=by
  intro x;unfold blk;rw[bU];by_cases hx:x=m
  .grind
  .grind
 refine⟨h.next,h.pos,fun l hl=>?_,fun x hx=>h.lt x ((hb x).1 hx),fun x y hx hy=>h.inj x y ((hb x).1 hx) ((hb y).1 hy),fun x e s n hx=>?_,fun x e s cs hx=>?_,fun x ag' R6 es'' hx=>?_,fun x e n hx=>?_,h.aside.keep (Ext.refl w g) (jI rfl)⟩
 .rw[bT]at hl;rw[bU,aAa oO];exact h.fresh l hl
 .rw[bU]at hx;by_cases e0:x=m
  .grind
  .rw[aAa e0]at hx;exact h.own x e s n hx
 .rw[bU]at hx;by_cases e0:x=m
  .grind
  .rw[aAa e0]at hx;exact h.box x e s cs hx
 .rw[bU]at hx;by_cases e0:x=m
  .grind
  .rw[aAa e0]at hx;exact h.mp x ag' R6 es'' hx
 .rw[bU]at hx;by_cases e0:x=m
  .grind
  .rw[aAa e0]at hx;exact h.qu x e n hx
theorem OT{w:World}{g:G}{st:St}(hi:Inv w g st){m l n e:Nat}{ag:Bool}{ks:List IntKind}{pre post:List (List Int×LV)}{k:List Int}{cs:List LV}(hm:st.H m=.map ag ks (pre++(k,.ms l 0 n)::post))(hl:st.H l=.box e 1 cs)(hn:n=cs.length):
 ∃ g',Inv w g' ((st.set l .dead).set m (.map ag ks (pre++(k,.sl 0 n cs)::post)))/\Ext w g w g':=by
 obtain⟨r8,hlen,cV,clock,h3,h4,h5,h6,h7⟩:=hi.mp m ag ks _ hm;rw[aAu,aAl]at h5;obtain⟨v,hv,F⟩:=nM (pre.map (·.2)) _ h5
 obtain⟨g',k1,k2,k3⟩:=gZ (fr:=upd (fun _=>.dead) 0 (.ms l 0 n)) 0 rfl hl oO { tmps:=#[v],defers:=[] } w g hi (by
  intro j;unfold upd;by_cases hj:j=0
  .simp_all
  grind [Rep])
 have Zo:¬m=l:=fun h=>by grind
 have hm':(st.set l .dead).H m=.map ag ks (pre++(k,.ms l 0 n)::post):=by rw[bU,aAa Zo];exact hm
 obtain⟨_,_,_,_,_,_,_,j6,_⟩:=k1.mp m ag ks _ hm';have M6:=hi.map_lt hm;have hv':Rep w g' (.sl 0 n cs) v:=by have:=k2 0;simpa[upd,hn]using this
 refine⟨g',k1.setMap hm' ⟨oO,?_,cV,clock,by rw[k3.β m M6];omega,by grind,?_,j6,h7⟩,k3⟩
 .intro p hp;rcases aAd.1 hp with hp|hp
  .grind
  .rcases aAe.1 hp with rfl|hp
   .exact hlen (k,.ms l 0 n) sS
   grind
 grind
abbrev Sy:=List Int×Nat×List LV
def Gi(L:List Sy):List (List Int×LV):=L.map fun p=>(p.1,.ms p.2.1 0 p.2.2.length)
def Ic(L:List Sy):List (List Int×LV):=L.map fun p=>(p.1,.sl 0 p.2.2.length p.2.2)
theorem CA{w:World}{m e:Nat}{ag:Bool}{ks:List IntKind}:∀(L:List Sy) (pre:List (List Int×LV)) (g:G) (st:St),Inv w g st->st.H m=.map ag ks (pre++Gi L)->(∀ p∈L,st.H p.2.1=.box e 1 p.2.2)->(L.map fun p=>p.2.1).Nodup->
 ∃ g' st',Inv w g' st'/\Ext w g w g'/\st'.next=st.next/\st'.H m=.map ag ks (pre++Ic L)/\∀ l,l≠m->(∀ p∈L,l≠p.2.1)->st'.H l=st.H l
 |[],pre,g,st,hi,hm,_,_=>⟨g,st,hi,Ext.refl w g,rfl,hm,fun _ _ _=>rfl⟩
 |p::L,pre,g,st,hi,hm,hL,hnd=>by
  obtain⟨k,l,cs⟩:=p;have hl:=hL (k,l,cs) sS;simp only[aAl,aAp]at hnd;obtain⟨g1,h1,h2⟩:=OT hi (pre:=pre) (k:=k) (n:=cs.length) (post:=Gi L) hm hl rfl;have Zo:∀ p∈L,¬p.2.1=l:=fun p hp h=>hnd.1 (aAi.2 ⟨p,hp,h⟩);have hnm:∀ p∈L,¬p.2.1=m:=fun p hp h=>by grind
  obtain⟨g2,st2,k1,k2,k3,k4,k5⟩:=CA (ag:=ag) (ks:=ks) (m:=m) (e:=e) L (pre++[(k,.sl 0 cs.length cs)]) g1 _ h1 (by simp_all) (fun p hp=>by grind [bU]) hnd.2;refine⟨g2,st2,k1,h2.trans k2,k3,by grind [Ic],fun l' K3 hp=>?_⟩;rw[k5 l' K3 (fun p h=>hp p (by grind)),bU,aAa K3,bU,aAa (hp (k,l,cs) sS)]
theorem CX{P:Program}{f:FuncId}{args:List LV}{st:St}{e:Nat}{ag:Bool}{ks:List IntKind}{R:List Sy->Prop}
 (h:aB P f args st fun r st'=>∃ m L,r=.mp m/\st.next<=m/\m<st'.next/\aA st st'/\st'.H m=.map ag ks (Gi L)/\(∀ p∈L,st.next<=p.2.1/\st'.H p.2.1=.box e 1 p.2.2)/\(L.map fun p=>p.2.1).Nodup/\R L):
 aB P f args st fun r st'=>∃ m L,r=.mp m/\st.next<=m/\m<st'.next/\aA st st'/\st'.H m=.map ag ks (Ic L)/\R L:=by
 refine⟨h.1,fun w g vs hi hr=>(h.2 w g vs hi hr).mono ?_⟩;rintro x w' ⟨v,r,st',g',rfl,⟨m,L,rfl,h1,h2,h3,h4,h5,h6,h7⟩,G9,I4,he⟩;obtain⟨g2,st2,k1,k2,k3,k4,k5⟩:=CA L [] g' st' I4 h4 (fun p hp=>(h5 p hp).2) h6;exact⟨v,.mp m,st2,g2,rfl,⟨m,L,rfl,h1,oO,⟨oO,fun l hl=>by rw[k5 l oO (fun p hp=>by grind)];exact h3.H l hl⟩,k4,h7⟩,Rep.mono k2 _ _ G9,k1,he.trans k2⟩
end Aw
end Go.Proofs.YtbgngpdonpeboaaGreatDoor
