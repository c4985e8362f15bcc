/- A map of rows, each behind a box of its own: the rows as values. No program is named here. -/
import Derived.Test.YtempldclppogmaaGreatDoorAwSet
set_option linter.unusedVariables false
set_option linter.unusedSimpArgs false
namespace Go.Proofs.YtempldclppogmaaGreatDoor.Aw
open Go Go.RowKit
theorem Inv.setMap{w:World}{g:G}{st:St}(h:Inv w g st){m:Nat}{ag:Bool}{ks:List IntKind}{es es':List (List Int×LV)}(hm:st.H m=.map ag ks es)(h':tK w g m ag ks es'):Inv w g (st.set m (.map ag ks es')):=by
 have hml:=h.map_lt hm
 have hnx:=h.next
 have hb:∀ x,blk g (st.set m (.map ag ks es')) x↔blk g st x:=by
  intro x
  unfold blk
  rw[bH]
  by_cases hx:x=m
  ·subst hx;simp[hm]
  ·rw[if_neg hx]
 refine⟨h.next,h.pos,fun l hl=>?_,fun x hx=>h.lt x ((hb x).1 hx),fun x y hx hy=>h.inj x y ((hb x).1 hx) ((hb y).1 hy),fun x e s n hx=>?_,fun x e s cs hx=>?_,fun x ag' ks' es'' hx=>?_,fun x e n hx=>?_,h.aside.keep (Ext.refl w g) (gC rfl)⟩
 ·rw[aQ]at hl
  rw[bH,if_neg oO];exact h.fresh l hl
 ·rw[bH]at hx
  by_cases e0:x=m
  ·rw[if_pos e0]at hx;cases hx
  ·rw[if_neg e0]at hx;exact h.own x e s n hx
 ·rw[bH]at hx
  by_cases e0:x=m
  ·rw[if_pos e0]at hx;cases hx
  ·rw[if_neg e0]at hx;exact h.box x e s cs hx
 ·rw[bH]at hx
  by_cases e0:x=m
  ·rw[if_pos e0]at hx
   injection hx with h1 h2 h3
   subst h1 h2 h3 e0
   exact h'
  ·rw[if_neg e0]at hx;exact h.mp x ag' ks' es'' hx
 ·rw[bH]at hx
  by_cases e0:x=m
  ·rw[if_pos e0]at hx;cases hx
  ·rw[if_neg e0]at hx;exact h.qu x e n hx
theorem aHi{w:World}{g:G}{st:St}(hi:Inv w g st){m l n e:Nat}{ag:Bool}{ks:List IntKind}{pre post:List (List Int×LV)}{k:List Int}{cs:List LV}(hm:st.H m=.map ag ks (pre++(k,.ms l 0 n)::post))(hl:st.H l=.box e 1 cs)(hn:n=cs.length):
 ∃ g',Inv w g' ((st.set l .dead).set m (.map ag ks (pre++(k,.sl 0 n cs)::post)))∧Ext w g w g':=by
 obtain⟨hnl,hlen,ents,clock,h3,h4,h5,h6,h7⟩:=hi.mp m ag ks _ hm
 rw[List.map_append,List.map_cons]at h5
 obtain⟨v,hv,F⟩:=kA (pre.map (·.2)) _ h5
 obtain⟨g',k1,k2,k3⟩:=eZ (fr:=upd (fun _=>.dead) 0 (.ms l 0 n)) 0 rfl hl oO { tmps:=#[v],defers:=[] } w g hi (by
  intro j
  unfold upd
  by_cases hj:j=0
  ·subst hj;rw[if_pos rfl];exact hv
  ·rw[if_neg hj];simp only[Rep])
 have hne:¬m=l:=fun h=>by rw[h,hl]at hm;cases hm
 have hm':(st.set l .dead).H m=.map ag ks (pre++(k,.ms l 0 n)::post):=by rw[bH,if_neg hne];exact hm
 obtain⟨_,_,_,_,_,_,_,j6,_⟩:=k1.mp m ag ks _ hm'
 have hml:=hi.map_lt hm
 have hv':Rep w g' (.sl 0 n cs) v:=by
  have:=k2 0
  simpa[upd,hn]using this
 refine⟨g',k1.setMap hm' ⟨by rw[k3.nl m hml];exact hnl,?_,ents,clock,by rw[k3.β m hml];exact h3,by simpa using h4,?_,j6,h7⟩,k3⟩
 ·intro p hp
  rcases List.mem_append.1 hp with hp|hp
  ·exact hlen p (by simp[hp])
  ·rcases List.mem_cons.1 hp with rfl|hp
   ·exact hlen (k,.ms l 0 n) sS
   ·exact hlen p (by simp[hp])
 ·rw[List.map_append,List.map_cons]
  exact F g' _ k3 hv'
abbrev aMF:=List Int×Nat×List LV
def aDU(L:List aMF):List (List Int×LV):=L.map fun p=>(p.1,.ms p.2.1 0 p.2.2.length)
def aCD(L:List aMF):List (List Int×LV):=L.map fun p=>(p.1,.sl 0 p.2.2.length p.2.2)
theorem wS{w:World}{m e:Nat}{ag:Bool}{ks:List IntKind}:∀(L:List aMF) (pre:List (List Int×LV)) (g:G) (st:St),Inv w g st→st.H m=.map ag ks (pre++aDU L)→(∀ p∈L,st.H p.2.1=.box e 1 p.2.2)→(L.map fun p=>p.2.1).Nodup→
 ∃ g' st',Inv w g' st'∧Ext w g w g'∧st'.next=st.next∧st'.H m=.map ag ks (pre++aCD L)∧∀ l,l≠m→(∀ p∈L,l≠p.2.1)→st'.H l=st.H l
 |[],pre,g,st,hi,hm,_,_=>⟨g,st,hi,Ext.refl w g,rfl,hm,fun _ _ _=>rfl⟩
 |p::L,pre,g,st,hi,hm,hL,hnd=>by
  obtain⟨k,l,cs⟩:=p
  have hl:=hL (k,l,cs) sS
  simp only[List.map_cons,List.nodup_cons]at hnd
  obtain⟨g1,h1,h2⟩:=aHi hi (pre:=pre) (k:=k) (n:=cs.length) (post:=aDU L) hm hl rfl
  have hne:∀ p∈L,¬p.2.1=l:=fun p hp h=>hnd.1 (List.mem_map.2 ⟨p,hp,h⟩)
  have hnm:∀ p∈L,¬p.2.1=m:=fun p hp h=>by have:=hL p (by simp[hp]);rw[h,hm]at this;cases this
  obtain⟨g2,st2,k1,k2,k3,k4,k5⟩:=wS (ag:=ag) (ks:=ks) (m:=m) (e:=e) L (pre++[(k,.sl 0 cs.length cs)]) g1 _ h1 (by rw[bH,if_pos rfl];simp) (fun p hp=>by rw[bH,if_neg (hnm p hp),bH,if_neg (hne p hp)];exact hL p (by simp[hp])) hnd.2
  refine⟨g2,st2,k1,h2.trans k2,k3,by rw[k4];simp[aCD],fun l' hl' hp=>?_⟩
  rw[k5 l' hl' (fun p h=>hp p (by simp[h])),bH,if_neg hl',bH,if_neg (hp (k,l,cs) sS)]
theorem xA{P:Program}{f:FuncId}{args:List LV}{st:St}{e:Nat}{ag:Bool}{ks:List IntKind}{R:List aMF→Prop}
 (h:aB P f args st fun r st'=>∃ m L,r=.mp m∧st.next≤m∧m<st'.next∧aA st st'∧st'.H m=.map ag ks (aDU L)∧(∀ p∈L,st.next≤p.2.1∧st'.H p.2.1=.box e 1 p.2.2)∧(L.map fun p=>p.2.1).Nodup∧R L):
 aB P f args st fun r st'=>∃ m L,r=.mp m∧st.next≤m∧m<st'.next∧aA st st'∧st'.H m=.map ag ks (aCD L)∧R L:=by
 refine⟨h.1,fun w g vs hi hr=>(h.2 w g vs hi hr).mono ?_⟩
 rintro x w' ⟨v,r,st',g',rfl,⟨m,L,rfl,h1,h2,h3,h4,h5,h6,h7⟩,hrep,hi',he⟩
 obtain⟨g2,st2,k1,k2,k3,k4,k5⟩:=wS L [] g' st' hi' h4 (fun p hp=>(h5 p hp).2) h6
 exact⟨v,.mp m,st2,g2,rfl,⟨m,L,rfl,h1,oO,⟨by have:=h3.next;omega,fun l hl=>by rw[k5 l oO (fun p hp=>by have:=(h5 p hp).1;omega)];exact h3.H l hl⟩,k4,h7⟩,Rep.mono k2 _ _ hrep,k1,he.trans k2⟩
end Go.Proofs.YtempldclppogmaaGreatDoor.Aw
