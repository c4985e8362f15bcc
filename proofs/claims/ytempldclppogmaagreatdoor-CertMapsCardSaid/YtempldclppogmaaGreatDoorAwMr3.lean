/- Ranging over a map: the rule for the loop. No program is named here. -/
import Derived.Test.YtempldclppogmaaGreatDoorAwMr2
set_option linter.unusedVariables false
set_option linter.unusedSimpArgs false
namespace Go.Proofs.YtempldclppogmaaGreatDoor.Aw
open Go Go.RowKit
open Go.ChangeMaps (setBlock)
abbrev itr(r:Nat):LV:=.atom (.pointer (some ⟨r,0,none⟩))
theorem lZ.trans{w w' w'':World}{g g' g'':G}(h:lZ w g w' g')(k:lZ w' g' w'' g''):lZ w g w'' g'':=
 ⟨Nat.le_trans h.next k.next,fun l hl=>(k.β l (Nat.lt_of_lt_of_le hl h.next)).trans (h.β l hl),fun l hl=>(k.κ l (Nat.lt_of_lt_of_le hl h.next)).trans (h.κ l hl),fun l hl=>(k.nl l (Nat.lt_of_lt_of_le hl h.next)).trans (h.nl l hl),fun b o v hc hok=>by
   obtain⟨h1,h2⟩:=h.cell b o v hc hok
   exact k.cell b o v h1 h2⟩
theorem eH{P:Program}{ops:Array Oper}{R:Exit→Act→World→Prop}{o:Oper}{rest:List Oper}{a:Act}{w w':World}{v:Value}(hg:o.guard=none)(hrun:(execOp a.eval o).run P w=.ok (.value v) w')(h:wpList P ops R rest (a.put o.dst v) w'):wpList P ops R (o::rest) a w:=by
 have hwt:Region.wanted o (yielded ops a.tmps)=true:=by unfold Region.wanted;rw[hg]
 simp only[wpList,hwt,if_true]
 left
 unfold Oper.wp
 rw[hrun,Oper.upon_value]
 exact h
theorem yZ(w:World)(r:Nat)(o:Obj)(b:Nat)(h:b≠r):(setBlock w r o).heap[b]?=w.heap[b]?:=by
 simp only[setBlock]
 rw[Array.getElem?_setIfInBounds,if_neg (fun e=>h e.symm)]
theorem sU(w:World)(r:Nat)(o:Obj)(h:r<w.heap.size):(setBlock w r o).heap[r]?=some o:=by
 simp only[setBlock]
 rw[Array.getElem?_setIfInBounds,if_pos rfl,if_pos h]
theorem MrS.turn{z:Option Nat}{w0:World}{g0:G}{m b0 r:Nat}{ag:Bool}{ks:List IntKind}{es:List (List Int×LV)}{ents:List MapEntry}{clock:Nat}{w w1:World}{g:G}{st:St}{seen:Array Nat}(h:MrS z w0 g0 m b0 r ag ks es ents clock w g st seen)(h1:w1=w∨w1=w.drew)(x:Nat):
 MrS z w0 g0 m b0 r ag ks es ents clock (setBlock w1 r (.mapIter (some b0) clock (seen.push x) clock)) g st (seen.push x)∧lZ w g (setBlock w1 r (.mapIter (some b0) clock (seen.push x) clock)) g:=by
 obtain⟨e1,e2,e2',e3,e4,e5,e6,⟨c,e7,e8⟩,e9,e10,e11,e12⟩:=h
 have lr:=(Array.getElem?_eq_some_iff.1 e8).1
 have hh:w1.heap=w.heap:=by rcases h1 with rfl|rfl<;>rfl
 have hb0:b0≠r:=by rintro rfl;rw[e6]at e8;cases e8
 have hoff:∀ b,b≠r→(setBlock w1 r (.mapIter (some b0) clock (seen.push x) clock)).heap[b]?=w.heap[b]?:=fun b hb=>by rw[yZ _ _ _ _ hb,hh]
 have hsz:(setBlock w1 r (.mapIter (some b0) clock (seen.push x) clock)).heap.size=w.heap.size:=by simp[setBlock,hh]
 have hR:lZ w g (setBlock w1 r (.mapIter (some b0) clock (seen.push x) clock)) g:=zV fun b=>by
  by_cases e:b=r
  ·subst e;exact .inr (aJA e8)
  ·exact .inl (hoff b e)
 have hos:w1.os=w.os∧w1.tape=w.tape∧w1.output=w.output:=by rcases h1 with rfl|rfl<;>exact⟨rfl,rfl,rfl⟩
 refine⟨⟨⟨hos.1.trans e1.os,hos.2.1.trans e1.tape,hos.2.2.trans e1.output,by rw[hsz];exact e1.size,e1.next,e1.β,e1.κ,e1.nl,fun b hb hn=>?_,fun b k hb hk=>?_⟩,?_,e2',e3,e4,e5,(hoff _ hb0).trans e6,⟨clock,Nat.le_refl _,sU _ _ _ (by rw[hh];exact lr)⟩,e9,e10,aG.monoR hR _ _ e11,e12⟩,hR⟩
 ·obtain⟨k1,k2⟩:=e1.still b hb hn
  exact⟨k1,(hoff b oO).trans k2⟩
 ·obtain⟨k',k1,k2,k3⟩:=e1.part b k hb hk
  exact⟨k',k1,k2,fun o ho=>(World.cell?_of_block (w:=w) (hoff b oO)).trans (k3 o ho)⟩
 ·refine xY e2 hR (by rw[hsz];exact Nat.le_refl _) rfl rfl rfl rfl (fun l hl=>⟨hoff _ fun e=>aFt e2 hl (by rw[e];exact e10),rfl⟩) (e2.aside.turn hR rfl rfl rfl (fun l hl=>⟨hoff _ fun e=>?_,rfl⟩) fun _ _ _ _ h=>h)
  obtain⟨ag',ks',es',ho⟩:=rZ hl
  obtain⟨_,_,_,ents',clock',k3,_⟩:=e2.aside.frz l _ _ _ ho
  rw[e,e8]at k3;cases k3
theorem aJX{w:World}{g:G}{st:St}(h:lI w g st){l:Nat}(hl:eK (st.H l)=true):g.β l<w.heap.size∧g.φ (g.β l)=none:=by
 obtain⟨ag,ks,es,ho⟩:=rZ hl
 obtain⟨_,_,_,ents,clock,k3,_,_,k4,_⟩:=h.frz l _ _ _ ho
 exact⟨(Array.getElem?_eq_some_iff.1 k3).1,k4⟩
theorem MrS.start{w0:World}{g0:G}{st:St}{m:Nat}{ag:Bool}{ks:List IntKind}{es:List (List Int×LV)}(hi:Inv w0 g0 st)(hm:st.H m=.map ag ks es){ents:List MapEntry}{clock:Nat}(h3:w0.heap[g0.β m]?=some (.map ents.toArray clock))(h5:aG w0 g0 (es.map (·.2)) (ents.map (·.val)))(h6:g0.φ (g0.β m)=some 0)
 (hk:∀ p∈es,p.1.length=ks.length) (hkey:ents.map (·.key)=es.map fun p=>mkV ag ks p.1) (hb:(∀ x∈ents,x.born<clock)∧(ents.map (·.born)).Nodup):
 ∃ g1,MrS (some 0) w0 g0 m (g0.β m) w0.heap.size ag ks es ents clock (w0.alloc (.mapIter (some (g0.β m)) clock #[] clock)) g1 (st.set m (.frz ag ks es)) #[]∧lZ w0 g0 (w0.alloc (.mapIter (some (g0.β m)) clock #[] clock)) g1:=by
 have lb:=(Array.getElem?_eq_some_iff.1 h3).1
 have hne:g0.β m≠w0.heap.size:=oO
 have hold:∀ b,b<w0.heap.size→(w0.alloc (.mapIter (some (g0.β m)) clock #[] clock)).heap[b]?=w0.heap[b]?:=fun b hb=>heap_alloc_old w0 _ hb
 have hR1:=aBu (g:=g0) none (aFy h3)
 have hR2:lZ w0 (g0.at' (g0.β m) none) w0 ((g0.at' (g0.β m) none).at' w0.heap.size none):=aBu none (aFZ (Nat.le_refl _))
 have hR3:lZ w0 ((g0.at' (g0.β m) none).at' w0.heap.size none) (w0.alloc (.mapIter (some (g0.β m)) clock #[] clock)) ((g0.at' (g0.β m) none).at' w0.heap.size none):=zV fun b=>by
  rcases Nat.lt_or_ge b w0.heap.size with h|h
  ·exact .inl (hold b h)
  ·exact .inr (aFZ h)
 have hR:=(hR1.trans hR2).trans hR3
 have hbm:blk g0 st m:=hi.map_blk hm
 have hsz:w0.heap.size≤(w0.alloc (.mapIter (some (g0.β m)) clock #[] clock)).heap.size:=by
  have:=(Array.getElem?_eq_some_iff.1 (heap_alloc_new w0 (.mapIter (some (g0.β m)) clock #[] clock))).1
  omega
 have hml:=hi.map_lt hm
 have hH:=aDJ hi m
 have hφ:∀ b,g0.φ b=none→((g0.at' (g0.β m) none).at' w0.heap.size none).φ b=none:=fun b h=>by
  simp only[G.at']
  split
  ·rfl
  ·split
   ·rfl
   ·exact h
 refine⟨(g0.at' (g0.β m) none).at' w0.heap.size none,⟨⟨rfl,rfl,rfl,hsz,Nat.le_refl _,fun _ _=>rfl,fun _ _=>rfl,fun _ _=>rfl,fun b hb hn=>?_,fun b k hb hk=>?_⟩,?_,by simp[St.set],hml,rfl,(hi.mp m ag ks es hm).1,(hold _ lb).trans h3,⟨clock,Nat.le_refl _,heap_alloc_new _ _⟩,?_,?_,aG.monoR hR _ _ h5,Nat.le_refl _⟩,hR⟩
 ·have e1:b≠g0.β m:=by rintro rfl;rw[h6]at hn;cases hn
  exact⟨by simp only[G.at',if_neg e1,if_neg (show b≠w0.heap.size by omega)];exact hn,hold b hb⟩
 ·by_cases e1:b=g0.β m
  ·subst e1
   rw[h6]at hk
   obtain rfl:0=k:=by simpa using hk
   exact⟨0,by simp[G.at'],Nat.le_refl _,fun o ho=>by omega⟩
  ·exact⟨k,by simp only[G.at',if_neg e1,if_neg (show b≠w0.heap.size by omega)];exact hk,Nat.le_refl _,fun o _=>World.cell?_of_block (w:=w0) (hold b hb)⟩
 ·have h1:Inv (w0.alloc (.mapIter (some (g0.β m)) clock #[] clock)) ((g0.at' (g0.β m) none).at' w0.heap.size none) (st.set m .dead):=by
   refine xY hH hR hsz rfl rfl rfl rfl (fun l hl=>?_) (hH.aside.turn hR rfl rfl rfl (fun l hl=>?_) fun b _ _ _ h=>hφ b h)
   ·obtain⟨hlm,hl⟩:=dY hl
    have h1:=hi.lt l hl
    have h2:g0.β l≠g0.β m:=fun e=>hlm (hi.inj l m hl hbm e)
    exact⟨hold _ h1,by simp only[G.at',if_neg h2,if_neg (show g0.β l≠w0.heap.size by omega)]⟩
   ·obtain⟨k1,k2⟩:=aJX hH.aside hl
    exact⟨hold _ k1,by rw[k2];exact hφ _ k2⟩
  have h2:=aMx h1 (m:=m) (ag:=ag) (ks:=ks) (es:=es) (by have:=hi.next;simp only[St.set];omega) ?_ ?_
  ·rw[set_set]at h2;exact h2
  ·exact⟨(hi.mp m ag ks es hm).1,hml,hk,ents,clock,(hold _ lb).trans h3,hkey,aG.monoR hR _ _ h5,by simp[G.at',hne],hb⟩
  ·intro l hlm hl e
   have k2:=(aJX hH.aside hl).2
   have e':g0.β l=g0.β m:=e
   rw[e',h6]at k2;cases k2
 ·simp[G.at',hne]
 ·simp[G.at']
end Go.Proofs.YtempldclppogmaaGreatDoor.Aw
