/- Ranging over a map: the rule for the loop. No program is named here. -/
import Derived.Test.YtempldclppogmaaGreatDoorAwMr2
set_option linter.unusedVariables false
set_option linter.unusedSimpArgs false
namespace Go.Proofs.YtempldclppogmaaGreatDoor
namespace Aw
open Go Go.RowKit
open Go.ChangeMaps (setBlock)
abbrev itr(r:Nat):LV:=.atom (.pointer (some ⟨r,0,none⟩))
theorem pW.trans{w w' w'':World}{g g' g'':G}(h:pW w g w' g')(k:pW w' g' w'' g''):pW w g w'' g'':=
 ⟨aBj h.next k.next,fun l hl=>(k.β l (aAp hl h.next)).trans (h.β l hl),fun l hl=>(k.κ l (aAp hl h.next)).trans (h.κ l hl),fun l hl=>(k.nl l (aAp hl h.next)).trans (h.nl l hl),fun b o v hc v9=>by
   obtain⟨h1,h2⟩:=h.cell b o v hc v9
   exact k.cell b o v h1 h2⟩
theorem fM{P:Program}{ops:Array Oper}{R:Exit->Act->World->Prop}{o:Oper}{rest:List Oper}{a:Act}{w w':World}{v:Value}(hg:o.guard=none)(Xr:(execOp a.eval o).run P w=.ok (.value v) w')(h:wpList P ops R rest (a.put o.dst v) w'):wpList P ops R (o::rest) a w:=by
 have hwt:Region.wanted o (yielded ops a.tmps)=true:=by unfold Region.wanted;rw[hg]
 simp only[wpList,hwt,aBq];left;unfold Oper.wp;rw[Xr,Oper.upon_value];exact h
theorem CQ(w:World)(r:Nat)(o:Obj)(b:Nat)(h:b≠r):(setBlock w r o).heap[b]?=w.heap[b]?:=by simp only[setBlock];rw[aBe,aAa (fun e=>h e.symm)]
theorem xX(w:World)(r:Nat)(o:Obj)(h:r<w.heap.size):(setBlock w r o).heap[r]?=some o:=by simp only[setBlock];rw[aBe,aAe rfl,aAe h]
theorem MrS.turn{z:Option Nat}{w0:World}{g0:G}{m b0 r:Nat}{ag:Bool}{ks:List IntKind}{es:List (List Int×LV)}{dX:List MapEntry}{clock:Nat}{w w1:World}{g:G}{st:St}{seen:Array Nat}(h:MrS z w0 g0 m b0 r ag ks es dX clock w g st seen)(h1:w1=w\/w1=w.drew)(x:Nat):
 MrS z w0 g0 m b0 r ag ks es dX clock (setBlock w1 r (.mapIter (some b0) clock (seen.push x) clock)) g st (seen.push x)/\pW w g (setBlock w1 r (.mapIter (some b0) clock (seen.push x) clock)) g:=by
 obtain⟨e1,e2,e2',e3,e4,e5,e6,⟨c,e7,e8⟩,e9,P5,e11,e12⟩:=h;have lr:=(aAw.1 e8).1;have hh:w1.heap=w.heap:=by rcases h1 with rfl|rfl<;>rfl
 have z8:b0≠r:=by rintro rfl;rw[e6]at e8;cases e8
 have Xu:∀ b,b≠r->(setBlock w1 r (.mapIter (some b0) clock (seen.push x) clock)).heap[b]?=w.heap[b]?:=fun b hb=>by rw[CQ _ _ _ _ hb,hh]
 have Yz:(setBlock w1 r (.mapIter (some b0) clock (seen.push x) clock)).heap.size=w.heap.size:=by simp[setBlock,hh]
 have hR:pW w g (setBlock w1 r (.mapIter (some b0) clock (seen.push x) clock)) g:=DS fun b=>by
  by_cases e:b=r
  .subst e;exact .inr (NO e8)
  .exact .inl (Xu b e)
 have hos:w1.os=w.os/\w1.tape=w.tape/\w1.output=w.output:=by rcases h1 with rfl|rfl<;>exact⟨rfl,rfl,rfl⟩
 refine⟨⟨⟨hos.1.trans e1.os,hos.2.1.trans e1.tape,hos.2.2.trans e1.output,by rw[Yz];exact e1.size,e1.next,e1.β,e1.κ,e1.nl,fun b hb hn=>?_,fun b k hb hk=>?_⟩,?_,e2',e3,e4,e5,(Xu _ z8).trans e6,⟨clock,aAk _,xX _ _ _ (by rw[hh];exact lr)⟩,e9,P5,aC.monoR hR _ _ e11,e12⟩,hR⟩
 .obtain⟨k1,k2⟩:=e1.still b hb hn;exact⟨k1,(Xu b oO).trans k2⟩
 .obtain⟨k',k1,k2,k3⟩:=e1.part b k hb hk;exact⟨k',k1,k2,fun o ho=>(World.cell?_of_block (w:=w) (Xu b oO)).trans (k3 o ho)⟩
 .refine Bi e2 hR (by rw[Yz];exact aAk _) rfl rfl rfl rfl (fun l hl=>⟨Xu _ fun e=>Kt e2 hl (by rw[e];exact P5),rfl⟩) (e2.aside.turn hR rfl rfl rfl (fun l hl=>⟨Xu _ fun e=>?_,rfl⟩) fun _ _ _ _ h=>h);obtain⟨P6,Zy,es',ho⟩:=vY hl;obtain⟨_,_,_,ZR,clock',k3,_⟩:=e2.aside.frz l _ _ _ ho;rw[e,e8]at k3;cases k3
theorem PR{w:World}{g:G}{st:St}(h:oK w g st){l:Nat}(hl:fV (st.H l)=true):g.β l<w.heap.size/\g.φ (g.β l)=none:=by obtain⟨ag,ks,es,ho⟩:=vY hl;obtain⟨_,_,_,dX,clock,k3,_,_,k4,_⟩:=h.frz l _ _ _ ho;exact⟨(aAw.1 k3).1,k4⟩
theorem MrS.start{w0:World}{g0:G}{st:St}{m:Nat}{ag:Bool}{ks:List IntKind}{es:List (List Int×LV)}(hi:Inv w0 g0 st)(hm:st.H m=.map ag ks es){dX:List MapEntry}{clock:Nat}(h3:w0.heap[g0.β m]?=some (.map dX.toArray clock))(h5:aC w0 g0 (es.map (·.2)) (dX.map (·.val)))(h6:g0.φ (g0.β m)=some 0)
 (hk:∀ p∈es,p.1.length=ks.length) (Yd:dX.map (·.key)=es.map fun p=>mkV ag ks p.1) (hb:(∀ x∈dX,x.born<clock)/\(dX.map (·.born)).Nodup):
 ∃ g1,MrS (some 0) w0 g0 m (g0.β m) w0.heap.size ag ks es dX clock (w0.alloc (.mapIter (some (g0.β m)) clock #[] clock)) g1 (st.set m (.frz ag ks es)) #[]/\pW w0 g0 (w0.alloc (.mapIter (some (g0.β m)) clock #[] clock)) g1:=by
 have lb:=(aAw.1 h3).1;have Wu:g0.β m≠w0.heap.size:=oO;have YS:∀ b,b<w0.heap.size->(w0.alloc (.mapIter (some (g0.β m)) clock #[] clock)).heap[b]?=w0.heap[b]?:=fun b hb=>heap_alloc_old w0 _ hb;have hR1:=FF (g:=g0) none (Ky h3);have L8:pW w0 (g0.at' (g0.β m) none) w0 ((g0.at' (g0.β m) none).at' w0.heap.size none):=FF none (KH (aAk _));have hR3:pW w0 ((g0.at' (g0.β m) none).at' w0.heap.size none) (w0.alloc (.mapIter (some (g0.β m)) clock #[] clock)) ((g0.at' (g0.β m) none).at' w0.heap.size none):=DS fun b=>by
  rcases aAN b w0.heap.size with h|h
  .exact .inl (YS b h)
  .exact .inr (KH h)
 have hR:=(hR1.trans L8).trans hR3;have T9:blk g0 st m:=hi.map_blk hm;have Yz:w0.heap.size<=(w0.alloc (.mapIter (some (g0.β m)) clock #[] clock)).heap.size:=by have:=(aAw.1 (heap_alloc_new w0 (.mapIter (some (g0.β m)) clock #[] clock))).1;omega
 have Yw:=hi.map_lt hm;have hH:=GF hi m;have L0:∀ b,g0.φ b=none->((g0.at' (g0.β m) none).at' w0.heap.size none).φ b=none:=fun b h=>by
  simp only[G.at']
  split
  .rfl
  .split
   .rfl
   .exact h
 refine⟨(g0.at' (g0.β m) none).at' w0.heap.size none,⟨⟨rfl,rfl,rfl,Yz,aAk _,fun _ _=>rfl,fun _ _=>rfl,fun _ _=>rfl,fun b hb hn=>?_,fun b k hb hk=>?_⟩,?_,by simp[St.set],Yw,rfl,(hi.mp m ag ks es hm).1,(YS _ lb).trans h3,⟨clock,aAk _,heap_alloc_new _ _⟩,?_,?_,aC.monoR hR _ _ h5,aAk _⟩,hR⟩
 .have e1:b≠g0.β m:=by rintro rfl;rw[h6]at hn;cases hn
  exact⟨by simp only[G.at',aAa e1,aAa (show b≠w0.heap.size by omega)];exact hn,YS b hb⟩
 .by_cases e1:b=g0.β m
  .subst e1;rw[h6]at hk;obtain rfl:0=k:=by simpa using hk
   exact⟨0,by simp[G.at'],aAk _,fun o ho=>by omega⟩
  .exact⟨k,by simp only[G.at',aAa e1,aAa (show b≠w0.heap.size by omega)];exact hk,aAk _,fun o _=>World.cell?_of_block (w:=w0) (YS b hb)⟩
 .have h1:Inv (w0.alloc (.mapIter (some (g0.β m)) clock #[] clock)) ((g0.at' (g0.β m) none).at' w0.heap.size none) (st.set m .dead):=by
   refine Bi hH hR Yz rfl rfl rfl rfl (fun l hl=>?_) (hH.aside.turn hR rfl rfl rfl (fun l hl=>?_) fun b _ _ _ h=>L0 b h)
   .obtain⟨o8,hl⟩:=eU hl;have h1:=hi.lt l hl;have h2:g0.β l≠g0.β m:=fun e=>o8 (hi.inj l m hl T9 e);exact⟨YS _ h1,by simp only[G.at',aAa h2,aAa (show g0.β l≠w0.heap.size by omega)]⟩
   .obtain⟨k1,k2⟩:=PR hH.aside hl;exact⟨YS _ k1,by rw[k2];exact L0 _ k2⟩
  have h2:=Qu h1 (m:=m) (ag:=ag) (ks:=ks) (es:=es) (by have:=hi.next;simp only[St.set];omega) ?_ ?_
  .rw[set_set]at h2;exact h2
  .exact⟨(hi.mp m ag ks es hm).1,Yw,hk,dX,clock,(YS _ lb).trans h3,Yd,aC.monoR hR _ _ h5,by simp[G.at',Wu],hb⟩
  .intro l o8 hl e;have k2:=(PR hH.aside hl).2;have e':g0.β l=g0.β m:=e;rw[e',h6]at k2;cases k2
 .simp[G.at',Wu]
 .simp[G.at']
end Aw
end Go.Proofs.YtempldclppogmaaGreatDoor
