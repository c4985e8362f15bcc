/- Ranging over a map: the rule for the loop. No program is named here. -/
import Derived.Test.YtbgngpdonpeboaaGreatDoorAwMr2
set_option linter.unusedVariables false
set_option linter.unusedSimpArgs false
namespace Go.Proofs.YtbgngpdonpeboaaGreatDoor
namespace Aw
open Go Go.RowKit
open Go.ChangeMaps (setBlock)
abbrev itr(r:Nat):LV:=.atom (.pointer (some ⟨r,0,none⟩))
theorem rL.trans{w w' w'':World}{g g' g'':G}(h:rL w g w' g')(k:rL w' g' w'' g''):rL w g w'' g'':=
 ⟨aBa h.next k.next,fun l hl=>(k.β l (aAr hl h.next)).trans (h.β l hl),fun l hl=>(k.κ l (aAr hl h.next)).trans (h.κ l hl),fun l hl=>(k.nl l (aAr hl h.next)).trans (h.nl l hl),fun b o v hc Q1=>by
   obtain⟨h1,h2⟩:=h.cell b o v hc Q1
   exact k.cell b o v h1 h2⟩
theorem gF{P:Program}{ops:Array Oper}{R:Exit->Act->World->Prop}{o:Oper}{rest:List Oper}{a:Act}{w w':World}{v:Value}(hg:o.guard=none)(o6:(execOp a.eval o).run P w=.ok (.value v) w')(h:wpList P ops R rest (a.put o.dst v) w'):wpList P ops R (o::rest) a w:=by
 grind [Region.wanted,wpList,Oper.wp,Oper.upon_value]
theorem Cp(w:World)(r:Nat)(o:Obj)(b:Nat)(h:b≠r):(setBlock w r o).heap[b]?=w.heap[b]?:=by
 grind [setBlock]
theorem Im(w:World)(r:Nat)(o:Obj)(h:r<w.heap.size):(setBlock w r o).heap[r]?=some o:=by
 grind [setBlock]
theorem MrS.turn{z:Option Nat}{w0:World}{g0:G}{m b0 r:Nat}{ag:Bool}{ks:List IntKind}{es:List (List Int×LV)}{cV:List MapEntry}{clock:Nat}{w w1:World}{g:G}{st:St}{seen:Array Nat}(h:MrS z w0 g0 m b0 r ag ks es cV clock w g st seen)(h1:w1=w\/w1=w.drew)(x:Nat):
 MrS z w0 g0 m b0 r ag ks es cV clock (setBlock w1 r (.mapIter (some b0) clock (seen.push x) clock)) g st (seen.push x)/\rL w g (setBlock w1 r (.mapIter (some b0) clock (seen.push x) clock)) g:=by
 obtain⟨e1,e2,e2',e3,e4,e5,e6,⟨c,e7,e8⟩,e9,e10,e11,e12⟩:=h;have lr:=(aAH.1 e8).1;have hh:w1.heap=w.heap:=by rcases h1 with rfl|rfl<;>rfl
 have hb0:b0≠r:=by rintro rfl;rw[e6]at e8;cases e8
 have j9:∀ b,b≠r->(setBlock w1 r (.mapIter (some b0) clock (seen.push x) clock)).heap[b]?=w.heap[b]?:=fun b hb=>by grind [Cp]
 have O4:(setBlock w1 r (.mapIter (some b0) clock (seen.push x) clock)).heap.size=w.heap.size:=by simp[setBlock,hh]
 have hR:rL w g (setBlock w1 r (.mapIter (some b0) clock (seen.push x) clock)) g:=EL fun b=>by
  grind [Ot]
 have hos:w1.os=w.os/\w1.tape=w.tape/\w1.output=w.output:=by rcases h1 with rfl|rfl<;>exact⟨rfl,rfl,rfl⟩
 refine⟨⟨⟨hos.1.trans e1.os,hos.2.1.trans e1.tape,hos.2.2.trans e1.output,oO,e1.next,e1.β,e1.κ,e1.nl,fun b hb hn=>?_,fun b k hb hk=>?_⟩,?_,e2',e3,e4,e5,(j9 _ hb0).trans e6,⟨clock,aAm _,Im _ _ _ (by grind)⟩,e9,e10,aC.monoR hR _ _ e11,e12⟩,hR⟩
 .obtain⟨k1,k2⟩:=e1.still b hb hn
  grind
 .obtain⟨k',k1,k2,k3⟩:=e1.part b k hb hk
  grind [World.cell?_of_block]
 .refine Cb e2 hR oO rfl rfl rfl rfl (fun l hl=>⟨j9 _ fun e=>Lu e2 hl (by grind),rfl⟩) (e2.aside.turn hR rfl rfl rfl (fun l hl=>⟨j9 _ fun e=>?_,rfl⟩) fun _ _ _ _ h=>h);obtain⟨ag',R6,es',ho⟩:=xB hl;obtain⟨_,_,_,N3,clock',k3,_⟩:=e2.aside.frz l _ _ _ ho
  grind
theorem Rb{w:World}{g:G}{st:St}(h:Aside w g st){l:Nat}(hl:gO (st.H l)=true):g.β l<w.heap.size/\g.φ (g.β l)=none:=by
 obtain⟨ag,ks,es,ho⟩:=xB hl;obtain⟨_,_,_,cV,clock,k3,_,_,k4,_⟩:=h.frz l _ _ _ ho
 grind
theorem MrS.start{w0:World}{g0:G}{st:St}{m:Nat}{ag:Bool}{ks:List IntKind}{es:List (List Int×LV)}(hi:Inv w0 g0 st)(hm:st.H m=.map ag ks es){cV:List MapEntry}{clock:Nat}(h3:w0.heap[g0.β m]?=some (.map cV.toArray clock))(h5:aC w0 g0 (es.map (·.2)) (cV.map (·.val)))(h6:g0.φ (g0.β m)=some 0)
 (hk:∀ p∈es,p.1.length=ks.length) (J4:cV.map (·.key)=es.map fun p=>mkV ag ks p.1) (hb:(∀ x∈cV,x.born<clock)/\(cV.map (·.born)).Nodup):
 ∃ g1,MrS (some 0) w0 g0 m (g0.β m) w0.heap.size ag ks es cV clock (w0.alloc (.mapIter (some (g0.β m)) clock #[] clock)) g1 (st.set m (.frz ag ks es)) #[]/\rL w0 g0 (w0.alloc (.mapIter (some (g0.β m)) clock #[] clock)) g1:=by
 have lb:=(aAH.1 h3).1;have Zo:g0.β m≠w0.heap.size:=oO;have O8:∀ b,b<w0.heap.size->(w0.alloc (.mapIter (some (g0.β m)) clock #[] clock)).heap[b]?=w0.heap[b]?:=fun b hb=>heap_alloc_old w0 _ hb;have hR1:=Ez (g:=g0) none (Lz h3);have hR2:rL w0 (g0.at' (g0.β m) none) w0 ((g0.at' (g0.β m) none).at' w0.heap.size none):=Ez none (Kl (aAm _));have hR3:rL w0 ((g0.at' (g0.β m) none).at' w0.heap.size none) (w0.alloc (.mapIter (some (g0.β m)) clock #[] clock)) ((g0.at' (g0.β m) none).at' w0.heap.size none):=EL fun b=>by
  grind [Kl]
 have hR:=(hR1.trans hR2).trans hR3;have hbm:blk g0 st m:=hi.map_blk hm;have O4:w0.heap.size<=(w0.alloc (.mapIter (some (g0.β m)) clock #[] clock)).heap.size:=by have:=(aAH.1 (heap_alloc_new w0 (.mapIter (some (g0.β m)) clock #[] clock))).1;omega
 have M6:=hi.map_lt hm;have hH:=IJ hi m;have hφ:∀ b,g0.φ b=none->((g0.at' (g0.β m) none).at' w0.heap.size none).φ b=none:=fun b h=>by
  simp only[G.at']
  grind
 refine⟨(g0.at' (g0.β m) none).at' w0.heap.size none,⟨⟨rfl,rfl,rfl,O4,aAm _,fun _ _=>rfl,fun _ _=>rfl,fun _ _=>rfl,fun b hb hn=>?_,fun b k hb hk=>?_⟩,?_,by simp[St.set],M6,rfl,(hi.mp m ag ks es hm).1,(O8 _ lb).trans h3,⟨clock,aAm _,heap_alloc_new _ _⟩,?_,?_,aC.monoR hR _ _ h5,aAm _⟩,hR⟩
 .grind [G.at']
 .by_cases e1:b=g0.β m
  .grind [G.at']
  .exact⟨k,by simp only[G.at',aAa e1,aAa (show b≠w0.heap.size by omega)];omega,aAm _,fun o _=>World.cell?_of_block (w:=w0) (O8 b hb)⟩
 .have h1:Inv (w0.alloc (.mapIter (some (g0.β m)) clock #[] clock)) ((g0.at' (g0.β m) none).at' w0.heap.size none) (st.set m .dead):=by
   refine Cb hH hR O4 rfl rfl rfl rfl (fun l hl=>?_) (hH.aside.turn hR rfl rfl rfl (fun l hl=>?_) fun b _ _ _ h=>hφ b h)
   .obtain⟨hlm,hl⟩:=fK hl;have h1:=hi.lt l hl;have h2:g0.β l≠g0.β m:=fun e=>hlm (hi.inj l m hl hbm e);exact⟨O8 _ h1,by simp only[G.at',aAa h2,aAa (show g0.β l≠w0.heap.size by omega)]⟩
   .obtain⟨k1,k2⟩:=Rb hH.aside hl
    grind
  have h2:=Ue h1 (m:=m) (ag:=ag) (ks:=ks) (es:=es) (by have:=hi.next;grind [St.set]) ?_ ?_
  .grind [set_set]
  .exact⟨(hi.mp m ag ks es hm).1,M6,hk,cV,clock,(O8 _ lb).trans h3,J4,aC.monoR hR _ _ h5,by simp[G.at',Zo],hb⟩
  .intro l hlm hl e;have k2:=(Rb hH.aside hl).2;have e':g0.β l=g0.β m:=e
   grind
 .simp[G.at',Zo]
 grind [G.at']
end Aw
end Go.Proofs.YtbgngpdonpeboaaGreatDoor
