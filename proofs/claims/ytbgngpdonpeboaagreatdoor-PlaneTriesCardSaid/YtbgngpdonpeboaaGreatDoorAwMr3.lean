/- Ranging over a map: the rule for the loop. No program is named here. -/
import Derived.Test.YtbgngpdonpeboaaGreatDoorAwMr2
set_option linter.unusedVariables false
set_option linter.unusedSimpArgs false
namespace Go.Proofs.YtbgngpdonpeboaaGreatDoor
namespace Aw
open Go Go.RowKit
open Go.ChangeMaps (setBlock)
abbrev itr(r:Nat):LV:=.atom (.pointer (some ⟨r,0,none⟩))
theorem qQ.trans{w w' w'':World}{g g' g'':G}(h:qQ w g w' g')(k:qQ w' g' w'' g''):qQ w g w'' g'':=
 ⟨aBa h.next k.next,fun l hl=>(k.β l (aAs hl h.next)).trans (h.β l hl),fun l hl=>(k.κ l (aAs hl h.next)).trans (h.κ l hl),fun l hl=>(k.nl l (aAs hl h.next)).trans (h.nl l hl),fun b o v hc U6=>by
   obtain⟨h1,h2⟩:=h.cell b o v hc U6
   exact k.cell b o v h1 h2⟩
theorem fW{P:Program}{ops:Array Oper}{R:Exit->Act->World->Prop}{o:Oper}{rest:List Oper}{a:Act}{w w':World}{v:Value}(hg:o.guard=none)(o9:(execOp a.eval o).run P w=.ok (.value v) w')(h:wpList P ops R rest (a.put o.dst v) w'):wpList P ops R (o::rest) a w:=by
 grind [Region.wanted,wpList,Oper.wp,Oper.upon_value]
theorem DG(w:World)(r:Nat)(o:Obj)(b:Nat)(h:b≠r):(setBlock w r o).heap[b]?=w.heap[b]?:=by
 grind [setBlock]
theorem HF(w:World)(r:Nat)(o:Obj)(h:r<w.heap.size):(setBlock w r o).heap[r]?=some o:=by
 grind [setBlock]
theorem MrS.turn{z:Option Nat}{w0:World}{g0:G}{m b0 r:Nat}{ag:Bool}{ks:List IntKind}{es:List (List Int×LV)}{cO:List MapEntry}{clock:Nat}{w w1:World}{g:G}{st:St}{seen:Array Nat}(h:MrS z w0 g0 m b0 r ag ks es cO clock w g st seen)(h1:w1=w\/w1=w.drew)(x:Nat):
 MrS z w0 g0 m b0 r ag ks es cO clock (setBlock w1 r (.mapIter (some b0) clock (seen.push x) clock)) g st (seen.push x)/\qQ w g (setBlock w1 r (.mapIter (some b0) clock (seen.push x) clock)) g:=by
 obtain⟨e1,e2,e2',e3,e4,e5,e6,⟨c,e7,e8⟩,e9,e10,e11,e12⟩:=h;have lr:=(aAJ.1 e8).1;have hh:w1.heap=w.heap:=by rcases h1 with rfl|rfl<;>rfl
 have hb0:b0≠r:=by rintro rfl;rw[e6]at e8;cases e8
 have o6:∀ b,b≠r->(setBlock w1 r (.mapIter (some b0) clock (seen.push x) clock)).heap[b]?=w.heap[b]?:=fun b hb=>by grind [DG]
 have U0:(setBlock w1 r (.mapIter (some b0) clock (seen.push x) clock)).heap.size=w.heap.size:=by simp[setBlock,hh]
 have hR:qQ w g (setBlock w1 r (.mapIter (some b0) clock (seen.push x) clock)) g:=Dk fun b=>by
  grind [RX]
 have hos:w1.os=w.os/\w1.tape=w.tape/\w1.output=w.output:=by rcases h1 with rfl|rfl<;>exact⟨rfl,rfl,rfl⟩
 refine⟨⟨⟨hos.1.trans e1.os,hos.2.1.trans e1.tape,hos.2.2.trans e1.output,oO,e1.next,e1.β,e1.κ,e1.nl,fun b hb hn=>?_,fun b k hb hk=>?_⟩,?_,e2',e3,e4,e5,(o6 _ hb0).trans e6,⟨clock,aAl _,HF _ _ _ (by grind)⟩,e9,e10,aC.monoR hR _ _ e11,e12⟩,hR⟩
 .obtain⟨k1,k2⟩:=e1.still b hb hn
  grind
 .obtain⟨k',k1,k2,k3⟩:=e1.part b k hb hk
  grind [World.cell?_of_block]
 .refine BI e2 hR oO rfl rfl rfl rfl (fun l hl=>⟨o6 _ fun e=>LO e2 hl (by grind),rfl⟩) (e2.aside.turn hR rfl rfl rfl (fun l hl=>⟨o6 _ fun e=>?_,rfl⟩) fun _ _ _ _ h=>h);obtain⟨ag',V5,es',ho⟩:=xO hl;obtain⟨_,_,_,S6,clock',k3,_⟩:=e2.aside.frz l _ _ _ ho
  grind
theorem SN{w:World}{g:G}{st:St}(h:Aside w g st){l:Nat}(hl:gR (st.H l)=true):g.β l<w.heap.size/\g.φ (g.β l)=none:=by
 obtain⟨ag,ks,es,ho⟩:=xO hl;obtain⟨_,_,_,cO,clock,k3,_,_,k4,_⟩:=h.frz l _ _ _ ho
 grind
theorem MrS.start{w0:World}{g0:G}{st:St}{m:Nat}{ag:Bool}{ks:List IntKind}{es:List (List Int×LV)}(hi:Inv w0 g0 st)(hm:st.H m=.map ag ks es){cO:List MapEntry}{clock:Nat}(h3:w0.heap[g0.β m]?=some (.map cO.toArray clock))(h5:aC w0 g0 (es.map (·.2)) (cO.map (·.val)))(h6:g0.φ (g0.β m)=some 0)
 (hk:∀ p∈es,p.1.length=ks.length) (N8:cO.map (·.key)=es.map fun p=>mkV ag ks p.1) (hb:(∀ x∈cO,x.born<clock)/\(cO.map (·.born)).Nodup):
 ∃ g1,MrS (some 0) w0 g0 m (g0.β m) w0.heap.size ag ks es cO clock (w0.alloc (.mapIter (some (g0.β m)) clock #[] clock)) g1 (st.set m (.frz ag ks es)) #[]/\qQ w0 g0 (w0.alloc (.mapIter (some (g0.β m)) clock #[] clock)) g1:=by
 have lb:=(aAJ.1 h3).1;have c7:g0.β m≠w0.heap.size:=oO;have T6:∀ b,b<w0.heap.size->(w0.alloc (.mapIter (some (g0.β m)) clock #[] clock)).heap[b]?=w0.heap[b]?:=fun b hb=>heap_alloc_old w0 _ hb;have hR1:=FY (g:=g0) none (LU h3);have hR2:qQ w0 (g0.at' (g0.β m) none) w0 ((g0.at' (g0.β m) none).at' w0.heap.size none):=FY none (Mm (aAl _));have hR3:qQ w0 ((g0.at' (g0.β m) none).at' w0.heap.size none) (w0.alloc (.mapIter (some (g0.β m)) clock #[] clock)) ((g0.at' (g0.β m) none).at' w0.heap.size none):=Dk fun b=>by
  grind [Mm]
 have hR:=(hR1.trans hR2).trans hR3;have hbm:blk g0 st m:=hi.map_blk hm;have U0:w0.heap.size<=(w0.alloc (.mapIter (some (g0.β m)) clock #[] clock)).heap.size:=by have:=(aAJ.1 (heap_alloc_new w0 (.mapIter (some (g0.β m)) clock #[] clock))).1;omega
 have Q7:=hi.map_lt hm;have hH:=Ie hi m;have hφ:∀ b,g0.φ b=none->((g0.at' (g0.β m) none).at' w0.heap.size none).φ b=none:=fun b h=>by
  simp only[G.at']
  grind
 refine⟨(g0.at' (g0.β m) none).at' w0.heap.size none,⟨⟨rfl,rfl,rfl,U0,aAl _,fun _ _=>rfl,fun _ _=>rfl,fun _ _=>rfl,fun b hb hn=>?_,fun b k hb hk=>?_⟩,?_,by simp[St.set],Q7,rfl,(hi.mp m ag ks es hm).1,(T6 _ lb).trans h3,⟨clock,aAl _,heap_alloc_new _ _⟩,?_,?_,aC.monoR hR _ _ h5,aAl _⟩,hR⟩
 .grind [G.at']
 .by_cases e1:b=g0.β m
  .grind [G.at']
  .exact⟨k,by simp only[G.at',aAa e1,aAa (show b≠w0.heap.size by omega)];omega,aAl _,fun o _=>World.cell?_of_block (w:=w0) (T6 b hb)⟩
 .have h1:Inv (w0.alloc (.mapIter (some (g0.β m)) clock #[] clock)) ((g0.at' (g0.β m) none).at' w0.heap.size none) (st.set m .dead):=by
   refine BI hH hR U0 rfl rfl rfl rfl (fun l hl=>?_) (hH.aside.turn hR rfl rfl rfl (fun l hl=>?_) fun b _ _ _ h=>hφ b h)
   .obtain⟨hlm,hl⟩:=fK hl;have h1:=hi.lt l hl;have h2:g0.β l≠g0.β m:=fun e=>hlm (hi.inj l m hl hbm e);exact⟨T6 _ h1,by simp only[G.at',aAa h2,aAa (show g0.β l≠w0.heap.size by omega)]⟩
   .obtain⟨k1,k2⟩:=SN hH.aside hl
    grind
  have h2:=Vy h1 (m:=m) (ag:=ag) (ks:=ks) (es:=es) (by have:=hi.next;grind [St.set]) ?_ ?_
  .grind [set_set]
  .exact⟨(hi.mp m ag ks es hm).1,Q7,hk,cO,clock,(T6 _ lb).trans h3,N8,aC.monoR hR _ _ h5,by simp[G.at',c7],hb⟩
  .intro l hlm hl e;have k2:=(SN hH.aside hl).2;have e':g0.β l=g0.β m:=e
   grind
 .simp[G.at',c7]
 grind [G.at']
end Aw
end Go.Proofs.YtbgngpdonpeboaaGreatDoor
