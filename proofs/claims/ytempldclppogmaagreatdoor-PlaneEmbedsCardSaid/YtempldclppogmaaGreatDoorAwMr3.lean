/- Ranging over a map: the rule for the loop. No program is named here. -/
import Derived.Test.YtempldclppogmaaGreatDoorAwMr2
set_option linter.unusedVariables false
set_option linter.unusedSimpArgs false
namespace Go.Proofs.YtempldclppogmaaGreatDoor
namespace Aw
open Go Go.RowKit
open Go.ChangeMaps (setBlock)
abbrev itr(r:Nat):LV:=.atom (.pointer (some ⟨r,0,none⟩))
theorem oS.trans{w w' w'':World}{g g' g'':G}(h:oS w g w' g')(k:oS w' g' w'' g''):oS w g w'' g'':=
 ⟨aBh h.next k.next,fun l hl=>(k.β l (aAp hl h.next)).trans (h.β l hl),fun l hl=>(k.κ l (aAp hl h.next)).trans (h.κ l hl),fun l hl=>(k.nl l (aAp hl h.next)).trans (h.nl l hl),fun b o v hc j8=>by
   obtain⟨h1,h2⟩:=h.cell b o v hc j8
   exact k.cell b o v h1 h2⟩
theorem fL{P:Program}{ops:Array Oper}{R:Exit->Act->World->Prop}{o:Oper}{rest:List Oper}{a:Act}{w w':World}{v:Value}(hg:o.guard=none)(Xv:(execOp a.eval o).run P w=.ok (.value v) w')(h:wpList P ops R rest (a.put o.dst v) w'):wpList P ops R (o::rest) a w:=by
 have hwt:Region.wanted o (yielded ops a.tmps)=true:=by unfold Region.wanted;rw[hg]
 simp only[wpList,hwt,aBn];left;unfold Oper.wp;rw[Xv,Oper.upon_value];exact h
theorem CF(w:World)(r:Nat)(o:Obj)(b:Nat)(h:b≠r):(setBlock w r o).heap[b]?=w.heap[b]?:=by simp only[setBlock];rw[aBg,aAa (fun e=>h e.symm)]
theorem xD(w:World)(r:Nat)(o:Obj)(h:r<w.heap.size):(setBlock w r o).heap[r]?=some o:=by simp only[setBlock];rw[aBg,aAe rfl,aAe h]
theorem MrS.turn{z:Option Nat}{w0:World}{g0:G}{m b0 r:Nat}{ag:Bool}{ks:List IntKind}{es:List (List Int×LV)}{Gz:List MapEntry}{clock:Nat}{w w1:World}{g:G}{st:St}{seen:Array Nat}(h:MrS z w0 g0 m b0 r ag ks es Gz clock w g st seen)(h1:w1=w\/w1=w.drew)(x:Nat):
 MrS z w0 g0 m b0 r ag ks es Gz clock (setBlock w1 r (.mapIter (some b0) clock (seen.push x) clock)) g st (seen.push x)/\oS w g (setBlock w1 r (.mapIter (some b0) clock (seen.push x) clock)) g:=by
 obtain⟨e1,e2,e2',e3,e4,e5,e6,⟨c,e7,e8⟩,e9,Q6,e11,e12⟩:=h;have lr:=(aAt.1 e8).1;have hh:w1.heap=w.heap:=by rcases h1 with rfl|rfl<;>rfl
 have O9:b0≠r:=by rintro rfl;rw[e6]at e8;cases e8
 have Xz:∀ b,b≠r->(setBlock w1 r (.mapIter (some b0) clock (seen.push x) clock)).heap[b]?=w.heap[b]?:=fun b hb=>by rw[CF _ _ _ _ hb,hh]
 have ZH:(setBlock w1 r (.mapIter (some b0) clock (seen.push x) clock)).heap.size=w.heap.size:=by simp[setBlock,hh]
 have hR:oS w g (setBlock w1 r (.mapIter (some b0) clock (seen.push x) clock)) g:=CN fun b=>by
  by_cases e:b=r
  .subst e;exact .inr (Pr e8)
  .exact .inl (Xz b e)
 have hos:w1.os=w.os/\w1.tape=w.tape/\w1.output=w.output:=by rcases h1 with rfl|rfl<;>exact⟨rfl,rfl,rfl⟩
 refine⟨⟨⟨hos.1.trans e1.os,hos.2.1.trans e1.tape,hos.2.2.trans e1.output,by rw[ZH];exact e1.size,e1.next,e1.β,e1.κ,e1.nl,fun b hb hn=>?_,fun b k hb hk=>?_⟩,?_,e2',e3,e4,e5,(Xz _ O9).trans e6,⟨clock,aAi _,xD _ _ _ (by rw[hh];exact lr)⟩,e9,Q6,aC.monoR hR _ _ e11,e12⟩,hR⟩
 .obtain⟨k1,k2⟩:=e1.still b hb hn;exact⟨k1,(Xz b oO).trans k2⟩
 .obtain⟨k',k1,k2,k3⟩:=e1.part b k hb hk;exact⟨k',k1,k2,fun o ho=>(World.cell?_of_block (w:=w) (Xz b oO)).trans (k3 o ho)⟩
 .refine BR e2 hR (by rw[ZH];exact aAi _) rfl rfl rfl rfl (fun l hl=>⟨Xz _ fun e=>Ju e2 hl (by rw[e];exact Q6),rfl⟩) (e2.aside.turn hR rfl rfl rfl (fun l hl=>⟨Xz _ fun e=>?_,rfl⟩) fun _ _ _ _ h=>h);obtain⟨Q9,Zy,es',ho⟩:=wI hl;obtain⟨_,_,_,ZU,clock',k3,_⟩:=e2.aside.frz l _ _ _ ho;rw[e,e8]at k3;cases k3
theorem PA{w:World}{g:G}{st:St}(h:oE w g st){l:Nat}(hl:fO (st.H l)=true):g.β l<w.heap.size/\g.φ (g.β l)=none:=by obtain⟨ag,ks,es,ho⟩:=wI hl;obtain⟨_,_,_,Gz,clock,k3,_,_,k4,_⟩:=h.frz l _ _ _ ho;exact⟨(aAt.1 k3).1,k4⟩
theorem MrS.start{w0:World}{g0:G}{st:St}{m:Nat}{ag:Bool}{ks:List IntKind}{es:List (List Int×LV)}(hi:Inv w0 g0 st)(hm:st.H m=.map ag ks es){Gz:List MapEntry}{clock:Nat}(h3:w0.heap[g0.β m]?=some (.map Gz.toArray clock))(h5:aC w0 g0 (es.map (·.2)) (Gz.map (·.val)))(h6:g0.φ (g0.β m)=some 0)
 (hk:∀ p∈es,p.1.length=ks.length) (Yf:Gz.map (·.key)=es.map fun p=>mkV ag ks p.1) (hb:(∀ x∈Gz,x.born<clock)/\(Gz.map (·.born)).Nodup):
 ∃ g1,MrS (some 0) w0 g0 m (g0.β m) w0.heap.size ag ks es Gz clock (w0.alloc (.mapIter (some (g0.β m)) clock #[] clock)) g1 (st.set m (.frz ag ks es)) #[]/\oS w0 g0 (w0.alloc (.mapIter (some (g0.β m)) clock #[] clock)) g1:=by
 have lb:=(aAt.1 h3).1;have Wx:g0.β m≠w0.heap.size:=oO;have Ym:∀ b,b<w0.heap.size->(w0.alloc (.mapIter (some (g0.β m)) clock #[] clock)).heap[b]?=w0.heap[b]?:=fun b hb=>heap_alloc_old w0 _ hb;have hR1:=Es (g:=g0) none (Ki h3);have P0:oS w0 (g0.at' (g0.β m) none) w0 ((g0.at' (g0.β m) none).at' w0.heap.size none):=Es none (Jy (aAi _));have hR3:oS w0 ((g0.at' (g0.β m) none).at' w0.heap.size none) (w0.alloc (.mapIter (some (g0.β m)) clock #[] clock)) ((g0.at' (g0.β m) none).at' w0.heap.size none):=CN fun b=>by
  rcases aAB b w0.heap.size with h|h
  .exact .inl (Ym b h)
  .exact .inr (Jy h)
 have hR:=(hR1.trans P0).trans hR3;have hbm:blk g0 st m:=hi.map_blk hm;have ZH:w0.heap.size<=(w0.alloc (.mapIter (some (g0.β m)) clock #[] clock)).heap.size:=by have:=(aAt.1 (heap_alloc_new w0 (.mapIter (some (g0.β m)) clock #[] clock))).1;omega
 have ZK:=hi.map_lt hm;have hH:=FJ hi m;have L7:∀ b,g0.φ b=none->((g0.at' (g0.β m) none).at' w0.heap.size none).φ b=none:=fun b h=>by
  simp only[G.at']
  split
  .rfl
  .split
   .rfl
   .exact h
 refine⟨(g0.at' (g0.β m) none).at' w0.heap.size none,⟨⟨rfl,rfl,rfl,ZH,aAi _,fun _ _=>rfl,fun _ _=>rfl,fun _ _=>rfl,fun b hb hn=>?_,fun b k hb hk=>?_⟩,?_,by simp[St.set],ZK,rfl,(hi.mp m ag ks es hm).1,(Ym _ lb).trans h3,⟨clock,aAi _,heap_alloc_new _ _⟩,?_,?_,aC.monoR hR _ _ h5,aAi _⟩,hR⟩
 .have e1:b≠g0.β m:=by rintro rfl;rw[h6]at hn;cases hn
  exact⟨by simp only[G.at',aAa e1,aAa (show b≠w0.heap.size by omega)];exact hn,Ym b hb⟩
 .by_cases e1:b=g0.β m
  .subst e1;rw[h6]at hk;obtain rfl:0=k:=by simpa using hk
   exact⟨0,by simp[G.at'],aAi _,fun o ho=>by omega⟩
  .exact⟨k,by simp only[G.at',aAa e1,aAa (show b≠w0.heap.size by omega)];exact hk,aAi _,fun o _=>World.cell?_of_block (w:=w0) (Ym b hb)⟩
 .have h1:Inv (w0.alloc (.mapIter (some (g0.β m)) clock #[] clock)) ((g0.at' (g0.β m) none).at' w0.heap.size none) (st.set m .dead):=by
   refine BR hH hR ZH rfl rfl rfl rfl (fun l hl=>?_) (hH.aside.turn hR rfl rfl rfl (fun l hl=>?_) fun b _ _ _ h=>L7 b h)
   .obtain⟨r9,hl⟩:=eR hl;have h1:=hi.lt l hl;have h2:g0.β l≠g0.β m:=fun e=>r9 (hi.inj l m hl hbm e);exact⟨Ym _ h1,by simp only[G.at',aAa h2,aAa (show g0.β l≠w0.heap.size by omega)]⟩
   .obtain⟨k1,k2⟩:=PA hH.aside hl;exact⟨Ym _ k1,by rw[k2];exact L7 _ k2⟩
  have h2:=Rc h1 (m:=m) (ag:=ag) (ks:=ks) (es:=es) (by have:=hi.next;simp only[St.set];omega) ?_ ?_
  .rw[set_set]at h2;exact h2
  .exact⟨(hi.mp m ag ks es hm).1,ZK,hk,Gz,clock,(Ym _ lb).trans h3,Yf,aC.monoR hR _ _ h5,by simp[G.at',Wx],hb⟩
  .intro l r9 hl e;have k2:=(PA hH.aside hl).2;have e':g0.β l=g0.β m:=e;rw[e',h6]at k2;cases k2
 .simp[G.at',Wx]
 .simp[G.at']
end Aw
end Go.Proofs.YtempldclppogmaaGreatDoor
