/- Ranging over a map: the rule for the loop. No program is named here. -/
import Derived.Test.YtbgngpdonpeboaaGreatDoorAwMr2
set_option linter.defProp false
set_option linter.unusedVariables false
set_option linter.unusedSimpArgs false
namespace Go.Proofs.YtbgngpdonpeboaaGreatDoor
namespace Aw
open Go Go.RowKit
open Go.ChangeMaps (setBlock)
abbrev lc(r:Nat):LV:=.atom (.pointer (some ⟨r,0,none⟩))
theorem rL.trans{w f d:World}{g e c:G}(h:rL w g f e)(k:rL f e d c):rL w g d c:=
 ⟨er h.z k.z,fun l a=>(k.β l (cz a h.z)).trans (h.β l a),fun l a=>(k.κ l (cz a h.z)).trans (h.κ l a),fun l a=>(k.nl l (cz a h.z)).trans (h.nl l a),fun b o v p j=>by
   obtain⟨m,n⟩:=h.cell b o v p j
   exact k.cell b o v m n⟩
def gD{P:Program}{b:Array Oper}{R:Exit->Act->World->Prop}{o:Oper}{rest:List Oper}{a:Act}{w w':World}{v:Value}(c:o.guard=none)(d:(execOp a.eval o).run P w=.ok (.value v) w')(h:wpList P b R rest (a.put o.dst v) w'):wpList P b R (o::rest) a w:=by
 grind [Region.wanted,wpList,Oper.wp,Oper.upon_value]
theorem Cq(w:World)(r:Nat)(o:Obj)(b:Nat)(h:b≠r):(setBlock w r o).heap[b]?=w.heap[b]?:=by
 grind [setBlock]
def JM(w:World)(r:Nat)(o:Obj)(h:r<w.heap.size):(setBlock w r o).heap[r]?=some o:=by
 grind [setBlock]
theorem MrS.turn{z:Option Nat}{I:World}{g0:G}{m f r:Nat}{ag:Bool}{F:List IntKind}{D:List (AN×LV)}{B:List MapEntry}{clock:Nat}{w a:World}{g:G}{H:St}{seen:Array Nat}(h:MrS z I g0 m f r ag F D B clock w g H seen)(E:a=w\/a=w.drew)(x:Nat):
 MrS z I g0 m f r ag F D B clock (setBlock a r (.mapIter (some f) clock (seen.push x) clock)) g H (seen.push x)/\rL w g (setBlock a r (.mapIter (some f) clock (seen.push x) clock)) g:=by
 obtain⟨d,o,s,K,L,M,C,⟨c,Y,t⟩,e9,e10,e11,e12⟩:=h;have lr:=(fu.1 t).1;have O:a.heap=w.heap:=by rcases E with rfl|rfl<;>rfl
 have v:f≠r:=by rintro rfl;rw[C]at t;cases t
 have A:∀ b,b≠r->(setBlock a r (.mapIter (some f) clock (seen.push x) clock)).heap[b]?=w.heap[b]?:=fun b q=>by grind [Cq]
 have W:(setBlock a r (.mapIter (some f) clock (seen.push x) clock)).heap.size=w.heap.size:=by simp[setBlock,O]
 have p:rL w g (setBlock a r (.mapIter (some f) clock (seen.push x) clock)) g:=EJ fun b=>by
  grind [Qe]
 have j:a.os=w.os/\a.tape=w.tape/\a.output=w.output:=by rcases E with rfl|rfl<;>exact⟨rfl,rfl,rfl⟩
 refine⟨⟨⟨j.1.trans d.os,j.2.1.trans d.tape,j.2.2.trans d.output,oO,d.z,d.β,d.κ,d.nl,fun b q Q=>?_,fun b k q P=>?_⟩,?_,s,K,L,M,(A _ v).trans C,⟨clock,au _,JM _ _ _ (by grind)⟩,e9,e10,aC.monoR p _ _ e11,e12⟩,p⟩
 .obtain⟨S,T⟩:=d.still b q Q
  grind
 .obtain⟨Z,S,T,U⟩:=d.part b k q P
  grind [World.cell?_of_block]
 .refine Bp o p oO rfl rfl rfl rfl (fun l y=>⟨A _ fun e=>ML o y (by grind),rfl⟩) (o.aside.turn p rfl rfl rfl (fun l y=>⟨A _ fun e=>?_,rfl⟩) fun _ _ _ _ h=>h);obtain⟨J,X,N,R⟩:=vW y;obtain⟨_,_,_,V,n,U,_⟩:=o.aside.frz l _ _ _ R
  grind
def Rl{w:World}{g:G}{a:St}(h:Aside w g a){l:Nat}(b:gL (a.H l)=true):g.β l<w.heap.size/\g.φ (g.β l)=none:=by
 obtain⟨ag,k,e,c⟩:=vW b;obtain⟨_,_,_,d,clock,f,_,_,j,_⟩:=h.frz l _ _ _ c
 grind
def MrS.start{a:World}{g0:G}{t:St}{m:Nat}{ag:Bool}{d:List IntKind}{c:List (AN×LV)}(f:Inv a g0 t)(B:t.H m=.map ag d c){n:List MapEntry}{clock:Nat}(y:a.heap[g0.β m]?=some (.map n.toArray clock))(P:aC a g0 (c.map (·.2)) (n.map (·.val)))(W:g0.φ (g0.β m)=some 0)
 (Q:∀ p∈c,p.1.length=d.length) (S:n.map (·.key)=c.map fun p=>cj ag d p.1) (q:(∀ x∈n,x.born<clock)/\(n.map (·.born)).Nodup):
 ∃ N,MrS (some 0) a g0 m (g0.β m) a.heap.size ag d c n clock (a.alloc (.mapIter (some (g0.β m)) clock #[] clock)) N (t.set m (.frz ag d c)) #[]/\rL a g0 (a.alloc (.mapIter (some (g0.β m)) clock #[] clock)) N:=by
 have R:=(fu.1 y).1;have M:g0.β m≠a.heap.size:=oO;have v:∀ b,b<a.heap.size->(a.alloc (.mapIter (some (g0.β m)) clock #[] clock)).heap[b]?=a.heap[b]?:=fun b q=>heap_alloc_old a _ q;have D:=FB (g:=g0) none (Ld y);have E:rL a (g0.at' (g0.β m) none) a ((g0.at' (g0.β m) none).at' a.heap.size none):=FB none (MZ (au _));have F:rL a ((g0.at' (g0.β m) none).at' a.heap.size none) (a.alloc (.mapIter (some (g0.β m)) clock #[] clock)) ((g0.at' (g0.β m) none).at' a.heap.size none):=EJ fun b=>by
  grind [MZ]
 have r:=(D.trans E).trans F;have I:blk g0 t m:=f.map_blk B;have L:a.heap.size<=(a.alloc (.mapIter (some (g0.β m)) clock #[] clock)).heap.size:=by have:=(fu.1 (heap_alloc_new a (.mapIter (some (g0.β m)) clock #[] clock))).1;omega
 have K:=f.map_lt B;have A:=Ic f m;have J:∀ b,g0.φ b=none->((g0.at' (g0.β m) none).at' a.heap.size none).φ b=none:=fun b h=>by
  simp only[G.at']
  grind
 refine⟨(g0.at' (g0.β m) none).at' a.heap.size none,⟨⟨rfl,rfl,rfl,L,au _,fun _ _=>rfl,fun _ _=>rfl,fun _ _=>rfl,fun b q X=>?_,fun b k q Q=>?_⟩,?_,by simp[St.set],K,rfl,(f.mp m ag d c B).1,(v _ R).trans y,⟨clock,au _,heap_alloc_new _ _⟩,?_,?_,aC.monoR r _ _ P,au _⟩,r⟩
 .grind [G.at']
 .by_cases T:b=g0.β m
  .grind [G.at']
  .exact⟨k,by simp only[G.at',ac T,ac (show b≠a.heap.size by omega)];omega,au _,fun o _=>World.cell?_of_block (w:=a) (v b q)⟩
 .have C:Inv (a.alloc (.mapIter (some (g0.β m)) clock #[] clock)) ((g0.at' (g0.β m) none).at' a.heap.size none) (t.set m .dead):=by
   refine Bp A r L rfl rfl rfl rfl (fun l j=>?_) (A.aside.turn r rfl rfl rfl (fun l j=>?_) fun b _ _ _ h=>J b h)
   .obtain⟨s,j⟩:=fR j;have C:=f.lt l j;have O:g0.β l≠g0.β m:=fun e=>s (f.inj l m j I e);exact⟨v _ C,by simp only[G.at',ac O,ac (show g0.β l≠a.heap.size by omega)]⟩
   .obtain⟨Y,U⟩:=Rl A.aside j
    grind
  have O:=Uq C (m:=m) (ag:=ag) (ks:=d) (es:=c) (by have:=f.z;grind [St.set]) ?_ ?_
  .grind [set_set]
  .exact⟨(f.mp m ag d c B).1,K,Q,n,clock,(v _ R).trans y,S,aC.monoR r _ _ P,by simp[G.at',M],q⟩
  .intro l s j e;have U:=(Rl A.aside j).2;have V:g0.β l=g0.β m:=e
   grind
 .simp[G.at',M]
 grind [G.at']
end Aw
end Go.Proofs.YtbgngpdonpeboaaGreatDoor
