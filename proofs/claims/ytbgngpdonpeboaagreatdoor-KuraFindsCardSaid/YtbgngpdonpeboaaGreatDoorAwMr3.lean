/- Lemmas. -/
import Derived.Test.YtbgngpdonpeboaaGreatDoorAwMr2
set_option linter.defProp false
namespace Go.Proofs.YtbgngpdonpeboaaGreatDoor
namespace Aw
open Go Go.RowKit
open Go.ChangeMaps (setBlock)
abbrev mg(r:Nat):LV:=.atom (.pointer (some ⟨r,0,none⟩))
theorem sR.trans{w j d:World}{g f c:G}(h:sR w g j f)(k:sR j f d c):sR w g d c:=
 ⟨fa h.z k.z,fun l a=>(k.β l (dc a h.z)).trans (h.β l a),fun l a=>(k.κ l (dc a h.z)).trans (h.κ l a),fun l a=>(k.nl l (dc a h.z)).trans (h.nl l a),fun b o v p e=>by
   obtain⟨m,n⟩:=h.cell b o v p e
   exact k.cell b o v m n⟩
variable{w:World}
def iG{P:Program}{b:Array Oper}{R:Exit->Act->World->Prop}{o:Oper}{rest:List Oper}{a:Act}{w':World}{v:Value}(c:o.guard=none)(d:(execOp a.eval o).run P w=.ok (.value v) w')(h:wpList P b R rest (a.put o.dst v) w'):wpList P b R (o::rest) a w:=by
 grind [Region.wanted,wpList,Oper.wp,Oper.upon_value]
theorem EX(w:World)(r:Nat)(o:Obj)(b:Nat)(h:b≠r):(setBlock w r o).heap[b]?=w.heap[b]?:=by
 grind [setBlock]
def JN(w:World)(r:Nat)(o:Obj)(h:r<w.heap.size):(setBlock w r o).heap[r]?=some o:=by
 grind [setBlock]
theorem MrS.turn{z:Option Nat}{J:World}{g0:G}{m f r:Nat}{ag:Bool}{H:List IntKind}{E:List (PP×LV)}{C:List MapEntry}{clock:Nat}{w a:World}{g:G}{I:St}{seen:Array Nat}(h:MrS z J g0 m f r ag H E C clock w g I seen)(F:a=w\/a=w.drew)(x:Nat):
 MrS z J g0 m f r ag H E C clock (setBlock a r (.mapIter (some f) clock (seen.push x) clock)) g I (seen.push x)/\sR w g (setBlock a r (.mapIter (some f) clock (seen.push x) clock)) g:=by
 obtain⟨d,o,s,L,M,N,D,⟨c,e7,t⟩,e9,e10,e11,e12⟩:=h;have lr:=(ig.1 t).1;have Q:a.heap=w.heap:=by rcases F with rfl|rfl<;>rfl
 have y:f≠r:=by rintro rfl;rw[D]at t;cases t
 have B:∀ b,b≠r->(setBlock a r (.mapIter (some f) clock (seen.push x) clock)).heap[b]?=w.heap[b]?:=fun b q=>by grind [EX]
 have U:(setBlock a r (.mapIter (some f) clock (seen.push x) clock)).heap.size=w.heap.size:=by simp[setBlock,Q]
 have p:sR w g (setBlock a r (.mapIter (some f) clock (seen.push x) clock)) g:=Fb fun b=>by
  grind [SL]
 have j:a.os=w.os/\a.tape=w.tape/\a.output=w.output:=by rcases F with rfl|rfl<;>exact⟨rfl,rfl,rfl⟩
 refine⟨⟨⟨j.1.trans d.os,j.2.1.trans d.tape,j.2.2.trans d.output,O,d.z,d.β,d.κ,d.nl,fun b q S=>?_,fun b k q R=>?_⟩,?_,s,L,M,N,(B _ y).trans D,⟨clock,au _,JN _ _ _ (by grind)⟩,e9,e10,aG.monoR p _ _ e11,e12⟩,p⟩
 .obtain⟨V,W⟩:=d.still b q S
  grind
 .obtain⟨k',V,W,X⟩:=d.part b k q R
  grind [World.cell?_of_block]
 .refine Bp o p O rfl rfl rfl rfl (fun l A=>⟨B _ fun e=>OA o A (by grind),rfl⟩) (o.aside.turn p rfl rfl rfl (fun l A=>⟨B _ fun e=>?_,rfl⟩) fun _ _ _ _ h=>h);obtain⟨K,ks',P,T⟩:=zR A;obtain⟨_,_,_,v,n,X,_⟩:=o.aside.frz l _ _ _ T
  grind
def Sq{g:G}{a:St}(h:Aside w g a){l:Nat}(b:iQ (a.H l)=true):g.β l<w.heap.size/\g.φ (g.β l)=none:=by
 obtain⟨ag,k,e,c⟩:=zR b;obtain⟨_,_,_,d,clock,f,_,_,j,_⟩:=h.frz l _ _ _ c
 grind
def MrS.start{a:World}{g0:G}{B:St}{m:Nat}{ag:Bool}{f:List IntKind}{d:List (PP×LV)}(j:Inv a g0 B)(E:B.H m=.map ag f d){q:List MapEntry}{clock:Nat}(C:a.heap[g0.β m]?=some (.map q.toArray clock))(Q:aG a g0 (d.map (·.2)) (q.map (·.val)))(W:g0.φ (g0.β m)=some 0)
 (R:∀ p∈d,p.1.length=f.length) (t:q.map (·.key)=d.map fun p=>cg ag f p.1) (r:(∀ x∈q,x.born<clock)/\(q.map (·.born)).Nodup):
 ∃ N,MrS (some 0) a g0 m (g0.β m) a.heap.size ag f d q clock (a.alloc (.mapIter (some (g0.β m)) clock #[] clock)) N (B.set m (.frz ag f d)) #[]/\sR a g0 (a.alloc (.mapIter (some (g0.β m)) clock #[] clock)) N:=by
 have S:=(ig.1 C).1;have Tv:g0.β m≠a.heap.size:=O;have c:∀ b,b<a.heap.size->(a.alloc (.mapIter (some (g0.β m)) clock #[] clock)).heap[b]?=a.heap[b]?:=fun b r=>heap_alloc_old a _ r;have I:=IG (g:=g0) none (OI C);have J:sR a (g0.at' (g0.β m) none) a ((g0.at' (g0.β m) none).at' a.heap.size none):=IG none (NN (au _));have K:sR a ((g0.at' (g0.β m) none).at' a.heap.size none) (a.alloc (.mapIter (some (g0.β m)) clock #[] clock)) ((g0.at' (g0.β m) none).at' a.heap.size none):=Fb fun b=>by
  grind [NN]
 have s:=(I.trans J).trans K;have L:blk g0 B m:=j.map_blk E;have A:a.heap.size<=(a.alloc (.mapIter (some (g0.β m)) clock #[] clock)).heap.size:=by have:=(ig.1 (heap_alloc_new a (.mapIter (some (g0.β m)) clock #[] clock))).1;omega
 have y:=j.map_lt E;have D:=Jd j m;have M:∀ b,g0.φ b=none->((g0.at' (g0.β m) none).at' a.heap.size none).φ b=none:=fun b h=>by
  simp only[G.at']
  grind
 refine⟨(g0.at' (g0.β m) none).at' a.heap.size none,⟨⟨rfl,rfl,rfl,A,au _,fun _ _=>rfl,fun _ _=>rfl,fun _ _=>rfl,fun b r X=>?_,fun b k r R=>?_⟩,?_,by simp[St.set],y,rfl,(j.mp m ag f d E).1,(c _ S).trans C,⟨clock,au _,heap_alloc_new _ _⟩,?_,?_,aG.monoR s _ _ Q,au _⟩,s⟩
 .grind [G.at']
 .by_cases T:b=g0.β m
  .grind [G.at']
  .exact⟨k,by simp only[G.at',aa T,aa (show b≠a.heap.size by omega)];omega,au _,fun o _=>World.cell?_of_block (w:=a) (c b r)⟩
 .have F:Inv (a.alloc (.mapIter (some (g0.β m)) clock #[] clock)) ((g0.at' (g0.β m) none).at' a.heap.size none) (B.set m .dead):=by
   refine Bp D s A rfl rfl rfl rfl (fun l n=>?_) (D.aside.turn s rfl rfl rfl (fun l n=>?_) fun b _ _ _ h=>M b h)
   .obtain⟨v,n⟩:=gO n;have F:=j.lt l n;have P:g0.β l≠g0.β m:=fun e=>v (j.inj l m n L e);exact⟨c _ F,by simp only[G.at',aa P,aa (show g0.β l≠a.heap.size by omega)]⟩
   .obtain⟨k1,U⟩:=Sq D.aside n
    grind
  have P:=XI F (m:=m) (ag:=ag) (ks:=f) (es:=d) (by have:=j.z;grind [St.set]) ?_ ?_
  .grind [set_set]
  .exact⟨(j.mp m ag f d E).1,y,R,q,clock,(c _ S).trans C,t,aG.monoR s _ _ Q,by simp[G.at',Tv],r⟩
  .intro l v n e;have U:=(Sq D.aside n).2;have V:g0.β l=g0.β m:=e
   grind
 .simp[G.at',Tv]
 grind [G.at']
end Aw
end Go.Proofs.YtbgngpdonpeboaaGreatDoor
