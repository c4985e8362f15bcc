/- Lemmas. -/
import Derived.Test.YtbgngpdonpeboaaGreatDoorAwWp
import Derived.Laws.CopyRow
set_option linter.defProp false
namespace Go.Proofs.YtbgngpdonpeboaaGreatDoor
namespace Aw
open Go Go.RowKit
theorem add_lit(b o n:Nat):(⟨b,o,none⟩:Addr).add n=⟨b,o+n,none⟩:=by grind [Addr.add]
def St.new(st:St)(o:cT):St:={ z:=st.z+1,H:=fun l=>if l=st.z then o else st.H l }
def St.set(a:St)(i:Nat)(o:cT):St:={ z:=a.z,H:=fun l=>if l=i then o else a.H l }
variable{b k l:Nat}{a c j:St}{w:World}{o:cT}
def pX(b:iQ o=false)(l:Nat)(h:iQ ((a.new o).H l)=true):(a.new o).H l=a.H l:=by
 grind [St.new]
def kI{m:Nat}(b:iQ o=false)(l:Nat)(h:iQ ((a.set m o).H l)=true):(a.set m o).H l=a.H l:=by
 grind [St.set]
def G.add(g:G)(b k a:Nat)(c:Bool):G:=
 {z:=g.z+1,φ:=fun x=>if x=b then some k else g.φ x,β:=fun l=>if l=g.z then b else g.β l,
  κ:=fun l=>if l=g.z then a else g.κ l,nl:=fun l=>if l=g.z then c else g.nl l }
def dZ(w:World)(g:G)(o:Obj)(k a:Nat)(b:Bool):Ext w g (w.alloc o) (g.add w.heap.size k a b):=by
 refine⟨rfl,rfl,rfl,Y,ub _,?_,?_,?_,?_,?_⟩
 .grind [G.add]
 .grind [G.add]
 .grind [G.add]
 .grind [G.add,heap_alloc_old]
 grind [G.add,World.cell?_of_block,heap_alloc_old]
def fA(w:World)(g:G):Ext w g w.drew g:=
 ⟨rfl,rfl,rfl,au _,au _,fun _ _=>rfl,fun _ _=>rfl,fun _ _=>rfl,fun _ _ h=>⟨h,rfl⟩,fun _ k _ h=>⟨k,h,au _,fun _ _=>rfl⟩⟩
theorem Inv.drew{w:World}{g:G}{c:St}(h:Inv w g c):Inv w.drew g c:=
 ⟨h.z,h.pos,h.fresh,h.lt,h.inj,h.own,fun l e s cs a=>by
   obtain⟨j,b,f⟩:=h.box l e s cs a;refine⟨j,b,fun v=>?_⟩;obtain⟨t,k,m,o,p,q⟩:=f v
   exact⟨t,k,m,o,aG.mono (fA w g) _ _ p,q⟩,fun l ag r d a=>(h.mp l ag r d a).keep (fA w g) (h.map_lt a) rfl rfl,fun l e n a=>(h.qu l e n a).keep (fA w g) (h.que_lt a) rfl rfl,h.aside.keep (fA w g) fun _ _=>rfl⟩
variable{g:G}
theorem cW{c:Nat}{d:Bool}(f:g.z=a.z)(e:l≠a.z):blk (g.add b k c d) (a.new o) l↔blk g a l:=by
 unfold blk
 grind [St.new,G.add]
def xQ(h:Inv w g j)(e:TypeId)(s d:Nat){cs:QQ}{vs:List Value}(M:vs.length=d*s)(k:d<=maxLen)(K:cs.length<=vs.length)(D:aG w g cs (vs.take cs.length)):
 Inv (w.alloc (.cells vs.toArray e)) (g.add w.heap.size 0 d false) (j.new (.box e s cs)):=by
 have p:=dZ w g (.cells vs.toArray e) 0 d false;have c:=h.z;refine⟨by grind [G.add,St.new],by simp[St.new],?_,?_,?_,?_,?_,?_,?_,h.aside.keep p (pX rfl)⟩
 .intro l a;simp only[St.new]at a ⊢;rw[aa O];exact h.fresh l O
 .intro l a;by_cases b:l=j.z
  .subst b;simp[G.add,c]
  .rw[cW c b]at a;have:=h.lt l a;simp only[G.add,c,aa b];simp;omega
 .intro l t a f A;by_cases b:l=j.z<;>by_cases r:t=j.z
  .omega
  .rw[cW c r]at f;have:=h.lt t f
   grind [G.add]
  .rw[cW c b]at a;have:=h.lt l a
   grind [G.add]
  .rw[cW c b]at a;rw[cW c r]at f;simp only[G.add,c,aa r,aa b]at A;exact h.inj l t a f A
 .intro l o s n a;by_cases b:l=j.z
  .grind [St.new]
  .simp only[St.new,aa b]at a;obtain⟨v,x,y,L⟩:=h.own l o s n a;simp only[G.add,c,aa b]
   grind [heap_alloc_old]
 .intro l o J q a;by_cases b:l=j.z
  .simp only[St.new,ac b]at a;injection a with v x y;subst v x y;refine⟨?_,?_,fun _=>⟨vs,?_,?_,K,aG.mono p _ _ D,?_⟩⟩
   .grind [G.add]
   .grind [G.add]
   .grind [G.add,heap_alloc_new]
   .grind [G.add]
   grind [G.add]
  .simp only[St.new,aa b]at a;obtain⟨Q,N,E⟩:=h.box l o J q a;refine⟨?_,?_,fun B=>?_⟩
   .grind [G.add]
   .grind [G.add]
   simp only[G.add,c,aa b]at B;obtain⟨m,F,P,H,k5,R⟩:=E B;have dS:g.β l<w.heap.size:=(ig.1 F).1;refine⟨m,?_,?_,H,aG.mono p _ _ k5,?_⟩
   .grind [G.add,heap_alloc_old]
   .grind [G.add]
   grind [G.add]
 .intro l ag I C a;by_cases b:l=j.z
  .grind [St.new]
  .simp only[St.new,aa b]at a;have k:=h.mp l ag I C a;have dS:=k.blk_lt;exact k.keep p (h.map_lt a) (heap_alloc_old w _ _ dS) (by grind [G.add])
 .intro l o n a;by_cases b:l=j.z
  .grind [St.new]
  .simp only[St.new,aa b]at a;have k:=h.qu l o n a;have dS:=k.blk_lt;exact k.keep p (h.que_lt a) (heap_alloc_old w _ _ dS) (by grind [G.add])
def HU(h:Inv w g j)(e:TypeId)(s n c:Nat)(v:Array Value)(N:v.size=c*s)(M:n<=c)(k:c<=maxLen):
 Inv (w.alloc (.cells v e)) (g.add w.heap.size (n*s) c false) (j.new (.own e s n)):=by
 have p:=dZ w g (.cells v e) (n*s) c false;have d:=h.z;refine⟨by grind [G.add,St.new],by simp[St.new],?_,?_,?_,?_,?_,?_,?_,h.aside.keep p (pX rfl)⟩
 .intro l a;simp only[St.new]at a ⊢;rw[aa O];exact h.fresh l O
 .intro l a;by_cases b:l=j.z
  .subst b;simp[G.add,d]
  .rw[cW d b]at a;have:=h.lt l a;simp only[G.add,d,aa b];simp;omega
 .intro l t a f C;by_cases b:l=j.z<;>by_cases r:t=j.z
  .omega
  .rw[cW d r]at f;have:=h.lt t f
   grind [G.add]
  .rw[cW d b]at a;have:=h.lt l a
   grind [G.add]
  .rw[cW d b]at a;rw[cW d r]at f;simp only[G.add,d,aa r,aa b]at C;exact h.inj l t a f C
 .intro l o x K a;by_cases b:l=j.z
  .simp only[St.new,ac b]at a;injection a with y A B;subst y A B;simp only[G.add,d,ac b]
   grind [heap_alloc_new]
  .simp only[St.new,aa b]at a;obtain⟨y,A,B,L⟩:=h.own l o x K a;simp only[G.add,d,aa b]
   grind [heap_alloc_old]
 .intro l o x q a;by_cases b:l=j.z
  .grind [St.new]
  .simp only[St.new,aa b]at a;obtain⟨R,P,F⟩:=h.box l o x q a;refine⟨?_,?_,fun D=>?_⟩
   .grind [G.add]
   .grind [G.add]
   simp only[G.add,d,aa b]at D;obtain⟨m,H,Q,I,k5,S⟩:=F D;have dS:g.β l<w.heap.size:=(ig.1 H).1;refine⟨m,?_,?_,I,aG.mono p _ _ k5,?_⟩
   .grind [G.add,heap_alloc_old]
   .grind [G.add]
   grind [G.add]
 .intro l ag J E a;by_cases b:l=j.z
  .grind [St.new]
  .simp only[St.new,aa b]at a;have k:=h.mp l ag J E a;have dS:=k.blk_lt;exact k.keep p (h.map_lt a) (heap_alloc_old w _ _ dS) (by grind [G.add])
 .intro l o n a;by_cases b:l=j.z
  .grind [St.new]
  .simp only[St.new,aa b]at a;have k:=h.qu l o n a;have dS:=k.blk_lt;exact k.keep p (h.que_lt a) (heap_alloc_old w _ _ dS) (by grind [G.add])
def Inv.drop(h:Inv w g c)(t:Nat)(p:t<c.z):Inv w g (c.set t .dead):=by
 have d:∀ l,blk g (c.set t .dead) l->l≠t/\blk g c l:=by
  intro l a;unfold blk at a ⊢;simp only[St.set]at a;by_cases b:l=t
  .grind
  .grind
 refine⟨h.z,h.pos,?_,fun l a=>h.lt l (d l a).2,fun l j a f=>h.inj l j (d l a).2 (d j f).2,?_,?_,?_,?_,h.aside.keep (Ext.refl w g) (kI rfl)⟩
 .intro l a;simp only[St.set]at a ⊢;rw[aa O];exact h.fresh l a
 .intro l e s n a;by_cases b:l=t
  .grind [St.set]
  .simp only[St.set,aa b]at a;exact h.own l e s n a
 .intro l e s k a;by_cases b:l=t
  .grind [St.set]
  .simp only[St.set,aa b]at a;exact h.box l e s k a
 .intro l ag o m a;by_cases b:l=t
  .grind [St.set]
  .simp only[St.set,aa b]at a;exact h.mp l ag o m a
 .intro l e n a;by_cases b:l=t
  .grind [St.set]
  .simp only[St.set,aa b]at a;exact h.qu l e n a
def setRow_size(w:World)(b:Nat)(arr:Array Value):(w.setRow b arr).heap.size=w.heap.size:=by simp_all
def DC{c:G}{p:Nat}{f arr:Array Value}{e:TypeId}(r:w.heap[b]?=some (.cells f e (0,0)))(s:g.φ b=some k)(h:k<=p)
 (j:∀ o,o<k->arr[o]?=f[o]?) (t:∀ x,c.φ x=if x=b then some p else g.φ x) (a:g.z<=c.z) (m:∀ l,l<g.z->c.β l=g.β l)
 (n:∀ l,l<g.z->c.κ l=g.κ l) (v:∀ l,l<g.z->c.nl l=g.nl l):Ext w g (w.setRow b arr) c:=by
 refine⟨rfl,rfl,rfl,Y,a,m,n,v,?_,?_⟩
 .grind [setRow_other]
 .intro x q A d;by_cases Tv:x=b
  .subst Tv;rw[s]at d;injection d with d;subst d;refine⟨p,by grind,h,fun o y=>?_⟩;rw[cell_of_row _ x o arr e (0,0) (setRow_heap w x f arr e (0,0) r),cell_of_row _ x o f e (0,0) r]
   grind
  grind [World.cell?_of_block,setRow_other]
def Ab(h:Inv w g c){e s:Nat}{B cs':QQ}{vs':List Value}(A:c.H l=.box e s B)(r:g.nl l=false)(D:vs'.length=g.κ l*s)(u7:cs'.length<=vs'.length)
 (hr:aG w g cs' (vs'.take cs'.length)):Inv (w.setRow (g.β l) vs'.toArray) g (c.set l (.box e s cs'))/\Ext w g (w.setRow (g.β l) vs'.toArray) g:=by
 obtain⟨k3,k0,P⟩:=h.box l e s B A;obtain⟨o8,Q,k2,k4,k5,R⟩:=P r;have t:Ext w g (w.setRow (g.β l) vs'.toArray) g:=DC Q R (au 0) (fun o M=>absurd M (vp _)) (fun x=>by grind) (au _) (fun _ _=>rfl) (fun _ _=>rfl) (fun _ _=>rfl);have d:blk g c l:=by unfold blk;rw[A];exact r
 have v:∀ x,blk g (c.set l (.box e s cs')) x↔blk g c x:=by
  intro x;unfold blk;simp only[St.set];by_cases a:x=l
  .grind
  .grind
 have dS:l<c.z:=by
  rcases ec l c.z with C|C
  .omega
  .rw[h.fresh l C]at A;grind
 refine⟨⟨h.z,h.pos,?_,?_,?_,?_,?_,?_,?_,h.aside.keep t (kI rfl)⟩,t⟩
 .intro x a;simp only[St.set]at a ⊢;rw[aa O];exact h.fresh x a
 .intro x a;rw[setRow_size];exact h.lt x ((v x).1 a)
 .intro x y a N;exact h.inj x y ((v x).1 a) ((v y).1 N)
 .intro x p s n a;by_cases b:x=l
  .grind [St.set]
  .simp only[St.set,aa b]at a;obtain⟨I,J,K,L⟩:=h.own x p s n a;refine⟨I,J,K,fun r=>?_⟩;obtain⟨m,V,W,E⟩:=L r;have f:blk g c x:=by unfold blk;rw[a];exact r
   have Tv:g.β x≠g.β l:=fun j=>b (h.inj x l f d j)
   grind [setRow_other]
 .intro x p X k a;by_cases b:x=l
  .grind [St.set,setRow_heap,aG.mono]
  .simp only[St.set,aa b]at a;obtain⟨E,U,T⟩:=h.box x p X k a;refine⟨E,U,fun q=>?_⟩;obtain⟨m,V,W,q4,q5,q6⟩:=T q;have f:blk g c x:=by unfold blk;rw[a];exact q
   have Tv:g.β x≠g.β l:=fun j=>b (h.inj x l f d j)
   grind [setRow_other,aG.mono]
 .intro x ag S F a;by_cases b:x=l
  .grind [St.set]
  .simp only[St.set,aa b]at a;have Tv:g.β x≠g.β l:=fun j=>b (h.inj x l (h.map_blk a) d j);exact(h.mp x ag S F a).keep t (h.map_lt a) (setRow_other w _ _ _ Tv) rfl
 .intro x p n a;by_cases b:x=l
  .grind [St.set]
  .simp only[St.set,aa b]at a;have Tv:g.β x≠g.β l:=fun j=>b (h.inj x l (h.que_blk a) d j);exact(h.qu x p n a).keep t (h.que_lt a) (setRow_other w _ _ _ Tv) rfl
theorem aO{w:World}{g:G}:∀(cs:QQ) (vs:List Value),aG w g cs vs->cs.length=vs.length
 |[],vs,h=>by grind [aG]
 |c::cs,vs,h=>by simp only[aG]at h;obtain⟨v,a,rfl,_,b⟩:=h;simp[aO cs a b]
theorem gQ{w:World}{g:G}:∀(n:Nat) (a:QQ) (b:List Value),aG w g a b->aG w g (a.take n) (b.take n)
 |0,a,b,_=>by grind [aG]
 |n+1,[],b,h=>by grind [aG]
 |n+1,c::a,b,h=>by simp only[aG]at h;obtain⟨v,d,rfl,e,f⟩:=h;simp only[List.take_succ_cons,aG];exact⟨v,_,rfl,e,gQ n a d f⟩
theorem kF{w:World}{g:G}:∀(n:Nat) (a:QQ) (b:List Value),aG w g a b->aG w g (a.drop n) (b.drop n)
 |0,a,b,h=>h
 |n+1,[],b,h=>by grind [aG]
 |n+1,c::a,b,h=>by simp only[aG]at h;obtain⟨v,d,rfl,f,e⟩:=h;simp only[xg];exact kF n a d e
theorem wY{w:World}{g:G}:∀(n:Nat) (a:QQ) (b:List Value) (c:LV),aG w g a b->a[n]?=some c->∃ v,b[n]?=some v/\Rep w g c v
 |_,[],b,c,_,hc=>by grind
 |0,c::a,b,c',h,hc=>by
  grind [aG]
 |n+1,c::a,b,c',h,hc=>by simp only[aG]at h;obtain⟨v,d,rfl,f,e⟩:=h;simp only[List.getElem?_cons_succ]at hc ⊢;exact wY n a d c' e hc
theorem iR{w:World}{g:G}{b:Nat}:∀(m:Nat) (a:QQ) (o:Nat),aR w g b a o->aR w g b (a.drop m) (o+m)
 |0,a,o,h=>h
 |m+1,[],o,h=>by grind [aR]
 |m+1,c::a,o,h=>by
  simp only[aR]at h;have:=iR m a (o+1) h.2
  grind
theorem uE{w:World}{g:G}{b:Nat}:∀(m:Nat) (a:QQ) (o:Nat),aR w g b a o->aR w g b (a.take m) o
 |0,a,o,_=>by grind [aR]
 |m+1,[],o,h=>by grind
 |m+1,c::a,o,h=>by simp only[aR]at h;simp only[List.take_succ_cons,aR];exact⟨h.1,uE m a (o+1) h.2⟩
theorem iO{w:World}{g:G}{b:Nat}:∀(a:QQ) (o:Nat),aR w g b a o->∃ d,aG w g a d/\∀ j,j<a.length->w.cell? ⟨b,o+j,none⟩=d[j]?
 |[],o,_=>⟨[],by grind [aG],Y⟩
 |c::a,o,h=>by
  simp only[aR]at h;obtain⟨⟨v,e,f,_⟩,h3⟩:=h;obtain⟨d,l,m⟩:=iO a (o+1) h3;refine⟨v::d,by grind [aG],fun j k=>?_⟩
  grind
theorem jV{w:World}{g:G}{b:Nat}:∀(a:QQ) (d:List Value) (o:Nat),aG w g a d->(∀ j,j<a.length->w.cell? ⟨b,o+j,none⟩=d[j]?)->(∀ j,j<a.length->g.ok b (o+j))->aR w g b a o
 |[],_,_,_,_,_=>by grind [aR]
 |c::a,d,o,h,hc,hk=>by
  simp only[aG]at h;obtain⟨v,e,rfl,f,k⟩:=h;simp only[aR];refine⟨⟨v,by simpa using hc 0 Y,f,by simpa using hk 0 Y⟩,jV a e (o+1) k (fun j l=>?_) (fun j l=>?_)⟩
  .have:=hc (j+1) (by grind)
   grind
  .have:=hk (j+1) (by grind)
   grind
end Aw
end Go.Proofs.YtbgngpdonpeboaaGreatDoor
