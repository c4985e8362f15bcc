/- How memory's invariant lasts: a new block, a row written in place. No program is named here. -/
import Derived.Test.YtbgngpdonpeboaaGreatDoorAwWp
import Derived.Laws.CopyRow
set_option linter.defProp false
set_option linter.unusedVariables false
set_option linter.unusedSimpArgs false
namespace Go.Proofs.YtbgngpdonpeboaaGreatDoor
namespace Aw
open Go Go.RowKit
theorem add_lit(b o n:Nat):(⟨b,o,none⟩:Addr).add n=⟨b,o+n,none⟩:=by grind [Addr.add]
def St.new(st:St)(o:cK):St:={ z:=st.z+1,H:=fun l=>if l=st.z then o else st.H l }
def St.set(a:St)(i:Nat)(o:cK):St:={ z:=a.z,H:=fun l=>if l=i then o else a.H l }
def oJ{a:St}{o:cK}(b:gL o=false)(l:Nat)(h:gL ((a.new o).H l)=true):(a.new o).H l=a.H l:=by
 grind [St.new]
def jM{a:St}{m:Nat}{o:cK}(b:gL o=false)(l:Nat)(h:gL ((a.set m o).H l)=true):(a.set m o).H l=a.H l:=by
 grind [St.set]
def G.add(g:G)(b k a:Nat)(c:Bool):G:=
 {z:=g.z+1,φ:=fun x=>if x=b then some k else g.φ x,β:=fun l=>if l=g.z then b else g.β l,
  κ:=fun l=>if l=g.z then a else g.κ l,nl:=fun l=>if l=g.z then c else g.nl l }
def dN(w:World)(g:G)(o:Obj)(k a:Nat)(b:Bool):Ext w g (w.alloc o) (g.add w.heap.size k a b):=by
 refine⟨rfl,rfl,rfl,sS,rj _,?_,?_,?_,?_,?_⟩
 .grind [G.add]
 .grind [G.add]
 .grind [G.add]
 .grind [G.add,heap_alloc_old]
 grind [G.add,World.cell?_of_block,heap_alloc_old]
def eC(w:World)(g:G):Ext w g w.drew g:=
 ⟨rfl,rfl,rfl,au _,au _,fun _ _=>rfl,fun _ _=>rfl,fun _ _=>rfl,fun _ _ h=>⟨h,rfl⟩,fun _ k _ h=>⟨k,h,au _,fun _ _=>rfl⟩⟩
theorem Inv.drew{w:World}{g:G}{c:St}(h:Inv w g c):Inv w.drew g c:=
 ⟨h.z,h.pos,h.fresh,h.lt,h.inj,h.own,fun l e s cs a=>by
   obtain⟨j,b,f⟩:=h.box l e s cs a;refine⟨j,b,fun v=>?_⟩;obtain⟨t,k,m,o,p,q⟩:=f v
   exact⟨t,k,m,o,aC.mono (eC w g) _ _ p,q⟩,fun l ag r d a=>(h.mp l ag r d a).keep (eC w g) (h.map_lt a) rfl rfl,fun l e n a=>(h.qu l e n a).keep (eC w g) (h.que_lt a) rfl rfl,h.aside.keep (eC w g) fun _ _=>rfl⟩
theorem cM{g:G}{a:St}{b k c:Nat}{d:Bool}{o:cK}(f:g.z=a.z){l:Nat}(e:l≠a.z):blk (g.add b k c d) (a.new o) l↔blk g a l:=by
 unfold blk
 grind [St.new,G.add]
def uV{w:World}{g:G}{f:St}(h:Inv w g f)(e:TypeId)(s d:Nat){cs:List LV}{vs:List Value}(N:vs.length=d*s)(j:d<=maxLen)(L:cs.length<=vs.length)(D:aC w g cs (vs.take cs.length)):
 Inv (w.alloc (.cells vs.toArray e)) (g.add w.heap.size 0 d false) (f.new (.box e s cs)):=by
 have m:=dN w g (.cells vs.toArray e) 0 d false;have c:=h.z;refine⟨by grind [G.add,St.new],by simp[St.new],?_,?_,?_,?_,?_,?_,?_,h.aside.keep m (oJ rfl)⟩
 .intro l a;simp only[St.new]at a ⊢;rw[ac oO];exact h.fresh l oO
 .intro l a;by_cases b:l=f.z
  .subst b;simp[G.add,c]
  .rw[cM c b]at a;have:=h.lt l a;simp only[G.add,c,ac b];simp;omega
 .intro l r a o y;by_cases b:l=f.z<;>by_cases q:r=f.z
  .omega
  .rw[cM c q]at o;have:=h.lt r o
   grind [G.add]
  .rw[cM c b]at a;have:=h.lt l a
   grind [G.add]
  .rw[cM c b]at a;rw[cM c q]at o;simp only[G.add,c,ac q,ac b]at y;exact h.inj l r a o y
 .intro l k s n a;by_cases b:l=f.z
  .grind [St.new]
  .simp only[St.new,ac b]at a;obtain⟨t,v,x,M⟩:=h.own l k s n a;simp only[G.add,c,ac b]
   grind [heap_alloc_old]
 .intro l k K p a;by_cases b:l=f.z
  .simp only[St.new,ad b]at a;injection a with t v x;subst t v x;refine⟨?_,?_,fun _=>⟨vs,?_,?_,L,aC.mono m _ _ D,?_⟩⟩
   .grind [G.add]
   .grind [G.add]
   .grind [G.add,heap_alloc_new]
   .grind [G.add]
   grind [G.add]
  .simp only[St.new,ac b]at a;obtain⟨Q,O,E⟩:=h.box l k K p a;refine⟨?_,?_,fun A=>?_⟩
   .grind [G.add]
   .grind [G.add]
   simp only[G.add,c,ac b]at A;obtain⟨B,F,P,H,I,R⟩:=E A;have dF:g.β l<w.heap.size:=(fu.1 F).1;refine⟨B,?_,?_,H,aC.mono m _ _ I,?_⟩
   .grind [G.add,heap_alloc_old]
   .grind [G.add]
   grind [G.add]
 .intro l ag J C a;by_cases b:l=f.z
  .grind [St.new]
  .simp only[St.new,ac b]at a;have j:=h.mp l ag J C a;have dF:=j.blk_lt;exact j.keep m (h.map_lt a) (heap_alloc_old w _ _ dF) (by grind [G.add])
 .intro l k n a;by_cases b:l=f.z
  .grind [St.new]
  .simp only[St.new,ac b]at a;have j:=h.qu l k n a;have dF:=j.blk_lt;exact j.keep m (h.que_lt a) (heap_alloc_old w _ _ dF) (by grind [G.add])
def FG{w:World}{g:G}{f:St}(h:Inv w g f)(e:TypeId)(s n c:Nat)(t:Array Value)(O:t.size=c*s)(N:n<=c)(j:c<=maxLen):
 Inv (w.alloc (.cells t e)) (g.add w.heap.size (n*s) c false) (f.new (.own e s n)):=by
 have o:=dN w g (.cells t e) (n*s) c false;have d:=h.z;refine⟨by grind [G.add,St.new],by simp[St.new],?_,?_,?_,?_,?_,?_,?_,h.aside.keep o (oJ rfl)⟩
 .intro l a;simp only[St.new]at a ⊢;rw[ac oO];exact h.fresh l oO
 .intro l a;by_cases b:l=f.z
  .subst b;simp[G.add,d]
  .rw[cM d b]at a;have:=h.lt l a;simp only[G.add,d,ac b];simp;omega
 .intro l r a m B;by_cases b:l=f.z<;>by_cases q:r=f.z
  .omega
  .rw[cM d q]at m;have:=h.lt r m
   grind [G.add]
  .rw[cM d b]at a;have:=h.lt l a
   grind [G.add]
  .rw[cM d b]at a;rw[cM d q]at m;simp only[G.add,d,ac q,ac b]at B;exact h.inj l r a m B
 .intro l k v L a;by_cases b:l=f.z
  .simp only[St.new,ad b]at a;injection a with x y A;subst x y A;simp only[G.add,d,ad b]
   grind [heap_alloc_new]
  .simp only[St.new,ac b]at a;obtain⟨x,y,A,M⟩:=h.own l k v L a;simp only[G.add,d,ac b]
   grind [heap_alloc_old]
 .intro l k v p a;by_cases b:l=f.z
  .grind [St.new]
  .simp only[St.new,ac b]at a;obtain⟨R,P,F⟩:=h.box l k v p a;refine⟨?_,?_,fun C=>?_⟩
   .grind [G.add]
   .grind [G.add]
   simp only[G.add,d,ac b]at C;obtain⟨D,H,Q,I,J,S⟩:=F C;have dF:g.β l<w.heap.size:=(fu.1 H).1;refine⟨D,?_,?_,I,aC.mono o _ _ J,?_⟩
   .grind [G.add,heap_alloc_old]
   .grind [G.add]
   grind [G.add]
 .intro l ag K E a;by_cases b:l=f.z
  .grind [St.new]
  .simp only[St.new,ac b]at a;have j:=h.mp l ag K E a;have dF:=j.blk_lt;exact j.keep o (h.map_lt a) (heap_alloc_old w _ _ dF) (by grind [G.add])
 .intro l k n a;by_cases b:l=f.z
  .grind [St.new]
  .simp only[St.new,ac b]at a;have j:=h.qu l k n a;have dF:=j.blk_lt;exact j.keep o (h.que_lt a) (heap_alloc_old w _ _ dF) (by grind [G.add])
def Inv.drop{w:World}{g:G}{c:St}(h:Inv w g c)(t:Nat)(p:t<c.z):Inv w g (c.set t .dead):=by
 have d:∀ l,blk g (c.set t .dead) l->l≠t/\blk g c l:=by
  intro l a;unfold blk at a ⊢;simp only[St.set]at a;by_cases b:l=t
  .grind
  .grind
 refine⟨h.z,h.pos,?_,fun l a=>h.lt l (d l a).2,fun l f a j=>h.inj l f (d l a).2 (d f j).2,?_,?_,?_,?_,h.aside.keep (Ext.refl w g) (jM rfl)⟩
 .intro l a;simp only[St.set]at a ⊢;rw[ac oO];exact h.fresh l a
 .intro l e s n a;by_cases b:l=t
  .grind [St.set]
  .simp only[St.set,ac b]at a;exact h.own l e s n a
 .intro l e s k a;by_cases b:l=t
  .grind [St.set]
  .simp only[St.set,ac b]at a;exact h.box l e s k a
 .intro l ag o m a;by_cases b:l=t
  .grind [St.set]
  .simp only[St.set,ac b]at a;exact h.mp l ag o m a
 .intro l e n a;by_cases b:l=t
  .grind [St.set]
  .simp only[St.set,ac b]at a;exact h.qu l e n a
def setRow_size(w:World)(b:Nat)(arr:Array Value):(w.setRow b arr).heap.size=w.heap.size:=by simp_all
def BD{w:World}{g a:G}{b k j:Nat}{d arr:Array Value}{e:TypeId}(m:w.heap[b]?=some (.cells d e (0,0)))(s:g.φ b=some k)(n:k<=j)
 (y:∀ o,o<k->arr[o]?=d[o]?) (t:∀ x,a.φ x=if x=b then some j else g.φ x) (p:g.z<=a.z) (f:∀ l,l<g.z->a.β l=g.β l)
 (h:∀ l,l<g.z->a.κ l=g.κ l) (v:∀ l,l<g.z->a.nl l=g.nl l):Ext w g (w.setRow b arr) a:=by
 refine⟨rfl,rfl,rfl,sS,p,f,h,v,?_,?_⟩
 .grind [setRow_other]
 .intro x q B c;by_cases r:x=b
  .subst r;rw[s]at c;injection c with c;subst c;refine⟨j,by grind,n,fun o A=>?_⟩;rw[cell_of_row _ x o arr e (0,0) (setRow_heap w x d arr e (0,0) m),cell_of_row _ x o d e (0,0) m]
   grind
  grind [World.cell?_of_block,setRow_other]
def yI{w:World}{g:G}{c:St}(h:Inv w g c){l:Nat}{e s:Nat}{B cs':List LV}{vs':List Value}(v:c.H l=.box e s B)(m:g.nl l=false)(D:vs'.length=g.κ l*s)(v7:cs'.length<=vs'.length)
 (Y:aC w g cs' (vs'.take cs'.length)):Inv (w.setRow (g.β l) vs'.toArray) g (c.set l (.box e s cs'))/\Ext w g (w.setRow (g.β l) vs'.toArray) g:=by
 obtain⟨k3,Z,P⟩:=h.box l e s B v;obtain⟨o8,Q,k2,k4,k5,R⟩:=P m;have q:Ext w g (w.setRow (g.β l) vs'.toArray) g:=BD Q R (au 0) (fun o N=>absurd N (tj _)) (fun x=>by grind) (au _) (fun _ _=>rfl) (fun _ _=>rfl) (fun _ _=>rfl);have p:blk g c l:=by unfold blk;rw[v];exact m
 have t:∀ x,blk g (c.set l (.box e s cs')) x↔blk g c x:=by
  intro x;unfold blk;simp only[St.set];by_cases a:x=l
  .grind
  .grind
 have dF:l<c.z:=by
  rcases dC l c.z with C|C
  .omega
  .rw[h.fresh l C]at v;grind
 refine⟨⟨h.z,h.pos,?_,?_,?_,?_,?_,?_,?_,h.aside.keep q (jM rfl)⟩,q⟩
 .intro x a;simp only[St.set]at a ⊢;rw[ac oO];exact h.fresh x a
 .intro x a;rw[setRow_size];exact h.lt x ((t x).1 a)
 .intro x y a O;exact h.inj x y ((t x).1 a) ((t y).1 O)
 .intro x k s n a;by_cases b:x=l
  .grind [St.set]
  .simp only[St.set,ac b]at a;obtain⟨J,K,L,M⟩:=h.own x k s n a;refine⟨J,K,L,fun m=>?_⟩;obtain⟨F,V,W,E⟩:=M m;have r:blk g c x:=by unfold blk;rw[a];exact m
   have f:g.β x≠g.β l:=fun d=>b (h.inj x l r p d)
   grind [setRow_other]
 .intro x k X j a;by_cases b:x=l
  .grind [St.set,setRow_heap,aC.mono]
  .simp only[St.set,ac b]at a;obtain⟨E,U,T⟩:=h.box x k X j a;refine⟨E,U,fun A=>?_⟩;obtain⟨F,V,W,q4,q5,q6⟩:=T A;have r:blk g c x:=by unfold blk;rw[a];exact A
   have f:g.β x≠g.β l:=fun d=>b (h.inj x l r p d)
   grind [setRow_other,aC.mono]
 .intro x ag S I a;by_cases b:x=l
  .grind [St.set]
  .simp only[St.set,ac b]at a;have f:g.β x≠g.β l:=fun d=>b (h.inj x l (h.map_blk a) p d);exact(h.mp x ag S I a).keep q (h.map_lt a) (setRow_other w _ _ _ f) rfl
 .intro x k n a;by_cases b:x=l
  .grind [St.set]
  .simp only[St.set,ac b]at a;have f:g.β x≠g.β l:=fun d=>b (h.inj x l (h.que_blk a) p d);exact(h.qu x k n a).keep q (h.que_lt a) (setRow_other w _ _ _ f) rfl
theorem aM{w:World}{g:G}:∀(cs:List LV) (vs:List Value),aC w g cs vs->cs.length=vs.length
 |[],vs,h=>by grind [aC]
 |c::cs,vs,h=>by simp only[aC]at h;obtain⟨v,a,rfl,_,b⟩:=h;simp[aM cs a b]
theorem fP{w:World}{g:G}:∀(n:Nat) (a:List LV) (b:List Value),aC w g a b->aC w g (a.take n) (b.take n)
 |0,a,b,_=>by grind [aC]
 |n+1,[],b,h=>by grind [aC]
 |n+1,c::a,b,h=>by simp only[aC]at h;obtain⟨v,d,rfl,e,f⟩:=h;simp only[List.take_succ_cons,aC];exact⟨v,_,rfl,e,fP n a d f⟩
theorem iV{w:World}{g:G}:∀(n:Nat) (a:List LV) (b:List Value),aC w g a b->aC w g (a.drop n) (b.drop n)
 |0,a,b,h=>h
 |n+1,[],b,h=>by grind [aC]
 |n+1,c::a,b,h=>by simp only[aC]at h;obtain⟨v,d,rfl,f,e⟩:=h;simp only[uu];exact iV n a d e
theorem vE{w:World}{g:G}:∀(n:Nat) (a:List LV) (b:List Value) (c:LV),aC w g a b->a[n]?=some c->∃ v,b[n]?=some v/\Rep w g c v
 |_,[],b,c,_,hc=>by grind
 |0,c::a,b,c',h,hc=>by
  grind [aC]
 |n+1,c::a,b,c',h,hc=>by simp only[aC]at h;obtain⟨v,d,rfl,f,e⟩:=h;simp only[List.getElem?_cons_succ]at hc ⊢;exact vE n a d c' e hc
theorem gK{w:World}{g:G}{b:Nat}:∀(m:Nat) (a:List LV) (o:Nat),aP w g b a o->aP w g b (a.drop m) (o+m)
 |0,a,o,h=>h
 |m+1,[],o,h=>by grind [aP]
 |m+1,c::a,o,h=>by
  simp only[aP]at h;have:=gK m a (o+1) h.2
  grind
theorem pZ{w:World}{g:G}{b:Nat}:∀(m:Nat) (a:List LV) (o:Nat),aP w g b a o->aP w g b (a.take m) o
 |0,a,o,_=>by grind [aP]
 |m+1,[],o,h=>by grind
 |m+1,c::a,o,h=>by simp only[aP]at h;simp only[List.take_succ_cons,aP];exact⟨h.1,pZ m a (o+1) h.2⟩
theorem gP{w:World}{g:G}{b:Nat}:∀(a:List LV) (o:Nat),aP w g b a o->∃ d,aC w g a d/\∀ j,j<a.length->w.cell? ⟨b,o+j,none⟩=d[j]?
 |[],o,_=>⟨[],by grind [aC],sS⟩
 |c::a,o,h=>by
  simp only[aP]at h;obtain⟨⟨v,e,f,_⟩,h3⟩:=h;obtain⟨d,l,m⟩:=gP a (o+1) h3;refine⟨v::d,by grind [aC],fun j k=>?_⟩
  grind
theorem iN{w:World}{g:G}{b:Nat}:∀(a:List LV) (d:List Value) (o:Nat),aC w g a d->(∀ j,j<a.length->w.cell? ⟨b,o+j,none⟩=d[j]?)->(∀ j,j<a.length->g.ok b (o+j))->aP w g b a o
 |[],_,_,_,_,_=>by grind [aP]
 |c::a,d,o,h,hc,hk=>by
  simp only[aC]at h;obtain⟨v,e,rfl,f,k⟩:=h;simp only[aP];refine⟨⟨v,by simpa using hc 0 sS,f,by simpa using hk 0 sS⟩,iN a e (o+1) k (fun j l=>?_) (fun j l=>?_)⟩
  .have:=hc (j+1) (by grind)
   grind
  .have:=hk (j+1) (by grind)
   grind
end Aw
end Go.Proofs.YtbgngpdonpeboaaGreatDoor
