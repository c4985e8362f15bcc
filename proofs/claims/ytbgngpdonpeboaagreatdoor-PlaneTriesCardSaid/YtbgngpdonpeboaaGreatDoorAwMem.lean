/- How memory's invariant lasts: a new block, a row written in place. No program is named here. -/
import Derived.Test.YtbgngpdonpeboaaGreatDoorAwWp
import Derived.Laws.CopyRow
set_option linter.unusedVariables false
set_option linter.unusedSimpArgs false
namespace Go.Proofs.YtbgngpdonpeboaaGreatDoor
namespace Aw
open Go Go.RowKit
theorem add_lit(b o n:Nat):(⟨b,o,none⟩:Addr).add n=⟨b,o+n,none⟩:=by grind [Addr.add]
def St.new(st:St)(o:cN):St:={ next:=st.next+1,H:=fun l=>if l=st.next then o else st.H l }
def St.set(st:St)(i:Nat)(o:cN):St:={ next:=st.next,H:=fun l=>if l=i then o else st.H l }
theorem oK{st:St}{o:cN}(ho:gR o=false)(l:Nat)(h:gR ((st.new o).H l)=true):(st.new o).H l=st.H l:=by
 grind [St.new]
theorem jJ{st:St}{m:Nat}{o:cN}(ho:gR o=false)(l:Nat)(h:gR ((st.set m o).H l)=true):(st.set m o).H l=st.H l:=by
 grind [St.set]
def G.add(g:G)(b k cap:Nat)(nl:Bool):G:=
 {next:=g.next+1,φ:=fun x=>if x=b then some k else g.φ x,β:=fun l=>if l=g.next then b else g.β l,
  κ:=fun l=>if l=g.next then cap else g.κ l,nl:=fun l=>if l=g.next then nl else g.nl l }
theorem dM(w:World)(g:G)(o:Obj)(k cap:Nat)(nl:Bool):Ext w g (w.alloc o) (g.add w.heap.size k cap nl):=by
 refine⟨rfl,rfl,rfl,sS,aDR _,?_,?_,?_,?_,?_⟩
 .grind [G.add]
 .grind [G.add]
 .grind [G.add]
 .grind [G.add,heap_alloc_old]
 grind [G.add,World.cell?_of_block,heap_alloc_old]
theorem dU(w:World)(g:G):Ext w g w.drew g:=
 ⟨rfl,rfl,rfl,aAl _,aAl _,fun _ _=>rfl,fun _ _=>rfl,fun _ _=>rfl,fun _ _ h=>⟨h,rfl⟩,fun _ k _ h=>⟨k,h,aAl _,fun _ _=>rfl⟩⟩
theorem Inv.drew{w:World}{g:G}{st:St}(h:Inv w g st):Inv w.drew g st:=
 ⟨h.next,h.pos,h.fresh,h.lt,h.inj,h.own,fun l e s cs hl=>by
   obtain⟨h0,h0',h'⟩:=h.box l e s cs hl;refine⟨h0,h0',fun r9=>?_⟩;obtain⟨n9,h1,h2,h4,h5,h6⟩:=h' r9
   exact⟨n9,h1,h2,h4,aC.mono (dU w g) _ _ h5,h6⟩,fun l ag ks es hl=>(h.mp l ag ks es hl).keep (dU w g) (h.map_lt hl) rfl rfl,fun l e n hl=>(h.qu l e n hl).keep (dU w g) (h.que_lt hl) rfl rfl,h.aside.keep (dU w g) fun _ _=>rfl⟩
theorem cQ{g:G}{st:St}{b k cap:Nat}{nl:Bool}{o:cN}(hn:g.next=st.next){l:Nat}(hl:l≠st.next):blk (g.add b k cap nl) (st.new o) l↔blk g st l:=by
 unfold blk
 grind [St.new,G.add]
theorem vK{w:World}{g:G}{st:St}(h:Inv w g st)(e:TypeId)(s cap:Nat){cs:List LV}{vs:List Value}(hs:vs.length=cap*s)(hm:cap<=maxLen)(u7:cs.length<=vs.length)(hr:aC w g cs (vs.take cs.length)):
 Inv (w.alloc (.cells vs.toArray e)) (g.add w.heap.size 0 cap false) (st.new (.box e s cs)):=by
 have he:=dM w g (.cells vs.toArray e) 0 cap false;have hn:=h.next;refine⟨by grind [G.add,St.new],by simp[St.new],?_,?_,?_,?_,?_,?_,?_,h.aside.keep he (oK rfl)⟩
 .intro l hl;simp only[St.new]at hl ⊢;rw[aAa oO];exact h.fresh l oO
 .intro l hl;by_cases e0:l=st.next
  .subst e0;simp[G.add,hn]
  .rw[cQ hn e0]at hl;have:=h.lt l hl;simp only[G.add,hn,aAa e0];simp;omega
 .intro l l' hl O5 hb;by_cases e0:l=st.next<;>by_cases e1:l'=st.next
  .omega
  .rw[cQ hn e1]at O5;have:=h.lt l' O5
   grind [G.add]
  .rw[cQ hn e0]at hl;have:=h.lt l hl
   grind [G.add]
  .rw[cQ hn e0]at hl;rw[cQ hn e1]at O5;simp only[G.add,hn,aAa e1,aAa e0]at hb;exact h.inj l l' hl O5 hb
 .intro l e' s n hl;by_cases e0:l=st.next
  .grind [St.new]
  .simp only[St.new,aAa e0]at hl;obtain⟨h1,h2,h3,h4⟩:=h.own l e' s n hl;simp only[G.add,hn,aAa e0]
   grind [heap_alloc_old]
 .intro l e' s' cs' hl;by_cases e0:l=st.next
  .simp only[St.new,aAj e0]at hl;injection hl with h1 h2 h3;subst h1 h2 h3;refine⟨?_,?_,fun _=>⟨vs,?_,?_,u7,aC.mono he _ _ hr,?_⟩⟩
   .grind [G.add]
   .grind [G.add]
   .grind [G.add,heap_alloc_new]
   .grind [G.add]
   grind [G.add]
  .simp only[St.new,aAa e0]at hl;obtain⟨k3,k0,k'⟩:=h.box l e' s' cs' hl;refine⟨?_,?_,fun r9=>?_⟩
   .grind [G.add]
   .grind [G.add]
   simp only[G.add,hn,aAa e0]at r9;obtain⟨S8,k1,k2,k4,k5,k6⟩:=k' r9;have dA:g.β l<w.heap.size:=(aAJ.1 k1).1;refine⟨S8,?_,?_,k4,aC.mono he _ _ k5,?_⟩
   .grind [G.add,heap_alloc_old]
   .grind [G.add]
   grind [G.add]
 .intro l ag ks es hl;by_cases e0:l=st.next
  .grind [St.new]
  .simp only[St.new,aAa e0]at hl;have hm:=h.mp l ag ks es hl;have dA:=hm.blk_lt;exact hm.keep he (h.map_lt hl) (heap_alloc_old w _ _ dA) (by grind [G.add])
 .intro l e' n hl;by_cases e0:l=st.next
  .grind [St.new]
  .simp only[St.new,aAa e0]at hl;have hm:=h.qu l e' n hl;have dA:=hm.blk_lt;exact hm.keep he (h.que_lt hl) (heap_alloc_old w _ _ dA) (by grind [G.add])
theorem FH{w:World}{g:G}{st:St}(h:Inv w g st)(e:TypeId)(s n cap:Nat)(n9:Array Value)(hs:n9.size=cap*s)(hc:n<=cap)(hm:cap<=maxLen):
 Inv (w.alloc (.cells n9 e)) (g.add w.heap.size (n*s) cap false) (st.new (.own e s n)):=by
 have he:=dM w g (.cells n9 e) (n*s) cap false;have hn:=h.next;refine⟨by grind [G.add,St.new],by simp[St.new],?_,?_,?_,?_,?_,?_,?_,h.aside.keep he (oK rfl)⟩
 .intro l hl;simp only[St.new]at hl ⊢;rw[aAa oO];exact h.fresh l oO
 .intro l hl;by_cases e0:l=st.next
  .subst e0;simp[G.add,hn]
  .rw[cQ hn e0]at hl;have:=h.lt l hl;simp only[G.add,hn,aAa e0];simp;omega
 .intro l l' hl O5 hb;by_cases e0:l=st.next<;>by_cases e1:l'=st.next
  .omega
  .rw[cQ hn e1]at O5;have:=h.lt l' O5
   grind [G.add]
  .rw[cQ hn e0]at hl;have:=h.lt l hl
   grind [G.add]
  .rw[cQ hn e0]at hl;rw[cQ hn e1]at O5;simp only[G.add,hn,aAa e1,aAa e0]at hb;exact h.inj l l' hl O5 hb
 .intro l e' s' n' hl;by_cases e0:l=st.next
  .simp only[St.new,aAj e0]at hl;injection hl with h1 h2 h3;subst h1 h2 h3;simp only[G.add,hn,aAj e0]
   grind [heap_alloc_new]
  .simp only[St.new,aAa e0]at hl;obtain⟨h1,h2,h3,h4⟩:=h.own l e' s' n' hl;simp only[G.add,hn,aAa e0]
   grind [heap_alloc_old]
 .intro l e' s' cs' hl;by_cases e0:l=st.next
  .grind [St.new]
  .simp only[St.new,aAa e0]at hl;obtain⟨k3,k0,k'⟩:=h.box l e' s' cs' hl;refine⟨?_,?_,fun r9=>?_⟩
   .grind [G.add]
   .grind [G.add]
   simp only[G.add,hn,aAa e0]at r9;obtain⟨S8,k1,k2,k4,k5,k6⟩:=k' r9;have dA:g.β l<w.heap.size:=(aAJ.1 k1).1;refine⟨S8,?_,?_,k4,aC.mono he _ _ k5,?_⟩
   .grind [G.add,heap_alloc_old]
   .grind [G.add]
   grind [G.add]
 .intro l ag ks es hl;by_cases e0:l=st.next
  .grind [St.new]
  .simp only[St.new,aAa e0]at hl;have hm:=h.mp l ag ks es hl;have dA:=hm.blk_lt;exact hm.keep he (h.map_lt hl) (heap_alloc_old w _ _ dA) (by grind [G.add])
 .intro l e' n hl;by_cases e0:l=st.next
  .grind [St.new]
  .simp only[St.new,aAa e0]at hl;have hm:=h.qu l e' n hl;have dA:=hm.blk_lt;exact hm.keep he (h.que_lt hl) (heap_alloc_old w _ _ dA) (by grind [G.add])
theorem Inv.drop{w:World}{g:G}{st:St}(h:Inv w g st)(t:Nat)(ht:t<st.next):Inv w g (st.set t .dead):=by
 have hb:∀ l,blk g (st.set t .dead) l->l≠t/\blk g st l:=by
  intro l hl;unfold blk at hl ⊢;simp only[St.set]at hl;by_cases e0:l=t
  .grind
  .grind
 refine⟨h.next,h.pos,?_,fun l hl=>h.lt l (hb l hl).2,fun l l' hl O5=>h.inj l l' (hb l hl).2 (hb l' O5).2,?_,?_,?_,?_,h.aside.keep (Ext.refl w g) (jJ rfl)⟩
 .intro l hl;simp only[St.set]at hl ⊢;rw[aAa oO];exact h.fresh l hl
 .intro l e s n hl;by_cases e0:l=t
  .grind [St.set]
  .simp only[St.set,aAa e0]at hl;exact h.own l e s n hl
 .intro l e s cs hl;by_cases e0:l=t
  .grind [St.set]
  .simp only[St.set,aAa e0]at hl;exact h.box l e s cs hl
 .intro l ag ks es hl;by_cases e0:l=t
  .grind [St.set]
  .simp only[St.set,aAa e0]at hl;exact h.mp l ag ks es hl
 .intro l e n hl;by_cases e0:l=t
  .grind [St.set]
  .simp only[St.set,aAa e0]at hl;exact h.qu l e n hl
theorem setRow_size(w:World)(b:Nat)(arr:Array Value):(w.setRow b arr).heap.size=w.heap.size:=by simp_all
theorem CG{w:World}{g g':G}{b k k':Nat}{n9 arr:Array Value}{e:TypeId}(hb:w.heap[b]?=some (.cells n9 e (0,0)))(hk:g.φ b=some k)(P0:k<=k')
 (hsame:∀ o,o<k->arr[o]?=n9[o]?) (hφ:∀ x,g'.φ x=if x=b then some k' else g.φ x) (S1:g.next<=g'.next) (hβ:∀ l,l<g.next->g'.β l=g.β l)
 (hκ:∀ l,l<g.next->g'.κ l=g.κ l) (r9:∀ l,l<g.next->g'.nl l=g.nl l):Ext w g (w.setRow b arr) g':=by
 refine⟨rfl,rfl,rfl,sS,S1,hβ,hκ,r9,?_,?_⟩
 .grind [setRow_other]
 .intro x q hx hq;by_cases c7:x=b
  .subst c7;rw[hk]at hq;injection hq with hq;subst hq;refine⟨k',by grind,P0,fun o ho=>?_⟩;rw[cell_of_row _ x o arr e (0,0) (setRow_heap w x n9 arr e (0,0) hb),cell_of_row _ x o n9 e (0,0) hb]
   grind
  grind [World.cell?_of_block,setRow_other]
theorem rS{w:World}{g:G}{st:St}(h:Inv w g st){l:Nat}{e s:Nat}{cs cs':List LV}{vs':List Value}(hl:st.H l=.box e s cs)(r9:g.nl l=false)(hlen:vs'.length=g.κ l*s)(u7:cs'.length<=vs'.length)
 (hr:aC w g cs' (vs'.take cs'.length)):Inv (w.setRow (g.β l) vs'.toArray) g (st.set l (.box e s cs'))/\Ext w g (w.setRow (g.β l) vs'.toArray) g:=by
 obtain⟨k3,k0,k'⟩:=h.box l e s cs hl;obtain⟨n9,k1,k2,k4,k5,k6⟩:=k' r9;have he:Ext w g (w.setRow (g.β l) vs'.toArray) g:=CG k1 k6 (aAl 0) (fun o ho=>absurd ho (aDN _)) (fun x=>by grind) (aAl _) (fun _ _=>rfl) (fun _ _=>rfl) (fun _ _=>rfl);have U4:blk g st l:=by unfold blk;rw[hl];exact r9
 have hb:∀ x,blk g (st.set l (.box e s cs')) x↔blk g st x:=by
  intro x;unfold blk;simp only[St.set];by_cases hx:x=l
  .grind
  .grind
 have dA:l<st.next:=by
  rcases aAM l st.next with h0|h0
  .omega
  .rw[h.fresh l h0]at hl;grind
 refine⟨⟨h.next,h.pos,?_,?_,?_,?_,?_,?_,?_,h.aside.keep he (jJ rfl)⟩,he⟩
 .intro x hx;simp only[St.set]at hx ⊢;rw[aAa oO];exact h.fresh x hx
 .intro x hx;rw[setRow_size];exact h.lt x ((hb x).1 hx)
 .intro x y hx hy;exact h.inj x y ((hb x).1 hx) ((hb y).1 hy)
 .intro x e' s n hx;by_cases e0:x=l
  .grind [St.set]
  .simp only[St.set,aAa e0]at hx;obtain⟨h1,h2,h3,h4⟩:=h.own x e' s n hx;refine⟨h1,h2,h3,fun r9=>?_⟩;obtain⟨S8,q1,q2,q3⟩:=h4 r9;have hbx:blk g st x:=by unfold blk;rw[hx];exact r9
   have c7:g.β x≠g.β l:=fun hh=>e0 (h.inj x l hbx U4 hh)
   grind [setRow_other]
 .intro x e' s' cs'' hx;by_cases e0:x=l
  .grind [St.set,setRow_heap,aC.mono]
  .simp only[St.set,aAa e0]at hx;obtain⟨q3,q0,q'⟩:=h.box x e' s' cs'' hx;refine⟨q3,q0,fun U9=>?_⟩;obtain⟨S8,q1,q2,q4,q5,q6⟩:=q' U9;have hbx:blk g st x:=by unfold blk;rw[hx];exact U9
   have c7:g.β x≠g.β l:=fun hh=>e0 (h.inj x l hbx U4 hh)
   grind [setRow_other,aC.mono]
 .intro x ag ks es hx;by_cases e0:x=l
  .grind [St.set]
  .simp only[St.set,aAa e0]at hx;have c7:g.β x≠g.β l:=fun hh=>e0 (h.inj x l (h.map_blk hx) U4 hh);exact(h.mp x ag ks es hx).keep he (h.map_lt hx) (setRow_other w _ _ _ c7) rfl
 .intro x e' n hx;by_cases e0:x=l
  .grind [St.set]
  .simp only[St.set,aAa e0]at hx;have c7:g.β x≠g.β l:=fun hh=>e0 (h.inj x l (h.que_blk hx) U4 hh);exact(h.qu x e' n hx).keep he (h.que_lt hx) (setRow_other w _ _ _ c7) rfl
theorem aJ{w:World}{g:G}:∀(cs:List LV) (vs:List Value),aC w g cs vs->cs.length=vs.length
 |[],vs,h=>by grind [aC]
 |c::cs,vs,h=>by simp only[aC]at h;obtain⟨v,vs',rfl,_,h2⟩:=h;simp[aJ cs vs' h2]
theorem dK{w:World}{g:G}:∀(n:Nat) (cs:List LV) (vs:List Value),aC w g cs vs->aC w g (cs.take n) (vs.take n)
 |0,cs,vs,_=>by grind [aC]
 |n+1,[],vs,h=>by grind [aC]
 |n+1,c::cs,vs,h=>by simp only[aC]at h;obtain⟨v,vs',rfl,h1,h2⟩:=h;simp only[List.take_succ_cons,aC];exact⟨v,_,rfl,h1,dK n cs vs' h2⟩
theorem gM{w:World}{g:G}:∀(n:Nat) (cs:List LV) (vs:List Value),aC w g cs vs->aC w g (cs.drop n) (vs.drop n)
 |0,cs,vs,h=>h
 |n+1,[],vs,h=>by grind [aC]
 |n+1,c::cs,vs,h=>by simp only[aC]at h;obtain⟨v,vs',rfl,h1,h2⟩:=h;simp only[aDk];exact gM n cs vs' h2
theorem uV{w:World}{g:G}:∀(n:Nat) (cs:List LV) (vs:List Value) (c:LV),aC w g cs vs->cs[n]?=some c->∃ v,vs[n]?=some v/\Rep w g c v
 |_,[],vs,c,_,hc=>by grind
 |0,c::cs,vs,c',h,hc=>by
  grind [aC]
 |n+1,c::cs,vs,c',h,hc=>by simp only[aC]at h;obtain⟨v,vs',rfl,h1,h2⟩:=h;simp only[List.getElem?_cons_succ]at hc ⊢;exact uV n cs vs' c' h2 hc
theorem gN{w:World}{g:G}{b:Nat}:∀(m:Nat) (cs:List LV) (o:Nat),aN w g b cs o->aN w g b (cs.drop m) (o+m)
 |0,cs,o,h=>h
 |m+1,[],o,h=>by grind [aN]
 |m+1,c::cs,o,h=>by
  simp only[aN]at h;have:=gN m cs (o+1) h.2
  grind
theorem qH{w:World}{g:G}{b:Nat}:∀(m:Nat) (cs:List LV) (o:Nat),aN w g b cs o->aN w g b (cs.take m) o
 |0,cs,o,_=>by grind [aN]
 |m+1,[],o,h=>by grind
 |m+1,c::cs,o,h=>by simp only[aN]at h;simp only[List.take_succ_cons,aN];exact⟨h.1,qH m cs (o+1) h.2⟩
theorem gQ{w:World}{g:G}{b:Nat}:∀(cs:List LV) (o:Nat),aN w g b cs o->∃ vs,aC w g cs vs/\∀ j,j<cs.length->w.cell? ⟨b,o+j,none⟩=vs[j]?
 |[],o,_=>⟨[],by grind [aC],sS⟩
 |c::cs,o,h=>by
  simp only[aN]at h;obtain⟨⟨v,h1,h2,_⟩,h3⟩:=h;obtain⟨vs,k1,k2⟩:=gQ cs (o+1) h3;refine⟨v::vs,by grind [aC],fun j hj=>?_⟩
  grind
theorem jC{w:World}{g:G}{b:Nat}:∀(cs:List LV) (vs:List Value) (o:Nat),aC w g cs vs->(∀ j,j<cs.length->w.cell? ⟨b,o+j,none⟩=vs[j]?)->(∀ j,j<cs.length->g.ok b (o+j))->aN w g b cs o
 |[],_,_,_,_,_=>by grind [aN]
 |c::cs,vs,o,h,hc,hk=>by
  simp only[aC]at h;obtain⟨v,vs',rfl,h1,h2⟩:=h;simp only[aN];refine⟨⟨v,by simpa using hc 0 sS,h1,by simpa using hk 0 sS⟩,jC cs vs' (o+1) h2 (fun j hj=>?_) (fun j hj=>?_)⟩
  .have:=hc (j+1) (by grind)
   grind
  .have:=hk (j+1) (by grind)
   grind
end Aw
end Go.Proofs.YtbgngpdonpeboaaGreatDoor
