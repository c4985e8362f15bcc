/- How memory's invariant lasts: a new block, a row written in place. No program is named here. -/
import Derived.Test.YtempldclppogmaaGreatDoorAwWp
import Derived.Laws.CopyRow
set_option linter.unusedVariables false
set_option linter.unusedSimpArgs false
namespace Go.Proofs.YtempldclppogmaaGreatDoor
namespace Aw
open Go Go.RowKit
theorem add_lit(b o n:Nat):(⟨b,o,none⟩:Addr).add n=⟨b,o+n,none⟩:=by unfold Addr.add;split<;>simp_all
def St.new(st:St)(o:cI):St:={ next:=st.next+1,H:=fun l=>if l=st.next then o else st.H l }
def St.set(st:St)(i:Nat)(o:cI):St:={ next:=st.next,H:=fun l=>if l=i then o else st.H l }
theorem nR{st:St}{o:cI}(ho:fV o=false)(l:Nat)(h:fV ((st.new o).H l)=true):(st.new o).H l=st.H l:=by
 simp only[St.new]at h ⊢;by_cases e:l=st.next
 .rw[aAe e,ho]at h;cases h
 .rw[aAa e]
theorem iW{st:St}{m:Nat}{o:cI}(ho:fV o=false)(l:Nat)(h:fV ((st.set m o).H l)=true):(st.set m o).H l=st.H l:=by
 simp only[St.set]at h ⊢;by_cases e:l=m
 .rw[aAe e,ho]at h;cases h
 .rw[aAa e]
def G.add(g:G)(b k cap:Nat)(nl:Bool):G:=
 {next:=g.next+1,φ:=fun x=>if x=b then some k else g.φ x,β:=fun l=>if l=g.next then b else g.β l,
  κ:=fun l=>if l=g.next then cap else g.κ l,nl:=fun l=>if l=g.next then nl else g.nl l }
theorem dB(w:World)(g:G)(o:Obj)(k cap:Nat)(nl:Bool):Ext w g (w.alloc o) (g.add w.heap.size k cap nl):=by
 refine⟨rfl,rfl,rfl,sS,aDX _,?_,?_,?_,?_,?_⟩
 .intro l hl;simp[G.add,aBu hl]
 .intro l hl;simp[G.add,aBu hl]
 .intro l hl;simp[G.add,aBu hl]
 .intro b hb hn;exact⟨by simp[G.add,aBu hb,hn],heap_alloc_old w o b hb⟩
 .intro b q hb hq;exact⟨q,by simp[G.add,aBu hb,hq],aAk _,fun _ _=>World.cell?_of_block (w:=w) (heap_alloc_old w o b hb)⟩
theorem dH(w:World)(g:G):Ext w g w.drew g:=
 ⟨rfl,rfl,rfl,aAk _,aAk _,fun _ _=>rfl,fun _ _=>rfl,fun _ _=>rfl,fun _ _ h=>⟨h,rfl⟩,fun _ k _ h=>⟨k,h,aAk _,fun _ _=>rfl⟩⟩
theorem Inv.drew{w:World}{g:G}{st:St}(h:Inv w g st):Inv w.drew g st:=
 ⟨h.next,h.pos,h.fresh,h.lt,h.inj,h.own,fun l e s cs hl=>by
   obtain⟨h0,S6,h'⟩:=h.box l e s cs hl;refine⟨h0,S6,fun Xi=>?_⟩;obtain⟨Xk,h1,h2,h4,h5,h6⟩:=h' Xi
   exact⟨Xk,h1,h2,h4,aC.mono (dH w g) _ _ h5,h6⟩,fun l ag ks es hl=>(h.mp l ag ks es hl).keep (dH w g) (h.map_lt hl) rfl rfl,fun l e n hl=>(h.qu l e n hl).keep (dH w g) (h.que_lt hl) rfl rfl,h.aside.keep (dH w g) fun _ _=>rfl⟩
theorem cQ{g:G}{st:St}{b k cap:Nat}{nl:Bool}{o:cI}(hn:g.next=st.next){l:Nat}(hl:l≠st.next):blk (g.add b k cap nl) (st.new o) l↔blk g st l:=by unfold blk;simp only[St.new,aAa hl,G.add,hn]
theorem tI{w:World}{g:G}{st:St}(h:Inv w g st)(e:TypeId)(s cap:Nat){cs:List LV}{vs:List Value}(hs:vs.length=cap*s)(hm:cap<=maxLen)(Xm:cs.length<=vs.length)(hr:aC w g cs (vs.take cs.length)):
 Inv (w.alloc (.cells vs.toArray e)) (g.add w.heap.size 0 cap false) (st.new (.box e s cs)):=by
 have he:=dB w g (.cells vs.toArray e) 0 cap false;have hn:=h.next;refine⟨by simp[G.add,St.new,hn],by simp[St.new],?_,?_,?_,?_,?_,?_,?_,h.aside.keep he (nR rfl)⟩
 .intro l hl;simp only[St.new]at hl ⊢;rw[aAa oO];exact h.fresh l oO
 .intro l hl;by_cases e0:l=st.next
  .subst e0;simp[G.add,hn]
  .rw[cQ hn e0]at hl;have:=h.lt l hl;simp only[G.add,hn,aAa e0];simp;omega
 .intro l l' hl Yn hb;by_cases e0:l=st.next<;>by_cases e1:l'=st.next
  .omega
  .rw[cQ hn e1]at Yn;have:=h.lt l' Yn;simp only[G.add,hn,aAe e0,aAa e1]at hb;omega
  .rw[cQ hn e0]at hl;have:=h.lt l hl;simp only[G.add,hn,aAe e1,aAa e0]at hb;omega
  .rw[cQ hn e0]at hl;rw[cQ hn e1]at Yn;simp only[G.add,hn,aAa e1,aAa e0]at hb;exact h.inj l l' hl Yn hb
 .intro l e' s n hl;by_cases e0:l=st.next
  .simp[St.new,e0]at hl
  .simp only[St.new,aAa e0]at hl;obtain⟨h1,h2,h3,h4⟩:=h.own l e' s n hl;simp only[G.add,hn,aAa e0];refine⟨h1,h2,h3,fun Xi=>?_⟩;obtain⟨Xk,k1,k2,k3⟩:=h4 Xi;have GD:g.β l<w.heap.size:=(aAw.1 k1).1;exact⟨Xk,by rw[heap_alloc_old w _ _ GD];exact k1,k2,by rw[aAa oO];exact k3⟩
 .intro l e' s' cs' hl;by_cases e0:l=st.next
  .simp only[St.new,aAe e0]at hl;injection hl with h1 h2 h3;subst h1 h2 h3;refine⟨?_,?_,fun _=>⟨vs,?_,?_,Xm,aC.mono he _ _ hr,?_⟩⟩
   .simp only[G.add,hn,aAe e0];exact hm
   .simp[G.add,hn,e0]
   .simp only[G.add,hn,aAe e0];exact heap_alloc_new w _
   .simp only[G.add,hn,aAe e0];exact hs
   .simp[G.add,hn,e0]
  .simp only[St.new,aAa e0]at hl;obtain⟨k3,k0,k'⟩:=h.box l e' s' cs' hl;refine⟨?_,?_,fun Xi=>?_⟩
   .simp only[G.add,hn,aAa e0];exact k3
   .simp only[G.add,hn,aAa e0];exact k0
   simp only[G.add,hn,aAa e0]at Xi;obtain⟨Ym,k1,k2,k4,k5,k6⟩:=k' Xi;have GD:g.β l<w.heap.size:=(aAw.1 k1).1;refine⟨Ym,?_,?_,k4,aC.mono he _ _ k5,?_⟩
   .simp only[G.add,hn,aAa e0];rw[heap_alloc_old w _ _ GD];exact k1
   .simp only[G.add,hn,aAa e0];exact k2
   .simp only[G.add,hn,aAa e0];rw[aAa oO];exact k6
 .intro l ag ks es hl;by_cases e0:l=st.next
  .simp[St.new,e0]at hl
  .simp only[St.new,aAa e0]at hl;have hm:=h.mp l ag ks es hl;have GD:=hm.blk_lt;exact hm.keep he (h.map_lt hl) (heap_alloc_old w _ _ GD) (by simp only[G.add];rw[aAa oO])
 .intro l e' n hl;by_cases e0:l=st.next
  .simp[St.new,e0]at hl
  .simp only[St.new,aAa e0]at hl;have hm:=h.qu l e' n hl;have GD:=hm.blk_lt;exact hm.keep he (h.que_lt hl) (heap_alloc_old w _ _ GD) (by simp only[G.add];rw[aAa oO])
theorem Dz{w:World}{g:G}{st:St}(h:Inv w g st)(e:TypeId)(s n cap:Nat)(Xk:Array Value)(hs:Xk.size=cap*s)(hc:n<=cap)(hm:cap<=maxLen):
 Inv (w.alloc (.cells Xk e)) (g.add w.heap.size (n*s) cap false) (st.new (.own e s n)):=by
 have he:=dB w g (.cells Xk e) (n*s) cap false;have hn:=h.next;refine⟨by simp[G.add,St.new,hn],by simp[St.new],?_,?_,?_,?_,?_,?_,?_,h.aside.keep he (nR rfl)⟩
 .intro l hl;simp only[St.new]at hl ⊢;rw[aAa oO];exact h.fresh l oO
 .intro l hl;by_cases e0:l=st.next
  .subst e0;simp[G.add,hn]
  .rw[cQ hn e0]at hl;have:=h.lt l hl;simp only[G.add,hn,aAa e0];simp;omega
 .intro l l' hl Yn hb;by_cases e0:l=st.next<;>by_cases e1:l'=st.next
  .omega
  .rw[cQ hn e1]at Yn;have:=h.lt l' Yn;simp only[G.add,hn,aAe e0,aAa e1]at hb;omega
  .rw[cQ hn e0]at hl;have:=h.lt l hl;simp only[G.add,hn,aAe e1,aAa e0]at hb;omega
  .rw[cQ hn e0]at hl;rw[cQ hn e1]at Yn;simp only[G.add,hn,aAa e1,aAa e0]at hb;exact h.inj l l' hl Yn hb
 .intro l e' s' n' hl;by_cases e0:l=st.next
  .simp only[St.new,aAe e0]at hl;injection hl with h1 h2 h3;subst h1 h2 h3;simp only[G.add,hn,aAe e0];exact⟨hc,hm,sS,fun _=>⟨Xk,heap_alloc_new w _,hs,sS⟩⟩
  .simp only[St.new,aAa e0]at hl;obtain⟨h1,h2,h3,h4⟩:=h.own l e' s' n' hl;simp only[G.add,hn,aAa e0];refine⟨h1,h2,h3,fun Xi=>?_⟩;obtain⟨Ym,k1,k2,k3⟩:=h4 Xi;have GD:g.β l<w.heap.size:=(aAw.1 k1).1;exact⟨Ym,by rw[heap_alloc_old w _ _ GD];exact k1,k2,by rw[aAa oO];exact k3⟩
 .intro l e' s' cs' hl;by_cases e0:l=st.next
  .simp[St.new,e0]at hl
  .simp only[St.new,aAa e0]at hl;obtain⟨k3,k0,k'⟩:=h.box l e' s' cs' hl;refine⟨?_,?_,fun Xi=>?_⟩
   .simp only[G.add,hn,aAa e0];exact k3
   .simp only[G.add,hn,aAa e0];exact k0
   simp only[G.add,hn,aAa e0]at Xi;obtain⟨Ym,k1,k2,k4,k5,k6⟩:=k' Xi;have GD:g.β l<w.heap.size:=(aAw.1 k1).1;refine⟨Ym,?_,?_,k4,aC.mono he _ _ k5,?_⟩
   .simp only[G.add,hn,aAa e0];rw[heap_alloc_old w _ _ GD];exact k1
   .simp only[G.add,hn,aAa e0];exact k2
   .simp only[G.add,hn,aAa e0];rw[aAa oO];exact k6
 .intro l ag ks es hl;by_cases e0:l=st.next
  .simp[St.new,e0]at hl
  .simp only[St.new,aAa e0]at hl;have hm:=h.mp l ag ks es hl;have GD:=hm.blk_lt;exact hm.keep he (h.map_lt hl) (heap_alloc_old w _ _ GD) (by simp only[G.add];rw[aAa oO])
 .intro l e' n hl;by_cases e0:l=st.next
  .simp[St.new,e0]at hl
  .simp only[St.new,aAa e0]at hl;have hm:=h.qu l e' n hl;have GD:=hm.blk_lt;exact hm.keep he (h.que_lt hl) (heap_alloc_old w _ _ GD) (by simp only[G.add];rw[aAa oO])
theorem Inv.drop{w:World}{g:G}{st:St}(h:Inv w g st)(t:Nat)(ht:t<st.next):Inv w g (st.set t .dead):=by
 have hb:∀ l,blk g (st.set t .dead) l->l≠t/\blk g st l:=by
  intro l hl;unfold blk at hl ⊢;simp only[St.set]at hl;by_cases e0:l=t
  .simp[e0]at hl
  .rw[aAa e0]at hl;exact⟨e0,hl⟩
 refine⟨h.next,h.pos,?_,fun l hl=>h.lt l (hb l hl).2,fun l l' hl Yn=>h.inj l l' (hb l hl).2 (hb l' Yn).2,?_,?_,?_,?_,h.aside.keep (Ext.refl w g) (iW rfl)⟩
 .intro l hl;simp only[St.set]at hl ⊢;rw[aAa oO];exact h.fresh l hl
 .intro l e s n hl;by_cases e0:l=t
  .simp[St.set,e0]at hl
  .simp only[St.set,aAa e0]at hl;exact h.own l e s n hl
 .intro l e s cs hl;by_cases e0:l=t
  .simp[St.set,e0]at hl
  .simp only[St.set,aAa e0]at hl;exact h.box l e s cs hl
 .intro l ag ks es hl;by_cases e0:l=t
  .simp[St.set,e0]at hl
  .simp only[St.set,aAa e0]at hl;exact h.mp l ag ks es hl
 .intro l e n hl;by_cases e0:l=t
  .simp[St.set,e0]at hl
  .simp only[St.set,aAa e0]at hl;exact h.qu l e n hl
theorem setRow_size(w:World)(b:Nat)(arr:Array Value):(w.setRow b arr).heap.size=w.heap.size:=by simp[World.setRow]
theorem Ba{w:World}{g g':G}{b k k':Nat}{Xk arr:Array Value}{e:TypeId}(hb:w.heap[b]?=some (.cells Xk e (0,0)))(hk:g.φ b=some k)(ZU:k<=k')
 (H6:∀ o,o<k->arr[o]?=Xk[o]?) (L0:∀ x,g'.φ x=if x=b then some k' else g.φ x) (Yu:g.next<=g'.next) (R6:∀ l,l<g.next->g'.β l=g.β l)
 (hκ:∀ l,l<g.next->g'.κ l=g.κ l) (Xi:∀ l,l<g.next->g'.nl l=g.nl l):Ext w g (w.setRow b arr) g':=by
 refine⟨rfl,rfl,rfl,sS,Yu,R6,hκ,Xi,?_,?_⟩
 .intro x hx hn;have Wu:x≠b:=by rintro rfl;rw[hk]at hn;cases hn
  exact⟨by rw[L0,aAa Wu];exact hn,setRow_other w b x arr Wu⟩
 .intro x q hx hq;by_cases Wu:x=b
  .subst Wu;rw[hk]at hq;injection hq with hq;subst hq;refine⟨k',by rw[L0,aAe rfl],ZU,fun o ho=>?_⟩;rw[cell_of_row _ x o arr e (0,0) (setRow_heap w x Xk arr e (0,0) hb),cell_of_row _ x o Xk e (0,0) hb];exact H6 o ho
  .exact⟨q,by rw[L0,aAa Wu];exact hq,aAk _,fun o _=>World.cell?_of_block (w:=w) (setRow_other w b x arr Wu)⟩
theorem xY{w:World}{g:G}{st:St}(h:Inv w g st){l:Nat}{e s:Nat}{cs cs':List LV}{vs':List Value}(hl:st.H l=.box e s cs)(Xi:g.nl l=false)(hlen:vs'.length=g.κ l*s)(Xm:cs'.length<=vs'.length)
 (hr:aC w g cs' (vs'.take cs'.length)):Inv (w.setRow (g.β l) vs'.toArray) g (st.set l (.box e s cs'))/\Ext w g (w.setRow (g.β l) vs'.toArray) g:=by
 obtain⟨k3,k0,k'⟩:=h.box l e s cs hl;obtain⟨Xk,k1,k2,k4,k5,k6⟩:=k' Xi;have he:Ext w g (w.setRow (g.β l) vs'.toArray) g:=Ba k1 k6 (aAk 0) (fun o ho=>absurd ho (aEq _)) (fun x=>by by_cases hx:x=g.β l<;>simp[hx,k6]) (aAk _) (fun _ _=>rfl) (fun _ _=>rfl) (fun _ _=>rfl);have ZQ:blk g st l:=by unfold blk;rw[hl];exact Xi
 have hb:∀ x,blk g (st.set l (.box e s cs')) x↔blk g st x:=by
  intro x;unfold blk;simp only[St.set];by_cases hx:x=l
  .subst hx;simp[hl]
  .rw[aAa hx]
 have GD:l<st.next:=by
  rcases aAN l st.next with h0|h0
  .exact h0
  .rw[h.fresh l h0]at hl;cases hl
 refine⟨⟨h.next,h.pos,?_,?_,?_,?_,?_,?_,?_,h.aside.keep he (iW rfl)⟩,he⟩
 .intro x hx;simp only[St.set]at hx ⊢;rw[aAa oO];exact h.fresh x hx
 .intro x hx;rw[setRow_size];exact h.lt x ((hb x).1 hx)
 .intro x y hx hy;exact h.inj x y ((hb x).1 hx) ((hb y).1 hy)
 .intro x e' s n hx;by_cases e0:x=l
  .simp[St.set,e0]at hx
  .simp only[St.set,aAa e0]at hx;obtain⟨h1,h2,h3,h4⟩:=h.own x e' s n hx;refine⟨h1,h2,h3,fun Xi=>?_⟩;obtain⟨Ym,q1,q2,q3⟩:=h4 Xi;have E9:blk g st x:=by unfold blk;rw[hx];exact Xi
   have Wu:g.β x≠g.β l:=fun hh=>e0 (h.inj x l E9 ZQ hh);exact⟨Ym,by rw[setRow_other w _ _ _ Wu];exact q1,q2,q3⟩
 .intro x e' s' cs'' hx;by_cases e0:x=l
  .simp only[St.set,aAe e0]at hx;injection hx with h1 h2 h3;subst h1 h2 h3 e0;exact⟨k3,(fun h'=>by rw[Xi]at h';cases h'),fun _=>⟨vs',setRow_heap w _ _ _ _ _ k1,hlen,Xm,aC.mono he _ _ hr,k6⟩⟩
  .simp only[St.set,aAa e0]at hx;obtain⟨q3,q0,q'⟩:=h.box x e' s' cs'' hx;refine⟨q3,q0,fun Zn=>?_⟩;obtain⟨Ym,q1,q2,q4,q5,q6⟩:=q' Zn;have E9:blk g st x:=by unfold blk;rw[hx];exact Zn
   have Wu:g.β x≠g.β l:=fun hh=>e0 (h.inj x l E9 ZQ hh);exact⟨Ym,by rw[setRow_other w _ _ _ Wu];exact q1,q2,q4,aC.mono he _ _ q5,q6⟩
 .intro x ag ks es hx;by_cases e0:x=l
  .simp[St.set,e0]at hx
  .simp only[St.set,aAa e0]at hx;have Wu:g.β x≠g.β l:=fun hh=>e0 (h.inj x l (h.map_blk hx) ZQ hh);exact(h.mp x ag ks es hx).keep he (h.map_lt hx) (setRow_other w _ _ _ Wu) rfl
 .intro x e' n hx;by_cases e0:x=l
  .simp[St.set,e0]at hx
  .simp only[St.set,aAa e0]at hx;have Wu:g.β x≠g.β l:=fun hh=>e0 (h.inj x l (h.que_blk hx) ZQ hh);exact(h.qu x e' n hx).keep he (h.que_lt hx) (setRow_other w _ _ _ Wu) rfl
theorem aL{w:World}{g:G}:∀(cs:List LV) (vs:List Value),aC w g cs vs->cs.length=vs.length
 |[],vs,h=>by simp only[aC]at h;subst h;rfl
 |c::cs,vs,h=>by simp only[aC]at h;obtain⟨v,vs',rfl,_,h2⟩:=h;simp[aL cs vs' h2]
theorem dU{w:World}{g:G}:∀(n:Nat) (cs:List LV) (vs:List Value),aC w g cs vs->aC w g (cs.take n) (vs.take n)
 |0,cs,vs,_=>by simp only[List.take_zero,aC]
 |n+1,[],vs,h=>by simp only[aC]at h;subst h;simp only[aEQ,aC]
 |n+1,c::cs,vs,h=>by simp only[aC]at h;obtain⟨v,vs',rfl,h1,h2⟩:=h;simp only[List.take_succ_cons,aC];exact⟨v,_,rfl,h1,dU n cs vs' h2⟩
theorem iE{w:World}{g:G}:∀(n:Nat) (cs:List LV) (vs:List Value),aC w g cs vs->aC w g (cs.drop n) (vs.drop n)
 |0,cs,vs,h=>h
 |n+1,[],vs,h=>by simp only[aC]at h;subst h;simp only[aEc,aC]
 |n+1,c::cs,vs,h=>by simp only[aC]at h;obtain⟨v,vs',rfl,h1,h2⟩:=h;simp only[aCz];exact iE n cs vs' h2
theorem tT{w:World}{g:G}:∀(n:Nat) (cs:List LV) (vs:List Value) (c:LV),aC w g cs vs->cs[n]?=some c->∃ v,vs[n]?=some v/\Rep w g c v
 |_,[],vs,c,_,hc=>by simp at hc
 |0,c::cs,vs,c',h,hc=>by simp only[aC]at h;obtain⟨v,vs',rfl,h1,h2⟩:=h;simp at hc;subst hc;exact⟨v,rfl,h1⟩
 |n+1,c::cs,vs,c',h,hc=>by simp only[aC]at h;obtain⟨v,vs',rfl,h1,h2⟩:=h;simp only[List.getElem?_cons_succ]at hc ⊢;exact tT n cs vs' c' h2 hc
theorem fY{w:World}{g:G}{b:Nat}:∀(m:Nat) (cs:List LV) (o:Nat),aU w g b cs o->aU w g b (cs.drop m) (o+m)
 |0,cs,o,h=>h
 |m+1,[],o,h=>by simp only[aEc,aU]
 |m+1,c::cs,o,h=>by simp only[aU]at h;have:=fY m cs (o+1) h.2;rw[show o+(m+1)=o+1+m by omega];simpa using this
theorem pD{w:World}{g:G}{b:Nat}:∀(m:Nat) (cs:List LV) (o:Nat),aU w g b cs o->aU w g b (cs.take m) o
 |0,cs,o,_=>by simp only[List.take_zero,aU]
 |m+1,[],o,h=>by simp only[aEQ,aU]
 |m+1,c::cs,o,h=>by simp only[aU]at h;simp only[List.take_succ_cons,aU];exact⟨h.1,pD m cs (o+1) h.2⟩
theorem fX{w:World}{g:G}{b:Nat}:∀(cs:List LV) (o:Nat),aU w g b cs o->∃ vs,aC w g cs vs/\∀ j,j<cs.length->w.cell? ⟨b,o+j,none⟩=vs[j]?
 |[],o,_=>⟨[],by simp only[aC],sS⟩
 |c::cs,o,h=>by
  simp only[aU]at h;obtain⟨⟨v,h1,h2,_⟩,h3⟩:=h;obtain⟨vs,k1,k2⟩:=fX cs (o+1) h3;refine⟨v::vs,by simp only[aC];exact⟨v,vs,rfl,h2,k1⟩,fun j hj=>?_⟩;cases j with
  |zero=>simpa using h1
  |succ j=>have:=k2 j (by simpa using hj);rw[show o+(j+1)=o+1+j by omega];simpa using this
theorem iL{w:World}{g:G}{b:Nat}:∀(cs:List LV) (vs:List Value) (o:Nat),aC w g cs vs->(∀ j,j<cs.length->w.cell? ⟨b,o+j,none⟩=vs[j]?)->(∀ j,j<cs.length->g.ok b (o+j))->aU w g b cs o
 |[],_,_,_,_,_=>by simp only[aU]
 |c::cs,vs,o,h,hc,hk=>by
  simp only[aC]at h;obtain⟨v,vs',rfl,h1,h2⟩:=h;simp only[aU];refine⟨⟨v,by simpa using hc 0 sS,h1,by simpa using hk 0 sS⟩,iL cs vs' (o+1) h2 (fun j hj=>?_) (fun j hj=>?_)⟩
  .have:=hc (j+1) (by simpa using hj);rw[show o+1+j=o+(j+1) by omega];simpa using this
  .have:=hk (j+1) (by simpa using hj);rw[show o+1+j=o+(j+1) by omega];exact this
end Aw
end Go.Proofs.YtempldclppogmaaGreatDoor
