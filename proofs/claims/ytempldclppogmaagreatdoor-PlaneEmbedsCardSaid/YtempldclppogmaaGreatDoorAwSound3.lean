/- The operations' soundness: append; all operations in one theorem. No program is named here. -/
import Derived.Test.YtempldclppogmaaGreatDoorAwMap
import Derived.Laws.MakeOwn
set_option linter.unusedVariables false
set_option linter.unusedSimpArgs false
namespace Go.Proofs.YtempldclppogmaaGreatDoor
namespace Aw
open Go Go.RowKit
def G.addNil(g:G):G:=
 {next:=g.next+1,φ:=g.φ,β:=g.β,κ:=fun l=>if l=g.next then 0 else g.κ l,nl:=fun l=>if l=g.next then true else g.nl l }
section
variable {P:Program} {T:Tab} {w:World} {g:G} {st:St}
theorem ext_nil(w:World)(g:G):Ext w g w g.addNil:=by
 refine⟨rfl,rfl,rfl,aAi _,aDS _,fun _ _=>rfl,?_,?_,fun _ _ h=>⟨h,rfl⟩,fun _ k _ h=>⟨k,h,aAi _,fun _ _=>rfl⟩⟩
 .intro l hl;simp[G.addNil,aBs hl]
 .intro l hl;simp[G.addNil,aBs hl]
theorem iP(h:Inv w g st)(o:cI)(ho:(∃ e s,o=.own e s 0)\/∃ e s,o=.box e s []):Inv w g.addNil (st.new o):=by
 have hn:=h.next;have he:=ext_nil w g;have hb:∀ l,blk g.addNil (st.new o) l->l≠st.next/\blk g st l:=by
  intro l hl;unfold blk at hl ⊢;simp only[St.new,G.addNil,hn]at hl;by_cases e0:l=st.next
  .simp only[aAe e0]at hl;rcases ho with⟨e,s,rfl⟩|⟨e,s,rfl⟩<;>simp at hl
  .simp only[aAa e0]at hl;exact⟨e0,hl⟩
 refine⟨by simp[G.addNil,St.new,hn],by simp[St.new],?_,fun l hl=>h.lt l (hb l hl).2,fun l l' hl Yu=>h.inj l l' (hb l hl).2 (hb l' Yu).2,?_,?_,?_,?_,h.aside.keep he (nZ (by rcases ho with⟨e,s,rfl⟩|⟨e,s,rfl⟩<;>rfl))⟩
 .intro l hl;simp only[St.new]at hl ⊢;rw[aAa oO];exact h.fresh l oO
 .intro l e' s' n' hl;by_cases e0:l=st.next
  .simp only[St.new,aAe e0]at hl;subst hl;rcases ho with⟨e,s,ho⟩|⟨e,s,ho⟩
   .injection ho with h1 h2 h3;subst h1 h2 h3;simp[G.addNil,hn,e0]
   .cases ho
  .simp only[St.new,aAa e0]at hl;have:=h.own l e' s' n' hl;simp only[G.addNil,hn,aAa e0];exact this
 .intro l e' s' cs hl;by_cases e0:l=st.next
  .simp only[St.new,aAe e0]at hl;subst hl;rcases ho with⟨e,s,ho⟩|⟨e,s,ho⟩
   .cases ho
   .injection ho with h1 h2 h3;subst h1 h2 h3;simp[G.addNil,hn,e0]
  .simp only[St.new,aAa e0]at hl;obtain⟨q1,q2,q3⟩:=h.box l e' s' cs hl;refine⟨?_,?_,fun Xl=>?_⟩
   .simp only[G.addNil,hn,aAa e0];exact q1
   .simp only[G.addNil,hn,aAa e0];exact q2
   .simp only[G.addNil,hn,aAa e0]at Xl;obtain⟨Xo,k1,k2,k3,k4,k5⟩:=q3 Xl;refine⟨Xo,k1,?_,k3,aC.mono he _ _ k4,k5⟩;simp only[G.addNil,hn,aAa e0];exact k2
 .intro l ag ks es hl;by_cases e0:l=st.next
  .simp only[St.new,aAe e0]at hl;subst hl;rcases ho with⟨e,s,ho⟩|⟨e,s,ho⟩<;>cases ho
  .simp only[St.new,aAa e0]at hl;exact(h.mp l ag ks es hl).keep he (h.map_lt hl) rfl rfl
 .intro l e' n hl;by_cases e0:l=st.next
  .simp only[St.new,aAe e0]at hl;subst hl;rcases ho with⟨e,s,ho⟩|⟨e,s,ho⟩<;>cases ho
  .simp only[St.new,aAa e0]at hl;exact(h.qu l e' n hl).keep he (h.que_lt hl) rfl rfl
theorem nS(h:Inv w g st){q e k k' kp:Nat}{o:cI}(hom:(∀ ag ks es,o≠.map ag ks es)/\fO o=false)(V0:blk g st q){Xo arr:Array Value}(V8:w.heap[g.β q]?=some (.cells Xo e (0,0)))(hk:g.φ (g.β q)=some k)(H7:k<=k')
 (S3:∀ i,i<k->arr[i]?=Xo[i]?) (C2:∀ w',Ext w g w' (g.add (g.β q) k' kp false)->w'.heap[g.β q]?=some (.cells arr e (0,0))->
   (∀ e' s n,o=.own e' s n->n<=kp/\kp<=maxLen/\e'=e/\arr.size=kp*s/\k'=n*s)/\
   (∀ e' n,o=.que e' n->e'=e/\arr.size=kp / qM+kp % qM/\k'=kp / qM+n/\n<=kp % qM/\kp % qM<=maxLen)/\
   (∀ e' s cs,o=.box e' s cs->kp<=maxLen/\e'=e/\arr.size=kp*s/\cs.length<=arr.size/\aC w' (g.add (g.β q) k' kp false) cs (arr.toList.take cs.length)/\k'=0)):
 Inv (w.setRow (g.β q) arr) (g.add (g.β q) k' kp false) ((st.set q .dead).new o)/\Ext w g (w.setRow (g.β q) arr) (g.add (g.β q) k' kp false):=by
 have hn:=h.next;have N7:q<st.next:=by
  rcases aAB q st.next with h0|h0
  .exact h0
  .unfold blk at V0;rw[h.fresh q h0]at V0;exact V0.elim
 have he:Ext w g (w.setRow (g.β q) arr) (g.add (g.β q) k' kp false):=
  AH V8 hk H7 S3 (fun x=>rfl) (aDS _) (fun l hl=>by simp[G.add,aBs hl]) (fun l hl=>by simp[G.add,aBs hl]) (fun l hl=>by simp[G.add,aBs hl])
 have Rp:=setRow_heap w _ _ arr _ _ V8;obtain⟨YI,hnq,K9⟩:=C2 _ he Rp;have hHo:∀ l,l≠st.next->l≠q->((st.set q .dead).new o).H l=st.H l:=by intro l h0 h1;simp[St.new,St.set,h0,h1]
 have hHq:((st.set q .dead).new o).H q=.dead:=by simp[St.new,St.set,aBs N7]
 have hHn:((st.set q .dead).new o).H st.next=o:=by simp[St.new,St.set]
 have hb:∀ l,l≠st.next->blk (g.add (g.β q) k' kp false) ((st.set q .dead).new o) l->l≠q/\blk g st l:=by
  intro l e0 hl;unfold blk at hl ⊢;by_cases e1:l=q
  .subst e1;rw[hHq]at hl;exact hl.elim
  .rw[hHo l e0 e1]at hl;refine⟨e1,?_⟩;cases YL:st.H l<;>simp only[YL]at hl ⊢
   .simpa[G.add,hn,e0]using hl
   .simpa[G.add,hn,e0]using hl
   .simpa[G.add,hn,e0]using hl
   .simpa[G.add,hn,e0]using hl
 refine⟨⟨by simp[G.add,St.new,St.set,hn],by simp[St.new],?_,?_,?_,?_,?_,?_,?_,h.aside.keep he fun x hx=>(nZ hom.2 x hx).trans (iL rfl x (by rw[<- nZ hom.2 x hx];exact hx))⟩,he⟩
 .intro l hl;have Yu:st.next+1<=l:=hl;rw[hHo l oO oO];exact h.fresh l oO
 .intro l hl;rw[setRow_size];by_cases e0:l=st.next
  .simp only[G.add,hn,aAe e0];exact h.lt q V0
  .simp only[G.add,hn,aAa e0];exact h.lt l (hb l e0 hl).2
 .intro l l' hl Yu K1;by_cases e0:l=st.next<;>by_cases e1:l'=st.next
  .omega
  .obtain⟨k1,k2⟩:=hb l' e1 Yu;simp only[G.add,hn,aAe e0,aAa e1]at K1;exact absurd (h.inj q l' V0 k2 K1).symm k1
  .obtain⟨k1,k2⟩:=hb l e0 hl;simp only[G.add,hn,aAe e1,aAa e0]at K1;exact absurd (h.inj l q k2 V0 K1) k1
  .simp only[G.add,hn,aAa e1,aAa e0]at K1;exact h.inj l l' (hb l e0 hl).2 (hb l' e1 Yu).2 K1
 .intro l e' s' m hl;by_cases e0:l=st.next
  .subst e0;rw[hHn]at hl;obtain⟨a1,a2,rfl,a3,a4⟩:=YI e' s' m hl;simp only[G.add,hn,aAe];exact⟨a1,a2,sS,fun _=>⟨arr,Rp,a3,by rw[a4]⟩⟩
  .by_cases e1:l=q
   .subst e1;rw[hHq]at hl;cases hl
   .rw[hHo l e0 e1]at hl;obtain⟨k1,k2,k3,k4⟩:=h.own l e' s' m hl;simp only[G.add,hn,aAa e0];refine⟨k1,k2,k3,fun Z9=>?_⟩;obtain⟨c',z1,z2,z3⟩:=k4 Z9;have hlb:blk g st l:=by unfold blk;rw[hl];exact Z9
    have Wx:g.β l≠g.β q:=fun hh=>e1 (h.inj l q hlb V0 hh);exact⟨c',by rw[setRow_other w _ _ _ Wx];exact z1,z2,by rw[aAa Wx];exact z3⟩
 .intro l e' s' cs hl;by_cases e0:l=st.next
  .subst e0;rw[hHn]at hl;obtain⟨a1,rfl,a2,a3,a4,a5⟩:=K9 e' s' cs hl;refine⟨by simp only[G.add,hn,aAe];exact a1,by simp[G.add,hn],fun _=>⟨arr.toList,?_,?_,by simpa using a3,a4,?_⟩⟩
   .simp only[G.add,hn,aAe];simpa using Rp
   .simp only[G.add,hn,aAe];simpa using a2
   .simp[G.add,hn,a5]
  .by_cases e1:l=q
   .subst e1;rw[hHq]at hl;cases hl
   .rw[hHo l e0 e1]at hl;obtain⟨q1,q2,q3⟩:=h.box l e' s' cs hl;refine⟨by simp only[G.add,hn,aAa e0];exact q1,by simp only[G.add,hn,aAa e0];exact q2,fun Z9=>?_⟩;simp only[G.add,hn,aAa e0]at Z9;obtain⟨c',z1,z2,z3,z4,z5⟩:=q3 Z9;have hlb:blk g st l:=by unfold blk;rw[hl];exact Z9
    have Wx:g.β l≠g.β q:=fun hh=>e1 (h.inj l q hlb V0 hh);refine⟨c',?_,?_,z3,aC.mono he _ _ z4,?_⟩
    .simp only[G.add,hn,aAa e0];rw[setRow_other w _ _ _ Wx];exact z1
    .simp only[G.add,hn,aAa e0];exact z2
    .simp only[G.add,hn,aAa e0,aAa Wx];exact z5
 .intro l ag ks es hl;by_cases e0:l=st.next
  .subst e0;rw[hHn]at hl;exact absurd hl (hom.1 _ _ _)
  .by_cases e1:l=q
   .subst e1;rw[hHq]at hl;cases hl
   .rw[hHo l e0 e1]at hl;have Wx:g.β l≠g.β q:=fun hh=>e1 (h.inj l q (h.map_blk hl) V0 hh);exact(h.mp l ag ks es hl).keep he (h.map_lt hl) (setRow_other w _ _ _ Wx) (by simp only[G.add];rw[aAa Wx])
 .intro l e' n hl;by_cases e0:l=st.next
  .subst e0;rw[hHn]at hl;obtain⟨rfl,a1,a2,a3,a4⟩:=hnq _ _ hl;refine⟨by simp[G.add,hn],⟨arr,by simp only[G.add,hn,aAe];exact Rp,by simp only[G.add,hn,aAe];exact a1⟩,by simp[G.add,hn,a2],by simp only[G.add,hn,aAe];exact⟨a3,a4⟩⟩
  .by_cases e1:l=q
   .subst e1;rw[hHq]at hl;cases hl
   .rw[hHo l e0 e1]at hl;have Wx:g.β l≠g.β q:=fun hh=>e1 (h.inj l q (h.que_blk hl) V0 hh);exact(h.qu l e' n hl).keep he (h.que_lt hl) (setRow_other w _ _ _ Wx) (by simp only[G.add];rw[aAa Wx])
theorem lX(h:Inv w g st){q e k k':Nat}{o:cI}(hom:((∀ ag ks es,o≠.map ag ks es)/\fO o=false)/\∀ e n,o≠.que e n)(V0:blk g st q){Xo arr:Array Value}(V8:w.heap[g.β q]?=some (.cells Xo e (0,0)))(hk:g.φ (g.β q)=some k)(H7:k<=k')
 (S3:∀ i,i<k->arr[i]?=Xo[i]?) (C2:∀ w',Ext w g w' (g.add (g.β q) k' (g.κ q) false)->w'.heap[g.β q]?=some (.cells arr e (0,0))->
   (∀ e' s n,o=.own e' s n->n<=g.κ q/\g.κ q<=maxLen/\e'=e/\arr.size=g.κ q*s/\k'=n*s)/\
   (∀ e' s cs,o=.box e' s cs->g.κ q<=maxLen/\e'=e/\arr.size=g.κ q*s/\cs.length<=arr.size/\aC w' (g.add (g.β q) k' (g.κ q) false) cs (arr.toList.take cs.length)/\k'=0)):
 Inv (w.setRow (g.β q) arr) (g.add (g.β q) k' (g.κ q) false) ((st.set q .dead).new o)/\Ext w g (w.setRow (g.β q) arr) (g.add (g.β q) k' (g.κ q) false):=
 nS h hom.1 V0 V8 hk H7 S3 fun w' h1 h2=>⟨(C2 w' h1 h2).1,fun e n h=>absurd h (hom.2 e n),(C2 w' h1 h2).2⟩
theorem RY(a:List Value)(Z:Array Value):a.toArray++Z=(a++Z.toList).toArray:=by cases Z;simp
theorem Au(a b:List Value)(Z:Array Value):a.toArray++b.toArray++Z=(a++b++Z.toList).toArray:=by cases Z;simp
def Src(w:World)(g:G)(m:Nat)(ds:List LV)(u:Value):Prop:=
 ∃ A c,u=.slice A m c/\(ds≠[]->∃ b o vs,A=some ⟨b,o,none⟩/\aC w g ds vs/\∀ j,j<ds.length->w.cell? ⟨b,o+j,none⟩=vs[j]?)
theorem qQ(hi:Inv w g st){t m:Nat}{x:LV}{u:Value}{ds:List LV}(hx:CI T t st x=some (m,ds))(hu:Rep w g x u):Src w g m ds u:=by
 have sl:∀ q,wM x=some (q,m,ds)->Src w g m ds u:=by intro q hq;have h:=pB hq hu;simp only[Rep]at h;obtain⟨A,c,rfl,_,_,_,O7⟩:=h;refine⟨A,c,rfl,fun Wx=>?_⟩;obtain⟨b,o,rfl,O8⟩:=O7 Wx;obtain⟨vs,k1,k2⟩:=fP _ _ O8;exact⟨b,o,vs,rfl,k1,k2⟩
 cases x with
 |ms l o n=>
  simp only[CI]at hx;cases he:cO T t with
  |none=>simp[he]at hx
  |some e=>
   cases hr:T e with
   |none=>simp[he,hr]at hx
   |some r=>
    cases hl:st.H l with
    |box e' s' cs=>
     simp only[he,hr,hl,aAb,aAV]at hx;obtain⟨rfl,rfl⟩:=hx;simp only[Rep]at hu;obtain⟨A,cap,rfl,_,_,_,hA,_⟩:=hu;refine⟨A,cap,rfl,fun Wx=>?_⟩;have p8:n≠0:=by rintro rfl;simp at Wx
     obtain⟨_,q2,q3⟩:=hi.box l e' s' cs hl;cases Xl:g.nl l with
     |true=>obtain⟨_,rfl⟩:=q2 Xl;simp at Wx
     |false=>obtain⟨Xo,k1,k2,k3,k4,k5⟩:=q3 Xl;refine⟨g.β l,o,((Xo.take cs.length).drop o).take (n*r.size),hA p8,dQ _ _ _ (gV _ _ _ k4),fun j hj=>?_⟩;rw[cell_of_row w _ _ _ _ _ k1];simp only[aAo,aAN]at hj;simp only[aCa];rw[aBv,aAe oO,aCo,aBv,aAe oO]
    |_=>simp[he,hr,hl]at hx
 |_=>simp only[CI,aBm]at hx;obtain⟨⟨q,m',ds'⟩,h1,h2⟩:=hx;simp only[aAV]at h2;obtain⟨rfl,rfl⟩:=h2;exact sl q h1
theorem yU(hT:bF P T){t ty e n m cap:Nat}{row:bI}{ds:List LV}{u:Value}{A:Option Addr}{olds:List Value}(hs:cO T t=some e)(ZL:T e=some row)(hu:Src w g m ds u)
 (c1:ds.length=m*row.size) (c2:ds.all gR=true) (c3:(n+m)*row.bytes<=140737488355328) (c4:n+m<=maxLen) (c5:0<row.size) (A3:olds.length=n*row.size)
 (hA:(n=0/\cap=0)\/∃ b Xo,A=some ⟨b,0,none⟩/\w.heap[b]?=some (.cells Xo e (0,0))/\Xo.size=cap*row.size/\n<=cap/\Xo.toList.take (n*row.size)=olds):
 ∃ v' w' vs,(Builtin.append_ #[t,t] ty #[.slice A n cap,u]).run P w=.ok v' w'/\aC w g ds vs/\
  ((m=0/\v'=.slice A n cap/\w=w')\/
   (∃ b Xo,0<m/\A=some ⟨b,0,none⟩/\w.heap[b]?=some (.cells Xo e (0,0))/\n+m<=cap/\v'=.slice (some ⟨b,0,none⟩) (n+m) cap/\w'=w.setRow b (olds++vs++Xo.toList.drop ((n+m)*row.size)).toArray)\/
   (∃ C z,v'=.slice (some ⟨w.heap.size,0,none⟩) (n+m) C/\w'=w.drew.alloc (.cells (olds++vs++z).toArray e)/\n+m<=C/\C<=maxLen/\(olds++vs++z).length=C*row.size)):=by
 have hd:=cF hT hs;have Rp:=hT e row ZL;obtain⟨i,Yr,ZH,U0,hz⟩:=Rp.info;have hzc:row.zeroV.cells=row.zero.toArray:=cX Rp;obtain⟨A',c,rfl,O7⟩:=hu;by_cases hm:m=0
 .subst hm;have H6:ds=[]:=aAE (by simpa using c1);subst H6;refine⟨.slice A n cap,w,[],?_,by simp only[aC],.inl ⟨rfl,rfl,rfl⟩⟩;have G8:n<=cap:=by
   rcases hA with⟨rfl,rfl⟩|⟨_,_,_,_,_,h,_⟩
   .omega
   .exact h
  cases A'<;>cases A<;>simp[Builtin.append_,run_underlying hd,Go.sizeOf,typeInfo,Yr,Builtin.lenOf,Builtin.firstCells,loadCells,loadCellsFrom,G8,storeCells]
 .have hdne:ds≠[]:=by rintro rfl;have:0<m*row.size:=aDT oO c5;simp at c1;omega
  obtain⟨b',o',vs,rfl,k1,k2⟩:=O7 hdne;have hlen:=aL _ _ k1;have C7:vs.length=m*i.size:=by rw[ZH];omega
  have n6:∀ j v,vs[j]?=some v->w.cell? ((⟨b',o',none⟩:Addr).add j)=some v:=by intro j v hv;have hj:j<vs.length:=(aDs.1 hv).1;rw[add_lit,k2 j oO];exact hv
  have n9:∀ old,(olds++vs++(Builtin.zeroCells row.zeroV.cells (grownCap w (n+m) old e-(n+m))).toList).length=grownCap w (n+m) old e*row.size:=by
   intro old;have D7:=grownCap_ge w (n+m) old e;have N0:(Builtin.zeroCells row.zeroV.cells (grownCap w (n+m) old e-(n+m))).toList.length=(grownCap w (n+m) old e-(n+m))*row.size:=by rw[Array.length_toList,size_zeroCells,hzc];simp only[aBd,Rp.zl]
   rw[aAh,aAh,N0,A3,C7,ZH,<- aBU,<- aBU]
   congr 1;omega
  rcases hA with⟨rfl,rfl⟩|⟨b,Xo,rfl,hb,ZJ,G8,YP⟩
  .have ho:olds=[]:=aAE (by simpa using A3);subst ho;cases A with
   |none=>have hr:=run_append_nil (P:=P) w t ty e i row.zeroV hd Yr hz ⟨b',o',none⟩ m c vs C7 n6 oO (by simp only[maxLen]at c4;omega) (by rw[U0];simp at c3;omega);refine⟨_,_,vs,hr,k1,.inr (.inr ⟨grownCap w (0+m) 0 e,(Builtin.zeroCells row.zeroV.cells (grownCap w (0+m) 0 e-(0+m))).toList,sS,?_,grownCap_ge w _ 0 e,grownCap_le_maxLen w _ 0 e c4,n9 0⟩)⟩;simp only[aBt,List.nil_append,RY]
   |some a=>have hr:=run_append_grow (P:=P) w t ty e i row.zeroV hd Yr hz a 0 0 [] sS sS ⟨b',o',none⟩ m c vs C7 n6 oO (by simp only[maxLen]at c4;omega) (by rw[U0];exact growslice_fits oO c3);refine⟨_,_,vs,hr,k1,.inr (.inr ⟨grownCap w (0+m) 0 e,(Builtin.zeroCells row.zeroV.cells (grownCap w (0+m) 0 e-(0+m))).toList,rfl,?_,grownCap_ge w _ 0 e,grownCap_le_maxLen w _ 0 e c4,n9 0⟩)⟩;rw[Au]
  .by_cases Ye:n+m<=cap
   .have hns:n*i.size=olds.length:=by rw[ZH];omega
    have c8:n*i.size+vs.length<=Xo.size:=by rw[C7,ZJ,ZH,<- aBU];exact aCh _ Ye
    have hr:=run_append_room (P:=P) w t ty e i hd Yr b n cap Xo hb ⟨b',o',none⟩ m c vs C7 n6 (fH _ _ c2 k1) Ye c8;refine⟨_,_,vs,hr,k1,.inr (.inl ⟨b,Xo,oO,rfl,hb,Ye,rfl,?_⟩)⟩;rw[ZH,YP,C7,ZH,<- aBU]
   .have holds:∀ j v,olds[j]?=some v->w.cell? ((⟨b,0,none⟩:Addr).add j)=some v:=by
     intro j v hv;rw[add_lit,aBt,cell_of_row w _ _ _ _ _ hb,<- aCp];rw[<- YP,aBv]at hv
     split at hv
     .exact hv
     .cases hv
    have hr:=run_append_grow (P:=P) w t ty e i row.zeroV hd Yr hz ⟨b,0,none⟩ n cap olds (by rw[ZH];omega) holds ⟨b',o',none⟩ m c vs C7 n6 oO (by simp only[maxLen]at c4;omega) (by rw[U0];exact growslice_fits oO c3);refine⟨_,_,vs,hr,k1,.inr (.inr ⟨grownCap w (n+m) cap e,(Builtin.zeroCells row.zeroV.cells (grownCap w (n+m) cap e-(n+m))).toList,rfl,?_,grownCap_ge w _ cap e,grownCap_le_maxLen w _ cap e c4,n9 cap⟩)⟩;rw[Au]
theorem Jd(hi:Inv w g st){e s N C:Nat}{ds:List LV}{vs z:List Value}(hr:aC w g ds vs)(hN:ds.length=N*s)(hC:N<=C)(hm:C<=maxLen)(hl:(vs++z).length=C*s):
 Rep (w.drew.alloc (.cells (vs++z).toArray e)) (g.add w.heap.size (N*s) C false) (.sl st.next N ds) (.slice (some ⟨w.heap.size,0,none⟩) N C)/\
 Inv (w.drew.alloc (.cells (vs++z).toArray e)) (g.add w.heap.size (N*s) C false) (st.new (.own e s N))/\Ext w g (w.drew.alloc (.cells (vs++z).toArray e)) (g.add w.heap.size (N*s) C false):=by
 have hdz:w.drew.heap.size=w.heap.size:=rfl;have B5:=En hi.drew e s N C (vs++z).toArray (by simpa using hl) hC hm;have ZN:=(dH w g).trans (dD w.drew g (.cells (vs++z).toArray e) (N*s) C false);rw[hdz]at B5 ZN;have hlen:=aL _ _ hr;refine⟨?_,B5,ZN⟩;simp only[Rep];refine⟨_,_,rfl,hC,⟨hm,sS⟩,fun _=>by simp[G.add,hi.next],fun _=>⟨w.heap.size,0,rfl,iF ds vs 0 (aC.mono ZN _ _ hr) (fun j hj=>?_) (fun j hj=>?_)⟩⟩
 .rw[cell_of_row _ w.heap.size _ _ _ _ (heap_alloc_new w.drew _),aBt,aCa,aAY oO]
 .intro k hk;simp[G.add]at hk;omega
theorem yR(hi:Inv w g st){e s N C:Nat}{ds:List LV}{vs z:List Value}(hr:aC w g ds vs)(hC:N<=C)(hm:C<=maxLen)(hl:(vs++z).length=C*s):
 Rep (w.drew.alloc (.cells (vs++z).toArray e)) (g.add w.heap.size 0 C false) (.ms st.next 0 N) (.slice (some ⟨w.heap.size,0,none⟩) N C)/\
 Inv (w.drew.alloc (.cells (vs++z).toArray e)) (g.add w.heap.size 0 C false) (st.new (.box e s ds))/\Ext w g (w.drew.alloc (.cells (vs++z).toArray e)) (g.add w.heap.size 0 C false):=by
 have hdz:w.drew.heap.size=w.heap.size:=rfl;have hlen:=aL _ _ hr
 have B5:=tY hi.drew e s C (cs:=ds) (vs:=vs++z) hl hm (by simp;omega) (by
  rw[hlen,aDx];exact aC.mono (dH w g) _ _ hr)
 have ZN:=(dH w g).trans (dD w.drew g (.cells (vs++z).toArray e) 0 C false);rw[hdz]at B5 ZN;refine⟨?_,B5,ZN⟩;simp only[Rep];exact⟨_,_,rfl,hC,hm,by simp[G.add,hi.next],by simp[G.add,hi.next],by simp[G.add,hi.next]⟩
theorem sH(hi:Inv w g st)(k:Nat){l e s:Nat}{cs:List LV}(hl:st.H l=.box e s cs):Inv w g (st.set l (.box e s (cs.take k))):=by
 have hb:∀ x,blk g (st.set l (.box e s (cs.take k))) x↔blk g st x:=by
  intro x;unfold blk;simp only[St.set];by_cases hx:x=l
  .subst hx;simp[hl]
  .rw[aAa hx]
 have dN:l<st.next:=Bd hi hl sS;refine⟨hi.next,hi.pos,?_,fun x hx=>hi.lt x ((hb x).1 hx),fun x y hx hy=>hi.inj x y ((hb x).1 hx) ((hb y).1 hy),?_,?_,?_,?_,hi.aside.keep (Ext.refl w g) (iL rfl)⟩
 .intro x hx;simp only[St.set]at hx ⊢;rw[aAa oO];exact hi.fresh x hx
 .intro x e' s' n hx;by_cases e0:x=l
  .simp[St.set,e0]at hx
  .simp only[St.set,aAa e0]at hx;exact hi.own x e' s' n hx
 .intro x e' s' cs' hx;by_cases e0:x=l
  .simp only[St.set,aAe e0]at hx;injection hx with h1 h2 h3;subst h1 h2 h3 e0;obtain⟨q1,q2,q3⟩:=hi.box x e s cs hl;refine⟨q1,fun hn=>⟨(q2 hn).1,by rw[(q2 hn).2];simp⟩,fun hn=>?_⟩;obtain⟨Xo,k1,k2,k3,k4,k5⟩:=q3 hn;refine⟨Xo,k1,k2,by simp only[aAo];omega,?_,k5⟩;have:=dQ k _ _ k4;rw[aBS]at this;rw[aAo];exact this
  .simp only[St.set,aAa e0]at hx;exact hi.box x e' s' cs' hx
 .intro x ag ks es hx;by_cases e0:x=l
  .simp[St.set,e0]at hx
  .simp only[St.set,aAa e0]at hx;exact hi.mp x ag ks es hx
 .intro x e' n hx;by_cases e0:x=l
  .simp[St.set,e0]at hx
  .simp only[St.set,aAa e0]at hx;exact hi.qu x e' n hx
theorem Ce(hT:bF P T)(hi:Inv w g st){t ty e' l n m:Nat}{row:bI}{cs ds:List LV}{v u:Value}(hs:cO T t=some e')(ZL:T e'=some row)(P4:Src w g m ds u)(hH:st.H l=.box e' row.size cs)
 (d0:cs.length=n*row.size) (c1:ds.length=m*row.size) (c2:ds.all gR=true) (c3:(n+m)*row.bytes<=140737488355328) (c4:n+m<=maxLen) (c5:0<row.size) (h:Rep w g (.ms l 0 n) v):
 ∃ v' w' g',(Builtin.append_ #[t,t] ty #[v,u]).run P w=.ok v' w'/\Rep w' g' (.ms st.next 0 (n+m)) v'/\Inv w' g' ((st.set l .dead).new (.box e' row.size (cs++ds)))/\Ext w g w' g':=by
 simp only[Rep]at h;obtain⟨A,cap,rfl,L5,I4,hA0,L9,hln⟩:=h;obtain⟨rfl,hA⟩:=hA0 trivial;clear hA0;have N7:l<st.next:=by rw[<- hi.next];exact hln
 obtain⟨o2,o3,o4⟩:=hi.box l _ _ _ hH;have Zd:∃ olds:List Value,aC w g cs olds/\((n=0/\g.κ l=0)\/∃ b Xo,A=some ⟨b,0,none⟩/\w.heap[b]?=some (.cells Xo e' (0,0))/\Xo.size=g.κ l*row.size/\n<=g.κ l/\Xo.toList.take (n*row.size)=olds):=by
  cases Xl:g.nl l with
  |true=>obtain⟨Yj,rfl⟩:=o3 Xl;exact⟨[],by simp only[aC],.inl ⟨oO,Yj⟩⟩
  |false=>obtain⟨Xo,p1,p2,p4,p5,p6⟩:=o4 Xl;obtain rfl:=hA Xl;refine⟨Xo.take cs.length,p5,.inr ⟨_,Xo.toArray,rfl,p1,by simpa using p2,L5,by rw[d0]⟩⟩
 obtain⟨olds,ho1,Zd⟩:=Zd;have A3:olds.length=n*row.size:=by rw[<- aL _ _ ho1];exact d0
 obtain⟨v',w',vs,Xv,A5,YY⟩:=yU (ty:=ty) hT hs ZL P4 c1 c2 c3 c4 c5 A3 Zd;have C7:vs.length=m*row.size:=by rw[<- aL _ _ A5];exact c1
 have C9:=bZ _ _ _ _ ho1 A5;have hNl:(cs++ds).length=(n+m)*row.size:=by rw[aAh,d0,c1,aBU]
 have hmul:=aBU n m row.size;rcases YY with⟨rfl,rfl,rfl⟩|⟨b,Xo,Yi,rfl,hb,Ye,rfl,rfl⟩|⟨C,z,rfl,rfl,hC,hCm,hl⟩
 .have H6:ds=[]:=aAE (by simpa using c1);subst H6;cases Xl:g.nl l with
  |true=>obtain⟨Yj,rfl⟩:=o3 Xl;refine⟨_,_,g.addNil,Xv,?_,iP (hi.drop l N7) _ (.inr ⟨_,_,rfl⟩),ext_nil _ g⟩;simp only[Rep];exact⟨_,_,rfl,L5,o2,by simp[G.addNil,hi.next,Yj],oO,by simp[G.addNil,hi.next]⟩
  |false=>
   obtain⟨Xo,p1,p2,p4,p5,p6⟩:=o4 Xl;obtain rfl:=hA Xl
   have YP:=lX (o:=.box e' row.size (cs++[])) (k':=0) (arr:=Xo.toArray) hi sS (by unfold blk;rw[hH];exact Xl) p1 p6 (aAi _) (fun _ _=>rfl)
    (fun w' hx _=>⟨(fun e1 s1 n1 h1=>by cases h1),fun e1 s1 n1 h1=>by
      injection h1 with h1 h2 h3;subst h1 h2 h3
      exact⟨o2,rfl,by simpa using p2,by simpa using p4,by simpa using aC.mono hx _ _ p5,rfl⟩⟩)
   rw[setRow_self w _ _ _ _ p1]at YP;refine⟨_,_,_,Xv,?_,YP.1,YP.2⟩;simp only[Rep];exact⟨_,_,rfl,L5,o2,by simp[G.add,hi.next],by simp[G.add,hi.next],by simp[G.add,hi.next]⟩
 .have Xl:g.nl l=false:=by
   cases Xl:g.nl l with
   |false=>rfl
   |true=>obtain⟨Yj,_⟩:=o3 Xl;omega
  obtain⟨Yq,p1,p2,p4,p5,p6⟩:=o4 Xl;have hbq:=hA Xl;simp only[aAb,Addr.mk.injEq]at hbq;obtain⟨rfl,_⟩:=hbq;have V5:Yq.toArray=Xo:=by rw[p1]at hb;injection hb with hb;injection hb
  subst V5;have ZH:(n+m)*row.size<=Yq.length:=by rw[p2];exact aCh _ Ye
  have harr:(olds++vs++Yq.drop ((n+m)*row.size)).length=g.κ l*row.size:=by rw[<- p2];simp only[aAh,aAN];omega
  have YP:=lX (o:=.box e' row.size (cs++ds)) (k':=0) (arr:=(olds++vs++Yq.drop ((n+m)*row.size)).toArray) hi sS (by unfold blk;rw[hH];exact Xl) p1 p6 (aAi _)
   (fun j hj=>absurd hj (aEh _))
   (fun w' hx _=>⟨(fun e1 s1 n1 h1=>by cases h1),fun e1 s1 n1 h1=>by
     injection h1 with h1 h2 h3;subst h1 h2 h3;have Xk:=aL _ _ C9;refine⟨o2,rfl,by simpa using harr,by simp only[aBd];omega,?_,rfl⟩;simp only;rw[Xk,aDx]
     exact aC.mono hx _ _ C9⟩)
  refine⟨_,_,_,Xv,?_,YP.1,YP.2⟩;simp only[Rep];exact⟨_,_,rfl,Ye,o2,by simp[G.add,hi.next],by simp[G.add,hi.next],by simp[G.add,hi.next]⟩
 .have:=yR (e:=e') (N:=n+m) (hi.drop l N7) C9 hC hCm hl;exact⟨_,_,_,Xv,this⟩
theorem wH(w:World)(t ty e:TypeId)(i:TypeInfo)(ht:P.underlying t=some (.slice e))(hi:P.info? e=some i)(b off V9 sCap:Nat)(Xo:Array Value)(hg:w.heap[b]?=some (.cells Xo e (0,0)))
 (a:Addr) (m c:Nat) (news:List Value) (hl:news.length=m*i.size) (n6:∀ j u,news[j]?=some u->w.cell? (a.add j)=some u) (h1:∀ u∈news,u.oneCell'=true) (Ye:V9+m<=sCap) (c8:off+V9*i.size+news.length<=Xo.size):
 (Builtin.append_ #[t,t] ty #[.slice (some ⟨b,off,none⟩) V9 sCap,.slice (some a) m c]).run P w=
   .ok (.slice (some ⟨b,off,none⟩) (V9+m) sCap) (w.setRow b (Xo.toList.take (off+V9*i.size)++news++Xo.toList.drop (off+V9*i.size+news.length)).toArray):=by
 have hf:=run_firstCells_some (P:=P) w i.size m a m c news hl n6;have YL:=run_storeCells_at P b (off+V9*i.size) e news 0 Xo w hg (by simpa using c8) h1;simp only[Nat.add_zero]at YL;simp[Builtin.append_,run_underlying ht,sizeOf,typeInfo,hi,Builtin.lenOf,Ye,hf,Addr.add_lit,YL]
theorem NO(hT:bF P T){t ty e n m cap:Nat}{row:bI}{ds:List LV}{u:Value}{A:Option Addr}{olds:List Value}(hs:cO T t=some e)(ZL:T e=some row)(hu:Src w g m ds u)
 (c0:row.size=1) (c1:ds.length=m) (c2:ds.all gR=true) (c3:(n+m)*row.bytes<=140737488355328) (c4:n+m<=maxLen) (A3:olds.length=n)
 (hA:(n=0/\cap=0)\/∃ b o Xo,A=some ⟨b,o,none⟩/\w.heap[b]?=some (.cells Xo e (0,0))/\Xo.size=o+cap/\n<=cap/\(Xo.toList.drop o).take n=olds):
 ∃ v' w' vs,(Builtin.append_ #[t,t] ty #[.slice A n cap,u]).run P w=.ok v' w'/\aC w g ds vs/\
  ((m=0/\v'=.slice A n cap/\w=w')\/
   (∃ b o Xo,0<m/\A=some ⟨b,o,none⟩/\w.heap[b]?=some (.cells Xo e (0,0))/\n+m<=cap/\v'=.slice (some ⟨b,o,none⟩) (n+m) cap/\w'=w.setRow b (Xo.toList.take (o+n)++vs++Xo.toList.drop (o+n+m)).toArray)\/
   (∃ C z,v'=.slice (some ⟨w.heap.size,0,none⟩) (n+m) C/\w'=w.drew.alloc (.cells (olds++vs++z).toArray e)/\n+m<=C/\C<=maxLen/\(olds++vs++z).length=C)):=by
 rcases hA with hA|⟨b,o,Xo,rfl,hb,ZJ,G8,YP⟩
 .obtain⟨v',w',vs,h1,h2,h3⟩:=yU (ty:=ty) (A:=A) (olds:=olds) hT hs ZL hu (by rw[c0];omega) c2 c3 c4 oO (by rw[c0];omega) (.inl hA);refine⟨v',w',vs,h1,h2,?_⟩;rcases h3 with h3|⟨_,_,hm,_,_,h3,_⟩|⟨C,z,k1,k2,k3,k4,k5⟩
  .exact .inl h3
  .omega
  .exact .inr (.inr ⟨C,z,k1,k2,k3,k4,by rw[k5,c0,aCF]⟩)
 have hd:=cF hT hs;have Rp:=hT e row ZL;obtain⟨i,Yr,ZH,U0,hz⟩:=Rp.info;have hzc:row.zeroV.cells=row.zero.toArray:=cX Rp;obtain⟨A',c,rfl,O7⟩:=hu;by_cases hm:m=0
 .subst hm;have H6:ds=[]:=aAE (by simpa using c1);subst H6;refine⟨_,w,[],?_,by simp only[aC],.inl ⟨rfl,rfl,rfl⟩⟩;cases A'<;>simp[Builtin.append_,run_underlying hd,Go.sizeOf,typeInfo,Yr,Builtin.lenOf,Builtin.firstCells,loadCells,loadCellsFrom,G8,storeCells]
 have hdne:ds≠[]:=by rintro rfl;simp at c1;omega
 obtain⟨b',o',vs,rfl,k1,k2⟩:=O7 hdne;have hlen:=aL _ _ k1;have C7:vs.length=m*i.size:=by rw[ZH,c0];omega
 have n6:∀ j v,vs[j]?=some v->w.cell? ((⟨b',o',none⟩:Addr).add j)=some v:=by intro j v hv;have hj:j<vs.length:=(aDs.1 hv).1;rw[add_lit,k2 j oO];exact hv
 by_cases Ye:n+m<=cap
 .have hr:=wH (P:=P) w t ty e i hd Yr b o n cap Xo hb ⟨b',o',none⟩ m c vs C7 n6 (fH _ _ c2 k1) Ye (by rw[C7,ZH,c0];omega);rw[C7,ZH,c0,aCF,aCF]at hr;exact⟨_,_,vs,hr,k1,.inr (.inl ⟨b,o,Xo,oO,rfl,hb,Ye,rfl,rfl⟩)⟩
 .have holds:∀ j v,olds[j]?=some v->w.cell? ((⟨b,o,none⟩:Addr).add j)=some v:=by
   intro j v hv;rw[add_lit,cell_of_row w _ _ _ _ _ hb,<- aCp];rw[<- YP,aBv]at hv
   split at hv
   .rw[aCo]at hv;exact hv
   .cases hv
  have n9:(olds++vs++(Builtin.zeroCells row.zeroV.cells (grownCap w (n+m) cap e-(n+m))).toList).length=grownCap w (n+m) cap e:=by
   have D7:=grownCap_ge w (n+m) cap e;have N0:(Builtin.zeroCells row.zeroV.cells (grownCap w (n+m) cap e-(n+m))).toList.length=(grownCap w (n+m) cap e-(n+m))*row.size:=by rw[Array.length_toList,size_zeroCells,hzc];simp only[aBd,Rp.zl]
   rw[aAh,aAh,N0,A3,C7,ZH,c0];omega
  have hr:=run_append_grow (P:=P) w t ty e i row.zeroV hd Yr hz ⟨b,o,none⟩ n cap olds (by rw[ZH,c0];omega) holds ⟨b',o',none⟩ m c vs C7 n6 oO (by simp only[maxLen]at c4;omega) (by rw[U0];exact growslice_fits oO c3);refine⟨_,_,vs,hr,k1,.inr (.inr ⟨grownCap w (n+m) cap e,(Builtin.zeroCells row.zeroV.cells (grownCap w (n+m) cap e-(n+m))).toList,rfl,?_,grownCap_ge w _ cap e,grownCap_le_maxLen w _ cap e c4,n9⟩)⟩;rw[Au]
theorem IV{C:Nat}(h:C<=maxLen):C / qM=0/\C % qM=C:=by
 have:C<qM:=by simp only[maxLen,qM]at *;omega
 exact⟨aDF this,aAK this⟩
theorem Ri(o:Nat){C:Nat}(h:C<=maxLen):(o*qM+C) / qM=o/\(o*qM+C) % qM=C:=by
 have:C<qM:=by simp only[maxLen,qM]at *;omega
 have hp:0<qM:=by decide
 rw[aBI o qM];exact⟨by rw[Nat.mul_add_div hp,aDF this,Nat.add_zero],by rw[Nat.mul_add_mod,aAK this]⟩
theorem Cz(h:Inv w g st){t e n:Nat}(hH:st.H t=.own e 1 n)(Xl:g.nl t=false):Inv w g (st.set t (.que e n)):=by
 obtain⟨o1,o2,o3,o4⟩:=h.own t e 1 n hH;obtain⟨Xo,p1,p2,p3⟩:=o4 Xl;obtain⟨q1,q2⟩:=IV o2;have hb:∀ x,blk g (st.set t (.que e n)) x↔blk g st x:=by
  intro x;unfold blk;simp only[St.set];by_cases hx:x=t
  .subst hx;simp[hH]
  .rw[aAa hx]
 have dN:t<st.next:=by
  rcases aAB t st.next with h0|h0
  .exact h0
  .rw[h.fresh t h0]at hH;cases hH
 refine⟨h.next,h.pos,?_,fun x hx=>h.lt x ((hb x).1 hx),fun x y hx hy=>h.inj x y ((hb x).1 hx) ((hb y).1 hy),?_,?_,?_,?_,h.aside.keep (Ext.refl w g) (iL rfl)⟩
 .intro x hx;simp only[St.set]at hx ⊢;rw[aAa oO];exact h.fresh x hx
 .intro x e' s' n' hx;by_cases e0:x=t
  .simp[St.set,e0]at hx
  .simp only[St.set,aAa e0]at hx;exact h.own x e' s' n' hx
 .intro x e' s' cs' hx;by_cases e0:x=t
  .simp[St.set,e0]at hx
  .simp only[St.set,aAa e0]at hx;exact h.box x e' s' cs' hx
 .intro x ag ks es hx;by_cases e0:x=t
  .simp[St.set,e0]at hx
  .simp only[St.set,aAa e0]at hx;exact h.mp x ag ks es hx
 .intro x e' n' hx;by_cases e0:x=t
  .simp only[St.set,aAe e0]at hx;injection hx with h1 h2;subst h1 h2 e0;exact⟨Xl,⟨Xo,p1,by rw[q1,q2];simpa using p2⟩,by rw[q1,p3];simp,by rw[q2];exact⟨o1,o2⟩⟩
  .simp only[St.set,aAa e0]at hx;exact h.qu x e' n' hx
theorem Me(hT:bF P T)(hi:Inv w g st){t ty e' q o n m:Nat}{row:bI}{cs ds:List LV}{v u:Value}(hs:cO T t=some e')(ZL:T e'=some row)(P4:Src w g m ds u)(hH:st.H q=.que e' (o+n))
 (c0:row.size=1) (d0:cs.length=n) (c1:ds.length=m) (c2:ds.all gR=true) (c3:(n+m)*row.bytes<=140737488355328) (c4:n+m<=maxLen) (h:Rep w g (.qu q o n cs) v):
 ∃ v' w' g',(Builtin.append_ #[t,t] ty #[v,u]).run P w=.ok v' w'/\Rep w' g' (.qu st.next 0 (n+m) (cs++ds)) v'/\Inv w' g' ((st.set q .dead).new (.que e' (n+m)))/\Ext w g w' g':=by
 simp only[Rep]at h;obtain⟨A,cap,rfl,L5,I4,Zv,hoc,hA,x7⟩:=h;have N7:q<st.next:=by rw[<- hi.next];exact Zv
 obtain⟨Xl,⟨Xo,p1,p2⟩,p3,p4,p5⟩:=hi.qu q _ _ hH;generalize hK:g.κ q / qM=O at *;generalize hC:g.κ q % qM=K at *;have Zd:∃ olds:List Value,aC w g cs olds/\((n=0/\cap=0)\/∃ b o' Xo,A=some ⟨b,o',none⟩/\w.heap[b]?=some (.cells Xo e' (0,0))/\Xo.size=o'+cap/\n<=cap/\(Xo.toList.drop o').take n=olds):=by
  by_cases P1:cap=0
  .have p8:n=0:=oO;have ZJ:cs=[]:=aAE oO;subst ZJ;exact⟨[],by simp only[aC],.inl ⟨p8,P1⟩⟩
  .obtain rfl:=hA P1;refine⟨(Xo.toList.drop (O+o)).take n,?_,.inr ⟨_,_,Xo,rfl,p1,oO,L5,rfl⟩⟩;by_cases ZJ:cs=[]
   .have h0:n=0:=by rw[ZJ]at d0;simpa using d0.symm
    rw[ZJ,h0];simp only[List.take_zero,aC]
   .obtain⟨b,o',hbo,O8⟩:=x7 ZJ;simp only[aAb,Addr.mk.injEq]at hbo;obtain⟨rfl,rfl,_⟩:=hbo;obtain⟨vs,k1,k2⟩:=fP _ _ O8;have hl:=aL _ _ k1;have:(Xo.toList.drop (O+o)).take n=vs:=by
     apply aDh;intro j;rw[aBv]
     split
     .rename_i hj;have:=k2 j oO;rw[cell_of_row w _ _ _ _ _ p1]at this;rw[aCo,aCp];exact this
     .rw[aBw oO]
    rw[this];exact k1
 obtain⟨olds,ho1,Zd⟩:=Zd;have A3:olds.length=n:=by rw[<- aL _ _ ho1];exact d0
 obtain⟨v',w',vs,Xv,A5,YY⟩:=NO (ty:=ty) hT hs ZL P4 c0 c1 c2 c3 c4 A3 Zd;have C7:vs.length=m:=by rw[<- aL _ _ A5];exact c1
 have C9:=bZ _ _ _ _ ho1 A5;have V0:blk g st q:=by unfold blk;rw[hH];exact Xl
 obtain⟨qa,qb⟩:=Ri (O+o) I4;rcases YY with⟨hm0,rfl,rfl⟩|⟨b,o',Yq,Yi,rfl,hb,Ye,rfl,rfl⟩|⟨C,z,rfl,rfl,hC',hCm,hl⟩
 .have H6:ds=[]:=aAE oO;subst H6
  have YP:=nS (o:=.que e' (n+m)) (k':=O+o+(n+m)) (kp:=(O+o)*qM+cap) (arr:=Xo) hi sS V0 p1 p3 oO (fun _ _=>rfl)
   (fun w' hx _=>⟨(fun e1 s1 n1 h1=>by cases h1),(fun e1 n1 h1=>by injection h1 with h1 h2;subst h1 h2;rw[qa,qb];exact⟨rfl,oO,rfl,oO,I4⟩),fun e1 s1 n1 h1=>by cases h1⟩)
  rw[setRow_self w _ _ _ _ p1]at YP;refine⟨_,_,_,Xv,?_,YP.1,YP.2⟩;simp only[Rep];refine⟨A,cap,by rw[hm0];rfl,oO,I4,by simp[G.add,hi.next],?_,fun h0=>?_,fun Wx=>?_⟩
  .simp only[G.add,hi.next,aAe,qb,aBt]
  .simp only[G.add,hi.next,aAe,qa,Nat.add_zero];exact hA h0
  .rw[aAP]at Wx ⊢;obtain⟨b,o',hAb,O8⟩:=x7 Wx;exact⟨b,o',hAb,aT.mono YP.2 _ _ _ O8⟩
 .have P1:cap≠0:=oO;have hbo:=hA P1;simp only[aAb,Addr.mk.injEq]at hbo;obtain⟨rfl,rfl,_⟩:=hbo;have V5:Xo=Yq:=by rw[p1]at hb;injection hb with hb;injection hb
  subst V5;have Xk:Xo.toList.length=O+o+cap:=by rw[Array.length_toList];omega
  have hlen:(Xo.toList.take (O+o+n)++vs++Xo.toList.drop (O+o+n+m)).length=O+o+cap:=by rw[aAh,aAh,aAo,aAN];omega
  have YP:=nS (o:=.que e' (n+m)) (k':=O+o+(n+m)) (kp:=(O+o)*qM+cap) (arr:=(Xo.toList.take (O+o+n)++vs++Xo.toList.drop (O+o+n+m)).toArray) hi sS V0 p1 p3 oO
   (fun j hj=>by
     rw[aCa,aAF,aAY (by rw[aAo];omega),aBv,aAe oO,aCp])
   (fun w' hx _=>⟨(fun e1 s1 n1 h1=>by cases h1),(fun e1 n1 h1=>by injection h1 with h1 h2;subst h1 h2;rw[qa,qb];exact⟨rfl,by rw[aBd,hlen],rfl,Ye,I4⟩),fun e1 s1 n1 h1=>by cases h1⟩)
  refine⟨_,_,_,Xv,?_,YP.1,YP.2⟩;simp only[Rep];refine⟨_,cap,rfl,Ye,I4,by simp[G.add,hi.next],?_,fun h0=>?_,fun Wx=>?_⟩
  .simp only[G.add,hi.next,aAe,qb,aBt]
  .simp only[G.add,hi.next,aAe,qa,Nat.add_zero]
  .refine⟨_,_,rfl,iF _ (olds++vs) _ (aC.mono YP.2 _ _ C9) (fun j hj=>?_) (fun j hj=>?_)⟩
   .have hj':j<n+m:=by rw[aAh]at hj;omega
    have htake:(Xo.toList.drop (O+o)).take n=olds:=by
     rcases Zd with⟨_,h0⟩|⟨b,o',cur2,h1,h2,_,_,h5⟩
     .omega
     .simp only[aAb,Addr.mk.injEq]at h1;obtain⟨rfl,rfl,_⟩:=h1;rw[p1]at h2;injection h2 with h2;injection h2 with h2;rw[h2];exact h5
    rw[cell_of_row _ _ _ _ _ _ (setRow_heap w _ _ _ _ _ p1),aCa,aAF];by_cases hjn:j<n
    .rw[aAY (by rw[aAo];omega),aBv,aAe oO,aAY oO,<- htake,aBv,aAe hjn,aCo]
    .rw[aBl (by rw[aAo];omega),aAo,aCt oO,aAY oO,aBl oO]
     congr 1
     omega
   .intro k hk;simp[G.add]at hk;rw[aAh]at hj;omega
 .obtain⟨r1,r2⟩:=IV hCm;have dN:w.heap.size<=w.drew.heap.size:=aAi _;have M5:=hi.drop q N7;have hdz:w.drew.heap.size=w.heap.size:=rfl;have B5:=En M5.drew e' 1 (n+m) C (olds++vs++z).toArray (by simpa using hl) hC' hCm;have ZN:=(dH w g).trans (dD w.drew g (.cells (olds++vs++z).toArray e') ((n+m)*1) C false);rw[hdz]at B5 ZN;have Zi:=Cz B5 (t:=st.next) (e:=e') (n:=n+m) (by simp[St.new,St.set]) (by simp[G.add,hi.next]);have YL:((st.set q .dead).new (.own e' 1 (n+m))).set st.next (.que e' (n+m))=(st.set q .dead).new (.que e' (n+m)):=by
   unfold St.set St.new
   congr 1
   funext x
   by_cases hx:x=st.next
   .simp[hx]
   .simp[hx]
  rw[YL]at Zi;refine⟨_,_,_,Xv,?_,Zi,ZN⟩;simp only[Rep];refine⟨_,C,rfl,hC',hCm,by simp[G.add,hi.next],by simp[G.add,hi.next,r2],fun _=>by simp[G.add,hi.next,r1],fun _=>⟨w.heap.size,0,rfl,iF _ (olds++vs) 0 (aC.mono ZN _ _ C9) (fun j hj=>?_) (fun j hj=>?_)⟩⟩
  .rw[aAh]at hj;rw[cell_of_row _ w.heap.size _ _ _ _ (heap_alloc_new w.drew _),aBt,aCa,aAY (by rw[aAh];omega)]
  .intro k hk;rw[aAh]at hj;simp[G.add]at hk;omega
theorem Aj(hT:bF P T)(hi:Inv w g st){md:Bool}{t ty e m:Nat}{u:Value}{ds:List LV}{row:bI}{r:bT}(A:Option Addr)(hs:cO T t=some e)(ZL:T e=some row)(P4:Src w g m ds u)
 (he:(if md then some ⟨ds.length=m*row.size/\ds.all gR=true/\m*row.bytes<=140737488355328/\m<=maxLen/\0<row.size,.ms st.next 0 m,st.new (.box e row.size ds)⟩
   else some ⟨ds.length=m*row.size/\ds.all gR=true/\m*row.bytes<=140737488355328/\m<=maxLen/\0<row.size,.sl st.next m ds,st.new (.own e row.size m)⟩:Option bT)=some r) (hc:r.c):
 ∃ v' w' g',(Builtin.append_ #[t,t] ty #[.slice A 0 0,u]).run P w=.ok v' w'/\Rep w' g' r.v v'/\Inv w' g' r.s/\Ext w g w' g':=by
 have V5:ds.length=m*row.size/\ds.all gR=true/\m*row.bytes<=140737488355328/\m<=maxLen/\0<row.size:=by
  split at he<;>(simp only[aAb]at he;subst he;exact hc)
 obtain⟨c1,c2,c3,c4,c5⟩:=V5;obtain⟨v',w',vs,Xv,A5,YY⟩:=yU (ty:=ty) (n:=0) (cap:=0) (A:=A) (olds:=[]) hT hs ZL P4 c1 c2 (by simpa using c3) (by simpa using c4) c5 sS (.inl ⟨rfl,rfl⟩);rcases YY with⟨rfl,rfl,rfl⟩|⟨b,Xo,Yi,_,_,h0,_⟩|⟨C,z,rfl,rfl,hC,hCm,hl⟩
 .have H6:ds=[]:=aAE (by simpa using c1);subst H6
  split at he
  .simp only[aAb]at he;subst he;refine⟨_,_,g.addNil,Xv,?_,iP hi _ (.inr ⟨_,_,rfl⟩),ext_nil _ g⟩;simp only[Rep];exact⟨_,_,rfl,aAi _,aBr _,by simp[G.addNil,hi.next],sS,by simp[G.addNil,hi.next]⟩
  .simp only[aAb]at he;subst he;refine⟨_,_,g.addNil,Xv,?_,iP hi _ (.inl ⟨_,_,rfl⟩),ext_nil _ g⟩;simp only[Rep];exact⟨_,_,rfl,aAi _,⟨aBr _,fun _=>rfl⟩,by simp[G.addNil,hi.next],sS⟩
 .omega
 .simp only[aBt,List.nil_append]at Xv hC hl
  split at he
  .simp only[aAb]at he;subst he;have:=yR (e:=e) hi A5 hC hCm hl;exact⟨_,_,_,Xv,this⟩
  .simp only[aAb]at he;subst he;have:=Jd (e:=e) hi A5 c1 hC hCm hl;exact⟨_,_,_,Xv,this⟩
theorem Qs{l n c:Nat}{v:Value}(h:Rep w g (.kap l n c) v):Rep w g (.ms l 0 n) v:=by
 simp only[Rep]at h ⊢;obtain⟨A,rfl,h1,h2,h3,h4,h5,h6⟩:=h;refine⟨A,c,rfl,h1,h2,fun _=>⟨h3.symm,h5⟩,fun hn=>?_,h4⟩;cases Xl:g.nl l with
 |false=>exact h5 Xl
 |true=>have:=h6 Xl;omega
theorem EX(hT:bF P T)(hi:Inv w g st){md:Bool}{t ty:TypeId}{s x:LV}{v u:Value}{r:bT}(he:zO T md t s x st=some r)(hc:r.c)(h:Rep w g s v)(hu:Rep w g x u):
 ∃ v' w' g',(Builtin.append_ #[t,t] ty #[v,u]).run P w=.ok v' w'/\Rep w' g' r.v v'/\Inv w' g' r.s/\Ext w g w' g':=by
 unfold zO at he
 split at he
 .rename_i e m ds hs hx
  split at he
  .rename_i row ZL;have P4:=qQ hi hx hu
   split at he
   .simp only[Rep]at h;subst h;exact Aj hT hi none hs ZL P4 he hc
   .simp only[Rep]at h;obtain⟨A,rfl⟩:=h;exact Aj hT hi A hs ZL P4 he hc
   .rename_i q n cs;cases hH:st.H q with
    |own e' s' n'=>
     simp only[hH,aAb]at he;subst he;obtain⟨rfl,rfl,rfl,d0,hq0,c1,c2,c3,c4,c5⟩:=hc;simp only[Rep]at h;obtain⟨A,cap,rfl,L5,I4,htok,x7⟩:=h;obtain⟨hA,rfl,Zv⟩:=htok hq0;have N7:q<st.next:=by rw[<- hi.next];exact Zv
     obtain⟨o1,o2,o3,o4⟩:=hi.own q _ _ _ hH;have Zd:∃ olds:List Value,aC w g cs olds/\((n'=0/\g.κ q=0)\/∃ b Xo,A=some ⟨b,0,none⟩/\w.heap[b]?=some (.cells Xo e' (0,0))/\Xo.size=g.κ q*row.size/\n'<=g.κ q/\Xo.toList.take (n' * row.size)=olds):=by
      cases Xl:g.nl q with
      |true=>have Yj:=o3 Xl;have p8:n'=0:=oO;subst p8;have ZJ:cs=[]:=aAE (by simpa using d0);subst ZJ;exact⟨[],by simp only[aC],.inl ⟨rfl,Yj⟩⟩
      |false=>
       obtain⟨Xo,p1,p2,p3⟩:=o4 Xl;obtain rfl:=hA Xl;refine⟨Xo.toList.take (n' * row.size),?_,.inr ⟨_,Xo,rfl,p1,p2,o1,rfl⟩⟩;by_cases ZJ:cs=[]
       .subst ZJ;have h0:n' * row.size=0:=by simpa using d0.symm
        rw[h0];simp only[List.take_zero,aC]
       .obtain⟨b,o,hbo,O8⟩:=x7 ZJ;simp only[aAb,Addr.mk.injEq]at hbo;obtain⟨rfl,rfl,_⟩:=hbo;obtain⟨vs,k1,k2⟩:=fP _ _ O8;have hl:=aL _ _ k1;have:Xo.toList.take (n' * row.size)=vs:=by
         apply aDh;intro j;by_cases hj:j<cs.length
         .have:=k2 j hj;rw[aBt,cell_of_row w _ _ _ _ _ p1]at this;rw[aBv,aAe oO,aCp];exact this
         .rw[aBv,aAa oO,aBw oO]
        rw[this];exact k1
     obtain⟨olds,ho1,Zd⟩:=Zd;have A3:olds.length=n' * row.size:=by rw[<- aL _ _ ho1];exact d0
     obtain⟨v',w',vs,Xv,A5,YY⟩:=yU (ty:=ty) hT hs ZL P4 c1 c2 c3 c4 c5 A3 Zd;have C7:vs.length=m*row.size:=by rw[<- aL _ _ A5];exact c1
     have C9:=bZ _ _ _ _ ho1 A5;have hNl:(cs++ds).length=(n'+m)*row.size:=by rw[aAh,d0,c1,aBU]
     rcases YY with⟨rfl,rfl,rfl⟩|⟨b,Xo,Yi,rfl,hb,Ye,rfl,rfl⟩|⟨C,z,rfl,rfl,hC,hCm,hl⟩
     .have H6:ds=[]:=aAE (by simpa using c1);subst H6;cases Xl:g.nl q with
      |true=>have Yj:=o3 Xl;have p8:n'=0:=oO;subst p8;have ZJ:cs=[]:=aAE (by simpa using d0);subst ZJ;refine⟨_,_,g.addNil,Xv,?_,iP (hi.drop q N7) _ (.inl ⟨_,_,rfl⟩),ext_nil _ g⟩;simp only[Rep];exact⟨_,_,rfl,o1,⟨o2,fun _=>Yj⟩,by simp[G.addNil,hi.next,Yj],sS⟩
      |false=>
       obtain⟨Xo,p1,p2,p3⟩:=o4 Xl;obtain rfl:=hA Xl
       have YP:=lX (o:=.own e' row.size n') (k':=n' * row.size) (arr:=Xo) hi sS (by unfold blk;rw[hH];exact Xl) p1 p3 (aAi _) (fun _ _=>rfl)
        (fun w' _ _=>⟨fun e1 s1 n1 h1=>by injection h1 with h1 h2 h3;subst h1 h2 h3;exact⟨o1,o2,rfl,p2,rfl⟩,fun e1 s1 n1 h1=>by cases h1⟩)
       rw[setRow_self w _ _ _ _ p1]at YP;refine⟨_,_,_,Xv,?_,YP.1,YP.2⟩;have YF:Rep w g (.sl q n' cs) (.slice (some ⟨g.β q,0,none⟩) n' (g.κ q)):=by simp only[Rep];exact⟨_,_,rfl,o1,⟨o2,sS⟩,fun _=>⟨fun _=>rfl,rfl,Zv⟩,x7⟩
       have hrep':=Rep.mono YP.2 _ _ YF;simp only[Rep]at hrep' ⊢;obtain⟨A2,cap2,h1,h2,h3,_,h5⟩:=hrep';refine⟨A2,cap2,h1,h2,h3,fun _=>?_,by simpa using h5⟩;injection h1 with h1 _ Y1;subst h1 Y1;simp[G.add,hi.next]
     .have Xl:g.nl q=false:=by
       cases Xl:g.nl q with
       |false=>rfl
       |true=>have Yj:=o3 Xl;omega
      obtain⟨Yq,p1,p2,p3⟩:=o4 Xl;have hbq:=hA Xl;simp only[aAb,Addr.mk.injEq]at hbq;obtain⟨rfl,_⟩:=hbq;have V5:Yq=Xo:=by rw[p1]at hb;injection hb with hb;injection hb
      subst V5;have htko:Yq.toList.take (n' * row.size)=olds:=by
       rcases Zd with⟨h0,_⟩|⟨b2,cur2,h1,h2,_,_,h3⟩
       .subst h0;have:olds=[]:=aAE (by simpa using A3);subst this;simp
       .simp only[aAb,Addr.mk.injEq]at h1;obtain⟨rfl,_⟩:=h1;rw[p1]at h2;injection h2 with h2;injection h2 with h2;subst h2;exact h3
      have ZH:(n'+m)*row.size<=Yq.size:=by rw[p2];exact aCh _ Ye
      have hmul:=aBU n' m row.size;have harr:(olds++vs++Yq.toList.drop ((n'+m)*row.size)).toArray.size=g.κ q*row.size:=by rw[<- p2];simp only[aBd,aAh,aAN,Array.length_toList];omega
      have YP:=lX (o:=.own e' row.size (n'+m)) (k':=(n'+m)*row.size) (arr:=(olds++vs++Yq.toList.drop ((n'+m)*row.size)).toArray) hi sS (by unfold blk;rw[hH];exact Xl) p1 p3 oO
       (fun j hj=>by
         rw[aAF,aCa,aAY oO,<- htko,aBv,aAe hj,aCp])
       (fun w' _ _=>⟨fun e1 s1 n1 h1=>by injection h1 with h1 h2 h3;subst h1 h2 h3;exact⟨Ye,o2,rfl,harr,rfl⟩,fun e1 s1 n1 h1=>by cases h1⟩)
      refine⟨_,_,_,Xv,?_,YP.1,YP.2⟩;simp only[Rep];refine⟨_,_,rfl,Ye,⟨o2,sS⟩,fun _=>by simp[G.add,hi.next],fun Wx=>⟨g.β q,0,rfl,iF _ (olds++vs) 0 (aC.mono YP.2 _ _ C9) (fun j hj=>?_) (fun j hj=>?_)⟩⟩
      .rw[cell_of_row _ _ _ _ _ _ (setRow_heap w _ _ _ _ _ p1),aBt,aCa,aAY (by simp only[aAh]at hj ⊢;omega)]
      .intro k hk;simp[G.add]at hk;omega
     .have:=Jd (e:=e') (hi.drop q N7) C9 hNl hC hCm hl;exact⟨_,_,_,Xv,this⟩
    |_=>simp[hH]at he
   .rename_i l n cap;cases hH:st.H l with
    |box e' s' cs=>
     simp only[hH,aAb]at he;subst he;obtain⟨rfl,rfl,d0,c1,c2,c3,c4,c5⟩:=hc;have M5:=sH hi (n*row.size) hH;have E9:(st.set l (.box e' row.size (cs.take (n*row.size)))).set l .dead=st.set l .dead:=by
      unfold St.set
      congr 1
      funext x
      by_cases hx:x=l<;>simp[hx]
     have:=Ce (ty:=ty) hT M5 (l:=l) (n:=n) (cs:=cs.take (n*row.size)) hs ZL P4 (by simp[St.set]) (by rw[aAo];omega) c1 c2 c3 c4 c5 (Qs h);rw[E9]at this;exact this
    |_=>simp[hH]at he
   .rename_i l o n;cases hH:st.H l with
    |box e' s' cs=>
     simp only[hH,aAb]at he;subst he;obtain⟨rfl,rfl,rfl,d0,c1,c2,c3,c4,c5⟩:=hc;have M5:=sH hi (n*row.size) hH;have E9:(st.set l (.box e' row.size (cs.take (n*row.size)))).set l .dead=st.set l .dead:=by
      unfold St.set
      congr 1
      funext x
      by_cases hx:x=l<;>simp[hx]
     have:=Ce (ty:=ty) hT M5 (l:=l) (n:=n) (cs:=cs.take (n*row.size)) hs ZL P4 (by simp[St.set]) (by rw[aAo];omega) c1 c2 c3 c4 c5 h;rw[E9]at this;exact this
    |_=>simp[hH]at he
   .rename_i q o n cs;cases hH:st.H q with
    |que e' n'=>simp only[hH,aAb]at he;subst he;obtain⟨rfl,c0,rfl,d0,c1,c2,c3,c4⟩:=hc;exact Me (ty:=ty) hT hi hs ZL P4 hH c0 d0 c1 c2 c3 c4 h
    |_=>simp[hH]at he
   .simp at he
  .simp at he
 .simp at he
theorem Ox(hi:Inv w g st){t t' ty e' l' n cap:Nat}{k k':IntKind}{z:Int}{row:bI}{A:Option Addr}{cs:List LV}(hd:P.underlying t=some (.slice e'))(V3:P.underlying t'=some (.int k))(Rp:bA P e' row)(hH:st.H l'=.box e' row.size cs)
 (G8:n<=cap) (hA:n≠0->A=some ⟨g.β l',0,none⟩) (c1:n*row.size<=cs.length) (c2:0<z) (c3:(cap:Int)<n+z) (c4:((n:Int)+z)*row.bytes<=140737488355328) (c5:(n:Int)+z<=9223372036854775807) (c6:0<row.size):
 ∃ v' w' g',(Builtin.append_ #[t,t'] ty #[.slice A n cap,.int k' z]).run P w=.ok v' w'/\Rep w' g' (.ms st.next 0 (n+z.toNat)) v'/\Inv w' g' (st.new (.box e' row.size (cs.take (n*row.size)++dP (row.zero.map cH) z.toNat)))/\Ext w g w' g':=by
 obtain⟨q1,q2,q3⟩:=hi.box l' e' row.size cs hH;obtain⟨i,Yr,ZH,U0,hz⟩:=Rp.info;have hzc:row.zeroV.cells=row.zero.toArray:=cX Rp;obtain⟨m,rfl⟩:=aCT (show 0<=z by omega);simp only[Int.toNat_natCast];have hmp:0<m:=oO;have u5:(n+m)*row.bytes<=140737488355328:=by
  have:(((n+m)*row.bytes:Nat):Int)<=140737488355328:=by rw[Int.natCast_mul,Int.natCast_add];exact c4
  omega
 have hmb2:m*row.bytes<=140737488355328:=aBh (aCh _ oO) u5;have hwr:IntKind.i64.wrap (m:Int)=m:=by
  simp only[IntKind.wrap,IntKind.signed,IntKind.bits];simp
  split<;>omega
 have ZK:n+m<=maxLen:=by simp only[maxLen];omega
 obtain⟨C,hC⟩:∃ C,C=grownCap w (n+m) cap e':=⟨_,rfl⟩;have D7:n+m<=C:=hC ▸ grownCap_ge w (n+m) cap e';have Xr:C<=maxLen:=hC ▸ grownCap_le_maxLen w (n+m) cap e' ZK;have N0:∀ k,(Builtin.zeroCells row.zeroV.cells k).toList=bD row.zero k:=by intro k;rw[eF _ (by rw[Rp.zl];omega),hzc];simp only[Builtin.zeroCells,<- List.toArray_range,aDI,aBd]
 have X5:∀ k,(bD row.zero k).length=k*row.size:=by intro k;rw[eF _ (by rw[Rp.zl];omega)];simp[Rp.zl]
 have C9:∀ a b,bD row.zero a++bD row.zero b=bD row.zero (a+b):=by
  intro a b;induction a with
  |zero=>simp[bD]
  |succ a ih=>rw[Nat.succ_add,bD,bD,aAF,ih]
 have holds:∃ olds:List Value,aC w g (cs.take (n*row.size)) olds/\(Builtin.firstCells i.size n (.slice A n cap)).run P w.drew=.ok olds.toArray w.drew:=by
  by_cases p8:n=0
  .subst p8;refine⟨[],by simp only[aDt,List.take_zero,aC],?_⟩;cases A<;>simp[Builtin.firstCells,loadCells,loadCellsFrom]
  .obtain rfl:=hA p8;have Yi:0<n*row.size:=aDT oO c6;have Xl:g.nl l'=false:=by
    cases Xl:g.nl l' with
    |false=>rfl
    |true=>obtain⟨_,rfl⟩:=q2 Xl;simp at c1;omega
   obtain⟨Xo,k1,k2,k3,k4,k5⟩:=q3 Xl;have G1:=dQ (n*row.size) _ _ k4;rw[aBS,aCt c1]at G1;refine⟨_,G1,?_⟩;have hfull:aC w g cs (Xo.take cs.length):=k4
   have X7:=kT (P:=P) (w:=w.drew) (b:=g.β l') (o:=0) (aC.mono (dH w g) _ _ hfull) (fun j hj=>by
    rw[aBt];show w.cell? _=_;rw[cell_of_row w _ _ _ _ _ k1]
    simp[hj]) (n*row.size) oO
   rw[aBS,aCt c1]at X7;simp only[Builtin.firstCells,ZH];exact X7
 obtain⟨olds,ho1,W4⟩:=holds;have A3:olds.length=n*row.size:=by rw[<- aL _ _ ho1,aAo];omega
 have Xv:(Builtin.append_ #[t,t'] ty #[.slice A n cap,.int k' (m:Int)]).run P w=.ok (.slice (some ⟨w.heap.size,0,none⟩) (n+m) C) (w.drew.alloc (.cells (olds++bD row.zero m++bD row.zero (C-(n+m))).toArray e')):=by
  have e1:(olds++bD row.zero m++bD row.zero (C-(n+m))).toArray=olds.toArray++Builtin.zeroCells row.zeroV.cells m++Builtin.zeroCells row.zeroV.cells (C-(n+m)):=by apply aEG;rw[aDR,aDR,N0,N0]
  have h63:¬(9223372036854775807<((n:Int)+(m:Int))):=oO;have N3:m*i.size≠0:=by rw[ZH];exact aDN oO oO
  have h48:¬(281474976710656<(m:Int)*(i.bytes:Int)):=by
   rw[U0];have:((m*row.bytes:Nat):Int)<=140737488355328:=oO
   rw[Int.natCast_mul]at this;omega
  have hgf:=growslice_fits (need:=n+m) (old:=cap) (bytes:=i.bytes) oO (by rw[U0];exact u5);have YK:¬(281474976710656<Builtin.nextslicecap (n+m) cap*i.bytes):=oO;have Ya:¬((m:Int)<0):=oO;have hmn:m≠0:=oO;have c8:¬(n+m<=cap):=oO;have hask:∀(b:Nat) (w:World),(askRoom b).run P w=.ok () w:=by intro b w;unfold askRoom;split<;>simp[mark,Sem.run]
  rw[e1];simp[Builtin.append_,run_underlying hd,run_underlying V3,Go.sizeOf,typeInfo,Yr,asInt,asIntOf,hwr,h48,hmn,YK,N3,hz,Go.zeroValue,newRow,hask,choose,Sem.run,c8];rw[aAa Ya,aAa h63];have O6:(Question.appendCap (n+m) cap e').forced=false:=rfl;simp only[O6,aAR,aBB,W4,Result.andThen_ok];simp[grownCap,hC]
 have X3:aC w g (dP (row.zero.map cH) m) (bD row.zero m):=by rw[jT];exact cL w g _
 have:=yR (e:=e') (s:=row.size) (z:=bD row.zero (C-(n+m))) hi (bZ _ _ _ _ ho1 X3) D7 Xr (by
  simp only[aAh,A3,X5];rw[<- aBU,<- aBU];congr 1;omega)
 exact⟨_,_,_,Xv,this⟩
theorem Bu(hT:bF P T)(hi:Inv w g st){t t' ty:TypeId}{s x:LV}{v u:Value}{r:bT}(he:yY T t t' s x st=some r)(hc:r.c)(h:Rep w g s v)(hu:Rep w g x u):
 ∃ v' w' g',(Builtin.append_ #[t,t'] ty #[v,u]).run P w=.ok v' w'/\Rep w' g' r.v v'/\Inv w' g' r.s/\Ext w g w' g':=by
 unfold yY at he
 split at he
 .rename_i e k hs hk
  split at he
  .rename_i row ZL
   split at he
   .rename_i k' n;simp only[aAb]at he;subst he;obtain⟨c1,c2,c3,c4⟩:=hc;simp only[Rep]at h hu;obtain⟨A,rfl⟩:∃ A,v=.slice A 0 0:=⟨none,h⟩;subst hu;have hd:=cF hT hs;have V3:=yP hT hk;have Rp:=hT e row ZL;obtain⟨i,Yr,ZH,U0,hz⟩:=Rp.info;have hzc:row.zeroV.cells=row.zero.toArray:=cX Rp;obtain⟨m,rfl⟩:=aCT (show 0<=n by omega);have hm0:0<m:=oO;have u5:m*row.bytes<=140737488355328:=by
     have:((m*row.bytes:Nat):Int)<=140737488355328:=by rw[Int.natCast_mul];exact c2
     omega
    have hwr:IntKind.i64.wrap (m:Int)=m:=by
     simp only[IntKind.wrap,IntKind.signed,IntKind.bits];simp
     split<;>omega
    have ZK:m<=maxLen:=by simp only[maxLen];omega
    have D7:=grownCap_ge w m 0 e;have Xr:=grownCap_le_maxLen w m 0 e ZK;have hZ:(bD row.zero (grownCap w m 0 e)).length=grownCap w m 0 e*row.size:=by rw[eF _ (by rw[Rp.zl];omega)];simp[Rp.zl]
    have N0:∀ k,(Builtin.zeroCells row.zeroV.cells k).toList=bD row.zero k:=by intro k;rw[eF _ (by rw[Rp.zl];omega),hzc];simp only[Builtin.zeroCells,<- List.toArray_range,aDI,aBd]
    have C9:∀ a b,bD row.zero a++bD row.zero b=bD row.zero (a+b):=by
     intro a b;induction a with
     |zero=>simp[bD]
     |succ a ih=>rw[Nat.succ_add,bD,bD,aAF,ih]
    have Xv:(Builtin.append_ #[t,t'] ty #[.slice A 0 0,.int k' (m:Int)]).run P w=.ok (.slice (some ⟨w.heap.size,0,none⟩) m (grownCap w m 0 e)) (w.drew.alloc (.cells (bD row.zero (grownCap w m 0 e)).toArray e)):=by
     have e1:(bD row.zero (grownCap w m 0 e)).toArray=Builtin.zeroCells row.zeroV.cells m++Builtin.zeroCells row.zeroV.cells (grownCap w m 0 e-m):=by apply aEG;rw[aDR,N0,N0,C9,show m+(grownCap w m 0 e-m)=grownCap w m 0 e by omega]
     have hmn:m≠0:=oO;have h63:¬(9223372036854775807<(m:Int)):=oO;have N3:m*i.size≠0:=by rw[ZH];exact aDN oO oO
     have h48:¬(281474976710656<(m:Int)*(i.bytes:Int)):=by
      rw[U0];have:((m*row.bytes:Nat):Int)<=140737488355328:=oO
      rw[Int.natCast_mul]at this;omega
     have YK:¬(281474976710656<Builtin.nextslicecap m 0*i.bytes):=by rw[nextslicecap_zero hm0,U0];omega
     have Ya:¬((m:Int)<0):=oO;have hb47:¬(m:Int)<0:=Ya;have hfc:∀ A,(Builtin.firstCells i.size 0 (.slice A 0 0)).run P w.drew=.ok #[] w.drew:=by intro A;cases A<;>simp[Builtin.firstCells,loadCells,loadCellsFrom]
     have hask:∀(b:Nat) (w:World),(askRoom b).run P w=.ok () w:=by intro b w;unfold askRoom;split<;>simp[mark,Sem.run]
     rw[e1];simp[Builtin.append_,run_underlying hd,run_underlying V3,Go.sizeOf,typeInfo,Yr,asInt,asIntOf,hwr,h48,hmn,YK,N3,hz,Go.zeroValue,newRow,hask,choose,Sem.run];rw[aAa Ya,aAa h63];have O6:(Question.appendCap m 0 e).forced=false:=rfl;simp only[O6,aAR,aBB,hfc,Result.andThen_ok];simp[grownCap]
    have X3:aC w g (dP (row.zero.map cH) m) (bD row.zero m):=by rw[jT];exact cL w g _
    have I7:bD row.zero (grownCap w m 0 e)=bD row.zero m++bD row.zero (grownCap w m 0 e-m):=by rw[C9];congr 1;omega
    rw[I7]at Xv hZ;have:=yR (e:=e) hi X3 D7 Xr hZ;simp only[Int.toNat_natCast];exact⟨_,_,_,Xv,this⟩
   .rename_i l n cap k' z
    split at he
    .rename_i e' s' cs hH;simp only[aAb]at he;subst he;obtain⟨rfl,rfl,c1,c2,c3,c4,c5,c6⟩:=hc;simp only[Rep]at h hu;obtain rfl:=hu;obtain⟨A,rfl,G8,M3,Xn,hln,L3,hnl0⟩:=h;refine Ox hi (cF hT hs) (yP hT hk) (hT e' row ZL) hH G8 (fun hn=>?_) c1 c2 c3 c4 c5 c6;cases Xl:g.nl l with
     |false=>exact L3 Xl
     |true=>have:=hnl0 Xl;omega
    .simp at he
   .simp at he
  .simp at he
 .simp at he
theorem AA{z:List Value}(h:∀ v∈z,v.oneCell'=true):∀ n,∀ v∈bD z n,v.oneCell'=true
 |0,v,hv=>by simp[bD]at hv
 |n+1,v,hv=>by
  rw[bD,aAg]at hv;rcases hv with hv|hv
  .exact h v hv
  .exact AA h n v hv
theorem HT(hT:bF P T)(hi:Inv w g st){t ty:TypeId}{x:LV}{v:Value}{r:bT}(he:DX T t x st=some r)(hc:r.c)(h:Rep w g x v):
 ∃ w',(Builtin.clear_ #[t] ty #[v]).run P w=.ok (.tuple #[]) w'/\r.v=.tu []/\Inv w' g r.s/\Ext w g w' g:=by
 unfold DX at he
 split at he
 .rename_i e l o n hs
  split at he
  .rename_i row e' s cs ZL hH;simp only[aAb]at he;subst he;have x8:o+n*row.size<=cs.length:=hc.1;have hd:=cF hT hs;have Rp:=hT e row ZL;simp only[Rep]at h;obtain⟨A,cap,rfl,G8,M3,hA0,hA,hln⟩:=h;have N0:(bD row.zero n).length=n*row.size:=by
    clear hA G8 hc x8 hA0;induction n with
    |zero=>simp[bD]
    |succ n ih=>rw[bD,aAh,ih,Rp.zl,aDJ];omega
   obtain⟨q1,q2,q3⟩:=hi.box l e' s cs hH;by_cases hn:n=0
   .subst hn;refine⟨w,?_,rfl,?_,Ext.refl w g⟩
    .cases A<;>simp[Builtin.clear_,run_underlying hd]
    .have:st.set l (.box e' s (cs.take o++dP (row.zero.map cH) 0++cs.drop (o+0*row.size)))=st:=by
      cases st with
      |mk nx H=>
       simp only[St.set,dP,aAP,aDt,Nat.add_zero,aAH]
       congr 1
       funext x
       by_cases hx:x=l
       .rw[aAe hx,hx];exact hH.symm
       .rw[aAa hx]
     simp only[this];exact hi
   .obtain rfl:=hA hn;have Xl:g.nl l=false:=by
     cases Xl:g.nl l with
     |false=>rfl
     |true=>obtain⟨_,rfl⟩:=q2 Xl;have:0<n*row.size:=aDT oO hc.2;simp at x8;omega
    have X3:aC w g (dP (row.zero.map cH) n) (bD row.zero n):=by rw[jT];exact cL w g _
    have X5:(dP (row.zero.map cH) n).length=n*row.size:=by rw[aL _ _ X3,N0]
    obtain⟨w',YL,Xp⟩:=sG (P:=P) hi hH Xl (ds:=dP (row.zero.map cH) n) (by rw[X5];exact x8) X3 (AA (by simpa using Rp.zone) n);rw[X5]at Xp;refine⟨w',?_,rfl,Xp.1,Xp.2⟩;have hzz:(Builtin.zeroCells row.zeroV.cells n).toList=bD row.zero n:=by rw[eF _ (by rw[Rp.zl];exact hc.2),cX Rp];simp only[Builtin.zeroCells,<- List.toArray_range,aDI,aBd]
    obtain⟨n',rfl⟩:∃ n',n=n'+1:=⟨n-1,oO⟩;simp[Builtin.clear_,run_underlying hd,Rp.zeroValue,hzz,YL]
  .simp at he
 .simp at he
theorem Gg{st:St}{l:Nat}{o:cI}(h:st.H l=o):st.set l o=st:=by
 cases st with
 |mk nx H=>
  simp only[St.set]
  congr 1
  funext x
  by_cases hx:x=l
  .rw[aAe hx,hx];exact h.symm
  .rw[aAa hx]
theorem IX(hT:bF P T)(hi:Inv w g st){t t' ty:TypeId}{x y:LV}{v u:Value}{r:bT}(he:KR T t t' x y st=some r)(hc:r.c)(h:Rep w g x v)(hu:Rep w g y u):
 ∃ v' w',(Builtin.copy_ #[t,t'] ty #[v,u]).run P w=.ok v' w'/\Rep w' g r.v v'/\Inv w' g r.s/\Ext w g w' g:=by
 unfold KR at he
 split at he
 .rename_i e m ds hs hx
  split at he
  .rename_i row l o n ZL;cases hH:st.H l with
   |box e' s cs=>
    simp only[hH,aAb]at he;subst he;obtain⟨rfl,c1,c2,c3,c4⟩:=hc;have hd:=cF hT hs;have Rp:=hT e row ZL;obtain⟨A',c,rfl,O7⟩:=qQ hi hx hu;simp only[Rep]at h;obtain⟨A,cap,rfl,G8,M3,hA0,hA,hln⟩:=h;obtain⟨k,hk⟩:∃ k,k=min n m:=⟨_,rfl⟩;have hkm:Nat.min m n=k:=by rw[hk];exact Nat.min_comm m n
    simp only[<- hk]at c3 ⊢;obtain⟨q1,q2,q3⟩:=hi.box l e' s cs hH;by_cases h0:k=0
    .subst h0;refine⟨.int .i64 0,w,?_,by simp only[Rep];rfl,?_,Ext.refl w g⟩
     .cases A<;>cases A'<;>simp[Builtin.copy_,run_underlying hd,Builtin.lenOf,Builtin.firstCells,Rp.sizeOf,hkm,storeCells,loadCells,loadCellsFrom,goInt]
     .simp only[aDt,List.take_zero,aAP,Nat.add_zero,aAH];rw[Gg hH];exact hi
    .have p8:n≠0:=oO;have hm0:m≠0:=oO;obtain rfl:=hA p8;have hkn:k*row.size<=n*row.size:=aCh _ oO;have hkm2:k*row.size<=m*row.size:=aCh _ oO;have Xm:0<k*row.size:=aDT oO c4;have Xl:g.nl l=false:=by
      cases Xl:g.nl l with
      |false=>rfl
      |true=>obtain⟨_,rfl⟩:=q2 Xl;simp at c2;omega
     obtain⟨b,o',vs,rfl,k1,k2⟩:=O7 (by rintro rfl;simp at c1;omega);have X7:=kT (P:=P) k1 k2 (k*row.size) oO;have Q7:=dQ (k*row.size) _ _ k1;have hlen:(ds.take (k*row.size)).length=k*row.size:=by rw[aAo];omega
     obtain⟨w',YL,Xp⟩:=sG (P:=P) (o:=o) hi hH Xl (ds:=ds.take (k*row.size)) (by rw[hlen];omega) Q7 (fH _ _ c3 Q7);rw[hlen]at Xp;refine⟨.int .i64 k,w',?_,by simp only[Rep],Xp.1,Xp.2⟩;simp[Builtin.copy_,run_underlying hd,Builtin.lenOf,Builtin.firstCells,Rp.sizeOf,hkm,X7,YL,goInt]
   |_=>simp[hH]at he
  .simp at he
 .simp at he
theorem Be(hT:bF P T)(hi:Inv w g st){t ty:TypeId}{x y:LV}{v u:Value}{r:bT}(he:uI T t x y st=some r)(hc:r.c)(h:Rep w g x v)(hu:Rep w g y u):
 ∃ v' w',(Builtin.append_ #[t,t] ty #[v,u]).run P w=.ok v' w'/\Rep w' g r.v v'/\Inv w' g r.s/\Ext w g w' g:=by
 unfold uI at he
 split at he
 .rename_i e l n cap l' o' m hs
  split at he
  .rename_i row e' s' cs ZL hH;simp only[aAb]at he;subst he;obtain⟨rfl,c0,rfl,rfl,c1,c2,c3,c4,c5,c6⟩:=hc;have hd:=cF hT hs;have Rp:=hT e' row ZL;have hsrc:CI T t st (.ms l' o' m)=some (m,(cs.drop o').take (m*row.size)):=by simp only[CI,hs,ZL,hH]
   have hsr:=qQ hi hsrc hu;have u6:((cs.drop o').take (m*row.size)).length=m*row.size:=by rw[aAo,aAN];omega
   simp only[Rep]at h;obtain⟨A,rfl,G8,M3,hk,hln,L3,hnl0⟩:=h;obtain⟨q1,q2,q3⟩:=hi.box l' e' row.size cs hH;have I7:=aBU n m row.size;by_cases hm:m=0
   .subst hm;refine⟨.slice A n cap,w,?_,?_,?_,Ext.refl w g⟩
    .obtain⟨i,Yr,ZH,U0,hz⟩:=Rp.info;obtain⟨A',c,rfl,_⟩:=hsr;cases A'<;>cases A<;>simp[Builtin.append_,run_underlying hd,Go.sizeOf,typeInfo,Yr,Builtin.lenOf,Builtin.firstCells,loadCells,loadCellsFrom,G8,storeCells]
    .simp only[Rep];exact⟨A,rfl,G8,M3,hk,hln,L3,hnl0⟩
    .simp only[aDt,List.take_zero,aAP,Nat.add_zero,aAH];rw[Gg hH];exact hi
   .have Yi:0<m*row.size:=aDT oO c4;have Xl:g.nl l'=false:=by
     cases Xl:g.nl l' with
     |false=>rfl
     |true=>obtain⟨_,rfl⟩:=q2 Xl;simp at c1;omega
    subst hk;obtain rfl:=L3 Xl;obtain⟨Xo,k1,k2,k3,k4,k5⟩:=q3 Xl;have Ye:n+m<=g.κ l':=c0;have hnl2:n*row.size<=cs.length:=oO;obtain⟨i,Yr,ZH,U0,hz⟩:=Rp.info;obtain⟨A',c,rfl,O7⟩:=hsr;obtain⟨b',o2,vs,rfl,j1,j2⟩:=O7 (by intro h0;rw[h0]at u6;simp at u6;omega);have hlen:=aL _ _ j1;have C7:vs.length=m*i.size:=by rw[ZH];omega
    have n6:∀ j v,vs[j]?=some v->w.cell? ((⟨b',o2,none⟩:Addr).add j)=some v:=by intro j v hv;have hj:j<vs.length:=(aDs.1 hv).1;rw[add_lit,j2 j oO];exact hv
    have c8:n*i.size+vs.length<=Xo.toArray.size:=by rw[C7,ZH];simp only[aBd];omega
    have hr:=run_append_room (P:=P) w t ty e' i hd Yr (g.β l') n (g.κ l') Xo.toArray k1 ⟨b',o2,none⟩ m c vs C7 n6 (fH _ _ c3 j1) Ye c8;have Yx:=fH _ _ c3 j1
    have Xp:=xM (cs':=cs.take (n*row.size)++(cs.drop o').take (m*row.size)++cs.drop ((n+m)*row.size)) (vs':=Xo.take (n*row.size)++vs++Xo.drop ((n+m)*row.size)) hi hH Xl (by
     rw[<- k2];simp only[aAh,aAo,aAN];omega) (by simp only[aAh,aAo,aAN];omega) (by
     have hx1:(cs.take (n*row.size)++(cs.drop o').take (m*row.size)++cs.drop ((n+m)*row.size)).length=cs.length:=by simp only[aAh,aAo,aAN];omega
     have Ys:(Xo.take (n*row.size)++vs++Xo.drop ((n+m)*row.size)).take cs.length=(Xo.take cs.length).take (n*row.size)++vs++(Xo.take cs.length).drop ((n+m)*row.size):=by
      rw[aCE,aCE,aBS,aBS,aEt];simp only[aAh,aAo];rw[show min cs.length (n*row.size)=n*row.size by omega,show min (n*row.size) cs.length=n*row.size by omega];rw[aAr (l:=vs) oO]
      congr 2
      omega
     rw[hx1,Ys]
     exact bZ _ _ _ _ (bZ _ _ _ _ (dQ _ _ _ k4) j1) (gV _ _ _ k4))
    have harr:(Xo.toArray.toList.take (n*i.size)++vs++Xo.toArray.toList.drop (n*i.size+vs.length))=Xo.take (n*row.size)++vs++Xo.drop ((n+m)*row.size):=by rw[C7,ZH];simp only[I7]
    rw[harr]at hr;refine⟨_,_,hr,?_,Xp.1,Xp.2⟩;simp only[Rep];exact⟨_,rfl,Ye,M3,by trivial,hln,fun _=>rfl,hnl0⟩
  .simp at he
 .simp at he
theorem sZ{a:Act}{fr:Frm}(hr:dO w g a fr):∀(ps:List (Nat×Operand)),aC w g ((ps.map fun p=>(p.1,aI fr p.2)).map (·.2)) ((ps.map fun p=>(p.1,a.eval p.2)).map (·.2))
 |[]=>by simp only[aBz,aC]
 |p::ps=>by simp only[aAj,aC];exact⟨_,_,rfl,aE hr p.2,sZ hr ps⟩
theorem Cf{a:Act}{fr:Frm}(hr:dO w g a fr):∀(ps:List Operand),aC w g (ps.map (aI fr)) (ps.map a.eval)
 |[]=>by simp only[aBz,aC]
 |p::ps=>by simp only[aAj,aC];exact⟨_,_,rfl,aE hr p,Cf hr ps⟩
theorem fA{x:LV}{v u:Value}(h:Rep w g x v)(hx:x=.atom u):v=u:=by subst hx;simpa only[Rep]using h
theorem cJ{N:Nat}{q:Bool}{o:Oper}{fr:Frm}{lv:LV}(h:∀(a:Act) (w:World) (g:G),Inv w g st->dO w g a fr->a.tmps.size=N->∃ v,(execOp a.eval o).run P w=.ok (.value v) w/\Rep w g lv v):Op1 P N q o fr st lv st:=by intro a w g hi hr hs;obtain⟨v,h1,h2⟩:=h a w g hi hr hs;exact⟨.value v,w,g,h1,.inl ⟨v,rfl,h2⟩,hi,Ext.refl w g,fun _=>⟨rfl,rfl,rfl,v,rfl⟩⟩
theorem JW(hT:bF P T){N:Nat}{o:Oper}{c:Call}{fr:Frm}{md:Bool}{r:bT}(ho:o.op=.call c)(he:DB T md c fr st=some r)(hc:r.c):Op1 P N (aX o.op) o fr st r.v r.s:=by
 obtain⟨callee,args,U2⟩:=c;obtain⟨args⟩:=args;obtain⟨U2⟩:=U2;unfold DB at he
 split at he
 .rename_i x t _ ZC hargs Zo;simp only at ZC hargs Zo;subst ZC hargs Zo;rcases hmk:jY T t with _|p;rotate_left
  .simp only[hmk]at he;obtain⟨k,e⟩:=p;unfold Rf at he;simp only[hmk]at he
   split at he
   .rename_i l _ hx;cases hl:st.H l with
    |map ag ks es=>
     simp only[hl,aAb]at he;subst he;refine cJ fun a w g hi hr _=>?_;have h':=aE hr x;rw[hx]at h';simp only[Rep]at h';obtain⟨_,_,Gz,clock,m2,m3,_⟩:=hi.mp l _ _ es hl;refine⟨.int .i64 es.length,?_,by simp only[Rep]⟩;have hlen:Gz.length=es.length:=by simpa using congrArg List.length m3
     simp[execOp,ho,resolve,invoke,builtin,Builtin.len_,h'.1,run_underlying (oY hT hmk),goInt,MapKept.run_getObj_map m2,hlen]
    |_=>simp[hl]at he
   .simp at he
  simp only[hmk]at he;unfold RB at he
  split at he
  .rename_i e hs;have key:∀ n:Nat,r=⟨True,.atom (.int .i64 n),st⟩->(∀(a:Act) (w:World) (g:G),Inv w g st->dO w g a fr->∃ A cap,a.eval x=.slice A n cap)->Op1 P N (aX o.op) o fr st r.v r.s:=by rintro n rfl hv;refine cJ fun a w g hi hr _=>?_;obtain⟨A,cap,hv⟩:=hv a w g hi hr;refine⟨.int .i64 n,?_,by simp only[Rep]⟩;simp[execOp,ho,resolve,invoke,builtin,Builtin.len_,hv,run_underlying (cF hT hs),goInt]
   split at he
   .rename_i l off n hx;simp only[aAb]at he;refine key n he.symm fun a w g hi hr=>?_;have h':=aE hr x;rw[hx]at h';simp only[Rep]at h';obtain⟨A,cap,hv,_⟩:=h';exact⟨A,cap,hv⟩
   .rename_i l n c hx;simp only[aAb]at he;refine key n he.symm fun a w g hi hr=>?_;have h':=aE hr x;rw[hx]at h';simp only[Rep]at h';obtain⟨A,hv,_⟩:=h';exact⟨A,c,hv⟩
   .split at he
    .rename_i q n cs hx;simp only[aAb]at he;refine key n he.symm fun a w g hi hr=>?_;have h':=pB hx (aE hr x);simp only[Rep]at h';obtain⟨A,cap,hv,_⟩:=h';exact⟨A,cap,hv⟩
    .simp at he
  .simp at he
 .rename_i x y ZC hargs;simp only at ZC hargs;subst ZC hargs;unfold Ry at he
  split at he
  .rename_i k u k' v hx hy;simp only[aAb]at he;subst he;refine cJ fun a w g hi hr _=>?_;have h1:=fA (aE hr x) hx;have h2:=fA (aE hr y) hy;refine⟨.int k (if v<u then v else u),?_,by simp only[Rep]⟩;simp[execOp,ho,resolve,invoke,builtin,Builtin.min_,Builtin.min2,h1,h2]
  .simp at he
 .rename_i x y ZC hargs;simp only at ZC hargs;subst ZC hargs;unfold SR at he
  split at he
  .rename_i k u k' v hx hy;simp only[aAb]at he;subst he;refine cJ fun a w g hi hr _=>?_;have h1:=fA (aE hr x) hx;have h2:=fA (aE hr y) hy;refine⟨.int k (if u<v then v else u),?_,by simp only[Rep]⟩;simp[execOp,ho,resolve,invoke,builtin,Builtin.max_,Builtin.max2,h1,h2]
  .simp at he
 .rename_i s x t t' ZC hargs Zo;simp only at ZC hargs Zo;subst ZC hargs Zo
  split at he
  .rename_i htt;subst htt
   split at he
   .intro a w g hi hr _;obtain⟨v',w',h1,h2,h3,h4⟩:=Be (ty:=o.type) hT hi he hc (aE hr s) (aE hr x);refine⟨.value v',w',g,?_,.inl ⟨v',rfl,h2⟩,h3,h4,fun hq=>by simp[aX,ho]at hq⟩;simp[execOp,ho,resolve,invoke,builtin,h1]
   intro a w g hi hr _;obtain⟨v',w',g',h1,h2,h3,h4⟩:=EX (ty:=o.type) hT hi he hc (aE hr s) (aE hr x);refine⟨.value v',w',g',?_,.inl ⟨v',rfl,h2⟩,h3,h4,fun hq=>by simp[aX,ho]at hq⟩;simp[execOp,ho,resolve,invoke,builtin,h1]
  .intro a w g hi hr _;obtain⟨v',w',g',h1,h2,h3,h4⟩:=Bu (ty:=o.type) hT hi he hc (aE hr s) (aE hr x);refine⟨.value v',w',g',?_,.inl ⟨v',rfl,h2⟩,h3,h4,fun hq=>by simp[aX,ho]at hq⟩;simp[execOp,ho,resolve,invoke,builtin,h1]
 .rename_i x t _ ZC hargs Zo;simp only at ZC hargs Zo;subst ZC hargs Zo;unfold Th at he
  split at he
  .rename_i e hs hx;simp only[aAb]at he;subst he;refine cJ fun a w g hi hr _=>?_;have h':=aE hr x;rw[hx]at h';simp only[Rep]at h';have hv:=h';refine⟨.int .i64 0,?_,by simp only[Rep]⟩;simp[execOp,ho,resolve,invoke,builtin,Builtin.cap_,hv,run_underlying (cF hT hs),goInt]
  .rename_i e l n c hs hx;simp only[aAb]at he;subst he;refine cJ fun a w g hi hr _=>?_;have h':=aE hr x;rw[hx]at h';simp only[Rep]at h';obtain⟨A,hv,_⟩:=h';refine⟨.int .i64 c,?_,by simp only[Rep]⟩;simp[execOp,ho,resolve,invoke,builtin,Builtin.cap_,hv,run_underlying (cF hT hs),goInt]
  .simp at he
 .rename_i x t ZC hargs Zo;simp only at ZC hargs Zo;subst ZC hargs Zo;intro a w g hi hr _;obtain⟨w',h1,h2,h3,h4⟩:=HT (ty:=o.type) hT hi he hc (aE hr x);refine⟨.value (.tuple #[]),w',g,?_,.inl ⟨.tuple #[],rfl,?_⟩,h3,h4,fun hq=>by simp[aX,ho]at hq⟩
  .simp[execOp,ho,resolve,invoke,builtin,h1]
  .rw[h2];simp only[Rep,aC];exact⟨[],rfl,rfl⟩
 .rename_i x y t t' ZC hargs Zo;simp only at ZC hargs Zo;subst ZC hargs Zo;intro a w g hi hr _;obtain⟨v',w',h1,h2,h3,h4⟩:=IX (ty:=o.type) hT hi he hc (aE hr x) (aE hr y);refine⟨.value v',w',g,?_,.inl ⟨v',rfl,h2⟩,h3,h4,fun hq=>by simp[aX,ho]at hq⟩;simp[execOp,ho,resolve,invoke,builtin,h1]
 .rename_i x i t kt ZC hargs Zo;simp only at ZC hargs Zo;subst ZC hargs Zo;intro a w g hi hr _;obtain⟨h2,w',h1,h3,h4⟩:=EY (kt:=kt) (ty:=o.type) hT hi he hc (aE hr x) (aE hr i);refine⟨.value (.tuple #[]),w',g,?_,.inl ⟨.tuple #[],rfl,?_⟩,h3,h4,fun hq=>by simp[aX,ho]at hq⟩
  .simp[execOp,ho,resolve,invoke,builtin,h1]
  .rw[h2];simp only[Rep,aC];exact⟨[],rfl,rfl⟩
 .simp at he
theorem zX{t:TypeId}(h:P.underlying t=some .bool)(a b:Bool)(w:World):(Op.equal t (.bool a) (.bool b)).run P w=.ok (a==b) w:=by
 have hd:∀ d,(Op.equalIn (d+1) t (.bool a) (.bool b)).run P w=.ok (a==b) w:=by intro d;simp[Op.equalIn,run_underlying h]
 exact hd 9999
theorem FF(hT:bF P T){op:BinOp}{t:TypeId}{x y:LV}{v u:Value}{r:bT}(ox oy:Operand)(he:Fm T op t x y st=some r)(hc:r.c)(hv:Rep w g x v)(hu:Rep w g y u):
 r.s=st/\∃ z,(do eqGuard op t ox oy v u;binOp op t v u:Sem Value).run P w=.ok z w/\Rep w g r.v z:=by
 unfold Fm at he
 split at he
 .rename_i k a k' b;simp only[aBm]at he;obtain⟨z,h1,rfl⟩:=he;simp only[Rep]at hv hu;subst hv hu;exact⟨rfl,z.v,by simp[GW,JA h1 hc],by simp only[Rep]⟩
 .rename_i a b;simp only[Rep]at hv hu;subst hv hu
  split at he
  .simp only[aAb]at he;subst he;refine⟨rfl,.bool (a==b),?_,by simp only[Rep]⟩;simp[uQ,binOp,zX (Ay hT hc)]
  .simp only[aAb]at he;subst he;refine⟨rfl,.bool (!(a==b)),?_,by simp only[Rep]⟩;simp[uQ,binOp,zX (Ay hT hc)]
  .simp at he
 .rename_i xs ys;simp only[Rep]at hv hu;obtain⟨vs,rfl,hv⟩:=hv;obtain⟨us,rfl,hu⟩:=hu
  split at he
  .rename_i row ks ns Zy ms ht hx hy;obtain⟨rfl,l1⟩:=lV _ _ _ _ hx hv;obtain⟨rfl,l2⟩:=lV _ _ _ _ hy hu
   split at he
   .simp only[aAb]at he;subst he;obtain⟨c1,rfl,c3⟩:=hc;have:=HP (w:=w) (hT t row ht) c1 c3 l1 l2 ox oy .eql false (.inl ⟨rfl,rfl⟩);simp only[mkV,aBn]at this;exact⟨rfl,_,this,by simp[Rep]⟩
   .simp only[aAb]at he;subst he;obtain⟨c1,rfl,c3⟩:=hc;have:=HP (w:=w) (hT t row ht) c1 c3 l1 l2 ox oy .neq true (.inr ⟨rfl,rfl⟩);simp only[mkV,aBn]at this;exact⟨rfl,_,this,by simp[Rep]⟩
   .simp at he
  .simp at he
 .simp only[Rep]at hv hu;subst hv hu;have key:(cO T t).isSome=true->(Op.equal t (.slice none 0 0) (.slice none 0 0)).run P w=.ok true w/\∀ op',(eqGuard op' t ox oy (.slice none 0 0) (.slice none 0 0)).run P w=.ok () w:=by
   intro hs;obtain⟨e,hs⟩:=Option.isSome_iff_exists.1 hs;have ht:=cF hT hs;have hd:∀ d,(Op.equalIn (d+1) t (.slice none 0 0) (.slice none 0 0)).run P w=.ok true w:=by intro d;simp[Op.equalIn,run_underlying ht]
   exact⟨hd 9999,fun op'=>by unfold eqGuard;split<;>simp⟩
  split at he
  .simp only[aAb]at he;subst he;obtain⟨k1,k2⟩:=key hc;refine⟨rfl,.bool true,?_,by simp only[Rep]⟩;simp[k2,binOp,k1]
  .simp only[aAb]at he;subst he;obtain⟨k1,k2⟩:=key hc;refine⟨rfl,.bool false,?_,by simp only[Rep]⟩;simp[k2,binOp,k1]
  .simp at he
 .have Q4:∃ A,v=.map A/\∀ b,pF x=some b->A.isNone=b:=by
   cases x with
   |mp l=>simp only[Rep]at hv;exact⟨_,hv.1,fun b hb=>by simp[pF]at hb;subst hb;rfl⟩
   |atom y=>
    cases y with
    |map A=>
     simp only[Rep]at hv;refine⟨A,hv,fun b hb=>?_⟩;cases A with
     |none=>simp[pF]at hb;subst hb;rfl
     |some a=>simp[pF]at hb
    |_=>simp[pF]at he
   |_=>simp[pF]at he
  obtain⟨A,rfl,hA⟩:=Q4;simp only[Rep]at hu;subst hu;have key:(∃ k e,P.underlying t=some (.map k e))->(Op.equal t (.map A) (.map none)).run P w=.ok A.isNone w/\∀ op',(eqGuard op' t ox oy (.map A) (.map none)).run P w=.ok () w:=by
   rintro⟨k,e,ht⟩;have hd:∀ d,(Op.equalIn (d+1) t (.map A) (.map none)).run P w=.ok A.isNone w:=by intro d;cases A<;>simp[Op.equalIn,run_underlying ht]
   exact⟨hd 9999,fun op'=>by unfold eqGuard;split<;>simp⟩
  split at he
  .rename_i b hb;simp only[aAb]at he;subst he;obtain⟨k1,k2⟩:=key (DC hT hc);rw[hA b hb]at k1;refine⟨rfl,.bool b,?_,by simp only[Rep]⟩;simp[k2,binOp,k1]
  .rename_i b hb;simp only[aAb]at he;subst he;obtain⟨k1,k2⟩:=key (DC hT hc);rw[hA b hb]at k1;refine⟨rfl,.bool (!b),?_,by simp only[Rep]⟩;simp[k2,binOp,k1]
  .simp at he
 .have Q4:∃ A,v=.pointer A/\∀ b,nilPtr x=some b->A.isNone=b:=by
   cases x with
   |pt l o=>simp only[Rep]at hv;exact⟨_,hv.1,fun b hb=>by simp[nilPtr]at hb;subst hb;rfl⟩
   |pe l cs=>simp only[Rep]at hv;exact⟨_,hv.1,fun b hb=>by simp[nilPtr]at hb;subst hb;rfl⟩
   |ep cs=>simp only[Rep]at hv;obtain⟨b0,o0,hv,_⟩:=hv;exact⟨_,hv,fun b hb=>by simp[nilPtr]at hb;subst hb;rfl⟩
   |atom y=>
    cases y with
    |pointer A=>
     simp only[Rep]at hv;refine⟨A,hv,fun b hb=>?_⟩;cases A with
     |none=>simp[nilPtr]at hb;subst hb;rfl
     |some a=>simp[nilPtr]at hb
    |_=>simp[nilPtr]at he
   |_=>simp[nilPtr]at he
  obtain⟨A,rfl,hA⟩:=Q4;simp only[Rep]at hu;subst hu;have key:∀ e,P.underlying t=some (.pointer e)->(Op.equal t (.pointer A) (.pointer none)).run P w=.ok A.isNone w:=by
   intro e ht;have hd:∀ d,(Op.equalIn (d+1) t (.pointer A) (.pointer none)).run P w=.ok A.isNone w:=by intro d;cases A<;>simp[Op.equalIn,run_underlying ht]
   exact hd 9999
  split at he
  .rename_i b hb;simp only[aAb]at he;subst he;obtain⟨e,ht⟩:=GK hT hc;refine⟨rfl,.bool b,?_,by simp only[Rep]⟩;have:=key e ht;rw[hA b hb]at this;unfold eqGuard;simp[binOp,this]
  .rename_i b hb;simp only[aAb]at he;subst he;obtain⟨e,ht⟩:=GK hT hc;refine⟨rfl,.bool (!b),?_,by simp only[Rep]⟩;have:=key e ht;rw[hA b hb]at this;unfold eqGuard;simp[binOp,this]
  .simp at he
 .have Q4:(v=.nilFunc/\∀ b,tJ x=some b->b=true)\/((∃ f a c,v=.func f a c)/\∀ b,tJ x=some b->b=false):=by
   cases x with
   |fn f cY=>simp only[Rep]at hv;obtain⟨vs,rfl,_⟩:=hv;exact .inr ⟨⟨_,_,_,rfl⟩,fun b hb=>by simp only[tJ,aAb]at hb;exact hb.symm⟩
   |atom y=>
    cases y with
    |nilFunc=>simp only[Rep]at hv;exact .inl ⟨hv,fun b hb=>by simp only[tJ,aAb]at hb;exact hb.symm⟩
    |_=>simp[tJ]at he
   |_=>simp[tJ]at he
  simp only[Rep]at hu;subst hu;have key:∀ b,tJ x=some b->(∃ a b c,P.underlying t=some (.func a b c))->(Op.equal t v .nilFunc).run P w=.ok b w/\∀ op,(eqGuard op t ox oy v .nilFunc).run P w=.ok () w/\(op=.eql->(binOp op t v .nilFunc).run P w=.ok (.bool b) w)/\(op=.neq->(binOp op t v .nilFunc).run P w=.ok (.bool (!b)) w):=by
   rintro b hb ⟨_,_,_,ht⟩;have h0:(Op.equal t v .nilFunc).run P w=.ok b w:=by
    have hd:∀ d,(Op.equalIn (d+1) t v .nilFunc).run P w=.ok b w:=by
     intro d;rcases Q4 with⟨rfl,h⟩|⟨⟨f,a,c,rfl⟩,h⟩
     .obtain rfl:=h b hb;simp[Op.equalIn,run_underlying ht]
     .obtain rfl:=h b hb;simp[Op.equalIn,run_underlying ht]
    exact hd 9999
   refine⟨h0,fun op=>⟨?_,?_,?_⟩⟩
   .rcases Q4 with⟨rfl,_⟩|⟨⟨f,a,c,rfl⟩,_⟩<;>(unfold eqGuard;split<;>simp)
   .rintro rfl;rcases Q4 with⟨rfl,_⟩|⟨⟨f,a,c,rfl⟩,_⟩<;>simp[binOp,h0]
   .rintro rfl;rcases Q4 with⟨rfl,_⟩|⟨⟨f,a,c,rfl⟩,_⟩<;>simp[binOp,h0]
  split at he
  .rename_i b hb;simp only[aAb]at he;subst he;obtain⟨_,k⟩:=key b hb (Kg hT hc);refine⟨rfl,.bool b,?_,by simp only[Rep]⟩;simp[(k _).1,(k _).2.1 rfl]
  .rename_i b hb;simp only[aAb]at he;subst he;obtain⟨_,k⟩:=key b hb (Kg hT hc);refine⟨rfl,.bool (!b),?_,by simp only[Rep]⟩;simp[(k _).1,(k _).2.2 rfl]
  .simp at he
 .simp at he
theorem yL(hT:bF P T)(hi:Inv w g st){t:TypeId}{l c:LV}{v u:Value}{r:bT}(he:nJ T t l c st=some r)(hc:r.c)(h:Rep w g l v)(hu:Rep w g c u):
 ∃ v' w' g',(Instr.makeSlice t v u).run P w=.ok v' w'/\Rep w' g' r.v v'/\Inv w' g' r.s/\Ext w g w' g':=by
 unfold nJ at he
 split at he
 .rename_i e hs
  split at he
  .rename_i row ZL
   split at he
   .rename_i k n k' n';simp only[aAb]at he;subst he;obtain⟨rfl,c0,c2,c3,c4⟩:=hc;simp only[Rep]at h hu;subst h hu;have hd:=cF hT hs;have Rp:=hT e row ZL;obtain⟨i,Yr,ZH,U0,hz⟩:=Rp.info;have hzc:row.zeroV.cells=row.zero.toArray:=cX Rp;obtain⟨m,rfl⟩:=aCT c0;have ZK:m<=maxLen:=by simp only[maxLen];omega
    have c7:(i.bytes:Int)*(m:Int)<=281474976710656:=by rw[U0,Int.mul_comm];omega
    have Xv:=run_make (P:=P) w t e i row.zeroV hd Yr hz k k' (m:Int) (m:Int) c0 (aCg _) c7 c3;simp only[Int.toNat_natCast]at Xv;have hmc:madeCells row.zeroV.cells (m*i.size)=(bD row.zero m).toArray:=by apply aEG;rw[eF _ (by rw[Rp.zl];omega),hzc,ZH];simp[madeCells,<- List.toArray_range,Rp.zl]
    rw[hmc]at Xv;have N0:(bD row.zero m).length=m*row.size:=by rw[eF _ (by rw[Rp.zl];omega)];simp[Rp.zl]
    have X3:aC w g (dP (row.zero.map cH) m) (bD row.zero m):=by rw[jT];exact cL w g _
    have hlen:=aL _ _ X3;have ZN:=dD w g (.cells (bD row.zero m).toArray e) 0 m false;have B5:=tY hi e row.size m (cs:=dP (row.zero.map cH) m) (vs:=bD row.zero m) N0 ZK oO (by rw[hlen,aAQ];exact X3);refine⟨_,_,_,Xv,?_,B5,ZN⟩;simp only[Rep,Int.toNat_natCast];exact⟨_,_,rfl,aAi _,ZK,by simp[G.add,hi.next],by simp[G.add,hi.next],by simp[G.add,hi.next]⟩
   .simp at he
  .simp at he
 .simp at he
theorem uX(hT:bF P T){N:Nat}{o:Oper}{fr:Frm}{md:Bool}{r:bT}(he:aop T md o fr st=some r)(hc:r.c):Op1 P N (aX o.op) o fr st r.v r.s:=by
 unfold aop at he
 split at he
 .rename_i x ho;simp only[aAb]at he;subst he;exact cJ fun a w g hi hr _=>⟨a.eval x,by simp[execOp,ho],aE hr x⟩
 .rename_i x ho;simp only[aAb]at he;subst he;exact cJ fun a w g hi hr _=>⟨a.eval x,by simp[execOp,ho],aE hr x⟩
 .rename_i c x y ho
  split at he
  .rename_i t hct;simp only[aAb]at he;subst he;refine cJ fun a w g hi hr _=>?_;have h1:=fA (aE hr c) hct;refine⟨if t then a.eval x else a.eval y,by simp[execOp,ho,h1,asBool],?_⟩;cases t
   .exact aE hr y
   .exact aE hr x
  .simp at he
 .rename_i op t x y _ ho;intro a w g hi hr _;obtain⟨h0,z,h1,h2⟩:=FF hT x y he hc (aE hr x) (aE hr y);refine⟨.value z,w,g,?_,.inl ⟨z,rfl,h2⟩,by rw[h0];exact hi,Ext.refl w g,fun _=>⟨rfl,rfl,h0,_,rfl⟩⟩;simp only[execOp,ho];rw[Sem.run_bind,h1];rfl
 .rename_i op _ x ho;unfold Qx at he
  split at he
  .rename_i b hx;simp only[aAb]at he;subst he;refine cJ fun a w g hi hr _=>?_;have h1:=fA (aE hr x) hx;exact⟨.bool !b,by simp[execOp,ho,h1,Op.unary],by simp only[Rep]⟩
  .rename_i k n hx;simp only[aAb]at he;subst he;refine cJ fun a w g hi hr _=>?_;have h1:=fA (aE hr x) hx;exact⟨.int k (k.wrap (0-n)),by simp[execOp,ho,h1,Op.unary,Op.intArith],by simp only[Rep]⟩
  .simp at he
 .rename_i s d x ho
  split at he
  .rename_i k0 k k' n Yj hk hx;simp only[aAb]at he;subst he;refine cJ fun a w g hi hr _=>?_;have h1:=fA (aE hr x) hx;exact⟨.int k (k.wrap n),by simp[execOp,ho,h1,convert,run_underlying (yP hT Yj),run_underlying (yP hT hk),Conv.intToInt],by simp only[Rep]⟩
  .simp at he
 .rename_i t x ho;intro a w g hi hr _;obtain⟨h0,u,h1,h2⟩:=Bi hT hi he hc (aE hr x);exact⟨.value u,w,g,by simp[execOp,ho,h1],.inl ⟨u,rfl,h2⟩,by rw[h0];exact hi,Ext.refl w g,fun _=>⟨rfl,rfl,h0,_,rfl⟩⟩
 .rename_i t x v ho;intro a w g hi hr _;obtain⟨h0,w',h1,h2,h3⟩:=HB hT hi he hc (aE hr x) (aE hr v);exact⟨.skip,w',g,by simp[execOp,ho,h1],.inr ⟨rfl,h0⟩,h2,h3,fun hq=>by simp[aX,ho]at hq⟩
 .rename_i t x i ho;intro a w g hi hr _;obtain⟨h0,u,h1,h2⟩:=Mx (P:=P) hT he hc (aE hr x) (aE hr i);exact⟨.value u,w,g,by simp[execOp,ho,h1],.inl ⟨u,rfl,h2⟩,by rw[h0];exact hi,Ext.refl w g,fun _=>⟨rfl,rfl,h0,_,rfl⟩⟩
 .rename_i t x f ho;intro a w g hi hr _;obtain⟨h0,u,h1,h2⟩:=yG (P:=P) hT he hc (aE hr x);exact⟨.value u,w,g,by simp[execOp,ho,h1],.inl ⟨u,rfl,h2⟩,by rw[h0];exact hi,Ext.refl w g,fun _=>⟨rfl,rfl,h0,_,rfl⟩⟩
 .rename_i t x f ho;intro a w g hi hr _;obtain⟨h0,u,h1,h2⟩:=Fb (P:=P) hT he hc (aE hr x);exact⟨.value u,w,g,by simp[execOp,ho,h1],.inl ⟨u,rfl,h2⟩,by rw[h0];exact hi,Ext.refl w g,fun _=>⟨rfl,rfl,h0,_,rfl⟩⟩
 .rename_i t x lo Yo mx ho;intro a w g hi hr _
  obtain⟨h0,u,h1,h2⟩:=FL (P:=P) (w:=w) (g:=g) (vlo:=lo.map a.eval) (vhi:=Yo.map a.eval) (vmx:=mx.map a.eval) hT he hc (aE hr x)
   (fun l hl=>by cases lo with|none=>simp at hl|some z=>simp at hl;subst hl;exact⟨_,rfl,aE hr z⟩) (fun h=>by cases lo<;>simp_all)
   (fun l hl=>by cases Yo with|none=>simp at hl|some z=>simp at hl;subst hl;exact⟨_,rfl,aE hr z⟩) (fun h=>by cases Yo<;>simp_all)
   (fun l hl=>by cases mx with|none=>simp at hl|some z=>simp at hl;subst hl;exact⟨_,rfl,aE hr z⟩) (fun h=>by cases mx<;>simp_all)
  exact⟨.value u,w,g,by simp[execOp,ho,h1],.inl ⟨u,rfl,h2⟩,by rw[h0];exact hi,Ext.refl w g,fun _=>⟨rfl,rfl,h0,_,rfl⟩⟩
 .rename_i t x ho;intro a w g hi hr _;obtain⟨u,w',g',h1,h2,h3,h4⟩:=Mc (P:=P) hi he (aE hr x);exact⟨.value u,w',g',by simp[execOp,ho,h1],.inl ⟨u,rfl,h2⟩,h3,h4,fun hq=>by simp[aX,ho]at hq⟩
 .rename_i t ho;intro a w g hi hr _;obtain⟨u,w',g',h1,h2,h3,h4⟩:=GN (P:=P) hT hi he;exact⟨.value u,w',g',by simp[execOp,ho,h1],.inl ⟨u,rfl,h2⟩,h3,h4,fun hq=>by simp[aX,ho]at hq⟩
 .rename_i t ps ho;intro a w g hi hr _;obtain⟨h0,u,h1,h2⟩:=GS (P:=P) (YD:=ps.map fun p=>(p.1,a.eval p.2)) hT he hc sS (by simpa using sZ hr ps.toList);exact⟨.value u,w,g,by simp[execOp,ho,h1],.inl ⟨u,rfl,h2⟩,by rw[h0];exact hi,Ext.refl w g,fun _=>⟨rfl,rfl,h0,_,rfl⟩⟩
 .rename_i t n ps ho;intro a w g hi hr _;obtain⟨u,w',g',h1,h2,h3,h4⟩:=vE (P:=P) (YD:=ps.map fun p=>(p.1,a.eval p.2)) hT hi he hc sS (by simpa using sZ hr ps.toList);exact⟨.value u,w',g',by simp[execOp,ho,h1],.inl ⟨u,rfl,h2⟩,h3,h4,fun hq=>by simp[aX,ho]at hq⟩
 .rename_i f first cY ho
  split at he
  .rename_i hf;simp only[aAb]at he;subst he;refine cJ fun a w g hi hr _=>⟨.func f #[] (cY.map a.eval),?_,?_⟩
   .have:first=#[]:=by simpa using hf
    subst this;simp[execOp,ho,Instr.makeFunc]
   .simp only[Rep];exact⟨cY.toList.map a.eval,by rw[<- Array.toList_map],Cf hr _⟩
  .simp at he
 .rename_i x i ho
  split at he
  .rename_i vs hx
   split at he
   .rename_i v hv;simp only[aAb]at he;subst he;refine cJ fun a w g hi hr _=>?_;have h1:=aE hr x;rw[hx]at h1;simp only[Rep]at h1;obtain⟨us,h1,h2⟩:=h1;obtain⟨u,W6,hu2⟩:=uS i vs us v h2 hv;exact⟨u,by simp[execOp,ho,h1,Instr.extract,W6],hu2⟩
   .simp at he
  .simp at he
 .rename_i x ho
  split at he
  .rename_i l o' hx;simp only[aAb]at he;subst he;refine cJ fun a w g hi hr _=>?_;have h1:=aE hr x;rw[hx]at h1;have h2:=h1;simp only[Rep]at h1;exact⟨a.eval x,by simp[execOp,ho,h1.1],h2⟩
  .rename_i l cs hx;simp only[aAb]at he;subst he;refine cJ fun a w g hi hr _=>?_;have h1:=aE hr x;rw[hx]at h1;have h2:=h1;simp only[Rep]at h1;exact⟨a.eval x,by simp[execOp,ho,h1.1],h2⟩
  .simp at he
 .rename_i c ho;exact JW hT ho he hc
 .rename_i t x i ho;unfold ET at he
  split at he
  .rename_i s k n hx hn;simp only[aAb]at he;subst he;obtain⟨c1,c2,c3⟩:=hc;refine cJ fun a w g hi hr _=>?_;have h1:=fA (aE hr x) hx;have h2:=fA (aE hr i) hn;cases hb:s[n.toNat]? with
   |none=>rw[hb]at c3;cases c3
   |some b=>refine⟨.int .u8 b.toNat,?_,by simp only[Rep,Option.getD_some]⟩;simp[execOp,ho,h1,h2,Instr.index,asIntOf,run_underlying (OR hT c1),c2,hb]
  .simp at he
 .rename_i t x i ok ho;intro a w g hi hr _;obtain⟨h0,u,h1,h2⟩:=Et (P:=P) hT hi he hc (aE hr x) (aE hr i);exact⟨.value u,w,g,by simp[execOp,ho,h1],.inl ⟨u,rfl,h2⟩,by rw[h0];exact hi,Ext.refl w g,fun _=>⟨rfl,rfl,h0,_,rfl⟩⟩
 .rename_i t x i v ho;intro a w g hi hr _;obtain⟨h0,w',h1,h2,h3⟩:=uA (P:=P) hT hi he hc (aE hr x) (aE hr i) (aE hr v);exact⟨.skip,w',g,by simp[execOp,ho,h1],.inr ⟨rfl,h0⟩,h2,h3,fun hq=>by simp[aX,ho]at hq⟩
 .rename_i t x i v ho;intro a w g hi hr _;obtain⟨h0,w',h1,h2,h3⟩:=uA (P:=P) hT hi he hc (aE hr x) (aE hr i) (aE hr v);exact⟨.skip,w',g,by simp[execOp,ho,h1],.inr ⟨rfl,h0⟩,h2,h3,fun hq=>by simp[aX,ho]at hq⟩
 .rename_i t rs ho;intro a w g hi hr _;obtain⟨u,w',g',h1,h2,h3,h4⟩:=CB (P:=P) (vr:=rs.map a.eval) hT hi he (fun x hx=>by cases rs with|none=>simp at hx|some z=>simp at hx;subst hx;exact⟨_,rfl,aE hr z⟩) (fun h=>by cases rs<;>simp_all);exact⟨.value u,w',g',by simp[execOp,ho,h1],.inl ⟨u,rfl,h2⟩,h3,h4,fun hq=>by simp[aX,ho]at hq⟩
 .rename_i t l c ho;intro a w g hi hr _;obtain⟨u,w',g',h1,h2,h3,h4⟩:=yL (P:=P) hT hi he hc (aE hr l) (aE hr c);exact⟨.value u,w',g',by simp[execOp,ho,h1],.inl ⟨u,rfl,h2⟩,h3,h4,fun hq=>by simp[aX,ho]at hq⟩
 .simp at he
end
end Aw
end Go.Proofs.YtempldclppogmaaGreatDoor
