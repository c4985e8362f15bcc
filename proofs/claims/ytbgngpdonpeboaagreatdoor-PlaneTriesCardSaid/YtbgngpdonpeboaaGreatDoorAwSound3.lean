/- The operations' soundness: append; all operations in one theorem. No program is named here. -/
import Derived.Test.YtbgngpdonpeboaaGreatDoorAwMap
import Derived.Laws.MakeOwn
set_option linter.unusedVariables false
set_option linter.unusedSimpArgs false
namespace Go.Proofs.YtbgngpdonpeboaaGreatDoor
namespace Aw
open Go Go.RowKit
def G.addNil(g:G):G:=
 {next:=g.next+1,φ:=g.φ,β:=g.β,κ:=fun l=>if l=g.next then 0 else g.κ l,nl:=fun l=>if l=g.next then true else g.nl l }
section
variable {P:Program} {T:Tab} {w:World} {g:G} {st:St}
theorem ext_nil(w:World)(g:G):Ext w g w g.addNil:=by
 refine⟨rfl,rfl,rfl,aAl _,aDR _,fun _ _=>rfl,?_,?_,fun _ _ h=>⟨h,rfl⟩,fun _ k _ h=>⟨k,h,aAl _,fun _ _=>rfl⟩⟩
 .intro l hl;simp[G.addNil,aCf hl]
 .intro l hl;simp[G.addNil,aCf hl]
theorem jH(h:Inv w g st)(o:cN)(ho:(∃ e s,o=.own e s 0)\/∃ e s,o=.box e s []):Inv w g.addNil (st.new o):=by
 have hn:=h.next;have he:=ext_nil w g;have hb:∀ l,blk g.addNil (st.new o) l->l≠st.next/\blk g st l:=by
  intro l hl;unfold blk at hl ⊢;simp only[St.new,G.addNil,hn]at hl;by_cases e0:l=st.next
  .simp only[aAj e0]at hl;rcases ho with⟨e,s,rfl⟩|⟨e,s,rfl⟩<;>simp at hl
  .simp_all
 refine⟨by grind [G.addNil,St.new],by simp[St.new],?_,fun l hl=>h.lt l (hb l hl).2,fun l l' hl O5=>h.inj l l' (hb l hl).2 (hb l' O5).2,?_,?_,?_,?_,h.aside.keep he (oK (by rcases ho with⟨e,s,rfl⟩|⟨e,s,rfl⟩<;>rfl))⟩
 .intro l hl;simp only[St.new]at hl ⊢;rw[aAa oO];exact h.fresh l oO
 .intro l e' s' n' hl;by_cases e0:l=st.next
  .simp only[St.new,aAj e0]at hl;subst hl;rcases ho with⟨e,s,ho⟩|⟨e,s,ho⟩
   .injection ho with h1 h2 h3;subst h1 h2 h3;simp[G.addNil,hn,e0]
   grind
  .simp only[St.new,aAa e0]at hl;have:=h.own l e' s' n' hl;simp only[G.addNil,hn,aAa e0];exact this
 .intro l e' s' cs hl;by_cases e0:l=st.next
  .simp only[St.new,aAj e0]at hl;subst hl;rcases ho with⟨e,s,ho⟩|⟨e,s,ho⟩
   .grind
   .injection ho with h1 h2 h3;subst h1 h2 h3;simp[G.addNil,hn,e0]
  .simp only[St.new,aAa e0]at hl;obtain⟨q1,q2,q3⟩:=h.box l e' s' cs hl;refine⟨?_,?_,fun r9=>?_⟩
   .simp only[G.addNil,hn,aAa e0];omega
   .simp only[G.addNil,hn,aAa e0];omega
   .simp only[G.addNil,hn,aAa e0]at r9;obtain⟨n9,k1,k2,k3,k4,k5⟩:=q3 r9;refine⟨n9,k1,?_,k3,aC.mono he _ _ k4,k5⟩;simp only[G.addNil,hn,aAa e0];omega
 .intro l ag ks es hl;by_cases e0:l=st.next
  .simp only[St.new,aAj e0]at hl
   grind
  .simp only[St.new,aAa e0]at hl;exact(h.mp l ag ks es hl).keep he (h.map_lt hl) rfl rfl
 .intro l e' n hl;by_cases e0:l=st.next
  .simp only[St.new,aAj e0]at hl
   grind
  .simp only[St.new,aAa e0]at hl;exact(h.qu l e' n hl).keep he (h.que_lt hl) rfl rfl
theorem oF(h:Inv w g st){q e k k' kp:Nat}{o:cN}(hom:(∀ ag ks es,o≠.map ag ks es)/\gR o=false)(hqb:blk g st q){n9 arr:Array Value}(hcur:w.heap[g.β q]?=some (.cells n9 e (0,0)))(hk:g.φ (g.β q)=some k)(hkk:k<=k')
 (hsame:∀ i,i<k->arr[i]?=n9[i]?) (hblk:∀ w',Ext w g w' (g.add (g.β q) k' kp false)->w'.heap[g.β q]?=some (.cells arr e (0,0))->
   (∀ e' s n,o=.own e' s n->n<=kp/\kp<=maxLen/\e'=e/\arr.size=kp*s/\k'=n*s)/\
   (∀ e' n,o=.que e' n->e'=e/\arr.size=kp / qM+kp % qM/\k'=kp / qM+n/\n<=kp % qM/\kp % qM<=maxLen)/\
   (∀ e' s cs,o=.box e' s cs->kp<=maxLen/\e'=e/\arr.size=kp*s/\cs.length<=arr.size/\aC w' (g.add (g.β q) k' kp false) cs (arr.toList.take cs.length)/\k'=0)):
 Inv (w.setRow (g.β q) arr) (g.add (g.β q) k' kp false) ((st.set q .dead).new o)/\Ext w g (w.setRow (g.β q) arr) (g.add (g.β q) k' kp false):=by
 have hn:=h.next;have hqlt:q<st.next:=by
  rcases aAM q st.next with h0|h0
  .omega
  .unfold blk at hqb;rw[h.fresh q h0]at hqb;grind
 have he:Ext w g (w.setRow (g.β q) arr) (g.add (g.β q) k' kp false):=
  CG hcur hk hkk hsame (fun x=>rfl) (aDR _) (fun l hl=>by simp[G.add,aCf hl]) (fun l hl=>by simp[G.add,aCf hl]) (fun l hl=>by simp[G.add,aCf hl])
 have Tf:=setRow_heap w _ _ arr _ _ hcur;obtain⟨x9,hnq,hnb⟩:=hblk _ he Tf;have hHo:∀ l,l≠st.next->l≠q->((st.set q .dead).new o).H l=st.H l:=by intro l h0 h1;simp[St.new,St.set,h0,h1]
 have hHq:((st.set q .dead).new o).H q=.dead:=by simp[St.new,St.set,aCf hqlt]
 have hHn:((st.set q .dead).new o).H st.next=o:=by simp[St.new,St.set]
 have hb:∀ l,l≠st.next->blk (g.add (g.β q) k' kp false) ((st.set q .dead).new o) l->l≠q/\blk g st l:=by
  intro l e0 hl;unfold blk at hl ⊢;by_cases e1:l=q
  .subst e1;rw[hHq]at hl;exact hl.elim
  .rw[hHo l e0 e1]at hl;refine⟨e1,?_⟩;cases D3:st.H l<;>simp only[D3]at hl ⊢
   .simpa[G.add,hn,e0]using hl
   .simpa[G.add,hn,e0]using hl
   .simpa[G.add,hn,e0]using hl
   .simpa[G.add,hn,e0]using hl
 refine⟨⟨by simp[G.add,St.new,St.set,hn],by simp[St.new],?_,?_,?_,?_,?_,?_,?_,h.aside.keep he fun x hx=>(oK hom.2 x hx).trans (jJ rfl x (by rw[<- oK hom.2 x hx];omega))⟩,he⟩
 .intro l hl;have O5:st.next+1<=l:=hl;rw[hHo l oO oO];exact h.fresh l oO
 .intro l hl;rw[setRow_size];by_cases e0:l=st.next
  .simp only[G.add,hn,aAj e0];exact h.lt q hqb
  .simp only[G.add,hn,aAa e0];exact h.lt l (hb l e0 hl).2
 .intro l l' hl O5 hbb;by_cases e0:l=st.next<;>by_cases e1:l'=st.next
  .omega
  .obtain⟨k1,k2⟩:=hb l' e1 O5;simp only[G.add,hn,aAj e0,aAa e1]at hbb;exact absurd (h.inj q l' hqb k2 hbb).symm k1
  .obtain⟨k1,k2⟩:=hb l e0 hl;simp only[G.add,hn,aAj e1,aAa e0]at hbb;exact absurd (h.inj l q k2 hqb hbb) k1
  .simp only[G.add,hn,aAa e1,aAa e0]at hbb;exact h.inj l l' (hb l e0 hl).2 (hb l' e1 O5).2 hbb
 .intro l e' s' m hl;by_cases e0:l=st.next
  .subst e0;rw[hHn]at hl;obtain⟨a1,a2,rfl,a3,a4⟩:=x9 e' s' m hl;simp only[G.add,hn,aAj];exact⟨a1,a2,sS,fun _=>⟨arr,Tf,a3,by rw[a4]⟩⟩
  .by_cases e1:l=q
   .subst e1;rw[hHq]at hl;cases hl
   .rw[hHo l e0 e1]at hl;obtain⟨k1,k2,k3,k4⟩:=h.own l e' s' m hl;simp only[G.add,hn,aAa e0];refine⟨k1,k2,k3,fun hnl'=>?_⟩;obtain⟨c',z1,z2,z3⟩:=k4 hnl';have hlb:blk g st l:=by unfold blk;rw[hl];exact hnl'
    have c7:g.β l≠g.β q:=fun hh=>e1 (h.inj l q hlb hqb hh);exact⟨c',by rw[setRow_other w _ _ _ c7];omega,z2,by rw[aAa c7];omega⟩
 .intro l e' s' cs hl;by_cases e0:l=st.next
  .subst e0;rw[hHn]at hl;obtain⟨a1,rfl,a2,a3,a4,a5⟩:=hnb e' s' cs hl;refine⟨by simp only[G.add,hn,aAj];omega,by simp[G.add,hn],fun _=>⟨arr.toList,?_,?_,oO,a4,?_⟩⟩
   .simp only[G.add,hn,aAj];omega
   .simp only[G.add,hn,aAj];omega
   .simp[G.add,hn,a5]
  .by_cases e1:l=q
   .subst e1;rw[hHq]at hl;cases hl
   .rw[hHo l e0 e1]at hl;obtain⟨q1,q2,q3⟩:=h.box l e' s' cs hl;refine⟨by simp only[G.add,hn,aAa e0];omega,by simp only[G.add,hn,aAa e0];omega,fun hnl'=>?_⟩;simp only[G.add,hn,aAa e0]at hnl';obtain⟨c',z1,z2,z3,z4,z5⟩:=q3 hnl';have hlb:blk g st l:=by unfold blk;rw[hl];exact hnl'
    have c7:g.β l≠g.β q:=fun hh=>e1 (h.inj l q hlb hqb hh);refine⟨c',?_,?_,z3,aC.mono he _ _ z4,?_⟩
    .simp only[G.add,hn,aAa e0];rw[setRow_other w _ _ _ c7];omega
    .simp only[G.add,hn,aAa e0];omega
    .simp only[G.add,hn,aAa e0,aAa c7];omega
 .intro l ag ks es hl;by_cases e0:l=st.next
  .subst e0;rw[hHn]at hl;simp_all
  .by_cases e1:l=q
   .subst e1;rw[hHq]at hl;cases hl
   .rw[hHo l e0 e1]at hl;have c7:g.β l≠g.β q:=fun hh=>e1 (h.inj l q (h.map_blk hl) hqb hh);exact(h.mp l ag ks es hl).keep he (h.map_lt hl) (setRow_other w _ _ _ c7) (by simp only[G.add];rw[aAa c7])
 .intro l e' n hl;by_cases e0:l=st.next
  .subst e0;rw[hHn]at hl;obtain⟨rfl,a1,a2,a3,a4⟩:=hnq _ _ hl;refine⟨by simp[G.add,hn],⟨arr,by simp only[G.add,hn,aAj];omega,by simp only[G.add,hn,aAj];omega⟩,by simp[G.add,hn,a2],by simp only[G.add,hn,aAj];omega⟩
  .by_cases e1:l=q
   .subst e1;rw[hHq]at hl;cases hl
   .rw[hHo l e0 e1]at hl;have c7:g.β l≠g.β q:=fun hh=>e1 (h.inj l q (h.que_blk hl) hqb hh);exact(h.qu l e' n hl).keep he (h.que_lt hl) (setRow_other w _ _ _ c7) (by simp only[G.add];rw[aAa c7])
theorem mM(h:Inv w g st){q e k k':Nat}{o:cN}(hom:((∀ ag ks es,o≠.map ag ks es)/\gR o=false)/\∀ e n,o≠.que e n)(hqb:blk g st q){n9 arr:Array Value}(hcur:w.heap[g.β q]?=some (.cells n9 e (0,0)))(hk:g.φ (g.β q)=some k)(hkk:k<=k')
 (hsame:∀ i,i<k->arr[i]?=n9[i]?) (hblk:∀ w',Ext w g w' (g.add (g.β q) k' (g.κ q) false)->w'.heap[g.β q]?=some (.cells arr e (0,0))->
   (∀ e' s n,o=.own e' s n->n<=g.κ q/\g.κ q<=maxLen/\e'=e/\arr.size=g.κ q*s/\k'=n*s)/\
   (∀ e' s cs,o=.box e' s cs->g.κ q<=maxLen/\e'=e/\arr.size=g.κ q*s/\cs.length<=arr.size/\aC w' (g.add (g.β q) k' (g.κ q) false) cs (arr.toList.take cs.length)/\k'=0)):
 Inv (w.setRow (g.β q) arr) (g.add (g.β q) k' (g.κ q) false) ((st.set q .dead).new o)/\Ext w g (w.setRow (g.β q) arr) (g.add (g.β q) k' (g.κ q) false):=
 oF h hom.1 hqb hcur hk hkk hsame fun w' h1 h2=>⟨(hblk w' h1 h2).1,fun e n h=>absurd h (hom.2 e n),(hblk w' h1 h2).2⟩
theorem Uv(a:List Value)(Z:Array Value):a.toArray++Z=(a++Z.toList).toArray:=by simp_all
theorem Ck(a b:List Value)(Z:Array Value):a.toArray++b.toArray++Z=(a++b++Z.toList).toArray:=by simp_all
def Src(w:World)(g:G)(m:Nat)(ds:List LV)(u:Value):Prop:=
 ∃ A c,u=.slice A m c/\(ds≠[]->∃ b o vs,A=some ⟨b,o,none⟩/\aC w g ds vs/\∀ j,j<ds.length->w.cell? ⟨b,o+j,none⟩=vs[j]?)
theorem sC(hi:Inv w g st){t m:Nat}{x:LV}{u:Value}{ds:List LV}(hx:Ct T t st x=some (m,ds))(hu:Rep w g x u):Src w g m ds u:=by
 have sl:∀ q,xI x=some (q,m,ds)->Src w g m ds u:=by intro q hq;have h:=pW hq hu;simp only[Rep]at h;obtain⟨A,c,rfl,_,_,_,hrw⟩:=h;refine⟨A,c,rfl,fun c7=>?_⟩;obtain⟨b,o,rfl,hrr⟩:=hrw c7;obtain⟨vs,k1,k2⟩:=gQ _ _ hrr;exact⟨b,o,vs,rfl,k1,k2⟩
 cases x with
 |ms l o n=>
  simp only[Ct]at hx;cases he:cR T t with
  |none=>simp_all
  |some e=>
   cases hr:T e with
   |none=>simp_all
   |some r=>
    cases hl:st.H l with
    |box e' s' cs=>
     simp only[he,hr,hl,aAb,aBd]at hx;obtain⟨rfl,rfl⟩:=hx;simp only[Rep]at hu;obtain⟨A,cap,rfl,_,_,_,hA,_⟩:=hu;refine⟨A,cap,rfl,fun c7=>?_⟩;have X9:n≠0:=by rintro rfl;simp at c7
     obtain⟨_,q2,q3⟩:=hi.box l e' s' cs hl;cases r9:g.nl l with
     |true=>grind
     |false=>
      obtain⟨n9,k1,k2,k3,k4,k5⟩:=q3 r9;refine⟨g.β l,o,((n9.take cs.length).drop o).take (n*r.size),hA X9,dK _ _ _ (gM _ _ _ k4),fun j hj=>?_⟩;rw[cell_of_row w _ _ _ _ _ k1]
      grind
    |_=>simp_all
 |_=>simp only[Ct,aBk]at hx;obtain⟨⟨q,m',ds'⟩,h1,h2⟩:=hx;simp only[aBd]at h2;obtain⟨rfl,rfl⟩:=h2;exact sl q h1
theorem AH(hT:aZ P T){t ty e n m cap:Nat}{row:bK}{ds:List LV}{u:Value}{A:Option Addr}{olds:List Value}(hs:cR T t=some e)(Q8:T e=some row)(hu:Src w g m ds u)
 (c1:ds.length=m*row.size) (c2:ds.all iM=true) (c3:(n+m)*row.bytes<=140737488355328) (c4:n+m<=maxLen) (c5:0<row.size) (Y2:olds.length=n*row.size)
 (hA:(n=0/\cap=0)\/∃ b n9,A=some ⟨b,0,none⟩/\w.heap[b]?=some (.cells n9 e (0,0))/\n9.size=cap*row.size/\n<=cap/\n9.toList.take (n*row.size)=olds):
 ∃ v' w' vs,(Builtin.append_ #[t,t] ty #[.slice A n cap,u]).run P w=.ok v' w'/\aC w g ds vs/\
  ((m=0/\v'=.slice A n cap/\w=w')\/
   (∃ b n9,0<m/\A=some ⟨b,0,none⟩/\w.heap[b]?=some (.cells n9 e (0,0))/\n+m<=cap/\v'=.slice (some ⟨b,0,none⟩) (n+m) cap/\w'=w.setRow b (olds++vs++n9.toList.drop ((n+m)*row.size)).toArray)\/
   (∃ C z,v'=.slice (some ⟨w.heap.size,0,none⟩) (n+m) C/\w'=w.drew.alloc (.cells (olds++vs++z).toArray e)/\n+m<=C/\C<=maxLen/\(olds++vs++z).length=C*row.size)):=by
 have hd:=cG hT hs;have Tf:=hT e row Q8;obtain⟨i,N3,U0,X5,hz⟩:=Tf.info;have hzc:row.zeroV.cells=row.zero.toArray:=cW Tf;obtain⟨A',c,rfl,hrw⟩:=hu;by_cases hm:m=0
 .subst hm;have hds:ds=[]:=aAK oO;subst hds;refine⟨.slice A n cap,w,[],?_,by grind [aC],.inl ⟨rfl,rfl,rfl⟩⟩;have hnc:n<=cap:=by
   rcases hA with⟨rfl,rfl⟩|⟨_,_,_,_,_,h,_⟩
   .omega
   .exact h
  cases A'<;>cases A<;>simp[Builtin.append_,run_underlying hd,Go.sizeOf,typeInfo,N3,Builtin.lenOf,Builtin.firstCells,loadCells,loadCellsFrom,hnc,storeCells]
 .have hdne:ds≠[]:=by rintro rfl;have:0<m*row.size:=aDy oO c5;simp at c1;omega
  obtain⟨b',o',vs,rfl,k1,k2⟩:=hrw hdne;have hlen:=aJ _ _ k1;have hvl:vs.length=m*i.size:=by rw[U0];omega
  have V9:∀ j v,vs[j]?=some v->w.cell? ((⟨b',o',none⟩:Addr).add j)=some v:=by intro j v hv;have hj:j<vs.length:=(aDp.1 hv).1;rw[add_lit,k2 j oO];exact hv
  have V8:∀ old,(olds++vs++(Builtin.zeroCells row.zeroV.cells (grownCap w (n+m) old e-(n+m))).toList).length=grownCap w (n+m) old e*row.size:=by
   intro old;have hge:=grownCap_ge w (n+m) old e;have hzl:(Builtin.zeroCells row.zeroV.cells (grownCap w (n+m) old e-(n+m))).toList.length=(grownCap w (n+m) old e-(n+m))*row.size:=by rw[Array.length_toList,size_zeroCells,hzc];simp only[aBc,Tf.zl]
   rw[aAn,aAn,hzl,Y2,hvl,U0,<- aCg,<- aCg]
   congr 1;omega
  rcases hA with⟨rfl,rfl⟩|⟨b,n9,rfl,hb,P9,hnc,L0⟩
  .have ho:olds=[]:=aAK oO;subst ho;cases A with
   |none=>
    have hr:=run_append_nil (P:=P) w t ty e i row.zeroV hd N3 hz ⟨b',o',none⟩ m c vs hvl V9 oO (by grind [maxLen]) (by grind);refine⟨_,_,vs,hr,k1,.inr (.inr ⟨grownCap w (0+m) 0 e,(Builtin.zeroCells row.zeroV.cells (grownCap w (0+m) 0 e-(0+m))).toList,sS,?_,grownCap_ge w _ 0 e,grownCap_le_maxLen w _ 0 e c4,V8 0⟩)⟩
    grind [Uv]
   |some a=>have hr:=run_append_grow (P:=P) w t ty e i row.zeroV hd N3 hz a 0 0 [] sS sS ⟨b',o',none⟩ m c vs hvl V9 oO (by grind [maxLen]) (by rw[X5];exact growslice_fits oO c3);refine⟨_,_,vs,hr,k1,.inr (.inr ⟨grownCap w (0+m) 0 e,(Builtin.zeroCells row.zeroV.cells (grownCap w (0+m) 0 e-(0+m))).toList,rfl,?_,grownCap_ge w _ 0 e,grownCap_le_maxLen w _ 0 e c4,V8 0⟩)⟩;rw[Ck]
  .by_cases O0:n+m<=cap
   .have hns:n*i.size=olds.length:=by rw[U0];omega
    have X0:n*i.size+vs.length<=n9.size:=by rw[hvl,P9,U0,<- aCg];exact aCj _ O0
    have hr:=run_append_room (P:=P) w t ty e i hd N3 b n cap n9 hb ⟨b',o',none⟩ m c vs hvl V9 (gK _ _ c2 k1) O0 X0;refine⟨_,_,vs,hr,k1,.inr (.inl ⟨b,n9,oO,rfl,hb,O0,rfl,?_⟩)⟩
    grind
   .have holds:∀ j v,olds[j]?=some v->w.cell? ((⟨b,0,none⟩:Addr).add j)=some v:=by
     intro j v hv;rw[add_lit,aBv,cell_of_row w _ _ _ _ _ hb,<- aCb];rw[<- L0,aBQ]at hv
     split at hv
     .omega
     .grind
    have hr:=run_append_grow (P:=P) w t ty e i row.zeroV hd N3 hz ⟨b,0,none⟩ n cap olds (by grind) holds ⟨b',o',none⟩ m c vs hvl V9 oO (by grind [maxLen]) (by rw[X5];exact growslice_fits oO c3);refine⟨_,_,vs,hr,k1,.inr (.inr ⟨grownCap w (n+m) cap e,(Builtin.zeroCells row.zeroV.cells (grownCap w (n+m) cap e-(n+m))).toList,rfl,?_,grownCap_ge w _ cap e,grownCap_le_maxLen w _ cap e c4,V8 cap⟩)⟩;rw[Ck]
theorem Mj(hi:Inv w g st){e s N C:Nat}{ds:List LV}{vs z:List Value}(hr:aC w g ds vs)(hN:ds.length=N*s)(hC:N<=C)(hm:C<=maxLen)(hl:(vs++z).length=C*s):
 Rep (w.drew.alloc (.cells (vs++z).toArray e)) (g.add w.heap.size (N*s) C false) (.sl st.next N ds) (.slice (some ⟨w.heap.size,0,none⟩) N C)/\
 Inv (w.drew.alloc (.cells (vs++z).toArray e)) (g.add w.heap.size (N*s) C false) (st.new (.own e s N))/\Ext w g (w.drew.alloc (.cells (vs++z).toArray e)) (g.add w.heap.size (N*s) C false):=by
 have hdz:w.drew.heap.size=w.heap.size:=rfl;have Y9:=FH hi.drew e s N C (vs++z).toArray oO hC hm;have Q1:=(dU w g).trans (dM w.drew g (.cells (vs++z).toArray e) (N*s) C false);rw[hdz]at Y9 Q1;have hlen:=aJ _ _ hr;refine⟨?_,Y9,Q1⟩;simp only[Rep];refine⟨_,_,rfl,hC,⟨hm,sS⟩,fun _=>by simp[G.add,hi.next],fun _=>⟨w.heap.size,0,rfl,jC ds vs 0 (aC.mono Q1 _ _ hr) (fun j hj=>?_) (fun j hj=>?_)⟩⟩
 .rw[cell_of_row _ w.heap.size _ _ _ _ (heap_alloc_new w.drew _),aBv,aCc,aBe oO]
 .intro k hk;simp[G.add]at hk;omega
theorem zV(hi:Inv w g st){e s N C:Nat}{ds:List LV}{vs z:List Value}(hr:aC w g ds vs)(hC:N<=C)(hm:C<=maxLen)(hl:(vs++z).length=C*s):
 Rep (w.drew.alloc (.cells (vs++z).toArray e)) (g.add w.heap.size 0 C false) (.ms st.next 0 N) (.slice (some ⟨w.heap.size,0,none⟩) N C)/\
 Inv (w.drew.alloc (.cells (vs++z).toArray e)) (g.add w.heap.size 0 C false) (st.new (.box e s ds))/\Ext w g (w.drew.alloc (.cells (vs++z).toArray e)) (g.add w.heap.size 0 C false):=by
 have hdz:w.drew.heap.size=w.heap.size:=rfl;have hlen:=aJ _ _ hr
 have Y9:=vK hi.drew e s C (cs:=ds) (vs:=vs++z) hl hm (by grind) (by
  rw[hlen,aDu];exact aC.mono (dU w g) _ _ hr)
 have Q1:=(dU w g).trans (dM w.drew g (.cells (vs++z).toArray e) 0 C false);rw[hdz]at Y9 Q1;refine⟨?_,Y9,Q1⟩;simp only[Rep];exact⟨_,_,rfl,hC,hm,by simp[G.add,hi.next],by simp[G.add,hi.next],by simp[G.add,hi.next]⟩
theorem tY(hi:Inv w g st)(k:Nat){l e s:Nat}{cs:List LV}(hl:st.H l=.box e s cs):Inv w g (st.set l (.box e s (cs.take k))):=by
 have hb:∀ x,blk g (st.set l (.box e s (cs.take k))) x↔blk g st x:=by
  intro x;unfold blk;simp only[St.set];by_cases hx:x=l
  .simp_all
  .simp_all
 have dA:l<st.next:=BN hi hl sS;refine⟨hi.next,hi.pos,?_,fun x hx=>hi.lt x ((hb x).1 hx),fun x y hx hy=>hi.inj x y ((hb x).1 hx) ((hb y).1 hy),?_,?_,?_,?_,hi.aside.keep (Ext.refl w g) (jJ rfl)⟩
 .intro x hx;simp only[St.set]at hx ⊢;rw[aAa oO];exact hi.fresh x hx
 .intro x e' s' n hx;by_cases e0:x=l
  .simp[St.set,e0]at hx
  .simp only[St.set,aAa e0]at hx;exact hi.own x e' s' n hx
 .intro x e' s' cs' hx;by_cases e0:x=l
  .simp only[St.set,aAj e0]at hx;injection hx with h1 h2 h3;subst h1 h2 h3 e0;obtain⟨q1,q2,q3⟩:=hi.box x e s cs hl;refine⟨q1,fun hn=>⟨(q2 hn).1,by grind⟩,fun hn=>?_⟩;obtain⟨n9,k1,k2,k3,k4,k5⟩:=q3 hn;refine⟨n9,k1,k2,by grind,?_,k5⟩;have:=dK k _ _ k4
   grind
  .simp only[St.set,aAa e0]at hx;exact hi.box x e' s' cs' hx
 .intro x ag ks es hx;by_cases e0:x=l
  .simp[St.set,e0]at hx
  .simp only[St.set,aAa e0]at hx;exact hi.mp x ag ks es hx
 .intro x e' n hx;by_cases e0:x=l
  .simp[St.set,e0]at hx
  .simp only[St.set,aAa e0]at hx;exact hi.qu x e' n hx
theorem DQ(hT:aZ P T)(hi:Inv w g st){t ty e' l n m:Nat}{row:bK}{cs ds:List LV}{v u:Value}(hs:cR T t=some e')(Q8:T e'=some row)(hu':Src w g m ds u)(hH:st.H l=.box e' row.size cs)
 (d0:cs.length=n*row.size) (c1:ds.length=m*row.size) (c2:ds.all iM=true) (c3:(n+m)*row.bytes<=140737488355328) (c4:n+m<=maxLen) (c5:0<row.size) (h:Rep w g (.ms l 0 n) v):
 ∃ v' w' g',(Builtin.append_ #[t,t] ty #[v,u]).run P w=.ok v' w'/\Rep w' g' (.ms st.next 0 (n+m)) v'/\Inv w' g' ((st.set l .dead).new (.box e' row.size (cs++ds)))/\Ext w g w' g':=by
 simp only[Rep]at h;obtain⟨A,cap,rfl,hncap,hcapm,hA0,hA',hln⟩:=h;obtain⟨rfl,hA⟩:=hA0 trivial;clear hA0;have hqlt:l<st.next:=by rw[<- hi.next];exact hln
 obtain⟨o2,o3,o4⟩:=hi.box l _ _ _ hH;have U1:∃ olds:List Value,aC w g cs olds/\((n=0/\g.κ l=0)\/∃ b n9,A=some ⟨b,0,none⟩/\w.heap[b]?=some (.cells n9 e' (0,0))/\n9.size=g.κ l*row.size/\n<=g.κ l/\n9.toList.take (n*row.size)=olds):=by
  cases r9:g.nl l with
  |true=>obtain⟨S7,rfl⟩:=o3 r9;exact⟨[],by grind [aC],.inl ⟨oO,S7⟩⟩
  |false=>
   grind
 obtain⟨olds,ho1,U1⟩:=U1;have Y2:olds.length=n*row.size:=by rw[<- aJ _ _ ho1];exact d0
 obtain⟨v',w',vs,o9,hvs,M0⟩:=AH (ty:=ty) hT hs Q8 hu' c1 c2 c3 c4 c5 Y2 U1;have hvl:vs.length=m*row.size:=by rw[<- aJ _ _ hvs];exact c1
 have hcat:=bW _ _ _ _ ho1 hvs;have hNl:(cs++ds).length=(n+m)*row.size:=by rw[aAn,d0,c1,aCg]
 have hmul:=aCg n m row.size;rcases M0 with⟨rfl,rfl,rfl⟩|⟨b,n9,M5,rfl,hb,O0,rfl,rfl⟩|⟨C,z,rfl,rfl,hC,hCm,hl⟩
 .have hds:ds=[]:=aAK oO;subst hds;cases r9:g.nl l with
  |true=>obtain⟨S7,rfl⟩:=o3 r9;refine⟨_,_,g.addNil,o9,?_,jH (hi.drop l hqlt) _ (.inr ⟨_,_,rfl⟩),ext_nil _ g⟩;simp only[Rep];exact⟨_,_,rfl,hncap,o2,by simp[G.addNil,hi.next,S7],oO,by simp[G.addNil,hi.next]⟩
  |false=>
   obtain⟨n9,p1,p2,p4,p5,p6⟩:=o4 r9;obtain rfl:=hA r9
   have L0:=mM (o:=.box e' row.size (cs++[])) (k':=0) (arr:=n9.toArray) hi sS (by unfold blk;simp_all) p1 p6 (aAl _) (fun _ _=>rfl)
    (fun w' hx _=>⟨(fun e1 s1 n1 h1=>by grind),fun e1 s1 n1 h1=>by
      grind [aC.mono]⟩)
   rw[setRow_self w _ _ _ _ p1]at L0;refine⟨_,_,_,o9,?_,L0.1,L0.2⟩;simp only[Rep];exact⟨_,_,rfl,hncap,o2,by simp[G.add,hi.next],by simp[G.add,hi.next],by simp[G.add,hi.next]⟩
 .have r9:g.nl l=false:=by
   cases r9:g.nl l with
   |false=>rfl
   |true=>
    grind
  obtain⟨S8,p1,p2,p4,p5,p6⟩:=o4 r9;have hbq:=hA r9;simp only[aAb,Addr.mk.injEq]at hbq;obtain⟨rfl,_⟩:=hbq;have hcc:S8.toArray=n9:=by rw[p1]at hb;injection hb with hb;injection hb
  subst hcc;have U0:(n+m)*row.size<=S8.length:=by rw[p2];exact aCj _ O0
  have harr:(olds++vs++S8.drop ((n+m)*row.size)).length=g.κ l*row.size:=by rw[<- p2];simp only[aAn,aAL];omega
  have L0:=mM (o:=.box e' row.size (cs++ds)) (k':=0) (arr:=(olds++vs++S8.drop ((n+m)*row.size)).toArray) hi sS (by unfold blk;simp_all) p1 p6 (aAl _)
   (fun j hj=>absurd hj (aDN _))
   (fun w' hx _=>⟨(fun e1 s1 n1 h1=>by grind),fun e1 s1 n1 h1=>by
     grind [aC.mono]⟩)
  refine⟨_,_,_,o9,?_,L0.1,L0.2⟩;simp only[Rep];exact⟨_,_,rfl,O0,o2,by simp[G.add,hi.next],by simp[G.add,hi.next],by simp[G.add,hi.next]⟩
 .have:=zV (e:=e') (N:=n+m) (hi.drop l hqlt) hcat hC hCm hl;exact⟨_,_,_,o9,this⟩
theorem xX(w:World)(t ty e:TypeId)(i:TypeInfo)(ht:P.underlying t=some (.slice e))(hi:P.info? e=some i)(b off sLen sCap:Nat)(n9:Array Value)(hg:w.heap[b]?=some (.cells n9 e (0,0)))
 (a:Addr) (m c:Nat) (news:List Value) (hl:news.length=m*i.size) (V9:∀ j u,news[j]?=some u->w.cell? (a.add j)=some u) (h1:∀ u∈news,u.oneCell'=true) (O0:sLen+m<=sCap) (X0:off+sLen*i.size+news.length<=n9.size):
 (Builtin.append_ #[t,t] ty #[.slice (some ⟨b,off,none⟩) sLen sCap,.slice (some a) m c]).run P w=
   .ok (.slice (some ⟨b,off,none⟩) (sLen+m) sCap) (w.setRow b (n9.toList.take (off+sLen*i.size)++news++n9.toList.drop (off+sLen*i.size+news.length)).toArray):=by
 have hf:=run_firstCells_some (P:=P) w i.size m a m c news hl V9;have D3:=run_storeCells_at P b (off+sLen*i.size) e news 0 n9 w hg oO h1;simp only[Nat.add_zero]at D3;simp[Builtin.append_,run_underlying ht,sizeOf,typeInfo,hi,Builtin.lenOf,O0,hf,Addr.add_lit,D3]
theorem TC(hT:aZ P T){t ty e n m cap:Nat}{row:bK}{ds:List LV}{u:Value}{A:Option Addr}{olds:List Value}(hs:cR T t=some e)(Q8:T e=some row)(hu:Src w g m ds u)
 (c0:row.size=1) (c1:ds.length=m) (c2:ds.all iM=true) (c3:(n+m)*row.bytes<=140737488355328) (c4:n+m<=maxLen) (Y2:olds.length=n)
 (hA:(n=0/\cap=0)\/∃ b o n9,A=some ⟨b,o,none⟩/\w.heap[b]?=some (.cells n9 e (0,0))/\n9.size=o+cap/\n<=cap/\(n9.toList.drop o).take n=olds):
 ∃ v' w' vs,(Builtin.append_ #[t,t] ty #[.slice A n cap,u]).run P w=.ok v' w'/\aC w g ds vs/\
  ((m=0/\v'=.slice A n cap/\w=w')\/
   (∃ b o n9,0<m/\A=some ⟨b,o,none⟩/\w.heap[b]?=some (.cells n9 e (0,0))/\n+m<=cap/\v'=.slice (some ⟨b,o,none⟩) (n+m) cap/\w'=w.setRow b (n9.toList.take (o+n)++vs++n9.toList.drop (o+n+m)).toArray)\/
   (∃ C z,v'=.slice (some ⟨w.heap.size,0,none⟩) (n+m) C/\w'=w.drew.alloc (.cells (olds++vs++z).toArray e)/\n+m<=C/\C<=maxLen/\(olds++vs++z).length=C)):=by
 rcases hA with hA|⟨b,o,n9,rfl,hb,P9,hnc,L0⟩
 .obtain⟨v',w',vs,h1,h2,h3⟩:=AH (ty:=ty) (A:=A) (olds:=olds) hT hs Q8 hu (by grind) c2 c3 c4 oO (by grind) (.inl hA);refine⟨v',w',vs,h1,h2,?_⟩;rcases h3 with h3|⟨_,_,hm,_,_,h3,_⟩|⟨C,z,k1,k2,k3,k4,k5⟩
  .grind
  .omega
  grind
 have hd:=cG hT hs;have Tf:=hT e row Q8;obtain⟨i,N3,U0,X5,hz⟩:=Tf.info;have hzc:row.zeroV.cells=row.zero.toArray:=cW Tf;obtain⟨A',c,rfl,hrw⟩:=hu;by_cases hm:m=0
 .subst hm;have hds:ds=[]:=aAK oO;subst hds;refine⟨_,w,[],?_,by grind [aC],.inl ⟨rfl,rfl,rfl⟩⟩;cases A'<;>simp[Builtin.append_,run_underlying hd,Go.sizeOf,typeInfo,N3,Builtin.lenOf,Builtin.firstCells,loadCells,loadCellsFrom,hnc,storeCells]
 have hdne:ds≠[]:=by rintro rfl;simp at c1;omega
 obtain⟨b',o',vs,rfl,k1,k2⟩:=hrw hdne;have hlen:=aJ _ _ k1;have hvl:vs.length=m*i.size:=by rw[U0,c0];omega
 have V9:∀ j v,vs[j]?=some v->w.cell? ((⟨b',o',none⟩:Addr).add j)=some v:=by intro j v hv;have hj:j<vs.length:=(aDp.1 hv).1;rw[add_lit,k2 j oO];exact hv
 by_cases O0:n+m<=cap
 .have hr:=xX (P:=P) w t ty e i hd N3 b o n cap n9 hb ⟨b',o',none⟩ m c vs hvl V9 (gK _ _ c2 k1) O0 (by grind);rw[hvl,U0,c0,aDz,aDz]at hr;exact⟨_,_,vs,hr,k1,.inr (.inl ⟨b,o,n9,oO,rfl,hb,O0,rfl,rfl⟩)⟩
 .have holds:∀ j v,olds[j]?=some v->w.cell? ((⟨b,o,none⟩:Addr).add j)=some v:=by
   intro j v hv;rw[add_lit,cell_of_row w _ _ _ _ _ hb,<- aCb];rw[<- L0,aBQ]at hv
   split at hv
   .grind
   .grind
  have V8:(olds++vs++(Builtin.zeroCells row.zeroV.cells (grownCap w (n+m) cap e-(n+m))).toList).length=grownCap w (n+m) cap e:=by
   have hge:=grownCap_ge w (n+m) cap e;have hzl:(Builtin.zeroCells row.zeroV.cells (grownCap w (n+m) cap e-(n+m))).toList.length=(grownCap w (n+m) cap e-(n+m))*row.size:=by rw[Array.length_toList,size_zeroCells,hzc];simp only[aBc,Tf.zl]
   rw[aAn,aAn,hzl,Y2,hvl,U0,c0];omega
  have hr:=run_append_grow (P:=P) w t ty e i row.zeroV hd N3 hz ⟨b,o,none⟩ n cap olds (by grind) holds ⟨b',o',none⟩ m c vs hvl V9 oO (by grind [maxLen]) (by rw[X5];exact growslice_fits oO c3);refine⟨_,_,vs,hr,k1,.inr (.inr ⟨grownCap w (n+m) cap e,(Builtin.zeroCells row.zeroV.cells (grownCap w (n+m) cap e-(n+m))).toList,rfl,?_,grownCap_ge w _ cap e,grownCap_le_maxLen w _ cap e c4,V8⟩)⟩;rw[Ck]
theorem KN{C:Nat}(h:C<=maxLen):C / qM=0/\C % qM=C:=by
 grind [qM,maxLen]
theorem UH(o:Nat){C:Nat}(h:C<=maxLen):(o*qM+C) / qM=o/\(o*qM+C) % qM=C:=by
 have:C<qM:=by simp only[maxLen,qM]at *;omega
 grind [Nat.mul_comm,Nat.mul_add_div,Nat.div_eq_of_lt,Nat.mul_add_mod,Nat.mod_eq_of_lt]
theorem ES(h:Inv w g st){t e n:Nat}(hH:st.H t=.own e 1 n)(r9:g.nl t=false):Inv w g (st.set t (.que e n)):=by
 obtain⟨o1,o2,o3,o4⟩:=h.own t e 1 n hH;obtain⟨n9,p1,p2,p3⟩:=o4 r9;obtain⟨q1,q2⟩:=KN o2;have hb:∀ x,blk g (st.set t (.que e n)) x↔blk g st x:=by
  intro x;unfold blk;simp only[St.set];by_cases hx:x=t
  .simp_all
  .simp_all
 have dA:t<st.next:=by
  rcases aAM t st.next with h0|h0
  .omega
  .rw[h.fresh t h0]at hH;grind
 refine⟨h.next,h.pos,?_,fun x hx=>h.lt x ((hb x).1 hx),fun x y hx hy=>h.inj x y ((hb x).1 hx) ((hb y).1 hy),?_,?_,?_,?_,h.aside.keep (Ext.refl w g) (jJ rfl)⟩
 .intro x hx;simp only[St.set]at hx ⊢;rw[aAa oO];exact h.fresh x hx
 .intro x e' s' n' hx;by_cases e0:x=t
  .simp[St.set,e0]at hx
  .simp only[St.set,aAa e0]at hx;exact h.own x e' s' n' hx
 .intro x e' s' cs' hx;by_cases e0:x=t
  .simp[St.set,e0]at hx
  .simp only[St.set,aAa e0]at hx;exact h.box x e' s' cs' hx
 .intro x ag ks es hx;by_cases e0:x=t
  .simp[St.set,e0]at hx
  .simp only[St.set,aAa e0]at hx;exact h.mp x ag ks es hx
 .intro x e' n' hx;by_cases e0:x=t
  .simp only[St.set,aAj e0]at hx;injection hx with h1 h2;subst h1 h2 e0;exact⟨r9,⟨n9,p1,oO⟩,by grind,oO⟩
  .simp only[St.set,aAa e0]at hx;exact h.qu x e' n' hx
theorem OY(hT:aZ P T)(hi:Inv w g st){t ty e' q o n m:Nat}{row:bK}{cs ds:List LV}{v u:Value}(hs:cR T t=some e')(Q8:T e'=some row)(hu':Src w g m ds u)(hH:st.H q=.que e' (o+n))
 (c0:row.size=1) (d0:cs.length=n) (c1:ds.length=m) (c2:ds.all iM=true) (c3:(n+m)*row.bytes<=140737488355328) (c4:n+m<=maxLen) (h:Rep w g (.qu q o n cs) v):
 ∃ v' w' g',(Builtin.append_ #[t,t] ty #[v,u]).run P w=.ok v' w'/\Rep w' g' (.qu st.next 0 (n+m) (cs++ds)) v'/\Inv w' g' ((st.set q .dead).new (.que e' (n+m)))/\Ext w g w' g':=by
 simp only[Rep]at h;obtain⟨A,cap,rfl,hncap,hcapm,hqn,hoc,hA,hcells⟩:=h;have hqlt:q<st.next:=by rw[<- hi.next];exact hqn
 obtain⟨r9,⟨n9,p1,p2⟩,p3,p4,p5⟩:=hi.qu q _ _ hH;generalize hK:g.κ q / qM=O at *;generalize hC:g.κ q % qM=K at *;have U1:∃ olds:List Value,aC w g cs olds/\((n=0/\cap=0)\/∃ b o' n9,A=some ⟨b,o',none⟩/\w.heap[b]?=some (.cells n9 e' (0,0))/\n9.size=o'+cap/\n<=cap/\(n9.toList.drop o').take n=olds):=by
  by_cases hc0:cap=0
  .have X9:n=0:=oO
   grind [aC]
  .obtain rfl:=hA hc0;refine⟨(n9.toList.drop (O+o)).take n,?_,.inr ⟨_,_,n9,rfl,p1,oO,hncap,rfl⟩⟩;by_cases P9:cs=[]
   .grind [aC]
   .obtain⟨b,o',hbo,hrr⟩:=hcells P9;simp only[aAb,Addr.mk.injEq]at hbo;obtain⟨rfl,rfl,_⟩:=hbo;obtain⟨vs,k1,k2⟩:=gQ _ _ hrr;have hl:=aJ _ _ k1;have:(n9.toList.drop (O+o)).take n=vs:=by
     apply aCu;intro j;rw[aBQ]
     split
     .grind [cell_of_row]
     .grind
    grind
 obtain⟨olds,ho1,U1⟩:=U1;have Y2:olds.length=n:=by rw[<- aJ _ _ ho1];exact d0
 obtain⟨v',w',vs,o9,hvs,M0⟩:=TC (ty:=ty) hT hs Q8 hu' c0 c1 c2 c3 c4 Y2 U1;have hvl:vs.length=m:=by rw[<- aJ _ _ hvs];exact c1
 have hcat:=bW _ _ _ _ ho1 hvs;have hqb:blk g st q:=by unfold blk;rw[hH];exact r9
 obtain⟨qa,qb⟩:=UH (O+o) hcapm;rcases M0 with⟨hm0,rfl,rfl⟩|⟨b,o',S8,M5,rfl,hb,O0,rfl,rfl⟩|⟨C,z,rfl,rfl,hC',hCm,hl⟩
 .have hds:ds=[]:=aAK oO;subst hds
  have L0:=oF (o:=.que e' (n+m)) (k':=O+o+(n+m)) (kp:=(O+o)*qM+cap) (arr:=n9) hi sS hqb p1 p3 oO (fun _ _=>rfl)
   (fun w' hx _=>⟨(fun e1 s1 n1 h1=>by grind),(fun e1 n1 h1=>by injection h1 with h1 h2;omega),fun e1 s1 n1 h1=>by grind⟩)
  rw[setRow_self w _ _ _ _ p1]at L0;refine⟨_,_,_,o9,?_,L0.1,L0.2⟩;simp only[Rep];refine⟨A,cap,by grind,oO,hcapm,by simp[G.add,hi.next],?_,fun h0=>?_,fun c7=>?_⟩
  .simp only[G.add,hi.next,aAj,qb,aBv]
  .simp only[G.add,hi.next,aAj,qa,Nat.add_zero];grind
  grind [aN.mono]
 .have hc0:cap≠0:=oO;have hbo:=hA hc0;simp only[aAb,Addr.mk.injEq]at hbo;obtain⟨rfl,rfl,_⟩:=hbo;have hcc:n9=S8:=by rw[p1]at hb;injection hb with hb;injection hb
  subst hcc;have r8:n9.toList.length=O+o+cap:=by rw[Array.length_toList];omega
  have hlen:(n9.toList.take (O+o+n)++vs++n9.toList.drop (O+o+n+m)).length=O+o+cap:=by rw[aAn,aAn,aAw,aAL];omega
  have L0:=oF (o:=.que e' (n+m)) (k':=O+o+(n+m)) (kp:=(O+o)*qM+cap) (arr:=(n9.toList.take (O+o+n)++vs++n9.toList.drop (O+o+n+m)).toArray) hi sS hqb p1 p3 oO
   (fun j hj=>by
     rw[aCc,aAF,aBe (by rw[aAw];omega),aBQ,aAj oO,aCb])
   (fun w' hx _=>⟨(fun e1 s1 n1 h1=>by grind),(fun e1 n1 h1=>by injection h1 with h1 h2;subst h1 h2;rw[qa,qb];grind),fun e1 s1 n1 h1=>by grind⟩)
  refine⟨_,_,_,o9,?_,L0.1,L0.2⟩;simp only[Rep];refine⟨_,cap,rfl,O0,hcapm,by simp[G.add,hi.next],?_,fun h0=>?_,fun c7=>?_⟩
  .simp only[G.add,hi.next,aAj,qb,aBv]
  .simp only[G.add,hi.next,aAj,qa,Nat.add_zero]
  .refine⟨_,_,rfl,jC _ (olds++vs) _ (aC.mono L0.2 _ _ hcat) (fun j hj=>?_) (fun j hj=>?_)⟩
   .have hj':j<n+m:=by rw[aAn]at hj;omega
    have htake:(n9.toList.drop (O+o)).take n=olds:=by
     rcases U1 with⟨_,h0⟩|⟨b,o',cur2,h1,h2,_,_,h5⟩
     .omega
     .grind
    rw[cell_of_row _ _ _ _ _ _ (setRow_heap w _ _ _ _ _ p1),aCc,aAF];by_cases hjn:j<n
    .rw[aBe (by rw[aAw];omega),aBQ,aAj oO,aBe oO,<- htake,aBQ,aAj hjn,aDs]
    .rw[aBx (by rw[aAw];omega),aAw,aDm oO,aBe oO,aBx oO]
     congr 1
     omega
   .intro k hk;simp[G.add]at hk
    grind
 .obtain⟨r1,r2⟩:=KN hCm;have dA:w.heap.size<=w.drew.heap.size:=aAl _;have hi1:=hi.drop q hqlt;have hdz:w.drew.heap.size=w.heap.size:=rfl;have Y9:=FH hi1.drew e' 1 (n+m) C (olds++vs++z).toArray (by grind) hC' hCm;have Q1:=(dU w g).trans (dM w.drew g (.cells (olds++vs++z).toArray e') ((n+m)*1) C false);rw[hdz]at Y9 Q1;have S9:=ES Y9 (t:=st.next) (e:=e') (n:=n+m) (by simp[St.new,St.set]) (by simp[G.add,hi.next]);have D3:((st.set q .dead).new (.own e' 1 (n+m))).set st.next (.que e' (n+m))=(st.set q .dead).new (.que e' (n+m)):=by
   unfold St.set St.new
   congr 1
   funext x
   by_cases hx:x=st.next
   .grind
   .grind
  rw[D3]at S9;refine⟨_,_,_,o9,?_,S9,Q1⟩;simp only[Rep];refine⟨_,C,rfl,hC',hCm,by simp[G.add,hi.next],by simp[G.add,hi.next,r2],fun _=>by simp[G.add,hi.next,r1],fun _=>⟨w.heap.size,0,rfl,jC _ (olds++vs) 0 (aC.mono Q1 _ _ hcat) (fun j hj=>?_) (fun j hj=>?_)⟩⟩
  .rw[aAn]at hj;rw[cell_of_row _ w.heap.size _ _ _ _ (heap_alloc_new w.drew _),aBv,aCc,aBe (by grind)]
  .intro k hk;rw[aAn]at hj;simp[G.add]at hk;omega
theorem Cm(hT:aZ P T)(hi:Inv w g st){md:Bool}{t ty e m:Nat}{u:Value}{ds:List LV}{row:bK}{r:bR}(A:Option Addr)(hs:cR T t=some e)(Q8:T e=some row)(hu':Src w g m ds u)
 (he:(if md then some ⟨ds.length=m*row.size/\ds.all iM=true/\m*row.bytes<=140737488355328/\m<=maxLen/\0<row.size,.ms st.next 0 m,st.new (.box e row.size ds)⟩
   else some ⟨ds.length=m*row.size/\ds.all iM=true/\m*row.bytes<=140737488355328/\m<=maxLen/\0<row.size,.sl st.next m ds,st.new (.own e row.size m)⟩:Option bR)=some r) (hc:r.c):
 ∃ v' w' g',(Builtin.append_ #[t,t] ty #[.slice A 0 0,u]).run P w=.ok v' w'/\Rep w' g' r.v v'/\Inv w' g' r.s/\Ext w g w' g':=by
 have hcc:ds.length=m*row.size/\ds.all iM=true/\m*row.bytes<=140737488355328/\m<=maxLen/\0<row.size:=by
  split at he<;>(grind)
 obtain⟨c1,c2,c3,c4,c5⟩:=hcc;obtain⟨v',w',vs,o9,hvs,M0⟩:=AH (ty:=ty) (n:=0) (cap:=0) (A:=A) (olds:=[]) hT hs Q8 hu' c1 c2 (by grind) oO c5 sS (.inl ⟨rfl,rfl⟩);rcases M0 with⟨rfl,rfl,rfl⟩|⟨b,n9,M5,_,_,h0,_⟩|⟨C,z,rfl,rfl,hC,hCm,hl⟩
 .have hds:ds=[]:=aAK oO;subst hds
  split at he
  .simp only[aAb]at he;subst he;refine⟨_,_,g.addNil,o9,?_,jH hi _ (.inr ⟨_,_,rfl⟩),ext_nil _ g⟩;simp only[Rep];exact⟨_,_,rfl,aAl _,aBI _,by simp[G.addNil,hi.next],sS,by simp[G.addNil,hi.next]⟩
  .simp only[aAb]at he;subst he;refine⟨_,_,g.addNil,o9,?_,jH hi _ (.inl ⟨_,_,rfl⟩),ext_nil _ g⟩;simp only[Rep];exact⟨_,_,rfl,aAl _,⟨aBI _,fun _=>rfl⟩,by simp[G.addNil,hi.next],sS⟩
 .omega
 .simp only[aBv,List.nil_append]at o9 hC hl
  split at he
  .simp only[aAb]at he;subst he;have:=zV (e:=e) hi hvs hC hCm hl
   grind
  .simp only[aAb]at he;subst he;have:=Mj (e:=e) hi hvs c1 hC hCm hl
   grind
theorem UN{l n c:Nat}{v:Value}(h:Rep w g (.kap l n c) v):Rep w g (.ms l 0 n) v:=by
 grind [Rep]
theorem Fh(hT:aZ P T)(hi:Inv w g st){md:Bool}{t ty:TypeId}{s x:LV}{v u:Value}{r:bR}(he:AO T md t s x st=some r)(hc:r.c)(h:Rep w g s v)(hu:Rep w g x u):
 ∃ v' w' g',(Builtin.append_ #[t,t] ty #[v,u]).run P w=.ok v' w'/\Rep w' g' r.v v'/\Inv w' g' r.s/\Ext w g w' g':=by
 unfold AO at he
 split at he
 .rename_i e m ds hs hx
  split at he
  .rename_i row Q8;have hu':=sC hi hx hu
   split at he
   .simp only[Rep]at h;subst h;exact Cm hT hi none hs Q8 hu' he hc
   .simp only[Rep]at h;obtain⟨A,rfl⟩:=h;exact Cm hT hi A hs Q8 hu' he hc
   .rename_i q n cs;cases hH:st.H q with
    |own e' s' n'=>
     simp only[hH,aAb]at he;subst he;obtain⟨rfl,rfl,rfl,d0,hq0,c1,c2,c3,c4,c5⟩:=hc;simp only[Rep]at h;obtain⟨A,cap,rfl,hncap,hcapm,htok,hcells⟩:=h;obtain⟨hA,rfl,hqn⟩:=htok hq0;have hqlt:q<st.next:=by rw[<- hi.next];exact hqn
     obtain⟨o1,o2,o3,o4⟩:=hi.own q _ _ _ hH;have U1:∃ olds:List Value,aC w g cs olds/\((n'=0/\g.κ q=0)\/∃ b n9,A=some ⟨b,0,none⟩/\w.heap[b]?=some (.cells n9 e' (0,0))/\n9.size=g.κ q*row.size/\n'<=g.κ q/\n9.toList.take (n' * row.size)=olds):=by
      cases r9:g.nl q with
      |true=>have S7:=o3 r9;have X9:n'=0:=oO;subst X9;have P9:cs=[]:=aAK oO;subst P9;exact⟨[],by grind [aC],.inl ⟨rfl,S7⟩⟩
      |false=>
       obtain⟨n9,p1,p2,p3⟩:=o4 r9;obtain rfl:=hA r9;refine⟨n9.toList.take (n' * row.size),?_,.inr ⟨_,n9,rfl,p1,p2,o1,rfl⟩⟩;by_cases P9:cs=[]
       .grind [aC]
       .obtain⟨b,o,hbo,hrr⟩:=hcells P9;simp only[aAb,Addr.mk.injEq]at hbo;obtain⟨rfl,rfl,_⟩:=hbo;obtain⟨vs,k1,k2⟩:=gQ _ _ hrr;have hl:=aJ _ _ k1;have:n9.toList.take (n' * row.size)=vs:=by
         apply aCu;intro j;by_cases hj:j<cs.length
         .grind [cell_of_row]
         .grind
        grind
     obtain⟨olds,ho1,U1⟩:=U1;have Y2:olds.length=n' * row.size:=by rw[<- aJ _ _ ho1];exact d0
     obtain⟨v',w',vs,o9,hvs,M0⟩:=AH (ty:=ty) hT hs Q8 hu' c1 c2 c3 c4 c5 Y2 U1;have hvl:vs.length=m*row.size:=by rw[<- aJ _ _ hvs];exact c1
     have hcat:=bW _ _ _ _ ho1 hvs;have hNl:(cs++ds).length=(n'+m)*row.size:=by rw[aAn,d0,c1,aCg]
     rcases M0 with⟨rfl,rfl,rfl⟩|⟨b,n9,M5,rfl,hb,O0,rfl,rfl⟩|⟨C,z,rfl,rfl,hC,hCm,hl⟩
     .have hds:ds=[]:=aAK oO;subst hds;cases r9:g.nl q with
      |true=>have S7:=o3 r9;have X9:n'=0:=oO;subst X9;have P9:cs=[]:=aAK oO;subst P9;refine⟨_,_,g.addNil,o9,?_,jH (hi.drop q hqlt) _ (.inl ⟨_,_,rfl⟩),ext_nil _ g⟩;simp only[Rep];exact⟨_,_,rfl,o1,⟨o2,fun _=>S7⟩,by simp[G.addNil,hi.next,S7],sS⟩
      |false=>
       obtain⟨n9,p1,p2,p3⟩:=o4 r9;obtain rfl:=hA r9
       have L0:=mM (o:=.own e' row.size n') (k':=n' * row.size) (arr:=n9) hi sS (by unfold blk;simp_all) p1 p3 (aAl _) (fun _ _=>rfl)
        (fun w' _ _=>⟨fun e1 s1 n1 h1=>by grind,fun e1 s1 n1 h1=>by grind⟩)
       rw[setRow_self w _ _ _ _ p1]at L0;refine⟨_,_,_,o9,?_,L0.1,L0.2⟩;have K9:Rep w g (.sl q n' cs) (.slice (some ⟨g.β q,0,none⟩) n' (g.κ q)):=by simp only[Rep];exact⟨_,_,rfl,o1,⟨o2,sS⟩,fun _=>⟨fun _=>rfl,rfl,hqn⟩,hcells⟩
       have hrep':=Rep.mono L0.2 _ _ K9;simp only[Rep]at hrep' ⊢;obtain⟨A2,cap2,h1,h2,h3,_,h5⟩:=hrep';refine⟨A2,cap2,h1,h2,h3,fun _=>?_,by grind⟩;injection h1 with h1 _ h1';subst h1 h1';simp[G.add,hi.next]
     .have r9:g.nl q=false:=by
       cases r9:g.nl q with
       |false=>rfl
       |true=>
        grind
      obtain⟨S8,p1,p2,p3⟩:=o4 r9;have hbq:=hA r9;simp only[aAb,Addr.mk.injEq]at hbq;obtain⟨rfl,_⟩:=hbq;have hcc:S8=n9:=by rw[p1]at hb;injection hb with hb;injection hb
      subst hcc;have htko:S8.toList.take (n' * row.size)=olds:=by
       rcases U1 with⟨h0,_⟩|⟨b2,cur2,h1,h2,_,_,h3⟩
       .omega
       .grind
      have U0:(n'+m)*row.size<=S8.size:=by rw[p2];exact aCj _ O0
      have hmul:=aCg n' m row.size;have harr:(olds++vs++S8.toList.drop ((n'+m)*row.size)).toArray.size=g.κ q*row.size:=by rw[<- p2];simp only[aBc,aAn,aAL,Array.length_toList];omega
      have L0:=mM (o:=.own e' row.size (n'+m)) (k':=(n'+m)*row.size) (arr:=(olds++vs++S8.toList.drop ((n'+m)*row.size)).toArray) hi sS (by unfold blk;rw[hH];omega) p1 p3 oO
       (fun j hj=>by
         rw[aAF,aCc,aBe oO,<- htko,aBQ,aAj hj,aCb])
       (fun w' _ _=>⟨fun e1 s1 n1 h1=>by grind,fun e1 s1 n1 h1=>by grind⟩)
      refine⟨_,_,_,o9,?_,L0.1,L0.2⟩;simp only[Rep];refine⟨_,_,rfl,O0,⟨o2,sS⟩,fun _=>by simp[G.add,hi.next],fun c7=>⟨g.β q,0,rfl,jC _ (olds++vs) 0 (aC.mono L0.2 _ _ hcat) (fun j hj=>?_) (fun j hj=>?_)⟩⟩
      .rw[cell_of_row _ _ _ _ _ _ (setRow_heap w _ _ _ _ _ p1),aBv,aCc,aBe (by grind)]
      .intro k hk;simp[G.add]at hk;omega
     .have:=Mj (e:=e') (hi.drop q hqlt) hcat hNl hC hCm hl;exact⟨_,_,_,o9,this⟩
    |_=>simp_all
   .rename_i l n cap;cases hH:st.H l with
    |box e' s' cs=>
     simp only[hH,aAb]at he;subst he;obtain⟨rfl,rfl,d0,c1,c2,c3,c4,c5⟩:=hc;have hi1:=tY hi (n*row.size) hH;have hset:(st.set l (.box e' row.size (cs.take (n*row.size)))).set l .dead=st.set l .dead:=by
      unfold St.set
      congr 1
      funext x
      by_cases hx:x=l<;>simp[hx]
     have:=DQ (ty:=ty) hT hi1 (l:=l) (n:=n) (cs:=cs.take (n*row.size)) hs Q8 hu' (by simp[St.set]) (by grind) c1 c2 c3 c4 c5 (UN h);rw[hset]at this;exact this
    |_=>simp_all
   .rename_i l o n;cases hH:st.H l with
    |box e' s' cs=>
     simp only[hH,aAb]at he;subst he;obtain⟨rfl,rfl,rfl,d0,c1,c2,c3,c4,c5⟩:=hc;have hi1:=tY hi (n*row.size) hH;have hset:(st.set l (.box e' row.size (cs.take (n*row.size)))).set l .dead=st.set l .dead:=by
      unfold St.set
      congr 1
      funext x
      by_cases hx:x=l<;>simp[hx]
     have:=DQ (ty:=ty) hT hi1 (l:=l) (n:=n) (cs:=cs.take (n*row.size)) hs Q8 hu' (by simp[St.set]) (by grind) c1 c2 c3 c4 c5 h;rw[hset]at this;exact this
    |_=>simp_all
   .rename_i q o n cs;cases hH:st.H q with
    |que e' n'=>simp only[hH,aAb]at he;subst he;obtain⟨rfl,c0,rfl,d0,c1,c2,c3,c4⟩:=hc;exact OY (ty:=ty) hT hi hs Q8 hu' hH c0 d0 c1 c2 c3 c4 h
    |_=>simp_all
   grind
  grind
 grind
theorem RE(hi:Inv w g st){t t' ty e' l' n cap:Nat}{k k':IntKind}{z:Int}{row:bK}{A:Option Addr}{cs:List LV}(hd:P.underlying t=some (.slice e'))(hdk:P.underlying t'=some (.int k))(Tf:bE P e' row)(hH:st.H l'=.box e' row.size cs)
 (hnc:n<=cap) (hA:n≠0->A=some ⟨g.β l',0,none⟩) (c1:n*row.size<=cs.length) (c2:0<z) (c3:(cap:Int)<n+z) (c4:((n:Int)+z)*row.bytes<=140737488355328) (c5:(n:Int)+z<=9223372036854775807) (c6:0<row.size):
 ∃ v' w' g',(Builtin.append_ #[t,t'] ty #[.slice A n cap,.int k' z]).run P w=.ok v' w'/\Rep w' g' (.ms st.next 0 (n+z.toNat)) v'/\Inv w' g' (st.new (.box e' row.size (cs.take (n*row.size)++dZ (row.zero.map cH) z.toNat)))/\Ext w g w' g':=by
 obtain⟨q1,q2,q3⟩:=hi.box l' e' row.size cs hH;obtain⟨i,N3,U0,X5,hz⟩:=Tf.info;have hzc:row.zeroV.cells=row.zero.toArray:=cW Tf;obtain⟨m,rfl⟩:=aCO (show 0<=z by omega);simp only[Int.toNat_natCast];have hmp:0<m:=oO;have hmb:(n+m)*row.bytes<=140737488355328:=by
  have:(((n+m)*row.bytes:Nat):Int)<=140737488355328:=by rw[Int.natCast_mul,Int.natCast_add];exact c4
  omega
 have hmb2:m*row.bytes<=140737488355328:=aBa (aCj _ oO) hmb;have hwr:IntKind.i64.wrap (m:Int)=m:=by
  simp only[IntKind.wrap,IntKind.signed,IntKind.bits];simp
  split<;>omega
 have Q7:n+m<=maxLen:=by simp only[maxLen];omega
 obtain⟨C,hC⟩:∃ C,C=grownCap w (n+m) cap e':=⟨_,rfl⟩;have hge:n+m<=C:=hC ▸ grownCap_ge w (n+m) cap e';have u7:C<=maxLen:=hC ▸ grownCap_le_maxLen w (n+m) cap e' Q7;have hzl:∀ k,(Builtin.zeroCells row.zeroV.cells k).toList=bD row.zero k:=by intro k;rw[eT _ (by rw[Tf.zl];omega),hzc];simp only[Builtin.zeroCells,<- List.toArray_range,aDK,aBc]
 have hzlen:∀ k,(bD row.zero k).length=k*row.size:=by intro k;rw[eT _ (by rw[Tf.zl];omega)];simp[Tf.zl]
 have hcat:∀ a b,bD row.zero a++bD row.zero b=bD row.zero (a+b):=by
  intro a b;induction a with
  |zero=>grind
  |succ a ih=>grind [bD]
 have holds:∃ olds:List Value,aC w g (cs.take (n*row.size)) olds/\(Builtin.firstCells i.size n (.slice A n cap)).run P w.drew=.ok olds.toArray w.drew:=by
  by_cases X9:n=0
  .subst X9;refine⟨[],by grind [aC],?_⟩;cases A<;>simp[Builtin.firstCells,loadCells,loadCellsFrom]
  .obtain rfl:=hA X9;have M5:0<n*row.size:=aDy oO c6;have r9:g.nl l'=false:=by
    cases r9:g.nl l' with
    |false=>rfl
    |true=>
     grind
   obtain⟨n9,k1,k2,k3,k4,k5⟩:=q3 r9;have hr0:=dK (n*row.size) _ _ k4;rw[aCh,aDm c1]at hr0;refine⟨_,hr0,?_⟩;have hfull:aC w g cs (n9.take cs.length):=k4
   have hload:=lB (P:=P) (w:=w.drew) (b:=g.β l') (o:=0) (aC.mono (dU w g) _ _ hfull) (fun j hj=>by
    rw[aBv];show w.cell? _=_;rw[cell_of_row w _ _ _ _ _ k1]
    grind) (n*row.size) oO
   grind [Builtin.firstCells]
 obtain⟨olds,ho1,ho2⟩:=holds;have Y2:olds.length=n*row.size:=by rw[<- aJ _ _ ho1,aAw];omega
 have o9:(Builtin.append_ #[t,t'] ty #[.slice A n cap,.int k' (m:Int)]).run P w=.ok (.slice (some ⟨w.heap.size,0,none⟩) (n+m) C) (w.drew.alloc (.cells (olds++bD row.zero m++bD row.zero (C-(n+m))).toArray e')):=by
  have e1:(olds++bD row.zero m++bD row.zero (C-(n+m))).toArray=olds.toArray++Builtin.zeroCells row.zeroV.cells m++Builtin.zeroCells row.zeroV.cells (C-(n+m)):=by apply aEB;rw[aDO,aDO,hzl,hzl]
  have h63:¬(9223372036854775807<((n:Int)+(m:Int))):=oO;have hms:m*i.size≠0:=by rw[U0];exact aEg oO oO
  have h48:¬(281474976710656<(m:Int)*(i.bytes:Int)):=by
   rw[X5];have:((m*row.bytes:Nat):Int)<=140737488355328:=oO
   rw[Int.natCast_mul]at this;omega
  have hgf:=growslice_fits (need:=n+m) (old:=cap) (bytes:=i.bytes) oO (by grind);have M6:¬(281474976710656<Builtin.nextslicecap (n+m) cap*i.bytes):=oO;have L9:¬((m:Int)<0):=oO;have hmn:m≠0:=oO;have X0:¬(n+m<=cap):=oO;have hask:∀(b:Nat) (w:World),(askRoom b).run P w=.ok () w:=by intro b w;unfold askRoom;split<;>simp[mark,Sem.run]
  rw[e1];simp[Builtin.append_,run_underlying hd,run_underlying hdk,Go.sizeOf,typeInfo,N3,asInt,asIntOf,hwr,h48,hmn,M6,hms,hz,Go.zeroValue,newRow,hask,choose,Sem.run,X0];rw[aAa L9,aAa h63];have hforced:(Question.appendCap (n+m) cap e').forced=false:=rfl;simp only[hforced,aBg,aBS,ho2,Result.andThen_ok];simp[grownCap,hC]
 have hzr:aC w g (dZ (row.zero.map cH) m) (bD row.zero m):=by rw[kS];exact cL w g _
 have:=zV (e:=e') (s:=row.size) (z:=bD row.zero (C-(n+m))) hi (bW _ _ _ _ ho1 hzr) hge u7 (by
  simp only[aAn,Y2,hzlen];rw[<- aCg,<- aCg];grind)
 grind
theorem Cz(hT:aZ P T)(hi:Inv w g st){t t' ty:TypeId}{s x:LV}{v u:Value}{r:bR}(he:Ae T t t' s x st=some r)(hc:r.c)(h:Rep w g s v)(hu:Rep w g x u):
 ∃ v' w' g',(Builtin.append_ #[t,t'] ty #[v,u]).run P w=.ok v' w'/\Rep w' g' r.v v'/\Inv w' g' r.s/\Ext w g w' g':=by
 unfold Ae at he
 split at he
 .rename_i e k hs hk
  split at he
  .rename_i row Q8
   split at he
   .rename_i k' n;simp only[aAb]at he;subst he;obtain⟨c1,c2,c3,c4⟩:=hc;simp only[Rep]at h hu;obtain⟨A,rfl⟩:∃ A,v=.slice A 0 0:=⟨none,h⟩;subst hu;have hd:=cG hT hs;have hdk:=AV hT hk;have Tf:=hT e row Q8;obtain⟨i,N3,U0,X5,hz⟩:=Tf.info;have hzc:row.zeroV.cells=row.zero.toArray:=cW Tf;obtain⟨m,rfl⟩:=aCO (show 0<=n by omega);have hm0:0<m:=oO;have hmb:m*row.bytes<=140737488355328:=by
     have:((m*row.bytes:Nat):Int)<=140737488355328:=by rw[Int.natCast_mul];exact c2
     omega
    have hwr:IntKind.i64.wrap (m:Int)=m:=by
     simp only[IntKind.wrap,IntKind.signed,IntKind.bits];simp
     split<;>omega
    have Q7:m<=maxLen:=by simp only[maxLen];omega
    have hge:=grownCap_ge w m 0 e;have u7:=grownCap_le_maxLen w m 0 e Q7;have hZ:(bD row.zero (grownCap w m 0 e)).length=grownCap w m 0 e*row.size:=by rw[eT _ (by rw[Tf.zl];omega)];simp[Tf.zl]
    have hzl:∀ k,(Builtin.zeroCells row.zeroV.cells k).toList=bD row.zero k:=by intro k;rw[eT _ (by rw[Tf.zl];omega),hzc];simp only[Builtin.zeroCells,<- List.toArray_range,aDK,aBc]
    have hcat:∀ a b,bD row.zero a++bD row.zero b=bD row.zero (a+b):=by
     intro a b;induction a with
     |zero=>simp[bD]
     |succ a ih=>grind [bD]
    have o9:(Builtin.append_ #[t,t'] ty #[.slice A 0 0,.int k' (m:Int)]).run P w=.ok (.slice (some ⟨w.heap.size,0,none⟩) m (grownCap w m 0 e)) (w.drew.alloc (.cells (bD row.zero (grownCap w m 0 e)).toArray e)):=by
     have e1:(bD row.zero (grownCap w m 0 e)).toArray=Builtin.zeroCells row.zeroV.cells m++Builtin.zeroCells row.zeroV.cells (grownCap w m 0 e-m):=by apply aEB;rw[aDO,hzl,hzl,hcat,show m+(grownCap w m 0 e-m)=grownCap w m 0 e by omega]
     have hmn:m≠0:=oO;have h63:¬(9223372036854775807<(m:Int)):=oO;have hms:m*i.size≠0:=by rw[U0];exact aEg oO oO
     have h48:¬(281474976710656<(m:Int)*(i.bytes:Int)):=by
      rw[X5];have:((m*row.bytes:Nat):Int)<=140737488355328:=oO
      rw[Int.natCast_mul]at this;omega
     have M6:¬(281474976710656<Builtin.nextslicecap m 0*i.bytes):=by rw[nextslicecap_zero hm0,X5];omega
     have L9:¬((m:Int)<0):=oO;have hb47:¬(m:Int)<0:=L9;have hfc:∀ A,(Builtin.firstCells i.size 0 (.slice A 0 0)).run P w.drew=.ok #[] w.drew:=by intro A;cases A<;>simp[Builtin.firstCells,loadCells,loadCellsFrom]
     have hask:∀(b:Nat) (w:World),(askRoom b).run P w=.ok () w:=by intro b w;unfold askRoom;split<;>simp[mark,Sem.run]
     rw[e1];simp[Builtin.append_,run_underlying hd,run_underlying hdk,Go.sizeOf,typeInfo,N3,asInt,asIntOf,hwr,h48,hmn,M6,hms,hz,Go.zeroValue,newRow,hask,choose,Sem.run];rw[aAa L9,aAa h63];have hforced:(Question.appendCap m 0 e).forced=false:=rfl;simp only[hforced,aBg,aBS,hfc,Result.andThen_ok];simp[grownCap]
    have hzr:aC w g (dZ (row.zero.map cH) m) (bD row.zero m):=by rw[kS];exact cL w g _
    have hsplit:bD row.zero (grownCap w m 0 e)=bD row.zero m++bD row.zero (grownCap w m 0 e-m):=by rw[hcat];congr 1;omega
    rw[hsplit]at o9 hZ;have:=zV (e:=e) hi hzr hge u7 hZ
    grind [Int.toNat_natCast]
   .rename_i l n cap k' z
    split at he
    .rename_i e' s' cs hH;simp only[aAb]at he;subst he;obtain⟨rfl,rfl,c1,c2,c3,c4,c5,c6⟩:=hc;simp only[Rep]at h hu;obtain rfl:=hu;obtain⟨A,rfl,hnc,hcm,j7,hln,hA1,hnl0⟩:=h;refine RE hi (cG hT hs) (AV hT hk) (hT e' row Q8) hH hnc (fun hn=>?_) c1 c2 c3 c4 c5 c6
     grind
    grind
   grind
  grind
 grind
theorem BS{z:List Value}(h:∀ v∈z,v.oneCell'=true):∀ n,∀ v∈bD z n,v.oneCell'=true
 |0,v,hv=>by grind [bD]
 |n+1,v,hv=>by
  rw[bD,aAd]at hv;rcases hv with hv|hv
  .grind
  .exact BS h n v hv
theorem HO(hT:aZ P T)(hi:Inv w g st){t ty:TypeId}{x:LV}{v:Value}{r:bR}(he:Ff T t x st=some r)(hc:r.c)(h:Rep w g x v):
 ∃ w',(Builtin.clear_ #[t] ty #[v]).run P w=.ok (.tuple #[]) w'/\r.v=.tu []/\Inv w' g r.s/\Ext w g w' g:=by
 unfold Ff at he
 split at he
 .rename_i e l o n hs
  split at he
  .rename_i row e' s cs Q8 hH;simp only[aAb]at he;subst he;have hc':o+n*row.size<=cs.length:=hc.1;have hd:=cG hT hs;have Tf:=hT e row Q8;simp only[Rep]at h;obtain⟨A,cap,rfl,hnc,hcm,hA0,hA,hln⟩:=h;have hzl:(bD row.zero n).length=n*row.size:=by
    clear hA hnc hc hc' hA0;induction n with
    |zero=>simp[bD]
    |succ n ih=>rw[bD,aAn,ih,Tf.zl,aDX];omega
   obtain⟨q1,q2,q3⟩:=hi.box l e' s cs hH;by_cases hn:n=0
   .subst hn;refine⟨w,?_,rfl,?_,Ext.refl w g⟩
    .cases A<;>simp[Builtin.clear_,run_underlying hd]
    .have:st.set l (.box e' s (cs.take o++dZ (row.zero.map cH) 0++cs.drop (o+0*row.size)))=st:=by
      cases st with
      |mk nx H=>
       simp only[St.set,dZ,aAS,aEJ,Nat.add_zero,aAz]
       congr 1
       grind
     grind
   .obtain rfl:=hA hn;have r9:g.nl l=false:=by
     cases r9:g.nl l with
     |false=>rfl
     |true=>
      grind
    have hzr:aC w g (dZ (row.zero.map cH) n) (bD row.zero n):=by rw[kS];exact cL w g _
    have hzlen:(dZ (row.zero.map cH) n).length=n*row.size:=by rw[aJ _ _ hzr,hzl]
    obtain⟨w',D3,v7⟩:=uA (P:=P) hi hH r9 (ds:=dZ (row.zero.map cH) n) (by rw[hzlen];exact hc') hzr (BS (by simpa using Tf.zone) n);rw[hzlen]at v7;refine⟨w',?_,rfl,v7.1,v7.2⟩;have hzz:(Builtin.zeroCells row.zeroV.cells n).toList=bD row.zero n:=by rw[eT _ (by rw[Tf.zl];omega),cW Tf];simp only[Builtin.zeroCells,<- List.toArray_range,aDK,aBc]
    obtain⟨n',rfl⟩:∃ n',n=n'+1:=⟨n-1,oO⟩;simp[Builtin.clear_,run_underlying hd,Tf.zeroValue,hzz,D3]
  grind
 grind
theorem HX{st:St}{l:Nat}{o:cN}(h:st.H l=o):st.set l o=st:=by
 cases st with
 |mk nx H=>
  simp only[St.set]
  congr 1
  grind
theorem KG(hT:aZ P T)(hi:Inv w g st){t t' ty:TypeId}{x y:LV}{v u:Value}{r:bR}(he:MA T t t' x y st=some r)(hc:r.c)(h:Rep w g x v)(hu:Rep w g y u):
 ∃ v' w',(Builtin.copy_ #[t,t'] ty #[v,u]).run P w=.ok v' w'/\Rep w' g r.v v'/\Inv w' g r.s/\Ext w g w' g:=by
 unfold MA at he
 split at he
 .rename_i e m ds hs hx
  split at he
  .rename_i row l o n Q8;cases hH:st.H l with
   |box e' s cs=>
    simp only[hH,aAb]at he;subst he;obtain⟨rfl,c1,c2,c3,c4⟩:=hc;have hd:=cG hT hs;have Tf:=hT e row Q8;obtain⟨A',c,rfl,hrw⟩:=sC hi hx hu;simp only[Rep]at h;obtain⟨A,cap,rfl,hnc,hcm,hA0,hA,hln⟩:=h;obtain⟨k,hk⟩:∃ k,k=min n m:=⟨_,rfl⟩;have hkm:Nat.min m n=k:=by rw[hk];exact Nat.min_comm m n
    simp only[<- hk]at c3 ⊢;obtain⟨q1,q2,q3⟩:=hi.box l e' s cs hH;by_cases h0:k=0
    .subst h0;refine⟨.int .i64 0,w,?_,by grind [Rep],?_,Ext.refl w g⟩
     .cases A<;>cases A'<;>simp[Builtin.copy_,run_underlying hd,Builtin.lenOf,Builtin.firstCells,Tf.sizeOf,hkm,storeCells,loadCells,loadCellsFrom,goInt]
     grind [List.take_append_drop,HX]
    .have X9:n≠0:=oO;have hm0:m≠0:=oO;obtain rfl:=hA X9;have hkn:k*row.size<=n*row.size:=aCj _ oO;have hkm2:k*row.size<=m*row.size:=aCj _ oO;have j8:0<k*row.size:=aDy oO c4;have r9:g.nl l=false:=by
      cases r9:g.nl l with
      |false=>rfl
      |true=>
       grind
     obtain⟨b,o',vs,rfl,k1,k2⟩:=hrw (by grind);have hload:=lB (P:=P) k1 k2 (k*row.size) oO;have hr2:=dK (k*row.size) _ _ k1;have hlen:(ds.take (k*row.size)).length=k*row.size:=by rw[aAw];omega
     obtain⟨w',D3,v7⟩:=uA (P:=P) (o:=o) hi hH r9 (ds:=ds.take (k*row.size)) oO hr2 (gK _ _ c3 hr2);rw[hlen]at v7;refine⟨.int .i64 k,w',?_,by simp only[Rep],v7.1,v7.2⟩;simp[Builtin.copy_,run_underlying hd,Builtin.lenOf,Builtin.firstCells,Tf.sizeOf,hkm,hload,D3,goInt]
   |_=>simp_all
  grind
 grind
theorem CM(hT:aZ P T)(hi:Inv w g st){t ty:TypeId}{x y:LV}{v u:Value}{r:bR}(he:vF T t x y st=some r)(hc:r.c)(h:Rep w g x v)(hu:Rep w g y u):
 ∃ v' w',(Builtin.append_ #[t,t] ty #[v,u]).run P w=.ok v' w'/\Rep w' g r.v v'/\Inv w' g r.s/\Ext w g w' g:=by
 unfold vF at he
 split at he
 .rename_i e l n cap l' o' m hs
  split at he
  .rename_i row e' s' cs Q8 hH;simp only[aAb]at he;subst he;obtain⟨rfl,c0,rfl,rfl,c1,c2,c3,c4,c5,c6⟩:=hc;have hd:=cG hT hs;have Tf:=hT e' row Q8;have hsrc:Ct T t st (.ms l' o' m)=some (m,(cs.drop o').take (m*row.size)):=by simp only[Ct,hs,Q8,hH]
   have hsr:=sC hi hsrc hu;have hdl:((cs.drop o').take (m*row.size)).length=m*row.size:=by rw[aAw,aAL];omega
   simp only[Rep]at h;obtain⟨A,rfl,hnc,hcm,hk,hln,hA1,hnl0⟩:=h;obtain⟨q1,q2,q3⟩:=hi.box l' e' row.size cs hH;have hsplit:=aCg n m row.size;by_cases hm:m=0
   .subst hm;refine⟨.slice A n cap,w,?_,?_,?_,Ext.refl w g⟩
    .obtain⟨i,N3,U0,X5,hz⟩:=Tf.info;obtain⟨A',c,rfl,_⟩:=hsr;cases A'<;>cases A<;>simp[Builtin.append_,run_underlying hd,Go.sizeOf,typeInfo,N3,Builtin.lenOf,Builtin.firstCells,loadCells,loadCellsFrom,hnc,storeCells]
    .grind [Rep]
    grind [List.take_append_drop,HX]
   .have M5:0<m*row.size:=aDy oO c4;have r9:g.nl l'=false:=by
     cases r9:g.nl l' with
     |false=>rfl
     |true=>
      grind
    subst hk;obtain rfl:=hA1 r9;obtain⟨n9,k1,k2,k3,k4,k5⟩:=q3 r9;have O0:n+m<=g.κ l':=c0;have hnl2:n*row.size<=cs.length:=oO;obtain⟨i,N3,U0,X5,hz⟩:=Tf.info;obtain⟨A',c,rfl,hrw⟩:=hsr;obtain⟨b',o2,vs,rfl,j1,j2⟩:=hrw (by grind);have hlen:=aJ _ _ j1;have hvl:vs.length=m*i.size:=by rw[U0];omega
    have V9:∀ j v,vs[j]?=some v->w.cell? ((⟨b',o2,none⟩:Addr).add j)=some v:=by intro j v hv;have hj:j<vs.length:=(aDp.1 hv).1;rw[add_lit,j2 j oO];exact hv
    have X0:n*i.size+vs.length<=n9.toArray.size:=by rw[hvl,U0];simp only[aBc];omega
    have hr:=run_append_room (P:=P) w t ty e' i hd N3 (g.β l') n (g.κ l') n9.toArray k1 ⟨b',o2,none⟩ m c vs hvl V9 (gK _ _ c3 j1) O0 X0;have M9:=gK _ _ c3 j1
    have v7:=rS (cs':=cs.take (n*row.size)++(cs.drop o').take (m*row.size)++cs.drop ((n+m)*row.size)) (vs':=n9.take (n*row.size)++vs++n9.drop ((n+m)*row.size)) hi hH r9 (by
     grind) (by simp only[aAn,aAw,aAL];omega) (by
     have hx1:(cs.take (n*row.size)++(cs.drop o').take (m*row.size)++cs.drop ((n+m)*row.size)).length=cs.length:=by simp only[aAn,aAw,aAL];omega
     have Y3:(n9.take (n*row.size)++vs++n9.drop ((n+m)*row.size)).take cs.length=(n9.take cs.length).take (n*row.size)++vs++(n9.take cs.length).drop ((n+m)*row.size):=by
      rw[aCo,aCo,aCh,aCh,aDP];simp only[aAn,aAw];rw[show min cs.length (n*row.size)=n*row.size by omega,show min (n*row.size) cs.length=n*row.size by omega];rw[aAu (l:=vs) oO]
      congr 2
      omega
     rw[hx1,Y3]
     exact bW _ _ _ _ (bW _ _ _ _ (dK _ _ _ k4) j1) (gM _ _ _ k4))
    have harr:(n9.toArray.toList.take (n*i.size)++vs++n9.toArray.toList.drop (n*i.size+vs.length))=n9.take (n*row.size)++vs++n9.drop ((n+m)*row.size):=by rw[hvl,U0];simp only[hsplit]
    grind [Rep]
  grind
 grind
theorem tM{a:Act}{fr:Frm}(hr:dX w g a fr):∀(ps:List (Nat×Operand)),aC w g ((ps.map fun p=>(p.1,aH fr p.2)).map (·.2)) ((ps.map fun p=>(p.1,a.eval p.2)).map (·.2))
 |[]=>by grind [aC]
 |p::ps=>by simp only[aAm,aC];exact⟨_,_,rfl,aD hr p.2,tM hr ps⟩
theorem DM{a:Act}{fr:Frm}(hr:dX w g a fr):∀(ps:List Operand),aC w g (ps.map (aH fr)) (ps.map a.eval)
 |[]=>by grind [aC]
 |p::ps=>by simp only[aAm,aC];exact⟨_,_,rfl,aD hr p,DM hr ps⟩
theorem fU{x:LV}{v u:Value}(h:Rep w g x v)(hx:x=.atom u):v=u:=by grind [Rep]
theorem cK{N:Nat}{q:Bool}{o:Oper}{fr:Frm}{lv:LV}(h:∀(a:Act) (w:World) (g:G),Inv w g st->dX w g a fr->a.tmps.size=N->∃ v,(execOp a.eval o).run P w=.ok (.value v) w/\Rep w g lv v):Op1 P N q o fr st lv st:=by
 intro a w g hi hr hs
 grind [Ext.refl]
theorem Jn(hT:aZ P T){N:Nat}{o:Oper}{c:Call}{fr:Frm}{md:Bool}{r:bR}(ho:o.op=.call c)(he:DO T md c fr st=some r)(hc:r.c):Op1 P N (aS o.op) o fr st r.v r.s:=by
 obtain⟨callee,args,tys⟩:=c;obtain⟨args⟩:=args;obtain⟨tys⟩:=tys;unfold DO at he
 split at he
 .rename_i x t _ O9 hargs U8;simp only at O9 hargs U8;subst O9 hargs U8;rcases hmk:kW T t with _|p;rotate_left
  .simp only[hmk]at he;obtain⟨k,e⟩:=p;unfold Vj at he;simp only[hmk]at he
   split at he
   .rename_i l _ hx;cases hl:st.H l with
    |map ag ks es=>
     simp only[hl,aAb]at he;subst he;refine cK fun a w g hi hr _=>?_;have h':=aD hr x;rw[hx]at h';simp only[Rep]at h';obtain⟨_,_,cO,clock,m2,m3,_⟩:=hi.mp l _ _ es hl;refine⟨.int .i64 es.length,?_,by simp only[Rep]⟩;have hlen:cO.length=es.length:=by simpa using congrArg List.length m3
     simp[execOp,ho,resolve,invoke,builtin,Builtin.len_,h'.1,run_underlying (rP hT hmk),goInt,MapKept.run_getObj_map m2,hlen]
    |_=>simp_all
   grind
  simp only[hmk]at he;unfold VA at he
  split at he
  .rename_i e hs;have key:∀ n:Nat,r=⟨True,.atom (.int .i64 n),st⟩->(∀(a:Act) (w:World) (g:G),Inv w g st->dX w g a fr->∃ A cap,a.eval x=.slice A n cap)->Op1 P N (aS o.op) o fr st r.v r.s:=by rintro n rfl hv;refine cK fun a w g hi hr _=>?_;obtain⟨A,cap,hv⟩:=hv a w g hi hr;refine⟨.int .i64 n,?_,by simp only[Rep]⟩;simp[execOp,ho,resolve,invoke,builtin,Builtin.len_,hv,run_underlying (cG hT hs),goInt]
   split at he
   .rename_i l off n hx;simp only[aAb]at he;refine key n he.symm fun a w g hi hr=>?_;have h':=aD hr x
    grind [Rep]
   .rename_i l n c hx;simp only[aAb]at he;refine key n he.symm fun a w g hi hr=>?_;have h':=aD hr x
    grind [Rep]
   .split at he
    .rename_i q n cs hx;simp only[aAb]at he;refine key n he.symm fun a w g hi hr=>?_;have h':=pW hx (aD hr x)
     grind [Rep]
    grind
  grind
 .rename_i x y O9 hargs;simp only at O9 hargs;subst O9 hargs;unfold Un at he
  split at he
  .rename_i k u k' v hx hy;simp only[aAb]at he;subst he;refine cK fun a w g hi hr _=>?_;have h1:=fU (aD hr x) hx;have h2:=fU (aD hr y) hy;refine⟨.int k (if v<u then v else u),?_,by simp only[Rep]⟩;simp[execOp,ho,resolve,invoke,builtin,Builtin.min_,Builtin.min2,h1,h2]
  grind
 .rename_i x y O9 hargs;simp only at O9 hargs;subst O9 hargs;unfold Ur at he
  split at he
  .rename_i k u k' v hx hy;simp only[aAb]at he;subst he;refine cK fun a w g hi hr _=>?_;have h1:=fU (aD hr x) hx;have h2:=fU (aD hr y) hy;refine⟨.int k (if u<v then v else u),?_,by simp only[Rep]⟩;simp[execOp,ho,resolve,invoke,builtin,Builtin.max_,Builtin.max2,h1,h2]
  grind
 .rename_i s x t t' O9 hargs U8;simp only at O9 hargs U8;subst O9 hargs U8
  split at he
  .rename_i htt;subst htt
   split at he
   .intro a w g hi hr _;obtain⟨v',w',h1,h2,h3,h4⟩:=CM (ty:=o.type) hT hi he hc (aD hr s) (aD hr x);refine⟨.value v',w',g,?_,.inl ⟨v',rfl,h2⟩,h3,h4,fun hq=>by grind [aS]⟩;simp[execOp,ho,resolve,invoke,builtin,h1]
   intro a w g hi hr _;obtain⟨v',w',g',h1,h2,h3,h4⟩:=Fh (ty:=o.type) hT hi he hc (aD hr s) (aD hr x);refine⟨.value v',w',g',?_,.inl ⟨v',rfl,h2⟩,h3,h4,fun hq=>by grind [aS]⟩;simp[execOp,ho,resolve,invoke,builtin,h1]
  .intro a w g hi hr _;obtain⟨v',w',g',h1,h2,h3,h4⟩:=Cz (ty:=o.type) hT hi he hc (aD hr s) (aD hr x);refine⟨.value v',w',g',?_,.inl ⟨v',rfl,h2⟩,h3,h4,fun hq=>by grind [aS]⟩;simp[execOp,ho,resolve,invoke,builtin,h1]
 .rename_i x t _ O9 hargs U8;simp only at O9 hargs U8;subst O9 hargs U8;unfold XP at he
  split at he
  .rename_i e hs hx;simp only[aAb]at he;subst he;refine cK fun a w g hi hr _=>?_;have h':=aD hr x;rw[hx]at h';simp only[Rep]at h';have hv:=h';refine⟨.int .i64 0,?_,by simp only[Rep]⟩;simp[execOp,ho,resolve,invoke,builtin,Builtin.cap_,hv,run_underlying (cG hT hs),goInt]
  .rename_i e l n c hs hx;simp only[aAb]at he;subst he;refine cK fun a w g hi hr _=>?_;have h':=aD hr x;rw[hx]at h';simp only[Rep]at h';obtain⟨A,hv,_⟩:=h';refine⟨.int .i64 c,?_,by simp only[Rep]⟩;simp[execOp,ho,resolve,invoke,builtin,Builtin.cap_,hv,run_underlying (cG hT hs),goInt]
  grind
 .rename_i x t O9 hargs U8;simp only at O9 hargs U8;subst O9 hargs U8;intro a w g hi hr _;obtain⟨w',h1,h2,h3,h4⟩:=HO (ty:=o.type) hT hi he hc (aD hr x);refine⟨.value (.tuple #[]),w',g,?_,.inl ⟨.tuple #[],rfl,?_⟩,h3,h4,fun hq=>by grind [aS]⟩
  .simp[execOp,ho,resolve,invoke,builtin,h1]
  grind [Rep,aC]
 .rename_i x y t t' O9 hargs U8;simp only at O9 hargs U8;subst O9 hargs U8;intro a w g hi hr _;obtain⟨v',w',h1,h2,h3,h4⟩:=KG (ty:=o.type) hT hi he hc (aD hr x) (aD hr y);refine⟨.value v',w',g,?_,.inl ⟨v',rfl,h2⟩,h3,h4,fun hq=>by grind [aS]⟩;simp[execOp,ho,resolve,invoke,builtin,h1]
 .rename_i x i t kt O9 hargs U8;simp only at O9 hargs U8;subst O9 hargs U8;intro a w g hi hr _;obtain⟨h2,w',h1,h3,h4⟩:=GI (kt:=kt) (ty:=o.type) hT hi he hc (aD hr x) (aD hr i);refine⟨.value (.tuple #[]),w',g,?_,.inl ⟨.tuple #[],rfl,?_⟩,h3,h4,fun hq=>by grind [aS]⟩
  .simp[execOp,ho,resolve,invoke,builtin,h1]
  grind [Rep,aC]
 grind
theorem BX{t:TypeId}(h:P.underlying t=some .bool)(a b:Bool)(w:World):(Op.equal t (.bool a) (.bool b)).run P w=.ok (a==b) w:=by
 have hd:∀ d,(Op.equalIn (d+1) t (.bool a) (.bool b)).run P w=.ok (a==b) w:=by intro d;simp[Op.equalIn,run_underlying h]
 exact hd 9999
theorem Gu(hT:aZ P T){op:BinOp}{t:TypeId}{x y:LV}{v u:Value}{r:bR}(ox oy:Operand)(he:HG T op t x y st=some r)(hc:r.c)(hv:Rep w g x v)(hu:Rep w g y u):
 r.s=st/\∃ z,(do eqGuard op t ox oy v u;binOp op t v u:Sem Value).run P w=.ok z w/\Rep w g r.v z:=by
 unfold HG at he
 split at he
 .rename_i k a k' b;simp only[aBk]at he;obtain⟨z,h1,rfl⟩:=he;simp only[Rep]at hv hu;subst hv hu;exact⟨rfl,z.v,by simp[HZ,Jq h1 hc],by simp only[Rep]⟩
 .rename_i a b;simp only[Rep]at hv hu;subst hv hu
  split at he
  .simp only[aAb]at he;subst he;refine⟨rfl,.bool (a==b),?_,by simp only[Rep]⟩;simp[vG,binOp,BX (Ay hT hc)]
  .simp only[aAb]at he;subst he;refine⟨rfl,.bool (!(a==b)),?_,by simp only[Rep]⟩;simp[vG,binOp,BX (Ay hT hc)]
  grind
 .rename_i xs ys;simp only[Rep]at hv hu;obtain⟨vs,rfl,hv⟩:=hv;obtain⟨us,rfl,hu⟩:=hu
  split at he
  .rename_i row ks ns V5 ms ht hx hy;obtain⟨rfl,l1⟩:=mI _ _ _ _ hx hv;obtain⟨rfl,l2⟩:=mI _ _ _ _ hy hu
   split at he
   .simp only[aAb]at he;subst he;obtain⟨c1,rfl,c3⟩:=hc;have:=Ir (w:=w) (hT t row ht) c1 c3 l1 l2 ox oy .eql false (.inl ⟨rfl,rfl⟩)
    grind [mkV,Rep]
   .simp only[aAb]at he;subst he;obtain⟨c1,rfl,c3⟩:=hc;have:=Ir (w:=w) (hT t row ht) c1 c3 l1 l2 ox oy .neq true (.inr ⟨rfl,rfl⟩);simp only[mkV,aBs]at this;exact⟨rfl,_,this,by simp[Rep]⟩
   grind
  grind
 .simp only[Rep]at hv hu;subst hv hu;have key:(cR T t).isSome=true->(Op.equal t (.slice none 0 0) (.slice none 0 0)).run P w=.ok true w/\∀ op',(eqGuard op' t ox oy (.slice none 0 0) (.slice none 0 0)).run P w=.ok () w:=by
   intro hs;obtain⟨e,hs⟩:=aDt.1 hs;have ht:=cG hT hs;have hd:∀ d,(Op.equalIn (d+1) t (.slice none 0 0) (.slice none 0 0)).run P w=.ok true w:=by intro d;simp[Op.equalIn,run_underlying ht]
   exact⟨hd 9999,fun op'=>by unfold eqGuard;split<;>simp⟩
  split at he
  .simp only[aAb]at he;subst he;obtain⟨k1,k2⟩:=key hc;refine⟨rfl,.bool true,?_,by simp only[Rep]⟩;simp[k2,binOp,k1]
  .simp only[aAb]at he;subst he;obtain⟨k1,k2⟩:=key hc;refine⟨rfl,.bool false,?_,by simp only[Rep]⟩;simp[k2,binOp,k1]
  grind
 .have hv':∃ A,v=.map A/\∀ b,tW x=some b->A.isNone=b:=by
   cases x with
   |mp l=>grind [Rep,tW]
   |atom y=>
    cases y with
    |map A=>
     grind [Rep,tW]
    |_=>simp[tW]at he
   |_=>simp[tW]at he
  obtain⟨A,rfl,hA⟩:=hv';simp only[Rep]at hu;subst hu;have key:(∃ k e,P.underlying t=some (.map k e))->(Op.equal t (.map A) (.map none)).run P w=.ok A.isNone w/\∀ op',(eqGuard op' t ox oy (.map A) (.map none)).run P w=.ok () w:=by
   rintro⟨k,e,ht⟩;have hd:∀ d,(Op.equalIn (d+1) t (.map A) (.map none)).run P w=.ok A.isNone w:=by intro d;cases A<;>simp[Op.equalIn,run_underlying ht]
   exact⟨hd 9999,fun op'=>by unfold eqGuard;split<;>simp⟩
  split at he
  .rename_i b hb;simp only[aAb]at he;subst he;obtain⟨k1,k2⟩:=key (Dh hT hc);rw[hA b hb]at k1;refine⟨rfl,.bool b,?_,by simp only[Rep]⟩;simp[k2,binOp,k1]
  .rename_i b hb;simp only[aAb]at he;subst he;obtain⟨k1,k2⟩:=key (Dh hT hc);rw[hA b hb]at k1;refine⟨rfl,.bool (!b),?_,by simp only[Rep]⟩;simp[k2,binOp,k1]
  grind
 .have hv':∃ A,v=.pointer A/\∀ b,nilPtr x=some b->A.isNone=b:=by
   cases x with
   |pt l o=>grind [Rep,nilPtr]
   |pe l cs=>grind [Rep,nilPtr]
   |ep cs=>simp only[Rep]at hv;grind [nilPtr]
   |atom y=>
    cases y with
    |pointer A=>
     grind [Rep,nilPtr]
    |_=>simp[nilPtr]at he
   |_=>simp[nilPtr]at he
  obtain⟨A,rfl,hA⟩:=hv';simp only[Rep]at hu;subst hu;have key:∀ e,P.underlying t=some (.pointer e)->(Op.equal t (.pointer A) (.pointer none)).run P w=.ok A.isNone w:=by
   intro e ht;have hd:∀ d,(Op.equalIn (d+1) t (.pointer A) (.pointer none)).run P w=.ok A.isNone w:=by intro d;cases A<;>simp[Op.equalIn,run_underlying ht]
   exact hd 9999
  split at he
  .rename_i b hb;simp only[aAb]at he;subst he;obtain⟨e,ht⟩:=Gh hT hc;refine⟨rfl,.bool b,?_,by simp only[Rep]⟩;have:=key e ht;rw[hA b hb]at this;unfold eqGuard;simp[binOp,this]
  .rename_i b hb;simp only[aAb]at he;subst he;obtain⟨e,ht⟩:=Gh hT hc;refine⟨rfl,.bool (!b),?_,by simp only[Rep]⟩;have:=key e ht;rw[hA b hb]at this;unfold eqGuard;simp[binOp,this]
  grind
 .have hv':(v=.nilFunc/\∀ b,vI x=some b->b=true)\/((∃ f a c,v=.func f a c)/\∀ b,vI x=some b->b=false):=by
   cases x with
   |fn f Gj=>simp only[Rep]at hv;grind [vI]
   |atom y=>
    cases y with
    |nilFunc=>grind [Rep,vI]
    |_=>simp[vI]at he
   |_=>simp[vI]at he
  simp only[Rep]at hu;subst hu;have key:∀ b,vI x=some b->(∃ a b c,P.underlying t=some (.func a b c))->(Op.equal t v .nilFunc).run P w=.ok b w/\∀ op,(eqGuard op t ox oy v .nilFunc).run P w=.ok () w/\(op=.eql->(binOp op t v .nilFunc).run P w=.ok (.bool b) w)/\(op=.neq->(binOp op t v .nilFunc).run P w=.ok (.bool (!b)) w):=by
   rintro b hb ⟨_,_,_,ht⟩;have h0:(Op.equal t v .nilFunc).run P w=.ok b w:=by
    have hd:∀ d,(Op.equalIn (d+1) t v .nilFunc).run P w=.ok b w:=by
     intro d;rcases hv' with⟨rfl,h⟩|⟨⟨f,a,c,rfl⟩,h⟩
     .obtain rfl:=h b hb;simp[Op.equalIn,run_underlying ht]
     .obtain rfl:=h b hb;simp[Op.equalIn,run_underlying ht]
    exact hd 9999
   refine⟨h0,fun op=>⟨?_,?_,?_⟩⟩
   .rcases hv' with⟨rfl,_⟩|⟨⟨f,a,c,rfl⟩,_⟩<;>(unfold eqGuard;split<;>simp)
   .rintro rfl;rcases hv' with⟨rfl,_⟩|⟨⟨f,a,c,rfl⟩,_⟩<;>simp[binOp,h0]
   .rintro rfl;rcases hv' with⟨rfl,_⟩|⟨⟨f,a,c,rfl⟩,_⟩<;>simp[binOp,h0]
  split at he
  .rename_i b hb;simp only[aAb]at he;subst he;obtain⟨_,k⟩:=key b hb (MW hT hc);refine⟨rfl,.bool b,?_,by simp only[Rep]⟩;simp_all
  .rename_i b hb;simp only[aAb]at he;subst he;obtain⟨_,k⟩:=key b hb (MW hT hc);refine⟨rfl,.bool (!b),?_,by simp only[Rep]⟩;simp_all
  grind
 grind
theorem zM(hT:aZ P T)(hi:Inv w g st){t:TypeId}{l c:LV}{v u:Value}{r:bR}(he:pD T t l c st=some r)(hc:r.c)(h:Rep w g l v)(hu:Rep w g c u):
 ∃ v' w' g',(Instr.makeSlice t v u).run P w=.ok v' w'/\Rep w' g' r.v v'/\Inv w' g' r.s/\Ext w g w' g':=by
 unfold pD at he
 split at he
 .rename_i e hs
  split at he
  .rename_i row Q8
   split at he
   .rename_i k n k' n';simp only[aAb]at he;subst he;obtain⟨rfl,c0,c2,c3,c4⟩:=hc;simp only[Rep]at h hu;subst h hu;have hd:=cG hT hs;have Tf:=hT e row Q8;obtain⟨i,N3,U0,X5,hz⟩:=Tf.info;have hzc:row.zeroV.cells=row.zero.toArray:=cW Tf;obtain⟨m,rfl⟩:=aCO c0;have Q7:m<=maxLen:=by simp only[maxLen];omega
    have X6:(i.bytes:Int)*(m:Int)<=281474976710656:=by rw[X5,Int.mul_comm];omega
    have o9:=run_make (P:=P) w t e i row.zeroV hd N3 hz k k' (m:Int) (m:Int) c0 (aDj _) X6 c3;simp only[Int.toNat_natCast]at o9;have hmc:madeCells row.zeroV.cells (m*i.size)=(bD row.zero m).toArray:=by apply aEB;rw[eT _ (by rw[Tf.zl];omega),hzc,U0];simp[madeCells,<- List.toArray_range,Tf.zl]
    rw[hmc]at o9;have hzl:(bD row.zero m).length=m*row.size:=by rw[eT _ (by rw[Tf.zl];omega)];simp[Tf.zl]
    have hzr:aC w g (dZ (row.zero.map cH) m) (bD row.zero m):=by rw[kS];exact cL w g _
    have hlen:=aJ _ _ hzr;have Q1:=dM w g (.cells (bD row.zero m).toArray e) 0 m false;have Y9:=vK hi e row.size m (cs:=dZ (row.zero.map cH) m) (vs:=bD row.zero m) hzl Q7 oO (by grind);refine⟨_,_,_,o9,?_,Y9,Q1⟩;simp only[Rep,Int.toNat_natCast];exact⟨_,_,rfl,aAl _,Q7,by simp[G.add,hi.next],by simp[G.add,hi.next],by simp[G.add,hi.next]⟩
   grind
  grind
 grind
theorem wK(hT:aZ P T){N:Nat}{o:Oper}{fr:Frm}{md:Bool}{r:bR}(he:aop T md o fr st=some r)(hc:r.c):Op1 P N (aS o.op) o fr st r.v r.s:=by
 unfold aop at he
 split at he
 .rename_i x ho;simp only[aAb]at he;subst he;exact cK fun a w g hi hr _=>⟨a.eval x,by simp[execOp,ho],aD hr x⟩
 .rename_i x ho;simp only[aAb]at he;subst he;exact cK fun a w g hi hr _=>⟨a.eval x,by simp[execOp,ho],aD hr x⟩
 .rename_i c x y ho
  split at he
  .rename_i t hct;simp only[aAb]at he;subst he;refine cK fun a w g hi hr _=>?_;have h1:=fU (aD hr c) hct;refine⟨if t then a.eval x else a.eval y,by simp[execOp,ho,h1,asBool],?_⟩
   grind [aD]
  grind
 .rename_i op t x y _ ho;intro a w g hi hr _;obtain⟨h0,z,h1,h2⟩:=Gu hT x y he hc (aD hr x) (aD hr y);refine⟨.value z,w,g,?_,.inl ⟨z,rfl,h2⟩,by grind,Ext.refl w g,fun _=>⟨rfl,rfl,h0,_,rfl⟩⟩;simp only[execOp,ho];rw[Sem.run_bind,h1];rfl
 .rename_i op _ x ho;unfold VL at he
  split at he
  .rename_i b hx;simp only[aAb]at he;subst he;refine cK fun a w g hi hr _=>?_;have h1:=fU (aD hr x) hx;exact⟨.bool !b,by simp[execOp,ho,h1,Op.unary],by simp only[Rep]⟩
  .rename_i k n hx;simp only[aAb]at he;subst he;refine cK fun a w g hi hr _=>?_;have h1:=fU (aD hr x) hx;exact⟨.int k (k.wrap (0-n)),by simp[execOp,ho,h1,Op.unary,Op.intArith],by simp only[Rep]⟩
  grind
 .rename_i s d x ho
  split at he
  .rename_i k0 k k' n S7 hk hx;simp only[aAb]at he;subst he;refine cK fun a w g hi hr _=>?_;have h1:=fU (aD hr x) hx;exact⟨.int k (k.wrap n),by simp[execOp,ho,h1,convert,run_underlying (AV hT S7),run_underlying (AV hT hk),Conv.intToInt],by simp only[Rep]⟩
  grind
 .rename_i t x ho;intro a w g hi hr _;obtain⟨h0,u,h1,h2⟩:=Aj hT hi he hc (aD hr x);exact⟨.value u,w,g,by simp[execOp,ho,h1],.inl ⟨u,rfl,h2⟩,by grind,Ext.refl w g,fun _=>⟨rfl,rfl,h0,_,rfl⟩⟩
 .rename_i t x v ho;intro a w g hi hr _;obtain⟨h0,w',h1,h2,h3⟩:=Gb hT hi he hc (aD hr x) (aD hr v);exact⟨.skip,w',g,by simp[execOp,ho,h1],.inr ⟨rfl,h0⟩,h2,h3,fun hq=>by grind [aS]⟩
 .rename_i t x i ho;intro a w g hi hr _;obtain⟨h0,u,h1,h2⟩:=PO (P:=P) hT he hc (aD hr x) (aD hr i);exact⟨.value u,w,g,by simp[execOp,ho,h1],.inl ⟨u,rfl,h2⟩,by grind,Ext.refl w g,fun _=>⟨rfl,rfl,h0,_,rfl⟩⟩
 .rename_i t x f ho;intro a w g hi hr _;obtain⟨h0,u,h1,h2⟩:=zL (P:=P) hT he hc (aD hr x);exact⟨.value u,w,g,by simp[execOp,ho,h1],.inl ⟨u,rfl,h2⟩,by grind,Ext.refl w g,fun _=>⟨rfl,rfl,h0,_,rfl⟩⟩
 .rename_i t x f ho;intro a w g hi hr _;obtain⟨h0,u,h1,h2⟩:=ID (P:=P) hT he hc (aD hr x);exact⟨.value u,w,g,by simp[execOp,ho,h1],.inl ⟨u,rfl,h2⟩,by grind,Ext.refl w g,fun _=>⟨rfl,rfl,h0,_,rfl⟩⟩
 .rename_i t x lo M4 mx ho;intro a w g hi hr _
  obtain⟨h0,u,h1,h2⟩:=IV (P:=P) (w:=w) (g:=g) (vlo:=lo.map a.eval) (vhi:=M4.map a.eval) (vmx:=mx.map a.eval) hT he hc (aD hr x)
   (fun l hl=>by cases lo with|none=>grind|some z=>simp at hl;subst hl;exact⟨_,rfl,aD hr z⟩) (fun h=>by simp_all)
   (fun l hl=>by cases M4 with|none=>grind|some z=>simp at hl;subst hl;exact⟨_,rfl,aD hr z⟩) (fun h=>by simp_all)
   (fun l hl=>by cases mx with|none=>grind|some z=>simp at hl;subst hl;exact⟨_,rfl,aD hr z⟩) (fun h=>by simp_all)
  exact⟨.value u,w,g,by simp[execOp,ho,h1],.inl ⟨u,rfl,h2⟩,by grind,Ext.refl w g,fun _=>⟨rfl,rfl,h0,_,rfl⟩⟩
 .rename_i t x ho;intro a w g hi hr _;obtain⟨u,w',g',h1,h2,h3,h4⟩:=Oy (P:=P) hi he (aD hr x);exact⟨.value u,w',g',by simp[execOp,ho,h1],.inl ⟨u,rfl,h2⟩,h3,h4,fun hq=>by grind [aS]⟩
 .rename_i t ho;intro a w g hi hr _;obtain⟨u,w',g',h1,h2,h3,h4⟩:=IU (P:=P) hT hi he;exact⟨.value u,w',g',by simp[execOp,ho,h1],.inl ⟨u,rfl,h2⟩,h3,h4,fun hq=>by grind [aS]⟩
 .rename_i t ps ho;intro a w g hi hr _;obtain⟨h0,u,h1,h2⟩:=Gc (P:=P) (v8:=ps.map fun p=>(p.1,a.eval p.2)) hT he hc sS (by simpa using tM hr ps.toList);exact⟨.value u,w,g,by simp[execOp,ho,h1],.inl ⟨u,rfl,h2⟩,by grind,Ext.refl w g,fun _=>⟨rfl,rfl,h0,_,rfl⟩⟩
 .rename_i t n ps ho;intro a w g hi hr _;obtain⟨u,w',g',h1,h2,h3,h4⟩:=yB (P:=P) (v8:=ps.map fun p=>(p.1,a.eval p.2)) hT hi he hc sS (by simpa using tM hr ps.toList);exact⟨.value u,w',g',by simp[execOp,ho,h1],.inl ⟨u,rfl,h2⟩,h3,h4,fun hq=>by grind [aS]⟩
 .rename_i f first Gj ho
  split at he
  .rename_i hf;simp only[aAb]at he;subst he;refine cK fun a w g hi hr _=>⟨.func f #[] (Gj.map a.eval),?_,?_⟩
   .have:first=#[]:=by simpa using hf
    subst this;simp[execOp,ho,Instr.makeFunc]
   grind [Rep,Array.toList_map,DM]
  grind
 .rename_i x i ho
  split at he
  .rename_i vs hx
   split at he
   .rename_i v hv;simp only[aAb]at he;subst he;refine cK fun a w g hi hr _=>?_;have h1:=aD hr x;rw[hx]at h1;simp only[Rep]at h1;obtain⟨us,h1,h2⟩:=h1;obtain⟨u,hu1,hu2⟩:=uV i vs us v h2 hv;exact⟨u,by simp[execOp,ho,h1,Instr.extract,hu1],hu2⟩
   grind
  grind
 .rename_i x ho
  split at he
  .rename_i l o' hx;simp only[aAb]at he;subst he;refine cK fun a w g hi hr _=>?_;have h1:=aD hr x;rw[hx]at h1;have h2:=h1;simp only[Rep]at h1;exact⟨a.eval x,by simp[execOp,ho,h1.1],h2⟩
  .rename_i l cs hx;simp only[aAb]at he;subst he;refine cK fun a w g hi hr _=>?_;have h1:=aD hr x;rw[hx]at h1;have h2:=h1;simp only[Rep]at h1;exact⟨a.eval x,by simp[execOp,ho,h1.1],h2⟩
  grind
 .grind [Jn]
 .rename_i t x i ho;unfold Es at he
  split at he
  .rename_i s k n hx hn;simp only[aAb]at he;subst he;obtain⟨c1,c2,c3⟩:=hc;refine cK fun a w g hi hr _=>?_;have h1:=fU (aD hr x) hx;have h2:=fU (aD hr i) hn;cases hb:s[n.toNat]? with
   |none=>grind
   |some b=>refine⟨.int .u8 b.toNat,?_,by grind [Rep]⟩;simp[execOp,ho,h1,h2,Instr.index,asIntOf,run_underlying (RB hT c1),c2,hb]
  grind
 .rename_i t x i ok ho;intro a w g hi hr _;obtain⟨h0,u,h1,h2⟩:=FN (P:=P) hT hi he hc (aD hr x) (aD hr i);exact⟨.value u,w,g,by simp[execOp,ho,h1],.inl ⟨u,rfl,h2⟩,by grind,Ext.refl w g,fun _=>⟨rfl,rfl,h0,_,rfl⟩⟩
 .rename_i t x i v ho;intro a w g hi hr _;obtain⟨h0,w',h1,h2,h3⟩:=uY (P:=P) hT hi he hc (aD hr x) (aD hr i) (aD hr v);exact⟨.skip,w',g,by simp[execOp,ho,h1],.inr ⟨rfl,h0⟩,h2,h3,fun hq=>by grind [aS]⟩
 .rename_i t x i v ho;intro a w g hi hr _;obtain⟨h0,w',h1,h2,h3⟩:=uY (P:=P) hT hi he hc (aD hr x) (aD hr i) (aD hr v);exact⟨.skip,w',g,by simp[execOp,ho,h1],.inr ⟨rfl,h0⟩,h2,h3,fun hq=>by grind [aS]⟩
 .rename_i t rs ho;intro a w g hi hr _;obtain⟨u,w',g',h1,h2,h3,h4⟩:=DA (P:=P) (vr:=rs.map a.eval) hT hi he (fun x hx=>by cases rs with|none=>grind|some z=>simp at hx;subst hx;exact⟨_,rfl,aD hr z⟩) (fun h=>by simp_all);exact⟨.value u,w',g',by simp[execOp,ho,h1],.inl ⟨u,rfl,h2⟩,h3,h4,fun hq=>by grind [aS]⟩
 .rename_i t l c ho;intro a w g hi hr _;obtain⟨u,w',g',h1,h2,h3,h4⟩:=zM (P:=P) hT hi he hc (aD hr l) (aD hr c);exact⟨.value u,w',g',by simp[execOp,ho,h1],.inl ⟨u,rfl,h2⟩,h3,h4,fun hq=>by grind [aS]⟩
 grind
end
end Aw
end Go.Proofs.YtbgngpdonpeboaaGreatDoor
