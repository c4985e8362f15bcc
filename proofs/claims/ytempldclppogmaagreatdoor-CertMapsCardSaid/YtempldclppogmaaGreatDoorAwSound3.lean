/- The operations' soundness: append; all operations in one theorem. No program is named here. -/
import Derived.Test.YtempldclppogmaaGreatDoorAwMap
import Derived.Laws.MakeOwn
set_option linter.unusedVariables false
set_option linter.unusedSimpArgs false
namespace Go.Proofs.YtempldclppogmaaGreatDoor.Aw
open Go Go.RowKit
def G.addNil(g:G):G:=
 {next:=g.next+1,φ:=g.φ,β:=g.β,κ:=fun l=>if l=g.next then 0 else g.κ l,nl:=fun l=>if l=g.next then true else g.nl l }
section
variable {P:Program} {T:Tab} {w:World} {g:G} {st:St}
theorem ext_nil(w:World)(g:G):Ext w g w g.addNil:=by
 refine⟨rfl,rfl,rfl,Nat.le_refl _,Nat.le_succ _,fun _ _=>rfl,?_,?_,fun _ _ h=>⟨h,rfl⟩,fun _ k _ h=>⟨k,h,Nat.le_refl _,fun _ _=>rfl⟩⟩
 ·intro l hl;simp[G.addNil,Nat.ne_of_lt hl]
 ·intro l hl;simp[G.addNil,Nat.ne_of_lt hl]
theorem gD(h:Inv w g st)(o:cA)(ho:(∃ e s,o=.own e s 0)∨∃ e s,o=.box e s []):Inv w g.addNil (st.new o):=by
 have hn:=h.next
 have he:=ext_nil w g
 have hb:∀ l,blk g.addNil (st.new o) l→l≠st.next∧blk g st l:=by
  intro l hl
  unfold blk at hl ⊢
  simp only[St.new,G.addNil,hn]at hl
  by_cases e0:l=st.next
  ·simp only[if_pos e0]at hl
   rcases ho with⟨e,s,rfl⟩|⟨e,s,rfl⟩<;>simp at hl
  ·simp only[if_neg e0]at hl;exact⟨e0,hl⟩
 refine⟨by simp[G.addNil,St.new,hn],by simp[St.new],?_,fun l hl=>h.lt l (hb l hl).2,fun l l' hl hl'=>h.inj l l' (hb l hl).2 (hb l' hl').2,?_,?_,?_,?_,h.aside.keep he (kN (by rcases ho with⟨e,s,rfl⟩|⟨e,s,rfl⟩<;>rfl))⟩
 ·intro l hl
  simp only[St.new]at hl ⊢
  rw[if_neg oO]
  exact h.fresh l oO
 ·intro l e' s' n' hl
  by_cases e0:l=st.next
  ·simp only[St.new,if_pos e0]at hl
   subst hl
   rcases ho with⟨e,s,ho⟩|⟨e,s,ho⟩
   ·injection ho with h1 h2 h3
    subst h1 h2 h3
    simp[G.addNil,hn,e0]
   ·cases ho
  ·simp only[St.new,if_neg e0]at hl
   have:=h.own l e' s' n' hl
   simp only[G.addNil,hn,if_neg e0]
   exact this
 ·intro l e' s' cs hl
  by_cases e0:l=st.next
  ·simp only[St.new,if_pos e0]at hl
   subst hl
   rcases ho with⟨e,s,ho⟩|⟨e,s,ho⟩
   ·cases ho
   ·injection ho with h1 h2 h3
    subst h1 h2 h3
    simp[G.addNil,hn,e0]
  ·simp only[St.new,if_neg e0]at hl
   obtain⟨q1,q2,q3⟩:=h.box l e' s' cs hl
   refine⟨?_,?_,fun hnl=>?_⟩
   ·simp only[G.addNil,hn,if_neg e0];exact q1
   ·simp only[G.addNil,hn,if_neg e0];exact q2
   ·simp only[G.addNil,hn,if_neg e0]at hnl
    obtain⟨cur,k1,k2,k3,k4,k5⟩:=q3 hnl
    refine⟨cur,k1,?_,k3,aG.mono he _ _ k4,k5⟩
    simp only[G.addNil,hn,if_neg e0];exact k2
 ·intro l ag ks es hl
  by_cases e0:l=st.next
  ·simp only[St.new,if_pos e0]at hl
   subst hl
   rcases ho with⟨e,s,ho⟩|⟨e,s,ho⟩<;>cases ho
  ·simp only[St.new,if_neg e0]at hl
   exact(h.mp l ag ks es hl).keep he (h.map_lt hl) rfl rfl
 ·intro l e' n hl
  by_cases e0:l=st.next
  ·simp only[St.new,if_pos e0]at hl
   subst hl
   rcases ho with⟨e,s,ho⟩|⟨e,s,ho⟩<;>cases ho
  ·simp only[St.new,if_neg e0]at hl
   exact(h.qu l e' n hl).keep he (h.que_lt hl) rfl rfl
theorem kV(h:Inv w g st){q e k k' kp:Nat}{o:cA}(hom:(∀ ag ks es,o≠.map ag ks es)∧eK o=false)(hqb:blk g st q){cur arr:Array Value}(hcur:w.heap[g.β q]?=some (.cells cur e (0,0)))(hk:g.φ (g.β q)=some k)(hkk:k≤k')
 (hsame:∀ i,i<k→arr[i]?=cur[i]?) (hblk:∀ w',Ext w g w' (g.add (g.β q) k' kp false)→w'.heap[g.β q]?=some (.cells arr e (0,0))→
   (∀ e' s n,o=.own e' s n→n≤kp∧kp≤maxLen∧e'=e∧arr.size=kp*s∧k'=n*s)∧
   (∀ e' n,o=.que e' n→e'=e∧arr.size=kp / qM+kp % qM∧k'=kp / qM+n∧n≤kp % qM∧kp % qM≤maxLen)∧
   (∀ e' s cs,o=.box e' s cs→kp≤maxLen∧e'=e∧arr.size=kp*s∧cs.length≤arr.size∧aG w' (g.add (g.β q) k' kp false) cs (arr.toList.take cs.length)∧k'=0)):
 Inv (w.setRow (g.β q) arr) (g.add (g.β q) k' kp false) ((st.set q .dead).new o)∧Ext w g (w.setRow (g.β q) arr) (g.add (g.β q) k' kp false):=by
 have hn:=h.next
 have hqlt:q<st.next:=by
  rcases Nat.lt_or_ge q st.next with h0|h0
  ·exact h0
  ·unfold blk at hqb;rw[h.fresh q h0]at hqb;exact hqb.elim
 have he:Ext w g (w.setRow (g.β q) arr) (g.add (g.β q) k' kp false):=
  vT hcur hk hkk hsame (fun x=>rfl) (Nat.le_succ _) (fun l hl=>by simp[G.add,Nat.ne_of_lt hl]) (fun l hl=>by simp[G.add,Nat.ne_of_lt hl]) (fun l hl=>by simp[G.add,Nat.ne_of_lt hl])
 have hrow:=setRow_heap w _ _ arr _ _ hcur
 obtain⟨hno,hnq,hnb⟩:=hblk _ he hrow
 have hHo:∀ l,l≠st.next→l≠q→((st.set q .dead).new o).H l=st.H l:=by
  intro l h0 h1;simp[St.new,St.set,h0,h1]
 have hHq:((st.set q .dead).new o).H q=.dead:=by simp[St.new,St.set,Nat.ne_of_lt hqlt]
 have hHn:((st.set q .dead).new o).H st.next=o:=by simp[St.new,St.set]
 have hb:∀ l,l≠st.next→blk (g.add (g.β q) k' kp false) ((st.set q .dead).new o) l→l≠q∧blk g st l:=by
  intro l e0 hl
  unfold blk at hl ⊢
  by_cases e1:l=q
  ·subst e1;rw[hHq]at hl;exact hl.elim
  ·rw[hHo l e0 e1]at hl
   refine⟨e1,?_⟩
   cases hst:st.H l<;>simp only[hst]at hl ⊢
   ·simpa[G.add,hn,e0]using hl
   ·simpa[G.add,hn,e0]using hl
   ·simpa[G.add,hn,e0]using hl
   ·simpa[G.add,hn,e0]using hl
 refine⟨⟨by simp[G.add,St.new,St.set,hn],by simp[St.new],?_,?_,?_,?_,?_,?_,?_,h.aside.keep he fun x hx=>(kN hom.2 x hx).trans (gC rfl x (by rw[← kN hom.2 x hx];exact hx))⟩,he⟩
 ·intro l hl
  have hl':st.next+1≤l:=hl
  rw[hHo l oO oO]
  exact h.fresh l oO
 ·intro l hl
  rw[setRow_size]
  by_cases e0:l=st.next
  ·simp only[G.add,hn,if_pos e0];exact h.lt q hqb
  ·simp only[G.add,hn,if_neg e0];exact h.lt l (hb l e0 hl).2
 ·intro l l' hl hl' hbb
  by_cases e0:l=st.next<;>by_cases e1:l'=st.next
  ·omega
  ·obtain⟨k1,k2⟩:=hb l' e1 hl'
   simp only[G.add,hn,if_pos e0,if_neg e1]at hbb
   exact absurd (h.inj q l' hqb k2 hbb).symm k1
  ·obtain⟨k1,k2⟩:=hb l e0 hl
   simp only[G.add,hn,if_pos e1,if_neg e0]at hbb
   exact absurd (h.inj l q k2 hqb hbb) k1
  ·simp only[G.add,hn,if_neg e1,if_neg e0]at hbb
   exact h.inj l l' (hb l e0 hl).2 (hb l' e1 hl').2 hbb
 ·intro l e' s' m hl
  by_cases e0:l=st.next
  ·subst e0
   rw[hHn]at hl
   obtain⟨a1,a2,rfl,a3,a4⟩:=hno e' s' m hl
   simp only[G.add,hn,if_pos]
   exact⟨a1,a2,sS,fun _=>⟨arr,hrow,a3,by rw[a4]⟩⟩
  ·by_cases e1:l=q
   ·subst e1;rw[hHq]at hl;cases hl
   ·rw[hHo l e0 e1]at hl
    obtain⟨k1,k2,k3,k4⟩:=h.own l e' s' m hl
    simp only[G.add,hn,if_neg e0]
    refine⟨k1,k2,k3,fun hnl'=>?_⟩
    obtain⟨c',z1,z2,z3⟩:=k4 hnl'
    have hlb:blk g st l:=by unfold blk;rw[hl];exact hnl'
    have hne:g.β l≠g.β q:=fun hh=>e1 (h.inj l q hlb hqb hh)
    exact⟨c',by rw[setRow_other w _ _ _ hne];exact z1,z2,by rw[if_neg hne];exact z3⟩
 ·intro l e' s' cs hl
  by_cases e0:l=st.next
  ·subst e0
   rw[hHn]at hl
   obtain⟨a1,rfl,a2,a3,a4,a5⟩:=hnb e' s' cs hl
   refine⟨by simp only[G.add,hn,if_pos];exact a1,by simp[G.add,hn],fun _=>⟨arr.toList,?_,?_,by simpa using a3,a4,?_⟩⟩
   ·simp only[G.add,hn,if_pos];simpa using hrow
   ·simp only[G.add,hn,if_pos];simpa using a2
   ·simp[G.add,hn,a5]
  ·by_cases e1:l=q
   ·subst e1;rw[hHq]at hl;cases hl
   ·rw[hHo l e0 e1]at hl
    obtain⟨q1,q2,q3⟩:=h.box l e' s' cs hl
    refine⟨by simp only[G.add,hn,if_neg e0];exact q1,by simp only[G.add,hn,if_neg e0];exact q2,fun hnl'=>?_⟩
    simp only[G.add,hn,if_neg e0]at hnl'
    obtain⟨c',z1,z2,z3,z4,z5⟩:=q3 hnl'
    have hlb:blk g st l:=by unfold blk;rw[hl];exact hnl'
    have hne:g.β l≠g.β q:=fun hh=>e1 (h.inj l q hlb hqb hh)
    refine⟨c',?_,?_,z3,aG.mono he _ _ z4,?_⟩
    ·simp only[G.add,hn,if_neg e0];rw[setRow_other w _ _ _ hne];exact z1
    ·simp only[G.add,hn,if_neg e0];exact z2
    ·simp only[G.add,hn,if_neg e0,if_neg hne];exact z5
 ·intro l ag ks es hl
  by_cases e0:l=st.next
  ·subst e0
   rw[hHn]at hl
   exact absurd hl (hom.1 _ _ _)
  ·by_cases e1:l=q
   ·subst e1;rw[hHq]at hl;cases hl
   ·rw[hHo l e0 e1]at hl
    have hne:g.β l≠g.β q:=fun hh=>e1 (h.inj l q (h.map_blk hl) hqb hh)
    exact(h.mp l ag ks es hl).keep he (h.map_lt hl) (setRow_other w _ _ _ hne) (by simp only[G.add];rw[if_neg hne])
 ·intro l e' n hl
  by_cases e0:l=st.next
  ·subst e0
   rw[hHn]at hl
   obtain⟨rfl,a1,a2,a3,a4⟩:=hnq _ _ hl
   refine⟨by simp[G.add,hn],⟨arr,by simp only[G.add,hn,if_pos];exact hrow,by simp only[G.add,hn,if_pos];exact a1⟩,by simp[G.add,hn,a2],by simp only[G.add,hn,if_pos];exact⟨a3,a4⟩⟩
  ·by_cases e1:l=q
   ·subst e1;rw[hHq]at hl;cases hl
   ·rw[hHo l e0 e1]at hl
    have hne:g.β l≠g.β q:=fun hh=>e1 (h.inj l q (h.que_blk hl) hqb hh)
    exact(h.qu l e' n hl).keep he (h.que_lt hl) (setRow_other w _ _ _ hne) (by simp only[G.add];rw[if_neg hne])
theorem jD(h:Inv w g st){q e k k':Nat}{o:cA}(hom:((∀ ag ks es,o≠.map ag ks es)∧eK o=false)∧∀ e n,o≠.que e n)(hqb:blk g st q){cur arr:Array Value}(hcur:w.heap[g.β q]?=some (.cells cur e (0,0)))(hk:g.φ (g.β q)=some k)(hkk:k≤k')
 (hsame:∀ i,i<k→arr[i]?=cur[i]?) (hblk:∀ w',Ext w g w' (g.add (g.β q) k' (g.κ q) false)→w'.heap[g.β q]?=some (.cells arr e (0,0))→
   (∀ e' s n,o=.own e' s n→n≤g.κ q∧g.κ q≤maxLen∧e'=e∧arr.size=g.κ q*s∧k'=n*s)∧
   (∀ e' s cs,o=.box e' s cs→g.κ q≤maxLen∧e'=e∧arr.size=g.κ q*s∧cs.length≤arr.size∧aG w' (g.add (g.β q) k' (g.κ q) false) cs (arr.toList.take cs.length)∧k'=0)):
 Inv (w.setRow (g.β q) arr) (g.add (g.β q) k' (g.κ q) false) ((st.set q .dead).new o)∧Ext w g (w.setRow (g.β q) arr) (g.add (g.β q) k' (g.κ q) false):=
 kV h hom.1 hqb hcur hk hkk hsame fun w' h1 h2=>⟨(hblk w' h1 h2).1,fun e n h=>absurd h (hom.2 e n),(hblk w' h1 h2).2⟩
theorem aLR(a:List Value)(Z:Array Value):a.toArray++Z=(a++Z.toList).toArray:=by
 cases Z;simp
theorem xD(a b:List Value)(Z:Array Value):a.toArray++b.toArray++Z=(a++b++Z.toList).toArray:=by
 cases Z;simp
def Src(w:World)(g:G)(m:Nat)(ds:List LV)(u:Value):Prop:=
 ∃ A c,u=.slice A m c∧(ds≠[]→∃ b o vs,A=some ⟨b,o,none⟩∧aG w g ds vs∧∀ j,j<ds.length→w.cell? ⟨b,o+j,none⟩=vs[j]?)
theorem mX(hi:Inv w g st){t m:Nat}{x:LV}{u:Value}{ds:List LV}(hx:yY T t st x=some (m,ds))(hu:Rep w g x u):Src w g m ds u:=by
 have sl:∀ q,rS x=some (q,m,ds)→Src w g m ds u:=by
  intro q hq
  have h:=mI hq hu
  simp only[Rep]at h
  obtain⟨A,c,rfl,_,_,_,hrw⟩:=h
  refine⟨A,c,rfl,fun hne=>?_⟩
  obtain⟨b,o,rfl,hrr⟩:=hrw hne
  obtain⟨vs,k1,k2⟩:=eO _ _ hrr
  exact⟨b,o,vs,rfl,k1,k2⟩
 cases x with
 |ms l o n=>
  simp only[yY]at hx
  cases he:cL T t with
  |none=>simp[he]at hx
  |some e=>
   cases hr:T e with
   |none=>simp[he,hr]at hx
   |some r=>
    cases hl:st.H l with
    |box e' s' cs=>
     simp only[he,hr,hl,Option.some.injEq,Prod.mk.injEq]at hx
     obtain⟨rfl,rfl⟩:=hx
     simp only[Rep]at hu
     obtain⟨A,cap,rfl,_,_,_,hA,_⟩:=hu
     refine⟨A,cap,rfl,fun hne=>?_⟩
     have hn0:n≠0:=by rintro rfl;simp at hne
     obtain⟨_,q2,q3⟩:=hi.box l e' s' cs hl
     cases hnl:g.nl l with
     |true=>obtain⟨_,rfl⟩:=q2 hnl;simp at hne
     |false=>
      obtain⟨cur,k1,k2,k3,k4,k5⟩:=q3 hnl
      refine⟨g.β l,o,((cur.take cs.length).drop o).take (n*r.size),hA hn0,dB _ _ _ (gA _ _ _ k4),fun j hj=>?_⟩
      rw[cell_of_row w _ _ _ _ _ k1]
      simp only[List.length_take,List.length_drop]at hj
      simp only[List.getElem?_toArray]
      rw[List.getElem?_take,if_pos oO,List.getElem?_drop,List.getElem?_take,if_pos oO]
    |_=>simp[he,hr,hl]at hx
 |_=>
  simp only[yY,Option.map_eq_some_iff]at hx
  obtain⟨⟨q,m',ds'⟩,h1,h2⟩:=hx
  simp only[Prod.mk.injEq]at h2
  obtain⟨rfl,rfl⟩:=h2
  exact sl q h1
theorem uD(hT:bC P T){t ty e n m cap:Nat}{row:bG}{ds:List LV}{u:Value}{A:Option Addr}{olds:List Value}(hs:cL T t=some e)(hte:T e=some row)(hu:Src w g m ds u)
 (c1:ds.length=m*row.size) (c2:ds.all fM=true) (c3:(n+m)*row.bytes≤140737488355328) (c4:n+m≤maxLen) (c5:0<row.size) (hol:olds.length=n*row.size)
 (hA:(n=0∧cap=0)∨∃ b cur,A=some ⟨b,0,none⟩∧w.heap[b]?=some (.cells cur e (0,0))∧cur.size=cap*row.size∧n≤cap∧cur.toList.take (n*row.size)=olds):
 ∃ v' w' vs,(Builtin.append_ #[t,t] ty #[.slice A n cap,u]).run P w=.ok v' w'∧aG w g ds vs∧
  ((m=0∧v'=.slice A n cap∧w=w')∨
   (∃ b cur,0<m∧A=some ⟨b,0,none⟩∧w.heap[b]?=some (.cells cur e (0,0))∧n+m≤cap∧v'=.slice (some ⟨b,0,none⟩) (n+m) cap∧w'=w.setRow b (olds++vs++cur.toList.drop ((n+m)*row.size)).toArray)∨
   (∃ C z,v'=.slice (some ⟨w.heap.size,0,none⟩) (n+m) C∧w'=w.drew.alloc (.cells (olds++vs++z).toArray e)∧n+m≤C∧C≤maxLen∧(olds++vs++z).length=C*row.size)):=by
 have hd:=bV hT hs
 have hrow:=hT e row hte
 obtain⟨i,hinfo,hsz,hby,hz⟩:=hrow.info
 have hzc:row.zeroV.cells=row.zero.toArray:=cP hrow
 obtain⟨A',c,rfl,hrw⟩:=hu
 by_cases hm:m=0
 ·subst hm
  have hds:ds=[]:=List.eq_nil_of_length_eq_zero (by simpa using c1)
  subst hds
  refine⟨.slice A n cap,w,[],?_,by simp only[aG],.inl ⟨rfl,rfl,rfl⟩⟩
  have hnc:n≤cap:=by
   rcases hA with⟨rfl,rfl⟩|⟨_,_,_,_,_,h,_⟩
   ·omega
   ·exact h
  cases A'<;>cases A<;>simp[Builtin.append_,run_underlying hd,Go.sizeOf,typeInfo,hinfo,Builtin.lenOf,Builtin.firstCells,loadCells,loadCellsFrom,hnc,storeCells]
 ·have hdne:ds≠[]:=by
   rintro rfl
   have:0<m*row.size:=Nat.mul_pos oO c5
   simp at c1;omega
  obtain⟨b',o',vs,rfl,k1,k2⟩:=hrw hdne
  have hlen:=aK _ _ k1
  have hvl:vs.length=m*i.size:=by rw[hsz];omega
  have hnews:∀ j v,vs[j]?=some v→w.cell? ((⟨b',o',none⟩:Addr).add j)=some v:=by
   intro j v hv
   have hj:j<vs.length:=(List.getElem?_eq_some_iff.1 hv).1
   rw[add_lit,k2 j oO];exact hv
  have hgrow:∀ old,(olds++vs++(Builtin.zeroCells row.zeroV.cells (grownCap w (n+m) old e-(n+m))).toList).length=grownCap w (n+m) old e*row.size:=by
   intro old
   have hge:=grownCap_ge w (n+m) old e
   have hzl:(Builtin.zeroCells row.zeroV.cells (grownCap w (n+m) old e-(n+m))).toList.length=(grownCap w (n+m) old e-(n+m))*row.size:=by
    rw[Array.length_toList,size_zeroCells,hzc];simp only[List.size_toArray,hrow.zl]
   rw[List.length_append,List.length_append,hzl,hol,hvl,hsz,← Nat.add_mul,← Nat.add_mul]
   congr 1;omega
  rcases hA with⟨rfl,rfl⟩|⟨b,cur,rfl,hb,hcs,hnc,htk⟩
  ·have ho:olds=[]:=List.eq_nil_of_length_eq_zero (by simpa using hol)
   subst ho
   cases A with
   |none=>
    have hr:=run_append_nil (P:=P) w t ty e i row.zeroV hd hinfo hz ⟨b',o',none⟩ m c vs hvl hnews oO (by simp only[maxLen]at c4;omega) (by rw[hby];simp at c3;omega)
    refine⟨_,_,vs,hr,k1,.inr (.inr ⟨grownCap w (0+m) 0 e,(Builtin.zeroCells row.zeroV.cells (grownCap w (0+m) 0 e-(0+m))).toList,sS,?_,grownCap_ge w _ 0 e,grownCap_le_maxLen w _ 0 e c4,hgrow 0⟩)⟩
    simp only[Nat.zero_add,List.nil_append,aLR]
   |some a=>
    have hr:=run_append_grow (P:=P) w t ty e i row.zeroV hd hinfo hz a 0 0 [] sS sS ⟨b',o',none⟩ m c vs hvl hnews oO (by simp only[maxLen]at c4;omega) (by rw[hby];exact growslice_fits oO c3)
    refine⟨_,_,vs,hr,k1,.inr (.inr ⟨grownCap w (0+m) 0 e,(Builtin.zeroCells row.zeroV.cells (grownCap w (0+m) 0 e-(0+m))).toList,rfl,?_,grownCap_ge w _ 0 e,grownCap_le_maxLen w _ 0 e c4,hgrow 0⟩)⟩
    rw[xD]
  ·by_cases hroom:n+m≤cap
   ·have hns:n*i.size=olds.length:=by rw[hsz];omega
    have hfit:n*i.size+vs.length≤cur.size:=by
     rw[hvl,hcs,hsz,← Nat.add_mul];exact Nat.mul_le_mul_right _ hroom
    have hr:=run_append_room (P:=P) w t ty e i hd hinfo b n cap cur hb ⟨b',o',none⟩ m c vs hvl hnews (eG _ _ c2 k1) hroom hfit
    refine⟨_,_,vs,hr,k1,.inr (.inl ⟨b,cur,oO,rfl,hb,hroom,rfl,?_⟩)⟩
    rw[hsz,htk,hvl,hsz,← Nat.add_mul]
   ·have holds:∀ j v,olds[j]?=some v→w.cell? ((⟨b,0,none⟩:Addr).add j)=some v:=by
     intro j v hv
     rw[add_lit,Nat.zero_add,cell_of_row w _ _ _ _ _ hb,← Array.getElem?_toList]
     rw[← htk,List.getElem?_take]at hv
     split at hv
     ·exact hv
     ·cases hv
    have hr:=run_append_grow (P:=P) w t ty e i row.zeroV hd hinfo hz ⟨b,0,none⟩ n cap olds (by rw[hsz];omega) holds ⟨b',o',none⟩ m c vs hvl hnews oO (by simp only[maxLen]at c4;omega) (by rw[hby];exact growslice_fits oO c3)
    refine⟨_,_,vs,hr,k1,.inr (.inr ⟨grownCap w (n+m) cap e,(Builtin.zeroCells row.zeroV.cells (grownCap w (n+m) cap e-(n+m))).toList,rfl,?_,grownCap_ge w _ cap e,grownCap_le_maxLen w _ cap e c4,hgrow cap⟩)⟩
    rw[xD]
theorem aGj(hi:Inv w g st){e s N C:Nat}{ds:List LV}{vs z:List Value}(hr:aG w g ds vs)(hN:ds.length=N*s)(hC:N≤C)(hm:C≤maxLen)(hl:(vs++z).length=C*s):
 Rep (w.drew.alloc (.cells (vs++z).toArray e)) (g.add w.heap.size (N*s) C false) (.sl st.next N ds) (.slice (some ⟨w.heap.size,0,none⟩) N C)∧
 Inv (w.drew.alloc (.cells (vs++z).toArray e)) (g.add w.heap.size (N*s) C false) (st.new (.own e s N))∧Ext w g (w.drew.alloc (.cells (vs++z).toArray e)) (g.add w.heap.size (N*s) C false):=by
 have hdz:w.drew.heap.size=w.heap.size:=rfl
 have hinv:=aAW hi.drew e s N C (vs++z).toArray (by simpa using hl) hC hm
 have hext:=(cT w g).trans (cV w.drew g (.cells (vs++z).toArray e) (N*s) C false)
 rw[hdz]at hinv hext
 have hlen:=aK _ _ hr
 refine⟨?_,hinv,hext⟩
 simp only[Rep]
 refine⟨_,_,rfl,hC,⟨hm,sS⟩,fun _=>by simp[G.add,hi.next],fun _=>⟨w.heap.size,0,rfl,fW ds vs 0 (aG.mono hext _ _ hr) (fun j hj=>?_) (fun j hj=>?_)⟩⟩
 ·rw[cell_of_row _ w.heap.size _ _ _ _ (heap_alloc_new w.drew _),Nat.zero_add,List.getElem?_toArray,List.getElem?_append_left oO]
 ·intro k hk
  simp[G.add]at hk
  omega
theorem uE(hi:Inv w g st){e s N C:Nat}{ds:List LV}{vs z:List Value}(hr:aG w g ds vs)(hC:N≤C)(hm:C≤maxLen)(hl:(vs++z).length=C*s):
 Rep (w.drew.alloc (.cells (vs++z).toArray e)) (g.add w.heap.size 0 C false) (.ms st.next 0 N) (.slice (some ⟨w.heap.size,0,none⟩) N C)∧
 Inv (w.drew.alloc (.cells (vs++z).toArray e)) (g.add w.heap.size 0 C false) (st.new (.box e s ds))∧Ext w g (w.drew.alloc (.cells (vs++z).toArray e)) (g.add w.heap.size 0 C false):=by
 have hdz:w.drew.heap.size=w.heap.size:=rfl
 have hlen:=aK _ _ hr
 have hinv:=pE hi.drew e s C (cs:=ds) (vs:=vs++z) hl hm (by simp;omega) (by
  rw[hlen,List.take_left];exact aG.mono (cT w g) _ _ hr)
 have hext:=(cT w g).trans (cV w.drew g (.cells (vs++z).toArray e) 0 C false)
 rw[hdz]at hinv hext
 refine⟨?_,hinv,hext⟩
 simp only[Rep]
 exact⟨_,_,rfl,hC,hm,by simp[G.add,hi.next],by simp[G.add,hi.next],by simp[G.add,hi.next]⟩
theorem oF(hi:Inv w g st)(k:Nat){l e s:Nat}{cs:List LV}(hl:st.H l=.box e s cs):Inv w g (st.set l (.box e s (cs.take k))):=by
 have hb:∀ x,blk g (st.set l (.box e s (cs.take k))) x↔blk g st x:=by
  intro x
  unfold blk
  simp only[St.set]
  by_cases hx:x=l
  ·subst hx;simp[hl]
  ·rw[if_neg hx]
 have hlt:l<st.next:=yK hi hl sS
 refine⟨hi.next,hi.pos,?_,fun x hx=>hi.lt x ((hb x).1 hx),fun x y hx hy=>hi.inj x y ((hb x).1 hx) ((hb y).1 hy),?_,?_,?_,?_,hi.aside.keep (Ext.refl w g) (gC rfl)⟩
 ·intro x hx
  simp only[St.set]at hx ⊢
  rw[if_neg oO]
  exact hi.fresh x hx
 ·intro x e' s' n hx
  by_cases e0:x=l
  ·simp[St.set,e0]at hx
  ·simp only[St.set,if_neg e0]at hx
   exact hi.own x e' s' n hx
 ·intro x e' s' cs' hx
  by_cases e0:x=l
  ·simp only[St.set,if_pos e0]at hx
   injection hx with h1 h2 h3
   subst h1 h2 h3 e0
   obtain⟨q1,q2,q3⟩:=hi.box x e s cs hl
   refine⟨q1,fun hn=>⟨(q2 hn).1,by rw[(q2 hn).2];simp⟩,fun hn=>?_⟩
   obtain⟨cur,k1,k2,k3,k4,k5⟩:=q3 hn
   refine⟨cur,k1,k2,by simp only[List.length_take];omega,?_,k5⟩
   have:=dB k _ _ k4
   rw[List.take_take]at this
   rw[List.length_take]
   exact this
  ·simp only[St.set,if_neg e0]at hx
   exact hi.box x e' s' cs' hx
 ·intro x ag ks es hx
  by_cases e0:x=l
  ·simp[St.set,e0]at hx
  ·simp only[St.set,if_neg e0]at hx
   exact hi.mp x ag ks es hx
 ·intro x e' n hx
  by_cases e0:x=l
  ·simp[St.set,e0]at hx
  ·simp only[St.set,if_neg e0]at hx
   exact hi.qu x e' n hx
theorem aAC(hT:bC P T)(hi:Inv w g st){t ty e' l n m:Nat}{row:bG}{cs ds:List LV}{v u:Value}(hs:cL T t=some e')(hte:T e'=some row)(hu':Src w g m ds u)(hH:st.H l=.box e' row.size cs)
 (d0:cs.length=n*row.size) (c1:ds.length=m*row.size) (c2:ds.all fM=true) (c3:(n+m)*row.bytes≤140737488355328) (c4:n+m≤maxLen) (c5:0<row.size) (h:Rep w g (.ms l 0 n) v):
 ∃ v' w' g',(Builtin.append_ #[t,t] ty #[v,u]).run P w=.ok v' w'∧Rep w' g' (.ms st.next 0 (n+m)) v'∧Inv w' g' ((st.set l .dead).new (.box e' row.size (cs++ds)))∧Ext w g w' g':=by
 simp only[Rep]at h
 obtain⟨A,cap,rfl,hncap,hcapm,hA0,hA',hln⟩:=h
 obtain⟨rfl,hA⟩:=hA0 trivial
 clear hA0
 have hqlt:l<st.next:=by rw[← hi.next];exact hln
 obtain⟨o2,o3,o4⟩:=hi.box l _ _ _ hH
 have hphys:∃ olds:List Value,aG w g cs olds∧((n=0∧g.κ l=0)∨∃ b cur,A=some ⟨b,0,none⟩∧w.heap[b]?=some (.cells cur e' (0,0))∧cur.size=g.κ l*row.size∧n≤g.κ l∧cur.toList.take (n*row.size)=olds):=by
  cases hnl:g.nl l with
  |true=>
   obtain⟨hk0,rfl⟩:=o3 hnl
   exact⟨[],by simp only[aG],.inl ⟨oO,hk0⟩⟩
  |false=>
   obtain⟨cur,p1,p2,p4,p5,p6⟩:=o4 hnl
   obtain rfl:=hA hnl
   refine⟨cur.take cs.length,p5,.inr ⟨_,cur.toArray,rfl,p1,by simpa using p2,hncap,by rw[d0]⟩⟩
 obtain⟨olds,ho1,hphys⟩:=hphys
 have hol:olds.length=n*row.size:=by rw[← aK _ _ ho1];exact d0
 obtain⟨v',w',vs,hrun,hvs,hout⟩:=uD (ty:=ty) hT hs hte hu' c1 c2 c3 c4 c5 hol hphys
 have hvl:vs.length=m*row.size:=by rw[← aK _ _ hvs];exact c1
 have hcat:=bP _ _ _ _ ho1 hvs
 have hNl:(cs++ds).length=(n+m)*row.size:=by rw[List.length_append,d0,c1,Nat.add_mul]
 have hmul:=Nat.add_mul n m row.size
 rcases hout with⟨rfl,rfl,rfl⟩|⟨b,cur,hpos,rfl,hb,hroom,rfl,rfl⟩|⟨C,z,rfl,rfl,hC,hCm,hl⟩
 ·have hds:ds=[]:=List.eq_nil_of_length_eq_zero (by simpa using c1)
  subst hds
  cases hnl:g.nl l with
  |true=>
   obtain⟨hk0,rfl⟩:=o3 hnl
   refine⟨_,_,g.addNil,hrun,?_,gD (hi.drop l hqlt) _ (.inr ⟨_,_,rfl⟩),ext_nil _ g⟩
   simp only[Rep]
   exact⟨_,_,rfl,hncap,o2,by simp[G.addNil,hi.next,hk0],oO,by simp[G.addNil,hi.next]⟩
  |false=>
   obtain⟨cur,p1,p2,p4,p5,p6⟩:=o4 hnl
   obtain rfl:=hA hnl
   have htk:=jD (o:=.box e' row.size (cs++[])) (k':=0) (arr:=cur.toArray) hi sS (by unfold blk;rw[hH];exact hnl) p1 p6 (Nat.le_refl _) (fun _ _=>rfl)
    (fun w' hx _=>⟨(fun e1 s1 n1 h1=>by cases h1),fun e1 s1 n1 h1=>by
      injection h1 with h1 h2 h3;subst h1 h2 h3
      exact⟨o2,rfl,by simpa using p2,by simpa using p4,by simpa using aG.mono hx _ _ p5,rfl⟩⟩)
   rw[setRow_self w _ _ _ _ p1]at htk
   refine⟨_,_,_,hrun,?_,htk.1,htk.2⟩
   simp only[Rep]
   exact⟨_,_,rfl,hncap,o2,by simp[G.add,hi.next],by simp[G.add,hi.next],by simp[G.add,hi.next]⟩
 ·have hnl:g.nl l=false:=by
   cases hnl:g.nl l with
   |false=>rfl
   |true=>
    obtain⟨hk0,_⟩:=o3 hnl
    omega
  obtain⟨cur',p1,p2,p4,p5,p6⟩:=o4 hnl
  have hbq:=hA hnl
  simp only[Option.some.injEq,Addr.mk.injEq]at hbq
  obtain⟨rfl,_⟩:=hbq
  have hcc:cur'.toArray=cur:=by
   rw[p1]at hb
   injection hb with hb
   injection hb
  subst hcc
  have hsz:(n+m)*row.size≤cur'.length:=by rw[p2];exact Nat.mul_le_mul_right _ hroom
  have harr:(olds++vs++cur'.drop ((n+m)*row.size)).length=g.κ l*row.size:=by
   rw[← p2]
   simp only[List.length_append,List.length_drop]
   omega
  have htk:=jD (o:=.box e' row.size (cs++ds)) (k':=0) (arr:=(olds++vs++cur'.drop ((n+m)*row.size)).toArray) hi sS (by unfold blk;rw[hH];exact hnl) p1 p6 (Nat.le_refl _)
   (fun j hj=>absurd hj (Nat.not_lt_zero _))
   (fun w' hx _=>⟨(fun e1 s1 n1 h1=>by cases h1),fun e1 s1 n1 h1=>by
     injection h1 with h1 h2 h3;subst h1 h2 h3
     have hcl:=aK _ _ hcat
     refine⟨o2,rfl,by simpa using harr,by simp only[List.size_toArray];omega,?_,rfl⟩
     simp only
     rw[hcl,List.take_left]
     exact aG.mono hx _ _ hcat⟩)
  refine⟨_,_,_,hrun,?_,htk.1,htk.2⟩
  simp only[Rep]
  exact⟨_,_,rfl,hroom,o2,by simp[G.add,hi.next],by simp[G.add,hi.next],by simp[G.add,hi.next]⟩
 ·have:=uE (e:=e') (N:=n+m) (hi.drop l hqlt) hcat hC hCm hl
  exact⟨_,_,_,hrun,this⟩
theorem rP(w:World)(t ty e:TypeId)(i:TypeInfo)(ht:P.underlying t=some (.slice e))(hi:P.info? e=some i)(b off sLen sCap:Nat)(cur:Array Value)(hg:w.heap[b]?=some (.cells cur e (0,0)))
 (a:Addr) (m c:Nat) (news:List Value) (hl:news.length=m*i.size) (hnews:∀ j u,news[j]?=some u→w.cell? (a.add j)=some u) (h1:∀ u∈news,u.oneCell'=true) (hroom:sLen+m≤sCap) (hfit:off+sLen*i.size+news.length≤cur.size):
 (Builtin.append_ #[t,t] ty #[.slice (some ⟨b,off,none⟩) sLen sCap,.slice (some a) m c]).run P w=
   .ok (.slice (some ⟨b,off,none⟩) (sLen+m) sCap) (w.setRow b (cur.toList.take (off+sLen*i.size)++news++cur.toList.drop (off+sLen*i.size+news.length)).toArray):=by
 have hf:=run_firstCells_some (P:=P) w i.size m a m c news hl hnews
 have hst:=run_storeCells_at P b (off+sLen*i.size) e news 0 cur w hg (by simpa using hfit) h1
 simp only[Nat.add_zero]at hst
 simp[Builtin.append_,run_underlying ht,sizeOf,typeInfo,hi,Builtin.lenOf,hroom,hf,Addr.add_lit,hst]
theorem aIm(hT:bC P T){t ty e n m cap:Nat}{row:bG}{ds:List LV}{u:Value}{A:Option Addr}{olds:List Value}(hs:cL T t=some e)(hte:T e=some row)(hu:Src w g m ds u)
 (c0:row.size=1) (c1:ds.length=m) (c2:ds.all fM=true) (c3:(n+m)*row.bytes≤140737488355328) (c4:n+m≤maxLen) (hol:olds.length=n)
 (hA:(n=0∧cap=0)∨∃ b o cur,A=some ⟨b,o,none⟩∧w.heap[b]?=some (.cells cur e (0,0))∧cur.size=o+cap∧n≤cap∧(cur.toList.drop o).take n=olds):
 ∃ v' w' vs,(Builtin.append_ #[t,t] ty #[.slice A n cap,u]).run P w=.ok v' w'∧aG w g ds vs∧
  ((m=0∧v'=.slice A n cap∧w=w')∨
   (∃ b o cur,0<m∧A=some ⟨b,o,none⟩∧w.heap[b]?=some (.cells cur e (0,0))∧n+m≤cap∧v'=.slice (some ⟨b,o,none⟩) (n+m) cap∧w'=w.setRow b (cur.toList.take (o+n)++vs++cur.toList.drop (o+n+m)).toArray)∨
   (∃ C z,v'=.slice (some ⟨w.heap.size,0,none⟩) (n+m) C∧w'=w.drew.alloc (.cells (olds++vs++z).toArray e)∧n+m≤C∧C≤maxLen∧(olds++vs++z).length=C)):=by
 rcases hA with hA|⟨b,o,cur,rfl,hb,hcs,hnc,htk⟩
 ·obtain⟨v',w',vs,h1,h2,h3⟩:=uD (ty:=ty) (A:=A) (olds:=olds) hT hs hte hu (by rw[c0];omega) c2 c3 c4 oO (by rw[c0];omega) (.inl hA)
  refine⟨v',w',vs,h1,h2,?_⟩
  rcases h3 with h3|⟨_,_,hm,_,_,h3,_⟩|⟨C,z,k1,k2,k3,k4,k5⟩
  ·exact .inl h3
  ·omega
  ·exact .inr (.inr ⟨C,z,k1,k2,k3,k4,by rw[k5,c0,Nat.mul_one]⟩)
 have hd:=bV hT hs
 have hrow:=hT e row hte
 obtain⟨i,hinfo,hsz,hby,hz⟩:=hrow.info
 have hzc:row.zeroV.cells=row.zero.toArray:=cP hrow
 obtain⟨A',c,rfl,hrw⟩:=hu
 by_cases hm:m=0
 ·subst hm
  have hds:ds=[]:=List.eq_nil_of_length_eq_zero (by simpa using c1)
  subst hds
  refine⟨_,w,[],?_,by simp only[aG],.inl ⟨rfl,rfl,rfl⟩⟩
  cases A'<;>simp[Builtin.append_,run_underlying hd,Go.sizeOf,typeInfo,hinfo,Builtin.lenOf,Builtin.firstCells,loadCells,loadCellsFrom,hnc,storeCells]
 have hdne:ds≠[]:=by
  rintro rfl
  simp at c1;omega
 obtain⟨b',o',vs,rfl,k1,k2⟩:=hrw hdne
 have hlen:=aK _ _ k1
 have hvl:vs.length=m*i.size:=by rw[hsz,c0];omega
 have hnews:∀ j v,vs[j]?=some v→w.cell? ((⟨b',o',none⟩:Addr).add j)=some v:=by
  intro j v hv
  have hj:j<vs.length:=(List.getElem?_eq_some_iff.1 hv).1
  rw[add_lit,k2 j oO];exact hv
 by_cases hroom:n+m≤cap
 ·have hr:=rP (P:=P) w t ty e i hd hinfo b o n cap cur hb ⟨b',o',none⟩ m c vs hvl hnews (eG _ _ c2 k1) hroom (by rw[hvl,hsz,c0];omega)
  rw[hvl,hsz,c0,Nat.mul_one,Nat.mul_one]at hr
  exact⟨_,_,vs,hr,k1,.inr (.inl ⟨b,o,cur,oO,rfl,hb,hroom,rfl,rfl⟩)⟩
 ·have holds:∀ j v,olds[j]?=some v→w.cell? ((⟨b,o,none⟩:Addr).add j)=some v:=by
   intro j v hv
   rw[add_lit,cell_of_row w _ _ _ _ _ hb,← Array.getElem?_toList]
   rw[← htk,List.getElem?_take]at hv
   split at hv
   ·rw[List.getElem?_drop]at hv;exact hv
   ·cases hv
  have hgrow:(olds++vs++(Builtin.zeroCells row.zeroV.cells (grownCap w (n+m) cap e-(n+m))).toList).length=grownCap w (n+m) cap e:=by
   have hge:=grownCap_ge w (n+m) cap e
   have hzl:(Builtin.zeroCells row.zeroV.cells (grownCap w (n+m) cap e-(n+m))).toList.length=(grownCap w (n+m) cap e-(n+m))*row.size:=by
    rw[Array.length_toList,size_zeroCells,hzc];simp only[List.size_toArray,hrow.zl]
   rw[List.length_append,List.length_append,hzl,hol,hvl,hsz,c0]
   omega
  have hr:=run_append_grow (P:=P) w t ty e i row.zeroV hd hinfo hz ⟨b,o,none⟩ n cap olds (by rw[hsz,c0];omega) holds ⟨b',o',none⟩ m c vs hvl hnews oO (by simp only[maxLen]at c4;omega) (by rw[hby];exact growslice_fits oO c3)
  refine⟨_,_,vs,hr,k1,.inr (.inr ⟨grownCap w (n+m) cap e,(Builtin.zeroCells row.zeroV.cells (grownCap w (n+m) cap e-(n+m))).toList,rfl,?_,grownCap_ge w _ cap e,grownCap_le_maxLen w _ cap e c4,hgrow⟩)⟩
  rw[xD]
theorem aEC{C:Nat}(h:C≤maxLen):C / qM=0∧C % qM=C:=by
 have:C<qM:=by simp only[maxLen,qM]at *;omega
 exact⟨Nat.div_eq_of_lt this,Nat.mod_eq_of_lt this⟩
theorem aLH(o:Nat){C:Nat}(h:C≤maxLen):(o*qM+C) / qM=o∧(o*qM+C) % qM=C:=by
 have:C<qM:=by simp only[maxLen,qM]at *;omega
 have hp:0<qM:=by decide
 rw[Nat.mul_comm o qM]
 exact⟨by rw[Nat.mul_add_div hp,Nat.div_eq_of_lt this,Nat.add_zero],by rw[Nat.mul_add_mod,Nat.mod_eq_of_lt this]⟩
theorem aAn(h:Inv w g st){t e n:Nat}(hH:st.H t=.own e 1 n)(hnl:g.nl t=false):Inv w g (st.set t (.que e n)):=by
 obtain⟨o1,o2,o3,o4⟩:=h.own t e 1 n hH
 obtain⟨cur,p1,p2,p3⟩:=o4 hnl
 obtain⟨q1,q2⟩:=aEC o2
 have hb:∀ x,blk g (st.set t (.que e n)) x↔blk g st x:=by
  intro x
  unfold blk
  simp only[St.set]
  by_cases hx:x=t
  ·subst hx;simp[hH]
  ·rw[if_neg hx]
 have hlt:t<st.next:=by
  rcases Nat.lt_or_ge t st.next with h0|h0
  ·exact h0
  ·rw[h.fresh t h0]at hH;cases hH
 refine⟨h.next,h.pos,?_,fun x hx=>h.lt x ((hb x).1 hx),fun x y hx hy=>h.inj x y ((hb x).1 hx) ((hb y).1 hy),?_,?_,?_,?_,h.aside.keep (Ext.refl w g) (gC rfl)⟩
 ·intro x hx
  simp only[St.set]at hx ⊢
  rw[if_neg oO]
  exact h.fresh x hx
 ·intro x e' s' n' hx
  by_cases e0:x=t
  ·simp[St.set,e0]at hx
  ·simp only[St.set,if_neg e0]at hx
   exact h.own x e' s' n' hx
 ·intro x e' s' cs' hx
  by_cases e0:x=t
  ·simp[St.set,e0]at hx
  ·simp only[St.set,if_neg e0]at hx
   exact h.box x e' s' cs' hx
 ·intro x ag ks es hx
  by_cases e0:x=t
  ·simp[St.set,e0]at hx
  ·simp only[St.set,if_neg e0]at hx
   exact h.mp x ag ks es hx
 ·intro x e' n' hx
  by_cases e0:x=t
  ·simp only[St.set,if_pos e0]at hx
   injection hx with h1 h2
   subst h1 h2 e0
   exact⟨hnl,⟨cur,p1,by rw[q1,q2];simpa using p2⟩,by rw[q1,p3];simp,by rw[q2];exact⟨o1,o2⟩⟩
  ·simp only[St.set,if_neg e0]at hx
   exact h.qu x e' n' hx
theorem aHJ(hT:bC P T)(hi:Inv w g st){t ty e' q o n m:Nat}{row:bG}{cs ds:List LV}{v u:Value}(hs:cL T t=some e')(hte:T e'=some row)(hu':Src w g m ds u)(hH:st.H q=.que e' (o+n))
 (c0:row.size=1) (d0:cs.length=n) (c1:ds.length=m) (c2:ds.all fM=true) (c3:(n+m)*row.bytes≤140737488355328) (c4:n+m≤maxLen) (h:Rep w g (.qu q o n cs) v):
 ∃ v' w' g',(Builtin.append_ #[t,t] ty #[v,u]).run P w=.ok v' w'∧Rep w' g' (.qu st.next 0 (n+m) (cs++ds)) v'∧Inv w' g' ((st.set q .dead).new (.que e' (n+m)))∧Ext w g w' g':=by
 simp only[Rep]at h
 obtain⟨A,cap,rfl,hncap,hcapm,hqn,hoc,hA,hcells⟩:=h
 have hqlt:q<st.next:=by rw[← hi.next];exact hqn
 obtain⟨hnl,⟨cur,p1,p2⟩,p3,p4,p5⟩:=hi.qu q _ _ hH
 generalize hK:g.κ q / qM=O at *
 generalize hC:g.κ q % qM=K at *
 have hphys:∃ olds:List Value,aG w g cs olds∧((n=0∧cap=0)∨∃ b o' cur,A=some ⟨b,o',none⟩∧w.heap[b]?=some (.cells cur e' (0,0))∧cur.size=o'+cap∧n≤cap∧(cur.toList.drop o').take n=olds):=by
  by_cases hc0:cap=0
  ·have hn0:n=0:=oO
   have hcs:cs=[]:=List.eq_nil_of_length_eq_zero oO
   subst hcs
   exact⟨[],by simp only[aG],.inl ⟨hn0,hc0⟩⟩
  ·obtain rfl:=hA hc0
   refine⟨(cur.toList.drop (O+o)).take n,?_,.inr ⟨_,_,cur,rfl,p1,oO,hncap,rfl⟩⟩
   by_cases hcs:cs=[]
   ·have h0:n=0:=by rw[hcs]at d0;simpa using d0.symm
    rw[hcs,h0]
    simp only[List.take_zero,aG]
   ·obtain⟨b,o',hbo,hrr⟩:=hcells hcs
    simp only[Option.some.injEq,Addr.mk.injEq]at hbo
    obtain⟨rfl,rfl,_⟩:=hbo
    obtain⟨vs,k1,k2⟩:=eO _ _ hrr
    have hl:=aK _ _ k1
    have:(cur.toList.drop (O+o)).take n=vs:=by
     apply List.ext_getElem?
     intro j
     rw[List.getElem?_take]
     split
     ·rename_i hj
      have:=k2 j oO
      rw[cell_of_row w _ _ _ _ _ p1]at this
      rw[List.getElem?_drop,Array.getElem?_toList];exact this
     ·rw[List.getElem?_eq_none oO]
    rw[this];exact k1
 obtain⟨olds,ho1,hphys⟩:=hphys
 have hol:olds.length=n:=by rw[← aK _ _ ho1];exact d0
 obtain⟨v',w',vs,hrun,hvs,hout⟩:=aIm (ty:=ty) hT hs hte hu' c0 c1 c2 c3 c4 hol hphys
 have hvl:vs.length=m:=by rw[← aK _ _ hvs];exact c1
 have hcat:=bP _ _ _ _ ho1 hvs
 have hqb:blk g st q:=by unfold blk;rw[hH];exact hnl
 obtain⟨qa,qb⟩:=aLH (O+o) hcapm
 rcases hout with⟨hm0,rfl,rfl⟩|⟨b,o',cur',hpos,rfl,hb,hroom,rfl,rfl⟩|⟨C,z,rfl,rfl,hC',hCm,hl⟩
 ·have hds:ds=[]:=List.eq_nil_of_length_eq_zero oO
  subst hds
  have htk:=kV (o:=.que e' (n+m)) (k':=O+o+(n+m)) (kp:=(O+o)*qM+cap) (arr:=cur) hi sS hqb p1 p3 oO (fun _ _=>rfl)
   (fun w' hx _=>⟨(fun e1 s1 n1 h1=>by cases h1),(fun e1 n1 h1=>by injection h1 with h1 h2;subst h1 h2;rw[qa,qb];exact⟨rfl,oO,rfl,oO,hcapm⟩),fun e1 s1 n1 h1=>by cases h1⟩)
  rw[setRow_self w _ _ _ _ p1]at htk
  refine⟨_,_,_,hrun,?_,htk.1,htk.2⟩
  simp only[Rep]
  refine⟨A,cap,by rw[hm0];rfl,oO,hcapm,by simp[G.add,hi.next],?_,fun h0=>?_,fun hne=>?_⟩
  ·simp only[G.add,hi.next,if_pos,qb,Nat.zero_add]
  ·simp only[G.add,hi.next,if_pos,qa,Nat.add_zero];exact hA h0
  ·rw[List.append_nil]at hne ⊢
   obtain⟨b,o',hAb,hrr⟩:=hcells hne
   exact⟨b,o',hAb,aN.mono htk.2 _ _ _ hrr⟩
 ·have hc0:cap≠0:=oO
  have hbo:=hA hc0
  simp only[Option.some.injEq,Addr.mk.injEq]at hbo
  obtain⟨rfl,rfl,_⟩:=hbo
  have hcc:cur=cur':=by
   rw[p1]at hb
   injection hb with hb
   injection hb
  subst hcc
  have hcl:cur.toList.length=O+o+cap:=by rw[Array.length_toList];omega
  have hlen:(cur.toList.take (O+o+n)++vs++cur.toList.drop (O+o+n+m)).length=O+o+cap:=by
   rw[List.length_append,List.length_append,List.length_take,List.length_drop];omega
  have htk:=kV (o:=.que e' (n+m)) (k':=O+o+(n+m)) (kp:=(O+o)*qM+cap) (arr:=(cur.toList.take (O+o+n)++vs++cur.toList.drop (O+o+n+m)).toArray) hi sS hqb p1 p3 oO
   (fun j hj=>by
     rw[List.getElem?_toArray,List.append_assoc,List.getElem?_append_left (by rw[List.length_take];omega),List.getElem?_take,if_pos oO,Array.getElem?_toList])
   (fun w' hx _=>⟨(fun e1 s1 n1 h1=>by cases h1),(fun e1 n1 h1=>by injection h1 with h1 h2;subst h1 h2;rw[qa,qb];exact⟨rfl,by rw[List.size_toArray,hlen],rfl,hroom,hcapm⟩),fun e1 s1 n1 h1=>by cases h1⟩)
  refine⟨_,_,_,hrun,?_,htk.1,htk.2⟩
  simp only[Rep]
  refine⟨_,cap,rfl,hroom,hcapm,by simp[G.add,hi.next],?_,fun h0=>?_,fun hne=>?_⟩
  ·simp only[G.add,hi.next,if_pos,qb,Nat.zero_add]
  ·simp only[G.add,hi.next,if_pos,qa,Nat.add_zero]
  ·refine⟨_,_,rfl,fW _ (olds++vs) _ (aG.mono htk.2 _ _ hcat) (fun j hj=>?_) (fun j hj=>?_)⟩
   ·have hj':j<n+m:=by rw[List.length_append]at hj;omega
    have htake:(cur.toList.drop (O+o)).take n=olds:=by
     rcases hphys with⟨_,h0⟩|⟨b,o',cur2,h1,h2,_,_,h5⟩
     ·omega
     ·simp only[Option.some.injEq,Addr.mk.injEq]at h1
      obtain⟨rfl,rfl,_⟩:=h1
      rw[p1]at h2
      injection h2 with h2
      injection h2 with h2
      rw[h2];exact h5
    rw[cell_of_row _ _ _ _ _ _ (setRow_heap w _ _ _ _ _ p1),List.getElem?_toArray,List.append_assoc]
    by_cases hjn:j<n
    ·rw[List.getElem?_append_left (by rw[List.length_take];omega),List.getElem?_take,if_pos oO,List.getElem?_append_left oO,← htake,List.getElem?_take,if_pos hjn,List.getElem?_drop]
    ·rw[List.getElem?_append_right (by rw[List.length_take];omega),List.length_take,Nat.min_eq_left oO,List.getElem?_append_left oO,List.getElem?_append_right oO]
     congr 1
     omega
   ·intro k hk
    simp[G.add]at hk
    rw[List.length_append]at hj
    omega
 ·obtain⟨r1,r2⟩:=aEC hCm
  have hlt:w.heap.size≤w.drew.heap.size:=Nat.le_refl _
  have hi1:=hi.drop q hqlt
  have hdz:w.drew.heap.size=w.heap.size:=rfl
  have hinv:=aAW hi1.drew e' 1 (n+m) C (olds++vs++z).toArray (by simpa using hl) hC' hCm
  have hext:=(cT w g).trans (cV w.drew g (.cells (olds++vs++z).toArray e') ((n+m)*1) C false)
  rw[hdz]at hinv hext
  have hq2:=aAn hinv (t:=st.next) (e:=e') (n:=n+m) (by simp[St.new,St.set]) (by simp[G.add,hi.next])
  have hst:((st.set q .dead).new (.own e' 1 (n+m))).set st.next (.que e' (n+m))=(st.set q .dead).new (.que e' (n+m)):=by
   unfold St.set St.new
   congr 1
   funext x
   by_cases hx:x=st.next
   ·simp[hx]
   ·simp[hx]
  rw[hst]at hq2
  refine⟨_,_,_,hrun,?_,hq2,hext⟩
  simp only[Rep]
  refine⟨_,C,rfl,hC',hCm,by simp[G.add,hi.next],by simp[G.add,hi.next,r2],fun _=>by simp[G.add,hi.next,r1],fun _=>⟨w.heap.size,0,rfl,fW _ (olds++vs) 0 (aG.mono hext _ _ hcat) (fun j hj=>?_) (fun j hj=>?_)⟩⟩
  ·rw[List.length_append]at hj
   rw[cell_of_row _ w.heap.size _ _ _ _ (heap_alloc_new w.drew _),Nat.zero_add,List.getElem?_toArray,List.getElem?_append_left (by rw[List.length_append];omega)]
  ·intro k hk
   rw[List.length_append]at hj
   simp[G.add]at hk
   omega
theorem vF(hT:bC P T)(hi:Inv w g st){md:Bool}{t ty e m:Nat}{u:Value}{ds:List LV}{row:bG}{r:bL}(A:Option Addr)(hs:cL T t=some e)(hte:T e=some row)(hu':Src w g m ds u)
 (he:(if md then some ⟨ds.length=m*row.size∧ds.all fM=true∧m*row.bytes≤140737488355328∧m≤maxLen∧0<row.size,.ms st.next 0 m,st.new (.box e row.size ds)⟩
   else some ⟨ds.length=m*row.size∧ds.all fM=true∧m*row.bytes≤140737488355328∧m≤maxLen∧0<row.size,.sl st.next m ds,st.new (.own e row.size m)⟩:Option bL)=some r) (hc:r.c):
 ∃ v' w' g',(Builtin.append_ #[t,t] ty #[.slice A 0 0,u]).run P w=.ok v' w'∧Rep w' g' r.v v'∧Inv w' g' r.s∧Ext w g w' g':=by
 have hcc:ds.length=m*row.size∧ds.all fM=true∧m*row.bytes≤140737488355328∧m≤maxLen∧0<row.size:=by
  split at he<;>(simp only[Option.some.injEq]at he;subst he;exact hc)
 obtain⟨c1,c2,c3,c4,c5⟩:=hcc
 obtain⟨v',w',vs,hrun,hvs,hout⟩:=uD (ty:=ty) (n:=0) (cap:=0) (A:=A) (olds:=[]) hT hs hte hu' c1 c2 (by simpa using c3) (by simpa using c4) c5 sS (.inl ⟨rfl,rfl⟩)
 rcases hout with⟨rfl,rfl,rfl⟩|⟨b,cur,hpos,_,_,h0,_⟩|⟨C,z,rfl,rfl,hC,hCm,hl⟩
 ·have hds:ds=[]:=List.eq_nil_of_length_eq_zero (by simpa using c1)
  subst hds
  split at he
  ·simp only[Option.some.injEq]at he
   subst he
   refine⟨_,_,g.addNil,hrun,?_,gD hi _ (.inr ⟨_,_,rfl⟩),ext_nil _ g⟩
   simp only[Rep]
   exact⟨_,_,rfl,Nat.le_refl _,Nat.zero_le _,by simp[G.addNil,hi.next],sS,by simp[G.addNil,hi.next]⟩
  ·simp only[Option.some.injEq]at he
   subst he
   refine⟨_,_,g.addNil,hrun,?_,gD hi _ (.inl ⟨_,_,rfl⟩),ext_nil _ g⟩
   simp only[Rep]
   exact⟨_,_,rfl,Nat.le_refl _,⟨Nat.zero_le _,fun _=>rfl⟩,by simp[G.addNil,hi.next],sS⟩
 ·omega
 ·simp only[Nat.zero_add,List.nil_append]at hrun hC hl
  split at he
  ·simp only[Option.some.injEq]at he
   subst he
   have:=uE (e:=e) hi hvs hC hCm hl
   exact⟨_,_,_,hrun,this⟩
  ·simp only[Option.some.injEq]at he
   subst he
   have:=aGj (e:=e) hi hvs c1 hC hCm hl
   exact⟨_,_,_,hrun,this⟩
theorem aLr{l n c:Nat}{v:Value}(h:Rep w g (.kap l n c) v):Rep w g (.ms l 0 n) v:=by
 simp only[Rep]at h ⊢
 obtain⟨A,rfl,h1,h2,h3,h4,h5,h6⟩:=h
 refine⟨A,c,rfl,h1,h2,fun _=>⟨h3.symm,h5⟩,fun hn=>?_,h4⟩
 cases hnl:g.nl l with
 |false=>exact h5 hnl
 |true=>have:=h6 hnl;omega
theorem aBc(hT:bC P T)(hi:Inv w g st){md:Bool}{t ty:TypeId}{s x:LV}{v u:Value}{r:bL}(he:uV T md t s x st=some r)(hc:r.c)(h:Rep w g s v)(hu:Rep w g x u):
 ∃ v' w' g',(Builtin.append_ #[t,t] ty #[v,u]).run P w=.ok v' w'∧Rep w' g' r.v v'∧Inv w' g' r.s∧Ext w g w' g':=by
 unfold uV at he
 split at he
 ·rename_i e m ds hs hx
  split at he
  ·rename_i row hte
   have hu':=mX hi hx hu
   split at he
   ·simp only[Rep]at h
    subst h
    exact vF hT hi none hs hte hu' he hc
   ·simp only[Rep]at h
    obtain⟨A,rfl⟩:=h
    exact vF hT hi A hs hte hu' he hc
   ·rename_i q n cs
    cases hH:st.H q with
    |own e' s' n'=>
     simp only[hH,Option.some.injEq]at he
     subst he
     obtain⟨rfl,rfl,rfl,d0,hq0,c1,c2,c3,c4,c5⟩:=hc
     simp only[Rep]at h
     obtain⟨A,cap,rfl,hncap,hcapm,htok,hcells⟩:=h
     obtain⟨hA,rfl,hqn⟩:=htok hq0
     have hqlt:q<st.next:=by rw[← hi.next];exact hqn
     obtain⟨o1,o2,o3,o4⟩:=hi.own q _ _ _ hH
     have hphys:∃ olds:List Value,aG w g cs olds∧((n'=0∧g.κ q=0)∨∃ b cur,A=some ⟨b,0,none⟩∧w.heap[b]?=some (.cells cur e' (0,0))∧cur.size=g.κ q*row.size∧n'≤g.κ q∧cur.toList.take (n' * row.size)=olds):=by
      cases hnl:g.nl q with
      |true=>
       have hk0:=o3 hnl
       have hn0:n'=0:=oO
       subst hn0
       have hcs:cs=[]:=List.eq_nil_of_length_eq_zero (by simpa using d0)
       subst hcs
       exact⟨[],by simp only[aG],.inl ⟨rfl,hk0⟩⟩
      |false=>
       obtain⟨cur,p1,p2,p3⟩:=o4 hnl
       obtain rfl:=hA hnl
       refine⟨cur.toList.take (n' * row.size),?_,.inr ⟨_,cur,rfl,p1,p2,o1,rfl⟩⟩
       by_cases hcs:cs=[]
       ·subst hcs
        have h0:n' * row.size=0:=by simpa using d0.symm
        rw[h0]
        simp only[List.take_zero,aG]
       ·obtain⟨b,o,hbo,hrr⟩:=hcells hcs
        simp only[Option.some.injEq,Addr.mk.injEq]at hbo
        obtain⟨rfl,rfl,_⟩:=hbo
        obtain⟨vs,k1,k2⟩:=eO _ _ hrr
        have hl:=aK _ _ k1
        have:cur.toList.take (n' * row.size)=vs:=by
         apply List.ext_getElem?
         intro j
         by_cases hj:j<cs.length
         ·have:=k2 j hj
          rw[Nat.zero_add,cell_of_row w _ _ _ _ _ p1]at this
          rw[List.getElem?_take,if_pos oO,Array.getElem?_toList]
          exact this
         ·rw[List.getElem?_take,if_neg oO,List.getElem?_eq_none oO]
        rw[this];exact k1
     obtain⟨olds,ho1,hphys⟩:=hphys
     have hol:olds.length=n' * row.size:=by rw[← aK _ _ ho1];exact d0
     obtain⟨v',w',vs,hrun,hvs,hout⟩:=uD (ty:=ty) hT hs hte hu' c1 c2 c3 c4 c5 hol hphys
     have hvl:vs.length=m*row.size:=by rw[← aK _ _ hvs];exact c1
     have hcat:=bP _ _ _ _ ho1 hvs
     have hNl:(cs++ds).length=(n'+m)*row.size:=by rw[List.length_append,d0,c1,Nat.add_mul]
     rcases hout with⟨rfl,rfl,rfl⟩|⟨b,cur,hpos,rfl,hb,hroom,rfl,rfl⟩|⟨C,z,rfl,rfl,hC,hCm,hl⟩
     ·have hds:ds=[]:=List.eq_nil_of_length_eq_zero (by simpa using c1)
      subst hds
      cases hnl:g.nl q with
      |true=>
       have hk0:=o3 hnl
       have hn0:n'=0:=oO
       subst hn0
       have hcs:cs=[]:=List.eq_nil_of_length_eq_zero (by simpa using d0)
       subst hcs
       refine⟨_,_,g.addNil,hrun,?_,gD (hi.drop q hqlt) _ (.inl ⟨_,_,rfl⟩),ext_nil _ g⟩
       simp only[Rep]
       exact⟨_,_,rfl,o1,⟨o2,fun _=>hk0⟩,by simp[G.addNil,hi.next,hk0],sS⟩
      |false=>
       obtain⟨cur,p1,p2,p3⟩:=o4 hnl
       obtain rfl:=hA hnl
       have htk:=jD (o:=.own e' row.size n') (k':=n' * row.size) (arr:=cur) hi sS (by unfold blk;rw[hH];exact hnl) p1 p3 (Nat.le_refl _) (fun _ _=>rfl)
        (fun w' _ _=>⟨fun e1 s1 n1 h1=>by injection h1 with h1 h2 h3;subst h1 h2 h3;exact⟨o1,o2,rfl,p2,rfl⟩,fun e1 s1 n1 h1=>by cases h1⟩)
       rw[setRow_self w _ _ _ _ p1]at htk
       refine⟨_,_,_,hrun,?_,htk.1,htk.2⟩
       have hrep:Rep w g (.sl q n' cs) (.slice (some ⟨g.β q,0,none⟩) n' (g.κ q)):=by
        simp only[Rep];exact⟨_,_,rfl,o1,⟨o2,sS⟩,fun _=>⟨fun _=>rfl,rfl,hqn⟩,hcells⟩
       have hrep':=Rep.mono htk.2 _ _ hrep
       simp only[Rep]at hrep' ⊢
       obtain⟨A2,cap2,h1,h2,h3,_,h5⟩:=hrep'
       refine⟨A2,cap2,h1,h2,h3,fun _=>?_,by simpa using h5⟩
       injection h1 with h1 _ h1'
       subst h1 h1'
       simp[G.add,hi.next]
     ·have hnl:g.nl q=false:=by
       cases hnl:g.nl q with
       |false=>rfl
       |true=>
        have hk0:=o3 hnl
        omega
      obtain⟨cur',p1,p2,p3⟩:=o4 hnl
      have hbq:=hA hnl
      simp only[Option.some.injEq,Addr.mk.injEq]at hbq
      obtain⟨rfl,_⟩:=hbq
      have hcc:cur'=cur:=by
       rw[p1]at hb
       injection hb with hb
       injection hb
      subst hcc
      have htko:cur'.toList.take (n' * row.size)=olds:=by
       rcases hphys with⟨h0,_⟩|⟨b2,cur2,h1,h2,_,_,h3⟩
       ·subst h0
        have:olds=[]:=List.eq_nil_of_length_eq_zero (by simpa using hol)
        subst this;simp
       ·simp only[Option.some.injEq,Addr.mk.injEq]at h1
        obtain⟨rfl,_⟩:=h1
        rw[p1]at h2
        injection h2 with h2
        injection h2 with h2
        subst h2
        exact h3
      have hsz:(n'+m)*row.size≤cur'.size:=by rw[p2];exact Nat.mul_le_mul_right _ hroom
      have hmul:=Nat.add_mul n' m row.size
      have harr:(olds++vs++cur'.toList.drop ((n'+m)*row.size)).toArray.size=g.κ q*row.size:=by
       rw[← p2]
       simp only[List.size_toArray,List.length_append,List.length_drop,Array.length_toList]
       omega
      have htk:=jD (o:=.own e' row.size (n'+m)) (k':=(n'+m)*row.size) (arr:=(olds++vs++cur'.toList.drop ((n'+m)*row.size)).toArray) hi sS (by unfold blk;rw[hH];exact hnl) p1 p3 oO
       (fun j hj=>by
         rw[List.append_assoc,List.getElem?_toArray,List.getElem?_append_left oO,← htko,List.getElem?_take,if_pos hj,Array.getElem?_toList])
       (fun w' _ _=>⟨fun e1 s1 n1 h1=>by injection h1 with h1 h2 h3;subst h1 h2 h3;exact⟨hroom,o2,rfl,harr,rfl⟩,fun e1 s1 n1 h1=>by cases h1⟩)
      refine⟨_,_,_,hrun,?_,htk.1,htk.2⟩
      simp only[Rep]
      refine⟨_,_,rfl,hroom,⟨o2,sS⟩,fun _=>by simp[G.add,hi.next],fun hne=>⟨g.β q,0,rfl,fW _ (olds++vs) 0 (aG.mono htk.2 _ _ hcat) (fun j hj=>?_) (fun j hj=>?_)⟩⟩
      ·rw[cell_of_row _ _ _ _ _ _ (setRow_heap w _ _ _ _ _ p1),Nat.zero_add,List.getElem?_toArray,List.getElem?_append_left (by simp only[List.length_append]at hj ⊢;omega)]
      ·intro k hk
       simp[G.add]at hk
       omega
     ·have:=aGj (e:=e') (hi.drop q hqlt) hcat hNl hC hCm hl
      exact⟨_,_,_,hrun,this⟩
    |_=>simp[hH]at he
   ·rename_i l n cap
    cases hH:st.H l with
    |box e' s' cs=>
     simp only[hH,Option.some.injEq]at he
     subst he
     obtain⟨rfl,rfl,d0,c1,c2,c3,c4,c5⟩:=hc
     have hi1:=oF hi (n*row.size) hH
     have hset:(st.set l (.box e' row.size (cs.take (n*row.size)))).set l .dead=st.set l .dead:=by
      unfold St.set
      congr 1
      funext x
      by_cases hx:x=l<;>simp[hx]
     have:=aAC (ty:=ty) hT hi1 (l:=l) (n:=n) (cs:=cs.take (n*row.size)) hs hte hu' (by simp[St.set]) (by rw[List.length_take];omega) c1 c2 c3 c4 c5 (aLr h)
     rw[hset]at this
     exact this
    |_=>simp[hH]at he
   ·rename_i l o n
    cases hH:st.H l with
    |box e' s' cs=>
     simp only[hH,Option.some.injEq]at he
     subst he
     obtain⟨rfl,rfl,rfl,d0,c1,c2,c3,c4,c5⟩:=hc
     have hi1:=oF hi (n*row.size) hH
     have hset:(st.set l (.box e' row.size (cs.take (n*row.size)))).set l .dead=st.set l .dead:=by
      unfold St.set
      congr 1
      funext x
      by_cases hx:x=l<;>simp[hx]
     have:=aAC (ty:=ty) hT hi1 (l:=l) (n:=n) (cs:=cs.take (n*row.size)) hs hte hu' (by simp[St.set]) (by rw[List.length_take];omega) c1 c2 c3 c4 c5 h
     rw[hset]at this
     exact this
    |_=>simp[hH]at he
   ·rename_i q o n cs
    cases hH:st.H q with
    |que e' n'=>
     simp only[hH,Option.some.injEq]at he
     subst he
     obtain⟨rfl,c0,rfl,d0,c1,c2,c3,c4⟩:=hc
     exact aHJ (ty:=ty) hT hi hs hte hu' hH c0 d0 c1 c2 c3 c4 h
    |_=>simp[hH]at he
   ·simp at he
  ·simp at he
 ·simp at he
theorem aJz(hi:Inv w g st){t t' ty e' l' n cap:Nat}{k k':IntKind}{z:Int}{row:bG}{A:Option Addr}{cs:List LV}(hd:P.underlying t=some (.slice e'))(hdk:P.underlying t'=some (.int k))(hrow:aX P e' row)(hH:st.H l'=.box e' row.size cs)
 (hnc:n≤cap) (hA:n≠0→A=some ⟨g.β l',0,none⟩) (c1:n*row.size≤cs.length) (c2:0<z) (c3:(cap:Int)<n+z) (c4:((n:Int)+z)*row.bytes≤140737488355328) (c5:(n:Int)+z≤9223372036854775807) (c6:0<row.size):
 ∃ v' w' g',(Builtin.append_ #[t,t'] ty #[.slice A n cap,.int k' z]).run P w=.ok v' w'∧Rep w' g' (.ms st.next 0 (n+z.toNat)) v'∧Inv w' g' (st.new (.box e' row.size (cs.take (n*row.size)++cZ (row.zero.map bW) z.toNat)))∧Ext w g w' g':=by
 obtain⟨q1,q2,q3⟩:=hi.box l' e' row.size cs hH
 obtain⟨i,hinfo,hsz,hby,hz⟩:=hrow.info
 have hzc:row.zeroV.cells=row.zero.toArray:=cP hrow
 obtain⟨m,rfl⟩:=Int.eq_ofNat_of_zero_le (show 0≤z by omega)
 simp only[Int.toNat_natCast]
 have hmp:0<m:=oO
 have hmb:(n+m)*row.bytes≤140737488355328:=by
  have:(((n+m)*row.bytes:Nat):Int)≤140737488355328:=by rw[Int.natCast_mul,Int.natCast_add];exact c4
  omega
 have hmb2:m*row.bytes≤140737488355328:=Nat.le_trans (Nat.mul_le_mul_right _ oO) hmb
 have hwr:IntKind.i64.wrap (m:Int)=m:=by
  simp only[IntKind.wrap,IntKind.signed,IntKind.bits]
  simp
  split<;>omega
 have hml:n+m≤maxLen:=by simp only[maxLen];omega
 obtain⟨C,hC⟩:∃ C,C=grownCap w (n+m) cap e':=⟨_,rfl⟩
 have hge:n+m≤C:=hC ▸ grownCap_ge w (n+m) cap e'
 have hle:C≤maxLen:=hC ▸ grownCap_le_maxLen w (n+m) cap e' hml
 have hzl:∀ k,(Builtin.zeroCells row.zeroV.cells k).toList=bA row.zero k:=by
  intro k
  rw[dN _ (by rw[hrow.zl];omega),hzc]
  simp only[Builtin.zeroCells,← List.toArray_range,List.map_toArray,List.size_toArray]
 have hzlen:∀ k,(bA row.zero k).length=k*row.size:=by
  intro k
  rw[dN _ (by rw[hrow.zl];omega)];simp[hrow.zl]
 have hcat:∀ a b,bA row.zero a++bA row.zero b=bA row.zero (a+b):=by
  intro a b
  induction a with
  |zero=>simp[bA]
  |succ a ih=>rw[Nat.succ_add,bA,bA,List.append_assoc,ih]
 have holds:∃ olds:List Value,aG w g (cs.take (n*row.size)) olds∧(Builtin.firstCells i.size n (.slice A n cap)).run P w.drew=.ok olds.toArray w.drew:=by
  by_cases hn0:n=0
  ·subst hn0
   refine⟨[],by simp only[Nat.zero_mul,List.take_zero,aG],?_⟩
   cases A<;>simp[Builtin.firstCells,loadCells,loadCellsFrom]
  ·obtain rfl:=hA hn0
   have hpos:0<n*row.size:=Nat.mul_pos oO c6
   have hnl:g.nl l'=false:=by
    cases hnl:g.nl l' with
    |false=>rfl
    |true=>
     obtain⟨_,rfl⟩:=q2 hnl
     simp at c1
     omega
   obtain⟨cur,k1,k2,k3,k4,k5⟩:=q3 hnl
   have hr0:=dB (n*row.size) _ _ k4
   rw[List.take_take,Nat.min_eq_left c1]at hr0
   refine⟨_,hr0,?_⟩
   have hfull:aG w g cs (cur.take cs.length):=k4
   have hload:=iU (P:=P) (w:=w.drew) (b:=g.β l') (o:=0) (aG.mono (cT w g) _ _ hfull) (fun j hj=>by
    rw[Nat.zero_add]
    show w.cell? _=_
    rw[cell_of_row w _ _ _ _ _ k1]
    simp[hj]) (n*row.size) oO
   rw[List.take_take,Nat.min_eq_left c1]at hload
   simp only[Builtin.firstCells,hsz]
   exact hload
 obtain⟨olds,ho1,ho2⟩:=holds
 have hol:olds.length=n*row.size:=by rw[← aK _ _ ho1,List.length_take];omega
 have hrun:(Builtin.append_ #[t,t'] ty #[.slice A n cap,.int k' (m:Int)]).run P w=.ok (.slice (some ⟨w.heap.size,0,none⟩) (n+m) C) (w.drew.alloc (.cells (olds++bA row.zero m++bA row.zero (C-(n+m))).toArray e')):=by
  have e1:(olds++bA row.zero m++bA row.zero (C-(n+m))).toArray=olds.toArray++Builtin.zeroCells row.zeroV.cells m++Builtin.zeroCells row.zeroV.cells (C-(n+m)):=by
   apply Array.ext'
   rw[Array.toList_append,Array.toList_append,hzl,hzl]
  have h63:¬(9223372036854775807<((n:Int)+(m:Int))):=oO
  have hms:m*i.size≠0:=by rw[hsz];exact Nat.mul_ne_zero oO oO
  have h48:¬(281474976710656<(m:Int)*(i.bytes:Int)):=by
   rw[hby];have:((m*row.bytes:Nat):Int)≤140737488355328:=oO
   rw[Int.natCast_mul]at this;omega
  have hgf:=growslice_fits (need:=n+m) (old:=cap) (bytes:=i.bytes) oO (by rw[hby];exact hmb)
  have hnx:¬(281474976710656<Builtin.nextslicecap (n+m) cap*i.bytes):=oO
  have hneg:¬((m:Int)<0):=oO
  have hmn:m≠0:=oO
  have hfit:¬(n+m≤cap):=oO
  have hask:∀(b:Nat) (w:World),(askRoom b).run P w=.ok () w:=by
   intro b w;unfold askRoom;split<;>simp[mark,Sem.run]
  rw[e1]
  simp[Builtin.append_,run_underlying hd,run_underlying hdk,Go.sizeOf,typeInfo,hinfo,asInt,asIntOf,hwr,h48,hmn,hnx,hms,hz,Go.zeroValue,newRow,hask,choose,Sem.run,hfit]
  rw[if_neg hneg,if_neg h63]
  have hforced:(Question.appendCap (n+m) cap e').forced=false:=rfl
  simp only[hforced,Bool.false_eq_true,if_false,ho2,Result.andThen_ok]
  simp[grownCap,hC]
 have hzr:aG w g (cZ (row.zero.map bW) m) (bA row.zero m):=by rw[gZ];exact cF w g _
 have:=uE (e:=e') (s:=row.size) (z:=bA row.zero (C-(n+m))) hi (bP _ _ _ _ ho1 hzr) hge hle (by
  simp only[List.length_append,hol,hzlen];rw[← Nat.add_mul,← Nat.add_mul];congr 1;omega)
 exact⟨_,_,_,hrun,this⟩
theorem yX(hT:bC P T)(hi:Inv w g st){t t' ty:TypeId}{s x:LV}{v u:Value}{r:bL}(he:uS T t t' s x st=some r)(hc:r.c)(h:Rep w g s v)(hu:Rep w g x u):
 ∃ v' w' g',(Builtin.append_ #[t,t'] ty #[v,u]).run P w=.ok v' w'∧Rep w' g' r.v v'∧Inv w' g' r.s∧Ext w g w' g':=by
 unfold uS at he
 split at he
 ·rename_i e k hs hk
  split at he
  ·rename_i row hte
   split at he
   ·rename_i k' n
    simp only[Option.some.injEq]at he
    subst he
    obtain⟨c1,c2,c3,c4⟩:=hc
    simp only[Rep]at h hu
    obtain⟨A,rfl⟩:∃ A,v=.slice A 0 0:=⟨none,h⟩
    subst hu
    have hd:=bV hT hs
    have hdk:=uL hT hk
    have hrow:=hT e row hte
    obtain⟨i,hinfo,hsz,hby,hz⟩:=hrow.info
    have hzc:row.zeroV.cells=row.zero.toArray:=cP hrow
    obtain⟨m,rfl⟩:=Int.eq_ofNat_of_zero_le (show 0≤n by omega)
    have hm0:0<m:=oO
    have hmb:m*row.bytes≤140737488355328:=by
     have:((m*row.bytes:Nat):Int)≤140737488355328:=by rw[Int.natCast_mul];exact c2
     omega
    have hwr:IntKind.i64.wrap (m:Int)=m:=by
     simp only[IntKind.wrap,IntKind.signed,IntKind.bits]
     simp
     split<;>omega
    have hml:m≤maxLen:=by simp only[maxLen];omega
    have hge:=grownCap_ge w m 0 e
    have hle:=grownCap_le_maxLen w m 0 e hml
    have hZ:(bA row.zero (grownCap w m 0 e)).length=grownCap w m 0 e*row.size:=by
     rw[dN _ (by rw[hrow.zl];omega)];simp[hrow.zl]
    have hzl:∀ k,(Builtin.zeroCells row.zeroV.cells k).toList=bA row.zero k:=by
     intro k
     rw[dN _ (by rw[hrow.zl];omega),hzc]
     simp only[Builtin.zeroCells,← List.toArray_range,List.map_toArray,List.size_toArray]
    have hcat:∀ a b,bA row.zero a++bA row.zero b=bA row.zero (a+b):=by
     intro a b
     induction a with
     |zero=>simp[bA]
     |succ a ih=>rw[Nat.succ_add,bA,bA,List.append_assoc,ih]
    have hrun:(Builtin.append_ #[t,t'] ty #[.slice A 0 0,.int k' (m:Int)]).run P w=.ok (.slice (some ⟨w.heap.size,0,none⟩) m (grownCap w m 0 e)) (w.drew.alloc (.cells (bA row.zero (grownCap w m 0 e)).toArray e)):=by
     have e1:(bA row.zero (grownCap w m 0 e)).toArray=Builtin.zeroCells row.zeroV.cells m++Builtin.zeroCells row.zeroV.cells (grownCap w m 0 e-m):=by
      apply Array.ext'
      rw[Array.toList_append,hzl,hzl,hcat,show m+(grownCap w m 0 e-m)=grownCap w m 0 e by omega]
     have hmn:m≠0:=oO
     have h63:¬(9223372036854775807<(m:Int)):=oO
     have hms:m*i.size≠0:=by rw[hsz];exact Nat.mul_ne_zero oO oO
     have h48:¬(281474976710656<(m:Int)*(i.bytes:Int)):=by
      rw[hby];have:((m*row.bytes:Nat):Int)≤140737488355328:=oO
      rw[Int.natCast_mul]at this;omega
     have hnx:¬(281474976710656<Builtin.nextslicecap m 0*i.bytes):=by rw[nextslicecap_zero hm0,hby];omega
     have hneg:¬((m:Int)<0):=oO
     have hb47:¬(m:Int)<0:=hneg
     have hfc:∀ A,(Builtin.firstCells i.size 0 (.slice A 0 0)).run P w.drew=.ok #[] w.drew:=by
      intro A
      cases A<;>simp[Builtin.firstCells,loadCells,loadCellsFrom]
     have hask:∀(b:Nat) (w:World),(askRoom b).run P w=.ok () w:=by
      intro b w;unfold askRoom;split<;>simp[mark,Sem.run]
     rw[e1]
     simp[Builtin.append_,run_underlying hd,run_underlying hdk,Go.sizeOf,typeInfo,hinfo,asInt,asIntOf,hwr,h48,hmn,hnx,hms,hz,Go.zeroValue,newRow,hask,choose,Sem.run]
     rw[if_neg hneg,if_neg h63]
     have hforced:(Question.appendCap m 0 e).forced=false:=rfl
     simp only[hforced,Bool.false_eq_true,if_false,hfc,Result.andThen_ok]
     simp[grownCap]
    have hzr:aG w g (cZ (row.zero.map bW) m) (bA row.zero m):=by rw[gZ];exact cF w g _
    have hsplit:bA row.zero (grownCap w m 0 e)=bA row.zero m++bA row.zero (grownCap w m 0 e-m):=by rw[hcat];congr 1;omega
    rw[hsplit]at hrun hZ
    have:=uE (e:=e) hi hzr hge hle hZ
    simp only[Int.toNat_natCast]
    exact⟨_,_,_,hrun,this⟩
   ·rename_i l n cap k' z
    split at he
    ·rename_i e' s' cs hH
     simp only[Option.some.injEq]at he
     subst he
     obtain⟨rfl,rfl,c1,c2,c3,c4,c5,c6⟩:=hc
     simp only[Rep]at h hu
     obtain rfl:=hu
     obtain⟨A,rfl,hnc,hcm,hk1,hln,hA1,hnl0⟩:=h
     refine aJz hi (bV hT hs) (uL hT hk) (hT e' row hte) hH hnc (fun hn=>?_) c1 c2 c3 c4 c5 c6
     cases hnl:g.nl l with
     |false=>exact hA1 hnl
     |true=>have:=hnl0 hnl;omega
    ·simp at he
   ·simp at he
  ·simp at he
 ·simp at he
theorem xC{z:List Value}(h:∀ v∈z,v.oneCell'=true):∀ n,∀ v∈bA z n,v.oneCell'=true
 |0,v,hv=>by simp[bA]at hv
 |n+1,v,hv=>by
  rw[bA,List.mem_append]at hv
  rcases hv with hv|hv
  ·exact h v hv
  ·exact xC h n v hv
theorem aCu(hT:bC P T)(hi:Inv w g st){t ty:TypeId}{x:LV}{v:Value}{r:bL}(he:aAV T t x st=some r)(hc:r.c)(h:Rep w g x v):
 ∃ w',(Builtin.clear_ #[t] ty #[v]).run P w=.ok (.tuple #[]) w'∧r.v=.tu []∧Inv w' g r.s∧Ext w g w' g:=by
 unfold aAV at he
 split at he
 ·rename_i e l o n hs
  split at he
  ·rename_i row e' s cs hte hH
   simp only[Option.some.injEq]at he
   subst he
   have hc':o+n*row.size≤cs.length:=hc.1
   have hd:=bV hT hs
   have hrow:=hT e row hte
   simp only[Rep]at h
   obtain⟨A,cap,rfl,hnc,hcm,hA0,hA,hln⟩:=h
   have hzl:(bA row.zero n).length=n*row.size:=by
    clear hA hnc hc hc' hA0
    induction n with
    |zero=>simp[bA]
    |succ n ih=>rw[bA,List.length_append,ih,hrow.zl,Nat.succ_mul];omega
   obtain⟨q1,q2,q3⟩:=hi.box l e' s cs hH
   by_cases hn:n=0
   ·subst hn
    refine⟨w,?_,rfl,?_,Ext.refl w g⟩
    ·cases A<;>simp[Builtin.clear_,run_underlying hd]
    ·have:st.set l (.box e' s (cs.take o++cZ (row.zero.map bW) 0++cs.drop (o+0*row.size)))=st:=by
      cases st with
      |mk nx H=>
       simp only[St.set,cZ,List.append_nil,Nat.zero_mul,Nat.add_zero,List.take_append_drop]
       congr 1
       funext x
       by_cases hx:x=l
       ·rw[if_pos hx,hx];exact hH.symm
       ·rw[if_neg hx]
     simp only[this];exact hi
   ·obtain rfl:=hA hn
    have hnl:g.nl l=false:=by
     cases hnl:g.nl l with
     |false=>rfl
     |true=>
      obtain⟨_,rfl⟩:=q2 hnl
      have:0<n*row.size:=Nat.mul_pos oO hc.2
      simp at hc';omega
    have hzr:aG w g (cZ (row.zero.map bW) n) (bA row.zero n):=by rw[gZ];exact cF w g _
    have hzlen:(cZ (row.zero.map bW) n).length=n*row.size:=by rw[aK _ _ hzr,hzl]
    obtain⟨w',hst,hfin⟩:=oE (P:=P) hi hH hnl (ds:=cZ (row.zero.map bW) n) (by rw[hzlen];exact hc') hzr (xC (by simpa using hrow.zone) n)
    rw[hzlen]at hfin
    refine⟨w',?_,rfl,hfin.1,hfin.2⟩
    have hzz:(Builtin.zeroCells row.zeroV.cells n).toList=bA row.zero n:=by
     rw[dN _ (by rw[hrow.zl];exact hc.2),cP hrow]
     simp only[Builtin.zeroCells,← List.toArray_range,List.map_toArray,List.size_toArray]
    obtain⟨n',rfl⟩:∃ n',n=n'+1:=⟨n-1,oO⟩
    simp[Builtin.clear_,run_underlying hd,hrow.zeroValue,hzz,hst]
  ·simp at he
 ·simp at he
theorem aCi{st:St}{l:Nat}{o:cA}(h:st.H l=o):st.set l o=st:=by
 cases st with
 |mk nx H=>
  simp only[St.set]
  congr 1
  funext x
  by_cases hx:x=l
  ·rw[if_pos hx,hx];exact h.symm
  ·rw[if_neg hx]
theorem aFi(hT:bC P T)(hi:Inv w g st){t t' ty:TypeId}{x y:LV}{v u:Value}{r:bL}(he:aFp T t t' x y st=some r)(hc:r.c)(h:Rep w g x v)(hu:Rep w g y u):
 ∃ v' w',(Builtin.copy_ #[t,t'] ty #[v,u]).run P w=.ok v' w'∧Rep w' g r.v v'∧Inv w' g r.s∧Ext w g w' g:=by
 unfold aFp at he
 split at he
 ·rename_i e m ds hs hx
  split at he
  ·rename_i row l o n hte
   cases hH:st.H l with
   |box e' s cs=>
    simp only[hH,Option.some.injEq]at he
    subst he
    obtain⟨rfl,c1,c2,c3,c4⟩:=hc
    have hd:=bV hT hs
    have hrow:=hT e row hte
    obtain⟨A',c,rfl,hrw⟩:=mX hi hx hu
    simp only[Rep]at h
    obtain⟨A,cap,rfl,hnc,hcm,hA0,hA,hln⟩:=h
    obtain⟨k,hk⟩:∃ k,k=min n m:=⟨_,rfl⟩
    have hkm:Nat.min m n=k:=by rw[hk];exact Nat.min_comm m n
    simp only[← hk]at c3 ⊢
    obtain⟨q1,q2,q3⟩:=hi.box l e' s cs hH
    by_cases h0:k=0
    ·subst h0
     refine⟨.int .i64 0,w,?_,by simp only[Rep];rfl,?_,Ext.refl w g⟩
     ·cases A<;>cases A'<;>simp[Builtin.copy_,run_underlying hd,Builtin.lenOf,Builtin.firstCells,hrow.sizeOf,hkm,storeCells,loadCells,loadCellsFrom,goInt]
     ·simp only[Nat.zero_mul,List.take_zero,List.append_nil,Nat.add_zero,List.take_append_drop]
      rw[aCi hH];exact hi
    ·have hn0:n≠0:=oO
     have hm0:m≠0:=oO
     obtain rfl:=hA hn0
     have hkn:k*row.size≤n*row.size:=Nat.mul_le_mul_right _ oO
     have hkm2:k*row.size≤m*row.size:=Nat.mul_le_mul_right _ oO
     have hkp:0<k*row.size:=Nat.mul_pos oO c4
     have hnl:g.nl l=false:=by
      cases hnl:g.nl l with
      |false=>rfl
      |true=>
       obtain⟨_,rfl⟩:=q2 hnl
       simp at c2
       omega
     obtain⟨b,o',vs,rfl,k1,k2⟩:=hrw (by rintro rfl;simp at c1;omega)
     have hload:=iU (P:=P) k1 k2 (k*row.size) oO
     have hr2:=dB (k*row.size) _ _ k1
     have hlen:(ds.take (k*row.size)).length=k*row.size:=by rw[List.length_take];omega
     obtain⟨w',hst,hfin⟩:=oE (P:=P) (o:=o) hi hH hnl (ds:=ds.take (k*row.size)) (by rw[hlen];omega) hr2 (eG _ _ c3 hr2)
     rw[hlen]at hfin
     refine⟨.int .i64 k,w',?_,by simp only[Rep],hfin.1,hfin.2⟩
     simp[Builtin.copy_,run_underlying hd,Builtin.lenOf,Builtin.firstCells,hrow.sizeOf,hkm,hload,hst,goInt]
   |_=>simp[hH]at he
  ·simp at he
 ·simp at he
theorem vZ(hT:bC P T)(hi:Inv w g st){t ty:TypeId}{x y:LV}{v u:Value}{r:bL}(he:pO T t x y st=some r)(hc:r.c)(h:Rep w g x v)(hu:Rep w g y u):
 ∃ v' w',(Builtin.append_ #[t,t] ty #[v,u]).run P w=.ok v' w'∧Rep w' g r.v v'∧Inv w' g r.s∧Ext w g w' g:=by
 unfold pO at he
 split at he
 ·rename_i e l n cap l' o' m hs
  split at he
  ·rename_i row e' s' cs hte hH
   simp only[Option.some.injEq]at he
   subst he
   obtain⟨rfl,c0,rfl,rfl,c1,c2,c3,c4,c5,c6⟩:=hc
   have hd:=bV hT hs
   have hrow:=hT e' row hte
   have hsrc:yY T t st (.ms l' o' m)=some (m,(cs.drop o').take (m*row.size)):=by simp only[yY,hs,hte,hH]
   have hsr:=mX hi hsrc hu
   have hdl:((cs.drop o').take (m*row.size)).length=m*row.size:=by rw[List.length_take,List.length_drop];omega
   simp only[Rep]at h
   obtain⟨A,rfl,hnc,hcm,hk,hln,hA1,hnl0⟩:=h
   obtain⟨q1,q2,q3⟩:=hi.box l' e' row.size cs hH
   have hsplit:=Nat.add_mul n m row.size
   by_cases hm:m=0
   ·subst hm
    refine⟨.slice A n cap,w,?_,?_,?_,Ext.refl w g⟩
    ·obtain⟨i,hinfo,hsz,hby,hz⟩:=hrow.info
     obtain⟨A',c,rfl,_⟩:=hsr
     cases A'<;>cases A<;>simp[Builtin.append_,run_underlying hd,Go.sizeOf,typeInfo,hinfo,Builtin.lenOf,Builtin.firstCells,loadCells,loadCellsFrom,hnc,storeCells]
    ·simp only[Rep];exact⟨A,rfl,hnc,hcm,hk,hln,hA1,hnl0⟩
    ·simp only[Nat.zero_mul,List.take_zero,List.append_nil,Nat.add_zero,List.take_append_drop]
     rw[aCi hH];exact hi
   ·have hpos:0<m*row.size:=Nat.mul_pos oO c4
    have hnl:g.nl l'=false:=by
     cases hnl:g.nl l' with
     |false=>rfl
     |true=>
      obtain⟨_,rfl⟩:=q2 hnl
      simp at c1
      omega
    subst hk
    obtain rfl:=hA1 hnl
    obtain⟨cur,k1,k2,k3,k4,k5⟩:=q3 hnl
    have hroom:n+m≤g.κ l':=c0
    have hnl2:n*row.size≤cs.length:=oO
    obtain⟨i,hinfo,hsz,hby,hz⟩:=hrow.info
    obtain⟨A',c,rfl,hrw⟩:=hsr
    obtain⟨b',o2,vs,rfl,j1,j2⟩:=hrw (by intro h0;rw[h0]at hdl;simp at hdl;omega)
    have hlen:=aK _ _ j1
    have hvl:vs.length=m*i.size:=by rw[hsz];omega
    have hnews:∀ j v,vs[j]?=some v→w.cell? ((⟨b',o2,none⟩:Addr).add j)=some v:=by
     intro j v hv
     have hj:j<vs.length:=(List.getElem?_eq_some_iff.1 hv).1
     rw[add_lit,j2 j oO];exact hv
    have hfit:n*i.size+vs.length≤cur.toArray.size:=by
     rw[hvl,hsz];simp only[List.size_toArray];omega
    have hr:=run_append_room (P:=P) w t ty e' i hd hinfo (g.β l') n (g.κ l') cur.toArray k1 ⟨b',o2,none⟩ m c vs hvl hnews (eG _ _ c3 j1) hroom hfit
    have hone:=eG _ _ c3 j1
    have hfin:=tD (cs':=cs.take (n*row.size)++(cs.drop o').take (m*row.size)++cs.drop ((n+m)*row.size)) (vs':=cur.take (n*row.size)++vs++cur.drop ((n+m)*row.size)) hi hH hnl (by
     rw[← k2];simp only[List.length_append,List.length_take,List.length_drop];omega) (by simp only[List.length_append,List.length_take,List.length_drop];omega) (by
     have hx1:(cs.take (n*row.size)++(cs.drop o').take (m*row.size)++cs.drop ((n+m)*row.size)).length=cs.length:=by simp only[List.length_append,List.length_take,List.length_drop];omega
     have hx2:(cur.take (n*row.size)++vs++cur.drop ((n+m)*row.size)).take cs.length=(cur.take cs.length).take (n*row.size)++vs++(cur.take cs.length).drop ((n+m)*row.size):=by
      rw[List.take_append,List.take_append,List.take_take,List.take_take,List.drop_take]
      simp only[List.length_append,List.length_take]
      rw[show min cs.length (n*row.size)=n*row.size by omega,show min (n*row.size) cs.length=n*row.size by omega]
      rw[List.take_of_length_le (l:=vs) oO]
      congr 2
      omega
     rw[hx1,hx2]
     exact bP _ _ _ _ (bP _ _ _ _ (dB _ _ _ k4) j1) (gA _ _ _ k4))
    have harr:(cur.toArray.toList.take (n*i.size)++vs++cur.toArray.toList.drop (n*i.size+vs.length))=cur.take (n*row.size)++vs++cur.drop ((n+m)*row.size):=by
     rw[hvl,hsz];simp only[hsplit]
    rw[harr]at hr
    refine⟨_,_,hr,?_,hfin.1,hfin.2⟩
    simp only[Rep]
    exact⟨_,rfl,hroom,hcm,by trivial,hln,fun _=>rfl,hnl0⟩
  ·simp at he
 ·simp at he
theorem oS{a:Act}{fr:Frm}(hr:bS w g a fr):∀(ps:List (Nat×Operand)),aG w g ((ps.map fun p=>(p.1,aH fr p.2)).map (·.2)) ((ps.map fun p=>(p.1,a.eval p.2)).map (·.2))
 |[]=>by simp only[List.map_nil,aG]
 |p::ps=>by
  simp only[List.map_cons,aG]
  exact⟨_,_,rfl,aD hr p.2,oS hr ps⟩
theorem zX{a:Act}{fr:Frm}(hr:bS w g a fr):∀(ps:List Operand),aG w g (ps.map (aH fr)) (ps.map a.eval)
 |[]=>by simp only[List.map_nil,aG]
 |p::ps=>by
  simp only[List.map_cons,aG]
  exact⟨_,_,rfl,aD hr p,zX hr ps⟩
theorem eC{x:LV}{v u:Value}(h:Rep w g x v)(hx:x=.atom u):v=u:=by subst hx;simpa only[Rep]using h
theorem cC{N:Nat}{q:Bool}{o:Oper}{fr:Frm}{lv:LV}(h:∀(a:Act) (w:World) (g:G),Inv w g st→bS w g a fr→a.tmps.size=N→∃ v,(execOp a.eval o).run P w=.ok (.value v) w∧Rep w g lv v):Op1 P N q o fr st lv st:=by
 intro a w g hi hr hs
 obtain⟨v,h1,h2⟩:=h a w g hi hr hs
 exact⟨.value v,w,g,h1,.inl ⟨v,rfl,h2⟩,hi,Ext.refl w g,fun _=>⟨rfl,rfl,rfl,v,rfl⟩⟩
theorem aEH(hT:bC P T){N:Nat}{o:Oper}{c:Call}{fr:Frm}{md:Bool}{r:bL}(ho:o.op=.call c)(he:aAp T md c fr st=some r)(hc:r.c):Op1 P N (aS o.op) o fr st r.v r.s:=by
 obtain⟨callee,args,tys⟩:=c
 obtain⟨args⟩:=args
 obtain⟨tys⟩:=tys
 unfold aAp at he
 split at he
 ·rename_i x t _ hcal hargs htys
  simp only at hcal hargs htys
  subst hcal hargs htys
  rcases hmk:gK T t with _|p
  rotate_left
  ·simp only[hmk]at he
   obtain⟨k,e⟩:=p
   unfold aLy at he
   simp only[hmk]at he
   split at he
   ·rename_i l _ hx
    cases hl:st.H l with
    |map ag ks es=>
     simp only[hl,Option.some.injEq]at he
     subst he
     refine cC fun a w g hi hr _=>?_
     have h':=aD hr x
     rw[hx]at h'
     simp only[Rep]at h'
     obtain⟨_,_,ents,clock,m2,m3,_⟩:=hi.mp l _ _ es hl
     refine⟨.int .i64 es.length,?_,by simp only[Rep]⟩
     have hlen:ents.length=es.length:=by simpa using congrArg List.length m3
     simp[execOp,ho,resolve,invoke,builtin,Builtin.len_,h'.1,run_underlying (kD hT hmk),goInt,MapKept.run_getObj_map m2,hlen]
    |_=>simp[hl]at he
   ·simp at he
  simp only[hmk]at he
  unfold aLU at he
  split at he
  ·rename_i e hs
   have key:∀ n:Nat,r=⟨True,.atom (.int .i64 n),st⟩→(∀(a:Act) (w:World) (g:G),Inv w g st→bS w g a fr→∃ A cap,a.eval x=.slice A n cap)→Op1 P N (aS o.op) o fr st r.v r.s:=by
    rintro n rfl hv
    refine cC fun a w g hi hr _=>?_
    obtain⟨A,cap,hv⟩:=hv a w g hi hr
    refine⟨.int .i64 n,?_,by simp only[Rep]⟩
    simp[execOp,ho,resolve,invoke,builtin,Builtin.len_,hv,run_underlying (bV hT hs),goInt]
   split at he
   ·rename_i l off n hx
    simp only[Option.some.injEq]at he
    refine key n he.symm fun a w g hi hr=>?_
    have h':=aD hr x
    rw[hx]at h'
    simp only[Rep]at h'
    obtain⟨A,cap,hv,_⟩:=h'
    exact⟨A,cap,hv⟩
   ·rename_i l n c hx
    simp only[Option.some.injEq]at he
    refine key n he.symm fun a w g hi hr=>?_
    have h':=aD hr x
    rw[hx]at h'
    simp only[Rep]at h'
    obtain⟨A,hv,_⟩:=h'
    exact⟨A,c,hv⟩
   ·split at he
    ·rename_i q n cs hx
     simp only[Option.some.injEq]at he
     refine key n he.symm fun a w g hi hr=>?_
     have h':=mI hx (aD hr x)
     simp only[Rep]at h'
     obtain⟨A,cap,hv,_⟩:=h'
     exact⟨A,cap,hv⟩
    ·simp at he
  ·simp at he
 ·rename_i x y hcal hargs
  simp only at hcal hargs
  subst hcal hargs
  unfold aMJ at he
  split at he
  ·rename_i k u k' v hx hy
   simp only[Option.some.injEq]at he
   subst he
   refine cC fun a w g hi hr _=>?_
   have h1:=eC (aD hr x) hx
   have h2:=eC (aD hr y) hy
   refine⟨.int k (if v<u then v else u),?_,by simp only[Rep]⟩
   simp[execOp,ho,resolve,invoke,builtin,Builtin.min_,Builtin.min2,h1,h2]
  ·simp at he
 ·rename_i x y hcal hargs
  simp only at hcal hargs
  subst hcal hargs
  unfold aMS at he
  split at he
  ·rename_i k u k' v hx hy
   simp only[Option.some.injEq]at he
   subst he
   refine cC fun a w g hi hr _=>?_
   have h1:=eC (aD hr x) hx
   have h2:=eC (aD hr y) hy
   refine⟨.int k (if u<v then v else u),?_,by simp only[Rep]⟩
   simp[execOp,ho,resolve,invoke,builtin,Builtin.max_,Builtin.max2,h1,h2]
  ·simp at he
 ·rename_i s x t t' hcal hargs htys
  simp only at hcal hargs htys
  subst hcal hargs htys
  split at he
  ·rename_i htt
   subst htt
   split at he
   ·intro a w g hi hr _
    obtain⟨v',w',h1,h2,h3,h4⟩:=vZ (ty:=o.type) hT hi he hc (aD hr s) (aD hr x)
    refine⟨.value v',w',g,?_,.inl ⟨v',rfl,h2⟩,h3,h4,fun hq=>by simp[aS,ho]at hq⟩
    simp[execOp,ho,resolve,invoke,builtin,h1]
   intro a w g hi hr _
   obtain⟨v',w',g',h1,h2,h3,h4⟩:=aBc (ty:=o.type) hT hi he hc (aD hr s) (aD hr x)
   refine⟨.value v',w',g',?_,.inl ⟨v',rfl,h2⟩,h3,h4,fun hq=>by simp[aS,ho]at hq⟩
   simp[execOp,ho,resolve,invoke,builtin,h1]
  ·intro a w g hi hr _
   obtain⟨v',w',g',h1,h2,h3,h4⟩:=yX (ty:=o.type) hT hi he hc (aD hr s) (aD hr x)
   refine⟨.value v',w',g',?_,.inl ⟨v',rfl,h2⟩,h3,h4,fun hq=>by simp[aS,ho]at hq⟩
   simp[execOp,ho,resolve,invoke,builtin,h1]
 ·rename_i x t _ hcal hargs htys
  simp only at hcal hargs htys
  subst hcal hargs htys
  unfold aNF at he
  split at he
  ·rename_i e hs hx
   simp only[Option.some.injEq]at he
   subst he
   refine cC fun a w g hi hr _=>?_
   have h':=aD hr x
   rw[hx]at h'
   simp only[Rep]at h'
   have hv:=h'
   refine⟨.int .i64 0,?_,by simp only[Rep]⟩
   simp[execOp,ho,resolve,invoke,builtin,Builtin.cap_,hv,run_underlying (bV hT hs),goInt]
  ·rename_i e l n c hs hx
   simp only[Option.some.injEq]at he
   subst he
   refine cC fun a w g hi hr _=>?_
   have h':=aD hr x
   rw[hx]at h'
   simp only[Rep]at h'
   obtain⟨A,hv,_⟩:=h'
   refine⟨.int .i64 c,?_,by simp only[Rep]⟩
   simp[execOp,ho,resolve,invoke,builtin,Builtin.cap_,hv,run_underlying (bV hT hs),goInt]
  ·simp at he
 ·rename_i x t hcal hargs htys
  simp only at hcal hargs htys
  subst hcal hargs htys
  intro a w g hi hr _
  obtain⟨w',h1,h2,h3,h4⟩:=aCu (ty:=o.type) hT hi he hc (aD hr x)
  refine⟨.value (.tuple #[]),w',g,?_,.inl ⟨.tuple #[],rfl,?_⟩,h3,h4,fun hq=>by simp[aS,ho]at hq⟩
  ·simp[execOp,ho,resolve,invoke,builtin,h1]
  ·rw[h2];simp only[Rep,aG];exact⟨[],rfl,rfl⟩
 ·rename_i x y t t' hcal hargs htys
  simp only at hcal hargs htys
  subst hcal hargs htys
  intro a w g hi hr _
  obtain⟨v',w',h1,h2,h3,h4⟩:=aFi (ty:=o.type) hT hi he hc (aD hr x) (aD hr y)
  refine⟨.value v',w',g,?_,.inl ⟨v',rfl,h2⟩,h3,h4,fun hq=>by simp[aS,ho]at hq⟩
  simp[execOp,ho,resolve,invoke,builtin,h1]
 ·rename_i x i t kt hcal hargs htys
  simp only at hcal hargs htys
  subst hcal hargs htys
  intro a w g hi hr _
  obtain⟨h2,w',h1,h3,h4⟩:=aBi (kt:=kt) (ty:=o.type) hT hi he hc (aD hr x) (aD hr i)
  refine⟨.value (.tuple #[]),w',g,?_,.inl ⟨.tuple #[],rfl,?_⟩,h3,h4,fun hq=>by simp[aS,ho]at hq⟩
  ·simp[execOp,ho,resolve,invoke,builtin,h1]
  ·rw[h2];simp only[Rep,aG];exact⟨[],rfl,rfl⟩
 ·simp at he
theorem yC{t:TypeId}(h:P.underlying t=some .bool)(a b:Bool)(w:World):(Op.equal t (.bool a) (.bool b)).run P w=.ok (a==b) w:=by
 have hd:∀ d,(Op.equalIn (d+1) t (.bool a) (.bool b)).run P w=.ok (a==b) w:=by
  intro d
  simp[Op.equalIn,run_underlying h]
 exact hd 9999
theorem sP(hT:bC P T){op:BinOp}{t:TypeId}{x y:LV}{v u:Value}{r:bL}(ox oy:Operand)(he:aDD T op t x y st=some r)(hc:r.c)(hv:Rep w g x v)(hu:Rep w g y u):
 r.s=st∧∃ z,(do eqGuard op t ox oy v u;binOp op t v u:Sem Value).run P w=.ok z w∧Rep w g r.v z:=by
 unfold aDD at he
 split at he
 ·rename_i k a k' b
  simp only[Option.map_eq_some_iff]at he
  obtain⟨z,h1,rfl⟩:=he
  simp only[Rep]at hv hu
  subst hv hu
  exact⟨rfl,z.v,by simp[aDQ,aFb h1 hc],by simp only[Rep]⟩
 ·rename_i a b
  simp only[Rep]at hv hu
  subst hv hu
  split at he
  ·simp only[Option.some.injEq]at he
   subst he
   refine⟨rfl,.bool (a==b),?_,by simp only[Rep]⟩
   simp[pP,binOp,yC (yO hT hc)]
  ·simp only[Option.some.injEq]at he
   subst he
   refine⟨rfl,.bool (!(a==b)),?_,by simp only[Rep]⟩
   simp[pP,binOp,yC (yO hT hc)]
  ·simp at he
 ·rename_i xs ys
  simp only[Rep]at hv hu
  obtain⟨vs,rfl,hv⟩:=hv
  obtain⟨us,rfl,hu⟩:=hu
  split at he
  ·rename_i row ks ns ks' ms ht hx hy
   obtain⟨rfl,l1⟩:=jG _ _ _ _ hx hv
   obtain⟨rfl,l2⟩:=jG _ _ _ _ hy hu
   split at he
   ·simp only[Option.some.injEq]at he
    subst he
    obtain⟨c1,rfl,c3⟩:=hc
    have:=aCP (w:=w) (hT t row ht) c1 c3 l1 l2 ox oy .eql false (.inl ⟨rfl,rfl⟩)
    simp only[mkV,if_true]at this
    exact⟨rfl,_,this,by simp[Rep]⟩
   ·simp only[Option.some.injEq]at he
    subst he
    obtain⟨c1,rfl,c3⟩:=hc
    have:=aCP (w:=w) (hT t row ht) c1 c3 l1 l2 ox oy .neq true (.inr ⟨rfl,rfl⟩)
    simp only[mkV,if_true]at this
    exact⟨rfl,_,this,by simp[Rep]⟩
   ·simp at he
  ·simp at he
 ·simp only[Rep]at hv hu
  subst hv hu
  have key:(cL T t).isSome=true→(Op.equal t (.slice none 0 0) (.slice none 0 0)).run P w=.ok true w∧∀ op',(eqGuard op' t ox oy (.slice none 0 0) (.slice none 0 0)).run P w=.ok () w:=by
   intro hs
   obtain⟨e,hs⟩:=Option.isSome_iff_exists.1 hs
   have ht:=bV hT hs
   have hd:∀ d,(Op.equalIn (d+1) t (.slice none 0 0) (.slice none 0 0)).run P w=.ok true w:=by
    intro d
    simp[Op.equalIn,run_underlying ht]
   exact⟨hd 9999,fun op'=>by unfold eqGuard;split<;>simp⟩
  split at he
  ·simp only[Option.some.injEq]at he
   subst he
   obtain⟨k1,k2⟩:=key hc
   refine⟨rfl,.bool true,?_,by simp only[Rep]⟩
   simp[k2,binOp,k1]
  ·simp only[Option.some.injEq]at he
   subst he
   obtain⟨k1,k2⟩:=key hc
   refine⟨rfl,.bool false,?_,by simp only[Rep]⟩
   simp[k2,binOp,k1]
  ·simp at he
 ·have hv':∃ A,v=.map A∧∀ b,mQ x=some b→A.isNone=b:=by
   cases x with
   |mp l=>simp only[Rep]at hv;exact⟨_,hv.1,fun b hb=>by simp[mQ]at hb;subst hb;rfl⟩
   |atom y=>
    cases y with
    |map A=>
     simp only[Rep]at hv
     refine⟨A,hv,fun b hb=>?_⟩
     cases A with
     |none=>simp[mQ]at hb;subst hb;rfl
     |some a=>simp[mQ]at hb
    |_=>simp[mQ]at he
   |_=>simp[mQ]at he
  obtain⟨A,rfl,hA⟩:=hv'
  simp only[Rep]at hu
  subst hu
  have key:(∃ k e,P.underlying t=some (.map k e))→(Op.equal t (.map A) (.map none)).run P w=.ok A.isNone w∧∀ op',(eqGuard op' t ox oy (.map A) (.map none)).run P w=.ok () w:=by
   rintro⟨k,e,ht⟩
   have hd:∀ d,(Op.equalIn (d+1) t (.map A) (.map none)).run P w=.ok A.isNone w:=by
    intro d
    cases A<;>simp[Op.equalIn,run_underlying ht]
   exact⟨hd 9999,fun op'=>by unfold eqGuard;split<;>simp⟩
  split at he
  ·rename_i b hb
   simp only[Option.some.injEq]at he
   subst he
   obtain⟨k1,k2⟩:=key (zC hT hc)
   rw[hA b hb]at k1
   refine⟨rfl,.bool b,?_,by simp only[Rep]⟩
   simp[k2,binOp,k1]
  ·rename_i b hb
   simp only[Option.some.injEq]at he
   subst he
   obtain⟨k1,k2⟩:=key (zC hT hc)
   rw[hA b hb]at k1
   refine⟨rfl,.bool (!b),?_,by simp only[Rep]⟩
   simp[k2,binOp,k1]
  ·simp at he
 ·have hv':∃ A,v=.pointer A∧∀ b,nilPtr x=some b→A.isNone=b:=by
   cases x with
   |pt l o=>simp only[Rep]at hv;exact⟨_,hv.1,fun b hb=>by simp[nilPtr]at hb;subst hb;rfl⟩
   |pe l cs=>simp only[Rep]at hv;exact⟨_,hv.1,fun b hb=>by simp[nilPtr]at hb;subst hb;rfl⟩
   |ep cs=>simp only[Rep]at hv;obtain⟨b0,o0,hv,_⟩:=hv;exact⟨_,hv,fun b hb=>by simp[nilPtr]at hb;subst hb;rfl⟩
   |atom y=>
    cases y with
    |pointer A=>
     simp only[Rep]at hv
     refine⟨A,hv,fun b hb=>?_⟩
     cases A with
     |none=>simp[nilPtr]at hb;subst hb;rfl
     |some a=>simp[nilPtr]at hb
    |_=>simp[nilPtr]at he
   |_=>simp[nilPtr]at he
  obtain⟨A,rfl,hA⟩:=hv'
  simp only[Rep]at hu
  subst hu
  have key:∀ e,P.underlying t=some (.pointer e)→(Op.equal t (.pointer A) (.pointer none)).run P w=.ok A.isNone w:=by
   intro e ht
   have hd:∀ d,(Op.equalIn (d+1) t (.pointer A) (.pointer none)).run P w=.ok A.isNone w:=by
    intro d
    cases A<;>simp[Op.equalIn,run_underlying ht]
   exact hd 9999
  split at he
  ·rename_i b hb
   simp only[Option.some.injEq]at he
   subst he
   obtain⟨e,ht⟩:=aCz hT hc
   refine⟨rfl,.bool b,?_,by simp only[Rep]⟩
   have:=key e ht
   rw[hA b hb]at this
   unfold eqGuard
   simp[binOp,this]
  ·rename_i b hb
   simp only[Option.some.injEq]at he
   subst he
   obtain⟨e,ht⟩:=aCz hT hc
   refine⟨rfl,.bool (!b),?_,by simp only[Rep]⟩
   have:=key e ht
   rw[hA b hb]at this
   unfold eqGuard
   simp[binOp,this]
  ·simp at he
 ·have hv':(v=.nilFunc∧∀ b,pQ x=some b→b=true)∨((∃ f a c,v=.func f a c)∧∀ b,pQ x=some b→b=false):=by
   cases x with
   |fn f caps=>simp only[Rep]at hv;obtain⟨vs,rfl,_⟩:=hv;exact .inr ⟨⟨_,_,_,rfl⟩,fun b hb=>by simp only[pQ,Option.some.injEq]at hb;exact hb.symm⟩
   |atom y=>
    cases y with
    |nilFunc=>simp only[Rep]at hv;exact .inl ⟨hv,fun b hb=>by simp only[pQ,Option.some.injEq]at hb;exact hb.symm⟩
    |_=>simp[pQ]at he
   |_=>simp[pQ]at he
  simp only[Rep]at hu
  subst hu
  have key:∀ b,pQ x=some b→(∃ a b c,P.underlying t=some (.func a b c))→(Op.equal t v .nilFunc).run P w=.ok b w∧∀ op,(eqGuard op t ox oy v .nilFunc).run P w=.ok () w∧(op=.eql→(binOp op t v .nilFunc).run P w=.ok (.bool b) w)∧(op=.neq→(binOp op t v .nilFunc).run P w=.ok (.bool (!b)) w):=by
   rintro b hb ⟨_,_,_,ht⟩
   have h0:(Op.equal t v .nilFunc).run P w=.ok b w:=by
    have hd:∀ d,(Op.equalIn (d+1) t v .nilFunc).run P w=.ok b w:=by
     intro d
     rcases hv' with⟨rfl,h⟩|⟨⟨f,a,c,rfl⟩,h⟩
     ·obtain rfl:=h b hb;simp[Op.equalIn,run_underlying ht]
     ·obtain rfl:=h b hb;simp[Op.equalIn,run_underlying ht]
    exact hd 9999
   refine⟨h0,fun op=>⟨?_,?_,?_⟩⟩
   ·rcases hv' with⟨rfl,_⟩|⟨⟨f,a,c,rfl⟩,_⟩<;>(unfold eqGuard;split<;>simp)
   ·rintro rfl
    rcases hv' with⟨rfl,_⟩|⟨⟨f,a,c,rfl⟩,_⟩<;>simp[binOp,h0]
   ·rintro rfl
    rcases hv' with⟨rfl,_⟩|⟨⟨f,a,c,rfl⟩,_⟩<;>simp[binOp,h0]
  split at he
  ·rename_i b hb
   simp only[Option.some.injEq]at he
   subst he
   obtain⟨_,k⟩:=key b hb (aFQ hT hc)
   refine⟨rfl,.bool b,?_,by simp only[Rep]⟩
   simp[(k _).1,(k _).2.1 rfl]
  ·rename_i b hb
   simp only[Option.some.injEq]at he
   subst he
   obtain⟨_,k⟩:=key b hb (aFQ hT hc)
   refine⟨rfl,.bool (!b),?_,by simp only[Rep]⟩
   simp[(k _).1,(k _).2.2 rfl]
  ·simp at he
 ·simp at he
theorem tL(hT:bC P T)(hi:Inv w g st){t:TypeId}{l c:LV}{v u:Value}{r:bL}(he:lC T t l c st=some r)(hc:r.c)(h:Rep w g l v)(hu:Rep w g c u):
 ∃ v' w' g',(Instr.makeSlice t v u).run P w=.ok v' w'∧Rep w' g' r.v v'∧Inv w' g' r.s∧Ext w g w' g':=by
 unfold lC at he
 split at he
 ·rename_i e hs
  split at he
  ·rename_i row hte
   split at he
   ·rename_i k n k' n'
    simp only[Option.some.injEq]at he
    subst he
    obtain⟨rfl,c0,c2,c3,c4⟩:=hc
    simp only[Rep]at h hu
    subst h hu
    have hd:=bV hT hs
    have hrow:=hT e row hte
    obtain⟨i,hinfo,hsz,hby,hz⟩:=hrow.info
    have hzc:row.zeroV.cells=row.zero.toArray:=cP hrow
    obtain⟨m,rfl⟩:=Int.eq_ofNat_of_zero_le c0
    have hml:m≤maxLen:=by simp only[maxLen];omega
    have hb2:(i.bytes:Int)*(m:Int)≤281474976710656:=by rw[hby,Int.mul_comm];omega
    have hrun:=run_make (P:=P) w t e i row.zeroV hd hinfo hz k k' (m:Int) (m:Int) c0 (Int.le_refl _) hb2 c3
    simp only[Int.toNat_natCast]at hrun
    have hmc:madeCells row.zeroV.cells (m*i.size)=(bA row.zero m).toArray:=by
     apply Array.ext'
     rw[dN _ (by rw[hrow.zl];omega),hzc,hsz]
     simp[madeCells,← List.toArray_range,hrow.zl]
    rw[hmc]at hrun
    have hzl:(bA row.zero m).length=m*row.size:=by
     rw[dN _ (by rw[hrow.zl];omega)];simp[hrow.zl]
    have hzr:aG w g (cZ (row.zero.map bW) m) (bA row.zero m):=by rw[gZ];exact cF w g _
    have hlen:=aK _ _ hzr
    have hext:=cV w g (.cells (bA row.zero m).toArray e) 0 m false
    have hinv:=pE hi e row.size m (cs:=cZ (row.zero.map bW) m) (vs:=bA row.zero m) hzl hml oO (by rw[hlen,List.take_length];exact hzr)
    refine⟨_,_,_,hrun,?_,hinv,hext⟩
    simp only[Rep,Int.toNat_natCast]
    exact⟨_,_,rfl,Nat.le_refl _,hml,by simp[G.add,hi.next],by simp[G.add,hi.next],by simp[G.add,hi.next]⟩
   ·simp at he
  ·simp at he
 ·simp at he
theorem rI(hT:bC P T){N:Nat}{o:Oper}{fr:Frm}{md:Bool}{r:bL}(he:aop T md o fr st=some r)(hc:r.c):Op1 P N (aS o.op) o fr st r.v r.s:=by
 unfold aop at he
 split at he
 ·rename_i x ho
  simp only[Option.some.injEq]at he;subst he
  exact cC fun a w g hi hr _=>⟨a.eval x,by simp[execOp,ho],aD hr x⟩
 ·rename_i x ho
  simp only[Option.some.injEq]at he;subst he
  exact cC fun a w g hi hr _=>⟨a.eval x,by simp[execOp,ho],aD hr x⟩
 ·rename_i c x y ho
  split at he
  ·rename_i t hct
   simp only[Option.some.injEq]at he;subst he
   refine cC fun a w g hi hr _=>?_
   have h1:=eC (aD hr c) hct
   refine⟨if t then a.eval x else a.eval y,by simp[execOp,ho,h1,asBool],?_⟩
   cases t
   ·exact aD hr y
   ·exact aD hr x
  ·simp at he
 ·rename_i op t x y _ ho
  intro a w g hi hr _
  obtain⟨h0,z,h1,h2⟩:=sP hT x y he hc (aD hr x) (aD hr y)
  refine⟨.value z,w,g,?_,.inl ⟨z,rfl,h2⟩,by rw[h0];exact hi,Ext.refl w g,fun _=>⟨rfl,rfl,h0,_,rfl⟩⟩
  simp only[execOp,ho]
  rw[Sem.run_bind,h1];rfl
 ·rename_i op _ x ho
  unfold aMU at he
  split at he
  ·rename_i b hx
   simp only[Option.some.injEq]at he;subst he
   refine cC fun a w g hi hr _=>?_
   have h1:=eC (aD hr x) hx
   exact⟨.bool !b,by simp[execOp,ho,h1,Op.unary],by simp only[Rep]⟩
  ·rename_i k n hx
   simp only[Option.some.injEq]at he;subst he
   refine cC fun a w g hi hr _=>?_
   have h1:=eC (aD hr x) hx
   exact⟨.int k (k.wrap (0-n)),by simp[execOp,ho,h1,Op.unary,Op.intArith],by simp only[Rep]⟩
  ·simp at he
 ·rename_i s d x ho
  split at he
  ·rename_i k0 k k' n hk0 hk hx
   simp only[Option.some.injEq]at he;subst he
   refine cC fun a w g hi hr _=>?_
   have h1:=eC (aD hr x) hx
   exact⟨.int k (k.wrap n),by simp[execOp,ho,h1,convert,run_underlying (uL hT hk0),run_underlying (uL hT hk),Conv.intToInt],by simp only[Rep]⟩
  ·simp at he
 ·rename_i t x ho
  intro a w g hi hr _
  obtain⟨h0,u,h1,h2⟩:=vD hT hi he hc (aD hr x)
  exact⟨.value u,w,g,by simp[execOp,ho,h1],.inl ⟨u,rfl,h2⟩,by rw[h0];exact hi,Ext.refl w g,fun _=>⟨rfl,rfl,h0,_,rfl⟩⟩
 ·rename_i t x v ho
  intro a w g hi hr _
  obtain⟨h0,w',h1,h2,h3⟩:=aCl hT hi he hc (aD hr x) (aD hr v)
  exact⟨.skip,w',g,by simp[execOp,ho,h1],.inr ⟨rfl,h0⟩,h2,h3,fun hq=>by simp[aS,ho]at hq⟩
 ·rename_i t x i ho
  intro a w g hi hr _
  obtain⟨h0,u,h1,h2⟩:=aHt (P:=P) hT he hc (aD hr x) (aD hr i)
  exact⟨.value u,w,g,by simp[execOp,ho,h1],.inl ⟨u,rfl,h2⟩,by rw[h0];exact hi,Ext.refl w g,fun _=>⟨rfl,rfl,h0,_,rfl⟩⟩
 ·rename_i t x f ho
  intro a w g hi hr _
  obtain⟨h0,u,h1,h2⟩:=tT (P:=P) hT he hc (aD hr x)
  exact⟨.value u,w,g,by simp[execOp,ho,h1],.inl ⟨u,rfl,h2⟩,by rw[h0];exact hi,Ext.refl w g,fun _=>⟨rfl,rfl,h0,_,rfl⟩⟩
 ·rename_i t x f ho
  intro a w g hi hr _
  obtain⟨h0,u,h1,h2⟩:=aDa (P:=P) hT he hc (aD hr x)
  exact⟨.value u,w,g,by simp[execOp,ho,h1],.inl ⟨u,rfl,h2⟩,by rw[h0];exact hi,Ext.refl w g,fun _=>⟨rfl,rfl,h0,_,rfl⟩⟩
 ·rename_i t x lo hi' mx ho
  intro a w g hi hr _
  obtain⟨h0,u,h1,h2⟩:=aCH (P:=P) (w:=w) (g:=g) (vlo:=lo.map a.eval) (vhi:=hi'.map a.eval) (vmx:=mx.map a.eval) hT he hc (aD hr x)
   (fun l hl=>by cases lo with|none=>simp at hl|some z=>simp at hl;subst hl;exact⟨_,rfl,aD hr z⟩) (fun h=>by cases lo<;>simp_all)
   (fun l hl=>by cases hi' with|none=>simp at hl|some z=>simp at hl;subst hl;exact⟨_,rfl,aD hr z⟩) (fun h=>by cases hi'<;>simp_all)
   (fun l hl=>by cases mx with|none=>simp at hl|some z=>simp at hl;subst hl;exact⟨_,rfl,aD hr z⟩) (fun h=>by cases mx<;>simp_all)
  exact⟨.value u,w,g,by simp[execOp,ho,h1],.inl ⟨u,rfl,h2⟩,by rw[h0];exact hi,Ext.refl w g,fun _=>⟨rfl,rfl,h0,_,rfl⟩⟩
 ·rename_i t x ho
  intro a w g hi hr _
  obtain⟨u,w',g',h1,h2,h3,h4⟩:=aGw (P:=P) hi he (aD hr x)
  exact⟨.value u,w',g',by simp[execOp,ho,h1],.inl ⟨u,rfl,h2⟩,h3,h4,fun hq=>by simp[aS,ho]at hq⟩
 ·rename_i t ho
  intro a w g hi hr _
  obtain⟨u,w',g',h1,h2,h3,h4⟩:=aCk (P:=P) hT hi he
  exact⟨.value u,w',g',by simp[execOp,ho,h1],.inl ⟨u,rfl,h2⟩,h3,h4,fun hq=>by simp[aS,ho]at hq⟩
 ·rename_i t ps ho
  intro a w g hi hr _
  obtain⟨h0,u,h1,h2⟩:=aCK (P:=P) (vparts:=ps.map fun p=>(p.1,a.eval p.2)) hT he hc sS (by simpa using oS hr ps.toList)
  exact⟨.value u,w,g,by simp[execOp,ho,h1],.inl ⟨u,rfl,h2⟩,by rw[h0];exact hi,Ext.refl w g,fun _=>⟨rfl,rfl,h0,_,rfl⟩⟩
 ·rename_i t n ps ho
  intro a w g hi hr _
  obtain⟨u,w',g',h1,h2,h3,h4⟩:=sH (P:=P) (vparts:=ps.map fun p=>(p.1,a.eval p.2)) hT hi he hc sS (by simpa using oS hr ps.toList)
  exact⟨.value u,w',g',by simp[execOp,ho,h1],.inl ⟨u,rfl,h2⟩,h3,h4,fun hq=>by simp[aS,ho]at hq⟩
 ·rename_i f first caps ho
  split at he
  ·rename_i hf
   simp only[Option.some.injEq]at he;subst he
   refine cC fun a w g hi hr _=>⟨.func f #[] (caps.map a.eval),?_,?_⟩
   ·have:first=#[]:=by simpa using hf
    subst this
    simp[execOp,ho,Instr.makeFunc]
   ·simp only[Rep]
    exact⟨caps.toList.map a.eval,by rw[← Array.toList_map],zX hr _⟩
  ·simp at he
 ·rename_i x i ho
  split at he
  ·rename_i vs hx
   split at he
   ·rename_i v hv
    simp only[Option.some.injEq]at he;subst he
    refine cC fun a w g hi hr _=>?_
    have h1:=aD hr x
    rw[hx]at h1
    simp only[Rep]at h1
    obtain⟨us,h1,h2⟩:=h1
    obtain⟨u,hu1,hu2⟩:=oZ i vs us v h2 hv
    exact⟨u,by simp[execOp,ho,h1,Instr.extract,hu1],hu2⟩
   ·simp at he
  ·simp at he
 ·rename_i x ho
  split at he
  ·rename_i l o' hx
   simp only[Option.some.injEq]at he;subst he
   refine cC fun a w g hi hr _=>?_
   have h1:=aD hr x
   rw[hx]at h1
   have h2:=h1
   simp only[Rep]at h1
   exact⟨a.eval x,by simp[execOp,ho,h1.1],h2⟩
  ·rename_i l cs hx
   simp only[Option.some.injEq]at he;subst he
   refine cC fun a w g hi hr _=>?_
   have h1:=aD hr x
   rw[hx]at h1
   have h2:=h1
   simp only[Rep]at h1
   exact⟨a.eval x,by simp[execOp,ho,h1.1],h2⟩
  ·simp at he
 ·rename_i c ho
  exact aEH hT ho he hc
 ·rename_i t x i ho
  unfold aBJ at he
  split at he
  ·rename_i s k n hx hn
   simp only[Option.some.injEq]at he;subst he
   obtain⟨c1,c2,c3⟩:=hc
   refine cC fun a w g hi hr _=>?_
   have h1:=eC (aD hr x) hx
   have h2:=eC (aD hr i) hn
   cases hb:s[n.toNat]? with
   |none=>rw[hb]at c3;cases c3
   |some b=>
    refine⟨.int .u8 b.toNat,?_,by simp only[Rep,Option.getD_some]⟩
    simp[execOp,ho,h1,h2,Instr.index,asIntOf,run_underlying (aIO hT c1),c2,hb]
  ·simp at he
 ·rename_i t x i ok ho
  intro a w g hi hr _
  obtain⟨h0,u,h1,h2⟩:=oY (P:=P) hT hi he hc (aD hr x) (aD hr i)
  exact⟨.value u,w,g,by simp[execOp,ho,h1],.inl ⟨u,rfl,h2⟩,by rw[h0];exact hi,Ext.refl w g,fun _=>⟨rfl,rfl,h0,_,rfl⟩⟩
 ·rename_i t x i v ho
  intro a w g hi hr _
  obtain⟨h0,w',h1,h2,h3⟩:=oW (P:=P) hT hi he hc (aD hr x) (aD hr i) (aD hr v)
  exact⟨.skip,w',g,by simp[execOp,ho,h1],.inr ⟨rfl,h0⟩,h2,h3,fun hq=>by simp[aS,ho]at hq⟩
 ·rename_i t x i v ho
  intro a w g hi hr _
  obtain⟨h0,w',h1,h2,h3⟩:=oW (P:=P) hT hi he hc (aD hr x) (aD hr i) (aD hr v)
  exact⟨.skip,w',g,by simp[execOp,ho,h1],.inr ⟨rfl,h0⟩,h2,h3,fun hq=>by simp[aS,ho]at hq⟩
 ·rename_i t rs ho
  intro a w g hi hr _
  obtain⟨u,w',g',h1,h2,h3,h4⟩:=yV (P:=P) (vr:=rs.map a.eval) hT hi he (fun x hx=>by cases rs with|none=>simp at hx|some z=>simp at hx;subst hx;exact⟨_,rfl,aD hr z⟩) (fun h=>by cases rs<;>simp_all)
  exact⟨.value u,w',g',by simp[execOp,ho,h1],.inl ⟨u,rfl,h2⟩,h3,h4,fun hq=>by simp[aS,ho]at hq⟩
 ·rename_i t l c ho
  intro a w g hi hr _
  obtain⟨u,w',g',h1,h2,h3,h4⟩:=tL (P:=P) hT hi he hc (aD hr l) (aD hr c)
  exact⟨.value u,w',g',by simp[execOp,ho,h1],.inl ⟨u,rfl,h2⟩,h3,h4,fun hq=>by simp[aS,ho]at hq⟩
 ·simp at he
end
end Go.Proofs.YtempldclppogmaaGreatDoor.Aw
