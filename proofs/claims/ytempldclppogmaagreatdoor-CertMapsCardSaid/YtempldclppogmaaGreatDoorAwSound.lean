/- The operations' soundness. No program is named here. -/
import Derived.Test.YtempldclppogmaaGreatDoorAwOps
set_option linter.unusedVariables false
set_option linter.unusedSimpArgs false
namespace Go.Proofs.YtempldclppogmaaGreatDoor.Aw
open Go Go.RowKit
section
variable {P:Program} {T:Tab} {w:World} {g:G} {st:St}
theorem mI{x:LV}{v:Value}{q n:Nat}{cs:List LV}(hx:rS x=some (q,n,cs))(h:Rep w g x v):Rep w g (.sl q n cs) v:=by
 cases x with
 |sl q' n' cs'=>
  simp only[rS,Option.some.injEq,Prod.mk.injEq]at hx
  obtain⟨rfl,rfl,rfl⟩:=hx
  exact h
 |nil=>
  simp only[rS,Option.some.injEq,Prod.mk.injEq]at hx
  obtain⟨rfl,rfl,rfl⟩:=hx
  exact pI h
 |emp=>
  simp only[rS,Option.some.injEq,Prod.mk.injEq]at hx
  obtain⟨rfl,rfl,rfl⟩:=hx
  simp only[Rep]at h ⊢
  obtain⟨A,h⟩:=h
  exact⟨A,0,h,Nat.le_refl _,⟨Nat.zero_le _,fun _=>rfl⟩,fun h=>absurd rfl h,fun h=>absurd rfl h⟩
 |qu t o n' cs'=>
  simp only[rS,Option.some.injEq,Prod.mk.injEq]at hx
  obtain⟨rfl,rfl,rfl⟩:=hx
  simp only[Rep]at h ⊢
  obtain⟨A,cap,hv,hn,hc,_,_,hA,hcs⟩:=h
  refine⟨A,cap,hv,hn,⟨hc,fun h0=>?_⟩,fun h0=>absurd rfl h0,hcs⟩
  by_cases h1:cap=0
  ·exact h1
  ·rw[hA h1]at h0;cases h0
 |_=>simp[rS]at hx
theorem aFo(hi:Inv w g st){x:LV}{v:Value}{cs:List LV}(hx:dJ st x=some cs)(h:Rep w g x v):
 ∃ b o vs,v=.pointer (some ⟨b,o,none⟩)∧aG w g cs vs∧∀ j,j<cs.length→w.cell? ⟨b,o+j,none⟩=vs[j]?:=by
 cases x with
 |ep cs'=>
  simp only[dJ,Option.some.injEq]at hx
  subst hx
  simp only[Rep]at h
  obtain⟨b,o,rfl,hr⟩:=h
  obtain⟨vs,h1,h2⟩:=eO _ _ hr
  exact⟨b,o,vs,rfl,h1,h2⟩
 |pe l cs'=>
  simp only[dJ,Option.some.injEq]at hx
  subst hx
  simp only[Rep]at h
  obtain⟨rfl,_,hr⟩:=h
  obtain⟨vs,h1,h2⟩:=eO _ _ hr
  exact⟨_,0,vs,rfl,h1,h2⟩
 |pt l o=>
  simp only[dJ]at hx
  cases hH:st.H l with
  |box e s cs'=>
   simp only[hH,Option.some.injEq]at hx
   subst hx
   simp only[Rep]at h
   obtain⟨rfl,_⟩:=h
   obtain⟨_,k0,k'⟩:=hi.box l e s cs' hH
   cases hnl:g.nl l with
   |true=>
    obtain⟨_,rfl⟩:=k0 hnl
    exact⟨g.β l,o,[],rfl,by simp only[List.drop_nil,aG],sS⟩
   |false=>
    obtain⟨cur,k1,k2,k4,k5,_⟩:=k' hnl
    refine⟨g.β l,o,(cur.take cs'.length).drop o,rfl,gA _ _ _ k5,fun j hj=>?_⟩
    rw[cell_of_row w _ _ _ _ _ k1]
    simp only[List.length_drop]at hj
    simp[show o+j<cs'.length by omega]
  |_=>simp[hH]at hx
 |_=>simp[dJ]at hx
theorem iU{b o:Nat}{cs:List LV}{vs:List Value}(hr:aG w g cs vs)(hc:∀ j,j<cs.length→w.cell? ⟨b,o+j,none⟩=vs[j]?)(n:Nat)(hn:n≤cs.length):
 (loadCells ⟨b,o,none⟩ n).run P w=.ok (vs.take n).toArray w:=by
 have hl:=aK _ _ hr
 have:=run_loadCells_list (P:=P) w ⟨b,o,none⟩ (vs.take n) (fun j v hv=>by
  rw[add_lit]
  have hj:j<n:=by
   rw[List.getElem?_take]at hv
   split at hv
   ·assumption
   ·cases hv
  rw[hc j oO]
  rw[List.getElem?_take,if_pos hj]at hv
  exact hv)
 rw[List.length_take,Nat.min_eq_left oO]at this
 exact this
theorem vD(hT:bC P T)(hi:Inv w g st){t:TypeId}{x:LV}{v:Value}{r:bL}(he:wW T t x st=some r)(hc:r.c)(h:Rep w g x v):
 r.s=st∧∃ u,(Instr.loadAt t v).run P w=.ok u w∧Rep w g r.v u:=by
 unfold wW at he
 cases ht:T t with
 |none=>simp[ht]at he
 |some row=>
  cases hp:dJ st x with
  |none=>simp[ht,hp]at he
  |some cs=>
   simp only[ht,hp]at he
   obtain⟨b,o,vs,rfl,h1,h2⟩:=aFo hi hp h
   have hrow:=hT t row ht
   have hlen:=aK _ _ h1
   cases ha:row.agg with
   |true=>
    simp only[ha,if_true,Option.some.injEq]at he
    subst he
    refine⟨rfl,.agg (vs.take row.size).toArray,?_,?_⟩
    ·simp[Instr.loadAt,Instr.sureAddr,loadVar,hrow.agg,ha,hrow.sizeOf,iU (P:=P) h1 h2 row.size hc]
    ·simp only[Rep]
     exact⟨_,rfl,dB _ _ _ h1⟩
   |false=>
    simp only[ha,Bool.false_eq_true,if_false,Option.some.injEq]at he
    subst he
    cases cs with
    |nil=>simp at hc
    |cons c cs=>
     simp only[aG]at h1
     obtain⟨u,us,rfl,k1,k2⟩:=h1
     have h0:=h2 0 sS
     simp only[Nat.add_zero,List.getElem?_cons_zero]at h0
     refine⟨rfl,u,?_,k1⟩
     simp[Instr.loadAt,Instr.sureAddr,loadVar,hrow.agg,ha,load,Sem.run,h0]
theorem aHt(hT:bC P T){t:TypeId}{x i:LV}{v vi:Value}{r:bL}(he:aKx T t x i st=some r)(hc:r.c)(h:Rep w g x v)(hvi:Rep w g i vi):
 r.s=st∧∃ u,(Instr.indexAt t v vi).run P w=.ok u w∧Rep w g r.v u:=by
 unfold aKx at he
 split at he
 ·rename_i e k i' ht
  have hd:P.underlying t=some (.slice e):=bV hT ht
  simp only[Rep]at hvi
  subst hvi
  split at he
  ·rename_i row hte
   have hrow:=hT e row hte
   split at he
   ·rename_i l o n
    simp only[Option.some.injEq]at he
    subst he
    obtain⟨c1,c2⟩:=hc
    simp only[Rep]at h
    obtain⟨A,cap,rfl,hn,hm,_,hA,hl⟩:=h
    obtain rfl:=hA oO
    refine⟨rfl,.pointer (some ⟨g.β l,o+i'.toNat*row.size,none⟩),?_,by simp[Rep,hl]⟩
    simp[Instr.indexAt,asIntOf,run_underlying hd,c1,c2,hrow.sizeOf,add_lit]
   ·split at he
    ·rename_i q n cs hs
     simp only[Option.some.injEq]at he
     subst he
     obtain⟨c1,c2,c3⟩:=hc
     have h':=mI hs h
     simp only[Rep]at h'
     obtain⟨A,cap,rfl,hn,hm,_,hrw⟩:=h'
     obtain⟨b,o,rfl,hrr⟩:=hrw (fun e0=>by subst e0;simp at c3)
     refine⟨rfl,.pointer (some ⟨b,o+i'.toNat*row.size,none⟩),?_,?_⟩
     ·simp[Instr.indexAt,asIntOf,run_underlying hd,c1,c2,hrow.sizeOf,add_lit]
     ·simp only[Rep]
      exact⟨b,_,rfl,eR _ _ _ hrr⟩
    ·simp at he
  ·simp at he
 ·simp at he
theorem xW{y:Option LV}{vy:Option Value}{d:Nat}{l:Int}(ho:dG y d=some l)(h:∀ q,y=some q→∃ u,vy=some u∧Rep w g q u)(h0:y=none→vy=none):
 (vy=none∧l=(d:Int))∨∃ k,vy=some (.int k l):=by
 cases y with
 |none=>
  simp only[dG,Option.some.injEq]at ho
  exact .inl ⟨h0 rfl,ho.symm⟩
 |some q=>
  obtain⟨u,rfl,hu⟩:=h q rfl
  right
  unfold dG at ho
  split at ho
  ·rename_i heq;cases heq
  ·rename_i k i heq
   injection heq with heq;subst heq
   simp only[Option.some.injEq]at ho;subst ho
   simp only[Rep]at hu
   exact⟨k,by rw[hu]⟩
  ·cases ho
theorem sV{n cap:Nat}{lo hi:Option LV}{vlo vhi:Option Value}{l hh:Int}(hol:dG lo 0=some l)(hoh:dG hi n=some hh)(c1:0≤l)(c2:l≤hh)(c3:hh≤cap)(hn:n≤cap)
 (hlo:∀ l,lo=some l→∃ u,vlo=some u∧Rep w g l u) (hlo0:lo=none→vlo=none) (hhi:∀ l,hi=some l→∃ u,vhi=some u∧Rep w g l u) (hhi0:hi=none→vhi=none):
 (Instr.sliceBounds true n cap vlo vhi none).run P w=.ok (l.toNat,hh.toNat,cap) w:=by
 have k1:hh≤(cap:Int):=oO
 have k2:0≤hh:=oO
 rcases xW hol hlo hlo0 with⟨rfl,rfl⟩|⟨kl,rfl⟩<;>rcases xW hoh hhi hhi0 with⟨rfl,rfl⟩|⟨kh,rfl⟩
 ·simp[Instr.sliceBounds]
 ·simp[Instr.sliceBounds,Instr.sliceBound,asIntOf,k1,k2]
 ·have k3:l.toNat≤n:=oO
  simp[Instr.sliceBounds,Instr.sliceBound,asIntOf,c1,c2]
 ·have k3:l≤((hh.toNat:Nat):Int):=oO
  simp[Instr.sliceBounds,Instr.sliceBound,asIntOf,c1,k1,k2]
  exact fun h0=>absurd h0 oO
theorem kQ{n cap:Nat}{lo hi:Option LV}{vlo vhi:Option Value}{l hh:Int}(hol:dG lo 0=some l)(hoh:dG hi n=some hh)(c1:0≤l)(c2:l≤hh)(c3:hh≤n)(hn:n≤cap)
 (hlo:∀ l,lo=some l→∃ u,vlo=some u∧Rep w g l u) (hlo0:lo=none→vlo=none) (hhi:∀ l,hi=some l→∃ u,vhi=some u∧Rep w g l u) (hhi0:hi=none→vhi=none):
 (Instr.sliceBounds true n cap vlo vhi none).run P w=.ok (l.toNat,hh.toNat,cap) w:=
 sV hol hoh c1 c2 oO hn hlo hlo0 hhi hhi0
theorem aCH(hT:bC P T){t:TypeId}{x:LV}{lo hi mx:Option LV}{v:Value}{vlo vhi vmx:Option Value}{r:bL}(he:yD T t x lo hi mx st=some r)(hc:r.c)(h:Rep w g x v)
 (hlo:∀ l,lo=some l→∃ u,vlo=some u∧Rep w g l u) (hlo0:lo=none→vlo=none) (hhi:∀ l,hi=some l→∃ u,vhi=some u∧Rep w g l u) (hhi0:hi=none→vhi=none)
 (hmx:∀ l,mx=some l→∃ u,vmx=some u∧Rep w g l u) (hmx0:mx=none→vmx=none):
 r.s=st∧∃ u,(Instr.sliceAt t v vlo vhi vmx).run P w=.ok u w∧Rep w g r.v u:=by
 unfold yD at he
 split at he
 ·rename_i e ht
  have hd:P.underlying t=some (.slice e):=bV hT ht
  split at he
  ·rename_i row hte
   have hrow:=hT e row hte
   split at he
   ·obtain rfl:=hmx0 rfl
    split at he
    ·rename_i b o n
     split at he
     ·rename_i l hh hol hoh
      simp only[Option.some.injEq]at he
      subst he
      obtain⟨c1,c2,c3,c4⟩:=hc
      simp only[Rep]at h
      obtain⟨A,cap,rfl,hn,hm,h0,hA,hb⟩:=h
      have hbr:=kQ (P:=P) (w:=w) (g:=g) hol hoh c1 c2 c3 hn hlo hlo0 hhi hhi0
      refine⟨rfl,.slice (if cap=l.toNat then A else A.map (·.add (l.toNat*row.size))) (hh.toNat-l.toNat) (cap-l.toNat),?_,?_⟩
      ·simp[Instr.sliceAt,Instr.slice,run_underlying hd,hbr,hrow.sizeOf]
      ·simp only[Rep]
       refine⟨_,_,rfl,oO,oO,fun ho=>?_,fun hne=>?_,hb⟩
       ·have ho0:o=0:=oO
        have hl0:l.toNat=0:=by
         have h1:l.toNat*row.size=0:=oO
         rcases Nat.mul_eq_zero.1 h1 with h2|h2
         ·exact h2
         ·omega
        obtain⟨k1,k2⟩:=h0 ho0
        refine⟨oO,fun hnl=>?_⟩
        rw[k2 hnl,hl0]
        split<;>simp[Addr.add]
       ·have hne':n≠0:=oO
        rw[hA hne',if_neg oO]
        simp[add_lit]
     ·simp at he
    ·rename_i b n c
     split at he
     ·rename_i l hh hol hoh
      simp only[Option.some.injEq]at he
      subst he
      obtain⟨c1,c2,c3,c4⟩:=hc
      simp only[Rep]at h
      obtain⟨A,rfl,hn,hm,hk,hb,hA,hnl⟩:=h
      have hbr:=sV (P:=P) (w:=w) (g:=g) hol hoh c1 c2 c3 hn hlo hlo0 hhi hhi0
      refine⟨rfl,.slice (if c=l.toNat then A else A.map (·.add (l.toNat*row.size))) (hh.toNat-l.toNat) (c-l.toNat),?_,?_⟩
      ·simp[Instr.sliceAt,Instr.slice,run_underlying hd,hbr,hrow.sizeOf]
      ·cases lo with
       |none=>
        simp only[dG,Option.some.injEq]at hol
        subst hol
        simp only[Option.isNone_none,if_true,Rep]
        refine⟨_,rfl,oO,oO,oO,hb,fun h0=>?_,fun h0=>by have:=hnl h0;omega⟩
        rw[hA h0]
        split<;>simp[Addr.add]
       |some y=>
        simp only[Option.isNone_some,Bool.false_eq_true,if_false,Rep]
        refine⟨_,_,rfl,oO,oO,fun ho=>?_,fun hne=>?_,hb⟩
        ·have hl0:l.toNat=0:=by
          rcases Nat.mul_eq_zero.1 ho with h2|h2
          ·exact h2
          ·omega
         refine⟨oO,fun h0=>?_⟩
         rw[hA h0,hl0]
         split<;>simp[Addr.add]
        ·have h0:g.nl b=false:=by
          cases h0:g.nl b with
          |false=>rfl
          |true=>have:=hnl h0;omega
         rw[hA h0,if_neg oO]
         simp[add_lit]
     ·simp at he
    ·split at he
     ·rename_i l hh hol hoh
      simp only[Option.some.injEq]at he
      subst he
      obtain⟨rfl,rfl⟩:=hc
      simp only[Rep]at h
      subst h
      have hbr:=kQ (P:=P) (w:=w) (g:=g) (n:=0) (cap:=0) hol hoh oO oO oO oO hlo hlo0 hhi hhi0
      refine⟨rfl,.slice none 0 0,?_,by simp only[Rep]⟩
      simp[Instr.sliceAt,Instr.slice,run_underlying hd,hbr,hrow.sizeOf]
     ·simp at he
    ·rename_i t' o n cs
     split at he
     ·rename_i l hh hol hoh
      simp only[Option.some.injEq]at he
      subst he
      obtain⟨c1,c2,c3,c4⟩:=hc
      simp only[Rep]at h
      obtain⟨A,cap,rfl,hn,hm,ht',hk,hA,hrw⟩:=h
      have hbr:=kQ (P:=P) (w:=w) (g:=g) hol hoh c1 c2 c3 hn hlo hlo0 hhi hhi0
      refine⟨rfl,.slice (if cap=l.toNat then A else A.map (·.add (l.toNat*row.size))) (hh.toNat-l.toNat) (cap-l.toNat),?_,?_⟩
      ·simp[Instr.sliceAt,Instr.slice,run_underlying hd,hbr,hrow.sizeOf]
      ·simp only[Rep]
       refine⟨_,_,rfl,oO,oO,ht',oO,fun hne=>?_,fun hne=>?_⟩
       ·rw[if_neg oO,hA oO,c4]
        simp only[Option.map_some,add_lit,Nat.mul_one,Nat.add_assoc]
       ·have hlh:hh.toNat-l.toNat≠0:=fun h0=>by rw[h0]at hne;simp at hne
        have hcs:cs≠[]:=by rintro rfl;simp at hne
        obtain⟨b,o',hAb,hrr⟩:=hrw hcs
        rw[if_neg oO,hAb,c4]
        refine⟨b,o'+l.toNat,by simp only[Option.map_some,add_lit,Nat.mul_one],mV _ _ _ (eR _ _ _ hrr)⟩
     ·simp at he
    ·split at he
     ·rename_i q n cs hs
      split at he
      ·rename_i l hh hol hoh
       simp only[Option.some.injEq]at he
       subst he
       obtain⟨c1,c2,c3⟩:=hc
       have h':=mI hs h
       simp only[Rep]at h'
       obtain⟨A,cap,rfl,hn,hm,_,hrw⟩:=h'
       have hbr:=kQ (P:=P) (w:=w) (g:=g) hol hoh c1 c2 c3 hn hlo hlo0 hhi hhi0
       refine⟨rfl,.slice (if cap=l.toNat then A else A.map (·.add (l.toNat*row.size))) (hh.toNat-l.toNat) (cap-l.toNat),?_,?_⟩
       ·simp[Instr.sliceAt,Instr.slice,run_underlying hd,hbr,hrow.sizeOf]
       ·simp only[Rep]
        refine⟨_,_,rfl,oO,⟨by have:=hm.1;omega,fun hA0=>?_⟩,fun e0=>absurd rfl e0,fun hne=>?_⟩
        ·have hA1:A=none:=by
          split at hA0
          ·exact hA0
          ·simpa using hA0
         have:=hm.2 hA1
         omega
        have hlt:l.toNat<hh.toNat:=by
         rcases Nat.lt_or_ge l.toNat hh.toNat with h0|h0
         ·exact h0
         ·rw[show hh.toNat-l.toNat=0 by omega]at hne
          simp at hne
        have hcs:cs≠[]:=by rintro rfl;simp at hne
        obtain⟨b,o,rfl,hrr⟩:=hrw hcs
        refine⟨b,o+l.toNat*row.size,?_,?_⟩
        ·rw[if_neg oO];simp[add_lit]
        ·exact mV _ _ _ (eR _ _ _ hrr)
      ·simp at he
     ·simp at he
   ·rename_i k m
    split at he
    ·rename_i k' hh p hs
     simp only[Option.some.injEq]at he
     subst he
     obtain⟨rfl,rfl⟩:=hc
     obtain⟨q,n,cs⟩:=p
     have h':=mI hs h
     simp only[Rep]at h'
     obtain⟨A,cap,rfl,hn,hm,_,_⟩:=h'
     obtain⟨u,rfl,hu⟩:=hhi _ rfl
     obtain⟨u',rfl,hu'⟩:=hmx _ rfl
     simp only[Rep]at hu hu'
     subst hu hu'
     obtain rfl:=hlo0 rfl
     refine⟨rfl,.slice A 0 0,?_,by simp only[Rep];exact⟨A,rfl⟩⟩
     simp[Instr.sliceAt,Instr.slice,run_underlying hd,Instr.sliceBounds,Instr.sliceBound,asIntOf,hrow.sizeOf]
    ·rename_i kl ll kh hh hsl
     split at he
     ·rename_i b o n
      simp only[Option.some.injEq]at he
      subst he
      obtain⟨c1,c2,c3,c4⟩:=hc
      simp only[Rep]at h
      obtain⟨A,cap,rfl,hn,hm,h0,hA,hb⟩:=h
      obtain⟨u1,rfl,hu1⟩:=hlo _ rfl
      obtain⟨u2,rfl,hu2⟩:=hhi _ rfl
      obtain⟨u3,rfl,hu3⟩:=hmx _ rfl
      simp only[Rep]at hu1 hu2 hu3
      subst hu1 hu2 hu3
      have e1:m≤(cap:Int):=oO
      have e2:(0:Int)≤m:=oO
      have e3:(0:Int)≤hh:=oO
      refine⟨rfl,.slice (if m.toNat=ll.toNat then A else A.map (·.add (ll.toNat*row.size))) (hh.toNat-ll.toNat) (m.toNat-ll.toNat),?_,by simp only[Rep]⟩
      have e4:hh≤max m 0:=oO
      have e5:ll≤max hh 0:=oO
      simp[Instr.sliceAt,Instr.slice,run_underlying hd,Instr.sliceBounds,Instr.sliceBound,asIntOf,hrow.sizeOf,e1,e2,e3,c1]
      rw[if_pos e4,if_pos e5]
     ·rename_i b n cap
      simp only[Option.some.injEq]at he
      subst he
      obtain⟨c1,c2,c3,c4⟩:=hc
      simp only[Rep]at h
      obtain⟨A,rfl,hn,hm,_⟩:=h
      obtain⟨u1,rfl,hu1⟩:=hlo _ rfl
      obtain⟨u2,rfl,hu2⟩:=hhi _ rfl
      obtain⟨u3,rfl,hu3⟩:=hmx _ rfl
      simp only[Rep]at hu1 hu2 hu3
      subst hu1 hu2 hu3
      have e1:m≤(cap:Int):=oO
      have e2:(0:Int)≤m:=oO
      have e3:(0:Int)≤hh:=oO
      refine⟨rfl,.slice (if m.toNat=ll.toNat then A else A.map (·.add (ll.toNat*row.size))) (hh.toNat-ll.toNat) (m.toNat-ll.toNat),?_,by simp only[Rep]⟩
      have e4:hh≤max m 0:=oO
      have e5:ll≤max hh 0:=oO
      simp[Instr.sliceAt,Instr.slice,run_underlying hd,Instr.sliceBounds,Instr.sliceBound,asIntOf,hrow.sizeOf,e1,e2,e3,c1]
      rw[if_pos e4,if_pos e5]
     ·simp at he
    ·simp at he
   ·simp at he
  ·simp at he
 ·simp at he
theorem mT{x:LV}{v:Value}{cs:List LV}(hx:cX x=some cs)(h:Rep w g x v):aG w g cs v.cells.toList:=by
 have key:∀ lv:LV,cs=[lv]→Rep w g lv v→(∀ cells,v≠.agg cells)→aG w g cs v.cells.toList:=by
  intro lv h1 h2 h3
  subst h1
  have:v.cells=#[v]:=by cases v<;>first|rfl|exact absurd rfl (h3 _)
  rw[this]
  simp only[aG]
  exact⟨v,[],rfl,h2,rfl⟩
 cases x with
 |ag cs'=>
  simp only[cX,Option.some.injEq]at hx
  subst hx
  simp only[Rep]at h
  obtain⟨vs,rfl,h⟩:=h
  simpa[Value.cells]using h
 |dead=>simp[cX]at hx
 |tu vs=>simp[cX]at hx
 |nil=>
  simp only[cX,Option.some.injEq]at hx
  refine key _ hx.symm h ?_
  simp only[Rep]at h;subst h;simp
 |emp=>
  simp only[cX,Option.some.injEq]at hx
  refine key _ hx.symm h ?_
  simp only[Rep]at h;obtain⟨A,rfl⟩:=h;simp
 |ms l o n=>
  simp only[cX,Option.some.injEq]at hx
  refine key _ hx.symm h ?_
  simp only[Rep]at h;obtain⟨A,cap,rfl,_⟩:=h;simp
 |atom y=>
  have h':=h
  simp only[Rep]at h'
  subst h'
  cases v<;>simp only[cX,Option.some.injEq]at hx<;>first|exact key _ hx.symm h (by simp)|cases hx
 |sl q n cs'=>
  simp only[cX,Option.some.injEq]at hx
  refine key _ hx.symm h ?_
  simp only[Rep]at h;obtain⟨A,cap,rfl,_⟩:=h;simp
 |pt l o=>
  simp only[cX,Option.some.injEq]at hx
  refine key _ hx.symm h ?_
  simp only[Rep]at h;rw[h.1];simp
 |ep cs'=>
  simp only[cX,Option.some.injEq]at hx
  refine key _ hx.symm h ?_
  simp only[Rep]at h;obtain⟨b,o,rfl,_⟩:=h;simp
 |mp l=>
  simp only[cX,Option.some.injEq]at hx
  refine key _ hx.symm h ?_
  simp only[Rep]at h;rw[h.1];simp
 |fn f caps=>
  simp only[cX,Option.some.injEq]at hx
  refine key _ hx.symm h ?_
  simp only[Rep]at h;obtain⟨vs,rfl,_⟩:=h;simp
 |qu t o n cs'=>
  simp only[cX,Option.some.injEq]at hx
  refine key _ hx.symm h ?_
  simp only[Rep]at h;obtain⟨A,cap,rfl,_⟩:=h;simp
 |pe l cs'=>
  simp only[cX,Option.some.injEq]at hx
  refine key _ hx.symm h ?_
  simp only[Rep]at h;rw[h.1];simp
 |kap l n c=>
  simp only[cX,Option.some.injEq]at hx
  refine key _ hx.symm h ?_
  simp only[Rep]at h;obtain⟨A,rfl,_⟩:=h;simp
theorem aHe{x:LV}{v:Value}(hx:fM x=true)(h:Rep w g x v):v.oneCell'=true:=by
 cases x with
 |ag cs=>simp[fM]at hx
 |dead=>simp[fM]at hx
 |tu vs=>simp[fM]at hx
 |nil=>simp only[Rep]at h;subst h;rfl
 |emp=>simp only[Rep]at h;obtain⟨A,rfl⟩:=h;rfl
 |ms l o n=>simp only[Rep]at h;obtain⟨A,cap,rfl,_⟩:=h;rfl
 |atom y=>simp only[Rep]at h;subst h;cases v<;>first|rfl|simp[fM]at hx
 |sl q n cs=>simp only[Rep]at h;obtain⟨A,cap,rfl,_⟩:=h;rfl
 |pt l o=>simp only[Rep]at h;rw[h.1];rfl
 |ep cs=>simp only[Rep]at h;obtain⟨b,o,rfl,_⟩:=h;rfl
 |mp l=>simp only[Rep]at h;rw[h.1];rfl
 |fn f caps=>simp only[Rep]at h;obtain⟨vs,rfl,_⟩:=h;rfl
 |qu t o n cs=>simp only[Rep]at h;obtain⟨A,cap,rfl,_⟩:=h;rfl
 |pe l cs=>simp only[Rep]at h;rw[h.1];rfl
 |kap l n c=>simp only[Rep]at h;obtain⟨A,rfl,_⟩:=h;rfl
theorem eG:∀(cs:List LV) (vs:List Value),cs.all fM=true→aG w g cs vs→∀ u∈vs,u.oneCell'=true
 |[],vs,_,h=>by simp only[aG]at h;subst h;simp
 |c::cs,vs,ha,h=>by
  simp only[aG]at h
  obtain⟨v,vs',rfl,h1,h2⟩:=h
  simp only[List.all_cons,Bool.and_eq_true]at ha
  intro u hu
  rcases List.mem_cons.1 hu with rfl|hu
  ·exact aHe ha.1 h1
  ·exact eG cs vs' ha.2 h2 u hu
theorem yK(hi:Inv w g st){l:Nat}{o:cA}(h:st.H l=o)(ho:o≠.dead):l<st.next:=by
 rcases Nat.lt_or_ge l st.next with h0|h0
 ·exact h0
 ·rw[hi.fresh l h0]at h;exact absurd h.symm ho
theorem oE(hi:Inv w g st){l o e s:Nat}{cs ds:List LV}{us:List Value}(hH:st.H l=.box e s cs)(hnl:g.nl l=false)(c2:o+ds.length≤cs.length)(hcl:aG w g ds us)(hone:∀ u∈us,u.oneCell'=true):
 ∃ w',(storeCells ⟨g.β l,o,none⟩ us 0).run P w=.ok () w'∧Inv w' g (st.set l (.box e s (cs.take o++ds++cs.drop (o+ds.length))))∧Ext w g w' g:=by
 obtain⟨_,k0,k'⟩:=hi.box l e s cs hH
 have hlen:=aK _ _ hcl
 obtain⟨cur,k1,k2,k4,k5,k6⟩:=k' hnl
 have hst:=run_storeCells_at P (g.β l) o e us 0 cur.toArray w k1 (by simp;omega) hone
 simp only[Nat.add_zero]at hst
 have hfin:=tD (cs':=cs.take o++ds++cs.drop (o+ds.length)) (vs':=cur.take o++us++cur.drop (o+us.length)) hi hH hnl (by
  rw[← k2];simp only[List.length_append,List.length_take,List.length_drop];omega) (by simp only[List.length_append,List.length_take,List.length_drop];omega) (by
  have hx1:(cs.take o++ds++cs.drop (o+ds.length)).length=cs.length:=by simp only[List.length_append,List.length_take,List.length_drop];omega
  have hx2:(cur.take o++us++cur.drop (o+us.length)).take cs.length=(cur.take cs.length).take o++us++(cur.take cs.length).drop (o+us.length):=by
   rw[List.take_append,List.take_append,List.take_take,List.take_take,List.drop_take]
   simp only[List.length_append,List.length_take]
   rw[show min cs.length o=o by omega,show min o cs.length=o by omega]
   rw[List.take_of_length_le (l:=us) oO]
   congr 2
   omega
  rw[hx1,hx2,hlen]
  exact bP _ _ _ _ (bP _ _ _ _ (dB o _ _ k5) hcl) (gA _ _ _ k5))
 exact⟨_,hst,hfin.1,hfin.2⟩
theorem aCl(hT:bC P T)(hi:Inv w g st){t:TypeId}{x y:LV}{v u:Value}{r:bL}(he:aAU T t x y st=some r)(hc:r.c)(h:Rep w g x v)(hu:Rep w g y u):
 r.v=.dead∧∃ w',(Instr.storeAt t v u).run P w=.ok () w'∧Inv w' g r.s∧Ext w g w' g:=by
 unfold aAU at he
 split at he
 ·rename_i row l o ds ht hds
  cases hH:st.H l with
  |box e s cs=>
   simp only[hH,Option.some.injEq]at he
   subst he
   obtain⟨c1,c2,c3⟩:=hc
   simp only[Rep]at h
   obtain⟨rfl,hl⟩:=h
   have hrow:=hT t row ht
   have hcl:=mT hds hu
   have hlen:=aK _ _ hcl
   have hsz:u.cells.size=row.size:=by rw[← c1,hlen];simp
   obtain⟨_,k0,k'⟩:=hi.box l e s cs hH
   cases hnl:g.nl l with
   |true=>
    obtain⟨_,rfl⟩:=k0 hnl
    have hd0:ds=[]:=List.eq_nil_of_length_eq_zero (by simp at c2;simpa using c2.2)
    subst hd0
    have hu0:u.cells.toList=[]:=List.eq_nil_of_length_eq_zero hlen.symm
    refine⟨rfl,w,?_,?_,Ext.refl w g⟩
    ·simp[Instr.storeAt,Instr.sureAddr,storeVar,hrow.sizeOf,hsz,hu0,storeCells]
    ·have:st.set l (.box e s (([]:List LV).take o++[]++([]:List LV).drop (o+([]:List LV).length)))=st:=by
      cases st with
      |mk nx H=>
       simp only[St.set,List.take_nil,List.append_nil,List.drop_nil]
       congr 1
       funext x
       by_cases hx:x=l
       ·rw[if_pos hx,hx];exact hH.symm
       ·rw[if_neg hx]
     simp only[this];exact hi
   |false=>
    obtain⟨w',hst,hfin⟩:=oE (P:=P) hi hH hnl c2 hcl (eG _ _ c3 hcl)
    refine⟨rfl,w',?_,hfin.1,hfin.2⟩
    simp[Instr.storeAt,Instr.sureAddr,storeVar,hrow.sizeOf,hsz]
    simpa using hst
  |_=>simp[hH]at he
 ·simp at he
theorem tT(hT:bC P T){t:TypeId}{x:LV}{v:Value}{f:Nat}{r:bL}(he:iH T t x f st=some r)(hc:r.c)(h:Rep w g x v):
 r.s=st∧∃ u,(Instr.fieldAt t v f).run P w=.ok u w∧Rep w g r.v u:=by
 unfold iH at he
 split at he
 ·rename_i fs hs
  split at he
  ·rename_i off ty hf
   split at he
   ·rename_i row hrow
    obtain⟨F,hd,hF⟩:=oN hT hs
    have hfld:∃ fd,F[f]?=some fd∧fd.offset=off∧fd.type=ty:=by
     rw[← hF]at hf
     simp only[List.getElem?_map,Option.map_eq_some_iff]at hf
     obtain⟨fd,h1,h2⟩:=hf
     simp only[Prod.mk.injEq]at h2
     exact⟨fd,by simpa using h1,h2.1,h2.2⟩
    obtain⟨fd,h1,rfl,rfl⟩:=hfld
    have hr:=hT _ row hrow
    split at he
    ·rename_i l o
     simp only[Option.some.injEq]at he
     subst he
     simp only[Rep]at h
     obtain⟨rfl,hl⟩:=h
     refine⟨rfl,.pointer (some ⟨g.β l,o+fd.offset,none⟩),?_,by simp[Rep,hl]⟩
     simp[Instr.fieldAt,run_underlying hd,h1,Instr.sureAddr,fieldPlace,hr.sizeOf,add_lit]
     intro h0;exact absurd h0 hc
    ·rename_i cs
     simp only[Option.some.injEq]at he
     subst he
     simp only[Rep]at h
     obtain⟨b,o,rfl,hrr⟩:=h
     refine⟨rfl,.pointer (some ⟨b,o+fd.offset,none⟩),?_,by simp only[Rep];exact⟨b,_,rfl,eR _ _ _ hrr⟩⟩
     simp[Instr.fieldAt,run_underlying hd,h1,Instr.sureAddr,fieldPlace,hr.sizeOf,add_lit]
     intro h0;exact absurd h0 hc
    ·rename_i l cs
     simp only[Option.some.injEq]at he
     subst he
     simp only[Rep]at h
     obtain⟨rfl,_,hrr⟩:=h
     refine⟨rfl,.pointer (some ⟨g.β l,0+fd.offset,none⟩),?_,by simp only[Rep];exact⟨_,_,rfl,eR _ _ _ hrr⟩⟩
     simp[Instr.fieldAt,run_underlying hd,h1,Instr.sureAddr,fieldPlace,hr.sizeOf,add_lit]
     intro h0;exact absurd h0 hc
    ·simp at he
   ·simp at he
  ·simp at he
 ·simp at he
theorem aDa(hT:bC P T){t:TypeId}{x:LV}{v:Value}{f:Nat}{r:bL}(he:vW T t x f st=some r)(hc:r.c)(h:Rep w g x v):
 r.s=st∧∃ u,(Instr.field t v f).run P w=.ok u w∧Rep w g r.v u:=by
 unfold vW at he
 split at he
 ·rename_i fs cs hs
  split at he
  ·rename_i off ty hf
   split at he
   ·rename_i row hrow
    obtain⟨F,hd,hF⟩:=oN hT hs
    have hfld:∃ fd,F[f]?=some fd∧fd.offset=off∧fd.type=ty:=by
     rw[← hF]at hf
     simp only[List.getElem?_map,Option.map_eq_some_iff]at hf
     obtain⟨fd,h1,h2⟩:=hf
     simp only[Prod.mk.injEq]at h2
     exact⟨fd,by simpa using h1,h2.1,h2.2⟩
    obtain⟨fd,h1,rfl,rfl⟩:=hfld
    have hr:=hT _ row hrow
    simp only[Rep]at h
    obtain⟨vs,rfl,hl⟩:=h
    cases ha:row.agg with
    |true=>
     simp only[ha,if_true,Option.some.injEq]at he
     subst he
     refine⟨rfl,.agg ((vs.drop fd.offset).take row.size).toArray,?_,by simp only[Rep];exact⟨_,rfl,dB _ _ _ (gA _ _ _ hl)⟩⟩
     simp[Instr.field,run_underlying hd,h1,part,asAgg,hr.agg,ha,hr.sizeOf]
    |false=>
     simp only[ha,Bool.false_eq_true,if_false,Option.some.injEq]at he
     subst he
     have hlen:=aK _ _ hl
     have hc':fd.offset<cs.length:=hc
     obtain⟨u,hu,hru⟩:=oZ fd.offset cs vs cs[fd.offset] hl (List.getElem?_eq_getElem hc')
     refine⟨rfl,u,?_,?_⟩
     ·simp[Instr.field,run_underlying hd,h1,part,asAgg,hr.agg,ha,hu]
     ·rw[List.drop_eq_getElem_cons hc'];exact hru
   ·simp at he
  ·simp at he
 ·simp at he
theorem aGw(hi:Inv w g st){t:TypeId}{x:LV}{v:Value}{r:bL}(he:aNh t x st=some r)(h:Rep w g x v):
 ∃ u w' g',(Instr.box t v).run P w=.ok u w'∧Rep w' g' r.v u∧Inv w' g' r.s∧Ext w g w' g':=by
 unfold aNh at he
 cases hx:cX x with
 |none=>simp[hx]at he
 |some cs=>
  simp only[hx,Option.some.injEq]at he
  subst he
  have hcl:=mT hx h
  have hlen:=aK _ _ hcl
  have h1:=pE hi t cs.length 1 (by rw[hlen];simp) (by simp[maxLen]) (Nat.le_of_eq hlen) (by rw[List.take_of_length_le (Nat.le_of_eq hlen.symm)];exact hcl)
  have h2:=cV w g (.cells v.cells.toList.toArray t) 0 1 false
  refine⟨.pointer (some ⟨w.heap.size,0,none⟩),_,_,?_,?_,h1,h2⟩
  ·simp[Instr.box,newVar,newRow]
  ·simp only[Rep]
   simp[G.add,hi.next]
theorem cP{t:Nat}{row:bG}(h:aX P t row):row.zeroV.cells=row.zero.toArray:=by
 have hone:∀ v∈row.zero,v.oneCell'=true:=by simpa using h.zone
 unfold bG.zeroV
 cases ha:row.agg with
 |true=>rfl
 |false=>
  have h1:=h.one ha
  have h2:=h.zl
  match hz:row.zero with
  |[]=>rw[hz,h1]at h2;simp at h2
  |[z]=>
   have:=hone z (by rw[hz];simp)
   cases z<;>first|rfl|simp[Value.oneCell']at this
  |a::b::l=>rw[hz,h1]at h2;simp at h2
end
end Go.Proofs.YtempldclppogmaaGreatDoor.Aw
