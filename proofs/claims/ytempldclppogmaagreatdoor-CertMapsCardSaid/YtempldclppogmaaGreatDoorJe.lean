/- Graphs: Parts. -/
import Derived.Test.YtempldclppogmaaGreatDoorJd
import Derived.Test.YtempldclppogmaaGreatDoorAwSet
import Derived.Lib.TrailingZeros
import Derived.Test.YtempldclppogmaaGreatDoorAwTd
import Derived.Test.YtempldclppogmaaGreatDoorAwZ
import Derived.Test.YtempldclppogmaaGreatDoorAwRg
import Derived.Test.YtempldclppogmaaGreatDoorAwMr5
import Derived.Test.YtempldclppogmaaGreatDoorAwFn
import Derived.Laws.Bits64b
set_option linter.unusedVariables false
set_option linter.unusedSimpArgs false
namespace Go.Proofs.YtempldclppogmaaGreatDoor.Aw
open Go Go.RowKit Go.Proofs.YtempldclppogmaaGreatDoor.Pl
abbrev nX(rs:List (List Int)):List LV:=rs.map fun r=>.sl 0 r.length (us r)
structure lJ(g:Gr)(v:Int)(L:List Int)(k:Nat)(x:Int)(j:Nat):Prop where
 nodup:L.Nodup
 reach:∀ w∈L,Reach g.es v w
 mem:v∈L
 done:∀ u∈L.take k,∀ w∈nbr g.es u,w∈L
 lt:k<L.length
 at':L.getD k 0=x
 some:∀ w∈(nbr g.es x).take j,w∈L
theorem aAX.start{g:Gr}{n:Nat}{v:Int}{L:List Int}{k:Nat}(h:aAX g n v L k)(hk:k<L.length):lJ g v L k (L.getD k 0) 0:=
 ⟨h.nodup,h.reach,h.mem,h.done,hk,rfl,fun w hw=>by simp at hw⟩
theorem lJ.skip{g:Gr}{v:Int}{L:List Int}{k:Nat}{x:Int}{j:Nat}(h:lJ g v L k x j)(hj:j<(nbr g.es x).length)(hw:(nbr g.es x).getD j 0∈L):lJ g v L k x (j+1):=by
 refine⟨h.nodup,h.reach,h.mem,h.done,h.lt,h.at',fun w hw2=>?_⟩
 rw[List.take_succ_eq_append_getElem hj,List.mem_append,List.mem_singleton]at hw2
 rcases hw2 with hw2|rfl
 ·exact h.some w hw2
 ·rwa [aI _ _ hj]at hw
theorem lJ.push{g:Gr}{v:Int}{L:List Int}{k:Nat}{x:Int}{j:Nat}(h:lJ g v L k x j)(hj:j<(nbr g.es x).length)(hw:(nbr g.es x).getD j 0∉L):lJ g v (L++[(nbr g.es x).getD j 0]) k x (j+1):=by
 have hx:x∈L:=by rw[← h.at',aI _ _ h.lt];exact List.getElem_mem _
 refine⟨?_,fun w hw2=>?_,List.mem_append_left _ h.mem,fun u hu w hw2=>?_,?_,?_,fun w hw2=>?_⟩
 ·rw[List.nodup_append]
  refine⟨h.nodup,sS,fun a ha b hb=>?_⟩
  rw[List.mem_singleton]at hb
  rintro rfl
  exact hw (hb ▸ ha)
 ·rw[List.mem_append,List.mem_singleton]at hw2
  rcases hw2 with hw2|rfl
  ·exact h.reach w hw2
  ·exact .step (h.reach x hx) (by rw[aI _ _ hj];exact List.getElem_mem _)
 ·rw[List.take_append_of_le_length (by have:=h.lt;omega)]at hu
  exact List.mem_append_left _ (h.done u hu w hw2)
 ·have:=h.lt;simp;omega
 ·rw[← h.at']
  have:=h.lt
  simp[List.getD_eq_getElem?_getD,List.getElem?_append_left this]
 ·rw[List.take_succ_eq_append_getElem hj,List.mem_append,List.mem_singleton]at hw2
  rw[aI _ _ hj]
  rcases hw2 with hw2|rfl
  ·exact List.mem_append_left _ (h.some w hw2)
  ·exact List.mem_append_right _ (List.mem_singleton.2 rfl)
theorem lJ.finish{g:Gr}{n:Nat}{v:Int}{L:List Int}{k:Nat}{x:Int}{j:Nat}(h:lJ g v L k x j)(hj:(nbr g.es x).length≤j):aAX g n v L (k+1):=by
 refine⟨h.nodup,h.reach,h.mem,fun u hu w hw=>?_⟩
 rw[List.take_succ_eq_append_getElem h.lt,List.mem_append,List.mem_singleton]at hu
 rcases hu with hu|rfl
 ·exact h.done u hu w hw
 ·have hx:L[k]'h.lt=x:=(aI _ _ h.lt).symm.trans h.at'
  rw[hx]at hw
  exact h.some w (by rw[List.take_of_length_le hj];exact hw)
theorem lJ.len{g:Gr}(hg:Good g){v:Int}{L:List Int}{k:Nat}{x:Int}{j:Nat}(h:lJ g v L k x j)(hv:v∈g.vs):L.length≤g.vs.length:=
 List.Nodup.length_le_of_subset h.nodup fun w hw=>hg.reach hv (h.reach w hw)
def lN(es:List (List Int×LV))(P:Int→Prop):Prop:=∀ v,(P v→(aY es [v]).getD (i 0)=i 1)∧(¬P v→(aY es [v]).getD (i 0)=i 0)
theorem lN.step{es:List (List Int×LV)}{P P':Int→Prop}(h:lN es P)(w:Int)(hp:∀ v,P' v↔P v∨v=w):lN (aV es [w] (i 1)) P':=by
 intro v
 rw[dA]
 by_cases hv:v=w
 ·subst hv
  simp only[if_true,Option.getD_some]
  exact⟨fun _=>by trivial,fun h1=>absurd ((hp v).2 (.inr rfl)) h1⟩
 ·rw[if_neg (by simpa using hv),hp]
  exact⟨fun h1=>(h v).1 (h1.resolve_right hv),fun h1=>(h v).2 fun h2=>h1 (.inl h2)⟩
theorem lN.congr{es:List (List Int×LV)}{P P':Int→Prop}(h:lN es P)(hp:∀ v,P' v↔P v):lN es P':=fun v=>by rw[hp];exact h v
def PtF(m ms:Nat)(es:List (List Int×LV))(n:Nat)(g:Gr)(st:St)(j:Nat)(P:Int→Prop)(fr:Frm)(st2:St):Prop:=
 fr 4=.mp m∧fr 5=.mp ms∧fr 16=.sl 0 g.vs.length (us g.vs)∧fr 17=i g.vs.length∧fr 18=i j∧(m<ms∧ms<st2.next∧st.next≤m)∧st2.H m=.map false [.u32] es∧aA st st2∧(∃ es2,st2.H ms=.map false [.u32] es2∧lN es2 P)∧
  ∃ t R,fr 3=.sl t R.length (nX R)∧cH g j R∧t≠0∧st.next≤t∧t<st2.next∧st2.H t=.own 22 1 R.length
def PtL(m ms:Nat)(es:List (List Int×LV))(n:Nat)(g:Gr)(st:St)(j:Nat)(v:Int)(L:List Int)(fr:Frm)(st2:St):Prop:=
 PtF m ms es n g st j (fun w=>Seen g j w∨w∈L) fr st2∧∃ q,fr 8=.ms q 0 L.length∧st2.H q=.box 34 1 (us L)∧st.next≤q∧q<st2.next
theorem PtL.fr{m ms:Nat}{es:List (List Int×LV)}{n:Nat}{g:Gr}{st:St}{j:Nat}{v:Int}{L:List Int}{fr fr':Frm}{st2:St}(h:PtL m ms es n g st j v L fr st2)(h3:fr' 3=fr 3)(h4:fr' 4=fr 4)(h5:fr' 5=fr 5)(h8:fr' 8=fr 8)(h16:fr' 16=fr 16)(h17:fr' 17=fr 17)(h18:fr' 18=fr 18):PtL m ms es n g st j v L fr' st2:=by
 obtain⟨⟨f4,f5,f16,f17,f18,a,b,c,d,t,R,f3,r⟩,q,f8,r2⟩:=h
 exact⟨⟨h4.trans f4,h5.trans f5,h16.trans f16,h17.trans f17,h18.trans f18,a,b,c,d,t,R,h3.trans f3,r⟩,q,h8.trans f8,r2⟩
set_option maxHeartbeats 2000000 in
theorem aPJ(g:Gr)(st:St)(hg:Good g)(hv:g.vs.length≤1000)(he:g.es.length≤1000):
 aB Tryz.prog 100 [.ag (grL g)] st fun r st'=>(∃ t R,r=.sl t R.length (nX R)∧cH g g.vs.length R)∧aA st st':=by
 refine qO aF Tryz.func100 rfl rfl Tryz.ntmps100 (rs:=[.tmp 2]) rfl sS ?_
 (repeat' (first|refine qS ?_|(refine w_e [] ?_;intro J hJ;simp only[];simp[];(try refine hJ _ _ (zZ ?_)))))
 refine qE (near g _ he) sS ?_;rintro r s1 ⟨m,es,rfl,hm1,hm2,hM,hk1,hR⟩
 have hn1:=hk1.next
 simp only[aC]at hn1 hm1
 have hG1:s1.H st.next=.box 25 2 (grL g):=by rw[hk1.H _ sS];simp
 have hms:¬st.next=s1.next:=oO
 (repeat' (first|refine qS ?_|refine qB ?_|((first|(refine w_e [] ?_;intro J hJ;simp only[])|(refine aE ?_));simp[hG1,hms];refine hJ _ _ (zZ ?_))))
 obtain⟨ms,hmse⟩:∃ ms,ms=s1.next:=⟨_,rfl⟩
 refine cG fun hpos=>?_
 refine dW 3 22 1 sS ?_
 refine qL (fun z fr st2=>∃ j:Nat,j≤g.vs.length∧z=g.vs.length-j∧PtF m ms es 0 g st j (Seen g j) fr st2) g.vs.length ?_ ?_
 ·refine⟨0,oO,oO,sS,by simp[hmse],sS,sS,sS,⟨oO,by simp;omega,oO⟩,?_,?_,⟨[],by simp[hmse],fun v=>⟨fun h=>?_,fun _=>rfl⟩⟩,s1.next+1,[],sS,.zero,oO,oO,sS,sS⟩
  ·have a1:¬m=s1.next+1:=oO
   have a2:¬m=s1.next:=oO
   simp[a1,a2,hM]
  ·exact(((aA.new _ _).trans hk1).trans (aA.new _ _)).trans (aA.new _ _)
  ·obtain⟨u,hu,_⟩:=h;simp at hu
 rintro z fr st2 ⟨j,hj,rfl,f4,f5,f16,f17,f18,⟨hmm,hmn,hml⟩,hM2,hkp,⟨es2,hS,hSI⟩,t,R,f3,hPT,ht0,htl,htn,htH⟩ JJ hJJ
 by_cases hlt:j<g.vs.length
 rotate_left
 ·clear hJJ
  have hj':j=g.vs.length:=oO
  rw[hj']at hPT
  (repeat' (first|refine qS ?_|(refine qX (zZ ?_))|(refine qR (zZ ?_);simp[f3,f17,f18,hlt])|(refine qC ?_;simp[f3,f17,f18,hlt])|(refine w_e [] ?_;intro J hJ;simp only[];simp[f3,f17,f18,hlt];refine hJ _ _ (zZ ?_))))
  exact⟨⟨t,R,⟨rfl,rfl,rfl⟩,hPT⟩,hkp⟩
 have hd:=qG g.vs j hlt
 have hw:=qN j oO
 have hvin:g.vs.getD j 0∈g.vs:=by rw[aI _ _ hlt];exact List.getElem_mem hlt
 have hsame:=@aHN g j hlt
 have hsucc:=@zK g j hlt
 have hps:=fun hs=>cH.seen hPT hlt hs
 have hpl:=fun(c:List Int) hs hc=>cH.lead (c:=c) hPT hlt hs hc
 generalize hx:g.vs.getD j 0=v at *
 by_cases hs:Seen g j v
 ·have hg1:=(hSI v).1 hs
  (repeat' (first|refine qS ?_|refine qB ?_|(refine qK (zZ ?_))|(refine qX (zZ ?_))|(refine qC ?_;simp[f5,f16,f17,f18,hlt,hd,hw,hS,hg1])|(refine w_e [] ?_;intro J hJ;simp only[];simp[f5,f16,f17,f18,hlt,hd,hw,hS,hg1];refine hJ _ _ (zZ ?_))))
  exact hJJ (g.vs.length-(j+1)) _ _ oO ⟨j+1,oO,rfl,by simp[f4],by simp[f5],by simp[f16],by simp[f17],sS,⟨hmm,hmn,hml⟩,hM2,hkp,⟨es2,hS,hSI.congr fun w=>hsame hs⟩,t,R,by simp[f3],hps hs,ht0,htl,htn,htH⟩
 have hg1:=(hSI v).2 hs
 (repeat' (first|refine qS ?_|(refine w_e [] ?_;intro J hJ;simp only[];simp[f5,f16,f17,f18,hlt,hd,hw,hS,hg1];refine hJ _ _ (zZ ?_))))
 refine qC ?_;simp[hlt]
 (repeat' (first|refine qS ?_|refine qB ?_|(refine qK (zZ ?_))|(refine w_e [] ?_;intro J hJ;simp only[];simp[f5,f16,f17,f18,hlt,hd,hw,hS,hg1];refine hJ _ _ (zZ ?_))))
 refine qC ?_;simp
 refine qK (zZ ?_)
 have hne1:¬m=ms:=oO
 have hne2:¬t=ms:=fun h=>by rw[h,hS]at htH;cases htH
 refine qS ?_;(refine w_e [] ?_;intro J hJ;simp only[];simp[f5,hS];refine hJ _ _ (zZ ?_))
 refine qS ?_;(refine w_e [29] ?_;intro J hJ;simp only[];simp[];refine hJ _ _ (zZ ?_))
 refine qS ?_
 refine bU (fun fr st2=>∃ L,aAX g j v L L.length∧PtL m ms es 0 g st j v L fr st2) ?_ ?_
 ·clear hJJ
  (repeat' (first|refine qS ?_|refine qB ?_|(refine w_e [] ?_;intro J hJ;simp only[];simp[];refine hJ _ _ (zZ ?_))))
  refine qL (fun z fr st2=>∃ k L,k≤L.length∧z=g.vs.length-k∧fr 9=i (k:Nat)∧aAX g j v L k∧PtL m ms es 0 g st j v L fr st2) g.vs.length ?_ ?_
  ·refine⟨0,[v],sS,sS,sS,⟨sS,fun w hw=>?_,sS,fun u hu=>by simp at hu⟩,⟨by simp[f4],by simp[f5],by simp[f16],by simp[f17],by simp[f18],⟨hmm,by simp;omega,hml⟩,?_,(by repeat (first|exact hkp|(refine aA.trans ?_ (aA.new _ _))|(refine aA.set ?_ (by have:=hkp.next;omega) _))),⟨_,?_,hSI.step v fun w=>?_⟩,t,R,by simp[f3],hPT,ht0,htl,by simp;omega,?_⟩,st2.next,sS,sS,by have:=hkp.next;omega,sS⟩
   ·rw[List.mem_singleton]at hw;subst hw;exact .refl
   ·have a2:¬m=st2.next:=oO
    simp[a2,hne1,hM2]
   ·have a2:¬ms=st2.next:=oO
    simp[a2]
   ·rw[List.mem_singleton]
   ·have a2:¬t=st2.next:=oO
    simp[a2,hne2,htH]
  clear f3 f4 f5 f16 f17 f18 hmn hM2 hkp hS hSI hg1 htn htH hne2 ht0 htl hPT hps hpl t R es2 st2 fr
  rintro z fr st2 ⟨k,L,hkL,rfl,f9,hSr,hP⟩ J2 hJ2
  obtain⟨⟨f4,f5,f16,f17,f18,⟨-,hmn,-⟩,hM2,hkp,⟨es2,hS,hSI⟩,t,R,f3,hPT,ht0,htl,htn,htH⟩,q,f8,hq,hql,hqn⟩:=id hP
  have hLl:=hSr.sub hg hvin
  by_cases hkl:k<L.length
  rotate_left
  ·clear hJ2
   have hk':k=L.length:=oO
   rw[hk']at hSr
   (repeat' (first|refine qS ?_|(refine qX (zZ ?_))|(refine qC ?_;simp[f8,f9,hkl])|(refine w_e [] ?_;intro J hJ;simp only[];simp[f8,f9,hkl];refine hJ _ _ (zZ ?_))))
   exact⟨by trivial,L,hSr,⟨by simp[f4],by simp[f5],by simp[f16],by simp[f17],by simp[f18],⟨hmm,hmn,hml⟩,hM2,hkp,⟨es2,hS,hSI⟩,t,R,by simp[f3],hPT,ht0,htl,htn,htH⟩,q,by simp[f8],hq,hql,hqn⟩
  have hdL:=qG L k hkl
  have hst:=hSr.start hkl
  have hwk:=qN k oO
  generalize hxx:L.getD k 0=x at *
  have hyl:(nbr g.es x).length≤2*g.es.length:=iA (rQ x) (aDt x) g.es
  obtain⟨X,hX,hXl⟩:∃ X,(aY es [x]).getD .nil=X∧((X=.nil∧nbr g.es x=[])∨∃ t',X=.sl t' (nbr g.es x).length (us (nbr g.es x))):=by
   rcases hR.cases x with⟨h1,h2⟩|⟨t',h1⟩
   ·exact⟨_,h1,.inl ⟨rfl,h2⟩⟩
   ·exact⟨_,h1,.inr ⟨t',rfl⟩⟩
  (repeat (refine qS ?_));(refine w_e [] ?_;intro J hJ;simp only[];simp[f8,f9,hkl];refine hJ _ _ (zZ ?_))
  refine qC ?_;simp[hkl]
  refine qK (zZ ?_)
  refine qS ?_;refine qB ?_;refine qS ?_
  refine bU (fun fr st2=>fr 9=i k∧fr 41=X∧fr 42=i (nbr g.es x).length∧fr 43=i (0:Nat)∧PtL m ms es 0 g st j v L fr st2) ?_ ?_
  ·clear hJ2
   rcases hXl with⟨rfl,hy⟩|⟨t',rfl⟩
   ·(repeat' (refine w_e [] ?_;intro J hJ;simp only[];simp[f4,f8,f9,hkl,hdL,hq,hM2,hX];refine hJ _ _ (zZ ?_)))
    exact⟨by trivial,by simp[f9],sS,by simp[hy],sS,hP.fr sS sS sS sS sS sS sS⟩
   ·(repeat' (refine w_e [] ?_;intro J hJ;simp only[];simp[f4,f8,f9,hkl,hdL,hq,hM2,hX];refine hJ _ _ (zZ ?_)))
    exact⟨by trivial,by simp[f9],sS,sS,sS,hP.fr sS sS sS sS sS sS sS⟩
  clear f3 f4 f5 f8 f9 f16 f17 f18 hmn hM2 hkp hS hSI htn htH ht0 htl hPT hP hq hql hqn q t R es2 st2 fr
  rintro fr st2 ⟨f9,f41,f42,f43,hP⟩
  refine qB ?_
  refine qL (fun z fr st2=>∃ jj L,jj≤(nbr g.es x).length∧z=(nbr g.es x).length-jj∧fr 9=i k∧fr 41=X∧fr 42=i (nbr g.es x).length∧fr 43=i (jj:Nat)∧lJ g v L k x jj∧PtL m ms es 0 g st j v L fr st2) (nbr g.es x).length ?_ ?_
  ·exact⟨0,L,oO,oO,f9,f41,f42,f43,hst,hP⟩
  clear f9 f41 f42 f43 hP hst hSr hkL hkl hLl hdL hxx L fr st2
  rintro z fr st2 ⟨jj,L,hjj,rfl,f9,f41,f42,f43,hSr,hP⟩ J3 hJ3
  obtain⟨⟨f4,f5,f16,f17,f18,⟨-,hmn,-⟩,hM2,hkp,⟨es2,hS,hSI⟩,t,R,f3,hPT,ht0,htl,htn,htH⟩,q,f8,hq,hql,hqn⟩:=id hP
  have hLl:=hSr.len hg hvin
  by_cases hjl:jj<(nbr g.es x).length
  rotate_left
  ·clear hJ3
   have hkl:=hSr.lt
   (repeat' (first|refine qS ?_|(refine qX (zZ ?_))|(refine qC ?_;simp[f42,f43,hjl,f9,hwk])|(refine w_e [] ?_;intro J hJ;simp only[];simp[f42,f43,hjl,f9,hwk];refine hJ _ _ (zZ ?_))))
   exact hJ2 (g.vs.length-(k+1)) _ _ oO ⟨k+1,L,oO,rfl,sS,hSr.finish oO,hP.fr sS sS sS sS sS sS sS⟩
  clear hJ2
  have hdy:=qG (nbr g.es x) jj hjl
  have hwj:=qN jj oO
  have hXs:∃ t',X=.sl t' (nbr g.es x).length (us (nbr g.es x)):=by
   rcases hXl with⟨_,hy⟩|h
   ·rw[hy]at hjl;simp at hjl
   ·exact h
  obtain⟨t',hXe⟩:=hXs
  rw[hXe]at f41
  have hskip:=hSr.skip hjl
  have hpush:=hSr.push hjl
  have hwm:(nbr g.es x).getD jj 0∈nbr g.es x:=by rw[aI _ _ hjl];exact List.getElem_mem _
  generalize hwx:(nbr g.es x).getD jj 0=w at *
  by_cases hwL:w∈L
  ·have hg2:=(hSI w).1 (.inr hwL)
   (repeat' (first|refine qS ?_|refine qB ?_|(refine qK (zZ ?_))|(refine qC ?_;simp[f5,f41,f42,f43,hjl,hdy,hS,hg2,hwj])|(refine w_e [] ?_;intro J hJ;simp only[];simp[f5,f41,f42,f43,hjl,hdy,hS,hg2,hwj];refine hJ _ _ (zZ ?_))))
   exact hJ3 ((nbr g.es x).length-(jj+1)) _ _ oO ⟨jj+1,L,oO,rfl,by simp[f9],by simp[f41,hXe],by simp[f42],sS,hskip hwL,hP.fr sS sS sS sS sS sS sS⟩
  have hns:¬(Seen g j w∨w∈L):=by
   rintro(h|h)
   ·have hxL:x∈L:=by rw[← hSr.at',aI _ _ hSr.lt];exact List.getElem_mem _
    exact hs (h.reach ((Reach.step .refl (pY hwm)).trans (hSr.reach x hxL).symm))
   ·exact hwL h
  have hg2:=(hSI w).2 hns
  have b1:¬q=ms:=fun h=>by rw[h,hS]at hq;cases hq
  have b2:¬q=st2.next:=oO
  (repeat' (first|refine qS ?_|refine qB ?_|(refine qK (zZ ?_))|(refine qC ?_;simp[f5,f8,f41,f42,f43,hjl,hdy,hS,hg2,hwj,hq,b1,b2])|(refine w_e [] ?_;intro J hJ;simp only[];simp[f5,f8,f41,f42,f43,hjl,hdy,hS,hg2,hwj,hq,b1,b2];(repeat refine ca ?_);refine hJ _ _ (zZ ?_))))
  have b3:¬m=q:=fun h=>by rw[← h,hM2]at hq;cases hq
  have b4:¬m=st2.next:=oO
  have b5:¬m=st2.next+1:=oO
  have b6:¬ms=q:=fun h=>b1 h.symm
  have b7:¬ms=st2.next:=oO
  have b8:¬ms=st2.next+1:=oO
  have b9:¬t=ms:=fun h=>by rw[h,hS]at htH;cases htH
  have c1:¬t=q:=fun h=>by rw[h,hq]at htH;cases htH
  have c2:¬t=st2.next:=oO
  have c3:¬t=st2.next+1:=oO
  refine hJ3 ((nbr g.es x).length-(jj+1)) _ _ oO ⟨jj+1,L++[w],oO,rfl,by simp[f9],by simp[f41,hXe],by simp[f42],sS,hpush hwL,⟨by simp[f4],by simp[f5],by simp[f16],by simp[f17],by simp[f18],⟨hmm,by simp;omega,hml⟩,by simp[hne1,b3,b4,b5,hM2],(by repeat (first|exact hkp|(refine aA.trans ?_ (aA.new _ _))|(refine aA.set ?_ (by have:=hkp.next;omega) _))),⟨_,by simp[b6,b7,b8],hSI.step w fun z=>?_⟩,t,R,by simp[f3],hPT,ht0,htl,by simp;omega,by simp[b9,c1,c2,c3,htH]⟩,st2.next+1,sS,sS,by have:=hkp.next;omega,sS⟩
  rw[List.mem_append,List.mem_singleton]
  exact or_assoc.symm
 clear f3 f4 f5 f16 f17 f18 hmn hM2 hkp hS hSI hg1 htn htH hne2 ht0 htl hPT hps hpl t R es2 st2 fr
 rintro fr st2 ⟨L,hSr,⟨f4,f5,f16,f17,f18,⟨-,hmn,-⟩,hM2,hkp,⟨es2,hS,hSI⟩,t,R,f3,hPT,ht0,htl,htn,htH⟩,q,f8,hq,hql,hqn⟩
 have hpl:=fun(c:List Int) hs hc=>cH.lead (c:=c) hPT hlt hs hc
 rw[hx]at hpl
 have hLl:=hSr.sub hg hvin
 have hRl:=hPT.len
 have b1:¬q=ms:=fun h=>by rw[h,hS]at hq;cases hq
 have b3:¬m=q:=fun h=>by rw[← h,hM2]at hq;cases hq
 have b6:¬ms=q:=fun h=>b1 h.symm
 have c1:¬t=q:=fun h=>by rw[h,hq]at htH;cases htH
 (repeat' (first|refine qS ?_|(refine w_e [] ?_;intro J hJ;simp only[];simp[f8])))
 refine qE (aGl L q st2 oO hqn hq) (by simp[f8]) ?_;rintro r st' ⟨c,hc,hcp,hcs,hof⟩
 have hcl:=hcp.length_eq
 have hnx:=hof.1
 have hM3:=(hof.2 m b3 oO).trans hM2
 have hS3:=(hof.2 ms b6 oO).trans hS
 have htH3:=(hof.2 t c1 htn).trans htH
 have hkp3:aA st st':=⟨Nat.le_trans hkp.next hnx,fun l hl=>(hof.2 l oO (by have:=hkp.next;omega)).trans (hkp.H l hl)⟩
 (refine aE ?_;simp[];refine hJ _ _ (zZ ?_))
 refine lG 8 (l:=q) (n:=L.length) (by simp[f8]) hc (by simp[hcl]) ?_
 have htk:(us c).take (L.length*1)=us c:=by rw[List.take_of_length_le (by simp[hcl])]
 rw[htk]
 have d1:¬t=st'.next:=oO
 have d2:¬t=st'.next+1:=oO
 have d3:¬m=st'.next:=oO
 have d4:¬m=st'.next+1:=oO
 have d5:¬ms=st'.next:=oO
 have d6:¬ms=st'.next+1:=oO
 have hmt:¬m=t:=fun h=>by rw[h,htH3]at hM3;cases hM3
 have hmst:¬ms=t:=fun h=>by rw[h,htH3]at hS3;cases hS3
 (repeat' (refine w_e [] ?_;intro J hJ;simp only[];simp[f3,f18,hw,htH3,ht0,c1,d1,d2];(repeat refine ca ?_);refine hJ _ _ (zZ ?_)))
 refine hJJ (g.vs.length-(j+1)) _ _ oO ⟨j+1,oO,rfl,by simp[f4],by simp[f5],by simp[f16],by simp[f17],sS,⟨hmm,by simp;omega,hml⟩,by simp[hmt,b3,d3,d4,hM3],?_,⟨es2,by simp[hmst,b6,d5,d6,hS3],hSI.congr fun w=>?_⟩,st'.next+1,R++[c],by simp[hcl],hpl c hs (aLC hg hvin hSr.nodup hSr.all hcp hcs),oO,oO,sS,sS⟩
 ·(repeat (first|exact hkp3|(refine aA.trans ?_ (aA.new _ _))|(refine aA.set ?_ (by have:=hkp.next;omega) _)))
 ·rw[hsucc,hSr.all]
theorem aEW{P:Program}{f:FuncId}{args:List LV}{st:St}{Q:LV→St→Prop}(h:aB P f args st fun r st'=>∃ t n cs,r=.sl t n cs∧Q (.sl 0 n cs) st'):aB P f args st Q:=by
 refine⟨h.1,fun w g vs hi hr=>(h.2 w g vs hi hr).mono ?_⟩
 rintro x w' ⟨v,r,st',g',rfl,⟨t,n,cs,rfl,hq⟩,hrep,hi',he⟩
 refine⟨v,_,st',g',rfl,hq,?_,hi',he⟩
 simp only[Rep]at hrep ⊢
 obtain⟨A,cap,h1,h2,h3,h4,h5⟩:=hrep
 exact⟨A,cap,h1,h2,h3,fun h=>absurd rfl h,h5⟩
def InI(es:List (List Int×LV))(S:List Int):Prop:=∀ v,(aY es [v]).getD (bb false)=bb (decide (v∈S))
theorem InI.step{es:List (List Int×LV)}{S:List Int}(h:InI es S)(w:Int):InI (aV es [w] (bb true)) (S++[w]):=by
 intro v
 rw[dA]
 by_cases hv:v=w
 ·subst hv;simp
 ·rw[if_neg (by simpa using hv),h v];simp[hv]
theorem InI.congr{es:List (List Int×LV)}{S S':List Int}(h:InI es S)(hs:∀ v,v∈S'↔v∈S):InI es S':=fun v=>by
 rw[h v,show decide (v∈S')=decide (v∈S) from decide_eq_decide.2 (hs v)]
structure nS(g:Gr)(v:Int)(S:List Int):Prop where
 nodup:S.Nodup
 mem:v∈S
 reach:∀ w∈S,Reach g.es v w
theorem nS.len{g:Gr}(hg:Good g){v:Int}(hv:v∈g.vs){S:List Int}(h:nS g v S):S.length≤g.vs.length:=
 List.Nodup.length_le_of_subset h.nodup fun w hw=>hg.reach hv (h.reach w hw)
theorem nS.push{g:Gr}{v:Int}{S:List Int}(h:nS g v S){x:Ed}(hx:x∈g.es){u w:Int}(hu:u∈S)(hw:w∉S)(hxw:(x.a=u∧x.b=w)∨(x.b=u∧x.a=w)):nS g v (S++[w]):=by
 refine⟨?_,List.mem_append_left _ h.mem,fun z hz=>?_⟩
 ·rw[List.nodup_append]
  refine⟨h.nodup,sS,fun a ha b hb=>?_⟩
  rw[List.mem_singleton]at hb
  rintro rfl
  exact hw (hb ▸ ha)
 ·rw[List.mem_append,List.mem_singleton]at hz
  rcases hz with hz|rfl
  ·exact h.reach z hz
  ·exact .step (h.reach u hu) (dX.2 ⟨x,hx,hxw⟩)
def aKy(es:List Ed)(S:List Int):Prop:=∀ x∈es,(x.a∈S↔x.b∈S)
theorem nS.part{g:Gr}(hg:Good g){v:Int}{S:List Int}(h:nS g v S)(he:aKy g.es S):nY g v (g.vs.filter fun w=>decide (w∈S)):=by
 refine⟨hg.rise.filter _,fun w=>?_⟩
 rw[List.mem_filter,decide_eq_true_eq]
 refine⟨fun hw=>⟨hw.1,h.reach w hw.2⟩,fun hw=>⟨hw.1,?_⟩⟩
 refine hw.2.closed (L:=fun w=>w∈S) h.mem fun u hu w hw=>?_
 obtain⟨x,hx,⟨rfl,rfl⟩|⟨rfl,rfl⟩⟩:=dX.1 hw
 ·exact(he x hx).1 hu
 ·exact(he x hx).2 hu
def RpI(ms:Nat)(g:Gr)(st:St)(S:List Int)(fr:Frm)(st2:St):Prop:=
 fr 2=.pt st.next 0∧fr 5=.mp ms∧st.next<ms∧ms<st2.next∧aA st st2∧st2.H st.next=.box 25 2 (grL g)∧∃ es,st2.H ms=.map false [.u32] es∧InI es S
theorem RpI.fr{ms:Nat}{g:Gr}{st:St}{S:List Int}{fr fr':Frm}{st2:St}(h:RpI ms g st S fr st2)(h2:fr' 2=fr 2)(h5:fr' 5=fr 5):RpI ms g st S fr' st2:=
 ⟨h2.trans h.1,h5.trans h.2.1,h.2.2⟩
theorem aIT(g:Gr)(v:Int)(st:St)(hg:Good g)(hv:g.vs.length≤1000)(he:g.es.length≤1000)(hvin:v∈g.vs):
 aB Tryz.prog 126 [.ag (grL g),u v] st fun r st'=>(∃ c,r=.sl 0 c.length (us c)∧nY g v c)∧aA st st':=by
 refine aEW ?_
 have hel:=aJ g.es
 refine qO aF Tryz.func126 rfl rfl Tryz.ntmps126 (rs:=[.tmp 4]) rfl sS ?_
 (repeat' (first|refine qS ?_|refine qB ?_|(refine w_e [] ?_;intro J hJ;simp only[];simp[];refine hJ _ _ (zZ ?_))))
 obtain⟨ms,hms⟩:∃ ms,ms=st.next+1:=⟨_,rfl⟩
 refine qL (fun z fr st2=>∃(gr:Bool) (S:List Int),z=(if gr=true then g.vs.length+1-S.length else 0)∧fr 6=bb gr∧nS g v S∧(gr=false→aKy g.es S)∧RpI ms g st S fr st2) g.vs.length ?_ ?_
 ·refine⟨true,[v],sS,sS,⟨sS,sS,fun w hw=>?_⟩,fun h=>absurd h sS,sS,by simp[hms],oO,by simp[hms],?_,sS,_,by simp[hms];rfl,fun w=>?_⟩
  ·rw[List.mem_singleton]at hw;subst hw;exact .refl
  ·(repeat (first|exact aA.refl _|(refine aA.trans ?_ (aA.new _ _))|(refine aA.set ?_ oO _)))
  ·by_cases hw:w=v
   ·subst hw;simp[aV,aY]
   ·simp[aV,aY,hw]
 rintro z fr st2 ⟨gr,S,rfl,f6,hF,hE,hI⟩ JJ hJJ
 cases gr
 ·clear hJJ
  obtain⟨f2,f5,hm1,hm2,hkp,hG,es,hM,hIn⟩:=hI
  have hpt:=hF.part hg (hE rfl)
  (repeat' (first|refine qS ?_|refine qB ?_|(refine qX (zZ ?_))|(refine qC ?_;simp[f6,f2,hG])|(refine w_e [] ?_;intro J hJ;simp only[];simp[f6,f2,hG];refine hJ _ _ (zZ ?_))))
  refine dW 9 34 1 sS ?_
  have hqq:∀ k,(g.vs.take (k+1)).filter (fun w=>decide (w∈S))=if k<g.vs.length then(if g.vs.getD k 0∈S then(g.vs.take k).filter (fun w=>decide (w∈S))++[g.vs.getD k 0]else(g.vs.take k).filter (fun w=>decide (w∈S)))else g.vs.filter (fun w=>decide (w∈S)):=by
   intro k
   by_cases hk:k<g.vs.length
   ·rw[if_pos hk,List.take_succ_eq_append_getElem hk,List.filter_append,aI _ _ hk]
    by_cases h:g.vs[k]∈S<;>simp[h]
   ·rw[if_neg hk,List.take_of_length_le oO]
  refine qL (fun z fr st3=>∃ k:Nat,k≤g.vs.length∧z=g.vs.length-k∧fr 5=.mp ms∧fr 40=.sl 0 g.vs.length (us g.vs)∧fr 41=i g.vs.length∧fr 42=i k∧st3.H ms=.map false [.u32] es∧ms<st3.next∧∃ t,fr 9=.sl t ((g.vs.take k).filter fun w=>decide (w∈S)).length (us ((g.vs.take k).filter fun w=>decide (w∈S)))∧aIZ t st ((g.vs.take k).filter fun w=>decide (w∈S)) st3) g.vs.length ?_ ?_
  ·have a1:¬ms=st2.next:=oO
   exact⟨0,oO,oO,by simp[f5],sS,sS,sS,by simp[a1,hM],by simp;omega,st2.next,sS,oO,by have:=hkp.next;omega,sS,sS,hkp.trans (aA.new _ _)⟩
  clear f2 f5 f6 hM hkp hG fr
  rintro z fr st3 ⟨k,hk,rfl,f5,f40,f41,f42,hM,hm3,t,f9,ht0,htl,htn,htH,hkp⟩ JJ hJJ
  by_cases hlt:k<g.vs.length
  rotate_left
  ·clear hJJ
   have hk':k=g.vs.length:=oO
   rw[hk',List.take_length]at f9
   (repeat' (first|refine qS ?_|(refine qX (zZ ?_))|(refine qR (zZ ?_);simp[f9,f41,f42,hlt])|(refine qC ?_;simp[f9,f41,f42,hlt])|(refine w_e [] ?_;intro J hJ;simp only[];simp[f9,f41,f42,hlt];refine hJ _ _ (zZ ?_))))
   exact⟨t,_,_,⟨rfl,rfl,rfl⟩,⟨_,⟨rfl,rfl⟩,hpt⟩,hkp⟩
  have hd:=qG g.vs k hlt
  have hw:=qN k oO
  have hst:=hqq k
  rw[if_pos hlt]at hst
  have hle:=List.length_filter_le (fun w=>decide (w∈S)) (g.vs.take k)
  rw[List.length_take]at hle
  generalize hx:g.vs.getD k 0=x at *
  generalize hFF:(g.vs.take k).filter (fun w=>decide (w∈S))=F at *
  have hIx:=hIn x
  have ht2:¬t=st3.next:=oO
  by_cases hxS:x∈S
  ·rw[if_pos hxS]at hst
   rw[decide_eq_true hxS]at hIx
   (repeat' (first|refine qS ?_|refine qB ?_|(refine qK (zZ ?_))|(refine qC ?_;simp[f5,f9,f40,f41,f42,hlt,hd,hw,hM,hIx,htH,ht0,ht2])|(refine w_e [] ?_;intro J hJ;simp only[];simp[f5,f9,f40,f41,f42,hlt,hd,hw,hM,hIx,htH,ht0,ht2];(repeat refine ca ?_);refine hJ _ _ (zZ ?_))))
   have a1:¬ms=st3.next:=oO
   have a2:¬ms=st3.next+1:=oO
   have a3:¬ms=t:=fun h=>by rw[h,htH]at hM;cases hM
   exact hJJ (g.vs.length-(k+1)) _ _ oO ⟨k+1,oO,rfl,by simp[f5],by simp[f40],by simp[f41],sS,by simp[a1,a2,a3,hM],by simp;omega,st3.next+1,by rw[hst];simp,oO,oO,sS,by rw[hst];simp,(by repeat (first|exact hkp|(refine aA.trans ?_ (aA.new _ _))|(refine aA.set ?_ (by have:=hkp.next;omega) _)))⟩
  ·rw[if_neg hxS]at hst
   rw[decide_eq_false hxS]at hIx
   (repeat' (first|refine qS ?_|refine qB ?_|(refine qK (zZ ?_))|(refine qC ?_;simp[f5,f9,f40,f41,f42,hlt,hd,hw,hM,hIx])|(refine w_e [] ?_;intro J hJ;simp only[];simp[f5,f9,f40,f41,f42,hlt,hd,hw,hM,hIx];refine hJ _ _ (zZ ?_))))
   exact hJJ (g.vs.length-(k+1)) _ _ oO ⟨k+1,oO,rfl,by simp[f5],by simp[f40],by simp[f41],sS,hM,hm3,t,by rw[hst];simp[f9],ht0,htl,htn,by rw[hst];exact htH,hkp⟩
 have hSl:=hF.len hg hvin
 obtain⟨f2,f5,hm1,hm2,hkp,hG,es,hM,hIn⟩:=id hI
 (repeat' (first|refine qS ?_|refine qB ?_|(refine qK (zZ ?_))|(refine qC ?_;simp[f6,f2,hG])|(refine w_e [] ?_;intro J hJ;simp only[];simp[f6,f2,hG];refine hJ _ _ (zZ ?_))))
 refine qL (fun z fr st2=>∃(k:Nat) (gr:Bool) (S':List Int),k≤g.es.length∧z=g.es.length-k∧fr 6=bb gr∧fr 17=.sl 0 g.es.length (eds g.es)∧fr 18=i g.es.length∧fr 19=i k∧nS g v S'∧(gr=false→aKy (g.es.take k) S')∧(gr=true→S.length<S'.length)∧S.length≤S'.length∧RpI ms g st S' fr st2) g.es.length ?_ ?_
 ·exact⟨0,false,S,oO,oO,sS,sS,sS,sS,hF,fun _ x hx=>by simp at hx,fun h=>absurd h sS,Nat.le_refl _,hI.fr sS sS⟩
 clear f2 f5 f6 hI hE hF hm1 hm2 hkp hG hM hIn es fr st2
 rintro z fr st2 ⟨k,gr,S',hk,rfl,f6,f17,f18,f19,hF,hE,hG2,hSS,hI⟩ J2 hJ2
 have hSl2:=hF.len hg hvin
 obtain⟨f2,f5,hm1,hm2,hkp,hG,es,hM,hIn⟩:=id hI
 by_cases hlt:k<g.es.length
 rotate_left
 ·clear hJ2
  have hk':k=g.es.length:=oO
  rw[hk',List.take_length]at hE
  (repeat' (first|refine qS ?_|(refine qX (zZ ?_))|(refine qC ?_;simp[f18,f19,hlt])|(refine w_e [] ?_;intro J hJ;simp only[];simp[f18,f19,hlt];refine hJ _ _ (zZ ?_))))
  refine hJJ (if gr=true then g.vs.length+1-S'.length else 0) _ _ ?_ ⟨gr,S',rfl,by simp[f6],hF,hE,hI.fr sS sS⟩
  cases gr
  ·simp;omega
  ·have:=hG2 rfl;simp;omega
 clear hJJ
 have hd:=aW g.es k hlt
 have hw:=qN k oO
 have hk3:k*3<g.es.length*3:=oO
 have hxin:g.es.getD k ed0∈g.es:=by rw[List.getD_eq_getElem?_getD,List.getElem?_eq_getElem hlt];exact List.getElem_mem hlt
 have hEn:(gr=false→aKy (g.es.take k) S')→((g.es.getD k ed0).a∈S'↔(g.es.getD k ed0).b∈S')→(gr=false→aKy (g.es.take (k+1)) S'):=by
  intro h1 h2 h3 y hy
  rw[List.take_succ_eq_append_getElem hlt,List.mem_append,List.mem_singleton]at hy
  rcases hy with hy|rfl
  ·exact h1 h3 y hy
  ·rw[List.getD_eq_getElem?_getD,List.getElem?_eq_getElem hlt]at h2;exact h2
 generalize hx:g.es.getD k ed0=x at *
 obtain⟨id,a,b⟩:=x
 simp only at hd hEn
 have hIa:=hIn a
 have hIb:=hIn b
 have a1:¬ms=st2.next:=oO
 have a2:¬st2.next=ms:=oO
 have a3:¬st.next=st2.next:=oO
 have a4:¬st.next=ms:=oO
 by_cases hab:(a∈S'↔b∈S')
 ·have hdd:decide (a∈S')=decide (b∈S'):=decide_eq_decide.2 hab
  rw[hdd]at hIa
  (repeat' (first|refine qS ?_|refine qB ?_|(refine qK (zZ ?_))|(refine qC ?_;simp[f5,f17,f18,f19,hlt,hd,hel,hw,hM,hIa,hIb,a1,a2])|(refine w_e [] ?_;intro J hJ;simp only[];simp[f5,f17,f18,f19,hlt,hd,hel,hw,hM,hIa,hIb,a1,a2];refine hJ _ _ (zZ ?_))))
  exact hJ2 (g.es.length-(k+1)) _ _ oO ⟨k+1,gr,S',oO,rfl,by simp[f6],by simp[f17],by simp[f18],sS,hF,hEn hE hab,hG2,hSS,by simp[f2],by simp[f5],hm1,by simp;omega,(by repeat (first|exact hkp|(refine aA.trans ?_ (aA.new _ _))|(refine aA.set ?_ (by have:=hkp.next;omega) _))),by simp[a3,hG],es,by simp[a1,hM],hIn⟩
 ·have hdd:¬decide (a∈S')=decide (b∈S'):=fun h=>hab (decide_eq_decide.1 h)
  have hIn2:=(hIn.step a).step b
  obtain⟨S2,hS2,hF2,hl2⟩:∃ S2,(∀ z,z∈S2↔z∈S'++[a]++[b])∧nS g v S2∧S'.length<S2.length:=by
   by_cases ha:a∈S'
   ·have hb:b∉S':=fun h=>hab ⟨fun _=>h,fun _=>ha⟩
    refine⟨S'++[b],fun z=>?_,hF.push hxin ha hb (.inl ⟨rfl,rfl⟩),sS⟩
    simp only[List.mem_append,List.mem_singleton]
    exact⟨fun h=>h.elim (fun h=>.inl (.inl h)) .inr,fun h=>h.elim (fun h=>h.elim .inl (fun h=>.inl (h ▸ ha))) .inr⟩
   ·have hb:b∈S':=Classical.byContradiction fun h=>hab ⟨fun h1=>absurd h1 ha,fun h1=>absurd h1 h⟩
    refine⟨S'++[a],fun z=>?_,hF.push hxin hb ha (.inr ⟨rfl,rfl⟩),sS⟩
    simp only[List.mem_append,List.mem_singleton]
    exact⟨fun h=>h.elim (fun h=>.inl (.inl h)) (fun h=>.inl (.inr h)),fun h=>h.elim (fun h=>h.elim .inl .inr) (fun h=>.inl (h ▸ hb))⟩
  have hIn3:=hIn2.congr hS2
  (repeat' (first|refine qS ?_|refine qB ?_|(refine qK (zZ ?_))|(refine qC ?_;simp[f5,f17,f18,f19,hlt,hd,hel,hw,hM,hIa,hIb,hdd,a1,a2])|(refine w_e [] ?_;intro J hJ;simp only[];simp[f5,f17,f18,f19,hlt,hd,hel,hw,hM,hIa,hIb,hdd,a1,a2];refine hJ _ _ (zZ ?_))))
  exact hJ2 (g.es.length-(k+1)) _ _ oO ⟨k+1,true,S2,oO,rfl,sS,by simp[f17],by simp[f18],sS,hF2,fun h=>absurd h sS,fun _=>by omega,oO,by simp[f2],by simp[f5],hm1,by simp;omega,(by repeat (first|exact hkp|(refine aA.trans ?_ (aA.new _ _))|(refine aA.set ?_ (by have:=hkp.next;omega) _))),by simp[a3,a4,hG],_,sS,hIn3⟩
theorem nY.seen{g:Gr}(hg:Good g){k:Nat}(hk:k<g.vs.length){x:Int}{c:List Int}(h:nY g (g.vs.getD k 0) (x::c)):Seen g k (g.vs.getD k 0)↔x≠g.vs.getD k 0:=by
 have hvin:g.vs.getD k 0∈g.vs:=by rw[aI _ _ hk];exact List.getElem_mem hk
 obtain⟨h1,h2⟩:=h
 have hmin:∀ w∈x::c,x≤w:=by
  intro w hw
  rw[List.mem_cons]at hw
  rcases hw with rfl|hw
  ·omega
  ·have:=(List.pairwise_cons.1 h1).1 w hw;omega
 have hxin:=(h2 x).1 (List.mem_cons_self ..)
 constructor
 ·rintro⟨u,hu,hr⟩ he
  obtain⟨k1,k2⟩:=(uI hg.rise hk).1 hu
  have:=hmin u ((h2 u).2 ⟨k1,hr.symm⟩)
  omega
 ·intro hne
  have:=hmin _ ((h2 _).2 ⟨hvin,.refl⟩)
  exact⟨x,(uI hg.rise hk).2 ⟨hxin.1,oO⟩,hxin.2.symm⟩
theorem aHX(g:Gr)(st:St)(hg:Good g)(hv:g.vs.length≤1000)(he:g.es.length≤1000):
 aB Tryz.prog 88 [.ag (grL g)] st fun r st'=>(∃ t R,r=.sl t R.length (nX R)∧cH g g.vs.length R)∧aA st st':=by
 refine qO aF Tryz.func88 rfl rfl Tryz.ntmps88 (rs:=[.tmp 2]) rfl sS ?_
 (repeat' (first|refine qS ?_|refine qB ?_|(refine w_e [] ?_;intro J hJ;simp only[];simp[];refine hJ _ _ (zZ ?_))))
 refine cG fun hpos=>?_
 refine dW 3 22 1 sS ?_
 refine qL (fun z fr st2=>∃ j:Nat,j≤g.vs.length∧z=g.vs.length-j∧fr 1=.pt st.next 0∧fr 8=.sl 0 g.vs.length (us g.vs)∧fr 9=i g.vs.length∧fr 10=i j∧st.next<st2.next∧st2.H st.next=.box 25 2 (grL g)∧aA st st2∧∃ t R,fr 3=.sl t R.length (nX R)∧cH g j R∧t≠0∧st.next<t∧t<st2.next∧st2.H t=.own 22 1 R.length) g.vs.length ?_ ?_
 ·refine⟨0,oO,oO,sS,sS,sS,sS,by simp;omega,sS,?_,st.next+1,[],sS,.zero,oO,oO,sS,sS⟩
  (repeat (first|exact aA.refl _|(refine aA.trans ?_ (aA.new _ _))|(refine aA.set ?_ oO _)))
 rintro z fr st2 ⟨j,hj,rfl,f1,f8,f9,f10,hsn,hG,hkp,t,R,f3,hPT,ht0,htl,htn,htH⟩ JJ hJJ
 by_cases hlt:j<g.vs.length
 rotate_left
 ·clear hJJ
  have hj':j=g.vs.length:=oO
  rw[hj']at hPT
  (repeat' (first|refine qS ?_|(refine qX (zZ ?_))|(refine qR (zZ ?_);simp[f3,f9,f10,hlt])|(refine qC ?_;simp[f3,f9,f10,hlt])|(refine w_e [] ?_;intro J hJ;simp only[];simp[f3,f9,f10,hlt];refine hJ _ _ (zZ ?_))))
  exact⟨⟨t,R,⟨rfl,rfl,rfl⟩,hPT⟩,hkp⟩
 have hd:=qG g.vs j hlt
 have hw:=qN j oO
 have hvin:g.vs.getD j 0∈g.vs:=by rw[aI _ _ hlt];exact List.getElem_mem hlt
 have hps:=fun hs=>cH.seen hPT hlt hs
 have hpl:=fun(c:List Int) hs hc=>cH.lead (c:=c) hPT hlt hs hc
 have hsn2:=fun x c=>@nY.seen g hg j hlt x c
 have hRl:=hPT.len
 generalize hx:g.vs.getD j 0=v at *
 (repeat' (first|refine qS ?_|refine qB ?_|(refine qK (zZ ?_))|(refine qC ?_;simp[f1,f8,f9,f10,hlt,hd,hG])|(refine w_e [] ?_;intro J hJ;simp only[];simp[f1,f8,f9,f10,hlt,hd,hG];(try refine hJ _ _ (zZ ?_)))))
 refine qE (aIT g v st2 hg hv he hvin) (by simp[f1,hG]) ?_;rintro r s2 ⟨⟨c,rfl,hc⟩,hk2⟩
 have hn2:=hk2.next
 have hG2:=(hk2.H _ hsn).trans hG
 have htH2:=(hk2.H _ htn).trans htH
 have hkp2:=hkp.trans hk2
 have a1:¬t=s2.next:=oO
 have a2:¬t=s2.next+1:=oO
 have a3:¬st.next=s2.next:=oO
 have a4:¬st.next=s2.next+1:=oO
 have a5:¬st.next=t:=oO
 cases c with
 |nil=>
  exfalso
  have:=(hc.2 v).2 ⟨hvin,.refl⟩
  simp at this
 |cons x c=>
  by_cases hxv:x=v
  ·have hns:¬Seen g j v:=fun h=>((hsn2 x c hc).1 h) hxv
   have hP2:=hpl _ hns hc
   (repeat' (first|refine qS ?_|(refine qC ?_;simp[f3,f10,hw,hxv,htH2,ht0,a1,a2])|((first|(refine w_e [] ?_;intro J hJ;simp only[])|(refine aE ?_));simp[f3,f10,hw,hxv,htH2,ht0,a1,a2];(repeat refine ca ?_);refine hJ _ _ (zZ ?_))))
   rw[hxv]at hP2
   refine hJJ (g.vs.length-(j+1)) _ _ oO ⟨j+1,oO,rfl,by simp[f1],by simp[f8],by simp[f9],sS,by simp;omega,by simp[a3,a4,a5,hG2],?_,s2.next+1,R++[v::c],sS,hP2,oO,oO,sS,sS⟩
   (repeat (first|exact hkp2|(refine aA.trans ?_ (aA.new _ _))|(refine aA.set ?_ oO _)))
  ·have hns:Seen g j v:=(hsn2 x c hc).2 hxv
   have hP2:=hps hns
   (repeat' (first|refine qS ?_|(refine qK (zZ ?_))|(refine qC ?_;simp[f3,f10,hw,hxv])|((first|(refine w_e [] ?_;intro J hJ;simp only[])|(refine aE ?_));simp[f3,f10,hw,hxv];refine hJ _ _ (zZ ?_))))
   exact hJJ (g.vs.length-(j+1)) _ _ oO ⟨j+1,oO,rfl,by simp[f1],by simp[f8],by simp[f9],sS,oO,hG2,hkp2,t,R,by simp[f3],hP2,ht0,htl,oO,htH2⟩
def aCc(f:FuncId)(caps:List LV)(st:St)(l:List Ed)(p:Ed→Bool):Prop:=∀ x∈l,∀ st2,aA st st2→aB Tryz.prog f (.ag (edL x)::caps) st2 fun r st3=>r=bb (p x)∧aA st2 st3
theorem aBs(l:List Ed)(p:Ed→Bool)(k:Nat)(hk:k<l.length):(l.take (k+1)).filter p=if p (l.getD k ed0)=true then(l.take k).filter p++[l.getD k ed0]else(l.take k).filter p:=by
 rw[List.take_succ_eq_append_getElem hk,List.filter_append,List.getD_eq_getElem?_getD,List.getElem?_eq_getElem hk]
 by_cases h:p l[k]=true<;>simp[h]
def aRb(X:LV)(F:List Ed):Prop:=(X=.nil∧F=[])∨∃ t,X=.sl t F.length (eds F)
set_option maxHeartbeats 1000000 in
theorem aRh(g:Gr)(f:FuncId)(caps:List LV)(p:Ed→Bool)(st:St)(hv:g.vs.length≤1000)(he:g.es.length≤1000)(hp:aCc f caps st g.es p):
 aB Tryz.prog 111 [.ag (grL g),.fn (.func f) caps] st fun r st'=>(∃ X,r=.ag [.sl 0 g.vs.length (us g.vs),X]∧aRb X (g.es.filter p))∧aA st st':=by
 have hel:=aJ g.es
 have hsm:small g.vs:=by unfold small;omega
 refine qO aF Tryz.func111 rfl rfl Tryz.ntmps111 (rs:=[.cell 4 25]) rfl sS ?_
 (repeat' (first|refine qS ?_|(refine w_e [] ?_;intro J hJ;simp only[];simp[];(try refine hJ _ _ (zZ ?_)))))
 refine qE (aJq g.vs 0 _ hsm) sS ?_;rintro r s1 ⟨rfl,hk1⟩
 have hn1:=hk1.next
 simp only[aC]at hn1
 have hG1:s1.H st.next=.box 25 2 (grL g):=by rw[hk1.H _ (by simp;omega)];simp
 have hC1:s1.H (st.next+1)=.box 25 2 [.nil,.nil]:=by rw[hk1.H _ sS];simp
 have e1:¬st.next=s1.next:=oO
 (repeat' (first|refine qS ?_|refine qB ?_|((first|(refine w_e [] ?_;intro J hJ;simp only[])|(refine aE ?_));simp[hG1,e1];refine hJ _ _ (zZ ?_))))
 have hkp1:aA st s1:=((aA.new _ _).trans (aA.new _ _)).trans hk1
 obtain⟨q4,hq4⟩:∃ q,q=st.next+1:=⟨_,rfl⟩
 obtain⟨q5,hq5⟩:∃ q,q=s1.next:=⟨_,rfl⟩
 refine qL (fun n fr st2=>∃ k:Nat,k≤g.es.length∧n=g.es.length-k∧fr 1=.fn (.func f) caps∧fr 4=.pt q4 0∧fr 5=.pt q5 0∧fr 13=.sl 0 g.es.length (eds g.es)∧fr 14=i g.es.length∧fr 15=i k∧aA st st2∧q5<st2.next∧st2.H q4=.box 25 2 [.nil,.nil]∧∃ X,st2.H q5=.box 25 2 [.sl 0 g.vs.length (us g.vs),X]∧((X=.nil∧(g.es.take k).filter p=[])∨∃ t,X=.sl t ((g.es.take k).filter p).length (eds ((g.es.take k).filter p))∧t≠0∧q5<t∧t<st2.next∧st2.H t=.own 56 3 ((g.es.take k).filter p).length)) g.es.length ?_ ?_
 ·have e2:¬q4=s1.next:=oO
  have e3:¬st.next+1=s1.next:=oO
  refine⟨0,oO,oO,sS,by simp[hq4],by simp[hq5],sS,sS,sS,?_,by simp[hq5],by simp[e2,hC1,hq4,e3],.nil,by simp[hq5],.inl ⟨rfl,sS⟩⟩
  (repeat (first|exact hkp1|(refine aA.trans ?_ (aA.new _ _))|(refine aA.set ?_ oO _)))
 rintro n fr st2 ⟨k,hk,rfl,f1,f4,f5,f13,f14,f15,hkp,h5n,hC,X,hX,hXs⟩ JJ hJJ
 have e0:¬q4=q5:=oO
 by_cases hlt:k<g.es.length
 rotate_left
 ·clear hJJ
  have hk':k=g.es.length:=oO
  rw[hk',List.take_length]at hXs
  rcases hXs with⟨rfl,h⟩|⟨t,rfl,h⟩
  ·(repeat' (first|refine qS ?_|(refine qX (zZ ?_))|(refine qR (zZ ?_);simp[f4,f5,f14,f15,hlt,hX,hC,e0])|(refine qC ?_;simp[f4,f5,f14,f15,hlt,hX,hC,e0])|(refine w_e [] ?_;intro J hJ;simp only[];simp[f4,f5,f14,f15,hlt,hX,hC,e0];refine hJ _ _ (zZ ?_))))
   exact⟨.inl ⟨rfl,h⟩,(by repeat (first|exact hkp|(refine aA.trans ?_ (aA.new _ _))|(refine aA.set ?_ (by have:=hkp.next;omega) _)))⟩
  ·(repeat' (first|refine qS ?_|(refine qX (zZ ?_))|(refine qR (zZ ?_);simp[f4,f5,f14,f15,hlt,hX,hC,e0])|(refine qC ?_;simp[f4,f5,f14,f15,hlt,hX,hC,e0])|(refine w_e [] ?_;intro J hJ;simp only[];simp[f4,f5,f14,f15,hlt,hX,hC,e0];refine hJ _ _ (zZ ?_))))
   exact⟨.inr ⟨t,rfl⟩,(by repeat (first|exact hkp|(refine aA.trans ?_ (aA.new _ _))|(refine aA.set ?_ (by have:=hkp.next;omega) _)))⟩
 have hd:=aW g.es k hlt
 have hw:=qN k oO
 have hk3:k*3<g.es.length*3:=oO
 have hxin:g.es.getD k ed0∈g.es:=by rw[List.getD_eq_getElem?_getD,List.getElem?_eq_getElem hlt];exact List.getElem_mem hlt
 have hst:=aBs g.es p k hlt
 have hle:=List.length_filter_le p (g.es.take k)
 rw[List.length_take]at hle
 have htest:=fun s h=>hp _ hxin s h
 generalize hx:g.es.getD k ed0=x at *
 generalize hFF:(g.es.take k).filter p=F at *
 have hFl:=aJ F
 have hFo:(eds F).length=F.length*3:=hFl
 obtain⟨d,a,b⟩:=x
 simp only at hd htest
 (repeat' (first|refine qS ?_|refine qB ?_|(refine qK (zZ ?_))|(refine qC ?_;simp[f1,f13,f14,f15,hlt,hd,hel])|(refine w_e [] ?_;intro J hJ;simp only[];simp[f1,f13,f14,f15,hlt,hd,hel];(try refine hJ _ _ (zZ ?_)))))
 refine qF (htest _ (hkp.trans (aA.new _ (.box 56 3 [u d,u a,u b])))) ?_;rintro r s3 ⟨rfl,hk3'⟩
 have hn3:=hk3'.next
 simp only[aC]at hn3
 have hkk:aA st2 s3:=(aA.new _ _).trans hk3'
 have hX3:=(hkk.H q5 h5n).trans hX
 have hC3:=(hkk.H q4 oO).trans hC
 have hE3:s3.H st2.next=.box 56 3 [u d,u a,u b]:=by rw[hk3'.H _ sS];simp
 have hkp3:aA st s3:=(hkp.trans (aA.new _ _)).trans hk3'
 have z1:¬q5=s3.next:=oO
 have z2:¬q5=s3.next+1:=oO
 have z3:¬q4=s3.next:=oO
 have z4:¬q4=s3.next+1:=oO
 have z5:¬s3.next+1=q5:=oO
 by_cases hpx:p ⟨d,a,b⟩=true
 rotate_left
 ·rw[if_neg hpx]at hst
  have hpx:p ⟨d,a,b⟩=false:=by simpa using hpx
  (repeat' (first|(refine qK (zZ ?_))|(refine qC ?_;simp[hpx,f15,hw])|((first|(refine w_e [] ?_;intro J hJ;simp only[])|(refine aE ?_));simp[hpx,f15,hw];refine hJ _ _ (zZ ?_))))
  refine hJJ (g.es.length-(k+1)) _ _ oO ⟨k+1,oO,rfl,by simp[f1],by simp[f4],by simp[f5],by simp[f13],by simp[f14],sS,hkp3,oO,hC3,X,hX3,?_⟩
  rw[hst]
  rcases hXs with h|⟨t,h,h0,h1,h2,h3⟩
  ·exact .inl h
  ·exact .inr ⟨t,h,h0,h1,oO,(hkk.H t h2).trans h3⟩
 rw[if_pos hpx]at hst
 have hed:eds (F++[⟨d,a,b⟩])=eds F++[u d,u a,u b]:=by simp[eds]
 rcases hXs with⟨rfl,hF0⟩|⟨t,rfl,h0,h1,h2,h3⟩
 ·(repeat' (first|(refine qC ?_;simp[hpx,f5,f15,hw,hX3,hE3,z1,z2])|((first|(refine w_e [] ?_;intro J hJ;simp only[])|(refine aE ?_));simp[hpx,f5,f15,hw,hX3,hE3,z1,z2];(repeat refine ca ?_);refine hJ _ _ (zZ ?_))))
  refine hJJ (g.es.length-(k+1)) _ _ oO ⟨k+1,oO,rfl,by simp[f1],by simp[f4],by simp[f5],by simp[f13],by simp[f14],sS,?_,by simp;omega,by simp[e0,z3,z4,hC3],_,by simp;rfl,.inr ⟨s3.next+1,by rw[hst,hed,hF0];simp[eds],oO,oO,sS,by rw[hst,hF0];simp[z5]⟩⟩
  (repeat (first|exact hkp3|(refine aA.trans ?_ (aA.new _ _))|(refine aA.set ?_ oO _)))
 ·have h3':s3.H t=.own 56 3 F.length:=(hkk.H t h2).trans h3
  have y1:¬t=s3.next:=oO
  have y2:¬t=s3.next+1:=oO
  have y3:¬q5=t:=oO
  have y4:¬t=q5:=oO
  have y5:¬q4=t:=oO
  (repeat' (first|(refine qC ?_;simp[hpx,f5,f15,hw,hX3,hE3,z1,z2,h3',h0,y1,y2,y3,y4,hFo])|((first|(refine w_e [] ?_;intro J hJ;simp only[])|(refine aE ?_));simp[hpx,f5,f15,hw,hX3,hE3,z1,z2,h3',h0,y1,y2,y3,y4,hFo];(repeat refine ca ?_);refine hJ _ _ (zZ ?_))))
  refine hJJ (g.es.length-(k+1)) _ _ oO ⟨k+1,oO,rfl,by simp[f1],by simp[f4],by simp[f5],by simp[f13],by simp[f14],sS,?_,by simp;omega,by simp[e0,z3,z4,y5,hC3],_,by simp;rfl,.inr ⟨s3.next+1,by rw[hst,hed];simp,oO,oO,sS,by rw[hst];simp[z5]⟩⟩
  (repeat (first|exact hkp3|(refine aA.trans ?_ (aA.new _ _))|(refine aA.set ?_ oO _)))
theorem mN{f:Nat→Int}{n:Nat}(h:bT f n=0):∀ j,j<n→f j=0:=by
 induction n with
 |zero=>intro j hj;omega
 |succ n ih=>
  intro j hj
  simp only[bT]at h
  by_cases h0:bT f n=0
  ·rw[if_neg (by simp[h0])]at h
   rcases Nat.lt_or_ge j n with h1|h1
   ·exact ih h0 j h1
   ·obtain rfl:j=n:=oO
    exact h
  ·rw[if_pos h0]at h;exact absurd h h0
theorem sG{n a:Int}{b:Bool}(h:eB n a b=0):1≤n∧n≤1048576∧(b=false→a<n):=by
 unfold eB at h
 by_cases h1:n<1∨1048576<n
 ·rw[if_pos h1]at h;cases h
 ·rw[if_neg h1]at h
  by_cases h2:b=false∧n≤a
  ·rw[if_pos h2]at h;cases h
  ·refine⟨oO,oO,fun hb=>?_⟩
   rcases Int.lt_or_le a n with h3|h3
   ·exact h3
   ·exact absurd ⟨hb,h3⟩ h2
theorem aLX{l:List Int}(h:∀ j,j<l.length→0<j→l.getD (j-1) 0<l.getD j 0):l.Pairwise (· < ·):=by
 rw[List.pairwise_iff_getElem]
 intro a b ha hb hab
 induction b with
 |zero=>omega
 |succ b ih=>
  have h1:=h (b+1) hb oO
  rw[Nat.add_sub_cancel,aI _ _ hb,aI _ _ oO]at h1
  rcases Nat.lt_or_ge a b with h2|h2
  ·have:=ih oO h2;omega
  ·obtain rfl:a=b:=oO
   exact h1
theorem aDC{g:Gr}(h:chk g=0):Good g∧aDd g.es∧g.vs.length≤64∧g.es.length≤160:=by
 unfold chk at h
 by_cases h1:64<g.vs.length∨160<g.es.length
 ·rw[if_pos h1]at h;cases h
 ·rw[if_neg h1]at h
  by_cases h2:bT (iW g) g.vs.length=0
  ·rw[if_neg (by simp[h2])]at h
   have hV:=mN h2
   have hE:=mN h
   have hEx:∀ j,j<g.es.length→(1≤(g.es.getD j ed0).id∧(g.es.getD j ed0).id≤1048576)∧(g.es.getD j ed0).a∈g.vs∧(g.es.getD j ed0).b∈g.vs:=by
    intro j hj
    have:=hE j hj
    unfold jS at this
    simp only at this
    by_cases h3:eB (g.es.getD j ed0).id (g.es.getD (j-1) ed0).id (decide (j=0))=0
    ·rw[if_neg (fun h=>h h3)]at this
     by_cases h4:(g.es.getD j ed0).a=(g.es.getD j ed0).b
     ·rw[if_pos h4]at this;cases this
     ·rw[if_neg h4]at this
      by_cases h5:(g.es.getD j ed0).a∉g.vs∨(g.es.getD j ed0).b∉g.vs
      ·rw[if_pos h5]at this;cases this
      ·have h6:=sG h3
       refine⟨⟨h6.1,h6.2.1⟩,?_,?_⟩
       ·exact Classical.byContradiction fun h=>h5 (.inl h)
       ·exact Classical.byContradiction fun h=>h5 (.inr h)
    ·rw[if_pos h3]at this;exact absurd this h3
   have hget:∀ x∈g.es,∃ j,j<g.es.length∧g.es.getD j ed0=x:=by
    intro x hx
    obtain⟨j,hj,rfl⟩:=List.getElem_of_mem hx
    exact⟨j,hj,by rw[List.getD_eq_getElem?_getD,List.getElem?_eq_getElem hj];rfl⟩
   refine⟨⟨aLX fun j hj h0=>?_,fun x hx=>?_⟩,fun x hx=>?_,oO,oO⟩
   ·have:=(sG (hV j hj)).2.2 (by simp;omega)
    exact this
   ·obtain⟨j,hj,rfl⟩:=hget x hx
    exact(hEx j hj).2
   ·obtain⟨j,hj,rfl⟩:=hget x hx
    have:=(hEx j hj).1;omega
  ·rw[if_pos h2]at h;exact absurd h h2
theorem aCx(es:List Ed)(v:Int):ends es v=[]↔nbr es v=[]:=by
 unfold ends nbr
 simp only[List.flatMap_eq_nil_iff]
 refine forall_congr' fun x=>forall_congr' fun _=>?_
 unfold fV rQ
 by_cases h1:x.a=v<;>by_cases h2:x.b=v<;>simp[h1,h2]
end Go.Proofs.YtempldclppogmaaGreatDoor.Aw
namespace Go.Proofs.YtempldclppogmaaGreatDoor.Aw
open Go Go.RowKit Go.Proofs.YtempldclppogmaaGreatDoor.Pl Go.Proofs.YtempldclppogmaaGreatDoor.Eu
def aU(es:List Ed):List Int:=es.flatMap fun x=>[2*x.id,2*x.id+1]
structure GoodE(g:Gr):Prop extends Good g where
 ids:g.es.Pairwise (fun x y=>x.id<y.id)
 pos:∀ x∈g.es,1≤x.id∧x.id≤1048576
 ne:∀ x∈g.es,x.a≠x.b
theorem bZ(l:List Ed)(j:Nat)(hj:j<l.length):l.getD j ed0=l[j]:=by
 rw[List.getD_eq_getElem?_getD,List.getElem?_eq_getElem hj];rfl
theorem eP{g:Gr}(h:chk g=0):GoodE g:=by
 obtain⟨hg,_,_,_⟩:=aDC h
 unfold chk at h
 by_cases h1:64<g.vs.length∨160<g.es.length
 ·rw[if_pos h1]at h;cases h
 rw[if_neg h1]at h
 by_cases h2:bT (iW g) g.vs.length=0
 ·rw[if_neg (by simp[h2])]at h
  have hE:=mN h
  have hEx:∀ j,j<g.es.length→((1≤(g.es.getD j ed0).id∧(g.es.getD j ed0).id≤1048576)∧(0<j→(g.es.getD (j-1) ed0).id<(g.es.getD j ed0).id))∧(g.es.getD j ed0).a≠(g.es.getD j ed0).b:=by
   intro j hj
   have:=hE j hj
   unfold jS at this
   simp only at this
   by_cases h3:eB (g.es.getD j ed0).id (g.es.getD (j-1) ed0).id (decide (j=0))=0
   ·rw[if_neg (fun h=>h h3)]at this
    by_cases h4:(g.es.getD j ed0).a=(g.es.getD j ed0).b
    ·rw[if_pos h4]at this;cases this
    ·have h6:=sG h3
     exact⟨⟨⟨h6.1,h6.2.1⟩,fun h0=>h6.2.2 (by simp;omega)⟩,h4⟩
   ·rw[if_pos h3]at this;exact absurd this h3
  have hget:∀ x∈g.es,∃ j,j<g.es.length∧g.es.getD j ed0=x:=by
   intro x hx
   obtain⟨j,hj,rfl⟩:=List.getElem_of_mem hx
   exact⟨j,hj,bZ _ _ hj⟩
  refine⟨hg,?_,fun x hx=>?_,fun x hx=>?_⟩
  ·rw[List.pairwise_iff_getElem]
   intro a b ha hb hab
   induction b with
   |zero=>omega
   |succ b ih=>
    have h1:=(hEx (b+1) hb).1.2 oO
    rw[Nat.add_sub_cancel,bZ _ _ hb,bZ _ _ oO]at h1
    rcases Nat.lt_or_ge a b with h2|h2
    ·have:=ih oO h2;omega
    ·obtain rfl:a=b:=oO
     exact h1
  ·obtain⟨j,hj,rfl⟩:=hget x hx
   exact(hEx j hj).1.1
  ·obtain⟨j,hj,rfl⟩:=hget x hx
   exact(hEx j hj).2
 ·rw[if_pos h2]at h;exact absurd h h2
theorem id_eq{es:List Ed}(h:es.Pairwise (fun x y=>x.id<y.id)){x y:Ed}(hx:x∈es)(hy:y∈es)(he:x.id=y.id):x=y:=by
 obtain⟨j,hj,rfl⟩:=List.getElem_of_mem hx
 obtain⟨k,hk,rfl⟩:=List.getElem_of_mem hy
 rcases Nat.lt_trichotomy j k with h1|h1|h1
 ·have:=List.pairwise_iff_getElem.1 h j k hj hk h1;omega
 ·subst h1;rfl
 ·have:=List.pairwise_iff_getElem.1 h k j hk hj h1;omega
theorem fF{es:List Ed}{v d:Int}:d∈ends es v↔∃ x∈es,(x.a=v∧d=2*x.id)∨(x.b=v∧d=2*x.id+1):=by
 unfold ends
 rw[List.mem_flatMap]
 refine exists_congr fun x=>and_congr_right fun _=>?_
 unfold fV
 rw[List.mem_append]
 refine or_congr ?_ ?_
 ·split
  ·rename_i h;simp[h]
  ·rename_i h;simp[h]
 ·split
  ·rename_i h;simp[h]
  ·rename_i h;simp[h]
theorem fZ{es:List Ed}{d:Int}:d∈aU es↔∃ x∈es,d=2*x.id∨d=2*x.id+1:=by
 unfold aU
 rw[List.mem_flatMap]
 refine exists_congr fun x=>and_congr_right fun _=>?_
 simp
theorem bR{es:List Ed}{d:Int}:d∈aU es↔∃ x∈es,x.id=d / 2:=by
 rw[fZ]
 refine exists_congr fun x=>and_congr_right fun _=>?_
 omega
theorem oJ{es:List Ed}(h:es.Pairwise (fun x y=>x.id<y.id)):(aU es).Pairwise (· < ·):=by
 unfold aU
 rw[List.pairwise_flatMap]
 refine⟨fun x _=>by simp;omega,h.imp fun {x y} hxy a ha b hb=>?_⟩
 simp at ha hb
 omega
theorem jT{es:List Ed}(h:es.Pairwise (fun x y=>x.id<y.id))(v:Int):(ends es v).Pairwise (· < ·):=by
 unfold ends
 rw[List.pairwise_flatMap]
 refine⟨fun x _=>?_,h.imp fun {x y} hxy a ha b hb=>?_⟩
 ·unfold fV
  by_cases h1:x.a=v<;>by_cases h2:x.b=v<;>simp[h1,h2]
  omega
 ·unfold fV at ha hb
  simp only[List.mem_append]at ha hb
  have h1:a=2*x.id∨a=2*x.id+1:=by
   rcases ha with ha|ha<;>split at ha<;>simp at ha
   ·exact .inl ha
   ·exact .inr ha
  have h2:b=2*y.id∨b=2*y.id+1:=by
   rcases hb with hb|hb<;>split at hb<;>simp at hb
   ·exact .inl hb
   ·exact .inr hb
  omega
theorem oA{l:List Int}(h:l.Pairwise (· < ·)):l.Nodup:=h.imp fun h=>by omega
theorem fD(es:List Ed):(aU es).length=2*es.length:=by
 induction es with
 |nil=>rfl
 |cons x l ih=>simp only[aU,List.flatMap_cons,List.length_append,List.length_cons,List.length_nil]at ih ⊢;omega
theorem aAt(es:List Ed)(k:Nat)(hk:k<es.length):(aU es).getD (2*k) 0=2*(es.getD k ed0).id∧(aU es).getD (2*k+1) 0=2*(es.getD k ed0).id+1:=by
 induction es generalizing k with
 |nil=>simp at hk
 |cons x l ih=>
  cases k with
  |zero=>simp[aU]
  |succ k=>
   have:=ih k (by simpa using hk)
   simp only[aU,List.flatMap_cons,List.cons_append,List.nil_append,show 2*(k+1)=2*k+1+1 by omega,List.getD_cons_succ]at this ⊢
   exact this
def iJ(es:List Ed)(v:Int)(t:List Int):Prop:=t.Perm (ends es v)∧nrm t=t
structure bY(m:Mp):Prop where
 g:GoodE m.g
 len:m.rots.length=m.g.vs.length
 ok:∀ k,k<m.g.vs.length→iJ m.g.es (m.g.vs.getD k 0) (m.rots.getD k [])
theorem kJ{es:List Ed}(h:es.Pairwise (fun x y=>x.id<y.id)){d v w:Int}(hv:d∈ends es v)(hw:d∈ends es w):v=w:=by
 rw[fF]at hv hw
 obtain⟨x,hx,h1⟩:=hv
 obtain⟨y,hy,h2⟩:=hw
 have he:x.id=y.id:=oO
 have:=id_eq h hx hy he
 subst this
 omega
theorem zY{es:List Ed}{d v:Int}(h:d∈ends es v):d∈aU es:=by
 rw[fF]at h
 rw[fZ]
 obtain⟨x,hx,h1⟩:=h
 exact⟨x,hx,oO⟩
theorem aMN{es:List Ed}{d:Int}(h:d∈aU es):∃ v,d∈ends es v∧∃ x∈es,x.id=d / 2∧(v=x.a∨v=x.b):=by
 rw[fZ]at h
 obtain⟨x,hx,h1|h1⟩:=h
 ·exact⟨x.a,fF.2 ⟨x,hx,.inl ⟨rfl,h1⟩⟩,x,hx,oO,.inl rfl⟩
 ·exact⟨x.b,fF.2 ⟨x,hx,.inr ⟨rfl,h1⟩⟩,x,hx,oO,.inr rfl⟩
theorem cI(l:List (List Int))(j:Nat)(hj:j<l.length):l.getD j []=l[j]:=by
 rw[List.getD_eq_getElem?_getD,List.getElem?_eq_getElem hj];rfl
section
variable {m:Mp} (h:bY m)
include h
theorem bY.turn{t:List Int}(ht:t∈m.rots):∃ k,k<m.g.vs.length∧t=m.rots.getD k []∧iJ m.g.es (m.g.vs.getD k 0) t:=by
 obtain⟨k,hk,rfl⟩:=List.getElem_of_mem ht
 have hk':k<m.g.vs.length:=by rw[← h.len];exact hk
 refine⟨k,hk',(cI _ _ hk).symm,?_⟩
 have:=h.ok k hk'
 rwa [cI _ _ hk]at this
theorem bY.nodup{t:List Int}(ht:t∈m.rots):t.Nodup:=by
 obtain⟨k,_,_,h1,_⟩:=h.turn ht
 exact h1.nodup_iff.2 (oA (jT h.g.ids _))
theorem bY.same{t t':List Int}(ht:t∈m.rots)(ht':t'∈m.rots){d:Int}(hd:d∈t)(hd':d∈t'):t=t':=by
 obtain⟨k,hk,rfl,h1,_⟩:=h.turn ht
 obtain⟨k',hk',rfl,h2,_⟩:=h.turn ht'
 have:=kJ h.g.ids (h1.mem_iff.1 hd) (h2.mem_iff.1 hd')
 rw[aI _ _ hk,aI _ _ hk']at this
 have h3:=congrArg m.g.vs.idxOf this
 rw[h.g.toGood.nodup.idxOf_getElem,h.g.toGood.nodup.idxOf_getElem]at h3
 rw[h3]
theorem bY.turn_of{d:Int}(hd:d∈aU m.g.es):∃ t∈m.rots,d∈t:=by
 obtain⟨v,hv,x,hx,_,hvx⟩:=aMN hd
 have hvin:v∈m.g.vs:=by
  rcases hvx with rfl|rfl
  ·exact(h.g.ends x hx).1
  ·exact(h.g.ends x hx).2
 obtain⟨k,hk,rfl⟩:=List.getElem_of_mem hvin
 have:=h.ok k hk
 rw[aI _ _ hk]at this
 refine⟨_,?_,this.1.mem_iff.2 hv⟩
 rw[cI _ _ (by rw[h.len];exact hk)]
 exact List.getElem_mem _
theorem bY.turn_dart{t:List Int}(ht:t∈m.rots){d:Int}(hd:d∈t):d∈aU m.g.es:=by
 obtain⟨k,_,_,h1,_⟩:=h.turn ht
 exact zY (h1.mem_iff.1 hd)
theorem bY.row_le{t:List Int}(ht:t∈m.rots):t.length≤2*m.g.es.length:=by
 obtain⟨k,_,_,h1,_⟩:=h.turn ht
 rw[h1.length_eq]
 exact iA _ (mL _) _
end
def sg(m:Mp)(d:Int):Int:=match m.rots.find? (fun t=>decide (d∈t)) with
 |some t=>nx t d
 |none=>d
theorem aNO{m:Mp}{d:Int}(h:∀ t∈m.rots,d∉t):sg m d=d:=by
 unfold sg
 have:m.rots.find? (fun t=>decide (d∈t))=none:=by
  rw[List.find?_eq_none]
  intro t ht
  simpa using h t ht
 rw[this]
theorem zJ{m:Mp}(h:bY m){t:List Int}(ht:t∈m.rots){d:Int}(hd:d∈t):sg m d=nx t d:=by
 unfold sg
 cases hf:m.rots.find? (fun t=>decide (d∈t)) with
 |none=>
  rw[List.find?_eq_none]at hf
  exact absurd hd (by simpa using hf t ht)
 |some t'=>
  have h1:=List.find?_some hf
  have h2:=List.mem_of_find?_eq_some hf
  simp only at h1 ⊢
  rw[h.same h2 ht (by simpa using h1) hd]
def al(es:List Ed)(d:Int):Int:=if(es.any fun x=>decide (x.id=d / 2))=true then tw d else d
theorem qI{es:List Ed}{d:Int}(h:d∈aU es):al es d=tw d:=by
 unfold al
 rw[if_pos]
 obtain⟨x,hx,h⟩:=bR.1 h
 exact List.any_eq_true.2 ⟨x,hx,by simpa using h⟩
theorem mF{es:List Ed}{d:Int}(h:d∉aU es):al es d=d:=by
 unfold al
 rw[if_neg]
 intro ha
 obtain⟨x,hx,h1⟩:=List.any_eq_true.1 ha
 exact h (bR.2 ⟨x,hx,by simpa using h1⟩)
theorem aKO(d:Int):tw d / 2=d / 2:=by unfold tw;split<;>omega
theorem aRc(d:Int):tw (tw d)=d:=by unfold tw;split<;>split<;>omega
theorem aBw{es:List Ed}{d:Int}:tw d∈aU es↔d∈aU es:=by rw[bR,bR,aKO]
theorem aNu(es:List Ed)(d:Int):al es (al es d)=d:=by
 by_cases h:d∈aU es
 ·rw[qI h,qI (aBw.2 h),aRc]
 ·rw[mF h,mF h]
theorem aLv(es:List Ed)(d:Int):al es d / 2=d / 2:=by
 unfold al;split
 ·exact aKO d
 ·rfl
theorem aNd(es es':List Ed)(d:Int):al es d∈aU es'↔d∈aU es':=by rw[bR,bR,aLv]
theorem aNL(es:List Ed){d e:Int}(h:al es d=al es e):d=e:=by rw[← aNu es d,h,aNu]
def fc(m:Mp)(es:List Ed)(d:Int):Int:=sg m (al es d)
section
variable {m:Mp} (h:bY m)
include h
theorem bY.sg_mem{t:List Int}(ht:t∈m.rots){d:Int}(hd:d∈t):sg m d∈t:=by rw[zJ h ht hd];exact aON hd
theorem bY.sg_dart{d:Int}(hd:d∈aU m.g.es):sg m d∈aU m.g.es:=by
 obtain⟨t,ht,hdt⟩:=h.turn_of hd
 exact h.turn_dart ht (h.sg_mem ht hdt)
theorem bY.sg_id{d:Int}(hd:d∉aU m.g.es):sg m d=d:=aNO fun _ ht hdt=>hd (h.turn_dart ht hdt)
theorem bY.sg_inj{d e:Int}(he:sg m d=sg m e):d=e:=by
 by_cases h1:d∈aU m.g.es
 ·by_cases h2:e∈aU m.g.es
  ·obtain⟨t,ht,hd⟩:=h.turn_of h1
   obtain⟨t',ht',hd'⟩:=h.turn_of h2
   have:=h.same ht ht' (h.sg_mem ht hd) (he ▸ h.sg_mem ht' hd')
   subst this
   rw[zJ h ht hd,zJ h ht hd']at he
   exact aNN (h.nodup ht) hd hd' he
  ·have:=h.sg_dart h1
   rw[he,h.sg_id h2]at this
   exact absurd this h2
 ·by_cases h2:e∈aU m.g.es
  ·have:=h.sg_dart h2
   rw[← he,h.sg_id h1]at this
   exact absurd this h1
  ·rwa [h.sg_id h1,h.sg_id h2]at he
theorem bY.fc_inj(es:List Ed)(d e:Int)(he:fc m es d=fc m es e):d=e:=aNL es (h.sg_inj he)
theorem bY.fc_dart(es:List Ed)(d:Int)(hd:d∈aU m.g.es):fc m es d∈aU m.g.es:=h.sg_dart ((aNd es _ d).2 hd)
theorem bY.fc_per(es:List Ed)(hs:∀ x∈es,x∈m.g.es):Per (fc m es):=by
 refine aOd (aU m.g.es) (fun x hx=>h.fc_dart es x hx) (h.fc_inj es) fun x hx=>?_
 have hx':x∉aU es:=fun hd=>hx (by
  rw[fZ]at hd ⊢
  obtain⟨y,hy,h1⟩:=hd
  exact⟨y,hs y hy,h1⟩)
 unfold fc
 rw[mF hx',h.sg_id hx]
theorem bY.sg_at_v{d v:Int}(hd:d∈ends m.g.es v):sg m d∈ends m.g.es v:=by
 obtain⟨t,ht,hdt⟩:=h.turn_of (zY hd)
 obtain⟨k,hk,rfl,h1,_⟩:=h.turn ht
 have:=kJ h.g.ids hd (h1.mem_iff.1 hdt)
 rw[this]
 exact h1.mem_iff.1 (h.sg_mem ht hdt)
theorem bY.orb_reach(es:List Ed)(hs:∀ x∈es,x∈m.g.es)(n:Nat):∀ {d v:Int},d∈ends m.g.es v→∃ w,it (fc m es) n d∈ends m.g.es w∧Reach es v w:=by
 induction n with
 |zero=>intro d v hd;exact⟨v,hd,.refl⟩
 |succ n ih=>
  intro d v hd
  have key:∃ w,fc m es d∈ends m.g.es w∧Reach es v w:=by
   by_cases hin:d∈aU es
   ·unfold fc
    rw[qI hin]
    obtain⟨x,hx,hxd⟩:=bR.1 hin
    have hxg:=hs x hx
    obtain⟨y,hy,hyd⟩:=fF.1 hd
    have hxy:x=y:=id_eq h.g.ids hxg hy oO
    subst hxy
    rcases hyd with⟨rfl,hdd⟩|⟨rfl,hdd⟩
    ·refine⟨x.b,h.sg_at_v (fF.2 ⟨x,hxg,.inr ⟨rfl,?_⟩⟩),.step .refl (dX.2 ⟨x,hx,.inl ⟨rfl,rfl⟩⟩)⟩
     unfold tw;split<;>omega
    ·refine⟨x.a,h.sg_at_v (fF.2 ⟨x,hxg,.inl ⟨rfl,?_⟩⟩),.step .refl (dX.2 ⟨x,hx,.inr ⟨rfl,rfl⟩⟩)⟩
     unfold tw;split<;>omega
   ·unfold fc
    rw[mF hin]
    exact⟨v,h.sg_at_v hd,.refl⟩
  obtain⟨w,h1,h2⟩:=key
  obtain⟨w',h3,h4⟩:=ih h1
  exact⟨w',h3,h2.trans h4⟩
end
theorem gY(es:List Ed):Eqv (Reach es):=⟨fun _=>.refl,Reach.symm,Reach.trans⟩
theorem Reach.mono{es es':List Ed}(hs:∀ x∈es,x∈es'){v w:Int}(h:Reach es v w):Reach es' v w:=by
 induction h with
 |refl=>exact .refl
 |step _ hw ih=>
  refine .step ih ?_
  rw[dX]at hw ⊢
  obtain⟨x,hx,h1⟩:=hw
  exact⟨x,hs x hx,h1⟩
theorem aEj(es:List Ed)(x:Ed)(v w:Int):Reach (es++[x]) v w↔Eu.Mg (Reach es) x.a x.b v w:=by
 constructor
 ·intro h
  have hE:=Mg.eqv (gY es) x.a x.b
  induction h with
  |refl=>exact hE.refl _
  |step _ hw ih=>
   refine hE.trans ih ?_
   obtain⟨y,hy,h1⟩:=dX.1 hw
   rw[List.mem_append,List.mem_singleton]at hy
   rcases hy with hy|rfl
   ·exact .inl (.step .refl (dX.2 ⟨y,hy,h1⟩))
   ·rcases h1 with⟨rfl,rfl⟩|⟨rfl,rfl⟩
    ·exact .inr (.inl ⟨.refl,.refl⟩)
    ·exact .inr (.inr ⟨.refl,.refl⟩)
 ·refine Mg.le (gY _) (.step .refl (dX.2 ⟨x,sS,.inl ⟨rfl,rfl⟩⟩)) fun v w h=>h.mono fun y hy=>by simp[hy]
theorem aMH{R:Int→Int→Prop}(hR:∀ x y,R x y→x=y){l:List Int}(hn:l.Nodup):ncl R l=l.length:=by
 induction l with
 |nil=>rfl
 |cons x l ih=>
  rw[List.nodup_cons]at hn
  rw[aP,ih hn.2,List.length_cons]
  rintro⟨y,hy,hr⟩
  exact hn.1 (hR _ _ hr ▸ hy)
theorem aGR{v w:Int}(h:Reach [] v w):v=w:=by
 induction h with
 |refl=>rfl
 |step _ hw _=>obtain⟨x,hx,_⟩:=dX.1 hw;cases hx
theorem filter_eq{α β:Type}(p:α→Bool)(q:β→Bool):∀(l:List α) (l':List β),l.length=l'.length→(∀ k (h1:k<l.length) (h2:k<l'.length),p l[k]=!q l'[k])→(l.filter p).length+l'.countP q=l.length
 |[],[],_,_=>rfl
 |[],_::_,h,_=>by simp at h
 |_::_,[],h,_=>by simp at h
 |a::l,b::l',h,hk=>by
  have ih:=filter_eq p q l l' (by simpa using h) fun k h1 h2=>hk (k+1) (by simpa using h1) (by simpa using h2)
  have h0:=hk 0 sS sS
  simp only[List.getElem_cons_zero]at h0
  rw[List.filter_cons,List.countP_cons,h0,List.length_cons]
  cases q b<;>simp<;>omega
section
variable {m:Mp} (h:bY m)
include h
theorem bY.flat_perm:(aU m.g.es).Perm m.rots.flatten:=by
 refine(List.perm_ext_iff_of_nodup (oA (oJ h.g.ids)) ?_).2 fun d=>?_
 ·unfold List.Nodup
  rw[List.pairwise_flatten]
  refine⟨fun t ht=>h.nodup ht,?_⟩
  rw[List.pairwise_iff_getElem]
  intro a b ha hb hab x hx y hy
  rintro rfl
  have h1:=h.ok a (by rw[← h.len];exact ha)
  have h2:=h.ok b (by rw[← h.len];exact hb)
  rw[cI _ _ ha]at h1
  rw[cI _ _ hb]at h2
  have h3:=kJ h.g.ids (h1.1.mem_iff.1 hx) (h2.1.mem_iff.1 hy)
  have ha':a<m.g.vs.length:=by rw[← h.len];exact ha
  have hb':b<m.g.vs.length:=by rw[← h.len];exact hb
  rw[aI _ _ ha',aI _ _ hb']at h3
  have:=List.pairwise_iff_getElem.1 h.g.rise a b ha' hb' hab
  omega
 ·rw[List.mem_flatten]
  exact⟨fun hd=>h.turn_of hd,fun⟨t,ht,hd⟩=>h.turn_dart ht hd⟩
theorem bY.ncl_sg:ncl (Orb (sg m)) (aU m.g.es)+alone m.g=m.g.vs.length:=by
 have hfc:fc m []=sg m:=by funext d;simp[fc,al]
 have hP:Per (sg m):=by rw[← hfc];exact h.fc_per [] (fun x hx=>by cases hx)
 have hst:∀ t∈m.rots,∀ n x,x∈t→it (sg m) n x∈t:=by
  intro t ht n
  induction n with
  |zero=>intro x hx;exact hx
  |succ n ih=>intro x hx;exact ih _ (h.sg_mem ht hx)
 have hit:∀ t∈m.rots,∀ n x,x∈t→it (sg m) n x=it (nx t) n x:=by
  intro t ht n
  induction n with
  |zero=>intro x hx;rfl
  |succ n ih=>intro x hx;rw[dZ,dZ,ih x hx,zJ h ht];rw[← ih x hx];exact hst t ht n x hx
 rw[lX hP.eqv h.flat_perm,aDM]
 ·have:=filter_eq (fun t=>decide (t≠[])) (fun v=>decide (nbr m.g.es v=[])) m.rots m.g.vs h.len fun k h1 h2=>?_
  ·rw[← h.len];exact this
  ·have hk:=h.ok k h2
   rw[cI _ _ h1,aI _ _ h2]at hk
   have e1:m.rots[k]=[]↔nbr m.g.es m.g.vs[k]=[]:=by
    rw[← aCx]
    constructor
    ·intro h3;have:=hk.1;rw[h3]at this;exact this.symm.eq_nil
    ·intro h3;have:=hk.1;rw[h3]at this;exact this.eq_nil
   by_cases h3:m.rots[k]=[]
   ·simp[h3,e1.1 h3]
   ·have h5:¬nbr m.g.es m.g.vs[k]=[]:=fun h4=>h3 (e1.2 h4)
    simp[h3,h5]
 ·intro t ht x hx y hy
  obtain⟨n,hn⟩:=aOt (h.nodup ht) hx hy
  exact⟨n,by rw[hit t ht n x hx,hn]⟩
 ·rw[List.pairwise_iff_getElem]
  rintro a b ha hb hab x hx y hy ⟨n,hn⟩
  have h4:=hst _ (List.getElem_mem hb) n y hy
  rw[hn]at h4
  have h1:=h.ok a (by rw[← h.len];exact ha)
  have h2:=h.ok b (by rw[← h.len];exact hb)
  rw[cI _ _ ha]at h1
  rw[cI _ _ hb]at h2
  have h3:=kJ h.g.ids (h1.1.mem_iff.1 hx) (h2.1.mem_iff.1 h4)
  have ha':a<m.g.vs.length:=by rw[← h.len];exact ha
  have hb':b<m.g.vs.length:=by rw[← h.len];exact hb
  rw[aI _ _ ha',aI _ _ hb']at h3
  have:=List.pairwise_iff_getElem.1 h.g.rise a b ha' hb' hab
  omega
theorem bY.euler_at(j:Nat)(hj:j≤m.g.es.length):∃ k:Nat,2*ncl (Reach (m.g.es.take j)) m.g.vs+j=2*k+alone m.g+m.g.vs.length+ncl (Orb (fc m (m.g.es.take j))) (aU m.g.es):=by
 induction j with
 |zero=>
  have hfc:fc m []=sg m:=by funext d;simp[fc,al]
  refine⟨0,?_⟩
  rw[List.take_zero,hfc,aMH (fun x y=>aGR) h.g.toGood.nodup]
  have:=h.ncl_sg
  omega
 |succ j ih=>
  obtain⟨k,hk⟩:=ih oO
  have hs:∀ i,∀ x∈m.g.es.take i,x∈m.g.es:=fun i x hx=>List.mem_of_mem_take hx
  have hp:=h.fc_per (m.g.es.take j) (hs j)
  have hp':=h.fc_per (m.g.es.take (j+1)) (hs (j+1))
  have htk:m.g.es.take (j+1)=m.g.es.take j++[m.g.es[j]]:=List.take_succ_eq_append_getElem oO
  have hxin:m.g.es[j]∈m.g.es:=List.getElem_mem _
  have hxno:∀ y∈m.g.es.take j,y.id≠m.g.es[j].id:=by
   intro y hy
   obtain⟨i,hi,rfl⟩:=List.getElem_of_mem hy
   rw[List.length_take]at hi
   rw[List.getElem_take]
   have:=List.pairwise_iff_getElem.1 h.g.ids i j oO oO oO
   omega
  generalize m.g.es[j]=x at *
  have hf':∀ d,fc m (m.g.es.take (j+1)) d=fc m (m.g.es.take j) (sw (2*x.id) (2*x.id+1) d):=by
   intro d
   unfold fc
   congr 1
   by_cases h1:d=2*x.id
   ·subst h1
    rw[aHo,qI (bR.2 ⟨x,by rw[htk];simp,oO⟩),mF]
    ·unfold tw;rw[if_pos oO]
    ·intro hd
     obtain⟨y,hy,h2⟩:=bR.1 hd
     exact hxno y hy oO
   ·by_cases h2:d=2*x.id+1
    ·subst h2
     rw[aLD,qI (bR.2 ⟨x,by rw[htk];simp,oO⟩),mF]
     ·unfold tw;rw[if_neg oO];omega
     ·intro hd
      obtain⟨y,hy,h2⟩:=bR.1 hd
      exact hxno y hy oO
    ·rw[aId h1 h2]
     by_cases h3:d∈aU (m.g.es.take j)
     ·rw[qI h3,qI]
      obtain⟨y,hy,h4⟩:=bR.1 h3
      exact bR.2 ⟨y,by rw[htk];simp[hy],h4⟩
     ·rw[mF h3,mF]
      intro hd
      obtain⟨y,hy,h4⟩:=bR.1 hd
      rw[htk,List.mem_append,List.mem_singleton]at hy
      rcases hy with hy|rfl
      ·exact h3 (bR.2 ⟨y,hy,h4⟩)
      ·omega
  have ha:2*x.id∈aU m.g.es:=fZ.2 ⟨x,hxin,.inl rfl⟩
  have hb:2*x.id+1∈aU m.g.es:=fZ.2 ⟨x,hxin,.inr rfl⟩
  have hR:∀ v w,Reach (m.g.es.take (j+1)) v w↔Eu.Mg (Reach (m.g.es.take j)) x.a x.b v w:=fun v w=>by rw[htk];exact aEj _ _ _ _
  have hRn:ncl (Reach (m.g.es.take (j+1))) m.g.vs=ncl (Eu.Mg (Reach (m.g.es.take j)) x.a x.b) m.g.vs:=kB fun v _ w _=>hR v w
  rw[hRn]
  by_cases ho:Orb (fc m (m.g.es.take j)) (2*x.id) (2*x.id+1)
  ·have h1:=aHW hp hp' hf' oO ha hb ho
   have hr:Reach (m.g.es.take j) x.a x.b:=by
    obtain⟨n,hn⟩:=ho
    obtain⟨w,h2,h3⟩:=h.orb_reach (m.g.es.take j) (hs j) n (fF.2 ⟨x,hxin,.inl ⟨rfl,rfl⟩⟩)
    rw[hn]at h2
    rwa [kJ h.g.ids h2 (fF.2 ⟨x,hxin,.inr ⟨rfl,rfl⟩⟩)]at h3
   have h2:ncl (Eu.Mg (Reach (m.g.es.take j)) x.a x.b) m.g.vs=ncl (Reach (m.g.es.take j)) m.g.vs:=kB fun v _ w _=>Mg.same (gY _) hr v w
   rw[h2,h1]
   exact⟨k,oO⟩
  ·have h1:=aKC hp hp' hf' ha hb ho
   by_cases hr:Reach (m.g.es.take j) x.a x.b
   ·have h2:ncl (Eu.Mg (Reach (m.g.es.take j)) x.a x.b) m.g.vs=ncl (Reach (m.g.es.take j)) m.g.vs:=kB fun v _ w _=>Mg.same (gY _) hr v w
    rw[h2]
    exact⟨k+1,oO⟩
   ·have h2:=aFc (gY _) hr (h.g.ends x hxin).1 (h.g.ends x hxin).2
    exact⟨k,oO⟩
theorem bY.euler:∃ k:Nat,2*ncl (Reach m.g.es) m.g.vs+m.g.es.length=2*k+alone m.g+m.g.vs.length+ncl (Orb (fc m m.g.es)) (aU m.g.es):=by
 have:=h.euler_at m.g.es.length (Nat.le_refl _)
 rwa [List.take_length]at this
end
theorem cH.ncl{g:Gr}{k:Nat}{R:List (List Int)}(h:cH g k R):R.length=Eu.ncl (Reach g.es) (g.vs.take k).reverse:=by
 induction h with
 |zero=>rfl
 |@seen k R _ hk hs ih=>
  rw[List.take_succ_eq_append_getElem hk,List.reverse_append,List.reverse_singleton,List.singleton_append,aZ,ih]
  obtain⟨u,hu,hr⟩:=hs
  rw[aI _ _ hk]at hr
  exact⟨u,List.mem_reverse.2 hu,hr⟩
 |@lead k R c _ hk hs _ ih=>
  rw[List.take_succ_eq_append_getElem hk,List.reverse_append,List.reverse_singleton,List.singleton_append,aP,List.length_append,ih]
  ·rfl
  ·rintro⟨u,hu,hr⟩
   rw[← aI _ _ hk]at hr
   exact hs ⟨u,List.mem_reverse.1 hu,hr⟩
theorem cH.all{g:Gr}{R:List (List Int)}(h:cH g g.vs.length R):R.length=Eu.ncl (Reach g.es) g.vs:=by
 rw[h.ncl,List.take_length]
 exact lX (gY _) (List.reverse_perm _)
def kI(f:Int→Int)(ds:List Int)(k:Nat)(x:Int):Prop:=∃ y∈ds.take k,Orb f y x
inductive mE(f:Int→Int)(ds:List Int):Nat→List (List Int)→Prop
 |zero:mE f ds 0 []
 |seen {k:Nat} {R:List (List Int)} (h:mE f ds k R) (hk:k<ds.length) (hs:kI f ds k (ds.getD k 0)):mE f ds (k+1) R
 |lead {k:Nat} {R:List (List Int)} {c:List Int} (h:mE f ds k R) (hk:k<ds.length) (hs:¬kI f ds k (ds.getD k 0)) (hc:fP f (ds.getD k 0) c):mE f ds (k+1) (R++[c])
theorem mE.len{f:Int→Int}{ds:List Int}{k:Nat}{R:List (List Int)}(h:mE f ds k R):R.length≤k:=by
 induction h with
 |zero=>simp
 |seen _ _ _ ih=>omega
 |lead _ _ _ _ ih=>simp;omega
theorem mE.ncl{f:Int→Int}{ds:List Int}{k:Nat}{R:List (List Int)}(h:mE f ds k R):R.length=Eu.ncl (Orb f) (ds.take k).reverse:=by
 induction h with
 |zero=>rfl
 |@seen k R _ hk hs ih=>
  rw[List.take_succ_eq_append_getElem hk,List.reverse_append,List.reverse_singleton,List.singleton_append,aZ,ih]
  obtain⟨u,hu,hr⟩:=hs
  rw[aI _ _ hk]at hr
  exact⟨u,List.mem_reverse.2 hu,hr⟩
 |@lead k R c _ hk hs _ ih=>
  rw[List.take_succ_eq_append_getElem hk,List.reverse_append,List.reverse_singleton,List.singleton_append,aP,List.length_append,ih]
  ·rfl
  ·rintro⟨u,hu,hr⟩
   rw[← aI _ _ hk]at hr
   exact hs ⟨u,List.mem_reverse.1 hu,hr⟩
theorem mE.all{f:Int→Int}(hf:Per f){ds:List Int}{R:List (List Int)}(h:mE f ds ds.length R):R.length=Eu.ncl (Orb f) ds:=by
 rw[h.ncl,List.take_length]
 exact lX hf.eqv (List.reverse_perm _)
theorem xB{f:Int→Int}{ds:List Int}{k:Nat}(hk:k<ds.length){x:Int}:kI f ds (k+1) x↔kI f ds k x∨Orb f (ds.getD k 0) x:=by
 unfold kI
 rw[List.take_succ_eq_append_getElem hk,aI _ _ hk]
 constructor
 ·rintro⟨u,hu,hr⟩
  rw[List.mem_append,List.mem_singleton]at hu
  rcases hu with hu|rfl
  ·exact .inl ⟨u,hu,hr⟩
  ·exact .inr hr
 ·rintro(⟨u,hu,hr⟩|hr)
  ·exact⟨u,List.mem_append_left _ hu,hr⟩
  ·exact⟨_,List.mem_append_right _ (List.mem_singleton.2 rfl),hr⟩
theorem aDX{f:Int→Int}{ds:List Int}{k:Nat}(hk:k<ds.length)(hs:kI f ds k (ds.getD k 0)){x:Int}:kI f ds (k+1) x↔kI f ds k x:=by
 rw[xB hk]
 refine⟨fun h=>h.elim id fun h=>?_,.inl⟩
 obtain⟨y,hy,hr⟩:=hs
 exact⟨y,hy,hr.trans h⟩
theorem aDn{f:Int→Int}(hf:Per f){ds:List Int}(hr:ds.Pairwise (· < ·))(hd:∀ x∈ds,f x∈ds){k:Nat}(hk:k<ds.length){c:List Int}(hc:fP f (ds.getD k 0) c):(¬kI f ds k (ds.getD k 0))↔mn c=ds.getD k 0:=by
 have hin:∀ n x,x∈ds→it f n x∈ds:=by
  intro n
  induction n with
  |zero=>intro x hx;exact hx
  |succ n ih=>intro x hx;exact ih _ (hd x hx)
 have hx:ds.getD k 0∈ds:=by rw[aI _ _ hk];exact List.getElem_mem _
 constructor
 ·intro hs
  refine aFB (hc.mem.2 (Orb.refl _ _)) fun y hy=>?_
  obtain⟨n,hn⟩:=hc.mem.1 hy
  rcases Int.lt_or_le y (ds.getD k 0)with h1|h1
  ·have hy2:y∈ds:=by rw[← hn];exact hin n _ hx
   exact absurd ⟨y,(uI hr hk).2 ⟨hy2,h1⟩,Orb.symm hf ⟨n,hn⟩⟩ hs
  ·exact h1
 ·rintro hm ⟨y,hy,hr2⟩
  have h1:=((uI hr hk).1 hy).2
  have:=aFI (hc.mem.2 (Orb.symm hf hr2))
  omega
theorem mW{c:List Int}{d:Int}{r:List Int}(h:c=d::r)(hm:mn c=d):nrm c=c:=by
 subst h
 unfold nrm
 rw[hm]
 simp[rt]
theorem fP.head{f:Int→Int}{d:Int}{c:List Int}(h:fP f d c):∃ r,c=d::r:=by
 obtain⟨p,hp,rfl,_,_⟩:=h
 obtain⟨q,rfl⟩:∃ q,p=q+1:=⟨p-1,oO⟩
 rw[List.range_succ_eq_map]
 exact⟨_,rfl⟩
theorem aBY(c:List Int)(h:c≠[]):∃ r,nrm c=mn c::r:=by
 have hm:=qY h
 have hlt:=List.idxOf_lt_length_of_mem hm
 have hl:0<(nrm c).length:=by rw[bX];omega
 have h0:=aGb c 0 oO
 simp only[Nat.add_zero,Nat.mod_eq_of_lt hlt,List.getElem_idxOf]at h0
 cases hn:nrm c with
 |nil=>rw[hn]at hl;simp at hl
 |cons a r=>simp only[hn,List.getElem_cons_zero]at h0;rw[h0];exact⟨r,rfl⟩
end Go.Proofs.YtempldclppogmaaGreatDoor.Aw
namespace Go.Proofs.YtempldclppogmaaGreatDoor.Aw
open Go Go.RowKit Go.Proofs.YtempldclppogmaaGreatDoor.Pl
def wF:List Bool→Nat
 |[]=>0
 |b::l=>(if b then 1 else 0)+2*wF l
theorem aCa:∀(l:List Bool) (i:Nat),(wF l).testBit i=l.getD i false
 |[],i=>by simp[wF]
 |b::l,0=>by
  rw[wF,Nat.testBit_zero]
  cases b<;>simp<;>omega
 |b::l,i+1=>by
  rw[wF,Nat.testBit_succ]
  have:((if b then 1 else 0)+2*wF l) / 2=wF l:=by cases b<;>simp<;>omega
  rw[this,aCa l i];simp
theorem aGg:∀ l:List Bool,wF l<2 ^ l.length
 |[]=>by simp[wF]
 |b::l=>by
  have:=aGg l
  rw[wF,List.length_cons,Nat.pow_succ]
  cases b<;>simp<;>omega
def mk(vs S:List Int):Nat:=wF (vs.map fun v=>decide (v∈S))
theorem dU(vs S:List Int)(i:Nat):(mk vs S).testBit i=(decide (i<vs.length)&&decide (vs.getD i 0∈S)):=by
 unfold mk
 rw[aCa,List.getD_eq_getElem?_getD,List.getElem?_map]
 by_cases h:i<vs.length
 ·rw[List.getElem?_eq_getElem h,List.getD_eq_getElem?_getD,List.getElem?_eq_getElem h];simp[h]
 ·rw[List.getElem?_eq_none oO];simp[h]
theorem jZ(vs S:List Int)(h:vs.length≤64):mk vs S<18446744073709551616:=by
 have h1:=aGg (vs.map fun v=>decide (v∈S))
 rw[List.length_map]at h1
 exact Nat.lt_of_lt_of_le h1 (by
  have:=Nat.pow_le_pow_right (show 0<2 by decide) h
  exact this)
theorem mk_congr{vs A B:List Int}(h:∀ v∈vs,(v∈A↔v∈B)):mk vs A=mk vs B:=by
 unfold mk
 congr 1
 exact List.map_congr_left fun v hv=>by simp[h v hv]
theorem aOR{vs A B:List Int}(h:mk vs A=mk vs B):∀ v∈vs,(v∈A↔v∈B):=fun v hv=>by
 obtain⟨i,hi,rfl⟩:=List.getElem_of_mem hv
 have h1:=dU vs A i
 rw[h,dU vs B i]at h1
 simpa[hi]using h1.symm
theorem mk_zero(vs A:List Int):mk vs A=0↔∀ v∈vs,v∉A:=by
 have e:mk vs []=0:=by
  apply Nat.eq_of_testBit_eq
  intro i
  rw[dU];simp
 constructor
 ·intro h v hv hA
  have:=(aOR (h.trans e.symm) v hv).1 hA
  simp at this
 ·intro h
  rw[← e]
  exact mk_congr fun v hv=>by simp[h v hv]
theorem aLE(a b:Nat)(ha:a<18446744073709551616)(hb:b<18446744073709551616):gor .u64 (a:Int) (b:Int)=((a ||| b:Nat):Int):=by
 have hx:a ||| b<2 ^ 64:=Nat.or_lt_two_pow oO oO
 unfold gor
 simp only[show IntKind.u64.bits=64 from rfl,BitVec.ofInt_natCast,BitVec.toNat_or,BitVec.toNat_ofNat,Nat.mod_eq_of_lt ha,Nat.mod_eq_of_lt hb]
 rw[IntKind.wrap_u64]
 omega
theorem vC(a b:Nat)(ha:a<18446744073709551616)(hb:b<18446744073709551616):rN .u64 (a:Int) (b:Int)=((a &&& b:Nat):Int):=by
 have hx:a &&& b<2 ^ 64:=Nat.and_lt_two_pow _ oO
 unfold rN
 simp only[show IntKind.u64.bits=64 from rfl,BitVec.ofInt_natCast,BitVec.toNat_and,BitVec.toNat_ofNat,Nat.mod_eq_of_lt ha,Nat.mod_eq_of_lt hb]
 rw[IntKind.wrap_u64]
 omega
theorem aCT(a b:Nat)(ha:a<18446744073709551616)(hb:b<18446744073709551616):fH .u64 (a:Int) (b:Int)=((a &&& (2 ^ 64-(b+1)):Nat):Int):=by
 have hx:a &&& (2 ^ 64-(b+1))<2 ^ 64:=Nat.and_lt_two_pow _ oO
 unfold fH
 simp only[show IntKind.u64.bits=64 from rfl,BitVec.ofInt_natCast,BitVec.toNat_and,BitVec.toNat_not,BitVec.toNat_ofNat,Nat.mod_eq_of_lt ha,Nat.mod_eq_of_lt hb]
 rw[show 2 ^ 64-1-b=2 ^ 64-(b+1) by omega,IntKind.wrap_u64]
 omega
theorem vO(vs A B:List Int)(h:vs.length≤64):gor .u64 (mk vs A) (mk vs B)=mk vs (A++B):=by
 rw[aLE _ _ (jZ vs A h) (jZ vs B h)]
 congr 1
 apply Nat.eq_of_testBit_eq
 intro i
 rw[Nat.testBit_or,dU,dU,dU]
 simp only[List.mem_append,Bool.decide_or]
 cases decide (i<vs.length)<;>simp
theorem aKH(vs A B:List Int)(h:vs.length≤64):rN .u64 (mk vs A) (mk vs B)=mk vs (A.filter fun v=>decide (v∈B)):=by
 rw[vC _ _ (jZ vs A h) (jZ vs B h)]
 congr 1
 apply Nat.eq_of_testBit_eq
 intro i
 rw[Nat.testBit_and,dU,dU,dU]
 simp only[List.mem_filter,decide_eq_true_iff,Bool.decide_and]
 cases decide (i<vs.length)<;>simp
theorem nI(vs A B:List Int)(h:vs.length≤64):fH .u64 (mk vs A) (mk vs B)=mk vs (A.filter fun v=>!decide (v∈B)):=by
 rw[aCT _ _ (jZ vs A h) (jZ vs B h)]
 congr 1
 apply Nat.eq_of_testBit_eq
 intro i
 rw[Nat.testBit_and,Nat.testBit_two_pow_sub_succ (jZ vs B h),dU,dU,dU]
 by_cases hi:i<vs.length
 ·have:i<64:=oO
  simp only[hi,this,decide_true,Bool.true_and]
  by_cases h1:vs.getD i 0∈A<;>by_cases h2:vs.getD i 0∈B<;>simp[List.mem_filter,h1,h2]
 ·simp[hi]
def fst'(vs S:List Int):Nat:=vs.findIdx fun v=>decide (v∈S)
theorem aGO{x k:Nat}(h1:x.testBit k=true)(h2:∀ j,j<k→x.testBit j=false):∃ m,x=2 ^ k*(2*m+1):=by
 induction k generalizing x with
 |zero=>
  rw[Nat.testBit_zero]at h1
  simp only[decide_eq_true_eq]at h1
  exact⟨x / 2,by simp;omega⟩
 |succ k ih=>
  have h0:=h2 0 oO
  rw[Nat.testBit_zero]at h0
  simp only[decide_eq_false_iff_not]at h0
  rw[Nat.testBit_succ]at h1
  obtain⟨m,hm⟩:=ih h1 fun j hj=>by rw[← Nat.testBit_succ];exact h2 (j+1) oO
  refine⟨m,?_⟩
  have e:x=2*(x / 2):=oO
  rw[Nat.pow_succ,Nat.mul_assoc,Nat.mul_comm 2,← Nat.mul_assoc,← hm]
  omega
theorem vA{vs S:List Int}(h:fst' vs S<vs.length):∃ m,mk vs S=2 ^ fst' vs S*(2*m+1):=by
 have hp:decide (vs[fst' vs S]∈S)=true:=List.findIdx_getElem (w:=h)
 refine aGO ?_ fun j hj=>?_
 ·rw[dU,List.getD_eq_getElem?_getD,List.getElem?_eq_getElem h];simpa[h]using hp
 ·rw[dU]
  have hjl:j<vs.length:=oO
  have:=List.not_of_lt_findIdx hj
  rw[List.getD_eq_getElem?_getD,List.getElem?_eq_getElem hjl]
  simpa[hjl]using this
theorem aCS{a b m n:Nat}(h:2 ^ a*(2*m+1)=2 ^ b*(2*n+1)):a=b:=by
 induction a generalizing b with
 |zero=>
  cases b with
  |zero=>rfl
  |succ b=>
   rw[Nat.pow_succ]at h
   simp at h
   have:2 ^ b*2*(2*n+1)=2*(2 ^ b*(2*n+1)):=by rw[Nat.mul_comm (2 ^ b) 2,Nat.mul_assoc]
   omega
 |succ a ih=>
  cases b with
  |zero=>
   rw[Nat.pow_succ]at h
   simp at h
   have:2 ^ a*2*(2*m+1)=2*(2 ^ a*(2*m+1)):=by rw[Nat.mul_comm (2 ^ a) 2,Nat.mul_assoc]
   omega
  |succ b=>
   rw[Nat.pow_succ,Nat.pow_succ,Nat.mul_comm (2 ^ a) 2,Nat.mul_comm (2 ^ b) 2,Nat.mul_assoc,Nat.mul_assoc]at h
   rw[ih (Nat.eq_of_mul_eq_mul_left (by decide) h)]
theorem aBo{vs S:List Int}(h64:vs.length≤64)(h:fst' vs S<vs.length):Lib.ctz 64 (mk vs S)=fst' vs S:=by
 obtain⟨m,hm⟩:=vA h
 have hlt:=jZ vs S h64
 have h0:mk vs S≠0:=by rw[hm];exact Nat.mul_ne_zero (by exact Nat.pos_iff_ne_zero.1 (Nat.two_pow_pos _)) oO
 have e:Lib.ctz 64 (mk vs S)=Lib.ctzFrom 64 (mk vs S):=by simp[Lib.ctz,h0]
 obtain⟨n,hn,_⟩:=Lib.ctzFrom_spec 64 (mk vs S) oO hlt
 rw[e]
 exact aCS (hn.symm.trans hm)
theorem aBb{vs S:List Int}(h:fst' vs S<vs.length):mk vs S≠0:=by
 obtain⟨m,hm⟩:=vA h
 rw[hm];exact Nat.mul_ne_zero (Nat.pos_iff_ne_zero.1 (Nat.two_pow_pos _)) oO
theorem aOv{vs S:List Int}:fst' vs S<vs.length↔∃ v∈vs,v∈S:=by
 unfold fst';rw[List.findIdx_lt_length];simp
theorem aLq{vs S:List Int}(h:fst' vs S<vs.length):vs.getD (fst' vs S) 0∈S∧vs.getD (fst' vs S) 0∈vs:=by
 have hp:decide (vs[fst' vs S]∈S)=true:=List.findIdx_getElem (w:=h)
 have e:vs.getD (fst' vs S) 0=vs[fst' vs S]:=by rw[List.getD_eq_getElem?_getD,List.getElem?_eq_getElem h];rfl
 rw[e]
 exact⟨by simpa using hp,List.getElem_mem _⟩
theorem aBp{vs:List Int}(hn:vs.Nodup){i j:Nat}(hi:i<vs.length)(hj:j<vs.length):vs[i]=vs[j]↔i=j:=by
 constructor
 ·intro e
  refine Classical.byContradiction fun hne=>?_
  rcases Nat.lt_or_gt_of_ne hne with h|h
  ·exact List.pairwise_iff_getElem.1 hn i j hi hj h e
  ·exact List.pairwise_iff_getElem.1 hn j i hj hi h e.symm
 ·intro e;subst e;rfl
theorem mk_one{vs:List Int}(hn:vs.Nodup){k:Nat}(hk:k<vs.length):mk vs [vs.getD k 0]=2 ^ k:=by
 apply Nat.eq_of_testBit_eq
 intro i
 rw[dU,Nat.testBit_two_pow]
 by_cases hi:i<vs.length
 ·rw[List.getD_eq_getElem?_getD,List.getD_eq_getElem?_getD,List.getElem?_eq_getElem hi,List.getElem?_eq_getElem hk]
  simp only[hi,decide_true,Bool.true_and,Option.getD_some,List.mem_singleton,aBp hn hi hk]
  by_cases e:i=k
  ·simp[e]
  ·have e2:¬k=i:=fun h=>e h.symm
   simp[e,e2]
 ·simp only[hi,decide_false,Bool.false_and]
  have:¬k=i:=oO
  simp[this]
theorem aPb{vs S:List Int}(h64:vs.length≤64)(hn:vs.Nodup)(h:fst' vs S<vs.length):rN .u64 (mk vs S) (IntKind.u64.wrap (0-(mk vs S:Int)))=mk vs [vs.getD (fst' vs S) 0]:=by
 have hlt:=jZ vs S h64
 have h0:=aBb h
 have e1:IntKind.u64.wrap (0-(mk vs S:Int))=((18446744073709551616-mk vs S:Nat):Int):=by rw[IntKind.wrap_u64];omega
 rw[e1,vC _ _ hlt oO,mk_one hn h]
 have:=(Lib.lowest_bit 64 (mk vs S) h0 hlt).1
 rw[aBo h64 h]at this
 rw[← this]
theorem aCJ(k m:Nat):(2 ^ k*(2*m+1)) &&& (2 ^ k*(2*m+1)-1)=2 ^ k*(2*m):=by
 have hp:=Nat.two_pow_pos k
 have e:2 ^ k*(2*m+1)-1=2 ^ k*(2*m)+(2 ^ k-1):=by
  rw[Nat.mul_add,Nat.mul_one];omega
 rw[e]
 apply Nat.eq_of_testBit_eq
 intro i
 rw[Nat.testBit_and,Nat.testBit_two_pow_mul_add _ (show 2 ^ k-1<2 ^ k by omega)]
 rw[Nat.mul_comm (2 ^ k),Nat.mul_comm (2 ^ k),Nat.testBit_mul_two_pow,Nat.testBit_mul_two_pow]
 by_cases hik:i<k
 ·have h1:¬k≤i:=oO
  simp[hik,h1]
 ·have h1:k≤i:=oO
  simp only[hik,h1,decide_true,Bool.true_and,if_false]
  cases hj:i-k with
  |zero=>simp[Nat.testBit_zero]
  |succ j=>
   rw[Nat.testBit_succ,Nat.testBit_succ]
   have d1:(2*m+1) / 2=m:=oO
   have d2:2*m / 2=m:=oO
   rw[d1,d2];simp
theorem aGd{vs S:List Int}(h64:vs.length≤64)(hn:vs.Nodup)(h:fst' vs S<vs.length):rN .u64 (mk vs S) (IntKind.u64.wrap ((mk vs S:Int)-1))=mk vs (S.filter fun w=>decide (w≠vs.getD (fst' vs S) 0)):=by
 have hlt:=jZ vs S h64
 have h0:=aBb h
 have e1:IntKind.u64.wrap ((mk vs S:Int)-1)=((mk vs S-1:Nat):Int):=by rw[IntKind.wrap_u64];omega
 rw[e1,vC _ _ hlt oO]
 congr 1
 obtain⟨m,hm⟩:=vA h
 have h2:mk vs S &&& (mk vs S-1)=mk vs S-2 ^ fst' vs S:=by
  rw[hm,aCJ,Nat.mul_add (2 ^ _) (2*m) 1,Nat.mul_one];omega
 apply Nat.eq_of_testBit_eq
 intro i
 have hb:mk vs S &&& (mk vs S-1)=2 ^ fst' vs S*(2*m):=by rw[hm,aCJ]
 have hS:(mk vs S).testBit i=(2 ^ fst' vs S*(2*m+1)).testBit i:=by rw[← hm]
 rw[hb,dU]
 rw[dU,Nat.mul_comm (2 ^ _),Nat.testBit_mul_two_pow]at hS
 rw[Nat.mul_comm (2 ^ _),Nat.testBit_mul_two_pow]
 by_cases e:i=fst' vs S
 ·rw[e]
  simp only[Nat.le_refl,decide_true,Nat.sub_self,Nat.testBit_zero,List.mem_filter,decide_eq_true_iff,Bool.true_and,ne_eq,not_true_eq_false,and_false,decide_false,Bool.and_false]
  have:2*m % 2=0:=oO
  simp[this]
 ·have hv:i<vs.length→vs.getD i 0≠vs.getD (fst' vs S) 0:=fun hi=>by
   rw[List.getD_eq_getElem?_getD,List.getD_eq_getElem?_getD,List.getElem?_eq_getElem hi,List.getElem?_eq_getElem h]
   simpa[aBp hn hi h]using e
  have h3:(2*m).testBit (i-fst' vs S)=(2*m+1).testBit (i-fst' vs S)∨i<fst' vs S:=by
   by_cases hi:i<fst' vs S
   ·exact .inr hi
   ·left
    obtain⟨j,hj⟩:∃ j,i-fst' vs S=j+1:=⟨i-fst' vs S-1,oO⟩
    rw[hj,Nat.testBit_succ,Nat.testBit_succ]
    congr 1;omega
  have h4:(decide (fst' vs S≤i)&&(2*m).testBit (i-fst' vs S))=(decide (fst' vs S≤i)&&(2*m+1).testBit (i-fst' vs S)):=by
   rcases h3 with h3|h3
   ·rw[h3]
   ·have:¬fst' vs S≤i:=oO
    simp[this]
  rw[h4,← hS]
  by_cases hi:i<vs.length
  ·have hvi:=hv hi
   clear hv hS h4 h3
   generalize vs.getD i 0=x at *
   generalize vs.getD (fst' vs S) 0=y at *
   simp[hi,List.mem_filter,hvi]
  ·simp[hi]
theorem aFC{vs:List Int}(hn:vs.Nodup)(h64:vs.length≤64){k:Nat}(hk:k<vs.length):aAM .u64 1 (k:Int)=mk vs [vs.getD k 0]:=by
 rw[mk_one hn hk]
 unfold aAM
 have:min (k:Int).toNat IntKind.u64.bits=k:=by
  have:IntKind.u64.bits=64:=rfl
  omega
 rw[this,Int.one_mul,IntKind.wrap_u64]
 have h2:2 ^ k<18446744073709551616:=Nat.lt_of_lt_of_le (Nat.pow_lt_pow_right (show 1<2 by decide) (show k<64 by omega)) (Nat.le_refl _)
 have h3:((2:Int) ^ k)=((2 ^ k:Nat):Int):=sS
 rw[h3]
 generalize (2:Nat) ^ k=x at h2
 omega
abbrev wv(n:Nat):LV:=.atom (.int .u64 n)
theorem uO(n:Nat):∀ l:List Int,eI n (us l):=fun l=>by
 induction l with
 |nil=>trivial
 |cons a l ih=>exact⟨trivial,ih⟩
def sC(vs:List Int):List (List Int×LV):=(List.range vs.length).map fun k=>([vs.getD k 0],i k)
theorem wC{vs:List Int}(hn:vs.Nodup){k:Nat}(hk:k<vs.length):aY (sC vs) [vs.getD k 0]=some (i k):=by
 have key:∀(L:List Nat),(∀ j∈L,j<vs.length)→k∈L→aY (L.map fun k=>(([vs.getD k 0],i k):List Int×LV)) [vs.getD k 0]=some (i k):=by
  intro L
  induction L with
  |nil=>intro _ h;cases h
  |cons j L ih=>
   intro hL hkL
   simp only[List.map_cons,aY]
   by_cases e:j=k
   ·subst e;simp
   ·have hj:=hL j sS
    have hne:¬vs.getD k 0=vs.getD j 0:=by
     rw[List.getD_eq_getElem?_getD,List.getD_eq_getElem?_getD,List.getElem?_eq_getElem hk,List.getElem?_eq_getElem hj]
     simpa[aBp hn hk hj]using fun h=>e h.symm
    rw[if_neg (by simpa using hne)]
    exact ih (fun j hj=>hL j (List.mem_cons_of_mem _ hj)) ((List.mem_cons.1 hkL).resolve_left fun h=>e h.symm)
 exact key _ (fun j hj=>List.mem_range.1 hj) (List.mem_range.2 hk)
def ShB(vs:List Int)(S pl:Nat)(st:St):Prop:=(∃ a b c d e f,st.H S=.box 119 7 [a,b,c,.mp pl,d,e,f])∧st.H pl=.map false [.u32] (sC vs)
theorem wX{vs:List Int}{v:Int}(hv:v∈vs):vs.idxOf v<vs.length∧vs.getD (vs.idxOf v) 0=v:=by
 have h:=List.idxOf_lt_length_of_mem hv
 exact⟨h,by rw[aI _ _ h,List.getElem_idxOf]⟩
theorem aMC{vs:List Int}{S pl:Nat}{st:St}(hS:ShB vs S pl st)(hn:vs.Nodup)(h64:vs.length≤64){v:Int}(hv:v∈vs):
 aB Tryz.prog 110 [.pt S 0,u v] st fun r st'=>r=wv (mk vs [v])∧st'=st:=by
 obtain⟨⟨a,b,c,d,e,f,hSb⟩,hP⟩:=hS
 obtain⟨hk,hg⟩:=wX hv
 have h1:=wC hn hk
 have h2:=aFC hn h64 hk
 rw[hg]at h1 h2
 refine qO aF Tryz.func110 rfl rfl Tryz.ntmps110 (rs:=[.tmp 4]) rfl sS ?_
 (repeat' (first|refine qS ?_|(refine qR (zZ ?_);simp[hSb,hP,h1,h2])|(refine w_e [] ?_;intro J hJ;simp only[];simp[hSb,hP,h1,h2];refine hJ _ _ (zZ ?_))))
theorem aMn(vs l:List Int)(j:Nat)(hj:j<l.length)(h:vs.length≤64):gor .u64 (mk vs (l.take j)) (mk vs [l.getD j 0])=mk vs (l.take (j+1)):=by
 rw[vO vs _ _ h,List.take_succ_eq_append_getElem hj,List.getD_eq_getElem?_getD,List.getElem?_eq_getElem hj];rfl
theorem aOQ{vs:List Int}{S pl:Nat}{st:St}(hS:ShB vs S pl st)(hn:vs.Nodup)(h64:vs.length≤64)(l:List Int)(t:Nat)(hl:∀ v∈l,v∈vs)(hll:l.length≤1048576):
 aB Tryz.prog 164 [.pt S 0,.sl t l.length (us l)] st fun r st'=>r=wv (mk vs l)∧st'=st:=by
 refine qO aF Tryz.func164 rfl rfl Tryz.ntmps164 (rs:=[.tmp 4]) rfl sS ?_
 (repeat' (first|refine qS ?_|refine qB ?_|(refine w_e [] ?_;intro J hJ;simp only[];simp[];(refine hJ _ _ (zZ ?_);clear hJ J))))
 have h0:mk vs []=0:=(mk_zero vs []).2 fun _ _=>by simp
 refine aM 10 9 11 19 (l.length) (fun j fr st2=>fr 0=.pt S 0∧fr 8=.sl t l.length (us l)∧fr 5=wv (mk vs (l.take j))∧st2=st) ?_ ?_ ?_
 ·exact⟨sS,sS,by simp[h0],rfl⟩
 ·rintro j fr s hlt ⟨f0,f8,f5,hs⟩ fi fn J hJ
  subst hs
  have hd:=qG l j hlt
  have hm:=aMn vs l j hlt h64
  have hv:l.getD j 0∈vs:=hl _ (by rw[aI _ _ hlt];exact List.getElem_mem _)
  generalize l.getD j 0=v at *
  (repeat' (first|refine qS ?_|(refine w_e [] ?_;intro J hJ;simp only[];simp[f0,f8,f5,fi,fn,hd,hlt];(try (refine hJ _ _ (zZ ?_);clear hJ J)))))
  refine qE (aMC hS hn h64 hv) sS ?_;rintro r s1 ⟨rfl,h1⟩
  rw[h1];clear h1 s1
  (repeat' (refine aE ?_;simp[fi,hm];(refine hJ _ _ (zZ ?_);clear hJ J)))
  exact hJ _ _ (by simp[fi]) (by simp[fn]) ⟨by simp[f0],by simp[f8],sS,rfl⟩
 ·rintro fr s ⟨f0,f8,f5,hs⟩
  subst hs
  rw[List.take_length]at f5
  (repeat' (first|refine qS ?_|(refine qR (zZ ?_);simp[f5])|(refine w_e [] ?_;intro J hJ;simp only[];simp[f5];(refine hJ _ _ (zZ ?_);clear hJ J))))
theorem aJR{vs:List Int}{S pl:Nat}{st:St}(hS:ShB vs S pl st)(hSn:S<st.next)(hpn:pl<st.next)(hn:vs.Nodup)(h64:vs.length≤64)(l:List Int)(t:Nat)(hl:∀ v∈l,v∈vs)(hll:l.length≤1048576):
 aB Tryz.prog 115 [.pt S 0,.sl t l.length (us l)] st fun r st'=>r=.ag [.sl 0 l.length (us l),wv (mk vs l)]∧st'=st:=by
 refine qT (Q:=fun r=>r=.ag [.sl 0 l.length (us l),wv (mk vs l)]) (cQ ?_) fun r h=>by subst h;exact⟨⟨.inl rfl,uO _ _⟩,trivial,trivial⟩
 refine qO aF Tryz.func115 rfl rfl Tryz.ntmps115 (rs:=[.cell 4 127]) rfl sS ?_
 (repeat' (first|refine qS ?_|(refine w_e [] ?_;intro J hJ;simp only[];simp[];(try refine hJ _ _ (zZ ?_)))))
 refine qE (aOQ (vs:=vs) (S:=S) (pl:=pl) ?_ hn h64 l t hl hll) sS ?_
 ·obtain⟨⟨a,b,c,d,e,f,hSb⟩,hP⟩:=hS
  exact⟨⟨a,b,c,d,e,f,by rw[bI,if_neg oO];exact hSb⟩,by rw[bI,if_neg oO];exact hP⟩
 rintro r s1 ⟨rfl,h1⟩
 rw[h1];clear h1 s1
 (repeat' (first|(refine qR (zZ ?_);simp[])|(refine aE ?_;simp[];refine hJ _ _ (zZ ?_))))
 exact⟨by simp[z0,z0L],aA.new _ _⟩
theorem aEU{st:St}{m:Nat}{o:cA}(h:st.H m=o):st.set m o=st:=by
 obtain⟨n,H⟩:=st
 simp only[St.set,St.mk.injEq,true_and]
 funext y
 by_cases e:y=m
 ·subst e;rw[if_pos rfl];exact h.symm
 ·rw[if_neg e]
def prP(a b:Int):Int×Int:=(min a b,max a b)
abbrev pk(p:Int×Int):List Int:=[p.1,p.2]
def aKh(L:List (Int×Int))(p:Int×Int):List (Int×Int):=if p∈L then L else L++[p]
def tN:List Int→List (Int×Int)
 |a::b::l=>prP a b::tN (b::l)
 |_=>[]
def aFn(L:List (Int×Int))(w:List Int):List (Int×Int):=(tN w).foldl aKh L
theorem xI:∀ w:List Int,(tN w).length=w.length-1
 |[]=>rfl
 |[_]=>rfl
 |a::b::l=>by
  have:=xI (b::l)
  rw[tN,List.length_cons,this];simp
theorem aDj:∀(w:List Int) (k:Nat),k+1<w.length→(tN w)[k]?=some (prP (w.getD k 0) (w.getD (k+1) 0))
 |a::b::l,0,_=>by simp[tN]
 |a::b::l,k+1,h=>by
  rw[tN,List.getElem?_cons_succ,aDj (b::l) k (by simpa using h)];simp
 |[],k,h=>by simp at h
 |[_],k,h=>by simp at h
theorem aHy(es:List (List Int×LV))(L:List (Int×Int))(p:Int×Int)(v:LV)(h:es.map (·.1)=L.map pk):(aV es (pk p) v).map (·.1)=(aKh L p).map pk:=by
 have hin:pk p∈L.map pk↔p∈L:=by
  rw[List.mem_map]
  constructor
  ·rintro⟨q,hq,e⟩
   simp only[pk,List.cons.injEq,and_true]at e
   obtain⟨e1,e2⟩:=e
   have:q=p:=Prod.ext e1 e2
   rw[← this];exact hq
  ·intro hp;exact⟨p,hp,rfl⟩
 have key:∀(es:List (List Int×LV)),(aV es (pk p) v).map (·.1)=if pk p∈es.map (·.1)then es.map (·.1)else es.map (·.1)++[pk p]:=by
  intro es
  induction es with
  |nil=>simp[aV]
  |cons q es ih=>
   simp only[aV]
   by_cases e:pk p=q.1
   ·rw[if_pos (by simpa using e)];simp[e]
   ·rw[if_neg (by simpa using e),List.map_cons,ih,List.map_cons]
    by_cases e2:pk p∈es.map (·.1)
    ·rw[if_pos e2,if_pos (List.mem_cons_of_mem _ e2)]
    ·rw[if_neg e2,if_neg (by simp only[List.mem_cons,not_or];exact⟨e,e2⟩)];rfl
 rw[key,h]
 unfold aKh
 by_cases e:p∈L
 ·rw[if_pos e,if_pos (hin.2 e)]
 ·rw[if_neg e,if_neg fun k=>e (hin.1 k),List.map_append];rfl
theorem pair(a b:Int)(st:St):aB Tryz.prog 41 [u a,u b] st fun r st'=>r=.ag [u (min a b),u (max a b)]∧st'=st:=by
 refine qT (Q:=fun r=>r=.ag [u (min a b),u (max a b)]) ?_ fun r h=>by subst h;exact⟨trivial,trivial,trivial⟩
 refine qO aF Tryz.func41 rfl rfl Tryz.ntmps41 (rs:=[.cell 4 73]) rfl sS ?_
 (repeat' (first|refine qS ?_|(refine qR (zZ ?_);simp[])|(refine w_e [] ?_;intro J hJ;simp only[];simp[];refine hJ _ _ (zZ ?_))))
 exact⟨⟨by split<;>omega,by split<;>omega⟩,aA.new _ _⟩
set_option maxHeartbeats 1000000 in
theorem aJh{vs:List Int}{S pl ll:Nat}{st:St}{a b c f:LV}{on:List Int}{le:List (List Int×LV)}{L:List (Int×Int)}(hSb:st.H S=.box 119 7 [a,b,c,.mp pl,.mp ll,wv (mk vs on),f])(hP:st.H pl=.map false [.u32] (sC vs))
 (hL:st.H ll=.map true [.u32,.u32] le) (hk:le.map (·.1)=L.map pk) (hpl:¬pl=ll) (hn:vs.Nodup) (h64:vs.length≤64) (w:List Int) (t:Nat) (hw:∀ v∈w,v∈vs) (hwl:w.length≤1000):
 aB Tryz.prog 114 [.pt S 0,.sl t w.length (us w)] st fun _ st'=>∃ le',st'=(st.set ll (.map true [.u32,.u32] le')).set S (.box 119 7 [a,b,c,.mp pl,.mp ll,wv (mk vs (on++w)),f])∧le'.map (·.1)=(aFn L w).map pk:=by
 have n1:¬S=ll:=fun h=>by rw[h,hL]at hSb;cases hSb
 have n2:¬ll=S:=fun h=>n1 h.symm
 have n3:¬pl=S:=fun h=>by rw[h,hSb]at hP;cases hP
 refine qO aF Tryz.func114 rfl rfl Tryz.ntmps114 (rs:=[]) rfl sS ?_
 (repeat' (first|refine qS ?_|refine qB ?_|(refine w_e [] ?_;intro J hJ;simp only[];simp[];refine hJ _ _ (zZ ?_))))
 refine qL (fun n fr st'=>∃ k:Nat,1≤k∧(k=1∨k≤w.length)∧n=w.length-k∧fr 0=.pt S 0∧fr 1=.sl t w.length (us w)∧fr 4=i k∧∃ le',st'=st.set ll (.map true [.u32,.u32] le')∧le'.map (·.1)=(((tN w).take (k-1)).foldl aKh L).map pk) (w.length-1) ?_ ?_
 ·exact⟨1,oO,.inl rfl,rfl,sS,sS,sS,le,(aEU hL).symm,by simpa using hk⟩
 rintro n fr s ⟨k,hk1,hk2,rfl,f0,f1,f4,le',rfl,hk3⟩ JJ hJJ
 by_cases hlt:k<w.length
 ·have hw1:=qN k oO
  have hd:=qG w k hlt
  have hd1:=qG w (k-1) oO
  have hg:=aDj w (k-1) oO
  have hwl2:=xI w
  have e1:IntKind.i64.wrap ((k:Int)-1)=((k-1:Nat):Int):=by rw[wrap_i64 _ oO oO];omega
  have e4:k-1<w.length:=oO
  rw[show k-1+1=k by omega]at hg
  have hset:∀ v,(aV le' (pk (prP (w.getD (k-1) 0) (w.getD k 0))) v).map (·.1)=(((tN w).take (k+1-1)).foldl aKh L).map pk:=fun v=>by
   rw[aHy _ _ _ _ hk3,show k+1-1=(k-1)+1 by omega]
   have hlt2:k-1<(tN w).length:=oO
   rw[List.take_succ_eq_append_getElem hlt2,List.foldl_append]
   rw[List.getElem?_eq_getElem hlt2,Option.some.injEq]at hg
   rw[hg];rfl
  generalize w.getD (k-1) 0=x at *
  generalize w.getD k 0=y at *
  (repeat' (first|refine qS ?_|refine qB ?_|(refine qK (zZ ?_))|(refine qC ?_;simp[f0,f1,f4,hlt])|(refine w_e [] ?_;intro J hJ;simp only[];simp[f0,f1,f4,hlt];refine hJ _ _ (zZ ?_))))
  (refine w_s [] [S] [(0,true),(1,true),(2,true),(3,true),(4,true),(5,true),(6,true),(7,true),(8,true),(9,true),(10,true),(11,true),(12,true),(14,true),(13,true),(15,false)] ?_;intro J hJ;simp[f0,f1,f4,hlt,hSb,hL,n1,n2,e1,e4,hd,hd1])
  refine qD (pair x y _) sS ?_;rintro r s1 ⟨rfl,h1⟩
  rw[h1];clear h1 s1
  refine⟨fun h=>by first|(cases h;done)|simp,?_⟩
  (refine bE ?_;simp[n1,n2,hL];refine hJ _ _ (zZ ?_))
  (repeat' (refine w_e [] ?_;intro J hJ;simp only[];simp[f4,hw1];refine hJ _ _ (zZ ?_)))
  refine hJJ _ _ _ ?_ ⟨k+1,oO,.inr oO,rfl,by simp[f0],by simp[f1],sS,_,set_set _ _ _ _,hset _⟩
  omega
 ·have hkk:(tN w).take (k-1)=tN w:=List.take_of_length_le (by rw[xI];omega)
  rw[hkk]at hk3
  have hB:ShB vs S pl (st.set ll (.map true [.u32,.u32] le')):=⟨⟨a,b,c,.mp ll,wv (mk vs on),f,by rw[bH,if_neg n1];exact hSb⟩,by rw[bH,if_neg hpl];exact hP⟩
  have hor:=vO vs on w h64
  (repeat' (first|refine qS ?_|(refine qX (zZ ?_))|(refine qC ?_;simp[f0,f1,f4,hlt])|(refine w_e [] ?_;intro J hJ;simp only[];simp[f0,f1,f4,hlt];refine hJ _ _ (zZ ?_))))
  (refine w_s [] [S] [(0,true),(1,true),(2,true),(3,true),(4,true),(5,true),(6,true),(7,true),(8,true),(9,true),(10,false)] ?_;intro J hJ;simp[f0,f1,hSb,n1])
  refine qD (aOQ hB hn h64 w t hw oO) sS ?_;rintro r s1 ⟨rfl,h1⟩
  rw[h1];clear h1 s1
  refine⟨fun h=>by first|(cases h;done)|simp,?_⟩
  (refine bE ?_;simp[hSb,n1,hor];refine hJ _ _ (zZ ?_))
  skip
  exact⟨trivial,le',rfl,hk3⟩
end Go.Proofs.YtempldclppogmaaGreatDoor.Aw
namespace Go.Proofs.YtempldclppogmaaGreatDoor.Aw
open Go Go.RowKit
set_option maxHeartbeats 1000000 in
theorem aMZ(x k idx:Nat)(w:World)(hx0:((x:Int)==0)=false)
 (key:IntKind.u64.wrap (bits BinOp.and IntKind.u64 (x:Int) (IntKind.u64.wrap (-(x:Int)))*285870213051353865) / 288230376151711744=(idx:Int))
 (hi:idx<64) (hk:k<64) (hcell:w.cell? ⟨0,idx,none⟩=some (.int .u8 k)):
 Calls Tryz.prog 118 #[.int .u64 x] w fun e w'=>e=.returned (.int .i64 k)∧w'=w:=by
 go_enter Tryz.func118,Tryz.ntmps118
 go_wp2_with (simp only[key])
 go_ret
 exact⟨rfl,rfl⟩
theorem aKV(w:World):
 Calls Tryz.prog 118 #[.int .u64 0] w fun e w'=>e=.returned (.int .i64 64)∧w'=w:=by
 go_enter Tryz.func118,Tryz.ntmps118
 go_wp2
 go_ret
 exact⟨rfl,rfl⟩
theorem aOr(x a:Nat)(hx:x<18446744073709551616)(hx0:x≠0)(hlow:x &&& (18446744073709551616-x)=a):
 IntKind.u64.wrap (bits BinOp.and IntKind.u64 (x:Int) (IntKind.u64.wrap (-(x:Int)))*285870213051353865) / 288230376151711744=((a*285870213051353865 % 18446744073709551616 / 288230376151711744:Nat):Int):=by
 have e1:IntKind.u64.wrap (-(x:Int))=((18446744073709551616-x:Nat):Int):=by rw[IntKind.wrap_u64];omega
 rw[e1,bits_and_u64_nat x _ hx oO,hlow,IntKind.wrap_u64]
 omega
theorem aJN{w:World}{g:G}(h:fY w g)(idx k:Nat)(hi:idx<64)(hk:Lib.deBruijn64tab.getD idx 0=k):w.cell? ⟨0,idx,none⟩=some (.int .u8 k):=by
 have hl:Lib.deBruijn64tab.length=64:=rfl
 have h2:Lib.deBruijn64tab[idx]?=some k:=by
  rw[List.getD_eq_getElem?_getD,List.getElem?_eq_getElem (by rw[hl];exact hi),Option.getD_some]at hk
  rw[List.getElem?_eq_getElem (by rw[hl];exact hi),hk]
 have h3:=h (0,Lib.deBruijn64tab.map fun(n:Nat)=>.int .u8 n) (List.mem_singleton.2 rfl) idx (.int .u8 k)
 generalize Lib.deBruijn64tab=T at *
 exact(h3 (by show(T.map fun(n:Nat)=>Value.int .u8 n)[idx]?=_;rw[List.getElem?_map,h2];rfl)).1
theorem aIH(x:Nat)(hx:x<18446744073709551616){w:World}{g:G}(h:fY w g):Calls Tryz.prog 118 #[.int .u64 x] w fun e w'=>e=.returned (.int .i64 (Lib.ctz 64 x))∧w'=w:=by
 by_cases hx0:x=0
 ·subst hx0
  exact aKV w
 ·obtain⟨hlow,hk⟩:=Lib.lowest_bit 64 x hx0 hx
  obtain⟨hi',htab⟩:=Lib.deBruijn64_at _ hk
  exact aMZ x _ _ w (by simp;omega) (aOr x _ hx hx0 hlow) hi' hk (aJN h _ _ hi' htab)
theorem aGG:Enters Tryz.prog 118:=enters_of Tryz.func118 (by kernel_rfl) rfl
theorem Tz(x:Nat)(hx:x<18446744073709551616)(st:St):aB Tryz.prog 118 [.atom (.int .u64 x)] st fun r st'=>r=i (Lib.ctz 64 x)∧st'=st:=by
 refine⟨aGG,fun w g vs hi hr=>?_⟩
 simp only[aG,Rep]at hr
 obtain⟨v,vs',rfl,rfl,rfl⟩:=hr
 refine(aIH x hx hi.aside.glob).mono ?_
 rintro e w' ⟨rfl,rfl⟩
 exact⟨_,_,st,g,rfl,⟨rfl,rfl⟩,by simp only[Rep],hi,Ext.refl _ _⟩
end Go.Proofs.YtempldclppogmaaGreatDoor.Aw
