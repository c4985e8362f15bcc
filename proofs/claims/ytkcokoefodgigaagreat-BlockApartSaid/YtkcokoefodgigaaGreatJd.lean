/- What hangs together in a graph. No program. -/
import Derived.Test.YtkcokoefodgigaaGreatJc
namespace Go.Proofs.YtkcokoefodgigaaGreat.Aw
open Go Go.RowKit Go.Proofs.YtkcokoefodgigaaGreat.Pl
set_option linter.unusedSimpArgs false
set_option linter.unusedVariables false
inductive Reach (es:List Ed) (v:Int):Int→Prop
 | refl:Reach es v v
 | step {u w:Int} (h:Reach es v u) (hw:w∈nbr es u):Reach es v w
theorem mem_nbr {es:List Ed} {u w:Int}:w∈nbr es u↔∃ x∈es,(x.a=u∧x.b=w)∨(x.b=u∧x.a=w):=by
 unfold nbr nbr1
 simp only [List.mem_flatMap,List.mem_append]
 constructor
 ·rintro ⟨x,hx,h | h⟩
  ·refine ⟨x,hx,.inl ?_⟩
   split at h
   ·rename_i h1;simp at h;exact ⟨h1,h.symm⟩
   ·cases h
  ·refine ⟨x,hx,.inr ?_⟩
   split at h
   ·rename_i h1;simp at h;exact ⟨h1,h.symm⟩
   ·cases h
 ·rintro ⟨x,hx,⟨h1,h2⟩ | ⟨h1,h2⟩⟩
  ·exact ⟨x,hx,.inl (by simp [h1,h2])⟩
  ·exact ⟨x,hx,.inr (by simp [h1,h2])⟩
theorem nbr_symm {es:List Ed} {u w:Int} (h:w∈nbr es u):u∈nbr es w:=by
 rw [mem_nbr] at h ⊢
 obtain ⟨x,hx,⟨h1,h2⟩ | ⟨h1,h2⟩⟩:=h
 ·exact ⟨x,hx,.inr ⟨h2,h1⟩⟩
 ·exact ⟨x,hx,.inl ⟨h2,h1⟩⟩
theorem Reach.trans {es:List Ed} {u v w:Int} (h:Reach es u v) (k:Reach es v w):Reach es u w:=by
 induction k with
 | refl=>exact h
 | step _ hw ih=>exact .step ih hw
theorem Reach.symm {es:List Ed} {u v:Int} (h:Reach es u v):Reach es v u:=by
 induction h with
 | refl=>exact .refl
 | step _ hw ih=>exact Reach.trans (.step .refl (nbr_symm hw)) ih
theorem Reach.closed {es:List Ed} {v w:Int} {L:Int→Prop} (h:Reach es v w) (hv:L v) (hc:∀ u,L u→∀ w∈nbr es u,L w):L w:=by
 induction h with
 | refl=>exact hv
 | step _ hw ih=>exact hc _ ih _ hw
structure Good (g:Gr):Prop where
 rise:g.vs.Pairwise (· < ·)
 ends:∀ x∈g.es,x.a∈g.vs∧x.b∈g.vs
theorem Good.nbr {g:Gr} (h:Good g) {u w:Int} (hw:w∈nbr g.es u):w∈g.vs:=by
 rw [mem_nbr] at hw
 obtain ⟨x,hx,⟨_,rfl⟩ | ⟨_,rfl⟩⟩:=hw
 ·exact (h.ends x hx).2
 ·exact (h.ends x hx).1
theorem Good.reach {g:Gr} (h:Good g) {v w:Int} (hv:v∈g.vs) (hr:Reach g.es v w):w∈g.vs:=by
 cases hr with
 | refl=>exact hv
 | step _ hw=>exact h.nbr hw
def IsPart (g:Gr) (v:Int) (c:List Int):Prop:=c.Pairwise (· < ·)∧∀ w,w∈c↔w∈g.vs∧Reach g.es v w
theorem part_of {g:Gr} (h:Good g) {v:Int} (hv:v∈g.vs) {L c:List Int} (hn:L.Nodup) (hL:∀ w,w∈L↔Reach g.es v w) (hp:c.Perm L) (hs:c.Pairwise (·≤·)):IsPart g v c:=by
 have hcn:c.Nodup:=hp.nodup_iff.2 hn
 refine ⟨?_,fun w=>?_⟩
 ·refine (List.Pairwise.and hs hcn).imp ?_
  rintro a b ⟨h1,h2⟩
  have:a≠b:=h2
  omega
 ·rw [hp.mem_iff,hL]
  exact ⟨fun hr=>⟨h.reach hv hr,hr⟩,fun hr=>hr.2⟩
def Seen (g:Gr) (k:Nat) (w:Int):Prop:=∃ u∈g.vs.take k,Reach g.es u w
theorem Seen.reach {g:Gr} {k:Nat} {u w:Int} (h:Seen g k u) (hr:Reach g.es u w):Seen g k w:=by
 obtain ⟨x,hx,hy⟩:=h
 exact ⟨x,hx,hy.trans hr⟩
theorem seen_succ {g:Gr} {k:Nat} (hk:k < g.vs.length) {w:Int}:Seen g (k+1) w↔Seen g k w∨Reach g.es (g.vs.getD k 0) w:=by
 unfold Seen
 rw [List.take_succ_eq_append_getElem hk,getD_lt _ _ hk]
 constructor
 ·rintro ⟨u,hu,hr⟩
  rw [List.mem_append,List.mem_singleton] at hu
  rcases hu with hu | rfl
  ·exact .inl ⟨u,hu,hr⟩
  ·exact .inr hr
 ·rintro (⟨u,hu,hr⟩ | hr)
  ·exact ⟨u,List.mem_append_left _ hu,hr⟩
  ·exact ⟨_,List.mem_append_right _ (List.mem_singleton.2 rfl),hr⟩
theorem seen_same {g:Gr} {k:Nat} (hk:k < g.vs.length) (hs:Seen g k (g.vs.getD k 0)) {w:Int}:Seen g (k+1) w↔Seen g k w:=by
 rw [seen_succ hk]
 exact ⟨fun h=>h.elim id hs.reach,.inl⟩
inductive PartsTo (g:Gr):Nat→List (List Int)→Prop
 | zero:PartsTo g 0 []
 | seen {k:Nat} {R:List (List Int)} (h:PartsTo g k R) (hk:k < g.vs.length) (hs:Seen g k (g.vs.getD k 0)):PartsTo g (k+1) R
 | lead {k:Nat} {R:List (List Int)} {c:List Int} (h:PartsTo g k R) (hk:k < g.vs.length) (hs:¬ Seen g k (g.vs.getD k 0)) (hc:IsPart g (g.vs.getD k 0) c):PartsTo g (k+1) (R++[c])
theorem PartsTo.len {g:Gr} {k:Nat} {R:List (List Int)} (h:PartsTo g k R):R.length≤k:=by
 induction h with
 | zero=>simp
 | seen _ _ _ ih=>omega
 | lead _ _ _ _ ih=>simp;omega
structure Srch (g:Gr) (n:Nat) (v:Int) (L:List Int) (k:Nat):Prop where
 nodup:L.Nodup
 reach:∀ w∈L,Reach g.es v w
 mem:v∈L
 done:∀ u∈L.take k,∀ w∈nbr g.es u,w∈L
theorem Srch.all {g:Gr} {n:Nat} {v:Int} {L:List Int} (h:Srch g n v L L.length):∀ w,w∈L↔Reach g.es v w:=by
 intro w
 refine ⟨h.reach w,fun hr=>?_⟩
 exact hr.closed (L:=fun w=>w∈L) h.mem fun u hu w hw=>h.done u (by rw [List.take_length];exact hu) w hw
theorem Srch.sub {g:Gr} (hg:Good g) {n:Nat} {v:Int} {L:List Int} {k:Nat} (h:Srch g n v L k) (hv:v∈g.vs):L.length≤g.vs.length:=by
 exact List.Nodup.length_le_of_subset h.nodup fun w hw=>hg.reach hv (h.reach w hw)
abbrev rowsL3 (rs:List (List Int)):List LV:=rs.map fun r=>.sl 0 r.length (us r)
structure SrchI (g:Gr) (v:Int) (L:List Int) (k:Nat) (x:Int) (j:Nat):Prop where
 nodup:L.Nodup
 reach:∀ w∈L,Reach g.es v w
 mem:v∈L
 done:∀ u∈L.take k,∀ w∈nbr g.es u,w∈L
 lt:k < L.length
 at':L.getD k 0=x
 some:∀ w∈(nbr g.es x).take j,w∈L
theorem Srch.start {g:Gr} {n:Nat} {v:Int} {L:List Int} {k:Nat} (h:Srch g n v L k) (hk:k < L.length):SrchI g v L k (L.getD k 0) 0:=
 ⟨h.nodup,h.reach,h.mem,h.done,hk,rfl,fun w hw=>by simp at hw⟩
theorem SrchI.skip {g:Gr} {v:Int} {L:List Int} {k:Nat} {x:Int} {j:Nat} (h:SrchI g v L k x j) (hj:j < (nbr g.es x).length) (hw:(nbr g.es x).getD j 0∈L):SrchI g v L k x (j+1):=by
 refine ⟨h.nodup,h.reach,h.mem,h.done,h.lt,h.at',fun w hw2=>?_⟩
 rw [List.take_succ_eq_append_getElem hj,List.mem_append,List.mem_singleton] at hw2
 rcases hw2 with hw2 | rfl
 ·exact h.some w hw2
 ·rwa [getD_lt _ _ hj] at hw
theorem SrchI.push {g:Gr} {v:Int} {L:List Int} {k:Nat} {x:Int} {j:Nat} (h:SrchI g v L k x j) (hj:j < (nbr g.es x).length) (hw:(nbr g.es x).getD j 0∉L):SrchI g v (L++[(nbr g.es x).getD j 0]) k x (j+1):=by
 have hx:x∈L:=by rw [← h.at',getD_lt _ _ h.lt];exact List.getElem_mem _
 refine ⟨?_,fun w hw2=>?_,List.mem_append_left _ h.mem,fun u hu w hw2=>?_,?_,?_,fun w hw2=>?_⟩
 ·rw [List.nodup_append]
  refine ⟨h.nodup,by simp,fun a ha b hb=>?_⟩
  rw [List.mem_singleton] at hb
  rintro rfl
  exact hw (hb ▸ ha)
 ·rw [List.mem_append,List.mem_singleton] at hw2
  rcases hw2 with hw2 | rfl
  ·exact h.reach w hw2
  ·exact .step (h.reach x hx) (by rw [getD_lt _ _ hj];exact List.getElem_mem _)
 ·rw [List.take_append_of_le_length (by have:=h.lt;omega)] at hu
  exact List.mem_append_left _ (h.done u hu w hw2)
 ·have:=h.lt;simp;omega
 ·rw [← h.at']
  have:=h.lt
  simp [List.getD_eq_getElem?_getD,List.getElem?_append_left this]
 ·rw [List.take_succ_eq_append_getElem hj,List.mem_append,List.mem_singleton] at hw2
  rw [getD_lt _ _ hj]
  rcases hw2 with hw2 | rfl
  ·exact List.mem_append_left _ (h.some w hw2)
  ·exact List.mem_append_right _ (List.mem_singleton.2 rfl)
theorem SrchI.finish {g:Gr} {n:Nat} {v:Int} {L:List Int} {k:Nat} {x:Int} {j:Nat} (h:SrchI g v L k x j) (hj:(nbr g.es x).length≤j):Srch g n v L (k+1):=by
 refine ⟨h.nodup,h.reach,h.mem,fun u hu w hw=>?_⟩
 rw [List.take_succ_eq_append_getElem h.lt,List.mem_append,List.mem_singleton] at hu
 rcases hu with hu | rfl
 ·exact h.done u hu w hw
 ·have hx:L[k]'h.lt=x:=(getD_lt _ _ h.lt).symm.trans h.at'
  rw [hx] at hw
  exact h.some w (by rw [List.take_of_length_le hj];exact hw)
theorem SrchI.len {g:Gr} (hg:Good g) {v:Int} {L:List Int} {k:Nat} {x:Int} {j:Nat} (h:SrchI g v L k x j) (hv:v∈g.vs):L.length≤g.vs.length:=
 List.Nodup.length_le_of_subset h.nodup fun w hw=>hg.reach hv (h.reach w hw)
def SeenI (es:List (List Int×LV)) (P:Int→Prop):Prop:=∀ v,(P v→(mget es [v]).getD (i 0)=i 1)∧(¬ P v→(mget es [v]).getD (i 0)=i 0)
theorem SeenI.step {es:List (List Int×LV)} {P P':Int→Prop} (h:SeenI es P) (w:Int) (hp:∀ v,P' v↔P v∨v=w):SeenI (mset es [w] (i 1)) P':=by
 intro v
 rw [mget_mset]
 by_cases hv:v=w
 ·subst hv
  simp only [if_true,Option.getD_some]
  exact ⟨fun _=>by trivial,fun h1=>absurd ((hp v).2 (.inr rfl)) h1⟩
 ·rw [if_neg (by simpa using hv),hp]
  exact ⟨fun h1=>(h v).1 (h1.resolve_right hv),fun h1=>(h v).2 fun h2=>h1 (.inl h2)⟩
theorem SeenI.congr {es:List (List Int×LV)} {P P':Int→Prop} (h:SeenI es P) (hp:∀ v,P' v↔P v):SeenI es P':=fun v=>by rw [hp];exact h v
def PtF (m ms:Nat) (es:List (List Int×LV)) (n:Nat) (g:Gr) (st:St) (j:Nat) (P:Int→Prop) (fr:Frm) (st2:St):Prop:=
 fr 4=.mp m∧fr 5=.mp ms∧fr 16=.sl 0 g.vs.length (us g.vs)∧fr 17=i g.vs.length∧fr 18=i j∧(m < ms∧ms < st2.next∧st.next≤m)∧st2.H m=.map false [.u32] es∧Keeps st st2∧(∃ es2,st2.H ms=.map false [.u32] es2∧SeenI es2 P)∧
  ∃ t R,fr 3=.sl t R.length (rowsL3 R)∧PartsTo g j R∧t≠0∧st.next≤t∧t < st2.next∧st2.H t=.own 22 1 R.length
def PtL (m ms:Nat) (es:List (List Int×LV)) (n:Nat) (g:Gr) (st:St) (j:Nat) (v:Int) (L:List Int) (fr:Frm) (st2:St):Prop:=
 PtF m ms es n g st j (fun w=>Seen g j w∨w∈L) fr st2∧∃ q,fr 8=.ms q 0 L.length∧st2.H q=.box 32 1 (us L)∧st.next≤q∧q < st2.next
theorem PtL.fr {m ms:Nat} {es:List (List Int×LV)} {n:Nat} {g:Gr} {st:St} {j:Nat} {v:Int} {L:List Int} {fr fr':Frm} {st2:St} (h:PtL m ms es n g st j v L fr st2) (h3:fr' 3=fr 3) (h4:fr' 4=fr 4) (h5:fr' 5=fr 5) (h8:fr' 8=fr 8) (h16:fr' 16=fr 16) (h17:fr' 17=fr 17) (h18:fr' 18=fr 18):PtL m ms es n g st j v L fr' st2:=by
 obtain ⟨⟨f4,f5,f16,f17,f18,a,b,c,d,t,R,f3,r⟩,q,f8,r2⟩:=h
 exact ⟨⟨h4.trans f4,h5.trans f5,h16.trans f16,h17.trans f17,h18.trans f18,a,b,c,d,t,R,h3.trans f3,r⟩,q,h8.trans f8,r2⟩
set_option maxHeartbeats 2000000 in
theorem Parts (g:Gr) (st:St) (hg:Good g) (hv:g.vs.length≤1000) (he:g.es.length≤1000):
 ACalls Tryz.prog 9 [.ag (grL g)] st fun r st'=>(∃ t R,r=.sl t R.length (rowsL3 R)∧PartsTo g g.vs.length R)∧Keeps st st':=by
 refine qO tabOk Tryz.func9 rfl rfl Tryz.ntmps9 (rs:=[.tmp 2]) rfl (by simp) ?_
 (repeat' (first | refine qS ?_ | (refine w_e [] ?_;intro J hJ;simp only [];simp [];(try (refine hJ _ _ ?_;clear hJ J;simp only [ak,reduceIte])))))
 refine qE (near g _ he) (by simp) ?_;rintro r s1 ⟨m,es,rfl,hm1,hm2,hM,hk1,hR⟩
 have hn1:=hk1.next
 simp only [new_next] at hn1 hm1
 have hG1:s1.H st.next=.box 25 2 (grL g):=by rw [hk1.H _ (by simp)];simp
 have hms:¬ st.next=s1.next:=by omega
 (repeat' (first | refine qS ?_ | refine qB ?_ | ((first | (refine w_e [] ?_;intro J hJ;simp only []) | (refine e_go ?_));simp [hG1,hms];(refine hJ _ _ ?_;clear hJ J;simp only [ak,reduceIte]))))
 obtain ⟨ms,hmse⟩:∃ ms,ms=s1.next:=⟨_,rfl⟩
 refine awp_posG fun hpos=>?_
 refine awp_own 3 22 1 (by simp) ?_
 refine qL (fun z fr st2=>∃ j:Nat,j≤g.vs.length∧z=g.vs.length - j∧PtF m ms es 0 g st j (Seen g j) fr st2) g.vs.length ?_ ?_
 ·refine ⟨0,by omega,by omega,by simp,by simp [hmse],by simp,by simp,by simp,⟨by omega,by simp;omega,by omega⟩,?_,?_,⟨[],by simp [hmse],fun v=>⟨fun h=>?_,fun _=>rfl⟩⟩,s1.next+1,[],by simp,.zero,by omega,by omega,by simp,by simp⟩
  ·have a1:¬ m=s1.next+1:=by omega
   have a2:¬ m=s1.next:=by omega
   simp [a1,a2,hM]
  ·exact (((Keeps.new _ _).trans hk1).trans (Keeps.new _ _)).trans (Keeps.new _ _)
  ·obtain ⟨u,hu,_⟩:=h;simp at hu
 rintro z fr st2 ⟨j,hj,rfl,f4,f5,f16,f17,f18,⟨hmm,hmn,hml⟩,hM2,hkp,⟨es2,hS,hSI⟩,t,R,f3,hPT,ht0,htl,htn,htH⟩ JJ hJJ
 by_cases hlt:j < g.vs.length
 rotate_left
 ·clear hJJ
  have hj':j=g.vs.length:=by omega
  rw [hj'] at hPT
  (repeat' (first | refine qS ?_ | (refine qX ?_;simp only [ak,reduceIte]) | (refine qR ?_;simp only [ak,reduceIte];simp [f3,f17,f18,hlt]) | (refine qC ?_;simp [f3,f17,f18,hlt]) | (refine w_e [] ?_;intro J hJ;simp only [];simp [f3,f17,f18,hlt];(refine hJ _ _ ?_;clear hJ J;simp only [ak,reduceIte]))))
  exact ⟨⟨t,R,⟨rfl,rfl,rfl⟩,hPT⟩,hkp⟩
 have hd:=qG g.vs j hlt
 have hw:=qN j (by omega)
 have hvin:g.vs.getD j 0∈g.vs:=by rw [getD_lt _ _ hlt];exact List.getElem_mem hlt
 have hsame:=@seen_same g j hlt
 have hsucc:=@seen_succ g j hlt
 have hps:=fun hs=>PartsTo.seen hPT hlt hs
 have hpl:=fun (c:List Int) hs hc=>PartsTo.lead (c:=c) hPT hlt hs hc
 generalize hx:g.vs.getD j 0=v at *
 by_cases hs:Seen g j v
 ·have hg1:=(hSI v).1 hs
  (repeat' (first | refine qS ?_ | refine qB ?_ | (refine qK ?_;simp only [ak,reduceIte]) | (refine qX ?_;simp only [ak,reduceIte]) | (refine qC ?_;simp [f5,f16,f17,f18,hlt,hd,hw,hS,hg1]) | (refine w_e [] ?_;intro J hJ;simp only [];simp [f5,f16,f17,f18,hlt,hd,hw,hS,hg1];(refine hJ _ _ ?_;clear hJ J;simp only [ak,reduceIte]))))
  exact hJJ (g.vs.length - (j+1)) _ _ (by omega) ⟨j+1,by omega,rfl,by simp [f4],by simp [f5],by simp [f16],by simp [f17],by simp,⟨hmm,hmn,hml⟩,hM2,hkp,⟨es2,hS,hSI.congr fun w=>hsame hs⟩,t,R,by simp [f3],hps hs,ht0,htl,htn,htH⟩
 have hg1:=(hSI v).2 hs
 (repeat' (first | refine qS ?_ | (refine w_e [] ?_;intro J hJ;simp only [];simp [f5,f16,f17,f18,hlt,hd,hw,hS,hg1];(refine hJ _ _ ?_;clear hJ J;simp only [ak,reduceIte]))))
 refine qC ?_;simp [hlt]
 (repeat' (first | refine qS ?_ | refine qB ?_ | (refine qK ?_;simp only [ak,reduceIte]) | (refine w_e [] ?_;intro J hJ;simp only [];simp [f5,f16,f17,f18,hlt,hd,hw,hS,hg1];(refine hJ _ _ ?_;clear hJ J;simp only [ak,reduceIte]))))
 refine qC ?_;simp
 refine qK ?_;simp only [ak,reduceIte]
 have hne1:¬ m=ms:=by omega
 have hne2:¬ t=ms:=fun h=>by rw [h,hS] at htH;cases htH
 refine qS ?_;(refine w_e [] ?_;intro J hJ;simp only [];simp [f5,hS];(refine hJ _ _ ?_;clear hJ J;simp only [ak,reduceIte]))
 refine qS ?_;(refine w_e [29] ?_;intro J hJ;simp only [];simp [];(refine hJ _ _ ?_;clear hJ J;simp only [ak,reduceIte]))
 refine qS ?_
 refine awp_cut1 (fun fr st2=>∃ L,Srch g j v L L.length∧PtL m ms es 0 g st j v L fr st2) ?_ ?_
 ·clear hJJ
  (repeat' (first | refine qS ?_ | refine qB ?_ | (refine w_e [] ?_;intro J hJ;simp only [];simp [];(refine hJ _ _ ?_;clear hJ J;simp only [ak,reduceIte]))))
  refine qL (fun z fr st2=>∃ k L,k≤L.length∧z=g.vs.length - k∧fr 9=i (k:Nat)∧Srch g j v L k∧PtL m ms es 0 g st j v L fr st2) g.vs.length ?_ ?_
  ·refine ⟨0,[v],by simp,by simp,by simp,⟨by simp,fun w hw=>?_,by simp,fun u hu=>by simp at hu⟩,⟨by simp [f4],by simp [f5],by simp [f16],by simp [f17],by simp [f18],⟨hmm,by simp;omega,hml⟩,?_,(by repeat (first | exact hkp | (refine Keeps.trans ?_ (Keeps.new _ _)) | (refine Keeps.set ?_ (by have:=hkp.next;omega) _))),⟨_,?_,hSI.step v fun w=>?_⟩,t,R,by simp [f3],hPT,ht0,htl,by simp;omega,?_⟩,st2.next,by simp,by simp,by have:=hkp.next;omega,by simp⟩
   ·rw [List.mem_singleton] at hw;subst hw;exact .refl
   ·have a2:¬ m=st2.next:=by omega
    simp [a2,hne1,hM2]
   ·have a2:¬ ms=st2.next:=by omega
    simp [a2]
   ·rw [List.mem_singleton]
   ·have a2:¬ t=st2.next:=by omega
    simp [a2,hne2,htH]
  clear f3 f4 f5 f16 f17 f18 hmn hM2 hkp hS hSI hg1 htn htH hne2 ht0 htl hPT hps hpl t R es2 st2 fr
  rintro z fr st2 ⟨k,L,hkL,rfl,f9,hSr,hP⟩ J2 hJ2
  obtain ⟨⟨f4,f5,f16,f17,f18,⟨-,hmn,-⟩,hM2,hkp,⟨es2,hS,hSI⟩,t,R,f3,hPT,ht0,htl,htn,htH⟩,q,f8,hq,hql,hqn⟩:=id hP
  have hLl:=hSr.sub hg hvin
  by_cases hkl:k < L.length
  rotate_left
  ·clear hJ2
   have hk':k=L.length:=by omega
   rw [hk'] at hSr
   (repeat' (first | refine qS ?_ | (refine qX ?_;simp only [ak,reduceIte]) | (refine qC ?_;simp [f8,f9,hkl]) | (refine w_e [] ?_;intro J hJ;simp only [];simp [f8,f9,hkl];(refine hJ _ _ ?_;clear hJ J;simp only [ak,reduceIte]))))
   exact ⟨by trivial,L,hSr,⟨by simp [f4],by simp [f5],by simp [f16],by simp [f17],by simp [f18],⟨hmm,hmn,hml⟩,hM2,hkp,⟨es2,hS,hSI⟩,t,R,by simp [f3],hPT,ht0,htl,htn,htH⟩,q,by simp [f8],hq,hql,hqn⟩
  have hdL:=qG L k hkl
  have hst:=hSr.start hkl
  have hwk:=qN k (by omega)
  generalize hxx:L.getD k 0=x at *
  have hyl:(nbr g.es x).length≤2 * g.es.length:=flat_len (nbr1 x) (nbr1_len x) g.es
  obtain ⟨X,hX,hXl⟩:∃ X,(mget es [x]).getD .nil=X∧((X=.nil∧nbr g.es x=[])∨∃ t',X=.sl t' (nbr g.es x).length (us (nbr g.es x))):=by
   rcases hR.cases x with ⟨h1,h2⟩ | ⟨t',h1⟩
   ·exact ⟨_,h1,.inl ⟨rfl,h2⟩⟩
   ·exact ⟨_,h1,.inr ⟨t',rfl⟩⟩
  (repeat (refine qS ?_));(refine w_e [] ?_;intro J hJ;simp only [];simp [f8,f9,hkl];(refine hJ _ _ ?_;clear hJ J;simp only [ak,reduceIte]))
  refine qC ?_;simp [hkl]
  refine qK ?_;simp only [ak,reduceIte]
  refine qS ?_;refine qB ?_;refine qS ?_
  refine awp_cut1 (fun fr st2=>fr 9=i k∧fr 41=X∧fr 42=i (nbr g.es x).length∧fr 43=i (0:Nat)∧PtL m ms es 0 g st j v L fr st2) ?_ ?_
  ·clear hJ2
   rcases hXl with ⟨rfl,hy⟩ | ⟨t',rfl⟩
   ·(repeat' (refine w_e [] ?_;intro J hJ;simp only [];simp [f4,f8,f9,hkl,hdL,hq,hM2,hX];(refine hJ _ _ ?_;clear hJ J;simp only [ak,reduceIte])))
    exact ⟨by trivial,by simp [f9],by simp,by simp [hy],by simp,hP.fr (by simp) (by simp) (by simp) (by simp) (by simp) (by simp) (by simp)⟩
   ·(repeat' (refine w_e [] ?_;intro J hJ;simp only [];simp [f4,f8,f9,hkl,hdL,hq,hM2,hX];(refine hJ _ _ ?_;clear hJ J;simp only [ak,reduceIte])))
    exact ⟨by trivial,by simp [f9],by simp,by simp,by simp,hP.fr (by simp) (by simp) (by simp) (by simp) (by simp) (by simp) (by simp)⟩
  clear f3 f4 f5 f8 f9 f16 f17 f18 hmn hM2 hkp hS hSI htn htH ht0 htl hPT hP hq hql hqn q t R es2 st2 fr
  rintro fr st2 ⟨f9,f41,f42,f43,hP⟩
  refine qB ?_
  refine qL (fun z fr st2=>∃ jj L,jj≤(nbr g.es x).length∧z=(nbr g.es x).length - jj∧fr 9=i k∧fr 41=X∧fr 42=i (nbr g.es x).length∧fr 43=i (jj:Nat)∧SrchI g v L k x jj∧PtL m ms es 0 g st j v L fr st2) (nbr g.es x).length ?_ ?_
  ·exact ⟨0,L,by omega,by omega,f9,f41,f42,f43,hst,hP⟩
  clear f9 f41 f42 f43 hP hst hSr hkL hkl hLl hdL hxx L fr st2
  rintro z fr st2 ⟨jj,L,hjj,rfl,f9,f41,f42,f43,hSr,hP⟩ J3 hJ3
  obtain ⟨⟨f4,f5,f16,f17,f18,⟨-,hmn,-⟩,hM2,hkp,⟨es2,hS,hSI⟩,t,R,f3,hPT,ht0,htl,htn,htH⟩,q,f8,hq,hql,hqn⟩:=id hP
  have hLl:=hSr.len hg hvin
  by_cases hjl:jj < (nbr g.es x).length
  rotate_left
  ·clear hJ3
   have hkl:=hSr.lt
   (repeat' (first | refine qS ?_ | (refine qX ?_;simp only [ak,reduceIte]) | (refine qC ?_;simp [f42,f43,hjl,f9,hwk]) | (refine w_e [] ?_;intro J hJ;simp only [];simp [f42,f43,hjl,f9,hwk];(refine hJ _ _ ?_;clear hJ J;simp only [ak,reduceIte]))))
   exact hJ2 (g.vs.length - (k+1)) _ _ (by omega) ⟨k+1,L,by omega,rfl,by simp,hSr.finish (by omega),hP.fr (by simp) (by simp) (by simp) (by simp) (by simp) (by simp) (by simp)⟩
  clear hJ2
  have hdy:=qG (nbr g.es x) jj hjl
  have hwj:=qN jj (by omega)
  have hXs:∃ t',X=.sl t' (nbr g.es x).length (us (nbr g.es x)):=by
   rcases hXl with ⟨_,hy⟩ | h
   ·rw [hy] at hjl;simp at hjl
   ·exact h
  obtain ⟨t',hXe⟩:=hXs
  rw [hXe] at f41
  have hskip:=hSr.skip hjl
  have hpush:=hSr.push hjl
  have hwm:(nbr g.es x).getD jj 0∈nbr g.es x:=by rw [getD_lt _ _ hjl];exact List.getElem_mem _
  generalize hwx:(nbr g.es x).getD jj 0=w at *
  by_cases hwL:w∈L
  ·have hg2:=(hSI w).1 (.inr hwL)
   (repeat' (first | refine qS ?_ | refine qB ?_ | (refine qK ?_;simp only [ak,reduceIte]) | (refine qC ?_;simp [f5,f41,f42,f43,hjl,hdy,hS,hg2,hwj]) | (refine w_e [] ?_;intro J hJ;simp only [];simp [f5,f41,f42,f43,hjl,hdy,hS,hg2,hwj];(refine hJ _ _ ?_;clear hJ J;simp only [ak,reduceIte]))))
   exact hJ3 ((nbr g.es x).length - (jj+1)) _ _ (by omega) ⟨jj+1,L,by omega,rfl,by simp [f9],by simp [f41,hXe],by simp [f42],by simp,hskip hwL,hP.fr (by simp) (by simp) (by simp) (by simp) (by simp) (by simp) (by simp)⟩
  have hns:¬ (Seen g j w∨w∈L):=by
   rintro (h | h)
   ·have hxL:x∈L:=by rw [← hSr.at',getD_lt _ _ hSr.lt];exact List.getElem_mem _
    exact hs (h.reach ((Reach.step .refl (nbr_symm hwm)).trans (hSr.reach x hxL).symm))
   ·exact hwL h
  have hg2:=(hSI w).2 hns
  have b1:¬ q=ms:=fun h=>by rw [h,hS] at hq;cases hq
  have b2:¬ q=st2.next:=by omega
  (repeat' (first | refine qS ?_ | refine qB ?_ | (refine qK ?_;simp only [ak,reduceIte]) | (refine qC ?_;simp [f5,f8,f41,f42,f43,hjl,hdy,hS,hg2,hwj,hq,b1,b2]) | (refine w_e [] ?_;intro J hJ;simp only [];simp [f5,f8,f41,f42,f43,hjl,hdy,hS,hg2,hwj,hq,b1,b2];(repeat refine ca ?_);(refine hJ _ _ ?_;clear hJ J;simp only [ak,reduceIte]))))
  have b3:¬ m=q:=fun h=>by rw [← h,hM2] at hq;cases hq
  have b4:¬ m=st2.next:=by omega
  have b5:¬ m=st2.next+1:=by omega
  have b6:¬ ms=q:=fun h=>b1 h.symm
  have b7:¬ ms=st2.next:=by omega
  have b8:¬ ms=st2.next+1:=by omega
  have b9:¬ t=ms:=fun h=>by rw [h,hS] at htH;cases htH
  have c1:¬ t=q:=fun h=>by rw [h,hq] at htH;cases htH
  have c2:¬ t=st2.next:=by omega
  have c3:¬ t=st2.next+1:=by omega
  refine hJ3 ((nbr g.es x).length - (jj+1)) _ _ (by omega) ⟨jj+1,L++[w],by omega,rfl,by simp [f9],by simp [f41,hXe],by simp [f42],by simp,hpush hwL,⟨by simp [f4],by simp [f5],by simp [f16],by simp [f17],by simp [f18],⟨hmm,by simp;omega,hml⟩,by simp [hne1,b3,b4,b5,hM2],(by repeat (first | exact hkp | (refine Keeps.trans ?_ (Keeps.new _ _)) | (refine Keeps.set ?_ (by have:=hkp.next;omega) _))),⟨_,by simp [b6,b7,b8],hSI.step w fun z=>?_⟩,t,R,by simp [f3],hPT,ht0,htl,by simp;omega,by simp [b9,c1,c2,c3,htH]⟩,st2.next+1,by simp,by simp,by have:=hkp.next;omega,by simp⟩
  rw [List.mem_append,List.mem_singleton]
  exact or_assoc.symm
 clear f3 f4 f5 f16 f17 f18 hmn hM2 hkp hS hSI hg1 htn htH hne2 ht0 htl hPT hps hpl t R es2 st2 fr
 rintro fr st2 ⟨L,hSr,⟨f4,f5,f16,f17,f18,⟨-,hmn,-⟩,hM2,hkp,⟨es2,hS,hSI⟩,t,R,f3,hPT,ht0,htl,htn,htH⟩,q,f8,hq,hql,hqn⟩
 have hpl:=fun (c:List Int) hs hc=>PartsTo.lead (c:=c) hPT hlt hs hc
 rw [hx] at hpl
 have hLl:=hSr.sub hg hvin
 have hRl:=hPT.len
 have b1:¬ q=ms:=fun h=>by rw [h,hS] at hq;cases hq
 have b3:¬ m=q:=fun h=>by rw [← h,hM2] at hq;cases hq
 have b6:¬ ms=q:=fun h=>b1 h.symm
 have c1:¬ t=q:=fun h=>by rw [h,hq] at htH;cases htH
 (repeat' (first | refine qS ?_ | (refine w_e [] ?_;intro J hJ;simp only [];simp [f8])))
 refine qE (SortU L q st2 (by omega) hqn hq) (by simp [f8]) ?_;rintro r st' ⟨c,hc,hcp,hcs,hof⟩
 have hcl:=hcp.length_eq
 have hnx:=hof.1
 have hM3:=(hof.2 m b3 (by omega)).trans hM2
 have hS3:=(hof.2 ms b6 (by omega)).trans hS
 have htH3:=(hof.2 t c1 htn).trans htH
 have hkp3:Keeps st st':=⟨Nat.le_trans hkp.next hnx,fun l hl=>(hof.2 l (by omega) (by have:=hkp.next;omega)).trans (hkp.H l hl)⟩
 (refine e_go ?_;simp [];(refine hJ _ _ ?_;clear hJ J;simp only [ak,reduceIte]))
 refine awp_freeze 8 (l:=q) (n:=L.length) (by simp [f8]) hc (by simp [hcl]) ?_
 have htk:(us c).take (L.length * 1)=us c:=by rw [List.take_of_length_le (by simp [hcl])]
 rw [htk]
 have d1:¬ t=st'.next:=by omega
 have d2:¬ t=st'.next+1:=by omega
 have d3:¬ m=st'.next:=by omega
 have d4:¬ m=st'.next+1:=by omega
 have d5:¬ ms=st'.next:=by omega
 have d6:¬ ms=st'.next+1:=by omega
 have hmt:¬ m=t:=fun h=>by rw [h,htH3] at hM3;cases hM3
 have hmst:¬ ms=t:=fun h=>by rw [h,htH3] at hS3;cases hS3
 (repeat' (refine w_e [] ?_;intro J hJ;simp only [];simp [f3,f18,hw,htH3,ht0,c1,d1,d2];(repeat refine ca ?_);(refine hJ _ _ ?_;clear hJ J;simp only [ak,reduceIte])))
 refine hJJ (g.vs.length - (j+1)) _ _ (by omega) ⟨j+1,by omega,rfl,by simp [f4],by simp [f5],by simp [f16],by simp [f17],by simp,⟨hmm,by simp;omega,hml⟩,by simp [hmt,b3,d3,d4,hM3],?_,⟨es2,by simp [hmst,b6,d5,d6,hS3],hSI.congr fun w=>?_⟩,st'.next+1,R++[c],by simp [hcl],hpl c hs (part_of hg hvin hSr.nodup hSr.all hcp hcs),by omega,by omega,by simp,by simp⟩
 ·(repeat (first | exact hkp3 | (refine Keeps.trans ?_ (Keeps.new _ _)) | (refine Keeps.set ?_ (by have:=hkp.next;omega) _)))
 ·rw [hsucc,hSr.all]
theorem firstNZ_all {f:Nat→Int} {n:Nat} (h:firstNZ f n=0):∀ j,j < n→f j=0:=by
 induction n with
 | zero=>intro j hj;omega
 | succ n ih=>
   intro j hj
   simp only [firstNZ] at h
   by_cases h0:firstNZ f n=0
   ·rw [if_neg (by simp [h0])] at h
    rcases Nat.lt_or_ge j n with h1 | h1
    ·exact ih h0 j h1
    ·obtain rfl:j=n:=by omega
     exact h
   ·rw [if_pos h0] at h;exact absurd h h0
theorem numb_zero {n a:Int} {b:Bool} (h:numb n a b=0):1≤n∧n≤1048576∧(b=false→a < n):=by
 unfold numb at h
 by_cases h1:n < 1∨1048576 < n
 ·rw [if_pos h1] at h;cases h
 ·rw [if_neg h1] at h
  by_cases h2:b=false∧n≤a
  ·rw [if_pos h2] at h;cases h
  ·refine ⟨by omega,by omega,fun hb=>?_⟩
   rcases Int.lt_or_le a n with h3 | h3
   ·exact h3
   ·exact absurd ⟨hb,h3⟩ h2
theorem rise_of {l:List Int} (h:∀ j,j < l.length→0 < j→l.getD (j - 1) 0 < l.getD j 0):l.Pairwise (· < ·):=by
 rw [List.pairwise_iff_getElem]
 intro a b ha hb hab
 induction b with
 | zero=>omega
 | succ b ih=>
   have h1:=h (b+1) hb (by omega)
   rw [Nat.add_sub_cancel,getD_lt _ _ hb,getD_lt _ _ (by omega)] at h1
   rcases Nat.lt_or_ge a b with h2 | h2
   ·have:=ih (by omega) h2;omega
   ·obtain rfl:a=b:=by omega
    exact h1
theorem chk_good {g:Gr} (h:chk g=0):Good g∧idOk g.es∧g.vs.length≤64∧g.es.length≤160:=by
 unfold chk at h
 by_cases h1:64 < g.vs.length∨160 < g.es.length
 ·rw [if_pos h1] at h;cases h
 ·rw [if_neg h1] at h
  by_cases h2:firstNZ (badV g) g.vs.length=0
  ·rw [if_neg (by simp [h2])] at h
   have hV:=firstNZ_all h2
   have hE:=firstNZ_all h
   have hEx:∀ j,j < g.es.length→(1≤(g.es.getD j ed0).id∧(g.es.getD j ed0).id≤1048576)∧(g.es.getD j ed0).a∈g.vs∧(g.es.getD j ed0).b∈g.vs:=by
    intro j hj
    have:=hE j hj
    unfold badE at this
    simp only at this
    by_cases h3:numb (g.es.getD j ed0).id (g.es.getD (j - 1) ed0).id (decide (j=0))=0
    ·rw [if_neg (fun h=>h h3)] at this
     by_cases h4:(g.es.getD j ed0).a=(g.es.getD j ed0).b
     ·rw [if_pos h4] at this;cases this
     ·rw [if_neg h4] at this
      by_cases h5:(g.es.getD j ed0).a∉g.vs∨(g.es.getD j ed0).b∉g.vs
      ·rw [if_pos h5] at this;cases this
      ·have h6:=numb_zero h3
       refine ⟨⟨h6.1,h6.2.1⟩,?_,?_⟩
       ·exact Classical.byContradiction fun h=>h5 (.inl h)
       ·exact Classical.byContradiction fun h=>h5 (.inr h)
    ·rw [if_pos h3] at this;exact absurd this h3
   have hget:∀ x∈g.es,∃ j,j < g.es.length∧g.es.getD j ed0=x:=by
    intro x hx
    obtain ⟨j,hj,rfl⟩:=List.getElem_of_mem hx
    exact ⟨j,hj,by rw [List.getD_eq_getElem?_getD,List.getElem?_eq_getElem hj];rfl⟩
   refine ⟨⟨rise_of fun j hj h0=>?_,fun x hx=>?_⟩,fun x hx=>?_,by omega,by omega⟩
   ·have:=(numb_zero (hV j hj)).2.2 (by simp;omega)
    exact this
   ·obtain ⟨j,hj,rfl⟩:=hget x hx
    exact (hEx j hj).2
   ·obtain ⟨j,hj,rfl⟩:=hget x hx
    have:=(hEx j hj).1;omega
  ·rw [if_pos h2] at h;exact absurd h h2
end Go.Proofs.YtkcokoefodgigaaGreat.Aw
namespace Go.Proofs.YtkcokoefodgigaaGreat.Aw
open Go Go.RowKit Go.Proofs.YtkcokoefodgigaaGreat.Pl Go.Proofs.YtkcokoefodgigaaGreat.Eu
set_option linter.unusedSimpArgs false
set_option linter.unusedVariables false
structure GoodE (g:Gr):Prop extends Good g where
 ids:g.es.Pairwise (fun x y=>x.id < y.id)
 pos:∀ x∈g.es,1≤x.id∧x.id≤1048576
 ne:∀ x∈g.es,x.a≠x.b
theorem getE_lt (l:List Ed) (j:Nat) (hj:j < l.length):l.getD j ed0=l[j]:=by
 rw [List.getD_eq_getElem?_getD,List.getElem?_eq_getElem hj];rfl
theorem chk_goodE {g:Gr} (h:chk g=0):GoodE g:=by
 obtain ⟨hg,_,_,_⟩:=chk_good h
 unfold chk at h
 by_cases h1:64 < g.vs.length∨160 < g.es.length
 ·rw [if_pos h1] at h;cases h
 rw [if_neg h1] at h
 by_cases h2:firstNZ (badV g) g.vs.length=0
 ·rw [if_neg (by simp [h2])] at h
  have hE:=firstNZ_all h
  have hEx:∀ j,j < g.es.length→((1≤(g.es.getD j ed0).id∧(g.es.getD j ed0).id≤1048576)∧(0 < j→(g.es.getD (j - 1) ed0).id < (g.es.getD j ed0).id))∧(g.es.getD j ed0).a≠(g.es.getD j ed0).b:=by
   intro j hj
   have:=hE j hj
   unfold badE at this
   simp only at this
   by_cases h3:numb (g.es.getD j ed0).id (g.es.getD (j - 1) ed0).id (decide (j=0))=0
   ·rw [if_neg (fun h=>h h3)] at this
    by_cases h4:(g.es.getD j ed0).a=(g.es.getD j ed0).b
    ·rw [if_pos h4] at this;cases this
    ·have h6:=numb_zero h3
     exact ⟨⟨⟨h6.1,h6.2.1⟩,fun h0=>h6.2.2 (by simp;omega)⟩,h4⟩
   ·rw [if_pos h3] at this;exact absurd this h3
  have hget:∀ x∈g.es,∃ j,j < g.es.length∧g.es.getD j ed0=x:=by
   intro x hx
   obtain ⟨j,hj,rfl⟩:=List.getElem_of_mem hx
   exact ⟨j,hj,getE_lt _ _ hj⟩
  refine ⟨hg,?_,fun x hx=>?_,fun x hx=>?_⟩
  ·rw [List.pairwise_iff_getElem]
   intro a b ha hb hab
   induction b with
   | zero=>omega
   | succ b ih=>
     have h1:=(hEx (b+1) hb).1.2 (by omega)
     rw [Nat.add_sub_cancel,getE_lt _ _ hb,getE_lt _ _ (by omega)] at h1
     rcases Nat.lt_or_ge a b with h2 | h2
     ·have:=ih (by omega) h2;omega
     ·obtain rfl:a=b:=by omega
      exact h1
  ·obtain ⟨j,hj,rfl⟩:=hget x hx
   exact (hEx j hj).1.1
  ·obtain ⟨j,hj,rfl⟩:=hget x hx
   exact (hEx j hj).2
 ·rw [if_pos h2] at h;exact absurd h h2
def okTurn (es:List Ed) (v:Int) (t:List Int):Prop:=t.Perm (ends es v)∧nrm t=t
structure MapOk (m:Mp):Prop where
 g:GoodE m.g
 len:m.rots.length=m.g.vs.length
 ok:∀ k,k < m.g.vs.length→okTurn m.g.es (m.g.vs.getD k 0) (m.rots.getD k [])
section
variable {m:Mp} (h:MapOk m)
include h
end
section
variable {m:Mp} (h:MapOk m)
include h
end
section
variable {m:Mp} (h:MapOk m)
include h
end
def oth (x:Ed) (v:Int):Int:=if x.a=v then x.b else x.a
abbrev eAt (es:List Ed) (i:Nat):Ed:=es.getD i ed0
def atP (es:List Ed) (v:Int):List Nat:=(List.range es.length).filter fun i=>decide ((eAt es i).a=v∨(eAt es i).b=v)
structure Bw where
 vis:List Int
 low:List Int
 stk:List Nat
 out:List (List Nat)
def nmW (V:List Int) (v:Int):Int:=if v∈V then (V.idxOf v:Int)+1 else 0
def lwW (s:Bw) (v:Int):Int:=s.low.getD (s.vis.idxOf v) 0
def setW (s:Bw) (v x:Int):Bw:={ s with low:=s.low.set (s.vis.idxOf v) x }
def pushW (s:Bw) (i:Nat):Bw:={ s with stk:=s.stk++[i] }
def lastP (l:List Nat) (i:Nat):Nat:=l.length - 1 - l.reverse.idxOf i
def blkW (n:Nat) (seg:List Nat):List Nat:=(List.range n).filter fun i=>decide (i∈seg)
def cutW (n:Nat) (s:Bw) (i:Nat):Option Bw:=if i∈s.stk then some { s with stk:=s.stk.take (lastP s.stk i),out:=s.out++[blkW n (s.stk.drop (lastP s.stk i))] } else none
def goB (f:Bw→Nat→Option Bw):List Nat→Bw→Option Bw
 | [],s=>some s
 | i::l,s=>(f s i).bind (goB f l)
def lowB (n:Nat) (v mine:Int) (i:Nat) (u:Int) (s1:Bw):Option Bw:=
 if mine≤lwW s1 u then cutW n (setW s1 v (min (lwW s1 v) (lwW s1 u))) i else some (setW s1 v (min (lwW s1 v) (lwW s1 u)))
def stepB (rec:Int→Int→Bw→Option Bw) (es:List Ed) (v by_ mine:Int) (s:Bw) (i:Nat):Option Bw:=
 if (i:Int)=by_ then some s
 else if oth (eAt es i) v∈s.vis then
  (if nmW s.vis (oth (eAt es i) v) < mine then some (setW (pushW s i) v (min (lwW s v) (nmW s.vis (oth (eAt es i) v)))) else some s)
 else (rec (oth (eAt es i) v) i (pushW s i)).bind (lowB es.length v mine i (oth (eAt es i) v))
def newW (s:Bw) (v:Int):Bw:={ s with vis:=s.vis++[v],low:=s.low++[(s.vis.length:Int)+1] }
def visF (es:List Ed):Nat→Int→Int→Bw→Option Bw
 | 0,_,_,_=>none
 | n+1,v,by_,s=>goB (stepB (visF es n) es v by_ ((s.vis.length:Int)+1)) (atP es v) (newW s v)
def allB (es:List Ed) (n:Nat):List Int→Bw→Option Bw
 | [],s=>some s
 | v::l,s=>if v∈s.vis then allB es n l s else (visF es n v (-1) s).bind (allB es n l)
inductive RIn (es:List Ed) (S:Int→Prop) (x:Int):Int→Prop
 | refl (h:S x):RIn es S x x
 | step {y z:Int} (h:RIn es S x y) (hz:z∈nbr es y) (hs:S z):RIn es S x z
theorem RIn.here {es:List Ed} {S:Int→Prop} {x y:Int} (h:RIn es S x y):S x∧S y:=by
 induction h with
 | refl h=>exact ⟨h,h⟩
 | step _ _ hs ih=>exact ⟨ih.1,hs⟩
theorem RIn.trans {es:List Ed} {S:Int→Prop} {x y z:Int} (h:RIn es S x y) (k:RIn es S y z):RIn es S x z:=by
 induction k with
 | refl=>exact h
 | step _ hz hs ih=>exact .step ih hz hs
theorem RIn.symm {es:List Ed} {S:Int→Prop} {x y:Int} (h:RIn es S x y):RIn es S y x:=by
 induction h with
 | refl h=>exact .refl h
 | step h hz hs ih=>exact (RIn.step (.refl hs) (nbr_symm hz) h.here.2).trans ih
theorem RIn.mono {es:List Ed} {S S':Int→Prop} {x y:Int} (h:RIn es S x y) (hS:∀ z,S z→S' z):RIn es S' x y:=by
 induction h with
 | refl h=>exact .refl (hS _ h)
 | step _ hz hs ih=>exact .step ih hz (hS _ hs)
theorem RIn.closed {es:List Ed} {S L:Int→Prop} {x y:Int} (h:RIn es S x y) (hx:L x) (hc:∀ z,L z→∀ w∈nbr es z,S w→L w):L y:=by
 induction h with
 | refl=>exact hx
 | step h hz hs ih=>exact hc _ ih _ hz hs
def RingAt (es:List Ed) (w:Int) (x y:Ed):Prop:=(x.a=w∨x.b=w)∧(y.a=w∨y.b=w)∧RIn es (·≠w) (oth x w) (oth y w)
def RingE (es:List Ed) (x y:Ed):Prop:=∃ w,RingAt es w x y
theorem RingE.symm {es:List Ed} {x y:Ed}:RingE es x y→RingE es y x:=fun ⟨w,h1,h2,h3⟩=>⟨w,h2,h1,h3.symm⟩
inductive RelB (es:List Ed) (i:Nat):Nat→Prop
 | refl:RelB es i i
 | step {j k:Nat} (h:RelB es i j) (hj:j < es.length) (hk:k < es.length) (hr:RingE es (eAt es j) (eAt es k)):RelB es i k
theorem RelB.trans {es:List Ed} {i j k:Nat} (h:RelB es i j) (h2:RelB es j k):RelB es i k:=by
 induction h2 with
 | refl=>exact h
 | step _ hj hk hr ih=>exact .step ih hj hk hr
theorem RelB.symm {es:List Ed} {i j:Nat} (h:RelB es i j):RelB es j i:=by
 induction h with
 | refl=>exact .refl
 | step _ hj hk hr ih=>exact (RelB.step .refl hk hj hr.symm).trans ih
structure BlkOk (es:List Ed) (B:List Nat):Prop where
 ne:B≠[]
 rise:B.Pairwise (· < ·)
 lt:∀ i∈B,i < es.length
 rel:∀ i∈B,∀ j∈B,RelB es i j
 all:∀ i∈B,∀ j,j < es.length→RingE es (eAt es i) (eAt es j)→j∈B
theorem BlkOk.iff {es:List Ed} {B:List Nat} (h:BlkOk es B) {i j:Nat} (hi:i∈B):j∈B↔RelB es i j:=by
 refine ⟨h.rel i hi j,fun hr=>?_⟩
 induction hr with
 | refl=>exact hi
 | step _ _ hk hr ih=>exact h.all _ ih _ hk hr
theorem atP_mem {es:List Ed} {v:Int} {i:Nat}:i∈atP es v↔i < es.length∧((eAt es i).a=v∨(eAt es i).b=v):=by
 unfold atP;rw [List.mem_filter,List.mem_range,decide_eq_true_iff]
theorem eAt_mem {es:List Ed} {i:Nat} (h:i < es.length):eAt es i∈es:=by
 unfold eAt;rw [getE_lt _ _ h];exact List.getElem_mem _
theorem oth_oth {x:Ed} {v:Int} (h:x.a=v∨x.b=v):oth x (oth x v)=v:=by
 unfold oth
 rcases h with h | h
 ·rw [if_pos h];split<;>omega
 ·split
  ·split<;>omega
  ·rw [if_pos rfl,h]
theorem oth_end (x:Ed) (v:Int):x.a=oth x v∨x.b=oth x v:=by
 unfold oth;split
 ·exact .inr rfl
 ·exact .inl rfl
theorem oth_ne {x:Ed} {v:Int} (h:x.a≠x.b) (hv:x.a=v∨x.b=v):oth x v≠v:=by
 unfold oth;split<;>omega
theorem ends_oth {x:Ed} {v:Int} (hv:x.a=v∨x.b=v) (c:Int):(x.a=c∨x.b=c)↔(c=v∨c=oth x v):=by
 unfold oth;split<;>omega
theorem oth_nbr {es:List Ed} {i:Nat} {v:Int} (h:i∈atP es v):oth (eAt es i) v∈nbr es v:=by
 obtain ⟨h1,h2⟩:=atP_mem.1 h
 rw [mem_nbr]
 refine ⟨_,eAt_mem h1,?_⟩
 unfold oth
 split
 ·exact .inl ⟨by assumption,rfl⟩
 ·refine .inr ⟨by omega,rfl⟩
theorem nbr_atP {es:List Ed} {v w:Int} (h:w∈nbr es v):∃ i∈atP es v,oth (eAt es i) v=w:=by
 rw [mem_nbr] at h
 obtain ⟨x,hx,h⟩:=h
 obtain ⟨i,hi,rfl⟩:=List.getElem_of_mem hx
 have e:eAt es i=es[i]:=getE_lt _ _ hi
 refine ⟨i,atP_mem.2 ⟨hi,by rw [e];omega⟩,?_⟩
 unfold oth
 rw [e]
 split<;>omega
theorem atP_oth {es:List Ed} {i:Nat} {v:Int} (h:i∈atP es v):i∈atP es (oth (eAt es i) v):=atP_mem.2 ⟨(atP_mem.1 h).1,oth_end _ _⟩
structure BPre (g:Gr) (A:Int→Prop) (s:Bw) (v by_:Int):Prop where
 ln:s.low.length=s.vis.length
 nd:s.vis.Nodup
 act:∀ a,A a→a∈s.vis
 fin:∀ w∈s.vis,¬ A w→∀ i∈atP g.es w,oth (eAt g.es i) w∈s.vis
 new:v∉s.vis
 con:∀ a b,A a→A b→RIn g.es A a b
 par:(by_ = -1∧∀ a,¬ A a)∨∃ i:Nat,by_=i∧i∈atP g.es v∧A (oth (eAt g.es i) v)
structure BPost (g:Gr) (s:Bw) (v by_:Int) (s1:Bw) (C:List Int) (T:List Nat) (N:List (List Nat)):Prop where
 vis:s1.vis=s.vis++C
 hd:v∈C
 nd:s1.vis.Nodup
 ln:s1.low.length=s1.vis.length
 low:∀ w∈s.vis,lwW s1 w=lwW s w
 clo:∀ c∈C,∀ i∈atP g.es c,oth (eAt g.es i) c∈s1.vis
 stk:s1.stk=s.stk++T
 out:s1.out=s.out++N
 pl:∀ i,(i∈T++N.flatten)↔i < g.es.length∧(i:Int)≠by_∧((eAt g.es i).a∈C∨(eAt g.es i).b∈C)
 pn:(T++N.flatten).Nodup
 lw1:lwW s1 v≤(s.vis.length:Int)+1
 lw2:∀ c∈C,∀ i∈atP g.es c,(i:Int)≠by_→oth (eAt g.es i) c∉C→lwW s1 v≤nmW s.vis (oth (eAt g.es i) c)
 lw3:lwW s1 v < (s.vis.length:Int)+1→∃ c∈C,∃ i∈atP g.es c,(i:Int)≠by_∧oth (eAt g.es i) c∈s.vis∧nmW s.vis (oth (eAt g.es i) c)=lwW s1 v
 rel:∀ i∈T,∃ b:Nat,by_=b∧RelB g.es b i
 good:∀ B∈N,BlkOk g.es B
 cn:∀ c∈C,RIn g.es (·∈C) v c
structure BLp (g:Gr) (s0:Bw) (v by_:Int) (Q:List Nat) (s:Bw) (D:List Int) (T:List Nat) (N:List (List Nat)):Prop where
 vis:s.vis=s0.vis++v::D
 nd:s.vis.Nodup
 ln:s.low.length=s.vis.length
 low:∀ w∈s0.vis,lwW s w=lwW s0 w
 qs:∀ i∈Q,i∈atP g.es v
 cloQ:∀ i∈Q,oth (eAt g.es i) v∈s.vis
 cloD:∀ c∈D,∀ i∈atP g.es c,oth (eAt g.es i) c∈s.vis
 stk:s.stk=s0.stk++T
 out:s.out=s0.out++N
 pl:∀ i,(i∈T++N.flatten)↔i < g.es.length∧(i:Int)≠by_∧(((eAt g.es i).a∈D∨(eAt g.es i).b∈D)∨(i∈Q∧oth (eAt g.es i) v∈s0.vis))
 pn:(T++N.flatten).Nodup
 lw1:lwW s v≤(s0.vis.length:Int)+1
 lwD:∀ c∈D,∀ i∈atP g.es c,oth (eAt g.es i) c∉D→oth (eAt g.es i) c≠v→lwW s v≤nmW s0.vis (oth (eAt g.es i) c)
 lwQ:∀ i∈Q,(i:Int)≠by_→oth (eAt g.es i) v∈s0.vis→lwW s v≤nmW s0.vis (oth (eAt g.es i) v)
 lw3:lwW s v < (s0.vis.length:Int)+1→∃ c∈v::D,∃ i∈atP g.es c,(i:Int)≠by_∧oth (eAt g.es i) c∈s0.vis∧nmW s0.vis (oth (eAt g.es i) c)=lwW s v
 rel:∀ i∈T,∃ b:Nat,by_=b∧RelB g.es b i
 good:∀ B∈N,BlkOk g.es B
 cn:∀ c∈D,RIn g.es (fun x=>x=v∨x∈D) v c
theorem nmW_app {V W:List Int} {x:Int} (h:x∈V):nmW (V++W) x=nmW V x:=by
 unfold nmW
 rw [if_pos (List.mem_append_left _ h),if_pos h,List.idxOf_append,if_pos h]
theorem nmW_new {V W:List Int} {x:Int} (h:x∉V) (h2:x∈W):(V.length:Int)+1≤nmW (V++W) x:=by
 unfold nmW
 rw [if_pos (List.mem_append_right _ h2),List.idxOf_append,if_neg h]
 omega
theorem nmW_le {V:List Int} {x:Int} (h:x∈V):nmW V x < (V.length:Int)+1:=by
 unfold nmW
 rw [if_pos h]
 have:=List.idxOf_lt_length_of_mem h
 omega
theorem lwW_set {s:Bw} (hl:s.low.length=s.vis.length) {v w x:Int} (hv:v∈s.vis) (hw:w∈s.vis):lwW (setW s v x) w=if w=v then x else lwW s w:=by
 unfold lwW setW
 have h1:=List.idxOf_lt_length_of_mem hv
 have h2:=List.idxOf_lt_length_of_mem hw
 simp only
 rw [getD_lt _ _ (by rw [List.length_set];omega),List.getElem_set,getD_lt _ _ (by omega)]
 by_cases e:w=v
 ·subst e;rw [if_pos rfl,if_pos rfl]
 ·rw [if_neg e,if_neg]
  intro k
  apply e
  have e1:=List.getElem_idxOf h1
  have e2:=List.getElem_idxOf h2
  rw [← e1,← e2]
  congr 1
  exact k.symm
theorem lwW_app {s:Bw} {v w:Int} (hl:s.low.length=s.vis.length) (hw:w∈s.vis):lwW (newW s v) w=lwW s w:=by
 unfold lwW newW
 have h2:=List.idxOf_lt_length_of_mem hw
 simp only
 rw [List.idxOf_append,if_pos hw,getD_lt _ _ (by rw [List.length_append];omega),getD_lt _ _ (by omega),List.getElem_append_left (by omega)]
theorem lwW_at {s:Bw} {v:Int} (hl:s.low.length=s.vis.length) (hv:v∉s.vis):lwW (newW s v) v=(s.vis.length:Int)+1:=by
 unfold lwW newW
 simp only
 rw [List.idxOf_append,if_neg hv,List.idxOf_cons_self,Nat.zero_add,getD_lt _ _ (by rw [List.length_append];simp;omega),List.getElem_append_right (by omega)]
 simp [hl]
theorem lastP_app {P R:List Nat} {i:Nat} (h:i∉R):lastP (P++i::R) i=P.length:=by
 unfold lastP
 rw [List.reverse_append,List.reverse_cons,List.append_assoc,List.idxOf_append,if_neg (by simpa using h)]
 simp
theorem blkW_mem {n:Nat} {S:List Nat} {i:Nat}:i∈blkW n S↔i < n∧i∈S:=by
 unfold blkW;rw [List.mem_filter,List.mem_range,decide_eq_true_iff]
theorem blkW_rise (n:Nat) (S:List Nat):(blkW n S).Pairwise (· < ·):=List.Pairwise.filter _ (List.pairwise_lt_range)
theorem blkW_perm {n:Nat} {S:List Nat} (hn:S.Nodup) (hl:∀ i∈S,i < n):(blkW n S).Perm S:=
 (List.perm_ext_iff_of_nodup ((blkW_rise n S).imp fun h=>Nat.ne_of_lt h) hn).2 fun i=>by rw [blkW_mem];exact ⟨fun h=>h.2,fun h=>⟨hl i h,h⟩⟩
section
variable {g:Gr} (hg:GoodE g)
include hg
theorem eAt_ne {i:Nat} {v:Int} (h:i∈atP g.es v):oth (eAt g.es i) v≠v:=oth_ne (hg.ne _ (eAt_mem (atP_mem.1 h).1)) (atP_mem.1 h).2
omit hg in
theorem BPre.start {A:Int→Prop} {s:Bw} {v by_:Int} (h:BPre g A s v by_):BLp g s v by_ [] (newW s v) [] [] [] where
 vis:=rfl
 nd:=by
  show (s.vis++[v]).Nodup
  rw [List.nodup_append]
  exact ⟨h.nd,by simp,fun a ha b hb=>by rintro rfl;rw [List.mem_singleton] at hb;subst hb;exact h.new ha⟩
 ln:=by show (s.low++[_]).length=(s.vis++[v]).length;simp [h.ln]
 low:=fun w hw=>lwW_app h.ln hw
 qs:=fun i hi=>by cases hi
 cloQ:=fun i hi=>by cases hi
 cloD:=fun i hi=>by cases hi
 stk:=by show s.stk=s.stk++[];simp
 out:=by show s.out=s.out++[];simp
 pl:=fun i=>by simp
 pn:=by simp
 lw1:=by rw [lwW_at h.ln h.new];exact Int.le_refl _
 lwD:=fun i hi=>by cases hi
 lwQ:=fun i hi=>by cases hi
 lw3:=fun hl=>by rw [lwW_at h.ln h.new] at hl;omega
 rel:=fun i hi=>by cases hi
 good:=fun i hi=>by cases hi
 cn:=fun i hi=>by cases hi
theorem BLp.done {A:Int→Prop} {s0 s:Bw} {v by_:Int} {D:List Int} {T:List Nat} {N:List (List Nat)} (h0:BPre g A s0 v by_) (h:BLp g s0 v by_ (atP g.es v) s D T N):BPost g s0 v by_ s (v::D) T N where
 vis:=h.vis
 hd:=by simp
 nd:=h.nd
 ln:=h.ln
 low:=h.low
 clo:=fun c hc i hi=>by
  rcases List.mem_cons.1 hc with rfl | hc
  ·exact h.cloQ i hi
  ·exact h.cloD c hc i hi
 stk:=h.stk
 out:=h.out
 pl:=fun i=>by
  rw [h.pl i]
  refine ⟨fun ⟨h1,h2,h3⟩=>⟨h1,h2,?_⟩,fun ⟨h1,h2,h3⟩=>⟨h1,h2,?_⟩⟩
  ·rcases h3 with (h3 | h3) | ⟨h3,_⟩
   ·exact .inl (List.mem_cons_of_mem _ h3)
   ·exact .inr (List.mem_cons_of_mem _ h3)
   ·rcases (atP_mem.1 h3).2 with e | e
    ·exact .inl (by rw [e];simp)
    ·exact .inr (by rw [e];simp)
  ·by_cases hv:(eAt g.es i).a=v∨(eAt g.es i).b=v
   ·have hi:i∈atP g.es v:=atP_mem.2 ⟨h1,hv⟩
    have hq:=h.cloQ i hi
    rw [h.vis,List.mem_append,List.mem_cons] at hq
    rcases hq with hq | hq | hq
    ·exact .inr ⟨hi,hq⟩
    ·exact absurd hq (eAt_ne hg hi)
    ·refine .inl ?_
     rcases oth_end (eAt g.es i) v with e | e
     ·exact .inl (by rw [e];exact hq)
     ·exact .inr (by rw [e];exact hq)
   ·refine .inl (h3.imp (fun k=>?_) (fun k=>?_))
    ·exact (List.mem_cons.1 k).resolve_left fun e=>hv (.inl e)
    ·exact (List.mem_cons.1 k).resolve_left fun e=>hv (.inr e)
 pn:=h.pn
 lw1:=h.lw1
 lw2:=fun c hc i hi hb ho=>by
  have ho2:=ho
  rw [List.mem_cons,not_or] at ho2
  rcases List.mem_cons.1 hc with rfl | hc
  ·refine h.lwQ i hi hb ?_
   have hq:=h.cloQ i hi
   rw [h.vis,List.mem_append] at hq
   exact hq.resolve_right ho
  ·exact h.lwD c hc i hi ho2.2 ho2.1
 lw3:=h.lw3
 rel:=h.rel
 good:=h.good
 cn:=fun c hc=>by
  rcases List.mem_cons.1 hc with rfl | hc
  ·exact .refl (by simp)
  ·exact (h.cn c hc).mono fun z hz=>List.mem_cons.2 hz
end
end Go.Proofs.YtkcokoefodgigaaGreat.Aw
namespace Go.Proofs.YtkcokoefodgigaaGreat.Aw
open Go Go.RowKit Go.Proofs.YtkcokoefodgigaaGreat.Pl Go.Proofs.YtkcokoefodgigaaGreat.Eu
set_option linter.unusedSectionVars false
theorem both_in {x:Ed} {L:List Int} {w:Int} (hw:w∈L) (he:x.a=w∨x.b=w) (ho:oth x w∈L):x.a∈L∧x.b∈L:=by
 have e1:=(ends_oth he x.a).1 (.inl rfl)
 have e2:=(ends_oth he x.b).1 (.inr rfl)
 exact ⟨by rcases e1 with e | e<;>rw [e]<;>assumption,by rcases e2 with e | e<;>rw [e]<;>assumption⟩
section
variable {g:Gr} (hg:GoodE g) {A:Int→Prop} {s0 s:Bw} {v by_:Int} {Q:List Nat} {D:List Int} {T:List Nat} {N:List (List Nat)} (h0:BPre g A s0 v by_) (h:BLp g s0 v by_ Q s D T N)
include hg h0 h
theorem BLp.v_in:v∈s.vis:=by rw [h.vis];simp
theorem BLp.old_in {w:Int} (hw:w∈s0.vis):w∈s.vis:=by rw [h.vis];exact List.mem_append_left _ hw
theorem BLp.d_in {w:Int} (hw:w∈D):w∈s.vis:=by rw [h.vis];simp [hw]
theorem BLp.by_out {b:Nat} (hb:by_=b):oth (eAt g.es b) v∈s0.vis∧b∈atP g.es v∧A (oth (eAt g.es b) v):=by
 rcases h0.par with ⟨h1,_⟩ | ⟨i,h1,h2,h3⟩
 ·omega
 ·obtain rfl:i=b:=by omega
  exact ⟨h0.act _ h3,h2,h3⟩
theorem BLp.d_new {d:Int} (hd:d∈D):d∉s0.vis∧d≠v:=by
 have hn:=h.nd
 rw [h.vis,List.nodup_append] at hn
 refine ⟨fun k=>hn.2.2 d k d (List.mem_cons_of_mem _ hd) rfl,fun e=>?_⟩
 subst e
 exact (List.nodup_cons.1 hn.2.1).1 hd
theorem BLp.pl_in {j:Nat} (hj:j∈T++N.flatten):(eAt g.es j).a∈s.vis∧(eAt g.es j).b∈s.vis:=by
 obtain ⟨h1,_,h3⟩:=(h.pl j).1 hj
 rcases h3 with (k | k) | ⟨k,ho⟩
 ·exact both_in (h.d_in hg h0 k) (.inl rfl) (h.cloD _ k j (atP_mem.2 ⟨h1,.inl rfl⟩))
 ·exact both_in (h.d_in hg h0 k) (.inr rfl) (h.cloD _ k j (atP_mem.2 ⟨h1,.inr rfl⟩))
 ·exact both_in (h.v_in hg h0) (atP_mem.1 (h.qs j k)).2 (h.cloQ j k)
theorem BLp.back_act {c:Int} (hc:c∉s0.vis) {i:Nat} (hi:i∈atP g.es c) (ho:oth (eAt g.es i) c∈s0.vis):A (oth (eAt g.es i) c):=
 Classical.byContradiction fun hA=>hc (by
  have:=h0.fin _ ho hA i (atP_oth hi)
  rwa [oth_oth (atP_mem.1 hi).2] at this)
theorem BLp.same {i:Nat} (hi:i∈atP g.es v) (hb:(i:Int)=by_):BLp g s0 v by_ (Q++[i]) s D T N where
 vis:=h.vis
 nd:=h.nd
 ln:=h.ln
 low:=h.low
 qs:=fun j hj=>by rcases List.mem_append.1 hj with k | k;exact h.qs j k;rw [List.mem_singleton] at k;subst k;exact hi
 cloQ:=fun j hj=>by
  rcases List.mem_append.1 hj with k | k
  ·exact h.cloQ j k
  ·rw [List.mem_singleton] at k;subst k;exact h.old_in hg h0 (h.by_out hg h0 hb.symm).1
 cloD:=h.cloD
 stk:=h.stk
 out:=h.out
 pl:=fun j=>by
  rw [h.pl j,List.mem_append,List.mem_singleton]
  refine and_congr_right fun _=>and_congr_right fun hj=>or_congr_right ?_
  refine and_congr_left fun _=>⟨.inl,fun k=>k.resolve_right ?_⟩
  rintro rfl;exact hj hb
 pn:=h.pn
 lw1:=h.lw1
 lwD:=h.lwD
 lwQ:=fun j hj hjb=>by
  rcases List.mem_append.1 hj with k | k
  ·exact h.lwQ j k hjb
  ·rw [List.mem_singleton] at k;subst k;exact absurd hb hjb
 lw3:=h.lw3
 rel:=h.rel
 good:=h.good
 cn:=h.cn
theorem BLp.skip {i:Nat} (hi:i∈atP g.es v) (hin:oth (eAt g.es i) v∈s.vis) (hn:¬ nmW s.vis (oth (eAt g.es i) v) < (s0.vis.length:Int)+1):BLp g s0 v by_ (Q++[i]) s D T N:=by
 have hout:oth (eAt g.es i) v∉s0.vis:=fun k=>hn (by rw [h.vis,nmW_app k];exact nmW_le k)
 exact {
 vis:=h.vis
 nd:=h.nd
 ln:=h.ln
 low:=h.low
 qs:=fun j hj=>by rcases List.mem_append.1 hj with k | k;exact h.qs j k;rw [List.mem_singleton] at k;subst k;exact hi
 cloQ:=fun j hj=>by
  rcases List.mem_append.1 hj with k | k
  ·exact h.cloQ j k
  ·rw [List.mem_singleton] at k;subst k;exact hin
 cloD:=h.cloD
 stk:=h.stk
 out:=h.out
 pl:=fun j=>by
  rw [h.pl j,List.mem_append,List.mem_singleton]
  refine and_congr_right fun _=>and_congr_right fun hj=>or_congr_right ?_
  refine ⟨fun k=>⟨.inl k.1,k.2⟩,fun k=>⟨k.1.resolve_right ?_,k.2⟩⟩
  rintro rfl;exact hout k.2
 pn:=h.pn
 lw1:=h.lw1
 lwD:=h.lwD
 lwQ:=fun j hj hjb=>by
  rcases List.mem_append.1 hj with k | k
  ·exact h.lwQ j k hjb
  ·rw [List.mem_singleton] at k;subst k;exact fun k2=>absurd k2 hout
 lw3:=h.lw3
 rel:=h.rel
 good:=h.good
 cn:=h.cn }
theorem BLp.act_to {b:Nat} (hb:by_=b) {a:Int} (ha:A a):RIn g.es (·≠v) a (oth (eAt g.es b) v):=
 (h0.con _ _ ha (h.by_out hg h0 hb).2.2).mono fun z hz e=>by subst e;exact h0.new (h0.act _ hz)
theorem BLp.no_root {a:Int} (ha:A a):∃ b:Nat,by_=b:=by
 rcases h0.par with ⟨_,h2⟩ | ⟨b,h2,_⟩
 ·exact absurd ha (h2 a)
 ·exact ⟨b,h2⟩
theorem BLp.back {i:Nat} (hi:i∈atP g.es v) (hiQ:i∉Q) (hib:(i:Int)≠by_) (hin:oth (eAt g.es i) v∈s.vis) (hn:nmW s.vis (oth (eAt g.es i) v) < (s0.vis.length:Int)+1):
 BLp g s0 v by_ (Q++[i]) (setW (pushW s i) v (min (lwW s v) (nmW s.vis (oth (eAt g.es i) v)))) D (T++[i]) N:=by
 have hold:oth (eAt g.es i) v∈s0.vis:=Classical.byContradiction fun k=>by
  have h1:=hin
  rw [h.vis,List.mem_append] at h1
  have:=nmW_new k (h1.resolve_left k)
  rw [h.vis] at hn
  omega
 have hA:=h.back_act hg h0 h0.new hi hold
 have hvs:=h.v_in hg h0
 have hnm:nmW s.vis (oth (eAt g.es i) v)=nmW s0.vis (oth (eAt g.es i) v):=by rw [h.vis,nmW_app hold]
 have hlw:∀ w∈s.vis,∀ x,lwW (setW (pushW s i) v x) w=if w=v then x else lwW s w:=fun w hw x=>lwW_set (s:=pushW s i) h.ln hvs hw
 have hnew:i∉T++N.flatten:=fun k=>by
  obtain ⟨_,_,h3⟩:=(h.pl i).1 k
  rcases h3 with (k2 | k2) | ⟨k2,_⟩
  ·rcases (ends_oth (atP_mem.1 hi).2 _).1 (.inl rfl) with e | e
   ·rw [e] at k2;exact (h.d_new hg h0 k2).2 rfl
   ·rw [e] at k2;exact (h.d_new hg h0 k2).1 hold
  ·rcases (ends_oth (atP_mem.1 hi).2 _).1 (.inr rfl) with e | e
   ·rw [e] at k2;exact (h.d_new hg h0 k2).2 rfl
   ·rw [e] at k2;exact (h.d_new hg h0 k2).1 hold
  ·exact hiQ k2
 exact {
 vis:=h.vis
 nd:=h.nd
 ln:=by show (s.low.set _ _).length=_;rw [List.length_set];exact h.ln
 low:=fun w hw=>by rw [hlw w (h.old_in hg h0 hw),if_neg (fun e=>h0.new (by rw [← e];exact hw))];exact h.low w hw
 qs:=fun j hj=>by rcases List.mem_append.1 hj with k | k;exact h.qs j k;rw [List.mem_singleton] at k;subst k;exact hi
 cloQ:=fun j hj=>by
  rcases List.mem_append.1 hj with k | k
  ·exact h.cloQ j k
  ·rw [List.mem_singleton] at k;subst k;exact hin
 cloD:=h.cloD
 stk:=by show s.stk++[i]=_;rw [h.stk,List.append_assoc]
 out:=h.out
 pl:=fun j=>by
  rw [List.append_assoc,List.mem_append,List.mem_append,or_left_comm,← List.mem_append,h.pl j,List.mem_singleton,List.mem_append,List.mem_singleton]
  constructor
  ·rintro (rfl | ⟨k1,k2,k3⟩)
   ·exact ⟨(atP_mem.1 hi).1,hib,.inr ⟨.inr rfl,hold⟩⟩
   ·exact ⟨k1,k2,k3.imp_right fun k=>⟨.inl k.1,k.2⟩⟩
  ·rintro ⟨k1,k2,k3 | ⟨k3 | k3,k4⟩⟩
   ·exact .inr ⟨k1,k2,.inl k3⟩
   ·exact .inr ⟨k1,k2,.inr ⟨k3,k4⟩⟩
   ·exact .inl k3
 pn:=by
  rw [List.append_assoc]
  refine ((List.perm_middle (a:=i) (l₁:=T) (l₂:=N.flatten)).nodup_iff).2 ?_
  exact List.nodup_cons.2 ⟨hnew,h.pn⟩
 lw1:=by rw [hlw v hvs,if_pos rfl];have:=h.lw1;omega
 lwD:=fun c hc j hj h1 h2=>by rw [hlw v hvs,if_pos rfl];have:=h.lwD c hc j hj h1 h2;omega
 lwQ:=fun j hj hjb ho=>by
  rw [hlw v hvs,if_pos rfl]
  rcases List.mem_append.1 hj with k | k
  ·have:=h.lwQ j k hjb ho;omega
  ·rw [List.mem_singleton] at k;subst k;omega
 lw3:=fun hl=>by
  rw [hlw v hvs,if_pos rfl] at hl ⊢
  by_cases hmin:lwW s v≤nmW s.vis (oth (eAt g.es i) v)
  ·rw [Int.min_eq_left hmin] at hl ⊢
   exact h.lw3 hl
  ·rw [Int.min_eq_right (by omega)] at hl ⊢
   exact ⟨v,by simp,i,hi,hib,hold,hnm.symm⟩
 rel:=fun j hj=>by
  rcases List.mem_append.1 hj with k | k
  ·exact h.rel j k
  ·rw [List.mem_singleton] at k;subst k
   obtain ⟨b,hb⟩:=h.no_root hg h0 hA
   obtain ⟨_,b2,_⟩:=h.by_out hg h0 hb
   exact ⟨b,hb,.step .refl (atP_mem.1 b2).1 (atP_mem.1 hi).1 ⟨v,(atP_mem.1 b2).2,(atP_mem.1 hi).2,(h.act_to hg h0 hb hA).symm⟩⟩
 good:=h.good
 cn:=h.cn }
end
section
variable {g:Gr} (hg:GoodE g) {A:Int→Prop} {s0 s:Bw} {v by_:Int} {Q:List Nat} {D:List Int} {T:List Nat} {N:List (List Nat)} (h0:BPre g A s0 v by_) (h:BLp g s0 v by_ Q s D T N)
include hg h0 h
theorem BLp.pre {i:Nat} (hi:i∈atP g.es v) (hout:oth (eAt g.es i) v∉s.vis):BPre g (fun a=>A a∨a=v) (pushW s i) (oth (eAt g.es i) v) i where
 ln:=h.ln
 nd:=h.nd
 act:=fun a ha=>by
  rcases ha with ha | e
  ·exact h.old_in hg h0 (h0.act _ ha)
  ·show a∈s.vis;rw [e];exact h.v_in hg h0
 fin:=fun w hw hA j hj=>by
  have hw2:w∈s.vis:=hw
  show oth (eAt g.es j) w∈s.vis
  rw [h.vis,List.mem_append,List.mem_cons] at hw2
  rcases hw2 with k | k | k
  ·exact h.old_in hg h0 (h0.fin w k (fun x=>hA (.inl x)) j hj)
  ·exact absurd (.inr k) hA
  ·exact h.cloD w k j hj
 new:=hout
 con:=by
  have up:∀ a b,A a→A b→RIn g.es (fun a=>A a∨a=v) a b:=fun a b ha hb=>(h0.con a b ha hb).mono fun z hz=>.inl hz
  have tov:∀ a,A a→RIn g.es (fun a=>A a∨a=v) a v:=fun a ha=>by
   obtain ⟨b,hb⟩:=h.no_root hg h0 ha
   obtain ⟨_,b2,b3⟩:=h.by_out hg h0 hb
   exact .step (up a _ ha b3) (nbr_symm (oth_nbr b2)) (.inr rfl)
  rintro a b (ha | rfl) (hb | rfl)
  ·exact up a b ha hb
  ·exact tov a ha
  ·exact (tov b hb).symm
  ·exact .refl (.inr rfl)
 par:=.inr ⟨i,rfl,atP_oth hi,.inr (oth_oth (atP_mem.1 hi).2)⟩
theorem BLp.child {i:Nat} (hi:i∈atP g.es v) (hiQ:i∉Q) (hib:(i:Int)≠by_) (hout:oth (eAt g.es i) v∉s.vis) {s1:Bw} {C:List Int} {T':List Nat} {N':List (List Nat)}
 (hp:BPost g (pushW s i) (oth (eAt g.es i) v) i s1 C T' N'):∃ s2 D2 T2 N2,lowB g.es.length v ((s0.vis.length:Int)+1) i (oth (eAt g.es i) v) s1=some s2∧BLp g s0 v by_ (Q++[i]) s2 D2 T2 N2:=by
 obtain ⟨u,hu⟩:∃ u,u=oth (eAt g.es i) v:=⟨_,rfl⟩
 have hvs:=h.v_in hg h0
 have hvis:s1.vis=s.vis++C:=hp.vis
 have hvis2:s1.vis=s0.vis++v::(D++C):=by rw [hvis,h.vis,List.append_assoc];rfl
 have hv1:v∈s1.vis:=by rw [hvis];exact List.mem_append_left _ hvs
 have hcn:∀ c∈C,c∉s.vis:=fun c hc k=>by
  have:=hp.nd
  rw [hvis,List.nodup_append] at this
  exact this.2.2 c k c hc rfl
 have hend:(eAt g.es i).a=v∨(eAt g.es i).b=v:=(atP_mem.1 hi).2
 have hil:=(atP_mem.1 hi).1
 have huC:u∈C:=by rw [hu];exact hp.hd
 have hu1:u∈s1.vis:=by rw [hvis];exact List.mem_append_right _ huC
 have huv:u≠v:=by rw [hu];exact eAt_ne hg hi
 have hlen:s.vis.length=s0.vis.length+1+D.length:=by rw [h.vis,List.length_append,List.length_cons];omega
 have hlv:lwW s1 v=lwW s v:=hp.low v hvs
 -- ends
 have inS:∀ {j:Nat},j∈T++N.flatten→¬ ((eAt g.es j).a∈C∨(eAt g.es j).b∈C):=fun hj k=>by
  have:=h.pl_in hg h0 hj
  rcases k with k | k
  ·exact hcn _ k this.1
  ·exact hcn _ k this.2
 have byC:∀ b:Nat,by_=b→¬ ((eAt g.es b).a∈C∨(eAt g.es b).b∈C):=fun b hb k=>by
  obtain ⟨b1,b2,_⟩:=h.by_out hg h0 hb
  have:=both_in hvs (atP_mem.1 b2).2 (h.old_in hg h0 b1)
  rcases k with k | k
  ·exact hcn _ k this.1
  ·exact hcn _ k this.2
 have iC:(eAt g.es i).a∈C∨(eAt g.es i).b∈C:=by
  rcases oth_end (eAt g.es i) v with e | e
  ·exact .inl (by rw [e,← hu];exact huC)
  ·exact .inr (by rw [e,← hu];exact huC)
 have iT':i∉T'++N'.flatten:=fun k=>((hp.pl i).1 k).2.1 rfl
 -- the places that are new
 have hnew:∀ j,(j=i∨j∈T'++N'.flatten)↔j < g.es.length∧((eAt g.es j).a∈C∨(eAt g.es j).b∈C):=fun j=>by
  rw [hp.pl j]
  constructor
  ·rintro (rfl | ⟨k1,_,k3⟩)
   ·exact ⟨hil,iC⟩
   ·exact ⟨k1,k3⟩
  ·rintro ⟨k1,k3⟩
   by_cases e:j=i
   ·exact .inl e
   ·exact .inr ⟨k1,fun k=>e (by omega),k3⟩
 have hpl:∀ j,(j∈T++N.flatten∨(j=i∨j∈T'++N'.flatten))↔j < g.es.length∧(j:Int)≠by_∧(((eAt g.es j).a∈D++C∨(eAt g.es j).b∈D++C)∨(j∈Q++[i]∧oth (eAt g.es j) v∈s0.vis)):=fun j=>by
  rw [h.pl j,hnew j]
  simp only [List.mem_append,List.mem_singleton]
  constructor
  ·rintro (⟨k1,k2,(k3 | k3) | ⟨k3,k4⟩⟩ | ⟨k1,k3⟩)
   ·exact ⟨k1,k2,.inl (.inl (.inl k3))⟩
   ·exact ⟨k1,k2,.inl (.inr (.inl k3))⟩
   ·exact ⟨k1,k2,.inr ⟨.inl k3,k4⟩⟩
   ·exact ⟨k1,fun e=>byC j e.symm k3,.inl (k3.imp .inr .inr)⟩
  ·rintro ⟨k1,k2,((k3 | k3) | (k3 | k3)) | ⟨k3 | k3,k4⟩⟩
   ·exact .inl ⟨k1,k2,.inl (.inl k3)⟩
   ·exact .inr ⟨k1,.inl k3⟩
   ·exact .inl ⟨k1,k2,.inl (.inr k3)⟩
   ·exact .inr ⟨k1,.inr k3⟩
   ·exact .inl ⟨k1,k2,.inr ⟨k3,k4⟩⟩
   ·subst k3;exact absurd (h.old_in hg h0 k4) hout
 have hnd:((T++N.flatten)++i::(T'++N'.flatten)).Nodup:=by
  rw [List.nodup_append]
  refine ⟨h.pn,List.nodup_cons.2 ⟨iT',hp.pn⟩,fun a ha b hb=>?_⟩
  rintro rfl
  exact inS ha ((hnew a).1 (List.mem_cons.1 hb)).2
 -- low numbers
 have hset:∀ x,∀ w∈s1.vis,lwW (setW s1 v x) w=if w=v then x else lwW s1 w:=fun x w hw=>lwW_set hp.ln hv1 hw
 have hold1:∀ w∈s0.vis,w≠v:=fun w hw e=>h0.new (by rw [← e];exact hw)
 have nm0:∀ w∈s0.vis,nmW s.vis w=nmW s0.vis w:=fun w hw=>by rw [h.vis,nmW_app hw]
 have wit:lwW s1 u < (s0.vis.length:Int)+1→∃ c∈C,∃ j∈atP g.es c,j≠i∧oth (eAt g.es j) c∈s0.vis∧nmW s0.vis (oth (eAt g.es j) c)=lwW s1 u:=fun hl=>by
  have hl2:lwW s1 u < ((pushW s i).vis.length:Int)+1:=by show _ < (s.vis.length:Int)+1;omega
  rw [hu] at hl2
  obtain ⟨c,hc,j,hj,hji,ho,he⟩:=hp.lw3 hl2
  have he:nmW s.vis (oth (eAt g.es j) c)=lwW s1 u:=by rw [hu];exact he
  have hin:oth (eAt g.es j) c∈s.vis:=ho
  have h1:oth (eAt g.es j) c∈s0.vis:=Classical.byContradiction fun k=>by
   have h2:=hin
   rw [h.vis,List.mem_append] at h2
   have:=nmW_new k (h2.resolve_left k)
   rw [← h.vis] at this
   omega
  exact ⟨c,hc,j,hj,fun e=>hji (by omega),h1,by rw [← nm0 _ h1];exact he⟩
 have base:∀ (s2:Bw) (T2:List Nat) (N2:List (List Nat)),s2.vis=s1.vis→s2.low=(setW s1 v (min (lwW s1 v) (lwW s1 u))).low→s2.stk=s0.stk++T2→s2.out=s0.out++N2→
  (T2++N2.flatten).Perm ((T++N.flatten)++i::(T'++N'.flatten))→(∀ j∈T2,∃ b:Nat,by_=b∧RelB g.es b j)→(∀ B∈N2,BlkOk g.es B)→BLp g s0 v by_ (Q++[i]) s2 (D++C) T2 N2:=fun s2 T2 N2 e1 e2 e3 e4 hperm hrel hgood=>by
  have hlw:∀ w∈s1.vis,lwW s2 w=if w=v then min (lwW s1 v) (lwW s1 u) else lwW s1 w:=fun w hw=>by
   rw [← hset _ w hw];unfold lwW;rw [e1,e2];rfl
  exact {
  vis:=by rw [e1,hvis2]
  nd:=by rw [e1];exact hp.nd
  ln:=by rw [e1,e2];show (s1.low.set _ _).length=_;rw [List.length_set];exact hp.ln
  low:=fun w hw=>by
   have hw1:=h.old_in hg h0 hw
   rw [hlw w (by rw [hvis];exact List.mem_append_left _ hw1),if_neg (hold1 w hw),hp.low w hw1]
   exact h.low w hw
  qs:=fun j hj=>by rcases List.mem_append.1 hj with k | k;exact h.qs j k;rw [List.mem_singleton] at k;subst k;exact hi
  cloQ:=fun j hj=>by
   rw [e1]
   rcases List.mem_append.1 hj with k | k
   ·rw [hvis];exact List.mem_append_left _ (h.cloQ j k)
   ·rw [List.mem_singleton] at k;subst k;rw [← hu];exact hu1
  cloD:=fun c hc j hj=>by
   rw [e1]
   rcases List.mem_append.1 hc with k | k
   ·rw [hvis];exact List.mem_append_left _ (h.cloD c k j hj)
   ·exact hp.clo c k j hj
  stk:=e3
  out:=e4
  pl:=fun j=>by rw [hperm.mem_iff,← hpl j,List.mem_append,List.mem_cons]
  pn:=hperm.nodup_iff.2 hnd
  lw1:=by rw [hlw v hv1,if_pos rfl,hlv];have:=h.lw1;omega
  lwD:=fun c hc j hj h1 h2=>by
   rw [hlw v hv1,if_pos rfl,hlv]
   rw [List.mem_append,not_or] at h1
   rcases List.mem_append.1 hc with k | k
   ·have:=h.lwD c k j hj h1.1 h2;omega
   ·have hji:(j:Int)≠i:=fun e=>by
     obtain rfl:j=i:=by omega
     rcases (ends_oth hend c).1 (atP_mem.1 hj).2 with e | e
     ·subst e;exact hcn _ k hvs
     ·exact h2 (by rw [e];exact oth_oth hend)
    have h3:=hp.lw2 c k j hj hji h1.2
    have h4:lwW s1 u≤nmW s.vis (oth (eAt g.es j) c):=by rw [hu];exact h3
    have hin:=hp.clo c k j hj
    rw [hvis2,List.mem_append,List.mem_cons,List.mem_append] at hin
    have hin:=hin.resolve_right fun x=>by rcases x with x | x | x;exact h2 x;exact h1.1 x;exact h1.2 x
    rw [nm0 _ hin] at h4
    omega
  lwQ:=fun j hj hjb ho=>by
   rw [hlw v hv1,if_pos rfl,hlv]
   rcases List.mem_append.1 hj with k | k
   ·have:=h.lwQ j k hjb ho;omega
   ·rw [List.mem_singleton] at k;subst k;exact absurd (h.old_in hg h0 ho) hout
  lw3:=fun hl=>by
   rw [hlw v hv1,if_pos rfl] at hl ⊢
   by_cases hmin:lwW s1 v≤lwW s1 u
   ·rw [Int.min_eq_left hmin,hlv] at hl ⊢
    obtain ⟨c,hc,j,hj,hjb,ho,he⟩:=h.lw3 hl
    exact ⟨c,by rcases List.mem_cons.1 hc with k | k<;>simp [k],j,hj,hjb,ho,he⟩
   ·rw [Int.min_eq_right (by omega)] at hl ⊢
    obtain ⟨c,hc,j,hj,hji,ho,he⟩:=wit hl
    refine ⟨c,by simp [hc],j,hj,fun e=>byC j e.symm ?_,ho,he⟩
    rcases (atP_mem.1 hj).2 with x | x
    ·exact .inl (by rw [x];exact hc)
    ·exact .inr (by rw [x];exact hc)
  rel:=hrel
  good:=hgood
  cn:=fun c hc=>by
   rcases List.mem_append.1 hc with k | k
   ·exact (h.cn c k).mono fun z hz=>hz.imp_right fun x=>List.mem_append_left _ x
   ·have h1:=(hp.cn c k).mono (S':=fun x=>x=v∨x∈D++C) fun z hz=>.inr (List.mem_append_right _ hz)
    exact (RIn.step (.refl (.inl rfl)) (oth_nbr hi) (.inr (List.mem_append_right _ (by rw [← hu];exact huC)))).trans h1 }
 rw [← hu]
 unfold lowB
 by_cases hc:(s0.vis.length:Int)+1≤lwW s1 u
 ·rw [if_pos hc]
  have hstk:s1.stk=(s0.stk++T)++i::T':=by rw [hp.stk];show (s.stk++[i])++T'=_;rw [h.stk];simp
  have hiT:i∉T':=fun k=>iT' (List.mem_append_left _ k)
  have hlp:lastP s1.stk i=(s0.stk++T).length:=by rw [hstk];exact lastP_app hiT
  have hSn:(i::T').Nodup:=List.nodup_cons.2 ⟨hiT,(List.nodup_append.1 hp.pn).1⟩
  have hSl:∀ j∈i::T',j < g.es.length:=fun j hj=>by
   have:j=i∨j∈T'++N'.flatten:=(List.mem_cons.1 hj).imp_right fun k=>List.mem_append_left _ k
   exact ((hnew j).1 this).1
  have hbp:=blkW_perm hSn hSl
  have hrelS:∀ j∈i::T',RelB g.es i j:=fun j hj=>by
   rcases List.mem_cons.1 hj with e | k
   ·rw [e];exact .refl
   ·obtain ⟨b,hb,hr⟩:=hp.rel j k
    obtain rfl:i=b:=by omega
    exact hr
  -- all that stays behind v
  have hlu:∀ c∈C,∀ j∈atP g.es c,oth (eAt g.es j) c∈C∨oth (eAt g.es j) c=v:=fun c hcC j hj=>by
   by_cases e1:oth (eAt g.es j) c∈C
   ·exact .inl e1
   refine .inr (Classical.byContradiction fun e2=>?_)
   by_cases hji:(j:Int)=i
   ·obtain rfl:j=i:=by omega
    rcases (ends_oth hend c).1 (atP_mem.1 hj).2 with e | e
    ·subst e;exact hcn _ hcC hvs
    ·exact e2 (by rw [e];exact oth_oth hend)
   ·have h3:=hp.lw2 c hcC j hj hji e1
    have h4:lwW s1 u≤nmW s.vis (oth (eAt g.es j) c):=by rw [hu];exact h3
    have hin:=hp.clo c hcC j hj
    rw [hvis] at hin
    have hin:=(List.mem_append.1 hin).resolve_right e1
    have hold:oth (eAt g.es j) c∈s0.vis∨oth (eAt g.es j) c∈D:=by
     rw [h.vis,List.mem_append,List.mem_cons] at hin
     rcases hin with k | k | k
     ·exact .inl k
     ·exact absurd k e2
     ·exact .inr k
    rcases hold with k | k
    ·rw [nm0 _ k] at h4
     have:=nmW_le k
     omega
    ·have:=h.cloD _ k j (atP_oth hj)
     rw [oth_oth (atP_mem.1 hj).2] at this
     exact hcn _ hcC this
  have hgood:BlkOk g.es (blkW g.es.length (i::T')):={
   ne:=fun e=>by
    have:i∈blkW g.es.length (i::T'):=blkW_mem.2 ⟨hil,by simp⟩
    rw [e] at this;cases this
   rise:=blkW_rise _ _
   lt:=fun j hj=>(blkW_mem.1 hj).1
   rel:=fun j hj k hk=>(hrelS j (blkW_mem.1 hj).2).symm.trans (hrelS k (blkW_mem.1 hk).2)
   all:=fun j hj k hk hr=>by
    have hjS:=(blkW_mem.1 hj).2
    have hjC:=((hnew j).1 ((List.mem_cons.1 hjS).imp_right fun x=>List.mem_append_left _ x)).2
    -- k ends behind v, too
    have hkC:(eAt g.es k).a∈C∨(eAt g.es k).b∈C:=by
     obtain ⟨w,w1,w2,w3⟩:=hr
     have hjw:j∈atP g.es w:=atP_mem.2 ⟨hSl j hjS,w1⟩
     have hkw:k∈atP g.es w:=atP_mem.2 ⟨hk,w2⟩
     by_cases hwC:w∈C
     ·rcases w2 with e | e
      ·exact .inl (by rw [e];exact hwC)
      ·exact .inr (by rw [e];exact hwC)
     have hoC:oth (eAt g.es j) w∈C:=by
      rcases hjC with x | x
      ·rcases (ends_oth w1 _).1 (.inl rfl) with e | e
       ·exact absurd (by rw [← e];exact x) hwC
       ·rw [← e];exact x
      ·rcases (ends_oth w1 _).1 (.inr rfl) with e | e
       ·exact absurd (by rw [← e];exact x) hwC
       ·rw [← e];exact x
     have hwv:w=v:=by
      have:=hlu _ hoC j (atP_oth hjw)
      rw [oth_oth w1] at this
      exact this.resolve_left hwC
     subst hwv
     have hq:oth (eAt g.es k) w∈C:=w3.closed (L:=(·∈C)) hoC fun z hz x hx hne=>by
      obtain ⟨l,hl,rfl⟩:=nbr_atP hx
      exact (hlu z hz l hl).resolve_right hne
     rcases oth_end (eAt g.es k) w with e | e
     ·exact .inl (by rw [e];exact hq)
     ·exact .inr (by rw [e];exact hq)
    refine blkW_mem.2 ⟨hk,?_⟩
    rcases (hnew k).2 ⟨hk,hkC⟩ with e | e
    ·rw [e];simp
    ·rcases List.mem_append.1 e with e | e
     ·exact List.mem_cons_of_mem _ e
     ·obtain ⟨B,hB,hkB⟩:=List.mem_flatten.1 e
      have hjB:=(hp.good B hB).all k hkB j (hSl j hjS) hr.symm
      have hjN:j∈N'.flatten:=List.mem_flatten.2 ⟨B,hB,hjB⟩
      exfalso
      rcases List.mem_cons.1 hjS with e | e
      ·exact iT' (by rw [← e];exact List.mem_append_right _ hjN)
      ·exact (List.nodup_append.1 hp.pn).2.2 j e j hjN rfl }
  have hcut:cutW g.es.length (setW s1 v (min (lwW s1 v) (lwW s1 u))) i=some { setW s1 v (min (lwW s1 v) (lwW s1 u)) with stk:=s0.stk++T,out:=s0.out++(N++N'++[blkW g.es.length (i::T')]) }:=by
   unfold cutW
   have e1:(setW s1 v (min (lwW s1 v) (lwW s1 u))).stk=s1.stk:=rfl
   have e2:(setW s1 v (min (lwW s1 v) (lwW s1 u))).out=s1.out:=rfl
   rw [e1,e2,hlp,if_pos (by rw [hstk];simp),hstk,List.take_left,List.drop_left,hp.out]
   show some _=some _
   have:(pushW s i).out=s0.out++N:=h.out
   rw [this]
   simp only [List.append_assoc]
  refine ⟨_,D++C,T,N++N'++[blkW g.es.length (i::T')],hcut,base _ _ _ rfl rfl rfl rfl ?_ h.rel ?_⟩
  ·simp only [List.flatten_append,List.flatten_cons,List.flatten_nil,List.append_nil,List.append_assoc]
   refine List.Perm.append_left _ (List.Perm.append_left _ ?_)
   refine List.perm_append_comm.trans ?_
   exact (hbp.append_right _)
  ·intro B hB
   rcases List.mem_append.1 hB with hB | hB
   ·rcases List.mem_append.1 hB with hB | hB
    ·exact h.good B hB
    ·exact hp.good B hB
   ·rw [List.mem_singleton] at hB;rw [hB];exact hgood
 ·rw [if_neg hc]
  have hl:lwW s1 u < (s0.vis.length:Int)+1:=by omega
  obtain ⟨c,hcC,j,hj,hji,ho,he⟩:=wit hl
  have hA:=h.back_act hg h0 (c:=c) (fun k=>hcn c hcC (h.old_in hg h0 k)) hj ho
  obtain ⟨b,hb⟩:=h.no_root hg h0 hA
  obtain ⟨_,b2,_⟩:=h.by_out hg h0 hb
  have hbi:RelB g.es b i:=by
   refine .step .refl (atP_mem.1 b2).1 hil ⟨v,(atP_mem.1 b2).2,hend,?_⟩
   refine (((hp.cn c hcC).mono fun z hz=>?_).trans (.step (.refl ?_) (oth_nbr hj) ?_) |>.trans (h.act_to hg h0 hb hA)).symm
   ·intro e;subst e;exact hcn _ hz hvs
   ·intro e;subst e;exact hcn _ hcC hvs
   ·exact hold1 _ ho
  refine ⟨_,D++C,T++(i::T'),N++N',rfl,base _ _ _ rfl rfl ?_ ?_ ?_ ?_ ?_⟩
  ·show s1.stk=_
   rw [hp.stk];show (s.stk++[i])++T'=_;rw [h.stk];simp
  ·show s1.out=_
   rw [hp.out];show s.out++N'=_;rw [h.out];simp
  ·simp only [List.flatten_append,List.append_assoc,List.cons_append]
   refine List.Perm.append_left _ ?_
   have:(i::(T'++(N.flatten++N'.flatten))).Perm (N.flatten++(i::(T'++N'.flatten))):=by
    refine List.Perm.trans ?_ List.perm_middle.symm
    refine List.Perm.cons _ ?_
    rw [← List.append_assoc,← List.append_assoc]
    exact List.Perm.append_right _ List.perm_append_comm
   exact this
  ·intro k hk
   rcases List.mem_append.1 hk with hk | hk
   ·exact h.rel k hk
   ·refine ⟨b,hb,hbi.trans ?_⟩
    rcases List.mem_cons.1 hk with e | e
    ·rw [e];exact .refl
    ·obtain ⟨b',hb',hr⟩:=hp.rel k e
     obtain rfl:i=b':=by omega
     exact hr
  ·intro B hB
   rcases List.mem_append.1 hB with hB | hB
   ·exact h.good B hB
   ·exact hp.good B hB
end
end Go.Proofs.YtkcokoefodgigaaGreat.Aw
namespace Go.Proofs.YtkcokoefodgigaaGreat.Aw
open Go Go.RowKit Go.Proofs.YtkcokoefodgigaaGreat.Pl Go.Proofs.YtkcokoefodgigaaGreat.Eu
set_option linter.unusedSimpArgs false
set_option linter.unusedVariables false
section
variable {g:Gr} (hg:GoodE g)
include hg
theorem loop_ok (n:Nat) (ih:∀ (A:Int→Prop) (s:Bw) (v by_:Int),BPre g A s v by_→v∈g.vs→(∀ w∈s.vis,w∈g.vs)→g.vs.length≤n+s.vis.length→∃ s1 C T N,visF g.es n v by_ s=some s1∧BPost g s v by_ s1 C T N∧∀ c∈C,c∈g.vs)
 {A:Int→Prop} {s0:Bw} {v by_:Int} (h0:BPre g A s0 v by_) (hn:g.vs.length≤n+(s0.vis.length+1)):
 ∀ (R Q:List Nat) (s:Bw) (D:List Int) (T:List Nat) (N:List (List Nat)),Q++R=atP g.es v→BLp g s0 v by_ Q s D T N→(∀ w∈s.vis,w∈g.vs)→
  ∃ s1 D T N,goB (stepB (visF g.es n) g.es v by_ ((s0.vis.length:Int)+1)) R s=some s1∧BLp g s0 v by_ (atP g.es v) s1 D T N∧∀ w∈s1.vis,w∈g.vs
 | [],Q,s,D,T,N,hQ,h,hv=>⟨s,D,T,N,rfl,by rw [List.append_nil] at hQ;rw [← hQ];exact h,hv⟩
 | i::R,Q,s,D,T,N,hQ,h,hv=>by
   have hi:i∈atP g.es v:=by rw [← hQ];simp
   have hnd:(atP g.es v).Nodup:=List.Pairwise.filter _ List.nodup_range
   have hiQ:i∉Q:=fun k=>by rw [← hQ,List.nodup_append] at hnd;exact hnd.2.2 i k i (by simp) rfl
   have hQ2:(Q++[i])++R=atP g.es v:=by rw [← hQ];simp
   have go:∀ s2 D T N,stepB (visF g.es n) g.es v by_ ((s0.vis.length:Int)+1) s i=some s2→BLp g s0 v by_ (Q++[i]) s2 D T N→(∀ w∈s2.vis,w∈g.vs)→∃ s1 D T N,goB (stepB (visF g.es n) g.es v by_ ((s0.vis.length:Int)+1)) (i::R) s=some s1∧BLp g s0 v by_ (atP g.es v) s1 D T N∧∀ w∈s1.vis,w∈g.vs:=fun s2 D T N e h2 hv2=>by
    obtain ⟨s1,D1,T1,N1,k1,k2,k3⟩:=loop_ok n ih h0 hn R (Q++[i]) s2 D T N hQ2 h2 hv2
    exact ⟨s1,D1,T1,N1,by rw [goB,e];exact k1,k2,k3⟩
   by_cases hb:(i:Int)=by_
   ·exact go s D T N (by unfold stepB;rw [if_pos hb]) (h.same hg h0 hi hb) hv
   by_cases hin:oth (eAt g.es i) v∈s.vis
   ·by_cases hnm:nmW s.vis (oth (eAt g.es i) v) < (s0.vis.length:Int)+1
    ·exact go _ D _ N (by unfold stepB;rw [if_neg hb,if_pos hin,if_pos hnm]) (h.back hg h0 hi hiQ hb hin hnm) hv
    ·exact go s D T N (by unfold stepB;rw [if_neg hb,if_pos hin,if_neg hnm]) (h.skip hg h0 hi hin hnm) hv
   ·have hlen:s.vis.length=s0.vis.length+1+D.length:=by rw [h.vis,List.length_append,List.length_cons];omega
    have huv:oth (eAt g.es i) v∈g.vs:=hg.nbr (oth_nbr hi)
    obtain ⟨s1,C,T',N',e,hp,hC⟩:=ih _ (pushW s i) _ i (h.pre hg h0 hi hin) huv hv (by show g.vs.length≤n+s.vis.length;omega)
    obtain ⟨s2,D2,T2,N2,e2,h2⟩:=h.child hg h0 hi hiQ hb hin hp
    refine go s2 D2 T2 N2 (by unfold stepB;rw [if_neg hb,if_neg hin,e];exact e2) h2 fun w hw=>?_
    have e3:s2.vis=s1.vis:=by
     unfold lowB at e2
     split at e2
     ·unfold cutW at e2
      split at e2
      ·cases e2;rfl
      ·cases e2
     ·cases e2;rfl
    rw [e3,hp.vis,List.mem_append] at hw
    exact hw.elim (hv w) (hC w)
theorem vis_ok:∀ (n:Nat) (A:Int→Prop) (s:Bw) (v by_:Int),BPre g A s v by_→v∈g.vs→(∀ w∈s.vis,w∈g.vs)→g.vs.length≤n+s.vis.length→∃ s1 C T N,visF g.es n v by_ s=some s1∧BPost g s v by_ s1 C T N∧∀ c∈C,c∈g.vs
 | 0,A,s,v,by_,h,hv,hs,hn=>by
   have h1:(s.vis++[v]).length≤g.vs.length:=List.Nodup.length_le_of_subset (by
    rw [List.nodup_append]
    exact ⟨h.nd,by simp,fun a ha b hb=>by rintro rfl;rw [List.mem_singleton] at hb;subst hb;exact h.new ha⟩) fun w hw=>by
     rcases List.mem_append.1 hw with k | k
     ·exact hs w k
     ·rw [List.mem_singleton] at k;rw [k];exact hv
   simp at h1
   omega
 | n+1,A,s,v,by_,h,hv,hs,hn=>by
   obtain ⟨s1,D,T,N,e,h1,hs1⟩:=loop_ok hg n (vis_ok n) h (by omega) (atP g.es v) [] (newW s v) [] [] [] rfl h.start fun w hw=>by
    have hw:w∈s.vis++[v]:=hw
    rcases List.mem_append.1 hw with k | k
    ·exact hs w k
    ·rw [List.mem_singleton] at k;rw [k];exact hv
   have hp:=h1.done hg h
   exact ⟨s1,_,T,N,e,hp,fun c hc=>hs1 c (by rw [hp.vis];exact List.mem_append_right _ hc)⟩
structure BAll (g:Gr) (s:Bw):Prop where
 ln:s.low.length=s.vis.length
 nd:s.vis.Nodup
 sub:∀ w∈s.vis,w∈g.vs
 fin:∀ w∈s.vis,∀ i∈atP g.es w,oth (eAt g.es i) w∈s.vis
 stk:s.stk=[]
 pl:∀ i,i∈s.out.flatten↔i < g.es.length∧(eAt g.es i).a∈s.vis
 pn:s.out.flatten.Nodup
 good:∀ B∈s.out,BlkOk g.es B
theorem all_ok (n:Nat) (hn:g.vs.length≤n):∀ (l:List Int) (s:Bw),(∀ v∈l,v∈g.vs)→BAll g s→∃ s1,allB g.es n l s=some s1∧BAll g s1∧(∀ v∈s.vis,v∈s1.vis)∧∀ v∈l,v∈s1.vis
 | [],s,_,h=>⟨s,rfl,h,fun _ h=>h,fun v hv=>by cases hv⟩
 | v::l,s,hl,h=>by
   by_cases hv:v∈s.vis
   ·obtain ⟨s1,e,k1,k2,k3⟩:=all_ok n hn l s (fun w hw=>hl w (List.mem_cons_of_mem _ hw)) h
    refine ⟨s1,by rw [allB,if_pos hv];exact e,k1,k2,fun w hw=>?_⟩
    rcases List.mem_cons.1 hw with rfl | hw
    ·exact k2 _ hv
    ·exact k3 _ hw
   ·have hpre:BPre g (fun _=>False) s v (-1):=⟨h.ln,h.nd,fun a ha=>ha.elim,fun w hw _=>h.fin w hw,hv,fun a b ha=>ha.elim,.inl ⟨rfl,fun a ha=>ha⟩⟩
    obtain ⟨s1,C,T,N,e,hp,hC⟩:=vis_ok hg n _ s v (-1) hpre (hl v (by simp)) h.sub (by omega)
    have hT:T=[]:=by
     cases T with
     | nil=>rfl
     | cons i T=>
       obtain ⟨b,hb,_⟩:=hp.rel i (by simp)
       omega
    subst hT
    have hcl:∀ w∈s1.vis,∀ i∈atP g.es w,oth (eAt g.es i) w∈s1.vis:=fun w hw i hi=>by
     have hw2:=hw
     rw [hp.vis,List.mem_append] at hw2
     rcases hw2 with k | k
     ·rw [hp.vis];exact List.mem_append_left _ (h.fin w k i hi)
     ·exact hp.clo w k i hi
    have hall:BAll g s1:={
     ln:=hp.ln
     nd:=hp.nd
     sub:=fun w hw=>by
      rw [hp.vis,List.mem_append] at hw
      exact hw.elim (h.sub w) (hC w)
     fin:=hcl
     stk:=by rw [hp.stk,h.stk];rfl
     pl:=fun i=>by
      have h2:=hp.pl i
      rw [List.nil_append] at h2
      rw [hp.out,List.flatten_append,List.mem_append,h.pl i,h2,hp.vis,List.mem_append]
      constructor
      ·rintro (⟨k1,k2⟩ | ⟨k1,_,k2⟩)
       ·exact ⟨k1,.inl k2⟩
       ·refine ⟨k1,?_⟩
        rcases k2 with k2 | k2
        ·exact .inr k2
        ·have:=hp.clo _ k2 i (atP_mem.2 ⟨k1,.inr rfl⟩)
         rw [hp.vis,List.mem_append] at this
         have e1:oth (eAt g.es i) (eAt g.es i).b=(eAt g.es i).a:=by unfold oth;split<;>first | (next q=>exact q.symm) | rfl
         rwa [e1] at this
      ·rintro ⟨k1,k2 | k2⟩
       ·exact .inl ⟨k1,k2⟩
       ·exact .inr ⟨k1,by omega,.inl k2⟩
     pn:=by
      have h2:=hp.pn
      rw [List.nil_append] at h2
      rw [hp.out,List.flatten_append,List.nodup_append]
      refine ⟨h.pn,h2,fun a ha b hb=>?_⟩
      rintro rfl
      have k1:=(h.pl a).1 ha
      have k2:=(hp.pl a).1 (by rw [List.nil_append];exact hb)
      have hd:∀ c∈C,c∉s.vis:=fun c hc k=>by
       have:=hp.nd
       rw [hp.vis,List.nodup_append] at this
       exact this.2.2 c k c hc rfl
      rcases k2.2.2 with k | k
      ·exact hd _ k k1.2
      ·have:=h.fin _ k1.2 a (atP_mem.2 ⟨k1.1,.inl rfl⟩)
       have e1:oth (eAt g.es a) (eAt g.es a).a=(eAt g.es a).b:=by unfold oth;rw [if_pos rfl]
       rw [e1] at this
       exact hd _ k this
     good:=fun B hB=>by
      rw [hp.out,List.mem_append] at hB
      exact hB.elim (h.good B) (hp.good B) }
    obtain ⟨s2,e2,k1,k2,k3⟩:=all_ok n hn l s1 (fun w hw=>hl w (List.mem_cons_of_mem _ hw)) hall
    refine ⟨s2,by rw [allB,if_neg hv,e];exact e2,k1,fun w hw=>k2 w (by rw [hp.vis];exact List.mem_append_left _ hw),fun w hw=>?_⟩
    rcases List.mem_cons.1 hw with rfl | hw
    ·exact k2 _ (by rw [hp.vis];exact List.mem_append_right _ hp.hd)
    ·exact k3 _ hw
theorem blocks_ok:∃ s,allB g.es g.vs.length g.vs ⟨[],[],[],[]⟩=some s∧s.stk=[]∧(∀ i,i∈s.out.flatten↔i < g.es.length)∧s.out.flatten.Nodup∧∀ B∈s.out,BlkOk g.es B:=by
 obtain ⟨s,e,h,_,h3⟩:=all_ok hg g.vs.length (Nat.le_refl _) g.vs ⟨[],[],[],[]⟩ (fun _ h=>h) ⟨rfl,.nil,fun w hw=>(by cases hw),fun w hw=>(by cases hw),rfl,fun i=>by simp,by simp,fun B hB=>(by cases hB)⟩
 refine ⟨s,e,h.stk,fun i=>?_,h.pn,h.good⟩
 rw [h.pl i]
 exact and_iff_left_of_imp fun hi=>h3 _ (hg.ends _ (eAt_mem hi)).1
end
end Go.Proofs.YtkcokoefodgigaaGreat.Aw
namespace Go.Proofs.YtkcokoefodgigaaGreat.Aw
open Go Go.RowKit Go.Proofs.YtkcokoefodgigaaGreat.Pl
set_option linter.unusedSimpArgs false
set_option linter.unusedVariables false
section
variable {α:Type} (f:α→Int)
end
end Go.Proofs.YtkcokoefodgigaaGreat.Aw
namespace Go.Proofs.YtkcokoefodgigaaGreat.Aw
open Go Go.RowKit Go.Proofs.YtkcokoefodgigaaGreat.Pl Go.Proofs.YtkcokoefodgigaaGreat.Eu
set_option linter.unusedSimpArgs false
set_option linter.unusedVariables false
def esB (es:List Ed) (B:List Nat):List Ed:=B.map (eAt es)
theorem first_arr {es:List Ed} {w p z:Int} (hz:z≠p) {y:Int} (h:RIn es (·≠w) p y):RIn es (fun t=>t≠w∧t≠z) p y∨∃ y',z∈nbr es y'∧RIn es (fun t=>t≠w∧t≠z) p y':=by
 induction h with
 | refl h=>exact .inl (.refl ⟨h,fun e=>hz e.symm⟩)
 | @step y u h hn hs ih=>
   rcases ih with ih | ih
   ·by_cases e:u=z
    ·subst e;exact .inr ⟨y,hn,ih⟩
    ·exact .inl (.step ih hn ⟨hs,e⟩)
   ·exact .inr ih
theorem last_exit {es:List Ed} {w p q:Int} {S:Int→Prop} (hp:S p) (h:RIn es (·≠w) p q):S q∨∃ z z',S z∧z'∈nbr es z∧RIn es (fun t=>t≠w∧¬ S t) z' q:=by
 induction h with
 | refl h=>exact .inl hp
 | @step y u h hn hs ih=>
   by_cases hu:S u
   ·exact .inl hu
   by_cases hy:S y
   ·exact .inr ⟨y,u,hy,hn,.refl ⟨hs,hu⟩⟩
   rcases ih with ih | ⟨z,z',h1,h2,h3⟩
   ·exact absurd ih hy
   ·exact .inr ⟨z,z',h1,h2,.step h3 hn ⟨hs,hu⟩⟩
theorem esB_nbr {es:List Ed} {B:List Nat} {y z:Int} (h:z∈nbr (esB es B) y):∃ i∈B,((eAt es i).a=y∨(eAt es i).b=y)∧oth (eAt es i) y=z:=by
 rw [mem_nbr] at h
 obtain ⟨x,hx,h⟩:=h
 obtain ⟨i,hi,rfl⟩:=List.mem_map.1 hx
 refine ⟨i,hi,by omega,?_⟩
 unfold oth
 split<;>omega
theorem nbr_esB {es:List Ed} {B:List Nat} {i:Nat} (hi:i∈B) {y:Int} (h:(eAt es i).a=y∨(eAt es i).b=y):oth (eAt es i) y∈nbr (esB es B) y:=by
 rw [mem_nbr]
 refine ⟨_,List.mem_map_of_mem hi,?_⟩
 unfold oth
 split
 ·exact .inl ⟨by assumption,rfl⟩
 ·exact .inr ⟨by omega,rfl⟩
theorem RIn.up {es:List Ed} {B:List Nat} (hB:∀ i∈B,i < es.length) {S:Int→Prop} {x y:Int} (h:RIn (esB es B) S x y):RIn es S x y:=by
 induction h with
 | refl h=>exact .refl h
 | step h hn hs ih=>
   refine .step ih ?_ hs
   obtain ⟨i,hi,he,rfl⟩:=esB_nbr hn
   exact oth_nbr (atP_mem.2 ⟨hB i hi,he⟩)
section
variable {g:Gr} (hg:GoodE g)
include hg
theorem BlkOk.ring_in {B:List Nat} (h:BlkOk g.es B) {i j:Nat} (hi:i∈B) (hj:j < g.es.length) {w:Int} (hr:RingAt g.es w (eAt g.es i) (eAt g.es j)):RIn (esB g.es B) (·≠w) (oth (eAt g.es i) w) (oth (eAt g.es j) w):=by
 obtain ⟨h1,h2,h3⟩:=hr
 have hjB:j∈B:=h.all i hi j hj ⟨w,h1,h2,h3⟩
 have hpw:oth (eAt g.es i) w≠w:=eAt_ne hg (atP_mem.2 ⟨h.lt i hi,h1⟩)
 have hqw:oth (eAt g.es j) w≠w:=eAt_ne hg (atP_mem.2 ⟨hj,h2⟩)
 rcases last_exit (S:=fun t=>RIn (esB g.es B) (·≠w) (oth (eAt g.es i) w) t) (.refl hpw) h3 with k | ⟨z,z',k1,k2,k3⟩
 ·exact k
 exfalso
 have hzw:z≠w:=k1.here.2
 obtain ⟨l,hl,he⟩:=nbr_atP k2
 have hll:=atP_mem.1 hl
 -- from behind the edge to w, without z
 have back:RIn g.es (·≠z) z' w:=by
  have a:=k3.mono (S':=(·≠z)) fun t ht e=>ht.2 (by rw [e];exact k1)
  refine .step a (nbr_symm (oth_nbr (atP_mem.2 ⟨hj,h2⟩))) fun e=>hzw e.symm
 have hin:l∈B:=by
  by_cases ez:z=oth (eAt g.es i) w
  ·refine h.all i hi l hll.1 ⟨z,by rw [ez];exact oth_end _ _,hll.2,?_⟩
   rw [he,ez,oth_oth h1,← ez]
   exact back.symm
  ·rcases first_arr ez k1 with k | ⟨y',k4,k5⟩
   ·exact absurd rfl k.here.2.2
   ·obtain ⟨o,ho,hoe,hoz⟩:=esB_nbr k4
    refine h.all o ho l hll.1 ⟨z,by rw [← hoz];exact oth_end _ _,hll.2,?_⟩
    rw [he,← hoz,oth_oth hoe,hoz]
    have a:RIn g.es (·≠z) (oth (eAt g.es i) w) y':=(k5.mono (S':=(·≠z)) fun t ht=>ht.2).up h.lt
    have b:RIn g.es (·≠z) w (oth (eAt g.es i) w):=.step (.refl fun e=>hzw e.symm) (oth_nbr (atP_mem.2 ⟨h.lt i hi,h1⟩)) fun e=>ez e.symm
    exact ((back.trans b).trans a).symm
 have:RIn (esB g.es B) (·≠w) (oth (eAt g.es i) w) z':=.step k1 (by rw [← he];exact nbr_esB hin hll.2) k3.here.1.1
 exact k3.here.1.2 this
theorem BlkOk.con {B:List Nat} (h:BlkOk g.es B) (v:Int) {i j:Nat} (hi:i∈B) (hr:RelB g.es i j):∀ p q,((eAt g.es i).a=p∨(eAt g.es i).b=p)→((eAt g.es j).a=q∨(eAt g.es j).b=q)→p≠v→q≠v→RIn (esB g.es B) (·≠v) p q:=by
 have one:∀ k∈B,∀ p q,((eAt g.es k).a=p∨(eAt g.es k).b=p)→((eAt g.es k).a=q∨(eAt g.es k).b=q)→p≠v→q≠v→RIn (esB g.es B) (·≠v) p q:=fun k hk p q h1 h2 hp hq=>by
  rcases (ends_oth h1 q).1 h2 with e | e
  ·rw [e];exact .refl hp
  ·exact .step (.refl hp) (by rw [e];exact nbr_esB hk h1) hq
 induction hr with
 | refl=>exact one i hi
 | @step j k hr hjl hk hre ih=>
   intro p q hp hq hpv hqv
   have hj:j∈B:=(h.iff hi).2 hr
   have hkB:k∈B:=h.all j hj k hk hre
   obtain ⟨w,w1,w2,w3⟩:=hre
   by_cases e:v=w
   ·subst e
    have h1:=ih p (oth (eAt g.es j) v) hp (oth_end _ _) hpv (eAt_ne hg (atP_mem.2 ⟨hjl,w1⟩))
    have h2:=h.ring_in hg hj hk ⟨w1,w2,w3⟩
    rcases (ends_oth w2 q).1 hq with e | e
    ·exact absurd e hqv
    ·rw [e];exact h1.trans h2
   ·exact (ih p w hp w1 hpv fun x=>e x.symm).trans (one k hkB w q w2 hq (fun x=>e x.symm) hqv)
omit hg in
theorem BlkOk.eq {B B':List Nat} (h:BlkOk g.es B) (h':BlkOk g.es B') {j:Nat} (hj:j∈B) (hj':j∈B'):B=B':=by
 have hn:B.Nodup:=h.rise.imp fun k=>Nat.ne_of_lt k
 have hn':B'.Nodup:=h'.rise.imp fun k=>Nat.ne_of_lt k
 have hp:B.Perm B':=(List.perm_ext_iff_of_nodup hn hn').2 fun k=>by rw [h.iff hj,h'.iff hj']
 exact hp.eq_of_pairwise (fun a b _ _ h1 h2=>absurd h1 (by omega)) h.rise h'.rise
theorem BlkOk.apart {B B':List Nat} (h:BlkOk g.es B) (h':BlkOk g.es B') (hne:B≠B') {v w:Int} (hv:∃ i∈B,(eAt g.es i).a=v∨(eAt g.es i).b=v) (hv':∃ i∈B',(eAt g.es i).a=v∨(eAt g.es i).b=v)
 (hw:∃ i∈B,(eAt g.es i).a=w∨(eAt g.es i).b=w) (hw':∃ i∈B',(eAt g.es i).a=w∨(eAt g.es i).b=w):v=w:=by
 refine Classical.byContradiction fun e=>?_
 have e:w≠v:=fun k=>e k.symm
 obtain ⟨i,hi,iv⟩:=hv
 obtain ⟨j,hj,jv⟩:=hv'
 obtain ⟨k,hk,kw⟩:=hw
 obtain ⟨l,hl,lw⟩:=hw'
 have a:=(h.con hg v hi (h.rel i hi k hk) _ w (oth_end _ v) kw (eAt_ne hg (atP_mem.2 ⟨h.lt i hi,iv⟩)) e).up h.lt
 have b:=(h'.con hg v hj (h'.rel j hj l hl) _ w (oth_end _ v) lw (eAt_ne hg (atP_mem.2 ⟨h'.lt j hj,jv⟩)) e).up h'.lt
 exact hne (h.eq h' (h.all i hi j (h'.lt j hj) ⟨v,iv,jv,a.trans b.symm⟩) hj)
end
noncomputable def clsB (es:List Ed) (i:Nat):List Nat:=(List.range es.length).filter fun j=>@decide (RelB es i j) (Classical.propDecidable _)
theorem clsB_mem {es:List Ed} {i j:Nat}:j∈clsB es i↔j < es.length∧RelB es i j:=by
 unfold clsB;rw [List.mem_filter,List.mem_range,@decide_eq_true_iff _ (Classical.propDecidable _)]
theorem clsB_rise (es:List Ed) (i:Nat):(clsB es i).Pairwise (· < ·):=List.Pairwise.filter _ List.pairwise_lt_range
noncomputable def ledB (es:List Ed):List (List Nat):=((List.range es.length).filter fun i=>decide ((clsB es i).headD 0=i)).map (clsB es)
theorem head_mem {l:List Nat} (h:l≠[]):l.headD 0∈l:=by
 cases l with
 | nil=>exact absurd rfl h
 | cons a l=>simp
theorem BlkOk.cls {es:List Ed} {B:List Nat} (h:BlkOk es B) {i:Nat} (hi:i∈B):B=clsB es i:=by
 have hn:B.Nodup:=h.rise.imp fun k=>Nat.ne_of_lt k
 have hn':(clsB es i).Nodup:=(clsB_rise es i).imp fun k=>Nat.ne_of_lt k
 have hp:B.Perm (clsB es i):=(List.perm_ext_iff_of_nodup hn hn').2 fun k=>by rw [clsB_mem,← h.iff hi];exact ⟨fun q=>⟨h.lt k q,q⟩,fun q=>q.2⟩
 exact hp.eq_of_pairwise (fun a b _ _ h1 h2=>absurd h1 (by omega)) h.rise (clsB_rise es i)
theorem blocks_led {es:List Ed} {out B:List (List Nat)} (hall:∀ i,i∈out.flatten↔i < es.length) (hok:∀ B∈out,BlkOk es B) (hp:B.Perm out) (hr:B.Pairwise fun x y=>x.headD 0 < y.headD 0):B=ledB es:=by
 have hmem:∀ b,b∈B↔b∈ledB es:=fun b=>by
  unfold ledB
  rw [hp.mem_iff,List.mem_map]
  constructor
  ·intro hb
   have ho:=hok b hb
   have hh:=head_mem ho.ne
   have hc:=ho.cls hh
   refine ⟨b.headD 0,?_,hc.symm⟩
   rw [List.mem_filter,List.mem_range,decide_eq_true_iff,← hc]
   exact ⟨ho.lt _ hh,rfl⟩
  ·rintro ⟨i,hi,rfl⟩
   rw [List.mem_filter,List.mem_range,decide_eq_true_iff] at hi
   obtain ⟨b,hb,hib⟩:=List.mem_flatten.1 ((hall i).2 hi.1)
   rw [← (hok b hb).cls hib]
   exact hb
 have hl:(ledB es).Pairwise fun x y=>x.headD 0 < y.headD 0:=by
  unfold ledB
  rw [List.pairwise_map]
  refine (List.Pairwise.filter (fun i=>decide ((clsB es i).headD 0=i)) (List.pairwise_lt_range (n:=es.length))).imp_of_mem ?_
  intro a b ha hb hab
  rw [List.mem_filter,decide_eq_true_iff] at ha hb
  rw [ha.2,hb.2]
  exact hab
 have hpp:B.Perm (ledB es):=(List.perm_ext_iff_of_nodup (hr.imp fun k e=>by rw [e] at k;omega) (hl.imp fun k e=>by rw [e] at k;omega)).2 hmem
 exact hpp.eq_of_pairwise (fun a b _ _ h1 h2=>absurd h1 (by omega)) hr hl
end Go.Proofs.YtkcokoefodgigaaGreat.Aw
namespace Go.Proofs.YtkcokoefodgigaaGreat.Aw
open Go Go.RowKit Go.Proofs.YtkcokoefodgigaaGreat.Pl
set_option linter.unusedSimpArgs false
set_option linter.unusedVariables false
theorem getDE (l:List Ed) (j:Nat) (hj:j < l.length):l.getD j ed0=l[j]:=by
 rw [List.getD_eq_getElem?_getD,List.getElem?_eq_getElem hj];rfl
theorem eds_append (a b:List Ed):eds (a++b)=eds a++eds b:=by simp [eds]
theorem eds_tk (l:List Ed) (k:Nat):(eds l).take (k * 3)=eds (l.take k):=by
 induction l generalizing k with
 | nil=>simp [eds]
 | cons x l ih=>
   cases k with
   | zero=>simp [eds]
   | succ k=>
     rw [show (k+1) * 3=k * 3+1+1+1 by omega]
     simp only [eds,List.flatMap_cons,edL,List.cons_append,List.nil_append,List.take_succ_cons]
     have:=ih k
     simp only [eds,edL] at this
     rw [this]
theorem eds_dr (l:List Ed) (k:Nat):(eds l).drop (k * 3)=eds (l.drop k):=by
 induction l generalizing k with
 | nil=>simp [eds]
 | cons x l ih=>
   cases k with
   | zero=>simp [eds]
   | succ k=>
     rw [show (k+1) * 3=k * 3+1+1+1 by omega]
     simp only [eds,List.flatMap_cons,edL,List.cons_append,List.nil_append,List.drop_succ_cons]
     have:=ih k
     simpa only [eds,edL] using this
theorem eds_set (l:List Ed) (k:Nat) (x:Ed) (hk:k < l.length):(eds l).take (k * 3)++(u x.id::u x.a::u x.b::(eds l).drop (k * 3+3))=eds (l.set k x):=by
 rw [show k * 3+3=(k+1) * 3 by omega,eds_tk,eds_dr,List.set_eq_take_append_cons_drop,if_pos hk,eds_append]
 rfl
def be (st:St) (q:Nat) (c:List Ed):St:=st.set q (.box 34 3 (eds c))
@[simp] theorem be_next (st:St) (q:Nat) (c:List Ed):(be st q c).next=st.next:=rfl
@[simp] theorem be_H (st:St) (q:Nat) (c:List Ed):(be st q c).H q=.box 34 3 (eds c):=by simp [be]
theorem be_ne (st:St) (q l:Nat) (c:List Ed) (h:l≠q):(be st q c).H l=st.H l:=by simp [be,h]
theorem be_be (st:St) (q:Nat) (c d:List Ed):be (be st q c) q d=be st q d:=by unfold be;exact St.set_set _ _ _ _
theorem be_self {st:St} {q:Nat} {c:List Ed} (h:st.H q=.box 34 3 (eds c)):be st q c=st:=St.ext' rfl fun y=>by
 by_cases hy:y=q
 ·subst hy;rw [be_H,h]
 ·rw [be_ne _ _ _ _ hy]
theorem be_set (st:St) (q:Nat) (c:List Ed) (k:Nat) (x:Ed) (hk:k < c.length):(be st q c).set q (.box 34 3 ((eds c).take (k * 3)++(u x.id::u x.a::u x.b::(eds c).drop (k * 3+3))))=be st q (c.set k x):=by
 rw [eds_set _ _ _ hk];unfold be;exact St.set_set _ _ _ _
theorem be_put (st:St) (q:Nat) (c d:List Ed):(be st q c).set q (.box 34 3 (eds d))=be st q d:=by unfold be;exact St.set_set _ _ _ _
def swR (c:List Ed) (a b:Nat):Nat→List Ed
 | 0=>c
 | n+1=>swR ((c.set a (c.getD b ed0)).set b (c.getD a ed0)) (a+1) (b+1) n
theorem set_mid (U:List Ed) (x y:Ed) (W:List Ed):(U++x::W).set U.length y=U++y::W:=by
 rw [List.set_append_right _ _ (Nat.le_refl _)];simp
theorem getD_mid (U:List Ed) (x:Ed) (W:List Ed):(U++x::W).getD U.length ed0=x:=by
 rw [List.getD_eq_getElem?_getD,List.getElem?_append_right (Nat.le_refl _)];simp
theorem swR_blocks:∀ (n:Nat) (U A M B V:List Ed),A.length=n→B.length=n→swR (U++A++M++B++V) U.length (U.length+n+M.length) n=U++B++M++A++V
 | 0,U,A,M,B,V,hA,hB=>by
   rw [List.eq_nil_of_length_eq_zero hA,List.eq_nil_of_length_eq_zero hB];rfl
 | n+1,U,x::A,M,y::B,V,hA,hB=>by
   simp only [List.length_cons,Nat.add_right_cancel_iff] at hA hB
   rw [swR]
   have e1:U++x::A++M++y::B++V=U++x::(A++M++y::B++V):=by simp
   have e2:U++x::(A++M++y::B++V)=(U++x::A++M)++y::(B++V):=by simp
   have l2:U.length+(n+1)+M.length=(U++x::A++M).length:=by simp [hA];omega
   have g1:(U++x::A++M++y::B++V).getD U.length ed0=x:=by rw [e1,getD_mid]
   have g2:(U++x::A++M++y::B++V).getD (U.length+(n+1)+M.length) ed0=y:=by rw [e1,e2,l2,getD_mid]
   rw [g1,g2,e1,set_mid]
   have e3:U++y::(A++M++y::B++V)=(U++y::A++M)++y::(B++V):=by simp
   have l3:U.length+(n+1)+M.length=(U++y::A++M).length:=by simp [hA];omega
   rw [e3,l3,set_mid,← l3]
   have e4:U++y::A++M++x::(B++V)=(U++[y])++A++(M++[x])++B++V:=by simp
   have l4:U.length+(n+1)+M.length+1=(U++[y]).length+n+(M++[x]).length:=by simp;omega
   have l5:U.length+1=(U++[y]).length:=by simp
   rw [e4,l4,l5,swR_blocks n (U++[y]) A (M++[x]) B V hA hB]
   simp
theorem wrap_s (n:Int) (h0 : -9223372036854775808≤n) (h1:n≤9223372036854775807):IntKind.i64.wrap n=n:=by
 simp only [IntKind.wrap,IntKind.signed,IntKind.bits]
 simp
 split<;>omega
theorem swapRange (c:List Ed) (q a b n:Nat) (F:Fn) (caps:List LV) (st:St) (hc:c.length≤100000) (hab:a+n≤b) (hb:b+n≤c.length) (hH:st.H q=.box 34 3 (eds c)):
 ACalls Tryz.prog 109 [.ms q 0 c.length,i a,i b,i n,.fn F caps] st fun r st'=>st'=be st q (swR c a b n):=by
 refine qO tabOk Tryz.func109 rfl rfl Tryz.ntmps109 (rs:=[]) rfl (by simp) ?_
 (repeat' (first | refine qS ?_ | refine qB ?_ | (refine w_e [] ?_;intro J hJ;simp only [];simp [];(refine hJ _ _ ?_;clear hJ J;simp only [ak,reduceIte]))))
 refine qL (fun z fr st2=>∃ (k:Nat) (d:List Ed),k≤n∧z=n - k∧fr 0=.ms q 0 c.length∧fr 1=i a∧fr 2=i b∧fr 3=i n∧fr 10=i k∧st2=be st q d∧d.length=c.length∧swR d (a+k) (b+k) (n - k)=swR c a b n) n ?_ ?_
 ·exact ⟨0,c,by omega,by omega,by simp,by simp,by simp,by simp,by simp,(be_self hH).symm,rfl,rfl⟩
 rintro z fr st2 ⟨k,d,hk,rfl,f0,f1,f2,f3,f10,rfl,hdl,hsw⟩ JJ hJJ
 by_cases hlt:k < n
 rotate_left
 ·clear hJJ
  obtain rfl:k=n:=by omega
  rw [Nat.sub_self] at hsw
  (repeat' (first | refine qS ?_ | (refine qX ?_;simp only [ak,reduceIte]) | (refine qC ?_;simp [f3,f10]) | (refine w_e [] ?_;intro J hJ;simp only [];simp [f3,f10];(refine hJ _ _ ?_;clear hJ J;simp only [ak,reduceIte]))))
  simp
  rw [← hsw];rfl
 have hw:=wrap_s ((k:Int)+1) (by omega) (by omega)
 have wa:IntKind.i64.wrap ((a:Int)+k)=((a+k:Nat):Int):=by rw [wrap_s _ (by omega) (by omega)];omega
 have wb:IntKind.i64.wrap ((b:Int)+k)=((b+k:Nat):Int):=by rw [wrap_s _ (by omega) (by omega)];omega
 have hel:=eds_length d
 have da:=eds_drop d (a+k) (by omega)
 have db:=eds_drop d (b+k) (by omega)
 have hsn:swR ((d.set (a+k) (d.getD (b+k) ed0)).set (b+k) (d.getD (a+k) ed0)) (a+(k+1)) (b+(k+1)) (n - (k+1))=swR c a b n:=by
  rw [← hsw,show n - k=(n - (k+1))+1 by omega,swR];rfl
 have s1:=fun x=>be_set st q d (a+k) x (by omega)
 have s2:=fun x y=>be_set st q (d.set (a+k) y) (b+k) x (by simp;omega)
 generalize ha:a+k=pa at *
 generalize hbk:b+k=pb at *
 have hne:¬ pa=pb:=by omega
 generalize hxe:d.getD pa ed0=x at *
 generalize hye:d.getD pb ed0=y at *
 have hA3:pa * 3+3≤d.length * 3:=by omega
 have hB3:pb * 3+3≤d.length * 3:=by omega
 have hA4:pa < d.length:=by omega
 have hB4:pb < d.length:=by omega
 obtain ⟨xi,xa,xb⟩:=x
 obtain ⟨yi,ya,yb⟩:=y
 have s1':=s1 ⟨yi,ya,yb⟩
 have s2':=s2 ⟨xi,xa,xb⟩ ⟨yi,ya,yb⟩
 simp only at da db s1' s2'
 have hel2:=eds_length (d.set pa ⟨yi,ya,yb⟩)
 rw [List.length_set] at hel2
 (repeat' (first | refine qS ?_ | refine qB ?_ | (refine qK ?_;simp only [ak,reduceIte]) | (refine qC ?_;simp [f0,f1,f2,f3,f10,hlt]) | (refine w_e [] ?_;intro J hJ;simp only [];simp [f0,f1,f2,f3,f10,hlt];(refine hJ _ _ ?_;clear hJ J;simp only [ak,reduceIte]))))
 (refine w_s [] [q] [(0,true),(1,true),(2,true),(3,true),(4,true),(5,true),(6,true),(7,true),(8,true),(9,true),(10,true),(11,true),(12,true),(13,true),(14,true),(15,true),(16,true),(17,true),(18,true),(19,true),(20,true),(21,false),(22,true),(23,false)] ?_;intro J hJ;simp [f0,f1,f2,f10,wa,wb,hdl,da,db,hel];(repeat refine ca ?_);(refine hJ _ _ ?_;clear hJ J;simp only [ak,reduceIte]))
 have e1:=eds_set d pa ⟨yi,ya,yb⟩ hA4
 simp only at e1
 rw [e1,be_put,s2']
 (repeat' (refine w_e [] ?_;intro J hJ;simp only [];simp [f10,hw];(refine hJ _ _ ?_;clear hJ J;simp only [ak,reduceIte])))
 exact hJJ (n - (k+1)) _ _ (by omega) ⟨k+1,_,by omega,rfl,by simp [f0],by simp [f1],by simp [f2],by simp [f3],by simp,rfl,by simp [hdl],hsn⟩
theorem rotate (P X Y S:List Ed) (q:Nat) (F:Fn) (caps:List LV) (st:St) (hX:X≠[]) (hY:Y≠[]) (hl:(P++X++Y++S).length≤100000) (hH:st.H q=.box 34 3 (eds (P++X++Y++S))):
 ACalls Tryz.prog 101 [.ms q 0 (P++X++Y++S).length,i P.length,i (P.length+X.length:Nat),i (P.length+X.length+Y.length:Nat),.fn F caps] st fun r st'=>st'=be st q (P++Y++X++S):=by
 generalize hL:(P++X++Y++S).length=L at *
 have hLl:L=P.length+X.length+Y.length+S.length:=by rw [← hL];simp only [List.length_append]
 generalize hm:P.length+X.length=m at *
 have hX0:0 < X.length:=List.length_pos_iff.2 hX
 have hY0:0 < Y.length:=List.length_pos_iff.2 hY
 refine qO tabOk Tryz.func101 rfl rfl Tryz.ntmps101 (rs:=[]) rfl (by simp) ?_
 have w1:IntKind.i64.wrap ((m:Int) - P.length)=(X.length:Int):=by rw [wrap_s _ (by omega) (by omega)];omega
 have w2:IntKind.i64.wrap ((m:Int)+Y.length - m)=(Y.length:Int):=by rw [wrap_s _ (by omega) (by omega)];omega
 (repeat' (first | refine qS ?_ | refine qB ?_ | (refine w_e [] ?_;intro J hJ;simp only [];simp [w1,w2];(refine hJ _ _ ?_;clear hJ J;simp only [ak,reduceIte]))))
 refine qL (fun z fr st2=>∃ U A B V:List Ed,z=A.length+B.length∧(A≠[]∧B≠[])∧U.length+A.length=m∧U++B++A++V=P++Y++X++S∧(U++A++B++V).length=L∧st2=be st q (U++A++B++V)∧fr 0=.ms q 0 L∧fr 2=i m∧fr 4=.fn F caps∧fr 10=i A.length∧fr 11=i B.length) (X.length+Y.length) ?_ ?_
 ·exact ⟨P,X,Y,S,rfl,⟨hX,hY⟩,hm,rfl,hL,(be_self hH).symm,by simp,by simp,by simp,by simp,by simp⟩
 rintro z fr st2 ⟨U,A,B,V,rfl,⟨hA,hB⟩,hUm,htg,hcl,rfl,f0,f2,f4,f10,f11⟩ JJ hJJ
 have hA0:0 < A.length:=List.length_pos_iff.2 hA
 have hB0:0 < B.length:=List.length_pos_iff.2 hB
 have hcl':L=U.length+A.length+B.length+V.length:=by rw [← hcl];simp only [List.length_append]
 have wa:IntKind.i64.wrap ((m:Int) - A.length)=(U.length:Int):=by rw [wrap_s _ (by omega) (by omega)];omega
 by_cases hEq:A.length=B.length
 ·clear hJJ
  have hcall:=swapRange (U++A++B++V) q U.length m A.length F caps (be st q (U++A++B++V)) (by omega) (by omega) (by omega) (by simp)
  have hsw:=swR_blocks A.length U A [] B V rfl hEq.symm
  simp only [List.length_nil,Nat.add_zero,List.append_nil] at hsw
  rw [hcl,← hUm,hsw,hUm,be_be,htg] at hcall
  generalize U++A++B++V=c0 at *
  generalize P++Y++X++S=c1 at *
  have wa':=wa
  rw [hEq] at wa'
  (repeat' (first | refine qS ?_ | (refine qX ?_;simp only [ak,reduceIte]) | (refine qC ?_;simp [f0,f2,f4,f10,f11,hEq,wa,wa']) | (refine w_e [] ?_;intro J hJ;simp only [];simp [f0,f2,f4,f10,f11,hEq,wa,wa'];(try (refine hJ _ _ ?_;clear hJ J;simp only [ak,reduceIte])))))
  refine qE hcall (by simp [hEq]) ?_;rintro r s3 rfl
  (repeat' (refine e_go ?_;simp [];(refine hJ _ _ ?_;clear hJ J;simp only [ak,reduceIte])))
  simp
 ·have hEq':¬ (A.length:Int)=B.length:=by omega
  by_cases hgt:B.length < A.length
  ·have hA1:(A.take B.length).length=B.length:=by simp;omega
   have hAd:A.take B.length++A.drop B.length=A:=List.take_append_drop _ _
   have hA2:(A.drop B.length).length=A.length - B.length:=by simp
   generalize A.take B.length=A1 at *
   generalize A.drop B.length=A2 at *
   have hcall:=swapRange (U++A++B++V) q U.length m B.length F caps (be st q (U++A++B++V)) (by omega) (by omega) (by omega) (by simp)
   have hsw:=swR_blocks B.length U A1 A2 B V hA1 rfl
   have e1:U++A1++A2++B++V=U++A++B++V:=by rw [← hAd];simp
   have e2:U.length+B.length+A2.length=m:=by omega
   rw [e1,e2] at hsw
   rw [hcl,hsw,be_be] at hcall
   have hgt':(B.length:Int) < A.length:=by omega
   have wb:IntKind.i64.wrap ((A.length:Int) - B.length)=(A2.length:Int):=by rw [wrap_s _ (by omega) (by omega)];omega
   generalize U++A++B++V=c0 at *
   generalize hc1:U++B++A2++A1++V=c1 at hcall
   (repeat' (first | refine qS ?_ | refine qB ?_ | (refine qK ?_;simp only [ak,reduceIte]) | (refine qC ?_;simp [f0,f2,f4,f10,f11,hEq',hgt',hEq,hgt,wa,wb]) | (refine w_e [] ?_;intro J hJ;simp only [];simp [f0,f2,f4,f10,f11,hEq',hgt',hEq,hgt,wa,wb];(try (refine hJ _ _ ?_;clear hJ J;simp only [ak,reduceIte])))))
   refine qE hcall (by simp) ?_;rintro r s3 rfl
   (repeat' ((first | (refine w_e [] ?_;intro J hJ;simp only []) | (refine e_go ?_));simp [f10,f11,wb];(refine hJ _ _ ?_;clear hJ J;simp only [ak,reduceIte])))
   refine hJJ (A2.length+A1.length) _ _ (by omega) ⟨U++B,A2,A1,V,rfl,⟨?_,?_⟩,by simp;omega,?_,?_,by rw [hc1],by simp [f0],by simp [f2],by simp [f4],by simp,by simp [f11,hA1]⟩
   ·rintro rfl;simp at hA2;omega
   ·rintro rfl;simp at hA1;omega
   ·rw [← htg,← hAd];simp
   ·simp only [List.length_append];omega
  ·have hB1:(B.take (B.length - A.length)).length=B.length - A.length:=by simp
   have hBd:B.take (B.length - A.length)++B.drop (B.length - A.length)=B:=List.take_append_drop _ _
   have hB2:(B.drop (B.length - A.length)).length=A.length:=by simp;omega
   generalize B.take (B.length - A.length)=B1 at *
   generalize B.drop (B.length - A.length)=B2 at *
   have hcall:=swapRange (U++A++B++V) q U.length (m+B1.length) A.length F caps (be st q (U++A++B++V)) (by omega) (by omega) (by omega) (by simp)
   have hsw:=swR_blocks A.length U A B1 B2 V rfl hB2
   have e1:U++A++B1++B2++V=U++A++B++V:=by rw [← hBd];simp
   have e2:U.length+A.length+B1.length=m+B1.length:=by omega
   rw [e1,e2] at hsw
   rw [hcl,hsw,be_be] at hcall
   have hgt':¬ (B.length:Int) < A.length:=by omega
   have wb:IntKind.i64.wrap ((B.length:Int) - A.length)=(B1.length:Int):=by rw [wrap_s _ (by omega) (by omega)];omega
   have wc:IntKind.i64.wrap ((m:Int)+B.length)=(m:Int)+B.length:=wrap_s _ (by omega) (by omega)
   have wd:IntKind.i64.wrap ((m:Int)+B.length - A.length)=((m+B1.length:Nat):Int):=by rw [wrap_s _ (by omega) (by omega)];omega
   generalize U++A++B++V=c0 at *
   generalize hc1:U++B2++B1++A++V=c1 at hcall
   (repeat' (first | refine qS ?_ | refine qB ?_ | (refine qK ?_;simp only [ak,reduceIte]) | (refine qC ?_;simp [f0,f2,f4,f10,f11,hEq',hgt',hEq,hgt,wa,wc,wd]) | (refine w_e [] ?_;intro J hJ;simp only [];simp [f0,f2,f4,f10,f11,hEq',hgt',hEq,hgt,wa,wc,wd];(try (refine hJ _ _ ?_;clear hJ J;simp only [ak,reduceIte])))))
   refine qE hcall (by simp) ?_;rintro r s3 rfl
   (repeat' ((first | (refine w_e [] ?_;intro J hJ;simp only []) | (refine e_go ?_));simp [f10,f11,wb];(refine hJ _ _ ?_;clear hJ J;simp only [ak,reduceIte])))
   refine hJJ (B2.length+B1.length) _ _ (by omega) ⟨U,B2,B1,A++V,rfl,⟨?_,?_⟩,by omega,?_,?_,by rw [← hc1,List.append_assoc _ A V],by simp [f0],by simp [f2],by simp [f4],by simp [f10,hB2],by simp⟩
   ·rintro rfl;simp at hB2;omega
   ·rintro rfl;simp at hB1;omega
   ·rw [← htg,← hBd];simp
   ·simp only [List.length_append];omega
end Go.Proofs.YtkcokoefodgigaaGreat.Aw
