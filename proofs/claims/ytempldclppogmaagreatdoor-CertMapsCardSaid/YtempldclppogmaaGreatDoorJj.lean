/- plane: round; sorted keys. -/
import Derived.Test.YtempldclppogmaaGreatDoorJi
import Derived.Test.YtempldclppogmaaGreatDoorAwGo
import Derived.Test.YtempldclppogmaaGreatDoorAwTd
set_option linter.unusedVariables false
set_option linter.unusedSimpArgs false
set_option linter.unusedSectionVars false
namespace Go.Proofs.YtempldclppogmaaGreatDoor.Aw
open Go Go.RowKit Go.Proofs.YtempldclppogmaaGreatDoor.Pl
attribute [local simp] aBh aOu aHs aMQ kT lW kZ
def tQ:List (Int×Int)→Int→Int
 |[],_=>0
 |p::P,x=>if p.1=x then p.2 else tQ P x
theorem aAY(x:Int):∀ P:List (Int×Int),(aY (inL P) [x]).getD (u 0)=u (tQ P x)
 |[]=>rfl
 |p::P=>by
  have ih:=aAY x P
  unfold tQ
  simp only[inL,List.map_cons,aY]at ih ⊢
  by_cases h:p.1=x
  ·rw[if_pos h,if_pos (by simp[h])];rfl
  ·rw[if_neg h,if_neg (by simpa using fun e=>h e.symm)];exact ih
theorem aCs(P:List (Int×Int)):pK (inL P)=P.map (·.1):=by
 induction P with
 |nil=>rfl
 |cons p P ih=>simp only[inL,List.map_cons,pK]at ih ⊢;rw[ih];rfl
def goR(P:List (Int×Int))(first:Int):Nat→Int→List Int
 |0,_=>[]
 |n+1,x=>x::(if tQ P x≠first∧0<n then goR P first n (tQ P x)else [])
def eT(P:List (Int×Int)):List Int:=goR P (mn (P.map (·.1))) P.length (mn (P.map (·.1)))
theorem aPq(m:Nat)(st:St):aB Tryz.prog 82 [.mp m] st fun r st'=>r=.fn (.func 123) [.pt st.next 0]∧st'=st.new (.box 60 1 [.mp m]):=by
 refine qO aF Tryz.func82 rfl rfl Tryz.ntmps82 (rs:=[.tmp 2]) rfl sS ?_
 (repeat' (first|refine qS ?_|(refine qR (zZ ?_);simp[])|(refine w_e [] ?_;intro J hJ;simp only[];simp[];refine hJ _ _ (zZ ?_))))
theorem aQi(m:Nat)(st:St):aB Tryz.prog 47 [.mp m] st fun r st'=>r=.fn (.func 80) [.pt st.next 0]∧st'=st.new (.box 80 1 [.mp m]):=by
 refine qO aF Tryz.func47 rfl rfl Tryz.ntmps47 (rs:=[.tmp 2]) rfl sS ?_
 (repeat' (first|refine qS ?_|(refine qR (zZ ?_);simp[])|(refine w_e [] ?_;intro J hJ;simp only[];simp[];refine hJ _ _ (zZ ?_))))
theorem aLl{a b:List Int}(h:a.Perm b)(h0:a≠[]):mn a=mn b:=
 (aFB (h.mem_iff.1 (qY h0)) fun x hx=>aFI (h.mem_iff.2 hx)).symm
def RoI(P:List (Int×Int))(m:Nat)(st:St)(n:Nat)(fr:Frm)(s:St):Prop:=∃(turn:List Int) (x:Int) (t:Nat),n+turn.length=P.length∧0<n∧turn++goR P (mn (P.map (·.1))) n x=eT P∧fr 0=.mp m∧fr 3=.sl t turn.length (us turn)∧fr 4=u (mn (P.map (·.1)))∧fr 5=u x∧aAH t 34 1 turn.length st s∧aA st s
theorem aEt{P:Program}{N:Nat}{Q:AQ}{c:Code}{fr:Frm}{st:St}(I:Frm→St→Prop)(h0:I fr st)(h:∀ fr st,I fr st→AWp P N c Q fr st):AWp P N c Q fr st:=h _ _ h0
set_option maxHeartbeats 2000000 in
theorem aOT(P:List (Int×Int))(m:Nat)(st:St)(hP:P≠[])(hl:P.length≤1000)(hm:st.H m=.map false [.u32] (inL P))(hml:m<st.next):
 aB Tryz.prog 48 [.mp m] st fun r st'=>r=.sl 0 (eT P).length (us (eT P))∧st'=st:=by
 refine qT (Q:=fun r=>r=.sl 0 (eT P).length (us (eT P))) (cQ ?_) fun r h=>by subst h;exact⟨.inl rfl,uO _ _⟩
 have hil:(inL P).length=P.length:=by simp[inL]
 refine qO aF Tryz.func48 rfl rfl Tryz.ntmps48 (rs:=[.tmp 2]) rfl sS ?_
 (repeat' (first|refine qS ?_|(refine w_e [] ?_;intro J hJ;simp only[];simp[];refine hJ _ _ (zZ ?_))))
 refine wI _ 0 (fun n fr s=>RoI P m st n fr s) rfl ?_ ?_
 ·refine cG fun hpos=>?_
  (repeat' (first|refine qS ?_|(refine w_e [] ?_;intro J hJ;simp only[];simp[];(try refine hJ _ _ (zZ ?_)))))
  refine qE (aPq m _) sS ?_;rintro r s1 ⟨rfl,e1⟩
  rw[e1];clear e1 s1
  (repeat' (refine aE ?_;simp[]))
  refine qE (aEF m st.next (inL P) _ oO sS (by rw[bI,if_neg oO];exact hm)) sS ?_;rintro r s1 ⟨ys,hys,rfl,e1⟩
  rw[e1];clear e1 s1
  have hyl:ys.length=P.length:=by rw[hys.length_eq,aCs,List.length_map]
  have hy0:ys≠[]:=fun e=>hP (List.length_eq_zero_iff.1 (by rw[← hyl,e];rfl))
  have hmn:mn ys=mn (P.map (·.1)):=aLl (by rw[← aCs];exact hys) hy0
  have hmin:=rT (P:=Tryz.prog) (pre:=[]) (post:=[]) (l:=st.next+1) (n:=ys.length) (e:=34) (s:=1) (cs:=us ys) (st:=(st.new (.box 60 1 [.mp m])).new (.box 34 1 (us ys))) (f:=81) sS sS (by rw[List.take_of_length_le sS];exact Min ys 0 _ (by unfold small;omega) hy0)
  rw[hmn]at hmin
  (repeat' (refine aE ?_;simp[]))
  refine qE hmin sS ?_;rintro r s1 ⟨rfl,e1⟩
  rw[e1];clear e1 s1 hmin
  have hPl:0<P.length:=List.length_pos_iff.2 hP
  (repeat' (first|refine qS ?_|((first|(refine w_e [] ?_;intro J hJ;simp only[])|(refine aE ?_));simp[];refine hJ _ _ (zZ ?_))))
  refine aAl ?_
  simp only[ak]
  refine dW 3 34 1 sS ?_
  refine aEt (RoI P m st P.length) ?_ ?_
  ·exact⟨[],_,st.next+1+1,sS,hPl,rfl,sS,sS,sS,sS,⟨oO,oO,sS,sS⟩,(((aA.new _ _).trans (aA.new _ _)).set oO _).trans (aA.new _ _)⟩
  obtain⟨n,hn⟩:∃ n,n=P.length:=⟨_,rfl⟩
  rw[← hn]
  have hJG:∀ n' fr' s',n' < n→RoI P m st n' fr' s'→∃ n,RoI P m st n fr' s':=fun n' _ _ _ h=>⟨n',h⟩
  rintro fr s ⟨turn,x,t,h1,h2,h3,f0,f3,f4,f5,⟨t0,t1,t2,tH⟩,hk⟩
  have hmH:=(hk.H m hml).trans hm
  have hg:=aAY x P
  obtain⟨n,rfl⟩:∃ k,n=k+1:=⟨n-1,oO⟩
  have h4:goR P (mn (P.map (·.1))) (n+1) x=x::(if tQ P x≠mn (P.map (·.1))∧0<n then goR P (mn (P.map (·.1))) n (tQ P x)else []):=rfl
  rw[h4]at h3
  clear h4
  have hRo:∀(turn':List Int) (y:Int) (t:Nat) (fr':Frm) (s':St),n+turn'.length=P.length→0<n→turn'++goR P (mn (P.map (·.1))) n y=eT P→fr' 0=.mp m→fr' 3=.sl t turn'.length (us turn')→fr' 4=u (mn (P.map (·.1)))→fr' 5=u y→aAH t 34 1 turn'.length st s'→aA st s'→RoI P m st n fr' s':=fun turn' y t fr' s' q1 q2 q3 q4 q5 q6 q7 q8 q9=>⟨turn',y,t,q1,q2,q3,q4,q5,q6,q7,q8,q9⟩
  have hnx:=fun fr' s' h=>hJG n fr' s' oO h
  generalize mn (P.map (·.1))=first at *
  generalize tQ P x=y at *
  have hkn:=hk.next
  have c1:¬t=s.next:=oO
  have c2:¬s.next=t:=oO
  have c3:¬m=s.next:=oO
  have c4:¬m=s.next+1:=oO
  have c5:¬m=t:=oO
  have hk2:=(((hk.trans (aA.new s (.own 34 1 1))).set t1 .dead).trans (aA.new _ (.own 34 1 (turn.length+1))))
  by_cases hy:y=first
  ·have hy2:(y != first)=false:=by simp[hy]
   (repeat' (first|refine qS ?_|(refine qK (zZ ?_))|(refine qR (zZ ?_);simp[f0,f3,f4,f5,hmH,hg,tH,t0,c1,c2,c3,c4,c5,hy2])|(refine qC ?_;simp[f0,f3,f4,f5,hmH,hg,tH,t0,c1,c2,c3,c4,c5,hy2])|(refine w_e [] ?_;intro J hJ;simp only[];simp[f0,f3,f4,f5,hmH,hg,tH,t0,c1,c2,c3,c4,c5,hy2];(repeat refine ca ?_);refine hJ _ _ (zZ ?_))))
   rw[if_neg (fun h=>h.1 hy)]at h3
   exact⟨by rw[← h3];simp[z0,lE],hk2⟩
  ·have hy2:(y != first)=true:=by simp[hy]
   by_cases hn0:0<n
   ·have hlt':turn.length+1<(inL P).length:=oO
    have hlt2:(turn.length:Int)+1<(inL P).length:=oO
    (repeat' (first|refine qS ?_|(refine qC ?_;simp[f0,f3,f4,f5,hmH,hg,tH,t0,c1,c2,c3,c4,c5,hy2,hlt',hlt2])|(refine w_e [] ?_;intro J hJ;simp only[];simp[f0,f3,f4,f5,hmH,hg,tH,t0,c1,c2,c3,c4,c5,hy2,hlt',hlt2];(repeat refine ca ?_);refine hJ _ _ (zZ ?_))))
    rw[if_pos ⟨hy,hn0⟩]at h3
    refine aCv ?_
    simp only[ak,kZ,lW,kT,aBh]
    refine hnx _ _ (hRo (turn++[x]) y (s.next+1) _ _ (by simp;omega) hn0 (by rw[← h3];simp) (by simp[f0]) sS (by simp[f4]) sS ⟨oO,oO,sS,sS⟩ hk2)
   ·have hlt':¬turn.length+1<(inL P).length:=oO
    have hlt2:¬(turn.length:Int)+1<(inL P).length:=oO
    (repeat' (first|refine qS ?_|(refine qK (zZ ?_))|(refine qR (zZ ?_);simp[f0,f3,f4,f5,hmH,hg,tH,t0,c1,c2,c3,c4,c5,hy2,hlt',hlt2])|(refine qC ?_;simp[f0,f3,f4,f5,hmH,hg,tH,t0,c1,c2,c3,c4,c5,hy2,hlt',hlt2])|(refine w_e [] ?_;intro J hJ;simp only[];simp[f0,f3,f4,f5,hmH,hg,tH,t0,c1,c2,c3,c4,c5,hy2,hlt',hlt2];(repeat refine ca ?_);refine hJ _ _ (zZ ?_))))
    rw[if_neg (fun h=>hn0 h.2)]at h3
    exact⟨by rw[← h3];simp[z0,lE],hk2⟩
 ·rintro n fr s ⟨turn,x,t,h1,h2,h3,f0,f3,f4,f5,⟨t0,t1,t2,tH⟩,hk⟩ JG hJG
  have hmH:=(hk.H m hml).trans hm
  have hg:=aAY x P
  obtain⟨n,rfl⟩:∃ k,n=k+1:=⟨n-1,oO⟩
  have h4:goR P (mn (P.map (·.1))) (n+1) x=x::(if tQ P x≠mn (P.map (·.1))∧0<n then goR P (mn (P.map (·.1))) n (tQ P x)else []):=rfl
  rw[h4]at h3
  clear h4
  have hRo:∀(turn':List Int) (y:Int) (t:Nat) (fr':Frm) (s':St),n+turn'.length=P.length→0<n→turn'++goR P (mn (P.map (·.1))) n y=eT P→fr' 0=.mp m→fr' 3=.sl t turn'.length (us turn')→fr' 4=u (mn (P.map (·.1)))→fr' 5=u y→aAH t 34 1 turn'.length st s'→aA st s'→RoI P m st n fr' s':=fun turn' y t fr' s' q1 q2 q3 q4 q5 q6 q7 q8 q9=>⟨turn',y,t,q1,q2,q3,q4,q5,q6,q7,q8,q9⟩
  have hnx:=fun fr' s' h=>hJG n fr' s' oO h
  generalize mn (P.map (·.1))=first at *
  generalize tQ P x=y at *
  have hkn:=hk.next
  have c1:¬t=s.next:=oO
  have c2:¬s.next=t:=oO
  have c3:¬m=s.next:=oO
  have c4:¬m=s.next+1:=oO
  have c5:¬m=t:=oO
  have hk2:=(((hk.trans (aA.new s (.own 34 1 1))).set t1 .dead).trans (aA.new _ (.own 34 1 (turn.length+1))))
  by_cases hy:y=first
  ·have hy2:(y != first)=false:=by simp[hy]
   (repeat' (first|refine qS ?_|(refine qK (zZ ?_))|(refine qR (zZ ?_);simp[f0,f3,f4,f5,hmH,hg,tH,t0,c1,c2,c3,c4,c5,hy2])|(refine qC ?_;simp[f0,f3,f4,f5,hmH,hg,tH,t0,c1,c2,c3,c4,c5,hy2])|(refine w_e [] ?_;intro J hJ;simp only[];simp[f0,f3,f4,f5,hmH,hg,tH,t0,c1,c2,c3,c4,c5,hy2];(repeat refine ca ?_);refine hJ _ _ (zZ ?_))))
   rw[if_neg (fun h=>h.1 hy)]at h3
   exact⟨by rw[← h3];simp[z0,lE],hk2⟩
  ·have hy2:(y != first)=true:=by simp[hy]
   by_cases hn0:0<n
   ·have hlt':turn.length+1<(inL P).length:=oO
    have hlt2:(turn.length:Int)+1<(inL P).length:=oO
    (repeat' (first|refine qS ?_|(refine qK (zZ ?_))|(refine qC ?_;simp[f0,f3,f4,f5,hmH,hg,tH,t0,c1,c2,c3,c4,c5,hy2,hlt',hlt2])|(refine w_e [] ?_;intro J hJ;simp only[];simp[f0,f3,f4,f5,hmH,hg,tH,t0,c1,c2,c3,c4,c5,hy2,hlt',hlt2];(repeat refine ca ?_);refine hJ _ _ (zZ ?_))))
    rw[if_pos ⟨hy,hn0⟩]at h3
    refine aCv ?_
    simp only[ak,kZ,lW,kT,aBh]
    refine hnx _ _ (hRo (turn++[x]) y (s.next+1) _ _ (by simp;omega) hn0 (by rw[← h3];simp) (by simp[f0]) sS (by simp[f4]) sS ⟨oO,oO,sS,sS⟩ hk2)
   ·have hlt':¬turn.length+1<(inL P).length:=oO
    have hlt2:¬(turn.length:Int)+1<(inL P).length:=oO
    (repeat' (first|refine qS ?_|(refine qK (zZ ?_))|(refine qR (zZ ?_);simp[f0,f3,f4,f5,hmH,hg,tH,t0,c1,c2,c3,c4,c5,hy2,hlt',hlt2])|(refine qC ?_;simp[f0,f3,f4,f5,hmH,hg,tH,t0,c1,c2,c3,c4,c5,hy2,hlt',hlt2])|(refine w_e [] ?_;intro J hJ;simp only[];simp[f0,f3,f4,f5,hmH,hg,tH,t0,c1,c2,c3,c4,c5,hy2,hlt',hlt2];(repeat refine ca ?_);refine hJ _ _ (zZ ?_))))
    rw[if_neg (fun h=>hn0 h.2)]at h3
    exact⟨by rw[← h3];simp[z0,lE],hk2⟩
end Go.Proofs.YtempldclppogmaaGreatDoor.Aw
namespace Go.Proofs.YtempldclppogmaaGreatDoor.Aw
open Go Go.RowKit Go.Proofs.YtempldclppogmaaGreatDoor.Pl
def pX(l:List Int):List Int:=l.foldr qZ []
theorem aGc:∀ l,(pX l).Pairwise (· < ·)
 |[]=>.nil
 |x::l=>uG x _ (aGc l)
theorem wU(x:Int):∀ l,x∈pX l↔x∈l
 |[]=>by simp[pX]
 |y::l=>by
  have ih:=wU x l
  unfold pX at ih ⊢
  rw[List.foldr_cons,mA,ih,List.mem_cons]
theorem aJU(A:Tn)(loc:Int→Nat):pK (ouL A loc)=A.map (·.1):=by
 induction A with
 |nil=>rfl
 |cons p P ih=>simp only[ouL,List.map_cons,pK]at ih ⊢;rw[ih];rfl
theorem aNg(m q:Nat)(es:List (List Int×LV))(K:List Int)(st:St)(hl:es.length≤1000)(hH:st.H q=.box 80 1 [.mp m])(hm:st.H m=.map false [.u32] es)(hK:pK es=K)(hn:K.Nodup):
 aB Tryz.prog 46 [.fn (.func 80) [.pt q 0]] st fun r st'=>r=.sl 0 (pX K).length (us (pX K))∧aA st st':=by
 refine bQ ?_
 refine qO aF Tryz.func46 rfl rfl Tryz.ntmps46 (rs:=[.tmp 2]) rfl sS ?_
 (repeat' (first|refine qS ?_|(refine w_e [] ?_;intro J hJ;simp only[];simp[];(try refine hJ _ _ (zZ ?_)))))
 refine qE (aEO m q es _ oO hH hm) sS ?_;rintro r s1 ⟨ys,hys,rfl,rfl⟩
 have hyl:ys.length=es.length:=by rw[hys.length_eq];simp[pK]
 (repeat' (first|refine qS ?_|((first|(refine w_e [] ?_;intro J hJ;simp only[])|(refine aE ?_));simp[];(try refine hJ _ _ (zZ ?_)))))
 refine qE (aGl ys st.next _ oO sS sS) sS ?_;rintro r s2 ⟨c,hB,hp,hs,hoff⟩
 have hn2:=hoff.1
 simp only[aC]at hn2
 have hKp:aA st s2:=⟨oO,fun l' hl'=>(hoff.2 l' oO (by simp;omega)).trans ((aA.new st _).H l' hl')⟩
 have hcl:=hp.length_eq
 have hpK:c.Perm K:=by rw[← hK];exact hp.trans hys
 have hc:c=pX K:=by
  refine uN id ?_ (by simpa using aGc K) fun x=>by rw[wU];exact hpK.mem_iff
  rw[List.map_id]
  refine(List.Pairwise.and hs (hpK.nodup_iff.2 hn)).imp fun h=>?_
  have:=h.1
  have:=h.2
  omega
 (repeat' (first|refine qS ?_|(refine qR (zZ ?_);simp[])|((first|(refine w_e [] ?_;intro J hJ;simp only[])|(refine aE ?_));simp[];refine hJ _ _ (zZ ?_))))
 rw[← hc]
 exact⟨st.next,c.length,⟨rfl,hcl.symm⟩,_,_,_,hB,sS,⟨rfl,by rw[List.take_of_length_le sS]⟩,hKp.set (Nat.le_refl _) _⟩
def gO(B:List Ed)(v x:Int):List Int:=
 if x<v then(B.map fun e=>2*e.id+if e.b=v then 1 else 0).reverse else B.map fun e=>2*e.id+if e.b=v then 1 else 0
set_option maxHeartbeats 2000000 in
theorem aOn(B:List Ed)(v x:Int)(t:Nat)(st:St)(hl:B.length≤1000)(hpos:∀ e∈B,1≤e.id∧e.id≤1048576):
 aB Tryz.prog 49 [.sl t B.length (eds B),u v,u x] st fun r st'=>r=.sl 0 (gO B v x).length (us (gO B v x))∧st'=st:=by
 refine qT (Q:=fun r=>r=.sl 0 (gO B v x).length (us (gO B v x))) (bQ ?_) fun r h=>by subst h;exact⟨.inl rfl,uO _ _⟩
 have hel:=aJ B
 refine qO aF Tryz.func49 rfl rfl Tryz.ntmps49 (rs:=[.tmp 6]) rfl sS ?_
 (repeat' (first|refine qS ?_|refine qB ?_|(refine w_e [] ?_;intro J hJ;simp only[];simp[];refine hJ _ _ (zZ ?_))))
 refine qH 7 34 1 sS ?_
 refine aM 13 12 14 28 (B.length) (fun j fr st2=>fr 1=u v∧fr 2=u x∧fr 11=.sl t B.length (eds B)∧aA st st2∧∃ q,fr 7=.ms q 0 j∧st.next≤q∧q<st2.next∧st2.H q=.box 34 1 (us ((B.take j).map fun e=>2*e.id+if e.b=v then 1 else 0))) ?_ ?_ ?_
 ·exact⟨sS,sS,sS,aA.new _ _,st.next,sS,Nat.le_refl _,sS,sS⟩
 ·rintro j fr s hlt ⟨f1,f2,f11,hk,q,f7,q1,q2,hq⟩ fi fn JO hJO
  have hd:=aW B j hlt
  have hk3:j*3<B.length*3:=oO
  have htk:((B.take (j+1)).map fun e=>2*e.id+if e.b=v then 1 else 0)=((B.take j).map fun e=>2*e.id+if e.b=v then 1 else 0)++[2*(B.getD j ed0).id+if(B.getD j ed0).b=v then 1 else 0]:=by
   have h1:B.take (j+1)=B.take j++[B[j]]:=List.take_succ_eq_append_getElem hlt
   rw[h1,List.map_append,bZ B j hlt];rfl
  have hp:=hpos (B.getD j ed0) (by rw[bZ B j hlt];exact List.getElem_mem _)
  have hml:((B.take j).map fun e=>2*e.id+if e.b=v then(1:Int)else 0).length=j:=by simp;omega
  generalize B.getD j ed0=y at *
  generalize ((B.take j).map fun e=>2*e.id+if e.b=v then(1:Int)else 0)=D at *
  obtain⟨d,a,b⟩:=y
  simp only at htk hp hd
  have c1:¬q=s.next:=oO
  have c1b:¬q=s.next+1:=oO
  have htj:(us D).take j=us D:=List.take_of_length_le (by simp;omega)
  have hjl:j≤D.length:=oO
  have hj1:(j+1)*4≤140737488355328:=oO
  have hj2:j+1≤maxLen:=by unfold maxLen;omega
  have hk2:∀(o1 o2 o4:cA),aA st ((((s.new o1).new o2).set q .dead).new o4):=fun o1 o2 o4=>(((hk.trans (aA.new _ _)).trans (aA.new _ _)).set q1 _).trans (aA.new _ _)
  by_cases hb:b=v
  ·have hb2:(b==v)=true:=by simp[hb]
   rw[if_pos hb]at htk
   (repeat' (first|refine qS ?_|(refine qC ?_;simp[f1,f7,f11,fi,fn,hlt,hd,hel,hk3,hb2])|(refine w_e [] ?_;intro J hJ;simp only[];simp[f1,f7,f11,fi,fn,hlt,hd,hel,hk3,hb2];(try refine hJ _ _ (zZ ?_)))))
   refine qE (dOf d 1 _ oO oO (.inr rfl)) sS ?_;rintro r s1 ⟨rfl,rfl⟩
   (repeat' (refine aE ?_;simp[f7,hq,c1,c1b,htj,hjl,hj1,hj2];refine hJ _ _ (zZ ?_)))
   exact hJO _ _ (by simp[fi]) (by simp[fn]) ⟨by simp[f1],by simp[f2],by simp[f11],hk2 _ _ _,s.next+1+1,sS,oO,sS,by rw[htk];simp⟩
  ·have hb2:(b==v)=false:=by simp[hb]
   rw[if_neg hb]at htk
   (repeat' (first|refine qS ?_|(refine qK (zZ ?_))|(refine qC ?_;simp[f1,f7,f11,fi,fn,hlt,hd,hel,hk3,hb2])|(refine w_e [] ?_;intro J hJ;simp only[];simp[f1,f7,f11,fi,fn,hlt,hd,hel,hk3,hb2];(try refine hJ _ _ (zZ ?_)))))
   refine qE (dOf d 0 _ oO oO (.inl rfl)) sS ?_;rintro r s1 ⟨rfl,rfl⟩
   (repeat' (refine aE ?_;simp[f7,hq,c1,c1b,htj,hjl,hj1,hj2];refine hJ _ _ (zZ ?_)))
   exact hJO _ _ (by simp[fi]) (by simp[fn]) ⟨by simp[f1],by simp[f2],by simp[f11],hk2 _ _ _,s.next+1+1,sS,oO,sS,by rw[htk];simp⟩
 ·rintro fr s ⟨f1,f2,f11,hk,q,f7,q1,q2,hq⟩
  rw[List.take_length]at hq
  unfold gO
  have hml:(B.map fun e=>2*e.id+if e.b=v then(1:Int)else 0).length=B.length:=sS
  generalize (B.map fun e=>2*e.id+if e.b=v then(1:Int)else 0)=D at *
  by_cases hx:x<v
  ·rw[if_pos hx]
   rw[← hml]at f7
   (repeat' (first|refine qS ?_|(refine qC ?_;simp[f1,f2,f7,hx])|(refine w_e [] ?_;intro J hJ;simp only[];simp[f1,f2,f7,hx];(try refine hJ _ _ (zZ ?_)))))
   refine qE (uR D q s (by unfold small;omega) hq) sS ?_;rintro r s1 rfl
   (repeat' (first|refine qS ?_|(refine qR (zZ ?_);simp[f7])|((first|(refine w_e [] ?_;intro J hJ;simp only[])|(refine aE ?_));simp[f7];refine hJ _ _ (zZ ?_))))
   exact⟨q,D.length,⟨rfl,rfl⟩,_,_,_,if_pos rfl,sS,⟨sS,by rw[List.take_of_length_le sS]⟩,(hk.set q1 _).set q1 _⟩
  ·rw[if_neg hx]
   (repeat' (first|refine qS ?_|(refine qK (zZ ?_))|(refine qR (zZ ?_);simp[f1,f2,f7,hx])|(refine qC ?_;simp[f1,f2,f7,hx])|(refine w_e [] ?_;intro J hJ;simp only[];simp[f1,f2,f7,hx];refine hJ _ _ (zZ ?_))))
   exact⟨q,B.length,⟨rfl,rfl⟩,_,_,_,hq,by simp;omega,⟨hml.symm,by rw[List.take_of_length_le (by simp;omega)]⟩,hk.set q1 _⟩
abbrev RM:=List (List Int×Nat×Nat×List LV)
def rmV(a:Nat×Nat×List LV):LV:=.sl a.1 a.2.1 a.2.2
def rmL(A:RM):List (List Int×LV):=A.map fun a=>(a.1,rmV a.2)
def kG(k:List Int)(x:Nat×Nat×List LV):RM→RM
 |[]=>[(k,x)]
 |a::A=>if k==a.1 then(k,x)::A else a::kG k x A
def getM(k:List Int):RM→Option (Nat×Nat×List LV)
 |[]=>none
 |a::A=>if k==a.1 then some a.2 else getM k A
theorem aFv(k:List Int)(x:Nat×Nat×List LV):∀ A,aV (rmL A) k (rmV x)=rmL (kG k x A)
 |[]=>rfl
 |a::A=>by
  have ih:=aFv k x A
  unfold kG
  simp only[rmL,List.map_cons,aV]at ih ⊢
  split<;>simp[ih]
theorem pT(k:List Int):∀ A,aY (rmL A) k=(getM k A).map rmV
 |[]=>rfl
 |a::A=>by
  have ih:=pT k A
  unfold getM
  simp only[rmL,List.map_cons,aY]at ih ⊢
  split<;>simp[ih]
theorem kC{k:List Int}{x:Nat×Nat×List LV}:∀ {A},getM k A=some x→(k,x)∈A
 |[],h=>by cases h
 |a::A,h=>by
  unfold getM at h
  split at h
  ·rename_i e
   have e:k=a.1:=by simpa using e
   rw[e,← Option.some.inj h]
   simp
  ·exact List.mem_cons_of_mem _ (kC h)
theorem getM_none{k:List Int}:∀ {A:RM},getM k A=none→k∉A.map (·.1)
 |[],_=>by simp
 |a::A,h=>by
  unfold getM at h
  split at h
  ·cases h
  ·rename_i e
   simp only[List.map_cons,List.mem_cons,not_or]
   exact⟨by simpa using e,getM_none h⟩
theorem vH{k:List Int}{x:Nat×Nat×List LV}:∀ {A:RM},k∉A.map (·.1)→kG k x A=A++[(k,x)]
 |[],_=>rfl
 |a::A,h=>by
  simp only[List.map_cons,List.mem_cons,not_or]at h
  unfold kG
  rw[if_neg (by simpa using h.1),vH h.2];rfl
theorem rY{k:List Int}{x:Nat×Nat×List LV}:∀ {A:RM},k∈A.map (·.1)→(kG k x A).map (·.1)=A.map (·.1)
 |a::A,h=>by
  unfold kG
  by_cases e:k=a.1
  ·rw[if_pos (by simpa using e)];simp[e]
  ·rw[if_neg (by simpa using e),List.map_cons,List.map_cons,rY]
   simp only[List.map_cons,List.mem_cons]at h
   exact h.resolve_left e
theorem mP{k:List Int}{x:Nat×Nat×List LV}:∀ {A:RM},(A.map (·.1)).Nodup→∀ a∈kG k x A,a=(k,x)∨(a∈A∧a.1≠k)
 |[],_,a,ha=>by simp only[kG,List.mem_singleton]at ha;exact .inl ha
 |b::A,hn,a,ha=>by
  obtain⟨n1,n2⟩:=List.nodup_cons.1 (by simpa using hn:(b.1::A.map (·.1)).Nodup)
  unfold kG at ha
  by_cases e:k=b.1
  ·rw[if_pos (by simpa using e)]at ha
   rcases List.mem_cons.1 ha with ha|ha
   ·exact .inl ha
   ·exact .inr ⟨List.mem_cons_of_mem _ ha,fun h2=>n1 (by rw[← e,← h2];exact List.mem_map.2 ⟨a,ha,rfl⟩)⟩
  ·rw[if_neg (by simpa using e)]at ha
   rcases List.mem_cons.1 ha with ha|ha
   ·exact .inr ⟨by simp[ha],by rw[ha];exact fun h=>e h.symm⟩
   ·rcases mP n2 a ha with h|⟨h1,h2⟩
    ·exact .inl h
    ·exact .inr ⟨List.mem_cons_of_mem _ h1,h2⟩
theorem zL{k:List Int}{t n:Nat}{c:List LV}:∀ {A:RM},(A.map fun a=>a.2.1).Nodup→(∀ a∈A,a.2.1≠t)→((kG k (t,n,c) A).map fun a=>a.2.1).Nodup
 |[],_,_=>by simp[kG]
 |a::A,hn,h=>by
  obtain⟨n1,n2⟩:=List.nodup_cons.1 (by simpa using hn:(a.2.1::A.map fun a=>a.2.1).Nodup)
  unfold kG
  split
  ·rw[List.map_cons,List.nodup_cons]
   refine⟨fun hm=>?_,n2⟩
   obtain⟨b,hb,e⟩:=List.mem_map.1 hm
   exact h b (List.mem_cons_of_mem _ hb) e
  ·rw[List.map_cons,List.nodup_cons]
   refine⟨fun hm=>?_,zL n2 fun b hb=>h b (List.mem_cons_of_mem _ hb)⟩
   obtain⟨b,hb,e⟩:=List.mem_map.1 hm
   have:b=(k,(t,n,c))∨b∈A:=by
    clear n1 n2 h hn hm
    revert hb
    clear e
    induction A with
    |nil=>intro hb;simp only[kG,List.mem_singleton]at hb;exact .inl hb
    |cons a2 A ih=>
     intro hb
     unfold kG at hb
     split at hb
     ·rcases List.mem_cons.1 hb with hb|hb
      ·exact .inl hb
      ·exact .inr (List.mem_cons_of_mem _ hb)
     ·rcases List.mem_cons.1 hb with hb|hb
      ·exact .inr (by simp[hb])
      ·exact(ih hb).imp id (List.mem_cons_of_mem _)
   rcases this with rfl|hb
   ·exact h a sS e.symm
   ·exact n1 (List.mem_map.2 ⟨b,hb,e⟩)
theorem aFJ:∀ {A:RM},(A.map fun a=>a.2.1).Nodup→∀ {a b},a∈A→b∈A→a.2.1=b.2.1→a=b
 |[],_,_,_,h,_,_=>by cases h
 |c::A,hn,a,b,ha,hb,e=>by
  obtain⟨n1,n2⟩:=List.nodup_cons.1 (by simpa using hn:(c.2.1::A.map fun a=>a.2.1).Nodup)
  rcases List.mem_cons.1 ha with ha|ha
  ·rcases List.mem_cons.1 hb with hb|hb
   ·rw[ha,hb]
   ·exact absurd (List.mem_map.2 ⟨b,hb,by rw[← e,ha]⟩) n1
  ·rcases List.mem_cons.1 hb with hb|hb
   ·exact absurd (List.mem_map.2 ⟨a,ha,by rw[e,hb]⟩) n1
   ·exact aFJ n2 ha hb e
structure tV(ag:Bool)(ks:List IntKind)(e w:Nat)(A:RM)(m lo:Nat)(st:St):Prop where
 map:st.H m=.map ag ks (rmL A)
 mlt:lo≤m∧m<st.next
 tok:∀ a∈A,a.2.1≠0∧lo≤a.2.1∧a.2.1<st.next∧st.H a.2.1=.own e w a.2.2.1
 inj:(A.map fun a=>a.2.1).Nodup
 nd:(A.map (·.1)).Nodup
theorem tV.keep{ag:Bool}{ks:List IntKind}{e w:Nat}{A:RM}{m lo:Nat}{st st':St}(h:tV ag ks e w A m lo st)(k:aA st st'):tV ag ks e w A m lo st':=by
 have hn:=k.next
 have hm:=h.mlt
 refine⟨(k.H _ hm.2).trans h.map,⟨hm.1,oO⟩,fun a ha=>?_,h.inj,h.nd⟩
 obtain⟨h1,h2,h3,h4⟩:=h.tok a ha
 exact⟨h1,h2,oO,(k.H _ h3).trans h4⟩
theorem tV.put{ag:Bool}{ks:List IntKind}{e w:Nat}{A:RM}{m lo:Nat}{st st':St}(h:tV ag ks e w A m lo st){k:List Int}{t n:Nat}{c:List LV}
 (ht:st.next≤t∧t<st'.next) (hn:st.next≤st'.next) (hlo:lo≤st.next) (h0:t≠0) (hm:st'.H m=.map ag ks (aV (rmL A) k (rmV (t,n,c)))) (hT:st'.H t=.own e w n)
 (hK:∀ l,l<st.next→l≠m→(∀ x,getM k A=some x→l≠x.1)→st'.H l=st.H l):tV ag ks e w (kG k (t,n,c) A) m lo st':=by
 have hmm:=h.mlt
 rw[aFv]at hm
 refine⟨hm,⟨hmm.1,oO⟩,fun a ha=>?_,zL h.inj fun a ha=>by have:=(h.tok a ha).2.2.1;omega,?_⟩
 ·rcases mP h.nd a ha with rfl|⟨ha,hne⟩
  ·exact⟨h0,Nat.le_trans hlo ht.1,ht.2,hT⟩
  ·obtain⟨h1,h2,h3,h4⟩:=h.tok a ha
   refine⟨h1,h2,oO,?_⟩
   rw[hK _ h3 (fun q=>by rw[q,h.map]at h4;cases h4) fun x hx q=>?_]
   ·exact h4
   ·have hx:=kC hx
    refine hne ?_
    exact(by rw[aFJ h.inj ha hx q]:a.1=k)
 ·by_cases hk:k∈A.map (·.1)
  ·rw[rY hk];exact h.nd
  ·rw[vH hk,List.map_append,List.nodup_append]
   refine⟨h.nd,sS,fun a ha b hb e=>?_⟩
   simp only[List.map_cons,List.map_nil,List.mem_singleton]at hb
   subst hb;subst e
   exact hk ha
abbrev prE(e:Ed):Int×Int:=prP e.a e.b
def gV(E:List Ed)(p:Int×Int):List Ed:=E.filter fun e=>decide (prE e=p)
abbrev yL(g:Gr)(v x:Int):List Ed:=gV g.es (prP v x)
abbrev TL:=List (Int×List Int)
def xR(v:Int)(ds:List Int):TL→TL
 |[]=>[(v,ds)]
 |p::T=>if p.1=v then(v,p.2++ds)::T else p::xR v ds T
def kR(v:Int):TL→List Int
 |[]=>[]
 |p::T=>if p.1=v then p.2 else kR v T
def gP(g:Gr)(v:Int)(L:List Int)(T:TL):TL:=L.foldl (fun T x=>xR v (gO (yL g v x) v x) T) T
def aBR(v:Int):Tn→List (Int×Int)
 |[]=>[]
 |a::A=>if a.1=v then a.2 else aBR v A
def iX(g:Gr)(A:Tn)(K:List Int)(T:TL):TL:=K.foldl (fun T v=>gP g v (eT (aBR v A)) T) T
def mK(T:TL):Nat:=(T.map fun p=>p.2.length).sum
def okE(F:List (List Int))(A:Tn)(T:TL):Prop:=F.length≤300∧(∀ r∈F,r.length≤1000)∧A.length≤1000∧(∀ a∈A,a.2.length≤1000)∧mK T≤100000
instance (F:List (List Int)) (A:Tn) (T:TL):Decidable (okE F A T):=by unfold okE;infer_instance
def aIP(g:Gr)(F:List (List Int))(T:TL):TL:=iX g (eA F) (pX ((eA F).map (·.1))) T
def aMe(g:Gr):List (List Ed)→TL→Option (Option TL)
 |[],T=>some (some T)
 |l::bl,T=>(aNv l).bind fun o=>match o with
  |none=>some none
  |some F=>if okE F (eA F) (aIP g F T)then aMe g bl (aIP g F T)else none
def lR(g:Gr)(bl:List (List Ed)):Option (Option Mp):=
 (aMe g bl []).bind fun o=>match o with
   |none=>some none
   |some T=>if ∀ v∈g.vs,(kR v T).length≤1000 then some (some ⟨g,g.vs.map fun v=>nrm (kR v T)⟩)else none
theorem aFT(P:List (Int×Int))(f:Int):∀ n x,(goR P f n x).length≤n
 |0,_=>by simp[goR]
 |n+1,x=>by
  unfold goR
  split
  ·have:=aFT P f n (tQ P x);simp;omega
  ·simp
theorem aFf(P:List (Int×Int)):(eT P).length≤P.length:=aFT _ _ _ _
theorem xF(v:Int)(ds:List Int):∀ T:TL,mK (xR v ds T)=mK T+ds.length
 |[]=>by simp[xR,mK]
 |p::T=>by
  have ih:=xF v ds T
  unfold xR
  split
  ·simp only[mK,List.map_cons,List.sum_cons,List.length_append]at ih ⊢;omega
  ·simp only[mK,List.map_cons,List.sum_cons]at ih ⊢;omega
theorem rW(g:Gr)(v:Int):∀(L:List Int) (T:TL),mK T≤mK (gP g v L T)
 |[],_=>Nat.le_refl _
 |x::L,T=>by
  have h:=rW g v L (xR v (gO (yL g v x) v x) T)
  have h2:=xF v (gO (yL g v x) v x) T
  unfold gP at h ⊢
  rw[List.foldl_cons]
  omega
theorem aAi(g:Gr)(A:Tn):∀(K:List Int) (T:TL),mK T≤mK (iX g A K T)
 |[],_=>Nat.le_refl _
 |v::K,T=>by
  have h:=aAi g A K (gP g v (eT (aBR v A)) T)
  have h2:=rW g v (eT (aBR v A)) T
  unfold iX at h ⊢
  rw[List.foldl_cons]
  omega
theorem wZ(v:Int):∀ T:TL,(kR v T).length≤mK T
 |[]=>Nat.le_refl _
 |p::T=>by
  have ih:=wZ v T
  unfold kR
  split
  ·simp only[mK,List.map_cons,List.sum_cons];omega
  ·simp only[mK,List.map_cons,List.sum_cons]at ih ⊢;omega
theorem aDE(g:Gr)(A:Tn)(K:List Int)(T:TL)(j:Nat):iX g A K T=iX g A (K.drop j) (iX g A (K.take j) T):=by
 unfold iX
 rw[← List.foldl_append,List.take_append_drop]
theorem aDT(g:Gr)(v:Int)(L:List Int)(T:TL)(j:Nat):gP g v L T=gP g v (L.drop j) (gP g v (L.take j) T):=by
 unfold gP
 rw[← List.foldl_append,List.take_append_drop]
theorem aDr{v:Int}:∀ {A:Tn},v∈A.map (·.1)→(v,aBR v A)∈A
 |a::A,h=>by
  unfold aBR
  by_cases e:a.1=v
  ·rw[if_pos e,← e];simp
  ·rw[if_neg e]
   simp only[List.map_cons,List.mem_cons]at h
   exact List.mem_cons_of_mem _ (aDr (h.resolve_left fun h=>e h.symm))
theorem aKX(x y:Int)(P:List (Int×Int)):yU x y P≠[]:=by
 cases P with
 |nil=>simp[yU]
 |cons p P=>unfold yU;split<;>simp
theorem aFN{v x y:Int}:∀ {A:Tn},(∀ a∈A,a.2≠[])→∀ a∈mS v x y A,a.2≠[]
 |[],_,a,ha=>by simp only[mS,List.mem_singleton]at ha;rw[ha];simp
 |b::A,h,a,ha=>by
  unfold mS at ha
  split at ha
  ·rcases List.mem_cons.1 ha with ha|ha
   ·rw[ha];exact aKX _ _ _
   ·exact h a (List.mem_cons_of_mem _ ha)
  ·rcases List.mem_cons.1 ha with ha|ha
   ·rw[ha];exact h b sS
   ·exact aFN (fun a ha=>h a (List.mem_cons_of_mem _ ha)) a ha
theorem aCB(r:List Int){A:Tn}(h:∀ a∈A,a.2≠[]):∀ j,∀ a∈jF r A j,a.2≠[]
 |0=>h
 |j+1=>aFN (aCB r h j)
theorem aEL(R:List (List Int)):∀ a∈eA R,a.2≠[]:=by
 unfold eA
 have key:∀(R:List (List Int)) (A:Tn),(∀ a∈A,a.2≠[])→∀ a∈R.foldl (fun A r=>jF r A r.length) A,a.2≠[]:=fun R=>by
  induction R with
  |nil=>exact fun A h=>h
  |cons r R ih=>exact fun A h=>ih _ (aCB r h _)
 exact key R [] sS
structure aBK(E:List Ed)(A:RM):Prop where
 row:∀ a∈A,∃ p,a.1=pk p∧a.2.2.1=(gV E p).length∧a.2.2.2=eds (gV E p)
 all:∀ e∈E,pk (prE e)∈A.map (·.1)
theorem nG(E:List Ed)(x:Ed)(p:Int×Int):gV (E++[x]) p=if prE x=p then gV E p++[x]else gV E p:=by
 unfold gV
 rw[List.filter_append]
 by_cases h:prE x=p
 ·rw[if_pos h];simp[h]
 ·rw[if_neg h];simp[h]
theorem aOX{p q:Int×Int}(h:pk p=pk q):p=q:=by
 simp only[pk,List.cons.injEq,and_true]at h
 exact Prod.ext h.1 h.2
theorem aBK.get{E:List Ed}{A:RM}(h:aBK E A)(hn:(A.map (·.1)).Nodup)(p:Int×Int):
 (gV E p=[]∧getM (pk p) A=none)∨∃ t,getM (pk p) A=some (t,(gV E p).length,eds (gV E p)):=by
 cases hg:getM (pk p) A with
 |none=>
  refine .inl ⟨?_,rfl⟩
  refine List.eq_nil_iff_forall_not_mem.2 fun e he=>?_
  obtain⟨h1,h2⟩:=List.mem_filter.1 he
  exact getM_none hg (by rw[← of_decide_eq_true h2];exact h.all e h1)
 |some x=>
  obtain⟨t,n,c⟩:=x
  obtain⟨q,h1,h2,h3⟩:=h.row _ (kC hg)
  have:=aOX h1
  subst this
  simp only at h2 h3
  exact .inr ⟨t,by rw[h2,h3]⟩
theorem aBK.add{E:List Ed}{A:RM}(h:aBK E A)(hn:(A.map (·.1)).Nodup)(x:Ed)(t:Nat):
 aBK (E++[x]) (kG (pk (prE x)) (t,(gV E (prE x)).length+1,eds (gV E (prE x))++[u x.id,u x.a,u x.b]) A):=by
 refine⟨fun a ha=>?_,fun e he=>?_⟩
 ·rcases mP hn a ha with rfl|⟨ha,hne⟩
  ·refine⟨prE x,rfl,?_,?_⟩
   ·rw[nG,if_pos rfl];simp
   ·rw[nG,if_pos rfl];simp[eds,edL]
  ·obtain⟨p,h1,h2,h3⟩:=h.row a ha
   have:¬prE x=p:=fun e=>hne (by rw[h1,e])
   exact⟨p,h1,by rw[nG,if_neg this];exact h2,by rw[nG,if_neg this];exact h3⟩
 ·by_cases hk:pk (prE x)∈A.map (·.1)
  ·rw[rY hk]
   rcases List.mem_append.1 he with he|he
   ·exact h.all e he
   ·rw[List.mem_singleton]at he;rw[he];exact hk
  ·rw[vH hk,List.map_append,List.mem_append]
   rcases List.mem_append.1 he with he|he
   ·exact .inl (h.all e he)
   ·rw[List.mem_singleton]at he;rw[he];exact .inr sS
def qW(T:TL)(A:RM):Prop:=A.map (fun a=>(a.1,a.2.2))=T.map fun p=>([p.1],(p.2.length,us p.2))
theorem qW.get{v:Int}:∀ {T:TL} {A:RM},qW T A→(kR v T=[]∧getM [v] A=none)∨∃ t,getM [v] A=some (t,(kR v T).length,us (kR v T))
 |[],[],_=>.inl ⟨rfl,rfl⟩
 |[],a::A,h=>by cases h
 |p::T,[],h=>by cases h
 |p::T,a::A,h=>by
  obtain⟨ak,at',an,ac⟩:=a
  simp only[qW,List.map_cons,List.cons.injEq,Prod.mk.injEq]at h
  obtain⟨⟨h1,h2,h3⟩,h4⟩:=h
  subst h1;subst h2;subst h3
  unfold kR getM
  by_cases e:p.1=v
  ·rw[if_pos e,if_pos (by simp[e])]
   exact .inr ⟨at',rfl⟩
  ·rw[if_neg e,if_neg (by simpa using fun h=>e h.symm)]
   exact qW.get h4
theorem qW.add{v:Int}{ds:List Int}(t:Nat):∀ {T:TL} {A:RM},qW T A→qW (xR v ds T) (kG [v] (t,(kR v T).length+ds.length,us (kR v T)++us ds) A)
 |[],[],_=>by simp[qW,xR,kG,kR]
 |[],a::A,h=>by cases h
 |p::T,[],h=>by cases h
 |p::T,a::A,h=>by
  obtain⟨ak,at',an,ac⟩:=a
  simp only[qW,List.map_cons,List.cons.injEq,Prod.mk.injEq]at h
  obtain⟨⟨h1,h2,h3⟩,h4⟩:=h
  subst h1;subst h2;subst h3
  unfold kR xR kG
  by_cases e:p.1=v
  ·rw[if_pos e,if_pos e,if_pos (by simp[e])]
   simp only[qW,List.map_cons,List.cons.injEq,Prod.mk.injEq]
   exact⟨⟨trivial,sS,sS⟩,h4⟩
  ·rw[if_neg e,if_neg e,if_neg (by simpa using fun h=>e h.symm)]
   have:=qW.add (v:=v) (ds:=ds) t (T:=T) (A:=A) h4
   simp only[qW,List.map_cons,List.cons.injEq]at this ⊢
   exact⟨trivial,this⟩
end Go.Proofs.YtempldclppogmaaGreatDoor.Aw
namespace Go.Proofs.YtempldclppogmaaGreatDoor.Aw
open Go Go.RowKit Go.Proofs.YtempldclppogmaaGreatDoor.Pl Go.Proofs.YtempldclppogmaaGreatDoor.Eu
def oth(x:Ed)(v:Int):Int:=if x.a=v then x.b else x.a
abbrev eAt(es:List Ed)(i:Nat):Ed:=es.getD i ed0
def atP(es:List Ed)(v:Int):List Nat:=(List.range es.length).filter fun i=>decide ((eAt es i).a=v∨(eAt es i).b=v)
structure Bw where
 vis:List Int
 low:List Int
 stk:List Nat
 out:List (List Nat)
def nmW(V:List Int)(v:Int):Int:=if v∈V then(V.idxOf v:Int)+1 else 0
def lwW(s:Bw)(v:Int):Int:=s.low.getD (s.vis.idxOf v) 0
def kH(s:Bw)(v x:Int):Bw:={ s with low:=s.low.set (s.vis.idxOf v) x }
def dL(s:Bw)(i:Nat):Bw:={ s with stk:=s.stk++[i] }
def gI(l:List Nat)(i:Nat):Nat:=l.length-1-l.reverse.idxOf i
def oQ(n:Nat)(seg:List Nat):List Nat:=(List.range n).filter fun i=>decide (i∈seg)
def aDv(n:Nat)(s:Bw)(i:Nat):Option Bw:=if i∈s.stk then some { s with stk:=s.stk.take (gI s.stk i),out:=s.out++[oQ n (s.stk.drop (gI s.stk i))] } else none
def goB(f:Bw→Nat→Option Bw):List Nat→Bw→Option Bw
 |[],s=>some s
 |i::l,s=>(f s i).bind (goB f l)
def aHa(n:Nat)(v mine:Int)(i:Nat)(u:Int)(s1:Bw):Option Bw:=
 if mine≤lwW s1 u then aDv n (kH s1 v (min (lwW s1 v) (lwW s1 u))) i else some (kH s1 v (min (lwW s1 v) (lwW s1 u)))
def fB(rec:Int→Int→Bw→Option Bw)(es:List Ed)(v by_ mine:Int)(s:Bw)(i:Nat):Option Bw:=
 if(i:Int)=by_ then some s
 else if oth (eAt es i) v∈s.vis then
  (if nmW s.vis (oth (eAt es i) v)<mine then some (kH (dL s i) v (min (lwW s v) (nmW s.vis (oth (eAt es i) v))))else some s)
 else(rec (oth (eAt es i) v) i (dL s i)).bind (aHa es.length v mine i (oth (eAt es i) v))
def lP(s:Bw)(v:Int):Bw:={ s with vis:=s.vis++[v],low:=s.low++[(s.vis.length:Int)+1] }
def lA(es:List Ed):Nat→Int→Int→Bw→Option Bw
 |0,_,_,_=>none
 |n+1,v,by_,s=>goB (fB (lA es n) es v by_ ((s.vis.length:Int)+1)) (atP es v) (lP s v)
def nN(es:List Ed)(n:Nat):List Int→Bw→Option Bw
 |[],s=>some s
 |v::l,s=>if v∈s.vis then nN es n l s else(lA es n v (-1) s).bind (nN es n l)
inductive RIn(es:List Ed)(S:Int→Prop)(x:Int):Int→Prop
 |refl (h:S x):RIn es S x x
 |step {y z:Int} (h:RIn es S x y) (hz:z∈nbr es y) (hs:S z):RIn es S x z
theorem RIn.here{es:List Ed}{S:Int→Prop}{x y:Int}(h:RIn es S x y):S x∧S y:=by
 induction h with
 |refl h=>exact⟨h,h⟩
 |step _ _ hs ih=>exact⟨ih.1,hs⟩
theorem RIn.trans{es:List Ed}{S:Int→Prop}{x y z:Int}(h:RIn es S x y)(k:RIn es S y z):RIn es S x z:=by
 induction k with
 |refl=>exact h
 |step _ hz hs ih=>exact .step ih hz hs
theorem RIn.symm{es:List Ed}{S:Int→Prop}{x y:Int}(h:RIn es S x y):RIn es S y x:=by
 induction h with
 |refl h=>exact .refl h
 |step h hz hs ih=>exact(RIn.step (.refl hs) (pY hz) h.here.2).trans ih
theorem RIn.mono{es:List Ed}{S S':Int→Prop}{x y:Int}(h:RIn es S x y)(hS:∀ z,S z→S' z):RIn es S' x y:=by
 induction h with
 |refl h=>exact .refl (hS _ h)
 |step _ hz hs ih=>exact .step ih hz (hS _ hs)
theorem RIn.closed{es:List Ed}{S L:Int→Prop}{x y:Int}(h:RIn es S x y)(hx:L x)(hc:∀ z,L z→∀ w∈nbr es z,S w→L w):L y:=by
 induction h with
 |refl=>exact hx
 |step h hz hs ih=>exact hc _ ih _ hz hs
def aND(es:List Ed)(w:Int)(x y:Ed):Prop:=(x.a=w∨x.b=w)∧(y.a=w∨y.b=w)∧RIn es (·≠w) (oth x w) (oth y w)
def aCX(es:List Ed)(x y:Ed):Prop:=∃ w,aND es w x y
theorem aCX.symm{es:List Ed}{x y:Ed}:aCX es x y→aCX es y x:=fun⟨w,h1,h2,h3⟩=>⟨w,h2,h1,h3.symm⟩
inductive jY(es:List Ed)(i:Nat):Nat→Prop
 |refl:jY es i i
 |step {j k:Nat} (h:jY es i j) (hj:j<es.length) (hk:k<es.length) (hr:aCX es (eAt es j) (eAt es k)):jY es i k
theorem jY.trans{es:List Ed}{i j k:Nat}(h:jY es i j)(h2:jY es j k):jY es i k:=by
 induction h2 with
 |refl=>exact h
 |step _ hj hk hr ih=>exact .step ih hj hk hr
theorem jY.symm{es:List Ed}{i j:Nat}(h:jY es i j):jY es j i:=by
 induction h with
 |refl=>exact .refl
 |step _ hj hk hr ih=>exact(jY.step .refl hk hj hr.symm).trans ih
structure iT(es:List Ed)(B:List Nat):Prop where
 ne:B≠[]
 rise:B.Pairwise (· < ·)
 lt:∀ i∈B,i<es.length
 rel:∀ i∈B,∀ j∈B,jY es i j
 all:∀ i∈B,∀ j,j<es.length→aCX es (eAt es i) (eAt es j)→j∈B
theorem iT.iff{es:List Ed}{B:List Nat}(h:iT es B){i j:Nat}(hi:i∈B):j∈B↔jY es i j:=by
 refine⟨h.rel i hi j,fun hr=>?_⟩
 induction hr with
 |refl=>exact hi
 |step _ _ hk hr ih=>exact h.all _ ih _ hk hr
theorem bF{es:List Ed}{v:Int}{i:Nat}:i∈atP es v↔i<es.length∧((eAt es i).a=v∨(eAt es i).b=v):=by
 unfold atP;rw[List.mem_filter,List.mem_range,decide_eq_true_iff]
theorem uP{es:List Ed}{i:Nat}(h:i<es.length):eAt es i∈es:=by
 unfold eAt;rw[bZ _ _ h];exact List.getElem_mem _
theorem mZ{x:Ed}{v:Int}(h:x.a=v∨x.b=v):oth x (oth x v)=v:=by
 unfold oth
 rcases h with h|h
 ·rw[if_pos h];split<;>omega
 ·split
  ·split<;>omega
  ·rw[if_pos rfl,h]
theorem uY(x:Ed)(v:Int):x.a=oth x v∨x.b=oth x v:=by
 unfold oth;split
 ·exact .inr rfl
 ·exact .inl rfl
theorem aOh{x:Ed}{v:Int}(h:x.a≠x.b)(hv:x.a=v∨x.b=v):oth x v≠v:=by
 unfold oth;split<;>omega
theorem gL{x:Ed}{v:Int}(hv:x.a=v∨x.b=v)(c:Int):(x.a=c∨x.b=c)↔(c=v∨c=oth x v):=by
 unfold oth;split<;>omega
theorem pG{es:List Ed}{i:Nat}{v:Int}(h:i∈atP es v):oth (eAt es i) v∈nbr es v:=by
 obtain⟨h1,h2⟩:=bF.1 h
 rw[dX]
 refine⟨_,uP h1,?_⟩
 unfold oth
 split
 ·exact .inl ⟨by assumption,rfl⟩
 ·refine .inr ⟨oO,rfl⟩
theorem aMK{es:List Ed}{v w:Int}(h:w∈nbr es v):∃ i∈atP es v,oth (eAt es i) v=w:=by
 rw[dX]at h
 obtain⟨x,hx,h⟩:=h
 obtain⟨i,hi,rfl⟩:=List.getElem_of_mem hx
 have e:eAt es i=es[i]:=bZ _ _ hi
 refine⟨i,bF.2 ⟨hi,by rw[e];omega⟩,?_⟩
 unfold oth
 rw[e]
 split<;>omega
theorem uM{es:List Ed}{i:Nat}{v:Int}(h:i∈atP es v):i∈atP es (oth (eAt es i) v):=bF.2 ⟨(bF.1 h).1,uY _ _⟩
structure tR(g:Gr)(A:Int→Prop)(s:Bw)(v by_:Int):Prop where
 ln:s.low.length=s.vis.length
 nd:s.vis.Nodup
 act:∀ a,A a→a∈s.vis
 fin:∀ w∈s.vis,¬A w→∀ i∈atP g.es w,oth (eAt g.es i) w∈s.vis
 new:v∉s.vis
 con:∀ a b,A a→A b→RIn g.es A a b
 par:(by_ = -1∧∀ a,¬A a)∨∃ i:Nat,by_=i∧i∈atP g.es v∧A (oth (eAt g.es i) v)
structure aGp(g:Gr)(s:Bw)(v by_:Int)(s1:Bw)(C:List Int)(T:List Nat)(N:List (List Nat)):Prop where
 vis:s1.vis=s.vis++C
 hd:v∈C
 nd:s1.vis.Nodup
 ln:s1.low.length=s1.vis.length
 low:∀ w∈s.vis,lwW s1 w=lwW s w
 clo:∀ c∈C,∀ i∈atP g.es c,oth (eAt g.es i) c∈s1.vis
 stk:s1.stk=s.stk++T
 out:s1.out=s.out++N
 pl:∀ i,(i∈T++N.flatten)↔i<g.es.length∧(i:Int)≠by_∧((eAt g.es i).a∈C∨(eAt g.es i).b∈C)
 pn:(T++N.flatten).Nodup
 lw1:lwW s1 v≤(s.vis.length:Int)+1
 lw2:∀ c∈C,∀ i∈atP g.es c,(i:Int)≠by_→oth (eAt g.es i) c∉C→lwW s1 v≤nmW s.vis (oth (eAt g.es i) c)
 lw3:lwW s1 v<(s.vis.length:Int)+1→∃ c∈C,∃ i∈atP g.es c,(i:Int)≠by_∧oth (eAt g.es i) c∈s.vis∧nmW s.vis (oth (eAt g.es i) c)=lwW s1 v
 rel:∀ i∈T,∃ b:Nat,by_=b∧jY g.es b i
 good:∀ B∈N,iT g.es B
 cn:∀ c∈C,RIn g.es (·∈C) v c
structure BLp(g:Gr)(s0:Bw)(v by_:Int)(Q:List Nat)(s:Bw)(D:List Int)(T:List Nat)(N:List (List Nat)):Prop where
 vis:s.vis=s0.vis++v::D
 nd:s.vis.Nodup
 ln:s.low.length=s.vis.length
 low:∀ w∈s0.vis,lwW s w=lwW s0 w
 qs:∀ i∈Q,i∈atP g.es v
 cloQ:∀ i∈Q,oth (eAt g.es i) v∈s.vis
 cloD:∀ c∈D,∀ i∈atP g.es c,oth (eAt g.es i) c∈s.vis
 stk:s.stk=s0.stk++T
 out:s.out=s0.out++N
 pl:∀ i,(i∈T++N.flatten)↔i<g.es.length∧(i:Int)≠by_∧(((eAt g.es i).a∈D∨(eAt g.es i).b∈D)∨(i∈Q∧oth (eAt g.es i) v∈s0.vis))
 pn:(T++N.flatten).Nodup
 lw1:lwW s v≤(s0.vis.length:Int)+1
 lwD:∀ c∈D,∀ i∈atP g.es c,oth (eAt g.es i) c∉D→oth (eAt g.es i) c≠v→lwW s v≤nmW s0.vis (oth (eAt g.es i) c)
 lwQ:∀ i∈Q,(i:Int)≠by_→oth (eAt g.es i) v∈s0.vis→lwW s v≤nmW s0.vis (oth (eAt g.es i) v)
 lw3:lwW s v<(s0.vis.length:Int)+1→∃ c∈v::D,∃ i∈atP g.es c,(i:Int)≠by_∧oth (eAt g.es i) c∈s0.vis∧nmW s0.vis (oth (eAt g.es i) c)=lwW s v
 rel:∀ i∈T,∃ b:Nat,by_=b∧jY g.es b i
 good:∀ B∈N,iT g.es B
 cn:∀ c∈D,RIn g.es (fun x=>x=v∨x∈D) v c
theorem aBC{V W:List Int}{x:Int}(h:x∈V):nmW (V++W) x=nmW V x:=by
 unfold nmW
 rw[if_pos (List.mem_append_left _ h),if_pos h,List.idxOf_append,if_pos h]
theorem aFr{V W:List Int}{x:Int}(h:x∉V)(h2:x∈W):(V.length:Int)+1≤nmW (V++W) x:=by
 unfold nmW
 rw[if_pos (List.mem_append_right _ h2),List.idxOf_append,if_neg h]
 omega
theorem aKA{V:List Int}{x:Int}(h:x∈V):nmW V x<(V.length:Int)+1:=by
 unfold nmW
 rw[if_pos h]
 have:=List.idxOf_lt_length_of_mem h
 omega
theorem aAR{s:Bw}(hl:s.low.length=s.vis.length){v w x:Int}(hv:v∈s.vis)(hw:w∈s.vis):lwW (kH s v x) w=if w=v then x else lwW s w:=by
 unfold lwW kH
 have h1:=List.idxOf_lt_length_of_mem hv
 have h2:=List.idxOf_lt_length_of_mem hw
 simp only
 rw[aI _ _ (by rw[List.length_set];omega),List.getElem_set,aI _ _ oO]
 by_cases e:w=v
 ·subst e;rw[if_pos rfl,if_pos rfl]
 ·rw[if_neg e,if_neg]
  intro k
  apply e
  have e1:=List.getElem_idxOf h1
  have e2:=List.getElem_idxOf h2
  rw[← e1,← e2]
  congr 1
  exact k.symm
theorem aMb{s:Bw}{v w:Int}(hl:s.low.length=s.vis.length)(hw:w∈s.vis):lwW (lP s v) w=lwW s w:=by
 unfold lwW lP
 have h2:=List.idxOf_lt_length_of_mem hw
 simp only
 rw[List.idxOf_append,if_pos hw,aI _ _ (by rw[List.length_append];omega),aI _ _ oO,List.getElem_append_left oO]
theorem aIC{s:Bw}{v:Int}(hl:s.low.length=s.vis.length)(hv:v∉s.vis):lwW (lP s v) v=(s.vis.length:Int)+1:=by
 unfold lwW lP
 simp only
 rw[List.idxOf_append,if_neg hv,List.idxOf_cons_self,Nat.zero_add,aI _ _ (by rw[List.length_append];simp;omega),List.getElem_append_right oO]
 simp[hl]
theorem sJ{P R:List Nat}{i:Nat}(h:i∉R):gI (P++i::R) i=P.length:=by
 unfold gI
 rw[List.reverse_append,List.reverse_cons,List.append_assoc,List.idxOf_append,if_neg (by simpa using h)]
 simp
theorem iS{n:Nat}{S:List Nat}{i:Nat}:i∈oQ n S↔i<n∧i∈S:=by
 unfold oQ;rw[List.mem_filter,List.mem_range,decide_eq_true_iff]
theorem rL(n:Nat)(S:List Nat):(oQ n S).Pairwise (· < ·):=List.Pairwise.filter _ (List.pairwise_lt_range)
theorem rD{n:Nat}{S:List Nat}(hn:S.Nodup)(hl:∀ i∈S,i<n):(oQ n S).Perm S:=
 (List.perm_ext_iff_of_nodup ((rL n S).imp fun h=>Nat.ne_of_lt h) hn).2 fun i=>by rw[iS];exact⟨fun h=>h.2,fun h=>⟨hl i h,h⟩⟩
section
variable {g:Gr} (hg:GoodE g)
include hg
theorem aEh{i:Nat}{v:Int}(h:i∈atP g.es v):oth (eAt g.es i) v≠v:=aOh (hg.ne _ (uP (bF.1 h).1)) (bF.1 h).2
omit hg in
theorem tR.start{A:Int→Prop}{s:Bw}{v by_:Int}(h:tR g A s v by_):BLp g s v by_ [] (lP s v) [] [] [] where
 vis:=rfl
 nd:=by
  show(s.vis++[v]).Nodup
  rw[List.nodup_append]
  exact⟨h.nd,sS,fun a ha b hb=>by rintro rfl;rw[List.mem_singleton]at hb;subst hb;exact h.new ha⟩
 ln:=by show(s.low++[_]).length=(s.vis++[v]).length;simp[h.ln]
 low:=fun w hw=>aMb h.ln hw
 qs:=fun i hi=>by cases hi
 cloQ:=fun i hi=>by cases hi
 cloD:=fun i hi=>by cases hi
 stk:=by show s.stk=s.stk++[];simp
 out:=by show s.out=s.out++[];simp
 pl:=fun i=>by simp
 pn:=sS
 lw1:=by rw[aIC h.ln h.new];exact Int.le_refl _
 lwD:=fun i hi=>by cases hi
 lwQ:=fun i hi=>by cases hi
 lw3:=fun hl=>by rw[aIC h.ln h.new]at hl;omega
 rel:=fun i hi=>by cases hi
 good:=fun i hi=>by cases hi
 cn:=fun i hi=>by cases hi
theorem BLp.done{A:Int→Prop}{s0 s:Bw}{v by_:Int}{D:List Int}{T:List Nat}{N:List (List Nat)}(h0:tR g A s0 v by_)(h:BLp g s0 v by_ (atP g.es v) s D T N):aGp g s0 v by_ s (v::D) T N where
 vis:=h.vis
 hd:=sS
 nd:=h.nd
 ln:=h.ln
 low:=h.low
 clo:=fun c hc i hi=>by
  rcases List.mem_cons.1 hc with rfl|hc
  ·exact h.cloQ i hi
  ·exact h.cloD c hc i hi
 stk:=h.stk
 out:=h.out
 pl:=fun i=>by
  rw[h.pl i]
  refine⟨fun⟨h1,h2,h3⟩=>⟨h1,h2,?_⟩,fun⟨h1,h2,h3⟩=>⟨h1,h2,?_⟩⟩
  ·rcases h3 with(h3|h3)|⟨h3,_⟩
   ·exact .inl (List.mem_cons_of_mem _ h3)
   ·exact .inr (List.mem_cons_of_mem _ h3)
   ·rcases(bF.1 h3).2 with e|e
    ·exact .inl (by rw[e];simp)
    ·exact .inr (by rw[e];simp)
  ·by_cases hv:(eAt g.es i).a=v∨(eAt g.es i).b=v
   ·have hi:i∈atP g.es v:=bF.2 ⟨h1,hv⟩
    have hq:=h.cloQ i hi
    rw[h.vis,List.mem_append,List.mem_cons]at hq
    rcases hq with hq|hq|hq
    ·exact .inr ⟨hi,hq⟩
    ·exact absurd hq (aEh hg hi)
    ·refine .inl ?_
     rcases uY (eAt g.es i) v with e|e
     ·exact .inl (by rw[e];exact hq)
     ·exact .inr (by rw[e];exact hq)
   ·refine .inl (h3.imp (fun k=>?_) (fun k=>?_))
    ·exact(List.mem_cons.1 k).resolve_left fun e=>hv (.inl e)
    ·exact(List.mem_cons.1 k).resolve_left fun e=>hv (.inr e)
 pn:=h.pn
 lw1:=h.lw1
 lw2:=fun c hc i hi hb ho=>by
  have ho2:=ho
  rw[List.mem_cons,not_or]at ho2
  rcases List.mem_cons.1 hc with rfl|hc
  ·refine h.lwQ i hi hb ?_
   have hq:=h.cloQ i hi
   rw[h.vis,List.mem_append]at hq
   exact hq.resolve_right ho
  ·exact h.lwD c hc i hi ho2.2 ho2.1
 lw3:=h.lw3
 rel:=h.rel
 good:=h.good
 cn:=fun c hc=>by
  rcases List.mem_cons.1 hc with rfl|hc
  ·exact .refl sS
  ·exact(h.cn c hc).mono fun z hz=>List.mem_cons.2 hz
end
theorem uU{x:Ed}{L:List Int}{w:Int}(hw:w∈L)(he:x.a=w∨x.b=w)(ho:oth x w∈L):x.a∈L∧x.b∈L:=by
 have e1:=(gL he x.a).1 (.inl rfl)
 have e2:=(gL he x.b).1 (.inr rfl)
 exact⟨by rcases e1 with e|e<;>rw[e]<;>assumption,by rcases e2 with e|e<;>rw[e]<;>assumption⟩
section
variable {g:Gr} (hg:GoodE g) {A:Int→Prop} {s0 s:Bw} {v by_:Int} {Q:List Nat} {D:List Int} {T:List Nat} {N:List (List Nat)} (h0:tR g A s0 v by_) (h:BLp g s0 v by_ Q s D T N)
include hg h0 h
theorem BLp.v_in:v∈s.vis:=by rw[h.vis];simp
theorem BLp.old_in{w:Int}(hw:w∈s0.vis):w∈s.vis:=by rw[h.vis];exact List.mem_append_left _ hw
theorem BLp.d_in{w:Int}(hw:w∈D):w∈s.vis:=by rw[h.vis];simp[hw]
theorem BLp.by_out{b:Nat}(hb:by_=b):oth (eAt g.es b) v∈s0.vis∧b∈atP g.es v∧A (oth (eAt g.es b) v):=by
 rcases h0.par with⟨h1,_⟩|⟨i,h1,h2,h3⟩
 ·omega
 ·obtain rfl:i=b:=oO
  exact⟨h0.act _ h3,h2,h3⟩
theorem BLp.d_new{d:Int}(hd:d∈D):d∉s0.vis∧d≠v:=by
 have hn:=h.nd
 rw[h.vis,List.nodup_append]at hn
 refine⟨fun k=>hn.2.2 d k d (List.mem_cons_of_mem _ hd) rfl,fun e=>?_⟩
 subst e
 exact(List.nodup_cons.1 hn.2.1).1 hd
theorem BLp.pl_in{j:Nat}(hj:j∈T++N.flatten):(eAt g.es j).a∈s.vis∧(eAt g.es j).b∈s.vis:=by
 obtain⟨h1,_,h3⟩:=(h.pl j).1 hj
 rcases h3 with(k|k)|⟨k,ho⟩
 ·exact uU (h.d_in hg h0 k) (.inl rfl) (h.cloD _ k j (bF.2 ⟨h1,.inl rfl⟩))
 ·exact uU (h.d_in hg h0 k) (.inr rfl) (h.cloD _ k j (bF.2 ⟨h1,.inr rfl⟩))
 ·exact uU (h.v_in hg h0) (bF.1 (h.qs j k)).2 (h.cloQ j k)
theorem BLp.back_act{c:Int}(hc:c∉s0.vis){i:Nat}(hi:i∈atP g.es c)(ho:oth (eAt g.es i) c∈s0.vis):A (oth (eAt g.es i) c):=
 Classical.byContradiction fun hA=>hc (by
  have:=h0.fin _ ho hA i (uM hi)
  rwa [mZ (bF.1 hi).2]at this)
theorem BLp.same{i:Nat}(hi:i∈atP g.es v)(hb:(i:Int)=by_):BLp g s0 v by_ (Q++[i]) s D T N where
 vis:=h.vis
 nd:=h.nd
 ln:=h.ln
 low:=h.low
 qs:=fun j hj=>by rcases List.mem_append.1 hj with k|k;exact h.qs j k;rw[List.mem_singleton]at k;subst k;exact hi
 cloQ:=fun j hj=>by
  rcases List.mem_append.1 hj with k|k
  ·exact h.cloQ j k
  ·rw[List.mem_singleton]at k;subst k;exact h.old_in hg h0 (h.by_out hg h0 hb.symm).1
 cloD:=h.cloD
 stk:=h.stk
 out:=h.out
 pl:=fun j=>by
  rw[h.pl j,List.mem_append,List.mem_singleton]
  refine and_congr_right fun _=>and_congr_right fun hj=>or_congr_right ?_
  refine and_congr_left fun _=>⟨.inl,fun k=>k.resolve_right ?_⟩
  rintro rfl;exact hj hb
 pn:=h.pn
 lw1:=h.lw1
 lwD:=h.lwD
 lwQ:=fun j hj hjb=>by
  rcases List.mem_append.1 hj with k|k
  ·exact h.lwQ j k hjb
  ·rw[List.mem_singleton]at k;subst k;exact absurd hb hjb
 lw3:=h.lw3
 rel:=h.rel
 good:=h.good
 cn:=h.cn
theorem BLp.skip{i:Nat}(hi:i∈atP g.es v)(hin:oth (eAt g.es i) v∈s.vis)(hn:¬nmW s.vis (oth (eAt g.es i) v)<(s0.vis.length:Int)+1):BLp g s0 v by_ (Q++[i]) s D T N:=by
 have hout:oth (eAt g.es i) v∉s0.vis:=fun k=>hn (by rw[h.vis,aBC k];exact aKA k)
 exact {
 vis:=h.vis
 nd:=h.nd
 ln:=h.ln
 low:=h.low
 qs:=fun j hj=>by rcases List.mem_append.1 hj with k|k;exact h.qs j k;rw[List.mem_singleton]at k;subst k;exact hi
 cloQ:=fun j hj=>by
  rcases List.mem_append.1 hj with k|k
  ·exact h.cloQ j k
  ·rw[List.mem_singleton]at k;subst k;exact hin
 cloD:=h.cloD
 stk:=h.stk
 out:=h.out
 pl:=fun j=>by
  rw[h.pl j,List.mem_append,List.mem_singleton]
  refine and_congr_right fun _=>and_congr_right fun hj=>or_congr_right ?_
  refine⟨fun k=>⟨.inl k.1,k.2⟩,fun k=>⟨k.1.resolve_right ?_,k.2⟩⟩
  rintro rfl;exact hout k.2
 pn:=h.pn
 lw1:=h.lw1
 lwD:=h.lwD
 lwQ:=fun j hj hjb=>by
  rcases List.mem_append.1 hj with k|k
  ·exact h.lwQ j k hjb
  ·rw[List.mem_singleton]at k;subst k;exact fun k2=>absurd k2 hout
 lw3:=h.lw3
 rel:=h.rel
 good:=h.good
 cn:=h.cn }
theorem BLp.act_to{b:Nat}(hb:by_=b){a:Int}(ha:A a):RIn g.es (·≠v) a (oth (eAt g.es b) v):=
 (h0.con _ _ ha (h.by_out hg h0 hb).2.2).mono fun z hz e=>by subst e;exact h0.new (h0.act _ hz)
theorem BLp.no_root{a:Int}(ha:A a):∃ b:Nat,by_=b:=by
 rcases h0.par with⟨_,h2⟩|⟨b,h2,_⟩
 ·exact absurd ha (h2 a)
 ·exact⟨b,h2⟩
theorem BLp.back{i:Nat}(hi:i∈atP g.es v)(hiQ:i∉Q)(hib:(i:Int)≠by_)(hin:oth (eAt g.es i) v∈s.vis)(hn:nmW s.vis (oth (eAt g.es i) v)<(s0.vis.length:Int)+1):
 BLp g s0 v by_ (Q++[i]) (kH (dL s i) v (min (lwW s v) (nmW s.vis (oth (eAt g.es i) v)))) D (T++[i]) N:=by
 have hold:oth (eAt g.es i) v∈s0.vis:=Classical.byContradiction fun k=>by
  have h1:=hin
  rw[h.vis,List.mem_append]at h1
  have:=aFr k (h1.resolve_left k)
  rw[h.vis]at hn
  omega
 have hA:=h.back_act hg h0 h0.new hi hold
 have hvs:=h.v_in hg h0
 have hnm:nmW s.vis (oth (eAt g.es i) v)=nmW s0.vis (oth (eAt g.es i) v):=by rw[h.vis,aBC hold]
 have hlw:∀ w∈s.vis,∀ x,lwW (kH (dL s i) v x) w=if w=v then x else lwW s w:=fun w hw x=>aAR (s:=dL s i) h.ln hvs hw
 have hnew:i∉T++N.flatten:=fun k=>by
  obtain⟨_,_,h3⟩:=(h.pl i).1 k
  rcases h3 with(k2|k2)|⟨k2,_⟩
  ·rcases(gL (bF.1 hi).2 _).1 (.inl rfl)with e|e
   ·rw[e]at k2;exact(h.d_new hg h0 k2).2 rfl
   ·rw[e]at k2;exact(h.d_new hg h0 k2).1 hold
  ·rcases(gL (bF.1 hi).2 _).1 (.inr rfl)with e|e
   ·rw[e]at k2;exact(h.d_new hg h0 k2).2 rfl
   ·rw[e]at k2;exact(h.d_new hg h0 k2).1 hold
  ·exact hiQ k2
 exact {
 vis:=h.vis
 nd:=h.nd
 ln:=by show(s.low.set _ _).length=_;rw[List.length_set];exact h.ln
 low:=fun w hw=>by rw[hlw w (h.old_in hg h0 hw),if_neg (fun e=>h0.new (by rw[← e];exact hw))];exact h.low w hw
 qs:=fun j hj=>by rcases List.mem_append.1 hj with k|k;exact h.qs j k;rw[List.mem_singleton]at k;subst k;exact hi
 cloQ:=fun j hj=>by
  rcases List.mem_append.1 hj with k|k
  ·exact h.cloQ j k
  ·rw[List.mem_singleton]at k;subst k;exact hin
 cloD:=h.cloD
 stk:=by show s.stk++[i]=_;rw[h.stk,List.append_assoc]
 out:=h.out
 pl:=fun j=>by
  rw[List.append_assoc,List.mem_append,List.mem_append,or_left_comm,← List.mem_append,h.pl j,List.mem_singleton,List.mem_append,List.mem_singleton]
  constructor
  ·rintro(rfl|⟨k1,k2,k3⟩)
   ·exact⟨(bF.1 hi).1,hib,.inr ⟨.inr rfl,hold⟩⟩
   ·exact⟨k1,k2,k3.imp_right fun k=>⟨.inl k.1,k.2⟩⟩
  ·rintro⟨k1,k2,k3|⟨k3|k3,k4⟩⟩
   ·exact .inr ⟨k1,k2,.inl k3⟩
   ·exact .inr ⟨k1,k2,.inr ⟨k3,k4⟩⟩
   ·exact .inl k3
 pn:=by
  rw[List.append_assoc]
  refine((List.perm_middle (a:=i) (l₁:=T) (l₂:=N.flatten)).nodup_iff).2 ?_
  exact List.nodup_cons.2 ⟨hnew,h.pn⟩
 lw1:=by rw[hlw v hvs,if_pos rfl];have:=h.lw1;omega
 lwD:=fun c hc j hj h1 h2=>by rw[hlw v hvs,if_pos rfl];have:=h.lwD c hc j hj h1 h2;omega
 lwQ:=fun j hj hjb ho=>by
  rw[hlw v hvs,if_pos rfl]
  rcases List.mem_append.1 hj with k|k
  ·have:=h.lwQ j k hjb ho;omega
  ·rw[List.mem_singleton]at k;subst k;omega
 lw3:=fun hl=>by
  rw[hlw v hvs,if_pos rfl]at hl ⊢
  by_cases hmin:lwW s v≤nmW s.vis (oth (eAt g.es i) v)
  ·rw[Int.min_eq_left hmin]at hl ⊢
   exact h.lw3 hl
  ·rw[Int.min_eq_right oO]at hl ⊢
   exact⟨v,sS,i,hi,hib,hold,hnm.symm⟩
 rel:=fun j hj=>by
  rcases List.mem_append.1 hj with k|k
  ·exact h.rel j k
  ·rw[List.mem_singleton]at k;subst k
   obtain⟨b,hb⟩:=h.no_root hg h0 hA
   obtain⟨_,b2,_⟩:=h.by_out hg h0 hb
   exact⟨b,hb,.step .refl (bF.1 b2).1 (bF.1 hi).1 ⟨v,(bF.1 b2).2,(bF.1 hi).2,(h.act_to hg h0 hb hA).symm⟩⟩
 good:=h.good
 cn:=h.cn }
end
section
variable {g:Gr} (hg:GoodE g) {A:Int→Prop} {s0 s:Bw} {v by_:Int} {Q:List Nat} {D:List Int} {T:List Nat} {N:List (List Nat)} (h0:tR g A s0 v by_) (h:BLp g s0 v by_ Q s D T N)
include hg h0 h
theorem BLp.pre{i:Nat}(hi:i∈atP g.es v)(hout:oth (eAt g.es i) v∉s.vis):tR g (fun a=>A a∨a=v) (dL s i) (oth (eAt g.es i) v) i where
 ln:=h.ln
 nd:=h.nd
 act:=fun a ha=>by
  rcases ha with ha|e
  ·exact h.old_in hg h0 (h0.act _ ha)
  ·show a∈s.vis;rw[e];exact h.v_in hg h0
 fin:=fun w hw hA j hj=>by
  have hw2:w∈s.vis:=hw
  show oth (eAt g.es j) w∈s.vis
  rw[h.vis,List.mem_append,List.mem_cons]at hw2
  rcases hw2 with k|k|k
  ·exact h.old_in hg h0 (h0.fin w k (fun x=>hA (.inl x)) j hj)
  ·exact absurd (.inr k) hA
  ·exact h.cloD w k j hj
 new:=hout
 con:=by
  have up:∀ a b,A a→A b→RIn g.es (fun a=>A a∨a=v) a b:=fun a b ha hb=>(h0.con a b ha hb).mono fun z hz=>.inl hz
  have tov:∀ a,A a→RIn g.es (fun a=>A a∨a=v) a v:=fun a ha=>by
   obtain⟨b,hb⟩:=h.no_root hg h0 ha
   obtain⟨_,b2,b3⟩:=h.by_out hg h0 hb
   exact .step (up a _ ha b3) (pY (pG b2)) (.inr rfl)
  rintro a b (ha|rfl) (hb|rfl)
  ·exact up a b ha hb
  ·exact tov a ha
  ·exact(tov b hb).symm
  ·exact .refl (.inr rfl)
 par:=.inr ⟨i,rfl,uM hi,.inr (mZ (bF.1 hi).2)⟩
theorem BLp.child{i:Nat}(hi:i∈atP g.es v)(hiQ:i∉Q)(hib:(i:Int)≠by_)(hout:oth (eAt g.es i) v∉s.vis){s1:Bw}{C:List Int}{T':List Nat}{N':List (List Nat)}
 (hp:aGp g (dL s i) (oth (eAt g.es i) v) i s1 C T' N'):∃ s2 D2 T2 N2,aHa g.es.length v ((s0.vis.length:Int)+1) i (oth (eAt g.es i) v) s1=some s2∧BLp g s0 v by_ (Q++[i]) s2 D2 T2 N2:=by
 obtain⟨u,hu⟩:∃ u,u=oth (eAt g.es i) v:=⟨_,rfl⟩
 have hvs:=h.v_in hg h0
 have hvis:s1.vis=s.vis++C:=hp.vis
 have hvis2:s1.vis=s0.vis++v::(D++C):=by rw[hvis,h.vis,List.append_assoc];rfl
 have hv1:v∈s1.vis:=by rw[hvis];exact List.mem_append_left _ hvs
 have hcn:∀ c∈C,c∉s.vis:=fun c hc k=>by
  have:=hp.nd
  rw[hvis,List.nodup_append]at this
  exact this.2.2 c k c hc rfl
 have hend:(eAt g.es i).a=v∨(eAt g.es i).b=v:=(bF.1 hi).2
 have hil:=(bF.1 hi).1
 have huC:u∈C:=by rw[hu];exact hp.hd
 have hu1:u∈s1.vis:=by rw[hvis];exact List.mem_append_right _ huC
 have huv:u≠v:=by rw[hu];exact aEh hg hi
 have hlen:s.vis.length=s0.vis.length+1+D.length:=by rw[h.vis,List.length_append,List.length_cons];omega
 have hlv:lwW s1 v=lwW s v:=hp.low v hvs
 -- ends
 have inS:∀ {j:Nat},j∈T++N.flatten→¬((eAt g.es j).a∈C∨(eAt g.es j).b∈C):=fun hj k=>by
  have:=h.pl_in hg h0 hj
  rcases k with k|k
  ·exact hcn _ k this.1
  ·exact hcn _ k this.2
 have byC:∀ b:Nat,by_=b→¬((eAt g.es b).a∈C∨(eAt g.es b).b∈C):=fun b hb k=>by
  obtain⟨b1,b2,_⟩:=h.by_out hg h0 hb
  have:=uU hvs (bF.1 b2).2 (h.old_in hg h0 b1)
  rcases k with k|k
  ·exact hcn _ k this.1
  ·exact hcn _ k this.2
 have iC:(eAt g.es i).a∈C∨(eAt g.es i).b∈C:=by
  rcases uY (eAt g.es i) v with e|e
  ·exact .inl (by rw[e,← hu];exact huC)
  ·exact .inr (by rw[e,← hu];exact huC)
 have iT':i∉T'++N'.flatten:=fun k=>((hp.pl i).1 k).2.1 rfl
 -- the places that are new
 have hnew:∀ j,(j=i∨j∈T'++N'.flatten)↔j<g.es.length∧((eAt g.es j).a∈C∨(eAt g.es j).b∈C):=fun j=>by
  rw[hp.pl j]
  constructor
  ·rintro(rfl|⟨k1,_,k3⟩)
   ·exact⟨hil,iC⟩
   ·exact⟨k1,k3⟩
  ·rintro⟨k1,k3⟩
   by_cases e:j=i
   ·exact .inl e
   ·exact .inr ⟨k1,fun k=>e oO,k3⟩
 have hpl:∀ j,(j∈T++N.flatten∨(j=i∨j∈T'++N'.flatten))↔j<g.es.length∧(j:Int)≠by_∧(((eAt g.es j).a∈D++C∨(eAt g.es j).b∈D++C)∨(j∈Q++[i]∧oth (eAt g.es j) v∈s0.vis)):=fun j=>by
  rw[h.pl j,hnew j]
  simp only[List.mem_append,List.mem_singleton]
  constructor
  ·rintro(⟨k1,k2,(k3|k3)|⟨k3,k4⟩⟩|⟨k1,k3⟩)
   ·exact⟨k1,k2,.inl (.inl (.inl k3))⟩
   ·exact⟨k1,k2,.inl (.inr (.inl k3))⟩
   ·exact⟨k1,k2,.inr ⟨.inl k3,k4⟩⟩
   ·exact⟨k1,fun e=>byC j e.symm k3,.inl (k3.imp .inr .inr)⟩
  ·rintro⟨k1,k2,((k3|k3)|(k3|k3))|⟨k3|k3,k4⟩⟩
   ·exact .inl ⟨k1,k2,.inl (.inl k3)⟩
   ·exact .inr ⟨k1,.inl k3⟩
   ·exact .inl ⟨k1,k2,.inl (.inr k3)⟩
   ·exact .inr ⟨k1,.inr k3⟩
   ·exact .inl ⟨k1,k2,.inr ⟨k3,k4⟩⟩
   ·subst k3;exact absurd (h.old_in hg h0 k4) hout
 have hnd:((T++N.flatten)++i::(T'++N'.flatten)).Nodup:=by
  rw[List.nodup_append]
  refine⟨h.pn,List.nodup_cons.2 ⟨iT',hp.pn⟩,fun a ha b hb=>?_⟩
  rintro rfl
  exact inS ha ((hnew a).1 (List.mem_cons.1 hb)).2
 -- low numbers
 have hset:∀ x,∀ w∈s1.vis,lwW (kH s1 v x) w=if w=v then x else lwW s1 w:=fun x w hw=>aAR hp.ln hv1 hw
 have hold1:∀ w∈s0.vis,w≠v:=fun w hw e=>h0.new (by rw[← e];exact hw)
 have nm0:∀ w∈s0.vis,nmW s.vis w=nmW s0.vis w:=fun w hw=>by rw[h.vis,aBC hw]
 have wit:lwW s1 u<(s0.vis.length:Int)+1→∃ c∈C,∃ j∈atP g.es c,j≠i∧oth (eAt g.es j) c∈s0.vis∧nmW s0.vis (oth (eAt g.es j) c)=lwW s1 u:=fun hl=>by
  have hl2:lwW s1 u<((dL s i).vis.length:Int)+1:=by show _<(s.vis.length:Int)+1;omega
  rw[hu]at hl2
  obtain⟨c,hc,j,hj,hji,ho,he⟩:=hp.lw3 hl2
  have he:nmW s.vis (oth (eAt g.es j) c)=lwW s1 u:=by rw[hu];exact he
  have hin:oth (eAt g.es j) c∈s.vis:=ho
  have h1:oth (eAt g.es j) c∈s0.vis:=Classical.byContradiction fun k=>by
   have h2:=hin
   rw[h.vis,List.mem_append]at h2
   have:=aFr k (h2.resolve_left k)
   rw[← h.vis]at this
   omega
  exact⟨c,hc,j,hj,fun e=>hji oO,h1,by rw[← nm0 _ h1];exact he⟩
 have base:∀(s2:Bw) (T2:List Nat) (N2:List (List Nat)),s2.vis=s1.vis→s2.low=(kH s1 v (min (lwW s1 v) (lwW s1 u))).low→s2.stk=s0.stk++T2→s2.out=s0.out++N2→
  (T2++N2.flatten).Perm ((T++N.flatten)++i::(T'++N'.flatten))→(∀ j∈T2,∃ b:Nat,by_=b∧jY g.es b j)→(∀ B∈N2,iT g.es B)→BLp g s0 v by_ (Q++[i]) s2 (D++C) T2 N2:=fun s2 T2 N2 e1 e2 e3 e4 hperm hrel hgood=>by
  have hlw:∀ w∈s1.vis,lwW s2 w=if w=v then min (lwW s1 v) (lwW s1 u)else lwW s1 w:=fun w hw=>by
   rw[← hset _ w hw];unfold lwW;rw[e1,e2];rfl
  exact {
  vis:=by rw[e1,hvis2]
  nd:=by rw[e1];exact hp.nd
  ln:=by rw[e1,e2];show(s1.low.set _ _).length=_;rw[List.length_set];exact hp.ln
  low:=fun w hw=>by
   have hw1:=h.old_in hg h0 hw
   rw[hlw w (by rw[hvis];exact List.mem_append_left _ hw1),if_neg (hold1 w hw),hp.low w hw1]
   exact h.low w hw
  qs:=fun j hj=>by rcases List.mem_append.1 hj with k|k;exact h.qs j k;rw[List.mem_singleton]at k;subst k;exact hi
  cloQ:=fun j hj=>by
   rw[e1]
   rcases List.mem_append.1 hj with k|k
   ·rw[hvis];exact List.mem_append_left _ (h.cloQ j k)
   ·rw[List.mem_singleton]at k;subst k;rw[← hu];exact hu1
  cloD:=fun c hc j hj=>by
   rw[e1]
   rcases List.mem_append.1 hc with k|k
   ·rw[hvis];exact List.mem_append_left _ (h.cloD c k j hj)
   ·exact hp.clo c k j hj
  stk:=e3
  out:=e4
  pl:=fun j=>by rw[hperm.mem_iff,← hpl j,List.mem_append,List.mem_cons]
  pn:=hperm.nodup_iff.2 hnd
  lw1:=by rw[hlw v hv1,if_pos rfl,hlv];have:=h.lw1;omega
  lwD:=fun c hc j hj h1 h2=>by
   rw[hlw v hv1,if_pos rfl,hlv]
   rw[List.mem_append,not_or]at h1
   rcases List.mem_append.1 hc with k|k
   ·have:=h.lwD c k j hj h1.1 h2;omega
   ·have hji:(j:Int)≠i:=fun e=>by
     obtain rfl:j=i:=oO
     rcases(gL hend c).1 (bF.1 hj).2 with e|e
     ·subst e;exact hcn _ k hvs
     ·exact h2 (by rw[e];exact mZ hend)
    have h3:=hp.lw2 c k j hj hji h1.2
    have h4:lwW s1 u≤nmW s.vis (oth (eAt g.es j) c):=by rw[hu];exact h3
    have hin:=hp.clo c k j hj
    rw[hvis2,List.mem_append,List.mem_cons,List.mem_append]at hin
    have hin:=hin.resolve_right fun x=>by rcases x with x|x|x;exact h2 x;exact h1.1 x;exact h1.2 x
    rw[nm0 _ hin]at h4
    omega
  lwQ:=fun j hj hjb ho=>by
   rw[hlw v hv1,if_pos rfl,hlv]
   rcases List.mem_append.1 hj with k|k
   ·have:=h.lwQ j k hjb ho;omega
   ·rw[List.mem_singleton]at k;subst k;exact absurd (h.old_in hg h0 ho) hout
  lw3:=fun hl=>by
   rw[hlw v hv1,if_pos rfl]at hl ⊢
   by_cases hmin:lwW s1 v≤lwW s1 u
   ·rw[Int.min_eq_left hmin,hlv]at hl ⊢
    obtain⟨c,hc,j,hj,hjb,ho,he⟩:=h.lw3 hl
    exact⟨c,by rcases List.mem_cons.1 hc with k|k<;>simp[k],j,hj,hjb,ho,he⟩
   ·rw[Int.min_eq_right oO]at hl ⊢
    obtain⟨c,hc,j,hj,hji,ho,he⟩:=wit hl
    refine⟨c,by simp[hc],j,hj,fun e=>byC j e.symm ?_,ho,he⟩
    rcases(bF.1 hj).2 with x|x
    ·exact .inl (by rw[x];exact hc)
    ·exact .inr (by rw[x];exact hc)
  rel:=hrel
  good:=hgood
  cn:=fun c hc=>by
   rcases List.mem_append.1 hc with k|k
   ·exact(h.cn c k).mono fun z hz=>hz.imp_right fun x=>List.mem_append_left _ x
   ·have h1:=(hp.cn c k).mono (S':=fun x=>x=v∨x∈D++C) fun z hz=>.inr (List.mem_append_right _ hz)
    exact(RIn.step (.refl (.inl rfl)) (pG hi) (.inr (List.mem_append_right _ (by rw[← hu];exact huC)))).trans h1 }
 rw[← hu]
 unfold aHa
 by_cases hc:(s0.vis.length:Int)+1≤lwW s1 u
 ·rw[if_pos hc]
  have hstk:s1.stk=(s0.stk++T)++i::T':=by rw[hp.stk];show(s.stk++[i])++T'=_;rw[h.stk];simp
  have hiT:i∉T':=fun k=>iT' (List.mem_append_left _ k)
  have hlp:gI s1.stk i=(s0.stk++T).length:=by rw[hstk];exact sJ hiT
  have hSn:(i::T').Nodup:=List.nodup_cons.2 ⟨hiT,(List.nodup_append.1 hp.pn).1⟩
  have hSl:∀ j∈i::T',j<g.es.length:=fun j hj=>by
   have:j=i∨j∈T'++N'.flatten:=(List.mem_cons.1 hj).imp_right fun k=>List.mem_append_left _ k
   exact((hnew j).1 this).1
  have hbp:=rD hSn hSl
  have hrelS:∀ j∈i::T',jY g.es i j:=fun j hj=>by
   rcases List.mem_cons.1 hj with e|k
   ·rw[e];exact .refl
   ·obtain⟨b,hb,hr⟩:=hp.rel j k
    obtain rfl:i=b:=oO
    exact hr
  -- all that stays behind v
  have hlu:∀ c∈C,∀ j∈atP g.es c,oth (eAt g.es j) c∈C∨oth (eAt g.es j) c=v:=fun c hcC j hj=>by
   by_cases e1:oth (eAt g.es j) c∈C
   ·exact .inl e1
   refine .inr (Classical.byContradiction fun e2=>?_)
   by_cases hji:(j:Int)=i
   ·obtain rfl:j=i:=oO
    rcases(gL hend c).1 (bF.1 hj).2 with e|e
    ·subst e;exact hcn _ hcC hvs
    ·exact e2 (by rw[e];exact mZ hend)
   ·have h3:=hp.lw2 c hcC j hj hji e1
    have h4:lwW s1 u≤nmW s.vis (oth (eAt g.es j) c):=by rw[hu];exact h3
    have hin:=hp.clo c hcC j hj
    rw[hvis]at hin
    have hin:=(List.mem_append.1 hin).resolve_right e1
    have hold:oth (eAt g.es j) c∈s0.vis∨oth (eAt g.es j) c∈D:=by
     rw[h.vis,List.mem_append,List.mem_cons]at hin
     rcases hin with k|k|k
     ·exact .inl k
     ·exact absurd k e2
     ·exact .inr k
    rcases hold with k|k
    ·rw[nm0 _ k]at h4
     have:=aKA k
     omega
    ·have:=h.cloD _ k j (uM hj)
     rw[mZ (bF.1 hj).2]at this
     exact hcn _ hcC this
  have hgood:iT g.es (oQ g.es.length (i::T')):={
   ne:=fun e=>by
    have:i∈oQ g.es.length (i::T'):=iS.2 ⟨hil,sS⟩
    rw[e]at this;cases this
   rise:=rL _ _
   lt:=fun j hj=>(iS.1 hj).1
   rel:=fun j hj k hk=>(hrelS j (iS.1 hj).2).symm.trans (hrelS k (iS.1 hk).2)
   all:=fun j hj k hk hr=>by
    have hjS:=(iS.1 hj).2
    have hjC:=((hnew j).1 ((List.mem_cons.1 hjS).imp_right fun x=>List.mem_append_left _ x)).2
    -- k ends behind v, too
    have hkC:(eAt g.es k).a∈C∨(eAt g.es k).b∈C:=by
     obtain⟨w,w1,w2,w3⟩:=hr
     have hjw:j∈atP g.es w:=bF.2 ⟨hSl j hjS,w1⟩
     have hkw:k∈atP g.es w:=bF.2 ⟨hk,w2⟩
     by_cases hwC:w∈C
     ·rcases w2 with e|e
      ·exact .inl (by rw[e];exact hwC)
      ·exact .inr (by rw[e];exact hwC)
     have hoC:oth (eAt g.es j) w∈C:=by
      rcases hjC with x|x
      ·rcases(gL w1 _).1 (.inl rfl)with e|e
       ·exact absurd (by rw[← e];exact x) hwC
       ·rw[← e];exact x
      ·rcases(gL w1 _).1 (.inr rfl)with e|e
       ·exact absurd (by rw[← e];exact x) hwC
       ·rw[← e];exact x
     have hwv:w=v:=by
      have:=hlu _ hoC j (uM hjw)
      rw[mZ w1]at this
      exact this.resolve_left hwC
     subst hwv
     have hq:oth (eAt g.es k) w∈C:=w3.closed (L:=(·∈C)) hoC fun z hz x hx hne=>by
      obtain⟨l,hl,rfl⟩:=aMK hx
      exact(hlu z hz l hl).resolve_right hne
     rcases uY (eAt g.es k) w with e|e
     ·exact .inl (by rw[e];exact hq)
     ·exact .inr (by rw[e];exact hq)
    refine iS.2 ⟨hk,?_⟩
    rcases(hnew k).2 ⟨hk,hkC⟩with e|e
    ·rw[e];simp
    ·rcases List.mem_append.1 e with e|e
     ·exact List.mem_cons_of_mem _ e
     ·obtain⟨B,hB,hkB⟩:=List.mem_flatten.1 e
      have hjB:=(hp.good B hB).all k hkB j (hSl j hjS) hr.symm
      have hjN:j∈N'.flatten:=List.mem_flatten.2 ⟨B,hB,hjB⟩
      exfalso
      rcases List.mem_cons.1 hjS with e|e
      ·exact iT' (by rw[← e];exact List.mem_append_right _ hjN)
      ·exact(List.nodup_append.1 hp.pn).2.2 j e j hjN rfl }
  have hcut:aDv g.es.length (kH s1 v (min (lwW s1 v) (lwW s1 u))) i=some { kH s1 v (min (lwW s1 v) (lwW s1 u))with stk:=s0.stk++T,out:=s0.out++(N++N'++[oQ g.es.length (i::T')]) }:=by
   unfold aDv
   have e1:(kH s1 v (min (lwW s1 v) (lwW s1 u))).stk=s1.stk:=rfl
   have e2:(kH s1 v (min (lwW s1 v) (lwW s1 u))).out=s1.out:=rfl
   rw[e1,e2,hlp,if_pos (by rw[hstk];simp),hstk,List.take_left,List.drop_left,hp.out]
   show some _=some _
   have:(dL s i).out=s0.out++N:=h.out
   rw[this]
   simp only[List.append_assoc]
  refine⟨_,D++C,T,N++N'++[oQ g.es.length (i::T')],hcut,base _ _ _ rfl rfl rfl rfl ?_ h.rel ?_⟩
  ·simp only[List.flatten_append,List.flatten_cons,List.flatten_nil,List.append_nil,List.append_assoc]
   refine List.Perm.append_left _ (List.Perm.append_left _ ?_)
   refine List.perm_append_comm.trans ?_
   exact(hbp.append_right _)
  ·intro B hB
   rcases List.mem_append.1 hB with hB|hB
   ·rcases List.mem_append.1 hB with hB|hB
    ·exact h.good B hB
    ·exact hp.good B hB
   ·rw[List.mem_singleton]at hB;rw[hB];exact hgood
 ·rw[if_neg hc]
  have hl:lwW s1 u<(s0.vis.length:Int)+1:=oO
  obtain⟨c,hcC,j,hj,hji,ho,he⟩:=wit hl
  have hA:=h.back_act hg h0 (c:=c) (fun k=>hcn c hcC (h.old_in hg h0 k)) hj ho
  obtain⟨b,hb⟩:=h.no_root hg h0 hA
  obtain⟨_,b2,_⟩:=h.by_out hg h0 hb
  have hbi:jY g.es b i:=by
   refine .step .refl (bF.1 b2).1 hil ⟨v,(bF.1 b2).2,hend,?_⟩
   refine(((hp.cn c hcC).mono fun z hz=>?_).trans (.step (.refl ?_) (pG hj) ?_) |>.trans (h.act_to hg h0 hb hA)).symm
   ·intro e;subst e;exact hcn _ hz hvs
   ·intro e;subst e;exact hcn _ hcC hvs
   ·exact hold1 _ ho
  refine⟨_,D++C,T++(i::T'),N++N',rfl,base _ _ _ rfl rfl ?_ ?_ ?_ ?_ ?_⟩
  ·show s1.stk=_
   rw[hp.stk];show(s.stk++[i])++T'=_;rw[h.stk];simp
  ·show s1.out=_
   rw[hp.out];show s.out++N'=_;rw[h.out];simp
  ·simp only[List.flatten_append,List.append_assoc,List.cons_append]
   refine List.Perm.append_left _ ?_
   have:(i::(T'++(N.flatten++N'.flatten))).Perm (N.flatten++(i::(T'++N'.flatten))):=by
    refine List.Perm.trans ?_ List.perm_middle.symm
    refine List.Perm.cons _ ?_
    rw[← List.append_assoc,← List.append_assoc]
    exact List.Perm.append_right _ List.perm_append_comm
   exact this
  ·intro k hk
   rcases List.mem_append.1 hk with hk|hk
   ·exact h.rel k hk
   ·refine⟨b,hb,hbi.trans ?_⟩
    rcases List.mem_cons.1 hk with e|e
    ·rw[e];exact .refl
    ·obtain⟨b',hb',hr⟩:=hp.rel k e
     obtain rfl:i=b':=oO
     exact hr
  ·intro B hB
   rcases List.mem_append.1 hB with hB|hB
   ·exact h.good B hB
   ·exact hp.good B hB
end
section
variable {g:Gr} (hg:GoodE g)
include hg
theorem aFY(n:Nat)(ih:∀(A:Int→Prop) (s:Bw) (v by_:Int),tR g A s v by_→v∈g.vs→(∀ w∈s.vis,w∈g.vs)→g.vs.length≤n+s.vis.length→∃ s1 C T N,lA g.es n v by_ s=some s1∧aGp g s v by_ s1 C T N∧∀ c∈C,c∈g.vs)
 {A:Int→Prop} {s0:Bw} {v by_:Int} (h0:tR g A s0 v by_) (hn:g.vs.length≤n+(s0.vis.length+1)):
 ∀(R Q:List Nat) (s:Bw) (D:List Int) (T:List Nat) (N:List (List Nat)),Q++R=atP g.es v→BLp g s0 v by_ Q s D T N→(∀ w∈s.vis,w∈g.vs)→
  ∃ s1 D T N,goB (fB (lA g.es n) g.es v by_ ((s0.vis.length:Int)+1)) R s=some s1∧BLp g s0 v by_ (atP g.es v) s1 D T N∧∀ w∈s1.vis,w∈g.vs
 |[],Q,s,D,T,N,hQ,h,hv=>⟨s,D,T,N,rfl,by rw[List.append_nil]at hQ;rw[← hQ];exact h,hv⟩
 |i::R,Q,s,D,T,N,hQ,h,hv=>by
  have hi:i∈atP g.es v:=by rw[← hQ];simp
  have hnd:(atP g.es v).Nodup:=List.Pairwise.filter _ List.nodup_range
  have hiQ:i∉Q:=fun k=>by rw[← hQ,List.nodup_append]at hnd;exact hnd.2.2 i k i sS rfl
  have hQ2:(Q++[i])++R=atP g.es v:=by rw[← hQ];simp
  have go:∀ s2 D T N,fB (lA g.es n) g.es v by_ ((s0.vis.length:Int)+1) s i=some s2→BLp g s0 v by_ (Q++[i]) s2 D T N→(∀ w∈s2.vis,w∈g.vs)→∃ s1 D T N,goB (fB (lA g.es n) g.es v by_ ((s0.vis.length:Int)+1)) (i::R) s=some s1∧BLp g s0 v by_ (atP g.es v) s1 D T N∧∀ w∈s1.vis,w∈g.vs:=fun s2 D T N e h2 hv2=>by
   obtain⟨s1,D1,T1,N1,k1,k2,k3⟩:=aFY n ih h0 hn R (Q++[i]) s2 D T N hQ2 h2 hv2
   exact⟨s1,D1,T1,N1,by rw[goB,e];exact k1,k2,k3⟩
  by_cases hb:(i:Int)=by_
  ·exact go s D T N (by unfold fB;rw[if_pos hb]) (h.same hg h0 hi hb) hv
  by_cases hin:oth (eAt g.es i) v∈s.vis
  ·by_cases hnm:nmW s.vis (oth (eAt g.es i) v)<(s0.vis.length:Int)+1
   ·exact go _ D _ N (by unfold fB;rw[if_neg hb,if_pos hin,if_pos hnm]) (h.back hg h0 hi hiQ hb hin hnm) hv
   ·exact go s D T N (by unfold fB;rw[if_neg hb,if_pos hin,if_neg hnm]) (h.skip hg h0 hi hin hnm) hv
  ·have hlen:s.vis.length=s0.vis.length+1+D.length:=by rw[h.vis,List.length_append,List.length_cons];omega
   have huv:oth (eAt g.es i) v∈g.vs:=hg.nbr (pG hi)
   obtain⟨s1,C,T',N',e,hp,hC⟩:=ih _ (dL s i) _ i (h.pre hg h0 hi hin) huv hv (by show g.vs.length≤n+s.vis.length;omega)
   obtain⟨s2,D2,T2,N2,e2,h2⟩:=h.child hg h0 hi hiQ hb hin hp
   refine go s2 D2 T2 N2 (by unfold fB;rw[if_neg hb,if_neg hin,e];exact e2) h2 fun w hw=>?_
   have e3:s2.vis=s1.vis:=by
    unfold aHa at e2
    split at e2
    ·unfold aDv at e2
     split at e2
     ·cases e2;rfl
     ·cases e2
    ·cases e2;rfl
   rw[e3,hp.vis,List.mem_append]at hw
   exact hw.elim (hv w) (hC w)
theorem aAE:∀(n:Nat) (A:Int→Prop) (s:Bw) (v by_:Int),tR g A s v by_→v∈g.vs→(∀ w∈s.vis,w∈g.vs)→g.vs.length≤n+s.vis.length→∃ s1 C T N,lA g.es n v by_ s=some s1∧aGp g s v by_ s1 C T N∧∀ c∈C,c∈g.vs
 |0,A,s,v,by_,h,hv,hs,hn=>by
  have h1:(s.vis++[v]).length≤g.vs.length:=List.Nodup.length_le_of_subset (by
   rw[List.nodup_append]
   exact⟨h.nd,sS,fun a ha b hb=>by rintro rfl;rw[List.mem_singleton]at hb;subst hb;exact h.new ha⟩) fun w hw=>by
    rcases List.mem_append.1 hw with k|k
    ·exact hs w k
    ·rw[List.mem_singleton]at k;rw[k];exact hv
  simp at h1
  omega
 |n+1,A,s,v,by_,h,hv,hs,hn=>by
  obtain⟨s1,D,T,N,e,h1,hs1⟩:=aFY hg n (aAE n) h oO (atP g.es v) [] (lP s v) [] [] [] rfl h.start fun w hw=>by
   have hw:w∈s.vis++[v]:=hw
   rcases List.mem_append.1 hw with k|k
   ·exact hs w k
   ·rw[List.mem_singleton]at k;rw[k];exact hv
  have hp:=h1.done hg h
  exact⟨s1,_,T,N,e,hp,fun c hc=>hs1 c (by rw[hp.vis];exact List.mem_append_right _ hc)⟩
structure aEk(g:Gr)(s:Bw):Prop where
 ln:s.low.length=s.vis.length
 nd:s.vis.Nodup
 sub:∀ w∈s.vis,w∈g.vs
 fin:∀ w∈s.vis,∀ i∈atP g.es w,oth (eAt g.es i) w∈s.vis
 stk:s.stk=[]
 pl:∀ i,i∈s.out.flatten↔i<g.es.length∧(eAt g.es i).a∈s.vis
 pn:s.out.flatten.Nodup
 good:∀ B∈s.out,iT g.es B
theorem aBE(n:Nat)(hn:g.vs.length≤n):∀(l:List Int) (s:Bw),(∀ v∈l,v∈g.vs)→aEk g s→∃ s1,nN g.es n l s=some s1∧aEk g s1∧(∀ v∈s.vis,v∈s1.vis)∧∀ v∈l,v∈s1.vis
 |[],s,_,h=>⟨s,rfl,h,fun _ h=>h,fun v hv=>by cases hv⟩
 |v::l,s,hl,h=>by
  by_cases hv:v∈s.vis
  ·obtain⟨s1,e,k1,k2,k3⟩:=aBE n hn l s (fun w hw=>hl w (List.mem_cons_of_mem _ hw)) h
   refine⟨s1,by rw[nN,if_pos hv];exact e,k1,k2,fun w hw=>?_⟩
   rcases List.mem_cons.1 hw with rfl|hw
   ·exact k2 _ hv
   ·exact k3 _ hw
  ·have hpre:tR g (fun _=>False) s v (-1):=⟨h.ln,h.nd,fun a ha=>ha.elim,fun w hw _=>h.fin w hw,hv,fun a b ha=>ha.elim,.inl ⟨rfl,fun a ha=>ha⟩⟩
   obtain⟨s1,C,T,N,e,hp,hC⟩:=aAE hg n _ s v (-1) hpre (hl v sS) h.sub oO
   have hT:T=[]:=by
    cases T with
    |nil=>rfl
    |cons i T=>
     obtain⟨b,hb,_⟩:=hp.rel i sS
     omega
   subst hT
   have hcl:∀ w∈s1.vis,∀ i∈atP g.es w,oth (eAt g.es i) w∈s1.vis:=fun w hw i hi=>by
    have hw2:=hw
    rw[hp.vis,List.mem_append]at hw2
    rcases hw2 with k|k
    ·rw[hp.vis];exact List.mem_append_left _ (h.fin w k i hi)
    ·exact hp.clo w k i hi
   have hall:aEk g s1:={
    ln:=hp.ln
    nd:=hp.nd
    sub:=fun w hw=>by
     rw[hp.vis,List.mem_append]at hw
     exact hw.elim (h.sub w) (hC w)
    fin:=hcl
    stk:=by rw[hp.stk,h.stk];rfl
    pl:=fun i=>by
     have h2:=hp.pl i
     rw[List.nil_append]at h2
     rw[hp.out,List.flatten_append,List.mem_append,h.pl i,h2,hp.vis,List.mem_append]
     constructor
     ·rintro(⟨k1,k2⟩|⟨k1,_,k2⟩)
      ·exact⟨k1,.inl k2⟩
      ·refine⟨k1,?_⟩
       rcases k2 with k2|k2
       ·exact .inr k2
       ·have:=hp.clo _ k2 i (bF.2 ⟨k1,.inr rfl⟩)
        rw[hp.vis,List.mem_append]at this
        have e1:oth (eAt g.es i) (eAt g.es i).b=(eAt g.es i).a:=by unfold oth;split<;>first|(next q=>exact q.symm)|rfl
        rwa [e1]at this
     ·rintro⟨k1,k2|k2⟩
      ·exact .inl ⟨k1,k2⟩
      ·exact .inr ⟨k1,oO,.inl k2⟩
    pn:=by
     have h2:=hp.pn
     rw[List.nil_append]at h2
     rw[hp.out,List.flatten_append,List.nodup_append]
     refine⟨h.pn,h2,fun a ha b hb=>?_⟩
     rintro rfl
     have k1:=(h.pl a).1 ha
     have k2:=(hp.pl a).1 (by rw[List.nil_append];exact hb)
     have hd:∀ c∈C,c∉s.vis:=fun c hc k=>by
      have:=hp.nd
      rw[hp.vis,List.nodup_append]at this
      exact this.2.2 c k c hc rfl
     rcases k2.2.2 with k|k
     ·exact hd _ k k1.2
     ·have:=h.fin _ k1.2 a (bF.2 ⟨k1.1,.inl rfl⟩)
      have e1:oth (eAt g.es a) (eAt g.es a).a=(eAt g.es a).b:=by unfold oth;rw[if_pos rfl]
      rw[e1]at this
      exact hd _ k this
    good:=fun B hB=>by
     rw[hp.out,List.mem_append]at hB
     exact hB.elim (h.good B) (hp.good B) }
   obtain⟨s2,e2,k1,k2,k3⟩:=aBE n hn l s1 (fun w hw=>hl w (List.mem_cons_of_mem _ hw)) hall
   refine⟨s2,by rw[nN,if_neg hv,e];exact e2,k1,fun w hw=>k2 w (by rw[hp.vis];exact List.mem_append_left _ hw),fun w hw=>?_⟩
   rcases List.mem_cons.1 hw with rfl|hw
   ·exact k2 _ (by rw[hp.vis];exact List.mem_append_right _ hp.hd)
   ·exact k3 _ hw
theorem rK:∃ s,nN g.es g.vs.length g.vs ⟨[],[],[],[]⟩=some s∧s.stk=[]∧(∀ i,i∈s.out.flatten↔i<g.es.length)∧s.out.flatten.Nodup∧∀ B∈s.out,iT g.es B:=by
 obtain⟨s,e,h,_,h3⟩:=aBE hg g.vs.length (Nat.le_refl _) g.vs ⟨[],[],[],[]⟩ (fun _ h=>h) ⟨rfl,.nil,fun w hw=>(by cases hw),fun w hw=>(by cases hw),rfl,fun i=>by simp,sS,fun B hB=>(by cases hB)⟩
 refine⟨s,e,h.stk,fun i=>?_,h.pn,h.good⟩
 rw[h.pl i]
 exact and_iff_left_of_imp fun hi=>h3 _ (hg.ends _ (uP hi)).1
end
section
variable {g:Gr} (hg:GoodE g)
include hg
end
noncomputable def fL(es:List Ed)(i:Nat):List Nat:=(List.range es.length).filter fun j=>@decide (jY es i j) (Classical.propDecidable _)
theorem aCO{es:List Ed}{i j:Nat}:j∈fL es i↔j<es.length∧jY es i j:=by
 unfold fL;rw[List.mem_filter,List.mem_range,@decide_eq_true_iff _ (Classical.propDecidable _)]
theorem aAv(es:List Ed)(i:Nat):(fL es i).Pairwise (· < ·):=List.Pairwise.filter _ List.pairwise_lt_range
noncomputable def iV(es:List Ed):List (List Nat):=((List.range es.length).filter fun i=>decide ((fL es i).headD 0=i)).map (fL es)
theorem head_mem{l:List Nat}(h:l≠[]):l.headD 0∈l:=by
 cases l with
 |nil=>exact absurd rfl h
 |cons a l=>simp
theorem iT.cls{es:List Ed}{B:List Nat}(h:iT es B){i:Nat}(hi:i∈B):B=fL es i:=by
 have hn:B.Nodup:=h.rise.imp fun k=>Nat.ne_of_lt k
 have hn':(fL es i).Nodup:=(aAv es i).imp fun k=>Nat.ne_of_lt k
 have hp:B.Perm (fL es i):=(List.perm_ext_iff_of_nodup hn hn').2 fun k=>by rw[aCO,← h.iff hi];exact⟨fun q=>⟨h.lt k q,q⟩,fun q=>q.2⟩
 exact hp.eq_of_pairwise (fun a b _ _ h1 h2=>absurd h1 oO) h.rise (aAv es i)
theorem yF{es:List Ed}{out B:List (List Nat)}(hall:∀ i,i∈out.flatten↔i<es.length)(hok:∀ B∈out,iT es B)(hp:B.Perm out)(hr:B.Pairwise fun x y=>x.headD 0<y.headD 0):B=iV es:=by
 have hmem:∀ b,b∈B↔b∈iV es:=fun b=>by
  unfold iV
  rw[hp.mem_iff,List.mem_map]
  constructor
  ·intro hb
   have ho:=hok b hb
   have hh:=head_mem ho.ne
   have hc:=ho.cls hh
   refine⟨b.headD 0,?_,hc.symm⟩
   rw[List.mem_filter,List.mem_range,decide_eq_true_iff,← hc]
   exact⟨ho.lt _ hh,rfl⟩
  ·rintro⟨i,hi,rfl⟩
   rw[List.mem_filter,List.mem_range,decide_eq_true_iff]at hi
   obtain⟨b,hb,hib⟩:=List.mem_flatten.1 ((hall i).2 hi.1)
   rw[← (hok b hb).cls hib]
   exact hb
 have hl:(iV es).Pairwise fun x y=>x.headD 0<y.headD 0:=by
  unfold iV
  rw[List.pairwise_map]
  refine(List.Pairwise.filter (fun i=>decide ((fL es i).headD 0=i)) (List.pairwise_lt_range (n:=es.length))).imp_of_mem ?_
  intro a b ha hb hab
  rw[List.mem_filter,decide_eq_true_iff]at ha hb
  rw[ha.2,hb.2]
  exact hab
 have hpp:B.Perm (iV es):=(List.perm_ext_iff_of_nodup (hr.imp fun k e=>by rw[e]at k;omega) (hl.imp fun k e=>by rw[e]at k;omega)).2 hmem
 exact hpp.eq_of_pairwise (fun a b _ _ h1 h2=>absurd h1 oO) hr hl
end Go.Proofs.YtempldclppogmaaGreatDoor.Aw
namespace Go.Proofs.YtempldclppogmaaGreatDoor.Aw.CE
open Go Go.RowKit Go.Proofs.YtempldclppogmaaGreatDoor.Pl
structure aAZ(fid:FuncId)(caps:List LV)(eg:Int→Ed)(Dm:Int→Prop):Prop where
 call:∀ x y st,Dm x→Dm y→aB Tryz.prog fid ([.ag (edL (eg x)),.ag (edL (eg y))]++caps) st fun r st'=>(∃ n,r=i n∧(n<0↔x<y))∧st'=st
def es3(eg:Int→Ed)(c:List Int):List LV:=eds (c.map eg)
theorem wL(eg:Int→Ed)(c:List Int):(es3 eg c).length=c.length*3:=by unfold es3;rw[aJ,List.length_map]
theorem pH(eg:Int→Ed)(l:List Int)(j:Nat)(hj:j<l.length):(es3 eg l).drop (j*3)=u (eg (l.getD j 0)).id::u (eg (l.getD j 0)).a::u (eg (l.getD j 0)).b::es3 eg (l.drop (j+1)):=by
 unfold es3
 rw[aW _ _ (by simpa using hj),List.map_drop]
 have e:(l.map eg).getD j ed0=eg (l.getD j 0):=by
  rw[nQ _ _ (by simpa using hj),aI _ _ hj,List.getElem_map]
 rw[e]
theorem wV(eg:Int→Ed)(c:List Int)(k:Nat)(x:Int)(hk:k<c.length):(es3 eg c).take (k*3)++u (eg x).id::u (eg x).a::u (eg x).b::(es3 eg c).drop (k*3+3)=es3 eg (c.set k x):=by
 unfold es3
 rw[aBH _ _ _ (by simpa using hk),List.map_set]
theorem xG{Dm:Int→Prop}{l:List Int}(h:∀ x∈l,Dm x){k:Nat}(hk:k<l.length):Dm (l.getD k 0):=h _ (by rw[aI _ _ hk];exact List.getElem_mem _)
theorem pV{Dm:Int→Prop}{a b:Nat}{l c:List Int}(h:∀ x∈l,Dm x)(k:Pm a b l c):∀ x∈c,Dm x:=fun x hx=>h x (k.perm.mem_iff.1 hx)
abbrev bx(eg:Int→Ed)(st:St)(q:Nat)(c:List Int):St:=st.set q (.box 56 3 (es3 eg c))
theorem gT{eg:Int→Ed}{st:St}{q:Nat}{c:List Int}(h:st.H q=.box 56 3 (es3 eg c)):st=bx eg st q c:=
 St.ext' rfl fun x=>by by_cases hx:x=q<;>simp[hx,h]
theorem gF(eg:Int→Ed)(st:St)(q:Nat)(c:List Int)(k m:Nat){x y:Int}(hk:k<c.length)(hm:m<c.length)(hx:c.getD k 0=x)(hy:c.getD m 0=y):
 ((bx eg st q c).set q (.box 56 3 (List.take (k*3) (es3 eg c)++u (eg y).id::u (eg y).a::u (eg y).b::List.drop (k*3+3) (es3 eg c)))).set q
   (.box 56 3 (List.take (m*3) (List.take (k*3) (es3 eg c)++u (eg y).id::u (eg y).a::u (eg y).b::List.drop (k*3+3) (es3 eg c))++u (eg x).id::u (eg x).a::u (eg x).b::List.drop (m*3+3) (List.take (k*3) (es3 eg c)++u (eg y).id::u (eg y).a::u (eg y).b::List.drop (k*3+3) (es3 eg c))))=bx eg st q (sw c k m):=by
 have e:List.take (k*3) (es3 eg c)++u (eg y).id::u (eg y).a::u (eg y).b::List.drop (k*3+3) (es3 eg c)=es3 eg (c.set k y):=wV eg c k y hk
 rw[e,wV eg (c.set k y) m x (by simpa using hm)]
 unfold bx sw
 rw[hx,hy]
 exact St.ext' rfl fun z=>by by_cases hz:z=q<;>simp[hz]
theorem insertionSort{fid:FuncId}{caps:List LV}{eg:Int→Ed}{Dm:Int→Prop}(hC:aAZ fid caps eg Dm)(l:List Int)(q a b:Nat)(st:St)(hD:∀ x∈l,Dm x)(hl:small l)(ha:a≤b)(hb:b≤l.length)(hH:st.H q=.box 56 3 (es3 eg l)):
 aB Tryz.prog 200 [.ms q 0 l.length,i a,i b,.fn (.func fid) caps] st fun r st'=>∃ c,st'=bx eg st q c∧Pm a b l c∧Srt a b c:=by
 unfold small at hl
 refine qO aF Tryz.func200 rfl rfl Tryz.ntmps200 (rs:=[]) rfl sS ?_
 have hw0:=qN a oO
 (repeat' (first|refine qS ?_|refine qB ?_|(refine w_e [] ?_;intro J hJ;simp only[];simp[hw0];refine hJ _ _ (zZ ?_))))
 refine qL (fun n fr st'=>∃(k:Nat) (c:List Int),a<k∧n=b-k∧(fr 0=.ms q 0 l.length∧fr 3=.fn (.func fid) caps)∧fr 1=i a∧fr 2=i b∧fr 8=i k∧st'=bx eg st q c∧Pm a b l c∧Srt a k c) (b-(a+1)) ?_ ?_
 ·exact⟨a+1,l,oO,rfl,sS,sS,sS,sS,gT hH,.refl,fun p q h1 h2 h3=>by omega⟩
 rintro n fr st1 ⟨k,c,hak,rfl,⟨f0,fC⟩,f1,f2,f6,rfl,hpm,hs⟩ JJ hJJ
 have hcl:=hpm.len
 have hDc:=pV hD hpm
 by_cases hlt:k<b
 rotate_left
 ·clear hJJ
  have hlt':¬(k:Int)<(b:Int):=oO
  (repeat' (first|refine qS ?_|(refine qX (zZ ?_))|(refine qC ?_;simp[f0,fC,f1,f2,f6,hlt])|(refine w_e [] ?_;intro J hJ;simp only[];simp[f0,fC,f1,f2,f6,hlt];refine hJ _ _ (zZ ?_))))
  exact⟨trivial,c,rfl,hpm,fun p q h1 h2 h3=>hs p q h1 h2 oO⟩
 have hw1:=qN k oO
 (repeat' (first|refine qS ?_|refine qB ?_|(refine qK (zZ ?_))|(refine qC ?_;simp[f0,fC,f1,f2,f6,hlt])|(refine w_e [] ?_;intro J hJ;simp only[];simp[f0,fC,f1,f2,f6,hlt];refine hJ _ _ (zZ ?_))))
 refine qL (fun n fr st'=>∃(j:Nat) (c:List Int),a≤j∧j≤k∧j=n∧(fr 0=.ms q 0 l.length∧fr 3=.fn (.func fid) caps)∧fr 1=i a∧fr 2=i b∧fr 8=i k∧fr 9=i j∧st'=bx eg st q c∧Pm a b l c∧Ins a j k c) k ?_ ?_
 ·exact⟨k,c,oO,oO,rfl,by simp[f0,fC],by simp[f1],by simp[f2],by simp[f6],sS,rfl,hpm,hs.ins⟩
 clear f0 fC f1 f2 f6 hs hpm hcl hDc c fr
 rintro n fr st1 ⟨j,c,haj,hjk,rfl,⟨f0,fC⟩,f1,f2,f6,f7,rfl,hpm,hI⟩ JJ2 hJ2
 have hcl:=hpm.len
 have hDc:=pV hD hpm
 by_cases hj:a<j
 rotate_left
 ·clear hJ2
  have hj':¬(a:Int)<(j:Int):=oO
  (repeat (refine qS ?_));(refine w_s [] [q] [(0,true),(1,true),(2,true),(3,true),(4,true),(5,true),(6,true),(7,true),(8,true),(9,true),(10,true),(11,true),(12,true),(13,true),(14,false),(15,true),(16,true)] ?_;intro J hJ;simp[f0,fC,f1,f2,f6,f7,hj];refine hJ _ _ (zZ ?_))
  (repeat' (first|(refine qX (zZ ?_))|(refine qC ?_;simp[f6,hw1])|(refine w_e [] ?_;intro J hJ;simp only[];simp[f6,hw1];refine hJ _ _ (zZ ?_))))
  exact hJJ (b-(k+1)) _ _ oO ⟨k+1,c,oO,rfl,by simp[f0,fC],by simp[f1],by simp[f2],sS,rfl,hpm,hI.done haj (.inl oO)⟩
 have hw2:=aR j oO oO
 have hjl:j<l.length:=oO
 have hjl1:j-1<l.length:=oO
 have hd:=pH eg c j oO
 have hd2:=pH eg c (j-1) oO
 have hI1:=hI.step hj hjk oO
 have hI2:=hI.done haj
 have hpm1:=hpm.step j (j-1) oO oO oO oO oO
 generalize hx:c.getD j 0=x at *
 generalize hy:c.getD (j-1) 0=y at *
 (repeat (refine qS ?_));(refine w_s [] [q] [(0,true),(1,true),(2,true),(3,true),(4,true),(5,true),(6,true),(7,true),(8,true),(9,true),(10,true),(11,true),(12,true),(13,true),(14,false),(15,true),(16,true)] ?_;intro J hJ;simp[f0,fC,f1,f2,f6,f7,hj,hw2,hjl,hjl1,hcl,hd,hd2,wL])
 refine aO (hC.call x y _ (by first|assumption|(subst_vars;exact xG (by assumption) oO)) (by first|assumption|(subst_vars;exact xG (by assumption) oO))) ?_;rintro r s2 ⟨⟨nv,rfl,hnv⟩,rfl⟩
 refine⟨fun _=>by simp,?_⟩
 by_cases hcd:x<y
 rotate_left
 ·clear hJ2
  (refine bE ?_;simp[hnv,hcd];refine hJ _ _ (zZ ?_))
  (repeat' (first|(refine qX (zZ ?_))|(refine qC ?_;simp[f6,hw1])|(refine w_e [] ?_;intro J hJ;simp only[];simp[f6,hw1];refine hJ _ _ (zZ ?_))))
  exact hJJ (b-(k+1)) _ _ oO ⟨k+1,c,oO,rfl,by simp[f0,fC],by simp[f1],by simp[f2],sS,rfl,hpm,hI2 (.inr hcd)⟩
 clear hJJ
 (refine bE ?_;simp[hnv,hcd];refine hJ _ _ (zZ ?_))
 (repeat' (first|refine qS ?_|refine qB ?_|(refine qK (zZ ?_))|(refine qC ?_;simp[])))
 (refine w_s [] [q] [(0,true),(1,true),(2,true),(3,true),(4,true),(5,true),(6,true),(7,true),(8,true),(9,true),(10,true),(11,true),(12,true),(13,true),(14,true),(15,false),(16,true),(17,false)] ?_;intro J hJ;simp[f0,fC,f1,f2,f6,f7,hw2,hjl,hjl1,hcl,hd,hd2,wL];(repeat refine ca ?_);refine hJ _ _ (zZ ?_))
 (repeat' (refine w_e [] ?_;intro J hJ;simp only[];simp[f7,hw2];refine hJ _ _ (zZ ?_)))
 exact hJ2 (j-1) _ _ oO ⟨j-1,sw c j (j-1),oO,oO,rfl,by simp[f0,fC],by simp[f1],by simp[f2],by simp[f6],sS,gF eg st q c j (j-1) oO oO hx hy,hpm1,hI1 hcd⟩
def eV(l:List Int)(a b:Nat):Prop:=0<a→∀ j,a≤j→j<b→l.getD (a-1) 0≤l.getD j 0
def vK(a b a' b':Nat)(c:List Int):Prop:=∀ d,Pm a' b' c d→Srt a' b' d→Srt a b d
def PdI(fid:FuncId)(caps:List LV)(eg:Int→Ed)(q:Nat)(l:List Int)(st:St)(a b a' b':Nat)(wb wp:Bool)(lim n:Nat)(fr:Frm)(st2:St):Prop:=
 (fr 0=.ms q 0 l.length∧fr 4=.fn (.func fid) caps)∧fr 1=i a'∧fr 2=i b'∧fr 3=i lim∧fr 10=bb wb∧fr 11=bb wp∧fr 12=i n∧lim<1000000∧q<st2.next∧bN q st st2∧∃ c,st2.H q=.box 56 3 (es3 eg c)∧Pm a b l c∧eV c a' b'∧vK a b a' b' c
theorem PdI.mk{fid:FuncId}{caps:List LV}{eg:Int→Ed}{q:Nat}{l:List Int}{st:St}{a b a' b':Nat}{wb wp:Bool}{lim n:Nat}{fr:Frm}{st2:St}{c:List Int}(f0:(fr 0=.ms q 0 l.length∧fr 4=.fn (.func fid) caps))(f1:fr 1=i a')(f2:fr 2=i b')(f3:fr 3=i lim)(f8:fr 10=bb wb)(f9:fr 11=bb wp)(f10:fr 12=i n)(hlm:lim<1000000)(hqn:q<st2.next)(ho:bN q st st2)(hc:st2.H q=.box 56 3 (es3 eg c))(hp:Pm a b l c)(ha:eV c a' b')(hf:vK a b a' b' c):PdI fid caps eg q l st a b a' b' wb wp lim n fr st2:=
 ⟨f0,f1,f2,f3,f8,f9,f10,hlm,hqn,ho,c,hc,hp,ha,hf⟩
set_option maxHeartbeats 4000000 in
theorem fE{fid:FuncId}{caps:List LV}{eg:Int→Ed}{Dm:Int→Prop}(hC:aAZ fid caps eg Dm)(Z:Nat):∀(l:List Int) (q a b lim:Nat) (st:St),(∀ x∈l,Dm x)→l.length≤12→a≤b→b≤l.length→b-a<Z→eV l a b→lim<1000000→q<st.next→st.H q=.box 56 3 (es3 eg l)→
 aB Tryz.prog 188 [.ms q 0 l.length,i a,i b,i lim,.fn (.func fid) caps] st fun r st'=>∃ c,st'.H q=.box 56 3 (es3 eg c)∧Pm a b l c∧Srt a b c∧bN q st st':=by
 induction Z with
 |zero=>intro l q a b lim st _ _ _ _ h;omega
 |succ Z ih=>
 intro l q a b lim st hD hl hab hb hZ hah hlim hqn hH
 have hsm:small l:=by unfold small;omega
 refine qO aF Tryz.func188 rfl rfl Tryz.ntmps188 (rs:=[]) rfl sS ?_
 (repeat' (first|refine qS ?_|refine qB ?_|(refine w_e [] ?_;intro J hJ;simp only[];simp[];refine hJ _ _ (zZ ?_))))
 refine qL (fun z fr st2=>∃(a' b' lim:Nat) (wb wp:Bool) (n:LV),a≤a'∧a'≤b'∧b'≤b∧z=b' - a'∧PdI fid caps eg q l st a b a' b' wb wp lim 0 (upd fr 12 (i (0:Nat))) st2) (b-a) ?_ ?_
 ·refine⟨a,b,lim,true,true,.nil,oO,oO,oO,rfl,?_⟩
  exact PdI.mk sS sS sS sS sS sS sS hlim hqn (.refl _ _) hH .refl hah fun d h1 h2=>h2
 rintro z fr st2 ⟨a',b',lim,wb,wp,-,ha1,ha2,hb2,rfl,⟨f0,fC⟩,f1,f2,f3,f8,f9,-,hlm,hqn2,hof,c,hc,hpm,hah2,hfin⟩ JJ hJJ
 rw[oG,if_neg oO]at f0 fC f1 f2 f3 f8 f9
 have hcl:=hpm.len
 have hDc:=pV hD hpm
 have hsc:small c:=by unfold small;omega
 obtain⟨n,hn⟩:∃ n:Nat,n=b' - a':=⟨_,rfl⟩
 have w1:IntKind.i64.wrap ((b':Int)-(a':Int))=(n:Int):=by rw[wrap_i64 _ oO oO];omega
 refine qB ?_
 (repeat' (first|refine qS ?_|(refine w_e [] ?_;intro J hJ;simp only[];simp[f1,f2,w1];refine hJ _ _ (zZ ?_))))
 by_cases hn12:(n:Int)≤12
 ·clear hJJ
  refine qC ?_;simp[hn12]
  (repeat' (first|refine qS ?_|(refine w_e [] ?_;intro J hJ;simp only[];simp[f0,fC,f1,f2])))
  refine qE (insertionSort hC c q a' b' st2 (by first|assumption|exact pV hD ‹Pm _ _ l c›) hsc oO oO hc) (by simp[f0,fC,f1,f2,hcl]) ?_;rintro r st' ⟨d,rfl,k1,k2⟩
  (repeat' (first|(refine qR (zZ ?_);simp[])|(refine aE ?_;simp[];refine hJ _ _ (zZ ?_))))
  exact⟨d,rfl,hpm.trans (k1.wide oO oO oO),hfin d k1 k2,hof.set _⟩
 exact absurd (show(n:Int)≤12 by omega) hn12
theorem aKr{fid:FuncId}{caps:List LV}{eg:Int→Ed}{Dm:Int→Prop}(hC:aAZ fid caps eg Dm)(l:List Int)(q:Nat)(st:St)(hD:∀ x∈l,Dm x)(hl:l.length≤12)(hqn:q<st.next)(hH:st.H q=.box 56 3 (es3 eg l)):
 aB Tryz.prog 145 [.ms q 0 l.length,.fn (.func fid) caps] st fun r st'=>∃ c,st'.H q=.box 56 3 (es3 eg c)∧c.Perm l∧c.Pairwise (·≤·)∧bN q st st':=by
 have w1:IntKind.u64.wrap (l.length:Int)=(l.length:Int):=wrap_u64 _ oO oO
 have hbl:=(pU l.length oO).1
 refine qO aF Tryz.func145 rfl rfl Tryz.ntmps145 (rs:=[]) rfl sS ?_
 (repeat' (first|refine qS ?_|(refine w_e [] ?_;intro J hJ;simp only[];simp[w1];(try refine hJ _ _ (zZ ?_)))))
 refine qF (Len l.length _ oO) ?_;rintro r st' ⟨rfl,rfl⟩
 (repeat' (refine aE ?_;simp[]))
 refine qE (fE hC (l.length+1) l q 0 l.length (gU l.length) _ hD hl oO oO oO (fun h=>absurd h oO) oO hqn hH) (by simp[]) ?_;rintro r st' ⟨c,k1,k2,k3,k4⟩
 (repeat' (refine aE ?_;simp[];refine hJ _ _ (zZ ?_)))
 have hcl:=k2.len
 exact⟨trivial,c,k1,k2.perm,yE (by rw[hcl];exact k3),k4⟩
end Go.Proofs.YtempldclppogmaaGreatDoor.Aw.CE
