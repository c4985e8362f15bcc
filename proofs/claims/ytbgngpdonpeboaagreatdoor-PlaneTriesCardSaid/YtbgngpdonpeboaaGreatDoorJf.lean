/- T3 at edges and at numbers: written by gentt.py. -/
import Derived.Test.YtbgngpdonpeboaaGreatDoorJe
set_option linter.unusedVariables false
set_option linter.unusedSimpArgs false
set_option linter.defProp false
set_option maxHeartbeats 4000000
open Go.Proofs.Tryz
namespace Go.Proofs.YtbgngpdonpeboaaGreatDoor
open Go Go.RowKit Pl Aw
open Aw.U
theorem Bv:(∀ ⦃l:List Ed⦄ (h:Ris l) ⦃j k:Nat⦄ (hjk:j<=k) (hk:k<l.length),
 (l.getD j ed0).id<=(l.getD k ed0).id)/\(∀ ⦃l:List Nu⦄ (h:Ris l) ⦃j k:Nat⦄ (hjk:j<=k) (hk:k<l.length),
 (l.getD j ed0).id<=(l.getD k ed0).id):=by
 refine⟨?_,?_⟩
 all_goals
  intro l h j k hjk hk;rw[Dy _ _ hk,Dy _ _ oO];rcases aAM j k with h1|h1
  .exact aAC.1 h j k oO hk h1
  grind
def Aw.jG:=Bv.1
def Aw.U.jG:=Bv.2
namespace Aw
structure Cut(A B:List Ed)(s e:Nat):Prop where
 hs:s<=A.length
 he:e<=B.length
 ab:s=0\/e=B.length\/(A.getD (s-1) ed0).id<=(B.getD e ed0).id
 ba:e=0\/s=A.length\/(B.getD (e-1) ed0).id<=(A.getD s ed0).id
end Aw
namespace Aw.U
structure Cut(A B:List Nu)(s e:Nat):Prop where
 hs:s<=A.length
 he:e<=B.length
 ab:s=0\/e=B.length\/(A.getD (s-1) ed0).id<=(B.getD e ed0).id
 ba:e=0\/s=A.length\/(B.getD (e-1) ed0).id<=(A.getD s ed0).id
end Aw.U
theorem Cut.leTwo:(∀ ⦃A B:List Ed⦄ (hA:Ris A) (hB:Ris B) ⦃s e:Nat⦄ (h:Cut A B s e),
 ∀ x∈A.take s++B.take e,∀ y∈A.drop s++B.drop e,x.id<=y.id)/\(∀ ⦃A B:List Nu⦄ (hA:Ris A) (hB:Ris B) ⦃s e:Nat⦄ (h:Cut A B s e),
 ∀ x∈A.take s++B.take e,∀ y∈A.drop s++B.drop e,x.id<=y.id):=by
 refine⟨?_,?_⟩
 all_goals
  intro A B hA hB s e h;intro x hx y hy;obtain⟨h1,h2,h3,h4⟩:=h;rw[aAd]at hx hy;rcases hx with hx|hx<;>rcases hy with hy|hy
  .obtain⟨j,hj,rfl⟩:=aAA hx;obtain⟨k,hk,rfl⟩:=aAA hy;simp only[aAw,aAL]at hj hk;rw[aBK,aCt];exact aAC.1 hA j (s+k) oO oO oO
  .obtain⟨j,hj,rfl⟩:=aAA hx;obtain⟨k,hk,rfl⟩:=aAA hy;simp only[aAw,aAL]at hj hk;rw[aBK,aCt];have e1:=jG hA (j:=j) (k:=s-1) oO oO;have e2:=jG hB (j:=e) (k:=e+k) oO oO
   grind
  .obtain⟨j,hj,rfl⟩:=aAA hx;obtain⟨k,hk,rfl⟩:=aAA hy;simp only[aAw,aAL]at hj hk;rw[aBK,aCt];have e1:=jG hB (j:=j) (k:=e-1) oO oO;have e2:=jG hA (j:=s) (k:=s+k) oO oO
   grind
  .obtain⟨j,hj,rfl⟩:=aAA hx;obtain⟨k,hk,rfl⟩:=aAA hy;simp only[aAw,aAL]at hj hk;rw[aBK,aCt];exact aAC.1 hB j (e+k) oO oO oO
def Aw.Cut.le:=Cut.leTwo.1
def Aw.U.Cut.le:=Cut.leTwo.2
theorem Cut.joinTwo:(∀ ⦃A B C D:List Ed⦄ (hA:Ris A) (hB:Ris B) ⦃s e:Nat⦄ (h:Cut A B s e) (hC:C.Perm (A.take s++B.take e)) (hD:D.Perm (A.drop s++B.drop e)) (rC:Ris C) (rD:Ris D),
 (C++D).Perm (A++B)/\Ris (C++D))/\(∀ ⦃A B C D:List Nu⦄ (hA:Ris A) (hB:Ris B) ⦃s e:Nat⦄ (h:Cut A B s e) (hC:C.Perm (A.take s++B.take e)) (hD:D.Perm (A.drop s++B.drop e)) (rC:Ris C) (rD:Ris D),
 (C++D).Perm (A++B)/\Ris (C++D)):=by
 refine⟨?_,?_⟩
 all_goals
  intro A B C D hA hB s e h hC hD rC rD;refine⟨?_,aBU.2 ⟨rC,rD,fun x hx y hy=>h.le hA hB x (hC.mem_iff.1 hx) y (hD.mem_iff.1 hy)⟩⟩;refine(hC.append hD).trans ?_;have e1:A++B=(A.take s++A.drop s)++(B.take e++B.drop e):=by rw[aAz,aAz]
  rw[e1,aAF,aAF]
  grind [List.Perm.append_left,List.Perm.append_right,List.perm_append_comm]
def Aw.Cut.join:=Cut.joinTwo.1
def Aw.U.Cut.join:=Cut.joinTwo.2
open Go Go.RowKit Pl Aw
open Aw.U
namespace Aw
theorem Ef(n h:Nat)(hh:h=n / 2):NZ .u64 (n:Int) 1=(h:Int):=by
 show(n:Int).fdiv 2=(h:Int)
 grind
theorem Ad(n:Nat)(hn:n<=1000000):IntKind.u64.wrap (n:Int)=(n:Int):=by
 grind [IntKind.wrap,IntKind.bits]
end Aw
theorem MY:(∀(U W:List Ed) (j:Nat),
 (U++W).getD (U.length+j) ed0=W.getD j ed0)/\(∀(U W:List Nu) (j:Nat),
 (U++W).getD (U.length+j) ed0=W.getD j ed0):=by
 grind
def Aw.Ak:=MY.1
def Aw.U.Ak:=MY.2
theorem Ln:(∀(U W:List Ed) (j:Nat) (h:j<U.length),
 (U++W).getD j ed0=U.getD j ed0)/\(∀(U W:List Nu) (j:Nat) (h:j<U.length),
 (U++W).getD j ed0=U.getD j ed0):=by
 grind
def Aw.pZ:=Ln.1
def Aw.U.pZ:=Ln.2
namespace Aw
theorem Jt(B:List Ed)(t:Nat)(h:t<B.length):B.drop t=B.getD t ed0::B.drop (t+1):=by simp_all
end Aw
namespace Aw.U
theorem Jt(B:List Nu)(t:Nat)(h:t<B.length):B.drop t=B.getD t ed0::B.drop (t+1):=by simp_all
end Aw.U
namespace Aw
theorem QH(B:List Ed)(t:Nat)(h:t<B.length):B.take (t+1)=B.take t++[B.getD t ed0]:=by simp_all
end Aw
namespace Aw.U
theorem QH(B:List Nu)(t:Nat)(h:t<B.length):B.take (t+1)=B.take t++[B.getD t ed0]:=by simp_all
end Aw.U
namespace Aw
def Fw(P A B S:List Ed)(q:Nat)(st:St)(r:LV)(st':St):Prop:=∃ C,C.Perm (A++B)/\Ris C/\st'.H q=.box 36 3 (eds (P++C++S))/\bP q st st'
end Aw
namespace Aw.U
def Fw(P A B S:List Nu)(q:Nat)(st:St)(r:LV)(st':St):Prop:=∃ C,C.Perm (A++B)/\Ris C/\st'.H q=.box 34 1 (eds (P++C++S))/\bP q st st'
end Aw.U
theorem CI:(∀ ⦃B:List Ed⦄ (hB:Ris B) ⦃x:Ed⦄ ⦃k:Nat⦄ (hk:k<=B.length) (h1:∀ j,j<k->(B.getD j ed0).id<=x.id) (h2:∀ j,k<=j->j<B.length->x.id<=(B.getD j ed0).id),
 Ris (B.take k++x::B.drop k))/\(∀ ⦃B:List Nu⦄ (hB:Ris B) ⦃x:Nu⦄ ⦃k:Nat⦄ (hk:k<=B.length) (h1:∀ j,j<k->(B.getD j ed0).id<=x.id) (h2:∀ j,k<=j->j<B.length->x.id<=(B.getD j ed0).id),
 Ris (B.take k++x::B.drop k)):=by
 refine⟨?_,?_⟩
 all_goals
  intro B hB x k hk h1 h2;refine FP (by simp_all) (fun y hy=>?_) fun y hy=>?_
  .grind [List.getElem_of_mem]
  .obtain⟨j,hj,rfl⟩:=aAA hy;simp_all
def Aw.GK:=CI.1
def Aw.U.GK:=CI.2
theorem LY:(∀(P:List Ed) (x:Ed) (B S:List Ed) (q L p m:Nat) (x7:FuncId) (Gj:List LV) (Pc:St->Prop) (st:St) (y9:Aw.iI x7 Gj q Pc) (V1:Pc st) (hq:q<st.next) (hB:Ris B) (hL:(P++x::B++S).length=L) (hl:L<=100000) (hp:P.length=p) (hm:m=p+1) (hH:st.H q=.box 36 3 (eds (P++x::B++S))),
 aB prog 162 [.ms q 0 L,i p,i m,i (m+B.length:Nat),.fn (.func x7) Gj] st (Fw P [x] B S q st))/\(∀(P:List Nu) (x:Nu) (B S:List Nu) (q L p m:Nat) (x7:FuncId) (Gj:List LV) (Pc:St->Prop) (st:St) (y9:Aw.U.iI x7 Gj q Pc) (V1:Pc st) (hq:q<st.next) (hB:Ris B) (hL:(P++x::B++S).length=L) (hl:L<=100000) (hp:P.length=p) (hm:m=p+1) (hH:st.H q=.box 34 1 (eds (P++x::B++S))),
 aB prog 160 [.ms q 0 L,i p,i m,i (m+B.length:Nat),.fn (.func x7) Gj] st (Fw P [x] B S q st)):=by
 refine⟨?_,?_⟩
 all_goals
  intro P x B S q L p m x7 Gj Pc st y9 V1 hq hB hL hl hp hm hH;have hLl:L=p+(B.length+1)+S.length:=by rw[<- hL,<- hp];simp only[aAn,List.length_cons]
  have e1:IntKind.i64.wrap ((m:Int)-p)=1:=zW
  first|(have _:List Ed:=P;refine zN func162 ntmps162 [] ?_)|refine zN func160 ntmps160 [] ?_
  refine xw1 e1 ?_;refine qL (fun z fr st2=>∃ k v:Nat,k<=v/\v<=B.length/\z=v-k/\fr 0=.ms q 0 L/\fr 1=i p/\fr 4=.fn (.func x7) Gj/\fr 10=i (m+k:Nat)/\fr 11=i (m+v:Nat)/\(∀ j,j<k->(B.getD j ed0).id<x.id)/\(∀ j,v<=j->j<B.length->x.id<=(B.getD j ed0).id)/\st2.H q=bxo (P++x::B++S)/\bP q st st2) B.length ?_ ?_
  .exact⟨0,B.length,oO,aAl _,rfl,sS,sS,sS,sS,sS,fun j h=>by omega,fun j h1 h2=>by omega,hH,bP.refl _ _⟩
  rintro z fr st2 ⟨k,v,hkv,hvB,rfl,f0,f1,f4,f10,f11,h1,h2,hD,o6⟩ JJ hJJ;have hP3:=y9.keep _ _ V1 o6;have S9:q<st2.next:=by have:=o6.1;omega
  by_cases dA:k<v
  .obtain⟨s,hs⟩:∃ s:Nat,s=(m+k)+(m+v):=⟨_,rfl⟩;obtain⟨h,hh⟩:∃ h:Nat,m+h=s / 2:=⟨s / 2-m,oO⟩;have wA:IntKind.i64.wrap ((m:Int)+k+(m+v))=(s:Int):=zW;have wB:=Ad s oO;obtain⟨ph,hph⟩:∃ ph:Nat,ph=m+h:=⟨_,rfl⟩;have wC:=Ef s ph oO;have wD:IntKind.i64.wrap (ph:Int)=(ph:Int):=zW;have wE:IntKind.i64.wrap ((ph:Int)+1)=((m+(h+1):Nat):Int):=zW;have g1:(P++x::B++S).getD p ed0=x:=by rw[aAF];exact GF _ _ _ hp.symm
   have g2:(P++x::B++S).getD ph ed0=B.getD h ed0:=by
    (first|rw[show P++x::B++S=(P++[x])++(B++S) by simp,show ph=(P++[x]).length+h by simp;omega,Aw.Ak,Aw.pZ _ _ _ oO]|rw[show P++x::B++S=(P++[x])++(B++S) by simp,show ph=(P++[x]).length+h by grind,Aw.U.Ak,Aw.U.pZ _ _ _ oO])
   have hgo:(B.getD h ed0).id<x.id->∀ j,j<h+1->(B.getD j ed0).id<x.id:=fun h3 j hj=>by have:=jG hB (j:=j) (k:=h) oO oO;omega
   have D3:¬(B.getD h ed0).id<x.id->∀ j,h<=j->j<B.length->x.id<=(B.getD j ed0).id:=fun h3 j hj hj2=>by have:=jG hB (j:=h) (k:=j) hj hj2;omega
   have hel:=aK (P++x::B++S);have da:=aR (P++x::B++S) p oO;have db:=aR (P++x::B++S) ph oO;rw[g1]at da;rw[g2]at db;rw[hL]at hel;have hfr:∀ c8 O4,O4.H q=st2.H q->bP q st O4->c8 0=.ms q 0 L/\c8 1=i p/\c8 4=.fn (.func x7) Gj->(((B.getD h ed0).id<x.id/\c8 10=i (m+(h+1):Nat)/\c8 11=i (m+v:Nat))\/(¬(B.getD h ed0).id<x.id/\c8 10=i (m+k:Nat)/\c8 11=i (m+h:Nat)))->JJ c8 O4:=by
    rintro c8 O4 k1 k2 ⟨k3,k4,k5⟩ (⟨k6,k7,k8⟩|⟨k6,k7,k8⟩)
    .exact hJJ (v-(h+1)) _ _ oO ⟨h+1,v,oO,hvB,rfl,k3,k4,k5,k7,k8,hgo k6,h2,k1.trans hD,k2⟩
    .exact hJJ (h-k) _ _ oO ⟨k,h,oO,oO,rfl,k3,k4,k5,k7,k8,h1,D3 k6,k1.trans hD,k2⟩
   clear hJJ hgo D3 h1 h2;have hcm:=y9.call st2 (B.getD h ed0) x hP3;have L9:=rK (B.getD h ed0) x;generalize hy:B.getD h ed0=y at *;generalize hc:P++x::B++S=c at *;generalize tP y x=cv at *;have hA4:ph<L:=oO;have hB4:p<L:=oO;have hkv':(m:Int)+k<m+v:=oO;refine xw8 f10 f11 hkv' dA wA wB wC wD ?_
   (refine zS [] [q] [0,2,4,6,8,10,12,14,16,19,20] ?_;intro J hJ;simp[f0,f1,f4,hD,da,db,hel];(repeat refine ca ?_))
   refine aO hcm ?_;rintro r s4 ⟨rfl,M7⟩;have hD4:=M7.H q S9;refine⟨fun _=>by simp[hD4,hD],?_⟩;by_cases P4:y.id<x.id
   .have hcv:cv<0:=by rw[aCq P4]at L9;exact aCl L9
    (apply bJ;simp[hcv,hD4,hD];refine zJ hJ ?_)
    refine xw1 wE ?_;exact hfr _ _ hD4 (o6.keeps M7) ⟨sF1 f0,sF1 f1,sF1 f4⟩ (.inl ⟨P4,sS,sF1 f11⟩)
   .have hcv:¬cv<0:=by rw[aCn P4]at L9;exact aCV L9
    (apply bJ;simp[hcv,hD4,hD];refine zJ hJ ?_)
    refine xw0 ?_;exact hfr _ _ hD4 (o6.keeps M7) ⟨sF1 f0,sF1 f1,sF1 f4⟩ (.inr ⟨P4,sF1 f10,sF1 hph⟩)
  clear hJJ;obtain rfl:k=v:=oO;have hR:=GK hB hvB (fun j hj=>by grind) h2;clear h1 h2;have wF:IntKind.i64.wrap ((m:Int)+k-1)=((p+k:Nat):Int):=zW;refine xw3 f1 f10 f11 ?_;refine qL (fun z fr O4=>∃ t:Nat,t<=k/\z=k-t/\fr 0=.ms q 0 L/\fr 10=i (m+k:Nat)/\fr 13=i (p+t:Nat)/\O4.H q=bxo (P++B.take t++x::(B.drop t++S))/\bP q st O4) k ?_ ?_
  .exact⟨0,oO,oO,by simp_all,by simp_all,sS,by grind,o6⟩
  clear f0 f1 f4 f10 f11 hD o6 hP3 S9 fr st2;rintro z fr st2 ⟨t,L0,rfl,f0,f10,f13,hD,o6⟩ JJ hJJ;by_cases dA:t<k;rotate_left
  .clear hJJ;obtain rfl:t=k:=oO;have r9:¬((p:Int)+t<p+t):=oO;refine xw4 f10 f13 wF r9 ?_;refine⟨_,?_,hR,by grind,o6⟩
   grind [List.perm_middle,List.take_append_drop]
  have L5:(p:Int)+t<p+k:=oO;have hce:P++B.take t++x::(B.drop t++S)=(P++B.take t)++x::B.getD t ed0::(B.drop (t+1)++S):=by rw[Jt B t oO];simp
  have hUl:(P++B.take t).length=p+t:=by simp[hp];omega
  have M6:(((P++B.take t)++x::B.getD t ed0::(B.drop (t+1)++S)).set (p+t) (B.getD t ed0)).set (p+t+1) x=P++B.take (t+1)++x::(B.drop (t+1)++S):=by rw[OC _ _ _ _ hUl.symm];rw[show(P++B.take t)++B.getD t ed0::B.getD t ed0::(B.drop (t+1)++S)=(P++B.take t++[B.getD t ed0])++B.getD t ed0::(B.drop (t+1)++S) by simp];rw[OC _ _ _ _ (by grind),QH B t oO];simp
  have g1:=GF (P++B.take t) x (B.getD t ed0::(B.drop (t+1)++S)) (j:=p+t) hUl.symm;have g2:((P++B.take t)++x::B.getD t ed0::(B.drop (t+1)++S)).getD (p+t+1) ed0=B.getD t ed0:=by rw[show(P++B.take t)++x::B.getD t ed0::(B.drop (t+1)++S)=(P++B.take t++[x])++B.getD t ed0::(B.drop (t+1)++S) by simp];exact GF _ _ _ (by simp[hp];omega)
  have r8:((P++B.take t)++x::B.getD t ed0::(B.drop (t+1)++S)).length=L:=by rw[<- hce];simp only[aAn,List.length_cons,aAw,aAL];omega
  rw[hce]at hD;generalize B.getD t ed0=y at *;generalize hc:(P++B.take t)++x::y::(B.drop (t+1)++S)=c at *;obtain⟨k1,j7⟩:∃ k1:Nat,k1=p+t:=⟨_,rfl⟩;rw[<- j7]at g1 g2 M6;have hel:=aK c;have da:=aR c k1 oO;have db:=aR c (k1+1) oO;rw[g1]at da;rw[g2]at db;rw[r8]at hel;have wG:IntKind.i64.wrap ((k1:Int)+1)=((k1+1:Nat):Int):=zW;have wG':IntKind.i64.wrap ((k1:Int)+1)=(k1:Int)+1:=wO _ oO oO;have hk1':(p:Int)+t=(k1:Int):=oO;have f13':fr 13=i k1:=by rw[f13,j7]
  have hA4:k1+1<L:=oO;have hB4:k1<L:=oO;rw[hk1']at L5;refine xw4 f10 f13' wF L5 ?_
  (refine zS [] [q] [0,2,4,6,8,10,12,14,16,18,20,22,24,26,28,31,32,35] ?_;intro J hJ;simp[f0,f13',hD,da,db,hel,r8,wG'];(repeat refine ca ?_);refine zJ hJ ?_)
  have e1:=jI c k1 y oO;have e2:=jI (c.set k1 y) (k1+1) x (by grind)
  first|rw[e1,e2,M6,St.set_set]|(rw[db]at e1;rw[e1,e2,M6,St.set_set])
  refine xw2 f13' wG' ?_;exact hJJ (k-(t+1)) _ _ oO ⟨t+1,oO,rfl,sF1 f0,sF1 f10,by simp;omega,sS,o6.set _⟩
def Aw.Zo:=LY.1
def Aw.U.Zo:=LY.2
end Go.Proofs.YtbgngpdonpeboaaGreatDoor
