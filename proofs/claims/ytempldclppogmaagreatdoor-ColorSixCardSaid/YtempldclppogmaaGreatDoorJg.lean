/- T5 at edges and at numbers: written by gentt.py. -/
import Derived.Test.YtempldclppogmaaGreatDoorJf
import Derived.Test.YtempldclppogmaaGreatDoorAwRg
set_option linter.unusedVariables false
set_option linter.unusedSimpArgs false
set_option linter.defProp false
set_option maxHeartbeats 4000000
open Go.Proofs.Tryz
namespace Go.Proofs.YtempldclppogmaaGreatDoor
open Go Go.RowKit Pl Aw
open Aw.U
theorem Ja:(∀(P A:List Ed) (y:Ed) (S:List Ed) (q L p m:Nat) (OM:FuncId) (cX:List LV) (Pc:St->Prop) (st:St) (YL:Aw.gU OM cX q Pc) (Zr:Pc st) (hq:q<st.next) (hA:Ris A) (hA2:A.length≠1) (hL:(P++A++y::S).length=L) (hl:L<=100000) (hp:P.length=p) (hm:m=p+A.length) (hH:st.H q=.box 56 3 (eds (P++A++y::S))),
 aB prog 211 [.ms q 0 L,i p,i m,i (m+1:Nat),.fn (.func OM) cX] st (Ew P A [y] S q st))/\(∀(P A:List Nu) (y:Nu) (S:List Nu) (q L p m:Nat) (OM:FuncId) (cX:List LV) (Pc:St->Prop) (st:St) (YL:Aw.U.gU OM cX q Pc) (Zr:Pc st) (hq:q<st.next) (hA:Ris A) (hA2:A.length≠1) (hL:(P++A++y::S).length=L) (hl:L<=100000) (hp:P.length=p) (hm:m=p+A.length) (hH:st.H q=.box 34 1 (eds (P++A++y::S))),
 aB prog 210 [.ms q 0 L,i p,i m,i (m+1:Nat),.fn (.func OM) cX] st (Ew P A [y] S q st)):=by
 refine⟨?_,?_⟩
 all_goals
  intro P A y S q L p m OM cX Pc st YL Zr hq hA hA2 hL hl hp hm hH;have hLl:L=p+A.length+(1+S.length):=by rw[<- hL,<- hp];simp only[aAh,List.length_cons];omega
  have e1:IntKind.i64.wrap ((m:Int)-p)=(A.length:Int):=zW;have e2:IntKind.i64.wrap ((m:Int)+1-m)=1:=zW;have e3:¬(A.length:Int)=1:=oO
  first|(have _:List Ed:=P;refine zN func211 ntmps211 [] ?_)|refine zN func210 ntmps210 [] ?_
  (repeat' (first|apply qS|apply qB|refine qK (zZ ?_)|(apply qC;simp[e1,e2,e3,hA2])|(refine zE ?_;intro J hJ;simp[e1,e2,e3,hA2];refine zJ hJ ?_)))
  refine qL (fun z fr st2=>∃ k v:Nat,k<=v/\v<=A.length/\z=v-k/\fr 0=.ms q 0 L/\fr 2=i m/\fr 4=.fn (.func OM) cX/\fr 14=i (p+k:Nat)/\fr 15=i (p+v:Nat)/\(∀ j,j<k->(A.getD j ed0).id<=y.id)/\(∀ j,v<=j->j<A.length->y.id<(A.getD j ed0).id)/\st2.H q=bxo (P++A++y::S)/\bN q st st2) A.length ?_ ?_
  .exact⟨0,A.length,oO,aAk _,rfl,sS,sS,sS,sS,by simp[hm],fun j h=>by omega,fun j h1 h2=>by omega,hH,bN.refl _ _⟩
  rintro z fr st2 ⟨k,v,hkv,hvB,rfl,f0,f2,f4,f14,f15,h1,h2,hD,Xu⟩ JJ hJJ;have O7:=YL.keep _ _ Zr Xu;have Zg:q<st2.next:=by have:=Xu.1;omega
  by_cases GD:k<v
  .obtain⟨s,hs⟩:∃ s:Nat,s=(p+k)+(p+v):=⟨_,rfl⟩;obtain⟨h,hh⟩:∃ h:Nat,p+h=s / 2:=⟨s / 2-p,oO⟩;have wA:IntKind.i64.wrap ((p:Int)+k+(p+v))=(s:Int):=zW;have wB:=zY s oO;obtain⟨ph,hph⟩:∃ ph:Nat,ph=p+h:=⟨_,rfl⟩;have wC:=FA s ph oO;have wD:IntKind.i64.wrap (ph:Int)=(ph:Int):=zW;have wE:IntKind.i64.wrap ((ph:Int)+1)=((p+(h+1):Nat):Int):=zW;have g1:(P++A++y::S).getD m ed0=y:=EK _ _ _ (by simp[hp,hm]);have g2:(P++A++y::S).getD ph ed0=A.getD h ed0:=by
    (first|rw[show P++A++y::S=P++(A++y::S) by simp,show ph=P.length+h by omega,Aw.BQ,Aw.pU _ _ _ oO]|rw[show P++A++y::S=P++(A++y::S) by simp,show ph=P.length+h by omega,Aw.U.BQ,Aw.U.pU _ _ _ oO])
   have I1:¬y.id<(A.getD h ed0).id->∀ j,j<h+1->(A.getD j ed0).id<=y.id:=fun h3 j hj=>by have:=iV hA (j:=j) (k:=h) oO oO;omega
   have YY:y.id<(A.getD h ed0).id->∀ j,h<=j->j<A.length->y.id<(A.getD j ed0).id:=fun h3 j hj hj2=>by have:=iV hA (j:=h) (k:=j) hj hj2;omega
   have hel:=aN (P++A++y::S);have da:=aW (P++A++y::S) m oO;have db:=aW (P++A++y::S) ph oO;rw[g1]at da;rw[g2]at db;rw[hL]at hel;have S1:∀ Xg ZW,ZW.H q=st2.H q->bN q st ZW->Xg 0=.ms q 0 L/\Xg 2=i m/\Xg 4=.fn (.func OM) cX->((¬y.id<(A.getD h ed0).id/\Xg 14=i (p+(h+1):Nat)/\Xg 15=i (p+v:Nat))\/(y.id<(A.getD h ed0).id/\Xg 14=i (p+k:Nat)/\Xg 15=i (p+h:Nat)))->JJ Xg ZW:=by
    rintro Xg ZW k1 k2 ⟨k3,k4,k5⟩ (⟨k6,k7,k8⟩|⟨k6,k7,k8⟩)
    .exact hJJ (v-(h+1)) _ _ oO ⟨h+1,v,oO,hvB,rfl,k3,k4,k5,k7,k8,I1 k6,h2,k1.trans hD,k2⟩
    .exact hJJ (h-k) _ _ oO ⟨k,h,oO,oO,rfl,k3,k4,k5,k7,k8,h1,YY k6,k1.trans hD,k2⟩
   clear hJJ I1 YY h1 h2;have K9:=YL.call st2 y (A.getD h ed0) O7;have YX:=pE y (A.getD h ed0);generalize hx:A.getD h ed0=x at *;generalize hc:P++A++y::S=c at *;generalize tE y x=cv at *;have hA4:ph<L:=oO;have hB4:m<L:=oO;have hkv':(p:Int)+k<p+v:=oO
   (repeat' (first|apply qS|apply qB|refine qK (zZ ?_)|(apply qC;simp[f14,f15,hkv',GD,wA,wB,wC,wD])|(refine zE ?_;intro J hJ;simp[f14,f15,hkv',GD,wA,wB,wC,wD];refine zJ hJ ?_)))
   (refine zS [] [q] [0,2,4,6,8,10,12,14,16,19,20,22] ?_;intro J hJ;simp[f0,f2,f4,hD,da,db,hel];(repeat refine ca ?_))
   refine aK K9 ?_;rintro r s4 ⟨rfl,Yb⟩;have N3:=Yb.H q Zg;refine⟨fun _=>by simp[N3,hD],?_⟩;by_cases Yh:y.id<x.id
   .have E6:cv<0:=by rw[aBB Yh]at YX;exact aBR YX
    (apply aS;simp[E6,N3,hD];refine zJ hJ ?_)
    (repeat' (first|(apply qC;simp[])|(refine zE ?_;intro J hJ;simp[];refine zJ hJ ?_)))
    exact S1 _ _ N3 (Xu.keeps Yb) ⟨by simp[f0],by simp[f2],by simp[f4]⟩ (.inr ⟨Yh,by simp[f14],by simp[hph]⟩)
   .have E6:¬cv<0:=by rw[aBH Yh]at YX;exact aCX YX
    (apply aS;simp[E6,N3,hD];refine zJ hJ ?_)
    (repeat' (first|(apply qC;simp[wE])|(refine zE ?_;intro J hJ;simp[wE];refine zJ hJ ?_)))
    exact S1 _ _ N3 (Xu.keeps Yb) ⟨by simp[f0],by simp[f2],by simp[f4]⟩ (.inl ⟨Yh,sS,by simp[f15]⟩)
  clear hJJ;obtain rfl:k=v:=oO;have hR:=Ez hA hvB h1 (fun j hj hj2=>by have:=h2 j hj hj2;omega);clear h1 h2
  (repeat' (first|apply qS|apply qB|refine qX (zZ ?_)|(apply qC;simp[f2,f14,f15])|(refine zE ?_;intro J hJ;simp[f2,f14,f15];refine zJ hJ ?_)))
  refine qL (fun z fr ZW=>∃ t:Nat,k<=t/\t<=A.length/\z=t/\fr 0=.ms q 0 L/\fr 14=i (p+k:Nat)/\fr 17=i (p+t:Nat)/\ZW.H q=bxo (P++A.take t++y::(A.drop t++S))/\bN q st ZW) A.length ?_ ?_
  .exact⟨A.length,oO,oO,rfl,by simp[f0],by simp[f14],by simp[hm],by simp;rw[hD];simp,Xu⟩
  clear f0 f2 f4 f14 f15 hD Xu O7 Zg fr st2;rintro t fr st2 ⟨t0,hkt,htA,rfl,f0,f14,f17,hD,Xu⟩ JJ hJJ;by_cases GD:k<t;rotate_left
  .clear hJJ;obtain rfl:t=k:=oO;have Xi:¬((p:Int)+t<p+t):=oO
   (repeat' (first|apply qS|refine qX (zZ ?_)|(refine qR (zZ ?_);simp[f14,f17,Xi])|(apply qC;simp[f14,f17,Xi])|(refine zE ?_;intro J hJ;simp[f14,f17,Xi];refine zJ hJ ?_)))
   refine⟨_,?_,hR,by rw[hD];simp,Xu⟩;refine aBO.trans ?_;rw[aAH];exact(List.perm_append_singleton y A).symm
  obtain⟨t',rfl⟩:∃ t',t=t'+1:=⟨t-1,oO⟩;have hce:P++A.take (t'+1)++y::(A.drop (t'+1)++S)=(P++A.take t')++A.getD t' ed0::y::(A.drop (t'+1)++S):=by rw[NX A t' oO];simp
  have hUl:(P++A.take t').length=p+t':=by simp[hp];omega
  have YN:(((P++A.take t')++A.getD t' ed0::y::(A.drop (t'+1)++S)).set (p+t'+1) (A.getD t' ed0)).set (p+t') y=P++A.take t'++y::(A.drop t'++S):=by rw[show(P++A.take t')++A.getD t' ed0::y::(A.drop (t'+1)++S)=(P++A.take t'++[A.getD t' ed0])++y::(A.drop (t'+1)++S) by simp];rw[LB _ _ _ _ (by simp[hp];omega)];rw[show(P++A.take t'++[A.getD t' ed0])++A.getD t' ed0::(A.drop (t'+1)++S)=(P++A.take t')++A.getD t' ed0::(A.getD t' ed0::(A.drop (t'+1)++S)) by simp];rw[LB _ _ _ _ hUl.symm,IB A t' oO];simp
  have g1:=EK (P++A.take t') (A.getD t' ed0) (y::(A.drop (t'+1)++S)) (j:=p+t') hUl.symm;have g2:((P++A.take t')++A.getD t' ed0::y::(A.drop (t'+1)++S)).getD (p+t'+1) ed0=y:=by rw[show(P++A.take t')++A.getD t' ed0::y::(A.drop (t'+1)++S)=(P++A.take t'++[A.getD t' ed0])++y::(A.drop (t'+1)++S) by simp];exact EK _ _ _ (by simp[hp];omega)
  have Xh:((P++A.take t')++A.getD t' ed0::y::(A.drop (t'+1)++S)).length=L:=by rw[<- hce];simp only[aAh,List.length_cons,aAq,aAP];omega
  rw[hce]at hD;generalize A.getD t' ed0=x at *;generalize hc:(P++A.take t')++x::y::(A.drop (t'+1)++S)=c at *;obtain⟨k1,Xp⟩:∃ k1:Nat,k1=p+t':=⟨_,rfl⟩;rw[<- Xp]at g1 g2 YN;have hel:=aN c;have da:=aW c k1 oO;have db:=aW c (k1+1) oO;rw[g1]at da;rw[g2]at db;rw[Xh]at hel;have wG':IntKind.i64.wrap (k1:Int)=(k1:Int):=vI _ oO oO;have f17':fr 17=i ((k1:Int)+1):=by rw[f17,Xp];simp;omega
  have hA4:k1+1<L:=oO;have hB4:k1<L:=oO;have hgt:(p:Int)+k<(k1:Int)+1:=oO
  (repeat' (first|apply qS|apply qB|refine qK (zZ ?_)|(apply qC;simp[f14,f17',hgt])|(refine zE ?_;intro J hJ;simp[f14,f17',hgt];refine zJ hJ ?_)))
  (refine zS [] [q] [0,2,4,6,8,10,12,14,16,18,20,22,24,26,28,31,32,35] ?_;intro J hJ;simp[f0,f17',hD,da,db,hel,Xh,wG'];(repeat refine ca ?_);refine zJ hJ ?_)
  have e1:=gP c (k1+1) x oO;have e2:=gP (c.set (k1+1) x) k1 y (by simp;omega);rw[e1,e2,YN,St.set_set]
  (repeat' (refine zE ?_;intro J hJ;simp[f17',wG'];refine zJ hJ ?_))
  exact hJJ t' _ _ oO ⟨t',oO,oO,rfl,by simp[f0],by simp[f14],by simp;omega,sS,Xu.set _⟩
def Aw.VC:=Ja.1
def Aw.U.VC:=Ja.2
open Go Go.RowKit Pl Aw
open Aw.U
namespace Aw
def VG(P A1 B1 R:List Ed)(q:Nat)(st st2:St):Prop:=Ew P A1 B1 R q st (.tu []) st2
end Aw
namespace Aw.U
def VG(P A1 B1 R:List Nu)(q:Nat)(st st2:St):Prop:=Ew P A1 B1 R q st (.tu []) st2
end Aw.U
namespace Aw
theorem CB{P:Program}{N:Nat}{Q:AQ}{k:List fU}{fr:Frm}{st:St}{x:Code}(I:Frm->St->Prop)(h1:AWp P N x (AK P N (fun e f s=>e=.normal/\I f s) []) fr st)(h2:∀ fr st,I fr st->AK P N Q k .normal fr st):AWp P N x (AK P N Q k) fr st:=by refine cY h1 ?_;rintro e Xg st' ⟨rfl,hI⟩;exact h2 _ _ hI
end Aw
theorem xV:(∀(q L:Nat) (OM:FuncId) (cX:List LV) (Pc:St->Prop) (YL:Aw.gU OM cX q Pc) (hl:L<=100000),
 ∀(n:Nat) (P A B S:List Ed) (p m b:Nat) (st:St),A.length+B.length<=n->A≠[]->B≠[]->Ris A->Ris B->(P++A++B++S).length=L->P.length=p->m=p+A.length->b=m+B.length->Pc st->q<st.next->st.H q=.box 56 3 (eds (P++A++B++S))->
 aB prog 211 [.ms q 0 L,i p,i m,i b,.fn (.func OM) cX] st (Ew P A B S q st))/\(∀(q L:Nat) (OM:FuncId) (cX:List LV) (Pc:St->Prop) (YL:Aw.U.gU OM cX q Pc) (hl:L<=100000),
 ∀(n:Nat) (P A B S:List Nu) (p m b:Nat) (st:St),A.length+B.length<=n->A≠[]->B≠[]->Ris A->Ris B->(P++A++B++S).length=L->P.length=p->m=p+A.length->b=m+B.length->Pc st->q<st.next->st.H q=.box 34 1 (eds (P++A++B++S))->
 aB prog 210 [.ms q 0 L,i p,i m,i b,.fn (.func OM) cX] st (Ew P A B S q st)):=by
 refine⟨?_,?_⟩
 all_goals
  intro q L OM cX Pc YL hl;intro n;induction n with
  |zero=>intro P A B S p m b st hn hA;have:=aBb.2 hA;omega
  |succ n ih=>
  intro P A B S p m b st hn hA hB rA rB hL hp hm hb Zr hq hH;have hA0:=aBb.2 hA;have L3:=aBb.2 hB;by_cases Q1:A.length=1
  .obtain⟨x,rfl⟩:∃ x,A=[x]:=aDD.1 Q1;have e:P++[x]++B++S=P++x::B++S:=sS;rw[e]at hH hL;subst hb;exact Vd P x B S q L p m OM cX Pc st YL Zr hq rB hL hl hp (by simpa using hm) hH
  by_cases Zz:B.length=1
  .obtain⟨y,rfl⟩:∃ y,B=[y]:=aDD.1 Zz;have e:P++A++[y]++S=P++A++y::S:=sS;rw[e]at hH hL;subst hb;exact VC P A y S q L p m OM cX Pc st YL Zr hq rA Q1 hL hl hp hm hH
  have hLl:L=p+A.length+B.length+S.length:=by rw[<- hL,<- hp];simp only[aAh]
  obtain⟨s,hs⟩:∃ s:Nat,s=p+b:=⟨_,rfl⟩;obtain⟨Xw,hmid⟩:∃ Xw:Nat,Xw=s / 2:=⟨_,rfl⟩;obtain⟨nn,hnn⟩:∃ nn:Nat,nn=Xw+m:=⟨_,rfl⟩;obtain⟨pp,U8⟩:∃ pp:Nat,nn=pp+1:=⟨nn-1,oO⟩;have e1:IntKind.i64.wrap ((m:Int)-p)=(A.length:Int):=zW;have e2:IntKind.i64.wrap ((b:Int)-m)=(B.length:Int):=zW;have wA:IntKind.i64.wrap ((p:Int)+b)=(s:Int):=zW;have wB:=zY s oO;have wC:=FA s Xw hmid;have wD:IntKind.i64.wrap (Xw:Int)=(Xw:Int):=zW;have wN:IntKind.i64.wrap ((Xw:Int)+m)=(nn:Int):=zW;have wP:IntKind.i64.wrap ((nn:Int)-1)=(pp:Int):=zW;obtain⟨s0,S9⟩:∃ s0:Nat,s0=if Xw<m then nn-b else p:=⟨_,rfl⟩
  obtain⟨r0,E4⟩:∃ r0:Nat,r0=if Xw<m then Xw else m:=⟨_,rfl⟩
  have hsr:p<=s0/\s0<=r0/\r0<=m/\r0<=Xw/\nn<=s0+b:=by
   by_cases h:Xw<m
   .rw[aAe h]at S9 E4;omega
   .rw[aAa h]at S9 E4;omega
  first|(have _:List Ed:=P;refine zN func211 ntmps211 [] ?_)|refine zN func210 ntmps210 [] ?_
  (repeat' (first|apply qS|(refine zE ?_;intro J hJ;simp[e1];refine zJ hJ ?_)))
  (apply qC;simp[Q1];(try with_reducible refine⟨?_,?_⟩)<;>(try with_reducible intro hc)<;>try (exfalso;omega))
  (repeat' (first|apply qS|refine qK (zZ ?_)|(refine zE ?_;intro J hJ;simp[e2];refine zJ hJ ?_)))
  (apply qC;simp[Zz];(try with_reducible refine⟨?_,?_⟩)<;>(try with_reducible intro hc)<;>try (exfalso;omega))
  (repeat' (first|apply qS|refine qK (zZ ?_)|(refine zE ?_;intro J hJ;simp[wA,wB,wC,wD,wN];refine zJ hJ ?_)))
  refine bC (fun fr st2=>fr 0=.ms q 0 L/\fr 1=i p/\fr 2=i m/\fr 3=i b/\fr 4=.fn (.func OM) cX/\fr 18=i Xw/\fr 19=i nn/\fr 20=i s0/\fr 21=i r0/\st2=st) ?_ ?_
  .by_cases h:Xw<m
   .rw[aAe h]at S9 E4;have w1:IntKind.i64.wrap ((nn:Int)-b)=(s0:Int):=zW
    (repeat' (first|apply qS|(apply qC;simp[h,w1,E4])|(refine zE ?_;intro J hJ;simp[h,w1,E4];refine zJ hJ ?_)))
    simp[E4]
   .rw[aAa h]at S9 E4
    (repeat' (first|apply qS|(apply qC;simp[h,S9,E4])|(refine zE ?_;intro J hJ;simp[h,S9,E4];refine zJ hJ ?_)))
    simp[S9,E4]
  rintro fr st2 ⟨f0,f1,f2,f3,f4,f18,f19,f20,f21,rfl⟩
  (repeat' (first|apply qS|apply qB|(refine zE ?_;intro J hJ;simp[f19,wP];refine zJ hJ ?_)))
  refine qL (fun z fr ZW=>∃ k v:Nat,s0<=k/\k<=v/\v<=r0/\z=v-k/\fr 0=.ms q 0 L/\fr 1=i p/\fr 2=i m/\fr 3=i b/\fr 4=.fn (.func OM) cX/\fr 18=i Xw/\fr 19=i nn/\fr 20=i k/\fr 21=i v/\fr 22=i pp/\(s0<k->(A.getD (k-1-p) ed0).id<=(B.getD (Xw-k) ed0).id)/\(v<r0->(B.getD (Xw-v-1) ed0).id<(A.getD (v-p) ed0).id)/\ZW.H q=bxo (P++A++B++S)/\bN q st2 ZW) (r0-s0) ?_ ?_
  .exact⟨s0,r0,aAk _,oO,aAk _,rfl,by simp[f0],by simp[f1],by simp[f2],by simp[f3],by simp[f4],by simp[f18],by simp[f19],by simp[f20],by simp[f21],sS,fun h=>by omega,fun h=>by omega,hH,bN.refl _ _⟩
  clear f0 f1 f2 f3 f4 f18 f19 f20 f21 fr;rintro z fr ZW ⟨k,v,Ye,hkv,hv0,rfl,f0,f1,f2,f3,f4,f18,f19,f20,f21,f22,h1,h2,hD,Xu⟩ JJ hJJ;have O7:=YL.keep _ _ Zr Xu;have V7:q<ZW.next:=by have:=Xu.1;omega
  by_cases GD:k<v
  .obtain⟨s',I3⟩:∃ s':Nat,s'=k+v:=⟨_,rfl⟩;obtain⟨c,hc⟩:∃ c:Nat,c=s' / 2:=⟨_,rfl⟩;obtain⟨d,hd⟩:∃ d:Nat,d=pp-c:=⟨_,rfl⟩;have w1:IntKind.i64.wrap ((k:Int)+v)=(s':Int):=zW;have w2:=zY s' oO;have w3:=FA s' c hc;have w4:IntKind.i64.wrap (c:Int)=(c:Int):=zW;have w5:IntKind.i64.wrap ((pp:Int)-c)=(d:Int):=zW;have w6:IntKind.i64.wrap ((c:Int)+1)=((c+1:Nat):Int):=zW;have g1:(P++A++B++S).getD d ed0=B.getD (Xw-c-1) ed0:=by
    (first|rw[show P++A++B++S=(P++A)++(B++S) by simp,show d=(P++A).length+(Xw-c-1) by simp;omega,Aw.BQ,Aw.pU _ _ _ oO]|rw[show P++A++B++S=(P++A)++(B++S) by simp,show d=(P++A).length+(Xw-c-1) by simp;omega,Aw.U.BQ,Aw.U.pU _ _ _ oO])
   have g2:(P++A++B++S).getD c ed0=A.getD (c-p) ed0:=by have h3:=BQ P (A++(B++S)) (c-p);rw[pU A (B++S) (c-p) oO,hp,show p+(c-p)=c by omega]at h3;rw[<- h3];simp
   have hel:=aN (P++A++B++S);have da:=aW (P++A++B++S) d oO;have db:=aW (P++A++B++S) c oO;rw[g1]at da;rw[g2]at db;rw[hL]at hel;have S1:∀ Xg P2,P2.H q=ZW.H q->bN q st2 P2->(Xg 0=.ms q 0 L/\Xg 1=i p/\Xg 2=i m/\Xg 3=i b/\Xg 4=.fn (.func OM) cX/\Xg 18=i Xw/\Xg 19=i nn/\Xg 22=i pp)->((¬(B.getD (Xw-c-1) ed0).id<(A.getD (c-p) ed0).id/\Xg 20=i (c+1:Nat)/\Xg 21=i v)\/((B.getD (Xw-c-1) ed0).id<(A.getD (c-p) ed0).id/\Xg 20=i k/\Xg 21=i c))->JJ Xg P2:=by
    rintro Xg P2 k1 k2 ⟨k3,k4,k5,k6,k7,k8,k9,k10⟩ (⟨j1,j2,j3⟩|⟨j1,j2,j3⟩)
    .exact hJJ (v-(c+1)) _ _ oO ⟨c+1,v,oO,oO,hv0,rfl,k3,k4,k5,k6,k7,k8,k9,j2,j3,k10,fun _=>by rw[aBU,<- Nat.sub_sub];omega,h2,k1.trans hD,k2⟩
    .exact hJJ (c-k) _ _ oO ⟨k,c,Ye,oO,oO,rfl,k3,k4,k5,k6,k7,k8,k9,j2,j3,k10,h1,fun _=>j1,k1.trans hD,k2⟩
   clear hJJ h1 h2;have K9:=YL.call ZW (B.getD (Xw-c-1) ed0) (A.getD (c-p) ed0) O7;have YX:=pE (B.getD (Xw-c-1) ed0) (A.getD (c-p) ed0);generalize B.getD (Xw-c-1) ed0=y at *;generalize A.getD (c-p) ed0=x at *;generalize hce:P++A++B++S=cc at *;generalize tE y x=cv at *;have hA4:d<L:=oO;have hB4:c<L:=oO
   (repeat' (first|apply qS|apply qB|refine qK (zZ ?_)|(apply qC;simp[f20,f21,GD,w1,w2,w3,w4])|(refine zE ?_;intro J hJ;simp[f20,f21,GD,w1,w2,w3,w4];refine zJ hJ ?_)))
   (refine zS [] [q] [0,2,4,6,8,10,12,14,16,18,20,23,24,26] ?_;intro J hJ;simp[f0,f4,f22,hD,da,db,hel,w5];(repeat refine ca ?_))
   refine aK K9 ?_;rintro r s4 ⟨rfl,Yb⟩;have N3:=Yb.H q V7;refine⟨fun _=>by simp[N3,hD],?_⟩;by_cases Yh:y.id<x.id
   .have E6:cv<0:=by rw[aBB Yh]at YX;exact aBR YX
    (apply aS;simp[E6,N3,hD];refine zJ hJ ?_)
    (repeat' (first|(apply qC;simp[])|(refine zE ?_;intro J hJ;simp[];refine zJ hJ ?_)))
    exact S1 _ _ N3 (Xu.keeps Yb) ⟨by simp[f0],by simp[f1],by simp[f2],by simp[f3],by simp[f4],by simp[f18],by simp[f19],by simp[f22]⟩ (.inr ⟨Yh,by simp[f20],sS⟩)
   .have E6:¬cv<0:=by rw[aBH Yh]at YX;exact aCX YX
    (apply aS;simp[E6,N3,hD];refine zJ hJ ?_)
    (repeat' (first|(apply qC;simp[w6])|(refine zE ?_;intro J hJ;simp[w6];refine zJ hJ ?_)))
    exact S1 _ _ N3 (Xu.keeps Yb) ⟨by simp[f0],by simp[f1],by simp[f2],by simp[f3],by simp[f4],by simp[f18],by simp[f19],by simp[f22]⟩ (.inl ⟨Yh,sS,by simp[f21]⟩)
  clear hJJ;obtain rfl:k=v:=oO;have hcut:Cut A B (k-p) (Xw-k):=by
   refine⟨oO,oO,?_,?_⟩
   .by_cases h:s0<k
    .refine .inr (.inr ?_);have:=h1 h
     rwa [show k-1-p=k-p-1 by omega]at this
    .by_cases h3:Xw<m
     .rw[aAe h3]at S9;exact .inr (.inl oO)
     .rw[aAa h3]at S9;exact .inl oO
   .by_cases h:k<r0
    .refine .inr (.inr ?_);have:=h2 h;omega
    .by_cases h3:Xw<m
     .rw[aAe h3]at E4;exact .inl oO
     .rw[aAa h3]at E4;exact .inr (.inl oO)
  have hj:=fun C D=>Cut.join (C:=C) (D:=D) rA rB hcut;have rA1:Ris (A.take (k-p)):=aDl (aDz _ _) rA;have rA2:Ris (A.drop (k-p)):=aDl (List.drop_sublist _ _) rA;have rB1:Ris (B.take (Xw-k)):=aDl (aDz _ _) rB;have rB2:Ris (B.drop (Xw-k)):=aDl (List.drop_sublist _ _) rB;have lA1:(A.take (k-p)).length=k-p:=by rw[aAq];omega
  have lA2:(A.drop (k-p)).length=m-k:=by rw[aAP];omega
  have lB1:(B.take (Xw-k)).length=Xw-k:=by rw[aAq];omega
  have lB2:(B.drop (Xw-k)).length=b-m-(Xw-k):=by rw[aAP];omega
  have eA:=aAH (k-p) A;have eB:=aAH (Xw-k) B;obtain⟨ed,hed⟩:∃ ed:Nat,ed=nn-k:=⟨_,rfl⟩;have wE:IntKind.i64.wrap ((nn:Int)-k)=(ed:Int):=zW;clear hcut h1 h2;generalize A.take (k-p)=A1 at *;generalize A.drop (k-p)=A2 at *;generalize B.take (Xw-k)=B1 at *;generalize B.drop (Xw-k)=B2 at *;have nz:∀ {l:List (CN P)} {j:Nat},l.length=j->0<j->l≠[]:=fun h1 h2 h3=>by subst h3;simp at h1;omega
  have zz:∀ {l:List (CN P)} {j:Nat},l.length=j->j=0->l=[]:=fun h1 h2=>aAE oO;have hD':ZW.H q=bxo ((P++A1)++A2++B1++(B2++S)):=by rw[hD,<- eA,<- eB];simp
  have U5:((P++A1)++A2++B1++(B2++S)).length=L:=by simp only[aAh];omega
  have hpA:(P++A1).length=k:=by simp only[aAh];omega
  clear hD;have YG:¬(k:Int)<k:=oO
  (repeat' (first|apply qS|(refine zE ?_;intro J hJ;simp[f20,f21];refine zJ hJ ?_)))
  (apply qC;simp[YG])
  refine qX (zZ ?_)
  (repeat (apply qS))
  (refine zE ?_;intro J hJ;simp[f19,f20,wE];refine zJ hJ ?_)
  (repeat (apply qS))
  refine CB (fun Xg P2=>(Xg 0=.ms q 0 L/\Xg 1=i p/\Xg 2=i m/\Xg 3=i b/\Xg 4=.fn (.func OM) cX/\Xg 18=i Xw/\Xg 20=i k/\Xg 24=i ed/\Xg 185=bb (decide (k<m/\m<ed)))/\P2=ZW) ?_ ?_
  .by_cases c1:k<m
   .by_cases c2:m<ed
    ·(refine zE ?_;intro J hJ;simp[f20,f2,c1,c2];refine zJ hJ ?_)
     simp[f0,f1,f2,f3,f4,f18,f20,c1,c2]
    ·(refine zE ?_;intro J hJ;simp[f20,f2,c1,c2];refine zJ hJ ?_)
     simp[f0,f1,f2,f3,f4,f18,f20,c1,c2]
   ·(refine zE ?_;intro J hJ;simp[f20,f2,c1];refine zJ hJ ?_)
    simp[f0,f1,f2,f3,f4,f18,f20,c1]
  clear f0 f1 f2 f3 f4 f18 f19 f20 f21 f22 fr;rintro fr P2 ⟨⟨f0,f1,f2,f3,f4,f18,f20,f24,f185⟩,rfl⟩;simp only[ak]
  (repeat (apply qS))
  refine bC (fun Xg st5=>(Xg 0=.ms q 0 L/\Xg 1=i p/\Xg 3=i b/\Xg 4=.fn (.func OM) cX/\Xg 18=i Xw/\Xg 20=i k/\Xg 24=i ed)/\st5.H q=bxo (P++A1++B1++(A2++B2++S))/\bN q st2 st5) ?_ ?_
  .by_cases c:k<m/\m<ed
   .rw[aBB c]at f185;have YO:=Nc (P++A1) A2 B1 (B2++S) q (.func OM) cX P2 (nz lA2 oO) (nz lB1 oO) oO hD';rw[hpA,lA2,lB1,show k+(m-k)=m by omega,show m+(Xw-k)=ed by omega,U5]at YO;have e9:P++A1++B1++A2++(B2++S)=P++A1++B1++(A2++B2++S):=sS;rw[e9]at YO;generalize P++A1++B1++(A2++B2++S)=cc at *
    (repeat' (first|(apply qC;simp[f185,f0,f20,f2,f24,f4])|(refine zE ?_;intro J hJ;simp[f185,f0,f20,f2,f24,f4])))
    refine qE YO sS ?_;rintro r s5 rfl
    (repeat' (apply aF;simp[];refine zJ hJ ?_))
    simp[f0,f1,f3,f4,f18,f20,f24];exact Xu.set _
   .rw[aBH c]at f185;have e9:(P++A1)++A2++B1++(B2++S)=P++A1++B1++(A2++B2++S):=by
     by_cases c1:k<m
     .rw[zz lB1 oO];simp
     .rw[zz lA2 oO];simp
    rw[e9]at hD';generalize P++A1++B1++(A2++B2++S)=cc at *
    (repeat' (first|refine qK (zZ ?_)|(apply qC;simp[f185])))
    simp[f0,f1,f3,f4,f18,f20,f24,hD',Xu]
  clear f0 f1 f2 f3 f4 f18 f20 f24 f185 hD' Xu V7 O7 fr;rintro fr st5 ⟨⟨f0,f1,f3,f4,f18,f20,f24⟩,hD,Xu⟩
  (repeat (apply qS))
  refine CB (fun Xg st6=>(Xg 0=.ms q 0 L/\Xg 1=i p/\Xg 3=i b/\Xg 4=.fn (.func OM) cX/\Xg 18=i Xw/\Xg 20=i k/\Xg 24=i ed/\Xg 199=bb (decide (p<k/\k<Xw)))/\st6=st5) ?_ ?_
  .by_cases c1:p<k
   .by_cases c2:k<Xw
    ·(refine zE ?_;intro J hJ;simp[f20,f1,f18,c1,c2];refine zJ hJ ?_)
     simp[f0,f1,f3,f4,f18,f20,f24,c1,c2]
    ·(refine zE ?_;intro J hJ;simp[f20,f1,f18,c1,c2];refine zJ hJ ?_)
     simp[f0,f1,f3,f4,f18,f20,f24,c1,c2]
   ·(refine zE ?_;intro J hJ;simp[f20,f1,c1];refine zJ hJ ?_)
    simp[f0,f1,f3,f4,f18,f20,f24,c1]
  clear f0 f1 f3 f4 f18 f20 f24 fr;rintro fr st6 ⟨⟨f0,f1,f3,f4,f18,f20,f24,f199⟩,rfl⟩;simp only[ak]
  (repeat (apply qS))
  refine bC (fun Xg st7=>(Xg 0=.ms q 0 L/\Xg 3=i b/\Xg 4=.fn (.func OM) cX/\Xg 18=i Xw/\Xg 24=i ed)/\VG P A1 B1 (A2++B2++S) q st2 st7) ?_ ?_
  .have hP6:=YL.keep _ _ Zr Xu;have hq6:q<st6.next:=by have:=Xu.1;omega
   by_cases c:p<k/\k<Xw
   .rw[aBB c]at f199;have YO:=ih P A1 B1 (A2++B2++S) p k Xw st6 oO (nz lA1 oO) (nz lB1 oO) rA1 rB1 (by simp only[aAh];omega) hp oO oO hP6 hq6 hD
    (repeat' (first|(apply qC;simp[f199,f0,f1,f20,f18,f4])|(refine zE ?_;intro J hJ;simp[f199,f0,f1,f20,f18,f4])))
    refine qE YO sS ?_;rintro r s7 ⟨C,k1,k2,k3,k4⟩
    (repeat' (apply aF;simp[];refine zJ hJ ?_))
    simp[f0,f3,f4,f18,f24];exact⟨C,k1,k2,by rw[k3];simp,Xu.trans k4⟩
   .rw[aBH c]at f199;have e9:Ris (A1++B1):=by
     by_cases c1:p<k
     .rw[zz lB1 oO,aAK];exact rA1
     .rw[zz lA1 oO,List.nil_append];exact rB1
    (repeat' (first|refine qK (zZ ?_)|(apply qC;simp[f199])))
    simp[f0,f3,f4,f18,f24];exact⟨A1++B1,.refl _,e9,by rw[hD];simp,Xu⟩
  clear f0 f1 f3 f4 f18 f20 f24 f199 hD Xu fr;rintro fr st7 ⟨⟨f0,f3,f4,f18,f24⟩,C,c1,c2,hD,Xu⟩;have lC:=c1.length_eq;rw[aAh,lA1,lB1]at lC;have hD:st7.H q=bxo (P++C++A2++B2++S):=by rw[hD];simp
  (repeat (apply qS))
  refine CB (fun Xg st8=>(Xg 0=.ms q 0 L/\Xg 3=i b/\Xg 4=.fn (.func OM) cX/\Xg 18=i Xw/\Xg 24=i ed/\Xg 213=bb (decide (Xw<ed/\ed<b)))/\st8=st7) ?_ ?_
  .by_cases c1:Xw<ed
   .by_cases c2:ed<b
    ·(refine zE ?_;intro J hJ;simp[f24,f3,f18,c1,c2];refine zJ hJ ?_)
     simp[f0,f3,f4,f18,f24,c1,c2]
    ·(refine zE ?_;intro J hJ;simp[f24,f3,f18,c1,c2];refine zJ hJ ?_)
     simp[f0,f3,f4,f18,f24,c1,c2]
   ·(refine zE ?_;intro J hJ;simp[f24,f18,c1];refine zJ hJ ?_)
    simp[f0,f3,f4,f18,f24,c1]
  clear f0 f3 f4 f18 f24 fr;rintro fr st8 ⟨⟨f0,f3,f4,f18,f24,f213⟩,rfl⟩;simp only[ak];have hP8:=YL.keep _ _ Zr Xu;have hq8:q<st8.next:=by have:=Xu.1;omega
  by_cases c:Xw<ed/\ed<b
  .rw[aBB c]at f213;have YO:=ih (P++C) A2 B2 S Xw ed b st8 oO (nz lA2 oO) (nz lB2 oO) rA2 rB2 (by simp only[aAh];omega) (by simp only[aAh];omega) oO oO hP8 hq8 hD
   (repeat' (first|(apply qC;simp[f213,f0,f3,f24,f18,f4])|(refine zE ?_;intro J hJ;simp[f213,f0,f3,f24,f18,f4])))
   refine qE YO sS ?_;rintro r s9 ⟨D,k1,k2,k3,k4⟩
   (repeat' (apply aF;simp[];refine zJ hJ ?_))
   obtain⟨j1,j2⟩:=hj C D c1 k1 c2 k2;exact⟨trivial,C++D,j1,j2,by rw[k3];simp,Xu.trans k4⟩
  .rw[aBH c]at f213;have e9:Ris (A2++B2):=by
    by_cases c1:Xw<ed
    .rw[zz lB2 oO,aAK];exact rA2
    .rw[zz lA2 oO,List.nil_append];exact rB2
   (repeat' (first|refine qK (zZ ?_)|(apply qC;simp[f213])))
   obtain⟨j1,j2⟩:=hj C (A2++B2) c1 (.refl _) c2 e9;exact⟨trivial,C++(A2++B2),j1,j2,by rw[hD];simp,Xu⟩
def Aw.Fx:=xV.1
def Aw.U.Fx:=xV.2
open Go Go.RowKit Pl Aw
open Aw.U
namespace Aw
structure Mgd(D D':List Ed)(lo hi:Nat):Prop where
 len:D'.length=D.length
 perm:D'.Perm D
 out:∀ j,j<lo\/hi<=j->D'.getD j ed0=D.getD j ed0
 inn:∀ j k,lo<=j->j<=k->k<hi->(D'.getD j ed0).id<=(D'.getD k ed0).id
end Aw
namespace Aw.U
structure Mgd(D D':List Nu)(lo hi:Nat):Prop where
 len:D'.length=D.length
 perm:D'.Perm D
 out:∀ j,j<lo\/hi<=j->D'.getD j ed0=D.getD j ed0
 inn:∀ j k,lo<=j->j<=k->k<hi->(D'.getD j ed0).id<=(D'.getD k ed0).id
end Aw.U
theorem PS:(∀ ⦃D P X S C:List Ed⦄ (hD:P++X++S=D) (hC:C.Perm X) (hr:Aw.Ris C) ⦃lo hi:Nat⦄ (h1:P.length=lo) (h2:hi=lo+X.length),
 Aw.Mgd D (P++C++S) lo hi)/\(∀ ⦃D P X S C:List Nu⦄ (hD:P++X++S=D) (hC:C.Perm X) (hr:Aw.U.Ris C) ⦃lo hi:Nat⦄ (h1:P.length=lo) (h2:hi=lo+X.length),
 Aw.U.Mgd D (P++C++S) lo hi):=by
 refine⟨?_,?_⟩
 all_goals
  intro D P X S C hD hC hr lo hi h1 h2;have hl:=hC.length_eq;subst hD;refine⟨by simp[hl],aDC _ (aBL _ hC),fun j hj=>?_,fun j k hj K8 hk=>?_⟩
  .rcases aAN j lo with h|h
   ·(first|rw[Aw.pU _ _ _ (by simp;omega),Aw.pU _ _ _ oO,Aw.pU _ _ _ (by simp;omega),Aw.pU _ _ _ oO]|rw[Aw.U.pU _ _ _ (by simp;omega),Aw.U.pU _ _ _ oO,Aw.U.pU _ _ _ (by simp;omega),Aw.U.pU _ _ _ oO])
   .have e1:=BQ (P++C) S (j-hi);have e2:=BQ (P++X) S (j-hi);have l1:(P++C).length+(j-hi)=j:=by simp;omega
    have l2:(P++X).length+(j-hi)=j:=by simp;omega
    rw[l1]at e1;rw[l2]at e2;rw[e1,e2]
  .have e:∀ x,lo<=x->x<hi->(P++C++S).getD x ed0=C.getD (x-lo) ed0:=fun x g1 g2=>by have e1:=BQ P (C++S) (x-lo);rw[show P.length+(x-lo)=x by omega,pU C S (x-lo) oO]at e1;rw[<- e1];simp
   rw[e j hj oO,e k oO hk];exact iV hr oO oO
def Aw.mgd:=PS.1
def Aw.U.mgd:=PS.2
namespace Aw
theorem Th{α:Type}(D:List α)(lo hi:Nat)(h:lo<=hi):D.take lo++(D.drop lo).take (hi-lo)++D.drop hi=D:=by
 have e:(D.drop lo).drop (hi-lo)=D.drop hi:=by rw[aCK];congr 1;omega
 rw[aAD,<- e,aAH,aAH]
end Aw
theorem BA:(∀ ⦃D:List Ed⦄ ⦃lo hi:Nat⦄ (hh:hi<=D.length) (h:∀ j k,lo<=j->j<=k->k<hi->(D.getD j Aw.ed0).id<=(D.getD k Aw.ed0).id),
 Aw.Ris ((D.drop lo).take (hi-lo)))/\(∀ ⦃D:List Nu⦄ ⦃lo hi:Nat⦄ (hh:hi<=D.length) (h:∀ j k,lo<=j->j<=k->k<hi->(D.getD j Aw.U.ed0).id<=(D.getD k Aw.U.ed0).id),
 Aw.U.Ris ((D.drop lo).take (hi-lo))):=by
 refine⟨?_,?_⟩
 all_goals
  intro D lo hi hh h;refine aAJ.2 fun a b ha hb YC=>?_;simp only[aAq,aAP]at ha hb;rw[aBP,aBP,aCh,aCh,<- jF D (lo+a) oO,<- jF D (lo+b) oO];exact h _ _ oO oO oO
def Aw.zL:=BA.1
def Aw.U.zL:=BA.2
theorem GW:(∀(q L:Nat) (OM:FuncId) (cX:List LV) (Pc:St->Prop) (YL:Aw.gU OM cX q Pc) (hl:L<=100000) (D:List Ed) (a b:Nat) (st:St) (hD:D.length=L) (ha:a<=b) (hb:b<=L) (Zr:Pc st) (hq:q<st.next) (hH:st.H q=.box 56 3 (Aw.eds D)),
 aB prog 200 [.ms q 0 L,i a,i b,.fn (.func OM) cX] st fun r st'=>∃ D',st'.H q=.box 56 3 (Aw.eds D')/\Aw.Mgd D D' a b/\bN q st st')/\(∀(q L:Nat) (OM:FuncId) (cX:List LV) (Pc:St->Prop) (YL:Aw.U.gU OM cX q Pc) (hl:L<=100000) (D:List Nu) (a b:Nat) (st:St) (hD:D.length=L) (ha:a<=b) (hb:b<=L) (Zr:Pc st) (hq:q<st.next) (hH:st.H q=.box 34 1 (Aw.U.eds D)),
 aB prog 209 [.ms q 0 L,i a,i b,.fn (.func OM) cX] st fun r st'=>∃ D',st'.H q=.box 34 1 (Aw.U.eds D')/\Aw.U.Mgd D D' a b/\bN q st st'):=by
 refine⟨?_,?_⟩
 all_goals
  intro q L OM cX Pc YL hl D a b st hD ha hb Zr hq hH;have hc:=Th D a b ha;have l1:(D.take a).length=a:=by rw[aAq];omega
  have l2:((D.drop a).take (b-a)).length=b-a:=by rw[aAq,aAP];omega
  have h:=KR (D.take a) ((D.drop a).take (b-a)) (D.drop b) q OM cX Pc st YL Zr hq (by rw[hc];omega) (by rw[hc];exact hH);rw[hc,hD,l1,l2,show a+(b-a)=b by omega]at h;refine h.mono ?_;rintro r st' ⟨Y,h1,h2,h3,h4⟩;exact⟨_,h3,mgd hc h1 h2 l1 oO,h4⟩
def Aw.Ov:=GW.1
def Aw.U.Ov:=GW.2
theorem GR:(∀(q L:Nat) (OM:FuncId) (cX:List LV) (Pc:St->Prop) (YL:Aw.gU OM cX q Pc) (hl:L<=100000) (D:List Ed) (a m b:Nat) (st:St) (hD:D.length=L) (ha:a<m) (hm:m<b) (hb:b<=L) (h1:∀ j k,a<=j->j<=k->k<m->(D.getD j Aw.ed0).id<=(D.getD k Aw.ed0).id) (h2:∀ j k,m<=j->j<=k->k<b->(D.getD j Aw.ed0).id<=(D.getD k Aw.ed0).id) (Zr:Pc st) (hq:q<st.next) (hH:st.H q=.box 56 3 (Aw.eds D)),
 aB prog 211 [.ms q 0 L,i a,i m,i b,.fn (.func OM) cX] st fun r st'=>∃ D',st'.H q=.box 56 3 (Aw.eds D')/\Aw.Mgd D D' a b/\bN q st st')/\(∀(q L:Nat) (OM:FuncId) (cX:List LV) (Pc:St->Prop) (YL:Aw.U.gU OM cX q Pc) (hl:L<=100000) (D:List Nu) (a m b:Nat) (st:St) (hD:D.length=L) (ha:a<m) (hm:m<b) (hb:b<=L) (h1:∀ j k,a<=j->j<=k->k<m->(D.getD j Aw.U.ed0).id<=(D.getD k Aw.U.ed0).id) (h2:∀ j k,m<=j->j<=k->k<b->(D.getD j Aw.U.ed0).id<=(D.getD k Aw.U.ed0).id) (Zr:Pc st) (hq:q<st.next) (hH:st.H q=.box 34 1 (Aw.U.eds D)),
 aB prog 210 [.ms q 0 L,i a,i m,i b,.fn (.func OM) cX] st fun r st'=>∃ D',st'.H q=.box 34 1 (Aw.U.eds D')/\Aw.U.Mgd D D' a b/\bN q st st'):=by
 refine⟨?_,?_⟩
 all_goals
  intro q L OM cX Pc YL hl D a m b st hD ha hm hb h1 h2 Zr hq hH;have ZK:=Th D m b oO;have T8:=Th (D.take m) a m oO;have e1:((D.take m).drop a).take (m-a)=(D.drop a).take (m-a):=by rw[aEB,aBZ,Nat.min_self]
  have e2:(D.take m).drop m=[]:=by rw[List.drop_eq_nil_iff,aAq];omega
  have e3:(D.take m).take a=D.take a:=by rw[aBZ,aCu oO]
  rw[e1,e2,e3,aAK]at T8;have hc:D.take a++(D.drop a).take (m-a)++(D.drop m).take (b-m)++D.drop b=D:=by rw[T8,ZK]
  have l1:(D.take a).length=a:=by rw[aAq];omega
  have l2:((D.drop a).take (m-a)).length=m-a:=by rw[aAq,aAP];omega
  have l3:((D.drop m).take (b-m)).length=b-m:=by rw[aAq,aAP];omega
  have r1:=zL (D:=D) (lo:=a) (hi:=m) oO h1;have r2:=zL (D:=D) (lo:=m) (hi:=b) oO h2;have h:=Fx q L OM cX Pc YL hl _ (D.take a) ((D.drop a).take (m-a)) ((D.drop m).take (b-m)) (D.drop b) a m b st (aAk _) (fun e=>by rw[e]at l2;simp at l2;omega) (fun e=>by rw[e]at l3;simp at l3;omega) r1 r2 (by rw[hc];exact hD) l1 oO oO Zr hq (by rw[hc];exact hH);refine h.mono ?_;rintro r st' ⟨C,k1,k2,k3,k4⟩;refine⟨_,k3,mgd (X:=(D.drop a).take (m-a)++(D.drop m).take (b-m)) (by rw[<- aAD (D.take a)];exact hc) k1 k2 l1 (by simp only[aAh];omega),k4⟩
def Aw.OB:=GR.1
def Aw.U.OB:=GR.2
namespace Aw
def Bs(s lo hi:Nat)(D:List Ed):Prop:=∀ j k,lo<=j->j<=k->k<hi->j / s=k / s->(D.getD j ed0).id<=(D.getD k ed0).id
end Aw
namespace Aw.U
def Bs(s lo hi:Nat)(D:List Nu):Prop:=∀ j k,lo<=j->j<=k->k<hi->j / s=k / s->(D.getD j ed0).id<=(D.getD k ed0).id
end Aw.U
namespace Aw
theorem Dg{s t j:Nat}(h1:s*t<=j)(h2:j<s*t+s):j / s=t:=by
 refine Nat.div_eq_of_lt_le ?_ ?_
 .rw[aBI];exact h1
 .rw[aBI,Nat.mul_succ];exact h2
end Aw
theorem Bs.extTwo:(∀ ⦃s a b t:Nat⦄ ⦃D D':List Ed⦄ (h:Aw.Bs s 0 a D) (hm:Aw.Mgd D D' a b) (hs:0<s) (ht:a=s*t),
 Aw.Bs s 0 b D')/\(∀ ⦃s a b t:Nat⦄ ⦃D D':List Nu⦄ (h:Aw.U.Bs s 0 a D) (hm:Aw.U.Mgd D D' a b) (hs:0<s) (ht:a=s*t),
 Aw.U.Bs s 0 b D'):=by
 refine⟨?_,?_⟩
 all_goals
  intro s a b t D D' h hm hs ht;intro j k _ K8 hk he;rcases aAN k a with h1|h1
  .rw[hm.out j (.inl oO),hm.out k (.inl h1)];exact h j k (aBs _) K8 h1 he
  .rcases aAN j a with h2|h2
   .have h3:j / s<t:=aEK oO;have h4:t<=k / s:=(aEC hs).2 (by rw[aBI];omega);omega
   .exact hm.inn j k h2 K8 hk
def Aw.Bs.ext:=Bs.extTwo.1
def Aw.U.Bs.ext:=Bs.extTwo.2
theorem Bs.restTwo:(∀ ⦃s a b:Nat⦄ ⦃L:Nat⦄ ⦃D D':List Ed⦄ (h:Aw.Bs s a L D) (hm:Aw.Mgd D D' a b) (YC:a<=b),
 Aw.Bs s b L D')/\(∀ ⦃s a b:Nat⦄ ⦃L:Nat⦄ ⦃D D':List Nu⦄ (h:Aw.U.Bs s a L D) (hm:Aw.U.Mgd D D' a b) (YC:a<=b),
 Aw.U.Bs s b L D'):=by
 refine⟨?_,?_⟩
 all_goals
  intro s a b L D D' h hm YC;intro j k h1 K8 hk he;rw[hm.out j (.inr h1),hm.out k (.inr oO)];exact h j k oO K8 hk he
def Aw.Bs.rest:=Bs.restTwo.1
def Aw.U.Bs.rest:=Bs.restTwo.2
namespace Aw
theorem Bs.block{s a L t:Nat}{D:List Ed}(h:Bs s a L D){c:Nat}(hc:s*t=c)(hac:a<=c){j k:Nat}(h1:c<=j)(h2:j<=k)(h3:k<c+s)(h4:k<L):(D.getD j ed0).id<=(D.getD k ed0).id:=
 h j k oO h2 h4 ((Dg (t:=t) oO oO).trans (Dg oO oO).symm)
end Aw
namespace Aw.U
theorem Bs.block{s a L t:Nat}{D:List Nu}(h:Bs s a L D){c:Nat}(hc:s*t=c)(hac:a<=c){j k:Nat}(h1:c<=j)(h2:j<=k)(h3:k<c+s)(h4:k<L):(D.getD j ed0).id<=(D.getD k ed0).id:=
 h j k oO h2 h4 ((Dg (t:=t) oO oO).trans (Dg oO oO).symm)
end Aw.U
theorem Bs.allTwo:(∀ ⦃s L:Nat⦄ ⦃D:List Ed⦄ (h:Aw.Bs s 0 L D) (hs:L<=s) (hD:D.length=L),
 Aw.Ris D)/\(∀ ⦃s L:Nat⦄ ⦃D:List Nu⦄ (h:Aw.U.Bs s 0 L D) (hs:L<=s) (hD:D.length=L),
 Aw.U.Ris D):=by
 refine⟨?_,?_⟩
 all_goals
  intro s L D h hs hD;have:=zL (D:=D) (lo:=0) (hi:=L) oO fun j k h1 h2 h3=>h j k h1 h2 h3 (by rw[aDH oO,aDH oO])
  rwa [List.drop_zero,aAv oO]at this
def Aw.Bs.all:=Bs.allTwo.1
def Aw.U.Bs.all:=Bs.allTwo.2
namespace Aw
theorem Mgd.from{D D':List Ed}{a b:Nat}(h:Mgd D D' a b){D0:List Ed}(k:D.Perm D0):D'.Perm D0:=h.perm.trans k
end Aw
namespace Aw.U
theorem Mgd.from{D D':List Nu}{a b:Nat}(h:Mgd D D' a b){D0:List Nu}(k:D.Perm D0):D'.Perm D0:=h.perm.trans k
end Aw.U
namespace Aw
def Bj(D0:List Ed)(q L:Nat)(st st2:St)(D:List Ed):Prop:=D.length=L/\D.Perm D0/\st2.H q=.box 56 3 (eds D)/\bN q st st2
end Aw
namespace Aw.U
def Bj(D0:List Nu)(q L:Nat)(st st2:St)(D:List Nu):Prop:=D.length=L/\D.Perm D0/\st2.H q=.box 34 1 (eds D)/\bN q st st2
end Aw.U
namespace Aw
theorem Bj.step{D0:List Ed}{q L:Nat}{st st2 ZW:St}{D D':List Ed}{a b:Nat}(h:Bj D0 q L st st2 D)(hm:Mgd D D' a b)(h1:ZW.H q=.box 56 3 (eds D'))(h2:bN q st2 ZW):Bj D0 q L st ZW D':=
 ⟨hm.len.trans h.1,hm.from h.2.1,h1,h.2.2.2.trans h2⟩
end Aw
namespace Aw.U
theorem Bj.step{D0:List Nu}{q L:Nat}{st st2 ZW:St}{D D':List Nu}{a b:Nat}(h:Bj D0 q L st st2 D)(hm:Mgd D D' a b)(h1:ZW.H q=.box 34 1 (eds D'))(h2:bN q st2 ZW):Bj D0 q L st ZW D':=
 ⟨hm.len.trans h.1,hm.from h.2.1,h1,h.2.2.2.trans h2⟩
end Aw.U
theorem CX:(∀(D0:List Ed) (q L:Nat) (OM:FuncId) (cX:List LV) (Pc:St->Prop) (st:St) (YL:Aw.gU OM cX q Pc) (Zr:Pc st) (hq:q<st.next) (hL:D0.length=L) (hl:L<=100000) (hH:st.H q=.box 56 3 (Aw.eds D0)),
 aB prog 193 [.ms q 0 L,i L,.fn (.func OM) cX] st fun r st'=>∃ D,D.Perm D0/\Aw.Ris D/\st'.H q=.box 56 3 (Aw.eds D)/\bN q st st')/\(∀(D0:List Nu) (q L:Nat) (OM:FuncId) (cX:List LV) (Pc:St->Prop) (st:St) (YL:Aw.U.gU OM cX q Pc) (Zr:Pc st) (hq:q<st.next) (hL:D0.length=L) (hl:L<=100000) (hH:st.H q=.box 34 1 (Aw.U.eds D0)),
 aB prog 192 [.ms q 0 L,i L,.fn (.func OM) cX] st fun r st'=>∃ D,D.Perm D0/\Aw.U.Ris D/\st'.H q=.box 34 1 (Aw.U.eds D)/\bN q st st'):=by
 refine⟨?_,?_⟩
 all_goals
  intro D0 q L OM cX Pc st YL Zr hq hL hl hH
  first|(have _:List Ed:=D0;refine zN func193 ntmps193 [] ?_)|refine zN func192 ntmps192 [] ?_
  (repeat' (first|apply qS|apply qB|(refine zE ?_;intro J hJ;simp[];refine zJ hJ ?_)))
  refine qL (fun z fr st2=>∃(t a:Nat) (D:List (CN D0)),a=20*t/\a<=L/\z=L-a/\fr 0=.ms q 0 L/\fr 1=i L/\fr 2=.fn (.func OM) cX/\fr 6=i 20/\fr 7=i a/\fr 8=i (a+20:Nat)/\Bs 20 0 a D/\Bj D0 q L st st2 D) L ?_ ?_
  .exact⟨0,0,D0,rfl,oO,rfl,sS,sS,sS,sS,sS,sS,fun j k _ _ h=>by omega,hL,.refl _,hH,bN.refl _ _⟩
  rintro z fr st2 ⟨t,a,D,ht,ha,rfl,f0,f1,f2,f6,f7,f8,hB,hI⟩ JJ hJJ;have hP2:=YL.keep _ _ Zr hI.2.2.2;have Zg:q<st2.next:=by have:=hI.2.2.2.1;omega
  by_cases Xm:a+20<=L
  .have ZM:(a:Int)+20<=L:=oO;have hc:=Ov q L OM cX Pc YL oO D a (a+20) st2 hI.1 oO Xm hP2 Zg hI.2.2.1;have w1:IntKind.i64.wrap ((a:Int)+20+20)=((a+20+20:Nat):Int):=zW
   (repeat' (first|apply qS|apply qB|refine qK (zZ ?_)|(apply qC;simp[f0,f1,f2,f7,f8,ZM])|(refine zE ?_;intro J hJ;simp[f0,f1,f2,f7,f8,ZM];(try refine zJ hJ ?_))))
   refine qE hc sS ?_;rintro r s3 ⟨D',k1,k2,k3⟩
   (repeat' (first|apply qS|((first|(refine zE ?_;intro J hJ)|(apply aF));simp[f8,f6,w1];refine zJ hJ ?_)))
   exact hJJ (L-(a+20)) _ _ oO ⟨t+1,a+20,D',oO,Xm,rfl,by simp[f0],by simp[f1],by simp[f2],by simp[f6],sS,sS,hB.ext k2 oO ht,hI.step k2 k1 k3⟩
  clear hJJ;have ZM:¬(a:Int)+20<=L:=oO;have hc:=Ov q L OM cX Pc YL oO D a L st2 hI.1 ha (aAk _) hP2 Zg hI.2.2.1
  (repeat' (first|apply qS|refine qX (zZ ?_)|(apply qC;simp[f0,f1,f2,f7,f8,ZM])|(refine zE ?_;intro J hJ;simp[f0,f1,f2,f7,f8,ZM];(try refine zJ hJ ?_))))
  refine qE hc sS ?_;rintro r s3 ⟨D',k1,k2,k3⟩;have I8:=hB.ext k2 oO ht;have hI2:=hI.step k2 k1 k3
  (repeat' (first|apply qB|(apply aF;simp[];refine zJ hJ ?_)))
  refine qL (fun z fr st2=>∃(s:Nat) (D:List (CN D0)),0<s/\s<=200040/\z=L-s/\fr 0=.ms q 0 L/\fr 1=i L/\fr 2=.fn (.func OM) cX/\fr 6=i s/\Bs s 0 L D/\Bj D0 q L st st2 D) (L-20) ?_ ?_
  .exact⟨20,D',oO,oO,rfl,by simp[f0],by simp[f1],by simp[f2],by simp[f6],I8,hI2⟩
  clear I8 hI2 k1 k2 k3 hc hI hB f0 f1 f2 f6 f7 f8 hP2 Zg Xm ZM ht ha fr;rintro z fr ZW ⟨s,D,S9,v5,rfl,f0,f1,f2,f6,hB,hI⟩ JJ hJJ;by_cases GD:s<L;rotate_left
  .clear hJJ;have YG:¬(s:Int)<L:=oO
   (repeat' (first|apply qS|refine qX (zZ ?_)|(apply qC;simp[f1,f6,GD,YG])|(refine zE ?_;intro J hJ;simp[f1,f6,GD,YG];refine zJ hJ ?_)))
   exact⟨trivial,D,hI.2.1,hB.all oO hI.1,hI.2.2⟩
  have YG:(s:Int)<L:=oO;have w2:IntKind.i64.wrap (2*(s:Int))=((2*s:Nat):Int):=zW;have w2':IntKind.i64.wrap ((s:Int)*2)=((2*s:Nat):Int):=by rw[vI _ oO oO];omega
  obtain⟨s2,I5⟩:∃ s2:Nat,s2=2*s:=⟨_,rfl⟩;rw[<- I5]at w2 w2'
  (repeat' (first|apply qS|apply qB|refine qK (zZ ?_)|(apply qC;simp[f1,f6,GD,YG,w2])|(refine zE ?_;intro J hJ;simp[f1,f6,GD,YG,w2];refine zJ hJ ?_)))
  refine qL (fun z fr st2=>∃(t a:Nat) (D:List (CN D0)),a=s2*t/\a<=L/\z=L-a/\fr 0=.ms q 0 L/\fr 1=i L/\fr 2=.fn (.func OM) cX/\fr 6=i s/\fr 7=i a/\fr 8=i (a+s2:Nat)/\Bs s2 0 a D/\Bs s a L D/\Bj D0 q L st st2 D) L ?_ ?_
  .exact⟨0,0,D,oO,oO,rfl,by simp[f0],by simp[f1],by simp[f2],by simp[f6],sS,sS,fun j k _ _ h=>by omega,hB,hI⟩
  clear f0 f1 f2 f6 hB hI fr D;rintro z fr P2 ⟨t,a,D,ht,ha,rfl,f0,f1,f2,f6,f7,f8,hB,hR,hI⟩ J2 K1;have hP4:=YL.keep _ _ Zr hI.2.2.2;have S4:q<P2.next:=by have:=hI.2.2.2.1;omega
  have e0:s*(2*t)=a:=by rw[ht,I5,aBI 2 s,aCU]
  have e1:s*(2*t+1)=a+s:=by rw[Nat.mul_succ,e0]
  have w3:IntKind.i64.wrap ((a:Int)+s)=((a+s:Nat):Int):=zW;obtain⟨m,hm⟩:∃ m:Nat,m=a+s:=⟨_,rfl⟩;rw[<- hm]at w3;by_cases Xm:a+s2<=L
  .have ZM:(a:Int)+s2<=L:=oO;have hc:=OB q L OM cX Pc YL hl D a m (a+s2) P2 hI.1 oO oO Xm (fun j k h1 h2 h3=>hR.block e0 (aAk _) h1 h2 oO oO) (fun j k h1 h2 h3=>hR.block e1 oO oO h2 oO oO) hP4 S4 hI.2.2.1;have w1:IntKind.i64.wrap ((a:Int)+s2+s2)=((a+s2+s2:Nat):Int):=zW
   (repeat' (first|apply qS|apply qB|refine qK (zZ ?_)|(apply qC;simp[f0,f1,f2,f6,f7,f8,ZM,w3])|(refine zE ?_;intro J hJ;simp[f0,f1,f2,f6,f7,f8,ZM,w3];(try refine zJ hJ ?_))))
   refine qE hc sS ?_;rintro r s3 ⟨D',k1,k2,k3⟩
   (repeat' (first|apply qS|((first|(refine zE ?_;intro J hJ)|(apply aF));simp[f8,f6,w2,w1];refine zJ hJ ?_)))
   exact K1 (L-(a+s2)) _ _ oO ⟨t+1,a+s2,D',by rw[Nat.mul_succ];omega,Xm,rfl,by simp[f0],by simp[f1],by simp[f2],by simp[f6],sS,sS,hB.ext k2 oO ht,hR.rest k2 oO,hI.step k2 k1 k3⟩
  clear K1;have ZM:¬(a:Int)+s2<=L:=oO;have Xj:∀ Xg st5 (D':List (CN D0)),Xg 0=.ms q 0 L/\Xg 1=i L/\Xg 2=.fn (.func OM) cX/\Xg 6=i s2->Bs s2 0 L D'->Bj D0 q L st st5 D'->JJ Xg st5:=by rintro Xg st5 D' ⟨g0,g1,g2,g6⟩ h1 h2;exact hJJ (L-s2) _ _ oO ⟨s2,D',oO,oO,rfl,g0,g1,g2,g6,h1,h2⟩
  by_cases Yw:m<L
  .have Q3:(m:Int)<L:=oO;have hc:=OB q L OM cX Pc YL hl D a m L P2 hI.1 oO Yw (aAk _) (fun j k h1 h2 h3=>hR.block e0 (aAk _) h1 h2 oO oO) (fun j k h1 h2 h3=>hR.block e1 oO oO h2 oO oO) hP4 S4 hI.2.2.1
   (repeat' (first|apply qS|refine qX (zZ ?_)|(apply qC;simp[f0,f1,f2,f6,f7,f8,ZM,w3,Yw,Q3])|(refine zE ?_;intro J hJ;simp[f0,f1,f2,f6,f7,f8,ZM,w3,Yw,Q3];(try refine zJ hJ ?_))))
   refine qE hc sS ?_;rintro r s3 ⟨D',k1,k2,k3⟩
   (repeat' ((first|(refine zE ?_;intro J hJ)|(apply aF));simp[f6,w2'];refine zJ hJ ?_))
   exact Xj _ _ D' ⟨by simp[f0],by simp[f1],by simp[f2],sS⟩ (hB.ext k2 oO ht) (hI.step k2 k1 k3)
  .have Q3:¬(m:Int)<L:=oO
   (repeat' (first|apply qS|refine qK (zZ ?_)|refine qX (zZ ?_)|(apply qC;simp[f0,f1,f2,f6,f7,f8,ZM,w3,Yw,Q3,w2'])|(refine zE ?_;intro J hJ;simp[f0,f1,f2,f6,f7,f8,ZM,w3,Yw,Q3,w2'];refine zJ hJ ?_)))
   refine Xj _ _ D ⟨by simp[f0],by simp[f1],by simp[f2],sS⟩ (fun j k h0 K8 hk he=>?_) hI;rcases aAN k a with h1|h1
   .exact hB j k h0 K8 h1 he
   .rcases aAN j a with h2|h2
    .have h3:j / s2<t:=aEK oO;have h4:t<=k / s2:=(aEC oO).2 (by rw[aBI];omega);omega
    .exact hR.block e0 (aAk _) h2 K8 oO hk
def Aw.IE:=CX.1
def Aw.U.IE:=CX.2
namespace Aw
open Go Go.RowKit Pl
theorem KT(x y:Int)(st:St):aB prog 64 [u x,u y] st fun r st'=>r=i (if x<y then -1 else if y<x then 1 else 0)/\st'=st:=by
 refine zN func64 ntmps64 [.tmp 4] ?_
 (repeat' (first|apply qS|(refine zE ?_;intro J hJ;simp[];(try refine zJ hJ ?_))))
 refine qF (isNaN x _) ?_;rintro r st' ⟨rfl,rfl⟩
 (repeat' (first|apply qS|((first|(refine zE ?_;intro J hJ)|(apply aF));simp[];(try refine zJ hJ ?_))))
 refine qF (isNaN y _) ?_;rintro r st' ⟨rfl,rfl⟩;by_cases h1:x<y
 ·(repeat' (first|apply qS|refine qK (zZ ?_)|(refine qR (zZ ?_);simp[h1])|(apply qC;simp[h1])|((first|(refine zE ?_;intro J hJ)|(apply aF));simp[h1];refine zJ hJ ?_)))
 .by_cases h2:y<x
  ·(repeat' (first|apply qS|refine qK (zZ ?_)|(refine qR (zZ ?_);simp[h1,h2])|(apply qC;simp[h1,h2])|((first|(refine zE ?_;intro J hJ)|(apply aF));simp[h1,h2];refine zJ hJ ?_)))
  ·(repeat' (first|apply qS|refine qK (zZ ?_)|(refine qR (zZ ?_);simp[h1,h2])|(apply qC;simp[h1,h2])|((first|(refine zE ?_;intro J hJ)|(apply aF));simp[h1,h2];refine zJ hJ ?_)))
theorem Dy(a:List Int)(t:Nat)(st:St)(hl:a.length<=100000):
 aB prog 69 [.sl t a.length (us a)] st fun r st'=>∃ l,r=.ms l 0 a.length/\st.next<=l/\l<st'.next/\st'.H l=.box 34 1 (us a)/\aA st st':=by
 refine jD 34 1 ?_;have Yr:=JB a;refine zN func69 ntmps69 [.tmp 2] ?_
 (repeat' (first|apply qS|refine qK (zZ ?_)|(refine qR (zZ ?_);simp[Yr])|(apply qC;simp[Yr])|(refine w_e [5] ?_;intro J hJ;simp only[];simp[Yr];(repeat refine ca ?_);((try with_reducible refine⟨?_,?_⟩)<;>(try with_reducible intro ZG)<;>refine zJ hJ ?_<;>clear hJ J<;>try subst ZG))))
 .exact(aA.new _ _).trans (aA.new _ _)
 .exact aA.new _ _
theorem Sg(l:List Ed)(t:Nat)(st:St)(hl:l.length<=100000):
 aB prog 124 [.sl t l.length (eds l)] st fun r st'=>∃ q,r=.ms q 0 l.length/\st.next<=q/\q<st'.next/\st'.H q=.box 56 3 (eds l)/\aA st st':=by
 have Yr:=Kf l;have hel:=aN l;refine jD 56 3 ?_;refine zN func124 ntmps124 [.tmp 2] ?_
 (repeat' (first|apply qS|refine qK (zZ ?_)|(refine qR (zZ ?_);simp[Yr,hel])|(apply qC;simp[Yr,hel])|(refine w_e [5] ?_;intro J hJ;simp only[];simp[Yr,hel];(repeat refine ca ?_);((try with_reducible refine⟨?_,?_⟩)<;>(try with_reducible intro ZG)<;>refine zJ hJ ?_<;>clear hJ J<;>try subst ZG))))
 .exact(aA.new _ _).trans (aA.new _ _)
 .exact aA.new _ _
def TK(OM:FuncId)(cX:List LV)(Pc:St->Prop):Prop:=(∀ st st',Pc st->aA st st'->Pc st')/\∀ st x y,Pc st->aB prog OM ([u x,u y]++cX) st fun r st'=>r=bb (decide (x=y))/\aA st st'
def Sx(OM:FuncId)(cX:List LV)(Pc:St->Prop):Prop:=(∀ st st',Pc st->aA st st'->Pc st')/\∀ st x y,Pc st->aB prog OM ([.ag (edL x),.ag (edL y)]++cX) st fun r st'=>r=bb (decide (x.id=y.id))/\aA st st'
theorem Nl(c:List Ed)(q:Nat)(OM:FuncId)(cX:List LV)(Pc:St->Prop)(st:St)(M5:Sx OM cX Pc)(Zr:Pc st)(hl:c.length<=100000)(Wu:∀ j,j+1<c.length->(c.getD (j+1) ed0).id≠(c.getD j ed0).id)(hq:q<st.next)(hH:st.H q=.box 56 3 (eds c)):
 aB prog 161 [.ms q 0 c.length,.fn (.func OM) cX] st fun r st'=>r=.ms q 0 c.length/\aA st st':=by
 have hel:=aN c;refine zN func161 ntmps161 [.tmp 4] ?_;by_cases h2:c.length<2
 .have G1:(c.length:Int)<2:=oO
  (repeat' (first|apply qS|(refine qR (zZ ?_);simp[G1,h2])|(apply qC;simp[G1,h2])|(refine zE ?_;intro J hJ;simp[G1,h2];refine zJ hJ ?_)))
  exact aA.refl _
 have G1:¬(c.length:Int)<2:=oO
 (repeat' (first|apply qS|apply qB|refine qK (zZ ?_)|(apply qC;simp[G1,h2])|(refine zE ?_;intro J hJ;simp[G1,h2];refine zJ hJ ?_)))
 refine qL (fun z fr st2=>∃ k:Nat,0<k/\k<=c.length/\z=c.length-k/\fr 0=.ms q 0 c.length/\fr 1=.fn (.func OM) cX/\fr 5=i k/\aA st st2) (c.length-1) ?_ ?_
 .exact⟨1,oO,oO,rfl,sS,sS,sS,aA.refl _⟩
 rintro z fr st2 ⟨k,Ye,K7,rfl,f0,f1,f5,Xt⟩ JJ hJJ;by_cases GD:k<c.length;rotate_left
 .clear hJJ
  (repeat' (first|apply qS|refine qX (zZ ?_)|(refine qR (zZ ?_);simp[f0,f5,GD])|(apply qC;simp[f0,f5,GD])|(refine zE ?_;intro J hJ;simp[f0,f5,GD];refine zJ hJ ?_)))
  exact Xt
 obtain⟨k1,rfl⟩:∃ k1,k=k1+1:=⟨k-1,oO⟩;have hd:=aW c (k1+1) GD;have Xn:=aW c k1 oO;have w1:IntKind.i64.wrap (k1:Int)=(k1:Int):=zW;have w2':IntKind.i64.wrap ((k1:Int)+1+1)=(k1:Int)+1+1:=wrap_i64 _ oO oO;have hkl1:k1<c.length:=oO;have YG:(k1:Int)+1<c.length:=oO;have hn:=Wu k1 GD;have B8:=(Xt.H q hq).trans hH;have hc:=M5.2 st2 (c.getD (k1+1) ed0) (c.getD k1 ed0) (M5.1 _ _ Zr Xt);rw[aBH hn]at hc;generalize c.getD (k1+1) ed0=x at *;generalize c.getD k1 ed0=y at *;obtain⟨xi,xa,xb⟩:=x;obtain⟨yi,ya,yb⟩:=y;simp only at hd Xn hn
 (repeat' (first|apply qS|apply qB|refine qK (zZ ?_)|(apply qC;simp[f0,f5,GD,YG])|(refine zE ?_;intro J hJ;simp[f0,f5,GD,YG];refine zJ hJ ?_)))
 (refine zS [] [q] [0,2,4,6,8,10,12,14,16,18,21] ?_;intro J hJ;simp[f0,f1,f5,GD,YG,hd,Xn,w1,hkl1,B8,hel];(repeat refine ca ?_))
 refine aK hc ?_;rintro r s3 ⟨rfl,Xv⟩;have V6:=(Xv.H q (aAp hq Xt.next)).trans B8;refine⟨fun _=>by simp[V6,B8],?_⟩
 (apply aS;simp[V6,B8];refine zJ hJ ?_)
 (repeat' (first|refine qK (zZ ?_)|(apply qC;simp[f5,w2'])|(refine zE ?_;intro J hJ;simp[f5,w2'];refine zJ hJ ?_)))
 exact hJJ (c.length-(k1+1+1)) _ _ oO ⟨k1+1+1,oO,oO,rfl,by simp[f0],by simp[f1],sS,Xt.trans Xv⟩
structure Sh where
 L:List (Int×Int)
 on:List Int
 F:List (List Int)
def fD(w:List Int):List Int:=(w.drop 1).take (w.length-2)
def rR(h:Sh)(w:List Int)(at':Nat):Sh:=
 ⟨kX h.L w,h.on++w,h.F.set at' (jI (h.F.getD at' []) ((h.F.getD at' []).idxOf (w.getD 0 0)) ((h.F.getD at' []).idxOf (w.getD (w.length-1) 0))++(fD w).reverse)++
   [jI (h.F.getD at' []) ((h.F.getD at' []).idxOf (w.getD (w.length-1) 0)) ((h.F.getD at' []).idxOf (w.getD 0 0))++fD w]⟩
theorem Gl(vs:List Int):∀(F:List (List Int)) (k:Nat) (R:List Int),k<F.length->(gC vs F).take (k*2)++([.sl 0 R.length (us R),wv (mk vs R)]++(gC vs F).drop (k*2+2))=gC vs (F.set k R)
 |r::F,0,R,_=>by simp[gC]
 |r::F,k+1,R,h=>by have:=Gl vs F k R (by simpa using h);rw[show(k+1)*2=k*2+2 by omega];simp only[gC,aAC,List.cons_append,List.nil_append,List.take_succ_cons,aCz,List.set_cons_succ]at this ⊢;rw[<- this]
 |[],k,R,h=>by simp at h
theorem MI(vs:List Int)(F:List (List Int))(R:List Int):gC vs F++[.sl 0 R.length (us R),wv (mk vs R)]=gC vs (F++[R]):=by simp[gC]
theorem HU{r:List Int}{i j:Nat}{v:Int}(h:v∈jI r i j):v∈r:=by have:=aDS (aCv h);rw[aAg]at this;exact this.elim id id
theorem pC{w:List Int}{v:Int}(h:v∈fD w):v∈w:=aDS (aCv h)
theorem tM(w:List Int):(fD w).length=w.length-2:=by unfold fD;rw[aAq,aAP];omega
theorem TW(w:List Int):((us w).drop 1).take (w.length-1-1)=us (fD w):=by unfold fD;rw[us,<- aCi,<- aEO,show w.length-1-1=w.length-2 by omega]
structure KM(M:List Nat)(a b:St):Prop where
 next:a.next<=b.next
 H:∀ l,l<a.next->l∉M->b.H l=a.H l
theorem KM.keeps{M:List Nat}{a b c:St}(h:KM M a b)(k:aA b c):KM M a c:=⟨aBj h.next k.next,fun l hl hm=>(k.H l (aAp hl h.next)).trans (h.H l hl hm)⟩
theorem KM.set{M:List Nat}{a b:St}(h:KM M a b){q:Nat}(hq:a.next<=q\/q∈M)(o:cI):KM M a (b.set q o):=⟨h.next,fun l hl hm=>by
 rw[bF,aAa (by rcases hq with h1|h1;(· omega);(· intro e;exact hm (by rw[e];exact h1)))];exact h.H l hl hm⟩
theorem KM.of{M:List Nat}{a b:St}(h:aA a b):KM M a b:=⟨h.next,fun l hl _=>h.H l hl⟩
theorem Wa{g:Gr}(hg:GP g){h:Sh}{S nl pl ll fl:Nat}{le:List (List Int×LV)}{st:St}(hS:ShA g h.L h.on h.F S nl pl ll fl le st){w:List Int}{at':Nat}(A5:at' < h.F.length)(ZV:2<=w.length)(hwl:w.length<=200)(U4:∀ v∈w,v∈g.vs)
 (hrl:(h.F.getD at' []).length<=1000) (h1:w.getD 0 0∈h.F.getD at' []) (h2:w.getD (w.length-1) 0∈h.F.getD at' []) (V2:h.F.length<300) (ZA:0<st.next):
 aB prog 76 [.pt S 0,.sl 0 w.length (us w),i at'] st fun _ st'=>∃ fl' W0,ShA g (rR h w at').L (rR h w at').on (rR h w at').F S nl pl ll fl' W0 st'/\(fl'=fl\/st.next<=fl')/\KM [S,ll,fl] st st':=by
 have h64:=hg.h64;have hn:g.vs.Nodup:=hg.toGoodE.toGood.nodup;have Yg:=hS.r.box;have hF:=hS.fac;have GD:=hS.r.lt;have P3:=hS.flt;have C0:=pO g.vs h.F;have hd:=rN g.vs h.F at' A5;have hrv:∀ v∈h.F.getD at' [],v∈g.vs:=hS.sub _ (by rw[aAc,aAd A5];exact aAA _);have Xq:at' * 2<h.F.length*2:=oO;have hati:(at':Int)<h.F.length:=oO;have hsetF:=fun R=>Gl g.vs h.F at' R A5;unfold rR;generalize hr:h.F.getD at' []=r at *;have hd0:=qG w 0 oO;have x7:=qG w (w.length-1) oO;have hh0:hdL (us w)=u (w.getD 0 0):=by rw[show us w=(us w).drop 0 from rfl,hd0];rfl
 have g1:=Eb h1;have g2:=Eb h2;have O2:=aBl h1;have hi2:=aBl h2;have hmid:(us w).tail.take (fD w).length=us (fD w):=by have:=TW w;rw[tM,show w.length-2=w.length-1-1 by omega,<- List.drop_one];exact this
 have hml2:w.length-1-1=(fD w).length:=by rw[tM];omega
 have Yw:=tM w;have O3:∀ v∈fD w,v∈g.vs:=fun v hv=>U4 v (pC hv);have hwi:IntKind.i64.wrap ((w.length:Int)-1)=((w.length-1:Nat):Int):=zW;generalize w.getD 0 0=x0 at *;generalize w.getD (w.length-1) 0=xl at *;generalize r.idxOf x0=i0 at *;generalize r.idxOf xl=il at *;have G7:(0:Int)<w.length:=oO;have Yt:((w.length-1:Nat):Int)<w.length:=oO;have hw3:w.length-1<w.length:=oO;have hw4:0<w.length:=oO;refine zN func76 ntmps76 [] ?_
 (repeat' (first|apply qS|(refine zE ?_;intro J hJ;simp[Yg,hF,hd,Xq,hati,A5,C0,G7,hw4,hh0];(try (refine zJ hJ ?_;clear hJ J)))))
 refine qE (Index r 0 x0 _ (by unfold small;omega)) sS ?_;rintro v s1 ⟨rfl,e1⟩;rw[e1];clear e1 s1;have K3:((w.length-1:Nat):Int)=(w.length:Int)-1:=oO;have E8:(1:Int)<=((w.length-1:Nat):Int):=oO;have X4:1<=w.length-1:=oO
 (repeat' (first|apply qS|((first|(refine zE ?_;intro J hJ)|(apply aF));simp[g1,hwi,Yt,hw3,x7];(try (refine zJ hJ ?_;clear hJ J)))))
 refine qE (Index r 0 xl _ (by unfold small;omega)) sS ?_;rintro v s1 ⟨rfl,e1⟩;rw[e1];clear e1 s1;generalize fD w=m at *;have hmle:m.length<=200:=oO
 (repeat' (first|apply qS|((first|(refine zE ?_;intro J hJ)|(apply aF));simp[g2,hwi,Yt,hw3,E8,X4,hml2,hmid];(try (refine zJ hJ ?_;clear hJ J)))))
 refine qE (Dy m 0 _ oO) sS ?_;rintro v s1 ⟨q,rfl,q1,q2,hq,Xp⟩
 (repeat' (first|apply qS|((first|(refine zE ?_;intro J hJ)|(apply aF));simp[];(try (refine zJ hJ ?_;clear hJ J)))))
 refine qE (tY m q s1 (by unfold small;omega) hq) sS ?_;rintro v s2 e2;have hk2':aA st s2:=by rw[e2];exact Xp.set q1 _
 have Zk:s1.next=s2.next:=by rw[e2];rfl
 have Zg:s2.H q=.box 34 1 (us m.reverse):=by rw[e2];simp
 clear e2 Xp hq;have hS2:=hS.keep hk2';have n0:¬pl=ll:=fun e=>by have h3:=hS.r.plc;rw[e,hS.r.lin]at h3;cases h3
 (repeat' (first|apply qS|((first|(refine zE ?_;intro J hJ)|(apply aF));simp[];(try (refine zJ hJ ?_;clear hJ J)))))
 refine qE (PC hS2.r.box hS2.r.plc hS2.r.lin hS2.r.key n0 hn h64 w 0 U4 oO) sS ?_;rintro v s3 ⟨W0,e3,Yd⟩;have hn3:s3.next=s2.next:=by rw[e3];rfl
 have m1:¬fl=S:=fun e=>by have h3:=hS.fac;rw[e,hS.r.box]at h3;cases h3
 have m2:¬fl=ll:=fun e=>by have h3:=hS.fac;rw[e,hS.r.lin]at h3;cases h3
 have m3:¬ll=S:=fun e=>by have h3:=hS.r.lin;rw[e,hS.r.box]at h3;cases h3
 have m4:¬nl=S:=fun e=>by have h3:=hS.r.near;rw[e,hS.r.box]at h3;cases h3
 have m5:¬nl=ll:=fun e=>by have h3:=hS.r.near;rw[e,hS.r.lin]at h3;cases h3
 have m6:¬nl=fl:=fun e=>by have h3:=hS.r.near;rw[e,hS.fac]at h3;cases h3
 have m7:¬pl=S:=fun e=>by have h3:=hS.r.plc;rw[e,hS.r.box]at h3;cases h3
 have m8:¬pl=fl:=fun e=>by have h3:=hS.r.plc;rw[e,hS.fac]at h3;cases h3
 have hn2':=hk2'.next;have hSb3:s3.H S=.box 119 7 [.sl 0 g.vs.length (us g.vs),.sl 0 g.es.length (eds g.es),.ms nl 0 g.vs.length,.mp pl,.mp ll,wv (mk g.vs (h.on++w)),.ms fl 0 h.F.length]:=by rw[e3];simp
 have O7:s3.H pl=.map false [.u32] (wY g.vs):=by rw[e3];simp[m7,n0,hS2.r.plc]
 have hL3:s3.H ll=.map true [.u32,.u32] W0:=by rw[e3];simp[m3]
 have hN3:s3.H nl=.box 116 1 (mF g):=by rw[e3];simp[m4,m5,hS2.r.near]
 have hF3:s3.H fl=.box 127 2 (gC g.vs h.F):=by rw[e3];simp[m1,m2,hS2.fac]
 have V7:s3.H q=.box 34 1 (us m.reverse):=by rw[e3];simp[show ¬q=S by omega,show ¬q=ll by omega,Zg]
 have hK3:KM [S,ll,fl] st s3:=by rw[e3];exact((KM.of hk2').set (.inr sS) _).set (.inr sS) _
 clear e3 hS2 Zg;have hb3:ShB g.vs S pl s3:=⟨⟨_,_,_,_,_,_,hSb3⟩,O7⟩
 (apply aF;simp[];(refine zJ hJ ?_;clear hJ J))
 (repeat (apply qS))
 (refine zS [] [S] [0,2,4,6,8,10,12,14,16,20,18,22,24,26,29] ?_;intro J hJ;simp[hSb3])
 refine qD (Uv r i0 il s3 O2 hi2 hrl oO) sS ?_;rintro v s4 ⟨⟨t,rfl,t0,t1,t2,tH⟩,Yb⟩;refine⟨fun _ l hl=>?_,?_⟩
 .rw[aAl]at hl;rw[hl];exact Yb.H S oO
 have G0:=Bk r i0 il O2 hi2;have D5:=zP O2 hi2;have U0:=Yb.next;have S4:=(Yb.H q oO).trans V7;have c1:¬q=t:=oO;have c2:¬t=q:=oO;have hAv:∀ v∈jI r i0 il++m.reverse,v∈g.vs:=fun v hv=>by rw[aAg,aCm]at hv;exact hv.elim (fun h=>hrv v (HU h)) (O3 v)
 have hSb4:=(Yb.H S oO).trans hSb3;have hP4:=(Yb.H pl oO).trans O7;have hF4:=(Yb.H fl oO).trans hF3;generalize jI r i0 il=A1 at *
 (apply aS;simp[tH,t0,S4,c1,c2];(repeat refine ca ?_))
 have c3:¬S=s4.next:=oO;have c4:¬S=t:=oO;refine⟨(aAa c3).trans ((aAa c4).trans (Yb.H S oO)),?_⟩;have Q4:aA s3 ((s4.set t cI.dead).new (.own 34 1 (A1.length+m.length))):=(Yb.set t1 _).trans (aA.new _ _);have hn4':((s4.set t cI.dead).new (.own 34 1 (A1.length+m.length))).next=s4.next+1:=sS;generalize hs5:(s4.set t cI.dead).new (.own 34 1 (A1.length+m.length))=s5 at *;have hSb5:=(Q4.H S oO).trans hSb3;have hP5:=(Q4.H pl oO).trans O7;have hF5:=(Q4.H fl oO).trans hF3;refine qD (NP (vs:=g.vs) (S:=S) (pl:=pl) ⟨⟨_,_,_,_,_,_,hSb5⟩,hP5⟩ oO oO hn h64 (A1++m.reverse) s4.next hAv (by simp;omega)) sS ?_;rintro v s6 ⟨rfl,e6⟩;rw[e6];clear e6 s6;refine⟨fun _ l hl=>?_,?_⟩
 .rw[aAl]at hl;rw[hl];exact Q4.H S oO
 (apply aS;simp[hF5,A5,hati,Xq,C0];(repeat refine ca ?_);(refine zJ hJ ?_;clear hJ J))
 have hcell:(gC g.vs h.F).take (at' * 2)++LV.sl 0 (A1.length+m.length) (List.map u A1++(List.map u m).reverse)::wv (mk g.vs (A1++m.reverse))::(gC g.vs h.F).drop (at' * 2+2)=gC g.vs (h.F.set at' (A1++m.reverse)):=by have:=hsetF (A1++m.reverse);simpa using this
 rw[hcell];clear hcell;have hFl:(h.F.set at' (A1++m.reverse)).length=h.F.length:=sS;have hFs:∀ r∈h.F.set at' (A1++m.reverse),∀ v∈r,v∈g.vs:=fun r hr v hv=>by
  rcases List.mem_or_eq_of_mem_set hr with h1|h1
  .exact hS.sub r h1 v hv
  .rw[h1]at hv;exact hAv v hv
 have hK5:KM [S,ll,fl] st (s5.set fl (.box 127 2 (gC g.vs (h.F.set at' (A1++m.reverse))))):=(hK3.keeps Q4).set (.inr sS) _;have hL5:=(Q4.H ll oO).trans hL3;have hN5:=(Q4.H nl oO).trans hN3;generalize hF':h.F.set at' (A1++m.reverse)=F1 at *;have n7:¬S=fl:=fun e=>m1 e.symm;have n8:¬ll=fl:=fun e=>m2 e.symm;generalize hs7:s5.set fl (.box 127 2 (gC g.vs F1))=s7 at *;have hn7:s7.next=s5.next:=by rw[<- hs7];rfl
 have hSb7:s7.H S=.box 119 7 [.sl 0 g.vs.length (us g.vs),.sl 0 g.es.length (eds g.es),.ms nl 0 g.vs.length,.mp pl,.mp ll,wv (mk g.vs (h.on++w)),.ms fl 0 h.F.length]:=by rw[<- hs7,bF,aAa n7];exact hSb5
 have hP7:s7.H pl=.map false [.u32] (wY g.vs):=by rw[<- hs7,bF,aAa m8];exact hP5
 have hL7:s7.H ll=.map true [.u32,.u32] W0:=by rw[<- hs7,bF,aAa n8];exact hL5
 have hN7:s7.H nl=.box 116 1 (mF g):=by rw[<- hs7,bF,aAa m6];exact hN5
 have hF7:s7.H fl=.box 127 2 (gC g.vs F1):=by rw[<- hs7];simp
 clear hs7 hSb5 hP5 hF5 hL5 hN5 hSb4 hP4 hF4 hSb3 O7 hF3 hL3 hN3 Q4 Yb hs5 tH t0 t1 t2 S4 V7 hb3;have hFl7:=pO g.vs F1
 (repeat (apply qS))
 (refine zS [] [S] [0,2,4,6,8,10,12,14,16,20,18,22,24,26,29,30,32,35] ?_;intro J hJ;simp[hSb7])
 refine qD (Uv r il i0 s7 hi2 O2 hrl oO) sS ?_;rintro v s8 ⟨⟨t',rfl,t0,t1,t2,tH⟩,hk8⟩;refine⟨fun _ l hl=>?_,?_⟩
 .rw[aAl]at hl;rw[hl];exact hk8.H S oO
 have hal2:=Bk r il i0 hi2 O2;have hsl2:=zP hi2 O2;have hn8:=hk8.next;have d1:¬S=s8.next:=oO;have d2:¬S=t':=oO;have hBv:∀ v∈jI r il i0++m,v∈g.vs:=fun v hv=>by rw[aAg]at hv;exact hv.elim (fun h=>hrv v (HU h)) (O3 v)
 generalize jI r il i0=A2 at *
 (apply aS;simp[tH,t0];(repeat refine ca ?_))
 refine⟨(aAa d1).trans ((aAa d2).trans (hk8.H S oO)),?_⟩;have Q0:aA s7 ((s8.set t' cI.dead).new (.own 34 1 (A2.length+m.length))):=(hk8.set t1 _).trans (aA.new _ _);have hn8':((s8.set t' cI.dead).new (.own 34 1 (A2.length+m.length))).next=s8.next+1:=sS;generalize hs9:(s8.set t' cI.dead).new (.own 34 1 (A2.length+m.length))=s9 at *;have hSb9:=(Q0.H S oO).trans hSb7;have hP9:=(Q0.H pl oO).trans hP7;have hF9:=(Q0.H fl oO).trans hF7;have hL9:=(Q0.H ll oO).trans hL7;have hN9:=(Q0.H nl oO).trans hN7;refine qD (NP (vs:=g.vs) (S:=S) (pl:=pl) ⟨⟨_,_,_,_,_,_,hSb9⟩,hP9⟩ oO oO hn h64 (A2++m) s8.next hBv (by simp;omega)) sS ?_;rintro v s6 ⟨rfl,e6⟩;rw[e6];clear e6 s6;refine⟨fun _ l hl=>?_,?_⟩
 .rw[aAl]at hl;rw[hl];exact Q0.H S oO
 have z1:¬fl=s9.next:=oO;have z2:¬S=s9.next:=oO;have z3:¬S=s9.next+1:=oO;have z4:¬s9.next=fl:=oO
 (apply aS;simp[hF9,hSb9,hFl,hFl7,z1,z2,z3,z4,n7,m1])
 refine⟨hSb7.symm,⟨oO,by unfold maxLen;omega⟩,hJ _ _ ?_⟩;clear hJ J;simp only[ak];have hfs:gC g.vs F1++[LV.sl 0 (A2.length+m.length) (List.map u A2++List.map u m),wv (mk g.vs (A2++m))]=gC g.vs (F1++[A2++m]):=by have:=MI g.vs F1 (A2++m);simpa using this
 have hFl2:(F1++[A2++m]).length=h.F.length+1:=by rw[aAh,hFl];rfl
 rw[hfs,<- hFl2];clear hfs
 skip
 simp only[yM];have hs10:KM [S,ll,fl] st ((((s9.new (.own 127 2 1)).set fl .dead).new (.box 127 2 (gC g.vs (F1++[A2++m])))).set S (.box 119 7 [.sl 0 g.vs.length (us g.vs),.sl 0 g.es.length (eds g.es),.ms nl 0 g.vs.length,.mp pl,.mp ll,wv (mk g.vs (h.on++w)),.ms (s9.next+1) 0 (F1++[A2++m]).length])):=by have:=(((hK5.keeps Q0).keeps (aA.new _ (.own 127 2 1))).set (q:=fl) (.inr sS) .dead);exact(this.keeps (aA.new _ _)).set (.inr sS) _
 refine⟨trivial,s9.next+1,W0,⟨⟨sS,?_,?_,?_,Yd,?_⟩,?_,sS,?_,?_,by rw[hFl2];omega⟩,.inr (by have:=(hK5.keeps Q0).next;omega),hs10⟩
 ·(repeat (first|rw[nHh nOo]|rw[sHh oO]|rw[nIi nQq]|rw[sIi oO]));exact hN9
 ·(repeat (first|rw[nHh nOo]|rw[sHh oO]|rw[nIi nQq]|rw[sIi oO]));exact hP9
 ·(repeat (first|rw[nHh nOo]|rw[sHh oO]|rw[nIi nQq]|rw[sIi oO]));exact hL9
 .simp only[bS,aJ];omega
 ·(repeat (first|rw[nHh nOo]|rw[sHh oO]|rw[nIi nQq]|rw[sIi oO]))
 .intro r hr v hv;rw[aAg,aAl]at hr;rcases hr with hr|hr
  .exact hFs r hr v hv
  .rw[hr]at hv;exact hBv v hv
 .intro v hv;rw[aAg]at hv;exact hv.elim (hS.onv v) (U4 v)
end Aw
end Go.Proofs.YtempldclppogmaaGreatDoor
