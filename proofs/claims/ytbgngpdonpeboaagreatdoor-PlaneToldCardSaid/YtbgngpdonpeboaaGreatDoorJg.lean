/- T5 at edges and at numbers: written by gentt.py. -/
import Derived.Test.YtbgngpdonpeboaaGreatDoorJf
import Derived.Test.YtbgngpdonpeboaaGreatDoorAwRg
set_option linter.unusedVariables false
set_option linter.unusedSimpArgs false
set_option linter.defProp false
set_option maxHeartbeats 4000000
open Go.Proofs.Tryz
namespace Go.Proofs.YtbgngpdonpeboaaGreatDoor
open Go Go.RowKit Pl Aw
open Aw.U
theorem KH:(∀(P A:List Ed) (y:Ed) (S:List Ed) (q L p m:Nat) (v8:FuncId) (GK:List LV) (Pc:St->Prop) (st:St) (x8:Aw.gV v8 GK q Pc) (M4:Pc st) (hq:q<st.next) (hA:Ris A) (hA2:A.length≠1) (hL:(P++A++y::S).length=L) (hl:L<=100000) (hp:P.length=p) (hm:m=p+A.length) (hH:st.H q=.box 36 3 (eds (P++A++y::S))),
 aB prog 162 [.ms q 0 L,i p,i m,i (m+1:Nat),.fn (.func v8) GK] st (Dq P A [y] S q st))/\(∀(P A:List Nu) (y:Nu) (S:List Nu) (q L p m:Nat) (v8:FuncId) (GK:List LV) (Pc:St->Prop) (st:St) (x8:Aw.U.gV v8 GK q Pc) (M4:Pc st) (hq:q<st.next) (hA:Ris A) (hA2:A.length≠1) (hL:(P++A++y::S).length=L) (hl:L<=100000) (hp:P.length=p) (hm:m=p+A.length) (hH:st.H q=.box 34 1 (eds (P++A++y::S))),
 aB prog 160 [.ms q 0 L,i p,i m,i (m+1:Nat),.fn (.func v8) GK] st (Dq P A [y] S q st)):=by
 refine⟨?_,?_⟩
 all_goals
  intro P A y S q L p m v8 GK Pc st x8 M4 hq hA hA2 hL hl hp hm hH;have hLl:L=p+A.length+(1+S.length):=by rw[<- hL,<- hp];simp only[aAm,List.length_cons];omega
  have e1:IntKind.i64.wrap ((m:Int)-p)=(A.length:Int):=zW;have e2:IntKind.i64.wrap ((m:Int)+1-m)=1:=zW;have e3:¬(A.length:Int)=1:=oO
  first|(have _:List Ed:=P;refine zN func162 ntmps162 [] ?_)|refine zN func160 ntmps160 [] ?_
  refine xw4 e1 e2 e3 hA2 ?_;refine qL (fun z fr st2=>∃ k v:Nat,k<=v/\v<=A.length/\z=v-k/\fr 0=.ms q 0 L/\fr 2=i m/\fr 4=.fn (.func v8) GK/\fr 14=i (p+k:Nat)/\fr 15=i (p+v:Nat)/\(∀ j,j<k->(A.getD j ed0).id<=y.id)/\(∀ j,v<=j->j<A.length->y.id<(A.getD j ed0).id)/\st2.H q=bxo (P++A++y::S)/\bQ q st st2) A.length ?_ ?_
  .exact⟨0,A.length,oO,aAl _,rfl,sS,sS,sS,sS,sF1 hm,fun j h=>by omega,fun j h1 h2=>by omega,hH,bQ.refl _ _⟩
  rintro z fr st2 ⟨k,v,hkv,hvB,rfl,f0,f2,f4,f14,f15,h1,h2,hD,n9⟩ JJ hJJ;have hP3:=x8.keep _ _ M4 n9;have K1:q<st2.next:=by have:=n9.1;omega
  by_cases dQ:k<v
  .obtain⟨s,hs⟩:∃ s:Nat,s=(p+k)+(p+v):=⟨_,rfl⟩;obtain⟨h,hh⟩:∃ h:Nat,p+h=s / 2:=⟨s / 2-p,oO⟩;have wA:IntKind.i64.wrap ((p:Int)+k+(p+v))=(s:Int):=zW;have wB:=yR s oO;obtain⟨ph,hph⟩:∃ ph:Nat,ph=p+h:=⟨_,rfl⟩;have wC:=FE s ph oO;have wD:IntKind.i64.wrap (ph:Int)=(ph:Int):=zW;have wE:IntKind.i64.wrap ((ph:Int)+1)=((p+(h+1):Nat):Int):=zW;have g1:(P++A++y::S).getD m ed0=y:=FF _ _ _ (sF2 hp hm);have g2:(P++A++y::S).getD ph ed0=A.getD h ed0:=by
    (first|rw[show P++A++y::S=P++(A++y::S) by simp,show ph=P.length+h by omega,Aw.CI,Aw.oL _ _ _ oO]|rw[show P++A++y::S=P++(A++y::S) by simp,show ph=P.length+h by omega,Aw.U.CI,Aw.U.oL _ _ _ oO])
   have Z4:¬y.id<(A.getD h ed0).id->∀ j,j<h+1->(A.getD j ed0).id<=y.id:=fun h3 j hj=>by have:=iZ hA (j:=j) (k:=h) oO oO;omega
   have z8:y.id<(A.getD h ed0).id->∀ j,h<=j->j<A.length->y.id<(A.getD j ed0).id:=fun h3 j hj hj2=>by have:=iZ hA (j:=h) (k:=j) hj hj2;omega
   have hel:=aJ (P++A++y::S);have da:=aP (P++A++y::S) m oO;have db:=aP (P++A++y::S) ph oO;rw[g1]at da;rw[g2]at db;rw[hL]at hel;have hfr:∀ c7 F9,F9.H q=st2.H q->bQ q st F9->c7 0=.ms q 0 L/\c7 2=i m/\c7 4=.fn (.func v8) GK->((¬y.id<(A.getD h ed0).id/\c7 14=i (p+(h+1):Nat)/\c7 15=i (p+v:Nat))\/(y.id<(A.getD h ed0).id/\c7 14=i (p+k:Nat)/\c7 15=i (p+h:Nat)))->JJ c7 F9:=by
    rintro c7 F9 k1 k2 ⟨k3,k4,k5⟩ (⟨k6,k7,k8⟩|⟨k6,k7,k8⟩)
    .exact hJJ (v-(h+1)) _ _ oO ⟨h+1,v,oO,hvB,rfl,k3,k4,k5,k7,k8,Z4 k6,h2,k1.trans hD,k2⟩
    .exact hJJ (h-k) _ _ oO ⟨k,h,oO,oO,rfl,k3,k4,k5,k7,k8,h1,z8 k6,k1.trans hD,k2⟩
   clear hJJ Z4 z8 h1 h2;have hcm:=x8.call st2 y (A.getD h ed0) hP3;have D7:=pP y (A.getD h ed0);generalize hx:A.getD h ed0=x at *;generalize hc:P++A++y::S=c at *;generalize sU y x=cv at *;have hA4:ph<L:=oO;have hB4:m<L:=oO;have hkv':(p:Int)+k<p+v:=oO;refine xw8 f14 f15 hkv' dQ wA wB wC wD ?_
   (refine zS [] [q] [0,2,4,6,8,10,12,14,16,19,20,22] ?_;intro J hJ;simp[f0,f2,f4,hD,da,db,hel];(repeat refine ca ?_))
   refine aO hcm ?_;rintro r s4 ⟨rfl,F5⟩;have hD4:=F5.H q K1;refine⟨fun _=>by simp[hD4,hD],?_⟩;by_cases G9:y.id<x.id
   .have hcv:cv<0:=by rw[aBs G9]at D7;exact aCc D7
    (apply bL;simp[hcv,hD4,hD];refine zJ hJ ?_)
    refine xw0 ?_;exact hfr _ _ hD4 (n9.keeps F5) ⟨sF1 f0,sF1 f2,sF1 f4⟩ (.inr ⟨G9,sF1 f14,sF1 hph⟩)
   .have hcv:¬cv<0:=by rw[aBC G9]at D7;exact aCI D7
    (apply bL;simp[hcv,hD4,hD];refine zJ hJ ?_)
    refine xw1 wE ?_;exact hfr _ _ hD4 (n9.keeps F5) ⟨sF1 f0,sF1 f2,sF1 f4⟩ (.inl ⟨G9,sS,sF1 f15⟩)
  clear hJJ;obtain rfl:k=v:=oO;have hR:=FV hA hvB h1 (fun j hj hj2=>by have:=h2 j hj hj2;omega);clear h1 h2;refine xw3 f2 f14 f15 ?_;refine qL (fun z fr F9=>∃ t:Nat,k<=t/\t<=A.length/\z=t/\fr 0=.ms q 0 L/\fr 14=i (p+k:Nat)/\fr 17=i (p+t:Nat)/\F9.H q=bxo (P++A.take t++y::(A.drop t++S))/\bQ q st F9) A.length ?_ ?_
  .exact⟨A.length,oO,oO,rfl,sF1 f0,sF1 f14,sF1 hm,by simp;rw[hD];simp,n9⟩
  clear f0 f2 f4 f14 f15 hD n9 hP3 K1 fr st2;rintro t fr st2 ⟨t0,hkt,htA,rfl,f0,f14,f17,hD,n9⟩ JJ hJJ;by_cases dQ:k<t;rotate_left
  .clear hJJ;obtain rfl:t=k:=oO;have r8:¬((p:Int)+t<p+t):=oO;refine xw3 f14 f17 r8 ?_;refine⟨_,?_,hR,by rw[hD];simp,n9⟩;refine aCe.trans ?_;rw[aAG];exact(List.perm_append_singleton y A).symm
  obtain⟨t',rfl⟩:∃ t',t=t'+1:=⟨t-1,oO⟩;have hce:P++A.take (t'+1)++y::(A.drop (t'+1)++S)=(P++A.take t')++A.getD t' ed0::y::(A.drop (t'+1)++S):=by rw[QG A t' oO];simp
  have hUl:(P++A.take t').length=p+t':=by simp[hp];omega
  have D9:(((P++A.take t')++A.getD t' ed0::y::(A.drop (t'+1)++S)).set (p+t'+1) (A.getD t' ed0)).set (p+t') y=P++A.take t'++y::(A.drop t'++S):=by rw[show(P++A.take t')++A.getD t' ed0::y::(A.drop (t'+1)++S)=(P++A.take t'++[A.getD t' ed0])++y::(A.drop (t'+1)++S) by simp];rw[MA _ _ _ _ (by simp[hp];omega)];rw[show(P++A.take t'++[A.getD t' ed0])++A.getD t' ed0::(A.drop (t'+1)++S)=(P++A.take t')++A.getD t' ed0::(A.getD t' ed0::(A.drop (t'+1)++S)) by simp];rw[MA _ _ _ _ hUl.symm,Iv A t' oO];simp
  have g1:=FF (P++A.take t') (A.getD t' ed0) (y::(A.drop (t'+1)++S)) (j:=p+t') hUl.symm;have g2:((P++A.take t')++A.getD t' ed0::y::(A.drop (t'+1)++S)).getD (p+t'+1) ed0=y:=by rw[show(P++A.take t')++A.getD t' ed0::y::(A.drop (t'+1)++S)=(P++A.take t'++[A.getD t' ed0])++y::(A.drop (t'+1)++S) by simp];exact FF _ _ _ (by simp[hp];omega)
  have o8:((P++A.take t')++A.getD t' ed0::y::(A.drop (t'+1)++S)).length=L:=by rw[<- hce];simp only[aAm,List.length_cons,aAv,aAO];omega
  rw[hce]at hD;generalize A.getD t' ed0=x at *;generalize hc:(P++A.take t')++x::y::(A.drop (t'+1)++S)=c at *;obtain⟨k1,j7⟩:∃ k1:Nat,k1=p+t':=⟨_,rfl⟩;rw[<- j7]at g1 g2 D9;have hel:=aJ c;have da:=aP c k1 oO;have db:=aP c (k1+1) oO;rw[g1]at da;rw[g2]at db;rw[o8]at hel;have wG':IntKind.i64.wrap (k1:Int)=(k1:Int):=vO _ oO oO;have f17':fr 17=i ((k1:Int)+1):=by rw[f17,j7];simp;omega
  have hA4:k1+1<L:=oO;have hB4:k1<L:=oO;have hgt:(p:Int)+k<(k1:Int)+1:=oO;refine xw3 f14 f17' hgt ?_
  (refine zS [] [q] [0,2,4,6,8,10,12,14,16,18,20,22,24,26,28,31,32,35] ?_;intro J hJ;simp[f0,f17',hD,da,db,hel,o8,wG'];(repeat refine ca ?_);refine zJ hJ ?_)
  have e1:=jD c (k1+1) x oO;have e2:=jD (c.set (k1+1) x) k1 y (by simp;omega);rw[e1,e2,D9,St.set_set];refine xw2 f17' wG' ?_;exact hJJ t' _ _ oO ⟨t',oO,oO,rfl,sF1 f0,sF1 f14,by simp;omega,sS,n9.set _⟩
def Aw.Xp:=KH.1
def Aw.U.Xp:=KH.2
open Go Go.RowKit Pl Aw
open Aw.U
namespace Aw
def YL(P A1 B1 R:List Ed)(q:Nat)(st st2:St):Prop:=Dq P A1 B1 R q st (.tu []) st2
end Aw
namespace Aw.U
def YL(P A1 B1 R:List Nu)(q:Nat)(st st2:St):Prop:=Dq P A1 B1 R q st (.tu []) st2
end Aw.U
namespace Aw
theorem BT{P:Program}{N:Nat}{Q:AQ}{k:List gF}{fr:Frm}{st:St}{x:Code}(I:Frm->St->Prop)(h1:AWp P N x (AK P N (fun e f s=>e=.normal/\I f s) []) fr st)(h2:∀ fr st,I fr st->AK P N Q k .normal fr st):AWp P N x (AK P N Q k) fr st:=by refine cW h1 ?_;rintro e c7 st' ⟨rfl,hI⟩;exact h2 _ _ hI
end Aw
theorem xO:(∀(q L:Nat) (v8:FuncId) (GK:List LV) (Pc:St->Prop) (x8:Aw.gV v8 GK q Pc) (hl:L<=100000),
 ∀(n:Nat) (P A B S:List Ed) (p m b:Nat) (st:St),A.length+B.length<=n->A≠[]->B≠[]->Ris A->Ris B->(P++A++B++S).length=L->P.length=p->m=p+A.length->b=m+B.length->Pc st->q<st.next->st.H q=.box 36 3 (eds (P++A++B++S))->
 aB prog 162 [.ms q 0 L,i p,i m,i b,.fn (.func v8) GK] st (Dq P A B S q st))/\(∀(q L:Nat) (v8:FuncId) (GK:List LV) (Pc:St->Prop) (x8:Aw.U.gV v8 GK q Pc) (hl:L<=100000),
 ∀(n:Nat) (P A B S:List Nu) (p m b:Nat) (st:St),A.length+B.length<=n->A≠[]->B≠[]->Ris A->Ris B->(P++A++B++S).length=L->P.length=p->m=p+A.length->b=m+B.length->Pc st->q<st.next->st.H q=.box 34 1 (eds (P++A++B++S))->
 aB prog 160 [.ms q 0 L,i p,i m,i b,.fn (.func v8) GK] st (Dq P A B S q st)):=by
 refine⟨?_,?_⟩
 all_goals
  intro q L v8 GK Pc x8 hl;intro n;induction n with
  |zero=>intro P A B S p m b st hn hA;have:=aBm.2 hA;omega
  |succ n ih=>
  intro P A B S p m b st hn hA hB rA rB hL hp hm hb M4 hq hH;have hA0:=aBm.2 hA;have hB0:=aBm.2 hB;by_cases hA1:A.length=1
  .obtain⟨x,rfl⟩:∃ x,A=[x]:=aDo.1 hA1;have e:P++[x]++B++S=P++x::B++S:=sS;rw[e]at hH hL;subst hb;exact Xa P x B S q L p m v8 GK Pc st x8 M4 hq rB hL hl hp (by simpa using hm) hH
  by_cases S1:B.length=1
  .obtain⟨y,rfl⟩:∃ y,B=[y]:=aDo.1 S1;have e:P++A++[y]++S=P++A++y::S:=sS;rw[e]at hH hL;subst hb;exact Xp P A y S q L p m v8 GK Pc st x8 M4 hq rA hA1 hL hl hp hm hH
  have hLl:L=p+A.length+B.length+S.length:=by rw[<- hL,<- hp];simp only[aAm]
  obtain⟨s,hs⟩:∃ s:Nat,s=p+b:=⟨_,rfl⟩;obtain⟨A7,hmid⟩:∃ A7:Nat,A7=s / 2:=⟨_,rfl⟩;obtain⟨nn,hnn⟩:∃ nn:Nat,nn=A7+m:=⟨_,rfl⟩;obtain⟨pp,X7⟩:∃ pp:Nat,nn=pp+1:=⟨nn-1,oO⟩;have e1:IntKind.i64.wrap ((m:Int)-p)=(A.length:Int):=zW;have e2:IntKind.i64.wrap ((b:Int)-m)=(B.length:Int):=zW;have wA:IntKind.i64.wrap ((p:Int)+b)=(s:Int):=zW;have wB:=yR s oO;have wC:=FE s A7 hmid;have wD:IntKind.i64.wrap (A7:Int)=(A7:Int):=zW;have wN:IntKind.i64.wrap ((A7:Int)+m)=(nn:Int):=zW;have wP:IntKind.i64.wrap ((nn:Int)-1)=(pp:Int):=zW;obtain⟨s0,hs0⟩:∃ s0:Nat,s0=if A7<m then nn-b else p:=⟨_,rfl⟩
  obtain⟨r0,V7⟩:∃ r0:Nat,r0=if A7<m then A7 else m:=⟨_,rfl⟩
  have hsr:p<=s0/\s0<=r0/\r0<=m/\r0<=A7/\nn<=s0+b:=by
   by_cases h:A7<m
   .rw[aAk h]at hs0 V7;omega
   .rw[aAa h]at hs0 V7;omega
  first|(have _:List Ed:=P;refine zN func162 ntmps162 [] ?_)|refine zN func160 ntmps160 [] ?_
  (repeat' (first|apply qS|(refine zE ?_;intro J hJ;simp[e1];refine zJ hJ ?_)))
  (apply qC;simp[hA1];(try with_reducible refine⟨?_,?_⟩)<;>(try with_reducible intro hc)<;>try (exfalso;omega))
  (repeat' (first|apply qS|refine qK (zZ ?_)|(refine zE ?_;intro J hJ;simp[e2];refine zJ hJ ?_)))
  (apply qC;simp[S1];(try with_reducible refine⟨?_,?_⟩)<;>(try with_reducible intro hc)<;>try (exfalso;omega))
  (repeat' (first|apply qS|refine qK (zZ ?_)|(refine zE ?_;intro J hJ;simp[wA,wB,wC,wD,wN];refine zJ hJ ?_)))
  refine cF (fun fr st2=>fr 0=.ms q 0 L/\fr 1=i p/\fr 2=i m/\fr 3=i b/\fr 4=.fn (.func v8) GK/\fr 18=i A7/\fr 19=i nn/\fr 20=i s0/\fr 21=i r0/\st2=st) ?_ ?_
  .by_cases h:A7<m
   .rw[aAk h]at hs0 V7;have w1:IntKind.i64.wrap ((nn:Int)-b)=(s0:Int):=zW;refine xw3 h w1 V7 ?_;simp[V7]
   .rw[aAa h]at hs0 V7;refine xw3 h hs0 V7 ?_;simp[hs0,V7]
  rintro fr st2 ⟨f0,f1,f2,f3,f4,f18,f19,f20,f21,rfl⟩
  (repeat' (first|apply qS|apply qB|(refine zE ?_;intro J hJ;simp[f19,wP];refine zJ hJ ?_)))
  refine qL (fun z fr F9=>∃ k v:Nat,s0<=k/\k<=v/\v<=r0/\z=v-k/\fr 0=.ms q 0 L/\fr 1=i p/\fr 2=i m/\fr 3=i b/\fr 4=.fn (.func v8) GK/\fr 18=i A7/\fr 19=i nn/\fr 20=i k/\fr 21=i v/\fr 22=i pp/\(s0<k->(A.getD (k-1-p) ed0).id<=(B.getD (A7-k) ed0).id)/\(v<r0->(B.getD (A7-v-1) ed0).id<(A.getD (v-p) ed0).id)/\F9.H q=bxo (P++A++B++S)/\bQ q st2 F9) (r0-s0) ?_ ?_
  .exact⟨s0,r0,aAl _,oO,aAl _,rfl,sF1 f0,sF1 f1,sF1 f2,sF1 f3,sF1 f4,sF1 f18,sF1 f19,sF1 f20,sF1 f21,sS,fun h=>by omega,fun h=>by omega,hH,bQ.refl _ _⟩
  clear f0 f1 f2 f3 f4 f18 f19 f20 f21 fr;rintro z fr F9 ⟨k,v,J8,hkv,hv0,rfl,f0,f1,f2,f3,f4,f18,f19,f20,f21,f22,h1,h2,hD,n9⟩ JJ hJJ;have hP3:=x8.keep _ _ M4 n9;have hq3:q<F9.next:=by have:=n9.1;omega
  by_cases dQ:k<v
  .obtain⟨s',W2⟩:∃ s':Nat,s'=k+v:=⟨_,rfl⟩;obtain⟨c,hc⟩:∃ c:Nat,c=s' / 2:=⟨_,rfl⟩;obtain⟨d,hd⟩:∃ d:Nat,d=pp-c:=⟨_,rfl⟩;have w1:IntKind.i64.wrap ((k:Int)+v)=(s':Int):=zW;have w2:=yR s' oO;have w3:=FE s' c hc;have w4:IntKind.i64.wrap (c:Int)=(c:Int):=zW;have w5:IntKind.i64.wrap ((pp:Int)-c)=(d:Int):=zW;have w6:IntKind.i64.wrap ((c:Int)+1)=((c+1:Nat):Int):=zW;have g1:(P++A++B++S).getD d ed0=B.getD (A7-c-1) ed0:=by
    (first|rw[show P++A++B++S=(P++A)++(B++S) by simp,show d=(P++A).length+(A7-c-1) by simp;omega,Aw.CI,Aw.oL _ _ _ oO]|rw[show P++A++B++S=(P++A)++(B++S) by simp,show d=(P++A).length+(A7-c-1) by simp;omega,Aw.U.CI,Aw.U.oL _ _ _ oO])
   have g2:(P++A++B++S).getD c ed0=A.getD (c-p) ed0:=by have h3:=CI P (A++(B++S)) (c-p);rw[oL A (B++S) (c-p) oO,hp,show p+(c-p)=c by omega]at h3;rw[<- h3];simp
   have hel:=aJ (P++A++B++S);have da:=aP (P++A++B++S) d oO;have db:=aP (P++A++B++S) c oO;rw[g1]at da;rw[g2]at db;rw[hL]at hel;have hfr:∀ c7 st4,st4.H q=F9.H q->bQ q st2 st4->(c7 0=.ms q 0 L/\c7 1=i p/\c7 2=i m/\c7 3=i b/\c7 4=.fn (.func v8) GK/\c7 18=i A7/\c7 19=i nn/\c7 22=i pp)->((¬(B.getD (A7-c-1) ed0).id<(A.getD (c-p) ed0).id/\c7 20=i (c+1:Nat)/\c7 21=i v)\/((B.getD (A7-c-1) ed0).id<(A.getD (c-p) ed0).id/\c7 20=i k/\c7 21=i c))->JJ c7 st4:=by
    rintro c7 st4 k1 k2 ⟨k3,k4,k5,k6,k7,k8,k9,k10⟩ (⟨j1,j2,j3⟩|⟨j1,j2,j3⟩)
    .exact hJJ (v-(c+1)) _ _ oO ⟨c+1,v,oO,oO,hv0,rfl,k3,k4,k5,k6,k7,k8,k9,j2,j3,k10,fun _=>by rw[aCG,<- Nat.sub_sub];omega,h2,k1.trans hD,k2⟩
    .exact hJJ (c-k) _ _ oO ⟨k,c,J8,oO,oO,rfl,k3,k4,k5,k6,k7,k8,k9,j2,j3,k10,h1,fun _=>j1,k1.trans hD,k2⟩
   clear hJJ h1 h2;have hcm:=x8.call F9 (B.getD (A7-c-1) ed0) (A.getD (c-p) ed0) hP3;have D7:=pP (B.getD (A7-c-1) ed0) (A.getD (c-p) ed0);generalize B.getD (A7-c-1) ed0=y at *;generalize A.getD (c-p) ed0=x at *;generalize hce:P++A++B++S=cc at *;generalize sU y x=cv at *;have hA4:d<L:=oO;have hB4:c<L:=oO;refine xw7 f20 f21 dQ w1 w2 w3 w4 ?_
   (refine zS [] [q] [0,2,4,6,8,10,12,14,16,18,20,23,24,26] ?_;intro J hJ;simp[f0,f4,f22,hD,da,db,hel,w5];(repeat refine ca ?_))
   refine aO hcm ?_;rintro r s4 ⟨rfl,F5⟩;have hD4:=F5.H q hq3;refine⟨fun _=>by simp[hD4,hD],?_⟩;by_cases G9:y.id<x.id
   .have hcv:cv<0:=by rw[aBs G9]at D7;exact aCc D7
    (apply bL;simp[hcv,hD4,hD];refine zJ hJ ?_)
    refine xw0 ?_;exact hfr _ _ hD4 (n9.keeps F5) ⟨sF1 f0,sF1 f1,sF1 f2,sF1 f3,sF1 f4,sF1 f18,sF1 f19,sF1 f22⟩ (.inr ⟨G9,sF1 f20,sS⟩)
   .have hcv:¬cv<0:=by rw[aBC G9]at D7;exact aCI D7
    (apply bL;simp[hcv,hD4,hD];refine zJ hJ ?_)
    refine xw1 w6 ?_;exact hfr _ _ hD4 (n9.keeps F5) ⟨sF1 f0,sF1 f1,sF1 f2,sF1 f3,sF1 f4,sF1 f18,sF1 f19,sF1 f22⟩ (.inl ⟨G9,sS,sF1 f21⟩)
  clear hJJ;obtain rfl:k=v:=oO;have hcut:Cut A B (k-p) (A7-k):=by
   refine⟨oO,oO,?_,?_⟩
   .by_cases h:s0<k
    .refine .inr (.inr ?_);have:=h1 h
     rwa [show k-1-p=k-p-1 by omega]at this
    .by_cases h3:A7<m
     .rw[aAk h3]at hs0;exact .inr (.inl oO)
     .rw[aAa h3]at hs0;exact .inl oO
   .by_cases h:k<r0
    .refine .inr (.inr ?_);have:=h2 h;omega
    .by_cases h3:A7<m
     .rw[aAk h3]at V7;exact .inl oO
     .rw[aAa h3]at V7;exact .inr (.inl oO)
  have hj:=fun C D=>Cut.join (C:=C) (D:=D) rA rB hcut;have rA1:Ris (A.take (k-p)):=aCO (List.take_sublist _ _) rA;have rA2:Ris (A.drop (k-p)):=aCO (List.drop_sublist _ _) rA;have rB1:Ris (B.take (A7-k)):=aCO (List.take_sublist _ _) rB;have rB2:Ris (B.drop (A7-k)):=aCO (List.drop_sublist _ _) rB;have lA1:(A.take (k-p)).length=k-p:=by rw[aAv];omega
  have lA2:(A.drop (k-p)).length=m-k:=by rw[aAO];omega
  have lB1:(B.take (A7-k)).length=A7-k:=by rw[aAv];omega
  have lB2:(B.drop (A7-k)).length=b-m-(A7-k):=by rw[aAO];omega
  have eA:=aAG (k-p) A;have eB:=aAG (A7-k) B;obtain⟨ed,hed⟩:∃ ed:Nat,ed=nn-k:=⟨_,rfl⟩;have wE:IntKind.i64.wrap ((nn:Int)-k)=(ed:Int):=zW;clear hcut h1 h2;generalize A.take (k-p)=A1 at *;generalize A.drop (k-p)=A2 at *;generalize B.take (A7-k)=B1 at *;generalize B.drop (A7-k)=B2 at *;have nz:∀ {l:List (CM P)} {j:Nat},l.length=j->0<j->l≠[]:=fun h1 h2 h3=>by subst h3;simp at h1;omega
  have zz:∀ {l:List (CM P)} {j:Nat},l.length=j->j=0->l=[]:=fun h1 h2=>aAF oO;have hD':F9.H q=bxo ((P++A1)++A2++B1++(B2++S)):=by rw[hD,<- eA,<- eB];simp
  have hL2:((P++A1)++A2++B1++(B2++S)).length=L:=by simp only[aAm];omega
  have hpA:(P++A1).length=k:=by simp only[aAm];omega
  clear hD;have C7:¬(k:Int)<k:=oO
  (repeat' (first|apply qS|(refine zE ?_;intro J hJ;simp[f20,f21];refine zJ hJ ?_)))
  (apply qC;simp[C7])
  refine qX (zZ ?_)
  (repeat (apply qS))
  (refine zE ?_;intro J hJ;simp[f19,f20,wE];refine zJ hJ ?_)
  (repeat (apply qS))
  refine BT (fun c7 st4=>(c7 0=.ms q 0 L/\c7 1=i p/\c7 2=i m/\c7 3=i b/\c7 4=.fn (.func v8) GK/\c7 18=i A7/\c7 20=i k/\c7 24=i ed/\c7 185=bb (decide (k<m/\m<ed)))/\st4=F9) ?_ ?_
  .by_cases c1:k<m
   .by_cases c2:m<ed
    ·(refine zE ?_;intro J hJ;simp[f20,f2,c1,c2];refine zJ hJ ?_)
     simp[f0,f1,f2,f3,f4,f18,f20,c1,c2]
    ·(refine zE ?_;intro J hJ;simp[f20,f2,c1,c2];refine zJ hJ ?_)
     simp[f0,f1,f2,f3,f4,f18,f20,c1,c2]
   ·(refine zE ?_;intro J hJ;simp[f20,f2,c1];refine zJ hJ ?_)
    simp[f0,f1,f2,f3,f4,f18,f20,c1]
  clear f0 f1 f2 f3 f4 f18 f19 f20 f21 f22 fr;rintro fr st4 ⟨⟨f0,f1,f2,f3,f4,f18,f20,f24,f185⟩,rfl⟩;simp only[ak]
  (repeat (apply qS))
  refine cF (fun c7 st5=>(c7 0=.ms q 0 L/\c7 1=i p/\c7 3=i b/\c7 4=.fn (.func v8) GK/\c7 18=i A7/\c7 20=i k/\c7 24=i ed)/\st5.H q=bxo (P++A1++B1++(A2++B2++S))/\bQ q st2 st5) ?_ ?_
  .by_cases c:k<m/\m<ed
   .rw[aBs c]at f185;have D3:=QS (P++A1) A2 B1 (B2++S) q (.func v8) GK st4 (nz lA2 oO) (nz lB1 oO) oO hD';rw[hpA,lA2,lB1,show k+(m-k)=m by omega,show m+(A7-k)=ed by omega,hL2]at D3;have e9:P++A1++B1++A2++(B2++S)=P++A1++B1++(A2++B2++S):=sS;rw[e9]at D3;generalize P++A1++B1++(A2++B2++S)=cc at *
    (repeat' (first|(apply qC;simp[f185,f0,f20,f2,f24,f4])|(refine zE ?_;intro J hJ;simp[f185,f0,f20,f2,f24,f4])))
    refine qE D3 sS ?_;rintro r s5 rfl
    (repeat' (apply cD;simp[];refine zJ hJ ?_))
    simp[f0,f1,f3,f4,f18,f20,f24];exact n9.set _
   .rw[aBC c]at f185;have e9:(P++A1)++A2++B1++(B2++S)=P++A1++B1++(A2++B2++S):=by
     by_cases c1:k<m
     .rw[zz lB1 oO];simp
     .rw[zz lA2 oO];simp
    rw[e9]at hD';generalize P++A1++B1++(A2++B2++S)=cc at *;refine xw1 f185 ?_;simp[f0,f1,f3,f4,f18,f20,f24,hD',n9]
  clear f0 f1 f2 f3 f4 f18 f20 f24 f185 hD' n9 hq3 hP3 fr;rintro fr st5 ⟨⟨f0,f1,f3,f4,f18,f20,f24⟩,hD,n9⟩
  (repeat (apply qS))
  refine BT (fun c7 st6=>(c7 0=.ms q 0 L/\c7 1=i p/\c7 3=i b/\c7 4=.fn (.func v8) GK/\c7 18=i A7/\c7 20=i k/\c7 24=i ed/\c7 199=bb (decide (p<k/\k<A7)))/\st6=st5) ?_ ?_
  .by_cases c1:p<k
   .by_cases c2:k<A7
    ·(refine zE ?_;intro J hJ;simp[f20,f1,f18,c1,c2];refine zJ hJ ?_)
     simp[f0,f1,f3,f4,f18,f20,f24,c1,c2]
    ·(refine zE ?_;intro J hJ;simp[f20,f1,f18,c1,c2];refine zJ hJ ?_)
     simp[f0,f1,f3,f4,f18,f20,f24,c1,c2]
   ·(refine zE ?_;intro J hJ;simp[f20,f1,c1];refine zJ hJ ?_)
    simp[f0,f1,f3,f4,f18,f20,f24,c1]
  clear f0 f1 f3 f4 f18 f20 f24 fr;rintro fr st6 ⟨⟨f0,f1,f3,f4,f18,f20,f24,f199⟩,rfl⟩;simp only[ak]
  (repeat (apply qS))
  refine cF (fun c7 st7=>(c7 0=.ms q 0 L/\c7 3=i b/\c7 4=.fn (.func v8) GK/\c7 18=i A7/\c7 24=i ed)/\YL P A1 B1 (A2++B2++S) q st2 st7) ?_ ?_
  .have hP6:=x8.keep _ _ M4 n9;have hq6:q<st6.next:=by have:=n9.1;omega
   by_cases c:p<k/\k<A7
   .rw[aBs c]at f199;have D3:=ih P A1 B1 (A2++B2++S) p k A7 st6 oO (nz lA1 oO) (nz lB1 oO) rA1 rB1 (by simp only[aAm];omega) hp oO oO hP6 hq6 hD
    (repeat' (first|(apply qC;simp[f199,f0,f1,f20,f18,f4])|(refine zE ?_;intro J hJ;simp[f199,f0,f1,f20,f18,f4])))
    refine qE D3 sS ?_;rintro r s7 ⟨C,k1,k2,k3,k4⟩
    (repeat' (apply cD;simp[];refine zJ hJ ?_))
    simp[f0,f3,f4,f18,f24];exact⟨C,k1,k2,by rw[k3];simp,n9.trans k4⟩
   .rw[aBC c]at f199;have e9:Ris (A1++B1):=by
     by_cases c1:p<k
     .rw[zz lB1 oO,aBc];exact rA1
     .rw[zz lA1 oO,List.nil_append];exact rB1
    refine xw1 f199 ?_;simp[f0,f3,f4,f18,f24];exact⟨A1++B1,.refl _,e9,by rw[hD];simp,n9⟩
  clear f0 f1 f3 f4 f18 f20 f24 f199 hD n9 fr;rintro fr st7 ⟨⟨f0,f3,f4,f18,f24⟩,C,c1,c2,hD,n9⟩;have lC:=c1.length_eq;rw[aAm,lA1,lB1]at lC;have hD:st7.H q=bxo (P++C++A2++B2++S):=by rw[hD];simp
  (repeat (apply qS))
  refine BT (fun c7 st8=>(c7 0=.ms q 0 L/\c7 3=i b/\c7 4=.fn (.func v8) GK/\c7 18=i A7/\c7 24=i ed/\c7 213=bb (decide (A7<ed/\ed<b)))/\st8=st7) ?_ ?_
  .by_cases c1:A7<ed
   .by_cases c2:ed<b
    ·(refine zE ?_;intro J hJ;simp[f24,f3,f18,c1,c2];refine zJ hJ ?_)
     simp[f0,f3,f4,f18,f24,c1,c2]
    ·(refine zE ?_;intro J hJ;simp[f24,f3,f18,c1,c2];refine zJ hJ ?_)
     simp[f0,f3,f4,f18,f24,c1,c2]
   ·(refine zE ?_;intro J hJ;simp[f24,f18,c1];refine zJ hJ ?_)
    simp[f0,f3,f4,f18,f24,c1]
  clear f0 f3 f4 f18 f24 fr;rintro fr st8 ⟨⟨f0,f3,f4,f18,f24,f213⟩,rfl⟩;simp only[ak];have hP8:=x8.keep _ _ M4 n9;have hq8:q<st8.next:=by have:=n9.1;omega
  by_cases c:A7<ed/\ed<b
  .rw[aBs c]at f213;have D3:=ih (P++C) A2 B2 S A7 ed b st8 oO (nz lA2 oO) (nz lB2 oO) rA2 rB2 (by simp only[aAm];omega) (by simp only[aAm];omega) oO oO hP8 hq8 hD
   (repeat' (first|(apply qC;simp[f213,f0,f3,f24,f18,f4])|(refine zE ?_;intro J hJ;simp[f213,f0,f3,f24,f18,f4])))
   refine qE D3 sS ?_;rintro r s9 ⟨D,k1,k2,k3,k4⟩
   (repeat' (apply cD;simp[];refine zJ hJ ?_))
   obtain⟨j1,j2⟩:=hj C D c1 k1 c2 k2;exact⟨trivial,C++D,j1,j2,by rw[k3];simp,n9.trans k4⟩
  .rw[aBC c]at f213;have e9:Ris (A2++B2):=by
    by_cases c1:A7<ed
    .rw[zz lB2 oO,aBc];exact rA2
    .rw[zz lA2 oO,List.nil_append];exact rB2
   refine xw1 f213 ?_;obtain⟨j1,j2⟩:=hj C (A2++B2) c1 (.refl _) c2 e9;exact⟨trivial,C++(A2++B2),j1,j2,by rw[hD];simp,n9⟩
def Aw.Fs:=xO.1
def Aw.U.Fs:=xO.2
open Go Go.RowKit Pl Aw
open Aw.U
namespace Aw
structure Mgd(D D':List Ed)(lo hi:Nat):Prop where
 len:D'.length=D.length
 perm:D'.Perm D
 out:∀ j,j<lo\/hi<=j->D'.getD j ed0=D.getD j ed0
 inn:∀ j k,lo<=j->j<=k->k<hi->(D'.getD j ed0).id<=(D'.getD k ed0).id
end Aw
namespace Aw.U
structure Mgd(D D':List Nu)(lo hi:Nat):Prop where
 len:D'.length=D.length
 perm:D'.Perm D
 out:∀ j,j<lo\/hi<=j->D'.getD j ed0=D.getD j ed0
 inn:∀ j k,lo<=j->j<=k->k<hi->(D'.getD j ed0).id<=(D'.getD k ed0).id
end Aw.U
theorem Pu:(∀ ⦃D P X S C:List Ed⦄ (hD:P++X++S=D) (hC:C.Perm X) (hr:Aw.Ris C) ⦃lo hi:Nat⦄ (h1:P.length=lo) (h2:hi=lo+X.length),
 Aw.Mgd D (P++C++S) lo hi)/\(∀ ⦃D P X S C:List Nu⦄ (hD:P++X++S=D) (hC:C.Perm X) (hr:Aw.U.Ris C) ⦃lo hi:Nat⦄ (h1:P.length=lo) (h2:hi=lo+X.length),
 Aw.U.Mgd D (P++C++S) lo hi):=by
 refine⟨?_,?_⟩
 all_goals
  intro D P X S C hD hC hr lo hi h1 h2;have hl:=hC.length_eq;subst hD;refine⟨sF1 hl,aDn _ (aCg _ hC),fun j hj=>?_,fun j k hj X9 hk=>?_⟩
  .rcases aAK j lo with h|h
   ·(first|rw[Aw.oL _ _ _ (by simp;omega),Aw.oL _ _ _ oO,Aw.oL _ _ _ (by simp;omega),Aw.oL _ _ _ oO]|rw[Aw.U.oL _ _ _ (by simp;omega),Aw.U.oL _ _ _ oO,Aw.U.oL _ _ _ (by simp;omega),Aw.U.oL _ _ _ oO])
   .have e1:=CI (P++C) S (j-hi);have e2:=CI (P++X) S (j-hi);have l1:(P++C).length+(j-hi)=j:=by simp;omega
    have l2:(P++X).length+(j-hi)=j:=by simp;omega
    rw[l1]at e1;rw[l2]at e2;rw[e1,e2]
  .have e:∀ x,lo<=x->x<hi->(P++C++S).getD x ed0=C.getD (x-lo) ed0:=fun x g1 g2=>by have e1:=CI P (C++S) (x-lo);rw[show P.length+(x-lo)=x by omega,oL C S (x-lo) oO]at e1;rw[<- e1];simp
   rw[e j hj oO,e k oO hk];exact iZ hr oO oO
def Aw.mgd:=Pu.1
def Aw.U.mgd:=Pu.2
namespace Aw
theorem Wj{α:Type}(D:List α)(lo hi:Nat)(h:lo<=hi):D.take lo++(D.drop lo).take (hi-lo)++D.drop hi=D:=by
 have e:(D.drop lo).drop (hi-lo)=D.drop hi:=by rw[aCx];congr 1;omega
 rw[aAE,<- e,aAG,aAG]
end Aw
theorem BC:(∀ ⦃D:List Ed⦄ ⦃lo hi:Nat⦄ (hh:hi<=D.length) (h:∀ j k,lo<=j->j<=k->k<hi->(D.getD j Aw.ed0).id<=(D.getD k Aw.ed0).id),
 Aw.Ris ((D.drop lo).take (hi-lo)))/\(∀ ⦃D:List Nu⦄ ⦃lo hi:Nat⦄ (hh:hi<=D.length) (h:∀ j k,lo<=j->j<=k->k<hi->(D.getD j Aw.U.ed0).id<=(D.getD k Aw.U.ed0).id),
 Aw.U.Ris ((D.drop lo).take (hi-lo))):=by
 refine⟨?_,?_⟩
 all_goals
  intro D lo hi hh h;refine aAB.2 fun a b ha hb x7=>?_;simp only[aAv,aAO]at ha hb;rw[aBG,aBG,aCl,aCl,<- DL D (lo+a) oO,<- DL D (lo+b) oO];exact h _ _ oO oO oO
def Aw.yV:=BC.1
def Aw.U.yV:=BC.2
theorem HF:(∀(q L:Nat) (v8:FuncId) (GK:List LV) (Pc:St->Prop) (x8:Aw.gV v8 GK q Pc) (hl:L<=100000) (D:List Ed) (a b:Nat) (st:St) (hD:D.length=L) (ha:a<=b) (hb:b<=L) (M4:Pc st) (hq:q<st.next) (hH:st.H q=.box 36 3 (Aw.eds D)),
 aB prog 161 [.ms q 0 L,i a,i b,.fn (.func v8) GK] st fun r st'=>∃ D',st'.H q=.box 36 3 (Aw.eds D')/\Aw.Mgd D D' a b/\bQ q st st')/\(∀(q L:Nat) (v8:FuncId) (GK:List LV) (Pc:St->Prop) (x8:Aw.U.gV v8 GK q Pc) (hl:L<=100000) (D:List Nu) (a b:Nat) (st:St) (hD:D.length=L) (ha:a<=b) (hb:b<=L) (M4:Pc st) (hq:q<st.next) (hH:st.H q=.box 34 1 (Aw.U.eds D)),
 aB prog 159 [.ms q 0 L,i a,i b,.fn (.func v8) GK] st fun r st'=>∃ D',st'.H q=.box 34 1 (Aw.U.eds D')/\Aw.U.Mgd D D' a b/\bQ q st st'):=by
 refine⟨?_,?_⟩
 all_goals
  intro q L v8 GK Pc x8 hl D a b st hD ha hb M4 hq hH;have hc:=Wj D a b ha;have l1:(D.take a).length=a:=by rw[aAv];omega
  have l2:((D.drop a).take (b-a)).length=b-a:=by rw[aAv,aAO];omega
  have h:=KU (D.take a) ((D.drop a).take (b-a)) (D.drop b) q v8 GK Pc st x8 M4 hq (by rw[hc];omega) (by rw[hc];exact hH);rw[hc,hD,l1,l2,show a+(b-a)=b by omega]at h;refine h.mono ?_;rintro r st' ⟨Y,h1,h2,h3,h4⟩;exact⟨_,h3,mgd hc h1 h2 l1 oO,h4⟩
def Aw.RY:=HF.1
def Aw.U.RY:=HF.2
theorem HU:(∀(q L:Nat) (v8:FuncId) (GK:List LV) (Pc:St->Prop) (x8:Aw.gV v8 GK q Pc) (hl:L<=100000) (D:List Ed) (a m b:Nat) (st:St) (hD:D.length=L) (ha:a<m) (hm:m<b) (hb:b<=L) (h1:∀ j k,a<=j->j<=k->k<m->(D.getD j Aw.ed0).id<=(D.getD k Aw.ed0).id) (h2:∀ j k,m<=j->j<=k->k<b->(D.getD j Aw.ed0).id<=(D.getD k Aw.ed0).id) (M4:Pc st) (hq:q<st.next) (hH:st.H q=.box 36 3 (Aw.eds D)),
 aB prog 162 [.ms q 0 L,i a,i m,i b,.fn (.func v8) GK] st fun r st'=>∃ D',st'.H q=.box 36 3 (Aw.eds D')/\Aw.Mgd D D' a b/\bQ q st st')/\(∀(q L:Nat) (v8:FuncId) (GK:List LV) (Pc:St->Prop) (x8:Aw.U.gV v8 GK q Pc) (hl:L<=100000) (D:List Nu) (a m b:Nat) (st:St) (hD:D.length=L) (ha:a<m) (hm:m<b) (hb:b<=L) (h1:∀ j k,a<=j->j<=k->k<m->(D.getD j Aw.U.ed0).id<=(D.getD k Aw.U.ed0).id) (h2:∀ j k,m<=j->j<=k->k<b->(D.getD j Aw.U.ed0).id<=(D.getD k Aw.U.ed0).id) (M4:Pc st) (hq:q<st.next) (hH:st.H q=.box 34 1 (Aw.U.eds D)),
 aB prog 160 [.ms q 0 L,i a,i m,i b,.fn (.func v8) GK] st fun r st'=>∃ D',st'.H q=.box 34 1 (Aw.U.eds D')/\Aw.U.Mgd D D' a b/\bQ q st st'):=by
 refine⟨?_,?_⟩
 all_goals
  intro q L v8 GK Pc x8 hl D a m b st hD ha hm hb h1 h2 M4 hq hH;have V6:=Wj D m b oO;have hc2:=Wj (D.take m) a m oO;have e1:((D.take m).drop a).take (m-a)=(D.drop a).take (m-a):=by rw[aEc,aCf,Nat.min_self]
  have e2:(D.take m).drop m=[]:=by rw[List.drop_eq_nil_iff,aAv];omega
  have e3:(D.take m).take a=D.take a:=by rw[aCf,aCX oO]
  rw[e1,e2,e3,aBc]at hc2;have hc:D.take a++(D.drop a).take (m-a)++(D.drop m).take (b-m)++D.drop b=D:=by rw[hc2,V6]
  have l1:(D.take a).length=a:=by rw[aAv];omega
  have l2:((D.drop a).take (m-a)).length=m-a:=by rw[aAv,aAO];omega
  have l3:((D.drop m).take (b-m)).length=b-m:=by rw[aAv,aAO];omega
  have r1:=yV (D:=D) (lo:=a) (hi:=m) oO h1;have r2:=yV (D:=D) (lo:=m) (hi:=b) oO h2;have h:=Fs q L v8 GK Pc x8 hl _ (D.take a) ((D.drop a).take (m-a)) ((D.drop m).take (b-m)) (D.drop b) a m b st (aAl _) (fun e=>by rw[e]at l2;simp at l2;omega) (fun e=>by rw[e]at l3;simp at l3;omega) r1 r2 (by rw[hc];exact hD) l1 oO oO M4 hq (by rw[hc];exact hH);refine h.mono ?_;rintro r st' ⟨C,k1,k2,k3,k4⟩;refine⟨_,k3,mgd (X:=(D.drop a).take (m-a)++(D.drop m).take (b-m)) (by rw[<- aAE (D.take a)];exact hc) k1 k2 l1 (by simp only[aAm];omega),k4⟩
def Aw.RP:=HU.1
def Aw.U.RP:=HU.2
namespace Aw
def Bs(s lo hi:Nat)(D:List Ed):Prop:=∀ j k,lo<=j->j<=k->k<hi->j / s=k / s->(D.getD j ed0).id<=(D.getD k ed0).id
end Aw
namespace Aw.U
def Bs(s lo hi:Nat)(D:List Nu):Prop:=∀ j k,lo<=j->j<=k->k<hi->j / s=k / s->(D.getD j ed0).id<=(D.getD k ed0).id
end Aw.U
namespace Aw
theorem Fe{s t j:Nat}(h1:s*t<=j)(h2:j<s*t+s):j / s=t:=by
 refine Nat.div_eq_of_lt_le ?_ ?_
 .rw[aBT];exact h1
 .rw[aBT,Nat.mul_succ];exact h2
end Aw
theorem Bs.extTwo:(∀ ⦃s a b t:Nat⦄ ⦃D D':List Ed⦄ (h:Aw.Bs s 0 a D) (hm:Aw.Mgd D D' a b) (hs:0<s) (ht:a=s*t),
 Aw.Bs s 0 b D')/\(∀ ⦃s a b t:Nat⦄ ⦃D D':List Nu⦄ (h:Aw.U.Bs s 0 a D) (hm:Aw.U.Mgd D D' a b) (hs:0<s) (ht:a=s*t),
 Aw.U.Bs s 0 b D'):=by
 refine⟨?_,?_⟩
 all_goals
  intro s a b t D D' h hm hs ht;intro j k _ X9 hk he;rcases aAK k a with h1|h1
  .rw[hm.out j (.inl oO),hm.out k (.inl h1)];exact h j k (aBE _) X9 h1 he
  .rcases aAK j a with h2|h2
   .have h3:j / s<t:=aEo oO;have h4:t<=k / s:=(aEd hs).2 (by rw[aBT];omega);omega
   .exact hm.inn j k h2 X9 hk
def Aw.Bs.ext:=Bs.extTwo.1
def Aw.U.Bs.ext:=Bs.extTwo.2
theorem Bs.restTwo:(∀ ⦃s a b:Nat⦄ ⦃L:Nat⦄ ⦃D D':List Ed⦄ (h:Aw.Bs s a L D) (hm:Aw.Mgd D D' a b) (x7:a<=b),
 Aw.Bs s b L D')/\(∀ ⦃s a b:Nat⦄ ⦃L:Nat⦄ ⦃D D':List Nu⦄ (h:Aw.U.Bs s a L D) (hm:Aw.U.Mgd D D' a b) (x7:a<=b),
 Aw.U.Bs s b L D'):=by
 refine⟨?_,?_⟩
 all_goals
  intro s a b L D D' h hm x7;intro j k h1 X9 hk he;rw[hm.out j (.inr h1),hm.out k (.inr oO)];exact h j k oO X9 hk he
def Aw.Bs.rest:=Bs.restTwo.1
def Aw.U.Bs.rest:=Bs.restTwo.2
namespace Aw
theorem Bs.block{s a L t:Nat}{D:List Ed}(h:Bs s a L D){c:Nat}(hc:s*t=c)(hac:a<=c){j k:Nat}(h1:c<=j)(h2:j<=k)(h3:k<c+s)(h4:k<L):(D.getD j ed0).id<=(D.getD k ed0).id:=
 h j k oO h2 h4 ((Fe (t:=t) oO oO).trans (Fe oO oO).symm)
end Aw
namespace Aw.U
theorem Bs.block{s a L t:Nat}{D:List Nu}(h:Bs s a L D){c:Nat}(hc:s*t=c)(hac:a<=c){j k:Nat}(h1:c<=j)(h2:j<=k)(h3:k<c+s)(h4:k<L):(D.getD j ed0).id<=(D.getD k ed0).id:=
 h j k oO h2 h4 ((Fe (t:=t) oO oO).trans (Fe oO oO).symm)
end Aw.U
theorem Bs.allTwo:(∀ ⦃s L:Nat⦄ ⦃D:List Ed⦄ (h:Aw.Bs s 0 L D) (hs:L<=s) (hD:D.length=L),
 Aw.Ris D)/\(∀ ⦃s L:Nat⦄ ⦃D:List Nu⦄ (h:Aw.U.Bs s 0 L D) (hs:L<=s) (hD:D.length=L),
 Aw.U.Ris D):=by
 refine⟨?_,?_⟩
 all_goals
  intro s L D h hs hD;have:=yV (D:=D) (lo:=0) (hi:=L) oO fun j k h1 h2 h3=>h j k h1 h2 h3 (by rw[aDr oO,aDr oO])
  rwa [List.drop_zero,aAt oO]at this
def Aw.Bs.all:=Bs.allTwo.1
def Aw.U.Bs.all:=Bs.allTwo.2
namespace Aw
theorem Mgd.from{D D':List Ed}{a b:Nat}(h:Mgd D D' a b){D0:List Ed}(k:D.Perm D0):D'.Perm D0:=h.perm.trans k
end Aw
namespace Aw.U
theorem Mgd.from{D D':List Nu}{a b:Nat}(h:Mgd D D' a b){D0:List Nu}(k:D.Perm D0):D'.Perm D0:=h.perm.trans k
end Aw.U
namespace Aw
def AO(D0:List Ed)(q L:Nat)(st st2:St)(D:List Ed):Prop:=D.length=L/\D.Perm D0/\st2.H q=.box 36 3 (eds D)/\bQ q st st2
end Aw
namespace Aw.U
def AO(D0:List Nu)(q L:Nat)(st st2:St)(D:List Nu):Prop:=D.length=L/\D.Perm D0/\st2.H q=.box 34 1 (eds D)/\bQ q st st2
end Aw.U
namespace Aw
theorem AO.step{D0:List Ed}{q L:Nat}{st st2 F9:St}{D D':List Ed}{a b:Nat}(h:AO D0 q L st st2 D)(hm:Mgd D D' a b)(h1:F9.H q=.box 36 3 (eds D'))(h2:bQ q st2 F9):AO D0 q L st F9 D':=
 ⟨hm.len.trans h.1,hm.from h.2.1,h1,h.2.2.2.trans h2⟩
end Aw
namespace Aw.U
theorem AO.step{D0:List Nu}{q L:Nat}{st st2 F9:St}{D D':List Nu}{a b:Nat}(h:AO D0 q L st st2 D)(hm:Mgd D D' a b)(h1:F9.H q=.box 34 1 (eds D'))(h2:bQ q st2 F9):AO D0 q L st F9 D':=
 ⟨hm.len.trans h.1,hm.from h.2.1,h1,h.2.2.2.trans h2⟩
end Aw.U
theorem DG:(∀(D0:List Ed) (q L:Nat) (v8:FuncId) (GK:List LV) (Pc:St->Prop) (st:St) (x8:Aw.gV v8 GK q Pc) (M4:Pc st) (hq:q<st.next) (hL:D0.length=L) (hl:L<=100000) (hH:st.H q=.box 36 3 (Aw.eds D0)),
 aB prog 119 [.ms q 0 L,i L,.fn (.func v8) GK] st fun r st'=>∃ D,D.Perm D0/\Aw.Ris D/\st'.H q=.box 36 3 (Aw.eds D)/\bQ q st st')/\(∀(D0:List Nu) (q L:Nat) (v8:FuncId) (GK:List LV) (Pc:St->Prop) (st:St) (x8:Aw.U.gV v8 GK q Pc) (M4:Pc st) (hq:q<st.next) (hL:D0.length=L) (hl:L<=100000) (hH:st.H q=.box 34 1 (Aw.U.eds D0)),
 aB prog 117 [.ms q 0 L,i L,.fn (.func v8) GK] st fun r st'=>∃ D,D.Perm D0/\Aw.U.Ris D/\st'.H q=.box 34 1 (Aw.U.eds D)/\bQ q st st'):=by
 refine⟨?_,?_⟩
 all_goals
  intro D0 q L v8 GK Pc st x8 M4 hq hL hl hH
  first|(have _:List Ed:=D0;refine zN func119 ntmps119 [] ?_)|refine zN func117 ntmps117 [] ?_
  refine xw0 ?_;refine qL (fun z fr st2=>∃(t a:Nat) (D:List (CM D0)),a=20*t/\a<=L/\z=L-a/\fr 0=.ms q 0 L/\fr 1=i L/\fr 2=.fn (.func v8) GK/\fr 6=i 20/\fr 7=i a/\fr 8=i (a+20:Nat)/\Bs 20 0 a D/\AO D0 q L st st2 D) L ?_ ?_
  .exact⟨0,0,D0,rfl,oO,rfl,sS,sS,sS,sS,sS,sS,fun j k _ _ h=>by omega,hL,.refl _,hH,bQ.refl _ _⟩
  rintro z fr st2 ⟨t,a,D,ht,ha,rfl,f0,f1,f2,f6,f7,f8,hB,hI⟩ JJ hJJ;have hP2:=x8.keep _ _ M4 hI.2.2.2;have K1:q<st2.next:=by have:=hI.2.2.2.1;omega
  by_cases u9:a+20<=L
  .have S8:(a:Int)+20<=L:=oO;have hc:=RY q L v8 GK Pc x8 oO D a (a+20) st2 hI.1 oO u9 hP2 K1 hI.2.2.1;have w1:IntKind.i64.wrap ((a:Int)+20+20)=((a+20+20:Nat):Int):=zW
   (repeat' (first|apply qS|apply qB|refine qK (zZ ?_)|(apply qC;simp[f0,f1,f2,f7,f8,S8])|(refine zE ?_;intro J hJ;simp[f0,f1,f2,f7,f8,S8];(try refine zJ hJ ?_))))
   refine qE hc sS ?_;rintro r s3 ⟨D',k1,k2,k3⟩
   (repeat' (first|apply qS|((first|(refine zE ?_;intro J hJ)|(apply cD));simp[f8,f6,w1];refine zJ hJ ?_)))
   exact hJJ (L-(a+20)) _ _ oO ⟨t+1,a+20,D',oO,u9,rfl,sF1 f0,sF1 f1,sF1 f2,sF1 f6,sS,sS,hB.ext k2 oO ht,hI.step k2 k1 k3⟩
  clear hJJ;have S8:¬(a:Int)+20<=L:=oO;have hc:=RY q L v8 GK Pc x8 oO D a L st2 hI.1 ha (aAl _) hP2 K1 hI.2.2.1
  (repeat' (first|apply qS|refine qX (zZ ?_)|(apply qC;simp[f0,f1,f2,f7,f8,S8])|(refine zE ?_;intro J hJ;simp[f0,f1,f2,f7,f8,S8];(try refine zJ hJ ?_))))
  refine qE hc sS ?_;rintro r s3 ⟨D',k1,k2,k3⟩;have Z5:=hB.ext k2 oO ht;have hI2:=hI.step k2 k1 k3
  (repeat' (first|apply qB|(apply cD;simp[];refine zJ hJ ?_)))
  refine qL (fun z fr st2=>∃(s:Nat) (D:List (CM D0)),0<s/\s<=200040/\z=L-s/\fr 0=.ms q 0 L/\fr 1=i L/\fr 2=.fn (.func v8) GK/\fr 6=i s/\Bs s 0 L D/\AO D0 q L st st2 D) (L-20) ?_ ?_
  .exact⟨20,D',oO,oO,rfl,sF1 f0,sF1 f1,sF1 f2,sF1 f6,Z5,hI2⟩
  clear Z5 hI2 k1 k2 k3 hc hI hB f0 f1 f2 f6 f7 f8 hP2 K1 u9 S8 ht ha fr;rintro z fr F9 ⟨s,D,hs0,V5,rfl,f0,f1,f2,f6,hB,hI⟩ JJ hJJ;by_cases dQ:s<L;rotate_left
  .clear hJJ;have C7:¬(s:Int)<L:=oO;refine xw4 f1 f6 dQ C7 ?_;exact⟨trivial,D,hI.2.1,hB.all oO hI.1,hI.2.2⟩
  have C7:(s:Int)<L:=oO;have w2:IntKind.i64.wrap (2*(s:Int))=((2*s:Nat):Int):=zW;have w2':IntKind.i64.wrap ((s:Int)*2)=((2*s:Nat):Int):=by rw[vO _ oO oO];omega
  obtain⟨s2,X2⟩:∃ s2:Nat,s2=2*s:=⟨_,rfl⟩;rw[<- X2]at w2 w2';refine xw5 f1 f6 dQ C7 w2 ?_;refine qL (fun z fr st2=>∃(t a:Nat) (D:List (CM D0)),a=s2*t/\a<=L/\z=L-a/\fr 0=.ms q 0 L/\fr 1=i L/\fr 2=.fn (.func v8) GK/\fr 6=i s/\fr 7=i a/\fr 8=i (a+s2:Nat)/\Bs s2 0 a D/\Bs s a L D/\AO D0 q L st st2 D) L ?_ ?_
  .exact⟨0,0,D,oO,oO,rfl,sF1 f0,sF1 f1,sF1 f2,sF1 f6,sS,sS,fun j k _ _ h=>by omega,hB,hI⟩
  clear f0 f1 f2 f6 hB hI fr D;rintro z fr st4 ⟨t,a,D,ht,ha,rfl,f0,f1,f2,f6,f7,f8,hB,hR,hI⟩ J2 S5;have hP4:=x8.keep _ _ M4 hI.2.2.2;have hq4:q<st4.next:=by have:=hI.2.2.2.1;omega
  have e0:s*(2*t)=a:=by rw[ht,X2,aBT 2 s,Nat.mul_assoc]
  have e1:s*(2*t+1)=a+s:=by rw[Nat.mul_succ,e0]
  have w3:IntKind.i64.wrap ((a:Int)+s)=((a+s:Nat):Int):=zW;obtain⟨m,hm⟩:∃ m:Nat,m=a+s:=⟨_,rfl⟩;rw[<- hm]at w3;by_cases u9:a+s2<=L
  .have S8:(a:Int)+s2<=L:=oO;have hc:=RP q L v8 GK Pc x8 hl D a m (a+s2) st4 hI.1 oO oO u9 (fun j k h1 h2 h3=>hR.block e0 (aAl _) h1 h2 oO oO) (fun j k h1 h2 h3=>hR.block e1 oO oO h2 oO oO) hP4 hq4 hI.2.2.1;have w1:IntKind.i64.wrap ((a:Int)+s2+s2)=((a+s2+s2:Nat):Int):=zW
   (repeat' (first|apply qS|apply qB|refine qK (zZ ?_)|(apply qC;simp[f0,f1,f2,f6,f7,f8,S8,w3])|(refine zE ?_;intro J hJ;simp[f0,f1,f2,f6,f7,f8,S8,w3];(try refine zJ hJ ?_))))
   refine qE hc sS ?_;rintro r s3 ⟨D',k1,k2,k3⟩
   (repeat' (first|apply qS|((first|(refine zE ?_;intro J hJ)|(apply cD));simp[f8,f6,w2,w1];refine zJ hJ ?_)))
   exact S5 (L-(a+s2)) _ _ oO ⟨t+1,a+s2,D',by rw[Nat.mul_succ];omega,u9,rfl,sF1 f0,sF1 f1,sF1 f2,sF1 f6,sS,sS,hB.ext k2 oO ht,hR.rest k2 oO,hI.step k2 k1 k3⟩
  clear S5;have S8:¬(a:Int)+s2<=L:=oO;have u7:∀ c7 st5 (D':List (CM D0)),c7 0=.ms q 0 L/\c7 1=i L/\c7 2=.fn (.func v8) GK/\c7 6=i s2->Bs s2 0 L D'->AO D0 q L st st5 D'->JJ c7 st5:=by rintro c7 st5 D' ⟨g0,g1,g2,g6⟩ h1 h2;exact hJJ (L-s2) _ _ oO ⟨s2,D',oO,oO,rfl,g0,g1,g2,g6,h1,h2⟩
  by_cases J4:m<L
  .have hml':(m:Int)<L:=oO;have hc:=RP q L v8 GK Pc x8 hl D a m L st4 hI.1 oO J4 (aAl _) (fun j k h1 h2 h3=>hR.block e0 (aAl _) h1 h2 oO oO) (fun j k h1 h2 h3=>hR.block e1 oO oO h2 oO oO) hP4 hq4 hI.2.2.1
   (repeat' (first|apply qS|refine qX (zZ ?_)|(apply qC;simp[f0,f1,f2,f6,f7,f8,S8,w3,J4,hml'])|(refine zE ?_;intro J hJ;simp[f0,f1,f2,f6,f7,f8,S8,w3,J4,hml'];(try refine zJ hJ ?_))))
   refine qE hc sS ?_;rintro r s3 ⟨D',k1,k2,k3⟩
   (repeat' ((first|(refine zE ?_;intro J hJ)|(apply cD));simp[f6,w2'];refine zJ hJ ?_))
   exact u7 _ _ D' ⟨sF1 f0,sF1 f1,sF1 f2,sS⟩ (hB.ext k2 oO ht) (hI.step k2 k1 k3)
  .have hml':¬(m:Int)<L:=oO;refine Wo f0 f1 f2 f6 f7 f8 S8 w3 J4 hml' w2' ?_;refine u7 _ _ D ⟨sF1 f0,sF1 f1,sF1 f2,sS⟩ (fun j k h0 X9 hk he=>?_) hI;rcases aAK k a with h1|h1
   .exact hB j k h0 X9 h1 he
   .rcases aAK j a with h2|h2
    .have h3:j / s2<t:=aEo oO;have h4:t<=k / s2:=(aEd oO).2 (by rw[aBT];omega);omega
    .exact hR.block e0 (aAl _) h2 X9 oO hk
def Aw.JC:=DG.1
def Aw.U.JC:=DG.2
namespace Aw
open Go Go.RowKit Pl
theorem Lz(x y:Int)(st:St):aB prog 77 [u x,u y] st fun r st'=>r=i (if x<y then -1 else if y<x then 1 else 0)/\st'=st:=by
 refine zN func77 ntmps77 [.tmp 4] ?_
 (refine xj0 ?_;intro J hJ)
 refine qF (isNaN x _) ?_;rintro r st' ⟨rfl,rfl⟩
 (refine nJ hJ ?_;intro J hJ)
 refine qF (isNaN y _) ?_;rintro r st' ⟨rfl,rfl⟩;by_cases h1:x<y
 .exact MZ hJ h1
 .by_cases h2:y<x
  .exact XU hJ h1 h2
  .exact XU hJ h1 h2
theorem Es(a:List Int)(t:Nat)(st:St)(hl:a.length<=100000):
 aB prog 20 [.sl t a.length (us a)] st fun r st'=>∃ l,r=.ms l 0 a.length/\st.next<=l/\l<st'.next/\st'.H l=.box 34 1 (us a)/\aA st st':=by
 refine jH 34 1 ?_;have E4:=Im a;refine zN func20 ntmps20 [.tmp 2] ?_
 (repeat' (first|apply qS|refine qK (zZ ?_)|(refine qR (zZ ?_);simp[E4])|(apply qC;simp[E4])|(refine w_e [5] ?_;intro J hJ;simp only[];simp[E4];(repeat refine ca ?_);((try with_reducible refine⟨?_,?_⟩)<;>(try with_reducible intro u6)<;>refine zJ hJ ?_<;>clear hJ J<;>try subst u6))))
 .exact(aA.new _ _).trans (aA.new _ _)
 .exact aA.new _ _
theorem SX(l:List Ed)(t:Nat)(st:St)(hl:l.length<=100000):
 aB prog 19 [.sl t l.length (eds l)] st fun r st'=>∃ q,r=.ms q 0 l.length/\st.next<=q/\q<st'.next/\st'.H q=.box 36 3 (eds l)/\aA st st':=by
 have E4:=Kf l;have hel:=aJ l;refine jH 36 3 ?_;refine zN func19 ntmps19 [.tmp 2] ?_
 (repeat' (first|apply qS|refine qK (zZ ?_)|(refine qR (zZ ?_);simp[E4,hel])|(apply qC;simp[E4,hel])|(refine w_e [5] ?_;intro J hJ;simp only[];simp[E4,hel];(repeat refine ca ?_);((try with_reducible refine⟨?_,?_⟩)<;>(try with_reducible intro u6)<;>refine zJ hJ ?_<;>clear hJ J<;>try subst u6))))
 .exact(aA.new _ _).trans (aA.new _ _)
 .exact aA.new _ _
def VF(v8:FuncId)(GK:List LV)(Pc:St->Prop):Prop:=(∀ st st',Pc st->aA st st'->Pc st')/\∀ st x y,Pc st->aB prog v8 ([u x,u y]++GK) st fun r st'=>r=bb (decide (x=y))/\aA st st'
def VC(v8:FuncId)(GK:List LV)(Pc:St->Prop):Prop:=(∀ st st',Pc st->aA st st'->Pc st')/\∀ st x y,Pc st->aB prog v8 ([.ag (edL x),.ag (edL y)]++GK) st fun r st'=>r=bb (decide (x.id=y.id))/\aA st st'
theorem RZ(c:List Ed)(q:Nat)(v8:FuncId)(GK:List LV)(Pc:St->Prop)(st:St)(heq:VC v8 GK Pc)(M4:Pc st)(hl:c.length<=100000)(Zy:∀ j,j+1<c.length->(c.getD (j+1) ed0).id≠(c.getD j ed0).id)(hq:q<st.next)(hH:st.H q=.box 36 3 (eds c)):
 aB prog 82 [.ms q 0 c.length,.fn (.func v8) GK] st fun r st'=>r=.ms q 0 c.length/\aA st st':=by
 have hel:=aJ c;refine zN func82 ntmps82 [.tmp 4] ?_;by_cases h2:c.length<2
 .have h2':(c.length:Int)<2:=oO;refine xw2 h2' h2 ?_;exact aA.refl _
 have h2':¬(c.length:Int)<2:=oO;refine xw2 h2' h2 ?_;refine qL (fun z fr st2=>∃ k:Nat,0<k/\k<=c.length/\z=c.length-k/\fr 0=.ms q 0 c.length/\fr 1=.fn (.func v8) GK/\fr 5=i k/\aA st st2) (c.length-1) ?_ ?_
 .exact⟨1,oO,oO,rfl,sS,sS,sS,aA.refl _⟩
 rintro z fr st2 ⟨k,J8,hkl,rfl,f0,f1,f5,j5⟩ JJ hJJ;by_cases dQ:k<c.length;rotate_left
 .clear hJJ;refine xw3 f0 f5 dQ ?_;exact j5
 obtain⟨k1,rfl⟩:∃ k1,k=k1+1:=⟨k-1,oO⟩;have hd:=aP c (k1+1) dQ;have z7:=aP c k1 oO;have w1:IntKind.i64.wrap (k1:Int)=(k1:Int):=zW;have w2':IntKind.i64.wrap ((k1:Int)+1+1)=(k1:Int)+1+1:=wrap_i64 _ oO oO;have hkl1:k1<c.length:=oO;have C7:(k1:Int)+1<c.length:=oO;have hn:=Zy k1 dQ;have Q4:=(j5.H q hq).trans hH;have hc:=heq.2 st2 (c.getD (k1+1) ed0) (c.getD k1 ed0) (heq.1 _ _ M4 j5);rw[aBC hn]at hc;generalize c.getD (k1+1) ed0=x at *;generalize c.getD k1 ed0=y at *;obtain⟨xi,xa,xb⟩:=x;obtain⟨yi,ya,yb⟩:=y;simp only at hd z7 hn;refine xw4 f0 f5 dQ C7 ?_
 (refine zS [] [q] [0,2,4,6,8,10,12,14,16,18,21] ?_;intro J hJ;simp[f0,f1,f5,dQ,C7,hd,z7,w1,hkl1,Q4,hel];(repeat refine ca ?_))
 refine aO hc ?_;rintro r s3 ⟨rfl,o9⟩;have hH3:=(o9.H q (aAs hq j5.next)).trans Q4;refine⟨fun _=>by simp[hH3,Q4],?_⟩
 (apply bL;simp[hH3,Q4];refine zJ hJ ?_)
 refine xw2 f5 w2' ?_;exact hJJ (c.length-(k1+1+1)) _ _ oO ⟨k1+1+1,oO,oO,rfl,sF1 f0,sF1 f1,sS,j5.trans o9⟩
structure Sh where
 L:List (Int×Int)
 on:List Int
 F:List (List Int)
def dA(w:List Int):List Int:=(w.drop 1).take (w.length-2)
def gJ(h:Sh)(w:List Int)(at':Nat):Sh:=
 ⟨jV h.L w,h.on++w,h.F.set at' (iS (h.F.getD at' []) ((h.F.getD at' []).idxOf (w.getD 0 0)) ((h.F.getD at' []).idxOf (w.getD (w.length-1) 0))++(dA w).reverse)++
   [iS (h.F.getD at' []) ((h.F.getD at' []).idxOf (w.getD (w.length-1) 0)) ((h.F.getD at' []).idxOf (w.getD 0 0))++dA w]⟩
theorem Fk(vs:List Int):∀(F:List (List Int)) (k:Nat) (R:List Int),k<F.length->(gQ vs F).take (k*2)++([.sl 0 R.length (us R),wv (mk vs R)]++(gQ vs F).drop (k*2+2))=gQ vs (F.set k R)
 |r::F,0,R,_=>by simp[gQ]
 |r::F,k+1,R,h=>by
  have:=Fk vs F k R (by grind)
  grind [gQ]
 |[],k,R,h=>by grind
theorem MU(vs:List Int)(F:List (List Int))(R:List Int):gQ vs F++[.sl 0 R.length (us R),wv (mk vs R)]=gQ vs (F++[R]):=by simp[gQ]
theorem GG{r:List Int}{i j:Nat}{v:Int}(h:v∈iS r i j):v∈r:=by
 have:=aDA (aCi h)
 grind
theorem mG{w:List Int}{v:Int}(h:v∈dA w):v∈w:=aDA (aCi h)
theorem tL(w:List Int):(dA w).length=w.length-2:=by grind [dA]
theorem UW(w:List Int):((us w).drop 1).take (w.length-1-1)=us (dA w):=by
 grind [dA,List.map_drop,List.map_take]
structure KM(M:List Nat)(a b:St):Prop where
 next:a.next<=b.next
 H:∀ l,l<a.next->l∉M->b.H l=a.H l
theorem KM.keeps{M:List Nat}{a b c:St}(h:KM M a b)(k:aA b c):KM M a c:=⟨aBg h.next k.next,fun l hl hm=>(k.H l (aAs hl h.next)).trans (h.H l hl hm)⟩
theorem KM.set{M:List Nat}{a b:St}(h:KM M a b){q:Nat}(hq:a.next<=q\/q∈M)(o:cN):KM M a (b.set q o):=⟨h.next,fun l hl hm=>by
 rw[bR,aAa (by grind)];exact h.H l hl hm⟩
theorem KM.of{M:List Nat}{a b:St}(h:aA a b):KM M a b:=⟨h.next,fun l hl _=>h.H l hl⟩
theorem B4{g:Gr}(hg:GP g){h:Sh}{S nl pl ll fl:Nat}{le:List (List Int×LV)}{st:St}(hS:ShA g h.L h.on h.F S nl pl ll fl le st){w:List Int}{at':Nat}(O7:at' < h.F.length)(F0:2<=w.length)(hwl:w.length<=200)(hwv:∀ v∈w,v∈g.vs)
 (hrl:(h.F.getD at' []).length<=1000) (h1:w.getD 0 0∈h.F.getD at' []) (h2:w.getD (w.length-1) 0∈h.F.getD at' []) (hfew:h.F.length<300) (E0:0<st.next):
 aB prog 102 [.pt S 0,.sl 0 w.length (us w),i at'] st fun _ st'=>∃ fl' le',ShA g (gJ h w at').L (gJ h w at').on (gJ h w at').F S nl pl ll fl' le' st'/\(fl'=fl\/st.next<=fl')/\KM [S,ll,fl] st st':=by
 have h64:=hg.h64;have hn:g.vs.Nodup:=hg.toGoodE.toGood.nodup;have G2:=hS.r.box;have hF:=hS.fac;have dQ:=hS.r.lt;have hflt:=hS.flt;have T6:=oI g.vs h.F;have hd:=rM g.vs h.F at' O7;have hrv:∀ v∈h.F.getD at' [],v∈g.vs:=hS.sub _ (by grind);have u5:at' * 2<h.F.length*2:=oO;have hati:(at':Int)<h.F.length:=oO;have hsetF:=fun R=>Fk g.vs h.F at' R O7;unfold gJ;generalize hr:h.F.getD at' []=r at *;have hd0:=qG w 0 oO;have Y0:=qG w (w.length-1) oO;have hh0:hdL (us w)=u (w.getD 0 0):=by rw[show us w=(us w).drop 0 from rfl,hd0];rfl
 have g1:=sO h1;have g2:=sO h2;have hi1:=aAR h1;have hi2:=aAR h2;have hmid:(us w).tail.take (dA w).length=us (dA w):=by have:=UW w;rw[tL,show w.length-2=w.length-1-1 by omega,<- List.drop_one];exact this
 have hml2:w.length-1-1=(dA w).length:=by rw[tL];omega
 have J4:=tL w;have hmm:∀ v∈dA w,v∈g.vs:=fun v hv=>hwv v (mG hv);have hwi:IntKind.i64.wrap ((w.length:Int)-1)=((w.length-1:Nat):Int):=zW;generalize w.getD 0 0=x0 at *;generalize w.getD (w.length-1) 0=xl at *;generalize r.idxOf x0=i0 at *;generalize r.idxOf xl=il at *;have hw0:(0:Int)<w.length:=oO;have K3:((w.length-1:Nat):Int)<w.length:=oO;have hw3:w.length-1<w.length:=oO;have hw4:0<w.length:=oO;refine zN func102 ntmps102 [] ?_
 (refine UE G2 hF hd u5 hati O7 T6 hw0 hw4 hh0 ?_;intro J hJ)
 refine qE (Index r 0 x0 _ (by unfold small;omega)) sS ?_;rintro v s1 ⟨rfl,e1⟩;rw[e1];clear e1 s1;have hms:((w.length-1:Nat):Int)=(w.length:Int)-1:=oO;have hm1:(1:Int)<=((w.length-1:Nat):Int):=oO;have hm2:1<=w.length-1:=oO
 (refine Ya hJ g1 hwi K3 hw3 Y0 ?_;intro J hJ)
 refine qE (Index r 0 xl _ (by unfold small;omega)) sS ?_;rintro v s1 ⟨rfl,e1⟩;rw[e1];clear e1 s1;generalize dA w=m at *;have hmle:m.length<=200:=oO
 (refine A4 hJ g2 hwi K3 hw3 hm1 hm2 hml2 hmid ?_;intro J hJ)
 refine qE (Es m 0 _ oO) sS ?_;rintro v s1 ⟨q,rfl,q1,q2,hq,j7⟩
 (refine nJ hJ ?_;intro J hJ)
 refine qE (yQ m q s1 (by unfold small;omega) hq) sS ?_;rintro v s2 e2;have hk2':aA st s2:=by rw[e2];exact j7.set q1 _
 have K2:s1.next=s2.next:=by rw[e2];rfl
 have K1:s2.H q=.box 34 1 (us m.reverse):=by rw[e2];simp
 clear e2 j7 hq;have hS2:=hS.keep hk2';have n0:¬pl=ll:=fun e=>by have h3:=hS.r.plc;rw[e,hS.r.lin]at h3;cases h3
 (refine nJ hJ ?_;intro J hJ)
 refine qE (Qq hS2.r.box hS2.r.plc hS2.r.lin hS2.r.key n0 hn h64 w 0 hwv oO) sS ?_;rintro v s3 ⟨le',e3,E9⟩;have hn3:s3.next=s2.next:=by rw[e3];rfl
 have m1:¬fl=S:=fun e=>by simp_all
 have m2:¬fl=ll:=fun e=>by have h3:=hS.fac;rw[e,hS.r.lin]at h3;cases h3
 have m3:¬ll=S:=fun e=>by have h3:=hS.r.lin;rw[e,hS.r.box]at h3;cases h3
 have m4:¬nl=S:=fun e=>by have h3:=hS.r.near;rw[e,hS.r.box]at h3;cases h3
 have m5:¬nl=ll:=fun e=>by have h3:=hS.r.near;rw[e,hS.r.lin]at h3;cases h3
 have m6:¬nl=fl:=fun e=>by have h3:=hS.r.near;rw[e,hS.fac]at h3;cases h3
 have m7:¬pl=S:=fun e=>by have h3:=hS.r.plc;rw[e,hS.r.box]at h3;cases h3
 have m8:¬pl=fl:=fun e=>by have h3:=hS.r.plc;rw[e,hS.fac]at h3;cases h3
 have hn2':=hk2'.next;have hSb3:s3.H S=.box 136 7 [.sl 0 g.vs.length (us g.vs),.sl 0 g.es.length (eds g.es),.ms nl 0 g.vs.length,.mp pl,.mp ll,wv (mk g.vs (h.on++w)),.ms fl 0 h.F.length]:=by rw[e3];simp
 have hP3:s3.H pl=.map false [.u32] (wO g.vs):=by rw[e3];simp[m7,n0,hS2.r.plc]
 have hL3:s3.H ll=.map true [.u32,.u32] le':=by rw[e3];simp[m3]
 have hN3:s3.H nl=.box 133 1 (lW g):=by rw[e3];simp[m4,m5,hS2.r.near]
 have hF3:s3.H fl=.box 144 2 (gQ g.vs h.F):=by rw[e3];simp[m1,m2,hS2.fac]
 have hq3:s3.H q=.box 34 1 (us m.reverse):=by rw[e3];simp[show ¬q=S by omega,show ¬q=ll by omega,K1]
 have hK3:KM [S,ll,fl] st s3:=by rw[e3];exact((KM.of hk2').set (.inr sS) _).set (.inr sS) _
 clear e3 hS2 K1;have hb3:ShB g.vs S pl s3:=⟨⟨_,_,_,_,_,_,hSb3⟩,hP3⟩
 (apply cD;simp[];(refine zJ hJ ?_;clear hJ J))
 (repeat (apply qS))
 (refine zS [] [S] [0,2,4,6,8,10,12,14,16,20,18,22,24,26,29] ?_;intro J hJ;simp[hSb3])
 refine qD (XN r i0 il s3 hi1 hi2 hrl oO) sS ?_;rintro v s4 ⟨⟨t,rfl,t0,t1,t2,tH⟩,F5⟩;refine⟨fun _ l hl=>?_,?_⟩
 .rw[aAi]at hl;rw[hl];exact F5.H S oO
 have hal:=BX r i0 il hi1 hi2;have hsl:=yY hi1 hi2;have W8:=F5.next;have hq4:=(F5.H q oO).trans hq3;have c1:¬q=t:=oO;have c2:¬t=q:=oO;have hAv:∀ v∈iS r i0 il++m.reverse,v∈g.vs:=fun v hv=>by rw[aAd,aBh]at hv;exact hv.elim (fun h=>hrv v (GG h)) (hmm v)
 have hSb4:=(F5.H S oO).trans hSb3;have hP4:=(F5.H pl oO).trans hP3;have hF4:=(F5.H fl oO).trans hF3;generalize iS r i0 il=A1 at *
 (apply bL;simp[tH,t0,hq4,c1,c2];(repeat refine ca ?_))
 have c3:¬S=s4.next:=oO;have c4:¬S=t:=oO;refine⟨(aAa c3).trans ((aAa c4).trans (F5.H S oO)),?_⟩;have hk4':aA s3 ((s4.set t cN.dead).new (.own 34 1 (A1.length+m.length))):=(F5.set t1 _).trans (aA.new _ _);have hn4':((s4.set t cN.dead).new (.own 34 1 (A1.length+m.length))).next=s4.next+1:=sS;generalize hs5:(s4.set t cN.dead).new (.own 34 1 (A1.length+m.length))=s5 at *;have hSb5:=(hk4'.H S oO).trans hSb3;have hP5:=(hk4'.H pl oO).trans hP3;have hF5:=(hk4'.H fl oO).trans hF3;refine qD (RO (vs:=g.vs) (S:=S) (pl:=pl) ⟨⟨_,_,_,_,_,_,hSb5⟩,hP5⟩ oO oO hn h64 (A1++m.reverse) s4.next hAv (by simp;omega)) sS ?_;rintro v s6 ⟨rfl,e6⟩;rw[e6];clear e6 s6;refine⟨fun _ l hl=>?_,?_⟩
 .rw[aAi]at hl;rw[hl];exact hk4'.H S oO
 (apply bL;simp[hF5,O7,hati,u5,T6];(repeat refine ca ?_);(refine zJ hJ ?_;clear hJ J))
 have hcell:(gQ g.vs h.F).take (at' * 2)++LV.sl 0 (A1.length+m.length) (List.map u A1++(List.map u m).reverse)::wv (mk g.vs (A1++m.reverse))::(gQ g.vs h.F).drop (at' * 2+2)=gQ g.vs (h.F.set at' (A1++m.reverse)):=by have:=hsetF (A1++m.reverse);simpa using this
 rw[hcell];clear hcell;have hFl:(h.F.set at' (A1++m.reverse)).length=h.F.length:=sS;have hFs:∀ r∈h.F.set at' (A1++m.reverse),∀ v∈r,v∈g.vs:=fun r hr v hv=>by
  rcases List.mem_or_eq_of_mem_set hr with h1|h1
  .exact hS.sub r h1 v hv
  grind
 have hK5:KM [S,ll,fl] st (s5.set fl (.box 144 2 (gQ g.vs (h.F.set at' (A1++m.reverse))))):=(hK3.keeps hk4').set (.inr sS) _;have hL5:=(hk4'.H ll oO).trans hL3;have hN5:=(hk4'.H nl oO).trans hN3;generalize hF':h.F.set at' (A1++m.reverse)=F1 at *;have n7:¬S=fl:=fun e=>m1 e.symm;have n8:¬ll=fl:=fun e=>m2 e.symm;generalize hs7:s5.set fl (.box 144 2 (gQ g.vs F1))=s7 at *;have hn7:s7.next=s5.next:=by rw[<- hs7];rfl
 have hSb7:s7.H S=.box 136 7 [.sl 0 g.vs.length (us g.vs),.sl 0 g.es.length (eds g.es),.ms nl 0 g.vs.length,.mp pl,.mp ll,wv (mk g.vs (h.on++w)),.ms fl 0 h.F.length]:=by rw[<- hs7,bR,aAa n7];exact hSb5
 have hP7:s7.H pl=.map false [.u32] (wO g.vs):=by rw[<- hs7,bR,aAa m8];exact hP5
 have hL7:s7.H ll=.map true [.u32,.u32] le':=by rw[<- hs7,bR,aAa n8];exact hL5
 have hN7:s7.H nl=.box 133 1 (lW g):=by rw[<- hs7,bR,aAa m6];exact hN5
 have hF7:s7.H fl=.box 144 2 (gQ g.vs F1):=by rw[<- hs7];simp
 clear hs7 hSb5 hP5 hF5 hL5 hN5 hSb4 hP4 hF4 hSb3 hP3 hF3 hL3 hN3 hk4' F5 hs5 tH t0 t1 t2 hq4 hq3 hb3;have hFl7:=oI g.vs F1
 (repeat (apply qS))
 (refine zS [] [S] [0,2,4,6,8,10,12,14,16,20,18,22,24,26,29,30,32,35] ?_;intro J hJ;simp[hSb7])
 refine qD (XN r il i0 s7 hi2 hi1 hrl oO) sS ?_;rintro v s8 ⟨⟨t',rfl,t0,t1,t2,tH⟩,hk8⟩;refine⟨fun _ l hl=>?_,?_⟩
 .rw[aAi]at hl;rw[hl];exact hk8.H S oO
 have hal2:=BX r il i0 hi2 hi1;have hsl2:=yY hi2 hi1;have hn8:=hk8.next;have d1:¬S=s8.next:=oO;have d2:¬S=t':=oO;have hBv:∀ v∈iS r il i0++m,v∈g.vs:=fun v hv=>by rw[aAd]at hv;exact hv.elim (fun h=>hrv v (GG h)) (hmm v)
 generalize iS r il i0=A2 at *
 (apply bL;simp[tH,t0];(repeat refine ca ?_))
 refine⟨(aAa d1).trans ((aAa d2).trans (hk8.H S oO)),?_⟩;have hk8':aA s7 ((s8.set t' cN.dead).new (.own 34 1 (A2.length+m.length))):=(hk8.set t1 _).trans (aA.new _ _);have hn8':((s8.set t' cN.dead).new (.own 34 1 (A2.length+m.length))).next=s8.next+1:=sS;generalize hs9:(s8.set t' cN.dead).new (.own 34 1 (A2.length+m.length))=s9 at *;have hSb9:=(hk8'.H S oO).trans hSb7;have hP9:=(hk8'.H pl oO).trans hP7;have hF9:=(hk8'.H fl oO).trans hF7;have hL9:=(hk8'.H ll oO).trans hL7;have hN9:=(hk8'.H nl oO).trans hN7;refine qD (RO (vs:=g.vs) (S:=S) (pl:=pl) ⟨⟨_,_,_,_,_,_,hSb9⟩,hP9⟩ oO oO hn h64 (A2++m) s8.next hBv (by simp;omega)) sS ?_;rintro v s6 ⟨rfl,e6⟩;rw[e6];clear e6 s6;refine⟨fun _ l hl=>?_,?_⟩
 .rw[aAi]at hl;grind
 have z1:¬fl=s9.next:=oO;have z2:¬S=s9.next:=oO;have z3:¬S=s9.next+1:=oO;have z4:¬s9.next=fl:=oO
 (apply bL;simp[hF9,hSb9,hFl,hFl7,z1,z2,z3,z4,n7,m1])
 refine⟨hSb7.symm,⟨oO,by unfold maxLen;omega⟩,hJ _ _ ?_⟩;clear hJ J;simp only[ak];have hfs:gQ g.vs F1++[LV.sl 0 (A2.length+m.length) (List.map u A2++List.map u m),wv (mk g.vs (A2++m))]=gQ g.vs (F1++[A2++m]):=by have:=MU g.vs F1 (A2++m);simpa using this
 have hFl2:(F1++[A2++m]).length=h.F.length+1:=by rw[aAm,hFl];rfl
 rw[hfs,<- hFl2];clear hfs;refine xw0 ?_;simp only[yA];have hs10:KM [S,ll,fl] st ((((s9.new (.own 144 2 1)).set fl .dead).new (.box 144 2 (gQ g.vs (F1++[A2++m])))).set S (.box 136 7 [.sl 0 g.vs.length (us g.vs),.sl 0 g.es.length (eds g.es),.ms nl 0 g.vs.length,.mp pl,.mp ll,wv (mk g.vs (h.on++w)),.ms (s9.next+1) 0 (F1++[A2++m]).length])):=by have:=(((hK5.keeps hk8').keeps (aA.new _ (.own 144 2 1))).set (q:=fl) (.inr sS) .dead);exact(this.keeps (aA.new _ _)).set (.inr sS) _
 refine⟨trivial,s9.next+1,le',⟨⟨sS,?_,?_,?_,E9,?_⟩,?_,sS,?_,?_,oO⟩,.inr oO,hs10⟩
 ·(repeat (first|rw[nHh nOo]|rw[sHh oO]|rw[nIi nQq]|rw[sIi oO]));omega
 ·(repeat (first|rw[nHh nOo]|rw[sHh oO]|rw[nIi nQq]|rw[sIi oO]));omega
 ·(repeat (first|rw[nHh nOo]|rw[sHh oO]|rw[nIi nQq]|rw[sIi oO]));omega
 .simp only[bH,aG];omega
 ·(repeat (first|rw[nHh nOo]|rw[sHh oO]|rw[nIi nQq]|rw[sIi oO]))
 .intro r hr v hv;rw[aAd,aAi]at hr;rcases hr with hr|hr
  .exact hFs r hr v hv
  .rw[hr]at hv;exact hBv v hv
 .intro v hv;rw[aAd]at hv;exact hv.elim (hS.onv v) (hwv v)
end Aw
end Go.Proofs.YtbgngpdonpeboaaGreatDoor
