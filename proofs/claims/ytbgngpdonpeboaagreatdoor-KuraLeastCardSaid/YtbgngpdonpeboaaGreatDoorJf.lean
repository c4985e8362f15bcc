/- T5 at edges and at numbers: written by gentt.py. -/
import Derived.Test.YtbgngpdonpeboaaGreatDoorJe
import Derived.Test.YtbgngpdonpeboaaGreatDoorAwRg
set_option linter.unusedVariables false
set_option linter.unusedSimpArgs false
set_option linter.defProp false
set_option maxHeartbeats 4000000
open Go.Proofs.Tryz
namespace Go.Proofs.YtbgngpdonpeboaaGreatDoor
open Go Go.RowKit Pl Aw
open Aw.U
theorem MG:(∀(P A:List Ed) (y:Ed) (S:List Ed) (q L p m:Nat) (v7:FuncId) (IQ:List LV) (Pc:St->Prop) (st:St) (z8:Aw.gU v7 IQ q Pc) (P8:Pc st) (hq:q<st.next) (hA:Ris A) (hA2:A.length≠1) (hL:(P++A++y::S).length=L) (hl:L<=100000) (hp:P.length=p) (hm:m=p+A.length) (hH:st.H q=.box 36 3 (eds (P++A++y::S))),
 aB prog 162 [.ms q 0 L,i p,i m,i (m+1:Nat),.fn (.func v7) IQ] st (FR P A [y] S q st))/\(∀(P A:List Nu) (y:Nu) (S:List Nu) (q L p m:Nat) (v7:FuncId) (IQ:List LV) (Pc:St->Prop) (st:St) (z8:Aw.U.gU v7 IQ q Pc) (P8:Pc st) (hq:q<st.next) (hA:Ris A) (hA2:A.length≠1) (hL:(P++A++y::S).length=L) (hl:L<=100000) (hp:P.length=p) (hm:m=p+A.length) (hH:st.H q=.box 34 1 (eds (P++A++y::S))),
 aB prog 160 [.ms q 0 L,i p,i m,i (m+1:Nat),.fn (.func v7) IQ] st (FR P A [y] S q st)):=by
 refine⟨?_,?_⟩
 all_goals
  intro P A y S q L p m v7 IQ Pc st z8 P8 hq hA hA2 hL hl hp hm hH;have hLl:L=p+A.length+(1+S.length):=by rw[<- hL,<- hp];simp only[aAn,List.length_cons];omega
  have e1:IntKind.i64.wrap ((m:Int)-p)=(A.length:Int):=zW;have e2:IntKind.i64.wrap ((m:Int)+1-m)=1:=zW;have e3:¬(A.length:Int)=1:=oO
  first|(have _:List Ed:=P;refine zN func162 ntmps162 [] ?_)|refine zN func160 ntmps160 [] ?_
  refine xw4 e1 e2 e3 hA2 ?_;refine qL (fun z fr st2=>∃ k v:Nat,k<=v/\v<=A.length/\z=v-k/\fr 0=.ms q 0 L/\fr 2=i m/\fr 4=.fn (.func v7) IQ/\fr 14=i (p+k:Nat)/\fr 15=i (p+v:Nat)/\(∀ j,j<k->(A.getD j ed0).id<=y.id)/\(∀ j,v<=j->j<A.length->y.id<(A.getD j ed0).id)/\st2.H q=bxo (P++A++y::S)/\bM q st st2) A.length ?_ ?_
  .exact⟨0,A.length,oO,aAm _,rfl,sS,sS,sS,sS,sF1 hm,fun j h=>by omega,fun j h1 h2=>by omega,hH,bM.refl _ _⟩
  rintro z fr st2 ⟨k,v,hkv,hvB,rfl,f0,f2,f4,f14,f15,h1,h2,hD,j9⟩ JJ hJJ;have hP3:=z8.keep _ _ P8 j9;have N7:q<st2.next:=by have:=j9.1;omega
  by_cases dG:k<v
  .obtain⟨s,hs⟩:∃ s:Nat,s=(p+k)+(p+v):=⟨_,rfl⟩;obtain⟨h,hh⟩:∃ h:Nat,p+h=s / 2:=⟨s / 2-p,oO⟩;have wA:IntKind.i64.wrap ((p:Int)+k+(p+v))=(s:Int):=zW;have wB:=AH s oO;obtain⟨ph,hph⟩:∃ ph:Nat,ph=p+h:=⟨_,rfl⟩;have wC:=Fi s ph oO;have wD:IntKind.i64.wrap (ph:Int)=(ph:Int):=zW;have wE:IntKind.i64.wrap ((ph:Int)+1)=((p+(h+1):Nat):Int):=zW;have g1:(P++A++y::S).getD m ed0=y:=FM _ _ _ (sF2 hp hm);have g2:(P++A++y::S).getD ph ed0=A.getD h ed0:=by
    (first|rw[show P++A++y::S=P++(A++y::S) by simp,show ph=P.length+h by omega,Aw.CY,Aw.rE _ _ _ oO]|rw[show P++A++y::S=P++(A++y::S) by simp,show ph=P.length+h by omega,Aw.U.CY,Aw.U.rE _ _ _ oO])
   have hgo:¬y.id<(A.getD h ed0).id->∀ j,j<h+1->(A.getD j ed0).id<=y.id:=fun h3 j hj=>by have:=jD hA (j:=j) (k:=h) oO oO;omega
   have I2:y.id<(A.getD h ed0).id->∀ j,h<=j->j<A.length->y.id<(A.getD j ed0).id:=fun h3 j hj hj2=>by have:=jD hA (j:=h) (k:=j) hj hj2;omega
   have hel:=aI (P++A++y::S);have da:=aL (P++A++y::S) m oO;have db:=aL (P++A++y::S) ph oO;rw[g1]at da;rw[g2]at db;rw[hL]at hel;have hfr:∀ c7 O0,O0.H q=st2.H q->bM q st O0->c7 0=.ms q 0 L/\c7 2=i m/\c7 4=.fn (.func v7) IQ->((¬y.id<(A.getD h ed0).id/\c7 14=i (p+(h+1):Nat)/\c7 15=i (p+v:Nat))\/(y.id<(A.getD h ed0).id/\c7 14=i (p+k:Nat)/\c7 15=i (p+h:Nat)))->JJ c7 O0:=by
    rintro c7 O0 k1 k2 ⟨k3,k4,k5⟩ (⟨k6,k7,k8⟩|⟨k6,k7,k8⟩)
    .exact hJJ (v-(h+1)) _ _ oO ⟨h+1,v,oO,hvB,rfl,k3,k4,k5,k7,k8,hgo k6,h2,k1.trans hD,k2⟩
    .exact hJJ (h-k) _ _ oO ⟨k,h,oO,oO,rfl,k3,k4,k5,k7,k8,h1,I2 k6,k1.trans hD,k2⟩
   clear hJJ hgo I2 h1 h2;have hcm:=z8.call st2 y (A.getD h ed0) hP3;have I0:=qZ y (A.getD h ed0);generalize hx:A.getD h ed0=x at *;generalize hc:P++A++y::S=c at *;generalize tP y x=cv at *;have hA4:ph<L:=oO;have hB4:m<L:=oO;have hkv':(p:Int)+k<p+v:=oO;refine xw8 f14 f15 hkv' dG wA wB wC wD ?_
   (refine zS [] [q] [0,2,4,6,8,10,12,14,16,19,20,22] ?_;intro J hJ;simp[f0,f2,f4,hD,da,db,hel];(repeat refine ca ?_))
   refine aN hcm ?_;rintro r s4 ⟨rfl,I3⟩;have hD4:=I3.H q N7;refine⟨fun _=>by simp[hD4,hD],?_⟩;by_cases K4:y.id<x.id
   .have hcv:cv<0:=by rw[aBQ K4]at I0;exact aCh I0
    (apply bI;simp[hcv,hD4,hD];refine zJ hJ ?_)
    refine xw0 ?_;exact hfr _ _ hD4 (j9.keeps I3) ⟨sF1 f0,sF1 f2,sF1 f4⟩ (.inr ⟨K4,sF1 f14,sF1 hph⟩)
   .have hcv:¬cv<0:=by rw[aCj K4]at I0;exact aCO I0
    (apply bI;simp[hcv,hD4,hD];refine zJ hJ ?_)
    refine xw1 wE ?_;exact hfr _ _ hD4 (j9.keeps I3) ⟨sF1 f0,sF1 f2,sF1 f4⟩ (.inl ⟨K4,sS,sF1 f15⟩)
  clear hJJ;obtain rfl:k=v:=oO;have hR:=EP hA hvB h1 (fun j hj hj2=>by have:=h2 j hj hj2;omega);clear h1 h2;refine xw3 f2 f14 f15 ?_;refine qL (fun z fr O0=>∃ t:Nat,k<=t/\t<=A.length/\z=t/\fr 0=.ms q 0 L/\fr 14=i (p+k:Nat)/\fr 17=i (p+t:Nat)/\O0.H q=bxo (P++A.take t++y::(A.drop t++S))/\bM q st O0) A.length ?_ ?_
  .exact⟨A.length,oO,oO,rfl,sF1 f0,sF1 f14,sF1 hm,by simp;rw[hD];simp,j9⟩
  clear f0 f2 f4 f14 f15 hD j9 hP3 N7 fr st2;rintro t fr st2 ⟨t0,hkt,htA,rfl,f0,f14,f17,hD,j9⟩ JJ hJJ;by_cases dG:k<t;rotate_left
  .clear hJJ;obtain rfl:t=k:=oO;have r8:¬((p:Int)+t<p+t):=oO;refine xw3 f14 f17 r8 ?_;refine⟨_,?_,hR,by rw[hD];simp,j9⟩;refine aBF.trans ?_;rw[aAE];exact(List.perm_append_singleton y A).symm
  obtain⟨t',rfl⟩:∃ t',t=t'+1:=⟨t-1,oO⟩;have hce:P++A.take (t'+1)++y::(A.drop (t'+1)++S)=(P++A.take t')++A.getD t' ed0::y::(A.drop (t'+1)++S):=by rw[Ph A t' oO];simp
  have hUl:(P++A.take t').length=p+t':=by simp[hp];omega
  have L0:(((P++A.take t')++A.getD t' ed0::y::(A.drop (t'+1)++S)).set (p+t'+1) (A.getD t' ed0)).set (p+t') y=P++A.take t'++y::(A.drop t'++S):=by rw[show(P++A.take t')++A.getD t' ed0::y::(A.drop (t'+1)++S)=(P++A.take t'++[A.getD t' ed0])++y::(A.drop (t'+1)++S) by simp];rw[NT _ _ _ _ (by simp[hp];omega)];rw[show(P++A.take t'++[A.getD t' ed0])++A.getD t' ed0::(A.drop (t'+1)++S)=(P++A.take t')++A.getD t' ed0::(A.getD t' ed0::(A.drop (t'+1)++S)) by simp];rw[NT _ _ _ _ hUl.symm,Ka A t' oO];simp
  have g1:=FM (P++A.take t') (A.getD t' ed0) (y::(A.drop (t'+1)++S)) (j:=p+t') hUl.symm;have g2:((P++A.take t')++A.getD t' ed0::y::(A.drop (t'+1)++S)).getD (p+t'+1) ed0=y:=by rw[show(P++A.take t')++A.getD t' ed0::y::(A.drop (t'+1)++S)=(P++A.take t'++[A.getD t' ed0])++y::(A.drop (t'+1)++S) by simp];exact FM _ _ _ (by simp[hp];omega)
  have o7:((P++A.take t')++A.getD t' ed0::y::(A.drop (t'+1)++S)).length=L:=by rw[<- hce];simp only[aAn,List.length_cons,aAw,aAT];omega
  rw[hce]at hD;generalize A.getD t' ed0=x at *;generalize hc:(P++A.take t')++x::y::(A.drop (t'+1)++S)=c at *;obtain⟨k1,c8⟩:∃ k1:Nat,k1=p+t':=⟨_,rfl⟩;rw[<- c8]at g1 g2 L0;have hel:=aI c;have da:=aL c k1 oO;have db:=aL c (k1+1) oO;rw[g1]at da;rw[g2]at db;rw[o7]at hel;have wG':IntKind.i64.wrap (k1:Int)=(k1:Int):=xN _ oO oO;have f17':fr 17=i ((k1:Int)+1):=by rw[f17,c8];simp;omega
  have hA4:k1+1<L:=oO;have hB4:k1<L:=oO;have hgt:(p:Int)+k<(k1:Int)+1:=oO;refine xw3 f14 f17' hgt ?_
  (refine zS [] [q] [0,2,4,6,8,10,12,14,16,18,20,22,24,26,28,31,32,35] ?_;intro J hJ;simp[f0,f17',hD,da,db,hel,o7,wG'];(repeat refine ca ?_);refine zJ hJ ?_)
  have e1:=jH c (k1+1) x oO;have e2:=jH (c.set (k1+1) x) k1 y (by simp;omega);rw[e1,e2,L0,St.set_set];refine xw2 f17' wG' ?_;exact hJJ t' _ _ oO ⟨t',oO,oO,rfl,sF1 f0,sF1 f14,by simp;omega,sS,j9.set _⟩
def Aw.ZF:=MG.1
def Aw.U.ZF:=MG.2
open Go Go.RowKit Pl Aw
open Aw.U
namespace Aw
def YN(P A1 B1 R:List Ed)(q:Nat)(st st2:St):Prop:=FR P A1 B1 R q st (.tu []) st2
end Aw
namespace Aw.U
def YN(P A1 B1 R:List Nu)(q:Nat)(st st2:St):Prop:=FR P A1 B1 R q st (.tu []) st2
end Aw.U
namespace Aw
theorem BL{P:Program}{N:Nat}{Q:AQ}{k:List gQ}{fr:Frm}{st:St}{x:Code}(I:Frm->St->Prop)(h1:AWp P N x (AK P N (fun e f s=>e=.normal/\I f s) []) fr st)(h2:∀ fr st,I fr st->AK P N Q k .normal fr st):AWp P N x (AK P N Q k) fr st:=by refine dH h1 ?_;rintro e c7 st' ⟨rfl,hI⟩;exact h2 _ _ hI
end Aw
theorem yD:(∀(q L:Nat) (v7:FuncId) (IQ:List LV) (Pc:St->Prop) (z8:Aw.gU v7 IQ q Pc) (hl:L<=100000),
 ∀(n:Nat) (P A B S:List Ed) (p m b:Nat) (st:St),A.length+B.length<=n->A≠[]->B≠[]->Ris A->Ris B->(P++A++B++S).length=L->P.length=p->m=p+A.length->b=m+B.length->Pc st->q<st.next->st.H q=.box 36 3 (eds (P++A++B++S))->
 aB prog 162 [.ms q 0 L,i p,i m,i b,.fn (.func v7) IQ] st (FR P A B S q st))/\(∀(q L:Nat) (v7:FuncId) (IQ:List LV) (Pc:St->Prop) (z8:Aw.U.gU v7 IQ q Pc) (hl:L<=100000),
 ∀(n:Nat) (P A B S:List Nu) (p m b:Nat) (st:St),A.length+B.length<=n->A≠[]->B≠[]->Ris A->Ris B->(P++A++B++S).length=L->P.length=p->m=p+A.length->b=m+B.length->Pc st->q<st.next->st.H q=.box 34 1 (eds (P++A++B++S))->
 aB prog 160 [.ms q 0 L,i p,i m,i b,.fn (.func v7) IQ] st (FR P A B S q st)):=by
 refine⟨?_,?_⟩
 all_goals
  intro q L v7 IQ Pc z8 hl;intro n;induction n with
  |zero=>intro P A B S p m b st hn hA;have:=aBi.2 hA;omega
  |succ n ih=>
  intro P A B S p m b st hn hA hB rA rB hL hp hm hb P8 hq hH;have hA0:=aBi.2 hA;have hB0:=aBi.2 hB;by_cases hA1:A.length=1
  .obtain⟨x,rfl⟩:∃ x,A=[x]:=aDw.1 hA1;have e:P++[x]++B++S=P++x::B++S:=sS;rw[e]at hH hL;subst hb;exact YW P x B S q L p m v7 IQ Pc st z8 P8 hq rB hL hl hp (by simpa using hm) hH
  by_cases V5:B.length=1
  .obtain⟨y,rfl⟩:∃ y,B=[y]:=aDw.1 V5;have e:P++A++[y]++S=P++A++y::S:=sS;rw[e]at hH hL;subst hb;exact ZF P A y S q L p m v7 IQ Pc st z8 P8 hq rA hA1 hL hl hp hm hH
  have hLl:L=p+A.length+B.length+S.length:=by rw[<- hL,<- hp];simp only[aAn]
  obtain⟨s,hs⟩:∃ s:Nat,s=p+b:=⟨_,rfl⟩;obtain⟨G7,hmid⟩:∃ G7:Nat,G7=s / 2:=⟨_,rfl⟩;obtain⟨nn,hnn⟩:∃ nn:Nat,nn=G7+m:=⟨_,rfl⟩;obtain⟨pp,hpp⟩:∃ pp:Nat,nn=pp+1:=⟨nn-1,oO⟩;have e1:IntKind.i64.wrap ((m:Int)-p)=(A.length:Int):=zW;have e2:IntKind.i64.wrap ((b:Int)-m)=(B.length:Int):=zW;have wA:IntKind.i64.wrap ((p:Int)+b)=(s:Int):=zW;have wB:=AH s oO;have wC:=Fi s G7 hmid;have wD:IntKind.i64.wrap (G7:Int)=(G7:Int):=zW;have wN:IntKind.i64.wrap ((G7:Int)+m)=(nn:Int):=zW;have wP:IntKind.i64.wrap ((nn:Int)-1)=(pp:Int):=zW;obtain⟨s0,hs0⟩:∃ s0:Nat,s0=if G7<m then nn-b else p:=⟨_,rfl⟩
  obtain⟨r0,hr0⟩:∃ r0:Nat,r0=if G7<m then G7 else m:=⟨_,rfl⟩
  have hsr:p<=s0/\s0<=r0/\r0<=m/\r0<=G7/\nn<=s0+b:=by
   by_cases h:G7<m
   .rw[aAj h]at hs0 hr0;omega
   .rw[aAa h]at hs0 hr0;omega
  first|(have _:List Ed:=P;refine zN func162 ntmps162 [] ?_)|refine zN func160 ntmps160 [] ?_
  (repeat' (first|apply qS|(refine zE ?_;intro J hJ;simp[e1];refine zJ hJ ?_)))
  (apply qC;simp[hA1];(try with_reducible refine⟨?_,?_⟩)<;>(try with_reducible intro hc)<;>try (exfalso;omega))
  (repeat' (first|apply qS|refine qK (zZ ?_)|(refine zE ?_;intro J hJ;simp[e2];refine zJ hJ ?_)))
  (apply qC;simp[V5];(try with_reducible refine⟨?_,?_⟩)<;>(try with_reducible intro hc)<;>try (exfalso;omega))
  (repeat' (first|apply qS|refine qK (zZ ?_)|(refine zE ?_;intro J hJ;simp[wA,wB,wC,wD,wN];refine zJ hJ ?_)))
  refine cD (fun fr st2=>fr 0=.ms q 0 L/\fr 1=i p/\fr 2=i m/\fr 3=i b/\fr 4=.fn (.func v7) IQ/\fr 18=i G7/\fr 19=i nn/\fr 20=i s0/\fr 21=i r0/\st2=st) ?_ ?_
  .by_cases h:G7<m
   .rw[aAj h]at hs0 hr0;have w1:IntKind.i64.wrap ((nn:Int)-b)=(s0:Int):=zW;refine xw3 h w1 hr0 ?_;simp[hr0]
   .rw[aAa h]at hs0 hr0;refine xw3 h hs0 hr0 ?_;simp[hs0,hr0]
  rintro fr st2 ⟨f0,f1,f2,f3,f4,f18,f19,f20,f21,rfl⟩
  (repeat' (first|apply qS|apply qB|(refine zE ?_;intro J hJ;simp[f19,wP];refine zJ hJ ?_)))
  refine qL (fun z fr O0=>∃ k v:Nat,s0<=k/\k<=v/\v<=r0/\z=v-k/\fr 0=.ms q 0 L/\fr 1=i p/\fr 2=i m/\fr 3=i b/\fr 4=.fn (.func v7) IQ/\fr 18=i G7/\fr 19=i nn/\fr 20=i k/\fr 21=i v/\fr 22=i pp/\(s0<k->(A.getD (k-1-p) ed0).id<=(B.getD (G7-k) ed0).id)/\(v<r0->(B.getD (G7-v-1) ed0).id<(A.getD (v-p) ed0).id)/\O0.H q=bxo (P++A++B++S)/\bM q st2 O0) (r0-s0) ?_ ?_
  .exact⟨s0,r0,aAm _,oO,aAm _,rfl,sF1 f0,sF1 f1,sF1 f2,sF1 f3,sF1 f4,sF1 f18,sF1 f19,sF1 f20,sF1 f21,sS,fun h=>by omega,fun h=>by omega,hH,bM.refl _ _⟩
  clear f0 f1 f2 f3 f4 f18 f19 f20 f21 fr;rintro z fr O0 ⟨k,v,N9,hkv,hv0,rfl,f0,f1,f2,f3,f4,f18,f19,f20,f21,f22,h1,h2,hD,j9⟩ JJ hJJ;have hP3:=z8.keep _ _ P8 j9;have hq3:q<O0.next:=by have:=j9.1;omega
  by_cases dG:k<v
  .obtain⟨s',Y6⟩:∃ s':Nat,s'=k+v:=⟨_,rfl⟩;obtain⟨c,hc⟩:∃ c:Nat,c=s' / 2:=⟨_,rfl⟩;obtain⟨d,hd⟩:∃ d:Nat,d=pp-c:=⟨_,rfl⟩;have w1:IntKind.i64.wrap ((k:Int)+v)=(s':Int):=zW;have w2:=AH s' oO;have w3:=Fi s' c hc;have w4:IntKind.i64.wrap (c:Int)=(c:Int):=zW;have w5:IntKind.i64.wrap ((pp:Int)-c)=(d:Int):=zW;have w6:IntKind.i64.wrap ((c:Int)+1)=((c+1:Nat):Int):=zW;have g1:(P++A++B++S).getD d ed0=B.getD (G7-c-1) ed0:=by
    (first|rw[show P++A++B++S=(P++A)++(B++S) by simp,show d=(P++A).length+(G7-c-1) by simp;omega,Aw.CY,Aw.rE _ _ _ oO]|rw[show P++A++B++S=(P++A)++(B++S) by simp,show d=(P++A).length+(G7-c-1) by simp;omega,Aw.U.CY,Aw.U.rE _ _ _ oO])
   have g2:(P++A++B++S).getD c ed0=A.getD (c-p) ed0:=by have h3:=CY P (A++(B++S)) (c-p);rw[rE A (B++S) (c-p) oO,hp,show p+(c-p)=c by omega]at h3;rw[<- h3];simp
   have hel:=aI (P++A++B++S);have da:=aL (P++A++B++S) d oO;have db:=aL (P++A++B++S) c oO;rw[g1]at da;rw[g2]at db;rw[hL]at hel;have hfr:∀ c7 st4,st4.H q=O0.H q->bM q st2 st4->(c7 0=.ms q 0 L/\c7 1=i p/\c7 2=i m/\c7 3=i b/\c7 4=.fn (.func v7) IQ/\c7 18=i G7/\c7 19=i nn/\c7 22=i pp)->((¬(B.getD (G7-c-1) ed0).id<(A.getD (c-p) ed0).id/\c7 20=i (c+1:Nat)/\c7 21=i v)\/((B.getD (G7-c-1) ed0).id<(A.getD (c-p) ed0).id/\c7 20=i k/\c7 21=i c))->JJ c7 st4:=by
    rintro c7 st4 k1 k2 ⟨k3,k4,k5,k6,k7,k8,k9,k10⟩ (⟨j1,j2,j3⟩|⟨j1,j2,j3⟩)
    .exact hJJ (v-(c+1)) _ _ oO ⟨c+1,v,oO,oO,hv0,rfl,k3,k4,k5,k6,k7,k8,k9,j2,j3,k10,fun _=>by rw[aCL,<- Nat.sub_sub];omega,h2,k1.trans hD,k2⟩
    .exact hJJ (c-k) _ _ oO ⟨k,c,N9,oO,oO,rfl,k3,k4,k5,k6,k7,k8,k9,j2,j3,k10,h1,fun _=>j1,k1.trans hD,k2⟩
   clear hJJ h1 h2;have hcm:=z8.call O0 (B.getD (G7-c-1) ed0) (A.getD (c-p) ed0) hP3;have I0:=qZ (B.getD (G7-c-1) ed0) (A.getD (c-p) ed0);generalize B.getD (G7-c-1) ed0=y at *;generalize A.getD (c-p) ed0=x at *;generalize hce:P++A++B++S=cc at *;generalize tP y x=cv at *;have hA4:d<L:=oO;have hB4:c<L:=oO;refine xw7 f20 f21 dG w1 w2 w3 w4 ?_
   (refine zS [] [q] [0,2,4,6,8,10,12,14,16,18,20,23,24,26] ?_;intro J hJ;simp[f0,f4,f22,hD,da,db,hel,w5];(repeat refine ca ?_))
   refine aN hcm ?_;rintro r s4 ⟨rfl,I3⟩;have hD4:=I3.H q hq3;refine⟨fun _=>by simp[hD4,hD],?_⟩;by_cases K4:y.id<x.id
   .have hcv:cv<0:=by rw[aBQ K4]at I0;exact aCh I0
    (apply bI;simp[hcv,hD4,hD];refine zJ hJ ?_)
    refine xw0 ?_;exact hfr _ _ hD4 (j9.keeps I3) ⟨sF1 f0,sF1 f1,sF1 f2,sF1 f3,sF1 f4,sF1 f18,sF1 f19,sF1 f22⟩ (.inr ⟨K4,sF1 f20,sS⟩)
   .have hcv:¬cv<0:=by rw[aCj K4]at I0;exact aCO I0
    (apply bI;simp[hcv,hD4,hD];refine zJ hJ ?_)
    refine xw1 w6 ?_;exact hfr _ _ hD4 (j9.keeps I3) ⟨sF1 f0,sF1 f1,sF1 f2,sF1 f3,sF1 f4,sF1 f18,sF1 f19,sF1 f22⟩ (.inl ⟨K4,sS,sF1 f21⟩)
  clear hJJ;obtain rfl:k=v:=oO;have hcut:Cut A B (k-p) (G7-k):=by
   refine⟨oO,oO,?_,?_⟩
   .by_cases h:s0<k
    .refine .inr (.inr ?_);have:=h1 h
     rwa [show k-1-p=k-p-1 by omega]at this
    .by_cases h3:G7<m
     .rw[aAj h3]at hs0;exact .inr (.inl oO)
     .rw[aAa h3]at hs0;exact .inl oO
   .by_cases h:k<r0
    .refine .inr (.inr ?_);have:=h2 h;omega
    .by_cases h3:G7<m
     .rw[aAj h3]at hr0;exact .inl oO
     .rw[aAa h3]at hr0;exact .inr (.inl oO)
  have hj:=fun C D=>Cut.join (C:=C) (D:=D) rA rB hcut;have rA1:Ris (A.take (k-p)):=aCY (List.take_sublist _ _) rA;have rA2:Ris (A.drop (k-p)):=aCY (List.drop_sublist _ _) rA;have rB1:Ris (B.take (G7-k)):=aCY (List.take_sublist _ _) rB;have rB2:Ris (B.drop (G7-k)):=aCY (List.drop_sublist _ _) rB;have lA1:(A.take (k-p)).length=k-p:=by rw[aAw];omega
  have lA2:(A.drop (k-p)).length=m-k:=by rw[aAT];omega
  have lB1:(B.take (G7-k)).length=G7-k:=by rw[aAw];omega
  have lB2:(B.drop (G7-k)).length=b-m-(G7-k):=by rw[aAT];omega
  have eA:=aAE (k-p) A;have eB:=aAE (G7-k) B;obtain⟨ed,hed⟩:∃ ed:Nat,ed=nn-k:=⟨_,rfl⟩;have wE:IntKind.i64.wrap ((nn:Int)-k)=(ed:Int):=zW;clear hcut h1 h2;generalize A.take (k-p)=A1 at *;generalize A.drop (k-p)=A2 at *;generalize B.take (G7-k)=B1 at *;generalize B.drop (G7-k)=B2 at *;have nz:∀ {l:List (Cn P)} {j:Nat},l.length=j->0<j->l≠[]:=fun h1 h2 h3=>by subst h3;simp at h1;omega
  have zz:∀ {l:List (Cn P)} {j:Nat},l.length=j->j=0->l=[]:=fun h1 h2=>aAK oO;have hD':O0.H q=bxo ((P++A1)++A2++B1++(B2++S)):=by rw[hD,<- eA,<- eB];simp
  have hL2:((P++A1)++A2++B1++(B2++S)).length=L:=by simp only[aAn];omega
  have hpA:(P++A1).length=k:=by simp only[aAn];omega
  clear hD;have z7:¬(k:Int)<k:=oO
  (repeat' (first|apply qS|(refine zE ?_;intro J hJ;simp[f20,f21];refine zJ hJ ?_)))
  (apply qC;simp[z7])
  refine qX (zZ ?_)
  (repeat (apply qS))
  (refine zE ?_;intro J hJ;simp[f19,f20,wE];refine zJ hJ ?_)
  (repeat (apply qS))
  refine BL (fun c7 st4=>(c7 0=.ms q 0 L/\c7 1=i p/\c7 2=i m/\c7 3=i b/\c7 4=.fn (.func v7) IQ/\c7 18=i G7/\c7 20=i k/\c7 24=i ed/\c7 185=bb (decide (k<m/\m<ed)))/\st4=O0) ?_ ?_
  .by_cases c1:k<m
   .by_cases c2:m<ed
    ·(refine zE ?_;intro J hJ;simp[f20,f2,c1,c2];refine zJ hJ ?_)
     simp[f0,f1,f2,f3,f4,f18,f20,c1,c2]
    ·(refine zE ?_;intro J hJ;simp[f20,f2,c1,c2];refine zJ hJ ?_)
     simp[f0,f1,f2,f3,f4,f18,f20,c1,c2]
   ·(refine zE ?_;intro J hJ;simp[f20,f2,c1];refine zJ hJ ?_)
    simp[f0,f1,f2,f3,f4,f18,f20,c1]
  clear f0 f1 f2 f3 f4 f18 f19 f20 f21 f22 fr;rintro fr st4 ⟨⟨f0,f1,f2,f3,f4,f18,f20,f24,f185⟩,rfl⟩;simp only[ak]
  (repeat (apply qS))
  refine cD (fun c7 st5=>(c7 0=.ms q 0 L/\c7 1=i p/\c7 3=i b/\c7 4=.fn (.func v7) IQ/\c7 18=i G7/\c7 20=i k/\c7 24=i ed)/\st5.H q=bxo (P++A1++B1++(A2++B2++S))/\bM q st2 st5) ?_ ?_
  .by_cases c:k<m/\m<ed
   .rw[aBQ c]at f185;have H6:=Qn (P++A1) A2 B1 (B2++S) q (.func v7) IQ st4 (nz lA2 oO) (nz lB1 oO) oO hD';rw[hpA,lA2,lB1,show k+(m-k)=m by omega,show m+(G7-k)=ed by omega,hL2]at H6;have e9:P++A1++B1++A2++(B2++S)=P++A1++B1++(A2++B2++S):=sS;rw[e9]at H6;generalize P++A1++B1++(A2++B2++S)=cc at *
    (repeat' (first|(apply qC;simp[f185,f0,f20,f2,f24,f4])|(refine zE ?_;intro J hJ;simp[f185,f0,f20,f2,f24,f4])))
    refine qE H6 sS ?_;rintro r s5 rfl
    (repeat' (apply cS;simp[];refine zJ hJ ?_))
    simp[f0,f1,f3,f4,f18,f20,f24];exact j9.set _
   .rw[aCj c]at f185;have e9:(P++A1)++A2++B1++(B2++S)=P++A1++B1++(A2++B2++S):=by
     by_cases c1:k<m
     .rw[zz lB1 oO];simp
     .rw[zz lA2 oO];simp
    rw[e9]at hD';generalize P++A1++B1++(A2++B2++S)=cc at *;refine xw1 f185 ?_;simp[f0,f1,f3,f4,f18,f20,f24,hD',j9]
  clear f0 f1 f2 f3 f4 f18 f20 f24 f185 hD' j9 hq3 hP3 fr;rintro fr st5 ⟨⟨f0,f1,f3,f4,f18,f20,f24⟩,hD,j9⟩
  (repeat (apply qS))
  refine BL (fun c7 st6=>(c7 0=.ms q 0 L/\c7 1=i p/\c7 3=i b/\c7 4=.fn (.func v7) IQ/\c7 18=i G7/\c7 20=i k/\c7 24=i ed/\c7 199=bb (decide (p<k/\k<G7)))/\st6=st5) ?_ ?_
  .by_cases c1:p<k
   .by_cases c2:k<G7
    ·(refine zE ?_;intro J hJ;simp[f20,f1,f18,c1,c2];refine zJ hJ ?_)
     simp[f0,f1,f3,f4,f18,f20,f24,c1,c2]
    ·(refine zE ?_;intro J hJ;simp[f20,f1,f18,c1,c2];refine zJ hJ ?_)
     simp[f0,f1,f3,f4,f18,f20,f24,c1,c2]
   ·(refine zE ?_;intro J hJ;simp[f20,f1,c1];refine zJ hJ ?_)
    simp[f0,f1,f3,f4,f18,f20,f24,c1]
  clear f0 f1 f3 f4 f18 f20 f24 fr;rintro fr st6 ⟨⟨f0,f1,f3,f4,f18,f20,f24,f199⟩,rfl⟩;simp only[ak]
  (repeat (apply qS))
  refine cD (fun c7 st7=>(c7 0=.ms q 0 L/\c7 3=i b/\c7 4=.fn (.func v7) IQ/\c7 18=i G7/\c7 24=i ed)/\YN P A1 B1 (A2++B2++S) q st2 st7) ?_ ?_
  .have hP6:=z8.keep _ _ P8 j9;have hq6:q<st6.next:=by have:=j9.1;omega
   by_cases c:p<k/\k<G7
   .rw[aBQ c]at f199;have H6:=ih P A1 B1 (A2++B2++S) p k G7 st6 oO (nz lA1 oO) (nz lB1 oO) rA1 rB1 (by simp only[aAn];omega) hp oO oO hP6 hq6 hD
    (repeat' (first|(apply qC;simp[f199,f0,f1,f20,f18,f4])|(refine zE ?_;intro J hJ;simp[f199,f0,f1,f20,f18,f4])))
    refine qE H6 sS ?_;rintro r s7 ⟨C,k1,k2,k3,k4⟩
    (repeat' (apply cS;simp[];refine zJ hJ ?_))
    simp[f0,f3,f4,f18,f24];exact⟨C,k1,k2,by rw[k3];simp,j9.trans k4⟩
   .rw[aCj c]at f199;have e9:Ris (A1++B1):=by
     by_cases c1:p<k
     .rw[zz lB1 oO,aAO];exact rA1
     .rw[zz lA1 oO,List.nil_append];exact rB1
    refine xw1 f199 ?_;simp[f0,f3,f4,f18,f24];exact⟨A1++B1,.refl _,e9,by rw[hD];simp,j9⟩
  clear f0 f1 f3 f4 f18 f20 f24 f199 hD j9 fr;rintro fr st7 ⟨⟨f0,f3,f4,f18,f24⟩,C,c1,c2,hD,j9⟩;have lC:=c1.length_eq;rw[aAn,lA1,lB1]at lC;have hD:st7.H q=bxo (P++C++A2++B2++S):=by rw[hD];simp
  (repeat (apply qS))
  refine BL (fun c7 st8=>(c7 0=.ms q 0 L/\c7 3=i b/\c7 4=.fn (.func v7) IQ/\c7 18=i G7/\c7 24=i ed/\c7 213=bb (decide (G7<ed/\ed<b)))/\st8=st7) ?_ ?_
  .by_cases c1:G7<ed
   .by_cases c2:ed<b
    ·(refine zE ?_;intro J hJ;simp[f24,f3,f18,c1,c2];refine zJ hJ ?_)
     simp[f0,f3,f4,f18,f24,c1,c2]
    ·(refine zE ?_;intro J hJ;simp[f24,f3,f18,c1,c2];refine zJ hJ ?_)
     simp[f0,f3,f4,f18,f24,c1,c2]
   ·(refine zE ?_;intro J hJ;simp[f24,f18,c1];refine zJ hJ ?_)
    simp[f0,f3,f4,f18,f24,c1]
  clear f0 f3 f4 f18 f24 fr;rintro fr st8 ⟨⟨f0,f3,f4,f18,f24,f213⟩,rfl⟩;simp only[ak];have hP8:=z8.keep _ _ P8 j9;have hq8:q<st8.next:=by have:=j9.1;omega
  by_cases c:G7<ed/\ed<b
  .rw[aBQ c]at f213;have H6:=ih (P++C) A2 B2 S G7 ed b st8 oO (nz lA2 oO) (nz lB2 oO) rA2 rB2 (by simp only[aAn];omega) (by simp only[aAn];omega) oO oO hP8 hq8 hD
   (repeat' (first|(apply qC;simp[f213,f0,f3,f24,f18,f4])|(refine zE ?_;intro J hJ;simp[f213,f0,f3,f24,f18,f4])))
   refine qE H6 sS ?_;rintro r s9 ⟨D,k1,k2,k3,k4⟩
   (repeat' (apply cS;simp[];refine zJ hJ ?_))
   obtain⟨j1,j2⟩:=hj C D c1 k1 c2 k2;exact⟨trivial,C++D,j1,j2,by rw[k3];simp,j9.trans k4⟩
  .rw[aCj c]at f213;have e9:Ris (A2++B2):=by
    by_cases c1:G7<ed
    .rw[zz lB2 oO,aAO];exact rA2
    .rw[zz lA2 oO,List.nil_append];exact rB2
   refine xw1 f213 ?_;obtain⟨j1,j2⟩:=hj C (A2++B2) c1 (.refl _) c2 e9;exact⟨trivial,C++(A2++B2),j1,j2,by rw[hD];simp,j9⟩
def Aw.Hf:=yD.1
def Aw.U.Hf:=yD.2
open Go Go.RowKit Pl Aw
open Aw.U
namespace Aw
structure Mgd(D D':List Ed)(lo hi:Nat):Prop where
 len:D'.length=D.length
 perm:D'.Perm D
 out:∀ j,j<lo\/hi<=j->D'.getD j ed0=D.getD j ed0
 inn:∀ j k,lo<=j->j<=k->k<hi->(D'.getD j ed0).id<=(D'.getD k ed0).id
end Aw
namespace Aw.U
structure Mgd(D D':List Nu)(lo hi:Nat):Prop where
 len:D'.length=D.length
 perm:D'.Perm D
 out:∀ j,j<lo\/hi<=j->D'.getD j ed0=D.getD j ed0
 inn:∀ j k,lo<=j->j<=k->k<hi->(D'.getD j ed0).id<=(D'.getD k ed0).id
end Aw.U
theorem Pr:(∀ ⦃D P X S C:List Ed⦄ (hD:P++X++S=D) (hC:C.Perm X) (hr:Aw.Ris C) ⦃lo hi:Nat⦄ (h1:P.length=lo) (h2:hi=lo+X.length),
 Aw.Mgd D (P++C++S) lo hi)/\(∀ ⦃D P X S C:List Nu⦄ (hD:P++X++S=D) (hC:C.Perm X) (hr:Aw.U.Ris C) ⦃lo hi:Nat⦄ (h1:P.length=lo) (h2:hi=lo+X.length),
 Aw.U.Mgd D (P++C++S) lo hi):=by
 refine⟨?_,?_⟩
 all_goals
  intro D P X S C hD hC hr lo hi h1 h2;have hl:=hC.length_eq;subst hD;refine⟨sF1 hl,aDv _ (aCl _ hC),fun j hj=>?_,fun j k hj hjk hk=>?_⟩
  .rcases aAS j lo with h|h
   ·(first|rw[Aw.rE _ _ _ (by simp;omega),Aw.rE _ _ _ oO,Aw.rE _ _ _ (by simp;omega),Aw.rE _ _ _ oO]|rw[Aw.U.rE _ _ _ (by simp;omega),Aw.U.rE _ _ _ oO,Aw.U.rE _ _ _ (by simp;omega),Aw.U.rE _ _ _ oO])
   .have e1:=CY (P++C) S (j-hi);have e2:=CY (P++X) S (j-hi);have l1:(P++C).length+(j-hi)=j:=by simp;omega
    have l2:(P++X).length+(j-hi)=j:=by simp;omega
    rw[l1]at e1;rw[l2]at e2;rw[e1,e2]
  .have e:∀ x,lo<=x->x<hi->(P++C++S).getD x ed0=C.getD (x-lo) ed0:=fun x g1 g2=>by have e1:=CY P (C++S) (x-lo);rw[show P.length+(x-lo)=x by omega,rE C S (x-lo) oO]at e1;rw[<- e1];simp
   rw[e j hj oO,e k oO hk];exact jD hr oO oO
def Aw.mgd:=Pr.1
def Aw.U.mgd:=Pr.2
namespace Aw
theorem XG{α:Type}(D:List α)(lo hi:Nat)(h:lo<=hi):D.take lo++(D.drop lo).take (hi-lo)++D.drop hi=D:=by
 have e:(D.drop lo).drop (hi-lo)=D.drop hi:=by rw[aCE];congr 1;omega
 rw[aAD,<- e,aAE,aAE]
end Aw
theorem BU:(∀ ⦃D:List Ed⦄ ⦃lo hi:Nat⦄ (hh:hi<=D.length) (h:∀ j k,lo<=j->j<=k->k<hi->(D.getD j Aw.ed0).id<=(D.getD k Aw.ed0).id),
 Aw.Ris ((D.drop lo).take (hi-lo)))/\(∀ ⦃D:List Nu⦄ ⦃lo hi:Nat⦄ (hh:hi<=D.length) (h:∀ j k,lo<=j->j<=k->k<hi->(D.getD j Aw.U.ed0).id<=(D.getD k Aw.U.ed0).id),
 Aw.U.Ris ((D.drop lo).take (hi-lo))):=by
 refine⟨?_,?_⟩
 all_goals
  intro D lo hi hh h;refine aAz.2 fun a b ha hb v8=>?_;simp only[aAw,aAT]at ha hb;rw[aBR,aBR,aCn,aCn,<- DB D (lo+a) oO,<- DB D (lo+b) oO];exact h _ _ oO oO oO
def Aw.AL:=BU.1
def Aw.U.AL:=BU.2
theorem Gn:(∀(q L:Nat) (v7:FuncId) (IQ:List LV) (Pc:St->Prop) (z8:Aw.gU v7 IQ q Pc) (hl:L<=100000) (D:List Ed) (a b:Nat) (st:St) (hD:D.length=L) (ha:a<=b) (hb:b<=L) (P8:Pc st) (hq:q<st.next) (hH:st.H q=.box 36 3 (Aw.eds D)),
 aB prog 161 [.ms q 0 L,i a,i b,.fn (.func v7) IQ] st fun r st'=>∃ D',st'.H q=.box 36 3 (Aw.eds D')/\Aw.Mgd D D' a b/\bM q st st')/\(∀(q L:Nat) (v7:FuncId) (IQ:List LV) (Pc:St->Prop) (z8:Aw.U.gU v7 IQ q Pc) (hl:L<=100000) (D:List Nu) (a b:Nat) (st:St) (hD:D.length=L) (ha:a<=b) (hb:b<=L) (P8:Pc st) (hq:q<st.next) (hH:st.H q=.box 34 1 (Aw.U.eds D)),
 aB prog 159 [.ms q 0 L,i a,i b,.fn (.func v7) IQ] st fun r st'=>∃ D',st'.H q=.box 34 1 (Aw.U.eds D')/\Aw.U.Mgd D D' a b/\bM q st st'):=by
 refine⟨?_,?_⟩
 all_goals
  intro q L v7 IQ Pc z8 hl D a b st hD ha hb P8 hq hH;have hc:=XG D a b ha;have l1:(D.take a).length=a:=by rw[aAw];omega
  have l2:((D.drop a).take (b-a)).length=b-a:=by rw[aAw,aAT];omega
  have h:=LN (D.take a) ((D.drop a).take (b-a)) (D.drop b) q v7 IQ Pc st z8 P8 hq (by rw[hc];omega) (by rw[hc];exact hH);rw[hc,hD,l1,l2,show a+(b-a)=b by omega]at h;refine h.mono ?_;rintro r st' ⟨Y,h1,h2,h3,h4⟩;exact⟨_,h3,mgd hc h1 h2 l1 oO,h4⟩
def Aw.RI:=Gn.1
def Aw.U.RI:=Gn.2
theorem HD:(∀(q L:Nat) (v7:FuncId) (IQ:List LV) (Pc:St->Prop) (z8:Aw.gU v7 IQ q Pc) (hl:L<=100000) (D:List Ed) (a m b:Nat) (st:St) (hD:D.length=L) (ha:a<m) (hm:m<b) (hb:b<=L) (h1:∀ j k,a<=j->j<=k->k<m->(D.getD j Aw.ed0).id<=(D.getD k Aw.ed0).id) (h2:∀ j k,m<=j->j<=k->k<b->(D.getD j Aw.ed0).id<=(D.getD k Aw.ed0).id) (P8:Pc st) (hq:q<st.next) (hH:st.H q=.box 36 3 (Aw.eds D)),
 aB prog 162 [.ms q 0 L,i a,i m,i b,.fn (.func v7) IQ] st fun r st'=>∃ D',st'.H q=.box 36 3 (Aw.eds D')/\Aw.Mgd D D' a b/\bM q st st')/\(∀(q L:Nat) (v7:FuncId) (IQ:List LV) (Pc:St->Prop) (z8:Aw.U.gU v7 IQ q Pc) (hl:L<=100000) (D:List Nu) (a m b:Nat) (st:St) (hD:D.length=L) (ha:a<m) (hm:m<b) (hb:b<=L) (h1:∀ j k,a<=j->j<=k->k<m->(D.getD j Aw.U.ed0).id<=(D.getD k Aw.U.ed0).id) (h2:∀ j k,m<=j->j<=k->k<b->(D.getD j Aw.U.ed0).id<=(D.getD k Aw.U.ed0).id) (P8:Pc st) (hq:q<st.next) (hH:st.H q=.box 34 1 (Aw.U.eds D)),
 aB prog 160 [.ms q 0 L,i a,i m,i b,.fn (.func v7) IQ] st fun r st'=>∃ D',st'.H q=.box 34 1 (Aw.U.eds D')/\Aw.U.Mgd D D' a b/\bM q st st'):=by
 refine⟨?_,?_⟩
 all_goals
  intro q L v7 IQ Pc z8 hl D a m b st hD ha hm hb h1 h2 P8 hq hH;have hc1:=XG D m b oO;have hc2:=XG (D.take m) a m oO;have e1:((D.take m).drop a).take (m-a)=(D.drop a).take (m-a):=by rw[aEl,aCu,Nat.min_self]
  have e2:(D.take m).drop m=[]:=by rw[List.drop_eq_nil_iff,aAw];omega
  have e3:(D.take m).take a=D.take a:=by rw[aCu,aDf oO]
  rw[e1,e2,e3,aAO]at hc2;have hc:D.take a++(D.drop a).take (m-a)++(D.drop m).take (b-m)++D.drop b=D:=by rw[hc2,hc1]
  have l1:(D.take a).length=a:=by rw[aAw];omega
  have l2:((D.drop a).take (m-a)).length=m-a:=by rw[aAw,aAT];omega
  have l3:((D.drop m).take (b-m)).length=b-m:=by rw[aAw,aAT];omega
  have r1:=AL (D:=D) (lo:=a) (hi:=m) oO h1;have r2:=AL (D:=D) (lo:=m) (hi:=b) oO h2;have h:=Hf q L v7 IQ Pc z8 hl _ (D.take a) ((D.drop a).take (m-a)) ((D.drop m).take (b-m)) (D.drop b) a m b st (aAm _) (fun e=>by rw[e]at l2;simp at l2;omega) (fun e=>by rw[e]at l3;simp at l3;omega) r1 r2 (by rw[hc];exact hD) l1 oO oO P8 hq (by rw[hc];exact hH);refine h.mono ?_;rintro r st' ⟨C,k1,k2,k3,k4⟩;refine⟨_,k3,mgd (X:=(D.drop a).take (m-a)++(D.drop m).take (b-m)) (by rw[<- aAD (D.take a)];exact hc) k1 k2 l1 (by simp only[aAn];omega),k4⟩
def Aw.Qt:=HD.1
def Aw.U.Qt:=HD.2
namespace Aw
def Bs(s lo hi:Nat)(D:List Ed):Prop:=∀ j k,lo<=j->j<=k->k<hi->j / s=k / s->(D.getD j ed0).id<=(D.getD k ed0).id
end Aw
namespace Aw.U
def Bs(s lo hi:Nat)(D:List Nu):Prop:=∀ j k,lo<=j->j<=k->k<hi->j / s=k / s->(D.getD j ed0).id<=(D.getD k ed0).id
end Aw.U
namespace Aw
theorem ER{s t j:Nat}(h1:s*t<=j)(h2:j<s*t+s):j / s=t:=by
 refine Nat.div_eq_of_lt_le ?_ ?_
 .rw[aBY];exact h1
 .rw[aBY,Nat.mul_succ];exact h2
end Aw
theorem Bs.extTwo:(∀ ⦃s a b t:Nat⦄ ⦃D D':List Ed⦄ (h:Aw.Bs s 0 a D) (hm:Aw.Mgd D D' a b) (hs:0<s) (ht:a=s*t),
 Aw.Bs s 0 b D')/\(∀ ⦃s a b t:Nat⦄ ⦃D D':List Nu⦄ (h:Aw.U.Bs s 0 a D) (hm:Aw.U.Mgd D D' a b) (hs:0<s) (ht:a=s*t),
 Aw.U.Bs s 0 b D'):=by
 refine⟨?_,?_⟩
 all_goals
  intro s a b t D D' h hm hs ht;intro j k _ hjk hk he;rcases aAS k a with h1|h1
  .rw[hm.out j (.inl oO),hm.out k (.inl h1)];exact h j k (aBD _) hjk h1 he
  .rcases aAS j a with h2|h2
   .have h3:j / s<t:=aEw oO;have h4:t<=k / s:=(aEm hs).2 (by rw[aBY];omega);omega
   .exact hm.inn j k h2 hjk hk
def Aw.Bs.ext:=Bs.extTwo.1
def Aw.U.Bs.ext:=Bs.extTwo.2
theorem Bs.restTwo:(∀ ⦃s a b:Nat⦄ ⦃L:Nat⦄ ⦃D D':List Ed⦄ (h:Aw.Bs s a L D) (hm:Aw.Mgd D D' a b) (v8:a<=b),
 Aw.Bs s b L D')/\(∀ ⦃s a b:Nat⦄ ⦃L:Nat⦄ ⦃D D':List Nu⦄ (h:Aw.U.Bs s a L D) (hm:Aw.U.Mgd D D' a b) (v8:a<=b),
 Aw.U.Bs s b L D'):=by
 refine⟨?_,?_⟩
 all_goals
  intro s a b L D D' h hm v8;intro j k h1 hjk hk he;rw[hm.out j (.inr h1),hm.out k (.inr oO)];exact h j k oO hjk hk he
def Aw.Bs.rest:=Bs.restTwo.1
def Aw.U.Bs.rest:=Bs.restTwo.2
namespace Aw
theorem Bs.block{s a L t:Nat}{D:List Ed}(h:Bs s a L D){c:Nat}(hc:s*t=c)(hac:a<=c){j k:Nat}(h1:c<=j)(h2:j<=k)(h3:k<c+s)(h4:k<L):(D.getD j ed0).id<=(D.getD k ed0).id:=
 h j k oO h2 h4 ((ER (t:=t) oO oO).trans (ER oO oO).symm)
end Aw
namespace Aw.U
theorem Bs.block{s a L t:Nat}{D:List Nu}(h:Bs s a L D){c:Nat}(hc:s*t=c)(hac:a<=c){j k:Nat}(h1:c<=j)(h2:j<=k)(h3:k<c+s)(h4:k<L):(D.getD j ed0).id<=(D.getD k ed0).id:=
 h j k oO h2 h4 ((ER (t:=t) oO oO).trans (ER oO oO).symm)
end Aw.U
theorem Bs.allTwo:(∀ ⦃s L:Nat⦄ ⦃D:List Ed⦄ (h:Aw.Bs s 0 L D) (hs:L<=s) (hD:D.length=L),
 Aw.Ris D)/\(∀ ⦃s L:Nat⦄ ⦃D:List Nu⦄ (h:Aw.U.Bs s 0 L D) (hs:L<=s) (hD:D.length=L),
 Aw.U.Ris D):=by
 refine⟨?_,?_⟩
 all_goals
  intro s L D h hs hD;have:=AL (D:=D) (lo:=0) (hi:=L) oO fun j k h1 h2 h3=>h j k h1 h2 h3 (by rw[aDz oO,aDz oO])
  rwa [List.drop_zero,aAv oO]at this
def Aw.Bs.all:=Bs.allTwo.1
def Aw.U.Bs.all:=Bs.allTwo.2
namespace Aw
theorem Mgd.from{D D':List Ed}{a b:Nat}(h:Mgd D D' a b){D0:List Ed}(k:D.Perm D0):D'.Perm D0:=h.perm.trans k
end Aw
namespace Aw.U
theorem Mgd.from{D D':List Nu}{a b:Nat}(h:Mgd D D' a b){D0:List Nu}(k:D.Perm D0):D'.Perm D0:=h.perm.trans k
end Aw.U
namespace Aw
def BD(D0:List Ed)(q L:Nat)(st st2:St)(D:List Ed):Prop:=D.length=L/\D.Perm D0/\st2.H q=.box 36 3 (eds D)/\bM q st st2
end Aw
namespace Aw.U
def BD(D0:List Nu)(q L:Nat)(st st2:St)(D:List Nu):Prop:=D.length=L/\D.Perm D0/\st2.H q=.box 34 1 (eds D)/\bM q st st2
end Aw.U
namespace Aw
theorem BD.step{D0:List Ed}{q L:Nat}{st st2 O0:St}{D D':List Ed}{a b:Nat}(h:BD D0 q L st st2 D)(hm:Mgd D D' a b)(h1:O0.H q=.box 36 3 (eds D'))(h2:bM q st2 O0):BD D0 q L st O0 D':=
 ⟨hm.len.trans h.1,hm.from h.2.1,h1,h.2.2.2.trans h2⟩
end Aw
namespace Aw.U
theorem BD.step{D0:List Nu}{q L:Nat}{st st2 O0:St}{D D':List Nu}{a b:Nat}(h:BD D0 q L st st2 D)(hm:Mgd D D' a b)(h1:O0.H q=.box 34 1 (eds D'))(h2:bM q st2 O0):BD D0 q L st O0 D':=
 ⟨hm.len.trans h.1,hm.from h.2.1,h1,h.2.2.2.trans h2⟩
end Aw.U
theorem Ds:(∀(D0:List Ed) (q L:Nat) (v7:FuncId) (IQ:List LV) (Pc:St->Prop) (st:St) (z8:Aw.gU v7 IQ q Pc) (P8:Pc st) (hq:q<st.next) (hL:D0.length=L) (hl:L<=100000) (hH:st.H q=.box 36 3 (Aw.eds D0)),
 aB prog 119 [.ms q 0 L,i L,.fn (.func v7) IQ] st fun r st'=>∃ D,D.Perm D0/\Aw.Ris D/\st'.H q=.box 36 3 (Aw.eds D)/\bM q st st')/\(∀(D0:List Nu) (q L:Nat) (v7:FuncId) (IQ:List LV) (Pc:St->Prop) (st:St) (z8:Aw.U.gU v7 IQ q Pc) (P8:Pc st) (hq:q<st.next) (hL:D0.length=L) (hl:L<=100000) (hH:st.H q=.box 34 1 (Aw.U.eds D0)),
 aB prog 117 [.ms q 0 L,i L,.fn (.func v7) IQ] st fun r st'=>∃ D,D.Perm D0/\Aw.U.Ris D/\st'.H q=.box 34 1 (Aw.U.eds D)/\bM q st st'):=by
 refine⟨?_,?_⟩
 all_goals
  intro D0 q L v7 IQ Pc st z8 P8 hq hL hl hH
  first|(have _:List Ed:=D0;refine zN func119 ntmps119 [] ?_)|refine zN func117 ntmps117 [] ?_
  refine xw0 ?_;refine qL (fun z fr st2=>∃(t a:Nat) (D:List (Cn D0)),a=20*t/\a<=L/\z=L-a/\fr 0=.ms q 0 L/\fr 1=i L/\fr 2=.fn (.func v7) IQ/\fr 6=i 20/\fr 7=i a/\fr 8=i (a+20:Nat)/\Bs 20 0 a D/\BD D0 q L st st2 D) L ?_ ?_
  .exact⟨0,0,D0,rfl,oO,rfl,sS,sS,sS,sS,sS,sS,fun j k _ _ h=>by omega,hL,.refl _,hH,bM.refl _ _⟩
  rintro z fr st2 ⟨t,a,D,ht,ha,rfl,f0,f1,f2,f6,f7,f8,hB,hI⟩ JJ hJJ;have hP2:=z8.keep _ _ P8 hI.2.2.2;have N7:q<st2.next:=by have:=hI.2.2.2.1;omega
  by_cases u7:a+20<=L
  .have W5:(a:Int)+20<=L:=oO;have hc:=RI q L v7 IQ Pc z8 oO D a (a+20) st2 hI.1 oO u7 hP2 N7 hI.2.2.1;have w1:IntKind.i64.wrap ((a:Int)+20+20)=((a+20+20:Nat):Int):=zW
   (repeat' (first|apply qS|apply qB|refine qK (zZ ?_)|(apply qC;simp[f0,f1,f2,f7,f8,W5])|(refine zE ?_;intro J hJ;simp[f0,f1,f2,f7,f8,W5];(try refine zJ hJ ?_))))
   refine qE hc sS ?_;rintro r s3 ⟨D',k1,k2,k3⟩
   (repeat' (first|apply qS|((first|(refine zE ?_;intro J hJ)|(apply cS));simp[f8,f6,w1];refine zJ hJ ?_)))
   exact hJJ (L-(a+20)) _ _ oO ⟨t+1,a+20,D',oO,u7,rfl,sF1 f0,sF1 f1,sF1 f2,sF1 f6,sS,sS,hB.ext k2 oO ht,hI.step k2 k1 k3⟩
  clear hJJ;have W5:¬(a:Int)+20<=L:=oO;have hc:=RI q L v7 IQ Pc z8 oO D a L st2 hI.1 ha (aAm _) hP2 N7 hI.2.2.1
  (repeat' (first|apply qS|refine qX (zZ ?_)|(apply qC;simp[f0,f1,f2,f7,f8,W5])|(refine zE ?_;intro J hJ;simp[f0,f1,f2,f7,f8,W5];(try refine zJ hJ ?_))))
  refine qE hc sS ?_;rintro r s3 ⟨D',k1,k2,k3⟩;have hB2:=hB.ext k2 oO ht;have hI2:=hI.step k2 k1 k3
  (repeat' (first|apply qB|(apply cS;simp[];refine zJ hJ ?_)))
  refine qL (fun z fr st2=>∃(s:Nat) (D:List (Cn D0)),0<s/\s<=200040/\z=L-s/\fr 0=.ms q 0 L/\fr 1=i L/\fr 2=.fn (.func v7) IQ/\fr 6=i s/\Bs s 0 L D/\BD D0 q L st st2 D) (L-20) ?_ ?_
  .exact⟨20,D',oO,oO,rfl,sF1 f0,sF1 f1,sF1 f2,sF1 f6,hB2,hI2⟩
  clear hB2 hI2 k1 k2 k3 hc hI hB f0 f1 f2 f6 f7 f8 hP2 N7 u7 W5 ht ha fr;rintro z fr O0 ⟨s,D,hs0,Z6,rfl,f0,f1,f2,f6,hB,hI⟩ JJ hJJ;by_cases dG:s<L;rotate_left
  .clear hJJ;have z7:¬(s:Int)<L:=oO;refine xw4 f1 f6 dG z7 ?_;exact⟨trivial,D,hI.2.1,hB.all oO hI.1,hI.2.2⟩
  have z7:(s:Int)<L:=oO;have w2:IntKind.i64.wrap (2*(s:Int))=((2*s:Nat):Int):=zW;have w2':IntKind.i64.wrap ((s:Int)*2)=((2*s:Nat):Int):=by rw[xN _ oO oO];omega
  obtain⟨s2,X0⟩:∃ s2:Nat,s2=2*s:=⟨_,rfl⟩;rw[<- X0]at w2 w2';refine xw5 f1 f6 dG z7 w2 ?_;refine qL (fun z fr st2=>∃(t a:Nat) (D:List (Cn D0)),a=s2*t/\a<=L/\z=L-a/\fr 0=.ms q 0 L/\fr 1=i L/\fr 2=.fn (.func v7) IQ/\fr 6=i s/\fr 7=i a/\fr 8=i (a+s2:Nat)/\Bs s2 0 a D/\Bs s a L D/\BD D0 q L st st2 D) L ?_ ?_
  .exact⟨0,0,D,oO,oO,rfl,sF1 f0,sF1 f1,sF1 f2,sF1 f6,sS,sS,fun j k _ _ h=>by omega,hB,hI⟩
  clear f0 f1 f2 f6 hB hI fr D;rintro z fr st4 ⟨t,a,D,ht,ha,rfl,f0,f1,f2,f6,f7,f8,hB,hR,hI⟩ J2 hJ2;have hP4:=z8.keep _ _ P8 hI.2.2.2;have hq4:q<st4.next:=by have:=hI.2.2.2.1;omega
  have e0:s*(2*t)=a:=by rw[ht,X0,aBY 2 s,Nat.mul_assoc]
  have e1:s*(2*t+1)=a+s:=by rw[Nat.mul_succ,e0]
  have w3:IntKind.i64.wrap ((a:Int)+s)=((a+s:Nat):Int):=zW;obtain⟨m,hm⟩:∃ m:Nat,m=a+s:=⟨_,rfl⟩;rw[<- hm]at w3;by_cases u7:a+s2<=L
  .have W5:(a:Int)+s2<=L:=oO;have hc:=Qt q L v7 IQ Pc z8 hl D a m (a+s2) st4 hI.1 oO oO u7 (fun j k h1 h2 h3=>hR.block e0 (aAm _) h1 h2 oO oO) (fun j k h1 h2 h3=>hR.block e1 oO oO h2 oO oO) hP4 hq4 hI.2.2.1;have w1:IntKind.i64.wrap ((a:Int)+s2+s2)=((a+s2+s2:Nat):Int):=zW
   (repeat' (first|apply qS|apply qB|refine qK (zZ ?_)|(apply qC;simp[f0,f1,f2,f6,f7,f8,W5,w3])|(refine zE ?_;intro J hJ;simp[f0,f1,f2,f6,f7,f8,W5,w3];(try refine zJ hJ ?_))))
   refine qE hc sS ?_;rintro r s3 ⟨D',k1,k2,k3⟩
   (repeat' (first|apply qS|((first|(refine zE ?_;intro J hJ)|(apply cS));simp[f8,f6,w2,w1];refine zJ hJ ?_)))
   exact hJ2 (L-(a+s2)) _ _ oO ⟨t+1,a+s2,D',by rw[Nat.mul_succ];omega,u7,rfl,sF1 f0,sF1 f1,sF1 f2,sF1 f6,sS,sS,hB.ext k2 oO ht,hR.rest k2 oO,hI.step k2 k1 k3⟩
  clear hJ2;have W5:¬(a:Int)+s2<=L:=oO;have u6:∀ c7 st5 (D':List (Cn D0)),c7 0=.ms q 0 L/\c7 1=i L/\c7 2=.fn (.func v7) IQ/\c7 6=i s2->Bs s2 0 L D'->BD D0 q L st st5 D'->JJ c7 st5:=by rintro c7 st5 D' ⟨g0,g1,g2,g6⟩ h1 h2;exact hJJ (L-s2) _ _ oO ⟨s2,D',oO,oO,rfl,g0,g1,g2,g6,h1,h2⟩
  by_cases M6:m<L
  .have hml':(m:Int)<L:=oO;have hc:=Qt q L v7 IQ Pc z8 hl D a m L st4 hI.1 oO M6 (aAm _) (fun j k h1 h2 h3=>hR.block e0 (aAm _) h1 h2 oO oO) (fun j k h1 h2 h3=>hR.block e1 oO oO h2 oO oO) hP4 hq4 hI.2.2.1
   (repeat' (first|apply qS|refine qX (zZ ?_)|(apply qC;simp[f0,f1,f2,f6,f7,f8,W5,w3,M6,hml'])|(refine zE ?_;intro J hJ;simp[f0,f1,f2,f6,f7,f8,W5,w3,M6,hml'];(try refine zJ hJ ?_))))
   refine qE hc sS ?_;rintro r s3 ⟨D',k1,k2,k3⟩
   (repeat' ((first|(refine zE ?_;intro J hJ)|(apply cS));simp[f6,w2'];refine zJ hJ ?_))
   exact u6 _ _ D' ⟨sF1 f0,sF1 f1,sF1 f2,sS⟩ (hB.ext k2 oO ht) (hI.step k2 k1 k3)
  .have hml':¬(m:Int)<L:=oO;refine TF f0 f1 f2 f6 f7 f8 W5 w3 M6 hml' w2' ?_;refine u6 _ _ D ⟨sF1 f0,sF1 f1,sF1 f2,sS⟩ (fun j k h0 hjk hk he=>?_) hI;rcases aAS k a with h1|h1
   .exact hB j k h0 hjk h1 he
   .rcases aAS j a with h2|h2
    .have h3:j / s2<t:=aEw oO;have h4:t<=k / s2:=(aEm oO).2 (by rw[aBY];omega);omega
    .exact hR.block e0 (aAm _) h2 hjk oO hk
def Aw.KT:=Ds.1
def Aw.U.KT:=Ds.2
namespace Aw
open Go Go.RowKit Pl
theorem Kf(x y:Int)(st:St):aB prog 77 [u x,u y] st fun r st'=>r=i (if x<y then -1 else if y<x then 1 else 0)/\st'=st:=by
 refine zN func77 ntmps77 [.tmp 4] ?_
 (refine xj0 ?_;intro J hJ)
 refine qF (isNaN x _) ?_;rintro r st' ⟨rfl,rfl⟩
 (refine mS hJ ?_;intro J hJ)
 refine qF (isNaN y _) ?_;rintro r st' ⟨rfl,rfl⟩;by_cases h1:x<y
 .exact NL hJ h1
 .by_cases h2:y<x
  .exact XU hJ h1 h2
  .exact XU hJ h1 h2
theorem Ep(a:List Int)(t:Nat)(st:St)(hl:a.length<=100000):
 aB prog 20 [.sl t a.length (us a)] st fun r st'=>∃ l,r=.ms l 0 a.length/\st.next<=l/\l<st'.next/\st'.H l=.box 34 1 (us a)/\aA st st':=by
 refine jK 34 1 ?_;have I5:=KI a;refine zN func20 ntmps20 [.tmp 2] ?_
 (repeat' (first|apply qS|refine qK (zZ ?_)|(refine qR (zZ ?_);simp[I5])|(apply qC;simp[I5])|(refine w_e [5] ?_;intro J hJ;simp only[];simp[I5];(repeat refine ca ?_);((try with_reducible refine⟨?_,?_⟩)<;>(try with_reducible intro x7)<;>refine zJ hJ ?_<;>clear hJ J<;>try subst x7))))
 .exact(aA.new _ _).trans (aA.new _ _)
 .exact aA.new _ _
theorem UE(l:List Ed)(t:Nat)(st:St)(hl:l.length<=100000):
 aB prog 19 [.sl t l.length (eds l)] st fun r st'=>∃ q,r=.ms q 0 l.length/\st.next<=q/\q<st'.next/\st'.H q=.box 36 3 (eds l)/\aA st st':=by
 have I5:=Km l;have hel:=aI l;refine jK 36 3 ?_;refine zN func19 ntmps19 [.tmp 2] ?_
 (repeat' (first|apply qS|refine qK (zZ ?_)|(refine qR (zZ ?_);simp[I5,hel])|(apply qC;simp[I5,hel])|(refine w_e [5] ?_;intro J hJ;simp only[];simp[I5,hel];(repeat refine ca ?_);((try with_reducible refine⟨?_,?_⟩)<;>(try with_reducible intro x7)<;>refine zJ hJ ?_<;>clear hJ J<;>try subst x7))))
 .exact(aA.new _ _).trans (aA.new _ _)
 .exact aA.new _ _
def Vs(v7:FuncId)(IQ:List LV)(Pc:St->Prop):Prop:=(∀ st st',Pc st->aA st st'->Pc st')/\∀ st x y,Pc st->aB prog v7 ([u x,u y]++IQ) st fun r st'=>r=bb (decide (x=y))/\aA st st'
def Vj(v7:FuncId)(IQ:List LV)(Pc:St->Prop):Prop:=(∀ st st',Pc st->aA st st'->Pc st')/\∀ st x y,Pc st->aB prog v7 ([.ag (edL x),.ag (edL y)]++IQ) st fun r st'=>r=bb (decide (x.id=y.id))/\aA st st'
theorem RQ(c:List Ed)(q:Nat)(v7:FuncId)(IQ:List LV)(Pc:St->Prop)(st:St)(heq:Vj v7 IQ Pc)(P8:Pc st)(hl:c.length<=100000)(Zo:∀ j,j+1<c.length->(c.getD (j+1) ed0).id≠(c.getD j ed0).id)(hq:q<st.next)(hH:st.H q=.box 36 3 (eds c)):
 aB prog 82 [.ms q 0 c.length,.fn (.func v7) IQ] st fun r st'=>r=.ms q 0 c.length/\aA st st':=by
 have hel:=aI c;refine zN func82 ntmps82 [.tmp 4] ?_;by_cases h2:c.length<2
 .have h2':(c.length:Int)<2:=oO;refine xw2 h2' h2 ?_;exact aA.refl _
 have h2':¬(c.length:Int)<2:=oO;refine xw2 h2' h2 ?_;refine qL (fun z fr st2=>∃ k:Nat,0<k/\k<=c.length/\z=c.length-k/\fr 0=.ms q 0 c.length/\fr 1=.fn (.func v7) IQ/\fr 5=i k/\aA st st2) (c.length-1) ?_ ?_
 .exact⟨1,oO,oO,rfl,sS,sS,sS,aA.refl _⟩
 rintro z fr st2 ⟨k,N9,hkl,rfl,f0,f1,f5,o9⟩ JJ hJJ;by_cases dG:k<c.length;rotate_left
 .clear hJJ;refine xw3 f0 f5 dG ?_;exact o9
 obtain⟨k1,rfl⟩:∃ k1,k=k1+1:=⟨k-1,oO⟩;have hd:=aL c (k1+1) dG;have y9:=aL c k1 oO;have w1:IntKind.i64.wrap (k1:Int)=(k1:Int):=zW;have w2':IntKind.i64.wrap ((k1:Int)+1+1)=(k1:Int)+1+1:=wrap_i64 _ oO oO;have hkl1:k1<c.length:=oO;have z7:(k1:Int)+1<c.length:=oO;have hn:=Zo k1 dG;have U5:=(o9.H q hq).trans hH;have hc:=heq.2 st2 (c.getD (k1+1) ed0) (c.getD k1 ed0) (heq.1 _ _ P8 o9);rw[aCj hn]at hc;generalize c.getD (k1+1) ed0=x at *;generalize c.getD k1 ed0=y at *;obtain⟨xi,xa,xb⟩:=x;obtain⟨yi,ya,yb⟩:=y;simp only at hd y9 hn;refine xw4 f0 f5 dG z7 ?_
 (refine zS [] [q] [0,2,4,6,8,10,12,14,16,18,21] ?_;intro J hJ;simp[f0,f1,f5,dG,z7,hd,y9,w1,hkl1,U5,hel];(repeat refine ca ?_))
 refine aN hc ?_;rintro r s3 ⟨rfl,u5⟩;have hH3:=(u5.H q (aAr hq o9.next)).trans U5;refine⟨fun _=>by simp[hH3,U5],?_⟩
 (apply bI;simp[hH3,U5];refine zJ hJ ?_)
 refine xw2 f5 w2' ?_;exact hJJ (c.length-(k1+1+1)) _ _ oO ⟨k1+1+1,oO,oO,rfl,sF1 f0,sF1 f1,sS,o9.trans u5⟩
structure Sh where
 L:List (Int×Int)
 on:List Int
 F:List (List Int)
def dD(w:List Int):List Int:=(w.drop 1).take (w.length-2)
def gT(h:Sh)(w:List Int)(at':Nat):Sh:=
 ⟨jY h.L w,h.on++w,h.F.set at' (jC (h.F.getD at' []) ((h.F.getD at' []).idxOf (w.getD 0 0)) ((h.F.getD at' []).idxOf (w.getD (w.length-1) 0))++(dD w).reverse)++
   [jC (h.F.getD at' []) ((h.F.getD at' []).idxOf (w.getD (w.length-1) 0)) ((h.F.getD at' []).idxOf (w.getD 0 0))++dD w]⟩
theorem HV(vs:List Int):∀(F:List (List Int)) (k:Nat) (R:List Int),k<F.length->(gW vs F).take (k*2)++([.sl 0 R.length (us R),wv (mk vs R)]++(gW vs F).drop (k*2+2))=gW vs (F.set k R)
 |r::F,0,R,_=>by simp[gW]
 |r::F,k+1,R,h=>by
  have:=HV vs F k R (by grind)
  grind [gW]
 |[],k,R,h=>by grind
theorem Ms(vs:List Int)(F:List (List Int))(R:List Int):gW vs F++[.sl 0 R.length (us R),wv (mk vs R)]=gW vs (F++[R]):=by simp[gW]
theorem Gy{r:List Int}{i j:Nat}{v:Int}(h:v∈jC r i j):v∈r:=by
 have:=aDH (aCm h)
 grind
theorem mV{w:List Int}{v:Int}(h:v∈dD w):v∈w:=aDH (aCm h)
theorem vK(w:List Int):(dD w).length=w.length-2:=by grind [dD]
theorem Uy(w:List Int):((us w).drop 1).take (w.length-1-1)=us (dD w):=by
 grind [dD,List.map_drop,List.map_take]
structure KM(M:List Nat)(a b:St):Prop where
 next:a.next<=b.next
 H:∀ l,l<a.next->l∉M->b.H l=a.H l
theorem KM.keeps{M:List Nat}{a b c:St}(h:KM M a b)(k:aA b c):KM M a c:=⟨aBa h.next k.next,fun l hl hm=>(k.H l (aAr hl h.next)).trans (h.H l hl hm)⟩
theorem KM.set{M:List Nat}{a b:St}(h:KM M a b){q:Nat}(hq:a.next<=q\/q∈M)(o:cI):KM M a (b.set q o):=⟨h.next,fun l hl hm=>by
 rw[bU,aAa (by grind)];exact h.H l hl hm⟩
theorem KM.of{M:List Nat}{a b:St}(h:aA a b):KM M a b:=⟨h.next,fun l hl _=>h.H l hl⟩
theorem A8{g:Gr}(hg:GP g){h:Sh}{S nl pl ll fl:Nat}{le:List (List Int×LV)}{st:St}(hS:ShA g h.L h.on h.F S nl pl ll fl le st){w:List Int}{at':Nat}(S8:at' < h.F.length)(J9:2<=w.length)(hwl:w.length<=200)(hwv:∀ v∈w,v∈g.vs)
 (hrl:(h.F.getD at' []).length<=1000) (h1:w.getD 0 0∈h.F.getD at' []) (h2:w.getD (w.length-1) 0∈h.F.getD at' []) (hfew:h.F.length<300) (M3:0<st.next):
 aB prog 102 [.pt S 0,.sl 0 w.length (us w),i at'] st fun _ st'=>∃ fl' le',ShA g (gT h w at').L (gT h w at').on (gT h w at').F S nl pl ll fl' le' st'/\(fl'=fl\/st.next<=fl')/\KM [S,ll,fl] st st':=by
 have h64:=hg.h64;have hn:g.vs.Nodup:=hg.toGoodE.toGood.nodup;have J6:=hS.r.box;have hF:=hS.fac;have dG:=hS.r.lt;have hflt:=hS.flt;have U4:=qI g.vs h.F;have hd:=rQ g.vs h.F at' S8;have hrv:∀ v∈h.F.getD at' [],v∈g.vs:=hS.sub _ (by grind);have o8:at' * 2<h.F.length*2:=oO;have hati:(at':Int)<h.F.length:=oO;have hsetF:=fun R=>HV g.vs h.F at' R S8;unfold gT;generalize hr:h.F.getD at' []=r at *;have hd0:=qG w 0 oO;have hdl:=qG w (w.length-1) oO;have hh0:hdL (us w)=u (w.getD 0 0):=by rw[show us w=(us w).drop 0 from rfl,hd0];rfl
 have g1:=FU h1;have g2:=FU h2;have hi1:=aBg h1;have hi2:=aBg h2;have hmid:(us w).tail.take (dD w).length=us (dD w):=by have:=Uy w;rw[vK,show w.length-2=w.length-1-1 by omega,<- List.drop_one];exact this
 have hml2:w.length-1-1=(dD w).length:=by rw[vK];omega
 have M6:=vK w;have hmm:∀ v∈dD w,v∈g.vs:=fun v hv=>hwv v (mV hv);have hwi:IntKind.i64.wrap ((w.length:Int)-1)=((w.length-1:Nat):Int):=zW;generalize w.getD 0 0=x0 at *;generalize w.getD (w.length-1) 0=xl at *;generalize r.idxOf x0=i0 at *;generalize r.idxOf xl=il at *;have hw0:(0:Int)<w.length:=oO;have N5:((w.length-1:Nat):Int)<w.length:=oO;have hw3:w.length-1<w.length:=oO;have hw4:0<w.length:=oO;refine zN func102 ntmps102 [] ?_
 (refine XL J6 hF hd o8 hati S8 U4 hw0 hw4 hh0 ?_;intro J hJ)
 refine qE (Index r 0 x0 _ (by unfold small;omega)) sS ?_;rintro v s1 ⟨rfl,e1⟩;rw[e1];clear e1 s1;have hms:((w.length-1:Nat):Int)=(w.length:Int)-1:=oO;have hm1:(1:Int)<=((w.length-1:Nat):Int):=oO;have hm2:1<=w.length-1:=oO
 (refine Yk hJ g1 hwi N5 hw3 hdl ?_;intro J hJ)
 refine qE (Index r 0 xl _ (by unfold small;omega)) sS ?_;rintro v s1 ⟨rfl,e1⟩;rw[e1];clear e1 s1;generalize dD w=m at *;have hmle:m.length<=200:=oO
 (refine C1 hJ g2 hwi N5 hw3 hm1 hm2 hml2 hmid ?_;intro J hJ)
 refine qE (Ep m 0 _ oO) sS ?_;rintro v s1 ⟨q,rfl,q1,q2,hq,c8⟩
 (refine mS hJ ?_;intro J hJ)
 refine qE (AE m q s1 (by unfold small;omega) hq) sS ?_;rintro v s2 e2;have hk2':aA st s2:=by rw[e2];exact c8.set q1 _
 have N8:s1.next=s2.next:=by rw[e2];rfl
 have N7:s2.H q=.box 34 1 (us m.reverse):=by rw[e2];simp
 clear e2 c8 hq;have hS2:=hS.keep hk2';have n0:¬pl=ll:=fun e=>by have h3:=hS.r.plc;rw[e,hS.r.lin]at h3;cases h3
 (refine mS hJ ?_;intro J hJ)
 refine qE (QG hS2.r.box hS2.r.plc hS2.r.lin hS2.r.key n0 hn h64 w 0 hwv oO) sS ?_;rintro v s3 ⟨le',e3,J4⟩;have hn3:s3.next=s2.next:=by rw[e3];rfl
 have m1:¬fl=S:=fun e=>by simp_all
 have m2:¬fl=ll:=fun e=>by have h3:=hS.fac;rw[e,hS.r.lin]at h3;cases h3
 have m3:¬ll=S:=fun e=>by have h3:=hS.r.lin;rw[e,hS.r.box]at h3;cases h3
 have m4:¬nl=S:=fun e=>by have h3:=hS.r.near;rw[e,hS.r.box]at h3;cases h3
 have m5:¬nl=ll:=fun e=>by have h3:=hS.r.near;rw[e,hS.r.lin]at h3;cases h3
 have m6:¬nl=fl:=fun e=>by have h3:=hS.r.near;rw[e,hS.fac]at h3;cases h3
 have m7:¬pl=S:=fun e=>by have h3:=hS.r.plc;rw[e,hS.r.box]at h3;cases h3
 have m8:¬pl=fl:=fun e=>by have h3:=hS.r.plc;rw[e,hS.fac]at h3;cases h3
 have hn2':=hk2'.next;have hSb3:s3.H S=.box 136 7 [.sl 0 g.vs.length (us g.vs),.sl 0 g.es.length (eds g.es),.ms nl 0 g.vs.length,.mp pl,.mp ll,wv (mk g.vs (h.on++w)),.ms fl 0 h.F.length]:=by rw[e3];simp
 have hP3:s3.H pl=.map false [.u32] (wQ g.vs):=by rw[e3];simp[m7,n0,hS2.r.plc]
 have hL3:s3.H ll=.map true [.u32,.u32] le':=by rw[e3];simp[m3]
 have hN3:s3.H nl=.box 133 1 (mM g):=by rw[e3];simp[m4,m5,hS2.r.near]
 have hF3:s3.H fl=.box 144 2 (gW g.vs h.F):=by rw[e3];simp[m1,m2,hS2.fac]
 have hq3:s3.H q=.box 34 1 (us m.reverse):=by rw[e3];simp[show ¬q=S by omega,show ¬q=ll by omega,N7]
 have hK3:KM [S,ll,fl] st s3:=by rw[e3];exact((KM.of hk2').set (.inr sS) _).set (.inr sS) _
 clear e3 hS2 N7;have hb3:ShB g.vs S pl s3:=⟨⟨_,_,_,_,_,_,hSb3⟩,hP3⟩
 (apply cS;simp[];(refine zJ hJ ?_;clear hJ J))
 (repeat (apply qS))
 (refine zS [] [S] [0,2,4,6,8,10,12,14,16,20,18,22,24,26,29] ?_;intro J hJ;simp[hSb3])
 refine qD (Yo r i0 il s3 hi1 hi2 hrl oO) sS ?_;rintro v s4 ⟨⟨t,rfl,t0,t1,t2,tH⟩,I3⟩;refine⟨fun _ l hl=>?_,?_⟩
 .rw[aAk]at hl;rw[hl];exact I3.H S oO
 have Z7:=Ba r i0 il hi1 hi2;have hsl:=zV hi1 hi2;have hn4:=I3.next;have hq4:=(I3.H q oO).trans hq3;have c1:¬q=t:=oO;have c2:¬t=q:=oO;have hAv:∀ v∈jC r i0 il++m.reverse,v∈g.vs:=fun v hv=>by rw[aAd,aBp]at hv;exact hv.elim (fun h=>hrv v (Gy h)) (hmm v)
 have hSb4:=(I3.H S oO).trans hSb3;have hP4:=(I3.H pl oO).trans hP3;have hF4:=(I3.H fl oO).trans hF3;generalize jC r i0 il=A1 at *
 (apply bI;simp[tH,t0,hq4,c1,c2];(repeat refine ca ?_))
 have c3:¬S=s4.next:=oO;have c4:¬S=t:=oO;refine⟨(aAa c3).trans ((aAa c4).trans (I3.H S oO)),?_⟩;have hk4':aA s3 ((s4.set t cI.dead).new (.own 34 1 (A1.length+m.length))):=(I3.set t1 _).trans (aA.new _ _);have hn4':((s4.set t cI.dead).new (.own 34 1 (A1.length+m.length))).next=s4.next+1:=sS;generalize hs5:(s4.set t cI.dead).new (.own 34 1 (A1.length+m.length))=s5 at *;have hSb5:=(hk4'.H S oO).trans hSb3;have hP5:=(hk4'.H pl oO).trans hP3;have hF5:=(hk4'.H fl oO).trans hF3;refine qD (RK (vs:=g.vs) (S:=S) (pl:=pl) ⟨⟨_,_,_,_,_,_,hSb5⟩,hP5⟩ oO oO hn h64 (A1++m.reverse) s4.next hAv (by simp;omega)) sS ?_;rintro v s6 ⟨rfl,e6⟩;rw[e6];clear e6 s6;refine⟨fun _ l hl=>?_,?_⟩
 .rw[aAk]at hl;rw[hl];exact hk4'.H S oO
 (apply bI;simp[hF5,S8,hati,o8,U4];(repeat refine ca ?_);(refine zJ hJ ?_;clear hJ J))
 have hcell:(gW g.vs h.F).take (at' * 2)++LV.sl 0 (A1.length+m.length) (List.map u A1++(List.map u m).reverse)::wv (mk g.vs (A1++m.reverse))::(gW g.vs h.F).drop (at' * 2+2)=gW g.vs (h.F.set at' (A1++m.reverse)):=by have:=hsetF (A1++m.reverse);simpa using this
 rw[hcell];clear hcell;have hFl:(h.F.set at' (A1++m.reverse)).length=h.F.length:=sS;have hFs:∀ r∈h.F.set at' (A1++m.reverse),∀ v∈r,v∈g.vs:=fun r hr v hv=>by
  rcases List.mem_or_eq_of_mem_set hr with h1|h1
  .exact hS.sub r h1 v hv
  grind
 have hK5:KM [S,ll,fl] st (s5.set fl (.box 144 2 (gW g.vs (h.F.set at' (A1++m.reverse))))):=(hK3.keeps hk4').set (.inr sS) _;have hL5:=(hk4'.H ll oO).trans hL3;have hN5:=(hk4'.H nl oO).trans hN3;generalize hF':h.F.set at' (A1++m.reverse)=F1 at *;have n7:¬S=fl:=fun e=>m1 e.symm;have n8:¬ll=fl:=fun e=>m2 e.symm;generalize hs7:s5.set fl (.box 144 2 (gW g.vs F1))=s7 at *;have hn7:s7.next=s5.next:=by rw[<- hs7];rfl
 have hSb7:s7.H S=.box 136 7 [.sl 0 g.vs.length (us g.vs),.sl 0 g.es.length (eds g.es),.ms nl 0 g.vs.length,.mp pl,.mp ll,wv (mk g.vs (h.on++w)),.ms fl 0 h.F.length]:=by rw[<- hs7,bU,aAa n7];exact hSb5
 have hP7:s7.H pl=.map false [.u32] (wQ g.vs):=by rw[<- hs7,bU,aAa m8];exact hP5
 have hL7:s7.H ll=.map true [.u32,.u32] le':=by rw[<- hs7,bU,aAa n8];exact hL5
 have hN7:s7.H nl=.box 133 1 (mM g):=by rw[<- hs7,bU,aAa m6];exact hN5
 have hF7:s7.H fl=.box 144 2 (gW g.vs F1):=by rw[<- hs7];simp
 clear hs7 hSb5 hP5 hF5 hL5 hN5 hSb4 hP4 hF4 hSb3 hP3 hF3 hL3 hN3 hk4' I3 hs5 tH t0 t1 t2 hq4 hq3 hb3;have hFl7:=qI g.vs F1
 (repeat (apply qS))
 (refine zS [] [S] [0,2,4,6,8,10,12,14,16,20,18,22,24,26,29,30,32,35] ?_;intro J hJ;simp[hSb7])
 refine qD (Yo r il i0 s7 hi2 hi1 hrl oO) sS ?_;rintro v s8 ⟨⟨t',rfl,t0,t1,t2,tH⟩,hk8⟩;refine⟨fun _ l hl=>?_,?_⟩
 .rw[aAk]at hl;rw[hl];exact hk8.H S oO
 have hal2:=Ba r il i0 hi2 hi1;have hsl2:=zV hi2 hi1;have hn8:=hk8.next;have d1:¬S=s8.next:=oO;have d2:¬S=t':=oO;have hBv:∀ v∈jC r il i0++m,v∈g.vs:=fun v hv=>by rw[aAd]at hv;exact hv.elim (fun h=>hrv v (Gy h)) (hmm v)
 generalize jC r il i0=A2 at *
 (apply bI;simp[tH,t0];(repeat refine ca ?_))
 refine⟨(aAa d1).trans ((aAa d2).trans (hk8.H S oO)),?_⟩;have hk8':aA s7 ((s8.set t' cI.dead).new (.own 34 1 (A2.length+m.length))):=(hk8.set t1 _).trans (aA.new _ _);have hn8':((s8.set t' cI.dead).new (.own 34 1 (A2.length+m.length))).next=s8.next+1:=sS;generalize hs9:(s8.set t' cI.dead).new (.own 34 1 (A2.length+m.length))=s9 at *;have hSb9:=(hk8'.H S oO).trans hSb7;have hP9:=(hk8'.H pl oO).trans hP7;have hF9:=(hk8'.H fl oO).trans hF7;have hL9:=(hk8'.H ll oO).trans hL7;have hN9:=(hk8'.H nl oO).trans hN7;refine qD (RK (vs:=g.vs) (S:=S) (pl:=pl) ⟨⟨_,_,_,_,_,_,hSb9⟩,hP9⟩ oO oO hn h64 (A2++m) s8.next hBv (by simp;omega)) sS ?_;rintro v s6 ⟨rfl,e6⟩;rw[e6];clear e6 s6;refine⟨fun _ l hl=>?_,?_⟩
 .rw[aAk]at hl;grind
 have z1:¬fl=s9.next:=oO;have z2:¬S=s9.next:=oO;have z3:¬S=s9.next+1:=oO;have z4:¬s9.next=fl:=oO
 (apply bI;simp[hF9,hSb9,hFl,hFl7,z1,z2,z3,z4,n7,m1])
 refine⟨hSb7.symm,⟨oO,by unfold maxLen;omega⟩,hJ _ _ ?_⟩;clear hJ J;simp only[ak];have hfs:gW g.vs F1++[LV.sl 0 (A2.length+m.length) (List.map u A2++List.map u m),wv (mk g.vs (A2++m))]=gW g.vs (F1++[A2++m]):=by have:=Ms g.vs F1 (A2++m);simpa using this
 have hFl2:(F1++[A2++m]).length=h.F.length+1:=by rw[aAn,hFl];rfl
 rw[hfs,<- hFl2];clear hfs;refine xw0 ?_;simp only[yS];have hs10:KM [S,ll,fl] st ((((s9.new (.own 144 2 1)).set fl .dead).new (.box 144 2 (gW g.vs (F1++[A2++m])))).set S (.box 136 7 [.sl 0 g.vs.length (us g.vs),.sl 0 g.es.length (eds g.es),.ms nl 0 g.vs.length,.mp pl,.mp ll,wv (mk g.vs (h.on++w)),.ms (s9.next+1) 0 (F1++[A2++m]).length])):=by have:=(((hK5.keeps hk8').keeps (aA.new _ (.own 144 2 1))).set (q:=fl) (.inr sS) .dead);exact(this.keeps (aA.new _ _)).set (.inr sS) _
 refine⟨trivial,s9.next+1,le',⟨⟨sS,?_,?_,?_,J4,?_⟩,?_,sS,?_,?_,oO⟩,.inr oO,hs10⟩
 ·(repeat (first|rw[nHh nOo]|rw[sHh oO]|rw[nIi nQq]|rw[sIi oO]));omega
 ·(repeat (first|rw[nHh nOo]|rw[sHh oO]|rw[nIi nQq]|rw[sIi oO]));omega
 ·(repeat (first|rw[nHh nOo]|rw[sHh oO]|rw[nIi nQq]|rw[sIi oO]));omega
 .simp only[bT,aG];omega
 ·(repeat (first|rw[nHh nOo]|rw[sHh oO]|rw[nIi nQq]|rw[sIi oO]))
 .intro r hr v hv;rw[aAd,aAk]at hr;rcases hr with hr|hr
  .exact hFs r hr v hv
  .rw[hr]at hv;exact hBv v hv
 .intro v hv;rw[aAd]at hv;exact hv.elim (hS.onv v) (hwv v)
end Aw
end Go.Proofs.YtbgngpdonpeboaaGreatDoor
