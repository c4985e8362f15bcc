/- T5 at edges and at numbers: written by gentt.py. -/
import Derived.Test.YtempldclppogmaaGreatDoorJf
import Derived.Test.YtempldclppogmaaGreatDoorAwRg
set_option linter.unusedVariables false
set_option linter.unusedSimpArgs false
set_option linter.defProp false
set_option maxHeartbeats 4000000
open Go.Proofs.Tryz
namespace Go.Proofs.YtempldclppogmaaGreatDoor
open Go Go.RowKit Pl Aw
open Aw.U
theorem KE:(∀(P A:List Ed) (y:Ed) (S:List Ed) (q L p m:Nat) (NQ:FuncId) (cY:List LV) (Pc:St->Prop) (st:St) (YJ:Aw.fU NQ cY q Pc) (Zq:Pc st) (hq:q<st.next) (hA:Ris A) (hA2:A.length≠1) (hL:(P++A++y::S).length=L) (hl:L<=100000) (hp:P.length=p) (hm:m=p+A.length) (hH:st.H q=.box 56 3 (eds (P++A++y::S))),
 aB prog 211 [.ms q 0 L,i p,i m,i (m+1:Nat),.fn (.func NQ) cY] st (EP P A [y] S q st))/\(∀(P A:List Nu) (y:Nu) (S:List Nu) (q L p m:Nat) (NQ:FuncId) (cY:List LV) (Pc:St->Prop) (st:St) (YJ:Aw.U.fU NQ cY q Pc) (Zq:Pc st) (hq:q<st.next) (hA:Ris A) (hA2:A.length≠1) (hL:(P++A++y::S).length=L) (hl:L<=100000) (hp:P.length=p) (hm:m=p+A.length) (hH:st.H q=.box 34 1 (eds (P++A++y::S))),
 aB prog 210 [.ms q 0 L,i p,i m,i (m+1:Nat),.fn (.func NQ) cY] st (EP P A [y] S q st)):=by
 refine⟨?_,?_⟩
 all_goals
  intro P A y S q L p m NQ cY Pc st YJ Zq hq hA hA2 hL hl hp hm hH;have hLl:L=p+A.length+(1+S.length):=by rw[<- hL,<- hp];simp only[aAh,List.length_cons];omega
  have e1:IntKind.i64.wrap ((m:Int)-p)=(A.length:Int):=zW;have e2:IntKind.i64.wrap ((m:Int)+1-m)=1:=zW;have e3:¬(A.length:Int)=1:=oO
  first|(have _:List Ed:=P;refine zN func211 ntmps211 [] ?_)|refine zN func210 ntmps210 [] ?_
  (repeat' (first|apply qS|apply qB|refine qK (zZ ?_)|(apply qC;simp[e1,e2,e3,hA2])|(refine zE ?_;intro J hJ;simp[e1,e2,e3,hA2];refine zJ hJ ?_)))
  refine qL (fun z fr st2=>∃ k v:Nat,k<=v/\v<=A.length/\z=v-k/\fr 0=.ms q 0 L/\fr 2=i m/\fr 4=.fn (.func NQ) cY/\fr 14=i (p+k:Nat)/\fr 15=i (p+v:Nat)/\(∀ j,j<k->(A.getD j ed0).id<=y.id)/\(∀ j,v<=j->j<A.length->y.id<(A.getD j ed0).id)/\st2.H q=bxo (P++A++y::S)/\bK q st st2) A.length ?_ ?_
  .exact⟨0,A.length,oO,aAi _,rfl,sS,sS,sS,sS,by simp[hm],fun j h=>by omega,fun j h1 h2=>by omega,hH,bK.refl _ _⟩
  rintro z fr st2 ⟨k,v,hkv,hvB,rfl,f0,f2,f4,f14,f15,h1,h2,hD,Xz⟩ JJ hJJ;have P7:=YJ.keep _ _ Zq Xz;have Zi:q<st2.next:=by have:=Xz.1;omega
  by_cases dN:k<v
  .obtain⟨s,hs⟩:∃ s:Nat,s=(p+k)+(p+v):=⟨_,rfl⟩;obtain⟨h,hh⟩:∃ h:Nat,p+h=s / 2:=⟨s / 2-p,oO⟩;have wA:IntKind.i64.wrap ((p:Int)+k+(p+v))=(s:Int):=zW;have wB:=zH s oO;obtain⟨ph,hph⟩:∃ ph:Nat,ph=p+h:=⟨_,rfl⟩;have wC:=ER s ph oO;have wD:IntKind.i64.wrap (ph:Int)=(ph:Int):=zW;have wE:IntKind.i64.wrap ((ph:Int)+1)=((p+(h+1):Nat):Int):=zW;have g1:(P++A++y::S).getD m ed0=y:=DZ _ _ _ (by simp[hp,hm]);have g2:(P++A++y::S).getD ph ed0=A.getD h ed0:=by
    (first|rw[show P++A++y::S=P++(A++y::S) by simp,show ph=P.length+h by omega,Aw.BD,Aw.oW _ _ _ oO]|rw[show P++A++y::S=P++(A++y::S) by simp,show ph=P.length+h by omega,Aw.U.BD,Aw.U.oW _ _ _ oO])
   have F7:¬y.id<(A.getD h ed0).id->∀ j,j<h+1->(A.getD j ed0).id<=y.id:=fun h3 j hj=>by have:=iN hA (j:=j) (k:=h) oO oO;omega
   have YL:y.id<(A.getD h ed0).id->∀ j,h<=j->j<A.length->y.id<(A.getD j ed0).id:=fun h3 j hj hj2=>by have:=iN hA (j:=h) (k:=j) hj hj2;omega
   have hel:=aK (P++A++y::S);have da:=aR (P++A++y::S) m oO;have db:=aR (P++A++y::S) ph oO;rw[g1]at da;rw[g2]at db;rw[hL]at hel;have T7:∀ Xj Yy,Yy.H q=st2.H q->bK q st Yy->Xj 0=.ms q 0 L/\Xj 2=i m/\Xj 4=.fn (.func NQ) cY->((¬y.id<(A.getD h ed0).id/\Xj 14=i (p+(h+1):Nat)/\Xj 15=i (p+v:Nat))\/(y.id<(A.getD h ed0).id/\Xj 14=i (p+k:Nat)/\Xj 15=i (p+h:Nat)))->JJ Xj Yy:=by
    rintro Xj Yy k1 k2 ⟨k3,k4,k5⟩ (⟨k6,k7,k8⟩|⟨k6,k7,k8⟩)
    .exact hJJ (v-(h+1)) _ _ oO ⟨h+1,v,oO,hvB,rfl,k3,k4,k5,k7,k8,F7 k6,h2,k1.trans hD,k2⟩
    .exact hJJ (h-k) _ _ oO ⟨k,h,oO,oO,rfl,k3,k4,k5,k7,k8,h1,YL k6,k1.trans hD,k2⟩
   clear hJJ F7 YL h1 h2;have M3:=YJ.call st2 y (A.getD h ed0) P7;have Ya:=pT y (A.getD h ed0);generalize hx:A.getD h ed0=x at *;generalize hc:P++A++y::S=c at *;generalize sU y x=cv at *;have hA4:ph<L:=oO;have hB4:m<L:=oO;have hkv':(p:Int)+k<p+v:=oO
   (repeat' (first|apply qS|apply qB|refine qK (zZ ?_)|(apply qC;simp[f14,f15,hkv',dN,wA,wB,wC,wD])|(refine zE ?_;intro J hJ;simp[f14,f15,hkv',dN,wA,wB,wC,wD];refine zJ hJ ?_)))
   (refine zS [] [q] [0,2,4,6,8,10,12,14,16,19,20,22] ?_;intro J hJ;simp[f0,f2,f4,hD,da,db,hel];(repeat refine ca ?_))
   refine aJ M3 ?_;rintro r s4 ⟨rfl,Yh⟩;have O3:=Yh.H q Zi;refine⟨fun _=>by simp[O3,hD],?_⟩;by_cases Yk:y.id<x.id
   .have U4:cv<0:=by rw[aBy Yk]at Ya;exact aBY Ya
    (apply aV;simp[U4,O3,hD];refine zJ hJ ?_)
    (repeat' (first|(apply qC;simp[])|(refine zE ?_;intro J hJ;simp[];refine zJ hJ ?_)))
    exact T7 _ _ O3 (Xz.keeps Yh) ⟨by simp[f0],by simp[f2],by simp[f4]⟩ (.inr ⟨Yk,by simp[f14],by simp[hph]⟩)
   .have U4:¬cv<0:=by rw[aBM Yk]at Ya;exact aDa Ya
    (apply aV;simp[U4,O3,hD];refine zJ hJ ?_)
    (repeat' (first|(apply qC;simp[wE])|(refine zE ?_;intro J hJ;simp[wE];refine zJ hJ ?_)))
    exact T7 _ _ O3 (Xz.keeps Yh) ⟨by simp[f0],by simp[f2],by simp[f4]⟩ (.inl ⟨Yk,sS,by simp[f15]⟩)
  clear hJJ;obtain rfl:k=v:=oO;have hR:=EL hA hvB h1 (fun j hj hj2=>by have:=h2 j hj hj2;omega);clear h1 h2
  (repeat' (first|apply qS|apply qB|refine qX (zZ ?_)|(apply qC;simp[f2,f14,f15])|(refine zE ?_;intro J hJ;simp[f2,f14,f15];refine zJ hJ ?_)))
  refine qL (fun z fr Yy=>∃ t:Nat,k<=t/\t<=A.length/\z=t/\fr 0=.ms q 0 L/\fr 14=i (p+k:Nat)/\fr 17=i (p+t:Nat)/\Yy.H q=bxo (P++A.take t++y::(A.drop t++S))/\bK q st Yy) A.length ?_ ?_
  .exact⟨A.length,oO,oO,rfl,by simp[f0],by simp[f14],by simp[hm],by simp;rw[hD];simp,Xz⟩
  clear f0 f2 f4 f14 f15 hD Xz P7 Zi fr st2;rintro t fr st2 ⟨t0,hkt,htA,rfl,f0,f14,f17,hD,Xz⟩ JJ hJJ;by_cases dN:k<t;rotate_left
  .clear hJJ;obtain rfl:t=k:=oO;have Xl:¬((p:Int)+t<p+t):=oO
   (repeat' (first|apply qS|refine qX (zZ ?_)|(refine qR (zZ ?_);simp[f14,f17,Xl])|(apply qC;simp[f14,f17,Xl])|(refine zE ?_;intro J hJ;simp[f14,f17,Xl];refine zJ hJ ?_)))
   refine⟨_,?_,hR,by rw[hD];simp,Xz⟩;refine aBW.trans ?_;rw[aAH];exact(List.perm_append_singleton y A).symm
  obtain⟨t',rfl⟩:∃ t',t=t'+1:=⟨t-1,oO⟩;have hce:P++A.take (t'+1)++y::(A.drop (t'+1)++S)=(P++A.take t')++A.getD t' ed0::y::(A.drop (t'+1)++S):=by rw[Pt A t' oO];simp
  have hUl:(P++A.take t').length=p+t':=by simp[hp];omega
  have YK:(((P++A.take t')++A.getD t' ed0::y::(A.drop (t'+1)++S)).set (p+t'+1) (A.getD t' ed0)).set (p+t') y=P++A.take t'++y::(A.drop t'++S):=by rw[show(P++A.take t')++A.getD t' ed0::y::(A.drop (t'+1)++S)=(P++A.take t'++[A.getD t' ed0])++y::(A.drop (t'+1)++S) by simp];rw[LN _ _ _ _ (by simp[hp];omega)];rw[show(P++A.take t'++[A.getD t' ed0])++A.getD t' ed0::(A.drop (t'+1)++S)=(P++A.take t')++A.getD t' ed0::(A.getD t' ed0::(A.drop (t'+1)++S)) by simp];rw[LN _ _ _ _ hUl.symm,Ig A t' oO];simp
  have g1:=DZ (P++A.take t') (A.getD t' ed0) (y::(A.drop (t'+1)++S)) (j:=p+t') hUl.symm;have g2:((P++A.take t')++A.getD t' ed0::y::(A.drop (t'+1)++S)).getD (p+t'+1) ed0=y:=by rw[show(P++A.take t')++A.getD t' ed0::y::(A.drop (t'+1)++S)=(P++A.take t'++[A.getD t' ed0])++y::(A.drop (t'+1)++S) by simp];exact DZ _ _ _ (by simp[hp];omega)
  have Xk:((P++A.take t')++A.getD t' ed0::y::(A.drop (t'+1)++S)).length=L:=by rw[<- hce];simp only[aAh,List.length_cons,aAo,aAN];omega
  rw[hce]at hD;generalize A.getD t' ed0=x at *;generalize hc:(P++A.take t')++x::y::(A.drop (t'+1)++S)=c at *;obtain⟨k1,Xn⟩:∃ k1:Nat,k1=p+t':=⟨_,rfl⟩;rw[<- Xn]at g1 g2 YK;have hel:=aK c;have da:=aR c k1 oO;have db:=aR c (k1+1) oO;rw[g1]at da;rw[g2]at db;rw[Xk]at hel;have wG':IntKind.i64.wrap (k1:Int)=(k1:Int):=vT _ oO oO;have f17':fr 17=i ((k1:Int)+1):=by rw[f17,Xn];simp;omega
  have hA4:k1+1<L:=oO;have hB4:k1<L:=oO;have hgt:(p:Int)+k<(k1:Int)+1:=oO
  (repeat' (first|apply qS|apply qB|refine qK (zZ ?_)|(apply qC;simp[f14,f17',hgt])|(refine zE ?_;intro J hJ;simp[f14,f17',hgt];refine zJ hJ ?_)))
  (refine zS [] [q] [0,2,4,6,8,10,12,14,16,18,20,22,24,26,28,31,32,35] ?_;intro J hJ;simp[f0,f17',hD,da,db,hel,Xk,wG'];(repeat refine ca ?_);refine zJ hJ ?_)
  have e1:=gG c (k1+1) x oO;have e2:=gG (c.set (k1+1) x) k1 y (by simp;omega);rw[e1,e2,YK,St.set_set]
  (repeat' (refine zE ?_;intro J hJ;simp[f17',wG'];refine zJ hJ ?_))
  exact hJJ t' _ _ oO ⟨t',oO,oO,rfl,by simp[f0],by simp[f14],by simp;omega,sS,Xz.set _⟩
def Aw.Vi:=KE.1
def Aw.U.Vi:=KE.2
open Go Go.RowKit Pl Aw
open Aw.U
namespace Aw
def VD(P A1 B1 R:List Ed)(q:Nat)(st st2:St):Prop:=EP P A1 B1 R q st (.tu []) st2
end Aw
namespace Aw.U
def VD(P A1 B1 R:List Nu)(q:Nat)(st st2:St):Prop:=EP P A1 B1 R q st (.tu []) st2
end Aw.U
namespace Aw
theorem Bg{P:Program}{N:Nat}{Q:AQ}{k:List fS}{fr:Frm}{st:St}{x:Code}(I:Frm->St->Prop)(h1:AWp P N x (AK P N (fun e f s=>e=.normal/\I f s) []) fr st)(h2:∀ fr st,I fr st->AK P N Q k .normal fr st):AWp P N x (AK P N Q k) fr st:=by refine cZ h1 ?_;rintro e Xj st' ⟨rfl,hI⟩;exact h2 _ _ hI
end Aw
theorem xI:(∀(q L:Nat) (NQ:FuncId) (cY:List LV) (Pc:St->Prop) (YJ:Aw.fU NQ cY q Pc) (hl:L<=100000),
 ∀(n:Nat) (P A B S:List Ed) (p m b:Nat) (st:St),A.length+B.length<=n->A≠[]->B≠[]->Ris A->Ris B->(P++A++B++S).length=L->P.length=p->m=p+A.length->b=m+B.length->Pc st->q<st.next->st.H q=.box 56 3 (eds (P++A++B++S))->
 aB prog 211 [.ms q 0 L,i p,i m,i b,.fn (.func NQ) cY] st (EP P A B S q st))/\(∀(q L:Nat) (NQ:FuncId) (cY:List LV) (Pc:St->Prop) (YJ:Aw.U.fU NQ cY q Pc) (hl:L<=100000),
 ∀(n:Nat) (P A B S:List Nu) (p m b:Nat) (st:St),A.length+B.length<=n->A≠[]->B≠[]->Ris A->Ris B->(P++A++B++S).length=L->P.length=p->m=p+A.length->b=m+B.length->Pc st->q<st.next->st.H q=.box 34 1 (eds (P++A++B++S))->
 aB prog 210 [.ms q 0 L,i p,i m,i b,.fn (.func NQ) cY] st (EP P A B S q st)):=by
 refine⟨?_,?_⟩
 all_goals
  intro q L NQ cY Pc YJ hl;intro n;induction n with
  |zero=>intro P A B S p m b st hn hA;have:=aBi.2 hA;omega
  |succ n ih=>
  intro P A B S p m b st hn hA hB rA rB hL hp hm hb Zq hq hH;have hA0:=aBi.2 hA;have P2:=aBi.2 hB;by_cases L3:A.length=1
  .obtain⟨x,rfl⟩:∃ x,A=[x]:=aDB.1 L3;have e:P++[x]++B++S=P++x::B++S:=sS;rw[e]at hH hL;subst hb;exact VN P x B S q L p m NQ cY Pc st YJ Zq hq rB hL hl hp (by simpa using hm) hH
  by_cases Zj:B.length=1
  .obtain⟨y,rfl⟩:∃ y,B=[y]:=aDB.1 Zj;have e:P++A++[y]++S=P++A++y::S:=sS;rw[e]at hH hL;subst hb;exact Vi P A y S q L p m NQ cY Pc st YJ Zq hq rA L3 hL hl hp hm hH
  have hLl:L=p+A.length+B.length+S.length:=by rw[<- hL,<- hp];simp only[aAh]
  obtain⟨s,hs⟩:∃ s:Nat,s=p+b:=⟨_,rfl⟩;obtain⟨YB,hmid⟩:∃ YB:Nat,YB=s / 2:=⟨_,rfl⟩;obtain⟨nn,hnn⟩:∃ nn:Nat,nn=YB+m:=⟨_,rfl⟩;obtain⟨pp,W2⟩:∃ pp:Nat,nn=pp+1:=⟨nn-1,oO⟩;have e1:IntKind.i64.wrap ((m:Int)-p)=(A.length:Int):=zW;have e2:IntKind.i64.wrap ((b:Int)-m)=(B.length:Int):=zW;have wA:IntKind.i64.wrap ((p:Int)+b)=(s:Int):=zW;have wB:=zH s oO;have wC:=ER s YB hmid;have wD:IntKind.i64.wrap (YB:Int)=(YB:Int):=zW;have wN:IntKind.i64.wrap ((YB:Int)+m)=(nn:Int):=zW;have wP:IntKind.i64.wrap ((nn:Int)-1)=(pp:Int):=zW;obtain⟨s0,hs0⟩:∃ s0:Nat,s0=if YB<m then nn-b else p:=⟨_,rfl⟩
  obtain⟨r0,G1⟩:∃ r0:Nat,r0=if YB<m then YB else m:=⟨_,rfl⟩
  have hsr:p<=s0/\s0<=r0/\r0<=m/\r0<=YB/\nn<=s0+b:=by
   by_cases h:YB<m
   .rw[aAe h]at hs0 G1;omega
   .rw[aAa h]at hs0 G1;omega
  first|(have _:List Ed:=P;refine zN func211 ntmps211 [] ?_)|refine zN func210 ntmps210 [] ?_
  (repeat' (first|apply qS|(refine zE ?_;intro J hJ;simp[e1];refine zJ hJ ?_)))
  (apply qC;simp[L3];(try with_reducible refine⟨?_,?_⟩)<;>(try with_reducible intro hc)<;>try (exfalso;omega))
  (repeat' (first|apply qS|refine qK (zZ ?_)|(refine zE ?_;intro J hJ;simp[e2];refine zJ hJ ?_)))
  (apply qC;simp[Zj];(try with_reducible refine⟨?_,?_⟩)<;>(try with_reducible intro hc)<;>try (exfalso;omega))
  (repeat' (first|apply qS|refine qK (zZ ?_)|(refine zE ?_;intro J hJ;simp[wA,wB,wC,wD,wN];refine zJ hJ ?_)))
  refine bB (fun fr st2=>fr 0=.ms q 0 L/\fr 1=i p/\fr 2=i m/\fr 3=i b/\fr 4=.fn (.func NQ) cY/\fr 18=i YB/\fr 19=i nn/\fr 20=i s0/\fr 21=i r0/\st2=st) ?_ ?_
  .by_cases h:YB<m
   .rw[aAe h]at hs0 G1;have w1:IntKind.i64.wrap ((nn:Int)-b)=(s0:Int):=zW
    (repeat' (first|apply qS|(apply qC;simp[h,w1,G1])|(refine zE ?_;intro J hJ;simp[h,w1,G1];refine zJ hJ ?_)))
    simp[G1]
   .rw[aAa h]at hs0 G1
    (repeat' (first|apply qS|(apply qC;simp[h,hs0,G1])|(refine zE ?_;intro J hJ;simp[h,hs0,G1];refine zJ hJ ?_)))
    simp[hs0,G1]
  rintro fr st2 ⟨f0,f1,f2,f3,f4,f18,f19,f20,f21,rfl⟩
  (repeat' (first|apply qS|apply qB|(refine zE ?_;intro J hJ;simp[f19,wP];refine zJ hJ ?_)))
  refine qL (fun z fr Yy=>∃ k v:Nat,s0<=k/\k<=v/\v<=r0/\z=v-k/\fr 0=.ms q 0 L/\fr 1=i p/\fr 2=i m/\fr 3=i b/\fr 4=.fn (.func NQ) cY/\fr 18=i YB/\fr 19=i nn/\fr 20=i k/\fr 21=i v/\fr 22=i pp/\(s0<k->(A.getD (k-1-p) ed0).id<=(B.getD (YB-k) ed0).id)/\(v<r0->(B.getD (YB-v-1) ed0).id<(A.getD (v-p) ed0).id)/\Yy.H q=bxo (P++A++B++S)/\bK q st2 Yy) (r0-s0) ?_ ?_
  .exact⟨s0,r0,aAi _,oO,aAi _,rfl,by simp[f0],by simp[f1],by simp[f2],by simp[f3],by simp[f4],by simp[f18],by simp[f19],by simp[f20],by simp[f21],sS,fun h=>by omega,fun h=>by omega,hH,bK.refl _ _⟩
  clear f0 f1 f2 f3 f4 f18 f19 f20 f21 fr;rintro z fr Yy ⟨k,v,Yj,hkv,hv0,rfl,f0,f1,f2,f3,f4,f18,f19,f20,f21,f22,h1,h2,hD,Xz⟩ JJ hJJ;have P7:=YJ.keep _ _ Zq Xz;have Y8:q<Yy.next:=by have:=Xz.1;omega
  by_cases dN:k<v
  .obtain⟨s',J5⟩:∃ s':Nat,s'=k+v:=⟨_,rfl⟩;obtain⟨c,hc⟩:∃ c:Nat,c=s' / 2:=⟨_,rfl⟩;obtain⟨d,hd⟩:∃ d:Nat,d=pp-c:=⟨_,rfl⟩;have w1:IntKind.i64.wrap ((k:Int)+v)=(s':Int):=zW;have w2:=zH s' oO;have w3:=ER s' c hc;have w4:IntKind.i64.wrap (c:Int)=(c:Int):=zW;have w5:IntKind.i64.wrap ((pp:Int)-c)=(d:Int):=zW;have w6:IntKind.i64.wrap ((c:Int)+1)=((c+1:Nat):Int):=zW;have g1:(P++A++B++S).getD d ed0=B.getD (YB-c-1) ed0:=by
    (first|rw[show P++A++B++S=(P++A)++(B++S) by simp,show d=(P++A).length+(YB-c-1) by simp;omega,Aw.BD,Aw.oW _ _ _ oO]|rw[show P++A++B++S=(P++A)++(B++S) by simp,show d=(P++A).length+(YB-c-1) by simp;omega,Aw.U.BD,Aw.U.oW _ _ _ oO])
   have g2:(P++A++B++S).getD c ed0=A.getD (c-p) ed0:=by have h3:=BD P (A++(B++S)) (c-p);rw[oW A (B++S) (c-p) oO,hp,show p+(c-p)=c by omega]at h3;rw[<- h3];simp
   have hel:=aK (P++A++B++S);have da:=aR (P++A++B++S) d oO;have db:=aR (P++A++B++S) c oO;rw[g1]at da;rw[g2]at db;rw[hL]at hel;have T7:∀ Xj Q8,Q8.H q=Yy.H q->bK q st2 Q8->(Xj 0=.ms q 0 L/\Xj 1=i p/\Xj 2=i m/\Xj 3=i b/\Xj 4=.fn (.func NQ) cY/\Xj 18=i YB/\Xj 19=i nn/\Xj 22=i pp)->((¬(B.getD (YB-c-1) ed0).id<(A.getD (c-p) ed0).id/\Xj 20=i (c+1:Nat)/\Xj 21=i v)\/((B.getD (YB-c-1) ed0).id<(A.getD (c-p) ed0).id/\Xj 20=i k/\Xj 21=i c))->JJ Xj Q8:=by
    rintro Xj Q8 k1 k2 ⟨k3,k4,k5,k6,k7,k8,k9,k10⟩ (⟨j1,j2,j3⟩|⟨j1,j2,j3⟩)
    .exact hJJ (v-(c+1)) _ _ oO ⟨c+1,v,oO,oO,hv0,rfl,k3,k4,k5,k6,k7,k8,k9,j2,j3,k10,fun _=>by rw[aCd,<- Nat.sub_sub];omega,h2,k1.trans hD,k2⟩
    .exact hJJ (c-k) _ _ oO ⟨k,c,Yj,oO,oO,rfl,k3,k4,k5,k6,k7,k8,k9,j2,j3,k10,h1,fun _=>j1,k1.trans hD,k2⟩
   clear hJJ h1 h2;have M3:=YJ.call Yy (B.getD (YB-c-1) ed0) (A.getD (c-p) ed0) P7;have Ya:=pT (B.getD (YB-c-1) ed0) (A.getD (c-p) ed0);generalize B.getD (YB-c-1) ed0=y at *;generalize A.getD (c-p) ed0=x at *;generalize hce:P++A++B++S=cc at *;generalize sU y x=cv at *;have hA4:d<L:=oO;have hB4:c<L:=oO
   (repeat' (first|apply qS|apply qB|refine qK (zZ ?_)|(apply qC;simp[f20,f21,dN,w1,w2,w3,w4])|(refine zE ?_;intro J hJ;simp[f20,f21,dN,w1,w2,w3,w4];refine zJ hJ ?_)))
   (refine zS [] [q] [0,2,4,6,8,10,12,14,16,18,20,23,24,26] ?_;intro J hJ;simp[f0,f4,f22,hD,da,db,hel,w5];(repeat refine ca ?_))
   refine aJ M3 ?_;rintro r s4 ⟨rfl,Yh⟩;have O3:=Yh.H q Y8;refine⟨fun _=>by simp[O3,hD],?_⟩;by_cases Yk:y.id<x.id
   .have U4:cv<0:=by rw[aBy Yk]at Ya;exact aBY Ya
    (apply aV;simp[U4,O3,hD];refine zJ hJ ?_)
    (repeat' (first|(apply qC;simp[])|(refine zE ?_;intro J hJ;simp[];refine zJ hJ ?_)))
    exact T7 _ _ O3 (Xz.keeps Yh) ⟨by simp[f0],by simp[f1],by simp[f2],by simp[f3],by simp[f4],by simp[f18],by simp[f19],by simp[f22]⟩ (.inr ⟨Yk,by simp[f20],sS⟩)
   .have U4:¬cv<0:=by rw[aBM Yk]at Ya;exact aDa Ya
    (apply aV;simp[U4,O3,hD];refine zJ hJ ?_)
    (repeat' (first|(apply qC;simp[w6])|(refine zE ?_;intro J hJ;simp[w6];refine zJ hJ ?_)))
    exact T7 _ _ O3 (Xz.keeps Yh) ⟨by simp[f0],by simp[f1],by simp[f2],by simp[f3],by simp[f4],by simp[f18],by simp[f19],by simp[f22]⟩ (.inl ⟨Yk,sS,by simp[f21]⟩)
  clear hJJ;obtain rfl:k=v:=oO;have Y0:Cut A B (k-p) (YB-k):=by
   refine⟨oO,oO,?_,?_⟩
   .by_cases h:s0<k
    .refine .inr (.inr ?_);have:=h1 h
     rwa [show k-1-p=k-p-1 by omega]at this
    .by_cases h3:YB<m
     .rw[aAe h3]at hs0;exact .inr (.inl oO)
     .rw[aAa h3]at hs0;exact .inl oO
   .by_cases h:k<r0
    .refine .inr (.inr ?_);have:=h2 h;omega
    .by_cases h3:YB<m
     .rw[aAe h3]at G1;exact .inl oO
     .rw[aAa h3]at G1;exact .inr (.inl oO)
  have hj:=fun C D=>Cut.join (C:=C) (D:=D) rA rB Y0;have rA1:Ris (A.take (k-p)):=aDl (List.take_sublist _ _) rA;have rA2:Ris (A.drop (k-p)):=aDl (List.drop_sublist _ _) rA;have rB1:Ris (B.take (YB-k)):=aDl (List.take_sublist _ _) rB;have rB2:Ris (B.drop (YB-k)):=aDl (List.drop_sublist _ _) rB;have lA1:(A.take (k-p)).length=k-p:=by rw[aAo];omega
  have lA2:(A.drop (k-p)).length=m-k:=by rw[aAN];omega
  have lB1:(B.take (YB-k)).length=YB-k:=by rw[aAo];omega
  have lB2:(B.drop (YB-k)).length=b-m-(YB-k):=by rw[aAN];omega
  have eA:=aAH (k-p) A;have eB:=aAH (YB-k) B;obtain⟨ed,hed⟩:∃ ed:Nat,ed=nn-k:=⟨_,rfl⟩;have wE:IntKind.i64.wrap ((nn:Int)-k)=(ed:Int):=zW;clear Y0 h1 h2;generalize A.take (k-p)=A1 at *;generalize A.drop (k-p)=A2 at *;generalize B.take (YB-k)=B1 at *;generalize B.drop (YB-k)=B2 at *;have nz:∀ {l:List (Bv P)} {j:Nat},l.length=j->0<j->l≠[]:=fun h1 h2 h3=>by subst h3;simp at h1;omega
  have zz:∀ {l:List (Bv P)} {j:Nat},l.length=j->j=0->l=[]:=fun h1 h2=>aAE oO;have hD':Yy.H q=bxo ((P++A1)++A2++B1++(B2++S)):=by rw[hD,<- eA,<- eB];simp
  have N5:((P++A1)++A2++B1++(B2++S)).length=L:=by simp only[aAh];omega
  have hpA:(P++A1).length=k:=by simp only[aAh];omega
  clear hD;have Xy:¬(k:Int)<k:=oO
  (repeat' (first|apply qS|(refine zE ?_;intro J hJ;simp[f20,f21];refine zJ hJ ?_)))
  (apply qC;simp[Xy])
  refine qX (zZ ?_)
  (repeat (apply qS))
  (refine zE ?_;intro J hJ;simp[f19,f20,wE];refine zJ hJ ?_)
  (repeat (apply qS))
  refine Bg (fun Xj Q8=>(Xj 0=.ms q 0 L/\Xj 1=i p/\Xj 2=i m/\Xj 3=i b/\Xj 4=.fn (.func NQ) cY/\Xj 18=i YB/\Xj 20=i k/\Xj 24=i ed/\Xj 185=bb (decide (k<m/\m<ed)))/\Q8=Yy) ?_ ?_
  .by_cases c1:k<m
   .by_cases c2:m<ed
    ·(refine zE ?_;intro J hJ;simp[f20,f2,c1,c2];refine zJ hJ ?_)
     simp[f0,f1,f2,f3,f4,f18,f20,c1,c2]
    ·(refine zE ?_;intro J hJ;simp[f20,f2,c1,c2];refine zJ hJ ?_)
     simp[f0,f1,f2,f3,f4,f18,f20,c1,c2]
   ·(refine zE ?_;intro J hJ;simp[f20,f2,c1];refine zJ hJ ?_)
    simp[f0,f1,f2,f3,f4,f18,f20,c1]
  clear f0 f1 f2 f3 f4 f18 f19 f20 f21 f22 fr;rintro fr Q8 ⟨⟨f0,f1,f2,f3,f4,f18,f20,f24,f185⟩,rfl⟩;simp only[ak]
  (repeat (apply qS))
  refine bB (fun Xj st5=>(Xj 0=.ms q 0 L/\Xj 1=i p/\Xj 3=i b/\Xj 4=.fn (.func NQ) cY/\Xj 18=i YB/\Xj 20=i k/\Xj 24=i ed)/\st5.H q=bxo (P++A1++B1++(A2++B2++S))/\bK q st2 st5) ?_ ?_
  .by_cases c:k<m/\m<ed
   .rw[aBy c]at f185;have YS:=OE (P++A1) A2 B1 (B2++S) q (.func NQ) cY Q8 (nz lA2 oO) (nz lB1 oO) oO hD';rw[hpA,lA2,lB1,show k+(m-k)=m by omega,show m+(YB-k)=ed by omega,N5]at YS;have e9:P++A1++B1++A2++(B2++S)=P++A1++B1++(A2++B2++S):=sS;rw[e9]at YS;generalize P++A1++B1++(A2++B2++S)=cc at *
    (repeat' (first|(apply qC;simp[f185,f0,f20,f2,f24,f4])|(refine zE ?_;intro J hJ;simp[f185,f0,f20,f2,f24,f4])))
    refine qE YS sS ?_;rintro r s5 rfl
    (repeat' (apply aD;simp[];refine zJ hJ ?_))
    simp[f0,f1,f3,f4,f18,f20,f24];exact Xz.set _
   .rw[aBM c]at f185;have e9:(P++A1)++A2++B1++(B2++S)=P++A1++B1++(A2++B2++S):=by
     by_cases c1:k<m
     .rw[zz lB1 oO];simp
     .rw[zz lA2 oO];simp
    rw[e9]at hD';generalize P++A1++B1++(A2++B2++S)=cc at *
    (repeat' (first|refine qK (zZ ?_)|(apply qC;simp[f185])))
    simp[f0,f1,f3,f4,f18,f20,f24,hD',Xz]
  clear f0 f1 f2 f3 f4 f18 f20 f24 f185 hD' Xz Y8 P7 fr;rintro fr st5 ⟨⟨f0,f1,f3,f4,f18,f20,f24⟩,hD,Xz⟩
  (repeat (apply qS))
  refine Bg (fun Xj st6=>(Xj 0=.ms q 0 L/\Xj 1=i p/\Xj 3=i b/\Xj 4=.fn (.func NQ) cY/\Xj 18=i YB/\Xj 20=i k/\Xj 24=i ed/\Xj 199=bb (decide (p<k/\k<YB)))/\st6=st5) ?_ ?_
  .by_cases c1:p<k
   .by_cases c2:k<YB
    ·(refine zE ?_;intro J hJ;simp[f20,f1,f18,c1,c2];refine zJ hJ ?_)
     simp[f0,f1,f3,f4,f18,f20,f24,c1,c2]
    ·(refine zE ?_;intro J hJ;simp[f20,f1,f18,c1,c2];refine zJ hJ ?_)
     simp[f0,f1,f3,f4,f18,f20,f24,c1,c2]
   ·(refine zE ?_;intro J hJ;simp[f20,f1,c1];refine zJ hJ ?_)
    simp[f0,f1,f3,f4,f18,f20,f24,c1]
  clear f0 f1 f3 f4 f18 f20 f24 fr;rintro fr st6 ⟨⟨f0,f1,f3,f4,f18,f20,f24,f199⟩,rfl⟩;simp only[ak]
  (repeat (apply qS))
  refine bB (fun Xj st7=>(Xj 0=.ms q 0 L/\Xj 3=i b/\Xj 4=.fn (.func NQ) cY/\Xj 18=i YB/\Xj 24=i ed)/\VD P A1 B1 (A2++B2++S) q st2 st7) ?_ ?_
  .have hP6:=YJ.keep _ _ Zq Xz;have hq6:q<st6.next:=by have:=Xz.1;omega
   by_cases c:p<k/\k<YB
   .rw[aBy c]at f199;have YS:=ih P A1 B1 (A2++B2++S) p k YB st6 oO (nz lA1 oO) (nz lB1 oO) rA1 rB1 (by simp only[aAh];omega) hp oO oO hP6 hq6 hD
    (repeat' (first|(apply qC;simp[f199,f0,f1,f20,f18,f4])|(refine zE ?_;intro J hJ;simp[f199,f0,f1,f20,f18,f4])))
    refine qE YS sS ?_;rintro r s7 ⟨C,k1,k2,k3,k4⟩
    (repeat' (apply aD;simp[];refine zJ hJ ?_))
    simp[f0,f3,f4,f18,f24];exact⟨C,k1,k2,by rw[k3];simp,Xz.trans k4⟩
   .rw[aBM c]at f199;have e9:Ris (A1++B1):=by
     by_cases c1:p<k
     .rw[zz lB1 oO,aAP];exact rA1
     .rw[zz lA1 oO,List.nil_append];exact rB1
    (repeat' (first|refine qK (zZ ?_)|(apply qC;simp[f199])))
    simp[f0,f3,f4,f18,f24];exact⟨A1++B1,.refl _,e9,by rw[hD];simp,Xz⟩
  clear f0 f1 f3 f4 f18 f20 f24 f199 hD Xz fr;rintro fr st7 ⟨⟨f0,f3,f4,f18,f24⟩,C,c1,c2,hD,Xz⟩;have lC:=c1.length_eq;rw[aAh,lA1,lB1]at lC;have hD:st7.H q=bxo (P++C++A2++B2++S):=by rw[hD];simp
  (repeat (apply qS))
  refine Bg (fun Xj st8=>(Xj 0=.ms q 0 L/\Xj 3=i b/\Xj 4=.fn (.func NQ) cY/\Xj 18=i YB/\Xj 24=i ed/\Xj 213=bb (decide (YB<ed/\ed<b)))/\st8=st7) ?_ ?_
  .by_cases c1:YB<ed
   .by_cases c2:ed<b
    ·(refine zE ?_;intro J hJ;simp[f24,f3,f18,c1,c2];refine zJ hJ ?_)
     simp[f0,f3,f4,f18,f24,c1,c2]
    ·(refine zE ?_;intro J hJ;simp[f24,f3,f18,c1,c2];refine zJ hJ ?_)
     simp[f0,f3,f4,f18,f24,c1,c2]
   ·(refine zE ?_;intro J hJ;simp[f24,f18,c1];refine zJ hJ ?_)
    simp[f0,f3,f4,f18,f24,c1]
  clear f0 f3 f4 f18 f24 fr;rintro fr st8 ⟨⟨f0,f3,f4,f18,f24,f213⟩,rfl⟩;simp only[ak];have hP8:=YJ.keep _ _ Zq Xz;have hq8:q<st8.next:=by have:=Xz.1;omega
  by_cases c:YB<ed/\ed<b
  .rw[aBy c]at f213;have YS:=ih (P++C) A2 B2 S YB ed b st8 oO (nz lA2 oO) (nz lB2 oO) rA2 rB2 (by simp only[aAh];omega) (by simp only[aAh];omega) oO oO hP8 hq8 hD
   (repeat' (first|(apply qC;simp[f213,f0,f3,f24,f18,f4])|(refine zE ?_;intro J hJ;simp[f213,f0,f3,f24,f18,f4])))
   refine qE YS sS ?_;rintro r s9 ⟨D,k1,k2,k3,k4⟩
   (repeat' (apply aD;simp[];refine zJ hJ ?_))
   obtain⟨j1,j2⟩:=hj C D c1 k1 c2 k2;exact⟨trivial,C++D,j1,j2,by rw[k3];simp,Xz.trans k4⟩
  .rw[aBM c]at f213;have e9:Ris (A2++B2):=by
    by_cases c1:YB<ed
    .rw[zz lB2 oO,aAP];exact rA2
    .rw[zz lA2 oO,List.nil_append];exact rB2
   (repeat' (first|refine qK (zZ ?_)|(apply qC;simp[f213])))
   obtain⟨j1,j2⟩:=hj C (A2++B2) c1 (.refl _) c2 e9;exact⟨trivial,C++(A2++B2),j1,j2,by rw[hD];simp,Xz⟩
def Aw.Ho:=xI.1
def Aw.U.Ho:=xI.2
open Go Go.RowKit Pl Aw
open Aw.U
namespace Aw
structure Mgd(D D':List Ed)(lo hi:Nat):Prop where
 len:D'.length=D.length
 perm:D'.Perm D
 out:∀ j,j<lo\/hi<=j->D'.getD j ed0=D.getD j ed0
 inn:∀ j k,lo<=j->j<=k->k<hi->(D'.getD j ed0).id<=(D'.getD k ed0).id
end Aw
namespace Aw.U
structure Mgd(D D':List Nu)(lo hi:Nat):Prop where
 len:D'.length=D.length
 perm:D'.Perm D
 out:∀ j,j<lo\/hi<=j->D'.getD j ed0=D.getD j ed0
 inn:∀ j k,lo<=j->j<=k->k<hi->(D'.getD j ed0).id<=(D'.getD k ed0).id
end Aw.U
theorem OI:(∀ ⦃D P X S C:List Ed⦄ (hD:P++X++S=D) (hC:C.Perm X) (hr:Aw.Ris C) ⦃lo hi:Nat⦄ (h1:P.length=lo) (h2:hi=lo+X.length),
 Aw.Mgd D (P++C++S) lo hi)/\(∀ ⦃D P X S C:List Nu⦄ (hD:P++X++S=D) (hC:C.Perm X) (hr:Aw.U.Ris C) ⦃lo hi:Nat⦄ (h1:P.length=lo) (h2:hi=lo+X.length),
 Aw.U.Mgd D (P++C++S) lo hi):=by
 refine⟨?_,?_⟩
 all_goals
  intro D P X S C hD hC hr lo hi h1 h2;have hl:=hC.length_eq;subst hD;refine⟨by simp[hl],aDA _ (aBT _ hC),fun j hj=>?_,fun j k hj I6 hk=>?_⟩
  .rcases aAB j lo with h|h
   ·(first|rw[Aw.oW _ _ _ (by simp;omega),Aw.oW _ _ _ oO,Aw.oW _ _ _ (by simp;omega),Aw.oW _ _ _ oO]|rw[Aw.U.oW _ _ _ (by simp;omega),Aw.U.oW _ _ _ oO,Aw.U.oW _ _ _ (by simp;omega),Aw.U.oW _ _ _ oO])
   .have e1:=BD (P++C) S (j-hi);have e2:=BD (P++X) S (j-hi);have l1:(P++C).length+(j-hi)=j:=by simp;omega
    have l2:(P++X).length+(j-hi)=j:=by simp;omega
    rw[l1]at e1;rw[l2]at e2;rw[e1,e2]
  .have e:∀ x,lo<=x->x<hi->(P++C++S).getD x ed0=C.getD (x-lo) ed0:=fun x g1 g2=>by have e1:=BD P (C++S) (x-lo);rw[show P.length+(x-lo)=x by omega,oW C S (x-lo) oO]at e1;rw[<- e1];simp
   rw[e j hj oO,e k oO hk];exact iN hr oO oO
def Aw.mgd:=OI.1
def Aw.U.mgd:=OI.2
namespace Aw
theorem TW{α:Type}(D:List α)(lo hi:Nat)(h:lo<=hi):D.take lo++(D.drop lo).take (hi-lo)++D.drop hi=D:=by
 have e:(D.drop lo).drop (hi-lo)=D.drop hi:=by rw[aCN];congr 1;omega
 rw[aAF,<- e,aAH,aAH]
end Aw
theorem BI:(∀ ⦃D:List Ed⦄ ⦃lo hi:Nat⦄ (hh:hi<=D.length) (h:∀ j k,lo<=j->j<=k->k<hi->(D.getD j Aw.ed0).id<=(D.getD k Aw.ed0).id),
 Aw.Ris ((D.drop lo).take (hi-lo)))/\(∀ ⦃D:List Nu⦄ ⦃lo hi:Nat⦄ (hh:hi<=D.length) (h:∀ j k,lo<=j->j<=k->k<hi->(D.getD j Aw.U.ed0).id<=(D.getD k Aw.U.ed0).id),
 Aw.U.Ris ((D.drop lo).take (hi-lo))):=by
 refine⟨?_,?_⟩
 all_goals
  intro D lo hi hh h;refine aAG.2 fun a b ha hb YA=>?_;simp only[aAo,aAN]at ha hb;rw[aBE,aBE,aCi,aCi,<- iR D (lo+a) oO,<- iR D (lo+b) oO];exact h _ _ oO oO oO
def Aw.yQ:=BI.1
def Aw.U.yQ:=BI.2
theorem Fw:(∀(q L:Nat) (NQ:FuncId) (cY:List LV) (Pc:St->Prop) (YJ:Aw.fU NQ cY q Pc) (hl:L<=100000) (D:List Ed) (a b:Nat) (st:St) (hD:D.length=L) (ha:a<=b) (hb:b<=L) (Zq:Pc st) (hq:q<st.next) (hH:st.H q=.box 56 3 (Aw.eds D)),
 aB prog 200 [.ms q 0 L,i a,i b,.fn (.func NQ) cY] st fun r st'=>∃ D',st'.H q=.box 56 3 (Aw.eds D')/\Aw.Mgd D D' a b/\bK q st st')/\(∀(q L:Nat) (NQ:FuncId) (cY:List LV) (Pc:St->Prop) (YJ:Aw.U.fU NQ cY q Pc) (hl:L<=100000) (D:List Nu) (a b:Nat) (st:St) (hD:D.length=L) (ha:a<=b) (hb:b<=L) (Zq:Pc st) (hq:q<st.next) (hH:st.H q=.box 34 1 (Aw.U.eds D)),
 aB prog 209 [.ms q 0 L,i a,i b,.fn (.func NQ) cY] st fun r st'=>∃ D',st'.H q=.box 34 1 (Aw.U.eds D')/\Aw.U.Mgd D D' a b/\bK q st st'):=by
 refine⟨?_,?_⟩
 all_goals
  intro q L NQ cY Pc YJ hl D a b st hD ha hb Zq hq hH;have hc:=TW D a b ha;have l1:(D.take a).length=a:=by rw[aAo];omega
  have l2:((D.drop a).take (b-a)).length=b-a:=by rw[aAo,aAN];omega
  have h:=Jc (D.take a) ((D.drop a).take (b-a)) (D.drop b) q NQ cY Pc st YJ Zq hq (by rw[hc];omega) (by rw[hc];exact hH);rw[hc,hD,l1,l2,show a+(b-a)=b by omega]at h;refine h.mono ?_;rintro r st' ⟨Y,h1,h2,h3,h4⟩;exact⟨_,h3,mgd hc h1 h2 l1 oO,h4⟩
def Aw.QO:=Fw.1
def Aw.U.QO:=Fw.2
theorem HG:(∀(q L:Nat) (NQ:FuncId) (cY:List LV) (Pc:St->Prop) (YJ:Aw.fU NQ cY q Pc) (hl:L<=100000) (D:List Ed) (a m b:Nat) (st:St) (hD:D.length=L) (ha:a<m) (hm:m<b) (hb:b<=L) (h1:∀ j k,a<=j->j<=k->k<m->(D.getD j Aw.ed0).id<=(D.getD k Aw.ed0).id) (h2:∀ j k,m<=j->j<=k->k<b->(D.getD j Aw.ed0).id<=(D.getD k Aw.ed0).id) (Zq:Pc st) (hq:q<st.next) (hH:st.H q=.box 56 3 (Aw.eds D)),
 aB prog 211 [.ms q 0 L,i a,i m,i b,.fn (.func NQ) cY] st fun r st'=>∃ D',st'.H q=.box 56 3 (Aw.eds D')/\Aw.Mgd D D' a b/\bK q st st')/\(∀(q L:Nat) (NQ:FuncId) (cY:List LV) (Pc:St->Prop) (YJ:Aw.U.fU NQ cY q Pc) (hl:L<=100000) (D:List Nu) (a m b:Nat) (st:St) (hD:D.length=L) (ha:a<m) (hm:m<b) (hb:b<=L) (h1:∀ j k,a<=j->j<=k->k<m->(D.getD j Aw.U.ed0).id<=(D.getD k Aw.U.ed0).id) (h2:∀ j k,m<=j->j<=k->k<b->(D.getD j Aw.U.ed0).id<=(D.getD k Aw.U.ed0).id) (Zq:Pc st) (hq:q<st.next) (hH:st.H q=.box 34 1 (Aw.U.eds D)),
 aB prog 210 [.ms q 0 L,i a,i m,i b,.fn (.func NQ) cY] st fun r st'=>∃ D',st'.H q=.box 34 1 (Aw.U.eds D')/\Aw.U.Mgd D D' a b/\bK q st st'):=by
 refine⟨?_,?_⟩
 all_goals
  intro q L NQ cY Pc YJ hl D a m b st hD ha hm hb h1 h2 Zq hq hH;have A4:=TW D m b oO;have V6:=TW (D.take m) a m oO;have e1:((D.take m).drop a).take (m-a)=(D.drop a).take (m-a):=by rw[aEt,aBS,Nat.min_self]
  have e2:(D.take m).drop m=[]:=by rw[List.drop_eq_nil_iff,aAo];omega
  have e3:(D.take m).take a=D.take a:=by rw[aBS,aCt oO]
  rw[e1,e2,e3,aAP]at V6;have hc:D.take a++(D.drop a).take (m-a)++(D.drop m).take (b-m)++D.drop b=D:=by rw[V6,A4]
  have l1:(D.take a).length=a:=by rw[aAo];omega
  have l2:((D.drop a).take (m-a)).length=m-a:=by rw[aAo,aAN];omega
  have l3:((D.drop m).take (b-m)).length=b-m:=by rw[aAo,aAN];omega
  have r1:=yQ (D:=D) (lo:=a) (hi:=m) oO h1;have r2:=yQ (D:=D) (lo:=m) (hi:=b) oO h2;have h:=Ho q L NQ cY Pc YJ hl _ (D.take a) ((D.drop a).take (m-a)) ((D.drop m).take (b-m)) (D.drop b) a m b st (aAi _) (fun e=>by rw[e]at l2;simp at l2;omega) (fun e=>by rw[e]at l3;simp at l3;omega) r1 r2 (by rw[hc];exact hD) l1 oO oO Zq hq (by rw[hc];exact hH);refine h.mono ?_;rintro r st' ⟨C,k1,k2,k3,k4⟩;refine⟨_,k3,mgd (X:=(D.drop a).take (m-a)++(D.drop m).take (b-m)) (by rw[<- aAF (D.take a)];exact hc) k1 k2 l1 (by simp only[aAh];omega),k4⟩
def Aw.PS:=HG.1
def Aw.U.PS:=HG.2
namespace Aw
def Bs(s lo hi:Nat)(D:List Ed):Prop:=∀ j k,lo<=j->j<=k->k<hi->j / s=k / s->(D.getD j ed0).id<=(D.getD k ed0).id
end Aw
namespace Aw.U
def Bs(s lo hi:Nat)(D:List Nu):Prop:=∀ j k,lo<=j->j<=k->k<hi->j / s=k / s->(D.getD j ed0).id<=(D.getD k ed0).id
end Aw.U
namespace Aw
theorem EW{s t j:Nat}(h1:s*t<=j)(h2:j<s*t+s):j / s=t:=by
 refine Nat.div_eq_of_lt_le ?_ ?_
 .rw[aBI];exact h1
 .rw[aBI,Nat.mul_succ];exact h2
end Aw
theorem Bs.extTwo:(∀ ⦃s a b t:Nat⦄ ⦃D D':List Ed⦄ (h:Aw.Bs s 0 a D) (hm:Aw.Mgd D D' a b) (hs:0<s) (ht:a=s*t),
 Aw.Bs s 0 b D')/\(∀ ⦃s a b t:Nat⦄ ⦃D D':List Nu⦄ (h:Aw.U.Bs s 0 a D) (hm:Aw.U.Mgd D D' a b) (hs:0<s) (ht:a=s*t),
 Aw.U.Bs s 0 b D'):=by
 refine⟨?_,?_⟩
 all_goals
  intro s a b t D D' h hm hs ht;intro j k _ I6 hk he;rcases aAB k a with h1|h1
  .rw[hm.out j (.inl oO),hm.out k (.inl h1)];exact h j k (aBr _) I6 h1 he
  .rcases aAB j a with h2|h2
   .have h3:j / s<t:=aEE oO;have h4:t<=k / s:=(aEu hs).2 (by rw[aBI];omega);omega
   .exact hm.inn j k h2 I6 hk
def Aw.Bs.ext:=Bs.extTwo.1
def Aw.U.Bs.ext:=Bs.extTwo.2
theorem Bs.restTwo:(∀ ⦃s a b:Nat⦄ ⦃L:Nat⦄ ⦃D D':List Ed⦄ (h:Aw.Bs s a L D) (hm:Aw.Mgd D D' a b) (YA:a<=b),
 Aw.Bs s b L D')/\(∀ ⦃s a b:Nat⦄ ⦃L:Nat⦄ ⦃D D':List Nu⦄ (h:Aw.U.Bs s a L D) (hm:Aw.U.Mgd D D' a b) (YA:a<=b),
 Aw.U.Bs s b L D'):=by
 refine⟨?_,?_⟩
 all_goals
  intro s a b L D D' h hm YA;intro j k h1 I6 hk he;rw[hm.out j (.inr h1),hm.out k (.inr oO)];exact h j k oO I6 hk he
def Aw.Bs.rest:=Bs.restTwo.1
def Aw.U.Bs.rest:=Bs.restTwo.2
namespace Aw
theorem Bs.block{s a L t:Nat}{D:List Ed}(h:Bs s a L D){c:Nat}(hc:s*t=c)(hac:a<=c){j k:Nat}(h1:c<=j)(h2:j<=k)(h3:k<c+s)(h4:k<L):(D.getD j ed0).id<=(D.getD k ed0).id:=
 h j k oO h2 h4 ((EW (t:=t) oO oO).trans (EW oO oO).symm)
end Aw
namespace Aw.U
theorem Bs.block{s a L t:Nat}{D:List Nu}(h:Bs s a L D){c:Nat}(hc:s*t=c)(hac:a<=c){j k:Nat}(h1:c<=j)(h2:j<=k)(h3:k<c+s)(h4:k<L):(D.getD j ed0).id<=(D.getD k ed0).id:=
 h j k oO h2 h4 ((EW (t:=t) oO oO).trans (EW oO oO).symm)
end Aw.U
theorem Bs.allTwo:(∀ ⦃s L:Nat⦄ ⦃D:List Ed⦄ (h:Aw.Bs s 0 L D) (hs:L<=s) (hD:D.length=L),
 Aw.Ris D)/\(∀ ⦃s L:Nat⦄ ⦃D:List Nu⦄ (h:Aw.U.Bs s 0 L D) (hs:L<=s) (hD:D.length=L),
 Aw.U.Ris D):=by
 refine⟨?_,?_⟩
 all_goals
  intro s L D h hs hD;have:=yQ (D:=D) (lo:=0) (hi:=L) oO fun j k h1 h2 h3=>h j k h1 h2 h3 (by rw[aDF oO,aDF oO])
  rwa [List.drop_zero,aAr oO]at this
def Aw.Bs.all:=Bs.allTwo.1
def Aw.U.Bs.all:=Bs.allTwo.2
namespace Aw
theorem Mgd.from{D D':List Ed}{a b:Nat}(h:Mgd D D' a b){D0:List Ed}(k:D.Perm D0):D'.Perm D0:=h.perm.trans k
end Aw
namespace Aw.U
theorem Mgd.from{D D':List Nu}{a b:Nat}(h:Mgd D D' a b){D0:List Nu}(k:D.Perm D0):D'.Perm D0:=h.perm.trans k
end Aw.U
namespace Aw
def zT(D0:List Ed)(q L:Nat)(st st2:St)(D:List Ed):Prop:=D.length=L/\D.Perm D0/\st2.H q=.box 56 3 (eds D)/\bK q st st2
end Aw
namespace Aw.U
def zT(D0:List Nu)(q L:Nat)(st st2:St)(D:List Nu):Prop:=D.length=L/\D.Perm D0/\st2.H q=.box 34 1 (eds D)/\bK q st st2
end Aw.U
namespace Aw
theorem zT.step{D0:List Ed}{q L:Nat}{st st2 Yy:St}{D D':List Ed}{a b:Nat}(h:zT D0 q L st st2 D)(hm:Mgd D D' a b)(h1:Yy.H q=.box 56 3 (eds D'))(h2:bK q st2 Yy):zT D0 q L st Yy D':=
 ⟨hm.len.trans h.1,hm.from h.2.1,h1,h.2.2.2.trans h2⟩
end Aw
namespace Aw.U
theorem zT.step{D0:List Nu}{q L:Nat}{st st2 Yy:St}{D D':List Nu}{a b:Nat}(h:zT D0 q L st st2 D)(hm:Mgd D D' a b)(h1:Yy.H q=.box 34 1 (eds D'))(h2:bK q st2 Yy):zT D0 q L st Yy D':=
 ⟨hm.len.trans h.1,hm.from h.2.1,h1,h.2.2.2.trans h2⟩
end Aw.U
theorem DA:(∀(D0:List Ed) (q L:Nat) (NQ:FuncId) (cY:List LV) (Pc:St->Prop) (st:St) (YJ:Aw.fU NQ cY q Pc) (Zq:Pc st) (hq:q<st.next) (hL:D0.length=L) (hl:L<=100000) (hH:st.H q=.box 56 3 (Aw.eds D0)),
 aB prog 193 [.ms q 0 L,i L,.fn (.func NQ) cY] st fun r st'=>∃ D,D.Perm D0/\Aw.Ris D/\st'.H q=.box 56 3 (Aw.eds D)/\bK q st st')/\(∀(D0:List Nu) (q L:Nat) (NQ:FuncId) (cY:List LV) (Pc:St->Prop) (st:St) (YJ:Aw.U.fU NQ cY q Pc) (Zq:Pc st) (hq:q<st.next) (hL:D0.length=L) (hl:L<=100000) (hH:st.H q=.box 34 1 (Aw.U.eds D0)),
 aB prog 192 [.ms q 0 L,i L,.fn (.func NQ) cY] st fun r st'=>∃ D,D.Perm D0/\Aw.U.Ris D/\st'.H q=.box 34 1 (Aw.U.eds D)/\bK q st st'):=by
 refine⟨?_,?_⟩
 all_goals
  intro D0 q L NQ cY Pc st YJ Zq hq hL hl hH
  first|(have _:List Ed:=D0;refine zN func193 ntmps193 [] ?_)|refine zN func192 ntmps192 [] ?_
  (repeat' (first|apply qS|apply qB|(refine zE ?_;intro J hJ;simp[];refine zJ hJ ?_)))
  refine qL (fun z fr st2=>∃(t a:Nat) (D:List (Bv D0)),a=20*t/\a<=L/\z=L-a/\fr 0=.ms q 0 L/\fr 1=i L/\fr 2=.fn (.func NQ) cY/\fr 6=i 20/\fr 7=i a/\fr 8=i (a+20:Nat)/\Bs 20 0 a D/\zT D0 q L st st2 D) L ?_ ?_
  .exact⟨0,0,D0,rfl,oO,rfl,sS,sS,sS,sS,sS,sS,fun j k _ _ h=>by omega,hL,.refl _,hH,bK.refl _ _⟩
  rintro z fr st2 ⟨t,a,D,ht,ha,rfl,f0,f1,f2,f6,f7,f8,hB,hI⟩ JJ hJJ;have hP2:=YJ.keep _ _ Zq hI.2.2.2;have Zi:q<st2.next:=by have:=hI.2.2.2.1;omega
  by_cases Xr:a+20<=L
  .have B4:(a:Int)+20<=L:=oO;have hc:=QO q L NQ cY Pc YJ oO D a (a+20) st2 hI.1 oO Xr hP2 Zi hI.2.2.1;have w1:IntKind.i64.wrap ((a:Int)+20+20)=((a+20+20:Nat):Int):=zW
   (repeat' (first|apply qS|apply qB|refine qK (zZ ?_)|(apply qC;simp[f0,f1,f2,f7,f8,B4])|(refine zE ?_;intro J hJ;simp[f0,f1,f2,f7,f8,B4];(try refine zJ hJ ?_))))
   refine qE hc sS ?_;rintro r s3 ⟨D',k1,k2,k3⟩
   (repeat' (first|apply qS|((first|(refine zE ?_;intro J hJ)|(apply aD));simp[f8,f6,w1];refine zJ hJ ?_)))
   exact hJJ (L-(a+20)) _ _ oO ⟨t+1,a+20,D',oO,Xr,rfl,by simp[f0],by simp[f1],by simp[f2],by simp[f6],sS,sS,hB.ext k2 oO ht,hI.step k2 k1 k3⟩
  clear hJJ;have B4:¬(a:Int)+20<=L:=oO;have hc:=QO q L NQ cY Pc YJ oO D a L st2 hI.1 ha (aAi _) hP2 Zi hI.2.2.1
  (repeat' (first|apply qS|refine qX (zZ ?_)|(apply qC;simp[f0,f1,f2,f7,f8,B4])|(refine zE ?_;intro J hJ;simp[f0,f1,f2,f7,f8,B4];(try refine zJ hJ ?_))))
  refine qE hc sS ?_;rintro r s3 ⟨D',k1,k2,k3⟩;have J4:=hB.ext k2 oO ht;have hI2:=hI.step k2 k1 k3
  (repeat' (first|apply qB|(apply aD;simp[];refine zJ hJ ?_)))
  refine qL (fun z fr st2=>∃(s:Nat) (D:List (Bv D0)),0<s/\s<=200040/\z=L-s/\fr 0=.ms q 0 L/\fr 1=i L/\fr 2=.fn (.func NQ) cY/\fr 6=i s/\Bs s 0 L D/\zT D0 q L st st2 D) (L-20) ?_ ?_
  .exact⟨20,D',oO,oO,rfl,by simp[f0],by simp[f1],by simp[f2],by simp[f6],J4,hI2⟩
  clear J4 hI2 k1 k2 k3 hc hI hB f0 f1 f2 f6 f7 f8 hP2 Zi Xr B4 ht ha fr;rintro z fr Yy ⟨s,D,hs0,G5,rfl,f0,f1,f2,f6,hB,hI⟩ JJ hJJ;by_cases dN:s<L;rotate_left
  .clear hJJ;have Xy:¬(s:Int)<L:=oO
   (repeat' (first|apply qS|refine qX (zZ ?_)|(apply qC;simp[f1,f6,dN,Xy])|(refine zE ?_;intro J hJ;simp[f1,f6,dN,Xy];refine zJ hJ ?_)))
   exact⟨trivial,D,hI.2.1,hB.all oO hI.1,hI.2.2⟩
  have Xy:(s:Int)<L:=oO;have w2:IntKind.i64.wrap (2*(s:Int))=((2*s:Nat):Int):=zW;have w2':IntKind.i64.wrap ((s:Int)*2)=((2*s:Nat):Int):=by rw[vT _ oO oO];omega
  obtain⟨s2,O5⟩:∃ s2:Nat,s2=2*s:=⟨_,rfl⟩;rw[<- O5]at w2 w2'
  (repeat' (first|apply qS|apply qB|refine qK (zZ ?_)|(apply qC;simp[f1,f6,dN,Xy,w2])|(refine zE ?_;intro J hJ;simp[f1,f6,dN,Xy,w2];refine zJ hJ ?_)))
  refine qL (fun z fr st2=>∃(t a:Nat) (D:List (Bv D0)),a=s2*t/\a<=L/\z=L-a/\fr 0=.ms q 0 L/\fr 1=i L/\fr 2=.fn (.func NQ) cY/\fr 6=i s/\fr 7=i a/\fr 8=i (a+s2:Nat)/\Bs s2 0 a D/\Bs s a L D/\zT D0 q L st st2 D) L ?_ ?_
  .exact⟨0,0,D,oO,oO,rfl,by simp[f0],by simp[f1],by simp[f2],by simp[f6],sS,sS,fun j k _ _ h=>by omega,hB,hI⟩
  clear f0 f1 f2 f6 hB hI fr D;rintro z fr Q8 ⟨t,a,D,ht,ha,rfl,f0,f1,f2,f6,f7,f8,hB,hR,hI⟩ J2 v8;have hP4:=YJ.keep _ _ Zq hI.2.2.2;have X8:q<Q8.next:=by have:=hI.2.2.2.1;omega
  have e0:s*(2*t)=a:=by rw[ht,O5,aBI 2 s,aCX]
  have e1:s*(2*t+1)=a+s:=by rw[Nat.mul_succ,e0]
  have w3:IntKind.i64.wrap ((a:Int)+s)=((a+s:Nat):Int):=zW;obtain⟨m,hm⟩:∃ m:Nat,m=a+s:=⟨_,rfl⟩;rw[<- hm]at w3;by_cases Xr:a+s2<=L
  .have B4:(a:Int)+s2<=L:=oO;have hc:=PS q L NQ cY Pc YJ hl D a m (a+s2) Q8 hI.1 oO oO Xr (fun j k h1 h2 h3=>hR.block e0 (aAi _) h1 h2 oO oO) (fun j k h1 h2 h3=>hR.block e1 oO oO h2 oO oO) hP4 X8 hI.2.2.1;have w1:IntKind.i64.wrap ((a:Int)+s2+s2)=((a+s2+s2:Nat):Int):=zW
   (repeat' (first|apply qS|apply qB|refine qK (zZ ?_)|(apply qC;simp[f0,f1,f2,f6,f7,f8,B4,w3])|(refine zE ?_;intro J hJ;simp[f0,f1,f2,f6,f7,f8,B4,w3];(try refine zJ hJ ?_))))
   refine qE hc sS ?_;rintro r s3 ⟨D',k1,k2,k3⟩
   (repeat' (first|apply qS|((first|(refine zE ?_;intro J hJ)|(apply aD));simp[f8,f6,w2,w1];refine zJ hJ ?_)))
   exact v8 (L-(a+s2)) _ _ oO ⟨t+1,a+s2,D',by rw[Nat.mul_succ];omega,Xr,rfl,by simp[f0],by simp[f1],by simp[f2],by simp[f6],sS,sS,hB.ext k2 oO ht,hR.rest k2 oO,hI.step k2 k1 k3⟩
  clear v8;have B4:¬(a:Int)+s2<=L:=oO;have Xp:∀ Xj st5 (D':List (Bv D0)),Xj 0=.ms q 0 L/\Xj 1=i L/\Xj 2=.fn (.func NQ) cY/\Xj 6=i s2->Bs s2 0 L D'->zT D0 q L st st5 D'->JJ Xj st5:=by rintro Xj st5 D' ⟨g0,g1,g2,g6⟩ h1 h2;exact hJJ (L-s2) _ _ oO ⟨s2,D',oO,oO,rfl,g0,g1,g2,g6,h1,h2⟩
  by_cases ZK:m<L
  .have Q1:(m:Int)<L:=oO;have hc:=PS q L NQ cY Pc YJ hl D a m L Q8 hI.1 oO ZK (aAi _) (fun j k h1 h2 h3=>hR.block e0 (aAi _) h1 h2 oO oO) (fun j k h1 h2 h3=>hR.block e1 oO oO h2 oO oO) hP4 X8 hI.2.2.1
   (repeat' (first|apply qS|refine qX (zZ ?_)|(apply qC;simp[f0,f1,f2,f6,f7,f8,B4,w3,ZK,Q1])|(refine zE ?_;intro J hJ;simp[f0,f1,f2,f6,f7,f8,B4,w3,ZK,Q1];(try refine zJ hJ ?_))))
   refine qE hc sS ?_;rintro r s3 ⟨D',k1,k2,k3⟩
   (repeat' ((first|(refine zE ?_;intro J hJ)|(apply aD));simp[f6,w2'];refine zJ hJ ?_))
   exact Xp _ _ D' ⟨by simp[f0],by simp[f1],by simp[f2],sS⟩ (hB.ext k2 oO ht) (hI.step k2 k1 k3)
  .have Q1:¬(m:Int)<L:=oO
   (repeat' (first|apply qS|refine qK (zZ ?_)|refine qX (zZ ?_)|(apply qC;simp[f0,f1,f2,f6,f7,f8,B4,w3,ZK,Q1,w2'])|(refine zE ?_;intro J hJ;simp[f0,f1,f2,f6,f7,f8,B4,w3,ZK,Q1,w2'];refine zJ hJ ?_)))
   refine Xp _ _ D ⟨by simp[f0],by simp[f1],by simp[f2],sS⟩ (fun j k h0 I6 hk he=>?_) hI;rcases aAB k a with h1|h1
   .exact hB j k h0 I6 h1 he
   .rcases aAB j a with h2|h2
    .have h3:j / s2<t:=aEE oO;have h4:t<=k / s2:=(aEu oO).2 (by rw[aBI];omega);omega
    .exact hR.block e0 (aAi _) h2 I6 oO hk
def Aw.Ii:=DA.1
def Aw.U.Ii:=DA.2
namespace Aw
open Go Go.RowKit Pl
theorem Jg(x y:Int)(st:St):aB prog 64 [u x,u y] st fun r st'=>r=i (if x<y then -1 else if y<x then 1 else 0)/\st'=st:=by
 refine zN func64 ntmps64 [.tmp 4] ?_
 (repeat' (first|apply qS|(refine zE ?_;intro J hJ;simp[];(try refine zJ hJ ?_))))
 refine qF (isNaN x _) ?_;rintro r st' ⟨rfl,rfl⟩
 (repeat' (first|apply qS|((first|(refine zE ?_;intro J hJ)|(apply aD));simp[];(try refine zJ hJ ?_))))
 refine qF (isNaN y _) ?_;rintro r st' ⟨rfl,rfl⟩;by_cases h1:x<y
 ·(repeat' (first|apply qS|refine qK (zZ ?_)|(refine qR (zZ ?_);simp[h1])|(apply qC;simp[h1])|((first|(refine zE ?_;intro J hJ)|(apply aD));simp[h1];refine zJ hJ ?_)))
 .by_cases h2:y<x
  ·(repeat' (first|apply qS|refine qK (zZ ?_)|(refine qR (zZ ?_);simp[h1,h2])|(apply qC;simp[h1,h2])|((first|(refine zE ?_;intro J hJ)|(apply aD));simp[h1,h2];refine zJ hJ ?_)))
  ·(repeat' (first|apply qS|refine qK (zZ ?_)|(refine qR (zZ ?_);simp[h1,h2])|(apply qC;simp[h1,h2])|((first|(refine zE ?_;intro J hJ)|(apply aD));simp[h1,h2];refine zJ hJ ?_)))
theorem Di(a:List Int)(t:Nat)(st:St)(hl:a.length<=100000):
 aB prog 69 [.sl t a.length (us a)] st fun r st'=>∃ l,r=.ms l 0 a.length/\st.next<=l/\l<st'.next/\st'.H l=.box 34 1 (us a)/\aA st st':=by
 refine iQ 34 1 ?_;have Yx:=Io a;refine zN func69 ntmps69 [.tmp 2] ?_
 (repeat' (first|apply qS|refine qK (zZ ?_)|(refine qR (zZ ?_);simp[Yx])|(apply qC;simp[Yx])|(refine w_e [5] ?_;intro J hJ;simp only[];simp[Yx];(repeat refine ca ?_);((try with_reducible refine⟨?_,?_⟩)<;>(try with_reducible intro Yc)<;>refine zJ hJ ?_<;>clear hJ J<;>try subst Yc))))
 .exact(aA.new _ _).trans (aA.new _ _)
 .exact aA.new _ _
theorem Qg(l:List Ed)(t:Nat)(st:St)(hl:l.length<=100000):
 aB prog 124 [.sl t l.length (eds l)] st fun r st'=>∃ q,r=.ms q 0 l.length/\st.next<=q/\q<st'.next/\st'.H q=.box 56 3 (eds l)/\aA st st':=by
 have Yx:=Jf l;have hel:=aK l;refine iQ 56 3 ?_;refine zN func124 ntmps124 [.tmp 2] ?_
 (repeat' (first|apply qS|refine qK (zZ ?_)|(refine qR (zZ ?_);simp[Yx,hel])|(apply qC;simp[Yx,hel])|(refine w_e [5] ?_;intro J hJ;simp only[];simp[Yx,hel];(repeat refine ca ?_);((try with_reducible refine⟨?_,?_⟩)<;>(try with_reducible intro Yc)<;>refine zJ hJ ?_<;>clear hJ J<;>try subst Yc))))
 .exact(aA.new _ _).trans (aA.new _ _)
 .exact aA.new _ _
def Sw(NQ:FuncId)(cY:List LV)(Pc:St->Prop):Prop:=(∀ st st',Pc st->aA st st'->Pc st')/\∀ st x y,Pc st->aB prog NQ ([u x,u y]++cY) st fun r st'=>r=bb (decide (x=y))/\aA st st'
def TF(NQ:FuncId)(cY:List LV)(Pc:St->Prop):Prop:=(∀ st st',Pc st->aA st st'->Pc st')/\∀ st x y,Pc st->aB prog NQ ([.ag (edL x),.ag (edL y)]++cY) st fun r st'=>r=bb (decide (x.id=y.id))/\aA st st'
theorem Nr(c:List Ed)(q:Nat)(NQ:FuncId)(cY:List LV)(Pc:St->Prop)(st:St)(J8:TF NQ cY Pc)(Zq:Pc st)(hl:c.length<=100000)(Wx:∀ j,j+1<c.length->(c.getD (j+1) ed0).id≠(c.getD j ed0).id)(hq:q<st.next)(hH:st.H q=.box 56 3 (eds c)):
 aB prog 161 [.ms q 0 c.length,.fn (.func NQ) cY] st fun r st'=>r=.ms q 0 c.length/\aA st st':=by
 have hel:=aK c;refine zN func161 ntmps161 [.tmp 4] ?_;by_cases h2:c.length<2
 .have I5:(c.length:Int)<2:=oO
  (repeat' (first|apply qS|(refine qR (zZ ?_);simp[I5,h2])|(apply qC;simp[I5,h2])|(refine zE ?_;intro J hJ;simp[I5,h2];refine zJ hJ ?_)))
  exact aA.refl _
 have I5:¬(c.length:Int)<2:=oO
 (repeat' (first|apply qS|apply qB|refine qK (zZ ?_)|(apply qC;simp[I5,h2])|(refine zE ?_;intro J hJ;simp[I5,h2];refine zJ hJ ?_)))
 refine qL (fun z fr st2=>∃ k:Nat,0<k/\k<=c.length/\z=c.length-k/\fr 0=.ms q 0 c.length/\fr 1=.fn (.func NQ) cY/\fr 5=i k/\aA st st2) (c.length-1) ?_ ?_
 .exact⟨1,oO,oO,rfl,sS,sS,sS,aA.refl _⟩
 rintro z fr st2 ⟨k,Yj,P8,rfl,f0,f1,f5,Xm⟩ JJ hJJ;by_cases dN:k<c.length;rotate_left
 .clear hJJ
  (repeat' (first|apply qS|refine qX (zZ ?_)|(refine qR (zZ ?_);simp[f0,f5,dN])|(apply qC;simp[f0,f5,dN])|(refine zE ?_;intro J hJ;simp[f0,f5,dN];refine zJ hJ ?_)))
  exact Xm
 obtain⟨k1,rfl⟩:∃ k1,k=k1+1:=⟨k-1,oO⟩;have hd:=aR c (k1+1) dN;have Xu:=aR c k1 oO;have w1:IntKind.i64.wrap (k1:Int)=(k1:Int):=zW;have w2':IntKind.i64.wrap ((k1:Int)+1+1)=(k1:Int)+1+1:=wrap_i64 _ oO oO;have hkl1:k1<c.length:=oO;have Xy:(k1:Int)+1<c.length:=oO;have hn:=Wx k1 dN;have C3:=(Xm.H q hq).trans hH;have hc:=J8.2 st2 (c.getD (k1+1) ed0) (c.getD k1 ed0) (J8.1 _ _ Zq Xm);rw[aBM hn]at hc;generalize c.getD (k1+1) ed0=x at *;generalize c.getD k1 ed0=y at *;obtain⟨xi,xa,xb⟩:=x;obtain⟨yi,ya,yb⟩:=y;simp only at hd Xu hn
 (repeat' (first|apply qS|apply qB|refine qK (zZ ?_)|(apply qC;simp[f0,f5,dN,Xy])|(refine zE ?_;intro J hJ;simp[f0,f5,dN,Xy];refine zJ hJ ?_)))
 (refine zS [] [q] [0,2,4,6,8,10,12,14,16,18,21] ?_;intro J hJ;simp[f0,f1,f5,dN,Xy,hd,Xu,w1,hkl1,C3,hel];(repeat refine ca ?_))
 refine aJ hc ?_;rintro r s3 ⟨rfl,Xq⟩;have U8:=(Xq.H q (aAp hq Xm.next)).trans C3;refine⟨fun _=>by simp[U8,C3],?_⟩
 (apply aV;simp[U8,C3];refine zJ hJ ?_)
 (repeat' (first|refine qK (zZ ?_)|(apply qC;simp[f5,w2'])|(refine zE ?_;intro J hJ;simp[f5,w2'];refine zJ hJ ?_)))
 exact hJJ (c.length-(k1+1+1)) _ _ oO ⟨k1+1+1,oO,oO,rfl,by simp[f0],by simp[f1],sS,Xm.trans Xq⟩
structure Sh where
 L:List (Int×Int)
 on:List Int
 F:List (List Int)
def eT(w:List Int):List Int:=(w.drop 1).take (w.length-2)
def rO(h:Sh)(w:List Int)(at':Nat):Sh:=
 ⟨kF h.L w,h.on++w,h.F.set at' (jA (h.F.getD at' []) ((h.F.getD at' []).idxOf (w.getD 0 0)) ((h.F.getD at' []).idxOf (w.getD (w.length-1) 0))++(eT w).reverse)++
   [jA (h.F.getD at' []) ((h.F.getD at' []).idxOf (w.getD (w.length-1) 0)) ((h.F.getD at' []).idxOf (w.getD 0 0))++eT w]⟩
theorem Fk(vs:List Int):∀(F:List (List Int)) (k:Nat) (R:List Int),k<F.length->(gP vs F).take (k*2)++([.sl 0 R.length (us R),wv (mk vs R)]++(gP vs F).drop (k*2+2))=gP vs (F.set k R)
 |r::F,0,R,_=>by simp[gP]
 |r::F,k+1,R,h=>by have:=Fk vs F k R (by simpa using h);rw[show(k+1)*2=k*2+2 by omega];simp only[gP,aAJ,List.cons_append,List.nil_append,List.take_succ_cons,aCB,List.set_cons_succ]at this ⊢;rw[<- this]
 |[],k,R,h=>by simp at h
theorem Mz(vs:List Int)(F:List (List Int))(R:List Int):gP vs F++[.sl 0 R.length (us R),wv (mk vs R)]=gP vs (F++[R]):=by simp[gP]
theorem Gp{r:List Int}{i j:Nat}{v:Int}(h:v∈jA r i j):v∈r:=by have:=aDO (aCu h);rw[aAg]at this;exact this.elim id id
theorem qA{w:List Int}{v:Int}(h:v∈eT w):v∈w:=aDO (aCu h)
theorem uD(w:List Int):(eT w).length=w.length-2:=by unfold eT;rw[aAo,aAN];omega
theorem Tx(w:List Int):((us w).drop 1).take (w.length-1-1)=us (eT w):=by unfold eT;rw[us,<- aCk,<- aEI,show w.length-1-1=w.length-2 by omega]
structure KM(M:List Nat)(a b:St):Prop where
 next:a.next<=b.next
 H:∀ l,l<a.next->l∉M->b.H l=a.H l
theorem KM.keeps{M:List Nat}{a b c:St}(h:KM M a b)(k:aA b c):KM M a c:=⟨aBh h.next k.next,fun l hl hm=>(k.H l (aAp hl h.next)).trans (h.H l hl hm)⟩
theorem KM.set{M:List Nat}{a b:St}(h:KM M a b){q:Nat}(hq:a.next<=q\/q∈M)(o:cI):KM M a (b.set q o):=⟨h.next,fun l hl hm=>by
 rw[bN,aAa (by rcases hq with h1|h1;(· omega);(· intro e;exact hm (by rw[e];exact h1)))];exact h.H l hl hm⟩
theorem KM.of{M:List Nat}{a b:St}(h:aA a b):KM M a b:=⟨h.next,fun l hl _=>h.H l hl⟩
theorem XQ{g:Gr}(hg:GP g){h:Sh}{S nl pl ll fl:Nat}{le:List (List Int×LV)}{st:St}(hS:ShA g h.L h.on h.F S nl pl ll fl le st){w:List Int}{at':Nat}(C0:at' < h.F.length)(ZP:2<=w.length)(hwl:w.length<=200)(hwv:∀ v∈w,v∈g.vs)
 (Z3:(h.F.getD at' []).length<=1000) (h1:w.getD 0 0∈h.F.getD at' []) (h2:w.getD (w.length-1) 0∈h.F.getD at' []) (hfew:h.F.length<300) (Yi:0<st.next):
 aB prog 76 [.pt S 0,.sl 0 w.length (us w),i at'] st fun _ st'=>∃ fl' W0,ShA g (rO h w at').L (rO h w at').on (rO h w at').F S nl pl ll fl' W0 st'/\(fl'=fl\/st.next<=fl')/\KM [S,ll,fl] st st':=by
 have h64:=hg.h64;have hn:g.vs.Nodup:=hg.toGoodE.toGood.nodup;have Yl:=hS.r.box;have hF:=hS.fac;have dN:=hS.r.lt;have S5:=hS.flt;have F5:=pH g.vs h.F;have hd:=qU g.vs h.F at' C0;have hrv:∀ v∈h.F.getD at' [],v∈g.vs:=hS.sub _ (by rw[aAc,aAd C0];exact aAu _);have Xx:at' * 2<h.F.length*2:=oO;have hati:(at':Int)<h.F.length:=oO;have hsetF:=fun R=>Fk g.vs h.F at' R C0;unfold rO;generalize hr:h.F.getD at' []=r at *;have hd0:=qG w 0 oO;have u6:=qG w (w.length-1) oO;have hh0:hdL (us w)=u (w.getD 0 0):=by rw[show us w=(us w).drop 0 from rfl,hd0];rfl
 have g1:=sF h1;have g2:=sF h2;have M5:=aBa h1;have hi2:=aBa h2;have hmid:(us w).tail.take (eT w).length=us (eT w):=by have:=Tx w;rw[uD,show w.length-2=w.length-1-1 by omega,<- List.drop_one];exact this
 have hml2:w.length-1-1=(eT w).length:=by rw[uD];omega
 have ZK:=uD w;have M4:∀ v∈eT w,v∈g.vs:=fun v hv=>hwv v (qA hv);have hwi:IntKind.i64.wrap ((w.length:Int)-1)=((w.length-1:Nat):Int):=zW;generalize w.getD 0 0=x0 at *;generalize w.getD (w.length-1) 0=xl at *;generalize r.idxOf x0=i0 at *;generalize r.idxOf xl=il at *;have H8:(0:Int)<w.length:=oO;have ZE:((w.length-1:Nat):Int)<w.length:=oO;have hw3:w.length-1<w.length:=oO;have hw4:0<w.length:=oO;refine zN func76 ntmps76 [] ?_
 (repeat' (first|apply qS|(refine zE ?_;intro J hJ;simp[Yl,hF,hd,Xx,hati,C0,F5,H8,hw4,hh0];(try (refine zJ hJ ?_;clear hJ J)))))
 refine qE (Index r 0 x0 _ (by unfold small;omega)) sS ?_;rintro v s1 ⟨rfl,e1⟩;rw[e1];clear e1 s1;have N3:((w.length-1:Nat):Int)=(w.length:Int)-1:=oO;have z7:(1:Int)<=((w.length-1:Nat):Int):=oO;have P6:1<=w.length-1:=oO
 (repeat' (first|apply qS|((first|(refine zE ?_;intro J hJ)|(apply aD));simp[g1,hwi,ZE,hw3,u6];(try (refine zJ hJ ?_;clear hJ J)))))
 refine qE (Index r 0 xl _ (by unfold small;omega)) sS ?_;rintro v s1 ⟨rfl,e1⟩;rw[e1];clear e1 s1;generalize eT w=m at *;have hmle:m.length<=200:=oO
 (repeat' (first|apply qS|((first|(refine zE ?_;intro J hJ)|(apply aD));simp[g2,hwi,ZE,hw3,z7,P6,hml2,hmid];(try (refine zJ hJ ?_;clear hJ J)))))
 refine qE (Di m 0 _ oO) sS ?_;rintro v s1 ⟨q,rfl,q1,q2,hq,Xn⟩
 (repeat' (first|apply qS|((first|(refine zE ?_;intro J hJ)|(apply aD));simp[];(try (refine zJ hJ ?_;clear hJ J)))))
 refine qE (zM m q s1 (by unfold small;omega) hq) sS ?_;rintro v s2 e2;have hk2':aA st s2:=by rw[e2];exact Xn.set q1 _
 have ZI:s1.next=s2.next:=by rw[e2];rfl
 have Zi:s2.H q=.box 34 1 (us m.reverse):=by rw[e2];simp
 clear e2 Xn hq;have hS2:=hS.keep hk2';have n0:¬pl=ll:=fun e=>by have h3:=hS.r.plc;rw[e,hS.r.lin]at h3;cases h3
 (repeat' (first|apply qS|((first|(refine zE ?_;intro J hJ)|(apply aD));simp[];(try (refine zJ hJ ?_;clear hJ J)))))
 refine qE (OZ hS2.r.box hS2.r.plc hS2.r.lin hS2.r.key n0 hn h64 w 0 hwv oO) sS ?_;rintro v s3 ⟨W0,e3,Yf⟩;have hn3:s3.next=s2.next:=by rw[e3];rfl
 have m1:¬fl=S:=fun e=>by have h3:=hS.fac;rw[e,hS.r.box]at h3;cases h3
 have m2:¬fl=ll:=fun e=>by have h3:=hS.fac;rw[e,hS.r.lin]at h3;cases h3
 have m3:¬ll=S:=fun e=>by have h3:=hS.r.lin;rw[e,hS.r.box]at h3;cases h3
 have m4:¬nl=S:=fun e=>by have h3:=hS.r.near;rw[e,hS.r.box]at h3;cases h3
 have m5:¬nl=ll:=fun e=>by have h3:=hS.r.near;rw[e,hS.r.lin]at h3;cases h3
 have m6:¬nl=fl:=fun e=>by have h3:=hS.r.near;rw[e,hS.fac]at h3;cases h3
 have m7:¬pl=S:=fun e=>by have h3:=hS.r.plc;rw[e,hS.r.box]at h3;cases h3
 have m8:¬pl=fl:=fun e=>by have h3:=hS.r.plc;rw[e,hS.fac]at h3;cases h3
 have hn2':=hk2'.next;have hSb3:s3.H S=.box 119 7 [.sl 0 g.vs.length (us g.vs),.sl 0 g.es.length (eds g.es),.ms nl 0 g.vs.length,.mp pl,.mp ll,wv (mk g.vs (h.on++w)),.ms fl 0 h.F.length]:=by rw[e3];simp
 have P7:s3.H pl=.map false [.u32] (vH g.vs):=by rw[e3];simp[m7,n0,hS2.r.plc]
 have hL3:s3.H ll=.map true [.u32,.u32] W0:=by rw[e3];simp[m3]
 have hN3:s3.H nl=.box 116 1 (lJ g):=by rw[e3];simp[m4,m5,hS2.r.near]
 have hF3:s3.H fl=.box 127 2 (gP g.vs h.F):=by rw[e3];simp[m1,m2,hS2.fac]
 have Y8:s3.H q=.box 34 1 (us m.reverse):=by rw[e3];simp[show ¬q=S by omega,show ¬q=ll by omega,Zi]
 have hK3:KM [S,ll,fl] st s3:=by rw[e3];exact((KM.of hk2').set (.inr sS) _).set (.inr sS) _
 clear e3 hS2 Zi;have hb3:ShB g.vs S pl s3:=⟨⟨_,_,_,_,_,_,hSb3⟩,P7⟩
 (apply aD;simp[];(refine zJ hJ ?_;clear hJ J))
 (repeat (apply qS))
 (refine zS [] [S] [0,2,4,6,8,10,12,14,16,20,18,22,24,26,29] ?_;intro J hJ;simp[hSb3])
 refine qD (Uv r i0 il s3 M5 hi2 Z3 oO) sS ?_;rintro v s4 ⟨⟨t,rfl,t0,t1,t2,tH⟩,Yh⟩;refine⟨fun _ l hl=>?_,?_⟩
 .rw[aAl]at hl;rw[hl];exact Yh.H S oO
 have F8:=BE r i0 il M5 hi2;have I1:=zI M5 hi2;have C5:=Yh.next;have X8:=(Yh.H q oO).trans Y8;have c1:¬q=t:=oO;have c2:¬t=q:=oO;have hAv:∀ v∈jA r i0 il++m.reverse,v∈g.vs:=fun v hv=>by rw[aAg,aBP]at hv;exact hv.elim (fun h=>hrv v (Gp h)) (M4 v)
 have hSb4:=(Yh.H S oO).trans hSb3;have hP4:=(Yh.H pl oO).trans P7;have hF4:=(Yh.H fl oO).trans hF3;generalize jA r i0 il=A1 at *
 (apply aV;simp[tH,t0,X8,c1,c2];(repeat refine ca ?_))
 have c3:¬S=s4.next:=oO;have c4:¬S=t:=oO;refine⟨(aAa c3).trans ((aAa c4).trans (Yh.H S oO)),?_⟩;have Q2:aA s3 ((s4.set t cI.dead).new (.own 34 1 (A1.length+m.length))):=(Yh.set t1 _).trans (aA.new _ _);have hn4':((s4.set t cI.dead).new (.own 34 1 (A1.length+m.length))).next=s4.next+1:=sS;generalize hs5:(s4.set t cI.dead).new (.own 34 1 (A1.length+m.length))=s5 at *;have X9:=(Q2.H S oO).trans hSb3;have hP5:=(Q2.H pl oO).trans P7;have hF5:=(Q2.H fl oO).trans hF3;refine qD (Oy (vs:=g.vs) (S:=S) (pl:=pl) ⟨⟨_,_,_,_,_,_,X9⟩,hP5⟩ oO oO hn h64 (A1++m.reverse) s4.next hAv (by simp;omega)) sS ?_;rintro v s6 ⟨rfl,e6⟩;rw[e6];clear e6 s6;refine⟨fun _ l hl=>?_,?_⟩
 .rw[aAl]at hl;rw[hl];exact Q2.H S oO
 (apply aV;simp[hF5,C0,hati,Xx,F5];(repeat refine ca ?_);(refine zJ hJ ?_;clear hJ J))
 have hcell:(gP g.vs h.F).take (at' * 2)++LV.sl 0 (A1.length+m.length) (List.map u A1++(List.map u m).reverse)::wv (mk g.vs (A1++m.reverse))::(gP g.vs h.F).drop (at' * 2+2)=gP g.vs (h.F.set at' (A1++m.reverse)):=by have:=hsetF (A1++m.reverse);simpa using this
 rw[hcell];clear hcell;have hFl:(h.F.set at' (A1++m.reverse)).length=h.F.length:=sS;have hFs:∀ r∈h.F.set at' (A1++m.reverse),∀ v∈r,v∈g.vs:=fun r hr v hv=>by
  rcases List.mem_or_eq_of_mem_set hr with h1|h1
  .exact hS.sub r h1 v hv
  .rw[h1]at hv;exact hAv v hv
 have hK5:KM [S,ll,fl] st (s5.set fl (.box 127 2 (gP g.vs (h.F.set at' (A1++m.reverse))))):=(hK3.keeps Q2).set (.inr sS) _;have hL5:=(Q2.H ll oO).trans hL3;have hN5:=(Q2.H nl oO).trans hN3;generalize hF':h.F.set at' (A1++m.reverse)=F1 at *;have n7:¬S=fl:=fun e=>m1 e.symm;have n8:¬ll=fl:=fun e=>m2 e.symm;generalize hs7:s5.set fl (.box 127 2 (gP g.vs F1))=s7 at *;have hn7:s7.next=s5.next:=by rw[<- hs7];rfl
 have hSb7:s7.H S=.box 119 7 [.sl 0 g.vs.length (us g.vs),.sl 0 g.es.length (eds g.es),.ms nl 0 g.vs.length,.mp pl,.mp ll,wv (mk g.vs (h.on++w)),.ms fl 0 h.F.length]:=by rw[<- hs7,bN,aAa n7];exact X9
 have hP7:s7.H pl=.map false [.u32] (vH g.vs):=by rw[<- hs7,bN,aAa m8];exact hP5
 have hL7:s7.H ll=.map true [.u32,.u32] W0:=by rw[<- hs7,bN,aAa n8];exact hL5
 have hN7:s7.H nl=.box 116 1 (lJ g):=by rw[<- hs7,bN,aAa m6];exact hN5
 have hF7:s7.H fl=.box 127 2 (gP g.vs F1):=by rw[<- hs7];simp
 clear hs7 X9 hP5 hF5 hL5 hN5 hSb4 hP4 hF4 hSb3 P7 hF3 hL3 hN3 Q2 Yh hs5 tH t0 t1 t2 X8 Y8 hb3;have hFl7:=pH g.vs F1
 (repeat (apply qS))
 (refine zS [] [S] [0,2,4,6,8,10,12,14,16,20,18,22,24,26,29,30,32,35] ?_;intro J hJ;simp[hSb7])
 refine qD (Uv r il i0 s7 hi2 M5 Z3 oO) sS ?_;rintro v s8 ⟨⟨t',rfl,t0,t1,t2,tH⟩,hk8⟩;refine⟨fun _ l hl=>?_,?_⟩
 .rw[aAl]at hl;rw[hl];exact hk8.H S oO
 have hal2:=BE r il i0 hi2 M5;have hsl2:=zI hi2 M5;have hn8:=hk8.next;have d1:¬S=s8.next:=oO;have d2:¬S=t':=oO;have hBv:∀ v∈jA r il i0++m,v∈g.vs:=fun v hv=>by rw[aAg]at hv;exact hv.elim (fun h=>hrv v (Gp h)) (M4 v)
 generalize jA r il i0=A2 at *
 (apply aV;simp[tH,t0];(repeat refine ca ?_))
 refine⟨(aAa d1).trans ((aAa d2).trans (hk8.H S oO)),?_⟩;have Q5:aA s7 ((s8.set t' cI.dead).new (.own 34 1 (A2.length+m.length))):=(hk8.set t1 _).trans (aA.new _ _);have hn8':((s8.set t' cI.dead).new (.own 34 1 (A2.length+m.length))).next=s8.next+1:=sS;generalize hs9:(s8.set t' cI.dead).new (.own 34 1 (A2.length+m.length))=s9 at *;have hSb9:=(Q5.H S oO).trans hSb7;have hP9:=(Q5.H pl oO).trans hP7;have hF9:=(Q5.H fl oO).trans hF7;have hL9:=(Q5.H ll oO).trans hL7;have hN9:=(Q5.H nl oO).trans hN7;refine qD (Oy (vs:=g.vs) (S:=S) (pl:=pl) ⟨⟨_,_,_,_,_,_,hSb9⟩,hP9⟩ oO oO hn h64 (A2++m) s8.next hBv (by simp;omega)) sS ?_;rintro v s6 ⟨rfl,e6⟩;rw[e6];clear e6 s6;refine⟨fun _ l hl=>?_,?_⟩
 .rw[aAl]at hl;rw[hl];exact Q5.H S oO
 have z1:¬fl=s9.next:=oO;have z2:¬S=s9.next:=oO;have z3:¬S=s9.next+1:=oO;have z4:¬s9.next=fl:=oO
 (apply aV;simp[hF9,hSb9,hFl,hFl7,z1,z2,z3,z4,n7,m1])
 refine⟨hSb7.symm,⟨oO,by unfold maxLen;omega⟩,hJ _ _ ?_⟩;clear hJ J;simp only[ak];have hfs:gP g.vs F1++[LV.sl 0 (A2.length+m.length) (List.map u A2++List.map u m),wv (mk g.vs (A2++m))]=gP g.vs (F1++[A2++m]):=by have:=Mz g.vs F1 (A2++m);simpa using this
 have hFl2:(F1++[A2++m]).length=h.F.length+1:=by rw[aAh,hFl];rfl
 rw[hfs,<- hFl2];clear hfs
 skip
 simp only[yK];have hs10:KM [S,ll,fl] st ((((s9.new (.own 127 2 1)).set fl .dead).new (.box 127 2 (gP g.vs (F1++[A2++m])))).set S (.box 119 7 [.sl 0 g.vs.length (us g.vs),.sl 0 g.es.length (eds g.es),.ms nl 0 g.vs.length,.mp pl,.mp ll,wv (mk g.vs (h.on++w)),.ms (s9.next+1) 0 (F1++[A2++m]).length])):=by have:=(((hK5.keeps Q5).keeps (aA.new _ (.own 127 2 1))).set (q:=fl) (.inr sS) .dead);exact(this.keeps (aA.new _ _)).set (.inr sS) _
 refine⟨trivial,s9.next+1,W0,⟨⟨sS,?_,?_,?_,Yf,?_⟩,?_,sS,?_,?_,by rw[hFl2];omega⟩,.inr (by have:=(hK5.keeps Q5).next;omega),hs10⟩
 ·(repeat (first|rw[nHh nOo]|rw[sHh oO]|rw[nIi nQq]|rw[sIi oO]));exact hN9
 ·(repeat (first|rw[nHh nOo]|rw[sHh oO]|rw[nIi nQq]|rw[sIi oO]));exact hP9
 ·(repeat (first|rw[nHh nOo]|rw[sHh oO]|rw[nIi nQq]|rw[sIi oO]));exact hL9
 .simp only[bC,aF];omega
 ·(repeat (first|rw[nHh nOo]|rw[sHh oO]|rw[nIi nQq]|rw[sIi oO]))
 .intro r hr v hv;rw[aAg,aAl]at hr;rcases hr with hr|hr
  .exact hFs r hr v hv
  .rw[hr]at hv;exact hBv v hv
 .intro v hv;rw[aAg]at hv;exact hv.elim (hS.onv v) (hwv v)
end Aw
end Go.Proofs.YtempldclppogmaaGreatDoor
