/- T5 at edges and at numbers: written by gentt.py. -/
import Derived.Test.YtbgngpdonpeboaaGreatDoorJf
import Derived.Test.YtbgngpdonpeboaaGreatDoorAwRg
set_option linter.unusedVariables false
set_option linter.unusedSimpArgs false
set_option linter.defProp false
set_option maxHeartbeats 4000000
open Go.Proofs.Tryz
namespace Go.Proofs.YtbgngpdonpeboaaGreatDoor
open Go Go.RowKit Pl Aw
open Aw.U
def LL:(∀(P A:List Ed) (y:Ed) (S:List Ed) (q L p m:Nat) (I:FuncId) (IQ:List LV) (R:St->Prop) (g:St) (I7:Aw.gW I IQ q R) (Q9:R g) (hq:q<g.z) (hA:Ris A) (M:A.length≠1) (hL:(P++A++y::S).length=L) (hl:L<=100000) (Q:P.length=p) (hm:m=p+A.length) (hH:g.H q=.box 36 3 (eds (P++A++y::S))),
 aB prog 162 [.ms q 0 L,i p,i m,i (m+1:Nat),.fn (.func I) IQ] g (Ef P A [y] S q g))/\(∀(P A:List Nu) (y:Nu) (S:List Nu) (q L p m:Nat) (I:FuncId) (IQ:List LV) (R:St->Prop) (g:St) (I7:Aw.U.gW I IQ q R) (Q9:R g) (hq:q<g.z) (hA:Ris A) (M:A.length≠1) (hL:(P++A++y::S).length=L) (hl:L<=100000) (Q:P.length=p) (hm:m=p+A.length) (hH:g.H q=.box 34 1 (eds (P++A++y::S))),
 aB prog 160 [.ms q 0 L,i p,i m,i (m+1:Nat),.fn (.func I) IQ] g (Ef P A [y] S q g)):=by
 refine⟨?_,?_⟩
 all_goals
  intro P A y S q L p m I IQ R g I7 Q9 hq hA M hL hl Q hm hH;have hLl:L=p+A.length+(1+S.length):=by rw[<- hL,<- Q];simp only[cf,List.length_cons];omega
  have e1:IntKind.i64.wrap ((m:Int)-p)=(A.length:Int):=zW;have e2:IntKind.i64.wrap ((m:Int)+1-m)=1:=zW;have e3:¬(A.length:Int)=1:=oO
  first|(have _:List Ed:=P;refine zN func162 ntmps162 [] ?_)|refine zN func160 ntmps160 [] ?_
  refine ef e1 e2 e3 M ?_;refine qL (fun z l d=>∃ k v:Nat,k<=v/\v<=A.length/\z=v-k/\l 0=.ms q 0 L/\l 2=i m/\l 4=.fn (.func I) IQ/\l 14=i (p+k:Nat)/\l 15=i (p+v:Nat)/\(∀ j,j<k->(A.getD j ed0).id<=y.id)/\(∀ j,v<=j->j<A.length->y.id<(A.getD j ed0).id)/\d.H q=kn (P++A++y::S)/\bR q g d) A.length ?_ ?_
  .exact⟨0,A.length,oO,au _,rfl,sS,sS,sS,sS,aa hm,fun j h=>by omega,fun j Y Z=>by omega,hH,bR.refl _ _⟩
  rintro z l d ⟨k,v,hkv,hvB,rfl,F,X,f4,b,D,Y,Z,n,E⟩ JJ f;have hP3:=I7.keep _ _ Q9 E;have N9:q<d.z:=by have:=E.1;omega
  by_cases dF:k<v
  .obtain⟨s,hs⟩:∃ s:Nat,s=(p+k)+(p+v):=⟨_,rfl⟩;obtain⟨h,hh⟩:∃ h:Nat,p+h=s / 2:=⟨s / 2-p,oO⟩;have wA:IntKind.i64.wrap ((p:Int)+k+(p+v))=(s:Int):=zW;have wB:=zD s oO;obtain⟨C,hph⟩:∃ C:Nat,C=p+h:=⟨_,rfl⟩;have wC:=GG s C oO;have wD:IntKind.i64.wrap (C:Int)=(C:Int):=zW;have wE:IntKind.i64.wrap ((C:Int)+1)=((p+(h+1):Nat):Int):=zW;have g1:(P++A++y::S).getD m ed0=y:=Es _ _ _ (dg Q hm);have g2:(P++A++y::S).getD C ed0=A.getD h ed0:=by
    (first|rw[show P++A++y::S=P++(A++y::S) by simp,show C=P.length+h by omega,Aw.AM,Aw.rM _ _ _ oO]|rw[show P++A++y::S=P++(A++y::S) by simp,show C=P.length+h by omega,Aw.U.AM,Aw.U.rM _ _ _ oO])
   have hgo:¬y.id<(A.getD h ed0).id->∀ j,j<h+1->(A.getD j ed0).id<=y.id:=fun h3 j hj=>by have:=jH hA (j:=j) (k:=h) oO oO;omega
   have K2:y.id<(A.getD h ed0).id->∀ j,h<=j->j<A.length->y.id<(A.getD j ed0).id:=fun h3 j hj O=>by have:=jH hA (j:=h) (k:=j) hj O;omega
   have B:=aJ (P++A++y::S);have T:=aS (P++A++y::S) m oO;have V:=aS (P++A++y::S) C oO;rw[g1]at T;rw[g2]at V;rw[hL]at B;have hfr:∀ UK K,K.H q=d.H q->bR q g K->UK 0=.ms q 0 L/\UK 2=i m/\UK 4=.fn (.func I) IQ->((¬y.id<(A.getD h ed0).id/\UK 14=i (p+(h+1):Nat)/\UK 15=i (p+v:Nat))\/(y.id<(A.getD h ed0).id/\UK 14=i (p+k:Nat)/\UK 15=i (p+h:Nat)))->JJ UK K:=by
    rintro UK K e k2 ⟨k3,k4,k5⟩ (⟨k6,k7,k8⟩|⟨k6,k7,k8⟩)
    .exact f (v-(h+1)) _ _ oO ⟨h+1,v,oO,hvB,rfl,k3,k4,k5,k7,k8,hgo k6,Z,e.trans n,k2⟩
    .exact f (h-k) _ _ oO ⟨k,h,oO,oO,rfl,k3,k4,k5,k7,k8,Y,K2 k6,e.trans n,k2⟩
   clear f hgo K2 Y Z;have hcm:=I7.call d y (A.getD h ed0) hP3;have K3:=rF y (A.getD h ed0);generalize hx:A.getD h ed0=x at *;generalize hc:P++A++y::S=c at *;generalize tI y x=cv at *;have hA4:C<L:=oO;have hB4:m<L:=oO;have hkv':(p:Int)+k<p+v:=oO;refine kk b D hkv' dF wA wB wC wD ?_
   (refine zS [] [q] [0,2,4,6,8,10,12,14,16,19,20,22] ?_;intro J hJ;simp[F,X,f4,n,T,V,B];(repeat refine ca ?_))
   refine aO hcm ?_;rintro r s4 ⟨rfl,M0⟩;have w:=M0.H q N9;refine⟨fun _=>by simp[w,n],?_⟩;by_cases M6:y.id<x.id
   .have N:cv<0:=by rw[nm M6]at K3;exact nj K3
    (apply bM;simp[N,w,n];refine zJ hJ ?_)
    refine bz ?_;exact hfr _ _ w (E.keeps M0) ⟨aa F,aa X,aa f4⟩ (.inr ⟨M6,aa b,aa hph⟩)
   .have N:¬cv<0:=by rw[ls M6]at K3;exact qp K3
    (apply bM;simp[N,w,n];refine zJ hJ ?_)
    refine dd wE ?_;exact hfr _ _ w (E.keeps M0) ⟨aa F,aa X,aa f4⟩ (.inl ⟨M6,sS,aa D⟩)
  clear f;obtain rfl:k=v:=oO;have hR:=EU hA hvB Y (fun j hj O=>by have:=Z j hj O;omega);clear Y Z;refine fk X b D ?_;refine qL (fun z l K=>∃ t:Nat,k<=t/\t<=A.length/\z=t/\l 0=.ms q 0 L/\l 14=i (p+k:Nat)/\l 17=i (p+t:Nat)/\K.H q=kn (P++A.take t++y::(A.drop t++S))/\bR q g K) A.length ?_ ?_
  .exact⟨A.length,oO,oO,rfl,aa F,aa b,aa hm,by simp;rw[n];simp,E⟩
  clear F X f4 b D n E hP3 N9 l d;rintro t l d ⟨t0,hkt,htA,rfl,F,b,W,n,E⟩ JJ f;by_cases dF:k<t;rotate_left
  .clear f;obtain rfl:t=k:=oO;have v8:¬((p:Int)+t<p+t):=oO;refine fk b W v8 ?_;refine⟨_,?_,hR,by rw[n];simp,E⟩;refine lk.trans ?_;rw[gd];exact(List.perm_append_singleton y A).symm
  obtain⟨a,rfl⟩:∃ a,t=a+1:=⟨t-1,oO⟩;have hce:P++A.take (a+1)++y::(A.drop (a+1)++S)=(P++A.take a)++A.getD a ed0::y::(A.drop (a+1)++S):=by rw[Rr A a oO];simp
  have hUl:(P++A.take a).length=p+a:=by simp[Q];omega
  have hnx:(((P++A.take a)++A.getD a ed0::y::(A.drop (a+1)++S)).set (p+a+1) (A.getD a ed0)).set (p+a) y=P++A.take a++y::(A.drop a++S):=by rw[show(P++A.take a)++A.getD a ed0::y::(A.drop (a+1)++S)=(P++A.take a++[A.getD a ed0])++y::(A.drop (a+1)++S) by simp];rw[PI _ _ _ _ (by simp[Q];omega)];rw[show(P++A.take a++[A.getD a ed0])++A.getD a ed0::(A.drop (a+1)++S)=(P++A.take a)++A.getD a ed0::(A.getD a ed0::(A.drop (a+1)++S)) by simp];rw[PI _ _ _ _ hUl.symm,KR A a oO];simp
  have g1:=Es (P++A.take a) (A.getD a ed0) (y::(A.drop (a+1)++S)) (j:=p+a) hUl.symm;have g2:((P++A.take a)++A.getD a ed0::y::(A.drop (a+1)++S)).getD (p+a+1) ed0=y:=by rw[show(P++A.take a)++A.getD a ed0::y::(A.drop (a+1)++S)=(P++A.take a++[A.getD a ed0])++y::(A.drop (a+1)++S) by simp];exact Es _ _ _ (by simp[Q];omega)
  have r8:((P++A.take a)++A.getD a ed0::y::(A.drop (a+1)++S)).length=L:=by rw[<- hce];simp only[cf,List.length_cons,dn,gk];omega
  rw[hce]at n;generalize A.getD a ed0=x at *;generalize hc:(P++A.take a)++x::y::(A.drop (a+1)++S)=c at *;obtain⟨e,o6⟩:∃ e:Nat,e=p+a:=⟨_,rfl⟩;rw[<- o6]at g1 g2 hnx;have B:=aJ c;have T:=aS c e oO;have V:=aS c (e+1) oO;rw[g1]at T;rw[g2]at V;rw[r8]at B;have wG':IntKind.i64.wrap (e:Int)=(e:Int):=vX _ oO oO;have o:l 17=i ((e:Int)+1):=by rw[W,o6];simp;omega
  have hA4:e+1<L:=oO;have hB4:e<L:=oO;have hgt:(p:Int)+k<(e:Int)+1:=oO;refine fk b o hgt ?_
  (refine zS [] [q] [0,2,4,6,8,10,12,14,16,18,20,22,24,26,28,31,32,35] ?_;intro J hJ;simp[F,o,n,T,V,B,r8,wG'];(repeat refine ca ?_);refine zJ hJ ?_)
  have e1:=jI c (e+1) x oO;have e2:=jI (c.set (e+1) x) e y (by simp;omega);rw[e1,e2,hnx,St.set_set];refine cy o wG' ?_;exact f a _ _ oO ⟨a,oO,oO,rfl,aa F,aa b,by simp;omega,sS,E.set _⟩
def Aw.ZG:=LL.1
def Aw.U.ZG:=LL.2
open Go Go.RowKit Pl Aw
open Aw.U
namespace Aw
def Yx(P b c R:List Ed)(q:Nat)(d a:St):Prop:=Ef P b c R q d (.tu []) a
end Aw
namespace Aw.U
def Yx(P b c R:List Nu)(q:Nat)(d a:St):Prop:=Ef P b c R q d (.tu []) a
end Aw.U
namespace Aw
def Bk{P:Program}{N:Nat}{Q:AQ}{k:List gQ}{a:af}{b:St}{x:Code}(I:af->St->Prop)(c:bq P N x (AK P N (fun e f s=>e=.normal/\I f s) []) a b)(d:∀ a b,I a b->AK P N Q k .normal a b):bq P N x (AK P N Q k) a b:=by refine dG c ?_;rintro e UK h ⟨rfl,g⟩;exact d _ _ g
end Aw
def xN:(∀(q L:Nat) (x7:FuncId) (IQ:List LV) (Pc:St->Prop) (I7:Aw.gW x7 IQ q Pc) (hl:L<=100000),
 ∀(n:Nat) (P A B S:List Ed) (p m b:Nat) (st:St),A.length+B.length<=n->A≠[]->B≠[]->Ris A->Ris B->(P++A++B++S).length=L->P.length=p->m=p+A.length->b=m+B.length->Pc st->q<st.z->st.H q=.box 36 3 (eds (P++A++B++S))->
 aB prog 162 [.ms q 0 L,i p,i m,i b,.fn (.func x7) IQ] st (Ef P A B S q st))/\(∀(q L:Nat) (x7:FuncId) (IQ:List LV) (Pc:St->Prop) (I7:Aw.U.gW x7 IQ q Pc) (hl:L<=100000),
 ∀(n:Nat) (P A B S:List Nu) (p m b:Nat) (st:St),A.length+B.length<=n->A≠[]->B≠[]->Ris A->Ris B->(P++A++B++S).length=L->P.length=p->m=p+A.length->b=m+B.length->Pc st->q<st.z->st.H q=.box 34 1 (eds (P++A++B++S))->
 aB prog 160 [.ms q 0 L,i p,i m,i b,.fn (.func x7) IQ] st (Ef P A B S q st)):=by
 refine⟨?_,?_⟩
 all_goals
  intro q L x7 IQ Pc I7 hl;intro n;induction n with
  |zero=>intro P A B S p m b st hn hA;have:=iu.2 hA;omega
  |succ n ih=>
  intro P A B S p m b st hn hA hB rA rB hL hp hm hb Q9 hq hH;have hA0:=iu.2 hA;have hB0:=iu.2 hB;by_cases hA1:A.length=1
  .obtain⟨x,rfl⟩:∃ x,A=[x]:=um.1 hA1;have e:P++[x]++B++S=P++x::B++S:=sS;rw[e]at hH hL;subst hb;exact Ys P x B S q L p m x7 IQ Pc st I7 Q9 hq rB hL hl hp (by simpa using hm) hH
  by_cases V7:B.length=1
  .obtain⟨y,rfl⟩:∃ y,B=[y]:=um.1 V7;have e:P++A++[y]++S=P++A++y::S:=sS;rw[e]at hH hL;subst hb;exact ZG P A y S q L p m x7 IQ Pc st I7 Q9 hq rA hA1 hL hl hp hm hH
  have hLl:L=p+A.length+B.length+S.length:=by rw[<- hL,<- hp];simp only[cf]
  obtain⟨s,hs⟩:∃ s:Nat,s=p+b:=⟨_,rfl⟩;obtain⟨g,hmid⟩:∃ g:Nat,g=s / 2:=⟨_,rfl⟩;obtain⟨nn,hnn⟩:∃ nn:Nat,nn=g+m:=⟨_,rfl⟩;obtain⟨pp,hpp⟩:∃ pp:Nat,nn=pp+1:=⟨nn-1,oO⟩;have e1:IntKind.i64.wrap ((m:Int)-p)=(A.length:Int):=zW;have e2:IntKind.i64.wrap ((b:Int)-m)=(B.length:Int):=zW;have wA:IntKind.i64.wrap ((p:Int)+b)=(s:Int):=zW;have wB:=zD s oO;have wC:=GG s g hmid;have wD:IntKind.i64.wrap (g:Int)=(g:Int):=zW;have wN:IntKind.i64.wrap ((g:Int)+m)=(nn:Int):=zW;have wP:IntKind.i64.wrap ((nn:Int)-1)=(pp:Int):=zW;obtain⟨s0,Y⟩:∃ s0:Nat,s0=if g<m then nn-b else p:=⟨_,rfl⟩
  obtain⟨r0,N⟩:∃ r0:Nat,r0=if g<m then g else m:=⟨_,rfl⟩
  have hsr:p<=s0/\s0<=r0/\r0<=m/\r0<=g/\nn<=s0+b:=by
   by_cases h:g<m
   .rw[ad h]at Y N;omega
   .rw[ac h]at Y N;omega
  first|(have _:List Ed:=P;refine zN func162 ntmps162 [] ?_)|refine zN func160 ntmps160 [] ?_
  (repeat' (first|apply qS|(refine zE ?_;intro J t;simp[e1];refine zJ t ?_)))
  (apply qC;simp[hA1];(try with_reducible refine⟨?_,?_⟩)<;>(try with_reducible intro hc)<;>try (exfalso;omega))
  (repeat' (first|apply qS|refine qK (zZ ?_)|(refine zE ?_;intro J t;simp[e2];refine zJ t ?_)))
  (apply qC;simp[V7];(try with_reducible refine⟨?_,?_⟩)<;>(try with_reducible intro hc)<;>try (exfalso;omega))
  (repeat' (first|apply qS|refine qK (zZ ?_)|(refine zE ?_;intro J t;simp[wA,wB,wC,wD,wN];refine zJ t ?_)))
  refine bW (fun F st2=>F 0=.ms q 0 L/\F 1=i p/\F 2=i m/\F 3=i b/\F 4=.fn (.func x7) IQ/\F 18=i g/\F 19=i nn/\F 20=i s0/\F 21=i r0/\st2=st) ?_ ?_
  .by_cases h:g<m
   .rw[ad h]at Y N;have w1:IntKind.i64.wrap ((nn:Int)-b)=(s0:Int):=zW;refine fk h w1 N ?_;simp[N]
   .rw[ac h]at Y N;refine fk h Y N ?_;simp[Y,N]
  rintro F st2 ⟨w,M,f2,I,E,a,W,f,f21,rfl⟩
  (repeat' (first|apply qS|apply qB|(refine zE ?_;intro J t;simp[W,wP];refine zJ t ?_)))
  refine qL (fun z F P5=>∃ k v:Nat,s0<=k/\k<=v/\v<=r0/\z=v-k/\F 0=.ms q 0 L/\F 1=i p/\F 2=i m/\F 3=i b/\F 4=.fn (.func x7) IQ/\F 18=i g/\F 19=i nn/\F 20=i k/\F 21=i v/\F 22=i pp/\(s0<k->(A.getD (k-1-p) ed0).id<=(B.getD (g-k) ed0).id)/\(v<r0->(B.getD (g-v-1) ed0).id<(A.getD (v-p) ed0).id)/\P5.H q=kn (P++A++B++S)/\bR q st2 P5) (r0-s0) ?_ ?_
  .exact⟨s0,r0,au _,oO,au _,rfl,aa w,aa M,aa f2,aa I,aa E,aa a,aa W,aa f,aa f21,sS,fun h=>by omega,fun h=>by omega,hH,bR.refl _ _⟩
  clear w M f2 I E a W f f21 F;rintro z F P5 ⟨k,v,P3,hkv,hv0,rfl,w,M,f2,I,E,a,W,f,f21,f22,h1,h2,X,Q⟩ JJ hJJ;have hP3:=I7.keep _ _ Q9 Q;have hq3:q<P5.z:=by have:=Q.1;omega
  by_cases dF:k<v
  .obtain⟨s',T0⟩:∃ s':Nat,s'=k+v:=⟨_,rfl⟩;obtain⟨c,hc⟩:∃ c:Nat,c=s' / 2:=⟨_,rfl⟩;obtain⟨d,hd⟩:∃ d:Nat,d=pp-c:=⟨_,rfl⟩;have w1:IntKind.i64.wrap ((k:Int)+v)=(s':Int):=zW;have w2:=zD s' oO;have w3:=GG s' c hc;have w4:IntKind.i64.wrap (c:Int)=(c:Int):=zW;have w5:IntKind.i64.wrap ((pp:Int)-c)=(d:Int):=zW;have w6:IntKind.i64.wrap ((c:Int)+1)=((c+1:Nat):Int):=zW;have g1:(P++A++B++S).getD d ed0=B.getD (g-c-1) ed0:=by
    (first|rw[show P++A++B++S=(P++A)++(B++S) by simp,show d=(P++A).length+(g-c-1) by simp;omega,Aw.AM,Aw.rM _ _ _ oO]|rw[show P++A++B++S=(P++A)++(B++S) by simp,show d=(P++A).length+(g-c-1) by simp;omega,Aw.U.AM,Aw.U.rM _ _ _ oO])
   have g2:(P++A++B++S).getD c ed0=A.getD (c-p) ed0:=by have h3:=AM P (A++(B++S)) (c-p);rw[rM A (B++S) (c-p) oO,hp,show p+(c-p)=c by omega]at h3;rw[<- h3];simp
   have hel:=aJ (P++A++B++S);have da:=aS (P++A++B++S) d oO;have db:=aS (P++A++B++S) c oO;rw[g1]at da;rw[g2]at db;rw[hL]at hel;have hfr:∀ UK Z,Z.H q=P5.H q->bR q st2 Z->(UK 0=.ms q 0 L/\UK 1=i p/\UK 2=i m/\UK 3=i b/\UK 4=.fn (.func x7) IQ/\UK 18=i g/\UK 19=i nn/\UK 22=i pp)->((¬(B.getD (g-c-1) ed0).id<(A.getD (c-p) ed0).id/\UK 20=i (c+1:Nat)/\UK 21=i v)\/((B.getD (g-c-1) ed0).id<(A.getD (c-p) ed0).id/\UK 20=i k/\UK 21=i c))->JJ UK Z:=by
    rintro UK Z k1 k2 ⟨k3,k4,k5,k6,k7,k8,k9,k10⟩ (⟨j1,j2,j3⟩|⟨j1,j2,j3⟩)
    .exact hJJ (v-(c+1)) _ _ oO ⟨c+1,v,oO,oO,hv0,rfl,k3,k4,k5,k6,k7,k8,k9,j2,j3,k10,fun _=>by rw[qm,<- Nat.sub_sub];omega,h2,k1.trans X,k2⟩
    .exact hJJ (c-k) _ _ oO ⟨k,c,P3,oO,oO,rfl,k3,k4,k5,k6,k7,k8,k9,j2,j3,k10,h1,fun _=>j1,k1.trans X,k2⟩
   clear hJJ h1 h2;have hcm:=I7.call P5 (B.getD (g-c-1) ed0) (A.getD (c-p) ed0) hP3;have K3:=rF (B.getD (g-c-1) ed0) (A.getD (c-p) ed0);generalize B.getD (g-c-1) ed0=y at *;generalize A.getD (c-p) ed0=x at *;generalize hce:P++A++B++S=cc at *;generalize tI y x=cv at *;have hA4:d<L:=oO;have hB4:c<L:=oO;refine mu f f21 dF w1 w2 w3 w4 ?_
   (refine zS [] [q] [0,2,4,6,8,10,12,14,16,18,20,23,24,26] ?_;intro J t;simp[w,E,f22,X,da,db,hel,w5];(repeat refine ca ?_))
   refine aO hcm ?_;rintro r s4 ⟨rfl,M0⟩;have hD4:=M0.H q hq3;refine⟨fun _=>by simp[hD4,X],?_⟩;by_cases M6:y.id<x.id
   .have hcv:cv<0:=by rw[nm M6]at K3;exact nj K3
    (apply bM;simp[hcv,hD4,X];refine zJ t ?_)
    refine bz ?_;exact hfr _ _ hD4 (Q.keeps M0) ⟨aa w,aa M,aa f2,aa I,aa E,aa a,aa W,aa f22⟩ (.inr ⟨M6,aa f,sS⟩)
   .have hcv:¬cv<0:=by rw[ls M6]at K3;exact qp K3
    (apply bM;simp[hcv,hD4,X];refine zJ t ?_)
    refine dd w6 ?_;exact hfr _ _ hD4 (Q.keeps M0) ⟨aa w,aa M,aa f2,aa I,aa E,aa a,aa W,aa f22⟩ (.inl ⟨M6,sS,aa f21⟩)
  clear hJJ;obtain rfl:k=v:=oO;have hcut:Cut A B (k-p) (g-k):=by
   refine⟨oO,oO,?_,?_⟩
   .by_cases h:s0<k
    .refine .inr (.inr ?_);have:=h1 h
     rwa [show k-1-p=k-p-1 by omega]at this
    .by_cases h3:g<m
     .rw[ad h3]at Y;exact .inr (.inl oO)
     .rw[ac h3]at Y;exact .inl oO
   .by_cases h:k<r0
    .refine .inr (.inr ?_);have:=h2 h;omega
    .by_cases h3:g<m
     .rw[ad h3]at N;exact .inl oO
     .rw[ac h3]at N;exact .inr (.inl oO)
  have hj:=fun C D=>Cut.join (C:=C) (D:=D) rA rB hcut;have rA1:Ris (A.take (k-p)):=sk (List.take_sublist _ _) rA;have rA2:Ris (A.drop (k-p)):=sk (List.drop_sublist _ _) rA;have rB1:Ris (B.take (g-k)):=sk (List.take_sublist _ _) rB;have rB2:Ris (B.drop (g-k)):=sk (List.drop_sublist _ _) rB;have lA1:(A.take (k-p)).length=k-p:=by rw[dn];omega
  have lA2:(A.drop (k-p)).length=m-k:=by rw[gk];omega
  have lB1:(B.take (g-k)).length=g-k:=by rw[dn];omega
  have lB2:(B.drop (g-k)).length=b-m-(g-k):=by rw[gk];omega
  have eA:=gd (k-p) A;have eB:=gd (g-k) B;obtain⟨O,hed⟩:∃ O:Nat,O=nn-k:=⟨_,rfl⟩;have wE:IntKind.i64.wrap ((nn:Int)-k)=(O:Int):=zW;clear hcut h1 h2;generalize A.take (k-p)=A1 at *;generalize A.drop (k-p)=R at *;generalize B.take (g-k)=B1 at *;generalize B.drop (g-k)=T at *;have nz:∀ {l:List (Cn P)} {j:Nat},l.length=j->0<j->l≠[]:=fun h1 h2 h3=>by subst h3;simp at h1;omega
  have zz:∀ {l:List (Cn P)} {j:Nat},l.length=j->j=0->l=[]:=fun h1 h2=>gI oO;have hD':P5.H q=kn ((P++A1)++R++B1++(T++S)):=by rw[X,<- eA,<- eB];simp
  have hL2:((P++A1)++R++B1++(T++S)).length=L:=by simp only[cf];omega
  have hpA:(P++A1).length=k:=by simp only[cf];omega
  clear X;have I9:¬(k:Int)<k:=oO
  (repeat' (first|apply qS|(refine zE ?_;intro J t;simp[f,f21];refine zJ t ?_)))
  (apply qC;simp[I9])
  refine qX (zZ ?_)
  (repeat (apply qS))
  (refine zE ?_;intro J t;simp[W,f,wE];refine zJ t ?_)
  (repeat (apply qS))
  refine Bk (fun UK Z=>(UK 0=.ms q 0 L/\UK 1=i p/\UK 2=i m/\UK 3=i b/\UK 4=.fn (.func x7) IQ/\UK 18=i g/\UK 20=i k/\UK 24=i O/\UK 185=bb (decide (k<m/\m<O)))/\Z=P5) ?_ ?_
  .by_cases K:k<m
   .by_cases V:m<O
    ·(refine zE ?_;intro J t;simp[f,f2,K,V];refine zJ t ?_)
     simp[w,M,f2,I,E,a,f,K,V]
    ·(refine zE ?_;intro J t;simp[f,f2,K,V];refine zJ t ?_)
     simp[w,M,f2,I,E,a,f,K,V]
   ·(refine zE ?_;intro J t;simp[f,f2,K];refine zJ t ?_)
    simp[w,M,f2,I,E,a,f,K]
  clear w M f2 I E a W f f21 f22 F;rintro F Z ⟨⟨w,M,f2,I,E,a,f,o,f185⟩,rfl⟩;simp only[ak]
  (repeat (apply qS))
  refine bW (fun UK st5=>(UK 0=.ms q 0 L/\UK 1=i p/\UK 3=i b/\UK 4=.fn (.func x7) IQ/\UK 18=i g/\UK 20=i k/\UK 24=i O)/\st5.H q=kn (P++A1++B1++(R++T++S))/\bR q st2 st5) ?_ ?_
  .by_cases c:k<m/\m<O
   .rw[nm c]at f185;have J4:=TN (P++A1) R B1 (T++S) q (.func x7) IQ Z (nz lA2 oO) (nz lB1 oO) oO hD';rw[hpA,lA2,lB1,show k+(m-k)=m by omega,show m+(g-k)=O by omega,hL2]at J4;have e9:P++A1++B1++R++(T++S)=P++A1++B1++(R++T++S):=sS;rw[e9]at J4;generalize P++A1++B1++(R++T++S)=cc at *
    (repeat' (first|(apply qC;simp[f185,w,f,f2,o,E])|(refine zE ?_;intro J t;simp[f185,w,f,f2,o,E])))
    refine qE J4 sS ?_;rintro r s5 rfl
    (repeat' (apply cL;simp[];refine zJ t ?_))
    simp[w,M,I,E,a,f,o];exact Q.set _
   .rw[ls c]at f185;have e9:(P++A1)++R++B1++(T++S)=P++A1++B1++(R++T++S):=by
     by_cases K:k<m
     .rw[zz lB1 oO];simp
     .rw[zz lA2 oO];simp
    rw[e9]at hD';generalize P++A1++B1++(R++T++S)=cc at *;refine dd f185 ?_;simp[w,M,I,E,a,f,o,hD',Q]
  clear w M f2 I E a f o f185 hD' Q hq3 hP3 F;rintro F st5 ⟨⟨w,M,I,E,a,f,o⟩,X,Q⟩
  (repeat (apply qS))
  refine Bk (fun UK st6=>(UK 0=.ms q 0 L/\UK 1=i p/\UK 3=i b/\UK 4=.fn (.func x7) IQ/\UK 18=i g/\UK 20=i k/\UK 24=i O/\UK 199=bb (decide (p<k/\k<g)))/\st6=st5) ?_ ?_
  .by_cases K:p<k
   .by_cases V:k<g
    ·(refine zE ?_;intro J t;simp[f,M,a,K,V];refine zJ t ?_)
     simp[w,M,I,E,a,f,o,K,V]
    ·(refine zE ?_;intro J t;simp[f,M,a,K,V];refine zJ t ?_)
     simp[w,M,I,E,a,f,o,K,V]
   ·(refine zE ?_;intro J t;simp[f,M,K];refine zJ t ?_)
    simp[w,M,I,E,a,f,o,K]
  clear w M I E a f o F;rintro F st6 ⟨⟨w,M,I,E,a,f,o,f199⟩,rfl⟩;simp only[ak]
  (repeat (apply qS))
  refine bW (fun UK st7=>(UK 0=.ms q 0 L/\UK 3=i b/\UK 4=.fn (.func x7) IQ/\UK 18=i g/\UK 24=i O)/\Yx P A1 B1 (R++T++S) q st2 st7) ?_ ?_
  .have hP6:=I7.keep _ _ Q9 Q;have hq6:q<st6.z:=by have:=Q.1;omega
   by_cases c:p<k/\k<g
   .rw[nm c]at f199;have J4:=ih P A1 B1 (R++T++S) p k g st6 oO (nz lA1 oO) (nz lB1 oO) rA1 rB1 (by simp only[cf];omega) hp oO oO hP6 hq6 X
    (repeat' (first|(apply qC;simp[f199,w,M,f,a,E])|(refine zE ?_;intro J t;simp[f199,w,M,f,a,E])))
    refine qE J4 sS ?_;rintro r s7 ⟨C,k1,k2,k3,k4⟩
    (repeat' (apply cL;simp[];refine zJ t ?_))
    simp[w,I,E,a,o];exact⟨C,k1,k2,by rw[k3];simp,Q.trans k4⟩
   .rw[ls c]at f199;have e9:Ris (A1++B1):=by
     by_cases K:p<k
     .rw[zz lB1 oO,eP];exact rA1
     .rw[zz lA1 oO,List.nil_append];exact rB1
    refine dd f199 ?_;simp[w,I,E,a,o];exact⟨A1++B1,.refl _,e9,by rw[X];simp,Q⟩
  clear w M I E a f o f199 X Q F;rintro F st7 ⟨⟨w,I,E,a,o⟩,C,K,V,X,Q⟩;have lC:=K.length_eq;rw[cf,lA1,lB1]at lC;have X:st7.H q=kn (P++C++R++T++S):=by rw[X];simp
  (repeat (apply qS))
  refine Bk (fun UK st8=>(UK 0=.ms q 0 L/\UK 3=i b/\UK 4=.fn (.func x7) IQ/\UK 18=i g/\UK 24=i O/\UK 213=bb (decide (g<O/\O<b)))/\st8=st7) ?_ ?_
  .by_cases K:g<O
   .by_cases V:O<b
    ·(refine zE ?_;intro J t;simp[o,I,a,K,V];refine zJ t ?_)
     simp[w,I,E,a,o,K,V]
    ·(refine zE ?_;intro J t;simp[o,I,a,K,V];refine zJ t ?_)
     simp[w,I,E,a,o,K,V]
   ·(refine zE ?_;intro J t;simp[o,a,K];refine zJ t ?_)
    simp[w,I,E,a,o,K]
  clear w I E a o F;rintro F st8 ⟨⟨w,I,E,a,o,f213⟩,rfl⟩;simp only[ak];have hP8:=I7.keep _ _ Q9 Q;have hq8:q<st8.z:=by have:=Q.1;omega
  by_cases c:g<O/\O<b
  .rw[nm c]at f213;have J4:=ih (P++C) R T S g O b st8 oO (nz lA2 oO) (nz lB2 oO) rA2 rB2 (by simp only[cf];omega) (by simp only[cf];omega) oO oO hP8 hq8 X
   (repeat' (first|(apply qC;simp[f213,w,I,o,a,E])|(refine zE ?_;intro J t;simp[f213,w,I,o,a,E])))
   refine qE J4 sS ?_;rintro r s9 ⟨D,k1,k2,k3,k4⟩
   (repeat' (apply cL;simp[];refine zJ t ?_))
   obtain⟨j1,j2⟩:=hj C D K k1 V k2;exact⟨trivial,C++D,j1,j2,by rw[k3];simp,Q.trans k4⟩
  .rw[ls c]at f213;have e9:Ris (R++T):=by
    by_cases K:g<O
    .rw[zz lB2 oO,eP];exact rA2
    .rw[zz lA2 oO,List.nil_append];exact rB2
   refine dd f213 ?_;obtain⟨j1,j2⟩:=hj C (R++T) K (.refl _) V e9;exact⟨trivial,C++(R++T),j1,j2,by rw[X];simp,Q⟩
def Aw.Iy:=xN.1
def Aw.U.Iy:=xN.2
open Go Go.RowKit Pl Aw
open Aw.U
namespace Aw
structure Mgd(D D':List Ed)(lo hi:Nat):Prop where
 len:D'.length=D.length
 perm:D'.Perm D
 out:∀ j,j<lo\/hi<=j->D'.getD j ed0=D.getD j ed0
 inn:∀ j k,lo<=j->j<=k->k<hi->(D'.getD j ed0).id<=(D'.getD k ed0).id
end Aw
namespace Aw.U
structure Mgd(D D':List Nu)(lo hi:Nat):Prop where
 len:D'.length=D.length
 perm:D'.Perm D
 out:∀ j,j<lo\/hi<=j->D'.getD j ed0=D.getD j ed0
 inn:∀ j k,lo<=j->j<=k->k<hi->(D'.getD j ed0).id<=(D'.getD k ed0).id
end Aw.U
def RA:(∀ ⦃D P X S C:List Ed⦄ (f:P++X++S=D) (d:C.Perm X) (g:Aw.Ris C) ⦃a b:Nat⦄ (m:P.length=a) (n:b=a+X.length),
 Aw.Mgd D (P++C++S) a b)/\(∀ ⦃D P X S C:List Nu⦄ (f:P++X++S=D) (d:C.Perm X) (g:Aw.U.Ris C) ⦃a b:Nat⦄ (m:P.length=a) (n:b=a+X.length),
 Aw.U.Mgd D (P++C++S) a b):=by
 refine⟨?_,?_⟩
 all_goals
  intro D P X S C f d g a b m n;have r:=d.length_eq;subst f;refine⟨aa r,xn _ (qf _ d),fun j o=>?_,fun j k o p q=>?_⟩
  .rcases dC j a with h|h
   ·(first|rw[Aw.rM _ _ _ (by simp;omega),Aw.rM _ _ _ oO,Aw.rM _ _ _ (by simp;omega),Aw.rM _ _ _ oO]|rw[Aw.U.rM _ _ _ (by simp;omega),Aw.U.rM _ _ _ oO,Aw.U.rM _ _ _ (by simp;omega),Aw.U.rM _ _ _ oO])
   .have c:=AM (P++C) S (j-b);have l:=AM (P++X) S (j-b);have s:(P++C).length+(j-b)=j:=by simp;omega
    have t:(P++X).length+(j-b)=j:=by simp;omega
    rw[s]at c;rw[t]at l;rw[c,l]
  .have e:∀ x,a<=x->x<b->(P++C++S).getD x ed0=C.getD (x-a) ed0:=fun x v w=>by have c:=AM P (C++S) (x-a);rw[show P.length+(x-a)=x by omega,rM C S (x-a) oO]at c;rw[<- c];simp
   rw[e j o oO,e k oO q];exact jH g oO oO
def Aw.mgd:=RA.1
def Aw.U.mgd:=RA.2
namespace Aw
def XP{c:Type}(D:List c)(a b:Nat)(h:a<=b):D.take a++(D.drop a).take (b-a)++D.drop b=D:=by
 have e:(D.drop a).drop (b-a)=D.drop b:=by rw[oX];congr 1;omega
 rw[dz,<- e,gd,gd]
end Aw
def CW:(∀ ⦃D:List Ed⦄ ⦃lo hi:Nat⦄ (c:hi<=D.length) (h:∀ j k,lo<=j->j<=k->k<hi->(D.getD j Aw.ed0).id<=(D.getD k Aw.ed0).id),
 Aw.Ris ((D.drop lo).take (hi-lo)))/\(∀ ⦃D:List Nu⦄ ⦃lo hi:Nat⦄ (c:hi<=D.length) (h:∀ j k,lo<=j->j<=k->k<hi->(D.getD j Aw.U.ed0).id<=(D.getD k Aw.U.ed0).id),
 Aw.U.Ris ((D.drop lo).take (hi-lo))):=by
 refine⟨?_,?_⟩
 all_goals
  intro D lo hi c h;refine fq.2 fun a b d e f=>?_;simp only[dn,gk]at d e;rw[mj,mj,oe,oe,<- Du D (lo+a) oO,<- Du D (lo+b) oO];exact h _ _ oO oO oO
def Aw.zU:=CW.1
def Aw.U.zU:=CW.2
def Ik:(∀(q L:Nat) (f:FuncId) (IQ:List LV) (e:St->Prop) (k:Aw.gW f IQ q e) (t:L<=100000) (D:List Ed) (a b:Nat) (c:St) (m:D.length=L) (o:a<=b) (s:b<=L) (l:e c) (p:q<c.z) (n:c.H q=.box 36 3 (Aw.eds D)),
 aB prog 161 [.ms q 0 L,i a,i b,.fn (.func f) IQ] c fun r d=>∃ g,d.H q=.box 36 3 (Aw.eds g)/\Aw.Mgd D g a b/\bR q c d)/\(∀(q L:Nat) (f:FuncId) (IQ:List LV) (e:St->Prop) (k:Aw.U.gW f IQ q e) (t:L<=100000) (D:List Nu) (a b:Nat) (c:St) (m:D.length=L) (o:a<=b) (s:b<=L) (l:e c) (p:q<c.z) (n:c.H q=.box 34 1 (Aw.U.eds D)),
 aB prog 159 [.ms q 0 L,i a,i b,.fn (.func f) IQ] c fun r d=>∃ g,d.H q=.box 34 1 (Aw.U.eds g)/\Aw.U.Mgd D g a b/\bR q c d):=by
 refine⟨?_,?_⟩
 all_goals
  intro q L f IQ e k t D a b c m o s l p n;have j:=XP D a b o;have v:(D.take a).length=a:=by rw[dn];omega
  have B:((D.drop a).take (b-a)).length=b-a:=by rw[dn,gk];omega
  have h:=Me (D.take a) ((D.drop a).take (b-a)) (D.drop b) q f IQ e c k l p (by rw[j];omega) (by rw[j];exact n);rw[j,m,v,B,show a+(b-a)=b by omega]at h;refine h.mono ?_;rintro r d ⟨Y,w,x,y,A⟩;exact⟨_,y,mgd j w x v oO,A⟩
def Aw.Sz:=Ik.1
def Aw.U.Sz:=Ik.2
def Iq:(∀(q L:Nat) (g:FuncId) (IQ:List LV) (f:St->Prop) (o:Aw.gW g IQ q f) (A:L<=100000) (D:List Ed) (a m b:Nat) (c:St) (v:D.length=L) (E:a<m) (I:m<b) (F:b<=L) (s:∀ j k,a<=j->j<=k->k<m->(D.getD j Aw.ed0).id<=(D.getD k Aw.ed0).id) (t:∀ j k,m<=j->j<=k->k<b->(D.getD j Aw.ed0).id<=(D.getD k Aw.ed0).id) (p:f c) (B:q<c.z) (w:c.H q=.box 36 3 (Aw.eds D)),
 aB prog 162 [.ms q 0 L,i a,i m,i b,.fn (.func g) IQ] c fun r d=>∃ l,d.H q=.box 36 3 (Aw.eds l)/\Aw.Mgd D l a b/\bR q c d)/\(∀(q L:Nat) (g:FuncId) (IQ:List LV) (f:St->Prop) (o:Aw.U.gW g IQ q f) (A:L<=100000) (D:List Nu) (a m b:Nat) (c:St) (v:D.length=L) (E:a<m) (I:m<b) (F:b<=L) (s:∀ j k,a<=j->j<=k->k<m->(D.getD j Aw.U.ed0).id<=(D.getD k Aw.U.ed0).id) (t:∀ j k,m<=j->j<=k->k<b->(D.getD j Aw.U.ed0).id<=(D.getD k Aw.U.ed0).id) (p:f c) (B:q<c.z) (w:c.H q=.box 34 1 (Aw.U.eds D)),
 aB prog 160 [.ms q 0 L,i a,i m,i b,.fn (.func g) IQ] c fun r d=>∃ l,d.H q=.box 34 1 (Aw.U.eds l)/\Aw.U.Mgd D l a b/\bR q c d):=by
 refine⟨?_,?_⟩
 all_goals
  intro q L g IQ f o A D a m b c v E I F s t p B w;have y:=XP D m b oO;have n:=XP (D.take m) a m oO;have N:((D.take m).drop a).take (m-a)=(D.drop a).take (m-a):=by rw[List.drop_take,rh,Nat.min_self]
  have O:(D.take m).drop m=[]:=by rw[List.drop_eq_nil_iff,dn];omega
  have P:(D.take m).take a=D.take a:=by rw[rh,ti oO]
  rw[N,O,P,eP]at n;have x:D.take a++(D.drop a).take (m-a)++(D.drop m).take (b-m)++D.drop b=D:=by rw[n,y]
  have J:(D.take a).length=a:=by rw[dn];omega
  have K:((D.drop a).take (m-a)).length=m-a:=by rw[dn,gk];omega
  have M:((D.drop m).take (b-m)).length=b-m:=by rw[dn,gk];omega
  have V:=zU (D:=D) (lo:=a) (hi:=m) oO s;have W:=zU (D:=D) (lo:=m) (hi:=b) oO t;have h:=Iy q L g IQ f o A _ (D.take a) ((D.drop a).take (m-a)) ((D.drop m).take (b-m)) (D.drop b) a m b c (au _) (fun e=>by rw[e]at K;simp at K;omega) (fun e=>by rw[e]at M;simp at M;omega) V W (by rw[x];exact v) J oO oO p B (by rw[x];exact w);refine h.mono ?_;rintro r d ⟨C,Q,R,S,T⟩;refine⟨_,S,mgd (X:=(D.drop a).take (m-a)++(D.drop m).take (b-m)) (by rw[<- dz (D.take a)];exact x) Q R J (by simp only[cf];omega),T⟩
def Aw.PS:=Iq.1
def Aw.U.PS:=Iq.2
namespace Aw
def Bs(s b a:Nat)(D:List Ed):Prop:=∀ j k,b<=j->j<=k->k<a->j / s=k / s->(D.getD j ed0).id<=(D.getD k ed0).id
end Aw
namespace Aw.U
def Bs(s b a:Nat)(D:List Nu):Prop:=∀ j k,b<=j->j<=k->k<a->j / s=k / s->(D.getD j ed0).id<=(D.getD k ed0).id
end Aw.U
namespace Aw
def FZ{s t j:Nat}(a:s*t<=j)(b:j<s*t+s):j / s=t:=by
 refine Nat.div_eq_of_lt_le ?_ ?_
 .rw[lu];exact a
 .rw[lu,Nat.mul_succ];exact b
end Aw
def Bs.extTwo:(∀ ⦃s a b t:Nat⦄ ⦃D c:List Ed⦄ (h:Aw.Bs s 0 a D) (e:Aw.Mgd D c a b) (g:0<s) (m:a=s*t),
 Aw.Bs s 0 b c)/\(∀ ⦃s a b t:Nat⦄ ⦃D c:List Nu⦄ (h:Aw.U.Bs s 0 a D) (e:Aw.U.Mgd D c a b) (g:0<s) (m:a=s*t),
 Aw.U.Bs s 0 b c):=by
 refine⟨?_,?_⟩
 all_goals
  intro s a b t D c h e g m;intro j k _ d o n;rcases dC k a with f|f
  .rw[e.out j (.inl oO),e.out k (.inl f)];exact h j k (je _) d f n
  .rcases dC j a with l|l
   .have p:j / s<t:=yq oO;have q:t<=k / s:=(yg g).2 (by rw[lu];omega);omega
   .exact e.inn j k l d o
def Aw.Bs.ext:=Bs.extTwo.1
def Aw.U.Bs.ext:=Bs.extTwo.2
def Bs.restTwo:(∀ ⦃s a b:Nat⦄ ⦃L:Nat⦄ ⦃D c:List Ed⦄ (h:Aw.Bs s a L D) (d:Aw.Mgd D c a b) (f:a<=b),
 Aw.Bs s b L c)/\(∀ ⦃s a b:Nat⦄ ⦃L:Nat⦄ ⦃D c:List Nu⦄ (h:Aw.U.Bs s a L D) (d:Aw.U.Mgd D c a b) (f:a<=b),
 Aw.U.Bs s b L c):=by
 refine⟨?_,?_⟩
 all_goals
  intro s a b L D c h d f;intro j k g e m l;rw[d.out j (.inr g),d.out k (.inr oO)];exact h j k oO e m l
def Aw.Bs.rest:=Bs.restTwo.1
def Aw.U.Bs.rest:=Bs.restTwo.2
namespace Aw
def Bs.block{s a L t:Nat}{D:List Ed}(h:Bs s a L D){c:Nat}(l:s*t=c)(e:a<=c){j k:Nat}(f:c<=j)(b:j<=k)(g:k<c+s)(d:k<L):(D.getD j ed0).id<=(D.getD k ed0).id:=
 h j k oO b d ((FZ (t:=t) oO oO).trans (FZ oO oO).symm)
end Aw
namespace Aw.U
def Bs.block{s a L t:Nat}{D:List Nu}(h:Bs s a L D){c:Nat}(l:s*t=c)(e:a<=c){j k:Nat}(f:c<=j)(b:j<=k)(g:k<c+s)(d:k<L):(D.getD j ed0).id<=(D.getD k ed0).id:=
 h j k oO b d ((FZ (t:=t) oO oO).trans (FZ oO oO).symm)
end Aw.U
def Bs.allTwo:(∀ ⦃s L:Nat⦄ ⦃D:List Ed⦄ (h:Aw.Bs s 0 L D) (b:L<=s) (a:D.length=L),
 Aw.Ris D)/\(∀ ⦃s L:Nat⦄ ⦃D:List Nu⦄ (h:Aw.U.Bs s 0 L D) (b:L<=s) (a:D.length=L),
 Aw.U.Ris D):=by
 refine⟨?_,?_⟩
 all_goals
  intro s L D h b a;have:=zU (D:=D) (lo:=0) (hi:=L) oO fun j k c d e=>h j k c d e (by rw[uq oO,uq oO])
  rwa [List.drop_zero,dp oO]at this
def Aw.Bs.all:=Bs.allTwo.1
def Aw.U.Bs.all:=Bs.allTwo.2
namespace Aw
def Mgd.from{D c:List Ed}{a b:Nat}(h:Mgd D c a b){d:List Ed}(k:D.Perm d):c.Perm d:=h.perm.trans k
end Aw
namespace Aw.U
def Mgd.from{D c:List Nu}{a b:Nat}(h:Mgd D c a b){d:List Nu}(k:D.Perm d):c.Perm d:=h.perm.trans k
end Aw.U
namespace Aw
def BI(b:List Ed)(q L:Nat)(c a:St)(D:List Ed):Prop:=D.length=L/\D.Perm b/\a.H q=.box 36 3 (eds D)/\bR q c a
end Aw
namespace Aw.U
def BI(b:List Nu)(q L:Nat)(c a:St)(D:List Nu):Prop:=D.length=L/\D.Perm b/\a.H q=.box 34 1 (eds D)/\bR q c a
end Aw.U
namespace Aw
def BI.step{f:List Ed}{q L:Nat}{j c e:St}{D d:List Ed}{a b:Nat}(h:BI f q L j c D)(g:Mgd D d a b)(k:e.H q=.box 36 3 (eds d))(l:bR q c e):BI f q L j e d:=
 ⟨g.len.trans h.1,g.from h.2.1,k,h.2.2.2.trans l⟩
end Aw
namespace Aw.U
def BI.step{f:List Nu}{q L:Nat}{j c e:St}{D d:List Nu}{a b:Nat}(h:BI f q L j c D)(g:Mgd D d a b)(k:e.H q=.box 34 1 (eds d))(l:bR q c e):BI f q L j e d:=
 ⟨g.len.trans h.1,g.from h.2.1,k,h.2.2.2.trans l⟩
end Aw.U
def Dz:(∀(n:List Ed) (q L:Nat) (x:FuncId) (IQ:List LV) (N:St->Prop) (p:St) (P:Aw.gW x IQ q N) (Q9:N p) (hq:q<p.z) (hL:n.length=L) (hl:L<=100000) (hH:p.H q=.box 36 3 (Aw.eds n)),
 aB prog 119 [.ms q 0 L,i L,.fn (.func x) IQ] p fun r M=>∃ D,D.Perm n/\Aw.Ris D/\M.H q=.box 36 3 (Aw.eds D)/\bR q p M)/\(∀(n:List Nu) (q L:Nat) (x:FuncId) (IQ:List LV) (N:St->Prop) (p:St) (P:Aw.U.gW x IQ q N) (Q9:N p) (hq:q<p.z) (hL:n.length=L) (hl:L<=100000) (hH:p.H q=.box 34 1 (Aw.U.eds n)),
 aB prog 117 [.ms q 0 L,i L,.fn (.func x) IQ] p fun r M=>∃ D,D.Perm n/\Aw.U.Ris D/\M.H q=.box 34 1 (Aw.U.eds D)/\bR q p M):=by
 refine⟨?_,?_⟩
 all_goals
  intro n q L x IQ N p P Q9 hq hL hl hH
  first|(have _:List Ed:=n;refine zN func119 ntmps119 [] ?_)|refine zN func117 ntmps117 [] ?_
  refine bz ?_;refine qL (fun z c l=>∃(t a:Nat) (D:List (Cn n)),a=20*t/\a<=L/\z=L-a/\c 0=.ms q 0 L/\c 1=i L/\c 2=.fn (.func x) IQ/\c 6=i 20/\c 7=i a/\c 8=i (a+20:Nat)/\Bs 20 0 a D/\BI n q L p l D) L ?_ ?_
  .exact⟨0,0,n,rfl,oO,rfl,sS,sS,sS,sS,sS,sS,fun j k _ _ h=>by omega,hL,.refl _,hH,bR.refl _ _⟩
  rintro z c l ⟨t,a,D,W,ha,rfl,f,d,g,o,F,A,I,b⟩ JJ K;have V:=P.keep _ _ Q9 b.2.2.2;have N9:q<l.z:=by have:=b.2.2.2.1;omega
  by_cases v7:a+20<=L
  .have y:(a:Int)+20<=L:=oO;have Q:=Sz q L x IQ N P oO D a (a+20) l b.1 oO v7 V N9 b.2.2.1;have w1:IntKind.i64.wrap ((a:Int)+20+20)=((a+20+20:Nat):Int):=zW
   (repeat' (first|apply qS|apply qB|refine qK (zZ ?_)|(apply qC;simp[f,d,g,F,A,y])|(refine zE ?_;intro J v;simp[f,d,g,F,A,y];(try refine zJ v ?_))))
   refine qE Q sS ?_;rintro r s3 ⟨C,S,B,T⟩
   (repeat' (first|apply qS|((first|(refine zE ?_;intro J v)|(apply cL));simp[A,o,w1];refine zJ v ?_)))
   exact K (L-(a+20)) _ _ oO ⟨t+1,a+20,C,oO,v7,rfl,aa f,aa d,aa g,aa o,sS,sS,I.ext B oO W,b.step B S T⟩
  clear K;have y:¬(a:Int)+20<=L:=oO;have Q:=Sz q L x IQ N P oO D a L l b.1 ha (au _) V N9 b.2.2.1
  (repeat' (first|apply qS|refine qX (zZ ?_)|(apply qC;simp[f,d,g,F,A,y])|(refine zE ?_;intro J v;simp[f,d,g,F,A,y];(try refine zJ v ?_))))
  refine qE Q sS ?_;rintro r s3 ⟨C,S,B,T⟩;have hB2:=I.ext B oO W;have hI2:=b.step B S T
  (repeat' (first|apply qB|(apply cL;simp[];refine zJ v ?_)))
  refine qL (fun z c l=>∃(s:Nat) (D:List (Cn n)),0<s/\s<=200040/\z=L-s/\c 0=.ms q 0 L/\c 1=i L/\c 2=.fn (.func x) IQ/\c 6=i s/\Bs s 0 L D/\BI n q L p l D) (L-20) ?_ ?_
  .exact⟨20,C,oO,oO,rfl,aa f,aa d,aa g,aa o,hB2,hI2⟩
  clear hB2 hI2 S B T Q b I f d g o F A V N9 v7 y W ha c;rintro z c P5 ⟨s,D,hs0,hs1,rfl,f,d,g,o,I,b⟩ JJ K;by_cases dF:s<L;rotate_left
  .clear K;have I9:¬(s:Int)<L:=oO;refine ef d o dF I9 ?_;exact⟨trivial,D,b.2.1,I.all oO b.1,b.2.2⟩
  have I9:(s:Int)<L:=oO;have w2:IntKind.i64.wrap (2*(s:Int))=((2*s:Nat):Int):=zW;have Z:IntKind.i64.wrap ((s:Int)*2)=((2*s:Nat):Int):=by rw[vX _ oO oO];omega
  obtain⟨e,hs2⟩:∃ e:Nat,e=2*s:=⟨_,rfl⟩;rw[<- hs2]at w2 Z;refine jg d o dF I9 w2 ?_;refine qL (fun z c l=>∃(t a:Nat) (D:List (Cn n)),a=e*t/\a<=L/\z=L-a/\c 0=.ms q 0 L/\c 1=i L/\c 2=.fn (.func x) IQ/\c 6=i s/\c 7=i a/\c 8=i (a+e:Nat)/\Bs e 0 a D/\Bs s a L D/\BI n q L p l D) L ?_ ?_
  .exact⟨0,0,D,oO,oO,rfl,aa f,aa d,aa g,aa o,sS,sS,fun j k _ _ h=>by omega,I,b⟩
  clear f d g o I b c D;rintro z c X ⟨t,a,D,W,ha,rfl,f,d,g,o,F,A,I,hR,b⟩ J2 hJ2;have hP4:=P.keep _ _ Q9 b.2.2.2;have hq4:q<X.z:=by have:=b.2.2.2.1;omega
  have e0:s*(2*t)=a:=by rw[W,hs2,lu 2 s,Nat.mul_assoc]
  have e1:s*(2*t+1)=a+s:=by rw[Nat.mul_succ,e0]
  have w3:IntKind.i64.wrap ((a:Int)+s)=((a+s:Nat):Int):=zW;obtain⟨m,hm⟩:∃ m:Nat,m=a+s:=⟨_,rfl⟩;rw[<- hm]at w3;by_cases v7:a+e<=L
  .have y:(a:Int)+e<=L:=oO;have Q:=PS q L x IQ N P hl D a m (a+e) X b.1 oO oO v7 (fun j k O E h3=>hR.block e0 (au _) O E oO oO) (fun j k O E h3=>hR.block e1 oO oO E oO oO) hP4 hq4 b.2.2.1;have w1:IntKind.i64.wrap ((a:Int)+e+e)=((a+e+e:Nat):Int):=zW
   (repeat' (first|apply qS|apply qB|refine qK (zZ ?_)|(apply qC;simp[f,d,g,o,F,A,y,w3])|(refine zE ?_;intro J v;simp[f,d,g,o,F,A,y,w3];(try refine zJ v ?_))))
   refine qE Q sS ?_;rintro r s3 ⟨C,S,B,T⟩
   (repeat' (first|apply qS|((first|(refine zE ?_;intro J v)|(apply cL));simp[A,o,w2,w1];refine zJ v ?_)))
   exact hJ2 (L-(a+e)) _ _ oO ⟨t+1,a+e,C,by rw[Nat.mul_succ];omega,v7,rfl,aa f,aa d,aa g,aa o,sS,sS,I.ext B oO W,hR.rest B oO,b.step B S T⟩
  clear hJ2;have y:¬(a:Int)+e<=L:=oO;have R:∀ UK Y (C:List (Cn n)),UK 0=.ms q 0 L/\UK 1=i L/\UK 2=.fn (.func x) IQ/\UK 6=i e->Bs e 0 L C->BI n q L p Y C->JJ UK Y:=by rintro UK Y C ⟨g0,g1,g2,g6⟩ O E;exact K (L-e) _ _ oO ⟨e,C,oO,oO,rfl,g0,g1,g2,g6,O,E⟩
  by_cases N8:m<L
  .have w:(m:Int)<L:=oO;have Q:=PS q L x IQ N P hl D a m L X b.1 oO N8 (au _) (fun j k O E h3=>hR.block e0 (au _) O E oO oO) (fun j k O E h3=>hR.block e1 oO oO E oO oO) hP4 hq4 b.2.2.1
   (repeat' (first|apply qS|refine qX (zZ ?_)|(apply qC;simp[f,d,g,o,F,A,y,w3,N8,w])|(refine zE ?_;intro J v;simp[f,d,g,o,F,A,y,w3,N8,w];(try refine zJ v ?_))))
   refine qE Q sS ?_;rintro r s3 ⟨C,S,B,T⟩
   (repeat' ((first|(refine zE ?_;intro J v)|(apply cL));simp[o,Z];refine zJ v ?_))
   exact R _ _ C ⟨aa f,aa d,aa g,sS⟩ (I.ext B oO W) (b.step B S T)
  .have w:¬(m:Int)<L:=oO;refine Wo f d g o F A y w3 N8 w Z ?_;refine R _ _ D ⟨aa f,aa d,aa g,sS⟩ (fun j k h0 hjk hk he=>?_) b;rcases dC k a with O|O
   .exact I j k h0 hjk O he
   .rcases dC j a with E|E
    .have h3:j / e<t:=yq oO;have h4:t<=k / e:=(yg oO).2 (by rw[lu];omega);omega
    .exact hR.block e0 (au _) E hjk oO hk
def Aw.JU:=Dz.1
def Aw.U.JU:=Dz.2
namespace Aw
open Go Go.RowKit Pl
def Ks(x y:Int)(e:St):aB prog 77 [u x,u y] e fun r a=>r=i (if x<y then -1 else if y<x then 1 else 0)/\a=e:=by
 refine zN func77 ntmps77 [.tmp 4] ?_
 (refine eu ?_;intro J b)
 refine qF (isNaN x _) ?_;rintro r a ⟨rfl,rfl⟩
 (refine mQ b ?_;intro J b)
 refine qF (isNaN y _) ?_;rintro r a ⟨rfl,rfl⟩;by_cases c:x<y
 .exact OQ b c
 .by_cases d:y<x
  .exact Wj b c d
  .exact Wj b c d
def uA(a:AN)(t:Nat)(d:St)(g:a.length<=100000):
 aB prog 20 [.sl t a.length (us a)] d fun r b=>∃ l,r=.ms l 0 a.length/\d.z<=l/\l<b.z/\b.H l=.box 34 1 (us a)/\aA d b:=by
 refine jU 34 1 ?_;have c:=KV a;refine zN func20 ntmps20 [.tmp 2] ?_
 (repeat' (first|apply qS|refine qK (zZ ?_)|(refine qR (zZ ?_);simp[c])|(apply qC;simp[c])|(refine w_e [5] ?_;intro J e;simp only[];simp[c];(repeat refine ca ?_);((try with_reducible refine⟨?_,?_⟩)<;>(try with_reducible intro f)<;>refine zJ e ?_<;>clear e J<;>try subst f))))
 .exact(aA.new _ _).trans (aA.new _ _)
 .exact aA.new _ _
def Fo(l:List Ed)(t:Nat)(d:St)(g:l.length<=100000):
 aB prog 19 [.sl t l.length (eds l)] d fun r b=>∃ q,r=.ms q 0 l.length/\d.z<=q/\q<b.z/\b.H q=.box 36 3 (eds l)/\aA d b:=by
 have c:=LI l;have a:=aJ l;refine jU 36 3 ?_;refine zN func19 ntmps19 [.tmp 2] ?_
 (repeat' (first|apply qS|refine qK (zZ ?_)|(refine qR (zZ ?_);simp[c,a])|(apply qC;simp[c,a])|(refine w_e [5] ?_;intro J e;simp only[];simp[c,a];(repeat refine ca ?_);((try with_reducible refine⟨?_,?_⟩)<;>(try with_reducible intro f)<;>refine zJ e ?_<;>clear e J<;>try subst f))))
 .exact(aA.new _ _).trans (aA.new _ _)
 .exact aA.new _ _
def RJ(d:FuncId)(IQ:List LV)(c:St->Prop):Prop:=(∀ b a,c b->aA b a->c a)/\∀ b x y,c b->aB prog d ([u x,u y]++IQ) b fun r a=>r=bb (decide (x=y))/\aA b a
def Vx(d:FuncId)(IQ:List LV)(c:St->Prop):Prop:=(∀ b a,c b->aA b a->c a)/\∀ b x y,c b->aB prog d ([.ag (dl x),.ag (dl y)]++IQ) b fun r a=>r=bb (decide (x.id=y.id))/\aA b a
def Rf(c:AN)(q:Nat)(w:FuncId)(IQ:List LV)(B:St->Prop)(e:St)(h:RJ w IQ B)(K:B e)(V:c.length<=100000)(L:∀ j,j+1<c.length->c.getD (j+1) 0≠c.getD j 0)(F:q<e.z)(M:e.H q=.box 34 1 (us c)):
 aB prog 78 [.ms q 0 c.length,.fn (.func w) IQ] e fun r t=>r=.ms q 0 c.length/\aA e t:=by
 refine zN func78 ntmps78 [.tmp 4] ?_;by_cases D:c.length<2
 .have b:(c.length:Int)<2:=oO;refine cy b D ?_;exact aA.refl _
 have b:¬(c.length:Int)<2:=oO;refine cy b D ?_;refine qL (fun z s d=>∃ k:Nat,0<k/\k<=c.length/\z=c.length-k/\s 0=.ms q 0 c.length/\s 1=.fn (.func w) IQ/\s 5=i k/\aA e d) (c.length-1) ?_ ?_
 .exact⟨1,oO,oO,rfl,sS,sS,sS,aA.refl _⟩
 rintro z s d ⟨k,T,U,rfl,o,C,p,m⟩ S g;by_cases dF:k<c.length;rotate_left
 .clear g;refine fk o p dF ?_;exact m
 obtain⟨a,rfl⟩:∃ a,k=a+1:=⟨k-1,oO⟩;have O:=qG c (a+1) dF;have R:=qG c a oO;have Q:IntKind.i64.wrap (a:Int)=(a:Int):=zW;have v:IntKind.i64.wrap ((a:Int)+1+1)=(a:Int)+1+1:=wrap_i64 _ oO oO;have l:a<c.length:=oO;have A:(a:Int)+1<c.length:=oO;have P:=L a dF;have n:=(m.H q F).trans M;have E:=h.2 d (c.getD (a+1) 0) (c.getD a 0) (h.1 _ _ K m);rw[ls P]at E;generalize c.getD (a+1) 0=x at *;generalize c.getD a 0=y at *;refine ef o p dF A ?_
 (refine zS [] [q] [0,2,4,6,8,10,12,14,16,18,21] ?_;intro J N;simp[o,C,p,dF,A,O,R,Q,l,n];(repeat refine ca ?_))
 refine aO E ?_;rintro r W ⟨rfl,I⟩;have f:=(I.H q (cz F m.z)).trans n;refine⟨fun _=>by simp[f,n],?_⟩
 (apply bM;simp[f,n];refine zJ N ?_)
 refine cy p v ?_;exact g (c.length-(a+1+1)) _ _ oO ⟨a+1+1,oO,oO,rfl,aa o,aa C,sS,m.trans I⟩
def Sa(c:List Ed)(q:Nat)(A:FuncId)(IQ:List LV)(C:St->Prop)(e:St)(h:Vx A IQ C)(O:C e)(W:c.length<=100000)(P:∀ j,j+1<c.length->(c.getD (j+1) ed0).id≠(c.getD j ed0).id)(L:q<e.z)(Q:e.H q=.box 36 3 (eds c)):
 aB prog 82 [.ms q 0 c.length,.fn (.func A) IQ] e fun r v=>r=.ms q 0 c.length/\aA e v:=by
 have t:=aJ c;refine zN func82 ntmps82 [.tmp 4] ?_;by_cases E:c.length<2
 .have b:(c.length:Int)<2:=oO;refine cy b E ?_;exact aA.refl _
 have b:¬(c.length:Int)<2:=oO;refine cy b E ?_;refine qL (fun z s d=>∃ k:Nat,0<k/\k<=c.length/\z=c.length-k/\s 0=.ms q 0 c.length/\s 1=.fn (.func A) IQ/\s 5=i k/\aA e d) (c.length-1) ?_ ?_
 .exact⟨1,oO,oO,rfl,sS,sS,sS,aA.refl _⟩
 rintro z s d ⟨k,U,V,rfl,o,D,p,m⟩ T g;by_cases dF:k<c.length;rotate_left
 .clear g;refine fk o p dF ?_;exact m
 obtain⟨a,rfl⟩:∃ a,k=a+1:=⟨k-1,oO⟩;have I:=aS c (a+1) dF;have N:=aS c a oO;have S:IntKind.i64.wrap (a:Int)=(a:Int):=zW;have w:IntKind.i64.wrap ((a:Int)+1+1)=(a:Int)+1+1:=wrap_i64 _ oO oO;have l:a<c.length:=oO;have B:(a:Int)+1<c.length:=oO;have K:=P a dF;have n:=(m.H q L).trans Q;have F:=h.2 d (c.getD (a+1) ed0) (c.getD a ed0) (h.1 _ _ O m);rw[ls K]at F;generalize c.getD (a+1) ed0=x at *;generalize c.getD a ed0=y at *;obtain⟨xi,Y,Z⟩:=x;obtain⟨yi,ya,yb⟩:=y;simp only at I N K;refine ef o p dF B ?_
 (refine zS [] [q] [0,2,4,6,8,10,12,14,16,18,21] ?_;intro J R;simp[o,D,p,dF,B,I,N,S,l,n,t];(repeat refine ca ?_))
 refine aO F ?_;rintro r X ⟨rfl,M⟩;have f:=(M.H q (cz L m.z)).trans n;refine⟨fun _=>by simp[f,n],?_⟩
 (apply bM;simp[f,n];refine zJ R ?_)
 refine cy p w ?_;exact g (c.length-(a+1+1)) _ _ oO ⟨a+1+1,oO,oO,rfl,aa o,aa D,sS,m.trans M⟩
structure Sh where
 L:List (Int×Int)
 on:AN
 F:List (AN)
def dH(w:AN):AN:=(w.drop 1).take (w.length-2)
def gT(h:Sh)(w:AN)(a:Nat):Sh:=
 ⟨kF h.L w,h.on++w,h.F.set a (jA (h.F.getD a []) ((h.F.getD a []).idxOf (w.getD 0 0)) ((h.F.getD a []).idxOf (w.getD (w.length-1) 0))++(dH w).reverse)++
   [jA (h.F.getD a []) ((h.F.getD a []).idxOf (w.getD (w.length-1) 0)) ((h.F.getD a []).idxOf (w.getD 0 0))++dH w]⟩
theorem IG(a:AN):∀(F:List AN) (k:Nat) (R:AN),k<F.length->(gY a F).take (k*2)++([.sl 0 R.length (us R),wv (mk a R)]++(gY a F).drop (k*2+2))=gY a (F.set k R)
 |r::F,0,R,_=>by simp[gY]
 |r::F,k+1,R,h=>by
  have:=IG a F k R (by grind)
  grind [gY]
 |[],k,R,h=>by grind
def NZ(a:AN)(F:List AN)(R:AN):gY a F++[.sl 0 R.length (us R),wv (mk a R)]=gY a (F++[R]):=by simp[gY]
def JB{r:AN}{i j:Nat}{v:Int}(h:v∈jA r i j):v∈r:=by
 have:=ut (oz h)
 grind
def nE{w:AN}{v:Int}(h:v∈dH w):v∈w:=ut (oz h)
def vD(w:AN):(dH w).length=w.length-2:=by grind [dH]
def Ub(w:AN):((us w).drop 1).take (w.length-1-1)=us (dH w):=by
 grind [dH,List.map_drop,List.map_take]
structure KM(M:List Nat)(a b:St):Prop where
 z:a.z<=b.z
 H:∀ l,l<a.z->l∉M->b.H l=a.H l
def KM.keeps{M:List Nat}{a b c:St}(h:KM M a b)(k:aA b c):KM M a c:=⟨er h.z k.z,fun l d e=>(k.H l (cz d h.z)).trans (h.H l d e)⟩
theorem KM.set{M:List Nat}{a b:St}(h:KM M a b){q:Nat}(e:a.z<=q\/q∈M)(o:cK):KM M a (b.set q o):=⟨h.z,fun l c d=>by
 rw[bP,ac (by grind)];exact h.H l c d⟩
def KM.of{M:List Nat}{a b:St}(h:aA a b):KM M a b:=⟨h.z,fun l c _=>h.H l c⟩
def F5{g:Gr}(hg:GP g){h:Sh}{S I n k c:Nat}{le:List (AN×LV)}{Z:St}(d:ShA g h.L h.on h.F S I n k c le Z){w:AN}{a:Nat}(V0:a < h.F.length)(J7:2<=w.length)(hwl:w.length<=200)(hwv:∀ v∈w,v∈g.V)
 (hrl:(h.F.getD a []).length<=1000) (h1:w.getD 0 0∈h.F.getD a []) (h2:w.getD (w.length-1) 0∈h.F.getD a []) (hfew:h.F.length<300) (P4:0<Z.z):
 aB prog 102 [.pt S 0,.sl 0 w.length (us w),i a] Z fun _ st'=>∃ fl' P,ShA g (gT h w a).L (gT h w a).on (gT h w a).F S I n k fl' P st'/\(fl'=c\/Z.z<=fl')/\KM [S,k,c] Z st':=by
 have h64:=hg.h64;have hn:g.V.Nodup:=hg.toGoodE.toGood.nodup;have L9:=d.r.box;have hF:=d.fac;have dF:=d.r.lt;have hflt:=d.flt;have X7:=pV g.V h.F;have hd:=rZ g.V h.F a V0;have hrv:∀ v∈h.F.getD a [],v∈g.V:=d.sub _ (by grind);have u5:a * 2<h.F.length*2:=oO;have hati:(a:Int)<h.F.length:=oO;have hsetF:=fun R=>IG g.V h.F a R V0;unfold gT;generalize Y:h.F.getD a []=r at *;have hd0:=qG w 0 oO;have hdl:=qG w (w.length-1) oO;have hh0:ki (us w)=u (w.getD 0 0):=by rw[show us w=(us w).drop 0 from rfl,hd0];rfl
 have g1:=FR h1;have g2:=FR h2;have B:=jy h1;have C:=jy h2;have hmid:(us w).tail.take (dH w).length=us (dH w):=by have:=Ub w;rw[vD,show w.length-2=w.length-1-1 by omega,<- List.drop_one];exact this
 have hml2:w.length-1-1=(dH w).length:=by rw[vD];omega
 have N8:=vD w;have hmm:∀ v∈dH w,v∈g.V:=fun v x=>hwv v (nE x);have hwi:IntKind.i64.wrap ((w.length:Int)-1)=((w.length-1:Nat):Int):=zW;generalize w.getD 0 0=x0 at *;generalize w.getD (w.length-1) 0=xl at *;generalize r.idxOf x0=i0 at *;generalize r.idxOf xl=il at *;have hw0:(0:Int)<w.length:=oO;have P6:((w.length-1:Nat):Int)<w.length:=oO;have hw3:w.length-1<w.length:=oO;have hw4:0<w.length:=oO;refine zN func102 ntmps102 [] ?_
 (refine Wt L9 hF hd u5 hati V0 X7 hw0 hw4 hh0 ?_;intro J s)
 refine qE (Index r 0 x0 _ (by unfold small;omega)) sS ?_;rintro v s1 ⟨rfl,e1⟩;rw[e1];clear e1 s1;have hms:((w.length-1:Nat):Int)=(w.length:Int)-1:=oO;have hm1:(1:Int)<=((w.length-1:Nat):Int):=oO;have hm2:1<=w.length-1:=oO
 (refine YP s g1 hwi P6 hw3 hdl ?_;intro J s)
 refine qE (Index r 0 xl _ (by unfold small;omega)) sS ?_;rintro v s1 ⟨rfl,e1⟩;rw[e1];clear e1 s1;generalize dH w=m at *;have hmle:m.length<=200:=oO
 (refine E9 s g2 hwi P6 hw3 hm1 hm2 hml2 hmid ?_;intro J s)
 refine qE (uA m 0 _ oO) sS ?_;rintro v s1 ⟨q,rfl,q1,q2,hq,o6⟩
 (refine mQ s ?_;intro J s)
 refine qE (zP m q s1 (by unfold small;omega) hq) sS ?_;rintro v s2 e2;have O:aA Z s2:=by rw[e2];exact o6.set q1 _
 have N0:s1.z=s2.z:=by rw[e2];rfl
 have N9:s2.H q=.box 34 1 (us m.reverse):=by rw[e2];simp
 clear e2 o6 hq;have o:=d.keep O;have n0:¬n=k:=fun e=>by have f:=d.r.plc;rw[e,d.r.lin]at f;cases f
 (refine mQ s ?_;intro J s)
 refine qE (Qh o.r.box o.r.plc o.r.lin o.r.key n0 hn h64 w 0 hwv oO) sS ?_;rintro v Q ⟨P,W,L6⟩;have hn3:Q.z=s2.z:=by rw[W];rfl
 have m1:¬c=S:=fun e=>by simp_all
 have m2:¬c=k:=fun e=>by have f:=d.fac;rw[e,d.r.lin]at f;cases f
 have m3:¬k=S:=fun e=>by have f:=d.r.lin;rw[e,d.r.box]at f;cases f
 have m4:¬I=S:=fun e=>by have f:=d.r.near;rw[e,d.r.box]at f;cases f
 have m5:¬I=k:=fun e=>by have f:=d.r.near;rw[e,d.r.lin]at f;cases f
 have m6:¬I=c:=fun e=>by have f:=d.r.near;rw[e,d.fac]at f;cases f
 have m7:¬n=S:=fun e=>by have f:=d.r.plc;rw[e,d.r.box]at f;cases f
 have m8:¬n=c:=fun e=>by have f:=d.r.plc;rw[e,d.fac]at f;cases f
 have hn2':=O.z;have p:Q.H S=.box 136 7 [.sl 0 g.V.length (us g.V),.sl 0 g.E.length (eds g.E),.ms I 0 g.V.length,.mp n,.mp k,wv (mk g.V (h.on++w)),.ms c 0 h.F.length]:=by rw[W];simp
 have X:Q.H n=.map false [.u32] (vR g.V):=by rw[W];simp[m7,n0,o.r.plc]
 have hL3:Q.H k=.map true [.u32,.u32] P:=by rw[W];simp[m3]
 have hN3:Q.H I=.box 133 1 (mH g):=by rw[W];simp[m4,m5,o.r.near]
 have hF3:Q.H c=.box 144 2 (gY g.V h.F):=by rw[W];simp[m1,m2,o.fac]
 have hq3:Q.H q=.box 34 1 (us m.reverse):=by rw[W];simp[show ¬q=S by omega,show ¬q=k by omega,N9]
 have hK3:KM [S,k,c] Z Q:=by rw[W];exact((KM.of O).set (.inr sS) _).set (.inr sS) _
 clear W o N9;have hb3:lf g.V S n Q:=⟨⟨_,_,_,_,_,_,p⟩,X⟩
 (apply cL;simp[];(refine zJ s ?_;clear s J))
 (repeat (apply qS))
 (refine zS [] [S] [0,2,4,6,8,10,12,14,16,20,18,22,24,26,29] ?_;intro J s;simp[p])
 refine qD (Yj r i0 il Q B C hrl oO) sS ?_;rintro v s4 ⟨⟨t,rfl,t0,t1,t2,tH⟩,M0⟩;refine⟨fun _ l T=>?_,?_⟩
 .rw[bf]at T;rw[T];exact M0.H S oO
 have hal:=Bb r i0 il B C;have hsl:=zI B C;have hn4:=M0.z;have hq4:=(M0.H q oO).trans hq3;have c1:¬q=t:=oO;have c2:¬t=q:=oO;have hAv:∀ v∈jA r i0 il++m.reverse,v∈g.V:=fun v x=>by rw[an,jl]at x;exact x.elim (fun h=>hrv v (JB h)) (hmm v)
 have hSb4:=(M0.H S oO).trans p;have hP4:=(M0.H n oO).trans X;have hF4:=(M0.H c oO).trans hF3;generalize jA r i0 il=A at *
 (apply bM;simp[tH,t0,hq4,c1,c2];(repeat refine ca ?_))
 have c3:¬S=s4.z:=oO;have c4:¬S=t:=oO;refine⟨(ac c3).trans ((ac c4).trans (M0.H S oO)),?_⟩;have b:aA Q ((s4.set t cK.dead).new (.own 34 1 (A.length+m.length))):=(M0.set t1 _).trans (aA.new _ _);have hn4':((s4.set t cK.dead).new (.own 34 1 (A.length+m.length))).z=s4.z+1:=sS;generalize hs5:(s4.set t cK.dead).new (.own 34 1 (A.length+m.length))=s5 at *;have K:=(b.H S oO).trans p;have hP5:=(b.H n oO).trans X;have hF5:=(b.H c oO).trans hF3;refine qD (SD (vs:=g.V) (S:=S) (pl:=n) ⟨⟨_,_,_,_,_,_,K⟩,hP5⟩ oO oO hn h64 (A++m.reverse) s4.z hAv (by simp;omega)) sS ?_;rintro v s6 ⟨rfl,e6⟩;rw[e6];clear e6 s6;refine⟨fun _ l T=>?_,?_⟩
 .rw[bf]at T;rw[T];exact b.H S oO
 (apply bM;simp[hF5,V0,hati,u5,X7];(repeat refine ca ?_);(refine zJ s ?_;clear s J))
 have N:(gY g.V h.F).take (a * 2)++LV.sl 0 (A.length+m.length) (List.map u A++(List.map u m).reverse)::wv (mk g.V (A++m.reverse))::(gY g.V h.F).drop (a * 2+2)=gY g.V (h.F.set a (A++m.reverse)):=by have:=hsetF (A++m.reverse);simpa using this
 rw[N];clear N;have hFl:(h.F.set a (A++m.reverse)).length=h.F.length:=sS;have hFs:∀ r∈h.F.set a (A++m.reverse),∀ v∈r,v∈g.V:=fun r Y v x=>by
  rcases List.mem_or_eq_of_mem_set Y with h1|h1
  .exact d.sub r h1 v x
  grind
 have hK5:KM [S,k,c] Z (s5.set c (.box 144 2 (gY g.V (h.F.set a (A++m.reverse))))):=(hK3.keeps b).set (.inr sS) _;have hL5:=(b.H k oO).trans hL3;have hN5:=(b.H I oO).trans hN3;generalize hF':h.F.set a (A++m.reverse)=U at *;have n7:¬S=c:=fun e=>m1 e.symm;have n8:¬k=c:=fun e=>m2 e.symm;generalize y:s5.set c (.box 144 2 (gY g.V U))=s7 at *;have hn7:s7.z=s5.z:=by rw[<- y];rfl
 have M:s7.H S=.box 136 7 [.sl 0 g.V.length (us g.V),.sl 0 g.E.length (eds g.E),.ms I 0 g.V.length,.mp n,.mp k,wv (mk g.V (h.on++w)),.ms c 0 h.F.length]:=by rw[<- y,bP,ac n7];exact K
 have hP7:s7.H n=.map false [.u32] (vR g.V):=by rw[<- y,bP,ac m8];exact hP5
 have hL7:s7.H k=.map true [.u32,.u32] P:=by rw[<- y,bP,ac n8];exact hL5
 have hN7:s7.H I=.box 133 1 (mH g):=by rw[<- y,bP,ac m6];exact hN5
 have hF7:s7.H c=.box 144 2 (gY g.V U):=by rw[<- y];simp
 clear y K hP5 hF5 hL5 hN5 hSb4 hP4 hF4 p X hF3 hL3 hN3 b M0 hs5 tH t0 t1 t2 hq4 hq3 hb3;have hFl7:=pV g.V U
 (repeat (apply qS))
 (refine zS [] [S] [0,2,4,6,8,10,12,14,16,20,18,22,24,26,29,30,32,35] ?_;intro J s;simp[M])
 refine qD (Yj r il i0 s7 C B hrl oO) sS ?_;rintro v s8 ⟨⟨t',rfl,t0,t1,t2,tH⟩,hk8⟩;refine⟨fun _ l T=>?_,?_⟩
 .rw[bf]at T;rw[T];exact hk8.H S oO
 have hal2:=Bb r il i0 C B;have hsl2:=zI C B;have hn8:=hk8.z;have d1:¬S=s8.z:=oO;have d2:¬S=t':=oO;have hBv:∀ v∈jA r il i0++m,v∈g.V:=fun v x=>by rw[an]at x;exact x.elim (fun h=>hrv v (JB h)) (hmm v)
 generalize jA r il i0=D at *
 (apply bM;simp[tH,t0];(repeat refine ca ?_))
 refine⟨(ac d1).trans ((ac d2).trans (hk8.H S oO)),?_⟩;have j:aA s7 ((s8.set t' cK.dead).new (.own 34 1 (D.length+m.length))):=(hk8.set t1 _).trans (aA.new _ _);have hn8':((s8.set t' cK.dead).new (.own 34 1 (D.length+m.length))).z=s8.z+1:=sS;generalize hs9:(s8.set t' cK.dead).new (.own 34 1 (D.length+m.length))=s9 at *;have hSb9:=(j.H S oO).trans M;have hP9:=(j.H n oO).trans hP7;have hF9:=(j.H c oO).trans hF7;have hL9:=(j.H k oO).trans hL7;have hN9:=(j.H I oO).trans hN7;refine qD (SD (vs:=g.V) (S:=S) (pl:=n) ⟨⟨_,_,_,_,_,_,hSb9⟩,hP9⟩ oO oO hn h64 (D++m) s8.z hBv (by simp;omega)) sS ?_;rintro v s6 ⟨rfl,e6⟩;rw[e6];clear e6 s6;refine⟨fun _ l T=>?_,?_⟩
 .rw[bf]at T;grind
 have z1:¬c=s9.z:=oO;have z2:¬S=s9.z:=oO;have z3:¬S=s9.z+1:=oO;have z4:¬s9.z=c:=oO
 (apply bM;simp[hF9,hSb9,hFl,hFl7,z1,z2,z3,z4,n7,m1])
 refine⟨M.symm,⟨oO,by unfold maxLen;omega⟩,s _ _ ?_⟩;clear s J;simp only[ak];have fp:gY g.V U++[LV.sl 0 (D.length+m.length) (List.map u D++List.map u m),wv (mk g.V (D++m))]=gY g.V (U++[D++m]):=by have:=NZ g.V U (D++m);simpa using this
 have hFl2:(U++[D++m]).length=h.F.length+1:=by rw[cf,hFl];rfl
 rw[fp,<- hFl2];clear fp;refine bz ?_;simp only[yQ];have hs10:KM [S,k,c] Z ((((s9.new (.own 144 2 1)).set c .dead).new (.box 144 2 (gY g.V (U++[D++m])))).set S (.box 136 7 [.sl 0 g.V.length (us g.V),.sl 0 g.E.length (eds g.E),.ms I 0 g.V.length,.mp n,.mp k,wv (mk g.V (h.on++w)),.ms (s9.z+1) 0 (U++[D++m]).length])):=by have:=(((hK5.keeps j).keeps (aA.new _ (.own 144 2 1))).set (q:=c) (.inr sS) .dead);exact(this.keeps (aA.new _ _)).set (.inr sS) _
 refine⟨trivial,s9.z+1,P,⟨⟨sS,?_,?_,?_,L6,?_⟩,?_,sS,?_,?_,oO⟩,.inr oO,hs10⟩
 ·(repeat (first|rw[bh bm]|rw[bj oO]|rw[bi bo]|rw[bk oO]));omega
 ·(repeat (first|rw[bh bm]|rw[bj oO]|rw[bi bo]|rw[bk oO]));omega
 ·(repeat (first|rw[bh bm]|rw[bj oO]|rw[bi bo]|rw[bk oO]));omega
 .simp only[bN,aH];omega
 ·(repeat (first|rw[bh bm]|rw[bj oO]|rw[bi bo]|rw[bk oO]))
 .intro r Y v x;rw[an,bf]at Y;rcases Y with Y|Y
  .exact hFs r Y v x
  .rw[Y]at x;exact hBv v x
 .intro v x;rw[an]at x;exact x.elim (d.onv v) (hwv v)
end Aw
end Go.Proofs.YtbgngpdonpeboaaGreatDoor
