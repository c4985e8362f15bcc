/- Lemmas. -/
import Derived.Test.YtbgngpdonpeboaaGreatDoorJe
set_option linter.defProp false
set_option maxHeartbeats 4000000
open Go.Proofs.Tryz
namespace Go.Proofs.YtbgngpdonpeboaaGreatDoor
open Go Go.RowKit Pl Aw
open Aw.U
def Oe:(∀(P A:QR) (y:Ed) (S:QR) (q L p m:Nat) (R:FuncId) (Kz:QQ) (Pc:St->Prop) (g:St) (n:Aw.jD R Kz q Pc) (V:Pc g) (hq:q<g.z) (hA:Ris A) (T:A.length≠1) (hL:(P++A++y::S).length=L) (hl:L<=100000) (hp:P.length=p) (hm:m=p+A.length) (hH:g.H q=.box 36 3 (eds (P++A++y::S))),
 aD prog 162 [.ms q 0 L,i p,i m,i (m+1:Nat),.fn (.func R) Kz] g (IX P A [y] S q g))/\(∀(P A:List Nu) (y:Nu) (S:List Nu) (q L p m:Nat) (R:FuncId) (Kz:QQ) (Pc:St->Prop) (g:St) (n:Aw.U.jD R Kz q Pc) (V:Pc g) (hq:q<g.z) (hA:Ris A) (T:A.length≠1) (hL:(P++A++y::S).length=L) (hl:L<=100000) (hp:P.length=p) (hm:m=p+A.length) (hH:g.H q=.box 34 1 (eds (P++A++y::S))),
 aD prog 160 [.ms q 0 L,i p,i m,i (m+1:Nat),.fn (.func R) Kz] g (IX P A [y] S q g)):=by
 refine⟨?_,?_⟩
 all_goals
  intro P A y S q L p m R Kz Pc g n V hq hA T hL hl hp hm hH;have hLl:L=p+A.length+(1+S.length):=by rw[<- hL,<- hp];simp only[cb,List.length_cons];omega
  have e1:IntKind.i64.wrap ((m:Int)-p)=(A.length:Int):=zW;have e2:IntKind.i64.wrap ((m:Int)+1-m)=1:=zW;have e3:¬(A.length:Int)=1:=O
  first|(have _:QR:=P;refine zN func162 ntmps162 [] ?_)|refine zN func160 ntmps160 [] ?_
  refine eI e1 e2 e3 T ?_;refine qL (fun z B d=>∃ k v:Nat,k<=v/\v<=A.length/\z=v-k/\B 0=.ms q 0 L/\B 2=i m/\B 4=.fn (.func R) Kz/\B 14=i (p+k:Nat)/\B 15=i (p+v:Nat)/\(∀ j,j<k->(A.getD j ed0).id<=y.id)/\(∀ j,v<=j->j<A.length->y.id<(A.getD j ed0).id)/\d.H q=lx (P++A++y::S)/\bU q g d) A.length ?_ ?_
  .exact⟨0,A.length,O,au _,rfl,Y,Y,Y,Y,Z hm,fun j h=>by omega,fun j h1 h2=>by omega,hH,bU.refl _ _⟩
  rintro z B d ⟨k,v,hkv,hvB,rfl,Q,f2,f4,b,M,h1,h2,C,N⟩ JJ f;have hP3:=n.keep _ _ V N;have hq2:q<d.z:=by have:=N.1;omega
  by_cases dS:k<v
  .obtain⟨s,hs⟩:∃ s:Nat,s=(p+k)+(p+v):=⟨_,rfl⟩;obtain⟨h,hh⟩:∃ h:Nat,p+h=s / 2:=⟨s / 2-p,O⟩;have wA:IntKind.i64.wrap ((p:Int)+k+(p+v))=(s:Int):=zW;have wB:=BV s O;obtain⟨I,hph⟩:∃ I:Nat,I=p+h:=⟨_,rfl⟩;have wC:=GL s I O;have wD:IntKind.i64.wrap (I:Int)=(I:Int):=zW;have wE:IntKind.i64.wrap ((I:Int)+1)=((p+(h+1):Nat):Int):=zW;have g1:(P++A++y::S).getD m ed0=y:=GW _ _ _ (ek hp hm);have g2:(P++A++y::S).getD I ed0=A.getD h ed0:=by
    (first|rw[show P++A++y::S=P++(A++y::S) by simp,show I=P.length+h by omega,Aw.Dx,Aw.uA _ _ _ O]|rw[show P++A++y::S=P++(A++y::S) by simp,show I=P.length+h by omega,Aw.U.Dx,Aw.U.uA _ _ _ O])
   have hgo:¬y.id<(A.getD h ed0).id->∀ j,j<h+1->(A.getD j ed0).id<=y.id:=fun h3 j hj=>by have:=kN hA (j:=j) (k:=h) O O;omega
   have hst:y.id<(A.getD h ed0).id->∀ j,h<=j->j<A.length->y.id<(A.getD j ed0).id:=fun h3 j hj X=>by have:=kN hA (j:=h) (k:=j) hj X;omega
   have F:=aL (P++A++y::S);have da:=aP (P++A++y::S) m O;have db:=aP (P++A++y::S) I O;rw[g1]at da;rw[g2]at db;rw[hL]at F;have hfr:∀ K l,l.H q=d.H q->bU q g l->K 0=.ms q 0 L/\K 2=i m/\K 4=.fn (.func R) Kz->((¬y.id<(A.getD h ed0).id/\K 14=i (p+(h+1):Nat)/\K 15=i (p+v:Nat))\/(y.id<(A.getD h ed0).id/\K 14=i (p+k:Nat)/\K 15=i (p+h:Nat)))->JJ K l:=by
    rintro K l e k2 ⟨k3,k4,k5⟩ (⟨k6,k7,k8⟩|⟨k6,k7,k8⟩)
    .exact f (v-(h+1)) _ _ O ⟨h+1,v,O,hvB,rfl,k3,k4,k5,k7,k8,hgo k6,h2,e.trans C,k2⟩
    .exact f (h-k) _ _ O ⟨k,h,O,O,rfl,k3,k4,k5,k7,k8,h1,hst k6,e.trans C,k2⟩
   clear f hgo hst h1 h2;have hcm:=n.call d y (A.getD h ed0) hP3;have w:=tO y (A.getD h ed0);generalize hx:A.getD h ed0=x at *;generalize hc:P++A++y::S=c at *;generalize wJ y x=cv at *;have hA4:I<L:=O;have hB4:m<L:=O;have hkv':(p:Int)+k<p+v:=O;refine mf b M hkv' dS wA wB wC wD ?_
   (refine zS [] [q] [0,2,4,6,8,10,12,14,16,19,20,22] ?_;intro J hJ;simp[Q,f2,f4,C,da,db,F];(repeat refine ca ?_))
   refine aS hcm ?_;rintro r s4 ⟨rfl,hk4⟩;have E:=hk4.H q hq2;refine⟨fun _=>by simp[E,C],?_⟩;by_cases o:y.id<x.id
   .have W:cv<0:=by rw[mc o]at w;exact ov w
    (apply bM;simp[W,E,C];refine zJ hJ ?_)
    refine bz ?_;exact hfr _ _ E (N.keeps hk4) ⟨Z Q,Z f2,Z f4⟩ (.inr ⟨o,Z b,Z hph⟩)
   .have W:¬cv<0:=by rw[ny o]at w;exact sy w
    (apply bM;simp[W,E,C];refine zJ hJ ?_)
    refine df wE ?_;exact hfr _ _ E (N.keeps hk4) ⟨Z Q,Z f2,Z f4⟩ (.inl ⟨o,Y,Z M⟩)
  clear f;obtain rfl:k=v:=O;have hR:=GF hA hvB h1 (fun j hj X=>by have:=h2 j hj X;omega);clear h1 h2;refine fw f2 b M ?_;refine qL (fun z B l=>∃ t:Nat,k<=t/\t<=A.length/\z=t/\B 0=.ms q 0 L/\B 14=i (p+k:Nat)/\B 17=i (p+t:Nat)/\l.H q=lx (P++A.take t++y::(A.drop t++S))/\bU q g l) A.length ?_ ?_
  .exact⟨A.length,O,O,rfl,Z Q,Z b,Z hm,by simp;rw[C];simp,N⟩
  clear Q f2 f4 b M C N hP3 hq2 B d;rintro t B d ⟨t0,hkt,htA,rfl,Q,b,f17,C,N⟩ JJ f;by_cases dS:k<t;rotate_left
  .clear f;obtain rfl:t=k:=O;have v8:¬((p:Int)+t<p+t):=O;refine fw b f17 v8 ?_;refine⟨_,?_,hR,by rw[C];simp,N⟩;refine mw.trans ?_;rw[gw];exact(List.perm_append_singleton y A).symm
  obtain⟨a,rfl⟩:∃ a,t=a+1:=⟨t-1,O⟩;have hce:P++A.take (a+1)++y::(A.drop (a+1)++S)=(P++A.take a)++A.getD a ed0::y::(A.drop (a+1)++S):=by rw[Uf A a O];simp
  have hUl:(P++A.take a).length=p+a:=by simp[hp];omega
  have hnx:(((P++A.take a)++A.getD a ed0::y::(A.drop (a+1)++S)).set (p+a+1) (A.getD a ed0)).set (p+a) y=P++A.take a++y::(A.drop a++S):=by rw[show(P++A.take a)++A.getD a ed0::y::(A.drop (a+1)++S)=(P++A.take a++[A.getD a ed0])++y::(A.drop (a+1)++S) by simp];rw[Qc _ _ _ _ (by simp[hp];omega)];rw[show(P++A.take a++[A.getD a ed0])++A.getD a ed0::(A.drop (a+1)++S)=(P++A.take a)++A.getD a ed0::(A.getD a ed0::(A.drop (a+1)++S)) by simp];rw[Qc _ _ _ _ hUl.symm,MR A a O];simp
  have g1:=GW (P++A.take a) (A.getD a ed0) (y::(A.drop (a+1)++S)) (j:=p+a) hUl.symm;have g2:((P++A.take a)++A.getD a ed0::y::(A.drop (a+1)++S)).getD (p+a+1) ed0=y:=by rw[show(P++A.take a)++A.getD a ed0::y::(A.drop (a+1)++S)=(P++A.take a++[A.getD a ed0])++y::(A.drop (a+1)++S) by simp];exact GW _ _ _ (by simp[hp];omega)
  have r8:((P++A.take a)++A.getD a ed0::y::(A.drop (a+1)++S)).length=L:=by rw[<- hce];simp only[cb,List.length_cons,dj,gy];omega
  rw[hce]at C;generalize A.getD a ed0=x at *;generalize hc:(P++A.take a)++x::y::(A.drop (a+1)++S)=c at *;obtain⟨e,j8⟩:∃ e:Nat,e=p+a:=⟨_,rfl⟩;rw[<- j8]at g1 g2 hnx;have F:=aL c;have da:=aP c e O;have db:=aP c (e+1) O;rw[g1]at da;rw[g2]at db;rw[r8]at F;have wG':IntKind.i64.wrap (e:Int)=(e:Int):=AV _ O O;have D:B 17=i ((e:Int)+1):=by rw[f17,j8];simp;omega
  have hA4:e+1<L:=O;have hB4:e<L:=O;have hgt:(p:Int)+k<(e:Int)+1:=O;refine fw b D hgt ?_
  (refine zS [] [q] [0,2,4,6,8,10,12,14,16,18,20,22,24,26,28,31,32,35] ?_;intro J hJ;simp[Q,D,C,da,db,F,r8,wG'];(repeat refine ca ?_);refine zJ hJ ?_)
  have e1:=kK c (e+1) x O;have e2:=kK (c.set (e+1) x) e y (by simp;omega);rw[e1,e2,hnx,St.set_set];refine cm D wG' ?_;exact f a _ _ O ⟨a,O,O,rfl,Z Q,Z b,by simp;omega,Y,N.set _⟩
def Aw.M4:=Oe.1
def Aw.U.M4:=Oe.2
open Go Go.RowKit Pl Aw
open Aw.U
namespace Aw
def K7(P b c R:QR)(q:Nat)(d a:St):Prop:=IX P b c R q d (.tu []) a
end Aw
namespace Aw.U
def K7(P b c R:List Nu)(q:Nat)(d a:St):Prop:=IX P b c R q d (.tu []) a
end Aw.U
namespace Aw
def DH{P:Program}{N:Nat}{Q:AQ}{k:List iM}{a:ah}{b:St}{x:Code}(I:ah->St->Prop)(c:bq P N x (AK P N (fun e f s=>e=.normal/\I f s) []) a b)(d:∀ a b,I a b->AK P N Q k .normal a b):bq P N x (AK P N Q k) a b:=by refine dR c ?_;rintro e j h ⟨rfl,g⟩;exact d _ _ g
end Aw
def Ao:(∀(q L:Nat) (x8:FuncId) (Kz:QQ) (Pc:St->Prop) (Q:Aw.jD x8 Kz q Pc) (hl:L<=100000),
 ∀(n:Nat) (P A B S:QR) (p m b:Nat) (st:St),A.length+B.length<=n->A≠[]->B≠[]->Ris A->Ris B->(P++A++B++S).length=L->P.length=p->m=p+A.length->b=m+B.length->Pc st->q<st.z->st.H q=.box 36 3 (eds (P++A++B++S))->
 aD prog 162 [.ms q 0 L,i p,i m,i b,.fn (.func x8) Kz] st (IX P A B S q st))/\(∀(q L:Nat) (x8:FuncId) (Kz:QQ) (Pc:St->Prop) (Q:Aw.U.jD x8 Kz q Pc) (hl:L<=100000),
 ∀(n:Nat) (P A B S:List Nu) (p m b:Nat) (st:St),A.length+B.length<=n->A≠[]->B≠[]->Ris A->Ris B->(P++A++B++S).length=L->P.length=p->m=p+A.length->b=m+B.length->Pc st->q<st.z->st.H q=.box 34 1 (eds (P++A++B++S))->
 aD prog 160 [.ms q 0 L,i p,i m,i b,.fn (.func x8) Kz] st (IX P A B S q st)):=by
 refine⟨?_,?_⟩
 all_goals
  intro q L x8 Kz Pc Q hl;intro n;induction n with
  |zero=>intro P A B S p m b st hn hA;have:=jg.2 hA;omega
  |succ n ih=>
  intro P A B S p m b st hn hA hB rA rB hL hp hm hb hPc hq hH;have hA0:=jg.2 hA;have hB0:=jg.2 hB;by_cases hA1:A.length=1
  .obtain⟨x,rfl⟩:∃ x,A=[x]:=ww.1 hA1;have e:P++[x]++B++S=P++x::B++S:=Y;rw[e]at hH hL;subst hb;exact M5 P x B S q L p m x8 Kz Pc st Q hPc hq rB hL hl hp (by simpa using hm) hH
  by_cases hB1:B.length=1
  .obtain⟨y,rfl⟩:∃ y,B=[y]:=ww.1 hB1;have e:P++A++[y]++S=P++A++y::S:=Y;rw[e]at hH hL;subst hb;exact M4 P A y S q L p m x8 Kz Pc st Q hPc hq rA hA1 hL hl hp hm hH
  have hLl:L=p+A.length+B.length+S.length:=by rw[<- hL,<- hp];simp only[cb]
  obtain⟨s,hs⟩:∃ s:Nat,s=p+b:=⟨_,rfl⟩;obtain⟨a,hmid⟩:∃ a:Nat,a=s / 2:=⟨_,rfl⟩;obtain⟨nn,hnn⟩:∃ nn:Nat,nn=a+m:=⟨_,rfl⟩;obtain⟨pp,hpp⟩:∃ pp:Nat,nn=pp+1:=⟨nn-1,O⟩;have e1:IntKind.i64.wrap ((m:Int)-p)=(A.length:Int):=zW;have e2:IntKind.i64.wrap ((b:Int)-m)=(B.length:Int):=zW;have wA:IntKind.i64.wrap ((p:Int)+b)=(s:Int):=zW;have wB:=BV s O;have wC:=GL s a hmid;have wD:IntKind.i64.wrap (a:Int)=(a:Int):=zW;have wN:IntKind.i64.wrap ((a:Int)+m)=(nn:Int):=zW;have wP:IntKind.i64.wrap ((nn:Int)-1)=(pp:Int):=zW;obtain⟨s0,hs0⟩:∃ s0:Nat,s0=if a<m then nn-b else p:=⟨_,rfl⟩
  obtain⟨r0,T⟩:∃ r0:Nat,r0=if a<m then a else m:=⟨_,rfl⟩
  have hsr:p<=s0/\s0<=r0/\r0<=m/\r0<=a/\nn<=s0+b:=by
   by_cases h:a<m
   .rw[ac h]at hs0 T;omega
   .rw[aa h]at hs0 T;omega
  first|(have _:QR:=P;refine zN func162 ntmps162 [] ?_)|refine zN func160 ntmps160 [] ?_
  (repeat' (first|apply qS|(refine zE ?_;intro J w;simp[e1];refine zJ w ?_)))
  (apply qC;simp[hA1];(try with_reducible refine⟨?_,?_⟩)<;>(try with_reducible intro hc)<;>try (exfalso;omega))
  (repeat' (first|apply qS|refine qK (zZ ?_)|(refine zE ?_;intro J w;simp[e2];refine zJ w ?_)))
  (apply qC;simp[hB1];(try with_reducible refine⟨?_,?_⟩)<;>(try with_reducible intro hc)<;>try (exfalso;omega))
  (repeat' (first|apply qS|refine qK (zZ ?_)|(refine zE ?_;intro J w;simp[wA,wB,wC,wD,wN];refine zJ w ?_)))
  refine cM (fun I st2=>I 0=.ms q 0 L/\I 1=i p/\I 2=i m/\I 3=i b/\I 4=.fn (.func x8) Kz/\I 18=i a/\I 19=i nn/\I 20=i s0/\I 21=i r0/\st2=st) ?_ ?_
  .by_cases h:a<m
   .rw[ac h]at hs0 T;have w1:IntKind.i64.wrap ((nn:Int)-b)=(s0:Int):=zW;refine fw h w1 T ?_;simp[T]
   .rw[aa h]at hs0 T;refine fw h hs0 T ?_;simp[hs0,T]
  rintro I st2 ⟨E,R,f2,K,F,f,f19,g,f21,rfl⟩
  (repeat' (first|apply qS|apply qB|(refine zE ?_;intro J w;simp[f19,wP];refine zJ w ?_)))
  refine qL (fun z I st3=>∃ k v:Nat,s0<=k/\k<=v/\v<=r0/\z=v-k/\I 0=.ms q 0 L/\I 1=i p/\I 2=i m/\I 3=i b/\I 4=.fn (.func x8) Kz/\I 18=i a/\I 19=i nn/\I 20=i k/\I 21=i v/\I 22=i pp/\(s0<k->(A.getD (k-1-p) ed0).id<=(B.getD (a-k) ed0).id)/\(v<r0->(B.getD (a-v-1) ed0).id<(A.getD (v-p) ed0).id)/\st3.H q=lx (P++A++B++S)/\bU q st2 st3) (r0-s0) ?_ ?_
  .exact⟨s0,r0,au _,O,au _,rfl,Z E,Z R,Z f2,Z K,Z F,Z f,Z f19,Z g,Z f21,Y,fun h=>by omega,fun h=>by omega,hH,bU.refl _ _⟩
  clear E R f2 K F f f19 g f21 I;rintro z I st3 ⟨k,v,hk0,hkv,hv0,rfl,E,R,f2,K,F,f,f19,g,f21,f22,h1,h2,hD,W⟩ JJ hJJ;have hP3:=Q.keep _ _ hPc W;have hq3:q<st3.z:=by have:=W.1;omega
  by_cases dS:k<v
  .obtain⟨s',hs'⟩:∃ s':Nat,s'=k+v:=⟨_,rfl⟩;obtain⟨c,hc⟩:∃ c:Nat,c=s' / 2:=⟨_,rfl⟩;obtain⟨d,hd⟩:∃ d:Nat,d=pp-c:=⟨_,rfl⟩;have w1:IntKind.i64.wrap ((k:Int)+v)=(s':Int):=zW;have w2:=BV s' O;have w3:=GL s' c hc;have w4:IntKind.i64.wrap (c:Int)=(c:Int):=zW;have w5:IntKind.i64.wrap ((pp:Int)-c)=(d:Int):=zW;have w6:IntKind.i64.wrap ((c:Int)+1)=((c+1:Nat):Int):=zW;have g1:(P++A++B++S).getD d ed0=B.getD (a-c-1) ed0:=by
    (first|rw[show P++A++B++S=(P++A)++(B++S) by simp,show d=(P++A).length+(a-c-1) by simp;omega,Aw.Dx,Aw.uA _ _ _ O]|rw[show P++A++B++S=(P++A)++(B++S) by simp,show d=(P++A).length+(a-c-1) by simp;omega,Aw.U.Dx,Aw.U.uA _ _ _ O])
   have g2:(P++A++B++S).getD c ed0=A.getD (c-p) ed0:=by have h3:=Dx P (A++(B++S)) (c-p);rw[uA A (B++S) (c-p) O,hp,show p+(c-p)=c by omega]at h3;rw[<- h3];simp
   have hel:=aL (P++A++B++S);have da:=aP (P++A++B++S) d O;have db:=aP (P++A++B++S) c O;rw[g1]at da;rw[g2]at db;rw[hL]at hel;have hfr:∀ o st4,st4.H q=st3.H q->bU q st2 st4->(o 0=.ms q 0 L/\o 1=i p/\o 2=i m/\o 3=i b/\o 4=.fn (.func x8) Kz/\o 18=i a/\o 19=i nn/\o 22=i pp)->((¬(B.getD (a-c-1) ed0).id<(A.getD (c-p) ed0).id/\o 20=i (c+1:Nat)/\o 21=i v)\/((B.getD (a-c-1) ed0).id<(A.getD (c-p) ed0).id/\o 20=i k/\o 21=i c))->JJ o st4:=by
    rintro o st4 k1 k2 ⟨k3,k4,k5,k6,k7,k8,k9,k10⟩ (⟨j1,j2,j3⟩|⟨j1,j2,j3⟩)
    .exact hJJ (v-(c+1)) _ _ O ⟨c+1,v,O,O,hv0,rfl,k3,k4,k5,k6,k7,k8,k9,j2,j3,k10,fun _=>by rw[sx,<- Nat.sub_sub];omega,h2,k1.trans hD,k2⟩
    .exact hJJ (c-k) _ _ O ⟨k,c,hk0,O,O,rfl,k3,k4,k5,k6,k7,k8,k9,j2,j3,k10,h1,fun _=>j1,k1.trans hD,k2⟩
   clear hJJ h1 h2;have hcm:=Q.call st3 (B.getD (a-c-1) ed0) (A.getD (c-p) ed0) hP3;have hneg:=tO (B.getD (a-c-1) ed0) (A.getD (c-p) ed0);generalize B.getD (a-c-1) ed0=y at *;generalize A.getD (c-p) ed0=x at *;generalize hce:P++A++B++S=cc at *;generalize wJ y x=cv at *;have hA4:d<L:=O;have hB4:c<L:=O;refine oh g f21 dS w1 w2 w3 w4 ?_
   (refine zS [] [q] [0,2,4,6,8,10,12,14,16,18,20,23,24,26] ?_;intro J w;simp[E,F,f22,hD,da,db,hel,w5];(repeat refine ca ?_))
   refine aS hcm ?_;rintro r s4 ⟨rfl,hk4⟩;have hD4:=hk4.H q hq3;refine⟨fun _=>by simp[hD4,hD],?_⟩;by_cases hlt3:y.id<x.id
   .have hcv:cv<0:=by rw[mc hlt3]at hneg;exact ov hneg
    (apply bM;simp[hcv,hD4,hD];refine zJ w ?_)
    refine bz ?_;exact hfr _ _ hD4 (W.keeps hk4) ⟨Z E,Z R,Z f2,Z K,Z F,Z f,Z f19,Z f22⟩ (.inr ⟨hlt3,Z g,Y⟩)
   .have hcv:¬cv<0:=by rw[ny hlt3]at hneg;exact sy hneg
    (apply bM;simp[hcv,hD4,hD];refine zJ w ?_)
    refine df w6 ?_;exact hfr _ _ hD4 (W.keeps hk4) ⟨Z E,Z R,Z f2,Z K,Z F,Z f,Z f19,Z f22⟩ (.inl ⟨hlt3,Y,Z f21⟩)
  clear hJJ;obtain rfl:k=v:=O;have hcut:Cut A B (k-p) (a-k):=by
   refine⟨O,O,?_,?_⟩
   .by_cases h:s0<k
    .refine .inr (.inr ?_);have:=h1 h
     rwa [show k-1-p=k-p-1 by omega]at this
    .by_cases h3:a<m
     .rw[ac h3]at hs0;exact .inr (.inl O)
     .rw[aa h3]at hs0;exact .inl O
   .by_cases h:k<r0
    .refine .inr (.inr ?_);have:=h2 h;omega
    .by_cases h3:a<m
     .rw[ac h3]at T;exact .inl O
     .rw[aa h3]at T;exact .inr (.inl O)
  have hj:=fun C D=>Cut.join (C:=C) (D:=D) rA rB hcut;have rA1:Ris (A.take (k-p)):=uz (List.take_sublist _ _) rA;have rA2:Ris (A.drop (k-p)):=uz (List.drop_sublist _ _) rA;have rB1:Ris (B.take (a-k)):=uz (List.take_sublist _ _) rB;have rB2:Ris (B.drop (a-k)):=uz (List.drop_sublist _ _) rB;have lA1:(A.take (k-p)).length=k-p:=by rw[dj];omega
  have lA2:(A.drop (k-p)).length=m-k:=by rw[gy];omega
  have lB1:(B.take (a-k)).length=a-k:=by rw[dj];omega
  have lB2:(B.drop (a-k)).length=b-m-(a-k):=by rw[gy];omega
  have eA:=gw (k-p) A;have eB:=gw (a-k) B;obtain⟨V,hed⟩:∃ V:Nat,V=nn-k:=⟨_,rfl⟩;have wE:IntKind.i64.wrap ((nn:Int)-k)=(V:Int):=zW;clear hcut h1 h2;generalize A.take (k-p)=A1 at *;generalize A.drop (k-p)=X at *;generalize B.take (a-k)=B1 at *;generalize B.drop (a-k)=B2 at *;have nz:∀ {l:List (EN P)} {j:Nat},l.length=j->0<j->l≠[]:=fun h1 h2 h3=>by subst h3;simp at h1;omega
  have zz:∀ {l:List (EN P)} {j:Nat},l.length=j->j=0->l=[]:=fun h1 h2=>jc O;have hD':st3.H q=lx ((P++A1)++X++B1++(B2++S)):=by rw[hD,<- eA,<- eB];simp
  have hL2:((P++A1)++X++B1++(B2++S)).length=L:=by simp only[cb];omega
  have hpA:(P++A1).length=k:=by simp only[cb];omega
  clear hD;have v7:¬(k:Int)<k:=O
  (repeat' (first|apply qS|(refine zE ?_;intro J w;simp[g,f21];refine zJ w ?_)))
  (apply qC;simp[v7])
  refine qX (zZ ?_)
  (repeat (apply qS))
  (refine zE ?_;intro J w;simp[f19,g,wE];refine zJ w ?_)
  (repeat (apply qS))
  refine DH (fun o st4=>(o 0=.ms q 0 L/\o 1=i p/\o 2=i m/\o 3=i b/\o 4=.fn (.func x8) Kz/\o 18=i a/\o 20=i k/\o 24=i V/\o 185=bb (decide (k<m/\m<V)))/\st4=st3) ?_ ?_
  .by_cases N:k<m
   .by_cases c2:m<V
    ·(refine zE ?_;intro J w;simp[g,f2,N,c2];refine zJ w ?_)
     simp[E,R,f2,K,F,f,g,N,c2]
    ·(refine zE ?_;intro J w;simp[g,f2,N,c2];refine zJ w ?_)
     simp[E,R,f2,K,F,f,g,N,c2]
   ·(refine zE ?_;intro J w;simp[g,f2,N];refine zJ w ?_)
    simp[E,R,f2,K,F,f,g,N]
  clear E R f2 K F f f19 g f21 f22 I;rintro I st4 ⟨⟨E,R,f2,K,F,f,g,t,f185⟩,rfl⟩;simp only[ak]
  (repeat (apply qS))
  refine cM (fun o st5=>(o 0=.ms q 0 L/\o 1=i p/\o 3=i b/\o 4=.fn (.func x8) Kz/\o 18=i a/\o 20=i k/\o 24=i V)/\st5.H q=lx (P++A1++B1++(X++B2++S))/\bU q st2 st5) ?_ ?_
  .by_cases c:k<m/\m<V
   .rw[mc c]at f185;have M:=Ry (P++A1) X B1 (B2++S) q (.func x8) Kz st4 (nz lA2 O) (nz lB1 O) O hD';rw[hpA,lA2,lB1,show k+(m-k)=m by omega,show m+(a-k)=V by omega,hL2]at M;have e9:P++A1++B1++X++(B2++S)=P++A1++B1++(X++B2++S):=Y;rw[e9]at M;generalize P++A1++B1++(X++B2++S)=cc at *
    (repeat' (first|(apply qC;simp[f185,E,g,f2,t,F])|(refine zE ?_;intro J w;simp[f185,E,g,f2,t,F])))
    refine qE M Y ?_;rintro r s5 rfl
    (repeat' (apply cP;simp[];refine zJ w ?_))
    simp[E,R,K,F,f,g,t];exact W.set _
   .rw[ny c]at f185;have e9:(P++A1)++X++B1++(B2++S)=P++A1++B1++(X++B2++S):=by
     by_cases N:k<m
     .rw[zz lB1 O];simp
     .rw[zz lA2 O];simp
    rw[e9]at hD';generalize P++A1++B1++(X++B2++S)=cc at *;refine df f185 ?_;simp[E,R,K,F,f,g,t,hD',W]
  clear E R f2 K F f g t f185 hD' W hq3 hP3 I;rintro I st5 ⟨⟨E,R,K,F,f,g,t⟩,hD,W⟩
  (repeat (apply qS))
  refine DH (fun o st6=>(o 0=.ms q 0 L/\o 1=i p/\o 3=i b/\o 4=.fn (.func x8) Kz/\o 18=i a/\o 20=i k/\o 24=i V/\o 199=bb (decide (p<k/\k<a)))/\st6=st5) ?_ ?_
  .by_cases N:p<k
   .by_cases c2:k<a
    ·(refine zE ?_;intro J w;simp[g,R,f,N,c2];refine zJ w ?_)
     simp[E,R,K,F,f,g,t,N,c2]
    ·(refine zE ?_;intro J w;simp[g,R,f,N,c2];refine zJ w ?_)
     simp[E,R,K,F,f,g,t,N,c2]
   ·(refine zE ?_;intro J w;simp[g,R,N];refine zJ w ?_)
    simp[E,R,K,F,f,g,t,N]
  clear E R K F f g t I;rintro I st6 ⟨⟨E,R,K,F,f,g,t,f199⟩,rfl⟩;simp only[ak]
  (repeat (apply qS))
  refine cM (fun o st7=>(o 0=.ms q 0 L/\o 3=i b/\o 4=.fn (.func x8) Kz/\o 18=i a/\o 24=i V)/\K7 P A1 B1 (X++B2++S) q st2 st7) ?_ ?_
  .have hP6:=Q.keep _ _ hPc W;have hq6:q<st6.z:=by have:=W.1;omega
   by_cases c:p<k/\k<a
   .rw[mc c]at f199;have M:=ih P A1 B1 (X++B2++S) p k a st6 O (nz lA1 O) (nz lB1 O) rA1 rB1 (by simp only[cb];omega) hp O O hP6 hq6 hD
    (repeat' (first|(apply qC;simp[f199,E,R,g,f,F])|(refine zE ?_;intro J w;simp[f199,E,R,g,f,F])))
    refine qE M Y ?_;rintro r s7 ⟨C,k1,k2,k3,k4⟩
    (repeat' (apply cP;simp[];refine zJ w ?_))
    simp[E,K,F,f,t];exact⟨C,k1,k2,by rw[k3];simp,W.trans k4⟩
   .rw[ny c]at f199;have e9:Ris (A1++B1):=by
     by_cases N:p<k
     .rw[zz lB1 O,dT];exact rA1
     .rw[zz lA1 O,List.nil_append];exact rB1
    refine df f199 ?_;simp[E,K,F,f,t];exact⟨A1++B1,.refl _,e9,by rw[hD];simp,W⟩
  clear E R K F f g t f199 hD W I;rintro I st7 ⟨⟨E,K,F,f,t⟩,C,N,c2,hD,W⟩;have lC:=N.length_eq;rw[cb,lA1,lB1]at lC;have hD:st7.H q=lx (P++C++X++B2++S):=by rw[hD];simp
  (repeat (apply qS))
  refine DH (fun o st8=>(o 0=.ms q 0 L/\o 3=i b/\o 4=.fn (.func x8) Kz/\o 18=i a/\o 24=i V/\o 213=bb (decide (a<V/\V<b)))/\st8=st7) ?_ ?_
  .by_cases N:a<V
   .by_cases c2:V<b
    ·(refine zE ?_;intro J w;simp[t,K,f,N,c2];refine zJ w ?_)
     simp[E,K,F,f,t,N,c2]
    ·(refine zE ?_;intro J w;simp[t,K,f,N,c2];refine zJ w ?_)
     simp[E,K,F,f,t,N,c2]
   ·(refine zE ?_;intro J w;simp[t,f,N];refine zJ w ?_)
    simp[E,K,F,f,t,N]
  clear E K F f t I;rintro I st8 ⟨⟨E,K,F,f,t,f213⟩,rfl⟩;simp only[ak];have hP8:=Q.keep _ _ hPc W;have hq8:q<st8.z:=by have:=W.1;omega
  by_cases c:a<V/\V<b
  .rw[mc c]at f213;have M:=ih (P++C) X B2 S a V b st8 O (nz lA2 O) (nz lB2 O) rA2 rB2 (by simp only[cb];omega) (by simp only[cb];omega) O O hP8 hq8 hD
   (repeat' (first|(apply qC;simp[f213,E,K,t,f,F])|(refine zE ?_;intro J w;simp[f213,E,K,t,f,F])))
   refine qE M Y ?_;rintro r s9 ⟨D,k1,k2,k3,k4⟩
   (repeat' (apply cP;simp[];refine zJ w ?_))
   obtain⟨j1,j2⟩:=hj C D N k1 c2 k2;exact⟨trivial,C++D,j1,j2,by rw[k3];simp,W.trans k4⟩
  .rw[ny c]at f213;have e9:Ris (X++B2):=by
    by_cases N:a<V
    .rw[zz lB2 O,dT];exact rA2
    .rw[zz lA2 O,List.nil_append];exact rB2
   refine df f213 ?_;obtain⟨j1,j2⟩:=hj C (X++B2) N (.refl _) c2 e9;exact⟨trivial,C++(X++B2),j1,j2,by rw[hD];simp,W⟩
def Aw.JW:=Ao.1
def Aw.U.JW:=Ao.2
open Go Go.RowKit Pl Aw
open Aw.U
namespace Aw
structure Mgd(D D':QR)(lo hi:Nat):Prop where
 len:D'.length=D.length
 perm:D'.Perm D
 out:∀ j,j<lo\/hi<=j->D'.getD j ed0=D.getD j ed0
 inn:∀ j k,lo<=j->j<=k->k<hi->(D'.getD j ed0).id<=(D'.getD k ed0).id
end Aw
namespace Aw.U
structure Mgd(D D':List Nu)(lo hi:Nat):Prop where
 len:D'.length=D.length
 perm:D'.Perm D
 out:∀ j,j<lo\/hi<=j->D'.getD j ed0=D.getD j ed0
 inn:∀ j k,lo<=j->j<=k->k<hi->(D'.getD j ed0).id<=(D'.getD k ed0).id
end Aw.U
def SU:(∀ ⦃D P X S C:QR⦄ (f:P++X++S=D) (d:C.Perm X) (g:Aw.Ris C) ⦃a b:Nat⦄ (m:P.length=a) (n:b=a+X.length),
 Aw.Mgd D (P++C++S) a b)/\(∀ ⦃D P X S C:List Nu⦄ (f:P++X++S=D) (d:C.Perm X) (g:Aw.U.Ris C) ⦃a b:Nat⦄ (m:P.length=a) (n:b=a+X.length),
 Aw.U.Mgd D (P++C++S) a b):=by
 refine⟨?_,?_⟩
 all_goals
  intro D P X S C f d g a b m n;have r:=d.length_eq;subst f;refine⟨Z r,zo _ (se _ d),fun j o=>?_,fun j k o p q=>?_⟩
  .rcases ec j a with h|h
   ·(first|rw[Aw.uA _ _ _ (by simp;omega),Aw.uA _ _ _ O,Aw.uA _ _ _ (by simp;omega),Aw.uA _ _ _ O]|rw[Aw.U.uA _ _ _ (by simp;omega),Aw.U.uA _ _ _ O,Aw.U.uA _ _ _ (by simp;omega),Aw.U.uA _ _ _ O])
   .have c:=Dx (P++C) S (j-b);have l:=Dx (P++X) S (j-b);have s:(P++C).length+(j-b)=j:=by simp;omega
    have t:(P++X).length+(j-b)=j:=by simp;omega
    rw[s]at c;rw[t]at l;rw[c,l]
  .have e:∀ x,a<=x->x<b->(P++C++S).getD x ed0=C.getD (x-a) ed0:=fun x v w=>by have c:=Dx P (C++S) (x-a);rw[show P.length+(x-a)=x by omega,uA C S (x-a) O]at c;rw[<- c];simp
   rw[e j o O,e k O q];exact kN g O O
def Aw.mgd:=SU.1
def Aw.U.mgd:=SU.2
namespace Aw
def Ye{c:Type}(D:List c)(a b:Nat)(h:a<=b):D.take a++(D.drop a).take (b-a)++D.drop b=D:=by
 have e:(D.drop a).drop (b-a)=D.drop b:=by rw[rh];congr 1;omega
 rw[dw,<- e,gw,gw]
end Aw
def CQ:(∀ ⦃D:QR⦄ ⦃lo hi:Nat⦄ (c:hi<=D.length) (h:∀ j k,lo<=j->j<=k->k<hi->(D.getD j Aw.ed0).id<=(D.getD k Aw.ed0).id),
 Aw.Ris ((D.drop lo).take (hi-lo)))/\(∀ ⦃D:List Nu⦄ ⦃lo hi:Nat⦄ (c:hi<=D.length) (h:∀ j k,lo<=j->j<=k->k<hi->(D.getD j Aw.U.ed0).id<=(D.getD k Aw.U.ed0).id),
 Aw.U.Ris ((D.drop lo).take (hi-lo))):=by
 refine⟨?_,?_⟩
 all_goals
  intro D lo hi c h;refine fD.2 fun a b d e f=>?_;simp only[dj,gy]at d e;rw[nu,nu,pq,pq,<- Ez D (lo+a) O,<- Ez D (lo+b) O];exact h _ _ O O O
def Aw.BN:=CQ.1
def Aw.U.BN:=CQ.2
def Jt:(∀(q L:Nat) (k:FuncId) (Kz:QQ) (g:St->Prop) (f:Aw.jD k Kz q g) (v:L<=100000) (D:QR) (a b:Nat) (d:St) (n:D.length=L) (p:a<=b) (t:b<=L) (j:g d) (s:q<d.z) (o:d.H q=.box 36 3 (Aw.eds D)),
 aD prog 161 [.ms q 0 L,i a,i b,.fn (.func k) Kz] d fun r e=>∃ l,e.H q=.box 36 3 (Aw.eds l)/\Aw.Mgd D l a b/\bU q d e)/\(∀(q L:Nat) (k:FuncId) (Kz:QQ) (g:St->Prop) (f:Aw.U.jD k Kz q g) (v:L<=100000) (D:List Nu) (a b:Nat) (d:St) (n:D.length=L) (p:a<=b) (t:b<=L) (j:g d) (s:q<d.z) (o:d.H q=.box 34 1 (Aw.U.eds D)),
 aD prog 159 [.ms q 0 L,i a,i b,.fn (.func k) Kz] d fun r e=>∃ l,e.H q=.box 34 1 (Aw.U.eds l)/\Aw.U.Mgd D l a b/\bU q d e):=by
 refine⟨?_,?_⟩
 all_goals
  intro q L k Kz g f v D a b d n p t j s o;have m:=Ye D a b p;have w:(D.take a).length=a:=by rw[dj];omega
  have C:((D.drop a).take (b-a)).length=b-a:=by rw[dj,gy];omega
  have h:=Nf (D.take a) ((D.drop a).take (b-a)) (D.drop b) q k Kz g d f j s (by rw[m];omega) (by rw[m];exact o);rw[m,n,w,C,show a+(b-a)=b by omega]at h;refine h.mono ?_;rintro r e ⟨c,x,y,A,B⟩;exact⟨_,A,mgd m x y w O,B⟩
def Aw.Tt:=Jt.1
def Aw.U.Tt:=Jt.2
def Kk:(∀(q L:Nat) (n:FuncId) (Kz:QQ) (g:St->Prop) (f:Aw.jD n Kz q g) (A:L<=100000) (D:QR) (a m b:Nat) (c:St) (v:D.length=L) (E:a<m) (I:m<b) (F:b<=L) (s:∀ j k,a<=j->j<=k->k<m->(D.getD j Aw.ed0).id<=(D.getD k Aw.ed0).id) (t:∀ j k,m<=j->j<=k->k<b->(D.getD j Aw.ed0).id<=(D.getD k Aw.ed0).id) (l:g c) (B:q<c.z) (w:c.H q=.box 36 3 (Aw.eds D)),
 aD prog 162 [.ms q 0 L,i a,i m,i b,.fn (.func n) Kz] c fun r d=>∃ o,d.H q=.box 36 3 (Aw.eds o)/\Aw.Mgd D o a b/\bU q c d)/\(∀(q L:Nat) (n:FuncId) (Kz:QQ) (g:St->Prop) (f:Aw.U.jD n Kz q g) (A:L<=100000) (D:List Nu) (a m b:Nat) (c:St) (v:D.length=L) (E:a<m) (I:m<b) (F:b<=L) (s:∀ j k,a<=j->j<=k->k<m->(D.getD j Aw.U.ed0).id<=(D.getD k Aw.U.ed0).id) (t:∀ j k,m<=j->j<=k->k<b->(D.getD j Aw.U.ed0).id<=(D.getD k Aw.U.ed0).id) (l:g c) (B:q<c.z) (w:c.H q=.box 34 1 (Aw.U.eds D)),
 aD prog 160 [.ms q 0 L,i a,i m,i b,.fn (.func n) Kz] c fun r d=>∃ o,d.H q=.box 34 1 (Aw.U.eds o)/\Aw.U.Mgd D o a b/\bU q c d):=by
 refine⟨?_,?_⟩
 all_goals
  intro q L n Kz g f A D a m b c v E I F s t l B w;have y:=Ye D m b O;have p:=Ye (D.take m) a m O;have N:((D.take m).drop a).take (m-a)=(D.drop a).take (m-a):=by rw[List.drop_take,tK,Nat.min_self]
  have P:(D.take m).drop m=[]:=by rw[List.drop_eq_nil_iff,dj];omega
  have Q:(D.take m).take a=D.take a:=by rw[tK,vo O]
  rw[N,P,Q,dT]at p;have x:D.take a++(D.drop a).take (m-a)++(D.drop m).take (b-m)++D.drop b=D:=by rw[p,y]
  have J:(D.take a).length=a:=by rw[dj];omega
  have K:((D.drop a).take (m-a)).length=m-a:=by rw[dj,gy];omega
  have M:((D.drop m).take (b-m)).length=b-m:=by rw[dj,gy];omega
  have W:=BN (D:=D) (lo:=a) (hi:=m) O s;have r2:=BN (D:=D) (lo:=m) (hi:=b) O t;have h:=JW q L n Kz g f A _ (D.take a) ((D.drop a).take (m-a)) ((D.drop m).take (b-m)) (D.drop b) a m b c (au _) (fun e=>by rw[e]at K;simp at K;omega) (fun e=>by rw[e]at M;simp at M;omega) W r2 (by rw[x];exact v) J O O l B (by rw[x];exact w);refine h.mono ?_;rintro r d ⟨C,R,S,T,V⟩;refine⟨_,T,mgd (X:=(D.drop a).take (m-a)++(D.drop m).take (b-m)) (by rw[<- dw (D.take a)];exact x) R S J (by simp only[cb];omega),V⟩
def Aw.UC:=Kk.1
def Aw.U.UC:=Kk.2
namespace Aw
def Bs(s b a:Nat)(D:QR):Prop:=∀ j k,b<=j->j<=k->k<a->j / s=k / s->(D.getD j ed0).id<=(D.getD k ed0).id
end Aw
namespace Aw.U
def Bs(s b a:Nat)(D:List Nu):Prop:=∀ j k,b<=j->j<=k->k<a->j / s=k / s->(D.getD j ed0).id<=(D.getD k ed0).id
end Aw.U
namespace Aw
def IA{s t j:Nat}(a:s*t<=j)(b:j<s*t+s):j / s=t:=by
 refine Nat.div_eq_of_lt_le ?_ ?_
 .rw[mA];exact a
 .rw[mA,Nat.mul_succ];exact b
end Aw
def Bs.extTwo:(∀ ⦃s a b t:Nat⦄ ⦃D c:QR⦄ (h:Aw.Bs s 0 a D) (e:Aw.Mgd D c a b) (g:0<s) (m:a=s*t),
 Aw.Bs s 0 b c)/\(∀ ⦃s a b t:Nat⦄ ⦃D c:List Nu⦄ (h:Aw.U.Bs s 0 a D) (e:Aw.U.Mgd D c a b) (g:0<s) (m:a=s*t),
 Aw.U.Bs s 0 b c):=by
 refine⟨?_,?_⟩
 all_goals
  intro s a b t D c h e g m;intro j k _ d o n;rcases ec k a with f|f
  .rw[e.out j (.inl O),e.out k (.inl f)];exact h j k (jx _) d f n
  .rcases ec j a with l|l
   .have p:j / s<t:=GB O;have q:t<=k / s:=(B0 g).2 (by rw[mA];omega);omega
   .exact e.inn j k l d o
def Aw.Bs.ext:=Bs.extTwo.1
def Aw.U.Bs.ext:=Bs.extTwo.2
def Bs.restTwo:(∀ ⦃s a b:Nat⦄ ⦃L:Nat⦄ ⦃D c:QR⦄ (h:Aw.Bs s a L D) (d:Aw.Mgd D c a b) (f:a<=b),
 Aw.Bs s b L c)/\(∀ ⦃s a b:Nat⦄ ⦃L:Nat⦄ ⦃D c:List Nu⦄ (h:Aw.U.Bs s a L D) (d:Aw.U.Mgd D c a b) (f:a<=b),
 Aw.U.Bs s b L c):=by
 refine⟨?_,?_⟩
 all_goals
  intro s a b L D c h d f;intro j k g e m l;rw[d.out j (.inr g),d.out k (.inr O)];exact h j k O e m l
def Aw.Bs.rest:=Bs.restTwo.1
def Aw.U.Bs.rest:=Bs.restTwo.2
namespace Aw
def Bs.block{s a L t:Nat}{D:QR}(h:Bs s a L D){c:Nat}(l:s*t=c)(e:a<=c){j k:Nat}(f:c<=j)(b:j<=k)(g:k<c+s)(d:k<L):(D.getD j ed0).id<=(D.getD k ed0).id:=
 h j k O b d ((IA (t:=t) O O).trans (IA O O).symm)
end Aw
namespace Aw.U
def Bs.block{s a L t:Nat}{D:List Nu}(h:Bs s a L D){c:Nat}(l:s*t=c)(e:a<=c){j k:Nat}(f:c<=j)(b:j<=k)(g:k<c+s)(d:k<L):(D.getD j ed0).id<=(D.getD k ed0).id:=
 h j k O b d ((IA (t:=t) O O).trans (IA O O).symm)
end Aw.U
def Bs.allTwo:(∀ ⦃s L:Nat⦄ ⦃D:QR⦄ (h:Aw.Bs s 0 L D) (b:L<=s) (a:D.length=L),
 Aw.Ris D)/\(∀ ⦃s L:Nat⦄ ⦃D:List Nu⦄ (h:Aw.U.Bs s 0 L D) (b:L<=s) (a:D.length=L),
 Aw.U.Ris D):=by
 refine⟨?_,?_⟩
 all_goals
  intro s L D h b a;have:=BN (D:=D) (lo:=0) (hi:=L) O fun j k c d e=>h j k c d e (by rw[wz O,wz O])
  rwa [List.drop_zero,ej O]at this
def Aw.Bs.all:=Bs.allTwo.1
def Aw.U.Bs.all:=Bs.allTwo.2
namespace Aw
def Mgd.from{D c:QR}{a b:Nat}(h:Mgd D c a b){d:QR}(k:D.Perm d):c.Perm d:=h.perm.trans k
end Aw
namespace Aw.U
def Mgd.from{D c:List Nu}{a b:Nat}(h:Mgd D c a b){d:List Nu}(k:D.Perm d):c.Perm d:=h.perm.trans k
end Aw.U
namespace Aw
def Cv(b:QR)(q L:Nat)(c a:St)(D:QR):Prop:=D.length=L/\D.Perm b/\a.H q=.box 36 3 (eds D)/\bU q c a
end Aw
namespace Aw.U
def Cv(b:List Nu)(q L:Nat)(c a:St)(D:List Nu):Prop:=D.length=L/\D.Perm b/\a.H q=.box 34 1 (eds D)/\bU q c a
end Aw.U
namespace Aw
def Cv.step{f:QR}{q L:Nat}{j d c:St}{D e:QR}{a b:Nat}(h:Cv f q L j d D)(g:Mgd D e a b)(k:c.H q=.box 36 3 (eds e))(l:bU q d c):Cv f q L j c e:=
 ⟨g.len.trans h.1,g.from h.2.1,k,h.2.2.2.trans l⟩
end Aw
namespace Aw.U
def Cv.step{f:List Nu}{q L:Nat}{j d c:St}{D e:List Nu}{a b:Nat}(h:Cv f q L j d D)(g:Mgd D e a b)(k:c.H q=.box 34 1 (eds e))(l:bU q d c):Cv f q L j c e:=
 ⟨g.len.trans h.1,g.from h.2.1,k,h.2.2.2.trans l⟩
end Aw.U
def Fy:(∀(p:QR) (q L:Nat) (A:FuncId) (Kz:QQ) (P:St->Prop) (w:St) (c:Aw.jD A Kz q P) (R:P w) (hq:q<w.z) (hL:p.length=L) (hl:L<=100000) (hH:w.H q=.box 36 3 (Aw.eds p)),
 aD prog 119 [.ms q 0 L,i L,.fn (.func A) Kz] w fun r N=>∃ D,D.Perm p/\Aw.Ris D/\N.H q=.box 36 3 (Aw.eds D)/\bU q w N)/\(∀(p:List Nu) (q L:Nat) (A:FuncId) (Kz:QQ) (P:St->Prop) (w:St) (c:Aw.U.jD A Kz q P) (R:P w) (hq:q<w.z) (hL:p.length=L) (hl:L<=100000) (hH:w.H q=.box 34 1 (Aw.U.eds p)),
 aD prog 117 [.ms q 0 L,i L,.fn (.func A) Kz] w fun r N=>∃ D,D.Perm p/\Aw.U.Ris D/\N.H q=.box 34 1 (Aw.U.eds D)/\bU q w N):=by
 refine⟨?_,?_⟩
 all_goals
  intro p q L A Kz P w c R hq hL hl hH
  first|(have _:QR:=p;refine zN func119 ntmps119 [] ?_)|refine zN func117 ntmps117 [] ?_
  refine bz ?_;refine qL (fun z e o=>∃(t a:Nat) (D:List (EN p)),a=20*t/\a<=L/\z=L-a/\e 0=.ms q 0 L/\e 1=i L/\e 2=.fn (.func A) Kz/\e 6=i 20/\e 7=i a/\e 8=i (a+20:Nat)/\Bs 20 0 a D/\Cv p q L w o D) L ?_ ?_
  .exact⟨0,0,p,rfl,O,rfl,Y,Y,Y,Y,Y,Y,fun j k _ _ h=>by omega,hL,.refl _,hH,bU.refl _ _⟩
  rintro z e o ⟨t,a,D,ht,ha,rfl,l,f,n,v,I,B,K,d⟩ JJ M;have X:=c.keep _ _ R d.2.2.2;have hq2:q<o.z:=by have:=d.2.2.2.1;omega
  by_cases u7:a+20<=L
  .have b:(a:Int)+20<=L:=O;have T:=Tt q L A Kz P c O D a (a+20) o d.1 O u7 X hq2 d.2.2.1;have w1:IntKind.i64.wrap ((a:Int)+20+20)=((a+20+20:Nat):Int):=zW
   (repeat' (first|apply qS|apply qB|refine qK (zZ ?_)|(apply qC;simp[l,f,n,I,B,b])|(refine zE ?_;intro J x;simp[l,f,n,I,B,b];(try refine zJ x ?_))))
   refine qE T Y ?_;rintro r s3 ⟨E,V,C,W⟩
   (repeat' (first|apply qS|((first|(refine zE ?_;intro J x)|(apply cP));simp[B,v,w1];refine zJ x ?_)))
   exact M (L-(a+20)) _ _ O ⟨t+1,a+20,E,O,u7,rfl,Z l,Z f,Z n,Z v,Y,Y,K.ext C O ht,d.step C V W⟩
  clear M;have b:¬(a:Int)+20<=L:=O;have T:=Tt q L A Kz P c O D a L o d.1 ha (au _) X hq2 d.2.2.1
  (repeat' (first|apply qS|refine qX (zZ ?_)|(apply qC;simp[l,f,n,I,B,b])|(refine zE ?_;intro J x;simp[l,f,n,I,B,b];(try refine zJ x ?_))))
  refine qE T Y ?_;rintro r s3 ⟨E,V,C,W⟩;have hB2:=K.ext C O ht;have hI2:=d.step C V W
  (repeat' (first|apply qB|(apply cP;simp[];refine zJ x ?_)))
  refine qL (fun z e o=>∃(s:Nat) (D:List (EN p)),0<s/\s<=200040/\z=L-s/\e 0=.ms q 0 L/\e 1=i L/\e 2=.fn (.func A) Kz/\e 6=i s/\Bs s 0 L D/\Cv p q L w o D) (L-20) ?_ ?_
  .exact⟨20,E,O,O,rfl,Z l,Z f,Z n,Z v,hB2,hI2⟩
  clear hB2 hI2 V C W T d K l f n v I B X hq2 u7 b ht ha e;rintro z e st3 ⟨s,D,hs0,hs1,rfl,l,f,n,v,K,d⟩ JJ M;by_cases dS:s<L;rotate_left
  .clear M;have v7:¬(s:Int)<L:=O;refine eI f v dS v7 ?_;exact⟨trivial,D,d.2.1,K.all O d.1,d.2.2⟩
  have v7:(s:Int)<L:=O;have w2:IntKind.i64.wrap (2*(s:Int))=((2*s:Nat):Int):=zW;have w2':IntKind.i64.wrap ((s:Int)*2)=((2*s:Nat):Int):=by rw[AV _ O O];omega
  obtain⟨g,hs2⟩:∃ g:Nat,g=2*s:=⟨_,rfl⟩;rw[<- hs2]at w2 w2';refine jl f v dS v7 w2 ?_;refine qL (fun z e o=>∃(t a:Nat) (D:List (EN p)),a=g*t/\a<=L/\z=L-a/\e 0=.ms q 0 L/\e 1=i L/\e 2=.fn (.func A) Kz/\e 6=i s/\e 7=i a/\e 8=i (a+g:Nat)/\Bs g 0 a D/\Bs s a L D/\Cv p q L w o D) L ?_ ?_
  .exact⟨0,0,D,O,O,rfl,Z l,Z f,Z n,Z v,Y,Y,fun j k _ _ h=>by omega,K,d⟩
  clear l f n v K d e D;rintro z e st4 ⟨t,a,D,ht,ha,rfl,l,f,n,v,I,B,K,hR,d⟩ J2 hJ2;have hP4:=c.keep _ _ R d.2.2.2;have hq4:q<st4.z:=by have:=d.2.2.2.1;omega
  have e0:s*(2*t)=a:=by rw[ht,hs2,mA 2 s,Nat.mul_assoc]
  have e1:s*(2*t+1)=a+s:=by rw[Nat.mul_succ,e0]
  have w3:IntKind.i64.wrap ((a:Int)+s)=((a+s:Nat):Int):=zW;obtain⟨m,hm⟩:∃ m:Nat,m=a+s:=⟨_,rfl⟩;rw[<- hm]at w3;by_cases u7:a+g<=L
  .have b:(a:Int)+g<=L:=O;have T:=UC q L A Kz P c hl D a m (a+g) st4 d.1 O O u7 (fun j k Q F h3=>hR.block e0 (au _) Q F O O) (fun j k Q F h3=>hR.block e1 O O F O O) hP4 hq4 d.2.2.1;have w1:IntKind.i64.wrap ((a:Int)+g+g)=((a+g+g:Nat):Int):=zW
   (repeat' (first|apply qS|apply qB|refine qK (zZ ?_)|(apply qC;simp[l,f,n,v,I,B,b,w3])|(refine zE ?_;intro J x;simp[l,f,n,v,I,B,b,w3];(try refine zJ x ?_))))
   refine qE T Y ?_;rintro r s3 ⟨E,V,C,W⟩
   (repeat' (first|apply qS|((first|(refine zE ?_;intro J x)|(apply cP));simp[B,v,w2,w1];refine zJ x ?_)))
   exact hJ2 (L-(a+g)) _ _ O ⟨t+1,a+g,E,by rw[Nat.mul_succ];omega,u7,rfl,Z l,Z f,Z n,Z v,Y,Y,K.ext C O ht,hR.rest C O,d.step C V W⟩
  clear hJ2;have b:¬(a:Int)+g<=L:=O;have x9:∀ c8 st5 (E:List (EN p)),c8 0=.ms q 0 L/\c8 1=i L/\c8 2=.fn (.func A) Kz/\c8 6=i g->Bs g 0 L E->Cv p q L w st5 E->JJ c8 st5:=by rintro c8 st5 E ⟨g0,g1,g2,g6⟩ Q F;exact M (L-g) _ _ O ⟨g,E,O,O,rfl,g0,g1,g2,g6,Q,F⟩
  by_cases S:m<L
  .have y:(m:Int)<L:=O;have T:=UC q L A Kz P c hl D a m L st4 d.1 O S (au _) (fun j k Q F h3=>hR.block e0 (au _) Q F O O) (fun j k Q F h3=>hR.block e1 O O F O O) hP4 hq4 d.2.2.1
   (repeat' (first|apply qS|refine qX (zZ ?_)|(apply qC;simp[l,f,n,v,I,B,b,w3,S,y])|(refine zE ?_;intro J x;simp[l,f,n,v,I,B,b,w3,S,y];(try refine zJ x ?_))))
   refine qE T Y ?_;rintro r s3 ⟨E,V,C,W⟩
   (repeat' ((first|(refine zE ?_;intro J x)|(apply cP));simp[v,w2'];refine zJ x ?_))
   exact x9 _ _ E ⟨Z l,Z f,Z n,Y⟩ (K.ext C O ht) (d.step C V W)
  .have y:¬(m:Int)<L:=O;refine Xk l f n v I B b w3 S y w2' ?_;refine x9 _ _ D ⟨Z l,Z f,Z n,Y⟩ (fun j k h0 hjk hk he=>?_) d;rcases ec k a with Q|Q
   .exact K j k h0 hjk Q he
   .rcases ec j a with F|F
    .have h3:j / g<t:=GB O;have h4:t<=k / g:=(B0 O).2 (by rw[mA];omega);omega
    .exact hR.block e0 (au _) F hjk O hk
def Aw.ND:=Fy.1
def Aw.U.ND:=Fy.2
namespace Aw
open Go Go.RowKit Pl
def OB(x y:Int)(e:St):aD prog 77 [u x,u y] e fun r a=>r=i (if x<y then -1 else if y<x then 1 else 0)/\a=e:=by
 refine zN func77 ntmps77 [.tmp 4] ?_
 (refine ez ?_;intro J b)
 refine qF (isNaN x _) ?_;rintro r a ⟨rfl,rfl⟩
 (refine nV b ?_;intro J b)
 refine qF (isNaN y _) ?_;rintro r a ⟨rfl,rfl⟩;by_cases c:x<y
 .exact TW b c
 .by_cases d:y<x
  .exact Zy b c d
  .exact Zy b c d
def Gg(a:PP)(t:Nat)(d:St)(g:a.length<=100000):
 aD prog 20 [.sl t a.length (us a)] d fun r c=>∃ l,r=.ms l 0 a.length/\d.z<=l/\l<c.z/\c.H l=.box 34 1 (us a)/\aC d c:=by
 refine kW 34 1 ?_;have b:=ML a;refine zN func20 ntmps20 [.tmp 2] ?_
 (repeat' (first|apply qS|refine qK (zZ ?_)|(refine qR (zZ ?_);simp[b])|(apply qC;simp[b])|(refine w_e [5] ?_;intro J e;simp only[];simp[b];(repeat refine ca ?_);((try with_reducible refine⟨?_,?_⟩)<;>(try with_reducible intro f)<;>refine zJ e ?_<;>clear e J<;>try subst f))))
 .exact(aC.new _ _).trans (aC.new _ _)
 .exact aC.new _ _
def XG(l:QR)(t:Nat)(d:St)(g:l.length<=100000):
 aD prog 19 [.sl t l.length (eds l)] d fun r c=>∃ q,r=.ms q 0 l.length/\d.z<=q/\q<c.z/\c.H q=.box 36 3 (eds l)/\aC d c:=by
 have a:=OL l;have b:=aL l;refine kW 36 3 ?_;refine zN func19 ntmps19 [.tmp 2] ?_
 (repeat' (first|apply qS|refine qK (zZ ?_)|(refine qR (zZ ?_);simp[a,b])|(apply qC;simp[a,b])|(refine w_e [5] ?_;intro J e;simp only[];simp[a,b];(repeat refine ca ?_);((try with_reducible refine⟨?_,?_⟩)<;>(try with_reducible intro f)<;>refine zJ e ?_<;>clear e J<;>try subst f))))
 .exact(aC.new _ _).trans (aC.new _ _)
 .exact aC.new _ _
def YR(d:FuncId)(Kz:QQ)(c:St->Prop):Prop:=(∀ b a,c b->aC b a->c a)/\∀ b x y,c b->aD prog d ([u x,u y]++Kz) b fun r a=>r=bb (decide (x=y))/\aC b a
def YV(d:FuncId)(Kz:QQ)(c:St->Prop):Prop:=(∀ b a,c b->aC b a->c a)/\∀ b x y,c b->aD prog d ([.ag (dv x),.ag (dv y)]++Kz) b fun r a=>r=bb (decide (x.id=y.id))/\aC b a
def TM(c:QR)(q:Nat)(B:FuncId)(Kz:QQ)(C:St->Prop)(f:St)(l:YV B Kz C)(t:C f)(W:c.length<=100000)(Tv:∀ j,j+1<c.length->(c.getD (j+1) ed0).id≠(c.getD j ed0).id)(L:q<f.z)(Q:f.H q=.box 36 3 (eds c)):
 aD prog 82 [.ms q 0 c.length,.fn (.func B) Kz] f fun r w=>r=.ms q 0 c.length/\aC f w:=by
 have v:=aL c;refine zN func82 ntmps82 [.tmp 4] ?_;by_cases E:c.length<2
 .have d:(c.length:Int)<2:=O;refine cm d E ?_;exact aC.refl _
 have d:¬(c.length:Int)<2:=O;refine cm d E ?_;refine qL (fun z s e=>∃ k:Nat,0<k/\k<=c.length/\z=c.length-k/\s 0=.ms q 0 c.length/\s 1=.fn (.func B) Kz/\s 5=i k/\aC f e) (c.length-1) ?_ ?_
 .exact⟨1,O,O,rfl,Y,Y,Y,aC.refl _⟩
 rintro z s e ⟨k,S,T,rfl,o,D,p,n⟩ V h;by_cases dS:k<c.length;rotate_left
 .clear h;refine fw o p dS ?_;exact n
 obtain⟨a,rfl⟩:∃ a,k=a+1:=⟨k-1,O⟩;have I:=aP c (a+1) dS;have P:=aP c a O;have U:IntKind.i64.wrap (a:Int)=(a:Int):=zW;have A:IntKind.i64.wrap ((a:Int)+1+1)=(a:Int)+1+1:=wrap_i64 _ O O;have m:a<c.length:=O;have N:(a:Int)+1<c.length:=O;have K:=Tv a dS;have b:=(n.H q L).trans Q;have F:=l.2 e (c.getD (a+1) ed0) (c.getD a ed0) (l.1 _ _ t n);rw[ny K]at F;generalize c.getD (a+1) ed0=x at *;generalize c.getD a ed0=y at *;obtain⟨xi,xa,xb⟩:=x;obtain⟨yi,ya,yb⟩:=y;simp only at I P K;refine eI o p dS N ?_
 (refine zS [] [q] [0,2,4,6,8,10,12,14,16,18,21] ?_;intro J R;simp[o,D,p,dS,N,I,P,U,m,b,v];(repeat refine ca ?_))
 refine aS F ?_;rintro r X ⟨rfl,M⟩;have g:=(M.H q (dc L n.z)).trans b;refine⟨fun _=>by simp[g,b],?_⟩
 (apply bM;simp[g,b];refine zJ R ?_)
 refine cm p A ?_;exact h (c.length-(a+1+1)) _ _ O ⟨a+1+1,O,O,rfl,Z o,Z D,Y,n.trans M⟩
structure Sh where
 L:QP
 on:PP
 F:List (PP)
def dO(w:PP):PP:=(w.drop 1).take (w.length-2)
def iS(h:Sh)(w:PP)(a:Nat):Sh:=
 ⟨lJ h.L w,h.on++w,h.F.set a (jX (h.F.getD a []) ((h.F.getD a []).idxOf (w.getD 0 0)) ((h.F.getD a []).idxOf (w.getD (w.length-1) 0))++(dO w).reverse)++
   [jX (h.F.getD a []) ((h.F.getD a []).idxOf (w.getD (w.length-1) 0)) ((h.F.getD a []).idxOf (w.getD 0 0))++dO w]⟩
theorem Jm(a:PP):∀(F:List PP) (k:Nat) (R:PP),k<F.length->(jA a F).take (k*2)++([.sl 0 R.length (us R),wv (mk a R)]++(jA a F).drop (k*2+2))=jA a (F.set k R)
 |r::F,0,R,_=>by simp[jA]
 |r::F,k+1,R,h=>by
  have:=Jm a F k R (by grind)
  grind [jA]
 |[],k,R,h=>by grind
def RJ(a:PP)(F:List PP)(R:PP):jA a F++[.sl 0 R.length (us R),wv (mk a R)]=jA a (F++[R]):=by simp[jA]
variable{v:Int}{w:List Int}{M:List Nat}{a b:St}
def KO{r:PP}{i j:Nat}(h:v∈jX r i j):v∈r:=by
 have:=xe (qw h)
 grind
def oJ(h:v∈dO w):v∈w:=xe (qw h)
def xC(w:PP):(dO w).length=w.length-2:=by grind [dO]
def WW(w:PP):((us w).drop 1).take (w.length-1-1)=us (dO w):=by
 grind [dO,List.map_drop,List.map_take]
structure KM(M:PQ)(a b:St):Prop where
 z:a.z<=b.z
 H:∀ l,l<a.z->l∉M->b.H l=a.H l
def KM.keeps{c:St}(h:KM M a b)(k:aC b c):KM M a c:=⟨fa h.z k.z,fun l d e=>(k.H l (dc d h.z)).trans (h.H l d e)⟩
theorem KM.set{M:PQ}{a b:St}(h:KM M a b){q:Nat}(e:a.z<=q\/q∈M)(o:cT):KM M a (b.set q o):=⟨h.z,fun l c d=>by
 rw[cC,aa (by grind)];exact h.H l c d⟩
def KM.of(h:aC a b):KM M a b:=⟨h.z,fun l c _=>h.H l c⟩
def S7{g:Gr}(hg:GP g){h:Sh}{S I n k c:Nat}{le:List (PP×LV)}{st:St}(d:ShA g h.L h.on h.F S I n k c le st){a:Nat}(hat:a < h.F.length)(hw2:2<=w.length)(hwl:w.length<=200)(hwv:∀ v∈w,v∈g.V)
 (hrl:(h.F.getD a []).length<=1000) (h1:w.getD 0 0∈h.F.getD a []) (h2:w.getD (w.length-1) 0∈h.F.getD a []) (hfew:h.F.length<300) (hpos:0<st.z):
 aD prog 102 [.pt S 0,.sl 0 w.length (us w),i a] st fun _ st'=>∃ fl' Q,ShA g (iS h w a).L (iS h w a).on (iS h w a).F S I n k fl' Q st'/\(fl'=c\/st.z<=fl')/\KM [S,k,c] st st':=by
 have h64:=hg.h64;have hn:g.V.Nodup:=hg.toGoodE.toGood.nodup;have hSb:=d.r.box;have hF:=d.fac;have dS:=d.r.lt;have hflt:=d.flt;have hfl:=tR g.V h.F;have hd:=uR g.V h.F a hat;have hrv:∀ v∈h.F.getD a [],v∈g.V:=d.sub _ (by grind);have o6:a * 2<h.F.length*2:=O;have hati:(a:Int)<h.F.length:=O;have hsetF:=fun R=>Jm g.V h.F a R hat;unfold iS;generalize hr:h.F.getD a []=r at *;have hd0:=qG w 0 O;have hdl:=qG w (w.length-1) O;have hh0:oe (us w)=u (w.getD 0 0):=by rw[show us w=(us w).drop 0 from rfl,hd0];rfl
 have g1:=IY h1;have g2:=IY h2;have B:=lg h1;have C:=lg h2;have hmid:(us w).tail.take (dO w).length=us (dO w):=by have:=WW w;rw[xC,show w.length-2=w.length-1-1 by omega,<- List.drop_one];exact this
 have hml2:w.length-1-1=(dO w).length:=by rw[xC];omega
 have hml:=xC w;have hmm:∀ v∈dO w,v∈g.V:=fun v x=>hwv v (oJ x);have hwi:IntKind.i64.wrap ((w.length:Int)-1)=((w.length-1:Nat):Int):=zW;generalize w.getD 0 0=x0 at *;generalize w.getD (w.length-1) 0=xl at *;generalize r.idxOf x0=i0 at *;generalize r.idxOf xl=il at *;have hw0:(0:Int)<w.length:=O;have hw1:((w.length-1:Nat):Int)<w.length:=O;have hw3:w.length-1<w.length:=O;have hw4:0<w.length:=O;refine zN func102 ntmps102 [] ?_
 (refine B7 hSb hF hd o6 hati hat hfl hw0 hw4 hh0 ?_;intro J s)
 refine qE (Index r 0 x0 _ (by unfold small;omega)) Y ?_;rintro v s1 ⟨rfl,e1⟩;rw[e1];clear e1 s1;have hms:((w.length-1:Nat):Int)=(w.length:Int)-1:=O;have hm1:(1:Int)<=((w.length-1:Nat):Int):=O;have hm2:1<=w.length-1:=O
 (refine N4 s g1 hwi hw1 hw3 hdl ?_;intro J s)
 refine qE (Index r 0 xl _ (by unfold small;omega)) Y ?_;rintro v s1 ⟨rfl,e1⟩;rw[e1];clear e1 s1;generalize dO w=m at *;have hmle:m.length<=200:=O
 (refine U2 s g2 hwi hw1 hw3 hm1 hm2 hml2 hmid ?_;intro J s)
 refine qE (Gg m 0 _ O) Y ?_;rintro v s1 ⟨q,rfl,q1,q2,hq,j8⟩
 (refine nV s ?_;intro J s)
 refine qE (BZ m q s1 (by unfold small;omega) hq) Y ?_;rintro v s2 e2;have P:aC st s2:=by rw[e2];exact j8.set q1 _
 have hn2:s1.z=s2.z:=by rw[e2];rfl
 have hq2:s2.H q=.box 34 1 (us m.reverse):=by rw[e2];simp
 clear e2 j8 hq;have o:=d.keep P;have n0:¬n=k:=fun e=>by have f:=d.r.plc;rw[e,d.r.lin]at f;cases f
 (refine nV s ?_;intro J s)
 refine qE (TA o.r.box o.r.plc o.r.lin o.r.key n0 hn h64 w 0 hwv O) Y ?_;rintro v T ⟨Q,X,hkey⟩;have hn3:T.z=s2.z:=by rw[X];rfl
 have m1:¬c=S:=fun e=>by simp_all
 have m2:¬c=k:=fun e=>by have f:=d.fac;rw[e,d.r.lin]at f;cases f
 have m3:¬k=S:=fun e=>by have f:=d.r.lin;rw[e,d.r.box]at f;cases f
 have m4:¬I=S:=fun e=>by have f:=d.r.near;rw[e,d.r.box]at f;cases f
 have m5:¬I=k:=fun e=>by have f:=d.r.near;rw[e,d.r.lin]at f;cases f
 have m6:¬I=c:=fun e=>by have f:=d.r.near;rw[e,d.fac]at f;cases f
 have m7:¬n=S:=fun e=>by have f:=d.r.plc;rw[e,d.r.box]at f;cases f
 have m8:¬n=c:=fun e=>by have f:=d.r.plc;rw[e,d.fac]at f;cases f
 have hn2':=P.z;have p:T.H S=.box 136 7 [.sl 0 g.V.length (us g.V),.sl 0 g.E.length (eds g.E),.ms I 0 g.V.length,.mp n,.mp k,wv (mk g.V (h.on++w)),.ms c 0 h.F.length]:=by rw[X];simp
 have hP3:T.H n=.map false [.u32] (yT g.V):=by rw[X];simp[m7,n0,o.r.plc]
 have hL3:T.H k=.map true [.u32,.u32] Q:=by rw[X];simp[m3]
 have hN3:T.H I=.box 133 1 (nF g):=by rw[X];simp[m4,m5,o.r.near]
 have hF3:T.H c=.box 144 2 (jA g.V h.F):=by rw[X];simp[m1,m2,o.fac]
 have hq3:T.H q=.box 34 1 (us m.reverse):=by rw[X];simp[show ¬q=S by omega,show ¬q=k by omega,hq2]
 have hK3:KM [S,k,c] st T:=by rw[X];exact((KM.of P).set (.inr Y) _).set (.inr Y) _
 clear X o hq2;have hb3:mh g.V S n T:=⟨⟨_,_,_,_,_,_,p⟩,hP3⟩
 (apply cP;simp[];(refine zJ s ?_;clear s J))
 (repeat (apply qS))
 (refine zS [] [S] [0,2,4,6,8,10,12,14,16,20,18,22,24,26,29] ?_;intro J s;simp[p])
 refine qD (L7 r i0 il T B C hrl O) Y ?_;rintro v s4 ⟨⟨t,rfl,t0,t1,t2,tH⟩,hk4⟩;refine⟨fun _ l U=>?_,?_⟩
 .rw[bi]at U;rw[U];exact hk4.H S O
 have hal:=CK r i0 il B C;have hsl:=BK B C;have hn4:=hk4.z;have hq4:=(hk4.H q O).trans hq3;have c1:¬q=t:=O;have c2:¬t=q:=O;have hAv:∀ v∈jX r i0 il++m.reverse,v∈g.V:=fun v x=>by rw[am,iu]at x;exact x.elim (fun h=>hrv v (KO h)) (hmm v)
 have hSb4:=(hk4.H S O).trans p;have hP4:=(hk4.H n O).trans hP3;have hF4:=(hk4.H c O).trans hF3;generalize jX r i0 il=A at *
 (apply bM;simp[tH,t0,hq4,c1,c2];(repeat refine ca ?_))
 have c3:¬S=s4.z:=O;have c4:¬S=t:=O;refine⟨(aa c3).trans ((aa c4).trans (hk4.H S O)),?_⟩;have b:aC T ((s4.set t cT.dead).new (.own 34 1 (A.length+m.length))):=(hk4.set t1 _).trans (aC.new _ _);have hn4':((s4.set t cT.dead).new (.own 34 1 (A.length+m.length))).z=s4.z+1:=Y;generalize hs5:(s4.set t cT.dead).new (.own 34 1 (A.length+m.length))=s5 at *;have K:=(b.H S O).trans p;have hP5:=(b.H n O).trans hP3;have hF5:=(b.H c O).trans hF3;refine qD (VP (vs:=g.V) (S:=S) (pl:=n) ⟨⟨_,_,_,_,_,_,K⟩,hP5⟩ O O hn h64 (A++m.reverse) s4.z hAv (by simp;omega)) Y ?_;rintro v s6 ⟨rfl,e6⟩;rw[e6];clear e6 s6;refine⟨fun _ l U=>?_,?_⟩
 .rw[bi]at U;rw[U];exact b.H S O
 (apply bM;simp[hF5,hat,hati,o6,hfl];(repeat refine ca ?_);(refine zJ s ?_;clear s J))
 have N:(jA g.V h.F).take (a * 2)++LV.sl 0 (A.length+m.length) (List.map u A++(List.map u m).reverse)::wv (mk g.V (A++m.reverse))::(jA g.V h.F).drop (a * 2+2)=jA g.V (h.F.set a (A++m.reverse)):=by have:=hsetF (A++m.reverse);simpa using this
 rw[N];clear N;have hFl:(h.F.set a (A++m.reverse)).length=h.F.length:=Y;have hFs:∀ r∈h.F.set a (A++m.reverse),∀ v∈r,v∈g.V:=fun r hr v x=>by
  rcases List.mem_or_eq_of_mem_set hr with h1|h1
  .exact d.sub r h1 v x
  grind
 have hK5:KM [S,k,c] st (s5.set c (.box 144 2 (jA g.V (h.F.set a (A++m.reverse))))):=(hK3.keeps b).set (.inr Y) _;have hL5:=(b.H k O).trans hL3;have hN5:=(b.H I O).trans hN3;generalize hF':h.F.set a (A++m.reverse)=W at *;have n7:¬S=c:=fun e=>m1 e.symm;have n8:¬k=c:=fun e=>m2 e.symm;generalize y:s5.set c (.box 144 2 (jA g.V W))=s7 at *;have hn7:s7.z=s5.z:=by rw[<- y];rfl
 have M:s7.H S=.box 136 7 [.sl 0 g.V.length (us g.V),.sl 0 g.E.length (eds g.E),.ms I 0 g.V.length,.mp n,.mp k,wv (mk g.V (h.on++w)),.ms c 0 h.F.length]:=by rw[<- y,cC,aa n7];exact K
 have hP7:s7.H n=.map false [.u32] (yT g.V):=by rw[<- y,cC,aa m8];exact hP5
 have hL7:s7.H k=.map true [.u32,.u32] Q:=by rw[<- y,cC,aa n8];exact hL5
 have hN7:s7.H I=.box 133 1 (nF g):=by rw[<- y,cC,aa m6];exact hN5
 have hF7:s7.H c=.box 144 2 (jA g.V W):=by rw[<- y];simp
 clear y K hP5 hF5 hL5 hN5 hSb4 hP4 hF4 p hP3 hF3 hL3 hN3 b hk4 hs5 tH t0 t1 t2 hq4 hq3 hb3;have hFl7:=tR g.V W
 (repeat (apply qS))
 (refine zS [] [S] [0,2,4,6,8,10,12,14,16,20,18,22,24,26,29,30,32,35] ?_;intro J s;simp[M])
 refine qD (L7 r il i0 s7 C B hrl O) Y ?_;rintro v s8 ⟨⟨t',rfl,t0,t1,t2,tH⟩,hk8⟩;refine⟨fun _ l U=>?_,?_⟩
 .rw[bi]at U;rw[U];exact hk8.H S O
 have hal2:=CK r il i0 C B;have hsl2:=BK C B;have hn8:=hk8.z;have d1:¬S=s8.z:=O;have d2:¬S=t':=O;have hBv:∀ v∈jX r il i0++m,v∈g.V:=fun v x=>by rw[am]at x;exact x.elim (fun h=>hrv v (KO h)) (hmm v)
 generalize jX r il i0=D at *
 (apply bM;simp[tH,t0];(repeat refine ca ?_))
 refine⟨(aa d1).trans ((aa d2).trans (hk8.H S O)),?_⟩;have j:aC s7 ((s8.set t' cT.dead).new (.own 34 1 (D.length+m.length))):=(hk8.set t1 _).trans (aC.new _ _);have hn8':((s8.set t' cT.dead).new (.own 34 1 (D.length+m.length))).z=s8.z+1:=Y;generalize hs9:(s8.set t' cT.dead).new (.own 34 1 (D.length+m.length))=s9 at *;have hSb9:=(j.H S O).trans M;have hP9:=(j.H n O).trans hP7;have hF9:=(j.H c O).trans hF7;have hL9:=(j.H k O).trans hL7;have hN9:=(j.H I O).trans hN7;refine qD (VP (vs:=g.V) (S:=S) (pl:=n) ⟨⟨_,_,_,_,_,_,hSb9⟩,hP9⟩ O O hn h64 (D++m) s8.z hBv (by simp;omega)) Y ?_;rintro v s6 ⟨rfl,e6⟩;rw[e6];clear e6 s6;refine⟨fun _ l U=>?_,?_⟩
 .rw[bi]at U;grind
 have z1:¬c=s9.z:=O;have z2:¬S=s9.z:=O;have z3:¬S=s9.z+1:=O;have z4:¬s9.z=c:=O
 (apply bM;simp[hF9,hSb9,hFl,hFl7,z1,z2,z3,z4,n7,m1])
 refine⟨M.symm,⟨O,by unfold maxLen;omega⟩,s _ _ ?_⟩;clear s J;simp only[ak];have fC:jA g.V W++[LV.sl 0 (D.length+m.length) (List.map u D++List.map u m),wv (mk g.V (D++m))]=jA g.V (W++[D++m]):=by have:=RJ g.V W (D++m);simpa using this
 have hFl2:(W++[D++m]).length=h.F.length+1:=by rw[cb,hFl];rfl
 rw[fC,<- hFl2];clear fC;refine bz ?_;simp only[BA];have hs10:KM [S,k,c] st ((((s9.new (.own 144 2 1)).set c .dead).new (.box 144 2 (jA g.V (W++[D++m])))).set S (.box 136 7 [.sl 0 g.V.length (us g.V),.sl 0 g.E.length (eds g.E),.ms I 0 g.V.length,.mp n,.mp k,wv (mk g.V (h.on++w)),.ms (s9.z+1) 0 (W++[D++m]).length])):=by have:=(((hK5.keeps j).keeps (aC.new _ (.own 144 2 1))).set (q:=c) (.inr Y) .dead);exact(this.keeps (aC.new _ _)).set (.inr Y) _
 refine⟨trivial,s9.z+1,Q,⟨⟨Y,?_,?_,?_,hkey,?_⟩,?_,Y,?_,?_,O⟩,.inr O,hs10⟩
 ·(repeat (first|rw[ay aE]|rw[aA O]|rw[az bf]|rw[aB O]));omega
 ·(repeat (first|rw[ay aE]|rw[aA O]|rw[az bf]|rw[aB O]));omega
 ·(repeat (first|rw[ay aE]|rw[aA O]|rw[az bf]|rw[aB O]));omega
 .simp only[bP,aK];omega
 ·(repeat (first|rw[ay aE]|rw[aA O]|rw[az bf]|rw[aB O]))
 .intro r hr v x;rw[am,bi]at hr;rcases hr with hr|hr
  .exact hFs r hr v x
  .rw[hr]at x;exact hBv v x
 .intro v x;rw[am]at x;exact x.elim (d.onv v) (hwv v)
end Aw
end Go.Proofs.YtbgngpdonpeboaaGreatDoor
