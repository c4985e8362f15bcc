/- T3 at edges and at numbers: written by gentt.py. -/
import Derived.Test.YtbgngpdonpeboaaGreatDoorJe
set_option linter.unusedVariables false
set_option linter.unusedSimpArgs false
set_option linter.defProp false
set_option maxHeartbeats 4000000
open Go.Proofs.Tryz
namespace Go.Proofs.YtbgngpdonpeboaaGreatDoor
open Go Go.RowKit Pl Aw
open Aw.U
def Ar:(∀ ⦃l:List Ed⦄ (h:Ris l) ⦃j k:Nat⦄ (a:j<=k) (b:k<l.length),
 (l.getD j ed0).id<=(l.getD k ed0).id)/\(∀ ⦃l:List Nu⦄ (h:Ris l) ⦃j k:Nat⦄ (a:j<=k) (b:k<l.length),
 (l.getD j ed0).id<=(l.getD k ed0).id):=by
 refine⟨?_,?_⟩
 all_goals
  intro l h j k a b;rw[Du _ _ b,Du _ _ oO];rcases dC j k with c|c
  .exact fq.1 h j k oO b c
  grind
def Aw.jH:=Ar.1
def Aw.U.jH:=Ar.2
namespace Aw
structure Cut(A B:List Ed)(s e:Nat):Prop where
 hs:s<=A.length
 he:e<=B.length
 ab:s=0\/e=B.length\/(A.getD (s-1) ed0).id<=(B.getD e ed0).id
 ba:e=0\/s=A.length\/(B.getD (e-1) ed0).id<=(A.getD s ed0).id
end Aw
namespace Aw.U
structure Cut(A B:List Nu)(s e:Nat):Prop where
 hs:s<=A.length
 he:e<=B.length
 ab:s=0\/e=B.length\/(A.getD (s-1) ed0).id<=(B.getD e ed0).id
 ba:e=0\/s=A.length\/(B.getD (e-1) ed0).id<=(A.getD s ed0).id
end Aw.U
def Cut.leTwo:(∀ ⦃A B:List Ed⦄ (f:Ris A) (g:Ris B) ⦃s e:Nat⦄ (h:Cut A B s e),
 ∀ x∈A.take s++B.take e,∀ y∈A.drop s++B.drop e,x.id<=y.id)/\(∀ ⦃A B:List Nu⦄ (f:Ris A) (g:Ris B) ⦃s e:Nat⦄ (h:Cut A B s e),
 ∀ x∈A.take s++B.take e,∀ y∈A.drop s++B.drop e,x.id<=y.id):=by
 refine⟨?_,?_⟩
 all_goals
  intro A B f g s e h;intro x a y b;obtain⟨n,o,p,q⟩:=h;rw[an]at a b;rcases a with a|a<;>rcases b with b|b
  .obtain⟨j,c,rfl⟩:=eh a;obtain⟨k,d,rfl⟩:=eh b;simp only[dn,gk]at c d;rw[mj,oe];exact fq.1 f j (s+k) oO oO oO
  .obtain⟨j,c,rfl⟩:=eh a;obtain⟨k,d,rfl⟩:=eh b;simp only[dn,gk]at c d;rw[mj,oe];have l:=jH f (j:=j) (k:=s-1) oO oO;have m:=jH g (j:=e) (k:=e+k) oO oO
   grind
  .obtain⟨j,c,rfl⟩:=eh a;obtain⟨k,d,rfl⟩:=eh b;simp only[dn,gk]at c d;rw[mj,oe];have l:=jH g (j:=j) (k:=e-1) oO oO;have m:=jH f (j:=s) (k:=s+k) oO oO
   grind
  .obtain⟨j,c,rfl⟩:=eh a;obtain⟨k,d,rfl⟩:=eh b;simp only[dn,gk]at c d;rw[mj,oe];exact fq.1 g j (e+k) oO oO oO
def Aw.Cut.le:=Cut.leTwo.1
def Aw.U.Cut.le:=Cut.leTwo.2
def Cut.joinTwo:(∀ ⦃A B C D:List Ed⦄ (c:Ris A) (d:Ris B) ⦃s e:Nat⦄ (h:Cut A B s e) (a:C.Perm (A.take s++B.take e)) (b:D.Perm (A.drop s++B.drop e)) (f:Ris C) (g:Ris D),
 (C++D).Perm (A++B)/\Ris (C++D))/\(∀ ⦃A B C D:List Nu⦄ (c:Ris A) (d:Ris B) ⦃s e:Nat⦄ (h:Cut A B s e) (a:C.Perm (A.take s++B.take e)) (b:D.Perm (A.drop s++B.drop e)) (f:Ris C) (g:Ris D),
 (C++D).Perm (A++B)/\Ris (C++D)):=by
 refine⟨?_,?_⟩
 all_goals
  intro A B C D c d s e h a b f g;refine⟨?_,nc.2 ⟨f,g,fun x k y l=>h.le c d x (a.mem_iff.1 k) y (b.mem_iff.1 l)⟩⟩;refine(a.append b).trans ?_;have j:A++B=(A.take s++A.drop s)++(B.take e++B.drop e):=by rw[gd,gd]
  rw[j,dz,dz]
  grind [List.Perm.append_left,List.Perm.append_right,List.perm_append_comm]
def Aw.Cut.join:=Cut.joinTwo.1
def Aw.U.Cut.join:=Cut.joinTwo.2
open Go Go.RowKit Pl Aw
open Aw.U
namespace Aw
def GG(n h:Nat)(a:h=n / 2):Nr .u64 (n:Int) 1=(h:Int):=by
 show(n:Int).fdiv 2=(h:Int)
 grind
def zD(n:Nat)(a:n<=1000000):IntKind.u64.wrap (n:Int)=(n:Int):=by
 grind [IntKind.wrap,IntKind.bits]
end Aw
def MY:(∀(U W:List Ed) (j:Nat),
 (U++W).getD (U.length+j) ed0=W.getD j ed0)/\(∀(U W:List Nu) (j:Nat),
 (U++W).getD (U.length+j) ed0=W.getD j ed0):=by
 grind
def Aw.AM:=MY.1
def Aw.U.AM:=MY.2
def MJ:(∀(U W:List Ed) (j:Nat) (h:j<U.length),
 (U++W).getD j ed0=U.getD j ed0)/\(∀(U W:List Nu) (j:Nat) (h:j<U.length),
 (U++W).getD j ed0=U.getD j ed0):=by
 grind
def Aw.rM:=MJ.1
def Aw.U.rM:=MJ.2
namespace Aw
def KR(B:List Ed)(t:Nat)(h:t<B.length):B.drop t=B.getD t ed0::B.drop (t+1):=by simp_all
end Aw
namespace Aw.U
def KR(B:List Nu)(t:Nat)(h:t<B.length):B.drop t=B.getD t ed0::B.drop (t+1):=by simp_all
end Aw.U
namespace Aw
def Rr(B:List Ed)(t:Nat)(h:t<B.length):B.take (t+1)=B.take t++[B.getD t ed0]:=by simp_all
end Aw
namespace Aw.U
def Rr(B:List Nu)(t:Nat)(h:t<B.length):B.take (t+1)=B.take t++[B.getD t ed0]:=by simp_all
end Aw.U
namespace Aw
def Ef(P A B S:List Ed)(q:Nat)(b:St)(r:LV)(a:St):Prop:=∃ C,C.Perm (A++B)/\Ris C/\a.H q=.box 36 3 (eds (P++C++S))/\bR q b a
end Aw
namespace Aw.U
def Ef(P A B S:List Nu)(q:Nat)(b:St)(r:LV)(a:St):Prop:=∃ C,C.Perm (A++B)/\Ris C/\a.H q=.box 34 1 (eds (P++C++S))/\bR q b a
end Aw.U
def Bg:(∀ ⦃B:List Ed⦄ (c:Ris B) ⦃x:Ed⦄ ⦃k:Nat⦄ (d:k<=B.length) (a:∀ j,j<k->(B.getD j ed0).id<=x.id) (b:∀ j,k<=j->j<B.length->x.id<=(B.getD j ed0).id),
 Ris (B.take k++x::B.drop k))/\(∀ ⦃B:List Nu⦄ (c:Ris B) ⦃x:Nu⦄ ⦃k:Nat⦄ (d:k<=B.length) (a:∀ j,j<k->(B.getD j ed0).id<=x.id) (b:∀ j,k<=j->j<B.length->x.id<=(B.getD j ed0).id),
 Ris (B.take k++x::B.drop k)):=by
 refine⟨?_,?_⟩
 all_goals
  intro B c x k d a b;refine Fs (by simp_all) (fun y e=>?_) fun y e=>?_
  .grind [List.getElem_of_mem]
  .obtain⟨j,f,rfl⟩:=eh e;simp_all
def Aw.EU:=Bg.1
def Aw.U.EU:=Bg.2
def Lz:(∀(P:List Ed) (x:Ed) (B S:List Ed) (q L p m:Nat) (E:FuncId) (IQ:List LV) (N:St->Prop) (f:St) (I7:Aw.gW E IQ q N) (Q9:N f) (hq:q<f.z) (Y:Ris B) (hL:(P++x::B++S).length=L) (hl:L<=100000) (Q:P.length=p) (hm:m=p+1) (hH:f.H q=.box 36 3 (eds (P++x::B++S))),
 aB prog 162 [.ms q 0 L,i p,i m,i (m+B.length:Nat),.fn (.func E) IQ] f (Ef P [x] B S q f))/\(∀(P:List Nu) (x:Nu) (B S:List Nu) (q L p m:Nat) (E:FuncId) (IQ:List LV) (N:St->Prop) (f:St) (I7:Aw.U.gW E IQ q N) (Q9:N f) (hq:q<f.z) (Y:Ris B) (hL:(P++x::B++S).length=L) (hl:L<=100000) (Q:P.length=p) (hm:m=p+1) (hH:f.H q=.box 34 1 (eds (P++x::B++S))),
 aB prog 160 [.ms q 0 L,i p,i m,i (m+B.length:Nat),.fn (.func E) IQ] f (Ef P [x] B S q f)):=by
 refine⟨?_,?_⟩
 all_goals
  intro P x B S q L p m E IQ N f I7 Q9 hq Y hL hl Q hm hH;have hLl:L=p+(B.length+1)+S.length:=by rw[<- hL,<- Q];simp only[cf,List.length_cons]
  have T:IntKind.i64.wrap ((m:Int)-p)=1:=zW
  first|(have _:List Ed:=P;refine zN func162 ntmps162 [] ?_)|refine zN func160 ntmps160 [] ?_
  refine dd T ?_;refine qL (fun z g d=>∃ k v:Nat,k<=v/\v<=B.length/\z=v-k/\g 0=.ms q 0 L/\g 1=i p/\g 4=.fn (.func E) IQ/\g 10=i (m+k:Nat)/\g 11=i (m+v:Nat)/\(∀ j,j<k->(B.getD j ed0).id<x.id)/\(∀ j,v<=j->j<B.length->x.id<=(B.getD j ed0).id)/\d.H q=kn (P++x::B++S)/\bR q f d) B.length ?_ ?_
  .exact⟨0,B.length,oO,au _,rfl,sS,sS,sS,sS,sS,fun j h=>by omega,fun j h1 X=>by omega,hH,bR.refl _ _⟩
  rintro z g d ⟨k,v,hkv,hvB,rfl,I,V,f4,b,C,h1,X,A,D⟩ JJ e;have Z:=I7.keep _ _ Q9 D;have N9:q<d.z:=by have:=D.1;omega
  by_cases dF:k<v
  .obtain⟨s,hs⟩:∃ s:Nat,s=(m+k)+(m+v):=⟨_,rfl⟩;obtain⟨h,hh⟩:∃ h:Nat,m+h=s / 2:=⟨s / 2-m,oO⟩;have wA:IntKind.i64.wrap ((m:Int)+k+(m+v))=(s:Int):=zW;have wB:=zD s oO;obtain⟨w,hph⟩:∃ w:Nat,w=m+h:=⟨_,rfl⟩;have wC:=GG s w oO;have wD:IntKind.i64.wrap (w:Int)=(w:Int):=zW;have wE:IntKind.i64.wrap ((w:Int)+1)=((m+(h+1):Nat):Int):=zW;have g1:(P++x::B++S).getD p ed0=x:=by rw[dz];exact Es _ _ _ Q.symm
   have g2:(P++x::B++S).getD w ed0=B.getD h ed0:=by
    (first|rw[show P++x::B++S=(P++[x])++(B++S) by simp,show w=(P++[x]).length+h by simp;omega,Aw.AM,Aw.rM _ _ _ oO]|rw[show P++x::B++S=(P++[x])++(B++S) by simp,show w=(P++[x]).length+h by grind,Aw.U.AM,Aw.U.rM _ _ _ oO])
   have hgo:(B.getD h ed0).id<x.id->∀ j,j<h+1->(B.getD j ed0).id<x.id:=fun h3 j hj=>by have:=jH Y (j:=j) (k:=h) oO oO;omega
   have K2:¬(B.getD h ed0).id<x.id->∀ j,h<=j->j<B.length->x.id<=(B.getD j ed0).id:=fun h3 j hj hj2=>by have:=jH Y (j:=h) (k:=j) hj hj2;omega
   have o:=aJ (P++x::B++S);have R:=aS (P++x::B++S) p oO;have O:=aS (P++x::B++S) w oO;rw[g1]at R;rw[g2]at O;rw[hL]at o;have hfr:∀ UK F,F.H q=d.H q->bR q f F->UK 0=.ms q 0 L/\UK 1=i p/\UK 4=.fn (.func E) IQ->(((B.getD h ed0).id<x.id/\UK 10=i (m+(h+1):Nat)/\UK 11=i (m+v:Nat))\/(¬(B.getD h ed0).id<x.id/\UK 10=i (m+k:Nat)/\UK 11=i (m+h:Nat)))->JJ UK F:=by
    rintro UK F a k2 ⟨k3,k4,k5⟩ (⟨k6,k7,k8⟩|⟨k6,k7,k8⟩)
    .exact e (v-(h+1)) _ _ oO ⟨h+1,v,oO,hvB,rfl,k3,k4,k5,k7,k8,hgo k6,X,a.trans A,k2⟩
    .exact e (h-k) _ _ oO ⟨k,h,oO,oO,rfl,k3,k4,k5,k7,k8,h1,K2 k6,a.trans A,k2⟩
   clear e hgo K2 h1 X;have hcm:=I7.call d (B.getD h ed0) x Z;have K3:=rF (B.getD h ed0) x;generalize hy:B.getD h ed0=y at *;generalize hc:P++x::B++S=c at *;generalize tI y x=cv at *;have hA4:w<L:=oO;have hB4:p<L:=oO;have hkv':(m:Int)+k<m+v:=oO;refine kk b C hkv' dF wA wB wC wD ?_
   (refine zS [] [q] [0,2,4,6,8,10,12,14,16,19,20] ?_;intro J hJ;simp[I,V,f4,A,R,O,o];(repeat refine ca ?_))
   refine aO hcm ?_;rintro r s4 ⟨rfl,M0⟩;have n:=M0.H q N9;refine⟨fun _=>by simp[n,A],?_⟩;by_cases M6:y.id<x.id
   .have K:cv<0:=by rw[nm M6]at K3;exact nj K3
    (apply bM;simp[K,n,A];refine zJ hJ ?_)
    refine dd wE ?_;exact hfr _ _ n (D.keeps M0) ⟨aa I,aa V,aa f4⟩ (.inl ⟨M6,sS,aa C⟩)
   .have K:¬cv<0:=by rw[ls M6]at K3;exact qp K3
    (apply bM;simp[K,n,A];refine zJ hJ ?_)
    refine bz ?_;exact hfr _ _ n (D.keeps M0) ⟨aa I,aa V,aa f4⟩ (.inr ⟨M6,aa b,aa hph⟩)
  clear e;obtain rfl:k=v:=oO;have hR:=EU Y hvB (fun j hj=>by grind) X;clear h1 X;have wF:IntKind.i64.wrap ((m:Int)+k-1)=((p+k:Nat):Int):=zW;refine fk V b C ?_;refine qL (fun z g F=>∃ t:Nat,t<=k/\z=k-t/\g 0=.ms q 0 L/\g 10=i (m+k:Nat)/\g 13=i (p+t:Nat)/\F.H q=kn (P++B.take t++x::(B.drop t++S))/\bR q f F) k ?_ ?_
  .exact⟨0,oO,oO,by simp_all,by simp_all,sS,by grind,D⟩
  clear I V f4 b C A D Z N9 g d;rintro z g d ⟨t,C4,rfl,I,b,W,A,D⟩ JJ e;by_cases dF:t<k;rotate_left
  .clear e;obtain rfl:t=k:=oO;have v8:¬((p:Int)+t<p+t):=oO;refine ef b W wF v8 ?_;refine⟨_,?_,hR,by grind,D⟩
   grind [List.perm_middle,List.take_append_drop]
  have I9:(p:Int)+t<p+k:=oO;have hce:P++B.take t++x::(B.drop t++S)=(P++B.take t)++x::B.getD t ed0::(B.drop (t+1)++S):=by rw[KR B t oO];simp
  have hUl:(P++B.take t).length=p+t:=by simp[Q];omega
  have M:(((P++B.take t)++x::B.getD t ed0::(B.drop (t+1)++S)).set (p+t) (B.getD t ed0)).set (p+t+1) x=P++B.take (t+1)++x::(B.drop (t+1)++S):=by rw[PI _ _ _ _ hUl.symm];rw[show(P++B.take t)++B.getD t ed0::B.getD t ed0::(B.drop (t+1)++S)=(P++B.take t++[B.getD t ed0])++B.getD t ed0::(B.drop (t+1)++S) by simp];rw[PI _ _ _ _ (by grind),Rr B t oO];simp
  have g1:=Es (P++B.take t) x (B.getD t ed0::(B.drop (t+1)++S)) (j:=p+t) hUl.symm;have g2:((P++B.take t)++x::B.getD t ed0::(B.drop (t+1)++S)).getD (p+t+1) ed0=B.getD t ed0:=by rw[show(P++B.take t)++x::B.getD t ed0::(B.drop (t+1)++S)=(P++B.take t++[x])++B.getD t ed0::(B.drop (t+1)++S) by simp];exact Es _ _ _ (by simp[Q];omega)
  have r8:((P++B.take t)++x::B.getD t ed0::(B.drop (t+1)++S)).length=L:=by rw[<- hce];simp only[cf,List.length_cons,dn,gk];omega
  rw[hce]at A;generalize B.getD t ed0=y at *;generalize hc:(P++B.take t)++x::y::(B.drop (t+1)++S)=c at *;obtain⟨a,o6⟩:∃ a:Nat,a=p+t:=⟨_,rfl⟩;rw[<- o6]at g1 g2 M;have o:=aJ c;have R:=aS c a oO;have O:=aS c (a+1) oO;rw[g1]at R;rw[g2]at O;rw[r8]at o;have wG:IntKind.i64.wrap ((a:Int)+1)=((a+1:Nat):Int):=zW;have wG':IntKind.i64.wrap ((a:Int)+1)=(a:Int)+1:=vX _ oO oO;have hk1':(p:Int)+t=(a:Int):=oO;have l:g 13=i a:=by rw[W,o6]
  have hA4:a+1<L:=oO;have hB4:a<L:=oO;rw[hk1']at I9;refine ef b l wF I9 ?_
  (refine zS [] [q] [0,2,4,6,8,10,12,14,16,18,20,22,24,26,28,31,32,35] ?_;intro J hJ;simp[I,l,A,R,O,o,r8,wG'];(repeat refine ca ?_);refine zJ hJ ?_)
  have T:=jI c a y oO;have e2:=jI (c.set a y) (a+1) x (by grind)
  first|rw[T,e2,M,St.set_set]|(rw[O]at T;rw[T,e2,M,St.set_set])
  refine cy l wG' ?_;exact e (k-(t+1)) _ _ oO ⟨t+1,oO,rfl,aa I,aa b,by simp;omega,sS,D.set _⟩
def Aw.Ys:=Lz.1
def Aw.U.Ys:=Lz.2
end Go.Proofs.YtbgngpdonpeboaaGreatDoor
