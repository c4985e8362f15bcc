/- Maps, made of turns: Of; the law RotMakes. -/
import Derived.Test.YtbgngpdonpeboaaGreatDoorJb
set_option linter.defProp false
set_option linter.unusedVariables false
set_option linter.unusedSimpArgs false
set_option maxHeartbeats 2000000
open Go.Proofs.Tryz
namespace Go.Proofs.YtbgngpdonpeboaaGreatDoor
namespace Aw
open Go Go.RowKit Pl
def Ck(e s:Nat){P:Program}{f:FuncId}{args:List LV}{y:St}{Q:LV->St->Prop}(b:List LV)
 (h:aB P f args y fun r a=>∃ c,r=.ag (b++[c])/\((c=.nil/\Q (.ag (b++[.sl 0 0 []])) a)\/∃ l n k,c=.ms l 0 n/\a.H l=.box e s k/\n*s<=k.length/\Q (.ag (b++[.sl 0 n (k.take (n*s))])) (a.set l .dead))):aB P f args y Q:=by
 refine⟨h.1,fun w g K B E=>(h.2 w g K B E).mono ?_⟩;rintro x L ⟨v,r,a,p,rfl,⟨c,rfl,A⟩,J5,K7,he⟩;simp only[Rep]at J5;obtain⟨d,rfl,o⟩:=J5;obtain⟨J,M,z⟩:=nK b d o;rcases A with⟨rfl,m⟩|⟨l,n,k,rfl,C,D,m⟩
 .refine⟨_,_,a,p,rfl,m,?_,K7,he⟩
  grind [Rep,Ext.refl]
 .obtain⟨q,F,I,t⟩:=iH (fr:=cY (fun _=>.dead) 0 (.ms l 0 n)) 0 rfl C D { tmps:=#[J],defers:=[] } L p K7 (by
   intro j;unfold cY;by_cases N:j=0
   .simp_all
   grind [Rep])
  refine⟨_,_,_,q,rfl,m,?_,F,he.trans t⟩;simp only[Rep];exact⟨d,rfl,z q _ t (I 0)⟩
def Bu(a:List AN)(k:Nat)(b:k<a.length):gM (a.take (k+1))=gM (a.take k)++[.sl 0 (a[k]).length (us a[k])]:=by
 grind [List.take_succ_eq_append_getElem]
def Xb(g:Gr)(q:Nat)(W:List (AN×LV))(l:Int->AN)(s:St)(hv:g.V.length<=1000)(he:g.E.length<=1000)(hq:q<s.z)(hM:s.H q=.map false [.u32] W)
 (ht:∀ v∈g.V,∃ x t,(bQ W [v]).getD .nil=x/\norm x=.sl t (l v).length (us (l v))/\(l v).length<=1000):
 aB prog 67 [.ag (bv g),.mp q] s fun r st'=>r=.ag (pu ⟨g,g.V.map fun v=>ev (l v)⟩)/\aA s st':=by
 refine Ck 22 1 (bv g) ?_;refine zN func67 ntmps67 [.cell 4 28] ?_
 (refine eu ?_;intro J d)
 refine qE (copied g _ oO oO) sS ?_;rintro r a ⟨rfl,U⟩;have K5:=U.z;simp only[aH]at K5;have Y8:a.H s.z=.box 25 2 (bv g):=by rw[U.H _ (by simp;omega)];simp
 have hM1:a.H q=.map false [.u32] W:=by rw[U.H q (by simp;omega),cB,ac (by simp;omega),cB,ac oO,hM]
 have hR1:a.H (s.z+1)=.box 28 3 [.nil,.nil,.nil]:=by rw[U.H _ sS];simp
 have ne1:¬s.z=a.z:=oO;refine vY d Y8 ne1 ?_;refine qL (fun n B b=>∃ k:Nat,k<=g.V.length/\n=g.V.length-k/\B 1=.mp q/\B 4=.pt (s.z+1) 0/\B 5=.pt a.z 0/\B 12=.sl 0 g.V.length (us g.V)/\B 13=i g.V.length/\B 14=i k/\aA a b/\a.z<b.z/\∃ c,b.H a.z=.box 28 3 (bv g++[c])/\((k=0/\c=.nil)\/∃ z,c=.ms z 0 k/\a.z<z/\z<b.z/\b.H z=.box 22 1 (gM ((g.V.map fun v=>ev (l v)).take k)))) g.V.length ?_ ?_
 .exact⟨0,oO,oO,sS,sS,sS,sS,sS,sS,aA.new _ _,sS,.nil,sS,.inl ⟨rfl,rfl⟩⟩
 rintro n B b ⟨k,hk,rfl,K,X,m,e,f,h,L,O5,c,w,P⟩ JJ M;have A:b.H q=.map false [.u32] W:=by rw[L.H q oO];exact hM1
 by_cases dF:k<g.V.length
 .have Y:=qG g.V k dF;have hw:=qN k oO;have Q:g.V.getD k 0∈g.V:=by rw[bA _ _ dF];exact dq dF
  obtain⟨x,t,S,V8,hx3⟩:=ht _ Q;have j5:=Bu (g.V.map fun v=>ev (l v)) k (by grind);have hrk:(g.V.map fun v=>ev (l v))[k]'(by grind)=ev (l (g.V.getD k 0)):=by simp[dF]
  rw[hrk,nW]at j5;generalize hvv:g.V.getD k 0=v at *;have U5:¬q=a.z:=oO;have ne2:¬a.z=b.z:=oO;have ne3:¬q=b.z:=by have:=L.z;omega
  rcases P with⟨rfl,rfl⟩|⟨z,rfl,hz1,hz2,Z⟩
  ·(repeat' (first|apply qS|(refine zE ?_;intro J d;simp[e,f,h,dF,Y];(refine zJ d ?_;clear d J))))
   (apply qC;simp[])
   (repeat' (first|apply qS|apply qB|refine qK (zZ ?_)|(refine zE ?_;intro J d;simp[K,m,e,f,h,dF,Y];(refine zJ d ?_;clear d J))))
   (refine zS [25] [a.z,q] [0,2,4,6,8,10,12,14,16,19] ?_;intro J d;simp[K,m,w,A,S,U5])
   refine qD (RD (l v) t _ (by grind [small])) (by grind) ?_;rintro r j ⟨rfl,y⟩;have o:=(y.H a.z oO).trans w;have p:=(y.H q oO).trans A;have hn3:=y.z;have C:¬a.z=j.z:=oO;have D:¬a.z=j.z+1:=oO;have F:¬q=j.z+1:=oO;have I:¬q=j.z:=oO;refine⟨fun _=>by simp[o,p,w,A],?_⟩
   (apply bM;simp[m,o,p,w,A,C,D,F,I];(repeat refine ca ?_);(refine zJ d ?_;clear d J))
   have P6:IntKind.i64.wrap 1=1:=by decide
   refine ef m h hw P6 ?_;refine M (g.V.length-1) _ _ oO ⟨1,oO,rfl,aa K,aa X,aa m,aa e,aa f,sS,(((L.trans y).trans (aA.new _ _)).trans (aA.new _ _)).set (au _) _,by simp;omega,.ms (j.z+1) 0 1,sS,.inr ⟨j.z+1,rfl,oO,sS,?_⟩⟩;rw[j5,bP,ac oO];simp
  .generalize hR:gM ((g.V.map fun v=>ev (l v)).take k)=R at *;have hzl:R.length=k:=by rw[<- hR];simp;omega
   (repeat' (first|apply qS|(refine zE ?_;intro J d;simp[e,f,h,dF,Y];(refine zJ d ?_;clear d J))))
   (apply qC;simp[])
   (repeat' (first|apply qS|apply qB|refine qK (zZ ?_)|(refine zE ?_;intro J d;simp[K,m,e,f,h,dF,Y];(refine zJ d ?_;clear d J))))
   (refine zS [25] [a.z,q] [0,2,4,6,8,10,12,14,16,19] ?_;intro J d;simp[K,m,w,A,S,U5])
   refine qD (RD (l v) t _ (by grind [small])) (by grind) ?_;rintro r j ⟨rfl,y⟩;have o:=(y.H a.z oO).trans w;have p:=(y.H q oO).trans A;have hz3:=(y.H z oO).trans Z;have hn3:=y.z;have C:¬a.z=j.z:=oO;have D:¬a.z=j.z+1:=oO;have F:¬q=j.z+1:=oO;have I:¬q=j.z:=oO;have ne8:¬a.z=z:=oO;have ne9:¬z=j.z:=oO;have T:¬q=z:=oO;have C4:R.take k=R:=dp oO;refine⟨fun _=>by simp[o,p,w,A],?_⟩
   (apply bM;simp[m,o,p,w,A,C,D,F,I,ne8,ne9,T,hz3,hzl,C4];(repeat refine ca ?_);(refine zJ d ?_;clear d J))
   refine fk m h hw ?_;refine M (g.V.length-(k+1)) _ _ oO ⟨k+1,oO,rfl,aa K,aa X,aa m,aa e,aa f,sS,((((L.trans y).trans (aA.new _ _)).set oO _).trans (aA.new _ _)).set (au _) _,by simp;omega,.ms (j.z+1) 0 (k+1),sS,.inr ⟨j.z+1,rfl,oO,sS,?_⟩⟩;rw[j5,bP,ac oO];simp
 .have R7:k=g.V.length:=oO;have hBR:¬a.z=s.z+1:=oO;have O:=(L.H (s.z+1) oO).trans hR1;have N:aA s b:=(((aA.new _ _).trans (aA.new _ _)).trans U).trans L;rcases P with⟨h0,rfl⟩|⟨z,rfl,hz1,hz2,Z⟩
  .refine kk e f h dF X m w O ?_;exact⟨⟨oO,oy.mp oO⟩,N.set oO _⟩
  .refine kk e f h dF X m w O ?_;have hmm:(g.V.map fun v=>ev (l v)).take k=g.V.map fun v=>ev (l v):=dp (by grind);rw[hmm]at Z;exact⟨z,k,⟨rfl,rfl⟩,_,by rw[ac oO,Z],by grind,⟨R7,by grind [List.take_of_length_le]⟩,(N.set oO _).set oO _⟩
def iF{P:Program}{N:Nat}{Q:AQ}{c:Code}{d:af}{b:St}(h:0<b.z->bq P N c Q d b):bq P N c Q d b:=
 fun a w g e j k f=>h e.pos a w g e j k f
def Fw(v:Int)(x:Ed):AN:=(if x.a=v then [2*x.id]else [])++(if x.b=v then [2*x.id+1]else [])
def ends(a:List Ed)(v:Int):AN:=a.flatMap (Fw v)
def Jn(f:Ed->AN)(l:List Ed)(k:Nat)(a:k<l.length):(l.take (k+1)).flatMap f=(l.take k).flatMap f++f (l.getD k ed0):=by rw[eL a,nh,cp,cg a];simp
def Ro(v:Int)(x:Ed):(Fw v x).length<=2:=by unfold Fw;split<;>split<;>simp
def Bh(f:Ed->AN)(hf:∀ x,(f x).length<=2)(l:List Ed):(l.flatMap f).length<=2*l.length:=by
 induction l with
 |nil=>simp
 |cons x l a=>have:=hf x;simp only[ec,cf,List.length_cons];omega
def G6(a:List Ed):Prop:=∀ x∈a,0<=x.id/\x.id<=1048576
def wrap_u32'(n:Int)(a:0<=n)(b:n<4294967296):IntKind.u32.wrap n=n:=by rw[wrap_u32];omega
def ze(id e:Int)(b:St)(d:0<=id)(f:id<=1048576)(g:e=0\/e=1):aB prog 93 [u id,i e] b fun r a=>r=u (2*id+e)/\a=b:=by refine(Of id e b).mono ?_;rintro r a ⟨rfl,rfl⟩;refine⟨?_,rfl⟩;have c:id*2 % 4294967296+e % 2=2*id+e:=oO;rw[c]
def xJ(v:Int)(x:Ed):AN:=(if x.a=v then [x.b]else [])++(if x.b=v then [x.a]else [])
def nbr(a:List Ed)(v:Int):AN:=a.flatMap (xJ v)
def Gv(v:Int)(x:Ed):(xJ v x).length<=2:=by unfold xJ;split<;>split<;>simp
def JH(d m:Nat)(b:List (AN×LV))(c:St)(f:Int->AN)(a:Int->Nat):Prop:=
 ∀ v,(a v=0->f v=[]/\bQ b [v]=none)/\(a v≠0->bQ b [v]=some (.sl (a v) (f v).length (us (f v)))/\d<=a v/\a v<c.z/\a v≠m/\c.H (a v)=.own 34 1 (f v).length/\∀ w,a w=a v->w=v)
def JH.step{q m:Nat}{s:List (AN×LV)}{g c:St}{f:Int->AN}{b:Int->Nat}(h:JH q m s g f b)(a x:Int)(N:Nat)(K:g.z<=N)(p:N<c.z)(L:m<g.z)(J:0<g.z)(C:q<=g.z)
 (A:∀ l,l≠b a->l≠m->l<g.z->c.H l=g.H l) (B:c.H N=.own 34 1 ((f a).length+1)):
 JH q m (bV s [a] (.sl N ((f a).length+1) (us (f a++[x])))) c (fun v=>if v=a then f a++[x]else f v) (fun v=>if v=a then N else b v):=by
 intro v;by_cases o:v=a
 .subst o;simp only[dE];refine⟨fun d=>by omega,fun _=>⟨by rw[jD];simp,oO,p,oO,by rw[B];simp,fun w j=>?_⟩⟩;by_cases n:w=v
  .exact n
  .rw[ac n]at j;by_cases d:b w=0
   .omega
   .have:=((h w).2 d).2.2.1;omega
 .simp only[ac o];have r:¬([v]:AN)=[a]:=by simpa using o
  refine⟨fun d=>⟨((h v).1 d).1,by rw[jD,ac r];exact((h v).1 d).2⟩,fun d=>?_⟩;obtain⟨D,E,F,t,I,y⟩:=(h v).2 d;refine⟨by rw[jD,ac r];exact D,E,oO,t,?_,fun w j=>?_⟩
  .rw[A (b v) (fun e=>o (y a e.symm).symm) t F];exact I
  .by_cases k:w=a
   .subst k;simp only[dE]at j;omega
   .rw[ac k]at j;exact y w j
def KW(a:List (AN×LV))(f:Int->AN):Prop:=∀ v,∃ t,norm ((bQ a [v]).getD .nil)=.sl t (f v).length (us (f v))
def Yp(h m:Nat)(j:St)(l:List Ed)(k:Nat)(id a b:Int)(f:Int->AN)(d:af)(c:St):Prop:=
 d 3=.mp (m)/\d 8=.sl 0 l.length (eds l)/\d 9=i l.length/\d 10=i k/\aA j c/\m<c.z/\(∃ q,d 5=.pt q 0/\c.H q=.box 36 3 [u id,u a,u b]/\q<c.z)/\∃ g e,c.H (m)=.map false [.u32] g/\JH h m g c f e
def near(g:Gr)(P:St)(he:g.E.length<=1000):
 aB prog 45 [.ag (bv g)] P fun r st'=>∃ m K,r=.mp m/\P.z<=m/\m<st'.z/\st'.H m=.map false [.u32] K/\aA P st'/\KW K (nbr g.E):=by
 obtain⟨vs,l⟩:=g;simp only at he ⊢;have hel:=aJ l;have X7:=fun v k=>Bh (xJ v) (Gv v) (l.take k);refine zN func45 ntmps45 [.tmp 2] ?_;refine bz ?_;refine iF fun P4=>?_;obtain⟨m,hm⟩:∃ m,m=P.z+1:=⟨_,rfl⟩;refine qL (fun n W c=>∃ k:Nat,k<=l.length/\n=l.length-k/\W 3=.mp m/\W 8=.sl 0 l.length (eds l)/\W 9=i l.length/\W 10=i k/\aA P c/\m<c.z/\∃ K d,c.H m=.map false [.u32] K/\JH P.z m K c (nbr (l.take k)) d) l.length ?_ ?_
 .exact⟨0,oO,oO,aa hm,sS,sS,sS,(aA.new _ _).trans (aA.new _ _),aa hm,[],fun _=>0,aa hm,fun v=>⟨fun _=>⟨by simp[nbr],rfl⟩,fun h=>absurd rfl h⟩⟩
 rintro n W c ⟨k,hk,rfl,B,V,N,o,s,p,K,d,O,w⟩ JJ L;by_cases dF:k<l.length;rotate_left
 .clear L;have J9:k=l.length:=oO;rw[J9,gm]at w;refine ef B N o dF ?_;refine⟨oO,p,K,O,s,fun v=>?_⟩;by_cases I:d v=0
  .obtain⟨t,X⟩:=(w v).1 I;exact⟨0,by rw[t,X];rfl⟩
  .obtain⟨t,-⟩:=(w v).2 I;exact⟨d v,by rw[t];rfl⟩
 have hd:=aS l k dF;have hw:=qN k oO;have u9:k*3<l.length*3:=oO;have K2:∀ v,nbr (l.take (k+1)) v=nbr (l.take k) v++xJ v (l.getD k ed0):=fun v=>Jn _ _ _ dF;have v7:∀ v,(nbr (l.take k) v).length<=2*k:=fun v=>by have:=X7 v k;rw[dn]at this;unfold nbr;omega
 generalize hx:l.getD k ed0=x at *;obtain⟨id,a,b⟩:=x;simp only at hd;generalize hF:nbr (l.take k)=f at *;refine kj V N o dF hd hel ?_;have y:¬m=c.z:=oO;have D:¬c.z=m:=oO;have Z:¬m=c.z+1:=oO;have j:¬m=c.z+1+1:=oO;have N0:¬c.z=c.z+1+1:=oO;refine bW (Yp P.z m P l k id a b (fun v=>if v=a then f a++[b]else f v)) ?_ ?_
 .clear L;have hla:=v7 a;by_cases I:d a=0
  .obtain⟨t,X⟩:=(w a).1 I
   (refine zS [] [c.z,m] [0,2,4,6,8,10,12,14,16,18,20,23] ?_;intro J Y;simp[B,O,X,y,D,Z,j,N0];(repeat refine ca ?_);refine zJ Y ?_)
   refine⟨by trivial,?_⟩;have e:LV.sl (c.z+1+1) ((f a).length+1) (us (f a++[b]))=.sl (c.z+1+1) 1 [u b]:=by rw[t];rfl
   refine⟨aa B,aa V,aa N,aa o,(by repeat (first|exact s|(refine aA.trans ?_ (aA.new _ _))|(refine aA.set ?_ (by have:=s.z;omega) _))),by simp;omega,⟨c.z,sS,dg D N0,by simp;omega⟩,_,fun v=>if v=a then c.z+1+1 else d v,by simp;rfl,?_⟩;rw[<- e];refine w.step a b (c.z+1+1) oO sS p oO (by have:=s.z;omega) (fun l T U e3=>?_) (by rw[t];simp[fD j]);have R:¬l=c.z:=oO;have S:¬l=c.z+1:=oO;have a3:¬l=c.z+1+1:=oO;simp[R,S,a3,T,U]
  .obtain⟨t,X,h3,h4,h5,h6⟩:=(w a).2 I;have ht1:¬d a=c.z:=oO;have M:¬c.z=d a:=oO;have ht3:¬d a=c.z+1:=oO;have ht4:¬m=d a:=fun h=>h4 h.symm
   (refine zS [] [c.z,m] [0,2,4,6,8,10,12,14,16,18,20,23] ?_;intro J Y;simp[B,O,t,h5,I,y,D,Z,j,N0,ht1,M,ht3,ht4];(repeat refine ca ?_);refine zJ Y ?_)
   refine⟨by trivial,?_⟩;have e:LV.sl (c.z+1+1) ((f a).length+1) (us (f a++[b]))=.sl (c.z+1+1) ((f a).length+1) (us (f a)++[u b]):=sS;refine⟨aa B,aa V,aa N,aa o,(by repeat (first|exact s|(refine aA.trans ?_ (aA.new _ _))|(refine aA.set ?_ (by have:=s.z;omega) _))),by simp;omega,⟨c.z,sS,gv D N0 M,by simp;omega⟩,_,fun v=>if v=a then c.z+1+1 else d v,by simp;rfl,?_⟩;rw[<- e];refine w.step a b (c.z+1+1) oO sS p oO (by have:=s.z;omega) (fun l T U e3=>?_) (by simp[fD j]);have R:¬l=c.z:=oO;have S:¬l=c.z+1:=oO;have a3:¬l=c.z+1+1:=oO;simp[R,S,a3,T,U]
 clear B V N o s p O w y D Z j N0 d K c W;rintro W c ⟨B,V,N,o,s,p,⟨q,f5,hq,U5⟩,K,d,O,w⟩;generalize hf2:(fun v=>if v=a then f a++[b]else f v)=A at *;have hle2:(A b).length<=2*k+1:=by
  rw[<- hf2];simp only
  split
  .have:=v7 a;simp;omega
  .have:=v7 b;omega
 have hfin:∀ v,nbr (l.take (k+1)) v=(if v=b then A b++[a]else A v):=by
  intro v;rw[K2 v,<- hf2];unfold xJ;simp only;by_cases F:v=a
  .subst F;by_cases Q:v=b
   .subst Q;simp
   .simp[Q,fD Q]
  .by_cases Q:v=b
   .subst Q;simp[F,fD F]
   .simp[F,Q,fD F,fD Q]
 have C:nbr (l.take (k+1))=fun v=>if v=b then A b++[a]else A v:=funext hfin
 have y:¬m=c.z:=oO;have j:¬m=c.z+1:=oO;have N9:¬q=c.z:=oO;have hqm:¬q=m:=fun h=>by rw[h,O]at hq;cases hq
 by_cases I:d b=0
 .obtain⟨t,X⟩:=(w b).1 I
  (refine zS [] [q,m] [0,2,4,6,8,10,12,14,16,18,20,23] ?_;intro J Y;simp[B,f5,hq,O,X,y,j,N9,hqm];(repeat refine ca ?_);refine zJ Y ?_)
  refine cy o hw ?_;have e:LV.sl (c.z+1) ((A b).length+1) (us (A b++[a]))=.sl (c.z+1) 1 [u a]:=by rw[t];rfl
  refine L (l.length-(k+1)) _ _ oO ⟨k+1,oO,rfl,aa B,aa V,aa N,sS,(by repeat (first|exact s|(refine aA.trans ?_ (aA.new _ _))|(refine aA.set ?_ (by have:=s.z;omega) _))),by simp;omega,_,fun v=>if v=b then c.z+1 else d v,by simp;rfl,?_⟩;rw[<- e,C];refine w.step b a (c.z+1) oO sS p oO (by have:=s.z;omega) (fun l T U e3=>?_) (by rw[t];simp[fD j]);have R:¬l=c.z:=oO;have S:¬l=c.z+1:=oO;simp[R,S,T,U]
 .obtain⟨t,X,h3,h4,h5,h6⟩:=(w b).2 I;have ht1:¬d b=c.z:=oO;have M:¬c.z=d b:=oO;have ht4:¬m=d b:=fun h=>h4 h.symm;have ht5:¬q=d b:=fun h=>by rw[h,h5]at hq;cases hq
  (refine zS [] [q,m] [0,2,4,6,8,10,12,14,16,18,20,23] ?_;intro J Y;simp[B,f5,hq,O,t,h5,I,y,j,N9,hqm,ht1,M,ht4,ht5];(repeat refine ca ?_);refine zJ Y ?_)
  refine cy o hw ?_;have e:LV.sl (c.z+1) ((A b).length+1) (us (A b++[a]))=.sl (c.z+1) ((A b).length+1) (us (A b)++[u a]):=sS;refine L (l.length-(k+1)) _ _ oO ⟨k+1,oO,rfl,aa B,aa V,aa N,sS,(by repeat (first|exact s|(refine aA.trans ?_ (aA.new _ _))|(refine aA.set ?_ (by have:=s.z;omega) _))),by simp;omega,_,fun v=>if v=b then c.z+1 else d v,by simp;rfl,?_⟩;rw[<- e,C];refine w.step b a (c.z+1) oO sS p oO (by have:=s.z;omega) (fun l T U e3=>?_) (by simp[fD j]);have R:¬l=c.z:=oO;have S:¬l=c.z+1:=oO;simp[R,S,T,U]
theorem KW.cases{b:List (AN×LV)}{f:Int->AN}(h:KW b f)(v:Int):((bQ b [v]).getD .nil=.nil/\f v=[])\/∃ t,(bQ b [v]).getD .nil=.sl t (f v).length (us (f v)):=by
 obtain⟨t,a⟩:=h v;cases c:(bQ b [v]).getD .nil with
 |nil=>rw[c]at a;left;refine⟨rfl,?_⟩;simp only[norm,LV.sl.injEq]at a;exact gI a.2.1.symm
 |_=>rw[c]at a;simp[norm]at a<;>exact .inr ⟨t,aa a⟩
def alone(g:Gr):Nat:=g.V.countP fun v=>decide (nbr g.E v=[])
inductive Reach(es:List Ed)(v:Int):Int->Prop
 |refl:Reach es v v
 |step {u w:Int} (h:Reach es v u) (hw:w∈nbr es u):Reach es v w
theorem cN{c:List Ed}{u w:Int}:w∈nbr c u↔∃ x∈c,(x.a=u/\x.b=w)\/(x.b=u/\x.a=w):=by
 grind [nbr,xJ]
def lA{a:List Ed}{u w:Int}(h:w∈nbr a u):u∈nbr a w:=by
 grind [cN]
def Reach.trans{a:List Ed}{u v w:Int}(h:Reach a u v)(k:Reach a v w):Reach a u w:=by
 induction k with
 |refl=>exact h
 |step _ b c=>exact .step c b
def Reach.symm{es:List Ed}{u v:Int}(h:Reach es u v):Reach es v u:=by
 induction h with
 |refl=>exact .refl
 |step _ hw ih=>exact Reach.trans (.step .refl (lA hw)) ih
def Reach.closed{a:List Ed}{v w:Int}{L:Int->Prop}(h:Reach a v w)(c:L v)(b:∀ u,L u->∀ w∈nbr a u,L w):L w:=by
 induction h with
 |refl=>omega
 |step _ d e=>grind
structure Good(g:Gr):Prop where
 rise:g.V.Pairwise (· < ·)
 ends:∀ x∈g.E,x.a∈g.V/\x.b∈g.V
theorem Good.nbr{g:Gr}(h:Good g){u w:Int}(a:w∈nbr g.E u):w∈g.V:=by
 rw[cN]at a;obtain⟨x,b,⟨_,rfl⟩|⟨_,rfl⟩⟩:=a
 .exact(h.ends x b).2
 .exact(h.ends x b).1
def Good.reach{g:Gr}(h:Good g){v w:Int}(c:v∈g.V)(a:Reach g.E v w):w∈g.V:=by
 cases a with
 |refl=>omega
 |step _ b=>exact h.nbr b
def Good.nodup{g:Gr}(h:Good g):g.V.Nodup:=h.rise.imp fun h=>by omega
def Kc(g:Gr)(v:Int)(c:AN):Prop:=c.Pairwise (· < ·)/\∀ w,w∈c↔w∈g.V/\Reach g.E v w
def UN{g:Gr}(h:Good g){v:Int}(k:v∈g.V){L c:AN}(f:L.Nodup)(e:∀ w,w∈L↔Reach g.E v w)(d:c.Perm L)(j:c.Pairwise (·<=·)):Kc g v c:=by
 have b:c.Nodup:=d.nodup_iff.2 f;refine⟨?_,fun w=>?_⟩
 .refine(sT j b).imp ?_;omega
 .rw[d.mem_iff,e];exact⟨fun a=>⟨h.reach k a,a⟩,fun a=>a.2⟩
def Seen(g:Gr)(k:Nat)(w:Int):Prop:=∃ u∈g.V.take k,Reach g.E u w
def Seen.reach{g:Gr}{k:Nat}{u w:Int}(h:Seen g k u)(a:Reach g.E u w):Seen g k w:=by obtain⟨x,b,c⟩:=h;exact⟨x,b,c.trans a⟩
def vU{g:Gr}{k:Nat}(a:k<g.V.length){w:Int}:Seen g (k+1) w↔Seen g k w\/Reach g.E (g.V.getD k 0) w:=by
 grind [Seen,List.take_succ_eq_append_getElem]
theorem DP{g:Gr}{k:Nat}(a:k<g.V.length)(b:Seen g k (g.V.getD k 0)){w:Int}:Seen g (k+1) w↔Seen g k w:=by rw[vU a];exact⟨fun h=>h.elim id b.reach,.inl⟩
inductive cT(g:Gr):Nat->List (List Int)->Prop
 |zero:cT g 0 []
 |seen {k:Nat} {R:List (List Int)} (h:cT g k R) (hk:k<g.V.length) (hs:Seen g k (g.V.getD k 0)):cT g (k+1) R
 |lead {k:Nat} {R:List (List Int)} {c:List Int} (h:cT g k R) (hk:k<g.V.length) (hs:¬Seen g k (g.V.getD k 0)) (hc:Kc g (g.V.getD k 0) c):cT g (k+1) (R++[c])
def cT.len{g:Gr}{k:Nat}{R:List AN}(h:cT g k R):R.length<=k:=by
 induction h with
 |zero=>simp
 |seen _ _ _ ih=>omega
 |lead _ _ _ _ ih=>grind
structure Fe(g:Gr)(n:Nat)(v:Int)(L:AN)(k:Nat):Prop where
 nodup:L.Nodup
 reach:∀ w∈L,Reach g.E v w
 mem:v∈L
 done:∀ u∈L.take k,∀ w∈nbr g.E u,w∈L
def Fe.all{g:Gr}{n:Nat}{v:Int}{L:AN}(h:Fe g n v L L.length):∀ w,w∈L↔Reach g.E v w:=by intro w;refine⟨h.reach w,fun hr=>?_⟩;exact hr.closed (L:=fun w=>w∈L) h.mem fun u hu w hw=>h.done u (by grind) w hw
def Fe.sub{g:Gr}(a:Good g){n:Nat}{v:Int}{L:AN}{k:Nat}(h:Fe g n v L k)(b:v∈g.V):L.length<=g.V.length:=by exact fg h.nodup fun w c=>a.reach b (h.reach w c)
abbrev GV(a:List AN):List LV:=a.map fun r=>.sl 0 r.length (us r)
structure pF(g:Gr)(v:Int)(L:AN)(k:Nat)(x:Int)(j:Nat):Prop where
 nodup:L.Nodup
 reach:∀ w∈L,Reach g.E v w
 mem:v∈L
 done:∀ u∈L.take k,∀ w∈nbr g.E u,w∈L
 lt:k<L.length
 at':L.getD k 0=x
 some:∀ w∈(nbr g.E x).take j,w∈L
def Fe.start{g:Gr}{n:Nat}{v:Int}{L:AN}{k:Nat}(h:Fe g n v L k)(a:k<L.length):pF g v L k (L.getD k 0) 0:=
 ⟨h.nodup,h.reach,h.mem,h.done,a,rfl,fun w b=>by grind⟩
def pF.skip{g:Gr}{v:Int}{L:AN}{k:Nat}{x:Int}{j:Nat}(h:pF g v L k x j)(b:j<(nbr g.E x).length)(c:(nbr g.E x).getD j 0∈L):pF g v L k x (j+1):=by
 refine⟨h.nodup,h.reach,h.mem,h.done,h.lt,h.at',fun w a=>?_⟩;rw[eL b,an,bf]at a;rcases a with a|rfl
 .exact h.some w a
 grind
def pF.push{g:Gr}{v:Int}{L:AN}{k:Nat}{x:Int}{j:Nat}(h:pF g v L k x j)(d:j<(nbr g.E x).length)(n:(nbr g.E x).getD j 0∉L):pF g v (L++[(nbr g.E x).getD j 0]) k x (j+1):=by
 have f:x∈L:=by rw[<- h.at',bA _ _ h.lt];exact dq _
 refine⟨?_,fun w c=>?_,cX _ h.mem,fun u e w c=>?_,?_,?_,fun w c=>?_⟩
 .rw[bw];refine⟨h.nodup,sS,fun a l b m=>?_⟩
  grind
 .rw[an,bf]at c;rcases c with c|rfl
  .exact h.reach w c
  .exact .step (h.reach x f) (by grind)
 .rw[List.take_append_of_le_length (by have:=h.lt;omega)]at e;exact cX _ (h.done u e w c)
 .have:=h.lt;grind
 .rw[<- h.at'];have:=h.lt
  grind
 .rw[eL d,an,bf]at c;rw[bA _ _ d];rcases c with c|rfl
  .exact cX _ (h.some w c)
  grind
def pF.finish{g:Gr}{n:Nat}{v:Int}{L:AN}{k:Nat}{x:Int}{j:Nat}(h:pF g v L k x j)(d:(nbr g.E x).length<=j):Fe g n v L (k+1):=by
 refine⟨h.nodup,h.reach,h.mem,fun u a w b=>?_⟩;rw[eL h.lt,an,bf]at a;rcases a with a|rfl
 .exact h.done u a w b
 .have c:L[k]'h.lt=x:=(bA _ _ h.lt).symm.trans h.at';rw[c]at b;exact h.some w (by simp_all)
def pF.len{g:Gr}(a:Good g){v:Int}{L:AN}{k:Nat}{x:Int}{j:Nat}(h:pF g v L k x j)(b:v∈g.V):L.length<=g.V.length:=
 fg h.nodup fun w c=>a.reach b (h.reach w c)
def CY(a:List (AN×LV))(P:Int->Prop):Prop:=∀ v,(P v->(bQ a [v]).getD (i 0)=i 1)/\(¬P v->(bQ a [v]).getD (i 0)=i 0)
def CY.step{c:List (AN×LV)}{P b:Int->Prop}(h:CY c P)(w:Int)(e:∀ v,b v↔P v\/v=w):CY (bV c [w] (i 1)) b:=by
 intro v;rw[jD];by_cases f:v=w
 .grind
 .rw[ac (by grind),e];exact⟨fun a=>(h v).1 (a.resolve_right f),fun a=>(h v).2 fun d=>a (.inl d)⟩
def CY.congr{b:List (AN×LV)}{P a:Int->Prop}(h:CY b P)(c:∀ v,a v↔P v):CY b a:=fun v=>by rw[c];exact h v
def zf(m ms:Nat)(e:List (AN×LV))(n:Nat)(g:Gr)(d:St)(j:Nat)(P:Int->Prop)(b:af)(a:St):Prop:=
 b 4=.mp m/\b 5=.mp ms/\b 16=.sl 0 g.V.length (us g.V)/\b 17=i g.V.length/\b 18=i j/\(m<ms/\ms<a.z/\d.z<=m)/\a.H m=.map false [.u32] e/\aA d a/\(∃ c,a.H ms=.map false [.u32] c/\CY c P)/\
  ∃ t R,b 3=.sl t R.length (GV R)/\cT g j R/\t≠0/\d.z<=t/\t<a.z/\a.H t=.own 22 1 R.length
def PtL(m ms:Nat)(d:List (AN×LV))(n:Nat)(g:Gr)(c:St)(j:Nat)(v:Int)(L:AN)(b:af)(a:St):Prop:=
 zf m ms d n g c j (fun w=>Seen g j w\/w∈L) b a/\∃ q,b 8=.ms q 0 L.length/\a.H q=.box 34 1 (us L)/\c.z<=q/\q<a.z
def PtL.fr{m ms:Nat}{es:List (AN×LV)}{n:Nat}{g:Gr}{x:St}{j:Nat}{v:Int}{L:AN}{e UK:af}{f:St}(h:PtL m ms es n g x j v L e f)(B:UK 3=e 3)(C:UK 4=e 4)(D:UK 5=e 5)(E:UK 8=e 8)(p:UK 16=e 16)(s:UK 17=e 17)(w:UK 18=e 18):PtL m ms es n g x j v L UK f:=by obtain⟨⟨z,A,k,l,o,a,b,c,d,t,R,y,r⟩,q,f8,r2⟩:=h;exact⟨⟨C.trans z,D.trans A,p.trans k,s.trans l,w.trans o,a,b,c,d,t,R,B.trans y,r⟩,q,E.trans f8,r2⟩
def ZQ(g:Gr)(Y:St)(hg:Good g)(hv:g.V.length<=1000)(he:g.E.length<=1000):
 aB prog 21 [.ag (bv g)] Y fun r y=>(∃ t R,r=.sl t R.length (GV R)/\cT g g.V.length R)/\aA Y y:=by
 refine zN func21 ntmps21 [.tmp 2] ?_
 (refine eu ?_;intro J e)
 refine qE (near g _ he) sS ?_;rintro r s1 ⟨m,es,rfl,hm1,hm2,hM,o6,hR⟩;have K5:=o6.z;simp only[aH]at K5 hm1;have Y8:s1.H Y.z=.box 25 2 (bv g):=by rw[o6.H _ sS];simp
 have hms:¬Y.z=s1.z:=oO;refine vY e Y8 hms ?_;obtain⟨ms,hmse⟩:∃ ms,ms=s1.z:=⟨_,rfl⟩;refine iF fun P4=>?_;refine uW 3 22 1 sS ?_;refine qL (fun z f a=>∃ j:Nat,j<=g.V.length/\z=g.V.length-j/\zf m ms es 0 g Y j (Seen g j) f a) g.V.length ?_ ?_
 .refine⟨0,oO,oO,sS,by simp_all,sS,sS,sS,⟨oO,by simp;omega,oO⟩,?_,?_,⟨[],by simp_all,fun v=>⟨fun h=>?_,fun _=>rfl⟩⟩,s1.z+1,[],sS,.zero,oO,oO,sS,sS⟩
  .have a1:¬m=s1.z+1:=oO;have a2:¬m=s1.z:=oO;simp_all
  .exact(((aA.new _ _).trans o6).trans (aA.new _ _)).trans (aA.new _ _)
  .obtain⟨u,hu,_⟩:=h;grind
 rintro z f a ⟨j,hj,rfl,U,K,s,o,p,⟨T,F,N8⟩,P9,o7,⟨A,I,d⟩,t,R,f3,hPT,ht0,htl,htn,htH⟩ JJ hJJ;by_cases dF:j<g.V.length;rotate_left
 .clear hJJ;have hj':j=g.V.length:=oO;rw[hj']at hPT;refine ef f3 o p dF ?_
  grind
 have hd:=qG g.V j dF;have hw:=qN j oO;have M:g.V.getD j 0∈g.V:=by rw[bA _ _ dF];exact dq dF
 have V1:=@DP g j dF;have hsucc:=@vU g j dF;have hps:=fun Q=>cT.seen hPT dF Q;have Q8:=fun(c:AN) Q hc=>cT.lead (c:=c) hPT dF Q hc;generalize hx:g.V.getD j 0=v at *;by_cases Q:Seen g j v
 .have P:=(d v).1 Q;refine lz K s o p dF hd hw I P ?_;exact hJJ (g.V.length-(j+1)) _ _ oO ⟨j+1,oO,rfl,by simp_all,by simp_all,by simp_all,by simp_all,sS,⟨T,F,N8⟩,P9,o7,⟨A,I,d.congr fun w=>V1 Q⟩,t,R,by simp_all,hps Q,ht0,htl,htn,htH⟩
 have P:=(d v).2 Q
 (repeat' (first|apply qS|(refine zE ?_;intro J e;simp[K,s,o,p,dF,hd,hw,I,P];(refine zJ e ?_;clear e J))))
 apply qC;simp[dF]
 (repeat' (first|apply qS|apply qB|refine qK (zZ ?_)|(refine zE ?_;intro J e;simp[K,s,o,p,dF,hd,hw,I,P];(refine zJ e ?_;clear e J))))
 apply qC;simp;refine qK (zZ ?_);have hne1:¬m=ms:=oO;have hne2:¬t=ms:=fun h=>by grind
 apply qS;(refine zE ?_;intro J e;simp[K,I];(refine zJ e ?_;clear e J));apply qS;(refine w_e [29] ?_;intro J e;simp only[];simp[];(refine zJ e ?_;clear e J));apply qS;refine bW (fun f a=>∃ L,Fe g j v L L.length/\PtL m ms es 0 g Y j v L f a) ?_ ?_
 .clear hJJ
  (repeat' (first|apply qS|apply qB|(refine zE ?_;intro J e;simp[];(refine zJ e ?_;clear e J))))
  refine qL (fun z f a=>∃ k L,k<=L.length/\z=g.V.length-k/\f 9=i (k:Nat)/\Fe g j v L k/\PtL m ms es 0 g Y j v L f a) g.V.length ?_ ?_
  .refine⟨0,[v],sS,sS,sS,⟨sS,fun w hw=>?_,sS,fun u hu=>by grind⟩,⟨by simp_all,by simp_all,by simp_all,by simp_all,by simp_all,⟨T,by simp;omega,N8⟩,?_,(by repeat (first|exact o7|(refine aA.trans ?_ (aA.new _ _))|(refine aA.set ?_ oO _))),⟨_,?_,d.step v fun w=>?_⟩,t,R,by simp_all,hPT,ht0,htl,by simp;omega,?_⟩,a.z,sS,sS,oO,sS⟩
   .rw[bf]at hw;subst hw;exact .refl
   .have a2:¬m=a.z:=oO;simp_all
   .have a2:¬ms=a.z:=oO;simp_all
   .grind
   .have a2:¬t=a.z:=oO;simp_all
  clear f3 U K s o p F P9 o7 I d P htn htH hne2 ht0 htl hPT hps Q8 t R A a f;rintro z f a ⟨k,L,hkL,rfl,S,b,W⟩ J2 hJ2;obtain⟨⟨U,K,s,o,p,⟨-,F,-⟩,P9,o7,⟨A,I,d⟩,t,R,f3,hPT,ht0,htl,htn,htH⟩,q,f8,hq,hql,U5⟩:=id W;have hLl:=b.sub hg M;by_cases Z:k<L.length;rotate_left
  .clear hJ2;have J9:k=L.length:=oO;rw[J9]at b;refine fk f8 S Z ?_;exact⟨by trivial,L,b,⟨by simp_all,by simp_all,by simp_all,by simp_all,by simp_all,⟨T,F,N8⟩,P9,o7,⟨A,I,d⟩,t,R,by simp_all,hPT,ht0,htl,htn,htH⟩,q,aa f8,hq,hql,U5⟩
  have ki:=qG L k Z;have K2:=b.start Z;have hwk:=qN k oO;generalize hxx:L.getD k 0=x at *;have hyl:(nbr g.E x).length<=2*g.E.length:=Bh (xJ x) (Gv x) g.E;obtain⟨X,hX,hXl⟩:∃ X,(bQ es [x]).getD .nil=X/\((X=.nil/\nbr g.E x=[])\/∃ t',X=.sl t' (nbr g.E x).length (us (nbr g.E x))):=by
   rcases hR.cases x with⟨h1,h2⟩|⟨t',h1⟩
   .grind
   grind
  (repeat (apply qS));(refine zE ?_;intro J e;simp[f8,S,Z];(refine zJ e ?_;clear e J))
  apply qC;simp[Z];refine qK (zZ ?_);apply qS;apply qB;apply qS;refine bW (fun f a=>f 9=i k/\f 41=X/\f 42=i (nbr g.E x).length/\f 43=i (0:Nat)/\PtL m ms es 0 g Y j v L f a) ?_ ?_
  .clear hJ2;rcases hXl with⟨rfl,hy⟩|⟨t',rfl⟩
   .refine kk U f8 S Z ki hq P9 hX ?_;exact⟨by trivial,by simp_all,sS,by simp_all,sS,W.fr sS sS sS sS sS sS sS⟩
   .refine kk U f8 S Z ki hq P9 hX ?_;exact⟨by trivial,by simp_all,sS,sS,sS,W.fr sS sS sS sS sS sS sS⟩
  clear f3 U K f8 S s o p F P9 o7 I d htn htH ht0 htl hPT W hq hql U5 q t R A a f;rintro f a ⟨S,B,C,O,W⟩;apply qB;refine qL (fun z f a=>∃ N L,N<=(nbr g.E x).length/\z=(nbr g.E x).length-N/\f 9=i k/\f 41=X/\f 42=i (nbr g.E x).length/\f 43=i (N:Nat)/\pF g v L k x N/\PtL m ms es 0 g Y j v L f a) (nbr g.E x).length ?_ ?_
  .grind
  clear S B C O W K2 b hkL Z hLl ki hxx L f a;rintro z f a ⟨N,L,hjj,rfl,S,B,C,O,b,W⟩ J3 hJ3;obtain⟨⟨U,K,s,o,p,⟨-,F,-⟩,P9,o7,⟨A,I,d⟩,t,R,f3,hPT,ht0,htl,htn,htH⟩,q,f8,hq,hql,U5⟩:=id W;have hLl:=b.len hg M;by_cases D:N<(nbr g.E x).length;rotate_left
  .clear hJ3;have Z:=b.lt;refine jg C O D S hwk ?_;exact hJ2 (g.V.length-(k+1)) _ _ oO ⟨k+1,L,oO,rfl,sS,b.finish oO,W.fr sS sS sS sS sS sS sS⟩
  clear hJ2;have hdy:=qG (nbr g.E x) N D;have hwj:=qN N oO;have hXs:∃ t',X=.sl t' (nbr g.E x).length (us (nbr g.E x)):=by
   rcases hXl with⟨_,hy⟩|h
   .grind
   .exact h
  obtain⟨t',hXe⟩:=hXs;rw[hXe]at B;have hskip:=b.skip D;have hpush:=b.push D;have hwm:(nbr g.E x).getD N 0∈nbr g.E x:=by rw[bA _ _ D];exact dq _
  generalize hwx:(nbr g.E x).getD N 0=w at *;by_cases hwL:w∈L
  .have U7:=(d w).1 (.inr hwL);refine lz K B C O D hdy I U7 hwj ?_;exact hJ3 ((nbr g.E x).length-(N+1)) _ _ oO ⟨N+1,L,oO,rfl,aa S,dg B hXe,aa C,sS,hskip hwL,W.fr sS sS sS sS sS sS sS⟩
  have hns:¬(Seen g j w\/w∈L):=by
   rintro(h|h)
   .have hxL:x∈L:=by rw[<- b.at',bA _ _ b.lt];exact dq _
    exact Q (h.reach ((Reach.step .refl (lA hwm)).trans (b.reach x hxL).symm))
   .grind
  have U7:=(d w).2 hns;have b1:¬q=ms:=fun h=>by grind
  have b2:¬q=a.z:=oO
  (repeat' (first|apply qS|apply qB|refine qK (zZ ?_)|(apply qC;simp[K,f8,B,C,O,D,hdy,I,U7,hwj,hq,b1,b2])|(refine zE ?_;intro J e;simp[K,f8,B,C,O,D,hdy,I,U7,hwj,hq,b1,b2];(repeat refine ca ?_);(refine zJ e ?_;clear e J))))
  have b3:¬m=q:=fun h=>by grind
  have b4:¬m=a.z:=oO;have b5:¬m=a.z+1:=oO;have b6:¬ms=q:=fun h=>b1 h.symm;have b7:¬ms=a.z:=oO;have b8:¬ms=a.z+1:=oO;have b9:¬t=ms:=fun h=>by grind
  have c1:¬t=q:=fun h=>by grind
  have c2:¬t=a.z:=oO;have c3:¬t=a.z+1:=oO;refine hJ3 ((nbr g.E x).length-(N+1)) _ _ oO ⟨N+1,L++[w],oO,rfl,aa S,dg B hXe,aa C,sS,hpush hwL,⟨aa U,aa K,aa s,aa o,aa p,⟨T,by simp;omega,N8⟩,la hne1 b3 b4 b5 P9,(by repeat (first|exact o7|(refine aA.trans ?_ (aA.new _ _))|(refine aA.set ?_ oO _))),⟨_,gv b6 b7 b8,d.step w fun z=>?_⟩,t,R,aa f3,hPT,ht0,htl,by simp;omega,la b9 c1 c2 c3 htH⟩,a.z+1,sS,sS,oO,sS⟩
  grind
 clear f3 U K s o p F P9 o7 I d P htn htH hne2 ht0 htl hPT hps Q8 t R A a f;rintro f a ⟨L,b,⟨U,K,s,o,p,⟨-,F,-⟩,P9,o7,⟨A,I,d⟩,t,R,f3,hPT,ht0,htl,htn,htH⟩,q,f8,hq,hql,U5⟩;have Q8:=fun(c:AN) Q hc=>cT.lead (c:=c) hPT dF Q hc;rw[hx]at Q8;have hLl:=b.sub hg M;have hRl:=hPT.len;have b1:¬q=ms:=fun h=>by grind
 have b3:¬m=q:=fun h=>by grind
 have b6:¬ms=q:=fun h=>b1 h.symm;have c1:¬t=q:=fun h=>by grind
 (repeat' (first|apply qS|(refine zE ?_;intro J e;simp[f8])))
 refine qE (QI L q a oO U5 hq) (aa f8) ?_;rintro r y ⟨c,hc,hcp,N5,L5⟩;have r8:=hcp.length_eq;have hnx:=L5.1;have hM3:=(L5.2 m b3 oO).trans P9;have hS3:=(L5.2 ms b6 oO).trans I;have htH3:=(L5.2 t c1 htn).trans htH;have hkp3:aA Y y:=⟨er o7.z hnx,fun l hl=>(L5.2 l oO oO).trans (o7.H l hl)⟩
 (apply cL;simp[];(refine zJ e ?_;clear e J))
 refine nY 8 (l:=q) (n:=L.length) (aa f8) hc (by grind) ?_;have C4:(us c).take (L.length*1)=us c:=by rw[dp (by grind)]
 rw[C4];have d1:¬t=y.z:=oO;have d2:¬t=y.z+1:=oO;have d3:¬m=y.z:=oO;have d4:¬m=y.z+1:=oO;have d5:¬ms=y.z:=oO;have d6:¬ms=y.z+1:=oO;have hmt:¬m=t:=fun h=>by grind
 have hmst:¬ms=t:=fun h=>by grind
 (repeat' (refine zE ?_;intro J e;simp[f3,p,hw,htH3,ht0,c1,d1,d2];(repeat refine ca ?_);(refine zJ e ?_;clear e J)))
 refine hJJ (g.V.length-(j+1)) _ _ oO ⟨j+1,oO,rfl,aa U,aa K,aa s,aa o,sS,⟨T,by simp;omega,N8⟩,la hmt b3 d3 d4 hM3,?_,⟨A,la hmst b6 d5 d6 hS3,d.congr fun w=>?_⟩,y.z+1,R++[c],aa r8,Q8 c Q (UN hg M b.nodup b.all hcp N5),oO,oO,sS,sS⟩
 ·(repeat (first|exact hkp3|(refine aA.trans ?_ (aA.new _ _))|(refine aA.set ?_ oO _)))
 .rw[hsucc,b.all]
def fe(l:List Ed)(id:Int):Int:=if l.any (fun x=>decide (x.id=id))then(l.findIdx (fun x=>decide (x.id=id)):Int)else -1
def UH{l:List Ed}{id:Int}{k:Nat}(b:k<l.length)(h:(l.getD k ed0).id=id)(d:∀ j,j<k->(l.getD j ed0).id≠id):fe l id=k:=by
 have c:∀ j (a:j<l.length),l.getD j ed0=l[j]:=fun j a=>by rw[cp,cg a];rfl
 rw[c k b]at h;unfold fe;rw[ad (oY.2 ⟨_,dq b,by simpa using h⟩)]
 congr 1
 refine(List.findIdx_eq b).2 ⟨by simpa using h,fun j a=>?_⟩;have:=d j a;rw[c j oO]at this;simpa using this
def Vi{l:List Ed}{id:Int}(b:∀ j,j<l.length->(l.getD j ed0).id≠id):fe l id = -1:=by unfold fe;rw[ac];intro h;obtain⟨x,d,c⟩:=oY.1 h;obtain⟨j,a,rfl⟩:=eh d;have:=b j a;rw[cp,cg a]at this;exact this (by simpa using c)
def Gu(g:Gr)(id:Int)(B:St)(I:g.E.length<=1000):
 aB prog 17 [.ag (bv g),u id] B fun r C=>r=i (fe g.E id)/\aA B C:=by
 obtain⟨O,l⟩:=g;simp only at I ⊢;have o:=aJ l;refine zN func17 ntmps17 [.tmp 4] ?_;refine bz ?_;refine qL (fun n f s=>∃ k:Nat,k<=l.length/\n=l.length-k/\f 1=u id/\f 8=.sl 0 l.length (eds l)/\f 9=i l.length/\f 10=i k/\aA B s/\∀ j,j<k->(l.getD j ed0).id≠id) l.length ?_ ?_
 .exact⟨0,oO,oO,sS,sS,sS,sS,aA.new _ _,fun j H=>by omega⟩
 rintro n f s ⟨k,L,rfl,v,w,t,e,A,D⟩ K m;by_cases dF:k<l.length;rotate_left
 .clear m;have z:=Vi (l:=l) (id:=id) fun j H=>D j oO;refine ef t e dF z ?_;exact A
 have y:=aS l k dF;have J:=qN k oO;have N:k*3<l.length*3:=oO;have q:=fun h=>UH (id:=id) dF h D;have p:(l.getD k ed0).id≠id->∀ j,j<k+1->(l.getD j ed0).id≠id:=fun h j H=>by
  rcases dC j k with F|F
  .exact D j F
  .obtain rfl:j=k:=oO;exact h
 generalize M:l.getD k ed0=x at *;obtain⟨d,a,b⟩:=x;simp only at y q p;by_cases c:d=id
 .have z:=q c;refine lz v w t e dF y o c z ?_;exact A.trans (aA.new _ _)
 .refine lz v w t e dF y o c J ?_;exact m (l.length-(k+1)) _ _ oO ⟨k+1,oO,rfl,aa v,aa w,aa t,sS,A.trans (aA.new _ _),p c⟩
def Dx(f:FuncId)(IQ:List LV)(c:St)(l:List Ed)(p:Ed->Bool):Prop:=∀ x∈l,∀ a,aA c a->aB prog f (.ag (dl x)::IQ) a fun r b=>r=bb (p x)/\aA a b
def Fq(l:List Ed)(p:Ed->Bool)(k:Nat)(a:k<l.length):(l.take (k+1)).filter p=if p (l.getD k ed0)=true then(l.take k).filter p++[l.getD k ed0]else(l.take k).filter p:=by rw[eL a,qn,cp,cg a];by_cases h:p l[k]=true<;>simp[h]
def E6(X:LV)(F:List Ed):Prop:=(X=.nil/\F=[])\/∃ t,X=.sl t F.length (eds F)
def E8(g:Gr)(f:FuncId)(IQ:List LV)(p:Ed->Bool)(B:St)(hv:g.V.length<=1000)(he:g.E.length<=1000)(hp:Dx f IQ B g.E p):
 aB prog 14 [.ag (bv g),.fn (.func f) IQ] B fun r st'=>(∃ X,r=.ag [.sl 0 g.V.length (us g.V),X]/\E6 X (g.E.filter p))/\aA B st':=by
 have hel:=aJ g.E;have T6:small g.V:=by unfold small;omega
 refine zN func14 ntmps14 [.cell 4 25] ?_
 (refine eu ?_;intro J K)
 refine qE (SS g.V 0 _ T6) sS ?_;rintro r S ⟨rfl,o6⟩;have K5:=o6.z;simp only[aH]at K5;have Y8:S.H B.z=.box 25 2 (bv g):=by rw[o6.H _ (by simp;omega)];simp
 have hC1:S.H (B.z+1)=.box 25 2 [.nil,.nil]:=by rw[o6.H _ sS];simp
 have e1:¬B.z=S.z:=oO;refine vY K Y8 e1 ?_;have Y4:aA B S:=((aA.new _ _).trans (aA.new _ _)).trans o6;obtain⟨N,hq4⟩:∃ q,q=B.z+1:=⟨_,rfl⟩;obtain⟨A,R⟩:∃ q,q=S.z:=⟨_,rfl⟩;refine qL (fun n P e=>∃ k:Nat,k<=g.E.length/\n=g.E.length-k/\P 1=.fn (.func f) IQ/\P 4=.pt N 0/\P 5=.pt A 0/\P 13=.sl 0 g.E.length (eds g.E)/\P 14=i g.E.length/\P 15=i k/\aA B e/\A<e.z/\e.H N=.box 25 2 [.nil,.nil]/\∃ X,e.H A=.box 25 2 [.sl 0 g.V.length (us g.V),X]/\((X=.nil/\(g.E.take k).filter p=[])\/∃ t,X=.sl t ((g.E.take k).filter p).length (eds ((g.E.take k).filter p))/\t≠0/\A<t/\t<e.z/\e.H t=.own 36 3 ((g.E.take k).filter p).length)) g.E.length ?_ ?_
 .have e2:¬N=S.z:=oO;have e3:¬B.z+1=S.z:=oO;refine⟨0,oO,oO,sS,aa hq4,aa R,sS,sS,sS,?_,aa R,gq e2 hC1 hq4 e3,.nil,aa R,.inl ⟨rfl,sS⟩⟩
  (repeat (first|exact Y4|(refine aA.trans ?_ (aA.new _ _))|(refine aA.set ?_ oO _)))
 rintro n P e ⟨k,hk,rfl,f1,U,D,C,m,j,T,h5n,hC,X,hX,M⟩ JJ L;have e0:¬N=A:=oO;by_cases dF:k<g.E.length;rotate_left
 .clear L;have J9:k=g.E.length:=oO;rw[J9,gm]at M;rcases M with⟨rfl,h⟩|⟨t,rfl,h⟩
  .refine kk U D m j dF hX hC e0 ?_;exact⟨.inl ⟨rfl,h⟩,(by repeat (first|exact T|(refine aA.trans ?_ (aA.new _ _))|(refine aA.set ?_ (by have:=T.z;omega) _)))⟩
  .refine kk U D m j dF hX hC e0 ?_;exact⟨.inr ⟨t,rfl⟩,(by repeat (first|exact T|(refine aA.trans ?_ (aA.new _ _))|(refine aA.set ?_ (by have:=T.z;omega) _)))⟩
 have hd:=aS g.E k dF;have hw:=qN k oO;have u9:k*3<g.E.length*3:=oO;have hxin:g.E.getD k ed0∈g.E:=by rw[cp,cg dF];exact dq dF
 have O:=Fq g.E p k dF;have v7:=gw p (g.E.take k);rw[dn]at v7;have y:=fun s h=>hp _ hxin s h;generalize hx:g.E.getD k ed0=x at *;generalize hFF:(g.E.take k).filter p=F at *;have hFl:=aJ F;have Z:(eds F).length=F.length*3:=hFl;obtain⟨d,a,b⟩:=x;simp only at hd y
 (refine yx f1 C m j dF hd hel ?_;intro J K)
 refine qF (y _ (T.trans (aA.new _ (.box 36 3 [u d,u a,u b])))) ?_;rintro r o ⟨rfl,l⟩;have hn3:=l.z;simp only[aH]at hn3;have R7:aA e o:=(aA.new _ _).trans l;have v:=(R7.H A h5n).trans hX;have Q:=(R7.H N oO).trans hC;have I:o.H e.z=.box 36 3 [u d,u a,u b]:=by rw[l.H _ sS];simp
 have w:aA B o:=(T.trans (aA.new _ _)).trans l;have z1:¬A=o.z:=oO;have z2:¬A=o.z+1:=oO;have z3:¬N=o.z:=oO;have z4:¬N=o.z+1:=oO;have z5:¬o.z+1=A:=oO;by_cases c:p ⟨d,a,b⟩=true;rotate_left
 .rw[ac c]at O;have c:p ⟨d,a,b⟩=false:=by simpa using c
  refine sW K c j hw ?_;refine L (g.E.length-(k+1)) _ _ oO ⟨k+1,oO,rfl,aa f1,aa U,aa D,aa C,aa m,sS,w,oO,Q,X,v,?_⟩;rw[O];rcases M with h|⟨t,h,h0,h1,h2,h3⟩
  .exact .inl h
  .exact .inr ⟨t,h,h0,h1,oO,(R7.H t h2).trans h3⟩
 rw[ad c]at O;have hed:eds (F++[⟨d,a,b⟩])=eds F++[u d,u a,u b]:=by simp[eds]
 rcases M with⟨rfl,Y⟩|⟨t,rfl,h0,h1,h2,h3⟩
 ·(repeat' (first|(apply qC;simp[c,D,j,hw,v,I,z1,z2])|((first|(refine zE ?_;intro J K)|(apply cL));simp[c,D,j,hw,v,I,z1,z2];(repeat refine ca ?_);(refine zJ K ?_;clear K J))))
  refine L (g.E.length-(k+1)) _ _ oO ⟨k+1,oO,rfl,aa f1,aa U,aa D,aa C,aa m,sS,?_,by simp;omega,gq e0 z3 z4 Q,_,by simp;rfl,.inr ⟨o.z+1,by rw[O,hed,Y];simp[eds],oO,oO,sS,by rw[O,Y];simp[z5]⟩⟩
  (repeat (first|exact w|(refine aA.trans ?_ (aA.new _ _))|(refine aA.set ?_ oO _)))
 .have W:o.H t=.own 36 3 F.length:=(R7.H t h2).trans h3;have y1:¬t=o.z:=oO;have y2:¬t=o.z+1:=oO;have y3:¬A=t:=oO;have y4:¬t=A:=oO;have y5:¬N=t:=oO
  (repeat' (first|(apply qC;simp[c,D,j,hw,v,I,z1,z2,W,h0,y1,y2,y3,y4,Z])|((first|(refine zE ?_;intro J K)|(apply cL));simp[c,D,j,hw,v,I,z1,z2,W,h0,y1,y2,y3,y4,Z];(repeat refine ca ?_);(refine zJ K ?_;clear K J))))
  refine L (g.E.length-(k+1)) _ _ oO ⟨k+1,oO,rfl,aa f1,aa U,aa D,aa C,aa m,sS,?_,by simp;omega,la e0 z3 z4 y5 Q,_,by simp;rfl,.inr ⟨o.z+1,by rw[O,hed];simp,oO,oO,sS,by rw[O];simp[z5]⟩⟩
  (repeat (first|exact w|(refine aA.trans ?_ (aA.new _ _))|(refine aA.set ?_ oO _)))
def qV{f:Nat->Int}{n:Nat}(h:bZ f n=0):∀ j,j<n->f j=0:=by
 induction n with
 |zero=>omega
 |succ n a=>
  grind [bZ]
def wX{n a:Int}{b:Bool}(h:fB n a b=0):1<=n/\n<=1048576/\(b=false->a<n):=by
 grind [fB]
def UZ{l:AN}(h:∀ j,j<l.length->0<j->l.getD (j-1) 0<l.getD j 0):l.Pairwise (· < ·):=by
 rw[fq];intro a b c d f;induction b with
 |zero=>omega
 |succ b e=>
  grind
def Hj{g:Gr}(h:chk g=0):Good g/\G6 g.E/\g.V.length<=64/\g.E.length<=160:=by
 unfold chk at h;by_cases f:64<g.V.length\/160<g.E.length
 .omega
 .rw[ac f]at h;by_cases k:bZ (kI g) g.V.length=0
  .rw[ac oO]at h;have o:=qV k;have m:=qV h;have n:∀ j,j<g.E.length->(1<=(g.E.getD j ed0).id/\(g.E.getD j ed0).id<=1048576)/\(g.E.getD j ed0).a∈g.V/\(g.E.getD j ed0).b∈g.V:=by
    intro j c;have:=m j c;unfold lQ at this;simp only at this;by_cases e:fB (g.E.getD j ed0).id (g.E.getD (j-1) ed0).id (decide (j=0))=0
    .rw[ac (fun h=>h e)]at this;by_cases l:(g.E.getD j ed0).a=(g.E.getD j ed0).b
     .omega
     .rw[ac l]at this;by_cases r:(g.E.getD j ed0).a∉g.V\/(g.E.getD j ed0).b∉g.V
      .grind
      .have s:=wX e
       grind
    .omega
   have p:∀ x∈g.E,∃ j,j<g.E.length/\g.E.getD j ed0=x:=by intro x d;obtain⟨j,c,rfl⟩:=eh d;exact⟨j,c,by grind⟩
   refine⟨⟨UZ fun j c q=>?_,fun x d=>?_⟩,fun x d=>?_,oO,oO⟩
   .have:=(wX (o j c)).2.2 (by grind);omega
   .grind
   grind
  omega
def vL(a:List Ed)(v:Int):ends a v=[]↔nbr a v=[]:=by
 unfold ends nbr;simp only[List.flatMap_eq_nil_iff];refine forall_congr' fun x=>forall_congr' fun _=>?_
 grind [Fw,xJ]
def cT.flat{g:Gr}(l:Good g){k:Nat}{R:List AN}(h:cT g k R):R.flatten.Nodup/\∀ w,w∈R.flatten↔w∈g.V/\Seen g k w:=by
 induction h with
 |zero=>exact⟨sS,fun w=>⟨fun h=>by grind,fun h=>by obtain⟨u,m,_⟩:=h.2;grind⟩⟩
 |seen _ hk hs ih=>grind [DP]
 |@lead k R c _ hk hs hc ih=>
  rw[mg,List.flatten_cons,List.flatten_nil,eP];refine⟨?_,fun w=>?_⟩
  .rw[bw];refine⟨ih.1,hc.1.imp fun h=>by omega,fun a f b j=>?_⟩;rintro rfl;have d:=((ih.2 a).1 f).2;have e:=((hc.2 a).1 j).2;exact hs (d.reach e.symm)
  .rw[an,ih.2,hc.2,vU hk]
   grind
end Aw
namespace Aw
open Go Go.RowKit Pl Eu
def aW(a:List Ed):AN:=a.flatMap fun x=>[2*x.id,2*x.id+1]
structure GoodE(g:Gr):Prop extends Good g where
 ids:g.E.Pairwise (fun x y=>x.id<y.id)
 pos:∀ x∈g.E,1<=x.id/\x.id<=1048576
 ne:∀ x∈g.E,x.a≠x.b
def fA(l:List Ed)(j:Nat)(a:j<l.length):l.getD j ed0=l[j]:=by
 grind
def fO{g:Gr}(h:chk g=0):GoodE g:=by
 obtain⟨m,_,_,_⟩:=Hj h;unfold chk at h;by_cases f:64<g.V.length\/160<g.E.length
 .omega
 rw[ac f]at h;by_cases o:bZ (kI g) g.V.length=0
 .rw[ac oO]at h;have k:=qV h;have l:∀ j,j<g.E.length->((1<=(g.E.getD j ed0).id/\(g.E.getD j ed0).id<=1048576)/\(0<j->(g.E.getD (j-1) ed0).id<(g.E.getD j ed0).id))/\(g.E.getD j ed0).a≠(g.E.getD j ed0).b:=by
   intro j c;have:=k j c;unfold lQ at this;simp only at this;by_cases e:fB (g.E.getD j ed0).id (g.E.getD (j-1) ed0).id (decide (j=0))=0
   .rw[ac (fun h=>h e)]at this;by_cases p:(g.E.getD j ed0).a=(g.E.getD j ed0).b
    .omega
    .have q:=wX e
     grind
   .omega
  have n:∀ x∈g.E,∃ j,j<g.E.length/\g.E.getD j ed0=x:=by intro x d;obtain⟨j,c,rfl⟩:=eh d;exact⟨j,c,fA _ _ c⟩
  refine⟨m,?_,fun x d=>?_,fun x d=>?_⟩
  .rw[fq];intro a b r s v;induction b with
   |zero=>omega
   |succ b t=>
    grind
  .grind
  grind
 omega
theorem id_eq{a:List Ed}(h:a.Pairwise (fun x y=>x.id<y.id)){x y:Ed}(c:x∈a)(d:y∈a)(e:x.id=y.id):x=y:=by
 obtain⟨j,f,rfl⟩:=eh c;obtain⟨k,g,rfl⟩:=eh d;rcases ni j k with b|b|b
 .grind [List.pairwise_iff_getElem]
 .grind
 grind [List.pairwise_iff_getElem]
theorem cH{c:List Ed}{v d:Int}:d∈ends c v↔∃ x∈c,(x.a=v/\d=2*x.id)\/(x.b=v/\d=2*x.id+1):=by
 grind [ends,Fw]
theorem dK{a:List Ed}{d:Int}:d∈aW a↔∃ x∈a,d=2*x.id\/d=2*x.id+1:=by
 grind [aW]
theorem gF{a:List Ed}{d:Int}:d∈aW a↔∃ x∈a,x.id=d / 2:=by
 grind [dK]
def oN{a:List Ed}(h:a.Pairwise (fun x y=>x.id<y.id)):(aW a).Pairwise (· < ·):=by
 grind [aW]
def Dc{c:List Ed}(h:c.Pairwise (fun x y=>x.id<y.id))(v:Int):(ends c v).Pairwise (· < ·):=by
 unfold ends;rw[List.pairwise_flatMap];refine⟨fun x _=>?_,h.imp fun {x y} J6 a ha b hb=>?_⟩
 .unfold Fw;by_cases d:x.a=v<;>by_cases e:x.b=v<;>simp[d,e];omega
 grind [Fw]
def iR{l:AN}(h:l.Pairwise (· < ·)):l.Nodup:=h.imp fun h=>by omega
def GU(a:List Ed)(v:Int)(t:AN):Prop:=t.Perm (ends a v)/\ev t=t
structure bU(m:Mp):Prop where
 g:GoodE m.g
 len:m.rots.length=m.g.V.length
 ok:∀ k,k<m.g.V.length->GU m.g.E (m.g.V.getD k 0) (m.rots.getD k [])
def dM{a:List Ed}(h:a.Pairwise (fun x y=>x.id<y.id)){d v w:Int}(b:d∈ends a v)(c:d∈ends a w):v=w:=by
 grind [cH,id_eq]
theorem nR{a:List Ed}{d v:Int}(h:d∈ends a v):d∈aW a:=by
 grind [cH,dK]
def GC{c:List Ed}{d:Int}(h:d∈aW c):∃ v,d∈ends c v/\∃ x∈c,x.id=d / 2/\(v=x.a\/v=x.b):=by
 grind [dK,cH]
def jJ(l:List AN)(j:Nat)(a:j<l.length):l.getD j []=l[j]:=by
 grind
section
variable {m:Mp} (h:bU m)
include h
theorem bU.turn{t:AN}(c:t∈m.rots):∃ k,k<m.g.V.length/\t=m.rots.getD k []/\GU m.g.E (m.g.V.getD k 0) t:=by
 obtain⟨k,b,rfl⟩:=eh c;have a:k<m.g.V.length:=by rw[<- h.len];exact b
 refine⟨k,a,(jJ _ _ b).symm,?_⟩;have:=h.ok k a
 grind
theorem bU.nodup{t:AN}(b:t∈m.rots):t.Nodup:=by obtain⟨k,_,_,a,_⟩:=h.turn b;exact a.nodup_iff.2 (iR (Dc h.g.ids _))
theorem bU.same{t b:AN}(p:t∈m.rots)(a:b∈m.rots){d:Int}(n:d∈t)(f:d∈b):t=b:=by obtain⟨k,o,rfl,j,_⟩:=h.turn p;obtain⟨q,e,rfl,l,_⟩:=h.turn a;have:=dM h.g.ids (j.mem_iff.1 n) (l.mem_iff.1 f);rw[bA _ _ o,bA _ _ e]at this;have c:=congrArg m.g.V.idxOf this;rw[h.g.toGood.nodup.idxOf_getElem,h.g.toGood.nodup.idxOf_getElem]at c;rw[c]
theorem bU.turn_of{d:Int}(f:d∈aW m.g.E):∃ t∈m.rots,d∈t:=by
 obtain⟨v,j,x,e,_,b⟩:=GC f;have a:v∈m.g.V:=by
  rcases b with rfl|rfl
  .exact(h.g.ends x e).1
  .exact(h.g.ends x e).2
 obtain⟨k,c,rfl⟩:=eh a;have:=h.ok k c;rw[bA _ _ c]at this;refine⟨_,?_,this.1.mem_iff.2 j⟩;rw[jJ _ _ (by rw[h.len];omega)]
 grind
theorem bU.turn_dart{t:AN}(a:t∈m.rots){d:Int}(c:d∈t):d∈aW m.g.E:=by
 obtain⟨k,_,_,b,_⟩:=h.turn a
 grind [nR]
end
def sg(m:Mp)(d:Int):Int:=match m.rots.find? (fun t=>decide (d∈t)) with
 |some t=>nx t d
 |none=>d
def YJ{m:Mp}{d:Int}(h:∀ t∈m.rots,d∉t):sg m d=d:=by
 grind [sg]
theorem EC{m:Mp}(h:bU m){t:AN}(e:t∈m.rots){d:Int}(c:d∈t):sg m d=nx t d:=by
 unfold sg;cases hf:m.rots.find? (fun t=>decide (d∈t)) with
 |none=>
  grind
 |some f=>have a:=o0 hf;have b:=ow hf;simp only at a ⊢;rw[h.same b e (by grind) c]
def al(a:List Ed)(d:Int):Int:=if(a.any fun x=>decide (x.id=d / 2))=true then tw d else d
theorem DQ{a:List Ed}{d:Int}(h:d∈aW a):al a d=tw d:=by
 grind [al,gF]
theorem tE{a:List Ed}{d:Int}(h:d∉aW a):al a d=d:=by
 grind [al,gF]
theorem Fl(d:Int):tw d / 2=d / 2:=by grind [tw]
theorem D8(d:Int):tw (tw d)=d:=by grind [tw]
theorem Vc{a:List Ed}{d:Int}:tw d∈aW a↔d∈aW a:=by grind [gF,Fl]
theorem WK(a:List Ed)(d:Int):al a (al a d)=d:=by
 grind [DQ,Vc,D8,tE]
theorem Uc(a:List Ed)(d:Int):al a d / 2=d / 2:=by
 grind [al,Fl]
def FU(b a:List Ed)(d:Int):al b d∈aW a↔d∈aW a:=by grind [gF,Uc]
def Wg(a:List Ed){d e:Int}(h:al a d=al a e):d=e:=by grind [WK]
def fc(m:Mp)(a:List Ed)(d:Int):Int:=sg m (al a d)
section
variable {m:Mp} (h:bU m)
include h
theorem bU.sg_mem{t:AN}(b:t∈m.rots){d:Int}(a:d∈t):sg m d∈t:=by rw[EC h b a];grind [KA]
theorem bU.sg_dart{d:Int}(c:d∈aW m.g.E):sg m d∈aW m.g.E:=by obtain⟨t,b,a⟩:=h.turn_of c;exact h.turn_dart b (h.sg_mem b a)
theorem bU.sg_id{d:Int}(b:d∉aW m.g.E):sg m d=d:=YJ fun _ c a=>b (h.turn_dart c a)
theorem bU.sg_inj{d e:Int}(a:sg m d=sg m e):d=e:=by
 by_cases j:d∈aW m.g.E
 .by_cases b:e∈aW m.g.E
  .obtain⟨t,c,l⟩:=h.turn_of j;obtain⟨n,f,k⟩:=h.turn_of b;have:=h.same c f (h.sg_mem c l) (a ▸ h.sg_mem f k);subst this;rw[EC h c l,EC h c k]at a;exact RU (h.nodup c) l k a
  .have:=h.sg_dart j;rw[a,h.sg_id b]at this
   grind
 .by_cases b:e∈aW m.g.E
  .have:=h.sg_dart b;rw[<- a,h.sg_id j]at this
   grind
  .rwa [h.sg_id j,h.sg_id b]at a
theorem bU.fc_inj(a:List Ed)(d e:Int)(b:fc m a d=fc m a e):d=e:=Wg a (h.sg_inj b)
theorem bU.fc_dart(a:List Ed)(d:Int)(b:d∈aW m.g.E):fc m a d∈aW m.g.E:=h.sg_dart ((FU a _ d).2 b)
theorem bU.fc_per(a:List Ed)(e:∀ x∈a,x∈m.g.E):Per (fc m a):=by
 refine Pz (aW m.g.E) (fun x b=>h.fc_dart a x b) (h.fc_inj a) fun x b=>?_
 have c:x∉aW a:=fun d=>b (by
  grind [dK])
 unfold fc;rw[tE c,h.sg_id b]
theorem bU.sg_at_v{d v:Int}(c:d∈ends m.g.E v):sg m d∈ends m.g.E v:=by obtain⟨t,e,a⟩:=h.turn_of (nR c);obtain⟨k,f,rfl,b,_⟩:=h.turn e;have:=dM h.g.ids c (b.mem_iff.1 a);rw[this];exact b.mem_iff.1 (h.sg_mem e a)
theorem bU.orb_reach(e:List Ed)(A:∀ x∈e,x∈m.g.E)(n:Nat):∀ {d v:Int},d∈ends m.g.E v->∃ w,it (fc m e) n d∈ends m.g.E w/\Reach e v w:=by
 induction n with
 |zero=>intro d v f;exact⟨v,f,.refl⟩
 |succ n D=>
  intro d v f;have o:∃ w,fc m e d∈ends m.g.E w/\Reach e v w:=by
   by_cases p:d∈aW e
   .unfold fc;rw[DQ p];obtain⟨x,k,B⟩:=gF.1 p;have c:=A x k;obtain⟨y,C,l⟩:=cH.1 f;have q:x=y:=id_eq h.g.ids c C oO;subst q;rcases l with⟨rfl,j⟩|⟨rfl,j⟩
    .refine⟨x.b,h.sg_at_v (cH.2 ⟨x,c,.inr ⟨rfl,?_⟩⟩),.step .refl (cN.2 ⟨x,k,.inl ⟨rfl,rfl⟩⟩)⟩
     grind [tw]
    .refine⟨x.a,h.sg_at_v (cH.2 ⟨x,c,.inl ⟨rfl,?_⟩⟩),.step .refl (cN.2 ⟨x,k,.inr ⟨rfl,rfl⟩⟩)⟩
     grind [tw]
   .unfold fc;rw[tE p];exact⟨v,h.sg_at_v f,.refl⟩
  obtain⟨w,r,s⟩:=o;obtain⟨F,t,z⟩:=D r;exact⟨F,t,s.trans z⟩
end
theorem iO(a:List Ed):fJ (Reach a):=⟨fun _=>.refl,Reach.symm,Reach.trans⟩
theorem Reach.mono{b a:List Ed}(d:∀ x∈b,x∈a){v w:Int}(h:Reach b v w):Reach a v w:=by
 induction h with
 |refl=>exact .refl
 |step _ e c=>
  refine .step c ?_
  grind [cN]
theorem Ko(d:List Ed)(x:Ed)(v w:Int):Reach (d++[x]) v w↔Eu.Mg (Reach d) x.a x.b v w:=by
 constructor
 .intro h;have f:=Mg.eqv (iO d) x.a x.b;induction h with
  |refl=>exact f.refl _
  |step _ g j=>
   refine f.trans j ?_;obtain⟨y,c,e⟩:=cN.1 g;rw[an,bf]at c;rcases c with c|rfl
   .exact .inl (.step .refl (cN.2 ⟨y,c,e⟩))
   .rcases e with⟨rfl,rfl⟩|⟨rfl,rfl⟩
    .exact .inr (.inl ⟨.refl,.refl⟩)
    .exact .inr (.inr ⟨.refl,.refl⟩)
 .refine Mg.le (iO _) (.step .refl (cN.2 ⟨x,sS,.inl ⟨rfl,rfl⟩⟩)) fun v w h=>h.mono fun y c=>by grind
def MC{R:Int->Int->Prop}(a:∀ x y,R x y->x=y){l:AN}(b:l.Nodup):bg R l=l.length:=by
 induction l with
 |nil=>rfl
 |cons x l c=>
  grind [aN]
def Dk{v w:Int}(h:Reach [] v w):v=w:=by
 induction h with
 |refl=>rfl
 |step _ a _=>grind [cN]
theorem filter_eq{d e:Type}(p:d->Bool)(q:e->Bool):∀(l:List d) (c:List e),l.length=c.length->(∀ k (f:k<l.length) (g:k<c.length),p l[k]=!q c[k])->(l.filter p).length+c.countP q=l.length
 |[],[],_,_=>rfl
 |[],_::_,h,_=>by grind
 |_::_,[],h,_=>by grind
 |a::l,b::c,h,hk=>by
  have m:=filter_eq p q l c (by grind) fun k f g=>hk (k+1) (by grind) (by grind);have j:=hk 0 sS sS
  grind
section
variable {m:Mp} (h:bU m)
include h
theorem bU.kQ:(aW m.g.E).Perm m.rots.flatten:=by
 refine(jn (iR (oN h.g.ids)) ?_).2 fun d=>?_
 .unfold List.Nodup;rw[yf];refine⟨fun t j=>h.nodup j,?_⟩;rw[fq];intro a b n o s x q y r;rintro rfl;have k:=h.ok a (by rw[<- h.len];omega);have l:=h.ok b (by rw[<- h.len];omega);rw[jJ _ _ n]at k;rw[jJ _ _ o]at l;have p:=dM h.g.ids (k.1.mem_iff.1 q) (l.1.mem_iff.1 r);have c:a<m.g.V.length:=by rw[<- h.len];exact n
  have e:b<m.g.V.length:=by rw[<- h.len];exact o
  rw[bA _ _ c,bA _ _ e]at p;have:=fq.1 h.g.rise a b c e s;omega
 .rw[fh];exact⟨fun f=>h.turn_of f,fun⟨t,j,f⟩=>h.turn_dart j f⟩
theorem bU.ncl_sg:bg (Orb (sg m)) (aW m.g.E)+alone m.g=m.g.V.length:=by
 have r:fc m []=sg m:=by funext d;simp[fc,al]
 have F:Per (sg m):=by rw[<- r];exact h.fc_per [] (fun x c=>by grind)
 have D:∀ t∈m.rots,∀ n x,x∈t->it (sg m) n x∈t:=by
  intro t o n;induction n with
  |zero=>intro x c;exact c
  |succ n C=>intro x c;exact C _ (h.sg_mem o c)
 have H:∀ t∈m.rots,∀ n x,x∈t->it (sg m) n x=it (nx t) n x:=by
  intro t o n;induction n with
  |zero=>intro x c;rfl
  |succ n C=>grind [bF,EC]
 rw[tY F.eqv h.kQ,CI]
 .have:=filter_eq (fun t=>decide (t≠[])) (fun v=>decide (nbr m.g.E v=[])) m.rots m.g.V h.len fun k l e=>?_
  .rw[<- h.len];exact this
  .have s:=h.ok k e;rw[jJ _ _ l,bA _ _ e]at s;have J:m.rots[k]=[]↔nbr m.g.E m.g.V[k]=[]:=by
    rw[<- vL];constructor
    .intro p;have:=s.1;simp_all
    .intro p;have:=s.1;simp_all
   grind
 .intro t o x c y w;obtain⟨n,B⟩:=KN (h.nodup o) c w;exact⟨n,by grind⟩
 .rw[fq];rintro a b A q I x c y w ⟨n,B⟩;have z:=D _ (dq q) n y w;rw[B]at z;have l:=h.ok a (by rw[<- h.len];omega);have e:=h.ok b (by rw[<- h.len];omega);rw[jJ _ _ A]at l;rw[jJ _ _ q]at e;have p:=dM h.g.ids (l.1.mem_iff.1 c) (e.1.mem_iff.1 z);have f:a<m.g.V.length:=by rw[<- h.len];exact A
  have j:b<m.g.V.length:=by rw[<- h.len];exact q
  rw[bA _ _ f,bA _ _ j]at p;have:=fq.1 h.g.rise a b f j I;omega
theorem bU.euler_at(j:Nat)(M:j<=m.g.E.length):∃ k:Nat,2*bg (Reach (m.g.E.take j)) m.g.V+j=2*k+alone m.g+m.g.V.length+bg (Orb (fc m (m.g.E.take j))) (aW m.g.E):=by
 induction j with
 |zero=>
  have l:fc m []=sg m:=by funext d;simp[fc,al]
  refine⟨0,?_⟩;rw[List.take_zero,l,MC (fun x y=>Dk) h.g.toGood.nodup];have:=h.ncl_sg;omega
 |succ j L=>
  obtain⟨k,N⟩:=L oO;have q:∀ i,∀ x∈m.g.E.take i,x∈m.g.E:=fun i x J=>oz J;have B:=h.fc_per (m.g.E.take j) (q j);have r:=h.fc_per (m.g.E.take (j+1)) (q (j+1));have C4:m.g.E.take (j+1)=m.g.E.take j++[m.g.E[j]]:=eL oO;have c:m.g.E[j]∈m.g.E:=dq _;have C:∀ y∈m.g.E.take j,y.id≠m.g.E[j].id:=by intro y K;obtain⟨i,H,rfl⟩:=eh K;rw[dn]at H;rw[mj];have:=fq.1 h.g.ids i j oO oO oO;omega
  generalize m.g.E[j]=x at *;have s:∀ d,fc m (m.g.E.take (j+1)) d=fc m (m.g.E.take j) (sw (2*x.id) (2*x.id+1) d):=by
   intro d;unfold fc
   congr 1
   by_cases t:d=2*x.id
   .grind [tG,DQ,gF,tE,tw]
   .grind [Cm,DQ,tE,tw,jT,aW,List.mem_singleton]
  have z:2*x.id∈aW m.g.E:=dK.2 ⟨x,c,.inl rfl⟩;have A:2*x.id+1∈aW m.g.E:=dK.2 ⟨x,c,.inr rfl⟩;have F:∀ v w,Reach (m.g.E.take (j+1)) v w↔Eu.Mg (Reach (m.g.E.take j)) x.a x.b v w:=fun v w=>by grind [Ko]
  have f:bg (Reach (m.g.E.take (j+1))) m.g.V=bg (Eu.Mg (Reach (m.g.E.take j)) x.a x.b) m.g.V:=dA fun v _ w _=>F v w;rw[f];by_cases o:Orb (fc m (m.g.E.take j)) (2*x.id) (2*x.id+1)
  .have t:=sA B r s oO z A o;have p:Reach (m.g.E.take j) x.a x.b:=by
    obtain⟨n,I⟩:=o;obtain⟨w,e,D⟩:=h.orb_reach (m.g.E.take j) (q j) n (cH.2 ⟨x,c,.inl ⟨rfl,rfl⟩⟩);rw[I]at e
    rwa [dM h.g.ids e (cH.2 ⟨x,c,.inr ⟨rfl,rfl⟩⟩)]at D
   grind [dA,Mg.same,iO]
  .have t:=nA B r s z A o;by_cases p:Reach (m.g.E.take j) x.a x.b
   .have e:bg (Eu.Mg (Reach (m.g.E.take j)) x.a x.b) m.g.V=bg (Reach (m.g.E.take j)) m.g.V:=dA fun v _ w _=>Mg.same (iO _) p v w;rw[e];exact⟨k+1,oO⟩
   .have e:=pU (iO _) p (h.g.ends x c).1 (h.g.ends x c).2
    grind
theorem bU.euler:∃ k:Nat,2*bg (Reach m.g.E) m.g.V+m.g.E.length=2*k+alone m.g+m.g.V.length+bg (Orb (fc m m.g.E)) (aW m.g.E):=by
 have:=h.euler_at m.g.E.length (au _)
 grind
end
def Vy(f:Int->Int)(a:AN)(k:Nat)(x:Int):Prop:=∃ y∈a.take k,Orb f y x
inductive Oz(f:Int->Int)(ds:List Int):Nat->List (List Int)->Prop
 |zero:Oz f ds 0 []
 |seen {k:Nat} {R:List (List Int)} (h:Oz f ds k R) (hk:k<ds.length) (hs:Vy f ds k (ds.getD k 0)):Oz f ds (k+1) R
 |lead {k:Nat} {R:List (List Int)} {c:List Int} (h:Oz f ds k R) (hk:k<ds.length) (hs:¬Vy f ds k (ds.getD k 0)) (hc:Yc f (ds.getD k 0) c):Oz f ds (k+1) (R++[c])
def It{c:AN}{d:Int}{r:AN}(h:c=d::r)(a:mn c=d):ev c=c:=by
 grind [ev,rt]
def Pr(c:AN)(h:c≠[]):∃ r,ev c=mn c::r:=by
 have d:=wO h;have dF:=jy d;have e:0<(ev c).length:=by rw[nW];omega
 have b:=Up c 0 oO;simp only[Nat.add_zero,ej dF,mh]at b;cases f:ev c with
 |nil=>grind
 |cons a r=>grind
theorem pP{R S:Int->Int->Prop}:∀ {l:AN},(∀ x∈l,∀ y∈l,R x y->S x y)->bg S l<=bg R l
 |[],_=>au _
 |x::l,h=>by
  have ih:=pP (R:=R) (S:=S) (l:=l) fun a ha b hb=>h a (ar _ ha) b (ar _ hb);by_cases hx:∃ y∈l,S y x
  .rw[aY hx];refine er ih ?_;simp only[bg];exact ve _ _
  .rw[aN hx,aN fun⟨y,hy,hr⟩=>hx ⟨y,hy,h y (ar _ hy) x aw hr⟩];omega
def SE{R S:Int->Int->Prop}(c:fJ R)(d:fJ S){l:AN}(h:∀ x y,R x y->S x y)(o:bg R l<=bg S l){x y:Int}(f:x∈l)(g:y∈l)(e:S x y):R x y:=by refine fv fun j=>?_;have m:=pU c j f g;have n:=pP (R:=Eu.Mg R x y) (S:=S) (l:=l) fun a _ b _ k=>Mg.le d e h k;omega
theorem oV{k:Type}[DecidableEq k]{R:Int->Int->Prop}(eg:Int->k):∀ {D:AN},(∀ x∈D,∀ y∈D,R x y->eg x=eg y)->∀ X:List k,X.Nodup->(∀ a∈X,∃ d∈D,eg d=a)->X.length<=bg R D
 |[],_,X,_,h=>by
  cases X with
  |nil=>exact je _
  |cons a X=>obtain⟨d,o,_⟩:=h a aw;cases o
 |d::D,hR,X,hn,h=>by
  have c:∀ x∈D,∀ y∈D,R x y->eg x=eg y:=fun x f y g=>hR x (ar _ f) y (ar _ g);by_cases f:∃ y∈D,R y d
  .rw[aY f];obtain⟨y,g,p⟩:=f;refine oV eg c X hn fun a j=>?_;obtain⟨e,b,rfl⟩:=h a j;rcases ah.1 b with rfl|b
   .exact⟨y,g,hR y (ar _ g) _ aw p⟩
   .exact⟨e,b,rfl⟩
  .rw[aN f];have:=oV eg c (X.erase (eg d)) (hn.erase _) fun a j=>by
    obtain⟨n,m⟩:=(List.Nodup.mem_erase_iff hn).1 j;obtain⟨e,b,rfl⟩:=h a m;rcases ah.1 b with rfl|b
    .exact absurd rfl n
    .exact⟨e,b,rfl⟩
   have m:=List.length_erase_le (a:=eg d) (l:=X);have q:X.length<=(X.erase (eg d)).length+1:=by rw[List.length_erase];split<;>omega
   omega
structure cD(D:AN)(f:Int->Int):Prop where
 mem:∀ x∈D,f x∈D
 inj:∀ x y,f x=f y->x=y
 out:∀ x,x∉D->f x=x
def cD.per{D:AN}{f:Int->Int}(h:cD D f):Per f:=Pz D h.mem h.inj h.out
theorem cD.sw{D:AN}{f:Int->Int}(h:cD D f){a b:Int}(d:a∈D)(g:b∈D):cD D fun x=>f (Eu.sw a b x):=by
 refine⟨fun x c=>h.mem _ ?_,fun x y e=>YE a b (h.inj _ _ e),fun x c=>?_⟩
 .unfold Eu.sw
  split
  .exact g
  .split
   .exact d
   .exact c
 .rw[jT (fun e=>c (by rw[e];exact d)) (fun e=>c (by rw[e];exact g))];exact h.out x c
def ce(s:Int->Int):List (Int×Int)->Int->Int
 |[],x=>s x
 |p::P,x=>ce s P (Eu.sw p.1 p.2 x)
def cu(R:Int->Int->Prop):List (Int×Int)->Int->Int->Prop
 |[]=>R
 |p::P=>Eu.Mg (cu R P) p.1 p.2
theorem fE{D:AN}{s:Int->Int}(a:cD D s):∀ P:List (Int×Int),(∀ p∈P,p.1∈D/\p.2∈D)->cD D (ce s P)
 |[],_=>a
 |p::P,h=>(fE a P fun q b=>h q (ar _ b)).sw (h p aw).1 (h p aw).2
theorem cU{R:Int->Int->Prop}(a:fJ R):∀ P:List (Int×Int),fJ (cu R P)
 |[]=>a
 |p::P=>Mg.eqv (cU a P) _ _
theorem eW{R:Int->Int->Prop}:∀(P:List (Int×Int)) {x y:Int},R x y->cu R P x y
 |[],_,_,h=>h
 |_::P,_,_,h=>.inl (eW P h)
theorem iB{R:Int->Int->Prop}(a:fJ R):∀(P:List (Int×Int)) {p:Int×Int},p∈P->cu R P p.1 p.2
 |q::P,p,h=>by
  rcases ah.1 h with rfl|h
  .exact .inr (.inl ⟨(cU a P).refl _,(cU a P).refl _⟩)
  .exact .inl (iB a P h)
theorem vP{D:AN}{s:Int->Int}(d:cD D s):∀ P:List (Int×Int),(∀ p∈P,p.1∈D/\p.2∈D/\p.1≠p.2)->
 (∀ x y,Orb (ce s P) x y->cu (Orb s) P x y)/\∃ c,2*bg (cu (Orb s) P) D+P.length=2*c+bg (Orb s) D+bg (Orb (ce s P)) D
 |[],_=>⟨fun _ _ h=>h,0,by have e:bg (Orb (ce s [])) D=bg (Orb s) D:=rfl;have f:bg (cu (Orb s) []) D=bg (Orb s) D:=rfl;rw[e,f,List.length_nil];omega⟩
 |p::P,h=>by
  obtain⟨r,c,A⟩:=vP d P fun q a=>h q (ar _ a);obtain⟨g,j,z⟩:=h p aw;have a:=fE d P fun q a=>⟨(h q (ar _ a)).1,(h q (ar _ a)).2.1⟩;have b:cD D (ce s (p::P)):=a.sw g j;have l:∀ x,ce s (p::P) x=ce s P (Eu.sw p.1 p.2 x):=fun _=>rfl;have m:=cU d.per.eqv P;have n:fJ (cu (Orb s) (p::P)):=cU d.per.eqv (p::P);refine⟨fun x y v=>?_,?_⟩
  .exact Mg.le n (iB d.per.eqv (p::P) aw) (fun x y k=>.inl (r x y k)) (Be a.per l v)
  .rw[List.length_cons];by_cases o:Orb (ce s P) p.1 p.2
   .have w:=sA a.per b.per l z g j o;have f:bg (cu (Orb s) (p::P)) D=bg (cu (Orb s) P) D:=dA fun x _ y _=>Mg.same m (r _ _ o) x y;exact⟨c,oO⟩
   .have w:=nA a.per b.per l g j o;by_cases t:cu (Orb s) P p.1 p.2
    .have f:bg (cu (Orb s) (p::P)) D=bg (cu (Orb s) P) D:=dA fun x _ y _=>Mg.same m t x y;exact⟨c+1,oO⟩
    .have f:bg (cu (Orb s) P) D=bg (cu (Orb s) (p::P)) D+1:=pU m t g j;exact⟨c,oO⟩
def UT{R:Int->Int->Prop}{D:AN}(h:∀ x∈D,∀ y∈D,R x y)(a:D≠[]):bg R D=1:=by have:=De (R:=R) (t:=D) (l:=[]) h (fun _ _ _ b=>by cases b);rw[eP,ac a]at this;exact this
def Wi{D:AN}{f:Int->Int}(hf:cD D f){a b:Int}(c:a∈D)(d:b∈D):bg (Orb f) D<=bg (Orb fun x=>f (Eu.sw a b x)) D+1:=by
 by_cases h:a=b
 .subst h;have:(fun x=>f (Eu.sw a a x))=f:=by funext x;unfold Eu.sw;split<;>simp_all
  rw[this];omega
 have g:=hf.sw c d;by_cases e:Orb f a b
 .have:=sA hf.per g.per (fun _=>rfl) h c d e;omega
 .have:=nA hf.per g.per (fun _=>rfl) c d e;omega
def di(a:List AN)(d:Int):Int:=match a.find? (fun t=>decide (d∈t)) with
 |some t=>nx t d
 |none=>d
def mF{a:List AN}{d:Int}(h:d∉a.flatten):di a d=d:=by unfold di;rw[qo.2 fun t c=>by simpa using fun b=>h (fh.2 ⟨t,c,b⟩)]
def Iu{b:List AN}(f:b.flatten.Nodup){t g:AN}(c:t∈b)(a:g∈b){d:Int}(k:d∈t)(j:d∈g):t=g:=by
 induction b with
 |nil=>cases c
 |cons r b l=>
  rw[List.flatten_cons,bw]at f;rcases ah.1 c with e|c
  .rcases ah.1 a with h|a
   .rw[e,h]
   .exact absurd rfl (f.2.2 d (by rw[<- e];exact k) d (fh.2 ⟨g,a,j⟩))
  .rcases ah.1 a with h|a
   .exact absurd rfl (f.2.2 d (by rw[<- h];exact j) d (fh.2 ⟨t,c,k⟩))
   .exact l f.2.1 c a
def wM{a:List AN}(b:a.flatten.Nodup){t:AN}(c:t∈a):t.Nodup:=(lh c).nodup b
def gH{a:List AN}(e:a.flatten.Nodup){t:AN}(c:t∈a){d:Int}(b:d∈t):di a d=nx t d:=by
 unfold di;cases hf:a.find? (fun t=>decide (d∈t)) with
 |none=>exact absurd b (by simpa using qo.1 hf t c)
 |some f=>rw[Iu e (ow hf) c (by simpa using o0 hf) b]
def kT{f:List AN}(g:f.flatten.Nodup):cD f.flatten (di f):=by
 have h:∀ x t,t∈f->x∈t->di f x∈t:=fun x t b a=>by rw[gH g b a];exact KA a
 refine⟨fun x a=>?_,fun x y e=>?_,fun x a=>mF a⟩
 .obtain⟨t,b,a⟩:=fh.1 a;exact fh.2 ⟨t,b,h x t b a⟩
 .by_cases a:x∈f.flatten
  .obtain⟨t,b,a⟩:=fh.1 a;by_cases d:y∈f.flatten
   .obtain⟨j,c,d⟩:=fh.1 d;have l:=h x t b a;rw[e]at l;have:=Iu g b c l (h y j c d);subst this;rw[gH g b a,gH g b d]at e;exact RU (wM g b) a d e
   .rw[mF d]at e;exact absurd (fh.2 ⟨t,b,by rw[<- e];exact h x t b a⟩) d
  .by_cases d:y∈f.flatten
   .obtain⟨j,c,k⟩:=fh.1 d;rw[mF a]at e;exact absurd (fh.2 ⟨j,c,by rw[e];exact h y j c k⟩) a
   .rw[mF a,mF d]at e;exact e
theorem Km{a:List AN}(c:a.flatten.Nodup){t:AN}(d:t∈a){x:Int}(e:x∈t):∀ n,it (di a) n x=it (nx t) n x/\it (di a) n x∈t
 |0=>⟨rfl,e⟩
 |n+1=>by obtain⟨f,b⟩:=Km c d e n;rw[bF,bF,<- f,gH c d b];exact⟨rfl,KA b⟩
def Fm{a:List AN}(b:a.flatten.Nodup){t:AN}(c:t∈a){x y:Int}(d:x∈t):Orb (di a) x y↔y∈t:=by
 constructor
 .rintro⟨n,rfl⟩;exact(Km b c d n).2
 .intro f;obtain⟨n,e⟩:=KN (wM b c) d f;exact⟨n,by rw[(Km b c d n).1,e]⟩
def Ln{b:List AN}(f:b.flatten.Nodup):bg (Orb (di b)) b.flatten=(b.filter fun t=>decide (t≠[])).length:=by
 refine CI b (fun t d x c y g=>(Fm f d c).2 g) ?_;have j:∀ a:List AN,a.flatten.Nodup->a.Pairwise fun t k=>∀ x∈t,x∉k:=by
  intro a;induction a with
  |nil=>exact fun _=>.nil
  |cons r a m=>intro e;rw[List.flatten_cons,bw]at e;refine jq.2 ⟨fun t d x c l=>e.2.2 x c x (fh.2 ⟨t,d,l⟩) rfl,m e.2.1⟩
 refine(j b f).imp_of_mem fun {t k} d ht' h x c y g ho=>?_;exact h x c ((Fm f ht' g).1 ho)
def TE{c a:List AN}(f:c.flatten.Nodup)(e:c.Perm a)(d:Int):di c d=di a d:=by
 have h:a.flatten.Nodup:=(e.flatten.nodup_iff).1 f;by_cases b:d∈c.flatten
 .obtain⟨t,g,b⟩:=fh.1 b;rw[gH f g b,gH h (e.mem_iff.1 g) b]
 .rw[mF b,mF fun k=>b (e.flatten.mem_iff.2 k)]
def get_inj{l:AN}(h:l.Nodup){i j:Nat}(a:i<l.length)(b:j<l.length)(e:l[i]=l[j]):i=j:=by
 have:=congrArg l.idxOf e
 rwa [h.idxOf_getElem,h.idxOf_getElem]at this
def vO{A B:AN}(c:(A++B).Nodup)(f:A≠[])(g:B≠[]){x:Int}:(x∈A->nx (A++B) x=if x=A.getLast f then nx B (B.getLast g)else nx A x)/\(x∈B->nx (A++B) x=if x=B.getLast g then nx A (A.getLast f)else nx B x):=by
 have j:=(bw.1 c).1;have l:=(bw.1 c).2.1;have p:=iu.2 f;have q:=iu.2 g;have last:∀(L:AN) (h:L≠[]),L.Nodup->nx L (L.getLast h)=L[0]'(iu.2 h):=fun L h o=>by have:=iu.2 h;rw[qg,iI o];simp[show L.length-1+1=L.length by omega]
 constructor
 .intro m;obtain⟨k,n,rfl⟩:=eh m;have e:A[k]=(A++B)[k]'(by rw[cf];omega):=(sa n).symm;have d:(A++B).length=A.length+B.length:=cf;rw[last B g l];by_cases h:k=A.length-1
  .rw[ad (by rw[qg];congr),e,iI c];have a:(k+1) % (A++B).length=A.length:=by rw[ej oO];omega
   simp only[a];rw[mz (au _)];simp
  .rw[ac (by rw[qg];exact fun b=>h (get_inj j _ _ b)),iI j,e,iI c];have a:(k+1) % (A++B).length=k+1:=ej oO;have b:(k+1) % A.length=k+1:=ej oO;simp only[a,b];exact sa oO
 .intro m;obtain⟨k,n,rfl⟩:=eh m;have d:(A++B).length=A.length+B.length:=cf;have e:B[k]=(A++B)[A.length+k]'(by omega):=by rw[mz (ve _ _)];simp
  rw[last A f j];by_cases h:k=B.length-1
  .rw[ad (by rw[qg];congr),e,iI c];have a:(A.length+k+1) % (A++B).length=0:=by rw[show A.length+k+1=(A++B).length by omega,ri]
   simp only[a];exact sa p
  .rw[ac (by rw[qg];exact fun b=>h (get_inj l _ _ b)),iI l,e,iI c];have a:(A.length+k+1) % (A++B).length=A.length+(k+1):=by rw[ej oO];omega
   have b:(k+1) % B.length=k+1:=ej oO;simp only[a,b];rw[mz (ve _ _)];simp
def UF{A B:AN}{c:List AN}(j:(A::B::c).flatten.Nodup)(f:A≠[])(g:B≠[])(d:Int):di ((A++B)::c) d=di (A::B::c) (Eu.sw (A.getLast f) (B.getLast g) d):=by
 have hf:((A++B)::c).flatten=(A::B::c).flatten:=sS;have l:((A++B)::c).flatten.Nodup:=by rw[hf];exact j
 have o:(A++B).Nodup:=wM l aw;have h:=(bw.1 o).2.2;have m:=List.getLast_mem f;have n:=List.getLast_mem g;by_cases a:d∈A
 .rw[gH l aw (cX _ a),(vO o f g).1 a];by_cases e:d=A.getLast f
  .rw[ad e,e,tG,gH j (t:=B) sS n]
  .rw[ac e,jT e (fun k=>h d a _ n k),gH j (t:=A) sS a]
 .by_cases b:d∈B
  .rw[gH l aw (dv _ b),(vO o f g).2 b];by_cases e:d=B.getLast g
   .rw[ad e,e,Cm,gH j (t:=A) sS m]
   .rw[ac e,jT (fun k=>a (by rw[k];exact m)) e,gH j (t:=B) sS b]
  .rw[jT (fun k=>a (by rw[k];exact m)) (fun k=>b (by rw[k];exact n))];unfold di;rw[sf (dg a b),sf (aa a),sf (aa b)]
def Flat(D:AN)(s:Int->Int)(P:List (Int×Int)):Prop:=2*bg (cu (Orb s) P) D+P.length=bg (Orb s) D+bg (Orb (ce s P)) D
def dU(D:AN)(P:List (Int×Int)):Prop:=∀ p∈P,p.1∈D/\p.2∈D/\p.1≠p.2
def ci(P:List (Int×Int)):AN:=P.flatMap fun p=>[p.1,p.2]
def bJ{P:List (Int×Int)}{x:Int}:x∈ci P↔∃ p∈P,x=p.1\/x=p.2:=by unfold ci;simp only[gh,ah,ml,nq]
section
variable {D:List Int} {s:Int->Int} (hs:cD D s)
include hs
theorem mW{p:Int×Int}{P:List (Int×Int)}(r:dU D (p::P)):Flat D s (p::P)↔Flat D s P/\(cu (Orb s) P p.1 p.2->Orb (ce s P) p.1 p.2):=by
 have b:dU D P:=fun q a=>r q (ar _ a);obtain⟨t,c,w⟩:=vP hs P b;obtain⟨f,g,v⟩:=r p aw;have a:=fE hs P fun q a=>⟨(b q a).1,(b q a).2.1⟩;have e:cD D (ce s (p::P)):=a.sw f g;have n:∀ x,ce s (p::P) x=ce s P (Eu.sw p.1 p.2 x):=fun _=>rfl;have m:=cU hs.per.eqv P;unfold Flat;rw[List.length_cons];by_cases d:Orb (ce s P) p.1 p.2
 .have o:=sA a.per e.per n v f g d;have l:bg (cu (Orb s) (p::P)) D=bg (cu (Orb s) P) D:=dA fun x _ y _=>Mg.same m (t _ _ d) x y;rw[l,o];constructor
  .intro h;exact⟨oO,fun _=>d⟩
  .intro h;have:=h.1;omega
 .have o:=nA a.per e.per n f g d;by_cases j:cu (Orb s) P p.1 p.2
  .have l:bg (cu (Orb s) (p::P)) D=bg (cu (Orb s) P) D:=dA fun x _ y _=>Mg.same m j x y;constructor
   .intro h;omega
   .intro h;exact absurd (h.2 j) d
  .have l:bg (cu (Orb s) P) D=bg (cu (Orb s) (p::P)) D+1:=pU m j f g;constructor
   .intro h;exact⟨oO,fun k=>absurd k j⟩
   .intro h;have:=h.1;omega
theorem Ak{Q P:List (Int×Int)}(a:dU D (Q++P))(h:Flat D s (Q++P)):Flat D s P:=by
 induction Q with
 |nil=>exact h
 |cons q Q d=>have c:=(mW hs (p:=q) (P:=Q++P) a).1 h;exact d (fun p b=>a p (ar _ b)) c.1
end
theorem mS{R S:Int->Int->Prop}(a:fJ S)(h:∀ x y,R x y->S x y):∀ {P:List (Int×Int)},(∀ p∈P,S p.1 p.2)->∀ x y,cu R P x y->S x y
 |[],_,x,y,k=>h x y k
 |_::P,hp,x,y,k=>Mg.le a (hp _ aw) (fun x y k=>mS a h (fun p q=>hp p (ar _ q)) x y k) k
def AH{R:Int->Int->Prop}(a:fJ R){P Q:List (Int×Int)}(h:∀ p∈P,p∈Q){x y:Int}(k:cu R P x y):cu R Q x y:=
 mS (cU a Q) (fun _ _ k=>eW Q k) (fun p b=>iB a Q (h p b)) x y k
theorem mT(s:Int->Int):∀ {P:List (Int×Int)},(ci P).Nodup->∀ p∈P,ce s P p.1=s p.2/\ce s P p.2=s p.1
 |[],_,_,h=>by cases h
 |q::P,hn,p,h=>by
  have f:(q.1::q.2::ci P).Nodup:=hn;rw[cb,cb]at f;obtain⟨g,j,w⟩:=f;have d:∀ x,x∉ci P->ce s P x=s x:=fun x a=>by
   have c:∀(P:List (Int×Int)),x∉ci P->ce s P x=s x:=by
    intro P;induction P with
    |nil=>intro _;rfl
    |cons r P b=>intro a;have m:x≠r.1:=fun e=>a (bJ.2 ⟨r,aw,.inl e⟩);have n:x≠r.2:=fun e=>a (bJ.2 ⟨r,aw,.inr e⟩);show ce s P (Eu.sw r.1 r.2 x)=s x;rw[jT m n];exact b fun k=>by obtain⟨p,o,e⟩:=bJ.1 k;exact a (bJ.2 ⟨p,ar _ o,e⟩)
   exact c P a
  rcases ah.1 h with rfl|h
  .refine⟨?_,?_⟩
   .show ce s P (Eu.sw p.1 p.2 p.1)=s p.2;rw[tG];exact d _ j
   .show ce s P (Eu.sw p.1 p.2 p.2)=s p.1;rw[Cm];exact d _ fun k=>g (ar _ k)
  .have t:p.1∈ci P:=bJ.2 ⟨p,h,.inl rfl⟩;have v:p.2∈ci P:=bJ.2 ⟨p,h,.inr rfl⟩;have l:∀ x∈ci P,Eu.sw q.1 q.2 x=x:=fun x a=>jT (fun e=>g (ar _ (e ▸ a))) (fun e=>j (e ▸ a));have b:=mT s w p h;exact⟨by show ce s P (Eu.sw q.1 q.2 p.1)=_;rw[l _ t];exact b.1,by show ce s P (Eu.sw q.1 q.2 p.2)=_;rw[l _ v];exact b.2⟩
theorem oP(s:Int->Int):∀ {P:List (Int×Int)} {x:Int},x∉ci P->ce s P x=s x
 |[],_,_=>rfl
 |r::P,x,hx=>by have a:x≠r.1:=fun e=>hx (bJ.2 ⟨r,aw,.inl e⟩);have b:x≠r.2:=fun e=>hx (bJ.2 ⟨r,aw,.inr e⟩);show ce s P (Eu.sw r.1 r.2 x)=s x;rw[jT a b];exact oP s fun k=>by obtain⟨p,c,e⟩:=bJ.1 k;exact hx (bJ.2 ⟨p,ar _ c,e⟩)
def Sb(s:Int->Int){P Q:List (Int×Int)}(e:(ci P).Nodup)(f:P.Perm Q)(x:Int):ce s P x=ce s Q x:=by
 have hf:(ci P).Perm (ci Q):=f.flatMap_right _;have g:=hf.nodup_iff.1 e;by_cases c:x∈ci P
 .obtain⟨p,d,h⟩:=bJ.1 c;have a:=mT s e p d;have b:=mT s g p (f.mem_iff.1 d);rcases h with rfl|rfl
  .rw[a.1,b.1]
  .rw[a.2,b.2]
 .rw[oP s c,oP s fun k=>c (hf.mem_iff.2 k)]
def kQ{D:AN}{s:Int->Int}(b:cD D s){P Q:List (Int×Int)}(d:(ci P).Nodup)(a:P.Perm Q)(h:Flat D s P):Flat D s Q:=by have e:ce s P=ce s Q:=funext fun x=>Sb s d a x;have c:bg (cu (Orb s) P) D=bg (cu (Orb s) Q) D:=dA fun x _ y _=>⟨AH b.per.eqv fun p k=>a.mem_iff.1 k,AH b.per.eqv fun p k=>a.mem_iff.2 k⟩;unfold Flat at h ⊢;rw[<- e,<- c,<- a.length_eq];exact h
def Oh{D:AN}{s:Int->Int}(b:cD D s){E R S:List (Int×Int)}{p:Int×Int}(g:dU D E)(j:(ci E).Nodup)(h:Flat D s E)(d:E.Perm (R++p::S)):Flat D s S/\(cu (Orb s) S p.1 p.2->Orb (ce s S) p.1 p.2):=by have e:=kQ b j d h;have c:dU D (R++p::S):=fun q a=>g q (d.mem_iff.2 a);have f:=Ak b c e;exact(mW b fun q a=>c q (dv _ a)).1 f
def Way(s:Int->Int):List (Int×Int)->Prop
 |[]=>True
 |[_]=>True
 |p::q::Q=>Orb s p.2 q.1/\Way s (q::Q)
def km(s:Int->Int)(Q:List (Int×Int))(d:Int):Prop:=∃ q∈Q,Orb s q.2 d
theorem Lm{s:Int->Int}:∀ {Q R:List (Int×Int)},Way s (Q++R)->Way s Q/\Way s R
 |[],_,h=>⟨trivial,h⟩
 |[p],R,h=>by
  refine⟨trivial,?_⟩;cases R with
  |nil=>trivial
  |cons r R=>exact h.2
 |p::q::Q,R,h=>by obtain⟨a,b⟩:=h;have:=Lm (Q:=q::Q) (R:=R) b;exact⟨⟨a,this.1⟩,this.2⟩
theorem AA{s:Int->Int}{R:Int->Int->Prop}(d:fJ R)(e:∀ x y,Orb s x y->R x y):∀ {Q:List (Int×Int)} {a:Int×Int},Way s (a::Q)->(∀ q∈a::Q,R q.1 q.2)->∀ q∈a::Q,R a.1 q.1
 |[],a,_,_,q,c=>by rw[bf]at c;subst c;exact d.refl _
 |b::Q,a,hw,hp,q,c=>by
  rcases ah.1 c with rfl|c
  .exact d.refl _
  .have f:R a.1 b.1:=d.trans (hp a aw) (e _ _ hw.1);exact d.trans f (AA d e hw.2 (fun q k=>hp q (ar _ k)) q c)
def GY{D:AN}{s:Int->Int}(P:cD D s){S Q:List (Int×Int)}{z:Int×Int}(hn:(ci (z::(Q++S))).Nodup)
 (K:Way s (Q++[z])) (hS:∀ d∈ci S,¬km s Q d) (hz:¬km s Q z.2) {a:Int} (O:((Q=[]/\a=z.1)\/∃ p l,Q=p::l/\a=p.1)) (hai:¬km s Q a)
 (hf:cu (Orb s) (Q++S) z.1 z.2->Orb (ce s (Q++S)) z.1 z.2) (hc:cu (Orb s) S a z.2):Orb (ce s S) a z.2:=by
 have H:=cU P.per.eqv (Q++S);have o:(ci (Q++S)).Nodup:=by have h:(z.1::z.2::ci (Q++S)).Nodup:=hn;exact(cb.1 (cb.1 h).2).2
 have hnS:(ci S).Nodup:=by unfold ci at o ⊢;rw[nh]at o;exact(bw.1 o).2.1
 have I:∀ x∈ci Q,x∉ci S:=by unfold ci at o ⊢;rw[nh]at o;exact fun x v R=>(bw.1 o).2.2 x v x R rfl
 have hus:∀ x y,Orb s x y->cu (Orb s) (Q++S) x y:=fun x y k=>eW _ k;have Y:cu (Orb s) (Q++S) a z.1:=by
  rcases O with⟨_,rfl⟩|⟨p,l,j,rfl⟩
  .exact H.refl _
  .have m:∀(Q:List (Int×Int)) (p:Int×Int),Way s (p::Q++[z])->(∀ q∈p::Q,cu (Orb s) (p::Q++S) q.1 q.2)->True:=fun _ _ _ _=>trivial;have N:Way s (p::(l++[(z.1,z.1)])):=by
    rw[j]at K;have U:∀(L:List (Int×Int)) (p:Int×Int),Way s (p::(L++[z]))->Way s (p::(L++[(z.1,z.1)])):=by
     intro L;induction L with
     |nil=>intro p h;exact⟨h.1,trivial⟩
     |cons q L w=>intro p h;exact⟨h.1,w q h.2⟩
    exact U l p K
   exact AA H hus N (fun q f=>by
    rcases ah.1 f with rfl|f
    .exact iB P.per.eqv _ (by rw[j];exact cX _ aw)
    .rcases an.1 f with f|f
     .exact iB P.per.eqv _ (by rw[j];exact cX _ (ar _ f))
     .rw[bf]at f;subst f;exact H.refl _) (z.1,z.1) (ar _ (dv _ (bf.2 rfl)))
 have W2:cu (Orb s) (Q++S) z.1 z.2:=H.trans (H.symm Y) (AH P.per.eqv (fun p g=>dv _ g) hc);have J:=hf W2;have n9:∀ d,km s Q d->km s Q (s d):=fun d ⟨q,f,k⟩=>⟨q,f,k.trans (Orb.step s d)⟩;have t:∀ p∈Q,(p.1=a/\a≠z.1)\/km s Q p.1:=by
  intro p g;rcases O with⟨rfl,_⟩|⟨E,l,j,rfl⟩
  .cases g
  .have m:∀(L:List (Int×Int)) (b:Int×Int),Way s (b::L)->(∀ q∈b::L,q∈Q)->∀ q∈L,km s Q q.1:=by
    intro L;induction L with
    |nil=>intro b _ _ q f;cases f
    |cons c L w=>
     intro b A C q f;rcases ah.1 f with rfl|f
     .exact⟨b,C b aw,A.1⟩
     .exact w c A.2 (fun q k=>C q (ar _ k)) q f
   rw[j]at g;rcases ah.1 g with rfl|g
   .refine .inl ⟨rfl,fun e=>?_⟩;have h:(z.1::z.2::ci (Q++S)).Nodup:=hn;exact(cb.1 h).1 (ar _ (bJ.2 ⟨p,by rw[j];exact cX _ aw,.inl e.symm⟩))
   .have M:=(Lm K).1;rw[j]at M;exact .inr (m l E M (fun q k=>by rw[j];exact k) p g)
 have hz1:a=z.1\/km s Q z.1:=by
  rcases O with⟨_,rfl⟩|⟨E,l,j,rfl⟩
  .exact .inl rfl
  .refine .inr ?_;have m:∀(L:List (Int×Int)) (b:Int×Int),Way s (b::(L++[z]))->(∀ q∈b::L,q∈Q)->km s Q z.1:=by
    intro L;induction L with
    |nil=>intro b A C;exact⟨b,C b aw,A.1⟩
    |cons c L w=>intro b A C;exact w c A.2 fun q k=>C q (ar _ k)
   rw[j]at K;exact m l E K fun q k=>by rw[j];exact k
 have X:a∉ci S:=fun k=>by
  rcases O with⟨rfl,rfl⟩|⟨E,l,j,rfl⟩
  .have h:(z.1::z.2::ci ([]++S)).Nodup:=hn;exact(cb.1 h).1 (ar _ k)
  .exact I E.1 (bJ.2 ⟨E,by rw[j];exact aw,.inl rfl⟩) k
 let T:Int->Prop:=fun d=>Orb (ce s S) a d\/km s Q d;have hT:∀ d,T d->T (ce s (Q++S) d):=by
  intro d B;by_cases V:d∈ci Q
  .obtain⟨p,g,e⟩:=bJ.1 V;have v:=mT s o p (cX _ g);rcases e with rfl|rfl
   .rw[v.1];exact .inr ⟨p,g,Orb.step s _⟩
   .rw[v.2];rcases t p g with⟨k,_⟩|k
    .rw[k];refine .inl ?_;have:ce s S a=s a:=oP s X;exact⟨1,this⟩
    .exact .inr (n9 _ k)
  .by_cases F:d∈ci S
   .obtain⟨p,g,e⟩:=bJ.1 F;have v:=mT s o p (dv _ g);have R:=mT s hnS p g;have O9:Orb (ce s S) a d:=B.resolve_right (hS d F);have Z:ce s (Q++S) d=ce s S d:=by
     rcases e with rfl|rfl
     .rw[v.1,R.1]
     .rw[v.2,R.2]
    rw[Z];exact .inl (O9.trans (Orb.step _ _))
   .have h3:d∉ci (Q++S):=fun k=>by unfold ci at k V F;rw[nh,an]at k;exact k.elim V F
    rw[oP s h3];rcases B with B|B
    .refine .inl ?_;have:ce s S d=s d:=oP s F;rw[<- this];exact B.trans (Orb.step _ _)
    .exact .inr (n9 _ B)
 have W:∀ n d,T d->T (it (ce s (Q++S)) n d):=by
  intro n;induction n with
  |zero=>intro d h;exact h
  |succ n w=>intro d h;rw[bF];exact hT _ (w d h)
 obtain⟨n,hnn⟩:=J;have h0:T z.1:=by
  rcases hz1 with rfl|k
  .exact .inl (Orb.refl _ _)
  .exact .inr k
 have r:=W n z.1 h0;rw[hnn]at r;exact r.resolve_right hz
end Aw
end Go.Proofs.YtbgngpdonpeboaaGreatDoor
