/- Lemmas. -/
import Derived.Test.YtbgngpdonpeboaaGreatDoorJa
import Derived.Test.YtbgngpdonpeboaaGreatDoorAwFn
import Derived.Test.YtbgngpdonpeboaaGreatDoorAwShp
set_option linter.defProp false
set_option maxHeartbeats 4000000
open Go.Proofs.Tryz
namespace Go.Proofs.YtbgngpdonpeboaaGreatDoor
namespace Aw
open Go Go.RowKit Pl
def partitionEqual(l:PP)(q a b pv:Nat)(M:St)(hl:small l)(r9:a<b)(hb:b<=l.length)(hp1:a<=pv)(hp2:pv<b)(hH:M.H q=.box 34 1 (us l)):
 aD prog 127 [.ms q 0 l.length,i a,i b,i pv] M fun r st'=>∃(c:PP) (R:Nat),r=i R/\st'=bx M q c/\Pm a b l c/\a<R/\R<=b/\Kj c a R b (l.getD pv 0):=by
 unfold small at hl;refine zN func127 ntmps127 [.tmp 8] ?_
 (repeat (apply qS));(refine zE ?_;intro J A;simp[];refine zJ A ?_)
 have W:a<l.length:=O;have hlp:pv<l.length:=O;have Q:=fun x y=>Mj M q l a pv (x:=x) (y:=y) O O;have B:=qG l a O;have T:=qG l pv O;have u6:Pm a b l (sw l a pv):=Pm.one a pv O O O O O;have hx:(sw l a pv).getD a 0=l.getD pv 0:=by
  rw[dB _ _ _ _ O O];by_cases e:a=pv
  .rw[ac e,e]
  .rw[aa e,ac rfl]
 generalize hy0:l.getD a 0=y0 at *;generalize hy1:l.getD pv 0=x at *;have F:=Q y0 x rfl rfl
 (repeat (apply qS));(refine zS [] [q] [0,2,4,6,8,10,12,14,16,18,20,22,24,27,28,31] ?_;intro J A;simp[hH,W,hlp,B,T];(repeat refine ca ?_);refine zJ A ?_)
 rw[F];clear Q F B T hy0;generalize hc:sw l a pv=c at *;clear hc;have r8:=u6.len;have w1:=qN a O;have w2:=aY b O O;obtain⟨P,N⟩:∃ P:Int->Bool,∀ v,P v=!decide (x<v):=⟨_,fun _=>rfl⟩;apply qS;refine cM (fun f j=>f 0=.ms q 0 l.length/\f 1=i a/\f 9=i ((a+1:Nat):Int)/\f 10=i ((b-1:Nat):Int)/\j=bx M q c) (by(refine zE ?_;intro J A;simp[w1,w2];refine zJ A ?_);simp) ?_;rintro f j ⟨k,n,o,s,rfl⟩;have I:a<a+1:=O;have K:a+1<=b-1+1:=O;have hjb:b-1<b:=O;have w:Lo P c a (a+1):=fun p h1 U=>by omega
 have t:Hi P c (b-1) b:=fun p h1 U=>by omega
 generalize a+1=d at *;generalize b-1=z at *;clear w1 w2;have B:=qG c a O;rw[hx]at B;apply qS;apply qB;refine qL (fun m f j=>∃(d z:Nat) (c:PP),a<d/\d<=z+1/\z<b/\z=m/\f 0=.ms q 0 l.length/\f 1=i a/\f 9=i d/\f 10=i z/\j=bx M q c/\Pm a b l c/\c.getD a 0=x/\Lo P c a d/\Hi P c z b) z ?_ ?_
 .exact⟨d,z,c,O,O,O,rfl,k,n,o,s,rfl,u6,hx,w,t⟩
 clear k n o s w t u6 hx r8 B I K hjb d z c f;rintro m f j ⟨d,z,c,I,K,hjb,rfl,k,n,o,s,rfl,u6,hx,w,t⟩ JJ0 hJ0;have r8:=u6.len;have B:=qG c a O;rw[hx]at B;apply qB;apply qS;refine cM (fun f j=>∃ d:Nat,a<d/\d<=z+1/\f 0=.ms q 0 l.length/\f 1=i a/\f 9=i d/\f 10=i z/\j=bx M q c/\Lo P c a d/\yy P c d z) ?_ ?_
 .apply qB;refine qL (fun m f j=>∃ d:Nat,a<d/\d<=z+1/\m=z+1-d/\f 0=.ms q 0 l.length/\f 1=i a/\f 9=i d/\f 10=i z/\j=bx M q c/\Lo P c a d) (z+1-d) ?_ ?_
  .exact⟨d,O,O,rfl,Z k,Z n,Z o,Z s,rfl,w⟩
  clear k n o s w I K f d;rintro m f j ⟨d,I,K,rfl,k,n,o,s,rfl,w⟩ JJ D;have V:=qN d O;by_cases E:d<=z;rotate_left
  .clear D
   (repeat (apply qS));(refine zS [] [q] [0,2,4,6,8,10,12,14,16,18,20,22,25,26,28] ?_;intro J A;simp[k,n,o,s,E];refine zJ A ?_)
   refine bz ?_;exact⟨trivial,d,O,O,Z k,Z n,Z o,Z s,by trivial,w,fun h=>absurd h E⟩
  have X:d<l.length:=O;have T:=qG c d O;have hmo:=w.more;generalize hy:c.getD d 0=y at *
  (repeat (apply qS));(refine zS [] [q] [0,2,4,6,8,10,12,14,16,18,20,22,25,26,28] ?_;intro J A;simp[k,n,o,s,E,X,W,r8,B,T])
  refine aS (yK x y _) ?_;rintro r s2 ⟨rfl,rfl⟩;refine⟨fun _=>by simp,?_⟩;have hP:=N y;by_cases C:x<y
  .clear D
   (apply bM;simp[C];refine zJ A ?_)
   refine bz ?_;exact⟨trivial,d,O,O,Z k,Z n,Z o,Z s,by trivial,w,fun _=>by rw[hy,hP];simp[C]⟩
  ·(apply bM;simp[C];refine zJ A ?_)
   refine cm o V ?_;exact D (z+1-(d+1)) _ _ O ⟨d+1,O,O,rfl,Z k,Z n,Y,Z s,rfl,hmo (by rw[hP];simp[C])⟩
 clear k n o s w I K f d;rintro f j ⟨d,I,K,k,n,o,s,rfl,w,hst⟩;apply qS;refine cM (fun f j=>∃ g:Nat,a<=g/\g<=z/\d<=g+1/\f 0=.ms q 0 l.length/\f 1=i a/\f 9=i d/\f 10=i g/\j=bx M q c/\Hi P c g b/\yz P c d g) ?_ ?_
 .apply qB;refine qL (fun m f j=>∃ g:Nat,a<=g/\g<=z/\d<=g+1/\g=m/\f 0=.ms q 0 l.length/\f 1=i a/\f 9=i d/\f 10=i g/\j=bx M q c/\Hi P c g b) z ?_ ?_
  .exact⟨z,O,O,O,rfl,Z k,Z n,Z o,Z s,rfl,t⟩
  clear k n o s t f;rintro m f j ⟨g,hak,hkj,hik,rfl,k,n,o,s,rfl,t⟩ JJ D;by_cases E:d<=g;rotate_left
  .clear D
   (repeat (apply qS));(refine zS [] [q] [0,2,4,6,8,10,12,14,16,18,20,22,25,26] ?_;intro J A;simp[k,n,o,s,E];refine zJ A ?_)
   refine bz ?_;exact⟨trivial,g,O,O,O,Z k,Z n,Z o,Z s,by trivial,t,fun h=>absurd h E⟩
  have hja:=aY g O O;have hlj:g<l.length:=O;have T:=qG c g O;have hmo:=t.more;generalize hy:c.getD g 0=y at *
  (repeat (apply qS));(refine zS [] [q] [0,2,4,6,8,10,12,14,16,18,20,22,25,26] ?_;intro J A;simp[k,n,o,s,E,hlj,W,r8,B,T])
  refine aS (yK x y _) ?_;rintro r s2 ⟨rfl,rfl⟩;refine⟨fun _=>by simp,?_⟩;have hP:=N y;by_cases C:x<y
  ·(apply bM;simp[C];refine zJ A ?_)
   refine cm s hja ?_;exact D (g-1) _ _ O ⟨g-1,O,O,O,rfl,Z k,Z n,Z o,Y,rfl,hmo O (by rw[hP];simp[C])⟩
  .clear D
   (apply bM;simp[C];refine zJ A ?_)
   refine bz ?_;exact⟨trivial,g,O,O,O,Z k,Z n,Z o,Z s,by trivial,t,fun _=>by rw[hy,hP];simp[C]⟩
 clear k n o s t f;rintro f j ⟨g,hak,hkj,hik,k,n,o,s,rfl,t,L⟩;by_cases E:d<=g;rotate_left
 .clear hJ0
  (repeat' (first|apply qS|refine qX (zZ ?_)|(refine qR (zZ ?_);simp[k,n,o,s,E])|(apply qC;simp[k,n,o,s,E];(try with_reducible intro hc))|(refine zE ?_;intro J A;simp[k,n,o,s,E];refine zJ A ?_)))
  refine⟨c,d,rfl,rfl,u6,O,O,fun p h1 U=>?_,fun p h1 U=>?_⟩
  .by_cases e:p=a
   .rw[e,hx];exact qe _
   .have:=w p O U;rw[N]at this;simpa using this
  .have:=t p O U;rw[N]at this;simpa using this
 have S:d<g:=by
  rcases ec d g with h|h
  .exact h
  .exfalso;have e:d=g:=O;have h1:=hst O;have U:=L E;rw[e,U]at h1;cases h1
 have hLo2:=w.swp S O (L E);have hHi2:=t.swp S O (hst O);have hpm2:=u6.step d g O O O O O;have hxx:(sw c d g).getD a 0=x:=by rw[dB _ _ _ _ O O,aa O,aa O];exact hx
 have X:d<l.length:=O;have hlk:g<l.length:=O;have T:=qG c d O;have hd2:=qG c g O;have Q:=fun x y=>pM M q c d g (x:=x) (y:=y) O O;have V:=qN d O;have hka:=aY g O O;clear hst L;generalize hy1:c.getD d 0=y1 at *;generalize hy2:c.getD g 0=y2 at *;have F:=Q y1 y2 rfl rfl
 (repeat' (first|apply qS|refine qK (zZ ?_)|(apply qC;simp[k,n,o,s,E];(try with_reducible refine⟨?_,?_⟩)<;>(try with_reducible intro hc)<;>try (exfalso;omega))|(refine zE ?_;intro J A;simp[k,n,o,s,E];refine zJ A ?_)))
 (refine zS [] [q] [0,2,4,6,8,10,12,14,16,18,20,22,24,27,28,31] ?_;intro J A;simp[k,n,o,s,X,hlk,r8,T,hd2];(repeat refine ca ?_);refine zJ A ?_)
 refine eI o s V hka ?_;exact hJ0 (g-1) _ _ O ⟨d+1,g-1,sw c d g,O,O,O,rfl,Z k,Z n,Y,Y,F,hpm2,hxx,hLo2,hHi2⟩
def sP(l:PP)(a b:Nat):Prop:=0<a->∀ j,a<=j->j<b->l.getD (a-1) 0<=l.getD j 0
variable{Q:AQ}{x y:Code}{c d:List Int}{k:List iM}{N a b m p q:Nat}{P:Program}
def sP.pm{l:PP}(h:sP l a b)(k:Pm a b l c):sP c a b:=by intro f j d e;rw[k.out (a-1) O];exact k.all (fun x=>l.getD (a-1) 0<=x) (fun j d e=>h f j d e) j d e
def K8(c:PP)(k b:Nat):Prop:=k<b->c.getD k 0<c.getD (k-1) 0
def N6(p:Bool)(a b:Nat)(c:PP):Prop:=p=true->Srt a b c
def WI(q a b k j:Nat)(l:PP)(f:St)(d:ah)(e:St):Prop:=∃ c:PP,d 0=.ms q 0 l.length/\d 1=i a/\d 2=i b/\d 7=i k/\d 8=i j/\e=bx f q c/\Pm a b l c/\Srt a k c
def partialInsertionSort(l:PP)(q a b:Nat)(M:St)(hl:small l)(ha:a<b)(hb:b<=l.length)(hah:sP l a b)(hH:M.H q=.box 34 1 (us l)):
 aD prog 125 [.ms q 0 l.length,i a,i b] M fun r st'=>∃ c p,r=bb p/\st'=bx M q c/\Pm a b l c/\N6 p a b c:=by
 unfold small at hl;refine zN func125 ntmps125 [.tmp 6] ?_;have hw0:=qN a O;refine df hw0 ?_;refine qL (fun n d o=>∃(j k:Nat) (c:PP),j<=5/\n=5-j/\a<k/\k<=b/\d 0=.ms q 0 l.length/\d 1=i a/\d 2=i b/\d 7=i k/\d 8=i j/\o=bx M q c/\Pm a b l c/\Srt a k c) 5 ?_ ?_
 .exact⟨0,a+1,l,O,rfl,O,O,Y,Y,Y,Y,Y,yL hH,.refl,fun p q h1 h2 h3=>by omega⟩
 rintro n d o ⟨j,k,c,hj,rfl,D,E,g,s,f,e,t,rfl,w,B⟩ J0 K;by_cases hj5:(j:Int)<5;rotate_left
 .clear K;refine cm t hj5 ?_;exact⟨c,rfl,w,fun h=>by cases h⟩
 have T:=w.len
 (repeat (apply qS));(refine zE ?_;intro J C;simp[t,hj5];refine zJ C ?_)
 (apply qC;simp[])
 refine qK (zZ ?_);apply qS;apply qB;apply qS;refine cM (fun d o=>∃ k:Nat,a<k/\k<=b/\d 0=.ms q 0 l.length/\d 1=i a/\d 2=i b/\d 7=i k/\d 8=i j/\o=bx M q c/\Srt a k c/\K8 c k b) ?_ ?_
 .apply qB;refine qL (fun n d o=>∃ k:Nat,n=b-k/\a<k/\k<=b/\d 0=.ms q 0 l.length/\d 1=i a/\d 2=i b/\d 7=i k/\d 8=i j/\o=bx M q c/\Srt a k c) (b-k) ?_ ?_
  .exact⟨k,rfl,D,E,Z g,Z s,Z f,Z e,Z t,rfl,B⟩
  clear g s f e t B D E d k;rintro n d o ⟨k,rfl,D,E,g,s,f,e,t,rfl,B⟩ JJ v;by_cases dS:k<b;rotate_left
  .clear v
   (repeat (apply qS));(refine zS [] [q] [0,2,4,6,8,10,12,14,16,18,20,22,24,27,28,30] ?_;intro J C;simp[g,f,e,dS];refine zJ C ?_)
   refine bz ?_;exact⟨trivial,k,O,O,Z g,Z s,Z f,Z e,Z t,by trivial,B,fun h=>absurd h dS⟩
  have w1:=qN k O;have w2:=aY k O O;have U:=qG c k O;have z:=qG c (k-1) O;have X:k<l.length:=O;have hl2:k-1<l.length:=O;have j7:=B.ins.done O;generalize hx:c.getD k 0=x at *;generalize hy:c.getD (k-1) 0=y at *
  (repeat (apply qS));(refine zS [] [q] [0,2,4,6,8,10,12,14,16,18,20,22,24,27,28,30] ?_;intro J C;simp[g,f,e,dS,w2,X,hl2,T,U,z])
  refine aS (yK x y _) ?_;rintro r s2 ⟨rfl,rfl⟩;refine⟨fun _=>by simp,?_⟩;by_cases W0:x<y
  .clear v
   (apply bM;simp[W0];refine zJ C ?_)
   refine bz ?_;exact⟨trivial,k,O,O,Z g,Z s,Z f,Z e,Z t,by trivial,B,fun h=>by rw[hx,hy];exact W0⟩
  ·(apply bM;simp[W0];refine zJ C ?_)
   refine cm e w1 ?_;exact v (b-(k+1)) _ _ O ⟨k+1,rfl,O,O,Z g,Z s,Z f,Y,Z t,rfl,j7 (.inr W0)⟩
 clear g s f e t B D E d k;rintro d o ⟨k,D,E,g,s,f,e,t,rfl,B,W⟩;by_cases hkb2:k=b
 .clear K;have I:(k:Int)=(b:Int):=O;refine fw f e I ?_;exact⟨c,rfl,w,fun _=>by rw[<- hkb2];exact B⟩
 have I:¬(k:Int)=(b:Int):=O;have w1:IntKind.i64.wrap ((b:Int)-(a:Int))=(b:Int)-(a:Int):=zW;by_cases h50:(b:Int)-(a:Int)<50
 .clear K;refine ls s f e I w1 h50 ?_;exact⟨c,rfl,w,fun h=>by cases h⟩
 have w2:=aY k O O;have U:=qG c k O;have z:=qG c (k-1) O;have X:k<l.length:=O;have hl2:k-1<l.length:=O;have L:=fun x y=>pM M q c k (k-1) (x:=x) (y:=y) O O;have hs1:Srt a (k-1) (sw c k (k-1)):=by intro p q h1 h2 h3;rw[dB _ _ _ _ O O,dB _ _ _ _ O O,aa O,aa O,aa O,aa O];exact B p q h1 h2 O
 have F:=w.step k (k-1) O O O O O;generalize hx:c.getD k 0=x at *;generalize hy:c.getD (k-1) 0=y at *;have A:=L x y rfl rfl;refine ls s f e I w1 h50 ?_
 (refine zS [] [q] [0,2,4,6,8,10,12,14,16,18,20,22,24,26,28,31,32,35] ?_;intro J C;simp[g,e,w2,X,hl2,T,U,z];(repeat refine ca ?_);refine zJ C ?_)
 rw[A];clear L A U z hx hy B W;generalize hc1:sw c k (k-1)=c1 at *;have V:=F.len;clear hc1 w T c;have w3:IntKind.i64.wrap ((k:Int)-(a:Int))=(k:Int)-(a:Int):=zW;apply qS;refine cM (WI q a b k j l M) ?_ ?_
 .by_cases o6:(2:Int)<=(k:Int)-(a:Int);rotate_left
  .refine eI s e w3 o6 ?_;refine⟨by trivial,?_⟩;unfold WI;exact⟨c1,Z g,Z s,Z f,Z e,Z t,by trivial,F,fun p q h1 h2 h3=>by omega⟩
  refine jl s e w3 o6 w2 ?_;refine qL (fun n d o=>∃(m:Nat) (c:PP),a<=m/\m<=k-1/\m=n/\d 0=.ms q 0 l.length/\d 1=i a/\d 2=i b/\d 7=i k/\d 8=i j/\d 9=i m/\o=bx M q c/\Pm a b l c/\Ins a m (k-1) c) (k-1) ?_ ?_
  .exact⟨k-1,c1,O,O,rfl,Z g,Z s,Z f,Z e,Z t,Y,rfl,F,hs1.ins⟩
  clear g s f e t F hs1 V c1 d;rintro n d o ⟨m,c,ham,hmk,rfl,g,s,f,e,t,f9,rfl,w,hI⟩ JJ v;have T:=w.len;have j8:k-1+1=k:=O;by_cases hm1:(1:Int)<=(m:Int);rotate_left
  .clear v;refine cm f9 hm1 ?_;refine⟨by trivial,?_⟩;unfold WI;refine⟨c,Z g,Z s,Z f,Z e,Z t,by trivial,w,?_⟩;have:=hI.done ham (.inl O);rwa [j8]at this
  have w4:=aY m O O;have U:=qG c m O;have z:=qG c (m-1) O;have Q:m<l.length:=O;have R:m-1<l.length:=O;have L:=fun x y=>pM M q c m (m-1) (x:=x) (y:=y) O O;have hahm:m=a->¬c.getD m 0<c.getD (m-1) 0:=by rintro rfl;have:=hah.pm w O m O O;omega
  have P:=hI.done ham;rw[j8]at P;have hstep:=fun h=>hI.step h hmk O;generalize hx:c.getD m 0=x at *;generalize hy:c.getD (m-1) 0=y at *;have A:=L x y rfl rfl;refine cm f9 hm1 ?_
  (refine zS [] [q] [0,2,4,6,8,10,12,14,16,19,20] ?_;intro J C;simp[g,f9,w4,Q,R,T,U,z])
  refine aS (yK x y _) ?_;rintro r s2 ⟨rfl,rfl⟩;refine⟨fun _=>by simp,?_⟩;by_cases W0:x<y;rotate_left
  .clear v
   (apply bM;simp[W0];refine zJ C ?_)
   refine bz ?_;refine⟨by trivial,?_⟩;unfold WI;exact⟨c,Z g,Z s,Z f,Z e,Z t,by trivial,w,P (.inr W0)⟩
  have hma:a<m:=by
   rcases ec a m with h|h
   .exact h
   .exact absurd W0 (hahm O)
  have S:=w.step m (m-1) O O O O O
  (apply bM;simp[W0];refine zJ C ?_)
  refine bz ?_
  (refine zS [] [q] [0,2,4,6,8,10,12,14,16,18,20,22,24,26,28,31,32,35] ?_;intro J C;simp[g,f9,w4,Q,R,T,U,z];(repeat refine ca ?_);refine zJ C ?_)
  refine cm f9 w4 ?_;exact v (m-1) _ _ O ⟨m-1,sw c m (m-1),O,O,rfl,Z g,Z s,Z f,Z e,Z t,Y,A,S,hstep hma W0⟩
 clear g s f e t F hs1 V c1 d;rintro d o ⟨c,g,s,f,e,t,rfl,w,B⟩;have T:=w.len;have w5:IntKind.i64.wrap ((b:Int)-(k:Int))=(b:Int)-(k:Int):=zW;have w6:=qN j O;have w7:=qN k O;by_cases o6:(2:Int)<=(b:Int)-(k:Int);rotate_left
 .refine ls f e w5 o6 t w6 ?_;exact K (5-(j+1)) _ _ O ⟨j+1,k,c,O,rfl,D,E,Z g,Z s,Z f,Z e,Y,rfl,w,B⟩
 refine jl f e w5 o6 w7 ?_;refine qL (fun n d o=>∃(m:Nat) (c:PP),k<m/\m<=b/\n=b-m/\d 0=.ms q 0 l.length/\d 1=i a/\d 2=i b/\d 7=i k/\d 8=i j/\d 10=i m/\o=bx M q c/\Pm a b l c/\Srt a k c) (b-(k+1)) ?_ ?_
 .exact⟨k+1,c,O,O,rfl,Z g,Z s,Z f,Z e,Z t,Y,rfl,w,B⟩
 clear g s f e t w B T c d;rintro n d o ⟨m,c,hkm,hmb,rfl,g,s,f,e,t,N,rfl,w,B⟩ JJ v;have T:=w.len;by_cases dS:m<b;rotate_left
 .clear v;refine jl f N dS t w6 ?_;exact K (5-(j+1)) _ _ O ⟨j+1,k,c,O,rfl,D,E,Z g,Z s,Z f,Z e,Y,rfl,w,B⟩
 have w4:=aY m O O;have w8:=qN m O;have U:=qG c m O;have z:=qG c (m-1) O;have Q:m<l.length:=O;have R:m-1<l.length:=O;have L:=fun x y=>pM M q c m (m-1) (x:=x) (y:=y) O O;have S:=w.step m (m-1) O O O O O;have hs2:Srt a k (sw c m (m-1)):=by intro p q h1 h2 h3;rw[dB _ _ _ _ O O,dB _ _ _ _ O O,aa O,aa O,aa O,aa O];exact B p q h1 h2 O
 generalize hx:c.getD m 0=x at *;generalize hy:c.getD (m-1) 0=y at *;have A:=L x y rfl rfl;refine fw f N dS ?_
 (refine zS [] [q] [0,2,4,6,8,10,12,14,16,19,20] ?_;intro J C;simp[g,N,w4,Q,R,T,U,z])
 refine aS (yK x y _) ?_;rintro r s2 ⟨rfl,rfl⟩;refine⟨fun _=>by simp,?_⟩;by_cases W0:x<y;rotate_left
 .clear v
  (apply bM;simp[W0];refine zJ C ?_)
  refine cm t w6 ?_;exact K (5-(j+1)) _ _ O ⟨j+1,k,c,O,rfl,D,E,Z g,Z s,Z f,Z e,Y,rfl,w,B⟩
 (apply bM;simp[W0];refine zJ C ?_)
 refine bz ?_
 (refine zS [] [q] [0,2,4,6,8,10,12,14,16,18,20,22,24,26,28,31,32,35] ?_;intro J C;simp[g,N,w4,Q,R,T,U,z];(repeat refine ca ?_);refine zJ C ?_)
 refine cm N w8 ?_;exact v (b-(m+1)) _ _ O ⟨m+1,sw c m (m-1),O,O,rfl,Z g,Z s,Z f,Z e,Z t,Y,A,S,hs2⟩
abbrev ix(a:St)(p:Nat)(s:Int):St:=a.set p (.box 3 1 [i s])
def NS{a:St}{s:Int}(h:a.H p=.box 3 1 [i s]):a=ix a p s:=
 St.ext' rfl fun x=>by by_cases b:x=p<;>simp[b,h]
def OJ(b:St)(p:Nat)(s a:Int):ix (ix b p s) p a=ix b p a:=St.set_set _ _ _ _
def order2(l:PP)(q p a b:Nat)(s:Int)(e:St)(n:small l)(j:a<l.length)(k:b<l.length)(o:q≠p)(h:e.H q=.box 34 1 (us l))(m:e.H p=.box 3 1 [i s]):
 aD prog 190 [.ms q 0 l.length,i a,i b,.pt p 0] e fun r g=>∃(x y:Nat) (t:Int),r=.tu [i x,i y]/\g=ix e p t/\((x=a/\y=b)\/(x=b/\y=a)):=by
 unfold small at n;have v:=qG l a j;have f:=qG l b k;generalize l.getD a 0=x at *;generalize l.getD b 0=y at *;refine zN func190 ntmps190 [.tmp 8,.tmp 9] ?_
 (repeat (apply qS));(refine zE ?_;intro J d;simp[];refine zJ d ?_)
 (repeat (apply qS));(refine zS [] [q] [0,2,4,6,8,10,12,14,17] ?_;intro J d;simp[h,j,k,v,f])
 refine aS (yK y x _) ?_;rintro r w ⟨rfl,rfl⟩;refine⟨fun _=>by simp[h],?_⟩;by_cases c:y<x
 ·(apply bM;simp[c];refine zJ d ?_)
  refine df m ?_;exact⟨b,a,⟨rfl,rfl⟩,⟨_,rfl⟩,.inr ⟨rfl,rfl⟩⟩
 ·(apply bM;simp[c];refine zJ d ?_)
  refine bz ?_;exact⟨a,b,⟨rfl,rfl⟩,⟨s,NS m⟩,.inl ⟨rfl,rfl⟩⟩
def median(l:PP)(q p a b c:Nat)(s:Int)(g:St)(j:small l)(k:a<l.length)(m:b<l.length)(n:c<l.length)(d:q≠p)(h:g.H q=.box 34 1 (us l))(o:g.H p=.box 3 1 [i s]):
 aD prog 167 [.ms q 0 l.length,i a,i b,i c,.pt p 0] g fun r e=>∃(x:Nat) (t:Int),r=i x/\e=ix g p t/\(x=a\/x=b\/x=c):=by
 refine zN func167 ntmps167 [.tmp 10] ?_
 (refine ez ?_;intro J f)
 refine qF (order2 l q p a b s _ j k m d h o) ?_;rintro r e ⟨x,y,v,rfl,rfl,C⟩
 (refine nV f ?_;intro J f)
 refine qF (order2 l q p y c v _ j O n d (ek d h) Y) ?_;rintro r e ⟨A,I,w,rfl,rfl,D⟩
 (refine nV f ?_;intro J f)
 refine qF (order2 l q p x A w _ j O O d (ek d h) Y) ?_;rintro r e ⟨F,B,z,rfl,rfl,E⟩;refine dU f ?_;refine⟨B,rfl,⟨z,?_⟩,O⟩;rw[OJ,OJ]
def medianAdjacent(l:PP)(q p a:Nat)(s:Int)(c:St)(f:small l)(t:0<a)(w:a+1<l.length)(e:q≠p)(g:c.H q=.box 34 1 (us l))(j:c.H p=.box 3 1 [i s]):
 aD prog 166 [.ms q 0 l.length,i a,.pt p 0] c fun r b=>∃(x:Nat) (k:Int),r=i x/\b=ix c p k/\a-1<=x/\x<=a+1:=by
 have d:=f;unfold small at d;have n:=qN a O;have o:=aY a O O;refine zN func166 ntmps166 [.tmp 6] ?_
 (refine qh n o ?_;intro J h)
 refine qF (median l q p (a-1) a (a+1) s _ f O O O e g j) ?_;rintro r b ⟨x,m,rfl,rfl,v⟩;refine dU h ?_;exact⟨x,rfl,⟨m,rfl⟩,O⟩
def Zx(q n a b:Nat)(g:St)(c:ah)(h:St):Prop:=∃(d e f:Nat) (s:Int),c 0=.ms q 0 n/\c 9=.pt g.z 0/\c 10=i d/\c 11=i e/\c 12=i f/\a<=d/\d<b/\a<=e/\e<b/\a<=f/\f<b/\h=ix (g.new (.box 3 1 [i 0])) g.z s
def choosePivot(l:PP)(q a b:Nat)(e:St)(o:small l)(r9:a+8<=b)(hb:b<=l.length)(P:q<e.z)(t:e.H q=.box 34 1 (us l)):
 aD prog 123 [.ms q 0 l.length,i a,i b] e fun r g=>∃(x:Nat) (h:Int),r=.tu [i x,i h]/\a<=x/\x<b/\aC e g:=by
 have A:=o;unfold small at A;obtain⟨n,hn⟩:∃ n:Nat,n=b-a:=⟨_,rfl⟩;obtain⟨d,B⟩:∃ m:Nat,m=n / 4:=⟨_,rfl⟩;obtain⟨C,j8⟩:∃ m:Nat,m=a+d:=⟨_,rfl⟩;obtain⟨D,o6⟩:∃ m:Nat,m=a+d*2:=⟨_,rfl⟩;obtain⟨E,o9⟩:∃ m:Nat,m=a+d*3:=⟨_,rfl⟩;have X:IntKind.i64.wrap ((b:Int)-(a:Int))=(n:Int):=zW;have w2:IntKind.i64.wrap ((n:Int) / 4)=(d:Int):=by rw[show(n:Int) / 4=((n / 4:Nat):Int) from rfl,<- B];exact wrap_i64 _ O O
 have w3:IntKind.i64.wrap (d:Int)=(d:Int):=zW;have w4:IntKind.i64.wrap ((d:Int)*2)=((d*2:Nat):Int):=zW;have w5:IntKind.i64.wrap ((d:Int)*3)=((d*3:Nat):Int):=zW;have w6:IntKind.i64.wrap ((a:Int)+(d:Int))=(C:Int):=zW;have w7:IntKind.i64.wrap ((a:Int)+((d*2:Nat):Int))=(D:Int):=zW;have w8:IntKind.i64.wrap ((a:Int)+((d*3:Nat):Int))=(E:Int):=zW;have I:(8:Int)<=(n:Int):=O;have c:q≠e.z:=O;generalize ((d*2:Nat):Int)=e2 at *;generalize ((d*3:Nat):Int)=e3 at *;refine zN func123 ntmps123 [.tmp 6,.tmp 7] ?_
 (repeat' (first|apply qS|(refine zE ?_;intro J f;simp[X,w2,w3,w4,w5,w6,w7,w8,I];(refine zJ f ?_;clear f J))))
 apply qC;simp[I];apply qS;refine cM (Zx q l.length a b e) ?_ ?_
 .by_cases j:(50:Int)<=(n:Int)
  ·(refine jn j ?_;intro J f)
   refine qF (medianAdjacent l q e.z C 0 _ o O O c (ek c t) Y) ?_;rintro r g ⟨x1,F,rfl,rfl,L⟩
   (refine nV f ?_;intro J f)
   refine qF (medianAdjacent l q e.z D F _ o O O c (ek c t) Y) ?_;rintro r g ⟨x2,U,rfl,rfl,M⟩
   (refine nV f ?_;intro J f)
   refine qF (medianAdjacent l q e.z E U _ o O O c (ek c t) Y) ?_;rintro r g ⟨x3,V,rfl,rfl,N⟩;refine dU f ?_;refine⟨by trivial,?_⟩;unfold Zx;exact⟨x1,x2,x3,V,Y,Y,Y,Y,Y,O,O,O,O,O,O,by rw[OJ,OJ]⟩
  .refine df j ?_;refine⟨by trivial,?_⟩;unfold Zx;exact⟨C,D,E,0,Y,Y,Y,Y,Y,O,O,O,O,O,O,NS Y⟩
 rintro fr W ⟨Q,R,S,s,K,p,v,w,y,L,M,N,h4,h5,h6,rfl⟩
 (refine vL K p v w y ?_;intro J f)
 refine qF (median l q e.z Q R S s _ o O O O c (ek c t) Y) ?_;rintro r g ⟨x,F,rfl,rfl,hx⟩;have T:aC e (ix (ix (e.new (.box 3 1 [i 0])) e.z s) e.z F):=((aC.new _ _).set (au _) _).set (au _) _;have k:a<=x/\x<b:=O
 (repeat' (first|apply qS|apply qB|(refine qR (zZ ?_);simp[p])|(apply qC;simp[p];(try with_reducible refine⟨?_,?_⟩)<;>(try with_reducible intro hc))|((first|(refine zE ?_;intro J f)|(apply cP));simp[p];(refine zJ f ?_;clear f J))))
 all_goals exact⟨x,rfl,k.1,k.2,T⟩
abbrev uw(n:Int):LV:=.atom (.int .u64 n)
def kH(m:Nat):Nat:=if m=0 then 0 else Nat.log2 m+1
def nA(n:Nat):Nat:=if 256<=n then 8+kH (n / 256)else kH n
theorem wrap_u64(n:Int)(a:0<=n)(b:n<18446744073709551616):IntKind.u64.wrap n=n:=by
 grind [IntKind.wrap,IntKind.signed,IntKind.bits]
def wrap_u8(n:Int)(a:0<=n)(b:n<256):IntKind.u8.wrap n=n:=by
 grind [IntKind.wrap,IntKind.signed,IntKind.bits]
abbrev Bv:ByteArray:={ data:=((List.append [0,1,2,2,3,3,3,3,4,4,4,4,4,4,4,4,5,5,5,5,5,5,5,5,5,5,5,5,5,5,5,5,6,6,6,6,6,6,6,6,6,6,6,6,6,6,6,6,6,6,6,6,6,6,6,6,6,6,6,6,6,6,6,6] [7,7,7,7,7,7,7,7,7,7,7,7,7,7,7,7,7,7,7,7,7,7,7,7,7,7,7,7,7,7,7,7,7,7,7,7,7,7,7,7,7,7,7,7,7,7,7,7,7,7,7,7,7,7,7,7,7,7,7,7,7,7,7,7]).append (List.append [8,8,8,8,8,8,8,8,8,8,8,8,8,8,8,8,8,8,8,8,8,8,8,8,8,8,8,8,8,8,8,8,8,8,8,8,8,8,8,8,8,8,8,8,8,8,8,8,8,8,8,8,8,8,8,8,8,8,8,8,8,8,8,8] [8,8,8,8,8,8,8,8,8,8,8,8,8,8,8,8,8,8,8,8,8,8,8,8,8,8,8,8,8,8,8,8,8,8,8,8,8,8,8,8,8,8,8,8,8,8,8,8,8,8,8,8,8,8,8,8,8,8,8,8,8,8,8,8])).toArray }
def PJ:∀ m:Fin 256,((Bv[m.val]?).isSome=true/\((Bv[m.val]?).getD 0).toNat=kH m.val):=by decide +kernel
def uM:∀ m:Fin 256,kH m.val<=8/\(0<m.val->m.val<2 ^ kH m.val/\2 ^ kH m.val<=2*m.val):=by decide +kernel
def GG(n:Nat)(b:n<65536):nA n<=16/\(0<n->n<2 ^ nA n/\2 ^ nA n<=2*n):=by
 unfold nA;by_cases h:256<=n
 .rw[ac h];have a:=uM ⟨n / 256,O⟩
  grind
 .rw[aa h];have a:=uM ⟨n,O⟩
  grind
def M6(n:Nat)(x:St)(B:n<65536):aD prog 130 [uw n] x fun r p=>r=i (nA n)/\p=x:=by
 refine zN func130 ntmps130 [.tmp 2] ?_;have g:¬(4294967296:Int)<=(n:Int):=O;have j:¬(65536:Int)<=(n:Int):=O;have o:∀ m,m<256->(Bv[m]?).isSome=true/\((Bv[m]?).getD 0).toNat=kH m:=fun m h=>PJ ⟨m,h⟩;generalize w:({ data:=((List.append [0,1,2,2,3,3,3,3,4,4,4,4,4,4,4,4,5,5,5,5,5,5,5,5,5,5,5,5,5,5,5,5,6,6,6,6,6,6,6,6,6,6,6,6,6,6,6,6,6,6,6,6,6,6,6,6,6,6,6,6,6,6,6,6] [7,7,7,7,7,7,7,7,7,7,7,7,7,7,7,7,7,7,7,7,7,7,7,7,7,7,7,7,7,7,7,7,7,7,7,7,7,7,7,7,7,7,7,7,7,7,7,7,7,7,7,7,7,7,7,7,7,7,7,7,7,7,7,7]).append (List.append [8,8,8,8,8,8,8,8,8,8,8,8,8,8,8,8,8,8,8,8,8,8,8,8,8,8,8,8,8,8,8,8,8,8,8,8,8,8,8,8,8,8,8,8,8,8,8,8,8,8,8,8,8,8,8,8,8,8,8,8,8,8,8,8] [8,8,8,8,8,8,8,8,8,8,8,8,8,8,8,8,8,8,8,8,8,8,8,8,8,8,8,8,8,8,8,8,8,8,8,8,8,8,8,8,8,8,8,8,8,8,8,8,8,8,8,8,8,8,8,8,8,8,8,8,8,8,8,8])).toArray }:ByteArray)=s;rw[show Bv=s from w]at o;clear w;by_cases k:(256:Int)<=(n:Int)
 .obtain⟨m,A⟩:∃ m,m=n / 256:=⟨_,rfl⟩;have q:(n:Int).fdiv (2 ^ min 8 IntKind.u64.bits)=(m:Int):=by show(n:Int).fdiv 256=(m:Int);rw[Int.fdiv_eq_ediv_of_nonneg _ O];omega
  have d:=wrap_u8 m O O;have l:nA n=8+kH m:=by unfold nA;rw[ac O,A]
  have y:kH m<=8:=(uM ⟨m,O⟩).1;have a:=o m O;have c:m<s.size:=by simpa using a.1
  have b:=a.2;rw[l];generalize kH m=e at *;have t:IntKind.i64.wrap (8+(e:Int))=((8+e:Nat):Int):=zW;have f:IntKind.i64.wrap (e:Int)=(e:Int):=by rw[wrap_i64 _ O O]
  have v:IntKind.i64.wrap (8:Int)=8:=rfl;simp[c]at b
  (repeat' (first|apply qS|refine qK (zZ ?_)|(refine qR (zZ ?_);simp[g,j,k,Pr,q,d,c,b,t,f,v])|(apply qC;simp[g,j,k,Pr,q,d,c,b,t,f,v])|(refine zE ?_;intro J z;simp[g,j,k,Pr,q,d,c,b,t,f,v];refine zJ z ?_)))
 .have d:=wrap_u8 n O O;have l:nA n=kH n:=by unfold nA;rw[aa O]
  have y:kH n<=8:=(uM ⟨n,O⟩).1;have a:=o n O;have c:n<s.size:=by simpa using a.1
  have b:=a.2;rw[l];generalize kH n=e at *;have f:IntKind.i64.wrap (e:Int)=(e:Int):=by rw[wrap_i64 _ O O]
  simp[c]at b;exact Lb g j k d c b f
def H4(n:Nat)(b:St)(d:n<65536):aD prog 85 [uw n] b fun r a=>r=i (nA n)/\a=b:=by
 refine zN func85 ntmps85 [.tmp 2] ?_
 (refine ez ?_;intro J c)
 refine qF (M6 n _ d) ?_;rintro r a ⟨rfl,rfl⟩;exact JZ c
def nextPowerOfTwo(n:Nat)(c:St)(b:n<65536):aD prog 164 [i n] c fun r a=>r=uw ((2 ^ nA n:Nat):Int)/\a=c:=by
 have d:=(GG n b).1;have g:IntKind.u64.wrap (n:Int)=(n:Int):=wrap_u64 _ O O;have h:IE .u64 1 (nA n)=((2 ^ nA n:Nat):Int):=by
  unfold IE;have k:(2:Nat) ^ nA n<=2 ^ 16:=FS O d;have e:min ((nA n:Int).toNat) IntKind.u64.bits=nA n:=by simp[IntKind.bits];omega
  rw[e,Int.one_mul];rw[show((2:Int) ^ nA n)=((2 ^ nA n:Nat):Int) by simp];generalize (2:Nat) ^ nA n=z at *;exact wrap_u64 _ O O
 refine zN func164 ntmps164 [.tmp 2] ?_
 (refine jn g ?_;intro J f)
 refine qF (H4 n _ b) ?_;rintro r a ⟨rfl,rfl⟩;generalize ((2 ^ nA n:Nat):Int)=j at *;exact TW f h
abbrev xx(a:St)(p:Nat)(s:Int):St:=a.set p (.box 184 1 [uw s])
def G3(p:Nat)(s:Int)(c:St)(b:c.H p=.box 184 1 [uw s]):aD prog 165 [.pt p 0] c fun r d=>∃ e,r=uw e/\d=xx c p e:=by
 refine zN func165 ntmps165 [.tmp 2] ?_
 (repeat (apply qS));(refine zE ?_;intro J a;simp[];refine zJ a ?_)
 (repeat (apply qS));(refine zS [] [p] [0,2,4,6,8,10,12,14,16,19] ?_;intro J a;simp[b];refine zJ a ?_)
 generalize Rk _ _ _=f
 (repeat (apply qS));(refine zS [] [p] [0,2,4,6,8,10,12,14,16,19] ?_;intro J a;simp[b];refine zJ a ?_)
 generalize Rk _ _ _=g
 (repeat (apply qS));(refine zS [] [p] [0,2,4,6,8,10,12,14,16,19] ?_;intro J a;simp[b];refine zJ a ?_)
 generalize Rk _ _ _=h;refine bz ?_
 grind [St.set_set]
def WE(s:Int)(m:Nat)(a:0<m)(b:m<=131072):∃ o:Nat,o<m/\AA .u64 s (((m-1:Nat)):Int)=(o:Int):=by
 grind [AA,Nat.and_le_right,wrap_u64]
def bU(q:Nat)(b a:St):Prop:=b.z<=a.z/\∀ l,l≠q->l<b.z->a.H l=b.H l
theorem bU.refl(q:Nat)(a:St):bU q a a:=⟨au _,fun _ _ _=>rfl⟩
theorem bU.trans{q:Nat}{a b c:St}(h:bU q a b)(k:bU q b c):bU q a c:=⟨fa h.1 k.1,fun l d e=>(k.2 l d (dc e h.1)).trans (h.2 l d e)⟩
def bU.keeps{a b c:St}(h:bU q a b)(k:aC b c):bU q a c:=⟨fa h.1 k.z,fun l e d=>(k.H l (dc d h.1)).trans (h.2 l e d)⟩
theorem bU.set{q:Nat}{a b:St}(h:bU q a b)(o:cT):bU q a (b.set q o):=⟨h.1,fun l c d=>by rw[cC,aa c];exact h.2 l c d⟩
def bU.set'{a b:St}(h:bU q a b)(e:a.z<=p)(o:cT):bU q a (b.set p o):=⟨h.1,fun l c d=>by rw[cC,aa O];exact h.2 l c d⟩
def Xq(q p a b n m k:Nat)(l:PP)(f:St)(e:ah)(d:St):Prop:=e 0=.ms q 0 l.length/\e 1=i a/\e 6=i n/\e 7=.pt p 0/\e 8=uw m/\e 9=i k/\p<d.z/\bU q f d/\(∃ s,d.H p=.box 184 1 [uw s])/\∃ c,d.H q=.box 34 1 (us c)/\Pm a b l c
def Y9(q p a b n m k:Nat)(l:PP)(e:St)(d:ah)(c:St):Prop:=Xq q p a b n m k l e d c/\∃ o:Nat,o<n/\d 10=i o
def breakPatterns(l:PP)(q a b:Nat)(e:St)(hl:l.length<65536)(r9:a+8<=b)(hb:b<=l.length)(hqn:q<e.z)(hH:e.H q=.box 34 1 (us l)):
 aD prog 122 [.ms q 0 l.length,i a,i b] e fun r A=>∃ c,A.H q=.box 34 1 (us c)/\Pm a b l c/\bU q e A:=by
 obtain⟨n,hn⟩:∃ n:Nat,n=b-a:=⟨_,rfl⟩;obtain⟨I,hn4⟩:∃ m:Nat,m=n / 4:=⟨_,rfl⟩;obtain⟨t,hk0⟩:∃ m:Nat,m=a+I*2:=⟨_,rfl⟩;have w1:IntKind.i64.wrap ((b:Int)-(a:Int))=(n:Int):=zW;have w2:IntKind.i64.wrap ((n:Int) / 4)=(I:Int):=by rw[show(n:Int) / 4=((n / 4:Nat):Int) from rfl,<- hn4];exact wrap_i64 _ O O
 have w4:IntKind.i64.wrap ((I:Int)*2)=((I*2:Nat):Int):=zW;have w7:IntKind.i64.wrap ((a:Int)+((I*2:Nat):Int))=(t:Int):=zW;have w8:=aY t O O;obtain⟨k1,j8⟩:∃ m:Nat,m=t+1:=⟨_,rfl⟩;have w9:IntKind.i64.wrap ((t:Int)+1)=(k1:Int):=by rw[qN t O,j8]
 have w10:IntKind.u64.wrap (n:Int)=(n:Int):=wrap_u64 _ O O;have h8:(8:Int)<=(n:Int):=O;have U:=(GG n O).2 O;obtain⟨m,hm⟩:∃ m:Nat,m=2 ^ nA n:=⟨_,rfl⟩;rw[<- hm]at U;have w11:IntKind.u64.wrap ((m:Int)-1)=((m-1:Nat):Int):=by rw[wrap_u64 _ O O];omega
 generalize ((I*2:Nat):Int)=e2 at *;refine zN func122 ntmps122 [] ?_
 (repeat' (first|apply qS|(refine zE ?_;intro J g;simp[w1];refine zJ g ?_)))
 apply qC;simp[h8]
 (repeat' (first|apply qS|(refine zE ?_;intro J g;simp[w10,w1];(try refine zJ g ?_))))
 refine qF (nextPowerOfTwo n _ O) ?_;rintro r A ⟨rfl,rfl⟩;rw[<- hm]
 (repeat' (first|apply qS|apply qB|((first|(refine zE ?_;intro J g)|(apply cP));simp[w2,w4,w7,w8];refine zJ g ?_)))
 refine qL (fun z p f=>∃ k:Nat,t<=k+1/\k<=t+2/\z=t+2-k/\Xq q e.z a b n m k l e p f) 3 ?_ ?_
 .refine⟨t-1,O,O,O,?_⟩;unfold Xq;have Tv:¬q=e.z:=O;refine⟨Y,Y,Y,Y,Y,Y,Y,?_,⟨n,Y⟩,l,by simp_all,.refl⟩;exact((bU.refl q e).keeps (aC.new _ _)).set' (au _) _
 rintro z p f ⟨k,hkl,hku,rfl,P,E,C,Q,R,F,w,h,⟨s,S⟩,c,hcq,u6⟩ JJ hJJ;have r8:=u6.len;by_cases dS:(k:Int)<=(k1:Int);rotate_left
 .clear hJJ;refine mf E C F w2 w4 w7 w9 dS ?_;exact⟨trivial,c,hcq,u6,h⟩
 (repeat (apply qS));(refine zE ?_;intro J g;simp[E,C,F,w2,w4,w7,w9,dS];refine zJ g ?_)
 apply qC;simp[dS];refine qK (zZ ?_);apply qS;apply qB;apply qS
 (refine zE ?_;intro J g;simp[Q])
 refine qF (G3 e.z s _ S) ?_;rintro r A ⟨T,rfl,rfl⟩;obtain⟨o,ho,L⟩:=WE T m O O;have B:IntKind.i64.wrap (o:Int)=(o:Int):=zW
 (apply cP;simp[R,w11,L,B];refine zJ g ?_)
 apply qS;refine cM (Y9 q e.z a b n m k l e) ?_ ?_
 .have j:¬q=e.z:=O;have hI:∀ d:ah,d 0=p 0->d 1=p 1->d 6=p 6->d 7=p 7->d 8=p 8->d 9=p 9->Xq q e.z a b n m k l e d (xx f e.z T):=by intro d g0 g1 g6 g7 g8 g9;exact⟨by grind,by grind,by grind,by grind,by grind,by grind,by simpa using w,h.set' (au _) _,⟨T,Y⟩,c,ek j hcq,u6⟩
  by_cases K:(n:Int)<=(o:Int)
  .have D:IntKind.i64.wrap ((o:Int)-(n:Int))=((o-n:Nat):Int):=zW;refine fw C K D ?_;refine⟨by trivial,?_⟩;exact⟨hI _ Y Y Y Y Y Y,o-n,O,Y⟩
  .refine cm C K ?_;refine⟨by trivial,?_⟩;exact⟨hI _ Y Y Y Y Y Y,o,O,Y⟩
 clear P E C Q R F w h S hcq u6 r8 L B ho o s T c f p;rintro p f ⟨⟨P,E,C,Q,R,F,w,h,⟨s,S⟩,c,hcq,u6⟩,o,ho,f10⟩;have r8:=u6.len;obtain⟨x,hx⟩:∃ x:Nat,x=a+o:=⟨_,rfl⟩;have B:IntKind.i64.wrap ((a:Int)+(o:Int))=(x:Int):=zW;have D:=qN k O;have y9:=qG c k O;have V:=qG c x O;have W:k<l.length:=O;have X:x<l.length:=O;have hsw:=fun v y=>Mj f q c k x (x:=v) (y:=y) O O;have M:=u6.step k x O O O O O;generalize hv:c.getD k 0=v at *;generalize hy:c.getD x 0=y at *;have N:=hsw v y rfl rfl
 (refine zS [] [q] [0,2,4,6,8,10,12,14,16,18,20,22,24,26,28,30,32,35,36,39] ?_;intro J g;simp[P,E,F,f10,B,W,X,r8,hcq,y9,V];(repeat refine ca ?_);refine zJ g ?_)
 refine cm F D ?_;have j:¬e.z=q:=O;rw[N];exact hJJ (t+2-(k+1)) _ _ O ⟨k+1,O,O,rfl,Z P,Z E,Z C,Z Q,Z R,Y,by simpa using w,h.set _,⟨s,ek j S⟩,_,Y,M⟩
def Srt.out(h:Srt a m c)(e:∀ j,a<=j->j<m->d.getD j 0=c.getD j 0):Srt a m d:=by intro p q b g f;rw[e p b O,e q O f];exact h p q b g f
def _root_.Go.Proofs.YtbgngpdonpeboaaGreatDoor.Pl.dF.pmL(h:dF c a m b)(k:Pm a m c d):dF d a m b:=by unfold dF at h ⊢;have e:d.getD m 0=c.getD m 0:=k.out m O;rw[e];refine⟨fun p f g=>k.all (fun v=>decide (v<c.getD m 0)=true) h.1 p f g,fun p f g=>?_⟩;rw[k.out p O];exact h.2 p f g
def _root_.Go.Proofs.YtbgngpdonpeboaaGreatDoor.Pl.dF.pmR(h:dF c a m b)(k:Pm (m+1) b c d):dF d a m b:=by unfold dF at h ⊢;have e:d.getD m 0=c.getD m 0:=k.out m O;rw[e];refine⟨fun p g f=>?_,fun p g f=>k.all (fun v=>decide (v<c.getD m 0)=false) (fun j n l=>h.2 j O l) p O f⟩;rw[k.out p O];exact h.1 p g f
def _root_.Go.Proofs.YtbgngpdonpeboaaGreatDoor.Pl.dF.glue(h:dF d a m b)(f:Srt a m d)(g:Srt (m+1) b d):Srt a b d:=by
 refine VQ f g (fun p c e=>?_) fun q c e=>?_
 .have:=h.1 p c e;simp only[jv]at this;omega
 .have:=h.2 q c e;simp only[qt]at this;omega
def _root_.Go.Proofs.YtbgngpdonpeboaaGreatDoor.Pl.dF.aheadR(h:dF d a m b):sP d (m+1) b:=by intro _ j e c;have:=h.2 j O c;simp only[qt]at this;rw[sx];omega
def sP.less(h:sP d a b)(g:m<=b):sP d a m:=fun e j c f=>h e j c O
def Vz{x:Int}(h:Kj c a m b x)(e:∀ j,a<=j->j<m->x<=c.getD j 0)(k:Pm m b c d)(s:Srt m b d):Srt a b d:=by
 intro p q f n l;by_cases r:q<m
 .rw[k.out p O,k.out q O];have:=h.1 p f O;have:=e q O r;omega
 .by_cases o:p<m
  .rw[k.out p O];have g:=h.1 p f o;have:x<d.getD q 0:=k.all (fun v=>x<v) h.2 q O l;omega
  .exact s p q O n l
def Up(a b e f:Nat)(c:PP):Prop:=∀ d,Pm e f c d->Srt e f d->Srt a b d
def Up.pm{f g:Nat}(h:Up a b f g c)(k:Pm f g c d):Up a b f g d:=fun e j l=>h e (k.trans j) l
def Sr{a:ah}{b:St}(I:ah->St->Prop)(d:bq P N x (AK P N (fun e f s=>(e=.normal/\I f s)\/(e=.ret/\AK P N Q k .ret f s)) []) a b)(g:∀ a b,I a b->bq P N y (AK P N Q k) a b):
 bq P N x (AK P N Q (.code y::k)) a b:=by
 refine dR d ?_;rintro e j h (⟨rfl,c⟩|⟨rfl,c⟩)
 .rw[kO];exact g _ _ c
 .rw[Ay];exact c
def TC{a:ah}{b:St}(I:ah->St->Prop)(d:bq P N x (AK P N (fun e f s=>(e=.normal/\I f s)\/(e≠.normal/\AK P N Q k e f s)) []) a b)(g:∀ a b,I a b->bq P N y (AK P N Q k) a b):
 bq P N x (AK P N Q (.code y::k)) a b:=by
 refine dR d ?_;rintro e j h (⟨rfl,c⟩|⟨Tv,c⟩)
 .rw[kO];exact g _ _ c
 .cases e<;>first|exact absurd rfl Tv|exact c
def PdI(q:Nat)(l:PP)(j:St)(a b g h:Nat)(k m:Bool)(f n:Nat)(d:ah)(e:St):Prop:=
 d 0=.ms q 0 l.length/\d 1=i g/\d 2=i h/\d 3=i f/\d 8=bb k/\d 9=bb m/\d 10=i n/\f<1000000/\q<e.z/\bU q j e/\∃ c,e.H q=.box 34 1 (us c)/\Pm a b l c/\sP c g h/\Up a b g h c
theorem PdI.mk{q:Nat}{l:PP}{o:St}{a b g h:Nat}{p r:Bool}{f n:Nat}{e:ah}{d:St}{c:PP}(s:e 0=.ms q 0 l.length)(t:e 1=i g)(v:e 2=i h)(w:e 3=i f)(x:e 8=bb p)(y:e 9=bb r)(j:e 10=i n)(k:f<1000000)(m:q<d.z)(C:bU q o d)(B:d.H q=.box 34 1 (us c))(D:Pm a b l c)(A:sP c g h)(hf:Up a b g h c):PdI q l o a b g h p r f n e d:=
 ⟨s,t,v,w,x,y,j,k,m,C,c,B,D,A,hf⟩
def Li(q:Nat)(l:PP)(h:St)(a b e f:Nat)(j k:Bool)(n:Nat)(g:ah)(d:St):Prop:=∃ c,PdI q l h a b e f j k c n g d
def zd(q:Nat)(l:PP)(j:St)(a b f g:Nat)(k m:Bool)(n:Nat)(c:ah)(e:St):Prop:=∃ d,PdI q l j a b f g k m d n c e/\∃(pv:Nat) (h:Int),f<=pv/\pv<g/\c 11=i pv/\c 12=i h
def GK(f:Nat):∀(l:PP) (q a b m:Nat) (st:St),l.length<65536->a<=b->b<=l.length->b-a<f->sP l a b->m<1000000->q<st.z->st.H q=.box 34 1 (us l)->
 aD prog 84 [.ms q 0 l.length,i a,i b,i m] st fun r K=>∃ c,K.H q=.box 34 1 (us c)/\Pm a b l c/\Srt a b c/\bU q st K:=by
 induction f with
 |zero=>intro l q a b m st _ _ _ h;omega
 |succ f ih=>
 intro l q a b m st hl r9 hb hZ hah hlim hqn hH;have hsm:small l:=by unfold small;omega
 refine zN func84 ntmps84 [] ?_
 (repeat' (first|apply qS|apply qB|(refine zE ?_;intro J o;simp[];(refine zJ o ?_;clear o J))))
 refine qL (fun z fr D=>∃(B E m:Nat) (wb wp:Bool) (n:LV),a<=B/\B<=E/\E<=b/\z=E - B/\PdI q l st a b B E wb wp m 0 (de fr 10 (i (0:Nat))) D) (b-a) ?_ ?_
 .refine⟨a,b,m,true,true,.nil,O,O,O,rfl,?_⟩;exact PdI.mk Y Y Y Y Y Y Y hlim hqn (.refl _ _) hH .refl hah fun d h1 h2=>h2
 rintro z fr D ⟨B,E,m,wb,wp,-,ha1,ha2,hb2,rfl,t,w,A,N,P,S,-,V,g,s,c,Q,M,k,R⟩ JJ T;rw[HB,aa O]at t w A N P S;have U:=M.len;have I:small c:=by unfold small;omega
 obtain⟨n,hn⟩:∃ n:Nat,n=E - B:=⟨_,rfl⟩;have w1:IntKind.i64.wrap ((E:Int)-(B:Int))=(n:Int):=zW;apply qB
 (repeat' (first|apply qS|(refine zE ?_;intro J o;simp[w,A,w1];(refine zJ o ?_;clear o J))))
 by_cases hn12:(n:Int)<=12
 .clear T;apply qC;simp[hn12]
  (refine yu t w A ?_;intro J o)
  refine qE (insertionSort c q B E D I O O Q) (gS t w A U) ?_;rintro r K ⟨d,rfl,L,k2⟩;refine dU o ?_;exact⟨d,rfl,M.trans (L.wide O O O),R d L k2,s.set _⟩
 apply qC;simp[hn12]
 (repeat' (first|apply qS|refine qK (zZ ?_)|(refine zE ?_;intro J o;simp[N];(refine zJ o ?_;clear o J))))
 by_cases hl0:m=0
 .clear T;apply qC;simp[hl0]
  (refine yu t w A ?_;intro J o)
  refine qE (heapSort c q B E D I O O Q) (gS t w A U) ?_;rintro r K ⟨d,rfl,L,k2⟩;refine dU o ?_;exact⟨d,rfl,M.trans (L.wide O O O),R d L k2,s.set _⟩
 apply qC;simp[hl0];refine qK (zZ ?_);apply qS;refine cM (Li q l st a b B E wb wp n) ?_ ?_
 .clear T;cases wb
  ·(refine rC t w A P ?_;intro J o)
   refine qE (breakPatterns c q B E D O O O g Q) (gS t w A U) ?_;rintro r K ⟨d,k0,L,k2⟩;have w2:=aY m O O;refine oG o N w2 ?_;refine⟨by trivial,?_⟩;exact⟨m-1,PdI.mk (Z t) (Z w) (Z A) Y (Z P) (Z S) Y O (dc g k2.1) (s.trans k2) k0 (M.trans (L.wide O O O)) (k.pm L) (R.pm L)⟩
  .refine df P ?_;refine⟨by trivial,?_⟩;exact⟨m,PdI.mk (Z t) (Z w) (Z A) (Z N) (Z P) (Z S) Y O g s Q M k R⟩
 clear t w A N P S V g s Q M k R U I c D fr hl0 m;rintro fr D ⟨m,t,w,A,N,P,S,F,V,g,s,c,Q,M,k,R⟩;have U:=M.len;have I:small c:=by unfold small;omega
 apply qS
 (refine zE ?_;intro J o;simp[t,w,A])
 refine qE (choosePivot c q B E D I O O g Q) (gS t w A U) ?_;rintro r K ⟨pv,h,rfl,W,X,k0⟩;have hc':K.H q=.box 34 1 (us c):=by rw[k0.H q g];exact Q
 have hqn3:q<K.z:=dc g k0.z;have hof2:=s.keeps k0;clear Q g s k0
 (apply cP;simp[];(refine zJ o ?_;clear o J))
 apply qS;refine cM (zd q l st a b B E wb wp n) ?_ ?_
 .clear T;by_cases hh:h=2
  ·(refine rC hh t w A ?_;intro J o)
   refine qE (reverseRange c q B E K I O O O hc') (gS t w A U) ?_;rintro r K ⟨d,rfl,L⟩;have w2:=aY E O O;obtain⟨x1,hx1⟩:∃ x,x=E - 1:=⟨_,rfl⟩;obtain⟨x2,hx2⟩:∃ x,x=pv-B:=⟨_,rfl⟩;obtain⟨x3,hx3⟩:∃ x,x=x1-x2:=⟨_,rfl⟩;have w3:IntKind.i64.wrap ((pv:Int)-(B:Int))=(x2:Int):=zW;have w4:IntKind.i64.wrap ((x1:Int)-(x2:Int))=(x3:Int):=zW;rw[<- hx1]at w2;refine Ya o w A w2 w3 w4 ?_;refine⟨by trivial,?_⟩;exact⟨m,PdI.mk (Z t) (Z w) (Z A) (Z N) (Z P) (Z S) (Z F) O hqn3 (hof2.set _) Y (M.trans (L.wide O O O)) (k.pm L) (R.pm L),x3,1,O,O,Y,Y⟩
  .refine df hh ?_;refine⟨by trivial,?_⟩;exact⟨m,PdI.mk (Z t) (Z w) (Z A) (Z N) (Z P) (Z S) (Z F) O hqn3 hof2 hc' M k R,pv,h,O,O,Y,Y⟩
 clear t w A N P S F V hqn3 hof2 hc' M k R U I c D fr m h W X pv;rintro fr D ⟨m,⟨t,w,A,N,P,S,F,V,g,s,c,Q,M,k,R⟩,pv,h,W,X,f11,f12⟩;have U:=M.len;have I:small c:=by unfold small;omega
 apply qS;refine Sr (zd q l st a b B E wb wp n) ?_ ?_
 .clear T;cases wb
  .refine df P ?_;refine .inl ⟨by trivial,?_⟩;exact⟨m,PdI.mk (Z t) (Z w) (Z A) (Z N) (Z P) (Z S) (Z F) O g s Q M k R,pv,h,O,O,Z f11,Z f12⟩
  cases wp
  .refine cm P S ?_;refine .inl ⟨by trivial,?_⟩;exact⟨m,PdI.mk (Z t) (Z w) (Z A) (Z N) (Z P) (Z S) (Z F) O g s Q M k R,pv,h,O,O,Z f11,Z f12⟩
  by_cases hh:h=1;rotate_left
  .refine eI P S f12 hh ?_;refine .inl ⟨by trivial,?_⟩;exact⟨m,PdI.mk (Z t) (Z w) (Z A) (Z N) (Z P) (Z S) (Z F) O g s Q M k R,pv,h,O,O,Z f11,Z f12⟩
  (refine Hm P S f12 hh t w A ?_;intro J o)
  refine qE (partialInsertionSort c q B E D I O O k Q) (gS t w A U) ?_;rintro r K ⟨d,p,rfl,rfl,L,k2⟩;cases p
  .refine dU o ?_;refine .inl ⟨by trivial,?_⟩;exact⟨m,PdI.mk (Z t) (Z w) (Z A) (Z N) (Z P) (Z S) (Z F) O g (s.set _) Y (M.trans (L.wide O O O)) (k.pm L) (R.pm L),pv,h,O,O,Z f11,Z f12⟩
  .refine dU o ?_;exact⟨d,rfl,M.trans (L.wide O O O),R d L (k2 rfl),s.set _⟩
 clear t w A N P S F f11 f12 V g s Q M k R U I c D fr m h W X pv;rintro fr D ⟨m,⟨t,w,A,N,P,S,F,V,g,s,c,Q,M,k,R⟩,pv,h,W,X,f11,f12⟩;have U:=M.len;have I:small c:=by unfold small;omega
 apply qS;refine TC (zd q l st a b B E wb wp n) ?_ ?_
 .by_cases h0:B=0
  .clear T;have h0':¬(0:Int)<(B:Int):=O
   (repeat (apply qS));(refine zS [] [q] [0,2,4,6,8,10,12,14,16,18,20,22,25,26,28] ?_;intro J o;simp[t,w,h0];(refine zJ o ?_;clear o J))
   refine bz ?_;refine .inl ⟨by trivial,?_⟩;exact⟨m,PdI.mk (Z t) (Z w) (Z A) (Z N) (Z P) (Z S) (Z F) O  g s Q M k R,pv,h,O,O,Z f11,Z f12⟩
  have h0':0<B:=O;have w2:=aY B O O;have y9:=qG c (B - 1) O;have hd2:=qG c pv O;have hl3:B - 1<l.length:=O;have hl4:pv<l.length:=O;have hlow:∀ j,B<=j->j<E->c.getD (B - 1) 0<=c.getD j 0:=k h0';generalize hx:c.getD (B - 1) 0=x at *;generalize hy:c.getD pv 0=y at *
  (repeat (apply qS));(refine zS [] [q] [0,2,4,6,8,10,12,14,16,18,20,22,25,26,28] ?_;intro J o;simp[t,w,f11,h0',w2,hl3,hl4,U,Q,y9,hd2])
  refine aS (yK x y _) ?_;rintro r s2 ⟨rfl,rfl⟩;refine⟨fun _=>by simp,?_⟩;by_cases W0:x<y
  .clear T
   (apply bM;simp[W0];(refine zJ o ?_;clear o J))
   refine bz ?_;refine .inl ⟨by trivial,?_⟩;exact⟨m,PdI.mk (Z t) (Z w) (Z A) (Z N) (Z P) (Z S) (Z F) O  g s Q M k R,pv,h,O,O,Z f11,Z f12⟩
  (apply bM;simp[W0];(refine zJ o ?_;clear o J))
  (refine rC t w A f11 ?_;intro J o)
  refine qE (partitionEqual c q B E pv _ I O O W X Q) (qi t w A f11 U) ?_;rintro r K ⟨d,C,rfl,rfl,L,k2,k3,k4⟩;refine dU o ?_;refine .inr ⟨Y,?_⟩;refine T (E - C) _ _ O ⟨C,E,m,wb,wp,.nil,O,O,O,rfl,?_⟩;rw[hy]at k4;refine PdI.mk (Z t) Y (Z A) (Z N) (Z P) (Z S) Y O g (s.set _) Y (M.trans (L.wide O O O)) ?_ ?_
  .intro _ j g1 g2;have e1:=k4.1 (C-1) O O;have e2:=k4.2 j g1 g2;omega
  .intro e g1 g2;refine R e (L.trans (g1.wide O O (by have:=L.len;omega))) (Vz k4 (fun j e1 e2=>?_) g1 g2);have:=L.all (fun v=>x<=v) hlow j e1 O;omega
 clear t w A N P S F f11 f12 V g s Q M k R U I c D fr m h W X pv;rintro fr D ⟨m,⟨t,w,A,N,P,S,F,V,g,s,c,Q,M,k,R⟩,pv,h,W,X,f11,f12⟩;have U:=M.len;have I:small c:=by unfold small;omega
 (repeat' (first|apply qS|(refine zE ?_;intro J o;simp[t,w,A,f11])))
 refine qE (partition c q B E pv _ I O O W X Q) (qi t w A f11 U) ?_;rintro r K ⟨d,C,p,rfl,rfl,L,k2,k3,k4⟩;have hdl:=L.len;have k4:dF d B C E:=k4;have hpm':=M.trans (L.wide ha1 hb2 O);have hah':=k.pm L;have hfin':=R.pm L;have hof':=s.set (q:=q) (.box 34 1 (us d));have w3:IntKind.i64.wrap ((C:Int)-(B:Int))=((C-B:Nat):Int):=zW;have w4:IntKind.i64.wrap ((E:Int)-(C:Int))=((E - C:Nat):Int):=zW;have w5:IntKind.i64.wrap ((n:Int) / 8)=((n / 8:Nat):Int):=by rw[show(n:Int) / 8=((n / 8:Nat):Int) from rfl];exact wrap_i64 _ O O
 obtain⟨z1,hz1⟩:∃ x:Nat,x=C-B:=⟨_,rfl⟩;obtain⟨z2,hz2⟩:∃ x:Nat,x=E - C:=⟨_,rfl⟩;obtain⟨z3,hz3⟩:∃ x:Nat,x=n / 8:=⟨_,rfl⟩;obtain⟨m1,hm1⟩:∃ x:Nat,x=C+1:=⟨_,rfl⟩;rw[<- hz1]at w3;rw[<- hz2]at w4;rw[<- hz3]at w5;have w6:IntKind.i64.wrap ((C:Int)+1)=(m1:Int):=by rw[qN C O,hm1]
 clear Q M k R s
 (repeat' (first|apply qS|((first|(refine zE ?_;intro J o)|(apply cP));simp[w,A,F,w3,w4,w5];(refine zJ o ?_;clear o J))))
 apply qC;by_cases hzz:z1<z2
 .simp[hzz]
  (repeat' (first|apply qS|(refine zE ?_;intro J o;simp[t,w,N];(try (refine zJ o ?_;clear o J)))))
  refine qE (ih d q B C m (bx D q d) O O O O (hah'.less O) O g Y) (yx t w A N hdl U) ?_;rintro r K ⟨e,j0,j1,j2,j3⟩
  (repeat' ((first|(refine zE ?_;intro J o)|(apply cP));simp[w6];(refine zJ o ?_;clear o J)))
  refine T (E - m1) _ _ O ⟨m1,E,m,decide (z3<=z1),p,.nil,O,O,O,rfl,?_⟩;refine PdI.mk (Z t) Y (Z A) (Z N) Y Y Y O (dc g j3.1) (hof'.trans j3) j0 (hpm'.trans (j1.wide O O O)) ?_ ?_
  .rw[hm1];exact(k4.pmL j1).aheadR
  .intro y g1 g2;rw[hm1]at g1 g2;refine hfin' y ((j1.wide O O O).trans (g1.wide O O (by have:=j1.len;omega))) (((k4.pmL j1).pmR g1).glue (Srt.out j2 fun j e1 e2=>g1.out j O) g2)
 .simp[hzz]
  (repeat' (first|apply qS|(refine zE ?_;intro J o;simp[t,A,N,w6];(try (refine zJ o ?_;clear o J)))))
  refine qE (ih d q m1 E m (bx D q d) O O O O (by rw[hm1];exact k4.aheadR) O g Y) (yx t w A N hdl U) ?_;rintro r K ⟨e,j0,j1,j2,j3⟩
  (repeat' ((first|(refine zE ?_;intro J o)|(apply cP));simp[];(refine zJ o ?_;clear o J)))
  rw[hm1]at j1 j2;refine T (C-B) _ _ O ⟨B,C,m,decide (z3<=z2),p,.nil,O,O,O,rfl,?_⟩;refine PdI.mk (Z t) (Z w) Y (Z N) Y Y Y O (dc g j3.1) (hof'.trans j3) j0 (hpm'.trans (j1.wide O O O)) ?_ ?_
  .exact(hah'.pm (j1.wide O O O)).less O
  .intro y g1 g2;refine hfin' y ((j1.wide O O O).trans (g1.wide O O (by have:=j1.len;omega))) (((k4.pmR j1).pmL g1).glue g2 (Srt.out j2 fun j e1 e2=>g1.out j O))
def YJ(l:PP)(q:Nat)(b:St)(k:l.length<65536)(d:q<b.z)(g:b.H q=.box 34 1 (us l)):
 aD prog 46 [.ms q 0 l.length] b fun r a=>∃ c,a.H q=.box 34 1 (us c)/\c.Perm l/\c.Pairwise (·<=·)/\bU q b a:=by
 have s:IntKind.u64.wrap (l.length:Int)=(l.length:Int):=wrap_u64 _ O O;have j:=(GG l.length O).1;refine zN func46 ntmps46 [] ?_
 (refine jn s ?_;intro J e)
 refine qF (H4 l.length _ O) ?_;rintro r a ⟨rfl,rfl⟩;refine dU e ?_;refine qE (GK (l.length+1) l q 0 l.length (nA l.length) _ k O O O (fun h=>absurd h O) O d g) (by simp[]) ?_;rintro r a ⟨c,m,f,n,o⟩;refine dU e ?_;have p:=f.len;exact⟨trivial,c,m,f.perm,Tb (by rw[p];exact n),o⟩
end Aw
namespace Aw
open Go Go.RowKit
variable{g:G}{w:World}
def uP{c:World}(g:G)(h:Below w.heap.size w c):Ext w g c g:=
 ⟨h.os,h.tape,h.output,h.size,au _,fun _ _=>rfl,fun _ _=>rfl,fun _ _=>rfl,fun b a e=>⟨e,h.block b a⟩,fun b k a d=>⟨k,d,au _,fun o _=>World.cell?_of_block (w:=w) (h.block b a)⟩⟩
def zI{v:World}{t:St}(a:Inv w g t)(h:Below w.heap.size w v):Inv v g t:=by
 have c:=uP g h;refine⟨a.z,a.pos,a.fresh,fun l b=>dc (a.lt l b) h.size,a.inj,?_,?_,?_,?_,a.aside.keep c fun _ _=>rfl⟩
 .intro l e s n b;obtain⟨f,j,k,A⟩:=a.own l e s n b;refine⟨f,j,k,fun r=>?_⟩;obtain⟨q,m,o,p⟩:=A r;exact⟨q,by rw[h.block _ (ig.1 m).1];omega,o,p⟩
 .intro l e s x b;obtain⟨f,j,k⟩:=a.box l e s x b;refine⟨f,j,fun r=>?_⟩;obtain⟨q,m,o,p,B,k5⟩:=k r;exact⟨q,by rw[h.block _ (ig.1 m).1];omega,o,p,aG.mono c _ _ B,k5⟩
 .intro l ag C y b;have d:=a.mp l ag C y b;exact d.keep c (a.map_lt b) (h.block _ d.blk_lt) rfl
 .intro l e n b;have d:=a.qu l e n b;exact d.keep c (a.que_lt b) (h.block _ d.blk_lt) rfl
def zH{r:World}{p:St}(j:Inv w g p)(h:Below w.heap.size w r){e:TypeId}{v:Value}{H:List Value}{cs:QQ}(V:r.ownsRow w.heap.size e 1 v H.length H)(X:∀ w g,aG w g cs H):
 ∃ I,Rep r I (.ms p.z 0 H.length) v/\Inv r I (p.new (.box e 1 cs))/\Ext w g r I:=by
 have q:=zI j h;have r8:cs.length=H.length:=aO _ _ (X w g);rcases V.2 with⟨rfl,R⟩|⟨b,y,o8,rfl,hb,D,h1,h2,h3,h4⟩
 .have J:cs=[]:=jc O;subst J;refine⟨g.addNil,?_,kJ q _ (.inr ⟨_,_,rfl⟩),(uP g h).trans (ext_nil r g)⟩;simp only[Rep,R];exact⟨none,0,rfl,au _,jx _,by simp[G.addNil,j.z],Y,by simp[G.addNil,j.z]⟩
 .have c:=j.z;have f:Ext w g r (g.add b 0 y false):=by
   refine⟨h.os,h.tape,h.output,h.size,ub _,?_,?_,?_,?_,?_⟩
   .grind [G.add]
   .grind [G.add]
   .grind [G.add]
   .intro x K R;exact⟨by grind [G.add],h.block x K⟩
   .intro x k K hk;exact⟨k,by grind [G.add],au _,fun o _=>World.cell?_of_block (w:=w) (h.block x K)⟩
  have m:∀ l,blk g p l->g.β l≠b:=fun l a=>by have:=j.lt l a;omega
  have Q:b<r.heap.size:=(ig.1 D).1;refine⟨g.add b 0 y false,?_,?_,f⟩
  .simp only[Rep,G.add,c,ac]
   grind
  .refine⟨by grind [G.add,St.new],by simp_all,?_,?_,?_,?_,?_,?_,?_,j.aside.keep f (pX rfl)⟩
   .intro l a;simp only[St.new]at a ⊢;rw[aa O];exact j.fresh l O
   .intro l a;by_cases d:l=p.z
    .grind [G.add]
    .rw[cW c d]at a;have:=q.lt l a
     grind [G.add]
   .intro l S a E C;by_cases d:l=p.z<;>by_cases P:S=p.z
    .omega
    .grind [cW,G.add]
    .grind [cW,G.add]
    .rw[cW c d]at a;rw[cW c P]at E;simp only[G.add,c,aa P,aa d]at C;exact j.inj l S a E C
   .intro l t s n a;by_cases d:l=p.z
    .simp_all
    .simp only[St.new,aa d]at a;obtain⟨q1,q2,q3,q4⟩:=q.own l t s n a;simp only[G.add,c,aa d]
     grind [blk]
   .intro l t T A a;by_cases d:l=p.z
    .simp only[St.new,ac d]at a;injection a with U a2 a3;subst U a2 a3;refine⟨?_,?_,fun _=>⟨o8.toList,?_,?_,?_,?_,?_⟩⟩
     .grind [G.add]
     .grind [G.add]
     .simp only[G.add,c,ac d];omega
     .grind [G.add]
     .grind
     .grind
     grind [G.add]
    .simp only[St.new,aa d]at a;obtain⟨k3,k0,L⟩:=q.box l t T A a;refine⟨?_,?_,fun M=>?_⟩
     .grind [G.add]
     .grind [G.add]
     simp only[G.add,c,aa d]at M;obtain⟨N,k1,k2,k4,k5,k6⟩:=L M;have Tv:=m l (by grind [blk]);obtain⟨_,_,L⟩:=j.box l t T A a;obtain⟨B,m1,m2,m4,m5,m6⟩:=L M;have dS:=(ig.1 m1).1;refine⟨B,?_,?_,m4,aG.mono f _ _ m5,?_⟩
     .simp only[G.add,c,aa d];rw[h.block _ dS];omega
     .grind [G.add]
     grind [G.add]
   .intro l ag ks W a;by_cases d:l=p.z
    .simp_all
    .simp only[St.new,aa d]at a;have F:=j.mp l ag ks W a;exact F.keep f (j.map_lt a) (h.block _ F.blk_lt) (by simp only[G.add];rw[aa (m l (j.map_blk a))])
   .intro l t n a;by_cases d:l=p.z
    .simp_all
    .simp only[St.new,aa d]at a;have F:=j.qu l t n a;exact F.keep f (j.que_lt a) (h.block _ F.blk_lt) (by simp only[G.add];rw[aa (m l (j.que_blk a))])
theorem Bn(w:World)(g:G):∀ l:PP,aG w g (us l) (l.map (Value.int .u32))
 |[]=>by simp[aG]
 |a::l=>by simp only[ax,aG,Rep];exact⟨_,_,rfl,rfl,Bn w g l⟩
theorem Oo{w:World}{g:G}:∀(l:PP) (b:List Value),aG w g (us l) b->b=l.map (Value.int .u32)
 |[],b,h=>by grind [aG]
 |a::l,b,h=>by simp only[ax,aG,Rep]at h;obtain⟨v,c,rfl,rfl,d⟩:=h;rw[Oo l c d];rfl
theorem Ww(l:PP)(x:LV)(q:Nat)(m:St)(M:l.length<=1048576)(K:m.H q=.box 22 1 [x])(P:Mq tab 22 m x=some (l.length,us l)):
 aD prog 104 [.fn (.func 204) [.pt q 0]] m fun r y=>r=.ms m.z 0 l.length/\y=m.new (.box 34 1 (us l)):=by
 refine⟨enters_of func104 (by kernel_rfl) rfl,fun w g vs n D=>?_⟩;simp only[aG,Rep]at D;obtain⟨v,_,rfl,⟨U,rfl,v1,_,rfl,⟨rfl,hq⟩,rfl⟩,rfl⟩:=D;obtain⟨_,X,I⟩:=n.box q _ _ _ K;have V:g.nl q=false:=by
  cases hn:g.nl q with
  |false=>rfl
  |true=>grind
 obtain⟨F,Q,k2,R,E,k5⟩:=I V;simp only[List.length_cons,List.length_nil,jw,aG]at E R;obtain⟨B,rest,N,k,_⟩:=E;have f:w.cell? ⟨g.β q,0,none⟩=some B:=by
  rw[cell_of_row w _ _ _ _ _ Q];cases F with
  |nil=>grind
  |cons a F=>grind
 have L:Rg.Ints w.heap.size w B l:=by
  obtain⟨A,c,rfl,s⟩:=Eb n P k;by_cases p:l=[]
  .subst p;exact .inl ⟨rfl,A,c,rfl⟩
  .obtain⟨b,o,W,rfl,S,T⟩:=s (by grind);have t:=Oo l W S;refine .inr ⟨b,o,c,rfl,?_,fun j hj=>?_⟩
   .have J:=T 0 (by grind);rw[t]at J;cases l with
    |nil=>grind
    |cons a l=>exact pU (a:=⟨b,o+0,none⟩) (v:=.int .u32 a) (by grind)
   grind
 refine(((Rg.LQ Fence.wide 4 trivial trivial trivial rfl (au _) (g.β q) B l M w (pU f) f L).calls room_wide)).mono ?_;rintro e w' ⟨v,rfl,C,d⟩;have h:l.length=(l.map (Value.int .u32)).length:=Y;rw[h]at C;obtain⟨g',h1,h2,h3⟩:=zH (cs:=us l) n d C (fun w g=>Bn w g l)
 grind
def I5:lH:=fun f args a=>if f=104 then match args with
 |[.fn (.func g) [.pt q 0]]=>if g=204 then match a.H q with
    |.box e s [x]=>if e=22/\s=1 then match Mq tab 22 a x with
      |some (n,ds)=>match jJ ds with
       |some (ks,ns)=>if(ks.all fun k=>decide (k=.u32))=true/\ns.length=n/\n<=1048576 then some [(.ms a.z 0 n,a.new (.box 34 1 (us ns)))]else none
       |none=>none
      |none=>none
     else none
    |_=>none
  else none
 |_=>none
 else none
theorem IZ:∀(a:QQ) (d:List IntKind) (e:PP),jJ a=some (d,e)->(d.all fun k=>decide (k=.u32))=true->a=us e
 |[],d,e,h,_=>by simp_all
 |c::a,d,e,h,b=>by
  cases c with
  |atom x=>
   cases x with
   |int k n=>
    simp only[jJ]at h;cases j:jJ a with
    |none=>grind
    |some p=>obtain⟨f,g⟩:=p;simp only[j,ap,fj]at h;obtain⟨rfl,rfl⟩:=h;simp only[List.all_cons,gg,jv]at b;obtain⟨rfl,b⟩:=b;rw[IZ a f g j b];rfl
   |_=>simp[jJ]at h
  |_=>simp[jJ]at h
def ID:rR prog I5:=by
 intro f args j d h;unfold I5 at h
 split at h
 .rename_i hf;subst hf
  split at h
  .rename_i g q
   split at h
   .rename_i b;subst b
    split at h
    .rename_i e s x c
     split at h
     .rename_i a;obtain⟨rfl,rfl⟩:=a
      split at h
      .grind [IZ,Ww]
      grind
     grind
    grind
   grind
  grind
 grind
def Va(b:St):aD prog 68 [] b fun r a=>r=bb true/\a=b:=
 vI oP Re ID mixed 1000000 true (by kernel_rfl)
def Wk(b:St):aD prog 69 [] b fun r a=>r=bb true/\a=b:=
 vI oP Re ID mixed 1000000 true (by kernel_rfl)
structure Mp where
 g:Gr
 rots:List (PP)
 deriving DecidableEq
abbrev iL(a:List PP):QQ:=a.map fun r=>.sl 0 r.length (us r)
abbrev rD(m:Mp):QQ:=aw m.g++[.sl 0 m.rots.length (iL m.rots)]
def Ms(a:List PP)(k:Nat)(b:k<a.length):(iL a).drop k=.sl 0 (a.getD k []).length (us (a.getD k []))::(iL a).drop (k+1):=by
 grind [List.drop_eq_getElem_cons]
def uH(b:List (PP×LV))(a x:PP)(v:LV):bY (bX b a v) x=if x=a then some v else bY b x:=by
 induction b with
 |nil=>
  grind [bX,bY]
 |cons p b c=>
  grind [bX,bY]
end Aw
namespace Aw
open Go Go.RowKit Pl
@[simp] theorem O1(c:St)(a b:cT):(c.new a).set c.z b=c.new b:=St.ext' rfl fun y=>by simp_all
def aL(l:QR):(eds l).length=l.length*3:=by
 induction l with
 |nil=>rfl
 |cons e l a=>grind
abbrev ed0:Ed:=⟨0,0,0⟩
def aP(l:QR)(k:Nat)(c:k<l.length):(eds l).drop (k*3)=u (l.getD k ed0).id::u (l.getD k ed0).a::u (l.getD k ed0).b::eds (l.drop (k+1)):=by
 induction l generalizing k with
 |nil=>grind
 |cons e l d=>
  cases k with
  |zero=>rfl
  |succ k=>
   grind
def cH(f:Nat->Int):Nat->Int
 |0=>0
 |n+1=>if cH f n≠0 then cH f n else f n
variable{n:Nat}{f:Nat->Int}
theorem fP(h:∀ j,j<n->f j=0):cH f n=0:=by
 induction n with
 |zero=>rfl
 |succ n a=>grind [cH]
def iE{k:Nat}{v:Int}(b:k<n)(h:∀ j,j<k->f j=0)(c:f k=v)(a:v≠0):cH f n=v:=by
 induction n with
 |zero=>omega
 |succ n d=>
  grind [cH,fP]
def gJ(n ahead:Int)(first:Bool):Int:=if n<1\/1048576<n then 2 else if first=false/\n<=ahead then 19 else 0
def lS(g:Gr)(k:Nat):Int:=gJ (g.V.getD k 0) (g.V.getD (k-1) 0) (decide (k=0))
def nB(g:Gr)(k:Nat):Int:=
 let x:=g.E.getD k ed0;let n:=gJ x.id (g.E.getD (k-1) ed0).id (decide (k=0))
 if n≠0 then n else if x.a=x.b then 20 else if x.a∉g.V\/x.b∉g.V then 21 else 0
def chk(g:Gr):Int:=if 64<g.V.length\/160<g.E.length then 6 else if cH (lS g) g.V.length≠0 then cH (lS g) g.V.length else cH (nB g) g.E.length
def Has(g:Gr)(v:Int)(q:St)(s:small g.V):
 aD prog 39 [.ag (aw g),u v] q fun r b=>r=bb (decide (v∈g.V))/\aC q b:=by
 obtain⟨l,A⟩:=g;simp only at s ⊢;unfold small at s;refine zN func39 ntmps39 [.tmp 4] ?_;refine bz ?_;refine qL (fun n c b=>∃ k:Nat,k<=l.length/\n=l.length-k/\c 8=.sl 0 l.length (us l)/\c 1=u v/\c 9=i l.length/\c 10=i k/\aC q b/\∀ j (w:j<l.length),j<k->l[j]≠v) l.length ?_ ?_
 .exact⟨0,O,O,Y,Y,Y,Y,aC.new _ _,fun j _ h=>by omega⟩
 rintro n c b ⟨k,C,rfl,e,d,f,a,y,D⟩ z m;by_cases dS:k<l.length
 .have o:=lU l k dS;have p:=qN k O
  (repeat' (first|apply qS|apply qB|refine qK (zZ ?_)|(refine qR (zZ ?_);simp[e,d,f,a,dS,o,p])|(apply qC;simp[e,d,f,a,dS,o,p];(try with_reducible refine⟨?_,?_⟩)<;>(try with_reducible intro B))|(refine zE ?_;intro J t;simp[e,d,f,a,dS,o,p];refine zJ t ?_)))
  .grind
  .refine m _ _ _ ?_ ⟨k+1,O,rfl,Z e,Z d,Z f,Y,y,fun j w x=>?_⟩
   .omega
   .rcases ec j k with h|h
    .grind
    .obtain rfl:j=k:=O;omega
 .refine jl e d f a dS ?_
  grind [List.getElem_of_mem]
def Xb(g:Gr)(v:Int)(c:St)(b:small g.V):
 aD prog 87 [.ag (aw g),u v] c fun r a=>r=i (gi g.V v)/\aC c a:=by
 obtain⟨l,e⟩:=g;simp only at b ⊢;refine zN func87 ntmps87 [.tmp 4] ?_
 (refine ez ?_;intro J d)
 refine qE (Index l 0 v _ b) (by simp[]) ?_;rintro r a ⟨rfl,rfl⟩;refine dU d ?_
 grind [aC.new]
def number(n ahead:Int)(first:Bool)(e:St):
 aD prog 86 [u n,u ahead,bb first] e fun r c=>r=i (gJ n ahead first)/\c=e:=by
 unfold gJ;refine zN func86 ntmps86 [.tmp 6] ?_;by_cases a:n<1
 .exact rz a
 by_cases b:1048576<n
 .exact Hq a b
 cases first
 .by_cases d:n<=ahead
  .exact yw a b d
  .exact yw a b d
 .exact Hq a b
def Check(g:Gr)(A:St)(hv:g.V.length<=1000)(he:g.E.length<=1000):
 aD prog 48 [.ag (aw g)] A fun r d=>r=i (chk g)/\aC A d:=by
 have hsm:small g.V:=by unfold small;omega
 refine zN func48 ntmps48 [.tmp 2] ?_;by_cases h1:(64:Int)<(g.V.length:Int)
 .have:chk g=6:=by unfold chk;rw[ac O]
  refine cm h1 this ?_;exact aC.new _ _
 by_cases h2:(160:Int)<(g.E.length:Int)
 .have:chk g=6:=by unfold chk;rw[ac O]
  refine fw h1 h2 this ?_;exact aC.new _ _
 have f:chk g=if cH (lS g) g.V.length≠0 then cH (lS g) g.V.length else cH (nB g) g.E.length:=by unfold chk;rw[aa O]
 refine cm h1 h2 ?_;refine qL (fun n l d=>∃ k:Nat,k<=g.V.length/\n=g.V.length-k/\l 1=.pt A.z 0/\l 21=.sl 0 g.V.length (us g.V)/\l 22=i g.V.length/\l 23=i k/\l 3=u (if k=0 then 0 else g.V.getD (k-1) 0)/\d=A.new (.box 25 2 (aw g))/\∀ j,j<k->lS g j=0) g.V.length ?_ ?_
 .exact⟨0,O,O,Y,Y,Y,Y,Y,rfl,fun j h=>by omega⟩
 rintro n l d ⟨k,hk,rfl,o,B,C,D,M,rfl,v⟩ JJ q;by_cases dS:k<g.V.length
 .have hd:=qG g.V k dS;have hw:=qN k O;have c:lS g k=gJ (g.V.getD k 0) (if k=0 then 0 else g.V.getD (k-1) 0) (decide (k=0)):=by
   unfold lS;by_cases F:k=0
   .subst F;simp[gJ]
   .simp[F]
  generalize hy:(if k=0 then(0:Int)else g.V.getD (k-1) 0)=y at *;generalize hx:g.V.getD k 0=x at *;have S:((k:Int)==0)=decide (k=0):=by by_cases F:k=0<;>simp[F]
  (refine Hn o B C D M dS hd hw S ?_;intro J w)
  refine qE (number x y (decide (k=0)) _) (by simp[]) ?_;rintro r d ⟨rfl,rfl⟩;rw[<- c];by_cases p:lS g k=0
  .refine wT w D hw p ?_;refine q _ _ _ ?_ ⟨k+1,O,rfl,Z o,Z B,Z C,Y,by rw[aa O,sx,hx];simp,rfl,fun j hj=>?_⟩
   .omega
   .rcases ec j k with h|h
    .exact v j h
    .obtain rfl:j=k:=O;exact p
  .have hf:=iE dS v rfl p;have t:chk g=lS g k:=by rw[f,hf,ac p]
   refine pY w p ?_;exact⟨t.symm,aC.new _ _⟩
 have hk':k=g.V.length:=O;have hz:cH (lS g) g.V.length=0:=fP (fun j hj=>v j O);rw[hz]at f;simp only[ne_eq,ta,gI]at f;clear q v hz;have hel:=aL g.E;generalize hy:(if k=0 then(0:Int)else g.V.getD (k-1) 0)=y at *;refine ls o B C D M dS ?_;refine qL (fun n l d=>∃ k:Nat,k<=g.E.length/\n=g.E.length-k/\l 1=.pt A.z 0/\l 39=.sl 0 g.E.length (eds g.E)/\l 40=i g.E.length/\l 41=i k/\(∃ z,l 3=u z/\(k≠0->z=(g.E.getD (k-1) ed0).id))/\aC (A.new (.box 25 2 (aw g))) d/\∀ j,j<k->nB g j=0) g.E.length ?_ ?_
 .exact⟨0,O,O,Z o,Y,Y,Y,⟨y,Z M,Y⟩,aC.refl _,fun j h=>by omega⟩
 clear o B C D M dS hk' hk hy y l k;rintro n l U ⟨k,hk,rfl,o,N,P,Q,⟨z,M,hz⟩,j5,v⟩ JJ q;have R:U.H A.z=.box 25 2 (aw g):=by rw[j5.H _ Y];simp
 have T:¬A.z=U.z:=by have:=j5.z;simp only[aK]at this;omega
 have m:=(aC.new A (.box 25 2 (aw g))).trans j5;by_cases dS:k<g.E.length
 .have hd:=aP g.E k dS;have hw:=qN k O;have o9:k*3<g.E.length*3:=O;have hk30:k*3+3<=g.E.length*3:=O;have c:nB g k=(let x:=g.E.getD k ed0;let n:=gJ x.id z (decide (k=0));if n≠0 then n else if x.a=x.b then 20 else if x.a∉g.V\/x.b∉g.V then 21 else 0):=by
   unfold nB;by_cases F:k=0
   .subst F;simp[gJ]
   .rw[hz F]
  generalize hx:g.E.getD k ed0=x at *;obtain⟨W,xa,xb⟩:=x;simp only at hd c;have S:((k:Int)==0)=decide (k=0):=by by_cases F:k=0<;>simp[F]
  (refine V5 o N P Q M dS hd hw S hel o9 R T ?_;intro J w)
  refine qE (number W z (decide (k=0)) _) (by simp[]) ?_;rintro r d ⟨rfl,rfl⟩;by_cases p:gJ W z (decide (k=0))=0;rotate_left
  .have e:nB g k=gJ W z (decide (k=0)):=by rw[c,ac p]
   have t:chk g=gJ W z (decide (k=0)):=by rw[f];exact iE dS v e p
   refine pY w p ?_;exact⟨t.symm,m.trans (aC.new _ _)⟩
  rw[aa (Z p)]at c;by_cases r9:xa=xb
  .have e:nB g k=20:=by rw[c,ac r9]
   have t:chk g=20:=by rw[f];exact iE dS v e (by decide)
   refine wT w p r9 t ?_;exact m.trans (aC.new _ _)
  rw[aa r9]at c
  (refine N4 w p r9 o T R ?_;intro J w)
  refine qE (Xb g xa _ hsm) (by simp[]) ?_;rintro r d ⟨rfl,j8⟩;have X:d.H U.z=.box 36 3 [u W,u xa,u xb]:=by rw[j8.H _ Y];simp
  have L:d.H A.z=.box 25 2 (aw g):=by rw[j8.H _ (by have:=j5.z;simp only[aK]at this ⊢;omega),cN,aa T];exact R
  have hkp1:=(j5.trans (aC.new _ _)).trans j8;have s:=(m.trans (aC.new _ _)).trans j8;by_cases I:xa∈g.V;rotate_left
  .rw[SF I];have e:nB g k=21:=by rw[c,ac (.inl I)]
   have t:chk g=21:=by rw[f];exact iE dS v e (by decide)
   refine Y5 w o X L t ?_;exact s
  rw[IY I];have hn0:¬((g.V.idxOf xa:Nat):Int)<0:=O
  (apply cP;simp[o,X,L,hn0])
  refine qE (Xb g xb _ hsm) (by simp[]) ?_;rintro r d ⟨rfl,o6⟩;by_cases K:xb∈g.V;rotate_left
  .rw[SF K];have e:nB g k=21:=by rw[c,ac (.inr K)]
   have t:chk g=21:=by rw[f];exact iE dS v e (by decide)
   refine pY w t ?_;exact s.trans o6
  rw[IY K];have hn1:¬((g.V.idxOf xb:Nat):Int)<0:=O;have e:nB g k=0:=by rw[c,aa (ek I K)]
  refine wT w Q hw hn1 ?_;refine q _ _ _ ?_ ⟨k+1,O,rfl,Z o,Z N,Z P,Y,⟨W,Y,fun _=>by rw[sx,hx]⟩,hkp1.trans o6,fun j hj=>?_⟩
  .omega
  .rcases ec j k with h|h
   .exact v j h
   .obtain rfl:j=k:=O;exact e
 .have t:chk g=0:=by rw[f];exact fP (fun j hj=>v j O)
  clear q;refine oh o N P Q M dS t ?_;exact m
def Ov(g:Gr)(st:St)(hv:g.V.length<=1000)(he:g.E.length<=1000):
 aD prog 13 [.ag (aw g)] st fun r m=>r=i (chk g)/\aC st m:=by
 have hsm:small g.V:=by unfold small;omega
 refine zN func13 ntmps13 [.tmp 2] ?_;by_cases h1:(64:Int)<(g.V.length:Int)
 .have:chk g=6:=by unfold chk;rw[ac O]
  refine cm h1 this ?_;exact aC.new _ _
 by_cases h2:(160:Int)<(g.E.length:Int)
 .have:chk g=6:=by unfold chk;rw[ac O]
  refine fw h1 h2 this ?_;exact aC.new _ _
 have hch:chk g=if cH (lS g) g.V.length≠0 then cH (lS g) g.V.length else cH (nB g) g.E.length:=by unfold chk;rw[aa O]
 refine cm h1 h2 ?_;refine qL (fun n fr m=>∃ k:Nat,k<=g.V.length/\n=g.V.length-k/\fr 1=.pt st.z 0/\fr 18=.sl 0 g.V.length (us g.V)/\fr 19=i g.V.length/\fr 20=i k/\m=st.new (.box 25 2 (aw g))/\∀ j,j<k->lS g j=0) g.V.length ?_ ?_
 .exact⟨0,O,O,Y,Y,Y,Y,rfl,fun j h=>by omega⟩
 rintro n fr m ⟨k,hk,rfl,p,F,I,S,rfl,o7⟩ JJ T;by_cases dS:k<g.V.length
 .have X:=qG g.V k dS;have W:=qN k O;have c:lS g k=gJ (g.V.getD k 0) (g.V.getD (k-1) 0) (decide (k=0)):=rfl;have w:lS g k=0->∀ j,j<k+1->lS g j=0:=fun hb j hj=>by
   rcases ec j k with h|h
   .exact o7 j h
   .obtain rfl:j=k:=O;exact hb
  have f:∀ v,lS g k=v->v≠0->chk g=v:=fun v h0 h1=>by have hf:=iE dS o7 h0 h1;rw[hch,hf,ac h1]
  generalize hx:g.V.getD k 0=x at *;by_cases d:x<1
  .have s:=f 2 (by rw[c];unfold gJ;rw[ac (.inl d)]) (by decide);refine oy p F I S dS X W d s ?_;exact aC.new _ _
  by_cases e:1048576<x
  .have s:=f 2 (by rw[c];unfold gJ;rw[ac (.inr e)]) (by decide);refine II p F I S dS X W d e s ?_;exact aC.new _ _
  by_cases h0:k=0
  .have hb:lS g k=0:=by rw[c];unfold gJ;rw[aa (ek d e)];simp[h0]
   have l:¬0<k:=O;refine II p F I S dS X W d e l ?_;refine T _ _ _ ?_ ⟨k+1,O,rfl,Z p,Z F,Z I,Y,rfl,w hb⟩;omega
  .have l:0<k:=O;have R:IntKind.i64.wrap ((k:Int)-1)=((k-1:Nat):Int):=zW;have y9:=qG g.V (k-1) O;have o:k-1<g.V.length:=O;generalize hy:g.V.getD (k-1) 0=y at *;by_cases u7:x<=y
   .have s:=f 19 (by rw[c];unfold gJ;rw[aa (ek d e),ac ⟨Z h0,u7⟩]) (by decide);refine M0 p F I S dS X W d e l R y9 o u7 s ?_;exact aC.new _ _
   .have hb:lS g k=0:=by rw[c];unfold gJ;rw[aa (ek d e),aa (Z u7)]
    refine F9 p F I S dS X W d e l R y9 o u7 ?_;refine T _ _ _ ?_ ⟨k+1,O,rfl,Z p,Z F,Z I,Y,rfl,w hb⟩;omega
 have hk':k=g.V.length:=O;have hz:cH (lS g) g.V.length=0:=fP (fun j hj=>o7 j O);rw[hz]at hch;simp only[ne_eq,ta,gI]at hch;clear T o7 hz;have U:=aL g.E;refine jl p F I S dS ?_;refine qL (fun n fr m=>∃ k:Nat,k<=g.E.length/\n=g.E.length-k/\fr 1=.pt st.z 0/\fr 45=.sl 0 g.E.length (eds g.E)/\fr 46=i g.E.length/\fr 47=i k/\aC (st.new (.box 25 2 (aw g))) m/\∀ j,j<k->nB g j=0) g.E.length ?_ ?_
 .exact⟨0,O,O,Z p,Y,Y,Y,aC.refl _,fun j h=>by omega⟩
 clear p F I S dS hk' hk fr k;rintro n fr st1 ⟨k,hk,rfl,p,A,B,C,j5,o7⟩ JJ T;have K:st1.H st.z=.box 25 2 (aw g):=by rw[j5.H _ Y];simp
 have N:¬st.z=st1.z:=by have:=j5.z;simp only[aK]at this;omega
 have D:=(aC.new st (.box 25 2 (aw g))).trans j5;by_cases dS:k<g.E.length
 .have X:=aP g.E k dS;have W:=qN k O;have o9:k*3<g.E.length*3:=O;have c:nB g k=(let x:=g.E.getD k ed0;let n:=gJ x.id (g.E.getD (k-1) ed0).id (decide (k=0));if n≠0 then n else if x.a=x.b then 20 else if x.a∉g.V\/x.b∉g.V then 21 else 0):=rfl;have w:nB g k=0->∀ j,j<k+1->nB g j=0:=fun hb j hj=>by
   rcases ec j k with h|h
   .exact o7 j h
   .obtain rfl:j=k:=O;exact hb
  have f:∀ v,nB g k=v->v≠0->chk g=v:=fun v h0 h1=>by rw[hch];exact iE dS o7 h0 h1
  generalize hx:g.E.getD k ed0=x at *;obtain⟨xi,xa,xb⟩:=x;simp only at X c;have hkn:=D.trans (aC.new _ (.box 36 3 [u xi,u xa,u xb]));by_cases d:xi<1
  .have hn:gJ xi (g.E.getD (k-1) ed0).id (decide (k=0))=2:=by unfold gJ;rw[ac (.inl d)]
   have s:=f 2 (by rw[c,hn];rfl) (by decide);refine I8 p A B C dS X W U o9 K N d s ?_;exact hkn
  by_cases e:1048576<xi
  .have hn:gJ xi (g.E.getD (k-1) ed0).id (decide (k=0))=2:=by unfold gJ;rw[ac (.inr e)]
   have s:=f 2 (by rw[c,hn];rfl) (by decide);refine F9 p A B C dS X W U o9 K N d e s ?_;exact hkn
  by_cases q:gJ xi (g.E.getD (k-1) ed0).id (decide (k=0))=0;rotate_left
  ·
   have h0:k≠0:=by rintro rfl;apply q;unfold gJ;rw[aa (ek d e)];simp
   have u7:xi<=(g.E.getD (k-1) ed0).id:=by
    unfold gJ at q;rw[aa (ek d e)]at q;by_cases h:decide (k=0)=false/\xi<=(g.E.getD (k-1) ed0).id
    .exact h.2
    .rw[aa h]at q;exact absurd rfl q
   have hn:gJ xi (g.E.getD (k-1) ed0).id (decide (k=0))=19:=by unfold gJ;rw[aa (ek d e),ac ⟨Z h0,u7⟩]
   have s:=f 19 (by rw[c,hn];rfl) (by decide);have l:0<k:=O;have R:IntKind.i64.wrap ((k:Int)-1)=((k-1:Nat):Int):=zW;have y9:=aP g.E (k-1) O;have o:k-1<g.E.length:=O;have Q:(k-1)*3<g.E.length*3:=O;generalize hy:g.E.getD (k-1) ed0=y at *;obtain⟨yi,ya,yb⟩:=y;simp only at y9 u7;refine V3 p A B C dS X W U o9 K N d e l R y9 o Q u7 s ?_;exact hkn
  rw[aa (fun h=>h q)]at c;by_cases r9:xa=xb
  .have s:=f 20 (by rw[c,ac r9]) (by decide);by_cases h0:k=0
   .have l:¬0<k:=O;refine Rn p A B C dS X W U o9 K N d e l r9 s ?_;exact D.trans (aC.new _ _)
   .have l:0<k:=O;have R:IntKind.i64.wrap ((k:Int)-1)=((k-1:Nat):Int):=zW;have y9:=aP g.E (k-1) O;have o:k-1<g.E.length:=O;have Q:(k-1)*3<g.E.length*3:=O;have u7:¬xi<=(g.E.getD (k-1) ed0).id:=by intro h;unfold gJ at q;rw[aa (ek d e),ac ⟨Z h0,h⟩]at q;cases q
    generalize hy:g.E.getD (k-1) ed0=y at *;obtain⟨yi,ya,yb⟩:=y;simp only at y9 u7;refine Y0 p A B C dS X W U o9 K N d e l R y9 o Q u7 r9 s ?_;exact D.trans (aC.new _ _)
  rw[aa r9]at c;by_cases h0:k=0
  .have l:¬0<k:=O
   (refine Y8 p A B C dS X W U o9 K N d e l r9 ?_;intro J hJ)
   refine qE (Has g xa _ hsm) (by simp[]) ?_;rintro r m ⟨rfl,j8⟩;have hB1:m.H st1.z=.box 36 3 [u xi,u xa,u xb]:=by rw[j8.H _ Y];simp
   have P:m.H st.z=.box 25 2 (aw g):=by rw[j8.H _ (by have:=j5.z;simp only[aK]at this ⊢;omega),cN,aa N];exact K
   have hkp1:=(j5.trans (aC.new _ _)).trans j8;have t:=(D.trans (aC.new _ _)).trans j8;by_cases L:xa∈g.V;rotate_left
   .have s:=f 21 (by rw[c,ac (.inl L)]) (by decide);refine Ya hJ p hB1 P s L ?_;exact t
   (apply cP;simp[p,hB1,P,L])
   refine qE (Has g xb _ hsm) (by simp[]) ?_;rintro r m ⟨rfl,o6⟩;by_cases M:xb∈g.V;rotate_left
   .have s:=f 21 (by rw[c,ac (.inr M)]) (by decide);refine oG hJ s M ?_;exact t.trans o6
   have hb':nB g k=0:=by rw[c,aa (ek L M)]
   refine wT hJ C W M ?_;refine T _ _ _ ?_ ⟨k+1,O,rfl,Z p,Z A,Z B,Y,hkp1.trans o6,w hb'⟩;omega
  .have l:0<k:=O;have R:IntKind.i64.wrap ((k:Int)-1)=((k-1:Nat):Int):=zW;have y9:=aP g.E (k-1) O;have o:k-1<g.E.length:=O;have Q:(k-1)*3<g.E.length*3:=O;have u7:¬xi<=(g.E.getD (k-1) ed0).id:=by intro h;unfold gJ at q;rw[aa (ek d e),ac ⟨Z h0,h⟩]at q;cases q
   generalize hy:g.E.getD (k-1) ed0=y at *;obtain⟨yi,ya,yb⟩:=y;simp only at y9 u7
   (refine S5 p A B C dS X W U o9 K N d e l R y9 o Q u7 r9 ?_;intro J hJ)
   refine qE (Has g xa _ hsm) (by simp[]) ?_;rintro r m ⟨rfl,j8⟩;have hB1:m.H st1.z=.box 36 3 [u xi,u xa,u xb]:=by rw[j8.H _ Y];simp
   have P:m.H st.z=.box 25 2 (aw g):=by rw[j8.H _ (by have:=j5.z;simp only[aK]at this ⊢;omega),cN,aa N];exact K
   have hkp1:=(j5.trans (aC.new _ _)).trans j8;have t:=(D.trans (aC.new _ _)).trans j8;by_cases L:xa∈g.V;rotate_left
   .have s:=f 21 (by rw[c,ac (.inl L)]) (by decide);refine Ya hJ p hB1 P s L ?_;exact t
   (apply cP;simp[p,hB1,P,L])
   refine qE (Has g xb _ hsm) (by simp[]) ?_;rintro r m ⟨rfl,o6⟩;by_cases M:xb∈g.V;rotate_left
   .have s:=f 21 (by rw[c,ac (.inr M)]) (by decide);refine oG hJ s M ?_;exact t.trans o6
   have hb':nB g k=0:=by rw[c,aa (ek L M)]
   refine wT hJ C W M ?_;refine T _ _ _ ?_ ⟨k+1,O,rfl,Z p,Z A,Z B,Y,hkp1.trans o6,w hb'⟩;omega
 .have s:chk g=0:=by rw[hch];exact fP (fun j hj=>o7 j O)
  clear T;refine ls p A B C dS s ?_;exact D
def OL(l:QR):(eds l).all kQ=true:=by
 induction l with
 |nil=>rfl
 |cons e l a=>simp only[eds,dt,List.all_append,a,xu];rfl
def Tp(l:QR)(t:Nat)(c:St)(g:l.length<=1048576):
 aD prog 19 [.sl t l.length (eds l)] c fun r d=>r=.sl 0 l.length (eds l)/\aC c d:=by
 have b:=OL l;have a:=aL l;refine cQ ?_;refine kW 36 3 ?_;refine zN func19 ntmps19 [.tmp 2] ?_
 (repeat' (first|apply qS|refine qK (zZ ?_)|(refine qR (zZ ?_);simp[b,a])|(apply qC;simp[b,a])|(refine w_e [5] ?_;intro J e;simp only[];simp[b,a];(repeat refine ca ?_);((try with_reducible refine⟨?_,?_⟩)<;>(try with_reducible intro f)<;>refine zJ e ?_<;>clear e J<;>try subst f))))
 .exact⟨c.z+1,l.length,⟨rfl,rfl⟩,36,3,eds l,Y,by rw[a];exact au _,⟨rfl,ej (by rw[a];exact au _)⟩,((aC.new _ _).trans (aC.new _ _)).set O _⟩
 .exact⟨c.z,0,⟨rfl,rfl⟩,36,3,[],Y,Y,⟨rfl,.inr rfl⟩,(aC.new _ _).set (au _) _⟩
def copied(g:Gr)(c:St)(n:g.V.length<=1048576)(m:g.E.length<=1048576):
 aD prog 109 [.ag (aw g)] c fun r a=>r=.ag (aw g)/\aC c a:=by
 refine zN func109 ntmps109 [.cell 2 25] ?_;refine bz ?_
 (refine zS [] [c.z] [0,2,6,8,4,10,12,15] ?_;intro J l;simp[])
 refine qD (UU g.V 0 _ n) (by simp[]) ?_;rintro r a ⟨rfl,f⟩;have b:a.H c.z=.box 25 2 (aw g):=by rw[f.H _ (by simp;omega)];simp
 have h:a.H (c.z+1)=.box 25 2 [.nil,.nil]:=by rw[f.H _ Y];simp
 refine⟨fun _=>by simp[b],?_⟩
 (apply bM;simp[b])
 have j:=f.z;simp only[aK]at j;refine qD (Tp g.E 0 _ m) (by simp[]) ?_;rintro r a ⟨rfl,k⟩;have d:=(k.H c.z O).trans b;have e:=(k.H (c.z+1) O).trans h;refine⟨fun _=>by simp[d],?_⟩
 (apply bM;simp[d,e];refine zJ l ?_)
 refine df e ?_;exact(((((aC.new _ _).trans (aC.new _ _)).trans f).trans k).set O _)
def Wg(a b:QR)(e:a.length=b.length)(h:∀ j,j<a.length->a.getD j ed0=b.getD j ed0):a=b:=by apply ti e;intro j c d;have:=h j c;rw[bv,bv,bu c,bu d]at this;exact this
def Sd(a b:PP)(e:a.length=b.length)(h:∀ j,j<a.length->a.getD j 0=b.getD j 0):a=b:=by apply ti e;intro j c d;have:=h j c;rw[bT _ _ c,bT _ _ d]at this;exact this
def Er(a b:Gr)(p:St)(hv:a.V.length<=1048576)(he:a.E.length<=1048576):
 aD prog 28 [.ag (aw a),.ag (aw b)] p fun r c=>r=bb (decide (a=b))/\aC p c:=by
 have o:aC p ((p.new (.box 25 2 (aw a))).new (.box 25 2 (aw b))):=(aC.new _ _).trans (aC.new _ _);refine zN func28 ntmps28 [.tmp 4] ?_;by_cases h1:a.V.length=b.V.length;rotate_left
 .have t:((a.V.length:Int) != b.V.length)=true:=by simp;omega
  have Tv:¬a=b:=fun h=>h1 (by rw[h]);refine cm t Tv ?_;exact o
 have t:((a.V.length:Int) != b.V.length)=false:=by simp;omega
 by_cases h2:a.E.length=b.E.length;rotate_left
 .have C:((a.E.length:Int) != b.E.length)=true:=by simp;omega
  have Tv:¬a=b:=fun h=>h2 (by rw[h]);refine fw t C Tv ?_;exact o
 have C:((a.E.length:Int) != b.E.length)=false:=by simp;omega
 refine cm t C ?_;refine qL (fun n e c=>∃ k:Nat,k<=a.V.length/\n=a.V.length-k/\e 2=.pt p.z 0/\e 3=.pt (p.z+1) 0/\e 25=i a.V.length/\e 26=i k/\c=(p.new (.box 25 2 (aw a))).new (.box 25 2 (aw b))/\∀ j,j<k->a.V.getD j 0=b.V.getD j 0) a.V.length ?_ ?_
 .exact⟨0,O,O,Y,Y,Y,Y,rfl,fun j h=>by omega⟩
 rintro n e c ⟨k,hk,rfl,f,l,g,q,rfl,J⟩ JJ m;by_cases dS:k<a.V.length
 .have F:=qG a.V k dS;have D:k<b.V.length:=O;have d:=qG b.V k D;have M:=qN k O;generalize H:a.V.getD k 0=x at *;generalize I:b.V.getD k 0=y at *;by_cases W0:x=y
  .refine II f l g q dS D F d M W0 ?_;refine m _ _ _ ?_ ⟨k+1,O,rfl,Z f,Z l,Z g,Y,rfl,fun j S=>?_⟩
   .omega
   .rcases ec j k with h|h
    .exact J j h
    .obtain rfl:j=k:=O;rw[H,I];exact W0
  .have Tv:¬a=b:=fun h=>W0 (by rw[<- H,<- I,h]);refine Xk f l g q dS D F d M W0 Tv ?_;exact o
 have L:=Sd a.V b.V h1 (fun j S=>J j O);clear m J;have v:=aL a.E;have w:=aL b.E;refine jl f l g q dS ?_;refine qL (fun n e c=>∃ k:Nat,k<=a.E.length/\n=a.E.length-k/\e 2=.pt p.z 0/\e 3=.pt (p.z+1) 0/\e 43=i a.E.length/\e 44=i k/\c=(p.new (.box 25 2 (aw a))).new (.box 25 2 (aw b))/\∀ j,j<k->a.E.getD j ed0=b.E.getD j ed0) a.E.length ?_ ?_
 .exact⟨0,O,O,Z f,Z l,Y,Y,rfl,fun j h=>by omega⟩
 clear f l g q dS hk e k;rintro n e c ⟨k,hk,rfl,f,l,s,B,rfl,J⟩ JJ m;by_cases dS:k<a.E.length
 .have F:=aP a.E k dS;have D:k<b.E.length:=O;have d:=aP b.E k D;have M:=qN k O;have o9:k*3<a.E.length*3:=O;have A:k*3<b.E.length*3:=O;generalize H:a.E.getD k ed0=x at *;generalize I:b.E.getD k ed0=y at *;obtain⟨T,U,W⟩:=x;obtain⟨X,y2,y3⟩:=y;simp only at F d;by_cases W0:([T,U,W]==[X,y2,y3])=true
  .have N:([T,U,W]:PP)=[X,y2,y3]:=by simpa using W0
   injection N with Q e2;injection e2 with e2 e3;injection e3 with e3 _;subst Q e2 e3;refine I8 f l s B dS D F d M v w o9 A ?_;refine m _ _ _ ?_ ⟨k+1,O,rfl,Z f,Z l,Z s,Y,rfl,fun j S=>?_⟩
   .omega
   .rcases ec j k with h|h
    .exact J j h
    .obtain rfl:j=k:=O;rw[H,I]
  .have Tv:¬a=b:=fun h=>W0 (by rw[h]at H;rw[H]at I;injection I with Q e2 e3;subst Q e2 e3;simp);have P:([T,U,W]==[X,y2,y3])=false:=by simpa using W0
   refine M0 f l s B dS D F d M v w o9 A P Tv ?_;exact o
 .have K:=Wg a.E b.E h2 (fun j S=>J j O);have R:a=b:=by cases a;cases b;simp only at L K;subst L K;rfl
  clear m;subst R;refine jl f l s B dS ?_;exact o
end Aw
end Go.Proofs.YtbgngpdonpeboaaGreatDoor
