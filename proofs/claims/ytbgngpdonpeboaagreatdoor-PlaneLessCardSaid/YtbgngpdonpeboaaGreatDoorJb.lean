/- The library's sort: partitionEqual. Written by gensort.py. -/
import Derived.Test.YtbgngpdonpeboaaGreatDoorJa
import Derived.Test.YtbgngpdonpeboaaGreatDoorAwX
import Derived.Test.YtbgngpdonpeboaaGreatDoorAwSet
import Derived.Test.YtbgngpdonpeboaaGreatDoorAwFn
import Derived.Test.YtbgngpdonpeboaaGreatDoorAwShp
set_option linter.defProp false
set_option linter.unusedVariables false
set_option linter.unusedSimpArgs false
set_option maxHeartbeats 4000000
open Go.Proofs.Tryz
namespace Go.Proofs.YtbgngpdonpeboaaGreatDoor
namespace Aw
open Go Go.RowKit Pl
def partitionEqual(l:AN)(q a b pv:Nat)(I:St)(hl:small l)(x9:a<b)(hb:b<=l.length)(S7:a<=pv)(Z7:pv<b)(hH:I.H q=.box 34 1 (us l)):
 aB prog 127 [.ms q 0 l.length,i a,i b,i pv] I fun r st'=>∃(c:AN) (I8:Nat),r=i I8/\st'=bx I q c/\Pm a b l c/\a<I8/\I8<=b/\ID c a I8 b (l.getD pv 0):=by
 unfold small at hl;refine zN func127 ntmps127 [.tmp 8] ?_
 (repeat (apply qS));(refine zE ?_;intro J w;simp[];refine zJ w ?_)
 have R:a<l.length:=oO;have hlp:pv<l.length:=oO;have N4:=fun x y=>Ji I q l a pv (x:=x) (y:=y) oO oO;have z:=qG l a oO;have N:=qG l pv oO;have V:Pm a b l (sw l a pv):=Pm.one a pv oO oO oO oO oO;have U:(sw l a pv).getD a 0=l.getD pv 0:=by
  rw[cO _ _ _ _ oO oO];by_cases e:a=pv
  .rw[ad e,e]
  .rw[ac e,ad rfl]
 generalize hy0:l.getD a 0=y0 at *;generalize hy1:l.getD pv 0=x at *;have L8:=N4 y0 x rfl rfl
 (repeat (apply qS));(refine zS [] [q] [0,2,4,6,8,10,12,14,16,18,20,22,24,27,28,31] ?_;intro J w;simp[hH,R,hlp,z,N];(repeat refine ca ?_);refine zJ w ?_)
 rw[L8];clear N4 L8 z N hy0;generalize hc:sw l a pv=c at *;clear hc;have r8:=V.len;have w1:=qN a oO;have w2:=aV b oO oO;obtain⟨P,L⟩:∃ P:Int->Bool,∀ v,P v=!decide (x<v):=⟨_,fun _=>rfl⟩;apply qS;refine bW (fun f j=>f 0=.ms q 0 l.length/\f 1=i a/\f 9=i ((a+1:Nat):Int)/\f 10=i ((b-1:Nat):Int)/\j=bx I q c) (by(refine zE ?_;intro J w;simp[w1,w2];refine zJ w ?_);simp) ?_;rintro f j ⟨k,n,o,s,rfl⟩;have E:a<a+1:=oO;have F:a+1<=b-1+1:=oO;have hjb:b-1<b:=oO;have C:Lo P c a (a+1):=fun p W O=>by omega
 have D:Hi P c (b-1) b:=fun p W O=>by omega
 generalize a+1=d at *;generalize b-1=t at *;clear w1 w2;have z:=qG c a oO;rw[U]at z;apply qS;apply qB;refine qL (fun m f j=>∃(d t:Nat) (c:AN),a<d/\d<=t+1/\t<b/\t=m/\f 0=.ms q 0 l.length/\f 1=i a/\f 9=i d/\f 10=i t/\j=bx I q c/\Pm a b l c/\c.getD a 0=x/\Lo P c a d/\Hi P c t b) t ?_ ?_
 .exact⟨d,t,c,oO,oO,oO,rfl,k,n,o,s,rfl,V,U,C,D⟩
 clear k n o s C D V U r8 z E F hjb d t c f;rintro m f j ⟨d,t,c,E,F,hjb,rfl,k,n,o,s,rfl,V,U,C,D⟩ JJ0 Y;have r8:=V.len;have z:=qG c a oO;rw[U]at z;apply qB;apply qS;refine bW (fun f j=>∃ d:Nat,a<d/\d<=t+1/\f 0=.ms q 0 l.length/\f 1=i a/\f 9=i d/\f 10=i t/\j=bx I q c/\Lo P c a d/\wy P c d t) ?_ ?_
 .apply qB;refine qL (fun m f j=>∃ d:Nat,a<d/\d<=t+1/\m=t+1-d/\f 0=.ms q 0 l.length/\f 1=i a/\f 9=i d/\f 10=i t/\j=bx I q c/\Lo P c a d) (t+1-d) ?_ ?_
  .exact⟨d,oO,oO,rfl,aa k,aa n,aa o,aa s,rfl,C⟩
  clear k n o s C E F f d;rintro m f j ⟨d,E,F,rfl,k,n,o,s,rfl,C⟩ JJ A;have Q:=qN d oO;by_cases B:d<=t;rotate_left
  .clear A
   (repeat (apply qS));(refine zS [] [q] [0,2,4,6,8,10,12,14,16,18,20,22,25,26,28] ?_;intro J w;simp[k,n,o,s,B];refine zJ w ?_)
   refine bz ?_;exact⟨trivial,d,oO,oO,aa k,aa n,aa o,aa s,by trivial,C,fun h=>absurd h B⟩
  have S:d<l.length:=oO;have N:=qG c d oO;have T:=C.more;generalize hy:c.getD d 0=y at *
  (repeat (apply qS));(refine zS [] [q] [0,2,4,6,8,10,12,14,16,18,20,22,25,26,28] ?_;intro J w;simp[k,n,o,s,B,S,R,r8,z,N])
  refine aO (uL x y _) ?_;rintro r s2 ⟨rfl,rfl⟩;refine⟨fun _=>by simp,?_⟩;have hP:=L y;by_cases K:x<y
  .clear A
   (apply bM;simp[K];refine zJ w ?_)
   refine bz ?_;exact⟨trivial,d,oO,oO,aa k,aa n,aa o,aa s,by trivial,C,fun _=>by rw[hy,hP];simp[K]⟩
  ·(apply bM;simp[K];refine zJ w ?_)
   refine cy o Q ?_;exact A (t+1-(d+1)) _ _ oO ⟨d+1,oO,oO,rfl,aa k,aa n,sS,aa s,rfl,T (by rw[hP];simp[K])⟩
 clear k n o s C E F f d;rintro f j ⟨d,E,F,k,n,o,s,rfl,C,K2⟩;apply qS;refine bW (fun f j=>∃ g:Nat,a<=g/\g<=t/\d<=g+1/\f 0=.ms q 0 l.length/\f 1=i a/\f 9=i d/\f 10=i g/\j=bx I q c/\Hi P c g b/\wz P c d g) ?_ ?_
 .apply qB;refine qL (fun m f j=>∃ g:Nat,a<=g/\g<=t/\d<=g+1/\g=m/\f 0=.ms q 0 l.length/\f 1=i a/\f 9=i d/\f 10=i g/\j=bx I q c/\Hi P c g b) t ?_ ?_
  .exact⟨t,oO,oO,oO,rfl,aa k,aa n,aa o,aa s,rfl,D⟩
  clear k n o s D f;rintro m f j ⟨g,hak,hkj,hik,rfl,k,n,o,s,rfl,D⟩ JJ A;by_cases B:d<=g;rotate_left
  .clear A
   (repeat (apply qS));(refine zS [] [q] [0,2,4,6,8,10,12,14,16,18,20,22,25,26] ?_;intro J w;simp[k,n,o,s,B];refine zJ w ?_)
   refine bz ?_;exact⟨trivial,g,oO,oO,oO,aa k,aa n,aa o,aa s,by trivial,D,fun h=>absurd h B⟩
  have hja:=aV g oO oO;have hlj:g<l.length:=oO;have N:=qG c g oO;have T:=D.more;generalize hy:c.getD g 0=y at *
  (repeat (apply qS));(refine zS [] [q] [0,2,4,6,8,10,12,14,16,18,20,22,25,26] ?_;intro J w;simp[k,n,o,s,B,hlj,R,r8,z,N])
  refine aO (uL x y _) ?_;rintro r s2 ⟨rfl,rfl⟩;refine⟨fun _=>by simp,?_⟩;have hP:=L y;by_cases K:x<y
  ·(apply bM;simp[K];refine zJ w ?_)
   refine cy s hja ?_;exact A (g-1) _ _ oO ⟨g-1,oO,oO,oO,rfl,aa k,aa n,aa o,sS,rfl,T oO (by rw[hP];simp[K])⟩
  .clear A
   (apply bM;simp[K];refine zJ w ?_)
   refine bz ?_;exact⟨trivial,g,oO,oO,oO,aa k,aa n,aa o,aa s,by trivial,D,fun _=>by rw[hy,hP];simp[K]⟩
 clear k n o s D f;rintro f j ⟨g,hak,hkj,hik,k,n,o,s,rfl,D,X3⟩;by_cases B:d<=g;rotate_left
 .clear Y
  (repeat' (first|apply qS|refine qX (zZ ?_)|(refine qR (zZ ?_);simp[k,n,o,s,B])|(apply qC;simp[k,n,o,s,B];(try with_reducible intro hc))|(refine zE ?_;intro J w;simp[k,n,o,s,B];refine zJ w ?_)))
  refine⟨c,d,rfl,rfl,V,oO,oO,fun p W O=>?_,fun p W O=>?_⟩
  .by_cases e:p=a
   .rw[e,U];exact oi _
   .have:=C p oO O;rw[L]at this;simpa using this
  .have:=D p oO O;rw[L]at this;simpa using this
 have M:d<g:=by
  rcases dC d g with h|h
  .exact h
  .exfalso;have e:d=g:=oO;have W:=K2 oO;have O:=X3 B;rw[e,O]at W;cases W
 have Z:=C.swp M oO (X3 B);have X:=D.swp M oO (K2 oO);have N7:=V.step d g oO oO oO oO oO;have hxx:(sw c d g).getD a 0=x:=by rw[cO _ _ _ _ oO oO,ac oO,ac oO];exact U
 have S:d<l.length:=oO;have hlk:g<l.length:=oO;have N:=qG c d oO;have N3:=qG c g oO;have N4:=fun x y=>nD I q c d g (x:=x) (y:=y) oO oO;have Q:=qN d oO;have hka:=aV g oO oO;clear K2 X3;generalize hy1:c.getD d 0=y1 at *;generalize X8:c.getD g 0=y2 at *;have L8:=N4 y1 y2 rfl rfl
 (repeat' (first|apply qS|refine qK (zZ ?_)|(apply qC;simp[k,n,o,s,B];(try with_reducible refine⟨?_,?_⟩)<;>(try with_reducible intro hc)<;>try (exfalso;omega))|(refine zE ?_;intro J w;simp[k,n,o,s,B];refine zJ w ?_)))
 (refine zS [] [q] [0,2,4,6,8,10,12,14,16,18,20,22,24,27,28,31] ?_;intro J w;simp[k,n,o,s,S,hlk,r8,N,N3];(repeat refine ca ?_);refine zJ w ?_)
 refine ef o s Q hka ?_;exact Y (g-1) _ _ oO ⟨d+1,g-1,sw c d g,oO,oO,oO,rfl,aa k,aa n,sS,sS,L8,N7,hxx,Z,X⟩
def rJ(l:AN)(a b:Nat):Prop:=0<a->∀ j,a<=j->j<b->l.getD (a-1) 0<=l.getD j 0
def rJ.pm{l c:AN}{a b:Nat}(h:rJ l a b)(k:Pm a b l c):rJ c a b:=by intro f j d e;rw[k.out (a-1) oO];exact k.all (fun x=>l.getD (a-1) 0<=x) (fun j d e=>h f j d e) j d e
def ZT(c:AN)(k b:Nat):Prop:=k<b->c.getD k 0<c.getD (k-1) 0
def Ye(p:Bool)(a b:Nat)(c:AN):Prop:=p=true->Srt a b c
def Uy(q a b k j:Nat)(l:AN)(f:St)(d:af)(e:St):Prop:=∃ c:AN,d 0=.ms q 0 l.length/\d 1=i a/\d 2=i b/\d 7=i k/\d 8=i j/\e=bx f q c/\Pm a b l c/\Srt a k c
def partialInsertionSort(l:AN)(q a b:Nat)(I:St)(hl:small l)(ha:a<b)(hb:b<=l.length)(hah:rJ l a b)(hH:I.H q=.box 34 1 (us l)):
 aB prog 125 [.ms q 0 l.length,i a,i b] I fun r st'=>∃ c p,r=bb p/\st'=bx I q c/\Pm a b l c/\Ye p a b c:=by
 unfold small at hl;refine zN func125 ntmps125 [.tmp 6] ?_;have hw0:=qN a oO;refine dd hw0 ?_;refine qL (fun n d o=>∃(j k:Nat) (c:AN),j<=5/\n=5-j/\a<k/\k<=b/\d 0=.ms q 0 l.length/\d 1=i a/\d 2=i b/\d 7=i k/\d 8=i j/\o=bx I q c/\Pm a b l c/\Srt a k c) 5 ?_ ?_
 .exact⟨0,a+1,l,oO,rfl,oO,oO,sS,sS,sS,sS,sS,uM hH,.refl,fun p q h1 h2 h3=>by omega⟩
 rintro n d o ⟨j,k,c,hj,rfl,B,C,g,s,f,e,t,rfl,w,z⟩ J0 F;by_cases hj5:(j:Int)<5;rotate_left
 .clear F;refine cy t hj5 ?_;exact⟨c,rfl,w,fun h=>by cases h⟩
 have O:=w.len
 (repeat (apply qS));(refine zE ?_;intro J A;simp[t,hj5];refine zJ A ?_)
 (apply qC;simp[])
 refine qK (zZ ?_);apply qS;apply qB;apply qS;refine bW (fun d o=>∃ k:Nat,a<k/\k<=b/\d 0=.ms q 0 l.length/\d 1=i a/\d 2=i b/\d 7=i k/\d 8=i j/\o=bx I q c/\Srt a k c/\ZT c k b) ?_ ?_
 .apply qB;refine qL (fun n d o=>∃ k:Nat,n=b-k/\a<k/\k<=b/\d 0=.ms q 0 l.length/\d 1=i a/\d 2=i b/\d 7=i k/\d 8=i j/\o=bx I q c/\Srt a k c) (b-k) ?_ ?_
  .exact⟨k,rfl,B,C,aa g,aa s,aa f,aa e,aa t,rfl,z⟩
  clear g s f e t z B C d k;rintro n d o ⟨k,rfl,B,C,g,s,f,e,t,rfl,z⟩ JJ v;by_cases dF:k<b;rotate_left
  .clear v
   (repeat (apply qS));(refine zS [] [q] [0,2,4,6,8,10,12,14,16,18,20,22,24,27,28,30] ?_;intro J A;simp[g,f,e,dF];refine zJ A ?_)
   refine bz ?_;exact⟨trivial,k,oO,oO,aa g,aa s,aa f,aa e,aa t,by trivial,z,fun h=>absurd h dF⟩
  have w1:=qN k oO;have w2:=aV k oO oO;have Q:=qG c k oO;have P:=qG c (k-1) oO;have T:k<l.length:=oO;have U:k-1<l.length:=oO;have n9:=z.ins.done oO;generalize hx:c.getD k 0=x at *;generalize hy:c.getD (k-1) 0=y at *
  (repeat (apply qS));(refine zS [] [q] [0,2,4,6,8,10,12,14,16,18,20,22,24,27,28,30] ?_;intro J A;simp[g,f,e,dF,w2,T,U,O,Q,P])
  refine aO (uL x y _) ?_;rintro r s2 ⟨rfl,rfl⟩;refine⟨fun _=>by simp,?_⟩;by_cases E:x<y
  .clear v
   (apply bM;simp[E];refine zJ A ?_)
   refine bz ?_;exact⟨trivial,k,oO,oO,aa g,aa s,aa f,aa e,aa t,by trivial,z,fun h=>by rw[hx,hy];exact E⟩
  ·(apply bM;simp[E];refine zJ A ?_)
   refine cy e w1 ?_;exact v (b-(k+1)) _ _ oO ⟨k+1,rfl,oO,oO,aa g,aa s,aa f,sS,aa t,rfl,n9 (.inr E)⟩
 clear g s f e t z B C d k;rintro d o ⟨k,B,C,g,s,f,e,t,rfl,z,S⟩;by_cases hkb2:k=b
 .clear F;have D:(k:Int)=(b:Int):=oO;refine fk f e D ?_;exact⟨c,rfl,w,fun _=>by rw[<- hkb2];exact z⟩
 have D:¬(k:Int)=(b:Int):=oO;have w1:IntKind.i64.wrap ((b:Int)-(a:Int))=(b:Int)-(a:Int):=zW;by_cases h50:(b:Int)-(a:Int)<50
 .clear F;refine kj s f e D w1 h50 ?_;exact⟨c,rfl,w,fun h=>by cases h⟩
 have w2:=aV k oO oO;have Q:=qG c k oO;have P:=qG c (k-1) oO;have T:k<l.length:=oO;have U:k-1<l.length:=oO;have X:=fun x y=>nD I q c k (k-1) (x:=x) (y:=y) oO oO;have V:Srt a (k-1) (sw c k (k-1)):=by intro p q h1 h2 h3;rw[cO _ _ _ _ oO oO,cO _ _ _ _ oO oO,ac oO,ac oO,ac oO,ac oO];exact z p q h1 h2 oO
 have Z:=w.step k (k-1) oO oO oO oO oO;generalize hx:c.getD k 0=x at *;generalize hy:c.getD (k-1) 0=y at *;have W:=X x y rfl rfl;refine kj s f e D w1 h50 ?_
 (refine zS [] [q] [0,2,4,6,8,10,12,14,16,18,20,22,24,26,28,31,32,35] ?_;intro J A;simp[g,e,w2,T,U,O,Q,P];(repeat refine ca ?_);refine zJ A ?_)
 rw[W];clear X W Q P hx hy z S;generalize hc1:sw c k (k-1)=c1 at *;have R:=Z.len;clear hc1 w O c;have w3:IntKind.i64.wrap ((k:Int)-(a:Int))=(k:Int)-(a:Int):=zW;apply qS;refine bW (Uy q a b k j l I) ?_ ?_
 .by_cases u5:(2:Int)<=(k:Int)-(a:Int);rotate_left
  .refine ef s e w3 u5 ?_;refine⟨by trivial,?_⟩;unfold Uy;exact⟨c1,aa g,aa s,aa f,aa e,aa t,by trivial,Z,fun p q h1 h2 h3=>by omega⟩
  refine jg s e w3 u5 w2 ?_;refine qL (fun n d o=>∃(m:Nat) (c:AN),a<=m/\m<=k-1/\m=n/\d 0=.ms q 0 l.length/\d 1=i a/\d 2=i b/\d 7=i k/\d 8=i j/\d 9=i m/\o=bx I q c/\Pm a b l c/\Ins a m (k-1) c) (k-1) ?_ ?_
  .exact⟨k-1,c1,oO,oO,rfl,aa g,aa s,aa f,aa e,aa t,sS,rfl,Z,V.ins⟩
  clear g s f e t Z V R c1 d;rintro n d o ⟨m,c,ham,hmk,rfl,g,s,f,e,t,f9,rfl,w,hI⟩ JJ v;have O:=w.len;have o6:k-1+1=k:=oO;by_cases hm1:(1:Int)<=(m:Int);rotate_left
  .clear v;refine cy f9 hm1 ?_;refine⟨by trivial,?_⟩;unfold Uy;refine⟨c,aa g,aa s,aa f,aa e,aa t,by trivial,w,?_⟩;have:=hI.done ham (.inl oO);rwa [o6]at this
  have Y:=aV m oO oO;have Q:=qG c m oO;have P:=qG c (m-1) oO;have M:m<l.length:=oO;have N:m-1<l.length:=oO;have X:=fun x y=>nD I q c m (m-1) (x:=x) (y:=y) oO oO;have hahm:m=a->¬c.getD m 0<c.getD (m-1) 0:=by rintro rfl;have:=hah.pm w oO m oO oO;omega
  have L:=hI.done ham;rw[o6]at L;have K0:=fun h=>hI.step h hmk oO;generalize hx:c.getD m 0=x at *;generalize hy:c.getD (m-1) 0=y at *;have W:=X x y rfl rfl;refine cy f9 hm1 ?_
  (refine zS [] [q] [0,2,4,6,8,10,12,14,16,19,20] ?_;intro J A;simp[g,f9,Y,M,N,O,Q,P])
  refine aO (uL x y _) ?_;rintro r s2 ⟨rfl,rfl⟩;refine⟨fun _=>by simp,?_⟩;by_cases E:x<y;rotate_left
  .clear v
   (apply bM;simp[E];refine zJ A ?_)
   refine bz ?_;refine⟨by trivial,?_⟩;unfold Uy;exact⟨c,aa g,aa s,aa f,aa e,aa t,by trivial,w,L (.inr E)⟩
  have hma:a<m:=by
   rcases dC a m with h|h
   .exact h
   .exact absurd E (hahm oO)
  have N7:=w.step m (m-1) oO oO oO oO oO
  (apply bM;simp[E];refine zJ A ?_)
  refine bz ?_
  (refine zS [] [q] [0,2,4,6,8,10,12,14,16,18,20,22,24,26,28,31,32,35] ?_;intro J A;simp[g,f9,Y,M,N,O,Q,P];(repeat refine ca ?_);refine zJ A ?_)
  refine cy f9 Y ?_;exact v (m-1) _ _ oO ⟨m-1,sw c m (m-1),oO,oO,rfl,aa g,aa s,aa f,aa e,aa t,sS,W,N7,K0 hma E⟩
 clear g s f e t Z V R c1 d;rintro d o ⟨c,g,s,f,e,t,rfl,w,z⟩;have O:=w.len;have w5:IntKind.i64.wrap ((b:Int)-(k:Int))=(b:Int)-(k:Int):=zW;have w6:=qN j oO;have w7:=qN k oO;by_cases u5:(2:Int)<=(b:Int)-(k:Int);rotate_left
 .refine kj f e w5 u5 t w6 ?_;exact F (5-(j+1)) _ _ oO ⟨j+1,k,c,oO,rfl,B,C,aa g,aa s,aa f,aa e,sS,rfl,w,z⟩
 refine jg f e w5 u5 w7 ?_;refine qL (fun n d o=>∃(m:Nat) (c:AN),k<m/\m<=b/\n=b-m/\d 0=.ms q 0 l.length/\d 1=i a/\d 2=i b/\d 7=i k/\d 8=i j/\d 10=i m/\o=bx I q c/\Pm a b l c/\Srt a k c) (b-(k+1)) ?_ ?_
 .exact⟨k+1,c,oO,oO,rfl,aa g,aa s,aa f,aa e,aa t,sS,rfl,w,z⟩
 clear g s f e t w z O c d;rintro n d o ⟨m,c,hkm,hmb,rfl,g,s,f,e,t,K,rfl,w,z⟩ JJ v;have O:=w.len;by_cases dF:m<b;rotate_left
 .clear v;refine jg f K dF t w6 ?_;exact F (5-(j+1)) _ _ oO ⟨j+1,k,c,oO,rfl,B,C,aa g,aa s,aa f,aa e,sS,rfl,w,z⟩
 have Y:=aV m oO oO;have w8:=qN m oO;have Q:=qG c m oO;have P:=qG c (m-1) oO;have M:m<l.length:=oO;have N:m-1<l.length:=oO;have X:=fun x y=>nD I q c m (m-1) (x:=x) (y:=y) oO oO;have N7:=w.step m (m-1) oO oO oO oO oO;have hs2:Srt a k (sw c m (m-1)):=by intro p q h1 h2 h3;rw[cO _ _ _ _ oO oO,cO _ _ _ _ oO oO,ac oO,ac oO,ac oO,ac oO];exact z p q h1 h2 oO
 generalize hx:c.getD m 0=x at *;generalize hy:c.getD (m-1) 0=y at *;have W:=X x y rfl rfl;refine fk f K dF ?_
 (refine zS [] [q] [0,2,4,6,8,10,12,14,16,19,20] ?_;intro J A;simp[g,K,Y,M,N,O,Q,P])
 refine aO (uL x y _) ?_;rintro r s2 ⟨rfl,rfl⟩;refine⟨fun _=>by simp,?_⟩;by_cases E:x<y;rotate_left
 .clear v
  (apply bM;simp[E];refine zJ A ?_)
  refine cy t w6 ?_;exact F (5-(j+1)) _ _ oO ⟨j+1,k,c,oO,rfl,B,C,aa g,aa s,aa f,aa e,sS,rfl,w,z⟩
 (apply bM;simp[E];refine zJ A ?_)
 refine bz ?_
 (refine zS [] [q] [0,2,4,6,8,10,12,14,16,18,20,22,24,26,28,31,32,35] ?_;intro J A;simp[g,K,Y,M,N,O,Q,P];(repeat refine ca ?_);refine zJ A ?_)
 refine cy K w8 ?_;exact v (b-(m+1)) _ _ oO ⟨m+1,sw c m (m-1),oO,oO,rfl,aa g,aa s,aa f,aa e,aa t,sS,W,N7,hs2⟩
abbrev ix(a:St)(p:Nat)(s:Int):St:=a.set p (.box 3 1 [i s])
def Lu{a:St}{p:Nat}{s:Int}(h:a.H p=.box 3 1 [i s]):a=ix a p s:=
 St.ext' rfl fun x=>by by_cases b:x=p<;>simp[b,h]
def LD(b:St)(p:Nat)(s a:Int):ix (ix b p s) p a=ix b p a:=St.set_set _ _ _ _
def order2(l:AN)(q p a b:Nat)(s:Int)(d:St)(n:small l)(h:a<l.length)(j:b<l.length)(o:q≠p)(g:d.H q=.box 34 1 (us l))(k:d.H p=.box 3 1 [i s]):
 aB prog 190 [.ms q 0 l.length,i a,i b,.pt p 0] d fun r e=>∃(x y:Nat) (t:Int),r=.tu [i x,i y]/\e=ix d p t/\((x=a/\y=b)\/(x=b/\y=a)):=by
 unfold small at n;have v:=qG l a h;have m:=qG l b j;generalize l.getD a 0=x at *;generalize l.getD b 0=y at *;refine zN func190 ntmps190 [.tmp 8,.tmp 9] ?_
 (repeat (apply qS));(refine zE ?_;intro J c;simp[];refine zJ c ?_)
 (repeat (apply qS));(refine zS [] [q] [0,2,4,6,8,10,12,14,17] ?_;intro J c;simp[g,h,j,v,m])
 refine aO (uL y x _) ?_;rintro r w ⟨rfl,rfl⟩;refine⟨fun _=>by simp[g],?_⟩;by_cases f:y<x
 ·(apply bM;simp[f];refine zJ c ?_)
  refine dd k ?_;exact⟨b,a,⟨rfl,rfl⟩,⟨_,rfl⟩,.inr ⟨rfl,rfl⟩⟩
 ·(apply bM;simp[f];refine zJ c ?_)
  refine bz ?_;exact⟨a,b,⟨rfl,rfl⟩,⟨s,Lu k⟩,.inl ⟨rfl,rfl⟩⟩
def median(l:AN)(q p a b c:Nat)(s:Int)(g:St)(j:small l)(k:a<l.length)(m:b<l.length)(n:c<l.length)(d:q≠p)(h:g.H q=.box 34 1 (us l))(o:g.H p=.box 3 1 [i s]):
 aB prog 167 [.ms q 0 l.length,i a,i b,i c,.pt p 0] g fun r e=>∃(x:Nat) (t:Int),r=i x/\e=ix g p t/\(x=a\/x=b\/x=c):=by
 refine zN func167 ntmps167 [.tmp 10] ?_
 (refine eu ?_;intro J f)
 refine qF (order2 l q p a b s _ j k m d h o) ?_;rintro r e ⟨x,y,v,rfl,rfl,C⟩
 (refine mQ f ?_;intro J f)
 refine qF (order2 l q p y c v _ j oO n d (dg d h) sS) ?_;rintro r e ⟨A,I,w,rfl,rfl,D⟩
 (refine mQ f ?_;intro J f)
 refine qF (order2 l q p x A w _ j oO oO d (dg d h) sS) ?_;rintro r e ⟨F,B,z,rfl,rfl,E⟩;refine dB f ?_;refine⟨B,rfl,⟨z,?_⟩,oO⟩;rw[LD,LD]
def medianAdjacent(l:AN)(q p a:Nat)(s:Int)(c:St)(e:small l)(t:0<a)(w:a+1<l.length)(d:q≠p)(g:c.H q=.box 34 1 (us l))(j:c.H p=.box 3 1 [i s]):
 aB prog 166 [.ms q 0 l.length,i a,.pt p 0] c fun r b=>∃(x:Nat) (k:Int),r=i x/\b=ix c p k/\a-1<=x/\x<=a+1:=by
 have f:=e;unfold small at f;have n:=qN a oO;have o:=aV a oO oO;refine zN func166 ntmps166 [.tmp 6] ?_
 (refine oj n o ?_;intro J h)
 refine qF (median l q p (a-1) a (a+1) s _ e oO oO oO d g j) ?_;rintro r b ⟨x,m,rfl,rfl,v⟩;refine dB h ?_;exact⟨x,rfl,⟨m,rfl⟩,oO⟩
def YC(q n a b:Nat)(g:St)(c:af)(h:St):Prop:=∃(d e f:Nat) (s:Int),c 0=.ms q 0 n/\c 9=.pt g.z 0/\c 10=i d/\c 11=i e/\c 12=i f/\a<=d/\d<b/\a<=e/\e<b/\a<=f/\f<b/\h=ix (g.new (.box 3 1 [i 0])) g.z s
def choosePivot(l:AN)(q a b:Nat)(e:St)(o:small l)(x9:a+8<=b)(hb:b<=l.length)(U5:q<e.z)(t:e.H q=.box 34 1 (us l)):
 aB prog 123 [.ms q 0 l.length,i a,i b] e fun r g=>∃(x:Nat) (h:Int),r=.tu [i x,i h]/\a<=x/\x<b/\aA e g:=by
 have I:=o;unfold small at I;obtain⟨n,hn⟩:∃ n:Nat,n=b-a:=⟨_,rfl⟩;obtain⟨d,A⟩:∃ m:Nat,m=n / 4:=⟨_,rfl⟩;obtain⟨B,o6⟩:∃ m:Nat,m=a+d:=⟨_,rfl⟩;obtain⟨C,u5⟩:∃ m:Nat,m=a+d*2:=⟨_,rfl⟩;obtain⟨D,u9⟩:∃ m:Nat,m=a+d*3:=⟨_,rfl⟩;have V:IntKind.i64.wrap ((b:Int)-(a:Int))=(n:Int):=zW;have W:IntKind.i64.wrap ((n:Int) / 4)=(d:Int):=by rw[show(n:Int) / 4=((n / 4:Nat):Int) from rfl,<- A];exact wrap_i64 _ oO oO
 have X:IntKind.i64.wrap (d:Int)=(d:Int):=zW;have Y:IntKind.i64.wrap ((d:Int)*2)=((d*2:Nat):Int):=zW;have Z:IntKind.i64.wrap ((d:Int)*3)=((d*3:Nat):Int):=zW;have w6:IntKind.i64.wrap ((a:Int)+(d:Int))=(B:Int):=zW;have w7:IntKind.i64.wrap ((a:Int)+((d*2:Nat):Int))=(C:Int):=zW;have w8:IntKind.i64.wrap ((a:Int)+((d*3:Nat):Int))=(D:Int):=zW;have F:(8:Int)<=(n:Int):=oO;have c:q≠e.z:=oO;generalize ((d*2:Nat):Int)=e2 at *;generalize ((d*3:Nat):Int)=e3 at *;refine zN func123 ntmps123 [.tmp 6,.tmp 7] ?_
 (repeat' (first|apply qS|(refine zE ?_;intro J f;simp[V,W,X,Y,Z,w6,w7,w8,F];(refine zJ f ?_;clear f J))))
 apply qC;simp[F];apply qS;refine bW (YC q l.length a b e) ?_ ?_
 .by_cases j:(50:Int)<=(n:Int)
  ·(refine jf j ?_;intro J f)
   refine qF (medianAdjacent l q e.z B 0 _ o oO oO c (dg c t) sS) ?_;rintro r g ⟨x1,E,rfl,rfl,L⟩
   (refine mQ f ?_;intro J f)
   refine qF (medianAdjacent l q e.z C E _ o oO oO c (dg c t) sS) ?_;rintro r g ⟨x2,S,rfl,rfl,M⟩
   (refine mQ f ?_;intro J f)
   refine qF (medianAdjacent l q e.z D S _ o oO oO c (dg c t) sS) ?_;rintro r g ⟨x3,T,rfl,rfl,N⟩;refine dB f ?_;refine⟨by trivial,?_⟩;unfold YC;exact⟨x1,x2,x3,T,sS,sS,sS,sS,sS,oO,oO,oO,oO,oO,oO,by rw[LD,LD]⟩
  .refine dd j ?_;refine⟨by trivial,?_⟩;unfold YC;exact⟨B,C,D,0,sS,sS,sS,sS,sS,oO,oO,oO,oO,oO,oO,Lu sS⟩
 rintro fr U ⟨O,P,Q,s,K,p,v,w,y,L,M,N,h4,h5,h6,rfl⟩
 (refine tv K p v w y ?_;intro J f)
 refine qF (median l q e.z O P Q s _ o oO oO oO c (dg c t) sS) ?_;rintro r g ⟨x,E,rfl,rfl,hx⟩;have R:aA e (ix (ix (e.new (.box 3 1 [i 0])) e.z s) e.z E):=((aA.new _ _).set (au _) _).set (au _) _;have k:a<=x/\x<b:=oO
 (repeat' (first|apply qS|apply qB|(refine qR (zZ ?_);simp[p])|(apply qC;simp[p];(try with_reducible refine⟨?_,?_⟩)<;>(try with_reducible intro hc))|((first|(refine zE ?_;intro J f)|(apply cL));simp[p];(refine zJ f ?_;clear f J))))
 all_goals exact⟨x,rfl,k.1,k.2,R⟩
abbrev uw(n:Int):LV:=.atom (.int .u64 n)
def iU(m:Nat):Nat:=if m=0 then 0 else Nat.log2 m+1
def lR(n:Nat):Nat:=if 256<=n then 8+iU (n / 256)else iU n
theorem wrap_u64(n:Int)(a:0<=n)(b:n<18446744073709551616):IntKind.u64.wrap n=n:=by
 grind [IntKind.wrap,IntKind.signed,IntKind.bits]
def wrap_u8(n:Int)(a:0<=n)(b:n<256):IntKind.u8.wrap n=n:=by
 grind [IntKind.wrap,IntKind.signed,IntKind.bits]
abbrev BQ:ByteArray:={ data:=((List.append [0,1,2,2,3,3,3,3,4,4,4,4,4,4,4,4,5,5,5,5,5,5,5,5,5,5,5,5,5,5,5,5,6,6,6,6,6,6,6,6,6,6,6,6,6,6,6,6,6,6,6,6,6,6,6,6,6,6,6,6,6,6,6,6] [7,7,7,7,7,7,7,7,7,7,7,7,7,7,7,7,7,7,7,7,7,7,7,7,7,7,7,7,7,7,7,7,7,7,7,7,7,7,7,7,7,7,7,7,7,7,7,7,7,7,7,7,7,7,7,7,7,7,7,7,7,7,7,7]).append (List.append [8,8,8,8,8,8,8,8,8,8,8,8,8,8,8,8,8,8,8,8,8,8,8,8,8,8,8,8,8,8,8,8,8,8,8,8,8,8,8,8,8,8,8,8,8,8,8,8,8,8,8,8,8,8,8,8,8,8,8,8,8,8,8,8] [8,8,8,8,8,8,8,8,8,8,8,8,8,8,8,8,8,8,8,8,8,8,8,8,8,8,8,8,8,8,8,8,8,8,8,8,8,8,8,8,8,8,8,8,8,8,8,8,8,8,8,8,8,8,8,8,8,8,8,8,8,8,8,8])).toArray }
def Ns:∀ m:Fin 256,((BQ[m.val]?).isSome=true/\((BQ[m.val]?).getD 0).toNat=iU m.val):=by decide +kernel
def rO:∀ m:Fin 256,iU m.val<=8/\(0<m.val->m.val<2 ^ iU m.val/\2 ^ iU m.val<=2*m.val):=by decide +kernel
def FA(n:Nat)(b:n<65536):lR n<=16/\(0<n->n<2 ^ lR n/\2 ^ lR n<=2*n):=by
 unfold lR;by_cases h:256<=n
 .rw[ad h];have a:=rO ⟨n / 256,oO⟩
  grind
 .rw[ac h];have a:=rO ⟨n,oO⟩
  grind
def YQ(n:Nat)(x:St)(B:n<65536):aB prog 130 [uw n] x fun r p=>r=i (lR n)/\p=x:=by
 refine zN func130 ntmps130 [.tmp 2] ?_;have g:¬(4294967296:Int)<=(n:Int):=oO;have j:¬(65536:Int)<=(n:Int):=oO;have o:∀ m,m<256->(BQ[m]?).isSome=true/\((BQ[m]?).getD 0).toNat=iU m:=fun m h=>Ns ⟨m,h⟩;generalize w:({ data:=((List.append [0,1,2,2,3,3,3,3,4,4,4,4,4,4,4,4,5,5,5,5,5,5,5,5,5,5,5,5,5,5,5,5,6,6,6,6,6,6,6,6,6,6,6,6,6,6,6,6,6,6,6,6,6,6,6,6,6,6,6,6,6,6,6,6] [7,7,7,7,7,7,7,7,7,7,7,7,7,7,7,7,7,7,7,7,7,7,7,7,7,7,7,7,7,7,7,7,7,7,7,7,7,7,7,7,7,7,7,7,7,7,7,7,7,7,7,7,7,7,7,7,7,7,7,7,7,7,7,7]).append (List.append [8,8,8,8,8,8,8,8,8,8,8,8,8,8,8,8,8,8,8,8,8,8,8,8,8,8,8,8,8,8,8,8,8,8,8,8,8,8,8,8,8,8,8,8,8,8,8,8,8,8,8,8,8,8,8,8,8,8,8,8,8,8,8,8] [8,8,8,8,8,8,8,8,8,8,8,8,8,8,8,8,8,8,8,8,8,8,8,8,8,8,8,8,8,8,8,8,8,8,8,8,8,8,8,8,8,8,8,8,8,8,8,8,8,8,8,8,8,8,8,8,8,8,8,8,8,8,8,8])).toArray }:ByteArray)=s;rw[show BQ=s from w]at o;clear w;by_cases k:(256:Int)<=(n:Int)
 .obtain⟨m,A⟩:∃ m,m=n / 256:=⟨_,rfl⟩;have q:(n:Int).fdiv (2 ^ min 8 IntKind.u64.bits)=(m:Int):=by show(n:Int).fdiv 256=(m:Int);rw[Int.fdiv_eq_ediv_of_nonneg _ oO];omega
  have d:=wrap_u8 m oO oO;have l:lR n=8+iU m:=by unfold lR;rw[ad oO,A]
  have y:iU m<=8:=(rO ⟨m,oO⟩).1;have a:=o m oO;have c:m<s.size:=by simpa using a.1
  have b:=a.2;rw[l];generalize iU m=e at *;have t:IntKind.i64.wrap (8+(e:Int))=((8+e:Nat):Int):=zW;have f:IntKind.i64.wrap (e:Int)=(e:Int):=by rw[wrap_i64 _ oO oO]
  have v:IntKind.i64.wrap (8:Int)=8:=rfl;simp[c]at b
  (repeat' (first|apply qS|refine qK (zZ ?_)|(refine qR (zZ ?_);simp[g,j,k,Nr,q,d,c,b,t,f,v])|(apply qC;simp[g,j,k,Nr,q,d,c,b,t,f,v])|(refine zE ?_;intro J z;simp[g,j,k,Nr,q,d,c,b,t,f,v];refine zJ z ?_)))
 .have d:=wrap_u8 n oO oO;have l:lR n=iU n:=by unfold lR;rw[ac oO]
  have y:iU n<=8:=(rO ⟨n,oO⟩).1;have a:=o n oO;have c:n<s.size:=by simpa using a.1
  have b:=a.2;rw[l];generalize iU n=e at *;have f:IntKind.i64.wrap (e:Int)=(e:Int):=by rw[wrap_i64 _ oO oO]
  simp[c]at b;exact zo g j k d c b f
def zd(n:Nat)(b:St)(d:n<65536):aB prog 85 [uw n] b fun r a=>r=i (lR n)/\a=b:=by
 refine zN func85 ntmps85 [.tmp 2] ?_
 (refine eu ?_;intro J c)
 refine qF (YQ n _ d) ?_;rintro r a ⟨rfl,rfl⟩;exact UX c
def nextPowerOfTwo(n:Nat)(c:St)(b:n<65536):aB prog 164 [i n] c fun r a=>r=uw ((2 ^ lR n:Nat):Int)/\a=c:=by
 have d:=(FA n b).1;have g:IntKind.u64.wrap (n:Int)=(n:Int):=wrap_u64 _ oO oO;have h:Ee .u64 1 (lR n)=((2 ^ lR n:Nat):Int):=by
  unfold Ee;have k:(2:Nat) ^ lR n<=2 ^ 16:=yn oO d;have e:min ((lR n:Int).toNat) IntKind.u64.bits=lR n:=by simp[IntKind.bits];omega
  rw[e,Int.one_mul];rw[show((2:Int) ^ lR n)=((2 ^ lR n:Nat):Int) by simp];generalize (2:Nat) ^ lR n=z at *;exact wrap_u64 _ oO oO
 refine zN func164 ntmps164 [.tmp 2] ?_
 (refine jf g ?_;intro J f)
 refine qF (zd n _ b) ?_;rintro r a ⟨rfl,rfl⟩;generalize ((2 ^ lR n:Nat):Int)=j at *;exact OQ f h
abbrev xx(a:St)(p:Nat)(s:Int):St:=a.set p (.box 184 1 [uw s])
def Yk(p:Nat)(s:Int)(c:St)(b:c.H p=.box 184 1 [uw s]):aB prog 165 [.pt p 0] c fun r d=>∃ e,r=uw e/\d=xx c p e:=by
 refine zN func165 ntmps165 [.tmp 2] ?_
 (repeat (apply qS));(refine zE ?_;intro J a;simp[];refine zJ a ?_)
 (repeat (apply qS));(refine zS [] [p] [0,2,4,6,8,10,12,14,16,19] ?_;intro J a;simp[b];refine zJ a ?_)
 generalize Rc _ _ _=f
 (repeat (apply qS));(refine zS [] [p] [0,2,4,6,8,10,12,14,16,19] ?_;intro J a;simp[b];refine zJ a ?_)
 generalize Rc _ _ _=g
 (repeat (apply qS));(refine zS [] [p] [0,2,4,6,8,10,12,14,16,19] ?_;intro J a;simp[b];refine zJ a ?_)
 generalize Rc _ _ _=h;refine bz ?_
 grind [St.set_set]
def Vd(s:Int)(m:Nat)(a:0<m)(b:m<=131072):∃ o:Nat,o<m/\wJ .u64 s (((m-1:Nat)):Int)=(o:Int):=by
 grind [wJ,Nat.and_le_right,wrap_u64]
def bR(q:Nat)(b a:St):Prop:=b.z<=a.z/\∀ l,l≠q->l<b.z->a.H l=b.H l
theorem bR.refl(q:Nat)(a:St):bR q a a:=⟨au _,fun _ _ _=>rfl⟩
theorem bR.trans{q:Nat}{a b c:St}(h:bR q a b)(k:bR q b c):bR q a c:=⟨er h.1 k.1,fun l d e=>(k.2 l d (cz e h.1)).trans (h.2 l d e)⟩
def bR.keeps{q:Nat}{a b c:St}(h:bR q a b)(k:aA b c):bR q a c:=⟨er h.1 k.z,fun l e d=>(k.H l (cz d h.1)).trans (h.2 l e d)⟩
theorem bR.set{q:Nat}{a b:St}(h:bR q a b)(o:cK):bR q a (b.set q o):=⟨h.1,fun l c d=>by rw[bP,ac c];exact h.2 l c d⟩
def bR.set'{q p:Nat}{a b:St}(h:bR q a b)(e:a.z<=p)(o:cK):bR q a (b.set p o):=⟨h.1,fun l c d=>by rw[bP,ac oO];exact h.2 l c d⟩
def Ty(q p a b n m k:Nat)(l:AN)(f:St)(e:af)(d:St):Prop:=e 0=.ms q 0 l.length/\e 1=i a/\e 6=i n/\e 7=.pt p 0/\e 8=uw m/\e 9=i k/\p<d.z/\bR q f d/\(∃ s,d.H p=.box 184 1 [uw s])/\∃ c,d.H q=.box 34 1 (us c)/\Pm a b l c
def B5(q p a b n m k:Nat)(l:AN)(e:St)(d:af)(c:St):Prop:=Ty q p a b n m k l e d c/\∃ o:Nat,o<n/\d 10=i o
def breakPatterns(l:AN)(q a b:Nat)(e:St)(hl:l.length<65536)(x9:a+8<=b)(hb:b<=l.length)(U5:q<e.z)(hH:e.H q=.box 34 1 (us l)):
 aB prog 122 [.ms q 0 l.length,i a,i b] e fun r w=>∃ c,w.H q=.box 34 1 (us c)/\Pm a b l c/\bR q e w:=by
 obtain⟨n,hn⟩:∃ n:Nat,n=b-a:=⟨_,rfl⟩;obtain⟨F,T⟩:∃ m:Nat,m=n / 4:=⟨_,rfl⟩;obtain⟨p,P3⟩:∃ m:Nat,m=a+F*2:=⟨_,rfl⟩;have w1:IntKind.i64.wrap ((b:Int)-(a:Int))=(n:Int):=zW;have X:IntKind.i64.wrap ((n:Int) / 4)=(F:Int):=by rw[show(n:Int) / 4=((n / 4:Nat):Int) from rfl,<- T];exact wrap_i64 _ oO oO
 have Y:IntKind.i64.wrap ((F:Int)*2)=((F*2:Nat):Int):=zW;have Z:IntKind.i64.wrap ((a:Int)+((F*2:Nat):Int))=(p:Int):=zW;have w8:=aV p oO oO;obtain⟨k1,o6⟩:∃ m:Nat,m=p+1:=⟨_,rfl⟩;have w9:IntKind.i64.wrap ((p:Int)+1)=(k1:Int):=by rw[qN p oO,o6]
 have V:IntKind.u64.wrap (n:Int)=(n:Int):=wrap_u64 _ oO oO;have h8:(8:Int)<=(n:Int):=oO;have R6:=(FA n oO).2 oO;obtain⟨m,hm⟩:∃ m:Nat,m=2 ^ lR n:=⟨_,rfl⟩;rw[<- hm]at R6;have W:IntKind.u64.wrap ((m:Int)-1)=((m-1:Nat):Int):=by rw[wrap_u64 _ oO oO];omega
 generalize ((F*2:Nat):Int)=e2 at *;refine zN func122 ntmps122 [] ?_
 (repeat' (first|apply qS|(refine zE ?_;intro J g;simp[w1];refine zJ g ?_)))
 apply qC;simp[h8]
 (repeat' (first|apply qS|(refine zE ?_;intro J g;simp[V,w1];(try refine zJ g ?_))))
 refine qF (nextPowerOfTwo n _ oO) ?_;rintro r w ⟨rfl,rfl⟩;rw[<- hm]
 (repeat' (first|apply qS|apply qB|((first|(refine zE ?_;intro J g)|(apply cL));simp[X,Y,Z,w8];refine zJ g ?_)))
 refine qL (fun z j f=>∃ k:Nat,p<=k+1/\k<=p+2/\z=p+2-k/\Ty q e.z a b n m k l e j f) 3 ?_ ?_
 .refine⟨p-1,oO,oO,oO,?_⟩;unfold Ty;have c7:¬q=e.z:=oO;refine⟨sS,sS,sS,sS,sS,sS,sS,?_,⟨n,sS⟩,l,by simp_all,.refl⟩;exact((bR.refl q e).keeps (aA.new _ _)).set' (au _) _
 rintro z j f ⟨k,W6,hku,rfl,M,D,B,N,O,E,t,I,⟨s,P⟩,c,hcq,u6⟩ JJ hJJ;have U:=u6.len;by_cases dF:(k:Int)<=(k1:Int);rotate_left
 .clear hJJ;refine kk D B E X Y Z w9 dF ?_;exact⟨trivial,c,hcq,u6,I⟩
 (repeat (apply qS));(refine zE ?_;intro J g;simp[D,B,E,X,Y,Z,w9,dF];refine zJ g ?_)
 apply qC;simp[dF];refine qK (zZ ?_);apply qS;apply qB;apply qS
 (refine zE ?_;intro J g;simp[N])
 refine qF (Yk e.z s _ P) ?_;rintro r w ⟨Q,rfl,rfl⟩;obtain⟨o,ho,L⟩:=Vd Q m oO oO;have A:IntKind.i64.wrap (o:Int)=(o:Int):=zW
 (apply cL;simp[O,W,L,A];refine zJ g ?_)
 apply qS;refine bW (B5 q e.z a b n m k l e) ?_ ?_
 .have h:¬q=e.z:=oO;have hI:∀ d:af,d 0=j 0->d 1=j 1->d 6=j 6->d 7=j 7->d 8=j 8->d 9=j 9->Ty q e.z a b n m k l e d (xx f e.z Q):=by intro d g0 g1 g6 g7 g8 g9;exact⟨by grind,by grind,by grind,by grind,by grind,by grind,by simpa using t,I.set' (au _) _,⟨Q,sS⟩,c,dg h hcq,u6⟩
  by_cases K:(n:Int)<=(o:Int)
  .have C:IntKind.i64.wrap ((o:Int)-(n:Int))=((o-n:Nat):Int):=zW;refine fk B K C ?_;refine⟨by trivial,?_⟩;exact⟨hI _ sS sS sS sS sS sS,o-n,oO,sS⟩
  .refine cy B K ?_;refine⟨by trivial,?_⟩;exact⟨hI _ sS sS sS sS sS sS,o,oO,sS⟩
 clear M D B N O E t I P hcq u6 U L A ho o s Q c f j;rintro j f ⟨⟨M,D,B,N,O,E,t,I,⟨s,P⟩,c,hcq,u6⟩,o,ho,f10⟩;have U:=u6.len;obtain⟨x,hx⟩:∃ x:Nat,x=a+o:=⟨_,rfl⟩;have A:IntKind.i64.wrap ((a:Int)+(o:Int))=(x:Int):=zW;have C:=qN k oO;have z7:=qG c k oO;have N3:=qG c x oO;have R:k<l.length:=oO;have S:x<l.length:=oO;have N4:=fun v y=>Ji f q c k x (x:=v) (y:=y) oO oO;have N7:=u6.step k x oO oO oO oO oO;generalize hv:c.getD k 0=v at *;generalize hy:c.getD x 0=y at *;have L8:=N4 v y rfl rfl
 (refine zS [] [q] [0,2,4,6,8,10,12,14,16,18,20,22,24,26,28,30,32,35,36,39] ?_;intro J g;simp[M,D,E,f10,A,R,S,U,hcq,z7,N3];(repeat refine ca ?_);refine zJ g ?_)
 refine cy E C ?_;have h:¬e.z=q:=oO;rw[L8];exact hJJ (p+2-(k+1)) _ _ oO ⟨k+1,oO,oO,rfl,aa M,aa D,aa B,aa N,aa O,sS,by simpa using t,I.set _,⟨s,dg h P⟩,_,sS,N7⟩
def Srt.out{a m:Nat}{c d:AN}(h:Srt a m c)(e:∀ j,a<=j->j<m->d.getD j 0=c.getD j 0):Srt a m d:=by intro p q b g f;rw[e p b oO,e q oO f];exact h p q b g f
def _root_.Go.Proofs.YtbgngpdonpeboaaGreatDoor.Pl.cS.pmL{c d:AN}{a m b:Nat}(h:cS c a m b)(k:Pm a m c d):cS d a m b:=by unfold cS at h ⊢;have e:d.getD m 0=c.getD m 0:=k.out m oO;rw[e];refine⟨fun p f g=>k.all (fun v=>decide (v<c.getD m 0)=true) h.1 p f g,fun p f g=>?_⟩;rw[k.out p oO];exact h.2 p f g
def _root_.Go.Proofs.YtbgngpdonpeboaaGreatDoor.Pl.cS.pmR{c d:AN}{a m b:Nat}(h:cS c a m b)(k:Pm (m+1) b c d):cS d a m b:=by unfold cS at h ⊢;have e:d.getD m 0=c.getD m 0:=k.out m oO;rw[e];refine⟨fun p g f=>?_,fun p g f=>k.all (fun v=>decide (v<c.getD m 0)=false) (fun j n l=>h.2 j oO l) p oO f⟩;rw[k.out p oO];exact h.1 p g f
def _root_.Go.Proofs.YtbgngpdonpeboaaGreatDoor.Pl.cS.glue{d:AN}{a m b:Nat}(h:cS d a m b)(f:Srt a m d)(g:Srt (m+1) b d):Srt a b d:=by
 refine Sl f g (fun p c e=>?_) fun q c e=>?_
 .have:=h.1 p c e;simp only[ke]at this;omega
 .have:=h.2 q c e;simp only[ox]at this;omega
def _root_.Go.Proofs.YtbgngpdonpeboaaGreatDoor.Pl.cS.aheadR{d:AN}{a m b:Nat}(h:cS d a m b):rJ d (m+1) b:=by intro _ j e c;have:=h.2 j oO c;simp only[ox]at this;rw[qm];omega
def rJ.less{d:AN}{a m b:Nat}(h:rJ d a b)(g:m<=b):rJ d a m:=fun e j c f=>h e j c oO
def Td{c d:AN}{a m b:Nat}{x:Int}(h:ID c a m b x)(l:∀ j,a<=j->j<m->x<=c.getD j 0)(k:Pm m b c d)(s:Srt m b d):Srt a b d:=by
 intro p q e n f;by_cases r:q<m
 .rw[k.out p oO,k.out q oO];have:=h.1 p e oO;have:=l q oO r;omega
 .by_cases o:p<m
  .rw[k.out p oO];have g:=h.1 p e o;have:x<d.getD q 0:=k.all (fun v=>x<v) h.2 q oO f;omega
  .exact s p q oO n f
def RG(a b e f:Nat)(c:AN):Prop:=∀ d,Pm e f c d->Srt e f d->Srt a b d
def RG.pm{a b f g:Nat}{c d:AN}(h:RG a b f g c)(k:Pm f g c d):RG a b f g d:=fun e j l=>h e (k.trans j) l
def Sk{P:Program}{N:Nat}{Q:AQ}{k:List gQ}{a:af}{b:St}{x y:Code}(I:af->St->Prop)(d:bq P N x (AK P N (fun e f s=>(e=.normal/\I f s)\/(e=.ret/\AK P N Q k .ret f s)) []) a b)(g:∀ a b,I a b->bq P N y (AK P N Q k) a b):
 bq P N x (AK P N Q (.code y::k)) a b:=by
 refine dG d ?_;rintro e UK h (⟨rfl,c⟩|⟨rfl,c⟩)
 .rw[jG];exact g _ _ c
 .rw[yD];exact c
def Qx{P:Program}{N:Nat}{Q:AQ}{k:List gQ}{a:af}{b:St}{x y:Code}(I:af->St->Prop)(g:bq P N x (AK P N (fun e f s=>(e=.normal/\I f s)\/(e≠.normal/\AK P N Q k e f s)) []) a b)(h:∀ a b,I a b->bq P N y (AK P N Q k) a b):
 bq P N x (AK P N Q (.code y::k)) a b:=by
 refine dG g ?_;rintro e UK j (⟨rfl,c⟩|⟨d,c⟩)
 .rw[jG];exact h _ _ c
 .cases e<;>first|exact absurd rfl d|exact c
def PdI(q:Nat)(l:AN)(j:St)(a b g h:Nat)(k m:Bool)(f n:Nat)(d:af)(e:St):Prop:=
 d 0=.ms q 0 l.length/\d 1=i g/\d 2=i h/\d 3=i f/\d 8=bb k/\d 9=bb m/\d 10=i n/\f<1000000/\q<e.z/\bR q j e/\∃ c,e.H q=.box 34 1 (us c)/\Pm a b l c/\rJ c g h/\RG a b g h c
theorem PdI.mk{q:Nat}{l:AN}{m:St}{a b g h:Nat}{o p:Bool}{f n:Nat}{e:af}{d:St}{c:AN}(s:e 0=.ms q 0 l.length)(t:e 1=i g)(v:e 2=i h)(w:e 3=i f)(x:e 8=bb o)(y:e 9=bb p)(j:e 10=i n)(k:f<1000000)(r:q<d.z)(C:bR q m d)(B:d.H q=.box 34 1 (us c))(D:Pm a b l c)(A:rJ c g h)(hf:RG a b g h c):PdI q l m a b g h o p f n e d:=
 ⟨s,t,v,w,x,y,j,k,r,C,c,B,D,A,hf⟩
def zq(q:Nat)(l:AN)(h:St)(a b e f:Nat)(j k:Bool)(n:Nat)(g:af)(d:St):Prop:=∃ c,PdI q l h a b e f j k c n g d
def xd(q:Nat)(l:AN)(j:St)(a b f g:Nat)(k m:Bool)(n:Nat)(c:af)(e:St):Prop:=∃ d,PdI q l j a b f g k m d n c e/\∃(pv:Nat) (h:Int),f<=pv/\pv<g/\c 11=i pv/\c 12=i h
def Ea(Z:Nat):∀(l:AN) (q a b g:Nat) (st:St),l.length<65536->a<=b->b<=l.length->b-a<Z->rJ l a b->g<1000000->q<st.z->st.H q=.box 34 1 (us l)->
 aB prog 84 [.ms q 0 l.length,i a,i b,i g] st fun r C=>∃ c,C.H q=.box 34 1 (us c)/\Pm a b l c/\Srt a b c/\bR q st C:=by
 induction Z with
 |zero=>intro l q a b g st _ _ _ h;omega
 |succ Z ih=>
 intro l q a b g st hl x9 hb hZ hah hlim U5 hH;have T6:small l:=by unfold small;omega
 refine zN func84 ntmps84 [] ?_
 (repeat' (first|apply qS|apply qB|(refine zE ?_;intro J k;simp[];(refine zJ k ?_;clear k J))))
 refine qL (fun z fr w=>∃(t A g:Nat) (wb wp:Bool) (n:LV),a<=t/\t<=A/\A<=b/\z=A - t/\PdI q l st a b t A wb wp g 0 (cY fr 10 (i (0:Nat))) w) (b-a) ?_ ?_
 .refine⟨a,b,g,true,true,.nil,oO,oO,oO,rfl,?_⟩;exact PdI.mk sS sS sS sS sS sS sS hlim U5 (.refl _ _) hH .refl hah fun d h1 h2=>h2
 rintro z fr w ⟨t,A,g,wb,wp,-,ha1,ha2,V5,rfl,m,o,s,F,I,N,-,S,K,M,c,L,E,O,f⟩ JJ P;rw[Eb,ac oO]at m o s F I N;have Q:=E.len;have T:small c:=by unfold small;omega
 obtain⟨n,hn⟩:∃ n:Nat,n=A - t:=⟨_,rfl⟩;have w1:IntKind.i64.wrap ((A:Int)-(t:Int))=(n:Int):=zW;apply qB
 (repeat' (first|apply qS|(refine zE ?_;intro J k;simp[o,s,w1];(refine zJ k ?_;clear k J))))
 by_cases hn12:(n:Int)<=12
 .clear P;apply qC;simp[hn12]
  (refine ol m o s ?_;intro J k)
  refine qE (insertionSort c q t A w T oO oO L) (gq m o s Q) ?_;rintro r C ⟨d,rfl,D,k2⟩;refine dB k ?_;exact⟨d,rfl,E.trans (D.wide oO oO oO),f d D k2,M.set _⟩
 apply qC;simp[hn12]
 (repeat' (first|apply qS|refine qK (zZ ?_)|(refine zE ?_;intro J k;simp[F];(refine zJ k ?_;clear k J))))
 by_cases hl0:g=0
 .clear P;apply qC;simp[hl0]
  (refine ol m o s ?_;intro J k)
  refine qE (heapSort c q t A w T oO oO L) (gq m o s Q) ?_;rintro r C ⟨d,rfl,D,k2⟩;refine dB k ?_;exact⟨d,rfl,E.trans (D.wide oO oO oO),f d D k2,M.set _⟩
 apply qC;simp[hl0];refine qK (zZ ?_);apply qS;refine bW (zq q l st a b t A wb wp n) ?_ ?_
 .clear P;cases wb
  ·(refine pq m o s I ?_;intro J k)
   refine qE (breakPatterns c q t A w oO oO oO K L) (gq m o s Q) ?_;rintro r C ⟨d,k0,D,k2⟩;have w2:=aV g oO oO;refine vY k F w2 ?_;refine⟨by trivial,?_⟩;exact⟨g-1,PdI.mk (aa m) (aa o) (aa s) sS (aa I) (aa N) sS oO (cz K k2.1) (M.trans k2) k0 (E.trans (D.wide oO oO oO)) (O.pm D) (f.pm D)⟩
  .refine dd I ?_;refine⟨by trivial,?_⟩;exact⟨g,PdI.mk (aa m) (aa o) (aa s) (aa F) (aa I) (aa N) sS oO K M L E O f⟩
 clear m o s F I N S K M L E O f Q T c w fr hl0 g;rintro fr w ⟨g,m,o,s,F,I,N,B,S,K,M,c,L,E,O,f⟩;have Q:=E.len;have T:small c:=by unfold small;omega
 apply qS
 (refine zE ?_;intro J k;simp[m,o,s])
 refine qE (choosePivot c q t A w T oO oO K L) (gq m o s Q) ?_;rintro r C ⟨pv,h,rfl,S7,Z7,k0⟩;have hc':C.H q=.box 34 1 (us c):=by rw[k0.H q K];exact L
 have hqn3:q<C.z:=cz K k0.z;have Y:=M.keeps k0;clear L K M k0
 (apply cL;simp[];(refine zJ k ?_;clear k J))
 apply qS;refine bW (xd q l st a b t A wb wp n) ?_ ?_
 .clear P;by_cases hh:h=2
  ·(refine pq hh m o s ?_;intro J k)
   refine qE (reverseRange c q t A C T oO oO oO hc') (gq m o s Q) ?_;rintro r C ⟨d,rfl,D⟩;have w2:=aV A oO oO;obtain⟨x1,hx1⟩:∃ x,x=A - 1:=⟨_,rfl⟩;obtain⟨x2,V8⟩:∃ x,x=pv-t:=⟨_,rfl⟩;obtain⟨x3,hx3⟩:∃ x,x=x1-x2:=⟨_,rfl⟩;have w3:IntKind.i64.wrap ((pv:Int)-(t:Int))=(x2:Int):=zW;have w4:IntKind.i64.wrap ((x1:Int)-(x2:Int))=(x3:Int):=zW;rw[<- hx1]at w2;refine YF k o s w2 w3 w4 ?_;refine⟨by trivial,?_⟩;exact⟨g,PdI.mk (aa m) (aa o) (aa s) (aa F) (aa I) (aa N) (aa B) oO hqn3 (Y.set _) sS (E.trans (D.wide oO oO oO)) (O.pm D) (f.pm D),x3,1,oO,oO,sS,sS⟩
  .refine dd hh ?_;refine⟨by trivial,?_⟩;exact⟨g,PdI.mk (aa m) (aa o) (aa s) (aa F) (aa I) (aa N) (aa B) oO hqn3 Y hc' E O f,pv,h,oO,oO,sS,sS⟩
 clear m o s F I N B S hqn3 Y hc' E O f Q T c w fr g h S7 Z7 pv;rintro fr w ⟨g,⟨m,o,s,F,I,N,B,S,K,M,c,L,E,O,f⟩,pv,h,S7,Z7,f11,f12⟩;have Q:=E.len;have T:small c:=by unfold small;omega
 apply qS;refine Sk (xd q l st a b t A wb wp n) ?_ ?_
 .clear P;cases wb
  .refine dd I ?_;refine .inl ⟨by trivial,?_⟩;exact⟨g,PdI.mk (aa m) (aa o) (aa s) (aa F) (aa I) (aa N) (aa B) oO K M L E O f,pv,h,oO,oO,aa f11,aa f12⟩
  cases wp
  .refine cy I N ?_;refine .inl ⟨by trivial,?_⟩;exact⟨g,PdI.mk (aa m) (aa o) (aa s) (aa F) (aa I) (aa N) (aa B) oO K M L E O f,pv,h,oO,oO,aa f11,aa f12⟩
  by_cases hh:h=1;rotate_left
  .refine ef I N f12 hh ?_;refine .inl ⟨by trivial,?_⟩;exact⟨g,PdI.mk (aa m) (aa o) (aa s) (aa F) (aa I) (aa N) (aa B) oO K M L E O f,pv,h,oO,oO,aa f11,aa f12⟩
  (refine yx I N f12 hh m o s ?_;intro J k)
  refine qE (partialInsertionSort c q t A w T oO oO O L) (gq m o s Q) ?_;rintro r C ⟨d,p,rfl,rfl,D,k2⟩;cases p
  .refine dB k ?_;refine .inl ⟨by trivial,?_⟩;exact⟨g,PdI.mk (aa m) (aa o) (aa s) (aa F) (aa I) (aa N) (aa B) oO K (M.set _) sS (E.trans (D.wide oO oO oO)) (O.pm D) (f.pm D),pv,h,oO,oO,aa f11,aa f12⟩
  .refine dB k ?_;exact⟨d,rfl,E.trans (D.wide oO oO oO),f d D (k2 rfl),M.set _⟩
 clear m o s F I N B f11 f12 S K M L E O f Q T c w fr g h S7 Z7 pv;rintro fr w ⟨g,⟨m,o,s,F,I,N,B,S,K,M,c,L,E,O,f⟩,pv,h,S7,Z7,f11,f12⟩;have Q:=E.len;have T:small c:=by unfold small;omega
 apply qS;refine Qx (xd q l st a b t A wb wp n) ?_ ?_
 .by_cases h0:t=0
  .clear P;have h0':¬(0:Int)<(t:Int):=oO
   (repeat (apply qS));(refine zS [] [q] [0,2,4,6,8,10,12,14,16,18,20,22,25,26,28] ?_;intro J k;simp[m,o,h0];(refine zJ k ?_;clear k J))
   refine bz ?_;refine .inl ⟨by trivial,?_⟩;exact⟨g,PdI.mk (aa m) (aa o) (aa s) (aa F) (aa I) (aa N) (aa B) oO  K M L E O f,pv,h,oO,oO,aa f11,aa f12⟩
  have h0':0<t:=oO;have w2:=aV t oO oO;have z7:=qG c (t - 1) oO;have N3:=qG c pv oO;have hl3:t - 1<l.length:=oO;have hl4:pv<l.length:=oO;have X5:∀ j,t<=j->j<A->c.getD (t - 1) 0<=c.getD j 0:=O h0';generalize hx:c.getD (t - 1) 0=x at *;generalize hy:c.getD pv 0=y at *
  (repeat (apply qS));(refine zS [] [q] [0,2,4,6,8,10,12,14,16,18,20,22,25,26,28] ?_;intro J k;simp[m,o,f11,h0',w2,hl3,hl4,Q,L,z7,N3])
  refine aO (uL x y _) ?_;rintro r s2 ⟨rfl,rfl⟩;refine⟨fun _=>by simp,?_⟩;by_cases J6:x<y
  .clear P
   (apply bM;simp[J6];(refine zJ k ?_;clear k J))
   refine bz ?_;refine .inl ⟨by trivial,?_⟩;exact⟨g,PdI.mk (aa m) (aa o) (aa s) (aa F) (aa I) (aa N) (aa B) oO  K M L E O f,pv,h,oO,oO,aa f11,aa f12⟩
  (apply bM;simp[J6];(refine zJ k ?_;clear k J))
  (refine pq m o s f11 ?_;intro J k)
  refine qE (partitionEqual c q t A pv _ T oO oO S7 Z7 L) (la m o s f11 Q) ?_;rintro r C ⟨d,R,rfl,rfl,D,k2,k3,k4⟩;refine dB k ?_;refine .inr ⟨sS,?_⟩;refine P (A - R) _ _ oO ⟨R,A,g,wb,wp,.nil,oO,oO,oO,rfl,?_⟩;rw[hy]at k4;refine PdI.mk (aa m) sS (aa s) (aa F) (aa I) (aa N) sS oO K (M.set _) sS (E.trans (D.wide oO oO oO)) ?_ ?_
  .intro _ j U g2;have e1:=k4.1 (R-1) oO oO;have e2:=k4.2 j U g2;omega
  .intro e U g2;refine f e (D.trans (U.wide oO oO (by have:=D.len;omega))) (Td k4 (fun j e1 e2=>?_) U g2);have:=D.all (fun v=>x<=v) X5 j e1 oO;omega
 clear m o s F I N B f11 f12 S K M L E O f Q T c w fr g h S7 Z7 pv;rintro fr w ⟨g,⟨m,o,s,F,I,N,B,S,K,M,c,L,E,O,f⟩,pv,h,S7,Z7,f11,f12⟩;have Q:=E.len;have T:small c:=by unfold small;omega
 (repeat' (first|apply qS|(refine zE ?_;intro J k;simp[m,o,s,f11])))
 refine qE (partition c q t A pv _ T oO oO S7 Z7 L) (la m o s f11 Q) ?_;rintro r C ⟨d,R,p,rfl,rfl,D,k2,k3,k4⟩;have hdl:=D.len;have k4:cS d t R A:=k4;have hpm':=E.trans (D.wide ha1 V5 oO);have hah':=O.pm D;have W:=f.pm D;have hof':=M.set (q:=q) (.box 34 1 (us d));have w3:IntKind.i64.wrap ((R:Int)-(t:Int))=((R-t:Nat):Int):=zW;have w4:IntKind.i64.wrap ((A:Int)-(R:Int))=((A - R:Nat):Int):=zW;have w5:IntKind.i64.wrap ((n:Int) / 8)=((n / 8:Nat):Int):=by rw[show(n:Int) / 8=((n / 8:Nat):Int) from rfl];exact wrap_i64 _ oO oO
 obtain⟨z1,hz1⟩:∃ x:Nat,x=R-t:=⟨_,rfl⟩;obtain⟨z2,hz2⟩:∃ x:Nat,x=A - R:=⟨_,rfl⟩;obtain⟨z3,hz3⟩:∃ x:Nat,x=n / 8:=⟨_,rfl⟩;obtain⟨m1,X⟩:∃ x:Nat,x=R+1:=⟨_,rfl⟩;rw[<- hz1]at w3;rw[<- hz2]at w4;rw[<- hz3]at w5;have w6:IntKind.i64.wrap ((R:Int)+1)=(m1:Int):=by rw[qN R oO,X]
 clear L E O f M
 (repeat' (first|apply qS|((first|(refine zE ?_;intro J k)|(apply cL));simp[o,s,B,w3,w4,w5];(refine zJ k ?_;clear k J))))
 apply qC;by_cases hzz:z1<z2
 .simp[hzz]
  (repeat' (first|apply qS|(refine zE ?_;intro J k;simp[m,o,F];(try (refine zJ k ?_;clear k J)))))
  refine qE (ih d q t R g (bx w q d) oO oO oO oO (hah'.less oO) oO K sS) (ww m o s F hdl Q) ?_;rintro r C ⟨e,j0,V,j2,j3⟩
  (repeat' ((first|(refine zE ?_;intro J k)|(apply cL));simp[w6];(refine zJ k ?_;clear k J)))
  refine P (A - m1) _ _ oO ⟨m1,A,g,decide (z3<=z1),p,.nil,oO,oO,oO,rfl,?_⟩;refine PdI.mk (aa m) sS (aa s) (aa F) sS sS sS oO (cz K j3.1) (hof'.trans j3) j0 (hpm'.trans (V.wide oO oO oO)) ?_ ?_
  .rw[X];exact(k4.pmL V).aheadR
  .intro y U g2;rw[X]at U g2;refine W y ((V.wide oO oO oO).trans (U.wide oO oO (by have:=V.len;omega))) (((k4.pmL V).pmR U).glue (Srt.out j2 fun j e1 e2=>U.out j oO) g2)
 .simp[hzz]
  (repeat' (first|apply qS|(refine zE ?_;intro J k;simp[m,s,F,w6];(try (refine zJ k ?_;clear k J)))))
  refine qE (ih d q m1 A g (bx w q d) oO oO oO oO (by rw[X];exact k4.aheadR) oO K sS) (ww m o s F hdl Q) ?_;rintro r C ⟨e,j0,V,j2,j3⟩
  (repeat' ((first|(refine zE ?_;intro J k)|(apply cL));simp[];(refine zJ k ?_;clear k J)))
  rw[X]at V j2;refine P (R-t) _ _ oO ⟨t,R,g,decide (z3<=z2),p,.nil,oO,oO,oO,rfl,?_⟩;refine PdI.mk (aa m) (aa o) sS (aa F) sS sS sS oO (cz K j3.1) (hof'.trans j3) j0 (hpm'.trans (V.wide oO oO oO)) ?_ ?_
  .exact(hah'.pm (V.wide oO oO oO)).less oO
  .intro y U g2;refine W y ((V.wide oO oO oO).trans (U.wide oO oO (by have:=V.len;omega))) (((k4.pmR V).pmL U).glue g2 (Srt.out j2 fun j e1 e2=>U.out j oO))
def QI(l:AN)(q:Nat)(b:St)(j:l.length<65536)(f:q<b.z)(g:b.H q=.box 34 1 (us l)):
 aB prog 46 [.ms q 0 l.length] b fun r a=>∃ c,a.H q=.box 34 1 (us c)/\c.Perm l/\c.Pairwise (·<=·)/\bR q b a:=by
 have p:IntKind.u64.wrap (l.length:Int)=(l.length:Int):=wrap_u64 _ oO oO;have s:=(FA l.length oO).1;refine zN func46 ntmps46 [] ?_
 (refine jf p ?_;intro J d)
 refine qF (zd l.length _ oO) ?_;rintro r a ⟨rfl,rfl⟩;refine dB d ?_;refine qE (Ea (l.length+1) l q 0 l.length (lR l.length) _ j oO oO oO (fun h=>absurd h oO) oO f g) (by simp[]) ?_;rintro r a ⟨c,k,e,m,n⟩;refine dB d ?_;have o:=e.len;exact⟨trivial,c,k,e.perm,Sr (by rw[o];exact m),n⟩
end Aw
namespace Aw
open Go Go.RowKit
def sC{w c:World}(g:G)(h:Below w.heap.size w c):Ext w g c g:=
 ⟨h.os,h.tape,h.output,h.size,au _,fun _ _=>rfl,fun _ _=>rfl,fun _ _=>rfl,fun b a e=>⟨e,h.block b a⟩,fun b k a d=>⟨k,d,au _,fun o _=>World.cell?_of_block (w:=w) (h.block b a)⟩⟩
def wW{w v:World}{g:G}{t:St}(a:Inv w g t)(h:Below w.heap.size w v):Inv v g t:=by
 have c:=sC g h;refine⟨a.z,a.pos,a.fresh,fun l b=>cz (a.lt l b) h.size,a.inj,?_,?_,?_,?_,a.aside.keep c fun _ _=>rfl⟩
 .intro l e s n b;obtain⟨f,j,k,A⟩:=a.own l e s n b;refine⟨f,j,k,fun r=>?_⟩;obtain⟨q,m,o,p⟩:=A r;exact⟨q,by rw[h.block _ (fu.1 m).1];omega,o,p⟩
 .intro l e s x b;obtain⟨f,j,k⟩:=a.box l e s x b;refine⟨f,j,fun r=>?_⟩;obtain⟨q,m,o,p,B,C⟩:=k r;exact⟨q,by rw[h.block _ (fu.1 m).1];omega,o,p,aC.mono c _ _ B,C⟩
 .intro l ag D y b;have d:=a.mp l ag D y b;exact d.keep c (a.map_lt b) (h.block _ d.blk_lt) rfl
 .intro l e n b;have d:=a.qu l e n b;exact d.keep c (a.que_lt b) (h.block _ d.blk_lt) rfl
def wR{w m:World}{g:G}{j:St}(f:Inv w g j)(h:Below w.heap.size w m){e:TypeId}{v:Value}{D:List Value}{cs:List LV}(V:m.ownsRow w.heap.size e 1 v D.length D)(U:∀ w g,aC w g cs D):
 ∃ H,Rep m H (.ms j.z 0 D.length) v/\Inv m H (j.new (.box e 1 cs))/\Ext w g m H:=by
 have E:=wW f h;have r8:cs.length=D.length:=aM _ _ (U w g);rcases V.2 with⟨rfl,O⟩|⟨b,r,o8,rfl,hb,B,h1,h2,h3,h4⟩
 .have R:cs=[]:=gI oO;subst R;refine⟨g.addNil,?_,jF E _ (.inr ⟨_,_,rfl⟩),(sC g h).trans (ext_nil m g)⟩;simp only[Rep,O];exact⟨none,0,rfl,au _,je _,by simp[G.addNil,f.z],sS,by simp[G.addNil,f.z]⟩
 .have c:=f.z;have q:Ext w g m (g.add b 0 r false):=by
   refine⟨h.os,h.tape,h.output,h.size,rj _,?_,?_,?_,?_,?_⟩
   .grind [G.add]
   .grind [G.add]
   .grind [G.add]
   .intro x I O;exact⟨by grind [G.add],h.block x I⟩
   .intro x k I hk;exact⟨k,by grind [G.add],au _,fun o _=>World.cell?_of_block (w:=w) (h.block x I)⟩
  have F:∀ l,blk g j l->g.β l≠b:=fun l a=>by have:=f.lt l a;omega
  have N:b<m.heap.size:=(fu.1 B).1;refine⟨g.add b 0 r false,?_,?_,q⟩
  .simp only[Rep,G.add,c,ad]
   grind
  .refine⟨by grind [G.add,St.new],by simp_all,?_,?_,?_,?_,?_,?_,?_,f.aside.keep q (oJ rfl)⟩
   .intro l a;simp only[St.new]at a ⊢;rw[ac oO];exact f.fresh l oO
   .intro l a;by_cases d:l=j.z
    .grind [G.add]
    .rw[cM c d]at a;have:=E.lt l a
     grind [G.add]
   .intro l P a L A;by_cases d:l=j.z<;>by_cases M:P=j.z
    .omega
    .grind [cM,G.add]
    .grind [cM,G.add]
    .rw[cM c d]at a;rw[cM c M]at L;simp only[G.add,c,ac M,ac d]at A;exact f.inj l P a L A
   .intro l p s n a;by_cases d:l=j.z
    .simp_all
    .simp only[St.new,ac d]at a;obtain⟨q1,q2,q3,q4⟩:=E.own l p s n a;simp only[G.add,c,ac d]
     grind [blk]
   .intro l p Q t a;by_cases d:l=j.z
    .simp only[St.new,ad d]at a;injection a with S a2 a3;subst S a2 a3;refine⟨?_,?_,fun _=>⟨o8.toList,?_,?_,?_,?_,?_⟩⟩
     .grind [G.add]
     .grind [G.add]
     .simp only[G.add,c,ad d];omega
     .grind [G.add]
     .grind
     .grind
     grind [G.add]
    .simp only[St.new,ac d]at a;obtain⟨k3,k0,J⟩:=E.box l p Q t a;refine⟨?_,?_,fun K=>?_⟩
     .grind [G.add]
     .grind [G.add]
     simp only[G.add,c,ac d]at K;obtain⟨P7,k1,k2,k4,k5,k6⟩:=J K;have c7:=F l (by grind [blk]);obtain⟨_,_,J⟩:=f.box l p Q t a;obtain⟨y,X,m2,Y,Z,m6⟩:=J K;have dF:=(fu.1 X).1;refine⟨y,?_,?_,Y,aC.mono q _ _ Z,?_⟩
     .simp only[G.add,c,ac d];rw[h.block _ dF];omega
     .grind [G.add]
     grind [G.add]
   .intro l ag W T a;by_cases d:l=j.z
    .simp_all
    .simp only[St.new,ac d]at a;have C:=f.mp l ag W T a;exact C.keep q (f.map_lt a) (h.block _ C.blk_lt) (by simp only[G.add];rw[ac (F l (f.map_blk a))])
   .intro l p n a;by_cases d:l=j.z
    .simp_all
    .simp only[St.new,ac d]at a;have C:=f.qu l p n a;exact C.keep q (f.que_lt a) (h.block _ C.blk_lt) (by simp only[G.add];rw[ac (F l (f.que_blk a))])
theorem zT(w:World)(g:G):∀ l:AN,aC w g (us l) (l.map (Value.int .u32))
 |[]=>by simp[aC]
 |a::l=>by simp only[ax,aC,Rep];exact⟨_,_,rfl,rfl,zT w g l⟩
theorem Lv{w:World}{g:G}:∀(l:AN) (b:List Value),aC w g (us l) b->b=l.map (Value.int .u32)
 |[],b,h=>by grind [aC]
 |a::l,b,h=>by simp only[ax,aC,Rep]at h;obtain⟨v,c,rfl,rfl,d⟩:=h;rw[Lv l c d];rfl
theorem Ud(l:AN)(x:LV)(q:Nat)(k:St)(M:l.length<=1048576)(K:k.H q=.box 22 1 [x])(O:JY tab 22 k x=some (l.length,us l)):
 aB prog 104 [.fn (.func 204) [.pt q 0]] k fun r t=>r=.ms k.z 0 l.length/\t=k.new (.box 34 1 (us l)):=by
 refine⟨enters_of func104 (by kernel_rfl) rfl,fun w g vs m B=>?_⟩;simp only[aC,Rep]at B;obtain⟨v,_,rfl,⟨T,rfl,v1,_,rfl,⟨rfl,hq⟩,rfl⟩,rfl⟩:=B;obtain⟨_,W,I⟩:=m.box q _ _ _ K;have U:g.nl q=false:=by
  cases hn:g.nl q with
  |false=>rfl
  |true=>grind
 obtain⟨E,P,k2,Q,D,k5⟩:=I U;simp only[List.length_cons,List.length_nil,jd,aC]at D Q;obtain⟨y,rest,N,F,_⟩:=D;have f:w.cell? ⟨g.β q,0,none⟩=some y:=by
  rw[cell_of_row w _ _ _ _ _ P];cases E with
  |nil=>grind
  |cons a E=>grind
 have L:Rg.Ints w.heap.size w y l:=by
  obtain⟨A,c,rfl,p⟩:=Dp m O F;by_cases n:l=[]
  .subst n;exact .inl ⟨rfl,A,c,rfl⟩
  .obtain⟨b,o,V,rfl,R,S⟩:=p (by grind);have s:=Lv l V R;refine .inr ⟨b,o,c,rfl,?_,fun j hj=>?_⟩
   .have J:=S 0 (by grind);rw[s]at J;cases l with
    |nil=>grind
    |cons a l=>exact oI (a:=⟨b,o+0,none⟩) (v:=.int .u32 a) (by grind)
   grind
 refine(((Rg.Jb Fence.wide 4 trivial trivial trivial rfl (au _) (g.β q) y l M w (oI f) f L).calls room_wide)).mono ?_;rintro e w' ⟨v,rfl,C,d⟩;have h:l.length=(l.map (Value.int .u32)).length:=sS;rw[h]at C;obtain⟨X,Y,Z,h3⟩:=wR (cs:=us l) m d C (fun w g=>zT w g l)
 grind
def ZC:kH:=fun f args a=>if f=104 then match args with
 |[.fn (.func g) [.pt q 0]]=>if g=204 then match a.H q with
    |.box e s [x]=>if e=22/\s=1 then match JY tab 22 a x with
      |some (n,ds)=>match iL ds with
       |some (ks,ns)=>if(ks.all fun k=>decide (k=.u32))=true/\ns.length=n/\n<=1048576 then some [(.ms a.z 0 n,a.new (.box 34 1 (us ns)))]else none
       |none=>none
      |none=>none
     else none
    |_=>none
  else none
 |_=>none
 else none
theorem JN:∀(a:List LV) (d:List IntKind) (e:AN),iL a=some (d,e)->(d.all fun k=>decide (k=.u32))=true->a=us e
 |[],d,e,h,_=>by simp_all
 |c::a,d,e,h,b=>by
  cases c with
  |atom x=>
   cases x with
   |int k n=>
    simp only[iL]at h;cases g:iL a with
    |none=>grind
    |some p=>obtain⟨j,f⟩:=p;simp only[g,ap,fx]at h;obtain⟨rfl,rfl⟩:=h;simp only[List.all_cons,fw,ke]at b;obtain⟨rfl,b⟩:=b;rw[JN a j f g b];rfl
   |_=>simp[iL]at h
  |_=>simp[iL]at h
def FV:oS prog ZC:=by
 intro f args j d h;unfold ZC at h
 split at h
 .rename_i hf;subst hf
  split at h
  .rename_i g q
   split at h
   .rename_i b;subst b
    split at h
    .rename_i e s x c
     split at h
     .rename_i a;obtain⟨rfl,rfl⟩:=a
      split at h
      .grind [JN,Ud]
      grind
     grind
    grind
   grind
  grind
 grind
def Vn(b:St):aB prog 68 [] b fun r a=>r=bb true/\a=b:=
 sM lV Pf FV mixed 1000000 true (by kernel_rfl)
def UM(b:St):aB prog 69 [] b fun r a=>r=bb true/\a=b:=
 sM lV Pf FV mixed 1000000 true (by kernel_rfl)
structure Mp where
 g:Gr
 rots:List (AN)
 deriving DecidableEq
abbrev gM(a:List AN):List LV:=a.map fun r=>.sl 0 r.length (us r)
abbrev pu(m:Mp):List LV:=bv m.g++[.sl 0 m.rots.length (gM m.rots)]
def BL(a:List AN)(k:Nat)(b:k<a.length):(gM a).drop k=.sl 0 (a.getD k []).length (us (a.getD k []))::(gM a).drop (k+1):=by
 grind [List.drop_eq_getElem_cons]
def jD(b:List (AN×LV))(a x:AN)(v:LV):bQ (bV b a v) x=if x=a then some v else bQ b x:=by
 induction b with
 |nil=>
  grind [bV,bQ]
 |cons p b c=>
  grind [bV,bQ]
end Aw
namespace Aw
open Go Go.RowKit Pl
@[simp] theorem Zb(c:St)(a b:cK):(c.new a).set c.z b=c.new b:=St.ext' rfl fun y=>by simp_all
def aJ(l:List Ed):(eds l).length=l.length*3:=by
 induction l with
 |nil=>rfl
 |cons e l a=>grind
abbrev ed0:Ed:=⟨0,0,0⟩
def aS(l:List Ed)(k:Nat)(c:k<l.length):(eds l).drop (k*3)=u (l.getD k ed0).id::u (l.getD k ed0).a::u (l.getD k ed0).b::eds (l.drop (k+1)):=by
 induction l generalizing k with
 |nil=>grind
 |cons e l d=>
  cases k with
  |zero=>rfl
  |succ k=>
   grind
def bZ(f:Nat->Int):Nat->Int
 |0=>0
 |n+1=>if bZ f n≠0 then bZ f n else f n
theorem eJ{f:Nat->Int}{n:Nat}(h:∀ j,j<n->f j=0):bZ f n=0:=by
 induction n with
 |zero=>rfl
 |succ n a=>grind [bZ]
def gC{f:Nat->Int}{n k:Nat}{v:Int}(b:k<n)(h:∀ j,j<k->f j=0)(c:f k=v)(a:v≠0):bZ f n=v:=by
 induction n with
 |zero=>omega
 |succ n d=>
  grind [bZ,eJ]
def fB(n ahead:Int)(first:Bool):Int:=if n<1\/1048576<n then 2 else if first=false/\n<=ahead then 19 else 0
def kI(g:Gr)(k:Nat):Int:=fB (g.V.getD k 0) (g.V.getD (k-1) 0) (decide (k=0))
def lQ(g:Gr)(k:Nat):Int:=
 let x:=g.E.getD k ed0;let n:=fB x.id (g.E.getD (k-1) ed0).id (decide (k=0))
 if n≠0 then n else if x.a=x.b then 20 else if x.a∉g.V\/x.b∉g.V then 21 else 0
def chk(g:Gr):Int:=if 64<g.V.length\/160<g.E.length then 6 else if bZ (kI g) g.V.length≠0 then bZ (kI g) g.V.length else bZ (lQ g) g.E.length
def Has(g:Gr)(v:Int)(q:St)(s:small g.V):
 aB prog 39 [.ag (bv g),u v] q fun r b=>r=bb (decide (v∈g.V))/\aA q b:=by
 obtain⟨l,A⟩:=g;simp only at s ⊢;unfold small at s;refine zN func39 ntmps39 [.tmp 4] ?_;refine bz ?_;refine qL (fun n c b=>∃ k:Nat,k<=l.length/\n=l.length-k/\c 8=.sl 0 l.length (us l)/\c 1=u v/\c 9=i l.length/\c 10=i k/\aA q b/\∀ j (w:j<l.length),j<k->l[j]≠v) l.length ?_ ?_
 .exact⟨0,oO,oO,sS,sS,sS,sS,aA.new _ _,fun j _ h=>by omega⟩
 rintro n c b ⟨k,C,rfl,e,d,f,a,y,D⟩ z m;by_cases dF:k<l.length
 .have o:=kO l k dF;have p:=qN k oO
  (repeat' (first|apply qS|apply qB|refine qK (zZ ?_)|(refine qR (zZ ?_);simp[e,d,f,a,dF,o,p])|(apply qC;simp[e,d,f,a,dF,o,p];(try with_reducible refine⟨?_,?_⟩)<;>(try with_reducible intro B))|(refine zE ?_;intro J t;simp[e,d,f,a,dF,o,p];refine zJ t ?_)))
  .grind
  .refine m _ _ _ ?_ ⟨k+1,oO,rfl,aa e,aa d,aa f,sS,y,fun j w x=>?_⟩
   .omega
   .rcases dC j k with h|h
    .grind
    .obtain rfl:j=k:=oO;omega
 .refine jg e d f a dF ?_
  grind [List.getElem_of_mem]
def Tv(g:Gr)(v:Int)(c:St)(b:small g.V):
 aB prog 87 [.ag (bv g),u v] c fun r a=>r=i (gi g.V v)/\aA c a:=by
 obtain⟨l,e⟩:=g;simp only at b ⊢;refine zN func87 ntmps87 [.tmp 4] ?_
 (refine eu ?_;intro J d)
 refine qE (Index l 0 v _ b) (by simp[]) ?_;rintro r a ⟨rfl,rfl⟩;refine dB d ?_
 grind [aA.new]
def number(n ahead:Int)(first:Bool)(e:St):
 aB prog 86 [u n,u ahead,bb first] e fun r c=>r=i (fB n ahead first)/\c=e:=by
 unfold fB;refine zN func86 ntmps86 [.tmp 6] ?_;by_cases a:n<1
 .exact po a
 by_cases b:1048576<n
 .exact ub a b
 cases first
 .by_cases d:n<=ahead
  .exact wu a b d
  .exact wu a b d
 .exact ub a b
def Check(g:Gr)(v:St)(hv:g.V.length<=1000)(he:g.E.length<=1000):
 aB prog 48 [.ag (bv g)] v fun r c=>r=i (chk g)/\aA v c:=by
 have T6:small g.V:=by unfold small;omega
 refine zN func48 ntmps48 [.tmp 2] ?_;by_cases h1:(64:Int)<(g.V.length:Int)
 .have:chk g=6:=by unfold chk;rw[ad oO]
  refine cy h1 this ?_;exact aA.new _ _
 by_cases h2:(160:Int)<(g.E.length:Int)
 .have:chk g=6:=by unfold chk;rw[ad oO]
  refine fk h1 h2 this ?_;exact aA.new _ _
 have I:chk g=if bZ (kI g) g.V.length≠0 then bZ (kI g) g.V.length else bZ (lQ g) g.E.length:=by unfold chk;rw[ac oO]
 refine cy h1 h2 ?_;refine qL (fun n e c=>∃ k:Nat,k<=g.V.length/\n=g.V.length-k/\e 1=.pt v.z 0/\e 21=.sl 0 g.V.length (us g.V)/\e 22=i g.V.length/\e 23=i k/\e 3=u (if k=0 then 0 else g.V.getD (k-1) 0)/\c=v.new (.box 25 2 (bv g))/\∀ j,j<k->kI g j=0) g.V.length ?_ ?_
 .exact⟨0,oO,oO,sS,sS,sS,sS,sS,rfl,fun j h=>by omega⟩
 rintro n e c ⟨k,hk,rfl,l,w,A,B,L,rfl,q⟩ JJ o;by_cases dF:k<g.V.length
 .have X:=qG g.V k dF;have T:=qN k oO;have s:kI g k=fB (g.V.getD k 0) (if k=0 then 0 else g.V.getD (k-1) 0) (decide (k=0)):=by
   unfold kI;by_cases C:k=0
   .subst C;simp[fB]
   .simp[C]
  generalize hy:(if k=0 then(0:Int)else g.V.getD (k-1) 0)=y at *;generalize hx:g.V.getD k 0=x at *;have P3:((k:Int)==0)=decide (k=0):=by by_cases C:k=0<;>simp[C]
  (refine yy l w A B L dF X T P3 ?_;intro J t)
  refine qE (number x y (decide (k=0)) _) (by simp[]) ?_;rintro r c ⟨rfl,rfl⟩;rw[<- s];by_cases m:kI g k=0
  .refine sW t B T m ?_;refine o _ _ _ ?_ ⟨k+1,oO,rfl,aa l,aa w,aa A,sS,by rw[ac oO,qm,hx];simp,rfl,fun j hj=>?_⟩
   .omega
   .rcases dC j k with h|h
    .exact q j h
    .obtain rfl:j=k:=oO;exact m
  .have hf:=gC dF q rfl m;have p:chk g=kI g k:=by rw[I,hf,ad m]
   refine pH t m ?_;exact⟨p.symm,aA.new _ _⟩
 have J9:k=g.V.length:=oO;have Y:bZ (kI g) g.V.length=0:=eJ (fun j hj=>q j oO);rw[Y]at I;simp only[ne_eq,uv,gx]at I;clear o q Y;have hel:=aJ g.E;generalize hy:(if k=0 then(0:Int)else g.V.getD (k-1) 0)=y at *;refine kj l w A B L dF ?_;refine qL (fun n e c=>∃ k:Nat,k<=g.E.length/\n=g.E.length-k/\e 1=.pt v.z 0/\e 39=.sl 0 g.E.length (eds g.E)/\e 40=i g.E.length/\e 41=i k/\(∃ z,e 3=u z/\(k≠0->z=(g.E.getD (k-1) ed0).id))/\aA (v.new (.box 25 2 (bv g))) c/\∀ j,j<k->lQ g j=0) g.E.length ?_ ?_
 .exact⟨0,oO,oO,aa l,sS,sS,sS,⟨y,aa L,sS⟩,aA.refl _,fun j h=>by omega⟩
 clear l w A B L dF J9 hk hy y e k;rintro n e R ⟨k,hk,rfl,l,M,N,O,⟨z,L,Y⟩,o7,q⟩ JJ o;have P:R.H v.z=.box 25 2 (bv g):=by rw[o7.H _ sS];simp
 have Q:¬v.z=R.z:=by have:=o7.z;simp only[aH]at this;omega
 have f:=(aA.new v (.box 25 2 (bv g))).trans o7;by_cases dF:k<g.E.length
 .have X:=aS g.E k dF;have T:=qN k oO;have u9:k*3<g.E.length*3:=oO;have hk30:k*3+3<=g.E.length*3:=oO;have s:lQ g k=(let x:=g.E.getD k ed0;let n:=fB x.id z (decide (k=0));if n≠0 then n else if x.a=x.b then 20 else if x.a∉g.V\/x.b∉g.V then 21 else 0):=by
   unfold lQ;by_cases C:k=0
   .subst C;simp[fB]
   .rw[Y C]
  generalize hx:g.E.getD k ed0=x at *;obtain⟨S,U,W⟩:=x;simp only at X s;have P3:((k:Int)==0)=decide (k=0):=by by_cases C:k=0<;>simp[C]
  (refine A7 l M N O L dF X T P3 hel u9 P Q ?_;intro J t)
  refine qE (number S z (decide (k=0)) _) (by simp[]) ?_;rintro r c ⟨rfl,rfl⟩;by_cases m:fB S z (decide (k=0))=0;rotate_left
  .have d:lQ g k=fB S z (decide (k=0)):=by rw[s,ad m]
   have p:chk g=fB S z (decide (k=0)):=by rw[I];exact gC dF q d m
   refine pH t m ?_;exact⟨p.symm,f.trans (aA.new _ _)⟩
  rw[ac (aa m)]at s;by_cases x9:U=W
  .have d:lQ g k=20:=by rw[s,ad x9]
   have p:chk g=20:=by rw[I];exact gC dF q d (by decide)
   refine sW t m x9 p ?_;exact f.trans (aA.new _ _)
  rw[ac x9]at s
  (refine YP t m x9 l Q P ?_;intro J t)
  refine qE (Tv g U _ T6) (by simp[]) ?_;rintro r c ⟨rfl,Z⟩;have V7:c.H R.z=.box 36 3 [u S,u U,u W]:=by rw[Z.H _ sS];simp
  have K:c.H v.z=.box 25 2 (bv g):=by rw[Z.H _ (by have:=o7.z;simp only[aH]at this ⊢;omega),cB,ac Q];exact P
  have Y4:=(o7.trans (aA.new _ _)).trans Z;have Z4:=(f.trans (aA.new _ _)).trans Z;by_cases D:U∈g.V;rotate_left
  .rw[SR D];have d:lQ g k=21:=by rw[s,ad (.inl D)]
   have p:chk g=21:=by rw[I];exact gC dF q d (by decide)
   refine A4 t l V7 K p ?_;exact Z4
  rw[FR D];have Z3:¬((g.V.idxOf U:Nat):Int)<0:=oO
  (apply cL;simp[l,V7,K,Z3])
  refine qE (Tv g W _ T6) (by simp[]) ?_;rintro r c ⟨rfl,u5⟩;by_cases F:W∈g.V;rotate_left
  .rw[SR F];have d:lQ g k=21:=by rw[s,ad (.inr F)]
   have p:chk g=21:=by rw[I];exact gC dF q d (by decide)
   refine pH t p ?_;exact Z4.trans u5
  rw[FR F];have K5:¬((g.V.idxOf W:Nat):Int)<0:=oO;have d:lQ g k=0:=by rw[s,ac (dg D F)]
  refine sW t O T K5 ?_;refine o _ _ _ ?_ ⟨k+1,oO,rfl,aa l,aa M,aa N,sS,⟨S,sS,fun _=>by rw[qm,hx]⟩,Y4.trans u5,fun j hj=>?_⟩
  .omega
  .rcases dC j k with h|h
   .exact q j h
   .obtain rfl:j=k:=oO;exact d
 .have p:chk g=0:=by rw[I];exact eJ (fun j hj=>q j oO)
  clear o;refine mu l M N O L dF p ?_;exact f
def OP(g:Gr)(W:St)(hv:g.V.length<=1000)(he:g.E.length<=1000):
 aB prog 13 [.ag (bv g)] W fun r e=>r=i (chk g)/\aA W e:=by
 have T6:small g.V:=by unfold small;omega
 refine zN func13 ntmps13 [.tmp 2] ?_;by_cases h1:(64:Int)<(g.V.length:Int)
 .have:chk g=6:=by unfold chk;rw[ad oO]
  refine cy h1 this ?_;exact aA.new _ _
 by_cases h2:(160:Int)<(g.E.length:Int)
 .have:chk g=6:=by unfold chk;rw[ad oO]
  refine fk h1 h2 this ?_;exact aA.new _ _
 have T5:chk g=if bZ (kI g) g.V.length≠0 then bZ (kI g) g.V.length else bZ (lQ g) g.E.length:=by unfold chk;rw[ac oO]
 refine cy h1 h2 ?_;refine qL (fun n T e=>∃ k:Nat,k<=g.V.length/\n=g.V.length-k/\T 1=.pt W.z 0/\T 18=.sl 0 g.V.length (us g.V)/\T 19=i g.V.length/\T 20=i k/\e=W.new (.box 25 2 (bv g))/\∀ j,j<k->kI g j=0) g.V.length ?_ ?_
 .exact⟨0,oO,oO,sS,sS,sS,sS,rfl,fun j h=>by omega⟩
 rintro n T e ⟨k,hk,rfl,f,A,B,L,rfl,z8⟩ JJ M;by_cases dF:k<g.V.length
 .have Q:=qG g.V k dF;have O:=qN k oO;have w:kI g k=fB (g.V.getD k 0) (g.V.getD (k-1) 0) (decide (k=0)):=rfl;have O7:kI g k=0->∀ j,j<k+1->kI g j=0:=fun hb j hj=>by
   rcases dC j k with h|h
   .exact z8 j h
   .obtain rfl:j=k:=oO;exact hb
  have d:∀ v,kI g k=v->v≠0->chk g=v:=fun v U h1=>by have hf:=gC dF z8 U h1;rw[T5,hf,ad h1]
  generalize hx:g.V.getD k 0=x at *;by_cases c:x<1
  .have m:=d 2 (by rw[w];unfold fB;rw[ad (.inl c)]) (by decide);refine lz f A B L dF Q O c m ?_;exact aA.new _ _
  by_cases o:1048576<x
  .have m:=d 2 (by rw[w];unfold fB;rw[ad (.inr o)]) (by decide);refine Gx f A B L dF Q O c o m ?_;exact aA.new _ _
  by_cases U:k=0
  .have hb:kI g k=0:=by rw[w];unfold fB;rw[ac (dg c o)];simp[U]
   have P:¬0<k:=oO;refine Gx f A B L dF Q O c o P ?_;refine M _ _ _ ?_ ⟨k+1,oO,rfl,aa f,aa A,aa B,sS,rfl,O7 hb⟩;omega
  .have P:0<k:=oO;have P6:IntKind.i64.wrap ((k:Int)-1)=((k-1:Nat):Int):=zW;have X:=qG g.V (k-1) oO;have W7:k-1<g.V.length:=oO;generalize hy:g.V.getD (k-1) 0=y at *;by_cases R:x<=y
   .have m:=d 19 (by rw[w];unfold fB;rw[ac (dg c o),ad ⟨aa U,R⟩]) (by decide);refine B3 f A B L dF Q O c o P P6 X W7 R m ?_;exact aA.new _ _
   .have hb:kI g k=0:=by rw[w];unfold fB;rw[ac (dg c o),ac (aa R)]
    refine Ya f A B L dF Q O c o P P6 X W7 R ?_;refine M _ _ _ ?_ ⟨k+1,oO,rfl,aa f,aa A,aa B,sS,rfl,O7 hb⟩;omega
 have J9:k=g.V.length:=oO;have hz:bZ (kI g) g.V.length=0:=eJ (fun j hj=>z8 j oO);rw[hz]at T5;simp only[ne_eq,uv,gx]at T5;clear M z8 hz;have N:=aJ g.E;refine jg f A B L dF ?_;refine qL (fun n T e=>∃ k:Nat,k<=g.E.length/\n=g.E.length-k/\T 1=.pt W.z 0/\T 45=.sl 0 g.E.length (eds g.E)/\T 46=i g.E.length/\T 47=i k/\aA (W.new (.box 25 2 (bv g))) e/\∀ j,j<k->lQ g j=0) g.E.length ?_ ?_
 .exact⟨0,oO,oO,aa f,sS,sS,sS,aA.refl _,fun j h=>by omega⟩
 clear f A B L dF J9 hk T k;rintro n T Z ⟨k,hk,rfl,f,p,q,s,o7,z8⟩ JJ M;have C:Z.H W.z=.box 25 2 (bv g):=by rw[o7.H _ sS];simp
 have I:¬W.z=Z.z:=by have:=o7.z;simp only[aH]at this;omega
 have t:=(aA.new W (.box 25 2 (bv g))).trans o7;by_cases dF:k<g.E.length
 .have Q:=aS g.E k dF;have O:=qN k oO;have u9:k*3<g.E.length*3:=oO;have w:lQ g k=(let x:=g.E.getD k ed0;let n:=fB x.id (g.E.getD (k-1) ed0).id (decide (k=0));if n≠0 then n else if x.a=x.b then 20 else if x.a∉g.V\/x.b∉g.V then 21 else 0):=rfl;have O7:lQ g k=0->∀ j,j<k+1->lQ g j=0:=fun hb j hj=>by
   rcases dC j k with h|h
   .exact z8 j h
   .obtain rfl:j=k:=oO;exact hb
  have d:∀ v,lQ g k=v->v≠0->chk g=v:=fun v U h1=>by rw[T5];exact gC dF z8 U h1
  generalize hx:g.E.getD k ed0=x at *;obtain⟨S,xa,xb⟩:=x;simp only at Q w;have hkn:=t.trans (aA.new _ (.box 36 3 [u S,u xa,u xb]));by_cases c:S<1
  .have hn:fB S (g.E.getD (k-1) ed0).id (decide (k=0))=2:=by unfold fB;rw[ad (.inl c)]
   have m:=d 2 (by rw[w,hn];rfl) (by decide);refine E5 f p q s dF Q O N u9 C I c m ?_;exact hkn
  by_cases o:1048576<S
  .have hn:fB S (g.E.getD (k-1) ed0).id (decide (k=0))=2:=by unfold fB;rw[ad (.inr o)]
   have m:=d 2 (by rw[w,hn];rfl) (by decide);refine Ya f p q s dF Q O N u9 C I c o m ?_;exact hkn
  by_cases l:fB S (g.E.getD (k-1) ed0).id (decide (k=0))=0;rotate_left
  ·
   have U:k≠0:=by rintro rfl;apply l;unfold fB;rw[ac (dg c o)];simp
   have R:S<=(g.E.getD (k-1) ed0).id:=by
    unfold fB at l;rw[ac (dg c o)]at l;by_cases h:decide (k=0)=false/\S<=(g.E.getD (k-1) ed0).id
    .exact h.2
    .rw[ac h]at l;exact absurd rfl l
   have hn:fB S (g.E.getD (k-1) ed0).id (decide (k=0))=19:=by unfold fB;rw[ac (dg c o),ad ⟨aa U,R⟩]
   have m:=d 19 (by rw[w,hn];rfl) (by decide);have P:0<k:=oO;have P6:IntKind.i64.wrap ((k:Int)-1)=((k-1:Nat):Int):=zW;have X:=aS g.E (k-1) oO;have W7:k-1<g.E.length:=oO;have M6:(k-1)*3<g.E.length*3:=oO;generalize hy:g.E.getD (k-1) ed0=y at *;obtain⟨yi,ya,yb⟩:=y;simp only at X R;refine B4 f p q s dF Q O N u9 C I c o P P6 X W7 M6 R m ?_;exact hkn
  rw[ac (fun h=>h l)]at w;by_cases x9:xa=xb
  .have m:=d 20 (by rw[w,ad x9]) (by decide);by_cases U:k=0
   .have P:¬0<k:=oO;refine Pk f p q s dF Q O N u9 C I c o P x9 m ?_;exact t.trans (aA.new _ _)
   .have P:0<k:=oO;have P6:IntKind.i64.wrap ((k:Int)-1)=((k-1:Nat):Int):=zW;have X:=aS g.E (k-1) oO;have W7:k-1<g.E.length:=oO;have M6:(k-1)*3<g.E.length*3:=oO;have R:¬S<=(g.E.getD (k-1) ed0).id:=by intro h;unfold fB at l;rw[ac (dg c o),ad ⟨aa U,h⟩]at l;cases l
    generalize hy:g.E.getD (k-1) ed0=y at *;obtain⟨yi,ya,yb⟩:=y;simp only at X R;refine D5 f p q s dF Q O N u9 C I c o P P6 X W7 M6 R x9 m ?_;exact t.trans (aA.new _ _)
  rw[ac x9]at w;by_cases U:k=0
  .have P:¬0<k:=oO
   (refine G8 f p q s dF Q O N u9 C I c o P x9 ?_;intro J hJ)
   refine qE (Has g xa _ T6) (by simp[]) ?_;rintro r e ⟨rfl,Y⟩;have V7:e.H Z.z=.box 36 3 [u S,u xa,u xb]:=by rw[Y.H _ sS];simp
   have K:e.H W.z=.box 25 2 (bv g):=by rw[Y.H _ (by have:=o7.z;simp only[aH]at this ⊢;omega),cB,ac I];exact C
   have Y4:=(o7.trans (aA.new _ _)).trans Y;have Z4:=(t.trans (aA.new _ _)).trans Y;by_cases D:xa∈g.V;rotate_left
   .have m:=d 21 (by rw[w,ad (.inl D)]) (by decide);refine YF hJ f V7 K m D ?_;exact Z4
   (apply cL;simp[f,V7,K,D])
   refine qE (Has g xb _ T6) (by simp[]) ?_;rintro r e ⟨rfl,u5⟩;by_cases F:xb∈g.V;rotate_left
   .have m:=d 21 (by rw[w,ad (.inr F)]) (by decide);refine vY hJ m F ?_;exact Z4.trans u5
   have hb':lQ g k=0:=by rw[w,ac (dg D F)]
   refine sW hJ s O F ?_;refine M _ _ _ ?_ ⟨k+1,oO,rfl,aa f,aa p,aa q,sS,Y4.trans u5,O7 hb'⟩;omega
  .have P:0<k:=oO;have P6:IntKind.i64.wrap ((k:Int)-1)=((k-1:Nat):Int):=zW;have X:=aS g.E (k-1) oO;have W7:k-1<g.E.length:=oO;have M6:(k-1)*3<g.E.length*3:=oO;have R:¬S<=(g.E.getD (k-1) ed0).id:=by intro h;unfold fB at l;rw[ac (dg c o),ad ⟨aa U,h⟩]at l;cases l
   generalize hy:g.E.getD (k-1) ed0=y at *;obtain⟨yi,ya,yb⟩:=y;simp only at X R
   (refine C3 f p q s dF Q O N u9 C I c o P P6 X W7 M6 R x9 ?_;intro J hJ)
   refine qE (Has g xa _ T6) (by simp[]) ?_;rintro r e ⟨rfl,Y⟩;have V7:e.H Z.z=.box 36 3 [u S,u xa,u xb]:=by rw[Y.H _ sS];simp
   have K:e.H W.z=.box 25 2 (bv g):=by rw[Y.H _ (by have:=o7.z;simp only[aH]at this ⊢;omega),cB,ac I];exact C
   have Y4:=(o7.trans (aA.new _ _)).trans Y;have Z4:=(t.trans (aA.new _ _)).trans Y;by_cases D:xa∈g.V;rotate_left
   .have m:=d 21 (by rw[w,ad (.inl D)]) (by decide);refine YF hJ f V7 K m D ?_;exact Z4
   (apply cL;simp[f,V7,K,D])
   refine qE (Has g xb _ T6) (by simp[]) ?_;rintro r e ⟨rfl,u5⟩;by_cases F:xb∈g.V;rotate_left
   .have m:=d 21 (by rw[w,ad (.inr F)]) (by decide);refine vY hJ m F ?_;exact Z4.trans u5
   have hb':lQ g k=0:=by rw[w,ac (dg D F)]
   refine sW hJ s O F ?_;refine M _ _ _ ?_ ⟨k+1,oO,rfl,aa f,aa p,aa q,sS,Y4.trans u5,O7 hb'⟩;omega
 .have m:chk g=0:=by rw[T5];exact eJ (fun j hj=>z8 j oO)
  clear M;refine kj f p q s dF m ?_;exact t
def LI(l:List Ed):(eds l).all jP=true:=by
 induction l with
 |nil=>rfl
 |cons e l a=>simp only[eds,ec,List.all_append,a,Bool.and_true];rfl
def XZ(l:List Ed)(t:Nat)(b:St)(g:l.length<=1048576):
 aB prog 19 [.sl t l.length (eds l)] b fun r d=>r=.sl 0 l.length (eds l)/\aA b d:=by
 have c:=LI l;have a:=aJ l;refine cE ?_;refine jU 36 3 ?_;refine zN func19 ntmps19 [.tmp 2] ?_
 (repeat' (first|apply qS|refine qK (zZ ?_)|(refine qR (zZ ?_);simp[c,a])|(apply qC;simp[c,a])|(refine w_e [5] ?_;intro J e;simp only[];simp[c,a];(repeat refine ca ?_);((try with_reducible refine⟨?_,?_⟩)<;>(try with_reducible intro f)<;>refine zJ e ?_<;>clear e J<;>try subst f))))
 .exact⟨b.z+1,l.length,⟨rfl,rfl⟩,36,3,eds l,sS,by rw[a];exact au _,⟨rfl,dp (by rw[a];exact au _)⟩,((aA.new _ _).trans (aA.new _ _)).set oO _⟩
 .exact⟨b.z,0,⟨rfl,rfl⟩,36,3,[],sS,sS,⟨rfl,.inr rfl⟩,(aA.new _ _).set (au _) _⟩
def copied(g:Gr)(b:St)(n:g.V.length<=1048576)(m:g.E.length<=1048576):
 aB prog 109 [.ag (bv g)] b fun r a=>r=.ag (bv g)/\aA b a:=by
 refine zN func109 ntmps109 [.cell 2 25] ?_;refine bz ?_
 (refine zS [] [b.z] [0,2,6,8,4,10,12,15] ?_;intro J l;simp[])
 refine qD (SS g.V 0 _ n) (by simp[]) ?_;rintro r a ⟨rfl,e⟩;have f:a.H b.z=.box 25 2 (bv g):=by rw[e.H _ (by simp;omega)];simp
 have h:a.H (b.z+1)=.box 25 2 [.nil,.nil]:=by rw[e.H _ sS];simp
 refine⟨fun _=>by simp[f],?_⟩
 (apply bM;simp[f])
 have k:=e.z;simp only[aH]at k;refine qD (XZ g.E 0 _ m) (by simp[]) ?_;rintro r a ⟨rfl,j⟩;have c:=(j.H b.z oO).trans f;have d:=(j.H (b.z+1) oO).trans h;refine⟨fun _=>by simp[c],?_⟩
 (apply bM;simp[c,d];refine zJ l ?_)
 refine dd d ?_;exact(((((aA.new _ _).trans (aA.new _ _)).trans e).trans j).set oO _)
end Aw
end Go.Proofs.YtbgngpdonpeboaaGreatDoor
