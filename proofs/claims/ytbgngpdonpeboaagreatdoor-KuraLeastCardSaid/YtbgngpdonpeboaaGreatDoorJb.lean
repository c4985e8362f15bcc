/- The library's sort: partitionEqual. Written by gensort.py. -/
import Derived.Test.YtbgngpdonpeboaaGreatDoorJa
import Derived.Test.YtbgngpdonpeboaaGreatDoorAwX
import Derived.Test.YtbgngpdonpeboaaGreatDoorAwSet
import Derived.Test.YtbgngpdonpeboaaGreatDoorAwFn
import Derived.Test.YtbgngpdonpeboaaGreatDoorAwShp
set_option linter.unusedVariables false
set_option linter.unusedSimpArgs false
set_option maxHeartbeats 4000000
open Go.Proofs.Tryz
namespace Go.Proofs.YtbgngpdonpeboaaGreatDoor
namespace Aw
open Go Go.RowKit Pl
theorem partitionEqual(l:List Int)(q a b pv:Nat)(st:St)(hl:small l)(v8:a<b)(hb:b<=l.length)(P7:a<=pv)(X5:pv<b)(hH:st.H q=.box 34 1 (us l)):
 aB prog 127 [.ms q 0 l.length,i a,i b,i pv] st fun r st'=>∃(c:List Int) (G7:Nat),r=i G7/\st'=bx st q c/\Pm a b l c/\a<G7/\G7<=b/\IX c a G7 b (l.getD pv 0):=by
 unfold small at hl;refine zN func127 ntmps127 [.tmp 8] ?_
 (repeat (apply qS));(refine zE ?_;intro J hJ;simp[];refine zJ hJ ?_)
 have hla:a<l.length:=oO;have Y9:pv<l.length:=oO;have K9:=fun x y=>JZ st q l a pv (x:=x) (y:=y) oO oO;have hd0:=qG l a oO;have y9:=qG l pv oO;have r9:Pm a b l (sw l a pv):=Pm.one a pv oO oO oO oO oO;have hx:(sw l a pv).getD a 0=l.getD pv 0:=by
  rw[cP _ _ _ _ oO oO];by_cases e:a=pv
  .rw[aAj e,e]
  .rw[aAa e,aAj rfl]
 generalize hy0:l.getD a 0=y0 at *;generalize hy1:l.getD pv 0=x at *;have J7:=K9 y0 x rfl rfl
 (repeat (apply qS));(refine zS [] [q] [0,2,4,6,8,10,12,14,16,18,20,22,24,27,28,31] ?_;intro J hJ;simp[hH,hla,Y9,hd0,y9];(repeat refine ca ?_);refine zJ hJ ?_)
 rw[J7];clear K9 J7 hd0 y9 hy0;generalize hc:sw l a pv=c at *;clear hc;have o7:=r9.len;have w1:=qN a oO;have w2:=aT b oO oO;obtain⟨P,hPd⟩:∃ P:Int->Bool,∀ v,P v=!decide (x<v):=⟨_,fun _=>rfl⟩;apply qS;refine cD (fun fr st2=>fr 0=.ms q 0 l.length/\fr 1=i a/\fr 9=i ((a+1:Nat):Int)/\fr 10=i ((b-1:Nat):Int)/\st2=bx st q c) (by(refine zE ?_;intro J hJ;simp[w1,w2];refine zJ hJ ?_);simp) ?_;rintro fr st2 ⟨f0,f1,fI,fJ,rfl⟩;have hai:a<a+1:=oO;have hij:a+1<=b-1+1:=oO;have hjb:b-1<b:=oO;have R7:Lo P c a (a+1):=fun p h1 h2=>by omega
 have Q9:Hi P c (b-1) b:=fun p h1 h2=>by omega
 generalize a+1=ii at *;generalize b-1=jj at *;clear w1 w2;have hd0:=qG c a oO;rw[hx]at hd0;apply qS;apply qB;refine qL (fun m fr st2=>∃(ii jj:Nat) (c:List Int),a<ii/\ii<=jj+1/\jj<b/\jj=m/\fr 0=.ms q 0 l.length/\fr 1=i a/\fr 9=i ii/\fr 10=i jj/\st2=bx st q c/\Pm a b l c/\c.getD a 0=x/\Lo P c a ii/\Hi P c jj b) jj ?_ ?_
 .exact⟨ii,jj,c,oO,oO,oO,rfl,f0,f1,fI,fJ,rfl,r9,hx,R7,Q9⟩
 clear f0 f1 fI fJ R7 Q9 r9 hx o7 hd0 hai hij hjb ii jj c fr;rintro m fr st2 ⟨ii,jj,c,hai,hij,hjb,rfl,f0,f1,fI,fJ,rfl,r9,hx,R7,Q9⟩ JJ0 hJ0;have o7:=r9.len;have hd0:=qG c a oO;rw[hx]at hd0;apply qB;apply qS;refine cD (fun fr st2=>∃ ii:Nat,a<ii/\ii<=jj+1/\fr 0=.ms q 0 l.length/\fr 1=i a/\fr 9=i ii/\fr 10=i jj/\st2=bx st q c/\Lo P c a ii/\StU P c ii jj) ?_ ?_
 .apply qB;refine qL (fun m fr st2=>∃ ii:Nat,a<ii/\ii<=jj+1/\m=jj+1-ii/\fr 0=.ms q 0 l.length/\fr 1=i a/\fr 9=i ii/\fr 10=i jj/\st2=bx st q c/\Lo P c a ii) (jj+1-ii) ?_ ?_
  .exact⟨ii,oO,oO,rfl,sF1 f0,sF1 f1,sF1 fI,sF1 fJ,rfl,R7⟩
  clear f0 f1 fI fJ R7 hai hij fr ii;rintro m fr st2 ⟨ii,hai,hij,rfl,f0,f1,fI,fJ,rfl,R7⟩ JJ hJJ;have hia:=qN ii oO;by_cases u7:ii<=jj;rotate_left
  .clear hJJ
   (repeat (apply qS));(refine zS [] [q] [0,2,4,6,8,10,12,14,16,18,20,22,25,26,28] ?_;intro J hJ;simp[f0,f1,fI,fJ,u7];refine zJ hJ ?_)
   refine xw0 ?_;exact⟨trivial,ii,oO,oO,sF1 f0,sF1 f1,sF1 fI,sF1 fJ,by trivial,R7,fun h=>absurd h u7⟩
  have hli:ii<l.length:=oO;have y9:=qG c ii oO;have hmo:=R7.more;generalize hy:c.getD ii 0=y at *
  (repeat (apply qS));(refine zS [] [q] [0,2,4,6,8,10,12,14,16,18,20,22,25,26,28] ?_;intro J hJ;simp[f0,f1,fI,fJ,u7,hli,hla,o7,hd0,y9])
  refine aN (vF x y _) ?_;rintro r s2 ⟨rfl,rfl⟩;refine⟨fun _=>by simp,?_⟩;have hP:=hPd y;by_cases P9:x<y
  .clear hJJ
   (apply bI;simp[P9];refine zJ hJ ?_)
   refine xw0 ?_;exact⟨trivial,ii,oO,oO,sF1 f0,sF1 f1,sF1 fI,sF1 fJ,by trivial,R7,fun _=>by rw[hy,hP];simp[P9]⟩
  ·(apply bI;simp[P9];refine zJ hJ ?_)
   refine xw2 fI hia ?_;exact hJJ (jj+1-(ii+1)) _ _ oO ⟨ii+1,oO,oO,rfl,sF1 f0,sF1 f1,sS,sF1 fJ,rfl,hmo (by rw[hP];simp[P9])⟩
 clear f0 f1 fI fJ R7 hai hij fr ii;rintro fr st2 ⟨ii,hai,hij,f0,f1,fI,fJ,rfl,R7,I2⟩;apply qS;refine cD (fun fr st2=>∃ kk:Nat,a<=kk/\kk<=jj/\ii<=kk+1/\fr 0=.ms q 0 l.length/\fr 1=i a/\fr 9=i ii/\fr 10=i kk/\st2=bx st q c/\Hi P c kk b/\StD P c ii kk) ?_ ?_
 .apply qB;refine qL (fun m fr st2=>∃ kk:Nat,a<=kk/\kk<=jj/\ii<=kk+1/\kk=m/\fr 0=.ms q 0 l.length/\fr 1=i a/\fr 9=i ii/\fr 10=i kk/\st2=bx st q c/\Hi P c kk b) jj ?_ ?_
  .exact⟨jj,oO,oO,oO,rfl,sF1 f0,sF1 f1,sF1 fI,sF1 fJ,rfl,Q9⟩
  clear f0 f1 fI fJ Q9 fr;rintro m fr st2 ⟨kk,hak,hkj,hik,rfl,f0,f1,fI,fJ,rfl,Q9⟩ JJ hJJ;by_cases u7:ii<=kk;rotate_left
  .clear hJJ
   (repeat (apply qS));(refine zS [] [q] [0,2,4,6,8,10,12,14,16,18,20,22,25,26] ?_;intro J hJ;simp[f0,f1,fI,fJ,u7];refine zJ hJ ?_)
   refine xw0 ?_;exact⟨trivial,kk,oO,oO,oO,sF1 f0,sF1 f1,sF1 fI,sF1 fJ,by trivial,Q9,fun h=>absurd h u7⟩
  have hja:=aT kk oO oO;have hlj:kk<l.length:=oO;have y9:=qG c kk oO;have hmo:=Q9.more;generalize hy:c.getD kk 0=y at *
  (repeat (apply qS));(refine zS [] [q] [0,2,4,6,8,10,12,14,16,18,20,22,25,26] ?_;intro J hJ;simp[f0,f1,fI,fJ,u7,hlj,hla,o7,hd0,y9])
  refine aN (vF x y _) ?_;rintro r s2 ⟨rfl,rfl⟩;refine⟨fun _=>by simp,?_⟩;have hP:=hPd y;by_cases P9:x<y
  ·(apply bI;simp[P9];refine zJ hJ ?_)
   refine xw2 fJ hja ?_;exact hJJ (kk-1) _ _ oO ⟨kk-1,oO,oO,oO,rfl,sF1 f0,sF1 f1,sF1 fI,sS,rfl,hmo oO (by rw[hP];simp[P9])⟩
  .clear hJJ
   (apply bI;simp[P9];refine zJ hJ ?_)
   refine xw0 ?_;exact⟨trivial,kk,oO,oO,oO,sF1 f0,sF1 f1,sF1 fI,sF1 fJ,by trivial,Q9,fun _=>by rw[hy,hP];simp[P9]⟩
 clear f0 f1 fI fJ Q9 fr;rintro fr st2 ⟨kk,hak,hkj,hik,f0,f1,fI,fJ,rfl,Q9,U9⟩;by_cases u7:ii<=kk;rotate_left
 .clear hJ0
  (repeat' (first|apply qS|refine qX (zZ ?_)|(refine qR (zZ ?_);simp[f0,f1,fI,fJ,u7])|(apply qC;simp[f0,f1,fI,fJ,u7];(try with_reducible intro hc))|(refine zE ?_;intro J hJ;simp[f0,f1,fI,fJ,u7];refine zJ hJ ?_)))
  refine⟨c,ii,rfl,rfl,r9,oO,oO,fun p h1 h2=>?_,fun p h1 h2=>?_⟩
  .by_cases e:p=a
   .rw[e,hx];exact aDd _
   .have:=R7 p oO h2;rw[hPd]at this;simpa using this
  .have:=Q9 p oO h2;rw[hPd]at this;simpa using this
 have hik2:ii<kk:=by
  rcases aAS ii kk with h|h
  .exact h
  .exfalso;have e:ii=kk:=oO;have h1:=I2 oO;have h2:=U9 u7;rw[e,h2]at h1;cases h1
 have hLo2:=R7.swp hik2 oO (U9 u7);have hHi2:=Q9.swp hik2 oO (I2 oO);have L3:=r9.step ii kk oO oO oO oO oO;have hxx:(sw c ii kk).getD a 0=x:=by rw[cP _ _ _ _ oO oO,aAa oO,aAa oO];exact hx
 have hli:ii<l.length:=oO;have Z4:kk<l.length:=oO;have y9:=qG c ii oO;have K8:=qG c kk oO;have K9:=fun x y=>nF st q c ii kk (x:=x) (y:=y) oO oO;have hia:=qN ii oO;have hka:=aT kk oO oO;clear I2 U9;generalize hy1:c.getD ii 0=y1 at *;generalize V4:c.getD kk 0=y2 at *;have J7:=K9 y1 y2 rfl rfl
 (repeat' (first|apply qS|refine qK (zZ ?_)|(apply qC;simp[f0,f1,fI,fJ,u7];(try with_reducible refine⟨?_,?_⟩)<;>(try with_reducible intro hc)<;>try (exfalso;omega))|(refine zE ?_;intro J hJ;simp[f0,f1,fI,fJ,u7];refine zJ hJ ?_)))
 (refine zS [] [q] [0,2,4,6,8,10,12,14,16,18,20,22,24,27,28,31] ?_;intro J hJ;simp[f0,f1,fI,fJ,hli,Z4,o7,y9,K8];(repeat refine ca ?_);refine zJ hJ ?_)
 refine xw4 fI fJ hia hka ?_;exact hJ0 (kk-1) _ _ oO ⟨ii+1,kk-1,sw c ii kk,oO,oO,oO,rfl,sF1 f0,sF1 f1,sS,sS,J7,L3,hxx,hLo2,hHi2⟩
def rG(l:List Int)(a b:Nat):Prop:=0<a->∀ j,a<=j->j<b->l.getD (a-1) 0<=l.getD j 0
theorem rG.pm{l c:List Int}{a b:Nat}(h:rG l a b)(k:Pm a b l c):rG c a b:=by intro h0 j h1 h2;rw[k.out (a-1) oO];exact k.all (fun x=>l.getD (a-1) 0<=x) (fun j h1 h2=>h h0 j h1 h2) j h1 h2
def YA(c:List Int)(k b:Nat):Prop:=k<b->c.getD k 0<c.getD (k-1) 0
def Yg(p:Bool)(a b:Nat)(c:List Int):Prop:=p=true->Srt a b c
def UA(q a b k j:Nat)(l:List Int)(st:St)(fr:Frm)(st2:St):Prop:=∃ c:List Int,fr 0=.ms q 0 l.length/\fr 1=i a/\fr 2=i b/\fr 7=i k/\fr 8=i j/\st2=bx st q c/\Pm a b l c/\Srt a k c
theorem partialInsertionSort(l:List Int)(q a b:Nat)(st:St)(hl:small l)(ha:a<b)(hb:b<=l.length)(hah:rG l a b)(hH:st.H q=.box 34 1 (us l)):
 aB prog 125 [.ms q 0 l.length,i a,i b] st fun r st'=>∃ c p,r=bb p/\st'=bx st q c/\Pm a b l c/\Yg p a b c:=by
 unfold small at hl;refine zN func125 ntmps125 [.tmp 6] ?_;have hw0:=qN a oO;refine xw1 hw0 ?_;refine qL (fun n fr st2=>∃(j k:Nat) (c:List Int),j<=5/\n=5-j/\a<k/\k<=b/\fr 0=.ms q 0 l.length/\fr 1=i a/\fr 2=i b/\fr 7=i k/\fr 8=i j/\st2=bx st q c/\Pm a b l c/\Srt a k c) 5 ?_ ?_
 .exact⟨0,a+1,l,oO,rfl,oO,oO,sS,sS,sS,sS,sS,vT hH,.refl,fun p q h1 h2 h3=>by omega⟩
 rintro n fr st2 ⟨j,k,c,hj,rfl,hak,hkb,f0,f1,f2,f7,f8,rfl,r9,hs⟩ J0 hJ0;by_cases hj5:(j:Int)<5;rotate_left
 .clear hJ0;refine xw2 f8 hj5 ?_;exact⟨c,rfl,r9,fun h=>by cases h⟩
 have o7:=r9.len
 (repeat (apply qS));(refine zE ?_;intro J hJ;simp[f8,hj5];refine zJ hJ ?_)
 (apply qC;simp[])
 refine qK (zZ ?_);apply qS;apply qB;apply qS;refine cD (fun fr st2=>∃ k:Nat,a<k/\k<=b/\fr 0=.ms q 0 l.length/\fr 1=i a/\fr 2=i b/\fr 7=i k/\fr 8=i j/\st2=bx st q c/\Srt a k c/\YA c k b) ?_ ?_
 .apply qB;refine qL (fun n fr st2=>∃ k:Nat,n=b-k/\a<k/\k<=b/\fr 0=.ms q 0 l.length/\fr 1=i a/\fr 2=i b/\fr 7=i k/\fr 8=i j/\st2=bx st q c/\Srt a k c) (b-k) ?_ ?_
  .exact⟨k,rfl,hak,hkb,sF1 f0,sF1 f1,sF1 f2,sF1 f7,sF1 f8,rfl,hs⟩
  clear f0 f1 f2 f7 f8 hs hak hkb fr k;rintro n fr st2 ⟨k,rfl,hak,hkb,f0,f1,f2,f7,f8,rfl,hs⟩ JJ hJJ;by_cases dG:k<b;rotate_left
  .clear hJJ
   (repeat (apply qS));(refine zS [] [q] [0,2,4,6,8,10,12,14,16,18,20,22,24,27,28,30] ?_;intro J hJ;simp[f0,f2,f7,dG];refine zJ hJ ?_)
   refine xw0 ?_;exact⟨trivial,k,oO,oO,sF1 f0,sF1 f1,sF1 f2,sF1 f7,sF1 f8,by trivial,hs,fun h=>absurd h dG⟩
  have w1:=qN k oO;have w2:=aT k oO oO;have y9:=qG c k oO;have K8:=qG c (k-1) oO;have hl1:k<l.length:=oO;have hl2:k-1<l.length:=oO;have j5:=hs.ins.done oO;generalize hx:c.getD k 0=x at *;generalize hy:c.getD (k-1) 0=y at *
  (repeat (apply qS));(refine zS [] [q] [0,2,4,6,8,10,12,14,16,18,20,22,24,27,28,30] ?_;intro J hJ;simp[f0,f2,f7,dG,w2,hl1,hl2,o7,y9,K8])
  refine aN (vF x y _) ?_;rintro r s2 ⟨rfl,rfl⟩;refine⟨fun _=>by simp,?_⟩;by_cases G8:x<y
  .clear hJJ
   (apply bI;simp[G8];refine zJ hJ ?_)
   refine xw0 ?_;exact⟨trivial,k,oO,oO,sF1 f0,sF1 f1,sF1 f2,sF1 f7,sF1 f8,by trivial,hs,fun h=>by rw[hx,hy];exact G8⟩
  ·(apply bI;simp[G8];refine zJ hJ ?_)
   refine xw2 f7 w1 ?_;exact hJJ (b-(k+1)) _ _ oO ⟨k+1,rfl,oO,oO,sF1 f0,sF1 f1,sF1 f2,sS,sF1 f8,rfl,j5 (.inr G8)⟩
 clear f0 f1 f2 f7 f8 hs hak hkb fr k;rintro fr st2 ⟨k,hak,hkb,f0,f1,f2,f7,f8,rfl,hs,hfall⟩;by_cases hkb2:k=b
 .clear hJ0;have hkb3:(k:Int)=(b:Int):=oO;refine xw3 f2 f7 hkb3 ?_;exact⟨c,rfl,r9,fun _=>by rw[<- hkb2];exact hs⟩
 have hkb3:¬(k:Int)=(b:Int):=oO;have w1:IntKind.i64.wrap ((b:Int)-(a:Int))=(b:Int)-(a:Int):=zW;by_cases h50:(b:Int)-(a:Int)<50
 .clear hJ0;refine xw6 f1 f2 f7 hkb3 w1 h50 ?_;exact⟨c,rfl,r9,fun h=>by cases h⟩
 have w2:=aT k oO oO;have y9:=qG c k oO;have K8:=qG c (k-1) oO;have hl1:k<l.length:=oO;have hl2:k-1<l.length:=oO;have K9:=fun x y=>nF st q c k (k-1) (x:=x) (y:=y) oO oO;have Z6:Srt a (k-1) (sw c k (k-1)):=by intro p q h1 h2 h3;rw[cP _ _ _ _ oO oO,cP _ _ _ _ oO oO,aAa oO,aAa oO,aAa oO,aAa oO];exact hs p q h1 h2 oO
 have W4:=r9.step k (k-1) oO oO oO oO oO;generalize hx:c.getD k 0=x at *;generalize hy:c.getD (k-1) 0=y at *;have J7:=K9 x y rfl rfl;refine xw6 f1 f2 f7 hkb3 w1 h50 ?_
 (refine zS [] [q] [0,2,4,6,8,10,12,14,16,18,20,22,24,26,28,31,32,35] ?_;intro J hJ;simp[f0,f7,w2,hl1,hl2,o7,y9,K8];(repeat refine ca ?_);refine zJ hJ ?_)
 rw[J7];clear K9 J7 y9 K8 hx hy hs hfall;generalize hc1:sw c k (k-1)=c1 at *;have hcl1:=W4.len;clear hc1 r9 o7 c;have w3:IntKind.i64.wrap ((k:Int)-(a:Int))=(k:Int)-(a:Int):=zW;apply qS;refine cD (UA q a b k j l st) ?_ ?_
 .by_cases o8:(2:Int)<=(k:Int)-(a:Int);rotate_left
  .refine xw4 f1 f7 w3 o8 ?_;refine⟨by trivial,?_⟩;unfold UA;exact⟨c1,sF1 f0,sF1 f1,sF1 f2,sF1 f7,sF1 f8,by trivial,W4,fun p q h1 h2 h3=>by omega⟩
  refine xw5 f1 f7 w3 o8 w2 ?_;refine qL (fun n fr st2=>∃(m:Nat) (c:List Int),a<=m/\m<=k-1/\m=n/\fr 0=.ms q 0 l.length/\fr 1=i a/\fr 2=i b/\fr 7=i k/\fr 8=i j/\fr 9=i m/\st2=bx st q c/\Pm a b l c/\Ins a m (k-1) c) (k-1) ?_ ?_
  .exact⟨k-1,c1,oO,oO,rfl,sF1 f0,sF1 f1,sF1 f2,sF1 f7,sF1 f8,sS,rfl,W4,Z6.ins⟩
  clear f0 f1 f2 f7 f8 W4 Z6 hcl1 c1 fr;rintro n fr st2 ⟨m,c,ham,hmk,rfl,f0,f1,f2,f7,f8,f9,rfl,r9,hI⟩ JJ hJJ;have o7:=r9.len;have c8:k-1+1=k:=oO;by_cases hm1:(1:Int)<=(m:Int);rotate_left
  .clear hJJ;refine xw2 f9 hm1 ?_;refine⟨by trivial,?_⟩;unfold UA;refine⟨c,sF1 f0,sF1 f1,sF1 f2,sF1 f7,sF1 f8,by trivial,r9,?_⟩;have:=hI.done ham (.inl oO);rwa [c8]at this
  have w4:=aT m oO oO;have y9:=qG c m oO;have K8:=qG c (m-1) oO;have hl3:m<l.length:=oO;have hl4:m-1<l.length:=oO;have K9:=fun x y=>nF st q c m (m-1) (x:=x) (y:=y) oO oO;have hahm:m=a->¬c.getD m 0<c.getD (m-1) 0:=by rintro rfl;have:=hah.pm r9 oO m oO oO;omega
  have hdone:=hI.done ham;rw[c8]at hdone;have H8:=fun h=>hI.step h hmk oO;generalize hx:c.getD m 0=x at *;generalize hy:c.getD (m-1) 0=y at *;have J7:=K9 x y rfl rfl;refine xw2 f9 hm1 ?_
  (refine zS [] [q] [0,2,4,6,8,10,12,14,16,19,20] ?_;intro J hJ;simp[f0,f9,w4,hl3,hl4,o7,y9,K8])
  refine aN (vF x y _) ?_;rintro r s2 ⟨rfl,rfl⟩;refine⟨fun _=>by simp,?_⟩;by_cases G8:x<y;rotate_left
  .clear hJJ
   (apply bI;simp[G8];refine zJ hJ ?_)
   refine xw0 ?_;refine⟨by trivial,?_⟩;unfold UA;exact⟨c,sF1 f0,sF1 f1,sF1 f2,sF1 f7,sF1 f8,by trivial,r9,hdone (.inr G8)⟩
  have hma:a<m:=by
   rcases aAS a m with h|h
   .exact h
   .exact absurd G8 (hahm oO)
  have L3:=r9.step m (m-1) oO oO oO oO oO
  (apply bI;simp[G8];refine zJ hJ ?_)
  refine xw0 ?_
  (refine zS [] [q] [0,2,4,6,8,10,12,14,16,18,20,22,24,26,28,31,32,35] ?_;intro J hJ;simp[f0,f9,w4,hl3,hl4,o7,y9,K8];(repeat refine ca ?_);refine zJ hJ ?_)
  refine xw2 f9 w4 ?_;exact hJJ (m-1) _ _ oO ⟨m-1,sw c m (m-1),oO,oO,rfl,sF1 f0,sF1 f1,sF1 f2,sF1 f7,sF1 f8,sS,J7,L3,H8 hma G8⟩
 clear f0 f1 f2 f7 f8 W4 Z6 hcl1 c1 fr;rintro fr st2 ⟨c,f0,f1,f2,f7,f8,rfl,r9,hs⟩;have o7:=r9.len;have w5:IntKind.i64.wrap ((b:Int)-(k:Int))=(b:Int)-(k:Int):=zW;have w6:=qN j oO;have w7:=qN k oO;by_cases o8:(2:Int)<=(b:Int)-(k:Int);rotate_left
 .refine xw6 f2 f7 w5 o8 f8 w6 ?_;exact hJ0 (5-(j+1)) _ _ oO ⟨j+1,k,c,oO,rfl,hak,hkb,sF1 f0,sF1 f1,sF1 f2,sF1 f7,sS,rfl,r9,hs⟩
 refine xw5 f2 f7 w5 o8 w7 ?_;refine qL (fun n fr st2=>∃(m:Nat) (c:List Int),k<m/\m<=b/\n=b-m/\fr 0=.ms q 0 l.length/\fr 1=i a/\fr 2=i b/\fr 7=i k/\fr 8=i j/\fr 10=i m/\st2=bx st q c/\Pm a b l c/\Srt a k c) (b-(k+1)) ?_ ?_
 .exact⟨k+1,c,oO,oO,rfl,sF1 f0,sF1 f1,sF1 f2,sF1 f7,sF1 f8,sS,rfl,r9,hs⟩
 clear f0 f1 f2 f7 f8 r9 hs o7 c fr;rintro n fr st2 ⟨m,c,hkm,Z5,rfl,f0,f1,f2,f7,f8,f10,rfl,r9,hs⟩ JJ hJJ;have o7:=r9.len;by_cases dG:m<b;rotate_left
 .clear hJJ;refine xw5 f2 f10 dG f8 w6 ?_;exact hJ0 (5-(j+1)) _ _ oO ⟨j+1,k,c,oO,rfl,hak,hkb,sF1 f0,sF1 f1,sF1 f2,sF1 f7,sS,rfl,r9,hs⟩
 have w4:=aT m oO oO;have w8:=qN m oO;have y9:=qG c m oO;have K8:=qG c (m-1) oO;have hl3:m<l.length:=oO;have hl4:m-1<l.length:=oO;have K9:=fun x y=>nF st q c m (m-1) (x:=x) (y:=y) oO oO;have L3:=r9.step m (m-1) oO oO oO oO oO;have X0:Srt a k (sw c m (m-1)):=by intro p q h1 h2 h3;rw[cP _ _ _ _ oO oO,cP _ _ _ _ oO oO,aAa oO,aAa oO,aAa oO,aAa oO];exact hs p q h1 h2 oO
 generalize hx:c.getD m 0=x at *;generalize hy:c.getD (m-1) 0=y at *;have J7:=K9 x y rfl rfl;refine xw3 f2 f10 dG ?_
 (refine zS [] [q] [0,2,4,6,8,10,12,14,16,19,20] ?_;intro J hJ;simp[f0,f10,w4,hl3,hl4,o7,y9,K8])
 refine aN (vF x y _) ?_;rintro r s2 ⟨rfl,rfl⟩;refine⟨fun _=>by simp,?_⟩;by_cases G8:x<y;rotate_left
 .clear hJJ
  (apply bI;simp[G8];refine zJ hJ ?_)
  refine xw2 f8 w6 ?_;exact hJ0 (5-(j+1)) _ _ oO ⟨j+1,k,c,oO,rfl,hak,hkb,sF1 f0,sF1 f1,sF1 f2,sF1 f7,sS,rfl,r9,hs⟩
 (apply bI;simp[G8];refine zJ hJ ?_)
 refine xw0 ?_
 (refine zS [] [q] [0,2,4,6,8,10,12,14,16,18,20,22,24,26,28,31,32,35] ?_;intro J hJ;simp[f0,f10,w4,hl3,hl4,o7,y9,K8];(repeat refine ca ?_);refine zJ hJ ?_)
 refine xw2 f10 w8 ?_;exact hJJ (b-(m+1)) _ _ oO ⟨m+1,sw c m (m-1),oO,oO,rfl,sF1 f0,sF1 f1,sF1 f2,sF1 f7,sF1 f8,sS,J7,L3,X0⟩
abbrev ix(st:St)(p:Nat)(s:Int):St:=st.set p (.box 3 1 [i s])
theorem LX{st:St}{p:Nat}{s:Int}(h:st.H p=.box 3 1 [i s]):st=ix st p s:=
 St.ext' rfl fun x=>by by_cases hx:x=p<;>simp[hx,h]
theorem MQ(st:St)(p:Nat)(s s':Int):ix (ix st p s) p s'=ix st p s':=St.set_set _ _ _ _
theorem order2(l:List Int)(q p a b:Nat)(s:Int)(st:St)(hl:small l)(ha:a<l.length)(hb:b<l.length)(hpq:q≠p)(hH:st.H q=.box 34 1 (us l))(hp:st.H p=.box 3 1 [i s]):
 aB prog 190 [.ms q 0 l.length,i a,i b,.pt p 0] st fun r st'=>∃(x y:Nat) (s':Int),r=.tu [i x,i y]/\st'=ix st p s'/\((x=a/\y=b)\/(x=b/\y=a)):=by
 unfold small at hl;have y9:=qG l a ha;have K8:=qG l b hb;generalize l.getD a 0=x at *;generalize l.getD b 0=y at *;refine zN func190 ntmps190 [.tmp 8,.tmp 9] ?_
 (repeat (apply qS));(refine zE ?_;intro J hJ;simp[];refine zJ hJ ?_)
 (repeat (apply qS));(refine zS [] [q] [0,2,4,6,8,10,12,14,17] ?_;intro J hJ;simp[hH,ha,hb,y9,K8])
 refine aN (vF y x _) ?_;rintro r s2 ⟨rfl,rfl⟩;refine⟨fun _=>by simp[hH],?_⟩;by_cases P9:y<x
 ·(apply bI;simp[P9];refine zJ hJ ?_)
  refine xw1 hp ?_;exact⟨b,a,⟨rfl,rfl⟩,⟨_,rfl⟩,.inr ⟨rfl,rfl⟩⟩
 ·(apply bI;simp[P9];refine zJ hJ ?_)
  refine xw0 ?_;exact⟨a,b,⟨rfl,rfl⟩,⟨s,LX hp⟩,.inl ⟨rfl,rfl⟩⟩
theorem median(l:List Int)(q p a b c:Nat)(s:Int)(st:St)(hl:small l)(ha:a<l.length)(hb:b<l.length)(hc:c<l.length)(hpq:q≠p)(hH:st.H q=.box 34 1 (us l))(hp:st.H p=.box 3 1 [i s]):
 aB prog 167 [.ms q 0 l.length,i a,i b,i c,.pt p 0] st fun r st'=>∃(x:Nat) (s':Int),r=i x/\st'=ix st p s'/\(x=a\/x=b\/x=c):=by
 refine zN func167 ntmps167 [.tmp 10] ?_
 (refine xj0 ?_;intro J hJ)
 refine qF (order2 l q p a b s _ hl ha hb hpq hH hp) ?_;rintro r st' ⟨x,y,s1,rfl,rfl,h1⟩
 (refine mS hJ ?_;intro J hJ)
 refine qF (order2 l q p y c s1 _ hl oO hc hpq (sF2 hpq hH) sS) ?_;rintro r st' ⟨x2,y2,s2,rfl,rfl,h2⟩
 (refine mS hJ ?_;intro J hJ)
 refine qF (order2 l q p x x2 s2 _ hl oO oO hpq (sF2 hpq hH) sS) ?_;rintro r st' ⟨x3,y3,s3,rfl,rfl,h3⟩;refine dA hJ ?_;refine⟨y3,rfl,⟨s3,?_⟩,oO⟩;rw[MQ,MQ]
theorem medianAdjacent(l:List Int)(q p a:Nat)(s:Int)(st:St)(hl:small l)(h0:0<a)(ha:a+1<l.length)(hpq:q≠p)(hH:st.H q=.box 34 1 (us l))(hp:st.H p=.box 3 1 [i s]):
 aB prog 166 [.ms q 0 l.length,i a,.pt p 0] st fun r st'=>∃(x:Nat) (s':Int),r=i x/\st'=ix st p s'/\a-1<=x/\x<=a+1:=by
 have K3:=hl;unfold small at K3;have w1:=qN a oO;have w2:=aT a oO oO;refine zN func166 ntmps166 [.tmp 6] ?_
 (refine xj2 w1 w2 ?_;intro J hJ)
 refine qF (median l q p (a-1) a (a+1) s _ hl oO oO oO hpq hH hp) ?_;rintro r st' ⟨x,s1,rfl,rfl,h1⟩;refine dA hJ ?_;exact⟨x,rfl,⟨s1,rfl⟩,oO⟩
def Xt(q n a b:Nat)(st:St)(fr:Frm)(st2:St):Prop:=∃(j1 j2 j3:Nat) (s:Int),fr 0=.ms q 0 n/\fr 9=.pt st.next 0/\fr 10=i j1/\fr 11=i j2/\fr 12=i j3/\a<=j1/\j1<b/\a<=j2/\j2<b/\a<=j3/\j3<b/\st2=ix (st.new (.box 3 1 [i 0])) st.next s
theorem choosePivot(l:List Int)(q a b:Nat)(st:St)(hl:small l)(v8:a+8<=b)(hb:b<=l.length)(V6:q<st.next)(hH:st.H q=.box 34 1 (us l)):
 aB prog 123 [.ms q 0 l.length,i a,i b] st fun r st'=>∃(x:Nat) (h:Int),r=.tu [i x,i h]/\a<=x/\x<b/\aA st st':=by
 have K3:=hl;unfold small at K3;obtain⟨n,hn⟩:∃ n:Nat,n=b-a:=⟨_,rfl⟩;obtain⟨n4,hn4⟩:∃ m:Nat,m=n / 4:=⟨_,rfl⟩;obtain⟨k1,c8⟩:∃ m:Nat,m=a+n4:=⟨_,rfl⟩;obtain⟨k2,o8⟩:∃ m:Nat,m=a+n4*2:=⟨_,rfl⟩;obtain⟨k3,u5⟩:∃ m:Nat,m=a+n4*3:=⟨_,rfl⟩;have w1:IntKind.i64.wrap ((b:Int)-(a:Int))=(n:Int):=zW;have w2:IntKind.i64.wrap ((n:Int) / 4)=(n4:Int):=by rw[show(n:Int) / 4=((n / 4:Nat):Int) from rfl,<- hn4];exact wrap_i64 _ oO oO
 have w3:IntKind.i64.wrap (n4:Int)=(n4:Int):=zW;have w4:IntKind.i64.wrap ((n4:Int)*2)=((n4*2:Nat):Int):=zW;have w5:IntKind.i64.wrap ((n4:Int)*3)=((n4*3:Nat):Int):=zW;have w6:IntKind.i64.wrap ((a:Int)+(n4:Int))=(k1:Int):=zW;have w7:IntKind.i64.wrap ((a:Int)+((n4*2:Nat):Int))=(k2:Int):=zW;have w8:IntKind.i64.wrap ((a:Int)+((n4*3:Nat):Int))=(k3:Int):=zW;have h8:(8:Int)<=(n:Int):=oO;have hqn':q≠st.next:=oO;generalize ((n4*2:Nat):Int)=e2 at *;generalize ((n4*3:Nat):Int)=e3 at *;refine zN func123 ntmps123 [.tmp 6,.tmp 7] ?_
 (repeat' (first|apply qS|(refine zE ?_;intro J hJ;simp[w1,w2,w3,w4,w5,w6,w7,w8,h8];(refine zJ hJ ?_;clear hJ J))))
 apply qC;simp[h8];apply qS;refine cD (Xt q l.length a b st) ?_ ?_
 .by_cases h50:(50:Int)<=(n:Int)
  ·(refine xj1 h50 ?_;intro J hJ)
   refine qF (medianAdjacent l q st.next k1 0 _ hl oO oO hqn' (sF2 hqn' hH) sS) ?_;rintro r st' ⟨x1,s1,rfl,rfl,h1⟩
   (refine mS hJ ?_;intro J hJ)
   refine qF (medianAdjacent l q st.next k2 s1 _ hl oO oO hqn' (sF2 hqn' hH) sS) ?_;rintro r st' ⟨x2,s2,rfl,rfl,h2⟩
   (refine mS hJ ?_;intro J hJ)
   refine qF (medianAdjacent l q st.next k3 s2 _ hl oO oO hqn' (sF2 hqn' hH) sS) ?_;rintro r st' ⟨x3,s3,rfl,rfl,h3⟩;refine dA hJ ?_;refine⟨by trivial,?_⟩;unfold Xt;exact⟨x1,x2,x3,s3,sS,sS,sS,sS,sS,oO,oO,oO,oO,oO,oO,by rw[MQ,MQ]⟩
  .refine xw1 h50 ?_;refine⟨by trivial,?_⟩;unfold Xt;exact⟨k1,k2,k3,0,sS,sS,sS,sS,sS,oO,oO,oO,oO,oO,oO,LX sS⟩
 rintro fr st2 ⟨j1,j2,j3,s,f0,f9,f10,f11,f12,h1,h2,h3,h4,h5,h6,rfl⟩
 (refine xj5 f0 f9 f10 f11 f12 ?_;intro J hJ)
 refine qF (median l q st.next j1 j2 j3 s _ hl oO oO oO hqn' (sF2 hqn' hH) sS) ?_;rintro r st' ⟨x,s1,rfl,rfl,hx⟩;have o9:aA st (ix (ix (st.new (.box 3 1 [i 0])) st.next s) st.next s1):=((aA.new _ _).set (aAm _) _).set (aAm _) _;have hax:a<=x/\x<b:=oO
 (repeat' (first|apply qS|apply qB|(refine qR (zZ ?_);simp[f9])|(apply qC;simp[f9];(try with_reducible refine⟨?_,?_⟩)<;>(try with_reducible intro hc))|((first|(refine zE ?_;intro J hJ)|(apply cS));simp[f9];(refine zJ hJ ?_;clear hJ J))))
 all_goals exact⟨x,rfl,hax.1,hax.2,o9⟩
abbrev uw(n:Int):LV:=.atom (.int .u64 n)
def iN(m:Nat):Nat:=if m=0 then 0 else Nat.log2 m+1
def lR(n:Nat):Nat:=if 256<=n then 8+iN (n / 256)else iN n
theorem wrap_u64(n:Int)(h1:0<=n)(h2:n<18446744073709551616):IntKind.u64.wrap n=n:=by
 grind [IntKind.wrap,IntKind.signed,IntKind.bits]
theorem wrap_u8(n:Int)(h1:0<=n)(h2:n<256):IntKind.u8.wrap n=n:=by
 grind [IntKind.wrap,IntKind.signed,IntKind.bits]
abbrev Bq:ByteArray:={ data:=((List.append [0,1,2,2,3,3,3,3,4,4,4,4,4,4,4,4,5,5,5,5,5,5,5,5,5,5,5,5,5,5,5,5,6,6,6,6,6,6,6,6,6,6,6,6,6,6,6,6,6,6,6,6,6,6,6,6,6,6,6,6,6,6,6,6] [7,7,7,7,7,7,7,7,7,7,7,7,7,7,7,7,7,7,7,7,7,7,7,7,7,7,7,7,7,7,7,7,7,7,7,7,7,7,7,7,7,7,7,7,7,7,7,7,7,7,7,7,7,7,7,7,7,7,7,7,7,7,7,7]).append (List.append [8,8,8,8,8,8,8,8,8,8,8,8,8,8,8,8,8,8,8,8,8,8,8,8,8,8,8,8,8,8,8,8,8,8,8,8,8,8,8,8,8,8,8,8,8,8,8,8,8,8,8,8,8,8,8,8,8,8,8,8,8,8,8,8] [8,8,8,8,8,8,8,8,8,8,8,8,8,8,8,8,8,8,8,8,8,8,8,8,8,8,8,8,8,8,8,8,8,8,8,8,8,8,8,8,8,8,8,8,8,8,8,8,8,8,8,8,8,8,8,8,8,8,8,8,8,8,8,8])).toArray }
theorem OZ:∀ m:Fin 256,((Bq[m.val]?).isSome=true/\((Bq[m.val]?).getD 0).toNat=iN m.val):=by decide +kernel
theorem rU:∀ m:Fin 256,iN m.val<=8/\(0<m.val->m.val<2 ^ iN m.val/\2 ^ iN m.val<=2*m.val):=by decide +kernel
theorem GO(n:Nat)(hn:n<65536):lR n<=16/\(0<n->n<2 ^ lR n/\2 ^ lR n<=2*n):=by
 unfold lR;by_cases h:256<=n
 .rw[aAj h];have h1:=rU ⟨n / 256,oO⟩
  grind
 .rw[aAa h];have h1:=rU ⟨n,oO⟩
  grind
theorem YT(n:Nat)(st:St)(hn:n<65536):aB prog 130 [uw n] st fun r st'=>r=i (lR n)/\st'=st:=by
 refine zN func130 ntmps130 [.tmp 2] ?_;have h1:¬(4294967296:Int)<=(n:Int):=oO;have h2:¬(65536:Int)<=(n:Int):=oO;have hs:∀ m,m<256->(Bq[m]?).isSome=true/\((Bq[m]?).getD 0).toNat=iN m:=fun m h=>OZ ⟨m,h⟩;generalize hq:({ data:=((List.append [0,1,2,2,3,3,3,3,4,4,4,4,4,4,4,4,5,5,5,5,5,5,5,5,5,5,5,5,5,5,5,5,6,6,6,6,6,6,6,6,6,6,6,6,6,6,6,6,6,6,6,6,6,6,6,6,6,6,6,6,6,6,6,6] [7,7,7,7,7,7,7,7,7,7,7,7,7,7,7,7,7,7,7,7,7,7,7,7,7,7,7,7,7,7,7,7,7,7,7,7,7,7,7,7,7,7,7,7,7,7,7,7,7,7,7,7,7,7,7,7,7,7,7,7,7,7,7,7]).append (List.append [8,8,8,8,8,8,8,8,8,8,8,8,8,8,8,8,8,8,8,8,8,8,8,8,8,8,8,8,8,8,8,8,8,8,8,8,8,8,8,8,8,8,8,8,8,8,8,8,8,8,8,8,8,8,8,8,8,8,8,8,8,8,8,8] [8,8,8,8,8,8,8,8,8,8,8,8,8,8,8,8,8,8,8,8,8,8,8,8,8,8,8,8,8,8,8,8,8,8,8,8,8,8,8,8,8,8,8,8,8,8,8,8,8,8,8,8,8,8,8,8,8,8,8,8,8,8,8,8])).toArray }:ByteArray)=s;rw[show Bq=s from hq]at hs;clear hq;by_cases h3:(256:Int)<=(n:Int)
 .obtain⟨m,hm⟩:∃ m,m=n / 256:=⟨_,rfl⟩;have w1:(n:Int).fdiv (2 ^ min 8 IntKind.u64.bits)=(m:Int):=by show(n:Int).fdiv 256=(m:Int);rw[Int.fdiv_eq_ediv_of_nonneg _ oO];omega
  have w2:=wrap_u8 m oO oO;have hb:lR n=8+iN m:=by unfold lR;rw[aAj oO,hm]
  have h4:iN m<=8:=(rU ⟨m,oO⟩).1;have hm2:=hs m oO;have hz:m<s.size:=by simpa using hm2.1
  have hv:=hm2.2;rw[hb];generalize iN m=e at *;have w3:IntKind.i64.wrap (8+(e:Int))=((8+e:Nat):Int):=zW;have w4:IntKind.i64.wrap (e:Int)=(e:Int):=by rw[wrap_i64 _ oO oO]
  have w5:IntKind.i64.wrap (8:Int)=8:=rfl;simp[hz]at hv
  (repeat' (first|apply qS|refine qK (zZ ?_)|(refine qR (zZ ?_);simp[h1,h2,h3,OX,w1,w2,hz,hv,w3,w4,w5])|(apply qC;simp[h1,h2,h3,OX,w1,w2,hz,hv,w3,w4,w5])|(refine zE ?_;intro J hJ;simp[h1,h2,h3,OX,w1,w2,hz,hv,w3,w4,w5];refine zJ hJ ?_)))
 .have w2:=wrap_u8 n oO oO;have hb:lR n=iN n:=by unfold lR;rw[aAa oO]
  have h4:iN n<=8:=(rU ⟨n,oO⟩).1;have hm2:=hs n oO;have hz:n<s.size:=by simpa using hm2.1
  have hv:=hm2.2;rw[hb];generalize iN n=e at *;have w4:IntKind.i64.wrap (e:Int)=(e:Int):=by rw[wrap_i64 _ oO oO]
  simp[hz]at hv;exact xv7 h1 h2 h3 w2 hz hv w4
theorem Len(n:Nat)(st:St)(hn:n<65536):aB prog 85 [uw n] st fun r st'=>r=i (lR n)/\st'=st:=by
 refine zN func85 ntmps85 [.tmp 2] ?_
 (refine xj0 ?_;intro J hJ)
 refine qF (YT n _ hn) ?_;rintro r st' ⟨rfl,rfl⟩;exact OE hJ
theorem nextPowerOfTwo(n:Nat)(st:St)(hn:n<65536):aB prog 164 [i n] st fun r st'=>r=uw ((2 ^ lR n:Nat):Int)/\st'=st:=by
 have h1:=(GO n hn).1;have w1:IntKind.u64.wrap (n:Int)=(n:Int):=wrap_u64 _ oO oO;have w2:FN .u64 1 (lR n)=((2 ^ lR n:Nat):Int):=by
  unfold FN;have h2:(2:Nat) ^ lR n<=2 ^ 16:=aEs oO h1;have h3:min ((lR n:Int).toNat) IntKind.u64.bits=lR n:=by simp[IntKind.bits];omega
  rw[h3,Int.one_mul];rw[show((2:Int) ^ lR n)=((2 ^ lR n:Nat):Int) by simp];generalize (2:Nat) ^ lR n=z at *;exact wrap_u64 _ oO oO
 refine zN func164 ntmps164 [.tmp 2] ?_
 (refine xj1 w1 ?_;intro J hJ)
 refine qF (Len n _ hn) ?_;rintro r st' ⟨rfl,rfl⟩;generalize ((2 ^ lR n:Nat):Int)=e2 at *;exact NL hJ w2
abbrev xx(st:St)(p:Nat)(s:Int):St:=st.set p (.box 184 1 [uw s])
theorem YZ(p:Nat)(s:Int)(st:St)(hp:st.H p=.box 184 1 [uw s]):aB prog 165 [.pt p 0] st fun r st'=>∃ s',r=uw s'/\st'=xx st p s':=by
 refine zN func165 ntmps165 [.tmp 2] ?_
 (repeat (apply qS));(refine zE ?_;intro J hJ;simp[];refine zJ hJ ?_)
 (repeat (apply qS));(refine zS [] [p] [0,2,4,6,8,10,12,14,16,19] ?_;intro J hJ;simp[hp];refine zJ hJ ?_)
 generalize Sg _ _ _=s1
 (repeat (apply qS));(refine zS [] [p] [0,2,4,6,8,10,12,14,16,19] ?_;intro J hJ;simp[hp];refine zJ hJ ?_)
 generalize Sg _ _ _=s2
 (repeat (apply qS));(refine zS [] [p] [0,2,4,6,8,10,12,14,16,19] ?_;intro J hJ;simp[hp];refine zJ hJ ?_)
 generalize Sg _ _ _=s3;refine xw0 ?_
 grind [St.set_set]
theorem UU(s:Int)(m:Nat)(h0:0<m)(hm:m<=131072):∃ o:Nat,o<m/\wM .u64 s (((m-1:Nat)):Int)=(o:Int):=by
 grind [wM,Nat.and_le_right,wrap_u64]
def bM(q:Nat)(st st':St):Prop:=st.next<=st'.next/\∀ l,l≠q->l<st.next->st'.H l=st.H l
theorem bM.refl(q:Nat)(st:St):bM q st st:=⟨aAm _,fun _ _ _=>rfl⟩
theorem bM.trans{q:Nat}{a b c:St}(h:bM q a b)(k:bM q b c):bM q a c:=⟨aBa h.1 k.1,fun l hl hn=>(k.2 l hl (aAr hn h.1)).trans (h.2 l hl hn)⟩
theorem bM.keeps{q:Nat}{a b c:St}(h:bM q a b)(k:aA b c):bM q a c:=⟨aBa h.1 k.next,fun l hl hn=>(k.H l (aAr hn h.1)).trans (h.2 l hl hn)⟩
theorem bM.set{q:Nat}{a b:St}(h:bM q a b)(o:cI):bM q a (b.set q o):=⟨h.1,fun l hl hn=>by rw[bU,aAa hl];exact h.2 l hl hn⟩
theorem bM.set'{q p:Nat}{a b:St}(h:bM q a b)(hp:a.next<=p)(o:cI):bM q a (b.set p o):=⟨h.1,fun l hl hn=>by rw[bU,aAa oO];exact h.2 l hl hn⟩
def VM(q p a b n m k:Nat)(l:List Int)(st:St)(fr:Frm)(st2:St):Prop:=fr 0=.ms q 0 l.length/\fr 1=i a/\fr 6=i n/\fr 7=.pt p 0/\fr 8=uw m/\fr 9=i k/\p<st2.next/\bM q st st2/\(∃ s,st2.H p=.box 184 1 [uw s])/\∃ c,st2.H q=.box 34 1 (us c)/\Pm a b l c
def C2(q p a b n m k:Nat)(l:List Int)(st:St)(fr:Frm)(st2:St):Prop:=VM q p a b n m k l st fr st2/\∃ o:Nat,o<n/\fr 10=i o
theorem breakPatterns(l:List Int)(q a b:Nat)(st:St)(hl:l.length<65536)(v8:a+8<=b)(hb:b<=l.length)(V6:q<st.next)(hH:st.H q=.box 34 1 (us l)):
 aB prog 122 [.ms q 0 l.length,i a,i b] st fun r st'=>∃ c,st'.H q=.box 34 1 (us c)/\Pm a b l c/\bM q st st':=by
 obtain⟨n,hn⟩:∃ n:Nat,n=b-a:=⟨_,rfl⟩;obtain⟨n4,hn4⟩:∃ m:Nat,m=n / 4:=⟨_,rfl⟩;obtain⟨k0,N9⟩:∃ m:Nat,m=a+n4*2:=⟨_,rfl⟩;have w1:IntKind.i64.wrap ((b:Int)-(a:Int))=(n:Int):=zW;have w2:IntKind.i64.wrap ((n:Int) / 4)=(n4:Int):=by rw[show(n:Int) / 4=((n / 4:Nat):Int) from rfl,<- hn4];exact wrap_i64 _ oO oO
 have w4:IntKind.i64.wrap ((n4:Int)*2)=((n4*2:Nat):Int):=zW;have w7:IntKind.i64.wrap ((a:Int)+((n4*2:Nat):Int))=(k0:Int):=zW;have w8:=aT k0 oO oO;obtain⟨k1,c8⟩:∃ m:Nat,m=k0+1:=⟨_,rfl⟩;have w9:IntKind.i64.wrap ((k0:Int)+1)=(k1:Int):=by rw[qN k0 oO,c8]
 have w10:IntKind.u64.wrap (n:Int)=(n:Int):=wrap_u64 _ oO oO;have h8:(8:Int)<=(n:Int):=oO;have P0:=(GO n oO).2 oO;obtain⟨m,hm⟩:∃ m:Nat,m=2 ^ lR n:=⟨_,rfl⟩;rw[<- hm]at P0;have w11:IntKind.u64.wrap ((m:Int)-1)=((m-1:Nat):Int):=by rw[wrap_u64 _ oO oO];omega
 generalize ((n4*2:Nat):Int)=e2 at *;refine zN func122 ntmps122 [] ?_
 (repeat' (first|apply qS|(refine zE ?_;intro J hJ;simp[w1];refine zJ hJ ?_)))
 apply qC;simp[h8]
 (repeat' (first|apply qS|(refine zE ?_;intro J hJ;simp[w10,w1];(try refine zJ hJ ?_))))
 refine qF (nextPowerOfTwo n _ oO) ?_;rintro r st' ⟨rfl,rfl⟩;rw[<- hm]
 (repeat' (first|apply qS|apply qB|((first|(refine zE ?_;intro J hJ)|(apply cS));simp[w2,w4,w7,w8];refine zJ hJ ?_)))
 refine qL (fun z fr st2=>∃ k:Nat,k0<=k+1/\k<=k0+2/\z=k0+2-k/\VM q st.next a b n m k l st fr st2) 3 ?_ ?_
 .refine⟨k0-1,oO,oO,oO,?_⟩;unfold VM;have Zo:¬q=st.next:=oO;refine⟨sS,sS,sS,sS,sS,sS,sS,?_,⟨n,sS⟩,l,by simp_all,.refl⟩;exact((bM.refl q st).keeps (aA.new _ _)).set' (aAm _) _
 rintro z fr st2 ⟨k,hkl,hku,rfl,f0,f1,f6,f7,f8,f9,hpn,L6,⟨s,hs⟩,c,hcq,r9⟩ JJ hJJ;have o7:=r9.len;by_cases dG:(k:Int)<=(k1:Int);rotate_left
 .clear hJJ;refine xw8 f1 f6 f9 w2 w4 w7 w9 dG ?_;exact⟨trivial,c,hcq,r9,L6⟩
 (repeat (apply qS));(refine zE ?_;intro J hJ;simp[f1,f6,f9,w2,w4,w7,w9,dG];refine zJ hJ ?_)
 apply qC;simp[dG];refine qK (zZ ?_);apply qS;apply qB;apply qS
 (refine zE ?_;intro J hJ;simp[f7])
 refine qF (YZ st.next s _ hs) ?_;rintro r st' ⟨s1,rfl,rfl⟩;obtain⟨o,ho,hgo⟩:=UU s1 m oO oO;have w12:IntKind.i64.wrap (o:Int)=(o:Int):=zW
 (apply cS;simp[f8,w11,hgo,w12];refine zJ hJ ?_)
 apply qS;refine cD (C2 q st.next a b n m k l st) ?_ ?_
 .have hqne:¬q=st.next:=oO;have hI:∀ fr2:Frm,fr2 0=fr 0->fr2 1=fr 1->fr2 6=fr 6->fr2 7=fr 7->fr2 8=fr 8->fr2 9=fr 9->VM q st.next a b n m k l st fr2 (xx st2 st.next s1):=by intro fr2 g0 g1 g6 g7 g8 g9;exact⟨by grind,by grind,by grind,by grind,by grind,by grind,by simpa using hpn,L6.set' (aAm _) _,⟨s1,sS⟩,c,sF2 hqne hcq,r9⟩
  by_cases hge:(n:Int)<=(o:Int)
  .have w13:IntKind.i64.wrap ((o:Int)-(n:Int))=((o-n:Nat):Int):=zW;refine xw3 f6 hge w13 ?_;refine⟨by trivial,?_⟩;exact⟨hI _ sS sS sS sS sS sS,o-n,oO,sS⟩
  .refine xw2 f6 hge ?_;refine⟨by trivial,?_⟩;exact⟨hI _ sS sS sS sS sS sS,o,oO,sS⟩
 clear f0 f1 f6 f7 f8 f9 hpn L6 hs hcq r9 o7 hgo w12 ho o s s1 c st2 fr;rintro fr st2 ⟨⟨f0,f1,f6,f7,f8,f9,hpn,L6,⟨s,hs⟩,c,hcq,r9⟩,o,ho,f10⟩;have o7:=r9.len;obtain⟨x,hx⟩:∃ x:Nat,x=a+o:=⟨_,rfl⟩;have w12:IntKind.i64.wrap ((a:Int)+(o:Int))=(x:Int):=zW;have w13:=qN k oO;have y9:=qG c k oO;have K8:=qG c x oO;have hl3:k<l.length:=oO;have hl4:x<l.length:=oO;have K9:=fun v y=>JZ st2 q c k x (x:=v) (y:=y) oO oO;have L3:=r9.step k x oO oO oO oO oO;generalize hv:c.getD k 0=v at *;generalize hy:c.getD x 0=y at *;have J7:=K9 v y rfl rfl
 (refine zS [] [q] [0,2,4,6,8,10,12,14,16,18,20,22,24,26,28,30,32,35,36,39] ?_;intro J hJ;simp[f0,f1,f9,f10,w12,hl3,hl4,o7,hcq,y9,K8];(repeat refine ca ?_);refine zJ hJ ?_)
 refine xw2 f9 w13 ?_;have hqne:¬st.next=q:=oO;rw[J7];exact hJJ (k0+2-(k+1)) _ _ oO ⟨k+1,oO,oO,rfl,sF1 f0,sF1 f1,sF1 f6,sF1 f7,sF1 f8,sS,by simpa using hpn,L6.set _,⟨s,sF2 hqne hs⟩,_,sS,L3⟩
theorem Srt.out{a m:Nat}{c d:List Int}(h:Srt a m c)(e:∀ j,a<=j->j<m->d.getD j 0=c.getD j 0):Srt a m d:=by intro p q h1 h2 h3;rw[e p h1 oO,e q oO h3];exact h p q h1 h2 h3
theorem _root_.Go.Proofs.YtbgngpdonpeboaaGreatDoor.Pl.cQ.pmL{c d:List Int}{a m b:Nat}(h:cQ c a m b)(k:Pm a m c d):cQ d a m b:=by unfold cQ at h ⊢;have e:d.getD m 0=c.getD m 0:=k.out m oO;rw[e];refine⟨fun p h1 h2=>k.all (fun v=>decide (v<c.getD m 0)=true) h.1 p h1 h2,fun p h1 h2=>?_⟩;rw[k.out p oO];exact h.2 p h1 h2
theorem _root_.Go.Proofs.YtbgngpdonpeboaaGreatDoor.Pl.cQ.pmR{c d:List Int}{a m b:Nat}(h:cQ c a m b)(k:Pm (m+1) b c d):cQ d a m b:=by unfold cQ at h ⊢;have e:d.getD m 0=c.getD m 0:=k.out m oO;rw[e];refine⟨fun p h1 h2=>?_,fun p h1 h2=>k.all (fun v=>decide (v<c.getD m 0)=false) (fun j g1 g2=>h.2 j oO g2) p oO h2⟩;rw[k.out p oO];exact h.1 p h1 h2
theorem _root_.Go.Proofs.YtbgngpdonpeboaaGreatDoor.Pl.cQ.glue{d:List Int}{a m b:Nat}(h:cQ d a m b)(h1:Srt a m d)(h2:Srt (m+1) b d):Srt a b d:=by
 refine QL h1 h2 (fun p g1 g2=>?_) fun q g1 g2=>?_
 .have:=h.1 p g1 g2;simp only[aBx]at this;omega
 .have:=h.2 q g1 g2;simp only[aCf]at this;omega
theorem _root_.Go.Proofs.YtbgngpdonpeboaaGreatDoor.Pl.cQ.aheadR{d:List Int}{a m b:Nat}(h:cQ d a m b):rG d (m+1) b:=by intro _ j g1 g2;have:=h.2 j oO g2;simp only[aCf]at this;rw[aCL];omega
theorem rG.less{d:List Int}{a m b:Nat}(h:rG d a b)(hm:m<=b):rG d a m:=fun h0 j g1 g2=>h h0 j g1 oO
theorem Tp{c d:List Int}{a m b:Nat}{x:Int}(h:IX c a m b x)(U6:∀ j,a<=j->j<m->x<=c.getD j 0)(k:Pm m b c d)(hs:Srt m b d):Srt a b d:=by
 intro p q h1 h2 h3;by_cases hq:q<m
 .rw[k.out p oO,k.out q oO];have:=h.1 p h1 oO;have:=U6 q oO hq;omega
 .by_cases hp:p<m
  .rw[k.out p oO];have g:=h.1 p h1 hp;have:x<d.getD q 0:=k.all (fun v=>x<v) h.2 q oO h3;omega
  .exact hs p q oO h2 h3
def PV(a b a' b':Nat)(c:List Int):Prop:=∀ d,Pm a' b' c d->Srt a' b' d->Srt a b d
theorem PV.pm{a b a' b':Nat}{c d:List Int}(h:PV a b a' b' c)(k:Pm a' b' c d):PV a b a' b' d:=fun e h1 h2=>h e (k.trans h1) h2
theorem RE{P:Program}{N:Nat}{Q:AQ}{k:List gQ}{fr:Frm}{st:St}{x y:Code}(I:Frm->St->Prop)(h1:AWp P N x (AK P N (fun e f s=>(e=.normal/\I f s)\/(e=.ret/\AK P N Q k .ret f s)) []) fr st)(h2:∀ fr st,I fr st->AWp P N y (AK P N Q k) fr st):
 AWp P N x (AK P N Q (.code y::k)) fr st:=by
 refine dH h1 ?_;rintro e c7 st' (⟨rfl,hI⟩|⟨rfl,hI⟩)
 .rw[jE];exact h2 _ _ hI
 .rw[xZ];exact hI
theorem QE{P:Program}{N:Nat}{Q:AQ}{k:List gQ}{fr:Frm}{st:St}{x y:Code}(I:Frm->St->Prop)(h1:AWp P N x (AK P N (fun e f s=>(e=.normal/\I f s)\/(e≠.normal/\AK P N Q k e f s)) []) fr st)(h2:∀ fr st,I fr st->AWp P N y (AK P N Q k) fr st):
 AWp P N x (AK P N Q (.code y::k)) fr st:=by
 refine dH h1 ?_;rintro e c7 st' (⟨rfl,hI⟩|⟨Zo,hI⟩)
 .rw[jE];exact h2 _ _ hI
 .cases e<;>first|exact absurd rfl Zo|exact hI
def PdI(q:Nat)(l:List Int)(st:St)(a b a' b':Nat)(wb wp:Bool)(lim n:Nat)(fr:Frm)(st2:St):Prop:=
 fr 0=.ms q 0 l.length/\fr 1=i a'/\fr 2=i b'/\fr 3=i lim/\fr 8=bb wb/\fr 9=bb wp/\fr 10=i n/\lim<1000000/\q<st2.next/\bM q st st2/\∃ c,st2.H q=.box 34 1 (us c)/\Pm a b l c/\rG c a' b'/\PV a b a' b' c
theorem PdI.mk{q:Nat}{l:List Int}{st:St}{a b a' b':Nat}{wb wp:Bool}{lim n:Nat}{fr:Frm}{st2:St}{c:List Int}(f0:fr 0=.ms q 0 l.length)(f1:fr 1=i a')(f2:fr 2=i b')(f3:fr 3=i lim)(f8:fr 8=bb wb)(f9:fr 9=bb wp)(f10:fr 10=i n)(hlm:lim<1000000)(V6:q<st2.next)(ho:bM q st st2)(hc:st2.H q=.box 34 1 (us c))(hp:Pm a b l c)(ha:rG c a' b')(hf:PV a b a' b' c):PdI q l st a b a' b' wb wp lim n fr st2:=
 ⟨f0,f1,f2,f3,f8,f9,f10,hlm,V6,ho,c,hc,hp,ha,hf⟩
def PdJ(q:Nat)(l:List Int)(st:St)(a b a' b':Nat)(wb wp:Bool)(n:Nat)(fr:Frm)(st2:St):Prop:=∃ lim,PdI q l st a b a' b' wb wp lim n fr st2
def PdK(q:Nat)(l:List Int)(st:St)(a b a' b':Nat)(wb wp:Bool)(n:Nat)(fr:Frm)(st2:St):Prop:=∃ lim,PdI q l st a b a' b' wb wp lim n fr st2/\∃(pv:Nat) (h:Int),a'<=pv/\pv<b'/\fr 11=i pv/\fr 12=i h
theorem FV(Z:Nat):∀(l:List Int) (q a b lim:Nat) (st:St),l.length<65536->a<=b->b<=l.length->b-a<Z->rG l a b->lim<1000000->q<st.next->st.H q=.box 34 1 (us l)->
 aB prog 84 [.ms q 0 l.length,i a,i b,i lim] st fun r st'=>∃ c,st'.H q=.box 34 1 (us c)/\Pm a b l c/\Srt a b c/\bM q st st':=by
 induction Z with
 |zero=>intro l q a b lim st _ _ _ h;omega
 |succ Z ih=>
 intro l q a b lim st hl v8 hb hZ hah hlim V6 hH;have Q4:small l:=by unfold small;omega
 refine zN func84 ntmps84 [] ?_
 (repeat' (first|apply qS|apply qB|(refine zE ?_;intro J hJ;simp[];(refine zJ hJ ?_;clear hJ J))))
 refine qL (fun z fr st2=>∃(a' b' lim:Nat) (wb wp:Bool) (n:LV),a<=a'/\a'<=b'/\b'<=b/\z=b' - a'/\PdI q l st a b a' b' wb wp lim 0 (upd fr 10 (i (0:Nat))) st2) (b-a) ?_ ?_
 .refine⟨a,b,lim,true,true,.nil,oO,oO,oO,rfl,?_⟩;exact PdI.mk sS sS sS sS sS sS sS hlim V6 (.refl _ _) hH .refl hah fun d h1 h2=>h2
 rintro z fr st2 ⟨a',b',lim,wb,wp,-,ha1,ha2,T7,rfl,f0,f1,f2,f3,f8,f9,-,hlm,K6,L6,c,hc,r9,M9,u6⟩ JJ hJJ;rw[FF,aAa oO]at f0 f1 f2 f3 f8 f9;have o7:=r9.len;have K0:small c:=by unfold small;omega
 obtain⟨n,hn⟩:∃ n:Nat,n=b' - a':=⟨_,rfl⟩;have w1:IntKind.i64.wrap ((b':Int)-(a':Int))=(n:Int):=zW;apply qB
 (repeat' (first|apply qS|(refine zE ?_;intro J hJ;simp[f1,f2,w1];(refine zJ hJ ?_;clear hJ J))))
 by_cases hn12:(n:Int)<=12
 .clear hJJ;apply qC;simp[hn12]
  (refine xj3 f0 f1 f2 ?_;intro J hJ)
  refine qE (insertionSort c q a' b' st2 K0 oO oO hc) (sF4 f0 f1 f2 o7) ?_;rintro r st' ⟨d,rfl,k1,k2⟩;refine dA hJ ?_;exact⟨d,rfl,r9.trans (k1.wide oO oO oO),u6 d k1 k2,L6.set _⟩
 apply qC;simp[hn12]
 (repeat' (first|apply qS|refine qK (zZ ?_)|(refine zE ?_;intro J hJ;simp[f3];(refine zJ hJ ?_;clear hJ J))))
 by_cases hl0:lim=0
 .clear hJJ;apply qC;simp[hl0]
  (refine xj3 f0 f1 f2 ?_;intro J hJ)
  refine qE (heapSort c q a' b' st2 K0 oO oO hc) (sF4 f0 f1 f2 o7) ?_;rintro r st' ⟨d,rfl,k1,k2⟩;refine dA hJ ?_;exact⟨d,rfl,r9.trans (k1.wide oO oO oO),u6 d k1 k2,L6.set _⟩
 apply qC;simp[hl0];refine qK (zZ ?_);apply qS;refine cD (PdJ q l st a b a' b' wb wp n) ?_ ?_
 .clear hJJ;cases wb
  ·(refine xj4 f0 f1 f2 f8 ?_;intro J hJ)
   refine qE (breakPatterns c q a' b' st2 oO oO oO K6 hc) (sF4 f0 f1 f2 o7) ?_;rintro r st' ⟨d,k0,k1,k2⟩;have w2:=aT lim oO oO;refine pD hJ f3 w2 ?_;refine⟨by trivial,?_⟩;exact⟨lim-1,PdI.mk (sF1 f0) (sF1 f1) (sF1 f2) sS (sF1 f8) (sF1 f9) sS oO (aAr K6 k2.1) (L6.trans k2) k0 (r9.trans (k1.wide oO oO oO)) (M9.pm k1) (u6.pm k1)⟩
  .refine xw1 f8 ?_;refine⟨by trivial,?_⟩;exact⟨lim,PdI.mk (sF1 f0) (sF1 f1) (sF1 f2) (sF1 f3) (sF1 f8) (sF1 f9) sS oO K6 L6 hc r9 M9 u6⟩
 clear f0 f1 f2 f3 f8 f9 hlm K6 L6 hc r9 M9 u6 o7 K0 c st2 fr hl0 lim;rintro fr st2 ⟨lim,f0,f1,f2,f3,f8,f9,f10,hlm,K6,L6,c,hc,r9,M9,u6⟩;have o7:=r9.len;have K0:small c:=by unfold small;omega
 apply qS
 (refine zE ?_;intro J hJ;simp[f0,f1,f2])
 refine qE (choosePivot c q a' b' st2 K0 oO oO K6 hc) (sF4 f0 f1 f2 o7) ?_;rintro r st' ⟨pv,h,rfl,P7,X5,k0⟩;have hc':st'.H q=.box 34 1 (us c):=by rw[k0.H q K6];exact hc
 have hqn3:q<st'.next:=aAr K6 k0.next;have hof2:=L6.keeps k0;clear hc K6 L6 k0
 (apply cS;simp[];(refine zJ hJ ?_;clear hJ J))
 apply qS;refine cD (PdK q l st a b a' b' wb wp n) ?_ ?_
 .clear hJJ;by_cases hh:h=2
  ·(refine xj4 hh f0 f1 f2 ?_;intro J hJ)
   refine qE (reverseRange c q a' b' st' K0 oO oO oO hc') (sF4 f0 f1 f2 o7) ?_;rintro r st' ⟨d,rfl,k1⟩;have w2:=aT b' oO oO;obtain⟨x1,hx1⟩:∃ x,x=b' - 1:=⟨_,rfl⟩;obtain⟨x2,U1⟩:∃ x,x=pv-a':=⟨_,rfl⟩;obtain⟨x3,hx3⟩:∃ x,x=x1-x2:=⟨_,rfl⟩;have w3:IntKind.i64.wrap ((pv:Int)-(a':Int))=(x2:Int):=zW;have w4:IntKind.i64.wrap ((x1:Int)-(x2:Int))=(x3:Int):=zW;rw[<- hx1]at w2;refine Xn hJ f1 f2 w2 w3 w4 ?_;refine⟨by trivial,?_⟩;exact⟨lim,PdI.mk (sF1 f0) (sF1 f1) (sF1 f2) (sF1 f3) (sF1 f8) (sF1 f9) (sF1 f10) oO hqn3 (hof2.set _) sS (r9.trans (k1.wide oO oO oO)) (M9.pm k1) (u6.pm k1),x3,1,oO,oO,sS,sS⟩
  .refine xw1 hh ?_;refine⟨by trivial,?_⟩;exact⟨lim,PdI.mk (sF1 f0) (sF1 f1) (sF1 f2) (sF1 f3) (sF1 f8) (sF1 f9) (sF1 f10) oO hqn3 hof2 hc' r9 M9 u6,pv,h,oO,oO,sS,sS⟩
 clear f0 f1 f2 f3 f8 f9 f10 hlm hqn3 hof2 hc' r9 M9 u6 o7 K0 c st2 fr lim h P7 X5 pv;rintro fr st2 ⟨lim,⟨f0,f1,f2,f3,f8,f9,f10,hlm,K6,L6,c,hc,r9,M9,u6⟩,pv,h,P7,X5,f11,f12⟩;have o7:=r9.len;have K0:small c:=by unfold small;omega
 apply qS;refine RE (PdK q l st a b a' b' wb wp n) ?_ ?_
 .clear hJJ;cases wb
  .refine xw1 f8 ?_;refine .inl ⟨by trivial,?_⟩;exact⟨lim,PdI.mk (sF1 f0) (sF1 f1) (sF1 f2) (sF1 f3) (sF1 f8) (sF1 f9) (sF1 f10) oO K6 L6 hc r9 M9 u6,pv,h,oO,oO,sF1 f11,sF1 f12⟩
  cases wp
  .refine xw2 f8 f9 ?_;refine .inl ⟨by trivial,?_⟩;exact⟨lim,PdI.mk (sF1 f0) (sF1 f1) (sF1 f2) (sF1 f3) (sF1 f8) (sF1 f9) (sF1 f10) oO K6 L6 hc r9 M9 u6,pv,h,oO,oO,sF1 f11,sF1 f12⟩
  by_cases hh:h=1;rotate_left
  .refine xw4 f8 f9 f12 hh ?_;refine .inl ⟨by trivial,?_⟩;exact⟨lim,PdI.mk (sF1 f0) (sF1 f1) (sF1 f2) (sF1 f3) (sF1 f8) (sF1 f9) (sF1 f10) oO K6 L6 hc r9 M9 u6,pv,h,oO,oO,sF1 f11,sF1 f12⟩
  (refine xj7 f8 f9 f12 hh f0 f1 f2 ?_;intro J hJ)
  refine qE (partialInsertionSort c q a' b' st2 K0 oO oO M9 hc) (sF4 f0 f1 f2 o7) ?_;rintro r st' ⟨d,p,rfl,rfl,k1,k2⟩;cases p
  .refine dA hJ ?_;refine .inl ⟨by trivial,?_⟩;exact⟨lim,PdI.mk (sF1 f0) (sF1 f1) (sF1 f2) (sF1 f3) (sF1 f8) (sF1 f9) (sF1 f10) oO K6 (L6.set _) sS (r9.trans (k1.wide oO oO oO)) (M9.pm k1) (u6.pm k1),pv,h,oO,oO,sF1 f11,sF1 f12⟩
  .refine dA hJ ?_;exact⟨d,rfl,r9.trans (k1.wide oO oO oO),u6 d k1 (k2 rfl),L6.set _⟩
 clear f0 f1 f2 f3 f8 f9 f10 f11 f12 hlm K6 L6 hc r9 M9 u6 o7 K0 c st2 fr lim h P7 X5 pv;rintro fr st2 ⟨lim,⟨f0,f1,f2,f3,f8,f9,f10,hlm,K6,L6,c,hc,r9,M9,u6⟩,pv,h,P7,X5,f11,f12⟩;have o7:=r9.len;have K0:small c:=by unfold small;omega
 apply qS;refine QE (PdK q l st a b a' b' wb wp n) ?_ ?_
 .by_cases h0:a'=0
  .clear hJJ;have h0':¬(0:Int)<(a':Int):=oO
   (repeat (apply qS));(refine zS [] [q] [0,2,4,6,8,10,12,14,16,18,20,22,25,26,28] ?_;intro J hJ;simp[f0,f1,h0];(refine zJ hJ ?_;clear hJ J))
   refine xw0 ?_;refine .inl ⟨by trivial,?_⟩;exact⟨lim,PdI.mk (sF1 f0) (sF1 f1) (sF1 f2) (sF1 f3) (sF1 f8) (sF1 f9) (sF1 f10) oO  K6 L6 hc r9 M9 u6,pv,h,oO,oO,sF1 f11,sF1 f12⟩
  have h0':0<a':=oO;have w2:=aT a' oO oO;have y9:=qG c (a' - 1) oO;have K8:=qG c pv oO;have hl3:a' - 1<l.length:=oO;have hl4:pv<l.length:=oO;have U6:∀ j,a'<=j->j<b'->c.getD (a' - 1) 0<=c.getD j 0:=M9 h0';generalize hx:c.getD (a' - 1) 0=x at *;generalize hy:c.getD pv 0=y at *
  (repeat (apply qS));(refine zS [] [q] [0,2,4,6,8,10,12,14,16,18,20,22,25,26,28] ?_;intro J hJ;simp[f0,f1,f11,h0',w2,hl3,hl4,o7,hc,y9,K8])
  refine aN (vF x y _) ?_;rintro r s2 ⟨rfl,rfl⟩;refine⟨fun _=>by simp,?_⟩;by_cases G8:x<y
  .clear hJJ
   (apply bI;simp[G8];(refine zJ hJ ?_;clear hJ J))
   refine xw0 ?_;refine .inl ⟨by trivial,?_⟩;exact⟨lim,PdI.mk (sF1 f0) (sF1 f1) (sF1 f2) (sF1 f3) (sF1 f8) (sF1 f9) (sF1 f10) oO  K6 L6 hc r9 M9 u6,pv,h,oO,oO,sF1 f11,sF1 f12⟩
  (apply bI;simp[G8];(refine zJ hJ ?_;clear hJ J))
  (refine xj4 f0 f1 f2 f11 ?_;intro J hJ)
  refine qE (partitionEqual c q a' b' pv _ K0 oO oO P7 X5 hc) (sF5 f0 f1 f2 f11 o7) ?_;rintro r st' ⟨d,G7,rfl,rfl,k1,k2,k3,k4⟩;refine dA hJ ?_;refine .inr ⟨sS,?_⟩;refine hJJ (b' - G7) _ _ oO ⟨G7,b',lim,wb,wp,.nil,oO,oO,oO,rfl,?_⟩;rw[hy]at k4;refine PdI.mk (sF1 f0) sS (sF1 f2) (sF1 f3) (sF1 f8) (sF1 f9) sS oO K6 (L6.set _) sS (r9.trans (k1.wide oO oO oO)) ?_ ?_
  .intro _ j g1 g2;have e1:=k4.1 (G7-1) oO oO;have e2:=k4.2 j g1 g2;omega
  .intro e g1 g2;refine u6 e (k1.trans (g1.wide oO oO (by have:=k1.len;omega))) (Tp k4 (fun j e1 e2=>?_) g1 g2);have:=k1.all (fun v=>x<=v) U6 j e1 oO;omega
 clear f0 f1 f2 f3 f8 f9 f10 f11 f12 hlm K6 L6 hc r9 M9 u6 o7 K0 c st2 fr lim h P7 X5 pv;rintro fr st2 ⟨lim,⟨f0,f1,f2,f3,f8,f9,f10,hlm,K6,L6,c,hc,r9,M9,u6⟩,pv,h,P7,X5,f11,f12⟩;have o7:=r9.len;have K0:small c:=by unfold small;omega
 (repeat' (first|apply qS|(refine zE ?_;intro J hJ;simp[f0,f1,f2,f11])))
 refine qE (partition c q a' b' pv _ K0 oO oO P7 X5 hc) (sF5 f0 f1 f2 f11 o7) ?_;rintro r st' ⟨d,G7,p,rfl,rfl,k1,k2,k3,k4⟩;have hdl:=k1.len;have k4:cQ d a' G7 b':=k4;have hpm':=r9.trans (k1.wide ha1 T7 oO);have hah':=M9.pm k1;have hfin':=u6.pm k1;have hof':=L6.set (q:=q) (.box 34 1 (us d));have w3:IntKind.i64.wrap ((G7:Int)-(a':Int))=((G7-a':Nat):Int):=zW;have w4:IntKind.i64.wrap ((b':Int)-(G7:Int))=((b' - G7:Nat):Int):=zW;have w5:IntKind.i64.wrap ((n:Int) / 8)=((n / 8:Nat):Int):=by rw[show(n:Int) / 8=((n / 8:Nat):Int) from rfl];exact wrap_i64 _ oO oO
 obtain⟨z1,hz1⟩:∃ x:Nat,x=G7-a':=⟨_,rfl⟩;obtain⟨z2,hz2⟩:∃ x:Nat,x=b' - G7:=⟨_,rfl⟩;obtain⟨z3,hz3⟩:∃ x:Nat,x=n / 8:=⟨_,rfl⟩;obtain⟨m1,hm1⟩:∃ x:Nat,x=G7+1:=⟨_,rfl⟩;rw[<- hz1]at w3;rw[<- hz2]at w4;rw[<- hz3]at w5;have w6:IntKind.i64.wrap ((G7:Int)+1)=(m1:Int):=by rw[qN G7 oO,hm1]
 clear hc r9 M9 u6 L6
 (repeat' (first|apply qS|((first|(refine zE ?_;intro J hJ)|(apply cS));simp[f1,f2,f10,w3,w4,w5];(refine zJ hJ ?_;clear hJ J))))
 apply qC;by_cases hzz:z1<z2
 .simp[hzz]
  (repeat' (first|apply qS|(refine zE ?_;intro J hJ;simp[f0,f1,f3];(try (refine zJ hJ ?_;clear hJ J)))))
  refine qE (ih d q a' G7 lim (bx st2 q d) oO oO oO oO (hah'.less oO) oO K6 sS) (sF6 f0 f1 f2 f3 hdl o7) ?_;rintro r st' ⟨e,j0,j1,j2,j3⟩
  (repeat' ((first|(refine zE ?_;intro J hJ)|(apply cS));simp[w6];(refine zJ hJ ?_;clear hJ J)))
  refine hJJ (b' - m1) _ _ oO ⟨m1,b',lim,decide (z3<=z1),p,.nil,oO,oO,oO,rfl,?_⟩;refine PdI.mk (sF1 f0) sS (sF1 f2) (sF1 f3) sS sS sS oO (aAr K6 j3.1) (hof'.trans j3) j0 (hpm'.trans (j1.wide oO oO oO)) ?_ ?_
  .rw[hm1];exact(k4.pmL j1).aheadR
  .intro y g1 g2;rw[hm1]at g1 g2;refine hfin' y ((j1.wide oO oO oO).trans (g1.wide oO oO (by have:=j1.len;omega))) (((k4.pmL j1).pmR g1).glue (Srt.out j2 fun j e1 e2=>g1.out j oO) g2)
 .simp[hzz]
  (repeat' (first|apply qS|(refine zE ?_;intro J hJ;simp[f0,f2,f3,w6];(try (refine zJ hJ ?_;clear hJ J)))))
  refine qE (ih d q m1 b' lim (bx st2 q d) oO oO oO oO (by rw[hm1];exact k4.aheadR) oO K6 sS) (sF6 f0 f1 f2 f3 hdl o7) ?_;rintro r st' ⟨e,j0,j1,j2,j3⟩
  (repeat' ((first|(refine zE ?_;intro J hJ)|(apply cS));simp[];(refine zJ hJ ?_;clear hJ J)))
  rw[hm1]at j1 j2;refine hJJ (G7-a') _ _ oO ⟨a',G7,lim,decide (z3<=z2),p,.nil,oO,oO,oO,rfl,?_⟩;refine PdI.mk (sF1 f0) (sF1 f1) sS (sF1 f3) sS sS sS oO (aAr K6 j3.1) (hof'.trans j3) j0 (hpm'.trans (j1.wide oO oO oO)) ?_ ?_
  .exact(hah'.pm (j1.wide oO oO oO)).less oO
  .intro y g1 g2;refine hfin' y ((j1.wide oO oO oO).trans (g1.wide oO oO (by have:=j1.len;omega))) (((k4.pmR j1).pmL g1).glue g2 (Srt.out j2 fun j e1 e2=>g1.out j oO))
theorem Vo(l:List Int)(q:Nat)(st:St)(hl:l.length<65536)(V6:q<st.next)(hH:st.H q=.box 34 1 (us l)):
 aB prog 46 [.ms q 0 l.length] st fun r st'=>∃ c,st'.H q=.box 34 1 (us c)/\c.Perm l/\c.Pairwise (·<=·)/\bM q st st':=by
 have w1:IntKind.u64.wrap (l.length:Int)=(l.length:Int):=wrap_u64 _ oO oO;have P0:=(GO l.length oO).1;refine zN func46 ntmps46 [] ?_
 (refine xj1 w1 ?_;intro J hJ)
 refine qF (Len l.length _ oO) ?_;rintro r st' ⟨rfl,rfl⟩;refine dA hJ ?_;refine qE (FV (l.length+1) l q 0 l.length (lR l.length) _ hl oO oO oO (fun h=>absurd h oO) oO V6 hH) (by simp[]) ?_;rintro r st' ⟨c,k1,k2,k3,k4⟩;refine dA hJ ?_;have o7:=k2.len;exact⟨trivial,c,k1,k2.perm,SO (by rw[o7];exact k3),k4⟩
end Aw
namespace Aw
open Go Go.RowKit
theorem rX{w w':World}(g:G)(h:Below w.heap.size w w'):Ext w g w' g:=
 ⟨h.os,h.tape,h.output,h.size,aAm _,fun _ _=>rfl,fun _ _=>rfl,fun _ _=>rfl,fun b hb hn=>⟨hn,h.block b hb⟩,fun b k hb hk=>⟨k,hk,aAm _,fun o _=>World.cell?_of_block (w:=w) (h.block b hb)⟩⟩
theorem wW{w w':World}{g:G}{st:St}(hi:Inv w g st)(h:Below w.heap.size w w'):Inv w' g st:=by
 have he':=rX g h;refine⟨hi.next,hi.pos,hi.fresh,fun l hl=>aAr (hi.lt l hl) h.size,hi.inj,?_,?_,?_,?_,hi.aside.keep he' fun _ _=>rfl⟩
 .intro l e s n hl;obtain⟨h1,h2,h3,h4⟩:=hi.own l e s n hl;refine⟨h1,h2,h3,fun r8=>?_⟩;obtain⟨j8,k1,k2,k3⟩:=h4 r8;exact⟨j8,by rw[h.block _ (aAH.1 k1).1];omega,k2,k3⟩
 .intro l e s cs hl;obtain⟨h1,h2,h3⟩:=hi.box l e s cs hl;refine⟨h1,h2,fun r8=>?_⟩;obtain⟨j8,k1,k2,k3,k4,k5⟩:=h3 r8;exact⟨j8,by rw[h.block _ (aAH.1 k1).1];omega,k2,k3,aC.mono he' _ _ k4,k5⟩
 .intro l ag ks es hl;have hm:=hi.mp l ag ks es hl;exact hm.keep he' (hi.map_lt hl) (h.block _ hm.blk_lt) rfl
 .intro l e n hl;have hm:=hi.qu l e n hl;exact hm.keep he' (hi.que_lt hl) (h.block _ hm.blk_lt) rfl
theorem wT{w w':World}{g:G}{st:St}(hi:Inv w g st)(h:Below w.heap.size w w'){e:TypeId}{v:Value}{zs:List Value}{cs:List LV}(VU:w'.ownsRow w.heap.size e 1 v zs.length zs)(hr:∀ w g,aC w g cs zs):
 ∃ g',Rep w' g' (.ms st.next 0 zs.length) v/\Inv w' g' (st.new (.box e 1 cs))/\Ext w g w' g':=by
 have I4:=wW hi h;have o7:cs.length=zs.length:=aK _ _ (hr w g);rcases VU.2 with⟨rfl,hn⟩|⟨b,cap,j8,rfl,hb,hcur,h1,h2,h3,h4⟩
 .have L5:cs=[]:=aAK oO;subst L5;refine⟨g.addNil,?_,jF I4 _ (.inr ⟨_,_,rfl⟩),(rX g h).trans (ext_nil w' g)⟩;simp only[Rep,hn];exact⟨none,0,rfl,aAm _,aBD _,by simp[G.addNil,hi.next],sS,by simp[G.addNil,hi.next]⟩
 .have L0:=hi.next;have L7:Ext w g w' (g.add b 0 cap false):=by
   refine⟨h.os,h.tape,h.output,h.size,aDM _,?_,?_,?_,?_,?_⟩
   .grind [G.add]
   .grind [G.add]
   .grind [G.add]
   .intro x hx hn;exact⟨by grind [G.add],h.block x hx⟩
   .intro x k hx hk;exact⟨k,by grind [G.add],aAm _,fun o _=>World.cell?_of_block (w:=w) (h.block x hx)⟩
  have O8:∀ l,blk g st l->g.β l≠b:=fun l hl=>by have:=hi.lt l hl;omega
  have hblt:b<w'.heap.size:=(aAH.1 hcur).1;refine⟨g.add b 0 cap false,?_,?_,L7⟩
  .simp only[Rep,G.add,L0,aAj]
   grind
  .refine⟨by grind [G.add,St.new],by simp_all,?_,?_,?_,?_,?_,?_,?_,hi.aside.keep L7 (nW rfl)⟩
   .intro l hl;simp only[St.new]at hl ⊢;rw[aAa oO];exact hi.fresh l oO
   .intro l hl;by_cases e0:l=st.next
    .grind [G.add]
    .rw[cN L0 e0]at hl;have:=I4.lt l hl
     grind [G.add]
   .intro l l' hl K3 hbb;by_cases e0:l=st.next<;>by_cases e1:l'=st.next
    .omega
    .grind [cN,G.add]
    .grind [cN,G.add]
    .rw[cN L0 e0]at hl;rw[cN L0 e1]at K3;simp only[G.add,L0,aAa e1,aAa e0]at hbb;exact hi.inj l l' hl K3 hbb
   .intro l e' s n hl;by_cases e0:l=st.next
    .simp_all
    .simp only[St.new,aAa e0]at hl;obtain⟨q1,q2,q3,q4⟩:=I4.own l e' s n hl;simp only[G.add,L0,aAa e0]
     grind [blk]
   .intro l e' s' cs' hl;by_cases e0:l=st.next
    .simp only[St.new,aAj e0]at hl;injection hl with a1 a2 a3;subst a1 a2 a3;refine⟨?_,?_,fun _=>⟨j8.toList,?_,?_,?_,?_,?_⟩⟩
     .grind [G.add]
     .grind [G.add]
     .simp only[G.add,L0,aAj e0];omega
     .grind [G.add]
     .grind
     .grind
     grind [G.add]
    .simp only[St.new,aAa e0]at hl;obtain⟨k3,k0,k'⟩:=I4.box l e' s' cs' hl;refine⟨?_,?_,fun r8=>?_⟩
     .grind [G.add]
     .grind [G.add]
     simp only[G.add,L0,aAa e0]at r8;obtain⟨N6,k1,k2,k4,k5,k6⟩:=k' r8;have Zo:=O8 l (by grind [blk]);obtain⟨_,_,k'⟩:=hi.box l e' s' cs' hl;obtain⟨cur2,m1,m2,m4,m5,m6⟩:=k' r8;have dG:=(aAH.1 m1).1;refine⟨cur2,?_,?_,m4,aC.mono L7 _ _ m5,?_⟩
     .simp only[G.add,L0,aAa e0];rw[h.block _ dG];omega
     .grind [G.add]
     grind [G.add]
   .intro l ag ks es hl;by_cases e0:l=st.next
    .simp_all
    .simp only[St.new,aAa e0]at hl;have hm:=hi.mp l ag ks es hl;exact hm.keep L7 (hi.map_lt hl) (h.block _ hm.blk_lt) (by simp only[G.add];rw[aAa (O8 l (hi.map_blk hl))])
   .intro l e' n hl;by_cases e0:l=st.next
    .simp_all
    .simp only[St.new,aAa e0]at hl;have hm:=hi.qu l e' n hl;exact hm.keep L7 (hi.que_lt hl) (h.block _ hm.blk_lt) (by simp only[G.add];rw[aAa (O8 l (hi.que_blk hl))])
theorem AW(w:World)(g:G):∀ l:List Int,aC w g (us l) (l.map (Value.int .u32))
 |[]=>by simp[aC]
 |a::l=>by simp only[aAl,aC,Rep];exact⟨_,_,rfl,rfl,AW w g l⟩
theorem LQ{w:World}{g:G}:∀(l:List Int) (ws:List Value),aC w g (us l) ws->ws=l.map (Value.int .u32)
 |[],ws,h=>by grind [aC]
 |a::l,ws,h=>by simp only[aAl,aC,Rep]at h;obtain⟨v,ws',rfl,rfl,h2⟩:=h;rw[LQ l ws' h2];rfl
theorem Ub(l:List Int)(x:LV)(q:Nat)(st:St)(hl:l.length<=1048576)(hH:st.H q=.box 22 1 [x])(hx:Cs tab 22 st x=some (l.length,us l)):
 aB prog 104 [.fn (.func 204) [.pt q 0]] st fun r st'=>r=.ms st.next 0 l.length/\st'=st.new (.box 34 1 (us l)):=by
 refine⟨enters_of func104 (by kernel_rfl) rfl,fun w g vs hi hr=>?_⟩;simp only[aC,Rep]at hr;obtain⟨v,_,rfl,⟨us1,rfl,v1,_,rfl,⟨rfl,hq⟩,rfl⟩,rfl⟩:=hr;obtain⟨_,b2,b3⟩:=hi.box q _ _ _ hH;have r8:g.nl q=false:=by
  cases hn:g.nl q with
  |false=>rfl
  |true=>grind
 obtain⟨j8,k1,k2,k3,k4,k5⟩:=b3 r8;simp only[List.length_cons,List.length_nil,aBy,aC]at k4 k3;obtain⟨sv,rest,hsv,G9,_⟩:=k4;have hc0:w.cell? ⟨g.β q,0,none⟩=some sv:=by
  rw[cell_of_row w _ _ _ _ _ k1];cases j8 with
  |nil=>grind
  |cons a j8=>grind
 have hI:Rg.Ints w.heap.size w sv l:=by
  obtain⟨A,cap,rfl,hrw⟩:=rZ hi hx G9;by_cases hl0:l=[]
  .subst hl0;exact .inl ⟨rfl,A,cap,rfl⟩
  .obtain⟨b,o,ws,rfl,m1,m2⟩:=hrw (by grind);have hws:=LQ l ws m1;refine .inr ⟨b,o,cap,rfl,?_,fun j hj=>?_⟩
   .have h0:=m2 0 (by grind);rw[hws]at h0;cases l with
    |nil=>grind
    |cons a l=>exact oU (a:=⟨b,o+0,none⟩) (v:=.int .u32 a) (by grind)
   grind
 refine(((Rg.KG Fence.wide 4 trivial trivial trivial rfl (aAm _) (g.β q) sv l hl w (oU hc0) hc0 hI).calls room_wide)).mono ?_;rintro e w' ⟨v,rfl,VU,hbel⟩;have hlen:l.length=(l.map (Value.int .u32)).length:=sS;rw[hlen]at VU;obtain⟨g',h1,h2,h3⟩:=wT (cs:=us l) hi hbel VU (fun w g=>AW w g l)
 grind
def Yu:kC:=fun f args st=>if f=104 then match args with
 |[.fn (.func g) [.pt q 0]]=>if g=204 then match st.H q with
    |.box e s [x]=>if e=22/\s=1 then match Cs tab 22 st x with
      |some (n,ds)=>match iL ds with
       |some (ks,ns)=>if(ks.all fun k=>decide (k=.u32))=true/\ns.length=n/\n<=1048576 then some [(.ms st.next 0 n,st.new (.box 34 1 (us ns)))]else none
       |none=>none
      |none=>none
     else none
    |_=>none
  else none
 |_=>none
 else none
theorem HX:∀(ds:List LV) (ks:List IntKind) (ns:List Int),iL ds=some (ks,ns)->(ks.all fun k=>decide (k=.u32))=true->ds=us ns
 |[],ks,ns,h,_=>by simp_all
 |c::ds,ks,ns,h,ha=>by
  cases c with
  |atom x=>
   cases x with
   |int k n=>
    simp only[iL]at h;cases hi:iL ds with
    |none=>grind
    |some p=>obtain⟨R6,ns'⟩:=p;simp only[hi,aAb,aBd]at h;obtain⟨rfl,rfl⟩:=h;simp only[List.all_cons,aAW,aBx]at ha;obtain⟨rfl,ha⟩:=ha;rw[HX ds R6 ns' hi ha];rfl
   |_=>simp[iL]at h
  |_=>simp[iL]at h
theorem GA:oF prog Yu:=by
 intro f args st rs h;unfold Yu at h
 split at h
 .rename_i hf;subst hf
  split at h
  .rename_i g q
   split at h
   .rename_i hg;subst hg
    split at h
    .rename_i e s x hH
     split at h
     .rename_i hes;obtain⟨rfl,rfl⟩:=hes
      split at h
      .grind [HX,Ub]
      grind
     grind
    grind
   grind
  grind
 grind
theorem Sr(st:St):aB prog 68 [] st fun r st'=>r=bb true/\st'=st:=
 sZ nB PI GA mixed 1000000 true (by kernel_rfl)
theorem Ud(st:St):aB prog 69 [] st fun r st'=>r=bb true/\st'=st:=
 sZ nB PI GA mixed 1000000 true (by kernel_rfl)
structure Mp where
 g:Gr
 rots:List (List Int)
 deriving DecidableEq
abbrev gJ(rs:List (List Int)):List LV:=rs.map fun r=>.sl 0 r.length (us r)
abbrev mpL(m:Mp):List LV:=grL m.g++[.sl 0 m.rots.length (gJ m.rots)]
theorem KR(rs:List (List Int))(k:Nat)(hk:k<rs.length):(gJ rs).drop k=.sl 0 (rs.getD k []).length (us (rs.getD k []))::(gJ rs).drop (k+1):=by
 grind [List.drop_eq_getElem_cons]
theorem rY(es:List (List Int×LV))(a x:List Int)(v:LV):bN (bQ es a v) x=if x=a then some v else bN es x:=by
 induction es with
 |nil=>
  grind [bQ,bN]
 |cons p es ih=>
  grind [bQ,bN]
end Aw
namespace Aw
open Go Go.RowKit Pl
@[simp] theorem ZS(st:St)(a b:cI):(st.new a).set st.next b=st.new b:=St.ext' rfl fun y=>by simp_all
theorem aI(l:List Ed):(eds l).length=l.length*3:=by
 induction l with
 |nil=>rfl
 |cons e l ih=>grind
abbrev ed0:Ed:=⟨0,0,0⟩
theorem aL(l:List Ed)(k:Nat)(hk:k<l.length):(eds l).drop (k*3)=u (l.getD k ed0).id::u (l.getD k ed0).a::u (l.getD k ed0).b::eds (l.drop (k+1)):=by
 induction l generalizing k with
 |nil=>grind
 |cons e l ih=>
  cases k with
  |zero=>rfl
  |succ k=>
   grind
def bY(f:Nat->Int):Nat->Int
 |0=>0
 |n+1=>if bY f n≠0 then bY f n else f n
theorem eK{f:Nat->Int}{n:Nat}(h:∀ j,j<n->f j=0):bY f n=0:=by
 induction n with
 |zero=>rfl
 |succ n ih=>grind [bY]
theorem gC{f:Nat->Int}{n k:Nat}{v:Int}(hk:k<n)(h:∀ j,j<k->f j=0)(hv:f k=v)(h0:v≠0):bY f n=v:=by
 induction n with
 |zero=>omega
 |succ n ih=>
  grind [bY,eK]
def fE(n ahead:Int)(first:Bool):Int:=if n<1\/1048576<n then 2 else if first=false/\n<=ahead then 19 else 0
def kG(g:Gr)(k:Nat):Int:=fE (g.vs.getD k 0) (g.vs.getD (k-1) 0) (decide (k=0))
def lQ(g:Gr)(k:Nat):Int:=
 let x:=g.es.getD k ed0;let n:=fE x.id (g.es.getD (k-1) ed0).id (decide (k=0))
 if n≠0 then n else if x.a=x.b then 20 else if x.a∉g.vs\/x.b∉g.vs then 21 else 0
def chk(g:Gr):Int:=if 64<g.vs.length\/160<g.es.length then 6 else if bY (kG g) g.vs.length≠0 then bY (kG g) g.vs.length else bY (lQ g) g.es.length
theorem Has(g:Gr)(v:Int)(st:St)(hl:small g.vs):
 aB prog 39 [.ag (grL g),u v] st fun r st'=>r=bb (decide (v∈g.vs))/\aA st st':=by
 obtain⟨l,es⟩:=g;simp only at hl ⊢;unfold small at hl;refine zN func39 ntmps39 [.tmp 4] ?_;refine xw0 ?_;refine qL (fun n fr st'=>∃ k:Nat,k<=l.length/\n=l.length-k/\fr 8=.sl 0 l.length (us l)/\fr 1=u v/\fr 9=i l.length/\fr 10=i k/\aA st st'/\∀ j (hj:j<l.length),j<k->l[j]≠v) l.length ?_ ?_
 .exact⟨0,oO,oO,sS,sS,sS,sS,aA.new _ _,fun j _ h=>by omega⟩
 rintro n fr st' ⟨k,hk,rfl,h8,h1,h9,h10,o9,x8⟩ JJ hJJ;by_cases dG:k<l.length
 .have hd:=kH l k dG;have hw:=qN k oO
  (repeat' (first|apply qS|apply qB|refine qK (zZ ?_)|(refine qR (zZ ?_);simp[h8,h1,h9,h10,dG,hd,hw])|(apply qC;simp[h8,h1,h9,h10,dG,hd,hw];(try with_reducible refine⟨?_,?_⟩)<;>(try with_reducible intro hc))|(refine zE ?_;intro J hJ;simp[h8,h1,h9,h10,dG,hd,hw];refine zJ hJ ?_)))
  .grind
  .refine hJJ _ _ _ ?_ ⟨k+1,oO,rfl,sF1 h8,sF1 h1,sF1 h9,sS,o9,fun j hj hjk=>?_⟩
   .omega
   .rcases aAS j k with h|h
    .grind
    .obtain rfl:j=k:=oO;omega
 .refine xw5 h8 h1 h9 h10 dG ?_
  grind [List.getElem_of_mem]
theorem TS(g:Gr)(v:Int)(st:St)(hl:small g.vs):
 aB prog 87 [.ag (grL g),u v] st fun r st'=>r=i (gi g.vs v)/\aA st st':=by
 obtain⟨l,es⟩:=g;simp only at hl ⊢;refine zN func87 ntmps87 [.tmp 4] ?_
 (refine xj0 ?_;intro J hJ)
 refine qE (Index l 0 v _ hl) (by simp[]) ?_;rintro r st' ⟨rfl,rfl⟩;refine dA hJ ?_
 grind [aA.new]
theorem number(n ahead:Int)(first:Bool)(st:St):
 aB prog 86 [u n,u ahead,bb first] st fun r st'=>r=i (fE n ahead first)/\st'=st:=by
 unfold fE;refine zN func86 ntmps86 [.tmp 6] ?_;by_cases h1:n<1
 .exact xv1 h1
 by_cases h2:1048576<n
 .exact xv2 h1 h2
 cases first
 .by_cases h3:n<=ahead
  .exact xv3 h1 h2 h3
  .exact xv3 h1 h2 h3
 .exact xv2 h1 h2
theorem Check(g:Gr)(st:St)(hv:g.vs.length<=1000)(he:g.es.length<=1000):
 aB prog 48 [.ag (grL g)] st fun r st'=>r=i (chk g)/\aA st st':=by
 have Q4:small g.vs:=by unfold small;omega
 refine zN func48 ntmps48 [.tmp 2] ?_;by_cases h1:(64:Int)<(g.vs.length:Int)
 .have:chk g=6:=by unfold chk;rw[aAj oO]
  refine xw2 h1 this ?_;exact aA.new _ _
 by_cases h2:(160:Int)<(g.es.length:Int)
 .have:chk g=6:=by unfold chk;rw[aAj oO]
  refine xw3 h1 h2 this ?_;exact aA.new _ _
 have S7:chk g=if bY (kG g) g.vs.length≠0 then bY (kG g) g.vs.length else bY (lQ g) g.es.length:=by unfold chk;rw[aAa oO]
 refine xw2 h1 h2 ?_;refine qL (fun n fr st'=>∃ k:Nat,k<=g.vs.length/\n=g.vs.length-k/\fr 1=.pt st.next 0/\fr 21=.sl 0 g.vs.length (us g.vs)/\fr 22=i g.vs.length/\fr 23=i k/\fr 3=u (if k=0 then 0 else g.vs.getD (k-1) 0)/\st'=st.new (.box 25 2 (grL g))/\∀ j,j<k->kG g j=0) g.vs.length ?_ ?_
 .exact⟨0,oO,oO,sS,sS,sS,sS,sS,rfl,fun j h=>by omega⟩
 rintro n fr st' ⟨k,hk,rfl,f1,f21,f22,f23,f3,rfl,x8⟩ JJ hJJ;by_cases dG:k<g.vs.length
 .have hd:=qG g.vs k dG;have hw:=qN k oO;have I6:kG g k=fE (g.vs.getD k 0) (if k=0 then 0 else g.vs.getD (k-1) 0) (decide (k=0)):=by
   unfold kG;by_cases h0:k=0
   .subst h0;simp[fE]
   .simp[h0]
  generalize hy:(if k=0 then(0:Int)else g.vs.getD (k-1) 0)=y at *;generalize hx:g.vs.getD k 0=x at *;have N9:((k:Int)==0)=decide (k=0):=by by_cases h0:k=0<;>simp[h0]
  (refine xj9 f1 f21 f22 f23 f3 dG hd hw N9 ?_;intro J hJ)
  refine qE (number x y (decide (k=0)) _) (by simp[]) ?_;rintro r st' ⟨rfl,rfl⟩;rw[<- I6];by_cases hb:kG g k=0
  .refine sL hJ f23 hw hb ?_;refine hJJ _ _ _ ?_ ⟨k+1,oO,rfl,sF1 f1,sF1 f21,sF1 f22,sS,by rw[aAa oO,aCL,hx];simp,rfl,fun j hj=>?_⟩
   .omega
   .rcases aAS j k with h|h
    .exact x8 j h
    .obtain rfl:j=k:=oO;exact hb
  .have hf:=gC dG x8 rfl hb;have hr:chk g=kG g k:=by rw[S7,hf,aAj hb]
   refine pN hJ hb ?_;exact⟨hr.symm,aA.new _ _⟩
 have Q0:k=g.vs.length:=oO;have hz:bY (kG g) g.vs.length=0:=eK (fun j hj=>x8 j oO);rw[hz]at S7;simp only[ne_eq,aDQ,aBE]at S7;clear hJJ x8 hz;have hel:=aI g.es;generalize hy:(if k=0 then(0:Int)else g.vs.getD (k-1) 0)=y at *;refine xw6 f1 f21 f22 f23 f3 dG ?_;refine qL (fun n fr st'=>∃ k:Nat,k<=g.es.length/\n=g.es.length-k/\fr 1=.pt st.next 0/\fr 39=.sl 0 g.es.length (eds g.es)/\fr 40=i g.es.length/\fr 41=i k/\(∃ z,fr 3=u z/\(k≠0->z=(g.es.getD (k-1) ed0).id))/\aA (st.new (.box 25 2 (grL g))) st'/\∀ j,j<k->lQ g j=0) g.es.length ?_ ?_
 .exact⟨0,oO,oO,sF1 f1,sS,sS,sS,⟨y,sF1 f3,sS⟩,aA.refl _,fun j h=>by omega⟩
 clear f1 f21 f22 f23 f3 dG Q0 hk hy y fr k;rintro n fr st1 ⟨k,hk,rfl,f1,f39,f40,f41,⟨z,f3,hz⟩,o9,x8⟩ JJ hJJ;have hgH:st1.H st.next=.box 25 2 (grL g):=by rw[o9.H _ sS];simp
 have L0:¬st.next=st1.next:=by have:=o9.next;simp only[aG]at this;omega
 have hkp0:=(aA.new st (.box 25 2 (grL g))).trans o9;by_cases dG:k<g.es.length
 .have hd:=aL g.es k dG;have hw:=qN k oO;have u5:k*3<g.es.length*3:=oO;have hk30:k*3+3<=g.es.length*3:=oO;have I6:lQ g k=(let x:=g.es.getD k ed0;let n:=fE x.id z (decide (k=0));if n≠0 then n else if x.a=x.b then 20 else if x.a∉g.vs\/x.b∉g.vs then 21 else 0):=by
   unfold lQ;by_cases h0:k=0
   .subst h0;simp[fE]
   .rw[hz h0]
  generalize hx:g.es.getD k ed0=x at *;obtain⟨xi,xa,xb⟩:=x;simp only at hd I6;have N9:((k:Int)==0)=decide (k=0):=by by_cases h0:k=0<;>simp[h0]
  (refine A6 f1 f39 f40 f41 f3 dG hd hw N9 hel u5 hgH L0 ?_;intro J hJ)
  refine qE (number xi z (decide (k=0)) _) (by simp[]) ?_;rintro r st' ⟨rfl,rfl⟩;by_cases hb:fE xi z (decide (k=0))=0;rotate_left
  .have hb':lQ g k=fE xi z (decide (k=0)):=by rw[I6,aAj hb]
   have hr:chk g=fE xi z (decide (k=0)):=by rw[S7];exact gC dG x8 hb' hb
   refine pN hJ hb ?_;exact⟨hr.symm,hkp0.trans (aA.new _ _)⟩
  rw[aAa (sF1 hb)]at I6;by_cases v8:xa=xb
  .have hb':lQ g k=20:=by rw[I6,aAj v8]
   have hr:chk g=20:=by rw[S7];exact gC dG x8 hb' (by decide)
   refine sL hJ hb v8 hr ?_;exact hkp0.trans (aA.new _ _)
  rw[aAa v8]at I6
  (refine Yk hJ hb v8 f1 L0 hgH ?_;intro J hJ)
  refine qE (TS g xa _ Q4) (by simp[]) ?_;rintro r st' ⟨rfl,c8⟩;have V5:st'.H st1.next=.box 36 3 [u xi,u xa,u xb]:=by rw[c8.H _ sS];simp
  have hgH1:st'.H st.next=.box 25 2 (grL g):=by rw[c8.H _ (by have:=o9.next;simp only[aG]at this ⊢;omega),cE,aAa L0];exact hgH
  have W2:=(o9.trans (aA.new _ _)).trans c8;have X3:=(hkp0.trans (aA.new _ _)).trans c8;by_cases hma:xa∈g.vs;rotate_left
  .rw[SG hma];have hb':lQ g k=21:=by rw[I6,aAj (.inl hma)]
   have hr:chk g=21:=by rw[S7];exact gC dG x8 hb' (by decide)
   refine D4 hJ f1 V5 hgH1 hr ?_;exact X3
  rw[FU hma];have U7:¬((g.vs.idxOf xa:Nat):Int)<0:=oO
  (apply cS;simp[f1,V5,hgH1,U7])
  refine qE (TS g xb _ Q4) (by simp[]) ?_;rintro r st' ⟨rfl,o8⟩;by_cases Z5:xb∈g.vs;rotate_left
  .rw[SG Z5];have hb':lQ g k=21:=by rw[I6,aAj (.inr Z5)]
   have hr:chk g=21:=by rw[S7];exact gC dG x8 hb' (by decide)
   refine pN hJ hr ?_;exact X3.trans o8
  rw[FU Z5];have I7:¬((g.vs.idxOf xb:Nat):Int)<0:=oO;have hb':lQ g k=0:=by rw[I6,aAa (sF2 hma Z5)]
  refine sL hJ f41 hw I7 ?_;refine hJJ _ _ _ ?_ ⟨k+1,oO,rfl,sF1 f1,sF1 f39,sF1 f40,sS,⟨xi,sS,fun _=>by rw[aCL,hx]⟩,W2.trans o8,fun j hj=>?_⟩
  .omega
  .rcases aAS j k with h|h
   .exact x8 j h
   .obtain rfl:j=k:=oO;exact hb'
 .have hr:chk g=0:=by rw[S7];exact eK (fun j hj=>x8 j oO)
  clear hJJ;refine xw7 f1 f39 f40 f41 f3 dG hr ?_;exact hkp0
theorem MY(g:Gr)(st:St)(hv:g.vs.length<=1000)(he:g.es.length<=1000):
 aB prog 13 [.ag (grL g)] st fun r st'=>r=i (chk g)/\aA st st':=by
 have Q4:small g.vs:=by unfold small;omega
 refine zN func13 ntmps13 [.tmp 2] ?_;by_cases h1:(64:Int)<(g.vs.length:Int)
 .have:chk g=6:=by unfold chk;rw[aAj oO]
  refine xw2 h1 this ?_;exact aA.new _ _
 by_cases h2:(160:Int)<(g.es.length:Int)
 .have:chk g=6:=by unfold chk;rw[aAj oO]
  refine xw3 h1 h2 this ?_;exact aA.new _ _
 have S7:chk g=if bY (kG g) g.vs.length≠0 then bY (kG g) g.vs.length else bY (lQ g) g.es.length:=by unfold chk;rw[aAa oO]
 refine xw2 h1 h2 ?_;refine qL (fun n fr st'=>∃ k:Nat,k<=g.vs.length/\n=g.vs.length-k/\fr 1=.pt st.next 0/\fr 18=.sl 0 g.vs.length (us g.vs)/\fr 19=i g.vs.length/\fr 20=i k/\st'=st.new (.box 25 2 (grL g))/\∀ j,j<k->kG g j=0) g.vs.length ?_ ?_
 .exact⟨0,oO,oO,sS,sS,sS,sS,rfl,fun j h=>by omega⟩
 rintro n fr st' ⟨k,hk,rfl,f1,f18,f19,f20,rfl,x8⟩ JJ hJJ;by_cases dG:k<g.vs.length
 .have hd:=qG g.vs k dG;have hw:=qN k oO;have I6:kG g k=fE (g.vs.getD k 0) (g.vs.getD (k-1) 0) (decide (k=0)):=rfl;have N0:kG g k=0->∀ j,j<k+1->kG g j=0:=fun hb j hj=>by
   rcases aAS j k with h|h
   .exact x8 j h
   .obtain rfl:j=k:=oO;exact hb
  have Y3:∀ v,kG g k=v->v≠0->chk g=v:=fun v h0 h1=>by have hf:=gC dG x8 h0 h1;rw[S7,hf,aAj h1]
  generalize hx:g.vs.getD k 0=x at *;by_cases hx1:x<1
  .have hr:=Y3 2 (by rw[I6];unfold fE;rw[aAj (.inl hx1)]) (by decide);refine xw9 f1 f18 f19 f20 dG hd hw hx1 hr ?_;exact aA.new _ _
  by_cases U1:1048576<x
  .have hr:=Y3 2 (by rw[I6];unfold fE;rw[aAj (.inr U1)]) (by decide);refine EW f1 f18 f19 f20 dG hd hw hx1 U1 hr ?_;exact aA.new _ _
  by_cases h0:k=0
  .have hb:kG g k=0:=by rw[I6];unfold fE;rw[aAa (sF2 hx1 U1)];simp[h0]
   have N9:¬0<k:=oO;refine EW f1 f18 f19 f20 dG hd hw hx1 U1 N9 ?_;refine hJJ _ _ _ ?_ ⟨k+1,oO,rfl,sF1 f1,sF1 f18,sF1 f19,sS,rfl,N0 hb⟩;omega
  .have N9:0<k:=oO;have N5:IntKind.i64.wrap ((k:Int)-1)=((k-1:Nat):Int):=zW;have y9:=qG g.vs (k-1) oO;have U8:k-1<g.vs.length:=oO;generalize hy:g.vs.getD (k-1) 0=y at *;by_cases u7:x<=y
   .have hr:=Y3 19 (by rw[I6];unfold fE;rw[aAa (sF2 hx1 U1),aAj ⟨sF1 h0,u7⟩]) (by decide);refine YV f1 f18 f19 f20 dG hd hw hx1 U1 N9 N5 y9 U8 u7 hr ?_;exact aA.new _ _
   .have hb:kG g k=0:=by rw[I6];unfold fE;rw[aAa (sF2 hx1 U1),aAa (sF1 u7)]
    refine Ym f1 f18 f19 f20 dG hd hw hx1 U1 N9 N5 y9 U8 u7 ?_;refine hJJ _ _ _ ?_ ⟨k+1,oO,rfl,sF1 f1,sF1 f18,sF1 f19,sS,rfl,N0 hb⟩;omega
 have Q0:k=g.vs.length:=oO;have hz:bY (kG g) g.vs.length=0:=eK (fun j hj=>x8 j oO);rw[hz]at S7;simp only[ne_eq,aDQ,aBE]at S7;clear hJJ x8 hz;have hel:=aI g.es;refine xw5 f1 f18 f19 f20 dG ?_;refine qL (fun n fr st'=>∃ k:Nat,k<=g.es.length/\n=g.es.length-k/\fr 1=.pt st.next 0/\fr 45=.sl 0 g.es.length (eds g.es)/\fr 46=i g.es.length/\fr 47=i k/\aA (st.new (.box 25 2 (grL g))) st'/\∀ j,j<k->lQ g j=0) g.es.length ?_ ?_
 .exact⟨0,oO,oO,sF1 f1,sS,sS,sS,aA.refl _,fun j h=>by omega⟩
 clear f1 f18 f19 f20 dG Q0 hk fr k;rintro n fr st1 ⟨k,hk,rfl,f1,f45,f46,f47,o9,x8⟩ JJ hJJ;have hgH:st1.H st.next=.box 25 2 (grL g):=by rw[o9.H _ sS];simp
 have L0:¬st.next=st1.next:=by have:=o9.next;simp only[aG]at this;omega
 have hkp0:=(aA.new st (.box 25 2 (grL g))).trans o9;by_cases dG:k<g.es.length
 .have hd:=aL g.es k dG;have hw:=qN k oO;have u5:k*3<g.es.length*3:=oO;have I6:lQ g k=(let x:=g.es.getD k ed0;let n:=fE x.id (g.es.getD (k-1) ed0).id (decide (k=0));if n≠0 then n else if x.a=x.b then 20 else if x.a∉g.vs\/x.b∉g.vs then 21 else 0):=rfl;have N0:lQ g k=0->∀ j,j<k+1->lQ g j=0:=fun hb j hj=>by
   rcases aAS j k with h|h
   .exact x8 j h
   .obtain rfl:j=k:=oO;exact hb
  have Y3:∀ v,lQ g k=v->v≠0->chk g=v:=fun v h0 h1=>by rw[S7];exact gC dG x8 h0 h1
  generalize hx:g.es.getD k ed0=x at *;obtain⟨xi,xa,xb⟩:=x;simp only at hd I6;have hkn:=hkp0.trans (aA.new _ (.box 36 3 [u xi,u xa,u xb]));by_cases hx1:xi<1
  .have hn:fE xi (g.es.getD (k-1) ed0).id (decide (k=0))=2:=by unfold fE;rw[aAj (.inl hx1)]
   have hr:=Y3 2 (by rw[I6,hn];rfl) (by decide);refine YL f1 f45 f46 f47 dG hd hw hel u5 hgH L0 hx1 hr ?_;exact hkn
  by_cases U1:1048576<xi
  .have hn:fE xi (g.es.getD (k-1) ed0).id (decide (k=0))=2:=by unfold fE;rw[aAj (.inr U1)]
   have hr:=Y3 2 (by rw[I6,hn];rfl) (by decide);refine Ym f1 f45 f46 f47 dG hd hw hel u5 hgH L0 hx1 U1 hr ?_;exact hkn
  by_cases hnb:fE xi (g.es.getD (k-1) ed0).id (decide (k=0))=0;rotate_left
  ·
   have h0:k≠0:=by rintro rfl;apply hnb;unfold fE;rw[aAa (sF2 hx1 U1)];simp
   have u7:xi<=(g.es.getD (k-1) ed0).id:=by
    unfold fE at hnb;rw[aAa (sF2 hx1 U1)]at hnb;by_cases h:decide (k=0)=false/\xi<=(g.es.getD (k-1) ed0).id
    .exact h.2
    .rw[aAa h]at hnb;exact absurd rfl hnb
   have hn:fE xi (g.es.getD (k-1) ed0).id (decide (k=0))=19:=by unfold fE;rw[aAa (sF2 hx1 U1),aAj ⟨sF1 h0,u7⟩]
   have hr:=Y3 19 (by rw[I6,hn];rfl) (by decide);have N9:0<k:=oO;have N5:IntKind.i64.wrap ((k:Int)-1)=((k-1:Nat):Int):=zW;have y9:=aL g.es (k-1) oO;have U8:k-1<g.es.length:=oO;have K4:(k-1)*3<g.es.length*3:=oO;generalize hy:g.es.getD (k-1) ed0=y at *;obtain⟨yi,ya,yb⟩:=y;simp only at y9 u7;refine C0 f1 f45 f46 f47 dG hd hw hel u5 hgH L0 hx1 U1 N9 N5 y9 U8 K4 u7 hr ?_;exact hkn
  rw[aAa (fun h=>h hnb)]at I6;by_cases v8:xa=xb
  .have hr:=Y3 20 (by rw[I6,aAj v8]) (by decide);by_cases h0:k=0
   .have N9:¬0<k:=oO;refine PL f1 f45 f46 f47 dG hd hw hel u5 hgH L0 hx1 U1 N9 v8 hr ?_;exact hkp0.trans (aA.new _ _)
   .have N9:0<k:=oO;have N5:IntKind.i64.wrap ((k:Int)-1)=((k-1:Nat):Int):=zW;have y9:=aL g.es (k-1) oO;have U8:k-1<g.es.length:=oO;have K4:(k-1)*3<g.es.length*3:=oO;have u7:¬xi<=(g.es.getD (k-1) ed0).id:=by intro h;unfold fE at hnb;rw[aAa (sF2 hx1 U1),aAj ⟨sF1 h0,h⟩]at hnb;cases hnb
    generalize hy:g.es.getD (k-1) ed0=y at *;obtain⟨yi,ya,yb⟩:=y;simp only at y9 u7;refine F8 f1 f45 f46 f47 dG hd hw hel u5 hgH L0 hx1 U1 N9 N5 y9 U8 K4 u7 v8 hr ?_;exact hkp0.trans (aA.new _ _)
  rw[aAa v8]at I6;by_cases h0:k=0
  .have N9:¬0<k:=oO
   (refine Zr f1 f45 f46 f47 dG hd hw hel u5 hgH L0 hx1 U1 N9 v8 ?_;intro J hJ)
   refine qE (Has g xa _ Q4) (by simp[]) ?_;rintro r st' ⟨rfl,c8⟩;have V5:st'.H st1.next=.box 36 3 [u xi,u xa,u xb]:=by rw[c8.H _ sS];simp
   have hgH1:st'.H st.next=.box 25 2 (grL g):=by rw[c8.H _ (by have:=o9.next;simp only[aG]at this ⊢;omega),cE,aAa L0];exact hgH
   have W2:=(o9.trans (aA.new _ _)).trans c8;have X3:=(hkp0.trans (aA.new _ _)).trans c8;by_cases hma:xa∈g.vs;rotate_left
   .have hr:=Y3 21 (by rw[I6,aAj (.inl hma)]) (by decide);refine Xn hJ f1 V5 hgH1 hr hma ?_;exact X3
   (apply cS;simp[f1,V5,hgH1,hma])
   refine qE (Has g xb _ Q4) (by simp[]) ?_;rintro r st' ⟨rfl,o8⟩;by_cases Z5:xb∈g.vs;rotate_left
   .have hr:=Y3 21 (by rw[I6,aAj (.inr Z5)]) (by decide);refine pD hJ hr Z5 ?_;exact X3.trans o8
   have hb':lQ g k=0:=by rw[I6,aAa (sF2 hma Z5)]
   refine sL hJ f47 hw Z5 ?_;refine hJJ _ _ _ ?_ ⟨k+1,oO,rfl,sF1 f1,sF1 f45,sF1 f46,sS,W2.trans o8,N0 hb'⟩;omega
  .have N9:0<k:=oO;have N5:IntKind.i64.wrap ((k:Int)-1)=((k-1:Nat):Int):=zW;have y9:=aL g.es (k-1) oO;have U8:k-1<g.es.length:=oO;have K4:(k-1)*3<g.es.length*3:=oO;have u7:¬xi<=(g.es.getD (k-1) ed0).id:=by intro h;unfold fE at hnb;rw[aAa (sF2 hx1 U1),aAj ⟨sF1 h0,h⟩]at hnb;cases hnb
   generalize hy:g.es.getD (k-1) ed0=y at *;obtain⟨yi,ya,yb⟩:=y;simp only at y9 u7
   (refine Zw f1 f45 f46 f47 dG hd hw hel u5 hgH L0 hx1 U1 N9 N5 y9 U8 K4 u7 v8 ?_;intro J hJ)
   refine qE (Has g xa _ Q4) (by simp[]) ?_;rintro r st' ⟨rfl,c8⟩;have V5:st'.H st1.next=.box 36 3 [u xi,u xa,u xb]:=by rw[c8.H _ sS];simp
   have hgH1:st'.H st.next=.box 25 2 (grL g):=by rw[c8.H _ (by have:=o9.next;simp only[aG]at this ⊢;omega),cE,aAa L0];exact hgH
   have W2:=(o9.trans (aA.new _ _)).trans c8;have X3:=(hkp0.trans (aA.new _ _)).trans c8;by_cases hma:xa∈g.vs;rotate_left
   .have hr:=Y3 21 (by rw[I6,aAj (.inl hma)]) (by decide);refine Xn hJ f1 V5 hgH1 hr hma ?_;exact X3
   (apply cS;simp[f1,V5,hgH1,hma])
   refine qE (Has g xb _ Q4) (by simp[]) ?_;rintro r st' ⟨rfl,o8⟩;by_cases Z5:xb∈g.vs;rotate_left
   .have hr:=Y3 21 (by rw[I6,aAj (.inr Z5)]) (by decide);refine pD hJ hr Z5 ?_;exact X3.trans o8
   have hb':lQ g k=0:=by rw[I6,aAa (sF2 hma Z5)]
   refine sL hJ f47 hw Z5 ?_;refine hJJ _ _ _ ?_ ⟨k+1,oO,rfl,sF1 f1,sF1 f45,sF1 f46,sS,W2.trans o8,N0 hb'⟩;omega
 .have hr:chk g=0:=by rw[S7];exact eK (fun j hj=>x8 j oO)
  clear hJJ;refine xw6 f1 f45 f46 f47 dG hr ?_;exact hkp0
theorem Km(l:List Ed):(eds l).all iK=true:=by
 induction l with
 |nil=>rfl
 |cons e l ih=>simp only[eds,aAF,List.all_append,ih,Bool.and_true];rfl
theorem RO(l:List Ed)(t:Nat)(st:St)(hl:l.length<=1048576):
 aB prog 19 [.sl t l.length (eds l)] st fun r st'=>r=.sl 0 l.length (eds l)/\aA st st':=by
 have I5:=Km l;have hel:=aI l;refine cH ?_;refine jK 36 3 ?_;refine zN func19 ntmps19 [.tmp 2] ?_
 (repeat' (first|apply qS|refine qK (zZ ?_)|(refine qR (zZ ?_);simp[I5,hel])|(apply qC;simp[I5,hel])|(refine w_e [5] ?_;intro J hJ;simp only[];simp[I5,hel];(repeat refine ca ?_);((try with_reducible refine⟨?_,?_⟩)<;>(try with_reducible intro x7)<;>refine zJ hJ ?_<;>clear hJ J<;>try subst x7))))
 .exact⟨st.next+1,l.length,⟨rfl,rfl⟩,36,3,eds l,sS,by rw[hel];exact aAm _,⟨rfl,aAv (by rw[hel];exact aAm _)⟩,((aA.new _ _).trans (aA.new _ _)).set oO _⟩
 .exact⟨st.next,0,⟨rfl,rfl⟩,36,3,[],sS,sS,⟨rfl,.inr rfl⟩,(aA.new _ _).set (aAm _) _⟩
theorem copied(g:Gr)(st:St)(hv:g.vs.length<=1048576)(he:g.es.length<=1048576):
 aB prog 109 [.ag (grL g)] st fun r st'=>r=.ag (grL g)/\aA st st':=by
 refine zN func109 ntmps109 [.cell 2 25] ?_;refine xw0 ?_
 (refine zS [] [st.next] [0,2,6,8,4,10,12,15] ?_;intro J hJ;simp[])
 refine qD (Rz g.vs 0 _ hv) (by simp[]) ?_;rintro r st' ⟨rfl,c8⟩;have V5:st'.H st.next=.box 25 2 (grL g):=by rw[c8.H _ (by simp;omega)];simp
 have hC1:st'.H (st.next+1)=.box 25 2 [.nil,.nil]:=by rw[c8.H _ sS];simp
 refine⟨fun _=>by simp[V5],?_⟩
 (apply bI;simp[V5])
 have I7:=c8.next;simp only[aG]at I7;refine qD (RO g.es 0 _ he) (by simp[]) ?_;rintro r st' ⟨rfl,o8⟩;have hB2:=(o8.H st.next oO).trans V5;have hC2:=(o8.H (st.next+1) oO).trans hC1;refine⟨fun _=>by simp[hB2],?_⟩
 (apply bI;simp[hB2,hC2];refine zJ hJ ?_)
 refine xw1 hC2 ?_;exact(((((aA.new _ _).trans (aA.new _ _)).trans c8).trans o8).set oO _)
theorem UM(a b:List Ed)(v8:a.length=b.length)(h:∀ j,j<a.length->a.getD j ed0=b.getD j ed0):a=b:=by apply aCZ v8;intro j h1 h2;have:=h j h1;rw[aAg,aAg,aAh h1,aAh h2]at this;exact this
theorem Qv(a b:List Int)(v8:a.length=b.length)(h:∀ j,j<a.length->a.getD j 0=b.getD j 0):a=b:=by apply aCZ v8;intro j h1 h2;have:=h j h1;rw[bL _ _ h1,bL _ _ h2]at this;exact this
theorem NV(a b:Gr)(st:St)(hv:a.vs.length<=1048576)(he:a.es.length<=1048576):
 aB prog 28 [.ag (grL a),.ag (grL b)] st fun r st'=>r=bb (decide (a=b))/\aA st st':=by
 have Y7:aA st ((st.new (.box 25 2 (grL a))).new (.box 25 2 (grL b))):=(aA.new _ _).trans (aA.new _ _);refine zN func28 ntmps28 [.tmp 4] ?_;by_cases h1:a.vs.length=b.vs.length;rotate_left
 .have h1':((a.vs.length:Int) != b.vs.length)=true:=by simp;omega
  have Zo:¬a=b:=fun h=>h1 (by rw[h]);refine xw2 h1' Zo ?_;exact Y7
 have h1':((a.vs.length:Int) != b.vs.length)=false:=by simp;omega
 by_cases h2:a.es.length=b.es.length;rotate_left
 .have h2':((a.es.length:Int) != b.es.length)=true:=by simp;omega
  have Zo:¬a=b:=fun h=>h2 (by rw[h]);refine xw3 h1' h2' Zo ?_;exact Y7
 have h2':((a.es.length:Int) != b.es.length)=false:=by simp;omega
 refine xw2 h1' h2' ?_;refine qL (fun n fr st'=>∃ k:Nat,k<=a.vs.length/\n=a.vs.length-k/\fr 2=.pt st.next 0/\fr 3=.pt (st.next+1) 0/\fr 25=i a.vs.length/\fr 26=i k/\st'=(st.new (.box 25 2 (grL a))).new (.box 25 2 (grL b))/\∀ j,j<k->a.vs.getD j 0=b.vs.getD j 0) a.vs.length ?_ ?_
 .exact⟨0,oO,oO,sS,sS,sS,sS,rfl,fun j h=>by omega⟩
 rintro n fr st' ⟨k,hk,rfl,f2,f3,f25,f26,rfl,x8⟩ JJ hJJ;by_cases dG:k<a.vs.length
 .have hd:=qG a.vs k dG;have z7:k<b.vs.length:=oO;have K7:=qG b.vs k z7;have hw:=qN k oO;generalize hx:a.vs.getD k 0=x at *;generalize hy:b.vs.getD k 0=y at *;by_cases G8:x=y
  .refine EW f2 f3 f25 f26 dG z7 hd K7 hw G8 ?_;refine hJJ _ _ _ ?_ ⟨k+1,oO,rfl,sF1 f2,sF1 f3,sF1 f25,sS,rfl,fun j hj=>?_⟩
   .omega
   .rcases aAS j k with h|h
    .exact x8 j h
    .obtain rfl:j=k:=oO;rw[hx,hy];exact G8
  .have Zo:¬a=b:=fun h=>G8 (by rw[<- hx,<- hy,h]);refine TF f2 f3 f25 f26 dG z7 hd K7 hw G8 Zo ?_;exact Y7
 have X9:=Qv a.vs b.vs h1 (fun j hj=>x8 j oO);clear hJJ x8;have hela:=aI a.es;have helb:=aI b.es;refine xw5 f2 f3 f25 f26 dG ?_;refine qL (fun n fr st'=>∃ k:Nat,k<=a.es.length/\n=a.es.length-k/\fr 2=.pt st.next 0/\fr 3=.pt (st.next+1) 0/\fr 43=i a.es.length/\fr 44=i k/\st'=(st.new (.box 25 2 (grL a))).new (.box 25 2 (grL b))/\∀ j,j<k->a.es.getD j ed0=b.es.getD j ed0) a.es.length ?_ ?_
 .exact⟨0,oO,oO,sF1 f2,sF1 f3,sS,sS,rfl,fun j h=>by omega⟩
 clear f2 f3 f25 f26 dG hk fr k;rintro n fr st' ⟨k,hk,rfl,f2,f3,f43,f44,rfl,x8⟩ JJ hJJ;by_cases dG:k<a.es.length
 .have hd:=aL a.es k dG;have z7:k<b.es.length:=oO;have K7:=aL b.es k z7;have hw:=qN k oO;have u5:k*3<a.es.length*3:=oO;have Q6:k*3<b.es.length*3:=oO;generalize hx:a.es.getD k ed0=x at *;generalize hy:b.es.getD k ed0=y at *;obtain⟨x1,x2,x3⟩:=x;obtain⟨y1,y2,y3⟩:=y;simp only at hd K7;by_cases G8:([x1,x2,x3]==[y1,y2,y3])=true
  .have hxy':([x1,x2,x3]:List Int)=[y1,y2,y3]:=by simpa using G8
   injection hxy' with e1 e2;injection e2 with e2 e3;injection e3 with e3 _;subst e1 e2 e3;refine YL f2 f3 f43 f44 dG z7 hd K7 hw hela helb u5 Q6 ?_;refine hJJ _ _ _ ?_ ⟨k+1,oO,rfl,sF1 f2,sF1 f3,sF1 f43,sS,rfl,fun j hj=>?_⟩
   .omega
   .rcases aAS j k with h|h
    .exact x8 j h
    .obtain rfl:j=k:=oO;rw[hx,hy]
  .have Zo:¬a=b:=fun h=>G8 (by rw[h]at hx;rw[hx]at hy;injection hy with e1 e2 e3;subst e1 e2 e3;simp);have hxyf:([x1,x2,x3]==[y1,y2,y3])=false:=by simpa using G8
   refine YV f2 f3 f43 f44 dG z7 hd K7 hw hela helb u5 Q6 hxyf Zo ?_;exact Y7
 .have hes:=UM a.es b.es h2 (fun j hj=>x8 j oO);have heq:a=b:=by cases a;cases b;simp only at X9 hes;subst X9 hes;rfl
  clear hJJ;subst heq;refine xw5 f2 f3 f43 f44 dG ?_;exact Y7
end Aw
end Go.Proofs.YtbgngpdonpeboaaGreatDoor
