/- The library's sort: partition. Written by gensort.py. -/
import Derived.Test.YtempldclppogmaaGreatDoorJa
set_option linter.unusedVariables false
set_option linter.unusedSimpArgs false
set_option maxHeartbeats 4000000
open Go.Proofs.Tryz
namespace Go.Proofs.YtempldclppogmaaGreatDoor
namespace Aw
open Go Go.RowKit Pl
def StU(P:Int->Bool)(c:List Int)(ii jj:Nat):Prop:=ii<=jj->P (c.getD ii 0)=false
def StD(P:Int->Bool)(c:List Int)(ii kk:Nat):Prop:=ii<=kk->P (c.getD kk 0)=true
theorem partition(l:List Int)(q a b pv:Nat)(st:St)(hl:small l)(YC:a<b)(hb:b<=l.length)(ZB:a<=pv)(Zt:pv<b)(hH:st.H q=.box 34 1 (us l)):
 aB prog 174 [.ms q 0 l.length,i a,i b,i pv] st fun r st'=>∃(c:List Int) (Xw:Nat) (p:Bool),r=.tu [i Xw,bb p]/\st'=bx st q c/\Pm a b l c/\a<=Xw/\Xw<b/\cD c a Xw b:=by
 unfold small at hl;refine zN func174 ntmps174 [.tmp 8,.tmp 9] ?_
 (repeat (apply qS));(refine zE ?_;intro J hJ;simp[];refine zJ hJ ?_)
 have B7:a<l.length:=oO;have B9:pv<l.length:=oO;have YP:=fun x y=>pZ st q l a pv (x:=x) (y:=y) oO oO;have hd0:=qG l a oO;have Xn:=qG l pv oO;have Xf:Pm a b l (sw l a pv):=Pm.one a pv oO oO oO oO oO;have hx:(sw l a pv).getD a 0=l.getD pv 0:=by
  rw[bZ _ _ _ _ oO oO];by_cases e:a=pv
  .rw[aAe e,e]
  .rw[aAa e,aAe rfl]
 generalize Q9:l.getD a 0=y0 at *;generalize D4:l.getD pv 0=x at *;have Xy:=YP y0 x rfl rfl
 (repeat (apply qS));(refine zS [] [q] [0,2,4,6,8,10,12,14,16,18,20,22,24,27,28,31] ?_;intro J hJ;simp[hH,B7,B9,hd0,Xn];(repeat refine ca ?_);refine zJ hJ ?_)
 rw[Xy];clear YP Xy hd0 Xn Q9;generalize hc:sw l a pv=c at *;clear hc;have Xh:=Xf.len;have w1:=qN a oO;have w2:=aG b oO oO;obtain⟨P,hPd⟩:∃ P:Int->Bool,∀ v,P v=decide (v<x):=⟨_,fun _=>rfl⟩;apply qS;refine bC (fun fr st2=>fr 0=.ms q 0 l.length/\fr 1=i a/\fr 10=i ((a+1:Nat):Int)/\fr 11=i ((b-1:Nat):Int)/\st2=bx st q c) (by(refine zE ?_;intro J hJ;simp[w1,w2];refine zJ hJ ?_);simp) ?_;rintro fr st2 ⟨f0,f1,fI,fJ,rfl⟩;have c8:a<a+1:=oO;have hij:a+1<=b-1+1:=oO;have I4:b-1<b:=oO;have YU:Lo P c a (a+1):=fun p h1 h2=>by omega
 have YT:Hi P c (b-1) b:=fun p h1 h2=>by omega
 generalize a+1=ii at *;generalize b-1=jj at *;clear w1 w2;have hd0:=qG c a oO;rw[hx]at hd0;apply qS;refine bC (fun fr st2=>∃ ii:Nat,a<ii/\ii<=jj+1/\fr 0=.ms q 0 l.length/\fr 1=i a/\fr 10=i ii/\fr 11=i jj/\st2=bx st q c/\Lo P c a ii/\StU P c ii jj) ?_ ?_
 .apply qB;refine qL (fun m fr st2=>∃ ii:Nat,a<ii/\ii<=jj+1/\m=jj+1-ii/\fr 0=.ms q 0 l.length/\fr 1=i a/\fr 10=i ii/\fr 11=i jj/\st2=bx st q c/\Lo P c a ii) (jj+1-ii) ?_ ?_
  .exact⟨ii,oO,oO,rfl,by simp[f0],by simp[f1],by simp[fI],by simp[fJ],rfl,YU⟩
  clear f0 f1 fI fJ YU c8 hij fr ii;rintro m fr st2 ⟨ii,c8,hij,rfl,f0,f1,fI,fJ,rfl,YU⟩ JJ hJJ;have y9:=qN ii oO;by_cases Xm:ii<=jj;rotate_left
  .clear hJJ
   (repeat (apply qS));(refine zS [] [q] [0,2,4,6,8,10,12,14,16,18,20,22,25,26] ?_;intro J hJ;simp[f0,f1,fI,fJ,Xm];refine zJ hJ ?_)
   (repeat' (first|refine qX (zZ ?_)|(apply qC;simp[])))
   exact⟨trivial,ii,oO,oO,by simp[f0],by simp[f1],by simp[fI],by simp[fJ],by trivial,YU,fun h=>absurd h Xm⟩
  have E7:ii<l.length:=oO;have Xn:=qG c ii oO;have z7:=YU.more;generalize hy:c.getD ii 0=y at *
  (repeat (apply qS));(refine zS [] [q] [0,2,4,6,8,10,12,14,16,18,20,22,25,26] ?_;intro J hJ;simp[f0,f1,fI,fJ,Xm,E7,B7,Xh,hd0,Xn])
  refine aK (uW y x _) ?_;rintro r s2 ⟨rfl,rfl⟩;refine⟨fun _=>by simp,?_⟩;have hP:=hPd y;by_cases YV:y<x
  ·(apply aS;simp[YV];refine zJ hJ ?_)
   (repeat' (first|apply qB|refine qK (zZ ?_)|(apply qC;simp[fI,y9])|(refine zE ?_;intro J hJ;simp[fI,y9];refine zJ hJ ?_)))
   exact hJJ (jj+1-(ii+1)) _ _ oO ⟨ii+1,oO,oO,rfl,by simp[f0],by simp[f1],sS,by simp[fJ],rfl,z7 (by rw[hP];simp[YV])⟩
  .clear hJJ
   (apply aS;simp[YV];refine zJ hJ ?_)
   (repeat' (first|refine qX (zZ ?_)|(apply qC;simp[])))
   exact⟨trivial,ii,oO,oO,by simp[f0],by simp[f1],by simp[fI],by simp[fJ],by trivial,YU,fun _=>by rw[hy,hP];simp[YV]⟩
 clear f0 f1 fI fJ YU c8 hij fr ii;rintro fr st2 ⟨ii,c8,hij,f0,f1,fI,fJ,rfl,YU,YY⟩;apply qS;refine bC (fun fr st2=>∃ kk:Nat,a<=kk/\kk<=jj/\ii<=kk+1/\fr 0=.ms q 0 l.length/\fr 1=i a/\fr 10=i ii/\fr 11=i kk/\st2=bx st q c/\Hi P c kk b/\StD P c ii kk) ?_ ?_
 .apply qB;refine qL (fun m fr st2=>∃ kk:Nat,a<=kk/\kk<=jj/\ii<=kk+1/\kk=m/\fr 0=.ms q 0 l.length/\fr 1=i a/\fr 10=i ii/\fr 11=i kk/\st2=bx st q c/\Hi P c kk b) jj ?_ ?_
  .exact⟨jj,oO,oO,oO,rfl,by simp[f0],by simp[f1],by simp[fI],by simp[fJ],rfl,YT⟩
  clear f0 f1 fI fJ YT fr;rintro m fr st2 ⟨kk,n9,U3,S0,rfl,f0,f1,fI,fJ,rfl,YT⟩ JJ hJJ;by_cases Xm:ii<=kk;rotate_left
  .clear hJJ
   (repeat (apply qS));(refine zS [] [q] [0,2,4,6,8,10,12,14,16,18,20,22,25,26,28] ?_;intro J hJ;simp[f0,f1,fI,fJ,Xm];refine zJ hJ ?_)
   (repeat' (first|refine qX (zZ ?_)|(apply qC;simp[])))
   exact⟨trivial,kk,oO,oO,oO,by simp[f0],by simp[f1],by simp[fI],by simp[fJ],by trivial,YT,fun h=>absurd h Xm⟩
  have P8:=aG kk oO oO;have hlj:kk<l.length:=oO;have Xn:=qG c kk oO;have z7:=YT.more;generalize hy:c.getD kk 0=y at *
  (repeat (apply qS));(refine zS [] [q] [0,2,4,6,8,10,12,14,16,18,20,22,25,26,28] ?_;intro J hJ;simp[f0,f1,fI,fJ,Xm,hlj,B7,Xh,hd0,Xn])
  refine aK (uW y x _) ?_;rintro r s2 ⟨rfl,rfl⟩;refine⟨fun _=>by simp,?_⟩;have hP:=hPd y;by_cases YV:y<x
  .clear hJJ
   (apply aS;simp[YV];refine zJ hJ ?_)
   (repeat' (first|refine qX (zZ ?_)|(apply qC;simp[])))
   exact⟨trivial,kk,oO,oO,oO,by simp[f0],by simp[f1],by simp[fI],by simp[fJ],by trivial,YT,fun _=>by rw[hy,hP];simp[YV]⟩
  ·(apply aS;simp[YV];refine zJ hJ ?_)
   (repeat' (first|apply qB|refine qK (zZ ?_)|(apply qC;simp[fJ,P8])|(refine zE ?_;intro J hJ;simp[fJ,P8];refine zJ hJ ?_)))
   exact hJJ (kk-1) _ _ oO ⟨kk-1,oO,oO,oO,rfl,by simp[f0],by simp[f1],by simp[fI],sS,rfl,z7 oO (by rw[hP];simp[YV])⟩
 clear f0 f1 fI fJ YT fr;rintro fr st2 ⟨kk,n9,U3,S0,f0,f1,fI,fJ,rfl,YT,Yx⟩;by_cases Xm:ii<=kk;rotate_left
 .have hke:ii=kk+1:=oO;have j8:=lN (hke ▸ YU) YT oO oO oO;have YE:=Xf.step kk a oO oO oO oO oO;have Ze:kk<l.length:=oO;have Xn:=qG c kk oO;have YP:=fun x y=>dL st q c kk a (x:=x) (y:=y) oO oO;generalize D4:c.getD kk 0=y1 at *;have Xy:=YP y1 x rfl hx
  (repeat' (first|apply qS|(apply qC;simp[f0,f1,fI,fJ,Xm];(try with_reducible intro hc))|(refine zE ?_;intro J hJ;simp[f0,f1,fI,fJ,Xm];refine zJ hJ ?_)))
  (refine zS [] [q] [0,2,4,6,8,10,12,14,16,18,20,22,24,27,28,31] ?_;intro J hJ;simp[f0,f1,fI,fJ,B7,Ze,Xh,hd0,Xn];(repeat refine ca ?_);refine zJ hJ ?_)
  (repeat' (first|apply qS|(refine qR (zZ ?_);simp[f0,f1,fI,fJ])|(refine zE ?_;intro J hJ;simp[f0,f1,fI,fJ];refine zJ hJ ?_)))
  exact⟨_,kk,rfl,Xy,YE,oO,oO,by unfold cD;rw[j8.2,hx];have h:=j8.1;rwa [show P=_ from funext hPd]at h⟩
 have Zj:ii<kk:=by
  rcases aAN ii kk with h|h
  .exact h
  .exfalso;have e:ii=kk:=oO;have h1:=YY oO;have h2:=Yx Xm;rw[e,h2]at h1;cases h1
 have C9:=YU.swp Zj oO (Yx Xm);have D3:=YT.swp Zj oO (YY oO);have YE:=Xf.step ii kk oO oO oO oO oO;have Z5:(sw c ii kk).getD a 0=x:=by rw[bZ _ _ _ _ oO oO,aAa oO,aAa oO];exact hx
 have E7:ii<l.length:=oO;have Ze:kk<l.length:=oO;have Xn:=qG c ii oO;have YM:=qG c kk oO;have YP:=fun x y=>dL st q c ii kk (x:=x) (y:=y) oO oO;have y9:=qN ii oO;have hka:=aG kk oO oO;clear YY Yx;generalize D4:c.getD ii 0=y1 at *;generalize p7:c.getD kk 0=y2 at *;have Xy:=YP y1 y2 rfl rfl
 (repeat' (first|apply qS|refine qK (zZ ?_)|(apply qC;simp[f0,f1,fI,fJ,Xm];(try with_reducible refine⟨?_,?_⟩)<;>(try with_reducible intro hc)<;>try (exfalso;omega))|(refine zE ?_;intro J hJ;simp[f0,f1,fI,fJ,Xm];refine zJ hJ ?_)))
 (refine zS [] [q] [0,2,4,6,8,10,12,14,16,18,20,22,24,27,28,31] ?_;intro J hJ;simp[f0,f1,fI,fJ,E7,Ze,Xh,Xn,YM];(repeat refine ca ?_);refine zJ hJ ?_)
 (repeat' (first|apply qS|apply qB|(refine zE ?_;intro J hJ;simp[fI,fJ,y9,hka];refine zJ hJ ?_)))
 rw[Xy];refine qL (fun m fr st2=>∃(ii jj:Nat) (c:List Int),a<ii/\ii<=jj+1/\jj<b/\jj=m/\fr 0=.ms q 0 l.length/\fr 1=i a/\fr 10=i ii/\fr 11=i jj/\st2=bx st q c/\Pm a b l c/\c.getD a 0=x/\Lo P c a ii/\Hi P c jj b) (kk-1) ?_ ?_
 .exact⟨ii+1,kk-1,sw c ii kk,oO,oO,oO,rfl,by simp[f0],by simp[f1],sS,sS,rfl,YE,Z5,C9,D3⟩
 clear f0 f1 fI fJ YU YT C9 D3 Xf YE hx Z5 Xh hd0 Xn YM YP Xy D4 p7 y1 y2 c8 hij n9 S0 Zj E7 Ze y9 hka Xm U3 I4 ii jj kk c fr;rintro m fr st2 ⟨ii,jj,c,c8,hij,I4,rfl,f0,f1,fI,fJ,rfl,Xf,hx,YU,YT⟩ JJ0 x9;have Xh:=Xf.len;have hd0:=qG c a oO;rw[hx]at hd0;apply qB;apply qS;refine bC (fun fr st2=>∃ ii:Nat,a<ii/\ii<=jj+1/\fr 0=.ms q 0 l.length/\fr 1=i a/\fr 10=i ii/\fr 11=i jj/\st2=bx st q c/\Lo P c a ii/\StU P c ii jj) ?_ ?_
 .apply qB;refine qL (fun m fr st2=>∃ ii:Nat,a<ii/\ii<=jj+1/\m=jj+1-ii/\fr 0=.ms q 0 l.length/\fr 1=i a/\fr 10=i ii/\fr 11=i jj/\st2=bx st q c/\Lo P c a ii) (jj+1-ii) ?_ ?_
  .exact⟨ii,oO,oO,rfl,by simp[f0],by simp[f1],by simp[fI],by simp[fJ],rfl,YU⟩
  clear f0 f1 fI fJ YU c8 hij fr ii;rintro m fr st2 ⟨ii,c8,hij,rfl,f0,f1,fI,fJ,rfl,YU⟩ JJ hJJ;have y9:=qN ii oO;by_cases Xm:ii<=jj;rotate_left
  .clear hJJ
   (repeat (apply qS));(refine zS [] [q] [0,2,4,6,8,10,12,14,16,18,20,22,25,26] ?_;intro J hJ;simp[f0,f1,fI,fJ,Xm];refine zJ hJ ?_)
   (repeat' (first|refine qX (zZ ?_)|(apply qC;simp[])))
   exact⟨trivial,ii,oO,oO,by simp[f0],by simp[f1],by simp[fI],by simp[fJ],by trivial,YU,fun h=>absurd h Xm⟩
  have E7:ii<l.length:=oO;have Xn:=qG c ii oO;have z7:=YU.more;generalize hy:c.getD ii 0=y at *
  (repeat (apply qS));(refine zS [] [q] [0,2,4,6,8,10,12,14,16,18,20,22,25,26] ?_;intro J hJ;simp[f0,f1,fI,fJ,Xm,E7,B7,Xh,hd0,Xn])
  refine aK (uW y x _) ?_;rintro r s2 ⟨rfl,rfl⟩;refine⟨fun _=>by simp,?_⟩;have hP:=hPd y;by_cases YV:y<x
  ·(apply aS;simp[YV];refine zJ hJ ?_)
   (repeat' (first|apply qB|refine qK (zZ ?_)|(apply qC;simp[fI,y9])|(refine zE ?_;intro J hJ;simp[fI,y9];refine zJ hJ ?_)))
   exact hJJ (jj+1-(ii+1)) _ _ oO ⟨ii+1,oO,oO,rfl,by simp[f0],by simp[f1],sS,by simp[fJ],rfl,z7 (by rw[hP];simp[YV])⟩
  .clear hJJ
   (apply aS;simp[YV];refine zJ hJ ?_)
   (repeat' (first|refine qX (zZ ?_)|(apply qC;simp[])))
   exact⟨trivial,ii,oO,oO,by simp[f0],by simp[f1],by simp[fI],by simp[fJ],by trivial,YU,fun _=>by rw[hy,hP];simp[YV]⟩
 clear f0 f1 fI fJ YU c8 hij fr ii;rintro fr st2 ⟨ii,c8,hij,f0,f1,fI,fJ,rfl,YU,YY⟩;apply qS;refine bC (fun fr st2=>∃ kk:Nat,a<=kk/\kk<=jj/\ii<=kk+1/\fr 0=.ms q 0 l.length/\fr 1=i a/\fr 10=i ii/\fr 11=i kk/\st2=bx st q c/\Hi P c kk b/\StD P c ii kk) ?_ ?_
 .apply qB;refine qL (fun m fr st2=>∃ kk:Nat,a<=kk/\kk<=jj/\ii<=kk+1/\kk=m/\fr 0=.ms q 0 l.length/\fr 1=i a/\fr 10=i ii/\fr 11=i kk/\st2=bx st q c/\Hi P c kk b) jj ?_ ?_
  .exact⟨jj,oO,oO,oO,rfl,by simp[f0],by simp[f1],by simp[fI],by simp[fJ],rfl,YT⟩
  clear f0 f1 fI fJ YT fr;rintro m fr st2 ⟨kk,n9,U3,S0,rfl,f0,f1,fI,fJ,rfl,YT⟩ JJ hJJ;by_cases Xm:ii<=kk;rotate_left
  .clear hJJ
   (repeat (apply qS));(refine zS [] [q] [0,2,4,6,8,10,12,14,16,18,20,22,25,26,28] ?_;intro J hJ;simp[f0,f1,fI,fJ,Xm];refine zJ hJ ?_)
   (repeat' (first|refine qX (zZ ?_)|(apply qC;simp[])))
   exact⟨trivial,kk,oO,oO,oO,by simp[f0],by simp[f1],by simp[fI],by simp[fJ],by trivial,YT,fun h=>absurd h Xm⟩
  have P8:=aG kk oO oO;have hlj:kk<l.length:=oO;have Xn:=qG c kk oO;have z7:=YT.more;generalize hy:c.getD kk 0=y at *
  (repeat (apply qS));(refine zS [] [q] [0,2,4,6,8,10,12,14,16,18,20,22,25,26,28] ?_;intro J hJ;simp[f0,f1,fI,fJ,Xm,hlj,B7,Xh,hd0,Xn])
  refine aK (uW y x _) ?_;rintro r s2 ⟨rfl,rfl⟩;refine⟨fun _=>by simp,?_⟩;have hP:=hPd y;by_cases YV:y<x
  .clear hJJ
   (apply aS;simp[YV];refine zJ hJ ?_)
   (repeat' (first|refine qX (zZ ?_)|(apply qC;simp[])))
   exact⟨trivial,kk,oO,oO,oO,by simp[f0],by simp[f1],by simp[fI],by simp[fJ],by trivial,YT,fun _=>by rw[hy,hP];simp[YV]⟩
  ·(apply aS;simp[YV];refine zJ hJ ?_)
   (repeat' (first|apply qB|refine qK (zZ ?_)|(apply qC;simp[fJ,P8])|(refine zE ?_;intro J hJ;simp[fJ,P8];refine zJ hJ ?_)))
   exact hJJ (kk-1) _ _ oO ⟨kk-1,oO,oO,oO,rfl,by simp[f0],by simp[f1],by simp[fI],sS,rfl,z7 oO (by rw[hP];simp[YV])⟩
 clear f0 f1 fI fJ YT fr;rintro fr st2 ⟨kk,n9,U3,S0,f0,f1,fI,fJ,rfl,YT,Yx⟩;by_cases Xm:ii<=kk;rotate_left
 .clear x9;have hke:ii=kk+1:=oO;have j8:=lN (hke ▸ YU) YT oO oO oO;have YE:=Xf.step kk a oO oO oO oO oO;have Ze:kk<l.length:=oO;have Xn:=qG c kk oO;have YP:=fun x y=>dL st q c kk a (x:=x) (y:=y) oO oO;generalize D4:c.getD kk 0=y1 at *;have Xy:=YP y1 x rfl hx
  (repeat' (first|apply qS|refine qX (zZ ?_)|(apply qC;simp[f0,f1,fI,fJ,Xm];(try with_reducible intro hc))|(refine zE ?_;intro J hJ;simp[f0,f1,fI,fJ,Xm];refine zJ hJ ?_)))
  (refine zS [] [q] [0,2,4,6,8,10,12,14,16,18,20,22,24,27,28,31] ?_;intro J hJ;simp[f0,f1,fI,fJ,B7,Ze,Xh,hd0,Xn];(repeat refine ca ?_);refine zJ hJ ?_)
  (repeat' (first|apply qS|(refine qR (zZ ?_);simp[f0,f1,fI,fJ])|(refine zE ?_;intro J hJ;simp[f0,f1,fI,fJ];refine zJ hJ ?_)))
  exact⟨_,kk,rfl,Xy,YE,oO,oO,by unfold cD;rw[j8.2,hx];have h:=j8.1;rwa [show P=_ from funext hPd]at h⟩
 have Zj:ii<kk:=by
  rcases aAN ii kk with h|h
  .exact h
  .exfalso;have e:ii=kk:=oO;have h1:=YY oO;have h2:=Yx Xm;rw[e,h2]at h1;cases h1
 have C9:=YU.swp Zj oO (Yx Xm);have D3:=YT.swp Zj oO (YY oO);have YE:=Xf.step ii kk oO oO oO oO oO;have Z5:(sw c ii kk).getD a 0=x:=by rw[bZ _ _ _ _ oO oO,aAa oO,aAa oO];exact hx
 have E7:ii<l.length:=oO;have Ze:kk<l.length:=oO;have Xn:=qG c ii oO;have YM:=qG c kk oO;have YP:=fun x y=>dL st q c ii kk (x:=x) (y:=y) oO oO;have y9:=qN ii oO;have hka:=aG kk oO oO;clear YY Yx;generalize D4:c.getD ii 0=y1 at *;generalize p7:c.getD kk 0=y2 at *;have Xy:=YP y1 y2 rfl rfl
 (repeat' (first|apply qS|refine qK (zZ ?_)|(apply qC;simp[f0,f1,fI,fJ,Xm];(try with_reducible refine⟨?_,?_⟩)<;>(try with_reducible intro hc)<;>try (exfalso;omega))|(refine zE ?_;intro J hJ;simp[f0,f1,fI,fJ,Xm];refine zJ hJ ?_)))
 (refine zS [] [q] [0,2,4,6,8,10,12,14,16,18,20,22,24,27,28,31] ?_;intro J hJ;simp[f0,f1,fI,fJ,E7,Ze,Xh,Xn,YM];(repeat refine ca ?_);refine zJ hJ ?_)
 (repeat' (first|apply qS|(refine zE ?_;intro J hJ;simp[fI,fJ,y9,hka];refine zJ hJ ?_)))
 exact x9 (kk-1) _ _ oO ⟨ii+1,kk-1,sw c ii kk,oO,oO,oO,rfl,by simp[f0],by simp[f1],sS,sS,Xy,YE,Z5,C9,D3⟩
theorem gM(l:List Int)(q a b pv:Nat)(st:St)(hl:small l)(YC:a<b)(hb:b<=l.length)(ZB:a<=pv)(Zt:pv<b)(hH:st.H q=.box 34 1 (us l)):
 aB prog 173 [.ms q 0 l.length,i a,i b,i pv] st fun r st'=>∃(c:List Int) (Xw:Nat),r=i Xw/\st'=bx st q c/\Pm a b l c/\a<Xw/\Xw<=b/\uE c a Xw b (l.getD pv 0):=by
 unfold small at hl;refine zN func173 ntmps173 [.tmp 8] ?_
 (repeat (apply qS));(refine zE ?_;intro J hJ;simp[];refine zJ hJ ?_)
 have B7:a<l.length:=oO;have B9:pv<l.length:=oO;have YP:=fun x y=>pZ st q l a pv (x:=x) (y:=y) oO oO;have hd0:=qG l a oO;have Xn:=qG l pv oO;have Xf:Pm a b l (sw l a pv):=Pm.one a pv oO oO oO oO oO;have hx:(sw l a pv).getD a 0=l.getD pv 0:=by
  rw[bZ _ _ _ _ oO oO];by_cases e:a=pv
  .rw[aAe e,e]
  .rw[aAa e,aAe rfl]
 generalize Q9:l.getD a 0=y0 at *;generalize D4:l.getD pv 0=x at *;have Xy:=YP y0 x rfl rfl
 (repeat (apply qS));(refine zS [] [q] [0,2,4,6,8,10,12,14,16,18,20,22,24,27,28,31] ?_;intro J hJ;simp[hH,B7,B9,hd0,Xn];(repeat refine ca ?_);refine zJ hJ ?_)
 rw[Xy];clear YP Xy hd0 Xn Q9;generalize hc:sw l a pv=c at *;clear hc;have Xh:=Xf.len;have w1:=qN a oO;have w2:=aG b oO oO;obtain⟨P,hPd⟩:∃ P:Int->Bool,∀ v,P v=!decide (x<v):=⟨_,fun _=>rfl⟩;apply qS;refine bC (fun fr st2=>fr 0=.ms q 0 l.length/\fr 1=i a/\fr 9=i ((a+1:Nat):Int)/\fr 10=i ((b-1:Nat):Int)/\st2=bx st q c) (by(refine zE ?_;intro J hJ;simp[w1,w2];refine zJ hJ ?_);simp) ?_;rintro fr st2 ⟨f0,f1,fI,fJ,rfl⟩;have c8:a<a+1:=oO;have hij:a+1<=b-1+1:=oO;have I4:b-1<b:=oO;have YU:Lo P c a (a+1):=fun p h1 h2=>by omega
 have YT:Hi P c (b-1) b:=fun p h1 h2=>by omega
 generalize a+1=ii at *;generalize b-1=jj at *;clear w1 w2;have hd0:=qG c a oO;rw[hx]at hd0;apply qS;apply qB;refine qL (fun m fr st2=>∃(ii jj:Nat) (c:List Int),a<ii/\ii<=jj+1/\jj<b/\jj=m/\fr 0=.ms q 0 l.length/\fr 1=i a/\fr 9=i ii/\fr 10=i jj/\st2=bx st q c/\Pm a b l c/\c.getD a 0=x/\Lo P c a ii/\Hi P c jj b) jj ?_ ?_
 .exact⟨ii,jj,c,oO,oO,oO,rfl,f0,f1,fI,fJ,rfl,Xf,hx,YU,YT⟩
 clear f0 f1 fI fJ YU YT Xf hx Xh hd0 c8 hij I4 ii jj c fr;rintro m fr st2 ⟨ii,jj,c,c8,hij,I4,rfl,f0,f1,fI,fJ,rfl,Xf,hx,YU,YT⟩ JJ0 x9;have Xh:=Xf.len;have hd0:=qG c a oO;rw[hx]at hd0;apply qB;apply qS;refine bC (fun fr st2=>∃ ii:Nat,a<ii/\ii<=jj+1/\fr 0=.ms q 0 l.length/\fr 1=i a/\fr 9=i ii/\fr 10=i jj/\st2=bx st q c/\Lo P c a ii/\StU P c ii jj) ?_ ?_
 .apply qB;refine qL (fun m fr st2=>∃ ii:Nat,a<ii/\ii<=jj+1/\m=jj+1-ii/\fr 0=.ms q 0 l.length/\fr 1=i a/\fr 9=i ii/\fr 10=i jj/\st2=bx st q c/\Lo P c a ii) (jj+1-ii) ?_ ?_
  .exact⟨ii,oO,oO,rfl,by simp[f0],by simp[f1],by simp[fI],by simp[fJ],rfl,YU⟩
  clear f0 f1 fI fJ YU c8 hij fr ii;rintro m fr st2 ⟨ii,c8,hij,rfl,f0,f1,fI,fJ,rfl,YU⟩ JJ hJJ;have y9:=qN ii oO;by_cases Xm:ii<=jj;rotate_left
  .clear hJJ
   (repeat (apply qS));(refine zS [] [q] [0,2,4,6,8,10,12,14,16,18,20,22,25,26,28] ?_;intro J hJ;simp[f0,f1,fI,fJ,Xm];refine zJ hJ ?_)
   (repeat' (first|refine qX (zZ ?_)|(apply qC;simp[])))
   exact⟨trivial,ii,oO,oO,by simp[f0],by simp[f1],by simp[fI],by simp[fJ],by trivial,YU,fun h=>absurd h Xm⟩
  have E7:ii<l.length:=oO;have Xn:=qG c ii oO;have z7:=YU.more;generalize hy:c.getD ii 0=y at *
  (repeat (apply qS));(refine zS [] [q] [0,2,4,6,8,10,12,14,16,18,20,22,25,26,28] ?_;intro J hJ;simp[f0,f1,fI,fJ,Xm,E7,B7,Xh,hd0,Xn])
  refine aK (uW x y _) ?_;rintro r s2 ⟨rfl,rfl⟩;refine⟨fun _=>by simp,?_⟩;have hP:=hPd y;by_cases YV:x<y
  .clear hJJ
   (apply aS;simp[YV];refine zJ hJ ?_)
   (repeat' (first|refine qX (zZ ?_)|(apply qC;simp[])))
   exact⟨trivial,ii,oO,oO,by simp[f0],by simp[f1],by simp[fI],by simp[fJ],by trivial,YU,fun _=>by rw[hy,hP];simp[YV]⟩
  ·(apply aS;simp[YV];refine zJ hJ ?_)
   (repeat' (first|apply qB|refine qK (zZ ?_)|(apply qC;simp[fI,y9])|(refine zE ?_;intro J hJ;simp[fI,y9];refine zJ hJ ?_)))
   exact hJJ (jj+1-(ii+1)) _ _ oO ⟨ii+1,oO,oO,rfl,by simp[f0],by simp[f1],sS,by simp[fJ],rfl,z7 (by rw[hP];simp[YV])⟩
 clear f0 f1 fI fJ YU c8 hij fr ii;rintro fr st2 ⟨ii,c8,hij,f0,f1,fI,fJ,rfl,YU,YY⟩;apply qS;refine bC (fun fr st2=>∃ kk:Nat,a<=kk/\kk<=jj/\ii<=kk+1/\fr 0=.ms q 0 l.length/\fr 1=i a/\fr 9=i ii/\fr 10=i kk/\st2=bx st q c/\Hi P c kk b/\StD P c ii kk) ?_ ?_
 .apply qB;refine qL (fun m fr st2=>∃ kk:Nat,a<=kk/\kk<=jj/\ii<=kk+1/\kk=m/\fr 0=.ms q 0 l.length/\fr 1=i a/\fr 9=i ii/\fr 10=i kk/\st2=bx st q c/\Hi P c kk b) jj ?_ ?_
  .exact⟨jj,oO,oO,oO,rfl,by simp[f0],by simp[f1],by simp[fI],by simp[fJ],rfl,YT⟩
  clear f0 f1 fI fJ YT fr;rintro m fr st2 ⟨kk,n9,U3,S0,rfl,f0,f1,fI,fJ,rfl,YT⟩ JJ hJJ;by_cases Xm:ii<=kk;rotate_left
  .clear hJJ
   (repeat (apply qS));(refine zS [] [q] [0,2,4,6,8,10,12,14,16,18,20,22,25,26] ?_;intro J hJ;simp[f0,f1,fI,fJ,Xm];refine zJ hJ ?_)
   (repeat' (first|refine qX (zZ ?_)|(apply qC;simp[])))
   exact⟨trivial,kk,oO,oO,oO,by simp[f0],by simp[f1],by simp[fI],by simp[fJ],by trivial,YT,fun h=>absurd h Xm⟩
  have P8:=aG kk oO oO;have hlj:kk<l.length:=oO;have Xn:=qG c kk oO;have z7:=YT.more;generalize hy:c.getD kk 0=y at *
  (repeat (apply qS));(refine zS [] [q] [0,2,4,6,8,10,12,14,16,18,20,22,25,26] ?_;intro J hJ;simp[f0,f1,fI,fJ,Xm,hlj,B7,Xh,hd0,Xn])
  refine aK (uW x y _) ?_;rintro r s2 ⟨rfl,rfl⟩;refine⟨fun _=>by simp,?_⟩;have hP:=hPd y;by_cases YV:x<y
  ·(apply aS;simp[YV];refine zJ hJ ?_)
   (repeat' (first|apply qB|refine qK (zZ ?_)|(apply qC;simp[fJ,P8])|(refine zE ?_;intro J hJ;simp[fJ,P8];refine zJ hJ ?_)))
   exact hJJ (kk-1) _ _ oO ⟨kk-1,oO,oO,oO,rfl,by simp[f0],by simp[f1],by simp[fI],sS,rfl,z7 oO (by rw[hP];simp[YV])⟩
  .clear hJJ
   (apply aS;simp[YV];refine zJ hJ ?_)
   (repeat' (first|refine qX (zZ ?_)|(apply qC;simp[])))
   exact⟨trivial,kk,oO,oO,oO,by simp[f0],by simp[f1],by simp[fI],by simp[fJ],by trivial,YT,fun _=>by rw[hy,hP];simp[YV]⟩
 clear f0 f1 fI fJ YT fr;rintro fr st2 ⟨kk,n9,U3,S0,f0,f1,fI,fJ,rfl,YT,Yx⟩;by_cases Xm:ii<=kk;rotate_left
 .clear x9
  (repeat' (first|apply qS|refine qX (zZ ?_)|(refine qR (zZ ?_);simp[f0,f1,fI,fJ,Xm])|(apply qC;simp[f0,f1,fI,fJ,Xm];(try with_reducible intro hc))|(refine zE ?_;intro J hJ;simp[f0,f1,fI,fJ,Xm];refine zJ hJ ?_)))
  refine⟨c,ii,rfl,rfl,Xf,oO,oO,fun p h1 h2=>?_,fun p h1 h2=>?_⟩
  .by_cases e:p=a
   .rw[e,hx];exact aCe _
   .have:=YU p oO h2;rw[hPd]at this;simpa using this
  .have:=YT p oO h2;rw[hPd]at this;simpa using this
 have Zj:ii<kk:=by
  rcases aAN ii kk with h|h
  .exact h
  .exfalso;have e:ii=kk:=oO;have h1:=YY oO;have h2:=Yx Xm;rw[e,h2]at h1;cases h1
 have C9:=YU.swp Zj oO (Yx Xm);have D3:=YT.swp Zj oO (YY oO);have YE:=Xf.step ii kk oO oO oO oO oO;have Z5:(sw c ii kk).getD a 0=x:=by rw[bZ _ _ _ _ oO oO,aAa oO,aAa oO];exact hx
 have E7:ii<l.length:=oO;have Ze:kk<l.length:=oO;have Xn:=qG c ii oO;have YM:=qG c kk oO;have YP:=fun x y=>dL st q c ii kk (x:=x) (y:=y) oO oO;have y9:=qN ii oO;have hka:=aG kk oO oO;clear YY Yx;generalize D4:c.getD ii 0=y1 at *;generalize p7:c.getD kk 0=y2 at *;have Xy:=YP y1 y2 rfl rfl
 (repeat' (first|apply qS|refine qK (zZ ?_)|(apply qC;simp[f0,f1,fI,fJ,Xm];(try with_reducible refine⟨?_,?_⟩)<;>(try with_reducible intro hc)<;>try (exfalso;omega))|(refine zE ?_;intro J hJ;simp[f0,f1,fI,fJ,Xm];refine zJ hJ ?_)))
 (refine zS [] [q] [0,2,4,6,8,10,12,14,16,18,20,22,24,27,28,31] ?_;intro J hJ;simp[f0,f1,fI,fJ,E7,Ze,Xh,Xn,YM];(repeat refine ca ?_);refine zJ hJ ?_)
 (repeat' (first|apply qS|(refine zE ?_;intro J hJ;simp[fI,fJ,y9,hka];refine zJ hJ ?_)))
 exact x9 (kk-1) _ _ oO ⟨ii+1,kk-1,sw c ii kk,oO,oO,oO,rfl,by simp[f0],by simp[f1],sS,sS,Xy,YE,Z5,C9,D3⟩
def gK(l:List Int)(a b:Nat):Prop:=0<a->∀ j,a<=j->j<b->l.getD (a-1) 0<=l.getD j 0
theorem gK.pm{l c:List Int}{a b:Nat}(h:gK l a b)(k:Pm a b l c):gK c a b:=by intro h0 j h1 h2;rw[k.out (a-1) oO];exact k.all (fun x=>l.getD (a-1) 0<=x) (fun j h1 h2=>h h0 j h1 h2) j h1 h2
def Sw(c:List Int)(k b:Nat):Prop:=k<b->c.getD k 0<c.getD (k-1) 0
def Pj(p:Bool)(a b:Nat)(c:List Int):Prop:=p=true->Srt a b c
def wS(q a b k j:Nat)(l:List Int)(st:St)(fr:Frm)(st2:St):Prop:=∃ c:List Int,fr 0=.ms q 0 l.length/\fr 1=i a/\fr 2=i b/\fr 7=i k/\fr 8=i j/\st2=bx st q c/\Pm a b l c/\Srt a k c
theorem dI(l:List Int)(q a b:Nat)(st:St)(hl:small l)(ha:a<b)(hb:b<=l.length)(hah:gK l a b)(hH:st.H q=.box 34 1 (us l)):
 aB prog 171 [.ms q 0 l.length,i a,i b] st fun r st'=>∃ c p,r=bb p/\st'=bx st q c/\Pm a b l c/\Pj p a b c:=by
 unfold small at hl;refine zN func171 ntmps171 [.tmp 6] ?_;have G7:=qN a oO
 (repeat' (first|apply qS|apply qB|(refine zE ?_;intro J hJ;simp[G7];refine zJ hJ ?_)))
 refine qL (fun n fr st2=>∃(j k:Nat) (c:List Int),j<=5/\n=5-j/\a<k/\k<=b/\fr 0=.ms q 0 l.length/\fr 1=i a/\fr 2=i b/\fr 7=i k/\fr 8=i j/\st2=bx st q c/\Pm a b l c/\Srt a k c) 5 ?_ ?_
 .exact⟨0,a+1,l,oO,rfl,oO,oO,sS,sS,sS,sS,sS,fH hH,.refl,fun p q h1 h2 h3=>by omega⟩
 rintro n fr st2 ⟨j,k,c,hj,rfl,n9,B3,f0,f1,f2,f7,f8,rfl,Xf,hs⟩ J0 x9;by_cases hj5:(j:Int)<5;rotate_left
 .clear x9
  (repeat' (first|apply qS|refine qX (zZ ?_)|(refine qR (zZ ?_);simp[f8,hj5])|(apply qC;simp[f8,hj5])|(refine zE ?_;intro J hJ;simp[f8,hj5];refine zJ hJ ?_)))
  exact⟨c,rfl,Xf,fun h=>by cases h⟩
 have Xh:=Xf.len
 (repeat (apply qS));(refine zE ?_;intro J hJ;simp[f8,hj5];refine zJ hJ ?_)
 (apply qC;simp[])
 refine qK (zZ ?_);apply qS;apply qB;apply qS;refine bC (fun fr st2=>∃ k:Nat,a<k/\k<=b/\fr 0=.ms q 0 l.length/\fr 1=i a/\fr 2=i b/\fr 7=i k/\fr 8=i j/\st2=bx st q c/\Srt a k c/\Sw c k b) ?_ ?_
 .apply qB;refine qL (fun n fr st2=>∃ k:Nat,n=b-k/\a<k/\k<=b/\fr 0=.ms q 0 l.length/\fr 1=i a/\fr 2=i b/\fr 7=i k/\fr 8=i j/\st2=bx st q c/\Srt a k c) (b-k) ?_ ?_
  .exact⟨k,rfl,n9,B3,by simp[f0],by simp[f1],by simp[f2],by simp[f7],by simp[f8],rfl,hs⟩
  clear f0 f1 f2 f7 f8 hs n9 B3 fr k;rintro n fr st2 ⟨k,rfl,n9,B3,f0,f1,f2,f7,f8,rfl,hs⟩ JJ hJJ;by_cases GD:k<b;rotate_left
  .clear hJJ
   (repeat (apply qS));(refine zS [] [q] [0,2,4,6,8,10,12,14,16,18,20,22,24,27,28,30] ?_;intro J hJ;simp[f0,f2,f7,GD];refine zJ hJ ?_)
   (repeat' (first|refine qX (zZ ?_)|(apply qC;simp[])))
   exact⟨trivial,k,oO,oO,by simp[f0],by simp[f1],by simp[f2],by simp[f7],by simp[f8],by trivial,hs,fun h=>absurd h GD⟩
  have w1:=qN k oO;have w2:=aG k oO oO;have Xn:=qG c k oO;have YM:=qG c (k-1) oO;have F6:k<l.length:=oO;have E0:k-1<l.length:=oO;have Xl:=hs.ins.done oO;generalize hx:c.getD k 0=x at *;generalize hy:c.getD (k-1) 0=y at *
  (repeat (apply qS));(refine zS [] [q] [0,2,4,6,8,10,12,14,16,18,20,22,24,27,28,30] ?_;intro J hJ;simp[f0,f2,f7,GD,w2,F6,E0,Xh,Xn,YM])
  refine aK (uW x y _) ?_;rintro r s2 ⟨rfl,rfl⟩;refine⟨fun _=>by simp,?_⟩;by_cases YK:x<y
  .clear hJJ
   (apply aS;simp[YK];refine zJ hJ ?_)
   (repeat' (first|refine qX (zZ ?_)|(apply qC;simp[])))
   exact⟨trivial,k,oO,oO,by simp[f0],by simp[f1],by simp[f2],by simp[f7],by simp[f8],by trivial,hs,fun h=>by rw[hx,hy];exact YK⟩
  ·(apply aS;simp[YK];refine zJ hJ ?_)
   (repeat' (first|apply qB|refine qK (zZ ?_)|(apply qC;simp[f7,w1])|(refine zE ?_;intro J hJ;simp[f7,w1];refine zJ hJ ?_)))
   exact hJJ (b-(k+1)) _ _ oO ⟨k+1,rfl,oO,oO,by simp[f0],by simp[f1],by simp[f2],sS,by simp[f8],rfl,Xl (.inr YK)⟩
 clear f0 f1 f2 f7 f8 hs n9 B3 fr k;rintro fr st2 ⟨k,n9,B3,f0,f1,f2,f7,f8,rfl,hs,hfall⟩;by_cases hkb2:k=b
 .clear x9;have Zm:(k:Int)=(b:Int):=oO
  (repeat' (first|apply qS|(refine qR (zZ ?_);simp[f2,f7,Zm])|(apply qC;simp[f2,f7,Zm])|(refine zE ?_;intro J hJ;simp[f2,f7,Zm];refine zJ hJ ?_)))
  exact⟨c,rfl,Xf,fun _=>by rw[<- hkb2];exact hs⟩
 have Zm:¬(k:Int)=(b:Int):=oO;have w1:IntKind.i64.wrap ((b:Int)-(a:Int))=(b:Int)-(a:Int):=zW;by_cases J6:(b:Int)-(a:Int)<50
 .clear x9
  (repeat' (first|apply qS|refine qK (zZ ?_)|(refine qR (zZ ?_);simp[f1,f2,f7,Zm,w1,J6])|(apply qC;simp[f1,f2,f7,Zm,w1,J6])|(refine zE ?_;intro J hJ;simp[f1,f2,f7,Zm,w1,J6];refine zJ hJ ?_)))
  exact⟨c,rfl,Xf,fun h=>by cases h⟩
 have w2:=aG k oO oO;have Xn:=qG c k oO;have YM:=qG c (k-1) oO;have F6:k<l.length:=oO;have E0:k-1<l.length:=oO;have YP:=fun x y=>dL st q c k (k-1) (x:=x) (y:=y) oO oO;have v5:Srt a (k-1) (sw c k (k-1)):=by intro p q h1 h2 h3;rw[bZ _ _ _ _ oO oO,bZ _ _ _ _ oO oO,aAa oO,aAa oO,aAa oO,aAa oO];exact hs p q h1 h2 oO
 have Yo:=Xf.step k (k-1) oO oO oO oO oO;generalize hx:c.getD k 0=x at *;generalize hy:c.getD (k-1) 0=y at *;have Xy:=YP x y rfl rfl
 (repeat' (first|apply qS|refine qK (zZ ?_)|(apply qC;simp[f1,f2,f7,Zm,w1,J6])|(refine zE ?_;intro J hJ;simp[f1,f2,f7,Zm,w1,J6];refine zJ hJ ?_)))
 (refine zS [] [q] [0,2,4,6,8,10,12,14,16,18,20,22,24,26,28,31,32,35] ?_;intro J hJ;simp[f0,f7,w2,F6,E0,Xh,Xn,YM];(repeat refine ca ?_);refine zJ hJ ?_)
 rw[Xy];clear YP Xy Xn YM hx hy hs hfall;generalize ZK:sw c k (k-1)=c1 at *;have hcl1:=Yo.len;clear ZK Xf Xh c;have w3:IntKind.i64.wrap ((k:Int)-(a:Int))=(k:Int)-(a:Int):=zW;apply qS;refine bC (wS q a b k j l st) ?_ ?_
 .by_cases Xq:(2:Int)<=(k:Int)-(a:Int);rotate_left
  ·(repeat' (first|apply qS|refine qK (zZ ?_)|(apply qC;simp[f1,f7,w3,Xq])|(refine zE ?_;intro J hJ;simp[f1,f7,w3,Xq];refine zJ hJ ?_)))
   refine⟨by trivial,?_⟩;unfold wS;exact⟨c1,by simp[f0],by simp[f1],by simp[f2],by simp[f7],by simp[f8],by trivial,Yo,fun p q h1 h2 h3=>by omega⟩
  (repeat' (first|apply qS|apply qB|(apply qC;simp[f1,f7,w3,Xq,w2])|(refine zE ?_;intro J hJ;simp[f1,f7,w3,Xq,w2];refine zJ hJ ?_)))
  refine qL (fun n fr st2=>∃(m:Nat) (c:List Int),a<=m/\m<=k-1/\m=n/\fr 0=.ms q 0 l.length/\fr 1=i a/\fr 2=i b/\fr 7=i k/\fr 8=i j/\fr 9=i m/\st2=bx st q c/\Pm a b l c/\Ins a m (k-1) c) (k-1) ?_ ?_
  .exact⟨k-1,c1,oO,oO,rfl,by simp[f0],by simp[f1],by simp[f2],by simp[f7],by simp[f8],sS,rfl,Yo,v5.ins⟩
  clear f0 f1 f2 f7 f8 Yo v5 hcl1 c1 fr;rintro n fr st2 ⟨m,c,ham,hmk,rfl,f0,f1,f2,f7,f8,f9,rfl,Xf,hI⟩ JJ hJJ;have Xh:=Xf.len;have Xp:k-1+1=k:=oO;by_cases E8:(1:Int)<=(m:Int);rotate_left
  .clear hJJ
   (repeat' (first|apply qS|refine qX (zZ ?_)|(apply qC;simp[f9,E8])|(refine zE ?_;intro J hJ;simp[f9,E8];refine zJ hJ ?_)))
   refine⟨by trivial,?_⟩;unfold wS;refine⟨c,by simp[f0],by simp[f1],by simp[f2],by simp[f7],by simp[f8],by trivial,Xf,?_⟩;have:=hI.done ham (.inl oO);rwa [Xp]at this
  have w4:=aG m oO oO;have Xn:=qG c m oO;have YM:=qG c (m-1) oO;have J7:m<l.length:=oO;have N9:m-1<l.length:=oO;have YP:=fun x y=>dL st q c m (m-1) (x:=x) (y:=y) oO oO;have hahm:m=a->¬c.getD m 0<c.getD (m-1) 0:=by rintro rfl;have:=hah.pm Xf oO m oO oO;omega
  have P4:=hI.done ham;rw[Xp]at P4;have YH:=fun h=>hI.step h hmk oO;generalize hx:c.getD m 0=x at *;generalize hy:c.getD (m-1) 0=y at *;have Xy:=YP x y rfl rfl
  (repeat' (first|apply qS|apply qB|refine qK (zZ ?_)|(apply qC;simp[f9,E8])|(refine zE ?_;intro J hJ;simp[f9,E8];refine zJ hJ ?_)))
  (refine zS [] [q] [0,2,4,6,8,10,12,14,16,19,20] ?_;intro J hJ;simp[f0,f9,w4,J7,N9,Xh,Xn,YM])
  refine aK (uW x y _) ?_;rintro r s2 ⟨rfl,rfl⟩;refine⟨fun _=>by simp,?_⟩;by_cases YK:x<y;rotate_left
  .clear hJJ
   (apply aS;simp[YK];refine zJ hJ ?_)
   (repeat' (first|refine qX (zZ ?_)|(apply qC;simp[])))
   refine⟨by trivial,?_⟩;unfold wS;exact⟨c,by simp[f0],by simp[f1],by simp[f2],by simp[f7],by simp[f8],by trivial,Xf,P4 (.inr YK)⟩
  have I7:a<m:=by
   rcases aAN a m with h|h
   .exact h
   .exact absurd YK (hahm oO)
  have YE:=Xf.step m (m-1) oO oO oO oO oO
  (apply aS;simp[YK];refine zJ hJ ?_)
  (repeat' (first|refine qK (zZ ?_)|(apply qC;simp[])))
  (refine zS [] [q] [0,2,4,6,8,10,12,14,16,18,20,22,24,26,28,31,32,35] ?_;intro J hJ;simp[f0,f9,w4,J7,N9,Xh,Xn,YM];(repeat refine ca ?_);refine zJ hJ ?_)
  (repeat' (refine zE ?_;intro J hJ;simp[f9,w4];refine zJ hJ ?_))
  exact hJJ (m-1) _ _ oO ⟨m-1,sw c m (m-1),oO,oO,rfl,by simp[f0],by simp[f1],by simp[f2],by simp[f7],by simp[f8],sS,Xy,YE,YH I7 YK⟩
 clear f0 f1 f2 f7 f8 Yo v5 hcl1 c1 fr;rintro fr st2 ⟨c,f0,f1,f2,f7,f8,rfl,Xf,hs⟩;have Xh:=Xf.len;have w5:IntKind.i64.wrap ((b:Int)-(k:Int))=(b:Int)-(k:Int):=zW;have w6:=qN j oO;have w7:=qN k oO;by_cases Xq:(2:Int)<=(b:Int)-(k:Int);rotate_left
 ·(repeat' (first|apply qS|refine qK (zZ ?_)|(apply qC;simp[f2,f7,w5,Xq,f8,w6])|(refine zE ?_;intro J hJ;simp[f2,f7,w5,Xq,f8,w6];refine zJ hJ ?_)))
  exact x9 (5-(j+1)) _ _ oO ⟨j+1,k,c,oO,rfl,n9,B3,by simp[f0],by simp[f1],by simp[f2],by simp[f7],sS,rfl,Xf,hs⟩
 (repeat' (first|apply qS|apply qB|(apply qC;simp[f2,f7,w5,Xq,w7])|(refine zE ?_;intro J hJ;simp[f2,f7,w5,Xq,w7];refine zJ hJ ?_)))
 refine qL (fun n fr st2=>∃(m:Nat) (c:List Int),k<m/\m<=b/\n=b-m/\fr 0=.ms q 0 l.length/\fr 1=i a/\fr 2=i b/\fr 7=i k/\fr 8=i j/\fr 10=i m/\st2=bx st q c/\Pm a b l c/\Srt a k c) (b-(k+1)) ?_ ?_
 .exact⟨k+1,c,oO,oO,rfl,by simp[f0],by simp[f1],by simp[f2],by simp[f7],by simp[f8],sS,rfl,Xf,hs⟩
 clear f0 f1 f2 f7 f8 Xf hs Xh c fr;rintro n fr st2 ⟨m,c,hkm,Zf,rfl,f0,f1,f2,f7,f8,f10,rfl,Xf,hs⟩ JJ hJJ;have Xh:=Xf.len;by_cases GD:m<b;rotate_left
 .clear hJJ
  (repeat' (first|apply qS|refine qX (zZ ?_)|(apply qC;simp[f2,f10,GD,f8,w6])|(refine zE ?_;intro J hJ;simp[f2,f10,GD,f8,w6];refine zJ hJ ?_)))
  exact x9 (5-(j+1)) _ _ oO ⟨j+1,k,c,oO,rfl,n9,B3,by simp[f0],by simp[f1],by simp[f2],by simp[f7],sS,rfl,Xf,hs⟩
 have w4:=aG m oO oO;have w8:=qN m oO;have Xn:=qG c m oO;have YM:=qG c (m-1) oO;have J7:m<l.length:=oO;have N9:m-1<l.length:=oO;have YP:=fun x y=>dL st q c m (m-1) (x:=x) (y:=y) oO oO;have YE:=Xf.step m (m-1) oO oO oO oO oO;have I5:Srt a k (sw c m (m-1)):=by intro p q h1 h2 h3;rw[bZ _ _ _ _ oO oO,bZ _ _ _ _ oO oO,aAa oO,aAa oO,aAa oO,aAa oO];exact hs p q h1 h2 oO
 generalize hx:c.getD m 0=x at *;generalize hy:c.getD (m-1) 0=y at *;have Xy:=YP x y rfl rfl
 (repeat' (first|apply qS|apply qB|refine qK (zZ ?_)|(apply qC;simp[f2,f10,GD])|(refine zE ?_;intro J hJ;simp[f2,f10,GD];refine zJ hJ ?_)))
 (refine zS [] [q] [0,2,4,6,8,10,12,14,16,19,20] ?_;intro J hJ;simp[f0,f10,w4,J7,N9,Xh,Xn,YM])
 refine aK (uW x y _) ?_;rintro r s2 ⟨rfl,rfl⟩;refine⟨fun _=>by simp,?_⟩;by_cases YK:x<y;rotate_left
 .clear hJJ
  (apply aS;simp[YK];refine zJ hJ ?_)
  (repeat' (first|refine qX (zZ ?_)|(apply qC;simp[f8,w6])|(refine zE ?_;intro J hJ;simp[f8,w6];refine zJ hJ ?_)))
  exact x9 (5-(j+1)) _ _ oO ⟨j+1,k,c,oO,rfl,n9,B3,by simp[f0],by simp[f1],by simp[f2],by simp[f7],sS,rfl,Xf,hs⟩
 (apply aS;simp[YK];refine zJ hJ ?_)
 (repeat' (first|refine qK (zZ ?_)|(apply qC;simp[])))
 (refine zS [] [q] [0,2,4,6,8,10,12,14,16,18,20,22,24,26,28,31,32,35] ?_;intro J hJ;simp[f0,f10,w4,J7,N9,Xh,Xn,YM];(repeat refine ca ?_);refine zJ hJ ?_)
 (repeat' (refine zE ?_;intro J hJ;simp[f10,w8];refine zJ hJ ?_))
 exact hJJ (b-(m+1)) _ _ oO ⟨m+1,sw c m (m-1),oO,oO,rfl,by simp[f0],by simp[f1],by simp[f2],by simp[f7],by simp[f8],sS,Xy,YE,I5⟩
abbrev ix(st:St)(p:Nat)(s:Int):St:=st.set p (.box 3 1 [i s])
theorem zX{st:St}{p:Nat}{s:Int}(h:st.H p=.box 3 1 [i s]):st=ix st p s:=
 St.ext' rfl fun x=>by by_cases hx:x=p<;>simp[hx,h]
theorem xL(st:St)(p:Nat)(s s':Int):ix (ix st p s) p s'=ix st p s':=St.set_set _ _ _ _
theorem pQ(l:List Int)(q p a b:Nat)(s:Int)(st:St)(hl:small l)(ha:a<l.length)(hb:b<l.length)(B6:q≠p)(hH:st.H q=.box 34 1 (us l))(hp:st.H p=.box 3 1 [i s]):
 aB prog 212 [.ms q 0 l.length,i a,i b,.pt p 0] st fun r st'=>∃(x y:Nat) (s':Int),r=.tu [i x,i y]/\st'=ix st p s'/\((x=a/\y=b)\/(x=b/\y=a)):=by
 unfold small at hl;have Xn:=qG l a ha;have YM:=qG l b hb;generalize l.getD a 0=x at *;generalize l.getD b 0=y at *;refine zN func212 ntmps212 [.tmp 8,.tmp 9] ?_
 (repeat (apply qS));(refine zE ?_;intro J hJ;simp[];refine zJ hJ ?_)
 (repeat (apply qS));(refine zS [] [q] [0,2,4,6,8,10,12,14,17] ?_;intro J hJ;simp[hH,ha,hb,Xn,YM])
 refine aK (uW y x _) ?_;rintro r s2 ⟨rfl,rfl⟩;refine⟨fun _=>by simp[hH],?_⟩;by_cases YV:y<x
 ·(apply aS;simp[YV];refine zJ hJ ?_)
  (repeat' (first|apply qS|(refine qR (zZ ?_);simp[hp])|(apply qC;simp[hp])|(refine zE ?_;intro J hJ;simp[hp];refine zJ hJ ?_)))
  exact⟨b,a,⟨rfl,rfl⟩,⟨_,rfl⟩,.inr ⟨rfl,rfl⟩⟩
 ·(apply aS;simp[YV];refine zJ hJ ?_)
  (repeat' (first|apply qS|refine qK (zZ ?_)|(refine qR (zZ ?_);simp[])|(apply qC;simp[])|(refine zE ?_;intro J hJ;simp[];refine zJ hJ ?_)))
  exact⟨a,b,⟨rfl,rfl⟩,⟨s,zX hp⟩,.inl ⟨rfl,rfl⟩⟩
theorem wI(l:List Int)(q p a b c:Nat)(s:Int)(st:St)(hl:small l)(ha:a<l.length)(hb:b<l.length)(hc:c<l.length)(B6:q≠p)(hH:st.H q=.box 34 1 (us l))(hp:st.H p=.box 3 1 [i s]):
 aB prog 196 [.ms q 0 l.length,i a,i b,i c,.pt p 0] st fun r st'=>∃(x:Nat) (s':Int),r=i x/\st'=ix st p s'/\(x=a\/x=b\/x=c):=by
 refine zN func196 ntmps196 [.tmp 10] ?_
 (repeat' (first|apply qS|(refine zE ?_;intro J hJ;simp[];(try refine zJ hJ ?_))))
 refine qF (pQ l q p a b s _ hl ha hb B6 hH hp) ?_;rintro r st' ⟨x,y,s1,rfl,rfl,h1⟩
 (repeat' (first|apply qS|((first|(refine zE ?_;intro J hJ)|(apply aF));simp[];(try refine zJ hJ ?_))))
 refine qF (pQ l q p y c s1 _ hl oO hc B6 (by simp[B6,hH]) sS) ?_;rintro r st' ⟨x2,y2,s2,rfl,rfl,h2⟩
 (repeat' (first|apply qS|((first|(refine zE ?_;intro J hJ)|(apply aF));simp[];(try refine zJ hJ ?_))))
 refine qF (pQ l q p x x2 s2 _ hl oO oO B6 (by simp[B6,hH]) sS) ?_;rintro r st' ⟨x3,y3,s3,rfl,rfl,h3⟩
 (repeat' (first|apply qS|(refine qR (zZ ?_);simp[])|((first|(refine zE ?_;intro J hJ)|(apply aF));simp[];refine zJ hJ ?_)))
 refine⟨y3,rfl,⟨s3,?_⟩,oO⟩;rw[xL,xL]
theorem cP(l:List Int)(q p a:Nat)(s:Int)(st:St)(hl:small l)(h0:0<a)(ha:a+1<l.length)(B6:q≠p)(hH:st.H q=.box 34 1 (us l))(hp:st.H p=.box 3 1 [i s]):
 aB prog 195 [.ms q 0 l.length,i a,.pt p 0] st fun r st'=>∃(x:Nat) (s':Int),r=i x/\st'=ix st p s'/\a-1<=x/\x<=a+1:=by
 have Yn:=hl;unfold small at Yn;have w1:=qN a oO;have w2:=aG a oO oO;refine zN func195 ntmps195 [.tmp 6] ?_
 (repeat' (first|apply qS|(refine zE ?_;intro J hJ;simp[w1,w2];(try refine zJ hJ ?_))))
 refine qF (wI l q p (a-1) a (a+1) s _ hl oO oO oO B6 hH hp) ?_;rintro r st' ⟨x,s1,rfl,rfl,h1⟩
 (repeat' (first|(refine qR (zZ ?_);simp[])|(apply aF;simp[];refine zJ hJ ?_)))
 exact⟨x,rfl,⟨s1,rfl⟩,oO⟩
def CK(q n a b:Nat)(st:St)(fr:Frm)(st2:St):Prop:=∃(j1 j2 j3:Nat) (s:Int),fr 0=.ms q 0 n/\fr 9=.pt st.next 0/\fr 10=i j1/\fr 11=i j2/\fr 12=i j3/\a<=j1/\j1<b/\a<=j2/\j2<b/\a<=j3/\j3<b/\st2=ix (st.new (.box 3 1 [i 0])) st.next s
theorem mG(l:List Int)(q a b:Nat)(st:St)(hl:small l)(YC:a+8<=b)(hb:b<=l.length)(Zx:q<st.next)(hH:st.H q=.box 34 1 (us l)):
 aB prog 169 [.ms q 0 l.length,i a,i b] st fun r st'=>∃(x:Nat) (h:Int),r=.tu [i x,i h]/\a<=x/\x<b/\aA st st':=by
 have Yn:=hl;unfold small at Yn;obtain⟨n,hn⟩:∃ n:Nat,n=b-a:=⟨_,rfl⟩;obtain⟨n4,U0⟩:∃ m:Nat,m=n / 4:=⟨_,rfl⟩;obtain⟨k1,Xp⟩:∃ m:Nat,m=a+n4:=⟨_,rfl⟩;obtain⟨k2,Xq⟩:∃ m:Nat,m=a+n4*2:=⟨_,rfl⟩;obtain⟨k3,Xv⟩:∃ m:Nat,m=a+n4*3:=⟨_,rfl⟩;have w1:IntKind.i64.wrap ((b:Int)-(a:Int))=(n:Int):=zW;have w2:IntKind.i64.wrap ((n:Int) / 4)=(n4:Int):=by rw[show(n:Int) / 4=((n / 4:Nat):Int) from rfl,<- U0];exact wrap_i64 _ oO oO
 have w3:IntKind.i64.wrap (n4:Int)=(n4:Int):=zW;have w4:IntKind.i64.wrap ((n4:Int)*2)=((n4*2:Nat):Int):=zW;have w5:IntKind.i64.wrap ((n4:Int)*3)=((n4*3:Nat):Int):=zW;have w6:IntKind.i64.wrap ((a:Int)+(n4:Int))=(k1:Int):=zW;have w7:IntKind.i64.wrap ((a:Int)+((n4*2:Nat):Int))=(k2:Int):=zW;have w8:IntKind.i64.wrap ((a:Int)+((n4*3:Nat):Int))=(k3:Int):=zW;have h8:(8:Int)<=(n:Int):=oO;have Za:q≠st.next:=oO;generalize ((n4*2:Nat):Int)=e2 at *;generalize ((n4*3:Nat):Int)=e3 at *;refine zN func169 ntmps169 [.tmp 6,.tmp 7] ?_
 (repeat' (first|apply qS|(refine zE ?_;intro J hJ;simp[w1,w2,w3,w4,w5,w6,w7,w8,h8];refine zJ hJ ?_)))
 apply qC;simp[h8];apply qS;refine bC (CK q l.length a b st) ?_ ?_
 .by_cases J6:(50:Int)<=(n:Int)
  ·(repeat' (first|apply qS|(apply qC;simp[J6])|(refine zE ?_;intro J hJ;simp[J6];(try refine zJ hJ ?_))))
   refine qF (cP l q st.next k1 0 _ hl oO oO Za (by simp[Za,hH]) sS) ?_;rintro r st' ⟨x1,s1,rfl,rfl,h1⟩
   (repeat' (first|apply qS|((first|(refine zE ?_;intro J hJ)|(apply aF));simp[];(try refine zJ hJ ?_))))
   refine qF (cP l q st.next k2 s1 _ hl oO oO Za (by simp[Za,hH]) sS) ?_;rintro r st' ⟨x2,s2,rfl,rfl,h2⟩
   (repeat' ((first|(refine zE ?_;intro J hJ)|(apply aF));simp[];(try refine zJ hJ ?_)))
   refine qF (cP l q st.next k3 s2 _ hl oO oO Za (by simp[Za,hH]) sS) ?_;rintro r st' ⟨x3,s3,rfl,rfl,h3⟩
   (repeat' (apply aF;simp[];refine zJ hJ ?_))
   refine⟨by trivial,?_⟩;unfold CK;exact⟨x1,x2,x3,s3,sS,sS,sS,sS,sS,oO,oO,oO,oO,oO,oO,by rw[xL,xL]⟩
  ·(repeat' (first|apply qS|refine qK (zZ ?_)|(apply qC;simp[J6])|(refine zE ?_;intro J hJ;simp[J6];refine zJ hJ ?_)))
   refine⟨by trivial,?_⟩;unfold CK;exact⟨k1,k2,k3,0,sS,sS,sS,sS,sS,oO,oO,oO,oO,oO,oO,zX sS⟩
 rintro fr st2 ⟨j1,j2,j3,s,f0,f9,f10,f11,f12,h1,h2,h3,h4,h5,h6,rfl⟩
 (repeat' (refine zE ?_;intro J hJ;simp[f0,f9,f10,f11,f12]))
 refine qF (wI l q st.next j1 j2 j3 s _ hl oO oO oO Za (by simp[Za,hH]) sS) ?_;rintro r st' ⟨x,s1,rfl,rfl,hx⟩;have Xt:aA st (ix (ix (st.new (.box 3 1 [i 0])) st.next s) st.next s1):=((aA.new _ _).set (aAk _) _).set (aAk _) _;have hax:a<=x/\x<b:=oO
 (repeat' (first|apply qS|apply qB|(refine qR (zZ ?_);simp[f9])|(apply qC;simp[f9];(try with_reducible refine⟨?_,?_⟩)<;>(try with_reducible intro hc))|((first|(refine zE ?_;intro J hJ)|(apply aF));simp[f9];refine zJ hJ ?_)))
 all_goals exact⟨x,rfl,hax.1,hax.2,Xt⟩
abbrev uw(n:Int):LV:=.atom (.int .u64 n)
def gO(m:Nat):Nat:=if m=0 then 0 else Nat.log2 m+1
def jY(n:Nat):Nat:=if 256<=n then 8+gO (n / 256)else gO n
theorem wrap_u64(n:Int)(h1:0<=n)(h2:n<18446744073709551616):IntKind.u64.wrap n=n:=by simp[IntKind.wrap,IntKind.signed,IntKind.bits];omega
theorem wrap_u8(n:Int)(h1:0<=n)(h2:n<256):IntKind.u8.wrap n=n:=by simp[IntKind.wrap,IntKind.signed,IntKind.bits];omega
abbrev Al:ByteArray:={ data:=((List.append [0,1,2,2,3,3,3,3,4,4,4,4,4,4,4,4,5,5,5,5,5,5,5,5,5,5,5,5,5,5,5,5,6,6,6,6,6,6,6,6,6,6,6,6,6,6,6,6,6,6,6,6,6,6,6,6,6,6,6,6,6,6,6,6] [7,7,7,7,7,7,7,7,7,7,7,7,7,7,7,7,7,7,7,7,7,7,7,7,7,7,7,7,7,7,7,7,7,7,7,7,7,7,7,7,7,7,7,7,7,7,7,7,7,7,7,7,7,7,7,7,7,7,7,7,7,7,7,7]).append (List.append [8,8,8,8,8,8,8,8,8,8,8,8,8,8,8,8,8,8,8,8,8,8,8,8,8,8,8,8,8,8,8,8,8,8,8,8,8,8,8,8,8,8,8,8,8,8,8,8,8,8,8,8,8,8,8,8,8,8,8,8,8,8,8,8] [8,8,8,8,8,8,8,8,8,8,8,8,8,8,8,8,8,8,8,8,8,8,8,8,8,8,8,8,8,8,8,8,8,8,8,8,8,8,8,8,8,8,8,8,8,8,8,8,8,8,8,8,8,8,8,8,8,8,8,8,8,8,8,8])).toArray }
theorem MR:∀ m:Fin 256,((Al[m.val]?).isSome=true/\((Al[m.val]?).getD 0).toNat=gO m.val):=by decide +kernel
theorem rE:∀ m:Fin 256,gO m.val<=8/\(0<m.val->m.val<2 ^ gO m.val/\2 ^ gO m.val<=2*m.val):=by decide +kernel
theorem vA(n:Nat)(hn:n<65536):jY n<=16/\(0<n->n<2 ^ jY n/\2 ^ jY n<=2*n):=by
 unfold jY;by_cases h:256<=n
 .rw[aAe h];have h1:=rE ⟨n / 256,oO⟩;simp only at h1;obtain⟨h2,h3⟩:=h1.2 oO;refine⟨oO,fun _=>?_⟩;rw[Nat.pow_add];generalize 2 ^ gO (n / 256)=e at *;omega
 .rw[aAa h];have h1:=rE ⟨n,oO⟩;simp only at h1;exact⟨oO,h1.2⟩
theorem VY(n:Nat)(st:St)(hn:n<65536):aB prog 139 [uw n] st fun r st'=>r=i (jY n)/\st'=st:=by
 refine zN func139 ntmps139 [.tmp 2] ?_;have h1:¬(4294967296:Int)<=(n:Int):=oO;have h2:¬(65536:Int)<=(n:Int):=oO;have hs:∀ m,m<256->(Al[m]?).isSome=true/\((Al[m]?).getD 0).toNat=gO m:=fun m h=>MR ⟨m,h⟩;generalize hq:({ data:=((List.append [0,1,2,2,3,3,3,3,4,4,4,4,4,4,4,4,5,5,5,5,5,5,5,5,5,5,5,5,5,5,5,5,6,6,6,6,6,6,6,6,6,6,6,6,6,6,6,6,6,6,6,6,6,6,6,6,6,6,6,6,6,6,6,6] [7,7,7,7,7,7,7,7,7,7,7,7,7,7,7,7,7,7,7,7,7,7,7,7,7,7,7,7,7,7,7,7,7,7,7,7,7,7,7,7,7,7,7,7,7,7,7,7,7,7,7,7,7,7,7,7,7,7,7,7,7,7,7,7]).append (List.append [8,8,8,8,8,8,8,8,8,8,8,8,8,8,8,8,8,8,8,8,8,8,8,8,8,8,8,8,8,8,8,8,8,8,8,8,8,8,8,8,8,8,8,8,8,8,8,8,8,8,8,8,8,8,8,8,8,8,8,8,8,8,8,8] [8,8,8,8,8,8,8,8,8,8,8,8,8,8,8,8,8,8,8,8,8,8,8,8,8,8,8,8,8,8,8,8,8,8,8,8,8,8,8,8,8,8,8,8,8,8,8,8,8,8,8,8,8,8,8,8,8,8,8,8,8,8,8,8])).toArray }:ByteArray)=s;rw[show Al=s from hq]at hs;clear hq;by_cases h3:(256:Int)<=(n:Int)
 .obtain⟨m,hm⟩:∃ m,m=n / 256:=⟨_,rfl⟩;have w1:(n:Int).fdiv (2 ^ min 8 IntKind.u64.bits)=(m:Int):=by show(n:Int).fdiv 256=(m:Int);rw[aDZ _ oO];omega
  have w2:=wrap_u8 m oO oO;have hb:jY n=8+gO m:=by unfold jY;rw[aAe oO,hm]
  have h4:gO m<=8:=(rE ⟨m,oO⟩).1;have X4:=hs m oO;have hz:m<s.size:=by simpa using X4.1
  have hv:=X4.2;rw[hb];generalize gO m=e at *;have w3:IntKind.i64.wrap (8+(e:Int))=((8+e:Nat):Int):=zW;have w4:IntKind.i64.wrap (e:Int)=(e:Int):=by rw[wrap_i64 _ oO oO]
  have w5:IntKind.i64.wrap (8:Int)=8:=rfl;simp[hz]at hv
  (repeat' (first|apply qS|refine qK (zZ ?_)|(refine qR (zZ ?_);simp[h1,h2,h3,Lu,w1,w2,hz,hv,w3,w4,w5])|(apply qC;simp[h1,h2,h3,Lu,w1,w2,hz,hv,w3,w4,w5])|(refine zE ?_;intro J hJ;simp[h1,h2,h3,Lu,w1,w2,hz,hv,w3,w4,w5];refine zJ hJ ?_)))
 .have w2:=wrap_u8 n oO oO;have hb:jY n=gO n:=by unfold jY;rw[aAa oO]
  have h4:gO n<=8:=(rE ⟨n,oO⟩).1;have X4:=hs n oO;have hz:n<s.size:=by simpa using X4.1
  have hv:=X4.2;rw[hb];generalize gO n=e at *;have w4:IntKind.i64.wrap (e:Int)=(e:Int):=by rw[wrap_i64 _ oO oO]
  simp[hz]at hv
  (repeat' (first|apply qS|refine qK (zZ ?_)|(refine qR (zZ ?_);simp[h1,h2,h3,w2,hz,hv,w4])|(apply qC;simp[h1,h2,h3,w2,hz,hv,w4])|(refine zE ?_;intro J hJ;simp[h1,h2,h3,w2,hz,hv,w4];refine zJ hJ ?_)))
theorem Len(n:Nat)(st:St)(hn:n<65536):aB prog 96 [uw n] st fun r st'=>r=i (jY n)/\st'=st:=by
 refine zN func96 ntmps96 [.tmp 2] ?_
 (repeat' (first|apply qS|refine qK (zZ ?_)|(apply qC;simp[])|(refine zE ?_;intro J hJ;simp[];(try refine zJ hJ ?_))))
 refine qF (VY n _ hn) ?_;rintro r st' ⟨rfl,rfl⟩
 (repeat' (first|(refine qR (zZ ?_);simp[])|(apply aF;simp[];refine zJ hJ ?_)))
theorem nextPowerOfTwo(n:Nat)(st:St)(hn:n<65536):aB prog 183 [i n] st fun r st'=>r=uw ((2 ^ jY n:Nat):Int)/\st'=st:=by
 have h1:=(vA n hn).1;have w1:IntKind.u64.wrap (n:Int)=(n:Int):=wrap_u64 _ oO oO;have w2:EO .u64 1 (jY n)=((2 ^ jY n:Nat):Int):=by
  unfold EO;have h2:(2:Nat) ^ jY n<=2 ^ 16:=aEJ oO h1;have h3:min ((jY n:Int).toNat) IntKind.u64.bits=jY n:=by simp[IntKind.bits];omega
  rw[h3,Int.one_mul];rw[show((2:Int) ^ jY n)=((2 ^ jY n:Nat):Int) by simp];generalize (2:Nat) ^ jY n=z at *;exact wrap_u64 _ oO oO
 refine zN func183 ntmps183 [.tmp 2] ?_
 (repeat' (first|apply qS|(refine zE ?_;intro J hJ;simp[w1];(try refine zJ hJ ?_))))
 refine qF (Len n _ hn) ?_;rintro r st' ⟨rfl,rfl⟩;generalize ((2 ^ jY n:Nat):Int)=e2 at *
 (repeat' (first|(refine qR (zZ ?_);simp[w2])|(apply aF;simp[w2];refine zJ hJ ?_)))
abbrev xx(st:St)(p:Nat)(s:Int):St:=st.set p (.box 199 1 [uw s])
theorem TJ(p:Nat)(s:Int)(st:St)(hp:st.H p=.box 199 1 [uw s]):aB prog 184 [.pt p 0] st fun r st'=>∃ s',r=uw s'/\st'=xx st p s':=by
 refine zN func184 ntmps184 [.tmp 2] ?_
 (repeat (apply qS));(refine zE ?_;intro J hJ;simp[];refine zJ hJ ?_)
 (repeat (apply qS));(refine zS [] [p] [0,2,4,6,8,10,12,14,16,19] ?_;intro J hJ;simp[hp];refine zJ hJ ?_)
 generalize PV _ _ _=s1
 (repeat (apply qS));(refine zS [] [p] [0,2,4,6,8,10,12,14,16,19] ?_;intro J hJ;simp[hp];refine zJ hJ ?_)
 generalize PV _ _ _=s2
 (repeat (apply qS));(refine zS [] [p] [0,2,4,6,8,10,12,14,16,19] ?_;intro J hJ;simp[hp];refine zJ hJ ?_)
 generalize PV _ _ _=s3
 (repeat' (first|apply qS|(refine qR (zZ ?_);simp[])|(refine zE ?_;intro J hJ;simp[];refine zJ hJ ?_)))
 rw[St.set_set,St.set_set]
theorem Kh(s:Int)(m:Nat)(h0:0<m)(hm:m<=131072):∃ o:Nat,o<m/\xE .u64 s (((m-1:Nat)):Int)=(o:Int):=by
 unfold xE;generalize hx:BitVec.ofInt IntKind.u64.bits s=x;have h1:(BitVec.ofInt IntKind.u64.bits ((m-1:Nat):Int)).toNat=m-1:=by rw[BitVec.ofInt_natCast,aCV];show(m-1) % 2 ^ 64=m-1;exact aAM oO
 refine⟨(x &&& BitVec.ofInt IntKind.u64.bits ((m-1:Nat):Int)).toNat,?_,?_⟩
 .have h2:(x &&& BitVec.ofInt IntKind.u64.bits ((m-1:Nat):Int)).toNat<=(BitVec.ofInt IntKind.u64.bits ((m-1:Nat):Int)).toNat:=by rw[BitVec.toNat_and];exact Nat.and_le_right
  omega
 .have h2:(x &&& BitVec.ofInt IntKind.u64.bits ((m-1:Nat):Int)).toNat<=(BitVec.ofInt IntKind.u64.bits ((m-1:Nat):Int)).toNat:=by rw[BitVec.toNat_and];exact Nat.and_le_right
  exact wrap_u64 _ oO oO
def bN(q:Nat)(st st':St):Prop:=st.next<=st'.next/\∀ l,l≠q->l<st.next->st'.H l=st.H l
theorem bN.refl(q:Nat)(st:St):bN q st st:=⟨aAk _,fun _ _ _=>rfl⟩
theorem bN.trans{q:Nat}{a b c:St}(h:bN q a b)(k:bN q b c):bN q a c:=⟨aBj h.1 k.1,fun l hl hn=>(k.2 l hl (aAp hn h.1)).trans (h.2 l hl hn)⟩
theorem bN.keeps{q:Nat}{a b c:St}(h:bN q a b)(k:aA b c):bN q a c:=⟨aBj h.1 k.next,fun l hl hn=>(k.H l (aAp hn h.1)).trans (h.2 l hl hn)⟩
theorem bN.set{q:Nat}{a b:St}(h:bN q a b)(o:cI):bN q a (b.set q o):=⟨h.1,fun l hl hn=>by rw[bF,aAa hl];exact h.2 l hl hn⟩
theorem bN.set'{q p:Nat}{a b:St}(h:bN q a b)(hp:a.next<=p)(o:cI):bN q a (b.set p o):=⟨h.1,fun l hl hn=>by rw[bF,aAa oO];exact h.2 l hl hn⟩
def yQ(q p a b n m k:Nat)(l:List Int)(st:St)(fr:Frm)(st2:St):Prop:=fr 0=.ms q 0 l.length/\fr 1=i a/\fr 6=i n/\fr 7=.pt p 0/\fr 8=uw m/\fr 9=i k/\p<st2.next/\bN q st st2/\(∃ s,st2.H p=.box 199 1 [uw s])/\∃ c,st2.H q=.box 34 1 (us c)/\Pm a b l c
def Rc(q p a b n m k:Nat)(l:List Int)(st:St)(fr:Frm)(st2:St):Prop:=yQ q p a b n m k l st fr st2/\∃ o:Nat,o<n/\fr 10=i o
theorem iU(l:List Int)(q a b:Nat)(st:St)(hl:l.length<65536)(YC:a+8<=b)(hb:b<=l.length)(Zx:q<st.next)(hH:st.H q=.box 34 1 (us l)):
 aB prog 168 [.ms q 0 l.length,i a,i b] st fun r st'=>∃ c,st'.H q=.box 34 1 (us c)/\Pm a b l c/\bN q st st':=by
 obtain⟨n,hn⟩:∃ n:Nat,n=b-a:=⟨_,rfl⟩;obtain⟨n4,U0⟩:∃ m:Nat,m=n / 4:=⟨_,rfl⟩;obtain⟨k0,Ye⟩:∃ m:Nat,m=a+n4*2:=⟨_,rfl⟩;have w1:IntKind.i64.wrap ((b:Int)-(a:Int))=(n:Int):=zW;have w2:IntKind.i64.wrap ((n:Int) / 4)=(n4:Int):=by rw[show(n:Int) / 4=((n / 4:Nat):Int) from rfl,<- U0];exact wrap_i64 _ oO oO
 have w4:IntKind.i64.wrap ((n4:Int)*2)=((n4*2:Nat):Int):=zW;have w7:IntKind.i64.wrap ((a:Int)+((n4*2:Nat):Int))=(k0:Int):=zW;have w8:=aG k0 oO oO;obtain⟨k1,Xp⟩:∃ m:Nat,m=k0+1:=⟨_,rfl⟩;have w9:IntKind.i64.wrap ((k0:Int)+1)=(k1:Int):=by rw[qN k0 oO,Xp]
 have w10:IntKind.u64.wrap (n:Int)=(n:Int):=wrap_u64 _ oO oO;have h8:(8:Int)<=(n:Int):=oO;have ZQ:=(vA n oO).2 oO;obtain⟨m,hm⟩:∃ m:Nat,m=2 ^ jY n:=⟨_,rfl⟩;rw[<- hm]at ZQ;have w11:IntKind.u64.wrap ((m:Int)-1)=((m-1:Nat):Int):=by rw[wrap_u64 _ oO oO];omega
 generalize ((n4*2:Nat):Int)=e2 at *;refine zN func168 ntmps168 [] ?_
 (repeat' (first|apply qS|(refine zE ?_;intro J hJ;simp[w1];refine zJ hJ ?_)))
 apply qC;simp[h8]
 (repeat' (first|apply qS|(refine zE ?_;intro J hJ;simp[w10,w1];(try refine zJ hJ ?_))))
 refine qF (nextPowerOfTwo n _ oO) ?_;rintro r st' ⟨rfl,rfl⟩;rw[<- hm]
 (repeat' (first|apply qS|apply qB|((first|(refine zE ?_;intro J hJ)|(apply aF));simp[w2,w4,w7,w8];refine zJ hJ ?_)))
 refine qL (fun z fr st2=>∃ k:Nat,k0<=k+1/\k<=k0+2/\z=k0+2-k/\yQ q st.next a b n m k l st fr st2) 3 ?_ ?_
 .refine⟨k0-1,oO,oO,oO,?_⟩;unfold yQ;have Wu:¬q=st.next:=oO;refine⟨sS,sS,sS,sS,sS,sS,sS,?_,⟨n,sS⟩,l,by simp[Wu,hH],.refl⟩;exact((bN.refl q st).keeps (aA.new _ _)).set' (aAk _) _
 rintro z fr st2 ⟨k,K7,hku,rfl,f0,f1,f6,f7,f8,f9,Y6,YQ,⟨s,hs⟩,c,hcq,Xf⟩ JJ hJJ;have Xh:=Xf.len;by_cases GD:(k:Int)<=(k1:Int);rotate_left
 .clear hJJ
  (repeat' (first|apply qS|refine qX (zZ ?_)|(apply qC;simp[f1,f6,f9,w2,w4,w7,w9,GD])|(refine zE ?_;intro J hJ;simp[f1,f6,f9,w2,w4,w7,w9,GD];refine zJ hJ ?_)))
  exact⟨trivial,c,hcq,Xf,YQ⟩
 (repeat (apply qS));(refine zE ?_;intro J hJ;simp[f1,f6,f9,w2,w4,w7,w9,GD];refine zJ hJ ?_)
 apply qC;simp[GD];refine qK (zZ ?_);apply qS;apply qB;apply qS
 (refine zE ?_;intro J hJ;simp[f7])
 refine qF (TJ st.next s _ hs) ?_;rintro r st' ⟨s1,rfl,rfl⟩;obtain⟨o,ho,I1⟩:=Kh s1 m oO oO;have w12:IntKind.i64.wrap (o:Int)=(o:Int):=zW
 (apply aF;simp[f8,w11,I1,w12];refine zJ hJ ?_)
 apply qS;refine bC (Rc q st.next a b n m k l st) ?_ ?_
 .have U9:¬q=st.next:=oO;have hI:∀ Zq:Frm,Zq 0=fr 0->Zq 1=fr 1->Zq 6=fr 6->Zq 7=fr 7->Zq 8=fr 8->Zq 9=fr 9->yQ q st.next a b n m k l st Zq (xx st2 st.next s1):=by intro Zq g0 g1 g6 g7 g8 g9;exact⟨by rw[g0,f0],by rw[g1,f1],by rw[g6,f6],by rw[g7,f7],by rw[g8,f8],by rw[g9,f9],by simpa using Y6,YQ.set' (aAk _) _,⟨s1,sS⟩,c,by simp[U9,hcq],Xf⟩
  by_cases u6:(n:Int)<=(o:Int)
  .have w13:IntKind.i64.wrap ((o:Int)-(n:Int))=((o-n:Nat):Int):=zW
   (repeat' (first|apply qS|(apply qC;simp[f6,u6,w13])|(refine zE ?_;intro J hJ;simp[f6,u6,w13];refine zJ hJ ?_)))
   refine⟨by trivial,?_⟩;exact⟨hI _ sS sS sS sS sS sS,o-n,oO,sS⟩
  ·(repeat' (first|apply qS|refine qK (zZ ?_)|(apply qC;simp[f6,u6])|(refine zE ?_;intro J hJ;simp[f6,u6];refine zJ hJ ?_)))
   refine⟨by trivial,?_⟩;exact⟨hI _ sS sS sS sS sS sS,o,oO,sS⟩
 clear f0 f1 f6 f7 f8 f9 Y6 YQ hs hcq Xf Xh I1 w12 ho o s s1 c st2 fr;rintro fr st2 ⟨⟨f0,f1,f6,f7,f8,f9,Y6,YQ,⟨s,hs⟩,c,hcq,Xf⟩,o,ho,f10⟩;have Xh:=Xf.len;obtain⟨x,hx⟩:∃ x:Nat,x=a+o:=⟨_,rfl⟩;have w12:IntKind.i64.wrap ((a:Int)+(o:Int))=(x:Int):=zW;have w13:=qN k oO;have Xn:=qG c k oO;have YM:=qG c x oO;have J7:k<l.length:=oO;have N9:x<l.length:=oO;have YP:=fun v y=>pZ st2 q c k x (x:=v) (y:=y) oO oO;have YE:=Xf.step k x oO oO oO oO oO;generalize hv:c.getD k 0=v at *;generalize hy:c.getD x 0=y at *;have Xy:=YP v y rfl rfl
 (refine zS [] [q] [0,2,4,6,8,10,12,14,16,18,20,22,24,26,28,30,32,35,36,39] ?_;intro J hJ;simp[f0,f1,f9,f10,w12,J7,N9,Xh,hcq,Xn,YM];(repeat refine ca ?_);refine zJ hJ ?_)
 (repeat' (refine zE ?_;intro J hJ;simp[f9,w13];refine zJ hJ ?_))
 have U9:¬st.next=q:=oO;rw[Xy];exact hJJ (k0+2-(k+1)) _ _ oO ⟨k+1,oO,oO,rfl,by simp[f0],by simp[f1],by simp[f6],by simp[f7],by simp[f8],sS,by simpa using Y6,YQ.set _,⟨s,by simp[U9,hs]⟩,_,sS,YE⟩
theorem Srt.out{a m:Nat}{c d:List Int}(h:Srt a m c)(e:∀ j,a<=j->j<m->d.getD j 0=c.getD j 0):Srt a m d:=by intro p q h1 h2 h3;rw[e p h1 oO,e q oO h3];exact h p q h1 h2 h3
theorem _root_.Go.Proofs.YtempldclppogmaaGreatDoor.Pl.cD.pmL{c d:List Int}{a m b:Nat}(h:cD c a m b)(k:Pm a m c d):cD d a m b:=by unfold cD at h ⊢;have e:d.getD m 0=c.getD m 0:=k.out m oO;rw[e];refine⟨fun p h1 h2=>k.all (fun v=>decide (v<c.getD m 0)=true) h.1 p h1 h2,fun p h1 h2=>?_⟩;rw[k.out p oO];exact h.2 p h1 h2
theorem _root_.Go.Proofs.YtempldclppogmaaGreatDoor.Pl.cD.pmR{c d:List Int}{a m b:Nat}(h:cD c a m b)(k:Pm (m+1) b c d):cD d a m b:=by unfold cD at h ⊢;have e:d.getD m 0=c.getD m 0:=k.out m oO;rw[e];refine⟨fun p h1 h2=>?_,fun p h1 h2=>k.all (fun v=>decide (v<c.getD m 0)=false) (fun j g1 g2=>h.2 j oO g2) p oO h2⟩;rw[k.out p oO];exact h.1 p h1 h2
theorem _root_.Go.Proofs.YtempldclppogmaaGreatDoor.Pl.cD.glue{d:List Int}{a m b:Nat}(h:cD d a m b)(h1:Srt a m d)(h2:Srt (m+1) b d):Srt a b d:=by
 refine NV h1 h2 (fun p g1 g2=>?_) fun q g1 g2=>?_
 .have:=h.1 p g1 g2;simp only[aCa]at this;omega
 .have:=h.2 q g1 g2;simp only[aCg]at this;omega
theorem _root_.Go.Proofs.YtempldclppogmaaGreatDoor.Pl.cD.aheadR{d:List Int}{a m b:Nat}(h:cD d a m b):gK d (m+1) b:=by intro _ j g1 g2;have:=h.2 j oO g2;simp only[aCg]at this;rw[aBU];omega
theorem gK.less{d:List Int}{a m b:Nat}(h:gK d a b)(hm:m<=b):gK d a m:=fun h0 j g1 g2=>h h0 j g1 oO
theorem KW{c d:List Int}{a m b:Nat}{x:Int}(h:uE c a m b x)(Zs:∀ j,a<=j->j<m->x<=c.getD j 0)(k:Pm m b c d)(hs:Srt m b d):Srt a b d:=by
 intro p q h1 h2 h3;by_cases hq:q<m
 .rw[k.out p oO,k.out q oO];have:=h.1 p h1 oO;have:=Zs q oO hq;omega
 .by_cases hp:p<m
  .rw[k.out p oO];have g:=h.1 p h1 hp;have:x<d.getD q 0:=k.all (fun v=>x<v) h.2 q oO h3;omega
  .exact hs p q oO h2 h3
def Eh(a b a' b':Nat)(c:List Int):Prop:=∀ d,Pm a' b' c d->Srt a' b' d->Srt a b d
theorem Eh.pm{a b a' b':Nat}{c d:List Int}(h:Eh a b a' b' c)(k:Pm a' b' c d):Eh a b a' b' d:=fun e h1 h2=>h e (k.trans h1) h2
theorem Fk{P:Program}{N:Nat}{Q:AQ}{k:List fU}{fr:Frm}{st:St}{x y:Code}(I:Frm->St->Prop)(h1:AWp P N x (AK P N (fun e f s=>(e=.normal/\I f s)\/(e=.ret/\AK P N Q k .ret f s)) []) fr st)(h2:∀ fr st,I fr st->AWp P N y (AK P N Q k) fr st):
 AWp P N x (AK P N Q (.code y::k)) fr st:=by
 refine cY h1 ?_;rintro e Xg st' (⟨rfl,hI⟩|⟨rfl,hI⟩)
 .rw[iR];exact h2 _ _ hI
 .rw[yC];exact hI
theorem FX{P:Program}{N:Nat}{Q:AQ}{k:List fU}{fr:Frm}{st:St}{x y:Code}(I:Frm->St->Prop)(h1:AWp P N x (AK P N (fun e f s=>(e=.normal/\I f s)\/(e≠.normal/\AK P N Q k e f s)) []) fr st)(h2:∀ fr st,I fr st->AWp P N y (AK P N Q k) fr st):
 AWp P N x (AK P N Q (.code y::k)) fr st:=by
 refine cY h1 ?_;rintro e Xg st' (⟨rfl,hI⟩|⟨Wu,hI⟩)
 .rw[iR];exact h2 _ _ hI
 .cases e<;>first|exact absurd rfl Wu|exact hI
def PdI(q:Nat)(l:List Int)(st:St)(a b a' b':Nat)(wb wp:Bool)(YB n:Nat)(fr:Frm)(st2:St):Prop:=
 fr 0=.ms q 0 l.length/\fr 1=i a'/\fr 2=i b'/\fr 3=i YB/\fr 8=bb wb/\fr 9=bb wp/\fr 10=i n/\YB<1000000/\q<st2.next/\bN q st st2/\∃ c,st2.H q=.box 34 1 (us c)/\Pm a b l c/\gK c a' b'/\Eh a b a' b' c
theorem PdI.mk{q:Nat}{l:List Int}{st:St}{a b a' b':Nat}{wb wp:Bool}{YB n:Nat}{fr:Frm}{st2:St}{c:List Int}(f0:fr 0=.ms q 0 l.length)(f1:fr 1=i a')(f2:fr 2=i b')(f3:fr 3=i YB)(f8:fr 8=bb wb)(f9:fr 9=bb wp)(f10:fr 10=i n)(o8:YB<1000000)(Zx:q<st2.next)(ho:bN q st st2)(hc:st2.H q=.box 34 1 (us c))(hp:Pm a b l c)(ha:gK c a' b')(hf:Eh a b a' b' c):PdI q l st a b a' b' wb wp YB n fr st2:=
 ⟨f0,f1,f2,f3,f8,f9,f10,o8,Zx,ho,c,hc,hp,ha,hf⟩
def PdJ(q:Nat)(l:List Int)(st:St)(a b a' b':Nat)(wb wp:Bool)(n:Nat)(fr:Frm)(st2:St):Prop:=∃ YB,PdI q l st a b a' b' wb wp YB n fr st2
def PdK(q:Nat)(l:List Int)(st:St)(a b a' b':Nat)(wb wp:Bool)(n:Nat)(fr:Frm)(st2:St):Prop:=∃ YB,PdI q l st a b a' b' wb wp YB n fr st2/\∃(pv:Nat) (h:Int),a'<=pv/\pv<b'/\fr 11=i pv/\fr 12=i h
theorem kB(Z:Nat):∀(l:List Int) (q a b YB:Nat) (st:St),l.length<65536->a<=b->b<=l.length->b-a<Z->gK l a b->YB<1000000->q<st.next->st.H q=.box 34 1 (us l)->
 aB prog 122 [.ms q 0 l.length,i a,i b,i YB] st fun r st'=>∃ c,st'.H q=.box 34 1 (us c)/\Pm a b l c/\Srt a b c/\bN q st st':=by
 induction Z with
 |zero=>intro l q a b YB st _ _ _ h;omega
 |succ Z ih=>
 intro l q a b YB st hl YC hb hZ hah hlim Zx hH;have p8:small l:=by unfold small;omega
 refine zN func122 ntmps122 [] ?_
 (repeat' (first|apply qS|apply qB|(refine zE ?_;intro J hJ;simp[];refine zJ hJ ?_)))
 refine qL (fun z fr st2=>∃(a' b' YB:Nat) (wb wp:Bool) (n:LV),a<=a'/\a'<=b'/\b'<=b/\z=b' - a'/\PdI q l st a b a' b' wb wp YB 0 (upd fr 10 (i (0:Nat))) st2) (b-a) ?_ ?_
 .refine⟨a,b,YB,true,true,.nil,oO,oO,oO,rfl,?_⟩;exact PdI.mk sS sS sS sS sS sS sS hlim Zx (.refl _ _) hH .refl hah fun d h1 h2=>h2
 rintro z fr st2 ⟨a',b',YB,wb,wp,-,ha1,ha2,u7,rfl,f0,f1,f2,f3,f8,f9,-,o8,YA,YQ,c,hc,Xf,YI,Xj⟩ JJ hJJ;rw[xG,aAa oO]at f0 f1 f2 f3 f8 f9;have Xh:=Xf.len;have YZ:small c:=by unfold small;omega
 obtain⟨n,hn⟩:∃ n:Nat,n=b' - a':=⟨_,rfl⟩;have w1:IntKind.i64.wrap ((b':Int)-(a':Int))=(n:Int):=zW;apply qB
 (repeat' (first|apply qS|(refine zE ?_;intro J hJ;simp[f1,f2,w1];refine zJ hJ ?_)))
 by_cases hn12:(n:Int)<=12
 .clear hJJ;apply qC;simp[hn12]
  (repeat' (first|apply qS|(refine zE ?_;intro J hJ;simp[f0,f1,f2])))
  refine qE (insertionSort c q a' b' st2 YZ oO oO hc) (by simp[f0,f1,f2,Xh]) ?_;rintro r st' ⟨d,rfl,k1,k2⟩
  (repeat' (first|(refine qR (zZ ?_);simp[])|(apply aF;simp[];refine zJ hJ ?_)))
  exact⟨d,rfl,Xf.trans (k1.wide oO oO oO),Xj d k1 k2,YQ.set _⟩
 apply qC;simp[hn12]
 (repeat' (first|apply qS|refine qK (zZ ?_)|(refine zE ?_;intro J hJ;simp[f3];refine zJ hJ ?_)))
 by_cases Zu:YB=0
 .clear hJJ;apply qC;simp[Zu]
  (repeat' (first|apply qS|(refine zE ?_;intro J hJ;simp[f0,f1,f2])))
  refine qE (vD c q a' b' st2 YZ oO oO hc) (by simp[f0,f1,f2,Xh]) ?_;rintro r st' ⟨d,rfl,k1,k2⟩
  (repeat' (first|(refine qR (zZ ?_);simp[])|(apply aF;simp[];refine zJ hJ ?_)))
  exact⟨d,rfl,Xf.trans (k1.wide oO oO oO),Xj d k1 k2,YQ.set _⟩
 apply qC;simp[Zu];refine qK (zZ ?_);apply qS;refine bC (PdJ q l st a b a' b' wb wp n) ?_ ?_
 .clear hJJ;cases wb
  ·(repeat' (first|apply qS|(apply qC;simp[f0,f1,f2,f8])|(refine zE ?_;intro J hJ;simp[f0,f1,f2,f8];(try refine zJ hJ ?_))))
   refine qE (iU c q a' b' st2 oO oO oO YA hc) (by simp[f0,f1,f2,Xh]) ?_;rintro r st' ⟨d,k0,k1,k2⟩;have w2:=aG YB oO oO
   (repeat' ((first|(refine zE ?_;intro J hJ)|(apply aF));simp[f3,w2];refine zJ hJ ?_))
   refine⟨by trivial,?_⟩;exact⟨YB-1,PdI.mk (by simp[f0]) (by simp[f1]) (by simp[f2]) sS (by simp[f8]) (by simp[f9]) sS oO (aAp YA k2.1) (YQ.trans k2) k0 (Xf.trans (k1.wide oO oO oO)) (YI.pm k1) (Xj.pm k1)⟩
  ·(repeat' (first|apply qS|refine qK (zZ ?_)|(apply qC;simp[f8])|(refine zE ?_;intro J hJ;simp[f8];refine zJ hJ ?_)))
   refine⟨by trivial,?_⟩;exact⟨YB,PdI.mk (by simp[f0]) (by simp[f1]) (by simp[f2]) (by simp[f3]) (by simp[f8]) (by simp[f9]) sS oO YA YQ hc Xf YI Xj⟩
 clear f0 f1 f2 f3 f8 f9 o8 YA YQ hc Xf YI Xj Xh YZ c st2 fr Zu YB;rintro fr st2 ⟨YB,f0,f1,f2,f3,f8,f9,f10,o8,YA,YQ,c,hc,Xf,YI,Xj⟩;have Xh:=Xf.len;have YZ:small c:=by unfold small;omega
 apply qS
 (refine zE ?_;intro J hJ;simp[f0,f1,f2])
 refine qE (mG c q a' b' st2 YZ oO oO YA hc) (by simp[f0,f1,f2,Xh]) ?_;rintro r st' ⟨pv,h,rfl,ZB,Zt,k0⟩;have C8:st'.H q=.box 34 1 (us c):=by rw[k0.H q YA];exact hc
 have V5:q<st'.next:=aAp YA k0.next;have U6:=YQ.keeps k0;clear hc YA YQ k0
 (apply aF;simp[];refine zJ hJ ?_)
 apply qS;refine bC (PdK q l st a b a' b' wb wp n) ?_ ?_
 .clear hJJ;by_cases hh:h=2
  ·(repeat' (first|apply qS|(apply qC;simp[hh,f0,f1,f2])|(refine zE ?_;intro J hJ;simp[hh,f0,f1,f2];(try refine zJ hJ ?_))))
   refine qE (jX c q a' b' st' YZ oO oO oO C8) (by simp[f0,f1,f2,Xh]) ?_;rintro r st' ⟨d,rfl,k1⟩;have w2:=aG b' oO oO;obtain⟨x1,hx1⟩:∃ x,x=b' - 1:=⟨_,rfl⟩;obtain⟨x2,Ys⟩:∃ x,x=pv-a':=⟨_,rfl⟩;obtain⟨x3,hx3⟩:∃ x,x=x1-x2:=⟨_,rfl⟩;have w3:IntKind.i64.wrap ((pv:Int)-(a':Int))=(x2:Int):=zW;have w4:IntKind.i64.wrap ((x1:Int)-(x2:Int))=(x3:Int):=zW;rw[<- hx1]at w2
   (repeat' (first|apply qS|((first|(refine zE ?_;intro J hJ)|(apply aF));simp[f1,f2,w2,w3,w4];refine zJ hJ ?_)))
   refine⟨by trivial,?_⟩;exact⟨YB,PdI.mk (by simp[f0]) (by simp[f1]) (by simp[f2]) (by simp[f3]) (by simp[f8]) (by simp[f9]) (by simp[f10]) oO V5 (U6.set _) sS (Xf.trans (k1.wide oO oO oO)) (YI.pm k1) (Xj.pm k1),x3,1,oO,oO,sS,sS⟩
  ·(repeat' (first|apply qS|refine qK (zZ ?_)|(apply qC;simp[hh])|(refine zE ?_;intro J hJ;simp[hh];refine zJ hJ ?_)))
   refine⟨by trivial,?_⟩;exact⟨YB,PdI.mk (by simp[f0]) (by simp[f1]) (by simp[f2]) (by simp[f3]) (by simp[f8]) (by simp[f9]) (by simp[f10]) oO V5 U6 C8 Xf YI Xj,pv,h,oO,oO,sS,sS⟩
 clear f0 f1 f2 f3 f8 f9 f10 o8 V5 U6 C8 Xf YI Xj Xh YZ c st2 fr YB h ZB Zt pv;rintro fr st2 ⟨YB,⟨f0,f1,f2,f3,f8,f9,f10,o8,YA,YQ,c,hc,Xf,YI,Xj⟩,pv,h,ZB,Zt,f11,f12⟩;have Xh:=Xf.len;have YZ:small c:=by unfold small;omega
 apply qS;refine Fk (PdK q l st a b a' b' wb wp n) ?_ ?_
 .clear hJJ;cases wb
  ·(repeat' (first|apply qS|refine qK (zZ ?_)|(apply qC;simp[f8])|(refine zE ?_;intro J hJ;simp[f8];refine zJ hJ ?_)))
   refine .inl ⟨by trivial,?_⟩;exact⟨YB,PdI.mk (by simp[f0]) (by simp[f1]) (by simp[f2]) (by simp[f3]) (by simp[f8]) (by simp[f9]) (by simp[f10]) oO YA YQ hc Xf YI Xj,pv,h,oO,oO,by simp[f11],by simp[f12]⟩
  cases wp
  ·(repeat' (first|apply qS|refine qK (zZ ?_)|(apply qC;simp[f8,f9])|(refine zE ?_;intro J hJ;simp[f8,f9];refine zJ hJ ?_)))
   refine .inl ⟨by trivial,?_⟩;exact⟨YB,PdI.mk (by simp[f0]) (by simp[f1]) (by simp[f2]) (by simp[f3]) (by simp[f8]) (by simp[f9]) (by simp[f10]) oO YA YQ hc Xf YI Xj,pv,h,oO,oO,by simp[f11],by simp[f12]⟩
  by_cases hh:h=1;rotate_left
  ·(repeat' (first|apply qS|refine qK (zZ ?_)|(apply qC;simp[f8,f9,f12,hh])|(refine zE ?_;intro J hJ;simp[f8,f9,f12,hh];refine zJ hJ ?_)))
   refine .inl ⟨by trivial,?_⟩;exact⟨YB,PdI.mk (by simp[f0]) (by simp[f1]) (by simp[f2]) (by simp[f3]) (by simp[f8]) (by simp[f9]) (by simp[f10]) oO YA YQ hc Xf YI Xj,pv,h,oO,oO,by simp[f11],by simp[f12]⟩
  (repeat' (first|apply qS|(apply qC;simp[f8,f9,f12,hh,f0,f1,f2])|(refine zE ?_;intro J hJ;simp[f8,f9,f12,hh,f0,f1,f2];(try refine zJ hJ ?_))))
  refine qE (dI c q a' b' st2 YZ oO oO YI hc) (by simp[f0,f1,f2,Xh]) ?_;rintro r st' ⟨d,p,rfl,rfl,k1,k2⟩;cases p
  ·(repeat' (first|refine qK (zZ ?_)|(apply qC;simp[])|(apply aF;simp[];refine zJ hJ ?_)))
   refine .inl ⟨by trivial,?_⟩;exact⟨YB,PdI.mk (by simp[f0]) (by simp[f1]) (by simp[f2]) (by simp[f3]) (by simp[f8]) (by simp[f9]) (by simp[f10]) oO YA (YQ.set _) sS (Xf.trans (k1.wide oO oO oO)) (YI.pm k1) (Xj.pm k1),pv,h,oO,oO,by simp[f11],by simp[f12]⟩
  ·(repeat' (first|(refine qR (zZ ?_);simp[])|(apply qC;simp[])|(apply aF;simp[];refine zJ hJ ?_)))
   exact⟨d,rfl,Xf.trans (k1.wide oO oO oO),Xj d k1 (k2 rfl),YQ.set _⟩
 clear f0 f1 f2 f3 f8 f9 f10 f11 f12 o8 YA YQ hc Xf YI Xj Xh YZ c st2 fr YB h ZB Zt pv;rintro fr st2 ⟨YB,⟨f0,f1,f2,f3,f8,f9,f10,o8,YA,YQ,c,hc,Xf,YI,Xj⟩,pv,h,ZB,Zt,f11,f12⟩;have Xh:=Xf.len;have YZ:small c:=by unfold small;omega
 apply qS;refine FX (PdK q l st a b a' b' wb wp n) ?_ ?_
 .by_cases h0:a'=0
  .clear hJJ;have S6:¬(0:Int)<(a':Int):=oO
   (repeat (apply qS));(refine zS [] [q] [0,2,4,6,8,10,12,14,16,18,20,22,25,26,28] ?_;intro J hJ;simp[f0,f1,h0];refine zJ hJ ?_)
   (repeat' (first|refine qK (zZ ?_)|(apply qC;simp[])))
   refine .inl ⟨by trivial,?_⟩;exact⟨YB,PdI.mk (by simp[f0]) (by simp[f1]) (by simp[f2]) (by simp[f3]) (by simp[f8]) (by simp[f9]) (by simp[f10]) oO  YA YQ hc Xf YI Xj,pv,h,oO,oO,by simp[f11],by simp[f12]⟩
  have S6:0<a':=oO;have w2:=aG a' oO oO;have Xn:=qG c (a' - 1) oO;have YM:=qG c pv oO;have J7:a' - 1<l.length:=oO;have N9:pv<l.length:=oO;have Zs:∀ j,a'<=j->j<b'->c.getD (a' - 1) 0<=c.getD j 0:=YI S6;generalize hx:c.getD (a' - 1) 0=x at *;generalize hy:c.getD pv 0=y at *
  (repeat (apply qS));(refine zS [] [q] [0,2,4,6,8,10,12,14,16,18,20,22,25,26,28] ?_;intro J hJ;simp[f0,f1,f11,S6,w2,J7,N9,Xh,hc,Xn,YM])
  refine aK (uW x y _) ?_;rintro r s2 ⟨rfl,rfl⟩;refine⟨fun _=>by simp,?_⟩;by_cases YK:x<y
  .clear hJJ
   (apply aS;simp[YK];refine zJ hJ ?_)
   (repeat' (first|refine qK (zZ ?_)|(apply qC;simp[])))
   refine .inl ⟨by trivial,?_⟩;exact⟨YB,PdI.mk (by simp[f0]) (by simp[f1]) (by simp[f2]) (by simp[f3]) (by simp[f8]) (by simp[f9]) (by simp[f10]) oO  YA YQ hc Xf YI Xj,pv,h,oO,oO,by simp[f11],by simp[f12]⟩
  (apply aS;simp[YK];refine zJ hJ ?_)
  (repeat' (first|apply qS|(apply qC;simp[f0,f1,f2,f11])|(refine zE ?_;intro J hJ;simp[f0,f1,f2,f11])))
  refine qE (gM c q a' b' pv _ YZ oO oO ZB Zt hc) (by simp[f0,f1,f2,f11,Xh]) ?_;rintro r st' ⟨d,Xw,rfl,rfl,k1,k2,k3,k4⟩
  (repeat' (first|apply qS|refine qX (zZ ?_)|((first|(refine zE ?_;intro J hJ)|(apply aF));simp[];refine zJ hJ ?_)))
  refine .inr ⟨sS,?_⟩;refine hJJ (b' - Xw) _ _ oO ⟨Xw,b',YB,wb,wp,.nil,oO,oO,oO,rfl,?_⟩;rw[hy]at k4;refine PdI.mk (by simp[f0]) sS (by simp[f2]) (by simp[f3]) (by simp[f8]) (by simp[f9]) sS oO YA (YQ.set _) sS (Xf.trans (k1.wide oO oO oO)) ?_ ?_
  .intro _ j g1 g2;have e1:=k4.1 (Xw-1) oO oO;have e2:=k4.2 j g1 g2;omega
  .intro e g1 g2;refine Xj e (k1.trans (g1.wide oO oO (by have:=k1.len;omega))) (KW k4 (fun j e1 e2=>?_) g1 g2);have:=k1.all (fun v=>x<=v) Zs j e1 oO;omega
 clear f0 f1 f2 f3 f8 f9 f10 f11 f12 o8 YA YQ hc Xf YI Xj Xh YZ c st2 fr YB h ZB Zt pv;rintro fr st2 ⟨YB,⟨f0,f1,f2,f3,f8,f9,f10,o8,YA,YQ,c,hc,Xf,YI,Xj⟩,pv,h,ZB,Zt,f11,f12⟩;have Xh:=Xf.len;have YZ:small c:=by unfold small;omega
 (repeat' (first|apply qS|(refine zE ?_;intro J hJ;simp[f0,f1,f2,f11])))
 refine qE (partition c q a' b' pv _ YZ oO oO ZB Zt hc) (by simp[f0,f1,f2,f11,Xh]) ?_;rintro r st' ⟨d,Xw,p,rfl,rfl,k1,k2,k3,k4⟩;have x7:=k1.len;have k4:cD d a' Xw b':=k4;have hpm':=Xf.trans (k1.wide ha1 u7 oO);have hah':=YI.pm k1;have Q5:=Xj.pm k1;have hof':=YQ.set (q:=q) (.box 34 1 (us d));have w3:IntKind.i64.wrap ((Xw:Int)-(a':Int))=((Xw-a':Nat):Int):=zW;have w4:IntKind.i64.wrap ((b':Int)-(Xw:Int))=((b' - Xw:Nat):Int):=zW;have w5:IntKind.i64.wrap ((n:Int) / 8)=((n / 8:Nat):Int):=by rw[show(n:Int) / 8=((n / 8:Nat):Int) from rfl];exact wrap_i64 _ oO oO
 obtain⟨z1,hz1⟩:∃ x:Nat,x=Xw-a':=⟨_,rfl⟩;obtain⟨z2,hz2⟩:∃ x:Nat,x=b' - Xw:=⟨_,rfl⟩;obtain⟨z3,hz3⟩:∃ x:Nat,x=n / 8:=⟨_,rfl⟩;obtain⟨m1,E8⟩:∃ x:Nat,x=Xw+1:=⟨_,rfl⟩;rw[<- hz1]at w3;rw[<- hz2]at w4;rw[<- hz3]at w5;have w6:IntKind.i64.wrap ((Xw:Int)+1)=(m1:Int):=by rw[qN Xw oO,E8]
 clear hc Xf YI Xj YQ
 (repeat' (first|apply qS|((first|(refine zE ?_;intro J hJ)|(apply aF));simp[f1,f2,f10,w3,w4,w5];refine zJ hJ ?_)))
 apply qC;by_cases hzz:z1<z2
 .simp[hzz]
  (repeat' (first|apply qS|(refine zE ?_;intro J hJ;simp[f0,f1,f3];(try refine zJ hJ ?_))))
  refine qE (ih d q a' Xw YB (bx st2 q d) oO oO oO oO (hah'.less oO) oO YA sS) (by simp[f0,f1,f2,f3,x7,Xh]) ?_;rintro r st' ⟨e,j0,j1,j2,j3⟩
  (repeat' ((first|(refine zE ?_;intro J hJ)|(apply aF));simp[w6];refine zJ hJ ?_))
  refine hJJ (b' - m1) _ _ oO ⟨m1,b',YB,decide (z3<=z1),p,.nil,oO,oO,oO,rfl,?_⟩;refine PdI.mk (by simp[f0]) sS (by simp[f2]) (by simp[f3]) sS sS sS oO (aAp YA j3.1) (hof'.trans j3) j0 (hpm'.trans (j1.wide oO oO oO)) ?_ ?_
  .rw[E8];exact(k4.pmL j1).aheadR
  .intro y g1 g2;rw[E8]at g1 g2;refine Q5 y ((j1.wide oO oO oO).trans (g1.wide oO oO (by have:=j1.len;omega))) (((k4.pmL j1).pmR g1).glue (Srt.out j2 fun j e1 e2=>g1.out j oO) g2)
 .simp[hzz]
  (repeat' (first|apply qS|(refine zE ?_;intro J hJ;simp[f0,f2,f3,w6];(try refine zJ hJ ?_))))
  refine qE (ih d q m1 b' YB (bx st2 q d) oO oO oO oO (by rw[E8];exact k4.aheadR) oO YA sS) (by simp[f0,f1,f2,f3,x7,Xh]) ?_;rintro r st' ⟨e,j0,j1,j2,j3⟩
  (repeat' ((first|(refine zE ?_;intro J hJ)|(apply aF));simp[];refine zJ hJ ?_))
  rw[E8]at j1 j2;refine hJJ (Xw-a') _ _ oO ⟨a',Xw,YB,decide (z3<=z2),p,.nil,oO,oO,oO,rfl,?_⟩;refine PdI.mk (by simp[f0]) (by simp[f1]) sS (by simp[f3]) sS sS sS oO (aAp YA j3.1) (hof'.trans j3) j0 (hpm'.trans (j1.wide oO oO oO)) ?_ ?_
  .exact(hah'.pm (j1.wide oO oO oO)).less oO
  .intro y g1 g2;refine Q5 y ((j1.wide oO oO oO).trans (g1.wide oO oO (by have:=j1.len;omega))) (((k4.pmR j1).pmL g1).glue g2 (Srt.out j2 fun j e1 e2=>g1.out j oO))
theorem TF(l:List Int)(q:Nat)(st:St)(hl:l.length<65536)(Zx:q<st.next)(hH:st.H q=.box 34 1 (us l)):
 aB prog 79 [.ms q 0 l.length] st fun r st'=>∃ c,st'.H q=.box 34 1 (us c)/\c.Perm l/\c.Pairwise (·<=·)/\bN q st st':=by
 have w1:IntKind.u64.wrap (l.length:Int)=(l.length:Int):=wrap_u64 _ oO oO;have ZQ:=(vA l.length oO).1;refine zN func79 ntmps79 [] ?_
 (repeat' (first|apply qS|(refine zE ?_;intro J hJ;simp[w1];(try refine zJ hJ ?_))))
 refine qF (Len l.length _ oO) ?_;rintro r st' ⟨rfl,rfl⟩
 (repeat' (apply aF;simp[]))
 refine qE (kB (l.length+1) l q 0 l.length (jY l.length) _ hl oO oO oO (fun h=>absurd h oO) oO Zx hH) (by simp[]) ?_;rintro r st' ⟨c,k1,k2,k3,k4⟩
 (repeat' (apply aF;simp[];refine zJ hJ ?_))
 have Xh:=k2.len;exact⟨trivial,c,k1,k2.perm,HR (by rw[Xh];exact k3),k4⟩
end Aw
end Go.Proofs.YtempldclppogmaaGreatDoor
