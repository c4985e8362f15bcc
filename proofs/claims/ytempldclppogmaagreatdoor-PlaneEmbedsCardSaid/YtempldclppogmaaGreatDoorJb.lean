/- The library's sort: heapSort. -/
import Derived.Test.YtempldclppogmaaGreatDoorJa
set_option linter.unusedVariables false
set_option linter.unusedSimpArgs false
set_option maxHeartbeats 4000000
open Go.Proofs.Tryz
namespace Go.Proofs.YtempldclppogmaaGreatDoor
namespace Aw
open Go Go.RowKit Pl
def Ur(c:List Int)(f j hi:Nat):Prop:=∀ p q,p<q->j<=q->q<hi->c.getD (f+p) 0<=c.getD (f+q) 0
theorem tG(l:List Int)(q a b:Nat)(st:St)(hl:small l)(ha:a<b)(hb:b<=l.length)(hH:st.H q=.box 34 1 (us l)):
 aB prog 167 [.ms q 0 l.length,i a,i b] st fun r st'=>∃ c,st'=bx st q c/\Pm a b l c/\Srt a b c:=by
 have ZZ:=hl;unfold small at hl;obtain⟨n,hn⟩:∃ n:Nat,n=b-a:=⟨_,rfl⟩;obtain⟨n1,YZ⟩:∃ n:Nat,n=b-a-1:=⟨_,rfl⟩;obtain⟨n2,ZI⟩:∃ n:Nat,n=n1 / 2:=⟨_,rfl⟩;have w1:IntKind.i64.wrap ((b:Int)-(a:Int))=(n:Int):=zW;have w2:IntKind.i64.wrap ((n:Int)-1)=(n1:Int):=zW;have w3:IntKind.i64.wrap ((n1:Int) / 2)=(n2:Int):=by rw[show(n1:Int) / 2=((n1 / 2:Nat):Int) from rfl,<- ZI];exact wrap_i64 _ oO oO
 refine zN func167 ntmps167 [] ?_
 (repeat' (first|apply qS|apply qB|(refine zE ?_;intro J hJ;simp[w1,w2,w3];refine zJ hJ ?_)))
 refine qL (fun m fr st'=>∃(c:List Int),m<=n2+1/\fr 0=.ms q 0 l.length/\fr 6=i a/\fr 7=i 0/\fr 8=i n/\fr 9=i ((m:Int)-1)/\st'=bx st q c/\Pm a b l c/\nA m n a c) (n2+1) ?_ ?_
 .exact⟨l,oO,sS,sS,sS,sS,sS,fB hH,.refl,fun k x h1 h2 h3=>by omega⟩
 rintro m fr Yt ⟨c,hm,f0,f6,f7,f8,f9,rfl,Xi,hh⟩ JJ hJJ;have Xk:=Xi.len;cases m with
 |succ m=>
  have V1:fr 9=i (m:Int):=by rw[f9];congr 2;omega
  have w4:IntKind.i64.wrap ((m:Int)-1)=(m:Int)-1:=zW;have D7:(0:Int)<=(m:Int):=oO
  (repeat' (first|apply qS|apply qB|refine qK (zZ ?_)|(apply qC;simp[f0,f6,f7,f8,V1,D7])|(refine zE ?_;intro J hJ;simp[f0,f6,f7,f8,V1,D7];(try refine zJ hJ ?_))))
  rw[<- Xk];refine qF (mP c q m n a _ (by unfold small;omega) oO oO hh sS) ?_;rintro r s2 ⟨c2,rfl,YM,hh2⟩;rw[Xk]
  (repeat' ((first|(refine zE ?_;intro J hJ)|(apply aD));simp[V1,w4];refine zJ hJ ?_))
  exact hJJ m _ _ oO ⟨c2,oO,by simp[f0],by simp[f6],by simp[f7],by simp[f8],sS,St.set_set _ _ _ _,Xi.trans (YM.wide oO oO oO),hh2⟩
 |zero=>
  clear hJJ;have V1:fr 9=i (-1):=by rw[f9];rfl
  (repeat' (first|apply qS|apply qB|refine qX (zZ ?_)|(apply qC;simp[f0,f6,f7,f8,V1,w2])|(refine zE ?_;intro J hJ;simp[f0,f6,f7,f8,V1,w2];refine zJ hJ ?_)))
  refine qL (fun m fr st'=>∃(c:List Int),m<=n/\fr 0=.ms q 0 l.length/\fr 6=i a/\fr 7=i 0/\fr 10=i ((m:Int)-1)/\st'=bx st q c/\Pm a b l c/\nA 0 m a c/\Ur c a m n) n ?_ ?_
  .exact⟨c,aAi _,by simp[f0],by simp[f6],by simp[f7],by simp;omega,rfl,Xi,hh,fun p q h1 h2 h3=>by omega⟩
  clear f0 f6 f7 f8 f9 V1 Xi hh Xk c fr;rintro m fr Yt ⟨c,hm,f0,f6,f7,f10,rfl,Xi,hh,o6⟩ JJ hJJ;have Xk:=Xi.len;cases m with
  |zero=>
   have j5:fr 10=i (-1):=by rw[f10];rfl
   (repeat' (first|apply qS|refine qX (zZ ?_)|(apply qC;simp[j5])|(refine zE ?_;intro J hJ;simp[j5];refine zJ hJ ?_)))
   refine⟨trivial,c,rfl,Xi,fun p q h1 h2 h3=>?_⟩;have:=o6 (p-a) (q-a) oO oO oO
   rwa [show a+(p-a)=p by omega,show a+(q-a)=q by omega]at this
  |succ m=>
   have j5:fr 10=i (m:Int):=by rw[f10];congr 2;omega
   have w4:IntKind.i64.wrap ((m:Int)-1)=(m:Int)-1:=zW;have D7:(0:Int)<=(m:Int):=oO;obtain⟨x1,hx1⟩:∃ x:Nat,x=a+m:=⟨_,rfl⟩;have w5:IntKind.i64.wrap ((a:Int)+(m:Int))=(x1:Int):=zW;have hd0:=qG c a oO;have Xu:=qG c x1 oO;have v7:a<l.length:=oO;have G3:x1<l.length:=oO;have hpop:=hh.pop oO;have ZB:=fun c2=>CT (c2:=c2) hh o6 oO oO;have Yz:=Xi.step a x1 oO oO oO oO oO;rw[<- hx1]at hpop ZB;have I1:=vJ c a x1;have YT:=fun x y=>dM st q c a x1 (x:=x) (y:=y) oO oO;generalize S9:c.getD a 0=y0 at *;generalize D8:c.getD x1 0=y1 at *;have YC:=YT y0 y1 rfl rfl
   (repeat' (first|apply qS|apply qB|refine qK (zZ ?_)|(apply qC;simp[f0,f6,f7,j5,D7])|(refine zE ?_;intro J hJ;simp[f0,f6,f7,j5,D7];refine zJ hJ ?_)))
   (refine zS [] [q] [0,2,4,6,8,10,12,14,16,18,20,22,24,26,28,30,32,35,36,39] ?_;intro J hJ;simp[f0,f6,f7,j5,w5,v7,G3,Xk,hd0,Xu];(repeat refine ca ?_);refine zJ hJ ?_)
   rw[YC];generalize A4:sw c a x1=c1 at *
   (repeat' (refine zE ?_;intro J hJ;simp[f0,f6,f7,j5]))
   rw[<- Xk,<- I1];refine qF (mP c1 q 0 m a _ (by unfold small;omega) oO oO hpop sS) ?_;rintro r s2 ⟨c2,rfl,YM,hh2⟩;rw[I1,Xk]
   (repeat' ((first|(refine zE ?_;intro J hJ)|(apply aD));simp[j5,w4];refine zJ hJ ?_))
   exact hJJ m _ _ oO ⟨c2,oO,by simp[f0],by simp[f6],by simp[f7],sS,St.set_set _ _ _ _,Yz.trans (YM.wide oO oO oO),hh2,ZB c2 (by rw[hx1];exact YM)⟩
def StU(P:Int->Bool)(c:List Int)(ii jj:Nat):Prop:=ii<=jj->P (c.getD ii 0)=false
def StD(P:Int->Bool)(c:List Int)(ii kk:Nat):Prop:=ii<=kk->P (c.getD kk 0)=true
theorem partition(l:List Int)(q a b pv:Nat)(st:St)(hl:small l)(YA:a<b)(hb:b<=l.length)(ZF:a<=pv)(Zg:pv<b)(hH:st.H q=.box 34 1 (us l)):
 aB prog 174 [.ms q 0 l.length,i a,i b,i pv] st fun r st'=>∃(c:List Int) (YB:Nat) (p:Bool),r=.tu [i YB,bb p]/\st'=bx st q c/\Pm a b l c/\a<=YB/\YB<b/\cA c a YB b:=by
 unfold small at hl;refine zN func174 ntmps174 [.tmp 8,.tmp 9] ?_
 (repeat (apply qS));(refine zE ?_;intro J hJ;simp[];refine zJ hJ ?_)
 have o6:a<l.length:=oO;have A8:pv<l.length:=oO;have YT:=fun x y=>pJ st q l a pv (x:=x) (y:=y) oO oO;have hd0:=qG l a oO;have Xu:=qG l pv oO;have Xi:Pm a b l (sw l a pv):=Pm.one a pv oO oO oO oO oO;have hx:(sw l a pv).getD a 0=l.getD pv 0:=by
  rw[bV _ _ _ _ oO oO];by_cases e:a=pv
  .rw[aAe e,e]
  .rw[aAa e,aAe rfl]
 generalize S9:l.getD a 0=y0 at *;generalize D8:l.getD pv 0=x at *;have YC:=YT y0 x rfl rfl
 (repeat (apply qS));(refine zS [] [q] [0,2,4,6,8,10,12,14,16,18,20,22,24,27,28,31] ?_;intro J hJ;simp[hH,o6,A8,hd0,Xu];(repeat refine ca ?_);refine zJ hJ ?_)
 rw[YC];clear YT YC hd0 Xu S9;generalize hc:sw l a pv=c at *;clear hc;have Xk:=Xi.len;have w1:=qN a oO;have w2:=aH b oO oO;obtain⟨P,hPd⟩:∃ P:Int->Bool,∀ v,P v=decide (v<x):=⟨_,fun _=>rfl⟩;apply qS;refine bB (fun fr st2=>fr 0=.ms q 0 l.length/\fr 1=i a/\fr 10=i ((a+1:Nat):Int)/\fr 11=i ((b-1:Nat):Int)/\st2=bx st q c) (by(refine zE ?_;intro J hJ;simp[w1,w2];refine zJ hJ ?_);simp) ?_;rintro fr st2 ⟨f0,f1,fI,fJ,rfl⟩;have j9:a<a+1:=oO;have hij:a+1<=b-1+1:=oO;have I9:b-1<b:=oO;have YV:Lo P c a (a+1):=fun p h1 h2=>by omega
 have YW:Hi P c (b-1) b:=fun p h1 h2=>by omega
 generalize a+1=ii at *;generalize b-1=jj at *;clear w1 w2;have hd0:=qG c a oO;rw[hx]at hd0;apply qS;refine bB (fun fr st2=>∃ ii:Nat,a<ii/\ii<=jj+1/\fr 0=.ms q 0 l.length/\fr 1=i a/\fr 10=i ii/\fr 11=i jj/\st2=bx st q c/\Lo P c a ii/\StU P c ii jj) ?_ ?_
 .apply qB;refine qL (fun m fr st2=>∃ ii:Nat,a<ii/\ii<=jj+1/\m=jj+1-ii/\fr 0=.ms q 0 l.length/\fr 1=i a/\fr 10=i ii/\fr 11=i jj/\st2=bx st q c/\Lo P c a ii) (jj+1-ii) ?_ ?_
  .exact⟨ii,oO,oO,rfl,by simp[f0],by simp[f1],by simp[fI],by simp[fJ],rfl,YV⟩
  clear f0 f1 fI fJ YV j9 hij fr ii;rintro m fr st2 ⟨ii,j9,hij,rfl,f0,f1,fI,fJ,rfl,YV⟩ JJ hJJ;have v9:=qN ii oO;by_cases Xr:ii<=jj;rotate_left
  .clear hJJ
   (repeat (apply qS));(refine zS [] [q] [0,2,4,6,8,10,12,14,16,18,20,22,25,26] ?_;intro J hJ;simp[f0,f1,fI,fJ,Xr];refine zJ hJ ?_)
   (repeat' (first|refine qX (zZ ?_)|(apply qC;simp[])))
   exact⟨trivial,ii,oO,oO,by simp[f0],by simp[f1],by simp[fI],by simp[fJ],by trivial,YV,fun h=>absurd h Xr⟩
  have F6:ii<l.length:=oO;have Xu:=qG c ii oO;have C6:=YV.more;generalize hy:c.getD ii 0=y at *
  (repeat (apply qS));(refine zS [] [q] [0,2,4,6,8,10,12,14,16,18,20,22,25,26] ?_;intro J hJ;simp[f0,f1,fI,fJ,Xr,F6,o6,Xk,hd0,Xu])
  refine aJ (tP y x _) ?_;rintro r s2 ⟨rfl,rfl⟩;refine⟨fun _=>by simp,?_⟩;have hP:=hPd y;by_cases YX:y<x
  ·(apply aV;simp[YX];refine zJ hJ ?_)
   (repeat' (first|apply qB|refine qK (zZ ?_)|(apply qC;simp[fI,v9])|(refine zE ?_;intro J hJ;simp[fI,v9];refine zJ hJ ?_)))
   exact hJJ (jj+1-(ii+1)) _ _ oO ⟨ii+1,oO,oO,rfl,by simp[f0],by simp[f1],sS,by simp[fJ],rfl,C6 (by rw[hP];simp[YX])⟩
  .clear hJJ
   (apply aV;simp[YX];refine zJ hJ ?_)
   (repeat' (first|refine qX (zZ ?_)|(apply qC;simp[])))
   exact⟨trivial,ii,oO,oO,by simp[f0],by simp[f1],by simp[fI],by simp[fJ],by trivial,YV,fun _=>by rw[hy,hP];simp[YX]⟩
 clear f0 f1 fI fJ YV j9 hij fr ii;rintro fr st2 ⟨ii,j9,hij,f0,f1,fI,fJ,rfl,YV,YL⟩;apply qS;refine bB (fun fr st2=>∃ kk:Nat,a<=kk/\kk<=jj/\ii<=kk+1/\fr 0=.ms q 0 l.length/\fr 1=i a/\fr 10=i ii/\fr 11=i kk/\st2=bx st q c/\Hi P c kk b/\StD P c ii kk) ?_ ?_
 .apply qB;refine qL (fun m fr st2=>∃ kk:Nat,a<=kk/\kk<=jj/\ii<=kk+1/\kk=m/\fr 0=.ms q 0 l.length/\fr 1=i a/\fr 10=i ii/\fr 11=i kk/\st2=bx st q c/\Hi P c kk b) jj ?_ ?_
  .exact⟨jj,oO,oO,oO,rfl,by simp[f0],by simp[f1],by simp[fI],by simp[fJ],rfl,YW⟩
  clear f0 f1 fI fJ YW fr;rintro m fr st2 ⟨kk,o8,V7,T5,rfl,f0,f1,fI,fJ,rfl,YW⟩ JJ hJJ;by_cases Xr:ii<=kk;rotate_left
  .clear hJJ
   (repeat (apply qS));(refine zS [] [q] [0,2,4,6,8,10,12,14,16,18,20,22,25,26,28] ?_;intro J hJ;simp[f0,f1,fI,fJ,Xr];refine zJ hJ ?_)
   (repeat' (first|refine qX (zZ ?_)|(apply qC;simp[])))
   exact⟨trivial,kk,oO,oO,oO,by simp[f0],by simp[f1],by simp[fI],by simp[fJ],by trivial,YW,fun h=>absurd h Xr⟩
  have S0:=aH kk oO oO;have hlj:kk<l.length:=oO;have Xu:=qG c kk oO;have C6:=YW.more;generalize hy:c.getD kk 0=y at *
  (repeat (apply qS));(refine zS [] [q] [0,2,4,6,8,10,12,14,16,18,20,22,25,26,28] ?_;intro J hJ;simp[f0,f1,fI,fJ,Xr,hlj,o6,Xk,hd0,Xu])
  refine aJ (tP y x _) ?_;rintro r s2 ⟨rfl,rfl⟩;refine⟨fun _=>by simp,?_⟩;have hP:=hPd y;by_cases YX:y<x
  .clear hJJ
   (apply aV;simp[YX];refine zJ hJ ?_)
   (repeat' (first|refine qX (zZ ?_)|(apply qC;simp[])))
   exact⟨trivial,kk,oO,oO,oO,by simp[f0],by simp[f1],by simp[fI],by simp[fJ],by trivial,YW,fun _=>by rw[hy,hP];simp[YX]⟩
  ·(apply aV;simp[YX];refine zJ hJ ?_)
   (repeat' (first|apply qB|refine qK (zZ ?_)|(apply qC;simp[fJ,S0])|(refine zE ?_;intro J hJ;simp[fJ,S0];refine zJ hJ ?_)))
   exact hJJ (kk-1) _ _ oO ⟨kk-1,oO,oO,oO,rfl,by simp[f0],by simp[f1],by simp[fI],sS,rfl,C6 oO (by rw[hP];simp[YX])⟩
 clear f0 f1 fI fJ YW fr;rintro fr st2 ⟨kk,o8,V7,T5,f0,f1,fI,fJ,rfl,YW,ZG⟩;by_cases Xr:ii<=kk;rotate_left
 .have hke:ii=kk+1:=oO;have Zn:=lK (hke ▸ YV) YW oO oO oO;have YM:=Xi.step kk a oO oO oO oO oO;have Zf:kk<l.length:=oO;have Xu:=qG c kk oO;have YT:=fun x y=>dM st q c kk a (x:=x) (y:=y) oO oO;generalize D8:c.getD kk 0=y1 at *;have YC:=YT y1 x rfl hx
  (repeat' (first|apply qS|(apply qC;simp[f0,f1,fI,fJ,Xr];(try with_reducible intro hc))|(refine zE ?_;intro J hJ;simp[f0,f1,fI,fJ,Xr];refine zJ hJ ?_)))
  (refine zS [] [q] [0,2,4,6,8,10,12,14,16,18,20,22,24,27,28,31] ?_;intro J hJ;simp[f0,f1,fI,fJ,o6,Zf,Xk,hd0,Xu];(repeat refine ca ?_);refine zJ hJ ?_)
  (repeat' (first|apply qS|(refine qR (zZ ?_);simp[f0,f1,fI,fJ])|(refine zE ?_;intro J hJ;simp[f0,f1,fI,fJ];refine zJ hJ ?_)))
  exact⟨_,kk,rfl,YC,YM,oO,oO,by unfold cA;rw[Zn.2,hx];have h:=Zn.1;rwa [show P=_ from funext hPd]at h⟩
 have Zp:ii<kk:=by
  rcases aAB ii kk with h|h
  .exact h
  .exfalso;have e:ii=kk:=oO;have h1:=YL oO;have h2:=ZG Xr;rw[e,h2]at h1;cases h1
 have D5:=YV.swp Zp oO (ZG Xr);have D6:=YW.swp Zp oO (YL oO);have YM:=Xi.step ii kk oO oO oO oO oO;have Z0:(sw c ii kk).getD a 0=x:=by rw[bV _ _ _ _ oO oO,aAa oO,aAa oO];exact hx
 have F6:ii<l.length:=oO;have Zf:kk<l.length:=oO;have Xu:=qG c ii oO;have YQ:=qG c kk oO;have YT:=fun x y=>dM st q c ii kk (x:=x) (y:=y) oO oO;have v9:=qN ii oO;have Y2:=aH kk oO oO;clear YL ZG;generalize D8:c.getD ii 0=y1 at *;generalize j7:c.getD kk 0=y2 at *;have YC:=YT y1 y2 rfl rfl
 (repeat' (first|apply qS|refine qK (zZ ?_)|(apply qC;simp[f0,f1,fI,fJ,Xr];(try with_reducible refine⟨?_,?_⟩)<;>(try with_reducible intro hc)<;>try (exfalso;omega))|(refine zE ?_;intro J hJ;simp[f0,f1,fI,fJ,Xr];refine zJ hJ ?_)))
 (refine zS [] [q] [0,2,4,6,8,10,12,14,16,18,20,22,24,27,28,31] ?_;intro J hJ;simp[f0,f1,fI,fJ,F6,Zf,Xk,Xu,YQ];(repeat refine ca ?_);refine zJ hJ ?_)
 (repeat' (first|apply qS|apply qB|(refine zE ?_;intro J hJ;simp[fI,fJ,v9,Y2];refine zJ hJ ?_)))
 rw[YC];refine qL (fun m fr st2=>∃(ii jj:Nat) (c:List Int),a<ii/\ii<=jj+1/\jj<b/\jj=m/\fr 0=.ms q 0 l.length/\fr 1=i a/\fr 10=i ii/\fr 11=i jj/\st2=bx st q c/\Pm a b l c/\c.getD a 0=x/\Lo P c a ii/\Hi P c jj b) (kk-1) ?_ ?_
 .exact⟨ii+1,kk-1,sw c ii kk,oO,oO,oO,rfl,by simp[f0],by simp[f1],sS,sS,rfl,YM,Z0,D5,D6⟩
 clear f0 f1 fI fJ YV YW D5 D6 Xi YM hx Z0 Xk hd0 Xu YQ YT YC D8 j7 y1 y2 j9 hij o8 T5 Zp F6 Zf v9 Y2 Xr V7 I9 ii jj kk c fr;rintro m fr st2 ⟨ii,jj,c,j9,hij,I9,rfl,f0,f1,fI,fJ,rfl,Xi,hx,YV,YW⟩ JJ0 z8;have Xk:=Xi.len;have hd0:=qG c a oO;rw[hx]at hd0;apply qB;apply qS;refine bB (fun fr st2=>∃ ii:Nat,a<ii/\ii<=jj+1/\fr 0=.ms q 0 l.length/\fr 1=i a/\fr 10=i ii/\fr 11=i jj/\st2=bx st q c/\Lo P c a ii/\StU P c ii jj) ?_ ?_
 .apply qB;refine qL (fun m fr st2=>∃ ii:Nat,a<ii/\ii<=jj+1/\m=jj+1-ii/\fr 0=.ms q 0 l.length/\fr 1=i a/\fr 10=i ii/\fr 11=i jj/\st2=bx st q c/\Lo P c a ii) (jj+1-ii) ?_ ?_
  .exact⟨ii,oO,oO,rfl,by simp[f0],by simp[f1],by simp[fI],by simp[fJ],rfl,YV⟩
  clear f0 f1 fI fJ YV j9 hij fr ii;rintro m fr st2 ⟨ii,j9,hij,rfl,f0,f1,fI,fJ,rfl,YV⟩ JJ hJJ;have v9:=qN ii oO;by_cases Xr:ii<=jj;rotate_left
  .clear hJJ
   (repeat (apply qS));(refine zS [] [q] [0,2,4,6,8,10,12,14,16,18,20,22,25,26] ?_;intro J hJ;simp[f0,f1,fI,fJ,Xr];refine zJ hJ ?_)
   (repeat' (first|refine qX (zZ ?_)|(apply qC;simp[])))
   exact⟨trivial,ii,oO,oO,by simp[f0],by simp[f1],by simp[fI],by simp[fJ],by trivial,YV,fun h=>absurd h Xr⟩
  have F6:ii<l.length:=oO;have Xu:=qG c ii oO;have C6:=YV.more;generalize hy:c.getD ii 0=y at *
  (repeat (apply qS));(refine zS [] [q] [0,2,4,6,8,10,12,14,16,18,20,22,25,26] ?_;intro J hJ;simp[f0,f1,fI,fJ,Xr,F6,o6,Xk,hd0,Xu])
  refine aJ (tP y x _) ?_;rintro r s2 ⟨rfl,rfl⟩;refine⟨fun _=>by simp,?_⟩;have hP:=hPd y;by_cases YX:y<x
  ·(apply aV;simp[YX];refine zJ hJ ?_)
   (repeat' (first|apply qB|refine qK (zZ ?_)|(apply qC;simp[fI,v9])|(refine zE ?_;intro J hJ;simp[fI,v9];refine zJ hJ ?_)))
   exact hJJ (jj+1-(ii+1)) _ _ oO ⟨ii+1,oO,oO,rfl,by simp[f0],by simp[f1],sS,by simp[fJ],rfl,C6 (by rw[hP];simp[YX])⟩
  .clear hJJ
   (apply aV;simp[YX];refine zJ hJ ?_)
   (repeat' (first|refine qX (zZ ?_)|(apply qC;simp[])))
   exact⟨trivial,ii,oO,oO,by simp[f0],by simp[f1],by simp[fI],by simp[fJ],by trivial,YV,fun _=>by rw[hy,hP];simp[YX]⟩
 clear f0 f1 fI fJ YV j9 hij fr ii;rintro fr st2 ⟨ii,j9,hij,f0,f1,fI,fJ,rfl,YV,YL⟩;apply qS;refine bB (fun fr st2=>∃ kk:Nat,a<=kk/\kk<=jj/\ii<=kk+1/\fr 0=.ms q 0 l.length/\fr 1=i a/\fr 10=i ii/\fr 11=i kk/\st2=bx st q c/\Hi P c kk b/\StD P c ii kk) ?_ ?_
 .apply qB;refine qL (fun m fr st2=>∃ kk:Nat,a<=kk/\kk<=jj/\ii<=kk+1/\kk=m/\fr 0=.ms q 0 l.length/\fr 1=i a/\fr 10=i ii/\fr 11=i kk/\st2=bx st q c/\Hi P c kk b) jj ?_ ?_
  .exact⟨jj,oO,oO,oO,rfl,by simp[f0],by simp[f1],by simp[fI],by simp[fJ],rfl,YW⟩
  clear f0 f1 fI fJ YW fr;rintro m fr st2 ⟨kk,o8,V7,T5,rfl,f0,f1,fI,fJ,rfl,YW⟩ JJ hJJ;by_cases Xr:ii<=kk;rotate_left
  .clear hJJ
   (repeat (apply qS));(refine zS [] [q] [0,2,4,6,8,10,12,14,16,18,20,22,25,26,28] ?_;intro J hJ;simp[f0,f1,fI,fJ,Xr];refine zJ hJ ?_)
   (repeat' (first|refine qX (zZ ?_)|(apply qC;simp[])))
   exact⟨trivial,kk,oO,oO,oO,by simp[f0],by simp[f1],by simp[fI],by simp[fJ],by trivial,YW,fun h=>absurd h Xr⟩
  have S0:=aH kk oO oO;have hlj:kk<l.length:=oO;have Xu:=qG c kk oO;have C6:=YW.more;generalize hy:c.getD kk 0=y at *
  (repeat (apply qS));(refine zS [] [q] [0,2,4,6,8,10,12,14,16,18,20,22,25,26,28] ?_;intro J hJ;simp[f0,f1,fI,fJ,Xr,hlj,o6,Xk,hd0,Xu])
  refine aJ (tP y x _) ?_;rintro r s2 ⟨rfl,rfl⟩;refine⟨fun _=>by simp,?_⟩;have hP:=hPd y;by_cases YX:y<x
  .clear hJJ
   (apply aV;simp[YX];refine zJ hJ ?_)
   (repeat' (first|refine qX (zZ ?_)|(apply qC;simp[])))
   exact⟨trivial,kk,oO,oO,oO,by simp[f0],by simp[f1],by simp[fI],by simp[fJ],by trivial,YW,fun _=>by rw[hy,hP];simp[YX]⟩
  ·(apply aV;simp[YX];refine zJ hJ ?_)
   (repeat' (first|apply qB|refine qK (zZ ?_)|(apply qC;simp[fJ,S0])|(refine zE ?_;intro J hJ;simp[fJ,S0];refine zJ hJ ?_)))
   exact hJJ (kk-1) _ _ oO ⟨kk-1,oO,oO,oO,rfl,by simp[f0],by simp[f1],by simp[fI],sS,rfl,C6 oO (by rw[hP];simp[YX])⟩
 clear f0 f1 fI fJ YW fr;rintro fr st2 ⟨kk,o8,V7,T5,f0,f1,fI,fJ,rfl,YW,ZG⟩;by_cases Xr:ii<=kk;rotate_left
 .clear z8;have hke:ii=kk+1:=oO;have Zn:=lK (hke ▸ YV) YW oO oO oO;have YM:=Xi.step kk a oO oO oO oO oO;have Zf:kk<l.length:=oO;have Xu:=qG c kk oO;have YT:=fun x y=>dM st q c kk a (x:=x) (y:=y) oO oO;generalize D8:c.getD kk 0=y1 at *;have YC:=YT y1 x rfl hx
  (repeat' (first|apply qS|refine qX (zZ ?_)|(apply qC;simp[f0,f1,fI,fJ,Xr];(try with_reducible intro hc))|(refine zE ?_;intro J hJ;simp[f0,f1,fI,fJ,Xr];refine zJ hJ ?_)))
  (refine zS [] [q] [0,2,4,6,8,10,12,14,16,18,20,22,24,27,28,31] ?_;intro J hJ;simp[f0,f1,fI,fJ,o6,Zf,Xk,hd0,Xu];(repeat refine ca ?_);refine zJ hJ ?_)
  (repeat' (first|apply qS|(refine qR (zZ ?_);simp[f0,f1,fI,fJ])|(refine zE ?_;intro J hJ;simp[f0,f1,fI,fJ];refine zJ hJ ?_)))
  exact⟨_,kk,rfl,YC,YM,oO,oO,by unfold cA;rw[Zn.2,hx];have h:=Zn.1;rwa [show P=_ from funext hPd]at h⟩
 have Zp:ii<kk:=by
  rcases aAB ii kk with h|h
  .exact h
  .exfalso;have e:ii=kk:=oO;have h1:=YL oO;have h2:=ZG Xr;rw[e,h2]at h1;cases h1
 have D5:=YV.swp Zp oO (ZG Xr);have D6:=YW.swp Zp oO (YL oO);have YM:=Xi.step ii kk oO oO oO oO oO;have Z0:(sw c ii kk).getD a 0=x:=by rw[bV _ _ _ _ oO oO,aAa oO,aAa oO];exact hx
 have F6:ii<l.length:=oO;have Zf:kk<l.length:=oO;have Xu:=qG c ii oO;have YQ:=qG c kk oO;have YT:=fun x y=>dM st q c ii kk (x:=x) (y:=y) oO oO;have v9:=qN ii oO;have Y2:=aH kk oO oO;clear YL ZG;generalize D8:c.getD ii 0=y1 at *;generalize j7:c.getD kk 0=y2 at *;have YC:=YT y1 y2 rfl rfl
 (repeat' (first|apply qS|refine qK (zZ ?_)|(apply qC;simp[f0,f1,fI,fJ,Xr];(try with_reducible refine⟨?_,?_⟩)<;>(try with_reducible intro hc)<;>try (exfalso;omega))|(refine zE ?_;intro J hJ;simp[f0,f1,fI,fJ,Xr];refine zJ hJ ?_)))
 (refine zS [] [q] [0,2,4,6,8,10,12,14,16,18,20,22,24,27,28,31] ?_;intro J hJ;simp[f0,f1,fI,fJ,F6,Zf,Xk,Xu,YQ];(repeat refine ca ?_);refine zJ hJ ?_)
 (repeat' (first|apply qS|(refine zE ?_;intro J hJ;simp[fI,fJ,v9,Y2];refine zJ hJ ?_)))
 exact z8 (kk-1) _ _ oO ⟨ii+1,kk-1,sw c ii kk,oO,oO,oO,rfl,by simp[f0],by simp[f1],sS,sS,YC,YM,Z0,D5,D6⟩
theorem gL(l:List Int)(q a b pv:Nat)(st:St)(hl:small l)(YA:a<b)(hb:b<=l.length)(ZF:a<=pv)(Zg:pv<b)(hH:st.H q=.box 34 1 (us l)):
 aB prog 173 [.ms q 0 l.length,i a,i b,i pv] st fun r st'=>∃(c:List Int) (YB:Nat),r=i YB/\st'=bx st q c/\Pm a b l c/\a<YB/\YB<=b/\uC c a YB b (l.getD pv 0):=by
 unfold small at hl;refine zN func173 ntmps173 [.tmp 8] ?_
 (repeat (apply qS));(refine zE ?_;intro J hJ;simp[];refine zJ hJ ?_)
 have o6:a<l.length:=oO;have A8:pv<l.length:=oO;have YT:=fun x y=>pJ st q l a pv (x:=x) (y:=y) oO oO;have hd0:=qG l a oO;have Xu:=qG l pv oO;have Xi:Pm a b l (sw l a pv):=Pm.one a pv oO oO oO oO oO;have hx:(sw l a pv).getD a 0=l.getD pv 0:=by
  rw[bV _ _ _ _ oO oO];by_cases e:a=pv
  .rw[aAe e,e]
  .rw[aAa e,aAe rfl]
 generalize S9:l.getD a 0=y0 at *;generalize D8:l.getD pv 0=x at *;have YC:=YT y0 x rfl rfl
 (repeat (apply qS));(refine zS [] [q] [0,2,4,6,8,10,12,14,16,18,20,22,24,27,28,31] ?_;intro J hJ;simp[hH,o6,A8,hd0,Xu];(repeat refine ca ?_);refine zJ hJ ?_)
 rw[YC];clear YT YC hd0 Xu S9;generalize hc:sw l a pv=c at *;clear hc;have Xk:=Xi.len;have w1:=qN a oO;have w2:=aH b oO oO;obtain⟨P,hPd⟩:∃ P:Int->Bool,∀ v,P v=!decide (x<v):=⟨_,fun _=>rfl⟩;apply qS;refine bB (fun fr st2=>fr 0=.ms q 0 l.length/\fr 1=i a/\fr 9=i ((a+1:Nat):Int)/\fr 10=i ((b-1:Nat):Int)/\st2=bx st q c) (by(refine zE ?_;intro J hJ;simp[w1,w2];refine zJ hJ ?_);simp) ?_;rintro fr st2 ⟨f0,f1,fI,fJ,rfl⟩;have j9:a<a+1:=oO;have hij:a+1<=b-1+1:=oO;have I9:b-1<b:=oO;have YV:Lo P c a (a+1):=fun p h1 h2=>by omega
 have YW:Hi P c (b-1) b:=fun p h1 h2=>by omega
 generalize a+1=ii at *;generalize b-1=jj at *;clear w1 w2;have hd0:=qG c a oO;rw[hx]at hd0;apply qS;apply qB;refine qL (fun m fr st2=>∃(ii jj:Nat) (c:List Int),a<ii/\ii<=jj+1/\jj<b/\jj=m/\fr 0=.ms q 0 l.length/\fr 1=i a/\fr 9=i ii/\fr 10=i jj/\st2=bx st q c/\Pm a b l c/\c.getD a 0=x/\Lo P c a ii/\Hi P c jj b) jj ?_ ?_
 .exact⟨ii,jj,c,oO,oO,oO,rfl,f0,f1,fI,fJ,rfl,Xi,hx,YV,YW⟩
 clear f0 f1 fI fJ YV YW Xi hx Xk hd0 j9 hij I9 ii jj c fr;rintro m fr st2 ⟨ii,jj,c,j9,hij,I9,rfl,f0,f1,fI,fJ,rfl,Xi,hx,YV,YW⟩ JJ0 z8;have Xk:=Xi.len;have hd0:=qG c a oO;rw[hx]at hd0;apply qB;apply qS;refine bB (fun fr st2=>∃ ii:Nat,a<ii/\ii<=jj+1/\fr 0=.ms q 0 l.length/\fr 1=i a/\fr 9=i ii/\fr 10=i jj/\st2=bx st q c/\Lo P c a ii/\StU P c ii jj) ?_ ?_
 .apply qB;refine qL (fun m fr st2=>∃ ii:Nat,a<ii/\ii<=jj+1/\m=jj+1-ii/\fr 0=.ms q 0 l.length/\fr 1=i a/\fr 9=i ii/\fr 10=i jj/\st2=bx st q c/\Lo P c a ii) (jj+1-ii) ?_ ?_
  .exact⟨ii,oO,oO,rfl,by simp[f0],by simp[f1],by simp[fI],by simp[fJ],rfl,YV⟩
  clear f0 f1 fI fJ YV j9 hij fr ii;rintro m fr st2 ⟨ii,j9,hij,rfl,f0,f1,fI,fJ,rfl,YV⟩ JJ hJJ;have v9:=qN ii oO;by_cases Xr:ii<=jj;rotate_left
  .clear hJJ
   (repeat (apply qS));(refine zS [] [q] [0,2,4,6,8,10,12,14,16,18,20,22,25,26,28] ?_;intro J hJ;simp[f0,f1,fI,fJ,Xr];refine zJ hJ ?_)
   (repeat' (first|refine qX (zZ ?_)|(apply qC;simp[])))
   exact⟨trivial,ii,oO,oO,by simp[f0],by simp[f1],by simp[fI],by simp[fJ],by trivial,YV,fun h=>absurd h Xr⟩
  have F6:ii<l.length:=oO;have Xu:=qG c ii oO;have C6:=YV.more;generalize hy:c.getD ii 0=y at *
  (repeat (apply qS));(refine zS [] [q] [0,2,4,6,8,10,12,14,16,18,20,22,25,26,28] ?_;intro J hJ;simp[f0,f1,fI,fJ,Xr,F6,o6,Xk,hd0,Xu])
  refine aJ (tP x y _) ?_;rintro r s2 ⟨rfl,rfl⟩;refine⟨fun _=>by simp,?_⟩;have hP:=hPd y;by_cases YX:x<y
  .clear hJJ
   (apply aV;simp[YX];refine zJ hJ ?_)
   (repeat' (first|refine qX (zZ ?_)|(apply qC;simp[])))
   exact⟨trivial,ii,oO,oO,by simp[f0],by simp[f1],by simp[fI],by simp[fJ],by trivial,YV,fun _=>by rw[hy,hP];simp[YX]⟩
  ·(apply aV;simp[YX];refine zJ hJ ?_)
   (repeat' (first|apply qB|refine qK (zZ ?_)|(apply qC;simp[fI,v9])|(refine zE ?_;intro J hJ;simp[fI,v9];refine zJ hJ ?_)))
   exact hJJ (jj+1-(ii+1)) _ _ oO ⟨ii+1,oO,oO,rfl,by simp[f0],by simp[f1],sS,by simp[fJ],rfl,C6 (by rw[hP];simp[YX])⟩
 clear f0 f1 fI fJ YV j9 hij fr ii;rintro fr st2 ⟨ii,j9,hij,f0,f1,fI,fJ,rfl,YV,YL⟩;apply qS;refine bB (fun fr st2=>∃ kk:Nat,a<=kk/\kk<=jj/\ii<=kk+1/\fr 0=.ms q 0 l.length/\fr 1=i a/\fr 9=i ii/\fr 10=i kk/\st2=bx st q c/\Hi P c kk b/\StD P c ii kk) ?_ ?_
 .apply qB;refine qL (fun m fr st2=>∃ kk:Nat,a<=kk/\kk<=jj/\ii<=kk+1/\kk=m/\fr 0=.ms q 0 l.length/\fr 1=i a/\fr 9=i ii/\fr 10=i kk/\st2=bx st q c/\Hi P c kk b) jj ?_ ?_
  .exact⟨jj,oO,oO,oO,rfl,by simp[f0],by simp[f1],by simp[fI],by simp[fJ],rfl,YW⟩
  clear f0 f1 fI fJ YW fr;rintro m fr st2 ⟨kk,o8,V7,T5,rfl,f0,f1,fI,fJ,rfl,YW⟩ JJ hJJ;by_cases Xr:ii<=kk;rotate_left
  .clear hJJ
   (repeat (apply qS));(refine zS [] [q] [0,2,4,6,8,10,12,14,16,18,20,22,25,26] ?_;intro J hJ;simp[f0,f1,fI,fJ,Xr];refine zJ hJ ?_)
   (repeat' (first|refine qX (zZ ?_)|(apply qC;simp[])))
   exact⟨trivial,kk,oO,oO,oO,by simp[f0],by simp[f1],by simp[fI],by simp[fJ],by trivial,YW,fun h=>absurd h Xr⟩
  have S0:=aH kk oO oO;have hlj:kk<l.length:=oO;have Xu:=qG c kk oO;have C6:=YW.more;generalize hy:c.getD kk 0=y at *
  (repeat (apply qS));(refine zS [] [q] [0,2,4,6,8,10,12,14,16,18,20,22,25,26] ?_;intro J hJ;simp[f0,f1,fI,fJ,Xr,hlj,o6,Xk,hd0,Xu])
  refine aJ (tP x y _) ?_;rintro r s2 ⟨rfl,rfl⟩;refine⟨fun _=>by simp,?_⟩;have hP:=hPd y;by_cases YX:x<y
  ·(apply aV;simp[YX];refine zJ hJ ?_)
   (repeat' (first|apply qB|refine qK (zZ ?_)|(apply qC;simp[fJ,S0])|(refine zE ?_;intro J hJ;simp[fJ,S0];refine zJ hJ ?_)))
   exact hJJ (kk-1) _ _ oO ⟨kk-1,oO,oO,oO,rfl,by simp[f0],by simp[f1],by simp[fI],sS,rfl,C6 oO (by rw[hP];simp[YX])⟩
  .clear hJJ
   (apply aV;simp[YX];refine zJ hJ ?_)
   (repeat' (first|refine qX (zZ ?_)|(apply qC;simp[])))
   exact⟨trivial,kk,oO,oO,oO,by simp[f0],by simp[f1],by simp[fI],by simp[fJ],by trivial,YW,fun _=>by rw[hy,hP];simp[YX]⟩
 clear f0 f1 fI fJ YW fr;rintro fr st2 ⟨kk,o8,V7,T5,f0,f1,fI,fJ,rfl,YW,ZG⟩;by_cases Xr:ii<=kk;rotate_left
 .clear z8
  (repeat' (first|apply qS|refine qX (zZ ?_)|(refine qR (zZ ?_);simp[f0,f1,fI,fJ,Xr])|(apply qC;simp[f0,f1,fI,fJ,Xr];(try with_reducible intro hc))|(refine zE ?_;intro J hJ;simp[f0,f1,fI,fJ,Xr];refine zJ hJ ?_)))
  refine⟨c,ii,rfl,rfl,Xi,oO,oO,fun p h1 h2=>?_,fun p h1 h2=>?_⟩
  .by_cases e:p=a
   .rw[e,hx];exact aCg _
   .have:=YV p oO h2;rw[hPd]at this;simpa using this
  .have:=YW p oO h2;rw[hPd]at this;simpa using this
 have Zp:ii<kk:=by
  rcases aAB ii kk with h|h
  .exact h
  .exfalso;have e:ii=kk:=oO;have h1:=YL oO;have h2:=ZG Xr;rw[e,h2]at h1;cases h1
 have D5:=YV.swp Zp oO (ZG Xr);have D6:=YW.swp Zp oO (YL oO);have YM:=Xi.step ii kk oO oO oO oO oO;have Z0:(sw c ii kk).getD a 0=x:=by rw[bV _ _ _ _ oO oO,aAa oO,aAa oO];exact hx
 have F6:ii<l.length:=oO;have Zf:kk<l.length:=oO;have Xu:=qG c ii oO;have YQ:=qG c kk oO;have YT:=fun x y=>dM st q c ii kk (x:=x) (y:=y) oO oO;have v9:=qN ii oO;have Y2:=aH kk oO oO;clear YL ZG;generalize D8:c.getD ii 0=y1 at *;generalize j7:c.getD kk 0=y2 at *;have YC:=YT y1 y2 rfl rfl
 (repeat' (first|apply qS|refine qK (zZ ?_)|(apply qC;simp[f0,f1,fI,fJ,Xr];(try with_reducible refine⟨?_,?_⟩)<;>(try with_reducible intro hc)<;>try (exfalso;omega))|(refine zE ?_;intro J hJ;simp[f0,f1,fI,fJ,Xr];refine zJ hJ ?_)))
 (refine zS [] [q] [0,2,4,6,8,10,12,14,16,18,20,22,24,27,28,31] ?_;intro J hJ;simp[f0,f1,fI,fJ,F6,Zf,Xk,Xu,YQ];(repeat refine ca ?_);refine zJ hJ ?_)
 (repeat' (first|apply qS|(refine zE ?_;intro J hJ;simp[fI,fJ,v9,Y2];refine zJ hJ ?_)))
 exact z8 (kk-1) _ _ oO ⟨ii+1,kk-1,sw c ii kk,oO,oO,oO,rfl,by simp[f0],by simp[f1],sS,sS,YC,YM,Z0,D5,D6⟩
def fV(l:List Int)(a b:Nat):Prop:=0<a->∀ j,a<=j->j<b->l.getD (a-1) 0<=l.getD j 0
theorem fV.pm{l c:List Int}{a b:Nat}(h:fV l a b)(k:Pm a b l c):fV c a b:=by intro h0 j h1 h2;rw[k.out (a-1) oO];exact k.all (fun x=>l.getD (a-1) 0<=x) (fun j h1 h2=>h h0 j h1 h2) j h1 h2
def TM(c:List Int)(k b:Nat):Prop:=k<b->c.getD k 0<c.getD (k-1) 0
def OH(p:Bool)(a b:Nat)(c:List Int):Prop:=p=true->Srt a b c
def vG(q a b k j:Nat)(l:List Int)(st:St)(fr:Frm)(st2:St):Prop:=∃ c:List Int,fr 0=.ms q 0 l.length/\fr 1=i a/\fr 2=i b/\fr 7=i k/\fr 8=i j/\st2=bx st q c/\Pm a b l c/\Srt a k c
theorem dF(l:List Int)(q a b:Nat)(st:St)(hl:small l)(ha:a<b)(hb:b<=l.length)(hah:fV l a b)(hH:st.H q=.box 34 1 (us l)):
 aB prog 171 [.ms q 0 l.length,i a,i b] st fun r st'=>∃ c p,r=bb p/\st'=bx st q c/\Pm a b l c/\OH p a b c:=by
 unfold small at hl;refine zN func171 ntmps171 [.tmp 6] ?_;have H8:=qN a oO
 (repeat' (first|apply qS|apply qB|(refine zE ?_;intro J hJ;simp[H8];refine zJ hJ ?_)))
 refine qL (fun n fr st2=>∃(j k:Nat) (c:List Int),j<=5/\n=5-j/\a<k/\k<=b/\fr 0=.ms q 0 l.length/\fr 1=i a/\fr 2=i b/\fr 7=i k/\fr 8=i j/\st2=bx st q c/\Pm a b l c/\Srt a k c) 5 ?_ ?_
 .exact⟨0,a+1,l,oO,rfl,oO,oO,sS,sS,sS,sS,sS,fB hH,.refl,fun p q h1 h2 h3=>by omega⟩
 rintro n fr st2 ⟨j,k,c,hj,rfl,o8,B8,f0,f1,f2,f7,f8,rfl,Xi,hs⟩ J0 z8;by_cases hj5:(j:Int)<5;rotate_left
 .clear z8
  (repeat' (first|apply qS|refine qX (zZ ?_)|(refine qR (zZ ?_);simp[f8,hj5])|(apply qC;simp[f8,hj5])|(refine zE ?_;intro J hJ;simp[f8,hj5];refine zJ hJ ?_)))
  exact⟨c,rfl,Xi,fun h=>by cases h⟩
 have Xk:=Xi.len
 (repeat (apply qS));(refine zE ?_;intro J hJ;simp[f8,hj5];refine zJ hJ ?_)
 (apply qC;simp[])
 refine qK (zZ ?_);apply qS;apply qB;apply qS;refine bB (fun fr st2=>∃ k:Nat,a<k/\k<=b/\fr 0=.ms q 0 l.length/\fr 1=i a/\fr 2=i b/\fr 7=i k/\fr 8=i j/\st2=bx st q c/\Srt a k c/\TM c k b) ?_ ?_
 .apply qB;refine qL (fun n fr st2=>∃ k:Nat,n=b-k/\a<k/\k<=b/\fr 0=.ms q 0 l.length/\fr 1=i a/\fr 2=i b/\fr 7=i k/\fr 8=i j/\st2=bx st q c/\Srt a k c) (b-k) ?_ ?_
  .exact⟨k,rfl,o8,B8,by simp[f0],by simp[f1],by simp[f2],by simp[f7],by simp[f8],rfl,hs⟩
  clear f0 f1 f2 f7 f8 hs o8 B8 fr k;rintro n fr st2 ⟨k,rfl,o8,B8,f0,f1,f2,f7,f8,rfl,hs⟩ JJ hJJ;by_cases dN:k<b;rotate_left
  .clear hJJ
   (repeat (apply qS));(refine zS [] [q] [0,2,4,6,8,10,12,14,16,18,20,22,24,27,28,30] ?_;intro J hJ;simp[f0,f2,f7,dN];refine zJ hJ ?_)
   (repeat' (first|refine qX (zZ ?_)|(apply qC;simp[])))
   exact⟨trivial,k,oO,oO,by simp[f0],by simp[f1],by simp[f2],by simp[f7],by simp[f8],by trivial,hs,fun h=>absurd h dN⟩
  have w1:=qN k oO;have w2:=aH k oO oO;have Xu:=qG c k oO;have YQ:=qG c (k-1) oO;have G3:k<l.length:=oO;have C4:k-1<l.length:=oO;have Xt:=hs.ins.done oO;generalize hx:c.getD k 0=x at *;generalize hy:c.getD (k-1) 0=y at *
  (repeat (apply qS));(refine zS [] [q] [0,2,4,6,8,10,12,14,16,18,20,22,24,27,28,30] ?_;intro J hJ;simp[f0,f2,f7,dN,w2,G3,C4,Xk,Xu,YQ])
  refine aJ (tP x y _) ?_;rintro r s2 ⟨rfl,rfl⟩;refine⟨fun _=>by simp,?_⟩;by_cases YH:x<y
  .clear hJJ
   (apply aV;simp[YH];refine zJ hJ ?_)
   (repeat' (first|refine qX (zZ ?_)|(apply qC;simp[])))
   exact⟨trivial,k,oO,oO,by simp[f0],by simp[f1],by simp[f2],by simp[f7],by simp[f8],by trivial,hs,fun h=>by rw[hx,hy];exact YH⟩
  ·(apply aV;simp[YH];refine zJ hJ ?_)
   (repeat' (first|apply qB|refine qK (zZ ?_)|(apply qC;simp[f7,w1])|(refine zE ?_;intro J hJ;simp[f7,w1];refine zJ hJ ?_)))
   exact hJJ (b-(k+1)) _ _ oO ⟨k+1,rfl,oO,oO,by simp[f0],by simp[f1],by simp[f2],sS,by simp[f8],rfl,Xt (.inr YH)⟩
 clear f0 f1 f2 f7 f8 hs o8 B8 fr k;rintro fr st2 ⟨k,o8,B8,f0,f1,f2,f7,f8,rfl,hs,hfall⟩;by_cases hkb2:k=b
 .clear z8;have Zl:(k:Int)=(b:Int):=oO
  (repeat' (first|apply qS|(refine qR (zZ ?_);simp[f2,f7,Zl])|(apply qC;simp[f2,f7,Zl])|(refine zE ?_;intro J hJ;simp[f2,f7,Zl];refine zJ hJ ?_)))
  exact⟨c,rfl,Xi,fun _=>by rw[<- hkb2];exact hs⟩
 have Zl:¬(k:Int)=(b:Int):=oO;have w1:IntKind.i64.wrap ((b:Int)-(a:Int))=(b:Int)-(a:Int):=zW;by_cases K7:(b:Int)-(a:Int)<50
 .clear z8
  (repeat' (first|apply qS|refine qK (zZ ?_)|(refine qR (zZ ?_);simp[f1,f2,f7,Zl,w1,K7])|(apply qC;simp[f1,f2,f7,Zl,w1,K7])|(refine zE ?_;intro J hJ;simp[f1,f2,f7,Zl,w1,K7];refine zJ hJ ?_)))
  exact⟨c,rfl,Xi,fun h=>by cases h⟩
 have w2:=aH k oO oO;have Xu:=qG c k oO;have YQ:=qG c (k-1) oO;have G3:k<l.length:=oO;have C4:k-1<l.length:=oO;have YT:=fun x y=>dM st q c k (k-1) (x:=x) (y:=y) oO oO;have G5:Srt a (k-1) (sw c k (k-1)):=by intro p q h1 h2 h3;rw[bV _ _ _ _ oO oO,bV _ _ _ _ oO oO,aAa oO,aAa oO,aAa oO,aAa oO];exact hs p q h1 h2 oO
 have Yz:=Xi.step k (k-1) oO oO oO oO oO;generalize hx:c.getD k 0=x at *;generalize hy:c.getD (k-1) 0=y at *;have YC:=YT x y rfl rfl
 (repeat' (first|apply qS|refine qK (zZ ?_)|(apply qC;simp[f1,f2,f7,Zl,w1,K7])|(refine zE ?_;intro J hJ;simp[f1,f2,f7,Zl,w1,K7];refine zJ hJ ?_)))
 (refine zS [] [q] [0,2,4,6,8,10,12,14,16,18,20,22,24,26,28,31,32,35] ?_;intro J hJ;simp[f0,f7,w2,G3,C4,Xk,Xu,YQ];(repeat refine ca ?_);refine zJ hJ ?_)
 rw[YC];clear YT YC Xu YQ hx hy hs hfall;generalize A4:sw c k (k-1)=c1 at *;have hcl1:=Yz.len;clear A4 Xi Xk c;have w3:IntKind.i64.wrap ((k:Int)-(a:Int))=(k:Int)-(a:Int):=zW;apply qS;refine bB (vG q a b k j l st) ?_ ?_
 .by_cases Xx:(2:Int)<=(k:Int)-(a:Int);rotate_left
  ·(repeat' (first|apply qS|refine qK (zZ ?_)|(apply qC;simp[f1,f7,w3,Xx])|(refine zE ?_;intro J hJ;simp[f1,f7,w3,Xx];refine zJ hJ ?_)))
   refine⟨by trivial,?_⟩;unfold vG;exact⟨c1,by simp[f0],by simp[f1],by simp[f2],by simp[f7],by simp[f8],by trivial,Yz,fun p q h1 h2 h3=>by omega⟩
  (repeat' (first|apply qS|apply qB|(apply qC;simp[f1,f7,w3,Xx,w2])|(refine zE ?_;intro J hJ;simp[f1,f7,w3,Xx,w2];refine zJ hJ ?_)))
  refine qL (fun n fr st2=>∃(m:Nat) (c:List Int),a<=m/\m<=k-1/\m=n/\fr 0=.ms q 0 l.length/\fr 1=i a/\fr 2=i b/\fr 7=i k/\fr 8=i j/\fr 9=i m/\st2=bx st q c/\Pm a b l c/\Ins a m (k-1) c) (k-1) ?_ ?_
  .exact⟨k-1,c1,oO,oO,rfl,by simp[f0],by simp[f1],by simp[f2],by simp[f7],by simp[f8],sS,rfl,Yz,G5.ins⟩
  clear f0 f1 f2 f7 f8 Yz G5 hcl1 c1 fr;rintro n fr st2 ⟨m,c,ham,hmk,rfl,f0,f1,f2,f7,f8,f9,rfl,Xi,hI⟩ JJ hJJ;have Xk:=Xi.len;have Xn:k-1+1=k:=oO;by_cases z7:(1:Int)<=(m:Int);rotate_left
  .clear hJJ
   (repeat' (first|apply qS|refine qX (zZ ?_)|(apply qC;simp[f9,z7])|(refine zE ?_;intro J hJ;simp[f9,z7];refine zJ hJ ?_)))
   refine⟨by trivial,?_⟩;unfold vG;refine⟨c,by simp[f0],by simp[f1],by simp[f2],by simp[f7],by simp[f8],by trivial,Xi,?_⟩;have:=hI.done ham (.inl oO);rwa [Xn]at this
  have w4:=aH m oO oO;have Xu:=qG c m oO;have YQ:=qG c (m-1) oO;have K4:m<l.length:=oO;have O4:m-1<l.length:=oO;have YT:=fun x y=>dM st q c m (m-1) (x:=x) (y:=y) oO oO;have hahm:m=a->¬c.getD m 0<c.getD (m-1) 0:=by rintro rfl;have:=hah.pm Xi oO m oO oO;omega
  have P9:=hI.done ham;rw[Xn]at P9;have YR:=fun h=>hI.step h hmk oO;generalize hx:c.getD m 0=x at *;generalize hy:c.getD (m-1) 0=y at *;have YC:=YT x y rfl rfl
  (repeat' (first|apply qS|apply qB|refine qK (zZ ?_)|(apply qC;simp[f9,z7])|(refine zE ?_;intro J hJ;simp[f9,z7];refine zJ hJ ?_)))
  (refine zS [] [q] [0,2,4,6,8,10,12,14,16,19,20] ?_;intro J hJ;simp[f0,f9,w4,K4,O4,Xk,Xu,YQ])
  refine aJ (tP x y _) ?_;rintro r s2 ⟨rfl,rfl⟩;refine⟨fun _=>by simp,?_⟩;by_cases YH:x<y;rotate_left
  .clear hJJ
   (apply aV;simp[YH];refine zJ hJ ?_)
   (repeat' (first|refine qX (zZ ?_)|(apply qC;simp[])))
   refine⟨by trivial,?_⟩;unfold vG;exact⟨c,by simp[f0],by simp[f1],by simp[f2],by simp[f7],by simp[f8],by trivial,Xi,P9 (.inr YH)⟩
  have J3:a<m:=by
   rcases aAB a m with h|h
   .exact h
   .exact absurd YH (hahm oO)
  have YM:=Xi.step m (m-1) oO oO oO oO oO
  (apply aV;simp[YH];refine zJ hJ ?_)
  (repeat' (first|refine qK (zZ ?_)|(apply qC;simp[])))
  (refine zS [] [q] [0,2,4,6,8,10,12,14,16,18,20,22,24,26,28,31,32,35] ?_;intro J hJ;simp[f0,f9,w4,K4,O4,Xk,Xu,YQ];(repeat refine ca ?_);refine zJ hJ ?_)
  (repeat' (refine zE ?_;intro J hJ;simp[f9,w4];refine zJ hJ ?_))
  exact hJJ (m-1) _ _ oO ⟨m-1,sw c m (m-1),oO,oO,rfl,by simp[f0],by simp[f1],by simp[f2],by simp[f7],by simp[f8],sS,YC,YM,YR J3 YH⟩
 clear f0 f1 f2 f7 f8 Yz G5 hcl1 c1 fr;rintro fr st2 ⟨c,f0,f1,f2,f7,f8,rfl,Xi,hs⟩;have Xk:=Xi.len;have w5:IntKind.i64.wrap ((b:Int)-(k:Int))=(b:Int)-(k:Int):=zW;have w6:=qN j oO;have w7:=qN k oO;by_cases Xx:(2:Int)<=(b:Int)-(k:Int);rotate_left
 ·(repeat' (first|apply qS|refine qK (zZ ?_)|(apply qC;simp[f2,f7,w5,Xx,f8,w6])|(refine zE ?_;intro J hJ;simp[f2,f7,w5,Xx,f8,w6];refine zJ hJ ?_)))
  exact z8 (5-(j+1)) _ _ oO ⟨j+1,k,c,oO,rfl,o8,B8,by simp[f0],by simp[f1],by simp[f2],by simp[f7],sS,rfl,Xi,hs⟩
 (repeat' (first|apply qS|apply qB|(apply qC;simp[f2,f7,w5,Xx,w7])|(refine zE ?_;intro J hJ;simp[f2,f7,w5,Xx,w7];refine zJ hJ ?_)))
 refine qL (fun n fr st2=>∃(m:Nat) (c:List Int),k<m/\m<=b/\n=b-m/\fr 0=.ms q 0 l.length/\fr 1=i a/\fr 2=i b/\fr 7=i k/\fr 8=i j/\fr 10=i m/\st2=bx st q c/\Pm a b l c/\Srt a k c) (b-(k+1)) ?_ ?_
 .exact⟨k+1,c,oO,oO,rfl,by simp[f0],by simp[f1],by simp[f2],by simp[f7],by simp[f8],sS,rfl,Xi,hs⟩
 clear f0 f1 f2 f7 f8 Xi hs Xk c fr;rintro n fr st2 ⟨m,c,hkm,u5,rfl,f0,f1,f2,f7,f8,f10,rfl,Xi,hs⟩ JJ hJJ;have Xk:=Xi.len;by_cases dN:m<b;rotate_left
 .clear hJJ
  (repeat' (first|apply qS|refine qX (zZ ?_)|(apply qC;simp[f2,f10,dN,f8,w6])|(refine zE ?_;intro J hJ;simp[f2,f10,dN,f8,w6];refine zJ hJ ?_)))
  exact z8 (5-(j+1)) _ _ oO ⟨j+1,k,c,oO,rfl,o8,B8,by simp[f0],by simp[f1],by simp[f2],by simp[f7],sS,rfl,Xi,hs⟩
 have w4:=aH m oO oO;have w8:=qN m oO;have Xu:=qG c m oO;have YQ:=qG c (m-1) oO;have K4:m<l.length:=oO;have O4:m-1<l.length:=oO;have YT:=fun x y=>dM st q c m (m-1) (x:=x) (y:=y) oO oO;have YM:=Xi.step m (m-1) oO oO oO oO oO;have O5:Srt a k (sw c m (m-1)):=by intro p q h1 h2 h3;rw[bV _ _ _ _ oO oO,bV _ _ _ _ oO oO,aAa oO,aAa oO,aAa oO,aAa oO];exact hs p q h1 h2 oO
 generalize hx:c.getD m 0=x at *;generalize hy:c.getD (m-1) 0=y at *;have YC:=YT x y rfl rfl
 (repeat' (first|apply qS|apply qB|refine qK (zZ ?_)|(apply qC;simp[f2,f10,dN])|(refine zE ?_;intro J hJ;simp[f2,f10,dN];refine zJ hJ ?_)))
 (refine zS [] [q] [0,2,4,6,8,10,12,14,16,19,20] ?_;intro J hJ;simp[f0,f10,w4,K4,O4,Xk,Xu,YQ])
 refine aJ (tP x y _) ?_;rintro r s2 ⟨rfl,rfl⟩;refine⟨fun _=>by simp,?_⟩;by_cases YH:x<y;rotate_left
 .clear hJJ
  (apply aV;simp[YH];refine zJ hJ ?_)
  (repeat' (first|refine qX (zZ ?_)|(apply qC;simp[f8,w6])|(refine zE ?_;intro J hJ;simp[f8,w6];refine zJ hJ ?_)))
  exact z8 (5-(j+1)) _ _ oO ⟨j+1,k,c,oO,rfl,o8,B8,by simp[f0],by simp[f1],by simp[f2],by simp[f7],sS,rfl,Xi,hs⟩
 (apply aV;simp[YH];refine zJ hJ ?_)
 (repeat' (first|refine qK (zZ ?_)|(apply qC;simp[])))
 (refine zS [] [q] [0,2,4,6,8,10,12,14,16,18,20,22,24,26,28,31,32,35] ?_;intro J hJ;simp[f0,f10,w4,K4,O4,Xk,Xu,YQ];(repeat refine ca ?_);refine zJ hJ ?_)
 (repeat' (refine zE ?_;intro J hJ;simp[f10,w8];refine zJ hJ ?_))
 exact hJJ (b-(m+1)) _ _ oO ⟨m+1,sw c m (m-1),oO,oO,rfl,by simp[f0],by simp[f1],by simp[f2],by simp[f7],by simp[f8],sS,YC,YM,O5⟩
abbrev ix(st:St)(p:Nat)(s:Int):St:=st.set p (.box 3 1 [i s])
theorem zC{st:St}{p:Nat}{s:Int}(h:st.H p=.box 3 1 [i s]):st=ix st p s:=
 St.ext' rfl fun x=>by by_cases hx:x=p<;>simp[hx,h]
theorem xR(st:St)(p:Nat)(s s':Int):ix (ix st p s) p s'=ix st p s':=St.set_set _ _ _ _
theorem pX(l:List Int)(q p a b:Nat)(s:Int)(st:St)(hl:small l)(ha:a<l.length)(hb:b<l.length)(A7:q≠p)(hH:st.H q=.box 34 1 (us l))(hp:st.H p=.box 3 1 [i s]):
 aB prog 212 [.ms q 0 l.length,i a,i b,.pt p 0] st fun r st'=>∃(x y:Nat) (s':Int),r=.tu [i x,i y]/\st'=ix st p s'/\((x=a/\y=b)\/(x=b/\y=a)):=by
 unfold small at hl;have Xu:=qG l a ha;have YQ:=qG l b hb;generalize l.getD a 0=x at *;generalize l.getD b 0=y at *;refine zN func212 ntmps212 [.tmp 8,.tmp 9] ?_
 (repeat (apply qS));(refine zE ?_;intro J hJ;simp[];refine zJ hJ ?_)
 (repeat (apply qS));(refine zS [] [q] [0,2,4,6,8,10,12,14,17] ?_;intro J hJ;simp[hH,ha,hb,Xu,YQ])
 refine aJ (tP y x _) ?_;rintro r s2 ⟨rfl,rfl⟩;refine⟨fun _=>by simp[hH],?_⟩;by_cases YX:y<x
 ·(apply aV;simp[YX];refine zJ hJ ?_)
  (repeat' (first|apply qS|(refine qR (zZ ?_);simp[hp])|(apply qC;simp[hp])|(refine zE ?_;intro J hJ;simp[hp];refine zJ hJ ?_)))
  exact⟨b,a,⟨rfl,rfl⟩,⟨_,rfl⟩,.inr ⟨rfl,rfl⟩⟩
 ·(apply aV;simp[YX];refine zJ hJ ?_)
  (repeat' (first|apply qS|refine qK (zZ ?_)|(refine qR (zZ ?_);simp[])|(apply qC;simp[])|(refine zE ?_;intro J hJ;simp[];refine zJ hJ ?_)))
  exact⟨a,b,⟨rfl,rfl⟩,⟨s,zC hp⟩,.inl ⟨rfl,rfl⟩⟩
theorem vW(l:List Int)(q p a b c:Nat)(s:Int)(st:St)(hl:small l)(ha:a<l.length)(hb:b<l.length)(hc:c<l.length)(A7:q≠p)(hH:st.H q=.box 34 1 (us l))(hp:st.H p=.box 3 1 [i s]):
 aB prog 196 [.ms q 0 l.length,i a,i b,i c,.pt p 0] st fun r st'=>∃(x:Nat) (s':Int),r=i x/\st'=ix st p s'/\(x=a\/x=b\/x=c):=by
 refine zN func196 ntmps196 [.tmp 10] ?_
 (repeat' (first|apply qS|(refine zE ?_;intro J hJ;simp[];(try refine zJ hJ ?_))))
 refine qF (pX l q p a b s _ hl ha hb A7 hH hp) ?_;rintro r st' ⟨x,y,s1,rfl,rfl,h1⟩
 (repeat' (first|apply qS|((first|(refine zE ?_;intro J hJ)|(apply aD));simp[];(try refine zJ hJ ?_))))
 refine qF (pX l q p y c s1 _ hl oO hc A7 (by simp[A7,hH]) sS) ?_;rintro r st' ⟨x2,y2,s2,rfl,rfl,h2⟩
 (repeat' (first|apply qS|((first|(refine zE ?_;intro J hJ)|(apply aD));simp[];(try refine zJ hJ ?_))))
 refine qF (pX l q p x x2 s2 _ hl oO oO A7 (by simp[A7,hH]) sS) ?_;rintro r st' ⟨x3,y3,s3,rfl,rfl,h3⟩
 (repeat' (first|apply qS|(refine qR (zZ ?_);simp[])|((first|(refine zE ?_;intro J hJ)|(apply aD));simp[];refine zJ hJ ?_)))
 refine⟨y3,rfl,⟨s3,?_⟩,oO⟩;rw[xR,xR]
theorem cK(l:List Int)(q p a:Nat)(s:Int)(st:St)(hl:small l)(h0:0<a)(ha:a+1<l.length)(A7:q≠p)(hH:st.H q=.box 34 1 (us l))(hp:st.H p=.box 3 1 [i s]):
 aB prog 195 [.ms q 0 l.length,i a,.pt p 0] st fun r st'=>∃(x:Nat) (s':Int),r=i x/\st'=ix st p s'/\a-1<=x/\x<=a+1:=by
 have Yu:=hl;unfold small at Yu;have w1:=qN a oO;have w2:=aH a oO oO;refine zN func195 ntmps195 [.tmp 6] ?_
 (repeat' (first|apply qS|(refine zE ?_;intro J hJ;simp[w1,w2];(try refine zJ hJ ?_))))
 refine qF (vW l q p (a-1) a (a+1) s _ hl oO oO oO A7 hH hp) ?_;rintro r st' ⟨x,s1,rfl,rfl,h1⟩
 (repeat' (first|(refine qR (zZ ?_);simp[])|(apply aD;simp[];refine zJ hJ ?_)))
 exact⟨x,rfl,⟨s1,rfl⟩,oO⟩
def Br(q n a b:Nat)(st:St)(fr:Frm)(st2:St):Prop:=∃(j1 j2 j3:Nat) (s:Int),fr 0=.ms q 0 n/\fr 9=.pt st.next 0/\fr 10=i j1/\fr 11=i j2/\fr 12=i j3/\a<=j1/\j1<b/\a<=j2/\j2<b/\a<=j3/\j3<b/\st2=ix (st.new (.box 3 1 [i 0])) st.next s
theorem lG(l:List Int)(q a b:Nat)(st:St)(hl:small l)(YA:a+8<=b)(hb:b<=l.length)(Zv:q<st.next)(hH:st.H q=.box 34 1 (us l)):
 aB prog 169 [.ms q 0 l.length,i a,i b] st fun r st'=>∃(x:Nat) (h:Int),r=.tu [i x,i h]/\a<=x/\x<b/\aA st st':=by
 have Yu:=hl;unfold small at Yu;obtain⟨n,hn⟩:∃ n:Nat,n=b-a:=⟨_,rfl⟩;obtain⟨n4,C5⟩:∃ m:Nat,m=n / 4:=⟨_,rfl⟩;obtain⟨k1,Xn⟩:∃ m:Nat,m=a+n4:=⟨_,rfl⟩;obtain⟨k2,Xx⟩:∃ m:Nat,m=a+n4*2:=⟨_,rfl⟩;obtain⟨k3,Xq⟩:∃ m:Nat,m=a+n4*3:=⟨_,rfl⟩;have w1:IntKind.i64.wrap ((b:Int)-(a:Int))=(n:Int):=zW;have w2:IntKind.i64.wrap ((n:Int) / 4)=(n4:Int):=by rw[show(n:Int) / 4=((n / 4:Nat):Int) from rfl,<- C5];exact wrap_i64 _ oO oO
 have w3:IntKind.i64.wrap (n4:Int)=(n4:Int):=zW;have w4:IntKind.i64.wrap ((n4:Int)*2)=((n4*2:Nat):Int):=zW;have w5:IntKind.i64.wrap ((n4:Int)*3)=((n4*3:Nat):Int):=zW;have w6:IntKind.i64.wrap ((a:Int)+(n4:Int))=(k1:Int):=zW;have w7:IntKind.i64.wrap ((a:Int)+((n4*2:Nat):Int))=(k2:Int):=zW;have w8:IntKind.i64.wrap ((a:Int)+((n4*3:Nat):Int))=(k3:Int):=zW;have h8:(8:Int)<=(n:Int):=oO;have Zc:q≠st.next:=oO;generalize ((n4*2:Nat):Int)=e2 at *;generalize ((n4*3:Nat):Int)=e3 at *;refine zN func169 ntmps169 [.tmp 6,.tmp 7] ?_
 (repeat' (first|apply qS|(refine zE ?_;intro J hJ;simp[w1,w2,w3,w4,w5,w6,w7,w8,h8];refine zJ hJ ?_)))
 apply qC;simp[h8];apply qS;refine bB (Br q l.length a b st) ?_ ?_
 .by_cases K7:(50:Int)<=(n:Int)
  ·(repeat' (first|apply qS|(apply qC;simp[K7])|(refine zE ?_;intro J hJ;simp[K7];(try refine zJ hJ ?_))))
   refine qF (cK l q st.next k1 0 _ hl oO oO Zc (by simp[Zc,hH]) sS) ?_;rintro r st' ⟨x1,s1,rfl,rfl,h1⟩
   (repeat' (first|apply qS|((first|(refine zE ?_;intro J hJ)|(apply aD));simp[];(try refine zJ hJ ?_))))
   refine qF (cK l q st.next k2 s1 _ hl oO oO Zc (by simp[Zc,hH]) sS) ?_;rintro r st' ⟨x2,s2,rfl,rfl,h2⟩
   (repeat' ((first|(refine zE ?_;intro J hJ)|(apply aD));simp[];(try refine zJ hJ ?_)))
   refine qF (cK l q st.next k3 s2 _ hl oO oO Zc (by simp[Zc,hH]) sS) ?_;rintro r st' ⟨x3,s3,rfl,rfl,h3⟩
   (repeat' (apply aD;simp[];refine zJ hJ ?_))
   refine⟨by trivial,?_⟩;unfold Br;exact⟨x1,x2,x3,s3,sS,sS,sS,sS,sS,oO,oO,oO,oO,oO,oO,by rw[xR,xR]⟩
  ·(repeat' (first|apply qS|refine qK (zZ ?_)|(apply qC;simp[K7])|(refine zE ?_;intro J hJ;simp[K7];refine zJ hJ ?_)))
   refine⟨by trivial,?_⟩;unfold Br;exact⟨k1,k2,k3,0,sS,sS,sS,sS,sS,oO,oO,oO,oO,oO,oO,zC sS⟩
 rintro fr st2 ⟨j1,j2,j3,s,f0,f9,f10,f11,f12,h1,h2,h3,h4,h5,h6,rfl⟩
 (repeat' (refine zE ?_;intro J hJ;simp[f0,f9,f10,f11,f12]))
 refine qF (vW l q st.next j1 j2 j3 s _ hl oO oO oO Zc (by simp[Zc,hH]) sS) ?_;rintro r st' ⟨x,s1,rfl,rfl,hx⟩;have Xm:aA st (ix (ix (st.new (.box 3 1 [i 0])) st.next s) st.next s1):=((aA.new _ _).set (aAi _) _).set (aAi _) _;have hax:a<=x/\x<b:=oO
 (repeat' (first|apply qS|apply qB|(refine qR (zZ ?_);simp[f9])|(apply qC;simp[f9];(try with_reducible refine⟨?_,?_⟩)<;>(try with_reducible intro hc))|((first|(refine zE ?_;intro J hJ)|(apply aD));simp[f9];refine zJ hJ ?_)))
 all_goals exact⟨x,rfl,hax.1,hax.2,Xm⟩
abbrev uw(n:Int):LV:=.atom (.int .u64 n)
def gD(m:Nat):Nat:=if m=0 then 0 else Nat.log2 m+1
def jO(n:Nat):Nat:=if 256<=n then 8+gD (n / 256)else gD n
theorem wrap_u64(n:Int)(h1:0<=n)(h2:n<18446744073709551616):IntKind.u64.wrap n=n:=by simp[IntKind.wrap,IntKind.signed,IntKind.bits];omega
theorem wrap_u8(n:Int)(h1:0<=n)(h2:n<256):IntKind.u8.wrap n=n:=by simp[IntKind.wrap,IntKind.signed,IntKind.bits];omega
abbrev Ax:ByteArray:={ data:=((List.append [0,1,2,2,3,3,3,3,4,4,4,4,4,4,4,4,5,5,5,5,5,5,5,5,5,5,5,5,5,5,5,5,6,6,6,6,6,6,6,6,6,6,6,6,6,6,6,6,6,6,6,6,6,6,6,6,6,6,6,6,6,6,6,6] [7,7,7,7,7,7,7,7,7,7,7,7,7,7,7,7,7,7,7,7,7,7,7,7,7,7,7,7,7,7,7,7,7,7,7,7,7,7,7,7,7,7,7,7,7,7,7,7,7,7,7,7,7,7,7,7,7,7,7,7,7,7,7,7]).append (List.append [8,8,8,8,8,8,8,8,8,8,8,8,8,8,8,8,8,8,8,8,8,8,8,8,8,8,8,8,8,8,8,8,8,8,8,8,8,8,8,8,8,8,8,8,8,8,8,8,8,8,8,8,8,8,8,8,8,8,8,8,8,8,8,8] [8,8,8,8,8,8,8,8,8,8,8,8,8,8,8,8,8,8,8,8,8,8,8,8,8,8,8,8,8,8,8,8,8,8,8,8,8,8,8,8,8,8,8,8,8,8,8,8,8,8,8,8,8,8,8,8,8,8,8,8,8,8,8,8])).toArray }
theorem Lz:∀ m:Fin 256,((Ax[m.val]?).isSome=true/\((Ax[m.val]?).getD 0).toNat=gD m.val):=by decide +kernel
theorem qP:∀ m:Fin 256,gD m.val<=8/\(0<m.val->m.val<2 ^ gD m.val/\2 ^ gD m.val<=2*m.val):=by decide +kernel
theorem uU(n:Nat)(hn:n<65536):jO n<=16/\(0<n->n<2 ^ jO n/\2 ^ jO n<=2*n):=by
 unfold jO;by_cases h:256<=n
 .rw[aAe h];have h1:=qP ⟨n / 256,oO⟩;simp only at h1;obtain⟨h2,h3⟩:=h1.2 oO;refine⟨oO,fun _=>?_⟩;rw[Nat.pow_add];generalize 2 ^ gD (n / 256)=e at *;omega
 .rw[aAa h];have h1:=qP ⟨n,oO⟩;simp only at h1;exact⟨oO,h1.2⟩
theorem VT(n:Nat)(st:St)(hn:n<65536):aB prog 139 [uw n] st fun r st'=>r=i (jO n)/\st'=st:=by
 refine zN func139 ntmps139 [.tmp 2] ?_;have h1:¬(4294967296:Int)<=(n:Int):=oO;have h2:¬(65536:Int)<=(n:Int):=oO;have hs:∀ m,m<256->(Ax[m]?).isSome=true/\((Ax[m]?).getD 0).toNat=gD m:=fun m h=>Lz ⟨m,h⟩;generalize hq:({ data:=((List.append [0,1,2,2,3,3,3,3,4,4,4,4,4,4,4,4,5,5,5,5,5,5,5,5,5,5,5,5,5,5,5,5,6,6,6,6,6,6,6,6,6,6,6,6,6,6,6,6,6,6,6,6,6,6,6,6,6,6,6,6,6,6,6,6] [7,7,7,7,7,7,7,7,7,7,7,7,7,7,7,7,7,7,7,7,7,7,7,7,7,7,7,7,7,7,7,7,7,7,7,7,7,7,7,7,7,7,7,7,7,7,7,7,7,7,7,7,7,7,7,7,7,7,7,7,7,7,7,7]).append (List.append [8,8,8,8,8,8,8,8,8,8,8,8,8,8,8,8,8,8,8,8,8,8,8,8,8,8,8,8,8,8,8,8,8,8,8,8,8,8,8,8,8,8,8,8,8,8,8,8,8,8,8,8,8,8,8,8,8,8,8,8,8,8,8,8] [8,8,8,8,8,8,8,8,8,8,8,8,8,8,8,8,8,8,8,8,8,8,8,8,8,8,8,8,8,8,8,8,8,8,8,8,8,8,8,8,8,8,8,8,8,8,8,8,8,8,8,8,8,8,8,8,8,8,8,8,8,8,8,8])).toArray }:ByteArray)=s;rw[show Ax=s from hq]at hs;clear hq;by_cases h3:(256:Int)<=(n:Int)
 .obtain⟨m,hm⟩:∃ m,m=n / 256:=⟨_,rfl⟩;have w1:(n:Int).fdiv (2 ^ min 8 IntKind.u64.bits)=(m:Int):=by show(n:Int).fdiv 256=(m:Int);rw[aDU _ oO];omega
  have w2:=wrap_u8 m oO oO;have hb:jO n=8+gD m:=by unfold jO;rw[aAe oO,hm]
  have h4:gD m<=8:=(qP ⟨m,oO⟩).1;have P6:=hs m oO;have hz:m<s.size:=by simpa using P6.1
  have hv:=P6.2;rw[hb];generalize gD m=e at *;have w3:IntKind.i64.wrap (8+(e:Int))=((8+e:Nat):Int):=zW;have w4:IntKind.i64.wrap (e:Int)=(e:Int):=by rw[wrap_i64 _ oO oO]
  have w5:IntKind.i64.wrap (8:Int)=8:=rfl;simp[hz]at hv
  (repeat' (first|apply qS|refine qK (zZ ?_)|(refine qR (zZ ?_);simp[h1,h2,h3,Lj,w1,w2,hz,hv,w3,w4,w5])|(apply qC;simp[h1,h2,h3,Lj,w1,w2,hz,hv,w3,w4,w5])|(refine zE ?_;intro J hJ;simp[h1,h2,h3,Lj,w1,w2,hz,hv,w3,w4,w5];refine zJ hJ ?_)))
 .have w2:=wrap_u8 n oO oO;have hb:jO n=gD n:=by unfold jO;rw[aAa oO]
  have h4:gD n<=8:=(qP ⟨n,oO⟩).1;have P6:=hs n oO;have hz:n<s.size:=by simpa using P6.1
  have hv:=P6.2;rw[hb];generalize gD n=e at *;have w4:IntKind.i64.wrap (e:Int)=(e:Int):=by rw[wrap_i64 _ oO oO]
  simp[hz]at hv
  (repeat' (first|apply qS|refine qK (zZ ?_)|(refine qR (zZ ?_);simp[h1,h2,h3,w2,hz,hv,w4])|(apply qC;simp[h1,h2,h3,w2,hz,hv,w4])|(refine zE ?_;intro J hJ;simp[h1,h2,h3,w2,hz,hv,w4];refine zJ hJ ?_)))
theorem Len(n:Nat)(st:St)(hn:n<65536):aB prog 96 [uw n] st fun r st'=>r=i (jO n)/\st'=st:=by
 refine zN func96 ntmps96 [.tmp 2] ?_
 (repeat' (first|apply qS|refine qK (zZ ?_)|(apply qC;simp[])|(refine zE ?_;intro J hJ;simp[];(try refine zJ hJ ?_))))
 refine qF (VT n _ hn) ?_;rintro r st' ⟨rfl,rfl⟩
 (repeat' (first|(refine qR (zZ ?_);simp[])|(apply aD;simp[];refine zJ hJ ?_)))
theorem nextPowerOfTwo(n:Nat)(st:St)(hn:n<65536):aB prog 183 [i n] st fun r st'=>r=uw ((2 ^ jO n:Nat):Int)/\st'=st:=by
 have h1:=(uU n hn).1;have w1:IntKind.u64.wrap (n:Int)=(n:Int):=wrap_u64 _ oO oO;have w2:ED .u64 1 (jO n)=((2 ^ jO n:Nat):Int):=by
  unfold ED;have h2:(2:Nat) ^ jO n<=2 ^ 16:=aEB oO h1;have h3:min ((jO n:Int).toNat) IntKind.u64.bits=jO n:=by simp[IntKind.bits];omega
  rw[h3,Int.one_mul];rw[show((2:Int) ^ jO n)=((2 ^ jO n:Nat):Int) by simp];generalize (2:Nat) ^ jO n=z at *;exact wrap_u64 _ oO oO
 refine zN func183 ntmps183 [.tmp 2] ?_
 (repeat' (first|apply qS|(refine zE ?_;intro J hJ;simp[w1];(try refine zJ hJ ?_))))
 refine qF (Len n _ hn) ?_;rintro r st' ⟨rfl,rfl⟩;generalize ((2 ^ jO n:Nat):Int)=e2 at *
 (repeat' (first|(refine qR (zZ ?_);simp[w2])|(apply aD;simp[w2];refine zJ hJ ?_)))
abbrev xx(st:St)(p:Nat)(s:Int):St:=st.set p (.box 199 1 [uw s])
theorem Sy(p:Nat)(s:Int)(st:St)(hp:st.H p=.box 199 1 [uw s]):aB prog 184 [.pt p 0] st fun r st'=>∃ s',r=uw s'/\st'=xx st p s':=by
 refine zN func184 ntmps184 [.tmp 2] ?_
 (repeat (apply qS));(refine zE ?_;intro J hJ;simp[];refine zJ hJ ?_)
 (repeat (apply qS));(refine zS [] [p] [0,2,4,6,8,10,12,14,16,19] ?_;intro J hJ;simp[hp];refine zJ hJ ?_)
 generalize OD _ _ _=s1
 (repeat (apply qS));(refine zS [] [p] [0,2,4,6,8,10,12,14,16,19] ?_;intro J hJ;simp[hp];refine zJ hJ ?_)
 generalize OD _ _ _=s2
 (repeat (apply qS));(refine zS [] [p] [0,2,4,6,8,10,12,14,16,19] ?_;intro J hJ;simp[hp];refine zJ hJ ?_)
 generalize OD _ _ _=s3
 (repeat' (first|apply qS|(refine qR (zZ ?_);simp[])|(refine zE ?_;intro J hJ;simp[];refine zJ hJ ?_)))
 rw[St.set_set,St.set_set]
theorem Kq(s:Int)(m:Nat)(h0:0<m)(hm:m<=131072):∃ o:Nat,o<m/\wT .u64 s (((m-1:Nat)):Int)=(o:Int):=by
 unfold wT;generalize hx:BitVec.ofInt IntKind.u64.bits s=x;have h1:(BitVec.ofInt IntKind.u64.bits ((m-1:Nat):Int)).toNat=m-1:=by rw[BitVec.ofInt_natCast,aCZ];show(m-1) % 2 ^ 64=m-1;exact aAK oO
 refine⟨(x &&& BitVec.ofInt IntKind.u64.bits ((m-1:Nat):Int)).toNat,?_,?_⟩
 .have h2:(x &&& BitVec.ofInt IntKind.u64.bits ((m-1:Nat):Int)).toNat<=(BitVec.ofInt IntKind.u64.bits ((m-1:Nat):Int)).toNat:=by rw[BitVec.toNat_and];exact Nat.and_le_right
  omega
 .have h2:(x &&& BitVec.ofInt IntKind.u64.bits ((m-1:Nat):Int)).toNat<=(BitVec.ofInt IntKind.u64.bits ((m-1:Nat):Int)).toNat:=by rw[BitVec.toNat_and];exact Nat.and_le_right
  exact wrap_u64 _ oO oO
def bK(q:Nat)(st st':St):Prop:=st.next<=st'.next/\∀ l,l≠q->l<st.next->st'.H l=st.H l
theorem bK.refl(q:Nat)(st:St):bK q st st:=⟨aAi _,fun _ _ _=>rfl⟩
theorem bK.trans{q:Nat}{a b c:St}(h:bK q a b)(k:bK q b c):bK q a c:=⟨aBh h.1 k.1,fun l hl hn=>(k.2 l hl (aAp hn h.1)).trans (h.2 l hl hn)⟩
theorem bK.keeps{q:Nat}{a b c:St}(h:bK q a b)(k:aA b c):bK q a c:=⟨aBh h.1 k.next,fun l hl hn=>(k.H l (aAp hn h.1)).trans (h.2 l hl hn)⟩
theorem bK.set{q:Nat}{a b:St}(h:bK q a b)(o:cI):bK q a (b.set q o):=⟨h.1,fun l hl hn=>by rw[bN,aAa hl];exact h.2 l hl hn⟩
theorem bK.set'{q p:Nat}{a b:St}(h:bK q a b)(hp:a.next<=p)(o:cI):bK q a (b.set p o):=⟨h.1,fun l hl hn=>by rw[bN,aAa oO];exact h.2 l hl hn⟩
def yH(q p a b n m k:Nat)(l:List Int)(st:St)(fr:Frm)(st2:St):Prop:=fr 0=.ms q 0 l.length/\fr 1=i a/\fr 6=i n/\fr 7=.pt p 0/\fr 8=uw m/\fr 9=i k/\p<st2.next/\bK q st st2/\(∃ s,st2.H p=.box 199 1 [uw s])/\∃ c,st2.H q=.box 34 1 (us c)/\Pm a b l c
def RQ(q p a b n m k:Nat)(l:List Int)(st:St)(fr:Frm)(st2:St):Prop:=yH q p a b n m k l st fr st2/\∃ o:Nat,o<n/\fr 10=i o
theorem iM(l:List Int)(q a b:Nat)(st:St)(hl:l.length<65536)(YA:a+8<=b)(hb:b<=l.length)(Zv:q<st.next)(hH:st.H q=.box 34 1 (us l)):
 aB prog 168 [.ms q 0 l.length,i a,i b] st fun r st'=>∃ c,st'.H q=.box 34 1 (us c)/\Pm a b l c/\bK q st st':=by
 obtain⟨n,hn⟩:∃ n:Nat,n=b-a:=⟨_,rfl⟩;obtain⟨n4,C5⟩:∃ m:Nat,m=n / 4:=⟨_,rfl⟩;obtain⟨k0,Yj⟩:∃ m:Nat,m=a+n4*2:=⟨_,rfl⟩;have w1:IntKind.i64.wrap ((b:Int)-(a:Int))=(n:Int):=zW;have w2:IntKind.i64.wrap ((n:Int) / 4)=(n4:Int):=by rw[show(n:Int) / 4=((n / 4:Nat):Int) from rfl,<- C5];exact wrap_i64 _ oO oO
 have w4:IntKind.i64.wrap ((n4:Int)*2)=((n4*2:Nat):Int):=zW;have w7:IntKind.i64.wrap ((a:Int)+((n4*2:Nat):Int))=(k0:Int):=zW;have w8:=aH k0 oO oO;obtain⟨k1,Xn⟩:∃ m:Nat,m=k0+1:=⟨_,rfl⟩;have w9:IntKind.i64.wrap ((k0:Int)+1)=(k1:Int):=by rw[qN k0 oO,Xn]
 have w10:IntKind.u64.wrap (n:Int)=(n:Int):=wrap_u64 _ oO oO;have h8:(8:Int)<=(n:Int):=oO;have ZR:=(uU n oO).2 oO;obtain⟨m,hm⟩:∃ m:Nat,m=2 ^ jO n:=⟨_,rfl⟩;rw[<- hm]at ZR;have w11:IntKind.u64.wrap ((m:Int)-1)=((m-1:Nat):Int):=by rw[wrap_u64 _ oO oO];omega
 generalize ((n4*2:Nat):Int)=e2 at *;refine zN func168 ntmps168 [] ?_
 (repeat' (first|apply qS|(refine zE ?_;intro J hJ;simp[w1];refine zJ hJ ?_)))
 apply qC;simp[h8]
 (repeat' (first|apply qS|(refine zE ?_;intro J hJ;simp[w10,w1];(try refine zJ hJ ?_))))
 refine qF (nextPowerOfTwo n _ oO) ?_;rintro r st' ⟨rfl,rfl⟩;rw[<- hm]
 (repeat' (first|apply qS|apply qB|((first|(refine zE ?_;intro J hJ)|(apply aD));simp[w2,w4,w7,w8];refine zJ hJ ?_)))
 refine qL (fun z fr st2=>∃ k:Nat,k0<=k+1/\k<=k0+2/\z=k0+2-k/\yH q st.next a b n m k l st fr st2) 3 ?_ ?_
 .refine⟨k0-1,oO,oO,oO,?_⟩;unfold yH;have Wx:¬q=st.next:=oO;refine⟨sS,sS,sS,sS,sS,sS,sS,?_,⟨n,sS⟩,l,by simp[Wx,hH],.refl⟩;exact((bK.refl q st).keeps (aA.new _ _)).set' (aAi _) _
 rintro z fr st2 ⟨k,P8,hku,rfl,f0,f1,f6,f7,f8,f9,hpn,YU,⟨s,hs⟩,c,hcq,Xi⟩ JJ hJJ;have Xk:=Xi.len;by_cases dN:(k:Int)<=(k1:Int);rotate_left
 .clear hJJ
  (repeat' (first|apply qS|refine qX (zZ ?_)|(apply qC;simp[f1,f6,f9,w2,w4,w7,w9,dN])|(refine zE ?_;intro J hJ;simp[f1,f6,f9,w2,w4,w7,w9,dN];refine zJ hJ ?_)))
  exact⟨trivial,c,hcq,Xi,YU⟩
 (repeat (apply qS));(refine zE ?_;intro J hJ;simp[f1,f6,f9,w2,w4,w7,w9,dN];refine zJ hJ ?_)
 apply qC;simp[dN];refine qK (zZ ?_);apply qS;apply qB;apply qS
 (refine zE ?_;intro J hJ;simp[f7])
 refine qF (Sy st.next s _ hs) ?_;rintro r st' ⟨s1,rfl,rfl⟩;obtain⟨o,ho,F7⟩:=Kq s1 m oO oO;have w12:IntKind.i64.wrap (o:Int)=(o:Int):=zW
 (apply aD;simp[f8,w11,F7,w12];refine zJ hJ ?_)
 apply qS;refine bB (RQ q st.next a b n m k l st) ?_ ?_
 .have K5:¬q=st.next:=oO;have hI:∀ Zr:Frm,Zr 0=fr 0->Zr 1=fr 1->Zr 6=fr 6->Zr 7=fr 7->Zr 8=fr 8->Zr 9=fr 9->yH q st.next a b n m k l st Zr (xx st2 st.next s1):=by intro Zr g0 g1 g6 g7 g8 g9;exact⟨by rw[g0,f0],by rw[g1,f1],by rw[g6,f6],by rw[g7,f7],by rw[g8,f8],by rw[g9,f9],by simpa using hpn,YU.set' (aAi _) _,⟨s1,sS⟩,c,by simp[K5,hcq],Xi⟩
  by_cases D7:(n:Int)<=(o:Int)
  .have w13:IntKind.i64.wrap ((o:Int)-(n:Int))=((o-n:Nat):Int):=zW
   (repeat' (first|apply qS|(apply qC;simp[f6,D7,w13])|(refine zE ?_;intro J hJ;simp[f6,D7,w13];refine zJ hJ ?_)))
   refine⟨by trivial,?_⟩;exact⟨hI _ sS sS sS sS sS sS,o-n,oO,sS⟩
  ·(repeat' (first|apply qS|refine qK (zZ ?_)|(apply qC;simp[f6,D7])|(refine zE ?_;intro J hJ;simp[f6,D7];refine zJ hJ ?_)))
   refine⟨by trivial,?_⟩;exact⟨hI _ sS sS sS sS sS sS,o,oO,sS⟩
 clear f0 f1 f6 f7 f8 f9 hpn YU hs hcq Xi Xk F7 w12 ho o s s1 c st2 fr;rintro fr st2 ⟨⟨f0,f1,f6,f7,f8,f9,hpn,YU,⟨s,hs⟩,c,hcq,Xi⟩,o,ho,f10⟩;have Xk:=Xi.len;obtain⟨x,hx⟩:∃ x:Nat,x=a+o:=⟨_,rfl⟩;have w12:IntKind.i64.wrap ((a:Int)+(o:Int))=(x:Int):=zW;have w13:=qN k oO;have Xu:=qG c k oO;have YQ:=qG c x oO;have K4:k<l.length:=oO;have O4:x<l.length:=oO;have YT:=fun v y=>pJ st2 q c k x (x:=v) (y:=y) oO oO;have YM:=Xi.step k x oO oO oO oO oO;generalize hv:c.getD k 0=v at *;generalize hy:c.getD x 0=y at *;have YC:=YT v y rfl rfl
 (refine zS [] [q] [0,2,4,6,8,10,12,14,16,18,20,22,24,26,28,30,32,35,36,39] ?_;intro J hJ;simp[f0,f1,f9,f10,w12,K4,O4,Xk,hcq,Xu,YQ];(repeat refine ca ?_);refine zJ hJ ?_)
 (repeat' (refine zE ?_;intro J hJ;simp[f9,w13];refine zJ hJ ?_))
 have K5:¬st.next=q:=oO;rw[YC];exact hJJ (k0+2-(k+1)) _ _ oO ⟨k+1,oO,oO,rfl,by simp[f0],by simp[f1],by simp[f6],by simp[f7],by simp[f8],sS,by simpa using hpn,YU.set _,⟨s,by simp[K5,hs]⟩,_,sS,YM⟩
theorem Srt.out{a m:Nat}{c d:List Int}(h:Srt a m c)(e:∀ j,a<=j->j<m->d.getD j 0=c.getD j 0):Srt a m d:=by intro p q h1 h2 h3;rw[e p h1 oO,e q oO h3];exact h p q h1 h2 h3
theorem _root_.Go.Proofs.YtempldclppogmaaGreatDoor.Pl.cA.pmL{c d:List Int}{a m b:Nat}(h:cA c a m b)(k:Pm a m c d):cA d a m b:=by unfold cA at h ⊢;have e:d.getD m 0=c.getD m 0:=k.out m oO;rw[e];refine⟨fun p h1 h2=>k.all (fun v=>decide (v<c.getD m 0)=true) h.1 p h1 h2,fun p h1 h2=>?_⟩;rw[k.out p oO];exact h.2 p h1 h2
theorem _root_.Go.Proofs.YtempldclppogmaaGreatDoor.Pl.cA.pmR{c d:List Int}{a m b:Nat}(h:cA c a m b)(k:Pm (m+1) b c d):cA d a m b:=by unfold cA at h ⊢;have e:d.getD m 0=c.getD m 0:=k.out m oO;rw[e];refine⟨fun p h1 h2=>?_,fun p h1 h2=>k.all (fun v=>decide (v<c.getD m 0)=false) (fun j g1 g2=>h.2 j oO g2) p oO h2⟩;rw[k.out p oO];exact h.1 p h1 h2
theorem _root_.Go.Proofs.YtempldclppogmaaGreatDoor.Pl.cA.glue{d:List Int}{a m b:Nat}(h:cA d a m b)(h1:Srt a m d)(h2:Srt (m+1) b d):Srt a b d:=by
 refine NL h1 h2 (fun p g1 g2=>?_) fun q g1 g2=>?_
 .have:=h.1 p g1 g2;simp only[aBX]at this;omega
 .have:=h.2 q g1 g2;simp only[aCU]at this;omega
theorem _root_.Go.Proofs.YtempldclppogmaaGreatDoor.Pl.cA.aheadR{d:List Int}{a m b:Nat}(h:cA d a m b):fV d (m+1) b:=by intro _ j g1 g2;have:=h.2 j oO g2;simp only[aCU]at this;rw[aCd];omega
theorem fV.less{d:List Int}{a m b:Nat}(h:fV d a b)(hm:m<=b):fV d a m:=fun h0 j g1 g2=>h h0 j g1 oO
theorem KU{c d:List Int}{a m b:Nat}{x:Int}(h:uC c a m b x)(Zu:∀ j,a<=j->j<m->x<=c.getD j 0)(k:Pm m b c d)(hs:Srt m b d):Srt a b d:=by
 intro p q h1 h2 h3;by_cases hq:q<m
 .rw[k.out p oO,k.out q oO];have:=h.1 p h1 oO;have:=Zu q oO hq;omega
 .by_cases hp:p<m
  .rw[k.out p oO];have g:=h.1 p h1 hp;have:x<d.getD q 0:=k.all (fun v=>x<v) h.2 q oO h3;omega
  .exact hs p q oO h2 h3
def Dy(a b a' b':Nat)(c:List Int):Prop:=∀ d,Pm a' b' c d->Srt a' b' d->Srt a b d
theorem Dy.pm{a b a' b':Nat}{c d:List Int}(h:Dy a b a' b' c)(k:Pm a' b' c d):Dy a b a' b' d:=fun e h1 h2=>h e (k.trans h1) h2
theorem Fy{P:Program}{N:Nat}{Q:AQ}{k:List fS}{fr:Frm}{st:St}{x y:Code}(I:Frm->St->Prop)(h1:AWp P N x (AK P N (fun e f s=>(e=.normal/\I f s)\/(e=.ret/\AK P N Q k .ret f s)) []) fr st)(h2:∀ fr st,I fr st->AWp P N y (AK P N Q k) fr st):
 AWp P N x (AK P N Q (.code y::k)) fr st:=by
 refine cZ h1 ?_;rintro e Xj st' (⟨rfl,hI⟩|⟨rfl,hI⟩)
 .rw[iK];exact h2 _ _ hI
 .rw[xP];exact hI
theorem HH{P:Program}{N:Nat}{Q:AQ}{k:List fS}{fr:Frm}{st:St}{x y:Code}(I:Frm->St->Prop)(h1:AWp P N x (AK P N (fun e f s=>(e=.normal/\I f s)\/(e≠.normal/\AK P N Q k e f s)) []) fr st)(h2:∀ fr st,I fr st->AWp P N y (AK P N Q k) fr st):
 AWp P N x (AK P N Q (.code y::k)) fr st:=by
 refine cZ h1 ?_;rintro e Xj st' (⟨rfl,hI⟩|⟨Wx,hI⟩)
 .rw[iK];exact h2 _ _ hI
 .cases e<;>first|exact absurd rfl Wx|exact hI
def PdI(q:Nat)(l:List Int)(st:St)(a b a' b':Nat)(wb wp:Bool)(YG n:Nat)(fr:Frm)(st2:St):Prop:=
 fr 0=.ms q 0 l.length/\fr 1=i a'/\fr 2=i b'/\fr 3=i YG/\fr 8=bb wb/\fr 9=bb wp/\fr 10=i n/\YG<1000000/\q<st2.next/\bK q st st2/\∃ c,st2.H q=.box 34 1 (us c)/\Pm a b l c/\fV c a' b'/\Dy a b a' b' c
theorem PdI.mk{q:Nat}{l:List Int}{st:St}{a b a' b':Nat}{wb wp:Bool}{YG n:Nat}{fr:Frm}{st2:St}{c:List Int}(f0:fr 0=.ms q 0 l.length)(f1:fr 1=i a')(f2:fr 2=i b')(f3:fr 3=i YG)(f8:fr 8=bb wb)(f9:fr 9=bb wp)(f10:fr 10=i n)(r9:YG<1000000)(Zv:q<st2.next)(ho:bK q st st2)(hc:st2.H q=.box 34 1 (us c))(hp:Pm a b l c)(ha:fV c a' b')(hf:Dy a b a' b' c):PdI q l st a b a' b' wb wp YG n fr st2:=
 ⟨f0,f1,f2,f3,f8,f9,f10,r9,Zv,ho,c,hc,hp,ha,hf⟩
def PdJ(q:Nat)(l:List Int)(st:St)(a b a' b':Nat)(wb wp:Bool)(n:Nat)(fr:Frm)(st2:St):Prop:=∃ YG,PdI q l st a b a' b' wb wp YG n fr st2
def PdK(q:Nat)(l:List Int)(st:St)(a b a' b':Nat)(wb wp:Bool)(n:Nat)(fr:Frm)(st2:St):Prop:=∃ YG,PdI q l st a b a' b' wb wp YG n fr st2/\∃(pv:Nat) (h:Int),a'<=pv/\pv<b'/\fr 11=i pv/\fr 12=i h
theorem jP(Z:Nat):∀(l:List Int) (q a b YG:Nat) (st:St),l.length<65536->a<=b->b<=l.length->b-a<Z->fV l a b->YG<1000000->q<st.next->st.H q=.box 34 1 (us l)->
 aB prog 122 [.ms q 0 l.length,i a,i b,i YG] st fun r st'=>∃ c,st'.H q=.box 34 1 (us c)/\Pm a b l c/\Srt a b c/\bK q st st':=by
 induction Z with
 |zero=>intro l q a b YG st _ _ _ h;omega
 |succ Z ih=>
 intro l q a b YG st hl YA hb hZ hah hlim Zv hH;have ZZ:small l:=by unfold small;omega
 refine zN func122 ntmps122 [] ?_
 (repeat' (first|apply qS|apply qB|(refine zE ?_;intro J hJ;simp[];refine zJ hJ ?_)))
 refine qL (fun z fr st2=>∃(a' b' YG:Nat) (wb wp:Bool) (n:LV),a<=a'/\a'<=b'/\b'<=b/\z=b' - a'/\PdI q l st a b a' b' wb wp YG 0 (upd fr 10 (i (0:Nat))) st2) (b-a) ?_ ?_
 .refine⟨a,b,YG,true,true,.nil,oO,oO,oO,rfl,?_⟩;exact PdI.mk sS sS sS sS sS sS sS hlim Zv (.refl _ _) hH .refl hah fun d h1 h2=>h2
 rintro z fr st2 ⟨a',b',YG,wb,wp,-,ha1,ha2,c7,rfl,f0,f1,f2,f3,f8,f9,-,r9,YE,YU,c,hc,Xi,YO,Xp⟩ JJ hJJ;rw[vQ,aAa oO]at f0 f1 f2 f3 f8 f9;have Xk:=Xi.len;have Yd:small c:=by unfold small;omega
 obtain⟨n,hn⟩:∃ n:Nat,n=b' - a':=⟨_,rfl⟩;have w1:IntKind.i64.wrap ((b':Int)-(a':Int))=(n:Int):=zW;apply qB
 (repeat' (first|apply qS|(refine zE ?_;intro J hJ;simp[f1,f2,w1];refine zJ hJ ?_)))
 by_cases hn12:(n:Int)<=12
 .clear hJJ;apply qC;simp[hn12]
  (repeat' (first|apply qS|(refine zE ?_;intro J hJ;simp[f0,f1,f2])))
  refine qE (insertionSort c q a' b' st2 Yd oO oO hc) (by simp[f0,f1,f2,Xk]) ?_;rintro r st' ⟨d,rfl,k1,k2⟩
  (repeat' (first|(refine qR (zZ ?_);simp[])|(apply aD;simp[];refine zJ hJ ?_)))
  exact⟨d,rfl,Xi.trans (k1.wide oO oO oO),Xp d k1 k2,YU.set _⟩
 apply qC;simp[hn12]
 (repeat' (first|apply qS|refine qK (zZ ?_)|(refine zE ?_;intro J hJ;simp[f3];refine zJ hJ ?_)))
 by_cases v7:YG=0
 .clear hJJ;apply qC;simp[v7]
  (repeat' (first|apply qS|(refine zE ?_;intro J hJ;simp[f0,f1,f2])))
  refine qE (tG c q a' b' st2 Yd oO oO hc) (by simp[f0,f1,f2,Xk]) ?_;rintro r st' ⟨d,rfl,k1,k2⟩
  (repeat' (first|(refine qR (zZ ?_);simp[])|(apply aD;simp[];refine zJ hJ ?_)))
  exact⟨d,rfl,Xi.trans (k1.wide oO oO oO),Xp d k1 k2,YU.set _⟩
 apply qC;simp[v7];refine qK (zZ ?_);apply qS;refine bB (PdJ q l st a b a' b' wb wp n) ?_ ?_
 .clear hJJ;cases wb
  ·(repeat' (first|apply qS|(apply qC;simp[f0,f1,f2,f8])|(refine zE ?_;intro J hJ;simp[f0,f1,f2,f8];(try refine zJ hJ ?_))))
   refine qE (iM c q a' b' st2 oO oO oO YE hc) (by simp[f0,f1,f2,Xk]) ?_;rintro r st' ⟨d,k0,k1,k2⟩;have w2:=aH YG oO oO
   (repeat' ((first|(refine zE ?_;intro J hJ)|(apply aD));simp[f3,w2];refine zJ hJ ?_))
   refine⟨by trivial,?_⟩;exact⟨YG-1,PdI.mk (by simp[f0]) (by simp[f1]) (by simp[f2]) sS (by simp[f8]) (by simp[f9]) sS oO (aAp YE k2.1) (YU.trans k2) k0 (Xi.trans (k1.wide oO oO oO)) (YO.pm k1) (Xp.pm k1)⟩
  ·(repeat' (first|apply qS|refine qK (zZ ?_)|(apply qC;simp[f8])|(refine zE ?_;intro J hJ;simp[f8];refine zJ hJ ?_)))
   refine⟨by trivial,?_⟩;exact⟨YG,PdI.mk (by simp[f0]) (by simp[f1]) (by simp[f2]) (by simp[f3]) (by simp[f8]) (by simp[f9]) sS oO YE YU hc Xi YO Xp⟩
 clear f0 f1 f2 f3 f8 f9 r9 YE YU hc Xi YO Xp Xk Yd c st2 fr v7 YG;rintro fr st2 ⟨YG,f0,f1,f2,f3,f8,f9,f10,r9,YE,YU,c,hc,Xi,YO,Xp⟩;have Xk:=Xi.len;have Yd:small c:=by unfold small;omega
 apply qS
 (refine zE ?_;intro J hJ;simp[f0,f1,f2])
 refine qE (lG c q a' b' st2 Yd oO oO YE hc) (by simp[f0,f1,f2,Xk]) ?_;rintro r st' ⟨pv,h,rfl,ZF,Zg,k0⟩;have x8:st'.H q=.box 34 1 (us c):=by rw[k0.H q YE];exact hc
 have U1:q<st'.next:=aAp YE k0.next;have V2:=YU.keeps k0;clear hc YE YU k0
 (apply aD;simp[];refine zJ hJ ?_)
 apply qS;refine bB (PdK q l st a b a' b' wb wp n) ?_ ?_
 .clear hJJ;by_cases hh:h=2
  ·(repeat' (first|apply qS|(apply qC;simp[hh,f0,f1,f2])|(refine zE ?_;intro J hJ;simp[hh,f0,f1,f2];(try refine zJ hJ ?_))))
   refine qE (jJ c q a' b' st' Yd oO oO oO x8) (by simp[f0,f1,f2,Xk]) ?_;rintro r st' ⟨d,rfl,k1⟩;have w2:=aH b' oO oO;obtain⟨x1,hx1⟩:∃ x,x=b' - 1:=⟨_,rfl⟩;obtain⟨x2,Ys⟩:∃ x,x=pv-a':=⟨_,rfl⟩;obtain⟨x3,hx3⟩:∃ x,x=x1-x2:=⟨_,rfl⟩;have w3:IntKind.i64.wrap ((pv:Int)-(a':Int))=(x2:Int):=zW;have w4:IntKind.i64.wrap ((x1:Int)-(x2:Int))=(x3:Int):=zW;rw[<- hx1]at w2
   (repeat' (first|apply qS|((first|(refine zE ?_;intro J hJ)|(apply aD));simp[f1,f2,w2,w3,w4];refine zJ hJ ?_)))
   refine⟨by trivial,?_⟩;exact⟨YG,PdI.mk (by simp[f0]) (by simp[f1]) (by simp[f2]) (by simp[f3]) (by simp[f8]) (by simp[f9]) (by simp[f10]) oO U1 (V2.set _) sS (Xi.trans (k1.wide oO oO oO)) (YO.pm k1) (Xp.pm k1),x3,1,oO,oO,sS,sS⟩
  ·(repeat' (first|apply qS|refine qK (zZ ?_)|(apply qC;simp[hh])|(refine zE ?_;intro J hJ;simp[hh];refine zJ hJ ?_)))
   refine⟨by trivial,?_⟩;exact⟨YG,PdI.mk (by simp[f0]) (by simp[f1]) (by simp[f2]) (by simp[f3]) (by simp[f8]) (by simp[f9]) (by simp[f10]) oO U1 V2 x8 Xi YO Xp,pv,h,oO,oO,sS,sS⟩
 clear f0 f1 f2 f3 f8 f9 f10 r9 U1 V2 x8 Xi YO Xp Xk Yd c st2 fr YG h ZF Zg pv;rintro fr st2 ⟨YG,⟨f0,f1,f2,f3,f8,f9,f10,r9,YE,YU,c,hc,Xi,YO,Xp⟩,pv,h,ZF,Zg,f11,f12⟩;have Xk:=Xi.len;have Yd:small c:=by unfold small;omega
 apply qS;refine Fy (PdK q l st a b a' b' wb wp n) ?_ ?_
 .clear hJJ;cases wb
  ·(repeat' (first|apply qS|refine qK (zZ ?_)|(apply qC;simp[f8])|(refine zE ?_;intro J hJ;simp[f8];refine zJ hJ ?_)))
   refine .inl ⟨by trivial,?_⟩;exact⟨YG,PdI.mk (by simp[f0]) (by simp[f1]) (by simp[f2]) (by simp[f3]) (by simp[f8]) (by simp[f9]) (by simp[f10]) oO YE YU hc Xi YO Xp,pv,h,oO,oO,by simp[f11],by simp[f12]⟩
  cases wp
  ·(repeat' (first|apply qS|refine qK (zZ ?_)|(apply qC;simp[f8,f9])|(refine zE ?_;intro J hJ;simp[f8,f9];refine zJ hJ ?_)))
   refine .inl ⟨by trivial,?_⟩;exact⟨YG,PdI.mk (by simp[f0]) (by simp[f1]) (by simp[f2]) (by simp[f3]) (by simp[f8]) (by simp[f9]) (by simp[f10]) oO YE YU hc Xi YO Xp,pv,h,oO,oO,by simp[f11],by simp[f12]⟩
  by_cases hh:h=1;rotate_left
  ·(repeat' (first|apply qS|refine qK (zZ ?_)|(apply qC;simp[f8,f9,f12,hh])|(refine zE ?_;intro J hJ;simp[f8,f9,f12,hh];refine zJ hJ ?_)))
   refine .inl ⟨by trivial,?_⟩;exact⟨YG,PdI.mk (by simp[f0]) (by simp[f1]) (by simp[f2]) (by simp[f3]) (by simp[f8]) (by simp[f9]) (by simp[f10]) oO YE YU hc Xi YO Xp,pv,h,oO,oO,by simp[f11],by simp[f12]⟩
  (repeat' (first|apply qS|(apply qC;simp[f8,f9,f12,hh,f0,f1,f2])|(refine zE ?_;intro J hJ;simp[f8,f9,f12,hh,f0,f1,f2];(try refine zJ hJ ?_))))
  refine qE (dF c q a' b' st2 Yd oO oO YO hc) (by simp[f0,f1,f2,Xk]) ?_;rintro r st' ⟨d,p,rfl,rfl,k1,k2⟩;cases p
  ·(repeat' (first|refine qK (zZ ?_)|(apply qC;simp[])|(apply aD;simp[];refine zJ hJ ?_)))
   refine .inl ⟨by trivial,?_⟩;exact⟨YG,PdI.mk (by simp[f0]) (by simp[f1]) (by simp[f2]) (by simp[f3]) (by simp[f8]) (by simp[f9]) (by simp[f10]) oO YE (YU.set _) sS (Xi.trans (k1.wide oO oO oO)) (YO.pm k1) (Xp.pm k1),pv,h,oO,oO,by simp[f11],by simp[f12]⟩
  ·(repeat' (first|(refine qR (zZ ?_);simp[])|(apply qC;simp[])|(apply aD;simp[];refine zJ hJ ?_)))
   exact⟨d,rfl,Xi.trans (k1.wide oO oO oO),Xp d k1 (k2 rfl),YU.set _⟩
 clear f0 f1 f2 f3 f8 f9 f10 f11 f12 r9 YE YU hc Xi YO Xp Xk Yd c st2 fr YG h ZF Zg pv;rintro fr st2 ⟨YG,⟨f0,f1,f2,f3,f8,f9,f10,r9,YE,YU,c,hc,Xi,YO,Xp⟩,pv,h,ZF,Zg,f11,f12⟩;have Xk:=Xi.len;have Yd:small c:=by unfold small;omega
 apply qS;refine HH (PdK q l st a b a' b' wb wp n) ?_ ?_
 .by_cases h0:a'=0
  .clear hJJ;have S6:¬(0:Int)<(a':Int):=oO
   (repeat (apply qS));(refine zS [] [q] [0,2,4,6,8,10,12,14,16,18,20,22,25,26,28] ?_;intro J hJ;simp[f0,f1,h0];refine zJ hJ ?_)
   (repeat' (first|refine qK (zZ ?_)|(apply qC;simp[])))
   refine .inl ⟨by trivial,?_⟩;exact⟨YG,PdI.mk (by simp[f0]) (by simp[f1]) (by simp[f2]) (by simp[f3]) (by simp[f8]) (by simp[f9]) (by simp[f10]) oO  YE YU hc Xi YO Xp,pv,h,oO,oO,by simp[f11],by simp[f12]⟩
  have S6:0<a':=oO;have w2:=aH a' oO oO;have Xu:=qG c (a' - 1) oO;have YQ:=qG c pv oO;have K4:a' - 1<l.length:=oO;have O4:pv<l.length:=oO;have Zu:∀ j,a'<=j->j<b'->c.getD (a' - 1) 0<=c.getD j 0:=YO S6;generalize hx:c.getD (a' - 1) 0=x at *;generalize hy:c.getD pv 0=y at *
  (repeat (apply qS));(refine zS [] [q] [0,2,4,6,8,10,12,14,16,18,20,22,25,26,28] ?_;intro J hJ;simp[f0,f1,f11,S6,w2,K4,O4,Xk,hc,Xu,YQ])
  refine aJ (tP x y _) ?_;rintro r s2 ⟨rfl,rfl⟩;refine⟨fun _=>by simp,?_⟩;by_cases YH:x<y
  .clear hJJ
   (apply aV;simp[YH];refine zJ hJ ?_)
   (repeat' (first|refine qK (zZ ?_)|(apply qC;simp[])))
   refine .inl ⟨by trivial,?_⟩;exact⟨YG,PdI.mk (by simp[f0]) (by simp[f1]) (by simp[f2]) (by simp[f3]) (by simp[f8]) (by simp[f9]) (by simp[f10]) oO  YE YU hc Xi YO Xp,pv,h,oO,oO,by simp[f11],by simp[f12]⟩
  (apply aV;simp[YH];refine zJ hJ ?_)
  (repeat' (first|apply qS|(apply qC;simp[f0,f1,f2,f11])|(refine zE ?_;intro J hJ;simp[f0,f1,f2,f11])))
  refine qE (gL c q a' b' pv _ Yd oO oO ZF Zg hc) (by simp[f0,f1,f2,f11,Xk]) ?_;rintro r st' ⟨d,YB,rfl,rfl,k1,k2,k3,k4⟩
  (repeat' (first|apply qS|refine qX (zZ ?_)|((first|(refine zE ?_;intro J hJ)|(apply aD));simp[];refine zJ hJ ?_)))
  refine .inr ⟨sS,?_⟩;refine hJJ (b' - YB) _ _ oO ⟨YB,b',YG,wb,wp,.nil,oO,oO,oO,rfl,?_⟩;rw[hy]at k4;refine PdI.mk (by simp[f0]) sS (by simp[f2]) (by simp[f3]) (by simp[f8]) (by simp[f9]) sS oO YE (YU.set _) sS (Xi.trans (k1.wide oO oO oO)) ?_ ?_
  .intro _ j g1 g2;have e1:=k4.1 (YB-1) oO oO;have e2:=k4.2 j g1 g2;omega
  .intro e g1 g2;refine Xp e (k1.trans (g1.wide oO oO (by have:=k1.len;omega))) (KU k4 (fun j e1 e2=>?_) g1 g2);have:=k1.all (fun v=>x<=v) Zu j e1 oO;omega
 clear f0 f1 f2 f3 f8 f9 f10 f11 f12 r9 YE YU hc Xi YO Xp Xk Yd c st2 fr YG h ZF Zg pv;rintro fr st2 ⟨YG,⟨f0,f1,f2,f3,f8,f9,f10,r9,YE,YU,c,hc,Xi,YO,Xp⟩,pv,h,ZF,Zg,f11,f12⟩;have Xk:=Xi.len;have Yd:small c:=by unfold small;omega
 (repeat' (first|apply qS|(refine zE ?_;intro J hJ;simp[f0,f1,f2,f11])))
 refine qE (partition c q a' b' pv _ Yd oO oO ZF Zg hc) (by simp[f0,f1,f2,f11,Xk]) ?_;rintro r st' ⟨d,YB,p,rfl,rfl,k1,k2,k3,k4⟩;have u6:=k1.len;have k4:cA d a' YB b':=k4;have hpm':=Xi.trans (k1.wide ha1 c7 oO);have hah':=YO.pm k1;have Q0:=Xp.pm k1;have hof':=YU.set (q:=q) (.box 34 1 (us d));have w3:IntKind.i64.wrap ((YB:Int)-(a':Int))=((YB-a':Nat):Int):=zW;have w4:IntKind.i64.wrap ((b':Int)-(YB:Int))=((b' - YB:Nat):Int):=zW;have w5:IntKind.i64.wrap ((n:Int) / 8)=((n / 8:Nat):Int):=by rw[show(n:Int) / 8=((n / 8:Nat):Int) from rfl];exact wrap_i64 _ oO oO
 obtain⟨z1,hz1⟩:∃ x:Nat,x=YB-a':=⟨_,rfl⟩;obtain⟨z2,hz2⟩:∃ x:Nat,x=b' - YB:=⟨_,rfl⟩;obtain⟨z3,hz3⟩:∃ x:Nat,x=n / 8:=⟨_,rfl⟩;obtain⟨m1,z7⟩:∃ x:Nat,x=YB+1:=⟨_,rfl⟩;rw[<- hz1]at w3;rw[<- hz2]at w4;rw[<- hz3]at w5;have w6:IntKind.i64.wrap ((YB:Int)+1)=(m1:Int):=by rw[qN YB oO,z7]
 clear hc Xi YO Xp YU
 (repeat' (first|apply qS|((first|(refine zE ?_;intro J hJ)|(apply aD));simp[f1,f2,f10,w3,w4,w5];refine zJ hJ ?_)))
 apply qC;by_cases hzz:z1<z2
 .simp[hzz]
  (repeat' (first|apply qS|(refine zE ?_;intro J hJ;simp[f0,f1,f3];(try refine zJ hJ ?_))))
  refine qE (ih d q a' YB YG (bx st2 q d) oO oO oO oO (hah'.less oO) oO YE sS) (by simp[f0,f1,f2,f3,u6,Xk]) ?_;rintro r st' ⟨e,j0,j1,j2,j3⟩
  (repeat' ((first|(refine zE ?_;intro J hJ)|(apply aD));simp[w6];refine zJ hJ ?_))
  refine hJJ (b' - m1) _ _ oO ⟨m1,b',YG,decide (z3<=z1),p,.nil,oO,oO,oO,rfl,?_⟩;refine PdI.mk (by simp[f0]) sS (by simp[f2]) (by simp[f3]) sS sS sS oO (aAp YE j3.1) (hof'.trans j3) j0 (hpm'.trans (j1.wide oO oO oO)) ?_ ?_
  .rw[z7];exact(k4.pmL j1).aheadR
  .intro y g1 g2;rw[z7]at g1 g2;refine Q0 y ((j1.wide oO oO oO).trans (g1.wide oO oO (by have:=j1.len;omega))) (((k4.pmL j1).pmR g1).glue (Srt.out j2 fun j e1 e2=>g1.out j oO) g2)
 .simp[hzz]
  (repeat' (first|apply qS|(refine zE ?_;intro J hJ;simp[f0,f2,f3,w6];(try refine zJ hJ ?_))))
  refine qE (ih d q m1 b' YG (bx st2 q d) oO oO oO oO (by rw[z7];exact k4.aheadR) oO YE sS) (by simp[f0,f1,f2,f3,u6,Xk]) ?_;rintro r st' ⟨e,j0,j1,j2,j3⟩
  (repeat' ((first|(refine zE ?_;intro J hJ)|(apply aD));simp[];refine zJ hJ ?_))
  rw[z7]at j1 j2;refine hJJ (YB-a') _ _ oO ⟨a',YB,YG,decide (z3<=z2),p,.nil,oO,oO,oO,rfl,?_⟩;refine PdI.mk (by simp[f0]) (by simp[f1]) sS (by simp[f3]) sS sS sS oO (aAp YE j3.1) (hof'.trans j3) j0 (hpm'.trans (j1.wide oO oO oO)) ?_ ?_
  .exact(hah'.pm (j1.wide oO oO oO)).less oO
  .intro y g1 g2;refine Q0 y ((j1.wide oO oO oO).trans (g1.wide oO oO (by have:=j1.len;omega))) (((k4.pmR j1).pmL g1).glue g2 (Srt.out j2 fun j e1 e2=>g1.out j oO))
theorem TK(l:List Int)(q:Nat)(st:St)(hl:l.length<65536)(Zv:q<st.next)(hH:st.H q=.box 34 1 (us l)):
 aB prog 79 [.ms q 0 l.length] st fun r st'=>∃ c,st'.H q=.box 34 1 (us c)/\c.Perm l/\c.Pairwise (·<=·)/\bK q st st':=by
 have w1:IntKind.u64.wrap (l.length:Int)=(l.length:Int):=wrap_u64 _ oO oO;have ZR:=(uU l.length oO).1;refine zN func79 ntmps79 [] ?_
 (repeat' (first|apply qS|(refine zE ?_;intro J hJ;simp[w1];(try refine zJ hJ ?_))))
 refine qF (Len l.length _ oO) ?_;rintro r st' ⟨rfl,rfl⟩
 (repeat' (apply aD;simp[]))
 refine qE (jP (l.length+1) l q 0 l.length (jO l.length) _ hl oO oO oO (fun h=>absurd h oO) oO Zv hH) (by simp[]) ?_;rintro r st' ⟨c,k1,k2,k3,k4⟩
 (repeat' (apply aD;simp[];refine zJ hJ ?_))
 have Xk:=k2.len;exact⟨trivial,c,k1,k2.perm,HF (by rw[Xk];exact k3),k4⟩
end Aw
end Go.Proofs.YtempldclppogmaaGreatDoor
