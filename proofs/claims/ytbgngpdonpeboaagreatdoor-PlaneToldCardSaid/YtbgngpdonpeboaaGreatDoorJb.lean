/- The library's sort: partition. Written by gensort.py. -/
import Derived.Test.YtbgngpdonpeboaaGreatDoorJa
import Derived.Test.YtbgngpdonpeboaaGreatDoorAwX
import Derived.Test.YtbgngpdonpeboaaGreatDoorAwSet
import Derived.Test.YtbgngpdonpeboaaGreatDoorAwFn
import Derived.Test.YtbgngpdonpeboaaGreatDoorAwShp
set_option linter.unusedVariables false
set_option linter.unusedSimpArgs false
set_option maxHeartbeats 4000000
open Go.Proofs.Tryz
namespace Go.Proofs.YtbgngpdonpeboaaGreatDoor
namespace Aw
open Go Go.RowKit Pl
def StU(P:Int->Bool)(c:List Int)(ii jj:Nat):Prop:=ii<=jj->P (c.getD ii 0)=false
def StD(P:Int->Bool)(c:List Int)(ii kk:Nat):Prop:=ii<=kk->P (c.getD kk 0)=true
theorem partition(l:List Int)(q a b pv:Nat)(st:St)(hl:small l)(x7:a<b)(hb:b<=l.length)(M7:a<=pv)(R6:pv<b)(hH:st.H q=.box 34 1 (us l)):
 aB prog 128 [.ms q 0 l.length,i a,i b,i pv] st fun r st'=>∃(c:List Int) (A7:Nat) (p:Bool),r=.tu [i A7,bb p]/\st'=bx st q c/\Pm a b l c/\a<=A7/\A7<b/\cT c a A7 b:=by
 unfold small at hl;refine zN func128 ntmps128 [.tmp 8,.tmp 9] ?_
 (repeat (apply qS));(refine zE ?_;intro J hJ;simp[];refine zJ hJ ?_)
 have Z9:a<l.length:=oO;have U5:pv<l.length:=oO;have H6:=fun x y=>Io st q l a pv (x:=x) (y:=y) oO oO;have hd0:=qG l a oO;have z7:=qG l pv oO;have r9:Pm a b l (sw l a pv):=Pm.one a pv oO oO oO oO oO;have hx:(sw l a pv).getD a 0=l.getD pv 0:=by
  rw[cQ _ _ _ _ oO oO];by_cases e:a=pv
  .rw[aAk e,e]
  .rw[aAa e,aAk rfl]
 generalize hy0:l.getD a 0=y0 at *;generalize hy1:l.getD pv 0=x at *;have G1:=H6 y0 x rfl rfl
 (repeat (apply qS));(refine zS [] [q] [0,2,4,6,8,10,12,14,16,18,20,22,24,27,28,31] ?_;intro J hJ;simp[hH,Z9,U5,hd0,z7];(repeat refine ca ?_);refine zJ hJ ?_)
 rw[G1];clear H6 G1 hd0 z7 hy0;generalize hc:sw l a pv=c at *;clear hc;have o8:=r9.len;have w1:=qN a oO;have w2:=aU b oO oO;obtain⟨P,hPd⟩:∃ P:Int->Bool,∀ v,P v=decide (v<x):=⟨_,fun _=>rfl⟩;apply qS;refine cF (fun fr st2=>fr 0=.ms q 0 l.length/\fr 1=i a/\fr 10=i ((a+1:Nat):Int)/\fr 11=i ((b-1:Nat):Int)/\st2=bx st q c) (by(refine zE ?_;intro J hJ;simp[w1,w2];refine zJ hJ ?_);simp) ?_;rintro fr st2 ⟨f0,f1,fI,fJ,rfl⟩;have hai:a<a+1:=oO;have hij:a+1<=b-1+1:=oO;have hjb:b-1<b:=oO;have N4:Lo P c a (a+1):=fun p h1 h2=>by omega
 have N3:Hi P c (b-1) b:=fun p h1 h2=>by omega
 generalize a+1=ii at *;generalize b-1=jj at *;clear w1 w2;have hd0:=qG c a oO;rw[hx]at hd0;apply qS;refine cF (fun fr st2=>∃ ii:Nat,a<ii/\ii<=jj+1/\fr 0=.ms q 0 l.length/\fr 1=i a/\fr 10=i ii/\fr 11=i jj/\st2=bx st q c/\Lo P c a ii/\StU P c ii jj) ?_ ?_
 .apply qB;refine qL (fun m fr st2=>∃ ii:Nat,a<ii/\ii<=jj+1/\m=jj+1-ii/\fr 0=.ms q 0 l.length/\fr 1=i a/\fr 10=i ii/\fr 11=i jj/\st2=bx st q c/\Lo P c a ii) (jj+1-ii) ?_ ?_
  .exact⟨ii,oO,oO,rfl,sF1 f0,sF1 f1,sF1 fI,sF1 fJ,rfl,N4⟩
  clear f0 f1 fI fJ N4 hai hij fr ii;rintro m fr st2 ⟨ii,hai,hij,rfl,f0,f1,fI,fJ,rfl,N4⟩ JJ hJJ;have hia:=qN ii oO;by_cases u9:ii<=jj;rotate_left
  .clear hJJ
   (repeat (apply qS));(refine zS [] [q] [0,2,4,6,8,10,12,14,16,18,20,22,25,26] ?_;intro J hJ;simp[f0,f1,fI,fJ,u9];refine zJ hJ ?_)
   refine xw0 ?_;exact⟨trivial,ii,oO,oO,sF1 f0,sF1 f1,sF1 fI,sF1 fJ,by trivial,N4,fun h=>absurd h u9⟩
  have hli:ii<l.length:=oO;have z7:=qG c ii oO;have hmo:=N4.more;generalize hy:c.getD ii 0=y at *
  (repeat (apply qS));(refine zS [] [q] [0,2,4,6,8,10,12,14,16,18,20,22,25,26] ?_;intro J hJ;simp[f0,f1,fI,fJ,u9,hli,Z9,o8,hd0,z7])
  refine aO (tK y x _) ?_;rintro r s2 ⟨rfl,rfl⟩;refine⟨fun _=>by simp,?_⟩;have hP:=hPd y;by_cases M3:y<x
  ·(apply bL;simp[M3];refine zJ hJ ?_)
   refine xw2 fI hia ?_;exact hJJ (jj+1-(ii+1)) _ _ oO ⟨ii+1,oO,oO,rfl,sF1 f0,sF1 f1,sS,sF1 fJ,rfl,hmo (by rw[hP];simp[M3])⟩
  .clear hJJ
   (apply bL;simp[M3];refine zJ hJ ?_)
   refine xw0 ?_;exact⟨trivial,ii,oO,oO,sF1 f0,sF1 f1,sF1 fI,sF1 fJ,by trivial,N4,fun _=>by rw[hy,hP];simp[M3]⟩
 clear f0 f1 fI fJ N4 hai hij fr ii;rintro fr st2 ⟨ii,hai,hij,f0,f1,fI,fJ,rfl,N4,z8⟩;apply qS;refine cF (fun fr st2=>∃ kk:Nat,a<=kk/\kk<=jj/\ii<=kk+1/\fr 0=.ms q 0 l.length/\fr 1=i a/\fr 10=i ii/\fr 11=i kk/\st2=bx st q c/\Hi P c kk b/\StD P c ii kk) ?_ ?_
 .apply qB;refine qL (fun m fr st2=>∃ kk:Nat,a<=kk/\kk<=jj/\ii<=kk+1/\kk=m/\fr 0=.ms q 0 l.length/\fr 1=i a/\fr 10=i ii/\fr 11=i kk/\st2=bx st q c/\Hi P c kk b) jj ?_ ?_
  .exact⟨jj,oO,oO,oO,rfl,sF1 f0,sF1 f1,sF1 fI,sF1 fJ,rfl,N3⟩
  clear f0 f1 fI fJ N3 fr;rintro m fr st2 ⟨kk,hak,hkj,hik,rfl,f0,f1,fI,fJ,rfl,N3⟩ JJ hJJ;by_cases u9:ii<=kk;rotate_left
  .clear hJJ
   (repeat (apply qS));(refine zS [] [q] [0,2,4,6,8,10,12,14,16,18,20,22,25,26,28] ?_;intro J hJ;simp[f0,f1,fI,fJ,u9];refine zJ hJ ?_)
   refine xw0 ?_;exact⟨trivial,kk,oO,oO,oO,sF1 f0,sF1 f1,sF1 fI,sF1 fJ,by trivial,N3,fun h=>absurd h u9⟩
  have hja:=aU kk oO oO;have hlj:kk<l.length:=oO;have z7:=qG c kk oO;have hmo:=N3.more;generalize hy:c.getD kk 0=y at *
  (repeat (apply qS));(refine zS [] [q] [0,2,4,6,8,10,12,14,16,18,20,22,25,26,28] ?_;intro J hJ;simp[f0,f1,fI,fJ,u9,hlj,Z9,o8,hd0,z7])
  refine aO (tK y x _) ?_;rintro r s2 ⟨rfl,rfl⟩;refine⟨fun _=>by simp,?_⟩;have hP:=hPd y;by_cases M3:y<x
  .clear hJJ
   (apply bL;simp[M3];refine zJ hJ ?_)
   refine xw0 ?_;exact⟨trivial,kk,oO,oO,oO,sF1 f0,sF1 f1,sF1 fI,sF1 fJ,by trivial,N3,fun _=>by rw[hy,hP];simp[M3]⟩
  ·(apply bL;simp[M3];refine zJ hJ ?_)
   refine xw2 fJ hja ?_;exact hJJ (kk-1) _ _ oO ⟨kk-1,oO,oO,oO,rfl,sF1 f0,sF1 f1,sF1 fI,sS,rfl,hmo oO (by rw[hP];simp[M3])⟩
 clear f0 f1 fI fJ N3 fr;rintro fr st2 ⟨kk,hak,hkj,hik,f0,f1,fI,fJ,rfl,N3,Q9⟩;by_cases u9:ii<=kk;rotate_left
 .have hke:ii=kk+1:=oO;have M8:=xM (hke ▸ N4) N3 oO oO oO;have H9:=r9.step kk a oO oO oO oO oO;have V2:kk<l.length:=oO;have z7:=qG c kk oO;have H6:=fun x y=>mL st q c kk a (x:=x) (y:=y) oO oO;generalize hy1:c.getD kk 0=y1 at *;have G1:=H6 y1 x rfl hx
  (repeat' (first|apply qS|(apply qC;simp[f0,f1,fI,fJ,u9];(try with_reducible intro hc))|(refine zE ?_;intro J hJ;simp[f0,f1,fI,fJ,u9];refine zJ hJ ?_)))
  (refine zS [] [q] [0,2,4,6,8,10,12,14,16,18,20,22,24,27,28,31] ?_;intro J hJ;simp[f0,f1,fI,fJ,Z9,V2,o8,hd0,z7];(repeat refine ca ?_);refine zJ hJ ?_)
  refine xw4 f0 f1 fI fJ ?_;exact⟨_,kk,rfl,G1,H9,oO,oO,by unfold cT;rw[M8.2,hx];have h:=M8.1;rwa [show P=_ from funext hPd]at h⟩
 have hik2:ii<kk:=by
  rcases aAK ii kk with h|h
  .exact h
  .exfalso;have e:ii=kk:=oO;have h1:=z8 oO;have h2:=Q9 u9;rw[e,h2]at h1;cases h1
 have hLo2:=N4.swp hik2 oO (Q9 u9);have hHi2:=N3.swp hik2 oO (z8 oO);have H9:=r9.step ii kk oO oO oO oO oO;have hxx:(sw c ii kk).getD a 0=x:=by rw[cQ _ _ _ _ oO oO,aAa oO,aAa oO];exact hx
 have hli:ii<l.length:=oO;have V2:kk<l.length:=oO;have z7:=qG c ii oO;have F7:=qG c kk oO;have H6:=fun x y=>mL st q c ii kk (x:=x) (y:=y) oO oO;have hia:=qN ii oO;have hka:=aU kk oO oO;clear z8 Q9;generalize hy1:c.getD ii 0=y1 at *;generalize P8:c.getD kk 0=y2 at *;have G1:=H6 y1 y2 rfl rfl
 (repeat' (first|apply qS|refine qK (zZ ?_)|(apply qC;simp[f0,f1,fI,fJ,u9];(try with_reducible refine⟨?_,?_⟩)<;>(try with_reducible intro hc)<;>try (exfalso;omega))|(refine zE ?_;intro J hJ;simp[f0,f1,fI,fJ,u9];refine zJ hJ ?_)))
 (refine zS [] [q] [0,2,4,6,8,10,12,14,16,18,20,22,24,27,28,31] ?_;intro J hJ;simp[f0,f1,fI,fJ,hli,V2,o8,z7,F7];(repeat refine ca ?_);refine zJ hJ ?_)
 refine xw4 fI fJ hia hka ?_;rw[G1];refine qL (fun m fr st2=>∃(ii jj:Nat) (c:List Int),a<ii/\ii<=jj+1/\jj<b/\jj=m/\fr 0=.ms q 0 l.length/\fr 1=i a/\fr 10=i ii/\fr 11=i jj/\st2=bx st q c/\Pm a b l c/\c.getD a 0=x/\Lo P c a ii/\Hi P c jj b) (kk-1) ?_ ?_
 .exact⟨ii+1,kk-1,sw c ii kk,oO,oO,oO,rfl,sF1 f0,sF1 f1,sS,sS,rfl,H9,hxx,hLo2,hHi2⟩
 clear f0 f1 fI fJ N4 N3 hLo2 hHi2 r9 H9 hx hxx o8 hd0 z7 F7 H6 G1 hy1 P8 y1 y2 hai hij hak hik hik2 hli V2 hia hka u9 hkj hjb ii jj kk c fr;rintro m fr st2 ⟨ii,jj,c,hai,hij,hjb,rfl,f0,f1,fI,fJ,rfl,r9,hx,N4,N3⟩ JJ0 hJ0;have o8:=r9.len;have hd0:=qG c a oO;rw[hx]at hd0;apply qB;apply qS;refine cF (fun fr st2=>∃ ii:Nat,a<ii/\ii<=jj+1/\fr 0=.ms q 0 l.length/\fr 1=i a/\fr 10=i ii/\fr 11=i jj/\st2=bx st q c/\Lo P c a ii/\StU P c ii jj) ?_ ?_
 .apply qB;refine qL (fun m fr st2=>∃ ii:Nat,a<ii/\ii<=jj+1/\m=jj+1-ii/\fr 0=.ms q 0 l.length/\fr 1=i a/\fr 10=i ii/\fr 11=i jj/\st2=bx st q c/\Lo P c a ii) (jj+1-ii) ?_ ?_
  .exact⟨ii,oO,oO,rfl,sF1 f0,sF1 f1,sF1 fI,sF1 fJ,rfl,N4⟩
  clear f0 f1 fI fJ N4 hai hij fr ii;rintro m fr st2 ⟨ii,hai,hij,rfl,f0,f1,fI,fJ,rfl,N4⟩ JJ hJJ;have hia:=qN ii oO;by_cases u9:ii<=jj;rotate_left
  .clear hJJ
   (repeat (apply qS));(refine zS [] [q] [0,2,4,6,8,10,12,14,16,18,20,22,25,26] ?_;intro J hJ;simp[f0,f1,fI,fJ,u9];refine zJ hJ ?_)
   refine xw0 ?_;exact⟨trivial,ii,oO,oO,sF1 f0,sF1 f1,sF1 fI,sF1 fJ,by trivial,N4,fun h=>absurd h u9⟩
  have hli:ii<l.length:=oO;have z7:=qG c ii oO;have hmo:=N4.more;generalize hy:c.getD ii 0=y at *
  (repeat (apply qS));(refine zS [] [q] [0,2,4,6,8,10,12,14,16,18,20,22,25,26] ?_;intro J hJ;simp[f0,f1,fI,fJ,u9,hli,Z9,o8,hd0,z7])
  refine aO (tK y x _) ?_;rintro r s2 ⟨rfl,rfl⟩;refine⟨fun _=>by simp,?_⟩;have hP:=hPd y;by_cases M3:y<x
  ·(apply bL;simp[M3];refine zJ hJ ?_)
   refine xw2 fI hia ?_;exact hJJ (jj+1-(ii+1)) _ _ oO ⟨ii+1,oO,oO,rfl,sF1 f0,sF1 f1,sS,sF1 fJ,rfl,hmo (by rw[hP];simp[M3])⟩
  .clear hJJ
   (apply bL;simp[M3];refine zJ hJ ?_)
   refine xw0 ?_;exact⟨trivial,ii,oO,oO,sF1 f0,sF1 f1,sF1 fI,sF1 fJ,by trivial,N4,fun _=>by rw[hy,hP];simp[M3]⟩
 clear f0 f1 fI fJ N4 hai hij fr ii;rintro fr st2 ⟨ii,hai,hij,f0,f1,fI,fJ,rfl,N4,z8⟩;apply qS;refine cF (fun fr st2=>∃ kk:Nat,a<=kk/\kk<=jj/\ii<=kk+1/\fr 0=.ms q 0 l.length/\fr 1=i a/\fr 10=i ii/\fr 11=i kk/\st2=bx st q c/\Hi P c kk b/\StD P c ii kk) ?_ ?_
 .apply qB;refine qL (fun m fr st2=>∃ kk:Nat,a<=kk/\kk<=jj/\ii<=kk+1/\kk=m/\fr 0=.ms q 0 l.length/\fr 1=i a/\fr 10=i ii/\fr 11=i kk/\st2=bx st q c/\Hi P c kk b) jj ?_ ?_
  .exact⟨jj,oO,oO,oO,rfl,sF1 f0,sF1 f1,sF1 fI,sF1 fJ,rfl,N3⟩
  clear f0 f1 fI fJ N3 fr;rintro m fr st2 ⟨kk,hak,hkj,hik,rfl,f0,f1,fI,fJ,rfl,N3⟩ JJ hJJ;by_cases u9:ii<=kk;rotate_left
  .clear hJJ
   (repeat (apply qS));(refine zS [] [q] [0,2,4,6,8,10,12,14,16,18,20,22,25,26,28] ?_;intro J hJ;simp[f0,f1,fI,fJ,u9];refine zJ hJ ?_)
   refine xw0 ?_;exact⟨trivial,kk,oO,oO,oO,sF1 f0,sF1 f1,sF1 fI,sF1 fJ,by trivial,N3,fun h=>absurd h u9⟩
  have hja:=aU kk oO oO;have hlj:kk<l.length:=oO;have z7:=qG c kk oO;have hmo:=N3.more;generalize hy:c.getD kk 0=y at *
  (repeat (apply qS));(refine zS [] [q] [0,2,4,6,8,10,12,14,16,18,20,22,25,26,28] ?_;intro J hJ;simp[f0,f1,fI,fJ,u9,hlj,Z9,o8,hd0,z7])
  refine aO (tK y x _) ?_;rintro r s2 ⟨rfl,rfl⟩;refine⟨fun _=>by simp,?_⟩;have hP:=hPd y;by_cases M3:y<x
  .clear hJJ
   (apply bL;simp[M3];refine zJ hJ ?_)
   refine xw0 ?_;exact⟨trivial,kk,oO,oO,oO,sF1 f0,sF1 f1,sF1 fI,sF1 fJ,by trivial,N3,fun _=>by rw[hy,hP];simp[M3]⟩
  ·(apply bL;simp[M3];refine zJ hJ ?_)
   refine xw2 fJ hja ?_;exact hJJ (kk-1) _ _ oO ⟨kk-1,oO,oO,oO,rfl,sF1 f0,sF1 f1,sF1 fI,sS,rfl,hmo oO (by rw[hP];simp[M3])⟩
 clear f0 f1 fI fJ N3 fr;rintro fr st2 ⟨kk,hak,hkj,hik,f0,f1,fI,fJ,rfl,N3,Q9⟩;by_cases u9:ii<=kk;rotate_left
 .clear hJ0;have hke:ii=kk+1:=oO;have M8:=xM (hke ▸ N4) N3 oO oO oO;have H9:=r9.step kk a oO oO oO oO oO;have V2:kk<l.length:=oO;have z7:=qG c kk oO;have H6:=fun x y=>mL st q c kk a (x:=x) (y:=y) oO oO;generalize hy1:c.getD kk 0=y1 at *;have G1:=H6 y1 x rfl hx
  (repeat' (first|apply qS|refine qX (zZ ?_)|(apply qC;simp[f0,f1,fI,fJ,u9];(try with_reducible intro hc))|(refine zE ?_;intro J hJ;simp[f0,f1,fI,fJ,u9];refine zJ hJ ?_)))
  (refine zS [] [q] [0,2,4,6,8,10,12,14,16,18,20,22,24,27,28,31] ?_;intro J hJ;simp[f0,f1,fI,fJ,Z9,V2,o8,hd0,z7];(repeat refine ca ?_);refine zJ hJ ?_)
  refine xw4 f0 f1 fI fJ ?_;exact⟨_,kk,rfl,G1,H9,oO,oO,by unfold cT;rw[M8.2,hx];have h:=M8.1;rwa [show P=_ from funext hPd]at h⟩
 have hik2:ii<kk:=by
  rcases aAK ii kk with h|h
  .exact h
  .exfalso;have e:ii=kk:=oO;have h1:=z8 oO;have h2:=Q9 u9;rw[e,h2]at h1;cases h1
 have hLo2:=N4.swp hik2 oO (Q9 u9);have hHi2:=N3.swp hik2 oO (z8 oO);have H9:=r9.step ii kk oO oO oO oO oO;have hxx:(sw c ii kk).getD a 0=x:=by rw[cQ _ _ _ _ oO oO,aAa oO,aAa oO];exact hx
 have hli:ii<l.length:=oO;have V2:kk<l.length:=oO;have z7:=qG c ii oO;have F7:=qG c kk oO;have H6:=fun x y=>mL st q c ii kk (x:=x) (y:=y) oO oO;have hia:=qN ii oO;have hka:=aU kk oO oO;clear z8 Q9;generalize hy1:c.getD ii 0=y1 at *;generalize P8:c.getD kk 0=y2 at *;have G1:=H6 y1 y2 rfl rfl
 (repeat' (first|apply qS|refine qK (zZ ?_)|(apply qC;simp[f0,f1,fI,fJ,u9];(try with_reducible refine⟨?_,?_⟩)<;>(try with_reducible intro hc)<;>try (exfalso;omega))|(refine zE ?_;intro J hJ;simp[f0,f1,fI,fJ,u9];refine zJ hJ ?_)))
 (refine zS [] [q] [0,2,4,6,8,10,12,14,16,18,20,22,24,27,28,31] ?_;intro J hJ;simp[f0,f1,fI,fJ,hli,V2,o8,z7,F7];(repeat refine ca ?_);refine zJ hJ ?_)
 refine xw4 fI fJ hia hka ?_;exact hJ0 (kk-1) _ _ oO ⟨ii+1,kk-1,sw c ii kk,oO,oO,oO,rfl,sF1 f0,sF1 f1,sS,sS,G1,H9,hxx,hLo2,hHi2⟩
theorem partitionEqual(l:List Int)(q a b pv:Nat)(st:St)(hl:small l)(x7:a<b)(hb:b<=l.length)(M7:a<=pv)(R6:pv<b)(hH:st.H q=.box 34 1 (us l)):
 aB prog 127 [.ms q 0 l.length,i a,i b,i pv] st fun r st'=>∃(c:List Int) (A7:Nat),r=i A7/\st'=bx st q c/\Pm a b l c/\a<A7/\A7<=b/\GU c a A7 b (l.getD pv 0):=by
 unfold small at hl;refine zN func127 ntmps127 [.tmp 8] ?_
 (repeat (apply qS));(refine zE ?_;intro J hJ;simp[];refine zJ hJ ?_)
 have Z9:a<l.length:=oO;have U5:pv<l.length:=oO;have H6:=fun x y=>Io st q l a pv (x:=x) (y:=y) oO oO;have hd0:=qG l a oO;have z7:=qG l pv oO;have r9:Pm a b l (sw l a pv):=Pm.one a pv oO oO oO oO oO;have hx:(sw l a pv).getD a 0=l.getD pv 0:=by
  rw[cQ _ _ _ _ oO oO];by_cases e:a=pv
  .rw[aAk e,e]
  .rw[aAa e,aAk rfl]
 generalize hy0:l.getD a 0=y0 at *;generalize hy1:l.getD pv 0=x at *;have G1:=H6 y0 x rfl rfl
 (repeat (apply qS));(refine zS [] [q] [0,2,4,6,8,10,12,14,16,18,20,22,24,27,28,31] ?_;intro J hJ;simp[hH,Z9,U5,hd0,z7];(repeat refine ca ?_);refine zJ hJ ?_)
 rw[G1];clear H6 G1 hd0 z7 hy0;generalize hc:sw l a pv=c at *;clear hc;have o8:=r9.len;have w1:=qN a oO;have w2:=aU b oO oO;obtain⟨P,hPd⟩:∃ P:Int->Bool,∀ v,P v=!decide (x<v):=⟨_,fun _=>rfl⟩;apply qS;refine cF (fun fr st2=>fr 0=.ms q 0 l.length/\fr 1=i a/\fr 9=i ((a+1:Nat):Int)/\fr 10=i ((b-1:Nat):Int)/\st2=bx st q c) (by(refine zE ?_;intro J hJ;simp[w1,w2];refine zJ hJ ?_);simp) ?_;rintro fr st2 ⟨f0,f1,fI,fJ,rfl⟩;have hai:a<a+1:=oO;have hij:a+1<=b-1+1:=oO;have hjb:b-1<b:=oO;have N4:Lo P c a (a+1):=fun p h1 h2=>by omega
 have N3:Hi P c (b-1) b:=fun p h1 h2=>by omega
 generalize a+1=ii at *;generalize b-1=jj at *;clear w1 w2;have hd0:=qG c a oO;rw[hx]at hd0;apply qS;apply qB;refine qL (fun m fr st2=>∃(ii jj:Nat) (c:List Int),a<ii/\ii<=jj+1/\jj<b/\jj=m/\fr 0=.ms q 0 l.length/\fr 1=i a/\fr 9=i ii/\fr 10=i jj/\st2=bx st q c/\Pm a b l c/\c.getD a 0=x/\Lo P c a ii/\Hi P c jj b) jj ?_ ?_
 .exact⟨ii,jj,c,oO,oO,oO,rfl,f0,f1,fI,fJ,rfl,r9,hx,N4,N3⟩
 clear f0 f1 fI fJ N4 N3 r9 hx o8 hd0 hai hij hjb ii jj c fr;rintro m fr st2 ⟨ii,jj,c,hai,hij,hjb,rfl,f0,f1,fI,fJ,rfl,r9,hx,N4,N3⟩ JJ0 hJ0;have o8:=r9.len;have hd0:=qG c a oO;rw[hx]at hd0;apply qB;apply qS;refine cF (fun fr st2=>∃ ii:Nat,a<ii/\ii<=jj+1/\fr 0=.ms q 0 l.length/\fr 1=i a/\fr 9=i ii/\fr 10=i jj/\st2=bx st q c/\Lo P c a ii/\StU P c ii jj) ?_ ?_
 .apply qB;refine qL (fun m fr st2=>∃ ii:Nat,a<ii/\ii<=jj+1/\m=jj+1-ii/\fr 0=.ms q 0 l.length/\fr 1=i a/\fr 9=i ii/\fr 10=i jj/\st2=bx st q c/\Lo P c a ii) (jj+1-ii) ?_ ?_
  .exact⟨ii,oO,oO,rfl,sF1 f0,sF1 f1,sF1 fI,sF1 fJ,rfl,N4⟩
  clear f0 f1 fI fJ N4 hai hij fr ii;rintro m fr st2 ⟨ii,hai,hij,rfl,f0,f1,fI,fJ,rfl,N4⟩ JJ hJJ;have hia:=qN ii oO;by_cases u9:ii<=jj;rotate_left
  .clear hJJ
   (repeat (apply qS));(refine zS [] [q] [0,2,4,6,8,10,12,14,16,18,20,22,25,26,28] ?_;intro J hJ;simp[f0,f1,fI,fJ,u9];refine zJ hJ ?_)
   refine xw0 ?_;exact⟨trivial,ii,oO,oO,sF1 f0,sF1 f1,sF1 fI,sF1 fJ,by trivial,N4,fun h=>absurd h u9⟩
  have hli:ii<l.length:=oO;have z7:=qG c ii oO;have hmo:=N4.more;generalize hy:c.getD ii 0=y at *
  (repeat (apply qS));(refine zS [] [q] [0,2,4,6,8,10,12,14,16,18,20,22,25,26,28] ?_;intro J hJ;simp[f0,f1,fI,fJ,u9,hli,Z9,o8,hd0,z7])
  refine aO (tK x y _) ?_;rintro r s2 ⟨rfl,rfl⟩;refine⟨fun _=>by simp,?_⟩;have hP:=hPd y;by_cases M3:x<y
  .clear hJJ
   (apply bL;simp[M3];refine zJ hJ ?_)
   refine xw0 ?_;exact⟨trivial,ii,oO,oO,sF1 f0,sF1 f1,sF1 fI,sF1 fJ,by trivial,N4,fun _=>by rw[hy,hP];simp[M3]⟩
  ·(apply bL;simp[M3];refine zJ hJ ?_)
   refine xw2 fI hia ?_;exact hJJ (jj+1-(ii+1)) _ _ oO ⟨ii+1,oO,oO,rfl,sF1 f0,sF1 f1,sS,sF1 fJ,rfl,hmo (by rw[hP];simp[M3])⟩
 clear f0 f1 fI fJ N4 hai hij fr ii;rintro fr st2 ⟨ii,hai,hij,f0,f1,fI,fJ,rfl,N4,z8⟩;apply qS;refine cF (fun fr st2=>∃ kk:Nat,a<=kk/\kk<=jj/\ii<=kk+1/\fr 0=.ms q 0 l.length/\fr 1=i a/\fr 9=i ii/\fr 10=i kk/\st2=bx st q c/\Hi P c kk b/\StD P c ii kk) ?_ ?_
 .apply qB;refine qL (fun m fr st2=>∃ kk:Nat,a<=kk/\kk<=jj/\ii<=kk+1/\kk=m/\fr 0=.ms q 0 l.length/\fr 1=i a/\fr 9=i ii/\fr 10=i kk/\st2=bx st q c/\Hi P c kk b) jj ?_ ?_
  .exact⟨jj,oO,oO,oO,rfl,sF1 f0,sF1 f1,sF1 fI,sF1 fJ,rfl,N3⟩
  clear f0 f1 fI fJ N3 fr;rintro m fr st2 ⟨kk,hak,hkj,hik,rfl,f0,f1,fI,fJ,rfl,N3⟩ JJ hJJ;by_cases u9:ii<=kk;rotate_left
  .clear hJJ
   (repeat (apply qS));(refine zS [] [q] [0,2,4,6,8,10,12,14,16,18,20,22,25,26] ?_;intro J hJ;simp[f0,f1,fI,fJ,u9];refine zJ hJ ?_)
   refine xw0 ?_;exact⟨trivial,kk,oO,oO,oO,sF1 f0,sF1 f1,sF1 fI,sF1 fJ,by trivial,N3,fun h=>absurd h u9⟩
  have hja:=aU kk oO oO;have hlj:kk<l.length:=oO;have z7:=qG c kk oO;have hmo:=N3.more;generalize hy:c.getD kk 0=y at *
  (repeat (apply qS));(refine zS [] [q] [0,2,4,6,8,10,12,14,16,18,20,22,25,26] ?_;intro J hJ;simp[f0,f1,fI,fJ,u9,hlj,Z9,o8,hd0,z7])
  refine aO (tK x y _) ?_;rintro r s2 ⟨rfl,rfl⟩;refine⟨fun _=>by simp,?_⟩;have hP:=hPd y;by_cases M3:x<y
  ·(apply bL;simp[M3];refine zJ hJ ?_)
   refine xw2 fJ hja ?_;exact hJJ (kk-1) _ _ oO ⟨kk-1,oO,oO,oO,rfl,sF1 f0,sF1 f1,sF1 fI,sS,rfl,hmo oO (by rw[hP];simp[M3])⟩
  .clear hJJ
   (apply bL;simp[M3];refine zJ hJ ?_)
   refine xw0 ?_;exact⟨trivial,kk,oO,oO,oO,sF1 f0,sF1 f1,sF1 fI,sF1 fJ,by trivial,N3,fun _=>by rw[hy,hP];simp[M3]⟩
 clear f0 f1 fI fJ N3 fr;rintro fr st2 ⟨kk,hak,hkj,hik,f0,f1,fI,fJ,rfl,N3,Q9⟩;by_cases u9:ii<=kk;rotate_left
 .clear hJ0
  (repeat' (first|apply qS|refine qX (zZ ?_)|(refine qR (zZ ?_);simp[f0,f1,fI,fJ,u9])|(apply qC;simp[f0,f1,fI,fJ,u9];(try with_reducible intro hc))|(refine zE ?_;intro J hJ;simp[f0,f1,fI,fJ,u9];refine zJ hJ ?_)))
  refine⟨c,ii,rfl,rfl,r9,oO,oO,fun p h1 h2=>?_,fun p h1 h2=>?_⟩
  .by_cases e:p=a
   .rw[e,hx];exact aCV _
   .have:=N4 p oO h2;rw[hPd]at this;simpa using this
  .have:=N3 p oO h2;rw[hPd]at this;simpa using this
 have hik2:ii<kk:=by
  rcases aAK ii kk with h|h
  .exact h
  .exfalso;have e:ii=kk:=oO;have h1:=z8 oO;have h2:=Q9 u9;rw[e,h2]at h1;cases h1
 have hLo2:=N4.swp hik2 oO (Q9 u9);have hHi2:=N3.swp hik2 oO (z8 oO);have H9:=r9.step ii kk oO oO oO oO oO;have hxx:(sw c ii kk).getD a 0=x:=by rw[cQ _ _ _ _ oO oO,aAa oO,aAa oO];exact hx
 have hli:ii<l.length:=oO;have V2:kk<l.length:=oO;have z7:=qG c ii oO;have F7:=qG c kk oO;have H6:=fun x y=>mL st q c ii kk (x:=x) (y:=y) oO oO;have hia:=qN ii oO;have hka:=aU kk oO oO;clear z8 Q9;generalize hy1:c.getD ii 0=y1 at *;generalize P8:c.getD kk 0=y2 at *;have G1:=H6 y1 y2 rfl rfl
 (repeat' (first|apply qS|refine qK (zZ ?_)|(apply qC;simp[f0,f1,fI,fJ,u9];(try with_reducible refine⟨?_,?_⟩)<;>(try with_reducible intro hc)<;>try (exfalso;omega))|(refine zE ?_;intro J hJ;simp[f0,f1,fI,fJ,u9];refine zJ hJ ?_)))
 (refine zS [] [q] [0,2,4,6,8,10,12,14,16,18,20,22,24,27,28,31] ?_;intro J hJ;simp[f0,f1,fI,fJ,hli,V2,o8,z7,F7];(repeat refine ca ?_);refine zJ hJ ?_)
 refine xw4 fI fJ hia hka ?_;exact hJ0 (kk-1) _ _ oO ⟨ii+1,kk-1,sw c ii kk,oO,oO,oO,rfl,sF1 f0,sF1 f1,sS,sS,G1,H9,hxx,hLo2,hHi2⟩
def oP(l:List Int)(a b:Nat):Prop:=0<a->∀ j,a<=j->j<b->l.getD (a-1) 0<=l.getD j 0
theorem oP.pm{l c:List Int}{a b:Nat}(h:oP l a b)(k:Pm a b l c):oP c a b:=by intro h0 j h1 h2;rw[k.out (a-1) oO];exact k.all (fun x=>l.getD (a-1) 0<=x) (fun j h1 h2=>h h0 j h1 h2) j h1 h2
def YG(c:List Int)(k b:Nat):Prop:=k<b->c.getD k 0<c.getD (k-1) 0
def Xf(p:Bool)(a b:Nat)(c:List Int):Prop:=p=true->Srt a b c
def UI(q a b k j:Nat)(l:List Int)(st:St)(fr:Frm)(st2:St):Prop:=∃ c:List Int,fr 0=.ms q 0 l.length/\fr 1=i a/\fr 2=i b/\fr 7=i k/\fr 8=i j/\st2=bx st q c/\Pm a b l c/\Srt a k c
theorem partialInsertionSort(l:List Int)(q a b:Nat)(st:St)(hl:small l)(ha:a<b)(hb:b<=l.length)(hah:oP l a b)(hH:st.H q=.box 34 1 (us l)):
 aB prog 125 [.ms q 0 l.length,i a,i b] st fun r st'=>∃ c p,r=bb p/\st'=bx st q c/\Pm a b l c/\Xf p a b c:=by
 unfold small at hl;refine zN func125 ntmps125 [.tmp 6] ?_;have hw0:=qN a oO;refine xw1 hw0 ?_;refine qL (fun n fr st2=>∃(j k:Nat) (c:List Int),j<=5/\n=5-j/\a<k/\k<=b/\fr 0=.ms q 0 l.length/\fr 1=i a/\fr 2=i b/\fr 7=i k/\fr 8=i j/\st2=bx st q c/\Pm a b l c/\Srt a k c) 5 ?_ ?_
 .exact⟨0,a+1,l,oO,rfl,oO,oO,sS,sS,sS,sS,sS,tR hH,.refl,fun p q h1 h2 h3=>by omega⟩
 rintro n fr st2 ⟨j,k,c,hj,rfl,hak,hkb,f0,f1,f2,f7,f8,rfl,r9,hs⟩ J0 hJ0;by_cases hj5:(j:Int)<5;rotate_left
 .clear hJ0;refine xw2 f8 hj5 ?_;exact⟨c,rfl,r9,fun h=>by cases h⟩
 have o8:=r9.len
 (repeat (apply qS));(refine zE ?_;intro J hJ;simp[f8,hj5];refine zJ hJ ?_)
 (apply qC;simp[])
 refine qK (zZ ?_);apply qS;apply qB;apply qS;refine cF (fun fr st2=>∃ k:Nat,a<k/\k<=b/\fr 0=.ms q 0 l.length/\fr 1=i a/\fr 2=i b/\fr 7=i k/\fr 8=i j/\st2=bx st q c/\Srt a k c/\YG c k b) ?_ ?_
 .apply qB;refine qL (fun n fr st2=>∃ k:Nat,n=b-k/\a<k/\k<=b/\fr 0=.ms q 0 l.length/\fr 1=i a/\fr 2=i b/\fr 7=i k/\fr 8=i j/\st2=bx st q c/\Srt a k c) (b-k) ?_ ?_
  .exact⟨k,rfl,hak,hkb,sF1 f0,sF1 f1,sF1 f2,sF1 f7,sF1 f8,rfl,hs⟩
  clear f0 f1 f2 f7 f8 hs hak hkb fr k;rintro n fr st2 ⟨k,rfl,hak,hkb,f0,f1,f2,f7,f8,rfl,hs⟩ JJ hJJ;by_cases dQ:k<b;rotate_left
  .clear hJJ
   (repeat (apply qS));(refine zS [] [q] [0,2,4,6,8,10,12,14,16,18,20,22,24,27,28,30] ?_;intro J hJ;simp[f0,f2,f7,dQ];refine zJ hJ ?_)
   refine xw0 ?_;exact⟨trivial,k,oO,oO,sF1 f0,sF1 f1,sF1 f2,sF1 f7,sF1 f8,by trivial,hs,fun h=>absurd h dQ⟩
  have w1:=qN k oO;have w2:=aU k oO oO;have z7:=qG c k oO;have F7:=qG c (k-1) oO;have hl1:k<l.length:=oO;have Y1:k-1<l.length:=oO;have c8:=hs.ins.done oO;generalize hx:c.getD k 0=x at *;generalize hy:c.getD (k-1) 0=y at *
  (repeat (apply qS));(refine zS [] [q] [0,2,4,6,8,10,12,14,16,18,20,22,24,27,28,30] ?_;intro J hJ;simp[f0,f2,f7,dQ,w2,hl1,Y1,o8,z7,F7])
  refine aO (tK x y _) ?_;rintro r s2 ⟨rfl,rfl⟩;refine⟨fun _=>by simp,?_⟩;by_cases D4:x<y
  .clear hJJ
   (apply bL;simp[D4];refine zJ hJ ?_)
   refine xw0 ?_;exact⟨trivial,k,oO,oO,sF1 f0,sF1 f1,sF1 f2,sF1 f7,sF1 f8,by trivial,hs,fun h=>by rw[hx,hy];exact D4⟩
  ·(apply bL;simp[D4];refine zJ hJ ?_)
   refine xw2 f7 w1 ?_;exact hJJ (b-(k+1)) _ _ oO ⟨k+1,rfl,oO,oO,sF1 f0,sF1 f1,sF1 f2,sS,sF1 f8,rfl,c8 (.inr D4)⟩
 clear f0 f1 f2 f7 f8 hs hak hkb fr k;rintro fr st2 ⟨k,hak,hkb,f0,f1,f2,f7,f8,rfl,hs,hfall⟩;by_cases hkb2:k=b
 .clear hJ0;have hkb3:(k:Int)=(b:Int):=oO;refine xw3 f2 f7 hkb3 ?_;exact⟨c,rfl,r9,fun _=>by rw[<- hkb2];exact hs⟩
 have hkb3:¬(k:Int)=(b:Int):=oO;have w1:IntKind.i64.wrap ((b:Int)-(a:Int))=(b:Int)-(a:Int):=zW;by_cases h50:(b:Int)-(a:Int)<50
 .clear hJ0;refine xw6 f1 f2 f7 hkb3 w1 h50 ?_;exact⟨c,rfl,r9,fun h=>by cases h⟩
 have w2:=aU k oO oO;have z7:=qG c k oO;have F7:=qG c (k-1) oO;have hl1:k<l.length:=oO;have Y1:k-1<l.length:=oO;have H6:=fun x y=>mL st q c k (k-1) (x:=x) (y:=y) oO oO;have V5:Srt a (k-1) (sw c k (k-1)):=by intro p q h1 h2 h3;rw[cQ _ _ _ _ oO oO,cQ _ _ _ _ oO oO,aAa oO,aAa oO,aAa oO,aAa oO];exact hs p q h1 h2 oO
 have S6:=r9.step k (k-1) oO oO oO oO oO;generalize hx:c.getD k 0=x at *;generalize hy:c.getD (k-1) 0=y at *;have G1:=H6 x y rfl rfl;refine xw6 f1 f2 f7 hkb3 w1 h50 ?_
 (refine zS [] [q] [0,2,4,6,8,10,12,14,16,18,20,22,24,26,28,31,32,35] ?_;intro J hJ;simp[f0,f7,w2,hl1,Y1,o8,z7,F7];(repeat refine ca ?_);refine zJ hJ ?_)
 rw[G1];clear H6 G1 z7 F7 hx hy hs hfall;generalize V6:sw c k (k-1)=c1 at *;have hcl1:=S6.len;clear V6 r9 o8 c;have w3:IntKind.i64.wrap ((k:Int)-(a:Int))=(k:Int)-(a:Int):=zW;apply qS;refine cF (UI q a b k j l st) ?_ ?_
 .by_cases u5:(2:Int)<=(k:Int)-(a:Int);rotate_left
  .refine xw4 f1 f7 w3 u5 ?_;refine⟨by trivial,?_⟩;unfold UI;exact⟨c1,sF1 f0,sF1 f1,sF1 f2,sF1 f7,sF1 f8,by trivial,S6,fun p q h1 h2 h3=>by omega⟩
  refine xw5 f1 f7 w3 u5 w2 ?_;refine qL (fun n fr st2=>∃(m:Nat) (c:List Int),a<=m/\m<=k-1/\m=n/\fr 0=.ms q 0 l.length/\fr 1=i a/\fr 2=i b/\fr 7=i k/\fr 8=i j/\fr 9=i m/\st2=bx st q c/\Pm a b l c/\Ins a m (k-1) c) (k-1) ?_ ?_
  .exact⟨k-1,c1,oO,oO,rfl,sF1 f0,sF1 f1,sF1 f2,sF1 f7,sF1 f8,sS,rfl,S6,V5.ins⟩
  clear f0 f1 f2 f7 f8 S6 V5 hcl1 c1 fr;rintro n fr st2 ⟨m,c,ham,hmk,rfl,f0,f1,f2,f7,f8,f9,rfl,r9,hI⟩ JJ hJJ;have o8:=r9.len;have j7:k-1+1=k:=oO;by_cases hm1:(1:Int)<=(m:Int);rotate_left
  .clear hJJ;refine xw2 f9 hm1 ?_;refine⟨by trivial,?_⟩;unfold UI;refine⟨c,sF1 f0,sF1 f1,sF1 f2,sF1 f7,sF1 f8,by trivial,r9,?_⟩;have:=hI.done ham (.inl oO);rwa [j7]at this
  have w4:=aU m oO oO;have z7:=qG c m oO;have F7:=qG c (m-1) oO;have hl3:m<l.length:=oO;have hl4:m-1<l.length:=oO;have H6:=fun x y=>mL st q c m (m-1) (x:=x) (y:=y) oO oO;have hahm:m=a->¬c.getD m 0<c.getD (m-1) 0:=by rintro rfl;have:=hah.pm r9 oO m oO oO;omega
  have hdone:=hI.done ham;rw[j7]at hdone;have E3:=fun h=>hI.step h hmk oO;generalize hx:c.getD m 0=x at *;generalize hy:c.getD (m-1) 0=y at *;have G1:=H6 x y rfl rfl;refine xw2 f9 hm1 ?_
  (refine zS [] [q] [0,2,4,6,8,10,12,14,16,19,20] ?_;intro J hJ;simp[f0,f9,w4,hl3,hl4,o8,z7,F7])
  refine aO (tK x y _) ?_;rintro r s2 ⟨rfl,rfl⟩;refine⟨fun _=>by simp,?_⟩;by_cases D4:x<y;rotate_left
  .clear hJJ
   (apply bL;simp[D4];refine zJ hJ ?_)
   refine xw0 ?_;refine⟨by trivial,?_⟩;unfold UI;exact⟨c,sF1 f0,sF1 f1,sF1 f2,sF1 f7,sF1 f8,by trivial,r9,hdone (.inr D4)⟩
  have hma:a<m:=by
   rcases aAK a m with h|h
   .exact h
   .exact absurd D4 (hahm oO)
  have H9:=r9.step m (m-1) oO oO oO oO oO
  (apply bL;simp[D4];refine zJ hJ ?_)
  refine xw0 ?_
  (refine zS [] [q] [0,2,4,6,8,10,12,14,16,18,20,22,24,26,28,31,32,35] ?_;intro J hJ;simp[f0,f9,w4,hl3,hl4,o8,z7,F7];(repeat refine ca ?_);refine zJ hJ ?_)
  refine xw2 f9 w4 ?_;exact hJJ (m-1) _ _ oO ⟨m-1,sw c m (m-1),oO,oO,rfl,sF1 f0,sF1 f1,sF1 f2,sF1 f7,sF1 f8,sS,G1,H9,E3 hma D4⟩
 clear f0 f1 f2 f7 f8 S6 V5 hcl1 c1 fr;rintro fr st2 ⟨c,f0,f1,f2,f7,f8,rfl,r9,hs⟩;have o8:=r9.len;have w5:IntKind.i64.wrap ((b:Int)-(k:Int))=(b:Int)-(k:Int):=zW;have w6:=qN j oO;have w7:=qN k oO;by_cases u5:(2:Int)<=(b:Int)-(k:Int);rotate_left
 .refine xw6 f2 f7 w5 u5 f8 w6 ?_;exact hJ0 (5-(j+1)) _ _ oO ⟨j+1,k,c,oO,rfl,hak,hkb,sF1 f0,sF1 f1,sF1 f2,sF1 f7,sS,rfl,r9,hs⟩
 refine xw5 f2 f7 w5 u5 w7 ?_;refine qL (fun n fr st2=>∃(m:Nat) (c:List Int),k<m/\m<=b/\n=b-m/\fr 0=.ms q 0 l.length/\fr 1=i a/\fr 2=i b/\fr 7=i k/\fr 8=i j/\fr 10=i m/\st2=bx st q c/\Pm a b l c/\Srt a k c) (b-(k+1)) ?_ ?_
 .exact⟨k+1,c,oO,oO,rfl,sF1 f0,sF1 f1,sF1 f2,sF1 f7,sF1 f8,sS,rfl,r9,hs⟩
 clear f0 f1 f2 f7 f8 r9 hs o8 c fr;rintro n fr st2 ⟨m,c,hkm,V3,rfl,f0,f1,f2,f7,f8,f10,rfl,r9,hs⟩ JJ hJJ;have o8:=r9.len;by_cases dQ:m<b;rotate_left
 .clear hJJ;refine xw5 f2 f10 dQ f8 w6 ?_;exact hJ0 (5-(j+1)) _ _ oO ⟨j+1,k,c,oO,rfl,hak,hkb,sF1 f0,sF1 f1,sF1 f2,sF1 f7,sS,rfl,r9,hs⟩
 have w4:=aU m oO oO;have w8:=qN m oO;have z7:=qG c m oO;have F7:=qG c (m-1) oO;have hl3:m<l.length:=oO;have hl4:m-1<l.length:=oO;have H6:=fun x y=>mL st q c m (m-1) (x:=x) (y:=y) oO oO;have H9:=r9.step m (m-1) oO oO oO oO oO;have X2:Srt a k (sw c m (m-1)):=by intro p q h1 h2 h3;rw[cQ _ _ _ _ oO oO,cQ _ _ _ _ oO oO,aAa oO,aAa oO,aAa oO,aAa oO];exact hs p q h1 h2 oO
 generalize hx:c.getD m 0=x at *;generalize hy:c.getD (m-1) 0=y at *;have G1:=H6 x y rfl rfl;refine xw3 f2 f10 dQ ?_
 (refine zS [] [q] [0,2,4,6,8,10,12,14,16,19,20] ?_;intro J hJ;simp[f0,f10,w4,hl3,hl4,o8,z7,F7])
 refine aO (tK x y _) ?_;rintro r s2 ⟨rfl,rfl⟩;refine⟨fun _=>by simp,?_⟩;by_cases D4:x<y;rotate_left
 .clear hJJ
  (apply bL;simp[D4];refine zJ hJ ?_)
  refine xw2 f8 w6 ?_;exact hJ0 (5-(j+1)) _ _ oO ⟨j+1,k,c,oO,rfl,hak,hkb,sF1 f0,sF1 f1,sF1 f2,sF1 f7,sS,rfl,r9,hs⟩
 (apply bL;simp[D4];refine zJ hJ ?_)
 refine xw0 ?_
 (refine zS [] [q] [0,2,4,6,8,10,12,14,16,18,20,22,24,26,28,31,32,35] ?_;intro J hJ;simp[f0,f10,w4,hl3,hl4,o8,z7,F7];(repeat refine ca ?_);refine zJ hJ ?_)
 refine xw2 f10 w8 ?_;exact hJJ (b-(m+1)) _ _ oO ⟨m+1,sw c m (m-1),oO,oO,rfl,sF1 f0,sF1 f1,sF1 f2,sF1 f7,sF1 f8,sS,G1,H9,X2⟩
abbrev ix(st:St)(p:Nat)(s:Int):St:=st.set p (.box 3 1 [i s])
theorem KO{st:St}{p:Nat}{s:Int}(h:st.H p=.box 3 1 [i s]):st=ix st p s:=
 St.ext' rfl fun x=>by by_cases hx:x=p<;>simp[hx,h]
theorem Kt(st:St)(p:Nat)(s s':Int):ix (ix st p s) p s'=ix st p s':=St.set_set _ _ _ _
theorem order2(l:List Int)(q p a b:Nat)(s:Int)(st:St)(hl:small l)(ha:a<l.length)(hb:b<l.length)(hpq:q≠p)(hH:st.H q=.box 34 1 (us l))(hp:st.H p=.box 3 1 [i s]):
 aB prog 190 [.ms q 0 l.length,i a,i b,.pt p 0] st fun r st'=>∃(x y:Nat) (s':Int),r=.tu [i x,i y]/\st'=ix st p s'/\((x=a/\y=b)\/(x=b/\y=a)):=by
 unfold small at hl;have z7:=qG l a ha;have F7:=qG l b hb;generalize l.getD a 0=x at *;generalize l.getD b 0=y at *;refine zN func190 ntmps190 [.tmp 8,.tmp 9] ?_
 (repeat (apply qS));(refine zE ?_;intro J hJ;simp[];refine zJ hJ ?_)
 (repeat (apply qS));(refine zS [] [q] [0,2,4,6,8,10,12,14,17] ?_;intro J hJ;simp[hH,ha,hb,z7,F7])
 refine aO (tK y x _) ?_;rintro r s2 ⟨rfl,rfl⟩;refine⟨fun _=>by simp[hH],?_⟩;by_cases M3:y<x
 ·(apply bL;simp[M3];refine zJ hJ ?_)
  refine xw1 hp ?_;exact⟨b,a,⟨rfl,rfl⟩,⟨_,rfl⟩,.inr ⟨rfl,rfl⟩⟩
 ·(apply bL;simp[M3];refine zJ hJ ?_)
  refine xw0 ?_;exact⟨a,b,⟨rfl,rfl⟩,⟨s,KO hp⟩,.inl ⟨rfl,rfl⟩⟩
theorem median(l:List Int)(q p a b c:Nat)(s:Int)(st:St)(hl:small l)(ha:a<l.length)(hb:b<l.length)(hc:c<l.length)(hpq:q≠p)(hH:st.H q=.box 34 1 (us l))(hp:st.H p=.box 3 1 [i s]):
 aB prog 167 [.ms q 0 l.length,i a,i b,i c,.pt p 0] st fun r st'=>∃(x:Nat) (s':Int),r=i x/\st'=ix st p s'/\(x=a\/x=b\/x=c):=by
 refine zN func167 ntmps167 [.tmp 10] ?_
 (refine xj0 ?_;intro J hJ)
 refine qF (order2 l q p a b s _ hl ha hb hpq hH hp) ?_;rintro r st' ⟨x,y,s1,rfl,rfl,h1⟩
 (refine nJ hJ ?_;intro J hJ)
 refine qF (order2 l q p y c s1 _ hl oO hc hpq (sF2 hpq hH) sS) ?_;rintro r st' ⟨x2,y2,s2,rfl,rfl,h2⟩
 (refine nJ hJ ?_;intro J hJ)
 refine qF (order2 l q p x x2 s2 _ hl oO oO hpq (sF2 hpq hH) sS) ?_;rintro r st' ⟨x3,y3,s3,rfl,rfl,h3⟩;refine dK hJ ?_;refine⟨y3,rfl,⟨s3,?_⟩,oO⟩;rw[Kt,Kt]
theorem medianAdjacent(l:List Int)(q p a:Nat)(s:Int)(st:St)(hl:small l)(h0:0<a)(ha:a+1<l.length)(hpq:q≠p)(hH:st.H q=.box 34 1 (us l))(hp:st.H p=.box 3 1 [i s]):
 aB prog 166 [.ms q 0 l.length,i a,.pt p 0] st fun r st'=>∃(x:Nat) (s':Int),r=i x/\st'=ix st p s'/\a-1<=x/\x<=a+1:=by
 have G5:=hl;unfold small at G5;have w1:=qN a oO;have w2:=aU a oO oO;refine zN func166 ntmps166 [.tmp 6] ?_
 (refine xj2 w1 w2 ?_;intro J hJ)
 refine qF (median l q p (a-1) a (a+1) s _ hl oO oO oO hpq hH hp) ?_;rintro r st' ⟨x,s1,rfl,rfl,h1⟩;refine dK hJ ?_;exact⟨x,rfl,⟨s1,rfl⟩,oO⟩
def VX(q n a b:Nat)(st:St)(fr:Frm)(st2:St):Prop:=∃(j1 j2 j3:Nat) (s:Int),fr 0=.ms q 0 n/\fr 9=.pt st.next 0/\fr 10=i j1/\fr 11=i j2/\fr 12=i j3/\a<=j1/\j1<b/\a<=j2/\j2<b/\a<=j3/\j3<b/\st2=ix (st.new (.box 3 1 [i 0])) st.next s
theorem choosePivot(l:List Int)(q a b:Nat)(st:St)(hl:small l)(x7:a+8<=b)(hb:b<=l.length)(S7:q<st.next)(hH:st.H q=.box 34 1 (us l)):
 aB prog 123 [.ms q 0 l.length,i a,i b] st fun r st'=>∃(x:Nat) (h:Int),r=.tu [i x,i h]/\a<=x/\x<b/\aA st st':=by
 have G5:=hl;unfold small at G5;obtain⟨n,hn⟩:∃ n:Nat,n=b-a:=⟨_,rfl⟩;obtain⟨n4,W8⟩:∃ m:Nat,m=n / 4:=⟨_,rfl⟩;obtain⟨k1,j7⟩:∃ m:Nat,m=a+n4:=⟨_,rfl⟩;obtain⟨k2,u5⟩:∃ m:Nat,m=a+n4*2:=⟨_,rfl⟩;obtain⟨k3,o9⟩:∃ m:Nat,m=a+n4*3:=⟨_,rfl⟩;have w1:IntKind.i64.wrap ((b:Int)-(a:Int))=(n:Int):=zW;have w2:IntKind.i64.wrap ((n:Int) / 4)=(n4:Int):=by rw[show(n:Int) / 4=((n / 4:Nat):Int) from rfl,<- W8];exact wrap_i64 _ oO oO
 have w3:IntKind.i64.wrap (n4:Int)=(n4:Int):=zW;have w4:IntKind.i64.wrap ((n4:Int)*2)=((n4*2:Nat):Int):=zW;have w5:IntKind.i64.wrap ((n4:Int)*3)=((n4*3:Nat):Int):=zW;have w6:IntKind.i64.wrap ((a:Int)+(n4:Int))=(k1:Int):=zW;have w7:IntKind.i64.wrap ((a:Int)+((n4*2:Nat):Int))=(k2:Int):=zW;have w8:IntKind.i64.wrap ((a:Int)+((n4*3:Nat):Int))=(k3:Int):=zW;have h8:(8:Int)<=(n:Int):=oO;have V8:q≠st.next:=oO;generalize ((n4*2:Nat):Int)=e2 at *;generalize ((n4*3:Nat):Int)=e3 at *;refine zN func123 ntmps123 [.tmp 6,.tmp 7] ?_
 (repeat' (first|apply qS|(refine zE ?_;intro J hJ;simp[w1,w2,w3,w4,w5,w6,w7,w8,h8];(refine zJ hJ ?_;clear hJ J))))
 apply qC;simp[h8];apply qS;refine cF (VX q l.length a b st) ?_ ?_
 .by_cases h50:(50:Int)<=(n:Int)
  ·(refine xj1 h50 ?_;intro J hJ)
   refine qF (medianAdjacent l q st.next k1 0 _ hl oO oO V8 (sF2 V8 hH) sS) ?_;rintro r st' ⟨x1,s1,rfl,rfl,h1⟩
   (refine nJ hJ ?_;intro J hJ)
   refine qF (medianAdjacent l q st.next k2 s1 _ hl oO oO V8 (sF2 V8 hH) sS) ?_;rintro r st' ⟨x2,s2,rfl,rfl,h2⟩
   (refine nJ hJ ?_;intro J hJ)
   refine qF (medianAdjacent l q st.next k3 s2 _ hl oO oO V8 (sF2 V8 hH) sS) ?_;rintro r st' ⟨x3,s3,rfl,rfl,h3⟩;refine dK hJ ?_;refine⟨by trivial,?_⟩;unfold VX;exact⟨x1,x2,x3,s3,sS,sS,sS,sS,sS,oO,oO,oO,oO,oO,oO,by rw[Kt,Kt]⟩
  .refine xw1 h50 ?_;refine⟨by trivial,?_⟩;unfold VX;exact⟨k1,k2,k3,0,sS,sS,sS,sS,sS,oO,oO,oO,oO,oO,oO,KO sS⟩
 rintro fr st2 ⟨j1,j2,j3,s,f0,f9,f10,f11,f12,h1,h2,h3,h4,h5,h6,rfl⟩
 (refine xj5 f0 f9 f10 f11 f12 ?_;intro J hJ)
 refine qF (median l q st.next j1 j2 j3 s _ hl oO oO oO V8 (sF2 V8 hH) sS) ?_;rintro r st' ⟨x,s1,rfl,rfl,hx⟩;have j5:aA st (ix (ix (st.new (.box 3 1 [i 0])) st.next s) st.next s1):=((aA.new _ _).set (aAl _) _).set (aAl _) _;have hax:a<=x/\x<b:=oO
 (repeat' (first|apply qS|apply qB|(refine qR (zZ ?_);simp[f9])|(apply qC;simp[f9];(try with_reducible refine⟨?_,?_⟩)<;>(try with_reducible intro hc))|((first|(refine zE ?_;intro J hJ)|(apply cD));simp[f9];(refine zJ hJ ?_;clear hJ J))))
 all_goals exact⟨x,rfl,hax.1,hax.2,j5⟩
abbrev uw(n:Int):LV:=.atom (.int .u64 n)
def iI(m:Nat):Nat:=if m=0 then 0 else Nat.log2 m+1
def lH(n:Nat):Nat:=if 256<=n then 8+iI (n / 256)else iI n
theorem wrap_u64(n:Int)(h1:0<=n)(h2:n<18446744073709551616):IntKind.u64.wrap n=n:=by
 grind [IntKind.wrap,IntKind.signed,IntKind.bits]
theorem wrap_u8(n:Int)(h1:0<=n)(h2:n<256):IntKind.u8.wrap n=n:=by
 grind [IntKind.wrap,IntKind.signed,IntKind.bits]
abbrev BJ:ByteArray:={ data:=((List.append [0,1,2,2,3,3,3,3,4,4,4,4,4,4,4,4,5,5,5,5,5,5,5,5,5,5,5,5,5,5,5,5,6,6,6,6,6,6,6,6,6,6,6,6,6,6,6,6,6,6,6,6,6,6,6,6,6,6,6,6,6,6,6,6] [7,7,7,7,7,7,7,7,7,7,7,7,7,7,7,7,7,7,7,7,7,7,7,7,7,7,7,7,7,7,7,7,7,7,7,7,7,7,7,7,7,7,7,7,7,7,7,7,7,7,7,7,7,7,7,7,7,7,7,7,7,7,7,7]).append (List.append [8,8,8,8,8,8,8,8,8,8,8,8,8,8,8,8,8,8,8,8,8,8,8,8,8,8,8,8,8,8,8,8,8,8,8,8,8,8,8,8,8,8,8,8,8,8,8,8,8,8,8,8,8,8,8,8,8,8,8,8,8,8,8,8] [8,8,8,8,8,8,8,8,8,8,8,8,8,8,8,8,8,8,8,8,8,8,8,8,8,8,8,8,8,8,8,8,8,8,8,8,8,8,8,8,8,8,8,8,8,8,8,8,8,8,8,8,8,8,8,8,8,8,8,8,8,8,8,8])).toArray }
theorem Mx:∀ m:Fin 256,((BJ[m.val]?).isSome=true/\((BJ[m.val]?).getD 0).toNat=iI m.val):=by decide +kernel
theorem qU:∀ m:Fin 256,iI m.val<=8/\(0<m.val->m.val<2 ^ iI m.val/\2 ^ iI m.val<=2*m.val):=by decide +kernel
theorem FY(n:Nat)(hn:n<65536):lH n<=16/\(0<n->n<2 ^ lH n/\2 ^ lH n<=2*n):=by
 unfold lH;by_cases h:256<=n
 .rw[aAk h];have h1:=qU ⟨n / 256,oO⟩
  grind
 .rw[aAa h];have h1:=qU ⟨n,oO⟩
  grind
theorem Ww(n:Nat)(st:St)(hn:n<65536):aB prog 130 [uw n] st fun r st'=>r=i (lH n)/\st'=st:=by
 refine zN func130 ntmps130 [.tmp 2] ?_;have h1:¬(4294967296:Int)<=(n:Int):=oO;have h2:¬(65536:Int)<=(n:Int):=oO;have hs:∀ m,m<256->(BJ[m]?).isSome=true/\((BJ[m]?).getD 0).toNat=iI m:=fun m h=>Mx ⟨m,h⟩;generalize hq:({ data:=((List.append [0,1,2,2,3,3,3,3,4,4,4,4,4,4,4,4,5,5,5,5,5,5,5,5,5,5,5,5,5,5,5,5,6,6,6,6,6,6,6,6,6,6,6,6,6,6,6,6,6,6,6,6,6,6,6,6,6,6,6,6,6,6,6,6] [7,7,7,7,7,7,7,7,7,7,7,7,7,7,7,7,7,7,7,7,7,7,7,7,7,7,7,7,7,7,7,7,7,7,7,7,7,7,7,7,7,7,7,7,7,7,7,7,7,7,7,7,7,7,7,7,7,7,7,7,7,7,7,7]).append (List.append [8,8,8,8,8,8,8,8,8,8,8,8,8,8,8,8,8,8,8,8,8,8,8,8,8,8,8,8,8,8,8,8,8,8,8,8,8,8,8,8,8,8,8,8,8,8,8,8,8,8,8,8,8,8,8,8,8,8,8,8,8,8,8,8] [8,8,8,8,8,8,8,8,8,8,8,8,8,8,8,8,8,8,8,8,8,8,8,8,8,8,8,8,8,8,8,8,8,8,8,8,8,8,8,8,8,8,8,8,8,8,8,8,8,8,8,8,8,8,8,8,8,8,8,8,8,8,8,8])).toArray }:ByteArray)=s;rw[show BJ=s from hq]at hs;clear hq;by_cases h3:(256:Int)<=(n:Int)
 .obtain⟨m,hm⟩:∃ m,m=n / 256:=⟨_,rfl⟩;have w1:(n:Int).fdiv (2 ^ min 8 IntKind.u64.bits)=(m:Int):=by show(n:Int).fdiv 256=(m:Int);rw[Int.fdiv_eq_ediv_of_nonneg _ oO];omega
  have w2:=wrap_u8 m oO oO;have hb:lH n=8+iI m:=by unfold lH;rw[aAk oO,hm]
  have h4:iI m<=8:=(qU ⟨m,oO⟩).1;have hm2:=hs m oO;have hz:m<s.size:=by simpa using hm2.1
  have hv:=hm2.2;rw[hb];generalize iI m=e at *;have w3:IntKind.i64.wrap (8+(e:Int))=((8+e:Nat):Int):=zW;have w4:IntKind.i64.wrap (e:Int)=(e:Int):=by rw[wrap_i64 _ oO oO]
  have w5:IntKind.i64.wrap (8:Int)=8:=rfl;simp[hz]at hv
  (repeat' (first|apply qS|refine qK (zZ ?_)|(refine qR (zZ ?_);simp[h1,h2,h3,NS,w1,w2,hz,hv,w3,w4,w5])|(apply qC;simp[h1,h2,h3,NS,w1,w2,hz,hv,w3,w4,w5])|(refine zE ?_;intro J hJ;simp[h1,h2,h3,NS,w1,w2,hz,hv,w3,w4,w5];refine zJ hJ ?_)))
 .have w2:=wrap_u8 n oO oO;have hb:lH n=iI n:=by unfold lH;rw[aAa oO]
  have h4:iI n<=8:=(qU ⟨n,oO⟩).1;have hm2:=hs n oO;have hz:n<s.size:=by simpa using hm2.1
  have hv:=hm2.2;rw[hb];generalize iI n=e at *;have w4:IntKind.i64.wrap (e:Int)=(e:Int):=by rw[wrap_i64 _ oO oO]
  simp[hz]at hv;exact xv7 h1 h2 h3 w2 hz hv w4
theorem Len(n:Nat)(st:St)(hn:n<65536):aB prog 85 [uw n] st fun r st'=>r=i (lH n)/\st'=st:=by
 refine zN func85 ntmps85 [.tmp 2] ?_
 (refine xj0 ?_;intro J hJ)
 refine qF (Ww n _ hn) ?_;rintro r st' ⟨rfl,rfl⟩;exact Oq hJ
theorem nextPowerOfTwo(n:Nat)(st:St)(hn:n<65536):aB prog 164 [i n] st fun r st'=>r=uw ((2 ^ lH n:Nat):Int)/\st'=st:=by
 have h1:=(FY n hn).1;have w1:IntKind.u64.wrap (n:Int)=(n:Int):=wrap_u64 _ oO oO;have w2:Er .u64 1 (lH n)=((2 ^ lH n:Nat):Int):=by
  unfold Er;have h2:(2:Nat) ^ lH n<=2 ^ 16:=aEl oO h1;have h3:min ((lH n:Int).toNat) IntKind.u64.bits=lH n:=by simp[IntKind.bits];omega
  rw[h3,Int.one_mul];rw[show((2:Int) ^ lH n)=((2 ^ lH n:Nat):Int) by simp];generalize (2:Nat) ^ lH n=z at *;exact wrap_u64 _ oO oO
 refine zN func164 ntmps164 [.tmp 2] ?_
 (refine xj1 w1 ?_;intro J hJ)
 refine qF (Len n _ hn) ?_;rintro r st' ⟨rfl,rfl⟩;generalize ((2 ^ lH n:Nat):Int)=e2 at *;exact MZ hJ w2
abbrev xx(st:St)(p:Nat)(s:Int):St:=st.set p (.box 184 1 [uw s])
theorem YZ(p:Nat)(s:Int)(st:St)(hp:st.H p=.box 184 1 [uw s]):aB prog 165 [.pt p 0] st fun r st'=>∃ s',r=uw s'/\st'=xx st p s':=by
 refine zN func165 ntmps165 [.tmp 2] ?_
 (repeat (apply qS));(refine zE ?_;intro J hJ;simp[];refine zJ hJ ?_)
 (repeat (apply qS));(refine zS [] [p] [0,2,4,6,8,10,12,14,16,19] ?_;intro J hJ;simp[hp];refine zJ hJ ?_)
 generalize PA _ _ _=s1
 (repeat (apply qS));(refine zS [] [p] [0,2,4,6,8,10,12,14,16,19] ?_;intro J hJ;simp[hp];refine zJ hJ ?_)
 generalize PA _ _ _=s2
 (repeat (apply qS));(refine zS [] [p] [0,2,4,6,8,10,12,14,16,19] ?_;intro J hJ;simp[hp];refine zJ hJ ?_)
 generalize PA _ _ _=s3;refine xw0 ?_
 grind [St.set_set]
theorem Tb(s:Int)(m:Nat)(h0:0<m)(hm:m<=131072):∃ o:Nat,o<m/\vL .u64 s (((m-1:Nat)):Int)=(o:Int):=by
 grind [vL,Nat.and_le_right,wrap_u64]
def bQ(q:Nat)(st st':St):Prop:=st.next<=st'.next/\∀ l,l≠q->l<st.next->st'.H l=st.H l
theorem bQ.refl(q:Nat)(st:St):bQ q st st:=⟨aAl _,fun _ _ _=>rfl⟩
theorem bQ.trans{q:Nat}{a b c:St}(h:bQ q a b)(k:bQ q b c):bQ q a c:=⟨aBg h.1 k.1,fun l hl hn=>(k.2 l hl (aAs hn h.1)).trans (h.2 l hl hn)⟩
theorem bQ.keeps{q:Nat}{a b c:St}(h:bQ q a b)(k:aA b c):bQ q a c:=⟨aBg h.1 k.next,fun l hl hn=>(k.H l (aAs hn h.1)).trans (h.2 l hl hn)⟩
theorem bQ.set{q:Nat}{a b:St}(h:bQ q a b)(o:cN):bQ q a (b.set q o):=⟨h.1,fun l hl hn=>by rw[bR,aAa hl];exact h.2 l hl hn⟩
theorem bQ.set'{q p:Nat}{a b:St}(h:bQ q a b)(hp:a.next<=p)(o:cN):bQ q a (b.set p o):=⟨h.1,fun l hl hn=>by rw[bR,aAa oO];exact h.2 l hl hn⟩
def UR(q p a b n m k:Nat)(l:List Int)(st:St)(fr:Frm)(st2:St):Prop:=fr 0=.ms q 0 l.length/\fr 1=i a/\fr 6=i n/\fr 7=.pt p 0/\fr 8=uw m/\fr 9=i k/\p<st2.next/\bQ q st st2/\(∃ s,st2.H p=.box 184 1 [uw s])/\∃ c,st2.H q=.box 34 1 (us c)/\Pm a b l c
def Zr(q p a b n m k:Nat)(l:List Int)(st:St)(fr:Frm)(st2:St):Prop:=UR q p a b n m k l st fr st2/\∃ o:Nat,o<n/\fr 10=i o
theorem breakPatterns(l:List Int)(q a b:Nat)(st:St)(hl:l.length<65536)(x7:a+8<=b)(hb:b<=l.length)(S7:q<st.next)(hH:st.H q=.box 34 1 (us l)):
 aB prog 122 [.ms q 0 l.length,i a,i b] st fun r st'=>∃ c,st'.H q=.box 34 1 (us c)/\Pm a b l c/\bQ q st st':=by
 obtain⟨n,hn⟩:∃ n:Nat,n=b-a:=⟨_,rfl⟩;obtain⟨n4,W8⟩:∃ m:Nat,m=n / 4:=⟨_,rfl⟩;obtain⟨k0,J8⟩:∃ m:Nat,m=a+n4*2:=⟨_,rfl⟩;have w1:IntKind.i64.wrap ((b:Int)-(a:Int))=(n:Int):=zW;have w2:IntKind.i64.wrap ((n:Int) / 4)=(n4:Int):=by rw[show(n:Int) / 4=((n / 4:Nat):Int) from rfl,<- W8];exact wrap_i64 _ oO oO
 have w4:IntKind.i64.wrap ((n4:Int)*2)=((n4*2:Nat):Int):=zW;have w7:IntKind.i64.wrap ((a:Int)+((n4*2:Nat):Int))=(k0:Int):=zW;have w8:=aU k0 oO oO;obtain⟨k1,j7⟩:∃ m:Nat,m=k0+1:=⟨_,rfl⟩;have w9:IntKind.i64.wrap ((k0:Int)+1)=(k1:Int):=by rw[qN k0 oO,j7]
 have Y3:IntKind.u64.wrap (n:Int)=(n:Int):=wrap_u64 _ oO oO;have h8:(8:Int)<=(n:Int):=oO;have L6:=(FY n oO).2 oO;obtain⟨m,hm⟩:∃ m:Nat,m=2 ^ lH n:=⟨_,rfl⟩;rw[<- hm]at L6;have w11:IntKind.u64.wrap ((m:Int)-1)=((m-1:Nat):Int):=by rw[wrap_u64 _ oO oO];omega
 generalize ((n4*2:Nat):Int)=e2 at *;refine zN func122 ntmps122 [] ?_
 (repeat' (first|apply qS|(refine zE ?_;intro J hJ;simp[w1];refine zJ hJ ?_)))
 apply qC;simp[h8]
 (repeat' (first|apply qS|(refine zE ?_;intro J hJ;simp[Y3,w1];(try refine zJ hJ ?_))))
 refine qF (nextPowerOfTwo n _ oO) ?_;rintro r st' ⟨rfl,rfl⟩;rw[<- hm]
 (repeat' (first|apply qS|apply qB|((first|(refine zE ?_;intro J hJ)|(apply cD));simp[w2,w4,w7,w8];refine zJ hJ ?_)))
 refine qL (fun z fr st2=>∃ k:Nat,k0<=k+1/\k<=k0+2/\z=k0+2-k/\UR q st.next a b n m k l st fr st2) 3 ?_ ?_
 .refine⟨k0-1,oO,oO,oO,?_⟩;unfold UR;have Zy:¬q=st.next:=oO;refine⟨sS,sS,sS,sS,sS,sS,sS,?_,⟨n,sS⟩,l,by simp_all,.refl⟩;exact((bQ.refl q st).keeps (aA.new _ _)).set' (aAl _) _
 rintro z fr st2 ⟨k,hkl,hku,rfl,f0,f1,f6,f7,f8,f9,hpn,I3,⟨s,hs⟩,c,hcq,r9⟩ JJ hJJ;have o8:=r9.len;by_cases dQ:(k:Int)<=(k1:Int);rotate_left
 .clear hJJ;refine xw8 f1 f6 f9 w2 w4 w7 w9 dQ ?_;exact⟨trivial,c,hcq,r9,I3⟩
 (repeat (apply qS));(refine zE ?_;intro J hJ;simp[f1,f6,f9,w2,w4,w7,w9,dQ];refine zJ hJ ?_)
 apply qC;simp[dQ];refine qK (zZ ?_);apply qS;apply qB;apply qS
 (refine zE ?_;intro J hJ;simp[f7])
 refine qF (YZ st.next s _ hs) ?_;rintro r st' ⟨s1,rfl,rfl⟩;obtain⟨o,ho,Z4⟩:=Tb s1 m oO oO;have w12:IntKind.i64.wrap (o:Int)=(o:Int):=zW
 (apply cD;simp[f8,w11,Z4,w12];refine zJ hJ ?_)
 apply qS;refine cF (Zr q st.next a b n m k l st) ?_ ?_
 .have hqne:¬q=st.next:=oO;have hI:∀ Y5:Frm,Y5 0=fr 0->Y5 1=fr 1->Y5 6=fr 6->Y5 7=fr 7->Y5 8=fr 8->Y5 9=fr 9->UR q st.next a b n m k l st Y5 (xx st2 st.next s1):=by intro Y5 g0 g1 g6 g7 g8 g9;exact⟨by grind,by grind,by grind,by grind,by grind,by grind,by simpa using hpn,I3.set' (aAl _) _,⟨s1,sS⟩,c,sF2 hqne hcq,r9⟩
  by_cases hge:(n:Int)<=(o:Int)
  .have w13:IntKind.i64.wrap ((o:Int)-(n:Int))=((o-n:Nat):Int):=zW;refine xw3 f6 hge w13 ?_;refine⟨by trivial,?_⟩;exact⟨hI _ sS sS sS sS sS sS,o-n,oO,sS⟩
  .refine xw2 f6 hge ?_;refine⟨by trivial,?_⟩;exact⟨hI _ sS sS sS sS sS sS,o,oO,sS⟩
 clear f0 f1 f6 f7 f8 f9 hpn I3 hs hcq r9 o8 Z4 w12 ho o s s1 c st2 fr;rintro fr st2 ⟨⟨f0,f1,f6,f7,f8,f9,hpn,I3,⟨s,hs⟩,c,hcq,r9⟩,o,ho,f10⟩;have o8:=r9.len;obtain⟨x,hx⟩:∃ x:Nat,x=a+o:=⟨_,rfl⟩;have w12:IntKind.i64.wrap ((a:Int)+(o:Int))=(x:Int):=zW;have w13:=qN k oO;have z7:=qG c k oO;have F7:=qG c x oO;have hl3:k<l.length:=oO;have hl4:x<l.length:=oO;have H6:=fun v y=>Io st2 q c k x (x:=v) (y:=y) oO oO;have H9:=r9.step k x oO oO oO oO oO;generalize hv:c.getD k 0=v at *;generalize hy:c.getD x 0=y at *;have G1:=H6 v y rfl rfl
 (refine zS [] [q] [0,2,4,6,8,10,12,14,16,18,20,22,24,26,28,30,32,35,36,39] ?_;intro J hJ;simp[f0,f1,f9,f10,w12,hl3,hl4,o8,hcq,z7,F7];(repeat refine ca ?_);refine zJ hJ ?_)
 refine xw2 f9 w13 ?_;have hqne:¬st.next=q:=oO;rw[G1];exact hJJ (k0+2-(k+1)) _ _ oO ⟨k+1,oO,oO,rfl,sF1 f0,sF1 f1,sF1 f6,sF1 f7,sF1 f8,sS,by simpa using hpn,I3.set _,⟨s,sF2 hqne hs⟩,_,sS,H9⟩
theorem Srt.out{a m:Nat}{c d:List Int}(h:Srt a m c)(e:∀ j,a<=j->j<m->d.getD j 0=c.getD j 0):Srt a m d:=by intro p q h1 h2 h3;rw[e p h1 oO,e q oO h3];exact h p q h1 h2 h3
theorem _root_.Go.Proofs.YtbgngpdonpeboaaGreatDoor.Pl.cT.pmL{c d:List Int}{a m b:Nat}(h:cT c a m b)(k:Pm a m c d):cT d a m b:=by unfold cT at h ⊢;have e:d.getD m 0=c.getD m 0:=k.out m oO;rw[e];refine⟨fun p h1 h2=>k.all (fun v=>decide (v<c.getD m 0)=true) h.1 p h1 h2,fun p h1 h2=>?_⟩;rw[k.out p oO];exact h.2 p h1 h2
theorem _root_.Go.Proofs.YtbgngpdonpeboaaGreatDoor.Pl.cT.pmR{c d:List Int}{a m b:Nat}(h:cT c a m b)(k:Pm (m+1) b c d):cT d a m b:=by unfold cT at h ⊢;have e:d.getD m 0=c.getD m 0:=k.out m oO;rw[e];refine⟨fun p h1 h2=>?_,fun p h1 h2=>k.all (fun v=>decide (v<c.getD m 0)=false) (fun j g1 g2=>h.2 j oO g2) p oO h2⟩;rw[k.out p oO];exact h.1 p h1 h2
theorem _root_.Go.Proofs.YtbgngpdonpeboaaGreatDoor.Pl.cT.glue{d:List Int}{a m b:Nat}(h:cT d a m b)(h1:Srt a m d)(h2:Srt (m+1) b d):Srt a b d:=by
 refine QT h1 h2 (fun p g1 g2=>?_) fun q g1 g2=>?_
 .have:=h.1 p g1 g2;simp only[aBr]at this;omega
 .have:=h.2 q g1 g2;simp only[aCb]at this;omega
theorem _root_.Go.Proofs.YtbgngpdonpeboaaGreatDoor.Pl.cT.aheadR{d:List Int}{a m b:Nat}(h:cT d a m b):oP d (m+1) b:=by intro _ j g1 g2;have:=h.2 j oO g2;simp only[aCb]at this;rw[aCG];omega
theorem oP.less{d:List Int}{a m b:Nat}(h:oP d a b)(hm:m<=b):oP d a m:=fun h0 j g1 g2=>h h0 j g1 oO
theorem Tx{c d:List Int}{a m b:Nat}{x:Int}(h:GU c a m b x)(Q5:∀ j,a<=j->j<m->x<=c.getD j 0)(k:Pm m b c d)(hs:Srt m b d):Srt a b d:=by
 intro p q h1 h2 h3;by_cases hq:q<m
 .rw[k.out p oO,k.out q oO];have:=h.1 p h1 oO;have:=Q5 q oO hq;omega
 .by_cases hp:p<m
  .rw[k.out p oO];have g:=h.1 p h1 hp;have:x<d.getD q 0:=k.all (fun v=>x<v) h.2 q oO h3;omega
  .exact hs p q oO h2 h3
def PE(a b a' b':Nat)(c:List Int):Prop:=∀ d,Pm a' b' c d->Srt a' b' d->Srt a b d
theorem PE.pm{a b a' b':Nat}{c d:List Int}(h:PE a b a' b' c)(k:Pm a' b' c d):PE a b a' b' d:=fun e h1 h2=>h e (k.trans h1) h2
theorem PC{P:Program}{N:Nat}{Q:AQ}{k:List gF}{fr:Frm}{st:St}{x y:Code}(I:Frm->St->Prop)(h1:AWp P N x (AK P N (fun e f s=>(e=.normal/\I f s)\/(e=.ret/\AK P N Q k .ret f s)) []) fr st)(h2:∀ fr st,I fr st->AWp P N y (AK P N Q k) fr st):
 AWp P N x (AK P N Q (.code y::k)) fr st:=by
 refine cW h1 ?_;rintro e c7 st' (⟨rfl,hI⟩|⟨rfl,hI⟩)
 .rw[jA];exact h2 _ _ hI
 .rw[xN];exact hI
theorem Ro{P:Program}{N:Nat}{Q:AQ}{k:List gF}{fr:Frm}{st:St}{x y:Code}(I:Frm->St->Prop)(h1:AWp P N x (AK P N (fun e f s=>(e=.normal/\I f s)\/(e≠.normal/\AK P N Q k e f s)) []) fr st)(h2:∀ fr st,I fr st->AWp P N y (AK P N Q k) fr st):
 AWp P N x (AK P N Q (.code y::k)) fr st:=by
 refine cW h1 ?_;rintro e c7 st' (⟨rfl,hI⟩|⟨Zy,hI⟩)
 .rw[jA];exact h2 _ _ hI
 .cases e<;>first|exact absurd rfl Zy|exact hI
def PdI(q:Nat)(l:List Int)(st:St)(a b a' b':Nat)(wb wp:Bool)(lim n:Nat)(fr:Frm)(st2:St):Prop:=
 fr 0=.ms q 0 l.length/\fr 1=i a'/\fr 2=i b'/\fr 3=i lim/\fr 8=bb wb/\fr 9=bb wp/\fr 10=i n/\lim<1000000/\q<st2.next/\bQ q st st2/\∃ c,st2.H q=.box 34 1 (us c)/\Pm a b l c/\oP c a' b'/\PE a b a' b' c
theorem PdI.mk{q:Nat}{l:List Int}{st:St}{a b a' b':Nat}{wb wp:Bool}{lim n:Nat}{fr:Frm}{st2:St}{c:List Int}(f0:fr 0=.ms q 0 l.length)(f1:fr 1=i a')(f2:fr 2=i b')(f3:fr 3=i lim)(f8:fr 8=bb wb)(f9:fr 9=bb wp)(f10:fr 10=i n)(X1:lim<1000000)(S7:q<st2.next)(ho:bQ q st st2)(hc:st2.H q=.box 34 1 (us c))(hp:Pm a b l c)(ha:oP c a' b')(hf:PE a b a' b' c):PdI q l st a b a' b' wb wp lim n fr st2:=
 ⟨f0,f1,f2,f3,f8,f9,f10,X1,S7,ho,c,hc,hp,ha,hf⟩
def PdJ(q:Nat)(l:List Int)(st:St)(a b a' b':Nat)(wb wp:Bool)(n:Nat)(fr:Frm)(st2:St):Prop:=∃ lim,PdI q l st a b a' b' wb wp lim n fr st2
def PdK(q:Nat)(l:List Int)(st:St)(a b a' b':Nat)(wb wp:Bool)(n:Nat)(fr:Frm)(st2:St):Prop:=∃ lim,PdI q l st a b a' b' wb wp lim n fr st2/\∃(pv:Nat) (h:Int),a'<=pv/\pv<b'/\fr 11=i pv/\fr 12=i h
theorem EX(Z:Nat):∀(l:List Int) (q a b lim:Nat) (st:St),l.length<65536->a<=b->b<=l.length->b-a<Z->oP l a b->lim<1000000->q<st.next->st.H q=.box 34 1 (us l)->
 aB prog 84 [.ms q 0 l.length,i a,i b,i lim] st fun r st'=>∃ c,st'.H q=.box 34 1 (us c)/\Pm a b l c/\Srt a b c/\bQ q st st':=by
 induction Z with
 |zero=>intro l q a b lim st _ _ _ h;omega
 |succ Z ih=>
 intro l q a b lim st hl x7 hb hZ hah hlim S7 hH;have J7:small l:=by unfold small;omega
 refine zN func84 ntmps84 [] ?_
 (repeat' (first|apply qS|apply qB|(refine zE ?_;intro J hJ;simp[];(refine zJ hJ ?_;clear hJ J))))
 refine qL (fun z fr st2=>∃(a' b' lim:Nat) (wb wp:Bool) (n:LV),a<=a'/\a'<=b'/\b'<=b/\z=b' - a'/\PdI q l st a b a' b' wb wp lim 0 (upd fr 10 (i (0:Nat))) st2) (b-a) ?_ ?_
 .refine⟨a,b,lim,true,true,.nil,oO,oO,oO,rfl,?_⟩;exact PdI.mk sS sS sS sS sS sS sS hlim S7 (.refl _ _) hH .refl hah fun d h1 h2=>h2
 rintro z fr st2 ⟨a',b',lim,wb,wp,-,ha1,ha2,P3,rfl,f0,f1,f2,f3,f8,f9,-,X1,G6,I3,c,hc,r9,J3,u7⟩ JJ hJJ;rw[Ej,aAa oO]at f0 f1 f2 f3 f8 f9;have o8:=r9.len;have G3:small c:=by unfold small;omega
 obtain⟨n,hn⟩:∃ n:Nat,n=b' - a':=⟨_,rfl⟩;have w1:IntKind.i64.wrap ((b':Int)-(a':Int))=(n:Int):=zW;apply qB
 (repeat' (first|apply qS|(refine zE ?_;intro J hJ;simp[f1,f2,w1];(refine zJ hJ ?_;clear hJ J))))
 by_cases hn12:(n:Int)<=12
 .clear hJJ;apply qC;simp[hn12]
  (refine xj3 f0 f1 f2 ?_;intro J hJ)
  refine qE (insertionSort c q a' b' st2 G3 oO oO hc) (sF4 f0 f1 f2 o8) ?_;rintro r st' ⟨d,rfl,k1,k2⟩;refine dK hJ ?_;exact⟨d,rfl,r9.trans (k1.wide oO oO oO),u7 d k1 k2,I3.set _⟩
 apply qC;simp[hn12]
 (repeat' (first|apply qS|refine qK (zZ ?_)|(refine zE ?_;intro J hJ;simp[f3];(refine zJ hJ ?_;clear hJ J))))
 by_cases hl0:lim=0
 .clear hJJ;apply qC;simp[hl0]
  (refine xj3 f0 f1 f2 ?_;intro J hJ)
  refine qE (heapSort c q a' b' st2 G3 oO oO hc) (sF4 f0 f1 f2 o8) ?_;rintro r st' ⟨d,rfl,k1,k2⟩;refine dK hJ ?_;exact⟨d,rfl,r9.trans (k1.wide oO oO oO),u7 d k1 k2,I3.set _⟩
 apply qC;simp[hl0];refine qK (zZ ?_);apply qS;refine cF (PdJ q l st a b a' b' wb wp n) ?_ ?_
 .clear hJJ;cases wb
  ·(refine xj4 f0 f1 f2 f8 ?_;intro J hJ)
   refine qE (breakPatterns c q a' b' st2 oO oO oO G6 hc) (sF4 f0 f1 f2 o8) ?_;rintro r st' ⟨d,k0,k1,k2⟩;have w2:=aU lim oO oO;refine pX hJ f3 w2 ?_;refine⟨by trivial,?_⟩;exact⟨lim-1,PdI.mk (sF1 f0) (sF1 f1) (sF1 f2) sS (sF1 f8) (sF1 f9) sS oO (aAs G6 k2.1) (I3.trans k2) k0 (r9.trans (k1.wide oO oO oO)) (J3.pm k1) (u7.pm k1)⟩
  .refine xw1 f8 ?_;refine⟨by trivial,?_⟩;exact⟨lim,PdI.mk (sF1 f0) (sF1 f1) (sF1 f2) (sF1 f3) (sF1 f8) (sF1 f9) sS oO G6 I3 hc r9 J3 u7⟩
 clear f0 f1 f2 f3 f8 f9 X1 G6 I3 hc r9 J3 u7 o8 G3 c st2 fr hl0 lim;rintro fr st2 ⟨lim,f0,f1,f2,f3,f8,f9,f10,X1,G6,I3,c,hc,r9,J3,u7⟩;have o8:=r9.len;have G3:small c:=by unfold small;omega
 apply qS
 (refine zE ?_;intro J hJ;simp[f0,f1,f2])
 refine qE (choosePivot c q a' b' st2 G3 oO oO G6 hc) (sF4 f0 f1 f2 o8) ?_;rintro r st' ⟨pv,h,rfl,M7,R6,k0⟩;have V1:st'.H q=.box 34 1 (us c):=by rw[k0.H q G6];exact hc
 have hqn3:q<st'.next:=aAs G6 k0.next;have hof2:=I3.keeps k0;clear hc G6 I3 k0
 (apply cD;simp[];(refine zJ hJ ?_;clear hJ J))
 apply qS;refine cF (PdK q l st a b a' b' wb wp n) ?_ ?_
 .clear hJJ;by_cases hh:h=2
  ·(refine xj4 hh f0 f1 f2 ?_;intro J hJ)
   refine qE (reverseRange c q a' b' st' G3 oO oO oO V1) (sF4 f0 f1 f2 o8) ?_;rintro r st' ⟨d,rfl,k1⟩;have w2:=aU b' oO oO;obtain⟨x1,hx1⟩:∃ x,x=b' - 1:=⟨_,rfl⟩;obtain⟨x2,P0⟩:∃ x,x=pv-a':=⟨_,rfl⟩;obtain⟨x3,hx3⟩:∃ x,x=x1-x2:=⟨_,rfl⟩;have w3:IntKind.i64.wrap ((pv:Int)-(a':Int))=(x2:Int):=zW;have w4:IntKind.i64.wrap ((x1:Int)-(x2:Int))=(x3:Int):=zW;rw[<- hx1]at w2;refine ON hJ f1 f2 w2 w3 w4 ?_;refine⟨by trivial,?_⟩;exact⟨lim,PdI.mk (sF1 f0) (sF1 f1) (sF1 f2) (sF1 f3) (sF1 f8) (sF1 f9) (sF1 f10) oO hqn3 (hof2.set _) sS (r9.trans (k1.wide oO oO oO)) (J3.pm k1) (u7.pm k1),x3,1,oO,oO,sS,sS⟩
  .refine xw1 hh ?_;refine⟨by trivial,?_⟩;exact⟨lim,PdI.mk (sF1 f0) (sF1 f1) (sF1 f2) (sF1 f3) (sF1 f8) (sF1 f9) (sF1 f10) oO hqn3 hof2 V1 r9 J3 u7,pv,h,oO,oO,sS,sS⟩
 clear f0 f1 f2 f3 f8 f9 f10 X1 hqn3 hof2 V1 r9 J3 u7 o8 G3 c st2 fr lim h M7 R6 pv;rintro fr st2 ⟨lim,⟨f0,f1,f2,f3,f8,f9,f10,X1,G6,I3,c,hc,r9,J3,u7⟩,pv,h,M7,R6,f11,f12⟩;have o8:=r9.len;have G3:small c:=by unfold small;omega
 apply qS;refine PC (PdK q l st a b a' b' wb wp n) ?_ ?_
 .clear hJJ;cases wb
  .refine xw1 f8 ?_;refine .inl ⟨by trivial,?_⟩;exact⟨lim,PdI.mk (sF1 f0) (sF1 f1) (sF1 f2) (sF1 f3) (sF1 f8) (sF1 f9) (sF1 f10) oO G6 I3 hc r9 J3 u7,pv,h,oO,oO,sF1 f11,sF1 f12⟩
  cases wp
  .refine xw2 f8 f9 ?_;refine .inl ⟨by trivial,?_⟩;exact⟨lim,PdI.mk (sF1 f0) (sF1 f1) (sF1 f2) (sF1 f3) (sF1 f8) (sF1 f9) (sF1 f10) oO G6 I3 hc r9 J3 u7,pv,h,oO,oO,sF1 f11,sF1 f12⟩
  by_cases hh:h=1;rotate_left
  .refine xw4 f8 f9 f12 hh ?_;refine .inl ⟨by trivial,?_⟩;exact⟨lim,PdI.mk (sF1 f0) (sF1 f1) (sF1 f2) (sF1 f3) (sF1 f8) (sF1 f9) (sF1 f10) oO G6 I3 hc r9 J3 u7,pv,h,oO,oO,sF1 f11,sF1 f12⟩
  (refine xj7 f8 f9 f12 hh f0 f1 f2 ?_;intro J hJ)
  refine qE (partialInsertionSort c q a' b' st2 G3 oO oO J3 hc) (sF4 f0 f1 f2 o8) ?_;rintro r st' ⟨d,p,rfl,rfl,k1,k2⟩;cases p
  .refine dK hJ ?_;refine .inl ⟨by trivial,?_⟩;exact⟨lim,PdI.mk (sF1 f0) (sF1 f1) (sF1 f2) (sF1 f3) (sF1 f8) (sF1 f9) (sF1 f10) oO G6 (I3.set _) sS (r9.trans (k1.wide oO oO oO)) (J3.pm k1) (u7.pm k1),pv,h,oO,oO,sF1 f11,sF1 f12⟩
  .refine dK hJ ?_;exact⟨d,rfl,r9.trans (k1.wide oO oO oO),u7 d k1 (k2 rfl),I3.set _⟩
 clear f0 f1 f2 f3 f8 f9 f10 f11 f12 X1 G6 I3 hc r9 J3 u7 o8 G3 c st2 fr lim h M7 R6 pv;rintro fr st2 ⟨lim,⟨f0,f1,f2,f3,f8,f9,f10,X1,G6,I3,c,hc,r9,J3,u7⟩,pv,h,M7,R6,f11,f12⟩;have o8:=r9.len;have G3:small c:=by unfold small;omega
 apply qS;refine Ro (PdK q l st a b a' b' wb wp n) ?_ ?_
 .by_cases h0:a'=0
  .clear hJJ;have h0':¬(0:Int)<(a':Int):=oO
   (repeat (apply qS));(refine zS [] [q] [0,2,4,6,8,10,12,14,16,18,20,22,25,26,28] ?_;intro J hJ;simp[f0,f1,h0];(refine zJ hJ ?_;clear hJ J))
   refine xw0 ?_;refine .inl ⟨by trivial,?_⟩;exact⟨lim,PdI.mk (sF1 f0) (sF1 f1) (sF1 f2) (sF1 f3) (sF1 f8) (sF1 f9) (sF1 f10) oO  G6 I3 hc r9 J3 u7,pv,h,oO,oO,sF1 f11,sF1 f12⟩
  have h0':0<a':=oO;have w2:=aU a' oO oO;have z7:=qG c (a' - 1) oO;have F7:=qG c pv oO;have hl3:a' - 1<l.length:=oO;have hl4:pv<l.length:=oO;have Q5:∀ j,a'<=j->j<b'->c.getD (a' - 1) 0<=c.getD j 0:=J3 h0';generalize hx:c.getD (a' - 1) 0=x at *;generalize hy:c.getD pv 0=y at *
  (repeat (apply qS));(refine zS [] [q] [0,2,4,6,8,10,12,14,16,18,20,22,25,26,28] ?_;intro J hJ;simp[f0,f1,f11,h0',w2,hl3,hl4,o8,hc,z7,F7])
  refine aO (tK x y _) ?_;rintro r s2 ⟨rfl,rfl⟩;refine⟨fun _=>by simp,?_⟩;by_cases D4:x<y
  .clear hJJ
   (apply bL;simp[D4];(refine zJ hJ ?_;clear hJ J))
   refine xw0 ?_;refine .inl ⟨by trivial,?_⟩;exact⟨lim,PdI.mk (sF1 f0) (sF1 f1) (sF1 f2) (sF1 f3) (sF1 f8) (sF1 f9) (sF1 f10) oO  G6 I3 hc r9 J3 u7,pv,h,oO,oO,sF1 f11,sF1 f12⟩
  (apply bL;simp[D4];(refine zJ hJ ?_;clear hJ J))
  (refine xj4 f0 f1 f2 f11 ?_;intro J hJ)
  refine qE (partitionEqual c q a' b' pv _ G3 oO oO M7 R6 hc) (sF5 f0 f1 f2 f11 o8) ?_;rintro r st' ⟨d,A7,rfl,rfl,k1,k2,k3,k4⟩;refine dK hJ ?_;refine .inr ⟨sS,?_⟩;refine hJJ (b' - A7) _ _ oO ⟨A7,b',lim,wb,wp,.nil,oO,oO,oO,rfl,?_⟩;rw[hy]at k4;refine PdI.mk (sF1 f0) sS (sF1 f2) (sF1 f3) (sF1 f8) (sF1 f9) sS oO G6 (I3.set _) sS (r9.trans (k1.wide oO oO oO)) ?_ ?_
  .intro _ j g1 g2;have e1:=k4.1 (A7-1) oO oO;have e2:=k4.2 j g1 g2;omega
  .intro e g1 g2;refine u7 e (k1.trans (g1.wide oO oO (by have:=k1.len;omega))) (Tx k4 (fun j e1 e2=>?_) g1 g2);have:=k1.all (fun v=>x<=v) Q5 j e1 oO;omega
 clear f0 f1 f2 f3 f8 f9 f10 f11 f12 X1 G6 I3 hc r9 J3 u7 o8 G3 c st2 fr lim h M7 R6 pv;rintro fr st2 ⟨lim,⟨f0,f1,f2,f3,f8,f9,f10,X1,G6,I3,c,hc,r9,J3,u7⟩,pv,h,M7,R6,f11,f12⟩;have o8:=r9.len;have G3:small c:=by unfold small;omega
 (repeat' (first|apply qS|(refine zE ?_;intro J hJ;simp[f0,f1,f2,f11])))
 refine qE (partition c q a' b' pv _ G3 oO oO M7 R6 hc) (sF5 f0 f1 f2 f11 o8) ?_;rintro r st' ⟨d,A7,p,rfl,rfl,k1,k2,k3,k4⟩;have Y0:=k1.len;have k4:cT d a' A7 b':=k4;have hpm':=r9.trans (k1.wide ha1 P3 oO);have hah':=J3.pm k1;have hfin':=u7.pm k1;have hof':=I3.set (q:=q) (.box 34 1 (us d));have w3:IntKind.i64.wrap ((A7:Int)-(a':Int))=((A7-a':Nat):Int):=zW;have w4:IntKind.i64.wrap ((b':Int)-(A7:Int))=((b' - A7:Nat):Int):=zW;have w5:IntKind.i64.wrap ((n:Int) / 8)=((n / 8:Nat):Int):=by rw[show(n:Int) / 8=((n / 8:Nat):Int) from rfl];exact wrap_i64 _ oO oO
 obtain⟨z1,hz1⟩:∃ x:Nat,x=A7-a':=⟨_,rfl⟩;obtain⟨z2,hz2⟩:∃ x:Nat,x=b' - A7:=⟨_,rfl⟩;obtain⟨z3,hz3⟩:∃ x:Nat,x=n / 8:=⟨_,rfl⟩;obtain⟨m1,hm1⟩:∃ x:Nat,x=A7+1:=⟨_,rfl⟩;rw[<- hz1]at w3;rw[<- hz2]at w4;rw[<- hz3]at w5;have w6:IntKind.i64.wrap ((A7:Int)+1)=(m1:Int):=by rw[qN A7 oO,hm1]
 clear hc r9 J3 u7 I3
 (repeat' (first|apply qS|((first|(refine zE ?_;intro J hJ)|(apply cD));simp[f1,f2,f10,w3,w4,w5];(refine zJ hJ ?_;clear hJ J))))
 apply qC;by_cases hzz:z1<z2
 .simp[hzz]
  (repeat' (first|apply qS|(refine zE ?_;intro J hJ;simp[f0,f1,f3];(try (refine zJ hJ ?_;clear hJ J)))))
  refine qE (ih d q a' A7 lim (bx st2 q d) oO oO oO oO (hah'.less oO) oO G6 sS) (sF6 f0 f1 f2 f3 Y0 o8) ?_;rintro r st' ⟨e,j0,j1,j2,j3⟩
  (repeat' ((first|(refine zE ?_;intro J hJ)|(apply cD));simp[w6];(refine zJ hJ ?_;clear hJ J)))
  refine hJJ (b' - m1) _ _ oO ⟨m1,b',lim,decide (z3<=z1),p,.nil,oO,oO,oO,rfl,?_⟩;refine PdI.mk (sF1 f0) sS (sF1 f2) (sF1 f3) sS sS sS oO (aAs G6 j3.1) (hof'.trans j3) j0 (hpm'.trans (j1.wide oO oO oO)) ?_ ?_
  .rw[hm1];exact(k4.pmL j1).aheadR
  .intro y g1 g2;rw[hm1]at g1 g2;refine hfin' y ((j1.wide oO oO oO).trans (g1.wide oO oO (by have:=j1.len;omega))) (((k4.pmL j1).pmR g1).glue (Srt.out j2 fun j e1 e2=>g1.out j oO) g2)
 .simp[hzz]
  (repeat' (first|apply qS|(refine zE ?_;intro J hJ;simp[f0,f2,f3,w6];(try (refine zJ hJ ?_;clear hJ J)))))
  refine qE (ih d q m1 b' lim (bx st2 q d) oO oO oO oO (by rw[hm1];exact k4.aheadR) oO G6 sS) (sF6 f0 f1 f2 f3 Y0 o8) ?_;rintro r st' ⟨e,j0,j1,j2,j3⟩
  (repeat' ((first|(refine zE ?_;intro J hJ)|(apply cD));simp[];(refine zJ hJ ?_;clear hJ J)))
  rw[hm1]at j1 j2;refine hJJ (A7-a') _ _ oO ⟨a',A7,lim,decide (z3<=z2),p,.nil,oO,oO,oO,rfl,?_⟩;refine PdI.mk (sF1 f0) (sF1 f1) sS (sF1 f3) sS sS sS oO (aAs G6 j3.1) (hof'.trans j3) j0 (hpm'.trans (j1.wide oO oO oO)) ?_ ?_
  .exact(hah'.pm (j1.wide oO oO oO)).less oO
  .intro y g1 g2;refine hfin' y ((j1.wide oO oO oO).trans (g1.wide oO oO (by have:=j1.len;omega))) (((k4.pmR j1).pmL g1).glue g2 (Srt.out j2 fun j e1 e2=>g1.out j oO))
theorem VS(l:List Int)(q:Nat)(st:St)(hl:l.length<65536)(S7:q<st.next)(hH:st.H q=.box 34 1 (us l)):
 aB prog 46 [.ms q 0 l.length] st fun r st'=>∃ c,st'.H q=.box 34 1 (us c)/\c.Perm l/\c.Pairwise (·<=·)/\bQ q st st':=by
 have w1:IntKind.u64.wrap (l.length:Int)=(l.length:Int):=wrap_u64 _ oO oO;have L6:=(FY l.length oO).1;refine zN func46 ntmps46 [] ?_
 (refine xj1 w1 ?_;intro J hJ)
 refine qF (Len l.length _ oO) ?_;rintro r st' ⟨rfl,rfl⟩;refine dK hJ ?_;refine qE (EX (l.length+1) l q 0 l.length (lH l.length) _ hl oO oO oO (fun h=>absurd h oO) oO S7 hH) (by simp[]) ?_;rintro r st' ⟨c,k1,k2,k3,k4⟩;refine dK hJ ?_;have o8:=k2.len;exact⟨trivial,c,k1,k2.perm,PG (by rw[o8];exact k3),k4⟩
end Aw
namespace Aw
open Go Go.RowKit
theorem rJ{w w':World}(g:G)(h:Below w.heap.size w w'):Ext w g w' g:=
 ⟨h.os,h.tape,h.output,h.size,aAl _,fun _ _=>rfl,fun _ _=>rfl,fun _ _=>rfl,fun b hb hn=>⟨hn,h.block b hb⟩,fun b k hb hk=>⟨k,hk,aAl _,fun o _=>World.cell?_of_block (w:=w) (h.block b hb)⟩⟩
theorem vK{w w':World}{g:G}{st:St}(hi:Inv w g st)(h:Below w.heap.size w w'):Inv w' g st:=by
 have he':=rJ g h;refine⟨hi.next,hi.pos,hi.fresh,fun l hl=>aAs (hi.lt l hl) h.size,hi.inj,?_,?_,?_,?_,hi.aside.keep he' fun _ _=>rfl⟩
 .intro l e s n hl;obtain⟨h1,h2,h3,h4⟩:=hi.own l e s n hl;refine⟨h1,h2,h3,fun r8=>?_⟩;obtain⟨j9,k1,k2,k3⟩:=h4 r8;exact⟨j9,by rw[h.block _ (aAH.1 k1).1];omega,k2,k3⟩
 .intro l e s cs hl;obtain⟨h1,h2,h3⟩:=hi.box l e s cs hl;refine⟨h1,h2,fun r8=>?_⟩;obtain⟨j9,k1,k2,k3,k4,k5⟩:=h3 r8;exact⟨j9,by rw[h.block _ (aAH.1 k1).1];omega,k2,k3,aC.mono he' _ _ k4,k5⟩
 .intro l ag ks es hl;have hm:=hi.mp l ag ks es hl;exact hm.keep he' (hi.map_lt hl) (h.block _ hm.blk_lt) rfl
 .intro l e n hl;have hm:=hi.qu l e n hl;exact hm.keep he' (hi.que_lt hl) (h.block _ hm.blk_lt) rfl
theorem wR{w w':World}{g:G}{st:St}(hi:Inv w g st)(h:Below w.heap.size w w'){e:TypeId}{v:Value}{zs:List Value}{cs:List LV}(Ut:w'.ownsRow w.heap.size e 1 v zs.length zs)(hr:∀ w g,aC w g cs zs):
 ∃ g',Rep w' g' (.ms st.next 0 zs.length) v/\Inv w' g' (st.new (.box e 1 cs))/\Ext w g w' g':=by
 have D8:=vK hi h;have o8:cs.length=zs.length:=aI _ _ (hr w g);rcases Ut.2 with⟨rfl,hn⟩|⟨b,cap,j9,rfl,hb,hcur,h1,h2,h3,h4⟩
 .have I0:cs=[]:=aAF oO;subst I0;refine⟨g.addNil,?_,jF D8 _ (.inr ⟨_,_,rfl⟩),(rJ g h).trans (ext_nil w' g)⟩;simp only[Rep,hn];exact⟨none,0,rfl,aAl _,aBE _,by simp[G.addNil,hi.next],sS,by simp[G.addNil,hi.next]⟩
 .have D9:=hi.next;have I7:Ext w g w' (g.add b 0 cap false):=by
   refine⟨h.os,h.tape,h.output,h.size,aDF _,?_,?_,?_,?_,?_⟩
   .grind [G.add]
   .grind [G.add]
   .grind [G.add]
   .intro x hx hn;exact⟨by grind [G.add],h.block x hx⟩
   .intro x k hx hk;exact⟨k,by grind [G.add],aAl _,fun o _=>World.cell?_of_block (w:=w) (h.block x hx)⟩
  have L5:∀ l,blk g st l->g.β l≠b:=fun l hl=>by have:=hi.lt l hl;omega
  have hblt:b<w'.heap.size:=(aAH.1 hcur).1;refine⟨g.add b 0 cap false,?_,?_,I7⟩
  .simp only[Rep,G.add,D9,aAk]
   grind
  .refine⟨by grind [G.add,St.new],by simp_all,?_,?_,?_,?_,?_,?_,?_,hi.aside.keep I7 (nM rfl)⟩
   .intro l hl;simp only[St.new]at hl ⊢;rw[aAa oO];exact hi.fresh l oO
   .intro l hl;by_cases e0:l=st.next
    .grind [G.add]
    .rw[cP D9 e0]at hl;have:=D8.lt l hl
     grind [G.add]
   .intro l l' hl G5 hbb;by_cases e0:l=st.next<;>by_cases e1:l'=st.next
    .omega
    .grind [cP,G.add]
    .grind [cP,G.add]
    .rw[cP D9 e0]at hl;rw[cP D9 e1]at G5;simp only[G.add,D9,aAa e1,aAa e0]at hbb;exact hi.inj l l' hl G5 hbb
   .intro l e' s n hl;by_cases e0:l=st.next
    .simp_all
    .simp only[St.new,aAa e0]at hl;obtain⟨q1,q2,q3,q4⟩:=D8.own l e' s n hl;simp only[G.add,D9,aAa e0]
     grind [blk]
   .intro l e' s' cs' hl;by_cases e0:l=st.next
    .simp only[St.new,aAk e0]at hl;injection hl with a1 a2 a3;subst a1 a2 a3;refine⟨?_,?_,fun _=>⟨j9.toList,?_,?_,?_,?_,?_⟩⟩
     .grind [G.add]
     .grind [G.add]
     .simp only[G.add,D9,aAk e0];omega
     .grind [G.add]
     .grind
     .grind
     grind [G.add]
    .simp only[St.new,aAa e0]at hl;obtain⟨k3,k0,k'⟩:=D8.box l e' s' cs' hl;refine⟨?_,?_,fun r8=>?_⟩
     .grind [G.add]
     .grind [G.add]
     simp only[G.add,D9,aAa e0]at r8;obtain⟨K4,k1,k2,k4,k5,k6⟩:=k' r8;have Zy:=L5 l (by grind [blk]);obtain⟨_,_,k'⟩:=hi.box l e' s' cs' hl;obtain⟨cur2,m1,m2,m4,m5,m6⟩:=k' r8;have dQ:=(aAH.1 m1).1;refine⟨cur2,?_,?_,m4,aC.mono I7 _ _ m5,?_⟩
     .simp only[G.add,D9,aAa e0];rw[h.block _ dQ];omega
     .grind [G.add]
     grind [G.add]
   .intro l ag ks es hl;by_cases e0:l=st.next
    .simp_all
    .simp only[St.new,aAa e0]at hl;have hm:=hi.mp l ag ks es hl;exact hm.keep I7 (hi.map_lt hl) (h.block _ hm.blk_lt) (by simp only[G.add];rw[aAa (L5 l (hi.map_blk hl))])
   .intro l e' n hl;by_cases e0:l=st.next
    .simp_all
    .simp only[St.new,aAa e0]at hl;have hm:=hi.qu l e' n hl;exact hm.keep I7 (hi.que_lt hl) (h.block _ hm.blk_lt) (by simp only[G.add];rw[aAa (L5 l (hi.que_blk hl))])
theorem zH(w:World)(g:G):∀ l:List Int,aC w g (us l) (l.map (Value.int .u32))
 |[]=>by simp[aC]
 |a::l=>by simp only[aAn,aC,Rep];exact⟨_,_,rfl,rfl,zH w g l⟩
theorem Ln{w:World}{g:G}:∀(l:List Int) (ws:List Value),aC w g (us l) ws->ws=l.map (Value.int .u32)
 |[],ws,h=>by grind [aC]
 |a::l,ws,h=>by simp only[aAn,aC,Rep]at h;obtain⟨v,ws',rfl,rfl,h2⟩:=h;rw[Ln l ws' h2];rfl
theorem UY(l:List Int)(x:LV)(q:Nat)(st:St)(hl:l.length<=1048576)(hH:st.H q=.box 22 1 [x])(hx:CU tab 22 st x=some (l.length,us l)):
 aB prog 104 [.fn (.func 204) [.pt q 0]] st fun r st'=>r=.ms st.next 0 l.length/\st'=st.new (.box 34 1 (us l)):=by
 refine⟨enters_of func104 (by kernel_rfl) rfl,fun w g vs hi hr=>?_⟩;simp only[aC,Rep]at hr;obtain⟨v,_,rfl,⟨us1,rfl,v1,_,rfl,⟨rfl,hq⟩,rfl⟩,rfl⟩:=hr;obtain⟨_,b2,b3⟩:=hi.box q _ _ _ hH;have r8:g.nl q=false:=by
  cases hn:g.nl q with
  |false=>rfl
  |true=>grind
 obtain⟨j9,k1,k2,k3,k4,k5⟩:=b3 r8;simp only[List.length_cons,List.length_nil,aBv,aC]at k4 k3;obtain⟨sv,rest,hsv,C8,_⟩:=k4;have Z3:w.cell? ⟨g.β q,0,none⟩=some sv:=by
  rw[cell_of_row w _ _ _ _ _ k1];cases j9 with
  |nil=>grind
  |cons a j9=>grind
 have hI:Rg.Ints w.heap.size w sv l:=by
  obtain⟨A,cap,rfl,hrw⟩:=rG hi hx C8;by_cases hl0:l=[]
  .subst hl0;exact .inl ⟨rfl,A,cap,rfl⟩
  .obtain⟨b,o,ws,rfl,m1,m2⟩:=hrw (by grind);have hws:=Ln l ws m1;refine .inr ⟨b,o,cap,rfl,?_,fun j hj=>?_⟩
   .have h0:=m2 0 (by grind);rw[hws]at h0;cases l with
    |nil=>grind
    |cons a l=>exact nO (a:=⟨b,o+0,none⟩) (v:=.int .u32 a) (by grind)
   grind
 refine(((Rg.JS Fence.wide 4 trivial trivial trivial rfl (aAl _) (g.β q) sv l hl w (nO Z3) Z3 hI).calls room_wide)).mono ?_;rintro e w' ⟨v,rfl,Ut,Y6⟩;have hlen:l.length=(l.map (Value.int .u32)).length:=sS;rw[hlen]at Ut;obtain⟨g',h1,h2,h3⟩:=wR (cs:=us l) hi Y6 Ut (fun w g=>zH w g l)
 grind
def YV:jR:=fun f args st=>if f=104 then match args with
 |[.fn (.func g) [.pt q 0]]=>if g=204 then match st.H q with
    |.box e s [x]=>if e=22/\s=1 then match CU tab 22 st x with
      |some (n,ds)=>match iG ds with
       |some (ks,ns)=>if(ks.all fun k=>decide (k=.u32))=true/\ns.length=n/\n<=1048576 then some [(.ms st.next 0 n,st.new (.box 34 1 (us ns)))]else none
       |none=>none
      |none=>none
     else none
    |_=>none
  else none
 |_=>none
 else none
theorem Hx:∀(ds:List LV) (ks:List IntKind) (ns:List Int),iG ds=some (ks,ns)->(ks.all fun k=>decide (k=.u32))=true->ds=us ns
 |[],ks,ns,h,_=>by simp_all
 |c::ds,ks,ns,h,ha=>by
  cases c with
  |atom x=>
   cases x with
   |int k n=>
    simp only[iG]at h;cases hi:iG ds with
    |none=>grind
    |some p=>obtain⟨M9,ns'⟩:=p;simp only[hi,aAb,aAW]at h;obtain⟨rfl,rfl⟩:=h;simp only[List.all_cons,aAQ,aBr]at ha;obtain⟨rfl,ha⟩:=ha;rw[Hx ds M9 ns' hi ha];rfl
   |_=>simp[iG]at h
  |_=>simp[iG]at h
theorem FZ:nX prog YV:=by
 intro f args st rs h;unfold YV at h
 split at h
 .rename_i hf;subst hf
  split at h
  .rename_i g q
   split at h
   .rename_i hg;subst hg
    split at h
    .rename_i e s x hH
     split at h
     .rename_i hes;obtain⟨rfl,rfl⟩:=hes
      split at h
      .grind [Hx,UY]
      grind
     grind
    grind
   grind
  grind
 grind
theorem SR(st:St):aB prog 68 [] st fun r st'=>r=bb true/\st'=st:=
 rU mN SD FZ mixed 1000000 true (by kernel_rfl)
theorem TB(st:St):aB prog 69 [] st fun r st'=>r=bb true/\st'=st:=
 rU mN SD FZ mixed 1000000 true (by kernel_rfl)
structure Mp where
 g:Gr
 rots:List (List Int)
 deriving DecidableEq
abbrev fF(rs:List (List Int)):List LV:=rs.map fun r=>.sl 0 r.length (us r)
abbrev mpL(m:Mp):List LV:=grL m.g++[.sl 0 m.rots.length (fF m.rots)]
theorem nV(rs:List (List Int))(k:Nat)(hk:k<rs.length):(fF rs).drop k=.sl 0 (rs.getD k []).length (us (rs.getD k []))::(fF rs).drop (k+1):=by
 grind [List.drop_eq_getElem_cons]
def Mp.ok(m:Mp):Prop:=m.g.ok/\m.rots.length<=maxLen/\∀ r∈m.rots,r.length<=maxLen/\∀ x∈r,U32 x
theorem WH{G7:List LV}(h:Shp tab 28 G7):∃ m:Mp,G7=mpL m/\m.ok:=by
 obtain⟨ps,rfl,h1,h2⟩:=sV rfl rfl h
 match ps,h1 with
 |[p,q],_=>obtain⟨g,rfl,k1⟩:=Vg (h2 0 _ p rfl rfl);obtain⟨l,rfl,k3,k4⟩:=TP (h2 1 _ q rfl rfl);exact⟨⟨g,l⟩,rfl,k1,k3,k4⟩
theorem rF(es:List (List Int×LV))(a x:List Int)(v:LV):bS (bV es a v) x=if x=a then some v else bS es x:=by
 induction es with
 |nil=>
  grind [bV,bS]
 |cons p es ih=>
  grind [bV,bS]
end Aw
namespace Aw
open Go Go.RowKit Pl
@[simp] theorem ZF(st:St)(a b:cN):(st.new a).set st.next b=st.new b:=St.ext' rfl fun y=>by simp_all
theorem aJ(l:List Ed):(eds l).length=l.length*3:=by
 induction l with
 |nil=>rfl
 |cons e l ih=>grind
abbrev ed0:Ed:=⟨0,0,0⟩
theorem aP(l:List Ed)(k:Nat)(hk:k<l.length):(eds l).drop (k*3)=u (l.getD k ed0).id::u (l.getD k ed0).a::u (l.getD k ed0).b::eds (l.drop (k+1)):=by
 induction l generalizing k with
 |nil=>grind
 |cons e l ih=>
  cases k with
  |zero=>rfl
  |succ k=>
   grind
def cA(f:Nat->Int):Nat->Int
 |0=>0
 |n+1=>if cA f n≠0 then cA f n else f n
theorem gW{f:Nat->Int}{n:Nat}(h:∀ j,j<n->f j=0):cA f n=0:=by
 induction n with
 |zero=>rfl
 |succ n ih=>grind [cA]
theorem fU{f:Nat->Int}{n k:Nat}{v:Int}(hk:k<n)(h:∀ j,j<k->f j=0)(hv:f k=v)(h0:v≠0):cA f n=v:=by
 induction n with
 |zero=>omega
 |succ n ih=>
  grind [cA,gW]
def eZ(n ahead:Int)(first:Bool):Int:=if n<1\/1048576<n then 2 else if first=false/\n<=ahead then 19 else 0
def lB(g:Gr)(k:Nat):Int:=eZ (g.vs.getD k 0) (g.vs.getD (k-1) 0) (decide (k=0))
def lI(g:Gr)(k:Nat):Int:=
 let x:=g.es.getD k ed0;let n:=eZ x.id (g.es.getD (k-1) ed0).id (decide (k=0))
 if n≠0 then n else if x.a=x.b then 20 else if x.a∉g.vs\/x.b∉g.vs then 21 else 0
def chk(g:Gr):Int:=if 64<g.vs.length\/160<g.es.length then 6 else if cA (lB g) g.vs.length≠0 then cA (lB g) g.vs.length else cA (lI g) g.es.length
theorem Has(g:Gr)(v:Int)(st:St)(hl:small g.vs):
 aB prog 39 [.ag (grL g),u v] st fun r st'=>r=bb (decide (v∈g.vs))/\aA st st':=by
 obtain⟨l,es⟩:=g;simp only at hl ⊢;unfold small at hl;refine zN func39 ntmps39 [.tmp 4] ?_;refine xw0 ?_;refine qL (fun n fr st'=>∃ k:Nat,k<=l.length/\n=l.length-k/\fr 8=.sl 0 l.length (us l)/\fr 1=u v/\fr 9=i l.length/\fr 10=i k/\aA st st'/\∀ j (hj:j<l.length),j<k->l[j]≠v) l.length ?_ ?_
 .exact⟨0,oO,oO,sS,sS,sS,sS,aA.new _ _,fun j _ h=>by omega⟩
 rintro n fr st' ⟨k,hk,rfl,h8,h1,h9,h10,j5,x9⟩ JJ hJJ;by_cases dQ:k<l.length
 .have hd:=eI l k dQ;have hw:=qN k oO
  (repeat' (first|apply qS|apply qB|refine qK (zZ ?_)|(refine qR (zZ ?_);simp[h8,h1,h9,h10,dQ,hd,hw])|(apply qC;simp[h8,h1,h9,h10,dQ,hd,hw];(try with_reducible refine⟨?_,?_⟩)<;>(try with_reducible intro hc))|(refine zE ?_;intro J hJ;simp[h8,h1,h9,h10,dQ,hd,hw];refine zJ hJ ?_)))
  .grind
  .refine hJJ _ _ _ ?_ ⟨k+1,oO,rfl,sF1 h8,sF1 h1,sF1 h9,sS,j5,fun j hj X9=>?_⟩
   .omega
   .rcases aAK j k with h|h
    .grind
    .obtain rfl:j=k:=oO;omega
 .refine xw5 h8 h1 h9 h10 dQ ?_
  grind [List.getElem_of_mem]
theorem Uf(g:Gr)(v:Int)(st:St)(hl:small g.vs):
 aB prog 87 [.ag (grL g),u v] st fun r st'=>r=i (gi g.vs v)/\aA st st':=by
 obtain⟨l,es⟩:=g;simp only at hl ⊢;refine zN func87 ntmps87 [.tmp 4] ?_
 (refine xj0 ?_;intro J hJ)
 refine qE (Index l 0 v _ hl) (by simp[]) ?_;rintro r st' ⟨rfl,rfl⟩;refine dK hJ ?_
 grind [aA.new]
theorem number(n ahead:Int)(first:Bool)(st:St):
 aB prog 86 [u n,u ahead,bb first] st fun r st'=>r=i (eZ n ahead first)/\st'=st:=by
 unfold eZ;refine zN func86 ntmps86 [.tmp 6] ?_;by_cases h1:n<1
 .exact xv1 h1
 by_cases h2:1048576<n
 .exact xv2 h1 h2
 cases first
 .by_cases h3:n<=ahead
  .exact xv3 h1 h2 h3
  .exact xv3 h1 h2 h3
 .exact xv2 h1 h2
end Aw
end Go.Proofs.YtbgngpdonpeboaaGreatDoor
