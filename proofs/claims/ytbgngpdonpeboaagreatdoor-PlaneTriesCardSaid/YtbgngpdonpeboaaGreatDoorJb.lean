/- The library's sort: partition. Written by gensort.py. -/
import Derived.Test.YtbgngpdonpeboaaGreatDoorJa
import Derived.Test.YtbgngpdonpeboaaGreatDoorAwX
import Derived.Test.YtbgngpdonpeboaaGreatDoorAwSet
import Derived.Test.YtbgngpdonpeboaaGreatDoorAwFn
import Derived.Test.YtbgngpdonpeboaaGreatDoorAwShp
set_option linter.unusedVariables false
set_option linter.unusedSimpArgs false
set_option maxHeartbeats 4000000
open Go.Proofs.Tryz
namespace Go.Proofs.YtbgngpdonpeboaaGreatDoor
namespace Aw
open Go Go.RowKit Pl
def StU(P:Int->Bool)(c:List Int)(ii jj:Nat):Prop:=ii<=jj->P (c.getD ii 0)=false
def StD(P:Int->Bool)(c:List Int)(ii kk:Nat):Prop:=ii<=kk->P (c.getD kk 0)=true
theorem partition(l:List Int)(q a b pv:Nat)(st:St)(hl:small l)(x8:a<b)(hb:b<=l.length)(T7:a<=pv)(Y8:pv<b)(hH:st.H q=.box 34 1 (us l)):
 aB prog 128 [.ms q 0 l.length,i a,i b,i pv] st fun r st'=>∃(c:List Int) (G8:Nat) (p:Bool),r=.tu [i G8,bb p]/\st'=bx st q c/\Pm a b l c/\a<=G8/\G8<b/\cT c a G8 b:=by
 unfold small at hl;refine zN func128 ntmps128 [.tmp 8,.tmp 9] ?_
 (repeat (apply qS));(refine zE ?_;intro J hJ;simp[];refine zJ hJ ?_)
 have hla:a<l.length:=oO;have hlp:pv<l.length:=oO;have P7:=fun x y=>JS st q l a pv (x:=x) (y:=y) oO oO;have hd0:=qG l a oO;have z7:=qG l pv oO;have u5:Pm a b l (sw l a pv):=Pm.one a pv oO oO oO oO oO;have hx:(sw l a pv).getD a 0=l.getD pv 0:=by
  rw[cS _ _ _ _ oO oO];by_cases e:a=pv
  .rw[aAj e,e]
  .rw[aAa e,aAj rfl]
 generalize hy0:l.getD a 0=y0 at *;generalize hy1:l.getD pv 0=x at *;have O2:=P7 y0 x rfl rfl
 (repeat (apply qS));(refine zS [] [q] [0,2,4,6,8,10,12,14,16,18,20,22,24,27,28,31] ?_;intro J hJ;simp[hH,hla,hlp,hd0,z7];(repeat refine ca ?_);refine zJ hJ ?_)
 rw[O2];clear P7 O2 hd0 z7 hy0;generalize hc:sw l a pv=c at *;clear hc;have r8:=u5.len;have w1:=qN a oO;have w2:=aU b oO oO;obtain⟨P,hPd⟩:∃ P:Int->Bool,∀ v,P v=decide (v<x):=⟨_,fun _=>rfl⟩;apply qS;refine cE (fun fr st2=>fr 0=.ms q 0 l.length/\fr 1=i a/\fr 10=i ((a+1:Nat):Int)/\fr 11=i ((b-1:Nat):Int)/\st2=bx st q c) (by(refine zE ?_;intro J hJ;simp[w1,w2];refine zJ hJ ?_);simp) ?_;rintro fr st2 ⟨f0,f1,fI,fJ,rfl⟩;have hai:a<a+1:=oO;have hij:a+1<=b-1+1:=oO;have hjb:b-1<b:=oO;have V6:Lo P c a (a+1):=fun p h1 h2=>by omega
 have V4:Hi P c (b-1) b:=fun p h1 h2=>by omega
 generalize a+1=ii at *;generalize b-1=jj at *;clear w1 w2;have hd0:=qG c a oO;rw[hx]at hd0;apply qS;refine cE (fun fr st2=>∃ ii:Nat,a<ii/\ii<=jj+1/\fr 0=.ms q 0 l.length/\fr 1=i a/\fr 10=i ii/\fr 11=i jj/\st2=bx st q c/\Lo P c a ii/\StU P c ii jj) ?_ ?_
 .apply qB;refine qL (fun m fr st2=>∃ ii:Nat,a<ii/\ii<=jj+1/\m=jj+1-ii/\fr 0=.ms q 0 l.length/\fr 1=i a/\fr 10=i ii/\fr 11=i jj/\st2=bx st q c/\Lo P c a ii) (jj+1-ii) ?_ ?_
  .exact⟨ii,oO,oO,rfl,sF1 f0,sF1 f1,sF1 fI,sF1 fJ,rfl,V6⟩
  clear f0 f1 fI fJ V6 hai hij fr ii;rintro m fr st2 ⟨ii,hai,hij,rfl,f0,f1,fI,fJ,rfl,V6⟩ JJ hJJ;have hia:=qN ii oO;by_cases u7:ii<=jj;rotate_left
  .clear hJJ
   (repeat (apply qS));(refine zS [] [q] [0,2,4,6,8,10,12,14,16,18,20,22,25,26] ?_;intro J hJ;simp[f0,f1,fI,fJ,u7];refine zJ hJ ?_)
   refine xw0 ?_;exact⟨trivial,ii,oO,oO,sF1 f0,sF1 f1,sF1 fI,sF1 fJ,by trivial,V6,fun h=>absurd h u7⟩
  have hli:ii<l.length:=oO;have z7:=qG c ii oO;have hmo:=V6.more;generalize hy:c.getD ii 0=y at *
  (repeat (apply qS));(refine zS [] [q] [0,2,4,6,8,10,12,14,16,18,20,22,25,26] ?_;intro J hJ;simp[f0,f1,fI,fJ,u7,hli,hla,r8,hd0,z7])
  refine aO (vQ y x _) ?_;rintro r s2 ⟨rfl,rfl⟩;refine⟨fun _=>by simp,?_⟩;have hP:=hPd y;by_cases V2:y<x
  ·(apply bJ;simp[V2];refine zJ hJ ?_)
   refine xw2 fI hia ?_;exact hJJ (jj+1-(ii+1)) _ _ oO ⟨ii+1,oO,oO,rfl,sF1 f0,sF1 f1,sS,sF1 fJ,rfl,hmo (by rw[hP];simp[V2])⟩
  .clear hJJ
   (apply bJ;simp[V2];refine zJ hJ ?_)
   refine xw0 ?_;exact⟨trivial,ii,oO,oO,sF1 f0,sF1 f1,sF1 fI,sF1 fJ,by trivial,V6,fun _=>by rw[hy,hP];simp[V2]⟩
 clear f0 f1 fI fJ V6 hai hij fr ii;rintro fr st2 ⟨ii,hai,hij,f0,f1,fI,fJ,rfl,V6,D3⟩;apply qS;refine cE (fun fr st2=>∃ kk:Nat,a<=kk/\kk<=jj/\ii<=kk+1/\fr 0=.ms q 0 l.length/\fr 1=i a/\fr 10=i ii/\fr 11=i kk/\st2=bx st q c/\Hi P c kk b/\StD P c ii kk) ?_ ?_
 .apply qB;refine qL (fun m fr st2=>∃ kk:Nat,a<=kk/\kk<=jj/\ii<=kk+1/\kk=m/\fr 0=.ms q 0 l.length/\fr 1=i a/\fr 10=i ii/\fr 11=i kk/\st2=bx st q c/\Hi P c kk b) jj ?_ ?_
  .exact⟨jj,oO,oO,oO,rfl,sF1 f0,sF1 f1,sF1 fI,sF1 fJ,rfl,V4⟩
  clear f0 f1 fI fJ V4 fr;rintro m fr st2 ⟨kk,hak,hkj,hik,rfl,f0,f1,fI,fJ,rfl,V4⟩ JJ hJJ;by_cases u7:ii<=kk;rotate_left
  .clear hJJ
   (repeat (apply qS));(refine zS [] [q] [0,2,4,6,8,10,12,14,16,18,20,22,25,26,28] ?_;intro J hJ;simp[f0,f1,fI,fJ,u7];refine zJ hJ ?_)
   refine xw0 ?_;exact⟨trivial,kk,oO,oO,oO,sF1 f0,sF1 f1,sF1 fI,sF1 fJ,by trivial,V4,fun h=>absurd h u7⟩
  have hja:=aU kk oO oO;have hlj:kk<l.length:=oO;have z7:=qG c kk oO;have hmo:=V4.more;generalize hy:c.getD kk 0=y at *
  (repeat (apply qS));(refine zS [] [q] [0,2,4,6,8,10,12,14,16,18,20,22,25,26,28] ?_;intro J hJ;simp[f0,f1,fI,fJ,u7,hlj,hla,r8,hd0,z7])
  refine aO (vQ y x _) ?_;rintro r s2 ⟨rfl,rfl⟩;refine⟨fun _=>by simp,?_⟩;have hP:=hPd y;by_cases V2:y<x
  .clear hJJ
   (apply bJ;simp[V2];refine zJ hJ ?_)
   refine xw0 ?_;exact⟨trivial,kk,oO,oO,oO,sF1 f0,sF1 f1,sF1 fI,sF1 fJ,by trivial,V4,fun _=>by rw[hy,hP];simp[V2]⟩
  ·(apply bJ;simp[V2];refine zJ hJ ?_)
   refine xw2 fJ hja ?_;exact hJJ (kk-1) _ _ oO ⟨kk-1,oO,oO,oO,rfl,sF1 f0,sF1 f1,sF1 fI,sS,rfl,hmo oO (by rw[hP];simp[V2])⟩
 clear f0 f1 fI fJ V4 fr;rintro fr st2 ⟨kk,hak,hkj,hik,f0,f1,fI,fJ,rfl,V4,Z5⟩;by_cases u7:ii<=kk;rotate_left
 .have hke:ii=kk+1:=oO;have U3:=yR (hke ▸ V6) V4 oO oO oO;have P8:=u5.step kk a oO oO oO oO oO;have hlk:kk<l.length:=oO;have z7:=qG c kk oO;have P7:=fun x y=>nF st q c kk a (x:=x) (y:=y) oO oO;generalize hy1:c.getD kk 0=y1 at *;have O2:=P7 y1 x rfl hx
  (repeat' (first|apply qS|(apply qC;simp[f0,f1,fI,fJ,u7];(try with_reducible intro hc))|(refine zE ?_;intro J hJ;simp[f0,f1,fI,fJ,u7];refine zJ hJ ?_)))
  (refine zS [] [q] [0,2,4,6,8,10,12,14,16,18,20,22,24,27,28,31] ?_;intro J hJ;simp[f0,f1,fI,fJ,hla,hlk,r8,hd0,z7];(repeat refine ca ?_);refine zJ hJ ?_)
  refine xw4 f0 f1 fI fJ ?_;exact⟨_,kk,rfl,O2,P8,oO,oO,by unfold cT;rw[U3.2,hx];have h:=U3.1;rwa [show P=_ from funext hPd]at h⟩
 have hik2:ii<kk:=by
  rcases aAM ii kk with h|h
  .exact h
  .exfalso;have e:ii=kk:=oO;have h1:=D3 oO;have h2:=Z5 u7;rw[e,h2]at h1;cases h1
 have hLo2:=V6.swp hik2 oO (Z5 u7);have hHi2:=V4.swp hik2 oO (D3 oO);have P8:=u5.step ii kk oO oO oO oO oO;have hxx:(sw c ii kk).getD a 0=x:=by rw[cS _ _ _ _ oO oO,aAa oO,aAa oO];exact hx
 have hli:ii<l.length:=oO;have hlk:kk<l.length:=oO;have z7:=qG c ii oO;have O7:=qG c kk oO;have P7:=fun x y=>nF st q c ii kk (x:=x) (y:=y) oO oO;have hia:=qN ii oO;have hka:=aU kk oO oO;clear D3 Z5;generalize hy1:c.getD ii 0=y1 at *;generalize Y1:c.getD kk 0=y2 at *;have O2:=P7 y1 y2 rfl rfl
 (repeat' (first|apply qS|refine qK (zZ ?_)|(apply qC;simp[f0,f1,fI,fJ,u7];(try with_reducible refine⟨?_,?_⟩)<;>(try with_reducible intro hc)<;>try (exfalso;omega))|(refine zE ?_;intro J hJ;simp[f0,f1,fI,fJ,u7];refine zJ hJ ?_)))
 (refine zS [] [q] [0,2,4,6,8,10,12,14,16,18,20,22,24,27,28,31] ?_;intro J hJ;simp[f0,f1,fI,fJ,hli,hlk,r8,z7,O7];(repeat refine ca ?_);refine zJ hJ ?_)
 refine xw4 fI fJ hia hka ?_;rw[O2];refine qL (fun m fr st2=>∃(ii jj:Nat) (c:List Int),a<ii/\ii<=jj+1/\jj<b/\jj=m/\fr 0=.ms q 0 l.length/\fr 1=i a/\fr 10=i ii/\fr 11=i jj/\st2=bx st q c/\Pm a b l c/\c.getD a 0=x/\Lo P c a ii/\Hi P c jj b) (kk-1) ?_ ?_
 .exact⟨ii+1,kk-1,sw c ii kk,oO,oO,oO,rfl,sF1 f0,sF1 f1,sS,sS,rfl,P8,hxx,hLo2,hHi2⟩
 clear f0 f1 fI fJ V6 V4 hLo2 hHi2 u5 P8 hx hxx r8 hd0 z7 O7 P7 O2 hy1 Y1 y1 y2 hai hij hak hik hik2 hli hlk hia hka u7 hkj hjb ii jj kk c fr;rintro m fr st2 ⟨ii,jj,c,hai,hij,hjb,rfl,f0,f1,fI,fJ,rfl,u5,hx,V6,V4⟩ JJ0 hJ0;have r8:=u5.len;have hd0:=qG c a oO;rw[hx]at hd0;apply qB;apply qS;refine cE (fun fr st2=>∃ ii:Nat,a<ii/\ii<=jj+1/\fr 0=.ms q 0 l.length/\fr 1=i a/\fr 10=i ii/\fr 11=i jj/\st2=bx st q c/\Lo P c a ii/\StU P c ii jj) ?_ ?_
 .apply qB;refine qL (fun m fr st2=>∃ ii:Nat,a<ii/\ii<=jj+1/\m=jj+1-ii/\fr 0=.ms q 0 l.length/\fr 1=i a/\fr 10=i ii/\fr 11=i jj/\st2=bx st q c/\Lo P c a ii) (jj+1-ii) ?_ ?_
  .exact⟨ii,oO,oO,rfl,sF1 f0,sF1 f1,sF1 fI,sF1 fJ,rfl,V6⟩
  clear f0 f1 fI fJ V6 hai hij fr ii;rintro m fr st2 ⟨ii,hai,hij,rfl,f0,f1,fI,fJ,rfl,V6⟩ JJ hJJ;have hia:=qN ii oO;by_cases u7:ii<=jj;rotate_left
  .clear hJJ
   (repeat (apply qS));(refine zS [] [q] [0,2,4,6,8,10,12,14,16,18,20,22,25,26] ?_;intro J hJ;simp[f0,f1,fI,fJ,u7];refine zJ hJ ?_)
   refine xw0 ?_;exact⟨trivial,ii,oO,oO,sF1 f0,sF1 f1,sF1 fI,sF1 fJ,by trivial,V6,fun h=>absurd h u7⟩
  have hli:ii<l.length:=oO;have z7:=qG c ii oO;have hmo:=V6.more;generalize hy:c.getD ii 0=y at *
  (repeat (apply qS));(refine zS [] [q] [0,2,4,6,8,10,12,14,16,18,20,22,25,26] ?_;intro J hJ;simp[f0,f1,fI,fJ,u7,hli,hla,r8,hd0,z7])
  refine aO (vQ y x _) ?_;rintro r s2 ⟨rfl,rfl⟩;refine⟨fun _=>by simp,?_⟩;have hP:=hPd y;by_cases V2:y<x
  ·(apply bJ;simp[V2];refine zJ hJ ?_)
   refine xw2 fI hia ?_;exact hJJ (jj+1-(ii+1)) _ _ oO ⟨ii+1,oO,oO,rfl,sF1 f0,sF1 f1,sS,sF1 fJ,rfl,hmo (by rw[hP];simp[V2])⟩
  .clear hJJ
   (apply bJ;simp[V2];refine zJ hJ ?_)
   refine xw0 ?_;exact⟨trivial,ii,oO,oO,sF1 f0,sF1 f1,sF1 fI,sF1 fJ,by trivial,V6,fun _=>by rw[hy,hP];simp[V2]⟩
 clear f0 f1 fI fJ V6 hai hij fr ii;rintro fr st2 ⟨ii,hai,hij,f0,f1,fI,fJ,rfl,V6,D3⟩;apply qS;refine cE (fun fr st2=>∃ kk:Nat,a<=kk/\kk<=jj/\ii<=kk+1/\fr 0=.ms q 0 l.length/\fr 1=i a/\fr 10=i ii/\fr 11=i kk/\st2=bx st q c/\Hi P c kk b/\StD P c ii kk) ?_ ?_
 .apply qB;refine qL (fun m fr st2=>∃ kk:Nat,a<=kk/\kk<=jj/\ii<=kk+1/\kk=m/\fr 0=.ms q 0 l.length/\fr 1=i a/\fr 10=i ii/\fr 11=i kk/\st2=bx st q c/\Hi P c kk b) jj ?_ ?_
  .exact⟨jj,oO,oO,oO,rfl,sF1 f0,sF1 f1,sF1 fI,sF1 fJ,rfl,V4⟩
  clear f0 f1 fI fJ V4 fr;rintro m fr st2 ⟨kk,hak,hkj,hik,rfl,f0,f1,fI,fJ,rfl,V4⟩ JJ hJJ;by_cases u7:ii<=kk;rotate_left
  .clear hJJ
   (repeat (apply qS));(refine zS [] [q] [0,2,4,6,8,10,12,14,16,18,20,22,25,26,28] ?_;intro J hJ;simp[f0,f1,fI,fJ,u7];refine zJ hJ ?_)
   refine xw0 ?_;exact⟨trivial,kk,oO,oO,oO,sF1 f0,sF1 f1,sF1 fI,sF1 fJ,by trivial,V4,fun h=>absurd h u7⟩
  have hja:=aU kk oO oO;have hlj:kk<l.length:=oO;have z7:=qG c kk oO;have hmo:=V4.more;generalize hy:c.getD kk 0=y at *
  (repeat (apply qS));(refine zS [] [q] [0,2,4,6,8,10,12,14,16,18,20,22,25,26,28] ?_;intro J hJ;simp[f0,f1,fI,fJ,u7,hlj,hla,r8,hd0,z7])
  refine aO (vQ y x _) ?_;rintro r s2 ⟨rfl,rfl⟩;refine⟨fun _=>by simp,?_⟩;have hP:=hPd y;by_cases V2:y<x
  .clear hJJ
   (apply bJ;simp[V2];refine zJ hJ ?_)
   refine xw0 ?_;exact⟨trivial,kk,oO,oO,oO,sF1 f0,sF1 f1,sF1 fI,sF1 fJ,by trivial,V4,fun _=>by rw[hy,hP];simp[V2]⟩
  ·(apply bJ;simp[V2];refine zJ hJ ?_)
   refine xw2 fJ hja ?_;exact hJJ (kk-1) _ _ oO ⟨kk-1,oO,oO,oO,rfl,sF1 f0,sF1 f1,sF1 fI,sS,rfl,hmo oO (by rw[hP];simp[V2])⟩
 clear f0 f1 fI fJ V4 fr;rintro fr st2 ⟨kk,hak,hkj,hik,f0,f1,fI,fJ,rfl,V4,Z5⟩;by_cases u7:ii<=kk;rotate_left
 .clear hJ0;have hke:ii=kk+1:=oO;have U3:=yR (hke ▸ V6) V4 oO oO oO;have P8:=u5.step kk a oO oO oO oO oO;have hlk:kk<l.length:=oO;have z7:=qG c kk oO;have P7:=fun x y=>nF st q c kk a (x:=x) (y:=y) oO oO;generalize hy1:c.getD kk 0=y1 at *;have O2:=P7 y1 x rfl hx
  (repeat' (first|apply qS|refine qX (zZ ?_)|(apply qC;simp[f0,f1,fI,fJ,u7];(try with_reducible intro hc))|(refine zE ?_;intro J hJ;simp[f0,f1,fI,fJ,u7];refine zJ hJ ?_)))
  (refine zS [] [q] [0,2,4,6,8,10,12,14,16,18,20,22,24,27,28,31] ?_;intro J hJ;simp[f0,f1,fI,fJ,hla,hlk,r8,hd0,z7];(repeat refine ca ?_);refine zJ hJ ?_)
  refine xw4 f0 f1 fI fJ ?_;exact⟨_,kk,rfl,O2,P8,oO,oO,by unfold cT;rw[U3.2,hx];have h:=U3.1;rwa [show P=_ from funext hPd]at h⟩
 have hik2:ii<kk:=by
  rcases aAM ii kk with h|h
  .exact h
  .exfalso;have e:ii=kk:=oO;have h1:=D3 oO;have h2:=Z5 u7;rw[e,h2]at h1;cases h1
 have hLo2:=V6.swp hik2 oO (Z5 u7);have hHi2:=V4.swp hik2 oO (D3 oO);have P8:=u5.step ii kk oO oO oO oO oO;have hxx:(sw c ii kk).getD a 0=x:=by rw[cS _ _ _ _ oO oO,aAa oO,aAa oO];exact hx
 have hli:ii<l.length:=oO;have hlk:kk<l.length:=oO;have z7:=qG c ii oO;have O7:=qG c kk oO;have P7:=fun x y=>nF st q c ii kk (x:=x) (y:=y) oO oO;have hia:=qN ii oO;have hka:=aU kk oO oO;clear D3 Z5;generalize hy1:c.getD ii 0=y1 at *;generalize Y1:c.getD kk 0=y2 at *;have O2:=P7 y1 y2 rfl rfl
 (repeat' (first|apply qS|refine qK (zZ ?_)|(apply qC;simp[f0,f1,fI,fJ,u7];(try with_reducible refine⟨?_,?_⟩)<;>(try with_reducible intro hc)<;>try (exfalso;omega))|(refine zE ?_;intro J hJ;simp[f0,f1,fI,fJ,u7];refine zJ hJ ?_)))
 (refine zS [] [q] [0,2,4,6,8,10,12,14,16,18,20,22,24,27,28,31] ?_;intro J hJ;simp[f0,f1,fI,fJ,hli,hlk,r8,z7,O7];(repeat refine ca ?_);refine zJ hJ ?_)
 refine xw4 fI fJ hia hka ?_;exact hJ0 (kk-1) _ _ oO ⟨ii+1,kk-1,sw c ii kk,oO,oO,oO,rfl,sF1 f0,sF1 f1,sS,sS,O2,P8,hxx,hLo2,hHi2⟩
theorem partitionEqual(l:List Int)(q a b pv:Nat)(st:St)(hl:small l)(x8:a<b)(hb:b<=l.length)(T7:a<=pv)(Y8:pv<b)(hH:st.H q=.box 34 1 (us l)):
 aB prog 127 [.ms q 0 l.length,i a,i b,i pv] st fun r st'=>∃(c:List Int) (G8:Nat),r=i G8/\st'=bx st q c/\Pm a b l c/\a<G8/\G8<=b/\HH c a G8 b (l.getD pv 0):=by
 unfold small at hl;refine zN func127 ntmps127 [.tmp 8] ?_
 (repeat (apply qS));(refine zE ?_;intro J hJ;simp[];refine zJ hJ ?_)
 have hla:a<l.length:=oO;have hlp:pv<l.length:=oO;have P7:=fun x y=>JS st q l a pv (x:=x) (y:=y) oO oO;have hd0:=qG l a oO;have z7:=qG l pv oO;have u5:Pm a b l (sw l a pv):=Pm.one a pv oO oO oO oO oO;have hx:(sw l a pv).getD a 0=l.getD pv 0:=by
  rw[cS _ _ _ _ oO oO];by_cases e:a=pv
  .rw[aAj e,e]
  .rw[aAa e,aAj rfl]
 generalize hy0:l.getD a 0=y0 at *;generalize hy1:l.getD pv 0=x at *;have O2:=P7 y0 x rfl rfl
 (repeat (apply qS));(refine zS [] [q] [0,2,4,6,8,10,12,14,16,18,20,22,24,27,28,31] ?_;intro J hJ;simp[hH,hla,hlp,hd0,z7];(repeat refine ca ?_);refine zJ hJ ?_)
 rw[O2];clear P7 O2 hd0 z7 hy0;generalize hc:sw l a pv=c at *;clear hc;have r8:=u5.len;have w1:=qN a oO;have w2:=aU b oO oO;obtain⟨P,hPd⟩:∃ P:Int->Bool,∀ v,P v=!decide (x<v):=⟨_,fun _=>rfl⟩;apply qS;refine cE (fun fr st2=>fr 0=.ms q 0 l.length/\fr 1=i a/\fr 9=i ((a+1:Nat):Int)/\fr 10=i ((b-1:Nat):Int)/\st2=bx st q c) (by(refine zE ?_;intro J hJ;simp[w1,w2];refine zJ hJ ?_);simp) ?_;rintro fr st2 ⟨f0,f1,fI,fJ,rfl⟩;have hai:a<a+1:=oO;have hij:a+1<=b-1+1:=oO;have hjb:b-1<b:=oO;have V6:Lo P c a (a+1):=fun p h1 h2=>by omega
 have V4:Hi P c (b-1) b:=fun p h1 h2=>by omega
 generalize a+1=ii at *;generalize b-1=jj at *;clear w1 w2;have hd0:=qG c a oO;rw[hx]at hd0;apply qS;apply qB;refine qL (fun m fr st2=>∃(ii jj:Nat) (c:List Int),a<ii/\ii<=jj+1/\jj<b/\jj=m/\fr 0=.ms q 0 l.length/\fr 1=i a/\fr 9=i ii/\fr 10=i jj/\st2=bx st q c/\Pm a b l c/\c.getD a 0=x/\Lo P c a ii/\Hi P c jj b) jj ?_ ?_
 .exact⟨ii,jj,c,oO,oO,oO,rfl,f0,f1,fI,fJ,rfl,u5,hx,V6,V4⟩
 clear f0 f1 fI fJ V6 V4 u5 hx r8 hd0 hai hij hjb ii jj c fr;rintro m fr st2 ⟨ii,jj,c,hai,hij,hjb,rfl,f0,f1,fI,fJ,rfl,u5,hx,V6,V4⟩ JJ0 hJ0;have r8:=u5.len;have hd0:=qG c a oO;rw[hx]at hd0;apply qB;apply qS;refine cE (fun fr st2=>∃ ii:Nat,a<ii/\ii<=jj+1/\fr 0=.ms q 0 l.length/\fr 1=i a/\fr 9=i ii/\fr 10=i jj/\st2=bx st q c/\Lo P c a ii/\StU P c ii jj) ?_ ?_
 .apply qB;refine qL (fun m fr st2=>∃ ii:Nat,a<ii/\ii<=jj+1/\m=jj+1-ii/\fr 0=.ms q 0 l.length/\fr 1=i a/\fr 9=i ii/\fr 10=i jj/\st2=bx st q c/\Lo P c a ii) (jj+1-ii) ?_ ?_
  .exact⟨ii,oO,oO,rfl,sF1 f0,sF1 f1,sF1 fI,sF1 fJ,rfl,V6⟩
  clear f0 f1 fI fJ V6 hai hij fr ii;rintro m fr st2 ⟨ii,hai,hij,rfl,f0,f1,fI,fJ,rfl,V6⟩ JJ hJJ;have hia:=qN ii oO;by_cases u7:ii<=jj;rotate_left
  .clear hJJ
   (repeat (apply qS));(refine zS [] [q] [0,2,4,6,8,10,12,14,16,18,20,22,25,26,28] ?_;intro J hJ;simp[f0,f1,fI,fJ,u7];refine zJ hJ ?_)
   refine xw0 ?_;exact⟨trivial,ii,oO,oO,sF1 f0,sF1 f1,sF1 fI,sF1 fJ,by trivial,V6,fun h=>absurd h u7⟩
  have hli:ii<l.length:=oO;have z7:=qG c ii oO;have hmo:=V6.more;generalize hy:c.getD ii 0=y at *
  (repeat (apply qS));(refine zS [] [q] [0,2,4,6,8,10,12,14,16,18,20,22,25,26,28] ?_;intro J hJ;simp[f0,f1,fI,fJ,u7,hli,hla,r8,hd0,z7])
  refine aO (vQ x y _) ?_;rintro r s2 ⟨rfl,rfl⟩;refine⟨fun _=>by simp,?_⟩;have hP:=hPd y;by_cases V2:x<y
  .clear hJJ
   (apply bJ;simp[V2];refine zJ hJ ?_)
   refine xw0 ?_;exact⟨trivial,ii,oO,oO,sF1 f0,sF1 f1,sF1 fI,sF1 fJ,by trivial,V6,fun _=>by rw[hy,hP];simp[V2]⟩
  ·(apply bJ;simp[V2];refine zJ hJ ?_)
   refine xw2 fI hia ?_;exact hJJ (jj+1-(ii+1)) _ _ oO ⟨ii+1,oO,oO,rfl,sF1 f0,sF1 f1,sS,sF1 fJ,rfl,hmo (by rw[hP];simp[V2])⟩
 clear f0 f1 fI fJ V6 hai hij fr ii;rintro fr st2 ⟨ii,hai,hij,f0,f1,fI,fJ,rfl,V6,D3⟩;apply qS;refine cE (fun fr st2=>∃ kk:Nat,a<=kk/\kk<=jj/\ii<=kk+1/\fr 0=.ms q 0 l.length/\fr 1=i a/\fr 9=i ii/\fr 10=i kk/\st2=bx st q c/\Hi P c kk b/\StD P c ii kk) ?_ ?_
 .apply qB;refine qL (fun m fr st2=>∃ kk:Nat,a<=kk/\kk<=jj/\ii<=kk+1/\kk=m/\fr 0=.ms q 0 l.length/\fr 1=i a/\fr 9=i ii/\fr 10=i kk/\st2=bx st q c/\Hi P c kk b) jj ?_ ?_
  .exact⟨jj,oO,oO,oO,rfl,sF1 f0,sF1 f1,sF1 fI,sF1 fJ,rfl,V4⟩
  clear f0 f1 fI fJ V4 fr;rintro m fr st2 ⟨kk,hak,hkj,hik,rfl,f0,f1,fI,fJ,rfl,V4⟩ JJ hJJ;by_cases u7:ii<=kk;rotate_left
  .clear hJJ
   (repeat (apply qS));(refine zS [] [q] [0,2,4,6,8,10,12,14,16,18,20,22,25,26] ?_;intro J hJ;simp[f0,f1,fI,fJ,u7];refine zJ hJ ?_)
   refine xw0 ?_;exact⟨trivial,kk,oO,oO,oO,sF1 f0,sF1 f1,sF1 fI,sF1 fJ,by trivial,V4,fun h=>absurd h u7⟩
  have hja:=aU kk oO oO;have hlj:kk<l.length:=oO;have z7:=qG c kk oO;have hmo:=V4.more;generalize hy:c.getD kk 0=y at *
  (repeat (apply qS));(refine zS [] [q] [0,2,4,6,8,10,12,14,16,18,20,22,25,26] ?_;intro J hJ;simp[f0,f1,fI,fJ,u7,hlj,hla,r8,hd0,z7])
  refine aO (vQ x y _) ?_;rintro r s2 ⟨rfl,rfl⟩;refine⟨fun _=>by simp,?_⟩;have hP:=hPd y;by_cases V2:x<y
  ·(apply bJ;simp[V2];refine zJ hJ ?_)
   refine xw2 fJ hja ?_;exact hJJ (kk-1) _ _ oO ⟨kk-1,oO,oO,oO,rfl,sF1 f0,sF1 f1,sF1 fI,sS,rfl,hmo oO (by rw[hP];simp[V2])⟩
  .clear hJJ
   (apply bJ;simp[V2];refine zJ hJ ?_)
   refine xw0 ?_;exact⟨trivial,kk,oO,oO,oO,sF1 f0,sF1 f1,sF1 fI,sF1 fJ,by trivial,V4,fun _=>by rw[hy,hP];simp[V2]⟩
 clear f0 f1 fI fJ V4 fr;rintro fr st2 ⟨kk,hak,hkj,hik,f0,f1,fI,fJ,rfl,V4,Z5⟩;by_cases u7:ii<=kk;rotate_left
 .clear hJ0
  (repeat' (first|apply qS|refine qX (zZ ?_)|(refine qR (zZ ?_);simp[f0,f1,fI,fJ,u7])|(apply qC;simp[f0,f1,fI,fJ,u7];(try with_reducible intro hc))|(refine zE ?_;intro J hJ;simp[f0,f1,fI,fJ,u7];refine zJ hJ ?_)))
  refine⟨c,ii,rfl,rfl,u5,oO,oO,fun p h1 h2=>?_,fun p h1 h2=>?_⟩
  .by_cases e:p=a
   .rw[e,hx];exact aDj _
   .have:=V6 p oO h2;rw[hPd]at this;simpa using this
  .have:=V4 p oO h2;rw[hPd]at this;simpa using this
 have hik2:ii<kk:=by
  rcases aAM ii kk with h|h
  .exact h
  .exfalso;have e:ii=kk:=oO;have h1:=D3 oO;have h2:=Z5 u7;rw[e,h2]at h1;cases h1
 have hLo2:=V6.swp hik2 oO (Z5 u7);have hHi2:=V4.swp hik2 oO (D3 oO);have P8:=u5.step ii kk oO oO oO oO oO;have hxx:(sw c ii kk).getD a 0=x:=by rw[cS _ _ _ _ oO oO,aAa oO,aAa oO];exact hx
 have hli:ii<l.length:=oO;have hlk:kk<l.length:=oO;have z7:=qG c ii oO;have O7:=qG c kk oO;have P7:=fun x y=>nF st q c ii kk (x:=x) (y:=y) oO oO;have hia:=qN ii oO;have hka:=aU kk oO oO;clear D3 Z5;generalize hy1:c.getD ii 0=y1 at *;generalize Y1:c.getD kk 0=y2 at *;have O2:=P7 y1 y2 rfl rfl
 (repeat' (first|apply qS|refine qK (zZ ?_)|(apply qC;simp[f0,f1,fI,fJ,u7];(try with_reducible refine⟨?_,?_⟩)<;>(try with_reducible intro hc)<;>try (exfalso;omega))|(refine zE ?_;intro J hJ;simp[f0,f1,fI,fJ,u7];refine zJ hJ ?_)))
 (refine zS [] [q] [0,2,4,6,8,10,12,14,16,18,20,22,24,27,28,31] ?_;intro J hJ;simp[f0,f1,fI,fJ,hli,hlk,r8,z7,O7];(repeat refine ca ?_);refine zJ hJ ?_)
 refine xw4 fI fJ hia hka ?_;exact hJ0 (kk-1) _ _ oO ⟨ii+1,kk-1,sw c ii kk,oO,oO,oO,rfl,sF1 f0,sF1 f1,sS,sS,O2,P8,hxx,hLo2,hHi2⟩
def rQ(l:List Int)(a b:Nat):Prop:=0<a->∀ j,a<=j->j<b->l.getD (a-1) 0<=l.getD j 0
theorem rQ.pm{l c:List Int}{a b:Nat}(h:rQ l a b)(k:Pm a b l c):rQ c a b:=by intro h0 j h1 h2;rw[k.out (a-1) oO];exact k.all (fun x=>l.getD (a-1) 0<=x) (fun j h1 h2=>h h0 j h1 h2) j h1 h2
def Zd(c:List Int)(k b:Nat):Prop:=k<b->c.getD k 0<c.getD (k-1) 0
def ZL(p:Bool)(a b:Nat)(c:List Int):Prop:=p=true->Srt a b c
def VP(q a b k j:Nat)(l:List Int)(st:St)(fr:Frm)(st2:St):Prop:=∃ c:List Int,fr 0=.ms q 0 l.length/\fr 1=i a/\fr 2=i b/\fr 7=i k/\fr 8=i j/\st2=bx st q c/\Pm a b l c/\Srt a k c
theorem partialInsertionSort(l:List Int)(q a b:Nat)(st:St)(hl:small l)(ha:a<b)(hb:b<=l.length)(hah:rQ l a b)(hH:st.H q=.box 34 1 (us l)):
 aB prog 125 [.ms q 0 l.length,i a,i b] st fun r st'=>∃ c p,r=bb p/\st'=bx st q c/\Pm a b l c/\ZL p a b c:=by
 unfold small at hl;refine zN func125 ntmps125 [.tmp 6] ?_;have hw0:=qN a oO;refine xw1 hw0 ?_;refine qL (fun n fr st2=>∃(j k:Nat) (c:List Int),j<=5/\n=5-j/\a<k/\k<=b/\fr 0=.ms q 0 l.length/\fr 1=i a/\fr 2=i b/\fr 7=i k/\fr 8=i j/\st2=bx st q c/\Pm a b l c/\Srt a k c) 5 ?_ ?_
 .exact⟨0,a+1,l,oO,rfl,oO,oO,sS,sS,sS,sS,sS,uX hH,.refl,fun p q h1 h2 h3=>by omega⟩
 rintro n fr st2 ⟨j,k,c,hj,rfl,hak,hkb,f0,f1,f2,f7,f8,rfl,u5,hs⟩ J0 hJ0;by_cases hj5:(j:Int)<5;rotate_left
 .clear hJ0;refine xw2 f8 hj5 ?_;exact⟨c,rfl,u5,fun h=>by cases h⟩
 have r8:=u5.len
 (repeat (apply qS));(refine zE ?_;intro J hJ;simp[f8,hj5];refine zJ hJ ?_)
 (apply qC;simp[])
 refine qK (zZ ?_);apply qS;apply qB;apply qS;refine cE (fun fr st2=>∃ k:Nat,a<k/\k<=b/\fr 0=.ms q 0 l.length/\fr 1=i a/\fr 2=i b/\fr 7=i k/\fr 8=i j/\st2=bx st q c/\Srt a k c/\Zd c k b) ?_ ?_
 .apply qB;refine qL (fun n fr st2=>∃ k:Nat,n=b-k/\a<k/\k<=b/\fr 0=.ms q 0 l.length/\fr 1=i a/\fr 2=i b/\fr 7=i k/\fr 8=i j/\st2=bx st q c/\Srt a k c) (b-k) ?_ ?_
  .exact⟨k,rfl,hak,hkb,sF1 f0,sF1 f1,sF1 f2,sF1 f7,sF1 f8,rfl,hs⟩
  clear f0 f1 f2 f7 f8 hs hak hkb fr k;rintro n fr st2 ⟨k,rfl,hak,hkb,f0,f1,f2,f7,f8,rfl,hs⟩ JJ hJJ;by_cases dA:k<b;rotate_left
  .clear hJJ
   (repeat (apply qS));(refine zS [] [q] [0,2,4,6,8,10,12,14,16,18,20,22,24,27,28,30] ?_;intro J hJ;simp[f0,f2,f7,dA];refine zJ hJ ?_)
   refine xw0 ?_;exact⟨trivial,k,oO,oO,sF1 f0,sF1 f1,sF1 f2,sF1 f7,sF1 f8,by trivial,hs,fun h=>absurd h dA⟩
  have w1:=qN k oO;have w2:=aU k oO oO;have z7:=qG c k oO;have O7:=qG c (k-1) oO;have hl1:k<l.length:=oO;have hl2:k-1<l.length:=oO;have j5:=hs.ins.done oO;generalize hx:c.getD k 0=x at *;generalize hy:c.getD (k-1) 0=y at *
  (repeat (apply qS));(refine zS [] [q] [0,2,4,6,8,10,12,14,16,18,20,22,24,27,28,30] ?_;intro J hJ;simp[f0,f2,f7,dA,w2,hl1,hl2,r8,z7,O7])
  refine aO (vQ x y _) ?_;rintro r s2 ⟨rfl,rfl⟩;refine⟨fun _=>by simp,?_⟩;by_cases L7:x<y
  .clear hJJ
   (apply bJ;simp[L7];refine zJ hJ ?_)
   refine xw0 ?_;exact⟨trivial,k,oO,oO,sF1 f0,sF1 f1,sF1 f2,sF1 f7,sF1 f8,by trivial,hs,fun h=>by rw[hx,hy];exact L7⟩
  ·(apply bJ;simp[L7];refine zJ hJ ?_)
   refine xw2 f7 w1 ?_;exact hJJ (b-(k+1)) _ _ oO ⟨k+1,rfl,oO,oO,sF1 f0,sF1 f1,sF1 f2,sS,sF1 f8,rfl,j5 (.inr L7)⟩
 clear f0 f1 f2 f7 f8 hs hak hkb fr k;rintro fr st2 ⟨k,hak,hkb,f0,f1,f2,f7,f8,rfl,hs,hfall⟩;by_cases hkb2:k=b
 .clear hJ0;have hkb3:(k:Int)=(b:Int):=oO;refine xw3 f2 f7 hkb3 ?_;exact⟨c,rfl,u5,fun _=>by rw[<- hkb2];exact hs⟩
 have hkb3:¬(k:Int)=(b:Int):=oO;have w1:IntKind.i64.wrap ((b:Int)-(a:Int))=(b:Int)-(a:Int):=zW;by_cases h50:(b:Int)-(a:Int)<50
 .clear hJ0;refine xw6 f1 f2 f7 hkb3 w1 h50 ?_;exact⟨c,rfl,u5,fun h=>by cases h⟩
 have w2:=aU k oO oO;have z7:=qG c k oO;have O7:=qG c (k-1) oO;have hl1:k<l.length:=oO;have hl2:k-1<l.length:=oO;have P7:=fun x y=>nF st q c k (k-1) (x:=x) (y:=y) oO oO;have hs1:Srt a (k-1) (sw c k (k-1)):=by intro p q h1 h2 h3;rw[cS _ _ _ _ oO oO,cS _ _ _ _ oO oO,aAa oO,aAa oO,aAa oO,aAa oO];exact hs p q h1 h2 oO
 have hpm1:=u5.step k (k-1) oO oO oO oO oO;generalize hx:c.getD k 0=x at *;generalize hy:c.getD (k-1) 0=y at *;have O2:=P7 x y rfl rfl;refine xw6 f1 f2 f7 hkb3 w1 h50 ?_
 (refine zS [] [q] [0,2,4,6,8,10,12,14,16,18,20,22,24,26,28,31,32,35] ?_;intro J hJ;simp[f0,f7,w2,hl1,hl2,r8,z7,O7];(repeat refine ca ?_);refine zJ hJ ?_)
 rw[O2];clear P7 O2 z7 O7 hx hy hs hfall;generalize hc1:sw c k (k-1)=c1 at *;have hcl1:=hpm1.len;clear hc1 u5 r8 c;have w3:IntKind.i64.wrap ((k:Int)-(a:Int))=(k:Int)-(a:Int):=zW;apply qS;refine cE (VP q a b k j l st) ?_ ?_
 .by_cases u6:(2:Int)<=(k:Int)-(a:Int);rotate_left
  .refine xw4 f1 f7 w3 u6 ?_;refine⟨by trivial,?_⟩;unfold VP;exact⟨c1,sF1 f0,sF1 f1,sF1 f2,sF1 f7,sF1 f8,by trivial,hpm1,fun p q h1 h2 h3=>by omega⟩
  refine xw5 f1 f7 w3 u6 w2 ?_;refine qL (fun n fr st2=>∃(m:Nat) (c:List Int),a<=m/\m<=k-1/\m=n/\fr 0=.ms q 0 l.length/\fr 1=i a/\fr 2=i b/\fr 7=i k/\fr 8=i j/\fr 9=i m/\st2=bx st q c/\Pm a b l c/\Ins a m (k-1) c) (k-1) ?_ ?_
  .exact⟨k-1,c1,oO,oO,rfl,sF1 f0,sF1 f1,sF1 f2,sF1 f7,sF1 f8,sS,rfl,hpm1,hs1.ins⟩
  clear f0 f1 f2 f7 f8 hpm1 hs1 hcl1 c1 fr;rintro n fr st2 ⟨m,c,ham,hmk,rfl,f0,f1,f2,f7,f8,f9,rfl,u5,hI⟩ JJ hJJ;have r8:=u5.len;have j7:k-1+1=k:=oO;by_cases hm1:(1:Int)<=(m:Int);rotate_left
  .clear hJJ;refine xw2 f9 hm1 ?_;refine⟨by trivial,?_⟩;unfold VP;refine⟨c,sF1 f0,sF1 f1,sF1 f2,sF1 f7,sF1 f8,by trivial,u5,?_⟩;have:=hI.done ham (.inl oO);rwa [j7]at this
  have w4:=aU m oO oO;have z7:=qG c m oO;have O7:=qG c (m-1) oO;have hl3:m<l.length:=oO;have hl4:m-1<l.length:=oO;have P7:=fun x y=>nF st q c m (m-1) (x:=x) (y:=y) oO oO;have hahm:m=a->¬c.getD m 0<c.getD (m-1) 0:=by rintro rfl;have:=hah.pm u5 oO m oO oO;omega
  have hdone:=hI.done ham;rw[j7]at hdone;have L8:=fun h=>hI.step h hmk oO;generalize hx:c.getD m 0=x at *;generalize hy:c.getD (m-1) 0=y at *;have O2:=P7 x y rfl rfl;refine xw2 f9 hm1 ?_
  (refine zS [] [q] [0,2,4,6,8,10,12,14,16,19,20] ?_;intro J hJ;simp[f0,f9,w4,hl3,hl4,r8,z7,O7])
  refine aO (vQ x y _) ?_;rintro r s2 ⟨rfl,rfl⟩;refine⟨fun _=>by simp,?_⟩;by_cases L7:x<y;rotate_left
  .clear hJJ
   (apply bJ;simp[L7];refine zJ hJ ?_)
   refine xw0 ?_;refine⟨by trivial,?_⟩;unfold VP;exact⟨c,sF1 f0,sF1 f1,sF1 f2,sF1 f7,sF1 f8,by trivial,u5,hdone (.inr L7)⟩
  have hma:a<m:=by
   rcases aAM a m with h|h
   .exact h
   .exact absurd L7 (hahm oO)
  have P8:=u5.step m (m-1) oO oO oO oO oO
  (apply bJ;simp[L7];refine zJ hJ ?_)
  refine xw0 ?_
  (refine zS [] [q] [0,2,4,6,8,10,12,14,16,18,20,22,24,26,28,31,32,35] ?_;intro J hJ;simp[f0,f9,w4,hl3,hl4,r8,z7,O7];(repeat refine ca ?_);refine zJ hJ ?_)
  refine xw2 f9 w4 ?_;exact hJJ (m-1) _ _ oO ⟨m-1,sw c m (m-1),oO,oO,rfl,sF1 f0,sF1 f1,sF1 f2,sF1 f7,sF1 f8,sS,O2,P8,L8 hma L7⟩
 clear f0 f1 f2 f7 f8 hpm1 hs1 hcl1 c1 fr;rintro fr st2 ⟨c,f0,f1,f2,f7,f8,rfl,u5,hs⟩;have r8:=u5.len;have w5:IntKind.i64.wrap ((b:Int)-(k:Int))=(b:Int)-(k:Int):=zW;have w6:=qN j oO;have w7:=qN k oO;by_cases u6:(2:Int)<=(b:Int)-(k:Int);rotate_left
 .refine xw6 f2 f7 w5 u6 f8 w6 ?_;exact hJ0 (5-(j+1)) _ _ oO ⟨j+1,k,c,oO,rfl,hak,hkb,sF1 f0,sF1 f1,sF1 f2,sF1 f7,sS,rfl,u5,hs⟩
 refine xw5 f2 f7 w5 u6 w7 ?_;refine qL (fun n fr st2=>∃(m:Nat) (c:List Int),k<m/\m<=b/\n=b-m/\fr 0=.ms q 0 l.length/\fr 1=i a/\fr 2=i b/\fr 7=i k/\fr 8=i j/\fr 10=i m/\st2=bx st q c/\Pm a b l c/\Srt a k c) (b-(k+1)) ?_ ?_
 .exact⟨k+1,c,oO,oO,rfl,sF1 f0,sF1 f1,sF1 f2,sF1 f7,sF1 f8,sS,rfl,u5,hs⟩
 clear f0 f1 f2 f7 f8 u5 hs r8 c fr;rintro n fr st2 ⟨m,c,hkm,hmb,rfl,f0,f1,f2,f7,f8,f10,rfl,u5,hs⟩ JJ hJJ;have r8:=u5.len;by_cases dA:m<b;rotate_left
 .clear hJJ;refine xw5 f2 f10 dA f8 w6 ?_;exact hJ0 (5-(j+1)) _ _ oO ⟨j+1,k,c,oO,rfl,hak,hkb,sF1 f0,sF1 f1,sF1 f2,sF1 f7,sS,rfl,u5,hs⟩
 have w4:=aU m oO oO;have w8:=qN m oO;have z7:=qG c m oO;have O7:=qG c (m-1) oO;have hl3:m<l.length:=oO;have hl4:m-1<l.length:=oO;have P7:=fun x y=>nF st q c m (m-1) (x:=x) (y:=y) oO oO;have P8:=u5.step m (m-1) oO oO oO oO oO;have hs2:Srt a k (sw c m (m-1)):=by intro p q h1 h2 h3;rw[cS _ _ _ _ oO oO,cS _ _ _ _ oO oO,aAa oO,aAa oO,aAa oO,aAa oO];exact hs p q h1 h2 oO
 generalize hx:c.getD m 0=x at *;generalize hy:c.getD (m-1) 0=y at *;have O2:=P7 x y rfl rfl;refine xw3 f2 f10 dA ?_
 (refine zS [] [q] [0,2,4,6,8,10,12,14,16,19,20] ?_;intro J hJ;simp[f0,f10,w4,hl3,hl4,r8,z7,O7])
 refine aO (vQ x y _) ?_;rintro r s2 ⟨rfl,rfl⟩;refine⟨fun _=>by simp,?_⟩;by_cases L7:x<y;rotate_left
 .clear hJJ
  (apply bJ;simp[L7];refine zJ hJ ?_)
  refine xw2 f8 w6 ?_;exact hJ0 (5-(j+1)) _ _ oO ⟨j+1,k,c,oO,rfl,hak,hkb,sF1 f0,sF1 f1,sF1 f2,sF1 f7,sS,rfl,u5,hs⟩
 (apply bJ;simp[L7];refine zJ hJ ?_)
 refine xw0 ?_
 (refine zS [] [q] [0,2,4,6,8,10,12,14,16,18,20,22,24,26,28,31,32,35] ?_;intro J hJ;simp[f0,f10,w4,hl3,hl4,r8,z7,O7];(repeat refine ca ?_);refine zJ hJ ?_)
 refine xw2 f10 w8 ?_;exact hJJ (b-(m+1)) _ _ oO ⟨m+1,sw c m (m-1),oO,oO,rfl,sF1 f0,sF1 f1,sF1 f2,sF1 f7,sF1 f8,sS,O2,P8,hs2⟩
abbrev ix(st:St)(p:Nat)(s:Int):St:=st.set p (.box 3 1 [i s])
theorem LB{st:St}{p:Nat}{s:Int}(h:st.H p=.box 3 1 [i s]):st=ix st p s:=
 St.ext' rfl fun x=>by by_cases hx:x=p<;>simp[hx,h]
theorem Lb(st:St)(p:Nat)(s s':Int):ix (ix st p s) p s'=ix st p s':=St.set_set _ _ _ _
theorem order2(l:List Int)(q p a b:Nat)(s:Int)(st:St)(hl:small l)(ha:a<l.length)(hb:b<l.length)(hpq:q≠p)(hH:st.H q=.box 34 1 (us l))(hp:st.H p=.box 3 1 [i s]):
 aB prog 190 [.ms q 0 l.length,i a,i b,.pt p 0] st fun r st'=>∃(x y:Nat) (s':Int),r=.tu [i x,i y]/\st'=ix st p s'/\((x=a/\y=b)\/(x=b/\y=a)):=by
 unfold small at hl;have z7:=qG l a ha;have O7:=qG l b hb;generalize l.getD a 0=x at *;generalize l.getD b 0=y at *;refine zN func190 ntmps190 [.tmp 8,.tmp 9] ?_
 (repeat (apply qS));(refine zE ?_;intro J hJ;simp[];refine zJ hJ ?_)
 (repeat (apply qS));(refine zS [] [q] [0,2,4,6,8,10,12,14,17] ?_;intro J hJ;simp[hH,ha,hb,z7,O7])
 refine aO (vQ y x _) ?_;rintro r s2 ⟨rfl,rfl⟩;refine⟨fun _=>by simp[hH],?_⟩;by_cases V2:y<x
 ·(apply bJ;simp[V2];refine zJ hJ ?_)
  refine xw1 hp ?_;exact⟨b,a,⟨rfl,rfl⟩,⟨_,rfl⟩,.inr ⟨rfl,rfl⟩⟩
 ·(apply bJ;simp[V2];refine zJ hJ ?_)
  refine xw0 ?_;exact⟨a,b,⟨rfl,rfl⟩,⟨s,LB hp⟩,.inl ⟨rfl,rfl⟩⟩
theorem median(l:List Int)(q p a b c:Nat)(s:Int)(st:St)(hl:small l)(ha:a<l.length)(hb:b<l.length)(hc:c<l.length)(hpq:q≠p)(hH:st.H q=.box 34 1 (us l))(hp:st.H p=.box 3 1 [i s]):
 aB prog 167 [.ms q 0 l.length,i a,i b,i c,.pt p 0] st fun r st'=>∃(x:Nat) (s':Int),r=i x/\st'=ix st p s'/\(x=a\/x=b\/x=c):=by
 refine zN func167 ntmps167 [.tmp 10] ?_
 (refine xj0 ?_;intro J hJ)
 refine qF (order2 l q p a b s _ hl ha hb hpq hH hp) ?_;rintro r st' ⟨x,y,s1,rfl,rfl,h1⟩
 (refine pG hJ ?_;intro J hJ)
 refine qF (order2 l q p y c s1 _ hl oO hc hpq (sF2 hpq hH) sS) ?_;rintro r st' ⟨x2,y2,s2,rfl,rfl,h2⟩
 (refine pG hJ ?_;intro J hJ)
 refine qF (order2 l q p x x2 s2 _ hl oO oO hpq (sF2 hpq hH) sS) ?_;rintro r st' ⟨x3,y3,s3,rfl,rfl,h3⟩;refine dQ hJ ?_;refine⟨y3,rfl,⟨s3,?_⟩,oO⟩;rw[Lb,Lb]
theorem medianAdjacent(l:List Int)(q p a:Nat)(s:Int)(st:St)(hl:small l)(h0:0<a)(ha:a+1<l.length)(hpq:q≠p)(hH:st.H q=.box 34 1 (us l))(hp:st.H p=.box 3 1 [i s]):
 aB prog 166 [.ms q 0 l.length,i a,.pt p 0] st fun r st'=>∃(x:Nat) (s':Int),r=i x/\st'=ix st p s'/\a-1<=x/\x<=a+1:=by
 have O5:=hl;unfold small at O5;have w1:=qN a oO;have w2:=aU a oO oO;refine zN func166 ntmps166 [.tmp 6] ?_
 (refine xj2 w1 w2 ?_;intro J hJ)
 refine qF (median l q p (a-1) a (a+1) s _ hl oO oO oO hpq hH hp) ?_;rintro r st' ⟨x,s1,rfl,rfl,h1⟩;refine dQ hJ ?_;exact⟨x,rfl,⟨s1,rfl⟩,oO⟩
def Wf(q n a b:Nat)(st:St)(fr:Frm)(st2:St):Prop:=∃(j1 j2 j3:Nat) (s:Int),fr 0=.ms q 0 n/\fr 9=.pt st.next 0/\fr 10=i j1/\fr 11=i j2/\fr 12=i j3/\a<=j1/\j1<b/\a<=j2/\j2<b/\a<=j3/\j3<b/\st2=ix (st.new (.box 3 1 [i 0])) st.next s
theorem choosePivot(l:List Int)(q a b:Nat)(st:St)(hl:small l)(x8:a+8<=b)(hb:b<=l.length)(hqn:q<st.next)(hH:st.H q=.box 34 1 (us l)):
 aB prog 123 [.ms q 0 l.length,i a,i b] st fun r st'=>∃(x:Nat) (h:Int),r=.tu [i x,i h]/\a<=x/\x<b/\aA st st':=by
 have O5:=hl;unfold small at O5;obtain⟨n,hn⟩:∃ n:Nat,n=b-a:=⟨_,rfl⟩;obtain⟨n4,hn4⟩:∃ m:Nat,m=n / 4:=⟨_,rfl⟩;obtain⟨k1,j7⟩:∃ m:Nat,m=a+n4:=⟨_,rfl⟩;obtain⟨k2,u6⟩:∃ m:Nat,m=a+n4*2:=⟨_,rfl⟩;obtain⟨k3,o8⟩:∃ m:Nat,m=a+n4*3:=⟨_,rfl⟩;have w1:IntKind.i64.wrap ((b:Int)-(a:Int))=(n:Int):=zW;have w2:IntKind.i64.wrap ((n:Int) / 4)=(n4:Int):=by rw[show(n:Int) / 4=((n / 4:Nat):Int) from rfl,<- hn4];exact wrap_i64 _ oO oO
 have w3:IntKind.i64.wrap (n4:Int)=(n4:Int):=zW;have w4:IntKind.i64.wrap ((n4:Int)*2)=((n4*2:Nat):Int):=zW;have w5:IntKind.i64.wrap ((n4:Int)*3)=((n4*3:Nat):Int):=zW;have w6:IntKind.i64.wrap ((a:Int)+(n4:Int))=(k1:Int):=zW;have w7:IntKind.i64.wrap ((a:Int)+((n4*2:Nat):Int))=(k2:Int):=zW;have w8:IntKind.i64.wrap ((a:Int)+((n4*3:Nat):Int))=(k3:Int):=zW;have h8:(8:Int)<=(n:Int):=oO;have hqn':q≠st.next:=oO;generalize ((n4*2:Nat):Int)=e2 at *;generalize ((n4*3:Nat):Int)=e3 at *;refine zN func123 ntmps123 [.tmp 6,.tmp 7] ?_
 (repeat' (first|apply qS|(refine zE ?_;intro J hJ;simp[w1,w2,w3,w4,w5,w6,w7,w8,h8];(refine zJ hJ ?_;clear hJ J))))
 apply qC;simp[h8];apply qS;refine cE (Wf q l.length a b st) ?_ ?_
 .by_cases h50:(50:Int)<=(n:Int)
  ·(refine xj1 h50 ?_;intro J hJ)
   refine qF (medianAdjacent l q st.next k1 0 _ hl oO oO hqn' (sF2 hqn' hH) sS) ?_;rintro r st' ⟨x1,s1,rfl,rfl,h1⟩
   (refine pG hJ ?_;intro J hJ)
   refine qF (medianAdjacent l q st.next k2 s1 _ hl oO oO hqn' (sF2 hqn' hH) sS) ?_;rintro r st' ⟨x2,s2,rfl,rfl,h2⟩
   (refine pG hJ ?_;intro J hJ)
   refine qF (medianAdjacent l q st.next k3 s2 _ hl oO oO hqn' (sF2 hqn' hH) sS) ?_;rintro r st' ⟨x3,s3,rfl,rfl,h3⟩;refine dQ hJ ?_;refine⟨by trivial,?_⟩;unfold Wf;exact⟨x1,x2,x3,s3,sS,sS,sS,sS,sS,oO,oO,oO,oO,oO,oO,by rw[Lb,Lb]⟩
  .refine xw1 h50 ?_;refine⟨by trivial,?_⟩;unfold Wf;exact⟨k1,k2,k3,0,sS,sS,sS,sS,sS,oO,oO,oO,oO,oO,oO,LB sS⟩
 rintro fr st2 ⟨j1,j2,j3,s,f0,f9,f10,f11,f12,h1,h2,h3,h4,h5,h6,rfl⟩
 (refine xj5 f0 f9 f10 f11 f12 ?_;intro J hJ)
 refine qF (median l q st.next j1 j2 j3 s _ hl oO oO oO hqn' (sF2 hqn' hH) sS) ?_;rintro r st' ⟨x,s1,rfl,rfl,hx⟩;have j8:aA st (ix (ix (st.new (.box 3 1 [i 0])) st.next s) st.next s1):=((aA.new _ _).set (aAl _) _).set (aAl _) _;have hax:a<=x/\x<b:=oO
 (repeat' (first|apply qS|apply qB|(refine qR (zZ ?_);simp[f9])|(apply qC;simp[f9];(try with_reducible refine⟨?_,?_⟩)<;>(try with_reducible intro hc))|((first|(refine zE ?_;intro J hJ)|(apply cI));simp[f9];(refine zJ hJ ?_;clear hJ J))))
 all_goals exact⟨x,rfl,hax.1,hax.2,j8⟩
abbrev uw(n:Int):LV:=.atom (.int .u64 n)
def iU(m:Nat):Nat:=if m=0 then 0 else Nat.log2 m+1
def mC(n:Nat):Nat:=if 256<=n then 8+iU (n / 256)else iU n
theorem wrap_u64(n:Int)(h1:0<=n)(h2:n<18446744073709551616):IntKind.u64.wrap n=n:=by
 grind [IntKind.wrap,IntKind.signed,IntKind.bits]
theorem wrap_u8(n:Int)(h1:0<=n)(h2:n<256):IntKind.u8.wrap n=n:=by
 grind [IntKind.wrap,IntKind.signed,IntKind.bits]
abbrev BM:ByteArray:={ data:=((List.append [0,1,2,2,3,3,3,3,4,4,4,4,4,4,4,4,5,5,5,5,5,5,5,5,5,5,5,5,5,5,5,5,6,6,6,6,6,6,6,6,6,6,6,6,6,6,6,6,6,6,6,6,6,6,6,6,6,6,6,6,6,6,6,6] [7,7,7,7,7,7,7,7,7,7,7,7,7,7,7,7,7,7,7,7,7,7,7,7,7,7,7,7,7,7,7,7,7,7,7,7,7,7,7,7,7,7,7,7,7,7,7,7,7,7,7,7,7,7,7,7,7,7,7,7,7,7,7,7]).append (List.append [8,8,8,8,8,8,8,8,8,8,8,8,8,8,8,8,8,8,8,8,8,8,8,8,8,8,8,8,8,8,8,8,8,8,8,8,8,8,8,8,8,8,8,8,8,8,8,8,8,8,8,8,8,8,8,8,8,8,8,8,8,8,8,8] [8,8,8,8,8,8,8,8,8,8,8,8,8,8,8,8,8,8,8,8,8,8,8,8,8,8,8,8,8,8,8,8,8,8,8,8,8,8,8,8,8,8,8,8,8,8,8,8,8,8,8,8,8,8,8,8,8,8,8,8,8,8,8,8])).toArray }
theorem Np:∀ m:Fin 256,((BM[m.val]?).isSome=true/\((BM[m.val]?).getD 0).toNat=iU m.val):=by decide +kernel
theorem rY:∀ m:Fin 256,iU m.val<=8/\(0<m.val->m.val<2 ^ iU m.val/\2 ^ iU m.val<=2*m.val):=by decide +kernel
theorem En(n:Nat)(hn:n<65536):mC n<=16/\(0<n->n<2 ^ mC n/\2 ^ mC n<=2*n):=by
 unfold mC;by_cases h:256<=n
 .rw[aAj h];have h1:=rY ⟨n / 256,oO⟩
  grind
 .rw[aAa h];have h1:=rY ⟨n,oO⟩
  grind
theorem Zs(n:Nat)(st:St)(hn:n<65536):aB prog 130 [uw n] st fun r st'=>r=i (mC n)/\st'=st:=by
 refine zN func130 ntmps130 [.tmp 2] ?_;have h1:¬(4294967296:Int)<=(n:Int):=oO;have h2:¬(65536:Int)<=(n:Int):=oO;have hs:∀ m,m<256->(BM[m]?).isSome=true/\((BM[m]?).getD 0).toNat=iU m:=fun m h=>Np ⟨m,h⟩;generalize hq:({ data:=((List.append [0,1,2,2,3,3,3,3,4,4,4,4,4,4,4,4,5,5,5,5,5,5,5,5,5,5,5,5,5,5,5,5,6,6,6,6,6,6,6,6,6,6,6,6,6,6,6,6,6,6,6,6,6,6,6,6,6,6,6,6,6,6,6,6] [7,7,7,7,7,7,7,7,7,7,7,7,7,7,7,7,7,7,7,7,7,7,7,7,7,7,7,7,7,7,7,7,7,7,7,7,7,7,7,7,7,7,7,7,7,7,7,7,7,7,7,7,7,7,7,7,7,7,7,7,7,7,7,7]).append (List.append [8,8,8,8,8,8,8,8,8,8,8,8,8,8,8,8,8,8,8,8,8,8,8,8,8,8,8,8,8,8,8,8,8,8,8,8,8,8,8,8,8,8,8,8,8,8,8,8,8,8,8,8,8,8,8,8,8,8,8,8,8,8,8,8] [8,8,8,8,8,8,8,8,8,8,8,8,8,8,8,8,8,8,8,8,8,8,8,8,8,8,8,8,8,8,8,8,8,8,8,8,8,8,8,8,8,8,8,8,8,8,8,8,8,8,8,8,8,8,8,8,8,8,8,8,8,8,8,8])).toArray }:ByteArray)=s;rw[show BM=s from hq]at hs;clear hq;by_cases h3:(256:Int)<=(n:Int)
 .obtain⟨m,hm⟩:∃ m,m=n / 256:=⟨_,rfl⟩;have w1:(n:Int).fdiv (2 ^ min 8 IntKind.u64.bits)=(m:Int):=by show(n:Int).fdiv 256=(m:Int);rw[Int.fdiv_eq_ediv_of_nonneg _ oO];omega
  have w2:=wrap_u8 m oO oO;have hb:mC n=8+iU m:=by unfold mC;rw[aAj oO,hm]
  have h4:iU m<=8:=(rY ⟨m,oO⟩).1;have hm2:=hs m oO;have hz:m<s.size:=by simpa using hm2.1
  have hv:=hm2.2;rw[hb];generalize iU m=e at *;have w3:IntKind.i64.wrap (8+(e:Int))=((8+e:Nat):Int):=zW;have w4:IntKind.i64.wrap (e:Int)=(e:Int):=by rw[wrap_i64 _ oO oO]
  have w5:IntKind.i64.wrap (8:Int)=8:=rfl;simp[hz]at hv
  (repeat' (first|apply qS|refine qK (zZ ?_)|(refine qR (zZ ?_);simp[h1,h2,h3,NZ,w1,w2,hz,hv,w3,w4,w5])|(apply qC;simp[h1,h2,h3,NZ,w1,w2,hz,hv,w3,w4,w5])|(refine zE ?_;intro J hJ;simp[h1,h2,h3,NZ,w1,w2,hz,hv,w3,w4,w5];refine zJ hJ ?_)))
 .have w2:=wrap_u8 n oO oO;have hb:mC n=iU n:=by unfold mC;rw[aAa oO]
  have h4:iU n<=8:=(rY ⟨n,oO⟩).1;have hm2:=hs n oO;have hz:n<s.size:=by simpa using hm2.1
  have hv:=hm2.2;rw[hb];generalize iU n=e at *;have w4:IntKind.i64.wrap (e:Int)=(e:Int):=by rw[wrap_i64 _ oO oO]
  simp[hz]at hv;exact xv7 h1 h2 h3 w2 hz hv w4
theorem Len(n:Nat)(st:St)(hn:n<65536):aB prog 85 [uw n] st fun r st'=>r=i (mC n)/\st'=st:=by
 refine zN func85 ntmps85 [.tmp 2] ?_
 (refine xj0 ?_;intro J hJ)
 refine qF (Zs n _ hn) ?_;rintro r st' ⟨rfl,rfl⟩;exact Tt hJ
theorem nextPowerOfTwo(n:Nat)(st:St)(hn:n<65536):aB prog 164 [i n] st fun r st'=>r=uw ((2 ^ mC n:Nat):Int)/\st'=st:=by
 have h1:=(En n hn).1;have w1:IntKind.u64.wrap (n:Int)=(n:Int):=wrap_u64 _ oO oO;have w2:FT .u64 1 (mC n)=((2 ^ mC n:Nat):Int):=by
  unfold FT;have h2:(2:Nat) ^ mC n<=2 ^ 16:=aEv oO h1;have h3:min ((mC n:Int).toNat) IntKind.u64.bits=mC n:=by simp[IntKind.bits];omega
  rw[h3,Int.one_mul];rw[show((2:Int) ^ mC n)=((2 ^ mC n:Nat):Int) by simp];generalize (2:Nat) ^ mC n=z at *;exact wrap_u64 _ oO oO
 refine zN func164 ntmps164 [.tmp 2] ?_
 (refine xj1 w1 ?_;intro J hJ)
 refine qF (Len n _ hn) ?_;rintro r st' ⟨rfl,rfl⟩;generalize ((2 ^ mC n:Nat):Int)=e2 at *;exact PN hJ w2
abbrev xx(st:St)(p:Nat)(s:Int):St:=st.set p (.box 184 1 [uw s])
theorem Za(p:Nat)(s:Int)(st:St)(hp:st.H p=.box 184 1 [uw s]):aB prog 165 [.pt p 0] st fun r st'=>∃ s',r=uw s'/\st'=xx st p s':=by
 refine zN func165 ntmps165 [.tmp 2] ?_
 (repeat (apply qS));(refine zE ?_;intro J hJ;simp[];refine zJ hJ ?_)
 (repeat (apply qS));(refine zS [] [p] [0,2,4,6,8,10,12,14,16,19] ?_;intro J hJ;simp[hp];refine zJ hJ ?_)
 generalize Ra _ _ _=s1
 (repeat (apply qS));(refine zS [] [p] [0,2,4,6,8,10,12,14,16,19] ?_;intro J hJ;simp[hp];refine zJ hJ ?_)
 generalize Ra _ _ _=s2
 (repeat (apply qS));(refine zS [] [p] [0,2,4,6,8,10,12,14,16,19] ?_;intro J hJ;simp[hp];refine zJ hJ ?_)
 generalize Ra _ _ _=s3;refine xw0 ?_
 grind [St.set_set]
theorem VE(s:Int)(m:Nat)(h0:0<m)(hm:m<=131072):∃ o:Nat,o<m/\wM .u64 s (((m-1:Nat)):Int)=(o:Int):=by
 grind [wM,Nat.and_le_right,wrap_u64]
def bP(q:Nat)(st st':St):Prop:=st.next<=st'.next/\∀ l,l≠q->l<st.next->st'.H l=st.H l
theorem bP.refl(q:Nat)(st:St):bP q st st:=⟨aAl _,fun _ _ _=>rfl⟩
theorem bP.trans{q:Nat}{a b c:St}(h:bP q a b)(k:bP q b c):bP q a c:=⟨aBa h.1 k.1,fun l hl hn=>(k.2 l hl (aAs hn h.1)).trans (h.2 l hl hn)⟩
theorem bP.keeps{q:Nat}{a b c:St}(h:bP q a b)(k:aA b c):bP q a c:=⟨aBa h.1 k.next,fun l hl hn=>(k.H l (aAs hn h.1)).trans (h.2 l hl hn)⟩
theorem bP.set{q:Nat}{a b:St}(h:bP q a b)(o:cN):bP q a (b.set q o):=⟨h.1,fun l hl hn=>by rw[bQ,aAa hl];exact h.2 l hl hn⟩
theorem bP.set'{q p:Nat}{a b:St}(h:bP q a b)(hp:a.next<=p)(o:cN):bP q a (b.set p o):=⟨h.1,fun l hl hn=>by rw[bQ,aAa oO];exact h.2 l hl hn⟩
def Ti(q p a b n m k:Nat)(l:List Int)(st:St)(fr:Frm)(st2:St):Prop:=fr 0=.ms q 0 l.length/\fr 1=i a/\fr 6=i n/\fr 7=.pt p 0/\fr 8=uw m/\fr 9=i k/\p<st2.next/\bP q st st2/\(∃ s,st2.H p=.box 184 1 [uw s])/\∃ c,st2.H q=.box 34 1 (us c)/\Pm a b l c
def J9(q p a b n m k:Nat)(l:List Int)(st:St)(fr:Frm)(st2:St):Prop:=Ti q p a b n m k l st fr st2/\∃ o:Nat,o<n/\fr 10=i o
theorem breakPatterns(l:List Int)(q a b:Nat)(st:St)(hl:l.length<65536)(x8:a+8<=b)(hb:b<=l.length)(hqn:q<st.next)(hH:st.H q=.box 34 1 (us l)):
 aB prog 122 [.ms q 0 l.length,i a,i b] st fun r st'=>∃ c,st'.H q=.box 34 1 (us c)/\Pm a b l c/\bP q st st':=by
 obtain⟨n,hn⟩:∃ n:Nat,n=b-a:=⟨_,rfl⟩;obtain⟨n4,hn4⟩:∃ m:Nat,m=n / 4:=⟨_,rfl⟩;obtain⟨k0,S7⟩:∃ m:Nat,m=a+n4*2:=⟨_,rfl⟩;have w1:IntKind.i64.wrap ((b:Int)-(a:Int))=(n:Int):=zW;have w2:IntKind.i64.wrap ((n:Int) / 4)=(n4:Int):=by rw[show(n:Int) / 4=((n / 4:Nat):Int) from rfl,<- hn4];exact wrap_i64 _ oO oO
 have w4:IntKind.i64.wrap ((n4:Int)*2)=((n4*2:Nat):Int):=zW;have w7:IntKind.i64.wrap ((a:Int)+((n4*2:Nat):Int))=(k0:Int):=zW;have w8:=aU k0 oO oO;obtain⟨k1,j7⟩:∃ m:Nat,m=k0+1:=⟨_,rfl⟩;have w9:IntKind.i64.wrap ((k0:Int)+1)=(k1:Int):=by rw[qN k0 oO,j7]
 have w10:IntKind.u64.wrap (n:Int)=(n:Int):=wrap_u64 _ oO oO;have h8:(8:Int)<=(n:Int):=oO;have U4:=(En n oO).2 oO;obtain⟨m,hm⟩:∃ m:Nat,m=2 ^ mC n:=⟨_,rfl⟩;rw[<- hm]at U4;have w11:IntKind.u64.wrap ((m:Int)-1)=((m-1:Nat):Int):=by rw[wrap_u64 _ oO oO];omega
 generalize ((n4*2:Nat):Int)=e2 at *;refine zN func122 ntmps122 [] ?_
 (repeat' (first|apply qS|(refine zE ?_;intro J hJ;simp[w1];refine zJ hJ ?_)))
 apply qC;simp[h8]
 (repeat' (first|apply qS|(refine zE ?_;intro J hJ;simp[w10,w1];(try refine zJ hJ ?_))))
 refine qF (nextPowerOfTwo n _ oO) ?_;rintro r st' ⟨rfl,rfl⟩;rw[<- hm]
 (repeat' (first|apply qS|apply qB|((first|(refine zE ?_;intro J hJ)|(apply cI));simp[w2,w4,w7,w8];refine zJ hJ ?_)))
 refine qL (fun z fr st2=>∃ k:Nat,k0<=k+1/\k<=k0+2/\z=k0+2-k/\Ti q st.next a b n m k l st fr st2) 3 ?_ ?_
 .refine⟨k0-1,oO,oO,oO,?_⟩;unfold Ti;have c7:¬q=st.next:=oO;refine⟨sS,sS,sS,sS,sS,sS,sS,?_,⟨n,sS⟩,l,by simp_all,.refl⟩;exact((bP.refl q st).keeps (aA.new _ _)).set' (aAl _) _
 rintro z fr st2 ⟨k,hkl,hku,rfl,f0,f1,f6,f7,f8,f9,hpn,Q3,⟨s,hs⟩,c,hcq,u5⟩ JJ hJJ;have r8:=u5.len;by_cases dA:(k:Int)<=(k1:Int);rotate_left
 .clear hJJ;refine xw8 f1 f6 f9 w2 w4 w7 w9 dA ?_;exact⟨trivial,c,hcq,u5,Q3⟩
 (repeat (apply qS));(refine zE ?_;intro J hJ;simp[f1,f6,f9,w2,w4,w7,w9,dA];refine zJ hJ ?_)
 apply qC;simp[dA];refine qK (zZ ?_);apply qS;apply qB;apply qS
 (refine zE ?_;intro J hJ;simp[f7])
 refine qF (Za st.next s _ hs) ?_;rintro r st' ⟨s1,rfl,rfl⟩;obtain⟨o,ho,hgo⟩:=VE s1 m oO oO;have w12:IntKind.i64.wrap (o:Int)=(o:Int):=zW
 (apply cI;simp[f8,w11,hgo,w12];refine zJ hJ ?_)
 apply qS;refine cE (J9 q st.next a b n m k l st) ?_ ?_
 .have hqne:¬q=st.next:=oO;have hI:∀ fr2:Frm,fr2 0=fr 0->fr2 1=fr 1->fr2 6=fr 6->fr2 7=fr 7->fr2 8=fr 8->fr2 9=fr 9->Ti q st.next a b n m k l st fr2 (xx st2 st.next s1):=by intro fr2 g0 g1 g6 g7 g8 g9;exact⟨by grind,by grind,by grind,by grind,by grind,by grind,by simpa using hpn,Q3.set' (aAl _) _,⟨s1,sS⟩,c,sF2 hqne hcq,u5⟩
  by_cases hge:(n:Int)<=(o:Int)
  .have w13:IntKind.i64.wrap ((o:Int)-(n:Int))=((o-n:Nat):Int):=zW;refine xw3 f6 hge w13 ?_;refine⟨by trivial,?_⟩;exact⟨hI _ sS sS sS sS sS sS,o-n,oO,sS⟩
  .refine xw2 f6 hge ?_;refine⟨by trivial,?_⟩;exact⟨hI _ sS sS sS sS sS sS,o,oO,sS⟩
 clear f0 f1 f6 f7 f8 f9 hpn Q3 hs hcq u5 r8 hgo w12 ho o s s1 c st2 fr;rintro fr st2 ⟨⟨f0,f1,f6,f7,f8,f9,hpn,Q3,⟨s,hs⟩,c,hcq,u5⟩,o,ho,f10⟩;have r8:=u5.len;obtain⟨x,hx⟩:∃ x:Nat,x=a+o:=⟨_,rfl⟩;have w12:IntKind.i64.wrap ((a:Int)+(o:Int))=(x:Int):=zW;have w13:=qN k oO;have z7:=qG c k oO;have O7:=qG c x oO;have hl3:k<l.length:=oO;have hl4:x<l.length:=oO;have P7:=fun v y=>JS st2 q c k x (x:=v) (y:=y) oO oO;have P8:=u5.step k x oO oO oO oO oO;generalize hv:c.getD k 0=v at *;generalize hy:c.getD x 0=y at *;have O2:=P7 v y rfl rfl
 (refine zS [] [q] [0,2,4,6,8,10,12,14,16,18,20,22,24,26,28,30,32,35,36,39] ?_;intro J hJ;simp[f0,f1,f9,f10,w12,hl3,hl4,r8,hcq,z7,O7];(repeat refine ca ?_);refine zJ hJ ?_)
 refine xw2 f9 w13 ?_;have hqne:¬st.next=q:=oO;rw[O2];exact hJJ (k0+2-(k+1)) _ _ oO ⟨k+1,oO,oO,rfl,sF1 f0,sF1 f1,sF1 f6,sF1 f7,sF1 f8,sS,by simpa using hpn,Q3.set _,⟨s,sF2 hqne hs⟩,_,sS,P8⟩
theorem Srt.out{a m:Nat}{c d:List Int}(h:Srt a m c)(e:∀ j,a<=j->j<m->d.getD j 0=c.getD j 0):Srt a m d:=by intro p q h1 h2 h3;rw[e p h1 oO,e q oO h3];exact h p q h1 h2 h3
theorem _root_.Go.Proofs.YtbgngpdonpeboaaGreatDoor.Pl.cT.pmL{c d:List Int}{a m b:Nat}(h:cT c a m b)(k:Pm a m c d):cT d a m b:=by unfold cT at h ⊢;have e:d.getD m 0=c.getD m 0:=k.out m oO;rw[e];refine⟨fun p h1 h2=>k.all (fun v=>decide (v<c.getD m 0)=true) h.1 p h1 h2,fun p h1 h2=>?_⟩;rw[k.out p oO];exact h.2 p h1 h2
theorem _root_.Go.Proofs.YtbgngpdonpeboaaGreatDoor.Pl.cT.pmR{c d:List Int}{a m b:Nat}(h:cT c a m b)(k:Pm (m+1) b c d):cT d a m b:=by unfold cT at h ⊢;have e:d.getD m 0=c.getD m 0:=k.out m oO;rw[e];refine⟨fun p h1 h2=>?_,fun p h1 h2=>k.all (fun v=>decide (v<c.getD m 0)=false) (fun j g1 g2=>h.2 j oO g2) p oO h2⟩;rw[k.out p oO];exact h.1 p h1 h2
theorem _root_.Go.Proofs.YtbgngpdonpeboaaGreatDoor.Pl.cT.glue{d:List Int}{a m b:Nat}(h:cT d a m b)(h1:Srt a m d)(h2:Srt (m+1) b d):Srt a b d:=by
 refine Pn h1 h2 (fun p g1 g2=>?_) fun q g1 g2=>?_
 .have:=h.1 p g1 g2;simp only[aBA]at this;omega
 .have:=h.2 q g1 g2;simp only[aCk]at this;omega
theorem _root_.Go.Proofs.YtbgngpdonpeboaaGreatDoor.Pl.cT.aheadR{d:List Int}{a m b:Nat}(h:cT d a m b):rQ d (m+1) b:=by intro _ j g1 g2;have:=h.2 j oO g2;simp only[aCk]at this;rw[aBP];omega
theorem rQ.less{d:List Int}{a m b:Nat}(h:rQ d a b)(hm:m<=b):rQ d a m:=fun h0 j g1 g2=>h h0 j g1 oO
theorem Vn{c d:List Int}{a m b:Nat}{x:Int}(h:HH c a m b x)(Z6:∀ j,a<=j->j<m->x<=c.getD j 0)(k:Pm m b c d)(hs:Srt m b d):Srt a b d:=by
 intro p q h1 h2 h3;by_cases hq:q<m
 .rw[k.out p oO,k.out q oO];have:=h.1 p h1 oO;have:=Z6 q oO hq;omega
 .by_cases hp:p<m
  .rw[k.out p oO];have g:=h.1 p h1 hp;have:x<d.getD q 0:=k.all (fun v=>x<v) h.2 q oO h3;omega
  .exact hs p q oO h2 h3
def RW(a b a' b':Nat)(c:List Int):Prop:=∀ d,Pm a' b' c d->Srt a' b' d->Srt a b d
theorem RW.pm{a b a' b':Nat}{c d:List Int}(h:RW a b a' b' c)(k:Pm a' b' c d):RW a b a' b' d:=fun e h1 h2=>h e (k.trans h1) h2
theorem Qf{P:Program}{N:Nat}{Q:AQ}{k:List gO}{fr:Frm}{st:St}{x y:Code}(I:Frm->St->Prop)(h1:AWp P N x (AK P N (fun e f s=>(e=.normal/\I f s)\/(e=.ret/\AK P N Q k .ret f s)) []) fr st)(h2:∀ fr st,I fr st->AWp P N y (AK P N Q k) fr st):
 AWp P N x (AK P N Q (.code y::k)) fr st:=by
 refine dD h1 ?_;rintro e c8 st' (⟨rfl,hI⟩|⟨rfl,hI⟩)
 .rw[jK];exact h2 _ _ hI
 .rw[yD];exact hI
theorem RF{P:Program}{N:Nat}{Q:AQ}{k:List gO}{fr:Frm}{st:St}{x y:Code}(I:Frm->St->Prop)(h1:AWp P N x (AK P N (fun e f s=>(e=.normal/\I f s)\/(e≠.normal/\AK P N Q k e f s)) []) fr st)(h2:∀ fr st,I fr st->AWp P N y (AK P N Q k) fr st):
 AWp P N x (AK P N Q (.code y::k)) fr st:=by
 refine dD h1 ?_;rintro e c8 st' (⟨rfl,hI⟩|⟨c7,hI⟩)
 .rw[jK];exact h2 _ _ hI
 .cases e<;>first|exact absurd rfl c7|exact hI
def PdI(q:Nat)(l:List Int)(st:St)(a b a' b':Nat)(wb wp:Bool)(lim n:Nat)(fr:Frm)(st2:St):Prop:=
 fr 0=.ms q 0 l.length/\fr 1=i a'/\fr 2=i b'/\fr 3=i lim/\fr 8=bb wb/\fr 9=bb wp/\fr 10=i n/\lim<1000000/\q<st2.next/\bP q st st2/\∃ c,st2.H q=.box 34 1 (us c)/\Pm a b l c/\rQ c a' b'/\RW a b a' b' c
theorem PdI.mk{q:Nat}{l:List Int}{st:St}{a b a' b':Nat}{wb wp:Bool}{lim n:Nat}{fr:Frm}{st2:St}{c:List Int}(f0:fr 0=.ms q 0 l.length)(f1:fr 1=i a')(f2:fr 2=i b')(f3:fr 3=i lim)(f8:fr 8=bb wb)(f9:fr 9=bb wp)(f10:fr 10=i n)(hlm:lim<1000000)(hqn:q<st2.next)(ho:bP q st st2)(hc:st2.H q=.box 34 1 (us c))(hp:Pm a b l c)(ha:rQ c a' b')(hf:RW a b a' b' c):PdI q l st a b a' b' wb wp lim n fr st2:=
 ⟨f0,f1,f2,f3,f8,f9,f10,hlm,hqn,ho,c,hc,hp,ha,hf⟩
def PdJ(q:Nat)(l:List Int)(st:St)(a b a' b':Nat)(wb wp:Bool)(n:Nat)(fr:Frm)(st2:St):Prop:=∃ lim,PdI q l st a b a' b' wb wp lim n fr st2
def PdK(q:Nat)(l:List Int)(st:St)(a b a' b':Nat)(wb wp:Bool)(n:Nat)(fr:Frm)(st2:St):Prop:=∃ lim,PdI q l st a b a' b' wb wp lim n fr st2/\∃(pv:Nat) (h:Int),a'<=pv/\pv<b'/\fr 11=i pv/\fr 12=i h
theorem Fc(Z:Nat):∀(l:List Int) (q a b lim:Nat) (st:St),l.length<65536->a<=b->b<=l.length->b-a<Z->rQ l a b->lim<1000000->q<st.next->st.H q=.box 34 1 (us l)->
 aB prog 84 [.ms q 0 l.length,i a,i b,i lim] st fun r st'=>∃ c,st'.H q=.box 34 1 (us c)/\Pm a b l c/\Srt a b c/\bP q st st':=by
 induction Z with
 |zero=>intro l q a b lim st _ _ _ h;omega
 |succ Z ih=>
 intro l q a b lim st hl x8 hb hZ hah hlim hqn hH;have S5:small l:=by unfold small;omega
 refine zN func84 ntmps84 [] ?_
 (repeat' (first|apply qS|apply qB|(refine zE ?_;intro J hJ;simp[];(refine zJ hJ ?_;clear hJ J))))
 refine qL (fun z fr st2=>∃(a' b' lim:Nat) (wb wp:Bool) (n:LV),a<=a'/\a'<=b'/\b'<=b/\z=b' - a'/\PdI q l st a b a' b' wb wp lim 0 (upd fr 10 (i (0:Nat))) st2) (b-a) ?_ ?_
 .refine⟨a,b,lim,true,true,.nil,oO,oO,oO,rfl,?_⟩;exact PdI.mk sS sS sS sS sS sS sS hlim hqn (.refl _ _) hH .refl hah fun d h1 h2=>h2
 rintro z fr st2 ⟨a',b',lim,wb,wp,-,ha1,ha2,X6,rfl,f0,f1,f2,f3,f8,f9,-,hlm,P5,Q3,c,hc,u5,R7,v7⟩ JJ hJJ;rw[Eo,aAa oO]at f0 f1 f2 f3 f8 f9;have r8:=u5.len;have O8:small c:=by unfold small;omega
 obtain⟨n,hn⟩:∃ n:Nat,n=b' - a':=⟨_,rfl⟩;have w1:IntKind.i64.wrap ((b':Int)-(a':Int))=(n:Int):=zW;apply qB
 (repeat' (first|apply qS|(refine zE ?_;intro J hJ;simp[f1,f2,w1];(refine zJ hJ ?_;clear hJ J))))
 by_cases hn12:(n:Int)<=12
 .clear hJJ;apply qC;simp[hn12]
  (refine xj3 f0 f1 f2 ?_;intro J hJ)
  refine qE (insertionSort c q a' b' st2 O8 oO oO hc) (sF4 f0 f1 f2 r8) ?_;rintro r st' ⟨d,rfl,k1,k2⟩;refine dQ hJ ?_;exact⟨d,rfl,u5.trans (k1.wide oO oO oO),v7 d k1 k2,Q3.set _⟩
 apply qC;simp[hn12]
 (repeat' (first|apply qS|refine qK (zZ ?_)|(refine zE ?_;intro J hJ;simp[f3];(refine zJ hJ ?_;clear hJ J))))
 by_cases hl0:lim=0
 .clear hJJ;apply qC;simp[hl0]
  (refine xj3 f0 f1 f2 ?_;intro J hJ)
  refine qE (heapSort c q a' b' st2 O8 oO oO hc) (sF4 f0 f1 f2 r8) ?_;rintro r st' ⟨d,rfl,k1,k2⟩;refine dQ hJ ?_;exact⟨d,rfl,u5.trans (k1.wide oO oO oO),v7 d k1 k2,Q3.set _⟩
 apply qC;simp[hl0];refine qK (zZ ?_);apply qS;refine cE (PdJ q l st a b a' b' wb wp n) ?_ ?_
 .clear hJJ;cases wb
  ·(refine xj4 f0 f1 f2 f8 ?_;intro J hJ)
   refine qE (breakPatterns c q a' b' st2 oO oO oO P5 hc) (sF4 f0 f1 f2 r8) ?_;rintro r st' ⟨d,k0,k1,k2⟩;have w2:=aU lim oO oO;refine vP hJ f3 w2 ?_;refine⟨by trivial,?_⟩;exact⟨lim-1,PdI.mk (sF1 f0) (sF1 f1) (sF1 f2) sS (sF1 f8) (sF1 f9) sS oO (aAs P5 k2.1) (Q3.trans k2) k0 (u5.trans (k1.wide oO oO oO)) (R7.pm k1) (v7.pm k1)⟩
  .refine xw1 f8 ?_;refine⟨by trivial,?_⟩;exact⟨lim,PdI.mk (sF1 f0) (sF1 f1) (sF1 f2) (sF1 f3) (sF1 f8) (sF1 f9) sS oO P5 Q3 hc u5 R7 v7⟩
 clear f0 f1 f2 f3 f8 f9 hlm P5 Q3 hc u5 R7 v7 r8 O8 c st2 fr hl0 lim;rintro fr st2 ⟨lim,f0,f1,f2,f3,f8,f9,f10,hlm,P5,Q3,c,hc,u5,R7,v7⟩;have r8:=u5.len;have O8:small c:=by unfold small;omega
 apply qS
 (refine zE ?_;intro J hJ;simp[f0,f1,f2])
 refine qE (choosePivot c q a' b' st2 O8 oO oO P5 hc) (sF4 f0 f1 f2 r8) ?_;rintro r st' ⟨pv,h,rfl,T7,Y8,k0⟩;have hc':st'.H q=.box 34 1 (us c):=by rw[k0.H q P5];exact hc
 have hqn3:q<st'.next:=aAs P5 k0.next;have hof2:=Q3.keeps k0;clear hc P5 Q3 k0
 (apply cI;simp[];(refine zJ hJ ?_;clear hJ J))
 apply qS;refine cE (PdK q l st a b a' b' wb wp n) ?_ ?_
 .clear hJJ;by_cases hh:h=2
  ·(refine xj4 hh f0 f1 f2 ?_;intro J hJ)
   refine qE (reverseRange c q a' b' st' O8 oO oO oO hc') (sF4 f0 f1 f2 r8) ?_;rintro r st' ⟨d,rfl,k1⟩;have w2:=aU b' oO oO;obtain⟨x1,hx1⟩:∃ x,x=b' - 1:=⟨_,rfl⟩;obtain⟨x2,Y3⟩:∃ x,x=pv-a':=⟨_,rfl⟩;obtain⟨x3,hx3⟩:∃ x,x=x1-x2:=⟨_,rfl⟩;have w3:IntKind.i64.wrap ((pv:Int)-(a':Int))=(x2:Int):=zW;have w4:IntKind.i64.wrap ((x1:Int)-(x2:Int))=(x3:Int):=zW;rw[<- hx1]at w2;refine VT hJ f1 f2 w2 w3 w4 ?_;refine⟨by trivial,?_⟩;exact⟨lim,PdI.mk (sF1 f0) (sF1 f1) (sF1 f2) (sF1 f3) (sF1 f8) (sF1 f9) (sF1 f10) oO hqn3 (hof2.set _) sS (u5.trans (k1.wide oO oO oO)) (R7.pm k1) (v7.pm k1),x3,1,oO,oO,sS,sS⟩
  .refine xw1 hh ?_;refine⟨by trivial,?_⟩;exact⟨lim,PdI.mk (sF1 f0) (sF1 f1) (sF1 f2) (sF1 f3) (sF1 f8) (sF1 f9) (sF1 f10) oO hqn3 hof2 hc' u5 R7 v7,pv,h,oO,oO,sS,sS⟩
 clear f0 f1 f2 f3 f8 f9 f10 hlm hqn3 hof2 hc' u5 R7 v7 r8 O8 c st2 fr lim h T7 Y8 pv;rintro fr st2 ⟨lim,⟨f0,f1,f2,f3,f8,f9,f10,hlm,P5,Q3,c,hc,u5,R7,v7⟩,pv,h,T7,Y8,f11,f12⟩;have r8:=u5.len;have O8:small c:=by unfold small;omega
 apply qS;refine Qf (PdK q l st a b a' b' wb wp n) ?_ ?_
 .clear hJJ;cases wb
  .refine xw1 f8 ?_;refine .inl ⟨by trivial,?_⟩;exact⟨lim,PdI.mk (sF1 f0) (sF1 f1) (sF1 f2) (sF1 f3) (sF1 f8) (sF1 f9) (sF1 f10) oO P5 Q3 hc u5 R7 v7,pv,h,oO,oO,sF1 f11,sF1 f12⟩
  cases wp
  .refine xw2 f8 f9 ?_;refine .inl ⟨by trivial,?_⟩;exact⟨lim,PdI.mk (sF1 f0) (sF1 f1) (sF1 f2) (sF1 f3) (sF1 f8) (sF1 f9) (sF1 f10) oO P5 Q3 hc u5 R7 v7,pv,h,oO,oO,sF1 f11,sF1 f12⟩
  by_cases hh:h=1;rotate_left
  .refine xw4 f8 f9 f12 hh ?_;refine .inl ⟨by trivial,?_⟩;exact⟨lim,PdI.mk (sF1 f0) (sF1 f1) (sF1 f2) (sF1 f3) (sF1 f8) (sF1 f9) (sF1 f10) oO P5 Q3 hc u5 R7 v7,pv,h,oO,oO,sF1 f11,sF1 f12⟩
  (refine xj7 f8 f9 f12 hh f0 f1 f2 ?_;intro J hJ)
  refine qE (partialInsertionSort c q a' b' st2 O8 oO oO R7 hc) (sF4 f0 f1 f2 r8) ?_;rintro r st' ⟨d,p,rfl,rfl,k1,k2⟩;cases p
  .refine dQ hJ ?_;refine .inl ⟨by trivial,?_⟩;exact⟨lim,PdI.mk (sF1 f0) (sF1 f1) (sF1 f2) (sF1 f3) (sF1 f8) (sF1 f9) (sF1 f10) oO P5 (Q3.set _) sS (u5.trans (k1.wide oO oO oO)) (R7.pm k1) (v7.pm k1),pv,h,oO,oO,sF1 f11,sF1 f12⟩
  .refine dQ hJ ?_;exact⟨d,rfl,u5.trans (k1.wide oO oO oO),v7 d k1 (k2 rfl),Q3.set _⟩
 clear f0 f1 f2 f3 f8 f9 f10 f11 f12 hlm P5 Q3 hc u5 R7 v7 r8 O8 c st2 fr lim h T7 Y8 pv;rintro fr st2 ⟨lim,⟨f0,f1,f2,f3,f8,f9,f10,hlm,P5,Q3,c,hc,u5,R7,v7⟩,pv,h,T7,Y8,f11,f12⟩;have r8:=u5.len;have O8:small c:=by unfold small;omega
 apply qS;refine RF (PdK q l st a b a' b' wb wp n) ?_ ?_
 .by_cases h0:a'=0
  .clear hJJ;have h0':¬(0:Int)<(a':Int):=oO
   (repeat (apply qS));(refine zS [] [q] [0,2,4,6,8,10,12,14,16,18,20,22,25,26,28] ?_;intro J hJ;simp[f0,f1,h0];(refine zJ hJ ?_;clear hJ J))
   refine xw0 ?_;refine .inl ⟨by trivial,?_⟩;exact⟨lim,PdI.mk (sF1 f0) (sF1 f1) (sF1 f2) (sF1 f3) (sF1 f8) (sF1 f9) (sF1 f10) oO  P5 Q3 hc u5 R7 v7,pv,h,oO,oO,sF1 f11,sF1 f12⟩
  have h0':0<a':=oO;have w2:=aU a' oO oO;have z7:=qG c (a' - 1) oO;have O7:=qG c pv oO;have hl3:a' - 1<l.length:=oO;have hl4:pv<l.length:=oO;have Z6:∀ j,a'<=j->j<b'->c.getD (a' - 1) 0<=c.getD j 0:=R7 h0';generalize hx:c.getD (a' - 1) 0=x at *;generalize hy:c.getD pv 0=y at *
  (repeat (apply qS));(refine zS [] [q] [0,2,4,6,8,10,12,14,16,18,20,22,25,26,28] ?_;intro J hJ;simp[f0,f1,f11,h0',w2,hl3,hl4,r8,hc,z7,O7])
  refine aO (vQ x y _) ?_;rintro r s2 ⟨rfl,rfl⟩;refine⟨fun _=>by simp,?_⟩;by_cases L7:x<y
  .clear hJJ
   (apply bJ;simp[L7];(refine zJ hJ ?_;clear hJ J))
   refine xw0 ?_;refine .inl ⟨by trivial,?_⟩;exact⟨lim,PdI.mk (sF1 f0) (sF1 f1) (sF1 f2) (sF1 f3) (sF1 f8) (sF1 f9) (sF1 f10) oO  P5 Q3 hc u5 R7 v7,pv,h,oO,oO,sF1 f11,sF1 f12⟩
  (apply bJ;simp[L7];(refine zJ hJ ?_;clear hJ J))
  (refine xj4 f0 f1 f2 f11 ?_;intro J hJ)
  refine qE (partitionEqual c q a' b' pv _ O8 oO oO T7 Y8 hc) (sF5 f0 f1 f2 f11 r8) ?_;rintro r st' ⟨d,G8,rfl,rfl,k1,k2,k3,k4⟩;refine dQ hJ ?_;refine .inr ⟨sS,?_⟩;refine hJJ (b' - G8) _ _ oO ⟨G8,b',lim,wb,wp,.nil,oO,oO,oO,rfl,?_⟩;rw[hy]at k4;refine PdI.mk (sF1 f0) sS (sF1 f2) (sF1 f3) (sF1 f8) (sF1 f9) sS oO P5 (Q3.set _) sS (u5.trans (k1.wide oO oO oO)) ?_ ?_
  .intro _ j g1 g2;have e1:=k4.1 (G8-1) oO oO;have e2:=k4.2 j g1 g2;omega
  .intro e g1 g2;refine v7 e (k1.trans (g1.wide oO oO (by have:=k1.len;omega))) (Vn k4 (fun j e1 e2=>?_) g1 g2);have:=k1.all (fun v=>x<=v) Z6 j e1 oO;omega
 clear f0 f1 f2 f3 f8 f9 f10 f11 f12 hlm P5 Q3 hc u5 R7 v7 r8 O8 c st2 fr lim h T7 Y8 pv;rintro fr st2 ⟨lim,⟨f0,f1,f2,f3,f8,f9,f10,hlm,P5,Q3,c,hc,u5,R7,v7⟩,pv,h,T7,Y8,f11,f12⟩;have r8:=u5.len;have O8:small c:=by unfold small;omega
 (repeat' (first|apply qS|(refine zE ?_;intro J hJ;simp[f0,f1,f2,f11])))
 refine qE (partition c q a' b' pv _ O8 oO oO T7 Y8 hc) (sF5 f0 f1 f2 f11 r8) ?_;rintro r st' ⟨d,G8,p,rfl,rfl,k1,k2,k3,k4⟩;have hdl:=k1.len;have k4:cT d a' G8 b':=k4;have hpm':=u5.trans (k1.wide ha1 X6 oO);have hah':=R7.pm k1;have hfin':=v7.pm k1;have hof':=Q3.set (q:=q) (.box 34 1 (us d));have w3:IntKind.i64.wrap ((G8:Int)-(a':Int))=((G8-a':Nat):Int):=zW;have w4:IntKind.i64.wrap ((b':Int)-(G8:Int))=((b' - G8:Nat):Int):=zW;have w5:IntKind.i64.wrap ((n:Int) / 8)=((n / 8:Nat):Int):=by rw[show(n:Int) / 8=((n / 8:Nat):Int) from rfl];exact wrap_i64 _ oO oO
 obtain⟨z1,hz1⟩:∃ x:Nat,x=G8-a':=⟨_,rfl⟩;obtain⟨z2,hz2⟩:∃ x:Nat,x=b' - G8:=⟨_,rfl⟩;obtain⟨z3,hz3⟩:∃ x:Nat,x=n / 8:=⟨_,rfl⟩;obtain⟨m1,hm1⟩:∃ x:Nat,x=G8+1:=⟨_,rfl⟩;rw[<- hz1]at w3;rw[<- hz2]at w4;rw[<- hz3]at w5;have w6:IntKind.i64.wrap ((G8:Int)+1)=(m1:Int):=by rw[qN G8 oO,hm1]
 clear hc u5 R7 v7 Q3
 (repeat' (first|apply qS|((first|(refine zE ?_;intro J hJ)|(apply cI));simp[f1,f2,f10,w3,w4,w5];(refine zJ hJ ?_;clear hJ J))))
 apply qC;by_cases hzz:z1<z2
 .simp[hzz]
  (repeat' (first|apply qS|(refine zE ?_;intro J hJ;simp[f0,f1,f3];(try (refine zJ hJ ?_;clear hJ J)))))
  refine qE (ih d q a' G8 lim (bx st2 q d) oO oO oO oO (hah'.less oO) oO P5 sS) (sF6 f0 f1 f2 f3 hdl r8) ?_;rintro r st' ⟨e,j0,j1,j2,j3⟩
  (repeat' ((first|(refine zE ?_;intro J hJ)|(apply cI));simp[w6];(refine zJ hJ ?_;clear hJ J)))
  refine hJJ (b' - m1) _ _ oO ⟨m1,b',lim,decide (z3<=z1),p,.nil,oO,oO,oO,rfl,?_⟩;refine PdI.mk (sF1 f0) sS (sF1 f2) (sF1 f3) sS sS sS oO (aAs P5 j3.1) (hof'.trans j3) j0 (hpm'.trans (j1.wide oO oO oO)) ?_ ?_
  .rw[hm1];exact(k4.pmL j1).aheadR
  .intro y g1 g2;rw[hm1]at g1 g2;refine hfin' y ((j1.wide oO oO oO).trans (g1.wide oO oO (by have:=j1.len;omega))) (((k4.pmL j1).pmR g1).glue (Srt.out j2 fun j e1 e2=>g1.out j oO) g2)
 .simp[hzz]
  (repeat' (first|apply qS|(refine zE ?_;intro J hJ;simp[f0,f2,f3,w6];(try (refine zJ hJ ?_;clear hJ J)))))
  refine qE (ih d q m1 b' lim (bx st2 q d) oO oO oO oO (by rw[hm1];exact k4.aheadR) oO P5 sS) (sF6 f0 f1 f2 f3 hdl r8) ?_;rintro r st' ⟨e,j0,j1,j2,j3⟩
  (repeat' ((first|(refine zE ?_;intro J hJ)|(apply cI));simp[];(refine zJ hJ ?_;clear hJ J)))
  rw[hm1]at j1 j2;refine hJJ (G8-a') _ _ oO ⟨a',G8,lim,decide (z3<=z2),p,.nil,oO,oO,oO,rfl,?_⟩;refine PdI.mk (sF1 f0) (sF1 f1) sS (sF1 f3) sS sS sS oO (aAs P5 j3.1) (hof'.trans j3) j0 (hpm'.trans (j1.wide oO oO oO)) ?_ ?_
  .exact(hah'.pm (j1.wide oO oO oO)).less oO
  .intro y g1 g2;refine hfin' y ((j1.wide oO oO oO).trans (g1.wide oO oO (by have:=j1.len;omega))) (((k4.pmR j1).pmL g1).glue g2 (Srt.out j2 fun j e1 e2=>g1.out j oO))
theorem WD(l:List Int)(q:Nat)(st:St)(hl:l.length<65536)(hqn:q<st.next)(hH:st.H q=.box 34 1 (us l)):
 aB prog 46 [.ms q 0 l.length] st fun r st'=>∃ c,st'.H q=.box 34 1 (us c)/\c.Perm l/\c.Pairwise (·<=·)/\bP q st st':=by
 have w1:IntKind.u64.wrap (l.length:Int)=(l.length:Int):=wrap_u64 _ oO oO;have U4:=(En l.length oO).1;refine zN func46 ntmps46 [] ?_
 (refine xj1 w1 ?_;intro J hJ)
 refine qF (Len l.length _ oO) ?_;rintro r st' ⟨rfl,rfl⟩;refine dQ hJ ?_;refine qE (Fc (l.length+1) l q 0 l.length (mC l.length) _ hl oO oO oO (fun h=>absurd h oO) oO hqn hH) (by simp[]) ?_;rintro r st' ⟨c,k1,k2,k3,k4⟩;refine dQ hJ ?_;have r8:=k2.len;exact⟨trivial,c,k1,k2.perm,Rm (by rw[r8];exact k3),k4⟩
end Aw
namespace Aw
open Go Go.RowKit
theorem sI{w w':World}(g:G)(h:Below w.heap.size w w'):Ext w g w' g:=
 ⟨h.os,h.tape,h.output,h.size,aAl _,fun _ _=>rfl,fun _ _=>rfl,fun _ _=>rfl,fun b hb hn=>⟨hn,h.block b hb⟩,fun b k hb hk=>⟨k,hk,aAl _,fun o _=>World.cell?_of_block (w:=w) (h.block b hb)⟩⟩
theorem xQ{w w':World}{g:G}{st:St}(hi:Inv w g st)(h:Below w.heap.size w w'):Inv w' g st:=by
 have he':=sI g h;refine⟨hi.next,hi.pos,hi.fresh,fun l hl=>aAs (hi.lt l hl) h.size,hi.inj,?_,?_,?_,?_,hi.aside.keep he' fun _ _=>rfl⟩
 .intro l e s n hl;obtain⟨h1,h2,h3,h4⟩:=hi.own l e s n hl;refine⟨h1,h2,h3,fun r9=>?_⟩;obtain⟨n9,k1,k2,k3⟩:=h4 r9;exact⟨n9,by rw[h.block _ (aAJ.1 k1).1];omega,k2,k3⟩
 .intro l e s cs hl;obtain⟨h1,h2,h3⟩:=hi.box l e s cs hl;refine⟨h1,h2,fun r9=>?_⟩;obtain⟨n9,k1,k2,k3,k4,k5⟩:=h3 r9;exact⟨n9,by rw[h.block _ (aAJ.1 k1).1];omega,k2,k3,aC.mono he' _ _ k4,k5⟩
 .intro l ag ks es hl;have hm:=hi.mp l ag ks es hl;exact hm.keep he' (hi.map_lt hl) (h.block _ hm.blk_lt) rfl
 .intro l e n hl;have hm:=hi.qu l e n hl;exact hm.keep he' (hi.que_lt hl) (h.block _ hm.blk_lt) rfl
theorem xU{w w':World}{g:G}{st:St}(hi:Inv w g st)(h:Below w.heap.size w w'){e:TypeId}{v:Value}{zs:List Value}{cs:List LV}(Tf:w'.ownsRow w.heap.size e 1 v zs.length zs)(hr:∀ w g,aC w g cs zs):
 ∃ g',Rep w' g' (.ms st.next 0 zs.length) v/\Inv w' g' (st.new (.box e 1 cs))/\Ext w g w' g':=by
 have M4:=xQ hi h;have r8:cs.length=zs.length:=aJ _ _ (hr w g);rcases Tf.2 with⟨rfl,hn⟩|⟨b,cap,n9,rfl,hb,hcur,h1,h2,h3,h4⟩
 .have P9:cs=[]:=aAK oO;subst P9;refine⟨g.addNil,?_,jH M4 _ (.inr ⟨_,_,rfl⟩),(sI g h).trans (ext_nil w' g)⟩;simp only[Rep,hn];exact⟨none,0,rfl,aAl _,aBI _,by simp[G.addNil,hi.next],sS,by simp[G.addNil,hi.next]⟩
 .have M6:=hi.next;have Q1:Ext w g w' (g.add b 0 cap false):=by
   refine⟨h.os,h.tape,h.output,h.size,aDR _,?_,?_,?_,?_,?_⟩
   .grind [G.add]
   .grind [G.add]
   .grind [G.add]
   .intro x hx hn;exact⟨by grind [G.add],h.block x hx⟩
   .intro x k hx hk;exact⟨k,by grind [G.add],aAl _,fun o _=>World.cell?_of_block (w:=w) (h.block x hx)⟩
  have T6:∀ l,blk g st l->g.β l≠b:=fun l hl=>by have:=hi.lt l hl;omega
  have hblt:b<w'.heap.size:=(aAJ.1 hcur).1;refine⟨g.add b 0 cap false,?_,?_,Q1⟩
  .simp only[Rep,G.add,M6,aAj]
   grind
  .refine⟨by grind [G.add,St.new],by simp_all,?_,?_,?_,?_,?_,?_,?_,hi.aside.keep Q1 (oK rfl)⟩
   .intro l hl;simp only[St.new]at hl ⊢;rw[aAa oO];exact hi.fresh l oO
   .intro l hl;by_cases e0:l=st.next
    .grind [G.add]
    .rw[cQ M6 e0]at hl;have:=M4.lt l hl
     grind [G.add]
   .intro l l' hl O5 hbb;by_cases e0:l=st.next<;>by_cases e1:l'=st.next
    .omega
    .grind [cQ,G.add]
    .grind [cQ,G.add]
    .rw[cQ M6 e0]at hl;rw[cQ M6 e1]at O5;simp only[G.add,M6,aAa e1,aAa e0]at hbb;exact hi.inj l l' hl O5 hbb
   .intro l e' s n hl;by_cases e0:l=st.next
    .simp_all
    .simp only[St.new,aAa e0]at hl;obtain⟨q1,q2,q3,q4⟩:=M4.own l e' s n hl;simp only[G.add,M6,aAa e0]
     grind [blk]
   .intro l e' s' cs' hl;by_cases e0:l=st.next
    .simp only[St.new,aAj e0]at hl;injection hl with a1 a2 a3;subst a1 a2 a3;refine⟨?_,?_,fun _=>⟨n9.toList,?_,?_,?_,?_,?_⟩⟩
     .grind [G.add]
     .grind [G.add]
     .simp only[G.add,M6,aAj e0];omega
     .grind [G.add]
     .grind
     .grind
     grind [G.add]
    .simp only[St.new,aAa e0]at hl;obtain⟨k3,k0,k'⟩:=M4.box l e' s' cs' hl;refine⟨?_,?_,fun r9=>?_⟩
     .grind [G.add]
     .grind [G.add]
     simp only[G.add,M6,aAa e0]at r9;obtain⟨S8,k1,k2,k4,k5,k6⟩:=k' r9;have c7:=T6 l (by grind [blk]);obtain⟨_,_,k'⟩:=hi.box l e' s' cs' hl;obtain⟨cur2,m1,m2,m4,m5,m6⟩:=k' r9;have dA:=(aAJ.1 m1).1;refine⟨cur2,?_,?_,m4,aC.mono Q1 _ _ m5,?_⟩
     .simp only[G.add,M6,aAa e0];rw[h.block _ dA];omega
     .grind [G.add]
     grind [G.add]
   .intro l ag ks es hl;by_cases e0:l=st.next
    .simp_all
    .simp only[St.new,aAa e0]at hl;have hm:=hi.mp l ag ks es hl;exact hm.keep Q1 (hi.map_lt hl) (h.block _ hm.blk_lt) (by simp only[G.add];rw[aAa (T6 l (hi.map_blk hl))])
   .intro l e' n hl;by_cases e0:l=st.next
    .simp_all
    .simp only[St.new,aAa e0]at hl;have hm:=hi.qu l e' n hl;exact hm.keep Q1 (hi.que_lt hl) (h.block _ hm.blk_lt) (by simp only[G.add];rw[aAa (T6 l (hi.que_blk hl))])
theorem Aa(w:World)(g:G):∀ l:List Int,aC w g (us l) (l.map (Value.int .u32))
 |[]=>by simp[aC]
 |a::l=>by simp only[aAm,aC,Rep];exact⟨_,_,rfl,rfl,Aa w g l⟩
theorem Mx{w:World}{g:G}:∀(l:List Int) (ws:List Value),aC w g (us l) ws->ws=l.map (Value.int .u32)
 |[],ws,h=>by grind [aC]
 |a::l,ws,h=>by simp only[aAm,aC,Rep]at h;obtain⟨v,ws',rfl,rfl,h2⟩:=h;rw[Mx l ws' h2];rfl
theorem Tu(l:List Int)(x:LV)(q:Nat)(st:St)(hl:l.length<=1048576)(hH:st.H q=.box 22 1 [x])(hx:Ct tab 22 st x=some (l.length,us l)):
 aB prog 104 [.fn (.func 204) [.pt q 0]] st fun r st'=>r=.ms st.next 0 l.length/\st'=st.new (.box 34 1 (us l)):=by
 refine⟨enters_of func104 (by kernel_rfl) rfl,fun w g vs hi hr=>?_⟩;simp only[aC,Rep]at hr;obtain⟨v,_,rfl,⟨us1,rfl,v1,_,rfl,⟨rfl,hq⟩,rfl⟩,rfl⟩:=hr;obtain⟨_,b2,b3⟩:=hi.box q _ _ _ hH;have r9:g.nl q=false:=by
  cases hn:g.nl q with
  |false=>rfl
  |true=>grind
 obtain⟨n9,k1,k2,k3,k4,k5⟩:=b3 r9;simp only[List.length_cons,List.length_nil,aBv,aC]at k4 k3;obtain⟨sv,rest,hsv,K9,_⟩:=k4;have hc0:w.cell? ⟨g.β q,0,none⟩=some sv:=by
  rw[cell_of_row w _ _ _ _ _ k1];cases n9 with
  |nil=>grind
  |cons a n9=>grind
 have hI:Rg.Ints w.heap.size w sv l:=by
  obtain⟨A,cap,rfl,hrw⟩:=sC hi hx K9;by_cases hl0:l=[]
  .subst hl0;exact .inl ⟨rfl,A,cap,rfl⟩
  .obtain⟨b,o,ws,rfl,m1,m2⟩:=hrw (by grind);have hws:=Mx l ws m1;refine .inr ⟨b,o,cap,rfl,?_,fun j hj=>?_⟩
   .have h0:=m2 0 (by grind);rw[hws]at h0;cases l with
    |nil=>grind
    |cons a l=>exact oW (a:=⟨b,o+0,none⟩) (v:=.int .u32 a) (by grind)
   grind
 refine(((Rg.JY Fence.wide 4 trivial trivial trivial rfl (aAl _) (g.β q) sv l hl w (oW hc0) hc0 hI).calls room_wide)).mono ?_;rintro e w' ⟨v,rfl,Tf,hbel⟩;have hlen:l.length=(l.map (Value.int .u32)).length:=sS;rw[hlen]at Tf;obtain⟨g',h1,h2,h3⟩:=xU (cs:=us l) hi hbel Tf (fun w g=>Aa w g l)
 grind
def Yi:kG:=fun f args st=>if f=104 then match args with
 |[.fn (.func g) [.pt q 0]]=>if g=204 then match st.H q with
    |.box e s [x]=>if e=22/\s=1 then match Ct tab 22 st x with
      |some (n,ds)=>match iR ds with
       |some (ks,ns)=>if(ks.all fun k=>decide (k=.u32))=true/\ns.length=n/\n<=1048576 then some [(.ms st.next 0 n,st.new (.box 34 1 (us ns)))]else none
       |none=>none
      |none=>none
     else none
    |_=>none
  else none
 |_=>none
 else none
theorem HB:∀(ds:List LV) (ks:List IntKind) (ns:List Int),iR ds=some (ks,ns)->(ks.all fun k=>decide (k=.u32))=true->ds=us ns
 |[],ks,ns,h,_=>by simp_all
 |c::ds,ks,ns,h,ha=>by
  cases c with
  |atom x=>
   cases x with
   |int k n=>
    simp only[iR]at h;cases hi:iR ds with
    |none=>grind
    |some p=>obtain⟨V5,ns'⟩:=p;simp only[hi,aAb,aBd]at h;obtain⟨rfl,rfl⟩:=h;simp only[List.all_cons,aAX,aBA]at ha;obtain⟨rfl,ha⟩:=ha;rw[HB ds V5 ns' hi ha];rfl
   |_=>simp[iR]at h
  |_=>simp[iR]at h
theorem GA:pC prog Yi:=by
 intro f args st rs h;unfold Yi at h
 split at h
 .rename_i hf;subst hf
  split at h
  .rename_i g q
   split at h
   .rename_i hg;subst hg
    split at h
    .rename_i e s x hH
     split at h
     .rename_i hes;obtain⟨rfl,rfl⟩:=hes
      split at h
      .grind [HB,Tu]
      grind
     grind
    grind
   grind
  grind
 grind
theorem UQ(st:St):aB prog 68 [] st fun r st'=>r=bb true/\st'=st:=
 tA nK Qw GA mixed 1000000 true (by kernel_rfl)
theorem UC(st:St):aB prog 69 [] st fun r st'=>r=bb true/\st'=st:=
 tA nK Qw GA mixed 1000000 true (by kernel_rfl)
structure Mp where
 g:Gr
 rots:List (List Int)
 deriving DecidableEq
abbrev eF(rs:List (List Int)):List LV:=rs.map fun r=>.sl 0 r.length (us r)
abbrev mpL(m:Mp):List LV:=grL m.g++[.sl 0 m.rots.length (eF m.rots)]
theorem uB(rs:List (List Int))(k:Nat)(hk:k<rs.length):(eF rs).drop k=.sl 0 (rs.getD k []).length (us (rs.getD k []))::(eF rs).drop (k+1):=by
 grind [List.drop_eq_getElem_cons]
theorem sH(es:List (List Int×LV))(a x:List Int)(v:LV):bS (bV es a v) x=if x=a then some v else bS es x:=by
 induction es with
 |nil=>
  grind [bV,bS]
 |cons p es ih=>
  grind [bV,bS]
end Aw
namespace Aw
open Go Go.RowKit Pl
@[simp] theorem Zu(st:St)(a b:cN):(st.new a).set st.next b=st.new b:=St.ext' rfl fun y=>by simp_all
theorem aK(l:List Ed):(eds l).length=l.length*3:=by
 induction l with
 |nil=>rfl
 |cons e l ih=>grind
abbrev ed0:Ed:=⟨0,0,0⟩
theorem aR(l:List Ed)(k:Nat)(hk:k<l.length):(eds l).drop (k*3)=u (l.getD k ed0).id::u (l.getD k ed0).a::u (l.getD k ed0).b::eds (l.drop (k+1)):=by
 induction l generalizing k with
 |nil=>grind
 |cons e l ih=>
  cases k with
  |zero=>rfl
  |succ k=>
   grind
def cB(f:Nat->Int):Nat->Int
 |0=>0
 |n+1=>if cB f n≠0 then cB f n else f n
theorem iL{f:Nat->Int}{n:Nat}(h:∀ j,j<n->f j=0):cB f n=0:=by
 induction n with
 |zero=>rfl
 |succ n ih=>grind [cB]
theorem gG{f:Nat->Int}{n k:Nat}{v:Int}(hk:k<n)(h:∀ j,j<k->f j=0)(hv:f k=v)(h0:v≠0):cB f n=v:=by
 induction n with
 |zero=>omega
 |succ n ih=>
  grind [cB,iL]
def fB(n ahead:Int)(first:Bool):Int:=if n<1\/1048576<n then 2 else if first=false/\n<=ahead then 19 else 0
def lQ(g:Gr)(k:Nat):Int:=fB (g.vs.getD k 0) (g.vs.getD (k-1) 0) (decide (k=0))
def mD(g:Gr)(k:Nat):Int:=
 let x:=g.es.getD k ed0;let n:=fB x.id (g.es.getD (k-1) ed0).id (decide (k=0))
 if n≠0 then n else if x.a=x.b then 20 else if x.a∉g.vs\/x.b∉g.vs then 21 else 0
def chk(g:Gr):Int:=if 64<g.vs.length\/160<g.es.length then 6 else if cB (lQ g) g.vs.length≠0 then cB (lQ g) g.vs.length else cB (mD g) g.es.length
theorem Has(g:Gr)(v:Int)(st:St)(hl:small g.vs):
 aB prog 39 [.ag (grL g),u v] st fun r st'=>r=bb (decide (v∈g.vs))/\aA st st':=by
 obtain⟨l,es⟩:=g;simp only at hl ⊢;unfold small at hl;refine zN func39 ntmps39 [.tmp 4] ?_;refine xw0 ?_;refine qL (fun n fr st'=>∃ k:Nat,k<=l.length/\n=l.length-k/\fr 8=.sl 0 l.length (us l)/\fr 1=u v/\fr 9=i l.length/\fr 10=i k/\aA st st'/\∀ j (hj:j<l.length),j<k->l[j]≠v) l.length ?_ ?_
 .exact⟨0,oO,oO,sS,sS,sS,sS,aA.new _ _,fun j _ h=>by omega⟩
 rintro n fr st' ⟨k,hk,rfl,h8,h1,h9,h10,j8,x9⟩ JJ hJJ;by_cases dA:k<l.length
 .have hd:=gZ l k dA;have hw:=qN k oO
  (repeat' (first|apply qS|apply qB|refine qK (zZ ?_)|(refine qR (zZ ?_);simp[h8,h1,h9,h10,dA,hd,hw])|(apply qC;simp[h8,h1,h9,h10,dA,hd,hw];(try with_reducible refine⟨?_,?_⟩)<;>(try with_reducible intro hc))|(refine zE ?_;intro J hJ;simp[h8,h1,h9,h10,dA,hd,hw];refine zJ hJ ?_)))
  .grind
  .refine hJJ _ _ _ ?_ ⟨k+1,oO,rfl,sF1 h8,sF1 h1,sF1 h9,sS,j8,fun j hj hjk=>?_⟩
   .omega
   .rcases aAM j k with h|h
    .grind
    .obtain rfl:j=k:=oO;omega
 .refine xw5 h8 h1 h9 h10 dA ?_
  grind [List.getElem_of_mem]
theorem VZ(g:Gr)(v:Int)(st:St)(hl:small g.vs):
 aB prog 87 [.ag (grL g),u v] st fun r st'=>r=i (gi g.vs v)/\aA st st':=by
 obtain⟨l,es⟩:=g;simp only at hl ⊢;refine zN func87 ntmps87 [.tmp 4] ?_
 (refine xj0 ?_;intro J hJ)
 refine qE (Index l 0 v _ hl) (by simp[]) ?_;rintro r st' ⟨rfl,rfl⟩;refine dQ hJ ?_
 grind [aA.new]
theorem number(n ahead:Int)(first:Bool)(st:St):
 aB prog 86 [u n,u ahead,bb first] st fun r st'=>r=i (fB n ahead first)/\st'=st:=by
 unfold fB;refine zN func86 ntmps86 [.tmp 6] ?_;by_cases h1:n<1
 .exact xv1 h1
 by_cases h2:1048576<n
 .exact xv2 h1 h2
 cases first
 .by_cases h3:n<=ahead
  .exact xv3 h1 h2 h3
  .exact xv3 h1 h2 h3
 .exact xv2 h1 h2
end Aw
end Go.Proofs.YtbgngpdonpeboaaGreatDoor
