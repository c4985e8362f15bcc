/- SE4 and SR4 in one: written by gentwo.py. -/
import Derived.Test.YtempldclppogmaaGreatDoorJk
set_option linter.unusedVariables false
set_option linter.unusedSimpArgs false
set_option linter.defProp false
set_option maxHeartbeats 4000000
open Go.Proofs.Tryz
namespace Go.Proofs.YtempldclppogmaaGreatDoor
open Go Go.RowKit Pl Aw
open Aw.CE
open Aw.CR
theorem tK:(∀ ⦃NQ:FuncId⦄ ⦃cY:List LV⦄ ⦃eg:Int->Ed⦄ ⦃Dm:Int->Prop⦄ (hC:fF NQ cY eg Dm) (l:List Int) (q a b pv:Nat) (st:St) (hD:∀ x∈l,Dm x) (hl:small l) (YA:a<b) (hb:b<=l.length) (ZF:a<=pv) (Zg:pv<b) (hH:st.H q=.box 56 3 (es3 eg l)),
 aB prog 207 [.ms q 0 l.length,i a,i b,i pv,.fn (.func NQ) cY] st fun r st'=>∃(c:List Int) (YB:Nat) (p:Bool),r=.tu [i YB,bb p]/\st'=bx eg st q c/\Pm a b l c/\a<=YB/\YB<b/\cA c a YB b)/\(∀ ⦃NQ:FuncId⦄ ⦃cY:List LV⦄ ⦃eg:Rw⦄ ⦃Dm:Int->Prop⦄ (hC:fF NQ cY eg Dm) (l:List Int) (q a b pv:Nat) (st:St) (hD:∀ x∈l,Dm x) (hl:small l) (YA:a<b) (hb:b<=l.length) (ZF:a<=pv) (Zg:pv<b) (hH:st.H q=.box 23 1 (ws eg l)),
 aB prog 154 [.ms q 0 l.length,i a,i b,i pv,.fn (.func NQ) cY] st fun r st'=>∃(c:List Int) (YB:Nat) (p:Bool),r=.tu [i YB,bb p]/\st'=bx eg st q c/\Pm a b l c/\a<=YB/\YB<b/\cA c a YB b):=by
 refine⟨?_,?_⟩
 all_goals
  intro NQ cY eg Dm hC l q a b pv st hD hl YA hb ZF Zg hH;unfold small at hl
  first|(have _:Int->Ed:=eg;refine zN func207 ntmps207 [.tmp 10,.tmp 11] ?_)|refine zN func154 ntmps154 [.tmp 10,.tmp 11] ?_
  (repeat (apply qS));(refine zE ?_;intro J hJ;simp[];refine zJ hJ ?_)
  have o6:a<l.length:=oO;have A8:pv<l.length:=oO;have YT:=fun x y=>pJ eg st q l a pv (x:=x) (y:=y) oO oO;have hd0:=aP eg l a oO;have Xu:=aP eg l pv oO;have Xi:Pm a b l (sw l a pv):=Pm.one a pv oO oO oO oO oO;have hx:(sw l a pv).getD a 0=l.getD pv 0:=by
   rw[bV _ _ _ _ oO oO];by_cases e:a=pv
   .rw[aAe e,e]
   .rw[aAa e,aAe rfl]
  generalize S9:l.getD a 0=y0 at *;generalize D8:l.getD pv 0=x at *;have YC:=YT y0 x rfl rfl
  (repeat (apply qS));(refine zS [] [q] [0,2,4,6,8,10,12,14,16,18,20,22,24,27,28,31] ?_;intro J hJ;simp[hH,o6,A8,hd0,Xu,aQ];(repeat refine ca ?_);refine zJ hJ ?_)
  rw[YC];clear YT YC hd0 Xu S9;generalize hc:sw l a pv=c at *;clear hc;have Xk:=Xi.len;have y9:=cQ hD Xi;have w1:=qN a oO;have w2:=aH b oO oO;obtain⟨P,hPd⟩:∃ P:Int->Bool,∀ v,P v=decide (v<x):=⟨_,fun _=>rfl⟩;apply qS;refine bB (fun fr st2=>(fr 0=.ms q 0 l.length/\fr 4=.fn (.func NQ) cY)/\fr 1=i a/\fr 12=i ((a+1:Nat):Int)/\fr 13=i ((b-1:Nat):Int)/\st2=bx eg st q c) (by(refine zE ?_;intro J hJ;simp[w1,w2];refine zJ hJ ?_);simp) ?_;rintro fr st2 ⟨⟨f0,fC⟩,f1,fI,fJ,rfl⟩;have j9:a<a+1:=oO;have hij:a+1<=b-1+1:=oO;have I9:b-1<b:=oO;have YV:Lo P c a (a+1):=fun p h1 h2=>by omega
  have YW:Hi P c (b-1) b:=fun p h1 h2=>by omega
  generalize a+1=ii at *;generalize b-1=jj at *;clear w1 w2;have hd0:=aP eg c a oO;rw[hx]at hd0;apply qS;refine bB (fun fr st2=>∃ ii:Nat,a<ii/\ii<=jj+1/\(fr 0=.ms q 0 l.length/\fr 4=.fn (.func NQ) cY)/\fr 1=i a/\fr 12=i ii/\fr 13=i jj/\st2=bx eg st q c/\Lo P c a ii/\StU P c ii jj) ?_ ?_
  .apply qB;refine qL (fun m fr st2=>∃ ii:Nat,a<ii/\ii<=jj+1/\m=jj+1-ii/\(fr 0=.ms q 0 l.length/\fr 4=.fn (.func NQ) cY)/\fr 1=i a/\fr 12=i ii/\fr 13=i jj/\st2=bx eg st q c/\Lo P c a ii) (jj+1-ii) ?_ ?_
   .exact⟨ii,oO,oO,rfl,by simp[f0,fC],by simp[f1],by simp[fI],by simp[fJ],rfl,YV⟩
   clear f0 fC f1 fI fJ YV j9 hij fr ii;rintro m fr st2 ⟨ii,j9,hij,rfl,⟨f0,fC⟩,f1,fI,fJ,rfl,YV⟩ JJ hJJ;have v9:=qN ii oO;by_cases Xr:ii<=jj;rotate_left
   .clear hJJ
    (repeat (apply qS));(refine zS [] [q] [0,2,4,6,8,10,12,14,16,18,20,22,24,27,28,30] ?_;intro J hJ;simp[f0,fC,f1,fI,fJ,Xr];refine zJ hJ ?_)
    (repeat' (first|refine qX (zZ ?_)|(apply qC;simp[])))
    exact⟨trivial,ii,oO,oO,by simp[f0,fC],by simp[f1],by simp[fI],by simp[fJ],by trivial,YV,fun h=>absurd h Xr⟩
   have F6:ii<l.length:=oO;have Xu:=aP eg c ii oO;have C6:=YV.more;generalize hy:c.getD ii 0=y at *
   (repeat (apply qS));(refine zS [] [q] [0,2,4,6,8,10,12,14,16,18,20,22,24,27,28,30] ?_;intro J hJ;simp[f0,fC,f1,fI,fJ,Xr,F6,o6,Xk,hd0,Xu,aQ])
   refine aJ (hC.call y x _ (by first|assumption|(subst_vars;exact cC (by assumption) oO)) (by first|assumption|(subst_vars;exact cC (by assumption) oO))) ?_;rintro r s2 ⟨⟨nv,rfl,ZV⟩,rfl⟩;refine⟨fun _=>by simp,?_⟩;have hP:=hPd y;by_cases YX:y<x
   ·(apply aV;simp[ZV,YX];refine zJ hJ ?_)
    (repeat' (first|apply qB|refine qK (zZ ?_)|(apply qC;simp[fI,v9])|(refine zE ?_;intro J hJ;simp[fI,v9];refine zJ hJ ?_)))
    exact hJJ (jj+1-(ii+1)) _ _ oO ⟨ii+1,oO,oO,rfl,by simp[f0,fC],by simp[f1],sS,by simp[fJ],rfl,C6 (by rw[hP];simp[YX])⟩
   .clear hJJ
    (apply aV;simp[ZV,YX];refine zJ hJ ?_)
    (repeat' (first|refine qX (zZ ?_)|(apply qC;simp[])))
    exact⟨trivial,ii,oO,oO,by simp[f0,fC],by simp[f1],by simp[fI],by simp[fJ],by trivial,YV,fun _=>by rw[hy,hP];simp[YX]⟩
  clear f0 fC f1 fI fJ YV j9 hij fr ii;rintro fr st2 ⟨ii,j9,hij,⟨f0,fC⟩,f1,fI,fJ,rfl,YV,YL⟩;apply qS;refine bB (fun fr st2=>∃ kk:Nat,a<=kk/\kk<=jj/\ii<=kk+1/\(fr 0=.ms q 0 l.length/\fr 4=.fn (.func NQ) cY)/\fr 1=i a/\fr 12=i ii/\fr 13=i kk/\st2=bx eg st q c/\Hi P c kk b/\StD P c ii kk) ?_ ?_
  .apply qB;refine qL (fun m fr st2=>∃ kk:Nat,a<=kk/\kk<=jj/\ii<=kk+1/\kk=m/\(fr 0=.ms q 0 l.length/\fr 4=.fn (.func NQ) cY)/\fr 1=i a/\fr 12=i ii/\fr 13=i kk/\st2=bx eg st q c/\Hi P c kk b) jj ?_ ?_
   .exact⟨jj,oO,oO,oO,rfl,by simp[f0,fC],by simp[f1],by simp[fI],by simp[fJ],rfl,YW⟩
   clear f0 fC f1 fI fJ YW fr;rintro m fr st2 ⟨kk,o8,V7,T5,rfl,⟨f0,fC⟩,f1,fI,fJ,rfl,YW⟩ JJ hJJ;by_cases Xr:ii<=kk;rotate_left
   .clear hJJ
    (repeat (apply qS));(refine zS [] [q] [0,2,4,6,8,10,12,14,16,18,20,22,24,27,28,30,32] ?_;intro J hJ;simp[f0,fC,f1,fI,fJ,Xr];refine zJ hJ ?_)
    (repeat' (first|refine qX (zZ ?_)|(apply qC;simp[])))
    exact⟨trivial,kk,oO,oO,oO,by simp[f0,fC],by simp[f1],by simp[fI],by simp[fJ],by trivial,YW,fun h=>absurd h Xr⟩
   have S0:=aH kk oO oO;have hlj:kk<l.length:=oO;have Xu:=aP eg c kk oO;have C6:=YW.more;generalize hy:c.getD kk 0=y at *
   (repeat (apply qS));(refine zS [] [q] [0,2,4,6,8,10,12,14,16,18,20,22,24,27,28,30,32] ?_;intro J hJ;simp[f0,fC,f1,fI,fJ,Xr,hlj,o6,Xk,hd0,Xu,aQ])
   refine aJ (hC.call y x _ (by first|assumption|(subst_vars;exact cC (by assumption) oO)) (by first|assumption|(subst_vars;exact cC (by assumption) oO))) ?_;rintro r s2 ⟨⟨nv,rfl,ZV⟩,rfl⟩;refine⟨fun _=>by simp,?_⟩;have hP:=hPd y;by_cases YX:y<x
   .clear hJJ
    (apply aV;simp[ZV,YX];refine zJ hJ ?_)
    (repeat' (first|refine qX (zZ ?_)|(apply qC;simp[])))
    exact⟨trivial,kk,oO,oO,oO,by simp[f0,fC],by simp[f1],by simp[fI],by simp[fJ],by trivial,YW,fun _=>by rw[hy,hP];simp[YX]⟩
   ·(apply aV;simp[ZV,YX];refine zJ hJ ?_)
    (repeat' (first|apply qB|refine qK (zZ ?_)|(apply qC;simp[fJ,S0])|(refine zE ?_;intro J hJ;simp[fJ,S0];refine zJ hJ ?_)))
    exact hJJ (kk-1) _ _ oO ⟨kk-1,oO,oO,oO,rfl,by simp[f0,fC],by simp[f1],by simp[fI],sS,rfl,C6 oO (by rw[hP];simp[YX])⟩
  clear f0 fC f1 fI fJ YW fr;rintro fr st2 ⟨kk,o8,V7,T5,⟨f0,fC⟩,f1,fI,fJ,rfl,YW,ZG⟩;by_cases Xr:ii<=kk;rotate_left
  .have hke:ii=kk+1:=oO;have Zn:=lK (hke ▸ YV) YW oO oO oO;have YM:=Xi.step kk a oO oO oO oO oO;have Zf:kk<l.length:=oO;have Xu:=aP eg c kk oO;have YT:=fun x y=>dM eg st q c kk a (x:=x) (y:=y) oO oO;generalize D8:c.getD kk 0=y1 at *;have YC:=YT y1 x rfl hx
   (repeat' (first|apply qS|(apply qC;simp[f0,fC,f1,fI,fJ,Xr];(try with_reducible intro hc))|(refine zE ?_;intro J hJ;simp[f0,fC,f1,fI,fJ,Xr];refine zJ hJ ?_)))
   (refine zS [] [q] [0,2,4,6,8,10,12,14,16,18,20,22,24,27,28,31] ?_;intro J hJ;simp[f0,fC,f1,fI,fJ,o6,Zf,Xk,hd0,Xu,aQ];(repeat refine ca ?_);refine zJ hJ ?_)
   (repeat' (first|apply qS|(refine qR (zZ ?_);simp[f0,fC,f1,fI,fJ])|(refine zE ?_;intro J hJ;simp[f0,fC,f1,fI,fJ];refine zJ hJ ?_)))
   exact⟨_,kk,rfl,YC,YM,oO,oO,by unfold cA;rw[Zn.2,hx];have h:=Zn.1;rwa [show P=_ from funext hPd]at h⟩
  have Zp:ii<kk:=by
   rcases aAB ii kk with h|h
   .exact h
   .exfalso;have e:ii=kk:=oO;have h1:=YL oO;have h2:=ZG Xr;rw[e,h2]at h1;cases h1
  have D5:=YV.swp Zp oO (ZG Xr);have D6:=YW.swp Zp oO (YL oO);have YM:=Xi.step ii kk oO oO oO oO oO;have Z0:(sw c ii kk).getD a 0=x:=by rw[bV _ _ _ _ oO oO,aAa oO,aAa oO];exact hx
  have F6:ii<l.length:=oO;have Zf:kk<l.length:=oO;have Xu:=aP eg c ii oO;have YQ:=aP eg c kk oO;have YT:=fun x y=>dM eg st q c ii kk (x:=x) (y:=y) oO oO;have v9:=qN ii oO;have Y2:=aH kk oO oO;clear YL ZG;generalize D8:c.getD ii 0=y1 at *;generalize j7:c.getD kk 0=y2 at *;have YC:=YT y1 y2 rfl rfl
  (repeat' (first|apply qS|refine qK (zZ ?_)|(apply qC;simp[f0,fC,f1,fI,fJ,Xr];(try with_reducible refine⟨?_,?_⟩)<;>(try with_reducible intro hc)<;>try (exfalso;omega))|(refine zE ?_;intro J hJ;simp[f0,fC,f1,fI,fJ,Xr];refine zJ hJ ?_)))
  (refine zS [] [q] [0,2,4,6,8,10,12,14,16,18,20,22,24,27,28,31] ?_;intro J hJ;simp[f0,fC,f1,fI,fJ,F6,Zf,Xk,Xu,YQ,aQ];(repeat refine ca ?_);refine zJ hJ ?_)
  (repeat' (first|apply qS|apply qB|(refine zE ?_;intro J hJ;simp[fI,fJ,v9,Y2];refine zJ hJ ?_)))
  rw[YC];refine qL (fun m fr st2=>∃(ii jj:Nat) (c:List Int),a<ii/\ii<=jj+1/\jj<b/\jj=m/\(fr 0=.ms q 0 l.length/\fr 4=.fn (.func NQ) cY)/\fr 1=i a/\fr 12=i ii/\fr 13=i jj/\st2=bx eg st q c/\Pm a b l c/\c.getD a 0=x/\Lo P c a ii/\Hi P c jj b) (kk-1) ?_ ?_
  .exact⟨ii+1,kk-1,sw c ii kk,oO,oO,oO,rfl,by simp[f0,fC],by simp[f1],sS,sS,rfl,YM,Z0,D5,D6⟩
  clear f0 fC f1 fI fJ YV YW D5 D6 Xi YM hx Z0 Xk y9 hd0 Xu YQ YT YC D8 j7 y1 y2 j9 hij o8 T5 Zp F6 Zf v9 Y2 Xr V7 I9 ii jj kk c fr;rintro m fr st2 ⟨ii,jj,c,j9,hij,I9,rfl,⟨f0,fC⟩,f1,fI,fJ,rfl,Xi,hx,YV,YW⟩ JJ0 z8;have Xk:=Xi.len;have y9:=cQ hD Xi;have hd0:=aP eg c a oO;rw[hx]at hd0;apply qB;apply qS;refine bB (fun fr st2=>∃ ii:Nat,a<ii/\ii<=jj+1/\(fr 0=.ms q 0 l.length/\fr 4=.fn (.func NQ) cY)/\fr 1=i a/\fr 12=i ii/\fr 13=i jj/\st2=bx eg st q c/\Lo P c a ii/\StU P c ii jj) ?_ ?_
  .apply qB;refine qL (fun m fr st2=>∃ ii:Nat,a<ii/\ii<=jj+1/\m=jj+1-ii/\(fr 0=.ms q 0 l.length/\fr 4=.fn (.func NQ) cY)/\fr 1=i a/\fr 12=i ii/\fr 13=i jj/\st2=bx eg st q c/\Lo P c a ii) (jj+1-ii) ?_ ?_
   .exact⟨ii,oO,oO,rfl,by simp[f0,fC],by simp[f1],by simp[fI],by simp[fJ],rfl,YV⟩
   clear f0 fC f1 fI fJ YV j9 hij fr ii;rintro m fr st2 ⟨ii,j9,hij,rfl,⟨f0,fC⟩,f1,fI,fJ,rfl,YV⟩ JJ hJJ;have v9:=qN ii oO;by_cases Xr:ii<=jj;rotate_left
   .clear hJJ
    (repeat (apply qS));(refine zS [] [q] [0,2,4,6,8,10,12,14,16,18,20,22,24,27,28,30] ?_;intro J hJ;simp[f0,fC,f1,fI,fJ,Xr];refine zJ hJ ?_)
    (repeat' (first|refine qX (zZ ?_)|(apply qC;simp[])))
    exact⟨trivial,ii,oO,oO,by simp[f0,fC],by simp[f1],by simp[fI],by simp[fJ],by trivial,YV,fun h=>absurd h Xr⟩
   have F6:ii<l.length:=oO;have Xu:=aP eg c ii oO;have C6:=YV.more;generalize hy:c.getD ii 0=y at *
   (repeat (apply qS));(refine zS [] [q] [0,2,4,6,8,10,12,14,16,18,20,22,24,27,28,30] ?_;intro J hJ;simp[f0,fC,f1,fI,fJ,Xr,F6,o6,Xk,hd0,Xu,aQ])
   refine aJ (hC.call y x _ (by first|assumption|(subst_vars;exact cC (by assumption) oO)) (by first|assumption|(subst_vars;exact cC (by assumption) oO))) ?_;rintro r s2 ⟨⟨nv,rfl,ZV⟩,rfl⟩;refine⟨fun _=>by simp,?_⟩;have hP:=hPd y;by_cases YX:y<x
   ·(apply aV;simp[ZV,YX];refine zJ hJ ?_)
    (repeat' (first|apply qB|refine qK (zZ ?_)|(apply qC;simp[fI,v9])|(refine zE ?_;intro J hJ;simp[fI,v9];refine zJ hJ ?_)))
    exact hJJ (jj+1-(ii+1)) _ _ oO ⟨ii+1,oO,oO,rfl,by simp[f0,fC],by simp[f1],sS,by simp[fJ],rfl,C6 (by rw[hP];simp[YX])⟩
   .clear hJJ
    (apply aV;simp[ZV,YX];refine zJ hJ ?_)
    (repeat' (first|refine qX (zZ ?_)|(apply qC;simp[])))
    exact⟨trivial,ii,oO,oO,by simp[f0,fC],by simp[f1],by simp[fI],by simp[fJ],by trivial,YV,fun _=>by rw[hy,hP];simp[YX]⟩
  clear f0 fC f1 fI fJ YV j9 hij fr ii;rintro fr st2 ⟨ii,j9,hij,⟨f0,fC⟩,f1,fI,fJ,rfl,YV,YL⟩;apply qS;refine bB (fun fr st2=>∃ kk:Nat,a<=kk/\kk<=jj/\ii<=kk+1/\(fr 0=.ms q 0 l.length/\fr 4=.fn (.func NQ) cY)/\fr 1=i a/\fr 12=i ii/\fr 13=i kk/\st2=bx eg st q c/\Hi P c kk b/\StD P c ii kk) ?_ ?_
  .apply qB;refine qL (fun m fr st2=>∃ kk:Nat,a<=kk/\kk<=jj/\ii<=kk+1/\kk=m/\(fr 0=.ms q 0 l.length/\fr 4=.fn (.func NQ) cY)/\fr 1=i a/\fr 12=i ii/\fr 13=i kk/\st2=bx eg st q c/\Hi P c kk b) jj ?_ ?_
   .exact⟨jj,oO,oO,oO,rfl,by simp[f0,fC],by simp[f1],by simp[fI],by simp[fJ],rfl,YW⟩
   clear f0 fC f1 fI fJ YW fr;rintro m fr st2 ⟨kk,o8,V7,T5,rfl,⟨f0,fC⟩,f1,fI,fJ,rfl,YW⟩ JJ hJJ;by_cases Xr:ii<=kk;rotate_left
   .clear hJJ
    (repeat (apply qS));(refine zS [] [q] [0,2,4,6,8,10,12,14,16,18,20,22,24,27,28,30,32] ?_;intro J hJ;simp[f0,fC,f1,fI,fJ,Xr];refine zJ hJ ?_)
    (repeat' (first|refine qX (zZ ?_)|(apply qC;simp[])))
    exact⟨trivial,kk,oO,oO,oO,by simp[f0,fC],by simp[f1],by simp[fI],by simp[fJ],by trivial,YW,fun h=>absurd h Xr⟩
   have S0:=aH kk oO oO;have hlj:kk<l.length:=oO;have Xu:=aP eg c kk oO;have C6:=YW.more;generalize hy:c.getD kk 0=y at *
   (repeat (apply qS));(refine zS [] [q] [0,2,4,6,8,10,12,14,16,18,20,22,24,27,28,30,32] ?_;intro J hJ;simp[f0,fC,f1,fI,fJ,Xr,hlj,o6,Xk,hd0,Xu,aQ])
   refine aJ (hC.call y x _ (by first|assumption|(subst_vars;exact cC (by assumption) oO)) (by first|assumption|(subst_vars;exact cC (by assumption) oO))) ?_;rintro r s2 ⟨⟨nv,rfl,ZV⟩,rfl⟩;refine⟨fun _=>by simp,?_⟩;have hP:=hPd y;by_cases YX:y<x
   .clear hJJ
    (apply aV;simp[ZV,YX];refine zJ hJ ?_)
    (repeat' (first|refine qX (zZ ?_)|(apply qC;simp[])))
    exact⟨trivial,kk,oO,oO,oO,by simp[f0,fC],by simp[f1],by simp[fI],by simp[fJ],by trivial,YW,fun _=>by rw[hy,hP];simp[YX]⟩
   ·(apply aV;simp[ZV,YX];refine zJ hJ ?_)
    (repeat' (first|apply qB|refine qK (zZ ?_)|(apply qC;simp[fJ,S0])|(refine zE ?_;intro J hJ;simp[fJ,S0];refine zJ hJ ?_)))
    exact hJJ (kk-1) _ _ oO ⟨kk-1,oO,oO,oO,rfl,by simp[f0,fC],by simp[f1],by simp[fI],sS,rfl,C6 oO (by rw[hP];simp[YX])⟩
  clear f0 fC f1 fI fJ YW fr;rintro fr st2 ⟨kk,o8,V7,T5,⟨f0,fC⟩,f1,fI,fJ,rfl,YW,ZG⟩;by_cases Xr:ii<=kk;rotate_left
  .clear z8;have hke:ii=kk+1:=oO;have Zn:=lK (hke ▸ YV) YW oO oO oO;have YM:=Xi.step kk a oO oO oO oO oO;have Zf:kk<l.length:=oO;have Xu:=aP eg c kk oO;have YT:=fun x y=>dM eg st q c kk a (x:=x) (y:=y) oO oO;generalize D8:c.getD kk 0=y1 at *;have YC:=YT y1 x rfl hx
   (repeat' (first|apply qS|refine qX (zZ ?_)|(apply qC;simp[f0,fC,f1,fI,fJ,Xr];(try with_reducible intro hc))|(refine zE ?_;intro J hJ;simp[f0,fC,f1,fI,fJ,Xr];refine zJ hJ ?_)))
   (refine zS [] [q] [0,2,4,6,8,10,12,14,16,18,20,22,24,27,28,31] ?_;intro J hJ;simp[f0,fC,f1,fI,fJ,o6,Zf,Xk,hd0,Xu,aQ];(repeat refine ca ?_);refine zJ hJ ?_)
   (repeat' (first|apply qS|(refine qR (zZ ?_);simp[f0,fC,f1,fI,fJ])|(refine zE ?_;intro J hJ;simp[f0,fC,f1,fI,fJ];refine zJ hJ ?_)))
   exact⟨_,kk,rfl,YC,YM,oO,oO,by unfold cA;rw[Zn.2,hx];have h:=Zn.1;rwa [show P=_ from funext hPd]at h⟩
  have Zp:ii<kk:=by
   rcases aAB ii kk with h|h
   .exact h
   .exfalso;have e:ii=kk:=oO;have h1:=YL oO;have h2:=ZG Xr;rw[e,h2]at h1;cases h1
  have D5:=YV.swp Zp oO (ZG Xr);have D6:=YW.swp Zp oO (YL oO);have YM:=Xi.step ii kk oO oO oO oO oO;have Z0:(sw c ii kk).getD a 0=x:=by rw[bV _ _ _ _ oO oO,aAa oO,aAa oO];exact hx
  have F6:ii<l.length:=oO;have Zf:kk<l.length:=oO;have Xu:=aP eg c ii oO;have YQ:=aP eg c kk oO;have YT:=fun x y=>dM eg st q c ii kk (x:=x) (y:=y) oO oO;have v9:=qN ii oO;have Y2:=aH kk oO oO;clear YL ZG;generalize D8:c.getD ii 0=y1 at *;generalize j7:c.getD kk 0=y2 at *;have YC:=YT y1 y2 rfl rfl
  (repeat' (first|apply qS|refine qK (zZ ?_)|(apply qC;simp[f0,fC,f1,fI,fJ,Xr];(try with_reducible refine⟨?_,?_⟩)<;>(try with_reducible intro hc)<;>try (exfalso;omega))|(refine zE ?_;intro J hJ;simp[f0,fC,f1,fI,fJ,Xr];refine zJ hJ ?_)))
  (refine zS [] [q] [0,2,4,6,8,10,12,14,16,18,20,22,24,27,28,31] ?_;intro J hJ;simp[f0,fC,f1,fI,fJ,F6,Zf,Xk,Xu,YQ,aQ];(repeat refine ca ?_);refine zJ hJ ?_)
  (repeat' (first|apply qS|(refine zE ?_;intro J hJ;simp[fI,fJ,v9,Y2];refine zJ hJ ?_)))
  exact z8 (kk-1) _ _ oO ⟨ii+1,kk-1,sw c ii kk,oO,oO,oO,rfl,by simp[f0,fC],by simp[f1],sS,sS,YC,YM,Z0,D5,D6⟩
def Aw.CE.partition:=tK.1
def Aw.CR.partition:=tK.2
open Go Go.RowKit Pl Aw
open Aw.CE
open Aw.CR
theorem lQ:(∀ ⦃NQ:FuncId⦄ ⦃cY:List LV⦄ ⦃eg:Int->Ed⦄ ⦃Dm:Int->Prop⦄ (hC:fF NQ cY eg Dm) (l:List Int) (q a b pv:Nat) (st:St) (hD:∀ x∈l,Dm x) (hl:small l) (YA:a<b) (hb:b<=l.length) (ZF:a<=pv) (Zg:pv<b) (hH:st.H q=.box 56 3 (es3 eg l)),
 aB prog 206 [.ms q 0 l.length,i a,i b,i pv,.fn (.func NQ) cY] st fun r st'=>∃(c:List Int) (YB:Nat),r=i YB/\st'=bx eg st q c/\Pm a b l c/\a<YB/\YB<=b/\uC c a YB b (l.getD pv 0))/\(∀ ⦃NQ:FuncId⦄ ⦃cY:List LV⦄ ⦃eg:Rw⦄ ⦃Dm:Int->Prop⦄ (hC:fF NQ cY eg Dm) (l:List Int) (q a b pv:Nat) (st:St) (hD:∀ x∈l,Dm x) (hl:small l) (YA:a<b) (hb:b<=l.length) (ZF:a<=pv) (Zg:pv<b) (hH:st.H q=.box 23 1 (ws eg l)),
 aB prog 153 [.ms q 0 l.length,i a,i b,i pv,.fn (.func NQ) cY] st fun r st'=>∃(c:List Int) (YB:Nat),r=i YB/\st'=bx eg st q c/\Pm a b l c/\a<YB/\YB<=b/\uC c a YB b (l.getD pv 0)):=by
 refine⟨?_,?_⟩
 all_goals
  intro NQ cY eg Dm hC l q a b pv st hD hl YA hb ZF Zg hH;unfold small at hl
  first|(have _:Int->Ed:=eg;refine zN func206 ntmps206 [.tmp 10] ?_)|refine zN func153 ntmps153 [.tmp 10] ?_
  (repeat (apply qS));(refine zE ?_;intro J hJ;simp[];refine zJ hJ ?_)
  have o6:a<l.length:=oO;have A8:pv<l.length:=oO;have YT:=fun x y=>pJ eg st q l a pv (x:=x) (y:=y) oO oO;have hd0:=aP eg l a oO;have Xu:=aP eg l pv oO;have Xi:Pm a b l (sw l a pv):=Pm.one a pv oO oO oO oO oO;have hx:(sw l a pv).getD a 0=l.getD pv 0:=by
   rw[bV _ _ _ _ oO oO];by_cases e:a=pv
   .rw[aAe e,e]
   .rw[aAa e,aAe rfl]
  generalize S9:l.getD a 0=y0 at *;generalize D8:l.getD pv 0=x at *;have YC:=YT y0 x rfl rfl
  (repeat (apply qS));(refine zS [] [q] [0,2,4,6,8,10,12,14,16,18,20,22,24,27,28,31] ?_;intro J hJ;simp[hH,o6,A8,hd0,Xu,aQ];(repeat refine ca ?_);refine zJ hJ ?_)
  rw[YC];clear YT YC hd0 Xu S9;generalize hc:sw l a pv=c at *;clear hc;have Xk:=Xi.len;have y9:=cQ hD Xi;have w1:=qN a oO;have w2:=aH b oO oO;obtain⟨P,hPd⟩:∃ P:Int->Bool,∀ v,P v=!decide (x<v):=⟨_,fun _=>rfl⟩;apply qS;refine bB (fun fr st2=>(fr 0=.ms q 0 l.length/\fr 4=.fn (.func NQ) cY)/\fr 1=i a/\fr 11=i ((a+1:Nat):Int)/\fr 12=i ((b-1:Nat):Int)/\st2=bx eg st q c) (by(refine zE ?_;intro J hJ;simp[w1,w2];refine zJ hJ ?_);simp) ?_;rintro fr st2 ⟨⟨f0,fC⟩,f1,fI,fJ,rfl⟩;have j9:a<a+1:=oO;have hij:a+1<=b-1+1:=oO;have I9:b-1<b:=oO;have YV:Lo P c a (a+1):=fun p h1 h2=>by omega
  have YW:Hi P c (b-1) b:=fun p h1 h2=>by omega
  generalize a+1=ii at *;generalize b-1=jj at *;clear w1 w2;have hd0:=aP eg c a oO;rw[hx]at hd0;apply qS;apply qB;refine qL (fun m fr st2=>∃(ii jj:Nat) (c:List Int),a<ii/\ii<=jj+1/\jj<b/\jj=m/\(fr 0=.ms q 0 l.length/\fr 4=.fn (.func NQ) cY)/\fr 1=i a/\fr 11=i ii/\fr 12=i jj/\st2=bx eg st q c/\Pm a b l c/\c.getD a 0=x/\Lo P c a ii/\Hi P c jj b) jj ?_ ?_
  .exact⟨ii,jj,c,oO,oO,oO,rfl,⟨f0,fC⟩,f1,fI,fJ,rfl,Xi,hx,YV,YW⟩
  clear f0 fC f1 fI fJ YV YW Xi hx Xk y9 hd0 j9 hij I9 ii jj c fr;rintro m fr st2 ⟨ii,jj,c,j9,hij,I9,rfl,⟨f0,fC⟩,f1,fI,fJ,rfl,Xi,hx,YV,YW⟩ JJ0 z8;have Xk:=Xi.len;have y9:=cQ hD Xi;have hd0:=aP eg c a oO;rw[hx]at hd0;apply qB;apply qS;refine bB (fun fr st2=>∃ ii:Nat,a<ii/\ii<=jj+1/\(fr 0=.ms q 0 l.length/\fr 4=.fn (.func NQ) cY)/\fr 1=i a/\fr 11=i ii/\fr 12=i jj/\st2=bx eg st q c/\Lo P c a ii/\StU P c ii jj) ?_ ?_
  .apply qB;refine qL (fun m fr st2=>∃ ii:Nat,a<ii/\ii<=jj+1/\m=jj+1-ii/\(fr 0=.ms q 0 l.length/\fr 4=.fn (.func NQ) cY)/\fr 1=i a/\fr 11=i ii/\fr 12=i jj/\st2=bx eg st q c/\Lo P c a ii) (jj+1-ii) ?_ ?_
   .exact⟨ii,oO,oO,rfl,by simp[f0,fC],by simp[f1],by simp[fI],by simp[fJ],rfl,YV⟩
   clear f0 fC f1 fI fJ YV j9 hij fr ii;rintro m fr st2 ⟨ii,j9,hij,rfl,⟨f0,fC⟩,f1,fI,fJ,rfl,YV⟩ JJ hJJ;have v9:=qN ii oO;by_cases Xr:ii<=jj;rotate_left
   .clear hJJ
    (repeat (apply qS));(refine zS [] [q] [0,2,4,6,8,10,12,14,16,18,20,22,24,27,28,30,32] ?_;intro J hJ;simp[f0,fC,f1,fI,fJ,Xr];refine zJ hJ ?_)
    (repeat' (first|refine qX (zZ ?_)|(apply qC;simp[])))
    exact⟨trivial,ii,oO,oO,by simp[f0,fC],by simp[f1],by simp[fI],by simp[fJ],by trivial,YV,fun h=>absurd h Xr⟩
   have F6:ii<l.length:=oO;have Xu:=aP eg c ii oO;have C6:=YV.more;generalize hy:c.getD ii 0=y at *
   (repeat (apply qS));(refine zS [] [q] [0,2,4,6,8,10,12,14,16,18,20,22,24,27,28,30,32] ?_;intro J hJ;simp[f0,fC,f1,fI,fJ,Xr,F6,o6,Xk,hd0,Xu,aQ])
   refine aJ (hC.call x y _ (by first|assumption|(subst_vars;exact cC (by assumption) oO)) (by first|assumption|(subst_vars;exact cC (by assumption) oO))) ?_;rintro r s2 ⟨⟨nv,rfl,ZV⟩,rfl⟩;refine⟨fun _=>by simp,?_⟩;have hP:=hPd y;by_cases YX:x<y
   .clear hJJ
    (apply aV;simp[ZV,YX];refine zJ hJ ?_)
    (repeat' (first|refine qX (zZ ?_)|(apply qC;simp[])))
    exact⟨trivial,ii,oO,oO,by simp[f0,fC],by simp[f1],by simp[fI],by simp[fJ],by trivial,YV,fun _=>by rw[hy,hP];simp[YX]⟩
   ·(apply aV;simp[ZV,YX];refine zJ hJ ?_)
    (repeat' (first|apply qB|refine qK (zZ ?_)|(apply qC;simp[fI,v9])|(refine zE ?_;intro J hJ;simp[fI,v9];refine zJ hJ ?_)))
    exact hJJ (jj+1-(ii+1)) _ _ oO ⟨ii+1,oO,oO,rfl,by simp[f0,fC],by simp[f1],sS,by simp[fJ],rfl,C6 (by rw[hP];simp[YX])⟩
  clear f0 fC f1 fI fJ YV j9 hij fr ii;rintro fr st2 ⟨ii,j9,hij,⟨f0,fC⟩,f1,fI,fJ,rfl,YV,YL⟩;apply qS;refine bB (fun fr st2=>∃ kk:Nat,a<=kk/\kk<=jj/\ii<=kk+1/\(fr 0=.ms q 0 l.length/\fr 4=.fn (.func NQ) cY)/\fr 1=i a/\fr 11=i ii/\fr 12=i kk/\st2=bx eg st q c/\Hi P c kk b/\StD P c ii kk) ?_ ?_
  .apply qB;refine qL (fun m fr st2=>∃ kk:Nat,a<=kk/\kk<=jj/\ii<=kk+1/\kk=m/\(fr 0=.ms q 0 l.length/\fr 4=.fn (.func NQ) cY)/\fr 1=i a/\fr 11=i ii/\fr 12=i kk/\st2=bx eg st q c/\Hi P c kk b) jj ?_ ?_
   .exact⟨jj,oO,oO,oO,rfl,by simp[f0,fC],by simp[f1],by simp[fI],by simp[fJ],rfl,YW⟩
   clear f0 fC f1 fI fJ YW fr;rintro m fr st2 ⟨kk,o8,V7,T5,rfl,⟨f0,fC⟩,f1,fI,fJ,rfl,YW⟩ JJ hJJ;by_cases Xr:ii<=kk;rotate_left
   .clear hJJ
    (repeat (apply qS));(refine zS [] [q] [0,2,4,6,8,10,12,14,16,18,20,22,24,27,28,30] ?_;intro J hJ;simp[f0,fC,f1,fI,fJ,Xr];refine zJ hJ ?_)
    (repeat' (first|refine qX (zZ ?_)|(apply qC;simp[])))
    exact⟨trivial,kk,oO,oO,oO,by simp[f0,fC],by simp[f1],by simp[fI],by simp[fJ],by trivial,YW,fun h=>absurd h Xr⟩
   have S0:=aH kk oO oO;have hlj:kk<l.length:=oO;have Xu:=aP eg c kk oO;have C6:=YW.more;generalize hy:c.getD kk 0=y at *
   (repeat (apply qS));(refine zS [] [q] [0,2,4,6,8,10,12,14,16,18,20,22,24,27,28,30] ?_;intro J hJ;simp[f0,fC,f1,fI,fJ,Xr,hlj,o6,Xk,hd0,Xu,aQ])
   refine aJ (hC.call x y _ (by first|assumption|(subst_vars;exact cC (by assumption) oO)) (by first|assumption|(subst_vars;exact cC (by assumption) oO))) ?_;rintro r s2 ⟨⟨nv,rfl,ZV⟩,rfl⟩;refine⟨fun _=>by simp,?_⟩;have hP:=hPd y;by_cases YX:x<y
   ·(apply aV;simp[ZV,YX];refine zJ hJ ?_)
    (repeat' (first|apply qB|refine qK (zZ ?_)|(apply qC;simp[fJ,S0])|(refine zE ?_;intro J hJ;simp[fJ,S0];refine zJ hJ ?_)))
    exact hJJ (kk-1) _ _ oO ⟨kk-1,oO,oO,oO,rfl,by simp[f0,fC],by simp[f1],by simp[fI],sS,rfl,C6 oO (by rw[hP];simp[YX])⟩
   .clear hJJ
    (apply aV;simp[ZV,YX];refine zJ hJ ?_)
    (repeat' (first|refine qX (zZ ?_)|(apply qC;simp[])))
    exact⟨trivial,kk,oO,oO,oO,by simp[f0,fC],by simp[f1],by simp[fI],by simp[fJ],by trivial,YW,fun _=>by rw[hy,hP];simp[YX]⟩
  clear f0 fC f1 fI fJ YW fr;rintro fr st2 ⟨kk,o8,V7,T5,⟨f0,fC⟩,f1,fI,fJ,rfl,YW,ZG⟩;by_cases Xr:ii<=kk;rotate_left
  .clear z8
   (repeat' (first|apply qS|refine qX (zZ ?_)|(refine qR (zZ ?_);simp[f0,fC,f1,fI,fJ,Xr])|(apply qC;simp[f0,fC,f1,fI,fJ,Xr];(try with_reducible intro hc))|(refine zE ?_;intro J hJ;simp[f0,fC,f1,fI,fJ,Xr];refine zJ hJ ?_)))
   refine⟨c,ii,rfl,rfl,Xi,oO,oO,fun p h1 h2=>?_,fun p h1 h2=>?_⟩
   .by_cases e:p=a
    .rw[e,hx];exact aCg _
    .have:=YV p oO h2;rw[hPd]at this;simpa using this
   .have:=YW p oO h2;rw[hPd]at this;simpa using this
  have Zp:ii<kk:=by
   rcases aAB ii kk with h|h
   .exact h
   .exfalso;have e:ii=kk:=oO;have h1:=YL oO;have h2:=ZG Xr;rw[e,h2]at h1;cases h1
  have D5:=YV.swp Zp oO (ZG Xr);have D6:=YW.swp Zp oO (YL oO);have YM:=Xi.step ii kk oO oO oO oO oO;have Z0:(sw c ii kk).getD a 0=x:=by rw[bV _ _ _ _ oO oO,aAa oO,aAa oO];exact hx
  have F6:ii<l.length:=oO;have Zf:kk<l.length:=oO;have Xu:=aP eg c ii oO;have YQ:=aP eg c kk oO;have YT:=fun x y=>dM eg st q c ii kk (x:=x) (y:=y) oO oO;have v9:=qN ii oO;have Y2:=aH kk oO oO;clear YL ZG;generalize D8:c.getD ii 0=y1 at *;generalize j7:c.getD kk 0=y2 at *;have YC:=YT y1 y2 rfl rfl
  (repeat' (first|apply qS|refine qK (zZ ?_)|(apply qC;simp[f0,fC,f1,fI,fJ,Xr];(try with_reducible refine⟨?_,?_⟩)<;>(try with_reducible intro hc)<;>try (exfalso;omega))|(refine zE ?_;intro J hJ;simp[f0,fC,f1,fI,fJ,Xr];refine zJ hJ ?_)))
  (refine zS [] [q] [0,2,4,6,8,10,12,14,16,18,20,22,24,27,28,31] ?_;intro J hJ;simp[f0,fC,f1,fI,fJ,F6,Zf,Xk,Xu,YQ,aQ];(repeat refine ca ?_);refine zJ hJ ?_)
  (repeat' (first|apply qS|(refine zE ?_;intro J hJ;simp[fI,fJ,v9,Y2];refine zJ hJ ?_)))
  exact z8 (kk-1) _ _ oO ⟨ii+1,kk-1,sw c ii kk,oO,oO,oO,rfl,by simp[f0,fC],by simp[f1],sS,sS,YC,YM,Z0,D5,D6⟩
def Aw.CE.gL:=lQ.1
def Aw.CR.gL:=lQ.2
end Go.Proofs.YtempldclppogmaaGreatDoor
