/- SE6 and SR6 in one: written by gentwo.py. -/
import Derived.Test.YtempldclppogmaaGreatDoorJl
set_option linter.unusedVariables false
set_option linter.unusedSimpArgs false
set_option linter.defProp false
set_option maxHeartbeats 4000000
open Go.Proofs.Tryz
namespace Go.Proofs.YtempldclppogmaaGreatDoor
open Go Go.RowKit Pl Aw
open Aw.CE
open Aw.CR
namespace Aw.CE
def wS(OM:FuncId)(cX:List LV)(eg:Int->Ed)(q a b k j:Nat)(l:List Int)(st:St)(fr:Frm)(st2:St):Prop:=∃ c:List Int,(fr 0=.ms q 0 l.length/\fr 3=.fn (.func OM) cX)/\fr 1=i a/\fr 2=i b/\fr 9=i k/\fr 10=i j/\st2=bx eg st q c/\Pm a b l c/\Srt a k c
end Aw.CE
namespace Aw.CR
def wS(OM:FuncId)(cX:List LV)(eg:Rw)(q a b k j:Nat)(l:List Int)(st:St)(fr:Frm)(st2:St):Prop:=∃ c:List Int,(fr 0=.ms q 0 l.length/\fr 3=.fn (.func OM) cX)/\fr 1=i a/\fr 2=i b/\fr 9=i k/\fr 10=i j/\st2=bx eg st q c/\Pm a b l c/\Srt a k c
end Aw.CR
theorem fT:(∀ ⦃OM:FuncId⦄ ⦃cX:List LV⦄ ⦃eg:Int->Ed⦄ ⦃Dm:Int->Prop⦄ (hC:fR OM cX eg Dm) (l:List Int) (q a b:Nat) (st:St) (hD:∀ x∈l,Dm x) (hl:small l) (ha:a<b) (hb:b<=l.length) (hah:gK l a b) (hH:st.H q=.box 56 3 (es3 eg l)),
 aB prog 205 [.ms q 0 l.length,i a,i b,.fn (.func OM) cX] st fun r st'=>∃ c p,r=bb p/\st'=bx eg st q c/\Pm a b l c/\Pj p a b c)/\(∀ ⦃OM:FuncId⦄ ⦃cX:List LV⦄ ⦃eg:Rw⦄ ⦃Dm:Int->Prop⦄ (hC:fR OM cX eg Dm) (l:List Int) (q a b:Nat) (st:St) (hD:∀ x∈l,Dm x) (hl:small l) (ha:a<b) (hb:b<=l.length) (hah:gK l a b) (hH:st.H q=.box 23 1 (ws eg l)),
 aB prog 152 [.ms q 0 l.length,i a,i b,.fn (.func OM) cX] st fun r st'=>∃ c p,r=bb p/\st'=bx eg st q c/\Pm a b l c/\Pj p a b c):=by
 refine⟨?_,?_⟩
 all_goals
  intro OM cX eg Dm hC l q a b st hD hl ha hb hah hH;unfold small at hl
  first|(have _:Int->Ed:=eg;refine zN func205 ntmps205 [.tmp 8] ?_)|refine zN func152 ntmps152 [.tmp 8] ?_
  have G7:=qN a oO
  (repeat' (first|apply qS|apply qB|(refine zE ?_;intro J hJ;simp[G7];refine zJ hJ ?_)))
  refine qL (fun n fr st2=>∃(j k:Nat) (c:List Int),j<=5/\n=5-j/\a<k/\k<=b/\(fr 0=.ms q 0 l.length/\fr 3=.fn (.func OM) cX)/\fr 1=i a/\fr 2=i b/\fr 9=i k/\fr 10=i j/\st2=bx eg st q c/\Pm a b l c/\Srt a k c) 5 ?_ ?_
  .exact⟨0,a+1,l,oO,rfl,oO,oO,sS,sS,sS,sS,sS,fH hH,.refl,fun p q h1 h2 h3=>by omega⟩
  rintro n fr st2 ⟨j,k,c,hj,rfl,n9,B3,⟨f0,fC⟩,f1,f2,f7,f8,rfl,Xf,hs⟩ J0 x9;by_cases hj5:(j:Int)<5;rotate_left
  .clear x9
   (repeat' (first|apply qS|refine qX (zZ ?_)|(refine qR (zZ ?_);simp[f8,hj5])|(apply qC;simp[f8,hj5])|(refine zE ?_;intro J hJ;simp[f8,hj5];refine zJ hJ ?_)))
   exact⟨c,rfl,Xf,fun h=>by cases h⟩
  have Xh:=Xf.len;have x8:=cS hD Xf
  (repeat (apply qS));(refine zE ?_;intro J hJ;simp[f8,hj5];refine zJ hJ ?_)
  (apply qC;simp[])
  refine qK (zZ ?_);apply qS;apply qB;apply qS;refine bC (fun fr st2=>∃ k:Nat,a<k/\k<=b/\(fr 0=.ms q 0 l.length/\fr 3=.fn (.func OM) cX)/\fr 1=i a/\fr 2=i b/\fr 9=i k/\fr 10=i j/\st2=bx eg st q c/\Srt a k c/\Sw c k b) ?_ ?_
  .apply qB;refine qL (fun n fr st2=>∃ k:Nat,n=b-k/\a<k/\k<=b/\(fr 0=.ms q 0 l.length/\fr 3=.fn (.func OM) cX)/\fr 1=i a/\fr 2=i b/\fr 9=i k/\fr 10=i j/\st2=bx eg st q c/\Srt a k c) (b-k) ?_ ?_
   .exact⟨k,rfl,n9,B3,by simp[f0,fC],by simp[f1],by simp[f2],by simp[f7],by simp[f8],rfl,hs⟩
   clear f0 fC f1 f2 f7 f8 hs n9 B3 fr k;rintro n fr st2 ⟨k,rfl,n9,B3,⟨f0,fC⟩,f1,f2,f7,f8,rfl,hs⟩ JJ hJJ;by_cases GD:k<b;rotate_left
   .clear hJJ
    (repeat (apply qS));(refine zS [] [q] [0,2,4,6,8,10,12,14,16,18,20,22,24,26,29,30,32,34] ?_;intro J hJ;simp[f0,fC,f2,f7,GD];refine zJ hJ ?_)
    (repeat' (first|refine qX (zZ ?_)|(apply qC;simp[])))
    exact⟨trivial,k,oO,oO,by simp[f0,fC],by simp[f1],by simp[f2],by simp[f7],by simp[f8],by trivial,hs,fun h=>absurd h GD⟩
   have w1:=qN k oO;have w2:=aG k oO oO;have Xn:=aR eg c k oO;have YM:=aR eg c (k-1) oO;have F6:k<l.length:=oO;have E0:k-1<l.length:=oO;have Xl:=hs.ins.done oO;generalize hx:c.getD k 0=x at *;generalize hy:c.getD (k-1) 0=y at *
   (repeat (apply qS));(refine zS [] [q] [0,2,4,6,8,10,12,14,16,18,20,22,24,26,29,30,32,34] ?_;intro J hJ;simp[f0,fC,f2,f7,GD,w2,F6,E0,Xh,Xn,YM,aQ])
   refine aK (hC.call x y _ (by first|assumption|(subst_vars;exact cF (by assumption) oO)) (by first|assumption|(subst_vars;exact cF (by assumption) oO))) ?_;rintro r s2 ⟨⟨nv,rfl,ZS⟩,rfl⟩;refine⟨fun _=>by simp,?_⟩;by_cases YK:x<y
   .clear hJJ
    (apply aS;simp[ZS,YK];refine zJ hJ ?_)
    (repeat' (first|refine qX (zZ ?_)|(apply qC;simp[])))
    exact⟨trivial,k,oO,oO,by simp[f0,fC],by simp[f1],by simp[f2],by simp[f7],by simp[f8],by trivial,hs,fun h=>by rw[hx,hy];exact YK⟩
   ·(apply aS;simp[ZS,YK];refine zJ hJ ?_)
    (repeat' (first|apply qB|refine qK (zZ ?_)|(apply qC;simp[f7,w1])|(refine zE ?_;intro J hJ;simp[f7,w1];refine zJ hJ ?_)))
    exact hJJ (b-(k+1)) _ _ oO ⟨k+1,rfl,oO,oO,by simp[f0,fC],by simp[f1],by simp[f2],sS,by simp[f8],rfl,Xl (.inr YK)⟩
  clear f0 fC f1 f2 f7 f8 hs n9 B3 fr k;rintro fr st2 ⟨k,n9,B3,⟨f0,fC⟩,f1,f2,f7,f8,rfl,hs,hfall⟩;by_cases hkb2:k=b
  .clear x9;have Zm:(k:Int)=(b:Int):=oO
   (repeat' (first|apply qS|(refine qR (zZ ?_);simp[f2,f7,Zm])|(apply qC;simp[f2,f7,Zm])|(refine zE ?_;intro J hJ;simp[f2,f7,Zm];refine zJ hJ ?_)))
   exact⟨c,rfl,Xf,fun _=>by rw[<- hkb2];exact hs⟩
  have Zm:¬(k:Int)=(b:Int):=oO;have w1:IntKind.i64.wrap ((b:Int)-(a:Int))=(b:Int)-(a:Int):=zW;by_cases J6:(b:Int)-(a:Int)<50
  .clear x9
   (repeat' (first|apply qS|refine qK (zZ ?_)|(refine qR (zZ ?_);simp[f1,f2,f7,Zm,w1,J6])|(apply qC;simp[f1,f2,f7,Zm,w1,J6])|(refine zE ?_;intro J hJ;simp[f1,f2,f7,Zm,w1,J6];refine zJ hJ ?_)))
   exact⟨c,rfl,Xf,fun h=>by cases h⟩
  have w2:=aG k oO oO;have Xn:=aR eg c k oO;have YM:=aR eg c (k-1) oO;have F6:k<l.length:=oO;have E0:k-1<l.length:=oO;have YP:=fun x y=>dL eg st q c k (k-1) (x:=x) (y:=y) oO oO;have v5:Srt a (k-1) (sw c k (k-1)):=by intro p q h1 h2 h3;rw[bZ _ _ _ _ oO oO,bZ _ _ _ _ oO oO,aAa oO,aAa oO,aAa oO,aAa oO];exact hs p q h1 h2 oO
  have Yo:=Xf.step k (k-1) oO oO oO oO oO;generalize hx:c.getD k 0=x at *;generalize hy:c.getD (k-1) 0=y at *;have Xy:=YP x y rfl rfl
  (repeat' (first|apply qS|refine qK (zZ ?_)|(apply qC;simp[f1,f2,f7,Zm,w1,J6])|(refine zE ?_;intro J hJ;simp[f1,f2,f7,Zm,w1,J6];refine zJ hJ ?_)))
  (refine zS [] [q] [0,2,4,6,8,10,12,14,16,18,20,22,24,26,28,31,32,35] ?_;intro J hJ;simp[f0,fC,f7,w2,F6,E0,Xh,Xn,YM,aQ];(repeat refine ca ?_);refine zJ hJ ?_)
  rw[Xy];clear YP Xy Xn YM hx hy hs hfall;generalize ZK:sw c k (k-1)=c1 at *;have hcl1:=Yo.len;clear ZK Xf Xh x8 c;have w3:IntKind.i64.wrap ((k:Int)-(a:Int))=(k:Int)-(a:Int):=zW;apply qS;refine bC (wS OM cX eg q a b k j l st) ?_ ?_
  .by_cases Xq:(2:Int)<=(k:Int)-(a:Int);rotate_left
   ·(repeat' (first|apply qS|refine qK (zZ ?_)|(apply qC;simp[f1,f7,w3,Xq])|(refine zE ?_;intro J hJ;simp[f1,f7,w3,Xq];refine zJ hJ ?_)))
    refine⟨by trivial,?_⟩;(first|unfold CE.wS|unfold CR.wS);exact⟨c1,by simp[f0,fC],by simp[f1],by simp[f2],by simp[f7],by simp[f8],by trivial,Yo,fun p q h1 h2 h3=>by omega⟩
   (repeat' (first|apply qS|apply qB|(apply qC;simp[f1,f7,w3,Xq,w2])|(refine zE ?_;intro J hJ;simp[f1,f7,w3,Xq,w2];refine zJ hJ ?_)))
   refine qL (fun n fr st2=>∃(m:Nat) (c:List Int),a<=m/\m<=k-1/\m=n/\(fr 0=.ms q 0 l.length/\fr 3=.fn (.func OM) cX)/\fr 1=i a/\fr 2=i b/\fr 9=i k/\fr 10=i j/\fr 11=i m/\st2=bx eg st q c/\Pm a b l c/\Ins a m (k-1) c) (k-1) ?_ ?_
   .exact⟨k-1,c1,oO,oO,rfl,by simp[f0,fC],by simp[f1],by simp[f2],by simp[f7],by simp[f8],sS,rfl,Yo,v5.ins⟩
   clear f0 fC f1 f2 f7 f8 Yo v5 hcl1 c1 fr;rintro n fr st2 ⟨m,c,ham,hmk,rfl,⟨f0,fC⟩,f1,f2,f7,f8,f9,rfl,Xf,hI⟩ JJ hJJ;have Xh:=Xf.len;have x8:=cS hD Xf;have Xp:k-1+1=k:=oO;by_cases E8:(1:Int)<=(m:Int);rotate_left
   .clear hJJ
    (repeat' (first|apply qS|refine qX (zZ ?_)|(apply qC;simp[f9,E8])|(refine zE ?_;intro J hJ;simp[f9,E8];refine zJ hJ ?_)))
    refine⟨by trivial,?_⟩;(first|unfold CE.wS|unfold CR.wS);refine⟨c,by simp[f0,fC],by simp[f1],by simp[f2],by simp[f7],by simp[f8],by trivial,Xf,?_⟩;have:=hI.done ham (.inl oO);rwa [Xp]at this
   have w4:=aG m oO oO;have Xn:=aR eg c m oO;have YM:=aR eg c (m-1) oO;have J7:m<l.length:=oO;have N9:m-1<l.length:=oO;have YP:=fun x y=>dL eg st q c m (m-1) (x:=x) (y:=y) oO oO;have hahm:m=a->¬c.getD m 0<c.getD (m-1) 0:=by rintro rfl;have:=hah.pm Xf oO m oO oO;omega
   have P4:=hI.done ham;rw[Xp]at P4;have YH:=fun h=>hI.step h hmk oO;generalize hx:c.getD m 0=x at *;generalize hy:c.getD (m-1) 0=y at *;have Xy:=YP x y rfl rfl
   (repeat' (first|apply qS|apply qB|refine qK (zZ ?_)|(apply qC;simp[f9,E8])|(refine zE ?_;intro J hJ;simp[f9,E8];refine zJ hJ ?_)))
   (refine zS [] [q] [0,2,4,6,8,10,12,14,16,18,21,22,24] ?_;intro J hJ;simp[f0,fC,f9,w4,J7,N9,Xh,Xn,YM,aQ])
   refine aK (hC.call x y _ (by first|assumption|(subst_vars;exact cF (by assumption) oO)) (by first|assumption|(subst_vars;exact cF (by assumption) oO))) ?_;rintro r s2 ⟨⟨nv,rfl,ZS⟩,rfl⟩;refine⟨fun _=>by simp,?_⟩;by_cases YK:x<y;rotate_left
   .clear hJJ
    (apply aS;simp[ZS,YK];refine zJ hJ ?_)
    (repeat' (first|refine qX (zZ ?_)|(apply qC;simp[])))
    refine⟨by trivial,?_⟩;(first|unfold CE.wS|unfold CR.wS);exact⟨c,by simp[f0,fC],by simp[f1],by simp[f2],by simp[f7],by simp[f8],by trivial,Xf,P4 (.inr YK)⟩
   have I7:a<m:=by
    rcases aAN a m with h|h
    .exact h
    .exact absurd YK (hahm oO)
   have YE:=Xf.step m (m-1) oO oO oO oO oO
   (apply aS;simp[ZS,YK];refine zJ hJ ?_)
   (repeat' (first|refine qK (zZ ?_)|(apply qC;simp[])))
   (refine zS [] [q] [0,2,4,6,8,10,12,14,16,18,20,22,24,26,28,31,32,35] ?_;intro J hJ;simp[f0,fC,f9,w4,J7,N9,Xh,Xn,YM,aQ];(repeat refine ca ?_);refine zJ hJ ?_)
   (repeat' (refine zE ?_;intro J hJ;simp[f9,w4];refine zJ hJ ?_))
   exact hJJ (m-1) _ _ oO ⟨m-1,sw c m (m-1),oO,oO,rfl,by simp[f0,fC],by simp[f1],by simp[f2],by simp[f7],by simp[f8],sS,Xy,YE,YH I7 YK⟩
  clear f0 fC f1 f2 f7 f8 Yo v5 hcl1 c1 fr;rintro fr st2 ⟨c,⟨f0,fC⟩,f1,f2,f7,f8,rfl,Xf,hs⟩;have Xh:=Xf.len;have x8:=cS hD Xf;have w5:IntKind.i64.wrap ((b:Int)-(k:Int))=(b:Int)-(k:Int):=zW;have w6:=qN j oO;have w7:=qN k oO;by_cases Xq:(2:Int)<=(b:Int)-(k:Int);rotate_left
  ·(repeat' (first|apply qS|refine qK (zZ ?_)|(apply qC;simp[f2,f7,w5,Xq,f8,w6])|(refine zE ?_;intro J hJ;simp[f2,f7,w5,Xq,f8,w6];refine zJ hJ ?_)))
   exact x9 (5-(j+1)) _ _ oO ⟨j+1,k,c,oO,rfl,n9,B3,by simp[f0,fC],by simp[f1],by simp[f2],by simp[f7],sS,rfl,Xf,hs⟩
  (repeat' (first|apply qS|apply qB|(apply qC;simp[f2,f7,w5,Xq,w7])|(refine zE ?_;intro J hJ;simp[f2,f7,w5,Xq,w7];refine zJ hJ ?_)))
  refine qL (fun n fr st2=>∃(m:Nat) (c:List Int),k<m/\m<=b/\n=b-m/\(fr 0=.ms q 0 l.length/\fr 3=.fn (.func OM) cX)/\fr 1=i a/\fr 2=i b/\fr 9=i k/\fr 10=i j/\fr 12=i m/\st2=bx eg st q c/\Pm a b l c/\Srt a k c) (b-(k+1)) ?_ ?_
  .exact⟨k+1,c,oO,oO,rfl,by simp[f0,fC],by simp[f1],by simp[f2],by simp[f7],by simp[f8],sS,rfl,Xf,hs⟩
  clear f0 fC f1 f2 f7 f8 Xf hs Xh x8 c fr;rintro n fr st2 ⟨m,c,hkm,Zf,rfl,⟨f0,fC⟩,f1,f2,f7,f8,f10,rfl,Xf,hs⟩ JJ hJJ;have Xh:=Xf.len;have x8:=cS hD Xf;by_cases GD:m<b;rotate_left
  .clear hJJ
   (repeat' (first|apply qS|refine qX (zZ ?_)|(apply qC;simp[f2,f10,GD,f8,w6])|(refine zE ?_;intro J hJ;simp[f2,f10,GD,f8,w6];refine zJ hJ ?_)))
   exact x9 (5-(j+1)) _ _ oO ⟨j+1,k,c,oO,rfl,n9,B3,by simp[f0,fC],by simp[f1],by simp[f2],by simp[f7],sS,rfl,Xf,hs⟩
  have w4:=aG m oO oO;have w8:=qN m oO;have Xn:=aR eg c m oO;have YM:=aR eg c (m-1) oO;have J7:m<l.length:=oO;have N9:m-1<l.length:=oO;have YP:=fun x y=>dL eg st q c m (m-1) (x:=x) (y:=y) oO oO;have YE:=Xf.step m (m-1) oO oO oO oO oO;have I5:Srt a k (sw c m (m-1)):=by intro p q h1 h2 h3;rw[bZ _ _ _ _ oO oO,bZ _ _ _ _ oO oO,aAa oO,aAa oO,aAa oO,aAa oO];exact hs p q h1 h2 oO
  generalize hx:c.getD m 0=x at *;generalize hy:c.getD (m-1) 0=y at *;have Xy:=YP x y rfl rfl
  (repeat' (first|apply qS|apply qB|refine qK (zZ ?_)|(apply qC;simp[f2,f10,GD])|(refine zE ?_;intro J hJ;simp[f2,f10,GD];refine zJ hJ ?_)))
  (refine zS [] [q] [0,2,4,6,8,10,12,14,16,18,21,22,24] ?_;intro J hJ;simp[f0,fC,f10,w4,J7,N9,Xh,Xn,YM,aQ])
  refine aK (hC.call x y _ (by first|assumption|(subst_vars;exact cF (by assumption) oO)) (by first|assumption|(subst_vars;exact cF (by assumption) oO))) ?_;rintro r s2 ⟨⟨nv,rfl,ZS⟩,rfl⟩;refine⟨fun _=>by simp,?_⟩;by_cases YK:x<y;rotate_left
  .clear hJJ
   (apply aS;simp[ZS,YK];refine zJ hJ ?_)
   (repeat' (first|refine qX (zZ ?_)|(apply qC;simp[f8,w6])|(refine zE ?_;intro J hJ;simp[f8,w6];refine zJ hJ ?_)))
   exact x9 (5-(j+1)) _ _ oO ⟨j+1,k,c,oO,rfl,n9,B3,by simp[f0,fC],by simp[f1],by simp[f2],by simp[f7],sS,rfl,Xf,hs⟩
  (apply aS;simp[ZS,YK];refine zJ hJ ?_)
  (repeat' (first|refine qK (zZ ?_)|(apply qC;simp[])))
  (refine zS [] [q] [0,2,4,6,8,10,12,14,16,18,20,22,24,26,28,31,32,35] ?_;intro J hJ;simp[f0,fC,f10,w4,J7,N9,Xh,Xn,YM,aQ];(repeat refine ca ?_);refine zJ hJ ?_)
  (repeat' (refine zE ?_;intro J hJ;simp[f10,w8];refine zJ hJ ?_))
  exact hJJ (b-(m+1)) _ _ oO ⟨m+1,sw c m (m-1),oO,oO,rfl,by simp[f0,fC],by simp[f1],by simp[f2],by simp[f7],by simp[f8],sS,Xy,YE,I5⟩
def Aw.CE.dI:=fT.1
def Aw.CR.dI:=fT.2
open Go Go.RowKit Pl Aw
open Aw.CE
open Aw.CR
theorem DY:(∀ ⦃OM:FuncId⦄ ⦃cX:List LV⦄ ⦃eg:Int->Ed⦄ ⦃Dm:Int->Prop⦄ (hC:fR OM cX eg Dm) (l:List Int) (q p a b:Nat) (s:Int) (st:St) (hD:∀ x∈l,Dm x) (hl:small l) (ha:a<l.length) (hb:b<l.length) (B6:q≠p) (hH:st.H q=.box 56 3 (es3 eg l)) (hp:st.H p=.box 3 1 [i s]),
 aB prog 219 [.ms q 0 l.length,i a,i b,.pt p 0,.fn (.func OM) cX] st fun r st'=>∃(x y:Nat) (s':Int),r=.tu [i x,i y]/\st'=ix st p s'/\((x=a/\y=b)\/(x=b/\y=a)))/\(∀ ⦃OM:FuncId⦄ ⦃cX:List LV⦄ ⦃eg:Rw⦄ ⦃Dm:Int->Prop⦄ (hC:fR OM cX eg Dm) (l:List Int) (q p a b:Nat) (s:Int) (st:St) (hD:∀ x∈l,Dm x) (hl:small l) (ha:a<l.length) (hb:b<l.length) (B6:q≠p) (hH:st.H q=.box 23 1 (ws eg l)) (hp:st.H p=.box 3 1 [i s]),
 aB prog 208 [.ms q 0 l.length,i a,i b,.pt p 0,.fn (.func OM) cX] st fun r st'=>∃(x y:Nat) (s':Int),r=.tu [i x,i y]/\st'=ix st p s'/\((x=a/\y=b)\/(x=b/\y=a))):=by
 refine⟨?_,?_⟩
 all_goals
  intro OM cX eg Dm hC l q p a b s st hD hl ha hb B6 hH hp;unfold small at hl;have hDa:=cF hD ha;have hDb:=cF hD hb;have Xn:=aR eg l a ha;have YM:=aR eg l b hb;generalize l.getD a 0=x at *;generalize l.getD b 0=y at *
  first|(have _:Int->Ed:=eg;refine zN func219 ntmps219 [.tmp 10,.tmp 11] ?_)|refine zN func208 ntmps208 [.tmp 10,.tmp 11] ?_
  (repeat (apply qS));(refine zE ?_;intro J hJ;simp[];refine zJ hJ ?_)
  (repeat (apply qS));(refine zS [] [q] [0,2,4,6,8,10,12,14,16,19,20] ?_;intro J hJ;simp[hH,ha,hb,Xn,YM,aQ])
  refine aK (hC.call y x _ (by first|assumption|(subst_vars;exact cF (by assumption) oO)) (by first|assumption|(subst_vars;exact cF (by assumption) oO))) ?_;rintro r s2 ⟨⟨nv,rfl,ZS⟩,rfl⟩;refine⟨fun _=>by simp[hH],?_⟩;by_cases YV:y<x
  ·(apply aS;simp[ZS,YV];refine zJ hJ ?_)
   (repeat' (first|apply qS|(refine qR (zZ ?_);simp[hp])|(apply qC;simp[hp])|(refine zE ?_;intro J hJ;simp[hp];refine zJ hJ ?_)))
   exact⟨b,a,⟨rfl,rfl⟩,⟨_,rfl⟩,.inr ⟨rfl,rfl⟩⟩
  ·(apply aS;simp[ZS,YV];refine zJ hJ ?_)
   (repeat' (first|apply qS|refine qK (zZ ?_)|(refine qR (zZ ?_);simp[])|(apply qC;simp[])|(refine zE ?_;intro J hJ;simp[];refine zJ hJ ?_)))
   exact⟨a,b,⟨rfl,rfl⟩,⟨s,zX hp⟩,.inl ⟨rfl,rfl⟩⟩
def Aw.CE.pQ:=DY.1
def Aw.CR.pQ:=DY.2
theorem Cp:(∀ ⦃OM:FuncId⦄ ⦃cX:List LV⦄ ⦃eg:Int->Ed⦄ ⦃Dm:Int->Prop⦄ (hC:fR OM cX eg Dm) (l:List Int) (q p a b c:Nat) (s:Int) (st:St) (hD:∀ x∈l,Dm x) (hl:small l) (ha:a<l.length) (hb:b<l.length) (hc:c<l.length) (B6:q≠p) (hH:st.H q=.box 56 3 (es3 eg l)) (hp:st.H p=.box 3 1 [i s]),
 aB prog 216 [.ms q 0 l.length,i a,i b,i c,.pt p 0,.fn (.func OM) cX] st fun r st'=>∃(x:Nat) (s':Int),r=i x/\st'=ix st p s'/\(x=a\/x=b\/x=c))/\(∀ ⦃OM:FuncId⦄ ⦃cX:List LV⦄ ⦃eg:Rw⦄ ⦃Dm:Int->Prop⦄ (hC:fR OM cX eg Dm) (l:List Int) (q p a b c:Nat) (s:Int) (st:St) (hD:∀ x∈l,Dm x) (hl:small l) (ha:a<l.length) (hb:b<l.length) (hc:c<l.length) (B6:q≠p) (hH:st.H q=.box 23 1 (ws eg l)) (hp:st.H p=.box 3 1 [i s]),
 aB prog 191 [.ms q 0 l.length,i a,i b,i c,.pt p 0,.fn (.func OM) cX] st fun r st'=>∃(x:Nat) (s':Int),r=i x/\st'=ix st p s'/\(x=a\/x=b\/x=c)):=by
 refine⟨?_,?_⟩
 all_goals
  intro OM cX eg Dm hC l q p a b c s st hD hl ha hb hc B6 hH hp
  first|(have _:Int->Ed:=eg;refine zN func216 ntmps216 [.tmp 12] ?_)|refine zN func191 ntmps191 [.tmp 12] ?_
  (repeat' (first|apply qS|(refine zE ?_;intro J hJ;simp[];(try refine zJ hJ ?_))))
  refine qF (pQ hC l q p a b s _ hD hl ha hb B6 hH hp) ?_;rintro r st' ⟨x,y,s1,rfl,rfl,h1⟩
  (repeat' (first|apply qS|((first|(refine zE ?_;intro J hJ)|(apply aF));simp[];(try refine zJ hJ ?_))))
  refine qF (pQ hC l q p y c s1 _ hD hl oO hc B6 (by simp[B6,hH]) sS) ?_;rintro r st' ⟨x2,y2,s2,rfl,rfl,h2⟩
  (repeat' (first|apply qS|((first|(refine zE ?_;intro J hJ)|(apply aF));simp[];(try refine zJ hJ ?_))))
  refine qF (pQ hC l q p x x2 s2 _ hD hl oO oO B6 (by simp[B6,hH]) sS) ?_;rintro r st' ⟨x3,y3,s3,rfl,rfl,h3⟩
  (repeat' (first|apply qS|(refine qR (zZ ?_);simp[])|((first|(refine zE ?_;intro J hJ)|(apply aF));simp[];refine zJ hJ ?_)))
  refine⟨y3,rfl,⟨s3,?_⟩,oO⟩;rw[xL,xL]
def Aw.CE.wI:=Cp.1
def Aw.CR.wI:=Cp.2
theorem lX:(∀ ⦃OM:FuncId⦄ ⦃cX:List LV⦄ ⦃eg:Int->Ed⦄ ⦃Dm:Int->Prop⦄ (hC:fR OM cX eg Dm) (l:List Int) (q p a:Nat) (s:Int) (st:St) (hD:∀ x∈l,Dm x) (hl:small l) (h0:0<a) (ha:a+1<l.length) (B6:q≠p) (hH:st.H q=.box 56 3 (es3 eg l)) (hp:st.H p=.box 3 1 [i s]),
 aB prog 215 [.ms q 0 l.length,i a,.pt p 0,.fn (.func OM) cX] st fun r st'=>∃(x:Nat) (s':Int),r=i x/\st'=ix st p s'/\a-1<=x/\x<=a+1)/\(∀ ⦃OM:FuncId⦄ ⦃cX:List LV⦄ ⦃eg:Rw⦄ ⦃Dm:Int->Prop⦄ (hC:fR OM cX eg Dm) (l:List Int) (q p a:Nat) (s:Int) (st:St) (hD:∀ x∈l,Dm x) (hl:small l) (h0:0<a) (ha:a+1<l.length) (B6:q≠p) (hH:st.H q=.box 23 1 (ws eg l)) (hp:st.H p=.box 3 1 [i s]),
 aB prog 190 [.ms q 0 l.length,i a,.pt p 0,.fn (.func OM) cX] st fun r st'=>∃(x:Nat) (s':Int),r=i x/\st'=ix st p s'/\a-1<=x/\x<=a+1):=by
 refine⟨?_,?_⟩
 all_goals
  intro OM cX eg Dm hC l q p a s st hD hl h0 ha B6 hH hp;have Yn:=hl;unfold small at Yn;have w1:=qN a oO;have w2:=aG a oO oO
  first|(have _:Int->Ed:=eg;refine zN func215 ntmps215 [.tmp 8] ?_)|refine zN func190 ntmps190 [.tmp 8] ?_
  (repeat' (first|apply qS|(refine zE ?_;intro J hJ;simp[w1,w2];(try refine zJ hJ ?_))))
  refine qF (wI hC l q p (a-1) a (a+1) s _ hD hl oO oO oO B6 hH hp) ?_;rintro r st' ⟨x,s1,rfl,rfl,h1⟩
  (repeat' (first|(refine qR (zZ ?_);simp[])|(apply aF;simp[];refine zJ hJ ?_)))
  exact⟨x,rfl,⟨s1,rfl⟩,oO⟩
def Aw.CE.cP:=lX.1
def Aw.CR.cP:=lX.2
namespace Aw.CE
def CK(OM:FuncId)(cX:List LV)(eg:Int->Ed)(q n a b:Nat)(st:St)(fr:Frm)(st2:St):Prop:=∃(j1 j2 j3:Nat) (s:Int),(fr 0=.ms q 0 n/\fr 3=.fn (.func OM) cX)/\fr 11=.pt st.next 0/\fr 12=i j1/\fr 13=i j2/\fr 14=i j3/\a<=j1/\j1<b/\a<=j2/\j2<b/\a<=j3/\j3<b/\st2=ix (st.new (.box 3 1 [i 0])) st.next s
end Aw.CE
namespace Aw.CR
def CK(OM:FuncId)(cX:List LV)(eg:Rw)(q n a b:Nat)(st:St)(fr:Frm)(st2:St):Prop:=∃(j1 j2 j3:Nat) (s:Int),(fr 0=.ms q 0 n/\fr 3=.fn (.func OM) cX)/\fr 11=.pt st.next 0/\fr 12=i j1/\fr 13=i j2/\fr 14=i j3/\a<=j1/\j1<b/\a<=j2/\j2<b/\a<=j3/\j3<b/\st2=ix (st.new (.box 3 1 [i 0])) st.next s
end Aw.CR
theorem qI:(∀ ⦃OM:FuncId⦄ ⦃cX:List LV⦄ ⦃eg:Int->Ed⦄ ⦃Dm:Int->Prop⦄ (hC:fR OM cX eg Dm) (l:List Int) (q a b:Nat) (st:St) (hD:∀ x∈l,Dm x) (hl:small l) (YC:a+8<=b) (hb:b<=l.length) (Zx:q<st.next) (hH:st.H q=.box 56 3 (es3 eg l)),
 aB prog 203 [.ms q 0 l.length,i a,i b,.fn (.func OM) cX] st fun r st'=>∃(x:Nat) (h:Int),r=.tu [i x,i h]/\a<=x/\x<b/\aA st st')/\(∀ ⦃OM:FuncId⦄ ⦃cX:List LV⦄ ⦃eg:Rw⦄ ⦃Dm:Int->Prop⦄ (hC:fR OM cX eg Dm) (l:List Int) (q a b:Nat) (st:St) (hD:∀ x∈l,Dm x) (hl:small l) (YC:a+8<=b) (hb:b<=l.length) (Zx:q<st.next) (hH:st.H q=.box 23 1 (ws eg l)),
 aB prog 150 [.ms q 0 l.length,i a,i b,.fn (.func OM) cX] st fun r st'=>∃(x:Nat) (h:Int),r=.tu [i x,i h]/\a<=x/\x<b/\aA st st'):=by
 refine⟨?_,?_⟩
 all_goals
  intro OM cX eg Dm hC l q a b st hD hl YC hb Zx hH;have Yn:=hl;unfold small at Yn;obtain⟨n,hn⟩:∃ n:Nat,n=b-a:=⟨_,rfl⟩;obtain⟨n4,U0⟩:∃ m:Nat,m=n / 4:=⟨_,rfl⟩;obtain⟨k1,Xp⟩:∃ m:Nat,m=a+n4:=⟨_,rfl⟩;obtain⟨k2,Xq⟩:∃ m:Nat,m=a+n4*2:=⟨_,rfl⟩;obtain⟨k3,Xv⟩:∃ m:Nat,m=a+n4*3:=⟨_,rfl⟩;have w1:IntKind.i64.wrap ((b:Int)-(a:Int))=(n:Int):=zW;have w2:IntKind.i64.wrap ((n:Int) / 4)=(n4:Int):=by rw[show(n:Int) / 4=((n / 4:Nat):Int) from rfl,<- U0];exact wrap_i64 _ oO oO
  have w3:IntKind.i64.wrap (n4:Int)=(n4:Int):=zW;have w4:IntKind.i64.wrap ((n4:Int)*2)=((n4*2:Nat):Int):=zW;have w5:IntKind.i64.wrap ((n4:Int)*3)=((n4*3:Nat):Int):=zW;have w6:IntKind.i64.wrap ((a:Int)+(n4:Int))=(k1:Int):=zW;have w7:IntKind.i64.wrap ((a:Int)+((n4*2:Nat):Int))=(k2:Int):=zW;have w8:IntKind.i64.wrap ((a:Int)+((n4*3:Nat):Int))=(k3:Int):=zW;have h8:(8:Int)<=(n:Int):=oO;have Za:q≠st.next:=oO;generalize ((n4*2:Nat):Int)=e2 at *;generalize ((n4*3:Nat):Int)=e3 at *
  first|(have _:Int->Ed:=eg;refine zN func203 ntmps203 [.tmp 8,.tmp 9] ?_)|refine zN func150 ntmps150 [.tmp 8,.tmp 9] ?_
  (repeat' (first|apply qS|(refine zE ?_;intro J hJ;simp[-aE,w1,w2,w3,w4,w5,w6,w7,w8,h8];refine zJ hJ ?_)))
  apply qC;simp[-aE,h8];apply qS;refine bC (CK OM cX eg q l.length a b st) ?_ ?_
  .by_cases J6:(50:Int)<=(n:Int)
   ·(repeat' (first|apply qS|(apply qC;simp[-aE,J6])|(refine zE ?_;intro J hJ;simp[-aE,J6];(try refine zJ hJ ?_))))
    refine qF (cP hC l q st.next k1 0 _ hD hl oO oO Za (by simp[-aE,Za,hH]) (by simp[-aE])) ?_;rintro r st' ⟨x1,s1,rfl,rfl,h1⟩
    (repeat' (first|apply qS|((first|(refine zE ?_;intro J hJ)|(apply aF));simp[-aE];(try refine zJ hJ ?_))))
    refine qF (cP hC l q st.next k2 s1 _ hD hl oO oO Za (by simp[-aE,Za,hH]) (by simp[-aE])) ?_;rintro r st' ⟨x2,s2,rfl,rfl,h2⟩
    (repeat' ((first|(refine zE ?_;intro J hJ)|(apply aF));simp[-aE];(try refine zJ hJ ?_)))
    refine qF (cP hC l q st.next k3 s2 _ hD hl oO oO Za (by simp[-aE,Za,hH]) (by simp[-aE])) ?_;rintro r st' ⟨x3,s3,rfl,rfl,h3⟩
    (repeat' (apply aF;simp[-aE];refine zJ hJ ?_))
    refine⟨by trivial,?_⟩;(first|unfold CE.CK|unfold CR.CK);exact⟨x1,x2,x3,s3,by simp[-aE],by simp[-aE],by simp[-aE],by simp[-aE],by simp[-aE],oO,oO,oO,oO,oO,oO,by rw[xL,xL]⟩
   ·(repeat' (first|apply qS|refine qK (zZ ?_)|(apply qC;simp[-aE,J6])|(refine zE ?_;intro J hJ;simp[-aE,J6];refine zJ hJ ?_)))
    refine⟨by trivial,?_⟩;(first|unfold CE.CK|unfold CR.CK);exact⟨k1,k2,k3,0,by simp[-aE],by simp[-aE],by simp[-aE],by simp[-aE],by simp[-aE],oO,oO,oO,oO,oO,oO,zX (by simp[-aE])⟩
  rintro fr st2 ⟨j1,j2,j3,s,⟨f0,fC⟩,f9,f10,f11,f12,h1,h2,h3,h4,h5,h6,rfl⟩
  (repeat' (refine zE ?_;intro J hJ;simp[-aE,f0,fC,f9,f10,f11,f12]))
  refine qF (wI hC l q st.next j1 j2 j3 s _ hD hl oO oO oO Za (by simp[-aE,Za,hH]) (by simp[-aE])) ?_;rintro r st' ⟨x,s1,rfl,rfl,hx⟩;have Xt:aA st (ix (ix (st.new (.box 3 1 [i 0])) st.next s) st.next s1):=((aA.new _ _).set (aAk _) _).set (aAk _) _;have hax:a<=x/\x<b:=oO
  (repeat' (first|apply qS|apply qB|(refine qR (zZ ?_);simp[-aE,f9])|(apply qC;simp[-aE,f9];(try with_reducible refine⟨?_,?_⟩)<;>(try with_reducible intro hc))|((first|(refine zE ?_;intro J hJ)|(apply aF));simp[-aE,f9];refine zJ hJ ?_)))
  all_goals exact⟨x,rfl,hax.1,hax.2,Xt⟩
def Aw.CE.mG:=qI.1
def Aw.CR.mG:=qI.2
end Go.Proofs.YtempldclppogmaaGreatDoor
