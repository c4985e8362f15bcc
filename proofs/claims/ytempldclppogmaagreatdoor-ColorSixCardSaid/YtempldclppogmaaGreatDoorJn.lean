/- SE8 and SR8 in one: written by gentwo.py. -/
import Derived.Test.YtempldclppogmaaGreatDoorJm
set_option linter.unusedVariables false
set_option linter.unusedSimpArgs false
set_option linter.defProp false
set_option maxHeartbeats 4000000
open Go.Proofs.Tryz
namespace Go.Proofs.YtempldclppogmaaGreatDoor
open Go Go.RowKit Pl Aw
open Aw.CE
open Aw.CR
namespace Aw.CE
def yQ(OM:FuncId)(cX:List LV)(eg:Int->Ed)(q p a b n m k:Nat)(l:List Int)(st:St)(fr:Frm)(st2:St):Prop:=(fr 0=.ms q 0 l.length/\fr 3=.fn (.func OM) cX)/\fr 1=i a/\fr 8=i n/\fr 9=.pt p 0/\fr 10=uw m/\fr 11=i k/\p<st2.next/\bN q st st2/\(∃ s,st2.H p=.box 199 1 [uw s])/\∃ c,st2.H q=.box 56 3 (es3 eg c)/\Pm a b l c
end Aw.CE
namespace Aw.CR
def yQ(OM:FuncId)(cX:List LV)(eg:Rw)(q p a b n m k:Nat)(l:List Int)(st:St)(fr:Frm)(st2:St):Prop:=(fr 0=.ms q 0 l.length/\fr 3=.fn (.func OM) cX)/\fr 1=i a/\fr 8=i n/\fr 9=.pt p 0/\fr 10=uw m/\fr 11=i k/\p<st2.next/\bN q st st2/\(∃ s,st2.H p=.box 199 1 [uw s])/\∃ c,st2.H q=.box 23 1 (ws eg c)/\Pm a b l c
end Aw.CR
namespace Aw.CE
def Rc(OM:FuncId)(cX:List LV)(eg:Int->Ed)(q p a b n m k:Nat)(l:List Int)(st:St)(fr:Frm)(st2:St):Prop:=yQ OM cX eg q p a b n m k l st fr st2/\∃ o:Nat,o<n/\fr 12=i o
end Aw.CE
namespace Aw.CR
def Rc(OM:FuncId)(cX:List LV)(eg:Rw)(q p a b n m k:Nat)(l:List Int)(st:St)(fr:Frm)(st2:St):Prop:=yQ OM cX eg q p a b n m k l st fr st2/\∃ o:Nat,o<n/\fr 12=i o
end Aw.CR
theorem nC:(∀ ⦃OM:FuncId⦄ ⦃cX:List LV⦄ ⦃eg:Int->Ed⦄ ⦃Dm:Int->Prop⦄ (hC:fR OM cX eg Dm) (l:List Int) (q a b:Nat) (st:St) (hD:∀ x∈l,Dm x) (hl:l.length<65536) (YC:a+8<=b) (hb:b<=l.length) (Zx:q<st.next) (hH:st.H q=.box 56 3 (es3 eg l)),
 aB prog 202 [.ms q 0 l.length,i a,i b,.fn (.func OM) cX] st fun r st'=>∃ c,st'.H q=.box 56 3 (es3 eg c)/\Pm a b l c/\bN q st st')/\(∀ ⦃OM:FuncId⦄ ⦃cX:List LV⦄ ⦃eg:Rw⦄ ⦃Dm:Int->Prop⦄ (hC:fR OM cX eg Dm) (l:List Int) (q a b:Nat) (st:St) (hD:∀ x∈l,Dm x) (hl:l.length<65536) (YC:a+8<=b) (hb:b<=l.length) (Zx:q<st.next) (hH:st.H q=.box 23 1 (ws eg l)),
 aB prog 149 [.ms q 0 l.length,i a,i b,.fn (.func OM) cX] st fun r st'=>∃ c,st'.H q=.box 23 1 (ws eg c)/\Pm a b l c/\bN q st st'):=by
 refine⟨?_,?_⟩
 all_goals
  intro OM cX eg Dm hC l q a b st hD hl YC hb Zx hH;obtain⟨n,hn⟩:∃ n:Nat,n=b-a:=⟨_,rfl⟩;obtain⟨n4,U0⟩:∃ m:Nat,m=n / 4:=⟨_,rfl⟩;obtain⟨k0,Ye⟩:∃ m:Nat,m=a+n4*2:=⟨_,rfl⟩;have w1:IntKind.i64.wrap ((b:Int)-(a:Int))=(n:Int):=zW;have w2:IntKind.i64.wrap ((n:Int) / 4)=(n4:Int):=by rw[show(n:Int) / 4=((n / 4:Nat):Int) from rfl,<- U0];exact wrap_i64 _ oO oO
  have w4:IntKind.i64.wrap ((n4:Int)*2)=((n4*2:Nat):Int):=zW;have w7:IntKind.i64.wrap ((a:Int)+((n4*2:Nat):Int))=(k0:Int):=zW;have w8:=aG k0 oO oO;obtain⟨k1,Xp⟩:∃ m:Nat,m=k0+1:=⟨_,rfl⟩;have w9:IntKind.i64.wrap ((k0:Int)+1)=(k1:Int):=by rw[qN k0 oO,Xp]
  have w10:IntKind.u64.wrap (n:Int)=(n:Int):=wrap_u64 _ oO oO;have h8:(8:Int)<=(n:Int):=oO;have ZQ:=(vA n oO).2 oO;obtain⟨m,hm⟩:∃ m:Nat,m=2 ^ jY n:=⟨_,rfl⟩;rw[<- hm]at ZQ;have w11:IntKind.u64.wrap ((m:Int)-1)=((m-1:Nat):Int):=by rw[wrap_u64 _ oO oO];omega
  generalize ((n4*2:Nat):Int)=e2 at *
  first|(have _:Int->Ed:=eg;refine zN func202 ntmps202 [] ?_)|refine zN func149 ntmps149 [] ?_
  (repeat' (first|apply qS|(refine zE ?_;intro J hJ;simp[-aE,w1];refine zJ hJ ?_)))
  apply qC;simp[-aE,h8]
  (repeat' (first|apply qS|(refine zE ?_;intro J hJ;simp[-aE,w10,w1];(try refine zJ hJ ?_))))
  refine qF (nextPowerOfTwo n _ oO) ?_;rintro r st' ⟨rfl,rfl⟩;rw[<- hm]
  (repeat' (first|apply qS|apply qB|((first|(refine zE ?_;intro J hJ)|(apply aF));simp[-aE,w2,w4,w7,w8];refine zJ hJ ?_)))
  refine qL (fun z fr st2=>∃ k:Nat,k0<=k+1/\k<=k0+2/\z=k0+2-k/\yQ OM cX eg q st.next a b n m k l st fr st2) 3 ?_ ?_
  .refine⟨k0-1,oO,oO,oO,?_⟩
   (first|unfold CE.yQ|unfold CR.yQ)
   have Wu:¬q=st.next:=oO;refine⟨by simp[-aE],by simp[-aE],by simp[-aE],by simp[-aE],by simp[-aE],by simp[-aE],by simp[-aE],?_,⟨n,by simp[-aE]⟩,l,by simp[-aE,Wu,hH],.refl⟩;exact((bN.refl q st).keeps (aA.new _ _)).set' (aAk _) _
  rintro z fr st2 ⟨k,K7,hku,rfl,⟨f0,fC⟩,f1,f6,f7,f8,f9,Y6,YQ,⟨s,hs⟩,c,hcq,Xf⟩ JJ hJJ;have Xh:=Xf.len;have x8:=cS hD Xf;by_cases GD:(k:Int)<=(k1:Int);rotate_left
  .clear hJJ
   (repeat' (first|apply qS|refine qX (zZ ?_)|(apply qC;simp[-aE,f1,f6,f9,w2,w4,w7,w9,GD])|(refine zE ?_;intro J hJ;simp[-aE,f1,f6,f9,w2,w4,w7,w9,GD];refine zJ hJ ?_)))
   exact⟨trivial,c,hcq,Xf,YQ⟩
  (repeat (apply qS));(refine zE ?_;intro J hJ;simp[-aE,f1,f6,f9,w2,w4,w7,w9,GD];refine zJ hJ ?_)
  apply qC;simp[-aE,GD];refine qK (zZ ?_);apply qS;apply qB;apply qS
  (refine zE ?_;intro J hJ;simp[-aE,f7])
  refine qF (TJ st.next s _ hs) ?_;rintro r st' ⟨s1,rfl,rfl⟩;obtain⟨o,ho,I1⟩:=Kh s1 m oO oO;have w12:IntKind.i64.wrap (o:Int)=(o:Int):=zW
  (apply aF;simp[-aE,f8,w11,I1,w12];refine zJ hJ ?_)
  apply qS;refine bC (Rc OM cX eg q st.next a b n m k l st) ?_ ?_
  .have U9:¬q=st.next:=oO;have hI:∀ Zq:Frm,(Zq 0=fr 0/\Zq 3=fr 3)->Zq 1=fr 1->Zq 8=fr 8->Zq 9=fr 9->Zq 10=fr 10->Zq 11=fr 11->yQ OM cX eg q st.next a b n m k l st Zq (xx st2 st.next s1):=by intro Zq g0 g1 g6 g7 g8 g9;exact⟨⟨by rw[g0.1,f0],by rw[g0.2,fC]⟩,by rw[g1,f1],by rw[g6,f6],by rw[g7,f7],by rw[g8,f8],by rw[g9,f9],by simpa using Y6,YQ.set' (aAk _) _,⟨s1,by simp[-aE]⟩,c,by simp[-aE,U9,hcq],Xf⟩
   by_cases u6:(n:Int)<=(o:Int)
   .have w13:IntKind.i64.wrap ((o:Int)-(n:Int))=((o-n:Nat):Int):=zW
    (repeat' (first|apply qS|(apply qC;simp[-aE,f6,u6,w13])|(refine zE ?_;intro J hJ;simp[-aE,f6,u6,w13];refine zJ hJ ?_)))
    refine⟨by trivial,?_⟩;exact⟨hI _ (by simp[-aE]) (by simp[-aE]) (by simp[-aE]) (by simp[-aE]) (by simp[-aE]) (by simp[-aE]),o-n,oO,by simp[-aE]⟩
   ·(repeat' (first|apply qS|refine qK (zZ ?_)|(apply qC;simp[-aE,f6,u6])|(refine zE ?_;intro J hJ;simp[-aE,f6,u6];refine zJ hJ ?_)))
    refine⟨by trivial,?_⟩;exact⟨hI _ (by simp[-aE]) (by simp[-aE]) (by simp[-aE]) (by simp[-aE]) (by simp[-aE]) (by simp[-aE]),o,oO,by simp[-aE]⟩
  clear f0 fC f1 f6 f7 f8 f9 Y6 YQ hs hcq Xf Xh x8 I1 w12 ho o s s1 c st2 fr;rintro fr st2 ⟨⟨⟨f0,fC⟩,f1,f6,f7,f8,f9,Y6,YQ,⟨s,hs⟩,c,hcq,Xf⟩,o,ho,f10⟩;have Xh:=Xf.len;have x8:=cS hD Xf;obtain⟨x,hx⟩:∃ x:Nat,x=a+o:=⟨_,rfl⟩;have w12:IntKind.i64.wrap ((a:Int)+(o:Int))=(x:Int):=zW;have w13:=qN k oO;have Xn:=aR eg c k oO;have YM:=aR eg c x oO;have J7:k<l.length:=oO;have N9:x<l.length:=oO;have YP:=fun v y=>pZ eg st2 q c k x (x:=v) (y:=y) oO oO;have YE:=Xf.step k x oO oO oO oO oO;generalize hv:c.getD k 0=v at *;generalize hy:c.getD x 0=y at *;have Xy:=YP v y rfl rfl
  (refine zS [] [q] [0,2,4,6,8,10,12,14,16,18,20,22,24,26,28,30,32,35,36,39] ?_;intro J hJ;simp[-aE,f0,fC,f1,f9,f10,w12,J7,N9,Xh,hcq,Xn,YM,aQ];(repeat refine ca ?_);refine zJ hJ ?_)
  (repeat' (refine zE ?_;intro J hJ;simp[-aE,f9,w13];refine zJ hJ ?_))
  have U9:¬st.next=q:=oO;rw[Xy];exact hJJ (k0+2-(k+1)) _ _ oO ⟨k+1,oO,oO,rfl,by simp[-aE,f0,fC],by simp[-aE,f1],by simp[-aE,f6],by simp[-aE,f7],by simp[-aE,f8],by simp[-aE],by simpa using Y6,YQ.set _,⟨s,by simp[-aE,U9,hs]⟩,_,by simp[-aE],YE⟩
def Aw.CE.iU:=nC.1
def Aw.CR.iU:=nC.2
open Go Go.RowKit Pl Aw
open Aw.CE
open Aw.CR
namespace Aw.CE
@[simp] abbrev oC(eg:Int->Ed)(c:List Int):cI:=.box 56 3 (es3 eg c)
def PdI(OM:FuncId)(cX:List LV)(eg:Int->Ed)(q:Nat)(l:List Int)(st:St)(a b a' b':Nat)(wb wp:Bool)(YB n:Nat)(fr:Frm)(st2:St):Prop:=
 (fr 0=.ms q 0 l.length/\fr 4=.fn (.func OM) cX)/\fr 1=i a'/\fr 2=i b'/\fr 3=i YB/\fr 10=bb wb/\fr 11=bb wp/\fr 12=i n/\YB<1000000/\q<st2.next/\bN q st st2/\∃ c,st2.H q=(oC eg c)/\Pm a b l c/\gK c a' b'/\Eh a b a' b' c
end Aw.CE
namespace Aw.CR
@[simp] abbrev oC(eg:Rw)(c:List Int):cI:=.box 23 1 (ws eg c)
def PdI(OM:FuncId)(cX:List LV)(eg:Rw)(q:Nat)(l:List Int)(st:St)(a b a' b':Nat)(wb wp:Bool)(YB n:Nat)(fr:Frm)(st2:St):Prop:=
 (fr 0=.ms q 0 l.length/\fr 4=.fn (.func OM) cX)/\fr 1=i a'/\fr 2=i b'/\fr 3=i YB/\fr 10=bb wb/\fr 11=bb wp/\fr 12=i n/\YB<1000000/\q<st2.next/\bN q st st2/\∃ c,st2.H q=(oC eg c)/\Pm a b l c/\gK c a' b'/\Eh a b a' b' c
end Aw.CR
namespace Aw.CE
theorem PdI.mk{OM:FuncId}{cX:List LV}{eg:Int->Ed}{q:Nat}{l:List Int}{st:St}{a b a' b':Nat}{wb wp:Bool}{YB n:Nat}{fr:Frm}{st2:St}{c:List Int}(f0:(fr 0=.ms q 0 l.length/\fr 4=.fn (.func OM) cX))(f1:fr 1=i a')(f2:fr 2=i b')(f3:fr 3=i YB)(f8:fr 10=bb wb)(f9:fr 11=bb wp)(f10:fr 12=i n)(o8:YB<1000000)(Zx:q<st2.next)(ho:bN q st st2)(hc:st2.H q=(oC eg c))(hp:Pm a b l c)(ha:gK c a' b')(hf:Eh a b a' b' c):PdI OM cX eg q l st a b a' b' wb wp YB n fr st2:=
 ⟨f0,f1,f2,f3,f8,f9,f10,o8,Zx,ho,c,hc,hp,ha,hf⟩
end Aw.CE
namespace Aw.CR
theorem PdI.mk{OM:FuncId}{cX:List LV}{eg:Rw}{q:Nat}{l:List Int}{st:St}{a b a' b':Nat}{wb wp:Bool}{YB n:Nat}{fr:Frm}{st2:St}{c:List Int}(f0:(fr 0=.ms q 0 l.length/\fr 4=.fn (.func OM) cX))(f1:fr 1=i a')(f2:fr 2=i b')(f3:fr 3=i YB)(f8:fr 10=bb wb)(f9:fr 11=bb wp)(f10:fr 12=i n)(o8:YB<1000000)(Zx:q<st2.next)(ho:bN q st st2)(hc:st2.H q=(oC eg c))(hp:Pm a b l c)(ha:gK c a' b')(hf:Eh a b a' b' c):PdI OM cX eg q l st a b a' b' wb wp YB n fr st2:=
 ⟨f0,f1,f2,f3,f8,f9,f10,o8,Zx,ho,c,hc,hp,ha,hf⟩
end Aw.CR
namespace Aw.CE
def PdJ(OM:FuncId)(cX:List LV)(eg:Int->Ed)(q:Nat)(l:List Int)(st:St)(a b a' b':Nat)(wb wp:Bool)(n:Nat)(fr:Frm)(st2:St):Prop:=∃ YB,PdI OM cX eg q l st a b a' b' wb wp YB n fr st2
end Aw.CE
namespace Aw.CR
def PdJ(OM:FuncId)(cX:List LV)(eg:Rw)(q:Nat)(l:List Int)(st:St)(a b a' b':Nat)(wb wp:Bool)(n:Nat)(fr:Frm)(st2:St):Prop:=∃ YB,PdI OM cX eg q l st a b a' b' wb wp YB n fr st2
end Aw.CR
namespace Aw.CE
def PdK(OM:FuncId)(cX:List LV)(eg:Int->Ed)(q:Nat)(l:List Int)(st:St)(a b a' b':Nat)(wb wp:Bool)(n:Nat)(fr:Frm)(st2:St):Prop:=∃ YB,PdI OM cX eg q l st a b a' b' wb wp YB n fr st2/\∃(pv:Nat) (h:Int),a'<=pv/\pv<b'/\fr 13=i pv/\fr 14=i h
end Aw.CE
namespace Aw.CR
def PdK(OM:FuncId)(cX:List LV)(eg:Rw)(q:Nat)(l:List Int)(st:St)(a b a' b':Nat)(wb wp:Bool)(n:Nat)(fr:Frm)(st2:St):Prop:=∃ YB,PdI OM cX eg q l st a b a' b' wb wp YB n fr st2/\∃(pv:Nat) (h:Int),a'<=pv/\pv<b'/\fr 13=i pv/\fr 14=i h
end Aw.CR
theorem oP:(∀ ⦃OM:FuncId⦄ ⦃cX:List LV⦄ ⦃eg:Int->Ed⦄ ⦃Dm:Int->Prop⦄ (hC:fR OM cX eg Dm) (Z:Nat),
 ∀(l:List Int) (q a b YB:Nat) (st:St),(∀ x∈l,Dm x)->l.length<65536->a<=b->b<=l.length->b-a<Z->gK l a b->YB<1000000->q<st.next->st.H q=(oC eg l)->
 aB prog 188 [.ms q 0 l.length,i a,i b,i YB,.fn (.func OM) cX] st fun r st'=>∃ c,st'.H q=(oC eg c)/\Pm a b l c/\Srt a b c/\bN q st st')/\(∀ ⦃OM:FuncId⦄ ⦃cX:List LV⦄ ⦃eg:Rw⦄ ⦃Dm:Int->Prop⦄ (hC:fR OM cX eg Dm) (Z:Nat),
 ∀(l:List Int) (q a b YB:Nat) (st:St),(∀ x∈l,Dm x)->l.length<65536->a<=b->b<=l.length->b-a<Z->gK l a b->YB<1000000->q<st.next->st.H q=(oC eg l)->
 aB prog 105 [.ms q 0 l.length,i a,i b,i YB,.fn (.func OM) cX] st fun r st'=>∃ c,st'.H q=(oC eg c)/\Pm a b l c/\Srt a b c/\bN q st st'):=by
 refine⟨?_,?_⟩
 all_goals
  intro OM cX eg Dm hC Z;induction Z with
  |zero=>intro l q a b YB st _ _ _ _ h;omega
  |succ Z ih=>
  intro l q a b YB st hD hl YC hb hZ hah hlim Zx hH;have p8:small l:=by unfold small;omega
  first|(have _:Int->Ed:=eg;refine zN func188 ntmps188 [] ?_)|refine zN func105 ntmps105 [] ?_
  (repeat' (first|apply qS|apply qB|(refine zE ?_;intro J hJ;simp[];refine zJ hJ ?_)))
  refine qL (fun z fr st2=>∃(a' b' YB:Nat) (wb wp:Bool) (n:LV),a<=a'/\a'<=b'/\b'<=b/\z=b' - a'/\PdI OM cX eg q l st a b a' b' wb wp YB 0 (upd fr 12 (i (0:Nat))) st2) (b-a) ?_ ?_
  .refine⟨a,b,YB,true,true,.nil,oO,oO,oO,rfl,?_⟩;exact PdI.mk sS sS sS sS sS sS sS hlim Zx (.refl _ _) hH .refl hah fun d h1 h2=>h2
  rintro z fr st2 ⟨a',b',YB,wb,wp,-,ha1,ha2,u7,rfl,⟨f0,fC⟩,f1,f2,f3,f8,f9,-,o8,YA,YQ,c,hc,Xf,YI,Xj⟩ JJ hJJ;rw[xG,aAa oO]at f0 fC f1 f2 f3 f8 f9;have Xh:=Xf.len;have x8:=cS hD Xf;have YZ:small c:=by unfold small;omega
  obtain⟨n,hn⟩:∃ n:Nat,n=b' - a':=⟨_,rfl⟩;have w1:IntKind.i64.wrap ((b':Int)-(a':Int))=(n:Int):=zW;apply qB
  (repeat' (first|apply qS|(refine zE ?_;intro J hJ;simp[f1,f2,w1];refine zJ hJ ?_)))
  by_cases hn12:(n:Int)<=12
  .clear hJJ;apply qC;simp[hn12]
   (repeat' (first|apply qS|(refine zE ?_;intro J hJ;simp[f0,fC,f1,f2])))
   refine qE (insertionSort hC c q a' b' st2 (by first|assumption|exact cS hD ‹Pm _ _ l c›) YZ oO oO hc) (by simp[f0,fC,f1,f2,Xh]) ?_;rintro r st' ⟨d,rfl,k1,k2⟩
   (repeat' (first|(refine qR (zZ ?_);simp[])|(apply aF;simp[];refine zJ hJ ?_)))
   exact⟨d,rfl,Xf.trans (k1.wide oO oO oO),Xj d k1 k2,YQ.set _⟩
  apply qC;simp[hn12]
  (repeat' (first|apply qS|refine qK (zZ ?_)|(refine zE ?_;intro J hJ;simp[f3];refine zJ hJ ?_)))
  by_cases Zu:YB=0
  .clear hJJ;apply qC;simp[Zu]
   (repeat' (first|apply qS|(refine zE ?_;intro J hJ;simp[f0,fC,f1,f2])))
   refine qE (vD hC c q a' b' st2 (by first|assumption|exact cS hD ‹Pm _ _ l c›) YZ oO oO hc) (by simp[f0,fC,f1,f2,Xh]) ?_;rintro r st' ⟨d,rfl,k1,k2⟩
   (repeat' (first|(refine qR (zZ ?_);simp[])|(apply aF;simp[];refine zJ hJ ?_)))
   exact⟨d,rfl,Xf.trans (k1.wide oO oO oO),Xj d k1 k2,YQ.set _⟩
  apply qC;simp[Zu];refine qK (zZ ?_);apply qS;refine bC (PdJ OM cX eg q l st a b a' b' wb wp n) ?_ ?_
  .clear hJJ;cases wb
   ·(repeat' (first|apply qS|(apply qC;simp[f0,fC,f1,f2,f8])|(refine zE ?_;intro J hJ;simp[f0,fC,f1,f2,f8];(try refine zJ hJ ?_))))
    refine qE (iU hC c q a' b' st2 (by first|assumption|exact cS hD ‹Pm _ _ l c›) oO oO oO YA hc) (by simp[f0,fC,f1,f2,Xh]) ?_;rintro r st' ⟨d,k0,k1,k2⟩;have w2:=aG YB oO oO
    (repeat' ((first|(refine zE ?_;intro J hJ)|(apply aF));simp[f3,w2];refine zJ hJ ?_))
    refine⟨by trivial,?_⟩;exact⟨YB-1,PdI.mk (by simp[f0,fC]) (by simp[f1]) (by simp[f2]) sS (by simp[f8]) (by simp[f9]) sS oO (aAp YA k2.1) (YQ.trans k2) k0 (Xf.trans (k1.wide oO oO oO)) (YI.pm k1) (Xj.pm k1)⟩
   ·(repeat' (first|apply qS|refine qK (zZ ?_)|(apply qC;simp[f8])|(refine zE ?_;intro J hJ;simp[f8];refine zJ hJ ?_)))
    refine⟨by trivial,?_⟩;exact⟨YB,PdI.mk (by simp[f0,fC]) (by simp[f1]) (by simp[f2]) (by simp[f3]) (by simp[f8]) (by simp[f9]) sS oO YA YQ hc Xf YI Xj⟩
  clear f0 fC f1 f2 f3 f8 f9 o8 YA YQ hc Xf YI Xj Xh x8 YZ c st2 fr Zu YB;rintro fr st2 ⟨YB,⟨f0,fC⟩,f1,f2,f3,f8,f9,f10,o8,YA,YQ,c,hc,Xf,YI,Xj⟩;have Xh:=Xf.len;have x8:=cS hD Xf;have YZ:small c:=by unfold small;omega
  apply qS
  (refine zE ?_;intro J hJ;simp[f0,fC,f1,f2])
  refine qE (mG hC c q a' b' st2 (by first|assumption|exact cS hD ‹Pm _ _ l c›) YZ oO oO YA hc) (by simp[f0,fC,f1,f2,Xh]) ?_;rintro r st' ⟨pv,h,rfl,ZB,Zt,k0⟩;have C8:st'.H q=(oC eg c):=by rw[k0.H q YA];exact hc
  have V5:q<st'.next:=aAp YA k0.next;have U6:=YQ.keeps k0;clear hc YA YQ k0
  (apply aF;simp[];refine zJ hJ ?_)
  apply qS;refine bC (PdK OM cX eg q l st a b a' b' wb wp n) ?_ ?_
  .clear hJJ;by_cases hh:h=2
   ·(repeat' (first|apply qS|(apply qC;simp[hh,f0,fC,f1,f2])|(refine zE ?_;intro J hJ;simp[hh,f0,fC,f1,f2];(try refine zJ hJ ?_))))
    refine qE (jX hC c q a' b' st' (by first|assumption|exact cS hD ‹Pm _ _ l c›) YZ oO oO oO C8) (by simp[f0,fC,f1,f2,Xh]) ?_;rintro r st' ⟨d,rfl,k1⟩;have w2:=aG b' oO oO;obtain⟨x1,hx1⟩:∃ x,x=b' - 1:=⟨_,rfl⟩;obtain⟨x2,Ys⟩:∃ x,x=pv-a':=⟨_,rfl⟩;obtain⟨x3,hx3⟩:∃ x,x=x1-x2:=⟨_,rfl⟩;have w3:IntKind.i64.wrap ((pv:Int)-(a':Int))=(x2:Int):=zW;have w4:IntKind.i64.wrap ((x1:Int)-(x2:Int))=(x3:Int):=zW;rw[<- hx1]at w2
    (repeat' (first|apply qS|((first|(refine zE ?_;intro J hJ)|(apply aF));simp[f1,f2,w2,w3,w4];refine zJ hJ ?_)))
    refine⟨by trivial,?_⟩;exact⟨YB,PdI.mk (by simp[f0,fC]) (by simp[f1]) (by simp[f2]) (by simp[f3]) (by simp[f8]) (by simp[f9]) (by simp[f10]) oO V5 (U6.set _) sS (Xf.trans (k1.wide oO oO oO)) (YI.pm k1) (Xj.pm k1),x3,1,oO,oO,sS,sS⟩
   ·(repeat' (first|apply qS|refine qK (zZ ?_)|(apply qC;simp[hh])|(refine zE ?_;intro J hJ;simp[hh];refine zJ hJ ?_)))
    refine⟨by trivial,?_⟩;exact⟨YB,PdI.mk (by simp[f0,fC]) (by simp[f1]) (by simp[f2]) (by simp[f3]) (by simp[f8]) (by simp[f9]) (by simp[f10]) oO V5 U6 C8 Xf YI Xj,pv,h,oO,oO,sS,sS⟩
  clear f0 fC f1 f2 f3 f8 f9 f10 o8 V5 U6 C8 Xf YI Xj Xh x8 YZ c st2 fr YB h ZB Zt pv;rintro fr st2 ⟨YB,⟨⟨f0,fC⟩,f1,f2,f3,f8,f9,f10,o8,YA,YQ,c,hc,Xf,YI,Xj⟩,pv,h,ZB,Zt,f11,f12⟩;have Xh:=Xf.len;have x8:=cS hD Xf;have YZ:small c:=by unfold small;omega
  apply qS;refine Fk (PdK OM cX eg q l st a b a' b' wb wp n) ?_ ?_
  .clear hJJ;cases wb
   ·(repeat' (first|apply qS|refine qK (zZ ?_)|(apply qC;simp[f8])|(refine zE ?_;intro J hJ;simp[f8];refine zJ hJ ?_)))
    refine .inl ⟨by trivial,?_⟩;exact⟨YB,PdI.mk (by simp[f0,fC]) (by simp[f1]) (by simp[f2]) (by simp[f3]) (by simp[f8]) (by simp[f9]) (by simp[f10]) oO YA YQ hc Xf YI Xj,pv,h,oO,oO,by simp[f11],by simp[f12]⟩
   cases wp
   ·(repeat' (first|apply qS|refine qK (zZ ?_)|(apply qC;simp[f8,f9])|(refine zE ?_;intro J hJ;simp[f8,f9];refine zJ hJ ?_)))
    refine .inl ⟨by trivial,?_⟩;exact⟨YB,PdI.mk (by simp[f0,fC]) (by simp[f1]) (by simp[f2]) (by simp[f3]) (by simp[f8]) (by simp[f9]) (by simp[f10]) oO YA YQ hc Xf YI Xj,pv,h,oO,oO,by simp[f11],by simp[f12]⟩
   by_cases hh:h=1;rotate_left
   ·(repeat' (first|apply qS|refine qK (zZ ?_)|(apply qC;simp[f8,f9,f12,hh])|(refine zE ?_;intro J hJ;simp[f8,f9,f12,hh];refine zJ hJ ?_)))
    refine .inl ⟨by trivial,?_⟩;exact⟨YB,PdI.mk (by simp[f0,fC]) (by simp[f1]) (by simp[f2]) (by simp[f3]) (by simp[f8]) (by simp[f9]) (by simp[f10]) oO YA YQ hc Xf YI Xj,pv,h,oO,oO,by simp[f11],by simp[f12]⟩
   (repeat' (first|apply qS|(apply qC;simp[f8,f9,f12,hh,f0,fC,f1,f2])|(refine zE ?_;intro J hJ;simp[f8,f9,f12,hh,f0,fC,f1,f2];(try refine zJ hJ ?_))))
   refine qE (dI hC c q a' b' st2 (by first|assumption|exact cS hD ‹Pm _ _ l c›) YZ oO oO YI hc) (by simp[f0,fC,f1,f2,Xh]) ?_;rintro r st' ⟨d,p,rfl,rfl,k1,k2⟩;cases p
   ·(repeat' (first|refine qK (zZ ?_)|(apply qC;simp[])|(apply aF;simp[];refine zJ hJ ?_)))
    refine .inl ⟨by trivial,?_⟩;exact⟨YB,PdI.mk (by simp[f0,fC]) (by simp[f1]) (by simp[f2]) (by simp[f3]) (by simp[f8]) (by simp[f9]) (by simp[f10]) oO YA (YQ.set _) sS (Xf.trans (k1.wide oO oO oO)) (YI.pm k1) (Xj.pm k1),pv,h,oO,oO,by simp[f11],by simp[f12]⟩
   ·(repeat' (first|(refine qR (zZ ?_);simp[])|(apply qC;simp[])|(apply aF;simp[];refine zJ hJ ?_)))
    exact⟨d,rfl,Xf.trans (k1.wide oO oO oO),Xj d k1 (k2 rfl),YQ.set _⟩
  clear f0 fC f1 f2 f3 f8 f9 f10 f11 f12 o8 YA YQ hc Xf YI Xj Xh x8 YZ c st2 fr YB h ZB Zt pv;rintro fr st2 ⟨YB,⟨⟨f0,fC⟩,f1,f2,f3,f8,f9,f10,o8,YA,YQ,c,hc,Xf,YI,Xj⟩,pv,h,ZB,Zt,f11,f12⟩;have Xh:=Xf.len;have x8:=cS hD Xf;have YZ:small c:=by unfold small;omega
  apply qS;refine FX (PdK OM cX eg q l st a b a' b' wb wp n) ?_ ?_
  .by_cases h0:a'=0
   .clear hJJ;have S6:¬(0:Int)<(a':Int):=oO
    (repeat (apply qS));(refine zS [] [q] [0,2,4,6,8,10,12,14,16,18,20,22,24,27,28,30,32] ?_;intro J hJ;simp[f0,fC,f1,h0];refine zJ hJ ?_)
    (repeat' (first|refine qK (zZ ?_)|(apply qC;simp[])))
    refine .inl ⟨by trivial,?_⟩;exact⟨YB,PdI.mk (by simp[f0,fC]) (by simp[f1]) (by simp[f2]) (by simp[f3]) (by simp[f8]) (by simp[f9]) (by simp[f10]) oO  YA YQ hc Xf YI Xj,pv,h,oO,oO,by simp[f11],by simp[f12]⟩
   have S6:0<a':=oO;have w2:=aG a' oO oO;have Xn:=aR eg c (a' - 1) oO;have YM:=aR eg c pv oO;have J7:a' - 1<l.length:=oO;have N9:pv<l.length:=oO;have Zs:∀ j,a'<=j->j<b'->c.getD (a' - 1) 0<=c.getD j 0:=YI S6;generalize hx:c.getD (a' - 1) 0=x at *;generalize hy:c.getD pv 0=y at *
   (repeat (apply qS));(refine zS [] [q] [0,2,4,6,8,10,12,14,16,18,20,22,24,27,28,30,32] ?_;intro J hJ;simp[f0,fC,f1,f11,S6,w2,J7,N9,Xh,hc,Xn,YM,aQ])
   refine aK (hC.call x y _ (by first|assumption|(subst_vars;exact cF (by assumption) oO)) (by first|assumption|(subst_vars;exact cF (by assumption) oO))) ?_;rintro r s2 ⟨⟨nv,rfl,ZS⟩,rfl⟩;refine⟨fun _=>by simp,?_⟩;by_cases YK:x<y
   .clear hJJ
    (apply aS;simp[ZS,YK];refine zJ hJ ?_)
    (repeat' (first|refine qK (zZ ?_)|(apply qC;simp[])))
    refine .inl ⟨by trivial,?_⟩;exact⟨YB,PdI.mk (by simp[f0,fC]) (by simp[f1]) (by simp[f2]) (by simp[f3]) (by simp[f8]) (by simp[f9]) (by simp[f10]) oO  YA YQ hc Xf YI Xj,pv,h,oO,oO,by simp[f11],by simp[f12]⟩
   (apply aS;simp[ZS,YK];refine zJ hJ ?_)
   (repeat' (first|apply qS|(apply qC;simp[f0,fC,f1,f2,f11])|(refine zE ?_;intro J hJ;simp[f0,fC,f1,f2,f11])))
   refine qE (gM hC c q a' b' pv _ (by first|assumption|exact cS hD ‹Pm _ _ l c›) YZ oO oO ZB Zt hc) (by simp[f0,fC,f1,f2,f11,Xh]) ?_;rintro r st' ⟨d,Xw,rfl,rfl,k1,k2,k3,k4⟩
   (repeat' (first|apply qS|refine qX (zZ ?_)|((first|(refine zE ?_;intro J hJ)|(apply aF));simp[];refine zJ hJ ?_)))
   refine .inr ⟨sS,?_⟩;refine hJJ (b' - Xw) _ _ oO ⟨Xw,b',YB,wb,wp,.nil,oO,oO,oO,rfl,?_⟩;rw[hy]at k4;refine PdI.mk (by simp[f0,fC]) sS (by simp[f2]) (by simp[f3]) (by simp[f8]) (by simp[f9]) sS oO YA (YQ.set _) sS (Xf.trans (k1.wide oO oO oO)) ?_ ?_
   .intro _ j g1 g2;have e1:=k4.1 (Xw-1) oO oO;have e2:=k4.2 j g1 g2;omega
   .intro e g1 g2;refine Xj e (k1.trans (g1.wide oO oO (by have:=k1.len;omega))) (KW k4 (fun j e1 e2=>?_) g1 g2);have:=k1.all (fun v=>x<=v) Zs j e1 oO;omega
  clear f0 fC f1 f2 f3 f8 f9 f10 f11 f12 o8 YA YQ hc Xf YI Xj Xh x8 YZ c st2 fr YB h ZB Zt pv;rintro fr st2 ⟨YB,⟨⟨f0,fC⟩,f1,f2,f3,f8,f9,f10,o8,YA,YQ,c,hc,Xf,YI,Xj⟩,pv,h,ZB,Zt,f11,f12⟩;have Xh:=Xf.len;have x8:=cS hD Xf;have YZ:small c:=by unfold small;omega
  (repeat' (first|apply qS|(refine zE ?_;intro J hJ;simp[f0,fC,f1,f2,f11])))
  refine qE (partition hC c q a' b' pv _ (by first|assumption|exact cS hD ‹Pm _ _ l c›) YZ oO oO ZB Zt hc) (by simp[f0,fC,f1,f2,f11,Xh]) ?_;rintro r st' ⟨d,Xw,p,rfl,rfl,k1,k2,k3,k4⟩;have x7:=k1.len;have k4:cD d a' Xw b':=k4;have hpm':=Xf.trans (k1.wide ha1 u7 oO);have hah':=YI.pm k1;have Q5:=Xj.pm k1;have hof':=YQ.set (q:=q) ((oC eg d));have w3:IntKind.i64.wrap ((Xw:Int)-(a':Int))=((Xw-a':Nat):Int):=zW;have w4:IntKind.i64.wrap ((b':Int)-(Xw:Int))=((b' - Xw:Nat):Int):=zW;have w5:IntKind.i64.wrap ((n:Int) / 8)=((n / 8:Nat):Int):=by rw[show(n:Int) / 8=((n / 8:Nat):Int) from rfl];exact wrap_i64 _ oO oO
  obtain⟨z1,hz1⟩:∃ x:Nat,x=Xw-a':=⟨_,rfl⟩;obtain⟨z2,hz2⟩:∃ x:Nat,x=b' - Xw:=⟨_,rfl⟩;obtain⟨z3,hz3⟩:∃ x:Nat,x=n / 8:=⟨_,rfl⟩;obtain⟨m1,E8⟩:∃ x:Nat,x=Xw+1:=⟨_,rfl⟩;rw[<- hz1]at w3;rw[<- hz2]at w4;rw[<- hz3]at w5;have w6:IntKind.i64.wrap ((Xw:Int)+1)=(m1:Int):=by rw[qN Xw oO,E8]
  clear hc Xf YI Xj YQ
  (repeat' (first|apply qS|((first|(refine zE ?_;intro J hJ)|(apply aF));simp[f1,f2,f10,w3,w4,w5];refine zJ hJ ?_)))
  apply qC;by_cases hzz:z1<z2
  .simp[hzz]
   (repeat' (first|apply qS|(refine zE ?_;intro J hJ;simp[f0,fC,f1,f3];(try refine zJ hJ ?_))))
   refine qE (ih d q a' Xw YB (bx eg st2 q d) (by first|assumption|exact cS hD ‹Pm _ _ l d›) oO oO oO oO (hah'.less oO) oO YA sS) (by simp[f0,fC,f1,f2,f3,x7,Xh]) ?_;rintro r st' ⟨e,j0,j1,j2,j3⟩
   (repeat' ((first|(refine zE ?_;intro J hJ)|(apply aF));simp[w6];refine zJ hJ ?_))
   refine hJJ (b' - m1) _ _ oO ⟨m1,b',YB,decide (z3<=z1),p,.nil,oO,oO,oO,rfl,?_⟩;refine PdI.mk (by simp[f0,fC]) sS (by simp[f2]) (by simp[f3]) sS sS sS oO (aAp YA j3.1) (hof'.trans j3) j0 (hpm'.trans (j1.wide oO oO oO)) ?_ ?_
   .rw[E8];exact(k4.pmL j1).aheadR
   .intro y g1 g2;rw[E8]at g1 g2;refine Q5 y ((j1.wide oO oO oO).trans (g1.wide oO oO (by have:=j1.len;omega))) (((k4.pmL j1).pmR g1).glue (Srt.out j2 fun j e1 e2=>g1.out j oO) g2)
  .simp[hzz]
   (repeat' (first|apply qS|(refine zE ?_;intro J hJ;simp[f0,fC,f2,f3,w6];(try refine zJ hJ ?_))))
   refine qE (ih d q m1 b' YB (bx eg st2 q d) (by first|assumption|exact cS hD ‹Pm _ _ l d›) oO oO oO oO (by rw[E8];exact k4.aheadR) oO YA sS) (by simp[f0,fC,f1,f2,f3,x7,Xh]) ?_;rintro r st' ⟨e,j0,j1,j2,j3⟩
   (repeat' ((first|(refine zE ?_;intro J hJ)|(apply aF));simp[];refine zJ hJ ?_))
   rw[E8]at j1 j2;refine hJJ (Xw-a') _ _ oO ⟨a',Xw,YB,decide (z3<=z2),p,.nil,oO,oO,oO,rfl,?_⟩;refine PdI.mk (by simp[f0,fC]) (by simp[f1]) sS (by simp[f3]) sS sS sS oO (aAp YA j3.1) (hof'.trans j3) j0 (hpm'.trans (j1.wide oO oO oO)) ?_ ?_
   .exact(hah'.pm (j1.wide oO oO oO)).less oO
   .intro y g1 g2;refine Q5 y ((j1.wide oO oO oO).trans (g1.wide oO oO (by have:=j1.len;omega))) (((k4.pmR j1).pmL g1).glue g2 (Srt.out j2 fun j e1 e2=>g1.out j oO))
def Aw.CE.kB:=oP.1
def Aw.CR.kB:=oP.2
theorem Gi:(∀ ⦃OM:FuncId⦄ ⦃cX:List LV⦄ ⦃eg:Int->Ed⦄ ⦃Dm:Int->Prop⦄ (hC:fR OM cX eg Dm) (l:List Int) (q:Nat) (st:St) (hD:∀ x∈l,Dm x) (hl:l.length<65536) (Zx:q<st.next) (hH:st.H q=(oC eg l)),
 aB prog 145 [.ms q 0 l.length,.fn (.func OM) cX] st fun r st'=>∃ c,st'.H q=(oC eg c)/\c.Perm l/\c.Pairwise (·<=·)/\bN q st st')/\(∀ ⦃OM:FuncId⦄ ⦃cX:List LV⦄ ⦃eg:Rw⦄ ⦃Dm:Int->Prop⦄ (hC:fR OM cX eg Dm) (l:List Int) (q:Nat) (st:St) (hD:∀ x∈l,Dm x) (hl:l.length<65536) (Zx:q<st.next) (hH:st.H q=(oC eg l)),
 aB prog 71 [.ms q 0 l.length,.fn (.func OM) cX] st fun r st'=>∃ c,st'.H q=(oC eg c)/\c.Perm l/\c.Pairwise (·<=·)/\bN q st st'):=by
 refine⟨?_,?_⟩
 all_goals
  intro OM cX eg Dm hC l q st hD hl Zx hH;have w1:IntKind.u64.wrap (l.length:Int)=(l.length:Int):=wrap_u64 _ oO oO;have ZQ:=(vA l.length oO).1
  first|(have _:Int->Ed:=eg;refine zN func145 ntmps145 [] ?_)|refine zN func71 ntmps71 [] ?_
  (repeat' (first|apply qS|(refine zE ?_;intro J hJ;simp[w1];(try refine zJ hJ ?_))))
  refine qF (Len l.length _ oO) ?_;rintro r st' ⟨rfl,rfl⟩
  (repeat' (apply aF;simp[]))
  refine qE (kB hC (l.length+1) l q 0 l.length (jY l.length) _ hD hl oO oO oO (fun h=>absurd h oO) oO Zx hH) (by simp[]) ?_;rintro r st' ⟨c,k1,k2,k3,k4⟩
  (repeat' (apply aF;simp[];refine zJ hJ ?_))
  have Xh:=k2.len;exact⟨trivial,c,k1,k2.perm,HR (by rw[Xh];exact k3),k4⟩
def Aw.CE.QU:=Gi.1
def Aw.CR.QU:=Gi.2
end Go.Proofs.YtempldclppogmaaGreatDoor
