/- SE8 and SR8 in one: written by gentwo.py. -/
import Derived.Test.YtempldclppogmaaGreatDoorJm
set_option linter.defProp false
set_option maxHeartbeats 4000000
open Go.Proofs.Tryz
namespace Go.Proofs.YtempldclppogmaaGreatDoor
open Go Go.RowKit Pl Aw
open Aw.CE
open Aw.CR
namespace Aw.CE
def yL(On:FuncId)(cY:List LV)(eg:Int->Ed)(q p a b n m k:Nat)(l:List Int)(st:St)(fr:Frm)(st2:St):Prop:=(fr 0=.ms q 0 l.length/\fr 3=.fn (.func On) cY)/\fr 1=i a/\fr 8=i n/\fr 9=.pt p 0/\fr 10=uw m/\fr 11=i k/\p<st2.next/\bK q st st2/\(∃ s,st2.H p=.box 199 1 [uw s])/\∃ c,st2.H q=.box 56 3 (es3 eg c)/\Pm a b l c
end Aw.CE
namespace Aw.CR
def yL(On:FuncId)(cY:List LV)(eg:Rw)(q p a b n m k:Nat)(l:List Int)(st:St)(fr:Frm)(st2:St):Prop:=(fr 0=.ms q 0 l.length/\fr 3=.fn (.func On) cY)/\fr 1=i a/\fr 8=i n/\fr 9=.pt p 0/\fr 10=uw m/\fr 11=i k/\p<st2.next/\bK q st st2/\(∃ s,st2.H p=.box 199 1 [uw s])/\∃ c,st2.H q=.box 23 1 (ws eg c)/\Pm a b l c
end Aw.CR
namespace Aw.CE
def RF(On:FuncId)(cY:List LV)(eg:Int->Ed)(q p a b n m k:Nat)(l:List Int)(st:St)(fr:Frm)(st2:St):Prop:=yL On cY eg q p a b n m k l st fr st2/\∃ o:Nat,o<n/\fr 12=i o
end Aw.CE
namespace Aw.CR
def RF(On:FuncId)(cY:List LV)(eg:Rw)(q p a b n m k:Nat)(l:List Int)(st:St)(fr:Frm)(st2:St):Prop:=yL On cY eg q p a b n m k l st fr st2/\∃ o:Nat,o<n/\fr 12=i o
end Aw.CR
theorem mT:(∀ ⦃On:FuncId⦄ ⦃cY:List LV⦄ ⦃eg:Int->Ed⦄ ⦃Dm:Int->Prop⦄ (hC:fL On cY eg Dm) (l:List Int) (q a b:Nat) (st:St) (hD:∀ x∈l,Dm x) (hl:l.length<65536) (YA:a+8<=b) (hb:b<=l.length) (Zt:q<st.next) (hH:st.H q=.box 56 3 (es3 eg l)),
 aB prog 202 [.ms q 0 l.length,i a,i b,.fn (.func On) cY] st fun r st'=>∃ c,st'.H q=.box 56 3 (es3 eg c)/\Pm a b l c/\bK q st st')/\(∀ ⦃On:FuncId⦄ ⦃cY:List LV⦄ ⦃eg:Rw⦄ ⦃Dm:Int->Prop⦄ (hC:fL On cY eg Dm) (l:List Int) (q a b:Nat) (st:St) (hD:∀ x∈l,Dm x) (hl:l.length<65536) (YA:a+8<=b) (hb:b<=l.length) (Zt:q<st.next) (hH:st.H q=.box 23 1 (ws eg l)),
 aB prog 149 [.ms q 0 l.length,i a,i b,.fn (.func On) cY] st fun r st'=>∃ c,st'.H q=.box 23 1 (ws eg c)/\Pm a b l c/\bK q st st'):=by
 refine⟨?_,?_⟩
 all_goals
  intro On cY eg Dm hC l q a b st hD hl YA hb Zt hH;obtain⟨n,hn⟩:∃ n:Nat,n=b-a:=⟨_,rfl⟩;obtain⟨n4,C4⟩:∃ m:Nat,m=n / 4:=⟨_,rfl⟩;obtain⟨k0,Yj⟩:∃ m:Nat,m=a+n4*2:=⟨_,rfl⟩;have w1:IntKind.i64.wrap ((b:Int)-(a:Int))=(n:Int):=zW;have w2:IntKind.i64.wrap ((n:Int) / 4)=(n4:Int):=by rw[show(n:Int) / 4=((n / 4:Nat):Int) from rfl,<- C4];exact wrap_i64 _ oO oO
  have w4:IntKind.i64.wrap ((n4:Int)*2)=((n4*2:Nat):Int):=zW;have w7:IntKind.i64.wrap ((a:Int)+((n4*2:Nat):Int))=(k0:Int):=zW;have w8:=aH k0 oO oO;obtain⟨k1,Xn⟩:∃ m:Nat,m=k0+1:=⟨_,rfl⟩;have w9:IntKind.i64.wrap ((k0:Int)+1)=(k1:Int):=by rw[qN k0 oO,Xn]
  have w10:IntKind.u64.wrap (n:Int)=(n:Int):=wrap_u64 _ oO oO;have h8:(8:Int)<=(n:Int):=oO;have ZT:=(tI n oO).2 oO;obtain⟨m,hm⟩:∃ m:Nat,m=2 ^ jO n:=⟨_,rfl⟩;rw[<- hm]at ZT;have w11:IntKind.u64.wrap ((m:Int)-1)=((m-1:Nat):Int):=by rw[wrap_u64 _ oO oO];omega
  generalize ((n4*2:Nat):Int)=e2 at *
  first|(have _:Int->Ed:=eg;refine zN func202 ntmps202 [] ?_)|refine zN func149 ntmps149 [] ?_
  (repeat' (first|apply qS|(refine zE ?_;intro J hJ;simp[-aG,w1];refine zJ hJ ?_)))
  apply qC;simp[-aG,h8]
  (repeat' (first|apply qS|(refine zE ?_;intro J hJ;simp[-aG,w10,w1];(try refine zJ hJ ?_))))
  refine qF (nextPowerOfTwo n _ oO) ?_;rintro r st' ⟨rfl,rfl⟩;rw[<- hm]
  (repeat' (first|apply qS|apply qB|((first|(refine zE ?_;intro J hJ)|(apply aD));simp[-aG,w2,w4,w7,w8];refine zJ hJ ?_)))
  refine qL (fun z fr st2=>∃ k:Nat,k0<=k+1/\k<=k0+2/\z=k0+2-k/\yL On cY eg q st.next a b n m k l st fr st2) 3 ?_ ?_
  .refine⟨k0-1,oO,oO,oO,?_⟩
   (first|unfold CE.yL|unfold CR.yL)
   have Wm:¬q=st.next:=oO;refine⟨by simp[-aG],by simp[-aG],by simp[-aG],by simp[-aG],by simp[-aG],by simp[-aG],by simp[-aG],?_,⟨n,by simp[-aG]⟩,l,by simp[-aG,Wm,hH],.refl⟩;exact((bK.refl q st).keeps (aA.new _ _)).set' (aAi _) _
  rintro z fr st2 ⟨k,Q4,hku,rfl,⟨f0,fC⟩,f1,f6,f7,f8,f9,Y5,YU,⟨s,hs⟩,c,hcq,Xi⟩ JJ hJJ;have Xk:=Xi.len;have v9:=cR hD Xi;by_cases dN:(k:Int)<=(k1:Int);rotate_left
  .clear hJJ
   (repeat' (first|apply qS|refine qX (zZ ?_)|(apply qC;simp[-aG,f1,f6,f9,w2,w4,w7,w9,dN])|(refine zE ?_;intro J hJ;simp[-aG,f1,f6,f9,w2,w4,w7,w9,dN];refine zJ hJ ?_)))
   exact⟨trivial,c,hcq,Xi,YU⟩
  (repeat (apply qS));(refine zE ?_;intro J hJ;simp[-aG,f1,f6,f9,w2,w4,w7,w9,dN];refine zJ hJ ?_)
  apply qC;simp[-aG,dN];refine qK (zZ ?_);apply qS;apply qB;apply qS
  (refine zE ?_;intro J hJ;simp[-aG,f7])
  refine qF (TA st.next s _ hs) ?_;rintro r st' ⟨s1,rfl,rfl⟩;obtain⟨o,ho,F6⟩:=Kt s1 m oO oO;have w12:IntKind.i64.wrap (o:Int)=(o:Int):=zW
  (apply aD;simp[-aG,f8,w11,F6,w12];refine zJ hJ ?_)
  apply qS;refine bA (RF On cY eg q st.next a b n m k l st) ?_ ?_
  .have K9:¬q=st.next:=oO;have hI:∀ Zr:Frm,(Zr 0=fr 0/\Zr 3=fr 3)->Zr 1=fr 1->Zr 8=fr 8->Zr 9=fr 9->Zr 10=fr 10->Zr 11=fr 11->yL On cY eg q st.next a b n m k l st Zr (xx st2 st.next s1):=by intro Zr g0 g1 g6 g7 g8 g9;exact⟨⟨by rw[g0.1,f0],by rw[g0.2,fC]⟩,by rw[g1,f1],by rw[g6,f6],by rw[g7,f7],by rw[g8,f8],by rw[g9,f9],by simpa using Y5,YU.set' (aAi _) _,⟨s1,by simp[-aG]⟩,c,by simp[-aG,K9,hcq],Xi⟩
   by_cases C8:(n:Int)<=(o:Int)
   .have w13:IntKind.i64.wrap ((o:Int)-(n:Int))=((o-n:Nat):Int):=zW
    (repeat' (first|apply qS|(apply qC;simp[-aG,f6,C8,w13])|(refine zE ?_;intro J hJ;simp[-aG,f6,C8,w13];refine zJ hJ ?_)))
    refine⟨by trivial,?_⟩;exact⟨hI _ (by simp[-aG]) (by simp[-aG]) (by simp[-aG]) (by simp[-aG]) (by simp[-aG]) (by simp[-aG]),o-n,oO,by simp[-aG]⟩
   ·(repeat' (first|apply qS|refine qK (zZ ?_)|(apply qC;simp[-aG,f6,C8])|(refine zE ?_;intro J hJ;simp[-aG,f6,C8];refine zJ hJ ?_)))
    refine⟨by trivial,?_⟩;exact⟨hI _ (by simp[-aG]) (by simp[-aG]) (by simp[-aG]) (by simp[-aG]) (by simp[-aG]) (by simp[-aG]),o,oO,by simp[-aG]⟩
  clear f0 fC f1 f6 f7 f8 f9 Y5 YU hs hcq Xi Xk v9 F6 w12 ho o s s1 c st2 fr;rintro fr st2 ⟨⟨⟨f0,fC⟩,f1,f6,f7,f8,f9,Y5,YU,⟨s,hs⟩,c,hcq,Xi⟩,o,ho,f10⟩;have Xk:=Xi.len;have v9:=cR hD Xi;obtain⟨x,hx⟩:∃ x:Nat,x=a+o:=⟨_,rfl⟩;have w12:IntKind.i64.wrap ((a:Int)+(o:Int))=(x:Int):=zW;have w13:=qN k oO;have Xu:=aP eg c k oO;have YQ:=aP eg c x oO;have L3:k<l.length:=oO;have M9:x<l.length:=oO;have YT:=fun v y=>oU eg st2 q c k x (x:=v) (y:=y) oO oO;have YM:=Xi.step k x oO oO oO oO oO;generalize hv:c.getD k 0=v at *;generalize hy:c.getD x 0=y at *;have YC:=YT v y rfl rfl
  (refine zS [] [q] [0,2,4,6,8,10,12,14,16,18,20,22,24,26,28,30,32,35,36,39] ?_;intro J hJ;simp[-aG,f0,fC,f1,f9,f10,w12,L3,M9,Xk,hcq,Xu,YQ,aQ];(repeat refine ca ?_);refine zJ hJ ?_)
  (repeat' (refine zE ?_;intro J hJ;simp[-aG,f9,w13];refine zJ hJ ?_))
  have K9:¬st.next=q:=oO;rw[YC];exact hJJ (k0+2-(k+1)) _ _ oO ⟨k+1,oO,oO,rfl,by simp[-aG,f0,fC],by simp[-aG,f1],by simp[-aG,f6],by simp[-aG,f7],by simp[-aG,f8],by simp[-aG],by simpa using Y5,YU.set _,⟨s,by simp[-aG,K9,hs]⟩,_,by simp[-aG],YM⟩
def Aw.CE.iJ:=mT.1
def Aw.CR.iJ:=mT.2
open Go Go.RowKit Pl Aw
open Aw.CE
open Aw.CR
namespace Aw.CE
@[simp] abbrev nG(eg:Int->Ed)(c:List Int):cI:=.box 56 3 (es3 eg c)
def PdI(On:FuncId)(cY:List LV)(eg:Int->Ed)(q:Nat)(l:List Int)(st:St)(a b a' b':Nat)(wb wp:Bool)(YE n:Nat)(fr:Frm)(st2:St):Prop:=
 (fr 0=.ms q 0 l.length/\fr 4=.fn (.func On) cY)/\fr 1=i a'/\fr 2=i b'/\fr 3=i YE/\fr 10=bb wb/\fr 11=bb wp/\fr 12=i n/\YE<1000000/\q<st2.next/\bK q st st2/\∃ c,st2.H q=(nG eg c)/\Pm a b l c/\gJ c a' b'/\Dx a b a' b' c
end Aw.CE
namespace Aw.CR
@[simp] abbrev nG(eg:Rw)(c:List Int):cI:=.box 23 1 (ws eg c)
def PdI(On:FuncId)(cY:List LV)(eg:Rw)(q:Nat)(l:List Int)(st:St)(a b a' b':Nat)(wb wp:Bool)(YE n:Nat)(fr:Frm)(st2:St):Prop:=
 (fr 0=.ms q 0 l.length/\fr 4=.fn (.func On) cY)/\fr 1=i a'/\fr 2=i b'/\fr 3=i YE/\fr 10=bb wb/\fr 11=bb wp/\fr 12=i n/\YE<1000000/\q<st2.next/\bK q st st2/\∃ c,st2.H q=(nG eg c)/\Pm a b l c/\gJ c a' b'/\Dx a b a' b' c
end Aw.CR
namespace Aw.CE
theorem PdI.mk{On:FuncId}{cY:List LV}{eg:Int->Ed}{q:Nat}{l:List Int}{st:St}{a b a' b':Nat}{wb wp:Bool}{YE n:Nat}{fr:Frm}{st2:St}{c:List Int}(f0:(fr 0=.ms q 0 l.length/\fr 4=.fn (.func On) cY))(f1:fr 1=i a')(f2:fr 2=i b')(f3:fr 3=i YE)(f8:fr 10=bb wb)(f9:fr 11=bb wp)(f10:fr 12=i n)(r8:YE<1000000)(Zt:q<st2.next)(ho:bK q st st2)(hc:st2.H q=(nG eg c))(hp:Pm a b l c)(ha:gJ c a' b')(hf:Dx a b a' b' c):PdI On cY eg q l st a b a' b' wb wp YE n fr st2:=
 ⟨f0,f1,f2,f3,f8,f9,f10,r8,Zt,ho,c,hc,hp,ha,hf⟩
end Aw.CE
namespace Aw.CR
theorem PdI.mk{On:FuncId}{cY:List LV}{eg:Rw}{q:Nat}{l:List Int}{st:St}{a b a' b':Nat}{wb wp:Bool}{YE n:Nat}{fr:Frm}{st2:St}{c:List Int}(f0:(fr 0=.ms q 0 l.length/\fr 4=.fn (.func On) cY))(f1:fr 1=i a')(f2:fr 2=i b')(f3:fr 3=i YE)(f8:fr 10=bb wb)(f9:fr 11=bb wp)(f10:fr 12=i n)(r8:YE<1000000)(Zt:q<st2.next)(ho:bK q st st2)(hc:st2.H q=(nG eg c))(hp:Pm a b l c)(ha:gJ c a' b')(hf:Dx a b a' b' c):PdI On cY eg q l st a b a' b' wb wp YE n fr st2:=
 ⟨f0,f1,f2,f3,f8,f9,f10,r8,Zt,ho,c,hc,hp,ha,hf⟩
end Aw.CR
namespace Aw.CE
def PdJ(On:FuncId)(cY:List LV)(eg:Int->Ed)(q:Nat)(l:List Int)(st:St)(a b a' b':Nat)(wb wp:Bool)(n:Nat)(fr:Frm)(st2:St):Prop:=∃ YE,PdI On cY eg q l st a b a' b' wb wp YE n fr st2
end Aw.CE
namespace Aw.CR
def PdJ(On:FuncId)(cY:List LV)(eg:Rw)(q:Nat)(l:List Int)(st:St)(a b a' b':Nat)(wb wp:Bool)(n:Nat)(fr:Frm)(st2:St):Prop:=∃ YE,PdI On cY eg q l st a b a' b' wb wp YE n fr st2
end Aw.CR
namespace Aw.CE
def PdK(On:FuncId)(cY:List LV)(eg:Int->Ed)(q:Nat)(l:List Int)(st:St)(a b a' b':Nat)(wb wp:Bool)(n:Nat)(fr:Frm)(st2:St):Prop:=∃ YE,PdI On cY eg q l st a b a' b' wb wp YE n fr st2/\∃(pv:Nat) (h:Int),a'<=pv/\pv<b'/\fr 13=i pv/\fr 14=i h
end Aw.CE
namespace Aw.CR
def PdK(On:FuncId)(cY:List LV)(eg:Rw)(q:Nat)(l:List Int)(st:St)(a b a' b':Nat)(wb wp:Bool)(n:Nat)(fr:Frm)(st2:St):Prop:=∃ YE,PdI On cY eg q l st a b a' b' wb wp YE n fr st2/\∃(pv:Nat) (h:Int),a'<=pv/\pv<b'/\fr 13=i pv/\fr 14=i h
end Aw.CR
theorem oC:(∀ ⦃On:FuncId⦄ ⦃cY:List LV⦄ ⦃eg:Int->Ed⦄ ⦃Dm:Int->Prop⦄ (hC:fL On cY eg Dm) (Z:Nat),
 ∀(l:List Int) (q a b YE:Nat) (st:St),(∀ x∈l,Dm x)->l.length<65536->a<=b->b<=l.length->b-a<Z->gJ l a b->YE<1000000->q<st.next->st.H q=(nG eg l)->
 aB prog 188 [.ms q 0 l.length,i a,i b,i YE,.fn (.func On) cY] st fun r st'=>∃ c,st'.H q=(nG eg c)/\Pm a b l c/\Srt a b c/\bK q st st')/\(∀ ⦃On:FuncId⦄ ⦃cY:List LV⦄ ⦃eg:Rw⦄ ⦃Dm:Int->Prop⦄ (hC:fL On cY eg Dm) (Z:Nat),
 ∀(l:List Int) (q a b YE:Nat) (st:St),(∀ x∈l,Dm x)->l.length<65536->a<=b->b<=l.length->b-a<Z->gJ l a b->YE<1000000->q<st.next->st.H q=(nG eg l)->
 aB prog 105 [.ms q 0 l.length,i a,i b,i YE,.fn (.func On) cY] st fun r st'=>∃ c,st'.H q=(nG eg c)/\Pm a b l c/\Srt a b c/\bK q st st'):=by
 refine⟨?_,?_⟩
 all_goals
  intro On cY eg Dm hC Z;induction Z with
  |zero=>intro l q a b YE st _ _ _ _ h;omega
  |succ Z ih=>
  intro l q a b YE st hD hl YA hb hZ hah hlim Zt hH;have Za:small l:=by unfold small;omega
  first|(have _:Int->Ed:=eg;refine zN func188 ntmps188 [] ?_)|refine zN func105 ntmps105 [] ?_
  (repeat' (first|apply qS|apply qB|(refine zE ?_;intro J hJ;simp[];refine zJ hJ ?_)))
  refine qL (fun z fr st2=>∃(a' b' YE:Nat) (wb wp:Bool) (n:LV),a<=a'/\a'<=b'/\b'<=b/\z=b' - a'/\PdI On cY eg q l st a b a' b' wb wp YE 0 (upd fr 12 (i (0:Nat))) st2) (b-a) ?_ ?_
  .refine⟨a,b,YE,true,true,.nil,oO,oO,oO,rfl,?_⟩;exact PdI.mk sS sS sS sS sS sS sS hlim Zt (.refl _ _) hH .refl hah fun d h1 h2=>h2
  rintro z fr st2 ⟨a',b',YE,wb,wp,-,ha1,ha2,c7,rfl,⟨f0,fC⟩,f1,f2,f3,f8,f9,-,r8,YF,YU,c,hc,Xi,YN,Xo⟩ JJ hJJ;rw[vG,aAa oO]at f0 fC f1 f2 f3 f8 f9;have Xk:=Xi.len;have v9:=cR hD Xi;have Yd:small c:=by unfold small;omega
  obtain⟨n,hn⟩:∃ n:Nat,n=b' - a':=⟨_,rfl⟩;have w1:IntKind.i64.wrap ((b':Int)-(a':Int))=(n:Int):=zW;apply qB
  (repeat' (first|apply qS|(refine zE ?_;intro J hJ;simp[f1,f2,w1];refine zJ hJ ?_)))
  by_cases hn12:(n:Int)<=12
  .clear hJJ;apply qC;simp[hn12]
   (repeat' (first|apply qS|(refine zE ?_;intro J hJ;simp[f0,fC,f1,f2])))
   refine qE (insertionSort hC c q a' b' st2 (by first|assumption|exact cR hD ‹Pm _ _ l c›) Yd oO oO hc) (by simp[f0,fC,f1,f2,Xk]) ?_;rintro r st' ⟨d,rfl,k1,k2⟩
   (repeat' (first|(refine qR (zZ ?_);simp[])|(apply aD;simp[];refine zJ hJ ?_)))
   exact⟨d,rfl,Xi.trans (k1.wide oO oO oO),Xo d k1 k2,YU.set _⟩
  apply qC;simp[hn12]
  (repeat' (first|apply qS|refine qK (zZ ?_)|(refine zE ?_;intro J hJ;simp[f3];refine zJ hJ ?_)))
  by_cases v8:YE=0
  .clear hJJ;apply qC;simp[v8]
   (repeat' (first|apply qS|(refine zE ?_;intro J hJ;simp[f0,fC,f1,f2])))
   refine qE (tV hC c q a' b' st2 (by first|assumption|exact cR hD ‹Pm _ _ l c›) Yd oO oO hc) (by simp[f0,fC,f1,f2,Xk]) ?_;rintro r st' ⟨d,rfl,k1,k2⟩
   (repeat' (first|(refine qR (zZ ?_);simp[])|(apply aD;simp[];refine zJ hJ ?_)))
   exact⟨d,rfl,Xi.trans (k1.wide oO oO oO),Xo d k1 k2,YU.set _⟩
  apply qC;simp[v8];refine qK (zZ ?_);apply qS;refine bA (PdJ On cY eg q l st a b a' b' wb wp n) ?_ ?_
  .clear hJJ;cases wb
   ·(repeat' (first|apply qS|(apply qC;simp[f0,fC,f1,f2,f8])|(refine zE ?_;intro J hJ;simp[f0,fC,f1,f2,f8];(try refine zJ hJ ?_))))
    refine qE (iJ hC c q a' b' st2 (by first|assumption|exact cR hD ‹Pm _ _ l c›) oO oO oO YF hc) (by simp[f0,fC,f1,f2,Xk]) ?_;rintro r st' ⟨d,k0,k1,k2⟩;have w2:=aH YE oO oO
    (repeat' ((first|(refine zE ?_;intro J hJ)|(apply aD));simp[f3,w2];refine zJ hJ ?_))
    refine⟨by trivial,?_⟩;exact⟨YE-1,PdI.mk (by simp[f0,fC]) (by simp[f1]) (by simp[f2]) sS (by simp[f8]) (by simp[f9]) sS oO (aAp YF k2.1) (YU.trans k2) k0 (Xi.trans (k1.wide oO oO oO)) (YN.pm k1) (Xo.pm k1)⟩
   ·(repeat' (first|apply qS|refine qK (zZ ?_)|(apply qC;simp[f8])|(refine zE ?_;intro J hJ;simp[f8];refine zJ hJ ?_)))
    refine⟨by trivial,?_⟩;exact⟨YE,PdI.mk (by simp[f0,fC]) (by simp[f1]) (by simp[f2]) (by simp[f3]) (by simp[f8]) (by simp[f9]) sS oO YF YU hc Xi YN Xo⟩
  clear f0 fC f1 f2 f3 f8 f9 r8 YF YU hc Xi YN Xo Xk v9 Yd c st2 fr v8 YE;rintro fr st2 ⟨YE,⟨f0,fC⟩,f1,f2,f3,f8,f9,f10,r8,YF,YU,c,hc,Xi,YN,Xo⟩;have Xk:=Xi.len;have v9:=cR hD Xi;have Yd:small c:=by unfold small;omega
  apply qS
  (refine zE ?_;intro J hJ;simp[f0,fC,f1,f2])
  refine qE (lO hC c q a' b' st2 (by first|assumption|exact cR hD ‹Pm _ _ l c›) Yd oO oO YF hc) (by simp[f0,fC,f1,f2,Xk]) ?_;rintro r st' ⟨pv,h,rfl,ZE,Zh,k0⟩;have x9:st'.H q=(nG eg c):=by rw[k0.H q YF];exact hc
  have V2:q<st'.next:=aAp YF k0.next;have W0:=YU.keeps k0;clear hc YF YU k0
  (apply aD;simp[];refine zJ hJ ?_)
  apply qS;refine bA (PdK On cY eg q l st a b a' b' wb wp n) ?_ ?_
  .clear hJJ;by_cases hh:h=2
   ·(repeat' (first|apply qS|(apply qC;simp[hh,f0,fC,f1,f2])|(refine zE ?_;intro J hJ;simp[hh,f0,fC,f1,f2];(try refine zJ hJ ?_))))
    refine qE (jP hC c q a' b' st' (by first|assumption|exact cR hD ‹Pm _ _ l c›) Yd oO oO oO x9) (by simp[f0,fC,f1,f2,Xk]) ?_;rintro r st' ⟨d,rfl,k1⟩;have w2:=aH b' oO oO;obtain⟨x1,hx1⟩:∃ x,x=b' - 1:=⟨_,rfl⟩;obtain⟨x2,Ys⟩:∃ x,x=pv-a':=⟨_,rfl⟩;obtain⟨x3,hx3⟩:∃ x,x=x1-x2:=⟨_,rfl⟩;have w3:IntKind.i64.wrap ((pv:Int)-(a':Int))=(x2:Int):=zW;have w4:IntKind.i64.wrap ((x1:Int)-(x2:Int))=(x3:Int):=zW;rw[<- hx1]at w2
    (repeat' (first|apply qS|((first|(refine zE ?_;intro J hJ)|(apply aD));simp[f1,f2,w2,w3,w4];refine zJ hJ ?_)))
    refine⟨by trivial,?_⟩;exact⟨YE,PdI.mk (by simp[f0,fC]) (by simp[f1]) (by simp[f2]) (by simp[f3]) (by simp[f8]) (by simp[f9]) (by simp[f10]) oO V2 (W0.set _) sS (Xi.trans (k1.wide oO oO oO)) (YN.pm k1) (Xo.pm k1),x3,1,oO,oO,sS,sS⟩
   ·(repeat' (first|apply qS|refine qK (zZ ?_)|(apply qC;simp[hh])|(refine zE ?_;intro J hJ;simp[hh];refine zJ hJ ?_)))
    refine⟨by trivial,?_⟩;exact⟨YE,PdI.mk (by simp[f0,fC]) (by simp[f1]) (by simp[f2]) (by simp[f3]) (by simp[f8]) (by simp[f9]) (by simp[f10]) oO V2 W0 x9 Xi YN Xo,pv,h,oO,oO,sS,sS⟩
  clear f0 fC f1 f2 f3 f8 f9 f10 r8 V2 W0 x9 Xi YN Xo Xk v9 Yd c st2 fr YE h ZE Zh pv;rintro fr st2 ⟨YE,⟨⟨f0,fC⟩,f1,f2,f3,f8,f9,f10,r8,YF,YU,c,hc,Xi,YN,Xo⟩,pv,h,ZE,Zh,f11,f12⟩;have Xk:=Xi.len;have v9:=cR hD Xi;have Yd:small c:=by unfold small;omega
  apply qS;refine HG (PdK On cY eg q l st a b a' b' wb wp n) ?_ ?_
  .clear hJJ;cases wb
   ·(repeat' (first|apply qS|refine qK (zZ ?_)|(apply qC;simp[f8])|(refine zE ?_;intro J hJ;simp[f8];refine zJ hJ ?_)))
    refine .inl ⟨by trivial,?_⟩;exact⟨YE,PdI.mk (by simp[f0,fC]) (by simp[f1]) (by simp[f2]) (by simp[f3]) (by simp[f8]) (by simp[f9]) (by simp[f10]) oO YF YU hc Xi YN Xo,pv,h,oO,oO,by simp[f11],by simp[f12]⟩
   cases wp
   ·(repeat' (first|apply qS|refine qK (zZ ?_)|(apply qC;simp[f8,f9])|(refine zE ?_;intro J hJ;simp[f8,f9];refine zJ hJ ?_)))
    refine .inl ⟨by trivial,?_⟩;exact⟨YE,PdI.mk (by simp[f0,fC]) (by simp[f1]) (by simp[f2]) (by simp[f3]) (by simp[f8]) (by simp[f9]) (by simp[f10]) oO YF YU hc Xi YN Xo,pv,h,oO,oO,by simp[f11],by simp[f12]⟩
   by_cases hh:h=1;rotate_left
   ·(repeat' (first|apply qS|refine qK (zZ ?_)|(apply qC;simp[f8,f9,f12,hh])|(refine zE ?_;intro J hJ;simp[f8,f9,f12,hh];refine zJ hJ ?_)))
    refine .inl ⟨by trivial,?_⟩;exact⟨YE,PdI.mk (by simp[f0,fC]) (by simp[f1]) (by simp[f2]) (by simp[f3]) (by simp[f8]) (by simp[f9]) (by simp[f10]) oO YF YU hc Xi YN Xo,pv,h,oO,oO,by simp[f11],by simp[f12]⟩
   (repeat' (first|apply qS|(apply qC;simp[f8,f9,f12,hh,f0,fC,f1,f2])|(refine zE ?_;intro J hJ;simp[f8,f9,f12,hh,f0,fC,f1,f2];(try refine zJ hJ ?_))))
   refine qE (dF hC c q a' b' st2 (by first|assumption|exact cR hD ‹Pm _ _ l c›) Yd oO oO YN hc) (by simp[f0,fC,f1,f2,Xk]) ?_;rintro r st' ⟨d,p,rfl,rfl,k1,k2⟩;cases p
   ·(repeat' (first|refine qK (zZ ?_)|(apply qC;simp[])|(apply aD;simp[];refine zJ hJ ?_)))
    refine .inl ⟨by trivial,?_⟩;exact⟨YE,PdI.mk (by simp[f0,fC]) (by simp[f1]) (by simp[f2]) (by simp[f3]) (by simp[f8]) (by simp[f9]) (by simp[f10]) oO YF (YU.set _) sS (Xi.trans (k1.wide oO oO oO)) (YN.pm k1) (Xo.pm k1),pv,h,oO,oO,by simp[f11],by simp[f12]⟩
   ·(repeat' (first|(refine qR (zZ ?_);simp[])|(apply qC;simp[])|(apply aD;simp[];refine zJ hJ ?_)))
    exact⟨d,rfl,Xi.trans (k1.wide oO oO oO),Xo d k1 (k2 rfl),YU.set _⟩
  clear f0 fC f1 f2 f3 f8 f9 f10 f11 f12 r8 YF YU hc Xi YN Xo Xk v9 Yd c st2 fr YE h ZE Zh pv;rintro fr st2 ⟨YE,⟨⟨f0,fC⟩,f1,f2,f3,f8,f9,f10,r8,YF,YU,c,hc,Xi,YN,Xo⟩,pv,h,ZE,Zh,f11,f12⟩;have Xk:=Xi.len;have v9:=cR hD Xi;have Yd:small c:=by unfold small;omega
  apply qS;refine HV (PdK On cY eg q l st a b a' b' wb wp n) ?_ ?_
  .by_cases h0:a'=0
   .clear hJJ;have S7:¬(0:Int)<(a':Int):=oO
    (repeat (apply qS));(refine zS [] [q] [0,2,4,6,8,10,12,14,16,18,20,22,24,27,28,30,32] ?_;intro J hJ;simp[f0,fC,f1,h0];refine zJ hJ ?_)
    (repeat' (first|refine qK (zZ ?_)|(apply qC;simp[])))
    refine .inl ⟨by trivial,?_⟩;exact⟨YE,PdI.mk (by simp[f0,fC]) (by simp[f1]) (by simp[f2]) (by simp[f3]) (by simp[f8]) (by simp[f9]) (by simp[f10]) oO  YF YU hc Xi YN Xo,pv,h,oO,oO,by simp[f11],by simp[f12]⟩
   have S7:0<a':=oO;have w2:=aH a' oO oO;have Xu:=aP eg c (a' - 1) oO;have YQ:=aP eg c pv oO;have L3:a' - 1<l.length:=oO;have M9:pv<l.length:=oO;have Zs:∀ j,a'<=j->j<b'->c.getD (a' - 1) 0<=c.getD j 0:=YN S7;generalize hx:c.getD (a' - 1) 0=x at *;generalize hy:c.getD pv 0=y at *
   (repeat (apply qS));(refine zS [] [q] [0,2,4,6,8,10,12,14,16,18,20,22,24,27,28,30,32] ?_;intro J hJ;simp[f0,fC,f1,f11,S7,w2,L3,M9,Xk,hc,Xu,YQ,aQ])
   refine aJ (hC.call x y _ (by first|assumption|(subst_vars;exact cC (by assumption) oO)) (by first|assumption|(subst_vars;exact cC (by assumption) oO))) ?_;rintro r s2 ⟨⟨nv,rfl,ZW⟩,rfl⟩;refine⟨fun _=>by simp,?_⟩;by_cases YH:x<y
   .clear hJJ
    (apply aV;simp[ZW,YH];refine zJ hJ ?_)
    (repeat' (first|refine qK (zZ ?_)|(apply qC;simp[])))
    refine .inl ⟨by trivial,?_⟩;exact⟨YE,PdI.mk (by simp[f0,fC]) (by simp[f1]) (by simp[f2]) (by simp[f3]) (by simp[f8]) (by simp[f9]) (by simp[f10]) oO  YF YU hc Xi YN Xo,pv,h,oO,oO,by simp[f11],by simp[f12]⟩
   (apply aV;simp[ZW,YH];refine zJ hJ ?_)
   (repeat' (first|apply qS|(apply qC;simp[f0,fC,f1,f2,f11])|(refine zE ?_;intro J hJ;simp[f0,fC,f1,f2,f11])))
   refine qE (fZ hC c q a' b' pv _ (by first|assumption|exact cR hD ‹Pm _ _ l c›) Yd oO oO ZE Zh hc) (by simp[f0,fC,f1,f2,f11,Xk]) ?_;rintro r st' ⟨d,YB,rfl,rfl,k1,k2,k3,k4⟩
   (repeat' (first|apply qS|refine qX (zZ ?_)|((first|(refine zE ?_;intro J hJ)|(apply aD));simp[];refine zJ hJ ?_)))
   refine .inr ⟨sS,?_⟩;refine hJJ (b' - YB) _ _ oO ⟨YB,b',YE,wb,wp,.nil,oO,oO,oO,rfl,?_⟩;rw[hy]at k4;refine PdI.mk (by simp[f0,fC]) sS (by simp[f2]) (by simp[f3]) (by simp[f8]) (by simp[f9]) sS oO YF (YU.set _) sS (Xi.trans (k1.wide oO oO oO)) ?_ ?_
   .intro _ j g1 g2;have e1:=k4.1 (YB-1) oO oO;have e2:=k4.2 j g1 g2;omega
   .intro e g1 g2;refine Xo e (k1.trans (g1.wide oO oO (by have:=k1.len;omega))) (Jp k4 (fun j e1 e2=>?_) g1 g2);have:=k1.all (fun v=>x<=v) Zs j e1 oO;omega
  clear f0 fC f1 f2 f3 f8 f9 f10 f11 f12 r8 YF YU hc Xi YN Xo Xk v9 Yd c st2 fr YE h ZE Zh pv;rintro fr st2 ⟨YE,⟨⟨f0,fC⟩,f1,f2,f3,f8,f9,f10,r8,YF,YU,c,hc,Xi,YN,Xo⟩,pv,h,ZE,Zh,f11,f12⟩;have Xk:=Xi.len;have v9:=cR hD Xi;have Yd:small c:=by unfold small;omega
  (repeat' (first|apply qS|(refine zE ?_;intro J hJ;simp[f0,fC,f1,f2,f11])))
  refine qE (partition hC c q a' b' pv _ (by first|assumption|exact cR hD ‹Pm _ _ l c›) Yd oO oO ZE Zh hc) (by simp[f0,fC,f1,f2,f11,Xk]) ?_;rintro r st' ⟨d,YB,p,rfl,rfl,k1,k2,k3,k4⟩;have p8:=k1.len;have k4:cB d a' YB b':=k4;have hpm':=Xi.trans (k1.wide ha1 c7 oO);have hah':=YN.pm k1;have P9:=Xo.pm k1;have hof':=YU.set (q:=q) ((nG eg d));have w3:IntKind.i64.wrap ((YB:Int)-(a':Int))=((YB-a':Nat):Int):=zW;have w4:IntKind.i64.wrap ((b':Int)-(YB:Int))=((b' - YB:Nat):Int):=zW;have w5:IntKind.i64.wrap ((n:Int) / 8)=((n / 8:Nat):Int):=by rw[show(n:Int) / 8=((n / 8:Nat):Int) from rfl];exact wrap_i64 _ oO oO
  obtain⟨z1,hz1⟩:∃ x:Nat,x=YB-a':=⟨_,rfl⟩;obtain⟨z2,hz2⟩:∃ x:Nat,x=b' - YB:=⟨_,rfl⟩;obtain⟨z3,hz3⟩:∃ x:Nat,x=n / 8:=⟨_,rfl⟩;obtain⟨m1,x7⟩:∃ x:Nat,x=YB+1:=⟨_,rfl⟩;rw[<- hz1]at w3;rw[<- hz2]at w4;rw[<- hz3]at w5;have w6:IntKind.i64.wrap ((YB:Int)+1)=(m1:Int):=by rw[qN YB oO,x7]
  clear hc Xi YN Xo YU
  (repeat' (first|apply qS|((first|(refine zE ?_;intro J hJ)|(apply aD));simp[f1,f2,f10,w3,w4,w5];refine zJ hJ ?_)))
  apply qC;by_cases hzz:z1<z2
  .simp[hzz]
   (repeat' (first|apply qS|(refine zE ?_;intro J hJ;simp[f0,fC,f1,f3];(try refine zJ hJ ?_))))
   refine qE (ih d q a' YB YE (bx eg st2 q d) (by first|assumption|exact cR hD ‹Pm _ _ l d›) oO oO oO oO (hah'.less oO) oO YF sS) (by simp[f0,fC,f1,f2,f3,p8,Xk]) ?_;rintro r st' ⟨e,j0,j1,j2,j3⟩
   (repeat' ((first|(refine zE ?_;intro J hJ)|(apply aD));simp[w6];refine zJ hJ ?_))
   refine hJJ (b' - m1) _ _ oO ⟨m1,b',YE,decide (z3<=z1),p,.nil,oO,oO,oO,rfl,?_⟩;refine PdI.mk (by simp[f0,fC]) sS (by simp[f2]) (by simp[f3]) sS sS sS oO (aAp YF j3.1) (hof'.trans j3) j0 (hpm'.trans (j1.wide oO oO oO)) ?_ ?_
   .rw[x7];exact(k4.pmL j1).aheadR
   .intro y g1 g2;rw[x7]at g1 g2;refine P9 y ((j1.wide oO oO oO).trans (g1.wide oO oO (by have:=j1.len;omega))) (((k4.pmL j1).pmR g1).glue (Srt.out j2 fun j e1 e2=>g1.out j oO) g2)
  .simp[hzz]
   (repeat' (first|apply qS|(refine zE ?_;intro J hJ;simp[f0,fC,f2,f3,w6];(try refine zJ hJ ?_))))
   refine qE (ih d q m1 b' YE (bx eg st2 q d) (by first|assumption|exact cR hD ‹Pm _ _ l d›) oO oO oO oO (by rw[x7];exact k4.aheadR) oO YF sS) (by simp[f0,fC,f1,f2,f3,p8,Xk]) ?_;rintro r st' ⟨e,j0,j1,j2,j3⟩
   (repeat' ((first|(refine zE ?_;intro J hJ)|(apply aD));simp[];refine zJ hJ ?_))
   rw[x7]at j1 j2;refine hJJ (YB-a') _ _ oO ⟨a',YB,YE,decide (z3<=z2),p,.nil,oO,oO,oO,rfl,?_⟩;refine PdI.mk (by simp[f0,fC]) (by simp[f1]) sS (by simp[f3]) sS sS sS oO (aAp YF j3.1) (hof'.trans j3) j0 (hpm'.trans (j1.wide oO oO oO)) ?_ ?_
   .exact(hah'.pm (j1.wide oO oO oO)).less oO
   .intro y g1 g2;refine P9 y ((j1.wide oO oO oO).trans (g1.wide oO oO (by have:=j1.len;omega))) (((k4.pmR j1).pmL g1).glue g2 (Srt.out j2 fun j e1 e2=>g1.out j oO))
def Aw.CE.jQ:=oC.1
def Aw.CR.jQ:=oC.2
theorem Ge:(∀ ⦃On:FuncId⦄ ⦃cY:List LV⦄ ⦃eg:Int->Ed⦄ ⦃Dm:Int->Prop⦄ (hC:fL On cY eg Dm) (l:List Int) (q:Nat) (st:St) (hD:∀ x∈l,Dm x) (hl:l.length<65536) (Zt:q<st.next) (hH:st.H q=(nG eg l)),
 aB prog 145 [.ms q 0 l.length,.fn (.func On) cY] st fun r st'=>∃ c,st'.H q=(nG eg c)/\c.Perm l/\c.Pairwise (·<=·)/\bK q st st')/\(∀ ⦃On:FuncId⦄ ⦃cY:List LV⦄ ⦃eg:Rw⦄ ⦃Dm:Int->Prop⦄ (hC:fL On cY eg Dm) (l:List Int) (q:Nat) (st:St) (hD:∀ x∈l,Dm x) (hl:l.length<65536) (Zt:q<st.next) (hH:st.H q=(nG eg l)),
 aB prog 71 [.ms q 0 l.length,.fn (.func On) cY] st fun r st'=>∃ c,st'.H q=(nG eg c)/\c.Perm l/\c.Pairwise (·<=·)/\bK q st st'):=by
 refine⟨?_,?_⟩
 all_goals
  intro On cY eg Dm hC l q st hD hl Zt hH;have w1:IntKind.u64.wrap (l.length:Int)=(l.length:Int):=wrap_u64 _ oO oO;have ZT:=(tI l.length oO).1
  first|(have _:Int->Ed:=eg;refine zN func145 ntmps145 [] ?_)|refine zN func71 ntmps71 [] ?_
  (repeat' (first|apply qS|(refine zE ?_;intro J hJ;simp[w1];(try refine zJ hJ ?_))))
  refine qF (Len l.length _ oO) ?_;rintro r st' ⟨rfl,rfl⟩
  (repeat' (apply aD;simp[]))
  refine qE (jQ hC (l.length+1) l q 0 l.length (jO l.length) _ hD hl oO oO oO (fun h=>absurd h oO) oO Zt hH) (by simp[]) ?_;rintro r st' ⟨c,k1,k2,k3,k4⟩
  (repeat' (apply aD;simp[];refine zJ hJ ?_))
  have Xk:=k2.len;exact⟨trivial,c,k1,k2.perm,Fc (by rw[Xk];exact k3),k4⟩
def Aw.CE.Nc:=Ge.1
def Aw.CR.Nc:=Ge.2
end Go.Proofs.YtempldclppogmaaGreatDoor
