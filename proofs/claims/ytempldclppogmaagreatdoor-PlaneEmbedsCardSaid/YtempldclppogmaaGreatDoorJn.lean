/- SE8 and SR8 in one: written by gentwo.py. -/
import Derived.Test.YtempldclppogmaaGreatDoorJm
set_option linter.unusedVariables false
set_option linter.unusedSimpArgs false
set_option linter.defProp false
set_option maxHeartbeats 4000000
open Go.Proofs.Tryz
namespace Go.Proofs.YtempldclppogmaaGreatDoor
open Go Go.RowKit Pl Aw
open Aw.CE
open Aw.CR
namespace Aw.CE
def yH(NQ:FuncId)(cY:List LV)(eg:Int->Ed)(q p a b n m k:Nat)(l:List Int)(st:St)(fr:Frm)(st2:St):Prop:=(fr 0=.ms q 0 l.length/\fr 3=.fn (.func NQ) cY)/\fr 1=i a/\fr 8=i n/\fr 9=.pt p 0/\fr 10=uw m/\fr 11=i k/\p<st2.next/\bK q st st2/\(∃ s,st2.H p=.box 199 1 [uw s])/\∃ c,st2.H q=.box 56 3 (es3 eg c)/\Pm a b l c
end Aw.CE
namespace Aw.CR
def yH(NQ:FuncId)(cY:List LV)(eg:Rw)(q p a b n m k:Nat)(l:List Int)(st:St)(fr:Frm)(st2:St):Prop:=(fr 0=.ms q 0 l.length/\fr 3=.fn (.func NQ) cY)/\fr 1=i a/\fr 8=i n/\fr 9=.pt p 0/\fr 10=uw m/\fr 11=i k/\p<st2.next/\bK q st st2/\(∃ s,st2.H p=.box 199 1 [uw s])/\∃ c,st2.H q=.box 23 1 (ws eg c)/\Pm a b l c
end Aw.CR
namespace Aw.CE
def RQ(NQ:FuncId)(cY:List LV)(eg:Int->Ed)(q p a b n m k:Nat)(l:List Int)(st:St)(fr:Frm)(st2:St):Prop:=yH NQ cY eg q p a b n m k l st fr st2/\∃ o:Nat,o<n/\fr 12=i o
end Aw.CE
namespace Aw.CR
def RQ(NQ:FuncId)(cY:List LV)(eg:Rw)(q p a b n m k:Nat)(l:List Int)(st:St)(fr:Frm)(st2:St):Prop:=yH NQ cY eg q p a b n m k l st fr st2/\∃ o:Nat,o<n/\fr 12=i o
end Aw.CR
theorem mY:(∀ ⦃NQ:FuncId⦄ ⦃cY:List LV⦄ ⦃eg:Int->Ed⦄ ⦃Dm:Int->Prop⦄ (hC:fF NQ cY eg Dm) (l:List Int) (q a b:Nat) (st:St) (hD:∀ x∈l,Dm x) (hl:l.length<65536) (YA:a+8<=b) (hb:b<=l.length) (Zv:q<st.next) (hH:st.H q=.box 56 3 (es3 eg l)),
 aB prog 202 [.ms q 0 l.length,i a,i b,.fn (.func NQ) cY] st fun r st'=>∃ c,st'.H q=.box 56 3 (es3 eg c)/\Pm a b l c/\bK q st st')/\(∀ ⦃NQ:FuncId⦄ ⦃cY:List LV⦄ ⦃eg:Rw⦄ ⦃Dm:Int->Prop⦄ (hC:fF NQ cY eg Dm) (l:List Int) (q a b:Nat) (st:St) (hD:∀ x∈l,Dm x) (hl:l.length<65536) (YA:a+8<=b) (hb:b<=l.length) (Zv:q<st.next) (hH:st.H q=.box 23 1 (ws eg l)),
 aB prog 149 [.ms q 0 l.length,i a,i b,.fn (.func NQ) cY] st fun r st'=>∃ c,st'.H q=.box 23 1 (ws eg c)/\Pm a b l c/\bK q st st'):=by
 refine⟨?_,?_⟩
 all_goals
  intro NQ cY eg Dm hC l q a b st hD hl YA hb Zv hH;obtain⟨n,hn⟩:∃ n:Nat,n=b-a:=⟨_,rfl⟩;obtain⟨n4,C5⟩:∃ m:Nat,m=n / 4:=⟨_,rfl⟩;obtain⟨k0,Yj⟩:∃ m:Nat,m=a+n4*2:=⟨_,rfl⟩;have w1:IntKind.i64.wrap ((b:Int)-(a:Int))=(n:Int):=zW;have w2:IntKind.i64.wrap ((n:Int) / 4)=(n4:Int):=by rw[show(n:Int) / 4=((n / 4:Nat):Int) from rfl,<- C5];exact wrap_i64 _ oO oO
  have w4:IntKind.i64.wrap ((n4:Int)*2)=((n4*2:Nat):Int):=zW;have w7:IntKind.i64.wrap ((a:Int)+((n4*2:Nat):Int))=(k0:Int):=zW;have w8:=aH k0 oO oO;obtain⟨k1,Xn⟩:∃ m:Nat,m=k0+1:=⟨_,rfl⟩;have w9:IntKind.i64.wrap ((k0:Int)+1)=(k1:Int):=by rw[qN k0 oO,Xn]
  have w10:IntKind.u64.wrap (n:Int)=(n:Int):=wrap_u64 _ oO oO;have h8:(8:Int)<=(n:Int):=oO;have ZR:=(uU n oO).2 oO;obtain⟨m,hm⟩:∃ m:Nat,m=2 ^ jO n:=⟨_,rfl⟩;rw[<- hm]at ZR;have w11:IntKind.u64.wrap ((m:Int)-1)=((m-1:Nat):Int):=by rw[wrap_u64 _ oO oO];omega
  generalize ((n4*2:Nat):Int)=e2 at *
  first|(have _:Int->Ed:=eg;refine zN func202 ntmps202 [] ?_)|refine zN func149 ntmps149 [] ?_
  (repeat' (first|apply qS|(refine zE ?_;intro J hJ;simp[-aG,w1];refine zJ hJ ?_)))
  apply qC;simp[-aG,h8]
  (repeat' (first|apply qS|(refine zE ?_;intro J hJ;simp[-aG,w10,w1];(try refine zJ hJ ?_))))
  refine qF (nextPowerOfTwo n _ oO) ?_;rintro r st' ⟨rfl,rfl⟩;rw[<- hm]
  (repeat' (first|apply qS|apply qB|((first|(refine zE ?_;intro J hJ)|(apply aD));simp[-aG,w2,w4,w7,w8];refine zJ hJ ?_)))
  refine qL (fun z fr st2=>∃ k:Nat,k0<=k+1/\k<=k0+2/\z=k0+2-k/\yH NQ cY eg q st.next a b n m k l st fr st2) 3 ?_ ?_
  .refine⟨k0-1,oO,oO,oO,?_⟩
   (first|unfold CE.yH|unfold CR.yH)
   have Wx:¬q=st.next:=oO;refine⟨by simp[-aG],by simp[-aG],by simp[-aG],by simp[-aG],by simp[-aG],by simp[-aG],by simp[-aG],?_,⟨n,by simp[-aG]⟩,l,by simp[-aG,Wx,hH],.refl⟩;exact((bK.refl q st).keeps (aA.new _ _)).set' (aAi _) _
  rintro z fr st2 ⟨k,P8,hku,rfl,⟨f0,fC⟩,f1,f6,f7,f8,f9,hpn,YU,⟨s,hs⟩,c,hcq,Xi⟩ JJ hJJ;have Xk:=Xi.len;have y9:=cQ hD Xi;by_cases dN:(k:Int)<=(k1:Int);rotate_left
  .clear hJJ
   (repeat' (first|apply qS|refine qX (zZ ?_)|(apply qC;simp[-aG,f1,f6,f9,w2,w4,w7,w9,dN])|(refine zE ?_;intro J hJ;simp[-aG,f1,f6,f9,w2,w4,w7,w9,dN];refine zJ hJ ?_)))
   exact⟨trivial,c,hcq,Xi,YU⟩
  (repeat (apply qS));(refine zE ?_;intro J hJ;simp[-aG,f1,f6,f9,w2,w4,w7,w9,dN];refine zJ hJ ?_)
  apply qC;simp[-aG,dN];refine qK (zZ ?_);apply qS;apply qB;apply qS
  (refine zE ?_;intro J hJ;simp[-aG,f7])
  refine qF (Sy st.next s _ hs) ?_;rintro r st' ⟨s1,rfl,rfl⟩;obtain⟨o,ho,F7⟩:=Kq s1 m oO oO;have w12:IntKind.i64.wrap (o:Int)=(o:Int):=zW
  (apply aD;simp[-aG,f8,w11,F7,w12];refine zJ hJ ?_)
  apply qS;refine bB (RQ NQ cY eg q st.next a b n m k l st) ?_ ?_
  .have K5:¬q=st.next:=oO;have hI:∀ Zr:Frm,(Zr 0=fr 0/\Zr 3=fr 3)->Zr 1=fr 1->Zr 8=fr 8->Zr 9=fr 9->Zr 10=fr 10->Zr 11=fr 11->yH NQ cY eg q st.next a b n m k l st Zr (xx st2 st.next s1):=by intro Zr g0 g1 g6 g7 g8 g9;exact⟨⟨by rw[g0.1,f0],by rw[g0.2,fC]⟩,by rw[g1,f1],by rw[g6,f6],by rw[g7,f7],by rw[g8,f8],by rw[g9,f9],by simpa using hpn,YU.set' (aAi _) _,⟨s1,by simp[-aG]⟩,c,by simp[-aG,K5,hcq],Xi⟩
   by_cases D7:(n:Int)<=(o:Int)
   .have w13:IntKind.i64.wrap ((o:Int)-(n:Int))=((o-n:Nat):Int):=zW
    (repeat' (first|apply qS|(apply qC;simp[-aG,f6,D7,w13])|(refine zE ?_;intro J hJ;simp[-aG,f6,D7,w13];refine zJ hJ ?_)))
    refine⟨by trivial,?_⟩;exact⟨hI _ (by simp[-aG]) (by simp[-aG]) (by simp[-aG]) (by simp[-aG]) (by simp[-aG]) (by simp[-aG]),o-n,oO,by simp[-aG]⟩
   ·(repeat' (first|apply qS|refine qK (zZ ?_)|(apply qC;simp[-aG,f6,D7])|(refine zE ?_;intro J hJ;simp[-aG,f6,D7];refine zJ hJ ?_)))
    refine⟨by trivial,?_⟩;exact⟨hI _ (by simp[-aG]) (by simp[-aG]) (by simp[-aG]) (by simp[-aG]) (by simp[-aG]) (by simp[-aG]),o,oO,by simp[-aG]⟩
  clear f0 fC f1 f6 f7 f8 f9 hpn YU hs hcq Xi Xk y9 F7 w12 ho o s s1 c st2 fr;rintro fr st2 ⟨⟨⟨f0,fC⟩,f1,f6,f7,f8,f9,hpn,YU,⟨s,hs⟩,c,hcq,Xi⟩,o,ho,f10⟩;have Xk:=Xi.len;have y9:=cQ hD Xi;obtain⟨x,hx⟩:∃ x:Nat,x=a+o:=⟨_,rfl⟩;have w12:IntKind.i64.wrap ((a:Int)+(o:Int))=(x:Int):=zW;have w13:=qN k oO;have Xu:=aP eg c k oO;have YQ:=aP eg c x oO;have K4:k<l.length:=oO;have O4:x<l.length:=oO;have YT:=fun v y=>pJ eg st2 q c k x (x:=v) (y:=y) oO oO;have YM:=Xi.step k x oO oO oO oO oO;generalize hv:c.getD k 0=v at *;generalize hy:c.getD x 0=y at *;have YC:=YT v y rfl rfl
  (refine zS [] [q] [0,2,4,6,8,10,12,14,16,18,20,22,24,26,28,30,32,35,36,39] ?_;intro J hJ;simp[-aG,f0,fC,f1,f9,f10,w12,K4,O4,Xk,hcq,Xu,YQ,aQ];(repeat refine ca ?_);refine zJ hJ ?_)
  (repeat' (refine zE ?_;intro J hJ;simp[-aG,f9,w13];refine zJ hJ ?_))
  have K5:¬st.next=q:=oO;rw[YC];exact hJJ (k0+2-(k+1)) _ _ oO ⟨k+1,oO,oO,rfl,by simp[-aG,f0,fC],by simp[-aG,f1],by simp[-aG,f6],by simp[-aG,f7],by simp[-aG,f8],by simp[-aG],by simpa using hpn,YU.set _,⟨s,by simp[-aG,K5,hs]⟩,_,by simp[-aG],YM⟩
def Aw.CE.iM:=mY.1
def Aw.CR.iM:=mY.2
open Go Go.RowKit Pl Aw
open Aw.CE
open Aw.CR
namespace Aw.CE
@[simp] abbrev nW(eg:Int->Ed)(c:List Int):cI:=.box 56 3 (es3 eg c)
def PdI(NQ:FuncId)(cY:List LV)(eg:Int->Ed)(q:Nat)(l:List Int)(st:St)(a b a' b':Nat)(wb wp:Bool)(YG n:Nat)(fr:Frm)(st2:St):Prop:=
 (fr 0=.ms q 0 l.length/\fr 4=.fn (.func NQ) cY)/\fr 1=i a'/\fr 2=i b'/\fr 3=i YG/\fr 10=bb wb/\fr 11=bb wp/\fr 12=i n/\YG<1000000/\q<st2.next/\bK q st st2/\∃ c,st2.H q=(nW eg c)/\Pm a b l c/\fV c a' b'/\Dy a b a' b' c
end Aw.CE
namespace Aw.CR
@[simp] abbrev nW(eg:Rw)(c:List Int):cI:=.box 23 1 (ws eg c)
def PdI(NQ:FuncId)(cY:List LV)(eg:Rw)(q:Nat)(l:List Int)(st:St)(a b a' b':Nat)(wb wp:Bool)(YG n:Nat)(fr:Frm)(st2:St):Prop:=
 (fr 0=.ms q 0 l.length/\fr 4=.fn (.func NQ) cY)/\fr 1=i a'/\fr 2=i b'/\fr 3=i YG/\fr 10=bb wb/\fr 11=bb wp/\fr 12=i n/\YG<1000000/\q<st2.next/\bK q st st2/\∃ c,st2.H q=(nW eg c)/\Pm a b l c/\fV c a' b'/\Dy a b a' b' c
end Aw.CR
namespace Aw.CE
theorem PdI.mk{NQ:FuncId}{cY:List LV}{eg:Int->Ed}{q:Nat}{l:List Int}{st:St}{a b a' b':Nat}{wb wp:Bool}{YG n:Nat}{fr:Frm}{st2:St}{c:List Int}(f0:(fr 0=.ms q 0 l.length/\fr 4=.fn (.func NQ) cY))(f1:fr 1=i a')(f2:fr 2=i b')(f3:fr 3=i YG)(f8:fr 10=bb wb)(f9:fr 11=bb wp)(f10:fr 12=i n)(r9:YG<1000000)(Zv:q<st2.next)(ho:bK q st st2)(hc:st2.H q=(nW eg c))(hp:Pm a b l c)(ha:fV c a' b')(hf:Dy a b a' b' c):PdI NQ cY eg q l st a b a' b' wb wp YG n fr st2:=
 ⟨f0,f1,f2,f3,f8,f9,f10,r9,Zv,ho,c,hc,hp,ha,hf⟩
end Aw.CE
namespace Aw.CR
theorem PdI.mk{NQ:FuncId}{cY:List LV}{eg:Rw}{q:Nat}{l:List Int}{st:St}{a b a' b':Nat}{wb wp:Bool}{YG n:Nat}{fr:Frm}{st2:St}{c:List Int}(f0:(fr 0=.ms q 0 l.length/\fr 4=.fn (.func NQ) cY))(f1:fr 1=i a')(f2:fr 2=i b')(f3:fr 3=i YG)(f8:fr 10=bb wb)(f9:fr 11=bb wp)(f10:fr 12=i n)(r9:YG<1000000)(Zv:q<st2.next)(ho:bK q st st2)(hc:st2.H q=(nW eg c))(hp:Pm a b l c)(ha:fV c a' b')(hf:Dy a b a' b' c):PdI NQ cY eg q l st a b a' b' wb wp YG n fr st2:=
 ⟨f0,f1,f2,f3,f8,f9,f10,r9,Zv,ho,c,hc,hp,ha,hf⟩
end Aw.CR
namespace Aw.CE
def PdJ(NQ:FuncId)(cY:List LV)(eg:Int->Ed)(q:Nat)(l:List Int)(st:St)(a b a' b':Nat)(wb wp:Bool)(n:Nat)(fr:Frm)(st2:St):Prop:=∃ YG,PdI NQ cY eg q l st a b a' b' wb wp YG n fr st2
end Aw.CE
namespace Aw.CR
def PdJ(NQ:FuncId)(cY:List LV)(eg:Rw)(q:Nat)(l:List Int)(st:St)(a b a' b':Nat)(wb wp:Bool)(n:Nat)(fr:Frm)(st2:St):Prop:=∃ YG,PdI NQ cY eg q l st a b a' b' wb wp YG n fr st2
end Aw.CR
namespace Aw.CE
def PdK(NQ:FuncId)(cY:List LV)(eg:Int->Ed)(q:Nat)(l:List Int)(st:St)(a b a' b':Nat)(wb wp:Bool)(n:Nat)(fr:Frm)(st2:St):Prop:=∃ YG,PdI NQ cY eg q l st a b a' b' wb wp YG n fr st2/\∃(pv:Nat) (h:Int),a'<=pv/\pv<b'/\fr 13=i pv/\fr 14=i h
end Aw.CE
namespace Aw.CR
def PdK(NQ:FuncId)(cY:List LV)(eg:Rw)(q:Nat)(l:List Int)(st:St)(a b a' b':Nat)(wb wp:Bool)(n:Nat)(fr:Frm)(st2:St):Prop:=∃ YG,PdI NQ cY eg q l st a b a' b' wb wp YG n fr st2/\∃(pv:Nat) (h:Int),a'<=pv/\pv<b'/\fr 13=i pv/\fr 14=i h
end Aw.CR
theorem oI:(∀ ⦃NQ:FuncId⦄ ⦃cY:List LV⦄ ⦃eg:Int->Ed⦄ ⦃Dm:Int->Prop⦄ (hC:fF NQ cY eg Dm) (Z:Nat),
 ∀(l:List Int) (q a b YG:Nat) (st:St),(∀ x∈l,Dm x)->l.length<65536->a<=b->b<=l.length->b-a<Z->fV l a b->YG<1000000->q<st.next->st.H q=(nW eg l)->
 aB prog 188 [.ms q 0 l.length,i a,i b,i YG,.fn (.func NQ) cY] st fun r st'=>∃ c,st'.H q=(nW eg c)/\Pm a b l c/\Srt a b c/\bK q st st')/\(∀ ⦃NQ:FuncId⦄ ⦃cY:List LV⦄ ⦃eg:Rw⦄ ⦃Dm:Int->Prop⦄ (hC:fF NQ cY eg Dm) (Z:Nat),
 ∀(l:List Int) (q a b YG:Nat) (st:St),(∀ x∈l,Dm x)->l.length<65536->a<=b->b<=l.length->b-a<Z->fV l a b->YG<1000000->q<st.next->st.H q=(nW eg l)->
 aB prog 105 [.ms q 0 l.length,i a,i b,i YG,.fn (.func NQ) cY] st fun r st'=>∃ c,st'.H q=(nW eg c)/\Pm a b l c/\Srt a b c/\bK q st st'):=by
 refine⟨?_,?_⟩
 all_goals
  intro NQ cY eg Dm hC Z;induction Z with
  |zero=>intro l q a b YG st _ _ _ _ h;omega
  |succ Z ih=>
  intro l q a b YG st hD hl YA hb hZ hah hlim Zv hH;have ZZ:small l:=by unfold small;omega
  first|(have _:Int->Ed:=eg;refine zN func188 ntmps188 [] ?_)|refine zN func105 ntmps105 [] ?_
  (repeat' (first|apply qS|apply qB|(refine zE ?_;intro J hJ;simp[];refine zJ hJ ?_)))
  refine qL (fun z fr st2=>∃(a' b' YG:Nat) (wb wp:Bool) (n:LV),a<=a'/\a'<=b'/\b'<=b/\z=b' - a'/\PdI NQ cY eg q l st a b a' b' wb wp YG 0 (upd fr 12 (i (0:Nat))) st2) (b-a) ?_ ?_
  .refine⟨a,b,YG,true,true,.nil,oO,oO,oO,rfl,?_⟩;exact PdI.mk sS sS sS sS sS sS sS hlim Zv (.refl _ _) hH .refl hah fun d h1 h2=>h2
  rintro z fr st2 ⟨a',b',YG,wb,wp,-,ha1,ha2,c7,rfl,⟨f0,fC⟩,f1,f2,f3,f8,f9,-,r9,YE,YU,c,hc,Xi,YO,Xp⟩ JJ hJJ;rw[vQ,aAa oO]at f0 fC f1 f2 f3 f8 f9;have Xk:=Xi.len;have y9:=cQ hD Xi;have Yd:small c:=by unfold small;omega
  obtain⟨n,hn⟩:∃ n:Nat,n=b' - a':=⟨_,rfl⟩;have w1:IntKind.i64.wrap ((b':Int)-(a':Int))=(n:Int):=zW;apply qB
  (repeat' (first|apply qS|(refine zE ?_;intro J hJ;simp[f1,f2,w1];refine zJ hJ ?_)))
  by_cases hn12:(n:Int)<=12
  .clear hJJ;apply qC;simp[hn12]
   (repeat' (first|apply qS|(refine zE ?_;intro J hJ;simp[f0,fC,f1,f2])))
   refine qE (insertionSort hC c q a' b' st2 (by first|assumption|exact cQ hD ‹Pm _ _ l c›) Yd oO oO hc) (by simp[f0,fC,f1,f2,Xk]) ?_;rintro r st' ⟨d,rfl,k1,k2⟩
   (repeat' (first|(refine qR (zZ ?_);simp[])|(apply aD;simp[];refine zJ hJ ?_)))
   exact⟨d,rfl,Xi.trans (k1.wide oO oO oO),Xp d k1 k2,YU.set _⟩
  apply qC;simp[hn12]
  (repeat' (first|apply qS|refine qK (zZ ?_)|(refine zE ?_;intro J hJ;simp[f3];refine zJ hJ ?_)))
  by_cases v7:YG=0
  .clear hJJ;apply qC;simp[v7]
   (repeat' (first|apply qS|(refine zE ?_;intro J hJ;simp[f0,fC,f1,f2])))
   refine qE (tG hC c q a' b' st2 (by first|assumption|exact cQ hD ‹Pm _ _ l c›) Yd oO oO hc) (by simp[f0,fC,f1,f2,Xk]) ?_;rintro r st' ⟨d,rfl,k1,k2⟩
   (repeat' (first|(refine qR (zZ ?_);simp[])|(apply aD;simp[];refine zJ hJ ?_)))
   exact⟨d,rfl,Xi.trans (k1.wide oO oO oO),Xp d k1 k2,YU.set _⟩
  apply qC;simp[v7];refine qK (zZ ?_);apply qS;refine bB (PdJ NQ cY eg q l st a b a' b' wb wp n) ?_ ?_
  .clear hJJ;cases wb
   ·(repeat' (first|apply qS|(apply qC;simp[f0,fC,f1,f2,f8])|(refine zE ?_;intro J hJ;simp[f0,fC,f1,f2,f8];(try refine zJ hJ ?_))))
    refine qE (iM hC c q a' b' st2 (by first|assumption|exact cQ hD ‹Pm _ _ l c›) oO oO oO YE hc) (by simp[f0,fC,f1,f2,Xk]) ?_;rintro r st' ⟨d,k0,k1,k2⟩;have w2:=aH YG oO oO
    (repeat' ((first|(refine zE ?_;intro J hJ)|(apply aD));simp[f3,w2];refine zJ hJ ?_))
    refine⟨by trivial,?_⟩;exact⟨YG-1,PdI.mk (by simp[f0,fC]) (by simp[f1]) (by simp[f2]) sS (by simp[f8]) (by simp[f9]) sS oO (aAp YE k2.1) (YU.trans k2) k0 (Xi.trans (k1.wide oO oO oO)) (YO.pm k1) (Xp.pm k1)⟩
   ·(repeat' (first|apply qS|refine qK (zZ ?_)|(apply qC;simp[f8])|(refine zE ?_;intro J hJ;simp[f8];refine zJ hJ ?_)))
    refine⟨by trivial,?_⟩;exact⟨YG,PdI.mk (by simp[f0,fC]) (by simp[f1]) (by simp[f2]) (by simp[f3]) (by simp[f8]) (by simp[f9]) sS oO YE YU hc Xi YO Xp⟩
  clear f0 fC f1 f2 f3 f8 f9 r9 YE YU hc Xi YO Xp Xk y9 Yd c st2 fr v7 YG;rintro fr st2 ⟨YG,⟨f0,fC⟩,f1,f2,f3,f8,f9,f10,r9,YE,YU,c,hc,Xi,YO,Xp⟩;have Xk:=Xi.len;have y9:=cQ hD Xi;have Yd:small c:=by unfold small;omega
  apply qS
  (refine zE ?_;intro J hJ;simp[f0,fC,f1,f2])
  refine qE (lG hC c q a' b' st2 (by first|assumption|exact cQ hD ‹Pm _ _ l c›) Yd oO oO YE hc) (by simp[f0,fC,f1,f2,Xk]) ?_;rintro r st' ⟨pv,h,rfl,ZF,Zg,k0⟩;have x8:st'.H q=(nW eg c):=by rw[k0.H q YE];exact hc
  have U1:q<st'.next:=aAp YE k0.next;have V2:=YU.keeps k0;clear hc YE YU k0
  (apply aD;simp[];refine zJ hJ ?_)
  apply qS;refine bB (PdK NQ cY eg q l st a b a' b' wb wp n) ?_ ?_
  .clear hJJ;by_cases hh:h=2
   ·(repeat' (first|apply qS|(apply qC;simp[hh,f0,fC,f1,f2])|(refine zE ?_;intro J hJ;simp[hh,f0,fC,f1,f2];(try refine zJ hJ ?_))))
    refine qE (jJ hC c q a' b' st' (by first|assumption|exact cQ hD ‹Pm _ _ l c›) Yd oO oO oO x8) (by simp[f0,fC,f1,f2,Xk]) ?_;rintro r st' ⟨d,rfl,k1⟩;have w2:=aH b' oO oO;obtain⟨x1,hx1⟩:∃ x,x=b' - 1:=⟨_,rfl⟩;obtain⟨x2,Ys⟩:∃ x,x=pv-a':=⟨_,rfl⟩;obtain⟨x3,hx3⟩:∃ x,x=x1-x2:=⟨_,rfl⟩;have w3:IntKind.i64.wrap ((pv:Int)-(a':Int))=(x2:Int):=zW;have w4:IntKind.i64.wrap ((x1:Int)-(x2:Int))=(x3:Int):=zW;rw[<- hx1]at w2
    (repeat' (first|apply qS|((first|(refine zE ?_;intro J hJ)|(apply aD));simp[f1,f2,w2,w3,w4];refine zJ hJ ?_)))
    refine⟨by trivial,?_⟩;exact⟨YG,PdI.mk (by simp[f0,fC]) (by simp[f1]) (by simp[f2]) (by simp[f3]) (by simp[f8]) (by simp[f9]) (by simp[f10]) oO U1 (V2.set _) sS (Xi.trans (k1.wide oO oO oO)) (YO.pm k1) (Xp.pm k1),x3,1,oO,oO,sS,sS⟩
   ·(repeat' (first|apply qS|refine qK (zZ ?_)|(apply qC;simp[hh])|(refine zE ?_;intro J hJ;simp[hh];refine zJ hJ ?_)))
    refine⟨by trivial,?_⟩;exact⟨YG,PdI.mk (by simp[f0,fC]) (by simp[f1]) (by simp[f2]) (by simp[f3]) (by simp[f8]) (by simp[f9]) (by simp[f10]) oO U1 V2 x8 Xi YO Xp,pv,h,oO,oO,sS,sS⟩
  clear f0 fC f1 f2 f3 f8 f9 f10 r9 U1 V2 x8 Xi YO Xp Xk y9 Yd c st2 fr YG h ZF Zg pv;rintro fr st2 ⟨YG,⟨⟨f0,fC⟩,f1,f2,f3,f8,f9,f10,r9,YE,YU,c,hc,Xi,YO,Xp⟩,pv,h,ZF,Zg,f11,f12⟩;have Xk:=Xi.len;have y9:=cQ hD Xi;have Yd:small c:=by unfold small;omega
  apply qS;refine Fy (PdK NQ cY eg q l st a b a' b' wb wp n) ?_ ?_
  .clear hJJ;cases wb
   ·(repeat' (first|apply qS|refine qK (zZ ?_)|(apply qC;simp[f8])|(refine zE ?_;intro J hJ;simp[f8];refine zJ hJ ?_)))
    refine .inl ⟨by trivial,?_⟩;exact⟨YG,PdI.mk (by simp[f0,fC]) (by simp[f1]) (by simp[f2]) (by simp[f3]) (by simp[f8]) (by simp[f9]) (by simp[f10]) oO YE YU hc Xi YO Xp,pv,h,oO,oO,by simp[f11],by simp[f12]⟩
   cases wp
   ·(repeat' (first|apply qS|refine qK (zZ ?_)|(apply qC;simp[f8,f9])|(refine zE ?_;intro J hJ;simp[f8,f9];refine zJ hJ ?_)))
    refine .inl ⟨by trivial,?_⟩;exact⟨YG,PdI.mk (by simp[f0,fC]) (by simp[f1]) (by simp[f2]) (by simp[f3]) (by simp[f8]) (by simp[f9]) (by simp[f10]) oO YE YU hc Xi YO Xp,pv,h,oO,oO,by simp[f11],by simp[f12]⟩
   by_cases hh:h=1;rotate_left
   ·(repeat' (first|apply qS|refine qK (zZ ?_)|(apply qC;simp[f8,f9,f12,hh])|(refine zE ?_;intro J hJ;simp[f8,f9,f12,hh];refine zJ hJ ?_)))
    refine .inl ⟨by trivial,?_⟩;exact⟨YG,PdI.mk (by simp[f0,fC]) (by simp[f1]) (by simp[f2]) (by simp[f3]) (by simp[f8]) (by simp[f9]) (by simp[f10]) oO YE YU hc Xi YO Xp,pv,h,oO,oO,by simp[f11],by simp[f12]⟩
   (repeat' (first|apply qS|(apply qC;simp[f8,f9,f12,hh,f0,fC,f1,f2])|(refine zE ?_;intro J hJ;simp[f8,f9,f12,hh,f0,fC,f1,f2];(try refine zJ hJ ?_))))
   refine qE (dF hC c q a' b' st2 (by first|assumption|exact cQ hD ‹Pm _ _ l c›) Yd oO oO YO hc) (by simp[f0,fC,f1,f2,Xk]) ?_;rintro r st' ⟨d,p,rfl,rfl,k1,k2⟩;cases p
   ·(repeat' (first|refine qK (zZ ?_)|(apply qC;simp[])|(apply aD;simp[];refine zJ hJ ?_)))
    refine .inl ⟨by trivial,?_⟩;exact⟨YG,PdI.mk (by simp[f0,fC]) (by simp[f1]) (by simp[f2]) (by simp[f3]) (by simp[f8]) (by simp[f9]) (by simp[f10]) oO YE (YU.set _) sS (Xi.trans (k1.wide oO oO oO)) (YO.pm k1) (Xp.pm k1),pv,h,oO,oO,by simp[f11],by simp[f12]⟩
   ·(repeat' (first|(refine qR (zZ ?_);simp[])|(apply qC;simp[])|(apply aD;simp[];refine zJ hJ ?_)))
    exact⟨d,rfl,Xi.trans (k1.wide oO oO oO),Xp d k1 (k2 rfl),YU.set _⟩
  clear f0 fC f1 f2 f3 f8 f9 f10 f11 f12 r9 YE YU hc Xi YO Xp Xk y9 Yd c st2 fr YG h ZF Zg pv;rintro fr st2 ⟨YG,⟨⟨f0,fC⟩,f1,f2,f3,f8,f9,f10,r9,YE,YU,c,hc,Xi,YO,Xp⟩,pv,h,ZF,Zg,f11,f12⟩;have Xk:=Xi.len;have y9:=cQ hD Xi;have Yd:small c:=by unfold small;omega
  apply qS;refine HH (PdK NQ cY eg q l st a b a' b' wb wp n) ?_ ?_
  .by_cases h0:a'=0
   .clear hJJ;have S6:¬(0:Int)<(a':Int):=oO
    (repeat (apply qS));(refine zS [] [q] [0,2,4,6,8,10,12,14,16,18,20,22,24,27,28,30,32] ?_;intro J hJ;simp[f0,fC,f1,h0];refine zJ hJ ?_)
    (repeat' (first|refine qK (zZ ?_)|(apply qC;simp[])))
    refine .inl ⟨by trivial,?_⟩;exact⟨YG,PdI.mk (by simp[f0,fC]) (by simp[f1]) (by simp[f2]) (by simp[f3]) (by simp[f8]) (by simp[f9]) (by simp[f10]) oO  YE YU hc Xi YO Xp,pv,h,oO,oO,by simp[f11],by simp[f12]⟩
   have S6:0<a':=oO;have w2:=aH a' oO oO;have Xu:=aP eg c (a' - 1) oO;have YQ:=aP eg c pv oO;have K4:a' - 1<l.length:=oO;have O4:pv<l.length:=oO;have Zu:∀ j,a'<=j->j<b'->c.getD (a' - 1) 0<=c.getD j 0:=YO S6;generalize hx:c.getD (a' - 1) 0=x at *;generalize hy:c.getD pv 0=y at *
   (repeat (apply qS));(refine zS [] [q] [0,2,4,6,8,10,12,14,16,18,20,22,24,27,28,30,32] ?_;intro J hJ;simp[f0,fC,f1,f11,S6,w2,K4,O4,Xk,hc,Xu,YQ,aQ])
   refine aJ (hC.call x y _ (by first|assumption|(subst_vars;exact cC (by assumption) oO)) (by first|assumption|(subst_vars;exact cC (by assumption) oO))) ?_;rintro r s2 ⟨⟨nv,rfl,ZV⟩,rfl⟩;refine⟨fun _=>by simp,?_⟩;by_cases YH:x<y
   .clear hJJ
    (apply aV;simp[ZV,YH];refine zJ hJ ?_)
    (repeat' (first|refine qK (zZ ?_)|(apply qC;simp[])))
    refine .inl ⟨by trivial,?_⟩;exact⟨YG,PdI.mk (by simp[f0,fC]) (by simp[f1]) (by simp[f2]) (by simp[f3]) (by simp[f8]) (by simp[f9]) (by simp[f10]) oO  YE YU hc Xi YO Xp,pv,h,oO,oO,by simp[f11],by simp[f12]⟩
   (apply aV;simp[ZV,YH];refine zJ hJ ?_)
   (repeat' (first|apply qS|(apply qC;simp[f0,fC,f1,f2,f11])|(refine zE ?_;intro J hJ;simp[f0,fC,f1,f2,f11])))
   refine qE (gL hC c q a' b' pv _ (by first|assumption|exact cQ hD ‹Pm _ _ l c›) Yd oO oO ZF Zg hc) (by simp[f0,fC,f1,f2,f11,Xk]) ?_;rintro r st' ⟨d,YB,rfl,rfl,k1,k2,k3,k4⟩
   (repeat' (first|apply qS|refine qX (zZ ?_)|((first|(refine zE ?_;intro J hJ)|(apply aD));simp[];refine zJ hJ ?_)))
   refine .inr ⟨sS,?_⟩;refine hJJ (b' - YB) _ _ oO ⟨YB,b',YG,wb,wp,.nil,oO,oO,oO,rfl,?_⟩;rw[hy]at k4;refine PdI.mk (by simp[f0,fC]) sS (by simp[f2]) (by simp[f3]) (by simp[f8]) (by simp[f9]) sS oO YE (YU.set _) sS (Xi.trans (k1.wide oO oO oO)) ?_ ?_
   .intro _ j g1 g2;have e1:=k4.1 (YB-1) oO oO;have e2:=k4.2 j g1 g2;omega
   .intro e g1 g2;refine Xp e (k1.trans (g1.wide oO oO (by have:=k1.len;omega))) (KU k4 (fun j e1 e2=>?_) g1 g2);have:=k1.all (fun v=>x<=v) Zu j e1 oO;omega
  clear f0 fC f1 f2 f3 f8 f9 f10 f11 f12 r9 YE YU hc Xi YO Xp Xk y9 Yd c st2 fr YG h ZF Zg pv;rintro fr st2 ⟨YG,⟨⟨f0,fC⟩,f1,f2,f3,f8,f9,f10,r9,YE,YU,c,hc,Xi,YO,Xp⟩,pv,h,ZF,Zg,f11,f12⟩;have Xk:=Xi.len;have y9:=cQ hD Xi;have Yd:small c:=by unfold small;omega
  (repeat' (first|apply qS|(refine zE ?_;intro J hJ;simp[f0,fC,f1,f2,f11])))
  refine qE (partition hC c q a' b' pv _ (by first|assumption|exact cQ hD ‹Pm _ _ l c›) Yd oO oO ZF Zg hc) (by simp[f0,fC,f1,f2,f11,Xk]) ?_;rintro r st' ⟨d,YB,p,rfl,rfl,k1,k2,k3,k4⟩;have u6:=k1.len;have k4:cA d a' YB b':=k4;have hpm':=Xi.trans (k1.wide ha1 c7 oO);have hah':=YO.pm k1;have Q0:=Xp.pm k1;have hof':=YU.set (q:=q) ((nW eg d));have w3:IntKind.i64.wrap ((YB:Int)-(a':Int))=((YB-a':Nat):Int):=zW;have w4:IntKind.i64.wrap ((b':Int)-(YB:Int))=((b' - YB:Nat):Int):=zW;have w5:IntKind.i64.wrap ((n:Int) / 8)=((n / 8:Nat):Int):=by rw[show(n:Int) / 8=((n / 8:Nat):Int) from rfl];exact wrap_i64 _ oO oO
  obtain⟨z1,hz1⟩:∃ x:Nat,x=YB-a':=⟨_,rfl⟩;obtain⟨z2,hz2⟩:∃ x:Nat,x=b' - YB:=⟨_,rfl⟩;obtain⟨z3,hz3⟩:∃ x:Nat,x=n / 8:=⟨_,rfl⟩;obtain⟨m1,z7⟩:∃ x:Nat,x=YB+1:=⟨_,rfl⟩;rw[<- hz1]at w3;rw[<- hz2]at w4;rw[<- hz3]at w5;have w6:IntKind.i64.wrap ((YB:Int)+1)=(m1:Int):=by rw[qN YB oO,z7]
  clear hc Xi YO Xp YU
  (repeat' (first|apply qS|((first|(refine zE ?_;intro J hJ)|(apply aD));simp[f1,f2,f10,w3,w4,w5];refine zJ hJ ?_)))
  apply qC;by_cases hzz:z1<z2
  .simp[hzz]
   (repeat' (first|apply qS|(refine zE ?_;intro J hJ;simp[f0,fC,f1,f3];(try refine zJ hJ ?_))))
   refine qE (ih d q a' YB YG (bx eg st2 q d) (by first|assumption|exact cQ hD ‹Pm _ _ l d›) oO oO oO oO (hah'.less oO) oO YE sS) (by simp[f0,fC,f1,f2,f3,u6,Xk]) ?_;rintro r st' ⟨e,j0,j1,j2,j3⟩
   (repeat' ((first|(refine zE ?_;intro J hJ)|(apply aD));simp[w6];refine zJ hJ ?_))
   refine hJJ (b' - m1) _ _ oO ⟨m1,b',YG,decide (z3<=z1),p,.nil,oO,oO,oO,rfl,?_⟩;refine PdI.mk (by simp[f0,fC]) sS (by simp[f2]) (by simp[f3]) sS sS sS oO (aAp YE j3.1) (hof'.trans j3) j0 (hpm'.trans (j1.wide oO oO oO)) ?_ ?_
   .rw[z7];exact(k4.pmL j1).aheadR
   .intro y g1 g2;rw[z7]at g1 g2;refine Q0 y ((j1.wide oO oO oO).trans (g1.wide oO oO (by have:=j1.len;omega))) (((k4.pmL j1).pmR g1).glue (Srt.out j2 fun j e1 e2=>g1.out j oO) g2)
  .simp[hzz]
   (repeat' (first|apply qS|(refine zE ?_;intro J hJ;simp[f0,fC,f2,f3,w6];(try refine zJ hJ ?_))))
   refine qE (ih d q m1 b' YG (bx eg st2 q d) (by first|assumption|exact cQ hD ‹Pm _ _ l d›) oO oO oO oO (by rw[z7];exact k4.aheadR) oO YE sS) (by simp[f0,fC,f1,f2,f3,u6,Xk]) ?_;rintro r st' ⟨e,j0,j1,j2,j3⟩
   (repeat' ((first|(refine zE ?_;intro J hJ)|(apply aD));simp[];refine zJ hJ ?_))
   rw[z7]at j1 j2;refine hJJ (YB-a') _ _ oO ⟨a',YB,YG,decide (z3<=z2),p,.nil,oO,oO,oO,rfl,?_⟩;refine PdI.mk (by simp[f0,fC]) (by simp[f1]) sS (by simp[f3]) sS sS sS oO (aAp YE j3.1) (hof'.trans j3) j0 (hpm'.trans (j1.wide oO oO oO)) ?_ ?_
   .exact(hah'.pm (j1.wide oO oO oO)).less oO
   .intro y g1 g2;refine Q0 y ((j1.wide oO oO oO).trans (g1.wide oO oO (by have:=j1.len;omega))) (((k4.pmR j1).pmL g1).glue g2 (Srt.out j2 fun j e1 e2=>g1.out j oO))
def Aw.CE.jP:=oI.1
def Aw.CR.jP:=oI.2
theorem HE:(∀ ⦃NQ:FuncId⦄ ⦃cY:List LV⦄ ⦃eg:Int->Ed⦄ ⦃Dm:Int->Prop⦄ (hC:fF NQ cY eg Dm) (l:List Int) (q:Nat) (st:St) (hD:∀ x∈l,Dm x) (hl:l.length<65536) (Zv:q<st.next) (hH:st.H q=(nW eg l)),
 aB prog 145 [.ms q 0 l.length,.fn (.func NQ) cY] st fun r st'=>∃ c,st'.H q=(nW eg c)/\c.Perm l/\c.Pairwise (·<=·)/\bK q st st')/\(∀ ⦃NQ:FuncId⦄ ⦃cY:List LV⦄ ⦃eg:Rw⦄ ⦃Dm:Int->Prop⦄ (hC:fF NQ cY eg Dm) (l:List Int) (q:Nat) (st:St) (hD:∀ x∈l,Dm x) (hl:l.length<65536) (Zv:q<st.next) (hH:st.H q=(nW eg l)),
 aB prog 71 [.ms q 0 l.length,.fn (.func NQ) cY] st fun r st'=>∃ c,st'.H q=(nW eg c)/\c.Perm l/\c.Pairwise (·<=·)/\bK q st st'):=by
 refine⟨?_,?_⟩
 all_goals
  intro NQ cY eg Dm hC l q st hD hl Zv hH;have w1:IntKind.u64.wrap (l.length:Int)=(l.length:Int):=wrap_u64 _ oO oO;have ZR:=(uU l.length oO).1
  first|(have _:Int->Ed:=eg;refine zN func145 ntmps145 [] ?_)|refine zN func71 ntmps71 [] ?_
  (repeat' (first|apply qS|(refine zE ?_;intro J hJ;simp[w1];(try refine zJ hJ ?_))))
  refine qF (Len l.length _ oO) ?_;rintro r st' ⟨rfl,rfl⟩
  (repeat' (apply aD;simp[]))
  refine qE (jP hC (l.length+1) l q 0 l.length (jO l.length) _ hD hl oO oO oO (fun h=>absurd h oO) oO Zv hH) (by simp[]) ?_;rintro r st' ⟨c,k1,k2,k3,k4⟩
  (repeat' (apply aD;simp[];refine zJ hJ ?_))
  have Xk:=k2.len;exact⟨trivial,c,k1,k2.perm,HF (by rw[Xk];exact k3),k4⟩
def Aw.CE.QI:=HE.1
def Aw.CR.QI:=HE.2
end Go.Proofs.YtempldclppogmaaGreatDoor
