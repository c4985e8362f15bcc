/- Lemmas. -/
import Derived.Test.YtbgngpdonpeboaaGreatDoorAwSet
set_option linter.defProp false
open Go.Proofs.Tryz
namespace Go.Proofs.YtbgngpdonpeboaaGreatDoor
namespace Aw
open Go Go.RowKit
def PC(k:Nat)(h:k+1<9223372036854775808):IntKind.i64.wrap ((k:Int)+1)=((k+1:Nat):Int):=by
 grind [IntKind.wrap,IntKind.bits]
@[simp] theorem OF(n:Nat):(n=n+1+1)=False:=by grind
@[simp] theorem Pd(n:Nat):(n=n+1+1+1)=False:=by grind
@[simp] theorem Pe(n:Nat):(n=n+1+1+1+1)=False:=by grind
@[simp] theorem PH(n:Nat):(n=n+1+1+1+1+1)=False:=by grind
def aV{N:Nat}{Q:AQ}{k:List iM}{a:ah}{c:St}{ra K b s:Nat}{A B:Array Oper}{body:Code}(f p o C n:Nat)(I:Nat->ah->St->Prop)
 (R:I 0 a c)
 (X:∀ j a c,j<n->I j a c->a f=i j->a p=i n->∀ J:ah->St->Prop,(∀ g d,g f=i j->g p=i n->I (j+1) (de (de g C (i (j+1:Nat))) f (i (j+1:Nat))) d->J g d)->bq prog N body (AK prog N Q (.blk s::.head J::.blk b::k)) (de a o (bb true)) c)
 (W:∀ a c,I n a c->AK prog N Q k .normal (de a o (bb false)) c)
 (hti:a f=i 0:=by simp) (htn:a p=i n:=by simp) (hn:n<9223372036854775807:=by first|omega|(unfold small at *;omega))
 (Tv:(f≠p/\f≠o)/\p≠o/\C≠p:=by decide)
 (S:∀(J:ah->St->Prop) (a:ah) (c:St) (j:Nat),a f=i j->a p=i n->J (de a o (bb (decide ((j:Int)<n)))) c->cV prog tab N A [] J A.toList a c:=by intro J a c j t l v;simp[t,l];simpa using v)
 (T:∀(J:ah->St->Prop) (a:ah) (c:St) (j:Nat),IntKind.i64.wrap ((j:Int)+1)=((j+1:Nat):Int)->a f=i j->J (de (de a C (i (j+1:Nat))) f (i (j+1:Nat))) c->cV prog tab N B [] J B.toList a c:=by intro J a c j t l v;simp[t,l];simpa using v)
 (y:dJ N A A.toList=true:=by exact rfl) (z:dJ N B B.toList=true:=by exact rfl):
 bq prog N (.loop (.seq (.region ra A false) (.seq (.cond (.tmp o) .skip (.exit b)) (.seq (.block s body) (.region K B false))))) (AK prog N Q (.blk b::k)) a c:=by
 obtain⟨⟨n1,n2⟩,n3,n4⟩:=Tv;refine qL (fun m a c=>∃ j:Nat,j<=n/\m=n-j/\I j a c/\a f=i j/\a p=i n) n ⟨0,O,O,R,hti,htn⟩ ?_;rintro m a c ⟨j,hj,rfl,F,D,E⟩ J U;refine qS (nE oP [] y fun r q=>S r a c j D E (q _ _ ?_));rw[kO];refine qS (qC ?_);have V:aM (de a o (bb (decide ((j:Int)<n)))) (.tmp o)=bb (decide ((j:Int)<n)):=Y;rw[V,mY];refine⟨fun h=>qK ?_,fun h=>qX ?_⟩
 .have dS:j<n:=by have:=ov h;omega
  rw[kO,h];refine qS (qB ?_);have:=X j a c dS F D E (fun g d=>bq prog N (.region K B false) (AK prog N Q (.head J::.blk b::k)) g d) (fun g d M g2 P=>?_)
  .refine dR this ?_;intro e L st2 l;cases e with
   |normal=>simpa using l
   |exit x=>
    by_cases H:x=s
    .simpa[H]using l
    .simpa[H]using l
   |ret=>simpa using l
   |_=>grind [AK]
  .refine nE oP [] z fun r q=>T r g d j (PC j O) M (q _ _ ?_);rw[Gz];refine U (n-(j+1)) _ _ O ⟨j+1,O,rfl,P,Y,?_⟩
   grind [HB]
 .have w:j=n:=by have:=sy h;omega
  subst w;rw[h];simpa using W a c F
end Aw
end Go.Proofs.YtbgngpdonpeboaaGreatDoor
