/- Loops that count from 0 up to a length. -/
import Derived.Test.YtbgngpdonpeboaaGreatDoorAwSet
set_option linter.unusedVariables false
set_option linter.unusedSimpArgs false
open Go.Proofs.Tryz
namespace Go.Proofs.YtbgngpdonpeboaaGreatDoor
namespace Aw
open Go Go.RowKit
theorem xF(k:Nat)(h:k+1<9223372036854775808):IntKind.i64.wrap ((k:Int)+1)=((k+1:Nat):Int):=by
 grind [IntKind.wrap,IntKind.bits]
@[simp] theorem nn2(n:Nat):(n=n+1+1)=False:=by grind
@[simp] theorem nn3(n:Nat):(n=n+1+1+1)=False:=by grind
@[simp] theorem nn4(n:Nat):(n=n+1+1+1+1)=False:=by grind
@[simp] theorem nn5(n:Nat):(n=n+1+1+1+1+1)=False:=by grind
theorem aY{N:Nat}{Q:AQ}{k:List gO}{fr:Frm}{st:St}{ra rb b b2:Nat}{A B:Array Oper}{body:Code}(ti tn tc ta n:Nat)(I:Nat->Frm->St->Prop)
 (h0:I 0 fr st)
 (hs:∀ j fr st,j<n->I j fr st->fr ti=i j->fr tn=i n->∀ J:Frm->St->Prop,(∀ c8 st',c8 ti=i j->c8 tn=i n->I (j+1) (upd (upd c8 ta (i (j+1:Nat))) ti (i (j+1:Nat))) st'->J c8 st')->AWp prog N body (AK prog N Q (.blk b2::.head J::.blk b::k)) (upd fr tc (bb true)) st)
 (he:∀ fr st,I n fr st->AK prog N Q k .normal (upd fr tc (bb false)) st)
 (hti:fr ti=i 0:=by simp) (htn:fr tn=i n:=by simp) (hn:n<9223372036854775807:=by first|omega|(unfold small at *;omega))
 (c7:(ti≠tn/\ti≠tc)/\tn≠tc/\ta≠tn:=by decide)
 (hA:∀(J:Frm->St->Prop) (fr:Frm) (st:St) (j:Nat),fr ti=i j->fr tn=i n->J (upd fr tc (bb (decide ((j:Int)<n)))) st->cM prog tab N A [] J A.toList fr st:=by intro J fr st j h1 h2 h3;simp[h1,h2];simpa using h3)
 (hB:∀(J:Frm->St->Prop) (fr:Frm) (st:St) (j:Nat),IntKind.i64.wrap ((j:Int)+1)=((j+1:Nat):Int)->fr ti=i j->J (upd (upd fr ta (i (j+1:Nat))) ti (i (j+1:Nat))) st->cM prog tab N B [] J B.toList fr st:=by intro J fr st j h1 h2 h3;simp[h1,h2];simpa using h3)
 (hkA:cV N A A.toList=true:=by exact rfl) (hkB:cV N B B.toList=true:=by exact rfl):
 AWp prog N (.loop (.seq (.region ra A false) (.seq (.cond (.tmp tc) .skip (.exit b)) (.seq (.block b2 body) (.region rb B false))))) (AK prog N Q (.blk b::k)) fr st:=by
 obtain⟨⟨n1,n2⟩,n3,n4⟩:=c7;refine qL (fun m fr st=>∃ j:Nat,j<=n/\m=n-j/\I j fr st/\fr ti=i j/\fr tn=i n) n ⟨0,oO,oO,h0,hti,htn⟩ ?_;rintro m fr st ⟨j,hj,rfl,hI,f1,f2⟩ J hJ;refine qS (mO nK [] hkA fun J1 hJ1=>hA J1 fr st j f1 f2 (hJ1 _ _ ?_));rw[jK];refine qS (qC ?_);have hc:aH (upd fr tc (bb (decide ((j:Int)<n)))) (.tmp tc)=bb (decide ((j:Int)<n)):=sS;rw[hc,lN];refine⟨fun h=>qK ?_,fun h=>qX ?_⟩
 .have dA:j<n:=by have:=aCl h;omega
  rw[jK,h];refine qS (qB ?_);have:=hs j fr st dA hI f1 f2 (fun c8 st'=>AWp prog N (.region rb B false) (AK prog N Q (.head J::.blk b::k)) c8 st') (fun c8 st' g1 g2 g3=>?_)
  .refine dD this ?_;intro e fr2 st2 h2;cases e with
   |normal=>simpa using h2
   |exit x=>
    by_cases hx:x=b2
    .simpa[hx]using h2
    .simpa[hx]using h2
   |ret=>simpa using h2
   |_=>grind [AK]
  .refine mO nK [] hkB fun J1 hJ1=>hB J1 c8 st' j (xF j oO) g1 (hJ1 _ _ ?_);rw[GX];refine hJ (n-(j+1)) _ _ oO ⟨j+1,oO,rfl,g3,sS,?_⟩
   grind [Eo]
 .have hjn:j=n:=by have:=aCV h;omega
  subst hjn;rw[h];simpa using he fr st hI
end Aw
end Go.Proofs.YtbgngpdonpeboaaGreatDoor
