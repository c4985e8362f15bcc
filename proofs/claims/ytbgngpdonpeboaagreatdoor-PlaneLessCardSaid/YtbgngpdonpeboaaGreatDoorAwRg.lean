/- Loops that count from 0 up to a length. -/
import Derived.Test.YtbgngpdonpeboaaGreatDoorAwSet
set_option linter.defProp false
set_option linter.unusedVariables false
set_option linter.unusedSimpArgs false
open Go.Proofs.Tryz
namespace Go.Proofs.YtbgngpdonpeboaaGreatDoor
namespace Aw
open Go Go.RowKit
def PE(k:Nat)(h:k+1<9223372036854775808):IntKind.i64.wrap ((k:Int)+1)=((k+1:Nat):Int):=by
 grind [IntKind.wrap,IntKind.bits]
@[simp] theorem zx(n:Nat):(n=n+1+1)=False:=by grind
@[simp] theorem zy(n:Nat):(n=n+1+1+1)=False:=by grind
@[simp] theorem AC(n:Nat):(n=n+1+1+1+1)=False:=by grind
@[simp] theorem AI(n:Nat):(n=n+1+1+1+1+1)=False:=by grind
def bH{N:Nat}{Q:AQ}{k:List gQ}{a:af}{c:St}{X H b r:Nat}{A B:Array Oper}{body:Code}(f o l z n:Nat)(I:Nat->af->St->Prop)
 (P:I 0 a c)
 (W:∀ j a c,j<n->I j a c->a f=i j->a o=i n->∀ J:af->St->Prop,(∀ UK d,UK f=i j->UK o=i n->I (j+1) (cY (cY UK z (i (j+1:Nat))) f (i (j+1:Nat))) d->J UK d)->bq prog N body (AK prog N Q (.blk r::.head J::.blk b::k)) (cY a l (bb true)) c)
 (V:∀ a c,I n a c->AK prog N Q k .normal (cY a l (bb false)) c)
 (hti:a f=i 0:=by simp) (htn:a o=i n:=by simp) (hn:n<9223372036854775807:=by first|omega|(unfold small at *;omega))
 (K:(f≠o/\f≠l)/\o≠l/\z≠o:=by decide)
 (R:∀(J:af->St->Prop) (a:af) (c:St) (j:Nat),a f=i j->a o=i n->J (cY a l (bb (decide ((j:Int)<n)))) c->cG prog tab N A [] J A.toList a c:=by intro J a c j s g t;simp[s,g];simpa using t)
 (S:∀(J:af->St->Prop) (a:af) (c:St) (j:Nat),IntKind.i64.wrap ((j:Int)+1)=((j+1:Nat):Int)->a f=i j->J (cY (cY a z (i (j+1:Nat))) f (i (j+1:Nat))) c->cG prog tab N B [] J B.toList a c:=by intro J a c j s g t;simp[s,g];simpa using t)
 (w:cR N A A.toList=true:=by exact rfl) (y:cR N B B.toList=true:=by exact rfl):
 bq prog N (.loop (.seq (.region X A false) (.seq (.cond (.tmp l) .skip (.exit b)) (.seq (.block r body) (.region H B false))))) (AK prog N Q (.blk b::k)) a c:=by
 obtain⟨⟨n1,n2⟩,n3,n4⟩:=K;refine qL (fun m a c=>∃ j:Nat,j<=n/\m=n-j/\I j a c/\a f=i j/\a o=i n) n ⟨0,oO,oO,P,hti,htn⟩ ?_;rintro m a c ⟨j,hj,rfl,E,C,D⟩ J T;refine qS (lS lV [] w fun q p=>R q a c j C D (p _ _ ?_));rw[jG];refine qS (qC ?_);have U:aI (cY a l (bb (decide ((j:Int)<n)))) (.tmp l)=bb (decide ((j:Int)<n)):=sS;rw[U,lF];refine⟨fun h=>qK ?_,fun h=>qX ?_⟩
 .have dF:j<n:=by have:=nj h;omega
  rw[jG,h];refine qS (qB ?_);have:=W j a c dF E C D (fun UK d=>bq prog N (.region H B false) (AK prog N Q (.head J::.blk b::k)) UK d) (fun UK d M Z O=>?_)
  .refine dG this ?_;intro e L Y g;cases e with
   |normal=>simpa using g
   |exit x=>
    by_cases F:x=r
    .simpa[F]using g
    .simpa[F]using g
   |ret=>simpa using g
   |_=>grind [AK]
  .refine lS lV [] y fun q p=>S q UK d j (PE j oO) M (p _ _ ?_);rw[GX];refine T (n-(j+1)) _ _ oO ⟨j+1,oO,rfl,O,sS,?_⟩
   grind [Eb]
 .have v:j=n:=by have:=qp h;omega
  subst v;rw[h];simpa using V a c E
end Aw
end Go.Proofs.YtbgngpdonpeboaaGreatDoor
