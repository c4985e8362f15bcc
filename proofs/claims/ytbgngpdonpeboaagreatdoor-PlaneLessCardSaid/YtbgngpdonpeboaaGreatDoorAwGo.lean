/- A scope in which the run jumps back to one label. -/
import Derived.Test.YtbgngpdonpeboaaGreatDoorAwSet
import Derived.ScopeJumps
set_option linter.defProp false
set_option linter.unusedVariables false
set_option linter.unusedSimpArgs false
namespace Go.Proofs.YtbgngpdonpeboaaGreatDoor
namespace Aw
open Go Go.RowKit
def Og(p:Nat->Prop):∀ n,p n->∃ m,p m/\∀ i,p i->m<=i:=by
 intro n;induction n using Nat.strongRecOn with
 |ind n ih=>
  grind
section
variable {P:Program}
open Classical in
theorem GK{a:Act}{w:World}{Q:Exit->Act->World->Prop}{c rest:Code}(l:Nat)(J:Nat->Act->World->Prop)(hf:findLabel c l=some rest)
 (first:c.wp P (Exit.jump l (fun a w=>∃ n,J n a w) Q) a w)
 (pass:∀ n a w,J n a w->rest.wp P (Exit.jump l (fun b g=>∃ m,m<n/\J m b g) Q) a w):(Code.scope c).wp P Q a w:=by
 have f:∀ a w,∃ m,(∃ n,J n a w)->J m a w/\∀ i,J i a w->m<=i:=fun a w=>by
  by_cases h:∃ n,J n a w
  .obtain⟨n,o⟩:=h;obtain⟨m,j,q⟩:=Og (fun n=>J n a w) n o
   grind
  simp_all
 refine wp_scope_jumps l (fun a w=>∃ n,J n a w) (fun a w=>Classical.choose (f a w)) hf first fun a w h=>?_
 have j:=yk (f a w) h;refine Code.wp_mono (fun e b g p=>?_) (pass _ a w j.1);cases e with
 |goto l'=>obtain⟨e,m,k,d⟩:=p;exact⟨e,⟨m,d⟩,Nat.lt_of_le_of_lt ((yk (f b g) ⟨m,d⟩).2 _ d) k⟩
 |_=>exact p
variable {N:Nat} {Q:AQ} {k:List gQ} {fr:af} {st:St}
def GQ(P:Program)(N:Nat)(l:Nat)(J:af->St->Prop)(Q:AQ)(k:List gQ):AQ
 |.goto l',fr,st=>l'=l/\J fr st
 |e,fr,st=>AK P N Q k e fr st
theorem GA{l:Nat}{J:af->St->Prop}:GQ P N l J Q k (.goto l) fr st=J fr st:=by simp[GQ]
theorem Xv{l:Nat}{J:af->St->Prop}:GQ P N l J Q k .ret fr st=AK P N Q k .ret fr st:=rfl
theorem NM{l:Nat}{J:af->St->Prop}:GQ P N l J Q k .normal fr st=AK P N Q k .normal fr st:=rfl
theorem Ux{l i:Nat}{J:af->St->Prop}:GQ P N l J Q k (.exit i) fr st=AK P N Q k (.exit i) fr st:=rfl
theorem oG(c:Code)(l:Nat):AK P N Q (.code c::k) (.goto l) fr st=AK P N Q k (.goto l) fr st:=rfl
theorem rH(id l:Nat):AK P N Q (.blk id::k) (.goto l) fr st=AK P N Q k (.goto l) fr st:=rfl
theorem nZ(J:af->St->Prop)(l:Nat):AK P N Q (.head J::k) (.goto l) fr st=AK P N Q k (.goto l) fr st:=rfl
theorem HZ{l:Nat}(h:AK P N Q k (.goto l) fr st):bq P N (.goto l) (AK P N Q k) fr st:=
 fun _ w g b c d a=>wp_goto ⟨fr,st,g,h,b,c,d,a,Ext.refl w g⟩
theorem CN{c:Code}(rest:Code)(l:Nat)(I:Nat->af->St->Prop)(hf:findLabel c l=some rest)
 (first:bq P N c (AK P N (GQ P N l (fun fr st=>∃ n,I n fr st) Q k) []) fr st)
 (pass:∀ n fr st,I n fr st->∀ J:af->St->Prop,(∀ m UK b,m<n->I m UK b->J UK b)->bq P N rest (AK P N (GQ P N l J Q k) []) fr st):
 bq P N (.scope c) (AK P N Q k) fr st:=by
 intro a w g E F H D;refine GK l (fun n f h=>∃ fr st d,I n fr st/\Inv h d st/\dY h d f fr/\f.tmps.size=N/\f.defers=[]/\Ext w g h d) hf ?_ ?_
 .refine Code.wp_mono (fun e f h p=>?_) (first a w g E F H D);cases e with
  |goto l'=>obtain⟨UK,b,d,⟨e,n,t⟩,r⟩:=p;exact⟨e,n,UK,b,d,t,r⟩
  |_=>exact p
 .rintro n A K ⟨j,y,B,C,q,v,x,L,z⟩;refine Code.wp_mono (fun e f h p=>?_) (pass n j y C (fun UK b=>∃ m,m<n/\I m UK b) (fun m UK b s o=>⟨m,s,o⟩) A K B q v x L);cases e with
  |goto l'=>obtain⟨UK,b,d,⟨e,m,s,t⟩,K7,P8,T0,O9,he'⟩:=p;exact⟨e,m,s,UK,b,d,t,K7,P8,T0,O9,z.trans he'⟩
  |_=>exact lB.pre z p
end
end Aw
end Go.Proofs.YtbgngpdonpeboaaGreatDoor
