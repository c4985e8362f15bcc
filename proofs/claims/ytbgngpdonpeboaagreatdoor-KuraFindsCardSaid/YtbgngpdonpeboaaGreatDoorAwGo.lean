/- Lemmas. -/
import Derived.Test.YtbgngpdonpeboaaGreatDoorAwSet
import Derived.ScopeJumps
set_option linter.defProp false
namespace Go.Proofs.YtbgngpdonpeboaaGreatDoor
namespace Aw
open Go Go.RowKit
def Oz(p:Nat->Prop):∀ n,p n->∃ m,p m/\∀ i,p i->m<=i:=by
 intro n;induction n using Nat.strongRecOn with
 |ind n ih=>
  grind
section
variable {P:Program}
open Classical in
theorem Gq{a:Act}{w:World}{Q:Exit->Act->World->Prop}{c rest:Code}(l:Nat)(J:Nat->Act->World->Prop)(hf:findLabel c l=some rest)
 (first:c.wp P (Exit.jump l (fun a w=>∃ n,J n a w) Q) a w)
 (pass:∀ n a w,J n a w->rest.wp P (Exit.jump l (fun b g=>∃ m,m<n/\J m b g) Q) a w):(Code.scope c).wp P Q a w:=by
 have f:∀ a w,∃ m,(∃ n,J n a w)->J m a w/\∀ i,J i a w->m<=i:=fun a w=>by
  by_cases h:∃ n,J n a w
  .obtain⟨n,o⟩:=h;obtain⟨m,j,q⟩:=Oz (fun n=>J n a w) n o
   grind
  simp_all
 refine wp_scope_jumps l (fun a w=>∃ n,J n a w) (fun a w=>Classical.choose (f a w)) hf first fun a w h=>?_
 have j:=D1 (f a w) h;refine Code.wp_mono (fun e b g p=>?_) (pass _ a w j.1);cases e with
 |goto l'=>obtain⟨e,m,k,d⟩:=p;exact⟨e,⟨m,d⟩,Nat.lt_of_le_of_lt ((D1 (f b g) ⟨m,d⟩).2 _ d) k⟩
 |_=>exact p
variable {N:Nat} {Q:AQ} {k:List iM} {fr:ah} {st:St}
def GQ(P:Program)(N:Nat)(l:Nat)(J:ah->St->Prop)(Q:AQ)(k:List iM):AQ
 |.goto l',fr,st=>l'=l/\J fr st
 |e,fr,st=>AK P N Q k e fr st
theorem GC{l:Nat}{J:ah->St->Prop}:GQ P N l J Q k (.goto l) fr st=J fr st:=by simp[GQ]
theorem Zg{l:Nat}{J:ah->St->Prop}:GQ P N l J Q k .ret fr st=AK P N Q k .ret fr st:=rfl
theorem PK{l:Nat}{J:ah->St->Prop}:GQ P N l J Q k .normal fr st=AK P N Q k .normal fr st:=rfl
theorem Xa{l i:Nat}{J:ah->St->Prop}:GQ P N l J Q k (.exit i) fr st=AK P N Q k (.exit i) fr st:=rfl
theorem qQ(c:Code)(l:Nat):AK P N Q (.code c::k) (.goto l) fr st=AK P N Q k (.goto l) fr st:=rfl
theorem tN(id l:Nat):AK P N Q (.blk id::k) (.goto l) fr st=AK P N Q k (.goto l) fr st:=rfl
theorem rH(J:ah->St->Prop)(l:Nat):AK P N Q (.head J::k) (.goto l) fr st=AK P N Q k (.goto l) fr st:=rfl
theorem KC{l:Nat}(h:AK P N Q k (.goto l) fr st):bq P N (.goto l) (AK P N Q k) fr st:=
 fun _ w g b c d a=>wp_goto ⟨fr,st,g,h,b,c,d,a,Ext.refl w g⟩
theorem DL{c:Code}(rest:Code)(l:Nat)(I:Nat->ah->St->Prop)(hf:findLabel c l=some rest)
 (first:bq P N c (AK P N (GQ P N l (fun fr st=>∃ n,I n fr st) Q k) []) fr st)
 (pass:∀ n fr st,I n fr st->∀ J:ah->St->Prop,(∀ m d b,m<n->I m d b->J d b)->bq P N rest (AK P N (GQ P N l J Q k) []) fr st):
 bq P N (.scope c) (AK P N Q k) fr st:=by
 intro a w g F H K E;refine Gq l (fun n h o=>∃ fr st f,I n fr st/\Inv o f st/\eY o f h fr/\h.tmps.size=N/\h.defers=[]/\Ext w g o f) hf ?_ ?_
 .refine Code.wp_mono (fun e h o p=>?_) (first a w g F H K E);cases e with
  |goto l'=>obtain⟨d,b,f,⟨e,n,x⟩,r⟩:=p;exact⟨e,n,d,b,f,x,r⟩
  |_=>exact p
 .rintro n B L ⟨q,A,C,D,t,y,z,M,j⟩;refine Code.wp_mono (fun e h o p=>?_) (pass n q A D (fun d b=>∃ m,m<n/\I m d b) (fun m d b v s=>⟨m,v,s⟩) B L C t y z M);cases e with
  |goto l'=>obtain⟨d,b,f,⟨e,m,v,x⟩,hi',hr',hs',hd',he'⟩:=p;exact⟨e,m,v,d,b,f,x,hi',hr',hs',hd',j.trans he'⟩
  |_=>exact mP.pre j p
end
end Aw
end Go.Proofs.YtbgngpdonpeboaaGreatDoor
