/- A scope in which the run jumps back to one label. -/
import Derived.Test.YtbgngpdonpeboaaGreatDoorAwSet
import Derived.ScopeJumps
set_option linter.unusedVariables false
set_option linter.unusedSimpArgs false
namespace Go.Proofs.YtbgngpdonpeboaaGreatDoor
namespace Aw
open Go Go.RowKit
theorem Nf(p:Nat->Prop):∀ n,p n->∃ m,p m/\∀ i,p i->m<=i:=by
 intro n;induction n using Nat.strongRecOn with
 |ind n ih=>
  grind
section
variable {P:Program}
open Classical in
theorem GR{a:Act}{w:World}{Q:Exit->Act->World->Prop}{c rest:Code}(l:Nat)(J:Nat->Act->World->Prop)(hf:findLabel c l=some rest)
 (first:c.wp P (Exit.jump l (fun a w=>∃ n,J n a w) Q) a w)
 (pass:∀ n a w,J n a w->rest.wp P (Exit.jump l (fun a' w'=>∃ m,m<n/\J m a' w') Q) a w):(Code.scope c).wp P Q a w:=by
 have hl:∀ a w,∃ m,(∃ n,J n a w)->J m a w/\∀ i,J i a w->m<=i:=fun a w=>by
  by_cases h:∃ n,J n a w
  .obtain⟨n,hn⟩:=h;obtain⟨m,h1,h2⟩:=Nf (fun n=>J n a w) n hn
   grind
  simp_all
 refine wp_scope_jumps l (fun a w=>∃ n,J n a w) (fun a w=>Classical.choose (hl a w)) hf first fun a w h=>?_
 have h1:=aEt (hl a w) h;refine Code.wp_mono (fun e a' w' p=>?_) (pass _ a w h1.1);cases e with
 |goto l'=>obtain⟨e,m,hm,hJ⟩:=p;exact⟨e,⟨m,hJ⟩,Nat.lt_of_le_of_lt ((aEt (hl a' w') ⟨m,hJ⟩).2 _ hJ) hm⟩
 |_=>exact p
variable {N:Nat} {Q:AQ} {k:List gO} {fr:Frm} {st:St}
def GQ(P:Program)(N:Nat)(l:Nat)(J:Frm->St->Prop)(Q:AQ)(k:List gO):AQ
 |.goto l',fr,st=>l'=l/\J fr st
 |e,fr,st=>AK P N Q k e fr st
theorem Fg{l:Nat}{J:Frm->St->Prop}:GQ P N l J Q k (.goto l) fr st=J fr st:=by simp[GQ]
theorem XU{l:Nat}{J:Frm->St->Prop}:GQ P N l J Q k .ret fr st=AK P N Q k .ret fr st:=rfl
theorem ND{l:Nat}{J:Frm->St->Prop}:GQ P N l J Q k .normal fr st=AK P N Q k .normal fr st:=rfl
theorem Ux{l i:Nat}{J:Frm->St->Prop}:GQ P N l J Q k (.exit i) fr st=AK P N Q k (.exit i) fr st:=rfl
theorem oQ(c:Code)(l:Nat):AK P N Q (.code c::k) (.goto l) fr st=AK P N Q k (.goto l) fr st:=rfl
theorem qI(id l:Nat):AK P N Q (.blk id::k) (.goto l) fr st=AK P N Q k (.goto l) fr st:=rfl
theorem oN(J:Frm->St->Prop)(l:Nat):AK P N Q (.head J::k) (.goto l) fr st=AK P N Q k (.goto l) fr st:=rfl
theorem HI{l:Nat}(h:AK P N Q k (.goto l) fr st):AWp P N (.goto l) (AK P N Q k) fr st:=
 fun _ w g hi hr hs hd=>wp_goto ⟨fr,st,g,h,hi,hr,hs,hd,Ext.refl w g⟩
theorem Av{c:Code}(rest:Code)(l:Nat)(I:Nat->Frm->St->Prop)(hf:findLabel c l=some rest)
 (first:AWp P N c (AK P N (GQ P N l (fun fr st=>∃ n,I n fr st) Q k) []) fr st)
 (pass:∀ n fr st,I n fr st->∀ J:Frm->St->Prop,(∀ m c8 st',m<n->I m c8 st'->J c8 st')->AWp P N rest (AK P N (GQ P N l J Q k) []) fr st):
 AWp P N (.scope c) (AK P N Q k) fr st:=by
 intro a w g hi hr hs hd;refine GR l (fun n a' w'=>∃ fr st g',I n fr st/\Inv w' g' st/\dX w' g' a' fr/\a'.tmps.size=N/\a'.defers=[]/\Ext w g w' g') hf ?_ ?_
 .refine Code.wp_mono (fun e a' w' p=>?_) (first a w g hi hr hs hd);cases e with
  |goto l'=>obtain⟨c8,st',g',⟨e,n,hn⟩,r⟩:=p;exact⟨e,n,c8,st',g',hn,r⟩
  |_=>exact p
 .rintro n a1 w1 ⟨fr1,st1,g1,hI,hi1,hr1,hs1,z7,Z8⟩;refine Code.wp_mono (fun e a' w' p=>?_) (pass n fr1 st1 hI (fun c8 st'=>∃ m,m<n/\I m c8 st') (fun m c8 st' hm hI'=>⟨m,hm,hI'⟩) a1 w1 g1 hi1 hr1 hs1 z7);cases e with
  |goto l'=>obtain⟨c8,st',g',⟨e,m,hm,hn⟩,M4,T0,hs',Q6,he'⟩:=p;exact⟨e,m,hm,c8,st',g',hn,M4,T0,hs',Q6,Z8.trans he'⟩
  |_=>exact lU.pre Z8 p
end
end Aw
end Go.Proofs.YtbgngpdonpeboaaGreatDoor
