/- A scope in which the run jumps back to one label. -/
import Derived.Test.YtempldclppogmaaGreatDoorAwSet
import Derived.ScopeJumps
set_option linter.unusedVariables false
set_option linter.unusedSimpArgs false
namespace Go.Proofs.YtempldclppogmaaGreatDoor
namespace Aw
open Go Go.RowKit
theorem DO(p:Nat->Prop):∀ n,p n->∃ m,p m/\∀ i,p i->m<=i:=by
 intro n;induction n using Nat.strongRecOn with
 |ind n ih=>
  intro h;by_cases hx:∃ i,p i/\i<n
  .obtain⟨i,h1,h2⟩:=hx;exact ih i h2 h1
  .exact⟨n,h,fun i hi=>Nat.le_of_not_lt fun GD=>hx ⟨i,hi,GD⟩⟩
section
variable {P:Program}
open Classical in
theorem EN{a:Act}{w:World}{Q:Exit->Act->World->Prop}{c rest:Code}(l:Nat)(J:Nat->Act->World->Prop)(hf:findLabel c l=some rest)
 (first:c.wp P (Exit.jump l (fun a w=>∃ n,J n a w) Q) a w)
 (pass:∀ n a w,J n a w->rest.wp P (Exit.jump l (fun a' w'=>∃ m,m<n/\J m a' w') Q) a w):(Code.scope c).wp P Q a w:=by
 have hl:∀ a w,∃ m,(∃ n,J n a w)->J m a w/\∀ i,J i a w->m<=i:=fun a w=>by
  by_cases h:∃ n,J n a w
  .obtain⟨n,hn⟩:=h;obtain⟨m,h1,h2⟩:=DO (fun n=>J n a w) n hn;exact⟨m,fun _=>⟨h1,h2⟩⟩
  .exact⟨0,fun h'=>absurd h' h⟩
 refine wp_scope_jumps l (fun a w=>∃ n,J n a w) (fun a w=>Classical.choose (hl a w)) hf first fun a w h=>?_
 have h1:=aDK (hl a w) h;refine Code.wp_mono (fun e a' w' p=>?_) (pass _ a w h1.1);cases e with
 |goto l'=>obtain⟨e,m,hm,hJ⟩:=p;exact⟨e,⟨m,hJ⟩,Nat.lt_of_le_of_lt ((aDK (hl a' w') ⟨m,hJ⟩).2 _ hJ) hm⟩
 |_=>exact p
variable {N:Nat} {Q:AQ} {k:List fU} {fr:Frm} {st:St}
def GQ(P:Program)(N:Nat)(l:Nat)(J:Frm->St->Prop)(Q:AQ)(k:List fU):AQ
 |.goto l',fr,st=>l'=l/\J fr st
 |e,fr,st=>AK P N Q k e fr st
theorem qV{l:Nat}{J:Frm->St->Prop}:GQ P N l J Q k (.goto l) fr st=J fr st:=by simp[GQ]
theorem QX{l:Nat}{J:Frm->St->Prop}:GQ P N l J Q k .ret fr st=AK P N Q k .ret fr st:=rfl
theorem CY{l:Nat}{J:Frm->St->Prop}:GQ P N l J Q k .normal fr st=AK P N Q k .normal fr st:=rfl
theorem Ji{l i:Nat}{J:Frm->St->Prop}:GQ P N l J Q k (.exit i) fr st=AK P N Q k (.exit i) fr st:=rfl
theorem eW(c:Code)(l:Nat):AK P N Q (.code c::k) (.goto l) fr st=AK P N Q k (.goto l) fr st:=rfl
theorem fZ(id l:Nat):AK P N Q (.blk id::k) (.goto l) fr st=AK P N Q k (.goto l) fr st:=rfl
theorem eT(J:Frm->St->Prop)(l:Nat):AK P N Q (.head J::k) (.goto l) fr st=AK P N Q k (.goto l) fr st:=rfl
theorem uV{l:Nat}(h:AK P N Q k (.goto l) fr st):AWp P N (.goto l) (AK P N Q k) fr st:=
 fun _ w g hi hr hs hd=>wp_goto ⟨fr,st,g,h,hi,hr,hs,hd,Ext.refl w g⟩
theorem qP{c:Code}(rest:Code)(l:Nat)(I:Nat->Frm->St->Prop)(hf:findLabel c l=some rest)
 (first:AWp P N c (AK P N (GQ P N l (fun fr st=>∃ n,I n fr st) Q k) []) fr st)
 (pass:∀ n fr st,I n fr st->∀ J:Frm->St->Prop,(∀ m Xg st',m<n->I m Xg st'->J Xg st')->AWp P N rest (AK P N (GQ P N l J Q k) []) fr st):
 AWp P N (.scope c) (AK P N Q k) fr st:=by
 intro a w g hi hr hs hd;refine EN l (fun n a' w'=>∃ fr st g',I n fr st/\Inv w' g' st/\dN w' g' a' fr/\a'.tmps.size=N/\a'.defers=[]/\Ext w g w' g') hf ?_ ?_
 .refine Code.wp_mono (fun e a' w' p=>?_) (first a w g hi hr hs hd);cases e with
  |goto l'=>obtain⟨Xg,st',g',⟨e,n,hn⟩,r⟩:=p;exact⟨e,n,Xg,st',g',hn,r⟩
  |_=>exact p
 .rintro n a1 w1 ⟨fr1,Yy,g1,hI,O2,hr1,v5,Xn,J3⟩;refine Code.wp_mono (fun e a' w' p=>?_) (pass n fr1 Yy hI (fun Xg st'=>∃ m,m<n/\I m Xg st') (fun m Xg st' hm hI'=>⟨m,hm,hI'⟩) a1 w1 g1 O2 hr1 v5 Xn);cases e with
  |goto l'=>obtain⟨Xg,st',g',⟨e,m,hm,hn⟩,Yq,j5,I3,Zh,F8⟩:=p;exact⟨e,m,hm,Xg,st',g',hn,Yq,j5,I3,Zh,J3.trans F8⟩
  |_=>exact lI.pre J3 p
end
end Aw
end Go.Proofs.YtempldclppogmaaGreatDoor
