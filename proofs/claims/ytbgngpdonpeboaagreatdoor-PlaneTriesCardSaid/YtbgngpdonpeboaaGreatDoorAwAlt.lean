/- Regions in which several operations that write may come first. -/
import Derived.Test.YtbgngpdonpeboaaGreatDoorAwSet
set_option linter.unusedVariables false
set_option linter.unusedSimpArgs false
open Go.Proofs.Tryz
namespace Go.Proofs.YtbgngpdonpeboaaGreatDoor
namespace Aw
open Go Go.RowKit
def LC(ops:Array Oper):List (Nat×Bool)->Array Bool->Bool
 |[],_=>true
 |(i,nd)::π,listed=>match ops[i]? with
  |some o=>(if aS o.op then(Region.ready .any ops listed).contains i&&Region.free .any ops listed i else Region.ready .any ops listed==[i])&&(!kH ops i||nd)&&LC ops π (listed.setIfInBounds i true)
  |none=>false
def marked:List (Nat×Bool)->Array Bool->Array Bool
 |[],listed=>listed
 |(i,_)::π,listed=>marked π (listed.setIfInBounds i true)
section
variable {P:Program} {T:Tab} {N:Nat} {ops:Array Oper} {M B:List Nat} {j9:St} {J:Frm->St->Prop}
theorem Im(n:Nat):∀(π:List (Nat×Bool)) (listed:Array Bool) (fr:Frm) (st:St),LC ops π listed=true->
 eE P T ops M B j9 (fun fr st=>jX P T ops M (SB B j9) J n (marked π listed) fr st) (pick ops π) fr st->jX P T ops M (SB B j9) J (π.length+n) listed fr st
 |[],listed,fr,st,_,h=>by grind [marked,pick,eE]
 |(i,nd)::π,listed,fr,st,hk,h=>by
  simp only[LC]at hk;cases ho:ops[i]? with
  |none=>grind
  |some o=>
   rw[ho]at hk;simp only[aAX]at hk;obtain⟨⟨j7,hnd⟩,hk⟩:=hk
   have ih:∀ fr st,eE P T ops M B j9 (fun fr st=>jX P T ops M (SB B j9) J n (marked π (listed.setIfInBounds i true)) fr st) (pick ops π) fr st->jX P T ops M (SB B j9) J (π.length+n) (listed.setIfInBounds i true) fr st:=
    fun fr st=>Im n π (listed.setIfInBounds i true) fr st hk
   have hpk:pick ops ((i,nd)::π)=(i,nd,o)::pick ops π:=by rw[sD];simp[ho]
   rw[hpk]at h;have hl:((i,nd)::π).length+n=(π.length+n)+1:=by simp;omega
   rw[hl];unfold eE at h;simp only[marked]at h;cases hq:aS o.op with
   |true=>
    simp only[hq,aBs,aAX]at j7 h;obtain⟨hrd,hfr⟩:=j7;cases hw:bB ops fr o.guard with
    |none=>grind
    |some b=>
     rw[hw]at h;cases b with
     |false=>exact iZ ho _ listed fr st (Region.free_spec ho hfr) (by grind) (.inr ⟨hw,rfl⟩) (h.2 rfl).1 hq (ih _ _ (h.2 rfl).2)
     |true=>
      obtain⟨hS,hpt,h1⟩:=h.1 rfl
      split at h1
      .rename_i r hr;refine iZ ho _ listed fr st (Region.free_spec ho hfr) (by grind) (.inl ⟨hw,hq,fun st' hS'=>?_⟩) hS hq (ih _ _ h1.2);refine⟨@bR.mk r.c r.v st' r.d,pF hq (fun l k hl=>?_) hr,h1.1,rfl,rfl⟩;rw[hl]at hpt;have hh:eW o.op=true:=FQ hl;rw[hS' hh l hpt,hS hh l hpt]
      grind
   |false=>
    simp only[hq,aBg,aBS]at j7 h;have hrd':Region.ready .any ops listed=[i]:=by simpa using j7
    refine⟨fun h0=>(by grind),fun j hj=>?_⟩;rw[hrd']at hj;obtain rfl:j=i:=by grind
    refine⟨o,ho,h.mono fun c8 st' hh=>⟨?_,ih _ _ hh.2⟩⟩
    grind [Kx]
def Mo(ops:Array Oper)(L:List (Nat×Bool))(listed:Array Bool):Bool:=
 (Region.ready .any ops listed==L.map (·.1))&&!L.isEmpty&&L.all fun p=>match ops[p.1]? with|some o=>!aS o.op&&(!kH ops p.1||p.2)|none=>false
theorem Gp(n:Nat)(L:List (Nat×Bool)){listed:Array Bool}{fr:Frm}{st:St}(hk:Mo ops L listed=true)
 (h:∀ p∈L,eE P T ops M B j9 (fun fr st=>jX P T ops M (SB B j9) J n (listed.setIfInBounds p.1 true) fr st) (pick ops [p]) fr st):jX P T ops M (SB B j9) J (n+1) listed fr st:=by
 simp only[Mo,aAX,aDV]at hk;obtain⟨⟨hrd,c7⟩,hall⟩:=hk;refine⟨fun h0=>?_,fun i hi=>?_⟩
 .rw[h0]at hrd;cases L with
  |nil=>grind
  |cons p L=>grind
 .rw[hrd]at hi;obtain⟨p,hp,rfl⟩:=aAi.1 hi;have h1:=h p hp;have h2:=aBJ.1 hall p hp;obtain⟨i,nd⟩:=p;simp only at h2 h1 ⊢;cases ho:ops[i]? with
  |none=>grind
  |some o=>
   rw[ho]at h2;simp only[aAX,Bool.not_eq_true']at h2;have hpk:pick ops [(i,nd)]=[(i,nd,o)]:=by rw[sD];simp[ho,Ig]
   rw[hpk]at h1;unfold eE at h1;simp only[h2.1]at h1;refine⟨o,rfl,h1.mono fun c8 st' hh=>⟨?_,by grind [eE]⟩⟩
   grind [Kx]
theorem eO{listed:Array Bool}{fr:Frm}{st:St}(h:J fr st)(hk:(Region.ready .any ops listed).isEmpty=true:=by kernel_rfl):jX P T ops M (SB B j9) J 0 listed fr st:=⟨by grind,h⟩
end
section
variable {N:Nat} {Q:AQ} {fr:Frm} {st:St} {id:Nat}
theorem w_a{ops:Array Oper}(M B:List Nat)(h:∀ J:Frm->St->Prop,(∀ fr st,Q .normal fr st->J fr st)->jX prog tab ops M (SB B st) J ops.size (Array.replicate ops.size false) fr st)(hm:prog.follows .mixedOrders=true:=by kernel_rfl)(hk:cV N ops ops.toList=true:=by exact rfl):AWp prog N (.region id ops true) Q fr st:=by intro a w g hi hr hs hd;refine wp_region_any hm ?_;have W5:Ext w g { w with drawn:=w.drawn+1 } g:=dU w g;exact oJ nK hk (fun _ _ h=>h) _ _ fr st a { w with drawn:=w.drawn+1 } g hi.drew (hr.mono W5) hs hd W5 (h (fun fr st=>Q .normal fr st) (fun _ _ h=>h))
theorem lG{ops:Array Oper}{M B:List Nat}{j9:St}{J:Frm->St->Prop}{listed:Array Bool}{k:Nat}(n:Nat)(π:List (Nat×Bool))(h:eE prog tab ops M B j9 (fun fr st=>jX prog tab ops M (SB B j9) J n (marked π listed) fr st) (pick ops π) fr st)(hn:k=π.length+n:=by rfl)(hk:LC ops π listed=true:=by kernel_rfl):jX prog tab ops M (SB B j9) J k listed fr st:=by
 grind [Im]
theorem tO{ops:Array Oper}{M B:List Nat}{j9:St}{J:Frm->St->Prop}{listed:Array Bool}{k:Nat}(n:Nat)(p q:Nat×Bool)(h1:eE prog tab ops M B j9 (fun fr st=>jX prog tab ops M (SB B j9) J n (listed.setIfInBounds p.1 true) fr st) (pick ops [p]) fr st)
 (h2:eE prog tab ops M B j9 (fun fr st=>jX prog tab ops M (SB B j9) J n (listed.setIfInBounds q.1 true) fr st) (pick ops [q]) fr st) (hn:k=n+1:=by rfl) (hk:Mo ops [p,q] listed=true:=by kernel_rfl):jX prog tab ops M (SB B j9) J k listed fr st:=by
 grind [Gp]
end
end Aw
end Go.Proofs.YtbgngpdonpeboaaGreatDoor
