/- Regions in which several operations that write may come first. -/
import Derived.Test.YtbgngpdonpeboaaGreatDoorAwSet
set_option linter.unusedVariables false
set_option linter.unusedSimpArgs false
open Go.Proofs.Tryz
namespace Go.Proofs.YtbgngpdonpeboaaGreatDoor
namespace Aw
open Go Go.RowKit
def Kl(ops:Array Oper):List (Nat×Bool)->Array Bool->Bool
 |[],_=>true
 |(i,nd)::π,listed=>match ops[i]? with
  |some o=>(if aR o.op then(Region.ready .any ops listed).contains i&&Region.free .any ops listed i else Region.ready .any ops listed==[i])&&(!jT ops i||nd)&&Kl ops π (listed.setIfInBounds i true)
  |none=>false
def marked:List (Nat×Bool)->Array Bool->Array Bool
 |[],listed=>listed
 |(i,_)::π,listed=>marked π (listed.setIfInBounds i true)
section
variable {P:Program} {T:Tab} {N:Nat} {ops:Array Oper} {M B:List Nat} {j8:St} {J:Frm->St->Prop}
theorem Hf(n:Nat):∀(π:List (Nat×Bool)) (listed:Array Bool) (fr:Frm) (st:St),Kl ops π listed=true->
 eE P T ops M B j8 (fun fr st=>jQ P T ops M (SB B j8) J n (marked π listed) fr st) (pick ops π) fr st->jQ P T ops M (SB B j8) J (π.length+n) listed fr st
 |[],listed,fr,st,_,h=>by grind [marked,pick,eE]
 |(i,nd)::π,listed,fr,st,hk,h=>by
  simp only[Kl]at hk;cases ho:ops[i]? with
  |none=>grind
  |some o=>
   rw[ho]at hk;simp only[aAQ]at hk;obtain⟨⟨j7,hnd⟩,hk⟩:=hk
   have ih:∀ fr st,eE P T ops M B j8 (fun fr st=>jQ P T ops M (SB B j8) J n (marked π (listed.setIfInBounds i true)) fr st) (pick ops π) fr st->jQ P T ops M (SB B j8) J (π.length+n) (listed.setIfInBounds i true) fr st:=
    fun fr st=>Hf n π (listed.setIfInBounds i true) fr st hk
   have hpk:pick ops ((i,nd)::π)=(i,nd,o)::pick ops π:=by rw[rE];simp[ho]
   rw[hpk]at h;have hl:((i,nd)::π).length+n=(π.length+n)+1:=by simp;omega
   rw[hl];unfold eE at h;simp only[marked]at h;cases hq:aR o.op with
   |true=>
    simp only[hq,aBq,aAQ]at j7 h;obtain⟨hrd,hfr⟩:=j7;cases hw:bA ops fr o.guard with
    |none=>grind
    |some b=>
     rw[hw]at h;cases b with
     |false=>exact iJ ho _ listed fr st (Region.free_spec ho hfr) (by grind) (.inr ⟨hw,rfl⟩) (h.2 rfl).1 hq (ih _ _ (h.2 rfl).2)
     |true=>
      obtain⟨hS,hpt,h1⟩:=h.1 rfl
      split at h1
      .rename_i r hr;refine iJ ho _ listed fr st (Region.free_spec ho hfr) (by grind) (.inl ⟨hw,hq,fun st' hS'=>?_⟩) hS hq (ih _ _ h1.2);refine⟨@bT.mk r.c r.v st' r.d,nA hq (fun l k hl=>?_) hr,h1.1,rfl,rfl⟩;rw[hl]at hpt;have hh:eV o.op=true:=Ep hl;rw[hS' hh l hpt,hS hh l hpt]
      grind
   |false=>
    simp only[hq,aBa,aBN]at j7 h;have hrd':Region.ready .any ops listed=[i]:=by simpa using j7
    refine⟨fun h0=>(by grind),fun j hj=>?_⟩;rw[hrd']at hj;obtain rfl:j=i:=by grind
    refine⟨o,ho,h.mono fun c7 st' hh=>⟨?_,ih _ _ hh.2⟩⟩
    grind [Kx]
def Ka(ops:Array Oper)(L:List (Nat×Bool))(listed:Array Bool):Bool:=
 (Region.ready .any ops listed==L.map (·.1))&&!L.isEmpty&&L.all fun p=>match ops[p.1]? with|some o=>!aR o.op&&(!jT ops p.1||p.2)|none=>false
theorem Hz(n:Nat)(L:List (Nat×Bool)){listed:Array Bool}{fr:Frm}{st:St}(hk:Ka ops L listed=true)
 (h:∀ p∈L,eE P T ops M B j8 (fun fr st=>jQ P T ops M (SB B j8) J n (listed.setIfInBounds p.1 true) fr st) (pick ops [p]) fr st):jQ P T ops M (SB B j8) J (n+1) listed fr st:=by
 simp only[Ka,aAQ,aDJ]at hk;obtain⟨⟨hrd,Zy⟩,hall⟩:=hk;refine⟨fun h0=>?_,fun i hi=>?_⟩
 .rw[h0]at hrd;cases L with
  |nil=>grind
  |cons p L=>grind
 .rw[hrd]at hi;obtain⟨p,hp,rfl⟩:=aAj.1 hi;have h1:=h p hp;have h2:=aBO.1 hall p hp;obtain⟨i,nd⟩:=p;simp only at h2 h1 ⊢;cases ho:ops[i]? with
  |none=>grind
  |some o=>
   rw[ho]at h2;simp only[aAQ,Bool.not_eq_true']at h2;have hpk:pick ops [(i,nd)]=[(i,nd,o)]:=by rw[rE];simp[ho,GS]
   rw[hpk]at h1;unfold eE at h1;simp only[h2.1]at h1;refine⟨o,rfl,h1.mono fun c7 st' hh=>⟨?_,by grind [eE]⟩⟩
   grind [Kx]
theorem eK{listed:Array Bool}{fr:Frm}{st:St}(h:J fr st)(hk:(Region.ready .any ops listed).isEmpty=true:=by kernel_rfl):jQ P T ops M (SB B j8) J 0 listed fr st:=⟨by grind,h⟩
end
section
variable {N:Nat} {Q:AQ} {fr:Frm} {st:St} {id:Nat}
theorem w_a{ops:Array Oper}(M B:List Nat)(h:∀ J:Frm->St->Prop,(∀ fr st,Q .normal fr st->J fr st)->jQ prog tab ops M (SB B st) J ops.size (Array.replicate ops.size false) fr st)(hm:prog.follows .mixedOrders=true:=by kernel_rfl)(hk:cV N ops ops.toList=true:=by exact rfl):AWp prog N (.region id ops true) Q fr st:=by intro a w g hi hr hs hd;refine wp_region_any hm ?_;have O0:Ext w g { w with drawn:=w.drawn+1 } g:=dN w g;exact nF mN hk (fun _ _ h=>h) _ _ fr st a { w with drawn:=w.drawn+1 } g hi.drew (hr.mono O0) hs hd O0 (h (fun fr st=>Q .normal fr st) (fun _ _ h=>h))
theorem kP{ops:Array Oper}{M B:List Nat}{j8:St}{J:Frm->St->Prop}{listed:Array Bool}{k:Nat}(n:Nat)(π:List (Nat×Bool))(h:eE prog tab ops M B j8 (fun fr st=>jQ prog tab ops M (SB B j8) J n (marked π listed) fr st) (pick ops π) fr st)(hn:k=π.length+n:=by rfl)(hk:Kl ops π listed=true:=by kernel_rfl):jQ prog tab ops M (SB B j8) J k listed fr st:=by
 grind [Hf]
theorem sH{ops:Array Oper}{M B:List Nat}{j8:St}{J:Frm->St->Prop}{listed:Array Bool}{k:Nat}(n:Nat)(p q:Nat×Bool)(h1:eE prog tab ops M B j8 (fun fr st=>jQ prog tab ops M (SB B j8) J n (listed.setIfInBounds p.1 true) fr st) (pick ops [p]) fr st)
 (h2:eE prog tab ops M B j8 (fun fr st=>jQ prog tab ops M (SB B j8) J n (listed.setIfInBounds q.1 true) fr st) (pick ops [q]) fr st) (hn:k=n+1:=by rfl) (hk:Ka ops [p,q] listed=true:=by kernel_rfl):jQ prog tab ops M (SB B j8) J k listed fr st:=by
 grind [Hz]
end
end Aw
end Go.Proofs.YtbgngpdonpeboaaGreatDoor
