/- Regions in which several operations that write may come first. -/
import Derived.Test.YtempldclppogmaaGreatDoorAwSet
set_option linter.unusedVariables false
set_option linter.unusedSimpArgs false
open Go.Proofs.Tryz
namespace Go.Proofs.YtempldclppogmaaGreatDoor
namespace Aw
open Go Go.RowKit
def KD(ops:Array Oper):List (Nat×Bool)->Array Bool->Bool
 |[],_=>true
 |(i,nd)::π,listed=>match ops[i]? with
  |some o=>(if aX o.op then(Region.ready .any ops listed).contains i&&Region.free .any ops listed i else Region.ready .any ops listed==[i])&&(!jG ops i||nd)&&KD ops π (listed.setIfInBounds i true)
  |none=>false
def marked:List (Nat×Bool)->Array Bool->Array Bool
 |[],listed=>listed
 |(i,_)::π,listed=>marked π (listed.setIfInBounds i true)
section
variable {P:Program} {T:Tab} {N:Nat} {ops:Array Oper} {M B:List Nat} {Xs:St} {J:Frm->St->Prop}
theorem Fo(n:Nat):∀(π:List (Nat×Bool)) (listed:Array Bool) (fr:Frm) (st:St),KD ops π listed=true->
 dW P T ops M B Xs (fun fr st=>iY P T ops M (SB B Xs) J n (marked π listed) fr st) (pick ops π) fr st->iY P T ops M (SB B Xs) J (π.length+n) listed fr st
 |[],listed,fr,st,_,h=>by simpa[marked,pick,dW]using h
 |(i,nd)::π,listed,fr,st,hk,h=>by
  simp only[KD]at hk;cases ho:ops[i]? with
  |none=>rw[ho]at hk;simp at hk
  |some o=>
   rw[ho]at hk;simp only[aAS]at hk;obtain⟨⟨Xn,hnd⟩,hk⟩:=hk
   have ih:∀ fr st,dW P T ops M B Xs (fun fr st=>iY P T ops M (SB B Xs) J n (marked π (listed.setIfInBounds i true)) fr st) (pick ops π) fr st->iY P T ops M (SB B Xs) J (π.length+n) (listed.setIfInBounds i true) fr st:=
    fun fr st=>Fo n π (listed.setIfInBounds i true) fr st hk
   have hpk:pick ops ((i,nd)::π)=(i,nd,o)::pick ops π:=by rw[qZ];simp[ho]
   rw[hpk]at h;have hl:((i,nd)::π).length+n=(π.length+n)+1:=by simp;omega
   rw[hl];unfold dW at h;simp only[marked]at h;cases hq:aX o.op with
   |true=>
    simp only[hq,aBn,aAS]at Xn h;obtain⟨G7,T7⟩:=Xn;cases hw:bG ops fr o.guard with
    |none=>rw[hw]at h;exact h.elim
    |some b=>
     rw[hw]at h;cases b with
     |false=>exact iH ho _ listed fr st (Region.free_spec ho T7) (by simpa using G7) (.inr ⟨hw,rfl⟩) (h.2 rfl).1 hq (ih _ _ (h.2 rfl).2)
     |true=>
      obtain⟨hS,Y3,h1⟩:=h.1 rfl
      split at h1
      .rename_i r hr;refine iH ho _ listed fr st (Region.free_spec ho T7) (by simpa using G7) (.inl ⟨hw,hq,fun st' hS'=>?_⟩) hS hq (ih _ _ h1.2);refine⟨@bT.mk r.c r.v st' r.d,nT hq (fun l k hl=>?_) hr,h1.1,rfl,rfl⟩;rw[hl]at Y3;have hh:eI o.op=true:=EG hl;rw[hS' hh l Y3,hS hh l Y3]
      .exact h1.elim
   |false=>
    simp only[hq,aAR,aBB]at Xn h;have T9:Region.ready .any ops listed=[i]:=by simpa using Xn
    refine⟨fun h0=>(by rw[h0]at T9;cases T9),fun j hj=>?_⟩;rw[T9]at hj;obtain rfl:j=i:=by simpa using hj
    refine⟨o,ho,h.mono fun Xj st' hh=>⟨?_,ih _ _ hh.2⟩⟩;unfold Kx;simp only[hq,aAR,aBB];intro hn;exact hh.1 (by simpa[hn]using hnd)
def Ko(ops:Array Oper)(L:List (Nat×Bool))(listed:Array Bool):Bool:=
 (Region.ready .any ops listed==L.map (·.1))&&!L.isEmpty&&L.all fun p=>match ops[p.1]? with|some o=>!aX o.op&&(!jG ops p.1||p.2)|none=>false
theorem HJ(n:Nat)(L:List (Nat×Bool)){listed:Array Bool}{fr:Frm}{st:St}(hk:Ko ops L listed=true)
 (h:∀ p∈L,dW P T ops M B Xs (fun fr st=>iY P T ops M (SB B Xs) J n (listed.setIfInBounds p.1 true) fr st) (pick ops [p]) fr st):iY P T ops M (SB B Xs) J (n+1) listed fr st:=by
 simp only[Ko,aAS,aCL]at hk;obtain⟨⟨G7,Wx⟩,hall⟩:=hk;refine⟨fun h0=>?_,fun i hi=>?_⟩
 .rw[h0]at G7;cases L with
  |nil=>simp at Wx
  |cons p L=>simp at G7
 .rw[G7]at hi;obtain⟨p,hp,rfl⟩:=aAm.1 hi;have h1:=h p hp;have h2:=aBC.1 hall p hp;obtain⟨i,nd⟩:=p;simp only at h2 h1 ⊢;cases ho:ops[i]? with
  |none=>rw[ho]at h2;simp at h2
  |some o=>
   rw[ho]at h2;simp only[aAS,aDY]at h2;have hpk:pick ops [(i,nd)]=[(i,nd,o)]:=by rw[qZ];simp[ho,GZ]
   rw[hpk]at h1;unfold dW at h1;simp only[h2.1]at h1;refine⟨o,rfl,h1.mono fun Xj st' hh=>⟨?_,by simpa[dW]using hh.2⟩⟩;unfold Kx;simp only[h2.1,aAR,aBB];intro hn;exact hh.1 (by simpa[hn]using h2.2)
theorem eC{listed:Array Bool}{fr:Frm}{st:St}(h:J fr st)(hk:(Region.ready .any ops listed).isEmpty=true:=by kernel_rfl):iY P T ops M (SB B Xs) J 0 listed fr st:=⟨by simpa using hk,h⟩
end
section
variable {N:Nat} {Q:AQ} {fr:Frm} {st:St} {id:Nat}
theorem w_a{ops:Array Oper}(M B:List Nat)(h:∀ J:Frm->St->Prop,(∀ fr st,Q .normal fr st->J fr st)->iY prog tab ops M (SB B st) J ops.size (Array.replicate ops.size false) fr st)(hm:prog.follows .mixedOrders=true:=by kernel_rfl)(hk:cW N ops ops.toList=true:=by exact rfl):AWp prog N (.region id ops true) Q fr st:=by intro a w g hi hr hs hd;refine wp_region_any hm ?_;have Zs:Ext w g { w with drawn:=w.drawn+1 } g:=dH w g;exact nE mL hk (fun _ _ h=>h) _ _ fr st a { w with drawn:=w.drawn+1 } g hi.drew (hr.mono Zs) hs hd Zs (h (fun fr st=>Q .normal fr st) (fun _ _ h=>h))
theorem kL{ops:Array Oper}{M B:List Nat}{Xs:St}{J:Frm->St->Prop}{listed:Array Bool}{k:Nat}(n:Nat)(π:List (Nat×Bool))(h:dW prog tab ops M B Xs (fun fr st=>iY prog tab ops M (SB B Xs) J n (marked π listed) fr st) (pick ops π) fr st)(hn:k=π.length+n:=by rfl)(hk:KD ops π listed=true:=by kernel_rfl):iY prog tab ops M (SB B Xs) J k listed fr st:=by subst hn;exact Fo n π listed fr st hk h
theorem sK{ops:Array Oper}{M B:List Nat}{Xs:St}{J:Frm->St->Prop}{listed:Array Bool}{k:Nat}(n:Nat)(p q:Nat×Bool)(h1:dW prog tab ops M B Xs (fun fr st=>iY prog tab ops M (SB B Xs) J n (listed.setIfInBounds p.1 true) fr st) (pick ops [p]) fr st)
 (h2:dW prog tab ops M B Xs (fun fr st=>iY prog tab ops M (SB B Xs) J n (listed.setIfInBounds q.1 true) fr st) (pick ops [q]) fr st) (hn:k=n+1:=by rfl) (hk:Ko ops [p,q] listed=true:=by kernel_rfl):iY prog tab ops M (SB B Xs) J k listed fr st:=by
 subst hn;refine HJ n [p,q] hk fun x hx=>?_;simp only[aAf,aCe,aDE]at hx;rcases hx with rfl|rfl
 .exact h1
 .exact h2
end
end Aw
end Go.Proofs.YtempldclppogmaaGreatDoor
