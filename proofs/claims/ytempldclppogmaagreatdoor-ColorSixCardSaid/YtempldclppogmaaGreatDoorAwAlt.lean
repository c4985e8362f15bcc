/- Regions in which several operations that write may come first. -/
import Derived.Test.YtempldclppogmaaGreatDoorAwSet
set_option linter.unusedVariables false
set_option linter.unusedSimpArgs false
open Go.Proofs.Tryz
namespace Go.Proofs.YtempldclppogmaaGreatDoor
namespace Aw
open Go Go.RowKit
def Ju(ops:Array Oper):List (Nat×Bool)->Array Bool->Bool
 |[],_=>true
 |(i,nd)::π,listed=>match ops[i]? with
  |some o=>(if aX o.op then(Region.ready .any ops listed).contains i&&Region.free .any ops listed i else Region.ready .any ops listed==[i])&&(!jO ops i||nd)&&Ju ops π (listed.setIfInBounds i true)
  |none=>false
def marked:List (Nat×Bool)->Array Bool->Array Bool
 |[],listed=>listed
 |(i,_)::π,listed=>marked π (listed.setIfInBounds i true)
section
variable {P:Program} {T:Tab} {N:Nat} {ops:Array Oper} {M B:List Nat} {Xo:St} {J:Frm->St->Prop}
theorem GC(n:Nat):∀(π:List (Nat×Bool)) (listed:Array Bool) (fr:Frm) (st:St),Ju ops π listed=true->
 eC P T ops M B Xo (fun fr st=>jM P T ops M (SB B Xo) J n (marked π listed) fr st) (pick ops π) fr st->jM P T ops M (SB B Xo) J (π.length+n) listed fr st
 |[],listed,fr,st,_,h=>by simpa[marked,pick,eC]using h
 |(i,nd)::π,listed,fr,st,hk,h=>by
  simp only[Ju]at hk;cases ho:ops[i]? with
  |none=>rw[ho]at hk;simp at hk
  |some o=>
   rw[ho]at hk;simp only[aAT]at hk;obtain⟨⟨Xp,hnd⟩,hk⟩:=hk
   have ih:∀ fr st,eC P T ops M B Xo (fun fr st=>jM P T ops M (SB B Xo) J n (marked π (listed.setIfInBounds i true)) fr st) (pick ops π) fr st->jM P T ops M (SB B Xo) J (π.length+n) (listed.setIfInBounds i true) fr st:=
    fun fr st=>GC n π (listed.setIfInBounds i true) fr st hk
   have hpk:pick ops ((i,nd)::π)=(i,nd,o)::pick ops π:=by rw[qY];simp[ho]
   rw[hpk]at h;have hl:((i,nd)::π).length+n=(π.length+n)+1:=by simp;omega
   rw[hl];unfold eC at h;simp only[marked]at h;cases hq:aX o.op with
   |true=>
    simp only[hq,aBq,aAT]at Xp h;obtain⟨F9,S1⟩:=Xp;cases hw:bI ops fr o.guard with
    |none=>rw[hw]at h;exact h.elim
    |some b=>
     rw[hw]at h;cases b with
     |false=>exact iB ho _ listed fr st (Region.free_spec ho S1) (by simpa using F9) (.inr ⟨hw,rfl⟩) (h.2 rfl).1 hq (ih _ _ (h.2 rfl).2)
     |true=>
      obtain⟨hS,hpt,h1⟩:=h.1 rfl
      split at h1
      .rename_i r hr;refine iB ho _ listed fr st (Region.free_spec ho S1) (by simpa using F9) (.inl ⟨hw,hq,fun st' hS'=>?_⟩) hS hq (ih _ _ h1.2);refine⟨@bW.mk r.c r.v st' r.d,nZ hq (fun l k hl=>?_) hr,h1.1,rfl,rfl⟩;rw[hl]at hpt;have hh:eJ o.op=true:=Dj hl;rw[hS' hh l hpt,hS hh l hpt]
      .exact h1.elim
   |false=>
    simp only[hq,aAS,aBD]at Xp h;have V0:Region.ready .any ops listed=[i]:=by simpa using Xp
    refine⟨fun h0=>(by rw[h0]at V0;cases V0),fun j hj=>?_⟩;rw[V0]at hj;obtain rfl:j=i:=by simpa using hj
    refine⟨o,ho,h.mono fun Xg st' hh=>⟨?_,ih _ _ hh.2⟩⟩;unfold Kx;simp only[hq,aAS,aBD];intro hn;exact hh.1 (by simpa[hn]using hnd)
def JY(ops:Array Oper)(L:List (Nat×Bool))(listed:Array Bool):Bool:=
 (Region.ready .any ops listed==L.map (·.1))&&!L.isEmpty&&L.all fun p=>match ops[p.1]? with|some o=>!aX o.op&&(!jO ops p.1||p.2)|none=>false
theorem Fw(n:Nat)(L:List (Nat×Bool)){listed:Array Bool}{fr:Frm}{st:St}(hk:JY ops L listed=true)
 (h:∀ p∈L,eC P T ops M B Xo (fun fr st=>jM P T ops M (SB B Xo) J n (listed.setIfInBounds p.1 true) fr st) (pick ops [p]) fr st):jM P T ops M (SB B Xo) J (n+1) listed fr st:=by
 simp only[JY,aAT,aCW]at hk;obtain⟨⟨F9,Wu⟩,hall⟩:=hk;refine⟨fun h0=>?_,fun i hi=>?_⟩
 .rw[h0]at F9;cases L with
  |nil=>simp at Wu
  |cons p L=>simp at F9
 .rw[F9]at hi;obtain⟨p,hp,rfl⟩:=aAm.1 hi;have h1:=h p hp;have h2:=aBr.1 hall p hp;obtain⟨i,nd⟩:=p;simp only at h2 h1 ⊢;cases ho:ops[i]? with
  |none=>rw[ho]at h2;simp at h2
  |some o=>
   rw[ho]at h2;simp only[aAT,aDe]at h2;have hpk:pick ops [(i,nd)]=[(i,nd,o)]:=by rw[qY];simp[ho,GU]
   rw[hpk]at h1;unfold eC at h1;simp only[h2.1]at h1;refine⟨o,rfl,h1.mono fun Xg st' hh=>⟨?_,by simpa[eC]using hh.2⟩⟩;unfold Kx;simp only[h2.1,aAS,aBD];intro hn;exact hh.1 (by simpa[hn]using h2.2)
theorem eD{listed:Array Bool}{fr:Frm}{st:St}(h:J fr st)(hk:(Region.ready .any ops listed).isEmpty=true:=by kernel_rfl):jM P T ops M (SB B Xo) J 0 listed fr st:=⟨by simpa using hk,h⟩
end
section
variable {N:Nat} {Q:AQ} {fr:Frm} {st:St} {id:Nat}
theorem w_a{ops:Array Oper}(M B:List Nat)(h:∀ J:Frm->St->Prop,(∀ fr st,Q .normal fr st->J fr st)->jM prog tab ops M (SB B st) J ops.size (Array.replicate ops.size false) fr st)(hm:prog.follows .mixedOrders=true:=by kernel_rfl)(hk:cV N ops ops.toList=true:=by exact rfl):AWp prog N (.region id ops true) Q fr st:=by intro a w g hi hr hs hd;refine wp_region_any hm ?_;have C4:Ext w g { w with drawn:=w.drawn+1 } g:=dH w g;exact nW nB hk (fun _ _ h=>h) _ _ fr st a { w with drawn:=w.drawn+1 } g hi.drew (hr.mono C4) hs hd C4 (h (fun fr st=>Q .normal fr st) (fun _ _ h=>h))
theorem lF{ops:Array Oper}{M B:List Nat}{Xo:St}{J:Frm->St->Prop}{listed:Array Bool}{k:Nat}(n:Nat)(π:List (Nat×Bool))(h:eC prog tab ops M B Xo (fun fr st=>jM prog tab ops M (SB B Xo) J n (marked π listed) fr st) (pick ops π) fr st)(hn:k=π.length+n:=by rfl)(hk:Ju ops π listed=true:=by kernel_rfl):jM prog tab ops M (SB B Xo) J k listed fr st:=by subst hn;exact GC n π listed fr st hk h
theorem sI{ops:Array Oper}{M B:List Nat}{Xo:St}{J:Frm->St->Prop}{listed:Array Bool}{k:Nat}(n:Nat)(p q:Nat×Bool)(h1:eC prog tab ops M B Xo (fun fr st=>jM prog tab ops M (SB B Xo) J n (listed.setIfInBounds p.1 true) fr st) (pick ops [p]) fr st)
 (h2:eC prog tab ops M B Xo (fun fr st=>jM prog tab ops M (SB B Xo) J n (listed.setIfInBounds q.1 true) fr st) (pick ops [q]) fr st) (hn:k=n+1:=by rfl) (hk:JY ops [p,q] listed=true:=by kernel_rfl):jM prog tab ops M (SB B Xo) J k listed fr st:=by
 subst hn;refine Fw n [p,q] hk fun x hx=>?_;simp only[aAf,aBJ,aDa]at hx;rcases hx with rfl|rfl
 .exact h1
 .exact h2
end
end Aw
end Go.Proofs.YtempldclppogmaaGreatDoor
