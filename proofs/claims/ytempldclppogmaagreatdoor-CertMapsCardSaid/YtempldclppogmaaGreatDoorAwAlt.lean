/- Regions in which several operations that write may come first. -/
import Derived.Test.YtempldclppogmaaGreatDoorAwSet
set_option linter.unusedVariables false
set_option linter.unusedSimpArgs false
namespace Go.Proofs.YtempldclppogmaaGreatDoor.Aw
open Go Go.RowKit
def aFq(ops:Array Oper):List (Nat×Bool)→Array Bool→Bool
 |[],_=>true
 |(i,nd)::π,listed=>match ops[i]? with
  |some o=>(if aS o.op then(Region.ready .any ops listed).contains i&&Region.free .any ops listed i else Region.ready .any ops listed==[i])&&(!iB ops i||nd)&&aFq ops π (listed.setIfInBounds i true)
  |none=>false
def marked:List (Nat×Bool)→Array Bool→Array Bool
 |[],listed=>listed
 |(i,_)::π,listed=>marked π (listed.setIfInBounds i true)
section
variable {P:Program} {T:Tab} {N:Nat} {ops:Array Oper} {M B:List Nat} {st0:St} {J:Frm→St→Prop}
theorem aDF(n:Nat):∀(π:List (Nat×Bool)) (listed:Array Bool) (fr:Frm) (st:St),aFq ops π listed=true→
 dM P T ops M B st0 (fun fr st=>gN P T ops M (SB B st0) J n (marked π listed) fr st) (pick ops π) fr st→gN P T ops M (SB B st0) J (π.length+n) listed fr st
 |[],listed,fr,st,_,h=>by simpa[marked,pick,dM]using h
 |(i,nd)::π,listed,fr,st,hk,h=>by
  simp only[aFq]at hk
  cases ho:ops[i]? with
  |none=>rw[ho]at hk;simp at hk
  |some o=>
   rw[ho]at hk
   simp only[Bool.and_eq_true]at hk
   obtain⟨⟨hk1,hnd⟩,hk⟩:=hk
   have ih:∀ fr st,dM P T ops M B st0 (fun fr st=>gN P T ops M (SB B st0) J n (marked π (listed.setIfInBounds i true)) fr st) (pick ops π) fr st→gN P T ops M (SB B st0) J (π.length+n) (listed.setIfInBounds i true) fr st:=
    fun fr st=>aDF n π (listed.setIfInBounds i true) fr st hk
   have hpk:pick ops ((i,nd)::π)=(i,nd,o)::pick ops π:=by rw[rR];simp[ho]
   rw[hpk]at h
   have hl:((i,nd)::π).length+n=(π.length+n)+1:=by simp;omega
   rw[hl]
   unfold dM at h
   simp only[marked]at h
   cases hq:aS o.op with
   |true=>
    simp only[hq,if_true,Bool.and_eq_true]at hk1 h
    obtain⟨hrd,hfr⟩:=hk1
    cases hw:bB ops fr o.guard with
    |none=>rw[hw]at h;exact h.elim
    |some b=>
     rw[hw]at h
     cases b with
     |false=>exact fX ho _ listed fr st (Region.free_spec ho hfr) (by simpa using hrd) (.inr ⟨hw,rfl⟩) (h.2 rfl).1 hq (ih _ _ (h.2 rfl).2)
     |true=>
      obtain⟨hS,hpt,h1⟩:=h.1 rfl
      split at h1
      ·rename_i r hr
       refine fX ho _ listed fr st (Region.free_spec ho hfr) (by simpa using hrd) (.inl ⟨hw,hq,fun st' hS'=>?_⟩) hS hq (ih _ _ h1.2)
       refine⟨@bL.mk r.c r.v st' r.d,lF hq (fun l k hl=>?_) hr,h1.1,rfl,rfl⟩
       rw[hl]at hpt
       have hh:dQ o.op=true:=aBI hl
       rw[hS' hh l hpt,hS hh l hpt]
      ·exact h1.elim
   |false=>
    simp only[hq,Bool.false_eq_true,if_false]at hk1 h
    have hrd':Region.ready .any ops listed=[i]:=by simpa using hk1
    refine⟨fun h0=>(by rw[h0]at hrd';cases hrd'),fun j hj=>?_⟩
    rw[hrd']at hj
    obtain rfl:j=i:=by simpa using hj
    refine⟨o,ho,h.mono fun fr' st' hh=>⟨?_,ih _ _ hh.2⟩⟩
    unfold Kx
    simp only[hq,Bool.false_eq_true,if_false]
    intro hn
    exact hh.1 (by simpa[hn]using hnd)
def aGm(ops:Array Oper)(L:List (Nat×Bool))(listed:Array Bool):Bool:=
 (Region.ready .any ops listed==L.map (·.1))&&!L.isEmpty&&L.all fun p=>match ops[p.1]? with|some o=>!aS o.op&&(!iB ops p.1||p.2)|none=>false
theorem aCn(n:Nat)(L:List (Nat×Bool)){listed:Array Bool}{fr:Frm}{st:St}(hk:aGm ops L listed=true)
 (h:∀ p∈L,dM P T ops M B st0 (fun fr st=>gN P T ops M (SB B st0) J n (listed.setIfInBounds p.1 true) fr st) (pick ops [p]) fr st):gN P T ops M (SB B st0) J (n+1) listed fr st:=by
 simp only[aGm,Bool.and_eq_true,beq_iff_eq]at hk
 obtain⟨⟨hrd,hne⟩,hall⟩:=hk
 refine⟨fun h0=>?_,fun i hi=>?_⟩
 ·rw[h0]at hrd
  cases L with
  |nil=>simp at hne
  |cons p L=>simp at hrd
 ·rw[hrd]at hi
  obtain⟨p,hp,rfl⟩:=List.mem_map.1 hi
  have h1:=h p hp
  have h2:=List.all_eq_true.1 hall p hp
  obtain⟨i,nd⟩:=p
  simp only at h2 h1 ⊢
  cases ho:ops[i]? with
  |none=>rw[ho]at h2;simp at h2
  |some o=>
   rw[ho]at h2
   simp only[Bool.and_eq_true,Bool.not_eq_true']at h2
   have hpk:pick ops [(i,nd)]=[(i,nd,o)]:=by rw[rR];simp[ho,aCG]
   rw[hpk]at h1
   unfold dM at h1
   simp only[h2.1]at h1
   refine⟨o,rfl,h1.mono fun fr' st' hh=>⟨?_,by simpa[dM]using hh.2⟩⟩
   unfold Kx
   simp only[h2.1,Bool.false_eq_true,if_false]
   intro hn
   exact hh.1 (by simpa[hn]using h2.2)
theorem dI{listed:Array Bool}{fr:Frm}{st:St}(h:J fr st)(hk:(Region.ready .any ops listed).isEmpty=true:=by kernel_rfl):gN P T ops M (SB B st0) J 0 listed fr st:=⟨by simpa using hk,h⟩
end
section
variable {N:Nat} {Q:AQ} {fr:Frm} {st:St} {id:Nat}
theorem w_a{ops:Array Oper}(M B:List Nat)(h:∀ J:Frm→St→Prop,(∀ fr st,Q .normal fr st→J fr st)→gN Tryz.prog tab ops M (SB B st) J ops.size (Array.replicate ops.size false) fr st)(hm:Tryz.prog.follows .mixedOrders=true:=by kernel_rfl)(hk:cE N ops ops.toList=true:=by exact rfl):AWp Tryz.prog N (.region id ops true) Q fr st:=by
 intro a w g hi hr hs hd
 refine wp_region_any hm ?_
 have hdr:Ext w g { w with drawn:=w.drawn+1 } g:=cT w g
 exact kX aF hk (fun _ _ h=>h) _ _ fr st a { w with drawn:=w.drawn+1 } g hi.drew (hr.mono hdr) hs hd hdr (h (fun fr st=>Q .normal fr st) (fun _ _ h=>h))
theorem iN{ops:Array Oper}{M B:List Nat}{st0:St}{J:Frm→St→Prop}{listed:Array Bool}{k:Nat}(n:Nat)(π:List (Nat×Bool))(h:dM Tryz.prog tab ops M B st0 (fun fr st=>gN Tryz.prog tab ops M (SB B st0) J n (marked π listed) fr st) (pick ops π) fr st)(hn:k=π.length+n:=by rfl)(hk:aFq ops π listed=true:=by kernel_rfl):gN Tryz.prog tab ops M (SB B st0) J k listed fr st:=by
 subst hn;exact aDF n π listed fr st hk h
theorem oM{ops:Array Oper}{M B:List Nat}{st0:St}{J:Frm→St→Prop}{listed:Array Bool}{k:Nat}(n:Nat)(p q:Nat×Bool)(h1:dM Tryz.prog tab ops M B st0 (fun fr st=>gN Tryz.prog tab ops M (SB B st0) J n (listed.setIfInBounds p.1 true) fr st) (pick ops [p]) fr st)
 (h2:dM Tryz.prog tab ops M B st0 (fun fr st=>gN Tryz.prog tab ops M (SB B st0) J n (listed.setIfInBounds q.1 true) fr st) (pick ops [q]) fr st) (hn:k=n+1:=by rfl) (hk:aGm ops [p,q] listed=true:=by kernel_rfl):gN Tryz.prog tab ops M (SB B st0) J k listed fr st:=by
 subst hn
 refine aCn n [p,q] hk fun x hx=>?_
 simp only[List.mem_cons,List.not_mem_nil,or_false]at hx
 rcases hx with rfl|rfl
 ·exact h1
 ·exact h2
end
end Go.Proofs.YtempldclppogmaaGreatDoor.Aw
