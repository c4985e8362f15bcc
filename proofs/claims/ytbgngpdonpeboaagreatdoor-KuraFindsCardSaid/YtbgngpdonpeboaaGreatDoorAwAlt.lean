/- Lemmas. -/
import Derived.Test.YtbgngpdonpeboaaGreatDoorAwSet
set_option linter.defProp false
open Go.Proofs.Tryz
namespace Go.Proofs.YtbgngpdonpeboaaGreatDoor
namespace Aw
open Go Go.RowKit
def OH(a:Array Oper):List (Nat×Bool)->Array Bool->Bool
 |[],_=>true
 |(i,nd)::π,listed=>match a[i]? with
  |some o=>(if aW o.op then(Region.ready .any a listed).contains i&&Region.free .any a listed i else Region.ready .any a listed==[i])&&(!lI a i||nd)&&OH a π (listed.setIfInBounds i true)
  |none=>false
def marked:List (Nat×Bool)->Array Bool->Array Bool
 |[],listed=>listed
 |(i,_)::π,listed=>marked π (listed.setIfInBounds i true)
section
variable {P:Program} {T:bg} {N:Nat} {ops:Array Oper} {M B:List Nat} {j9:St} {J:ah->St->Prop}
theorem Ip(n:Nat):∀(f:List (Nat×Bool)) (listed:Array Bool) (a:ah) (e:St),OH ops f listed=true->
 fL P T ops M B j9 (fun a e=>lA P T ops M (SB B j9) J n (marked f listed) a e) (pick ops f) a e->lA P T ops M (SB B j9) J (f.length+n) listed a e
 |[],listed,a,e,_,h=>by grind [marked,pick,fL]
 |(i,nd)::f,listed,a,e,hk,h=>by
  simp only[OH]at hk;cases g:ops[i]? with
  |none=>grind
  |some o=>
   rw[g]at hk;simp only[gg]at hk;obtain⟨⟨y,I⟩,hk⟩:=hk
   have E:∀ a e,fL P T ops M B j9 (fun a e=>lA P T ops M (SB B j9) J n (marked f (listed.setIfInBounds i true)) a e) (pick ops f) a e->lA P T ops M (SB B j9) J (f.length+n) (listed.setIfInBounds i true) a e:=
    fun a e=>Ip n f (listed.setIfInBounds i true) a e hk
   have C:pick ops ((i,nd)::f)=(i,nd,o)::pick ops f:=by rw[uN];simp[g]
   rw[C]at h;have x:((i,nd)::f).length+n=(f.length+n)+1:=by simp;omega
   rw[x];unfold fL at h;simp only[marked]at h;cases p:aW o.op with
   |true=>
    simp only[p,ef,gg]at y h;obtain⟨L,q⟩:=y;cases D:bG ops a o.guard with
    |none=>grind
    |some b=>
     rw[D]at h;cases b with
     |false=>exact jY g _ listed a e (Region.free_spec g q) (by grind) (.inr ⟨D,rfl⟩) (h.2 rfl).1 p (E _ _ (h.2 rfl).2)
     |true=>
      obtain⟨F,m,z⟩:=h.1 rfl
      split at z
      .rename_i r K;refine jY g _ listed a e (Region.free_spec g q) (by grind) (.inl ⟨D,p,fun t A=>?_⟩) F p (E _ _ z.2);refine⟨@bV.mk r.c r.v t r.d,qZ p (fun l k x=>?_) K,z.1,rfl,rfl⟩;rw[x]at m;have w:gB o.op=true:=Hg x;rw[A w l m,F w l m]
      grind
   |false=>
    simp only[p,ir,gI]at y h;have s:Region.ready .any ops listed=[i]:=by simpa using y
    refine⟨fun R=>(by grind),fun j H=>?_⟩;rw[s]at H;obtain rfl:j=i:=by grind
    refine⟨o,g,h.mono fun Q t w=>⟨?_,E _ _ w.2⟩⟩
    grind [Kx]
def Ns(ops:Array Oper)(L:List (Nat×Bool))(listed:Array Bool):Bool:=
 (Region.ready .any ops listed==L.map (·.1))&&!L.isEmpty&&L.all fun p=>match ops[p.1]? with|some o=>!aW o.op&&(!lI ops p.1||p.2)|none=>false
theorem Ij(n:Nat)(L:List (Nat×Bool)){listed:Array Bool}{c:ah}{e:St}(j:Ns ops L listed=true)
 (h:∀ p∈L,fL P T ops M B j9 (fun c e=>lA P T ops M (SB B j9) J n (listed.setIfInBounds p.1 true) c e) (pick ops [p]) c e):lA P T ops M (SB B j9) J (n+1) listed c e:=by
 simp only[Ns,gg,ud]at j;obtain⟨⟨b,Tv⟩,hall⟩:=j;refine⟨fun q=>?_,fun i g=>?_⟩
 .rw[q]at b;cases L with
  |nil=>grind
  |cons p L=>grind
 .rw[b]at g;obtain⟨p,l,rfl⟩:=ao.1 g;have a:=h p l;have d:=lL.1 hall p l;obtain⟨i,m⟩:=p;simp only at d a ⊢;cases k:ops[i]? with
  |none=>grind
  |some o=>
   rw[k]at d;simp only[gg,Bool.not_eq_true']at d;have f:pick ops [(i,m)]=[(i,m,o)]:=by rw[uN];simp[k,Iy]
   rw[f]at a;unfold fL at a;simp only[d.1]at a;refine⟨o,rfl,a.mono fun s r t=>⟨?_,by grind [fL]⟩⟩
   grind [Kx]
theorem fV{listed:Array Bool}{fr:ah}{st:St}(h:J fr st)(hk:(Region.ready .any ops listed).isEmpty=true:=by kernel_rfl):lA P T ops M (SB B j9) J 0 listed fr st:=⟨by grind,h⟩
end
section
variable {N:Nat} {Q:AQ} {fr:ah} {st:St} {id:Nat}
theorem w_a{ops:Array Oper}(M B:PQ)(h:∀ J:ah->St->Prop,(∀ fr st,Q .normal fr st->J fr st)->lA prog tab ops M (SB B st) J ops.size (Array.replicate ops.size false) fr st)(hm:prog.follows .mixedOrders=true:=by kernel_rfl)(hk:dJ N ops ops.toList=true:=by exact rfl):bq prog N (.region id ops true) Q fr st:=by intro a w g hi hr hs hd;refine wp_region_any hm ?_;have hdr:Ext w g { w with drawn:=w.drawn+1 } g:=fA w g;exact rO oP hk (fun _ _ h=>h) _ _ fr st a { w with drawn:=w.drawn+1 } g hi.drew (hr.mono hdr) hs hd hdr (h (fun fr st=>Q .normal fr st) (fun _ _ h=>h))
theorem mT{ops:Array Oper}{M B:PQ}{j9:St}{J:ah->St->Prop}{listed:Array Bool}{k:Nat}(n:Nat)(π:List (Nat×Bool))(h:fL prog tab ops M B j9 (fun fr st=>lA prog tab ops M (SB B j9) J n (marked π listed) fr st) (pick ops π) fr st)(hn:k=π.length+n:=by rfl)(hk:OH ops π listed=true:=by kernel_rfl):lA prog tab ops M (SB B j9) J k listed fr st:=by
 grind [Ip]
theorem vU{a:Array Oper}{M B:PQ}{b:St}{J:ah->St->Prop}{listed:Array Bool}{k:Nat}(n:Nat)(p q:Nat×Bool)(c:fL prog tab a M B b (fun fr st=>lA prog tab a M (SB B b) J n (listed.setIfInBounds p.1 true) fr st) (pick a [p]) fr st)
 (d:fL prog tab a M B b (fun fr st=>lA prog tab a M (SB B b) J n (listed.setIfInBounds q.1 true) fr st) (pick a [q]) fr st) (f:k=n+1:=by rfl) (e:Ns a [p,q] listed=true:=by kernel_rfl):lA prog tab a M (SB B b) J k listed fr st:=by
 grind [Ij]
end
end Aw
end Go.Proofs.YtbgngpdonpeboaaGreatDoor
