/- Regions in which several operations that write may come first. -/
import Derived.Test.YtbgngpdonpeboaaGreatDoorAwSet
set_option linter.defProp false
set_option linter.unusedVariables false
set_option linter.unusedSimpArgs false
open Go.Proofs.Tryz
namespace Go.Proofs.YtbgngpdonpeboaaGreatDoor
namespace Aw
open Go Go.RowKit
def MS(a:Array Oper):List (Nat×Bool)->Array Bool->Bool
 |[],_=>true
 |(i,nd)::π,listed=>match a[i]? with
  |some o=>(if aL o.op then(Region.ready .any a listed).contains i&&Region.free .any a listed i else Region.ready .any a listed==[i])&&(!kC a i||nd)&&MS a π (listed.setIfInBounds i true)
  |none=>false
def marked:List (Nat×Bool)->Array Bool->Array Bool
 |[],listed=>listed
 |(i,_)::π,listed=>marked π (listed.setIfInBounds i true)
section
variable {P:Program} {T:az} {N:Nat} {ops:Array Oper} {M B:List Nat} {j8:St} {J:af->St->Prop}
theorem JL(n:Nat):∀(f:List (Nat×Bool)) (listed:Array Bool) (a:af) (e:St),MS ops f listed=true->
 eE P T ops M B j8 (fun a e=>jR P T ops M (SB B j8) J n (marked f listed) a e) (pick ops f) a e->jR P T ops M (SB B j8) J (f.length+n) listed a e
 |[],listed,a,e,_,h=>by grind [marked,pick,eE]
 |(i,nd)::f,listed,a,e,hk,h=>by
  simp only[MS]at hk;cases g:ops[i]? with
  |none=>grind
  |some o=>
   rw[g]at hk;simp only[fw]at hk;obtain⟨⟨y,I⟩,hk⟩:=hk
   have E:∀ a e,eE P T ops M B j8 (fun a e=>jR P T ops M (SB B j8) J n (marked f (listed.setIfInBounds i true)) a e) (pick ops f) a e->jR P T ops M (SB B j8) J (f.length+n) (listed.setIfInBounds i true) a e:=
    fun a e=>JL n f (listed.setIfInBounds i true) a e hk
   have C:pick ops ((i,nd)::f)=(i,nd,o)::pick ops f:=by rw[sH];simp[g]
   rw[C]at h;have x:((i,nd)::f).length+n=(f.length+n)+1:=by simp;omega
   rw[x];unfold eE at h;simp only[marked]at h;cases p:aL o.op with
   |true=>
    simp only[p,dE,fw]at y h;obtain⟨L,q⟩:=y;cases D:bB ops a o.guard with
    |none=>grind
    |some b=>
     rw[D]at h;cases b with
     |false=>exact jE g _ listed a e (Region.free_spec g q) (by grind) (.inr ⟨D,rfl⟩) (h.2 rfl).1 p (E _ _ (h.2 rfl).2)
     |true=>
      obtain⟨F,m,z⟩:=h.1 rfl
      split at z
      .rename_i r K;refine jE g _ listed a e (Region.free_spec g q) (by grind) (.inl ⟨D,p,fun t A=>?_⟩) F p (E _ _ z.2);refine⟨@bS.mk r.c r.v t r.d,nU p (fun l k x=>?_) K,z.1,rfl,rfl⟩;rw[x]at m;have w:eX o.op=true:=ET x;rw[A w l m,F w l m]
      grind
   |false=>
    simp only[p,iv,gx]at y h;have s:Region.ready .any ops listed=[i]:=by simpa using y
    refine⟨fun O=>(by grind),fun j H=>?_⟩;rw[s]at H;obtain rfl:j=i:=by grind
    refine⟨o,g,h.mono fun UK t w=>⟨?_,E _ _ w.2⟩⟩
    grind [Kx]
def MG(ops:Array Oper)(L:List (Nat×Bool))(listed:Array Bool):Bool:=
 (Region.ready .any ops listed==L.map (·.1))&&!L.isEmpty&&L.all fun p=>match ops[p.1]? with|some o=>!aL o.op&&(!kC ops p.1||p.2)|none=>false
theorem Gj(n:Nat)(L:List (Nat×Bool)){listed:Array Bool}{c:af}{e:St}(j:MG ops L listed=true)
 (h:∀ p∈L,eE P T ops M B j8 (fun c e=>jR P T ops M (SB B j8) J n (listed.setIfInBounds p.1 true) c e) (pick ops [p]) c e):jR P T ops M (SB B j8) J (n+1) listed c e:=by
 simp only[MG,fw,rl]at j;obtain⟨⟨b,s⟩,hall⟩:=j;refine⟨fun q=>?_,fun i g=>?_⟩
 .rw[q]at b;cases L with
  |nil=>grind
  |cons p L=>grind
 .rw[b]at g;obtain⟨p,l,rfl⟩:=aq.1 g;have a:=h p l;have d:=kw.1 hall p l;obtain⟨i,m⟩:=p;simp only at d a ⊢;cases k:ops[i]? with
  |none=>grind
  |some o=>
   rw[k]at d;simp only[fw,ta]at d;have f:pick ops [(i,m)]=[(i,m,o)]:=by rw[sH];simp[k,Iw]
   rw[f]at a;unfold eE at a;simp only[d.1]at a;refine⟨o,rfl,a.mono fun UK r t=>⟨?_,by grind [eE]⟩⟩
   grind [Kx]
theorem eR{listed:Array Bool}{fr:af}{st:St}(h:J fr st)(hk:(Region.ready .any ops listed).isEmpty=true:=by kernel_rfl):jR P T ops M (SB B j8) J 0 listed fr st:=⟨by grind,h⟩
end
section
variable {N:Nat} {Q:AQ} {fr:af} {st:St} {id:Nat}
theorem w_a{ops:Array Oper}(M B:List Nat)(h:∀ J:af->St->Prop,(∀ fr st,Q .normal fr st->J fr st)->jR prog tab ops M (SB B st) J ops.size (Array.replicate ops.size false) fr st)(hm:prog.follows .mixedOrders=true:=by kernel_rfl)(hk:cR N ops ops.toList=true:=by exact rfl):bq prog N (.region id ops true) Q fr st:=by intro a w g hi hr hs hd;refine wp_region_any hm ?_;have hdr:Ext w g { w with drawn:=w.drawn+1 } g:=eC w g;exact oW lV hk (fun _ _ h=>h) _ _ fr st a { w with drawn:=w.drawn+1 } g hi.drew (hr.mono hdr) hs hd hdr (h (fun fr st=>Q .normal fr st) (fun _ _ h=>h))
theorem kV{ops:Array Oper}{M B:List Nat}{j8:St}{J:af->St->Prop}{listed:Array Bool}{k:Nat}(n:Nat)(π:List (Nat×Bool))(h:eE prog tab ops M B j8 (fun fr st=>jR prog tab ops M (SB B j8) J n (marked π listed) fr st) (pick ops π) fr st)(hn:k=π.length+n:=by rfl)(hk:MS ops π listed=true:=by kernel_rfl):jR prog tab ops M (SB B j8) J k listed fr st:=by
 grind [JL]
theorem sZ{a:Array Oper}{M B:List Nat}{b:St}{J:af->St->Prop}{listed:Array Bool}{k:Nat}(n:Nat)(p q:Nat×Bool)(c:eE prog tab a M B b (fun fr st=>jR prog tab a M (SB B b) J n (listed.setIfInBounds p.1 true) fr st) (pick a [p]) fr st)
 (d:eE prog tab a M B b (fun fr st=>jR prog tab a M (SB B b) J n (listed.setIfInBounds q.1 true) fr st) (pick a [q]) fr st) (f:k=n+1:=by rfl) (e:MG a [p,q] listed=true:=by kernel_rfl):jR prog tab a M (SB B b) J k listed fr st:=by
 grind [Gj]
end
end Aw
end Go.Proofs.YtbgngpdonpeboaaGreatDoor
