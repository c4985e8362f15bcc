/- The arguments' shapes, by the program's types: rows of numbers, edges, graphs, maps. -/
import Derived.Test.YtbgngpdonpeboaaGreatDoorAwArg
import Derived.Test.YtbgngpdonpeboaaGreatDoorAwSet
set_option linter.defProp false
set_option linter.unusedVariables false
set_option linter.unusedSimpArgs false
namespace Go.Proofs.YtbgngpdonpeboaaGreatDoor
namespace Aw
open Go Go.RowKit
def nt(x:Int):Prop:=0<=x/\x<4294967296
structure Ed where
 id:Int
 a:Int
 b:Int
 deriving DecidableEq
def Ed.ok(e:Ed):Prop:=nt e.id/\nt e.a/\nt e.b
abbrev dl(e:Ed):List LV:=[u e.id,u e.a,u e.b]
abbrev eds(l:List Ed):List LV:=l.flatMap dl
def MT{t:Nat}{r:bI}{k:IntKind}(a:tab t=some r)(c:r.d=.int k){e:List LV}(h:Shp tab t e):∃ n,e=[.atom (.int k n)]/\(Lit.int k n).wf=true:=by
 cases h with
 |int n h1 h2 h3=>
  grind
 |bool b h1 h2=>rw[h1]at a;injection a with a;subst a;rw[h2]at c;cases c
 |slice es h1 h2 _ _=>rw[h1]at a;injection a with a;subst a;rw[h2]at c;cases c
 |struct es h1 h2 _ _=>rw[h1]at a;injection a with a;subst a;rw[h2]at c;cases c
def Dy{t e:Nat}{r:bI}(a:tab t=some r)(f:r.d=.slice e){g:List LV}(h:Shp tab t g):∃ c:List (List LV),g=[.sl 0 c.length c.flatten]/\c.length<=maxLen/\∀ x∈c,Shp tab e x:=by
 cases h with
 |slice c h1 h2 h3 h4=>
  grind
 |int n h1 h2 h3=>rw[h1]at a;injection a with a;subst a;rw[h2]at f;cases f
 |bool b h1 h2=>rw[h1]at a;injection a with a;subst a;rw[h2]at f;cases f
 |struct c h1 h2 _ _=>rw[h1]at a;injection a with a;subst a;rw[h2]at f;cases f
def AZ{t:Nat}{r:bI}{g:List (Nat×Nat)}(a:tab t=some r)(c:r.d=.struct g){j:List LV}(h:Shp tab t j):∃ e:List (List LV),j=e.flatten/\e.length=g.length/\∀(i:Nat) (f:Nat×Nat) (x:List LV),g[i]?=some f->e[i]?=some x->Shp tab f.2 x:=by
 cases h with
 |struct e h1 h2 h3 h4=>
  grind
 |int n h1 h2 h3=>rw[h1]at a;injection a with a;subst a;rw[h2]at c;cases c
 |bool b h1 h2=>rw[h1]at a;injection a with a;subst a;rw[h2]at c;cases c
 |slice es h1 h2 _ _=>rw[h1]at a;injection a with a;subst a;rw[h2]at c;cases c
theorem wf_u32{n:Int}(h:(Lit.int .u32 n).wf=true):nt n:=by simp[Lit.wf,show IntKind.u32.min=0 from rfl,show IntKind.u32.max=4294967295 from rfl]at h;exact⟨h.1,oO⟩
def Lb{a:List LV}(h:Shp tab 34 a):∃ n,a=[u n]/\nt n:=by
 obtain⟨n,b,c⟩:=MT rfl rfl h
 grind [wf_u32]
def WW{d:List LV}(h:Shp tab 22 d):∃ l:AN,d=[.sl 0 l.length (us l)]/\l.length<=maxLen/\∀ x∈l,nt x:=by
 obtain⟨a,b,e,c⟩:=Dy rfl rfl h;have:∃ l:AN,a=l.map (fun x=>[u x])/\∀ x∈l,nt x:=by
  clear b e;induction a with
  |nil=>simp_all
  |cons x a f=>obtain⟨l,j,m⟩:=f (fun y g=>c y (by grind));obtain⟨n,o,p⟩:=Lb (c x sS);exact⟨n::l,by grind,fun y g=>by grind⟩
 obtain⟨l,rfl,k⟩:=this;refine⟨l,?_,by grind,k⟩;rw[b];have:(l.map fun x=>[u x]).flatten=us l:=by
  clear b e c k;induction l with
  |nil=>rfl
  |cons x l f=>grind
 grind
def Xp{d:List LV}(h:Shp tab 36 d):∃ e:Ed,d=dl e/\e.ok:=by
 obtain⟨l,rfl,f,c⟩:=AZ rfl rfl h
 match l,f with
 |[p,q,r],_=>obtain⟨n,rfl,g⟩:=Lb (c 0 _ p rfl rfl);obtain⟨a,rfl,j⟩:=Lb (c 1 _ q rfl rfl);obtain⟨b,rfl,k⟩:=Lb (c 2 _ r rfl rfl);exact⟨⟨n,a,b⟩,rfl,g,j,k⟩
def VE{b:List LV}(h:Shp tab 23 b):∃ l:List Ed,b=[.sl 0 l.length (eds l)]/\l.length<=maxLen/\∀ x∈l,x.ok:=by
 obtain⟨a,d,e,c⟩:=Dy rfl rfl h;have:∃ l:List Ed,a=l.map dl/\∀ x∈l,x.ok:=by
  clear d e;induction a with
  |nil=>simp_all
  |cons x a g=>obtain⟨l,j,k⟩:=g (fun y f=>c y (by grind));obtain⟨n,m,o⟩:=Xp (c x sS);exact⟨n::l,by grind,fun y f=>by grind⟩
 grind
structure Gr where
 V:AN
 E:List Ed
 deriving DecidableEq
def Gr.ok(g:Gr):Prop:=(g.V.length<=maxLen/\∀ x∈g.V,nt x)/\g.E.length<=maxLen/\∀ x∈g.E,x.ok
abbrev bv(g:Gr):List LV:=[.sl 0 g.V.length (us g.V),.sl 0 g.E.length (eds g.E)]
def Xd{a:List LV}(h:Shp tab 25 a):∃ g:Gr,a=bv g/\g.ok:=by
 obtain⟨k,rfl,c,b⟩:=AZ rfl rfl h
 match k,c with
 |[p,q],_=>obtain⟨l,rfl,d,e⟩:=WW (b 0 _ p rfl rfl);obtain⟨m,rfl,f,j⟩:=VE (b 1 _ q rfl rfl);exact⟨⟨l,m⟩,rfl,⟨d,e⟩,f,j⟩
end Aw
end Go.Proofs.YtbgngpdonpeboaaGreatDoor
