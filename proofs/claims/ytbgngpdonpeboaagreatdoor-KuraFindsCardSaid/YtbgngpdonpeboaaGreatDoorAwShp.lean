/- Lemmas. -/
import Derived.Test.YtbgngpdonpeboaaGreatDoorAwArg
import Derived.Test.YtbgngpdonpeboaaGreatDoorAwSet
set_option linter.defProp false
namespace Go.Proofs.YtbgngpdonpeboaaGreatDoor
namespace Aw
open Go Go.RowKit
def oz(x:Int):Prop:=0<=x/\x<4294967296
structure Ed where
 id:Int
 a:Int
 b:Int
 deriving DecidableEq
abbrev QR:=List Ed
def Ed.ok(e:Ed):Prop:=oz e.id/\oz e.a/\oz e.b
abbrev dv(e:Ed):QQ:=[u e.id,u e.a,u e.b]
abbrev eds(l:QR):QQ:=l.flatMap dv
variable{a e:List LV}{t:Nat}{r:bQ}
def Xt{k:IntKind}(a:tab t=some r)(c:r.d=.int k)(h:Shp tab t e):∃ n,e=[.atom (.int k n)]/\(Lit.int k n).wf=true:=by
 cases h with
 |int n h1 h2 h3=>
  grind
 |bool b h1 h2=>rw[h1]at a;injection a with a;subst a;rw[h2]at c;cases c
 |slice es h1 h2 _ _=>rw[h1]at a;injection a with a;subst a;rw[h2]at c;cases c
 |struct es h1 h2 _ _=>rw[h1]at a;injection a with a;subst a;rw[h2]at c;cases c
def Ei{e:Nat}(a:tab t=some r)(f:r.d=.slice e){g:QQ}(h:Shp tab t g):∃ c:List QQ,g=[.sl 0 c.length c.flatten]/\c.length<=maxLen/\∀ x∈c,Shp tab e x:=by
 cases h with
 |slice c h1 h2 h3 h4=>
  grind
 |int n h1 h2 h3=>rw[h1]at a;injection a with a;subst a;rw[h2]at f;cases f
 |bool b h1 h2=>rw[h1]at a;injection a with a;subst a;rw[h2]at f;cases f
 |struct c h1 h2 _ _=>rw[h1]at a;injection a with a;subst a;rw[h2]at f;cases f
def CA{j:List (Nat×Nat)}(a:tab t=some r)(c:r.d=.struct j)(h:Shp tab t e):∃ g:List QQ,e=g.flatten/\g.length=j.length/\∀(i:Nat) (f:Nat×Nat) (x:QQ),j[i]?=some f->g[i]?=some x->Shp tab f.2 x:=by
 cases h with
 |struct g h1 h2 h3 h4=>
  grind
 |int n h1 h2 h3=>rw[h1]at a;injection a with a;subst a;rw[h2]at c;cases c
 |bool b h1 h2=>rw[h1]at a;injection a with a;subst a;rw[h2]at c;cases c
 |slice es h1 h2 _ _=>rw[h1]at a;injection a with a;subst a;rw[h2]at c;cases c
theorem wf_u32{n:Int}(h:(Lit.int .u32 n).wf=true):oz n:=by simp[Lit.wf,show IntKind.u32.min=0 from rfl,show IntKind.u32.max=4294967295 from rfl]at h;exact⟨h.1,O⟩
def OV(h:Shp tab 34 a):∃ n,a=[u n]/\oz n:=by
 obtain⟨n,b,c⟩:=Xt rfl rfl h
 grind [wf_u32]
def D4(h:Shp tab 22 a):∃ l:PP,a=[.sl 0 l.length (us l)]/\l.length<=maxLen/\∀ x∈l,oz x:=by
 obtain⟨b,c,e,d⟩:=Ei rfl rfl h;have:∃ l:PP,b=l.map (fun x=>[u x])/\∀ x∈l,oz x:=by
  clear c e;induction b with
  |nil=>simp_all
  |cons x b f=>obtain⟨l,j,m⟩:=f (fun y g=>d y (by grind));obtain⟨n,o,p⟩:=OV (d x Y);exact⟨n::l,by grind,fun y g=>by grind⟩
 obtain⟨l,rfl,k⟩:=this;refine⟨l,?_,by grind,k⟩;rw[c];have:(l.map fun x=>[u x]).flatten=us l:=by
  clear c e d k;induction l with
  |nil=>rfl
  |cons x l f=>grind
 grind
def Yw{c:QQ}(h:Shp tab 36 c):∃ e:Ed,c=dv e/\e.ok:=by
 obtain⟨l,rfl,f,d⟩:=CA rfl rfl h
 match l,f with
 |[p,q,r],_=>obtain⟨n,rfl,g⟩:=OV (d 0 _ p rfl rfl);obtain⟨a,rfl,j⟩:=OV (d 1 _ q rfl rfl);obtain⟨b,rfl,k⟩:=OV (d 2 _ r rfl rfl);exact⟨⟨n,a,b⟩,rfl,g,j,k⟩
def Xy(h:Shp tab 23 a):∃ l:QR,a=[.sl 0 l.length (eds l)]/\l.length<=maxLen/\∀ x∈l,x.ok:=by
 obtain⟨b,d,e,c⟩:=Ei rfl rfl h;have:∃ l:QR,b=l.map dv/\∀ x∈l,x.ok:=by
  clear d e;induction b with
  |nil=>simp_all
  |cons x b g=>obtain⟨l,j,k⟩:=g (fun y f=>c y (by grind));obtain⟨n,m,o⟩:=Yw (c x Y);exact⟨n::l,by grind,fun y f=>by grind⟩
 grind
structure Gr where
 V:PP
 E:QR
 deriving DecidableEq
def Gr.ok(g:Gr):Prop:=(g.V.length<=maxLen/\∀ x∈g.V,oz x)/\g.E.length<=maxLen/\∀ x∈g.E,x.ok
abbrev aw(g:Gr):QQ:=[.sl 0 g.V.length (us g.V),.sl 0 g.E.length (eds g.E)]
def ZF(h:Shp tab 25 a):∃ g:Gr,a=aw g/\g.ok:=by
 obtain⟨k,rfl,c,b⟩:=CA rfl rfl h
 match k,c with
 |[p,q],_=>obtain⟨l,rfl,d,e⟩:=D4 (b 0 _ p rfl rfl);obtain⟨m,rfl,f,j⟩:=Xy (b 1 _ q rfl rfl);exact⟨⟨l,m⟩,rfl,⟨d,e⟩,f,j⟩
end Aw
end Go.Proofs.YtbgngpdonpeboaaGreatDoor
