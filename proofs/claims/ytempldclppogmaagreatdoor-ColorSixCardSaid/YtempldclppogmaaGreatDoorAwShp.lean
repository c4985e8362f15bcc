/- The arguments' shapes, by the program's types: rows of numbers, edges, graphs, maps. -/
import Derived.Test.YtempldclppogmaaGreatDoorAwArg
import Derived.Test.YtempldclppogmaaGreatDoorAwSet
set_option linter.unusedVariables false
set_option linter.unusedSimpArgs false
namespace Go.Proofs.YtempldclppogmaaGreatDoor
namespace Aw
open Go Go.RowKit
def U32(x:Int):Prop:=0<=x/\x<4294967296
structure Ed where
 id:Int
 a:Int
 b:Int
 deriving DecidableEq
def Ed.ok(e:Ed):Prop:=U32 e.id/\U32 e.a/\U32 e.b
abbrev edL(e:Ed):List LV:=[u e.id,u e.a,u e.b]
abbrev eds(l:List Ed):List LV:=l.flatMap edL
theorem Qm{t:Nat}{r:bK}{k:IntKind}(ht:tab t=some r)(hd:r.d=.int k){ZL:List LV}(h:Shp tab t ZL):∃ n,ZL=[.atom (.int k n)]/\(Lit.int k n).wf=true:=by
 cases h with
 |int n h1 h2 h3=>rw[h1]at ht;injection ht with ht;subst ht;rw[h2]at hd;injection hd with hd;subst hd;exact⟨n,rfl,h3⟩
 |bool b h1 h2=>rw[h1]at ht;injection ht with ht;subst ht;rw[h2]at hd;cases hd
 |slice es h1 h2 _ _=>rw[h1]at ht;injection ht with ht;subst ht;rw[h2]at hd;cases hd
 |struct es h1 h2 _ _=>rw[h1]at ht;injection ht with ht;subst ht;rw[h2]at hd;cases hd
theorem DZ{t e:Nat}{r:bK}(ht:tab t=some r)(hd:r.d=.slice e){ZL:List LV}(h:Shp tab t ZL):∃ es:List (List LV),ZL=[.sl 0 es.length es.flatten]/\es.length<=maxLen/\∀ x∈es,Shp tab e x:=by
 cases h with
 |slice es h1 h2 h3 h4=>rw[h1]at ht;injection ht with ht;subst ht;rw[h2]at hd;injection hd with hd;subst hd;exact⟨es,rfl,h3,h4⟩
 |int n h1 h2 h3=>rw[h1]at ht;injection ht with ht;subst ht;rw[h2]at hd;cases hd
 |bool b h1 h2=>rw[h1]at ht;injection ht with ht;subst ht;rw[h2]at hd;cases hd
 |struct es h1 h2 _ _=>rw[h1]at ht;injection ht with ht;subst ht;rw[h2]at hd;cases hd
theorem AD{t:Nat}{r:bK}{fs:List (Nat×Nat)}(ht:tab t=some r)(hd:r.d=.struct fs){ZL:List LV}(h:Shp tab t ZL):∃ ps:List (List LV),ZL=ps.flatten/\ps.length=fs.length/\∀(i:Nat) (f:Nat×Nat) (x:List LV),fs[i]?=some f->ps[i]?=some x->Shp tab f.2 x:=by
 cases h with
 |struct ps h1 h2 h3 h4=>rw[h1]at ht;injection ht with ht;subst ht;rw[h2]at hd;injection hd with hd;subst hd;exact⟨ps,rfl,h3,h4⟩
 |int n h1 h2 h3=>rw[h1]at ht;injection ht with ht;subst ht;rw[h2]at hd;cases hd
 |bool b h1 h2=>rw[h1]at ht;injection ht with ht;subst ht;rw[h2]at hd;cases hd
 |slice es h1 h2 _ _=>rw[h1]at ht;injection ht with ht;subst ht;rw[h2]at hd;cases hd
theorem wf_u32{n:Int}(h:(Lit.int .u32 n).wf=true):U32 n:=by simp[Lit.wf,show IntKind.u32.min=0 from rfl,show IntKind.u32.max=4294967295 from rfl]at h;exact⟨h.1,oO⟩
theorem Jv{ZL:List LV}(h:Shp tab 34 ZL):∃ n,ZL=[u n]/\U32 n:=by obtain⟨n,h1,h2⟩:=Qm rfl rfl h;exact⟨n,h1,wf_u32 h2⟩
theorem QD{ZL:List LV}(h:Shp tab 22 ZL):∃ l:List Int,ZL=[.sl 0 l.length (us l)]/\l.length<=maxLen/\∀ x∈l,U32 x:=by
 obtain⟨es,h1,h2,h3⟩:=DZ rfl rfl h;have:∃ l:List Int,es=l.map (fun x=>[u x])/\∀ x∈l,U32 x:=by
  clear h1 h2;induction es with
  |nil=>exact⟨[],rfl,sS⟩
  |cons x es ih=>obtain⟨l,k1,k2⟩:=ih (fun y hy=>h3 y (by simp[hy]));obtain⟨n,k3,k4⟩:=Jv (h3 x sS);exact⟨n::l,by rw[k1,k3];rfl,fun y hy=>by rcases aAf.1 hy with rfl|hy;exact k4;exact k2 y hy⟩
 obtain⟨l,rfl,k⟩:=this;refine⟨l,?_,by simpa using h2,k⟩;rw[h1];have:(l.map fun x=>[u x]).flatten=us l:=by
  clear h1 h2 h3 k;induction l with
  |nil=>rfl
  |cons x l ih=>simp only[aAi,List.flatten_cons,ih,us];rfl
 rw[this];simp
theorem Ud{ZL:List LV}(h:Shp tab 56 ZL):∃ e:Ed,ZL=edL e/\e.ok:=by
 obtain⟨ps,rfl,h1,h2⟩:=AD rfl rfl h
 match ps,h1 with
 |[p,q,r],_=>obtain⟨n,rfl,k1⟩:=Jv (h2 0 _ p rfl rfl);obtain⟨a,rfl,k2⟩:=Jv (h2 1 _ q rfl rfl);obtain⟨b,rfl,k3⟩:=Jv (h2 2 _ r rfl rfl);exact⟨⟨n,a,b⟩,rfl,k1,k2,k3⟩
theorem Qi{ZL:List LV}(h:Shp tab 23 ZL):∃ l:List Ed,ZL=[.sl 0 l.length (eds l)]/\l.length<=maxLen/\∀ x∈l,x.ok:=by
 obtain⟨es,h1,h2,h3⟩:=DZ rfl rfl h;have:∃ l:List Ed,es=l.map edL/\∀ x∈l,x.ok:=by
  clear h1 h2;induction es with
  |nil=>exact⟨[],rfl,sS⟩
  |cons x es ih=>obtain⟨l,k1,k2⟩:=ih (fun y hy=>h3 y (by simp[hy]));obtain⟨n,k3,k4⟩:=Ud (h3 x sS);exact⟨n::l,by rw[k1,k3];rfl,fun y hy=>by rcases aAf.1 hy with rfl|hy;exact k4;exact k2 y hy⟩
 obtain⟨l,rfl,k⟩:=this;refine⟨l,?_,by simpa using h2,k⟩;rw[h1,aAz,<- List.flatMap_def]
structure Gr where
 vs:List Int
 es:List Ed
 deriving DecidableEq
def Gr.ok(g:Gr):Prop:=(g.vs.length<=maxLen/\∀ x∈g.vs,U32 x)/\g.es.length<=maxLen/\∀ x∈g.es,x.ok
abbrev grL(g:Gr):List LV:=[.sl 0 g.vs.length (us g.vs),.sl 0 g.es.length (eds g.es)]
theorem UJ{ZL:List LV}(h:Shp tab 25 ZL):∃ g:Gr,ZL=grL g/\g.ok:=by
 obtain⟨ps,rfl,h1,h2⟩:=AD rfl rfl h
 match ps,h1 with
 |[p,q],_=>obtain⟨l,rfl,k1,k2⟩:=QD (h2 0 _ p rfl rfl);obtain⟨m,rfl,k3,k4⟩:=Qi (h2 1 _ q rfl rfl);exact⟨⟨l,m⟩,rfl,⟨k1,k2⟩,k3,k4⟩
end Aw
end Go.Proofs.YtempldclppogmaaGreatDoor
