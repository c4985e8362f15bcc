/- Lemmas. -/
import Derived.Test.YtbgngpdonpeboaaGreatDoorAwSet
set_option linter.defProp false
namespace Go.Proofs.YtbgngpdonpeboaaGreatDoor
namespace Aw
open Go Go.RowKit
variable{ag:Bool}{g:G}{e m:Nat}{w:World}
def Inv.setMap{f:St}(h:Inv w g f){j:List IntKind}{t c:List (PP×LV)}(v:f.H m=.map ag j t)(D:Aq w g m ag j c):Inv w g (f.set m (.map ag j c)):=by
 have A:=h.map_lt v;have B:=h.z;have o:∀ x,blk g (f.set m (.map ag j c)) x↔blk g f x:=by
  intro x;unfold blk;rw[cC];by_cases a:x=m
  .grind
  .grind
 refine⟨h.z,h.pos,fun l q=>?_,fun x a=>h.lt x ((o x).1 a),fun x y a C=>h.inj x y ((o x).1 a) ((o y).1 C),fun x e s n a=>?_,fun x e s r a=>?_,fun x k p d a=>?_,fun x e n a=>?_,h.aside.keep (Ext.refl w g) (kI rfl)⟩
 .rw[bP]at q;rw[cC,aa O];exact h.fresh l q
 .rw[cC]at a;by_cases b:x=m
  .grind
  .rw[aa b]at a;exact h.own x e s n a
 .rw[cC]at a;by_cases b:x=m
  .grind
  .rw[aa b]at a;exact h.box x e s r a
 .rw[cC]at a;by_cases b:x=m
  .grind
  .rw[aa b]at a;exact h.mp x k p d a
 .rw[cC]at a;by_cases b:x=m
  .grind
  .rw[aa b]at a;exact h.qu x e n a
def QM{o:St}(r:Inv w g o){l n:Nat}{f:List IntKind}{pre post:List (PP×LV)}{k:PP}{q:QQ}(s:o.H m=.map ag f (pre++(k,.ms l 0 n)::post))(C:o.H l=.box e 1 q)(D:n=q.length):
 ∃ a,Inv w a ((o.set l .dead).set m (.map ag f (pre++(k,.sl 0 n q)::post)))/\Ext w g w a:=by
 obtain⟨Q,b,A,clock,K,L,x,M,B⟩:=r.mp m ag f _ s;rw[cz,ax]at x;obtain⟨v,P,F⟩:=oV (pre.map (·.2)) _ x
 obtain⟨a,y,J,z⟩:=jC (fr:=de (fun _=>.dead) 0 (.ms l 0 n)) 0 rfl C O { tmps:=#[v],defers:=[] } w g r (by
  intro j;unfold de;by_cases N:j=0
  .simp_all
  grind [Rep])
 have Tv:¬m=l:=fun h=>by grind
 have c:(o.set l .dead).H m=.map ag f (pre++(k,.ms l 0 n)::post):=by rw[cC,aa Tv];exact s
 obtain⟨_,_,_,_,_,_,_,I,_⟩:=y.mp m ag f _ c;have t:=r.map_lt s;have E:Rep w a (.sl 0 n q) v:=by have:=J 0;simpa[de,D]using this
 refine⟨a,y.setMap c ⟨O,?_,A,clock,by rw[z.β m t];omega,by grind,?_,I,B⟩,z⟩
 .intro p d;rcases am.1 d with d|d
  .grind
  .rcases ai.1 d with rfl|d
   .exact b (k,.ms l 0 n) Y
   grind
 grind
abbrev WQ:=PP×Nat×QQ
def Kc(L:List WQ):List (PP×LV):=L.map fun p=>(p.1,.ms p.2.1 0 p.2.2.length)
def Jz(L:List WQ):List (PP×LV):=L.map fun p=>(p.1,.sl 0 p.2.2.length p.2.2)
theorem CN{w:World}{m e:Nat}{ag:Bool}{ks:List IntKind}:∀(L:List WQ) (a:List (PP×LV)) (g:G) (c:St),Inv w g c->c.H m=.map ag ks (a++Kc L)->(∀ p∈L,c.H p.2.1=.box e 1 p.2.2)->(L.map fun p=>p.2.1).Nodup->
 ∃ q b,Inv w q b/\Ext w g w q/\b.z=c.z/\b.H m=.map ag ks (a++Jz L)/\∀ l,l≠m->(∀ p∈L,l≠p.2.1)->b.H l=c.H l
 |[],a,g,c,hi,hm,_,_=>⟨g,c,hi,Ext.refl w g,rfl,hm,fun _ _ _=>rfl⟩
 |p::L,a,g,c,hi,hm,hL,hnd=>by
  obtain⟨k,l,f⟩:=p;have x:=hL (k,l,f) Y;simp only[ax,bw]at hnd;obtain⟨r,t,v⟩:=QM hi (pre:=a) (k:=k) (n:=f.length) (post:=Kc L) hm x rfl;have Tv:∀ p∈L,¬p.2.1=l:=fun p d h=>hnd.1 (ao.2 ⟨p,d,h⟩);have y:∀ p∈L,¬p.2.1=m:=fun p d h=>by grind
  obtain⟨s,o,A,B,C,E,k5⟩:=CN (ag:=ag) (ks:=ks) (m:=m) (e:=e) L (a++[(k,.sl 0 f.length f)]) r _ t (by simp_all) (fun p d=>by grind [cC]) hnd.2;refine⟨s,o,A,v.trans B,C,by grind [Jz],fun D j d=>?_⟩;rw[k5 D j (fun p h=>d p (by grind)),cC,aa j,cC,aa (d (k,l,f) Y)]
def CH{P:Program}{f:FuncId}{args:QQ}{b:St}{k:List IntKind}{R:List WQ->Prop}
 (h:aD P f args b fun r a=>∃ m L,r=.mp m/\b.z<=m/\m<a.z/\aC b a/\a.H m=.map ag k (Kc L)/\(∀ p∈L,b.z<=p.2.1/\a.H p.2.1=.box e 1 p.2.2)/\(L.map fun p=>p.2.1).Nodup/\R L):
 aD P f args b fun r a=>∃ m L,r=.mp m/\b.z<=m/\m<a.z/\aC b a/\a.H m=.map ag k (Jz L)/\R L:=by
 refine⟨h.1,fun w g J C E=>(h.2 w g J C E).mono ?_⟩;rintro x N ⟨v,r,a,n,rfl,⟨m,L,rfl,q,K,s,t,y,A,B⟩,hrep,hi',he⟩;obtain⟨o,c,F,j,M,I,k5⟩:=CN L [] n a hi' t (fun p d=>(y p d).2) A;exact⟨v,.mp m,c,o,rfl,⟨m,L,rfl,q,O,⟨O,fun l D=>by rw[k5 l O (fun p d=>by grind)];exact s.H l D⟩,I,B⟩,Rep.mono j _ _ hrep,F,he.trans j⟩
end Aw
end Go.Proofs.YtbgngpdonpeboaaGreatDoor
