/- A map of rows, each behind a box of its own: the rows as values. No program is named here. -/
import Derived.Test.YtbgngpdonpeboaaGreatDoorAwSet
set_option linter.defProp false
set_option linter.unusedVariables false
set_option linter.unusedSimpArgs false
namespace Go.Proofs.YtbgngpdonpeboaaGreatDoor
namespace Aw
open Go Go.RowKit
def Inv.setMap{w:World}{g:G}{f:St}(h:Inv w g f){m:Nat}{ag:Bool}{j:List IntKind}{t c:List (AN×LV)}(v:f.H m=.map ag j t)(D:yC w g m ag j c):Inv w g (f.set m (.map ag j c)):=by
 have C:=h.map_lt v;have A:=h.z;have o:∀ x,blk g (f.set m (.map ag j c)) x↔blk g f x:=by
  intro x;unfold blk;rw[bP];by_cases a:x=m
  .grind
  .grind
 refine⟨h.z,h.pos,fun l p=>?_,fun x a=>h.lt x ((o x).1 a),fun x y a B=>h.inj x y ((o x).1 a) ((o y).1 B),fun x e s n a=>?_,fun x e s r a=>?_,fun x k q d a=>?_,fun x e n a=>?_,h.aside.keep (Ext.refl w g) (jM rfl)⟩
 .rw[bN]at p;rw[bP,ac oO];exact h.fresh l p
 .rw[bP]at a;by_cases b:x=m
  .grind
  .rw[ac b]at a;exact h.own x e s n a
 .rw[bP]at a;by_cases b:x=m
  .grind
  .rw[ac b]at a;exact h.box x e s r a
 .rw[bP]at a;by_cases b:x=m
  .grind
  .rw[ac b]at a;exact h.mp x k q d a
 .rw[bP]at a;by_cases b:x=m
  .grind
  .rw[ac b]at a;exact h.qu x e n a
def ND{w:World}{g:G}{o:St}(r:Inv w g o){m l n e:Nat}{ag:Bool}{f:List IntKind}{pre post:List (AN×LV)}{k:AN}{q:List LV}(s:o.H m=.map ag f (pre++(k,.ms l 0 n)::post))(D:o.H l=.box e 1 q)(E:n=q.length):
 ∃ a,Inv w a ((o.set l .dead).set m (.map ag f (pre++(k,.sl 0 n q)::post)))/\Ext w g w a:=by
 obtain⟨Q,b,B,clock,L,M,t,N,C⟩:=r.mp m ag f _ s;rw[cr,ax]at t;obtain⟨v,P,F⟩:=nK (pre.map (·.2)) _ t
 obtain⟨a,x,K,y⟩:=iH (fr:=cY (fun _=>.dead) 0 (.ms l 0 n)) 0 rfl D oO { tmps:=#[v],defers:=[] } w g r (by
  intro j;unfold cY;by_cases O:j=0
  .simp_all
  grind [Rep])
 have A:¬m=l:=fun h=>by grind
 have c:(o.set l .dead).H m=.map ag f (pre++(k,.ms l 0 n)::post):=by rw[bP,ac A];exact s
 obtain⟨_,_,_,_,_,_,_,J,_⟩:=x.mp m ag f _ c;have z:=r.map_lt s;have I:Rep w a (.sl 0 n q) v:=by have:=K 0;simpa[cY,E]using this
 refine⟨a,x.setMap c ⟨oO,?_,B,clock,by rw[y.β m z];omega,by grind,?_,J,C⟩,y⟩
 .intro p d;rcases an.1 d with d|d
  .grind
  .rcases ah.1 d with rfl|d
   .exact b (k,.ms l 0 n) sS
   grind
 grind
abbrev Tl:=AN×Nat×List LV
def IP(L:List Tl):List (AN×LV):=L.map fun p=>(p.1,.ms p.2.1 0 p.2.2.length)
def IY(L:List Tl):List (AN×LV):=L.map fun p=>(p.1,.sl 0 p.2.2.length p.2.2)
theorem Bt{w:World}{m e:Nat}{ag:Bool}{ks:List IntKind}:∀(L:List Tl) (a:List (AN×LV)) (g:G) (c:St),Inv w g c->c.H m=.map ag ks (a++IP L)->(∀ p∈L,c.H p.2.1=.box e 1 p.2.2)->(L.map fun p=>p.2.1).Nodup->
 ∃ q b,Inv w q b/\Ext w g w q/\b.z=c.z/\b.H m=.map ag ks (a++IY L)/\∀ l,l≠m->(∀ p∈L,l≠p.2.1)->b.H l=c.H l
 |[],a,g,c,hi,hm,_,_=>⟨g,c,hi,Ext.refl w g,rfl,hm,fun _ _ _=>rfl⟩
 |p::L,a,g,c,hi,hm,hL,hnd=>by
  obtain⟨k,l,f⟩:=p;have x:=hL (k,l,f) sS;simp only[ax,cb]at hnd;obtain⟨r,t,v⟩:=ND hi (pre:=a) (k:=k) (n:=f.length) (post:=IP L) hm x rfl;have F:∀ p∈L,¬p.2.1=l:=fun p d h=>hnd.1 (aq.2 ⟨p,d,h⟩);have y:∀ p∈L,¬p.2.1=m:=fun p d h=>by grind
  obtain⟨s,j,A,B,C,I,D⟩:=Bt (ag:=ag) (ks:=ks) (m:=m) (e:=e) L (a++[(k,.sl 0 f.length f)]) r _ t (by simp_all) (fun p d=>by grind [bP]) hnd.2;refine⟨s,j,A,v.trans B,C,by grind [IY],fun E o d=>?_⟩;rw[D E o (fun p h=>d p (by grind)),bP,ac o,bP,ac (d (k,l,f) sS)]
def CU{P:Program}{f:FuncId}{args:List LV}{b:St}{e:Nat}{ag:Bool}{k:List IntKind}{R:List Tl->Prop}
 (h:aB P f args b fun r a=>∃ m L,r=.mp m/\b.z<=m/\m<a.z/\aA b a/\a.H m=.map ag k (IP L)/\(∀ p∈L,b.z<=p.2.1/\a.H p.2.1=.box e 1 p.2.2)/\(L.map fun p=>p.2.1).Nodup/\R L):
 aB P f args b fun r a=>∃ m L,r=.mp m/\b.z<=m/\m<a.z/\aA b a/\a.H m=.map ag k (IY L)/\R L:=by
 refine⟨h.1,fun w g K C E=>(h.2 w g K C E).mono ?_⟩;rintro x O ⟨v,r,a,n,rfl,⟨m,L,rfl,q,M,s,t,y,A,B⟩,J5,K7,he⟩;obtain⟨o,c,F,j,N,I,J⟩:=Bt L [] n a K7 t (fun p d=>(y p d).2) A;exact⟨v,.mp m,c,o,rfl,⟨m,L,rfl,q,oO,⟨oO,fun l D=>by rw[J l oO (fun p d=>by grind)];exact s.H l D⟩,I,B⟩,Rep.mono j _ _ J5,F,he.trans j⟩
end Aw
end Go.Proofs.YtbgngpdonpeboaaGreatDoor
