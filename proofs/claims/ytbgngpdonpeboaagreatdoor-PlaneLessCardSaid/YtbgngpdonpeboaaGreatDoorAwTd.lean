/- What a call made for itself alone is forgotten: behind it memory is told as before. No program is named here. -/
import Derived.Test.YtbgngpdonpeboaaGreatDoorAwSet
set_option linter.defProp false
set_option linter.unusedVariables false
set_option linter.unusedSimpArgs false
namespace Go.Proofs.YtbgngpdonpeboaaGreatDoor
namespace Aw
open Go Go.RowKit
mutual
def bel(n:Nat):LV->Prop
 |.sl t _ cs=>(t=0\/t<n)/\gJ n cs
 |.ms l _ _=>l<n
 |.ag cs=>gJ n cs
 |.pt l _=>l<n
 |.ep cs=>gJ n cs
 |.pe l cs=>l<n/\gJ n cs
 |.kap l _ _=>l<n
 |.mp l=>l<n
 |.fn _ cs=>gJ n cs
 |.tu cs=>gJ n cs
 |.qu t _ _ cs=>t<n/\gJ n cs
 |.dead=>True
 |.nil=>True
 |.emp=>True
 |.atom _=>True
def gJ(n:Nat):List LV->Prop
 |[]=>True
 |c::cs=>bel n c/\gJ n cs
end
def G.cut(g:G)(n:Nat):G:={ g with z:=n }
mutual
theorem Mr{w:World}{g:G}:∀(p:LV) (v:Value),Rep w g p v->bel g.z p
 |.dead,_,_=>trivial
 |.nil,_,_=>trivial
 |.emp,_,_=>trivial
 |.atom _,_,_=>trivial
 |.sl t n a,v,h=>by
  simp only[Rep,bel]at h ⊢;obtain⟨A,e,_,_,_,m,j⟩:=h;refine⟨oO,?_⟩;cases a with
  |nil=>grind [gJ]
  |cons c a=>obtain⟨b,o,_,k⟩:=j sS;exact kZ b (c::a) o k
 |.ms l o n,v,h=>by
  grind [Rep,bel]
 |.ag a,v,h=>by simp only[Rep,bel]at h ⊢;obtain⟨d,_,h⟩:=h;exact kX a d h
 |.pt l o,v,h=>by grind [Rep,bel]
 |.ep a,v,h=>by simp only[Rep,bel]at h ⊢;obtain⟨b,o,_,h⟩:=h;exact kZ b a o h
 |.mp l,v,h=>by grind [Rep,bel]
 |.fn f a,v,h=>by simp only[Rep,bel]at h ⊢;obtain⟨d,_,h⟩:=h;exact kX a d h
 |.tu a,v,h=>by simp only[Rep,bel]at h ⊢;obtain⟨d,_,h⟩:=h;exact kX a d h
 |.qu t o n a,v,h=>by
  simp only[Rep,bel]at h ⊢;obtain⟨A,e,_,_,_,m,_,_,j⟩:=h;refine⟨m,?_⟩;cases a with
  |nil=>grind [gJ]
  |cons c a=>obtain⟨b,o,_,k⟩:=j sS;exact kZ b (c::a) o k
 |.kap l n c,v,h=>by
  grind [Rep,bel]
 |.pe l a,v,h=>by simp only[Rep,bel]at h ⊢;exact⟨h.2.1,kZ _ a 0 h.2.2⟩
theorem kX{w:World}{g:G}:∀(a:List LV) (d:List Value),aC w g a d->gJ g.z a
 |[],_,_=>by grind [gJ]
 |c::a,d,h=>by simp only[aC,gJ]at h ⊢;obtain⟨v,b,_,e,f⟩:=h;exact⟨Mr c v e,kX a b f⟩
theorem kZ{w:World}{g:G}(b:Nat):∀(a:List LV) (o:Nat),aP w g b a o->gJ g.z a
 |[],_,_=>by grind [gJ]
 |c::a,o,h=>by simp only[aP,gJ]at h ⊢;obtain⟨⟨v,_,d,_⟩,h2⟩:=h;exact⟨Mr c v d,kZ b a (o+1) h2⟩
end
mutual
theorem Fh{w:World}{g:G}{k:Nat}:∀(z:LV) (v:Value),bel k z->Rep w g z v->Rep w (g.cut k) z v
 |.dead,_,_,h=>h
 |.nil,_,_,h=>h
 |.emp,_,_,h=>h
 |.atom _,_,_,h=>h
 |.sl t n cs,v,hb,h=>by
  simp only[Rep,bel]at h hb ⊢;obtain⟨A,d,a,m,p,C,x⟩:=h;refine⟨A,d,a,m,p,fun B=>⟨(C B).1,(C B).2.1,?_⟩,fun r=>?_⟩
  .rcases hb.1 with e|e
   .omega
   .exact e
  .obtain⟨b,o,e,y⟩:=x r;exact⟨b,o,e,lJ b cs o hb.2 y⟩
 |.ms l o n,v,hb,h=>by simp only[Rep,bel]at h hb ⊢;obtain⟨A,d,a,m,p,e,q,_⟩:=h;exact⟨A,d,a,m,p,e,q,hb⟩
 |.ag cs,v,hb,h=>by simp only[Rep,bel]at h hb ⊢;obtain⟨j,a,h⟩:=h;exact⟨j,a,kW cs j hb h⟩
 |.pt l o,v,hb,h=>by simp only[Rep,bel]at h hb ⊢;exact⟨h.1,hb⟩
 |.ep cs,v,hb,h=>by simp only[Rep,bel]at h hb ⊢;obtain⟨b,o,a,h⟩:=h;exact⟨b,o,a,lJ b cs o hb h⟩
 |.mp l,v,hb,h=>by simp only[Rep,bel]at h hb ⊢;exact⟨h.1,hb⟩
 |.fn f cs,v,hb,h=>by simp only[Rep,bel]at h hb ⊢;obtain⟨j,a,h⟩:=h;exact⟨j,a,kW cs j hb h⟩
 |.tu cs,v,hb,h=>by simp only[Rep,bel]at h hb ⊢;obtain⟨j,a,h⟩:=h;exact⟨j,a,kW cs j hb h⟩
 |.qu t o n cs,v,hb,h=>by simp only[Rep,bel]at h hb ⊢;obtain⟨A,d,a,m,p,_,q,s,x⟩:=h;refine⟨A,d,a,m,p,hb.1,q,s,fun r=>?_⟩;obtain⟨b,o,e,y⟩:=x r;exact⟨b,o,e,lJ b cs o hb.2 y⟩
 |.kap l n c,v,hb,h=>by simp only[Rep,bel]at h hb ⊢;obtain⟨A,a,m,p,e,q,s⟩:=h;exact⟨A,a,m,p,e,hb,s⟩
 |.pe l cs,v,hb,h=>by simp only[Rep,bel]at h hb ⊢;exact⟨h.1,hb.1,lJ _ cs 0 hb.2 h.2.2⟩
theorem kW{w:World}{g:G}{k:Nat}:∀(a:List LV) (d:List Value),gJ k a->aC w g a d->aC w (g.cut k) a d
 |[],_,_,h=>h
 |c::a,d,hb,h=>by simp only[aC,gJ]at h hb ⊢;obtain⟨v,b,e,f,j⟩:=h;exact⟨v,b,e,Fh c v hb.1 f,kW a b hb.2 j⟩
theorem lJ{w:World}{g:G}{k:Nat}(b:Nat):∀(a:List LV) (o:Nat),gJ k a->aP w g b a o->aP w (g.cut k) b a o
 |[],_,_,h=>h
 |c::a,o,hb,h=>by simp only[aP,gJ]at h hb ⊢;obtain⟨⟨v,d,e,f⟩,h2⟩:=h;exact⟨⟨v,d,Fh c v hb.1 e,f⟩,lJ b a (o+1) hb.2 h2⟩
end
def RS(n:Nat):cK->Prop
 |.box _ _ cs=>gJ n cs
 |.map _ _ es=>gJ n (es.map (·.2))
 |.frz _ _ es=>gJ n (es.map (·.2))
 |_=>True
theorem Ua{w:World}{g:G}{c:St}(b:Inv w g c)(l:Nat):RS c.z (c.H l):=by
 rw[<- b.z];cases h:c.H l with
 |box e s cs=>
  obtain⟨_,k,f⟩:=b.box l e s cs h;cases j:g.nl l with
  |true=>grind [RS,gJ]
  |false=>obtain⟨m,_,_,_,a,_⟩:=f j;exact kX _ _ a
 |map ag ks es=>obtain⟨_,_,d,_,_,_,a,_⟩:=b.mp l ag ks es h;exact kX _ _ a
 |frz ag ks es=>obtain⟨_,_,_,d,_,_,_,a,_⟩:=b.aside.frz l ag ks es h;exact kX _ _ a
 |_=>grind [RS]
def Yq{a b:St}(h:a.z=b.z)(hH:∀ l,a.H l=b.H l):a=b:=by
 obtain⟨n,H⟩:=a;obtain⟨m,K⟩:=b;simp only at h hH;subst h;have:H=K:=funext hH
 grind
def St.cut(a:St)(n:Nat):St:=⟨n,fun l=>if l<n then a.H l else .dead⟩
def Tf{w:World}{g:G}{a:St}{n:Nat}(f:Inv w g a)(Q:n<=a.z)(I:0<n)(C:∀ l,l<n->RS n (a.H l)):Inv w (g.cut n) (a.cut n):=by
 have p:∀ {l:Nat} {o:cK},(a.cut n).H l=o->o≠.dead->l<n/\a.H l=o:=fun {l o} h ho=>by
  grind [St.cut]
 have j:∀ l,blk (g.cut n) (a.cut n) l->blk g a l:=fun l h=>by
  by_cases b:l<n
  .have e:(a.cut n).H l=a.H l:=by simp only[St.cut];rw[ad b]
   unfold blk at h ⊢;rw[e]at h;exact h
  grind [blk]
 refine⟨rfl,I,fun l b=>?_,fun l b=>f.lt l (j l b),fun l r c d=>f.inj l r (j l c) (j r d),fun l e s k h=>?_,fun l e s F h=>?_,fun l ag D v h=>?_,fun l e k h=>?_,⟨fun l ag D v h=>?_,fun l r c d=>?_,f.aside.glob⟩⟩
 .grind [St.cut]
 .exact f.own l e s k (p h sS).2
 .obtain⟨b,h⟩:=p h sS;obtain⟨c,d,m⟩:=f.box l e s F h;refine⟨c,d,fun P=>?_⟩;obtain⟨O,J,K,L,M,N⟩:=m P;have:=C l b;rw[h]at this;exact⟨O,J,K,L,kW _ _ this M,N⟩
 .obtain⟨b,h⟩:=p h sS;obtain⟨c,d,t,clock,m,y,A,B⟩:=f.mp l ag D v h;have:=C l b;rw[h]at this;exact⟨c,d,t,clock,m,y,kW _ _ this A,B⟩
 .exact f.qu l e k (p h sS).2
 .obtain⟨b,h⟩:=p h sS;obtain⟨c,_,d,t,clock,m,y,A,B⟩:=f.aside.frz l ag D v h;have:=C l b;rw[h]at this;exact⟨c,b,d,t,clock,m,y,kW _ _ this A,B⟩
 .have q:∀ x,gL ((a.cut n).H x)=true->gL (a.H x)=true:=fun x E=>by
   simp only[St.cut]at E
   split at E
   .omega
   simp_all
  exact f.aside.one l r (q l c) (q r d)
variable {P:Program}
theorem qT{f:FuncId}{args:List LV}{b:St}{Q:LV->Prop}(h:aB P f args b fun r a=>Q r/\aA b a)(p:∀ r,Q r->bel b.z r):aB P f args b fun r a=>Q r/\a=b:=by
 refine⟨h.1,fun w g s e q=>(h.2 w g s e q).mono ?_⟩;rintro x t ⟨v,r,a,o,rfl,⟨m,j⟩,J5,K7,he⟩;have c:a.cut b.z=b:=Yq rfl fun l=>by
  simp only[St.cut]
  split
  .rename_i k;exact j.H l k
  .exact(e.fresh l oO).symm
 have n:∀ l,l<b.z->RS b.z (a.H l):=fun l k=>by rw[j.H l k];grind [Ua]
 have d:=Tf K7 j.z e.pos n;rw[c]at d;refine⟨v,r,b,o.cut b.z,rfl,⟨m,rfl⟩,Fh r v (p r m) J5,d,?_⟩;exact⟨he.os,he.tape,he.output,he.size,by simp only[G.cut];rw[e.z];omega,he.β,he.κ,he.nl,he.still,he.part⟩
end Aw
end Go.Proofs.YtbgngpdonpeboaaGreatDoor
