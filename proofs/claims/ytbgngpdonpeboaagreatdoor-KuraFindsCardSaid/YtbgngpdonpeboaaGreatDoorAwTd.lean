/- Lemmas. -/
import Derived.Test.YtbgngpdonpeboaaGreatDoorAwSet
set_option linter.defProp false
namespace Go.Proofs.YtbgngpdonpeboaaGreatDoor
namespace Aw
open Go Go.RowKit
mutual
def bel(n:Nat):LV->Prop
 |.sl t _ cs=>(t=0\/t<n)/\iD n cs
 |.ms l _ _=>l<n
 |.ag cs=>iD n cs
 |.pt l _=>l<n
 |.ep cs=>iD n cs
 |.pe l cs=>l<n/\iD n cs
 |.kap l _ _=>l<n
 |.mp l=>l<n
 |.fn _ cs=>iD n cs
 |.tu cs=>iD n cs
 |.qu t _ _ cs=>t<n/\iD n cs
 |.dead=>True
 |.nil=>True
 |.emp=>True
 |.atom _=>True
def iD(n:Nat):QQ->Prop
 |[]=>True
 |c::cs=>bel n c/\iD n cs
end
def G.cut(g:G)(n:Nat):G:={ g with z:=n }
mutual
theorem OC{w:World}{g:G}:∀(p:LV) (v:Value),Rep w g p v->bel g.z p
 |.dead,_,_=>trivial
 |.nil,_,_=>trivial
 |.emp,_,_=>trivial
 |.atom _,_,_=>trivial
 |.sl t n a,v,h=>by
  simp only[Rep,bel]at h ⊢;obtain⟨A,e,_,_,_,m,j⟩:=h;refine⟨O,?_⟩;cases a with
  |nil=>grind [iD]
  |cons c a=>obtain⟨b,o,_,k⟩:=j Y;exact mL b (c::a) o k
 |.ms l o n,v,h=>by
  grind [Rep,bel]
 |.ag a,v,h=>by simp only[Rep,bel]at h ⊢;obtain⟨d,_,h⟩:=h;exact mJ a d h
 |.pt l o,v,h=>by grind [Rep,bel]
 |.ep a,v,h=>by simp only[Rep,bel]at h ⊢;obtain⟨b,o,_,h⟩:=h;exact mL b a o h
 |.mp l,v,h=>by grind [Rep,bel]
 |.fn f a,v,h=>by simp only[Rep,bel]at h ⊢;obtain⟨d,_,h⟩:=h;exact mJ a d h
 |.tu a,v,h=>by simp only[Rep,bel]at h ⊢;obtain⟨d,_,h⟩:=h;exact mJ a d h
 |.qu t o n a,v,h=>by
  simp only[Rep,bel]at h ⊢;obtain⟨A,e,_,_,_,m,_,_,j⟩:=h;refine⟨m,?_⟩;cases a with
  |nil=>grind [iD]
  |cons c a=>obtain⟨b,o,_,k⟩:=j Y;exact mL b (c::a) o k
 |.kap l n c,v,h=>by
  grind [Rep,bel]
 |.pe l a,v,h=>by simp only[Rep,bel]at h ⊢;exact⟨h.2.1,mL _ a 0 h.2.2⟩
theorem mJ{w:World}{g:G}:∀(a:QQ) (d:List Value),aG w g a d->iD g.z a
 |[],_,_=>by grind [iD]
 |c::a,d,h=>by simp only[aG,iD]at h ⊢;obtain⟨v,b,_,e,f⟩:=h;exact⟨OC c v e,mJ a b f⟩
theorem mL{w:World}{g:G}(b:Nat):∀(a:QQ) (o:Nat),aR w g b a o->iD g.z a
 |[],_,_=>by grind [iD]
 |c::a,o,h=>by simp only[aR,iD]at h ⊢;obtain⟨⟨v,_,d,_⟩,h2⟩:=h;exact⟨OC c v d,mL b a (o+1) h2⟩
end
mutual
theorem HS{w:World}{g:G}{k:Nat}:∀(y:LV) (v:Value),bel k y->Rep w g y v->Rep w (g.cut k) y v
 |.dead,_,_,h=>h
 |.nil,_,_,h=>h
 |.emp,_,_,h=>h
 |.atom _,_,_,h=>h
 |.sl t n cs,v,hb,h=>by
  simp only[Rep,bel]at h hb ⊢;obtain⟨A,d,a,m,p,B,s⟩:=h;refine⟨A,d,a,m,p,fun z=>⟨(B z).1,(B z).2.1,?_⟩,fun Tv=>?_⟩
  .rcases hb.1 with e|e
   .omega
   .exact e
  .obtain⟨b,o,e,x⟩:=s Tv;exact⟨b,o,e,mR b cs o hb.2 x⟩
 |.ms l o n,v,hb,h=>by simp only[Rep,bel]at h hb ⊢;obtain⟨A,d,a,m,p,e,q,_⟩:=h;exact⟨A,d,a,m,p,e,q,hb⟩
 |.ag cs,v,hb,h=>by simp only[Rep,bel]at h hb ⊢;obtain⟨j,a,h⟩:=h;exact⟨j,a,mI cs j hb h⟩
 |.pt l o,v,hb,h=>by simp only[Rep,bel]at h hb ⊢;exact⟨h.1,hb⟩
 |.ep cs,v,hb,h=>by simp only[Rep,bel]at h hb ⊢;obtain⟨b,o,a,h⟩:=h;exact⟨b,o,a,mR b cs o hb h⟩
 |.mp l,v,hb,h=>by simp only[Rep,bel]at h hb ⊢;exact⟨h.1,hb⟩
 |.fn f cs,v,hb,h=>by simp only[Rep,bel]at h hb ⊢;obtain⟨j,a,h⟩:=h;exact⟨j,a,mI cs j hb h⟩
 |.tu cs,v,hb,h=>by simp only[Rep,bel]at h hb ⊢;obtain⟨j,a,h⟩:=h;exact⟨j,a,mI cs j hb h⟩
 |.qu t o n cs,v,hb,h=>by simp only[Rep,bel]at h hb ⊢;obtain⟨A,d,a,m,p,_,q,r,s⟩:=h;refine⟨A,d,a,m,p,hb.1,q,r,fun Tv=>?_⟩;obtain⟨b,o,e,x⟩:=s Tv;exact⟨b,o,e,mR b cs o hb.2 x⟩
 |.kap l n c,v,hb,h=>by simp only[Rep,bel]at h hb ⊢;obtain⟨A,a,m,p,e,q,r⟩:=h;exact⟨A,a,m,p,e,hb,r⟩
 |.pe l cs,v,hb,h=>by simp only[Rep,bel]at h hb ⊢;exact⟨h.1,hb.1,mR _ cs 0 hb.2 h.2.2⟩
theorem mI{w:World}{g:G}{k:Nat}:∀(a:QQ) (d:List Value),iD k a->aG w g a d->aG w (g.cut k) a d
 |[],_,_,h=>h
 |c::a,d,hb,h=>by simp only[aG,iD]at h hb ⊢;obtain⟨v,b,e,f,j⟩:=h;exact⟨v,b,e,HS c v hb.1 f,mI a b hb.2 j⟩
theorem mR{w:World}{g:G}{k:Nat}(b:Nat):∀(a:QQ) (o:Nat),iD k a->aR w g b a o->aR w (g.cut k) b a o
 |[],_,_,h=>h
 |c::a,o,hb,h=>by simp only[aR,iD]at h hb ⊢;obtain⟨⟨v,d,e,f⟩,h2⟩:=h;exact⟨⟨v,d,HS c v hb.1 e,f⟩,mR b a (o+1) hb.2 h2⟩
end
def Sv(n:Nat):cT->Prop
 |.box _ _ cs=>iD n cs
 |.map _ _ es=>iD n (es.map (·.2))
 |.frz _ _ es=>iD n (es.map (·.2))
 |_=>True
variable{g:G}{w:World}
theorem VZ{c:St}(b:Inv w g c)(l:Nat):Sv c.z (c.H l):=by
 rw[<- b.z];cases h:c.H l with
 |box e s cs=>
  obtain⟨_,k,f⟩:=b.box l e s cs h;cases j:g.nl l with
  |true=>grind [Sv,iD]
  |false=>obtain⟨m,_,_,_,a,_⟩:=f j;exact mJ _ _ a
 |map ag ks es=>obtain⟨_,_,d,_,_,_,a,_⟩:=b.mp l ag ks es h;exact mJ _ _ a
 |frz ag ks es=>obtain⟨_,_,_,d,_,_,_,a,_⟩:=b.aside.frz l ag ks es h;exact mJ _ _ a
 |_=>grind [Sv]
variable{a:St}
variable{b:St}
def F6(h:a.z=b.z)(hH:∀ l,a.H l=b.H l):a=b:=by
 obtain⟨n,H⟩:=a;obtain⟨m,K⟩:=b;simp only at h hH;subst h;have:H=K:=funext hH
 grind
def St.cut(a:St)(n:Nat):St:=⟨n,fun l=>if l<n then a.H l else .dead⟩
def XT{n:Nat}(f:Inv w g a)(Q:n<=a.z)(I:0<n)(C:∀ l,l<n->Sv n (a.H l)):Inv w (g.cut n) (a.cut n):=by
 have p:∀ {l:Nat} {o:cT},(a.cut n).H l=o->o≠.dead->l<n/\a.H l=o:=fun {l o} h ho=>by
  grind [St.cut]
 have j:∀ l,blk (g.cut n) (a.cut n) l->blk g a l:=fun l h=>by
  by_cases b:l<n
  .have e:(a.cut n).H l=a.H l:=by simp only[St.cut];rw[ac b]
   unfold blk at h ⊢;rw[e]at h;exact h
  grind [blk]
 refine⟨rfl,I,fun l b=>?_,fun l b=>f.lt l (j l b),fun l r c d=>f.inj l r (j l c) (j r d),fun l e s k h=>?_,fun l e s F h=>?_,fun l ag D v h=>?_,fun l e k h=>?_,⟨fun l ag D v h=>?_,fun l r c d=>?_,f.aside.glob⟩⟩
 .grind [St.cut]
 .exact f.own l e s k (p h Y).2
 .obtain⟨b,h⟩:=p h Y;obtain⟨c,d,m⟩:=f.box l e s F h;refine⟨c,d,fun P=>?_⟩;obtain⟨N,J,K,L,M,k5⟩:=m P;have:=C l b;rw[h]at this;exact⟨N,J,K,L,mI _ _ this M,k5⟩
 .obtain⟨b,h⟩:=p h Y;obtain⟨c,d,t,clock,m,y,A,B⟩:=f.mp l ag D v h;have:=C l b;rw[h]at this;exact⟨c,d,t,clock,m,y,mI _ _ this A,B⟩
 .exact f.qu l e k (p h Y).2
 .obtain⟨b,h⟩:=p h Y;obtain⟨c,_,d,t,clock,m,y,A,B⟩:=f.aside.frz l ag D v h;have:=C l b;rw[h]at this;exact⟨c,b,d,t,clock,m,y,mI _ _ this A,B⟩
 .have q:∀ x,iQ ((a.cut n).H x)=true->iQ (a.H x)=true:=fun x E=>by
   simp only[St.cut]at E
   split at E
   .omega
   simp_all
  exact f.aside.one l r (q l c) (q r d)
variable {P:Program}
theorem qT{f:FuncId}{args:QQ}{Q:LV->Prop}(h:aD P f args b fun r a=>Q r/\aC b a)(p:∀ r,Q r->bel b.z r):aD P f args b fun r a=>Q r/\a=b:=by
 refine⟨h.1,fun w g s e q=>(h.2 w g s e q).mono ?_⟩;rintro x t ⟨v,r,a,o,rfl,⟨n,k⟩,hrep,hi',he⟩;have c:a.cut b.z=b:=F6 rfl fun l=>by
  simp only[St.cut]
  split
  .rename_i m;exact k.H l m
  .exact(e.fresh l O).symm
 have j:∀ l,l<b.z->Sv b.z (a.H l):=fun l m=>by rw[k.H l m];grind [VZ]
 have d:=XT hi' k.z e.pos j;rw[c]at d;refine⟨v,r,b,o.cut b.z,rfl,⟨n,rfl⟩,HS r v (p r n) hrep,d,?_⟩;exact⟨he.os,he.tape,he.output,he.size,by simp only[G.cut];rw[e.z];omega,he.β,he.κ,he.nl,he.still,he.part⟩
end Aw
end Go.Proofs.YtbgngpdonpeboaaGreatDoor
