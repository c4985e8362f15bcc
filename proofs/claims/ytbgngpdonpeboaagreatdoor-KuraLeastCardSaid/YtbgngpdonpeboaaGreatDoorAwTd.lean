/- What a call made for itself alone is forgotten: behind it memory is told as before. No program is named here. -/
import Derived.Test.YtbgngpdonpeboaaGreatDoorAwSet
set_option linter.unusedVariables false
set_option linter.unusedSimpArgs false
namespace Go.Proofs.YtbgngpdonpeboaaGreatDoor
namespace Aw
open Go Go.RowKit
mutual
def bel(n:Nat):LV->Prop
 |.sl t _ cs=>(t=0\/t<n)/\fW n cs
 |.ms l _ _=>l<n
 |.ag cs=>fW n cs
 |.pt l _=>l<n
 |.ep cs=>fW n cs
 |.pe l cs=>l<n/\fW n cs
 |.kap l _ _=>l<n
 |.mp l=>l<n
 |.fn _ cs=>fW n cs
 |.tu cs=>fW n cs
 |.qu t _ _ cs=>t<n/\fW n cs
 |.dead=>True
 |.nil=>True
 |.emp=>True
 |.atom _=>True
def fW(n:Nat):List LV->Prop
 |[]=>True
 |c::cs=>bel n c/\fW n cs
end
def G.cut(g:G)(n:Nat):G:={ g with next:=n }
mutual
theorem Ky{w:World}{g:G}:∀(lv:LV) (v:Value),Rep w g lv v->bel g.next lv
 |.dead,_,_=>trivial
 |.nil,_,_=>trivial
 |.emp,_,_=>trivial
 |.atom _,_,_=>trivial
 |.sl t n cs,v,h=>by
  simp only[Rep,bel]at h ⊢;obtain⟨A,cap,_,_,_,ht,hc⟩:=h;refine⟨oO,?_⟩;cases cs with
  |nil=>grind [fW]
  |cons c cs=>obtain⟨b,o,_,hr⟩:=hc sS;exact lP b (c::cs) o hr
 |.ms l o n,v,h=>by
  grind [Rep,bel]
 |.ag cs,v,h=>by simp only[Rep,bel]at h ⊢;obtain⟨vs,_,h⟩:=h;exact kY cs vs h
 |.pt l o,v,h=>by grind [Rep,bel]
 |.ep cs,v,h=>by simp only[Rep,bel]at h ⊢;obtain⟨b,o,_,h⟩:=h;exact lP b cs o h
 |.mp l,v,h=>by grind [Rep,bel]
 |.fn f cs,v,h=>by simp only[Rep,bel]at h ⊢;obtain⟨vs,_,h⟩:=h;exact kY cs vs h
 |.tu cs,v,h=>by simp only[Rep,bel]at h ⊢;obtain⟨vs,_,h⟩:=h;exact kY cs vs h
 |.qu t o n cs,v,h=>by
  simp only[Rep,bel]at h ⊢;obtain⟨A,cap,_,_,_,ht,_,_,hc⟩:=h;refine⟨ht,?_⟩;cases cs with
  |nil=>grind [fW]
  |cons c cs=>obtain⟨b,o,_,hr⟩:=hc sS;exact lP b (c::cs) o hr
 |.kap l n c,v,h=>by
  grind [Rep,bel]
 |.pe l cs,v,h=>by simp only[Rep,bel]at h ⊢;exact⟨h.2.1,lP _ cs 0 h.2.2⟩
theorem kY{w:World}{g:G}:∀(cs:List LV) (vs:List Value),aC w g cs vs->fW g.next cs
 |[],_,_=>by grind [fW]
 |c::cs,vs,h=>by simp only[aC,fW]at h ⊢;obtain⟨v,vs',_,h1,h2⟩:=h;exact⟨Ky c v h1,kY cs vs' h2⟩
theorem lP{w:World}{g:G}(b:Nat):∀(cs:List LV) (o:Nat),aM w g b cs o->fW g.next cs
 |[],_,_=>by grind [fW]
 |c::cs,o,h=>by simp only[aM,fW]at h ⊢;obtain⟨⟨v,_,h1,_⟩,h2⟩:=h;exact⟨Ky c v h1,lP b cs (o+1) h2⟩
end
mutual
theorem FH{w:World}{g:G}{k:Nat}:∀(lv:LV) (v:Value),bel k lv->Rep w g lv v->Rep w (g.cut k) lv v
 |.dead,_,_,h=>h
 |.nil,_,_,h=>h
 |.emp,_,_,h=>h
 |.atom _,_,_,h=>h
 |.sl t n cs,v,hb,h=>by
  simp only[Rep,bel]at h hb ⊢;obtain⟨A,cap,h1,h2,h3,ht,hc⟩:=h;refine⟨A,cap,h1,h2,h3,fun h0=>⟨(ht h0).1,(ht h0).2.1,?_⟩,fun Zo=>?_⟩
  .rcases hb.1 with h4|h4
   .omega
   .exact h4
  .obtain⟨b,o,h4,hr⟩:=hc Zo;exact⟨b,o,h4,kT b cs o hb.2 hr⟩
 |.ms l o n,v,hb,h=>by simp only[Rep,bel]at h hb ⊢;obtain⟨A,cap,h1,h2,h3,h4,h5,_⟩:=h;exact⟨A,cap,h1,h2,h3,h4,h5,hb⟩
 |.ag cs,v,hb,h=>by simp only[Rep,bel]at h hb ⊢;obtain⟨vs,h1,h⟩:=h;exact⟨vs,h1,lI cs vs hb h⟩
 |.pt l o,v,hb,h=>by simp only[Rep,bel]at h hb ⊢;exact⟨h.1,hb⟩
 |.ep cs,v,hb,h=>by simp only[Rep,bel]at h hb ⊢;obtain⟨b,o,h1,h⟩:=h;exact⟨b,o,h1,kT b cs o hb h⟩
 |.mp l,v,hb,h=>by simp only[Rep,bel]at h hb ⊢;exact⟨h.1,hb⟩
 |.fn f cs,v,hb,h=>by simp only[Rep,bel]at h hb ⊢;obtain⟨vs,h1,h⟩:=h;exact⟨vs,h1,lI cs vs hb h⟩
 |.tu cs,v,hb,h=>by simp only[Rep,bel]at h hb ⊢;obtain⟨vs,h1,h⟩:=h;exact⟨vs,h1,lI cs vs hb h⟩
 |.qu t o n cs,v,hb,h=>by simp only[Rep,bel]at h hb ⊢;obtain⟨A,cap,h1,h2,h3,_,h5,h6,hc⟩:=h;refine⟨A,cap,h1,h2,h3,hb.1,h5,h6,fun Zo=>?_⟩;obtain⟨b,o,h4,hr⟩:=hc Zo;exact⟨b,o,h4,kT b cs o hb.2 hr⟩
 |.kap l n c,v,hb,h=>by simp only[Rep,bel]at h hb ⊢;obtain⟨A,h1,h2,h3,h4,h5,h6⟩:=h;exact⟨A,h1,h2,h3,h4,hb,h6⟩
 |.pe l cs,v,hb,h=>by simp only[Rep,bel]at h hb ⊢;exact⟨h.1,hb.1,kT _ cs 0 hb.2 h.2.2⟩
theorem lI{w:World}{g:G}{k:Nat}:∀(cs:List LV) (vs:List Value),fW k cs->aC w g cs vs->aC w (g.cut k) cs vs
 |[],_,_,h=>h
 |c::cs,vs,hb,h=>by simp only[aC,fW]at h hb ⊢;obtain⟨v,vs',h0,h1,h2⟩:=h;exact⟨v,vs',h0,FH c v hb.1 h1,lI cs vs' hb.2 h2⟩
theorem kT{w:World}{g:G}{k:Nat}(b:Nat):∀(cs:List LV) (o:Nat),fW k cs->aM w g b cs o->aM w (g.cut k) b cs o
 |[],_,_,h=>h
 |c::cs,o,hb,h=>by simp only[aM,fW]at h hb ⊢;obtain⟨⟨v,h0,h1,h3⟩,h2⟩:=h;exact⟨⟨v,h0,FH c v hb.1 h1,h3⟩,kT b cs (o+1) hb.2 h2⟩
end
def SK(n:Nat):cI->Prop
 |.box _ _ cs=>fW n cs
 |.map _ _ es=>fW n (es.map (·.2))
 |.frz _ _ es=>fW n (es.map (·.2))
 |_=>True
theorem Vc{w:World}{g:G}{st:St}(hi:Inv w g st)(l:Nat):SK st.next (st.H l):=by
 rw[<- hi.next];cases h:st.H l with
 |box e s cs=>
  obtain⟨_,h1,h2⟩:=hi.box l e s cs h;cases hn:g.nl l with
  |true=>grind [SK,fW]
  |false=>obtain⟨j8,_,_,_,h3,_⟩:=h2 hn;exact kY _ _ h3
 |map ag ks es=>obtain⟨_,_,cV,_,_,_,h3,_⟩:=hi.mp l ag ks es h;exact kY _ _ h3
 |frz ag ks es=>obtain⟨_,_,_,cV,_,_,_,h3,_⟩:=hi.aside.frz l ag ks es h;exact kY _ _ h3
 |_=>grind [SK]
theorem Yi{a b:St}(h:a.next=b.next)(hH:∀ l,a.H l=b.H l):a=b:=by
 obtain⟨n,H⟩:=a;obtain⟨m,K⟩:=b;simp only at h hH;subst h;have:H=K:=funext hH
 grind
def St.cut(st:St)(n:Nat):St:=⟨n,fun l=>if l<n then st.H l else .dead⟩
theorem Sz{w:World}{g:G}{st:St}{n:Nat}(hi:Inv w g st)(hn:n<=st.next)(h0:0<n)(hb:∀ l,l<n->SK n (st.H l)):Inv w (g.cut n) (st.cut n):=by
 have hH:∀ {l:Nat} {o:cI},(st.cut n).H l=o->o≠.dead->l<n/\st.H l=o:=fun {l o} h ho=>by
  grind [St.cut]
 have hbk:∀ l,blk (g.cut n) (st.cut n) l->blk g st l:=fun l h=>by
  by_cases hl:l<n
  .have e:(st.cut n).H l=st.H l:=by simp only[St.cut];rw[aAj hl]
   unfold blk at h ⊢;rw[e]at h;exact h
  grind [blk]
 refine⟨rfl,h0,fun l hl=>?_,fun l hl=>hi.lt l (hbk l hl),fun l l' h1 h2=>hi.inj l l' (hbk l h1) (hbk l' h2),fun l e s k h=>?_,fun l e s cs h=>?_,fun l ag ks es h=>?_,fun l e k h=>?_,⟨fun l ag ks es h=>?_,fun l l' h1 h2=>?_,hi.aside.glob⟩⟩
 .grind [St.cut]
 .exact hi.own l e s k (hH h sS).2
 .obtain⟨hl,h⟩:=hH h sS;obtain⟨h1,h2,h3⟩:=hi.box l e s cs h;refine⟨h1,h2,fun r8=>?_⟩;obtain⟨j8,k1,k2,k3,k4,k5⟩:=h3 r8;have:=hb l hl;rw[h]at this;exact⟨j8,k1,k2,k3,lI _ _ this k4,k5⟩
 .obtain⟨hl,h⟩:=hH h sS;obtain⟨h1,h2,cV,clock,h3,h4,h5,h6⟩:=hi.mp l ag ks es h;have:=hb l hl;rw[h]at this;exact⟨h1,h2,cV,clock,h3,h4,lI _ _ this h5,h6⟩
 .exact hi.qu l e k (hH h sS).2
 .obtain⟨hl,h⟩:=hH h sS;obtain⟨h1,_,h2,cV,clock,h3,h4,h5,h6⟩:=hi.aside.frz l ag ks es h;have:=hb l hl;rw[h]at this;exact⟨h1,hl,h2,cV,clock,h3,h4,lI _ _ this h5,h6⟩
 .have key:∀ x,gO ((st.cut n).H x)=true->gO (st.H x)=true:=fun x hx=>by
   simp only[St.cut]at hx
   split at hx
   .omega
   simp_all
  exact hi.aside.one l l' (key l h1) (key l' h2)
variable {P:Program}
theorem qT{f:FuncId}{args:List LV}{st:St}{Q:LV->Prop}(h:aB P f args st fun r st'=>Q r/\aA st st')(hb:∀ r,Q r->bel st.next r):aB P f args st fun r st'=>Q r/\st'=st:=by
 refine⟨h.1,fun w g vs hi hr=>(h.2 w g vs hi hr).mono ?_⟩;rintro x w' ⟨v,r,st',g',rfl,⟨hq,hk⟩,G9,I4,he⟩;have hcut:st'.cut st.next=st:=Yi rfl fun l=>by
  simp only[St.cut]
  split
  .rename_i hl;exact hk.H l hl
  .exact(hi.fresh l oO).symm
 have P0:∀ l,l<st.next->SK st.next (st'.H l):=fun l hl=>by rw[hk.H l hl];grind [Vc]
 have hic:=Sz I4 hk.next hi.pos P0;rw[hcut]at hic;refine⟨v,r,st,g'.cut st.next,rfl,⟨hq,rfl⟩,FH r v (hb r hq) G9,hic,?_⟩;exact⟨he.os,he.tape,he.output,he.size,by simp only[G.cut];rw[hi.next];omega,he.β,he.κ,he.nl,he.still,he.part⟩
end Aw
end Go.Proofs.YtbgngpdonpeboaaGreatDoor
