/- What a call made for itself alone is forgotten: behind it memory is told as before. No program is named here. -/
import Derived.Test.YtempldclppogmaaGreatDoorAwSet
set_option linter.unusedVariables false
set_option linter.unusedSimpArgs false
namespace Go.Proofs.YtempldclppogmaaGreatDoor
namespace Aw
open Go Go.RowKit
mutual
def bel(n:Nat):LV->Prop
 |.sl t _ cs=>(t=0\/t<n)/\fG n cs
 |.ms l _ _=>l<n
 |.ag cs=>fG n cs
 |.pt l _=>l<n
 |.ep cs=>fG n cs
 |.pe l cs=>l<n/\fG n cs
 |.kap l _ _=>l<n
 |.mp l=>l<n
 |.fn _ cs=>fG n cs
 |.tu cs=>fG n cs
 |.qu t _ _ cs=>t<n/\fG n cs
 |.dead=>True
 |.nil=>True
 |.emp=>True
 |.atom _=>True
def fG(n:Nat):List LV->Prop
 |[]=>True
 |c::cs=>bel n c/\fG n cs
end
def G.cut(g:G)(n:Nat):G:={ g with next:=n }
mutual
theorem KQ{w:World}{g:G}:∀(lv:LV) (v:Value),Rep w g lv v->bel g.next lv
 |.dead,_,_=>trivial
 |.nil,_,_=>trivial
 |.emp,_,_=>trivial
 |.atom _,_,_=>trivial
 |.sl t n cs,v,h=>by
  simp only[Rep,bel]at h ⊢;obtain⟨A,cap,_,_,_,ht,hc⟩:=h;refine⟨by by_cases h0:t=0;exact .inl h0;exact .inr (ht h0).2.2,?_⟩;cases cs with
  |nil=>simp only[fG]
  |cons c cs=>obtain⟨b,o,_,hr⟩:=hc sS;exact kP b (c::cs) o hr
 |.ms l o n,v,h=>by simp only[Rep,bel]at h ⊢;obtain⟨A,cap,_,_,_,_,_,h⟩:=h;exact h
 |.ag cs,v,h=>by simp only[Rep,bel]at h ⊢;obtain⟨vs,_,h⟩:=h;exact kD cs vs h
 |.pt l o,v,h=>by simp only[Rep,bel]at h ⊢;exact h.2
 |.ep cs,v,h=>by simp only[Rep,bel]at h ⊢;obtain⟨b,o,_,h⟩:=h;exact kP b cs o h
 |.mp l,v,h=>by simp only[Rep,bel]at h ⊢;exact h.2
 |.fn f cs,v,h=>by simp only[Rep,bel]at h ⊢;obtain⟨vs,_,h⟩:=h;exact kD cs vs h
 |.tu cs,v,h=>by simp only[Rep,bel]at h ⊢;obtain⟨vs,_,h⟩:=h;exact kD cs vs h
 |.qu t o n cs,v,h=>by
  simp only[Rep,bel]at h ⊢;obtain⟨A,cap,_,_,_,ht,_,_,hc⟩:=h;refine⟨ht,?_⟩;cases cs with
  |nil=>simp only[fG]
  |cons c cs=>obtain⟨b,o,_,hr⟩:=hc sS;exact kP b (c::cs) o hr
 |.kap l n c,v,h=>by simp only[Rep,bel]at h ⊢;obtain⟨_,_,_,_,_,h5,_⟩:=h;exact h5
 |.pe l cs,v,h=>by simp only[Rep,bel]at h ⊢;exact⟨h.2.1,kP _ cs 0 h.2.2⟩
theorem kD{w:World}{g:G}:∀(cs:List LV) (vs:List Value),aC w g cs vs->fG g.next cs
 |[],_,_=>by simp only[fG]
 |c::cs,vs,h=>by simp only[aC,fG]at h ⊢;obtain⟨v,vs',_,h1,h2⟩:=h;exact⟨KQ c v h1,kD cs vs' h2⟩
theorem kP{w:World}{g:G}(b:Nat):∀(cs:List LV) (o:Nat),aT w g b cs o->fG g.next cs
 |[],_,_=>by simp only[fG]
 |c::cs,o,h=>by simp only[aT,fG]at h ⊢;obtain⟨⟨v,_,h1,_⟩,h2⟩:=h;exact⟨KQ c v h1,kP b cs (o+1) h2⟩
end
mutual
theorem De{w:World}{g:G}{k:Nat}:∀(lv:LV) (v:Value),bel k lv->Rep w g lv v->Rep w (g.cut k) lv v
 |.dead,_,_,h=>h
 |.nil,_,_,h=>h
 |.emp,_,_,h=>h
 |.atom _,_,_,h=>h
 |.sl t n cs,v,hb,h=>by
  simp only[Rep,bel]at h hb ⊢;obtain⟨A,cap,h1,h2,h3,ht,hc⟩:=h;refine⟨A,cap,h1,h2,h3,fun h0=>⟨(ht h0).1,(ht h0).2.1,?_⟩,fun Wx=>?_⟩
  .rcases hb.1 with h4|h4
   .exact absurd h4 h0
   .exact h4
  .obtain⟨b,o,h4,hr⟩:=hc Wx;exact⟨b,o,h4,kI b cs o hb.2 hr⟩
 |.ms l o n,v,hb,h=>by simp only[Rep,bel]at h hb ⊢;obtain⟨A,cap,h1,h2,h3,h4,h5,_⟩:=h;exact⟨A,cap,h1,h2,h3,h4,h5,hb⟩
 |.ag cs,v,hb,h=>by simp only[Rep,bel]at h hb ⊢;obtain⟨vs,h1,h⟩:=h;exact⟨vs,h1,kH cs vs hb h⟩
 |.pt l o,v,hb,h=>by simp only[Rep,bel]at h hb ⊢;exact⟨h.1,hb⟩
 |.ep cs,v,hb,h=>by simp only[Rep,bel]at h hb ⊢;obtain⟨b,o,h1,h⟩:=h;exact⟨b,o,h1,kI b cs o hb h⟩
 |.mp l,v,hb,h=>by simp only[Rep,bel]at h hb ⊢;exact⟨h.1,hb⟩
 |.fn f cs,v,hb,h=>by simp only[Rep,bel]at h hb ⊢;obtain⟨vs,h1,h⟩:=h;exact⟨vs,h1,kH cs vs hb h⟩
 |.tu cs,v,hb,h=>by simp only[Rep,bel]at h hb ⊢;obtain⟨vs,h1,h⟩:=h;exact⟨vs,h1,kH cs vs hb h⟩
 |.qu t o n cs,v,hb,h=>by simp only[Rep,bel]at h hb ⊢;obtain⟨A,cap,h1,h2,h3,_,h5,h6,hc⟩:=h;refine⟨A,cap,h1,h2,h3,hb.1,h5,h6,fun Wx=>?_⟩;obtain⟨b,o,h4,hr⟩:=hc Wx;exact⟨b,o,h4,kI b cs o hb.2 hr⟩
 |.kap l n c,v,hb,h=>by simp only[Rep,bel]at h hb ⊢;obtain⟨A,h1,h2,h3,h4,h5,h6⟩:=h;exact⟨A,h1,h2,h3,h4,hb,h6⟩
 |.pe l cs,v,hb,h=>by simp only[Rep,bel]at h hb ⊢;exact⟨h.1,hb.1,kI _ cs 0 hb.2 h.2.2⟩
theorem kH{w:World}{g:G}{k:Nat}:∀(cs:List LV) (vs:List Value),fG k cs->aC w g cs vs->aC w (g.cut k) cs vs
 |[],_,_,h=>h
 |c::cs,vs,hb,h=>by simp only[aC,fG]at h hb ⊢;obtain⟨v,vs',h0,h1,h2⟩:=h;exact⟨v,vs',h0,De c v hb.1 h1,kH cs vs' hb.2 h2⟩
theorem kI{w:World}{g:G}{k:Nat}(b:Nat):∀(cs:List LV) (o:Nat),fG k cs->aT w g b cs o->aT w (g.cut k) b cs o
 |[],_,_,h=>h
 |c::cs,o,hb,h=>by simp only[aT,fG]at h hb ⊢;obtain⟨⟨v,h0,h1,h3⟩,h2⟩:=h;exact⟨⟨v,h0,De c v hb.1 h1,h3⟩,kI b cs (o+1) hb.2 h2⟩
end
def Nm(n:Nat):cI->Prop
 |.box _ _ cs=>fG n cs
 |.map _ _ es=>fG n (es.map (·.2))
 |.frz _ _ es=>fG n (es.map (·.2))
 |_=>True
theorem Sa{w:World}{g:G}{st:St}(hi:Inv w g st)(l:Nat):Nm st.next (st.H l):=by
 rw[<- hi.next];cases h:st.H l with
 |box e s cs=>
  obtain⟨_,h1,h2⟩:=hi.box l e s cs h;cases hn:g.nl l with
  |true=>obtain⟨_,rfl⟩:=h1 hn;simp only[Nm,fG]
  |false=>obtain⟨Xo,_,_,_,h3,_⟩:=h2 hn;exact kD _ _ h3
 |map ag ks es=>obtain⟨_,_,Gz,_,_,_,h3,_⟩:=hi.mp l ag ks es h;exact kD _ _ h3
 |frz ag ks es=>obtain⟨_,_,_,Gz,_,_,_,h3,_⟩:=hi.aside.frz l ag ks es h;exact kD _ _ h3
 |_=>simp only[Nm]
theorem Vd{a b:St}(h:a.next=b.next)(hH:∀ l,a.H l=b.H l):a=b:=by obtain⟨n,H⟩:=a;obtain⟨m,K⟩:=b;simp only at h hH;subst h;have:H=K:=funext hH;rw[this]
def St.cut(st:St)(n:Nat):St:=⟨n,fun l=>if l<n then st.H l else .dead⟩
theorem Su{w:World}{g:G}{st:St}{n:Nat}(hi:Inv w g st)(hn:n<=st.next)(h0:0<n)(hb:∀ l,l<n->Nm n (st.H l)):Inv w (g.cut n) (st.cut n):=by
 have hH:∀ {l:Nat} {o:cI},(st.cut n).H l=o->o≠.dead->l<n/\st.H l=o:=fun {l o} h ho=>by
  simp only[St.cut]at h
  split at h
  .rename_i hl;exact⟨hl,h⟩
  .exact absurd h.symm ho
 have hbk:∀ l,blk (g.cut n) (st.cut n) l->blk g st l:=fun l h=>by
  by_cases hl:l<n
  .have e:(st.cut n).H l=st.H l:=by simp only[St.cut];rw[aAe hl]
   unfold blk at h ⊢;rw[e]at h;exact h
  .have e:(st.cut n).H l=.dead:=by simp only[St.cut];rw[aAa hl]
   unfold blk at h;rw[e]at h;exact h.elim
 refine⟨rfl,h0,fun l hl=>?_,fun l hl=>hi.lt l (hbk l hl),fun l l' h1 h2=>hi.inj l l' (hbk l h1) (hbk l' h2),fun l e s k h=>?_,fun l e s cs h=>?_,fun l ag ks es h=>?_,fun l e k h=>?_,⟨fun l ag ks es h=>?_,fun l l' h1 h2=>?_,hi.aside.glob⟩⟩
 .simp only[St.cut];rw[aAa (by simp only[St.cut]at hl;omega)]
 .exact hi.own l e s k (hH h sS).2
 .obtain⟨hl,h⟩:=hH h sS;obtain⟨h1,h2,h3⟩:=hi.box l e s cs h;refine⟨h1,h2,fun Xl=>?_⟩;obtain⟨Xo,k1,k2,k3,k4,k5⟩:=h3 Xl;have:=hb l hl;rw[h]at this;exact⟨Xo,k1,k2,k3,kH _ _ this k4,k5⟩
 .obtain⟨hl,h⟩:=hH h sS;obtain⟨h1,h2,Gz,clock,h3,h4,h5,h6⟩:=hi.mp l ag ks es h;have:=hb l hl;rw[h]at this;exact⟨h1,h2,Gz,clock,h3,h4,kH _ _ this h5,h6⟩
 .exact hi.qu l e k (hH h sS).2
 .obtain⟨hl,h⟩:=hH h sS;obtain⟨h1,_,h2,Gz,clock,h3,h4,h5,h6⟩:=hi.aside.frz l ag ks es h;have:=hb l hl;rw[h]at this;exact⟨h1,hl,h2,Gz,clock,h3,h4,kH _ _ this h5,h6⟩
 .have key:∀ x,fO ((st.cut n).H x)=true->fO (st.H x)=true:=fun x hx=>by
   simp only[St.cut]at hx
   split at hx
   .exact hx
   .cases hx
  exact hi.aside.one l l' (key l h1) (key l' h2)
variable {P:Program}
theorem qT{f:FuncId}{args:List LV}{st:St}{Q:LV->Prop}(h:aB P f args st fun r st'=>Q r/\aA st st')(hb:∀ r,Q r->bel st.next r):aB P f args st fun r st'=>Q r/\st'=st:=by
 refine⟨h.1,fun w g vs hi hr=>(h.2 w g vs hi hr).mono ?_⟩;rintro x w' ⟨v,r,st',g',rfl,⟨hq,hk⟩,YF,Yo,he⟩;have Y0:st'.cut st.next=st:=Vd rfl fun l=>by
  simp only[St.cut]
  split
  .rename_i hl;exact hk.H l hl
  .exact(hi.fresh l oO).symm
 have ZR:∀ l,l<st.next->Nm st.next (st'.H l):=fun l hl=>by rw[hk.H l hl];exact Sa hi l
 have hic:=Su Yo hk.next hi.pos ZR;rw[Y0]at hic;refine⟨v,r,st,g'.cut st.next,rfl,⟨hq,rfl⟩,De r v (hb r hq) YF,hic,?_⟩;exact⟨he.os,he.tape,he.output,he.size,by simp only[G.cut];rw[hi.next];exact aAi _,he.β,he.κ,he.nl,he.still,he.part⟩
end Aw
end Go.Proofs.YtempldclppogmaaGreatDoor
