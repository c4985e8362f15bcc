/- What a call made for itself alone is forgotten: behind it memory is told as before. No program is named here. -/
import Derived.Test.YtbgngpdonpeboaaGreatDoorAwSet
set_option linter.unusedVariables false
set_option linter.unusedSimpArgs false
namespace Go.Proofs.YtbgngpdonpeboaaGreatDoor
namespace Aw
open Go Go.RowKit
mutual
def bel(n:Nat):LV->Prop
 |.sl t _ cs=>(t=0\/t<n)/\gL n cs
 |.ms l _ _=>l<n
 |.ag cs=>gL n cs
 |.pt l _=>l<n
 |.ep cs=>gL n cs
 |.pe l cs=>l<n/\gL n cs
 |.kap l _ _=>l<n
 |.mp l=>l<n
 |.fn _ cs=>gL n cs
 |.tu cs=>gL n cs
 |.qu t _ _ cs=>t<n/\gL n cs
 |.dead=>True
 |.nil=>True
 |.emp=>True
 |.atom _=>True
def gL(n:Nat):List LV->Prop
 |[]=>True
 |c::cs=>bel n c/\gL n cs
end
def G.cut(g:G)(n:Nat):G:={ g with next:=n }
mutual
theorem Lv{w:World}{g:G}:∀(lv:LV) (v:Value),Rep w g lv v->bel g.next lv
 |.dead,_,_=>trivial
 |.nil,_,_=>trivial
 |.emp,_,_=>trivial
 |.atom _,_,_=>trivial
 |.sl t n cs,v,h=>by
  simp only[Rep,bel]at h ⊢;obtain⟨A,cap,_,_,_,ht,hc⟩:=h;refine⟨oO,?_⟩;cases cs with
  |nil=>grind [gL]
  |cons c cs=>obtain⟨b,o,_,hr⟩:=hc sS;exact lF b (c::cs) o hr
 |.ms l o n,v,h=>by
  grind [Rep,bel]
 |.ag cs,v,h=>by simp only[Rep,bel]at h ⊢;obtain⟨vs,_,h⟩:=h;exact lJ cs vs h
 |.pt l o,v,h=>by grind [Rep,bel]
 |.ep cs,v,h=>by simp only[Rep,bel]at h ⊢;obtain⟨b,o,_,h⟩:=h;exact lF b cs o h
 |.mp l,v,h=>by grind [Rep,bel]
 |.fn f cs,v,h=>by simp only[Rep,bel]at h ⊢;obtain⟨vs,_,h⟩:=h;exact lJ cs vs h
 |.tu cs,v,h=>by simp only[Rep,bel]at h ⊢;obtain⟨vs,_,h⟩:=h;exact lJ cs vs h
 |.qu t o n cs,v,h=>by
  simp only[Rep,bel]at h ⊢;obtain⟨A,cap,_,_,_,ht,_,_,hc⟩:=h;refine⟨ht,?_⟩;cases cs with
  |nil=>grind [gL]
  |cons c cs=>obtain⟨b,o,_,hr⟩:=hc sS;exact lF b (c::cs) o hr
 |.kap l n c,v,h=>by
  grind [Rep,bel]
 |.pe l cs,v,h=>by simp only[Rep,bel]at h ⊢;exact⟨h.2.1,lF _ cs 0 h.2.2⟩
theorem lJ{w:World}{g:G}:∀(cs:List LV) (vs:List Value),aC w g cs vs->gL g.next cs
 |[],_,_=>by grind [gL]
 |c::cs,vs,h=>by simp only[aC,gL]at h ⊢;obtain⟨v,vs',_,h1,h2⟩:=h;exact⟨Lv c v h1,lJ cs vs' h2⟩
theorem lF{w:World}{g:G}(b:Nat):∀(cs:List LV) (o:Nat),aN w g b cs o->gL g.next cs
 |[],_,_=>by grind [gL]
 |c::cs,o,h=>by simp only[aN,gL]at h ⊢;obtain⟨⟨v,_,h1,_⟩,h2⟩:=h;exact⟨Lv c v h1,lF b cs (o+1) h2⟩
end
mutual
theorem FX{w:World}{g:G}{k:Nat}:∀(lv:LV) (v:Value),bel k lv->Rep w g lv v->Rep w (g.cut k) lv v
 |.dead,_,_,h=>h
 |.nil,_,_,h=>h
 |.emp,_,_,h=>h
 |.atom _,_,_,h=>h
 |.sl t n cs,v,hb,h=>by
  simp only[Rep,bel]at h hb ⊢;obtain⟨A,cap,h1,h2,h3,ht,hc⟩:=h;refine⟨A,cap,h1,h2,h3,fun h0=>⟨(ht h0).1,(ht h0).2.1,?_⟩,fun c7=>?_⟩
  .rcases hb.1 with h4|h4
   .omega
   .exact h4
  .obtain⟨b,o,h4,hr⟩:=hc c7;exact⟨b,o,h4,lK b cs o hb.2 hr⟩
 |.ms l o n,v,hb,h=>by simp only[Rep,bel]at h hb ⊢;obtain⟨A,cap,h1,h2,h3,h4,h5,_⟩:=h;exact⟨A,cap,h1,h2,h3,h4,h5,hb⟩
 |.ag cs,v,hb,h=>by simp only[Rep,bel]at h hb ⊢;obtain⟨vs,h1,h⟩:=h;exact⟨vs,h1,lX cs vs hb h⟩
 |.pt l o,v,hb,h=>by simp only[Rep,bel]at h hb ⊢;exact⟨h.1,hb⟩
 |.ep cs,v,hb,h=>by simp only[Rep,bel]at h hb ⊢;obtain⟨b,o,h1,h⟩:=h;exact⟨b,o,h1,lK b cs o hb h⟩
 |.mp l,v,hb,h=>by simp only[Rep,bel]at h hb ⊢;exact⟨h.1,hb⟩
 |.fn f cs,v,hb,h=>by simp only[Rep,bel]at h hb ⊢;obtain⟨vs,h1,h⟩:=h;exact⟨vs,h1,lX cs vs hb h⟩
 |.tu cs,v,hb,h=>by simp only[Rep,bel]at h hb ⊢;obtain⟨vs,h1,h⟩:=h;exact⟨vs,h1,lX cs vs hb h⟩
 |.qu t o n cs,v,hb,h=>by simp only[Rep,bel]at h hb ⊢;obtain⟨A,cap,h1,h2,h3,_,h5,h6,hc⟩:=h;refine⟨A,cap,h1,h2,h3,hb.1,h5,h6,fun c7=>?_⟩;obtain⟨b,o,h4,hr⟩:=hc c7;exact⟨b,o,h4,lK b cs o hb.2 hr⟩
 |.kap l n c,v,hb,h=>by simp only[Rep,bel]at h hb ⊢;obtain⟨A,h1,h2,h3,h4,h5,h6⟩:=h;exact⟨A,h1,h2,h3,h4,hb,h6⟩
 |.pe l cs,v,hb,h=>by simp only[Rep,bel]at h hb ⊢;exact⟨h.1,hb.1,lK _ cs 0 hb.2 h.2.2⟩
theorem lX{w:World}{g:G}{k:Nat}:∀(cs:List LV) (vs:List Value),gL k cs->aC w g cs vs->aC w (g.cut k) cs vs
 |[],_,_,h=>h
 |c::cs,vs,hb,h=>by simp only[aC,gL]at h hb ⊢;obtain⟨v,vs',h0,h1,h2⟩:=h;exact⟨v,vs',h0,FX c v hb.1 h1,lX cs vs' hb.2 h2⟩
theorem lK{w:World}{g:G}{k:Nat}(b:Nat):∀(cs:List LV) (o:Nat),gL k cs->aN w g b cs o->aN w (g.cut k) b cs o
 |[],_,_,h=>h
 |c::cs,o,hb,h=>by simp only[aN,gL]at h hb ⊢;obtain⟨⟨v,h0,h1,h3⟩,h2⟩:=h;exact⟨⟨v,h0,FX c v hb.1 h1,h3⟩,lK b cs (o+1) hb.2 h2⟩
end
def SP(n:Nat):cN->Prop
 |.box _ _ cs=>gL n cs
 |.map _ _ es=>gL n (es.map (·.2))
 |.frz _ _ es=>gL n (es.map (·.2))
 |_=>True
theorem Tl{w:World}{g:G}{st:St}(hi:Inv w g st)(l:Nat):SP st.next (st.H l):=by
 rw[<- hi.next];cases h:st.H l with
 |box e s cs=>
  obtain⟨_,h1,h2⟩:=hi.box l e s cs h;cases hn:g.nl l with
  |true=>grind [SP,gL]
  |false=>obtain⟨n9,_,_,_,h3,_⟩:=h2 hn;exact lJ _ _ h3
 |map ag ks es=>obtain⟨_,_,cO,_,_,_,h3,_⟩:=hi.mp l ag ks es h;exact lJ _ _ h3
 |frz ag ks es=>obtain⟨_,_,_,cO,_,_,_,h3,_⟩:=hi.aside.frz l ag ks es h;exact lJ _ _ h3
 |_=>grind [SP]
theorem Yn{a b:St}(h:a.next=b.next)(hH:∀ l,a.H l=b.H l):a=b:=by
 obtain⟨n,H⟩:=a;obtain⟨m,K⟩:=b;simp only at h hH;subst h;have:H=K:=funext hH
 grind
def St.cut(st:St)(n:Nat):St:=⟨n,fun l=>if l<n then st.H l else .dead⟩
theorem WA{w:World}{g:G}{st:St}{n:Nat}(hi:Inv w g st)(hn:n<=st.next)(h0:0<n)(hb:∀ l,l<n->SP n (st.H l)):Inv w (g.cut n) (st.cut n):=by
 have hH:∀ {l:Nat} {o:cN},(st.cut n).H l=o->o≠.dead->l<n/\st.H l=o:=fun {l o} h ho=>by
  grind [St.cut]
 have hbk:∀ l,blk (g.cut n) (st.cut n) l->blk g st l:=fun l h=>by
  by_cases hl:l<n
  .have e:(st.cut n).H l=st.H l:=by simp only[St.cut];rw[aAj hl]
   unfold blk at h ⊢;rw[e]at h;exact h
  grind [blk]
 refine⟨rfl,h0,fun l hl=>?_,fun l hl=>hi.lt l (hbk l hl),fun l l' h1 h2=>hi.inj l l' (hbk l h1) (hbk l' h2),fun l e s k h=>?_,fun l e s cs h=>?_,fun l ag ks es h=>?_,fun l e k h=>?_,⟨fun l ag ks es h=>?_,fun l l' h1 h2=>?_,hi.aside.glob⟩⟩
 .grind [St.cut]
 .exact hi.own l e s k (hH h sS).2
 .obtain⟨hl,h⟩:=hH h sS;obtain⟨h1,h2,h3⟩:=hi.box l e s cs h;refine⟨h1,h2,fun r9=>?_⟩;obtain⟨n9,k1,k2,k3,k4,k5⟩:=h3 r9;have:=hb l hl;rw[h]at this;exact⟨n9,k1,k2,k3,lX _ _ this k4,k5⟩
 .obtain⟨hl,h⟩:=hH h sS;obtain⟨h1,h2,cO,clock,h3,h4,h5,h6⟩:=hi.mp l ag ks es h;have:=hb l hl;rw[h]at this;exact⟨h1,h2,cO,clock,h3,h4,lX _ _ this h5,h6⟩
 .exact hi.qu l e k (hH h sS).2
 .obtain⟨hl,h⟩:=hH h sS;obtain⟨h1,_,h2,cO,clock,h3,h4,h5,h6⟩:=hi.aside.frz l ag ks es h;have:=hb l hl;rw[h]at this;exact⟨h1,hl,h2,cO,clock,h3,h4,lX _ _ this h5,h6⟩
 .have key:∀ x,gR ((st.cut n).H x)=true->gR (st.H x)=true:=fun x hx=>by
   simp only[St.cut]at hx
   split at hx
   .omega
   simp_all
  exact hi.aside.one l l' (key l h1) (key l' h2)
variable {P:Program}
theorem qT{f:FuncId}{args:List LV}{st:St}{Q:LV->Prop}(h:aB P f args st fun r st'=>Q r/\aA st st')(hb:∀ r,Q r->bel st.next r):aB P f args st fun r st'=>Q r/\st'=st:=by
 refine⟨h.1,fun w g vs hi hr=>(h.2 w g vs hi hr).mono ?_⟩;rintro x w' ⟨v,r,st',g',rfl,⟨hq,hk⟩,K9,M4,he⟩;have hcut:st'.cut st.next=st:=Yn rfl fun l=>by
  simp only[St.cut]
  split
  .rename_i hl;exact hk.H l hl
  .exact(hi.fresh l oO).symm
 have U4:∀ l,l<st.next->SP st.next (st'.H l):=fun l hl=>by rw[hk.H l hl];grind [Tl]
 have hic:=WA M4 hk.next hi.pos U4;rw[hcut]at hic;refine⟨v,r,st,g'.cut st.next,rfl,⟨hq,rfl⟩,FX r v (hb r hq) K9,hic,?_⟩;exact⟨he.os,he.tape,he.output,he.size,by simp only[G.cut];rw[hi.next];omega,he.β,he.κ,he.nl,he.still,he.part⟩
end Aw
end Go.Proofs.YtbgngpdonpeboaaGreatDoor
