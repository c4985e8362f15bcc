/- Lemmas. -/
import Derived.Test.YtbgngpdonpeboaaGreatDoorAwRun
import Derived.Maps.RangeRun
set_option linter.defProp false
namespace Go.Proofs.YtbgngpdonpeboaaGreatDoor
namespace Aw
open Go Go.RowKit
open Go.ChangeMaps (setBlock)
structure sR(w:World)(g:G)(w':World)(g':G):Prop where
 z:g.z<=g'.z
 β:∀ l,l<g.z->g'.β l=g.β l
 κ:∀ l,l<g.z->g'.κ l=g.κ l
 nl:∀ l,l<g.z->g'.nl l=g.nl l
 cell:∀ b o v,w.cell? ⟨b,o,none⟩=some v->g.ok b o->w'.cell? ⟨b,o,none⟩=some v/\g'.ok b o
mutual
theorem Rep.monoR{w I:World}{g F:G}(h:sR w g I F):∀(H:LV) (v:Value),Rep w g H v->Rep I F H v
 |.dead,_,_=>by grind [Rep]
 |.nil,v,hr=>by grind [Rep]
 |.emp,v,hr=>by grind [Rep]
 |.atom x,v,hr=>by grind [Rep]
 |.sl t n cs,v,hr=>by
  simp only[Rep]at hr ⊢;obtain⟨A,a,d,E,D,s,m⟩:=hr;refine⟨A,a,d,E,D,fun J=>?_,fun Tv=>?_⟩
  .obtain⟨y,j,e⟩:=s J;exact⟨by rw[h.β t e,h.nl t e];omega,by rw[h.κ t e];omega,dc e h.z⟩
  .obtain⟨b,o,B,C⟩:=m Tv;exact⟨b,o,B,aR.monoR h b cs o C⟩
 |.ms l o n,v,hr=>by simp only[Rep]at hr ⊢;obtain⟨A,a,y,j,e,K,q,r⟩:=hr;exact⟨A,a,y,j,e,by rw[h.κ l r,h.β l r,h.nl l r];omega,by rw[h.β l r];omega,dc r h.z⟩
 |.ag cs,v,hr=>by simp only[Rep]at hr ⊢;obtain⟨k,d,p⟩:=hr;exact⟨k,d,aG.monoR h cs k p⟩
 |.pt l o,v,hr=>by simp only[Rep]at hr ⊢;exact⟨by rw[h.β l hr.2];grind,dc hr.2 h.z⟩
 |.ep cs,v,hr=>by simp only[Rep]at hr ⊢;obtain⟨b,o,d,p⟩:=hr;exact⟨b,o,d,aR.monoR h b cs o p⟩
 |.mp l,v,hr=>by simp only[Rep]at hr ⊢;exact⟨by rw[h.β l hr.2];grind,dc hr.2 h.z⟩
 |.fn f cs,v,hr=>by simp only[Rep]at hr ⊢;obtain⟨k,d,p⟩:=hr;exact⟨k,d,aG.monoR h cs k p⟩
 |.tu cs,v,hr=>by simp only[Rep]at hr ⊢;obtain⟨k,d,p⟩:=hr;exact⟨k,d,aG.monoR h cs k p⟩
 |.qu t o n cs,v,hr=>by simp only[Rep]at hr ⊢;obtain⟨A,a,d,E,D,s,M,B,m⟩:=hr;refine⟨A,a,d,E,D,dc s h.z,by rw[h.κ t s];omega,by rw[h.κ t s,h.β t s];omega,fun Tv=>?_⟩;obtain⟨b,o,B,C⟩:=m Tv;exact⟨b,o,B,aR.monoR h b cs o C⟩
 |.kap l n c,v,hr=>by simp only[Rep]at hr ⊢;obtain⟨A,y,j,e,K,q,r,L⟩:=hr;exact⟨A,y,j,e,by rw[h.κ l q];omega,dc q h.z,by rw[h.β l q,h.nl l q];omega,by rw[h.nl l q];omega⟩
 |.pe l cs,v,hr=>by simp only[Rep]at hr ⊢;obtain⟨y,j,e⟩:=hr;exact⟨by rw[h.β l j];omega,dc j h.z,by rw[h.β l j];exact aR.monoR h (g.β l) cs 0 e⟩
theorem aG.monoR{w f:World}{g d:G}(h:sR w g f d):∀(b:QQ) (e:List Value),aG w g b e->aG f d b e
 |[],_,hr=>by grind [aG]
 |c::b,_,hr=>by simp only[aG]at hr ⊢;obtain⟨v,a,l,j,k⟩:=hr;exact⟨v,a,l,Rep.monoR h c v j,aG.monoR h b a k⟩
theorem aR.monoR{w e:World}{g d:G}(h:sR w g e d)(b:Nat):∀(a:QQ) (o:Nat),aR w g b a o->aR e d b a o
 |[],_,_=>by grind [aR]
 |c::a,o,hr=>by simp only[aR]at hr ⊢;obtain⟨⟨v,f,j,k⟩,h4⟩:=hr;obtain⟨l,m⟩:=h.cell _ _ _ f k;exact⟨⟨v,l,Rep.monoR h c v j,m⟩,aR.monoR h b a (o+1) h4⟩
end
theorem eY.monoR{w d:World}{g c:G}{a:Act}{b:ah}(h:eY w g a b)(e:sR w g d c):eY d c a b:=fun i=>Rep.monoR e _ _ (h i)
def G.at'(g:G)(b:Nat)(x:Option Nat):G:={ g with φ:=fun y=>if y=b then x else g.φ y }
def ui(w:World)(b:Nat):Prop:=∀ o,w.cell? ⟨b,o,none⟩=none
variable{ag:Bool}{g:G}{es:List (List Int×LV)}{ks:List IntKind}{b l m:Nat}{c:St}{w:World}
def OI{a:Array MapEntry}{c:Nat}(h:w.heap[b]?=some (.map a c)):ui w b:=fun o=>by unfold World.cell?;simp[h]
theorem SL{m:Option Nat}{s:Nat}{seen:Array Nat}{c:Nat}(h:w.heap[b]?=some (.mapIter m s seen c)):ui w b:=fun o=>by unfold World.cell?;simp[h]
theorem NN(h:w.heap.size<=b):ui w b:=fun o=>by unfold World.cell?;simp[Array.getElem?_eq_none h]
def IG(x:Option Nat)(h:ui w b):sR w g w (g.at' b x):=by
 refine⟨au _,fun _ _=>rfl,fun _ _=>rfl,fun _ _=>rfl,fun c o v d a=>⟨d,fun k f=>?_⟩⟩;by_cases e:c=b
 .subst e;rw[h o]at d;grind
 .simp only[G.at',aa e]at f;exact a k f
def Fb{e:World}(h:∀ b,e.heap[b]?=w.heap[b]?\/ui w b):sR w g e g:=by
 refine⟨au _,fun _ _=>rfl,fun _ _=>rfl,fun _ _=>rfl,fun c o v f a=>⟨?_,a⟩⟩;rcases h c with d|d
 .grind [World.cell?_of_block]
 .rw[d o]at f;grind
def Aside.turn{m:World}{a:G}{f:St}(h:Aside w g f)(n:sR w g m a)(N:a.z=g.z)(e:a.β=g.β)(P:a.nl=g.nl)
 (hf:∀ l,iQ (f.H l)=true->m.heap[g.β l]?=w.heap[g.β l]?/\a.φ (g.β l)=g.φ (g.β l)) (A:∀ b o v,w.cell? ⟨b,o,none⟩=some v->g.φ b=none->a.φ b=none):Aside m a f:=by
 refine⟨fun l ag D r B=>?_,fun l E c d p=>?_,fun T y j v C=>?_⟩
 .obtain⟨c,J,d,q,clock,K,s,t,L,x⟩:=h.frz l ag D r B;obtain⟨F,I⟩:=hf l (by simp_all);exact⟨by grind,O,d,q,clock,by grind,s,aG.monoR n _ _ t,by grind,x⟩
 .rw[e]at p;exact h.one l E c d p
 .obtain⟨c,d⟩:=h.glob T y j v C;exact⟨(n.cell _ _ _ c fun k M=>by grind).1,A _ _ _ c d⟩
def Bp{f:World}{b:G}(h:Inv w g c)(H:sR w g f b)(r:w.heap.size<=f.heap.size)(I:b.z=g.z)(d:b.β=g.β)(J:b.κ=g.κ)(N:b.nl=g.nl)
 (hblk:∀ l,blk g c l->f.heap[g.β l]?=w.heap[g.β l]?/\b.φ (g.β l)=g.φ (g.β l)) (F:Aside f b c):Inv f b c:=by
 have p:∀ l,blk b c l->blk g c l:=fun l a=>by grind [blk]
 refine⟨I.trans h.z,h.pos,h.fresh,fun l a=>?_,fun l x a q v=>?_,fun l e s n a=>?_,fun l e s y a=>?_,fun l ag K D a=>?_,fun l e n a=>?_,F⟩
 .rw[d];exact dc (h.lt l (p l a)) r
 .rw[d]at v;exact h.inj l x (p l a) (p x q) v
 .obtain⟨k,j,m,o⟩:=h.own l e s n a
  grind [blk]
 .obtain⟨k,j,m⟩:=h.box l e s y a
  grind [blk,aG.monoR]
 .obtain⟨k,j,A,clock,m,o,t,M,E⟩:=h.mp l ag K D a;obtain⟨B,C⟩:=hblk l (by grind [blk]);exact⟨by grind,j,A,clock,by grind,o,aG.monoR H _ _ t,by grind,E⟩
 .obtain⟨k,⟨L,j,m⟩,o,t⟩:=h.qu l e n a;obtain⟨B,C⟩:=hblk l (by grind [blk]);exact⟨by grind,⟨L,by grind,by grind⟩,by grind,by grind⟩
theorem gO{a:St}(h:blk g (a.set m .dead) l):l≠m/\blk g a l:=by
 grind [blk,St.set]
def Jd(h:Inv w g c)(m:Nat):Inv w g (c.set m .dead):=by
 refine⟨h.z,h.pos,fun l a=>?_,fun l a=>h.lt l (gO a).2,fun l d a b=>h.inj l d (gO a).2 (gO b).2,fun l e s n a=>?_,fun l e s f a=>?_,fun l ag k j a=>?_,fun l e n a=>?_,h.aside.keep (Ext.refl w g) (kI rfl)⟩
 .simp only[St.set];split
  .rfl
  .exact h.fresh l a
 all_goals
  simp only[St.set]at a;by_cases e:l=m
  .grind
  .rw[aa e]at a
   first|exact h.own l _ _ _ a|exact h.box l _ _ _ a|exact h.mp l _ _ _ a|exact h.qu l _ _ a
def Th(h:Inv w g c)(x:m<c.z)(q:Aq w g m ag ks es)(Tv:∀ l,l≠m->blk g c l->g.β l≠g.β m):Inv w g (c.set m (.map ag ks es)):=by
 have d:∀ l,l≠m->blk g (c.set m (.map ag ks es)) l->blk g c l:=fun l a h=>by grind [blk,St.set]
 refine⟨h.z,h.pos,fun l a=>?_,fun l a=>?_,fun l j a f r=>?_,fun l e s n a=>?_,fun l e s v a=>?_,fun l k t p a=>?_,fun l e n a=>?_,h.aside.keep (Ext.refl w g) (kI rfl)⟩
 .have:l≠m:=by have:c.z<=l:=a;omega
  simp only[St.set,aa this];exact h.fresh l a
 .by_cases e:l=m
  .subst e;exact q.blk_lt
  .exact h.lt l (d l e a)
 .by_cases e:l=m
  .grind
  .by_cases o:j=m
   .grind
   .exact h.inj l j (d l e a) (d j o f) r
 .by_cases b:l=m
  .grind [St.set]
  .simp only[St.set,aa b]at a;exact h.own l _ _ _ a
 .by_cases b:l=m
  .grind [St.set]
  .simp only[St.set,aa b]at a;exact h.box l _ _ _ a
 .by_cases b:l=m
  .grind [St.set]
  .simp only[St.set,aa b]at a;exact h.mp l _ _ _ a
 .by_cases b:l=m
  .grind [St.set]
  .simp only[St.set,aa b]at a;exact h.qu l _ _ a
def XI{b:St}(h:Inv w g b)(C:m<b.z)(B:Kh w g m ag ks es)(Tv:∀ l,l≠m->iQ (b.H l)=true->g.β l≠g.β m):Inv w g (b.set m (.frz ag ks es)):=by
 have f:∀ l,blk g (b.set m (.frz ag ks es)) l->l≠m/\blk g b l:=fun l h=>by
  grind [blk,St.set]
 have c:∀ l,iQ ((b.set m (.frz ag ks es)).H l)=true->l=m\/(l≠m/\iQ (b.H l)=true):=fun l a=>by
  grind [St.set]
 refine⟨h.z,h.pos,fun l a=>?_,fun l a=>h.lt l (f l a).2,fun l d a j=>h.inj l d (f l a).2 (f d j).2,fun l e s n a=>?_,fun l e s A a=>?_,fun l ag ks es a=>?_,fun l e n a=>?_,fun l o y p a=>?_,fun l d q r t=>?_,h.aside.glob⟩
 .have k:b.z<=l:=a;simp only[St.set,aa (show l≠m by omega)];exact h.fresh l k
 case refine_6=>
  simp only[St.set]at a;by_cases e:l=m
  .grind
  .rw[aa e]at a;exact h.aside.frz l _ _ _ a
 case refine_7=>
  rcases c l q with rfl|⟨D,v⟩
  .grind
  .rcases c d r with rfl|⟨E,x⟩
   .grind
   .exact h.aside.one l d v x t
 all_goals
  simp only[St.set]at a;by_cases e:l=m
  .grind
  .rw[aa e]at a
   first|exact h.own l _ _ _ a|exact h.box l _ _ _ a|exact h.mp l _ _ _ a|exact h.qu l _ _ a
def Wi(h:g.φ b=none):g.at' b none=g:=by
 obtain⟨n,e,c,d,a⟩:=g
 grind [G.at',G.mk.injEq]
theorem set_set(b:St)(m:Nat)(o a:cT):(b.set m o).set m a=b.set m a:=by
 simp only[St.set,St.mk.injEq,ue]
 grind
def OA(h:Inv w g c)(b:blk g c l):g.φ (g.β l)≠none:=by
 unfold blk at b;cases a:c.H l with
 |dead=>grind
 |own e s n=>rw[a]at b;obtain⟨_,_,_,d⟩:=h.own l e s n a;grind
 |box e s cs=>rw[a]at b;obtain⟨_,_,d⟩:=h.box l e s cs a;grind
 |map ag ks es=>obtain⟨_,_,_,_,_,_,_,k,_⟩:=h.mp l ag ks es a;grind
 |que e n=>obtain⟨_,_,k,_⟩:=h.qu l e n a;grind
 |frz ag ks es=>grind
end Aw
end Go.Proofs.YtbgngpdonpeboaaGreatDoor
