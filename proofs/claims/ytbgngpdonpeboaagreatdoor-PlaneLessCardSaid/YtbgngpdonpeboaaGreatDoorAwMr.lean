/- Ranging over a map: the map is laid aside while the loop goes on. No program is named here. -/
import Derived.Test.YtbgngpdonpeboaaGreatDoorAwRun
import Derived.Maps.RangeRun
set_option linter.defProp false
set_option linter.unusedVariables false
set_option linter.unusedSimpArgs false
namespace Go.Proofs.YtbgngpdonpeboaaGreatDoor
namespace Aw
open Go Go.RowKit
open Go.ChangeMaps (setBlock)
structure rL(w:World)(g:G)(w':World)(g':G):Prop where
 z:g.z<=g'.z
 β:∀ l,l<g.z->g'.β l=g.β l
 κ:∀ l,l<g.z->g'.κ l=g.κ l
 nl:∀ l,l<g.z->g'.nl l=g.nl l
 cell:∀ b o v,w.cell? ⟨b,o,none⟩=some v->g.ok b o->w'.cell? ⟨b,o,none⟩=some v/\g'.ok b o
mutual
theorem Rep.monoR{w J:World}{g H:G}(h:rL w g J H):∀(I:LV) (v:Value),Rep w g I v->Rep J H I v
 |.dead,_,_=>by grind [Rep]
 |.nil,v,hr=>by grind [Rep]
 |.emp,v,hr=>by grind [Rep]
 |.atom x,v,hr=>by grind [Rep]
 |.sl t n cs,v,hr=>by
  simp only[Rep]at hr ⊢;obtain⟨A,a,d,E,D,r,B⟩:=hr;refine⟨A,a,d,E,D,fun K=>?_,fun C=>?_⟩
  .obtain⟨s,j,e⟩:=r K;exact⟨by rw[h.β t e,h.nl t e];omega,by rw[h.κ t e];omega,cz e h.z⟩
  .obtain⟨b,o,y,F⟩:=B C;exact⟨b,o,y,aP.monoR h b cs o F⟩
 |.ms l o n,v,hr=>by simp only[Rep]at hr ⊢;obtain⟨A,a,s,j,e,L,p,q⟩:=hr;exact⟨A,a,s,j,e,by rw[h.κ l q,h.β l q,h.nl l q];omega,by rw[h.β l q];omega,cz q h.z⟩
 |.ag cs,v,hr=>by simp only[Rep]at hr ⊢;obtain⟨k,d,m⟩:=hr;exact⟨k,d,aC.monoR h cs k m⟩
 |.pt l o,v,hr=>by simp only[Rep]at hr ⊢;exact⟨by rw[h.β l hr.2];grind,cz hr.2 h.z⟩
 |.ep cs,v,hr=>by simp only[Rep]at hr ⊢;obtain⟨b,o,d,m⟩:=hr;exact⟨b,o,d,aP.monoR h b cs o m⟩
 |.mp l,v,hr=>by simp only[Rep]at hr ⊢;exact⟨by rw[h.β l hr.2];grind,cz hr.2 h.z⟩
 |.fn f cs,v,hr=>by simp only[Rep]at hr ⊢;obtain⟨k,d,m⟩:=hr;exact⟨k,d,aC.monoR h cs k m⟩
 |.tu cs,v,hr=>by simp only[Rep]at hr ⊢;obtain⟨k,d,m⟩:=hr;exact⟨k,d,aC.monoR h cs k m⟩
 |.qu t o n cs,v,hr=>by simp only[Rep]at hr ⊢;obtain⟨A,a,d,E,D,r,N,y,B⟩:=hr;refine⟨A,a,d,E,D,cz r h.z,by rw[h.κ t r];omega,by rw[h.κ t r,h.β t r];omega,fun C=>?_⟩;obtain⟨b,o,y,F⟩:=B C;exact⟨b,o,y,aP.monoR h b cs o F⟩
 |.kap l n c,v,hr=>by simp only[Rep]at hr ⊢;obtain⟨A,s,j,e,L,p,q,M⟩:=hr;exact⟨A,s,j,e,by rw[h.κ l p];omega,cz p h.z,by rw[h.β l p,h.nl l p];omega,by rw[h.nl l p];omega⟩
 |.pe l cs,v,hr=>by simp only[Rep]at hr ⊢;obtain⟨s,j,e⟩:=hr;exact⟨by rw[h.β l j];omega,cz j h.z,by rw[h.β l j];exact aP.monoR h (g.β l) cs 0 e⟩
theorem aC.monoR{w f:World}{g d:G}(h:rL w g f d):∀(b:List LV) (e:List Value),aC w g b e->aC f d b e
 |[],_,hr=>by grind [aC]
 |c::b,_,hr=>by simp only[aC]at hr ⊢;obtain⟨v,a,l,j,k⟩:=hr;exact⟨v,a,l,Rep.monoR h c v j,aC.monoR h b a k⟩
theorem aP.monoR{w e:World}{g d:G}(h:rL w g e d)(b:Nat):∀(a:List LV) (o:Nat),aP w g b a o->aP e d b a o
 |[],_,_=>by grind [aP]
 |c::a,o,hr=>by simp only[aP]at hr ⊢;obtain⟨⟨v,f,j,k⟩,h4⟩:=hr;obtain⟨l,m⟩:=h.cell _ _ _ f k;exact⟨⟨v,l,Rep.monoR h c v j,m⟩,aP.monoR h b a (o+1) h4⟩
end
theorem dY.monoR{w d:World}{g c:G}{a:Act}{b:af}(h:dY w g a b)(e:rL w g d c):dY d c a b:=fun i=>Rep.monoR e _ _ (h i)
def G.at'(g:G)(b:Nat)(x:Option Nat):G:={ g with φ:=fun y=>if y=b then x else g.φ y }
def ru(w:World)(b:Nat):Prop:=∀ o,w.cell? ⟨b,o,none⟩=none
def Ld{w:World}{b:Nat}{a:Array MapEntry}{c:Nat}(h:w.heap[b]?=some (.map a c)):ru w b:=fun o=>by unfold World.cell?;simp[h]
theorem Qe{w:World}{b:Nat}{m:Option Nat}{s:Nat}{seen:Array Nat}{c:Nat}(h:w.heap[b]?=some (.mapIter m s seen c)):ru w b:=fun o=>by unfold World.cell?;simp[h]
theorem MZ{w:World}{b:Nat}(h:w.heap.size<=b):ru w b:=fun o=>by unfold World.cell?;simp[uo h]
def FB{w:World}{g:G}{b:Nat}(x:Option Nat)(h:ru w b):rL w g w (g.at' b x):=by
 refine⟨au _,fun _ _=>rfl,fun _ _=>rfl,fun _ _=>rfl,fun c o v a f=>⟨a,fun k d=>?_⟩⟩;by_cases e:c=b
 .subst e;rw[h o]at a;grind
 .simp only[G.at',ac e]at d;exact f k d
def EJ{w d:World}{g:G}(h:∀ b,d.heap[b]?=w.heap[b]?\/ru w b):rL w g d g:=by
 refine⟨au _,fun _ _=>rfl,fun _ _=>rfl,fun _ _=>rfl,fun c o v f e=>⟨?_,e⟩⟩;rcases h c with a|a
 .grind [World.cell?_of_block]
 .rw[a o]at f;grind
def Aside.turn{w m:World}{g a:G}{f:St}(h:Aside w g f)(n:rL w g m a)(N:a.z=g.z)(e:a.β=g.β)(O:a.nl=g.nl)
 (hf:∀ l,gL (f.H l)=true->m.heap[g.β l]?=w.heap[g.β l]?/\a.φ (g.β l)=g.φ (g.β l)) (A:∀ b o v,w.cell? ⟨b,o,none⟩=some v->g.φ b=none->a.φ b=none):Aside m a f:=by
 refine⟨fun l ag D r B=>?_,fun l E c d p=>?_,fun T y j v C=>?_⟩
 .obtain⟨c,J,d,q,clock,K,s,t,L,x⟩:=h.frz l ag D r B;obtain⟨F,I⟩:=hf l (by simp_all);exact⟨by grind,oO,d,q,clock,by grind,s,aC.monoR n _ _ t,by grind,x⟩
 .rw[e]at p;exact h.one l E c d p
 .obtain⟨c,d⟩:=h.glob T y j v C;exact⟨(n.cell _ _ _ c fun k M=>by grind).1,A _ _ _ c d⟩
def Bp{w f:World}{g b:G}{c:St}(h:Inv w g c)(H:rL w g f b)(x:w.heap.size<=f.heap.size)(I:b.z=g.z)(d:b.β=g.β)(J:b.κ=g.κ)(N:b.nl=g.nl)
 (hblk:∀ l,blk g c l->f.heap[g.β l]?=w.heap[g.β l]?/\b.φ (g.β l)=g.φ (g.β l)) (F:Aside f b c):Inv f b c:=by
 have p:∀ l,blk b c l->blk g c l:=fun l a=>by grind [blk]
 refine⟨I.trans h.z,h.pos,h.fresh,fun l a=>?_,fun l t a v r=>?_,fun l e s n a=>?_,fun l e s A a=>?_,fun l ag K D a=>?_,fun l e n a=>?_,F⟩
 .rw[d];exact cz (h.lt l (p l a)) x
 .rw[d]at r;exact h.inj l t (p l a) (p t v) r
 .obtain⟨k,j,m,o⟩:=h.own l e s n a
  grind [blk]
 .obtain⟨k,j,m⟩:=h.box l e s A a
  grind [blk,aC.monoR]
 .obtain⟨k,j,y,clock,m,o,q,M,E⟩:=h.mp l ag K D a;obtain⟨B,C⟩:=hblk l (by grind [blk]);exact⟨by grind,j,y,clock,by grind,o,aC.monoR H _ _ q,by grind,E⟩
 .obtain⟨k,⟨L,j,m⟩,o,q⟩:=h.qu l e n a;obtain⟨B,C⟩:=hblk l (by grind [blk]);exact⟨by grind,⟨L,by grind,by grind⟩,by grind,by grind⟩
theorem fR{g:G}{a:St}{m l:Nat}(h:blk g (a.set m .dead) l):l≠m/\blk g a l:=by
 grind [blk,St.set]
def Ic{w:World}{g:G}{b:St}(h:Inv w g b)(m:Nat):Inv w g (b.set m .dead):=by
 refine⟨h.z,h.pos,fun l a=>?_,fun l a=>h.lt l (fR a).2,fun l d a c=>h.inj l d (fR a).2 (fR c).2,fun l e s n a=>?_,fun l e s f a=>?_,fun l ag k j a=>?_,fun l e n a=>?_,h.aside.keep (Ext.refl w g) (jM rfl)⟩
 .simp only[St.set];split
  .rfl
  .exact h.fresh l a
 all_goals
  simp only[St.set]at a;by_cases e:l=m
  .grind
  .rw[ac e]at a
   first|exact h.own l _ _ _ a|exact h.box l _ _ _ a|exact h.mp l _ _ _ a|exact h.qu l _ _ a
def Pq{w:World}{g:G}{c:St}(h:Inv w g c){m:Nat}{ag:Bool}{ks:List IntKind}{es:List (AN×LV)}(y:m<c.z)(q:yC w g m ag ks es)(v:∀ l,l≠m->blk g c l->g.β l≠g.β m):Inv w g (c.set m (.map ag ks es)):=by
 have d:∀ l,l≠m->blk g (c.set m (.map ag ks es)) l->blk g c l:=fun l a h=>by grind [blk,St.set]
 refine⟨h.z,h.pos,fun l a=>?_,fun l a=>?_,fun l f a j r=>?_,fun l e s n a=>?_,fun l e s x a=>?_,fun l k t p a=>?_,fun l e n a=>?_,h.aside.keep (Ext.refl w g) (jM rfl)⟩
 .have:l≠m:=by have:c.z<=l:=a;omega
  simp only[St.set,ac this];exact h.fresh l a
 .by_cases e:l=m
  .subst e;exact q.blk_lt
  .exact h.lt l (d l e a)
 .by_cases e:l=m
  .grind
  .by_cases o:f=m
   .grind
   .exact h.inj l f (d l e a) (d f o j) r
 .by_cases b:l=m
  .grind [St.set]
  .simp only[St.set,ac b]at a;exact h.own l _ _ _ a
 .by_cases b:l=m
  .grind [St.set]
  .simp only[St.set,ac b]at a;exact h.box l _ _ _ a
 .by_cases b:l=m
  .grind [St.set]
  .simp only[St.set,ac b]at a;exact h.mp l _ _ _ a
 .by_cases b:l=m
  .grind [St.set]
  .simp only[St.set,ac b]at a;exact h.qu l _ _ a
def Uq{w:World}{g:G}{b:St}(h:Inv w g b){m:Nat}{ag:Bool}{ks:List IntKind}{es:List (AN×LV)}(D:m<b.z)(C:Gn w g m ag ks es)(A:∀ l,l≠m->gL (b.H l)=true->g.β l≠g.β m):Inv w g (b.set m (.frz ag ks es)):=by
 have f:∀ l,blk g (b.set m (.frz ag ks es)) l->l≠m/\blk g b l:=fun l h=>by
  grind [blk,St.set]
 have c:∀ l,gL ((b.set m (.frz ag ks es)).H l)=true->l=m\/(l≠m/\gL (b.H l)=true):=fun l a=>by
  grind [St.set]
 refine⟨h.z,h.pos,fun l a=>?_,fun l a=>h.lt l (f l a).2,fun l d a k=>h.inj l d (f l a).2 (f d k).2,fun l e s n a=>?_,fun l e s B a=>?_,fun l ag ks es a=>?_,fun l e n a=>?_,fun l o y p a=>?_,fun l d q r t=>?_,h.aside.glob⟩
 .have j:b.z<=l:=a;simp only[St.set,ac (show l≠m by omega)];exact h.fresh l j
 case refine_6=>
  simp only[St.set]at a;by_cases e:l=m
  .grind
  .rw[ac e]at a;exact h.aside.frz l _ _ _ a
 case refine_7=>
  rcases c l q with rfl|⟨E,v⟩
  .grind
  .rcases c d r with rfl|⟨F,x⟩
   .grind
   .exact h.aside.one l d v x t
 all_goals
  simp only[St.set]at a;by_cases e:l=m
  .grind
  .rw[ac e]at a
   first|exact h.own l _ _ _ a|exact h.box l _ _ _ a|exact h.mp l _ _ _ a|exact h.qu l _ _ a
def TQ{g:G}{b:Nat}(h:g.φ b=none):g.at' b none=g:=by
 obtain⟨n,e,c,d,a⟩:=g
 grind [G.at',G.mk.injEq]
theorem set_set(b:St)(m:Nat)(o a:cK):(b.set m o).set m a=b.set m a:=by
 simp only[St.set,St.mk.injEq,true_and]
 grind
def ML{w:World}{g:G}{c:St}(h:Inv w g c){l:Nat}(b:blk g c l):g.φ (g.β l)≠none:=by
 unfold blk at b;cases a:c.H l with
 |dead=>grind
 |own e s n=>rw[a]at b;obtain⟨_,_,_,d⟩:=h.own l e s n a;grind
 |box e s cs=>rw[a]at b;obtain⟨_,_,d⟩:=h.box l e s cs a;grind
 |map ag ks es=>obtain⟨_,_,_,_,_,_,_,k,_⟩:=h.mp l ag ks es a;grind
 |que e n=>obtain⟨_,_,k,_⟩:=h.qu l e n a;grind
 |frz ag ks es=>grind
end Aw
end Go.Proofs.YtbgngpdonpeboaaGreatDoor
