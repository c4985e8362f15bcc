/- Ranging over a map: the map is laid aside while the loop goes on. No program is named here. -/
import Derived.Test.YtbgngpdonpeboaaGreatDoorAwRun
import Derived.Maps.RangeRun
set_option linter.unusedVariables false
set_option linter.unusedSimpArgs false
namespace Go.Proofs.YtbgngpdonpeboaaGreatDoor
namespace Aw
open Go Go.RowKit
open Go.ChangeMaps (setBlock)
structure qQ(w:World)(g:G)(w':World)(g':G):Prop where
 next:g.next<=g'.next
 β:∀ l,l<g.next->g'.β l=g.β l
 κ:∀ l,l<g.next->g'.κ l=g.κ l
 nl:∀ l,l<g.next->g'.nl l=g.nl l
 cell:∀ b o v,w.cell? ⟨b,o,none⟩=some v->g.ok b o->w'.cell? ⟨b,o,none⟩=some v/\g'.ok b o
mutual
theorem Rep.monoR{w w':World}{g g':G}(h:qQ w g w' g'):∀(lv:LV) (v:Value),Rep w g lv v->Rep w' g' lv v
 |.dead,_,_=>by grind [Rep]
 |.nil,v,hr=>by grind [Rep]
 |.emp,v,hr=>by grind [Rep]
 |.atom x,v,hr=>by grind [Rep]
 |.sl t n cs,v,hr=>by
  simp only[Rep]at hr ⊢;obtain⟨A,cap,hv,hn,hc,ht,P9⟩:=hr;refine⟨A,cap,hv,hn,hc,fun h0=>?_,fun c7=>?_⟩
  .obtain⟨h1,h2,h3⟩:=ht h0;exact⟨by rw[h.β t h3,h.nl t h3];omega,by rw[h.κ t h3];omega,aAs h3 h.next⟩
  .obtain⟨b,o,hA,Tf⟩:=P9 c7;exact⟨b,o,hA,aN.monoR h b cs o Tf⟩
 |.ms l o n,v,hr=>by simp only[Rep]at hr ⊢;obtain⟨A,cap,h1,h2,h3,h4,h5,h6⟩:=hr;exact⟨A,cap,h1,h2,h3,by rw[h.κ l h6,h.β l h6,h.nl l h6];omega,by rw[h.β l h6];omega,aAs h6 h.next⟩
 |.ag cs,v,hr=>by simp only[Rep]at hr ⊢;obtain⟨vs,hv,hl⟩:=hr;exact⟨vs,hv,aC.monoR h cs vs hl⟩
 |.pt l o,v,hr=>by simp only[Rep]at hr ⊢;exact⟨by rw[h.β l hr.2];grind,aAs hr.2 h.next⟩
 |.ep cs,v,hr=>by simp only[Rep]at hr ⊢;obtain⟨b,o,hv,hl⟩:=hr;exact⟨b,o,hv,aN.monoR h b cs o hl⟩
 |.mp l,v,hr=>by simp only[Rep]at hr ⊢;exact⟨by rw[h.β l hr.2];grind,aAs hr.2 h.next⟩
 |.fn f cs,v,hr=>by simp only[Rep]at hr ⊢;obtain⟨vs,hv,hl⟩:=hr;exact⟨vs,hv,aC.monoR h cs vs hl⟩
 |.tu cs,v,hr=>by simp only[Rep]at hr ⊢;obtain⟨vs,hv,hl⟩:=hr;exact⟨vs,hv,aC.monoR h cs vs hl⟩
 |.qu t o n cs,v,hr=>by simp only[Rep]at hr ⊢;obtain⟨A,cap,hv,hn,hc,ht,hk,hA,P9⟩:=hr;refine⟨A,cap,hv,hn,hc,aAs ht h.next,by rw[h.κ t ht];omega,by rw[h.κ t ht,h.β t ht];omega,fun c7=>?_⟩;obtain⟨b,o,hA,Tf⟩:=P9 c7;exact⟨b,o,hA,aN.monoR h b cs o Tf⟩
 |.kap l n c,v,hr=>by simp only[Rep]at hr ⊢;obtain⟨A,h1,h2,h3,h4,h5,h6,h7⟩:=hr;exact⟨A,h1,h2,h3,by rw[h.κ l h5];omega,aAs h5 h.next,by rw[h.β l h5,h.nl l h5];omega,by rw[h.nl l h5];omega⟩
 |.pe l cs,v,hr=>by simp only[Rep]at hr ⊢;obtain⟨h1,h2,h3⟩:=hr;exact⟨by rw[h.β l h2];omega,aAs h2 h.next,by rw[h.β l h2];exact aN.monoR h (g.β l) cs 0 h3⟩
theorem aC.monoR{w w':World}{g g':G}(h:qQ w g w' g'):∀(cs:List LV) (vs:List Value),aC w g cs vs->aC w' g' cs vs
 |[],_,hr=>by grind [aC]
 |c::cs,_,hr=>by simp only[aC]at hr ⊢;obtain⟨v,vs',hv,h1,h2⟩:=hr;exact⟨v,vs',hv,Rep.monoR h c v h1,aC.monoR h cs vs' h2⟩
theorem aN.monoR{w w':World}{g g':G}(h:qQ w g w' g')(b:Nat):∀(cs:List LV) (o:Nat),aN w g b cs o->aN w' g' b cs o
 |[],_,_=>by grind [aN]
 |c::cs,o,hr=>by simp only[aN]at hr ⊢;obtain⟨⟨v,h1,h2,h3⟩,h4⟩:=hr;obtain⟨k1,k2⟩:=h.cell _ _ _ h1 h3;exact⟨⟨v,k1,Rep.monoR h c v h2,k2⟩,aN.monoR h b cs (o+1) h4⟩
end
theorem dX.monoR{w w':World}{g g':G}{a:Act}{fr:Frm}(h:dX w g a fr)(he:qQ w g w' g'):dX w' g' a fr:=fun i=>Rep.monoR he _ _ (h i)
def G.at'(g:G)(b:Nat)(x:Option Nat):G:={ g with φ:=fun y=>if y=b then x else g.φ y }
def NoC(w:World)(b:Nat):Prop:=∀ o,w.cell? ⟨b,o,none⟩=none
theorem LU{w:World}{b:Nat}{es:Array MapEntry}{c:Nat}(h:w.heap[b]?=some (.map es c)):NoC w b:=fun o=>by unfold World.cell?;simp[h]
theorem RX{w:World}{b:Nat}{m:Option Nat}{s:Nat}{seen:Array Nat}{c:Nat}(h:w.heap[b]?=some (.mapIter m s seen c)):NoC w b:=fun o=>by unfold World.cell?;simp[h]
theorem Mm{w:World}{b:Nat}(h:w.heap.size<=b):NoC w b:=fun o=>by unfold World.cell?;simp[Array.getElem?_eq_none h]
theorem FY{w:World}{g:G}{b:Nat}(x:Option Nat)(hb:NoC w b):qQ w g w (g.at' b x):=by
 refine⟨aAl _,fun _ _=>rfl,fun _ _=>rfl,fun _ _=>rfl,fun c o v hc U6=>⟨hc,fun k hk=>?_⟩⟩;by_cases e:c=b
 .subst e;rw[hb o]at hc;grind
 .simp only[G.at',aAa e]at hk;exact U6 k hk
theorem Dk{w w':World}{g:G}(h:∀ b,w'.heap[b]?=w.heap[b]?\/NoC w b):qQ w g w' g:=by
 refine⟨aAl _,fun _ _=>rfl,fun _ _=>rfl,fun _ _=>rfl,fun c o v hc U6=>⟨?_,U6⟩⟩;rcases h c with h1|h1
 .grind [World.cell?_of_block]
 .rw[h1 o]at hc;grind
theorem Aside.turn{w w':World}{g g':G}{st:St}(h:Aside w g st)(hR:qQ w g w' g')(hn:g'.next=g.next)(hβ:g'.β=g.β)(r9:g'.nl=g.nl)
 (hf:∀ l,gR (st.H l)=true->w'.heap[g.β l]?=w.heap[g.β l]?/\g'.φ (g.β l)=g.φ (g.β l)) (hc:∀ b o v,w.cell? ⟨b,o,none⟩=some v->g.φ b=none->g'.φ b=none):Aside w' g' st:=by
 refine⟨fun l ag ks es hl=>?_,fun l l' h1 h2 hb=>?_,fun T hT j v hv=>?_⟩
 .obtain⟨h1,h0,h2,cO,clock,h3,h4,h5,h6,h7⟩:=h.frz l ag ks es hl;obtain⟨e1,e2⟩:=hf l (by simp_all);exact⟨by grind,oO,h2,cO,clock,by grind,h4,aC.monoR hR _ _ h5,by grind,h7⟩
 .rw[hβ]at hb;exact h.one l l' h1 h2 hb
 .obtain⟨h1,h2⟩:=h.glob T hT j v hv;exact⟨(hR.cell _ _ _ h1 fun k hk=>by grind).1,hc _ _ _ h1 h2⟩
theorem BI{w w':World}{g g':G}{st:St}(h:Inv w g st)(hR:qQ w g w' g')(U0:w.heap.size<=w'.heap.size)(hn:g'.next=g.next)(hβ:g'.β=g.β)(hκ:g'.κ=g.κ)(r9:g'.nl=g.nl)
 (hblk:∀ l,blk g st l->w'.heap[g.β l]?=w.heap[g.β l]?/\g'.φ (g.β l)=g.φ (g.β l)) (hA:Aside w' g' st):Inv w' g' st:=by
 have hb:∀ l,blk g' st l->blk g st l:=fun l hl=>by grind [blk]
 refine⟨hn.trans h.next,h.pos,h.fresh,fun l hl=>?_,fun l l' hl O5 he=>?_,fun l e s n hl=>?_,fun l e s cs hl=>?_,fun l ag ks es hl=>?_,fun l e n hl=>?_,hA⟩
 .rw[hβ];exact aAs (h.lt l (hb l hl)) U0
 .rw[hβ]at he;exact h.inj l l' (hb l hl) (hb l' O5) he
 .obtain⟨h1,h2,h3,h4⟩:=h.own l e s n hl
  grind [blk]
 .obtain⟨h1,h2,h3⟩:=h.box l e s cs hl
  grind [blk,aC.monoR]
 .obtain⟨h1,h2,cO,clock,h3,h4,h5,h6,h7⟩:=h.mp l ag ks es hl;obtain⟨e1,e2⟩:=hblk l (by grind [blk]);exact⟨by grind,h2,cO,clock,by grind,h4,aC.monoR hR _ _ h5,by grind,h7⟩
 .obtain⟨h1,⟨n9,h2,h3⟩,h4,h5⟩:=h.qu l e n hl;obtain⟨e1,e2⟩:=hblk l (by grind [blk]);exact⟨by grind,⟨n9,by grind,by grind⟩,by grind,by grind⟩
theorem fK{g:G}{st:St}{m l:Nat}(h:blk g (st.set m .dead) l):l≠m/\blk g st l:=by
 grind [blk,St.set]
theorem Ie{w:World}{g:G}{st:St}(h:Inv w g st)(m:Nat):Inv w g (st.set m .dead):=by
 refine⟨h.next,h.pos,fun l hl=>?_,fun l hl=>h.lt l (fK hl).2,fun l l' hl O5=>h.inj l l' (fK hl).2 (fK O5).2,fun l e s n hl=>?_,fun l e s cs hl=>?_,fun l ag ks es hl=>?_,fun l e n hl=>?_,h.aside.keep (Ext.refl w g) (jJ rfl)⟩
 .simp only[St.set];split
  .rfl
  .exact h.fresh l hl
 all_goals
  simp only[St.set]at hl;by_cases e:l=m
  .grind
  .rw[aAa e]at hl
   first|exact h.own l _ _ _ hl|exact h.box l _ _ _ hl|exact h.mp l _ _ _ hl|exact h.qu l _ _ hl
theorem Rr{w:World}{g:G}{st:St}(h:Inv w g st){m:Nat}{ag:Bool}{ks:List IntKind}{es:List (List Int×LV)}(hm:m<st.next)(hM:yG w g m ag ks es)(c7:∀ l,l≠m->blk g st l->g.β l≠g.β m):Inv w g (st.set m (.map ag ks es)):=by
 have hb:∀ l,l≠m->blk g (st.set m (.map ag ks es)) l->blk g st l:=fun l hl h=>by grind [blk,St.set]
 refine⟨h.next,h.pos,fun l hl=>?_,fun l hl=>?_,fun l l' hl O5 he=>?_,fun l e s n hl=>?_,fun l e s cs hl=>?_,fun l ag' V5 es' hl=>?_,fun l e n hl=>?_,h.aside.keep (Ext.refl w g) (jJ rfl)⟩
 .have:l≠m:=by have:st.next<=l:=hl;omega
  simp only[St.set,aAa this];exact h.fresh l hl
 .by_cases e:l=m
  .subst e;exact hM.blk_lt
  .exact h.lt l (hb l e hl)
 .by_cases e:l=m
  .grind
  .by_cases e':l'=m
   .grind
   .exact h.inj l l' (hb l e hl) (hb l' e' O5) he
 .by_cases e0:l=m
  .grind [St.set]
  .simp only[St.set,aAa e0]at hl;exact h.own l _ _ _ hl
 .by_cases e0:l=m
  .grind [St.set]
  .simp only[St.set,aAa e0]at hl;exact h.box l _ _ _ hl
 .by_cases e0:l=m
  .grind [St.set]
  .simp only[St.set,aAa e0]at hl;exact h.mp l _ _ _ hl
 .by_cases e0:l=m
  .grind [St.set]
  .simp only[St.set,aAa e0]at hl;exact h.qu l _ _ hl
theorem Vy{w:World}{g:G}{st:St}(h:Inv w g st){m:Nat}{ag:Bool}{ks:List IntKind}{es:List (List Int×LV)}(hm:m<st.next)(hF:JA w g m ag ks es)(c7:∀ l,l≠m->gR (st.H l)=true->g.β l≠g.β m):Inv w g (st.set m (.frz ag ks es)):=by
 have hb:∀ l,blk g (st.set m (.frz ag ks es)) l->l≠m/\blk g st l:=fun l h=>by
  grind [blk,St.set]
 have hfz:∀ l,gR ((st.set m (.frz ag ks es)).H l)=true->l=m\/(l≠m/\gR (st.H l)=true):=fun l hl=>by
  grind [St.set]
 refine⟨h.next,h.pos,fun l hl=>?_,fun l hl=>h.lt l (hb l hl).2,fun l l' hl O5=>h.inj l l' (hb l hl).2 (hb l' O5).2,fun l e s n hl=>?_,fun l e s cs hl=>?_,fun l ag ks es hl=>?_,fun l e n hl=>?_,fun l ag' V5 es' hl=>?_,fun l l' h1 h2 he=>?_,h.aside.glob⟩
 .have hl0:st.next<=l:=hl;simp only[St.set,aAa (show l≠m by omega)];exact h.fresh l hl0
 case refine_6=>
  simp only[St.set]at hl;by_cases e:l=m
  .grind
  .rw[aAa e]at hl;exact h.aside.frz l _ _ _ hl
 case refine_7=>
  rcases hfz l h1 with rfl|⟨n1,k1⟩
  .grind
  .rcases hfz l' h2 with rfl|⟨n2,k2⟩
   .grind
   .exact h.aside.one l l' k1 k2 he
 all_goals
  simp only[St.set]at hl;by_cases e:l=m
  .grind
  .rw[aAa e]at hl
   first|exact h.own l _ _ _ hl|exact h.box l _ _ _ hl|exact h.mp l _ _ _ hl|exact h.qu l _ _ hl
theorem Vv{g:G}{b:Nat}(h:g.φ b=none):g.at' b none=g:=by
 obtain⟨n,φ,β,κ,nl⟩:=g
 grind [G.at',G.mk.injEq]
theorem set_set(st:St)(m:Nat)(o o':cN):(st.set m o).set m o'=st.set m o':=by
 simp only[St.set,St.mk.injEq,true_and]
 grind
theorem LO{w:World}{g:G}{st:St}(h:Inv w g st){l:Nat}(hl:blk g st l):g.φ (g.β l)≠none:=by
 unfold blk at hl;cases ho:st.H l with
 |dead=>grind
 |own e s n=>rw[ho]at hl;obtain⟨_,_,_,h4⟩:=h.own l e s n ho;grind
 |box e s cs=>rw[ho]at hl;obtain⟨_,_,h4⟩:=h.box l e s cs ho;grind
 |map ag ks es=>obtain⟨_,_,_,_,_,_,_,k,_⟩:=h.mp l ag ks es ho;grind
 |que e n=>obtain⟨_,_,k,_⟩:=h.qu l e n ho;grind
 |frz ag ks es=>grind
end Aw
end Go.Proofs.YtbgngpdonpeboaaGreatDoor
