/- Ranging over a map: the map is laid aside while the loop goes on. No program is named here. -/
import Derived.Test.YtempldclppogmaaGreatDoorAwRun
import Derived.Maps.RangeRun
set_option linter.unusedVariables false
set_option linter.unusedSimpArgs false
namespace Go.Proofs.YtempldclppogmaaGreatDoor
namespace Aw
open Go Go.RowKit
open Go.ChangeMaps (setBlock)
structure pW(w:World)(g:G)(w':World)(g':G):Prop where
 next:g.next<=g'.next
 β:∀ l,l<g.next->g'.β l=g.β l
 κ:∀ l,l<g.next->g'.κ l=g.κ l
 nl:∀ l,l<g.next->g'.nl l=g.nl l
 cell:∀ b o v,w.cell? ⟨b,o,none⟩=some v->g.ok b o->w'.cell? ⟨b,o,none⟩=some v/\g'.ok b o
mutual
theorem Rep.monoR{w w':World}{g g':G}(h:pW w g w' g'):∀(lv:LV) (v:Value),Rep w g lv v->Rep w' g' lv v
 |.dead,_,_=>by simp only[Rep]
 |.nil,v,hr=>by simp only[Rep]at hr ⊢;exact hr
 |.emp,v,hr=>by simp only[Rep]at hr ⊢;exact hr
 |.atom x,v,hr=>by simp only[Rep]at hr ⊢;exact hr
 |.sl t n cs,v,hr=>by
  simp only[Rep]at hr ⊢;obtain⟨A,cap,hv,hn,hc,ht,ZC⟩:=hr;refine⟨A,cap,hv,hn,hc,fun h0=>?_,fun Wu=>?_⟩
  .obtain⟨h1,h2,h3⟩:=ht h0;exact⟨by rw[h.β t h3,h.nl t h3];exact h1,by rw[h.κ t h3];exact h2,aAp h3 h.next⟩
  .obtain⟨b,o,hA,RN⟩:=ZC Wu;exact⟨b,o,hA,aU.monoR h b cs o RN⟩
 |.ms l o n,v,hr=>by simp only[Rep]at hr ⊢;obtain⟨A,cap,h1,h2,h3,h4,h5,h6⟩:=hr;exact⟨A,cap,h1,h2,h3,by rw[h.κ l h6,h.β l h6,h.nl l h6];exact h4,by rw[h.β l h6];exact h5,aAp h6 h.next⟩
 |.ag cs,v,hr=>by simp only[Rep]at hr ⊢;obtain⟨vs,hv,hl⟩:=hr;exact⟨vs,hv,aC.monoR h cs vs hl⟩
 |.pt l o,v,hr=>by simp only[Rep]at hr ⊢;exact⟨by rw[h.β l hr.2];exact hr.1,aAp hr.2 h.next⟩
 |.ep cs,v,hr=>by simp only[Rep]at hr ⊢;obtain⟨b,o,hv,hl⟩:=hr;exact⟨b,o,hv,aU.monoR h b cs o hl⟩
 |.mp l,v,hr=>by simp only[Rep]at hr ⊢;exact⟨by rw[h.β l hr.2];exact hr.1,aAp hr.2 h.next⟩
 |.fn f cs,v,hr=>by simp only[Rep]at hr ⊢;obtain⟨vs,hv,hl⟩:=hr;exact⟨vs,hv,aC.monoR h cs vs hl⟩
 |.tu cs,v,hr=>by simp only[Rep]at hr ⊢;obtain⟨vs,hv,hl⟩:=hr;exact⟨vs,hv,aC.monoR h cs vs hl⟩
 |.qu t o n cs,v,hr=>by simp only[Rep]at hr ⊢;obtain⟨A,cap,hv,hn,hc,ht,hk,hA,ZC⟩:=hr;refine⟨A,cap,hv,hn,hc,aAp ht h.next,by rw[h.κ t ht];exact hk,by rw[h.κ t ht,h.β t ht];exact hA,fun Wu=>?_⟩;obtain⟨b,o,hA,RN⟩:=ZC Wu;exact⟨b,o,hA,aU.monoR h b cs o RN⟩
 |.kap l n c,v,hr=>by simp only[Rep]at hr ⊢;obtain⟨A,h1,h2,h3,h4,h5,h6,h7⟩:=hr;exact⟨A,h1,h2,h3,by rw[h.κ l h5];exact h4,aAp h5 h.next,by rw[h.β l h5,h.nl l h5];exact h6,by rw[h.nl l h5];exact h7⟩
 |.pe l cs,v,hr=>by simp only[Rep]at hr ⊢;obtain⟨h1,h2,h3⟩:=hr;exact⟨by rw[h.β l h2];exact h1,aAp h2 h.next,by rw[h.β l h2];exact aU.monoR h (g.β l) cs 0 h3⟩
theorem aC.monoR{w w':World}{g g':G}(h:pW w g w' g'):∀(cs:List LV) (vs:List Value),aC w g cs vs->aC w' g' cs vs
 |[],_,hr=>by simp only[aC]at hr ⊢;exact hr
 |c::cs,_,hr=>by simp only[aC]at hr ⊢;obtain⟨v,vs',hv,h1,h2⟩:=hr;exact⟨v,vs',hv,Rep.monoR h c v h1,aC.monoR h cs vs' h2⟩
theorem aU.monoR{w w':World}{g g':G}(h:pW w g w' g')(b:Nat):∀(cs:List LV) (o:Nat),aU w g b cs o->aU w' g' b cs o
 |[],_,_=>by simp only[aU]
 |c::cs,o,hr=>by simp only[aU]at hr ⊢;obtain⟨⟨v,h1,h2,h3⟩,h4⟩:=hr;obtain⟨k1,k2⟩:=h.cell _ _ _ h1 h3;exact⟨⟨v,k1,Rep.monoR h c v h2,k2⟩,aU.monoR h b cs (o+1) h4⟩
end
theorem dN.monoR{w w':World}{g g':G}{a:Act}{fr:Frm}(h:dN w g a fr)(he:pW w g w' g'):dN w' g' a fr:=fun i=>Rep.monoR he _ _ (h i)
def G.at'(g:G)(b:Nat)(x:Option Nat):G:={ g with φ:=fun y=>if y=b then x else g.φ y }
def NoC(w:World)(b:Nat):Prop:=∀ o,w.cell? ⟨b,o,none⟩=none
theorem Ky{w:World}{b:Nat}{es:Array MapEntry}{c:Nat}(h:w.heap[b]?=some (.map es c)):NoC w b:=fun o=>by unfold World.cell?;simp[h]
theorem NO{w:World}{b:Nat}{m:Option Nat}{s:Nat}{seen:Array Nat}{c:Nat}(h:w.heap[b]?=some (.mapIter m s seen c)):NoC w b:=fun o=>by unfold World.cell?;simp[h]
theorem KH{w:World}{b:Nat}(h:w.heap.size<=b):NoC w b:=fun o=>by unfold World.cell?;simp[aEx h]
theorem FF{w:World}{g:G}{b:Nat}(x:Option Nat)(hb:NoC w b):pW w g w (g.at' b x):=by
 refine⟨aAk _,fun _ _=>rfl,fun _ _=>rfl,fun _ _=>rfl,fun c o v hc v9=>⟨hc,fun k hk=>?_⟩⟩;by_cases e:c=b
 .subst e;rw[hb o]at hc;cases hc
 .simp only[G.at',aAa e]at hk;exact v9 k hk
theorem DS{w w':World}{g:G}(h:∀ b,w'.heap[b]?=w.heap[b]?\/NoC w b):pW w g w' g:=by
 refine⟨aAk _,fun _ _=>rfl,fun _ _=>rfl,fun _ _=>rfl,fun c o v hc v9=>⟨?_,v9⟩⟩;rcases h c with h1|h1
 .rw[<- hc];exact World.cell?_of_block (w:=w) h1
 .rw[h1 o]at hc;cases hc
theorem oK.turn{w w':World}{g g':G}{st:St}(h:oK w g st)(hR:pW w g w' g')(hn:g'.next=g.next)(R6:g'.β=g.β)(Xi:g'.nl=g.nl)
 (hf:∀ l,fV (st.H l)=true->w'.heap[g.β l]?=w.heap[g.β l]?/\g'.φ (g.β l)=g.φ (g.β l)) (hc:∀ b o v,w.cell? ⟨b,o,none⟩=some v->g.φ b=none->g'.φ b=none):oK w' g' st:=by
 refine⟨fun l ag ks es hl=>?_,fun l l' h1 h2 hb=>?_,fun T hT j v hv=>?_⟩
 .obtain⟨h1,h0,h2,dX,clock,h3,h4,h5,h6,h7⟩:=h.frz l ag ks es hl;obtain⟨e1,e2⟩:=hf l (by rw[hl];rfl);exact⟨by rw[Xi];exact h1,by rw[hn];exact h0,h2,dX,clock,by rw[R6,e1];exact h3,h4,aC.monoR hR _ _ h5,by rw[R6,e2];exact h6,h7⟩
 .rw[R6]at hb;exact h.one l l' h1 h2 hb
 .obtain⟨h1,h2⟩:=h.glob T hT j v hv;exact⟨(hR.cell _ _ _ h1 fun k hk=>by rw[h2]at hk;cases hk).1,hc _ _ _ h1 h2⟩
theorem Bi{w w':World}{g g':G}{st:St}(h:Inv w g st)(hR:pW w g w' g')(Yz:w.heap.size<=w'.heap.size)(hn:g'.next=g.next)(R6:g'.β=g.β)(hκ:g'.κ=g.κ)(Xi:g'.nl=g.nl)
 (A6:∀ l,blk g st l->w'.heap[g.β l]?=w.heap[g.β l]?/\g'.φ (g.β l)=g.φ (g.β l)) (hA:oK w' g' st):Inv w' g' st:=by
 have hb:∀ l,blk g' st l->blk g st l:=fun l hl=>by unfold blk at hl ⊢;rw[Xi]at hl;exact hl
 refine⟨hn.trans h.next,h.pos,h.fresh,fun l hl=>?_,fun l l' hl Yn he=>?_,fun l e s n hl=>?_,fun l e s cs hl=>?_,fun l ag ks es hl=>?_,fun l e n hl=>?_,hA⟩
 .rw[R6];exact aAp (h.lt l (hb l hl)) Yz
 .rw[R6]at he;exact h.inj l l' (hb l hl) (hb l' Yn) he
 .obtain⟨h1,h2,h3,h4⟩:=h.own l e s n hl;refine⟨by rw[hκ];exact h1,by rw[hκ];exact h2,by rw[hκ,Xi];exact h3,fun h0=>?_⟩;rw[Xi]at h0;obtain⟨Xk,k1,k2,k3⟩:=h4 h0;obtain⟨e1,e2⟩:=A6 l (by unfold blk;rw[hl];exact h0);exact⟨Xk,by rw[R6,e1];exact k1,by rw[hκ];exact k2,by rw[R6,e2];exact k3⟩
 .obtain⟨h1,h2,h3⟩:=h.box l e s cs hl;refine⟨by rw[hκ];exact h1,by rw[hκ,Xi];exact h2,fun h0=>?_⟩;rw[Xi]at h0;obtain⟨Xk,k1,k2,k3,k4,k5⟩:=h3 h0;obtain⟨e1,e2⟩:=A6 l (by unfold blk;rw[hl];exact h0);exact⟨Xk,by rw[R6,e1];exact k1,by rw[hκ];exact k2,k3,aC.monoR hR _ _ k4,by rw[R6,e2];exact k5⟩
 .obtain⟨h1,h2,dX,clock,h3,h4,h5,h6,h7⟩:=h.mp l ag ks es hl;obtain⟨e1,e2⟩:=A6 l (by unfold blk;rw[hl];exact h1);exact⟨by rw[Xi];exact h1,h2,dX,clock,by rw[R6,e1];exact h3,h4,aC.monoR hR _ _ h5,by rw[R6,e2];exact h6,h7⟩
 .obtain⟨h1,⟨Xk,h2,h3⟩,h4,h5⟩:=h.qu l e n hl;obtain⟨e1,e2⟩:=A6 l (by unfold blk;rw[hl];exact h1);exact⟨by rw[Xi];exact h1,⟨Xk,by rw[R6,e1];exact h2,by rw[hκ];exact h3⟩,by rw[R6,e2,hκ];exact h4,by rw[hκ];exact h5⟩
theorem eU{g:G}{st:St}{m l:Nat}(h:blk g (st.set m .dead) l):l≠m/\blk g st l:=by
 unfold blk at h ⊢;by_cases e:l=m
 .subst e;simp[St.set]at h
 .refine⟨e,?_⟩;simp only[St.set,aAa e]at h;exact h
theorem GF{w:World}{g:G}{st:St}(h:Inv w g st)(m:Nat):Inv w g (st.set m .dead):=by
 refine⟨h.next,h.pos,fun l hl=>?_,fun l hl=>h.lt l (eU hl).2,fun l l' hl Yn=>h.inj l l' (eU hl).2 (eU Yn).2,fun l e s n hl=>?_,fun l e s cs hl=>?_,fun l ag ks es hl=>?_,fun l e n hl=>?_,h.aside.keep (Ext.refl w g) (iW rfl)⟩
 .simp only[St.set];split
  .rfl
  .exact h.fresh l hl
 all_goals
  simp only[St.set]at hl;by_cases e:l=m
  .rw[aAe e]at hl;cases hl
  .rw[aAa e]at hl
   first|exact h.own l _ _ _ hl|exact h.box l _ _ _ hl|exact h.mp l _ _ _ hl|exact h.qu l _ _ hl
theorem QI{w:World}{g:G}{st:St}(h:Inv w g st){m:Nat}{ag:Bool}{ks:List IntKind}{es:List (List Int×LV)}(hm:m<st.next)(hM:yB w g m ag ks es)(Wu:∀ l,l≠m->blk g st l->g.β l≠g.β m):Inv w g (st.set m (.map ag ks es)):=by
 have hb:∀ l,l≠m->blk g (st.set m (.map ag ks es)) l->blk g st l:=fun l hl h=>by unfold blk at h ⊢;simpa only[St.set,aAa hl]using h
 refine⟨h.next,h.pos,fun l hl=>?_,fun l hl=>?_,fun l l' hl Yn he=>?_,fun l e s n hl=>?_,fun l e s cs hl=>?_,fun l P6 Zy es' hl=>?_,fun l e n hl=>?_,h.aside.keep (Ext.refl w g) (iW rfl)⟩
 .have:l≠m:=by have:st.next<=l:=hl;omega
  simp only[St.set,aAa this];exact h.fresh l hl
 .by_cases e:l=m
  .subst e;exact hM.blk_lt
  .exact h.lt l (hb l e hl)
 .by_cases e:l=m
  .by_cases e':l'=m
   .rw[e,e']
   .subst e;exact absurd he.symm (Wu l' e' (hb l' e' Yn))
  .by_cases e':l'=m
   .subst e';exact absurd he (Wu l e (hb l e hl))
   .exact h.inj l l' (hb l e hl) (hb l' e' Yn) he
 .by_cases e0:l=m
  .simp[St.set,e0]at hl
  .simp only[St.set,aAa e0]at hl;exact h.own l _ _ _ hl
 .by_cases e0:l=m
  .simp[St.set,e0]at hl
  .simp only[St.set,aAa e0]at hl;exact h.box l _ _ _ hl
 .by_cases e0:l=m
  .subst e0;simp only[St.set,aBq,cI.map.injEq]at hl;obtain⟨rfl,rfl,rfl⟩:=hl;exact hM
  .simp only[St.set,aAa e0]at hl;exact h.mp l _ _ _ hl
 .by_cases e0:l=m
  .simp[St.set,e0]at hl
  .simp only[St.set,aAa e0]at hl;exact h.qu l _ _ hl
theorem Qu{w:World}{g:G}{st:St}(h:Inv w g st){m:Nat}{ag:Bool}{ks:List IntKind}{es:List (List Int×LV)}(hm:m<st.next)(hF:Gw w g m ag ks es)(Wu:∀ l,l≠m->fV (st.H l)=true->g.β l≠g.β m):Inv w g (st.set m (.frz ag ks es)):=by
 have hb:∀ l,blk g (st.set m (.frz ag ks es)) l->l≠m/\blk g st l:=fun l h=>by
  unfold blk at h ⊢;by_cases e:l=m
  .subst e;simp[St.set]at h
  .refine⟨e,?_⟩;simp only[St.set,aAa e]at h;exact h
 have hfz:∀ l,fV ((st.set m (.frz ag ks es)).H l)=true->l=m\/(l≠m/\fV (st.H l)=true):=fun l hl=>by
  by_cases e:l=m
  .exact .inl e
  .simp only[St.set,aAa e]at hl;exact .inr ⟨e,hl⟩
 refine⟨h.next,h.pos,fun l hl=>?_,fun l hl=>h.lt l (hb l hl).2,fun l l' hl Yn=>h.inj l l' (hb l hl).2 (hb l' Yn).2,fun l e s n hl=>?_,fun l e s cs hl=>?_,fun l ag ks es hl=>?_,fun l e n hl=>?_,fun l P6 Zy es' hl=>?_,fun l l' h1 h2 he=>?_,h.aside.glob⟩
 .have Zu:st.next<=l:=hl;simp only[St.set,aAa (show l≠m by omega)];exact h.fresh l Zu
 case refine_6=>
  simp only[St.set]at hl;by_cases e:l=m
  .subst e;rw[aAe rfl]at hl;injection hl with a b c;subst a b c;exact hF
  .rw[aAa e]at hl;exact h.aside.frz l _ _ _ hl
 case refine_7=>
  rcases hfz l h1 with rfl|⟨n1,k1⟩
  .rcases hfz l' h2 with rfl|⟨n2,k2⟩
   .rfl
   .exact absurd he.symm (Wu l' n2 k2)
  .rcases hfz l' h2 with rfl|⟨n2,k2⟩
   .exact absurd he (Wu l n1 k1)
   .exact h.aside.one l l' k1 k2 he
 all_goals
  simp only[St.set]at hl;by_cases e:l=m
  .rw[aAe e]at hl;cases hl
  .rw[aAa e]at hl
   first|exact h.own l _ _ _ hl|exact h.box l _ _ _ hl|exact h.mp l _ _ _ hl|exact h.qu l _ _ hl
theorem SK{g:G}{b:Nat}(h:g.φ b=none):g.at' b none=g:=by
 obtain⟨n,φ,β,κ,nl⟩:=g;simp only[G.at',G.mk.injEq,true_and,aDn]
 funext y
 by_cases e:y=b
 .subst e;rw[aAe rfl];exact h.symm
 .rw[aAa e]
theorem set_set(st:St)(m:Nat)(o o':cI):(st.set m o).set m o'=st.set m o':=by
 simp only[St.set,St.mk.injEq,true_and]
 funext y
 by_cases e:y=m
 .rw[aAe e,aAe e]
 .rw[aAa e,aAa e,aAa e]
theorem Kt{w:World}{g:G}{st:St}(h:Inv w g st){l:Nat}(hl:blk g st l):g.φ (g.β l)≠none:=by
 unfold blk at hl;cases ho:st.H l with
 |dead=>rw[ho]at hl;exact hl.elim
 |own e s n=>rw[ho]at hl;obtain⟨_,_,_,h4⟩:=h.own l e s n ho;obtain⟨_,_,_,k⟩:=h4 hl;rw[k];simp
 |box e s cs=>rw[ho]at hl;obtain⟨_,_,h4⟩:=h.box l e s cs ho;obtain⟨_,_,_,_,_,k⟩:=h4 hl;rw[k];simp
 |map ag ks es=>obtain⟨_,_,_,_,_,_,_,k,_⟩:=h.mp l ag ks es ho;rw[k];simp
 |que e n=>obtain⟨_,_,k,_⟩:=h.qu l e n ho;rw[k];simp
 |frz ag ks es=>rw[ho]at hl;exact hl.elim
end Aw
end Go.Proofs.YtempldclppogmaaGreatDoor
