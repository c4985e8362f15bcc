/- Memory lent: a piece of code, or a call, reads what may be written to as mere values; behind it all is as it was. No program is named here. -/
import Derived.Test.YtempldclppogmaaGreatDoorAwTd
import Derived.Test.YtempldclppogmaaGreatDoorAwMr
set_option linter.unusedVariables false
set_option linter.unusedSimpArgs false
namespace Go.Proofs.YtempldclppogmaaGreatDoor.Aw
open Go Go.RowKit
def G.still(g:G):G:={ g with φ:=fun _=>none }
theorem wT(w:World)(g:G):lM w g w g.still:=⟨Nat.le_refl _,fun _ _=>rfl,fun _ _=>rfl,fun _ _=>rfl,fun _ _ _ h _=>⟨h,fun _ hk=>by simp[G.still]at hk⟩⟩
def St.bare(st:St):St:=⟨st.next,fun _=>.dead⟩
def St.back(st:St)(n:Nat):St:=⟨n,st.H⟩
theorem aDE{w:World}{g:G}{st:St}(hi:Inv w g st):Inv w g.still st.bare:=
 ⟨hi.next,hi.pos,fun _ _=>rfl,fun l hl=>hl.elim,fun l l' hl=>hl.elim,fun l e s n hl=>(by cases hl),fun l e s cs hl=>(by cases hl),fun l ag ks es hl=>(by cases hl),fun l e n hl=>(by cases hl),kP (hi.aside.glob.phi fun _ _ _ _ _=>rfl) fun _=>rfl⟩
def aDA(st:St)(x y:LV):Prop:=∀(w:World) (g:G) (v:Value),Inv w g st→Rep w g x v→Rep w g.still y v
def pC(st:St)(xs ys:List LV):Prop:=∀(w:World) (g:G) (vs:List Value),Inv w g st→aH w g xs vs→aH w g.still ys vs
theorem aOj(st:St)(x:LV):aDA st x x:=fun w g v _ h=>Rep.monoR (wT w g) _ _ h
theorem aEv(st:St)(xs:List LV):pC st xs xs:=fun w g v _ h=>aH.monoR (wT w g) _ _ h
theorem aOi(st:St)(x:LV):aDA st x .dead:=fun w g v _ _=>by simp only[Rep]
theorem aOk(st:St):pC st [] []:=aEv st []
theorem aNs{st:St}{x y:LV}{xs ys:List LV}(h:aDA st x y)(k:pC st xs ys):pC st (x::xs) (y::ys):=fun w g vs hi hr=>by
 simp only[aH]at hr ⊢
 obtain⟨v,vs',rfl,h1,h2⟩:=hr
 exact⟨v,vs',rfl,h w g v hi h1,k w g vs' hi h2⟩
theorem aPW{st:St}{xs ys:List LV}(h:pC st xs ys):aDA st (.ag xs) (.ag ys):=fun w g v hi hr=>by
 simp only[Rep]at hr ⊢
 obtain⟨vs,rfl,h1⟩:=hr
 exact⟨vs,rfl,h w g vs hi h1⟩
theorem aPR{st:St}{f:Fn}{xs ys:List LV}(h:pC st xs ys):aDA st (.fn f xs) (.fn f ys):=fun w g v hi hr=>by
 simp only[Rep]at hr ⊢
 obtain⟨vs,rfl,h1⟩:=hr
 exact⟨vs,rfl,h w g vs hi h1⟩
theorem aPV{st:St}{l n e s:Nat}{cs ds:List LV}(hl:st.H l=.box e s cs)(hn:n*s≤cs.length)(hd:pC st (cs.take (n*s)) ds):aDA st (.ms l 0 n) (.sl 0 n ds):=fun w g v hi hr=>by
 simp only[Rep]at hr ⊢
 obtain⟨A,cap,rfl,hnc,hcm,hA,hA',hlt⟩:=hr
 obtain⟨q1,q2,q3⟩:=hi.box l e s cs hl
 cases hnl:g.nl l with
 |true=>
  obtain⟨hk0,rfl⟩:=q2 hnl
  have h0:=hd w g [] hi (by simp[aH])
  have:ds=[]:=by have:=aM _ _ h0;simpa using this
  subst this
  exact⟨A,cap,rfl,hnc,⟨hcm,fun _=>(hA trivial).1.trans hk0⟩,fun h=>absurd rfl h,fun h=>absurd rfl h⟩
 |false=>
  obtain⟨cur,k1,k2,k3,k4,k5⟩:=q3 hnl
  obtain rfl:=(hA trivial).2 hnl
  refine⟨_,cap,rfl,hnc,⟨hcm,by simp⟩,fun h=>absurd rfl h,fun _=>⟨g.β l,0,rfl,?_⟩⟩
  have h1:=cJ (n*s) _ _ k4
  rw[List.take_take,Nat.min_eq_left hn]at h1
  have h2:=hd w g _ hi h1
  have h3:=aM _ _ h1
  have h4:=aM _ _ h2
  refine dP _ (cur.take (n*s)) 0 h2 (fun j hj=>?_) (fun j hj k hk=>by simp[G.still]at hk)
  rw[cell_of_row w _ _ _ _ _ k1,Nat.zero_add]
  have:j<n*s:=by rw[List.length_take]at h4;omega
  simp[this]
theorem aPY{st:St}{l e s:Nat}{cs ds:List LV}(hl:st.H l=.box e s cs)(hd:pC st cs ds):aDA st (.pt l 0) (.pe l ds):=fun w g v hi hr=>by
 simp only[Rep]at hr ⊢
 obtain⟨rfl,hlt⟩:=hr
 refine⟨rfl,hlt,?_⟩
 obtain⟨q1,q2,q3⟩:=hi.box l e s cs hl
 cases hnl:g.nl l with
 |true=>
  obtain⟨hk0,rfl⟩:=q2 hnl
  have h0:=hd w g [] hi (by simp[aH])
  have:ds=[]:=by have:=aM _ _ h0;simpa using this
  subst this
  simp only[aQ]
 |false=>
  obtain⟨cur,k1,k2,k3,k4,k5⟩:=q3 hnl
  have h2:=hd w g _ hi k4
  have h3:=aM _ _ k4
  have h4:=aM _ _ h2
  refine dP _ (cur.take cs.length) 0 h2 (fun j hj=>?_) (fun j hj k hk=>by simp[G.still]at hk)
  show w.cell? ⟨g.β l,0+j,none⟩=_
  rw[cell_of_row w _ _ _ _ _ k1,Nat.zero_add]
  have:j<cs.length:=by omega
  simp[this]
mutual
def cQ(n:Nat):LV→Bool
 |.atom _=>true
 |.ag cs=>lW n cs
 |.tu cs=>lW n cs
 |.fn _ cs=>lW n cs
 |.pt l _=>decide (l<n)
 |.mp l=>decide (l<n)
 |.nil=>true
 |.emp=>true
 |.dead=>true
 |_=>false
def lW(n:Nat):List LV→Bool
 |[]=>true
 |c::cs=>cQ n c&&lW n cs
end
mutual
theorem zS{n:Nat}:∀(lv:LV),cQ n lv=true→bel n lv
 |.dead,_=>trivial
 |.nil,_=>trivial
 |.emp,_=>trivial
 |.atom _,_=>trivial
 |.ag cs,h=>by simp only[cQ,bel]at h ⊢;exact kC cs h
 |.tu cs,h=>by simp only[cQ,bel]at h ⊢;exact kC cs h
 |.fn _ cs,h=>by simp only[cQ,bel]at h ⊢;exact kC cs h
 |.pt l _,h=>by simp only[cQ,bel]at h ⊢;simpa using h
 |.mp l,h=>by simp only[cQ,bel]at h ⊢;simpa using h
 |.sl _ _ _,h=>by simp[cQ]at h
 |.ms _ _ _,h=>by simp[cQ]at h
 |.ep _,h=>by simp[cQ]at h
 |.pe _ _,h=>by simp[cQ]at h
 |.kap _ _ _,h=>by simp[cQ]at h
 |.qu _ _ _ _,h=>by simp[cQ]at h
theorem kC{n:Nat}:∀(cs:List LV),lW n cs=true→dR n cs
 |[],_=>trivial
 |c::cs,h=>by
  simp only[lW,Bool.and_eq_true]at h
  exact⟨zS c h.1,kC cs h.2⟩
end
def aIR(n:Nat)(x:LV):LV:=match x with
 |.pe l _=>if l<n then .pt l 0 else .dead
 |x=>if cQ n x then x else .dead
def G.back(g g':G)(w:World):G:={ g' with φ:=fun b=>if b<w.heap.size then g.φ b else g'.φ b }
theorem yV{w w':World}{g g':G}(he:Ext w g.still w' g'):Ext w g w' (g.back g' w):=by
 have hold:∀ b,b<w.heap.size→w'.heap[b]?=w.heap[b]?:=fun b hb=>(he.still b hb rfl).2
 refine⟨he.os,he.tape,he.output,he.size,he.next,he.β,he.κ,he.nl,fun b hb hn=>⟨by simp only[G.back];rw[if_pos hb];exact hn,hold b hb⟩,fun b k hb hk=>⟨k,by simp only[G.back];rw[if_pos hb];exact hk,Nat.le_refl _,fun o _=>World.cell?_of_block (w:=w) (hold b hb)⟩⟩
mutual
theorem wE{w w':World}{g g':G}(he:Ext w g.still w' g'):∀(lv:LV) (v:Value),cQ g.next lv=true→Rep w' g' lv v→Rep w' (g.back g' w) lv v
 |.dead,_,_,_=>by simp only[Rep]
 |.nil,_,_,h=>h
 |.emp,_,_,h=>h
 |.atom _,_,_,h=>h
 |.ag cs,v,hf,h=>by
  simp only[cQ,Rep]at hf h ⊢
  obtain⟨vs,h1,h2⟩:=h
  exact⟨vs,h1,nP he cs vs hf h2⟩
 |.tu cs,v,hf,h=>by
  simp only[cQ,Rep]at hf h ⊢
  obtain⟨vs,h1,h2⟩:=h
  exact⟨vs,h1,nP he cs vs hf h2⟩
 |.fn f cs,v,hf,h=>by
  simp only[cQ,Rep]at hf h ⊢
  obtain⟨vs,h1,h2⟩:=h
  exact⟨vs,h1,nP he cs vs hf h2⟩
 |.pt l o,v,hf,h=>h
 |.mp l,v,hf,h=>h
 |.sl _ _ _,_,hf,_=>by simp[cQ]at hf
 |.ms _ _ _,_,hf,_=>by simp[cQ]at hf
 |.ep _,_,hf,_=>by simp[cQ]at hf
 |.pe _ _,_,hf,_=>by simp[cQ]at hf
 |.kap _ _ _,_,hf,_=>by simp[cQ]at hf
 |.qu _ _ _ _,_,hf,_=>by simp[cQ]at hf
theorem nP{w w':World}{g g':G}(he:Ext w g.still w' g'):∀(cs:List LV) (vs:List Value),lW g.next cs=true→aH w' g' cs vs→aH w' (g.back g' w) cs vs
 |[],_,_,h=>h
 |c::cs,vs,hf,h=>by
  simp only[lW,aH,Bool.and_eq_true]at hf h ⊢
  obtain⟨v,vs',h0,h1,h2⟩:=h
  exact⟨v,vs',h0,wE he c v hf.1 h1,nP he cs vs' hf.2 h2⟩
end
theorem aHb{w w':World}{g g':G}(he:Ext w g.still w' g'){x:LV}{v:Value}(h:Rep w' g' x v):Rep w' (g.back g' w) (aIR g.next x) v:=by
 have key:∀ y,Rep w' g' y v→Rep w' (g.back g' w) (if cQ g.next y then y else .dead) v:=fun y hy=>by
  split
  ·rename_i hf;exact wE he y v hf hy
  ·simp only[Rep]
 unfold aIR
 split
 ·rename_i l cs
  simp only[Rep]at h
  split
  ·rename_i hl;simp only[Rep];exact⟨h.1,h.2.1⟩
  ·simp only[Rep]
 ·exact key _ h
theorem aDU{w w':World}{g g':G}{st st':St}(hi:Inv w g st)(he:Ext w g.still w' g')(hi':Inv w' g' st'):Inv w' (g.back g' w) (st.back st'.next):=by
 have hold:∀ b,b<w.heap.size→w'.heap[b]?=w.heap[b]?:=fun b hb=>(he.still b hb rfl).2
 have he2:=yV he
 have hn:g.next=st.next:=hi.next
 have hn':st.next≤st'.next:=by have:=he.next;rw[hi'.next]at this;have h2:g.still.next=st.next:=hn;omega
 have hlt:∀ l,st.H l≠.dead→l<g.next:=fun l h0=>by
  rw[hn]
  rcases Nat.lt_or_ge l st.next with h|h
  ·exact h
  ·exact absurd (hi.fresh l h) h0
 have hbk:∀ l,blk (g.back g' w) (st.back st'.next) l→blk g st l:=fun l h=>by
  have hl:l<g.next:=hlt l fun h0=>by unfold blk at h;rw[show(st.back st'.next).H l=st.H l from rfl,h0]at h;exact h
  have e:=he2.nl l hl
  unfold blk at h ⊢
  rw[e]at h
  exact h
 have hφ:∀ b,b<w.heap.size→(g.back g' w).φ b=g.φ b:=fun b hb=>by simp only[G.back];rw[if_pos hb]
 refine⟨hi'.next,Nat.lt_of_lt_of_le hi.pos hn',fun l hl=>hi.fresh l (by simp only[St.back]at hl;omega),fun l hl=>?_,fun l l' h1 h2 hb=>?_,?_,?_,?_,?_,hi.aside.keep he2 fun _ _=>rfl⟩
 ·have h1:=hbk l hl
  have hl2:l<g.next:=hlt l fun h0=>by unfold blk at h1;rw[h0]at h1;exact h1
  rw[he2.β l hl2]
  exact Nat.lt_of_lt_of_le (hi.lt l h1) he.size
 ·have k1:=hbk l h1
  have k2:=hbk l' h2
  have q1:l<g.next:=hlt l fun h0=>by unfold blk at k1;rw[h0]at k1;exact k1
  have q2:l' < g.next:=hlt l' fun h0=>by unfold blk at k2;rw[h0]at k2;exact k2
  rw[he2.β l q1,he2.β l' q2]at hb
  exact hi.inj l l' k1 k2 hb
 ·intro l e s n hl
  have hl:st.H l=.own e s n:=hl
  have hll:=hlt l (by rw[hl];simp)
  obtain⟨h1,h2,h3,h4⟩:=hi.own l e s n hl
  rw[he2.κ l hll,he2.nl l hll,he2.β l hll]
  refine⟨h1,h2,h3,fun hnl=>?_⟩
  obtain⟨cur,k1,k2,k3⟩:=h4 hnl
  have hb:=(Array.getElem?_eq_some_iff.1 k1).1
  exact⟨cur,by rw[hold _ hb];exact k1,k2,by rw[hφ _ hb];exact k3⟩
 ·intro l e s cs hl
  have hl:st.H l=.box e s cs:=hl
  have hll:=hlt l (by rw[hl];simp)
  obtain⟨h1,h2,h3⟩:=hi.box l e s cs hl
  rw[he2.κ l hll,he2.nl l hll,he2.β l hll]
  refine⟨h1,h2,fun hnl=>?_⟩
  obtain⟨cur,k1,k2,k3,k4,k5⟩:=h3 hnl
  have hb:=(Array.getElem?_eq_some_iff.1 k1).1
  exact⟨cur,by rw[hold _ hb];exact k1,k2,k3,aH.mono he2 _ _ k4,by rw[hφ _ hb];exact k5⟩
 ·intro l ag ks es hl
  have hl:st.H l=.map ag ks es:=hl
  have hm:=hi.mp l ag ks es hl
  exact hm.keep he2 (hi.map_lt hl) (hold _ hm.blk_lt) (hφ _ hm.blk_lt)
 ·intro l e n hl
  have hl:st.H l=.que e n:=hl
  have hm:=hi.qu l e n hl
  exact hm.keep he2 (hi.que_lt hl) (hold _ hm.blk_lt) (hφ _ hm.blk_lt)
variable {P:Program}
theorem aOS{N:Nat}{c:Code}{Q:AQ}{fr:Frm}{st:St}(frb:Frm)(hl:∀ i,aDA st (fr i) (frb i))
 (h:AWp P N c (fun e f s=>Q e (fun i=>aIR st.next (f i)) (st.back s.next)) frb st.bare):AWp P N c Q fr st:=by
 intro a w g hi hr hs hd
 refine Code.wp_mono (fun e a' w' p=>?_) (h a w g.still (aDE hi) (fun i=>hl i w g _ hi (hr i)) hs hd)
 obtain⟨f,s,g',hq,hi',hr',hs',hd',he⟩:=p
 refine⟨_,_,g.back g' w,hq,aDU hi he hi',fun i=>?_,hs',hd',yV he⟩
 rw[← hi.next]
 exact aHb he (hr' i)
theorem aMK{f:FuncId}{args args':List LV}{st:St}{Q:LV→Prop}(hl:pC st args args')(h:aF P f args' st.bare fun r _=>Q r)(hf:∀ r,Q r→cQ st.next r=true):aF P f args st fun r st'=>Q r∧st'=st:=by
 refine qT (Q:=Q) ⟨h.1,fun w g vs hi hr=>(h.2 w g.still vs (aDE hi) (hl w g vs hi hr)).mono ?_⟩ fun r hq=>?_
 ·rintro x w' ⟨v,r,st',g',rfl,hq,hrep,hi',he⟩
  have hn:st.next≤st'.next:=by have:=he.next;rw[hi'.next]at this;have h2:g.still.next=st.next:=hi.next;omega
  refine⟨v,r,st.back st'.next,g.back g' w,rfl,⟨hq,hn,fun _ _=>rfl⟩,wE he r v (by rw[hi.next];exact hf r hq) hrep,aDU hi he hi',yV he⟩
 ·have h1:=hf r hq
  clear h hq
  revert h1
  generalize st.next=n
  exact zS r
end Go.Proofs.YtempldclppogmaaGreatDoor.Aw
