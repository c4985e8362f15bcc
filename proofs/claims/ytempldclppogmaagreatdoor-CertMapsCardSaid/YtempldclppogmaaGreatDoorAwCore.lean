/- Logical values, what represents them in memory, and that this lasts while memory only grows. No program is named here. -/
import Derived.Below
import Derived.Laws.AppendOwn
import Derived.Maps.AppendAt
import Derived.OwnWalk
import Derived.Deep.Draws
import Derived.Laws.Rows
import Derived.Lib.TrailingZeros
set_option linter.unusedVariables false
set_option linter.unusedSimpArgs false
namespace Go.Proofs.YtempldclppogmaaGreatDoor
theorem oO {p:Prop}(h:p:=by omega):p:=h
theorem sS {p:Prop}(h:p:=by simp):p:=h
theorem zZ {a b:Prop}(k:b)(h:b→a:=by simp only[Go.Proofs.YtempldclppogmaaGreatDoor.Aw.ak,reduceIte];exact fun h=>h):a:=h k
end Go.Proofs.YtempldclppogmaaGreatDoor
namespace Go.Proofs.YtempldclppogmaaGreatDoor.Aw
open Go Go.RowKit
inductive LV where
 |dead
 |nil
 |atom (v:Value)
 |sl (t n:Nat) (cs:List LV)
 |ms (l o n:Nat)
 |ag (cs:List LV)
 |pt (l o:Nat)
 |ep (cs:List LV)
 |mp (l:Nat)
 |fn (f:Fn) (caps:List LV)
 |tu (vs:List LV)
 |qu (t o n:Nat) (cs:List LV)
 |emp
 |pe (l:Nat) (cs:List LV)
 |kap (l n c:Nat)
def qM:Nat:=18446744073709551616
structure G where
 next:Nat
 φ:Nat→Option Nat
 β:Nat→Nat
 κ:Nat→Nat
 nl:Nat→Bool
def G.ok(g:G)(b o:Nat):Prop:=∀ k,g.φ b=some k→o<k
mutual
def Rep(w:World)(g:G):LV→Value→Prop
 |.dead,_=>True
 |.nil,v=>v=.slice none 0 0
 |.emp,v=>∃ A,v=.slice A 0 0
 |.atom x,v=>v=x
 |.sl t n cs,v=>∃ A cap,v=.slice A n cap∧n≤cap∧(cap≤maxLen∧(A=none→cap=0))∧(t≠0→(g.nl t=false→A=some ⟨g.β t,0,none⟩)∧cap=g.κ t∧t<g.next)∧(cs≠[]→∃ b o,A=some ⟨b,o,none⟩∧aN w g b cs o)
 |.ms l o n,v=>∃ A cap,v=.slice A n cap∧n≤cap∧cap≤maxLen∧(o=0→cap=g.κ l∧(g.nl l=false→A=some ⟨g.β l,0,none⟩))∧(n≠0→A=some ⟨g.β l,o,none⟩)∧l<g.next
 |.ag cs,v=>∃ vs:List Value,v=.agg vs.toArray∧aG w g cs vs
 |.pt l o,v=>v=.pointer (some ⟨g.β l,o,none⟩)∧l<g.next
 |.ep cs,v=>∃ b o,v=.pointer (some ⟨b,o,none⟩)∧aN w g b cs o
 |.mp l,v=>v=.map (some (g.β l))∧l<g.next
 |.kap l n c,v=>∃ A,v=.slice A n c∧n≤c∧c≤maxLen∧g.κ l=c∧l<g.next∧(g.nl l=false→A=some ⟨g.β l,0,none⟩)∧(g.nl l=true→c=0)
 |.pe l cs,v=>v=.pointer (some ⟨g.β l,0,none⟩)∧l<g.next∧aN w g (g.β l) cs 0
 |.fn f caps,v=>∃ vs:List Value,v=.func f #[] vs.toArray∧aG w g caps vs
 |.tu lvs,v=>∃ vs:List Value,v=.tuple vs.toArray∧aG w g lvs vs
 |.qu t o n cs,v=>∃ A cap,v=.slice A n cap∧n≤cap∧cap≤maxLen∧t<g.next∧o+cap=g.κ t % qM∧(cap≠0→A=some ⟨g.β t,g.κ t / qM+o,none⟩)∧(cs≠[]→∃ b o,A=some ⟨b,o,none⟩∧aN w g b cs o)
def aG(w:World)(g:G):List LV→List Value→Prop
 |[],vs=>vs=[]
 |c::cs,vs=>∃ v vs',vs=v::vs'∧Rep w g c v∧aG w g cs vs'
def aN(w:World)(g:G)(b:Nat):List LV→Nat→Prop
 |[],_=>True
 |c::cs,o=>(∃ v,w.cell? ⟨b,o,none⟩=some v∧Rep w g c v∧g.ok b o)∧aN w g b cs (o+1)
end
structure Ext(w:World)(g:G)(w':World)(g':G):Prop where
 os:w'.os=w.os
 tape:w'.tape=w.tape
 output:w'.output=w.output
 size:w.heap.size≤w'.heap.size
 next:g.next≤g'.next
 β:∀ l,l<g.next→g'.β l=g.β l
 κ:∀ l,l<g.next→g'.κ l=g.κ l
 nl:∀ l,l<g.next→g'.nl l=g.nl l
 still:∀ b,b<w.heap.size→g.φ b=none→g'.φ b=none∧w'.heap[b]?=w.heap[b]?
 part:∀ b k,b<w.heap.size→g.φ b=some k→∃ k',g'.φ b=some k'∧k≤k'∧∀ o,o<k→w'.cell? ⟨b,o,none⟩=w.cell? ⟨b,o,none⟩
theorem Ext.refl(w:World)(g:G):Ext w g w g:=
 ⟨rfl,rfl,rfl,Nat.le_refl _,Nat.le_refl _,fun _ _=>rfl,fun _ _=>rfl,fun _ _=>rfl,fun _ _ h=>⟨h,rfl⟩,fun _ k _ h=>⟨k,h,Nat.le_refl _,fun _ _=>rfl⟩⟩
theorem Ext.trans{w w' w'':World}{g g' g'':G}(h:Ext w g w' g')(k:Ext w' g' w'' g''):Ext w g w'' g'':=by
 refine⟨k.os.trans h.os,k.tape.trans h.tape,k.output.trans h.output,Nat.le_trans h.size k.size,Nat.le_trans h.next k.next,?_,?_,?_,?_,?_⟩
 ·intro l hl;rw[k.β l (Nat.lt_of_lt_of_le hl h.next),h.β l hl]
 ·intro l hl;rw[k.κ l (Nat.lt_of_lt_of_le hl h.next),h.κ l hl]
 ·intro l hl;rw[k.nl l (Nat.lt_of_lt_of_le hl h.next),h.nl l hl]
 ·intro b hb hn
  obtain⟨h1,h2⟩:=h.still b hb hn
  obtain⟨k1,k2⟩:=k.still b (Nat.lt_of_lt_of_le hb h.size) h1
  exact⟨k1,k2.trans h2⟩
 ·intro b q hb hq
  obtain⟨q1,h1,h2,h3⟩:=h.part b q hb hq
  obtain⟨q2,k1,k2,k3⟩:=k.part b q1 (Nat.lt_of_lt_of_le hb h.size) h1
  exact⟨q2,k1,Nat.le_trans h2 k2,fun o ho=>(k3 o (Nat.lt_of_lt_of_le ho h2)).trans (h3 o ho)⟩
theorem nC{w:World}{a:Addr}{v:Value}(h:w.cell? a=some v):a.block<w.heap.size:=by
 unfold World.cell? at h
 cases hb:w.heap[a.block]? with
 |none=>simp[hb]at h
 |some o=>exact(Array.getElem?_eq_some_iff.1 hb).1
theorem Ext.cell{w w':World}{g g':G}(h:Ext w g w' g'){b o:Nat}{v:Value}(hc:w.cell? ⟨b,o,none⟩=some v)(hok:g.ok b o):
 w'.cell? ⟨b,o,none⟩=some v∧g'.ok b o:=by
 have hb:b<w.heap.size:=nC hc
 cases hφ:g.φ b with
 |none=>
  obtain⟨h1,h2⟩:=h.still b hb hφ
  refine⟨?_,fun k hk=>by rw[h1]at hk;cases hk⟩
  rw[← hc];exact World.cell?_of_block (w:=w) h2
 |some k=>
  obtain⟨k',h1,h2,h3⟩:=h.part b k hb hφ
  have ho:=hok k hφ
  refine⟨(h3 o ho).trans hc,fun q hq=>?_⟩
  rw[h1]at hq;injection hq with hq;omega
mutual
theorem Rep.mono{w w':World}{g g':G}(h:Ext w g w' g'):∀(lv:LV) (v:Value),Rep w g lv v→Rep w' g' lv v
 |.dead,_,_=>by simp only[Rep]
 |.nil,v,hr=>by simp only[Rep]at hr ⊢;exact hr
 |.emp,v,hr=>by simp only[Rep]at hr ⊢;exact hr
 |.atom x,v,hr=>by simp only[Rep]at hr ⊢;exact hr
 |.sl t n cs,v,hr=>by
  simp only[Rep]at hr ⊢
  obtain⟨A,cap,hv,hn,hc,ht,hcs⟩:=hr
  refine⟨A,cap,hv,hn,hc,fun h0=>?_,fun hne=>?_⟩
  ·obtain⟨h1,h2,h3⟩:=ht h0
   exact⟨by rw[h.β t h3,h.nl t h3];exact h1,by rw[h.κ t h3];exact h2,Nat.lt_of_lt_of_le h3 h.next⟩
  ·obtain⟨b,o,hA,hrow⟩:=hcs hne
   exact⟨b,o,hA,aN.mono h b cs o hrow⟩
 |.ms l o n,v,hr=>by
  simp only[Rep]at hr ⊢
  obtain⟨A,cap,h1,h2,h3,h4,h5,h6⟩:=hr
  exact⟨A,cap,h1,h2,h3,by rw[h.κ l h6,h.β l h6,h.nl l h6];exact h4,by rw[h.β l h6];exact h5,Nat.lt_of_lt_of_le h6 h.next⟩
 |.ag cs,v,hr=>by
  simp only[Rep]at hr ⊢
  obtain⟨vs,hv,hl⟩:=hr
  exact⟨vs,hv,aG.mono h cs vs hl⟩
 |.pt l o,v,hr=>by
  simp only[Rep]at hr ⊢
  exact⟨by rw[h.β l hr.2];exact hr.1,Nat.lt_of_lt_of_le hr.2 h.next⟩
 |.ep cs,v,hr=>by
  simp only[Rep]at hr ⊢
  obtain⟨b,o,hv,hl⟩:=hr
  exact⟨b,o,hv,aN.mono h b cs o hl⟩
 |.mp l,v,hr=>by
  simp only[Rep]at hr ⊢
  exact⟨by rw[h.β l hr.2];exact hr.1,Nat.lt_of_lt_of_le hr.2 h.next⟩
 |.fn f cs,v,hr=>by
  simp only[Rep]at hr ⊢
  obtain⟨vs,hv,hl⟩:=hr
  exact⟨vs,hv,aG.mono h cs vs hl⟩
 |.tu cs,v,hr=>by
  simp only[Rep]at hr ⊢
  obtain⟨vs,hv,hl⟩:=hr
  exact⟨vs,hv,aG.mono h cs vs hl⟩
 |.qu t o n cs,v,hr=>by
  simp only[Rep]at hr ⊢
  obtain⟨A,cap,hv,hn,hc,ht,hk,hA,hcs⟩:=hr
  refine⟨A,cap,hv,hn,hc,Nat.lt_of_lt_of_le ht h.next,by rw[h.κ t ht];exact hk,by rw[h.κ t ht,h.β t ht];exact hA,fun hne=>?_⟩
  obtain⟨b,o,hA,hrow⟩:=hcs hne
  exact⟨b,o,hA,aN.mono h b cs o hrow⟩
 |.kap l n c,v,hr=>by
  simp only[Rep]at hr ⊢
  obtain⟨A,h1,h2,h3,h4,h5,h6,h7⟩:=hr
  exact⟨A,h1,h2,h3,by rw[h.κ l h5];exact h4,Nat.lt_of_lt_of_le h5 h.next,by rw[h.β l h5,h.nl l h5];exact h6,by rw[h.nl l h5];exact h7⟩
 |.pe l cs,v,hr=>by
  simp only[Rep]at hr ⊢
  obtain⟨h1,h2,h3⟩:=hr
  exact⟨by rw[h.β l h2];exact h1,Nat.lt_of_lt_of_le h2 h.next,by rw[h.β l h2];exact aN.mono h (g.β l) cs 0 h3⟩
theorem aG.mono{w w':World}{g g':G}(h:Ext w g w' g'):∀(cs:List LV) (vs:List Value),aG w g cs vs→aG w' g' cs vs
 |[],_,hr=>by simp only[aG]at hr ⊢;exact hr
 |c::cs,_,hr=>by
  simp only[aG]at hr ⊢
  obtain⟨v,vs',hv,h1,h2⟩:=hr
  exact⟨v,vs',hv,Rep.mono h c v h1,aG.mono h cs vs' h2⟩
theorem aN.mono{w w':World}{g g':G}(h:Ext w g w' g')(b:Nat):∀(cs:List LV) (o:Nat),aN w g b cs o→aN w' g' b cs o
 |[],_,_=>by simp only[aN]
 |c::cs,o,hr=>by
  simp only[aN]at hr ⊢
  obtain⟨⟨v,h1,h2,h3⟩,h4⟩:=hr
  obtain⟨k1,k2⟩:=h.cell h1 h3
  exact⟨⟨v,k1,Rep.mono h c v h2,k2⟩,aN.mono h b cs (o+1) h4⟩
end
inductive cA where
 |dead
 |own (e s n:Nat)
 |box (e s:Nat) (cs:List LV)
 |map (ag:Bool) (ks:List IntKind) (es:List (List Int×LV))
 |que (e n:Nat)
 |frz (ag:Bool) (ks:List IntKind) (es:List (List Int×LV))
structure St where
 next:Nat
 H:Nat→cA
def blk(g:G)(st:St)(l:Nat):Prop:=match st.H l with
 |.dead=>False
 |.own _ _ _=>g.nl l=false
 |.box _ _ _=>g.nl l=false
 |.map _ _ _=>g.nl l=false
 |.que _ _=>g.nl l=false
 |.frz _ _ _=>False
def mkC:List IntKind→List Int→List Value
 |k::ks,n::ns=>.int k n::mkC ks ns
 |_,_=>[]
def mkV(ag:Bool)(ks:List IntKind)(ns:List Int):Value:=if ag then .agg (mkC ks ns).toArray else(mkC ks ns).headD undef
def tK(w:World)(g:G)(l:Nat)(ag:Bool)(ks:List IntKind)(es:List (List Int×LV)):Prop:=
 g.nl l=false∧(∀ p∈es,p.1.length=ks.length)∧∃(ents:List MapEntry) (clock:Nat),w.heap[g.β l]?=some (.map ents.toArray clock)∧ents.map (·.key)=es.map (fun p=>mkV ag ks p.1)∧
  aG w g (es.map (·.2)) (ents.map (·.val))∧g.φ (g.β l)=some 0∧(∀ x∈ents,x.born<clock)∧(ents.map (·.born)).Nodup
def aAb(w:World)(g:G)(l e n:Nat):Prop:=
 g.nl l=false∧(∃ cur:Array Value,w.heap[g.β l]?=some (.cells cur e (0,0))∧cur.size=g.κ l / qM+g.κ l % qM)∧g.φ (g.β l)=some (g.κ l / qM+n)∧n≤g.κ l % qM∧g.κ l % qM≤maxLen
def aDl(w:World)(g:G)(l:Nat)(ag:Bool)(ks:List IntKind)(es:List (List Int×LV)):Prop:=
 g.nl l=false∧l<g.next∧(∀ p∈es,p.1.length=ks.length)∧∃(ents:List MapEntry) (clock:Nat),w.heap[g.β l]?=some (.map ents.toArray clock)∧ents.map (·.key)=es.map (fun p=>mkV ag ks p.1)∧
  aG w g (es.map (·.2)) (ents.map (·.val))∧g.φ (g.β l)=none∧(∀ x∈ents,x.born<clock)∧(ents.map (·.born)).Nodup
theorem aDl.keep{w w':World}{g g':G}{l:Nat}{ag:Bool}{ks:List IntKind}{es:List (List Int×LV)}(h:aDl w g l ag ks es)(he:Ext w g w' g'):aDl w' g' l ag ks es:=by
 obtain⟨h1,h0,h2,ents,clock,h3,h4,h5,h6,h7⟩:=h
 obtain⟨k1,k2⟩:=he.still _ (Array.getElem?_eq_some_iff.1 h3).1 h6
 exact⟨by rw[he.nl l h0];exact h1,Nat.lt_of_lt_of_le h0 he.next,h2,ents,clock,by rw[he.β l h0,k2];exact h3,h4,aG.mono he _ _ h5,by rw[he.β l h0];exact k1,h7⟩
@[simp] def eK:cA→Bool
  |.frz _ _ _=>true
  |_=>false
theorem rZ{o:cA}(h:eK o=true):∃ ag ks es,o=.frz ag ks es:=by
 cases o<;>first|exact⟨_,_,_,rfl⟩|cases h
def aDP:List (Nat×List Value):=[(0,Lib.deBruijn64tab.map fun(n:Nat)=>.int .u8 n)]
def fY(w:World)(g:G):Prop:=∀ T∈aDP,∀(j:Nat) (v:Value),T.2[j]?=some v→w.cell? ⟨T.1,j,none⟩=some v∧g.φ T.1=none
theorem fY.keep{w w':World}{g g':G}(h:fY w g)(he:Ext w g w' g'):fY w' g':=fun T hT j v hv=>by
 obtain⟨h1,h2⟩:=h T hT j v hv
 obtain⟨k1,k2⟩:=he.still T.1 (nC h1) h2
 exact⟨(World.cell?_of_block (w:=w) k2).trans h1,k1⟩
structure lI(w:World)(g:G)(st:St):Prop where
 frz:∀ l ag ks es,st.H l=.frz ag ks es→aDl w g l ag ks es
 one:∀ l l',eK (st.H l)=true→eK (st.H l')=true→g.β l=g.β l'→l=l'
 glob:fY w g
theorem lI.lt{w:World}{g:G}{st:St}(h:lI w g st){l:Nat}(hl:eK (st.H l)=true):l<g.next:=by
 obtain⟨ag,ks,es,e⟩:=rZ hl
 exact(h.frz l ag ks es e).2.1
theorem lI.keep{w w':World}{g g':G}{st st':St}(h:lI w g st)(he:Ext w g w' g')(hs:∀ l,eK (st'.H l)=true→st'.H l=st.H l):lI w' g' st':=by
 refine⟨fun l ag ks es hl=>?_,fun l l' h1 h2 hb=>?_,h.glob.keep he⟩
 ·have e:=hs l (by rw[hl];rfl)
  rw[hl]at e
  exact(h.frz l ag ks es e.symm).keep he
 ·have e1:=hs l h1
  have e2:=hs l' h2
  rw[e1]at h1
  rw[e2]at h2
  rw[he.β l (h.lt h1),he.β l' (h.lt h2)]at hb
  exact h.one l l' h1 h2 hb
theorem oV{w:World}{g:G}{st:St}(h:fY w g)(hs:∀ l,st.H l=.dead):lI w g st:=
 ⟨fun l ag ks es hl=>(by rw[hs l]at hl;cases hl),fun l l' hl=>(by rw[hs l]at hl;cases hl),h⟩
theorem fY.phi{w:World}{g g':G}(h:fY w g)(hφ:∀ b o v,w.cell? ⟨b,o,none⟩=some v→g.φ b=none→g'.φ b=none):fY w g':=fun T hT j v hv=>by
 obtain⟨h1,h2⟩:=h T hT j v hv
 exact⟨h1,hφ _ _ _ h1 h2⟩
structure Inv(w:World)(g:G)(st:St):Prop where
 next:g.next=st.next
 pos:0<st.next
 fresh:∀ l,st.next≤l→st.H l=.dead
 lt:∀ l,blk g st l→g.β l<w.heap.size
 inj:∀ l l',blk g st l→blk g st l'→g.β l=g.β l'→l=l'
 own:∀ l e s n,st.H l=.own e s n→n≤g.κ l∧g.κ l≤maxLen∧(g.nl l=true→g.κ l=0)∧(g.nl l=false→∃ cur:Array Value,w.heap[g.β l]?=some (.cells cur e (0,0))∧cur.size=g.κ l*s∧g.φ (g.β l)=some (n*s))
 box:∀ l e s cs,st.H l=.box e s cs→g.κ l≤maxLen∧(g.nl l=true→g.κ l=0∧cs=[])∧(g.nl l=false→∃ cur:List Value,w.heap[g.β l]?=some (.cells cur.toArray e (0,0))∧cur.length=g.κ l*s∧cs.length≤cur.length∧aG w g cs (cur.take cs.length)∧g.φ (g.β l)=some 0)
 mp:∀ l ag ks es,st.H l=.map ag ks es→tK w g l ag ks es
 qu:∀ l e n,st.H l=.que e n→aAb w g l e n
 aside:lI w g st
theorem tK.keep{w w':World}{g g':G}{l:Nat}{ag:Bool}{ks:List IntKind}{es:List (List Int×LV)}(h:tK w g l ag ks es)(he:Ext w g w' g')(hlt:l<g.next)(hb:w'.heap[g.β l]?=w.heap[g.β l]?)(hφ:g'.φ (g.β l)=g.φ (g.β l)):tK w' g' l ag ks es:=by
 obtain⟨h1,h2,ents,clock,h3,h4,h5,h6,h7⟩:=h
 refine⟨by rw[he.nl l hlt];exact h1,h2,ents,clock,by rw[he.β l hlt,hb];exact h3,h4,aG.mono he _ _ h5,by rw[he.β l hlt,hφ];exact h6,h7⟩
theorem tK.blk_lt{w:World}{g:G}{l:Nat}{ag:Bool}{ks:List IntKind}{es:List (List Int×LV)}(h:tK w g l ag ks es):g.β l<w.heap.size:=by
 obtain⟨_,_,_,_,h3,_⟩:=h
 exact(Array.getElem?_eq_some_iff.1 h3).1
theorem Inv.map_lt{w:World}{g:G}{st:St}(h:Inv w g st){l:Nat}{ag:Bool}{ks:List IntKind}{es:List (List Int×LV)}(hl:st.H l=.map ag ks es):l<g.next:=by
 rw[h.next]
 rcases Nat.lt_or_ge l st.next with h0|h0
 ·exact h0
 ·rw[h.fresh l h0]at hl;cases hl
theorem aAb.keep{w w':World}{g g':G}{l e n:Nat}(h:aAb w g l e n)(he:Ext w g w' g')(hlt:l<g.next)(hb:w'.heap[g.β l]?=w.heap[g.β l]?)(hφ:g'.φ (g.β l)=g.φ (g.β l)):aAb w' g' l e n:=by
 obtain⟨h1,⟨cur,h2,h3⟩,h4,h5⟩:=h
 refine⟨by rw[he.nl l hlt];exact h1,⟨cur,by rw[he.β l hlt,hb];exact h2,by rw[he.κ l hlt];exact h3⟩,by rw[he.β l hlt,hφ,he.κ l hlt];exact h4,by rw[he.κ l hlt];exact h5⟩
theorem aAb.blk_lt{w:World}{g:G}{l e n:Nat}(h:aAb w g l e n):g.β l<w.heap.size:=by
 obtain⟨_,⟨_,h2,_⟩,_⟩:=h
 exact(Array.getElem?_eq_some_iff.1 h2).1
theorem Inv.que_lt{w:World}{g:G}{st:St}(h:Inv w g st){l e n:Nat}(hl:st.H l=.que e n):l<g.next:=by
 rw[h.next]
 rcases Nat.lt_or_ge l st.next with h0|h0
 ·exact h0
 ·rw[h.fresh l h0]at hl;cases hl
theorem Inv.que_blk{w:World}{g:G}{st:St}(h:Inv w g st){l e n:Nat}(hl:st.H l=.que e n):blk g st l:=by
 unfold blk;rw[hl];exact(h.qu l e n hl).1
theorem Inv.map_blk{w:World}{g:G}{st:St}(h:Inv w g st){l:Nat}{ag:Bool}{ks:List IntKind}{es:List (List Int×LV)}(hl:st.H l=.map ag ks es):blk g st l:=by
 unfold blk;rw[hl];exact(h.mp l ag ks es hl).1
abbrev Frm:=Nat→LV
def upd(fr:Frm)(i:Nat)(v:LV):Frm:=fun j=>if j=i then v else fr j
def bS(w:World)(g:G)(a:Act)(fr:Frm):Prop:=∀ i,Rep w g (fr i) (a.tmps.getD i undef)
theorem bS.mono{w w':World}{g g':G}{a:Act}{fr:Frm}(h:bS w g a fr)(he:Ext w g w' g'):bS w' g' a fr:=
 fun i=>Rep.mono he _ _ (h i)
theorem bS.put{w:World}{g:G}{a:Act}{fr:Frm}(h:bS w g a fr){d:Nat}(hd:d<a.tmps.size){v:Value}{lv:LV}(hv:Rep w g lv v):
 bS w g (a.put (some d) v) (upd fr d lv):=by
 intro i
 simp only[Act.put,upd]
 by_cases hi:i=d
 ·subst hi
  simp[Array.getD_eq_getD_getElem?,hd]
  exact hv
 ·rw[if_neg hi]
  have:=h i
  rw[Array.getD_eq_getD_getElem?,Array.getElem?_setIfInBounds,if_neg (fun e=>hi e.symm),← Array.getD_eq_getD_getElem?]
  exact this
theorem aT(a:Act)(d:Option Tmp)(v:Value):(a.put d v).tmps.size=a.tmps.size:=by cases d<;>simp[Act.put]
theorem put_defers(a:Act)(d:Option Tmp)(v:Value):(a.put d v).defers=a.defers:=by cases d<;>rfl
end Go.Proofs.YtempldclppogmaaGreatDoor.Aw
