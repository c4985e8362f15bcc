/- Ranging over a map: the rule. No program is named here. -/
import Derived.Test.YtempldclppogmaaGreatDoorAwMr
set_option linter.unusedVariables false
set_option linter.unusedSimpArgs false
namespace Go.Proofs.YtempldclppogmaaGreatDoor.Aw
open Go Go.RowKit
open Go.ChangeMaps (setBlock)
def aBv(ag:Bool)(ks:List IntKind)(ns:List Int):LV:=if ag then .ag ((mkC ks ns).map .atom)else .atom ((mkC ks ns).headD undef)
theorem xX(w:World)(g:G):∀ vs:List Value,aG w g (vs.map .atom) vs
 |[]=>by simp only[List.map_nil,aG]
 |v::vs=>by simp only[List.map_cons,aG,Rep];exact⟨v,vs,rfl,rfl,xX w g vs⟩
theorem aMB(w:World)(g:G)(ag:Bool)(ks:List IntKind)(ns:List Int):Rep w g (aBv ag ks ns) (mkV ag ks ns):=by
 unfold aBv mkV
 cases ag
 ·simp only[Bool.false_eq_true,if_false,Rep]
 ·simp only[if_true,Rep];exact⟨_,rfl,xX w g _⟩
def lft(es:List (List Int×LV))(ents:List MapEntry)(seen:Array Nat):List (List Int×LV):=((es.zip ents).filter fun p=>!seen.contains p.2.born).map (·.1)
theorem rV{es:List (List Int×LV)}{ents:List MapEntry}(h:es.length=ents.length):lft es ents #[]=es:=by
 unfold lft
 rw[List.filter_eq_self.2 (fun p _=>by simp)]
 exact List.map_fst_zip oO
theorem aCe{es:List (List Int×LV)}{ents:List MapEntry}{seen:Array Nat}(h:∀ x∈ents,seen.contains x.born=true):lft es ents seen=[]:=by
 unfold lft
 rw[List.filter_eq_nil_iff.2,List.map_nil]
 intro p hp
 rw[h p.2 (List.of_mem_zip hp).2];simp
theorem aJM{es:List (List Int×LV)}:∀ {ents:List MapEntry},es.length=ents.length→(es.zip ents).map (fun p=>p.2.born)=ents.map (·.born):=by
 intro ents h
 have:(es.zip ents).map (fun p=>p.2.born)=((es.zip ents).map (·.2)).map (·.born):=by rw[List.map_map];rfl
 rw[this,List.map_snd_zip oO]
theorem aDw{es:List (List Int×LV)}{ents:List MapEntry}{seen:Array Nat}{e:MapEntry}(h:es.length=ents.length)(hn:(ents.map (·.born)).Nodup)(he:e∈ents)(hs:seen.contains e.born=false):
 ∃ p L1 L2,lft es ents seen=L1++p::L2∧lft es ents (seen.push e.born)=L1++L2∧(p,e)∈es.zip ents:=by
 have hz:=aJM h
 obtain⟨j,hj,rfl⟩:=List.getElem_of_mem he
 have hje:j<es.length:=oO
 have hmem:(es[j],ents[j])∈es.zip ents:=by
  refine List.mem_iff_getElem.2 ⟨j,by simp;omega,?_⟩
  rw[List.getElem_zip]
 have hin:(es[j],ents[j])∈(es.zip ents).filter fun p=>!seen.contains p.2.born:=List.mem_filter.2 ⟨hmem,by simp only[hs];rfl⟩
 obtain⟨Z1,Z2,hZ⟩:=List.append_of_mem hin
 have hnd:(((es.zip ents).filter fun p=>!seen.contains p.2.born).map fun p=>p.2.born).Nodup:=by
  have h1:((es.zip ents).map fun p=>p.2.born).Nodup:=by rw[hz];exact hn
  exact h1.sublist (List.Sublist.map _ List.filter_sublist)
 rw[hZ,List.map_append,List.map_cons]at hnd
 have hoff:∀ q∈Z1++Z2,q.2.born≠ents[j].born:=by
  intro q hq heq
  rw[List.nodup_append]at hnd
  obtain⟨_,h2,h3⟩:=hnd
  rcases List.mem_append.1 hq with h1|h1
  ·exact h3 _ (List.mem_map_of_mem h1) _ sS heq
  ·exact(List.nodup_cons.1 h2).1 (by rw[← heq];exact List.mem_map_of_mem h1)
 refine⟨es[j],Z1.map (·.1),Z2.map (·.1),by unfold lft;rw[hZ];simp,?_,hmem⟩
 unfold lft
 have e1:((es.zip ents).filter fun p=>!(seen.push ents[j].born).contains p.2.born)=((es.zip ents).filter fun p=>!seen.contains p.2.born).filter fun p=>decide (p.2.born≠ents[j].born):=by
  rw[List.filter_filter]
  refine List.filter_congr fun p _=>?_
  rw[contains_push]
  by_cases hp:p.2.born=ents[j].born
  ·simp[hp]
  ·simp[hp]
 rw[e1,hZ,List.filter_append,List.filter_cons_of_neg sS]
 rw[List.filter_eq_self.2 fun q hq=>by simpa using hoff q (List.mem_append.2 (.inl hq)),List.filter_eq_self.2 fun q hq=>by simpa using hoff q (List.mem_append.2 (.inr hq)),List.map_append]
structure MrS(x:Option Nat)(w0:World)(g0:G)(m b0 r:Nat)(ag:Bool)(ks:List IntKind)(es:List (List Int×LV))(ents:List MapEntry)(clock:Nat)(w:World)(g:G)(st:St)(seen:Array Nat):Prop where
 ext:Ext w0 g0 w (g.at' b0 x)
 inv:Inv w g st
 frz:st.H m=.frz ag ks es
 lt:m<g.next
 β:g.β m=b0
 nl:g.nl m=false
 map:w.heap[b0]?=some (.map ents.toArray clock)
 it:∃ c,clock≤c∧w.heap[r]?=some (.mapIter (some b0) clock seen c)
 φb:g.φ b0=none
 φr:g.φ r=none
 vals:aG w g (es.map (·.2)) (ents.map (·.val))
 r0:w0.heap.size≤r
theorem MrS.step{x:Option Nat}{w0:World}{g0:G}{m b0 r:Nat}{ag:Bool}{ks:List IntKind}{es:List (List Int×LV)}{ents:List MapEntry}{clock:Nat}{w:World}{g:G}{st:St}{seen:Array Nat}(h:MrS x w0 g0 m b0 r ag ks es ents clock w g st seen){w':World}{g':G}{st':St}(he:Ext w g w' g')(hi:Inv w' g' st')(hf:st'.H m=.frz ag ks es):MrS x w0 g0 m b0 r ag ks es ents clock w' g' st' seen:=by
 obtain⟨h1,h2,h2',h3,h4,h5,h6,⟨c,h7,h8⟩,h9,h10,h11,h12⟩:=h
 have lb:=(Array.getElem?_eq_some_iff.1 h6).1
 have lr:=(Array.getElem?_eq_some_iff.1 h8).1
 obtain⟨s1,s2⟩:=he.still b0 lb h9
 obtain⟨s3,s4⟩:=he.still r lr h10
 refine⟨h1.trans ⟨he.os,he.tape,he.output,he.size,he.next,he.β,he.κ,he.nl,fun b hb hn=>?_,fun b k hb hk=>?_⟩,hi,hf,Nat.lt_of_lt_of_le h3 he.next,(he.β m h3).trans h4,(he.nl m h3).trans h5,s2.trans h6,⟨c,h7,s4.trans h8⟩,s1,s3,aG.mono he _ _ h11,h12⟩
 ·by_cases e:b=b0
  ·subst e
   simp only[G.at',if_pos]at hn ⊢
   exact⟨hn,s2⟩
  ·simp only[G.at',if_neg e]at hn ⊢;exact he.still b hb hn
 ·by_cases e:b=b0
  ·subst e
   simp only[G.at',if_pos]at hk ⊢
   exact⟨k,hk,Nat.le_refl _,fun o _=>World.cell?_of_block (w:=w) s2⟩
  ·simp only[G.at',if_neg e]at hk ⊢;exact he.part b k hb hk
def bkS(x:Option Nat)(m:Nat)(o:cA)(st:St):St:=match x with
 |some _=>st.set m o
 |none=>st
def mrQ(P:Program)(N:Nat)(Q:AQ)(k:List eM)(J:Frm→St→Prop)(nx b m:Nat)(f:cA)(F:St→St):AQ:=fun e fr st=>match e with
 |.normal=>J fr st
 |.exit i=>if i=nx then J fr st else if i=b then st.H m=f∧AK P N Q k .normal fr (F st)else st.H m=f∧AK P N Q k (.exit i) fr (F st)
 |e=>st.H m=f∧AK P N Q k e fr (F st)
theorem MrS.out{x:Option Nat}(hx:x=some 0∨x=none){w0:World}{g0:G}{m b0 r:Nat}{ag:Bool}{ks:List IntKind}{es:List (List Int×LV)}{ents:List MapEntry}{clock:Nat}{w:World}{g:G}{st:St}{seen:Array Nat}(h:MrS x w0 g0 m b0 r ag ks es ents clock w g st seen)
 (hk:∀ p∈es,p.1.length=ks.length) (hkey:ents.map (·.key)=es.map fun p=>mkV ag ks p.1) (hb:(∀ x∈ents,x.born<clock)∧(ents.map (·.born)).Nodup) {a:Act} {fr:Frm} (hr:bS w g a fr):
 Inv w (g.at' b0 x) (bkS x m (.map ag ks es) st)∧bS w (g.at' b0 x) a fr∧Ext w0 g0 w (g.at' b0 x):=by
 rcases hx with rfl|rfl
 ·have hN:=aFy h.map
  have hR:=aBu (g:=g) (some 0) hN
  have hne:∀ l,blk g st l→g.β l≠b0:=fun l hl e=>aFt h.inv hl (by rw[e];exact h.φb)
  have hfz:eK (st.H m)=true:=by rw[h.frz];rfl
  have hH:=aDJ h.inv m
  have hfd:∀ l,eK ((st.set m .dead).H l)=true→g.β l≠b0:=fun l hl e=>by
   simp only[St.set]at hl
   by_cases e0:l=m
   ·rw[if_pos e0]at hl;cases hl
   ·rw[if_neg e0]at hl
    exact e0 (h.inv.aside.one l m hl hfz (by rw[e,h.β]))
  have h1:Inv w (g.at' b0 (some 0)) (st.set m .dead):=xY hH hR (Nat.le_refl _) rfl rfl rfl rfl (fun l hl=>⟨rfl,by simp only[G.at',if_neg (hne l (dY hl).2)]⟩)
   (hH.aside.turn hR rfl rfl rfl (fun l hl=>⟨rfl,by simp only[G.at',if_neg (hfd l hl)]⟩) fun b o v hc hn=>by
     have:b≠b0:=by rintro rfl;rw[hN o]at hc;cases hc
     simp only[G.at',if_neg this];exact hn)
  have h2:=aJn h1 (m:=m) (ag:=ag) (ks:=ks) (es:=es) (by have:=h.lt;have:=h.inv.next;simp only[St.set];omega) ?_ ?_
  ·rw[set_set]at h2
   exact⟨h2,hr.monoR hR,h.ext⟩
  ·refine⟨h.nl,hk,ents,clock,?_,hkey,aG.monoR hR _ _ h.vals,?_,hb⟩
   ·show w.heap[g.β m]?=_;rw[h.β];exact h.map
   ·show(g.at' b0 (some 0)).φ (g.β m)=some 0;rw[h.β];simp[G.at']
  ·intro l _ hl
   show g.β l≠g.β m
   rw[h.β];exact hne l (dY hl).2
 ·have he:=h.ext
  rw[aME h.φb]at he ⊢
  exact⟨h.inv,hr,he⟩
end Go.Proofs.YtempldclppogmaaGreatDoor.Aw
