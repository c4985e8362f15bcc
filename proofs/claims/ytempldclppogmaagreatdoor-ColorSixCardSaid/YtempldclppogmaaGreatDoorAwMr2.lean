/- Ranging over a map: the rule. No program is named here. -/
import Derived.Test.YtempldclppogmaaGreatDoorAwMr
set_option linter.unusedVariables false
set_option linter.unusedSimpArgs false
namespace Go.Proofs.YtempldclppogmaaGreatDoor
namespace Aw
open Go Go.RowKit
open Go.ChangeMaps (setBlock)
def CP(ag:Bool)(ks:List IntKind)(ns:List Int):LV:=if ag then .ag ((mkC ks ns).map .atom)else .atom ((mkC ks ns).headD undef)
theorem Ak(w:World)(g:G):∀ vs:List Value,aC w g (vs.map .atom) vs
 |[]=>by simp only[aBt,aC]
 |v::vs=>by simp only[aAi,aC,Rep];exact⟨v,vs,rfl,rfl,Ak w g vs⟩
theorem SI(w:World)(g:G)(ag:Bool)(ks:List IntKind)(ns:List Int):Rep w g (CP ag ks ns) (mkV ag ks ns):=by
 unfold CP mkV;cases ag
 .simp only[aAS,aBD,Rep]
 .simp only[aBq,Rep];exact⟨_,rfl,Ak w g _⟩
def lft(es:List (List Int×LV))(dX:List MapEntry)(seen:Array Nat):List (List Int×LV):=((es.zip dX).filter fun p=>!seen.contains p.2.born).map (·.1)
theorem wV{es:List (List Int×LV)}{dX:List MapEntry}(h:es.length=dX.length):lft es dX #[]=es:=by unfold lft;rw[aCA.2 (fun p _=>by simp)];exact List.map_fst_zip oO
theorem GK{es:List (List Int×LV)}{dX:List MapEntry}{seen:Array Nat}(h:∀ x∈dX,seen.contains x.born=true):lft es dX seen=[]:=by unfold lft;rw[aDb.2,aBt];intro p hp;rw[h p.2 (List.of_mem_zip hp).2];simp
theorem Nf{es:List (List Int×LV)}:∀ {dX:List MapEntry},es.length=dX.length->(es.zip dX).map (fun p=>p.2.born)=dX.map (·.born):=by
 intro dX h;have:(es.zip dX).map (fun p=>p.2.born)=((es.zip dX).map (·.2)).map (·.born):=by rw[aBd];rfl
 rw[this,List.map_snd_zip oO]
theorem HP{es:List (List Int×LV)}{dX:List MapEntry}{seen:Array Nat}{e:MapEntry}(h:es.length=dX.length)(hn:(dX.map (·.born)).Nodup)(he:e∈dX)(hs:seen.contains e.born=false):
 ∃ p L1 L2,lft es dX seen=L1++p::L2/\lft es dX (seen.push e.born)=L1++L2/\(p,e)∈es.zip dX:=by
 have hz:=Nf h;obtain⟨j,hj,rfl⟩:=aAB he;have hje:j<es.length:=oO;have Yp:(es[j],dX[j])∈es.zip dX:=by refine aEL.2 ⟨j,by simp;omega,?_⟩;rw[List.getElem_zip]
 have Xl:(es[j],dX[j])∈(es.zip dX).filter fun p=>!seen.contains p.2.born:=aAr.2 ⟨Yp,by simp only[hs];rfl⟩;obtain⟨Z1,Z2,hZ⟩:=aCd Xl;have hnd:(((es.zip dX).filter fun p=>!seen.contains p.2.born).map fun p=>p.2.born).Nodup:=by
  have h1:((es.zip dX).map fun p=>p.2.born).Nodup:=by rw[hz];exact hn
  exact h1.sublist (List.Sublist.map _ aBp)
 rw[hZ,aAu,aAi]at hnd;have Xu:∀ q∈Z1++Z2,q.2.born≠dX[j].born:=by
  intro q hq M5;rw[aAs]at hnd;obtain⟨_,h2,h3⟩:=hnd;rcases aAg.1 hq with h1|h1
  .exact h3 _ (aAx h1) _ sS M5
  .exact(aAy.1 h2).1 (by rw[<- M5];exact aAx h1)
 refine⟨es[j],Z1.map (·.1),Z2.map (·.1),by unfold lft;rw[hZ];simp,?_,Yp⟩;unfold lft;have e1:((es.zip dX).filter fun p=>!(seen.push dX[j].born).contains p.2.born)=((es.zip dX).filter fun p=>!seen.contains p.2.born).filter fun p=>decide (p.2.born≠dX[j].born):=by
  rw[List.filter_filter];refine List.filter_congr fun p _=>?_;rw[contains_push];by_cases hp:p.2.born=dX[j].born
  .simp[hp]
  .simp[hp]
 rw[e1,hZ,aBx,aDx sS];rw[aCA.2 fun q hq=>by simpa using Xu q (aAg.2 (.inl hq)),aCA.2 fun q hq=>by simpa using Xu q (aAg.2 (.inr hq)),aAu]
structure MrS(x:Option Nat)(w0:World)(g0:G)(m b0 r:Nat)(ag:Bool)(ks:List IntKind)(es:List (List Int×LV))(dX:List MapEntry)(clock:Nat)(w:World)(g:G)(st:St)(seen:Array Nat):Prop where
 ext:Ext w0 g0 w (g.at' b0 x)
 inv:Inv w g st
 frz:st.H m=.frz ag ks es
 lt:m<g.next
 β:g.β m=b0
 nl:g.nl m=false
 map:w.heap[b0]?=some (.map dX.toArray clock)
 it:∃ c,clock<=c/\w.heap[r]?=some (.mapIter (some b0) clock seen c)
 φb:g.φ b0=none
 φr:g.φ r=none
 vals:aC w g (es.map (·.2)) (dX.map (·.val))
 r0:w0.heap.size<=r
theorem MrS.step{x:Option Nat}{w0:World}{g0:G}{m b0 r:Nat}{ag:Bool}{ks:List IntKind}{es:List (List Int×LV)}{dX:List MapEntry}{clock:Nat}{w:World}{g:G}{st:St}{seen:Array Nat}(h:MrS x w0 g0 m b0 r ag ks es dX clock w g st seen){w':World}{g':G}{st':St}(he:Ext w g w' g')(hi:Inv w' g' st')(hf:st'.H m=.frz ag ks es):MrS x w0 g0 m b0 r ag ks es dX clock w' g' st' seen:=by
 obtain⟨h1,h2,G1,h3,h4,h5,h6,⟨c,h7,h8⟩,h9,V8,h11,h12⟩:=h;have lb:=(aAw.1 h6).1;have lr:=(aAw.1 h8).1;obtain⟨s1,s2⟩:=he.still b0 lb h9;obtain⟨s3,s4⟩:=he.still r lr V8;refine⟨h1.trans ⟨he.os,he.tape,he.output,he.size,he.next,he.β,he.κ,he.nl,fun b hb hn=>?_,fun b k hb hk=>?_⟩,hi,hf,aAp h3 he.next,(he.β m h3).trans h4,(he.nl m h3).trans h5,s2.trans h6,⟨c,h7,s4.trans h8⟩,s1,s3,aC.mono he _ _ h11,h12⟩
 .by_cases e:b=b0
  .subst e;simp only[G.at',aAe]at hn ⊢;exact⟨hn,s2⟩
  .simp only[G.at',aAa e]at hn ⊢;exact he.still b hb hn
 .by_cases e:b=b0
  .subst e;simp only[G.at',aAe]at hk ⊢;exact⟨k,hk,aAk _,fun o _=>World.cell?_of_block (w:=w) s2⟩
  .simp only[G.at',aAa e]at hk ⊢;exact he.part b k hb hk
def bkS(x:Option Nat)(m:Nat)(o:cI)(st:St):St:=match x with
 |some _=>st.set m o
 |none=>st
def mrQ(P:Program)(N:Nat)(Q:AQ)(k:List fU)(J:Frm->St->Prop)(nx b m:Nat)(f:cI)(F:St->St):AQ:=fun e fr st=>match e with
 |.normal=>J fr st
 |.exit i=>if i=nx then J fr st else if i=b then st.H m=f/\AK P N Q k .normal fr (F st)else st.H m=f/\AK P N Q k (.exit i) fr (F st)
 |e=>st.H m=f/\AK P N Q k e fr (F st)
theorem MrS.out{x:Option Nat}(hx:x=some 0\/x=none){w0:World}{g0:G}{m b0 r:Nat}{ag:Bool}{ks:List IntKind}{es:List (List Int×LV)}{dX:List MapEntry}{clock:Nat}{w:World}{g:G}{st:St}{seen:Array Nat}(h:MrS x w0 g0 m b0 r ag ks es dX clock w g st seen)
 (hk:∀ p∈es,p.1.length=ks.length) (Yd:dX.map (·.key)=es.map fun p=>mkV ag ks p.1) (hb:(∀ x∈dX,x.born<clock)/\(dX.map (·.born)).Nodup) {a:Act} {fr:Frm} (hr:dN w g a fr):
 Inv w (g.at' b0 x) (bkS x m (.map ag ks es) st)/\dN w (g.at' b0 x) a fr/\Ext w0 g0 w (g.at' b0 x):=by
 rcases hx with rfl|rfl
 .have hN:=Ky h.map;have hR:=FF (g:=g) (some 0) hN;have Wu:∀ l,blk g st l->g.β l≠b0:=fun l hl e=>Kt h.inv hl (by rw[e];exact h.φb);have hfz:fV (st.H m)=true:=by rw[h.frz];rfl
  have hH:=GF h.inv m;have hfd:∀ l,fV ((st.set m .dead).H l)=true->g.β l≠b0:=fun l hl e=>by
   simp only[St.set]at hl;by_cases e0:l=m
   .rw[aAe e0]at hl;cases hl
   .rw[aAa e0]at hl;exact e0 (h.inv.aside.one l m hl hfz (by rw[e,h.β]))
  have h1:Inv w (g.at' b0 (some 0)) (st.set m .dead):=Bi hH hR (aAk _) rfl rfl rfl rfl (fun l hl=>⟨rfl,by simp only[G.at',aAa (Wu l (eU hl).2)]⟩)
   (hH.aside.turn hR rfl rfl rfl (fun l hl=>⟨rfl,by simp only[G.at',aAa (hfd l hl)]⟩) fun b o v hc hn=>by
     have:b≠b0:=by rintro rfl;rw[hN o]at hc;cases hc
     simp only[G.at',aAa this];exact hn)
  have h2:=QI h1 (m:=m) (ag:=ag) (ks:=ks) (es:=es) (by have:=h.lt;have:=h.inv.next;simp only[St.set];omega) ?_ ?_
  .rw[set_set]at h2;exact⟨h2,hr.monoR hR,h.ext⟩
  .refine⟨h.nl,hk,dX,clock,?_,Yd,aC.monoR hR _ _ h.vals,?_,hb⟩
   .show w.heap[g.β m]?=_;rw[h.β];exact h.map
   .show(g.at' b0 (some 0)).φ (g.β m)=some 0;rw[h.β];simp[G.at']
  .intro l _ hl;show g.β l≠g.β m;rw[h.β];exact Wu l (eU hl).2
 .have he:=h.ext;rw[SK h.φb]at he ⊢;exact⟨h.inv,hr,he⟩
end Aw
end Go.Proofs.YtempldclppogmaaGreatDoor
