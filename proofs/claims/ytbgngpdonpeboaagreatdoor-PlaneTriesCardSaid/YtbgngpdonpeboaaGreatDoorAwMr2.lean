/- Ranging over a map: the rule. No program is named here. -/
import Derived.Test.YtbgngpdonpeboaaGreatDoorAwMr
set_option linter.unusedVariables false
set_option linter.unusedSimpArgs false
namespace Go.Proofs.YtbgngpdonpeboaaGreatDoor
namespace Aw
open Go Go.RowKit
open Go.ChangeMaps (setBlock)
def Fz(ag:Bool)(ks:List IntKind)(ns:List Int):LV:=if ag then .ag ((mkC ks ns).map .atom)else .atom ((mkC ks ns).headD undef)
theorem Bn(w:World)(g:G):∀ vs:List Value,aC w g (vs.map .atom) vs
 |[]=>by grind [aC]
 |v::vs=>by simp only[aAm,aC,Rep];exact⟨v,vs,rfl,rfl,Bn w g vs⟩
theorem UM(w:World)(g:G)(ag:Bool)(ks:List IntKind)(ns:List Int):Rep w g (Fz ag ks ns) (mkV ag ks ns):=by
 grind [Fz,mkV,Rep,Bn]
def lft(es:List (List Int×LV))(cO:List MapEntry)(seen:Array Nat):List (List Int×LV):=((es.zip cO).filter fun p=>!seen.contains p.2.born).map (·.1)
theorem xB{es:List (List Int×LV)}{cO:List MapEntry}(h:es.length=cO.length):lft es cO #[]=es:=by
 grind [lft,List.filter_eq_self,List.map_fst_zip]
theorem Ik{es:List (List Int×LV)}{cO:List MapEntry}{seen:Array Nat}(h:∀ x∈cO,seen.contains x.born=true):lft es cO seen=[]:=by unfold lft;rw[aDA.2,aCL];intro p hp;rw[h p.2 (List.of_mem_zip hp).2];simp
theorem TM{es:List (List Int×LV)}:∀ {cO:List MapEntry},es.length=cO.length->(es.zip cO).map (fun p=>p.2.born)=cO.map (·.born):=by
 intro cO h;have:(es.zip cO).map (fun p=>p.2.born)=((es.zip cO).map (·.2)).map (·.born):=by rw[aAW];rfl
 grind [List.map_snd_zip]
theorem HU{es:List (List Int×LV)}{cO:List MapEntry}{seen:Array Nat}{e:MapEntry}(h:es.length=cO.length)(hn:(cO.map (·.born)).Nodup)(he:e∈cO)(hs:seen.contains e.born=false):
 ∃ p L1 L2,lft es cO seen=L1++p::L2/\lft es cO (seen.push e.born)=L1++L2/\(p,e)∈es.zip cO:=by
 have hz:=TM h;obtain⟨j,hj,rfl⟩:=aAA he;have hje:j<es.length:=oO;have N5:(es[j],cO[j])∈es.zip cO:=by refine aEA.2 ⟨j,by grind,?_⟩;rw[aDF]
 have j5:(es[j],cO[j])∈(es.zip cO).filter fun p=>!seen.contains p.2.born:=aAB.2 ⟨N5,by grind⟩;obtain⟨Z1,Z2,hZ⟩:=aBb j5;have hnd:(((es.zip cO).filter fun p=>!seen.contains p.2.born).map fun p=>p.2.born).Nodup:=by
  have h1:((es.zip cO).map fun p=>p.2.born).Nodup:=by rw[hz];exact hn
  exact h1.sublist (List.Sublist.map _ aBo)
 rw[hZ,aAv,aAm]at hnd;have o6:∀ q∈Z1++Z2,q.2.born≠cO[j].born:=by
  intro q hq heq;rw[aAo]at hnd;obtain⟨_,h2,h3⟩:=hnd;rcases aAd.1 hq with h1|h1
  .grind [List.mem_map_of_mem]
  .grind
 refine⟨es[j],Z1.map (·.1),Z2.map (·.1),by grind [lft],?_,N5⟩;unfold lft;have e1:((es.zip cO).filter fun p=>!(seen.push cO[j].born).contains p.2.born)=((es.zip cO).filter fun p=>!seen.contains p.2.born).filter fun p=>decide (p.2.born≠cO[j].born):=by
  rw[List.filter_filter];refine List.filter_congr fun p _=>?_;rw[contains_push];by_cases hp:p.2.born=cO[j].born
  .grind
  .grind
 rw[e1,hZ,aCR,List.filter_cons_of_neg sS];rw[aCM.2 fun q hq=>by grind,aCM.2 fun q hq=>by grind,aAv]
structure MrS(x:Option Nat)(w0:World)(g0:G)(m b0 r:Nat)(ag:Bool)(ks:List IntKind)(es:List (List Int×LV))(cO:List MapEntry)(clock:Nat)(w:World)(g:G)(st:St)(seen:Array Nat):Prop where
 ext:Ext w0 g0 w (g.at' b0 x)
 inv:Inv w g st
 frz:st.H m=.frz ag ks es
 lt:m<g.next
 β:g.β m=b0
 nl:g.nl m=false
 map:w.heap[b0]?=some (.map cO.toArray clock)
 it:∃ c,clock<=c/\w.heap[r]?=some (.mapIter (some b0) clock seen c)
 φb:g.φ b0=none
 φr:g.φ r=none
 vals:aC w g (es.map (·.2)) (cO.map (·.val))
 r0:w0.heap.size<=r
theorem MrS.step{x:Option Nat}{w0:World}{g0:G}{m b0 r:Nat}{ag:Bool}{ks:List IntKind}{es:List (List Int×LV)}{cO:List MapEntry}{clock:Nat}{w:World}{g:G}{st:St}{seen:Array Nat}(h:MrS x w0 g0 m b0 r ag ks es cO clock w g st seen){w':World}{g':G}{st':St}(he:Ext w g w' g')(hi:Inv w' g' st')(hf:st'.H m=.frz ag ks es):MrS x w0 g0 m b0 r ag ks es cO clock w' g' st' seen:=by
 obtain⟨h1,h2,h2',h3,h4,h5,h6,⟨c,h7,h8⟩,h9,h10,h11,h12⟩:=h;have lb:=(aAJ.1 h6).1;have lr:=(aAJ.1 h8).1;obtain⟨s1,s2⟩:=he.still b0 lb h9;obtain⟨s3,s4⟩:=he.still r lr h10;refine⟨h1.trans ⟨he.os,he.tape,he.output,he.size,he.next,he.β,he.κ,he.nl,fun b hb hn=>?_,fun b k hb hk=>?_⟩,hi,hf,aAs h3 he.next,(he.β m h3).trans h4,(he.nl m h3).trans h5,s2.trans h6,⟨c,h7,s4.trans h8⟩,s1,s3,aC.mono he _ _ h11,h12⟩
 .by_cases e:b=b0
  .grind [G.at']
  .simp only[G.at',aAa e]at hn ⊢;exact he.still b hb hn
 .by_cases e:b=b0
  .grind [G.at',World.cell?_of_block]
  .simp only[G.at',aAa e]at hk ⊢;exact he.part b k hb hk
def bkS(x:Option Nat)(m:Nat)(o:cN)(st:St):St:=match x with
 |some _=>st.set m o
 |none=>st
def mrQ(P:Program)(N:Nat)(Q:AQ)(k:List gO)(J:Frm->St->Prop)(nx b m:Nat)(f:cN)(F:St->St):AQ:=fun e fr st=>match e with
 |.normal=>J fr st
 |.exit i=>if i=nx then J fr st else if i=b then st.H m=f/\AK P N Q k .normal fr (F st)else st.H m=f/\AK P N Q k (.exit i) fr (F st)
 |e=>st.H m=f/\AK P N Q k e fr (F st)
theorem MrS.out{x:Option Nat}(hx:x=some 0\/x=none){w0:World}{g0:G}{m b0 r:Nat}{ag:Bool}{ks:List IntKind}{es:List (List Int×LV)}{cO:List MapEntry}{clock:Nat}{w:World}{g:G}{st:St}{seen:Array Nat}(h:MrS x w0 g0 m b0 r ag ks es cO clock w g st seen)
 (hk:∀ p∈es,p.1.length=ks.length) (N8:cO.map (·.key)=es.map fun p=>mkV ag ks p.1) (hb:(∀ x∈cO,x.born<clock)/\(cO.map (·.born)).Nodup) {a:Act} {fr:Frm} (hr:dX w g a fr):
 Inv w (g.at' b0 x) (bkS x m (.map ag ks es) st)/\dX w (g.at' b0 x) a fr/\Ext w0 g0 w (g.at' b0 x):=by
 rcases hx with rfl|rfl
 .have hN:=LU h.map;have hR:=FY (g:=g) (some 0) hN;have c7:∀ l,blk g st l->g.β l≠b0:=fun l hl e=>LO h.inv hl (by rw[e];exact h.φb);have hfz:gR (st.H m)=true:=by rw[h.frz];rfl
  have hH:=Ie h.inv m;have hfd:∀ l,gR ((st.set m .dead).H l)=true->g.β l≠b0:=fun l hl e=>by
   simp only[St.set]at hl;by_cases e0:l=m
   .simp_all
   .rw[aAa e0]at hl;exact e0 (h.inv.aside.one l m hl hfz (by rw[e,h.β]))
  have h1:Inv w (g.at' b0 (some 0)) (st.set m .dead):=BI hH hR (aAl _) rfl rfl rfl rfl (fun l hl=>⟨rfl,by grind [G.at',fK]⟩)
   (hH.aside.turn hR rfl rfl rfl (fun l hl=>⟨rfl,by grind [G.at']⟩) fun b o v hc hn=>by
     have:b≠b0:=by rintro rfl;rw[hN o]at hc;cases hc
     grind [G.at'])
  have h2:=Rr h1 (m:=m) (ag:=ag) (ks:=ks) (es:=es) (by have:=h.lt;have:=h.inv.next;grind [St.set]) ?_ ?_
  .rw[set_set]at h2;exact⟨h2,hr.monoR hR,h.ext⟩
  .refine⟨h.nl,hk,cO,clock,?_,N8,aC.monoR hR _ _ h.vals,?_,hb⟩
   .show w.heap[g.β m]?=_;rw[h.β];exact h.map
   .show(g.at' b0 (some 0)).φ (g.β m)=some 0;rw[h.β];simp[G.at']
  .intro l _ hl;show g.β l≠g.β m;rw[h.β];exact c7 l (fK hl).2
 .have he:=h.ext;rw[Vv h.φb]at he ⊢;exact⟨h.inv,hr,he⟩
end Aw
end Go.Proofs.YtbgngpdonpeboaaGreatDoor
