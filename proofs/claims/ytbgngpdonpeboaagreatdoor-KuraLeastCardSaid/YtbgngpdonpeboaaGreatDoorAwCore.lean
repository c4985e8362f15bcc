/- Logical values, what represents them in memory, and that this lasts while memory only grows. No program is named here. -/
import Derived.Below
import Derived.Laws.AppendOwn
import Derived.Maps.AppendAt
import Derived.OwnWalk
import Derived.Deep.Draws
import Derived.Laws.Rows
import Derived.Lib.TrailingZeros
set_option linter.unusedVariables false
set_option linter.unusedSimpArgs false
set_option linter.defProp false
namespace Go.Proofs.YtbgngpdonpeboaaGreatDoor
theorem oO {p:Prop}(h:p:=by omega):p:=h
theorem sS {p:Prop}(h:p:=by simp):p:=h
theorem zZ {a b:Prop}(k:b)(h:b→a:=by simp only[Go.Proofs.YtbgngpdonpeboaaGreatDoor.Aw.ak,reduceIte];exact fun h=>h):a:=h k
theorem zW {a b:Int}(h:a=b:=by omega)(h0:-9223372036854775808≤a:=by omega)(h1:a≤9223372036854775807:=by omega):Go.IntKind.i64.wrap a=b:=by
 subst h
 simp only[Go.IntKind.wrap,Go.IntKind.signed,Go.IntKind.bits]
 simp
 split <;> omega
def aAa:=@if_neg
def aAb:=@Option.some.injEq
def aAc:=@List.mem_cons_of_mem
def aAd:=@List.mem_append
def aAe:=@List.mem_cons
def aAf:=@List.mem_cons_self
def aAg:=@List.getD_eq_getElem?_getD
def aAh:=@List.getElem?_eq_getElem
def aAi:=@List.mem_map
def aAj:=@if_pos
def aAk:=@List.mem_singleton
def aAl:=@List.map_cons
def aAm:=@Nat.le_refl
def aAn:=@List.length_append
def aAo:=@List.nodup_append
def aAp:=@List.nodup_cons
def aAq:=@List.mem_append_left
def aAr:=@Nat.lt_of_lt_of_le
def aAs:=@List.take_succ_eq_append_getElem
def aAt:=@List.mem_map_of_mem
def aAu:=@List.map_append
def aAv:=@List.take_of_length_le
def aAw:=@List.length_take
def aAx:=@List.mem_append_right
def aAy:=@List.mem_filter
def aAz:=@List.pairwise_iff_getElem
def aAA:=@List.Nodup.length_le_of_subset
def aAB:=@List.length_map
def aAC:=@List.getElem_of_mem
def aAD:=@List.append_assoc
def aAE:=@List.take_append_drop
def aAF:=@List.flatMap_cons
def aAG:=@Classical.byContradiction
def aAH:=@Array.getElem?_eq_some_iff
def aAI:=@List.getElem_mem
def aAJ:=@Nat.mod_eq_of_lt
def aAK:=@List.eq_nil_of_length_eq_zero
def aAL:=@List.drop_eq_getElem_cons
def aAM:=@List.exists_mem_of_ne_nil
def aAN:=@List.map_congr_left
def aAO:=@List.append_nil
def aAP:=@List.filter_sublist
def aAQ:=@List.mem_flatten
def aAR:=@decide_eq_true_iff
def aAS:=@Nat.lt_or_ge
def aAT:=@List.length_drop
def aAU:=@List.length_filter_le
def aAV:=@List.pairwise_map
def aAW:=@Bool.and_eq_true
def aAX:=@List.map_map
def aAY:=@List.mem_flatMap
def aAZ:=@List.perm_ext_iff_of_nodup
def aBa:=@Nat.le_trans
def aBb:=@Bool.false_eq_true
def aBc:=@List.size_toArray
def aBd:=@Prod.mk.injEq
def aBe:=@List.take_length
def aBf:=@List.getElem?_append_left
def aBg:=@List.idxOf_lt_length_of_mem
def aBh:=@List.append_of_mem
def aBi:=@List.length_pos_iff
def aBj:=@Option.map_eq_some_iff
def aBk:=@List.pairwise_cons
def aBl:=@List.mem_range
def aBm:=@List.perm_append_comm
def aBn:=@Option.some.inj
def aBo:=@List.sublist_flatten_of_mem
def aBp:=@List.mem_reverse
def aBq:=@if_true
def aBr:=@List.reverse_perm
def aBs:=@List.ne_nil_of_mem
def aBt:=@List.cons.injEq
def aBu:=@List.getElem?_append_right
def aBv:=@List.exists_cons_of_ne_nil
def aBw:=@Option.bind_eq_some_iff
def aBx:=@decide_eq_true_eq
def aBy:=@Nat.zero_add
def aBz:=@List.getElem_append_right
def aBA:=@Array.replicate_succ
def aBB:=@Array.getElem?_setIfInBounds
def aBC:=@List.append_toArray
def aBD:=@Nat.zero_le
def aBE:=@if_false
def aBF:=@List.perm_middle
def aBG:=@List.all_eq_true
def aBH:=@List.push_toArray
def aBI:=@List.foldl_append
def aBJ:=@Prod.swap_swap
def aBK:=@List.set_eq_take_append_cons_drop
def aBL:=@List.getElem_idxOf
def aBM:=@List.getElem?_take
def aBN:=@Nat.eq_of_testBit_eq
def aBO:=@List.pairwise_append
def aBP:=@List.pairwise_lt_range
def aBQ:=@decide_eq_true
def aBR:=@List.getElem_take
def aBS:=@List.flatten_append
def aBT:=@List.mem_of_find?_eq_some
def aBU:=@List.eq_nil_iff_forall_not_mem
def aBV:=@List.getElem?_eq_none
def aBW:=@Array.getElem?_toList
def aBX:=@List.getElem?_toArray
def aBY:=@Nat.mul_comm
def aBZ:=@Prod.ext
def aCa:=@List.not_mem_nil
def aCb:=@Nat.ne_of_lt
def aCc:=@Nat.add_mul
def aCd:=@Nat.mul_le_mul_right
def aCe:=@List.dropLast_concat_getLast
def aCf:=@decide_eq_false_iff_not
def aCg:=@Nat.lt_trichotomy
def aCh:=@of_decide_eq_true
def aCi:=@List.getElem?_map
def aCj:=@decide_eq_false
def aCk:=@List.flatMap_append
def aCl:=@List.Perm.append_left
def aCm:=@List.mem_of_mem_take
def aCn:=@List.getElem_drop
def aCo:=@List.ext_getElem?
def aCp:=@List.length_eq_zero_iff
def aCq:=@List.getLast_eq_getElem
def aCr:=@not_or
def aCs:=@List.filter_eq_self
def aCt:=@List.getElem_map
def aCu:=@List.take_take
def aCv:=@List.take_append
def aCw:=@Nat.mod_lt
def aCx:=@List.map_nil
def aCy:=@List.filter_append
def aCz:=@getElem!_pos
def aCA:=@Array.getD_eq_getD_getElem?
def aCB:=@Ne.symm
def aCC:=@List.reverse_reverse
def aCD:=@List.Pairwise.filter
def aCE:=@List.drop_drop
def aCF:=@List.getElem_append_left
def aCG:=@List.map_eq_nil_iff
def aCH:=@Int.eq_ofNat_of_zero_le
def aCI:=@Nat.testBit_mul_two_pow
def aCJ:=@List.map_drop
def aCK:=@Nat.eq_zero_or_pos
def aCL:=@Nat.add_sub_cancel
def aCM:=@List.find?_some
def aCN:=@List.length_set
def aCO:=@of_decide_eq_false
def aCP:=@List.find?_eq_none
def aCQ:=@List.toArray_range
def aCR:=@List.find?_cons_of_neg
def aCS:=@List.drop_of_length_le
def aCT:=@List.Sublist.refl
def aCU:=@List.reverse_cons
def aCV:=@List.eq_nil_or_concat
def aCW:=@List.concat_eq_append
def aCX:=@List.drop_left
def aCY:=@List.Pairwise.sublist
def aCZ:=@List.ext_getElem
def aDa:=@Nat.lt_succ_self
def aDb:=@List.mem_iff_getElem
def aDc:=@List.flatMap_nil
def aDd:=@Int.le_refl
def aDe:=@beq_eq_false_iff_ne
def aDf:=@Nat.min_eq_left
def aDg:=@Array.getElem?_eq_getElem
def aDh:=@List.append_eq_append_iff
def aDi:=@List.getElem?_eq_some_iff
def aDj:=@BitVec.toNat_ofNat
def aDk:=@List.getElem?_drop
def aDl:=@Option.isSome_iff_exists
def aDm:=@List.take_left
def aDn:=@List.Perm.refl
def aDo:=@List.pairwise_singleton
def aDp:=@List.getElem?_set
def aDq:=@Nat.add_mod_right
def aDr:=@List.length_range
def aDs:=@Nat.mul_pos
def aDt:=@Nat.mul_one
def aDu:=@List.filter_eq_nil_iff
def aDv:=@List.Perm.append_right
def aDw:=@List.length_eq_one_iff
def aDx:=@or_false
def aDy:=@List.any_eq_true
def aDz:=@Nat.div_eq_of_lt
def aDA:=@List.getElem_zip
def aDB:=@List.nodup_range
def aDC:=@List.filter_cons
def aDD:=@List.map_snd_zip
def aDE:=@List.map_flatten
def aDF:=@List.map_toArray
def aDG:=@Nat.mod_self
def aDH:=@List.mem_of_mem_drop
def aDI:=@Nat.not_lt_zero
def aDJ:=@List.drop_append_of_le_length
def aDK:=@List.drop_succ_cons
def aDL:=@Array.toList_append
def aDM:=@Nat.le_succ
def aDN:=@Array.extract_eq_self_of_le
def aDO:=@Int.tmod_eq_emod_of_nonneg
def aDP:=@Array.getElem?_append_left
def aDQ:=@not_true_eq_false
def aDR:=@List.filter_congr
def aDS:=@beq_iff_eq
def aDT:=@Array.mapM_eq_mapM_toList
def aDU:=@Nat.succ_mul
def aDV:=@Nat.testBit_succ
def aDW:=@List.drop_length
def aDX:=@Nat.add_right_cancel_iff
def aDY:=@Nat.le_of_eq
def aDZ:=@Nat.le_add_right
def aEa:=@List.map_flatMap
def aEb:=@List.map_fst_zip
def aEc:=@List.range_succ
def aEd:=@Nat.mul_ne_zero
def aEe:=@List.length_zip
def aEf:=@Nat.mul_eq_zero
def aEg:=@List.not_of_lt_findIdx
def aEh:=@List.length_pos_of_mem
def aEi:=@List.map_eq_append_iff
def aEj:=@List.append_eq_nil_iff
def aEk:=@List.pairwise_flatten
def aEl:=@List.drop_take
def aEm:=@Nat.le_div_iff_mul_le
def aEn:=@Array.getElem?_modify
def aEo:=@Array.mem_of_getElem?
def aEp:=@Classical.choose_spec
def aEq:=@List.idxOf_le_length
def aEr:=@List.perm_cons_erase
def aEs:=@Nat.pow_le_pow_right
def aEt:=@List.findIdx_getElem
def aEu:=@and_true
def aEv:=@List.map_eq_cons_iff
def aEw:=@Nat.div_lt_of_lt_mul
def aEx:=@Array.ext'
def aEy:=@Array.mem_toList_iff
def aEz:=@List.drop_set_of_lt
def aEA:=@List.perm_iff_count
def aEB:=@List.reverse_append
def aEC:=@List.length_reverse
def aED:=@List.getElem?_range
def aEE:=@Nat.zero_mul
def aEF:=@Iff.rfl
def aEG:=@List.map_id
namespace Aw
open Go Go.RowKit
inductive LV where
 |dead
 |nil
 |atom (v:Value)
 |sl (t n:Nat) (cs:List LV)
 |ms (l o n:Nat)
 |ag (cs:List LV)
 |pt (l o:Nat)
 |ep (cs:List LV)
 |mp (l:Nat)
 |fn (f:Fn) (IQ:List LV)
 |tu (vs:List LV)
 |qu (t o n:Nat) (cs:List LV)
 |emp
 |pe (l:Nat) (cs:List LV)
 |kap (l n c:Nat)
def qM:Nat:=18446744073709551616
structure G where
 next:Nat
 φ:Nat->Option Nat
 β:Nat->Nat
 κ:Nat->Nat
 nl:Nat->Bool
def G.ok(g:G)(b o:Nat):Prop:=∀ k,g.φ b=some k->o<k
mutual
def Rep(w:World)(g:G):LV->Value->Prop
 |.dead,_=>True
 |.nil,v=>v=.slice none 0 0
 |.emp,v=>∃ A,v=.slice A 0 0
 |.atom x,v=>v=x
 |.sl t n cs,v=>∃ A cap,v=.slice A n cap/\n<=cap/\(cap<=maxLen/\(A=none->cap=0))/\(t≠0->(g.nl t=false->A=some ⟨g.β t,0,none⟩)/\cap=g.κ t/\t<g.next)/\(cs≠[]->∃ b o,A=some ⟨b,o,none⟩/\aM w g b cs o)
 |.ms l o n,v=>∃ A cap,v=.slice A n cap/\n<=cap/\cap<=maxLen/\(o=0->cap=g.κ l/\(g.nl l=false->A=some ⟨g.β l,0,none⟩))/\(n≠0->A=some ⟨g.β l,o,none⟩)/\l<g.next
 |.ag cs,v=>∃ vs:List Value,v=.agg vs.toArray/\aC w g cs vs
 |.pt l o,v=>v=.pointer (some ⟨g.β l,o,none⟩)/\l<g.next
 |.ep cs,v=>∃ b o,v=.pointer (some ⟨b,o,none⟩)/\aM w g b cs o
 |.mp l,v=>v=.map (some (g.β l))/\l<g.next
 |.kap l n c,v=>∃ A,v=.slice A n c/\n<=c/\c<=maxLen/\g.κ l=c/\l<g.next/\(g.nl l=false->A=some ⟨g.β l,0,none⟩)/\(g.nl l=true->c=0)
 |.pe l cs,v=>v=.pointer (some ⟨g.β l,0,none⟩)/\l<g.next/\aM w g (g.β l) cs 0
 |.fn f IQ,v=>∃ vs:List Value,v=.func f #[] vs.toArray/\aC w g IQ vs
 |.tu M7,v=>∃ vs:List Value,v=.tuple vs.toArray/\aC w g M7 vs
 |.qu t o n cs,v=>∃ A cap,v=.slice A n cap/\n<=cap/\cap<=maxLen/\t<g.next/\o+cap=g.κ t % qM/\(cap≠0->A=some ⟨g.β t,g.κ t / qM+o,none⟩)/\(cs≠[]->∃ b o,A=some ⟨b,o,none⟩/\aM w g b cs o)
def aC(w:World)(g:G):List LV->List Value->Prop
 |[],vs=>vs=[]
 |c::cs,vs=>∃ v vs',vs=v::vs'/\Rep w g c v/\aC w g cs vs'
def aM(w:World)(g:G)(b:Nat):List LV->Nat->Prop
 |[],_=>True
 |c::cs,o=>(∃ v,w.cell? ⟨b,o,none⟩=some v/\Rep w g c v/\g.ok b o)/\aM w g b cs (o+1)
end
structure Ext(w:World)(g:G)(w':World)(g':G):Prop where
 os:w'.os=w.os
 tape:w'.tape=w.tape
 output:w'.output=w.output
 size:w.heap.size<=w'.heap.size
 next:g.next<=g'.next
 β:∀ l,l<g.next->g'.β l=g.β l
 κ:∀ l,l<g.next->g'.κ l=g.κ l
 nl:∀ l,l<g.next->g'.nl l=g.nl l
 still:∀ b,b<w.heap.size->g.φ b=none->g'.φ b=none/\w'.heap[b]?=w.heap[b]?
 part:∀ b k,b<w.heap.size->g.φ b=some k->∃ k',g'.φ b=some k'/\k<=k'/\∀ o,o<k->w'.cell? ⟨b,o,none⟩=w.cell? ⟨b,o,none⟩
theorem Ext.refl(w:World)(g:G):Ext w g w g:=
 ⟨rfl,rfl,rfl,aAm _,aAm _,fun _ _=>rfl,fun _ _=>rfl,fun _ _=>rfl,fun _ _ h=>⟨h,rfl⟩,fun _ k _ h=>⟨k,h,aAm _,fun _ _=>rfl⟩⟩
theorem Ext.trans{w w' w'':World}{g g' g'':G}(h:Ext w g w' g')(k:Ext w' g' w'' g''):Ext w g w'' g'':=by
 refine⟨k.os.trans h.os,k.tape.trans h.tape,k.output.trans h.output,aBa h.size k.size,aBa h.next k.next,?_,?_,?_,?_,?_⟩
 .intro l hl;rw[k.β l (aAr hl h.next),h.β l hl]
 .intro l hl;rw[k.κ l (aAr hl h.next),h.κ l hl]
 .intro l hl;rw[k.nl l (aAr hl h.next),h.nl l hl]
 .intro b hb hn;obtain⟨h1,h2⟩:=h.still b hb hn;obtain⟨k1,k2⟩:=k.still b (aAr hb h.size) h1
  grind
 .intro b q hb hq;obtain⟨q1,h1,h2,h3⟩:=h.part b q hb hq;obtain⟨q2,k1,k2,k3⟩:=k.part b q1 (aAr hb h.size) h1
  grind
theorem oU{w:World}{a:Addr}{v:Value}(h:w.cell? a=some v):a.block<w.heap.size:=by
 unfold World.cell? at h;cases hb:w.heap[a.block]? with
 |none=>simp_all
 |some o=>grind
theorem Ext.cell{w w':World}{g g':G}(h:Ext w g w' g'){b o:Nat}{v:Value}(hc:w.cell? ⟨b,o,none⟩=some v)(Q1:g.ok b o):
 w'.cell? ⟨b,o,none⟩=some v/\g'.ok b o:=by
 have hb:b<w.heap.size:=oU hc;cases hφ:g.φ b with
 |none=>
  obtain⟨h1,h2⟩:=h.still b hb hφ;refine⟨?_,fun k hk=>by grind⟩
  grind [World.cell?_of_block]
 |some k=>
  obtain⟨k',h1,h2,h3⟩:=h.part b k hb hφ;have ho:=Q1 k hφ;refine⟨(h3 o ho).trans hc,fun q hq=>?_⟩
  grind
mutual
theorem Rep.mono{w w':World}{g g':G}(h:Ext w g w' g'):∀(lv:LV) (v:Value),Rep w g lv v->Rep w' g' lv v
 |.dead,_,_=>by grind [Rep]
 |.nil,v,hr=>by grind [Rep]
 |.emp,v,hr=>by grind [Rep]
 |.atom x,v,hr=>by grind [Rep]
 |.sl t n cs,v,hr=>by
  simp only[Rep]at hr ⊢;obtain⟨A,cap,hv,hn,hc,ht,L5⟩:=hr;refine⟨A,cap,hv,hn,hc,fun h0=>?_,fun Zo=>?_⟩
  .obtain⟨h1,h2,h3⟩:=ht h0;exact⟨by rw[h.β t h3,h.nl t h3];omega,by rw[h.κ t h3];omega,aAr h3 h.next⟩
  .obtain⟨b,o,hA,VU⟩:=L5 Zo;exact⟨b,o,hA,aM.mono h b cs o VU⟩
 |.ms l o n,v,hr=>by simp only[Rep]at hr ⊢;obtain⟨A,cap,h1,h2,h3,h4,h5,h6⟩:=hr;exact⟨A,cap,h1,h2,h3,by rw[h.κ l h6,h.β l h6,h.nl l h6];omega,by rw[h.β l h6];omega,aAr h6 h.next⟩
 |.ag cs,v,hr=>by simp only[Rep]at hr ⊢;obtain⟨vs,hv,hl⟩:=hr;exact⟨vs,hv,aC.mono h cs vs hl⟩
 |.pt l o,v,hr=>by simp only[Rep]at hr ⊢;exact⟨by rw[h.β l hr.2];grind,aAr hr.2 h.next⟩
 |.ep cs,v,hr=>by simp only[Rep]at hr ⊢;obtain⟨b,o,hv,hl⟩:=hr;exact⟨b,o,hv,aM.mono h b cs o hl⟩
 |.mp l,v,hr=>by simp only[Rep]at hr ⊢;exact⟨by rw[h.β l hr.2];grind,aAr hr.2 h.next⟩
 |.fn f cs,v,hr=>by simp only[Rep]at hr ⊢;obtain⟨vs,hv,hl⟩:=hr;exact⟨vs,hv,aC.mono h cs vs hl⟩
 |.tu cs,v,hr=>by simp only[Rep]at hr ⊢;obtain⟨vs,hv,hl⟩:=hr;exact⟨vs,hv,aC.mono h cs vs hl⟩
 |.qu t o n cs,v,hr=>by simp only[Rep]at hr ⊢;obtain⟨A,cap,hv,hn,hc,ht,hk,hA,L5⟩:=hr;refine⟨A,cap,hv,hn,hc,aAr ht h.next,by rw[h.κ t ht];omega,by rw[h.κ t ht,h.β t ht];omega,fun Zo=>?_⟩;obtain⟨b,o,hA,VU⟩:=L5 Zo;exact⟨b,o,hA,aM.mono h b cs o VU⟩
 |.kap l n c,v,hr=>by simp only[Rep]at hr ⊢;obtain⟨A,h1,h2,h3,h4,h5,h6,h7⟩:=hr;exact⟨A,h1,h2,h3,by rw[h.κ l h5];omega,aAr h5 h.next,by rw[h.β l h5,h.nl l h5];omega,by rw[h.nl l h5];omega⟩
 |.pe l cs,v,hr=>by simp only[Rep]at hr ⊢;obtain⟨h1,h2,h3⟩:=hr;exact⟨by rw[h.β l h2];omega,aAr h2 h.next,by rw[h.β l h2];exact aM.mono h (g.β l) cs 0 h3⟩
theorem aC.mono{w w':World}{g g':G}(h:Ext w g w' g'):∀(cs:List LV) (vs:List Value),aC w g cs vs->aC w' g' cs vs
 |[],_,hr=>by grind [aC]
 |c::cs,_,hr=>by simp only[aC]at hr ⊢;obtain⟨v,vs',hv,h1,h2⟩:=hr;exact⟨v,vs',hv,Rep.mono h c v h1,aC.mono h cs vs' h2⟩
theorem aM.mono{w w':World}{g g':G}(h:Ext w g w' g')(b:Nat):∀(cs:List LV) (o:Nat),aM w g b cs o->aM w' g' b cs o
 |[],_,_=>by grind [aM]
 |c::cs,o,hr=>by simp only[aM]at hr ⊢;obtain⟨⟨v,h1,h2,h3⟩,h4⟩:=hr;obtain⟨k1,k2⟩:=h.cell h1 h3;exact⟨⟨v,k1,Rep.mono h c v h2,k2⟩,aM.mono h b cs (o+1) h4⟩
end
inductive cI where
 |dead
 |own (e s n:Nat)
 |box (e s:Nat) (cs:List LV)
 |map (ag:Bool) (ks:List IntKind) (es:List (List Int×LV))
 |que (e n:Nat)
 |frz (ag:Bool) (ks:List IntKind) (es:List (List Int×LV))
structure St where
 next:Nat
 H:Nat->cI
def blk(g:G)(st:St)(l:Nat):Prop:=match st.H l with
 |.dead=>False
 |.own _ _ _=>g.nl l=false
 |.box _ _ _=>g.nl l=false
 |.map _ _ _=>g.nl l=false
 |.que _ _=>g.nl l=false
 |.frz _ _ _=>False
def mkC:List IntKind->List Int->List Value
 |k::ks,n::ns=>.int k n::mkC ks ns
 |_,_=>[]
def mkV(ag:Bool)(ks:List IntKind)(ns:List Int):Value:=if ag then .agg (mkC ks ns).toArray else(mkC ks ns).headD undef
def xY(w:World)(g:G)(l:Nat)(ag:Bool)(ks:List IntKind)(es:List (List Int×LV)):Prop:=
 g.nl l=false/\(∀ p∈es,p.1.length=ks.length)/\∃(cV:List MapEntry) (clock:Nat),w.heap[g.β l]?=some (.map cV.toArray clock)/\cV.map (·.key)=es.map (fun p=>mkV ag ks p.1)/\
  aC w g (es.map (·.2)) (cV.map (·.val))/\g.φ (g.β l)=some 0/\(∀ x∈cV,x.born<clock)/\(cV.map (·.born)).Nodup
def DG(w:World)(g:G)(l e n:Nat):Prop:=
 g.nl l=false/\(∃ j8:Array Value,w.heap[g.β l]?=some (.cells j8 e (0,0))/\j8.size=g.κ l / qM+g.κ l % qM)/\g.φ (g.β l)=some (g.κ l / qM+n)/\n<=g.κ l % qM/\g.κ l % qM<=maxLen
def Ig(w:World)(g:G)(l:Nat)(ag:Bool)(ks:List IntKind)(es:List (List Int×LV)):Prop:=
 g.nl l=false/\l<g.next/\(∀ p∈es,p.1.length=ks.length)/\∃(cV:List MapEntry) (clock:Nat),w.heap[g.β l]?=some (.map cV.toArray clock)/\cV.map (·.key)=es.map (fun p=>mkV ag ks p.1)/\
  aC w g (es.map (·.2)) (cV.map (·.val))/\g.φ (g.β l)=none/\(∀ x∈cV,x.born<clock)/\(cV.map (·.born)).Nodup
theorem Ig.keep{w w':World}{g g':G}{l:Nat}{ag:Bool}{ks:List IntKind}{es:List (List Int×LV)}(h:Ig w g l ag ks es)(he:Ext w g w' g'):Ig w' g' l ag ks es:=by obtain⟨h1,h0,h2,cV,clock,h3,h4,h5,h6,h7⟩:=h;obtain⟨k1,k2⟩:=he.still _ (aAH.1 h3).1 h6;exact⟨by rw[he.nl l h0];omega,aAr h0 he.next,h2,cV,clock,by rw[he.β l h0,k2];omega,h4,aC.mono he _ _ h5,by rw[he.β l h0];omega,h7⟩
@[simp] def gO:cI->Bool
  |.frz _ _ _=>true
  |_=>false
theorem xB{o:cI}(h:gO o=true):∃ ag ks es,o=.frz ag ks es:=by cases o<;>first|exact⟨_,_,_,rfl⟩|cases h
def IL:List (Nat×List Value):=[(0,Lib.deBruijn64tab.map fun(n:Nat)=>.int .u8 n)]
def iD(w:World)(g:G):Prop:=∀ T∈IL,∀(j:Nat) (v:Value),T.2[j]?=some v->w.cell? ⟨T.1,j,none⟩=some v/\g.φ T.1=none
theorem iD.keep{w w':World}{g g':G}(h:iD w g)(he:Ext w g w' g'):iD w' g':=fun T hT j v hv=>by
 obtain⟨h1,h2⟩:=h T hT j v hv;obtain⟨k1,k2⟩:=he.still T.1 (oU h1) h2
 grind [World.cell?_of_block]
structure Aside(w:World)(g:G)(st:St):Prop where
 frz:∀ l ag ks es,st.H l=.frz ag ks es->Ig w g l ag ks es
 one:∀ l l',gO (st.H l)=true->gO (st.H l')=true->g.β l=g.β l'->l=l'
 glob:iD w g
theorem Aside.lt{w:World}{g:G}{st:St}(h:Aside w g st){l:Nat}(hl:gO (st.H l)=true):l<g.next:=by obtain⟨ag,ks,es,e⟩:=xB hl;exact(h.frz l ag ks es e).2.1
theorem Aside.keep{w w':World}{g g':G}{st st':St}(h:Aside w g st)(he:Ext w g w' g')(hs:∀ l,gO (st'.H l)=true->st'.H l=st.H l):Aside w' g' st':=by
 refine⟨fun l ag ks es hl=>?_,fun l l' h1 h2 hb=>?_,h.glob.keep he⟩
 .have e:=hs l (by simp_all);rw[hl]at e;exact(h.frz l ag ks es e.symm).keep he
 .have e1:=hs l h1;have e2:=hs l' h2;rw[e1]at h1;rw[e2]at h2;rw[he.β l (h.lt h1),he.β l' (h.lt h2)]at hb;exact h.one l l' h1 h2 hb
theorem tE{w:World}{g:G}{st:St}(h:iD w g)(hs:∀ l,st.H l=.dead):Aside w g st:=
 ⟨fun l ag ks es hl=>(by grind),fun l l' hl=>(by simp_all),h⟩
theorem iD.phi{w:World}{g g':G}(h:iD w g)(hφ:∀ b o v,w.cell? ⟨b,o,none⟩=some v->g.φ b=none->g'.φ b=none):iD w g':=fun T hT j v hv=>by
 obtain⟨h1,h2⟩:=h T hT j v hv
 grind
structure Inv(w:World)(g:G)(st:St):Prop where
 next:g.next=st.next
 pos:0<st.next
 fresh:∀ l,st.next<=l->st.H l=.dead
 lt:∀ l,blk g st l->g.β l<w.heap.size
 inj:∀ l l',blk g st l->blk g st l'->g.β l=g.β l'->l=l'
 own:∀ l e s n,st.H l=.own e s n->n<=g.κ l/\g.κ l<=maxLen/\(g.nl l=true->g.κ l=0)/\(g.nl l=false->∃ j8:Array Value,w.heap[g.β l]?=some (.cells j8 e (0,0))/\j8.size=g.κ l*s/\g.φ (g.β l)=some (n*s))
 box:∀ l e s cs,st.H l=.box e s cs->g.κ l<=maxLen/\(g.nl l=true->g.κ l=0/\cs=[])/\(g.nl l=false->∃ j8:List Value,w.heap[g.β l]?=some (.cells j8.toArray e (0,0))/\j8.length=g.κ l*s/\cs.length<=j8.length/\aC w g cs (j8.take cs.length)/\g.φ (g.β l)=some 0)
 mp:∀ l ag ks es,st.H l=.map ag ks es->xY w g l ag ks es
 qu:∀ l e n,st.H l=.que e n->DG w g l e n
 aside:Aside w g st
theorem xY.keep{w w':World}{g g':G}{l:Nat}{ag:Bool}{ks:List IntKind}{es:List (List Int×LV)}(h:xY w g l ag ks es)(he:Ext w g w' g')(dG:l<g.next)(hb:w'.heap[g.β l]?=w.heap[g.β l]?)(hφ:g'.φ (g.β l)=g.φ (g.β l)):xY w' g' l ag ks es:=by obtain⟨h1,h2,cV,clock,h3,h4,h5,h6,h7⟩:=h;refine⟨by rw[he.nl l dG];omega,h2,cV,clock,by rw[he.β l dG,hb];omega,h4,aC.mono he _ _ h5,by rw[he.β l dG,hφ];omega,h7⟩
theorem xY.blk_lt{w:World}{g:G}{l:Nat}{ag:Bool}{ks:List IntKind}{es:List (List Int×LV)}(h:xY w g l ag ks es):g.β l<w.heap.size:=by
 obtain⟨_,_,_,_,h3,_⟩:=h
 grind
theorem Inv.map_lt{w:World}{g:G}{st:St}(h:Inv w g st){l:Nat}{ag:Bool}{ks:List IntKind}{es:List (List Int×LV)}(hl:st.H l=.map ag ks es):l<g.next:=by
 rw[h.next];rcases aAS l st.next with h0|h0
 .omega
 .rw[h.fresh l h0]at hl;grind
theorem DG.keep{w w':World}{g g':G}{l e n:Nat}(h:DG w g l e n)(he:Ext w g w' g')(dG:l<g.next)(hb:w'.heap[g.β l]?=w.heap[g.β l]?)(hφ:g'.φ (g.β l)=g.φ (g.β l)):DG w' g' l e n:=by obtain⟨h1,⟨j8,h2,h3⟩,h4,h5⟩:=h;refine⟨by rw[he.nl l dG];omega,⟨j8,by rw[he.β l dG,hb];omega,by rw[he.κ l dG];omega⟩,by rw[he.β l dG,hφ,he.κ l dG];omega,by rw[he.κ l dG];omega⟩
theorem DG.blk_lt{w:World}{g:G}{l e n:Nat}(h:DG w g l e n):g.β l<w.heap.size:=by
 obtain⟨_,⟨_,h2,_⟩,_⟩:=h
 grind
theorem Inv.que_lt{w:World}{g:G}{st:St}(h:Inv w g st){l e n:Nat}(hl:st.H l=.que e n):l<g.next:=by
 rw[h.next];rcases aAS l st.next with h0|h0
 .omega
 .rw[h.fresh l h0]at hl;grind
theorem Inv.que_blk{w:World}{g:G}{st:St}(h:Inv w g st){l e n:Nat}(hl:st.H l=.que e n):blk g st l:=by unfold blk;rw[hl];exact(h.qu l e n hl).1
theorem Inv.map_blk{w:World}{g:G}{st:St}(h:Inv w g st){l:Nat}{ag:Bool}{ks:List IntKind}{es:List (List Int×LV)}(hl:st.H l=.map ag ks es):blk g st l:=by unfold blk;rw[hl];exact(h.mp l ag ks es hl).1
abbrev Frm:=Nat->LV
def upd(fr:Frm)(i:Nat)(v:LV):Frm:=fun j=>if j=i then v else fr j
def eD(w:World)(g:G)(a:Act)(fr:Frm):Prop:=∀ i,Rep w g (fr i) (a.tmps.getD i undef)
theorem eD.mono{w w':World}{g g':G}{a:Act}{fr:Frm}(h:eD w g a fr)(he:Ext w g w' g'):eD w' g' a fr:=
 fun i=>Rep.mono he _ _ (h i)
theorem eD.put{w:World}{g:G}{a:Act}{fr:Frm}(h:eD w g a fr){d:Nat}(hd:d<a.tmps.size){v:Value}{lv:LV}(hv:Rep w g lv v):
 eD w g (a.put (some d) v) (upd fr d lv):=by
 intro i;simp only[Act.put,upd];by_cases hi:i=d
 .simp_all
 .rw[aAa hi];have:=h i;rw[aCA,aBB,aAa (fun e=>hi e.symm),<- aCA];omega
theorem cC(a:Act)(d:Option Tmp)(v:Value):(a.put d v).tmps.size=a.tmps.size:=by cases d<;>simp[Act.put]
theorem put_defers(a:Act)(d:Option Tmp)(v:Value):(a.put d v).defers=a.defers:=by cases d<;>rfl
end Aw
end Go.Proofs.YtbgngpdonpeboaaGreatDoor
