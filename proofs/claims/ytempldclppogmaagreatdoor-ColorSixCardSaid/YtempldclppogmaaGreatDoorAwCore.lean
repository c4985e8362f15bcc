/- Logical values, what represents them in memory, and that this lasts while memory only grows. No program is named here. -/
import Derived.Below
import Derived.Laws.AppendOwn
import Derived.Maps.AppendAt
import Derived.OwnWalk
import Derived.Deep.Draws
import Derived.Laws.Rows
import Derived.Lib.TrailingZeros
set_option linter.unusedVariables false
set_option linter.unusedSimpArgs false
set_option linter.defProp false
namespace Go.Proofs.YtempldclppogmaaGreatDoor
theorem oO {p:Prop}(h:p:=by omega):p:=h
theorem sS {p:Prop}(h:p:=by simp):p:=h
theorem zZ {a b:Prop}(k:b)(h:b→a:=by simp only[Go.Proofs.YtempldclppogmaaGreatDoor.Aw.ak,reduceIte];exact fun h=>h):a:=h k
theorem zW {a b:Int}(h:a=b:=by omega)(h0:-9223372036854775808≤a:=by omega)(h1:a≤9223372036854775807:=by omega):Go.IntKind.i64.wrap a=b:=by
 subst h
 simp only[Go.IntKind.wrap,Go.IntKind.signed,Go.IntKind.bits]
 simp
 split <;> omega
def aAa:=@if_neg
def aAb:=@Option.some.injEq
def aAc:=@List.getD_eq_getElem?_getD
def aAd:=@List.getElem?_eq_getElem
def aAe:=@if_pos
def aAf:=@List.mem_cons
def aAg:=@List.mem_append
def aAh:=@List.length_append
def aAi:=@List.map_cons
def aAj:=@List.mem_cons_of_mem
def aAk:=@Nat.le_refl
def aAl:=@List.mem_singleton
def aAm:=@List.mem_map
def aAn:=@List.take_succ_eq_append_getElem
def aAo:=@List.mem_cons_self
def aAp:=@Nat.lt_of_lt_of_le
def aAq:=@List.length_take
def aAr:=@List.mem_filter
def aAs:=@List.nodup_append
def aAt:=@List.mem_append_left
def aAu:=@List.map_append
def aAv:=@List.take_of_length_le
def aAw:=@Array.getElem?_eq_some_iff
def aAx:=@List.mem_map_of_mem
def aAy:=@List.nodup_cons
def aAz:=@List.length_map
def aAA:=@List.getElem_mem
def aAB:=@List.getElem_of_mem
def aAC:=@List.flatMap_cons
def aAD:=@List.append_assoc
def aAE:=@List.eq_nil_of_length_eq_zero
def aAF:=@List.Nodup.length_le_of_subset
def aAG:=@Classical.byContradiction
def aAH:=@List.take_append_drop
def aAI:=@List.mem_append_right
def aAJ:=@List.pairwise_iff_getElem
def aAK:=@List.append_nil
def aAL:=@decide_eq_true_iff
def aAM:=@Nat.mod_eq_of_lt
def aAN:=@Nat.lt_or_ge
def aAO:=@List.drop_eq_getElem_cons
def aAP:=@List.length_drop
def aAQ:=@List.take_length
def aAR:=@List.mem_flatMap
def aAS:=@Bool.false_eq_true
def aAT:=@Bool.and_eq_true
def aAU:=@List.map_congr_left
def aAV:=@List.pairwise_map
def aAW:=@Prod.mk.injEq
def aAX:=@List.getElem?_append_left
def aAY:=@List.mem_flatten
def aAZ:=@List.perm_ext_iff_of_nodup
def aBa:=@List.mem_range
def aBb:=@List.length_pos_iff
def aBc:=@List.size_toArray
def aBd:=@List.map_map
def aBe:=@Array.getElem?_setIfInBounds
def aBf:=@Option.some.inj
def aBg:=@List.pairwise_cons
def aBh:=@List.length_filter_le
def aBi:=@List.cons.injEq
def aBj:=@Nat.le_trans
def aBk:=@List.getElem?_append_right
def aBl:=@List.idxOf_lt_length_of_mem
def aBm:=@List.foldl_append
def aBn:=@Option.map_eq_some_iff
def aBo:=@List.exists_mem_of_ne_nil
def aBp:=@List.filter_sublist
def aBq:=@if_true
def aBr:=@List.all_eq_true
def aBs:=@Nat.zero_le
def aBt:=@List.map_nil
def aBu:=@Nat.ne_of_lt
def aBv:=@Nat.zero_add
def aBw:=@List.pairwise_append
def aBx:=@List.filter_append
def aBy:=@List.getElem?_take
def aBz:=@List.getElem?_eq_none
def aBA:=@List.getElem_append_right
def aBB:=@decide_eq_true
def aBC:=@List.sublist_flatten_of_mem
def aBD:=@if_false
def aBE:=@Option.bind_eq_some_iff
def aBF:=@Array.replicate_succ
def aBG:=@List.set_eq_take_append_cons_drop
def aBH:=@decide_eq_false
def aBI:=@Nat.mul_comm
def aBJ:=@List.not_mem_nil
def aBK:=@List.append_toArray
def aBL:=@List.Perm.append_left
def aBM:=@Array.getD_eq_getD_getElem?
def aBN:=@List.getElem?_map
def aBO:=@List.perm_middle
def aBP:=@List.getElem_take
def aBQ:=@List.push_toArray
def aBR:=@of_decide_eq_true
def aBS:=@List.perm_append_comm
def aBT:=@Nat.add_mul
def aBU:=@Nat.add_sub_cancel
def aBV:=@not_or
def aBW:=@Nat.eq_of_testBit_eq
def aBX:=@List.any_eq_true
def aBY:=@List.pairwise_lt_range
def aBZ:=@List.take_take
def aCa:=@decide_eq_true_eq
def aCb:=@List.flatten_append
def aCc:=@List.getElem?_toArray
def aCd:=@List.append_of_mem
def aCe:=@Int.le_refl
def aCf:=@Nat.mul_le_mul_right
def aCg:=@decide_eq_false_iff_not
def aCh:=@List.getElem_drop
def aCi:=@List.map_drop
def aCj:=@List.exists_cons_of_ne_nil
def aCk:=@Nat.testBit_succ
def aCl:=@List.getElem_map
def aCm:=@List.mem_reverse
def aCn:=@List.getElem_idxOf
def aCo:=@List.ne_nil_of_mem
def aCp:=@List.getElem?_drop
def aCq:=@Array.getElem?_toList
def aCr:=@List.mem_of_find?_eq_some
def aCs:=@Array.getElem?_eq_getElem
def aCt:=@List.getElem_append_left
def aCu:=@Nat.min_eq_left
def aCv:=@List.mem_of_mem_take
def aCw:=@List.eq_nil_iff_forall_not_mem
def aCx:=@Nat.lt_trichotomy
def aCy:=@List.getLast_eq_getElem
def aCz:=@List.drop_succ_cons
def aCA:=@List.filter_eq_self
def aCB:=@List.countP_eq_length_filter
def aCC:=@List.take_append
def aCD:=@Nat.mod_lt
def aCE:=@Nat.mul_one
def aCF:=@List.find?_eq_none
def aCG:=@and_congr_right
def aCH:=@List.length_set
def aCI:=@List.reverse_cons
def aCJ:=@List.Pairwise.filter
def aCK:=@List.drop_drop
def aCL:=@Nat.lt_succ_self
def aCM:=@List.length_erase_of_mem
def aCN:=@List.flatMap_append
def aCO:=@beq_eq_false_iff_ne
def aCP:=@List.map_eq_nil_iff
def aCQ:=@Int.eq_ofNat_of_zero_le
def aCR:=@List.length_eq_zero_iff
def aCS:=@Nat.testBit_mul_two_pow
def aCT:=@List.pairwise_singleton
def aCU:=@Nat.mul_assoc
def aCV:=@BitVec.toNat_ofNat
def aCW:=@beq_iff_eq
def aCX:=@of_decide_eq_false
def aCY:=@List.toArray_range
def aCZ:=@List.find?_cons_of_neg
def aDa:=@or_false
def aDb:=@List.filter_eq_nil_iff
def aDc:=@List.drop_of_length_le
def aDd:=@List.getElem?_set
def aDe:=@Bool.not_eq_true'
def aDf:=@List.ext_getElem?
def aDg:=@List.reverse_perm
def aDh:=@List.idxOf_append
def aDi:=@Ne.symm
def aDj:=@List.eq_nil_or_concat
def aDk:=@List.concat_eq_append
def aDl:=@List.Pairwise.sublist
def aDm:=@Nat.testBit_zero
def aDn:=@and_true
def aDo:=@List.nodup_range
def aDp:=@Nat.add_assoc
def aDq:=@List.find?_some
def aDr:=@List.getElem?_eq_some_iff
def aDs:=@Nat.zero_mul
def aDt:=@Nat.eq_zero_or_pos
def aDu:=@Nat.le_of_eq
def aDv:=@List.drop_left
def aDw:=@List.take_left
def aDx:=@List.filter_cons_of_neg
def aDy:=@Nat.add_mod_right
def aDz:=@List.take_sublist
def aDA:=@List.length_range
def aDB:=@List.map_eq_append_iff
def aDC:=@List.Perm.append_right
def aDD:=@List.length_eq_one_iff
def aDE:=@Bool.true_and
def aDF:=@List.filter_cons
def aDG:=@Prod.ext
def aDH:=@Nat.div_eq_of_lt
def aDI:=@List.flatMap_nil
def aDJ:=@List.map_toArray
def aDK:=@Classical.choose_spec
def aDL:=@List.mem_of_mem_erase
def aDM:=@Nat.succ_mul
def aDN:=@Nat.mod_self
def aDO:=@List.findIdx_getElem
def aDP:=@Nat.mul_ne_zero
def aDQ:=@List.reverse_reverse
def aDR:=@List.map_eq_cons_iff
def aDS:=@List.mem_of_mem_drop
def aDT:=@List.drop_append_of_le_length
def aDU:=@List.length_reverse
def aDV:=@List.getElem?_range
def aDW:=@Array.toList_append
def aDX:=@Nat.le_succ
def aDY:=@Nat.mul_pos
def aDZ:=@Int.fdiv_eq_ediv_of_nonneg
def aEa:=@Int.tmod_eq_emod_of_nonneg
def aEb:=@List.nodup_iff_pairwise_ne
def aEc:=@List.drop_nil
def aEd:=@not_true_eq_false
def aEe:=@List.countP_congr
def aEf:=@Array.mapM_eq_mapM_toList
def aEg:=@List.ext_getElem
def aEh:=@Nat.le_add_right
def aEi:=@List.Nodup.mem_erase_iff
def aEj:=@Nat.add_right_cancel_iff
def aEk:=@List.map_flatMap
def aEl:=@List.map_flatten
def aEm:=@List.filter_cons_of_pos
def aEn:=@List.range_succ
def aEo:=@Nat.testBit_and
def aEp:=@Nat.two_pow_pos
def aEq:=@Nat.not_lt_zero
def aEr:=@Nat.mul_eq_zero
def aEs:=@List.not_of_lt_findIdx
def aEt:=@List.length_pos_of_mem
def aEu:=@decide_true
def aEv:=@List.drop_eq_nil_of_le
def aEw:=@List.append_eq_nil_iff
def aEx:=@Array.getElem?_eq_none
def aEy:=@List.pairwise_flatMap
def aEz:=@List.pairwise_flatten
def aEA:=@List.set_append_right
def aEB:=@List.drop_take
def aEC:=@Nat.le_div_iff_mul_le
def aED:=@Prod.swap_swap
def aEE:=@Bool.and_eq_false_iff
def aEF:=@List.mapM_cons
def aEG:=@Array.mem_of_getElem?
def aEH:=@List.idxOf_le_length
def aEI:=@List.perm_cons_erase
def aEJ:=@Nat.pow_le_pow_right
def aEK:=@Nat.div_lt_of_lt_mul
def aEL:=@List.mem_iff_getElem
def aEM:=@Array.ext'
def aEN:=@Array.mem_toList_iff
def aEO:=@List.map_take
def aEP:=@Bool.and_true
def aEQ:=@List.take_nil
def aER:=@List.drop_set_of_lt
def aES:=@Nat.pos_iff_ne_zero
def aET:=@List.reverse_append
def aEU:=@List.map_set
def aEV:=@exists_congr
def aEW:=@Nat.sub_self
def aEX:=@Nat.add_comm
def aEY:=@List.map_id
namespace Aw
open Go Go.RowKit
inductive LV where
 |dead
 |nil
 |atom (v:Value)
 |sl (t n:Nat) (cs:List LV)
 |ms (l o n:Nat)
 |ag (cs:List LV)
 |pt (l o:Nat)
 |ep (cs:List LV)
 |mp (l:Nat)
 |fn (f:Fn) (cX:List LV)
 |tu (vs:List LV)
 |qu (t o n:Nat) (cs:List LV)
 |emp
 |pe (l:Nat) (cs:List LV)
 |kap (l n c:Nat)
def qM:Nat:=18446744073709551616
structure G where
 next:Nat
 φ:Nat->Option Nat
 β:Nat->Nat
 κ:Nat->Nat
 nl:Nat->Bool
def G.ok(g:G)(b o:Nat):Prop:=∀ k,g.φ b=some k->o<k
mutual
def Rep(w:World)(g:G):LV->Value->Prop
 |.dead,_=>True
 |.nil,v=>v=.slice none 0 0
 |.emp,v=>∃ A,v=.slice A 0 0
 |.atom x,v=>v=x
 |.sl t n cs,v=>∃ A cap,v=.slice A n cap/\n<=cap/\(cap<=maxLen/\(A=none->cap=0))/\(t≠0->(g.nl t=false->A=some ⟨g.β t,0,none⟩)/\cap=g.κ t/\t<g.next)/\(cs≠[]->∃ b o,A=some ⟨b,o,none⟩/\aU w g b cs o)
 |.ms l o n,v=>∃ A cap,v=.slice A n cap/\n<=cap/\cap<=maxLen/\(o=0->cap=g.κ l/\(g.nl l=false->A=some ⟨g.β l,0,none⟩))/\(n≠0->A=some ⟨g.β l,o,none⟩)/\l<g.next
 |.ag cs,v=>∃ vs:List Value,v=.agg vs.toArray/\aC w g cs vs
 |.pt l o,v=>v=.pointer (some ⟨g.β l,o,none⟩)/\l<g.next
 |.ep cs,v=>∃ b o,v=.pointer (some ⟨b,o,none⟩)/\aU w g b cs o
 |.mp l,v=>v=.map (some (g.β l))/\l<g.next
 |.kap l n c,v=>∃ A,v=.slice A n c/\n<=c/\c<=maxLen/\g.κ l=c/\l<g.next/\(g.nl l=false->A=some ⟨g.β l,0,none⟩)/\(g.nl l=true->c=0)
 |.pe l cs,v=>v=.pointer (some ⟨g.β l,0,none⟩)/\l<g.next/\aU w g (g.β l) cs 0
 |.fn f cX,v=>∃ vs:List Value,v=.func f #[] vs.toArray/\aC w g cX vs
 |.tu ZL,v=>∃ vs:List Value,v=.tuple vs.toArray/\aC w g ZL vs
 |.qu t o n cs,v=>∃ A cap,v=.slice A n cap/\n<=cap/\cap<=maxLen/\t<g.next/\o+cap=g.κ t % qM/\(cap≠0->A=some ⟨g.β t,g.κ t / qM+o,none⟩)/\(cs≠[]->∃ b o,A=some ⟨b,o,none⟩/\aU w g b cs o)
def aC(w:World)(g:G):List LV->List Value->Prop
 |[],vs=>vs=[]
 |c::cs,vs=>∃ v vs',vs=v::vs'/\Rep w g c v/\aC w g cs vs'
def aU(w:World)(g:G)(b:Nat):List LV->Nat->Prop
 |[],_=>True
 |c::cs,o=>(∃ v,w.cell? ⟨b,o,none⟩=some v/\Rep w g c v/\g.ok b o)/\aU w g b cs (o+1)
end
structure Ext(w:World)(g:G)(w':World)(g':G):Prop where
 os:w'.os=w.os
 tape:w'.tape=w.tape
 output:w'.output=w.output
 size:w.heap.size<=w'.heap.size
 next:g.next<=g'.next
 β:∀ l,l<g.next->g'.β l=g.β l
 κ:∀ l,l<g.next->g'.κ l=g.κ l
 nl:∀ l,l<g.next->g'.nl l=g.nl l
 still:∀ b,b<w.heap.size->g.φ b=none->g'.φ b=none/\w'.heap[b]?=w.heap[b]?
 part:∀ b k,b<w.heap.size->g.φ b=some k->∃ k',g'.φ b=some k'/\k<=k'/\∀ o,o<k->w'.cell? ⟨b,o,none⟩=w.cell? ⟨b,o,none⟩
theorem Ext.refl(w:World)(g:G):Ext w g w g:=
 ⟨rfl,rfl,rfl,aAk _,aAk _,fun _ _=>rfl,fun _ _=>rfl,fun _ _=>rfl,fun _ _ h=>⟨h,rfl⟩,fun _ k _ h=>⟨k,h,aAk _,fun _ _=>rfl⟩⟩
theorem Ext.trans{w w' w'':World}{g g' g'':G}(h:Ext w g w' g')(k:Ext w' g' w'' g''):Ext w g w'' g'':=by
 refine⟨k.os.trans h.os,k.tape.trans h.tape,k.output.trans h.output,aBj h.size k.size,aBj h.next k.next,?_,?_,?_,?_,?_⟩
 .intro l hl;rw[k.β l (aAp hl h.next),h.β l hl]
 .intro l hl;rw[k.κ l (aAp hl h.next),h.κ l hl]
 .intro l hl;rw[k.nl l (aAp hl h.next),h.nl l hl]
 .intro b hb hn;obtain⟨h1,h2⟩:=h.still b hb hn;obtain⟨k1,k2⟩:=k.still b (aAp hb h.size) h1;exact⟨k1,k2.trans h2⟩
 .intro b q hb hq;obtain⟨q1,h1,h2,h3⟩:=h.part b q hb hq;obtain⟨q2,k1,k2,k3⟩:=k.part b q1 (aAp hb h.size) h1;exact⟨q2,k1,aBj h2 k2,fun o ho=>(k3 o (aAp ho h2)).trans (h3 o ho)⟩
theorem rG{w:World}{a:Addr}{v:Value}(h:w.cell? a=some v):a.block<w.heap.size:=by
 unfold World.cell? at h;cases hb:w.heap[a.block]? with
 |none=>simp[hb]at h
 |some o=>exact(aAw.1 hb).1
theorem Ext.cell{w w':World}{g g':G}(h:Ext w g w' g'){b o:Nat}{v:Value}(hc:w.cell? ⟨b,o,none⟩=some v)(v9:g.ok b o):
 w'.cell? ⟨b,o,none⟩=some v/\g'.ok b o:=by
 have hb:b<w.heap.size:=rG hc;cases L0:g.φ b with
 |none=>obtain⟨h1,h2⟩:=h.still b hb L0;refine⟨?_,fun k hk=>by rw[h1]at hk;cases hk⟩;rw[<- hc];exact World.cell?_of_block (w:=w) h2
 |some k=>obtain⟨k',h1,h2,h3⟩:=h.part b k hb L0;have ho:=v9 k L0;refine⟨(h3 o ho).trans hc,fun q hq=>?_⟩;rw[h1]at hq;injection hq with hq;omega
mutual
theorem Rep.mono{w w':World}{g g':G}(h:Ext w g w' g'):∀(lv:LV) (v:Value),Rep w g lv v->Rep w' g' lv v
 |.dead,_,_=>by simp only[Rep]
 |.nil,v,hr=>by simp only[Rep]at hr ⊢;exact hr
 |.emp,v,hr=>by simp only[Rep]at hr ⊢;exact hr
 |.atom x,v,hr=>by simp only[Rep]at hr ⊢;exact hr
 |.sl t n cs,v,hr=>by
  simp only[Rep]at hr ⊢;obtain⟨A,cap,hv,hn,hc,ht,ZC⟩:=hr;refine⟨A,cap,hv,hn,hc,fun h0=>?_,fun Wu=>?_⟩
  .obtain⟨h1,h2,h3⟩:=ht h0;exact⟨by rw[h.β t h3,h.nl t h3];exact h1,by rw[h.κ t h3];exact h2,aAp h3 h.next⟩
  .obtain⟨b,o,hA,RN⟩:=ZC Wu;exact⟨b,o,hA,aU.mono h b cs o RN⟩
 |.ms l o n,v,hr=>by simp only[Rep]at hr ⊢;obtain⟨A,cap,h1,h2,h3,h4,h5,h6⟩:=hr;exact⟨A,cap,h1,h2,h3,by rw[h.κ l h6,h.β l h6,h.nl l h6];exact h4,by rw[h.β l h6];exact h5,aAp h6 h.next⟩
 |.ag cs,v,hr=>by simp only[Rep]at hr ⊢;obtain⟨vs,hv,hl⟩:=hr;exact⟨vs,hv,aC.mono h cs vs hl⟩
 |.pt l o,v,hr=>by simp only[Rep]at hr ⊢;exact⟨by rw[h.β l hr.2];exact hr.1,aAp hr.2 h.next⟩
 |.ep cs,v,hr=>by simp only[Rep]at hr ⊢;obtain⟨b,o,hv,hl⟩:=hr;exact⟨b,o,hv,aU.mono h b cs o hl⟩
 |.mp l,v,hr=>by simp only[Rep]at hr ⊢;exact⟨by rw[h.β l hr.2];exact hr.1,aAp hr.2 h.next⟩
 |.fn f cs,v,hr=>by simp only[Rep]at hr ⊢;obtain⟨vs,hv,hl⟩:=hr;exact⟨vs,hv,aC.mono h cs vs hl⟩
 |.tu cs,v,hr=>by simp only[Rep]at hr ⊢;obtain⟨vs,hv,hl⟩:=hr;exact⟨vs,hv,aC.mono h cs vs hl⟩
 |.qu t o n cs,v,hr=>by simp only[Rep]at hr ⊢;obtain⟨A,cap,hv,hn,hc,ht,hk,hA,ZC⟩:=hr;refine⟨A,cap,hv,hn,hc,aAp ht h.next,by rw[h.κ t ht];exact hk,by rw[h.κ t ht,h.β t ht];exact hA,fun Wu=>?_⟩;obtain⟨b,o,hA,RN⟩:=ZC Wu;exact⟨b,o,hA,aU.mono h b cs o RN⟩
 |.kap l n c,v,hr=>by simp only[Rep]at hr ⊢;obtain⟨A,h1,h2,h3,h4,h5,h6,h7⟩:=hr;exact⟨A,h1,h2,h3,by rw[h.κ l h5];exact h4,aAp h5 h.next,by rw[h.β l h5,h.nl l h5];exact h6,by rw[h.nl l h5];exact h7⟩
 |.pe l cs,v,hr=>by simp only[Rep]at hr ⊢;obtain⟨h1,h2,h3⟩:=hr;exact⟨by rw[h.β l h2];exact h1,aAp h2 h.next,by rw[h.β l h2];exact aU.mono h (g.β l) cs 0 h3⟩
theorem aC.mono{w w':World}{g g':G}(h:Ext w g w' g'):∀(cs:List LV) (vs:List Value),aC w g cs vs->aC w' g' cs vs
 |[],_,hr=>by simp only[aC]at hr ⊢;exact hr
 |c::cs,_,hr=>by simp only[aC]at hr ⊢;obtain⟨v,vs',hv,h1,h2⟩:=hr;exact⟨v,vs',hv,Rep.mono h c v h1,aC.mono h cs vs' h2⟩
theorem aU.mono{w w':World}{g g':G}(h:Ext w g w' g')(b:Nat):∀(cs:List LV) (o:Nat),aU w g b cs o->aU w' g' b cs o
 |[],_,_=>by simp only[aU]
 |c::cs,o,hr=>by simp only[aU]at hr ⊢;obtain⟨⟨v,h1,h2,h3⟩,h4⟩:=hr;obtain⟨k1,k2⟩:=h.cell h1 h3;exact⟨⟨v,k1,Rep.mono h c v h2,k2⟩,aU.mono h b cs (o+1) h4⟩
end
inductive cI where
 |dead
 |own (e s n:Nat)
 |box (e s:Nat) (cs:List LV)
 |map (ag:Bool) (ks:List IntKind) (es:List (List Int×LV))
 |que (e n:Nat)
 |frz (ag:Bool) (ks:List IntKind) (es:List (List Int×LV))
structure St where
 next:Nat
 H:Nat->cI
def blk(g:G)(st:St)(l:Nat):Prop:=match st.H l with
 |.dead=>False
 |.own _ _ _=>g.nl l=false
 |.box _ _ _=>g.nl l=false
 |.map _ _ _=>g.nl l=false
 |.que _ _=>g.nl l=false
 |.frz _ _ _=>False
def mkC:List IntKind->List Int->List Value
 |k::ks,n::ns=>.int k n::mkC ks ns
 |_,_=>[]
def mkV(ag:Bool)(ks:List IntKind)(ns:List Int):Value:=if ag then .agg (mkC ks ns).toArray else(mkC ks ns).headD undef
def yB(w:World)(g:G)(l:Nat)(ag:Bool)(ks:List IntKind)(es:List (List Int×LV)):Prop:=
 g.nl l=false/\(∀ p∈es,p.1.length=ks.length)/\∃(dX:List MapEntry) (clock:Nat),w.heap[g.β l]?=some (.map dX.toArray clock)/\dX.map (·.key)=es.map (fun p=>mkV ag ks p.1)/\
  aC w g (es.map (·.2)) (dX.map (·.val))/\g.φ (g.β l)=some 0/\(∀ x∈dX,x.born<clock)/\(dX.map (·.born)).Nodup
def DD(w:World)(g:G)(l e n:Nat):Prop:=
 g.nl l=false/\(∃ Xk:Array Value,w.heap[g.β l]?=some (.cells Xk e (0,0))/\Xk.size=g.κ l / qM+g.κ l % qM)/\g.φ (g.β l)=some (g.κ l / qM+n)/\n<=g.κ l % qM/\g.κ l % qM<=maxLen
def Gw(w:World)(g:G)(l:Nat)(ag:Bool)(ks:List IntKind)(es:List (List Int×LV)):Prop:=
 g.nl l=false/\l<g.next/\(∀ p∈es,p.1.length=ks.length)/\∃(dX:List MapEntry) (clock:Nat),w.heap[g.β l]?=some (.map dX.toArray clock)/\dX.map (·.key)=es.map (fun p=>mkV ag ks p.1)/\
  aC w g (es.map (·.2)) (dX.map (·.val))/\g.φ (g.β l)=none/\(∀ x∈dX,x.born<clock)/\(dX.map (·.born)).Nodup
theorem Gw.keep{w w':World}{g g':G}{l:Nat}{ag:Bool}{ks:List IntKind}{es:List (List Int×LV)}(h:Gw w g l ag ks es)(he:Ext w g w' g'):Gw w' g' l ag ks es:=by obtain⟨h1,h0,h2,dX,clock,h3,h4,h5,h6,h7⟩:=h;obtain⟨k1,k2⟩:=he.still _ (aAw.1 h3).1 h6;exact⟨by rw[he.nl l h0];exact h1,aAp h0 he.next,h2,dX,clock,by rw[he.β l h0,k2];exact h3,h4,aC.mono he _ _ h5,by rw[he.β l h0];exact k1,h7⟩
@[simp] def fV:cI->Bool
  |.frz _ _ _=>true
  |_=>false
theorem vY{o:cI}(h:fV o=true):∃ ag ks es,o=.frz ag ks es:=by cases o<;>first|exact⟨_,_,_,rfl⟩|cases h
def HE:List (Nat×List Value):=[(0,Lib.deBruijn64tab.map fun(n:Nat)=>.int .u8 n)]
def iO(w:World)(g:G):Prop:=∀ T∈HE,∀(j:Nat) (v:Value),T.2[j]?=some v->w.cell? ⟨T.1,j,none⟩=some v/\g.φ T.1=none
theorem iO.keep{w w':World}{g g':G}(h:iO w g)(he:Ext w g w' g'):iO w' g':=fun T hT j v hv=>by obtain⟨h1,h2⟩:=h T hT j v hv;obtain⟨k1,k2⟩:=he.still T.1 (rG h1) h2;exact⟨(World.cell?_of_block (w:=w) k2).trans h1,k1⟩
structure oK(w:World)(g:G)(st:St):Prop where
 frz:∀ l ag ks es,st.H l=.frz ag ks es->Gw w g l ag ks es
 one:∀ l l',fV (st.H l)=true->fV (st.H l')=true->g.β l=g.β l'->l=l'
 glob:iO w g
theorem oK.lt{w:World}{g:G}{st:St}(h:oK w g st){l:Nat}(hl:fV (st.H l)=true):l<g.next:=by obtain⟨ag,ks,es,e⟩:=vY hl;exact(h.frz l ag ks es e).2.1
theorem oK.keep{w w':World}{g g':G}{st st':St}(h:oK w g st)(he:Ext w g w' g')(hs:∀ l,fV (st'.H l)=true->st'.H l=st.H l):oK w' g' st':=by
 refine⟨fun l ag ks es hl=>?_,fun l l' h1 h2 hb=>?_,h.glob.keep he⟩
 .have e:=hs l (by rw[hl];rfl);rw[hl]at e;exact(h.frz l ag ks es e.symm).keep he
 .have e1:=hs l h1;have e2:=hs l' h2;rw[e1]at h1;rw[e2]at h2;rw[he.β l (h.lt h1),he.β l' (h.lt h2)]at hb;exact h.one l l' h1 h2 hb
theorem Ae{w:World}{g:G}{st:St}(h:iO w g)(hs:∀ l,st.H l=.dead):oK w g st:=
 ⟨fun l ag ks es hl=>(by rw[hs l]at hl;cases hl),fun l l' hl=>(by rw[hs l]at hl;cases hl),h⟩
theorem iO.phi{w:World}{g g':G}(h:iO w g)(L0:∀ b o v,w.cell? ⟨b,o,none⟩=some v->g.φ b=none->g'.φ b=none):iO w g':=fun T hT j v hv=>by obtain⟨h1,h2⟩:=h T hT j v hv;exact⟨h1,L0 _ _ _ h1 h2⟩
structure Inv(w:World)(g:G)(st:St):Prop where
 next:g.next=st.next
 pos:0<st.next
 fresh:∀ l,st.next<=l->st.H l=.dead
 lt:∀ l,blk g st l->g.β l<w.heap.size
 inj:∀ l l',blk g st l->blk g st l'->g.β l=g.β l'->l=l'
 own:∀ l e s n,st.H l=.own e s n->n<=g.κ l/\g.κ l<=maxLen/\(g.nl l=true->g.κ l=0)/\(g.nl l=false->∃ Xk:Array Value,w.heap[g.β l]?=some (.cells Xk e (0,0))/\Xk.size=g.κ l*s/\g.φ (g.β l)=some (n*s))
 box:∀ l e s cs,st.H l=.box e s cs->g.κ l<=maxLen/\(g.nl l=true->g.κ l=0/\cs=[])/\(g.nl l=false->∃ Xk:List Value,w.heap[g.β l]?=some (.cells Xk.toArray e (0,0))/\Xk.length=g.κ l*s/\cs.length<=Xk.length/\aC w g cs (Xk.take cs.length)/\g.φ (g.β l)=some 0)
 mp:∀ l ag ks es,st.H l=.map ag ks es->yB w g l ag ks es
 qu:∀ l e n,st.H l=.que e n->DD w g l e n
 aside:oK w g st
theorem yB.keep{w w':World}{g g':G}{l:Nat}{ag:Bool}{ks:List IntKind}{es:List (List Int×LV)}(h:yB w g l ag ks es)(he:Ext w g w' g')(GD:l<g.next)(hb:w'.heap[g.β l]?=w.heap[g.β l]?)(L0:g'.φ (g.β l)=g.φ (g.β l)):yB w' g' l ag ks es:=by obtain⟨h1,h2,dX,clock,h3,h4,h5,h6,h7⟩:=h;refine⟨by rw[he.nl l GD];exact h1,h2,dX,clock,by rw[he.β l GD,hb];exact h3,h4,aC.mono he _ _ h5,by rw[he.β l GD,L0];exact h6,h7⟩
theorem yB.blk_lt{w:World}{g:G}{l:Nat}{ag:Bool}{ks:List IntKind}{es:List (List Int×LV)}(h:yB w g l ag ks es):g.β l<w.heap.size:=by obtain⟨_,_,_,_,h3,_⟩:=h;exact(aAw.1 h3).1
theorem Inv.map_lt{w:World}{g:G}{st:St}(h:Inv w g st){l:Nat}{ag:Bool}{ks:List IntKind}{es:List (List Int×LV)}(hl:st.H l=.map ag ks es):l<g.next:=by
 rw[h.next];rcases aAN l st.next with h0|h0
 .exact h0
 .rw[h.fresh l h0]at hl;cases hl
theorem DD.keep{w w':World}{g g':G}{l e n:Nat}(h:DD w g l e n)(he:Ext w g w' g')(GD:l<g.next)(hb:w'.heap[g.β l]?=w.heap[g.β l]?)(L0:g'.φ (g.β l)=g.φ (g.β l)):DD w' g' l e n:=by obtain⟨h1,⟨Xk,h2,h3⟩,h4,h5⟩:=h;refine⟨by rw[he.nl l GD];exact h1,⟨Xk,by rw[he.β l GD,hb];exact h2,by rw[he.κ l GD];exact h3⟩,by rw[he.β l GD,L0,he.κ l GD];exact h4,by rw[he.κ l GD];exact h5⟩
theorem DD.blk_lt{w:World}{g:G}{l e n:Nat}(h:DD w g l e n):g.β l<w.heap.size:=by obtain⟨_,⟨_,h2,_⟩,_⟩:=h;exact(aAw.1 h2).1
theorem Inv.que_lt{w:World}{g:G}{st:St}(h:Inv w g st){l e n:Nat}(hl:st.H l=.que e n):l<g.next:=by
 rw[h.next];rcases aAN l st.next with h0|h0
 .exact h0
 .rw[h.fresh l h0]at hl;cases hl
theorem Inv.que_blk{w:World}{g:G}{st:St}(h:Inv w g st){l e n:Nat}(hl:st.H l=.que e n):blk g st l:=by unfold blk;rw[hl];exact(h.qu l e n hl).1
theorem Inv.map_blk{w:World}{g:G}{st:St}(h:Inv w g st){l:Nat}{ag:Bool}{ks:List IntKind}{es:List (List Int×LV)}(hl:st.H l=.map ag ks es):blk g st l:=by unfold blk;rw[hl];exact(h.mp l ag ks es hl).1
abbrev Frm:=Nat->LV
def upd(fr:Frm)(i:Nat)(v:LV):Frm:=fun j=>if j=i then v else fr j
def dN(w:World)(g:G)(a:Act)(fr:Frm):Prop:=∀ i,Rep w g (fr i) (a.tmps.getD i undef)
theorem dN.mono{w w':World}{g g':G}{a:Act}{fr:Frm}(h:dN w g a fr)(he:Ext w g w' g'):dN w' g' a fr:=
 fun i=>Rep.mono he _ _ (h i)
theorem dN.put{w:World}{g:G}{a:Act}{fr:Frm}(h:dN w g a fr){d:Nat}(hd:d<a.tmps.size){v:Value}{lv:LV}(hv:Rep w g lv v):
 dN w g (a.put (some d) v) (upd fr d lv):=by
 intro i;simp only[Act.put,upd];by_cases hi:i=d
 .subst hi;simp[aBM,hd];exact hv
 .rw[aAa hi];have:=h i;rw[aBM,aBe,aAa (fun e=>hi e.symm),<- aBM];exact this
theorem bV(a:Act)(d:Option Tmp)(v:Value):(a.put d v).tmps.size=a.tmps.size:=by cases d<;>simp[Act.put]
theorem put_defers(a:Act)(d:Option Tmp)(v:Value):(a.put d v).defers=a.defers:=by cases d<;>rfl
end Aw
end Go.Proofs.YtempldclppogmaaGreatDoor
