/- Logical values, what represents them in memory, and that this lasts while memory only grows. No program is named here. -/
import Derived.Below
import Derived.Laws.AppendOwn
import Derived.Maps.AppendAt
import Derived.OwnWalk
import Derived.Deep.Draws
import Derived.Laws.Rows
import Derived.Lib.TrailingZeros
set_option linter.unusedVariables false
set_option linter.unusedSimpArgs false
set_option linter.defProp false
namespace Go.Proofs.YtempldclppogmaaGreatDoor
theorem oO {p:Prop}(h:p:=by omega):p:=h
theorem sS {p:Prop}(h:p:=by simp):p:=h
theorem zZ {a b:Prop}(k:b)(h:b→a:=by simp only[Go.Proofs.YtempldclppogmaaGreatDoor.Aw.ak,reduceIte];exact fun h=>h):a:=h k
theorem zW {a b:Int}(h:a=b:=by omega)(h0:-9223372036854775808≤a:=by omega)(h1:a≤9223372036854775807:=by omega):Go.IntKind.i64.wrap a=b:=by
 subst h
 simp only[Go.IntKind.wrap,Go.IntKind.signed,Go.IntKind.bits]
 simp
 split <;> omega
def aAa:=@if_neg
def aAb:=@Option.some.injEq
def aAc:=@List.getD_eq_getElem?_getD
def aAd:=@List.getElem?_eq_getElem
def aAe:=@if_pos
def aAf:=@List.mem_cons
def aAg:=@List.mem_append
def aAh:=@List.length_append
def aAi:=@Nat.le_refl
def aAj:=@List.map_cons
def aAk:=@List.mem_cons_of_mem
def aAl:=@List.mem_singleton
def aAm:=@List.mem_map
def aAn:=@List.take_succ_eq_append_getElem
def aAo:=@List.length_take
def aAp:=@Nat.lt_of_lt_of_le
def aAq:=@List.mem_cons_self
def aAr:=@List.take_of_length_le
def aAs:=@List.nodup_append
def aAt:=@Array.getElem?_eq_some_iff
def aAu:=@List.getElem_mem
def aAv:=@List.map_append
def aAw:=@List.mem_append_left
def aAx:=@List.mem_map_of_mem
def aAy:=@List.getElem_of_mem
def aAz:=@List.mem_filter
def aAA:=@List.length_map
def aAB:=@Nat.lt_or_ge
def aAC:=@List.Nodup.length_le_of_subset
def aAD:=@List.nodup_cons
def aAE:=@List.eq_nil_of_length_eq_zero
def aAF:=@List.append_assoc
def aAG:=@List.pairwise_iff_getElem
def aAH:=@List.take_append_drop
def aAI:=@List.mem_append_right
def aAJ:=@List.flatMap_cons
def aAK:=@Nat.mod_eq_of_lt
def aAL:=@Classical.byContradiction
def aAM:=@List.drop_eq_getElem_cons
def aAN:=@List.length_drop
def aAO:=@decide_eq_true_iff
def aAP:=@List.append_nil
def aAQ:=@List.take_length
def aAR:=@Bool.false_eq_true
def aAS:=@Bool.and_eq_true
def aAT:=@List.mem_flatMap
def aAU:=@List.pairwise_map
def aAV:=@Prod.mk.injEq
def aAW:=@List.map_congr_left
def aAX:=@List.mem_range
def aAY:=@List.getElem?_append_left
def aAZ:=@List.mem_flatten
def aBa:=@List.idxOf_lt_length_of_mem
def aBb:=@Option.some.inj
def aBc:=@List.pairwise_cons
def aBd:=@List.size_toArray
def aBe:=@List.length_filter_le
def aBf:=@List.map_map
def aBg:=@Array.getElem?_setIfInBounds
def aBh:=@Nat.le_trans
def aBi:=@List.length_pos_iff
def aBj:=@List.cons.injEq
def aBk:=@List.perm_ext_iff_of_nodup
def aBl:=@List.getElem?_append_right
def aBm:=@Option.map_eq_some_iff
def aBn:=@if_true
def aBo:=@List.foldl_append
def aBp:=@List.exists_mem_of_ne_nil
def aBq:=@List.filter_sublist
def aBr:=@Nat.zero_le
def aBs:=@Nat.ne_of_lt
def aBt:=@Nat.zero_add
def aBu:=@List.filter_append
def aBv:=@List.getElem?_take
def aBw:=@List.getElem?_eq_none
def aBx:=@List.getElem_append_right
def aBy:=@decide_eq_true
def aBz:=@List.map_nil
def aBA:=@List.sublist_flatten_of_mem
def aBB:=@if_false
def aBC:=@List.all_eq_true
def aBD:=@Option.bind_eq_some_iff
def aBE:=@List.getElem_take
def aBF:=@Array.replicate_succ
def aBG:=@List.pairwise_append
def aBH:=@List.set_eq_take_append_cons_drop
def aBI:=@Nat.mul_comm
def aBJ:=@List.append_toArray
def aBK:=@Array.getD_eq_getD_getElem?
def aBL:=@List.getElem?_map
def aBM:=@decide_eq_false
def aBN:=@List.pairwise_lt_range
def aBO:=@List.any_eq_true
def aBP:=@List.mem_reverse
def aBQ:=@List.push_toArray
def aBR:=@List.perm_append_comm
def aBS:=@List.take_take
def aBT:=@List.Perm.append_left
def aBU:=@Nat.add_mul
def aBV:=@Nat.eq_of_testBit_eq
def aBW:=@List.perm_middle
def aBX:=@decide_eq_true_eq
def aBY:=@of_decide_eq_true
def aBZ:=@List.flatten_append
def aCa:=@List.getElem?_toArray
def aCb:=@List.getElem_idxOf
def aCc:=@List.ne_nil_of_mem
def aCd:=@Nat.add_sub_cancel
def aCe:=@List.not_mem_nil
def aCf:=@List.append_of_mem
def aCg:=@Int.le_refl
def aCh:=@Nat.mul_le_mul_right
def aCi:=@List.getElem_drop
def aCj:=@Nat.mod_lt
def aCk:=@List.map_drop
def aCl:=@List.exists_cons_of_ne_nil
def aCm:=@Nat.testBit_succ
def aCn:=@List.getElem_map
def aCo:=@List.getElem?_drop
def aCp:=@Array.getElem?_toList
def aCq:=@List.mem_of_find?_eq_some
def aCr:=@Array.getElem?_eq_getElem
def aCs:=@List.getElem_append_left
def aCt:=@Nat.min_eq_left
def aCu:=@List.mem_of_mem_take
def aCv:=@not_or
def aCw:=@List.eq_nil_iff_forall_not_mem
def aCx:=@List.idxOf_append
def aCy:=@List.reverse_perm
def aCz:=@List.length_eq_zero_iff
def aCA:=@List.getLast_eq_getElem
def aCB:=@List.drop_succ_cons
def aCC:=@List.flatMap_append
def aCD:=@List.reverse_append
def aCE:=@List.take_append
def aCF:=@Nat.mul_one
def aCG:=@List.find?_eq_none
def aCH:=@and_congr_right
def aCI:=@List.length_set
def aCJ:=@Nat.lt_trichotomy
def aCK:=@List.reverse_cons
def aCL:=@beq_iff_eq
def aCM:=@List.Pairwise.filter
def aCN:=@List.drop_drop
def aCO:=@List.ext_getElem
def aCP:=@Nat.lt_succ_self
def aCQ:=@beq_eq_false_iff_ne
def aCR:=@List.filter_eq_self
def aCS:=@List.map_eq_nil_iff
def aCT:=@Int.eq_ofNat_of_zero_le
def aCU:=@decide_eq_false_iff_not
def aCV:=@Nat.testBit_mul_two_pow
def aCW:=@List.pairwise_singleton
def aCX:=@Nat.mul_assoc
def aCY:=@Nat.eq_zero_or_pos
def aCZ:=@BitVec.toNat_ofNat
def aDa:=@of_decide_eq_false
def aDb:=@List.toArray_range
def aDc:=@List.reverse_singleton
def aDd:=@List.find?_cons_of_neg
def aDe:=@List.filter_eq_nil_iff
def aDf:=@List.drop_of_length_le
def aDg:=@List.getElem?_set
def aDh:=@List.ext_getElem?
def aDi:=@Ne.symm
def aDj:=@List.eq_nil_or_concat
def aDk:=@List.concat_eq_append
def aDl:=@List.Pairwise.sublist
def aDm:=@List.idxOf_le_length
def aDn:=@Nat.testBit_zero
def aDo:=@and_true
def aDp:=@Nat.add_assoc
def aDq:=@Int.tmod_eq_emod_of_nonneg
def aDr:=@List.find?_some
def aDs:=@List.getElem?_eq_some_iff
def aDt:=@Nat.zero_mul
def aDu:=@Nat.mod_self
def aDv:=@Nat.le_of_eq
def aDw:=@List.drop_left
def aDx:=@List.take_left
def aDy:=@Nat.add_mod_right
def aDz:=@List.length_range
def aDA:=@List.Perm.append_right
def aDB:=@List.length_eq_one_iff
def aDC:=@List.filter_cons
def aDD:=@Prod.ext
def aDE:=@or_false
def aDF:=@Nat.div_eq_of_lt
def aDG:=@List.flatMap_nil
def aDH:=@List.nodup_range
def aDI:=@List.map_toArray
def aDJ:=@Nat.succ_mul
def aDK:=@List.perm_cons_erase
def aDL:=@List.range_succ
def aDM:=@List.findIdx_getElem
def aDN:=@Nat.mul_ne_zero
def aDO:=@List.mem_of_mem_drop
def aDP:=@List.drop_append_of_le_length
def aDQ:=@List.getElem?_range
def aDR:=@Array.toList_append
def aDS:=@Nat.le_succ
def aDT:=@Nat.mul_pos
def aDU:=@Int.fdiv_eq_ediv_of_nonneg
def aDV:=@Bool.true_and
def aDW:=@List.drop_nil
def aDX:=@not_true_eq_false
def aDY:=@Bool.not_eq_true'
def aDZ:=@Array.mapM_eq_mapM_toList
def aEa:=@decide_eq_decide
def aEb:=@Nat.le_add_right
def aEc:=@Nat.add_right_cancel_iff
def aEd:=@List.map_flatMap
def aEe:=@List.map_flatten
def aEf:=@Nat.testBit_and
def aEg:=@Nat.two_pow_pos
def aEh:=@Nat.not_lt_zero
def aEi:=@Nat.mul_eq_zero
def aEj:=@List.not_of_lt_findIdx
def aEk:=@List.length_pos_of_mem
def aEl:=@decide_true
def aEm:=@List.drop_eq_nil_of_le
def aEn:=@List.map_eq_append_iff
def aEo:=@List.append_eq_nil_iff
def aEp:=@Array.getElem?_eq_none
def aEq:=@List.pairwise_flatMap
def aEr:=@List.pairwise_flatten
def aEs:=@List.set_append_right
def aEt:=@List.drop_take
def aEu:=@Nat.le_div_iff_mul_le
def aEv:=@Prod.swap_swap
def aEw:=@List.countP_le_length
def aEx:=@List.mapM_cons
def aEy:=@Array.mem_of_getElem?
def aEz:=@Classical.choose_spec
def aEA:=@List.mem_erase_of_ne
def aEB:=@Nat.pow_le_pow_right
def aEC:=@List.reverse_reverse
def aED:=@List.map_eq_cons_iff
def aEE:=@Nat.div_lt_of_lt_mul
def aEF:=@List.mem_iff_getElem
def aEG:=@Array.ext'
def aEH:=@Array.mem_toList_iff
def aEI:=@List.map_take
def aEJ:=@Bool.and_true
def aEK:=@List.take_nil
def aEL:=@List.drop_set_of_lt
def aEM:=@List.getD_cons_succ
def aEN:=@Nat.pos_iff_ne_zero
def aEO:=@List.length_reverse
def aEP:=@List.map_set
def aEQ:=@Int.lt_or_le
def aER:=@exists_congr
def aES:=@Nat.sub_self
def aET:=@Nat.add_comm
def aEU:=@List.map_id
namespace Aw
open Go Go.RowKit
inductive LV where
 |dead
 |nil
 |atom (v:Value)
 |sl (t n:Nat) (cs:List LV)
 |ms (l o n:Nat)
 |ag (cs:List LV)
 |pt (l o:Nat)
 |ep (cs:List LV)
 |mp (l:Nat)
 |fn (f:Fn) (cY:List LV)
 |tu (vs:List LV)
 |qu (t o n:Nat) (cs:List LV)
 |emp
 |pe (l:Nat) (cs:List LV)
 |kap (l n c:Nat)
def qM:Nat:=18446744073709551616
structure G where
 next:Nat
 φ:Nat->Option Nat
 β:Nat->Nat
 κ:Nat->Nat
 nl:Nat->Bool
def G.ok(g:G)(b o:Nat):Prop:=∀ k,g.φ b=some k->o<k
mutual
def Rep(w:World)(g:G):LV->Value->Prop
 |.dead,_=>True
 |.nil,v=>v=.slice none 0 0
 |.emp,v=>∃ A,v=.slice A 0 0
 |.atom x,v=>v=x
 |.sl t n cs,v=>∃ A cap,v=.slice A n cap/\n<=cap/\(cap<=maxLen/\(A=none->cap=0))/\(t≠0->(g.nl t=false->A=some ⟨g.β t,0,none⟩)/\cap=g.κ t/\t<g.next)/\(cs≠[]->∃ b o,A=some ⟨b,o,none⟩/\aT w g b cs o)
 |.ms l o n,v=>∃ A cap,v=.slice A n cap/\n<=cap/\cap<=maxLen/\(o=0->cap=g.κ l/\(g.nl l=false->A=some ⟨g.β l,0,none⟩))/\(n≠0->A=some ⟨g.β l,o,none⟩)/\l<g.next
 |.ag cs,v=>∃ vs:List Value,v=.agg vs.toArray/\aC w g cs vs
 |.pt l o,v=>v=.pointer (some ⟨g.β l,o,none⟩)/\l<g.next
 |.ep cs,v=>∃ b o,v=.pointer (some ⟨b,o,none⟩)/\aT w g b cs o
 |.mp l,v=>v=.map (some (g.β l))/\l<g.next
 |.kap l n c,v=>∃ A,v=.slice A n c/\n<=c/\c<=maxLen/\g.κ l=c/\l<g.next/\(g.nl l=false->A=some ⟨g.β l,0,none⟩)/\(g.nl l=true->c=0)
 |.pe l cs,v=>v=.pointer (some ⟨g.β l,0,none⟩)/\l<g.next/\aT w g (g.β l) cs 0
 |.fn f cY,v=>∃ vs:List Value,v=.func f #[] vs.toArray/\aC w g cY vs
 |.tu ZQ,v=>∃ vs:List Value,v=.tuple vs.toArray/\aC w g ZQ vs
 |.qu t o n cs,v=>∃ A cap,v=.slice A n cap/\n<=cap/\cap<=maxLen/\t<g.next/\o+cap=g.κ t % qM/\(cap≠0->A=some ⟨g.β t,g.κ t / qM+o,none⟩)/\(cs≠[]->∃ b o,A=some ⟨b,o,none⟩/\aT w g b cs o)
def aC(w:World)(g:G):List LV->List Value->Prop
 |[],vs=>vs=[]
 |c::cs,vs=>∃ v vs',vs=v::vs'/\Rep w g c v/\aC w g cs vs'
def aT(w:World)(g:G)(b:Nat):List LV->Nat->Prop
 |[],_=>True
 |c::cs,o=>(∃ v,w.cell? ⟨b,o,none⟩=some v/\Rep w g c v/\g.ok b o)/\aT w g b cs (o+1)
end
structure Ext(w:World)(g:G)(w':World)(g':G):Prop where
 os:w'.os=w.os
 tape:w'.tape=w.tape
 output:w'.output=w.output
 size:w.heap.size<=w'.heap.size
 next:g.next<=g'.next
 β:∀ l,l<g.next->g'.β l=g.β l
 κ:∀ l,l<g.next->g'.κ l=g.κ l
 nl:∀ l,l<g.next->g'.nl l=g.nl l
 still:∀ b,b<w.heap.size->g.φ b=none->g'.φ b=none/\w'.heap[b]?=w.heap[b]?
 part:∀ b k,b<w.heap.size->g.φ b=some k->∃ k',g'.φ b=some k'/\k<=k'/\∀ o,o<k->w'.cell? ⟨b,o,none⟩=w.cell? ⟨b,o,none⟩
theorem Ext.refl(w:World)(g:G):Ext w g w g:=
 ⟨rfl,rfl,rfl,aAi _,aAi _,fun _ _=>rfl,fun _ _=>rfl,fun _ _=>rfl,fun _ _ h=>⟨h,rfl⟩,fun _ k _ h=>⟨k,h,aAi _,fun _ _=>rfl⟩⟩
theorem Ext.trans{w w' w'':World}{g g' g'':G}(h:Ext w g w' g')(k:Ext w' g' w'' g''):Ext w g w'' g'':=by
 refine⟨k.os.trans h.os,k.tape.trans h.tape,k.output.trans h.output,aBh h.size k.size,aBh h.next k.next,?_,?_,?_,?_,?_⟩
 .intro l hl;rw[k.β l (aAp hl h.next),h.β l hl]
 .intro l hl;rw[k.κ l (aAp hl h.next),h.κ l hl]
 .intro l hl;rw[k.nl l (aAp hl h.next),h.nl l hl]
 .intro b hb hn;obtain⟨h1,h2⟩:=h.still b hb hn;obtain⟨k1,k2⟩:=k.still b (aAp hb h.size) h1;exact⟨k1,k2.trans h2⟩
 .intro b q hb hq;obtain⟨q1,h1,h2,h3⟩:=h.part b q hb hq;obtain⟨q2,k1,k2,k3⟩:=k.part b q1 (aAp hb h.size) h1;exact⟨q2,k1,aBh h2 k2,fun o ho=>(k3 o (aAp ho h2)).trans (h3 o ho)⟩
theorem qI{w:World}{a:Addr}{v:Value}(h:w.cell? a=some v):a.block<w.heap.size:=by
 unfold World.cell? at h;cases hb:w.heap[a.block]? with
 |none=>simp[hb]at h
 |some o=>exact(aAt.1 hb).1
theorem Ext.cell{w w':World}{g g':G}(h:Ext w g w' g'){b o:Nat}{v:Value}(hc:w.cell? ⟨b,o,none⟩=some v)(j8:g.ok b o):
 w'.cell? ⟨b,o,none⟩=some v/\g'.ok b o:=by
 have hb:b<w.heap.size:=qI hc;cases L7:g.φ b with
 |none=>obtain⟨h1,h2⟩:=h.still b hb L7;refine⟨?_,fun k hk=>by rw[h1]at hk;cases hk⟩;rw[<- hc];exact World.cell?_of_block (w:=w) h2
 |some k=>obtain⟨k',h1,h2,h3⟩:=h.part b k hb L7;have ho:=j8 k L7;refine⟨(h3 o ho).trans hc,fun q hq=>?_⟩;rw[h1]at hq;injection hq with hq;omega
mutual
theorem Rep.mono{w w':World}{g g':G}(h:Ext w g w' g'):∀(lv:LV) (v:Value),Rep w g lv v->Rep w' g' lv v
 |.dead,_,_=>by simp only[Rep]
 |.nil,v,hr=>by simp only[Rep]at hr ⊢;exact hr
 |.emp,v,hr=>by simp only[Rep]at hr ⊢;exact hr
 |.atom x,v,hr=>by simp only[Rep]at hr ⊢;exact hr
 |.sl t n cs,v,hr=>by
  simp only[Rep]at hr ⊢;obtain⟨A,cap,hv,hn,hc,ht,ZJ⟩:=hr;refine⟨A,cap,hv,hn,hc,fun h0=>?_,fun Wx=>?_⟩
  .obtain⟨h1,h2,h3⟩:=ht h0;exact⟨by rw[h.β t h3,h.nl t h3];exact h1,by rw[h.κ t h3];exact h2,aAp h3 h.next⟩
  .obtain⟨b,o,hA,Rp⟩:=ZJ Wx;exact⟨b,o,hA,aT.mono h b cs o Rp⟩
 |.ms l o n,v,hr=>by simp only[Rep]at hr ⊢;obtain⟨A,cap,h1,h2,h3,h4,h5,h6⟩:=hr;exact⟨A,cap,h1,h2,h3,by rw[h.κ l h6,h.β l h6,h.nl l h6];exact h4,by rw[h.β l h6];exact h5,aAp h6 h.next⟩
 |.ag cs,v,hr=>by simp only[Rep]at hr ⊢;obtain⟨vs,hv,hl⟩:=hr;exact⟨vs,hv,aC.mono h cs vs hl⟩
 |.pt l o,v,hr=>by simp only[Rep]at hr ⊢;exact⟨by rw[h.β l hr.2];exact hr.1,aAp hr.2 h.next⟩
 |.ep cs,v,hr=>by simp only[Rep]at hr ⊢;obtain⟨b,o,hv,hl⟩:=hr;exact⟨b,o,hv,aT.mono h b cs o hl⟩
 |.mp l,v,hr=>by simp only[Rep]at hr ⊢;exact⟨by rw[h.β l hr.2];exact hr.1,aAp hr.2 h.next⟩
 |.fn f cs,v,hr=>by simp only[Rep]at hr ⊢;obtain⟨vs,hv,hl⟩:=hr;exact⟨vs,hv,aC.mono h cs vs hl⟩
 |.tu cs,v,hr=>by simp only[Rep]at hr ⊢;obtain⟨vs,hv,hl⟩:=hr;exact⟨vs,hv,aC.mono h cs vs hl⟩
 |.qu t o n cs,v,hr=>by simp only[Rep]at hr ⊢;obtain⟨A,cap,hv,hn,hc,ht,hk,hA,ZJ⟩:=hr;refine⟨A,cap,hv,hn,hc,aAp ht h.next,by rw[h.κ t ht];exact hk,by rw[h.κ t ht,h.β t ht];exact hA,fun Wx=>?_⟩;obtain⟨b,o,hA,Rp⟩:=ZJ Wx;exact⟨b,o,hA,aT.mono h b cs o Rp⟩
 |.kap l n c,v,hr=>by simp only[Rep]at hr ⊢;obtain⟨A,h1,h2,h3,h4,h5,h6,h7⟩:=hr;exact⟨A,h1,h2,h3,by rw[h.κ l h5];exact h4,aAp h5 h.next,by rw[h.β l h5,h.nl l h5];exact h6,by rw[h.nl l h5];exact h7⟩
 |.pe l cs,v,hr=>by simp only[Rep]at hr ⊢;obtain⟨h1,h2,h3⟩:=hr;exact⟨by rw[h.β l h2];exact h1,aAp h2 h.next,by rw[h.β l h2];exact aT.mono h (g.β l) cs 0 h3⟩
theorem aC.mono{w w':World}{g g':G}(h:Ext w g w' g'):∀(cs:List LV) (vs:List Value),aC w g cs vs->aC w' g' cs vs
 |[],_,hr=>by simp only[aC]at hr ⊢;exact hr
 |c::cs,_,hr=>by simp only[aC]at hr ⊢;obtain⟨v,vs',hv,h1,h2⟩:=hr;exact⟨v,vs',hv,Rep.mono h c v h1,aC.mono h cs vs' h2⟩
theorem aT.mono{w w':World}{g g':G}(h:Ext w g w' g')(b:Nat):∀(cs:List LV) (o:Nat),aT w g b cs o->aT w' g' b cs o
 |[],_,_=>by simp only[aT]
 |c::cs,o,hr=>by simp only[aT]at hr ⊢;obtain⟨⟨v,h1,h2,h3⟩,h4⟩:=hr;obtain⟨k1,k2⟩:=h.cell h1 h3;exact⟨⟨v,k1,Rep.mono h c v h2,k2⟩,aT.mono h b cs (o+1) h4⟩
end
inductive cI where
 |dead
 |own (e s n:Nat)
 |box (e s:Nat) (cs:List LV)
 |map (ag:Bool) (ks:List IntKind) (es:List (List Int×LV))
 |que (e n:Nat)
 |frz (ag:Bool) (ks:List IntKind) (es:List (List Int×LV))
structure St where
 next:Nat
 H:Nat->cI
def blk(g:G)(st:St)(l:Nat):Prop:=match st.H l with
 |.dead=>False
 |.own _ _ _=>g.nl l=false
 |.box _ _ _=>g.nl l=false
 |.map _ _ _=>g.nl l=false
 |.que _ _=>g.nl l=false
 |.frz _ _ _=>False
def mkC:List IntKind->List Int->List Value
 |k::ks,n::ns=>.int k n::mkC ks ns
 |_,_=>[]
def mkV(ag:Bool)(ks:List IntKind)(ns:List Int):Value:=if ag then .agg (mkC ks ns).toArray else(mkC ks ns).headD undef
def xV(w:World)(g:G)(l:Nat)(ag:Bool)(ks:List IntKind)(es:List (List Int×LV)):Prop:=
 g.nl l=false/\(∀ p∈es,p.1.length=ks.length)/\∃(Gz:List MapEntry) (clock:Nat),w.heap[g.β l]?=some (.map Gz.toArray clock)/\Gz.map (·.key)=es.map (fun p=>mkV ag ks p.1)/\
  aC w g (es.map (·.2)) (Gz.map (·.val))/\g.φ (g.β l)=some 0/\(∀ x∈Gz,x.born<clock)/\(Gz.map (·.born)).Nodup
def Cj(w:World)(g:G)(l e n:Nat):Prop:=
 g.nl l=false/\(∃ Xo:Array Value,w.heap[g.β l]?=some (.cells Xo e (0,0))/\Xo.size=g.κ l / qM+g.κ l % qM)/\g.φ (g.β l)=some (g.κ l / qM+n)/\n<=g.κ l % qM/\g.κ l % qM<=maxLen
def Fv(w:World)(g:G)(l:Nat)(ag:Bool)(ks:List IntKind)(es:List (List Int×LV)):Prop:=
 g.nl l=false/\l<g.next/\(∀ p∈es,p.1.length=ks.length)/\∃(Gz:List MapEntry) (clock:Nat),w.heap[g.β l]?=some (.map Gz.toArray clock)/\Gz.map (·.key)=es.map (fun p=>mkV ag ks p.1)/\
  aC w g (es.map (·.2)) (Gz.map (·.val))/\g.φ (g.β l)=none/\(∀ x∈Gz,x.born<clock)/\(Gz.map (·.born)).Nodup
theorem Fv.keep{w w':World}{g g':G}{l:Nat}{ag:Bool}{ks:List IntKind}{es:List (List Int×LV)}(h:Fv w g l ag ks es)(he:Ext w g w' g'):Fv w' g' l ag ks es:=by obtain⟨h1,h0,h2,Gz,clock,h3,h4,h5,h6,h7⟩:=h;obtain⟨k1,k2⟩:=he.still _ (aAt.1 h3).1 h6;exact⟨by rw[he.nl l h0];exact h1,aAp h0 he.next,h2,Gz,clock,by rw[he.β l h0,k2];exact h3,h4,aC.mono he _ _ h5,by rw[he.β l h0];exact k1,h7⟩
@[simp] def fO:cI->Bool
  |.frz _ _ _=>true
  |_=>false
theorem wI{o:cI}(h:fO o=true):∃ ag ks es,o=.frz ag ks es:=by cases o<;>first|exact⟨_,_,_,rfl⟩|cases h
def Hf:List (Nat×List Value):=[(0,Lib.deBruijn64tab.map fun(n:Nat)=>.int .u8 n)]
def gU(w:World)(g:G):Prop:=∀ T∈Hf,∀(j:Nat) (v:Value),T.2[j]?=some v->w.cell? ⟨T.1,j,none⟩=some v/\g.φ T.1=none
theorem gU.keep{w w':World}{g g':G}(h:gU w g)(he:Ext w g w' g'):gU w' g':=fun T hT j v hv=>by obtain⟨h1,h2⟩:=h T hT j v hv;obtain⟨k1,k2⟩:=he.still T.1 (qI h1) h2;exact⟨(World.cell?_of_block (w:=w) k2).trans h1,k1⟩
structure oE(w:World)(g:G)(st:St):Prop where
 frz:∀ l ag ks es,st.H l=.frz ag ks es->Fv w g l ag ks es
 one:∀ l l',fO (st.H l)=true->fO (st.H l')=true->g.β l=g.β l'->l=l'
 glob:gU w g
theorem oE.lt{w:World}{g:G}{st:St}(h:oE w g st){l:Nat}(hl:fO (st.H l)=true):l<g.next:=by obtain⟨ag,ks,es,e⟩:=wI hl;exact(h.frz l ag ks es e).2.1
theorem oE.keep{w w':World}{g g':G}{st st':St}(h:oE w g st)(he:Ext w g w' g')(hs:∀ l,fO (st'.H l)=true->st'.H l=st.H l):oE w' g' st':=by
 refine⟨fun l ag ks es hl=>?_,fun l l' h1 h2 hb=>?_,h.glob.keep he⟩
 .have e:=hs l (by rw[hl];rfl);rw[hl]at e;exact(h.frz l ag ks es e.symm).keep he
 .have e1:=hs l h1;have e2:=hs l' h2;rw[e1]at h1;rw[e2]at h2;rw[he.β l (h.lt h1),he.β l' (h.lt h2)]at hb;exact h.one l l' h1 h2 hb
theorem sP{w:World}{g:G}{st:St}(h:gU w g)(hs:∀ l,st.H l=.dead):oE w g st:=
 ⟨fun l ag ks es hl=>(by rw[hs l]at hl;cases hl),fun l l' hl=>(by rw[hs l]at hl;cases hl),h⟩
theorem gU.phi{w:World}{g g':G}(h:gU w g)(L7:∀ b o v,w.cell? ⟨b,o,none⟩=some v->g.φ b=none->g'.φ b=none):gU w g':=fun T hT j v hv=>by obtain⟨h1,h2⟩:=h T hT j v hv;exact⟨h1,L7 _ _ _ h1 h2⟩
structure Inv(w:World)(g:G)(st:St):Prop where
 next:g.next=st.next
 pos:0<st.next
 fresh:∀ l,st.next<=l->st.H l=.dead
 lt:∀ l,blk g st l->g.β l<w.heap.size
 inj:∀ l l',blk g st l->blk g st l'->g.β l=g.β l'->l=l'
 own:∀ l e s n,st.H l=.own e s n->n<=g.κ l/\g.κ l<=maxLen/\(g.nl l=true->g.κ l=0)/\(g.nl l=false->∃ Xo:Array Value,w.heap[g.β l]?=some (.cells Xo e (0,0))/\Xo.size=g.κ l*s/\g.φ (g.β l)=some (n*s))
 box:∀ l e s cs,st.H l=.box e s cs->g.κ l<=maxLen/\(g.nl l=true->g.κ l=0/\cs=[])/\(g.nl l=false->∃ Xo:List Value,w.heap[g.β l]?=some (.cells Xo.toArray e (0,0))/\Xo.length=g.κ l*s/\cs.length<=Xo.length/\aC w g cs (Xo.take cs.length)/\g.φ (g.β l)=some 0)
 mp:∀ l ag ks es,st.H l=.map ag ks es->xV w g l ag ks es
 qu:∀ l e n,st.H l=.que e n->Cj w g l e n
 aside:oE w g st
theorem xV.keep{w w':World}{g g':G}{l:Nat}{ag:Bool}{ks:List IntKind}{es:List (List Int×LV)}(h:xV w g l ag ks es)(he:Ext w g w' g')(dN:l<g.next)(hb:w'.heap[g.β l]?=w.heap[g.β l]?)(L7:g'.φ (g.β l)=g.φ (g.β l)):xV w' g' l ag ks es:=by obtain⟨h1,h2,Gz,clock,h3,h4,h5,h6,h7⟩:=h;refine⟨by rw[he.nl l dN];exact h1,h2,Gz,clock,by rw[he.β l dN,hb];exact h3,h4,aC.mono he _ _ h5,by rw[he.β l dN,L7];exact h6,h7⟩
theorem xV.blk_lt{w:World}{g:G}{l:Nat}{ag:Bool}{ks:List IntKind}{es:List (List Int×LV)}(h:xV w g l ag ks es):g.β l<w.heap.size:=by obtain⟨_,_,_,_,h3,_⟩:=h;exact(aAt.1 h3).1
theorem Inv.map_lt{w:World}{g:G}{st:St}(h:Inv w g st){l:Nat}{ag:Bool}{ks:List IntKind}{es:List (List Int×LV)}(hl:st.H l=.map ag ks es):l<g.next:=by
 rw[h.next];rcases aAB l st.next with h0|h0
 .exact h0
 .rw[h.fresh l h0]at hl;cases hl
theorem Cj.keep{w w':World}{g g':G}{l e n:Nat}(h:Cj w g l e n)(he:Ext w g w' g')(dN:l<g.next)(hb:w'.heap[g.β l]?=w.heap[g.β l]?)(L7:g'.φ (g.β l)=g.φ (g.β l)):Cj w' g' l e n:=by obtain⟨h1,⟨Xo,h2,h3⟩,h4,h5⟩:=h;refine⟨by rw[he.nl l dN];exact h1,⟨Xo,by rw[he.β l dN,hb];exact h2,by rw[he.κ l dN];exact h3⟩,by rw[he.β l dN,L7,he.κ l dN];exact h4,by rw[he.κ l dN];exact h5⟩
theorem Cj.blk_lt{w:World}{g:G}{l e n:Nat}(h:Cj w g l e n):g.β l<w.heap.size:=by obtain⟨_,⟨_,h2,_⟩,_⟩:=h;exact(aAt.1 h2).1
theorem Inv.que_lt{w:World}{g:G}{st:St}(h:Inv w g st){l e n:Nat}(hl:st.H l=.que e n):l<g.next:=by
 rw[h.next];rcases aAB l st.next with h0|h0
 .exact h0
 .rw[h.fresh l h0]at hl;cases hl
theorem Inv.que_blk{w:World}{g:G}{st:St}(h:Inv w g st){l e n:Nat}(hl:st.H l=.que e n):blk g st l:=by unfold blk;rw[hl];exact(h.qu l e n hl).1
theorem Inv.map_blk{w:World}{g:G}{st:St}(h:Inv w g st){l:Nat}{ag:Bool}{ks:List IntKind}{es:List (List Int×LV)}(hl:st.H l=.map ag ks es):blk g st l:=by unfold blk;rw[hl];exact(h.mp l ag ks es hl).1
abbrev Frm:=Nat->LV
def upd(fr:Frm)(i:Nat)(v:LV):Frm:=fun j=>if j=i then v else fr j
def dO(w:World)(g:G)(a:Act)(fr:Frm):Prop:=∀ i,Rep w g (fr i) (a.tmps.getD i undef)
theorem dO.mono{w w':World}{g g':G}{a:Act}{fr:Frm}(h:dO w g a fr)(he:Ext w g w' g'):dO w' g' a fr:=
 fun i=>Rep.mono he _ _ (h i)
theorem dO.put{w:World}{g:G}{a:Act}{fr:Frm}(h:dO w g a fr){d:Nat}(hd:d<a.tmps.size){v:Value}{lv:LV}(hv:Rep w g lv v):
 dO w g (a.put (some d) v) (upd fr d lv):=by
 intro i;simp only[Act.put,upd];by_cases hi:i=d
 .subst hi;simp[aBK,hd];exact hv
 .rw[aAa hi];have:=h i;rw[aBK,aBg,aAa (fun e=>hi e.symm),<- aBK];exact this
theorem bS(a:Act)(d:Option Tmp)(v:Value):(a.put d v).tmps.size=a.tmps.size:=by cases d<;>simp[Act.put]
theorem put_defers(a:Act)(d:Option Tmp)(v:Value):(a.put d v).defers=a.defers:=by cases d<;>rfl
end Aw
end Go.Proofs.YtempldclppogmaaGreatDoor
