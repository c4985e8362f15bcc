/- Logical values, what represents them in memory, and that this lasts while memory only grows. No program is named here. -/
import Derived.Below
import Derived.Laws.AppendOwn
import Derived.Maps.AppendAt
import Derived.OwnWalk
import Derived.Deep.Draws
import Derived.Laws.Rows
import Derived.Lib.TrailingZeros
set_option linter.unusedVariables false
set_option linter.unusedSimpArgs false
set_option linter.defProp false
namespace Go.Proofs.YtbgngpdonpeboaaGreatDoor
theorem oO {p:Prop}(h:p:=by omega):p:=h
theorem sS {p:Prop}(h:p:=by simp):p:=h
theorem zZ {a b:Prop}(k:b)(h:b→a:=by simp only[Go.Proofs.YtbgngpdonpeboaaGreatDoor.Aw.ak,reduceIte];exact fun h=>h):a:=h k
theorem zW {a b:Int}(h:a=b:=by omega)(h0:-9223372036854775808≤a:=by omega)(h1:a≤9223372036854775807:=by omega):Go.IntKind.i64.wrap a=b:=by
 subst h
 simp only[Go.IntKind.wrap,Go.IntKind.signed,Go.IntKind.bits]
 simp
 split <;> omega
def aAa:=@if_neg
def aAb:=@Option.some.injEq
def aAc:=@List.mem_cons_of_mem
def aAd:=@List.mem_append
def aAe:=@List.mem_cons
def aAf:=@List.mem_cons_self
def aAg:=@List.getD_eq_getElem?_getD
def aAh:=@List.getElem?_eq_getElem
def aAi:=@List.mem_map
def aAj:=@if_pos
def aAk:=@List.mem_singleton
def aAl:=@Nat.le_refl
def aAm:=@List.map_cons
def aAn:=@List.length_append
def aAo:=@List.nodup_append
def aAp:=@List.take_succ_eq_append_getElem
def aAq:=@List.nodup_cons
def aAr:=@List.mem_append_left
def aAs:=@Nat.lt_of_lt_of_le
def aAt:=@List.mem_map_of_mem
def aAu:=@List.take_of_length_le
def aAv:=@List.map_append
def aAw:=@List.length_take
def aAx:=@List.mem_append_right
def aAy:=@List.Nodup.length_le_of_subset
def aAz:=@List.take_append_drop
def aAA:=@List.getElem_of_mem
def aAB:=@List.mem_filter
def aAC:=@List.pairwise_iff_getElem
def aAD:=@List.length_map
def aAE:=@List.getElem_mem
def aAF:=@List.append_assoc
def aAG:=@Nat.mod_eq_of_lt
def aAH:=@List.flatMap_cons
def aAI:=@Classical.byContradiction
def aAJ:=@Array.getElem?_eq_some_iff
def aAK:=@List.eq_nil_of_length_eq_zero
def aAL:=@List.length_drop
def aAM:=@Nat.lt_or_ge
def aAN:=@List.drop_eq_getElem_cons
def aAO:=@List.idxOf_lt_length_of_mem
def aAP:=@List.exists_mem_of_ne_nil
def aAQ:=@List.map_congr_left
def aAR:=@decide_eq_true_iff
def aAS:=@List.append_nil
def aAT:=@List.mem_flatten
def aAU:=@List.take_length
def aAV:=@List.pairwise_map
def aAW:=@List.map_map
def aAX:=@Bool.and_eq_true
def aAY:=@List.mem_flatMap
def aAZ:=@List.perm_ext_iff_of_nodup
def aBa:=@Nat.le_trans
def aBb:=@List.append_of_mem
def aBc:=@List.size_toArray
def aBd:=@Prod.mk.injEq
def aBe:=@List.getElem?_append_left
def aBf:=@List.pairwise_cons
def aBg:=@Bool.false_eq_true
def aBh:=@List.length_pos_iff
def aBi:=@List.mem_range
def aBj:=@List.perm_append_comm
def aBk:=@Option.map_eq_some_iff
def aBl:=@List.length_filter_le
def aBm:=@List.mem_reverse
def aBn:=@Option.some.inj
def aBo:=@List.filter_sublist
def aBp:=@List.sublist_flatten_of_mem
def aBq:=@List.reverse_perm
def aBr:=@List.ne_nil_of_mem
def aBs:=@if_true
def aBt:=@List.length_eq_zero_iff
def aBu:=@List.getElem_idxOf
def aBv:=@Nat.zero_add
def aBw:=@List.cons.injEq
def aBx:=@List.getElem?_append_right
def aBy:=@List.exists_cons_of_ne_nil
def aBz:=@Option.bind_eq_some_iff
def aBA:=@decide_eq_true_eq
def aBB:=@List.getElem_append_right
def aBC:=@Array.replicate_succ
def aBD:=@Array.getElem?_setIfInBounds
def aBE:=@List.perm_middle
def aBF:=@List.append_toArray
def aBG:=@Nat.mod_lt
def aBH:=@List.pairwise_lt_range
def aBI:=@Nat.zero_le
def aBJ:=@List.all_eq_true
def aBK:=@List.getElem_take
def aBL:=@List.push_toArray
def aBM:=@List.foldl_append
def aBN:=@Prod.swap_swap
def aBO:=@List.set_eq_take_append_cons_drop
def aBP:=@Nat.add_sub_cancel
def aBQ:=@List.getElem?_take
def aBR:=@Nat.eq_of_testBit_eq
def aBS:=@if_false
def aBT:=@List.mem_of_mem_take
def aBU:=@List.pairwise_append
def aBV:=@Nat.mul_comm
def aBW:=@List.flatten_append
def aBX:=@List.flatMap_append
def aBY:=@List.mem_of_find?_eq_some
def aBZ:=@List.eq_nil_iff_forall_not_mem
def aCa:=@List.getElem?_eq_none
def aCb:=@Array.getElem?_toList
def aCc:=@List.getElem?_toArray
def aCd:=@List.not_mem_nil
def aCe:=@Prod.ext
def aCf:=@Nat.ne_of_lt
def aCg:=@Nat.add_mul
def aCh:=@List.take_take
def aCi:=@List.dropLast_concat_getLast
def aCj:=@Nat.mul_le_mul_right
def aCk:=@decide_eq_false_iff_not
def aCl:=@of_decide_eq_true
def aCm:=@List.getElem?_map
def aCn:=@decide_eq_false
def aCo:=@List.take_append
def aCp:=@List.drop_drop
def aCq:=@decide_eq_true
def aCr:=@List.Perm.append_left
def aCs:=@Nat.lt_trichotomy
def aCt:=@List.getElem_drop
def aCu:=@List.ext_getElem?
def aCv:=@List.getLast_eq_getElem
def aCw:=@List.reverse_append
def aCx:=@not_or
def aCy:=@List.getElem_map
def aCz:=@List.drop_of_length_le
def aCA:=@List.reverse_singleton
def aCB:=@Nat.eq_zero_or_pos
def aCC:=@getElem!_pos
def aCD:=@Array.getD_eq_getD_getElem?
def aCE:=@Ne.symm
def aCF:=@Int.tmod_eq_emod_of_nonneg
def aCG:=@Nat.add_mod_right
def aCH:=@List.idxOf_le_length
def aCI:=@List.reverse_reverse
def aCJ:=@List.Pairwise.filter
def aCK:=@List.getElem_append_left
def aCL:=@List.map_nil
def aCM:=@List.filter_eq_self
def aCN:=@List.map_eq_nil_iff
def aCO:=@Int.eq_ofNat_of_zero_le
def aCP:=@Nat.testBit_mul_two_pow
def aCQ:=@List.map_drop
def aCR:=@List.filter_append
def aCS:=@List.find?_some
def aCT:=@List.find?_eq_none
def aCU:=@List.length_set
def aCV:=@of_decide_eq_false
def aCW:=@List.toArray_range
def aCX:=@List.find?_cons_of_neg
def aCY:=@List.drop_append_of_le_length
def aCZ:=@List.reverse_cons
def aDa:=@List.eq_nil_or_concat
def aDb:=@List.concat_eq_append
def aDc:=@List.drop_left
def aDd:=@List.Pairwise.sublist
def aDe:=@Nat.lt_succ_self
def aDf:=@Nat.div_eq_of_lt
def aDg:=@List.mem_of_mem_drop
def aDh:=@List.flatMap_nil
def aDi:=@List.length_eraseIdx_of_lt
def aDj:=@Int.le_refl
def aDk:=@List.drop_succ_cons
def aDl:=@beq_eq_false_iff_ne
def aDm:=@Nat.min_eq_left
def aDn:=@List.append_eq_append_iff
def aDo:=@Array.getElem?_eq_getElem
def aDp:=@List.getElem?_eq_some_iff
def aDq:=@BitVec.toNat_ofNat
def aDr:=@Nat.mod_self
def aDs:=@List.getElem?_drop
def aDt:=@Option.isSome_iff_exists
def aDu:=@List.take_left
def aDv:=@List.pairwise_singleton
def aDw:=@List.getElem?_set
def aDx:=@List.length_range
def aDy:=@Nat.mul_pos
def aDz:=@Nat.mul_one
def aDA:=@List.filter_eq_nil_iff
def aDB:=@List.Perm.append_right
def aDC:=@List.length_eq_one_iff
def aDD:=@Nat.mul_assoc
def aDE:=@or_false
def aDF:=@List.getElem_zip
def aDG:=@List.nodup_range
def aDH:=@List.filter_cons
def aDI:=@List.map_snd_zip
def aDJ:=@List.map_flatten
def aDK:=@List.map_toArray
def aDL:=@List.eraseIdx_eq_take_drop_succ
def aDM:=@List.range_succ
def aDN:=@Nat.not_lt_zero
def aDO:=@Array.toList_append
def aDP:=@List.drop_take
def aDQ:=@List.Perm.refl
def aDR:=@Nat.le_succ
def aDS:=@Nat.mul_add
def aDT:=@Array.extract_eq_self_of_le
def aDU:=@Array.getElem?_append_left
def aDV:=@beq_iff_eq
def aDW:=@Array.mapM_eq_mapM_toList
def aDX:=@Nat.succ_mul
def aDY:=@List.ext_getElem
def aDZ:=@Nat.testBit_succ
def aEa:=@decide_eq_decide
def aEb:=@Nat.le_add_right
def aEc:=@Nat.add_right_cancel_iff
def aEd:=@List.map_flatMap
def aEe:=@List.map_fst_zip
def aEf:=@Nat.le_of_eq
def aEg:=@Nat.mul_ne_zero
def aEh:=@List.length_zip
def aEi:=@Nat.mul_eq_zero
def aEj:=@List.not_of_lt_findIdx
def aEk:=@List.length_pos_of_mem
def aEl:=@List.map_eq_append_iff
def aEm:=@List.append_eq_nil_iff
def aEn:=@List.pairwise_flatten
def aEo:=@List.perm_cons
def aEp:=@Nat.le_div_iff_mul_le
def aEq:=@List.countP_le_length
def aEr:=@Array.getElem?_modify
def aEs:=@Array.mem_of_getElem?
def aEt:=@Classical.choose_spec
def aEu:=@List.perm_cons_erase
def aEv:=@Nat.pow_le_pow_right
def aEw:=@List.findIdx_getElem
def aEx:=@and_true
def aEy:=@List.map_eq_cons_iff
def aEz:=@Nat.div_lt_of_lt_mul
def aEA:=@List.mem_iff_getElem
def aEB:=@Array.ext'
def aEC:=@Array.mem_toList_iff
def aED:=@Nat.add_assoc
def aEE:=@List.drop_set_of_lt
def aEF:=@List.perm_iff_count
def aEG:=@List.length_reverse
def aEH:=@Nat.mul_le_mul_left
def aEI:=@List.getElem?_range
def aEJ:=@Nat.zero_mul
def aEK:=@Nat.add_comm
def aEL:=@Iff.rfl
def aEM:=@List.map_id
namespace Aw
open Go Go.RowKit
inductive LV where
 |dead
 |nil
 |atom (v:Value)
 |sl (t n:Nat) (cs:List LV)
 |ms (l o n:Nat)
 |ag (cs:List LV)
 |pt (l o:Nat)
 |ep (cs:List LV)
 |mp (l:Nat)
 |fn (f:Fn) (Gj:List LV)
 |tu (vs:List LV)
 |qu (t o n:Nat) (cs:List LV)
 |emp
 |pe (l:Nat) (cs:List LV)
 |kap (l n c:Nat)
def qM:Nat:=18446744073709551616
structure G where
 next:Nat
 φ:Nat->Option Nat
 β:Nat->Nat
 κ:Nat->Nat
 nl:Nat->Bool
def G.ok(g:G)(b o:Nat):Prop:=∀ k,g.φ b=some k->o<k
mutual
def Rep(w:World)(g:G):LV->Value->Prop
 |.dead,_=>True
 |.nil,v=>v=.slice none 0 0
 |.emp,v=>∃ A,v=.slice A 0 0
 |.atom x,v=>v=x
 |.sl t n cs,v=>∃ A cap,v=.slice A n cap/\n<=cap/\(cap<=maxLen/\(A=none->cap=0))/\(t≠0->(g.nl t=false->A=some ⟨g.β t,0,none⟩)/\cap=g.κ t/\t<g.next)/\(cs≠[]->∃ b o,A=some ⟨b,o,none⟩/\aN w g b cs o)
 |.ms l o n,v=>∃ A cap,v=.slice A n cap/\n<=cap/\cap<=maxLen/\(o=0->cap=g.κ l/\(g.nl l=false->A=some ⟨g.β l,0,none⟩))/\(n≠0->A=some ⟨g.β l,o,none⟩)/\l<g.next
 |.ag cs,v=>∃ vs:List Value,v=.agg vs.toArray/\aC w g cs vs
 |.pt l o,v=>v=.pointer (some ⟨g.β l,o,none⟩)/\l<g.next
 |.ep cs,v=>∃ b o,v=.pointer (some ⟨b,o,none⟩)/\aN w g b cs o
 |.mp l,v=>v=.map (some (g.β l))/\l<g.next
 |.kap l n c,v=>∃ A,v=.slice A n c/\n<=c/\c<=maxLen/\g.κ l=c/\l<g.next/\(g.nl l=false->A=some ⟨g.β l,0,none⟩)/\(g.nl l=true->c=0)
 |.pe l cs,v=>v=.pointer (some ⟨g.β l,0,none⟩)/\l<g.next/\aN w g (g.β l) cs 0
 |.fn f Gj,v=>∃ vs:List Value,v=.func f #[] vs.toArray/\aC w g Gj vs
 |.tu Q9,v=>∃ vs:List Value,v=.tuple vs.toArray/\aC w g Q9 vs
 |.qu t o n cs,v=>∃ A cap,v=.slice A n cap/\n<=cap/\cap<=maxLen/\t<g.next/\o+cap=g.κ t % qM/\(cap≠0->A=some ⟨g.β t,g.κ t / qM+o,none⟩)/\(cs≠[]->∃ b o,A=some ⟨b,o,none⟩/\aN w g b cs o)
def aC(w:World)(g:G):List LV->List Value->Prop
 |[],vs=>vs=[]
 |c::cs,vs=>∃ v vs',vs=v::vs'/\Rep w g c v/\aC w g cs vs'
def aN(w:World)(g:G)(b:Nat):List LV->Nat->Prop
 |[],_=>True
 |c::cs,o=>(∃ v,w.cell? ⟨b,o,none⟩=some v/\Rep w g c v/\g.ok b o)/\aN w g b cs (o+1)
end
structure Ext(w:World)(g:G)(w':World)(g':G):Prop where
 os:w'.os=w.os
 tape:w'.tape=w.tape
 output:w'.output=w.output
 size:w.heap.size<=w'.heap.size
 next:g.next<=g'.next
 β:∀ l,l<g.next->g'.β l=g.β l
 κ:∀ l,l<g.next->g'.κ l=g.κ l
 nl:∀ l,l<g.next->g'.nl l=g.nl l
 still:∀ b,b<w.heap.size->g.φ b=none->g'.φ b=none/\w'.heap[b]?=w.heap[b]?
 part:∀ b k,b<w.heap.size->g.φ b=some k->∃ k',g'.φ b=some k'/\k<=k'/\∀ o,o<k->w'.cell? ⟨b,o,none⟩=w.cell? ⟨b,o,none⟩
theorem Ext.refl(w:World)(g:G):Ext w g w g:=
 ⟨rfl,rfl,rfl,aAl _,aAl _,fun _ _=>rfl,fun _ _=>rfl,fun _ _=>rfl,fun _ _ h=>⟨h,rfl⟩,fun _ k _ h=>⟨k,h,aAl _,fun _ _=>rfl⟩⟩
theorem Ext.trans{w w' w'':World}{g g' g'':G}(h:Ext w g w' g')(k:Ext w' g' w'' g''):Ext w g w'' g'':=by
 refine⟨k.os.trans h.os,k.tape.trans h.tape,k.output.trans h.output,aBa h.size k.size,aBa h.next k.next,?_,?_,?_,?_,?_⟩
 .intro l hl;rw[k.β l (aAs hl h.next),h.β l hl]
 .intro l hl;rw[k.κ l (aAs hl h.next),h.κ l hl]
 .intro l hl;rw[k.nl l (aAs hl h.next),h.nl l hl]
 .intro b hb hn;obtain⟨h1,h2⟩:=h.still b hb hn;obtain⟨k1,k2⟩:=k.still b (aAs hb h.size) h1
  grind
 .intro b q hb hq;obtain⟨q1,h1,h2,h3⟩:=h.part b q hb hq;obtain⟨q2,k1,k2,k3⟩:=k.part b q1 (aAs hb h.size) h1
  grind
theorem oW{w:World}{a:Addr}{v:Value}(h:w.cell? a=some v):a.block<w.heap.size:=by
 unfold World.cell? at h;cases hb:w.heap[a.block]? with
 |none=>simp_all
 |some o=>grind
theorem Ext.cell{w w':World}{g g':G}(h:Ext w g w' g'){b o:Nat}{v:Value}(hc:w.cell? ⟨b,o,none⟩=some v)(U6:g.ok b o):
 w'.cell? ⟨b,o,none⟩=some v/\g'.ok b o:=by
 have hb:b<w.heap.size:=oW hc;cases hφ:g.φ b with
 |none=>
  obtain⟨h1,h2⟩:=h.still b hb hφ;refine⟨?_,fun k hk=>by grind⟩
  grind [World.cell?_of_block]
 |some k=>
  obtain⟨k',h1,h2,h3⟩:=h.part b k hb hφ;have ho:=U6 k hφ;refine⟨(h3 o ho).trans hc,fun q hq=>?_⟩
  grind
mutual
theorem Rep.mono{w w':World}{g g':G}(h:Ext w g w' g'):∀(lv:LV) (v:Value),Rep w g lv v->Rep w' g' lv v
 |.dead,_,_=>by grind [Rep]
 |.nil,v,hr=>by grind [Rep]
 |.emp,v,hr=>by grind [Rep]
 |.atom x,v,hr=>by grind [Rep]
 |.sl t n cs,v,hr=>by
  simp only[Rep]at hr ⊢;obtain⟨A,cap,hv,hn,hc,ht,P9⟩:=hr;refine⟨A,cap,hv,hn,hc,fun h0=>?_,fun c7=>?_⟩
  .obtain⟨h1,h2,h3⟩:=ht h0;exact⟨by rw[h.β t h3,h.nl t h3];omega,by rw[h.κ t h3];omega,aAs h3 h.next⟩
  .obtain⟨b,o,hA,Tf⟩:=P9 c7;exact⟨b,o,hA,aN.mono h b cs o Tf⟩
 |.ms l o n,v,hr=>by simp only[Rep]at hr ⊢;obtain⟨A,cap,h1,h2,h3,h4,h5,h6⟩:=hr;exact⟨A,cap,h1,h2,h3,by rw[h.κ l h6,h.β l h6,h.nl l h6];omega,by rw[h.β l h6];omega,aAs h6 h.next⟩
 |.ag cs,v,hr=>by simp only[Rep]at hr ⊢;obtain⟨vs,hv,hl⟩:=hr;exact⟨vs,hv,aC.mono h cs vs hl⟩
 |.pt l o,v,hr=>by simp only[Rep]at hr ⊢;exact⟨by rw[h.β l hr.2];grind,aAs hr.2 h.next⟩
 |.ep cs,v,hr=>by simp only[Rep]at hr ⊢;obtain⟨b,o,hv,hl⟩:=hr;exact⟨b,o,hv,aN.mono h b cs o hl⟩
 |.mp l,v,hr=>by simp only[Rep]at hr ⊢;exact⟨by rw[h.β l hr.2];grind,aAs hr.2 h.next⟩
 |.fn f cs,v,hr=>by simp only[Rep]at hr ⊢;obtain⟨vs,hv,hl⟩:=hr;exact⟨vs,hv,aC.mono h cs vs hl⟩
 |.tu cs,v,hr=>by simp only[Rep]at hr ⊢;obtain⟨vs,hv,hl⟩:=hr;exact⟨vs,hv,aC.mono h cs vs hl⟩
 |.qu t o n cs,v,hr=>by simp only[Rep]at hr ⊢;obtain⟨A,cap,hv,hn,hc,ht,hk,hA,P9⟩:=hr;refine⟨A,cap,hv,hn,hc,aAs ht h.next,by rw[h.κ t ht];omega,by rw[h.κ t ht,h.β t ht];omega,fun c7=>?_⟩;obtain⟨b,o,hA,Tf⟩:=P9 c7;exact⟨b,o,hA,aN.mono h b cs o Tf⟩
 |.kap l n c,v,hr=>by simp only[Rep]at hr ⊢;obtain⟨A,h1,h2,h3,h4,h5,h6,h7⟩:=hr;exact⟨A,h1,h2,h3,by rw[h.κ l h5];omega,aAs h5 h.next,by rw[h.β l h5,h.nl l h5];omega,by rw[h.nl l h5];omega⟩
 |.pe l cs,v,hr=>by simp only[Rep]at hr ⊢;obtain⟨h1,h2,h3⟩:=hr;exact⟨by rw[h.β l h2];omega,aAs h2 h.next,by rw[h.β l h2];exact aN.mono h (g.β l) cs 0 h3⟩
theorem aC.mono{w w':World}{g g':G}(h:Ext w g w' g'):∀(cs:List LV) (vs:List Value),aC w g cs vs->aC w' g' cs vs
 |[],_,hr=>by grind [aC]
 |c::cs,_,hr=>by simp only[aC]at hr ⊢;obtain⟨v,vs',hv,h1,h2⟩:=hr;exact⟨v,vs',hv,Rep.mono h c v h1,aC.mono h cs vs' h2⟩
theorem aN.mono{w w':World}{g g':G}(h:Ext w g w' g')(b:Nat):∀(cs:List LV) (o:Nat),aN w g b cs o->aN w' g' b cs o
 |[],_,_=>by grind [aN]
 |c::cs,o,hr=>by simp only[aN]at hr ⊢;obtain⟨⟨v,h1,h2,h3⟩,h4⟩:=hr;obtain⟨k1,k2⟩:=h.cell h1 h3;exact⟨⟨v,k1,Rep.mono h c v h2,k2⟩,aN.mono h b cs (o+1) h4⟩
end
inductive cN where
 |dead
 |own (e s n:Nat)
 |box (e s:Nat) (cs:List LV)
 |map (ag:Bool) (ks:List IntKind) (es:List (List Int×LV))
 |que (e n:Nat)
 |frz (ag:Bool) (ks:List IntKind) (es:List (List Int×LV))
structure St where
 next:Nat
 H:Nat->cN
def blk(g:G)(st:St)(l:Nat):Prop:=match st.H l with
 |.dead=>False
 |.own _ _ _=>g.nl l=false
 |.box _ _ _=>g.nl l=false
 |.map _ _ _=>g.nl l=false
 |.que _ _=>g.nl l=false
 |.frz _ _ _=>False
def mkC:List IntKind->List Int->List Value
 |k::ks,n::ns=>.int k n::mkC ks ns
 |_,_=>[]
def mkV(ag:Bool)(ks:List IntKind)(ns:List Int):Value:=if ag then .agg (mkC ks ns).toArray else(mkC ks ns).headD undef
def yG(w:World)(g:G)(l:Nat)(ag:Bool)(ks:List IntKind)(es:List (List Int×LV)):Prop:=
 g.nl l=false/\(∀ p∈es,p.1.length=ks.length)/\∃(cO:List MapEntry) (clock:Nat),w.heap[g.β l]?=some (.map cO.toArray clock)/\cO.map (·.key)=es.map (fun p=>mkV ag ks p.1)/\
  aC w g (es.map (·.2)) (cO.map (·.val))/\g.φ (g.β l)=some 0/\(∀ x∈cO,x.born<clock)/\(cO.map (·.born)).Nodup
def Du(w:World)(g:G)(l e n:Nat):Prop:=
 g.nl l=false/\(∃ n9:Array Value,w.heap[g.β l]?=some (.cells n9 e (0,0))/\n9.size=g.κ l / qM+g.κ l % qM)/\g.φ (g.β l)=some (g.κ l / qM+n)/\n<=g.κ l % qM/\g.κ l % qM<=maxLen
def JA(w:World)(g:G)(l:Nat)(ag:Bool)(ks:List IntKind)(es:List (List Int×LV)):Prop:=
 g.nl l=false/\l<g.next/\(∀ p∈es,p.1.length=ks.length)/\∃(cO:List MapEntry) (clock:Nat),w.heap[g.β l]?=some (.map cO.toArray clock)/\cO.map (·.key)=es.map (fun p=>mkV ag ks p.1)/\
  aC w g (es.map (·.2)) (cO.map (·.val))/\g.φ (g.β l)=none/\(∀ x∈cO,x.born<clock)/\(cO.map (·.born)).Nodup
theorem JA.keep{w w':World}{g g':G}{l:Nat}{ag:Bool}{ks:List IntKind}{es:List (List Int×LV)}(h:JA w g l ag ks es)(he:Ext w g w' g'):JA w' g' l ag ks es:=by obtain⟨h1,h0,h2,cO,clock,h3,h4,h5,h6,h7⟩:=h;obtain⟨k1,k2⟩:=he.still _ (aAJ.1 h3).1 h6;exact⟨by rw[he.nl l h0];omega,aAs h0 he.next,h2,cO,clock,by rw[he.β l h0,k2];omega,h4,aC.mono he _ _ h5,by rw[he.β l h0];omega,h7⟩
@[simp] def gR:cN->Bool
  |.frz _ _ _=>true
  |_=>false
theorem xO{o:cN}(h:gR o=true):∃ ag ks es,o=.frz ag ks es:=by cases o<;>first|exact⟨_,_,_,rfl⟩|cases h
def Ic:List (Nat×List Value):=[(0,Lib.deBruijn64tab.map fun(n:Nat)=>.int .u8 n)]
def gY(w:World)(g:G):Prop:=∀ T∈Ic,∀(j:Nat) (v:Value),T.2[j]?=some v->w.cell? ⟨T.1,j,none⟩=some v/\g.φ T.1=none
theorem gY.keep{w w':World}{g g':G}(h:gY w g)(he:Ext w g w' g'):gY w' g':=fun T hT j v hv=>by
 obtain⟨h1,h2⟩:=h T hT j v hv;obtain⟨k1,k2⟩:=he.still T.1 (oW h1) h2
 grind [World.cell?_of_block]
structure Aside(w:World)(g:G)(st:St):Prop where
 frz:∀ l ag ks es,st.H l=.frz ag ks es->JA w g l ag ks es
 one:∀ l l',gR (st.H l)=true->gR (st.H l')=true->g.β l=g.β l'->l=l'
 glob:gY w g
theorem Aside.lt{w:World}{g:G}{st:St}(h:Aside w g st){l:Nat}(hl:gR (st.H l)=true):l<g.next:=by obtain⟨ag,ks,es,e⟩:=xO hl;exact(h.frz l ag ks es e).2.1
theorem Aside.keep{w w':World}{g g':G}{st st':St}(h:Aside w g st)(he:Ext w g w' g')(hs:∀ l,gR (st'.H l)=true->st'.H l=st.H l):Aside w' g' st':=by
 refine⟨fun l ag ks es hl=>?_,fun l l' h1 h2 hb=>?_,h.glob.keep he⟩
 .have e:=hs l (by simp_all);rw[hl]at e;exact(h.frz l ag ks es e.symm).keep he
 .have e1:=hs l h1;have e2:=hs l' h2;rw[e1]at h1;rw[e2]at h2;rw[he.β l (h.lt h1),he.β l' (h.lt h2)]at hb;exact h.one l l' h1 h2 hb
theorem uH{w:World}{g:G}{st:St}(h:gY w g)(hs:∀ l,st.H l=.dead):Aside w g st:=
 ⟨fun l ag ks es hl=>(by grind),fun l l' hl=>(by simp_all),h⟩
theorem gY.phi{w:World}{g g':G}(h:gY w g)(hφ:∀ b o v,w.cell? ⟨b,o,none⟩=some v->g.φ b=none->g'.φ b=none):gY w g':=fun T hT j v hv=>by
 obtain⟨h1,h2⟩:=h T hT j v hv
 grind
structure Inv(w:World)(g:G)(st:St):Prop where
 next:g.next=st.next
 pos:0<st.next
 fresh:∀ l,st.next<=l->st.H l=.dead
 lt:∀ l,blk g st l->g.β l<w.heap.size
 inj:∀ l l',blk g st l->blk g st l'->g.β l=g.β l'->l=l'
 own:∀ l e s n,st.H l=.own e s n->n<=g.κ l/\g.κ l<=maxLen/\(g.nl l=true->g.κ l=0)/\(g.nl l=false->∃ n9:Array Value,w.heap[g.β l]?=some (.cells n9 e (0,0))/\n9.size=g.κ l*s/\g.φ (g.β l)=some (n*s))
 box:∀ l e s cs,st.H l=.box e s cs->g.κ l<=maxLen/\(g.nl l=true->g.κ l=0/\cs=[])/\(g.nl l=false->∃ n9:List Value,w.heap[g.β l]?=some (.cells n9.toArray e (0,0))/\n9.length=g.κ l*s/\cs.length<=n9.length/\aC w g cs (n9.take cs.length)/\g.φ (g.β l)=some 0)
 mp:∀ l ag ks es,st.H l=.map ag ks es->yG w g l ag ks es
 qu:∀ l e n,st.H l=.que e n->Du w g l e n
 aside:Aside w g st
theorem yG.keep{w w':World}{g g':G}{l:Nat}{ag:Bool}{ks:List IntKind}{es:List (List Int×LV)}(h:yG w g l ag ks es)(he:Ext w g w' g')(dA:l<g.next)(hb:w'.heap[g.β l]?=w.heap[g.β l]?)(hφ:g'.φ (g.β l)=g.φ (g.β l)):yG w' g' l ag ks es:=by obtain⟨h1,h2,cO,clock,h3,h4,h5,h6,h7⟩:=h;refine⟨by rw[he.nl l dA];omega,h2,cO,clock,by rw[he.β l dA,hb];omega,h4,aC.mono he _ _ h5,by rw[he.β l dA,hφ];omega,h7⟩
theorem yG.blk_lt{w:World}{g:G}{l:Nat}{ag:Bool}{ks:List IntKind}{es:List (List Int×LV)}(h:yG w g l ag ks es):g.β l<w.heap.size:=by
 obtain⟨_,_,_,_,h3,_⟩:=h
 grind
theorem Inv.map_lt{w:World}{g:G}{st:St}(h:Inv w g st){l:Nat}{ag:Bool}{ks:List IntKind}{es:List (List Int×LV)}(hl:st.H l=.map ag ks es):l<g.next:=by
 rw[h.next];rcases aAM l st.next with h0|h0
 .omega
 .rw[h.fresh l h0]at hl;grind
theorem Du.keep{w w':World}{g g':G}{l e n:Nat}(h:Du w g l e n)(he:Ext w g w' g')(dA:l<g.next)(hb:w'.heap[g.β l]?=w.heap[g.β l]?)(hφ:g'.φ (g.β l)=g.φ (g.β l)):Du w' g' l e n:=by obtain⟨h1,⟨n9,h2,h3⟩,h4,h5⟩:=h;refine⟨by rw[he.nl l dA];omega,⟨n9,by rw[he.β l dA,hb];omega,by rw[he.κ l dA];omega⟩,by rw[he.β l dA,hφ,he.κ l dA];omega,by rw[he.κ l dA];omega⟩
theorem Du.blk_lt{w:World}{g:G}{l e n:Nat}(h:Du w g l e n):g.β l<w.heap.size:=by
 obtain⟨_,⟨_,h2,_⟩,_⟩:=h
 grind
theorem Inv.que_lt{w:World}{g:G}{st:St}(h:Inv w g st){l e n:Nat}(hl:st.H l=.que e n):l<g.next:=by
 rw[h.next];rcases aAM l st.next with h0|h0
 .omega
 .rw[h.fresh l h0]at hl;grind
theorem Inv.que_blk{w:World}{g:G}{st:St}(h:Inv w g st){l e n:Nat}(hl:st.H l=.que e n):blk g st l:=by unfold blk;rw[hl];exact(h.qu l e n hl).1
theorem Inv.map_blk{w:World}{g:G}{st:St}(h:Inv w g st){l:Nat}{ag:Bool}{ks:List IntKind}{es:List (List Int×LV)}(hl:st.H l=.map ag ks es):blk g st l:=by unfold blk;rw[hl];exact(h.mp l ag ks es hl).1
abbrev Frm:=Nat->LV
def upd(fr:Frm)(i:Nat)(v:LV):Frm:=fun j=>if j=i then v else fr j
def dX(w:World)(g:G)(a:Act)(fr:Frm):Prop:=∀ i,Rep w g (fr i) (a.tmps.getD i undef)
theorem dX.mono{w w':World}{g g':G}{a:Act}{fr:Frm}(h:dX w g a fr)(he:Ext w g w' g'):dX w' g' a fr:=
 fun i=>Rep.mono he _ _ (h i)
theorem dX.put{w:World}{g:G}{a:Act}{fr:Frm}(h:dX w g a fr){d:Nat}(hd:d<a.tmps.size){v:Value}{lv:LV}(hv:Rep w g lv v):
 dX w g (a.put (some d) v) (upd fr d lv):=by
 intro i;simp only[Act.put,upd];by_cases hi:i=d
 .simp_all
 .rw[aAa hi];have:=h i;rw[aCD,aBD,aAa (fun e=>hi e.symm),<- aCD];omega
theorem cF(a:Act)(d:Option Tmp)(v:Value):(a.put d v).tmps.size=a.tmps.size:=by cases d<;>simp[Act.put]
theorem put_defers(a:Act)(d:Option Tmp)(v:Value):(a.put d v).defers=a.defers:=by cases d<;>rfl
end Aw
end Go.Proofs.YtbgngpdonpeboaaGreatDoor
