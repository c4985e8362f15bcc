/- Logical values, what represents them in memory, and that this lasts while memory only grows. No program is named here. -/
import Derived.Below
import Derived.Laws.AppendOwn
import Derived.Maps.AppendAt
import Derived.OwnWalk
import Derived.Deep.Draws
import Derived.Laws.Rows
import Derived.Lib.TrailingZeros
set_option linter.unusedVariables false
set_option linter.unusedSimpArgs false
set_option linter.defProp false
namespace Go.Proofs.YtbgngpdonpeboaaGreatDoor
theorem oO {p:Prop}(h:p:=by omega):p:=h
theorem sS {p:Prop}(h:p:=by simp):p:=h
theorem zZ {a b:Prop}(k:b)(h:b→a:=by simp only[Go.Proofs.YtbgngpdonpeboaaGreatDoor.Aw.ak,reduceIte];exact fun h=>h):a:=h k
theorem zW {a b:Int}(h:a=b:=by omega)(h0:-9223372036854775808≤a:=by omega)(h1:a≤9223372036854775807:=by omega):Go.IntKind.i64.wrap a=b:=by
 subst h
 simp only[Go.IntKind.wrap,Go.IntKind.signed,Go.IntKind.bits]
 simp
 split <;> omega
def aAa:=@if_neg
def aAb:=@Option.some.injEq
def aAc:=@List.mem_cons_of_mem
def aAd:=@List.mem_append
def aAe:=@List.mem_cons
def aAf:=@List.mem_cons_self
def aAg:=@List.getD_eq_getElem?_getD
def aAh:=@List.getElem?_eq_getElem
def aAi:=@List.mem_singleton
def aAj:=@List.mem_map
def aAk:=@if_pos
def aAl:=@Nat.le_refl
def aAm:=@List.length_append
def aAn:=@List.map_cons
def aAo:=@List.nodup_append
def aAp:=@List.take_succ_eq_append_getElem
def aAq:=@List.nodup_cons
def aAr:=@List.mem_append_left
def aAs:=@Nat.lt_of_lt_of_le
def aAt:=@List.take_of_length_le
def aAu:=@List.map_append
def aAv:=@List.length_take
def aAw:=@List.mem_map_of_mem
def aAx:=@List.mem_append_right
def aAy:=@List.Nodup.length_le_of_subset
def aAz:=@List.getElem_mem
def aAA:=@List.getElem_of_mem
def aAB:=@List.pairwise_iff_getElem
def aAC:=@List.mem_filter
def aAD:=@List.length_map
def aAE:=@List.append_assoc
def aAF:=@List.eq_nil_of_length_eq_zero
def aAG:=@List.take_append_drop
def aAH:=@Array.getElem?_eq_some_iff
def aAI:=@Classical.byContradiction
def aAJ:=@List.flatMap_cons
def aAK:=@Nat.lt_or_ge
def aAL:=@List.drop_eq_getElem_cons
def aAM:=@Nat.mod_eq_of_lt
def aAN:=@List.take_length
def aAO:=@List.length_drop
def aAP:=@List.map_congr_left
def aAQ:=@Bool.and_eq_true
def aAR:=@List.idxOf_lt_length_of_mem
def aAS:=@List.exists_mem_of_ne_nil
def aAT:=@decide_eq_true_iff
def aAU:=@List.pairwise_map
def aAV:=@List.size_toArray
def aAW:=@Prod.mk.injEq
def aAX:=@List.mem_flatten
def aAY:=@List.getElem?_append_left
def aAZ:=@List.map_map
def aBa:=@Bool.false_eq_true
def aBb:=@List.mem_range
def aBc:=@List.append_nil
def aBd:=@List.perm_ext_iff_of_nodup
def aBe:=@Option.map_eq_some_iff
def aBf:=@List.length_filter_le
def aBg:=@Nat.le_trans
def aBh:=@List.mem_reverse
def aBi:=@List.append_of_mem
def aBj:=@Option.some.inj
def aBk:=@List.mem_flatMap
def aBl:=@List.pairwise_cons
def aBm:=@List.length_pos_iff
def aBn:=@List.sublist_flatten_of_mem
def aBo:=@List.reverse_perm
def aBp:=@List.perm_append_comm
def aBq:=@if_true
def aBr:=@decide_eq_true_eq
def aBs:=@decide_eq_true
def aBt:=@List.cons.injEq
def aBu:=@Option.bind_eq_some_iff
def aBv:=@Nat.zero_add
def aBw:=@Array.replicate_succ
def aBx:=@Array.getElem?_setIfInBounds
def aBy:=@List.append_toArray
def aBz:=@List.getElem?_append_right
def aBA:=@List.getElem_idxOf
def aBB:=@List.ne_nil_of_mem
def aBC:=@decide_eq_false
def aBD:=@List.pairwise_lt_range
def aBE:=@Nat.zero_le
def aBF:=@List.filter_sublist
def aBG:=@List.getElem_take
def aBH:=@List.push_toArray
def aBI:=@List.foldl_append
def aBJ:=@Prod.swap_swap
def aBK:=@List.set_eq_take_append_cons_drop
def aBL:=@List.getElem?_take
def aBM:=@Nat.eq_of_testBit_eq
def aBN:=@if_false
def aBO:=@List.all_eq_true
def aBP:=@List.eq_nil_iff_forall_not_mem
def aBQ:=@List.getElem?_eq_none
def aBR:=@Array.getElem?_toList
def aBS:=@List.getElem?_toArray
def aBT:=@Nat.mul_comm
def aBU:=@Prod.ext
def aBV:=@List.not_mem_nil
def aBW:=@Nat.ne_of_lt
def aBX:=@Nat.add_mul
def aBY:=@Nat.mod_lt
def aBZ:=@List.dropLast_concat_getLast
def aCa:=@Nat.mul_le_mul_right
def aCb:=@decide_eq_false_iff_not
def aCc:=@of_decide_eq_true
def aCd:=@List.getElem?_map
def aCe:=@List.perm_middle
def aCf:=@List.take_take
def aCg:=@List.Perm.append_left
def aCh:=@List.mem_of_find?_eq_some
def aCi:=@List.mem_of_mem_take
def aCj:=@List.pairwise_append
def aCk:=@Nat.lt_trichotomy
def aCl:=@List.getElem_drop
def aCm:=@List.ext_getElem?
def aCn:=@List.length_eq_zero_iff
def aCo:=@List.reverse_append
def aCp:=@not_or
def aCq:=@List.take_append
def aCr:=@List.reverse_singleton
def aCs:=@Nat.eq_zero_or_pos
def aCt:=@getElem!_pos
def aCu:=@Array.getD_eq_getD_getElem?
def aCv:=@Ne.symm
def aCw:=@List.Pairwise.filter
def aCx:=@List.drop_drop
def aCy:=@List.getElem_map
def aCz:=@List.flatten_append
def aCA:=@List.flatMap_append
def aCB:=@List.filter_eq_self
def aCC:=@List.map_eq_nil_iff
def aCD:=@Int.eq_ofNat_of_zero_le
def aCE:=@Nat.testBit_mul_two_pow
def aCF:=@List.map_drop
def aCG:=@Nat.add_sub_cancel
def aCH:=@List.length_set
def aCI:=@of_decide_eq_false
def aCJ:=@List.toArray_range
def aCK:=@List.drop_of_length_le
def aCL:=@List.reverse_cons
def aCM:=@List.map_nil
def aCN:=@List.drop_left
def aCO:=@List.Pairwise.sublist
def aCP:=@List.idxOf_le_length
def aCQ:=@Nat.lt_succ_self
def aCR:=@List.reverse_reverse
def aCS:=@List.flatMap_nil
def aCT:=@Int.tmod_eq_emod_of_nonneg
def aCU:=@List.exists_cons_of_ne_nil
def aCV:=@Int.le_refl
def aCW:=@beq_eq_false_iff_ne
def aCX:=@Nat.min_eq_left
def aCY:=@List.find?_some
def aCZ:=@List.append_eq_append_iff
def aDa:=@Array.getElem?_eq_getElem
def aDb:=@List.getElem?_eq_some_iff
def aDc:=@BitVec.toNat_ofNat
def aDd:=@List.filter_append
def aDe:=@List.find?_eq_none
def aDf:=@List.getElem?_drop
def aDg:=@List.take_left
def aDh:=@List.pairwise_singleton
def aDi:=@List.getElem?_set
def aDj:=@List.length_range
def aDk:=@Nat.mul_pos
def aDl:=@Nat.mul_one
def aDm:=@List.filter_eq_nil_iff
def aDn:=@List.Perm.append_right
def aDo:=@List.length_eq_one_iff
def aDp:=@List.ext_getElem
def aDq:=@or_false
def aDr:=@Nat.div_eq_of_lt
def aDs:=@List.getElem_zip
def aDt:=@List.nodup_range
def aDu:=@List.map_flatten
def aDv:=@List.map_snd_zip
def aDw:=@List.map_toArray
def aDx:=@List.perm_cons_erase
def aDy:=@List.range_succ
def aDz:=@Nat.mod_self
def aDA:=@List.mem_of_mem_drop
def aDB:=@Nat.not_lt_zero
def aDC:=@List.drop_append_of_le_length
def aDD:=@List.drop_succ_cons
def aDE:=@Array.toList_append
def aDF:=@Nat.le_succ
def aDG:=@Array.extract_eq_self_of_le
def aDH:=@Array.getElem?_append_left
def aDI:=@Nat.add_mod_right
def aDJ:=@beq_iff_eq
def aDK:=@Array.mapM_eq_mapM_toList
def aDL:=@Nat.succ_mul
def aDM:=@Nat.testBit_succ
def aDN:=@decide_eq_decide
def aDO:=@Nat.add_right_cancel_iff
def aDP:=@List.map_flatMap
def aDQ:=@Nat.le_of_eq
def aDR:=@List.filter_cons
def aDS:=@List.map_fst_zip
def aDT:=@Nat.mul_ne_zero
def aDU:=@List.length_zip
def aDV:=@Nat.mul_eq_zero
def aDW:=@List.not_of_lt_findIdx
def aDX:=@List.length_pos_of_mem
def aDY:=@List.append_eq_nil_iff
def aDZ:=@List.pairwise_flatten
def aEa:=@List.eq_nil_or_concat
def aEb:=@List.concat_eq_append
def aEc:=@List.drop_take
def aEd:=@Nat.le_div_iff_mul_le
def aEe:=@List.countP_le_length
def aEf:=@Array.getElem?_modify
def aEg:=@List.Perm.refl
def aEh:=@Iff.rfl
def aEi:=@Array.mem_of_getElem?
def aEj:=@Classical.choose_spec
def aEk:=@List.mem_erase_of_ne
def aEl:=@Nat.pow_le_pow_right
def aEm:=@List.findIdx_getElem
def aEn:=@and_true
def aEo:=@Nat.div_lt_of_lt_mul
def aEp:=@List.mem_iff_getElem
def aEq:=@Array.ext'
def aEr:=@Array.mem_toList_iff
def aEs:=@List.drop_set_of_lt
def aEt:=@List.perm_iff_count
def aEu:=@List.length_reverse
def aEv:=@List.getElem?_range
def aEw:=@Nat.zero_mul
def aEx:=@List.map_id
namespace Aw
open Go Go.RowKit
inductive LV where
 |dead
 |nil
 |atom (v:Value)
 |sl (t n:Nat) (cs:List LV)
 |ms (l o n:Nat)
 |ag (cs:List LV)
 |pt (l o:Nat)
 |ep (cs:List LV)
 |mp (l:Nat)
 |fn (f:Fn) (GK:List LV)
 |tu (vs:List LV)
 |qu (t o n:Nat) (cs:List LV)
 |emp
 |pe (l:Nat) (cs:List LV)
 |kap (l n c:Nat)
def qM:Nat:=18446744073709551616
structure G where
 next:Nat
 φ:Nat->Option Nat
 β:Nat->Nat
 κ:Nat->Nat
 nl:Nat->Bool
def G.ok(g:G)(b o:Nat):Prop:=∀ k,g.φ b=some k->o<k
mutual
def Rep(w:World)(g:G):LV->Value->Prop
 |.dead,_=>True
 |.nil,v=>v=.slice none 0 0
 |.emp,v=>∃ A,v=.slice A 0 0
 |.atom x,v=>v=x
 |.sl t n cs,v=>∃ A cap,v=.slice A n cap/\n<=cap/\(cap<=maxLen/\(A=none->cap=0))/\(t≠0->(g.nl t=false->A=some ⟨g.β t,0,none⟩)/\cap=g.κ t/\t<g.next)/\(cs≠[]->∃ b o,A=some ⟨b,o,none⟩/\aN w g b cs o)
 |.ms l o n,v=>∃ A cap,v=.slice A n cap/\n<=cap/\cap<=maxLen/\(o=0->cap=g.κ l/\(g.nl l=false->A=some ⟨g.β l,0,none⟩))/\(n≠0->A=some ⟨g.β l,o,none⟩)/\l<g.next
 |.ag cs,v=>∃ vs:List Value,v=.agg vs.toArray/\aC w g cs vs
 |.pt l o,v=>v=.pointer (some ⟨g.β l,o,none⟩)/\l<g.next
 |.ep cs,v=>∃ b o,v=.pointer (some ⟨b,o,none⟩)/\aN w g b cs o
 |.mp l,v=>v=.map (some (g.β l))/\l<g.next
 |.kap l n c,v=>∃ A,v=.slice A n c/\n<=c/\c<=maxLen/\g.κ l=c/\l<g.next/\(g.nl l=false->A=some ⟨g.β l,0,none⟩)/\(g.nl l=true->c=0)
 |.pe l cs,v=>v=.pointer (some ⟨g.β l,0,none⟩)/\l<g.next/\aN w g (g.β l) cs 0
 |.fn f GK,v=>∃ vs:List Value,v=.func f #[] vs.toArray/\aC w g GK vs
 |.tu G7,v=>∃ vs:List Value,v=.tuple vs.toArray/\aC w g G7 vs
 |.qu t o n cs,v=>∃ A cap,v=.slice A n cap/\n<=cap/\cap<=maxLen/\t<g.next/\o+cap=g.κ t % qM/\(cap≠0->A=some ⟨g.β t,g.κ t / qM+o,none⟩)/\(cs≠[]->∃ b o,A=some ⟨b,o,none⟩/\aN w g b cs o)
def aC(w:World)(g:G):List LV->List Value->Prop
 |[],vs=>vs=[]
 |c::cs,vs=>∃ v vs',vs=v::vs'/\Rep w g c v/\aC w g cs vs'
def aN(w:World)(g:G)(b:Nat):List LV->Nat->Prop
 |[],_=>True
 |c::cs,o=>(∃ v,w.cell? ⟨b,o,none⟩=some v/\Rep w g c v/\g.ok b o)/\aN w g b cs (o+1)
end
structure Ext(w:World)(g:G)(w':World)(g':G):Prop where
 os:w'.os=w.os
 tape:w'.tape=w.tape
 output:w'.output=w.output
 size:w.heap.size<=w'.heap.size
 next:g.next<=g'.next
 β:∀ l,l<g.next->g'.β l=g.β l
 κ:∀ l,l<g.next->g'.κ l=g.κ l
 nl:∀ l,l<g.next->g'.nl l=g.nl l
 still:∀ b,b<w.heap.size->g.φ b=none->g'.φ b=none/\w'.heap[b]?=w.heap[b]?
 part:∀ b k,b<w.heap.size->g.φ b=some k->∃ k',g'.φ b=some k'/\k<=k'/\∀ o,o<k->w'.cell? ⟨b,o,none⟩=w.cell? ⟨b,o,none⟩
theorem Ext.refl(w:World)(g:G):Ext w g w g:=
 ⟨rfl,rfl,rfl,aAl _,aAl _,fun _ _=>rfl,fun _ _=>rfl,fun _ _=>rfl,fun _ _ h=>⟨h,rfl⟩,fun _ k _ h=>⟨k,h,aAl _,fun _ _=>rfl⟩⟩
theorem Ext.trans{w w' w'':World}{g g' g'':G}(h:Ext w g w' g')(k:Ext w' g' w'' g''):Ext w g w'' g'':=by
 refine⟨k.os.trans h.os,k.tape.trans h.tape,k.output.trans h.output,aBg h.size k.size,aBg h.next k.next,?_,?_,?_,?_,?_⟩
 .intro l hl;rw[k.β l (aAs hl h.next),h.β l hl]
 .intro l hl;rw[k.κ l (aAs hl h.next),h.κ l hl]
 .intro l hl;rw[k.nl l (aAs hl h.next),h.nl l hl]
 .intro b hb hn;obtain⟨h1,h2⟩:=h.still b hb hn;obtain⟨k1,k2⟩:=k.still b (aAs hb h.size) h1
  grind
 .intro b q hb hq;obtain⟨q1,h1,h2,h3⟩:=h.part b q hb hq;obtain⟨q2,k1,k2,k3⟩:=k.part b q1 (aAs hb h.size) h1
  grind
theorem nO{w:World}{a:Addr}{v:Value}(h:w.cell? a=some v):a.block<w.heap.size:=by
 unfold World.cell? at h;cases hb:w.heap[a.block]? with
 |none=>simp_all
 |some o=>grind
theorem Ext.cell{w w':World}{g g':G}(h:Ext w g w' g'){b o:Nat}{v:Value}(hc:w.cell? ⟨b,o,none⟩=some v)(K8:g.ok b o):
 w'.cell? ⟨b,o,none⟩=some v/\g'.ok b o:=by
 have hb:b<w.heap.size:=nO hc;cases hφ:g.φ b with
 |none=>
  obtain⟨h1,h2⟩:=h.still b hb hφ;refine⟨?_,fun k hk=>by grind⟩
  grind [World.cell?_of_block]
 |some k=>
  obtain⟨k',h1,h2,h3⟩:=h.part b k hb hφ;have ho:=K8 k hφ;refine⟨(h3 o ho).trans hc,fun q hq=>?_⟩
  grind
mutual
theorem Rep.mono{w w':World}{g g':G}(h:Ext w g w' g'):∀(lv:LV) (v:Value),Rep w g lv v->Rep w' g' lv v
 |.dead,_,_=>by grind [Rep]
 |.nil,v,hr=>by grind [Rep]
 |.emp,v,hr=>by grind [Rep]
 |.atom x,v,hr=>by grind [Rep]
 |.sl t n cs,v,hr=>by
  simp only[Rep]at hr ⊢;obtain⟨A,cap,hv,hn,hc,ht,I0⟩:=hr;refine⟨A,cap,hv,hn,hc,fun h0=>?_,fun Zy=>?_⟩
  .obtain⟨h1,h2,h3⟩:=ht h0;exact⟨by rw[h.β t h3,h.nl t h3];omega,by rw[h.κ t h3];omega,aAs h3 h.next⟩
  .obtain⟨b,o,hA,Ut⟩:=I0 Zy;exact⟨b,o,hA,aN.mono h b cs o Ut⟩
 |.ms l o n,v,hr=>by simp only[Rep]at hr ⊢;obtain⟨A,cap,h1,h2,h3,h4,h5,h6⟩:=hr;exact⟨A,cap,h1,h2,h3,by rw[h.κ l h6,h.β l h6,h.nl l h6];omega,by rw[h.β l h6];omega,aAs h6 h.next⟩
 |.ag cs,v,hr=>by simp only[Rep]at hr ⊢;obtain⟨vs,hv,hl⟩:=hr;exact⟨vs,hv,aC.mono h cs vs hl⟩
 |.pt l o,v,hr=>by simp only[Rep]at hr ⊢;exact⟨by rw[h.β l hr.2];grind,aAs hr.2 h.next⟩
 |.ep cs,v,hr=>by simp only[Rep]at hr ⊢;obtain⟨b,o,hv,hl⟩:=hr;exact⟨b,o,hv,aN.mono h b cs o hl⟩
 |.mp l,v,hr=>by simp only[Rep]at hr ⊢;exact⟨by rw[h.β l hr.2];grind,aAs hr.2 h.next⟩
 |.fn f cs,v,hr=>by simp only[Rep]at hr ⊢;obtain⟨vs,hv,hl⟩:=hr;exact⟨vs,hv,aC.mono h cs vs hl⟩
 |.tu cs,v,hr=>by simp only[Rep]at hr ⊢;obtain⟨vs,hv,hl⟩:=hr;exact⟨vs,hv,aC.mono h cs vs hl⟩
 |.qu t o n cs,v,hr=>by simp only[Rep]at hr ⊢;obtain⟨A,cap,hv,hn,hc,ht,hk,hA,I0⟩:=hr;refine⟨A,cap,hv,hn,hc,aAs ht h.next,by rw[h.κ t ht];omega,by rw[h.κ t ht,h.β t ht];omega,fun Zy=>?_⟩;obtain⟨b,o,hA,Ut⟩:=I0 Zy;exact⟨b,o,hA,aN.mono h b cs o Ut⟩
 |.kap l n c,v,hr=>by simp only[Rep]at hr ⊢;obtain⟨A,h1,h2,h3,h4,h5,h6,h7⟩:=hr;exact⟨A,h1,h2,h3,by rw[h.κ l h5];omega,aAs h5 h.next,by rw[h.β l h5,h.nl l h5];omega,by rw[h.nl l h5];omega⟩
 |.pe l cs,v,hr=>by simp only[Rep]at hr ⊢;obtain⟨h1,h2,h3⟩:=hr;exact⟨by rw[h.β l h2];omega,aAs h2 h.next,by rw[h.β l h2];exact aN.mono h (g.β l) cs 0 h3⟩
theorem aC.mono{w w':World}{g g':G}(h:Ext w g w' g'):∀(cs:List LV) (vs:List Value),aC w g cs vs->aC w' g' cs vs
 |[],_,hr=>by grind [aC]
 |c::cs,_,hr=>by simp only[aC]at hr ⊢;obtain⟨v,vs',hv,h1,h2⟩:=hr;exact⟨v,vs',hv,Rep.mono h c v h1,aC.mono h cs vs' h2⟩
theorem aN.mono{w w':World}{g g':G}(h:Ext w g w' g')(b:Nat):∀(cs:List LV) (o:Nat),aN w g b cs o->aN w' g' b cs o
 |[],_,_=>by grind [aN]
 |c::cs,o,hr=>by simp only[aN]at hr ⊢;obtain⟨⟨v,h1,h2,h3⟩,h4⟩:=hr;obtain⟨k1,k2⟩:=h.cell h1 h3;exact⟨⟨v,k1,Rep.mono h c v h2,k2⟩,aN.mono h b cs (o+1) h4⟩
end
inductive cN where
 |dead
 |own (e s n:Nat)
 |box (e s:Nat) (cs:List LV)
 |map (ag:Bool) (ks:List IntKind) (es:List (List Int×LV))
 |que (e n:Nat)
 |frz (ag:Bool) (ks:List IntKind) (es:List (List Int×LV))
structure St where
 next:Nat
 H:Nat->cN
def blk(g:G)(st:St)(l:Nat):Prop:=match st.H l with
 |.dead=>False
 |.own _ _ _=>g.nl l=false
 |.box _ _ _=>g.nl l=false
 |.map _ _ _=>g.nl l=false
 |.que _ _=>g.nl l=false
 |.frz _ _ _=>False
def mkC:List IntKind->List Int->List Value
 |k::ks,n::ns=>.int k n::mkC ks ns
 |_,_=>[]
def mkV(ag:Bool)(ks:List IntKind)(ns:List Int):Value:=if ag then .agg (mkC ks ns).toArray else(mkC ks ns).headD undef
def xB(w:World)(g:G)(l:Nat)(ag:Bool)(ks:List IntKind)(es:List (List Int×LV)):Prop:=
 g.nl l=false/\(∀ p∈es,p.1.length=ks.length)/\∃(cZ:List MapEntry) (clock:Nat),w.heap[g.β l]?=some (.map cZ.toArray clock)/\cZ.map (·.key)=es.map (fun p=>mkV ag ks p.1)/\
  aC w g (es.map (·.2)) (cZ.map (·.val))/\g.φ (g.β l)=some 0/\(∀ x∈cZ,x.born<clock)/\(cZ.map (·.born)).Nodup
def DA(w:World)(g:G)(l e n:Nat):Prop:=
 g.nl l=false/\(∃ j9:Array Value,w.heap[g.β l]?=some (.cells j9 e (0,0))/\j9.size=g.κ l / qM+g.κ l % qM)/\g.φ (g.β l)=some (g.κ l / qM+n)/\n<=g.κ l % qM/\g.κ l % qM<=maxLen
def HV(w:World)(g:G)(l:Nat)(ag:Bool)(ks:List IntKind)(es:List (List Int×LV)):Prop:=
 g.nl l=false/\l<g.next/\(∀ p∈es,p.1.length=ks.length)/\∃(cZ:List MapEntry) (clock:Nat),w.heap[g.β l]?=some (.map cZ.toArray clock)/\cZ.map (·.key)=es.map (fun p=>mkV ag ks p.1)/\
  aC w g (es.map (·.2)) (cZ.map (·.val))/\g.φ (g.β l)=none/\(∀ x∈cZ,x.born<clock)/\(cZ.map (·.born)).Nodup
theorem HV.keep{w w':World}{g g':G}{l:Nat}{ag:Bool}{ks:List IntKind}{es:List (List Int×LV)}(h:HV w g l ag ks es)(he:Ext w g w' g'):HV w' g' l ag ks es:=by obtain⟨h1,h0,h2,cZ,clock,h3,h4,h5,h6,h7⟩:=h;obtain⟨k1,k2⟩:=he.still _ (aAH.1 h3).1 h6;exact⟨by rw[he.nl l h0];omega,aAs h0 he.next,h2,cZ,clock,by rw[he.β l h0,k2];omega,h4,aC.mono he _ _ h5,by rw[he.β l h0];omega,h7⟩
@[simp] def gB:cN->Bool
  |.frz _ _ _=>true
  |_=>false
theorem vQ{o:cN}(h:gB o=true):∃ ag ks es,o=.frz ag ks es:=by cases o<;>first|exact⟨_,_,_,rfl⟩|cases h
def Hy:List (Nat×List Value):=[(0,Lib.deBruijn64tab.map fun(n:Nat)=>.int .u8 n)]
def hU(w:World)(g:G):Prop:=∀ T∈Hy,∀(j:Nat) (v:Value),T.2[j]?=some v->w.cell? ⟨T.1,j,none⟩=some v/\g.φ T.1=none
theorem hU.keep{w w':World}{g g':G}(h:hU w g)(he:Ext w g w' g'):hU w' g':=fun T hT j v hv=>by
 obtain⟨h1,h2⟩:=h T hT j v hv;obtain⟨k1,k2⟩:=he.still T.1 (nO h1) h2
 grind [World.cell?_of_block]
structure Aside(w:World)(g:G)(st:St):Prop where
 frz:∀ l ag ks es,st.H l=.frz ag ks es->HV w g l ag ks es
 one:∀ l l',gB (st.H l)=true->gB (st.H l')=true->g.β l=g.β l'->l=l'
 glob:hU w g
theorem Aside.lt{w:World}{g:G}{st:St}(h:Aside w g st){l:Nat}(hl:gB (st.H l)=true):l<g.next:=by obtain⟨ag,ks,es,e⟩:=vQ hl;exact(h.frz l ag ks es e).2.1
theorem Aside.keep{w w':World}{g g':G}{st st':St}(h:Aside w g st)(he:Ext w g w' g')(hs:∀ l,gB (st'.H l)=true->st'.H l=st.H l):Aside w' g' st':=by
 refine⟨fun l ag ks es hl=>?_,fun l l' h1 h2 hb=>?_,h.glob.keep he⟩
 .have e:=hs l (by simp_all);rw[hl]at e;exact(h.frz l ag ks es e.symm).keep he
 .have e1:=hs l h1;have e2:=hs l' h2;rw[e1]at h1;rw[e2]at h2;rw[he.β l (h.lt h1),he.β l' (h.lt h2)]at hb;exact h.one l l' h1 h2 hb
theorem sG{w:World}{g:G}{st:St}(h:hU w g)(hs:∀ l,st.H l=.dead):Aside w g st:=
 ⟨fun l ag ks es hl=>(by grind),fun l l' hl=>(by simp_all),h⟩
theorem hU.phi{w:World}{g g':G}(h:hU w g)(hφ:∀ b o v,w.cell? ⟨b,o,none⟩=some v->g.φ b=none->g'.φ b=none):hU w g':=fun T hT j v hv=>by
 obtain⟨h1,h2⟩:=h T hT j v hv
 grind
structure Inv(w:World)(g:G)(st:St):Prop where
 next:g.next=st.next
 pos:0<st.next
 fresh:∀ l,st.next<=l->st.H l=.dead
 lt:∀ l,blk g st l->g.β l<w.heap.size
 inj:∀ l l',blk g st l->blk g st l'->g.β l=g.β l'->l=l'
 own:∀ l e s n,st.H l=.own e s n->n<=g.κ l/\g.κ l<=maxLen/\(g.nl l=true->g.κ l=0)/\(g.nl l=false->∃ j9:Array Value,w.heap[g.β l]?=some (.cells j9 e (0,0))/\j9.size=g.κ l*s/\g.φ (g.β l)=some (n*s))
 box:∀ l e s cs,st.H l=.box e s cs->g.κ l<=maxLen/\(g.nl l=true->g.κ l=0/\cs=[])/\(g.nl l=false->∃ j9:List Value,w.heap[g.β l]?=some (.cells j9.toArray e (0,0))/\j9.length=g.κ l*s/\cs.length<=j9.length/\aC w g cs (j9.take cs.length)/\g.φ (g.β l)=some 0)
 mp:∀ l ag ks es,st.H l=.map ag ks es->xB w g l ag ks es
 qu:∀ l e n,st.H l=.que e n->DA w g l e n
 aside:Aside w g st
theorem xB.keep{w w':World}{g g':G}{l:Nat}{ag:Bool}{ks:List IntKind}{es:List (List Int×LV)}(h:xB w g l ag ks es)(he:Ext w g w' g')(dQ:l<g.next)(hb:w'.heap[g.β l]?=w.heap[g.β l]?)(hφ:g'.φ (g.β l)=g.φ (g.β l)):xB w' g' l ag ks es:=by obtain⟨h1,h2,cZ,clock,h3,h4,h5,h6,h7⟩:=h;refine⟨by rw[he.nl l dQ];omega,h2,cZ,clock,by rw[he.β l dQ,hb];omega,h4,aC.mono he _ _ h5,by rw[he.β l dQ,hφ];omega,h7⟩
theorem xB.blk_lt{w:World}{g:G}{l:Nat}{ag:Bool}{ks:List IntKind}{es:List (List Int×LV)}(h:xB w g l ag ks es):g.β l<w.heap.size:=by
 obtain⟨_,_,_,_,h3,_⟩:=h
 grind
theorem Inv.map_lt{w:World}{g:G}{st:St}(h:Inv w g st){l:Nat}{ag:Bool}{ks:List IntKind}{es:List (List Int×LV)}(hl:st.H l=.map ag ks es):l<g.next:=by
 rw[h.next];rcases aAK l st.next with h0|h0
 .omega
 .rw[h.fresh l h0]at hl;grind
theorem DA.keep{w w':World}{g g':G}{l e n:Nat}(h:DA w g l e n)(he:Ext w g w' g')(dQ:l<g.next)(hb:w'.heap[g.β l]?=w.heap[g.β l]?)(hφ:g'.φ (g.β l)=g.φ (g.β l)):DA w' g' l e n:=by obtain⟨h1,⟨j9,h2,h3⟩,h4,h5⟩:=h;refine⟨by rw[he.nl l dQ];omega,⟨j9,by rw[he.β l dQ,hb];omega,by rw[he.κ l dQ];omega⟩,by rw[he.β l dQ,hφ,he.κ l dQ];omega,by rw[he.κ l dQ];omega⟩
theorem DA.blk_lt{w:World}{g:G}{l e n:Nat}(h:DA w g l e n):g.β l<w.heap.size:=by
 obtain⟨_,⟨_,h2,_⟩,_⟩:=h
 grind
theorem Inv.que_lt{w:World}{g:G}{st:St}(h:Inv w g st){l e n:Nat}(hl:st.H l=.que e n):l<g.next:=by
 rw[h.next];rcases aAK l st.next with h0|h0
 .omega
 .rw[h.fresh l h0]at hl;grind
theorem Inv.que_blk{w:World}{g:G}{st:St}(h:Inv w g st){l e n:Nat}(hl:st.H l=.que e n):blk g st l:=by unfold blk;rw[hl];exact(h.qu l e n hl).1
theorem Inv.map_blk{w:World}{g:G}{st:St}(h:Inv w g st){l:Nat}{ag:Bool}{ks:List IntKind}{es:List (List Int×LV)}(hl:st.H l=.map ag ks es):blk g st l:=by unfold blk;rw[hl];exact(h.mp l ag ks es hl).1
abbrev Frm:=Nat->LV
def upd(fr:Frm)(i:Nat)(v:LV):Frm:=fun j=>if j=i then v else fr j
def dV(w:World)(g:G)(a:Act)(fr:Frm):Prop:=∀ i,Rep w g (fr i) (a.tmps.getD i undef)
theorem dV.mono{w w':World}{g g':G}{a:Act}{fr:Frm}(h:dV w g a fr)(he:Ext w g w' g'):dV w' g' a fr:=
 fun i=>Rep.mono he _ _ (h i)
theorem dV.put{w:World}{g:G}{a:Act}{fr:Frm}(h:dV w g a fr){d:Nat}(hd:d<a.tmps.size){v:Value}{lv:LV}(hv:Rep w g lv v):
 dV w g (a.put (some d) v) (upd fr d lv):=by
 intro i;simp only[Act.put,upd];by_cases hi:i=d
 .simp_all
 .rw[aAa hi];have:=h i;rw[aCu,aBx,aAa (fun e=>hi e.symm),<- aCu];omega
theorem cG(a:Act)(d:Option Tmp)(v:Value):(a.put d v).tmps.size=a.tmps.size:=by cases d<;>simp[Act.put]
theorem put_defers(a:Act)(d:Option Tmp)(v:Value):(a.put d v).defers=a.defers:=by cases d<;>rfl
end Aw
end Go.Proofs.YtbgngpdonpeboaaGreatDoor
