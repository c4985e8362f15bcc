/- A range over a map that a call gives: the region has operations ahead of the range. -/
import Derived.Test.YtiiejclelbilkaaGreatDoorAwMr4
namespace Go.Proofs.YtiiejclelbilkaaGreatDoor.Aw
open Go Go.RowKit
set_option linter.unusedSimpArgs false
set_option linter.unusedVariables false
theorem wpList_append {P:Program} {ops:Array Oper} {R R':Exit→Act→World→Prop} {rest:List Oper} (hN:∀ a w,R .normal a w→wpList P ops R' rest a w) (hX:∀ e a w,e≠.normal→R e a w→R' e a w):∀ (pre:List Oper) (a:Act) (w:World),wpList P ops R pre a w→wpList P ops R' (pre++rest) a w
 | [],a,w,h=>hN _ _ h
 | o::pre,a,w,h=>by
   simp only [wpList,List.cons_append] at h ⊢
   split
   ·rename_i hw
    rw [if_pos hw] at h
    rcases h with h | h
    ·left
     unfold Oper.wp at h ⊢
     revert h
     cases (execOp a.eval o).run P w with
     | halt x w1=>cases x<;>simp only [Oper.upon]<;>first | exact fun h=>h.elim | exact fun h=>hX _ _ _ (by simp) h
     | ok x w1=>
       cases x<;>simp only [Oper.upon]<;>first
        | exact fun h=>h.elim
        | exact fun h=>wpList_append hN hX pre _ _ h
        | (intro h;refine Calls.mono h ?_;intro e w2 h2;cases e<;>first | exact wpList_append hN hX pre _ _ h2 | exact hX _ _ _ (by simp) h2 | exact ⟨h2.choose,h2.choose_spec.choose,hX _ _ _ (by simp) h2.choose_spec.choose_spec⟩)
        | (intro h;refine Rows.mono h ?_;intro e w2 h2;exact wpList_append hN hX pre _ _ h2)
    ·right
     exact ⟨h.1,h.2.choose,h.2.choose_spec.choose,hX _ _ _ (by simp) h.2.choose_spec.choose_spec⟩
   ·rename_i hw
    rw [if_neg hw] at h
    exact wpList_append hN hX pre _ _ h
section
variable {P:Program} {T:Tab} {N:Nat} {Q:AQ} {k:List AItem}
theorem aops_ofE (hT:TabOk P T) {ops:Array Oper} {M:List Nat} {J:Frm→St→Prop} {l:List Oper} {fr:Frm} {st:St} (hk:regOk N ops l=true) (h:AOpsE P T N ops M J l fr st):AOps P N ops l (fun e fr st=>e=.normal∧J fr st) fr st:=
 aopsE_sound (M:=M) (J:=J) hT (fun _ _ h=>⟨rfl,h⟩) _ _ _ hk h
theorem awp_mapRangeC (hT:TabOk P T) {fr:Frm} {st:St} {ra rn re b nx:Nat} {tm ti tn tc te:Nat} {ty kt et y2 y3 y4 y5:TypeId} {p2 p3 p4 p5:String} {f2 f3 f4 f5:Array Edge} {body:Code} {erest:List Oper} {o1 o2:Oper} (M:List Nat)
 (Post:Frm→St→Prop) (hpre:AOpsE P T N #[o1,o2,⟨some ti,.range ty (.tmp tm),y2,p2,f2,none⟩] M Post [o1,o2] fr st)
 (hpost:∀ fr st,Post fr st→∃ (m:Nat) (ag:Bool) (ks:List IntKind) (es:List (List Int×LV)) (I:List (List Int×LV)→Frm→St→Prop),fr tm=.mp m∧st.H m=.map ag ks es∧
   (∀ r,I es (upd fr ti (itr r)) (st.set m (.frz ag ks es)))∧
   (∀ r L1 p L2 fr st,I (L1++p::L2) fr st→fr ti=itr r→∀ J:Frm→St→Prop,(∀ fr' st',I (L1++L2) fr' st'→fr' ti=itr r→st'.H m=.frz ag ks es→J fr' st')→
     AOpsE P T N (⟨some te,.entry (.tmp ti),y5,p5,f5,none⟩::erest).toArray M (fun fr' st'=>AWp P N body (AK P N (mrQ P N Q k J nx b m (.frz ag ks es) fun st=>st.set m (.map ag ks es)) []) fr' st') erest (upd (upd (upd fr tn (.tu [.atom (.bool true),keyV ag ks p.1,p.2])) tc (.atom (.bool true))) te (.tu [keyV ag ks p.1,p.2])) st)∧
   (∀ fr st,I [] fr st→AK P N Q k .normal (upd (upd fr tn (.tu [.atom (.bool false)])) tc (.atom (.bool false))) (st.set m (.map ag ks es))))
 (hu:P.underlying ty=some (.map kt et)) (hti:ti < N:=by decide) (htn:tn < N:=by decide) (htc:tc < N:=by decide) (hte:te < N:=by decide) (hne:ti≠tn∧ti≠tc∧ti≠te:=by decide)
 (hkE:regOk N (⟨some te,.entry (.tmp ti),y5,p5,f5,none⟩::erest).toArray erest=true:=by exact rfl) (hkP:regOk N #[o1,o2,⟨some ti,.range ty (.tmp tm),y2,p2,f2,none⟩] [o1,o2]=true:=by exact rfl):
 AWp P N (.seq (.region ra #[o1,o2,⟨some ti,.range ty (.tmp tm),y2,p2,f2,none⟩] false) (.block b (.loop (.seq (.region rn #[⟨some tn,.next (.tmp ti) false,y3,p3,f3,none⟩,⟨some tc,.extract (.tmp tn) 0,y4,p4,f4,none⟩] false) (.seq (.cond (.tmp tc) .skip (.exit b)) (.block nx (.seq (.region re (⟨some te,.entry (.tmp ti),y5,p5,f5,none⟩::erest).toArray false) body))))))) (AK P N Q k) fr st:=by
 intro a w00 g00 hi0 hr0 hsz0 hdf0
 refine wp_seq (wp_region_list ?_)
 have h1:=aops_ofE hT hkP hpre a w00 g00 hi0 hr0 hsz0 hdf0
 refine wpList_append (rest:=[⟨some ti,.range ty (.tmp tm),y2,p2,f2,none⟩]) ?_ ?_ [o1,o2] a w00 h1
 rotate_left
 ·rintro e a w he ⟨fr1,st1,g1,⟨rfl,_⟩,_⟩
  exact absurd rfl he
 rintro a w0 ⟨fr,st,g0,⟨_,hPo⟩,hi,hr,hsz,hdf,hext⟩
 obtain ⟨m,ag,ks,es,I,hx,hm,h0,hs,he⟩:=hpost fr st hPo
 obtain ⟨hnl,hlen,ents,clock,h3,hkey,h5,h6,hborn⟩:=hi.mp m ag ks es hm
 have hll:es.length=ents.length:=by have:=congrArg List.length hkey;simpa using this.symm
 have hv:a.eval (.tmp tm)=.map (some (g0.β m)):=by
  have h:=rep_eval hr (.tmp tm)
  simp only [evalL,hx,Rep] at h
  exact h.1
 have hml:m < g0.next:=hi.map_lt hm
 have hrun:=run_range_map (P:=P) w0 ty kt et (g0.β m) ents.toArray clock hu h3
 refine wpList_one rfl (v:=.pointer (some ⟨w0.heap.size,0,none⟩)) (w':=w0.alloc (.mapIter (some (g0.β m)) clock #[] clock)) (by simp [execOp,hv,hrun]) ?_
 refine wpList_nil ?_
 simp only [Exit.then]
 refine Code.wp_mono (fun _ _ _ p=>p.pre hext) (Q:=APost N (AK P N Q k) w0 g0) ?_
 refine wp_block (wp_loop_rounds (es.length+1) ?_)
 obtain ⟨g1,hM,hR⟩:=MrS.start hi hm h3 h5 h6 hlen hkey hborn
 have hs2:ti < a.tmps.size:=by omega
 have hml1:m < g1.next:=hM.lt
 have hr1:RepF (w0.alloc (.mapIter (some (g0.β m)) clock #[] clock)) g1 (a.put (some ti) (.pointer (some ⟨w0.heap.size,0,none⟩))) (upd fr ti (itr w0.heap.size)):=
  (hr.monoR hR).put hs2 (by simp only [Rep])
 refine rounds_mapRange (.inl rfl) hT M I hlen hkey hborn hti htn htc hte hne hkE (hs w0.heap.size) he es.length _ _ g1 _ (st.set m (.frz ag ks es)) #[] (by rw [lft_start hll];exact Nat.le_refl _) hM hr1 (by rw [put_size];exact hsz) (by rw [put_defers];exact hdf) (by simp [upd]) (by rw [lft_start hll];exact h0 _)
end
end Go.Proofs.YtiiejclelbilkaaGreatDoor.Aw
