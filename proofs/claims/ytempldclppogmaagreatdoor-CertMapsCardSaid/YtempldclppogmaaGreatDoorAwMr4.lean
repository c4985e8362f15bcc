/- Ranging over a map: the rule for the loop. No program is named here. -/
import Derived.Test.YtempldclppogmaaGreatDoorAwMr3
set_option linter.unusedVariables false
set_option linter.unusedSimpArgs false
namespace Go.Proofs.YtempldclppogmaaGreatDoor.Aw
open Go Go.RowKit
open Go.ChangeMaps (setBlock)
theorem eval_put(a:Act){d:Nat}(hd:d<a.tmps.size)(v:Value):(a.put (some d) v).eval (.tmp d)=v:=by
 simp[Act.eval,Act.put,Array.getD_eq_getD_getElem?,hd]
theorem aCM{w:World}{g:G}:∀ {es:List (List Int×LV)} {ents:List MapEntry},aG w g (es.map (·.2)) (ents.map (·.val))→∀ q∈es.zip ents,Rep w g q.1.2 q.2.val
 |[],_,_,q,hq=>by simp at hq
 |x::es,[],h,q,hq=>by simp at hq
 |x::es,e::ents,h,q,hq=>by
  simp only[List.map_cons,aG]at h
  obtain⟨v,vs,h1,h2,h3⟩:=h
  simp only[List.cons.injEq]at h1
  obtain⟨rfl,rfl⟩:=h1
  rw[List.zip_cons_cons]at hq
  rcases List.mem_cons.1 hq with rfl|hq
  ·exact h2
  ·exact aCM h3 q hq
section
variable {P:Program} {T:Tab} {N:Nat} {Q:AQ} {k:List eM}
theorem tU{x:Option Nat}(hx:x=some 0∨x=none)(hT:bC P T){w0:World}{g0:G}{rn re b nx:Nat}{ti tn tc te:Nat}{y3 y4 y5:TypeId}{p3 p4 p5:String}{f3 f4 f5:Array Edge}{body:Code}{erest:List Oper}(M:List Nat)
 {m b0 r:Nat} {ag:Bool} {ks:List IntKind} {es:List (List Int×LV)} {ents:List MapEntry} {clock:Nat} (I:List (List Int×LV)→Frm→St→Prop)
 (hlen:∀ p∈es,p.1.length=ks.length) (hkey:ents.map (·.key)=es.map fun p=>mkV ag ks p.1) (hborn:(∀ x∈ents,x.born<clock)∧(ents.map (·.born)).Nodup)
 (hti:ti<N) (htn:tn<N) (htc:tc<N) (hte:te<N) (hne:ti≠tn∧ti≠tc∧ti≠te)
 (hkE:cE N (⟨some te,.entry (.tmp ti),y5,p5,f5,none⟩::erest).toArray erest=true)
 (hs:∀ L1 p L2 fr st,I (L1++p::L2) fr st→fr ti=itr r→∀ J:Frm→St→Prop,(∀ fr' st',I (L1++L2) fr' st'→fr' ti=itr r→st'.H m=.frz ag ks es→J fr' st')→
   cD P T N (⟨some te,.entry (.tmp ti),y5,p5,f5,none⟩::erest).toArray M (fun fr' st'=>AWp P N body (AK P N (mrQ P N Q k J nx b m (.frz ag ks es) (bkS x m (.map ag ks es))) []) fr' st') erest (upd (upd (upd fr tn (.tu [.atom (.bool true),aBv ag ks p.1,p.2])) tc (.atom (.bool true))) te (.tu [aBv ag ks p.1,p.2])) st)
 (he:∀ fr st,I [] fr st→AK P N Q k .normal (upd (upd fr tn (.tu [.atom (.bool false)])) tc (.atom (.bool false))) (bkS x m (.map ag ks es) st)):
 ∀(n:Nat) (a:Act) (w:World) (g:G) (fr:Frm) (st:St) (seen:Array Nat),(lft es ents seen).length≤n→MrS x w0 g0 m b0 r ag ks es ents clock w g st seen→bS w g a fr→a.tmps.size=N→a.defers=[]→fr ti=itr r→I (lft es ents seen) fr st→
  Code.rounds P (.seq (.region rn #[⟨some tn,.next (.tmp ti) false,y3,p3,f3,none⟩,⟨some tc,.extract (.tmp tn) 0,y4,p4,f4,none⟩] false) (.seq (.cond (.tmp tc) .skip (.exit b)) (.block nx (.seq (.region re (⟨some te,.entry (.tmp ti),y5,p5,f5,none⟩::erest).toArray false) body)))) (Exit.inBlock b (iI N (AK P N Q k) w0 g0)) (n+1) a w:=by
 have hll:es.length=ents.length:=by have:=congrArg List.length hkey;simpa using this.symm
 intro n
 induction n using Nat.strongRecOn with
 |ind n ih=>
 intro a w g fr st seen hn hM hr hsz hdf hfi hI
 have hti':a.eval (.tmp ti)=.pointer (some ⟨r,0,none⟩):=by
  have h:=aD hr (.tmp ti)
  simp only[aH,hfi,Rep]at h
  exact h
 rw[rounds_succ]
 refine wp_seq (wp_region_list ?_)
 obtain⟨c,hc,hit⟩:=hM.it
 rcases run_next_at (P:=P) w y3 r b0 clock c seen ents.toArray clock hit hM.map (fun x hx=>hborn.1 x (by simpa using hx)) hc with⟨h0,hrun⟩|⟨e,he',w1,hw1,hrun⟩
 ·have hnil:lft es ents seen=[]:=aCe fun x hx=>all_seen ents.toArray seen h0 x (by simpa using hx)
  rw[hnil]at hI
  refine eH rfl (v:=.tuple #[.bool false]) (w':=w) (by simp[execOp,hti',hrun]) ?_
  have hs1:tn<a.tmps.size:=oO
  refine eH rfl (v:=.bool false) (w':=w) (by simp[execOp,eval_put a hs1,Instr.extract]) ?_
  refine wpList_nil ?_
  simp only[Exit.then]
  have hs2:tc<(a.put (some tn) (.tuple #[.bool false])).tmps.size:=by rw[aT];omega
  refine wp_seq (wp_cond_split (t:=false) (eval_put _ hs2 _) (fun h=>by cases h) (fun _=>wp_exit ?_))
  simp only[Exit.then,Exit.inBlock,if_true]
  have hr2:bS w g ((a.put (some tn) (.tuple #[.bool false])).put (some tc) (.bool false)) (upd (upd fr tn (.tu [.atom (.bool false)])) tc (.atom (.bool false))):=
   (hr.put hs1 (by simp only[Rep,aG];exact⟨[.bool false],rfl,.bool false,[],rfl,rfl,rfl⟩)).put hs2 (by simp only[Rep])
  obtain⟨h1,h2,h3⟩:=hM.out hx hlen hkey hborn hr2
  exact⟨_,_,_,he fr st hI,h1,h2,by rw[aT,aT];exact hsz,by rw[put_defers,put_defers];exact hdf,h3⟩
 ·obtain⟨he1,he2⟩:=mem_left he'
  have he1:e∈ents:=by simpa using he1
  obtain⟨p,L1,L2,hL,hL',hpe⟩:=aDw hll hborn.2 he1 he2
  rw[hL]at hI hn
  simp only[List.length_append,List.length_cons]at hn
  obtain⟨n',rfl⟩:∃ n',n=n'+1:=⟨n-1,oO⟩
  obtain⟨hM2,hR2⟩:=hM.turn hw1 e.born
  have hr2:=hr.monoR hR2
  have hrunE:=run_entry_at (P:=P) (setBlock w1 r (.mapIter (some b0) clock (seen.push e.born) clock)) r b0 clock seen ents.toArray clock e
   (by obtain⟨c',_,h⟩:=hM2.it;have h2:=hM2.r0;exact sU _ _ _ (by have:=(Array.getElem?_eq_some_iff.1 h).1;simpa[setBlock]using this)) hM2.map (by simpa using he1) (by simpa using hborn.2)
  have hkeyE:e.key=mkV ag ks p.1:=by
   have h1:(es.zip ents).map (fun q=>q.2.key)=(es.zip ents).map fun q=>mkV ag ks q.1.1:=by
    have e1:(es.zip ents).map (fun q=>q.2.key)=ents.map (·.key):=by
     have:(es.zip ents).map (fun q=>q.2.key)=((es.zip ents).map (·.2)).map (·.key):=by rw[List.map_map];rfl
     rw[this,List.map_snd_zip oO]
    have e2:((es.zip ents).map fun q=>mkV ag ks q.1.1)=es.map fun q=>mkV ag ks q.1:=by
     have:((es.zip ents).map fun q=>mkV ag ks q.1.1)=((es.zip ents).map (·.1)).map fun q=>mkV ag ks q.1:=by rw[List.map_map];rfl
     rw[this,List.map_fst_zip oO]
    rw[e1,e2,hkey]
   exact(List.map_inj_left.1 h1) (p,e) hpe
  have hvalE:∀ w g,aG w g (es.map (·.2)) (ents.map (·.val))→Rep w g p.2 e.val:=fun w g h=>aCM h _ hpe
  generalize hw2:setBlock w1 r (.mapIter (some b0) clock (seen.push e.born) clock)=w2 at *
  refine eH rfl (v:=.tuple #[.bool true,e.key,e.val]) (w':=w2) (by simp[execOp,hti',hrun]) ?_
  have hs1:tn<a.tmps.size:=oO
  refine eH rfl (v:=.bool true) (w':=w2) (by simp[execOp,eval_put a hs1,Instr.extract]) ?_
  refine wpList_nil ?_
  simp only[Exit.then]
  have hs2:tc<(a.put (some tn) (.tuple #[.bool true,e.key,e.val])).tmps.size:=by rw[aT];omega
  refine wp_seq (wp_cond_split (t:=true) (eval_put _ hs2 _) (fun _=>wp_skip ?_) (fun h=>by cases h))
  simp only[Exit.then]
  refine wp_block (wp_seq (wp_region_list ?_))
  have hs3:te<((a.put (some tn) (.tuple #[.bool true,e.key,e.val])).put (some tc) (.bool true)).tmps.size:=by rw[aT,aT];omega
  have hke:=aMB w2 g ag ks p.1
  rw[← hkeyE]at hke
  have hve:=hvalE w2 g hM2.vals
  have hr3:bS w2 g (((a.put (some tn) (.tuple #[.bool true,e.key,e.val])).put (some tc) (.bool true)).put (some te) (.tuple #[e.key,e.val])) (upd (upd (upd fr tn (.tu [.atom (.bool true),aBv ag ks p.1,p.2])) tc (.atom (.bool true))) te (.tu [aBv ag ks p.1,p.2])):=
   ((hr2.put hs1 (by simp only[Rep,aG];exact⟨[.bool true,e.key,e.val],rfl,.bool true,_,rfl,rfl,e.key,_,rfl,hke,e.val,_,rfl,hve,rfl⟩)).put hs2 (by simp only[Rep])).put hs3 (by simp only[Rep,aG];exact⟨[e.key,e.val],rfl,e.key,_,rfl,hke,e.val,_,rfl,hve,rfl⟩)
  refine eH rfl (v:=.tuple #[e.key,e.val]) (w':=w2) ?_ ?_
  ·have hit2:((a.put (some tn) (.tuple #[.bool true,e.key,e.val])).put (some tc) (.bool true)).eval (.tmp ti)=.pointer (some ⟨r,0,none⟩):=by
    have h:=aD ((hr2.put hs1 (v:=.tuple #[.bool true,e.key,e.val]) (lv:=.dead) (by simp only[Rep])).put hs2 (v:=.bool true) (lv:=.dead) (by simp only[Rep])) (.tmp ti)
    simp only[aH,upd,if_neg hne.1,if_neg hne.2.1,hfi,Rep]at h
    exact h
   simp[execOp,hit2,hrunE]
  have hA:=iZ (N:=N) (M:=M) hT (Q:=fun e fr' st'=>e=.normal∧AWp P N body (AK P N (mrQ P N Q k (fun fr' st'=>I (L1++L2) fr' st'∧fr' ti=itr r∧st'.H m=.frz ag ks es) nx b m (.frz ag ks es) (bkS x m (.map ag ks es))) []) fr' st') (fun _ _ h=>⟨rfl,h⟩) erest _ _ hkE (hs L1 p L2 fr st hI hfi (fun fr' st'=>I (L1++L2) fr' st'∧fr' ti=itr r∧st'.H m=.frz ag ks es) fun _ _ h1 h2 h3=>⟨h1,h2,h3⟩)
  refine cW ?_ _ _ _ (hA _ w2 g hM2.inv hr3 (by rw[aT,aT,aT];exact hsz) (by rw[put_defers,put_defers,put_defers];exact hdf))
  rintro e' a' w' ⟨fr',st',g',⟨rfl,hB⟩,hi',hr',hs',hd',hx'⟩
  simp only[Exit.then]
  refine Code.wp_mono ?_ (hB a' w' g' hi' hr' hs' hd')
  rintro e'' a'' w'' ⟨fr'',st'',g'',hq,hi'',hr'',hs'',hd'',hx''⟩
  have hgo:I (L1++L2) fr'' st''∧fr'' ti=itr r∧st''.H m=.frz ag ks es→Code.rounds P (.seq (.region rn #[⟨some tn,.next (.tmp ti) false,y3,p3,f3,none⟩,⟨some tc,.extract (.tmp tn) 0,y4,p4,f4,none⟩] false) (.seq (.cond (.tmp tc) .skip (.exit b)) (.block nx (.seq (.region re (⟨some te,.entry (.tmp ti),y5,p5,f5,none⟩::erest).toArray false) body)))) (Exit.inBlock b (iI N (AK P N Q k) w0 g0)) (n'+1) a'' w'':=fun⟨h1,h2,h3⟩=>
   ih n' oO a'' w'' g'' fr'' st'' (seen.push e.born) (by rw[hL',List.length_append];omega) (hM2.step (hx'.trans hx'') hi'' h3) hr'' hs'' hd'' h2 (by rw[hL'];exact h1)
  have hout:∀ e,st''.H m=.frz ag ks es∧AK P N Q k e fr'' (bkS x m (.map ag ks es) st'')→iI N (AK P N Q k) w0 g0 e a'' w'':=fun e h=>by
   obtain⟨h1,h2,h3⟩:=(hM2.step (hx'.trans hx'') hi'' h.1).out hx hlen hkey hborn hr''
   exact⟨_,_,_,h.2,h1,h2,hs'',hd'',h3⟩
  cases e'' with
  |normal=>exact hgo hq
  |exit i=>
   have hq':(if i=nx then(I (L1++L2) fr'' st''∧fr'' ti=itr r∧st''.H m=.frz ag ks es)else if i=b then st''.H m=.frz ag ks es∧AK P N Q k .normal fr'' (bkS x m (.map ag ks es) st'')else st''.H m=.frz ag ks es∧AK P N Q k (.exit i) fr'' (bkS x m (.map ag ks es) st'')):=hq
   simp only[Exit.inBlock]
   by_cases h1:i=nx
   ·rw[if_pos h1]at hq' ⊢
    exact hgo hq'
   ·rw[if_neg h1]at hq' ⊢
    simp only[Exit.then,Exit.inBlock]
    by_cases h2:i=b
    ·rw[if_pos h2]at hq' ⊢;exact hout _ hq'
    ·rw[if_neg h2]at hq' ⊢;exact hout _ hq'
  |_=>exact hout _ hq
theorem aBf(hT:bC P T){fr:Frm}{st:St}{ra rn re b nx:Nat}{tx tm ti tn tc te:Nat}{ty kt et y1 y2 y3 y4 y5:TypeId}{p1 p2 p3 p4 p5:String}{f1 f2 f3 f4 f5:Array Edge}{body:Code}{erest:List Oper}(M:List Nat)
 {m:Nat} {ag:Bool} {ks:List IntKind} {es:List (List Int×LV)} (I:List (List Int×LV)→Frm→St→Prop)
 (hx:fr tx=.mp m) (hm:st.H m=.map ag ks es)
 (h0:∀ r,I es (upd (upd fr tm (.mp m)) ti (itr r)) (st.set m (.frz ag ks es)))
 (hs:∀ r L1 p L2 fr st,I (L1++p::L2) fr st→fr ti=itr r→∀ J:Frm→St→Prop,(∀ fr' st',I (L1++L2) fr' st'→fr' ti=itr r→st'.H m=.frz ag ks es→J fr' st')→
   cD P T N (⟨some te,.entry (.tmp ti),y5,p5,f5,none⟩::erest).toArray M (fun fr' st'=>AWp P N body (AK P N (mrQ P N Q k J nx b m (.frz ag ks es) fun st=>st.set m (.map ag ks es)) []) fr' st') erest (upd (upd (upd fr tn (.tu [.atom (.bool true),aBv ag ks p.1,p.2])) tc (.atom (.bool true))) te (.tu [aBv ag ks p.1,p.2])) st)
 (he:∀ fr st,I [] fr st→AK P N Q k .normal (upd (upd fr tn (.tu [.atom (.bool false)])) tc (.atom (.bool false))) (st.set m (.map ag ks es)))
 (hu:P.underlying ty=some (.map kt et)) (htm:tm<N:=by decide) (hti:ti<N:=by decide) (htn:tn<N:=by decide) (htc:tc<N:=by decide) (hte:te<N:=by decide) (hne:ti≠tn∧ti≠tc∧ti≠te:=by decide)
 (hkE:cE N (⟨some te,.entry (.tmp ti),y5,p5,f5,none⟩::erest).toArray erest=true:=by exact rfl):
 AWp P N (.seq (.region ra #[⟨some tm,.move (.tmp tx),y1,p1,f1,none⟩,⟨some ti,.range ty (.tmp tm),y2,p2,f2,none⟩] false) (.block b (.loop (.seq (.region rn #[⟨some tn,.next (.tmp ti) false,y3,p3,f3,none⟩,⟨some tc,.extract (.tmp tn) 0,y4,p4,f4,none⟩] false) (.seq (.cond (.tmp tc) .skip (.exit b)) (.block nx (.seq (.region re (⟨some te,.entry (.tmp ti),y5,p5,f5,none⟩::erest).toArray false) body))))))) (AK P N Q k) fr st:=by
 intro a w0 g0 hi hr hsz hdf
 obtain⟨hnl,hlen,ents,clock,h3,hkey,h5,h6,hborn⟩:=hi.mp m ag ks es hm
 have hll:es.length=ents.length:=by have:=congrArg List.length hkey;simpa using this.symm
 have hv:a.eval (.tmp tx)=.map (some (g0.β m)):=by
  have h:=aD hr (.tmp tx)
  simp only[aH,hx,Rep]at h
  exact h.1
 have hml:m<g0.next:=hi.map_lt hm
 refine wp_seq (wp_region_list ?_)
 refine eH rfl (v:=.map (some (g0.β m))) (w':=w0) (by simp[execOp,hv]) ?_
 have hs1:tm<a.tmps.size:=oO
 have hrun:=run_range_map (P:=P) w0 ty kt et (g0.β m) ents.toArray clock hu h3
 refine eH rfl (v:=.pointer (some ⟨w0.heap.size,0,none⟩)) (w':=w0.alloc (.mapIter (some (g0.β m)) clock #[] clock)) (by simp[execOp,eval_put a hs1,hrun]) ?_
 refine wpList_nil ?_
 simp only[Exit.then]
 refine wp_block (wp_loop_rounds (es.length+1) ?_)
 obtain⟨g1,hM,hR⟩:=MrS.start hi hm h3 h5 h6 hlen hkey hborn
 have hs2:ti<(a.put (some tm) (.map (some (g0.β m)))).tmps.size:=by rw[aT];omega
 have hml1:m<g1.next:=hM.lt
 have hr1:bS (w0.alloc (.mapIter (some (g0.β m)) clock #[] clock)) g1 ((a.put (some tm) (.map (some (g0.β m)))).put (some ti) (.pointer (some ⟨w0.heap.size,0,none⟩))) (upd (upd fr tm (.mp m)) ti (itr w0.heap.size)):=
  ((hr.monoR hR).put hs1 (by simp only[Rep];exact⟨by rw[hM.β],hml1⟩)).put hs2 (by simp only[Rep])
 refine tU (.inl rfl) hT M I hlen hkey hborn hti htn htc hte hne hkE (hs w0.heap.size) he es.length _ _ g1 _ (st.set m (.frz ag ks es)) #[] (by rw[rV hll];exact Nat.le_refl _) hM hr1 (by rw[aT,aT];exact hsz) (by rw[put_defers,put_defers];exact hdf) (by simp[upd]) (by rw[rV hll];exact h0 _)
end
end Go.Proofs.YtempldclppogmaaGreatDoor.Aw
