/- Ranging over a map: the rule for the loop. No program is named here. -/
import Derived.Test.YtbgngpdonpeboaaGreatDoorAwMr3
set_option linter.unusedVariables false
set_option linter.unusedSimpArgs false
namespace Go.Proofs.YtbgngpdonpeboaaGreatDoor
namespace Aw
open Go Go.RowKit
open Go.ChangeMaps (setBlock)
theorem eval_put(a:Act){d:Nat}(hd:d<a.tmps.size)(v:Value):(a.put (some d) v).eval (.tmp d)=v:=by simp[Act.eval,Act.put,aCD,hd]
theorem Iu{w:World}{g:G}:∀ {es:List (List Int×LV)} {cO:List MapEntry},aC w g (es.map (·.2)) (cO.map (·.val))->∀ q∈es.zip cO,Rep w g q.1.2 q.2.val
 |[],_,_,q,hq=>by simp_all
 |x::es,[],h,q,hq=>by simp_all
 |x::es,e::cO,h,q,hq=>by
  simp only[aAm,aC]at h;obtain⟨v,vs,h1,h2,h3⟩:=h;simp only[aBw]at h1;obtain⟨rfl,rfl⟩:=h1;rw[List.zip_cons_cons]at hq;rcases aAe.1 hq with rfl|hq
  .omega
  .exact Iu h3 q hq
section
variable {P:Program} {T:Tab} {N:Nat} {Q:AQ} {k:List gO}
theorem zD{x:Option Nat}(hx:x=some 0\/x=none)(hT:aZ P T){w0:World}{g0:G}{rn re b nx:Nat}{ti tn tc te:Nat}{y3 y4 y5:TypeId}{p3 p4 p5:String}{f3 f4 f5:Array Edge}{body:Code}{T9:List Oper}(M:List Nat)
 {m b0 r:Nat} {ag:Bool} {ks:List IntKind} {es:List (List Int×LV)} {cO:List MapEntry} {clock:Nat} (I:List (List Int×LV)->Frm->St->Prop)
 (hlen:∀ p∈es,p.1.length=ks.length) (N8:cO.map (·.key)=es.map fun p=>mkV ag ks p.1) (T5:(∀ x∈cO,x.born<clock)/\(cO.map (·.born)).Nodup)
 (hti:ti<N) (htn:tn<N) (htc:tc<N) (Q8:te<N) (c7:ti≠tn/\ti≠tc/\ti≠te)
 (hkE:cV N (⟨some te,.entry (.tmp ti),y5,p5,f5,none⟩::T9).toArray T9=true)
 (hs:∀ L1 p L2 fr st,I (L1++p::L2) fr st->fr ti=itr r->∀ J:Frm->St->Prop,(∀ c8 st',I (L1++L2) c8 st'->c8 ti=itr r->st'.H m=.frz ag ks es->J c8 st')->
   cM P T N (⟨some te,.entry (.tmp ti),y5,p5,f5,none⟩::T9).toArray M (fun c8 st'=>AWp P N body (AK P N (mrQ P N Q k J nx b m (.frz ag ks es) (bkS x m (.map ag ks es))) []) c8 st') T9 (upd (upd (upd fr tn (.tu [.atom (.bool true),Fz ag ks p.1,p.2])) tc (.atom (.bool true))) te (.tu [Fz ag ks p.1,p.2])) st)
 (he:∀ fr st,I [] fr st->AK P N Q k .normal (upd (upd fr tn (.tu [.atom (.bool false)])) tc (.atom (.bool false))) (bkS x m (.map ag ks es) st)):
 ∀(n:Nat) (a:Act) (w:World) (g:G) (fr:Frm) (st:St) (seen:Array Nat),(lft es cO seen).length<=n->MrS x w0 g0 m b0 r ag ks es cO clock w g st seen->dX w g a fr->a.tmps.size=N->a.defers=[]->fr ti=itr r->I (lft es cO seen) fr st->
  Code.rounds P (.seq (.region rn #[⟨some tn,.next (.tmp ti) false,y3,p3,f3,none⟩,⟨some tc,.extract (.tmp tn) 0,y4,p4,f4,none⟩] false) (.seq (.cond (.tmp tc) .skip (.exit b)) (.block nx (.seq (.region re (⟨some te,.entry (.tmp ti),y5,p5,f5,none⟩::T9).toArray false) body)))) (Exit.inBlock b (lU N (AK P N Q k) w0 g0)) (n+1) a w:=by
 have hll:es.length=cO.length:=by have:=congrArg List.length N8;simpa using this.symm
 intro n;induction n using Nat.strongRecOn with
 |ind n ih=>
 intro a w g fr st seen hn hM hr U0 hdf hfi hI;have hti':a.eval (.tmp ti)=.pointer (some ⟨r,0,none⟩):=by have h:=aD hr (.tmp ti);simp only[aH,hfi,Rep]at h;exact h
 rw[rounds_succ];refine wp_seq (wp_region_list ?_);obtain⟨c,hc,hit⟩:=hM.it;rcases run_next_at (P:=P) w y3 r b0 clock c seen cO.toArray clock hit hM.map (fun x hx=>T5.1 x oO) hc with⟨h0,o9⟩|⟨e,he',w1,R6,o9⟩
 .have u9:lft es cO seen=[]:=Ik fun x hx=>all_seen cO.toArray seen h0 x oO;rw[u9]at hI;refine fW rfl (v:=.tuple #[.bool false]) (w':=w) (by simp[execOp,hti',o9]) ?_;have hs1:tn<a.tmps.size:=oO;refine fW rfl (v:=.bool false) (w':=w) (by simp[execOp,eval_put a hs1,Instr.extract]) ?_;refine wpList_nil ?_;simp only[Exit.then];have hs2:tc<(a.put (some tn) (.tuple #[.bool false])).tmps.size:=by rw[cF];omega
  refine wp_seq (wp_cond_split (t:=false) (eval_put _ hs2 _) (fun h=>by cases h) (fun _=>wp_exit ?_));simp only[Exit.then,Exit.inBlock,aBs]
  have hr2:dX w g ((a.put (some tn) (.tuple #[.bool false])).put (some tc) (.bool false)) (upd (upd fr tn (.tu [.atom (.bool false)])) tc (.atom (.bool false))):=
   (hr.put hs1 (by grind [Rep,aC])).put hs2 (by grind [Rep])
  obtain⟨h1,h2,h3⟩:=hM.out hx hlen N8 T5 hr2;exact⟨_,_,_,he fr st hI,h1,h2,by grind [cF],by grind [put_defers],h3⟩
 .obtain⟨Z8,he2⟩:=mem_left he';have Z8:e∈cO:=by simpa using Z8
  obtain⟨p,L1,L2,hL,hL',S4⟩:=HU hll T5.2 Z8 he2;rw[hL]at hI hn;simp only[aAn,List.length_cons]at hn;obtain⟨n',rfl⟩:∃ n',n=n'+1:=⟨n-1,oO⟩;obtain⟨Y4,hR2⟩:=hM.turn R6 e.born;have hr2:=hr.monoR hR2
  have hrunE:=run_entry_at (P:=P) (setBlock w1 r (.mapIter (some b0) clock (seen.push e.born) clock)) r b0 clock seen cO.toArray clock e
   (by obtain⟨c',_,h⟩:=Y4.it;grind [setBlock]) Y4.map oO (by grind)
  have hkeyE:e.key=mkV ag ks p.1:=by
   have h1:(es.zip cO).map (fun q=>q.2.key)=(es.zip cO).map fun q=>mkV ag ks q.1.1:=by
    have e1:(es.zip cO).map (fun q=>q.2.key)=cO.map (·.key):=by
     have:(es.zip cO).map (fun q=>q.2.key)=((es.zip cO).map (·.2)).map (·.key):=by rw[aAW];rfl
     rw[this,aDI oO]
    have e2:((es.zip cO).map fun q=>mkV ag ks q.1.1)=es.map fun q=>mkV ag ks q.1:=by
     have:((es.zip cO).map fun q=>mkV ag ks q.1.1)=((es.zip cO).map (·.1)).map fun q=>mkV ag ks q.1:=by rw[aAW];rfl
     rw[this,aEe oO]
    rw[e1,e2,N8]
   exact(List.map_inj_left.1 h1) (p,e) S4
  have hvalE:∀ w g,aC w g (es.map (·.2)) (cO.map (·.val))->Rep w g p.2 e.val:=fun w g h=>Iu h _ S4;generalize N9:setBlock w1 r (.mapIter (some b0) clock (seen.push e.born) clock)=w2 at *;refine fW rfl (v:=.tuple #[.bool true,e.key,e.val]) (w':=w2) (by simp[execOp,hti',o9]) ?_;have hs1:tn<a.tmps.size:=oO;refine fW rfl (v:=.bool true) (w':=w2) (by simp[execOp,eval_put a hs1,Instr.extract]) ?_;refine wpList_nil ?_;simp only[Exit.then];have hs2:tc<(a.put (some tn) (.tuple #[.bool true,e.key,e.val])).tmps.size:=by rw[cF];omega
  refine wp_seq (wp_cond_split (t:=true) (eval_put _ hs2 _) (fun _=>wp_skip ?_) (fun h=>by cases h));simp only[Exit.then];refine wp_block (wp_seq (wp_region_list ?_));have hs3:te<((a.put (some tn) (.tuple #[.bool true,e.key,e.val])).put (some tc) (.bool true)).tmps.size:=by rw[cF,cF];omega
  have hke:=UM w2 g ag ks p.1;rw[<- hkeyE]at hke;have hve:=hvalE w2 g Y4.vals
  have hr3:dX w2 g (((a.put (some tn) (.tuple #[.bool true,e.key,e.val])).put (some tc) (.bool true)).put (some te) (.tuple #[e.key,e.val])) (upd (upd (upd fr tn (.tu [.atom (.bool true),Fz ag ks p.1,p.2])) tc (.atom (.bool true))) te (.tu [Fz ag ks p.1,p.2])):=
   ((hr2.put hs1 (by grind [Rep,aC])).put hs2 (by grind [Rep])).put hs3 (by grind [Rep,aC])
  refine fW rfl (v:=.tuple #[e.key,e.val]) (w':=w2) ?_ ?_
  .have hit2:((a.put (some tn) (.tuple #[.bool true,e.key,e.val])).put (some tc) (.bool true)).eval (.tmp ti)=.pointer (some ⟨r,0,none⟩):=by have h:=aD ((hr2.put hs1 (v:=.tuple #[.bool true,e.key,e.val]) (lv:=.dead) (by grind [Rep])).put hs2 (v:=.bool true) (lv:=.dead) (by grind [Rep])) (.tmp ti);simp only[aH,upd,aAa c7.1,aAa c7.2.1,hfi,Rep]at h;exact h
   simp[execOp,hit2,hrunE]
  have hA:=mH (N:=N) (M:=M) hT (Q:=fun e c8 st'=>e=.normal/\AWp P N body (AK P N (mrQ P N Q k (fun c8 st'=>I (L1++L2) c8 st'/\c8 ti=itr r/\st'.H m=.frz ag ks es) nx b m (.frz ag ks es) (bkS x m (.map ag ks es))) []) c8 st') (fun _ _ h=>⟨rfl,h⟩) T9 _ _ hkE (hs L1 p L2 fr st hI hfi (fun c8 st'=>I (L1++L2) c8 st'/\c8 ti=itr r/\st'.H m=.frz ag ks es) fun _ _ h1 h2 h3=>⟨h1,h2,h3⟩);refine dO ?_ _ _ _ (hA _ w2 g Y4.inv hr3 (by grind [cF]) (by grind [put_defers]));rintro e' a' w' ⟨c8,st',g',⟨rfl,hB⟩,M4,T0,hs',Q6,U9⟩;simp only[Exit.then];refine Code.wp_mono ?_ (hB a' w' g' M4 T0 hs' Q6);rintro e'' a'' w'' ⟨fr'',st'',g'',hq,hi'',hr'',hs'',hd'',hx''⟩
  have hgo:I (L1++L2) fr'' st''/\fr'' ti=itr r/\st''.H m=.frz ag ks es->Code.rounds P (.seq (.region rn #[⟨some tn,.next (.tmp ti) false,y3,p3,f3,none⟩,⟨some tc,.extract (.tmp tn) 0,y4,p4,f4,none⟩] false) (.seq (.cond (.tmp tc) .skip (.exit b)) (.block nx (.seq (.region re (⟨some te,.entry (.tmp ti),y5,p5,f5,none⟩::T9).toArray false) body)))) (Exit.inBlock b (lU N (AK P N Q k) w0 g0)) (n'+1) a'' w'':=fun⟨h1,h2,h3⟩=>
   ih n' oO a'' w'' g'' fr'' st'' (seen.push e.born) (by grind) (Y4.step (U9.trans hx'') hi'' h3) hr'' hs'' hd'' h2 (by grind)
  have M0:∀ e,st''.H m=.frz ag ks es/\AK P N Q k e fr'' (bkS x m (.map ag ks es) st'')->lU N (AK P N Q k) w0 g0 e a'' w'':=fun e h=>by obtain⟨h1,h2,h3⟩:=(Y4.step (U9.trans hx'') hi'' h.1).out hx hlen N8 T5 hr'';exact⟨_,_,_,h.2,h1,h2,hs'',hd'',h3⟩
  cases e'' with
  |normal=>exact hgo hq
  |exit i=>
   have hq':(if i=nx then(I (L1++L2) fr'' st''/\fr'' ti=itr r/\st''.H m=.frz ag ks es)else if i=b then st''.H m=.frz ag ks es/\AK P N Q k .normal fr'' (bkS x m (.map ag ks es) st'')else st''.H m=.frz ag ks es/\AK P N Q k (.exit i) fr'' (bkS x m (.map ag ks es) st'')):=hq
   grind [Exit.inBlock,Exit.then]
  |_=>exact M0 _ hq
theorem FM(hT:aZ P T){fr:Frm}{st:St}{ra rn re b nx:Nat}{tx tm ti tn tc te:Nat}{ty kt et y1 y2 y3 y4 y5:TypeId}{p1 p2 p3 p4 p5:String}{f1 f2 f3 f4 f5:Array Edge}{body:Code}{T9:List Oper}(M:List Nat)
 {m:Nat} {ag:Bool} {ks:List IntKind} {es:List (List Int×LV)} (I:List (List Int×LV)->Frm->St->Prop)
 (hx:fr tx=.mp m) (hm:st.H m=.map ag ks es)
 (h0:∀ r,I es (upd (upd fr tm (.mp m)) ti (itr r)) (st.set m (.frz ag ks es)))
 (hs:∀ r L1 p L2 fr st,I (L1++p::L2) fr st->fr ti=itr r->∀ J:Frm->St->Prop,(∀ c8 st',I (L1++L2) c8 st'->c8 ti=itr r->st'.H m=.frz ag ks es->J c8 st')->
   cM P T N (⟨some te,.entry (.tmp ti),y5,p5,f5,none⟩::T9).toArray M (fun c8 st'=>AWp P N body (AK P N (mrQ P N Q k J nx b m (.frz ag ks es) fun st=>st.set m (.map ag ks es)) []) c8 st') T9 (upd (upd (upd fr tn (.tu [.atom (.bool true),Fz ag ks p.1,p.2])) tc (.atom (.bool true))) te (.tu [Fz ag ks p.1,p.2])) st)
 (he:∀ fr st,I [] fr st->AK P N Q k .normal (upd (upd fr tn (.tu [.atom (.bool false)])) tc (.atom (.bool false))) (st.set m (.map ag ks es)))
 (hu:P.underlying ty=some (.map kt et)) (htm:tm<N:=by decide) (hti:ti<N:=by decide) (htn:tn<N:=by decide) (htc:tc<N:=by decide) (Q8:te<N:=by decide) (c7:ti≠tn/\ti≠tc/\ti≠te:=by decide)
 (hkE:cV N (⟨some te,.entry (.tmp ti),y5,p5,f5,none⟩::T9).toArray T9=true:=by exact rfl):
 AWp P N (.seq (.region ra #[⟨some tm,.move (.tmp tx),y1,p1,f1,none⟩,⟨some ti,.range ty (.tmp tm),y2,p2,f2,none⟩] false) (.block b (.loop (.seq (.region rn #[⟨some tn,.next (.tmp ti) false,y3,p3,f3,none⟩,⟨some tc,.extract (.tmp tn) 0,y4,p4,f4,none⟩] false) (.seq (.cond (.tmp tc) .skip (.exit b)) (.block nx (.seq (.region re (⟨some te,.entry (.tmp ti),y5,p5,f5,none⟩::T9).toArray false) body))))))) (AK P N Q k) fr st:=by
 intro a w0 g0 hi hr U0 hdf;obtain⟨r9,hlen,cO,clock,h3,N8,h5,h6,T5⟩:=hi.mp m ag ks es hm;have hll:es.length=cO.length:=by have:=congrArg List.length N8;simpa using this.symm
 have hv:a.eval (.tmp tx)=.map (some (g0.β m)):=by have h:=aD hr (.tmp tx);simp only[aH,hx,Rep]at h;exact h.1
 have Q7:m<g0.next:=hi.map_lt hm;refine wp_seq (wp_region_list ?_);refine fW rfl (v:=.map (some (g0.β m))) (w':=w0) (by simp[execOp,hv]) ?_;have hs1:tm<a.tmps.size:=oO;have o9:=run_range_map (P:=P) w0 ty kt et (g0.β m) cO.toArray clock hu h3;refine fW rfl (v:=.pointer (some ⟨w0.heap.size,0,none⟩)) (w':=w0.alloc (.mapIter (some (g0.β m)) clock #[] clock)) (by simp[execOp,eval_put a hs1,o9]) ?_;refine wpList_nil ?_;simp only[Exit.then];refine wp_block (wp_loop_rounds (es.length+1) ?_);obtain⟨g1,hM,hR⟩:=MrS.start hi hm h3 h5 h6 hlen N8 T5;have hs2:ti<(a.put (some tm) (.map (some (g0.β m)))).tmps.size:=by rw[cF];omega
 have hml1:m<g1.next:=hM.lt
 have hr1:dX (w0.alloc (.mapIter (some (g0.β m)) clock #[] clock)) g1 ((a.put (some tm) (.map (some (g0.β m)))).put (some ti) (.pointer (some ⟨w0.heap.size,0,none⟩))) (upd (upd fr tm (.mp m)) ti (itr w0.heap.size)):=
  ((hr.monoR hR).put hs1 (by simp only[Rep];exact⟨by rw[hM.β],hml1⟩)).put hs2 (by grind [Rep])
 refine zD (.inl rfl) hT M I hlen N8 T5 hti htn htc Q8 c7 hkE (hs w0.heap.size) he es.length _ _ g1 _ (st.set m (.frz ag ks es)) #[] (by grind [xB]) hM hr1 (by grind [cF]) (by grind [put_defers]) (by simp[upd]) (by grind [xB])
end
end Aw
end Go.Proofs.YtbgngpdonpeboaaGreatDoor
