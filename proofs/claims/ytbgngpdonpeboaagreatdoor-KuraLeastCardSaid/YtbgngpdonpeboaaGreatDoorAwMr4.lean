/- Ranging over a map: the rule for the loop. No program is named here. -/
import Derived.Test.YtbgngpdonpeboaaGreatDoorAwMr3
set_option linter.unusedVariables false
set_option linter.unusedSimpArgs false
namespace Go.Proofs.YtbgngpdonpeboaaGreatDoor
namespace Aw
open Go Go.RowKit
open Go.ChangeMaps (setBlock)
theorem eval_put(a:Act){d:Nat}(hd:d<a.tmps.size)(v:Value):(a.put (some d) v).eval (.tmp d)=v:=by simp[Act.eval,Act.put,aCA,hd]
theorem Hx{w:World}{g:G}:∀ {es:List (List Int×LV)} {cV:List MapEntry},aC w g (es.map (·.2)) (cV.map (·.val))->∀ q∈es.zip cV,Rep w g q.1.2 q.2.val
 |[],_,_,q,hq=>by simp_all
 |x::es,[],h,q,hq=>by simp_all
 |x::es,e::cV,h,q,hq=>by
  simp only[aAl,aC]at h;obtain⟨v,vs,h1,h2,h3⟩:=h;simp only[aBt]at h1;obtain⟨rfl,rfl⟩:=h1;rw[List.zip_cons_cons]at hq;rcases aAe.1 hq with rfl|hq
  .omega
  .exact Hx h3 q hq
section
variable {P:Program} {T:Tab} {N:Nat} {Q:AQ} {k:List gQ}
theorem yX{x:Option Nat}(hx:x=some 0\/x=none)(hT:aX P T){w0:World}{g0:G}{rn re b nx:Nat}{ti tn tc te:Nat}{y3 y4 y5:TypeId}{p3 p4 p5:String}{f3 f4 f5:Array Edge}{body:Code}{O2:List Oper}(M:List Nat)
 {m b0 r:Nat} {ag:Bool} {ks:List IntKind} {es:List (List Int×LV)} {cV:List MapEntry} {clock:Nat} (I:List (List Int×LV)->Frm->St->Prop)
 (hlen:∀ p∈es,p.1.length=ks.length) (J4:cV.map (·.key)=es.map fun p=>mkV ag ks p.1) (O5:(∀ x∈cV,x.born<clock)/\(cV.map (·.born)).Nodup)
 (hti:ti<N) (htn:tn<N) (htc:tc<N) (M5:te<N) (Zo:ti≠tn/\ti≠tc/\ti≠te)
 (hkE:cW N (⟨some te,.entry (.tmp ti),y5,p5,f5,none⟩::O2).toArray O2=true)
 (hs:∀ L1 p L2 fr st,I (L1++p::L2) fr st->fr ti=itr r->∀ J:Frm->St->Prop,(∀ c7 st',I (L1++L2) c7 st'->c7 ti=itr r->st'.H m=.frz ag ks es->J c7 st')->
   cM P T N (⟨some te,.entry (.tmp ti),y5,p5,f5,none⟩::O2).toArray M (fun c7 st'=>AWp P N body (AK P N (mrQ P N Q k J nx b m (.frz ag ks es) (bkS x m (.map ag ks es))) []) c7 st') O2 (upd (upd (upd fr tn (.tu [.atom (.bool true),GJ ag ks p.1,p.2])) tc (.atom (.bool true))) te (.tu [GJ ag ks p.1,p.2])) st)
 (he:∀ fr st,I [] fr st->AK P N Q k .normal (upd (upd fr tn (.tu [.atom (.bool false)])) tc (.atom (.bool false))) (bkS x m (.map ag ks es) st)):
 ∀(n:Nat) (a:Act) (w:World) (g:G) (fr:Frm) (st:St) (seen:Array Nat),(lft es cV seen).length<=n->MrS x w0 g0 m b0 r ag ks es cV clock w g st seen->eD w g a fr->a.tmps.size=N->a.defers=[]->fr ti=itr r->I (lft es cV seen) fr st->
  Code.rounds P (.seq (.region rn #[⟨some tn,.next (.tmp ti) false,y3,p3,f3,none⟩,⟨some tc,.extract (.tmp tn) 0,y4,p4,f4,none⟩] false) (.seq (.cond (.tmp tc) .skip (.exit b)) (.block nx (.seq (.region re (⟨some te,.entry (.tmp ti),y5,p5,f5,none⟩::O2).toArray false) body)))) (Exit.inBlock b (lJ N (AK P N Q k) w0 g0)) (n+1) a w:=by
 have hll:es.length=cV.length:=by have:=congrArg List.length J4;simpa using this.symm
 intro n;induction n using Nat.strongRecOn with
 |ind n ih=>
 intro a w g fr st seen hn hM hr O4 hdf hfi hI;have hti':a.eval (.tmp ti)=.pointer (some ⟨r,0,none⟩):=by have h:=aD hr (.tmp ti);simp only[aH,hfi,Rep]at h;exact h
 rw[rounds_succ];refine wp_seq (wp_region_list ?_);obtain⟨c,hc,hit⟩:=hM.it;rcases run_next_at (P:=P) w y3 r b0 clock c seen cV.toArray clock hit hM.map (fun x hx=>O5.1 x oO) hc with⟨h0,o6⟩|⟨e,he',w1,N5,o6⟩
 .have x7:lft es cV seen=[]:=GW fun x hx=>all_seen cV.toArray seen h0 x oO;rw[x7]at hI;refine gF rfl (v:=.tuple #[.bool false]) (w':=w) (by simp[execOp,hti',o6]) ?_;have Z6:tn<a.tmps.size:=oO;refine gF rfl (v:=.bool false) (w':=w) (by simp[execOp,eval_put a Z6,Instr.extract]) ?_;refine wpList_nil ?_;simp only[Exit.then];have X0:tc<(a.put (some tn) (.tuple #[.bool false])).tmps.size:=by rw[cC];omega
  refine wp_seq (wp_cond_split (t:=false) (eval_put _ X0 _) (fun h=>by cases h) (fun _=>wp_exit ?_));simp only[Exit.then,Exit.inBlock,aBq]
  have hr2:eD w g ((a.put (some tn) (.tuple #[.bool false])).put (some tc) (.bool false)) (upd (upd fr tn (.tu [.atom (.bool false)])) tc (.atom (.bool false))):=
   (hr.put Z6 (by grind [Rep,aC])).put X0 (by grind [Rep])
  obtain⟨h1,h2,h3⟩:=hM.out hx hlen J4 O5 hr2;exact⟨_,_,_,he fr st hI,h1,h2,by grind [cC],by grind [put_defers],h3⟩
 .obtain⟨he1,he2⟩:=mem_left he';have he1:e∈cV:=by simpa using he1
  obtain⟨p,L1,L2,hL,hL',N4⟩:=HC hll O5.2 he1 he2;rw[hL]at hI hn;simp only[aAn,List.length_cons]at hn;obtain⟨n',rfl⟩:∃ n',n=n'+1:=⟨n-1,oO⟩;obtain⟨Q7,hR2⟩:=hM.turn N5 e.born;have hr2:=hr.monoR hR2
  have hrunE:=run_entry_at (P:=P) (setBlock w1 r (.mapIter (some b0) clock (seen.push e.born) clock)) r b0 clock seen cV.toArray clock e
   (by obtain⟨c',_,h⟩:=Q7.it;grind [setBlock]) Q7.map oO (by grind)
  have hkeyE:e.key=mkV ag ks p.1:=by
   have h1:(es.zip cV).map (fun q=>q.2.key)=(es.zip cV).map fun q=>mkV ag ks q.1.1:=by
    have e1:(es.zip cV).map (fun q=>q.2.key)=cV.map (·.key):=by
     have:(es.zip cV).map (fun q=>q.2.key)=((es.zip cV).map (·.2)).map (·.key):=by rw[aAX];rfl
     rw[this,aDD oO]
    have e2:((es.zip cV).map fun q=>mkV ag ks q.1.1)=es.map fun q=>mkV ag ks q.1:=by
     have:((es.zip cV).map fun q=>mkV ag ks q.1.1)=((es.zip cV).map (·.1)).map fun q=>mkV ag ks q.1:=by rw[aAX];rfl
     rw[this,aEb oO]
    rw[e1,e2,J4]
   exact(List.map_inj_left.1 h1) (p,e) N4
  have hvalE:∀ w g,aC w g (es.map (·.2)) (cV.map (·.val))->Rep w g p.2 e.val:=fun w g h=>Hx h _ N4;generalize J9:setBlock w1 r (.mapIter (some b0) clock (seen.push e.born) clock)=w2 at *;refine gF rfl (v:=.tuple #[.bool true,e.key,e.val]) (w':=w2) (by simp[execOp,hti',o6]) ?_;have Z6:tn<a.tmps.size:=oO;refine gF rfl (v:=.bool true) (w':=w2) (by simp[execOp,eval_put a Z6,Instr.extract]) ?_;refine wpList_nil ?_;simp only[Exit.then];have X0:tc<(a.put (some tn) (.tuple #[.bool true,e.key,e.val])).tmps.size:=by rw[cC];omega
  refine wp_seq (wp_cond_split (t:=true) (eval_put _ X0 _) (fun _=>wp_skip ?_) (fun h=>by cases h));simp only[Exit.then];refine wp_block (wp_seq (wp_region_list ?_));have hs3:te<((a.put (some tn) (.tuple #[.bool true,e.key,e.val])).put (some tc) (.bool true)).tmps.size:=by rw[cC,cC];omega
  have hke:=UB w2 g ag ks p.1;rw[<- hkeyE]at hke;have hve:=hvalE w2 g Q7.vals
  have hr3:eD w2 g (((a.put (some tn) (.tuple #[.bool true,e.key,e.val])).put (some tc) (.bool true)).put (some te) (.tuple #[e.key,e.val])) (upd (upd (upd fr tn (.tu [.atom (.bool true),GJ ag ks p.1,p.2])) tc (.atom (.bool true))) te (.tu [GJ ag ks p.1,p.2])):=
   ((hr2.put Z6 (by grind [Rep,aC])).put X0 (by grind [Rep])).put hs3 (by grind [Rep,aC])
  refine gF rfl (v:=.tuple #[e.key,e.val]) (w':=w2) ?_ ?_
  .have hit2:((a.put (some tn) (.tuple #[.bool true,e.key,e.val])).put (some tc) (.bool true)).eval (.tmp ti)=.pointer (some ⟨r,0,none⟩):=by have h:=aD ((hr2.put Z6 (v:=.tuple #[.bool true,e.key,e.val]) (lv:=.dead) (by grind [Rep])).put X0 (v:=.bool true) (lv:=.dead) (by grind [Rep])) (.tmp ti);simp only[aH,upd,aAa Zo.1,aAa Zo.2.1,hfi,Rep]at h;exact h
   simp[execOp,hit2,hrunE]
  have hA:=lW (N:=N) (M:=M) hT (Q:=fun e c7 st'=>e=.normal/\AWp P N body (AK P N (mrQ P N Q k (fun c7 st'=>I (L1++L2) c7 st'/\c7 ti=itr r/\st'.H m=.frz ag ks es) nx b m (.frz ag ks es) (bkS x m (.map ag ks es))) []) c7 st') (fun _ _ h=>⟨rfl,h⟩) O2 _ _ hkE (hs L1 p L2 fr st hI hfi (fun c7 st'=>I (L1++L2) c7 st'/\c7 ti=itr r/\st'.H m=.frz ag ks es) fun _ _ h1 h2 h3=>⟨h1,h2,h3⟩);refine dR ?_ _ _ _ (hA _ w2 g Q7.inv hr3 (by grind [cC]) (by grind [put_defers]));rintro e' a' w' ⟨c7,st',g',⟨rfl,hB⟩,I4,O1,Y6,K7,P3⟩;simp only[Exit.then];refine Code.wp_mono ?_ (hB a' w' g' I4 O1 Y6 K7);rintro e'' a'' w'' ⟨fr'',st'',g'',hq,hi'',hr'',hs'',hd'',hx''⟩
  have hgo:I (L1++L2) fr'' st''/\fr'' ti=itr r/\st''.H m=.frz ag ks es->Code.rounds P (.seq (.region rn #[⟨some tn,.next (.tmp ti) false,y3,p3,f3,none⟩,⟨some tc,.extract (.tmp tn) 0,y4,p4,f4,none⟩] false) (.seq (.cond (.tmp tc) .skip (.exit b)) (.block nx (.seq (.region re (⟨some te,.entry (.tmp ti),y5,p5,f5,none⟩::O2).toArray false) body)))) (Exit.inBlock b (lJ N (AK P N Q k) w0 g0)) (n'+1) a'' w'':=fun⟨h1,h2,h3⟩=>
   ih n' oO a'' w'' g'' fr'' st'' (seen.push e.born) (by grind) (Q7.step (P3.trans hx'') hi'' h3) hr'' hs'' hd'' h2 (by grind)
  have H9:∀ e,st''.H m=.frz ag ks es/\AK P N Q k e fr'' (bkS x m (.map ag ks es) st'')->lJ N (AK P N Q k) w0 g0 e a'' w'':=fun e h=>by obtain⟨h1,h2,h3⟩:=(Q7.step (P3.trans hx'') hi'' h.1).out hx hlen J4 O5 hr'';exact⟨_,_,_,h.2,h1,h2,hs'',hd'',h3⟩
  cases e'' with
  |normal=>exact hgo hq
  |exit i=>
   have hq':(if i=nx then(I (L1++L2) fr'' st''/\fr'' ti=itr r/\st''.H m=.frz ag ks es)else if i=b then st''.H m=.frz ag ks es/\AK P N Q k .normal fr'' (bkS x m (.map ag ks es) st'')else st''.H m=.frz ag ks es/\AK P N Q k (.exit i) fr'' (bkS x m (.map ag ks es) st'')):=hq
   grind [Exit.inBlock,Exit.then]
  |_=>exact H9 _ hq
theorem FJ(hT:aX P T){fr:Frm}{st:St}{ra rn re b nx:Nat}{tx tm ti tn tc te:Nat}{ty kt et y1 y2 y3 y4 y5:TypeId}{p1 p2 p3 p4 p5:String}{f1 f2 f3 f4 f5:Array Edge}{body:Code}{O2:List Oper}(M:List Nat)
 {m:Nat} {ag:Bool} {ks:List IntKind} {es:List (List Int×LV)} (I:List (List Int×LV)->Frm->St->Prop)
 (hx:fr tx=.mp m) (hm:st.H m=.map ag ks es)
 (h0:∀ r,I es (upd (upd fr tm (.mp m)) ti (itr r)) (st.set m (.frz ag ks es)))
 (hs:∀ r L1 p L2 fr st,I (L1++p::L2) fr st->fr ti=itr r->∀ J:Frm->St->Prop,(∀ c7 st',I (L1++L2) c7 st'->c7 ti=itr r->st'.H m=.frz ag ks es->J c7 st')->
   cM P T N (⟨some te,.entry (.tmp ti),y5,p5,f5,none⟩::O2).toArray M (fun c7 st'=>AWp P N body (AK P N (mrQ P N Q k J nx b m (.frz ag ks es) fun st=>st.set m (.map ag ks es)) []) c7 st') O2 (upd (upd (upd fr tn (.tu [.atom (.bool true),GJ ag ks p.1,p.2])) tc (.atom (.bool true))) te (.tu [GJ ag ks p.1,p.2])) st)
 (he:∀ fr st,I [] fr st->AK P N Q k .normal (upd (upd fr tn (.tu [.atom (.bool false)])) tc (.atom (.bool false))) (st.set m (.map ag ks es)))
 (hu:P.underlying ty=some (.map kt et)) (htm:tm<N:=by decide) (hti:ti<N:=by decide) (htn:tn<N:=by decide) (htc:tc<N:=by decide) (M5:te<N:=by decide) (Zo:ti≠tn/\ti≠tc/\ti≠te:=by decide)
 (hkE:cW N (⟨some te,.entry (.tmp ti),y5,p5,f5,none⟩::O2).toArray O2=true:=by exact rfl):
 AWp P N (.seq (.region ra #[⟨some tm,.move (.tmp tx),y1,p1,f1,none⟩,⟨some ti,.range ty (.tmp tm),y2,p2,f2,none⟩] false) (.block b (.loop (.seq (.region rn #[⟨some tn,.next (.tmp ti) false,y3,p3,f3,none⟩,⟨some tc,.extract (.tmp tn) 0,y4,p4,f4,none⟩] false) (.seq (.cond (.tmp tc) .skip (.exit b)) (.block nx (.seq (.region re (⟨some te,.entry (.tmp ti),y5,p5,f5,none⟩::O2).toArray false) body))))))) (AK P N Q k) fr st:=by
 intro a w0 g0 hi hr O4 hdf;obtain⟨r8,hlen,cV,clock,h3,J4,h5,h6,O5⟩:=hi.mp m ag ks es hm;have hll:es.length=cV.length:=by have:=congrArg List.length J4;simpa using this.symm
 have hv:a.eval (.tmp tx)=.map (some (g0.β m)):=by have h:=aD hr (.tmp tx);simp only[aH,hx,Rep]at h;exact h.1
 have M6:m<g0.next:=hi.map_lt hm;refine wp_seq (wp_region_list ?_);refine gF rfl (v:=.map (some (g0.β m))) (w':=w0) (by simp[execOp,hv]) ?_;have Z6:tm<a.tmps.size:=oO;have o6:=run_range_map (P:=P) w0 ty kt et (g0.β m) cV.toArray clock hu h3;refine gF rfl (v:=.pointer (some ⟨w0.heap.size,0,none⟩)) (w':=w0.alloc (.mapIter (some (g0.β m)) clock #[] clock)) (by simp[execOp,eval_put a Z6,o6]) ?_;refine wpList_nil ?_;simp only[Exit.then];refine wp_block (wp_loop_rounds (es.length+1) ?_);obtain⟨g1,hM,hR⟩:=MrS.start hi hm h3 h5 h6 hlen J4 O5;have X0:ti<(a.put (some tm) (.map (some (g0.β m)))).tmps.size:=by rw[cC];omega
 have hml1:m<g1.next:=hM.lt
 have hr1:eD (w0.alloc (.mapIter (some (g0.β m)) clock #[] clock)) g1 ((a.put (some tm) (.map (some (g0.β m)))).put (some ti) (.pointer (some ⟨w0.heap.size,0,none⟩))) (upd (upd fr tm (.mp m)) ti (itr w0.heap.size)):=
  ((hr.monoR hR).put Z6 (by simp only[Rep];exact⟨by rw[hM.β],hml1⟩)).put X0 (by grind [Rep])
 refine yX (.inl rfl) hT M I hlen J4 O5 hti htn htc M5 Zo hkE (hs w0.heap.size) he es.length _ _ g1 _ (st.set m (.frz ag ks es)) #[] (by grind [vY]) hM hr1 (by grind [cC]) (by grind [put_defers]) (by simp[upd]) (by grind [vY])
end
end Aw
end Go.Proofs.YtbgngpdonpeboaaGreatDoor
