/- Ranging over a map: the rule for the loop. No program is named here. -/
import Derived.Test.YtempldclppogmaaGreatDoorAwMr3
set_option linter.unusedVariables false
set_option linter.unusedSimpArgs false
namespace Go.Proofs.YtempldclppogmaaGreatDoor
namespace Aw
open Go Go.RowKit
open Go.ChangeMaps (setBlock)
theorem eval_put(a:Act){d:Nat}(hd:d<a.tmps.size)(v:Value):(a.put (some d) v).eval (.tmp d)=v:=by simp[Act.eval,Act.put,aBM,hd]
theorem Fa{w:World}{g:G}:∀ {es:List (List Int×LV)} {dX:List MapEntry},aC w g (es.map (·.2)) (dX.map (·.val))->∀ q∈es.zip dX,Rep w g q.1.2 q.2.val
 |[],_,_,q,hq=>by simp at hq
 |x::es,[],h,q,hq=>by simp at hq
 |x::es,e::dX,h,q,hq=>by
  simp only[aAi,aC]at h;obtain⟨v,vs,h1,h2,h3⟩:=h;simp only[aBi]at h1;obtain⟨rfl,rfl⟩:=h1;rw[List.zip_cons_cons]at hq;rcases aAf.1 hq with rfl|hq
  .exact h2
  .exact Fa h3 q hq
section
variable {P:Program} {T:Tab} {N:Nat} {Q:AQ} {k:List fU}
theorem yN{x:Option Nat}(hx:x=some 0\/x=none)(hT:bJ P T){w0:World}{g0:G}{rn re b nx:Nat}{ti tn tc te:Nat}{y3 y4 y5:TypeId}{p3 p4 p5:String}{f3 f4 f5:Array Edge}{body:Code}{Zc:List Oper}(M:List Nat)
 {m b0 r:Nat} {ag:Bool} {ks:List IntKind} {es:List (List Int×LV)} {dX:List MapEntry} {clock:Nat} (I:List (List Int×LV)->Frm->St->Prop)
 (hlen:∀ p∈es,p.1.length=ks.length) (Yd:dX.map (·.key)=es.map fun p=>mkV ag ks p.1) (ZT:(∀ x∈dX,x.born<clock)/\(dX.map (·.born)).Nodup)
 (hti:ti<N) (htn:tn<N) (htc:tc<N) (ZE:te<N) (Wu:ti≠tn/\ti≠tc/\ti≠te)
 (hkE:cV N (⟨some te,.entry (.tmp ti),y5,p5,f5,none⟩::Zc).toArray Zc=true)
 (hs:∀ L1 p L2 fr st,I (L1++p::L2) fr st->fr ti=itr r->∀ J:Frm->St->Prop,(∀ Xg st',I (L1++L2) Xg st'->Xg ti=itr r->st'.H m=.frz ag ks es->J Xg st')->
   cT P T N (⟨some te,.entry (.tmp ti),y5,p5,f5,none⟩::Zc).toArray M (fun Xg st'=>AWp P N body (AK P N (mrQ P N Q k J nx b m (.frz ag ks es) (bkS x m (.map ag ks es))) []) Xg st') Zc (upd (upd (upd fr tn (.tu [.atom (.bool true),CP ag ks p.1,p.2])) tc (.atom (.bool true))) te (.tu [CP ag ks p.1,p.2])) st)
 (he:∀ fr st,I [] fr st->AK P N Q k .normal (upd (upd fr tn (.tu [.atom (.bool false)])) tc (.atom (.bool false))) (bkS x m (.map ag ks es) st)):
 ∀(n:Nat) (a:Act) (w:World) (g:G) (fr:Frm) (st:St) (seen:Array Nat),(lft es dX seen).length<=n->MrS x w0 g0 m b0 r ag ks es dX clock w g st seen->dN w g a fr->a.tmps.size=N->a.defers=[]->fr ti=itr r->I (lft es dX seen) fr st->
  Code.rounds P (.seq (.region rn #[⟨some tn,.next (.tmp ti) false,y3,p3,f3,none⟩,⟨some tc,.extract (.tmp tn) 0,y4,p4,f4,none⟩] false) (.seq (.cond (.tmp tc) .skip (.exit b)) (.block nx (.seq (.region re (⟨some te,.entry (.tmp ti),y5,p5,f5,none⟩::Zc).toArray false) body)))) (Exit.inBlock b (lI N (AK P N Q k) w0 g0)) (n+1) a w:=by
 have S7:es.length=dX.length:=by have:=congrArg List.length Yd;simpa using this.symm
 intro n;induction n using Nat.strongRecOn with
 |ind n ih=>
 intro a w g fr st seen hn hM hr Yz F7 hfi hI;have hti':a.eval (.tmp ti)=.pointer (some ⟨r,0,none⟩):=by have h:=aD hr (.tmp ti);simp only[aH,hfi,Rep]at h;exact h
 rw[rounds_succ];refine wp_seq (wp_region_list ?_);obtain⟨c,hc,hit⟩:=hM.it;rcases run_next_at (P:=P) w y3 r b0 clock c seen dX.toArray clock hit hM.map (fun x hx=>ZT.1 x (by simpa using hx)) hc with⟨h0,Xr⟩|⟨e,F8,w1,Yt,Xr⟩
 .have ZG:lft es dX seen=[]:=GK fun x hx=>all_seen dX.toArray seen h0 x (by simpa using hx);rw[ZG]at hI;refine fM rfl (v:=.tuple #[.bool false]) (w':=w) (by simp[execOp,hti',Xr]) ?_;have v5:tn<a.tmps.size:=oO;refine fM rfl (v:=.bool false) (w':=w) (by simp[execOp,eval_put a v5,Instr.extract]) ?_;refine wpList_nil ?_;simp only[Exit.then];have I5:tc<(a.put (some tn) (.tuple #[.bool false])).tmps.size:=by rw[bV];omega
  refine wp_seq (wp_cond_split (t:=false) (eval_put _ I5 _) (fun h=>by cases h) (fun _=>wp_exit ?_));simp only[Exit.then,Exit.inBlock,aBq]
  have V4:dN w g ((a.put (some tn) (.tuple #[.bool false])).put (some tc) (.bool false)) (upd (upd fr tn (.tu [.atom (.bool false)])) tc (.atom (.bool false))):=
   (hr.put v5 (by simp only[Rep,aC];exact⟨[.bool false],rfl,.bool false,[],rfl,rfl,rfl⟩)).put I5 (by simp only[Rep])
  obtain⟨h1,h2,h3⟩:=hM.out hx hlen Yd ZT V4;exact⟨_,_,_,he fr st hI,h1,h2,by rw[bV,bV];exact Yz,by rw[put_defers,put_defers];exact F7,h3⟩
 .obtain⟨J3,he2⟩:=mem_left F8;have J3:e∈dX:=by simpa using J3
  obtain⟨p,L1,L2,hL,hL',ZZ⟩:=HP S7 ZT.2 J3 he2;rw[hL]at hI hn;simp only[aAh,List.length_cons]at hn;obtain⟨n',rfl⟩:∃ n',n=n'+1:=⟨n-1,oO⟩;obtain⟨Zd,L8⟩:=hM.turn Yt e.born;have V4:=hr.monoR L8
  have hrunE:=run_entry_at (P:=P) (setBlock w1 r (.mapIter (some b0) clock (seen.push e.born) clock)) r b0 clock seen dX.toArray clock e
   (by obtain⟨c',_,h⟩:=Zd.it;have h2:=Zd.r0;exact xX _ _ _ (by have:=(aAw.1 h).1;simpa[setBlock]using this)) Zd.map (by simpa using J3) (by simpa using ZT.2)
  have hkeyE:e.key=mkV ag ks p.1:=by
   have h1:(es.zip dX).map (fun q=>q.2.key)=(es.zip dX).map fun q=>mkV ag ks q.1.1:=by
    have e1:(es.zip dX).map (fun q=>q.2.key)=dX.map (·.key):=by
     have:(es.zip dX).map (fun q=>q.2.key)=((es.zip dX).map (·.2)).map (·.key):=by rw[aBd];rfl
     rw[this,List.map_snd_zip oO]
    have e2:((es.zip dX).map fun q=>mkV ag ks q.1.1)=es.map fun q=>mkV ag ks q.1:=by
     have:((es.zip dX).map fun q=>mkV ag ks q.1.1)=((es.zip dX).map (·.1)).map fun q=>mkV ag ks q.1:=by rw[aBd];rfl
     rw[this,List.map_fst_zip oO]
    rw[e1,e2,Yd]
   exact(List.map_inj_left.1 h1) (p,e) ZZ
  have hvalE:∀ w g,aC w g (es.map (·.2)) (dX.map (·.val))->Rep w g p.2 e.val:=fun w g h=>Fa h _ ZZ;generalize ZV:setBlock w1 r (.mapIter (some b0) clock (seen.push e.born) clock)=w2 at *;refine fM rfl (v:=.tuple #[.bool true,e.key,e.val]) (w':=w2) (by simp[execOp,hti',Xr]) ?_;have v5:tn<a.tmps.size:=oO;refine fM rfl (v:=.bool true) (w':=w2) (by simp[execOp,eval_put a v5,Instr.extract]) ?_;refine wpList_nil ?_;simp only[Exit.then];have I5:tc<(a.put (some tn) (.tuple #[.bool true,e.key,e.val])).tmps.size:=by rw[bV];omega
  refine wp_seq (wp_cond_split (t:=true) (eval_put _ I5 _) (fun _=>wp_skip ?_) (fun h=>by cases h));simp only[Exit.then];refine wp_block (wp_seq (wp_region_list ?_));have hs3:te<((a.put (some tn) (.tuple #[.bool true,e.key,e.val])).put (some tc) (.bool true)).tmps.size:=by rw[bV,bV];omega
  have hke:=SI w2 g ag ks p.1;rw[<- hkeyE]at hke;have hve:=hvalE w2 g Zd.vals
  have hr3:dN w2 g (((a.put (some tn) (.tuple #[.bool true,e.key,e.val])).put (some tc) (.bool true)).put (some te) (.tuple #[e.key,e.val])) (upd (upd (upd fr tn (.tu [.atom (.bool true),CP ag ks p.1,p.2])) tc (.atom (.bool true))) te (.tu [CP ag ks p.1,p.2])):=
   ((V4.put v5 (by simp only[Rep,aC];exact⟨[.bool true,e.key,e.val],rfl,.bool true,_,rfl,rfl,e.key,_,rfl,hke,e.val,_,rfl,hve,rfl⟩)).put I5 (by simp only[Rep])).put hs3 (by simp only[Rep,aC];exact⟨[e.key,e.val],rfl,e.key,_,rfl,hke,e.val,_,rfl,hve,rfl⟩)
  refine fM rfl (v:=.tuple #[e.key,e.val]) (w':=w2) ?_ ?_
  .have hit2:((a.put (some tn) (.tuple #[.bool true,e.key,e.val])).put (some tc) (.bool true)).eval (.tmp ti)=.pointer (some ⟨r,0,none⟩):=by have h:=aD ((V4.put v5 (v:=.tuple #[.bool true,e.key,e.val]) (lv:=.dead) (by simp only[Rep])).put I5 (v:=.bool true) (lv:=.dead) (by simp only[Rep])) (.tmp ti);simp only[aH,upd,aAa Wu.1,aAa Wu.2.1,hfi,Rep]at h;exact h
   simp[execOp,hit2,hrunE]
  have hA:=lU (N:=N) (M:=M) hT (Q:=fun e Xg st'=>e=.normal/\AWp P N body (AK P N (mrQ P N Q k (fun Xg st'=>I (L1++L2) Xg st'/\Xg ti=itr r/\st'.H m=.frz ag ks es) nx b m (.frz ag ks es) (bkS x m (.map ag ks es))) []) Xg st') (fun _ _ h=>⟨rfl,h⟩) Zc _ _ hkE (hs L1 p L2 fr st hI hfi (fun Xg st'=>I (L1++L2) Xg st'/\Xg ti=itr r/\st'.H m=.frz ag ks es) fun _ _ h1 h2 h3=>⟨h1,h2,h3⟩);refine dG ?_ _ _ _ (hA _ w2 g Zd.inv hr3 (by rw[bV,bV,bV];exact Yz) (by rw[put_defers,put_defers,put_defers];exact F7));rintro e' a' w' ⟨Xg,st',g',⟨rfl,hB⟩,Yq,j5,I3,Zh,Zn⟩;simp only[Exit.then];refine Code.wp_mono ?_ (hB a' w' g' Yq j5 I3 Zh);rintro e'' a'' w'' ⟨Q8,I0,g'',hq,hi'',hr'',hs'',hd'',hx''⟩
  have I1:I (L1++L2) Q8 I0/\Q8 ti=itr r/\I0.H m=.frz ag ks es->Code.rounds P (.seq (.region rn #[⟨some tn,.next (.tmp ti) false,y3,p3,f3,none⟩,⟨some tc,.extract (.tmp tn) 0,y4,p4,f4,none⟩] false) (.seq (.cond (.tmp tc) .skip (.exit b)) (.block nx (.seq (.region re (⟨some te,.entry (.tmp ti),y5,p5,f5,none⟩::Zc).toArray false) body)))) (Exit.inBlock b (lI N (AK P N Q k) w0 g0)) (n'+1) a'' w'':=fun⟨h1,h2,h3⟩=>
   ih n' oO a'' w'' g'' Q8 I0 (seen.push e.born) (by rw[hL',aAh];omega) (Zd.step (Zn.trans hx'') hi'' h3) hr'' hs'' hd'' h2 (by rw[hL'];exact h1)
  have YR:∀ e,I0.H m=.frz ag ks es/\AK P N Q k e Q8 (bkS x m (.map ag ks es) I0)->lI N (AK P N Q k) w0 g0 e a'' w'':=fun e h=>by obtain⟨h1,h2,h3⟩:=(Zd.step (Zn.trans hx'') hi'' h.1).out hx hlen Yd ZT hr'';exact⟨_,_,_,h.2,h1,h2,hs'',hd'',h3⟩
  cases e'' with
  |normal=>exact I1 hq
  |exit i=>
   have O6:(if i=nx then(I (L1++L2) Q8 I0/\Q8 ti=itr r/\I0.H m=.frz ag ks es)else if i=b then I0.H m=.frz ag ks es/\AK P N Q k .normal Q8 (bkS x m (.map ag ks es) I0)else I0.H m=.frz ag ks es/\AK P N Q k (.exit i) Q8 (bkS x m (.map ag ks es) I0)):=hq;simp only[Exit.inBlock];by_cases h1:i=nx
   .rw[aAe h1]at O6 ⊢;exact I1 O6
   .rw[aAa h1]at O6 ⊢;simp only[Exit.then,Exit.inBlock];by_cases h2:i=b
    .rw[aAe h2]at O6 ⊢;exact YR _ O6
    .rw[aAa h2]at O6 ⊢;exact YR _ O6
  |_=>exact YR _ hq
theorem uO(hT:bJ P T){fr:Frm}{st:St}{ra rn re b nx:Nat}{tx tm ti tn tc te:Nat}{ty kt et y1 y2 y3 y4 y5:TypeId}{p1 p2 p3 p4 p5:String}{f1 f2 f3 f4 f5:Array Edge}{body:Code}{Zc:List Oper}(M:List Nat)
 {m:Nat} {ag:Bool} {ks:List IntKind} {es:List (List Int×LV)} (I:List (List Int×LV)->Frm->St->Prop)
 (hx:fr tx=.mp m) (hm:st.H m=.map ag ks es)
 (h0:∀ r,I es (upd (upd fr tm (.mp m)) ti (itr r)) (st.set m (.frz ag ks es)))
 (hs:∀ r L1 p L2 fr st,I (L1++p::L2) fr st->fr ti=itr r->∀ J:Frm->St->Prop,(∀ Xg st',I (L1++L2) Xg st'->Xg ti=itr r->st'.H m=.frz ag ks es->J Xg st')->
   cT P T N (⟨some te,.entry (.tmp ti),y5,p5,f5,none⟩::Zc).toArray M (fun Xg st'=>AWp P N body (AK P N (mrQ P N Q k J nx b m (.frz ag ks es) fun st=>st.set m (.map ag ks es)) []) Xg st') Zc (upd (upd (upd fr tn (.tu [.atom (.bool true),CP ag ks p.1,p.2])) tc (.atom (.bool true))) te (.tu [CP ag ks p.1,p.2])) st)
 (he:∀ fr st,I [] fr st->AK P N Q k .normal (upd (upd fr tn (.tu [.atom (.bool false)])) tc (.atom (.bool false))) (st.set m (.map ag ks es)))
 (hu:P.underlying ty=some (.map kt et)) (htm:tm<N:=by decide) (hti:ti<N:=by decide) (htn:tn<N:=by decide) (htc:tc<N:=by decide) (ZE:te<N:=by decide) (Wu:ti≠tn/\ti≠tc/\ti≠te:=by decide)
 (hkE:cV N (⟨some te,.entry (.tmp ti),y5,p5,f5,none⟩::Zc).toArray Zc=true:=by exact rfl):
 AWp P N (.seq (.region ra #[⟨some tm,.move (.tmp tx),y1,p1,f1,none⟩,⟨some ti,.range ty (.tmp tm),y2,p2,f2,none⟩] false) (.block b (.loop (.seq (.region rn #[⟨some tn,.next (.tmp ti) false,y3,p3,f3,none⟩,⟨some tc,.extract (.tmp tn) 0,y4,p4,f4,none⟩] false) (.seq (.cond (.tmp tc) .skip (.exit b)) (.block nx (.seq (.region re (⟨some te,.entry (.tmp ti),y5,p5,f5,none⟩::Zc).toArray false) body))))))) (AK P N Q k) fr st:=by
 intro a w0 g0 hi hr Yz F7;obtain⟨Xi,hlen,dX,clock,h3,Yd,h5,h6,ZT⟩:=hi.mp m ag ks es hm;have S7:es.length=dX.length:=by have:=congrArg List.length Yd;simpa using this.symm
 have hv:a.eval (.tmp tx)=.map (some (g0.β m)):=by have h:=aD hr (.tmp tx);simp only[aH,hx,Rep]at h;exact h.1
 have Yw:m<g0.next:=hi.map_lt hm;refine wp_seq (wp_region_list ?_);refine fM rfl (v:=.map (some (g0.β m))) (w':=w0) (by simp[execOp,hv]) ?_;have v5:tm<a.tmps.size:=oO;have Xr:=run_range_map (P:=P) w0 ty kt et (g0.β m) dX.toArray clock hu h3;refine fM rfl (v:=.pointer (some ⟨w0.heap.size,0,none⟩)) (w':=w0.alloc (.mapIter (some (g0.β m)) clock #[] clock)) (by simp[execOp,eval_put a v5,Xr]) ?_;refine wpList_nil ?_;simp only[Exit.then];refine wp_block (wp_loop_rounds (es.length+1) ?_);obtain⟨g1,hM,hR⟩:=MrS.start hi hm h3 h5 h6 hlen Yd ZT;have I5:ti<(a.put (some tm) (.map (some (g0.β m)))).tmps.size:=by rw[bV];omega
 have hml1:m<g1.next:=hM.lt
 have hr1:dN (w0.alloc (.mapIter (some (g0.β m)) clock #[] clock)) g1 ((a.put (some tm) (.map (some (g0.β m)))).put (some ti) (.pointer (some ⟨w0.heap.size,0,none⟩))) (upd (upd fr tm (.mp m)) ti (itr w0.heap.size)):=
  ((hr.monoR hR).put v5 (by simp only[Rep];exact⟨by rw[hM.β],hml1⟩)).put I5 (by simp only[Rep])
 refine yN (.inl rfl) hT M I hlen Yd ZT hti htn htc ZE Wu hkE (hs w0.heap.size) he es.length _ _ g1 _ (st.set m (.frz ag ks es)) #[] (by rw[wV S7];exact aAk _) hM hr1 (by rw[bV,bV];exact Yz) (by rw[put_defers,put_defers];exact F7) (by simp[upd]) (by rw[wV S7];exact h0 _)
end
end Aw
end Go.Proofs.YtempldclppogmaaGreatDoor
