/- Ranging over a map: the rule for the loop. No program is named here. -/
import Derived.Test.YtempldclppogmaaGreatDoorAwMr3
set_option linter.unusedVariables false
set_option linter.unusedSimpArgs false
namespace Go.Proofs.YtempldclppogmaaGreatDoor
namespace Aw
open Go Go.RowKit
open Go.ChangeMaps (setBlock)
theorem eval_put(a:Act){d:Nat}(hd:d<a.tmps.size)(v:Value):(a.put (some d) v).eval (.tmp d)=v:=by simp[Act.eval,Act.put,aBK,hd]
theorem HC{w:World}{g:G}:∀ {es:List (List Int×LV)} {Gz:List MapEntry},aC w g (es.map (·.2)) (Gz.map (·.val))->∀ q∈es.zip Gz,Rep w g q.1.2 q.2.val
 |[],_,_,q,hq=>by simp at hq
 |x::es,[],h,q,hq=>by simp at hq
 |x::es,e::Gz,h,q,hq=>by
  simp only[aAj,aC]at h;obtain⟨v,vs,h1,h2,h3⟩:=h;simp only[aBj]at h1;obtain⟨rfl,rfl⟩:=h1;rw[List.zip_cons_cons]at hq;rcases aAf.1 hq with rfl|hq
  .exact h2
  .exact HC h3 q hq
section
variable {P:Program} {T:Tab} {N:Nat} {Q:AQ} {k:List fS}
theorem yM{x:Option Nat}(hx:x=some 0\/x=none)(hT:bF P T){w0:World}{g0:G}{rn re b nx:Nat}{ti tn tc te:Nat}{y3 y4 y5:TypeId}{p3 p4 p5:String}{f3 f4 f5:Array Edge}{body:Code}{Ze:List Oper}(M:List Nat)
 {m b0 r:Nat} {ag:Bool} {ks:List IntKind} {es:List (List Int×LV)} {Gz:List MapEntry} {clock:Nat} (I:List (List Int×LV)->Frm->St->Prop)
 (hlen:∀ p∈es,p.1.length=ks.length) (Yf:Gz.map (·.key)=es.map fun p=>mkV ag ks p.1) (ZY:(∀ x∈Gz,x.born<clock)/\(Gz.map (·.born)).Nodup)
 (hti:ti<N) (htn:tn<N) (htc:tc<N) (ZL:te<N) (Wx:ti≠tn/\ti≠tc/\ti≠te)
 (hkE:cW N (⟨some te,.entry (.tmp ti),y5,p5,f5,none⟩::Ze).toArray Ze=true)
 (hs:∀ L1 p L2 fr st,I (L1++p::L2) fr st->fr ti=itr r->∀ J:Frm->St->Prop,(∀ Xj st',I (L1++L2) Xj st'->Xj ti=itr r->st'.H m=.frz ag ks es->J Xj st')->
   cM P T N (⟨some te,.entry (.tmp ti),y5,p5,f5,none⟩::Ze).toArray M (fun Xj st'=>AWp P N body (AK P N (mrQ P N Q k J nx b m (.frz ag ks es) (bkS x m (.map ag ks es))) []) Xj st') Ze (upd (upd (upd fr tn (.tu [.atom (.bool true),Dz ag ks p.1,p.2])) tc (.atom (.bool true))) te (.tu [Dz ag ks p.1,p.2])) st)
 (he:∀ fr st,I [] fr st->AK P N Q k .normal (upd (upd fr tn (.tu [.atom (.bool false)])) tc (.atom (.bool false))) (bkS x m (.map ag ks es) st)):
 ∀(n:Nat) (a:Act) (w:World) (g:G) (fr:Frm) (st:St) (seen:Array Nat),(lft es Gz seen).length<=n->MrS x w0 g0 m b0 r ag ks es Gz clock w g st seen->dO w g a fr->a.tmps.size=N->a.defers=[]->fr ti=itr r->I (lft es Gz seen) fr st->
  Code.rounds P (.seq (.region rn #[⟨some tn,.next (.tmp ti) false,y3,p3,f3,none⟩,⟨some tc,.extract (.tmp tn) 0,y4,p4,f4,none⟩] false) (.seq (.cond (.tmp tc) .skip (.exit b)) (.block nx (.seq (.region re (⟨some te,.entry (.tmp ti),y5,p5,f5,none⟩::Ze).toArray false) body)))) (Exit.inBlock b (kZ N (AK P N Q k) w0 g0)) (n+1) a w:=by
 have T0:es.length=Gz.length:=by have:=congrArg List.length Yf;simpa using this.symm
 intro n;induction n using Nat.strongRecOn with
 |ind n ih=>
 intro a w g fr st seen hn hM hr ZH E7 hfi hI;have hti':a.eval (.tmp ti)=.pointer (some ⟨r,0,none⟩):=by have h:=aE hr (.tmp ti);simp only[aI,hfi,Rep]at h;exact h
 rw[rounds_succ];refine wp_seq (wp_region_list ?_);obtain⟨c,hc,hit⟩:=hM.it;rcases run_next_at (P:=P) w y3 r b0 clock c seen Gz.toArray clock hit hM.map (fun x hx=>ZY.1 x (by simpa using hx)) hc with⟨h0,Xv⟩|⟨e,G6,w1,ZE,Xv⟩
 .have Yc:lft es Gz seen=[]:=FW fun x hx=>all_seen Gz.toArray seen h0 x (by simpa using hx);rw[Yc]at hI;refine fL rfl (v:=.tuple #[.bool false]) (w':=w) (by simp[execOp,hti',Xv]) ?_;have G5:tn<a.tmps.size:=oO;refine fL rfl (v:=.bool false) (w':=w) (by simp[execOp,eval_put a G5,Instr.extract]) ?_;refine wpList_nil ?_;simp only[Exit.then];have O5:tc<(a.put (some tn) (.tuple #[.bool false])).tmps.size:=by rw[bS];omega
  refine wp_seq (wp_cond_split (t:=false) (eval_put _ O5 _) (fun h=>by cases h) (fun _=>wp_exit ?_));simp only[Exit.then,Exit.inBlock,aBn]
  have Q7:dO w g ((a.put (some tn) (.tuple #[.bool false])).put (some tc) (.bool false)) (upd (upd fr tn (.tu [.atom (.bool false)])) tc (.atom (.bool false))):=
   (hr.put G5 (by simp only[Rep,aC];exact⟨[.bool false],rfl,.bool false,[],rfl,rfl,rfl⟩)).put O5 (by simp only[Rep])
  obtain⟨h1,h2,h3⟩:=hM.out hx hlen Yf ZY Q7;exact⟨_,_,_,he fr st hI,h1,h2,by rw[bS,bS];exact ZH,by rw[put_defers,put_defers];exact E7,h3⟩
 .obtain⟨B7,he2⟩:=mem_left G6;have B7:e∈Gz:=by simpa using B7
  obtain⟨p,L1,L2,hL,hL',Zb⟩:=HZ T0 ZY.2 B7 he2;rw[hL]at hI hn;simp only[aAh,List.length_cons]at hn;obtain⟨n',rfl⟩:∃ n',n=n'+1:=⟨n-1,oO⟩;obtain⟨Zx,P0⟩:=hM.turn ZE e.born;have Q7:=hr.monoR P0
  have hrunE:=run_entry_at (P:=P) (setBlock w1 r (.mapIter (some b0) clock (seen.push e.born) clock)) r b0 clock seen Gz.toArray clock e
   (by obtain⟨c',_,h⟩:=Zx.it;have h2:=Zx.r0;exact xD _ _ _ (by have:=(aAt.1 h).1;simpa[setBlock]using this)) Zx.map (by simpa using B7) (by simpa using ZY.2)
  have hkeyE:e.key=mkV ag ks p.1:=by
   have h1:(es.zip Gz).map (fun q=>q.2.key)=(es.zip Gz).map fun q=>mkV ag ks q.1.1:=by
    have e1:(es.zip Gz).map (fun q=>q.2.key)=Gz.map (·.key):=by
     have:(es.zip Gz).map (fun q=>q.2.key)=((es.zip Gz).map (·.2)).map (·.key):=by rw[aBf];rfl
     rw[this,List.map_snd_zip oO]
    have e2:((es.zip Gz).map fun q=>mkV ag ks q.1.1)=es.map fun q=>mkV ag ks q.1:=by
     have:((es.zip Gz).map fun q=>mkV ag ks q.1.1)=((es.zip Gz).map (·.1)).map fun q=>mkV ag ks q.1:=by rw[aBf];rfl
     rw[this,List.map_fst_zip oO]
    rw[e1,e2,Yf]
   exact(List.map_inj_left.1 h1) (p,e) Zb
  have hvalE:∀ w g,aC w g (es.map (·.2)) (Gz.map (·.val))->Rep w g p.2 e.val:=fun w g h=>HC h _ Zb;generalize ZP:setBlock w1 r (.mapIter (some b0) clock (seen.push e.born) clock)=w2 at *;refine fL rfl (v:=.tuple #[.bool true,e.key,e.val]) (w':=w2) (by simp[execOp,hti',Xv]) ?_;have G5:tn<a.tmps.size:=oO;refine fL rfl (v:=.bool true) (w':=w2) (by simp[execOp,eval_put a G5,Instr.extract]) ?_;refine wpList_nil ?_;simp only[Exit.then];have O5:tc<(a.put (some tn) (.tuple #[.bool true,e.key,e.val])).tmps.size:=by rw[bS];omega
  refine wp_seq (wp_cond_split (t:=true) (eval_put _ O5 _) (fun _=>wp_skip ?_) (fun h=>by cases h));simp only[Exit.then];refine wp_block (wp_seq (wp_region_list ?_));have hs3:te<((a.put (some tn) (.tuple #[.bool true,e.key,e.val])).put (some tc) (.bool true)).tmps.size:=by rw[bS,bS];omega
  have hke:=Rv w2 g ag ks p.1;rw[<- hkeyE]at hke;have hve:=hvalE w2 g Zx.vals
  have hr3:dO w2 g (((a.put (some tn) (.tuple #[.bool true,e.key,e.val])).put (some tc) (.bool true)).put (some te) (.tuple #[e.key,e.val])) (upd (upd (upd fr tn (.tu [.atom (.bool true),Dz ag ks p.1,p.2])) tc (.atom (.bool true))) te (.tu [Dz ag ks p.1,p.2])):=
   ((Q7.put G5 (by simp only[Rep,aC];exact⟨[.bool true,e.key,e.val],rfl,.bool true,_,rfl,rfl,e.key,_,rfl,hke,e.val,_,rfl,hve,rfl⟩)).put O5 (by simp only[Rep])).put hs3 (by simp only[Rep,aC];exact⟨[e.key,e.val],rfl,e.key,_,rfl,hke,e.val,_,rfl,hve,rfl⟩)
  refine fL rfl (v:=.tuple #[e.key,e.val]) (w':=w2) ?_ ?_
  .have hit2:((a.put (some tn) (.tuple #[.bool true,e.key,e.val])).put (some tc) (.bool true)).eval (.tmp ti)=.pointer (some ⟨r,0,none⟩):=by have h:=aE ((Q7.put G5 (v:=.tuple #[.bool true,e.key,e.val]) (lv:=.dead) (by simp only[Rep])).put O5 (v:=.bool true) (lv:=.dead) (by simp only[Rep])) (.tmp ti);simp only[aI,upd,aAa Wx.1,aAa Wx.2.1,hfi,Rep]at h;exact h
   simp[execOp,hit2,hrunE]
  have hA:=lH (N:=N) (M:=M) hT (Q:=fun e Xj st'=>e=.normal/\AWp P N body (AK P N (mrQ P N Q k (fun Xj st'=>I (L1++L2) Xj st'/\Xj ti=itr r/\st'.H m=.frz ag ks es) nx b m (.frz ag ks es) (bkS x m (.map ag ks es))) []) Xj st') (fun _ _ h=>⟨rfl,h⟩) Ze _ _ hkE (hs L1 p L2 fr st hI hfi (fun Xj st'=>I (L1++L2) Xj st'/\Xj ti=itr r/\st'.H m=.frz ag ks es) fun _ _ h1 h2 h3=>⟨h1,h2,h3⟩);refine dI ?_ _ _ _ (hA _ w2 g Zx.inv hr3 (by rw[bS,bS,bS];exact ZH) (by rw[put_defers,put_defers,put_defers];exact E7));rintro e' a' w' ⟨Xj,st',g',⟨rfl,hB⟩,Yo,o9,J5,Yw,Zm⟩;simp only[Exit.then];refine Code.wp_mono ?_ (hB a' w' g' Yo o9 J5 Yw);rintro e'' a'' w'' ⟨S1,H9,g'',hq,hi'',hr'',hs'',hd'',hx''⟩
  have F7:I (L1++L2) S1 H9/\S1 ti=itr r/\H9.H m=.frz ag ks es->Code.rounds P (.seq (.region rn #[⟨some tn,.next (.tmp ti) false,y3,p3,f3,none⟩,⟨some tc,.extract (.tmp tn) 0,y4,p4,f4,none⟩] false) (.seq (.cond (.tmp tc) .skip (.exit b)) (.block nx (.seq (.region re (⟨some te,.entry (.tmp ti),y5,p5,f5,none⟩::Ze).toArray false) body)))) (Exit.inBlock b (kZ N (AK P N Q k) w0 g0)) (n'+1) a'' w'':=fun⟨h1,h2,h3⟩=>
   ih n' oO a'' w'' g'' S1 H9 (seen.push e.born) (by rw[hL',aAh];omega) (Zx.step (Zm.trans hx'') hi'' h3) hr'' hs'' hd'' h2 (by rw[hL'];exact h1)
  have YY:∀ e,H9.H m=.frz ag ks es/\AK P N Q k e S1 (bkS x m (.map ag ks es) H9)->kZ N (AK P N Q k) w0 g0 e a'' w'':=fun e h=>by obtain⟨h1,h2,h3⟩:=(Zx.step (Zm.trans hx'') hi'' h.1).out hx hlen Yf ZY hr'';exact⟨_,_,_,h.2,h1,h2,hs'',hd'',h3⟩
  cases e'' with
  |normal=>exact F7 hq
  |exit i=>
   have P3:(if i=nx then(I (L1++L2) S1 H9/\S1 ti=itr r/\H9.H m=.frz ag ks es)else if i=b then H9.H m=.frz ag ks es/\AK P N Q k .normal S1 (bkS x m (.map ag ks es) H9)else H9.H m=.frz ag ks es/\AK P N Q k (.exit i) S1 (bkS x m (.map ag ks es) H9)):=hq;simp only[Exit.inBlock];by_cases h1:i=nx
   .rw[aAe h1]at P3 ⊢;exact F7 P3
   .rw[aAa h1]at P3 ⊢;simp only[Exit.then,Exit.inBlock];by_cases h2:i=b
    .rw[aAe h2]at P3 ⊢;exact YY _ P3
    .rw[aAa h2]at P3 ⊢;exact YY _ P3
  |_=>exact YY _ hq
theorem EC(hT:bF P T){fr:Frm}{st:St}{ra rn re b nx:Nat}{tx tm ti tn tc te:Nat}{ty kt et y1 y2 y3 y4 y5:TypeId}{p1 p2 p3 p4 p5:String}{f1 f2 f3 f4 f5:Array Edge}{body:Code}{Ze:List Oper}(M:List Nat)
 {m:Nat} {ag:Bool} {ks:List IntKind} {es:List (List Int×LV)} (I:List (List Int×LV)->Frm->St->Prop)
 (hx:fr tx=.mp m) (hm:st.H m=.map ag ks es)
 (h0:∀ r,I es (upd (upd fr tm (.mp m)) ti (itr r)) (st.set m (.frz ag ks es)))
 (hs:∀ r L1 p L2 fr st,I (L1++p::L2) fr st->fr ti=itr r->∀ J:Frm->St->Prop,(∀ Xj st',I (L1++L2) Xj st'->Xj ti=itr r->st'.H m=.frz ag ks es->J Xj st')->
   cM P T N (⟨some te,.entry (.tmp ti),y5,p5,f5,none⟩::Ze).toArray M (fun Xj st'=>AWp P N body (AK P N (mrQ P N Q k J nx b m (.frz ag ks es) fun st=>st.set m (.map ag ks es)) []) Xj st') Ze (upd (upd (upd fr tn (.tu [.atom (.bool true),Dz ag ks p.1,p.2])) tc (.atom (.bool true))) te (.tu [Dz ag ks p.1,p.2])) st)
 (he:∀ fr st,I [] fr st->AK P N Q k .normal (upd (upd fr tn (.tu [.atom (.bool false)])) tc (.atom (.bool false))) (st.set m (.map ag ks es)))
 (hu:P.underlying ty=some (.map kt et)) (htm:tm<N:=by decide) (hti:ti<N:=by decide) (htn:tn<N:=by decide) (htc:tc<N:=by decide) (ZL:te<N:=by decide) (Wx:ti≠tn/\ti≠tc/\ti≠te:=by decide)
 (hkE:cW N (⟨some te,.entry (.tmp ti),y5,p5,f5,none⟩::Ze).toArray Ze=true:=by exact rfl):
 AWp P N (.seq (.region ra #[⟨some tm,.move (.tmp tx),y1,p1,f1,none⟩,⟨some ti,.range ty (.tmp tm),y2,p2,f2,none⟩] false) (.block b (.loop (.seq (.region rn #[⟨some tn,.next (.tmp ti) false,y3,p3,f3,none⟩,⟨some tc,.extract (.tmp tn) 0,y4,p4,f4,none⟩] false) (.seq (.cond (.tmp tc) .skip (.exit b)) (.block nx (.seq (.region re (⟨some te,.entry (.tmp ti),y5,p5,f5,none⟩::Ze).toArray false) body))))))) (AK P N Q k) fr st:=by
 intro a w0 g0 hi hr ZH E7;obtain⟨Xl,hlen,Gz,clock,h3,Yf,h5,h6,ZY⟩:=hi.mp m ag ks es hm;have T0:es.length=Gz.length:=by have:=congrArg List.length Yf;simpa using this.symm
 have hv:a.eval (.tmp tx)=.map (some (g0.β m)):=by have h:=aE hr (.tmp tx);simp only[aI,hx,Rep]at h;exact h.1
 have ZK:m<g0.next:=hi.map_lt hm;refine wp_seq (wp_region_list ?_);refine fL rfl (v:=.map (some (g0.β m))) (w':=w0) (by simp[execOp,hv]) ?_;have G5:tm<a.tmps.size:=oO;have Xv:=run_range_map (P:=P) w0 ty kt et (g0.β m) Gz.toArray clock hu h3;refine fL rfl (v:=.pointer (some ⟨w0.heap.size,0,none⟩)) (w':=w0.alloc (.mapIter (some (g0.β m)) clock #[] clock)) (by simp[execOp,eval_put a G5,Xv]) ?_;refine wpList_nil ?_;simp only[Exit.then];refine wp_block (wp_loop_rounds (es.length+1) ?_);obtain⟨g1,hM,hR⟩:=MrS.start hi hm h3 h5 h6 hlen Yf ZY;have O5:ti<(a.put (some tm) (.map (some (g0.β m)))).tmps.size:=by rw[bS];omega
 have hml1:m<g1.next:=hM.lt
 have hr1:dO (w0.alloc (.mapIter (some (g0.β m)) clock #[] clock)) g1 ((a.put (some tm) (.map (some (g0.β m)))).put (some ti) (.pointer (some ⟨w0.heap.size,0,none⟩))) (upd (upd fr tm (.mp m)) ti (itr w0.heap.size)):=
  ((hr.monoR hR).put G5 (by simp only[Rep];exact⟨by rw[hM.β],hml1⟩)).put O5 (by simp only[Rep])
 refine yM (.inl rfl) hT M I hlen Yf ZY hti htn htc ZL Wx hkE (hs w0.heap.size) he es.length _ _ g1 _ (st.set m (.frz ag ks es)) #[] (by rw[vU T0];exact aAi _) hM hr1 (by rw[bS,bS];exact ZH) (by rw[put_defers,put_defers];exact E7) (by simp[upd]) (by rw[vU T0];exact h0 _)
end
end Aw
end Go.Proofs.YtempldclppogmaaGreatDoor
