/- Ranging over a map: the rule for the loop. No program is named here. -/
import Derived.Test.YtbgngpdonpeboaaGreatDoorAwMr3
set_option linter.defProp false
set_option linter.unusedVariables false
set_option linter.unusedSimpArgs false
namespace Go.Proofs.YtbgngpdonpeboaaGreatDoor
namespace Aw
open Go Go.RowKit
open Go.ChangeMaps (setBlock)
def eval_put(a:Act){d:Nat}(b:d<a.tmps.size)(v:Value):(a.put (some d) v).eval (.tmp d)=v:=by simp[Act.eval,Act.put,jz,b]
theorem Hx{w:World}{g:G}:∀ {b:List (AN×LV)} {c:List MapEntry},aC w g (b.map (·.2)) (c.map (·.val))->∀ q∈b.zip c,Rep w g q.1.2 q.2.val
 |[],_,_,q,a=>by simp_all
 |x::b,[],h,q,a=>by simp_all
 |x::b,e::c,h,q,a=>by
  simp only[ax,aC]at h;obtain⟨v,k,d,j,f⟩:=h;simp only[jx]at d;obtain⟨rfl,rfl⟩:=d;rw[List.zip_cons_cons]at a;rcases ah.1 a with rfl|a
  .omega
  .exact Hx f q a
section
variable {P:Program} {T:az} {N:Nat} {Q:AQ} {k:List gQ}
theorem yN{x:Option Nat}(hx:x=some 0\/x=none)(hT:aZ P T){w0:World}{g0:G}{rn re b nx:Nat}{y z A F:Nat}{y3 y4 y5:TypeId}{p3 p4 p5:String}{f3 f4 f5:Array Edge}{body:Code}{Q6:List Oper}(M:List Nat)
 {m b0 r:Nat} {ag:Bool} {j:List IntKind} {f:List (AN×LV)} {s:List MapEntry} {clock:Nat} (I:List (AN×LV)->af->St->Prop)
 (V:∀ p∈f,p.1.length=j.length) (L6:s.map (·.key)=f.map fun p=>cj ag j p.1) (Q1:(∀ x∈s,x.born<clock)/\(s.map (·.born)).Nodup)
 (hti:y<N) (htn:z<N) (htc:A<N) (S2:F<N) (c7:y≠z/\y≠A/\y≠F)
 (hkE:cR N (⟨some F,.entry (.tmp y),y5,p5,f5,none⟩::Q6).toArray Q6=true)
 (hs:∀ L p O B E,I (L++p::O) B E->B y=lc r->∀ J:af->St->Prop,(∀ UK l,I (L++O) UK l->UK y=lc r->l.H m=.frz ag j f->J UK l)->
   cG P T N (⟨some F,.entry (.tmp y),y5,p5,f5,none⟩::Q6).toArray M (fun UK l=>bq P N body (AK P N (xe P N Q k J nx b m (.frz ag j f) (om x m (.map ag j f))) []) UK l) Q6 (cY (cY (cY B z (.tu [.atom (.bool true),Fg ag j p.1,p.2])) A (.atom (.bool true))) F (.tu [Fg ag j p.1,p.2])) E)
 (he:∀ B E,I [] B E->AK P N Q k .normal (cY (cY B z (.tu [.atom (.bool false)])) A (.atom (.bool false))) (om x m (.map ag j f) E)):
 ∀(n:Nat) (a:Act) (w:World) (g:G) (B:af) (E:St) (seen:Array Nat),(lft f s seen).length<=n->MrS x w0 g0 m b0 r ag j f s clock w g E seen->dY w g a B->a.tmps.size=N->a.defers=[]->B y=lc r->I (lft f s seen) B E->
  Code.rounds P (.seq (.region rn #[⟨some z,.next (.tmp y) false,y3,p3,f3,none⟩,⟨some A,.extract (.tmp z) 0,y4,p4,f4,none⟩] false) (.seq (.cond (.tmp A) .skip (.exit b)) (.block nx (.seq (.region re (⟨some F,.entry (.tmp y),y5,p5,f5,none⟩::Q6).toArray false) body)))) (Exit.inBlock b (lB N (AK P N Q k) w0 g0)) (n+1) a w:=by
 have hll:f.length=s.length:=by have:=congrArg List.length L6;simpa using this.symm
 intro n;induction n using Nat.strongRecOn with
 |ind n ih=>
 intro a w g B E seen hn hM hr U8 hdf hfi hI;have Y:a.eval (.tmp y)=.pointer (some ⟨r,0,none⟩):=by have h:=aD hr (.tmp y);simp only[aI,hfi,Rep]at h;exact h
 rw[rounds_succ];refine wp_seq (wp_region_list ?_);obtain⟨c,hc,hit⟩:=hM.it;rcases run_next_at (P:=P) w y3 r b0 clock c seen s.toArray clock hit hM.map (fun x hx=>Q1.1 x oO) hc with⟨h0,r9⟩|⟨e,he',w1,P6,r9⟩
 .have y9:lft f s seen=[]:=JD fun x hx=>all_seen s.toArray seen h0 x oO;rw[y9]at hI;refine gD rfl (v:=.tuple #[.bool false]) (w':=w) (by simp[execOp,Y,r9]) ?_;have C:z<a.tmps.size:=oO;refine gD rfl (v:=.bool false) (w':=w) (by simp[execOp,eval_put a C,Instr.extract]) ?_;refine wpList_nil ?_;simp only[Exit.then];have D:A<(a.put (some z) (.tuple #[.bool false])).tmps.size:=by rw[cF];omega
  refine wp_seq (wp_cond_split (t:=false) (eval_put _ D _) (fun h=>by cases h) (fun _=>wp_exit ?_));simp only[Exit.then,Exit.inBlock,dE]
  have K:dY w g ((a.put (some z) (.tuple #[.bool false])).put (some A) (.bool false)) (cY (cY B z (.tu [.atom (.bool false)])) A (.atom (.bool false))):=
   (hr.put C (by grind [Rep,aC])).put D (by grind [Rep])
  obtain⟨R,h2,h3⟩:=hM.out hx V L6 Q1 K;exact⟨_,_,_,he B E hI,R,h2,by grind [cF],by grind [put_defers],h3⟩
 .obtain⟨X9,he2⟩:=mem_left he';have X9:e∈s:=by simpa using X9
  obtain⟨p,L,O,hL,hL',O8⟩:=HF hll Q1.2 X9 he2;rw[hL]at hI hn;simp only[cf,List.length_cons]at hn;obtain⟨n',rfl⟩:∃ n',n=n'+1:=⟨n-1,oO⟩;obtain⟨P9,hR2⟩:=hM.turn P6 e.born;have K:=hr.monoR hR2
  have hrunE:=run_entry_at (P:=P) (setBlock w1 r (.mapIter (some b0) clock (seen.push e.born) clock)) r b0 clock seen s.toArray clock e
   (by obtain⟨c',_,h⟩:=P9.it;grind [setBlock]) P9.map oO (by grind)
  have hkeyE:e.key=cj ag j p.1:=by
   have R:(f.zip s).map (fun q=>q.2.key)=(f.zip s).map fun q=>cj ag j q.1.1:=by
    have e1:(f.zip s).map (fun q=>q.2.key)=s.map (·.key):=by
     have:(f.zip s).map (fun q=>q.2.key)=((f.zip s).map (·.2)).map (·.key):=by rw[dy];rfl
     rw[this,ur oO]
    have e2:((f.zip s).map fun q=>cj ag j q.1.1)=f.map fun q=>cj ag j q.1:=by
     have:((f.zip s).map fun q=>cj ag j q.1.1)=((f.zip s).map (·.1)).map fun q=>cj ag j q.1:=by rw[dy];rfl
     rw[this,xw oO]
    rw[e1,e2,L6]
   exact(List.map_inj_left.1 R) (p,e) O8
  have hvalE:∀ w g,aC w g (f.map (·.2)) (s.map (·.val))->Rep w g p.2 e.val:=fun w g h=>Hx h _ O8;generalize J7:setBlock w1 r (.mapIter (some b0) clock (seen.push e.born) clock)=w2 at *;refine gD rfl (v:=.tuple #[.bool true,e.key,e.val]) (w':=w2) (by simp[execOp,Y,r9]) ?_;have C:z<a.tmps.size:=oO;refine gD rfl (v:=.bool true) (w':=w2) (by simp[execOp,eval_put a C,Instr.extract]) ?_;refine wpList_nil ?_;simp only[Exit.then];have D:A<(a.put (some z) (.tuple #[.bool true,e.key,e.val])).tmps.size:=by rw[cF];omega
  refine wp_seq (wp_cond_split (t:=true) (eval_put _ D _) (fun _=>wp_skip ?_) (fun h=>by cases h));simp only[Exit.then];refine wp_block (wp_seq (wp_region_list ?_));have hs3:F<((a.put (some z) (.tuple #[.bool true,e.key,e.val])).put (some A) (.bool true)).tmps.size:=by rw[cF,cF];omega
  have hke:=VQ w2 g ag j p.1;rw[<- hkeyE]at hke;have hve:=hvalE w2 g P9.vals
  have hr3:dY w2 g (((a.put (some z) (.tuple #[.bool true,e.key,e.val])).put (some A) (.bool true)).put (some F) (.tuple #[e.key,e.val])) (cY (cY (cY B z (.tu [.atom (.bool true),Fg ag j p.1,p.2])) A (.atom (.bool true))) F (.tu [Fg ag j p.1,p.2])):=
   ((K.put C (by grind [Rep,aC])).put D (by grind [Rep])).put hs3 (by grind [Rep,aC])
  refine gD rfl (v:=.tuple #[e.key,e.val]) (w':=w2) ?_ ?_
  .have hit2:((a.put (some z) (.tuple #[.bool true,e.key,e.val])).put (some A) (.bool true)).eval (.tmp y)=.pointer (some ⟨r,0,none⟩):=by have h:=aD ((K.put C (v:=.tuple #[.bool true,e.key,e.val]) (lv:=.dead) (by grind [Rep])).put D (v:=.bool true) (lv:=.dead) (by grind [Rep])) (.tmp y);simp only[aI,cY,ac c7.1,ac c7.2.1,hfi,Rep]at h;exact h
   simp[execOp,hit2,hrunE]
  have hA:=mC (N:=N) (M:=M) hT (Q:=fun e UK l=>e=.normal/\bq P N body (AK P N (xe P N Q k (fun UK l=>I (L++O) UK l/\UK y=lc r/\l.H m=.frz ag j f) nx b m (.frz ag j f) (om x m (.map ag j f))) []) UK l) (fun _ _ h=>⟨rfl,h⟩) Q6 _ _ hkE (hs L p O B E hI hfi (fun UK l=>I (L++O) UK l/\UK y=lc r/\l.H m=.frz ag j f) fun _ _ R h2 h3=>⟨R,h2,h3⟩);refine dV ?_ _ _ _ (hA _ w2 g P9.inv hr3 (by grind [cF]) (by grind [put_defers]));rintro e' a' w' ⟨UK,l,g',⟨rfl,hB⟩,K7,P8,T0,O9,S4⟩;simp only[Exit.then];refine Code.wp_mono ?_ (hB a' w' g' K7 P8 T0 O9);rintro e'' a'' w'' ⟨o,d,g'',hq,U,W,X,S,Z⟩
  have hgo:I (L++O) o d/\o y=lc r/\d.H m=.frz ag j f->Code.rounds P (.seq (.region rn #[⟨some z,.next (.tmp y) false,y3,p3,f3,none⟩,⟨some A,.extract (.tmp z) 0,y4,p4,f4,none⟩] false) (.seq (.cond (.tmp A) .skip (.exit b)) (.block nx (.seq (.region re (⟨some F,.entry (.tmp y),y5,p5,f5,none⟩::Q6).toArray false) body)))) (Exit.inBlock b (lB N (AK P N Q k) w0 g0)) (n'+1) a'' w'':=fun⟨R,h2,h3⟩=>
   ih n' oO a'' w'' g'' o d (seen.push e.born) (by grind) (P9.step (S4.trans Z) U h3) W X S h2 (by grind)
  have K1:∀ e,d.H m=.frz ag j f/\AK P N Q k e o (om x m (.map ag j f) d)->lB N (AK P N Q k) w0 g0 e a'' w'':=fun e h=>by obtain⟨R,h2,h3⟩:=(P9.step (S4.trans Z) U h.1).out hx V L6 Q1 W;exact⟨_,_,_,h.2,R,h2,X,S,h3⟩
  cases e'' with
  |normal=>exact hgo hq
  |exit i=>
   have hq':(if i=nx then(I (L++O) o d/\o y=lc r/\d.H m=.frz ag j f)else if i=b then d.H m=.frz ag j f/\AK P N Q k .normal o (om x m (.map ag j f) d)else d.H m=.frz ag j f/\AK P N Q k (.exit i) o (om x m (.map ag j f) d)):=hq
   grind [Exit.inBlock,Exit.then]
  |_=>exact K1 _ hq
theorem EV(hT:aZ P T){f:af}{e:St}{ra rn re b nx:Nat}{A n c t q s:Nat}{X kt et y1 y2 y3 y4 Y:TypeId}{p1 p2 p3 p4 W:String}{f1 f2 f3 f4 C:Array Edge}{body:Code}{w:List Oper}(M:List Nat)
 {m:Nat} {ag:Bool} {j:List IntKind} {d:List (AN×LV)} (I:List (AN×LV)->af->St->Prop)
 (hx:f A=.mp m) (L:e.H m=.map ag j d)
 (h0:∀ r,I d (cY (cY f n (.mp m)) c (lc r)) (e.set m (.frz ag j d)))
 (hs:∀ r Z p L2 f e,I (Z++p::L2) f e->f c=lc r->∀ J:af->St->Prop,(∀ UK g,I (Z++L2) UK g->UK c=lc r->g.H m=.frz ag j d->J UK g)->
   cG P T N (⟨some s,.entry (.tmp c),Y,W,C,none⟩::w).toArray M (fun UK g=>bq P N body (AK P N (xe P N Q k J nx b m (.frz ag j d) fun e=>e.set m (.map ag j d)) []) UK g) w (cY (cY (cY f t (.tu [.atom (.bool true),Fg ag j p.1,p.2])) q (.atom (.bool true))) s (.tu [Fg ag j p.1,p.2])) e)
 (he:∀ f e,I [] f e->AK P N Q k .normal (cY (cY f t (.tu [.atom (.bool false)])) q (.atom (.bool false))) (e.set m (.map ag j d)))
 (hu:P.underlying X=some (.map kt et)) (htm:n<N:=by decide) (U:c<N:=by decide) (V:t<N:=by decide) (S:q<N:=by decide) (S2:s<N:=by decide) (c7:c≠t/\c≠q/\c≠s:=by decide)
 (K:cR N (⟨some s,.entry (.tmp c),Y,W,C,none⟩::w).toArray w=true:=by exact rfl):
 bq P N (.seq (.region ra #[⟨some n,.move (.tmp A),y1,p1,f1,none⟩,⟨some c,.range X (.tmp n),y2,p2,f2,none⟩] false) (.block b (.loop (.seq (.region rn #[⟨some t,.next (.tmp c) false,y3,p3,f3,none⟩,⟨some q,.extract (.tmp t) 0,y4,p4,f4,none⟩] false) (.seq (.cond (.tmp q) .skip (.exit b)) (.block nx (.seq (.region re (⟨some s,.entry (.tmp c),Y,W,C,none⟩::w).toArray false) body))))))) (AK P N Q k) f e:=by
 intro a o g0 F hr U8 hdf;obtain⟨v8,l,cW,clock,h3,B,h5,h6,Q1⟩:=F.mp m ag j d L;have hll:d.length=cW.length:=by have:=congrArg List.length B;simpa using this.symm
 have hv:a.eval (.tmp A)=.map (some (g0.β m)):=by have h:=aD hr (.tmp A);simp only[aI,hx,Rep]at h;exact h.1
 have N8:m<g0.z:=F.map_lt L;refine wp_seq (wp_region_list ?_);refine gD rfl (v:=.map (some (g0.β m))) (w':=o) (by simp[execOp,hv]) ?_;have y:n<a.tmps.size:=oO;have r9:=run_range_map (P:=P) o X kt et (g0.β m) cW.toArray clock hu h3;refine gD rfl (v:=.pointer (some ⟨o.heap.size,0,none⟩)) (w':=o.alloc (.mapIter (some (g0.β m)) clock #[] clock)) (by simp[execOp,eval_put a y,r9]) ?_;refine wpList_nil ?_;simp only[Exit.then];refine wp_block (wp_loop_rounds (d.length+1) ?_);obtain⟨D,E,hR⟩:=MrS.start F L h3 h5 h6 l B Q1;have R:c<(a.put (some n) (.map (some (g0.β m)))).tmps.size:=by rw[cF];omega
 have x:m<D.z:=E.lt
 have O:dY (o.alloc (.mapIter (some (g0.β m)) clock #[] clock)) D ((a.put (some n) (.map (some (g0.β m)))).put (some c) (.pointer (some ⟨o.heap.size,0,none⟩))) (cY (cY f n (.mp m)) c (lc o.heap.size)):=
  ((hr.monoR hR).put y (by simp only[Rep];exact⟨by rw[E.β],x⟩)).put R (by grind [Rep])
 refine yN (.inl rfl) hT M I l B Q1 U V S S2 c7 K (hs o.heap.size) he d.length _ _ D _ (e.set m (.frz ag j d)) #[] (by grind [vV]) E O (by grind [cF]) (by grind [put_defers]) (by simp[cY]) (by grind [vV])
end
end Aw
end Go.Proofs.YtbgngpdonpeboaaGreatDoor
