/- Lemmas. -/
import Derived.Test.YtbgngpdonpeboaaGreatDoorAwMr3
set_option linter.defProp false
namespace Go.Proofs.YtbgngpdonpeboaaGreatDoor
namespace Aw
open Go Go.RowKit
open Go.ChangeMaps (setBlock)
def eval_put(a:Act){d:Nat}(b:d<a.tmps.size)(v:Value):(a.put (some d) v).eval (.tmp d)=v:=by simp[Act.eval,Act.put,ul,b]
theorem Jw{w:World}{g:G}:∀ {b:List (PP×LV)} {c:List MapEntry},aG w g (b.map (·.2)) (c.map (·.val))->∀ q∈b.zip c,Rep w g q.1.2 q.2.val
 |[],_,_,q,a=>by simp_all
 |x::b,[],h,q,a=>by simp_all
 |x::b,e::c,h,q,a=>by
  simp only[ax,aG]at h;obtain⟨v,k,d,j,f⟩:=h;simp only[kX]at d;obtain⟨rfl,rfl⟩:=d;rw[List.zip_cons_cons]at a;rcases ai.1 a with rfl|a
  .omega
  .exact Jw f q a
section
variable {P:Program} {T:bg} {N:Nat} {Q:AQ} {k:List iM}
theorem BD{x:Option Nat}(hx:x=some 0\/x=none)(hT:bE P T){w0:World}{g0:G}{rn re b nx:Nat}{z B C U:Nat}{y3 y4 y5:TypeId}{p3 p4 p5:String}{f3 f4 f5:Array Edge}{body:Code}{j:List Oper}(M:PQ)
 {m b0 r:Nat} {ag:Bool} {l:List IntKind} {f:List (PP×LV)} {y:List MapEntry} {clock:Nat} (I:List (PP×LV)->ah->St->Prop)
 (hlen:∀ p∈f,p.1.length=l.length) (F:y.map (·.key)=f.map fun p=>cg ag l p.1) (A:(∀ x∈y,x.born<clock)/\(y.map (·.born)).Nodup)
 (hti:z<N) (htn:B<N) (htc:C<N) (hte:U<N) (Tv:z≠B/\z≠C/\z≠U)
 (hkE:dJ N (⟨some U,.entry (.tmp z),y5,p5,f5,none⟩::j).toArray j=true)
 (hs:∀ W p X D S,I (W++p::X) D S->D z=mg r->∀ J:ah->St->Prop,(∀ E o,I (W++X) E o->E z=mg r->o.H m=.frz ag l f->J E o)->
   cV P T N (⟨some U,.entry (.tmp z),y5,p5,f5,none⟩::j).toArray M (fun E o=>bq P N body (AK P N (ze P N Q k J nx b m (.frz ag l f) (qj x m (.map ag l f))) []) E o) j (de (de (de D B (.tu [.atom (.bool true),GD ag l p.1,p.2])) C (.atom (.bool true))) U (.tu [GD ag l p.1,p.2])) S)
 (he:∀ D S,I [] D S->AK P N Q k .normal (de (de D B (.tu [.atom (.bool false)])) C (.atom (.bool false))) (qj x m (.map ag l f) S)):
 ∀(n:Nat) (a:Act) (w:World) (g:G) (D:ah) (S:St) (seen:Array Nat),(lft f y seen).length<=n->MrS x w0 g0 m b0 r ag l f y clock w g S seen->eY w g a D->a.tmps.size=N->a.defers=[]->D z=mg r->I (lft f y seen) D S->
  Code.rounds P (.seq (.region rn #[⟨some B,.next (.tmp z) false,y3,p3,f3,none⟩,⟨some C,.extract (.tmp B) 0,y4,p4,f4,none⟩] false) (.seq (.cond (.tmp C) .skip (.exit b)) (.block nx (.seq (.region re (⟨some U,.entry (.tmp z),y5,p5,f5,none⟩::j).toArray false) body)))) (Exit.inBlock b (mP N (AK P N Q k) w0 g0)) (n+1) a w:=by
 have hll:f.length=y.length:=by have:=congrArg List.length F;simpa using this.symm
 intro n;induction n using Nat.strongRecOn with
 |ind n ih=>
 intro a w g D S seen hn hM hr hsz hdf hfi hI;have hti':a.eval (.tmp z)=.pointer (some ⟨r,0,none⟩):=by have h:=aJ hr (.tmp z);simp only[aM,hfi,Rep]at h;exact h
 rw[rounds_succ];refine wp_seq (wp_region_list ?_);obtain⟨c,hc,hit⟩:=hM.it;rcases run_next_at (P:=P) w y3 r b0 clock c seen y.toArray clock hit hM.map (fun x hx=>A.1 x O) hc with⟨h0,u5⟩|⟨e,he',w1,hw1,u5⟩
 .have Z9:lft f y seen=[]:=LC fun x hx=>all_seen y.toArray seen h0 x O;rw[Z9]at hI;refine iG rfl (v:=.tuple #[.bool false]) (w':=w) (by simp[execOp,hti',u5]) ?_;have L:B<a.tmps.size:=O;refine iG rfl (v:=.bool false) (w':=w) (by simp[execOp,eval_put a L,Instr.extract]) ?_;refine wpList_nil ?_;simp only[Exit.then];have R:C<(a.put (some B) (.tuple #[.bool false])).tmps.size:=by rw[cL];omega
  refine wp_seq (wp_cond_split (t:=false) (eval_put _ R _) (fun h=>by cases h) (fun _=>wp_exit ?_));simp only[Exit.then,Exit.inBlock,ef]
  have V:eY w g ((a.put (some B) (.tuple #[.bool false])).put (some C) (.bool false)) (de (de D B (.tu [.atom (.bool false)])) C (.atom (.bool false))):=
   (hr.put L (by grind [Rep,aG])).put R (by grind [Rep])
  obtain⟨h1,h2,h3⟩:=hM.out hx hlen F A V;exact⟨_,_,_,he D S hI,h1,h2,by grind [cL],by grind [put_defers],h3⟩
 .obtain⟨he1,he2⟩:=mem_left he';have he1:e∈y:=by simpa using he1
  obtain⟨p,W,X,hL,hL',hpe⟩:=Jq hll A.2 he1 he2;rw[hL]at hI hn;simp only[cb,List.length_cons]at hn;obtain⟨n',rfl⟩:∃ n',n=n'+1:=⟨n-1,O⟩;obtain⟨K,hR2⟩:=hM.turn hw1 e.born;have V:=hr.monoR hR2
  have hrunE:=run_entry_at (P:=P) (setBlock w1 r (.mapIter (some b0) clock (seen.push e.born) clock)) r b0 clock seen y.toArray clock e
   (by obtain⟨c',_,h⟩:=K.it;grind [setBlock]) K.map O (by grind)
  have hkeyE:e.key=cg ag l p.1:=by
   have h1:(f.zip y).map (fun q=>q.2.key)=(f.zip y).map fun q=>cg ag l q.1.1:=by
    have e1:(f.zip y).map (fun q=>q.2.key)=y.map (·.key):=by
     have:(f.zip y).map (fun q=>q.2.key)=((f.zip y).map (·.2)).map (·.key):=by rw[dC];rfl
     rw[this,xc O]
    have e2:((f.zip y).map fun q=>cg ag l q.1.1)=f.map fun q=>cg ag l q.1:=by
     have:((f.zip y).map fun q=>cg ag l q.1.1)=((f.zip y).map (·.1)).map fun q=>cg ag l q.1:=by rw[dC];rfl
     rw[this,AN O]
    rw[e1,e2,F]
   exact(List.map_inj_left.1 h1) (p,e) hpe
  have hvalE:∀ w g,aG w g (f.map (·.2)) (y.map (·.val))->Rep w g p.2 e.val:=fun w g h=>Jw h _ hpe;generalize hw2:setBlock w1 r (.mapIter (some b0) clock (seen.push e.born) clock)=w2 at *;refine iG rfl (v:=.tuple #[.bool true,e.key,e.val]) (w':=w2) (by simp[execOp,hti',u5]) ?_;have L:B<a.tmps.size:=O;refine iG rfl (v:=.bool true) (w':=w2) (by simp[execOp,eval_put a L,Instr.extract]) ?_;refine wpList_nil ?_;simp only[Exit.then];have R:C<(a.put (some B) (.tuple #[.bool true,e.key,e.val])).tmps.size:=by rw[cL];omega
  refine wp_seq (wp_cond_split (t:=true) (eval_put _ R _) (fun _=>wp_skip ?_) (fun h=>by cases h));simp only[Exit.then];refine wp_block (wp_seq (wp_region_list ?_));have hs3:U<((a.put (some B) (.tuple #[.bool true,e.key,e.val])).put (some C) (.bool true)).tmps.size:=by rw[cL,cL];omega
  have hke:=Vv w2 g ag l p.1;rw[<- hkeyE]at hke;have hve:=hvalE w2 g K.vals
  have hr3:eY w2 g (((a.put (some B) (.tuple #[.bool true,e.key,e.val])).put (some C) (.bool true)).put (some U) (.tuple #[e.key,e.val])) (de (de (de D B (.tu [.atom (.bool true),GD ag l p.1,p.2])) C (.atom (.bool true))) U (.tu [GD ag l p.1,p.2])):=
   ((V.put L (by grind [Rep,aG])).put R (by grind [Rep])).put hs3 (by grind [Rep,aG])
  refine iG rfl (v:=.tuple #[e.key,e.val]) (w':=w2) ?_ ?_
  .have hit2:((a.put (some B) (.tuple #[.bool true,e.key,e.val])).put (some C) (.bool true)).eval (.tmp z)=.pointer (some ⟨r,0,none⟩):=by have h:=aJ ((V.put L (v:=.tuple #[.bool true,e.key,e.val]) (lv:=.dead) (by grind [Rep])).put R (v:=.bool true) (lv:=.dead) (by grind [Rep])) (.tmp z);simp only[aM,de,aa Tv.1,aa Tv.2.1,hfi,Rep]at h;exact h
   simp[execOp,hit2,hrunE]
  have hA:=nK (N:=N) (M:=M) hT (Q:=fun e E o=>e=.normal/\bq P N body (AK P N (ze P N Q k (fun E o=>I (W++X) E o/\E z=mg r/\o.H m=.frz ag l f) nx b m (.frz ag l f) (qj x m (.map ag l f))) []) E o) (fun _ _ h=>⟨rfl,h⟩) j _ _ hkE (hs W p X D S hI hfi (fun E o=>I (W++X) E o/\E z=mg r/\o.H m=.frz ag l f) fun _ _ h1 h2 h3=>⟨h1,h2,h3⟩);refine eN ?_ _ _ _ (hA _ w2 g K.inv hr3 (by grind [cL]) (by grind [put_defers]));rintro e' a' w' ⟨E,o,g',⟨rfl,hB⟩,hi',hr',hs',hd',hx'⟩;simp only[Exit.then];refine Code.wp_mono ?_ (hB a' w' g' hi' hr' hs' hd');rintro e'' a'' w'' ⟨s,d,g'',hq,hi'',hr'',hs'',hd'',hx''⟩
  have hgo:I (W++X) s d/\s z=mg r/\d.H m=.frz ag l f->Code.rounds P (.seq (.region rn #[⟨some B,.next (.tmp z) false,y3,p3,f3,none⟩,⟨some C,.extract (.tmp B) 0,y4,p4,f4,none⟩] false) (.seq (.cond (.tmp C) .skip (.exit b)) (.block nx (.seq (.region re (⟨some U,.entry (.tmp z),y5,p5,f5,none⟩::j).toArray false) body)))) (Exit.inBlock b (mP N (AK P N Q k) w0 g0)) (n'+1) a'' w'':=fun⟨h1,h2,h3⟩=>
   ih n' O a'' w'' g'' s d (seen.push e.born) (by grind) (K.step (hx'.trans hx'') hi'' h3) hr'' hs'' hd'' h2 (by grind)
  have hout:∀ e,d.H m=.frz ag l f/\AK P N Q k e s (qj x m (.map ag l f) d)->mP N (AK P N Q k) w0 g0 e a'' w'':=fun e h=>by obtain⟨h1,h2,h3⟩:=(K.step (hx'.trans hx'') hi'' h.1).out hx hlen F A hr'';exact⟨_,_,_,h.2,h1,h2,hs'',hd'',h3⟩
  cases e'' with
  |normal=>exact hgo hq
  |exit i=>
   have hq':(if i=nx then(I (W++X) s d/\s z=mg r/\d.H m=.frz ag l f)else if i=b then d.H m=.frz ag l f/\AK P N Q k .normal s (qj x m (.map ag l f) d)else d.H m=.frz ag l f/\AK P N Q k (.exit i) s (qj x m (.map ag l f) d)):=hq
   grind [Exit.inBlock,Exit.then]
  |_=>exact hout _ hq
theorem Gl(hT:bE P T){g:ah}{f:St}{ra rn re b nx:Nat}{D s d y w x:Nat}{ty kt et y1 y2 y3 y4 y5:TypeId}{p1 p2 p3 p4 p5:String}{f1 f2 f3 f4 E:Array Edge}{body:Code}{c:List Oper}(M:PQ)
 {m:Nat} {ag:Bool} {o:List IntKind} {e:List (PP×LV)} (I:List (PP×LV)->ah->St->Prop)
 (hx:g D=.mp m) (S:f.H m=.map ag o e)
 (h0:∀ r,I e (de (de g s (.mp m)) d (mg r)) (f.set m (.frz ag o e)))
 (hs:∀ r L1 p L2 g f,I (L1++p::L2) g f->g d=mg r->∀ J:ah->St->Prop,(∀ A n,I (L1++L2) A n->A d=mg r->n.H m=.frz ag o e->J A n)->
   cV P T N (⟨some x,.entry (.tmp d),y5,p5,E,none⟩::c).toArray M (fun A n=>bq P N body (AK P N (ze P N Q k J nx b m (.frz ag o e) fun f=>f.set m (.map ag o e)) []) A n) c (de (de (de g y (.tu [.atom (.bool true),GD ag o p.1,p.2])) w (.atom (.bool true))) x (.tu [GD ag o p.1,p.2])) f)
 (he:∀ g f,I [] g f->AK P N Q k .normal (de (de g y (.tu [.atom (.bool false)])) w (.atom (.bool false))) (f.set m (.map ag o e)))
 (hu:P.underlying ty=some (.map kt et)) (htm:s<N:=by decide) (hti:d<N:=by decide) (htn:y<N:=by decide) (W:w<N:=by decide) (X:x<N:=by decide) (Tv:d≠y/\d≠w/\d≠x:=by decide)
 (R:dJ N (⟨some x,.entry (.tmp d),y5,p5,E,none⟩::c).toArray c=true:=by exact rfl):
 bq P N (.seq (.region ra #[⟨some s,.move (.tmp D),y1,p1,f1,none⟩,⟨some d,.range ty (.tmp s),y2,p2,f2,none⟩] false) (.block b (.loop (.seq (.region rn #[⟨some y,.next (.tmp d) false,y3,p3,f3,none⟩,⟨some w,.extract (.tmp y) 0,y4,p4,f4,none⟩] false) (.seq (.cond (.tmp w) .skip (.exit b)) (.block nx (.seq (.region re (⟨some x,.entry (.tmp d),y5,p5,E,none⟩::c).toArray false) body))))))) (AK P N Q k) g f:=by
 intro a t g0 L hr hsz hdf;obtain⟨v8,q,dK,clock,h3,l,h5,h6,j⟩:=L.mp m ag o e S;have hll:e.length=dK.length:=by have:=congrArg List.length l;simpa using this.symm
 have hv:a.eval (.tmp D)=.map (some (g0.β m)):=by have h:=aJ hr (.tmp D);simp only[aM,hx,Rep]at h;exact h.1
 have hml:m<g0.z:=L.map_lt S;refine wp_seq (wp_region_list ?_);refine iG rfl (v:=.map (some (g0.β m))) (w':=t) (by simp[execOp,hv]) ?_;have C:s<a.tmps.size:=O;have u5:=run_range_map (P:=P) t ty kt et (g0.β m) dK.toArray clock hu h3;refine iG rfl (v:=.pointer (some ⟨t.heap.size,0,none⟩)) (w':=t.alloc (.mapIter (some (g0.β m)) clock #[] clock)) (by simp[execOp,eval_put a C,u5]) ?_;refine wpList_nil ?_;simp only[Exit.then];refine wp_block (wp_loop_rounds (e.length+1) ?_);obtain⟨F,K,hR⟩:=MrS.start L S h3 h5 h6 q l j;have V:d<(a.put (some s) (.map (some (g0.β m)))).tmps.size:=by rw[cL];omega
 have B:m<F.z:=K.lt
 have U:eY (t.alloc (.mapIter (some (g0.β m)) clock #[] clock)) F ((a.put (some s) (.map (some (g0.β m)))).put (some d) (.pointer (some ⟨t.heap.size,0,none⟩))) (de (de g s (.mp m)) d (mg t.heap.size)):=
  ((hr.monoR hR).put C (by simp only[Rep];exact⟨by rw[K.β],B⟩)).put V (by grind [Rep])
 refine BD (.inl rfl) hT M I q l j hti htn W X Tv R (hs t.heap.size) he e.length _ _ F _ (f.set m (.frz ag o e)) #[] (by grind [AX]) K U (by grind [cL]) (by grind [put_defers]) (by simp[de]) (by grind [AX])
end
end Aw
end Go.Proofs.YtbgngpdonpeboaaGreatDoor
