/-
  Proved: whatever the input, the law PlaneLess returns true (the statement Rows.PlaneLessSaid), with no condition beyond the statement's own.
  (The shell is written by a program, after the kit's proof-skeleton.mjs; the walk is by the contracts of the imported texts.)
-/
import Derived.Test.YtbgngpdonpeboaaGreatDoorRows
import Derived.Test.YtbgngpdonpeboaaGreatDoorTie
import Derived.Test.YtbgngpdonpeboaaGreatDoorCards
import Derived.SevenTiedAt
import Derived.WalkKit
import Derived.ProofKit
import Derived.OpenShut
import Derived.ChangeOld
import Derived.Below
import Derived.Carry
import Derived.LaidMore
import Derived.Stop.Joined
import Derived.Test.YtbgngpdonpeboaaGreatDoorAwArg
import Derived.Test.YtbgngpdonpeboaaGreatDoorJp
namespace Go.Proofs.YtbgngpdonpeboaaGreatDoor.planeLess
open Go.ChangeShapes Go.WideShapes Go.ChangeAt Go.WideMaps Go.WideElems Go.RowKit
set_option linter.unusedVariables false

theorem own:ownKnob Tryz.prog.godebug=none:=by kernel_rfl
theorem laidOut:laidOutB Tryz.prog=true:=by kernel_rfl

abbrev IQ:List (String×DataW Unit):=[("math/bits.deBruijn64tab",Rows.laid_math_bits_deBruijn64tab)]
theorem C4:Tryz.prog.globalNamed "math/bits.deBruijn64tab"=some 0:=by kernel_rfl
theorem C2:(Tryz.prog.globals[0]?).map (·.type)=some 200:=by kernel_rfl
theorem SZ(os:Os)(args:Array Value):laidMetH Tryz.prog IQ ((World.doorLaid Tryz.prog 400 os).forCall (fun _ _=>0) ⟨#[],args,[]⟩).memory:=
 laidMetH_of_parts3 (fuel:=8) (laidMet_of_run' 8 (by kernel_rfl) (by kernel_rfl)) (by kernel_rfl) (by kernel_rfl)
theorem UK{W:World}(h:laidMetH Tryz.prog IQ W):Aw.iA W Aw.g0:=by
 rw[MakeChecks.laidMetH_plain _ _ _ (by kernel_rfl)]at h
 obtain⟨ps,⟨g0,t0,cs0,f0,p0,q0,hg0,ht0,hv0,hd0,_⟩,_,_⟩:=h
 obtain rfl:=Option.some.inj (C4.symm.trans hg0)
 obtain rfl:=Option.some.inj (C2.symm.trans ht0)
 obtain⟨xs,m1,rfl,hx1,hlen,hn3,hel⟩:=DataW.trod_array Tryz.underlying200 hd0
 have hL0:xs.map (·.1)=Lib.deBruijn64tab.map fun(n:Nat)=>(.lit (.int .u8 n):DataW Unit):=by
  have h1:=(Prod.mk.inj hx1).1
  have h2:(Rows.laid_math_bits_deBruijn64tab:DataW Unit)=.agg (Lib.deBruijn64tab.map fun(n:Nat)=>.lit (.int .u8 n)):=by rfl
  rw[h2]at h1
  exact(DataW.agg.inj h1).symm
 intro T hT j v hv
 unfold Aw.Ga at hT
 rw[List.mem_singleton]at hT
 subst hT
 simp only at hv ⊢
 refine⟨?_,trivial⟩
 rw[List.getElem?_map]at hv
 obtain⟨n,hn,rfl⟩:=Option.map_eq_some_iff.1 hv
 have hj:j<64:=(List.getElem?_eq_some_iff.1 hn).1
 have c5:Tryz.prog.cellsOf 5=1:=by kernel_rfl
 have h:=hel j hj
 rw[c5,Nat.mul_one,List.getElem?_eq_getElem (by omega:j<xs.length)]at h
 obtain⟨k,e1,e2,_⟩:=DataW.trod_int Tryz.underlying5 h
 have hk:(xs.map (·.1))[j]?=some (.lit (.int .u8 n)):=by rw[hL0,List.getElem?_map,hn];rfl
 rw[List.getElem?_map,List.getElem?_eq_getElem (by omega:j<xs.length),e2]at hk
 have hkn:k=n:=by simpa using hk
 have hc:=World.var?_cell hg0 hv0 j
 rw[hc]
 have h3:cs0.toList[j]?=some (.int .u8 k):=by
  have:=congrArg List.head? e1
  rw[List.head?_take,List.head?_drop]at this
  simpa using this
 rw[hkn]at h3
 simpa using h3

theorem walk(l0:List Aw.LV)(l1:List Aw.LV)(v0:Value)(v1:Value)(w:World)(hG:Aw.iA w Aw.g0)(s0:Aw.Shp Aw.tab 25 l0)(s1:Aw.Shp Aw.tab 5 l1)(r0:Aw.Rep w Aw.g0 (Aw.Ex Aw.tab 25 l0) v0)(r1:Aw.Rep w Aw.g0 (Aw.Ex Aw.tab 5 l1) v1):
 Calls Tryz.prog 4 #[v0,v1] w fun e w'=>e=.returned (.bool true)∧Below w.heap.size w w':=by
 have h:=Aw.yO hG (P:=Tryz.prog) (w:=w) (R:=fun v=>v=.bool true) (args:=[Aw.Ex Aw.tab 25 l0,Aw.Ex Aw.tab 5 l1]) (vs:=[v0,v1]) (f:=4) (by simp only[Aw.aC];exact⟨_,_,rfl,r0,⟨_,_,rfl,r1,rfl⟩⟩)
  ((Aw.Ch l0 l1 ⟨1,fun _=>.dead⟩ s0 s1).mono fun r st' h=>⟨_,h,rfl⟩)
 exact h.mono fun e w' h=>⟨by obtain⟨v,rfl,rfl⟩:=h.1;rfl,h.2⟩

set_option maxRecDepth 100000 in
theorem lifted(os:Os)(started:os.Started)(H:Type)(enc:TypeId×Value→H):
 ReturnsInHanded {} Tryz.checked os 4 .any (fun w args=>(Rows.planeLessSpec.pre enc Tryz.prog Tryz.f4 [] false w args∧laidMetH Tryz.prog IQ w)∧sizedMet enc Tryz.prog Tryz.f4 (OpenSpec.ofChange Rows.planeLessSpec) false w args) (Rows.planeLessSpec.post enc Tryz.prog Tryz.f4 false true false false):=by
 refine returnsInHanded_of_change_and (C:=Tryz.checked) (X:=fun w _=>laidMetH Tryz.prog IQ w) (fun _ _ _ hh h=>h.of_heap hh) own started (by kernel_rfl) Tryz.func4
  (ChangeSpec.witness_shaped (enc:=enc) (C:=Tryz.checked) (os:=os) (X:=fun w _=>laidMetH Tryz.prog IQ w) false (World.doorLaid Tryz.prog 400 os) #[.agg #[.slice none 0 0,.slice none 0 0],.int .u8 0] 8 rfl (World.shaped_of_RefB (by kernel_rfl) (by kernel_rfl)) (by kernel_rfl) (by kernel_rfl) (by kernel_rfl) (SZ os _)) ?_
 intro W base args ds gs before hval0 hW _ _ hL _
 have hval:∀(j:Nat) t v,Tryz.f4.params[j]?=some t→args[j]?=some v→Value.okWide Tryz.prog W .any base t v:=hval0
 have hW':=hW
 obtain⟨p,q,hA0,hV,rfl,hfz,hnd⟩:=hW
 have hA:DataW.TrodAll enc Tryz.prog W 0 (fun _=>true) true Tryz.f4.params.toList args.toList ds p:=hA0
 rw[Tryz.params4]at hA hval
 obtain⟨v0,vs0,d0,ds0,p0,q0,hargs,rfl,rfl,h0,r0⟩:=trodAll_cons hA
 obtain⟨v1,vs1,d1,ds1,p1,q1,rfl,rfl,rfl,h1,r1⟩:=trodAll_cons r0
 obtain⟨rfl,rfl,rfl⟩:=trodAll_nil r1
 obtain rfl:args=#[v0,v1]:=by cases args;simp_all
 obtain⟨rfl,rfl⟩:=trodVars_none hV
 have lt0:∀ x∈p0,x.block<W.heap.size:=by obtain⟨m,hm⟩:=h0;exact DataW.trod_lt m _ _ _ hm
 obtain⟨l0,s0,e0⟩:=Aw.MF (P:=Tryz.prog) (d:=9) Aw.lV (t:=25) rfl (by kernel_rfl) (hval 0 25 v0 rfl rfl) h0 ⟨fun _=>⟨_,rfl⟩,fun _=>rfl⟩
 have lt1:∀ x∈p1,x.block<W.heap.size:=by obtain⟨m,hm⟩:=h1;exact DataW.trod_lt m _ _ _ hm
 obtain⟨l1,s1,e1⟩:=Aw.MF (P:=Tryz.prog) (d:=9) Aw.lV (t:=5) rfl (by kernel_rfl) (hval 1 5 v1 rfl rfl) h1 ⟨fun h=>(by cases h),fun h=>(by obtain⟨_,h⟩:=h;cases h)⟩
 clear hA0 hval0
 refine(walk l0 l1 v0 v1 W (UK hL) s0 s1 e0 e1).mono fun e W' ⟨he,bel⟩=>?_
 subst he
 exact⟨_,rfl,_,_,_,[],_,[],hW',trodAll_mk1 (shut_bool Tryz.underlying4 _),(trodAll_cons_mk (Below.trod laidOut (by kernel_rfl) (of_decide_eq_true (by kernel_rfl)) h0 bel lt0) (trodAll_cons_mk (Below.trod laidOut (by kernel_rfl) (of_decide_eq_true (by kernel_rfl)) h1 bel lt1) trodAll_mk0)),rfl,bel.frame _,fun h=>by cases h⟩

theorem dF{a b:Bool}(h:a=true)(k:b=true):(a&&b)=true:=by rw[h,k];rfl
set_option maxHeartbeats 20000000 in
/-- The closed facts, each a lemma of its own. -/
theorem facts:joinedFacts Tryz.pinned.checked.prog 4 Tryz.f4 Rows.planeLessSpec Rows.planeLessRow=true:=by
 unfold joinedFacts
 exact dF (dF (dF (dF (dF (dF (dF (dF (dF (dF (dF (dF (dF (dF (dF (dF (dF (dF (dF (dF (dF (dF (dF (dF (dF (dF (dF (dF (dF (dF (dF (by as_aux_lemma=>kernel_rfl) (by as_aux_lemma=>kernel_rfl)) (by as_aux_lemma=>kernel_rfl)) (by as_aux_lemma=>kernel_rfl)) (by as_aux_lemma=>kernel_rfl)) (by as_aux_lemma=>kernel_rfl)) (by as_aux_lemma=>kernel_rfl)) (by as_aux_lemma=>kernel_rfl)) (by as_aux_lemma=>kernel_rfl)) (by as_aux_lemma=>kernel_rfl)) (by as_aux_lemma=>kernel_rfl)) (by as_aux_lemma=>kernel_rfl)) (by as_aux_lemma=>kernel_rfl)) (by as_aux_lemma=>kernel_rfl)) (by as_aux_lemma=>kernel_rfl)) (by as_aux_lemma=>kernel_rfl)) (by as_aux_lemma=>kernel_rfl)) (by as_aux_lemma=>kernel_rfl)) (by as_aux_lemma=>kernel_rfl)) (by as_aux_lemma=>kernel_rfl)) (by as_aux_lemma=>kernel_rfl)) (by as_aux_lemma=>kernel_rfl)) (by as_aux_lemma=>kernel_rfl)) (by as_aux_lemma=>kernel_rfl)) (by as_aux_lemma=>kernel_rfl)) (by as_aux_lemma=>kernel_rfl)) (by as_aux_lemma=>kernel_rfl)) (by as_aux_lemma=>kernel_rfl)) (by as_aux_lemma=>kernel_rfl)) (by as_aux_lemma=>kernel_rfl)) (by as_aux_lemma=>kernel_rfl)) (by as_aux_lemma=>kernel_rfl)

set_option maxHeartbeats 20000000 in
theorem over:Rows.planeLessRow.holds Tryz.pinned (OpenSpec.ofChange Rows.planeLessSpec):=
 OpenClaim.holds_of_wide 4 Tryz.f4 rfl rfl rfl rfl rfl rfl rfl ⟨rfl,rfl,rfl,rfl,rfl⟩ rfl rfl rfl rfl rfl (by kernel_rfl) Tryz.func4 facts
  (of_decide_eq_true (by kernel_rfl)) (by unfold Func.isWrapper;first|(rw[if_pos (by decide +kernel)];kernel_rfl)|(rw[if_neg (by decide +kernel)];exact⟨rfl,rfl⟩))
  (fun os started H enc _=>lifted os started H enc)

/-- ████ THE STATEMENT ████ -/
theorem proved:Rows.PlaneLessSaid:=over
end Go.Proofs.YtbgngpdonpeboaaGreatDoor.planeLess
namespace Go.Proofs.YtbgngpdonpeboaaGreatDoor.planeLessCard
open Go
set_option maxHeartbeats 4000000 in
theorem proved:Rows.PlaneLessCardSaid:=
 Claim7.holds_tied_plain_at .later [] [.data] true (true, "573a48e1d66203f46b8eb1484005eb1e1900b4a0e4131650c552652c0e42e9bc") false
  planeLess.proved (fun _ h=>by cases h) (by kernel_rfl) (fun _ h=>by cases h) planeLess_row_tie rfl ⟨rfl,rfl⟩ (by kernel_rfl) rfl
  (fun f fn hf hfn=>by
    obtain rfl:f=4:=Option.some.inj ((show Tryz.prog.funcNamed "parterre/parterrelaw14.PlaneLess"=some 4 by kernel_rfl).symm.trans hf) |>.symm
    obtain rfl:fn=Tryz.f4:=(Option.some.inj (Tryz.func4.symm.trans hfn)).symm
    exact⟨by kernel_rfl,fun j t ht=>by
     rw[Tryz.params4]at ht
     have hm:t∈[25,5]:=by simpa using Array.mem_of_getElem? ht
     have hall:([25,5].all fun u=>!Tryz.prog.wantsStandIn u)=true:=by kernel_rfl
     exact(show Tryz.prog.wantsStandIn t=false by simpa using List.all_eq_true.1 hall t hm)⟩)
  (by kernel_rfl)
#print axioms proved
end Go.Proofs.YtbgngpdonpeboaaGreatDoor.planeLessCard
