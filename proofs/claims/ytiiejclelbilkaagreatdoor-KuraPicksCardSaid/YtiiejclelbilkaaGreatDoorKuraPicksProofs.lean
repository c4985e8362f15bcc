/-
  Proved: whatever the input, the law KuraPicks returns true (the statement Rows.KuraPicksSaid), with no condition beyond the statement's own.
  (The shell is written by a program, after the kit's proof-skeleton.mjs; the walk is by the contracts of the imported texts.)
-/
import Derived.Test.YtiiejclelbilkaaGreatDoorRows
import Derived.Test.YtiiejclelbilkaaGreatDoorTie
import Derived.Test.YtiiejclelbilkaaGreatDoorCards
import Derived.SevenTiedAt
import Derived.WalkKit
import Derived.ProofKit
import Derived.OpenShut
import Derived.ChangeOld
import Derived.Below
import Derived.Carry
import Derived.LaidMore
import Derived.Stop.Joined
import Derived.Test.YtiiejclelbilkaaGreatDoorAwArg
import Derived.Test.YtiiejclelbilkaaGreatDoorJk
namespace Go.Proofs.YtiiejclelbilkaaGreatDoor.kuraPicks
open Go.ChangeShapes Go.WideShapes Go.ChangeAt Go.WideMaps Go.WideElems Go.RowKit
set_option linter.unusedVariables false

theorem own:ownKnob Tryz.prog.godebug=none:=by kernel_rfl
theorem laidOut:laidOutB Tryz.prog=true:=by kernel_rfl

abbrev laidT:List (String×DataW Unit):=[("math/bits.deBruijn64tab",Rows.laid_math_bits_deBruijn64tab)]
theorem gTab:Tryz.prog.globalNamed "math/bits.deBruijn64tab"=some 0:=by kernel_rfl
theorem tTab:(Tryz.prog.globals[0]?).map (·.type)=some 190:=by kernel_rfl
theorem door_met (os:Os) (args:Array Value):laidMetH Tryz.prog laidT ((World.doorLaid Tryz.prog 400 os).forCall (fun _ _=>0) ⟨#[],args,[]⟩).memory:=
 laidMetH_of_parts3 (fuel:=8) (laidMet_of_run' 8 (by kernel_rfl) (by kernel_rfl)) (by kernel_rfl) (by kernel_rfl)
theorem of_laid {W:World} (h:laidMetH Tryz.prog laidT W):Aw.GlobOk W Aw.g0:=by
 rw [MakeChecks.laidMetH_plain _ _ _ (by kernel_rfl)] at h
 obtain ⟨ps,⟨g0,t0,cs0,f0,p0,q0,hg0,ht0,hv0,hd0,_⟩,_,_⟩:=h
 obtain rfl:=Option.some.inj (gTab.symm.trans hg0)
 obtain rfl:=Option.some.inj (tTab.symm.trans ht0)
 obtain ⟨xs,m1,rfl,hx1,hlen,hn3,hel⟩:=DataW.trod_array Tryz.underlying190 hd0
 have hL0:xs.map (·.1)=Lib.deBruijn64tab.map fun (n:Nat)=>(.lit (.int .u8 n):DataW Unit):=by
  have h1:=(Prod.mk.inj hx1).1
  have h2:(Rows.laid_math_bits_deBruijn64tab:DataW Unit)=.agg (Lib.deBruijn64tab.map fun (n:Nat)=>.lit (.int .u8 n)):=by rfl
  rw [h2] at h1
  exact (DataW.agg.inj h1).symm
 intro T hT j v hv
 unfold Aw.globTabs at hT
 rw [List.mem_singleton] at hT
 subst hT
 simp only at hv ⊢
 refine ⟨?_,trivial⟩
 rw [List.getElem?_map] at hv
 obtain ⟨n,hn,rfl⟩:=Option.map_eq_some_iff.1 hv
 have hj:j < 64:=(List.getElem?_eq_some_iff.1 hn).1
 have c5:Tryz.prog.cellsOf 5=1:=by kernel_rfl
 have h:=hel j hj
 rw [c5,Nat.mul_one,List.getElem?_eq_getElem (by omega:j < xs.length)] at h
 obtain ⟨k,e1,e2,_⟩:=DataW.trod_int Tryz.underlying5 h
 have hk:(xs.map (·.1))[j]?=some (.lit (.int .u8 n)):=by rw [hL0,List.getElem?_map,hn];rfl
 rw [List.getElem?_map,List.getElem?_eq_getElem (by omega:j < xs.length),e2] at hk
 have hkn:k=n:=by simpa using hk
 have hc:=World.var?_cell hg0 hv0 j
 rw [hc]
 have h3:cs0.toList[j]?=some (.int .u8 k):=by
  have:=congrArg List.head? e1
  rw [List.head?_take,List.head?_drop] at this
  simpa using this
 rw [hkn] at h3
 simpa using h3

theorem walk (l0:List Aw.LV) (l1:List Aw.LV) (l2:List Aw.LV) (v0:Value) (v1:Value) (v2:Value) (w:World) (hG:Aw.GlobOk w Aw.g0) (s0:Aw.Shp Aw.tab 35 l0) (s1:Aw.Shp Aw.tab 25 l1) (s2:Aw.Shp Aw.tab 5 l2) (r0:Aw.Rep w Aw.g0 (Aw.argT Aw.tab 35 l0) v0) (r1:Aw.Rep w Aw.g0 (Aw.argT Aw.tab 25 l1) v1) (r2:Aw.Rep w Aw.g0 (Aw.argT Aw.tab 5 l2) v2):
 Calls Tryz.prog 4 #[v0,v1,v2] w fun e w'=>e=.returned (.bool true)∧Below w.heap.size w w':=by
 have h:=Aw.calls_of_acalls hG (P:=Tryz.prog) (w:=w) (R:=fun v=>v=.bool true) (args:=[Aw.argT Aw.tab 35 l0,Aw.argT Aw.tab 25 l1,Aw.argT Aw.tab 5 l2]) (vs:=[v0,v1,v2]) (f:=4) (by simp only [Aw.RepL];exact ⟨_,_,rfl,r0,⟨_,_,rfl,r1,⟨_,_,rfl,r2,rfl⟩⟩⟩)
  ((Aw.KuraPicks_shp l0 l1 l2 ⟨1,fun _=>.dead⟩ s0 s1 s2).mono fun r st' h=>⟨_,h,rfl⟩)
 exact h.mono fun e w' h=>⟨by obtain ⟨v,rfl,rfl⟩:=h.1;rfl,h.2⟩

set_option maxRecDepth 100000 in
theorem lifted (os:Os) (started:os.Started) (H:Type) (enc:TypeId×Value→H):
 ReturnsInHanded {} Tryz.checked os 4 .any (fun w args=>(Rows.kuraPicksSpec.pre enc Tryz.prog Tryz.f4 [] false w args∧laidMetH Tryz.prog laidT w)∧sizedMet enc Tryz.prog Tryz.f4 (OpenSpec.ofChange Rows.kuraPicksSpec) false w args) (Rows.kuraPicksSpec.post enc Tryz.prog Tryz.f4 false true false false):=by
 refine returnsInHanded_of_change_and (C:=Tryz.checked) (X:=fun w _=>laidMetH Tryz.prog laidT w) (fun _ _ _ hh h=>h.of_heap hh) own started (by kernel_rfl) Tryz.func4
  (ChangeSpec.witness_shaped (enc:=enc) (C:=Tryz.checked) (os:=os) (X:=fun w _=>laidMetH Tryz.prog laidT w) false (World.doorLaid Tryz.prog 400 os) #[.agg #[.slice none 0 0,.slice none 0 0],.slice none 0 0,.int .u8 0] 8 rfl (World.shaped_of_RefB (by kernel_rfl) (by kernel_rfl)) (by kernel_rfl) (by kernel_rfl) (by kernel_rfl) (door_met os _)) ?_
 intro W base args ds gs before hval0 hW _ _ hL _
 have hval:∀ (j:Nat) t v,Tryz.f4.params[j]?=some t→args[j]?=some v→Value.okWide Tryz.prog W .any base t v:=hval0
 have hW':=hW
 obtain ⟨p,q,hA0,hV,rfl,hfz,hnd⟩:=hW
 have hA:DataW.TrodAll enc Tryz.prog W 0 (fun _=>true) true Tryz.f4.params.toList args.toList ds p:=hA0
 rw [Tryz.params4] at hA hval
 obtain ⟨v0,vs0,d0,ds0,p0,q0,hargs,rfl,rfl,h0,r0⟩:=trodAll_cons hA
 obtain ⟨v1,vs1,d1,ds1,p1,q1,rfl,rfl,rfl,h1,r1⟩:=trodAll_cons r0
 obtain ⟨v2,vs2,d2,ds2,p2,q2,rfl,rfl,rfl,h2,r2⟩:=trodAll_cons r1
 obtain ⟨rfl,rfl,rfl⟩:=trodAll_nil r2
 obtain rfl:args=#[v0,v1,v2]:=by cases args;simp_all
 obtain ⟨rfl,rfl⟩:=trodVars_none hV
 have lt0:∀ x∈p0,x.block < W.heap.size:=by obtain ⟨m,hm⟩:=h0;exact DataW.trod_lt m _ _ _ hm
 obtain ⟨l0,s0,e0⟩:=Aw.arg_rep (P:=Tryz.prog) (d:=9) Aw.tabOk (t:=35) rfl (by kernel_rfl) (hval 0 35 v0 rfl rfl) h0 ⟨fun _=>⟨_,rfl⟩,fun _=>rfl⟩
 have lt1:∀ x∈p1,x.block < W.heap.size:=by obtain ⟨m,hm⟩:=h1;exact DataW.trod_lt m _ _ _ hm
 obtain ⟨l1,s1,e1⟩:=Aw.arg_rep (P:=Tryz.prog) (d:=9) Aw.tabOk (t:=25) rfl (by kernel_rfl) (hval 1 25 v1 rfl rfl) h1 ⟨fun h=>(by cases h),fun h=>(by obtain ⟨_,h⟩:=h;cases h)⟩
 have lt2:∀ x∈p2,x.block < W.heap.size:=by obtain ⟨m,hm⟩:=h2;exact DataW.trod_lt m _ _ _ hm
 obtain ⟨l2,s2,e2⟩:=Aw.arg_rep (P:=Tryz.prog) (d:=9) Aw.tabOk (t:=5) rfl (by kernel_rfl) (hval 2 5 v2 rfl rfl) h2 ⟨fun h=>(by cases h),fun h=>(by obtain ⟨_,h⟩:=h;cases h)⟩
 clear hA0 hval0
 refine (walk l0 l1 l2 v0 v1 v2 W (of_laid hL) s0 s1 s2 e0 e1 e2).mono fun e W' ⟨he,bel⟩=>?_
 subst he
 exact ⟨_,rfl,_,_,_,[],_,[],hW',trodAll_mk1 (shut_bool Tryz.underlying4 _),(trodAll_cons_mk (Below.trod laidOut (by kernel_rfl) (of_decide_eq_true (by kernel_rfl)) h0 bel lt0) (trodAll_cons_mk (Below.trod laidOut (by kernel_rfl) (of_decide_eq_true (by kernel_rfl)) h1 bel lt1) (trodAll_cons_mk (Below.trod laidOut (by kernel_rfl) (of_decide_eq_true (by kernel_rfl)) h2 bel lt2) trodAll_mk0))),rfl,bel.frame _,fun h=>by cases h⟩

theorem and_i {a b:Bool} (h:a=true) (k:b=true):(a&&b)=true:=by rw [h,k];rfl
set_option maxHeartbeats 20000000 in
/-- The closed facts, each a lemma of its own. -/
theorem facts:joinedFacts Tryz.pinned.checked.prog 4 Tryz.f4 Rows.kuraPicksSpec Rows.kuraPicksRow=true:=by
 unfold joinedFacts
 exact and_i (and_i (and_i (and_i (and_i (and_i (and_i (and_i (and_i (and_i (and_i (and_i (and_i (and_i (and_i (and_i (and_i (and_i (and_i (and_i (and_i (and_i (and_i (and_i (and_i (and_i (and_i (and_i (and_i (and_i (and_i (by as_aux_lemma=>kernel_rfl) (by as_aux_lemma=>kernel_rfl)) (by as_aux_lemma=>kernel_rfl)) (by as_aux_lemma=>kernel_rfl)) (by as_aux_lemma=>kernel_rfl)) (by as_aux_lemma=>kernel_rfl)) (by as_aux_lemma=>kernel_rfl)) (by as_aux_lemma=>kernel_rfl)) (by as_aux_lemma=>kernel_rfl)) (by as_aux_lemma=>kernel_rfl)) (by as_aux_lemma=>kernel_rfl)) (by as_aux_lemma=>kernel_rfl)) (by as_aux_lemma=>kernel_rfl)) (by as_aux_lemma=>kernel_rfl)) (by as_aux_lemma=>kernel_rfl)) (by as_aux_lemma=>kernel_rfl)) (by as_aux_lemma=>kernel_rfl)) (by as_aux_lemma=>kernel_rfl)) (by as_aux_lemma=>kernel_rfl)) (by as_aux_lemma=>kernel_rfl)) (by as_aux_lemma=>kernel_rfl)) (by as_aux_lemma=>kernel_rfl)) (by as_aux_lemma=>kernel_rfl)) (by as_aux_lemma=>kernel_rfl)) (by as_aux_lemma=>kernel_rfl)) (by as_aux_lemma=>kernel_rfl)) (by as_aux_lemma=>kernel_rfl)) (by as_aux_lemma=>kernel_rfl)) (by as_aux_lemma=>kernel_rfl)) (by as_aux_lemma=>kernel_rfl)) (by as_aux_lemma=>kernel_rfl)) (by as_aux_lemma=>kernel_rfl)

set_option maxHeartbeats 20000000 in
theorem over:Rows.kuraPicksRow.holds Tryz.pinned (OpenSpec.ofChange Rows.kuraPicksSpec):=
 OpenClaim.holds_of_wide 4 Tryz.f4 rfl rfl rfl rfl rfl rfl rfl ⟨rfl,rfl,rfl,rfl,rfl⟩ rfl rfl rfl rfl rfl (by kernel_rfl) Tryz.func4 facts
  (of_decide_eq_true (by kernel_rfl)) (by unfold Func.isWrapper;first | (rw [if_pos (by decide +kernel)];kernel_rfl) | (rw [if_neg (by decide +kernel)];exact ⟨rfl,rfl⟩))
  (fun os started H enc _=>lifted os started H enc)

/-- ████ THE STATEMENT ████ -/
theorem proved:Rows.KuraPicksSaid:=over
end Go.Proofs.YtiiejclelbilkaaGreatDoor.kuraPicks
namespace Go.Proofs.YtiiejclelbilkaaGreatDoor.kuraPicksCard
open Go
set_option maxHeartbeats 4000000 in
theorem proved:Rows.KuraPicksCardSaid:=
 Claim7.holds_tied_plain_at .later [] [.data] true (true,"83b576721fffbc7c77259929f7c276413a03341f345aa392045be4ce9158fc8a") false
  kuraPicks.proved (fun _ h=>by cases h) (by kernel_rfl) (fun _ h=>by cases h) kuraPicks_row_tie rfl ⟨rfl,rfl⟩ (by kernel_rfl) rfl
  (fun f fn hf hfn=>by
    obtain rfl:f=4:=Option.some.inj ((show Tryz.prog.funcNamed "parterre/parterrelaw15.KuraPicks"=some 4 by kernel_rfl).symm.trans hf) |>.symm
    obtain rfl:fn=Tryz.f4:=(Option.some.inj (Tryz.func4.symm.trans hfn)).symm
    exact ⟨by kernel_rfl,fun j t ht=>by
     rw [Tryz.params4] at ht
     have hm:t∈[35,25,5]:=by simpa using Array.mem_of_getElem? ht
     have hall:([35,25,5].all fun u=>!Tryz.prog.wantsStandIn u)=true:=by kernel_rfl
     exact (show Tryz.prog.wantsStandIn t=false by simpa using List.all_eq_true.1 hall t hm)⟩)
  (by kernel_rfl)
#print axioms proved
end Go.Proofs.YtiiejclelbilkaaGreatDoor.kuraPicksCard
