/-
  Proved: whatever the input, the law KuraFinds returns true (the statement Rows.KuraFindsSaid), with no condition beyond the statement's own.
  (The shell is written by a program, after the kit's proof-skeleton.mjs; the walk is by the contracts of the imported texts.)
-/
import Derived.Test.YtbgngpdonpeboaaGreatDoorRows
import Derived.Test.YtbgngpdonpeboaaGreatDoorTie
import Derived.Test.YtbgngpdonpeboaaGreatDoorCards
import Derived.SevenTiedAt
import Derived.WalkKit
import Derived.ProofKit
import Derived.OpenShut
import Derived.ChangeOld
import Derived.Below
import Derived.Carry
import Derived.LaidMore
import Derived.Stop.Joined
import Derived.Test.YtbgngpdonpeboaaGreatDoorAwArg
import Derived.Test.YtbgngpdonpeboaaGreatDoorJq
namespace Go.Proofs.YtbgngpdonpeboaaGreatDoor.kuraFinds
open Go.ChangeShapes Go.WideShapes Go.ChangeAt Go.WideMaps Go.WideElems Go.RowKit
set_option linter.unusedVariables false

theorem own:ownKnob Tryz.prog.godebug=none:=by kernel_rfl
theorem laidOut:laidOutB Tryz.prog=true:=by kernel_rfl

abbrev Kz:List (String×DataW Unit):=[("math/bits.deBruijn64tab",Rows.laid_math_bits_deBruijn64tab)]
theorem V9:Tryz.prog.globalNamed "math/bits.deBruijn64tab"=some 0:=by kernel_rfl
theorem W0:(Tryz.prog.globals[0]?).map (·.type)=some 200:=by kernel_rfl
theorem Tv(os:Os)(args:Array Value):laidMetH Tryz.prog Kz ((World.doorLaid Tryz.prog 400 os).forCall (fun _ _=>0) ⟨#[],args,[]⟩).memory:=
 laidMetH_of_parts3 (fuel:=8) (laidMet_of_run' 8 (by kernel_rfl) (by kernel_rfl)) (by kernel_rfl) (by kernel_rfl)
theorem XE{W:World}(h:laidMetH Tryz.prog Kz W):Aw.iV W Aw.g0:=by
 rw[MakeChecks.laidMetH_plain _ _ _ (by kernel_rfl)]at h
 obtain⟨ps,⟨g0,t0,cs0,f0,p0,q0,hg0,ht0,hv0,hd0,_⟩,_,_⟩:=h
 obtain rfl:=Option.some.inj (V9.symm.trans hg0)
 obtain rfl:=Option.some.inj (W0.symm.trans ht0)
 obtain⟨xs,m1,rfl,hx1,hlen,hn3,hel⟩:=DataW.trod_array Tryz.underlying200 hd0
 have hL0:xs.map (·.1)=Lib.deBruijn64tab.map fun(n:Nat)=>(.lit (.int .u8 n):DataW Unit):=by
  have h1:=(Prod.mk.inj hx1).1
  have h2:(Rows.laid_math_bits_deBruijn64tab:DataW Unit)=.agg (Lib.deBruijn64tab.map fun(n:Nat)=>.lit (.int .u8 n)):=by rfl
  rw[h2]at h1
  exact(DataW.agg.inj h1).symm
 intro T hT j v hv
 unfold Aw.It at hT
 rw[List.mem_singleton]at hT
 subst hT
 simp only at hv ⊢
 refine⟨?_,trivial⟩
 rw[List.getElem?_map]at hv
 obtain⟨n,hn,rfl⟩:=Option.map_eq_some_iff.1 hv
 have hj:j<64:=(List.getElem?_eq_some_iff.1 hn).1
 have c5:Tryz.prog.cellsOf 5=1:=by kernel_rfl
 have h:=hel j hj
 rw[c5,Nat.mul_one,List.getElem?_eq_getElem (by omega:j<xs.length)]at h
 obtain⟨k,e1,e2,_⟩:=DataW.trod_int Tryz.underlying5 h
 have hk:(xs.map (·.1))[j]?=some (.lit (.int .u8 n)):=by rw[hL0,List.getElem?_map,hn];rfl
 rw[List.getElem?_map,List.getElem?_eq_getElem (by omega:j<xs.length),e2]at hk
 have hkn:k=n:=by simpa using hk
 have hc:=World.var?_cell hg0 hv0 j
 rw[hc]
 have h3:cs0.toList[j]?=some (.int .u8 k):=by
  have:=congrArg List.head? e1
  rw[List.head?_take,List.head?_drop]at this
  simpa using this
 rw[hkn]at h3
 simpa using h3

theorem walk(l0:List Aw.LV)(v0:Value)(w:World)(hG:Aw.iV w Aw.g0)(s0:Aw.Shp Aw.tab 25 l0)(r0:Aw.Rep w Aw.g0 (Aw.RB Aw.tab 25 l0) v0):
 Calls Tryz.prog 7 #[v0] w fun e w'=>e=.returned (.bool true)∧Below w.heap.size w w':=by
 have h:=Aw.BB hG (P:=Tryz.prog) (w:=w) (R:=fun v=>v=.bool true) (args:=[Aw.RB Aw.tab 25 l0]) (vs:=[v0]) (f:=7) (by simp only[Aw.aG];exact⟨_,_,rfl,r0,rfl⟩)
  ((Aw.EV l0 ⟨1,fun _=>.dead⟩ s0).mono fun r st' h=>⟨_,h,rfl⟩)
 exact h.mono fun e w' h=>⟨by obtain⟨v,rfl,rfl⟩:=h.1;rfl,h.2⟩

set_option maxRecDepth 100000 in
theorem lifted(os:Os)(started:os.Started)(H:Type)(enc:TypeId×Value→H):
 ReturnsInHanded {} Tryz.checked os 7 .any (fun w args=>(Rows.kuraFindsSpec.pre enc Tryz.prog Tryz.f7 [] false w args∧laidMetH Tryz.prog Kz w)∧sizedMet enc Tryz.prog Tryz.f7 (OpenSpec.ofChange Rows.kuraFindsSpec) false w args) (Rows.kuraFindsSpec.post enc Tryz.prog Tryz.f7 false true false false):=by
 refine returnsInHanded_of_change_and (C:=Tryz.checked) (X:=fun w _=>laidMetH Tryz.prog Kz w) (fun _ _ _ hh h=>h.of_heap hh) own started (by kernel_rfl) Tryz.func7
  (ChangeSpec.witness_shaped (enc:=enc) (C:=Tryz.checked) (os:=os) (X:=fun w _=>laidMetH Tryz.prog Kz w) false (World.doorLaid Tryz.prog 400 os) #[.agg #[.slice none 0 0,.slice none 0 0]] 8 rfl (World.shaped_of_RefB (by kernel_rfl) (by kernel_rfl)) (by kernel_rfl) (by kernel_rfl) (by kernel_rfl) (Tv os _)) ?_
 intro W base args ds gs before hval0 hW _ _ hL _
 have hval:∀(j:Nat) t v,Tryz.f7.params[j]?=some t→args[j]?=some v→Value.okWide Tryz.prog W .any base t v:=hval0
 have hW':=hW
 obtain⟨p,q,hA0,hV,rfl,hfz,hnd⟩:=hW
 have hA:DataW.TrodAll enc Tryz.prog W 0 (fun _=>true) true Tryz.f7.params.toList args.toList ds p:=hA0
 rw[Tryz.params7]at hA hval
 obtain⟨v0,vs0,d0,ds0,p0,q0,hargs,rfl,rfl,h0,r0⟩:=trodAll_cons hA
 obtain⟨rfl,rfl,rfl⟩:=trodAll_nil r0
 obtain rfl:args=#[v0]:=by cases args;simp_all
 obtain⟨rfl,rfl⟩:=trodVars_none hV
 have lt0:∀ x∈p0,x.block<W.heap.size:=by obtain⟨m,hm⟩:=h0;exact DataW.trod_lt m _ _ _ hm
 obtain⟨l0,s0,e0⟩:=Aw.WX (P:=Tryz.prog) (d:=9) Aw.oP (t:=25) rfl (by kernel_rfl) (hval 0 25 v0 rfl rfl) h0 ⟨fun _=>⟨_,rfl⟩,fun _=>rfl⟩
 clear hA0 hval0
 refine(walk l0 v0 W (XE hL) s0 e0).mono fun e W' ⟨he,bel⟩=>?_
 subst he
 exact⟨_,rfl,_,_,_,[],_,[],hW',trodAll_mk1 (shut_bool Tryz.underlying4 _),(trodAll_cons_mk (Below.trod laidOut (by kernel_rfl) (of_decide_eq_true (by kernel_rfl)) h0 bel lt0) trodAll_mk0),rfl,bel.frame _,fun h=>by cases h⟩

theorem dS{a b:Bool}(h:a=true)(k:b=true):(a&&b)=true:=by rw[h,k];rfl
set_option maxHeartbeats 20000000 in
/-- The closed facts, each a lemma of its own. -/
theorem facts:joinedFacts Tryz.pinned.checked.prog 7 Tryz.f7 Rows.kuraFindsSpec Rows.kuraFindsRow=true:=by
 unfold joinedFacts
 exact dS (dS (dS (dS (dS (dS (dS (dS (dS (dS (dS (dS (dS (dS (dS (dS (dS (dS (dS (dS (dS (dS (dS (dS (dS (dS (dS (dS (dS (dS (dS (by as_aux_lemma=>kernel_rfl) (by as_aux_lemma=>kernel_rfl)) (by as_aux_lemma=>kernel_rfl)) (by as_aux_lemma=>kernel_rfl)) (by as_aux_lemma=>kernel_rfl)) (by as_aux_lemma=>kernel_rfl)) (by as_aux_lemma=>kernel_rfl)) (by as_aux_lemma=>kernel_rfl)) (by as_aux_lemma=>kernel_rfl)) (by as_aux_lemma=>kernel_rfl)) (by as_aux_lemma=>kernel_rfl)) (by as_aux_lemma=>kernel_rfl)) (by as_aux_lemma=>kernel_rfl)) (by as_aux_lemma=>kernel_rfl)) (by as_aux_lemma=>kernel_rfl)) (by as_aux_lemma=>kernel_rfl)) (by as_aux_lemma=>kernel_rfl)) (by as_aux_lemma=>kernel_rfl)) (by as_aux_lemma=>kernel_rfl)) (by as_aux_lemma=>kernel_rfl)) (by as_aux_lemma=>kernel_rfl)) (by as_aux_lemma=>kernel_rfl)) (by as_aux_lemma=>kernel_rfl)) (by as_aux_lemma=>kernel_rfl)) (by as_aux_lemma=>kernel_rfl)) (by as_aux_lemma=>kernel_rfl)) (by as_aux_lemma=>kernel_rfl)) (by as_aux_lemma=>kernel_rfl)) (by as_aux_lemma=>kernel_rfl)) (by as_aux_lemma=>kernel_rfl)) (by as_aux_lemma=>kernel_rfl)) (by as_aux_lemma=>kernel_rfl)

set_option maxHeartbeats 20000000 in
theorem over:Rows.kuraFindsRow.holds Tryz.pinned (OpenSpec.ofChange Rows.kuraFindsSpec):=
 OpenClaim.holds_of_wide 7 Tryz.f7 rfl rfl rfl rfl rfl rfl rfl ⟨rfl,rfl,rfl,rfl,rfl⟩ rfl rfl rfl rfl rfl (by kernel_rfl) Tryz.func7 facts
  (of_decide_eq_true (by kernel_rfl)) (by unfold Func.isWrapper;first|(rw[if_pos (by decide +kernel)];kernel_rfl)|(rw[if_neg (by decide +kernel)];exact⟨rfl,rfl⟩))
  (fun os started H enc _=>lifted os started H enc)

/-- ████ THE STATEMENT ████ -/
theorem proved:Rows.KuraFindsSaid:=over
end Go.Proofs.YtbgngpdonpeboaaGreatDoor.kuraFinds
namespace Go.Proofs.YtbgngpdonpeboaaGreatDoor.kuraFindsCard
open Go
set_option maxHeartbeats 4000000 in
theorem proved:Rows.KuraFindsCardSaid:=
 Claim7.holds_tied_plain_at .later [] [.data] true (true, "573a48e1d66203f46b8eb1484005eb1e1900b4a0e4131650c552652c0e42e9bc") false
  kuraFinds.proved (fun _ h=>by cases h) (by kernel_rfl) (fun _ h=>by cases h) kuraFinds_row_tie rfl ⟨rfl,rfl⟩ (by kernel_rfl) rfl
  (fun f fn hf hfn=>by
    obtain rfl:f=7:=Option.some.inj ((show Tryz.prog.funcNamed "parterre/parterrelaw15.KuraFinds"=some 7 by kernel_rfl).symm.trans hf) |>.symm
    obtain rfl:fn=Tryz.f7:=(Option.some.inj (Tryz.func7.symm.trans hfn)).symm
    exact⟨by kernel_rfl,fun j t ht=>by
     rw[Tryz.params7]at ht
     have hm:t∈[25]:=by simpa using Array.mem_of_getElem? ht
     have hall:([25].all fun u=>!Tryz.prog.wantsStandIn u)=true:=by kernel_rfl
     exact(show Tryz.prog.wantsStandIn t=false by simpa using List.all_eq_true.1 hall t hm)⟩)
  (by kernel_rfl)
#print axioms proved
end Go.Proofs.YtbgngpdonpeboaaGreatDoor.kuraFindsCard
