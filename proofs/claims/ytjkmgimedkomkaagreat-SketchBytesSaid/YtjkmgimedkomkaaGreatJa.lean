/- slices.Values, AppendSeq: a range over a function, at rows of uint32. (After the kit's worked texts on slices.Values and on a loop that collects.) strings.Builder at this seat: copyCheck, WriteString, String (the kit's walks over any program, turned to this one). wire: numbers as bytes, what is laid behind what (walks over the kit's laws). wire: Four (a walk over the kit's laws). wire: Text (a walk over the kit's laws). slices.Collect(slices.Values(s)) as a contract over logical values. What each chapter's example answers. wire: what is laid, as logical calls. sketch: steps as bytes. wire: what is taken off bytes. -/
import Derived.RangeFuncBox
import Derived.RangeFuncLeaves
import Derived.Shelf.Abstract
import Derived.WalkKit
import Derived.OwnWalkIn
import Derived.TacticsInMore
import Derived.LoopNIn
import Derived.LoopIn
import Derived.Maps.AppendAt
import Derived.Test.YtjkmgimedkomkaaGreatProg
import Derived.Shelf.Strings.Builder1
import Derived.Test.YtjkmgimedkomkaaGreatChecked
import Derived.Laws.BytesString
import Derived.Deep.RegionWith
import Derived.Test.YtjkmgimedkomkaaGreatAwX
import Derived.Test.YtjkmgimedkomkaaGreatAwSet
import Derived.Test.YtjkmgimedkomkaaGreatAwFn
import Derived.Test.YtjkmgimedkomkaaGreatAwTd
import Derived.Test.YtjkmgimedkomkaaGreatAwRg
import Derived.Test.YtjkmgimedkomkaaGreatAwShp
import Derived.Test.YtjkmgimedkomkaaGreatAwAlt
namespace Go.Proofs.YtjkmgimedkomkaaGreat.Rg
open Go Go.RowKit Go.Shelf
set_option linter.unusedSimpArgs false
set_option linter.unusedVariables false

attribute [local go_sem] Oper.semAt_some

/-- What has come when k rounds are over. -/
def upto (zs : List Int) (k : Nat) : List Int := (List.range k).map fun j => zs[j]?.getD 0
theorem upto_succ (zs : List Int) (k : Nat) : upto zs (k + 1) = upto zs k ++ [zs[k]?.getD 0] := by simp [upto, List.range_succ]
theorem upto_length (zs : List Int) (k : Nat) : (upto zs k).length = k := by simp [upto]
theorem upto_all (zs : List Int) : upto zs zs.length = zs := by
  apply List.ext_getElem
  · simp [upto]
  · intro i h1 h2
    simp [upto, h2]

set_option maxRecDepth 100000 in
set_option maxHeartbeats 2000000 in
theorem values1_in (F : Fence) (n : Nat) (h7 : F.fn 98) (hro : F.round = none) (hn : 1 ≤ n) (l Bs n₀ b off len cap : Nat) (zs : List Int) (hlen : len ≤ 1048576) (hb : b < n₀) (J Jx : List Int → World → Prop)
    (hY : ∀ pre x W, J pre W → pre.length < len → YieldAt F (n - 1) Tryz.prog l #[.int .u32 x] W fun e W' =>
      (e = .returned (.bool true) ∧ J (pre ++ [x]) W' ∧ Below n₀ W W') ∨ (e = .returned (.bool false) ∧ Jx (pre ++ [x]) W'))
    (W : World) (hBs : W.cell? ⟨Bs, 0, none⟩ = some (.slice (some ⟨b, off, none⟩) len cap)) (hc : ∀ j, j < len → W.cell? ⟨b, off + j, none⟩ = some (.int .u32 (zs[j]?.getD 0))) (h0 : J [] W) :
    CallsIn F n Tryz.prog 98 #[.func (.yield l) #[] #[], .pointer (some ⟨Bs, 0, none⟩)] W fun e W' => (∃ v, e = .returned v) ∧
      ((∃ ys, ys = upto zs len ∧ J ys W') ∨ (∃ pre, (∃ k, k ≤ len ∧ pre = upto zs k) ∧ Jx pre W')) := by
  refine callsIn_of_wp Tryz.func98 rfl h7 ?_ hro
  simp only [Tryz.ntmps98, List.size_toArray, List.length_cons, List.length_nil, Nat.reduceAdd, Nat.reduceSub, Array.replicate_succ, Array.replicate_zero, List.push_toArray, List.append_toArray, List.nil_append, List.cons_append]
  gi_wp2
  gi_loopw [7] (fun i wr => ∃ k : Nat, k ≤ len ∧ i = .int .i64 k ∧ J (upto zs k) wr ∧ Below n₀ W wr)
    (fun i _ => len - (intOf i).toNat)
  case atStart => exact ⟨0, Nat.zero_le _, rfl, h0, Below.refl _ _⟩
  case round =>
    obtain ⟨k, hk, rfl, hJs, hnx⟩ := hrel
    have hcx : k < len → wr.cell? ⟨b, off + k, none⟩ = some (.int .u32 (zs[k]?.getD 0)) := fun h => (hnx.cell (p := ⟨b, off + k, none⟩) hb).trans (hc k h)
    by_cases hlt : k < len
    · obtain ⟨fn, tmps, assign, body, hy, hR⟩ := hY _ (zs[k]?.getD 0) wr hJs (by rw [upto_length]; exact hlt)
      have hcx' := hcx hlt
      gi_wp2
      refine hR.mono ?_
      rintro e W3 (⟨rfl, hJ3, hk3⟩ | ⟨rfl, hJx3⟩)
      · gi_wp2
        go_roundw
        case rel => exact ⟨k + 1, by omega, by simp, by rw [upto_succ]; exact hJ3, hnx.trans hk3⟩
        case measure => simp [intOf]; omega
      · gi_wp2
        refine bodyPost_ret (results_none rfl _ _ _) rfl ?_
        exact ⟨⟨_, rfl⟩, .inr ⟨_, ⟨k + 1, by omega, (upto_succ _ _).symm⟩, hJx3⟩⟩
    · obtain rfl : k = len := by omega
      gi_wp2
      go_end0
      exact ⟨⟨_, rfl⟩, .inl ⟨_, rfl, hJs⟩⟩

set_option maxRecDepth 100000 in
set_option maxHeartbeats 1000000 in
theorem values1_nil_in (F : Fence) (n : Nat) (h7 : F.fn 98) (hro : F.round = none) (l Bs : Nat) (J : List Int → World → Prop) (W : World) (A : Option Addr) (cap : Nat) (hBs : W.cell? ⟨Bs, 0, none⟩ = some (.slice A 0 cap)) (h0 : J [] W) :
    CallsIn F n Tryz.prog 98 #[.func (.yield l) #[] #[], .pointer (some ⟨Bs, 0, none⟩)] W fun e W' => (∃ v, e = .returned v) ∧ J [] W' := by
  refine callsIn_of_wp Tryz.func98 rfl h7 ?_ hro
  simp only [Tryz.ntmps98, List.size_toArray, List.length_cons, List.length_nil, Nat.reduceAdd, Nat.reduceSub, Array.replicate_succ, Array.replicate_zero, List.push_toArray, List.append_toArray, List.nil_append, List.cons_append]
  gi_wp2
  gi_loopw [7] (fun i wr => i = .int .i64 0 ∧ J [] wr) (fun _ _ => 0)
  case atStart => exact ⟨rfl, h0⟩
  case round =>
    obtain ⟨rfl, hJs⟩ := hrel
    gi_wp2
    go_end0
    exact ⟨⟨_, rfl⟩, hJs⟩

/-- A slice value that holds zs, in a block below n₀; or an empty one. -/
def Ints (n₀ : Nat) (W : World) (sv : Value) (zs : List Int) : Prop :=
  (zs = [] ∧ ∃ A cap, sv = .slice A 0 cap) ∨ ∃ b off cap, sv = .slice (some ⟨b, off, none⟩) zs.length cap ∧ b < n₀ ∧ ∀ j, j < zs.length → W.cell? ⟨b, off + j, none⟩ = some (.int .u32 (zs[j]?.getD 0))
theorem Ints.below {n₀ : Nat} {A B : World} (h : Below n₀ A B) {sv : Value} {zs : List Int} : Ints n₀ A sv zs → Ints n₀ B sv zs
  | .inl e => .inl e
  | .inr ⟨b, off, cap, e, hb, hc⟩ => .inr ⟨b, off, cap, e, hb, fun j hj => (h.cell (p := ⟨b, off + j, none⟩) hb).trans (hc j hj)⟩

theorem values_stops (F : Fence) (n : Nat) (h7 : F.fn 98) (hro : F.round = none) (hn : 1 ≤ n) (Bs n₀ : Nat) (sv : Value) (zs : List Int) (hlen : zs.length ≤ 1048576) (w : World) (hBs : Bs < w.heap.size) (hn₀ : n₀ ≤ w.heap.size)
    (hc : w.cell? ⟨Bs, 0, none⟩ = some sv) (hI : Ints n₀ w sv zs) :
    SeqStopsK F n Tryz.prog 98 #[.pointer (some ⟨Bs, 0, none⟩)] (fun x : Int => #[Value.int .u32 x]) (Below n₀) (fun ys => ys = zs) (fun _ => True) zs.length w := fun l J Jx W hW _ _ hY h0 => by
  have hc' := (hW.cell (p := ⟨Bs, 0, none⟩) hBs).trans hc
  rcases hI.below (hW.mono hn₀) with ⟨rfl, A, cap, rfl⟩ | ⟨b, off, cap, rfl, hb, hcs⟩
  · exact (values1_nil_in F n h7 hro l Bs J W A cap hc' h0).mono fun e W' ⟨he, hj⟩ => ⟨he, .inl ⟨_, rfl, hj⟩⟩
  · refine (values1_in F n h7 hro hn l Bs n₀ b off zs.length cap zs hlen hb J Jx hY W hc' hcs h0).mono ?_
    rintro e W' ⟨he, ⟨ys, rfl, hj⟩ | ⟨pre, ⟨k, hk, rfl⟩, hj⟩⟩
    · exact ⟨he, .inl ⟨_, upto_all zs, hj⟩⟩
    · exact ⟨he, .inr ⟨_, trivial, hj⟩⟩

theorem infoU : (Tryz.prog.info? 40).map (fun i => (i.zero, i.size, i.bytes)) = some (some (.int .u32 0), 1, 4) := by kernel_rfl

set_option maxRecDepth 100000 in
set_option maxHeartbeats 2000000 in
/-- slices.AppendSeq(nil, slices.Values(s)): a slice of its own with what s holds; nothing that lay has turned. -/
theorem appendSeq_in (F : Fence) (n : Nat) (h3 : F.fn 121) (h7 : F.fn 98) (hro : F.round = none) (hn : 3 ≤ n) (Bs : Nat) (sv : Value) (zs : List Int) (hlen : zs.length ≤ 1048576) (w : World) (hBs : Bs < w.heap.size)
    (hc : w.cell? ⟨Bs, 0, none⟩ = some sv) (hI : Ints w.heap.size w sv zs) :
    CallsIn F n Tryz.prog 121 #[.slice none 0 0, .func (.func 98) #[] #[.pointer (some ⟨Bs, 0, none⟩)]] w fun e W' => ∃ v, e = .returned v ∧ W'.ownsRow w.heap.size 40 1 v zs.length (zs.map (Value.int .u32)) ∧ Below w.heap.size w W' := by
  have h1 : 1 ≤ n := by omega
  obtain ⟨i0, hi, hz0, hz1, hz2⟩ := info_parts infoU
  refine callsIn_of_wp_marks Tryz.func121 rfl h3 ?_ hro
  simp only [Tryz.ntmps121, List.size_toArray, List.length_cons, List.length_nil, Nat.reduceAdd, Nat.reduceSub, Array.replicate_succ, Array.replicate_zero, List.push_toArray, List.append_toArray, List.nil_append, List.cons_append]
  gi_wp2
  have bO := Boxed.new w 44 (.slice none 0 0)
  have hB0 : Below w.heap.size w (w.alloc (.cells #[.slice none 0 0] 44)) := (Below.refl _ w).alloc (Nat.le_refl _) _
  refine wpIn_rangeFunc_ownG hro h1 (gf := 98) (lb := #[.pointer (some ⟨Bs, 0, none⟩)]) rfl h7 (enters_of Tryz.func98 (by kernel_rfl) rfl)
    (values_stops F (n - 1) h7 hro (by omega) Bs w.heap.size sv zs hlen _ (by simp; omega) (by simp) ((hB0.cell (p := ⟨Bs, 0, none⟩) hBs).trans hc) (hI.below hB0)) belowK_t (belowK_b (by simp)) (Below.refl _ _) (fun _ => rfl)
    (fun pre W => (∃ v, Boxed W w.heap.size 44 v ∧ W.ownsRow w.heap.size 40 1 v pre.length (pre.map (Value.int .u32)) ∧ True) ∧ Below w.heap.size w W)
    (fun _ _ _ => False)
    (OwnFrom.and (Own.from (holdsRow_own w.heap.size w.heap.size 44 40 1 (fun pre : List Int => pre.length) (fun pre : List Int => pre.map (Value.int .u32)) (fun _ _ => True)) _) (ownFrom_below (Nat.le_refl _) (by simp)))
    (fun _ _ _ _ _ hs _ _ => hs)
    ⟨⟨_, bO, World.ownsRow_nil _ _ _ _, trivial⟩, hB0⟩
    (fun x => { tmps := #[.slice none 0 0, .func (.func 98) #[] #[.pointer (some ⟨Bs, 0, none⟩)], .pointer (some ⟨w.heap.size, 0, none⟩), undef, .slice none 0 0, .int .u32 x, .func (.func 98) #[] #[.pointer (some ⟨Bs, 0, none⟩)], .int .u32 x, undef, undef, undef, undef, undef], defers := [] }) ?assign ?body ?done ?stop
  case assign =>
    intro l x W K hK
    gi_wp2
    exact hK
  case body =>
    rintro l pre x W ⟨⟨v, hv, hrow, _⟩, hB⟩ hlt
    have hc := hv.cell
    gi_wp2_with (gi_at_builtin; refine wpListIn_append_own _ rfl _ _ 44 rfl w.heap.size 40 i0 (.int .u32 0) 1 4 Tryz.underlying44 hi hz0 hz1 hz2 rfl (by decide) _ _ _ rfl (hrow.alloc _) ⟨W.heap.size, 0, none⟩ 1 1 [.int .u32 x] rfl rfl (cell_one_new _ _ _) (by simp [Value.oneCell']) (by simp only [maxLen]; omega) (by omega) (by have := hB.size; simp; omega) ?_; intro v' w1 hown' hgrow _; obtain ⟨g', cap', rfl⟩ := ownsRow_succ hown'; obtain ⟨hv1, hv2, hr2, hk2, hb2⟩ := hv.appended (by decide) hrow hB.size (Nat.le_refl _) hown' hgrow; have hc1 := hv1.cell; have hf1 := hv1.frozen)
    exact ⟨hk2.from _, hb2, ⟨_, hv2, by simpa using hr2, trivial⟩, hB.trans hb2⟩
  case done =>
    rintro D ys W hD rfl ⟨⟨v, hv, hrow, _⟩, hB⟩ hK
    have hc := hv.cell
    gi_wp2
    refine ⟨by simp, .inl ⟨_, _, rfl, run_takeDeferred hK, ?_⟩⟩
    exact ⟨_, results_tmp rfl _ _ _, v, rfl, ownsRow_putObj hrow _ hK rfl, hB.trans (belowK_b (w := w) (Nat.le_refl _) W D _ _ (by simp at hD; omega) hK rfl rfl)⟩
  case stop =>
    rintro D c pre W _ _ h _
    exact h.elim

set_option maxRecDepth 100000 in
set_option maxHeartbeats 1000000 in
/-- slices.Collect(slices.Values(s)). -/
theorem collect_in (F : Fence) (n : Nat) (h2 : F.fn 96) (h3 : F.fn 121) (h7 : F.fn 98) (hro : F.round = none) (hn : 4 ≤ n) (Bs : Nat) (sv : Value) (zs : List Int) (hlen : zs.length ≤ 1048576) (w : World) (hBs : Bs < w.heap.size)
    (hc : w.cell? ⟨Bs, 0, none⟩ = some sv) (hI : Ints w.heap.size w sv zs) :
    CallsIn F n Tryz.prog 96 #[.func (.func 98) #[] #[.pointer (some ⟨Bs, 0, none⟩)]] w fun e W' => ∃ v, e = .returned v ∧ W'.ownsRow w.heap.size 40 1 v zs.length (zs.map (Value.int .u32)) ∧ Below w.heap.size w W' := by
  have h1 : 1 ≤ n := by omega
  refine callsIn_of_wp Tryz.func96 rfl h2 ?_ hro
  simp only [Tryz.ntmps96, List.size_toArray, List.length_cons, List.length_nil, Nat.reduceAdd, Nat.reduceSub, Array.replicate_succ, Array.replicate_zero, List.push_toArray, List.append_toArray, List.nil_append, List.cons_append]
  gi_wp2_with (gi_at_call 121; refine (appendSeq_in F (n - 1) h3 h7 hro (by omega) Bs sv zs hlen _ hBs hc hI).mono ?_; rintro e w' ⟨v, rfl, hrow, hbel⟩)
  go_ret
  exact ⟨v, rfl, hrow, hbel⟩

end Go.Proofs.YtjkmgimedkomkaaGreat.Rg

namespace Go.Proofs.YtjkmgimedkomkaaGreat.Wb
open Go Go.Shelf Go.RowKit
set_option linter.unusedVariables false

theorem sizeB : (Tryz.prog.info? 93).map (·.size) = some 2 := by kernel_rfl
theorem infoByte : (Tryz.prog.info? 5).map (fun i => (i.zero, i.size, i.bytes)) = some (some (.int .u8 0), 1, 1) := by kernel_rfl
abbrev IsB (B b : Nat) (bs : List Value) (w : World) : Prop := Lib.IsBuilder 93 5 B b bs w
abbrev AtB (B b : Nat) (bs : List Value) (w : World) : Prop := Lib.BuilderAt 93 5 B b (.pointer (some ⟨b, 0, none⟩)) bs w

set_option maxHeartbeats 1000000 in
set_option maxRecDepth 100000 in
theorem copyCheck_used (b : Nat) (w : World) (h0 : w.cell? ⟨b, 0, none⟩ = some (.pointer (some ⟨b, 0, none⟩))) :
    Calls Tryz.prog 73 #[.pointer (some ⟨b, 0, none⟩)] w fun e w' => e = .returned (.tuple #[]) ∧ w' = w := by
  obtain ⟨j, hj, _⟩ := Option.map_eq_some_iff.1 sizeB
  go_enter Tryz.func73, Tryz.ntmps73
  go_wp2
  rw [Lib.run_neq_ptr_same w _ Tryz.underlying91 hj]
  go_wp2
  go_end0
  exact ⟨rfl, rfl⟩

set_option maxHeartbeats 1000000 in
set_option maxRecDepth 100000 in
theorem copyCheck_fresh (b : Nat) (w : World) (h0 : w.cell? ⟨b, 0, none⟩ = some (.pointer none)) (hsh : w.shape? b = some (93, 2)) (hfz : w.frozen? ⟨b, 0, none⟩ = false) :
    Calls Tryz.prog 73 #[.pointer (some ⟨b, 0, none⟩)] w fun e w' => e = .returned (.tuple #[]) ∧ w' = w.setCell ⟨b, 0, none⟩ (.pointer (some ⟨b, 0, none⟩)) := by
  obtain ⟨j, hj, hjs⟩ := Option.map_eq_some_iff.1 sizeB
  go_enter Tryz.func73, Tryz.ntmps73
  go_wp2
  rw [Lib.run_to_unsafe w ⟨b, 0, none⟩ Tryz.underlying91 Tryz.underlying149 hj (by rw [hjs]; decide) hsh (Nat.zero_lt_succ 1)]
  simp only [Result.andThen]
  rw [Oper.upon_value]
  go_wp2
  rw [run_callFunc_extern Tryz.func105 (by kernel_rfl) (by kernel_rfl) (by kernel_rfl) (e := Extern.AbiNoEscape.same) (by kernel_rfl)]
  rw [Lib.run_noEscape]
  simp only [Result.andThen]
  rw [Oper.upon_value]
  go_wp2
  rw [Lib.run_from_unsafe w ⟨b, 0, none⟩ Tryz.underlying149 Tryz.underlying91 hj hsh (by kernel_rfl)]
  simp only [Result.andThen]
  rw [Oper.upon_value]
  go_wp2
  go_end0
  exact ⟨rfl, rfl⟩

theorem copyCheck (B b : Nat) (bs : List Value) (w : World) (h : IsB B b bs w) :
    Calls Tryz.prog 73 #[.pointer (some ⟨b, 0, none⟩)] w fun e w' => e = .returned (.tuple #[]) ∧ (AtB B b bs w' ∧ Below B w w') := by
  rcases h with h | h
  · refine (copyCheck_fresh b w h.cell0 h.shape h.frozen0).mono ?_
    rintro e w' ⟨rfl, rfl⟩
    exact ⟨rfl, h.used _, (Below.refl B w).setCell (p := ⟨b, 0, none⟩) h.1 _⟩
  · refine (copyCheck_used b w h.cell0).mono ?_
    rintro e w' ⟨rfl, rfl⟩
    exact ⟨rfl, h, Below.refl B _⟩

set_option maxHeartbeats 2000000 in
set_option maxRecDepth 100000 in
theorem writeString (B b : Nat) (bs : List Value) (s : ByteArray) (w : World) (h : IsB B b bs w) (hlen : bs.length + s.size ≤ 140737488355328) (hBw : B ≤ w.heap.size) :
    Calls Tryz.prog 52 #[.pointer (some ⟨b, 0, none⟩), .string s] w fun e w' => e = .returned (.tuple #[.int .i64 s.size, .nilIface]) ∧ (AtB B b (bs ++ Lib.strCells s) w' ∧ Below B w w') := by
  obtain ⟨i0, hi, hz0, hz1, hz2⟩ := info_parts infoByte
  have eC : ∀ args w, (callFunc 73 args).run Tryz.prog w = .ok (.enter 73 args) w := enters_of Tryz.func73 (by kernel_rfl) rfl
  go_enter Tryz.func52, Tryz.ntmps52
  go_wp2_with (go_at_fn 73; refine (copyCheck B b bs _ h).mono ?_)
  rintro e w1 ⟨rfl, h1, hb1⟩
  obtain ⟨hB, v, hbk, hown, hne⟩ := h1
  have c0 : w1.cell? ⟨b, 0, none⟩ = some (.pointer (some ⟨b, 0, none⟩)) := by rw [Lib.cell_of_heap hbk]; rfl
  have c1 : w1.cell? ⟨b, 1, none⟩ = some v := by rw [Lib.cell_of_heap hbk]; rfl
  go_wp2_with (at_builtin; refine Lib.wpList_append_own_string _ rfl _ _ 90 9 rfl B 5 i0 Tryz.underlying90 Tryz.underlying9 hi hz0 hz1 hz2 _ _ _ rfl hown s rfl ?c3 ?c4 ?c5 ?_)
  case c3 => unfold maxLen; omega
  case c4 => omega
  case c5 => have := hb1.size; omega
  intro v' w2 hown' hgrow _
  have hlt : b < w1.heap.size := by
    rcases Nat.lt_or_ge b w1.heap.size with h' | h'
    · exact h'
    · simp [Array.getElem?_eq_none h'] at hbk
  have hb2 : w2.heap[b]? = some (.cells #[.pointer (some ⟨b, 0, none⟩), v] 93 (0, 0)) := by
    rw [hgrow.block b hlt (fun e => hne e.symm)]
    exact hbk
  have d0 : w2.cell? ⟨b, 0, none⟩ = some (.pointer (some ⟨b, 0, none⟩)) := by rw [Lib.cell_of_heap hb2]; rfl
  have d1 : w2.cell? ⟨b, 1, none⟩ = some v := by rw [Lib.cell_of_heap hb2]; rfl
  have f1 : w2.frozen? ⟨b, 1, none⟩ = false := Lib.frozen_of_heap hb2 1
  obtain ⟨ao, n', cap, rfl⟩ : ∃ ao n' cap, v' = .slice ao n' cap := by
    rcases hown'.2 with ⟨hv, _⟩ | ⟨g, cap, cur, hv, _⟩
    · exact ⟨_, _, _, hv⟩
    · exact ⟨_, _, _, hv⟩
  go_wp2
  go_ret2
  refine ⟨rfl, ?_, ?_⟩
  · exact Lib.BuilderAt.put (T := 93) (e := 5) hB hb2 (bs' := bs ++ Lib.strCells s) (by simpa [Lib.strCells_length] using hown') (by decide)
  · exact (hb1.grown hgrow (by have := hb1.size; omega) (fun k hk => (hown.lt k hk).1)).setCell (p := ⟨b, 1, none⟩) hB _

def ren : Go.Shelf.Ren := ⟨fun | 169 => 53 | n => n, fun | 70 => 91 | 9 => 9 | 0 => 0 | 72 => 93 | 37 => 90 | 127 => 120 | 3 => 3 | 5 => 5 | n => n, fun | n => n⟩
theorem lays : Go.Proofs.Lays.n169 Tryz.prog ren := {
  mixed := by kernel_rfl
  f169 := Tryz.func53.trans (congrArg some (by kernel_rfl))
  t0 := Tryz.underlying0
  a0 := Tryz.isAgg0
  z0 := Tryz.sizeOf0
  v0 := Tryz.zeroValue0
  t3 := Tryz.underlying3
  a3 := Tryz.isAgg3
  z3 := Tryz.sizeOf3
  v3 := Tryz.zeroValue3
  t9 := Tryz.underlying9
  a9 := Tryz.isAgg9
  z9 := Tryz.sizeOf9
  v9 := Tryz.zeroValue9
  t37 := Tryz.underlying90
  a37 := Tryz.isAgg90
  z37 := Tryz.sizeOf90
  v37 := Tryz.zeroValue90
  t70 := Tryz.underlying91
  a70 := Tryz.isAgg91
  z70 := Tryz.sizeOf91
  v70 := Tryz.zeroValue91
  t72 := Tryz.underlying93
  a72 := Tryz.isAgg93
  z72 := Tryz.sizeOf93
  v72 := Tryz.zeroValue93
  t127 := Tryz.underlying120
  a127 := Tryz.isAgg120
  z127 := Tryz.sizeOf120
  v127 := Tryz.zeroValue120 }
theorem extra : Builder.Extra Tryz.prog ren := {
  sizeBuilder := by kernel_rfl
  liesBuilder := by kernel_rfl
  t5 := Tryz.underlying5
  a5 := Tryz.isAgg5
  z5 := Tryz.sizeOf5
  v5 := Tryz.zeroValue5
  infoByte := by kernel_rfl
  cellsByte := by kernel_rfl
  sizeByte := by kernel_rfl
  neB5 := by decide }
theorem string (B b : Nat) (l : List UInt8) (w : World) (h : IsB B b (Lib.byteCells l) w) (hBw : B ≤ w.heap.size) :
    Calls Tryz.prog 53 #[.pointer (some ⟨b, 0, none⟩)] w fun e w' => e = .returned (.string ⟨l.toArray⟩) ∧ Below B w w' := Any.Builder_String_any lays extra B b l w h hBw
end Go.Proofs.YtjkmgimedkomkaaGreat.Wb

namespace Go.Proofs.YtjkmgimedkomkaaGreat.Wb
open Go Go.Shelf Go.RowKit
set_option linter.unusedVariables false

def byteN (n k : Nat) : Nat := n / 2 ^ (56 - 8 * k) % 256
def cellsK (n k : Nat) : List Value := (List.range 8).map fun j => .int .u8 (if j < k then (byteN n j : Int) else 0)
def numB (n size : Nat) : List UInt8 := ((List.range 8).map fun j => UInt8.ofNat (byteN n j)).drop (8 - size)

theorem slice8 (b size : Nat) (hs : size ≤ 8) (hs1 : 1 ≤ size) (w : World) :
    (Instr.sliceAt 119 (.pointer (some ⟨b, 0, none⟩)) (some (.int .i64 (8 - (size : Int)))) none none).run Tryz.prog w = .ok (.slice (some ⟨b, 8 - size, none⟩) size size) w := by
  have h : Tryz.prog.underlying 119 = some (.array 8 5) := by kernel_rfl
  have hz := Tryz.sizeOf5 w
  have e1 : (8 - (size : Int)).toNat = 8 - size := by omega
  have e2 : ¬ 8 = 8 - size := by omega
  have e3 : 8 - (8 - size) = size := by omega
  simp [Instr.sliceAt, Instr.sureAddr, run_underlying h, Instr.sliceBounds, Instr.sliceBound, asIntOf, hz, e1, e2, e3, Addr.add, (by omega : 0 ≤ 8 - (size : Int)), (by omega : 8 - (size : Int) ≤ 8), (by omega : (size : Int) ≤ 8)]
  intro h0
  omega
theorem push_toNat (ns : List Int) : ∀ (s : ByteArray), (ns.foldl (fun r n => r.push (UInt8.ofNat n.toNat)) s) = ⟨s.data ++ (ns.map fun n => UInt8.ofNat n.toNat).toArray⟩ := by
  induction ns with
  | nil => intro s; simp
  | cons n ns ih => intro s; rw [List.foldl_cons, ih]; simp [ByteArray.push]
theorem conv (b o : Nat) (c : Nat) (ns : List Int) (w : World) (h : ∀ j n, ns[j]? = some n → w.cell? ⟨b, o + j, none⟩ = some (.int .u8 n)) :
    (convert 90 9 (.slice (some ⟨b, o, none⟩) ns.length c)).run Tryz.prog w = .ok (.string ⟨(ns.map fun n => UInt8.ofNat n.toNat).toArray⟩) w := by
  rw [run_convert_bytes_string w _ _ 5 _ _ _ (by kernel_rfl) (by kernel_rfl) (by kernel_rfl)]
  have hl : (loadCells ⟨b, o, none⟩ ns.length).run Tryz.prog w = .ok (ns.map (Value.int .u8)).toArray w := by
    have := run_loadCells_list (P := Tryz.prog) (w := w) ⟨b, o, none⟩ (ns.map (Value.int .u8)) (fun j v hj => by
      rw [List.getElem?_map] at hj
      obtain ⟨n, h1, rfl⟩ := Option.map_eq_some_iff.1 hj
      have := h j n h1
      simp only [Addr.add]
      split
      · rename_i hz; simp only [hz, Nat.add_zero] at this; exact this
      · exact this)
    rw [List.length_map] at this
    exact this
  rw [run_bytesToString w _ _ c ns hl, push_toNat]
  simp

set_option maxHeartbeats 1000000 in
set_option maxRecDepth 100000 in
theorem number (n size : Nat) (hn : n < 18446744073709551616) (hs : size ≤ 8) (hs1 : 1 ≤ size) (w : World) :
    Calls Tryz.prog 51 #[.int .u64 n, .int .i64 size] w fun e w' => e = .returned (.string ⟨(numB n size).toArray⟩) ∧ Below w.heap.size w w' := by
  have hsl := fun w1 => slice8 w.heap.size size hs hs1 w1
  go_enter Tryz.func51, Tryz.ntmps51
  go_wp2
  go_loopw [7] (fun i wr => ∃ k : Nat, k ≤ 8 ∧ i = .int .i64 k ∧ wr.heap[w.heap.size]? = some (.cells (cellsK n k).toArray 119 (0, 0)) ∧ Below w.heap.size w wr) (fun i _ => 8 - (intOf i).toNat)
  case atStart =>
    refine ⟨0, by omega, rfl, ?_, (Below.refl _ w).alloc (Nat.le_refl _) _⟩
    have := heap_alloc_new w (.cells #[.int .u8 0, .int .u8 0, .int .u8 0, .int .u8 0, .int .u8 0, .int .u8 0, .int .u8 0, .int .u8 0] 119 (0, 0))
    exact this
  case round =>
    obtain ⟨k, hk, rfl, hb, hbw⟩ := hrel
    by_cases hlt : k < 8
    · have hc : wr.cell? ⟨w.heap.size, k, none⟩ = some (.int .u8 0) := by
        rw [Lib.cell_of_heap hb]
        simp [cellsK, hlt]
      have hf := Lib.frozen_of_heap hb k
      go_wp2
      refine ⟨⟨k + 1, by omega, by simp, ?_, hbw.setCell (Nat.le_refl _) _⟩, by simp [intOf]; omega⟩
      have e1 : ((n : Int) / 2 ^ (56 - 8 * k) % 256) = ((byteN n k : Nat) : Int) := by simp [byteN]
      rw [e1, heap_setCell_same _ _ _ _ _ _ hb]
      congr 2
      apply Array.ext'
      apply List.ext_getElem?
      intro j
      simp only [Array.toList_setIfInBounds, List.getElem?_set, cellsK, List.getElem?_map, List.length_map, List.length_range]
      by_cases hj : k = j
      · subst hj; simp [hlt]
      · rw [if_neg hj]
        rcases Nat.lt_or_ge j 8 with h8 | h8
        · rw [List.getElem?_range h8]
          simp only [Option.map_some]
          congr 3
          simp only [eq_iff_iff]; omega
        · rw [List.getElem?_eq_none (by simpa using h8)]; rfl
    · obtain rfl : k = 8 := by omega
      have hcv := conv w.heap.size (8 - size) size (((List.range 8).map fun j => (byteN n j : Int)).drop (8 - size)) wr (fun j x hj => by
        rw [Lib.cell_of_heap hb]
        simp only [List.getElem?_drop, List.getElem?_map] at hj
        simp only [cellsK, List.getElem?_toArray, List.getElem?_map]
        obtain ⟨z, hz, rfl⟩ := Option.map_eq_some_iff.1 hj
        rw [hz]
        have := List.mem_range.1 (List.mem_of_getElem? hz)
        simp [this])
      have hln : (((List.range 8).map fun j => (byteN n j : Int)).drop (8 - size)).length = size := by simp; omega
      rw [hln] at hcv
      go_wp2
      go_ret
      refine ⟨?_, hbw⟩
      simp [numB, List.map_drop, List.range, List.range.loop]

theorem eW : ∀ args w, (callFunc 52 args).run Tryz.prog w = .ok (.enter 52 args) w := enters_of Tryz.func52 (by kernel_rfl) rfl
theorem eS : ∀ args w, (callFunc 53 args).run Tryz.prog w = .ok (.enter 53 args) w := enters_of Tryz.func53 (by kernel_rfl) rfl
theorem eN : ∀ args w, (callFunc 51 args).run Tryz.prog w = .ok (.enter 51 args) w := enters_of Tryz.func51 (by kernel_rfl) rfl
theorem eI : ∀ args w, (callFunc 50 args).run Tryz.prog w = .ok (.enter 50 args) w := enters_of Tryz.func50 (by kernel_rfl) rfl
theorem str_cells (l : List UInt8) : Lib.strCells ⟨l.toArray⟩ = Lib.byteCells l := by simp [Lib.strCells, Lib.byteCells]
theorem str_size (l : List UInt8) : (ByteArray.mk l.toArray).size = l.length := by simp [ByteArray.size]
theorem lt_of_cell {w : World} {b o : Nat} {v : Value} (h : w.cell? ⟨b, o, none⟩ = some v) : b < w.heap.size := by
  unfold World.cell? at h
  cases hb : w.heap[b]? with
  | none => simp [hb] at h
  | some o => exact (Array.getElem?_eq_some_iff.1 hb).1

set_option maxHeartbeats 1000000 in
set_option maxRecDepth 100000 in
/-- One text behind what was laid. -/
theorem with1 (o s : List UInt8) (b0 o0 c : Nat) (w : World) (hc0 : w.cell? ⟨b0, o0, none⟩ = some (.string ⟨s.toArray⟩)) (hl : o.length + s.length ≤ 1000000) :
    Calls Tryz.prog 50 #[.agg #[.string ⟨o.toArray⟩], .slice (some ⟨b0, o0, none⟩) 1 c] w fun e w' => e = .returned (.agg #[.string ⟨(o ++ s).toArray⟩]) ∧ Below w.heap.size w w' := by
  have hb0 := lt_of_cell hc0
  have eW := eW
  have eS := eS
  go_enter Tryz.func50, Tryz.ntmps50
  go_wp2_with (go_at_fn 52; refine (writeString (w.heap.size + 2) (w.heap.size + 2) (Lib.byteCells []) _ _ ?i1 ?i2 ?i3).mono ?_)
  case i1 =>
    show Lib.IsBuilder 93 5 (w.heap.size + 2) (w.heap.size + 2) [] _
    exact (by simpa using Lib.fresh_isBuilder 93 5 ((w.alloc (.cells #[.string ⟨o.toArray⟩] 25)).alloc (.cells #[.string ⟨#[]⟩] 25)))
  case i2 => rw [str_size, Lib.byteCells_length]; simp only [List.length_nil]; omega
  case i3 => simp
  have hW4 : (((w.alloc (.cells #[.string ⟨o.toArray⟩] 25)).alloc (.cells #[.string ⟨#[]⟩] 25)).alloc (.cells #[.pointer none, .slice none 0 0] 93)).heap[w.heap.size + 1]? = some (.cells #[.string ⟨#[]⟩] 25) := by
    rw [Lib.alloc_old _ _ _ (by simp)]
    have := heap_alloc_new (w.alloc (.cells #[.string ⟨o.toArray⟩] 25)) (.cells #[.string ⟨#[]⟩] 25)
    simpa using this
  have hWB : Below w.heap.size w (((w.alloc (.cells #[.string ⟨o.toArray⟩] 25)).alloc (.cells #[.string ⟨#[]⟩] 25)).alloc (.cells #[.pointer none, .slice none 0 0] 93)) := (((Below.refl _ w).alloc (Nat.le_refl _) _).alloc (by simp) _).alloc (by simp; omega) _
  have hWs : (((w.alloc (.cells #[.string ⟨o.toArray⟩] 25)).alloc (.cells #[.string ⟨#[]⟩] 25)).alloc (.cells #[.pointer none, .slice none 0 0] 93)).heap.size = w.heap.size + 3 := by simp
  generalize (((w.alloc (.cells #[.string ⟨o.toArray⟩] 25)).alloc (.cells #[.string ⟨#[]⟩] 25)).alloc (.cells #[.pointer none, .slice none 0 0] 93)) = W at *
  rintro e W1 ⟨rfl, h1, b1⟩
  rw [str_cells] at h1
  go_wp2
  go_loopw [13] (fun i wr => ∃ k : Nat, k ≤ 1 ∧ i = .int .i64 k ∧ IsB (w.heap.size + 2) (w.heap.size + 2) (Lib.byteCells (o ++ if k = 0 then [] else s)) wr ∧ Below (w.heap.size + 2) W wr) (fun i _ => 1 - (intOf i).toNat)
  case atStart => exact ⟨0, by omega, rfl, .inr (by simpa [Lib.byteCells] using h1), b1⟩
  case round =>
    obtain ⟨k, hk, rfl, hI, hbw⟩ := hrel
    have hsz := hbw.size
    by_cases hlt : k < 1
    · obtain rfl : k = 0 := by omega
      have hc1 : wr.cell? ⟨b0, o0, none⟩ = some (.string ⟨s.toArray⟩) := by
        rw [hbw.cell (p := ⟨b0, o0, none⟩) (by simp only; omega), hWB.cell (p := ⟨b0, o0, none⟩) hb0]; exact hc0
      simp only [if_pos, List.append_nil] at hI
      go_wp2_with (go_at_fn 52; refine (writeString (w.heap.size + 2) (w.heap.size + 2) (Lib.byteCells o) _ _ hI ?j2 ?j3).mono ?_)
      case j2 => rw [str_size, Lib.byteCells_length]; omega
      case j3 => omega
      rintro e W2 ⟨rfl, h2, b2⟩
      rw [str_cells, ← Lib.byteCells_append] at h2
      go_wp2
      exact ⟨⟨1, by omega, rfl, .inr (by simpa using h2), hbw.trans b2⟩, by simp [intOf]⟩
    · obtain rfl : k = 1 := by omega
      simp only [if_neg (show ¬ 1 = 0 by decide)] at hI
      go_wp2_with (go_at_fn 53; refine (string (w.heap.size + 2) (w.heap.size + 2) (o ++ s) _ hI ?j3).mono ?_)
      case j3 => omega
      rintro e W2 ⟨rfl, b2⟩
      have hb4 : W2.heap[w.heap.size + 1]? = some (.cells #[.string ⟨#[]⟩] 25 (0, 0)) := by
        rw [b2.block _ (by omega), hbw.block _ (by omega)]; exact hW4
      have d0 : W2.cell? ⟨w.heap.size + 1, 0, none⟩ = some (.string ⟨#[]⟩) := by rw [Lib.cell_of_heap hb4]; rfl
      have f0 : W2.frozen? ⟨w.heap.size + 1, 0, none⟩ = false := Lib.frozen_of_heap hb4 0
      go_wp2
      have d2 : (W2.setCell ⟨w.heap.size + 1, 0, none⟩ (.string ⟨(o ++ s).toArray⟩)).cell? ⟨w.heap.size + 1, 0, none⟩ = some (.string ⟨(o ++ s).toArray⟩) := by
        rw [Lib.cell_of_heap (heap_setCell_same _ _ _ _ _ _ hb4)]; rfl
      refine bodyPost_ret (v := .agg #[.string ⟨(o ++ s).toArray⟩]) (by simp [results, Tryz.results50, go_sem, d2]) rfl ⟨rfl, ?_⟩
      exact ((hWB.trans (hbw.mono (by omega))).trans (b2.mono (by omega))).setCell (by simp) _
end Go.Proofs.YtjkmgimedkomkaaGreat.Wb

namespace Go.Proofs.YtjkmgimedkomkaaGreat.Wb
open Go Go.Shelf Go.RowKit
set_option linter.unusedVariables false

theorem numB_len (n size : Nat) (hs : size ≤ 8) : (numB n size).length = size := by simp [numB]; omega
/-- Numbers of four bytes. -/
def fours (ns : List Nat) : List UInt8 := ns.flatMap fun n => numB n 4
theorem fours_len : ∀ ns : List Nat, (fours ns).length = 4 * ns.length
  | [] => rfl
  | n :: ns => by
    have := fours_len ns
    simp only [fours, List.flatMap_cons, List.length_append, numB_len n 4 (by omega), List.length_cons] at this ⊢
    omega
theorem fours_take (ns : List Nat) (k : Nat) (n : Nat) (h : ns[k]? = some n) : fours (ns.take (k + 1)) = fours (ns.take k) ++ numB n 4 := by
  rw [List.take_add_one, h]
  simp [fours]

theorem heap_lt {w : World} {b : Nat} {x : Obj} (h : w.heap[b]? = some x) : b < w.heap.size := (Array.getElem?_eq_some_iff.1 h).1
theorem cell_new (w : World) (v : Value) (t : TypeId) : (w.alloc (.cells #[v] t)).cell? ⟨w.heap.size, 0, none⟩ = some v := by
  have := heap_alloc_new w (.cells #[v] t)
  rw [Lib.cell_of_heap this]; rfl
theorem cell_old (w : World) (x : Obj) (b o : Nat) (h : b < w.heap.size) : (w.alloc x).cell? ⟨b, o, none⟩ = w.cell? ⟨b, o, none⟩ := World.cell?_of_block (w := w) (Lib.alloc_old w x b h)
theorem atB_below {B b : Nat} {p : Value} {bs : List Value} {w w' : World} (h : Lib.BuilderAt 93 5 B b p bs w) (k : Below w.heap.size w w') : Lib.BuilderAt 93 5 B b p bs w' := by
  obtain ⟨h1, v, h2, ⟨h3, h4⟩, h5⟩ := h
  refine ⟨h1, v, (k.block _ (heap_lt h2)).trans h2, ⟨h3, ?_⟩, h5⟩
  rcases h4 with h4 | ⟨g, cap, cur, g1, g2, g3, g4⟩
  · exact .inl h4
  · exact .inr ⟨g, cap, cur, g1, g2, (k.block _ (heap_lt g3)).trans g3, g4⟩
theorem isB_below {B b : Nat} {bs : List Value} {w w' : World} (h : IsB B b bs w) (k : Below w.heap.size w w') : IsB B b bs w' := h.imp (atB_below · k) (atB_below · k)

set_option maxHeartbeats 2000000 in
set_option maxRecDepth 100000 in
theorem four (o : List UInt8) (ns : List Nat) (b0 o0 c : Nat) (w : World) (hpos : 0 < ns.length) (hc0 : ∀ (j n : Nat), ns[j]? = some n → w.cell? ⟨b0, o0 + j, none⟩ = some (.int .u32 n)) (hn : ∀ n ∈ ns, n < 4294967296) (hl : o.length + 4 * ns.length ≤ 1000000) :
    Calls Tryz.prog 33 #[.agg #[.string ⟨o.toArray⟩], .slice (some ⟨b0, o0, none⟩) ns.length c] w fun e w' => e = .returned (.agg #[.string ⟨(o ++ fours ns).toArray⟩]) ∧ Below w.heap.size w w' := by
  have hb0 : b0 < w.heap.size := lt_of_cell (hc0 0 _ (List.getElem?_eq_getElem hpos))
  have eW := eW
  have eS := eS
  have eN := eN
  have eI := eI
  go_enter Tryz.func33, Tryz.ntmps33
  go_wp2
  have hW2 : (((w.alloc (.cells #[.string ⟨o.toArray⟩] 25)).alloc (.cells #[.string ⟨#[]⟩] 25)).alloc (.cells #[.pointer none, .slice none 0 0] 93)).heap[w.heap.size]? = some (.cells #[.string ⟨o.toArray⟩] 25) := by
    rw [Lib.alloc_old _ _ _ (by simp; omega), Lib.alloc_old _ _ _ (by simp)]
    exact heap_alloc_new w _
  have hW4 : (((w.alloc (.cells #[.string ⟨o.toArray⟩] 25)).alloc (.cells #[.string ⟨#[]⟩] 25)).alloc (.cells #[.pointer none, .slice none 0 0] 93)).heap[w.heap.size + 1]? = some (.cells #[.string ⟨#[]⟩] 25) := by
    rw [Lib.alloc_old _ _ _ (by simp)]
    have := heap_alloc_new (w.alloc (.cells #[.string ⟨o.toArray⟩] 25)) (.cells #[.string ⟨#[]⟩] 25)
    simpa using this
  have hWB : Below w.heap.size w (((w.alloc (.cells #[.string ⟨o.toArray⟩] 25)).alloc (.cells #[.string ⟨#[]⟩] 25)).alloc (.cells #[.pointer none, .slice none 0 0] 93)) := (((Below.refl _ w).alloc (Nat.le_refl _) _).alloc (by simp) _).alloc (by simp; omega) _
  have hWs : (((w.alloc (.cells #[.string ⟨o.toArray⟩] 25)).alloc (.cells #[.string ⟨#[]⟩] 25)).alloc (.cells #[.pointer none, .slice none 0 0] 93)).heap.size = w.heap.size + 3 := by simp
  have hI0 : IsB (w.heap.size + 2) (w.heap.size + 2) [] (((w.alloc (.cells #[.string ⟨o.toArray⟩] 25)).alloc (.cells #[.string ⟨#[]⟩] 25)).alloc (.cells #[.pointer none, .slice none 0 0] 93)) := by
    show Lib.IsBuilder 93 5 (w.heap.size + 2) (w.heap.size + 2) [] _
    exact (by simpa using Lib.fresh_isBuilder 93 5 ((w.alloc (.cells #[.string ⟨o.toArray⟩] 25)).alloc (.cells #[.string ⟨#[]⟩] 25)))
  generalize (((w.alloc (.cells #[.string ⟨o.toArray⟩] 25)).alloc (.cells #[.string ⟨#[]⟩] 25)).alloc (.cells #[.pointer none, .slice none 0 0] 93)) = W at *
  go_loopw [10] (fun i wr => ∃ k : Nat, k ≤ ns.length ∧ i = .int .i64 k ∧ IsB (w.heap.size + 2) (w.heap.size + 2) (Lib.byteCells (fours (ns.take k))) wr ∧ Below (w.heap.size + 2) W wr) (fun i _ => ns.length - (intOf i).toNat)
  case atStart => exact ⟨0, by omega, rfl, hI0, Below.refl _ _⟩
  case round =>
    obtain ⟨k, hk, rfl, hI, hbw⟩ := hrel
    have hsz := hbw.size
    by_cases hlt : k < ns.length
    · have hg := List.getElem?_eq_getElem hlt
      have hnn := hn _ (List.getElem_mem hlt)
      have hft := fours_take ns k _ hg
      generalize ns[k] = n at *
      have hc1 : wr.cell? ⟨b0, o0 + k, none⟩ = some (.int .u32 n) := by
        rw [hbw.cell (p := ⟨b0, o0 + k, none⟩) (by simp only; omega), hWB.cell (p := ⟨b0, o0 + k, none⟩) hb0]; exact hc0 k _ hg
      have hfl := fours_len (ns.take k)
      rw [List.length_take] at hfl
      go_wp2_with (go_at_fn 51; refine (number n 4 (by omega) (by omega) (by omega) _).mono ?_)
      rintro e W1 ⟨rfl, b1⟩
      have hI1 := isB_below hI b1
      have hs1 := b1.size
      go_wp2_with (go_at_fn 52; refine (writeString (w.heap.size + 2) (w.heap.size + 2) (Lib.byteCells (fours (ns.take k))) _ _ hI1 ?j2 ?j3).mono ?_)
      case j2 => rw [str_size, Lib.byteCells_length, hfl, numB_len n 4 (by omega)]; omega
      case j3 => omega
      rintro e W2 ⟨rfl, h2, b2⟩
      rw [str_cells, ← Lib.byteCells_append, ← hft] at h2
      go_wp2
      exact ⟨⟨k + 1, by omega, by simp, .inr (by simpa using h2), (hbw.trans (b1.mono (by omega))).trans b2⟩, by simp [intOf]; omega⟩
    · obtain rfl : k = ns.length := by omega
      rw [List.take_length] at hI
      have hb2 : wr.heap[w.heap.size]? = some (.cells #[.string ⟨o.toArray⟩] 25 (0, 0)) := by
        rw [hbw.block _ (by omega)]; exact hW2
      have d2 : wr.cell? ⟨w.heap.size, 0, none⟩ = some (.string ⟨o.toArray⟩) := by
        rw [Lib.cell_of_heap hb2]; rfl
      have hI' : IsB (w.heap.size + 2) (w.heap.size + 2) (Lib.byteCells (fours ns)) wr.drew := hI
      have hs' : w.heap.size + 3 ≤ wr.drew.heap.size := by show _ ≤ wr.heap.size; omega
      have hbd : Below (w.heap.size + 2) W wr.drew := hbw.drew
      have d4 : wr.drew.heap[w.heap.size + 1]? = some (.cells #[.string ⟨#[]⟩] 25 (0, 0)) := by
        rw [hbd.block _ (by omega)]; exact hW4
      go_wp2
      go_region_with (first
        | (go_at_fn 53; refine (string (w.heap.size + 2) (w.heap.size + 2) (fours ns) _ hI' (by omega)).mono ?_; rintro e W1 ⟨rfl, b1⟩; have d3 : W1.cell? ⟨w.heap.size, 0, none⟩ = some (.string ⟨o.toArray⟩) := (b1.cell (p := ⟨w.heap.size, 0, none⟩) (by simp only; omega)).trans d2; have d7 : (W1.alloc (.cells #[.string ⟨(fours ns).toArray⟩] 9)).cell? ⟨w.heap.size, 0, none⟩ = some (.string ⟨o.toArray⟩) := (cell_old _ _ _ _ (Nat.lt_of_lt_of_le (by omega) b1.size)).trans d3)
        | (go_at_fn 50; refine (with1 o (fours ns) _ 0 _ _ (cell_new _ _ _) (by rw [fours_len]; omega)).mono ?_; rintro e W2 ⟨rfl, b2⟩
           have s1 := b1.size
           have d5 : W2.heap[w.heap.size + 1]? = some (.cells #[.string ⟨#[]⟩] 25 (0, 0)) := by (rw [b2.block _ (by simp; omega), Lib.alloc_old _ _ _ (by omega), b1.block _ (by omega)]; exact d4)
           have d6 : W2.cell? ⟨w.heap.size + 1, 0, none⟩ = some (.string ⟨#[]⟩) := by (rw [Lib.cell_of_heap d5]; rfl)
           have f6 : W2.frozen? ⟨w.heap.size + 1, 0, none⟩ = false := Lib.frozen_of_heap d5 0))
      all_goals
        have d2 : (W2.setCell ⟨w.heap.size + 1, 0, none⟩ (.string ⟨(o ++ fours ns).toArray⟩)).cell? ⟨w.heap.size + 1, 0, none⟩ = some (.string ⟨(o ++ fours ns).toArray⟩) := by
          rw [Lib.cell_of_heap (heap_setCell_same _ _ _ _ _ _ d5)]; rfl
        go_wp2
        refine bodyPost_ret (v := .agg #[.string ⟨(o ++ fours ns).toArray⟩]) (by simp [results, Tryz.results33, go_sem, d2]) rfl ⟨rfl, ?_⟩
        exact ((((hWB.trans (hbd.mono (by omega))).trans (b1.mono (by omega))).alloc (by omega) _).trans (b2.mono (by simp; omega))).setCell (by simp) _
end Go.Proofs.YtjkmgimedkomkaaGreat.Wb

namespace Go.Proofs.YtjkmgimedkomkaaGreat.Wb
open Go Go.Shelf Go.RowKit
set_option linter.unusedVariables false

set_option maxHeartbeats 2000000 in
set_option maxRecDepth 100000 in
theorem text1 (o s : List UInt8) (b0 o0 c : Nat) (w : World) (hc0 : w.cell? ⟨b0, o0, none⟩ = some (.string ⟨s.toArray⟩)) (hl : o.length + s.length ≤ 900000) :
    Calls Tryz.prog 46 #[.agg #[.string ⟨o.toArray⟩], .slice (some ⟨b0, o0, none⟩) 1 c] w fun e w' => e = .returned (.agg #[.string ⟨(o ++ (numB s.length 4 ++ s)).toArray⟩]) ∧ Below w.heap.size w w' := by
  have hb0 : b0 < w.heap.size := lt_of_cell hc0
  have eW := eW
  have eS := eS
  have eN := eN
  have eI := eI
  go_enter Tryz.func46, Tryz.ntmps46
  go_wp2
  have hW2 : (((w.alloc (.cells #[.string ⟨o.toArray⟩] 25)).alloc (.cells #[.string ⟨#[]⟩] 25)).alloc (.cells #[.pointer none, .slice none 0 0] 93)).heap[w.heap.size]? = some (.cells #[.string ⟨o.toArray⟩] 25) := by
    rw [Lib.alloc_old _ _ _ (by simp; omega), Lib.alloc_old _ _ _ (by simp)]
    exact heap_alloc_new w _
  have hW4 : (((w.alloc (.cells #[.string ⟨o.toArray⟩] 25)).alloc (.cells #[.string ⟨#[]⟩] 25)).alloc (.cells #[.pointer none, .slice none 0 0] 93)).heap[w.heap.size + 1]? = some (.cells #[.string ⟨#[]⟩] 25) := by
    rw [Lib.alloc_old _ _ _ (by simp)]
    have := heap_alloc_new (w.alloc (.cells #[.string ⟨o.toArray⟩] 25)) (.cells #[.string ⟨#[]⟩] 25)
    simpa using this
  have hWB : Below w.heap.size w (((w.alloc (.cells #[.string ⟨o.toArray⟩] 25)).alloc (.cells #[.string ⟨#[]⟩] 25)).alloc (.cells #[.pointer none, .slice none 0 0] 93)) := (((Below.refl _ w).alloc (Nat.le_refl _) _).alloc (by simp) _).alloc (by simp; omega) _
  have hWs : (((w.alloc (.cells #[.string ⟨o.toArray⟩] 25)).alloc (.cells #[.string ⟨#[]⟩] 25)).alloc (.cells #[.pointer none, .slice none 0 0] 93)).heap.size = w.heap.size + 3 := by simp
  have hI0 : IsB (w.heap.size + 2) (w.heap.size + 2) [] (((w.alloc (.cells #[.string ⟨o.toArray⟩] 25)).alloc (.cells #[.string ⟨#[]⟩] 25)).alloc (.cells #[.pointer none, .slice none 0 0] 93)) := by
    show Lib.IsBuilder 93 5 (w.heap.size + 2) (w.heap.size + 2) [] _
    exact (by simpa using Lib.fresh_isBuilder 93 5 ((w.alloc (.cells #[.string ⟨o.toArray⟩] 25)).alloc (.cells #[.string ⟨#[]⟩] 25)))
  generalize (((w.alloc (.cells #[.string ⟨o.toArray⟩] 25)).alloc (.cells #[.string ⟨#[]⟩] 25)).alloc (.cells #[.pointer none, .slice none 0 0] 93)) = W at *
  go_loopw [10] (fun i wr => ∃ k : Nat, k ≤ 1 ∧ i = .int .i64 k ∧ IsB (w.heap.size + 2) (w.heap.size + 2) (Lib.byteCells (if k = 0 then [] else numB s.length 4 ++ s)) wr ∧ Below (w.heap.size + 2) W wr) (fun i _ => 1 - (intOf i).toNat)
  case atStart => exact ⟨0, by omega, rfl, hI0, Below.refl _ _⟩
  case round =>
    obtain ⟨k, hk, rfl, hI, hbw⟩ := hrel
    have hsz := hbw.size
    by_cases hlt : k < 1
    · obtain rfl : k = 0 := by omega
      simp only [if_pos] at hI
      have hc1 : wr.cell? ⟨b0, o0, none⟩ = some (.string ⟨s.toArray⟩) := by
        rw [hbw.cell (p := ⟨b0, o0, none⟩) (by simp only; omega), hWB.cell (p := ⟨b0, o0, none⟩) hb0]; exact hc0
      have hss : (ByteArray.mk s.toArray).size = s.length := str_size s
      go_wp2_with (go_at_fn 51; refine (number s.length 4 (by omega) (by omega) (by omega) _).mono ?_)
      rintro e W1 ⟨rfl, b1⟩
      have hI1 := isB_below hI b1
      have hs1 := b1.size
      go_wp2_with (go_at_fn 52; refine (writeString (w.heap.size + 2) (w.heap.size + 2) (Lib.byteCells []) _ _ hI1 ?j2 ?j3).mono ?_)
      case j2 => rw [str_size, Lib.byteCells_length, numB_len _ 4 (by omega)]; simp only [List.length_nil]; omega
      case j3 => omega
      rintro e W2 ⟨rfl, h2, b2⟩
      have hs2 := b2.size
      rw [str_cells, ← Lib.byteCells_append, List.nil_append] at h2
      go_wp2_with (go_at_fn 52; refine (writeString (w.heap.size + 2) (w.heap.size + 2) (Lib.byteCells (numB s.length 4)) _ _ (.inr h2) ?j2 ?j3).mono ?_)
      case j2 => rw [str_size, Lib.byteCells_length, numB_len _ 4 (by omega)]; omega
      case j3 => omega
      rintro e W3 ⟨rfl, h3, b3⟩
      rw [str_cells, ← Lib.byteCells_append] at h3
      go_wp2
      exact ⟨⟨1, by omega, by simp, .inr (by simpa using h3), ((hbw.trans (b1.mono (by omega))).trans b2).trans b3⟩, by simp [intOf]⟩
    · obtain rfl : k = 1 := by omega
      simp only [if_neg (show ¬ 1 = 0 by decide)] at hI
      have hb2 : wr.heap[w.heap.size]? = some (.cells #[.string ⟨o.toArray⟩] 25 (0, 0)) := by
        rw [hbw.block _ (by omega)]; exact hW2
      have d2 : wr.cell? ⟨w.heap.size, 0, none⟩ = some (.string ⟨o.toArray⟩) := by
        rw [Lib.cell_of_heap hb2]; rfl
      have hI' : IsB (w.heap.size + 2) (w.heap.size + 2) (Lib.byteCells (numB s.length 4 ++ s)) wr.drew := hI
      have hs' : w.heap.size + 3 ≤ wr.drew.heap.size := by show _ ≤ wr.heap.size; omega
      have hbd : Below (w.heap.size + 2) W wr.drew := hbw.drew
      have d4 : wr.drew.heap[w.heap.size + 1]? = some (.cells #[.string ⟨#[]⟩] 25 (0, 0)) := by
        rw [hbd.block _ (by omega)]; exact hW4
      go_wp2
      go_region_with (first
        | (go_at_fn 53; refine (string (w.heap.size + 2) (w.heap.size + 2) (numB s.length 4 ++ s) _ hI' (by omega)).mono ?_; rintro e W1 ⟨rfl, b1⟩; have d3 : W1.cell? ⟨w.heap.size, 0, none⟩ = some (.string ⟨o.toArray⟩) := (b1.cell (p := ⟨w.heap.size, 0, none⟩) (by simp only; omega)).trans d2; have d7 : (W1.alloc (.cells #[.string ⟨(numB s.length 4 ++ s).toArray⟩] 9)).cell? ⟨w.heap.size, 0, none⟩ = some (.string ⟨o.toArray⟩) := (cell_old _ _ _ _ (Nat.lt_of_lt_of_le (by omega) b1.size)).trans d3)
        | (go_at_fn 50; refine (with1 o (numB s.length 4 ++ s) _ 0 _ _ (cell_new _ _ _) (by rw [List.length_append, numB_len _ 4 (by omega)]; omega)).mono ?_; rintro e W2 ⟨rfl, b2⟩
           have s1 := b1.size
           have d5 : W2.heap[w.heap.size + 1]? = some (.cells #[.string ⟨#[]⟩] 25 (0, 0)) := by (rw [b2.block _ (by simp; omega), Lib.alloc_old _ _ _ (by omega), b1.block _ (by omega)]; exact d4)
           have d6 : W2.cell? ⟨w.heap.size + 1, 0, none⟩ = some (.string ⟨#[]⟩) := by (rw [Lib.cell_of_heap d5]; rfl)
           have f6 : W2.frozen? ⟨w.heap.size + 1, 0, none⟩ = false := Lib.frozen_of_heap d5 0))
      all_goals
        have d2 : (W2.setCell ⟨w.heap.size + 1, 0, none⟩ (.string ⟨(o ++ (numB s.length 4 ++ s)).toArray⟩)).cell? ⟨w.heap.size + 1, 0, none⟩ = some (.string ⟨(o ++ (numB s.length 4 ++ s)).toArray⟩) := by
          rw [Lib.cell_of_heap (heap_setCell_same _ _ _ _ _ _ d5)]; rfl
        go_wp2
        refine bodyPost_ret (v := .agg #[.string ⟨(o ++ (numB s.length 4 ++ s)).toArray⟩]) (by simp [results, Tryz.results46, go_sem, d2]) rfl ⟨rfl, ?_⟩
        exact ((((hWB.trans (hbd.mono (by omega))).trans (b1.mono (by omega))).alloc (by omega) _).trans (b2.mono (by simp; omega))).setCell (by simp) _
end Go.Proofs.YtjkmgimedkomkaaGreat.Wb

namespace Go.Proofs.YtjkmgimedkomkaaGreat.Aw
open Go Go.RowKit
set_option linter.unusedSimpArgs false
set_option linter.unusedVariables false

theorem below_ext {w w' : World} (g : G) (h : Below w.heap.size w w') : Ext w g w' g :=
  ⟨h.os, h.tape, h.output, h.size, Nat.le_refl _, fun _ _ => rfl, fun _ _ => rfl, fun _ _ => rfl, fun b hb hn => ⟨hn, h.block b hb⟩, fun b k hb hk => ⟨k, hk, Nat.le_refl _, fun o _ => World.cell?_of_block (w := w) (h.block b hb)⟩⟩

theorem inv_below {w w' : World} {g : G} {st : St} (hi : Inv w g st) (h : Below w.heap.size w w') : Inv w' g st := by
  have he' := below_ext g h
  refine ⟨hi.next, hi.pos, hi.fresh, fun l hl => Nat.lt_of_lt_of_le (hi.lt l hl) h.size, hi.inj, ?_, ?_, ?_, ?_, hi.aside.keep he' fun _ _ => rfl⟩
  · intro l e s n hl
    obtain ⟨h1, h2, h3, h4⟩ := hi.own l e s n hl
    refine ⟨h1, h2, h3, fun hnl => ?_⟩
    obtain ⟨cur, k1, k2, k3⟩ := h4 hnl
    exact ⟨cur, by rw [h.block _ (Array.getElem?_eq_some_iff.1 k1).1]; exact k1, k2, k3⟩
  · intro l e s cs hl
    obtain ⟨h1, h2, h3⟩ := hi.box l e s cs hl
    refine ⟨h1, h2, fun hnl => ?_⟩
    obtain ⟨cur, k1, k2, k3, k4, k5⟩ := h3 hnl
    exact ⟨cur, by rw [h.block _ (Array.getElem?_eq_some_iff.1 k1).1]; exact k1, k2, k3, RepL.mono he' _ _ k4, k5⟩
  · intro l ag ks es hl
    have hm := hi.mp l ag ks es hl
    exact hm.keep he' (hi.map_lt hl) (h.block _ hm.blk_lt) rfl
  · intro l e n hl
    have hm := hi.qu l e n hl
    exact hm.keep he' (hi.que_lt hl) (h.block _ hm.blk_lt) rfl

/-- A row that a call has laid is taken in as a box. -/
theorem adopt_row {w w' : World} {g : G} {st : St} (hi : Inv w g st) (h : Below w.heap.size w w') {e : TypeId} {v : Value} {zs : List Value} {cs : List LV} (hrow : w'.ownsRow w.heap.size e 1 v zs.length zs) (hr : ∀ w g, RepL w g cs zs) :
    ∃ g', Rep w' g' (.ms st.next 0 zs.length) v ∧ Inv w' g' (st.new (.box e 1 cs)) ∧ Ext w g w' g' := by
  have hi' := inv_below hi h
  have hcl : cs.length = zs.length := repL_length _ _ (hr w g)
  rcases hrow.2 with ⟨rfl, hn⟩ | ⟨b, cap, cur, rfl, hb, hcur, h1, h2, h3, h4⟩
  · have hcs : cs = [] := List.eq_nil_of_length_eq_zero (by omega)
    subst hcs
    refine ⟨g.addNil, ?_, inv_nil hi' _ (.inr ⟨_, _, rfl⟩), (below_ext g h).trans (ext_nil w' g)⟩
    simp only [Rep, hn]
    exact ⟨none, 0, rfl, Nat.le_refl _, Nat.zero_le _, by simp [G.addNil, hi.next], by simp, by simp [G.addNil, hi.next]⟩
  · have hnx := hi.next
    have hext : Ext w g w' (g.add b 0 cap false) := by
      refine ⟨h.os, h.tape, h.output, h.size, Nat.le_succ _, ?_, ?_, ?_, ?_, ?_⟩
      · intro l hl; simp [G.add, Nat.ne_of_lt hl]
      · intro l hl; simp [G.add, Nat.ne_of_lt hl]
      · intro l hl; simp [G.add, Nat.ne_of_lt hl]
      · intro x hx hn; exact ⟨by simp only [G.add]; rw [if_neg (by omega)]; exact hn, h.block x hx⟩
      · intro x k hx hk; exact ⟨k, by simp only [G.add]; rw [if_neg (by omega)]; exact hk, Nat.le_refl _, fun o _ => World.cell?_of_block (w := w) (h.block x hx)⟩
    have hold : ∀ l, blk g st l → g.β l ≠ b := fun l hl => by have := hi.lt l hl; omega
    have hblt : b < w'.heap.size := (Array.getElem?_eq_some_iff.1 hcur).1
    refine ⟨g.add b 0 cap false, ?_, ?_, hext⟩
    · simp only [Rep, G.add, hnx, if_pos]
      exact ⟨_, cap, rfl, h1, h2, fun _ => ⟨rfl, fun _ => rfl⟩, fun _ => rfl, Nat.lt_succ_self _⟩
    · refine ⟨by simp [G.add, St.new, hnx], by simp [St.new], ?_, ?_, ?_, ?_, ?_, ?_, ?_, hi.aside.keep hext (frz_new rfl)⟩
      · intro l hl
        simp only [St.new] at hl ⊢
        rw [if_neg (by omega)]
        exact hi.fresh l (by omega)
      · intro l hl
        by_cases e0 : l = st.next
        · subst e0; simp [G.add, hnx, hblt]
        · rw [blk_old hnx e0] at hl
          have := hi'.lt l hl
          simp only [G.add, hnx, if_neg e0]; exact this
      · intro l l' hl hl' hbb
        by_cases e0 : l = st.next <;> by_cases e1 : l' = st.next
        · omega
        · rw [blk_old hnx e1] at hl'
          simp only [G.add, hnx, if_pos e0, if_neg e1] at hbb
          exact absurd hbb.symm (hold l' hl')
        · rw [blk_old hnx e0] at hl
          simp only [G.add, hnx, if_pos e1, if_neg e0] at hbb
          exact absurd hbb (hold l hl)
        · rw [blk_old hnx e0] at hl
          rw [blk_old hnx e1] at hl'
          simp only [G.add, hnx, if_neg e1, if_neg e0] at hbb
          exact hi.inj l l' hl hl' hbb
      · intro l e' s n hl
        by_cases e0 : l = st.next
        · simp [St.new, e0] at hl
        · simp only [St.new, if_neg e0] at hl
          obtain ⟨q1, q2, q3, q4⟩ := hi'.own l e' s n hl
          simp only [G.add, hnx, if_neg e0]
          refine ⟨q1, q2, q3, fun hnl => ?_⟩
          obtain ⟨c', k1, k2, k3⟩ := q4 hnl
          have hne := hold l (by unfold blk; rw [hl]; exact hnl)
          exact ⟨c', k1, k2, by rw [if_neg hne]; exact k3⟩
      · intro l e' s' cs' hl
        by_cases e0 : l = st.next
        · simp only [St.new, if_pos e0] at hl
          injection hl with a1 a2 a3
          subst a1 a2 a3
          refine ⟨?_, ?_, fun _ => ⟨cur.toList, ?_, ?_, ?_, ?_, ?_⟩⟩
          · simp only [G.add, hnx, if_pos e0]; exact h2
          · simp [G.add, hnx, e0]
          · simp only [G.add, hnx, if_pos e0]; simpa using hcur
          · simp only [G.add, hnx, if_pos e0]; simpa using h3
          · simp only [Array.length_toList]; omega
          · have : cur.toList.take cs.length = zs := by rw [hcl]; simpa using h4
            rw [this]; exact hr _ _
          · simp [G.add, hnx, e0]
        · simp only [St.new, if_neg e0] at hl
          obtain ⟨k3, k0, k'⟩ := hi'.box l e' s' cs' hl
          refine ⟨?_, ?_, fun hnl => ?_⟩
          · simp only [G.add, hnx, if_neg e0]; exact k3
          · simp only [G.add, hnx, if_neg e0]; exact k0
          simp only [G.add, hnx, if_neg e0] at hnl
          obtain ⟨cur', k1, k2, k4, k5, k6⟩ := k' hnl
          have hne := hold l (by unfold blk; rw [hl]; exact hnl)
          obtain ⟨_, _, k'⟩ := hi.box l e' s' cs' hl
          obtain ⟨cur2, m1, m2, m4, m5, m6⟩ := k' hnl
          have hlt := (Array.getElem?_eq_some_iff.1 m1).1
          refine ⟨cur2, ?_, ?_, m4, RepL.mono hext _ _ m5, ?_⟩
          · simp only [G.add, hnx, if_neg e0]; rw [h.block _ hlt]; exact m1
          · simp only [G.add, hnx, if_neg e0]; exact m2
          · simp only [G.add, hnx, if_neg e0]; rw [if_neg hne]; exact m6
      · intro l ag ks es hl
        by_cases e0 : l = st.next
        · simp [St.new, e0] at hl
        · simp only [St.new, if_neg e0] at hl
          have hm := hi.mp l ag ks es hl
          exact hm.keep hext (hi.map_lt hl) (h.block _ hm.blk_lt) (by simp only [G.add]; rw [if_neg (hold l (hi.map_blk hl))])
      · intro l e' n hl
        by_cases e0 : l = st.next
        · simp [St.new, e0] at hl
        · simp only [St.new, if_neg e0] at hl
          have hm := hi.qu l e' n hl
          exact hm.keep hext (hi.que_lt hl) (h.block _ hm.blk_lt) (by simp only [G.add]; rw [if_neg (hold l (hi.que_blk hl))])

theorem repL_us (w : World) (g : G) : ∀ l : List Int, RepL w g (us l) (l.map (Value.int .u32))
  | [] => by simp [RepL]
  | a :: l => by simp only [List.map_cons, RepL, Rep]; exact ⟨_, _, rfl, rfl, repL_us w g l⟩
theorem us_vals {w : World} {g : G} : ∀ (l : List Int) (ws : List Value), RepL w g (us l) ws → ws = l.map (Value.int .u32)
  | [], ws, h => by simpa [RepL] using h
  | a :: l, ws, h => by
    simp only [List.map_cons, RepL, Rep] at h
    obtain ⟨v, ws', rfl, rfl, h2⟩ := h
    rw [us_vals l ws' h2]; rfl

theorem Collect (l : List Int) (x : LV) (q : Nat) (st : St) (hl : l.length ≤ 1048576) (hH : st.H q = .box 44 1 [x]) (hx : srcT tab 44 st x = some (l.length, us l)) :
    ACalls Tryz.prog 96 [.fn (.func 98) [.pt q 0]] st fun r st' => r = .ms st.next 0 l.length ∧ st' = st.new (.box 40 1 (us l)) := by
  refine ⟨enters_of Tryz.func96 (by kernel_rfl) rfl, fun w g vs hi hr => ?_⟩
  simp only [RepL, Rep] at hr
  obtain ⟨v, _, rfl, ⟨us1, rfl, v1, _, rfl, ⟨rfl, hq⟩, rfl⟩, rfl⟩ := hr
  obtain ⟨_, b2, b3⟩ := hi.box q _ _ _ hH
  have hnl : g.nl q = false := by
    cases hn : g.nl q with
    | false => rfl
    | true => obtain ⟨_, h⟩ := b2 hn; cases h
  obtain ⟨cur, k1, k2, k3, k4, k5⟩ := b3 hnl
  simp only [List.length_cons, List.length_nil, Nat.zero_add, RepL] at k4 k3
  obtain ⟨sv, rest, hsv, hrep, _⟩ := k4
  have hc0 : w.cell? ⟨g.β q, 0, none⟩ = some sv := by
    rw [cell_of_row w _ _ _ _ _ k1]
    cases cur with
    | nil => simp at k3
    | cons a cur => simp at hsv; simp [hsv.1]
  have hI : Rg.Ints w.heap.size w sv l := by
    obtain ⟨A, cap, rfl, hrw⟩ := src_sound hi hx hrep
    by_cases hl0 : l = []
    · subst hl0; exact .inl ⟨rfl, A, cap, rfl⟩
    · obtain ⟨b, o, ws, rfl, m1, m2⟩ := hrw (by cases l with | nil => exact absurd rfl hl0 | cons a l => simp)
      have hws := us_vals l ws m1
      refine .inr ⟨b, o, cap, rfl, ?_, fun j hj => ?_⟩
      · have h0 := m2 0 (by cases l with | nil => exact absurd rfl hl0 | cons a l => simp)
        rw [hws] at h0
        cases l with
        | nil => exact absurd rfl hl0
        | cons a l => exact cell_lt (a := ⟨b, o + 0, none⟩) (v := .int .u32 a) (by simpa using h0)
      · rw [m2 j (by simpa using hj), hws]
        simp [hj]
  refine (((Rg.collect_in Fence.wide 4 trivial trivial trivial rfl (Nat.le_refl _) (g.β q) sv l hl w (cell_lt hc0) hc0 hI).calls room_wide)).mono ?_
  rintro e w' ⟨v, rfl, hrow, hbel⟩
  have hlen : l.length = (l.map (Value.int .u32)).length := by simp
  rw [hlen] at hrow
  obtain ⟨g', h1, h2, h3⟩ := adopt_row (cs := us l) hi hbel hrow (fun w g => repL_us w g l)
  rw [← hlen] at h1
  exact ⟨v, _, _, g', rfl, ⟨rfl, rfl⟩, h1, h2, h3⟩

/-- The evaluator's own word for Collect(Values(..)). -/
def prim : XCall := fun f args st => if f = 96 then match args with
    | [.fn (.func g) [.pt q 0]] => if g = 98 then match st.H q with
        | .box e s [x] => if e = 44 ∧ s = 1 then match srcT tab 44 st x with
            | some (n, ds) => match intsL ds with
              | some (ks, ns) => if (ks.all fun k => decide (k = .u32)) = true ∧ ns.length = n ∧ n ≤ 1048576 then some [(.ms st.next 0 n, st.new (.box 40 1 (us ns)))] else none
              | none => none
            | none => none
          else none
        | _ => none
      else none
    | _ => none
  else none

theorem intsL_us : ∀ (ds : List LV) (ks : List IntKind) (ns : List Int), intsL ds = some (ks, ns) → (ks.all fun k => decide (k = .u32)) = true → ds = us ns
  | [], ks, ns, h, _ => by simp only [intsL, Option.some.injEq, Prod.mk.injEq] at h; obtain ⟨rfl, rfl⟩ := h; rfl
  | c :: ds, ks, ns, h, ha => by
    cases c with
    | atom x =>
      cases x with
      | int k n =>
        simp only [intsL] at h
        cases hi : intsL ds with
        | none => simp [hi] at h
        | some p =>
          obtain ⟨ks', ns'⟩ := p
          simp only [hi, Option.some.injEq, Prod.mk.injEq] at h
          obtain ⟨rfl, rfl⟩ := h
          simp only [List.all_cons, Bool.and_eq_true, decide_eq_true_eq] at ha
          obtain ⟨rfl, ha⟩ := ha
          rw [intsL_us ds ks' ns' hi ha]; rfl
      | _ => simp [intsL] at h
    | _ => simp [intsL] at h

theorem prim_ok : CallOk Tryz.prog prim := by
  intro f args st rs h
  unfold prim at h
  split at h
  · rename_i hf
    subst hf
    split at h
    · rename_i g q
      split at h
      · rename_i hg
        subst hg
        split at h
        · rename_i e s x hH
          split at h
          · rename_i hes
            obtain ⟨rfl, rfl⟩ := hes
            split at h
            · rename_i n ds hsrc
              split at h
              · rename_i ks ns hin
                split at h
                · rename_i hc
                  obtain ⟨c1, rfl, c3⟩ := hc
                  injection h with h
                  subst h
                  have := intsL_us ds ks ns hin c1
                  subst this
                  exact (Collect ns x q st c3 hH hsrc).mono (by rintro r st' ⟨rfl, rfl⟩; simp)
                · cases h
              · cases h
            · cases h
          · cases h
        · cases h
      · cases h
    · cases h
  · cases h

end Go.Proofs.YtjkmgimedkomkaaGreat.Aw

namespace Go.Proofs.YtjkmgimedkomkaaGreat.Aw
open Go Go.RowKit
set_option linter.unusedSimpArgs false
set_option linter.unusedVariables false
theorem awake09 (st : St) : ACalls Tryz.prog 104 [] st fun r st' => r = bb true ∧ st' = st :=
  acalls_closed tabOk fnsOk prim_ok mixed 1000000 true (by kernel_rfl)
theorem awake10 (st : St) : ACalls Tryz.prog 44 [] st fun r st' => r = bb true ∧ st' = st :=
  acalls_closed tabOk fnsOk prim_ok mixed 1000000 true (by kernel_rfl)
theorem awake11 (st : St) : ACalls Tryz.prog 4 [] st fun r st' => r = bb true ∧ st' = st :=
  acalls_closed tabOk fnsOk prim_ok mixed 1000000 true (by kernel_rfl)
end Go.Proofs.YtjkmgimedkomkaaGreat.Aw

namespace Go.Proofs.YtjkmgimedkomkaaGreat.Aw
open Go Go.RowKit
set_option linter.unusedSimpArgs false
set_option linter.unusedVariables false

abbrev sv (l : List UInt8) : LV := .atom (strV l)
@[simp] theorem ba_sv (l : List UInt8) : (ByteArray.mk l.toArray).data.toList = l := by simp
theorem row_get {w : World} {g : G} {b : Nat} : ∀ (cs : List LV) (o j : Nat) (x : Value), RepRow w g b cs o → cs[j]? = some (.atom x) → w.cell? ⟨b, o + j, none⟩ = some x
  | [], o, j, x, _, h => by simp at h
  | c :: cs, o, 0, x, hr, h => by
    simp only [RepRow] at hr
    obtain ⟨⟨v, h1, h2, _⟩, _⟩ := hr
    simp at h
    subst h
    simp only [Rep] at h2
    rw [Nat.add_zero, h1, h2]
  | c :: cs, o, j + 1, x, hr, h => by
    simp only [RepRow] at hr
    have := row_get cs (o + 1) j x hr.2 (by simpa using h)
    rw [show o + (j + 1) = o + 1 + j by omega]; exact this
theorem aNumber (n : Int) (size : Nat) (st : St) (h0 : 0 ≤ n) (h1 : n < 18446744073709551616) (hs : 1 ≤ size) (hs8 : size ≤ 8) :
    ACalls Tryz.prog 51 [.atom (.int .u64 n), i size] st fun r st' => r = sv (Wb.numB n.toNat size) ∧ st' = st := by
  refine ⟨enters_of Tryz.func51 (by kernel_rfl) rfl, fun w g vs hi hr => ?_⟩
  simp only [RepL, Rep] at hr
  obtain ⟨v1, vs', rfl, rfl, v2, vs2, rfl, rfl, rfl⟩ := hr
  have hn : (n.toNat : Int) = n := Int.toNat_of_nonneg h0
  rw [← hn]
  refine (Wb.number n.toNat size (by omega) hs8 hs w).mono ?_
  rintro e w' ⟨rfl, hB⟩
  exact ⟨_, _, st, g, rfl, ⟨rfl, rfl⟩, by simp only [Rep, Int.toNat_natCast], inv_below hi hB, below_ext g hB⟩
theorem aWith (o s : List UInt8) (t : Nat) (st : St) (hl : o.length + s.length ≤ 1000000) :
    ACalls Tryz.prog 50 [.ag [sv o], .sl t 1 [sv s]] st fun r st' => r = .ag [sv (o ++ s)] ∧ st' = st := by
  refine ⟨enters_of Tryz.func50 (by kernel_rfl) rfl, fun w g vs hi hr => ?_⟩
  simp only [RepL, Rep] at hr
  obtain ⟨v1, vs', rfl, ⟨us, rfl, v3, vs3, rfl, rfl, rfl⟩, v2, vs2, rfl, ⟨A, cap, rfl, _, _, _, h5⟩, rfl⟩ := hr
  obtain ⟨b, o', rfl, h6⟩ := h5 (by simp)
  refine (Wb.with1 o s b o' cap w (row_get [sv s] o' 0 _ h6 rfl) hl).mono ?_
  rintro e w' ⟨rfl, hB⟩
  exact ⟨_, _, st, g, rfl, ⟨rfl, rfl⟩, by simp only [Rep, RepL]; exact ⟨_, rfl, _, _, rfl, rfl, rfl⟩, inv_below hi hB, below_ext g hB⟩
theorem aFour (o : List UInt8) (ns : List Int) (t : Nat) (st : St) (hp : 0 < ns.length) (hn : ∀ n ∈ ns, 0 ≤ n ∧ n < 4294967296) (hl : o.length + 4 * ns.length ≤ 1000000) :
    ACalls Tryz.prog 33 [.ag [sv o], .sl t ns.length (us ns)] st fun r st' => r = .ag [sv (o ++ Wb.fours (ns.map Int.toNat))] ∧ st' = st := by
  refine ⟨enters_of Tryz.func33 (by kernel_rfl) rfl, fun w g vs hi hr => ?_⟩
  simp only [RepL, Rep] at hr
  obtain ⟨v1, vs', rfl, ⟨us', rfl, v3, vs3, rfl, rfl, rfl⟩, v2, vs2, rfl, ⟨A, cap, rfl, _, _, _, h5⟩, rfl⟩ := hr
  obtain ⟨b, o', rfl, h6⟩ := h5 (by intro h; have := congrArg List.length h; simp at this; rw [this] at hp; simp at hp)
  have h7 := Wb.four o (ns.map Int.toNat) b o' cap w (by simpa using hp) (fun j n hj => by
    rw [List.getElem?_map] at hj
    obtain ⟨m, h1, rfl⟩ := Option.map_eq_some_iff.1 hj
    have hm := hn m (List.mem_of_getElem? h1)
    rw [Int.toNat_of_nonneg hm.1]
    exact row_get (us ns) o' j _ h6 (by rw [List.getElem?_map, h1]; rfl)) (fun n h => by
    obtain ⟨m, h1, rfl⟩ := List.mem_map.1 h
    have hm := hn m h1
    omega) (by simpa using hl)
  rw [List.length_map] at h7
  refine h7.mono ?_
  rintro e w' ⟨rfl, hB⟩
  exact ⟨_, _, st, g, rfl, ⟨rfl, rfl⟩, by simp only [Rep, RepL]; exact ⟨_, rfl, _, _, rfl, rfl, rfl⟩, inv_below hi hB, below_ext g hB⟩
theorem aText (o s : List UInt8) (t : Nat) (st : St) (hl : o.length + s.length ≤ 900000) :
    ACalls Tryz.prog 46 [.ag [sv o], .sl t 1 [sv s]] st fun r st' => r = .ag [sv (o ++ (Wb.numB s.length 4 ++ s))] ∧ st' = st := by
  refine ⟨enters_of Tryz.func46 (by kernel_rfl) rfl, fun w g vs hi hr => ?_⟩
  simp only [RepL, Rep] at hr
  obtain ⟨v1, vs', rfl, ⟨us, rfl, v3, vs3, rfl, rfl, rfl⟩, v2, vs2, rfl, ⟨A, cap, rfl, _, _, _, h5⟩, rfl⟩ := hr
  obtain ⟨b, o', rfl, h6⟩ := h5 (by simp)
  refine (Wb.text1 o s b o' cap w (row_get [sv s] o' 0 _ h6 rfl) hl).mono ?_
  rintro e w' ⟨rfl, hB⟩
  exact ⟨_, _, st, g, rfl, ⟨rfl, rfl⟩, by simp only [Rep, RepL]; exact ⟨_, rfl, _, _, rfl, rfl, rfl⟩, inv_below hi hB, below_ext g hB⟩
theorem aByte (o : List UInt8) (n : Int) (st : St) (h0 : 0 ≤ n) (h1 : n < 256) (hl : o.length ≤ 900000) :
    ACalls Tryz.prog 32 [.ag [sv o], .atom (.int .u8 n)] st fun r st' => r = .ag [sv (o ++ Wb.numB n.toNat 1)] ∧ st' = st := by
  refine acalls_tidy (Q := fun r => r = .ag [sv (o ++ Wb.numB n.toNat 1)]) ?_ fun r h => by subst h; exact ⟨trivial, trivial⟩
  refine acalls_of_body tabOk Tryz.func32 rfl rfl Tryz.ntmps32 (rs := [.cell 4 25]) rfl (by simp) ?_
  have hw : IntKind.u64.wrap n = n := by rw [IntKind.wrap_u64]; omega
  (repeat' (first | refine awp_seq ?_ | refine awp_block ?_ | ((first | refine awp_skip ?_ | refine awp_exit ?_); simp only [ak, reduceIte]) | (refine awp_ret ?_; simp only [ak, reduceIte]; simp []) | (refine awp_cond ?_; simp []; (try with_reducible refine ⟨?_, ?_⟩) <;> (try with_reducible intro hc) <;> try (exfalso; omega)) | ((first | (refine w_e [] ?_; intro J hJ; simp only []) | (refine w_q ?_; intro J hJ) | refine e_go ?_); simp []; (repeat refine ca ?_); (try ((try with_reducible refine ⟨?_, ?_⟩) <;> (try with_reducible intro hnil) <;> refine hJ _ _ ?_ <;> clear hJ J <;> simp only [ak, reduceIte] <;> try subst hnil)))))
  (refine w_s [] [st.next] [(0, true), (1, true), (2, true), (3, true), (4, true), (5, false), (6, false)] ?_; intro J hJ; simp [hw]; (repeat refine ca ?_); (try ((try with_reducible refine ⟨?_, ?_⟩) <;> (try with_reducible intro hnil) <;> refine hJ _ _ ?_ <;> clear hJ J <;> simp only [ak, reduceIte] <;> try subst hnil)))
  refine dcallK_ofE (aNumber n 1 _ h0 (by omega) (by omega) (by omega)) (by simp) ?_; rintro r s1 ⟨rfl, h2⟩
  rw [h2]; clear h2 s1
  refine ⟨fun _ => by simp, ?_⟩
  (refine d_go ?_; simp []; (repeat refine ca ?_); (try ((try with_reducible refine ⟨?_, ?_⟩) <;> (try with_reducible intro hnil) <;> refine hJ _ _ ?_ <;> clear hJ J <;> simp only [ak, reduceIte] <;> try subst hnil)))
  have hl1 := Wb.numB_len n.toNat 1 (by omega)
  refine dcallK_ofE (aWith o (Wb.numB n.toNat 1) (st.next + 1 + 1) _ (by omega)) (by simp) ?_; rintro r s1 ⟨rfl, h2⟩
  rw [h2]; clear h2 s1
  refine ⟨fun h => by first | (simp; done) | (cases h), ?_⟩
  (refine d_go ?_; simp []; (repeat refine ca ?_); (try ((try with_reducible refine ⟨?_, ?_⟩) <;> (try with_reducible intro hnil) <;> refine hJ _ _ ?_ <;> clear hJ J <;> simp only [ak, reduceIte] <;> try subst hnil)))
  (repeat' (first | refine awp_seq ?_ | refine awp_block ?_ | ((first | refine awp_skip ?_ | refine awp_exit ?_); simp only [ak, reduceIte]) | (refine awp_ret ?_; simp only [ak, reduceIte]; simp []) | (refine awp_cond ?_; simp []; (try with_reducible refine ⟨?_, ?_⟩) <;> (try with_reducible intro hc) <;> try (exfalso; omega)) | ((first | (refine w_e [] ?_; intro J hJ; simp only []) | (refine w_q ?_; intro J hJ) | refine e_go ?_); simp []; (repeat refine ca ?_); (try ((try with_reducible refine ⟨?_, ?_⟩) <;> (try with_reducible intro hnil) <;> refine hJ _ _ ?_ <;> clear hJ J <;> simp only [ak, reduceIte] <;> try subst hnil)))))
  exact (((Keeps.new _ _).trans (Keeps.new _ _)).trans (Keeps.new _ _)).set (by simp) _
end Go.Proofs.YtjkmgimedkomkaaGreat.Aw

namespace Go.Proofs.YtjkmgimedkomkaaGreat.Aw
open Go Go.RowKit
set_option linter.unusedSimpArgs false
set_option linter.unusedVariables false

/-- A step. -/
structure Sq where
  k : Int
  id : Int
  a : Int
  b : Int
  pa : Int
  pb : Int
  deriving DecidableEq
def Sq.ok (s : Sq) : Prop := (-9223372036854775808 ≤ s.k ∧ s.k ≤ 9223372036854775807) ∧ U32 s.id ∧ U32 s.a ∧ U32 s.b ∧ U32 s.pa ∧ U32 s.pb
def sq0 : Sq := ⟨0, 0, 0, 0, 0, 0⟩
def sqL (s : Sq) : List LV := [i s.k, u s.id, u s.a, u s.b, u s.pa, u s.pb]
def sqs (l : List Sq) : List LV := l.flatMap sqL
theorem sqs_length (l : List Sq) : (sqs l).length = l.length * 6 := by
  induction l with
  | nil => rfl
  | cons s l ih => simp only [sqs, List.flatMap_cons, List.length_append, List.length_cons] at ih ⊢; rw [ih]; simp [sqL]; omega
theorem sqs_drop (l : List Sq) (k : Nat) (hk : k < l.length) : (sqs l).drop (k * 6) = i (l.getD k sq0).k :: u (l.getD k sq0).id :: u (l.getD k sq0).a :: u (l.getD k sq0).b :: u (l.getD k sq0).pa :: u (l.getD k sq0).pb :: sqs (l.drop (k + 1)) := by
  induction l generalizing k with
  | nil => simp at hk
  | cons s l ih =>
    cases k with
    | zero => rfl
    | succ k =>
      have := ih k (by simpa using hk)
      rw [show (k + 1) * 6 = k * 6 + 6 by omega]
      simp only [sqs, List.flatMap_cons] at this ⊢
      show (sqL s ++ l.flatMap sqL).drop (k * 6 + 6) = _
      rw [show k * 6 + 6 = (sqL s).length + k * 6 by simp [sqL]; omega, ← List.drop_drop, List.drop_left, this]
      simp
def five (s : Sq) : List Int := [s.id, s.a, s.b, s.pa, s.pb]
/-- A step's bytes. -/
def stepB (s : Sq) : List UInt8 := Wb.numB (s.k % 256).toNat 1 ++ Wb.fours ((five s).map Int.toNat)
def stepsB (l : List Sq) : List UInt8 := l.flatMap stepB
theorem stepB_len (s : Sq) : (stepB s).length = 21 := by
  unfold stepB
  rw [List.length_append, Wb.numB_len _ 1 (by omega), Wb.fours_len]
  simp [five]
theorem stepsB_len (l : List Sq) : (stepsB l).length = 21 * l.length := by
  induction l with
  | nil => rfl
  | cons s l ih => simp only [stepsB, List.flatMap_cons, List.length_append, List.length_cons, stepB_len] at ih ⊢; omega
theorem stepsB_take (l : List Sq) (k : Nat) (hk : k < l.length) : stepsB (l.take (k + 1)) = stepsB (l.take k) ++ stepB (l.getD k sq0) := by
  rw [List.take_add_one, List.getElem?_eq_getElem hk, List.getD_eq_getElem?_getD, List.getElem?_eq_getElem hk]
  unfold stepsB
  rw [List.flatMap_append]
  simp
theorem wrapU8 (n : Int) : IntKind.u8.wrap n = n % 256 := by simp [IntKind.wrap, IntKind.signed, IntKind.bits]
theorem Lay_1 (o : List UInt8) (s : Sq) (st : St) (hs : s.ok) (hl : o.length ≤ 800000) :
    ACalls Tryz.prog 31 [.ag [sv o], .ag (sqL s)] st fun r st' => r = .ag [sv (o ++ stepB s)] ∧ st' = st := by
  refine acalls_tidy (Q := fun r => r = .ag [sv (o ++ stepB s)]) ?_ fun r h => by subst h; exact ⟨trivial, trivial⟩
  obtain ⟨k, id, a, b, pa, pb⟩ := s
  obtain ⟨_, h1, h2, h3, h4, h5⟩ := hs
  simp only [U32] at h1 h2 h3 h4 h5
  have hw := wrapU8 k
  have hl1 := Wb.numB_len (k % 256).toNat 1 (by omega)
  have q1 : ∀ n ∈ [id, a, b, pa, pb], 0 ≤ n ∧ n < 4294967296 := by
    intro n hn
    simp only [List.mem_cons, List.not_mem_nil, or_false] at hn
    rcases hn with rfl | rfl | rfl | rfl | rfl <;> assumption
  have q2 : (o ++ Wb.numB (k % 256).toNat 1).length + 4 * [id, a, b, pa, pb].length ≤ 1000000 := by
    rw [List.length_append, hl1]; simp only [List.length_cons, List.length_nil]; omega
  refine acalls_of_body tabOk Tryz.func31 rfl rfl Tryz.ntmps31 (rs := [.cell 4 25]) rfl (by simp) ?_
  (repeat' (first | refine awp_seq ?_ | refine awp_block ?_ | ((first | refine awp_skip ?_ | refine awp_exit ?_); simp only [ak, reduceIte]) | (refine awp_ret ?_; simp only [ak, reduceIte]; simp [sqL]) | (refine awp_cond ?_; simp [sqL]; (try with_reducible refine ⟨?_, ?_⟩) <;> (try with_reducible intro hc) <;> try (exfalso; omega)) | ((first | (refine w_e [] ?_; intro J hJ; simp only []) | (refine w_q ?_; intro J hJ) | refine e_go ?_); simp [sqL]; (repeat refine ca ?_); (try ((try with_reducible refine ⟨?_, ?_⟩) <;> (try with_reducible intro hnil) <;> refine hJ _ _ ?_ <;> clear hJ J <;> simp only [ak, reduceIte] <;> try subst hnil)))))
  refine w_a [] [st.next, st.next + 1] ?_; intro J hJ
  refine a_pre 4 [(0, true), (1, true), (2, true), (3, true), (5, true), (6, true), (7, true), (8, true), (9, true), (10, true), (11, true), (12, true), (13, true), (14, true)] ?_
  simp [sqL, hw]
  refine a_alt2 3 (4, true) (15, true) ?_ ?_
  · simp
    refine dcallK_ofE (aByte o (k % 256) _ (by omega) (by omega) (by omega)) (by simp) ?_; rintro r s1 ⟨rfl, h⟩
    rw [h]; clear h s1
    refine ⟨fun h => by first | (simp; done) | (cases h), ?_⟩
    refine a_pre 0 [(15, true), (16, true), (17, true)] ?_
    simp
    refine dcallK_ofE (aFour (o ++ Wb.numB (k % 256).toNat 1) [id, a, b, pa, pb] (st.next + 1 + 1 + 1) _ (Nat.zero_lt_succ _) q1 q2) (by simp) ?_; rintro r s1 ⟨rfl, h⟩
    rw [h]; clear h s1
    refine ⟨fun h => by first | (simp; done) | (cases h), ?_⟩
    simp
    refine aany_end (hJ _ _ ?_)
    simp only [ak]
    (repeat' (first | refine awp_seq ?_ | refine awp_block ?_ | ((first | refine awp_skip ?_ | refine awp_exit ?_); simp only [ak, reduceIte]) | (refine awp_ret ?_; simp only [ak, reduceIte]; simp []) | (refine awp_cond ?_; simp []; (try with_reducible refine ⟨?_, ?_⟩) <;> (try with_reducible intro hc) <;> try (exfalso; omega)) | ((first | (refine w_e [] ?_; intro J hJ; simp only []) | (refine w_q ?_; intro J hJ) | refine e_go ?_); simp []; (repeat refine ca ?_); (try ((try with_reducible refine ⟨?_, ?_⟩) <;> (try with_reducible intro hnil) <;> refine hJ _ _ ?_ <;> clear hJ J <;> simp only [ak, reduceIte] <;> try subst hnil)))))
    exact ⟨by simp [stepB, five], ((((Keeps.new _ _).trans (Keeps.new _ _)).trans (Keeps.new _ _)).trans (Keeps.new _ _)).set (by omega) _⟩
  · simp
    refine a_pre 0 [(4, true), (16, true), (17, true)] ?_
    simp
    refine dcallK_ofE (aByte o (k % 256) _ (by omega) (by omega) (by omega)) (by simp) ?_; rintro r s1 ⟨rfl, h⟩
    rw [h]; clear h s1
    refine ⟨fun h => by first | (simp; done) | (cases h), ?_⟩
    simp
    refine dcallK_ofE (aFour (o ++ Wb.numB (k % 256).toNat 1) [id, a, b, pa, pb] (st.next + 1 + 1 + 1) _ (Nat.zero_lt_succ _) q1 q2) (by simp) ?_; rintro r s1 ⟨rfl, h⟩
    rw [h]; clear h s1
    refine ⟨fun h => by first | (simp; done) | (cases h), ?_⟩
    simp
    refine aany_end (hJ _ _ ?_)
    simp only [ak]
    (repeat' (first | refine awp_seq ?_ | refine awp_block ?_ | ((first | refine awp_skip ?_ | refine awp_exit ?_); simp only [ak, reduceIte]) | (refine awp_ret ?_; simp only [ak, reduceIte]; simp []) | (refine awp_cond ?_; simp []; (try with_reducible refine ⟨?_, ?_⟩) <;> (try with_reducible intro hc) <;> try (exfalso; omega)) | ((first | (refine w_e [] ?_; intro J hJ; simp only []) | (refine w_q ?_; intro J hJ) | refine e_go ?_); simp []; (repeat refine ca ?_); (try ((try with_reducible refine ⟨?_, ?_⟩) <;> (try with_reducible intro hnil) <;> refine hJ _ _ ?_ <;> clear hJ J <;> simp only [ak, reduceIte] <;> try subst hnil)))))
    exact ⟨by simp [stepB, five], ((((Keeps.new _ _).trans (Keeps.new _ _)).trans (Keeps.new _ _)).trans (Keeps.new _ _)).set (by omega) _⟩

theorem getD_ok {l : List Sq} (hl : ∀ s ∈ l, s.ok) {j : Nat} (hj : j < l.length) : (l.getD j sq0).ok := by
  rw [List.getD_eq_getElem?_getD, List.getElem?_eq_getElem hj]
  exact hl _ (List.getElem_mem hj)
/-- The bytes of a row of steps. -/
def layB (l : List Sq) : List UInt8 := Wb.numB l.length 4 ++ stepsB l
theorem Row (o : List UInt8) (l : List Sq) (st : St) (hl : ∀ s ∈ l, s.ok) (h60 : l.length ≤ 60) (ho : o.length ≤ 100) :
    ACalls Tryz.prog 30 [.ag [sv o], .sl 0 l.length (sqs l), .fn (.func 31) []] st fun r st' => r = .ag [sv (o ++ layB l)] ∧ st' = st := by
  refine acalls_tidy (Q := fun r => r = .ag [sv (o ++ layB l)]) ?_ fun r h => by subst h; exact ⟨trivial, trivial⟩
  have hw : IntKind.u32.wrap (l.length : Int) = l.length := by rw [IntKind.wrap_u32]; omega
  have hsl := sqs_length l
  refine acalls_of_body tabOk Tryz.func30 rfl rfl Tryz.ntmps30 (rs := [.cell 6 25]) rfl (by simp) ?_
  (repeat' (first | refine awp_seq ?_ | refine awp_block ?_ | ((first | refine awp_skip ?_ | refine awp_exit ?_); simp only [ak, reduceIte]) | (refine awp_ret ?_; simp only [ak, reduceIte]; simp [hw]) | (refine awp_cond ?_; simp [hw]; (try with_reducible refine ⟨?_, ?_⟩) <;> (try with_reducible intro hc) <;> try (exfalso; omega)) | ((first | (refine w_e [] ?_; intro J hJ; simp only []) | (refine w_q ?_; intro J hJ) | refine e_go ?_); simp [hw]; (repeat refine ca ?_); (try ((try with_reducible refine ⟨?_, ?_⟩) <;> (try with_reducible intro hnil) <;> refine hJ _ _ ?_ <;> clear hJ J <;> simp only [ak, reduceIte] <;> try subst hnil)))))
  refine callK_ofE (aFour o [(l.length : Int)] (st.next + 1 + 1) _ (Nat.zero_lt_succ _) (by intro n hn; simp only [List.mem_singleton] at hn; omega) (by simp only [List.length_singleton]; omega)) (by simp) ?_; rintro r s1 ⟨rfl, h⟩
  rw [h]; clear h s1
  (repeat' (first | refine awp_seq ?_ | refine awp_block ?_ | ((first | refine awp_skip ?_ | refine awp_exit ?_); simp only [ak, reduceIte]) | (refine awp_ret ?_; simp only [ak, reduceIte]; simp []) | (refine awp_cond ?_; simp []; (try with_reducible refine ⟨?_, ?_⟩) <;> (try with_reducible intro hc) <;> try (exfalso; omega)) | ((first | (refine w_e [] ?_; intro J hJ; simp only []) | (refine w_q ?_; intro J hJ) | refine e_go ?_); simp []; (repeat refine ca ?_); (try ((try with_reducible refine ⟨?_, ?_⟩) <;> (try with_reducible intro hnil) <;> refine hJ _ _ ?_ <;> clear hJ J <;> simp only [ak, reduceIte] <;> try subst hnil)))))
  have e0 : ¬ st.next = st.next + 1 := by omega
  have e1 : ¬ st.next = st.next + 1 + 1 := by omega
  have e2 : ¬ st.next + 1 = st.next := by omega
  have hN : Wb.fours [l.length] = Wb.numB l.length 4 := by simp [Wb.fours]
  refine awp_range 17 16 18 25 (l.length) (fun j fr st2 => fr 2 = .fn (.func 31) [] ∧ fr 3 = .pt st.next 0 ∧ fr 6 = .pt (st.next + 1) 0 ∧ fr 15 = .sl 0 l.length (sqs l) ∧ st2.H st.next = .box 25 1 [sv (o ++ Wb.numB l.length 4 ++ stepsB (l.take j))] ∧ st2.H (st.next + 1) = .box 25 1 [sv []] ∧ st.next + 1 < st2.next ∧ Keeps st st2) ?_ ?_ ?_
  · exact ⟨by simp, by simp, by simp, by simp, by simp [e0, e1, hN, stepsB], by simp [e2], by simp, ((((Keeps.new _ _).trans (Keeps.new _ _)).trans (Keeps.new _ _)).set (by omega) _)⟩
  · rintro j fr s hlt ⟨f2, f3, f6, f15, hO, hR, hn, hk⟩ fi fn JO hJO
    have hd := sqs_drop l j hlt
    have hso := getD_ok hl hlt
    have htk := stepsB_take l j hlt
    have hj6 : j * 6 < l.length * 6 := by omega
    generalize l.getD j sq0 = y at *
    have hy : sqL y = [i y.k, u y.id, u y.a, u y.b, u y.pa, u y.pb] := rfl
    have x0 : ¬ st.next = s.next := by omega
    have x1 : ¬ st.next + 1 = s.next := by omega
    have hbl := stepsB_len (l.take j)
    rw [List.length_take] at hbl
    have hb : (o ++ Wb.numB l.length 4 ++ stepsB (l.take j)).length ≤ 800000 := by
      rw [List.length_append, List.length_append, Wb.numB_len _ 4 (by omega), hbl]; omega
    (repeat' (first | refine awp_seq ?_ | refine awp_block ?_ | ((first | refine awp_skip ?_ | refine awp_exit ?_); simp only [ak, reduceIte]) | (refine awp_ret ?_; simp only [ak, reduceIte]; simp [f2, f3, f15, fi, fn, hlt, hd, hsl, hj6, hO, x0, x1]) | (refine awp_cond ?_; simp [f2, f3, f15, fi, fn, hlt, hd, hsl, hj6, hO, x0, x1]; (try with_reducible refine ⟨?_, ?_⟩) <;> (try with_reducible intro hc) <;> try (exfalso; omega)) | ((first | (refine w_e [] ?_; intro J hJ; simp only []) | (refine w_q ?_; intro J hJ) | refine e_go ?_); simp [f2, f3, f15, fi, fn, hlt, hd, hsl, hj6, hO, x0, x1]; (repeat refine ca ?_); (try ((try with_reducible refine ⟨?_, ?_⟩) <;> (try with_reducible intro hnil) <;> refine hJ _ _ ?_ <;> clear hJ J <;> simp only [ak, reduceIte] <;> try subst hnil)))))
    refine callK_ofE (Lay_1 (o ++ Wb.numB l.length 4 ++ stepsB (l.take j)) y _ hso hb) (by simp [hy]) ?_; rintro r s1 ⟨rfl, h⟩
    rw [h]; clear h s1
    (repeat' (first | refine awp_seq ?_ | refine awp_block ?_ | ((first | refine awp_skip ?_ | refine awp_exit ?_); simp only [ak, reduceIte]) | (refine awp_ret ?_; simp only [ak, reduceIte]; simp [f3, hO, x0, x1]) | (refine awp_cond ?_; simp [f3, hO, x0, x1]; (try with_reducible refine ⟨?_, ?_⟩) <;> (try with_reducible intro hc) <;> try (exfalso; omega)) | ((first | (refine w_e [] ?_; intro J hJ; simp only []) | (refine w_q ?_; intro J hJ) | refine e_go ?_); simp [f3, hO, x0, x1]; (repeat refine ca ?_); (try ((try with_reducible refine ⟨?_, ?_⟩) <;> (try with_reducible intro hnil) <;> refine hJ _ _ ?_ <;> clear hJ J <;> simp only [ak, reduceIte] <;> try subst hnil)))))
    exact hJO _ _ (by simp [fi]) (by simp [fn]) ⟨by simp [f2], by simp [f3], by simp [f6], by simp [f15], by simp [htk], by simp [e2, x1, hR], by simp; omega, (((hk.trans (Keeps.new _ _)).set (by omega) _).set (by omega) _)⟩
  · rintro fr s ⟨f2, f3, f6, f15, hO, hR, hn, hk⟩
    rw [List.take_length] at hO
    (repeat' (first | refine awp_seq ?_ | refine awp_block ?_ | ((first | refine awp_skip ?_ | refine awp_exit ?_); simp only [ak, reduceIte]) | (refine awp_ret ?_; simp only [ak, reduceIte]; simp [f3, f6, hO, hR, e0]) | (refine awp_cond ?_; simp [f3, f6, hO, hR, e0]; (try with_reducible refine ⟨?_, ?_⟩) <;> (try with_reducible intro hc) <;> try (exfalso; omega)) | ((first | (refine w_e [] ?_; intro J hJ; simp only []) | (refine w_q ?_; intro J hJ) | refine e_go ?_); simp [f3, f6, hO, hR, e0]; (repeat refine ca ?_); (try ((try with_reducible refine ⟨?_, ?_⟩) <;> (try with_reducible intro hnil) <;> refine hJ _ _ ?_ <;> clear hJ J <;> simp only [ak, reduceIte] <;> try subst hnil)))))
    exact ⟨by simp [layB], hk.set (by omega) _⟩
theorem Lay (l : List Sq) (st : St) (hl : ∀ s ∈ l, s.ok) (h60 : l.length ≤ 60) :
    ACalls Tryz.prog 6 [.ag [sv []], .sl 0 l.length (sqs l)] st fun r st' => r = .ag [sv (layB l)] ∧ st' = st := by
  refine acalls_tidy (Q := fun r => r = .ag [sv (layB l)]) ?_ fun r h => by subst h; exact ⟨trivial, trivial⟩
  refine acalls_of_body tabOk Tryz.func6 rfl rfl Tryz.ntmps6 (rs := [.cell 4 25]) rfl (by simp) ?_
  (repeat' (first | refine awp_seq ?_ | refine awp_block ?_ | ((first | refine awp_skip ?_ | refine awp_exit ?_); simp only [ak, reduceIte]) | (refine awp_ret ?_; simp only [ak, reduceIte]; simp []) | (refine awp_cond ?_; simp []; (try with_reducible refine ⟨?_, ?_⟩) <;> (try with_reducible intro hc) <;> try (exfalso; omega)) | ((first | (refine w_e [] ?_; intro J hJ; simp only []) | (refine w_q ?_; intro J hJ) | refine e_go ?_); simp []; (repeat refine ca ?_); (try ((try with_reducible refine ⟨?_, ?_⟩) <;> (try with_reducible intro hnil) <;> refine hJ _ _ ?_ <;> clear hJ J <;> simp only [ak, reduceIte] <;> try subst hnil)))))
  refine callK_ofE (Row [] l _ hl h60 (by simp)) (by simp) ?_; rintro r s1 ⟨rfl, h⟩
  rw [h]; clear h s1
  (repeat' (first | refine awp_seq ?_ | refine awp_block ?_ | ((first | refine awp_skip ?_ | refine awp_exit ?_); simp only [ak, reduceIte]) | (refine awp_ret ?_; simp only [ak, reduceIte]; simp []) | (refine awp_cond ?_; simp []; (try with_reducible refine ⟨?_, ?_⟩) <;> (try with_reducible intro hc) <;> try (exfalso; omega)) | ((first | (refine w_e [] ?_; intro J hJ; simp only []) | (refine w_q ?_; intro J hJ) | refine e_go ?_); simp []; (repeat refine ca ?_); (try ((try with_reducible refine ⟨?_, ?_⟩) <;> (try with_reducible intro hnil) <;> refine hJ _ _ ?_ <;> clear hJ J <;> simp only [ak, reduceIte] <;> try subst hnil)))))
  exact ((Keeps.new _ _).trans (Keeps.new _ _)).set (by simp) _
theorem OutString (l : List UInt8) (st : St) : ACalls Tryz.prog 7 [.ag [sv l]] st fun r st' => r = sv l ∧ st' = st := by
  refine acalls_tidy (Q := fun r => r = sv l) ?_ fun r h => by subst h; trivial
  refine acalls_of_body tabOk Tryz.func7 rfl rfl Tryz.ntmps7 (rs := [.tmp 2]) rfl (by simp) ?_
  (repeat' (first | refine awp_seq ?_ | refine awp_block ?_ | ((first | refine awp_skip ?_ | refine awp_exit ?_); simp only [ak, reduceIte]) | (refine awp_ret ?_; simp only [ak, reduceIte]; simp []) | (refine awp_cond ?_; simp []; (try with_reducible refine ⟨?_, ?_⟩) <;> (try with_reducible intro hc) <;> try (exfalso; omega)) | ((first | (refine w_e [] ?_; intro J hJ; simp only []) | (refine w_q ?_; intro J hJ) | refine e_go ?_); simp []; (repeat refine ca ?_); (try ((try with_reducible refine ⟨?_, ?_⟩) <;> (try with_reducible intro hnil) <;> refine hJ _ _ ?_ <;> clear hJ J <;> simp only [ak, reduceIte] <;> try subst hnil)))))
  exact Keeps.new _ _
end Go.Proofs.YtjkmgimedkomkaaGreat.Aw

namespace Go.Proofs.YtjkmgimedkomkaaGreat.Aw
open Go Go.RowKit
set_option linter.unusedSimpArgs false
set_option linter.unusedVariables false

/-- An In: its error, what is left. -/
abbrev InS := Int × List UInt8
def stIn (st : St) (q : Nat) (s : InS) : St := st.set q (.box 75 2 [i s.1, sv s.2])
theorem stIn_H (st : St) (q : Nat) (s : InS) : (stIn st q s).H q = .box 75 2 [i s.1, sv s.2] := by simp [stIn]
theorem st_set_set (st : St) (q : Nat) (a b : LObj) : (st.set q a).set q b = st.set q b := by
  show St.mk _ _ = St.mk _ _
  congr 1
  funext l
  simp only [St.set]
  split <;> rfl
theorem stIn_set (st : St) (q : Nat) (s : InS) (e : Int) (r : List UInt8) : (stIn st q s).set q (.box 75 2 [i e, sv r]) = stIn st q (e, r) := st_set_set _ _ _ _
/-- The first error stays. -/
def flF (e : Int) (s : InS) : InS := if s.1 = 0 then (e, s.2) else s
/-- So many bytes. -/
def nxF (n : Int) (s : InS) : List UInt8 × InS := if s.1 ≠ 0 then ([], s) else if n < 0 ∨ n > s.2.length then ([], (3, s.2)) else (s.2.take n.toNat, (0, s.2.drop n.toNat))
def valF (l : List UInt8) : Nat := l.foldl (fun n b => n * 256 + b.toNat) 0
theorem note_ (st : St) (q : Nat) (s : InS) (e : Int) :
    ACalls Tryz.prog 45 [.pt q 0, i e] (stIn st q s) fun r st' => r = .tu [] ∧ st' = stIn st q (flF e s) := by
  obtain ⟨s1, s2⟩ := s
  have hH := stIn_H st q (s1, s2)
  refine acalls_of_body tabOk Tryz.func45 rfl rfl Tryz.ntmps45 (rs := []) rfl (by simp) ?_
  unfold flF
  by_cases h : s1 = 0
  · simp only [if_pos h]
    have hb : (s1 == 0) = true := by simpa using h
    (repeat' (first | refine awp_seq ?_ | refine awp_block ?_ | ((first | refine awp_skip ?_ | refine awp_exit ?_); simp only [ak, reduceIte]) | (refine awp_ret ?_; simp only [ak, reduceIte]; simp [hH, hb]) | (refine awp_cond ?_; simp [hH, hb]; (try with_reducible refine ⟨?_, ?_⟩) <;> (try with_reducible intro hc) <;> try (exfalso; omega)) | ((first | (refine w_e [] ?_; intro J hJ; simp only []) | (refine w_q ?_; intro J hJ) | refine e_go ?_); simp [hH, hb]; (repeat refine ca ?_); (try ((try with_reducible refine ⟨?_, ?_⟩) <;> (try with_reducible intro hnil) <;> refine hJ _ _ ?_ <;> clear hJ J <;> simp only [ak, reduceIte] <;> try subst hnil)))))
    exact ⟨trivial, rfl, stIn_set _ _ _ _ _⟩
  · simp only [if_neg h]
    have hb : (s1 == 0) = false := by simpa using h
    (repeat' (first | refine awp_seq ?_ | refine awp_block ?_ | ((first | refine awp_skip ?_ | refine awp_exit ?_); simp only [ak, reduceIte]) | (refine awp_ret ?_; simp only [ak, reduceIte]; simp [hH, hb]) | (refine awp_cond ?_; simp [hH, hb]; (try with_reducible refine ⟨?_, ?_⟩) <;> (try with_reducible intro hc) <;> try (exfalso; omega)) | ((first | (refine w_e [] ?_; intro J hJ; simp only []) | (refine w_q ?_; intro J hJ) | refine e_go ?_); simp [hH, hb]; (repeat refine ca ?_); (try ((try with_reducible refine ⟨?_, ?_⟩) <;> (try with_reducible intro hnil) <;> refine hJ _ _ ?_ <;> clear hJ J <;> simp only [ak, reduceIte] <;> try subst hnil)))))
    exact ⟨trivial, rfl, rfl⟩
theorem failed_ (st : St) (q : Nat) (s : InS) :
    ACalls Tryz.prog 72 [.pt q 0] (stIn st q s) fun r st' => r = bb (s.1 != 0) ∧ st' = stIn st q s := by
  have hH := stIn_H st q s
  refine acalls_of_body tabOk Tryz.func72 rfl rfl Tryz.ntmps72 (rs := [.tmp 2]) rfl (by simp) ?_
  (repeat' (first | refine awp_seq ?_ | refine awp_block ?_ | ((first | refine awp_skip ?_ | refine awp_exit ?_); simp only [ak, reduceIte]) | (refine awp_ret ?_; simp only [ak, reduceIte]; simp [hH]) | (refine awp_cond ?_; simp [hH]; (try with_reducible refine ⟨?_, ?_⟩) <;> (try with_reducible intro hc) <;> try (exfalso; omega)) | ((first | (refine w_e [] ?_; intro J hJ; simp only []) | (refine w_q ?_; intro J hJ) | refine e_go ?_); simp [hH]; (repeat refine ca ?_); (try ((try with_reducible refine ⟨?_, ?_⟩) <;> (try with_reducible intro hnil) <;> refine hJ _ _ ?_ <;> clear hJ J <;> simp only [ak, reduceIte] <;> try subst hnil)))))
theorem next_ (st : St) (q : Nat) (s : InS) (n : Int) :
    ACalls Tryz.prog 48 [.pt q 0, i n] (stIn st q s) fun r st' => r = sv (nxF n s).1 ∧ st' = stIn st q (nxF n s).2 := by
  obtain ⟨e, l⟩ := s
  have hH := stIn_H st q (e, l)
  unfold nxF
  refine acalls_of_body tabOk Tryz.func48 rfl rfl Tryz.ntmps48 (rs := [.tmp 4]) rfl (by simp) ?_
  by_cases h : e = 0
  · rw [if_neg (by simpa using h)]
    have hb : (e != 0) = false := by simpa using h
    by_cases h1 : n < 0
    · rw [if_pos (.inl h1)]
      (repeat' (first | refine awp_seq ?_ | refine awp_block ?_ | ((first | refine awp_skip ?_ | refine awp_exit ?_); simp only [ak, reduceIte]) | (refine awp_ret ?_; simp only [ak, reduceIte]; simp [hH]) | (refine awp_cond ?_; simp [hH]; (try with_reducible refine ⟨?_, ?_⟩) <;> (try with_reducible intro hc) <;> try (exfalso; omega)) | ((first | (refine w_e [] ?_; intro J hJ; simp only []) | (refine w_q ?_; intro J hJ) | refine e_go ?_); simp [hH]; (repeat refine ca ?_); (try ((try with_reducible refine ⟨?_, ?_⟩) <;> (try with_reducible intro hnil) <;> refine hJ _ _ ?_ <;> clear hJ J <;> simp only [ak, reduceIte] <;> try subst hnil)))))
      refine callK_ofE (failed_ st q (e, l)) (by simp) ?_; rintro r s1 ⟨rfl, g⟩
      rw [g]; clear g s1
      (repeat' (first | refine awp_seq ?_ | refine awp_block ?_ | ((first | refine awp_skip ?_ | refine awp_exit ?_); simp only [ak, reduceIte]) | (refine awp_ret ?_; simp only [ak, reduceIte]; simp [hH, hb, h1]) | (refine awp_cond ?_; simp [hH, hb, h1]; (try with_reducible refine ⟨?_, ?_⟩) <;> (try with_reducible intro hc) <;> try (exfalso; omega)) | ((first | (refine w_e [] ?_; intro J hJ; simp only []) | (refine w_q ?_; intro J hJ) | refine e_go ?_); simp [hH, hb, h1]; (repeat refine ca ?_); (try ((try with_reducible refine ⟨?_, ?_⟩) <;> (try with_reducible intro hnil) <;> refine hJ _ _ ?_ <;> clear hJ J <;> simp only [ak, reduceIte] <;> try subst hnil)))))
      refine callK_ofE (note_ st q (e, l) 3) (by simp) ?_; rintro r s1 ⟨rfl, g⟩
      rw [g]; clear g s1
      (repeat' (first | refine awp_seq ?_ | refine awp_block ?_ | ((first | refine awp_skip ?_ | refine awp_exit ?_); simp only [ak, reduceIte]) | (refine awp_ret ?_; simp only [ak, reduceIte]; simp []) | (refine awp_cond ?_; simp []; (try with_reducible refine ⟨?_, ?_⟩) <;> (try with_reducible intro hc) <;> try (exfalso; omega)) | ((first | (refine w_e [] ?_; intro J hJ; simp only []) | (refine w_q ?_; intro J hJ) | refine e_go ?_); simp []; (repeat refine ca ?_); (try ((try with_reducible refine ⟨?_, ?_⟩) <;> (try with_reducible intro hnil) <;> refine hJ _ _ ?_ <;> clear hJ J <;> simp only [ak, reduceIte] <;> try subst hnil)))))
      simp [flF, h]
    · by_cases h2 : n > l.length
      · rw [if_pos (.inr h2)]
        have h2' : (l.length : Int) < n := h2
        (repeat' (first | refine awp_seq ?_ | refine awp_block ?_ | ((first | refine awp_skip ?_ | refine awp_exit ?_); simp only [ak, reduceIte]) | (refine awp_ret ?_; simp only [ak, reduceIte]; simp [hH]) | (refine awp_cond ?_; simp [hH]; (try with_reducible refine ⟨?_, ?_⟩) <;> (try with_reducible intro hc) <;> try (exfalso; omega)) | ((first | (refine w_e [] ?_; intro J hJ; simp only []) | (refine w_q ?_; intro J hJ) | refine e_go ?_); simp [hH]; (repeat refine ca ?_); (try ((try with_reducible refine ⟨?_, ?_⟩) <;> (try with_reducible intro hnil) <;> refine hJ _ _ ?_ <;> clear hJ J <;> simp only [ak, reduceIte] <;> try subst hnil)))))
        refine callK_ofE (failed_ st q (e, l)) (by simp) ?_; rintro r s1 ⟨rfl, g⟩
        rw [g]; clear g s1
        (repeat' (first | refine awp_seq ?_ | refine awp_block ?_ | ((first | refine awp_skip ?_ | refine awp_exit ?_); simp only [ak, reduceIte]) | (refine awp_ret ?_; simp only [ak, reduceIte]; simp [hH, hb, h1, h2']) | (refine awp_cond ?_; simp [hH, hb, h1, h2']; (try with_reducible refine ⟨?_, ?_⟩) <;> (try with_reducible intro hc) <;> try (exfalso; omega)) | ((first | (refine w_e [] ?_; intro J hJ; simp only []) | (refine w_q ?_; intro J hJ) | refine e_go ?_); simp [hH, hb, h1, h2']; (repeat refine ca ?_); (try ((try with_reducible refine ⟨?_, ?_⟩) <;> (try with_reducible intro hnil) <;> refine hJ _ _ ?_ <;> clear hJ J <;> simp only [ak, reduceIte] <;> try subst hnil)))))
        refine callK_ofE (note_ st q (e, l) 3) (by simp) ?_; rintro r s1 ⟨rfl, g⟩
        rw [g]; clear g s1
        (repeat' (first | refine awp_seq ?_ | refine awp_block ?_ | ((first | refine awp_skip ?_ | refine awp_exit ?_); simp only [ak, reduceIte]) | (refine awp_ret ?_; simp only [ak, reduceIte]; simp []) | (refine awp_cond ?_; simp []; (try with_reducible refine ⟨?_, ?_⟩) <;> (try with_reducible intro hc) <;> try (exfalso; omega)) | ((first | (refine w_e [] ?_; intro J hJ; simp only []) | (refine w_q ?_; intro J hJ) | refine e_go ?_); simp []; (repeat refine ca ?_); (try ((try with_reducible refine ⟨?_, ?_⟩) <;> (try with_reducible intro hnil) <;> refine hJ _ _ ?_ <;> clear hJ J <;> simp only [ak, reduceIte] <;> try subst hnil)))))
        simp [flF, h]
      · rw [if_neg (by simp only; omega)]
        have h2' : ¬ (l.length : Int) < n := h2
        (repeat' (first | refine awp_seq ?_ | refine awp_block ?_ | ((first | refine awp_skip ?_ | refine awp_exit ?_); simp only [ak, reduceIte]) | (refine awp_ret ?_; simp only [ak, reduceIte]; simp [hH]) | (refine awp_cond ?_; simp [hH]; (try with_reducible refine ⟨?_, ?_⟩) <;> (try with_reducible intro hc) <;> try (exfalso; omega)) | ((first | (refine w_e [] ?_; intro J hJ; simp only []) | (refine w_q ?_; intro J hJ) | refine e_go ?_); simp [hH]; (repeat refine ca ?_); (try ((try with_reducible refine ⟨?_, ?_⟩) <;> (try with_reducible intro hnil) <;> refine hJ _ _ ?_ <;> clear hJ J <;> simp only [ak, reduceIte] <;> try subst hnil)))))
        refine callK_ofE (failed_ st q (e, l)) (by simp) ?_; rintro r s1 ⟨rfl, g⟩
        rw [g]; clear g s1
        have q1 : 0 ≤ n := by omega
        have q2 : n ≤ (l.length : Int) := by omega
        (repeat' (first | refine awp_seq ?_ | refine awp_block ?_ | ((first | refine awp_skip ?_ | refine awp_exit ?_); simp only [ak, reduceIte]) | (refine awp_ret ?_; simp only [ak, reduceIte]; simp [hH, hb, h1, h2', q1, q2]) | (refine awp_cond ?_; simp [hH, hb, h1, h2', q1, q2]; (try with_reducible refine ⟨?_, ?_⟩) <;> (try with_reducible intro hc) <;> try (exfalso; omega)) | ((first | (refine w_e [] ?_; intro J hJ; simp only []) | (refine w_q ?_; intro J hJ) | refine e_go ?_); simp [hH, hb, h1, h2', q1, q2]; (repeat refine ca ?_); (try ((try with_reducible refine ⟨?_, ?_⟩) <;> (try with_reducible intro hnil) <;> refine hJ _ _ ?_ <;> clear hJ J <;> simp only [ak, reduceIte] <;> try subst hnil)))))
        subst h
        exact stIn_set _ _ _ _ _
  · rw [if_pos (by simpa using h)]
    have hb : (e != 0) = true := by simpa using h
    (repeat' (first | refine awp_seq ?_ | refine awp_block ?_ | ((first | refine awp_skip ?_ | refine awp_exit ?_); simp only [ak, reduceIte]) | (refine awp_ret ?_; simp only [ak, reduceIte]; simp [hH]) | (refine awp_cond ?_; simp [hH]; (try with_reducible refine ⟨?_, ?_⟩) <;> (try with_reducible intro hc) <;> try (exfalso; omega)) | ((first | (refine w_e [] ?_; intro J hJ; simp only []) | (refine w_q ?_; intro J hJ) | refine e_go ?_); simp [hH]; (repeat refine ca ?_); (try ((try with_reducible refine ⟨?_, ?_⟩) <;> (try with_reducible intro hnil) <;> refine hJ _ _ ?_ <;> clear hJ J <;> simp only [ak, reduceIte] <;> try subst hnil)))))
    refine callK_ofE (failed_ st q (e, l)) (by simp) ?_; rintro r s1 ⟨rfl, g⟩
    rw [g]; clear g s1
    (repeat' (first | refine awp_seq ?_ | refine awp_block ?_ | ((first | refine awp_skip ?_ | refine awp_exit ?_); simp only [ak, reduceIte]) | (refine awp_ret ?_; simp only [ak, reduceIte]; simp [hH, hb]) | (refine awp_cond ?_; simp [hH, hb]; (try with_reducible refine ⟨?_, ?_⟩) <;> (try with_reducible intro hc) <;> try (exfalso; omega)) | ((first | (refine w_e [] ?_; intro J hJ; simp only []) | (refine w_q ?_; intro J hJ) | refine e_go ?_); simp [hH, hb]; (repeat refine ca ?_); (try ((try with_reducible refine ⟨?_, ?_⟩) <;> (try with_reducible intro hnil) <;> refine hJ _ _ ?_ <;> clear hJ J <;> simp only [ak, reduceIte] <;> try subst hnil)))))

theorem valF_snoc (l : List UInt8) (b : UInt8) : valF (l ++ [b]) = valF l * 256 + b.toNat := by simp [valF]
theorem fold_lt : ∀ (l : List UInt8) (n : Nat), l.foldl (fun n b => n * 256 + b.toNat) n < (n + 1) * 256 ^ l.length
  | [], n => by simp
  | b :: l, n => by
    have ih := fold_lt l (n * 256 + b.toNat)
    have hb := b.toNat_lt
    rw [List.foldl_cons, List.length_cons, Nat.pow_succ, Nat.mul_comm (256 ^ l.length) 256, ← Nat.mul_assoc]
    refine Nat.lt_of_lt_of_le ih (Nat.mul_le_mul_right _ ?_)
    omega
theorem valF_lt (l : List UInt8) : valF l < 256 ^ l.length := by have := fold_lt l 0; simpa [valF] using this
theorem ba_get (l : List UInt8) (j : Nat) : (ByteArray.mk l.toArray)[j]? = l[j]? := by
  by_cases h : j < l.length
  · rw [List.getElem?_eq_getElem h, getElem?_pos _ _ (by show j < l.toArray.size; simpa using h)]
    rfl
  · rw [List.getElem?_eq_none (by omega), getElem?_neg _ _ (by show ¬ j < l.toArray.size; simpa using h)]
theorem valF_u64 {l : List UInt8} (h : l.length ≤ 8) : valF l < 18446744073709551616 := by
  have h1 := valF_lt l
  have h2 : 256 ^ l.length ≤ 256 ^ 8 := Nat.pow_le_pow_right (by decide) h
  have : (256 : Nat) ^ 8 = 18446744073709551616 := by simp
  omega
theorem pow64 : (2 : Nat) ^ 64 = 18446744073709551616 := by simp
theorem shl_or (n b : Nat) (hn : n < 72057594037927936) (hb : b < 256) : gor .u64 (gshl .u64 (n : Int) 8) (b : Int) = ((n * 256 + b : Nat) : Int) := by
  have e1 : gshl .u64 (n : Int) 8 = ((n * 256 : Nat) : Int) := by
    unfold gshl
    rw [IntKind.wrap_u64]
    simp [IntKind.bits]
    omega
  rw [e1]
  unfold gor
  have h1 : (BitVec.ofInt IntKind.u64.bits ((n * 256 : Nat) : Int)).toNat = n * 256 := by
    rw [BitVec.ofInt_natCast, BitVec.toNat_ofNat]
    exact Nat.mod_eq_of_lt (by show n * 256 < 2 ^ 64; rw [pow64]; omega)
  have h2 : (BitVec.ofInt IntKind.u64.bits (b : Int)).toNat = b := by
    rw [BitVec.ofInt_natCast, BitVec.toNat_ofNat]
    exact Nat.mod_eq_of_lt (by show b < 2 ^ 64; rw [pow64]; omega)
  rw [BitVec.toNat_or, h1, h2]
  have h3 : n * 256 ||| b = n * 256 + b := by
    have := Nat.shiftLeft_add_eq_or_of_lt (i := 8) (b := b) (by simpa using hb) n
    rw [Nat.shiftLeft_eq] at this
    exact this.symm
  rw [h3, IntKind.wrap_u64]
  have : n * 256 + b < 18446744073709551616 := by omega
  omega
abbrev w64 (n : Int) : LV := .atom (.int .u64 n)
theorem pow7 : (256 : Nat) ^ 7 = 72057594037927936 := by simp
theorem value_ (st : St) (l : List UInt8) (hl : l.length ≤ 8) :
    ACalls Tryz.prog 47 [sv l] st fun r st' => r = w64 (valF l) ∧ st' = st := by
  refine acalls_of_body tabOk Tryz.func47 rfl rfl Tryz.ntmps47 (rs := [.tmp 2]) rfl (by simp) ?_
  (repeat' (first | refine awp_seq ?_ | refine awp_block ?_ | ((first | refine awp_skip ?_ | refine awp_exit ?_); simp only [ak, reduceIte]) | (refine awp_ret ?_; simp only [ak, reduceIte]; simp []) | (refine awp_cond ?_; simp []; (try with_reducible refine ⟨?_, ?_⟩) <;> (try with_reducible intro hc) <;> try (exfalso; omega)) | ((first | (refine w_e [] ?_; intro J hJ; simp only []) | (refine w_q ?_; intro J hJ) | refine e_go ?_); simp []; (repeat refine ca ?_); (try ((try with_reducible refine ⟨?_, ?_⟩) <;> (try with_reducible intro hnil) <;> refine hJ _ _ ?_ <;> clear hJ J <;> simp only [ak, reduceIte] <;> try subst hnil)))))
  refine awp_range 7 6 8 17 (l.length) (fun j fr st2 => fr 0 = sv l ∧ fr 3 = w64 (valF (l.take j)) ∧ st2 = st) ?_ ?_ ?_
  · exact ⟨by simp, by simp [valF], rfl⟩
  · rintro j fr s hlt ⟨f0, f3, rfl⟩ fi fn JO hJO
    have hg : l[j]? = some l[j] := List.getElem?_eq_getElem hlt
    have htk : valF (l.take (j + 1)) = valF (l.take j) * 256 + l[j].toNat := by
      rw [List.take_succ_eq_append_getElem hlt, valF_snoc]
    have hb := l[j].toNat_lt
    have hv := valF_lt (l.take j)
    rw [List.length_take, Nat.min_eq_left (by omega)] at hv
    have hv2 : (256 : Nat) ^ j ≤ 256 ^ 7 := Nat.pow_le_pow_right (by decide) (by omega)
    rw [pow7] at hv2
    have hs := shl_or (valF (l.take j)) l[j].toNat (by omega) hb
    generalize l[j] = y at *
    have hw : IntKind.u64.wrap (y.toNat : Int) = y.toNat := by rw [IntKind.wrap_u64]; omega
    have hg2 : (ByteArray.mk l.toArray)[j]? = some y := by rw [ba_get, hg]
    (repeat' (first | refine awp_seq ?_ | refine awp_block ?_ | ((first | refine awp_skip ?_ | refine awp_exit ?_); simp only [ak, reduceIte]) | (refine awp_ret ?_; simp only [ak, reduceIte]; simp [f0, f3, fi, fn, hlt, hg2, hw, hs]) | (refine awp_cond ?_; simp [f0, f3, fi, fn, hlt, hg2, hw, hs]; (try with_reducible refine ⟨?_, ?_⟩) <;> (try with_reducible intro hc) <;> try (exfalso; omega)) | ((first | (refine w_e [] ?_; intro J hJ; simp only []) | (refine w_q ?_; intro J hJ) | refine e_go ?_); simp [f0, f3, fi, fn, hlt, hg2, hw, hs]; (repeat refine ca ?_); (try ((try with_reducible refine ⟨?_, ?_⟩) <;> (try with_reducible intro hnil) <;> refine hJ _ _ ?_ <;> clear hJ J <;> simp only [ak, reduceIte] <;> try subst hnil)))))
    exact hJO _ _ (by simp [fi]) (by simp [fn]) ⟨by simp [f0], by simp [hs, htk], rfl⟩
  · rintro fr s ⟨f0, f3, rfl⟩
    rw [List.take_length] at f3
    (repeat' (first | refine awp_seq ?_ | refine awp_block ?_ | ((first | refine awp_skip ?_ | refine awp_exit ?_); simp only [ak, reduceIte]) | (refine awp_ret ?_; simp only [ak, reduceIte]; simp [f3]) | (refine awp_cond ?_; simp [f3]; (try with_reducible refine ⟨?_, ?_⟩) <;> (try with_reducible intro hc) <;> try (exfalso; omega)) | ((first | (refine w_e [] ?_; intro J hJ; simp only []) | (refine w_q ?_; intro J hJ) | refine e_go ?_); simp [f3]; (repeat refine ca ?_); (try ((try with_reducible refine ⟨?_, ?_⟩) <;> (try with_reducible intro hnil) <;> refine hJ _ _ ?_ <;> clear hJ J <;> simp only [ak, reduceIte] <;> try subst hnil)))))
end Go.Proofs.YtjkmgimedkomkaaGreat.Aw
