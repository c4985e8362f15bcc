/- slices.Values, AppendSeq: a range over a function, at rows of uint32. (After the kit's worked texts on slices.Values and on a loop that collects.) slices.Collect(slices.Values(s)) as a contract over logical values. What each chapter's example answers. Maps as values. Maps: what is set is got. Graphs: Has, Vert, number, Check. Graphs: Check, by the program and by the document; the law GraphChecks. Graphs and maps, made: Clone of edges, copied, Of; Same. Maps, made of turns: Of; the law RotMakes. -/
import Derived.Test.YtphdhggoaijfoaaGreatJc
import Derived.RangeFuncBox
import Derived.RangeFuncLeaves
import Derived.Shelf.Abstract
import Derived.WalkKit
import Derived.OwnWalkIn
import Derived.TacticsInMore
import Derived.LoopNIn
import Derived.LoopIn
import Derived.Maps.AppendAt
import Derived.Test.YtphdhggoaijfoaaGreatProg
import Derived.Test.YtphdhggoaijfoaaGreatAwX
import Derived.Test.YtphdhggoaijfoaaGreatAwSet
import Derived.Test.YtphdhggoaijfoaaGreatAwFn
import Derived.Test.YtphdhggoaijfoaaGreatAwShp
namespace Go.Proofs.YtphdhggoaijfoaaGreat.Rg
open Go Go.RowKit Go.Shelf
set_option linter.unusedSimpArgs false
set_option linter.unusedVariables false

attribute [local go_sem] Oper.semAt_some

/-- What has come when k rounds are over. -/
def upto (zs : List Int) (k : Nat) : List Int := (List.range k).map fun j => zs[j]?.getD 0
theorem upto_succ (zs : List Int) (k : Nat) : upto zs (k + 1) = upto zs k ++ [zs[k]?.getD 0] := by simp [upto, List.range_succ]
theorem upto_length (zs : List Int) (k : Nat) : (upto zs k).length = k := by simp [upto]
theorem upto_all (zs : List Int) : upto zs zs.length = zs := by
  apply List.ext_getElem
  · simp [upto]
  · intro i h1 h2
    simp [upto, h2]

set_option maxRecDepth 100000 in
set_option maxHeartbeats 2000000 in
theorem values1_in (F : Fence) (n : Nat) (h7 : F.fn 84) (hro : F.round = none) (hn : 1 ≤ n) (l Bs n₀ b off len cap : Nat) (zs : List Int) (hlen : len ≤ 1048576) (hb : b < n₀) (J Jx : List Int → World → Prop)
    (hY : ∀ pre x W, J pre W → pre.length < len → YieldAt F (n - 1) Tryz.prog l #[.int .u32 x] W fun e W' =>
      (e = .returned (.bool true) ∧ J (pre ++ [x]) W' ∧ Below n₀ W W') ∨ (e = .returned (.bool false) ∧ Jx (pre ++ [x]) W'))
    (W : World) (hBs : W.cell? ⟨Bs, 0, none⟩ = some (.slice (some ⟨b, off, none⟩) len cap)) (hc : ∀ j, j < len → W.cell? ⟨b, off + j, none⟩ = some (.int .u32 (zs[j]?.getD 0))) (h0 : J [] W) :
    CallsIn F n Tryz.prog 84 #[.func (.yield l) #[] #[], .pointer (some ⟨Bs, 0, none⟩)] W fun e W' => (∃ v, e = .returned v) ∧
      ((∃ ys, ys = upto zs len ∧ J ys W') ∨ (∃ pre, (∃ k, k ≤ len ∧ pre = upto zs k) ∧ Jx pre W')) := by
  refine callsIn_of_wp Tryz.func84 rfl h7 ?_ hro
  simp only [Tryz.ntmps84, List.size_toArray, List.length_cons, List.length_nil, Nat.reduceAdd, Nat.reduceSub, Array.replicate_succ, Array.replicate_zero, List.push_toArray, List.append_toArray, List.nil_append, List.cons_append]
  gi_wp2
  gi_loopw [7] (fun i wr => ∃ k : Nat, k ≤ len ∧ i = .int .i64 k ∧ J (upto zs k) wr ∧ Below n₀ W wr)
    (fun i _ => len - (intOf i).toNat)
  case atStart => exact ⟨0, Nat.zero_le _, rfl, h0, Below.refl _ _⟩
  case round =>
    obtain ⟨k, hk, rfl, hJs, hnx⟩ := hrel
    have hcx : k < len → wr.cell? ⟨b, off + k, none⟩ = some (.int .u32 (zs[k]?.getD 0)) := fun h => (hnx.cell (p := ⟨b, off + k, none⟩) hb).trans (hc k h)
    by_cases hlt : k < len
    · obtain ⟨fn, tmps, assign, body, hy, hR⟩ := hY _ (zs[k]?.getD 0) wr hJs (by rw [upto_length]; exact hlt)
      have hcx' := hcx hlt
      gi_wp2
      refine hR.mono ?_
      rintro e W3 (⟨rfl, hJ3, hk3⟩ | ⟨rfl, hJx3⟩)
      · gi_wp2
        go_roundw
        case rel => exact ⟨k + 1, by omega, by simp, by rw [upto_succ]; exact hJ3, hnx.trans hk3⟩
        case measure => simp [intOf]; omega
      · gi_wp2
        refine bodyPost_ret (results_none rfl _ _ _) rfl ?_
        exact ⟨⟨_, rfl⟩, .inr ⟨_, ⟨k + 1, by omega, (upto_succ _ _).symm⟩, hJx3⟩⟩
    · obtain rfl : k = len := by omega
      gi_wp2
      go_end0
      exact ⟨⟨_, rfl⟩, .inl ⟨_, rfl, hJs⟩⟩

set_option maxRecDepth 100000 in
set_option maxHeartbeats 1000000 in
theorem values1_nil_in (F : Fence) (n : Nat) (h7 : F.fn 84) (hro : F.round = none) (l Bs : Nat) (J : List Int → World → Prop) (W : World) (A : Option Addr) (cap : Nat) (hBs : W.cell? ⟨Bs, 0, none⟩ = some (.slice A 0 cap)) (h0 : J [] W) :
    CallsIn F n Tryz.prog 84 #[.func (.yield l) #[] #[], .pointer (some ⟨Bs, 0, none⟩)] W fun e W' => (∃ v, e = .returned v) ∧ J [] W' := by
  refine callsIn_of_wp Tryz.func84 rfl h7 ?_ hro
  simp only [Tryz.ntmps84, List.size_toArray, List.length_cons, List.length_nil, Nat.reduceAdd, Nat.reduceSub, Array.replicate_succ, Array.replicate_zero, List.push_toArray, List.append_toArray, List.nil_append, List.cons_append]
  gi_wp2
  gi_loopw [7] (fun i wr => i = .int .i64 0 ∧ J [] wr) (fun _ _ => 0)
  case atStart => exact ⟨rfl, h0⟩
  case round =>
    obtain ⟨rfl, hJs⟩ := hrel
    gi_wp2
    go_end0
    exact ⟨⟨_, rfl⟩, hJs⟩

/-- A slice value that holds zs, in a block below n₀; or an empty one. -/
def Ints (n₀ : Nat) (W : World) (sv : Value) (zs : List Int) : Prop :=
  (zs = [] ∧ ∃ A cap, sv = .slice A 0 cap) ∨ ∃ b off cap, sv = .slice (some ⟨b, off, none⟩) zs.length cap ∧ b < n₀ ∧ ∀ j, j < zs.length → W.cell? ⟨b, off + j, none⟩ = some (.int .u32 (zs[j]?.getD 0))
theorem Ints.below {n₀ : Nat} {A B : World} (h : Below n₀ A B) {sv : Value} {zs : List Int} : Ints n₀ A sv zs → Ints n₀ B sv zs
  | .inl e => .inl e
  | .inr ⟨b, off, cap, e, hb, hc⟩ => .inr ⟨b, off, cap, e, hb, fun j hj => (h.cell (p := ⟨b, off + j, none⟩) hb).trans (hc j hj)⟩

theorem values_stops (F : Fence) (n : Nat) (h7 : F.fn 84) (hro : F.round = none) (hn : 1 ≤ n) (Bs n₀ : Nat) (sv : Value) (zs : List Int) (hlen : zs.length ≤ 1048576) (w : World) (hBs : Bs < w.heap.size) (hn₀ : n₀ ≤ w.heap.size)
    (hc : w.cell? ⟨Bs, 0, none⟩ = some sv) (hI : Ints n₀ w sv zs) :
    SeqStopsK F n Tryz.prog 84 #[.pointer (some ⟨Bs, 0, none⟩)] (fun x : Int => #[Value.int .u32 x]) (Below n₀) (fun ys => ys = zs) (fun _ => True) zs.length w := fun l J Jx W hW _ _ hY h0 => by
  have hc' := (hW.cell (p := ⟨Bs, 0, none⟩) hBs).trans hc
  rcases hI.below (hW.mono hn₀) with ⟨rfl, A, cap, rfl⟩ | ⟨b, off, cap, rfl, hb, hcs⟩
  · exact (values1_nil_in F n h7 hro l Bs J W A cap hc' h0).mono fun e W' ⟨he, hj⟩ => ⟨he, .inl ⟨_, rfl, hj⟩⟩
  · refine (values1_in F n h7 hro hn l Bs n₀ b off zs.length cap zs hlen hb J Jx hY W hc' hcs h0).mono ?_
    rintro e W' ⟨he, ⟨ys, rfl, hj⟩ | ⟨pre, ⟨k, hk, rfl⟩, hj⟩⟩
    · exact ⟨he, .inl ⟨_, upto_all zs, hj⟩⟩
    · exact ⟨he, .inr ⟨_, trivial, hj⟩⟩

theorem infoU : (Tryz.prog.info? 29).map (fun i => (i.zero, i.size, i.bytes)) = some (some (.int .u32 0), 1, 4) := by kernel_rfl

set_option maxRecDepth 100000 in
set_option maxHeartbeats 2000000 in
/-- slices.AppendSeq(nil, slices.Values(s)): a slice of its own with what s holds; nothing that lay has turned. -/
theorem appendSeq_in (F : Fence) (n : Nat) (h3 : F.fn 111) (h7 : F.fn 84) (hro : F.round = none) (hn : 3 ≤ n) (Bs : Nat) (sv : Value) (zs : List Int) (hlen : zs.length ≤ 1048576) (w : World) (hBs : Bs < w.heap.size)
    (hc : w.cell? ⟨Bs, 0, none⟩ = some sv) (hI : Ints w.heap.size w sv zs) :
    CallsIn F n Tryz.prog 111 #[.slice none 0 0, .func (.func 84) #[] #[.pointer (some ⟨Bs, 0, none⟩)]] w fun e W' => ∃ v, e = .returned v ∧ W'.ownsRow w.heap.size 29 1 v zs.length (zs.map (Value.int .u32)) ∧ Below w.heap.size w W' := by
  have h1 : 1 ≤ n := by omega
  obtain ⟨i0, hi, hz0, hz1, hz2⟩ := info_parts infoU
  refine callsIn_of_wp_marks Tryz.func111 rfl h3 ?_ hro
  simp only [Tryz.ntmps111, List.size_toArray, List.length_cons, List.length_nil, Nat.reduceAdd, Nat.reduceSub, Array.replicate_succ, Array.replicate_zero, List.push_toArray, List.append_toArray, List.nil_append, List.cons_append]
  gi_wp2
  have bO := Boxed.new w 22 (.slice none 0 0)
  have hB0 : Below w.heap.size w (w.alloc (.cells #[.slice none 0 0] 22)) := (Below.refl _ w).alloc (Nat.le_refl _) _
  refine wpIn_rangeFunc_ownG hro h1 (gf := 84) (lb := #[.pointer (some ⟨Bs, 0, none⟩)]) rfl h7 (enters_of Tryz.func84 (by kernel_rfl) rfl)
    (values_stops F (n - 1) h7 hro (by omega) Bs w.heap.size sv zs hlen _ (by simp; omega) (by simp) ((hB0.cell (p := ⟨Bs, 0, none⟩) hBs).trans hc) (hI.below hB0)) belowK_t (belowK_b (by simp)) (Below.refl _ _) (fun _ => rfl)
    (fun pre W => (∃ v, Boxed W w.heap.size 22 v ∧ W.ownsRow w.heap.size 29 1 v pre.length (pre.map (Value.int .u32)) ∧ True) ∧ Below w.heap.size w W)
    (fun _ _ _ => False)
    (OwnFrom.and (Own.from (holdsRow_own w.heap.size w.heap.size 22 29 1 (fun pre : List Int => pre.length) (fun pre : List Int => pre.map (Value.int .u32)) (fun _ _ => True)) _) (ownFrom_below (Nat.le_refl _) (by simp)))
    (fun _ _ _ _ _ hs _ _ => hs)
    ⟨⟨_, bO, World.ownsRow_nil _ _ _ _, trivial⟩, hB0⟩
    (fun x => { tmps := #[.slice none 0 0, .func (.func 84) #[] #[.pointer (some ⟨Bs, 0, none⟩)], .pointer (some ⟨w.heap.size, 0, none⟩), undef, .slice none 0 0, .int .u32 x, .func (.func 84) #[] #[.pointer (some ⟨Bs, 0, none⟩)], .int .u32 x, undef, undef, undef, undef, undef], defers := [] }) ?assign ?body ?done ?stop
  case assign =>
    intro l x W K hK
    gi_wp2
    exact hK
  case body =>
    rintro l pre x W ⟨⟨v, hv, hrow, _⟩, hB⟩ hlt
    have hc := hv.cell
    gi_wp2_with (gi_at_builtin; refine wpListIn_append_own _ rfl _ _ 22 rfl w.heap.size 29 i0 (.int .u32 0) 1 4 Tryz.underlying22 hi hz0 hz1 hz2 rfl (by decide) _ _ _ rfl (hrow.alloc _) ⟨W.heap.size, 0, none⟩ 1 1 [.int .u32 x] rfl rfl (cell_one_new _ _ _) (by simp [Value.oneCell']) (by simp only [maxLen]; omega) (by omega) (by have := hB.size; simp; omega) ?_; intro v' w1 hown' hgrow _; obtain ⟨g', cap', rfl⟩ := ownsRow_succ hown'; obtain ⟨hv1, hv2, hr2, hk2, hb2⟩ := hv.appended (by decide) hrow hB.size (Nat.le_refl _) hown' hgrow; have hc1 := hv1.cell; have hf1 := hv1.frozen)
    exact ⟨hk2.from _, hb2, ⟨_, hv2, by simpa using hr2, trivial⟩, hB.trans hb2⟩
  case done =>
    rintro D ys W hD rfl ⟨⟨v, hv, hrow, _⟩, hB⟩ hK
    have hc := hv.cell
    gi_wp2
    refine ⟨by simp, .inl ⟨_, _, rfl, run_takeDeferred hK, ?_⟩⟩
    exact ⟨_, results_tmp rfl _ _ _, v, rfl, ownsRow_putObj hrow _ hK rfl, hB.trans (belowK_b (w := w) (Nat.le_refl _) W D _ _ (by simp at hD; omega) hK rfl rfl)⟩
  case stop =>
    rintro D c pre W _ _ h _
    exact h.elim

set_option maxRecDepth 100000 in
set_option maxHeartbeats 1000000 in
/-- slices.Collect(slices.Values(s)). -/
theorem collect_in (F : Fence) (n : Nat) (h2 : F.fn 83) (h3 : F.fn 111) (h7 : F.fn 84) (hro : F.round = none) (hn : 4 ≤ n) (Bs : Nat) (sv : Value) (zs : List Int) (hlen : zs.length ≤ 1048576) (w : World) (hBs : Bs < w.heap.size)
    (hc : w.cell? ⟨Bs, 0, none⟩ = some sv) (hI : Ints w.heap.size w sv zs) :
    CallsIn F n Tryz.prog 83 #[.func (.func 84) #[] #[.pointer (some ⟨Bs, 0, none⟩)]] w fun e W' => ∃ v, e = .returned v ∧ W'.ownsRow w.heap.size 29 1 v zs.length (zs.map (Value.int .u32)) ∧ Below w.heap.size w W' := by
  have h1 : 1 ≤ n := by omega
  refine callsIn_of_wp Tryz.func83 rfl h2 ?_ hro
  simp only [Tryz.ntmps83, List.size_toArray, List.length_cons, List.length_nil, Nat.reduceAdd, Nat.reduceSub, Array.replicate_succ, Array.replicate_zero, List.push_toArray, List.append_toArray, List.nil_append, List.cons_append]
  gi_wp2_with (gi_at_call 111; refine (appendSeq_in F (n - 1) h3 h7 hro (by omega) Bs sv zs hlen _ hBs hc hI).mono ?_; rintro e w' ⟨v, rfl, hrow, hbel⟩)
  go_ret
  exact ⟨v, rfl, hrow, hbel⟩

end Go.Proofs.YtphdhggoaijfoaaGreat.Rg

namespace Go.Proofs.YtphdhggoaijfoaaGreat.Aw
open Go Go.RowKit
set_option linter.unusedSimpArgs false
set_option linter.unusedVariables false

theorem below_ext {w w' : World} (g : G) (h : Below w.heap.size w w') : Ext w g w' g :=
  ⟨h.os, h.tape, h.output, h.size, Nat.le_refl _, fun _ _ => rfl, fun _ _ => rfl, fun _ _ => rfl, fun b hb hn => ⟨hn, h.block b hb⟩, fun b k hb hk => ⟨k, hk, Nat.le_refl _, fun o _ => World.cell?_of_block (w := w) (h.block b hb)⟩⟩

theorem inv_below {w w' : World} {g : G} {st : St} (hi : Inv w g st) (h : Below w.heap.size w w') : Inv w' g st := by
  have he' := below_ext g h
  refine ⟨hi.next, hi.pos, hi.fresh, fun l hl => Nat.lt_of_lt_of_le (hi.lt l hl) h.size, hi.inj, ?_, ?_, ?_⟩
  · intro l e s n hl
    obtain ⟨h1, h2, h3, h4⟩ := hi.own l e s n hl
    refine ⟨h1, h2, h3, fun hnl => ?_⟩
    obtain ⟨cur, k1, k2, k3⟩ := h4 hnl
    exact ⟨cur, by rw [h.block _ (Array.getElem?_eq_some_iff.1 k1).1]; exact k1, k2, k3⟩
  · intro l e s cs hl
    obtain ⟨h1, h2, h3⟩ := hi.box l e s cs hl
    refine ⟨h1, h2, fun hnl => ?_⟩
    obtain ⟨cur, k1, k2, k3, k4, k5⟩ := h3 hnl
    exact ⟨cur, by rw [h.block _ (Array.getElem?_eq_some_iff.1 k1).1]; exact k1, k2, k3, RepL.mono he' _ _ k4, k5⟩
  · intro l ag ks es hl
    have hm := hi.mp l ag ks es hl
    exact hm.keep he' (hi.map_lt hl) (h.block _ hm.blk_lt) rfl

/-- A row that a call has laid is taken in as a box. -/
theorem adopt_row {w w' : World} {g : G} {st : St} (hi : Inv w g st) (h : Below w.heap.size w w') {e : TypeId} {v : Value} {zs : List Value} {cs : List LV} (hrow : w'.ownsRow w.heap.size e 1 v zs.length zs) (hr : ∀ w g, RepL w g cs zs) :
    ∃ g', Rep w' g' (.ms st.next 0 zs.length) v ∧ Inv w' g' (st.new (.box e 1 cs)) ∧ Ext w g w' g' := by
  have hi' := inv_below hi h
  have hcl : cs.length = zs.length := repL_length _ _ (hr w g)
  rcases hrow.2 with ⟨rfl, hn⟩ | ⟨b, cap, cur, rfl, hb, hcur, h1, h2, h3, h4⟩
  · have hcs : cs = [] := List.eq_nil_of_length_eq_zero (by omega)
    subst hcs
    refine ⟨g.addNil, ?_, inv_nil hi' _ (.inr ⟨_, _, rfl⟩), (below_ext g h).trans (ext_nil w' g)⟩
    simp only [Rep, hn]
    exact ⟨none, 0, rfl, Nat.le_refl _, Nat.zero_le _, by simp [G.addNil, hi.next], by simp, by simp [G.addNil, hi.next]⟩
  · have hnx := hi.next
    have hext : Ext w g w' (g.add b 0 cap false) := by
      refine ⟨h.os, h.tape, h.output, h.size, Nat.le_succ _, ?_, ?_, ?_, ?_, ?_⟩
      · intro l hl; simp [G.add, Nat.ne_of_lt hl]
      · intro l hl; simp [G.add, Nat.ne_of_lt hl]
      · intro l hl; simp [G.add, Nat.ne_of_lt hl]
      · intro x hx hn; exact ⟨by simp only [G.add]; rw [if_neg (by omega)]; exact hn, h.block x hx⟩
      · intro x k hx hk; exact ⟨k, by simp only [G.add]; rw [if_neg (by omega)]; exact hk, Nat.le_refl _, fun o _ => World.cell?_of_block (w := w) (h.block x hx)⟩
    have hold : ∀ l, blk g st l → g.β l ≠ b := fun l hl => by have := hi.lt l hl; omega
    have hblt : b < w'.heap.size := (Array.getElem?_eq_some_iff.1 hcur).1
    refine ⟨g.add b 0 cap false, ?_, ?_, hext⟩
    · simp only [Rep, G.add, hnx, if_pos]
      exact ⟨_, cap, rfl, h1, h2, fun _ => ⟨rfl, fun _ => rfl⟩, fun _ => rfl, Nat.lt_succ_self _⟩
    · refine ⟨by simp [G.add, St.new, hnx], by simp [St.new], ?_, ?_, ?_, ?_, ?_, ?_⟩
      · intro l hl
        simp only [St.new] at hl ⊢
        rw [if_neg (by omega)]
        exact hi.fresh l (by omega)
      · intro l hl
        by_cases e0 : l = st.next
        · subst e0; simp [G.add, hnx, hblt]
        · rw [blk_old hnx e0] at hl
          have := hi'.lt l hl
          simp only [G.add, hnx, if_neg e0]; exact this
      · intro l l' hl hl' hbb
        by_cases e0 : l = st.next <;> by_cases e1 : l' = st.next
        · omega
        · rw [blk_old hnx e1] at hl'
          simp only [G.add, hnx, if_pos e0, if_neg e1] at hbb
          exact absurd hbb.symm (hold l' hl')
        · rw [blk_old hnx e0] at hl
          simp only [G.add, hnx, if_pos e1, if_neg e0] at hbb
          exact absurd hbb (hold l hl)
        · rw [blk_old hnx e0] at hl
          rw [blk_old hnx e1] at hl'
          simp only [G.add, hnx, if_neg e1, if_neg e0] at hbb
          exact hi.inj l l' hl hl' hbb
      · intro l e' s n hl
        by_cases e0 : l = st.next
        · simp [St.new, e0] at hl
        · simp only [St.new, if_neg e0] at hl
          obtain ⟨q1, q2, q3, q4⟩ := hi'.own l e' s n hl
          simp only [G.add, hnx, if_neg e0]
          refine ⟨q1, q2, q3, fun hnl => ?_⟩
          obtain ⟨c', k1, k2, k3⟩ := q4 hnl
          have hne := hold l (by unfold blk; rw [hl]; exact hnl)
          exact ⟨c', k1, k2, by rw [if_neg hne]; exact k3⟩
      · intro l e' s' cs' hl
        by_cases e0 : l = st.next
        · simp only [St.new, if_pos e0] at hl
          injection hl with a1 a2 a3
          subst a1 a2 a3
          refine ⟨?_, ?_, fun _ => ⟨cur.toList, ?_, ?_, ?_, ?_, ?_⟩⟩
          · simp only [G.add, hnx, if_pos e0]; exact h2
          · simp [G.add, hnx, e0]
          · simp only [G.add, hnx, if_pos e0]; simpa using hcur
          · simp only [G.add, hnx, if_pos e0]; simpa using h3
          · simp only [Array.length_toList]; omega
          · have : cur.toList.take cs.length = zs := by rw [hcl]; simpa using h4
            rw [this]; exact hr _ _
          · simp [G.add, hnx, e0]
        · simp only [St.new, if_neg e0] at hl
          obtain ⟨k3, k0, k'⟩ := hi'.box l e' s' cs' hl
          refine ⟨?_, ?_, fun hnl => ?_⟩
          · simp only [G.add, hnx, if_neg e0]; exact k3
          · simp only [G.add, hnx, if_neg e0]; exact k0
          simp only [G.add, hnx, if_neg e0] at hnl
          obtain ⟨cur', k1, k2, k4, k5, k6⟩ := k' hnl
          have hne := hold l (by unfold blk; rw [hl]; exact hnl)
          obtain ⟨_, _, k'⟩ := hi.box l e' s' cs' hl
          obtain ⟨cur2, m1, m2, m4, m5, m6⟩ := k' hnl
          have hlt := (Array.getElem?_eq_some_iff.1 m1).1
          refine ⟨cur2, ?_, ?_, m4, RepL.mono hext _ _ m5, ?_⟩
          · simp only [G.add, hnx, if_neg e0]; rw [h.block _ hlt]; exact m1
          · simp only [G.add, hnx, if_neg e0]; exact m2
          · simp only [G.add, hnx, if_neg e0]; rw [if_neg hne]; exact m6
      · intro l ag ks es hl
        by_cases e0 : l = st.next
        · simp [St.new, e0] at hl
        · simp only [St.new, if_neg e0] at hl
          have hm := hi.mp l ag ks es hl
          exact hm.keep hext (hi.map_lt hl) (h.block _ hm.blk_lt) (by simp only [G.add]; rw [if_neg (hold l (hi.map_blk hl))])

theorem repL_us (w : World) (g : G) : ∀ l : List Int, RepL w g (us l) (l.map (Value.int .u32))
  | [] => by simp [RepL]
  | a :: l => by simp only [List.map_cons, RepL, Rep]; exact ⟨_, _, rfl, rfl, repL_us w g l⟩
theorem us_vals {w : World} {g : G} : ∀ (l : List Int) (ws : List Value), RepL w g (us l) ws → ws = l.map (Value.int .u32)
  | [], ws, h => by simpa [RepL] using h
  | a :: l, ws, h => by
    simp only [List.map_cons, RepL, Rep] at h
    obtain ⟨v, ws', rfl, rfl, h2⟩ := h
    rw [us_vals l ws' h2]; rfl

theorem Collect (l : List Int) (x : LV) (q : Nat) (st : St) (hl : l.length ≤ 1048576) (hH : st.H q = .box 22 1 [x]) (hx : srcT tab 22 st x = some (l.length, us l)) :
    ACalls Tryz.prog 83 [.fn (.func 84) [.pt q 0]] st fun r st' => r = .ms st.next 0 l.length ∧ st' = st.new (.box 29 1 (us l)) := by
  refine ⟨enters_of Tryz.func83 (by kernel_rfl) rfl, fun w g vs hi hr => ?_⟩
  simp only [RepL, Rep] at hr
  obtain ⟨v, _, rfl, ⟨us1, rfl, v1, _, rfl, ⟨rfl, hq⟩, rfl⟩, rfl⟩ := hr
  obtain ⟨_, b2, b3⟩ := hi.box q _ _ _ hH
  have hnl : g.nl q = false := by
    cases hn : g.nl q with
    | false => rfl
    | true => obtain ⟨_, h⟩ := b2 hn; cases h
  obtain ⟨cur, k1, k2, k3, k4, k5⟩ := b3 hnl
  simp only [List.length_cons, List.length_nil, Nat.zero_add, RepL] at k4 k3
  obtain ⟨sv, rest, hsv, hrep, _⟩ := k4
  have hc0 : w.cell? ⟨g.β q, 0, none⟩ = some sv := by
    rw [cell_of_row w _ _ _ _ _ k1]
    cases cur with
    | nil => simp at k3
    | cons a cur => simp at hsv; simp [hsv.1]
  have hI : Rg.Ints w.heap.size w sv l := by
    obtain ⟨A, cap, rfl, hrw⟩ := src_sound hi hx hrep
    by_cases hl0 : l = []
    · subst hl0; exact .inl ⟨rfl, A, cap, rfl⟩
    · obtain ⟨b, o, ws, rfl, m1, m2⟩ := hrw (by cases l with | nil => exact absurd rfl hl0 | cons a l => simp)
      have hws := us_vals l ws m1
      refine .inr ⟨b, o, cap, rfl, ?_, fun j hj => ?_⟩
      · have h0 := m2 0 (by cases l with | nil => exact absurd rfl hl0 | cons a l => simp)
        rw [hws] at h0
        cases l with
        | nil => exact absurd rfl hl0
        | cons a l => exact cell_lt (a := ⟨b, o + 0, none⟩) (v := .int .u32 a) (by simpa using h0)
      · rw [m2 j (by simpa using hj), hws]
        simp [hj]
  refine (((Rg.collect_in Fence.wide 4 trivial trivial trivial rfl (Nat.le_refl _) (g.β q) sv l hl w (cell_lt hc0) hc0 hI).calls room_wide)).mono ?_
  rintro e w' ⟨v, rfl, hrow, hbel⟩
  have hlen : l.length = (l.map (Value.int .u32)).length := by simp
  rw [hlen] at hrow
  obtain ⟨g', h1, h2, h3⟩ := adopt_row (cs := us l) hi hbel hrow (fun w g => repL_us w g l)
  rw [← hlen] at h1
  exact ⟨v, _, _, g', rfl, ⟨rfl, rfl⟩, h1, h2, h3⟩

/-- The evaluator's own word for Collect(Values(..)). -/
def prim : XCall := fun f args st => if f = 83 then match args with
    | [.fn (.func g) [.pt q 0]] => if g = 84 then match st.H q with
        | .box e s [x] => if e = 22 ∧ s = 1 then match srcT tab 22 st x with
            | some (n, ds) => match intsL ds with
              | some (ks, ns) => if (ks.all fun k => decide (k = .u32)) = true ∧ ns.length = n ∧ n ≤ 1048576 then some [(.ms st.next 0 n, st.new (.box 29 1 (us ns)))] else none
              | none => none
            | none => none
          else none
        | _ => none
      else none
    | _ => none
  else none

theorem intsL_us : ∀ (ds : List LV) (ks : List IntKind) (ns : List Int), intsL ds = some (ks, ns) → (ks.all fun k => decide (k = .u32)) = true → ds = us ns
  | [], ks, ns, h, _ => by simp only [intsL, Option.some.injEq, Prod.mk.injEq] at h; obtain ⟨rfl, rfl⟩ := h; rfl
  | c :: ds, ks, ns, h, ha => by
    cases c with
    | atom x =>
      cases x with
      | int k n =>
        simp only [intsL] at h
        cases hi : intsL ds with
        | none => simp [hi] at h
        | some p =>
          obtain ⟨ks', ns'⟩ := p
          simp only [hi, Option.some.injEq, Prod.mk.injEq] at h
          obtain ⟨rfl, rfl⟩ := h
          simp only [List.all_cons, Bool.and_eq_true, decide_eq_true_eq] at ha
          obtain ⟨rfl, ha⟩ := ha
          rw [intsL_us ds ks' ns' hi ha]; rfl
      | _ => simp [intsL] at h
    | _ => simp [intsL] at h

theorem prim_ok : CallOk Tryz.prog prim := by
  intro f args st rs h
  unfold prim at h
  split at h
  · rename_i hf
    subst hf
    split at h
    · rename_i g q
      split at h
      · rename_i hg
        subst hg
        split at h
        · rename_i e s x hH
          split at h
          · rename_i hes
            obtain ⟨rfl, rfl⟩ := hes
            split at h
            · rename_i n ds hsrc
              split at h
              · rename_i ks ns hin
                split at h
                · rename_i hc
                  obtain ⟨c1, rfl, c3⟩ := hc
                  injection h with h
                  subst h
                  have := intsL_us ds ks ns hin c1
                  subst this
                  exact (Collect ns x q st c3 hH hsrc).mono (by rintro r st' ⟨rfl, rfl⟩; simp)
                · cases h
              · cases h
            · cases h
          · cases h
        · cases h
      · cases h
    · cases h
  · cases h

end Go.Proofs.YtphdhggoaijfoaaGreat.Aw

namespace Go.Proofs.YtphdhggoaijfoaaGreat.Aw
open Go Go.RowKit
set_option linter.unusedSimpArgs false
set_option linter.unusedVariables false
theorem awake09 (st : St) : ACalls Tryz.prog 61 [] st fun r st' => r = bb true ∧ st' = st :=
  acalls_closed tabOk fnsOk prim_ok mixed 1000000 true (by kernel_rfl)
theorem awake10 (st : St) : ACalls Tryz.prog 8 [] st fun r st' => r = bb true ∧ st' = st :=
  acalls_closed tabOk fnsOk prim_ok mixed 1000000 true (by kernel_rfl)
theorem awake32 (st : St) : ACalls Tryz.prog 20 [] st fun r st' => r = bb true ∧ st' = st :=
  acalls_closed tabOk fnsOk prim_ok mixed 1000000 true (by kernel_rfl)
end Go.Proofs.YtphdhggoaijfoaaGreat.Aw

namespace Go.Proofs.YtphdhggoaijfoaaGreat.Aw
open Go Go.RowKit
set_option linter.unusedSimpArgs false
set_option linter.unusedVariables false

/-- A map: a graph, and its turns. -/
structure Mp where
  g : Gr
  rots : List (List Int)
  deriving DecidableEq
abbrev rowsL (rs : List (List Int)) : List LV := rs.map fun r => .sl 0 r.length (us r)
abbrev mpL (m : Mp) : List LV := grL m.g ++ [.sl 0 m.rots.length (rowsL m.rots)]

theorem rowsL_drop (rs : List (List Int)) (k : Nat) (hk : k < rs.length) : (rowsL rs).drop k = .sl 0 (rs.getD k []).length (us (rs.getD k [])) :: (rowsL rs).drop (k + 1) := by
  unfold rowsL
  rw [List.drop_eq_getElem_cons (by simpa using hk)]
  simp [hk]

def Mp.ok (m : Mp) : Prop := m.g.ok ∧ m.rots.length ≤ maxLen ∧ ∀ r ∈ m.rots, r.length ≤ maxLen ∧ ∀ x ∈ r, U32 x
theorem shp_mp {lvs : List LV} (h : Shp tab 28 lvs) : ∃ m : Mp, lvs = mpL m ∧ m.ok := by
  obtain ⟨ps, rfl, h1, h2⟩ := shp_struct rfl rfl h
  match ps, h1 with
  | [p, q], _ =>
    obtain ⟨g, rfl, k1⟩ := shp_gr (h2 0 _ p rfl rfl)
    obtain ⟨l, rfl, k3, k4⟩ := shp_uss (h2 1 _ q rfl rfl)
    exact ⟨⟨g, l⟩, rfl, k1, k3, k4⟩

end Go.Proofs.YtphdhggoaijfoaaGreat.Aw

namespace Go.Proofs.YtphdhggoaijfoaaGreat.Aw
open Go Go.RowKit
set_option linter.unusedSimpArgs false
set_option linter.unusedVariables false

theorem mget_mset (es : List (List Int × LV)) (a x : List Int) (v : LV) : mget (mset es a v) x = if x = a then some v else mget es x := by
  induction es with
  | nil =>
    simp only [mset, mget, beq_iff_eq]
  | cons p es ih =>
    by_cases h : a = p.1
    · have : mset (p :: es) a v = (a, v) :: es := by simp [mset, h]
      rw [this]
      simp only [mget, beq_iff_eq]
      by_cases hx : x = a
      · simp [hx]
      · have : ¬ x = p.1 := by rw [← h]; exact hx
        simp [hx, this]
    · have : mset (p :: es) a v = p :: mset es a v := by simp [mset, h]
      rw [this]
      simp only [mget, beq_iff_eq]
      by_cases hx : x = p.1
      · have : ¬ x = a := fun h' => h (by rw [← h', hx])
        rw [if_pos hx, if_neg this, if_pos hx]
      · simp [hx, ih]

end Go.Proofs.YtphdhggoaijfoaaGreat.Aw

namespace Go.Proofs.YtphdhggoaijfoaaGreat.Aw
open Go Go.RowKit Go.Proofs.YtphdhggoaijfoaaGreat.Pl
set_option linter.unusedSimpArgs false
set_option linter.unusedVariables false

@[simp] theorem new_set (st : St) (a b : LObj) : (st.new a).set st.next b = st.new b := St.ext' rfl fun y => by by_cases hy : y = st.next <;> simp [hy]

theorem eds_length (l : List Ed) : (eds l).length = l.length * 3 := by
  induction l with
  | nil => rfl
  | cons e l ih => simp only [eds, List.flatMap_cons, List.length_append, List.length_cons, List.length_nil] at ih ⊢; omega
abbrev ed0 : Ed := ⟨0, 0, 0⟩
theorem eds_drop (l : List Ed) (k : Nat) (hk : k < l.length) : (eds l).drop (k * 3) = u (l.getD k ed0).id :: u (l.getD k ed0).a :: u (l.getD k ed0).b :: eds (l.drop (k + 1)) := by
  induction l generalizing k with
  | nil => simp at hk
  | cons e l ih =>
    cases k with
    | zero => rfl
    | succ k =>
      have : (k + 1) * 3 = k * 3 + 1 + 1 + 1 := by omega
      rw [this]
      simp only [eds, List.flatMap_cons, edL, List.cons_append, List.drop_succ_cons, List.nil_append, List.getD_cons_succ]
      exact ih k (by simpa using hk)

/-- The first of some numbers that isn't 0. -/
def firstNZ (f : Nat → Int) : Nat → Int
  | 0 => 0
  | n + 1 => if firstNZ f n ≠ 0 then firstNZ f n else f n
theorem firstNZ_zero {f : Nat → Int} {n : Nat} (h : ∀ j, j < n → f j = 0) : firstNZ f n = 0 := by
  induction n with
  | zero => rfl
  | succ n ih => simp [firstNZ, ih (fun j hj => h j (by omega)), h n (by omega)]
theorem firstNZ_eq {f : Nat → Int} {n k : Nat} {v : Int} (hk : k < n) (h : ∀ j, j < k → f j = 0) (hv : f k = v) (h0 : v ≠ 0) : firstNZ f n = v := by
  induction n with
  | zero => omega
  | succ n ih =>
    rcases Nat.lt_or_ge k n with h1 | h1
    · have := ih h1
      simp [firstNZ, this, h0]
    · have : k = n := by omega
      subst this
      simp [firstNZ, firstNZ_zero h, hv]

def numb (n ahead : Int) (first : Bool) : Int := if n < 1 ∨ 1048576 < n then 2 else if first = false ∧ n ≤ ahead then 19 else 0
def badV (g : Gr) (k : Nat) : Int := numb (g.vs.getD k 0) (g.vs.getD (k - 1) 0) (decide (k = 0))
def badE (g : Gr) (k : Nat) : Int :=
  let x := g.es.getD k ed0
  let n := numb x.id (g.es.getD (k - 1) ed0).id (decide (k = 0))
  if n ≠ 0 then n else if x.a = x.b then 20 else if x.a ∉ g.vs ∨ x.b ∉ g.vs then 21 else 0
/-- What Check answers. -/
def chk (g : Gr) : Int := if 64 < g.vs.length ∨ 160 < g.es.length then 6 else if firstNZ (badV g) g.vs.length ≠ 0 then firstNZ (badV g) g.vs.length else firstNZ (badE g) g.es.length

theorem Has (g : Gr) (v : Int) (st : St) (hl : small g.vs) :
    ACalls Tryz.prog 62 [.ag (grL g), u v] st fun r st' => r = bb (decide (v ∈ g.vs)) ∧ Keeps st st' := by
  obtain ⟨l, es⟩ := g
  simp only at hl ⊢
  unfold small at hl
  refine acalls_of_body tabOk Tryz.func62 rfl rfl Tryz.ntmps62 (rs := [.tmp 4]) rfl (by simp) ?_
  (repeat' (first | refine awp_seq ?_ | refine awp_block ?_ | ((first | refine awp_skip ?_ | refine awp_exit ?_); simp only [ak, reduceIte]) | (refine awp_ret ?_; simp only [ak, reduceIte]; simp []) | (refine awp_cond ?_; simp []; (try with_reducible refine ⟨?_, ?_⟩) <;> (try with_reducible intro hc) <;> try (exfalso; omega)) | ((first | (refine w_e [] ?_; intro J hJ; simp only []) | (refine w_q ?_; intro J hJ) | refine e_go ?_); simp []; (repeat refine ca ?_); (try ((try with_reducible refine ⟨?_, ?_⟩) <;> (try with_reducible intro hnil) <;> refine hJ _ _ ?_ <;> clear hJ J <;> simp only [ak, reduceIte] <;> try subst hnil)))))
  refine awp_loop (fun n fr st' => ∃ k : Nat, k ≤ l.length ∧ n = l.length - k ∧ fr 8 = .sl 0 l.length (us l) ∧ fr 1 = u v ∧ fr 9 = i l.length ∧ fr 10 = i k ∧ Keeps st st' ∧ ∀ j (hj : j < l.length), j < k → l[j] ≠ v) l.length ?_ ?_
  · exact ⟨0, by omega, by omega, by simp, by simp, by simp, by simp, Keeps.new _ _, fun j _ h => by omega⟩
  rintro n fr st' ⟨k, hk, rfl, h8, h1, h9, h10, hkp, hno⟩ JJ hJJ
  by_cases hlt : k < l.length
  · have hd := us_drop_head l k hlt
    have hw := nat_add_one k (by omega)
    (repeat' (first | refine awp_seq ?_ | refine awp_block ?_ | ((first | refine awp_skip ?_ | refine awp_exit ?_); simp only [ak, reduceIte]) | (refine awp_ret ?_; simp only [ak, reduceIte]; simp [h8, h1, h9, h10, hlt, hd, hw]) | (refine awp_cond ?_; simp [h8, h1, h9, h10, hlt, hd, hw]; (try with_reducible refine ⟨?_, ?_⟩) <;> (try with_reducible intro hc) <;> try (exfalso; omega)) | ((first | (refine w_e [] ?_; intro J hJ; simp only []) | (refine w_q ?_; intro J hJ) | refine e_go ?_); simp [h8, h1, h9, h10, hlt, hd, hw]; (repeat refine ca ?_); (try ((try with_reducible refine ⟨?_, ?_⟩) <;> (try with_reducible intro hnil) <;> refine hJ _ _ ?_ <;> clear hJ J <;> simp only [ak, reduceIte] <;> try subst hnil)))))
    · exact ⟨by rw [← hc]; exact List.getElem_mem hlt, hkp⟩
    · refine hJJ _ _ _ ?_ ⟨k + 1, by omega, rfl, by simp [h8], by simp [h1], by simp [h9], by simp, hkp, fun j hj hjk => ?_⟩
      · omega
      · rcases Nat.lt_or_ge j k with h | h
        · exact hno j hj h
        · obtain rfl : j = k := by omega
          exact hc
  · (repeat' (first | refine awp_seq ?_ | refine awp_block ?_ | ((first | refine awp_skip ?_ | refine awp_exit ?_); simp only [ak, reduceIte]) | (refine awp_ret ?_; simp only [ak, reduceIte]; simp [h8, h1, h9, h10, hlt]) | (refine awp_cond ?_; simp [h8, h1, h9, h10, hlt]; (try with_reducible refine ⟨?_, ?_⟩) <;> (try with_reducible intro hc) <;> try (exfalso; omega)) | ((first | (refine w_e [] ?_; intro J hJ; simp only []) | (refine w_q ?_; intro J hJ) | refine e_go ?_); simp [h8, h1, h9, h10, hlt]; (repeat refine ca ?_); (try ((try with_reducible refine ⟨?_, ?_⟩) <;> (try with_reducible intro hnil) <;> refine hJ _ _ ?_ <;> clear hJ J <;> simp only [ak, reduceIte] <;> try subst hnil)))))
    refine ⟨fun hm => ?_, hkp⟩
    obtain ⟨j, hj, rfl⟩ := List.getElem_of_mem hm
    exact hno j hj (by omega) rfl

theorem Vert (g : Gr) (v : Int) (st : St) (hl : small g.vs) :
    ACalls Tryz.prog 82 [.ag (grL g), u v] st fun r st' => r = i (gi g.vs v) ∧ Keeps st st' := by
  obtain ⟨l, es⟩ := g
  simp only at hl ⊢
  refine acalls_of_body tabOk Tryz.func82 rfl rfl Tryz.ntmps82 (rs := [.tmp 4]) rfl (by simp) ?_
  (repeat' (first | refine awp_seq ?_ | refine awp_block ?_ | ((first | refine awp_skip ?_ | refine awp_exit ?_); simp only [ak, reduceIte]) | (refine awp_ret ?_; simp only [ak, reduceIte]; simp []) | (refine awp_cond ?_; simp []; (try with_reducible refine ⟨?_, ?_⟩) <;> (try with_reducible intro hc) <;> try (exfalso; omega)) | ((first | (refine w_e [] ?_; intro J hJ; simp only []) | (refine w_q ?_; intro J hJ) | refine e_go ?_); simp []; (repeat refine ca ?_); (try ((try with_reducible refine ⟨?_, ?_⟩) <;> (try with_reducible intro hnil) <;> refine hJ _ _ ?_ <;> clear hJ J <;> simp only [ak, reduceIte] <;> try subst hnil)))))
  refine callK_ofE (Index l 0 v _ hl) (by simp []) ?_; rintro r st' ⟨rfl, rfl⟩
  (repeat' (first | refine awp_seq ?_ | refine awp_block ?_ | ((first | refine awp_skip ?_ | refine awp_exit ?_); simp only [ak, reduceIte]) | (refine awp_ret ?_; simp only [ak, reduceIte]; simp []) | (refine awp_cond ?_; simp []; (try with_reducible refine ⟨?_, ?_⟩) <;> (try with_reducible intro hc) <;> try (exfalso; omega)) | ((first | (refine w_e [] ?_; intro J hJ; simp only []) | (refine w_q ?_; intro J hJ) | refine e_go ?_); simp []; (repeat refine ca ?_); (try ((try with_reducible refine ⟨?_, ?_⟩) <;> (try with_reducible intro hnil) <;> refine hJ _ _ ?_ <;> clear hJ J <;> simp only [ak, reduceIte] <;> try subst hnil)))))
  exact Keeps.new _ _

theorem number (n ahead : Int) (first : Bool) (st : St) :
    ACalls Tryz.prog 81 [u n, u ahead, bb first] st fun r st' => r = i (numb n ahead first) ∧ st' = st := by
  unfold numb
  refine acalls_of_body tabOk Tryz.func81 rfl rfl Tryz.ntmps81 (rs := [.tmp 6]) rfl (by simp) ?_
  by_cases h1 : n < 1
  · (repeat' (first | refine awp_seq ?_ | refine awp_block ?_ | ((first | refine awp_skip ?_ | refine awp_exit ?_); simp only [ak, reduceIte]) | (refine awp_ret ?_; simp only [ak, reduceIte]; simp [h1]) | (refine awp_cond ?_; simp [h1]; (try with_reducible refine ⟨?_, ?_⟩) <;> (try with_reducible intro hc) <;> try (exfalso; omega)) | ((first | (refine w_e [] ?_; intro J hJ; simp only []) | (refine w_q ?_; intro J hJ) | refine e_go ?_); simp [h1]; (repeat refine ca ?_); (try ((try with_reducible refine ⟨?_, ?_⟩) <;> (try with_reducible intro hnil) <;> refine hJ _ _ ?_ <;> clear hJ J <;> simp only [ak, reduceIte] <;> try subst hnil)))))
  by_cases h2 : 1048576 < n
  · (repeat' (first | refine awp_seq ?_ | refine awp_block ?_ | ((first | refine awp_skip ?_ | refine awp_exit ?_); simp only [ak, reduceIte]) | (refine awp_ret ?_; simp only [ak, reduceIte]; simp [h1, h2]) | (refine awp_cond ?_; simp [h1, h2]; (try with_reducible refine ⟨?_, ?_⟩) <;> (try with_reducible intro hc) <;> try (exfalso; omega)) | ((first | (refine w_e [] ?_; intro J hJ; simp only []) | (refine w_q ?_; intro J hJ) | refine e_go ?_); simp [h1, h2]; (repeat refine ca ?_); (try ((try with_reducible refine ⟨?_, ?_⟩) <;> (try with_reducible intro hnil) <;> refine hJ _ _ ?_ <;> clear hJ J <;> simp only [ak, reduceIte] <;> try subst hnil)))))
  cases first
  · by_cases h3 : n ≤ ahead
    · (repeat' (first | refine awp_seq ?_ | refine awp_block ?_ | ((first | refine awp_skip ?_ | refine awp_exit ?_); simp only [ak, reduceIte]) | (refine awp_ret ?_; simp only [ak, reduceIte]; simp [h1, h2, h3]) | (refine awp_cond ?_; simp [h1, h2, h3]; (try with_reducible refine ⟨?_, ?_⟩) <;> (try with_reducible intro hc) <;> try (exfalso; omega)) | ((first | (refine w_e [] ?_; intro J hJ; simp only []) | (refine w_q ?_; intro J hJ) | refine e_go ?_); simp [h1, h2, h3]; (repeat refine ca ?_); (try ((try with_reducible refine ⟨?_, ?_⟩) <;> (try with_reducible intro hnil) <;> refine hJ _ _ ?_ <;> clear hJ J <;> simp only [ak, reduceIte] <;> try subst hnil)))))
    · (repeat' (first | refine awp_seq ?_ | refine awp_block ?_ | ((first | refine awp_skip ?_ | refine awp_exit ?_); simp only [ak, reduceIte]) | (refine awp_ret ?_; simp only [ak, reduceIte]; simp [h1, h2, h3]) | (refine awp_cond ?_; simp [h1, h2, h3]; (try with_reducible refine ⟨?_, ?_⟩) <;> (try with_reducible intro hc) <;> try (exfalso; omega)) | ((first | (refine w_e [] ?_; intro J hJ; simp only []) | (refine w_q ?_; intro J hJ) | refine e_go ?_); simp [h1, h2, h3]; (repeat refine ca ?_); (try ((try with_reducible refine ⟨?_, ?_⟩) <;> (try with_reducible intro hnil) <;> refine hJ _ _ ?_ <;> clear hJ J <;> simp only [ak, reduceIte] <;> try subst hnil)))))
  · (repeat' (first | refine awp_seq ?_ | refine awp_block ?_ | ((first | refine awp_skip ?_ | refine awp_exit ?_); simp only [ak, reduceIte]) | (refine awp_ret ?_; simp only [ak, reduceIte]; simp [h1, h2]) | (refine awp_cond ?_; simp [h1, h2]; (try with_reducible refine ⟨?_, ?_⟩) <;> (try with_reducible intro hc) <;> try (exfalso; omega)) | ((first | (refine w_e [] ?_; intro J hJ; simp only []) | (refine w_q ?_; intro J hJ) | refine e_go ?_); simp [h1, h2]; (repeat refine ca ?_); (try ((try with_reducible refine ⟨?_, ?_⟩) <;> (try with_reducible intro hnil) <;> refine hJ _ _ ?_ <;> clear hJ J <;> simp only [ak, reduceIte] <;> try subst hnil)))))

end Go.Proofs.YtphdhggoaijfoaaGreat.Aw

namespace Go.Proofs.YtphdhggoaijfoaaGreat.Aw
open Go Go.RowKit Go.Proofs.YtphdhggoaijfoaaGreat.Pl
set_option linter.unusedSimpArgs false
set_option linter.unusedVariables false

theorem getD_get (l : List Int) (k : Nat) (hk : k < l.length) : l.getD k 0 = l[k] := by
  rw [List.getD_eq_getElem?_getD, List.getElem?_eq_getElem hk]; rfl

theorem Check (g : Gr) (st : St) (hv : g.vs.length ≤ 1000) (he : g.es.length ≤ 1000) :
    ACalls Tryz.prog 69 [.ag (grL g)] st fun r st' => r = i (chk g) ∧ Keeps st st' := by
  have hsm : small g.vs := by unfold small; omega
  refine acalls_of_body tabOk Tryz.func69 rfl rfl Tryz.ntmps69 (rs := [.tmp 2]) rfl (by simp) ?_
  by_cases h1 : (64 : Int) < (g.vs.length : Int)
  · have : chk g = 6 := by unfold chk; rw [if_pos (by omega)]
    (repeat' (first | refine awp_seq ?_ | refine awp_block ?_ | ((first | refine awp_skip ?_ | refine awp_exit ?_); simp only [ak, reduceIte]) | (refine awp_ret ?_; simp only [ak, reduceIte]; simp [h1, this]) | (refine awp_cond ?_; simp [h1, this]; (try with_reducible refine ⟨?_, ?_⟩) <;> (try with_reducible intro hc) <;> try (exfalso; omega)) | ((first | (refine w_e [] ?_; intro J hJ; simp only []) | (refine w_q ?_; intro J hJ) | refine e_go ?_); simp [h1, this]; (repeat refine ca ?_); (try ((try with_reducible refine ⟨?_, ?_⟩) <;> (try with_reducible intro hnil) <;> refine hJ _ _ ?_ <;> clear hJ J <;> simp only [ak, reduceIte] <;> try subst hnil)))))
    exact Keeps.new _ _
  by_cases h2 : (160 : Int) < (g.es.length : Int)
  · have : chk g = 6 := by unfold chk; rw [if_pos (by omega)]
    (repeat' (first | refine awp_seq ?_ | refine awp_block ?_ | ((first | refine awp_skip ?_ | refine awp_exit ?_); simp only [ak, reduceIte]) | (refine awp_ret ?_; simp only [ak, reduceIte]; simp [h1, h2, this]) | (refine awp_cond ?_; simp [h1, h2, this]; (try with_reducible refine ⟨?_, ?_⟩) <;> (try with_reducible intro hc) <;> try (exfalso; omega)) | ((first | (refine w_e [] ?_; intro J hJ; simp only []) | (refine w_q ?_; intro J hJ) | refine e_go ?_); simp [h1, h2, this]; (repeat refine ca ?_); (try ((try with_reducible refine ⟨?_, ?_⟩) <;> (try with_reducible intro hnil) <;> refine hJ _ _ ?_ <;> clear hJ J <;> simp only [ak, reduceIte] <;> try subst hnil)))))
    exact Keeps.new _ _
  have hch : chk g = if firstNZ (badV g) g.vs.length ≠ 0 then firstNZ (badV g) g.vs.length else firstNZ (badE g) g.es.length := by unfold chk; rw [if_neg (by omega)]
  (repeat' (first | refine awp_seq ?_ | refine awp_block ?_ | ((first | refine awp_skip ?_ | refine awp_exit ?_); simp only [ak, reduceIte]) | (refine awp_ret ?_; simp only [ak, reduceIte]; simp [h1, h2]) | (refine awp_cond ?_; simp [h1, h2]; (try with_reducible refine ⟨?_, ?_⟩) <;> (try with_reducible intro hc) <;> try (exfalso; omega)) | ((first | (refine w_e [] ?_; intro J hJ; simp only []) | (refine w_q ?_; intro J hJ) | refine e_go ?_); simp [h1, h2]; (repeat refine ca ?_); (try ((try with_reducible refine ⟨?_, ?_⟩) <;> (try with_reducible intro hnil) <;> refine hJ _ _ ?_ <;> clear hJ J <;> simp only [ak, reduceIte] <;> try subst hnil)))))
  refine awp_loop (fun n fr st' => ∃ k : Nat, k ≤ g.vs.length ∧ n = g.vs.length - k ∧ fr 1 = .pt st.next 0 ∧ fr 21 = .sl 0 g.vs.length (us g.vs) ∧ fr 22 = i g.vs.length ∧ fr 23 = i k ∧ fr 3 = u (if k = 0 then 0 else g.vs.getD (k - 1) 0) ∧ st' = st.new (.box 25 2 (grL g)) ∧ ∀ j, j < k → badV g j = 0) g.vs.length ?_ ?_
  · exact ⟨0, by omega, by omega, by simp, by simp, by simp, by simp, by simp, rfl, fun j h => by omega⟩
  rintro n fr st' ⟨k, hk, rfl, f1, f21, f22, f23, f3, rfl, hno⟩ JJ hJJ
  by_cases hlt : k < g.vs.length
  · have hd := us_drop_getD g.vs k hlt
    have hw := nat_add_one k (by omega)
    have hbad : badV g k = numb (g.vs.getD k 0) (if k = 0 then 0 else g.vs.getD (k - 1) 0) (decide (k = 0)) := by
      unfold badV
      by_cases h0 : k = 0
      · subst h0; simp [numb]
      · simp [h0]
    generalize hy : (if k = 0 then (0 : Int) else g.vs.getD (k - 1) 0) = y at *
    generalize hx : g.vs.getD k 0 = x at *
    have hk0 : ((k : Int) == 0) = decide (k = 0) := by by_cases h0 : k = 0 <;> simp [h0]
    (repeat' (first | refine awp_seq ?_ | refine awp_block ?_ | ((first | refine awp_skip ?_ | refine awp_exit ?_); simp only [ak, reduceIte]) | (refine awp_ret ?_; simp only [ak, reduceIte]; simp [f1, f21, f22, f23, f3, hlt, hd, hw, hk0]) | (refine awp_cond ?_; simp [f1, f21, f22, f23, f3, hlt, hd, hw, hk0]; (try with_reducible refine ⟨?_, ?_⟩) <;> (try with_reducible intro hc) <;> try (exfalso; omega)) | ((first | (refine w_e [] ?_; intro J hJ; simp only []) | (refine w_q ?_; intro J hJ) | refine e_go ?_); simp [f1, f21, f22, f23, f3, hlt, hd, hw, hk0]; (repeat refine ca ?_); (try ((try with_reducible refine ⟨?_, ?_⟩) <;> (try with_reducible intro hnil) <;> refine hJ _ _ ?_ <;> clear hJ J <;> simp only [ak, reduceIte] <;> try subst hnil)))))
    refine callK_ofE (number x y (decide (k = 0)) _) (by simp []) ?_; rintro r st' ⟨rfl, rfl⟩
    rw [← hbad]
    by_cases hb : badV g k = 0
    · (repeat' (first | refine awp_seq ?_ | refine awp_block ?_ | ((first | refine awp_skip ?_ | refine awp_exit ?_); simp only [ak, reduceIte]) | (refine awp_ret ?_; simp only [ak, reduceIte]; simp [f23, hw, hb]) | (refine awp_cond ?_; simp [f23, hw, hb]; (try with_reducible refine ⟨?_, ?_⟩) <;> (try with_reducible intro hc) <;> try (exfalso; omega)) | ((first | (refine w_e [] ?_; intro J hJ; simp only []) | (refine w_q ?_; intro J hJ) | refine e_go ?_); simp [f23, hw, hb]; (repeat refine ca ?_); (try ((try with_reducible refine ⟨?_, ?_⟩) <;> (try with_reducible intro hnil) <;> refine hJ _ _ ?_ <;> clear hJ J <;> simp only [ak, reduceIte] <;> try subst hnil)))))
      refine hJJ _ _ _ ?_ ⟨k + 1, by omega, rfl, by simp [f1], by simp [f21], by simp [f22], by simp, by rw [if_neg (by omega), Nat.add_sub_cancel, hx]; simp, rfl, fun j hj => ?_⟩
      · omega
      · rcases Nat.lt_or_ge j k with h | h
        · exact hno j h
        · obtain rfl : j = k := by omega
          exact hb
    · have hf := firstNZ_eq hlt hno rfl hb
      have hr : chk g = badV g k := by rw [hch, hf, if_pos hb]
      (repeat' (first | refine awp_seq ?_ | refine awp_block ?_ | ((first | refine awp_skip ?_ | refine awp_exit ?_); simp only [ak, reduceIte]) | (refine awp_ret ?_; simp only [ak, reduceIte]; simp [hb]) | (refine awp_cond ?_; simp [hb]; (try with_reducible refine ⟨?_, ?_⟩) <;> (try with_reducible intro hc) <;> try (exfalso; omega)) | ((first | (refine w_e [] ?_; intro J hJ; simp only []) | (refine w_q ?_; intro J hJ) | refine e_go ?_); simp [hb]; (repeat refine ca ?_); (try ((try with_reducible refine ⟨?_, ?_⟩) <;> (try with_reducible intro hnil) <;> refine hJ _ _ ?_ <;> clear hJ J <;> simp only [ak, reduceIte] <;> try subst hnil)))))
      exact ⟨hr.symm, Keeps.new _ _⟩
  have hk' : k = g.vs.length := by omega
  have hz : firstNZ (badV g) g.vs.length = 0 := firstNZ_zero (fun j hj => hno j (by omega))
  rw [hz] at hch
  simp only [ne_eq, not_true_eq_false, if_false] at hch
  clear hJJ hno hz
  have hel := eds_length g.es
  generalize hy : (if k = 0 then (0 : Int) else g.vs.getD (k - 1) 0) = y at *
  (repeat' (first | refine awp_seq ?_ | refine awp_block ?_ | ((first | refine awp_skip ?_ | refine awp_exit ?_); simp only [ak, reduceIte]) | (refine awp_ret ?_; simp only [ak, reduceIte]; simp [f1, f21, f22, f23, f3, hlt]) | (refine awp_cond ?_; simp [f1, f21, f22, f23, f3, hlt]; (try with_reducible refine ⟨?_, ?_⟩) <;> (try with_reducible intro hc) <;> try (exfalso; omega)) | ((first | (refine w_e [] ?_; intro J hJ; simp only []) | (refine w_q ?_; intro J hJ) | refine e_go ?_); simp [f1, f21, f22, f23, f3, hlt]; (repeat refine ca ?_); (try ((try with_reducible refine ⟨?_, ?_⟩) <;> (try with_reducible intro hnil) <;> refine hJ _ _ ?_ <;> clear hJ J <;> simp only [ak, reduceIte] <;> try subst hnil)))))
  refine awp_loop (fun n fr st' => ∃ k : Nat, k ≤ g.es.length ∧ n = g.es.length - k ∧ fr 1 = .pt st.next 0 ∧ fr 39 = .sl 0 g.es.length (eds g.es) ∧ fr 40 = i g.es.length ∧ fr 41 = i k ∧ (∃ z, fr 3 = u z ∧ (k ≠ 0 → z = (g.es.getD (k - 1) ed0).id)) ∧ Keeps (st.new (.box 25 2 (grL g))) st' ∧ ∀ j, j < k → badE g j = 0) g.es.length ?_ ?_
  · exact ⟨0, by omega, by omega, by simp [f1], by simp, by simp, by simp, ⟨y, by simp [f3], by simp⟩, Keeps.refl _, fun j h => by omega⟩
  clear f1 f21 f22 f23 f3 hlt hk' hk hy y fr k
  rintro n fr st1 ⟨k, hk, rfl, f1, f39, f40, f41, ⟨z, f3, hz⟩, hkp, hno⟩ JJ hJJ
  have hgH : st1.H st.next = .box 25 2 (grL g) := by rw [hkp.H _ (by simp)]; simp
  have hnx : ¬ st.next = st1.next := by have := hkp.next; simp only [new_next] at this; omega
  have hkp0 := (Keeps.new st (.box 25 2 (grL g))).trans hkp
  by_cases hlt : k < g.es.length
  · have hd := eds_drop g.es k hlt
    have hw := nat_add_one k (by omega)
    have hk3 : k * 3 < g.es.length * 3 := by omega
    have hk30 : k * 3 + 3 ≤ g.es.length * 3 := by omega
    have hbad : badE g k = (let x := g.es.getD k ed0; let n := numb x.id z (decide (k = 0)); if n ≠ 0 then n else if x.a = x.b then 20 else if x.a ∉ g.vs ∨ x.b ∉ g.vs then 21 else 0) := by
      unfold badE
      by_cases h0 : k = 0
      · subst h0; simp [numb]
      · rw [hz h0]
    generalize hx : g.es.getD k ed0 = x at *
    obtain ⟨xi, xa, xb⟩ := x
    simp only at hd hbad
    have hk0 : ((k : Int) == 0) = decide (k = 0) := by by_cases h0 : k = 0 <;> simp [h0]
    (repeat' (first | refine awp_seq ?_ | refine awp_block ?_ | ((first | refine awp_skip ?_ | refine awp_exit ?_); simp only [ak, reduceIte]) | (refine awp_ret ?_; simp only [ak, reduceIte]; simp [f1, f39, f40, f41, f3, hlt, hd, hw, hk0, hel, hk3, hgH, hnx]) | (refine awp_cond ?_; simp [f1, f39, f40, f41, f3, hlt, hd, hw, hk0, hel, hk3, hgH, hnx]; (try with_reducible refine ⟨?_, ?_⟩) <;> (try with_reducible intro hc) <;> try (exfalso; omega)) | ((first | (refine w_e [] ?_; intro J hJ; simp only []) | (refine w_q ?_; intro J hJ) | refine e_go ?_); simp [f1, f39, f40, f41, f3, hlt, hd, hw, hk0, hel, hk3, hgH, hnx]; (repeat refine ca ?_); (try ((try with_reducible refine ⟨?_, ?_⟩) <;> (try with_reducible intro hnil) <;> refine hJ _ _ ?_ <;> clear hJ J <;> simp only [ak, reduceIte] <;> try subst hnil)))))
    refine callK_ofE (number xi z (decide (k = 0)) _) (by simp []) ?_; rintro r st' ⟨rfl, rfl⟩
    by_cases hb : numb xi z (decide (k = 0)) = 0
    rotate_left
    · have hb' : badE g k = numb xi z (decide (k = 0)) := by rw [hbad, if_pos hb]
      have hr : chk g = numb xi z (decide (k = 0)) := by rw [hch]; exact firstNZ_eq hlt hno hb' hb
      (repeat' (first | refine awp_seq ?_ | refine awp_block ?_ | ((first | refine awp_skip ?_ | refine awp_exit ?_); simp only [ak, reduceIte]) | (refine awp_ret ?_; simp only [ak, reduceIte]; simp [hb]) | (refine awp_cond ?_; simp [hb]; (try with_reducible refine ⟨?_, ?_⟩) <;> (try with_reducible intro hc) <;> try (exfalso; omega)) | ((first | (refine w_e [] ?_; intro J hJ; simp only []) | (refine w_q ?_; intro J hJ) | refine e_go ?_); simp [hb]; (repeat refine ca ?_); (try ((try with_reducible refine ⟨?_, ?_⟩) <;> (try with_reducible intro hnil) <;> refine hJ _ _ ?_ <;> clear hJ J <;> simp only [ak, reduceIte] <;> try subst hnil)))))
      exact ⟨hr.symm, hkp0.trans (Keeps.new _ _)⟩
    rw [if_neg (by simp [hb])] at hbad
    by_cases hab : xa = xb
    · have hb' : badE g k = 20 := by rw [hbad, if_pos hab]
      have hr : chk g = 20 := by rw [hch]; exact firstNZ_eq hlt hno hb' (by decide)
      (repeat' (first | refine awp_seq ?_ | refine awp_block ?_ | ((first | refine awp_skip ?_ | refine awp_exit ?_); simp only [ak, reduceIte]) | (refine awp_ret ?_; simp only [ak, reduceIte]; simp [hb, hab, hr]) | (refine awp_cond ?_; simp [hb, hab, hr]; (try with_reducible refine ⟨?_, ?_⟩) <;> (try with_reducible intro hc) <;> try (exfalso; omega)) | ((first | (refine w_e [] ?_; intro J hJ; simp only []) | (refine w_q ?_; intro J hJ) | refine e_go ?_); simp [hb, hab, hr]; (repeat refine ca ?_); (try ((try with_reducible refine ⟨?_, ?_⟩) <;> (try with_reducible intro hnil) <;> refine hJ _ _ ?_ <;> clear hJ J <;> simp only [ak, reduceIte] <;> try subst hnil)))))
      exact hkp0.trans (Keeps.new _ _)
    rw [if_neg hab] at hbad
    (repeat' (first | refine awp_seq ?_ | refine awp_block ?_ | ((first | refine awp_skip ?_ | refine awp_exit ?_); simp only [ak, reduceIte]) | (refine awp_ret ?_; simp only [ak, reduceIte]; simp [hb, hab, f1, hnx, hgH]) | (refine awp_cond ?_; simp [hb, hab, f1, hnx, hgH]; (try with_reducible refine ⟨?_, ?_⟩) <;> (try with_reducible intro hc) <;> try (exfalso; omega)) | ((first | (refine w_e [] ?_; intro J hJ; simp only []) | (refine w_q ?_; intro J hJ) | refine e_go ?_); simp [hb, hab, f1, hnx, hgH]; (repeat refine ca ?_); (try ((try with_reducible refine ⟨?_, ?_⟩) <;> (try with_reducible intro hnil) <;> refine hJ _ _ ?_ <;> clear hJ J <;> simp only [ak, reduceIte] <;> try subst hnil)))))
    refine callK_ofE (Vert g xa _ hsm) (by simp []) ?_; rintro r st' ⟨rfl, hk1⟩
    have hB1 : st'.H st1.next = .box 55 3 [u xi, u xa, u xb] := by rw [hk1.H _ (by simp)]; simp
    have hgH1 : st'.H st.next = .box 25 2 (grL g) := by
      rw [hk1.H _ (by have := hkp.next; simp only [new_next] at this ⊢; omega), new_H, if_neg hnx]; exact hgH
    have hkp1 := (hkp.trans (Keeps.new _ _)).trans hk1
    have hkp01 := (hkp0.trans (Keeps.new _ _)).trans hk1
    by_cases hma : xa ∈ g.vs
    rotate_left
    · rw [gi_not hma]
      have hb' : badE g k = 21 := by rw [hbad, if_pos (.inl hma)]
      have hr : chk g = 21 := by rw [hch]; exact firstNZ_eq hlt hno hb' (by decide)
      (repeat' (first | refine awp_seq ?_ | refine awp_block ?_ | ((first | refine awp_skip ?_ | refine awp_exit ?_); simp only [ak, reduceIte]) | (refine awp_ret ?_; simp only [ak, reduceIte]; simp [f1, hB1, hgH1, hr]) | (refine awp_cond ?_; simp [f1, hB1, hgH1, hr]; (try with_reducible refine ⟨?_, ?_⟩) <;> (try with_reducible intro hc) <;> try (exfalso; omega)) | ((first | (refine w_e [] ?_; intro J hJ; simp only []) | (refine w_q ?_; intro J hJ) | refine e_go ?_); simp [f1, hB1, hgH1, hr]; (repeat refine ca ?_); (try ((try with_reducible refine ⟨?_, ?_⟩) <;> (try with_reducible intro hnil) <;> refine hJ _ _ ?_ <;> clear hJ J <;> simp only [ak, reduceIte] <;> try subst hnil)))))
      exact hkp01
    rw [gi_mem hma]
    have hn0 : ¬ ((g.vs.idxOf xa : Nat) : Int) < 0 := by omega
    (refine e_go ?_; simp [f1, hB1, hgH1, hn0]; (repeat refine ca ?_); (try ((try with_reducible refine ⟨?_, ?_⟩) <;> (try with_reducible intro hnil) <;> refine hJ _ _ ?_ <;> clear hJ J <;> simp only [ak, reduceIte] <;> try subst hnil)))
    refine callK_ofE (Vert g xb _ hsm) (by simp []) ?_; rintro r st' ⟨rfl, hk2⟩
    by_cases hmb : xb ∈ g.vs
    rotate_left
    · rw [gi_not hmb]
      have hb' : badE g k = 21 := by rw [hbad, if_pos (.inr hmb)]
      have hr : chk g = 21 := by rw [hch]; exact firstNZ_eq hlt hno hb' (by decide)
      (repeat' (first | refine awp_seq ?_ | refine awp_block ?_ | ((first | refine awp_skip ?_ | refine awp_exit ?_); simp only [ak, reduceIte]) | (refine awp_ret ?_; simp only [ak, reduceIte]; simp [hr]) | (refine awp_cond ?_; simp [hr]; (try with_reducible refine ⟨?_, ?_⟩) <;> (try with_reducible intro hc) <;> try (exfalso; omega)) | ((first | (refine w_e [] ?_; intro J hJ; simp only []) | (refine w_q ?_; intro J hJ) | refine e_go ?_); simp [hr]; (repeat refine ca ?_); (try ((try with_reducible refine ⟨?_, ?_⟩) <;> (try with_reducible intro hnil) <;> refine hJ _ _ ?_ <;> clear hJ J <;> simp only [ak, reduceIte] <;> try subst hnil)))))
      exact hkp01.trans hk2
    rw [gi_mem hmb]
    have hn1 : ¬ ((g.vs.idxOf xb : Nat) : Int) < 0 := by omega
    have hb' : badE g k = 0 := by rw [hbad, if_neg (by simp [hma, hmb])]
    (repeat' (first | refine awp_seq ?_ | refine awp_block ?_ | ((first | refine awp_skip ?_ | refine awp_exit ?_); simp only [ak, reduceIte]) | (refine awp_ret ?_; simp only [ak, reduceIte]; simp [f41, hw, hn1]) | (refine awp_cond ?_; simp [f41, hw, hn1]; (try with_reducible refine ⟨?_, ?_⟩) <;> (try with_reducible intro hc) <;> try (exfalso; omega)) | ((first | (refine w_e [] ?_; intro J hJ; simp only []) | (refine w_q ?_; intro J hJ) | refine e_go ?_); simp [f41, hw, hn1]; (repeat refine ca ?_); (try ((try with_reducible refine ⟨?_, ?_⟩) <;> (try with_reducible intro hnil) <;> refine hJ _ _ ?_ <;> clear hJ J <;> simp only [ak, reduceIte] <;> try subst hnil)))))
    refine hJJ _ _ _ ?_ ⟨k + 1, by omega, rfl, by simp [f1], by simp [f39], by simp [f40], by simp, ⟨xi, by simp, fun _ => by rw [Nat.add_sub_cancel, hx]⟩, hkp1.trans hk2, fun j hj => ?_⟩
    · omega
    · rcases Nat.lt_or_ge j k with h | h
      · exact hno j h
      · obtain rfl : j = k := by omega
        exact hb'
  · have hr : chk g = 0 := by rw [hch]; exact firstNZ_zero (fun j hj => hno j (by omega))
    clear hJJ
    (repeat' (first | refine awp_seq ?_ | refine awp_block ?_ | ((first | refine awp_skip ?_ | refine awp_exit ?_); simp only [ak, reduceIte]) | (refine awp_ret ?_; simp only [ak, reduceIte]; simp [f1, f39, f40, f41, f3, hlt, hr]) | (refine awp_cond ?_; simp [f1, f39, f40, f41, f3, hlt, hr]; (try with_reducible refine ⟨?_, ?_⟩) <;> (try with_reducible intro hc) <;> try (exfalso; omega)) | ((first | (refine w_e [] ?_; intro J hJ; simp only []) | (refine w_q ?_; intro J hJ) | refine e_go ?_); simp [f1, f39, f40, f41, f3, hlt, hr]; (repeat refine ca ?_); (try ((try with_reducible refine ⟨?_, ?_⟩) <;> (try with_reducible intro hnil) <;> refine hJ _ _ ?_ <;> clear hJ J <;> simp only [ak, reduceIte] <;> try subst hnil)))))
    exact hkp0

theorem ref_Check (g : Gr) (st : St) (hv : g.vs.length ≤ 1000) (he : g.es.length ≤ 1000) :
    ACalls Tryz.prog 39 [.ag (grL g)] st fun r st' => r = i (chk g) ∧ Keeps st st' := by
  have hsm : small g.vs := by unfold small; omega
  refine acalls_of_body tabOk Tryz.func39 rfl rfl Tryz.ntmps39 (rs := [.tmp 2]) rfl (by simp) ?_
  by_cases h1 : (64 : Int) < (g.vs.length : Int)
  · have : chk g = 6 := by unfold chk; rw [if_pos (by omega)]
    (repeat' (first | refine awp_seq ?_ | refine awp_block ?_ | ((first | refine awp_skip ?_ | refine awp_exit ?_); simp only [ak, reduceIte]) | (refine awp_ret ?_; simp only [ak, reduceIte]; simp [h1, this]) | (refine awp_cond ?_; simp [h1, this]; (try with_reducible refine ⟨?_, ?_⟩) <;> (try with_reducible intro hc) <;> try (exfalso; omega)) | ((first | (refine w_e [] ?_; intro J hJ; simp only []) | (refine w_q ?_; intro J hJ) | refine e_go ?_); simp [h1, this]; (repeat refine ca ?_); (try ((try with_reducible refine ⟨?_, ?_⟩) <;> (try with_reducible intro hnil) <;> refine hJ _ _ ?_ <;> clear hJ J <;> simp only [ak, reduceIte] <;> try subst hnil)))))
    exact Keeps.new _ _
  by_cases h2 : (160 : Int) < (g.es.length : Int)
  · have : chk g = 6 := by unfold chk; rw [if_pos (by omega)]
    (repeat' (first | refine awp_seq ?_ | refine awp_block ?_ | ((first | refine awp_skip ?_ | refine awp_exit ?_); simp only [ak, reduceIte]) | (refine awp_ret ?_; simp only [ak, reduceIte]; simp [h1, h2, this]) | (refine awp_cond ?_; simp [h1, h2, this]; (try with_reducible refine ⟨?_, ?_⟩) <;> (try with_reducible intro hc) <;> try (exfalso; omega)) | ((first | (refine w_e [] ?_; intro J hJ; simp only []) | (refine w_q ?_; intro J hJ) | refine e_go ?_); simp [h1, h2, this]; (repeat refine ca ?_); (try ((try with_reducible refine ⟨?_, ?_⟩) <;> (try with_reducible intro hnil) <;> refine hJ _ _ ?_ <;> clear hJ J <;> simp only [ak, reduceIte] <;> try subst hnil)))))
    exact Keeps.new _ _
  have hch : chk g = if firstNZ (badV g) g.vs.length ≠ 0 then firstNZ (badV g) g.vs.length else firstNZ (badE g) g.es.length := by unfold chk; rw [if_neg (by omega)]
  (repeat' (first | refine awp_seq ?_ | refine awp_block ?_ | ((first | refine awp_skip ?_ | refine awp_exit ?_); simp only [ak, reduceIte]) | (refine awp_ret ?_; simp only [ak, reduceIte]; simp [h1, h2]) | (refine awp_cond ?_; simp [h1, h2]; (try with_reducible refine ⟨?_, ?_⟩) <;> (try with_reducible intro hc) <;> try (exfalso; omega)) | ((first | (refine w_e [] ?_; intro J hJ; simp only []) | (refine w_q ?_; intro J hJ) | refine e_go ?_); simp [h1, h2]; (repeat refine ca ?_); (try ((try with_reducible refine ⟨?_, ?_⟩) <;> (try with_reducible intro hnil) <;> refine hJ _ _ ?_ <;> clear hJ J <;> simp only [ak, reduceIte] <;> try subst hnil)))))
  refine awp_loop (fun n fr st' => ∃ k : Nat, k ≤ g.vs.length ∧ n = g.vs.length - k ∧ fr 1 = .pt st.next 0 ∧ fr 18 = .sl 0 g.vs.length (us g.vs) ∧ fr 19 = i g.vs.length ∧ fr 20 = i k ∧ st' = st.new (.box 25 2 (grL g)) ∧ ∀ j, j < k → badV g j = 0) g.vs.length ?_ ?_
  · exact ⟨0, by omega, by omega, by simp, by simp, by simp, by simp, rfl, fun j h => by omega⟩
  rintro n fr st' ⟨k, hk, rfl, f1, f18, f19, f20, rfl, hno⟩ JJ hJJ
  by_cases hlt : k < g.vs.length
  · have hd := us_drop_getD g.vs k hlt
    have hw := nat_add_one k (by omega)
    have hbad : badV g k = numb (g.vs.getD k 0) (g.vs.getD (k - 1) 0) (decide (k = 0)) := rfl
    have hnext : badV g k = 0 → ∀ j, j < k + 1 → badV g j = 0 := fun hb j hj => by
      rcases Nat.lt_or_ge j k with h | h
      · exact hno j h
      · obtain rfl : j = k := by omega
        exact hb
    have hret : ∀ v, badV g k = v → v ≠ 0 → chk g = v := fun v h0 h1 => by
      have hf := firstNZ_eq hlt hno h0 h1
      rw [hch, hf, if_pos h1]
    generalize hx : g.vs.getD k 0 = x at *
    by_cases hx1 : x < 1
    · have hr := hret 2 (by rw [hbad]; unfold numb; rw [if_pos (.inl hx1)]) (by decide)
      (repeat' (first | refine awp_seq ?_ | refine awp_block ?_ | ((first | refine awp_skip ?_ | refine awp_exit ?_); simp only [ak, reduceIte]) | (refine awp_ret ?_; simp only [ak, reduceIte]; simp [f1, f18, f19, f20, hlt, hd, hw, hx1, hr]) | (refine awp_cond ?_; simp [f1, f18, f19, f20, hlt, hd, hw, hx1, hr]; (try with_reducible refine ⟨?_, ?_⟩) <;> (try with_reducible intro hc) <;> try (exfalso; omega)) | ((first | (refine w_e [] ?_; intro J hJ; simp only []) | (refine w_q ?_; intro J hJ) | refine e_go ?_); simp [f1, f18, f19, f20, hlt, hd, hw, hx1, hr]; (repeat refine ca ?_); (try ((try with_reducible refine ⟨?_, ?_⟩) <;> (try with_reducible intro hnil) <;> refine hJ _ _ ?_ <;> clear hJ J <;> simp only [ak, reduceIte] <;> try subst hnil)))))
      exact Keeps.new _ _
    by_cases hx2 : 1048576 < x
    · have hr := hret 2 (by rw [hbad]; unfold numb; rw [if_pos (.inr hx2)]) (by decide)
      (repeat' (first | refine awp_seq ?_ | refine awp_block ?_ | ((first | refine awp_skip ?_ | refine awp_exit ?_); simp only [ak, reduceIte]) | (refine awp_ret ?_; simp only [ak, reduceIte]; simp [f1, f18, f19, f20, hlt, hd, hw, hx1, hx2, hr]) | (refine awp_cond ?_; simp [f1, f18, f19, f20, hlt, hd, hw, hx1, hx2, hr]; (try with_reducible refine ⟨?_, ?_⟩) <;> (try with_reducible intro hc) <;> try (exfalso; omega)) | ((first | (refine w_e [] ?_; intro J hJ; simp only []) | (refine w_q ?_; intro J hJ) | refine e_go ?_); simp [f1, f18, f19, f20, hlt, hd, hw, hx1, hx2, hr]; (repeat refine ca ?_); (try ((try with_reducible refine ⟨?_, ?_⟩) <;> (try with_reducible intro hnil) <;> refine hJ _ _ ?_ <;> clear hJ J <;> simp only [ak, reduceIte] <;> try subst hnil)))))
      exact Keeps.new _ _
    by_cases h0 : k = 0
    · have hb : badV g k = 0 := by rw [hbad]; unfold numb; rw [if_neg (by simp [hx1, hx2])]; simp [h0]
      have hk0 : ¬ 0 < k := by omega
      (repeat' (first | refine awp_seq ?_ | refine awp_block ?_ | ((first | refine awp_skip ?_ | refine awp_exit ?_); simp only [ak, reduceIte]) | (refine awp_ret ?_; simp only [ak, reduceIte]; simp [f1, f18, f19, f20, hlt, hd, hw, hx1, hx2, hk0]) | (refine awp_cond ?_; simp [f1, f18, f19, f20, hlt, hd, hw, hx1, hx2, hk0]; (try with_reducible refine ⟨?_, ?_⟩) <;> (try with_reducible intro hc) <;> try (exfalso; omega)) | ((first | (refine w_e [] ?_; intro J hJ; simp only []) | (refine w_q ?_; intro J hJ) | refine e_go ?_); simp [f1, f18, f19, f20, hlt, hd, hw, hx1, hx2, hk0]; (repeat refine ca ?_); (try ((try with_reducible refine ⟨?_, ?_⟩) <;> (try with_reducible intro hnil) <;> refine hJ _ _ ?_ <;> clear hJ J <;> simp only [ak, reduceIte] <;> try subst hnil)))))
      refine hJJ _ _ _ ?_ ⟨k + 1, by omega, rfl, by simp [f1], by simp [f18], by simp [f19], by simp, rfl, hnext hb⟩
      omega
    · have hk0 : 0 < k := by omega
      have hw1 : IntKind.i64.wrap ((k : Int) - 1) = ((k - 1 : Nat) : Int) := by rw [wrap_i64 _ (by omega) (by omega)]; omega
      have hd1 := us_drop_getD g.vs (k - 1) (by omega)
      have hlt1 : k - 1 < g.vs.length := by omega
      generalize hy : g.vs.getD (k - 1) 0 = y at *
      by_cases hle : x ≤ y
      · have hr := hret 19 (by rw [hbad]; unfold numb; rw [if_neg (by simp [hx1, hx2]), if_pos ⟨by simp [h0], hle⟩]) (by decide)
        (repeat' (first | refine awp_seq ?_ | refine awp_block ?_ | ((first | refine awp_skip ?_ | refine awp_exit ?_); simp only [ak, reduceIte]) | (refine awp_ret ?_; simp only [ak, reduceIte]; simp [f1, f18, f19, f20, hlt, hd, hw, hx1, hx2, hk0, hw1, hd1, hlt1, hle, hr]) | (refine awp_cond ?_; simp [f1, f18, f19, f20, hlt, hd, hw, hx1, hx2, hk0, hw1, hd1, hlt1, hle, hr]; (try with_reducible refine ⟨?_, ?_⟩) <;> (try with_reducible intro hc) <;> try (exfalso; omega)) | ((first | (refine w_e [] ?_; intro J hJ; simp only []) | (refine w_q ?_; intro J hJ) | refine e_go ?_); simp [f1, f18, f19, f20, hlt, hd, hw, hx1, hx2, hk0, hw1, hd1, hlt1, hle, hr]; (repeat refine ca ?_); (try ((try with_reducible refine ⟨?_, ?_⟩) <;> (try with_reducible intro hnil) <;> refine hJ _ _ ?_ <;> clear hJ J <;> simp only [ak, reduceIte] <;> try subst hnil)))))
        exact Keeps.new _ _
      · have hb : badV g k = 0 := by rw [hbad]; unfold numb; rw [if_neg (by simp [hx1, hx2]), if_neg (by simp [hle])]
        (repeat' (first | refine awp_seq ?_ | refine awp_block ?_ | ((first | refine awp_skip ?_ | refine awp_exit ?_); simp only [ak, reduceIte]) | (refine awp_ret ?_; simp only [ak, reduceIte]; simp [f1, f18, f19, f20, hlt, hd, hw, hx1, hx2, hk0, hw1, hd1, hlt1, hle]) | (refine awp_cond ?_; simp [f1, f18, f19, f20, hlt, hd, hw, hx1, hx2, hk0, hw1, hd1, hlt1, hle]; (try with_reducible refine ⟨?_, ?_⟩) <;> (try with_reducible intro hc) <;> try (exfalso; omega)) | ((first | (refine w_e [] ?_; intro J hJ; simp only []) | (refine w_q ?_; intro J hJ) | refine e_go ?_); simp [f1, f18, f19, f20, hlt, hd, hw, hx1, hx2, hk0, hw1, hd1, hlt1, hle]; (repeat refine ca ?_); (try ((try with_reducible refine ⟨?_, ?_⟩) <;> (try with_reducible intro hnil) <;> refine hJ _ _ ?_ <;> clear hJ J <;> simp only [ak, reduceIte] <;> try subst hnil)))))
        refine hJJ _ _ _ ?_ ⟨k + 1, by omega, rfl, by simp [f1], by simp [f18], by simp [f19], by simp, rfl, hnext hb⟩
        omega
  have hk' : k = g.vs.length := by omega
  have hz : firstNZ (badV g) g.vs.length = 0 := firstNZ_zero (fun j hj => hno j (by omega))
  rw [hz] at hch
  simp only [ne_eq, not_true_eq_false, if_false] at hch
  clear hJJ hno hz
  have hel := eds_length g.es
  (repeat' (first | refine awp_seq ?_ | refine awp_block ?_ | ((first | refine awp_skip ?_ | refine awp_exit ?_); simp only [ak, reduceIte]) | (refine awp_ret ?_; simp only [ak, reduceIte]; simp [f1, f18, f19, f20, hlt]) | (refine awp_cond ?_; simp [f1, f18, f19, f20, hlt]; (try with_reducible refine ⟨?_, ?_⟩) <;> (try with_reducible intro hc) <;> try (exfalso; omega)) | ((first | (refine w_e [] ?_; intro J hJ; simp only []) | (refine w_q ?_; intro J hJ) | refine e_go ?_); simp [f1, f18, f19, f20, hlt]; (repeat refine ca ?_); (try ((try with_reducible refine ⟨?_, ?_⟩) <;> (try with_reducible intro hnil) <;> refine hJ _ _ ?_ <;> clear hJ J <;> simp only [ak, reduceIte] <;> try subst hnil)))))
  refine awp_loop (fun n fr st' => ∃ k : Nat, k ≤ g.es.length ∧ n = g.es.length - k ∧ fr 1 = .pt st.next 0 ∧ fr 45 = .sl 0 g.es.length (eds g.es) ∧ fr 46 = i g.es.length ∧ fr 47 = i k ∧ Keeps (st.new (.box 25 2 (grL g))) st' ∧ ∀ j, j < k → badE g j = 0) g.es.length ?_ ?_
  · exact ⟨0, by omega, by omega, by simp [f1], by simp, by simp, by simp, Keeps.refl _, fun j h => by omega⟩
  clear f1 f18 f19 f20 hlt hk' hk fr k
  rintro n fr st1 ⟨k, hk, rfl, f1, f45, f46, f47, hkp, hno⟩ JJ hJJ
  have hgH : st1.H st.next = .box 25 2 (grL g) := by rw [hkp.H _ (by simp)]; simp
  have hnx : ¬ st.next = st1.next := by have := hkp.next; simp only [new_next] at this; omega
  have hkp0 := (Keeps.new st (.box 25 2 (grL g))).trans hkp
  by_cases hlt : k < g.es.length
  · have hd := eds_drop g.es k hlt
    have hw := nat_add_one k (by omega)
    have hk3 : k * 3 < g.es.length * 3 := by omega
    have hbad : badE g k = (let x := g.es.getD k ed0; let n := numb x.id (g.es.getD (k - 1) ed0).id (decide (k = 0)); if n ≠ 0 then n else if x.a = x.b then 20 else if x.a ∉ g.vs ∨ x.b ∉ g.vs then 21 else 0) := rfl
    have hnext : badE g k = 0 → ∀ j, j < k + 1 → badE g j = 0 := fun hb j hj => by
      rcases Nat.lt_or_ge j k with h | h
      · exact hno j h
      · obtain rfl : j = k := by omega
        exact hb
    have hret : ∀ v, badE g k = v → v ≠ 0 → chk g = v := fun v h0 h1 => by
      rw [hch]; exact firstNZ_eq hlt hno h0 h1
    generalize hx : g.es.getD k ed0 = x at *
    obtain ⟨xi, xa, xb⟩ := x
    simp only at hd hbad
    have hkn := hkp0.trans (Keeps.new _ (.box 55 3 [u xi, u xa, u xb]))
    by_cases hx1 : xi < 1
    · have hn : numb xi (g.es.getD (k - 1) ed0).id (decide (k = 0)) = 2 := by unfold numb; rw [if_pos (.inl hx1)]
      have hr := hret 2 (by rw [hbad, hn]; rfl) (by decide)
      (repeat' (first | refine awp_seq ?_ | refine awp_block ?_ | ((first | refine awp_skip ?_ | refine awp_exit ?_); simp only [ak, reduceIte]) | (refine awp_ret ?_; simp only [ak, reduceIte]; simp [f1, f45, f46, f47, hlt, hd, hw, hel, hk3, hgH, hnx, hx1, hr]) | (refine awp_cond ?_; simp [f1, f45, f46, f47, hlt, hd, hw, hel, hk3, hgH, hnx, hx1, hr]; (try with_reducible refine ⟨?_, ?_⟩) <;> (try with_reducible intro hc) <;> try (exfalso; omega)) | ((first | (refine w_e [] ?_; intro J hJ; simp only []) | (refine w_q ?_; intro J hJ) | refine e_go ?_); simp [f1, f45, f46, f47, hlt, hd, hw, hel, hk3, hgH, hnx, hx1, hr]; (repeat refine ca ?_); (try ((try with_reducible refine ⟨?_, ?_⟩) <;> (try with_reducible intro hnil) <;> refine hJ _ _ ?_ <;> clear hJ J <;> simp only [ak, reduceIte] <;> try subst hnil)))))
      exact hkn
    by_cases hx2 : 1048576 < xi
    · have hn : numb xi (g.es.getD (k - 1) ed0).id (decide (k = 0)) = 2 := by unfold numb; rw [if_pos (.inr hx2)]
      have hr := hret 2 (by rw [hbad, hn]; rfl) (by decide)
      (repeat' (first | refine awp_seq ?_ | refine awp_block ?_ | ((first | refine awp_skip ?_ | refine awp_exit ?_); simp only [ak, reduceIte]) | (refine awp_ret ?_; simp only [ak, reduceIte]; simp [f1, f45, f46, f47, hlt, hd, hw, hel, hk3, hgH, hnx, hx1, hx2, hr]) | (refine awp_cond ?_; simp [f1, f45, f46, f47, hlt, hd, hw, hel, hk3, hgH, hnx, hx1, hx2, hr]; (try with_reducible refine ⟨?_, ?_⟩) <;> (try with_reducible intro hc) <;> try (exfalso; omega)) | ((first | (refine w_e [] ?_; intro J hJ; simp only []) | (refine w_q ?_; intro J hJ) | refine e_go ?_); simp [f1, f45, f46, f47, hlt, hd, hw, hel, hk3, hgH, hnx, hx1, hx2, hr]; (repeat refine ca ?_); (try ((try with_reducible refine ⟨?_, ?_⟩) <;> (try with_reducible intro hnil) <;> refine hJ _ _ ?_ <;> clear hJ J <;> simp only [ak, reduceIte] <;> try subst hnil)))))
      exact hkn
    by_cases hnb : numb xi (g.es.getD (k - 1) ed0).id (decide (k = 0)) = 0
    rotate_left
    · -- the number doesn't rise
      have h0 : k ≠ 0 := by rintro rfl; apply hnb; unfold numb; rw [if_neg (by simp [hx1, hx2])]; simp
      have hle : xi ≤ (g.es.getD (k - 1) ed0).id := by
        unfold numb at hnb
        rw [if_neg (by simp [hx1, hx2])] at hnb
        by_cases h : decide (k = 0) = false ∧ xi ≤ (g.es.getD (k - 1) ed0).id
        · exact h.2
        · rw [if_neg h] at hnb; exact absurd rfl hnb
      have hn : numb xi (g.es.getD (k - 1) ed0).id (decide (k = 0)) = 19 := by unfold numb; rw [if_neg (by simp [hx1, hx2]), if_pos ⟨by simp [h0], hle⟩]
      have hr := hret 19 (by rw [hbad, hn]; rfl) (by decide)
      have hk0 : 0 < k := by omega
      have hw1 : IntKind.i64.wrap ((k : Int) - 1) = ((k - 1 : Nat) : Int) := by rw [wrap_i64 _ (by omega) (by omega)]; omega
      have hd1 := eds_drop g.es (k - 1) (by omega)
      have hlt1 : k - 1 < g.es.length := by omega
      have hlt3 : (k - 1) * 3 < g.es.length * 3 := by omega
      generalize hy : g.es.getD (k - 1) ed0 = y at *
      obtain ⟨yi, ya, yb⟩ := y
      simp only at hd1 hle
      (repeat' (first | refine awp_seq ?_ | refine awp_block ?_ | ((first | refine awp_skip ?_ | refine awp_exit ?_); simp only [ak, reduceIte]) | (refine awp_ret ?_; simp only [ak, reduceIte]; simp [f1, f45, f46, f47, hlt, hd, hw, hel, hk3, hgH, hnx, hx1, hx2, hk0, hw1, hd1, hlt1, hlt3, hle, hr]) | (refine awp_cond ?_; simp [f1, f45, f46, f47, hlt, hd, hw, hel, hk3, hgH, hnx, hx1, hx2, hk0, hw1, hd1, hlt1, hlt3, hle, hr]; (try with_reducible refine ⟨?_, ?_⟩) <;> (try with_reducible intro hc) <;> try (exfalso; omega)) | ((first | (refine w_e [] ?_; intro J hJ; simp only []) | (refine w_q ?_; intro J hJ) | refine e_go ?_); simp [f1, f45, f46, f47, hlt, hd, hw, hel, hk3, hgH, hnx, hx1, hx2, hk0, hw1, hd1, hlt1, hlt3, hle, hr]; (repeat refine ca ?_); (try ((try with_reducible refine ⟨?_, ?_⟩) <;> (try with_reducible intro hnil) <;> refine hJ _ _ ?_ <;> clear hJ J <;> simp only [ak, reduceIte] <;> try subst hnil)))))
      exact hkn
    rw [if_neg (fun h => h hnb)] at hbad
    by_cases hab : xa = xb
    · have hr := hret 20 (by rw [hbad, if_pos hab]) (by decide)
      by_cases h0 : k = 0
      · have hk0 : ¬ 0 < k := by omega
        (repeat' (first | refine awp_seq ?_ | refine awp_block ?_ | ((first | refine awp_skip ?_ | refine awp_exit ?_); simp only [ak, reduceIte]) | (refine awp_ret ?_; simp only [ak, reduceIte]; simp [f1, f45, f46, f47, hlt, hd, hw, hel, hk3, hgH, hnx, hx1, hx2, hk0, hab, hr]) | (refine awp_cond ?_; simp [f1, f45, f46, f47, hlt, hd, hw, hel, hk3, hgH, hnx, hx1, hx2, hk0, hab, hr]; (try with_reducible refine ⟨?_, ?_⟩) <;> (try with_reducible intro hc) <;> try (exfalso; omega)) | ((first | (refine w_e [] ?_; intro J hJ; simp only []) | (refine w_q ?_; intro J hJ) | refine e_go ?_); simp [f1, f45, f46, f47, hlt, hd, hw, hel, hk3, hgH, hnx, hx1, hx2, hk0, hab, hr]; (repeat refine ca ?_); (try ((try with_reducible refine ⟨?_, ?_⟩) <;> (try with_reducible intro hnil) <;> refine hJ _ _ ?_ <;> clear hJ J <;> simp only [ak, reduceIte] <;> try subst hnil)))))
        exact hkp0.trans (Keeps.new _ _)
      · have hk0 : 0 < k := by omega
        have hw1 : IntKind.i64.wrap ((k : Int) - 1) = ((k - 1 : Nat) : Int) := by rw [wrap_i64 _ (by omega) (by omega)]; omega
        have hd1 := eds_drop g.es (k - 1) (by omega)
        have hlt1 : k - 1 < g.es.length := by omega
        have hlt3 : (k - 1) * 3 < g.es.length * 3 := by omega
        have hle : ¬ xi ≤ (g.es.getD (k - 1) ed0).id := by
          intro h
          unfold numb at hnb
          rw [if_neg (by simp [hx1, hx2]), if_pos ⟨by simp [h0], h⟩] at hnb
          cases hnb
        generalize hy : g.es.getD (k - 1) ed0 = y at *
        obtain ⟨yi, ya, yb⟩ := y
        simp only at hd1 hle
        (repeat' (first | refine awp_seq ?_ | refine awp_block ?_ | ((first | refine awp_skip ?_ | refine awp_exit ?_); simp only [ak, reduceIte]) | (refine awp_ret ?_; simp only [ak, reduceIte]; simp [f1, f45, f46, f47, hlt, hd, hw, hel, hk3, hgH, hnx, hx1, hx2, hk0, hw1, hd1, hlt1, hlt3, hle, hab, hr]) | (refine awp_cond ?_; simp [f1, f45, f46, f47, hlt, hd, hw, hel, hk3, hgH, hnx, hx1, hx2, hk0, hw1, hd1, hlt1, hlt3, hle, hab, hr]; (try with_reducible refine ⟨?_, ?_⟩) <;> (try with_reducible intro hc) <;> try (exfalso; omega)) | ((first | (refine w_e [] ?_; intro J hJ; simp only []) | (refine w_q ?_; intro J hJ) | refine e_go ?_); simp [f1, f45, f46, f47, hlt, hd, hw, hel, hk3, hgH, hnx, hx1, hx2, hk0, hw1, hd1, hlt1, hlt3, hle, hab, hr]; (repeat refine ca ?_); (try ((try with_reducible refine ⟨?_, ?_⟩) <;> (try with_reducible intro hnil) <;> refine hJ _ _ ?_ <;> clear hJ J <;> simp only [ak, reduceIte] <;> try subst hnil)))))
        exact hkp0.trans (Keeps.new _ _)
    rw [if_neg hab] at hbad
    by_cases h0 : k = 0
    · have hk0 : ¬ 0 < k := by omega
      (repeat' (first | refine awp_seq ?_ | refine awp_block ?_ | ((first | refine awp_skip ?_ | refine awp_exit ?_); simp only [ak, reduceIte]) | (refine awp_ret ?_; simp only [ak, reduceIte]; simp [f1, f45, f46, f47, hlt, hd, hw, hel, hk3, hgH, hnx, hx1, hx2, hk0, hab]) | (refine awp_cond ?_; simp [f1, f45, f46, f47, hlt, hd, hw, hel, hk3, hgH, hnx, hx1, hx2, hk0, hab]; (try with_reducible refine ⟨?_, ?_⟩) <;> (try with_reducible intro hc) <;> try (exfalso; omega)) | ((first | (refine w_e [] ?_; intro J hJ; simp only []) | (refine w_q ?_; intro J hJ) | refine e_go ?_); simp [f1, f45, f46, f47, hlt, hd, hw, hel, hk3, hgH, hnx, hx1, hx2, hk0, hab]; (repeat refine ca ?_); (try ((try with_reducible refine ⟨?_, ?_⟩) <;> (try with_reducible intro hnil) <;> refine hJ _ _ ?_ <;> clear hJ J <;> simp only [ak, reduceIte] <;> try subst hnil)))))
      refine callK_ofE (Has g xa _ hsm) (by simp []) ?_; rintro r st' ⟨rfl, hk1⟩
      have hB1 : st'.H st1.next = .box 55 3 [u xi, u xa, u xb] := by rw [hk1.H _ (by simp)]; simp
      have hgH1 : st'.H st.next = .box 25 2 (grL g) := by
        rw [hk1.H _ (by have := hkp.next; simp only [new_next] at this ⊢; omega), new_H, if_neg hnx]; exact hgH
      have hkp1 := (hkp.trans (Keeps.new _ _)).trans hk1
      have hkp01 := (hkp0.trans (Keeps.new _ _)).trans hk1
      by_cases hma : xa ∈ g.vs
      rotate_left
      · have hr := hret 21 (by rw [hbad, if_pos (.inl hma)]) (by decide)
        (repeat' (first | refine awp_seq ?_ | refine awp_block ?_ | ((first | refine awp_skip ?_ | refine awp_exit ?_); simp only [ak, reduceIte]) | (refine awp_ret ?_; simp only [ak, reduceIte]; simp [f1, hB1, hgH1, hr, hma]) | (refine awp_cond ?_; simp [f1, hB1, hgH1, hr, hma]; (try with_reducible refine ⟨?_, ?_⟩) <;> (try with_reducible intro hc) <;> try (exfalso; omega)) | ((first | (refine w_e [] ?_; intro J hJ; simp only []) | (refine w_q ?_; intro J hJ) | refine e_go ?_); simp [f1, hB1, hgH1, hr, hma]; (repeat refine ca ?_); (try ((try with_reducible refine ⟨?_, ?_⟩) <;> (try with_reducible intro hnil) <;> refine hJ _ _ ?_ <;> clear hJ J <;> simp only [ak, reduceIte] <;> try subst hnil)))))
        exact hkp01
      (refine e_go ?_; simp [f1, hB1, hgH1, hma]; (repeat refine ca ?_); (try ((try with_reducible refine ⟨?_, ?_⟩) <;> (try with_reducible intro hnil) <;> refine hJ _ _ ?_ <;> clear hJ J <;> simp only [ak, reduceIte] <;> try subst hnil)))
      refine callK_ofE (Has g xb _ hsm) (by simp []) ?_; rintro r st' ⟨rfl, hk2⟩
      by_cases hmb : xb ∈ g.vs
      rotate_left
      · have hr := hret 21 (by rw [hbad, if_pos (.inr hmb)]) (by decide)
        (repeat' (first | refine awp_seq ?_ | refine awp_block ?_ | ((first | refine awp_skip ?_ | refine awp_exit ?_); simp only [ak, reduceIte]) | (refine awp_ret ?_; simp only [ak, reduceIte]; simp [hr, hmb]) | (refine awp_cond ?_; simp [hr, hmb]; (try with_reducible refine ⟨?_, ?_⟩) <;> (try with_reducible intro hc) <;> try (exfalso; omega)) | ((first | (refine w_e [] ?_; intro J hJ; simp only []) | (refine w_q ?_; intro J hJ) | refine e_go ?_); simp [hr, hmb]; (repeat refine ca ?_); (try ((try with_reducible refine ⟨?_, ?_⟩) <;> (try with_reducible intro hnil) <;> refine hJ _ _ ?_ <;> clear hJ J <;> simp only [ak, reduceIte] <;> try subst hnil)))))
        exact hkp01.trans hk2
      have hb' : badE g k = 0 := by rw [hbad, if_neg (by simp [hma, hmb])]
      (repeat' (first | refine awp_seq ?_ | refine awp_block ?_ | ((first | refine awp_skip ?_ | refine awp_exit ?_); simp only [ak, reduceIte]) | (refine awp_ret ?_; simp only [ak, reduceIte]; simp [f47, hw, hmb]) | (refine awp_cond ?_; simp [f47, hw, hmb]; (try with_reducible refine ⟨?_, ?_⟩) <;> (try with_reducible intro hc) <;> try (exfalso; omega)) | ((first | (refine w_e [] ?_; intro J hJ; simp only []) | (refine w_q ?_; intro J hJ) | refine e_go ?_); simp [f47, hw, hmb]; (repeat refine ca ?_); (try ((try with_reducible refine ⟨?_, ?_⟩) <;> (try with_reducible intro hnil) <;> refine hJ _ _ ?_ <;> clear hJ J <;> simp only [ak, reduceIte] <;> try subst hnil)))))
      refine hJJ _ _ _ ?_ ⟨k + 1, by omega, rfl, by simp [f1], by simp [f45], by simp [f46], by simp, hkp1.trans hk2, hnext hb'⟩
      omega
    · have hk0 : 0 < k := by omega
      have hw1 : IntKind.i64.wrap ((k : Int) - 1) = ((k - 1 : Nat) : Int) := by rw [wrap_i64 _ (by omega) (by omega)]; omega
      have hd1 := eds_drop g.es (k - 1) (by omega)
      have hlt1 : k - 1 < g.es.length := by omega
      have hlt3 : (k - 1) * 3 < g.es.length * 3 := by omega
      have hle : ¬ xi ≤ (g.es.getD (k - 1) ed0).id := by
        intro h
        unfold numb at hnb
        rw [if_neg (by simp [hx1, hx2]), if_pos ⟨by simp [h0], h⟩] at hnb
        cases hnb
      generalize hy : g.es.getD (k - 1) ed0 = y at *
      obtain ⟨yi, ya, yb⟩ := y
      simp only at hd1 hle
      (repeat' (first | refine awp_seq ?_ | refine awp_block ?_ | ((first | refine awp_skip ?_ | refine awp_exit ?_); simp only [ak, reduceIte]) | (refine awp_ret ?_; simp only [ak, reduceIte]; simp [f1, f45, f46, f47, hlt, hd, hw, hel, hk3, hgH, hnx, hx1, hx2, hk0, hw1, hd1, hlt1, hlt3, hle, hab]) | (refine awp_cond ?_; simp [f1, f45, f46, f47, hlt, hd, hw, hel, hk3, hgH, hnx, hx1, hx2, hk0, hw1, hd1, hlt1, hlt3, hle, hab]; (try with_reducible refine ⟨?_, ?_⟩) <;> (try with_reducible intro hc) <;> try (exfalso; omega)) | ((first | (refine w_e [] ?_; intro J hJ; simp only []) | (refine w_q ?_; intro J hJ) | refine e_go ?_); simp [f1, f45, f46, f47, hlt, hd, hw, hel, hk3, hgH, hnx, hx1, hx2, hk0, hw1, hd1, hlt1, hlt3, hle, hab]; (repeat refine ca ?_); (try ((try with_reducible refine ⟨?_, ?_⟩) <;> (try with_reducible intro hnil) <;> refine hJ _ _ ?_ <;> clear hJ J <;> simp only [ak, reduceIte] <;> try subst hnil)))))
      refine callK_ofE (Has g xa _ hsm) (by simp []) ?_; rintro r st' ⟨rfl, hk1⟩
      have hB1 : st'.H st1.next = .box 55 3 [u xi, u xa, u xb] := by rw [hk1.H _ (by simp)]; simp
      have hgH1 : st'.H st.next = .box 25 2 (grL g) := by
        rw [hk1.H _ (by have := hkp.next; simp only [new_next] at this ⊢; omega), new_H, if_neg hnx]; exact hgH
      have hkp1 := (hkp.trans (Keeps.new _ _)).trans hk1
      have hkp01 := (hkp0.trans (Keeps.new _ _)).trans hk1
      by_cases hma : xa ∈ g.vs
      rotate_left
      · have hr := hret 21 (by rw [hbad, if_pos (.inl hma)]) (by decide)
        (repeat' (first | refine awp_seq ?_ | refine awp_block ?_ | ((first | refine awp_skip ?_ | refine awp_exit ?_); simp only [ak, reduceIte]) | (refine awp_ret ?_; simp only [ak, reduceIte]; simp [f1, hB1, hgH1, hr, hma]) | (refine awp_cond ?_; simp [f1, hB1, hgH1, hr, hma]; (try with_reducible refine ⟨?_, ?_⟩) <;> (try with_reducible intro hc) <;> try (exfalso; omega)) | ((first | (refine w_e [] ?_; intro J hJ; simp only []) | (refine w_q ?_; intro J hJ) | refine e_go ?_); simp [f1, hB1, hgH1, hr, hma]; (repeat refine ca ?_); (try ((try with_reducible refine ⟨?_, ?_⟩) <;> (try with_reducible intro hnil) <;> refine hJ _ _ ?_ <;> clear hJ J <;> simp only [ak, reduceIte] <;> try subst hnil)))))
        exact hkp01
      (refine e_go ?_; simp [f1, hB1, hgH1, hma]; (repeat refine ca ?_); (try ((try with_reducible refine ⟨?_, ?_⟩) <;> (try with_reducible intro hnil) <;> refine hJ _ _ ?_ <;> clear hJ J <;> simp only [ak, reduceIte] <;> try subst hnil)))
      refine callK_ofE (Has g xb _ hsm) (by simp []) ?_; rintro r st' ⟨rfl, hk2⟩
      by_cases hmb : xb ∈ g.vs
      rotate_left
      · have hr := hret 21 (by rw [hbad, if_pos (.inr hmb)]) (by decide)
        (repeat' (first | refine awp_seq ?_ | refine awp_block ?_ | ((first | refine awp_skip ?_ | refine awp_exit ?_); simp only [ak, reduceIte]) | (refine awp_ret ?_; simp only [ak, reduceIte]; simp [hr, hmb]) | (refine awp_cond ?_; simp [hr, hmb]; (try with_reducible refine ⟨?_, ?_⟩) <;> (try with_reducible intro hc) <;> try (exfalso; omega)) | ((first | (refine w_e [] ?_; intro J hJ; simp only []) | (refine w_q ?_; intro J hJ) | refine e_go ?_); simp [hr, hmb]; (repeat refine ca ?_); (try ((try with_reducible refine ⟨?_, ?_⟩) <;> (try with_reducible intro hnil) <;> refine hJ _ _ ?_ <;> clear hJ J <;> simp only [ak, reduceIte] <;> try subst hnil)))))
        exact hkp01.trans hk2
      have hb' : badE g k = 0 := by rw [hbad, if_neg (by simp [hma, hmb])]
      (repeat' (first | refine awp_seq ?_ | refine awp_block ?_ | ((first | refine awp_skip ?_ | refine awp_exit ?_); simp only [ak, reduceIte]) | (refine awp_ret ?_; simp only [ak, reduceIte]; simp [f47, hw, hmb]) | (refine awp_cond ?_; simp [f47, hw, hmb]; (try with_reducible refine ⟨?_, ?_⟩) <;> (try with_reducible intro hc) <;> try (exfalso; omega)) | ((first | (refine w_e [] ?_; intro J hJ; simp only []) | (refine w_q ?_; intro J hJ) | refine e_go ?_); simp [f47, hw, hmb]; (repeat refine ca ?_); (try ((try with_reducible refine ⟨?_, ?_⟩) <;> (try with_reducible intro hnil) <;> refine hJ _ _ ?_ <;> clear hJ J <;> simp only [ak, reduceIte] <;> try subst hnil)))))
      refine hJJ _ _ _ ?_ ⟨k + 1, by omega, rfl, by simp [f1], by simp [f45], by simp [f46], by simp, hkp1.trans hk2, hnext hb'⟩
      omega
  · have hr : chk g = 0 := by rw [hch]; exact firstNZ_zero (fun j hj => hno j (by omega))
    clear hJJ
    (repeat' (first | refine awp_seq ?_ | refine awp_block ?_ | ((first | refine awp_skip ?_ | refine awp_exit ?_); simp only [ak, reduceIte]) | (refine awp_ret ?_; simp only [ak, reduceIte]; simp [f1, f45, f46, f47, hlt, hr]) | (refine awp_cond ?_; simp [f1, f45, f46, f47, hlt, hr]; (try with_reducible refine ⟨?_, ?_⟩) <;> (try with_reducible intro hc) <;> try (exfalso; omega)) | ((first | (refine w_e [] ?_; intro J hJ; simp only []) | (refine w_q ?_; intro J hJ) | refine e_go ?_); simp [f1, f45, f46, f47, hlt, hr]; (repeat refine ca ?_); (try ((try with_reducible refine ⟨?_, ?_⟩) <;> (try with_reducible intro hnil) <;> refine hJ _ _ ?_ <;> clear hJ J <;> simp only [ak, reduceIte] <;> try subst hnil)))))
    exact hkp0

end Go.Proofs.YtphdhggoaijfoaaGreat.Aw

namespace Go.Proofs.YtphdhggoaijfoaaGreat.Aw
open Go Go.RowKit Go.Proofs.YtphdhggoaijfoaaGreat.Pl
set_option linter.unusedSimpArgs false
set_option linter.unusedVariables false

theorem eds_one (l : List Ed) : (eds l).all oneL = true := by
  induction l with
  | nil => rfl
  | cons e l ih => simp only [eds, List.flatMap_cons, List.all_append, ih, Bool.and_true]; rfl

theorem CloneE (l : List Ed) (t : Nat) (st : St) (hl : l.length ≤ 1048576) :
    ACalls Tryz.prog 76 [.sl t l.length (eds l)] st fun r st' => r = .sl 0 l.length (eds l) ∧ Keeps st st' := by
  have hone := eds_one l
  have hel := eds_length l
  refine acalls_freeze ?_
  refine acalls_nilM 55 3 ?_
  refine acalls_of_body tabOk Tryz.func76 rfl rfl Tryz.ntmps76 (rs := [.tmp 2]) rfl (by simp) ?_
  (repeat' (first | refine awp_seq ?_ | refine awp_block ?_ | ((first | refine awp_skip ?_ | refine awp_exit ?_); simp only [ak, reduceIte]) | (refine awp_ret ?_; simp only [ak, reduceIte]; simp [hone, hel]) | (refine awp_cond ?_; simp [hone, hel]; (try with_reducible refine ⟨?_, ?_⟩) <;> (try with_reducible intro hc) <;> try (exfalso; omega)) | ((first | (refine w_e [5] ?_; intro J hJ; simp only []) | (refine w_q ?_; intro J hJ) | refine e_go ?_); simp [hone, hel]; (repeat refine ca ?_); (try ((try with_reducible refine ⟨?_, ?_⟩) <;> (try with_reducible intro hnil) <;> refine hJ _ _ ?_ <;> clear hJ J <;> simp only [ak, reduceIte] <;> try subst hnil)))))
  · exact ⟨st.next + 1, l.length, ⟨rfl, rfl⟩, 55, 3, eds l, by simp, by rw [hel]; exact Nat.le_refl _, ⟨rfl, List.take_of_length_le (by rw [hel]; exact Nat.le_refl _)⟩, ((Keeps.new _ _).trans (Keeps.new _ _)).set (by omega) _⟩
  · exact ⟨st.next, 0, ⟨rfl, rfl⟩, 55, 3, [], by simp, by simp, ⟨rfl, .inr rfl⟩, (Keeps.new _ _).set (Nat.le_refl _) _⟩

theorem copied (g : Gr) (st : St) (hv : g.vs.length ≤ 1048576) (he : g.es.length ≤ 1048576) :
    ACalls Tryz.prog 60 [.ag (grL g)] st fun r st' => r = .ag (grL g) ∧ Keeps st st' := by
  refine acalls_of_body tabOk Tryz.func60 rfl rfl Tryz.ntmps60 (rs := [.cell 2 25]) rfl (by simp) ?_
  (repeat' (first | refine awp_seq ?_ | refine awp_block ?_ | ((first | refine awp_skip ?_ | refine awp_exit ?_); simp only [ak, reduceIte]) | (refine awp_ret ?_; simp only [ak, reduceIte]; simp []) | (refine awp_cond ?_; simp []; (try with_reducible refine ⟨?_, ?_⟩) <;> (try with_reducible intro hc) <;> try (exfalso; omega)) | ((first | (refine w_e [] ?_; intro J hJ; simp only []) | (refine w_q ?_; intro J hJ) | refine e_go ?_); simp []; (repeat refine ca ?_); (try ((try with_reducible refine ⟨?_, ?_⟩) <;> (try with_reducible intro hnil) <;> refine hJ _ _ ?_ <;> clear hJ J <;> simp only [ak, reduceIte] <;> try subst hnil)))))
  (refine w_s [] [st.next] [(0, true), (1, true), (3, true), (4, true), (2, true), (5, true), (6, true), (7, false)] ?_; intro J hJ; simp []; (repeat refine ca ?_); (try ((try with_reducible refine ⟨?_, ?_⟩) <;> (try with_reducible intro hnil) <;> refine hJ _ _ ?_ <;> clear hJ J <;> simp only [ak, reduceIte] <;> try subst hnil)))
  refine dcallK_ofE (Clone g.vs 0 _ hv) (by simp []) ?_; rintro r st' ⟨rfl, hk1⟩
  have hB1 : st'.H st.next = .box 25 2 (grL g) := by rw [hk1.H _ (by simp; omega)]; simp
  have hC1 : st'.H (st.next + 1) = .box 25 2 [.nil, .nil] := by rw [hk1.H _ (by simp)]; simp
  refine ⟨fun _ => by simp [hB1], ?_⟩
  (refine d_go ?_; simp [hB1]; (repeat refine ca ?_); (try ((try with_reducible refine ⟨?_, ?_⟩) <;> (try with_reducible intro hnil) <;> refine hJ _ _ ?_ <;> clear hJ J <;> simp only [ak, reduceIte] <;> try subst hnil)))
  have hn1 := hk1.next
  simp only [new_next] at hn1
  refine dcallK_ofE (CloneE g.es 0 _ he) (by simp []) ?_; rintro r st' ⟨rfl, hk2⟩
  have hB2 := (hk2.H st.next (by omega)).trans hB1
  have hC2 := (hk2.H (st.next + 1) (by omega)).trans hC1
  refine ⟨fun _ => by simp [hB2], ?_⟩
  (refine d_go ?_; simp [hB2, hC2]; (repeat refine ca ?_); (try ((try with_reducible refine ⟨?_, ?_⟩) <;> (try with_reducible intro hnil) <;> refine hJ _ _ ?_ <;> clear hJ J <;> simp only [ak, reduceIte] <;> try subst hnil)))
  (repeat' (first | refine awp_seq ?_ | refine awp_block ?_ | ((first | refine awp_skip ?_ | refine awp_exit ?_); simp only [ak, reduceIte]) | (refine awp_ret ?_; simp only [ak, reduceIte]; simp [hC2]) | (refine awp_cond ?_; simp [hC2]; (try with_reducible refine ⟨?_, ?_⟩) <;> (try with_reducible intro hc) <;> try (exfalso; omega)) | ((first | (refine w_e [] ?_; intro J hJ; simp only []) | (refine w_q ?_; intro J hJ) | refine e_go ?_); simp [hC2]; (repeat refine ca ?_); (try ((try with_reducible refine ⟨?_, ?_⟩) <;> (try with_reducible intro hnil) <;> refine hJ _ _ ?_ <;> clear hJ J <;> simp only [ak, reduceIte] <;> try subst hnil)))))
  exact (((((Keeps.new _ _).trans (Keeps.new _ _)).trans hk1).trans hk2).set (by omega) _)

theorem eds_get (a b : List Ed) (hab : a.length = b.length) (h : ∀ j, j < a.length → a.getD j ed0 = b.getD j ed0) : a = b := by
  apply List.ext_getElem hab
  intro j h1 h2
  have := h j h1
  rw [List.getD_eq_getElem?_getD, List.getD_eq_getElem?_getD, List.getElem?_eq_getElem h1, List.getElem?_eq_getElem h2] at this
  exact this
theorem ints_get (a b : List Int) (hab : a.length = b.length) (h : ∀ j, j < a.length → a.getD j 0 = b.getD j 0) : a = b := by
  apply List.ext_getElem hab
  intro j h1 h2
  have := h j h1
  rw [getD_lt _ _ h1, getD_lt _ _ h2] at this
  exact this

theorem ref_SameG (a b : Gr) (st : St) (hv : a.vs.length ≤ 1048576) (he : a.es.length ≤ 1048576) :
    ACalls Tryz.prog 56 [.ag (grL a), .ag (grL b)] st fun r st' => r = bb (decide (a = b)) ∧ Keeps st st' := by
  have hkk : Keeps st ((st.new (.box 25 2 (grL a))).new (.box 25 2 (grL b))) := (Keeps.new _ _).trans (Keeps.new _ _)
  refine acalls_of_body tabOk Tryz.func56 rfl rfl Tryz.ntmps56 (rs := [.tmp 4]) rfl (by simp) ?_
  by_cases h1 : a.vs.length = b.vs.length
  rotate_left
  · have h1' : ((a.vs.length : Int) != b.vs.length) = true := by simp; omega
    have hne : ¬ a = b := fun h => h1 (by rw [h])
    (repeat' (first | refine awp_seq ?_ | refine awp_block ?_ | ((first | refine awp_skip ?_ | refine awp_exit ?_); simp only [ak, reduceIte]) | (refine awp_ret ?_; simp only [ak, reduceIte]; simp [h1', hne]) | (refine awp_cond ?_; simp [h1', hne]; (try with_reducible refine ⟨?_, ?_⟩) <;> (try with_reducible intro hc) <;> try (exfalso; omega)) | ((first | (refine w_e [] ?_; intro J hJ; simp only []) | (refine w_q ?_; intro J hJ) | refine e_go ?_); simp [h1', hne]; (repeat refine ca ?_); (try ((try with_reducible refine ⟨?_, ?_⟩) <;> (try with_reducible intro hnil) <;> refine hJ _ _ ?_ <;> clear hJ J <;> simp only [ak, reduceIte] <;> try subst hnil)))))
    exact hkk
  have h1' : ((a.vs.length : Int) != b.vs.length) = false := by simp; omega
  by_cases h2 : a.es.length = b.es.length
  rotate_left
  · have h2' : ((a.es.length : Int) != b.es.length) = true := by simp; omega
    have hne : ¬ a = b := fun h => h2 (by rw [h])
    (repeat' (first | refine awp_seq ?_ | refine awp_block ?_ | ((first | refine awp_skip ?_ | refine awp_exit ?_); simp only [ak, reduceIte]) | (refine awp_ret ?_; simp only [ak, reduceIte]; simp [h1', h2', hne]) | (refine awp_cond ?_; simp [h1', h2', hne]; (try with_reducible refine ⟨?_, ?_⟩) <;> (try with_reducible intro hc) <;> try (exfalso; omega)) | ((first | (refine w_e [] ?_; intro J hJ; simp only []) | (refine w_q ?_; intro J hJ) | refine e_go ?_); simp [h1', h2', hne]; (repeat refine ca ?_); (try ((try with_reducible refine ⟨?_, ?_⟩) <;> (try with_reducible intro hnil) <;> refine hJ _ _ ?_ <;> clear hJ J <;> simp only [ak, reduceIte] <;> try subst hnil)))))
    exact hkk
  have h2' : ((a.es.length : Int) != b.es.length) = false := by simp; omega
  (repeat' (first | refine awp_seq ?_ | refine awp_block ?_ | ((first | refine awp_skip ?_ | refine awp_exit ?_); simp only [ak, reduceIte]) | (refine awp_ret ?_; simp only [ak, reduceIte]; simp [h1', h2']) | (refine awp_cond ?_; simp [h1', h2']; (try with_reducible refine ⟨?_, ?_⟩) <;> (try with_reducible intro hc) <;> try (exfalso; omega)) | ((first | (refine w_e [] ?_; intro J hJ; simp only []) | (refine w_q ?_; intro J hJ) | refine e_go ?_); simp [h1', h2']; (repeat refine ca ?_); (try ((try with_reducible refine ⟨?_, ?_⟩) <;> (try with_reducible intro hnil) <;> refine hJ _ _ ?_ <;> clear hJ J <;> simp only [ak, reduceIte] <;> try subst hnil)))))
  refine awp_loop (fun n fr st' => ∃ k : Nat, k ≤ a.vs.length ∧ n = a.vs.length - k ∧ fr 2 = .pt st.next 0 ∧ fr 3 = .pt (st.next + 1) 0 ∧ fr 25 = i a.vs.length ∧ fr 26 = i k ∧ st' = (st.new (.box 25 2 (grL a))).new (.box 25 2 (grL b)) ∧ ∀ j, j < k → a.vs.getD j 0 = b.vs.getD j 0) a.vs.length ?_ ?_
  · exact ⟨0, by omega, by omega, by simp, by simp, by simp, by simp, rfl, fun j h => by omega⟩
  rintro n fr st' ⟨k, hk, rfl, f2, f3, f25, f26, rfl, hno⟩ JJ hJJ
  by_cases hlt : k < a.vs.length
  · have hd := us_drop_getD a.vs k hlt
    have hlt' : k < b.vs.length := by omega
    have hd' := us_drop_getD b.vs k hlt'
    have hw := nat_add_one k (by omega)
    generalize hx : a.vs.getD k 0 = x at *
    generalize hy : b.vs.getD k 0 = y at *
    by_cases hxy : x = y
    · (repeat' (first | refine awp_seq ?_ | refine awp_block ?_ | ((first | refine awp_skip ?_ | refine awp_exit ?_); simp only [ak, reduceIte]) | (refine awp_ret ?_; simp only [ak, reduceIte]; simp [f2, f3, f25, f26, hlt, hlt', hd, hd', hw, hxy]) | (refine awp_cond ?_; simp [f2, f3, f25, f26, hlt, hlt', hd, hd', hw, hxy]; (try with_reducible refine ⟨?_, ?_⟩) <;> (try with_reducible intro hc) <;> try (exfalso; omega)) | ((first | (refine w_e [] ?_; intro J hJ; simp only []) | (refine w_q ?_; intro J hJ) | refine e_go ?_); simp [f2, f3, f25, f26, hlt, hlt', hd, hd', hw, hxy]; (repeat refine ca ?_); (try ((try with_reducible refine ⟨?_, ?_⟩) <;> (try with_reducible intro hnil) <;> refine hJ _ _ ?_ <;> clear hJ J <;> simp only [ak, reduceIte] <;> try subst hnil)))))
      refine hJJ _ _ _ ?_ ⟨k + 1, by omega, rfl, by simp [f2], by simp [f3], by simp [f25], by simp, rfl, fun j hj => ?_⟩
      · omega
      · rcases Nat.lt_or_ge j k with h | h
        · exact hno j h
        · obtain rfl : j = k := by omega
          rw [hx, hy]; exact hxy
    · have hne : ¬ a = b := fun h => hxy (by rw [← hx, ← hy, h])
      (repeat' (first | refine awp_seq ?_ | refine awp_block ?_ | ((first | refine awp_skip ?_ | refine awp_exit ?_); simp only [ak, reduceIte]) | (refine awp_ret ?_; simp only [ak, reduceIte]; simp [f2, f3, f25, f26, hlt, hlt', hd, hd', hw, hxy, hne]) | (refine awp_cond ?_; simp [f2, f3, f25, f26, hlt, hlt', hd, hd', hw, hxy, hne]; (try with_reducible refine ⟨?_, ?_⟩) <;> (try with_reducible intro hc) <;> try (exfalso; omega)) | ((first | (refine w_e [] ?_; intro J hJ; simp only []) | (refine w_q ?_; intro J hJ) | refine e_go ?_); simp [f2, f3, f25, f26, hlt, hlt', hd, hd', hw, hxy, hne]; (repeat refine ca ?_); (try ((try with_reducible refine ⟨?_, ?_⟩) <;> (try with_reducible intro hnil) <;> refine hJ _ _ ?_ <;> clear hJ J <;> simp only [ak, reduceIte] <;> try subst hnil)))))
      exact hkk
  have hvs := ints_get a.vs b.vs h1 (fun j hj => hno j (by omega))
  clear hJJ hno
  have hela := eds_length a.es
  have helb := eds_length b.es
  (repeat' (first | refine awp_seq ?_ | refine awp_block ?_ | ((first | refine awp_skip ?_ | refine awp_exit ?_); simp only [ak, reduceIte]) | (refine awp_ret ?_; simp only [ak, reduceIte]; simp [f2, f3, f25, f26, hlt]) | (refine awp_cond ?_; simp [f2, f3, f25, f26, hlt]; (try with_reducible refine ⟨?_, ?_⟩) <;> (try with_reducible intro hc) <;> try (exfalso; omega)) | ((first | (refine w_e [] ?_; intro J hJ; simp only []) | (refine w_q ?_; intro J hJ) | refine e_go ?_); simp [f2, f3, f25, f26, hlt]; (repeat refine ca ?_); (try ((try with_reducible refine ⟨?_, ?_⟩) <;> (try with_reducible intro hnil) <;> refine hJ _ _ ?_ <;> clear hJ J <;> simp only [ak, reduceIte] <;> try subst hnil)))))
  refine awp_loop (fun n fr st' => ∃ k : Nat, k ≤ a.es.length ∧ n = a.es.length - k ∧ fr 2 = .pt st.next 0 ∧ fr 3 = .pt (st.next + 1) 0 ∧ fr 43 = i a.es.length ∧ fr 44 = i k ∧ st' = (st.new (.box 25 2 (grL a))).new (.box 25 2 (grL b)) ∧ ∀ j, j < k → a.es.getD j ed0 = b.es.getD j ed0) a.es.length ?_ ?_
  · exact ⟨0, by omega, by omega, by simp [f2], by simp [f3], by simp, by simp, rfl, fun j h => by omega⟩
  clear f2 f3 f25 f26 hlt hk fr k
  rintro n fr st' ⟨k, hk, rfl, f2, f3, f43, f44, rfl, hno⟩ JJ hJJ
  by_cases hlt : k < a.es.length
  · have hd := eds_drop a.es k hlt
    have hlt' : k < b.es.length := by omega
    have hd' := eds_drop b.es k hlt'
    have hw := nat_add_one k (by omega)
    have hk3 : k * 3 < a.es.length * 3 := by omega
    have hk3' : k * 3 < b.es.length * 3 := by omega
    generalize hx : a.es.getD k ed0 = x at *
    generalize hy : b.es.getD k ed0 = y at *
    obtain ⟨x1, x2, x3⟩ := x
    obtain ⟨y1, y2, y3⟩ := y
    simp only at hd hd'
    by_cases hxy : ([x1, x2, x3] == [y1, y2, y3]) = true
    · have hxy' : ([x1, x2, x3] : List Int) = [y1, y2, y3] := by simpa using hxy
      injection hxy' with e1 e2; injection e2 with e2 e3; injection e3 with e3 _
      subst e1 e2 e3
      (repeat' (first | refine awp_seq ?_ | refine awp_block ?_ | ((first | refine awp_skip ?_ | refine awp_exit ?_); simp only [ak, reduceIte]) | (refine awp_ret ?_; simp only [ak, reduceIte]; simp [f2, f3, f43, f44, hlt, hlt', hd, hd', hw, hela, helb, hk3, hk3']) | (refine awp_cond ?_; simp [f2, f3, f43, f44, hlt, hlt', hd, hd', hw, hela, helb, hk3, hk3']; (try with_reducible refine ⟨?_, ?_⟩) <;> (try with_reducible intro hc) <;> try (exfalso; omega)) | ((first | (refine w_e [] ?_; intro J hJ; simp only []) | (refine w_q ?_; intro J hJ) | refine e_go ?_); simp [f2, f3, f43, f44, hlt, hlt', hd, hd', hw, hela, helb, hk3, hk3']; (repeat refine ca ?_); (try ((try with_reducible refine ⟨?_, ?_⟩) <;> (try with_reducible intro hnil) <;> refine hJ _ _ ?_ <;> clear hJ J <;> simp only [ak, reduceIte] <;> try subst hnil)))))
      refine hJJ _ _ _ ?_ ⟨k + 1, by omega, rfl, by simp [f2], by simp [f3], by simp [f43], by simp, rfl, fun j hj => ?_⟩
      · omega
      · rcases Nat.lt_or_ge j k with h | h
        · exact hno j h
        · obtain rfl : j = k := by omega
          rw [hx, hy]
    · have hne : ¬ a = b := fun h => hxy (by rw [h] at hx; rw [hx] at hy; injection hy with e1 e2 e3; subst e1 e2 e3; simp)
      have hxyf : ([x1, x2, x3] == [y1, y2, y3]) = false := by simpa using hxy
      (repeat' (first | refine awp_seq ?_ | refine awp_block ?_ | ((first | refine awp_skip ?_ | refine awp_exit ?_); simp only [ak, reduceIte]) | (refine awp_ret ?_; simp only [ak, reduceIte]; simp [f2, f3, f43, f44, hlt, hlt', hd, hd', hw, hela, helb, hk3, hk3', hxyf, hne]) | (refine awp_cond ?_; simp [f2, f3, f43, f44, hlt, hlt', hd, hd', hw, hela, helb, hk3, hk3', hxyf, hne]; (try with_reducible refine ⟨?_, ?_⟩) <;> (try with_reducible intro hc) <;> try (exfalso; omega)) | ((first | (refine w_e [] ?_; intro J hJ; simp only []) | (refine w_q ?_; intro J hJ) | refine e_go ?_); simp [f2, f3, f43, f44, hlt, hlt', hd, hd', hw, hela, helb, hk3, hk3', hxyf, hne]; (repeat refine ca ?_); (try ((try with_reducible refine ⟨?_, ?_⟩) <;> (try with_reducible intro hnil) <;> refine hJ _ _ ?_ <;> clear hJ J <;> simp only [ak, reduceIte] <;> try subst hnil)))))
      exact hkk
  · have hes := eds_get a.es b.es h2 (fun j hj => hno j (by omega))
    have heq : a = b := by cases a; cases b; simp only at hvs hes; subst hvs hes; rfl
    clear hJJ
    subst heq
    (repeat' (first | refine awp_seq ?_ | refine awp_block ?_ | ((first | refine awp_skip ?_ | refine awp_exit ?_); simp only [ak, reduceIte]) | (refine awp_ret ?_; simp only [ak, reduceIte]; simp [f2, f3, f43, f44, hlt]) | (refine awp_cond ?_; simp [f2, f3, f43, f44, hlt]; (try with_reducible refine ⟨?_, ?_⟩) <;> (try with_reducible intro hc) <;> try (exfalso; omega)) | ((first | (refine w_e [] ?_; intro J hJ; simp only []) | (refine w_q ?_; intro J hJ) | refine e_go ?_); simp [f2, f3, f43, f44, hlt]; (repeat refine ca ?_); (try ((try with_reducible refine ⟨?_, ?_⟩) <;> (try with_reducible intro hnil) <;> refine hJ _ _ ?_ <;> clear hJ J <;> simp only [ak, reduceIte] <;> try subst hnil)))))
    exact hkk

end Go.Proofs.YtphdhggoaijfoaaGreat.Aw

namespace Go.Proofs.YtphdhggoaijfoaaGreat.Aw
open Go Go.RowKit Go.Proofs.YtphdhggoaijfoaaGreat.Pl
set_option linter.unusedSimpArgs false
set_option linter.unusedVariables false

/-- A struct's last cell, a row that was written to, is given away as a value. -/
theorem acalls_agLast (e s : Nat) {P : Program} {f : FuncId} {args : List LV} {st : St} {Q : LV → St → Prop} (pre : List LV)
    (h : ACalls P f args st fun r st' => ∃ c, r = .ag (pre ++ [c]) ∧ ((c = .nil ∧ Q (.ag (pre ++ [.sl 0 0 []])) st') ∨ ∃ l n cs, c = .ms l 0 n ∧ st'.H l = .box e s cs ∧ n * s ≤ cs.length ∧ Q (.ag (pre ++ [.sl 0 n (cs.take (n * s))])) (st'.set l .dead))) : ACalls P f args st Q := by
  refine ⟨h.1, fun w g vs hi hr => (h.2 w g vs hi hr).mono ?_⟩
  rintro x w' ⟨v, r, st', g', rfl, ⟨c, rfl, hc⟩, hrep, hi', he⟩
  simp only [Rep] at hrep
  obtain ⟨us1, rfl, hus⟩ := hrep
  obtain ⟨v1, h1, h2⟩ := repL_mid pre us1 hus
  rcases hc with ⟨rfl, hq⟩ | ⟨l, n, cs, rfl, hl, hn, hq⟩
  · refine ⟨_, _, st', g', rfl, hq, ?_, hi', he⟩
    simp only [Rep]
    exact ⟨us1, rfl, h2 g' _ (Ext.refl _ _) (rep_norm h1)⟩
  · obtain ⟨g2, k1, k2, k3⟩ := ghost_freeze (fr := upd (fun _ => .dead) 0 (.ms l 0 n)) 0 rfl hl hn { tmps := #[v1], defers := [] } w' g' hi' (by
      intro j
      unfold upd
      by_cases hj : j = 0
      · subst hj; rw [if_pos rfl]; exact h1
      · rw [if_neg hj]; simp only [Rep])
    refine ⟨_, _, _, g2, rfl, hq, ?_, k1, he.trans k3⟩
    simp only [Rep]
    exact ⟨us1, rfl, h2 g2 _ k3 (k2 0)⟩

theorem rowsL_take (rs : List (List Int)) (k : Nat) (hk : k < rs.length) : rowsL (rs.take (k + 1)) = rowsL (rs.take k) ++ [.sl 0 (rs[k]).length (us rs[k])] := by
  unfold rowsL
  rw [List.take_succ_eq_append_getElem hk, List.map_append]; rfl

theorem rot_Of (g : Gr) (q : Nat) (es : List (List Int × LV)) (tf : Int → List Int) (st : St) (hv : g.vs.length ≤ 1000) (he : g.es.length ≤ 1000) (hq : q < st.next) (hM : st.H q = .map false [.u32] es)
    (ht : ∀ v ∈ g.vs, ∃ x t, (mget es [v]).getD .nil = x ∧ norm x = .sl t (tf v).length (us (tf v)) ∧ (tf v).length ≤ 1000) :
    ACalls Tryz.prog 37 [.ag (grL g), .mp q] st fun r st' => r = .ag (mpL ⟨g, g.vs.map fun v => nrm (tf v)⟩) ∧ Keeps st st' := by
  refine acalls_agLast 22 1 (grL g) ?_
  refine acalls_of_body tabOk Tryz.func37 rfl rfl Tryz.ntmps37 (rs := [.cell 4 28]) rfl (by simp) ?_
  (repeat' (first | refine awp_seq ?_ | refine awp_block ?_ | ((first | refine awp_skip ?_ | refine awp_exit ?_); simp only [ak, reduceIte]) | (refine awp_ret ?_; simp only [ak, reduceIte]; simp []) | (refine awp_cond ?_; simp []; (try with_reducible refine ⟨?_, ?_⟩) <;> (try with_reducible intro hc) <;> try (exfalso; omega)) | ((first | (refine w_e [] ?_; intro J hJ; simp only []) | (refine w_q ?_; intro J hJ) | refine e_go ?_); simp []; (repeat refine ca ?_); (try ((try with_reducible refine ⟨?_, ?_⟩) <;> (try with_reducible intro hnil) <;> refine hJ _ _ ?_ <;> clear hJ J <;> simp only [ak, reduceIte] <;> try subst hnil)))))
  refine callK_ofE (copied g _ (by omega) (by omega)) (by simp) ?_; rintro r s1 ⟨rfl, hk1⟩
  have hn1 := hk1.next
  simp only [new_next] at hn1
  have hG1 : s1.H st.next = .box 25 2 (grL g) := by rw [hk1.H _ (by simp; omega)]; simp
  have hM1 : s1.H q = .map false [.u32] es := by
    rw [hk1.H q (by simp; omega), new_H, if_neg (by simp; omega), new_H, if_neg (by omega), hM]
  have hR1 : s1.H (st.next + 1) = .box 28 3 [.nil, .nil, .nil] := by rw [hk1.H _ (by simp)]; simp
  have ne1 : ¬ st.next = s1.next := by omega
  (repeat' (first | refine awp_seq ?_ | refine awp_block ?_ | ((first | refine awp_skip ?_ | refine awp_exit ?_); simp only [ak, reduceIte]) | (refine awp_ret ?_; simp only [ak, reduceIte]; simp [hG1, ne1]) | (refine awp_cond ?_; simp [hG1, ne1]; (try with_reducible refine ⟨?_, ?_⟩) <;> (try with_reducible intro hc) <;> try (exfalso; omega)) | ((first | (refine w_e [] ?_; intro J hJ; simp only []) | (refine w_q ?_; intro J hJ) | refine e_go ?_); simp [hG1, ne1]; (repeat refine ca ?_); (try ((try with_reducible refine ⟨?_, ?_⟩) <;> (try with_reducible intro hnil) <;> refine hJ _ _ ?_ <;> clear hJ J <;> simp only [ak, reduceIte] <;> try subst hnil)))))
  refine awp_loop (fun n fr st2 => ∃ k : Nat, k ≤ g.vs.length ∧ n = g.vs.length - k ∧ fr 1 = .mp q ∧ fr 4 = .pt (st.next + 1) 0 ∧ fr 5 = .pt s1.next 0 ∧ fr 12 = .sl 0 g.vs.length (us g.vs) ∧ fr 13 = i g.vs.length ∧ fr 14 = i k ∧ Keeps s1 st2 ∧ s1.next < st2.next ∧ ∃ c, st2.H s1.next = .box 28 3 (grL g ++ [c]) ∧ ((k = 0 ∧ c = .nil) ∨ ∃ z, c = .ms z 0 k ∧ s1.next < z ∧ z < st2.next ∧ st2.H z = .box 22 1 (rowsL ((g.vs.map fun v => nrm (tf v)).take k)))) g.vs.length ?_ ?_
  · exact ⟨0, by omega, by omega, by simp, by simp, by simp, by simp, by simp, by simp, Keeps.new _ _, by simp, .nil, by simp, .inl ⟨rfl, rfl⟩⟩
  rintro n fr st2 ⟨k, hk, rfl, f1, f4, f5, f12, f13, f14, hkp, hlt2, c, hB, hcz⟩ JJ hJJ
  have hM2 : st2.H q = .map false [.u32] es := by rw [hkp.H q (by omega)]; exact hM1
  by_cases hlt : k < g.vs.length
  · have hd := us_drop_getD g.vs k hlt
    have hw := nat_add_one k (by omega)
    have hvin : g.vs.getD k 0 ∈ g.vs := by rw [getD_lt _ _ hlt]; exact List.getElem_mem hlt
    obtain ⟨x, t, hx1, hx2, hx3⟩ := ht _ hvin
    have hrow := rowsL_take (g.vs.map fun v => nrm (tf v)) k (by simpa using hlt)
    have hrk : (g.vs.map fun v => nrm (tf v))[k]'(by simpa using hlt) = nrm (tf (g.vs.getD k 0)) := by simp [hlt]
    rw [hrk, nrm_length] at hrow
    generalize hvv : g.vs.getD k 0 = v at *
    have hqn : ¬ q = s1.next := by omega
    have ne2 : ¬ s1.next = st2.next := by omega
    have ne3 : ¬ q = st2.next := by have := hkp.next; omega
    rcases hcz with ⟨rfl, rfl⟩ | ⟨z, rfl, hz1, hz2, hz⟩
    · (repeat' (first | refine awp_seq ?_ | refine awp_block ?_ | ((first | refine awp_skip ?_ | refine awp_exit ?_); simp only [ak, reduceIte]) | (refine awp_ret ?_; simp only [ak, reduceIte]; simp [f12, f13, f14, hlt, hd]) | ((first | (refine w_e [] ?_; intro J hJ; simp only []) | (refine w_q ?_; intro J hJ) | refine e_go ?_); simp [f12, f13, f14, hlt, hd]; (repeat refine ca ?_); (try ((try with_reducible refine ⟨?_, ?_⟩) <;> (try with_reducible intro hnil) <;> refine hJ _ _ ?_ <;> clear hJ J <;> simp only [ak, reduceIte] <;> try subst hnil)))))
      (refine awp_cond ?_; simp []; (try with_reducible refine ⟨?_, ?_⟩) <;> (try with_reducible intro hc) <;> try (exfalso; omega))
      (repeat' (first | refine awp_seq ?_ | refine awp_block ?_ | ((first | refine awp_skip ?_ | refine awp_exit ?_); simp only [ak, reduceIte]) | (refine awp_ret ?_; simp only [ak, reduceIte]; simp [f1, f5, f12, f13, f14, hlt, hd]) | ((first | (refine w_e [] ?_; intro J hJ; simp only []) | (refine w_q ?_; intro J hJ) | refine e_go ?_); simp [f1, f5, f12, f13, f14, hlt, hd]; (repeat refine ca ?_); (try ((try with_reducible refine ⟨?_, ?_⟩) <;> (try with_reducible intro hnil) <;> refine hJ _ _ ?_ <;> clear hJ J <;> simp only [ak, reduceIte] <;> try subst hnil)))))
      (refine w_s [25] [s1.next, q] [(0, true), (1, true), (2, true), (3, true), (4, true), (5, true), (6, true), (7, true), (8, true), (9, false)] ?_; intro J hJ; simp [f1, f5, hB, hM2, hx1, hqn]; (repeat refine ca ?_); (try ((try with_reducible refine ⟨?_, ?_⟩) <;> (try with_reducible intro hnil) <;> refine hJ _ _ ?_ <;> clear hJ J <;> simp only [ak, reduceIte] <;> try subst hnil)))
      refine dcallK_ofE (Normal (tf v) t _ (by simp only [small]; omega)) (by simp only [List.map_cons, List.map_nil, hx2]) ?_; rintro r s3 ⟨rfl, hk3⟩
      have hB3 := (hk3.H s1.next (by omega)).trans hB
      have hM3 := (hk3.H q (by have := hkp.next; omega)).trans hM2
      have hn3 := hk3.next
      have ne4 : ¬ s1.next = s3.next := by omega
      have ne5 : ¬ s1.next = s3.next + 1 := by omega
      have ne6 : ¬ q = s3.next + 1 := by omega
      have ne7 : ¬ q = s3.next := by omega
      refine ⟨fun _ => by simp [hB3, hM3, hB, hM2], ?_⟩
      (refine d_go ?_; simp [f5, hB3, hM3, hB, hM2, ne4, ne5, ne6, ne7]; (repeat refine ca ?_); (try ((try with_reducible refine ⟨?_, ?_⟩) <;> (try with_reducible intro hnil) <;> refine hJ _ _ ?_ <;> clear hJ J <;> simp only [ak, reduceIte] <;> try subst hnil)))
      have hw1 : IntKind.i64.wrap 1 = 1 := by decide
      (repeat' (first | refine awp_seq ?_ | refine awp_block ?_ | ((first | refine awp_skip ?_ | refine awp_exit ?_); simp only [ak, reduceIte]) | (refine awp_ret ?_; simp only [ak, reduceIte]; simp [f5, f14, hw, hw1]) | (refine awp_cond ?_; simp [f5, f14, hw, hw1]; (try with_reducible refine ⟨?_, ?_⟩) <;> (try with_reducible intro hc) <;> try (exfalso; omega)) | ((first | (refine w_e [] ?_; intro J hJ; simp only []) | (refine w_q ?_; intro J hJ) | refine e_go ?_); simp [f5, f14, hw, hw1]; (repeat refine ca ?_); (try ((try with_reducible refine ⟨?_, ?_⟩) <;> (try with_reducible intro hnil) <;> refine hJ _ _ ?_ <;> clear hJ J <;> simp only [ak, reduceIte] <;> try subst hnil)))))
      refine hJJ (g.vs.length - 1) _ _ (by omega) ⟨1, by omega, rfl, by simp [f1], by simp [f4], by simp [f5], by simp [f12], by simp [f13], by simp, (((hkp.trans hk3).trans (Keeps.new _ _)).trans (Keeps.new _ _)).set (Nat.le_refl _) _, by simp; omega, .ms (s3.next + 1) 0 1, by simp, .inr ⟨s3.next + 1, rfl, by omega, by simp, ?_⟩⟩
      rw [hrow, set_H, if_neg (by omega)]
      simp
    · generalize hR : rowsL ((g.vs.map fun v => nrm (tf v)).take k) = R at *
      have hzl : R.length = k := by rw [← hR]; simp; omega
      (repeat' (first | refine awp_seq ?_ | refine awp_block ?_ | ((first | refine awp_skip ?_ | refine awp_exit ?_); simp only [ak, reduceIte]) | (refine awp_ret ?_; simp only [ak, reduceIte]; simp [f12, f13, f14, hlt, hd]) | ((first | (refine w_e [] ?_; intro J hJ; simp only []) | (refine w_q ?_; intro J hJ) | refine e_go ?_); simp [f12, f13, f14, hlt, hd]; (repeat refine ca ?_); (try ((try with_reducible refine ⟨?_, ?_⟩) <;> (try with_reducible intro hnil) <;> refine hJ _ _ ?_ <;> clear hJ J <;> simp only [ak, reduceIte] <;> try subst hnil)))))
      (refine awp_cond ?_; simp []; (try with_reducible refine ⟨?_, ?_⟩) <;> (try with_reducible intro hc) <;> try (exfalso; omega))
      (repeat' (first | refine awp_seq ?_ | refine awp_block ?_ | ((first | refine awp_skip ?_ | refine awp_exit ?_); simp only [ak, reduceIte]) | (refine awp_ret ?_; simp only [ak, reduceIte]; simp [f1, f5, f12, f13, f14, hlt, hd]) | ((first | (refine w_e [] ?_; intro J hJ; simp only []) | (refine w_q ?_; intro J hJ) | refine e_go ?_); simp [f1, f5, f12, f13, f14, hlt, hd]; (repeat refine ca ?_); (try ((try with_reducible refine ⟨?_, ?_⟩) <;> (try with_reducible intro hnil) <;> refine hJ _ _ ?_ <;> clear hJ J <;> simp only [ak, reduceIte] <;> try subst hnil)))))
      (refine w_s [25] [s1.next, q] [(0, true), (1, true), (2, true), (3, true), (4, true), (5, true), (6, true), (7, true), (8, true), (9, false)] ?_; intro J hJ; simp [f1, f5, hB, hM2, hx1, hqn]; (repeat refine ca ?_); (try ((try with_reducible refine ⟨?_, ?_⟩) <;> (try with_reducible intro hnil) <;> refine hJ _ _ ?_ <;> clear hJ J <;> simp only [ak, reduceIte] <;> try subst hnil)))
      refine dcallK_ofE (Normal (tf v) t _ (by simp only [small]; omega)) (by simp only [List.map_cons, List.map_nil, hx2]) ?_; rintro r s3 ⟨rfl, hk3⟩
      have hB3 := (hk3.H s1.next (by omega)).trans hB
      have hM3 := (hk3.H q (by have := hkp.next; omega)).trans hM2
      have hz3 := (hk3.H z (by omega)).trans hz
      have hn3 := hk3.next
      have ne4 : ¬ s1.next = s3.next := by omega
      have ne5 : ¬ s1.next = s3.next + 1 := by omega
      have ne6 : ¬ q = s3.next + 1 := by omega
      have ne7 : ¬ q = s3.next := by omega
      have ne8 : ¬ s1.next = z := by omega
      have ne9 : ¬ z = s3.next := by omega
      have ne10 : ¬ q = z := by omega
      have htk : R.take k = R := List.take_of_length_le (by omega)
      refine ⟨fun _ => by simp [hB3, hM3, hB, hM2], ?_⟩
      (refine d_go ?_; simp [f5, hB3, hM3, hB, hM2, ne4, ne5, ne6, ne7, ne8, ne9, ne10, hz3, hzl, htk]; (repeat refine ca ?_); (try ((try with_reducible refine ⟨?_, ?_⟩) <;> (try with_reducible intro hnil) <;> refine hJ _ _ ?_ <;> clear hJ J <;> simp only [ak, reduceIte] <;> try subst hnil)))
      (repeat' (first | refine awp_seq ?_ | refine awp_block ?_ | ((first | refine awp_skip ?_ | refine awp_exit ?_); simp only [ak, reduceIte]) | (refine awp_ret ?_; simp only [ak, reduceIte]; simp [f5, f14, hw]) | (refine awp_cond ?_; simp [f5, f14, hw]; (try with_reducible refine ⟨?_, ?_⟩) <;> (try with_reducible intro hc) <;> try (exfalso; omega)) | ((first | (refine w_e [] ?_; intro J hJ; simp only []) | (refine w_q ?_; intro J hJ) | refine e_go ?_); simp [f5, f14, hw]; (repeat refine ca ?_); (try ((try with_reducible refine ⟨?_, ?_⟩) <;> (try with_reducible intro hnil) <;> refine hJ _ _ ?_ <;> clear hJ J <;> simp only [ak, reduceIte] <;> try subst hnil)))))
      refine hJJ (g.vs.length - (k + 1)) _ _ (by omega) ⟨k + 1, by omega, rfl, by simp [f1], by simp [f4], by simp [f5], by simp [f12], by simp [f13], by simp, ((((hkp.trans hk3).trans (Keeps.new _ _)).set (by omega) _).trans (Keeps.new _ _)).set (Nat.le_refl _) _, by simp; omega, .ms (s3.next + 1) 0 (k + 1), by simp, .inr ⟨s3.next + 1, rfl, by omega, by simp, ?_⟩⟩
      rw [hrow, set_H, if_neg (by omega)]
      simp
  · have hkk : k = g.vs.length := by omega
    have hBR : ¬ s1.next = st.next + 1 := by omega
    have hR2 := (hkp.H (st.next + 1) (by omega)).trans hR1
    have hKK : Keeps st st2 := (((Keeps.new _ _).trans (Keeps.new _ _)).trans hk1).trans hkp
    rcases hcz with ⟨h0, rfl⟩ | ⟨z, rfl, hz1, hz2, hz⟩
    · (repeat' (first | refine awp_seq ?_ | refine awp_block ?_ | ((first | refine awp_skip ?_ | refine awp_exit ?_); simp only [ak, reduceIte]) | (refine awp_ret ?_; simp only [ak, reduceIte]; simp [f12, f13, f14, hlt, f4, f5, hB, hR2]) | (refine awp_cond ?_; simp [f12, f13, f14, hlt, f4, f5, hB, hR2]; (try with_reducible refine ⟨?_, ?_⟩) <;> (try with_reducible intro hc) <;> try (exfalso; omega)) | ((first | (refine w_e [] ?_; intro J hJ; simp only []) | (refine w_q ?_; intro J hJ) | refine e_go ?_); simp [f12, f13, f14, hlt, f4, f5, hB, hR2]; (repeat refine ca ?_); (try ((try with_reducible refine ⟨?_, ?_⟩) <;> (try with_reducible intro hnil) <;> refine hJ _ _ ?_ <;> clear hJ J <;> simp only [ak, reduceIte] <;> try subst hnil)))))
      exact ⟨⟨by omega, List.length_eq_zero_iff.mp (by omega)⟩, hKK.set (by omega) _⟩
    · (repeat' (first | refine awp_seq ?_ | refine awp_block ?_ | ((first | refine awp_skip ?_ | refine awp_exit ?_); simp only [ak, reduceIte]) | (refine awp_ret ?_; simp only [ak, reduceIte]; simp [f12, f13, f14, hlt, f4, f5, hB, hR2]) | (refine awp_cond ?_; simp [f12, f13, f14, hlt, f4, f5, hB, hR2]; (try with_reducible refine ⟨?_, ?_⟩) <;> (try with_reducible intro hc) <;> try (exfalso; omega)) | ((first | (refine w_e [] ?_; intro J hJ; simp only []) | (refine w_q ?_; intro J hJ) | refine e_go ?_); simp [f12, f13, f14, hlt, f4, f5, hB, hR2]; (repeat refine ca ?_); (try ((try with_reducible refine ⟨?_, ?_⟩) <;> (try with_reducible intro hnil) <;> refine hJ _ _ ?_ <;> clear hJ J <;> simp only [ak, reduceIte] <;> try subst hnil)))))
      have hmm : (g.vs.map fun v => nrm (tf v)).take k = g.vs.map fun v => nrm (tf v) := List.take_of_length_le (by simp; omega)
      rw [hmm] at hz
      exact ⟨z, k, ⟨rfl, rfl⟩, _, by rw [if_neg (by omega), hz], by simp; omega, ⟨hkk, by rw [List.take_of_length_le (by simp; omega)]; simp⟩, (hKK.set (by omega) _).set (by omega) _⟩

end Go.Proofs.YtphdhggoaijfoaaGreat.Aw
