/- slices.Collect(slices.Values(s)) as a contract over logical values. -/
import Derived.Test.YtphdhggoaijfoaaRgV
import Derived.Test.YtphdhggoaijfoaaAwX
import Derived.Test.YtphdhggoaijfoaaAwSet
namespace Go.Proofs.Ytphdhggoaijfoaa.Aw
open Go Go.RowKit
set_option linter.unusedSimpArgs false
set_option linter.unusedVariables false

theorem below_ext {w w' : World} (g : G) (h : Below w.heap.size w w') : Ext w g w' g :=
  ⟨h.os, h.tape, h.output, h.size, Nat.le_refl _, fun _ _ => rfl, fun _ _ => rfl, fun _ _ => rfl, fun b hb hn => ⟨hn, h.block b hb⟩, fun b k hb hk => ⟨k, hk, Nat.le_refl _, fun o _ => World.cell?_of_block (w := w) (h.block b hb)⟩⟩

theorem inv_below {w w' : World} {g : G} {st : St} (hi : Inv w g st) (h : Below w.heap.size w w') : Inv w' g st := by
  have he' := below_ext g h
  refine ⟨hi.next, hi.pos, hi.fresh, fun l hl => Nat.lt_of_lt_of_le (hi.lt l hl) h.size, hi.inj, ?_, ?_, ?_⟩
  · intro l e s n hl
    obtain ⟨h1, h2, h3, h4⟩ := hi.own l e s n hl
    refine ⟨h1, h2, h3, fun hnl => ?_⟩
    obtain ⟨cur, k1, k2, k3⟩ := h4 hnl
    exact ⟨cur, by rw [h.block _ (Array.getElem?_eq_some_iff.1 k1).1]; exact k1, k2, k3⟩
  · intro l e s cs hl
    obtain ⟨h1, h2, h3⟩ := hi.box l e s cs hl
    refine ⟨h1, h2, fun hnl => ?_⟩
    obtain ⟨cur, k1, k2, k3, k4, k5⟩ := h3 hnl
    exact ⟨cur, by rw [h.block _ (Array.getElem?_eq_some_iff.1 k1).1]; exact k1, k2, k3, RepL.mono he' _ _ k4, k5⟩
  · intro l ag ks es hl
    have hm := hi.mp l ag ks es hl
    exact hm.keep he' (hi.map_lt hl) (h.block _ hm.blk_lt) rfl

/-- A row that a call has laid is taken in as a box. -/
theorem adopt_row {w w' : World} {g : G} {st : St} (hi : Inv w g st) (h : Below w.heap.size w w') {e : TypeId} {v : Value} {zs : List Value} {cs : List LV} (hrow : w'.ownsRow w.heap.size e 1 v zs.length zs) (hr : ∀ w g, RepL w g cs zs) :
    ∃ g', Rep w' g' (.ms st.next 0 zs.length) v ∧ Inv w' g' (st.new (.box e 1 cs)) ∧ Ext w g w' g' := by
  have hi' := inv_below hi h
  have hcl : cs.length = zs.length := repL_length _ _ (hr w g)
  rcases hrow.2 with ⟨rfl, hn⟩ | ⟨b, cap, cur, rfl, hb, hcur, h1, h2, h3, h4⟩
  · have hcs : cs = [] := List.eq_nil_of_length_eq_zero (by omega)
    subst hcs
    refine ⟨g.addNil, ?_, inv_nil hi' _ (.inr ⟨_, _, rfl⟩), (below_ext g h).trans (ext_nil w' g)⟩
    simp only [Rep, hn]
    exact ⟨none, 0, rfl, Nat.le_refl _, Nat.zero_le _, by simp [G.addNil, hi.next], by simp, by simp [G.addNil, hi.next]⟩
  · have hnx := hi.next
    have hext : Ext w g w' (g.add b 0 cap false) := by
      refine ⟨h.os, h.tape, h.output, h.size, Nat.le_succ _, ?_, ?_, ?_, ?_, ?_⟩
      · intro l hl; simp [G.add, Nat.ne_of_lt hl]
      · intro l hl; simp [G.add, Nat.ne_of_lt hl]
      · intro l hl; simp [G.add, Nat.ne_of_lt hl]
      · intro x hx hn; exact ⟨by simp only [G.add]; rw [if_neg (by omega)]; exact hn, h.block x hx⟩
      · intro x k hx hk; exact ⟨k, by simp only [G.add]; rw [if_neg (by omega)]; exact hk, Nat.le_refl _, fun o _ => World.cell?_of_block (w := w) (h.block x hx)⟩
    have hold : ∀ l, blk g st l → g.β l ≠ b := fun l hl => by have := hi.lt l hl; omega
    have hblt : b < w'.heap.size := (Array.getElem?_eq_some_iff.1 hcur).1
    refine ⟨g.add b 0 cap false, ?_, ?_, hext⟩
    · simp only [Rep, G.add, hnx, if_pos]
      exact ⟨_, cap, rfl, h1, h2, fun _ => ⟨rfl, fun _ => rfl⟩, fun _ => rfl, Nat.lt_succ_self _⟩
    · refine ⟨by simp [G.add, St.new, hnx], by simp [St.new], ?_, ?_, ?_, ?_, ?_, ?_⟩
      · intro l hl
        simp only [St.new] at hl ⊢
        rw [if_neg (by omega)]
        exact hi.fresh l (by omega)
      · intro l hl
        by_cases e0 : l = st.next
        · subst e0; simp [G.add, hnx, hblt]
        · rw [blk_old hnx e0] at hl
          have := hi'.lt l hl
          simp only [G.add, hnx, if_neg e0]; exact this
      · intro l l' hl hl' hbb
        by_cases e0 : l = st.next <;> by_cases e1 : l' = st.next
        · omega
        · rw [blk_old hnx e1] at hl'
          simp only [G.add, hnx, if_pos e0, if_neg e1] at hbb
          exact absurd hbb.symm (hold l' hl')
        · rw [blk_old hnx e0] at hl
          simp only [G.add, hnx, if_pos e1, if_neg e0] at hbb
          exact absurd hbb (hold l hl)
        · rw [blk_old hnx e0] at hl
          rw [blk_old hnx e1] at hl'
          simp only [G.add, hnx, if_neg e1, if_neg e0] at hbb
          exact hi.inj l l' hl hl' hbb
      · intro l e' s n hl
        by_cases e0 : l = st.next
        · simp [St.new, e0] at hl
        · simp only [St.new, if_neg e0] at hl
          obtain ⟨q1, q2, q3, q4⟩ := hi'.own l e' s n hl
          simp only [G.add, hnx, if_neg e0]
          refine ⟨q1, q2, q3, fun hnl => ?_⟩
          obtain ⟨c', k1, k2, k3⟩ := q4 hnl
          have hne := hold l (by unfold blk; rw [hl]; exact hnl)
          exact ⟨c', k1, k2, by rw [if_neg hne]; exact k3⟩
      · intro l e' s' cs' hl
        by_cases e0 : l = st.next
        · simp only [St.new, if_pos e0] at hl
          injection hl with a1 a2 a3
          subst a1 a2 a3
          refine ⟨?_, ?_, fun _ => ⟨cur.toList, ?_, ?_, ?_, ?_, ?_⟩⟩
          · simp only [G.add, hnx, if_pos e0]; exact h2
          · simp [G.add, hnx, e0]
          · simp only [G.add, hnx, if_pos e0]; simpa using hcur
          · simp only [G.add, hnx, if_pos e0]; simpa using h3
          · simp only [Array.length_toList]; omega
          · have : cur.toList.take cs.length = zs := by rw [hcl]; simpa using h4
            rw [this]; exact hr _ _
          · simp [G.add, hnx, e0]
        · simp only [St.new, if_neg e0] at hl
          obtain ⟨k3, k0, k'⟩ := hi'.box l e' s' cs' hl
          refine ⟨?_, ?_, fun hnl => ?_⟩
          · simp only [G.add, hnx, if_neg e0]; exact k3
          · simp only [G.add, hnx, if_neg e0]; exact k0
          simp only [G.add, hnx, if_neg e0] at hnl
          obtain ⟨cur', k1, k2, k4, k5, k6⟩ := k' hnl
          have hne := hold l (by unfold blk; rw [hl]; exact hnl)
          obtain ⟨_, _, k'⟩ := hi.box l e' s' cs' hl
          obtain ⟨cur2, m1, m2, m4, m5, m6⟩ := k' hnl
          have hlt := (Array.getElem?_eq_some_iff.1 m1).1
          refine ⟨cur2, ?_, ?_, m4, RepL.mono hext _ _ m5, ?_⟩
          · simp only [G.add, hnx, if_neg e0]; rw [h.block _ hlt]; exact m1
          · simp only [G.add, hnx, if_neg e0]; exact m2
          · simp only [G.add, hnx, if_neg e0]; rw [if_neg hne]; exact m6
      · intro l ag ks es hl
        by_cases e0 : l = st.next
        · simp [St.new, e0] at hl
        · simp only [St.new, if_neg e0] at hl
          have hm := hi.mp l ag ks es hl
          exact hm.keep hext (hi.map_lt hl) (h.block _ hm.blk_lt) (by simp only [G.add]; rw [if_neg (hold l (hi.map_blk hl))])

theorem repL_us (w : World) (g : G) : ∀ l : List Int, RepL w g (us l) (l.map (Value.int .u32))
  | [] => by simp [RepL]
  | a :: l => by simp only [List.map_cons, RepL, Rep]; exact ⟨_, _, rfl, rfl, repL_us w g l⟩
theorem us_vals {w : World} {g : G} : ∀ (l : List Int) (ws : List Value), RepL w g (us l) ws → ws = l.map (Value.int .u32)
  | [], ws, h => by simpa [RepL] using h
  | a :: l, ws, h => by
    simp only [List.map_cons, RepL, Rep] at h
    obtain ⟨v, ws', rfl, rfl, h2⟩ := h
    rw [us_vals l ws' h2]; rfl

theorem Collect (l : List Int) (x : LV) (q : Nat) (st : St) (hl : l.length ≤ 1048576) (hH : st.H q = .box 27 1 [x]) (hx : srcT tab 27 st x = some (l.length, us l)) :
    ACalls Try.prog 109 [.fn (.func 110) [.pt q 0]] st fun r st' => r = .ms st.next 0 l.length ∧ st' = st.new (.box 22 1 (us l)) := by
  refine ⟨enters_of Try.func109 (by kernel_rfl) rfl, fun w g vs hi hr => ?_⟩
  simp only [RepL, Rep] at hr
  obtain ⟨v, _, rfl, ⟨us1, rfl, v1, _, rfl, ⟨rfl, hq⟩, rfl⟩, rfl⟩ := hr
  obtain ⟨_, b2, b3⟩ := hi.box q _ _ _ hH
  have hnl : g.nl q = false := by
    cases hn : g.nl q with
    | false => rfl
    | true => obtain ⟨_, h⟩ := b2 hn; cases h
  obtain ⟨cur, k1, k2, k3, k4, k5⟩ := b3 hnl
  simp only [List.length_cons, List.length_nil, Nat.zero_add, RepL] at k4 k3
  obtain ⟨sv, rest, hsv, hrep, _⟩ := k4
  have hc0 : w.cell? ⟨g.β q, 0, none⟩ = some sv := by
    rw [cell_of_row w _ _ _ _ _ k1]
    cases cur with
    | nil => simp at k3
    | cons a cur => simp at hsv; simp [hsv.1]
  have hI : Rg.Ints w.heap.size w sv l := by
    obtain ⟨A, cap, rfl, hrw⟩ := src_sound hi hx hrep
    by_cases hl0 : l = []
    · subst hl0; exact .inl ⟨rfl, A, cap, rfl⟩
    · obtain ⟨b, o, ws, rfl, m1, m2⟩ := hrw (by cases l with | nil => exact absurd rfl hl0 | cons a l => simp)
      have hws := us_vals l ws m1
      refine .inr ⟨b, o, cap, rfl, ?_, fun j hj => ?_⟩
      · have h0 := m2 0 (by cases l with | nil => exact absurd rfl hl0 | cons a l => simp)
        rw [hws] at h0
        cases l with
        | nil => exact absurd rfl hl0
        | cons a l => exact cell_lt (a := ⟨b, o + 0, none⟩) (v := .int .u32 a) (by simpa using h0)
      · rw [m2 j (by simpa using hj), hws]
        simp [hj]
  refine (((Rg.collect_in Fence.wide 4 trivial trivial trivial rfl (Nat.le_refl _) (g.β q) sv l hl w (cell_lt hc0) hc0 hI).calls room_wide)).mono ?_
  rintro e w' ⟨v, rfl, hrow, hbel⟩
  have hlen : l.length = (l.map (Value.int .u32)).length := by simp
  rw [hlen] at hrow
  obtain ⟨g', h1, h2, h3⟩ := adopt_row (cs := us l) hi hbel hrow (fun w g => repL_us w g l)
  rw [← hlen] at h1
  exact ⟨v, _, _, g', rfl, ⟨rfl, rfl⟩, h1, h2, h3⟩

/-- The evaluator's own word for Collect(Values(..)). -/
def prim : XCall := fun f args st => if f = 109 then match args with
    | [.fn (.func g) [.pt q 0]] => if g = 110 then match st.H q with
        | .box e s [x] => if e = 27 ∧ s = 1 then match srcT tab 27 st x with
            | some (n, ds) => match intsL ds with
              | some (ks, ns) => if (ks.all fun k => decide (k = .u32)) = true ∧ ns.length = n ∧ n ≤ 1048576 then some [(.ms st.next 0 n, st.new (.box 22 1 (us ns)))] else none
              | none => none
            | none => none
          else none
        | _ => none
      else none
    | _ => none
  else none

theorem intsL_us : ∀ (ds : List LV) (ks : List IntKind) (ns : List Int), intsL ds = some (ks, ns) → (ks.all fun k => decide (k = .u32)) = true → ds = us ns
  | [], ks, ns, h, _ => by simp only [intsL, Option.some.injEq, Prod.mk.injEq] at h; obtain ⟨rfl, rfl⟩ := h; rfl
  | c :: ds, ks, ns, h, ha => by
    cases c with
    | atom x =>
      cases x with
      | int k n =>
        simp only [intsL] at h
        cases hi : intsL ds with
        | none => simp [hi] at h
        | some p =>
          obtain ⟨ks', ns'⟩ := p
          simp only [hi, Option.some.injEq, Prod.mk.injEq] at h
          obtain ⟨rfl, rfl⟩ := h
          simp only [List.all_cons, Bool.and_eq_true, decide_eq_true_eq] at ha
          obtain ⟨rfl, ha⟩ := ha
          rw [intsL_us ds ks' ns' hi ha]; rfl
      | _ => simp [intsL] at h
    | _ => simp [intsL] at h

theorem prim_ok : CallOk Try.prog prim := by
  intro f args st rs h
  unfold prim at h
  split at h
  · rename_i hf
    subst hf
    split at h
    · rename_i g q
      split at h
      · rename_i hg
        subst hg
        split at h
        · rename_i e s x hH
          split at h
          · rename_i hes
            obtain ⟨rfl, rfl⟩ := hes
            split at h
            · rename_i n ds hsrc
              split at h
              · rename_i ks ns hin
                split at h
                · rename_i hc
                  obtain ⟨c1, rfl, c3⟩ := hc
                  injection h with h
                  subst h
                  have := intsL_us ds ks ns hin c1
                  subst this
                  exact (Collect ns x q st c3 hH hsrc).mono (by rintro r st' ⟨rfl, rfl⟩; simp)
                · cases h
              · cases h
            · cases h
          · cases h
        · cases h
      · cases h
    · cases h
  · cases h

end Go.Proofs.Ytphdhggoaijfoaa.Aw
