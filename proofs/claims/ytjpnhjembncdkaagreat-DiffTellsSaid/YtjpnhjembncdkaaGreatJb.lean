/- The library's sort by a function, at rows of rows. Written by gencmp.py. The library's sort: siftDown, heapSort. The library's sort: heapSort. The library's sort: partition. Written by gensort.py. The library's sort: partitionEqual. Written by gensort.py. The library's sort: partialInsertionSort. The library's sort: choosePivot. The library's sort: Len, nextPowerOfTwo, breakPatterns. The library's sort: pdqsort, Sort. Rows of int: neighbours dropped that are alike, places in a rising row. No program. Rows of int: Compact. slices.Collect(slices.Values(s)) as a contract over logical values. What each chapter's example answers. Maps as values. Maps: what is set is got. Graphs: Has, Vert, number, Check. Graphs: Check, by the program and by the document; the law GraphChecks. Graphs and maps, made: Clone of edges, copied, Of; Same. Maps, made of turns: Of; the law RotMakes. Graphs: Ends. Graphs: near, Alone. What hangs together in a graph. No program. Graphs: Parts. Graphs: the document's parts. Graphs: the document's Parts; places of edges. Graphs: Keep. Graphs that may be; what the parts have together. No program. -/
import Derived.Test.YtjpnhjembncdkaaGreatJa
import Derived.Test.YtjpnhjembncdkaaGreatAwTd
import Derived.Test.YtjpnhjembncdkaaGreatAwX
import Derived.Test.YtjpnhjembncdkaaGreatAwSet
import Derived.Test.YtjpnhjembncdkaaGreatAwFn
import Derived.Test.YtjpnhjembncdkaaGreatAwShp
namespace Go.Proofs.YtjpnhjembncdkaaGreat.Aw.CA
open Go Go.RowKit Go.Proofs.YtjpnhjembncdkaaGreat.Pl
set_option linter.unusedSimpArgs false
set_option linter.unusedVariables false

/-- A function that holds two elements against each other: their labels' order is its. -/
structure CmpW (fid : FuncId) (caps : List LV) (en : Int → Nat) (ec : Int → List LV) (Dm : Int → Prop) : Prop where
  call : ∀ x y st, Dm x → Dm y → ACalls Tryz.prog fid ([.sl 0 (en x) (ec x), .sl 0 (en y) (ec y)] ++ caps) st fun r st' => (∃ n, r = i n ∧ (n < 0 ↔ x < y)) ∧ st' = st
abbrev ws (en : Int → Nat) (ec : Int → List LV) (c : List Int) : List LV := c.map fun x => .sl 0 (en x) (ec x)
/-- The state with a row in its box. -/
abbrev bx (en : Int → Nat) (ec : Int → List LV) (st : St) (q : Nat) (c : List Int) : St := st.set q (.box 22 1 (ws en ec c))
end Go.Proofs.YtjpnhjembncdkaaGreat.Aw.CA

namespace Go.Proofs.YtjpnhjembncdkaaGreat.Aw.CA
open Go Go.RowKit Go.Proofs.YtjpnhjembncdkaaGreat.Pl
set_option linter.unusedSimpArgs false
set_option linter.unusedVariables false

theorem awp_cut1 {P : Program} {N : Nat} {Q : AQ} {k : List AItem} {fr : Frm} {st : St} {x y : Code} (I : Frm → St → Prop) (h1 : AWp P N x (AK P N (fun e f s => e = .normal ∧ I f s) []) fr st) (h2 : ∀ fr st, I fr st → AWp P N y (AK P N Q k) fr st) :
    AWp P N x (AK P N Q (.code y :: k)) fr st := by
  refine awp_mono h1 ?_
  rintro e fr' st' ⟨rfl, hI⟩
  rw [ak_code]
  exact h2 _ _ hI
def MaxC (c : List Int) (f r hi ch : Nat) : Prop := ∀ x, (x = 2 * r + 1 ∨ x = 2 * r + 2) → x < hi → c.getD (f + x) 0 ≤ c.getD (f + ch) 0

end Go.Proofs.YtjpnhjembncdkaaGreat.Aw.CA

namespace Go.Proofs.YtjpnhjembncdkaaGreat.Aw.CA
open Go Go.RowKit Go.Proofs.YtjpnhjembncdkaaGreat.Pl
set_option linter.unusedSimpArgs false
set_option linter.unusedVariables false

/-- The last ones stand in order, above all. -/
def Last (c : List Int) (f j hi : Nat) : Prop := ∀ p q, p < q → j ≤ q → q < hi → c.getD (f + p) 0 ≤ c.getD (f + q) 0

end Go.Proofs.YtjpnhjembncdkaaGreat.Aw.CA

namespace Go.Proofs.YtjpnhjembncdkaaGreat.Aw.CA
open Go Go.RowKit Go.Proofs.YtjpnhjembncdkaaGreat.Pl
set_option linter.unusedSimpArgs false
set_option linter.unusedVariables false

def StU (P : Int → Bool) (c : List Int) (ii jj : Nat) : Prop := ii ≤ jj → P (c.getD ii 0) = false
def StD (P : Int → Bool) (c : List Int) (ii kk : Nat) : Prop := ii ≤ kk → P (c.getD kk 0) = true

end Go.Proofs.YtjpnhjembncdkaaGreat.Aw.CA

namespace Go.Proofs.YtjpnhjembncdkaaGreat.Aw.CA
open Go Go.RowKit Go.Proofs.YtjpnhjembncdkaaGreat.Pl
set_option linter.unusedSimpArgs false
set_option linter.unusedVariables false

end Go.Proofs.YtjpnhjembncdkaaGreat.Aw.CA

namespace Go.Proofs.YtjpnhjembncdkaaGreat.Aw.CA
open Go Go.RowKit Go.Proofs.YtjpnhjembncdkaaGreat.Pl
set_option linter.unusedSimpArgs false
set_option linter.unusedVariables false

/-- The one ahead of a range isn't greater than those in it. -/
def Ahead (l : List Int) (a b : Nat) : Prop := 0 < a → ∀ j, a ≤ j → j < b → l.getD (a - 1) 0 ≤ l.getD j 0
def Falls (c : List Int) (k b : Nat) : Prop := k < b → c.getD k 0 < c.getD (k - 1) 0
def SrtIf (p : Bool) (a b : Nat) (c : List Int) : Prop := p = true → Srt a b c

def PinI (fid : FuncId) (caps : List LV) (en : Int → Nat) (ec : Int → List LV) (q a b k j : Nat) (l : List Int) (st : St) (fr : Frm) (st2 : St) : Prop := ∃ c : List Int, (fr 0 = .ms q 0 l.length ∧ fr 3 = .fn (.func fid) caps) ∧ fr 1 = i a ∧ fr 2 = i b ∧ fr 9 = i k ∧ fr 10 = i j ∧ st2 = bx en ec st q c ∧ Pm a b l c ∧ Srt a k c

end Go.Proofs.YtjpnhjembncdkaaGreat.Aw.CA

namespace Go.Proofs.YtjpnhjembncdkaaGreat.Aw.CA
open Go Go.RowKit Go.Proofs.YtjpnhjembncdkaaGreat.Pl
set_option linter.unusedSimpArgs false
set_option linter.unusedVariables false

abbrev ix (st : St) (p : Nat) (s : Int) : St := st.set p (.box 3 1 [i s])
def PivI (fid : FuncId) (caps : List LV) (en : Int → Nat) (ec : Int → List LV) (q n a b : Nat) (st : St) (fr : Frm) (st2 : St) : Prop := ∃ (j1 j2 j3 : Nat) (s : Int), (fr 0 = .ms q 0 n ∧ fr 3 = .fn (.func fid) caps) ∧ fr 11 = .pt st.next 0 ∧ fr 12 = i j1 ∧ fr 13 = i j2 ∧ fr 14 = i j3 ∧ a ≤ j1 ∧ j1 < b ∧ a ≤ j2 ∧ j2 < b ∧ a ≤ j3 ∧ j3 < b ∧ st2 = ix (st.new (.box 3 1 [i 0])) st.next s

end Go.Proofs.YtjpnhjembncdkaaGreat.Aw.CA

namespace Go.Proofs.YtjpnhjembncdkaaGreat.Aw.CA
open Go Go.RowKit Go.Proofs.YtjpnhjembncdkaaGreat.Pl
set_option linter.unusedSimpArgs false
set_option linter.unusedVariables false

def BrkI (fid : FuncId) (caps : List LV) (en : Int → Nat) (ec : Int → List LV) (q p a b n m k : Nat) (l : List Int) (st : St) (fr : Frm) (st2 : St) : Prop := (fr 0 = .ms q 0 l.length ∧ fr 3 = .fn (.func fid) caps) ∧ fr 1 = i a ∧ fr 8 = i n ∧ fr 9 = .pt p 0 ∧ fr 10 = uw m ∧ fr 11 = i k ∧ p < st2.next ∧ OffS q st st2 ∧ (∃ s, st2.H p = .box 240 1 [uw s]) ∧ ∃ c, st2.H q = .box 22 1 (ws en ec c) ∧ Pm a b l c
def BrkJ (fid : FuncId) (caps : List LV) (en : Int → Nat) (ec : Int → List LV) (q p a b n m k : Nat) (l : List Int) (st : St) (fr : Frm) (st2 : St) : Prop := BrkI fid caps en ec q p a b n m k l st fr st2 ∧ ∃ o : Nat, o < n ∧ fr 12 = i o

end Go.Proofs.YtjpnhjembncdkaaGreat.Aw.CA

namespace Go.Proofs.YtjpnhjembncdkaaGreat.Aw.CA
open Go Go.RowKit Go.Proofs.YtjpnhjembncdkaaGreat.Pl
set_option linter.unusedSimpArgs false
set_option linter.unusedVariables false

theorem Srt.out {a m : Nat} {c d : List Int} (h : Srt a m c) (e : ∀ j, a ≤ j → j < m → d.getD j 0 = c.getD j 0) : Srt a m d := by
  intro p q h1 h2 h3
  rw [e p h1 (by omega), e q (by omega) h3]; exact h p q h1 h2 h3
/-- Whoever puts the rest in order has put it all in order. -/
def Fin9 (a b a' b' : Nat) (c : List Int) : Prop := ∀ d, Pm a' b' c d → Srt a' b' d → Srt a b d
def PdI (fid : FuncId) (caps : List LV) (en : Int → Nat) (ec : Int → List LV) (q : Nat) (l : List Int) (st : St) (a b a' b' : Nat) (wb wp : Bool) (lim n : Nat) (fr : Frm) (st2 : St) : Prop :=
  (fr 0 = .ms q 0 l.length ∧ fr 4 = .fn (.func fid) caps) ∧ fr 1 = i a' ∧ fr 2 = i b' ∧ fr 3 = i lim ∧ fr 10 = bb wb ∧ fr 11 = bb wp ∧ fr 12 = i n ∧ lim < 1000000 ∧ q < st2.next ∧ OffS q st st2 ∧ ∃ c, st2.H q = .box 22 1 (ws en ec c) ∧ Pm a b l c ∧ Ahead c a' b' ∧ Fin9 a b a' b' c
theorem PdI.mk {fid : FuncId} {caps : List LV} {en : Int → Nat} {ec : Int → List LV} {q : Nat} {l : List Int} {st : St} {a b a' b' : Nat} {wb wp : Bool} {lim n : Nat} {fr : Frm} {st2 : St} {c : List Int} (f0 : (fr 0 = .ms q 0 l.length ∧ fr 4 = .fn (.func fid) caps)) (f1 : fr 1 = i a') (f2 : fr 2 = i b') (f3 : fr 3 = i lim) (f8 : fr 10 = bb wb) (f9 : fr 11 = bb wp) (f10 : fr 12 = i n) (hlm : lim < 1000000) (hqn : q < st2.next) (ho : OffS q st st2) (hc : st2.H q = .box 22 1 (ws en ec c)) (hp : Pm a b l c) (ha : Ahead c a' b') (hf : Fin9 a b a' b' c) : PdI fid caps en ec q l st a b a' b' wb wp lim n fr st2 :=
  ⟨f0, f1, f2, f3, f8, f9, f10, hlm, hqn, ho, c, hc, hp, ha, hf⟩
def PdJ (fid : FuncId) (caps : List LV) (en : Int → Nat) (ec : Int → List LV) (q : Nat) (l : List Int) (st : St) (a b a' b' : Nat) (wb wp : Bool) (n : Nat) (fr : Frm) (st2 : St) : Prop := ∃ lim, PdI fid caps en ec q l st a b a' b' wb wp lim n fr st2
def PdK (fid : FuncId) (caps : List LV) (en : Int → Nat) (ec : Int → List LV) (q : Nat) (l : List Int) (st : St) (a b a' b' : Nat) (wb wp : Bool) (n : Nat) (fr : Frm) (st2 : St) : Prop := ∃ lim, PdI fid caps en ec q l st a b a' b' wb wp lim n fr st2 ∧ ∃ (pv : Nat) (h : Int), a' ≤ pv ∧ pv < b' ∧ fr 13 = i pv ∧ fr 14 = i h

end Go.Proofs.YtjpnhjembncdkaaGreat.Aw.CA

namespace Go.Proofs.YtjpnhjembncdkaaGreat.Aw.I
open Go Go.RowKit Go.Proofs.YtjpnhjembncdkaaGreat.Pl
set_option linter.unusedSimpArgs false
set_option linter.unusedVariables false

/-- Of the first k, each that is unlike the one ahead of it. -/
def cptT (c : List Int) : Nat → List Int
  | 0 => []
  | k + 1 => if k = 0 ∨ c.getD k 0 ≠ c.getD (k - 1) 0 then cptT c k ++ [c.getD k 0] else cptT c k
structure Rsn (c : List Int) (k : Nat) (l : List Int) : Prop where
  lt : l.Pairwise (· < ·)
  mem : ∀ y, y ∈ l ↔ ∃ j, j < k ∧ c.getD j 0 = y
/-- Compacted. -/
def cpt (c : List Int) : List Int := cptT c c.length
/-- How many are less. -/
def below (c : List Int) (k : Int) : Nat := (c.filter fun y => decide (y < k)).length
end Go.Proofs.YtjpnhjembncdkaaGreat.Aw.I

namespace Go.Proofs.YtjpnhjembncdkaaGreat.Aw.I
open Go Go.RowKit Go.Proofs.YtjpnhjembncdkaaGreat.Pl
set_option linter.unusedSimpArgs false
set_option linter.unusedVariables false

end Go.Proofs.YtjpnhjembncdkaaGreat.Aw.I

namespace Go.Proofs.YtjpnhjembncdkaaGreat.Aw
open Go Go.RowKit
set_option linter.unusedSimpArgs false
set_option linter.unusedVariables false

theorem below_ext {w w' : World} (g : G) (h : Below w.heap.size w w') : Ext w g w' g :=
  ⟨h.os, h.tape, h.output, h.size, Nat.le_refl _, fun _ _ => rfl, fun _ _ => rfl, fun _ _ => rfl, fun b hb hn => ⟨hn, h.block b hb⟩, fun b k hb hk => ⟨k, hk, Nat.le_refl _, fun o _ => World.cell?_of_block (w := w) (h.block b hb)⟩⟩

theorem inv_below {w w' : World} {g : G} {st : St} (hi : Inv w g st) (h : Below w.heap.size w w') : Inv w' g st := by
  have he' := below_ext g h
  refine ⟨hi.next, hi.pos, hi.fresh, fun l hl => Nat.lt_of_lt_of_le (hi.lt l hl) h.size, hi.inj, ?_, ?_, ?_, ?_⟩
  · intro l e s n hl
    obtain ⟨h1, h2, h3, h4⟩ := hi.own l e s n hl
    refine ⟨h1, h2, h3, fun hnl => ?_⟩
    obtain ⟨cur, k1, k2, k3⟩ := h4 hnl
    exact ⟨cur, by rw [h.block _ (Array.getElem?_eq_some_iff.1 k1).1]; exact k1, k2, k3⟩
  · intro l e s cs hl
    obtain ⟨h1, h2, h3⟩ := hi.box l e s cs hl
    refine ⟨h1, h2, fun hnl => ?_⟩
    obtain ⟨cur, k1, k2, k3, k4, k5⟩ := h3 hnl
    exact ⟨cur, by rw [h.block _ (Array.getElem?_eq_some_iff.1 k1).1]; exact k1, k2, k3, RepL.mono he' _ _ k4, k5⟩
  · intro l ag ks es hl
    have hm := hi.mp l ag ks es hl
    exact hm.keep he' (hi.map_lt hl) (h.block _ hm.blk_lt) rfl
  · intro l e n hl
    have hm := hi.qu l e n hl
    exact hm.keep he' (hi.que_lt hl) (h.block _ hm.blk_lt) rfl

/-- A row that a call has laid is taken in as a box. -/
theorem adopt_row {w w' : World} {g : G} {st : St} (hi : Inv w g st) (h : Below w.heap.size w w') {e : TypeId} {v : Value} {zs : List Value} {cs : List LV} (hrow : w'.ownsRow w.heap.size e 1 v zs.length zs) (hr : ∀ w g, RepL w g cs zs) :
    ∃ g', Rep w' g' (.ms st.next 0 zs.length) v ∧ Inv w' g' (st.new (.box e 1 cs)) ∧ Ext w g w' g' := by
  have hi' := inv_below hi h
  have hcl : cs.length = zs.length := repL_length _ _ (hr w g)
  rcases hrow.2 with ⟨rfl, hn⟩ | ⟨b, cap, cur, rfl, hb, hcur, h1, h2, h3, h4⟩
  · have hcs : cs = [] := List.eq_nil_of_length_eq_zero (by omega)
    subst hcs
    refine ⟨g.addNil, ?_, inv_nil hi' _ (.inr ⟨_, _, rfl⟩), (below_ext g h).trans (ext_nil w' g)⟩
    simp only [Rep, hn]
    exact ⟨none, 0, rfl, Nat.le_refl _, Nat.zero_le _, by simp [G.addNil, hi.next], by simp, by simp [G.addNil, hi.next]⟩
  · have hnx := hi.next
    have hext : Ext w g w' (g.add b 0 cap false) := by
      refine ⟨h.os, h.tape, h.output, h.size, Nat.le_succ _, ?_, ?_, ?_, ?_, ?_⟩
      · intro l hl; simp [G.add, Nat.ne_of_lt hl]
      · intro l hl; simp [G.add, Nat.ne_of_lt hl]
      · intro l hl; simp [G.add, Nat.ne_of_lt hl]
      · intro x hx hn; exact ⟨by simp only [G.add]; rw [if_neg (by omega)]; exact hn, h.block x hx⟩
      · intro x k hx hk; exact ⟨k, by simp only [G.add]; rw [if_neg (by omega)]; exact hk, Nat.le_refl _, fun o _ => World.cell?_of_block (w := w) (h.block x hx)⟩
    have hold : ∀ l, blk g st l → g.β l ≠ b := fun l hl => by have := hi.lt l hl; omega
    have hblt : b < w'.heap.size := (Array.getElem?_eq_some_iff.1 hcur).1
    refine ⟨g.add b 0 cap false, ?_, ?_, hext⟩
    · simp only [Rep, G.add, hnx, if_pos]
      exact ⟨_, cap, rfl, h1, h2, fun _ => ⟨rfl, fun _ => rfl⟩, fun _ => rfl, Nat.lt_succ_self _⟩
    · refine ⟨by simp [G.add, St.new, hnx], by simp [St.new], ?_, ?_, ?_, ?_, ?_, ?_, ?_⟩
      · intro l hl
        simp only [St.new] at hl ⊢
        rw [if_neg (by omega)]
        exact hi.fresh l (by omega)
      · intro l hl
        by_cases e0 : l = st.next
        · subst e0; simp [G.add, hnx, hblt]
        · rw [blk_old hnx e0] at hl
          have := hi'.lt l hl
          simp only [G.add, hnx, if_neg e0]; exact this
      · intro l l' hl hl' hbb
        by_cases e0 : l = st.next <;> by_cases e1 : l' = st.next
        · omega
        · rw [blk_old hnx e1] at hl'
          simp only [G.add, hnx, if_pos e0, if_neg e1] at hbb
          exact absurd hbb.symm (hold l' hl')
        · rw [blk_old hnx e0] at hl
          simp only [G.add, hnx, if_pos e1, if_neg e0] at hbb
          exact absurd hbb (hold l hl)
        · rw [blk_old hnx e0] at hl
          rw [blk_old hnx e1] at hl'
          simp only [G.add, hnx, if_neg e1, if_neg e0] at hbb
          exact hi.inj l l' hl hl' hbb
      · intro l e' s n hl
        by_cases e0 : l = st.next
        · simp [St.new, e0] at hl
        · simp only [St.new, if_neg e0] at hl
          obtain ⟨q1, q2, q3, q4⟩ := hi'.own l e' s n hl
          simp only [G.add, hnx, if_neg e0]
          refine ⟨q1, q2, q3, fun hnl => ?_⟩
          obtain ⟨c', k1, k2, k3⟩ := q4 hnl
          have hne := hold l (by unfold blk; rw [hl]; exact hnl)
          exact ⟨c', k1, k2, by rw [if_neg hne]; exact k3⟩
      · intro l e' s' cs' hl
        by_cases e0 : l = st.next
        · simp only [St.new, if_pos e0] at hl
          injection hl with a1 a2 a3
          subst a1 a2 a3
          refine ⟨?_, ?_, fun _ => ⟨cur.toList, ?_, ?_, ?_, ?_, ?_⟩⟩
          · simp only [G.add, hnx, if_pos e0]; exact h2
          · simp [G.add, hnx, e0]
          · simp only [G.add, hnx, if_pos e0]; simpa using hcur
          · simp only [G.add, hnx, if_pos e0]; simpa using h3
          · simp only [Array.length_toList]; omega
          · have : cur.toList.take cs.length = zs := by rw [hcl]; simpa using h4
            rw [this]; exact hr _ _
          · simp [G.add, hnx, e0]
        · simp only [St.new, if_neg e0] at hl
          obtain ⟨k3, k0, k'⟩ := hi'.box l e' s' cs' hl
          refine ⟨?_, ?_, fun hnl => ?_⟩
          · simp only [G.add, hnx, if_neg e0]; exact k3
          · simp only [G.add, hnx, if_neg e0]; exact k0
          simp only [G.add, hnx, if_neg e0] at hnl
          obtain ⟨cur', k1, k2, k4, k5, k6⟩ := k' hnl
          have hne := hold l (by unfold blk; rw [hl]; exact hnl)
          obtain ⟨_, _, k'⟩ := hi.box l e' s' cs' hl
          obtain ⟨cur2, m1, m2, m4, m5, m6⟩ := k' hnl
          have hlt := (Array.getElem?_eq_some_iff.1 m1).1
          refine ⟨cur2, ?_, ?_, m4, RepL.mono hext _ _ m5, ?_⟩
          · simp only [G.add, hnx, if_neg e0]; rw [h.block _ hlt]; exact m1
          · simp only [G.add, hnx, if_neg e0]; exact m2
          · simp only [G.add, hnx, if_neg e0]; rw [if_neg hne]; exact m6
      · intro l ag ks es hl
        by_cases e0 : l = st.next
        · simp [St.new, e0] at hl
        · simp only [St.new, if_neg e0] at hl
          have hm := hi.mp l ag ks es hl
          exact hm.keep hext (hi.map_lt hl) (h.block _ hm.blk_lt) (by simp only [G.add]; rw [if_neg (hold l (hi.map_blk hl))])
      · intro l e' n hl
        by_cases e0 : l = st.next
        · simp [St.new, e0] at hl
        · simp only [St.new, if_neg e0] at hl
          have hm := hi.qu l e' n hl
          exact hm.keep hext (hi.que_lt hl) (h.block _ hm.blk_lt) (by simp only [G.add]; rw [if_neg (hold l (hi.que_blk hl))])

theorem repL_us (w : World) (g : G) : ∀ l : List Int, RepL w g (us l) (l.map (Value.int .u32))
  | [] => by simp [RepL]
  | a :: l => by simp only [List.map_cons, RepL, Rep]; exact ⟨_, _, rfl, rfl, repL_us w g l⟩
theorem us_vals {w : World} {g : G} : ∀ (l : List Int) (ws : List Value), RepL w g (us l) ws → ws = l.map (Value.int .u32)
  | [], ws, h => by simpa [RepL] using h
  | a :: l, ws, h => by
    simp only [List.map_cons, RepL, Rep] at h
    obtain ⟨v, ws', rfl, rfl, h2⟩ := h
    rw [us_vals l ws' h2]; rfl

theorem Collect (l : List Int) (x : LV) (q : Nat) (st : St) (hl : l.length ≤ 1048576) (hH : st.H q = .box 22 1 [x]) (hx : srcT tab 22 st x = some (l.length, us l)) :
    ACalls Tryz.prog 259 [.fn (.func 260) [.pt q 0]] st fun r st' => r = .ms st.next 0 l.length ∧ st' = st.new (.box 32 1 (us l)) := by
  refine ⟨enters_of Tryz.func259 (by kernel_rfl) rfl, fun w g vs hi hr => ?_⟩
  simp only [RepL, Rep] at hr
  obtain ⟨v, _, rfl, ⟨us1, rfl, v1, _, rfl, ⟨rfl, hq⟩, rfl⟩, rfl⟩ := hr
  obtain ⟨_, b2, b3⟩ := hi.box q _ _ _ hH
  have hnl : g.nl q = false := by
    cases hn : g.nl q with
    | false => rfl
    | true => obtain ⟨_, h⟩ := b2 hn; cases h
  obtain ⟨cur, k1, k2, k3, k4, k5⟩ := b3 hnl
  simp only [List.length_cons, List.length_nil, Nat.zero_add, RepL] at k4 k3
  obtain ⟨sv, rest, hsv, hrep, _⟩ := k4
  have hc0 : w.cell? ⟨g.β q, 0, none⟩ = some sv := by
    rw [cell_of_row w _ _ _ _ _ k1]
    cases cur with
    | nil => simp at k3
    | cons a cur => simp at hsv; simp [hsv.1]
  have hI : Rg.Ints w.heap.size w sv l := by
    obtain ⟨A, cap, rfl, hrw⟩ := src_sound hi hx hrep
    by_cases hl0 : l = []
    · subst hl0; exact .inl ⟨rfl, A, cap, rfl⟩
    · obtain ⟨b, o, ws, rfl, m1, m2⟩ := hrw (by cases l with | nil => exact absurd rfl hl0 | cons a l => simp)
      have hws := us_vals l ws m1
      refine .inr ⟨b, o, cap, rfl, ?_, fun j hj => ?_⟩
      · have h0 := m2 0 (by cases l with | nil => exact absurd rfl hl0 | cons a l => simp)
        rw [hws] at h0
        cases l with
        | nil => exact absurd rfl hl0
        | cons a l => exact cell_lt (a := ⟨b, o + 0, none⟩) (v := .int .u32 a) (by simpa using h0)
      · rw [m2 j (by simpa using hj), hws]
        simp [hj]
  refine (((Rg.collect_in Fence.wide 4 trivial trivial trivial rfl (Nat.le_refl _) (g.β q) sv l hl w (cell_lt hc0) hc0 hI).calls room_wide)).mono ?_
  rintro e w' ⟨v, rfl, hrow, hbel⟩
  have hlen : l.length = (l.map (Value.int .u32)).length := by simp
  rw [hlen] at hrow
  obtain ⟨g', h1, h2, h3⟩ := adopt_row (cs := us l) hi hbel hrow (fun w g => repL_us w g l)
  rw [← hlen] at h1
  exact ⟨v, _, _, g', rfl, ⟨rfl, rfl⟩, h1, h2, h3⟩

/-- The evaluator's own word for Collect(Values(..)). -/
def prim : XCall := fun f args st => if f = 259 then match args with
    | [.fn (.func g) [.pt q 0]] => if g = 260 then match st.H q with
        | .box e s [x] => if e = 22 ∧ s = 1 then match srcT tab 22 st x with
            | some (n, ds) => match intsL ds with
              | some (ks, ns) => if (ks.all fun k => decide (k = .u32)) = true ∧ ns.length = n ∧ n ≤ 1048576 then some [(.ms st.next 0 n, st.new (.box 32 1 (us ns)))] else none
              | none => none
            | none => none
          else none
        | _ => none
      else none
    | _ => none
  else none

theorem intsL_us : ∀ (ds : List LV) (ks : List IntKind) (ns : List Int), intsL ds = some (ks, ns) → (ks.all fun k => decide (k = .u32)) = true → ds = us ns
  | [], ks, ns, h, _ => by simp only [intsL, Option.some.injEq, Prod.mk.injEq] at h; obtain ⟨rfl, rfl⟩ := h; rfl
  | c :: ds, ks, ns, h, ha => by
    cases c with
    | atom x =>
      cases x with
      | int k n =>
        simp only [intsL] at h
        cases hi : intsL ds with
        | none => simp [hi] at h
        | some p =>
          obtain ⟨ks', ns'⟩ := p
          simp only [hi, Option.some.injEq, Prod.mk.injEq] at h
          obtain ⟨rfl, rfl⟩ := h
          simp only [List.all_cons, Bool.and_eq_true, decide_eq_true_eq] at ha
          obtain ⟨rfl, ha⟩ := ha
          rw [intsL_us ds ks' ns' hi ha]; rfl
      | _ => simp [intsL] at h
    | _ => simp [intsL] at h

theorem prim_ok : CallOk Tryz.prog prim := by
  intro f args st rs h
  unfold prim at h
  split at h
  · rename_i hf
    subst hf
    split at h
    · rename_i g q
      split at h
      · rename_i hg
        subst hg
        split at h
        · rename_i e s x hH
          split at h
          · rename_i hes
            obtain ⟨rfl, rfl⟩ := hes
            split at h
            · rename_i n ds hsrc
              split at h
              · rename_i ks ns hin
                split at h
                · rename_i hc
                  obtain ⟨c1, rfl, c3⟩ := hc
                  injection h with h
                  subst h
                  have := intsL_us ds ks ns hin c1
                  subst this
                  exact (Collect ns x q st c3 hH hsrc).mono (by rintro r st' ⟨rfl, rfl⟩; simp)
                · cases h
              · cases h
            · cases h
          · cases h
        · cases h
      · cases h
    · cases h
  · cases h

end Go.Proofs.YtjpnhjembncdkaaGreat.Aw

namespace Go.Proofs.YtjpnhjembncdkaaGreat.Aw
open Go Go.RowKit
set_option linter.unusedSimpArgs false
set_option linter.unusedVariables false
end Go.Proofs.YtjpnhjembncdkaaGreat.Aw

namespace Go.Proofs.YtjpnhjembncdkaaGreat.Aw
open Go Go.RowKit
set_option linter.unusedSimpArgs false
set_option linter.unusedVariables false

/-- A map: a graph, and its turns. -/
structure Mp where
  g : Gr
  rots : List (List Int)
  deriving DecidableEq
abbrev rowsL (rs : List (List Int)) : List LV := rs.map fun r => .sl 0 r.length (us r)
abbrev mpL (m : Mp) : List LV := grL m.g ++ [.sl 0 m.rots.length (rowsL m.rots)]

theorem rowsL_drop (rs : List (List Int)) (k : Nat) (hk : k < rs.length) : (rowsL rs).drop k = .sl 0 (rs.getD k []).length (us (rs.getD k [])) :: (rowsL rs).drop (k + 1) := by
  unfold rowsL
  rw [List.drop_eq_getElem_cons (by simpa using hk)]
  simp [hk]

def Mp.ok (m : Mp) : Prop := m.g.ok ∧ m.rots.length ≤ maxLen ∧ ∀ r ∈ m.rots, r.length ≤ maxLen ∧ ∀ x ∈ r, U32 x
theorem shp_mp {lvs : List LV} (h : Shp tab 41 lvs) : ∃ m : Mp, lvs = mpL m ∧ m.ok := by
  obtain ⟨ps, rfl, h1, h2⟩ := shp_struct rfl rfl h
  match ps, h1 with
  | [p, q], _ =>
    obtain ⟨g, rfl, k1⟩ := shp_gr (h2 0 _ p rfl rfl)
    obtain ⟨l, rfl, k3, k4⟩ := shp_uss (h2 1 _ q rfl rfl)
    exact ⟨⟨g, l⟩, rfl, k1, k3, k4⟩

end Go.Proofs.YtjpnhjembncdkaaGreat.Aw

namespace Go.Proofs.YtjpnhjembncdkaaGreat.Aw
open Go Go.RowKit
set_option linter.unusedSimpArgs false
set_option linter.unusedVariables false

theorem mget_mset (es : List (List Int × LV)) (a x : List Int) (v : LV) : mget (mset es a v) x = if x = a then some v else mget es x := by
  induction es with
  | nil =>
    simp only [mset, mget, beq_iff_eq]
  | cons p es ih =>
    by_cases h : a = p.1
    · have : mset (p :: es) a v = (a, v) :: es := by simp [mset, h]
      rw [this]
      simp only [mget, beq_iff_eq]
      by_cases hx : x = a
      · simp [hx]
      · have : ¬ x = p.1 := by rw [← h]; exact hx
        simp [hx, this]
    · have : mset (p :: es) a v = p :: mset es a v := by simp [mset, h]
      rw [this]
      simp only [mget, beq_iff_eq]
      by_cases hx : x = p.1
      · have : ¬ x = a := fun h' => h (by rw [← h', hx])
        rw [if_pos hx, if_neg this, if_pos hx]
      · simp [hx, ih]

end Go.Proofs.YtjpnhjembncdkaaGreat.Aw

namespace Go.Proofs.YtjpnhjembncdkaaGreat.Aw
open Go Go.RowKit Go.Proofs.YtjpnhjembncdkaaGreat.Pl
set_option linter.unusedSimpArgs false
set_option linter.unusedVariables false

@[simp] theorem new_set (st : St) (a b : LObj) : (st.new a).set st.next b = st.new b := St.ext' rfl fun y => by by_cases hy : y = st.next <;> simp [hy]

theorem eds_length (l : List Ed) : (eds l).length = l.length * 3 := by
  induction l with
  | nil => rfl
  | cons e l ih => simp only [eds, List.flatMap_cons, List.length_append, List.length_cons, List.length_nil] at ih ⊢; omega
abbrev ed0 : Ed := ⟨0, 0, 0⟩
theorem eds_drop (l : List Ed) (k : Nat) (hk : k < l.length) : (eds l).drop (k * 3) = u (l.getD k ed0).id :: u (l.getD k ed0).a :: u (l.getD k ed0).b :: eds (l.drop (k + 1)) := by
  induction l generalizing k with
  | nil => simp at hk
  | cons e l ih =>
    cases k with
    | zero => rfl
    | succ k =>
      have : (k + 1) * 3 = k * 3 + 1 + 1 + 1 := by omega
      rw [this]
      simp only [eds, List.flatMap_cons, edL, List.cons_append, List.drop_succ_cons, List.nil_append, List.getD_cons_succ]
      exact ih k (by simpa using hk)

/-- The first of some numbers that isn't 0. -/
def firstNZ (f : Nat → Int) : Nat → Int
  | 0 => 0
  | n + 1 => if firstNZ f n ≠ 0 then firstNZ f n else f n
theorem firstNZ_zero {f : Nat → Int} {n : Nat} (h : ∀ j, j < n → f j = 0) : firstNZ f n = 0 := by
  induction n with
  | zero => rfl
  | succ n ih => simp [firstNZ, ih (fun j hj => h j (by omega)), h n (by omega)]
theorem firstNZ_eq {f : Nat → Int} {n k : Nat} {v : Int} (hk : k < n) (h : ∀ j, j < k → f j = 0) (hv : f k = v) (h0 : v ≠ 0) : firstNZ f n = v := by
  induction n with
  | zero => omega
  | succ n ih =>
    rcases Nat.lt_or_ge k n with h1 | h1
    · have := ih h1
      simp [firstNZ, this, h0]
    · have : k = n := by omega
      subst this
      simp [firstNZ, firstNZ_zero h, hv]

def numb (n ahead : Int) (first : Bool) : Int := if n < 1 ∨ 1048576 < n then 2 else if first = false ∧ n ≤ ahead then 19 else 0
def badV (g : Gr) (k : Nat) : Int := numb (g.vs.getD k 0) (g.vs.getD (k - 1) 0) (decide (k = 0))
def badE (g : Gr) (k : Nat) : Int :=
  let x := g.es.getD k ed0
  let n := numb x.id (g.es.getD (k - 1) ed0).id (decide (k = 0))
  if n ≠ 0 then n else if x.a = x.b then 20 else if x.a ∉ g.vs ∨ x.b ∉ g.vs then 21 else 0
/-- What Check answers. -/
def chk (g : Gr) : Int := if 64 < g.vs.length ∨ 160 < g.es.length then 6 else if firstNZ (badV g) g.vs.length ≠ 0 then firstNZ (badV g) g.vs.length else firstNZ (badE g) g.es.length

theorem Has (g : Gr) (v : Int) (st : St) (hl : small g.vs) :
    ACalls Tryz.prog 45 [.ag (grL g), u v] st fun r st' => r = bb (decide (v ∈ g.vs)) ∧ Keeps st st' := by
  obtain ⟨l, es⟩ := g
  simp only at hl ⊢
  unfold small at hl
  refine acalls_of_body tabOk Tryz.func45 rfl rfl Tryz.ntmps45 (rs := [.tmp 4]) rfl (by simp) ?_
  (repeat' (first | refine awp_seq ?_ | refine awp_block ?_ | (refine w_e [] ?_; intro J hJ; simp only []; simp []; (refine hJ _ _ ?_; clear hJ J; simp only [ak, reduceIte]))))
  refine awp_loop (fun n fr st' => ∃ k : Nat, k ≤ l.length ∧ n = l.length - k ∧ fr 8 = .sl 0 l.length (us l) ∧ fr 1 = u v ∧ fr 9 = i l.length ∧ fr 10 = i k ∧ Keeps st st' ∧ ∀ j (hj : j < l.length), j < k → l[j] ≠ v) l.length ?_ ?_
  · exact ⟨0, by omega, by omega, by simp, by simp, by simp, by simp, Keeps.new _ _, fun j _ h => by omega⟩
  rintro n fr st' ⟨k, hk, rfl, h8, h1, h9, h10, hkp, hno⟩ JJ hJJ
  by_cases hlt : k < l.length
  · have hd := us_drop_head l k hlt
    have hw := nat_add_one k (by omega)
    (repeat' (first | refine awp_seq ?_ | refine awp_block ?_ | (refine awp_skip ?_; simp only [ak, reduceIte]) | (refine awp_ret ?_; simp only [ak, reduceIte]; simp [h8, h1, h9, h10, hlt, hd, hw]) | (refine awp_cond ?_; simp [h8, h1, h9, h10, hlt, hd, hw]; (try with_reducible refine ⟨?_, ?_⟩) <;> (try with_reducible intro hc)) | (refine w_e [] ?_; intro J hJ; simp only []; simp [h8, h1, h9, h10, hlt, hd, hw]; (refine hJ _ _ ?_; clear hJ J; simp only [ak, reduceIte]))))
    · exact ⟨by rw [← hc]; exact List.getElem_mem hlt, hkp⟩
    · refine hJJ _ _ _ ?_ ⟨k + 1, by omega, rfl, by simp [h8], by simp [h1], by simp [h9], by simp, hkp, fun j hj hjk => ?_⟩
      · omega
      · rcases Nat.lt_or_ge j k with h | h
        · exact hno j hj h
        · obtain rfl : j = k := by omega
          exact hc
  · (repeat' (first | refine awp_seq ?_ | (refine awp_exit ?_; simp only [ak, reduceIte]) | (refine awp_ret ?_; simp only [ak, reduceIte]; simp [h8, h1, h9, h10, hlt]) | (refine awp_cond ?_; simp [h8, h1, h9, h10, hlt]) | (refine w_e [] ?_; intro J hJ; simp only []; simp [h8, h1, h9, h10, hlt]; (refine hJ _ _ ?_; clear hJ J; simp only [ak, reduceIte]))))
    refine ⟨fun hm => ?_, hkp⟩
    obtain ⟨j, hj, rfl⟩ := List.getElem_of_mem hm
    exact hno j hj (by omega) rfl

theorem Vert (g : Gr) (v : Int) (st : St) (hl : small g.vs) :
    ACalls Tryz.prog 96 [.ag (grL g), u v] st fun r st' => r = i (gi g.vs v) ∧ Keeps st st' := by
  obtain ⟨l, es⟩ := g
  simp only at hl ⊢
  refine acalls_of_body tabOk Tryz.func96 rfl rfl Tryz.ntmps96 (rs := [.tmp 4]) rfl (by simp) ?_
  (repeat' (first | refine awp_seq ?_ | (refine w_e [] ?_; intro J hJ; simp only []; simp []; (try (refine hJ _ _ ?_; clear hJ J; simp only [ak, reduceIte])))))
  refine callK_ofE (Index l 0 v _ hl) (by simp []) ?_; rintro r st' ⟨rfl, rfl⟩
  (repeat' (first | (refine awp_ret ?_; simp only [ak, reduceIte]; simp []) | (refine e_go ?_; simp []; (refine hJ _ _ ?_; clear hJ J; simp only [ak, reduceIte]))))
  exact Keeps.new _ _

theorem number (n ahead : Int) (first : Bool) (st : St) :
    ACalls Tryz.prog 244 [u n, u ahead, bb first] st fun r st' => r = i (numb n ahead first) ∧ st' = st := by
  unfold numb
  refine acalls_of_body tabOk Tryz.func244 rfl rfl Tryz.ntmps244 (rs := [.tmp 6]) rfl (by simp) ?_
  by_cases h1 : n < 1
  · (repeat' (first | refine awp_seq ?_ | refine awp_block ?_ | (refine awp_ret ?_; simp only [ak, reduceIte]; simp [h1]) | (refine awp_cond ?_; simp [h1]) | (refine w_e [] ?_; intro J hJ; simp only []; simp [h1]; (refine hJ _ _ ?_; clear hJ J; simp only [ak, reduceIte]))))
  by_cases h2 : 1048576 < n
  · (repeat' (first | refine awp_seq ?_ | refine awp_block ?_ | (refine awp_ret ?_; simp only [ak, reduceIte]; simp [h1, h2]) | (refine awp_cond ?_; simp [h1, h2]) | (refine w_e [] ?_; intro J hJ; simp only []; simp [h1, h2]; (refine hJ _ _ ?_; clear hJ J; simp only [ak, reduceIte]))))
  cases first
  · by_cases h3 : n ≤ ahead
    · (repeat' (first | refine awp_seq ?_ | refine awp_block ?_ | (refine awp_ret ?_; simp only [ak, reduceIte]; simp [h1, h2, h3]) | (refine awp_cond ?_; simp [h1, h2, h3]) | (refine w_e [] ?_; intro J hJ; simp only []; simp [h1, h2, h3]; (refine hJ _ _ ?_; clear hJ J; simp only [ak, reduceIte]))))
    · (repeat' (first | refine awp_seq ?_ | refine awp_block ?_ | (refine awp_skip ?_; simp only [ak, reduceIte]) | (refine awp_ret ?_; simp only [ak, reduceIte]; simp [h1, h2, h3]) | (refine awp_cond ?_; simp [h1, h2, h3]) | (refine w_e [] ?_; intro J hJ; simp only []; simp [h1, h2, h3]; (refine hJ _ _ ?_; clear hJ J; simp only [ak, reduceIte]))))
  · (repeat' (first | refine awp_seq ?_ | refine awp_block ?_ | (refine awp_skip ?_; simp only [ak, reduceIte]) | (refine awp_ret ?_; simp only [ak, reduceIte]; simp [h1, h2]) | (refine awp_cond ?_; simp [h1, h2]) | (refine w_e [] ?_; intro J hJ; simp only []; simp [h1, h2]; (refine hJ _ _ ?_; clear hJ J; simp only [ak, reduceIte]))))

end Go.Proofs.YtjpnhjembncdkaaGreat.Aw

namespace Go.Proofs.YtjpnhjembncdkaaGreat.Aw
open Go Go.RowKit Go.Proofs.YtjpnhjembncdkaaGreat.Pl
set_option linter.unusedSimpArgs false
set_option linter.unusedVariables false

theorem ref_Check (g : Gr) (st : St) (hv : g.vs.length ≤ 1000) (he : g.es.length ≤ 1000) :
    ACalls Tryz.prog 14 [.ag (grL g)] st fun r st' => r = i (chk g) ∧ Keeps st st' := by
  have hsm : small g.vs := by unfold small; omega
  refine acalls_of_body tabOk Tryz.func14 rfl rfl Tryz.ntmps14 (rs := [.tmp 2]) rfl (by simp) ?_
  by_cases h1 : (64 : Int) < (g.vs.length : Int)
  · have : chk g = 6 := by unfold chk; rw [if_pos (by omega)]
    (repeat' (first | refine awp_seq ?_ | (refine awp_ret ?_; simp only [ak, reduceIte]; simp [h1, this]) | (refine awp_cond ?_; simp [h1, this]) | (refine w_e [] ?_; intro J hJ; simp only []; simp [h1, this]; (refine hJ _ _ ?_; clear hJ J; simp only [ak, reduceIte]))))
    exact Keeps.new _ _
  by_cases h2 : (160 : Int) < (g.es.length : Int)
  · have : chk g = 6 := by unfold chk; rw [if_pos (by omega)]
    (repeat' (first | refine awp_seq ?_ | (refine awp_ret ?_; simp only [ak, reduceIte]; simp [h1, h2, this]) | (refine awp_cond ?_; simp [h1, h2, this]) | (refine w_e [] ?_; intro J hJ; simp only []; simp [h1, h2, this]; (refine hJ _ _ ?_; clear hJ J; simp only [ak, reduceIte]))))
    exact Keeps.new _ _
  have hch : chk g = if firstNZ (badV g) g.vs.length ≠ 0 then firstNZ (badV g) g.vs.length else firstNZ (badE g) g.es.length := by unfold chk; rw [if_neg (by omega)]
  (repeat' (first | refine awp_seq ?_ | refine awp_block ?_ | (refine awp_skip ?_; simp only [ak, reduceIte]) | (refine awp_cond ?_; simp [h1, h2]) | (refine w_e [] ?_; intro J hJ; simp only []; simp [h1, h2]; (refine hJ _ _ ?_; clear hJ J; simp only [ak, reduceIte]))))
  refine awp_loop (fun n fr st' => ∃ k : Nat, k ≤ g.vs.length ∧ n = g.vs.length - k ∧ fr 1 = .pt st.next 0 ∧ fr 18 = .sl 0 g.vs.length (us g.vs) ∧ fr 19 = i g.vs.length ∧ fr 20 = i k ∧ st' = st.new (.box 25 2 (grL g)) ∧ ∀ j, j < k → badV g j = 0) g.vs.length ?_ ?_
  · exact ⟨0, by omega, by omega, by simp, by simp, by simp, by simp, rfl, fun j h => by omega⟩
  rintro n fr st' ⟨k, hk, rfl, f1, f18, f19, f20, rfl, hno⟩ JJ hJJ
  by_cases hlt : k < g.vs.length
  · have hd := us_drop_getD g.vs k hlt
    have hw := nat_add_one k (by omega)
    have hbad : badV g k = numb (g.vs.getD k 0) (g.vs.getD (k - 1) 0) (decide (k = 0)) := rfl
    have hnext : badV g k = 0 → ∀ j, j < k + 1 → badV g j = 0 := fun hb j hj => by
      rcases Nat.lt_or_ge j k with h | h
      · exact hno j h
      · obtain rfl : j = k := by omega
        exact hb
    have hret : ∀ v, badV g k = v → v ≠ 0 → chk g = v := fun v h0 h1 => by
      have hf := firstNZ_eq hlt hno h0 h1
      rw [hch, hf, if_pos h1]
    generalize hx : g.vs.getD k 0 = x at *
    by_cases hx1 : x < 1
    · have hr := hret 2 (by rw [hbad]; unfold numb; rw [if_pos (.inl hx1)]) (by decide)
      (repeat' (first | refine awp_seq ?_ | refine awp_block ?_ | (refine awp_skip ?_; simp only [ak, reduceIte]) | (refine awp_ret ?_; simp only [ak, reduceIte]; simp [f1, f18, f19, f20, hlt, hd, hw, hx1, hr]) | (refine awp_cond ?_; simp [f1, f18, f19, f20, hlt, hd, hw, hx1, hr]) | (refine w_e [] ?_; intro J hJ; simp only []; simp [f1, f18, f19, f20, hlt, hd, hw, hx1, hr]; (refine hJ _ _ ?_; clear hJ J; simp only [ak, reduceIte]))))
      exact Keeps.new _ _
    by_cases hx2 : 1048576 < x
    · have hr := hret 2 (by rw [hbad]; unfold numb; rw [if_pos (.inr hx2)]) (by decide)
      (repeat' (first | refine awp_seq ?_ | refine awp_block ?_ | (refine awp_skip ?_; simp only [ak, reduceIte]) | (refine awp_ret ?_; simp only [ak, reduceIte]; simp [f1, f18, f19, f20, hlt, hd, hw, hx1, hx2, hr]) | (refine awp_cond ?_; simp [f1, f18, f19, f20, hlt, hd, hw, hx1, hx2, hr]) | (refine w_e [] ?_; intro J hJ; simp only []; simp [f1, f18, f19, f20, hlt, hd, hw, hx1, hx2, hr]; (refine hJ _ _ ?_; clear hJ J; simp only [ak, reduceIte]))))
      exact Keeps.new _ _
    by_cases h0 : k = 0
    · have hb : badV g k = 0 := by rw [hbad]; unfold numb; rw [if_neg (by simp [hx1, hx2])]; simp [h0]
      have hk0 : ¬ 0 < k := by omega
      (repeat' (first | refine awp_seq ?_ | refine awp_block ?_ | (refine awp_skip ?_; simp only [ak, reduceIte]) | (refine awp_cond ?_; simp [f1, f18, f19, f20, hlt, hd, hw, hx1, hx2, hk0]) | (refine w_e [] ?_; intro J hJ; simp only []; simp [f1, f18, f19, f20, hlt, hd, hw, hx1, hx2, hk0]; (refine hJ _ _ ?_; clear hJ J; simp only [ak, reduceIte]))))
      refine hJJ _ _ _ ?_ ⟨k + 1, by omega, rfl, by simp [f1], by simp [f18], by simp [f19], by simp, rfl, hnext hb⟩
      omega
    · have hk0 : 0 < k := by omega
      have hw1 : IntKind.i64.wrap ((k : Int) - 1) = ((k - 1 : Nat) : Int) := by rw [wrap_i64 _ (by omega) (by omega)]; omega
      have hd1 := us_drop_getD g.vs (k - 1) (by omega)
      have hlt1 : k - 1 < g.vs.length := by omega
      generalize hy : g.vs.getD (k - 1) 0 = y at *
      by_cases hle : x ≤ y
      · have hr := hret 19 (by rw [hbad]; unfold numb; rw [if_neg (by simp [hx1, hx2]), if_pos ⟨by simp [h0], hle⟩]) (by decide)
        (repeat' (first | refine awp_seq ?_ | refine awp_block ?_ | (refine awp_skip ?_; simp only [ak, reduceIte]) | (refine awp_ret ?_; simp only [ak, reduceIte]; simp [f1, f18, f19, f20, hlt, hd, hw, hx1, hx2, hk0, hw1, hd1, hlt1, hle, hr]) | (refine awp_cond ?_; simp [f1, f18, f19, f20, hlt, hd, hw, hx1, hx2, hk0, hw1, hd1, hlt1, hle, hr]) | (refine w_e [] ?_; intro J hJ; simp only []; simp [f1, f18, f19, f20, hlt, hd, hw, hx1, hx2, hk0, hw1, hd1, hlt1, hle, hr]; (refine hJ _ _ ?_; clear hJ J; simp only [ak, reduceIte]))))
        exact Keeps.new _ _
      · have hb : badV g k = 0 := by rw [hbad]; unfold numb; rw [if_neg (by simp [hx1, hx2]), if_neg (by simp [hle])]
        (repeat' (first | refine awp_seq ?_ | refine awp_block ?_ | (refine awp_skip ?_; simp only [ak, reduceIte]) | (refine awp_cond ?_; simp [f1, f18, f19, f20, hlt, hd, hw, hx1, hx2, hk0, hw1, hd1, hlt1, hle]) | (refine w_e [] ?_; intro J hJ; simp only []; simp [f1, f18, f19, f20, hlt, hd, hw, hx1, hx2, hk0, hw1, hd1, hlt1, hle]; (refine hJ _ _ ?_; clear hJ J; simp only [ak, reduceIte]))))
        refine hJJ _ _ _ ?_ ⟨k + 1, by omega, rfl, by simp [f1], by simp [f18], by simp [f19], by simp, rfl, hnext hb⟩
        omega
  have hk' : k = g.vs.length := by omega
  have hz : firstNZ (badV g) g.vs.length = 0 := firstNZ_zero (fun j hj => hno j (by omega))
  rw [hz] at hch
  simp only [ne_eq, not_true_eq_false, if_false] at hch
  clear hJJ hno hz
  have hel := eds_length g.es
  (repeat' (first | refine awp_seq ?_ | refine awp_block ?_ | (refine awp_exit ?_; simp only [ak, reduceIte]) | (refine awp_cond ?_; simp [f1, f18, f19, f20, hlt]) | (refine w_e [] ?_; intro J hJ; simp only []; simp [f1, f18, f19, f20, hlt]; (refine hJ _ _ ?_; clear hJ J; simp only [ak, reduceIte]))))
  refine awp_loop (fun n fr st' => ∃ k : Nat, k ≤ g.es.length ∧ n = g.es.length - k ∧ fr 1 = .pt st.next 0 ∧ fr 45 = .sl 0 g.es.length (eds g.es) ∧ fr 46 = i g.es.length ∧ fr 47 = i k ∧ Keeps (st.new (.box 25 2 (grL g))) st' ∧ ∀ j, j < k → badE g j = 0) g.es.length ?_ ?_
  · exact ⟨0, by omega, by omega, by simp [f1], by simp, by simp, by simp, Keeps.refl _, fun j h => by omega⟩
  clear f1 f18 f19 f20 hlt hk' hk fr k
  rintro n fr st1 ⟨k, hk, rfl, f1, f45, f46, f47, hkp, hno⟩ JJ hJJ
  have hgH : st1.H st.next = .box 25 2 (grL g) := by rw [hkp.H _ (by simp)]; simp
  have hnx : ¬ st.next = st1.next := by have := hkp.next; simp only [new_next] at this; omega
  have hkp0 := (Keeps.new st (.box 25 2 (grL g))).trans hkp
  by_cases hlt : k < g.es.length
  · have hd := eds_drop g.es k hlt
    have hw := nat_add_one k (by omega)
    have hk3 : k * 3 < g.es.length * 3 := by omega
    have hbad : badE g k = (let x := g.es.getD k ed0; let n := numb x.id (g.es.getD (k - 1) ed0).id (decide (k = 0)); if n ≠ 0 then n else if x.a = x.b then 20 else if x.a ∉ g.vs ∨ x.b ∉ g.vs then 21 else 0) := rfl
    have hnext : badE g k = 0 → ∀ j, j < k + 1 → badE g j = 0 := fun hb j hj => by
      rcases Nat.lt_or_ge j k with h | h
      · exact hno j h
      · obtain rfl : j = k := by omega
        exact hb
    have hret : ∀ v, badE g k = v → v ≠ 0 → chk g = v := fun v h0 h1 => by
      rw [hch]; exact firstNZ_eq hlt hno h0 h1
    generalize hx : g.es.getD k ed0 = x at *
    obtain ⟨xi, xa, xb⟩ := x
    simp only at hd hbad
    have hkn := hkp0.trans (Keeps.new _ (.box 34 3 [u xi, u xa, u xb]))
    by_cases hx1 : xi < 1
    · have hn : numb xi (g.es.getD (k - 1) ed0).id (decide (k = 0)) = 2 := by unfold numb; rw [if_pos (.inl hx1)]
      have hr := hret 2 (by rw [hbad, hn]; rfl) (by decide)
      (repeat' (first | refine awp_seq ?_ | refine awp_block ?_ | (refine awp_skip ?_; simp only [ak, reduceIte]) | (refine awp_ret ?_; simp only [ak, reduceIte]; simp [f1, f45, f46, f47, hlt, hd, hw, hel, hk3, hgH, hnx, hx1, hr]) | (refine awp_cond ?_; simp [f1, f45, f46, f47, hlt, hd, hw, hel, hk3, hgH, hnx, hx1, hr]) | (refine w_e [] ?_; intro J hJ; simp only []; simp [f1, f45, f46, f47, hlt, hd, hw, hel, hk3, hgH, hnx, hx1, hr]; (refine hJ _ _ ?_; clear hJ J; simp only [ak, reduceIte]))))
      exact hkn
    by_cases hx2 : 1048576 < xi
    · have hn : numb xi (g.es.getD (k - 1) ed0).id (decide (k = 0)) = 2 := by unfold numb; rw [if_pos (.inr hx2)]
      have hr := hret 2 (by rw [hbad, hn]; rfl) (by decide)
      (repeat' (first | refine awp_seq ?_ | refine awp_block ?_ | (refine awp_skip ?_; simp only [ak, reduceIte]) | (refine awp_ret ?_; simp only [ak, reduceIte]; simp [f1, f45, f46, f47, hlt, hd, hw, hel, hk3, hgH, hnx, hx1, hx2, hr]) | (refine awp_cond ?_; simp [f1, f45, f46, f47, hlt, hd, hw, hel, hk3, hgH, hnx, hx1, hx2, hr]) | (refine w_e [] ?_; intro J hJ; simp only []; simp [f1, f45, f46, f47, hlt, hd, hw, hel, hk3, hgH, hnx, hx1, hx2, hr]; (refine hJ _ _ ?_; clear hJ J; simp only [ak, reduceIte]))))
      exact hkn
    by_cases hnb : numb xi (g.es.getD (k - 1) ed0).id (decide (k = 0)) = 0
    rotate_left
    · -- the number doesn't rise
      have h0 : k ≠ 0 := by rintro rfl; apply hnb; unfold numb; rw [if_neg (by simp [hx1, hx2])]; simp
      have hle : xi ≤ (g.es.getD (k - 1) ed0).id := by
        unfold numb at hnb
        rw [if_neg (by simp [hx1, hx2])] at hnb
        by_cases h : decide (k = 0) = false ∧ xi ≤ (g.es.getD (k - 1) ed0).id
        · exact h.2
        · rw [if_neg h] at hnb; exact absurd rfl hnb
      have hn : numb xi (g.es.getD (k - 1) ed0).id (decide (k = 0)) = 19 := by unfold numb; rw [if_neg (by simp [hx1, hx2]), if_pos ⟨by simp [h0], hle⟩]
      have hr := hret 19 (by rw [hbad, hn]; rfl) (by decide)
      have hk0 : 0 < k := by omega
      have hw1 : IntKind.i64.wrap ((k : Int) - 1) = ((k - 1 : Nat) : Int) := by rw [wrap_i64 _ (by omega) (by omega)]; omega
      have hd1 := eds_drop g.es (k - 1) (by omega)
      have hlt1 : k - 1 < g.es.length := by omega
      have hlt3 : (k - 1) * 3 < g.es.length * 3 := by omega
      generalize hy : g.es.getD (k - 1) ed0 = y at *
      obtain ⟨yi, ya, yb⟩ := y
      simp only at hd1 hle
      (repeat' (first | refine awp_seq ?_ | refine awp_block ?_ | (refine awp_skip ?_; simp only [ak, reduceIte]) | (refine awp_ret ?_; simp only [ak, reduceIte]; simp [f1, f45, f46, f47, hlt, hd, hw, hel, hk3, hgH, hnx, hx1, hx2, hk0, hw1, hd1, hlt1, hlt3, hle, hr]) | (refine awp_cond ?_; simp [f1, f45, f46, f47, hlt, hd, hw, hel, hk3, hgH, hnx, hx1, hx2, hk0, hw1, hd1, hlt1, hlt3, hle, hr]) | ((first | (refine w_e [] ?_; intro J hJ; simp only []) | (refine w_q ?_; intro J hJ)); simp [f1, f45, f46, f47, hlt, hd, hw, hel, hk3, hgH, hnx, hx1, hx2, hk0, hw1, hd1, hlt1, hlt3, hle, hr]; (refine hJ _ _ ?_; clear hJ J; simp only [ak, reduceIte]))))
      exact hkn
    rw [if_neg (fun h => h hnb)] at hbad
    by_cases hab : xa = xb
    · have hr := hret 20 (by rw [hbad, if_pos hab]) (by decide)
      by_cases h0 : k = 0
      · have hk0 : ¬ 0 < k := by omega
        (repeat' (first | refine awp_seq ?_ | refine awp_block ?_ | (refine awp_skip ?_; simp only [ak, reduceIte]) | (refine awp_ret ?_; simp only [ak, reduceIte]; simp [f1, f45, f46, f47, hlt, hd, hw, hel, hk3, hgH, hnx, hx1, hx2, hk0, hab, hr]) | (refine awp_cond ?_; simp [f1, f45, f46, f47, hlt, hd, hw, hel, hk3, hgH, hnx, hx1, hx2, hk0, hab, hr]) | ((first | (refine w_e [] ?_; intro J hJ; simp only []) | (refine w_q ?_; intro J hJ)); simp [f1, f45, f46, f47, hlt, hd, hw, hel, hk3, hgH, hnx, hx1, hx2, hk0, hab, hr]; (refine hJ _ _ ?_; clear hJ J; simp only [ak, reduceIte]))))
        exact hkp0.trans (Keeps.new _ _)
      · have hk0 : 0 < k := by omega
        have hw1 : IntKind.i64.wrap ((k : Int) - 1) = ((k - 1 : Nat) : Int) := by rw [wrap_i64 _ (by omega) (by omega)]; omega
        have hd1 := eds_drop g.es (k - 1) (by omega)
        have hlt1 : k - 1 < g.es.length := by omega
        have hlt3 : (k - 1) * 3 < g.es.length * 3 := by omega
        have hle : ¬ xi ≤ (g.es.getD (k - 1) ed0).id := by
          intro h
          unfold numb at hnb
          rw [if_neg (by simp [hx1, hx2]), if_pos ⟨by simp [h0], h⟩] at hnb
          cases hnb
        generalize hy : g.es.getD (k - 1) ed0 = y at *
        obtain ⟨yi, ya, yb⟩ := y
        simp only at hd1 hle
        (repeat' (first | refine awp_seq ?_ | refine awp_block ?_ | (refine awp_skip ?_; simp only [ak, reduceIte]) | (refine awp_ret ?_; simp only [ak, reduceIte]; simp [f1, f45, f46, f47, hlt, hd, hw, hel, hk3, hgH, hnx, hx1, hx2, hk0, hw1, hd1, hlt1, hlt3, hle, hab, hr]) | (refine awp_cond ?_; simp [f1, f45, f46, f47, hlt, hd, hw, hel, hk3, hgH, hnx, hx1, hx2, hk0, hw1, hd1, hlt1, hlt3, hle, hab, hr]) | ((first | (refine w_e [] ?_; intro J hJ; simp only []) | (refine w_q ?_; intro J hJ)); simp [f1, f45, f46, f47, hlt, hd, hw, hel, hk3, hgH, hnx, hx1, hx2, hk0, hw1, hd1, hlt1, hlt3, hle, hab, hr]; (refine hJ _ _ ?_; clear hJ J; simp only [ak, reduceIte]))))
        exact hkp0.trans (Keeps.new _ _)
    rw [if_neg hab] at hbad
    by_cases h0 : k = 0
    · have hk0 : ¬ 0 < k := by omega
      (repeat' (first | refine awp_seq ?_ | refine awp_block ?_ | (refine awp_skip ?_; simp only [ak, reduceIte]) | (refine awp_cond ?_; simp [f1, f45, f46, f47, hlt, hd, hw, hel, hk3, hgH, hnx, hx1, hx2, hk0, hab]) | ((first | (refine w_e [] ?_; intro J hJ; simp only []) | (refine w_q ?_; intro J hJ)); simp [f1, f45, f46, f47, hlt, hd, hw, hel, hk3, hgH, hnx, hx1, hx2, hk0, hab]; (try (refine hJ _ _ ?_; clear hJ J; simp only [ak, reduceIte])))))
      refine callK_ofE (Has g xa _ hsm) (by simp []) ?_; rintro r st' ⟨rfl, hk1⟩
      have hB1 : st'.H st1.next = .box 34 3 [u xi, u xa, u xb] := by rw [hk1.H _ (by simp)]; simp
      have hgH1 : st'.H st.next = .box 25 2 (grL g) := by
        rw [hk1.H _ (by have := hkp.next; simp only [new_next] at this ⊢; omega), new_H, if_neg hnx]; exact hgH
      have hkp1 := (hkp.trans (Keeps.new _ _)).trans hk1
      have hkp01 := (hkp0.trans (Keeps.new _ _)).trans hk1
      by_cases hma : xa ∈ g.vs
      rotate_left
      · have hr := hret 21 (by rw [hbad, if_pos (.inl hma)]) (by decide)
        (repeat' (first | refine awp_seq ?_ | (refine awp_ret ?_; simp only [ak, reduceIte]; simp [f1, hB1, hgH1, hr, hma]) | (refine awp_cond ?_; simp [f1, hB1, hgH1, hr, hma]) | ((first | (refine w_e [] ?_; intro J hJ; simp only []) | (refine e_go ?_)); simp [f1, hB1, hgH1, hr, hma]; (refine hJ _ _ ?_; clear hJ J; simp only [ak, reduceIte]))))
        exact hkp01
      (refine e_go ?_; simp [f1, hB1, hgH1, hma])
      refine callK_ofE (Has g xb _ hsm) (by simp []) ?_; rintro r st' ⟨rfl, hk2⟩
      by_cases hmb : xb ∈ g.vs
      rotate_left
      · have hr := hret 21 (by rw [hbad, if_pos (.inr hmb)]) (by decide)
        (repeat' (first | refine awp_seq ?_ | (refine awp_ret ?_; simp only [ak, reduceIte]; simp [hr, hmb]) | (refine awp_cond ?_; simp [hr, hmb]) | ((first | (refine w_e [] ?_; intro J hJ; simp only []) | (refine e_go ?_)); simp [hr, hmb]; (refine hJ _ _ ?_; clear hJ J; simp only [ak, reduceIte]))))
        exact hkp01.trans hk2
      have hb' : badE g k = 0 := by rw [hbad, if_neg (by simp [hma, hmb])]
      (repeat' (first | (refine awp_skip ?_; simp only [ak, reduceIte]) | (refine awp_cond ?_; simp [f47, hw, hmb]) | ((first | (refine w_e [] ?_; intro J hJ; simp only []) | (refine e_go ?_)); simp [f47, hw, hmb]; (refine hJ _ _ ?_; clear hJ J; simp only [ak, reduceIte]))))
      refine hJJ _ _ _ ?_ ⟨k + 1, by omega, rfl, by simp [f1], by simp [f45], by simp [f46], by simp, hkp1.trans hk2, hnext hb'⟩
      omega
    · have hk0 : 0 < k := by omega
      have hw1 : IntKind.i64.wrap ((k : Int) - 1) = ((k - 1 : Nat) : Int) := by rw [wrap_i64 _ (by omega) (by omega)]; omega
      have hd1 := eds_drop g.es (k - 1) (by omega)
      have hlt1 : k - 1 < g.es.length := by omega
      have hlt3 : (k - 1) * 3 < g.es.length * 3 := by omega
      have hle : ¬ xi ≤ (g.es.getD (k - 1) ed0).id := by
        intro h
        unfold numb at hnb
        rw [if_neg (by simp [hx1, hx2]), if_pos ⟨by simp [h0], h⟩] at hnb
        cases hnb
      generalize hy : g.es.getD (k - 1) ed0 = y at *
      obtain ⟨yi, ya, yb⟩ := y
      simp only at hd1 hle
      (repeat' (first | refine awp_seq ?_ | refine awp_block ?_ | (refine awp_skip ?_; simp only [ak, reduceIte]) | (refine awp_cond ?_; simp [f1, f45, f46, f47, hlt, hd, hw, hel, hk3, hgH, hnx, hx1, hx2, hk0, hw1, hd1, hlt1, hlt3, hle, hab]) | ((first | (refine w_e [] ?_; intro J hJ; simp only []) | (refine w_q ?_; intro J hJ)); simp [f1, f45, f46, f47, hlt, hd, hw, hel, hk3, hgH, hnx, hx1, hx2, hk0, hw1, hd1, hlt1, hlt3, hle, hab]; (try (refine hJ _ _ ?_; clear hJ J; simp only [ak, reduceIte])))))
      refine callK_ofE (Has g xa _ hsm) (by simp []) ?_; rintro r st' ⟨rfl, hk1⟩
      have hB1 : st'.H st1.next = .box 34 3 [u xi, u xa, u xb] := by rw [hk1.H _ (by simp)]; simp
      have hgH1 : st'.H st.next = .box 25 2 (grL g) := by
        rw [hk1.H _ (by have := hkp.next; simp only [new_next] at this ⊢; omega), new_H, if_neg hnx]; exact hgH
      have hkp1 := (hkp.trans (Keeps.new _ _)).trans hk1
      have hkp01 := (hkp0.trans (Keeps.new _ _)).trans hk1
      by_cases hma : xa ∈ g.vs
      rotate_left
      · have hr := hret 21 (by rw [hbad, if_pos (.inl hma)]) (by decide)
        (repeat' (first | refine awp_seq ?_ | (refine awp_ret ?_; simp only [ak, reduceIte]; simp [f1, hB1, hgH1, hr, hma]) | (refine awp_cond ?_; simp [f1, hB1, hgH1, hr, hma]) | ((first | (refine w_e [] ?_; intro J hJ; simp only []) | (refine e_go ?_)); simp [f1, hB1, hgH1, hr, hma]; (refine hJ _ _ ?_; clear hJ J; simp only [ak, reduceIte]))))
        exact hkp01
      (refine e_go ?_; simp [f1, hB1, hgH1, hma])
      refine callK_ofE (Has g xb _ hsm) (by simp []) ?_; rintro r st' ⟨rfl, hk2⟩
      by_cases hmb : xb ∈ g.vs
      rotate_left
      · have hr := hret 21 (by rw [hbad, if_pos (.inr hmb)]) (by decide)
        (repeat' (first | refine awp_seq ?_ | (refine awp_ret ?_; simp only [ak, reduceIte]; simp [hr, hmb]) | (refine awp_cond ?_; simp [hr, hmb]) | ((first | (refine w_e [] ?_; intro J hJ; simp only []) | (refine e_go ?_)); simp [hr, hmb]; (refine hJ _ _ ?_; clear hJ J; simp only [ak, reduceIte]))))
        exact hkp01.trans hk2
      have hb' : badE g k = 0 := by rw [hbad, if_neg (by simp [hma, hmb])]
      (repeat' (first | (refine awp_skip ?_; simp only [ak, reduceIte]) | (refine awp_cond ?_; simp [f47, hw, hmb]) | ((first | (refine w_e [] ?_; intro J hJ; simp only []) | (refine e_go ?_)); simp [f47, hw, hmb]; (refine hJ _ _ ?_; clear hJ J; simp only [ak, reduceIte]))))
      refine hJJ _ _ _ ?_ ⟨k + 1, by omega, rfl, by simp [f1], by simp [f45], by simp [f46], by simp, hkp1.trans hk2, hnext hb'⟩
      omega
  · have hr : chk g = 0 := by rw [hch]; exact firstNZ_zero (fun j hj => hno j (by omega))
    clear hJJ
    (repeat' (first | refine awp_seq ?_ | (refine awp_exit ?_; simp only [ak, reduceIte]) | (refine awp_ret ?_; simp only [ak, reduceIte]; simp [f1, f45, f46, f47, hlt, hr]) | (refine awp_cond ?_; simp [f1, f45, f46, f47, hlt, hr]) | (refine w_e [] ?_; intro J hJ; simp only []; simp [f1, f45, f46, f47, hlt, hr]; (refine hJ _ _ ?_; clear hJ J; simp only [ak, reduceIte]))))
    exact hkp0

end Go.Proofs.YtjpnhjembncdkaaGreat.Aw

namespace Go.Proofs.YtjpnhjembncdkaaGreat.Aw
open Go Go.RowKit Go.Proofs.YtjpnhjembncdkaaGreat.Pl
set_option linter.unusedSimpArgs false
set_option linter.unusedVariables false

end Go.Proofs.YtjpnhjembncdkaaGreat.Aw

namespace Go.Proofs.YtjpnhjembncdkaaGreat.Aw
open Go Go.RowKit Go.Proofs.YtjpnhjembncdkaaGreat.Pl
set_option linter.unusedSimpArgs false
set_option linter.unusedVariables false

end Go.Proofs.YtjpnhjembncdkaaGreat.Aw

namespace Go.Proofs.YtjpnhjembncdkaaGreat.Aw
open Go Go.RowKit Go.Proofs.YtjpnhjembncdkaaGreat.Pl
set_option linter.unusedSimpArgs false
set_option linter.unusedVariables false

theorem awp_posG {P : Program} {N : Nat} {Q : AQ} {c : Code} {fr : Frm} {st : St} (h : 0 < st.next → AWp P N c Q fr st) : AWp P N c Q fr st :=
  fun a w g hi hr hs hd => h hi.pos a w g hi hr hs hd

def end1 (v : Int) (x : Ed) : List Int := (if x.a = v then [2 * x.id] else []) ++ (if x.b = v then [2 * x.id + 1] else [])
/-- The darts at a vertex. -/
def ends (es : List Ed) (v : Int) : List Int := es.flatMap (end1 v)
theorem flat_takeE (f : Ed → List Int) (l : List Ed) (k : Nat) (hk : k < l.length) : (l.take (k + 1)).flatMap f = (l.take k).flatMap f ++ f (l.getD k ed0) := by
  rw [List.take_succ_eq_append_getElem hk, List.flatMap_append, List.getD_eq_getElem?_getD, List.getElem?_eq_getElem hk]; simp
theorem end1_len (v : Int) (x : Ed) : (end1 v x).length ≤ 2 := by
  unfold end1; split <;> split <;> simp
theorem flat_len (f : Ed → List Int) (hf : ∀ x, (f x).length ≤ 2) (l : List Ed) : (l.flatMap f).length ≤ 2 * l.length := by
  induction l with
  | nil => simp
  | cons x l ih => have := hf x; simp only [List.flatMap_cons, List.length_append, List.length_cons]; omega
def idOk (es : List Ed) : Prop := ∀ x ∈ es, 0 ≤ x.id ∧ x.id ≤ 1048576
theorem idOk.at {es : List Ed} (h : idOk es) (k : Nat) (hk : k < es.length) : 0 ≤ (es.getD k ed0).id ∧ (es.getD k ed0).id ≤ 1048576 := by
  rw [List.getD_eq_getElem?_getD, List.getElem?_eq_getElem hk]; exact h _ (List.getElem_mem hk)
theorem wrap_u32' (n : Int) (h0 : 0 ≤ n) (h1 : n < 4294967296) : IntKind.u32.wrap n = n := by
  rw [wrap_u32]; omega

def OwnAt (t : Nat) (lo : St) (l : List Int) (st : St) : Prop := t ≠ 0 ∧ lo.next ≤ t ∧ t < st.next ∧ st.H t = .own 32 1 l.length ∧ Keeps lo st

theorem dOf (id e : Int) (st : St) (h0 : 0 ≤ id) (h1 : id ≤ 1048576) (he : e = 0 ∨ e = 1) : ACalls Tryz.prog 82 [u id, i e] st fun r st' => r = u (2 * id + e) ∧ st' = st := by
  refine (Of id e st).mono ?_
  rintro r st' ⟨rfl, rfl⟩
  refine ⟨?_, rfl⟩
  have h2 : id * 2 % 4294967296 + e % 2 = 2 * id + e := by omega
  rw [h2]

theorem ref_Ends (g : Gr) (v : Int) (st : St) (he : g.es.length ≤ 1000) (hid : idOk g.es) :
    ACalls Tryz.prog 46 [.ag (grL g), u v] st fun r st' => (∃ t, r = .sl t (ends g.es v).length (us (ends g.es v))) ∧ Keeps st st' := by
  obtain ⟨vs, l⟩ := g
  simp only at he hid ⊢
  have hel := eds_length l
  have hfl := fun k => flat_len (end1 v) (end1_len v) (l.take k)
  refine acalls_of_body tabOk Tryz.func46 rfl rfl Tryz.ntmps46 (rs := [.tmp 4]) rfl (by simp) ?_
  (repeat' (first | refine awp_seq ?_ | refine awp_block ?_ | (refine w_e [] ?_; intro J hJ; simp only []; simp []; (refine hJ _ _ ?_; clear hJ J; simp only [ak, reduceIte]))))
  refine awp_posG fun hpos => ?_
  refine awp_own 5 32 1 (by simp) ?_
  refine awp_loop (fun n fr st2 => ∃ k : Nat, k ≤ l.length ∧ n = l.length - k ∧ fr 1 = u v ∧ fr 9 = .sl 0 l.length (eds l) ∧ fr 10 = i l.length ∧ fr 11 = i k ∧ ∃ t, fr 5 = .sl t (ends (l.take k) v).length (us (ends (l.take k) v)) ∧ OwnAt t st (ends (l.take k) v) st2) l.length ?_ ?_
  · exact ⟨0, by omega, by omega, by simp, by simp, by simp, by simp, st.next + 1, by simp [ends], by omega, by omega, by simp, by simp [ends], (Keeps.new _ _).trans (Keeps.new _ _)⟩
  rintro n fr st2 ⟨k, hk, rfl, f1, f9, f10, f11, t, f5, ht0, htl, htn, htH, hkp⟩ JJ hJJ
  by_cases hlt : k < l.length
  rotate_left
  · clear hJJ
    have hk' : k = l.length := by omega
    rw [hk', List.take_length] at f5
    (repeat' (first | refine awp_seq ?_ | (refine awp_exit ?_; simp only [ak, reduceIte]) | (refine awp_ret ?_; simp only [ak, reduceIte]; simp [f10, f11, hlt, f5]) | (refine awp_cond ?_; simp [f10, f11, hlt, f5]) | (refine w_e [] ?_; intro J hJ; simp only []; simp [f10, f11, hlt, f5]; (refine hJ _ _ ?_; clear hJ J; simp only [ak, reduceIte]))))
    exact hkp
  have hd := eds_drop l k hlt
  have hw := nat_add_one k (by omega)
  have hk3 : k * 3 < l.length * 3 := by omega
  obtain ⟨hi0, hi1⟩ := hid.at k hlt
  have hst : ends (l.take (k + 1)) v = ends (l.take k) v ++ end1 v (l.getD k ed0) := flat_takeE _ _ _ hlt
  have hle := hfl k
  rw [List.length_take] at hle
  have hle2 : (ends (l.take k) v).length ≤ 2 * min k l.length := hle
  generalize hx : l.getD k ed0 = x at *
  obtain ⟨id, a, b⟩ := x
  simp only at hi0 hi1 hd
  generalize hF : ends (l.take k) v = F at *
  have w1 : IntKind.u32.wrap (2 * id) = 2 * id := wrap_u32' _ (by omega) (by omega)
  have w2 : IntKind.u32.wrap (2 * id + 1) = 2 * id + 1 := wrap_u32' _ (by omega) (by omega)
  have ht2 : ¬ t = st2.next := by omega
  have ht3 : ¬ st2.next = t := by omega
  have ht4 : ¬ t = st2.next + 1 := by omega
  have ht5 : ¬ t = st2.next + 1 + 1 := by omega
  have ht6 : ¬ t = st2.next + 1 + 1 + 1 := by omega
  have hn2 : ¬ st2.next = st2.next + 1 + 1 := by omega
  have hn3 : ¬ st2.next = st2.next + 1 + 1 + 1 := by omega
  have hn4 : ¬ st2.next = st2.next + 1 + 1 + 1 + 1 := by omega
  have hn5 : ¬ st2.next + 1 + 1 = st2.next + 1 + 1 + 1 := by omega
  by_cases ha : a = v
  · by_cases hb : b = v
    · have he1 : end1 v ⟨id, a, b⟩ = [2 * id, 2 * id + 1] := by simp [end1, ha, hb]
      rw [he1] at hst
      (repeat' (first | refine awp_seq ?_ | refine awp_block ?_ | (refine awp_skip ?_; simp only [ak, reduceIte]) | (refine awp_cond ?_; simp [f1, f5, f9, f10, f11, hlt, hd, hw, hel, ha, hb, w1, w2, htH, ht0, ht2, ht3, ht4, hn2, hn3, hn4, hn5, ht5, ht6]) | (refine w_e [] ?_; intro J hJ; simp only []; simp [f1, f5, f9, f10, f11, hlt, hd, hw, hel, ha, hb, w1, w2, htH, ht0, ht2, ht3, ht4, hn2, hn3, hn4, hn5, ht5, ht6]; (repeat refine ca ?_); (refine hJ _ _ ?_; clear hJ J; simp only [ak, reduceIte]))))
      refine hJJ (l.length - (k + 1)) _ _ (by omega) ⟨k + 1, by omega, rfl, by simp [f1], by simp [f9], by simp [f10], by simp, st2.next + 1 + 1 + 1 + 1, by rw [hst]; simp [f5], by omega, by have := hkp.next; omega, by simp <;> omega, by rw [hst]; simp [htH, ht2, ht4, hn2, hn3, hn4, hn5], ?_⟩
      (repeat (first | exact hkp | (refine Keeps.trans ?_ (Keeps.new _ _)) | (refine Keeps.set ?_ (by have := hkp.next; first | omega | (simp only [new_next, set_next]; omega)) _)))
    · have he1 : end1 v ⟨id, a, b⟩ = [2 * id] := by simp [end1, ha, hb]
      rw [he1] at hst
      (repeat' (first | refine awp_seq ?_ | refine awp_block ?_ | (refine awp_skip ?_; simp only [ak, reduceIte]) | (refine awp_cond ?_; simp [f1, f5, f9, f10, f11, hlt, hd, hw, hel, ha, hb, w1, w2, htH, ht0, ht2, ht3, ht4, hn2, hn3, hn4, hn5, ht5, ht6]) | (refine w_e [] ?_; intro J hJ; simp only []; simp [f1, f5, f9, f10, f11, hlt, hd, hw, hel, ha, hb, w1, w2, htH, ht0, ht2, ht3, ht4, hn2, hn3, hn4, hn5, ht5, ht6]; (repeat refine ca ?_); (refine hJ _ _ ?_; clear hJ J; simp only [ak, reduceIte]))))
      refine hJJ (l.length - (k + 1)) _ _ (by omega) ⟨k + 1, by omega, rfl, by simp [f1], by simp [f9], by simp [f10], by simp, st2.next + 1 + 1, by rw [hst]; simp [f5], by omega, by have := hkp.next; omega, by simp <;> omega, by rw [hst]; simp [htH, ht2, ht4, hn2, hn3, hn4, hn5], ?_⟩
      (repeat (first | exact hkp | (refine Keeps.trans ?_ (Keeps.new _ _)) | (refine Keeps.set ?_ (by have := hkp.next; first | omega | (simp only [new_next, set_next]; omega)) _)))
  · by_cases hb : b = v
    · have he1 : end1 v ⟨id, a, b⟩ = [2 * id + 1] := by simp [end1, ha, hb]
      rw [he1] at hst
      (repeat' (first | refine awp_seq ?_ | refine awp_block ?_ | (refine awp_skip ?_; simp only [ak, reduceIte]) | (refine awp_cond ?_; simp [f1, f5, f9, f10, f11, hlt, hd, hw, hel, ha, hb, w1, w2, htH, ht0, ht2, ht3, ht4, hn2, hn3, hn4, hn5, ht5, ht6]) | (refine w_e [] ?_; intro J hJ; simp only []; simp [f1, f5, f9, f10, f11, hlt, hd, hw, hel, ha, hb, w1, w2, htH, ht0, ht2, ht3, ht4, hn2, hn3, hn4, hn5, ht5, ht6]; (repeat refine ca ?_); (refine hJ _ _ ?_; clear hJ J; simp only [ak, reduceIte]))))
      refine hJJ (l.length - (k + 1)) _ _ (by omega) ⟨k + 1, by omega, rfl, by simp [f1], by simp [f9], by simp [f10], by simp, st2.next + 1 + 1, by rw [hst]; simp [f5], by omega, by have := hkp.next; omega, by simp <;> omega, by rw [hst]; simp [htH, ht2, ht4, hn2, hn3, hn4, hn5], ?_⟩
      (repeat (first | exact hkp | (refine Keeps.trans ?_ (Keeps.new _ _)) | (refine Keeps.set ?_ (by have := hkp.next; first | omega | (simp only [new_next, set_next]; omega)) _)))
    · have he1 : end1 v ⟨id, a, b⟩ = [] := by simp [end1, ha, hb]
      rw [he1] at hst
      (repeat' (first | refine awp_seq ?_ | refine awp_block ?_ | (refine awp_skip ?_; simp only [ak, reduceIte]) | (refine awp_cond ?_; simp [f1, f5, f9, f10, f11, hlt, hd, hw, hel, ha, hb, w1, w2, htH, ht0, ht2, ht3, ht4, hn2, hn3, hn4, hn5, ht5, ht6]) | (refine w_e [] ?_; intro J hJ; simp only []; simp [f1, f5, f9, f10, f11, hlt, hd, hw, hel, ha, hb, w1, w2, htH, ht0, ht2, ht3, ht4, hn2, hn3, hn4, hn5, ht5, ht6]; (refine hJ _ _ ?_; clear hJ J; simp only [ak, reduceIte]))))
      refine hJJ (l.length - (k + 1)) _ _ (by omega) ⟨k + 1, by omega, rfl, by simp [f1], by simp [f9], by simp [f10], by simp, t, by rw [hst]; simp [f5], by omega, by have := hkp.next; omega, by simp <;> omega, by rw [hst]; simp [htH, ht2, ht4, hn2, hn3, hn4, hn5], ?_⟩
      (repeat (first | exact hkp | (refine Keeps.trans ?_ (Keeps.new _ _)) | (refine Keeps.set ?_ (by have := hkp.next; first | omega | (simp only [new_next, set_next]; omega)) _)))

end Go.Proofs.YtjpnhjembncdkaaGreat.Aw

namespace Go.Proofs.YtjpnhjembncdkaaGreat.Aw
open Go Go.RowKit Go.Proofs.YtjpnhjembncdkaaGreat.Pl
set_option linter.unusedSimpArgs false
set_option linter.unusedVariables false

def nbr1 (v : Int) (x : Ed) : List Int := (if x.a = v then [x.b] else []) ++ (if x.b = v then [x.a] else [])
/-- Who is at the other ends of a vertex's edges. -/
def nbr (es : List Ed) (v : Int) : List Int := es.flatMap (nbr1 v)
/-- A map of rows, each with a place of its own. -/
def NearI (lo m : Nat) (es : List (List Int × LV)) (st : St) (f : Int → List Int) (tok : Int → Nat) : Prop :=
  ∀ v, (tok v = 0 → f v = [] ∧ mget es [v] = none) ∧ (tok v ≠ 0 → mget es [v] = some (.sl (tok v) (f v).length (us (f v))) ∧ lo ≤ tok v ∧ tok v < st.next ∧ tok v ≠ m ∧ st.H (tok v) = .own 32 1 (f v).length ∧ ∀ w, tok w = tok v → w = v)

theorem NearI.step {lo m : Nat} {es : List (List Int × LV)} {st st' : St} {f : Int → List Int} {tok : Int → Nat} (h : NearI lo m es st f tok) (a x : Int) (N : Nat) (hN : st.next ≤ N) (hN' : N < st'.next) (hm : m < st.next) (h0 : 0 < st.next) (hlo : lo ≤ st.next)
    (hH : ∀ l, l ≠ tok a → l ≠ m → l < st.next → st'.H l = st.H l) (hO : st'.H N = .own 32 1 ((f a).length + 1)) :
    NearI lo m (mset es [a] (.sl N ((f a).length + 1) (us (f a ++ [x])))) st' (fun v => if v = a then f a ++ [x] else f v) (fun v => if v = a then N else tok v) := by
  intro v
  by_cases hv : v = a
  · subst hv
    simp only [if_true]
    refine ⟨fun h1 => by omega, fun _ => ⟨by rw [mget_mset]; simp, by omega, hN', by omega, by rw [hO]; simp, fun w hw => ?_⟩⟩
    by_cases hwv : w = v
    · exact hwv
    · rw [if_neg hwv] at hw
      by_cases h1 : tok w = 0
      · omega
      · have := ((h w).2 h1).2.2.1; omega
  · simp only [if_neg hv]
    have hne : ¬ ([v] : List Int) = [a] := by simpa using hv
    refine ⟨fun h1 => ⟨((h v).1 h1).1, by rw [mget_mset, if_neg hne]; exact ((h v).1 h1).2⟩, fun h1 => ?_⟩
    obtain ⟨k1, k2, k3, k4, k5, k6⟩ := (h v).2 h1
    refine ⟨by rw [mget_mset, if_neg hne]; exact k1, k2, by omega, k4, ?_, fun w hw => ?_⟩
    · rw [hH (tok v) (fun e => hv (k6 a e.symm).symm) k4 k3]; exact k5
    · by_cases hwa : w = a
      · subst hwa; simp only [if_true] at hw; omega
      · rw [if_neg hwa] at hw; exact k6 w hw

/-- A map whose rows are told. -/
def RowsAt (es : List (List Int × LV)) (f : Int → List Int) : Prop := ∀ v, ∃ t, norm ((mget es [v]).getD .nil) = .sl t (f v).length (us (f v))

def NearJ (n0 m : Nat) (st : St) (l : List Ed) (k : Nat) (id a b : Int) (f : Int → List Int) (fr : Frm) (st2 : St) : Prop :=
  fr 3 = .mp (m) ∧ fr 8 = .sl 0 l.length (eds l) ∧ fr 9 = i l.length ∧ fr 10 = i k ∧ Keeps st st2 ∧ m < st2.next ∧ (∃ q, fr 5 = .pt q 0 ∧ st2.H q = .box 34 3 [u id, u a, u b] ∧ q < st2.next) ∧ ∃ es tok, st2.H (m) = .map false [.u32] es ∧ NearI n0 m es st2 f tok

theorem RowsAt.cases {es : List (List Int × LV)} {f : Int → List Int} (h : RowsAt es f) (v : Int) : ((mget es [v]).getD .nil = .nil ∧ f v = []) ∨ ∃ t, (mget es [v]).getD .nil = .sl t (f v).length (us (f v)) := by
  obtain ⟨t, ht⟩ := h v
  cases hx : (mget es [v]).getD .nil with
  | nil =>
    rw [hx] at ht
    left
    refine ⟨rfl, ?_⟩
    simp only [norm, LV.sl.injEq] at ht
    exact List.eq_nil_of_length_eq_zero ht.2.1.symm
  | _ => rw [hx] at ht; simp [norm] at ht <;> exact .inr ⟨t, by simp [ht]⟩

def alone (g : Gr) : Nat := g.vs.countP fun v => decide (nbr g.es v = [])
theorem count_take (p : Int → Bool) (l : List Int) (k : Nat) (hk : k < l.length) : (l.take (k + 1)).countP p = (l.take k).countP p + (if p (l.getD k 0) = true then 1 else 0) := by
  rw [List.take_succ_eq_append_getElem hk, List.countP_append, getD_lt _ _ hk]
  simp [List.countP_cons]

end Go.Proofs.YtjpnhjembncdkaaGreat.Aw

namespace Go.Proofs.YtjpnhjembncdkaaGreat.Aw
open Go Go.RowKit Go.Proofs.YtjpnhjembncdkaaGreat.Pl
set_option linter.unusedSimpArgs false
set_option linter.unusedVariables false

inductive Reach (es : List Ed) (v : Int) : Int → Prop
  | refl : Reach es v v
  | step {u w : Int} (h : Reach es v u) (hw : w ∈ nbr es u) : Reach es v w

theorem mem_nbr {es : List Ed} {u w : Int} : w ∈ nbr es u ↔ ∃ x ∈ es, (x.a = u ∧ x.b = w) ∨ (x.b = u ∧ x.a = w) := by
  unfold nbr nbr1
  simp only [List.mem_flatMap, List.mem_append]
  constructor
  · rintro ⟨x, hx, h | h⟩
    · refine ⟨x, hx, .inl ?_⟩
      split at h
      · rename_i h1; simp at h; exact ⟨h1, h.symm⟩
      · cases h
    · refine ⟨x, hx, .inr ?_⟩
      split at h
      · rename_i h1; simp at h; exact ⟨h1, h.symm⟩
      · cases h
  · rintro ⟨x, hx, ⟨h1, h2⟩ | ⟨h1, h2⟩⟩
    · exact ⟨x, hx, .inl (by simp [h1, h2])⟩
    · exact ⟨x, hx, .inr (by simp [h1, h2])⟩
theorem nbr_symm {es : List Ed} {u w : Int} (h : w ∈ nbr es u) : u ∈ nbr es w := by
  rw [mem_nbr] at h ⊢
  obtain ⟨x, hx, ⟨h1, h2⟩ | ⟨h1, h2⟩⟩ := h
  · exact ⟨x, hx, .inr ⟨h2, h1⟩⟩
  · exact ⟨x, hx, .inl ⟨h2, h1⟩⟩
theorem Reach.trans {es : List Ed} {u v w : Int} (h : Reach es u v) (k : Reach es v w) : Reach es u w := by
  induction k with
  | refl => exact h
  | step _ hw ih => exact .step ih hw
theorem Reach.symm {es : List Ed} {u v : Int} (h : Reach es u v) : Reach es v u := by
  induction h with
  | refl => exact .refl
  | step _ hw ih => exact Reach.trans (.step .refl (nbr_symm hw)) ih
theorem Reach.closed {es : List Ed} {v w : Int} {L : Int → Prop} (h : Reach es v w) (hv : L v) (hc : ∀ u, L u → ∀ w ∈ nbr es u, L w) : L w := by
  induction h with
  | refl => exact hv
  | step _ hw ih => exact hc _ ih _ hw

/-- A graph's vertices rise, and edges end at them. -/
structure Good (g : Gr) : Prop where
  rise : g.vs.Pairwise (· < ·)
  ends : ∀ x ∈ g.es, x.a ∈ g.vs ∧ x.b ∈ g.vs
theorem Good.nbr {g : Gr} (h : Good g) {u w : Int} (hw : w ∈ nbr g.es u) : w ∈ g.vs := by
  rw [mem_nbr] at hw
  obtain ⟨x, hx, ⟨_, rfl⟩ | ⟨_, rfl⟩⟩ := hw
  · exact (h.ends x hx).2
  · exact (h.ends x hx).1
theorem Good.reach {g : Gr} (h : Good g) {v w : Int} (hv : v ∈ g.vs) (hr : Reach g.es v w) : w ∈ g.vs := by
  cases hr with
  | refl => exact hv
  | step _ hw => exact h.nbr hw
theorem Good.nodup {g : Gr} (h : Good g) : g.vs.Nodup := h.rise.imp fun h => by omega

/-- A row that has just what hangs together with a vertex, rising. -/
def IsPart (g : Gr) (v : Int) (c : List Int) : Prop := c.Pairwise (· < ·) ∧ ∀ w, w ∈ c ↔ w ∈ g.vs ∧ Reach g.es v w
theorem rise_unique {c d : List Int} (hc : c.Pairwise (· < ·)) (hd : d.Pairwise (· < ·)) (h : ∀ w, w ∈ c ↔ w ∈ d) : c = d :=
  srt_unique (hc.imp fun h => by omega) (hd.imp fun h => by omega) ((List.perm_ext_iff_of_nodup (hc.imp fun h => by omega) (hd.imp fun h => by omega)).2 h)
theorem IsPart.unique {g : Gr} {v : Int} {c d : List Int} (h : IsPart g v c) (k : IsPart g v d) : c = d := rise_unique h.1 k.1 fun w => by rw [h.2, k.2]
/-- Seen from the first vertices. -/
def Seen (g : Gr) (k : Nat) (w : Int) : Prop := ∃ u ∈ g.vs.take k, Reach g.es u w
theorem take_lt {l : List Int} (h : l.Pairwise (· < ·)) {k : Nat} (hk : k < l.length) {u : Int} : u ∈ l.take k ↔ u ∈ l ∧ u < l.getD k 0 := by
  rw [getD_lt _ _ hk]
  constructor
  · intro hu
    obtain ⟨j, hj, rfl⟩ := List.getElem_of_mem hu
    rw [List.length_take] at hj
    rw [List.getElem_take]
    exact ⟨List.getElem_mem _, List.pairwise_iff_getElem.1 h j k (by omega) hk (by omega)⟩
  · rintro ⟨hu, hlt⟩
    obtain ⟨j, hj, rfl⟩ := List.getElem_of_mem hu
    have hjk : j < k := by
      rcases Nat.lt_trichotomy j k with h1 | h1 | h1
      · exact h1
      · subst h1; omega
      · have := List.pairwise_iff_getElem.1 h k j hk hj h1; omega
    rw [List.mem_take_iff_getElem]
    exact ⟨j, by omega, rfl⟩
theorem Seen.reach {g : Gr} {k : Nat} {u w : Int} (h : Seen g k u) (hr : Reach g.es u w) : Seen g k w := by
  obtain ⟨x, hx, hy⟩ := h
  exact ⟨x, hx, hy.trans hr⟩
theorem seen_succ {g : Gr} {k : Nat} (hk : k < g.vs.length) {w : Int} : Seen g (k + 1) w ↔ Seen g k w ∨ Reach g.es (g.vs.getD k 0) w := by
  unfold Seen
  rw [List.take_succ_eq_append_getElem hk, getD_lt _ _ hk]
  constructor
  · rintro ⟨u, hu, hr⟩
    rw [List.mem_append, List.mem_singleton] at hu
    rcases hu with hu | rfl
    · exact .inl ⟨u, hu, hr⟩
    · exact .inr hr
  · rintro (⟨u, hu, hr⟩ | hr)
    · exact ⟨u, List.mem_append_left _ hu, hr⟩
    · exact ⟨_, List.mem_append_right _ (List.mem_singleton.2 rfl), hr⟩
theorem seen_same {g : Gr} {k : Nat} (hk : k < g.vs.length) (hs : Seen g k (g.vs.getD k 0)) {w : Int} : Seen g (k + 1) w ↔ Seen g k w := by
  rw [seen_succ hk]
  exact ⟨fun h => h.elim id hs.reach, .inl⟩

/-- The parts, as they come from the first vertices. -/
inductive PartsTo (g : Gr) : Nat → List (List Int) → Prop
  | zero : PartsTo g 0 []
  | seen {k : Nat} {R : List (List Int)} (h : PartsTo g k R) (hk : k < g.vs.length) (hs : Seen g k (g.vs.getD k 0)) : PartsTo g (k + 1) R
  | lead {k : Nat} {R : List (List Int)} {c : List Int} (h : PartsTo g k R) (hk : k < g.vs.length) (hs : ¬ Seen g k (g.vs.getD k 0)) (hc : IsPart g (g.vs.getD k 0) c) : PartsTo g (k + 1) (R ++ [c])
theorem PartsTo.unique {g : Gr} {k : Nat} {R R' : List (List Int)} (h : PartsTo g k R) (h' : PartsTo g k R') : R = R' := by
  induction h generalizing R' with
  | zero => cases h'; rfl
  | seen _ _ hs ih =>
    cases h' with
    | seen h2 _ _ => exact ih h2
    | lead h2 _ hs2 _ => exact absurd hs hs2
  | lead _ _ hs hc ih =>
    cases h' with
    | seen h2 _ hs2 => exact absurd hs2 hs
    | lead h2 _ _ hc2 => rw [ih h2, hc.unique hc2]
theorem PartsTo.len {g : Gr} {k : Nat} {R : List (List Int)} (h : PartsTo g k R) : R.length ≤ k := by
  induction h with
  | zero => simp
  | seen _ _ _ ih => omega
  | lead _ _ _ _ ih => simp; omega

/-! ### a search -/
structure Srch (g : Gr) (n : Nat) (v : Int) (L : List Int) (k : Nat) : Prop where
  nodup : L.Nodup
  reach : ∀ w ∈ L, Reach g.es v w
  mem : v ∈ L
  done : ∀ u ∈ L.take k, ∀ w ∈ nbr g.es u, w ∈ L
theorem Srch.all {g : Gr} {n : Nat} {v : Int} {L : List Int} (h : Srch g n v L L.length) : ∀ w, w ∈ L ↔ Reach g.es v w := by
  intro w
  refine ⟨h.reach w, fun hr => ?_⟩
  exact hr.closed (L := fun w => w ∈ L) h.mem fun u hu w hw => h.done u (by rw [List.take_length]; exact hu) w hw
theorem Srch.sub {g : Gr} (hg : Good g) {n : Nat} {v : Int} {L : List Int} {k : Nat} (h : Srch g n v L k) (hv : v ∈ g.vs) : L.length ≤ g.vs.length := by
  exact List.Nodup.length_le_of_subset h.nodup fun w hw => hg.reach hv (h.reach w hw)

end Go.Proofs.YtjpnhjembncdkaaGreat.Aw

namespace Go.Proofs.YtjpnhjembncdkaaGreat.Aw
open Go Go.RowKit Go.Proofs.YtjpnhjembncdkaaGreat.Pl
set_option linter.unusedSimpArgs false
set_option linter.unusedVariables false

abbrev rowsL3 (rs : List (List Int)) : List LV := rs.map fun r => .sl 0 r.length (us r)

structure SrchI (g : Gr) (v : Int) (L : List Int) (k : Nat) (x : Int) (j : Nat) : Prop where
  nodup : L.Nodup
  reach : ∀ w ∈ L, Reach g.es v w
  mem : v ∈ L
  done : ∀ u ∈ L.take k, ∀ w ∈ nbr g.es u, w ∈ L
  lt : k < L.length
  at' : L.getD k 0 = x
  some : ∀ w ∈ (nbr g.es x).take j, w ∈ L
theorem Srch.start {g : Gr} {n : Nat} {v : Int} {L : List Int} {k : Nat} (h : Srch g n v L k) (hk : k < L.length) : SrchI g v L k (L.getD k 0) 0 :=
  ⟨h.nodup, h.reach, h.mem, h.done, hk, rfl, fun w hw => by simp at hw⟩
theorem SrchI.skip {g : Gr} {v : Int} {L : List Int} {k : Nat} {x : Int} {j : Nat} (h : SrchI g v L k x j) (hj : j < (nbr g.es x).length) (hw : (nbr g.es x).getD j 0 ∈ L) : SrchI g v L k x (j + 1) := by
  refine ⟨h.nodup, h.reach, h.mem, h.done, h.lt, h.at', fun w hw2 => ?_⟩
  rw [List.take_succ_eq_append_getElem hj, List.mem_append, List.mem_singleton] at hw2
  rcases hw2 with hw2 | rfl
  · exact h.some w hw2
  · rwa [getD_lt _ _ hj] at hw
theorem SrchI.push {g : Gr} {v : Int} {L : List Int} {k : Nat} {x : Int} {j : Nat} (h : SrchI g v L k x j) (hj : j < (nbr g.es x).length) (hw : (nbr g.es x).getD j 0 ∉ L) : SrchI g v (L ++ [(nbr g.es x).getD j 0]) k x (j + 1) := by
  have hx : x ∈ L := by rw [← h.at', getD_lt _ _ h.lt]; exact List.getElem_mem _
  refine ⟨?_, fun w hw2 => ?_, List.mem_append_left _ h.mem, fun u hu w hw2 => ?_, ?_, ?_, fun w hw2 => ?_⟩
  · rw [List.nodup_append]
    refine ⟨h.nodup, by simp, fun a ha b hb => ?_⟩
    rw [List.mem_singleton] at hb
    rintro rfl
    exact hw (hb ▸ ha)
  · rw [List.mem_append, List.mem_singleton] at hw2
    rcases hw2 with hw2 | rfl
    · exact h.reach w hw2
    · exact .step (h.reach x hx) (by rw [getD_lt _ _ hj]; exact List.getElem_mem _)
  · rw [List.take_append_of_le_length (by have := h.lt; omega)] at hu
    exact List.mem_append_left _ (h.done u hu w hw2)
  · have := h.lt; simp; omega
  · rw [← h.at']
    have := h.lt
    simp [List.getD_eq_getElem?_getD, List.getElem?_append_left this]
  · rw [List.take_succ_eq_append_getElem hj, List.mem_append, List.mem_singleton] at hw2
    rw [getD_lt _ _ hj]
    rcases hw2 with hw2 | rfl
    · exact List.mem_append_left _ (h.some w hw2)
    · exact List.mem_append_right _ (List.mem_singleton.2 rfl)
theorem SrchI.len {g : Gr} (hg : Good g) {v : Int} {L : List Int} {k : Nat} {x : Int} {j : Nat} (h : SrchI g v L k x j) (hv : v ∈ g.vs) : L.length ≤ g.vs.length :=
  List.Nodup.length_le_of_subset h.nodup fun w hw => hg.reach hv (h.reach w hw)

/-- Which numbers a map of 1's has. -/
def SeenI (es : List (List Int × LV)) (P : Int → Prop) : Prop := ∀ v, (P v → (mget es [v]).getD (i 0) = i 1) ∧ (¬ P v → (mget es [v]).getD (i 0) = i 0)
theorem SeenI.step {es : List (List Int × LV)} {P P' : Int → Prop} (h : SeenI es P) (w : Int) (hp : ∀ v, P' v ↔ P v ∨ v = w) : SeenI (mset es [w] (i 1)) P' := by
  intro v
  rw [mget_mset]
  by_cases hv : v = w
  · subst hv
    simp only [if_true, Option.getD_some]
    exact ⟨fun _ => by trivial, fun h1 => absurd ((hp v).2 (.inr rfl)) h1⟩
  · rw [if_neg (by simpa using hv), hp]
    exact ⟨fun h1 => (h v).1 (h1.resolve_right hv), fun h1 => (h v).2 fun h2 => h1 (.inl h2)⟩
theorem SeenI.congr {es : List (List Int × LV)} {P P' : Int → Prop} (h : SeenI es P) (hp : ∀ v, P' v ↔ P v) : SeenI es P' := fun v => by rw [hp]; exact h v

def PtF (m ms : Nat) (es : List (List Int × LV)) (n : Nat) (g : Gr) (st : St) (j : Nat) (P : Int → Prop) (fr : Frm) (st2 : St) : Prop :=
  fr 4 = .mp m ∧ fr 5 = .mp ms ∧ fr 16 = .sl 0 g.vs.length (us g.vs) ∧ fr 17 = i g.vs.length ∧ fr 18 = i j ∧ (m < ms ∧ ms < st2.next ∧ st.next ≤ m) ∧ st2.H m = .map false [.u32] es ∧ Keeps st st2 ∧ (∃ es2, st2.H ms = .map false [.u32] es2 ∧ SeenI es2 P) ∧
    ∃ t R, fr 3 = .sl t R.length (rowsL3 R) ∧ PartsTo g j R ∧ t ≠ 0 ∧ st.next ≤ t ∧ t < st2.next ∧ st2.H t = .own 22 1 R.length
def PtL (m ms : Nat) (es : List (List Int × LV)) (n : Nat) (g : Gr) (st : St) (j : Nat) (v : Int) (L : List Int) (fr : Frm) (st2 : St) : Prop :=
  PtF m ms es n g st j (fun w => Seen g j w ∨ w ∈ L) fr st2 ∧ ∃ q, fr 8 = .ms q 0 L.length ∧ st2.H q = .box 32 1 (us L) ∧ st.next ≤ q ∧ q < st2.next

theorem PtL.fr {m ms : Nat} {es : List (List Int × LV)} {n : Nat} {g : Gr} {st : St} {j : Nat} {v : Int} {L : List Int} {fr fr' : Frm} {st2 : St} (h : PtL m ms es n g st j v L fr st2) (h3 : fr' 3 = fr 3) (h4 : fr' 4 = fr 4) (h5 : fr' 5 = fr 5) (h8 : fr' 8 = fr 8) (h16 : fr' 16 = fr 16) (h17 : fr' 17 = fr 17) (h18 : fr' 18 = fr 18) : PtL m ms es n g st j v L fr' st2 := by
  obtain ⟨⟨f4, f5, f16, f17, f18, a, b, c, d, t, R, f3, r⟩, q, f8, r2⟩ := h
  exact ⟨⟨h4.trans f4, h5.trans f5, h16.trans f16, h17.trans f17, h18.trans f18, a, b, c, d, t, R, h3.trans f3, r⟩, q, h8.trans f8, r2⟩

end Go.Proofs.YtjpnhjembncdkaaGreat.Aw

namespace Go.Proofs.YtjpnhjembncdkaaGreat.Aw
open Go Go.RowKit Go.Proofs.YtjpnhjembncdkaaGreat.Pl
set_option linter.unusedSimpArgs false
set_option linter.unusedVariables false

theorem acalls_sl0 {P : Program} {f : FuncId} {args : List LV} {st : St} {Q : LV → St → Prop} (h : ACalls P f args st fun r st' => ∃ t n cs, r = .sl t n cs ∧ Q (.sl 0 n cs) st') : ACalls P f args st Q := by
  refine ⟨h.1, fun w g vs hi hr => (h.2 w g vs hi hr).mono ?_⟩
  rintro x w' ⟨v, r, st', g', rfl, ⟨t, n, cs, rfl, hq⟩, hrep, hi', he⟩
  refine ⟨v, _, st', g', rfl, hq, ?_, hi', he⟩
  simp only [Rep] at hrep ⊢
  obtain ⟨A, cap, h1, h2, h3, h4, h5⟩ := hrep
  exact ⟨A, cap, h1, h2, h3, fun h => absurd rfl h, h5⟩

/-- Which numbers a map of truths has. -/
def InI (es : List (List Int × LV)) (S : List Int) : Prop := ∀ v, (mget es [v]).getD (bb false) = bb (decide (v ∈ S))
theorem InI.step {es : List (List Int × LV)} {S : List Int} (h : InI es S) (w : Int) : InI (mset es [w] (bb true)) (S ++ [w]) := by
  intro v
  rw [mget_mset]
  by_cases hv : v = w
  · subst hv; simp
  · rw [if_neg (by simpa using hv), h v]; simp [hv]
theorem InI.congr {es : List (List Int × LV)} {S S' : List Int} (h : InI es S) (hs : ∀ v, v ∈ S' ↔ v ∈ S) : InI es S' := fun v => by
  rw [h v, show decide (v ∈ S') = decide (v ∈ S) from decide_eq_decide.2 (hs v)]

structure Flood (g : Gr) (v : Int) (S : List Int) : Prop where
  nodup : S.Nodup
  mem : v ∈ S
  reach : ∀ w ∈ S, Reach g.es v w
theorem Flood.len {g : Gr} (hg : Good g) {v : Int} (hv : v ∈ g.vs) {S : List Int} (h : Flood g v S) : S.length ≤ g.vs.length :=
  List.Nodup.length_le_of_subset h.nodup fun w hw => hg.reach hv (h.reach w hw)
theorem Flood.push {g : Gr} {v : Int} {S : List Int} (h : Flood g v S) {x : Ed} (hx : x ∈ g.es) {u w : Int} (hu : u ∈ S) (hw : w ∉ S) (hxw : (x.a = u ∧ x.b = w) ∨ (x.b = u ∧ x.a = w)) : Flood g v (S ++ [w]) := by
  refine ⟨?_, List.mem_append_left _ h.mem, fun z hz => ?_⟩
  · rw [List.nodup_append]
    refine ⟨h.nodup, by simp, fun a ha b hb => ?_⟩
    rw [List.mem_singleton] at hb
    rintro rfl
    exact hw (hb ▸ ha)
  · rw [List.mem_append, List.mem_singleton] at hz
    rcases hz with hz | rfl
    · exact h.reach z hz
    · exact .step (h.reach u hu) (mem_nbr.2 ⟨x, hx, hxw⟩)
def Even (es : List Ed) (S : List Int) : Prop := ∀ x ∈ es, (x.a ∈ S ↔ x.b ∈ S)
theorem Flood.part {g : Gr} (hg : Good g) {v : Int} {S : List Int} (h : Flood g v S) (he : Even g.es S) : IsPart g v (g.vs.filter fun w => decide (w ∈ S)) := by
  refine ⟨hg.rise.filter _, fun w => ?_⟩
  rw [List.mem_filter, decide_eq_true_eq]
  refine ⟨fun hw => ⟨hw.1, h.reach w hw.2⟩, fun hw => ⟨hw.1, ?_⟩⟩
  refine hw.2.closed (L := fun w => w ∈ S) h.mem fun u hu w hw => ?_
  obtain ⟨x, hx, ⟨rfl, rfl⟩ | ⟨rfl, rfl⟩⟩ := mem_nbr.1 hw
  · exact (he x hx).1 hu
  · exact (he x hx).2 hu

def RpI (ms : Nat) (g : Gr) (st : St) (S : List Int) (fr : Frm) (st2 : St) : Prop :=
  fr 2 = .pt st.next 0 ∧ fr 5 = .mp ms ∧ st.next < ms ∧ ms < st2.next ∧ Keeps st st2 ∧ st2.H st.next = .box 25 2 (grL g) ∧ ∃ es, st2.H ms = .map false [.u32] es ∧ InI es S
theorem RpI.fr {ms : Nat} {g : Gr} {st : St} {S : List Int} {fr fr' : Frm} {st2 : St} (h : RpI ms g st S fr st2) (h2 : fr' 2 = fr 2) (h5 : fr' 5 = fr 5) : RpI ms g st S fr' st2 :=
  ⟨h2.trans h.1, h5.trans h.2.1, h.2.2⟩

theorem ref_Part (g : Gr) (v : Int) (st : St) (hg : Good g) (hv : g.vs.length ≤ 1000) (he : g.es.length ≤ 1000) (hvin : v ∈ g.vs) :
    ACalls Tryz.prog 174 [.ag (grL g), u v] st fun r st' => (∃ c, r = .sl 0 c.length (us c) ∧ IsPart g v c) ∧ Keeps st st' := by
  refine acalls_sl0 ?_
  have hel := eds_length g.es
  refine acalls_of_body tabOk Tryz.func174 rfl rfl Tryz.ntmps174 (rs := [.tmp 4]) rfl (by simp) ?_
  (repeat' (first | refine awp_seq ?_ | refine awp_block ?_ | (refine w_e [] ?_; intro J hJ; simp only []; simp []; (refine hJ _ _ ?_; clear hJ J; simp only [ak, reduceIte]))))
  obtain ⟨ms, hms⟩ : ∃ ms, ms = st.next + 1 := ⟨_, rfl⟩
  refine awp_loop (fun z fr st2 => ∃ (gr : Bool) (S : List Int), z = (if gr = true then g.vs.length + 1 - S.length else 0) ∧ fr 6 = bb gr ∧ Flood g v S ∧ (gr = false → Even g.es S) ∧ RpI ms g st S fr st2) g.vs.length ?_ ?_
  · refine ⟨true, [v], by simp, by simp, ⟨by simp, by simp, fun w hw => ?_⟩, fun h => absurd h (by simp), by simp, by simp [hms], by omega, by simp [hms], ?_, by simp, _, by simp [hms]; rfl, fun w => ?_⟩
    · rw [List.mem_singleton] at hw; subst hw; exact .refl
    · (repeat (first | exact Keeps.refl _ | (refine Keeps.trans ?_ (Keeps.new _ _)) | (refine Keeps.set ?_ (by omega) _)))
    · by_cases hw : w = v
      · subst hw; simp [mset, mget]
      · simp [mset, mget, hw]
  rintro z fr st2 ⟨gr, S, rfl, f6, hF, hE, hI⟩ JJ hJJ
  cases gr
  · clear hJJ
    obtain ⟨f2, f5, hm1, hm2, hkp, hG, es, hM, hIn⟩ := hI
    have hpt := hF.part hg (hE rfl)
    (repeat' (first | refine awp_seq ?_ | refine awp_block ?_ | (refine awp_exit ?_; simp only [ak, reduceIte]) | (refine awp_cond ?_; simp [f6, f2, hG]) | (refine w_e [] ?_; intro J hJ; simp only []; simp [f6, f2, hG]; (refine hJ _ _ ?_; clear hJ J; simp only [ak, reduceIte]))))
    refine awp_own 9 32 1 (by simp) ?_
    have hqq : ∀ k, (g.vs.take (k + 1)).filter (fun w => decide (w ∈ S)) = if k < g.vs.length then (if g.vs.getD k 0 ∈ S then (g.vs.take k).filter (fun w => decide (w ∈ S)) ++ [g.vs.getD k 0] else (g.vs.take k).filter (fun w => decide (w ∈ S))) else g.vs.filter (fun w => decide (w ∈ S)) := by
      intro k
      by_cases hk : k < g.vs.length
      · rw [if_pos hk, List.take_succ_eq_append_getElem hk, List.filter_append, getD_lt _ _ hk]
        by_cases h : g.vs[k] ∈ S <;> simp [h]
      · rw [if_neg hk, List.take_of_length_le (by omega)]
    refine awp_loop (fun z fr st3 => ∃ k : Nat, k ≤ g.vs.length ∧ z = g.vs.length - k ∧ fr 5 = .mp ms ∧ fr 40 = .sl 0 g.vs.length (us g.vs) ∧ fr 41 = i g.vs.length ∧ fr 42 = i k ∧ st3.H ms = .map false [.u32] es ∧ ms < st3.next ∧ ∃ t, fr 9 = .sl t ((g.vs.take k).filter fun w => decide (w ∈ S)).length (us ((g.vs.take k).filter fun w => decide (w ∈ S))) ∧ OwnAt t st ((g.vs.take k).filter fun w => decide (w ∈ S)) st3) g.vs.length ?_ ?_
    · have a1 : ¬ ms = st2.next := by omega
      exact ⟨0, by omega, by omega, by simp [f5], by simp, by simp, by simp, by simp [a1, hM], by simp; omega, st2.next, by simp, by omega, by have := hkp.next; omega, by simp, by simp, hkp.trans (Keeps.new _ _)⟩
    clear f2 f5 f6 hM hkp hG fr
    rintro z fr st3 ⟨k, hk, rfl, f5, f40, f41, f42, hM, hm3, t, f9, ht0, htl, htn, htH, hkp⟩ JJ hJJ
    by_cases hlt : k < g.vs.length
    rotate_left
    · clear hJJ
      have hk' : k = g.vs.length := by omega
      rw [hk', List.take_length] at f9
      (repeat' (first | refine awp_seq ?_ | (refine awp_exit ?_; simp only [ak, reduceIte]) | (refine awp_ret ?_; simp only [ak, reduceIte]; simp [f9, f41, f42, hlt]) | (refine awp_cond ?_; simp [f9, f41, f42, hlt]) | (refine w_e [] ?_; intro J hJ; simp only []; simp [f9, f41, f42, hlt]; (refine hJ _ _ ?_; clear hJ J; simp only [ak, reduceIte]))))
      exact ⟨t, _, _, ⟨rfl, rfl, rfl⟩, ⟨_, ⟨rfl, rfl⟩, hpt⟩, hkp⟩
    have hd := us_drop_getD g.vs k hlt
    have hw := nat_add_one k (by omega)
    have hst := hqq k
    rw [if_pos hlt] at hst
    have hle := List.length_filter_le (fun w => decide (w ∈ S)) (g.vs.take k)
    rw [List.length_take] at hle
    generalize hx : g.vs.getD k 0 = x at *
    generalize hFF : (g.vs.take k).filter (fun w => decide (w ∈ S)) = F at *
    have hIx := hIn x
    have ht2 : ¬ t = st3.next := by omega
    by_cases hxS : x ∈ S
    · rw [if_pos hxS] at hst
      rw [decide_eq_true hxS] at hIx
      (repeat' (first | refine awp_seq ?_ | refine awp_block ?_ | (refine awp_skip ?_; simp only [ak, reduceIte]) | (refine awp_cond ?_; simp [f5, f9, f40, f41, f42, hlt, hd, hw, hM, hIx, htH, ht0, ht2]) | (refine w_e [] ?_; intro J hJ; simp only []; simp [f5, f9, f40, f41, f42, hlt, hd, hw, hM, hIx, htH, ht0, ht2]; (repeat refine ca ?_); (refine hJ _ _ ?_; clear hJ J; simp only [ak, reduceIte]))))
      have a1 : ¬ ms = st3.next := by omega
      have a2 : ¬ ms = st3.next + 1 := by omega
      have a3 : ¬ ms = t := fun h => by rw [h, htH] at hM; cases hM
      exact hJJ (g.vs.length - (k + 1)) _ _ (by omega) ⟨k + 1, by omega, rfl, by simp [f5], by simp [f40], by simp [f41], by simp, by simp [a1, a2, a3, hM], by simp; omega, st3.next + 1, by rw [hst]; simp, by omega, by omega, by simp, by rw [hst]; simp, (by repeat (first | exact hkp | (refine Keeps.trans ?_ (Keeps.new _ _)) | (refine Keeps.set ?_ (by have := hkp.next; omega) _)))⟩
    · rw [if_neg hxS] at hst
      rw [decide_eq_false hxS] at hIx
      (repeat' (first | refine awp_seq ?_ | refine awp_block ?_ | (refine awp_skip ?_; simp only [ak, reduceIte]) | (refine awp_cond ?_; simp [f5, f9, f40, f41, f42, hlt, hd, hw, hM, hIx]) | (refine w_e [] ?_; intro J hJ; simp only []; simp [f5, f9, f40, f41, f42, hlt, hd, hw, hM, hIx]; (refine hJ _ _ ?_; clear hJ J; simp only [ak, reduceIte]))))
      exact hJJ (g.vs.length - (k + 1)) _ _ (by omega) ⟨k + 1, by omega, rfl, by simp [f5], by simp [f40], by simp [f41], by simp, hM, hm3, t, by rw [hst]; simp [f9], ht0, htl, htn, by rw [hst]; exact htH, hkp⟩
  have hSl := hF.len hg hvin
  obtain ⟨f2, f5, hm1, hm2, hkp, hG, es, hM, hIn⟩ := id hI
  (repeat' (first | refine awp_seq ?_ | refine awp_block ?_ | (refine awp_skip ?_; simp only [ak, reduceIte]) | (refine awp_cond ?_; simp [f6, f2, hG]) | (refine w_e [] ?_; intro J hJ; simp only []; simp [f6, f2, hG]; (refine hJ _ _ ?_; clear hJ J; simp only [ak, reduceIte]))))
  refine awp_loop (fun z fr st2 => ∃ (k : Nat) (gr : Bool) (S' : List Int), k ≤ g.es.length ∧ z = g.es.length - k ∧ fr 6 = bb gr ∧ fr 17 = .sl 0 g.es.length (eds g.es) ∧ fr 18 = i g.es.length ∧ fr 19 = i k ∧ Flood g v S' ∧ (gr = false → Even (g.es.take k) S') ∧ (gr = true → S.length < S'.length) ∧ S.length ≤ S'.length ∧ RpI ms g st S' fr st2) g.es.length ?_ ?_
  · exact ⟨0, false, S, by omega, by omega, by simp, by simp, by simp, by simp, hF, fun _ x hx => by simp at hx, fun h => absurd h (by simp), Nat.le_refl _, hI.fr (by simp) (by simp)⟩
  clear f2 f5 f6 hI hE hF hm1 hm2 hkp hG hM hIn es fr st2
  rintro z fr st2 ⟨k, gr, S', hk, rfl, f6, f17, f18, f19, hF, hE, hG2, hSS, hI⟩ J2 hJ2
  have hSl2 := hF.len hg hvin
  obtain ⟨f2, f5, hm1, hm2, hkp, hG, es, hM, hIn⟩ := id hI
  by_cases hlt : k < g.es.length
  rotate_left
  · clear hJ2
    have hk' : k = g.es.length := by omega
    rw [hk', List.take_length] at hE
    (repeat' (first | refine awp_seq ?_ | (refine awp_exit ?_; simp only [ak, reduceIte]) | (refine awp_cond ?_; simp [f18, f19, hlt]) | (refine w_e [] ?_; intro J hJ; simp only []; simp [f18, f19, hlt]; (refine hJ _ _ ?_; clear hJ J; simp only [ak, reduceIte]))))
    refine hJJ (if gr = true then g.vs.length + 1 - S'.length else 0) _ _ ?_ ⟨gr, S', rfl, by simp [f6], hF, hE, hI.fr (by simp) (by simp)⟩
    cases gr
    · simp; omega
    · have := hG2 rfl; simp; omega
  clear hJJ
  have hd := eds_drop g.es k hlt
  have hw := nat_add_one k (by omega)
  have hk3 : k * 3 < g.es.length * 3 := by omega
  have hxin : g.es.getD k ed0 ∈ g.es := by rw [List.getD_eq_getElem?_getD, List.getElem?_eq_getElem hlt]; exact List.getElem_mem hlt
  have hEn : (gr = false → Even (g.es.take k) S') → ((g.es.getD k ed0).a ∈ S' ↔ (g.es.getD k ed0).b ∈ S') → (gr = false → Even (g.es.take (k + 1)) S') := by
    intro h1 h2 h3 y hy
    rw [List.take_succ_eq_append_getElem hlt, List.mem_append, List.mem_singleton] at hy
    rcases hy with hy | rfl
    · exact h1 h3 y hy
    · rw [List.getD_eq_getElem?_getD, List.getElem?_eq_getElem hlt] at h2; exact h2
  generalize hx : g.es.getD k ed0 = x at *
  obtain ⟨id, a, b⟩ := x
  simp only at hd hEn
  have hIa := hIn a
  have hIb := hIn b
  have a1 : ¬ ms = st2.next := by omega
  have a2 : ¬ st2.next = ms := by omega
  have a3 : ¬ st.next = st2.next := by omega
  have a4 : ¬ st.next = ms := by omega
  by_cases hab : (a ∈ S' ↔ b ∈ S')
  · have hdd : decide (a ∈ S') = decide (b ∈ S') := decide_eq_decide.2 hab
    rw [hdd] at hIa
    (repeat' (first | refine awp_seq ?_ | refine awp_block ?_ | (refine awp_skip ?_; simp only [ak, reduceIte]) | (refine awp_cond ?_; simp [f5, f17, f18, f19, hlt, hd, hel, hw, hM, hIa, hIb, a1, a2]) | (refine w_e [] ?_; intro J hJ; simp only []; simp [f5, f17, f18, f19, hlt, hd, hel, hw, hM, hIa, hIb, a1, a2]; (refine hJ _ _ ?_; clear hJ J; simp only [ak, reduceIte]))))
    exact hJ2 (g.es.length - (k + 1)) _ _ (by omega) ⟨k + 1, gr, S', by omega, rfl, by simp [f6], by simp [f17], by simp [f18], by simp, hF, hEn hE hab, hG2, hSS, by simp [f2], by simp [f5], hm1, by simp; omega, (by repeat (first | exact hkp | (refine Keeps.trans ?_ (Keeps.new _ _)) | (refine Keeps.set ?_ (by have := hkp.next; omega) _))), by simp [a3, hG], es, by simp [a1, hM], hIn⟩
  · have hdd : ¬ decide (a ∈ S') = decide (b ∈ S') := fun h => hab (decide_eq_decide.1 h)
    have hIn2 := (hIn.step a).step b
    obtain ⟨S2, hS2, hF2, hl2⟩ : ∃ S2, (∀ z, z ∈ S2 ↔ z ∈ S' ++ [a] ++ [b]) ∧ Flood g v S2 ∧ S'.length < S2.length := by
      by_cases ha : a ∈ S'
      · have hb : b ∉ S' := fun h => hab ⟨fun _ => h, fun _ => ha⟩
        refine ⟨S' ++ [b], fun z => ?_, hF.push hxin ha hb (.inl ⟨rfl, rfl⟩), by simp⟩
        simp only [List.mem_append, List.mem_singleton]
        exact ⟨fun h => h.elim (fun h => .inl (.inl h)) .inr, fun h => h.elim (fun h => h.elim .inl (fun h => .inl (h ▸ ha))) .inr⟩
      · have hb : b ∈ S' := Classical.byContradiction fun h => hab ⟨fun h1 => absurd h1 ha, fun h1 => absurd h1 h⟩
        refine ⟨S' ++ [a], fun z => ?_, hF.push hxin hb ha (.inr ⟨rfl, rfl⟩), by simp⟩
        simp only [List.mem_append, List.mem_singleton]
        exact ⟨fun h => h.elim (fun h => .inl (.inl h)) (fun h => .inl (.inr h)), fun h => h.elim (fun h => h.elim .inl .inr) (fun h => .inl (h ▸ hb))⟩
    have hIn3 := hIn2.congr hS2
    (repeat' (first | refine awp_seq ?_ | refine awp_block ?_ | (refine awp_skip ?_; simp only [ak, reduceIte]) | (refine awp_cond ?_; simp [f5, f17, f18, f19, hlt, hd, hel, hw, hM, hIa, hIb, hdd, a1, a2]) | (refine w_e [] ?_; intro J hJ; simp only []; simp [f5, f17, f18, f19, hlt, hd, hel, hw, hM, hIa, hIb, hdd, a1, a2]; (refine hJ _ _ ?_; clear hJ J; simp only [ak, reduceIte]))))
    exact hJ2 (g.es.length - (k + 1)) _ _ (by omega) ⟨k + 1, true, S2, by omega, rfl, by simp, by simp [f17], by simp [f18], by simp, hF2, fun h => absurd h (by simp), fun _ => by omega, by omega, by simp [f2], by simp [f5], hm1, by simp; omega, (by repeat (first | exact hkp | (refine Keeps.trans ?_ (Keeps.new _ _)) | (refine Keeps.set ?_ (by have := hkp.next; omega) _))), by simp [a3, a4, hG], _, by simp, hIn3⟩

end Go.Proofs.YtjpnhjembncdkaaGreat.Aw

namespace Go.Proofs.YtjpnhjembncdkaaGreat.Aw
open Go Go.RowKit Go.Proofs.YtjpnhjembncdkaaGreat.Pl
set_option linter.unusedSimpArgs false
set_option linter.unusedVariables false

theorem IsPart.seen {g : Gr} (hg : Good g) {k : Nat} (hk : k < g.vs.length) {x : Int} {c : List Int} (h : IsPart g (g.vs.getD k 0) (x :: c)) : Seen g k (g.vs.getD k 0) ↔ x ≠ g.vs.getD k 0 := by
  have hvin : g.vs.getD k 0 ∈ g.vs := by rw [getD_lt _ _ hk]; exact List.getElem_mem hk
  obtain ⟨h1, h2⟩ := h
  have hmin : ∀ w ∈ x :: c, x ≤ w := by
    intro w hw
    rw [List.mem_cons] at hw
    rcases hw with rfl | hw
    · omega
    · have := (List.pairwise_cons.1 h1).1 w hw; omega
  have hxin := (h2 x).1 (List.mem_cons_self ..)
  constructor
  · rintro ⟨u, hu, hr⟩ he
    obtain ⟨k1, k2⟩ := (take_lt hg.rise hk).1 hu
    have := hmin u ((h2 u).2 ⟨k1, hr.symm⟩)
    omega
  · intro hne
    have := hmin _ ((h2 _).2 ⟨hvin, .refl⟩)
    exact ⟨x, (take_lt hg.rise hk).2 ⟨hxin.1, by omega⟩, hxin.2.symm⟩

theorem ref_Parts (g : Gr) (st : St) (hg : Good g) (hv : g.vs.length ≤ 1000) (he : g.es.length ≤ 1000) :
    ACalls Tryz.prog 111 [.ag (grL g)] st fun r st' => (∃ t R, r = .sl t R.length (rowsL3 R) ∧ PartsTo g g.vs.length R) ∧ Keeps st st' := by
  refine acalls_of_body tabOk Tryz.func111 rfl rfl Tryz.ntmps111 (rs := [.tmp 2]) rfl (by simp) ?_
  (repeat' (first | refine awp_seq ?_ | refine awp_block ?_ | (refine w_e [] ?_; intro J hJ; simp only []; simp []; (refine hJ _ _ ?_; clear hJ J; simp only [ak, reduceIte]))))
  refine awp_posG fun hpos => ?_
  refine awp_own 3 22 1 (by simp) ?_
  refine awp_loop (fun z fr st2 => ∃ j : Nat, j ≤ g.vs.length ∧ z = g.vs.length - j ∧ fr 1 = .pt st.next 0 ∧ fr 8 = .sl 0 g.vs.length (us g.vs) ∧ fr 9 = i g.vs.length ∧ fr 10 = i j ∧ st.next < st2.next ∧ st2.H st.next = .box 25 2 (grL g) ∧ Keeps st st2 ∧ ∃ t R, fr 3 = .sl t R.length (rowsL3 R) ∧ PartsTo g j R ∧ t ≠ 0 ∧ st.next < t ∧ t < st2.next ∧ st2.H t = .own 22 1 R.length) g.vs.length ?_ ?_
  · refine ⟨0, by omega, by omega, by simp, by simp, by simp, by simp, by simp; omega, by simp, ?_, st.next + 1, [], by simp, .zero, by omega, by omega, by simp, by simp⟩
    (repeat (first | exact Keeps.refl _ | (refine Keeps.trans ?_ (Keeps.new _ _)) | (refine Keeps.set ?_ (by omega) _)))
  rintro z fr st2 ⟨j, hj, rfl, f1, f8, f9, f10, hsn, hG, hkp, t, R, f3, hPT, ht0, htl, htn, htH⟩ JJ hJJ
  by_cases hlt : j < g.vs.length
  rotate_left
  · clear hJJ
    have hj' : j = g.vs.length := by omega
    rw [hj'] at hPT
    (repeat' (first | refine awp_seq ?_ | (refine awp_exit ?_; simp only [ak, reduceIte]) | (refine awp_ret ?_; simp only [ak, reduceIte]; simp [f3, f9, f10, hlt]) | (refine awp_cond ?_; simp [f3, f9, f10, hlt]) | (refine w_e [] ?_; intro J hJ; simp only []; simp [f3, f9, f10, hlt]; (refine hJ _ _ ?_; clear hJ J; simp only [ak, reduceIte]))))
    exact ⟨⟨t, R, ⟨rfl, rfl, rfl⟩, hPT⟩, hkp⟩
  have hd := us_drop_getD g.vs j hlt
  have hw := nat_add_one j (by omega)
  have hvin : g.vs.getD j 0 ∈ g.vs := by rw [getD_lt _ _ hlt]; exact List.getElem_mem hlt
  have hps := fun hs => PartsTo.seen hPT hlt hs
  have hpl := fun (c : List Int) hs hc => PartsTo.lead (c := c) hPT hlt hs hc
  have hsn2 := fun x c => @IsPart.seen g hg j hlt x c
  have hRl := hPT.len
  generalize hx : g.vs.getD j 0 = v at *
  (repeat' (first | refine awp_seq ?_ | refine awp_block ?_ | (refine awp_skip ?_; simp only [ak, reduceIte]) | (refine awp_cond ?_; simp [f1, f8, f9, f10, hlt, hd, hG]) | (refine w_e [] ?_; intro J hJ; simp only []; simp [f1, f8, f9, f10, hlt, hd, hG]; (try (refine hJ _ _ ?_; clear hJ J; simp only [ak, reduceIte])))))
  refine callK_ofE (ref_Part g v st2 hg hv he hvin) (by simp [f1, hG]) ?_; rintro r s2 ⟨⟨c, rfl, hc⟩, hk2⟩
  have hn2 := hk2.next
  have hG2 := (hk2.H _ hsn).trans hG
  have htH2 := (hk2.H _ htn).trans htH
  have hkp2 := hkp.trans hk2
  have a1 : ¬ t = s2.next := by omega
  have a2 : ¬ t = s2.next + 1 := by omega
  have a3 : ¬ st.next = s2.next := by omega
  have a4 : ¬ st.next = s2.next + 1 := by omega
  have a5 : ¬ st.next = t := by omega
  cases c with
  | nil =>
    exfalso
    have := (hc.2 v).2 ⟨hvin, .refl⟩
    simp at this
  | cons x c =>
    by_cases hxv : x = v
    · have hns : ¬ Seen g j v := fun h => ((hsn2 x c hc).1 h) hxv
      have hP2 := hpl _ hns hc
      (repeat' (first | refine awp_seq ?_ | (refine awp_cond ?_; simp [f3, f10, hw, hxv, htH2, ht0, a1, a2]) | ((first | (refine w_e [] ?_; intro J hJ; simp only []) | (refine e_go ?_)); simp [f3, f10, hw, hxv, htH2, ht0, a1, a2]; (repeat refine ca ?_); (refine hJ _ _ ?_; clear hJ J; simp only [ak, reduceIte]))))
      rw [hxv] at hP2
      refine hJJ (g.vs.length - (j + 1)) _ _ (by omega) ⟨j + 1, by omega, rfl, by simp [f1], by simp [f8], by simp [f9], by simp, by simp; omega, by simp [a3, a4, a5, hG2], ?_, s2.next + 1, R ++ [v :: c], by simp, hP2, by omega, by omega, by simp, by simp⟩
      (repeat (first | exact hkp2 | (refine Keeps.trans ?_ (Keeps.new _ _)) | (refine Keeps.set ?_ (by omega) _)))
    · have hns : Seen g j v := (hsn2 x c hc).2 hxv
      have hP2 := hps hns
      (repeat' (first | refine awp_seq ?_ | (refine awp_skip ?_; simp only [ak, reduceIte]) | (refine awp_cond ?_; simp [f3, f10, hw, hxv]) | ((first | (refine w_e [] ?_; intro J hJ; simp only []) | (refine e_go ?_)); simp [f3, f10, hw, hxv]; (refine hJ _ _ ?_; clear hJ J; simp only [ak, reduceIte]))))
      exact hJJ (g.vs.length - (j + 1)) _ _ (by omega) ⟨j + 1, by omega, rfl, by simp [f1], by simp [f8], by simp [f9], by simp, by omega, hG2, hkp2, t, R, by simp [f3], hP2, ht0, htl, by omega, htH2⟩

/-- An edge's place. -/
def fe (l : List Ed) (id : Int) : Int := if l.any (fun x => decide (x.id = id)) then (l.findIdx (fun x => decide (x.id = id)) : Int) else -1
theorem fe_some {l : List Ed} {id : Int} {k : Nat} (hk : k < l.length) (h : (l.getD k ed0).id = id) (hn : ∀ j, j < k → (l.getD j ed0).id ≠ id) : fe l id = k := by
  have hg : ∀ j (hj : j < l.length), l.getD j ed0 = l[j] := fun j hj => by rw [List.getD_eq_getElem?_getD, List.getElem?_eq_getElem hj]; rfl
  rw [hg k hk] at h
  unfold fe
  rw [if_pos (List.any_eq_true.2 ⟨_, List.getElem_mem hk, by simpa using h⟩)]
  congr 1
  refine (List.findIdx_eq hk).2 ⟨by simpa using h, fun j hj => ?_⟩
  have := hn j hj
  rw [hg j (by omega)] at this
  simpa using this
theorem fe_none {l : List Ed} {id : Int} (hn : ∀ j, j < l.length → (l.getD j ed0).id ≠ id) : fe l id = -1 := by
  unfold fe
  rw [if_neg]
  intro h
  obtain ⟨x, hx, hp⟩ := List.any_eq_true.1 h
  obtain ⟨j, hj, rfl⟩ := List.getElem_of_mem hx
  have := hn j hj
  rw [List.getD_eq_getElem?_getD, List.getElem?_eq_getElem hj] at this
  exact this (by simpa using hp)

theorem ref_Find (g : Gr) (id : Int) (st : St) (he : g.es.length ≤ 1000) :
    ACalls Tryz.prog 47 [.ag (grL g), u id] st fun r st' => r = i (fe g.es id) ∧ Keeps st st' := by
  obtain ⟨vs, l⟩ := g
  simp only at he ⊢
  have hel := eds_length l
  refine acalls_of_body tabOk Tryz.func47 rfl rfl Tryz.ntmps47 (rs := [.tmp 4]) rfl (by simp) ?_
  (repeat' (first | refine awp_seq ?_ | refine awp_block ?_ | (refine w_e [] ?_; intro J hJ; simp only []; simp []; (refine hJ _ _ ?_; clear hJ J; simp only [ak, reduceIte]))))
  refine awp_loop (fun n fr st2 => ∃ k : Nat, k ≤ l.length ∧ n = l.length - k ∧ fr 1 = u id ∧ fr 8 = .sl 0 l.length (eds l) ∧ fr 9 = i l.length ∧ fr 10 = i k ∧ Keeps st st2 ∧ ∀ j, j < k → (l.getD j ed0).id ≠ id) l.length ?_ ?_
  · exact ⟨0, by omega, by omega, by simp, by simp, by simp, by simp, Keeps.new _ _, fun j hj => by omega⟩
  rintro n fr st2 ⟨k, hk, rfl, f1, f8, f9, f10, hkp, hno⟩ JJ hJJ
  by_cases hlt : k < l.length
  rotate_left
  · clear hJJ
    have hr := fe_none (l := l) (id := id) fun j hj => hno j (by omega)
    (repeat' (first | refine awp_seq ?_ | (refine awp_exit ?_; simp only [ak, reduceIte]) | (refine awp_ret ?_; simp only [ak, reduceIte]; simp [f9, f10, hlt, hr]) | (refine awp_cond ?_; simp [f9, f10, hlt, hr]) | (refine w_e [] ?_; intro J hJ; simp only []; simp [f9, f10, hlt, hr]; (refine hJ _ _ ?_; clear hJ J; simp only [ak, reduceIte]))))
    exact hkp
  have hd := eds_drop l k hlt
  have hw := nat_add_one k (by omega)
  have hk3 : k * 3 < l.length * 3 := by omega
  have hso := fun h => fe_some (id := id) hlt h hno
  have hnx : (l.getD k ed0).id ≠ id → ∀ j, j < k + 1 → (l.getD j ed0).id ≠ id := fun h j hj => by
    rcases Nat.lt_or_ge j k with h1 | h1
    · exact hno j h1
    · obtain rfl : j = k := by omega
      exact h
  generalize hx : l.getD k ed0 = x at *
  obtain ⟨d, a, b⟩ := x
  simp only at hd hso hnx
  by_cases hdi : d = id
  · have hr := hso hdi
    (repeat' (first | refine awp_seq ?_ | refine awp_block ?_ | (refine awp_skip ?_; simp only [ak, reduceIte]) | (refine awp_ret ?_; simp only [ak, reduceIte]; simp [f1, f8, f9, f10, hlt, hd, hel, hdi, hr]) | (refine awp_cond ?_; simp [f1, f8, f9, f10, hlt, hd, hel, hdi, hr]) | (refine w_e [] ?_; intro J hJ; simp only []; simp [f1, f8, f9, f10, hlt, hd, hel, hdi, hr]; (refine hJ _ _ ?_; clear hJ J; simp only [ak, reduceIte]))))
    exact hkp.trans (Keeps.new _ _)
  · (repeat' (first | refine awp_seq ?_ | refine awp_block ?_ | (refine awp_skip ?_; simp only [ak, reduceIte]) | (refine awp_cond ?_; simp [f1, f8, f9, f10, hlt, hd, hel, hdi, hw]) | (refine w_e [] ?_; intro J hJ; simp only []; simp [f1, f8, f9, f10, hlt, hd, hel, hdi, hw]; (refine hJ _ _ ?_; clear hJ J; simp only [ak, reduceIte]))))
    exact hJJ (l.length - (k + 1)) _ _ (by omega) ⟨k + 1, by omega, rfl, by simp [f1], by simp [f8], by simp [f9], by simp, hkp.trans (Keeps.new _ _), hnx hdi⟩

theorem fe_lt (l : List Ed) (id : Int) (h : ¬ fe l id < 0) : (fe l id).toNat < l.length ∧ fe l id = ((fe l id).toNat : Int) ∧ (l.getD (fe l id).toNat ed0).id = id := by
  unfold fe at h ⊢
  split at h
  · rename_i ha
    rw [if_pos ha]
    simp only [Int.toNat_natCast]
    have hlt : l.findIdx (fun x => decide (x.id = id)) < l.length := by
      rw [List.findIdx_lt_length]
      obtain ⟨x, hx, h⟩ := List.any_eq_true.1 ha
      exact ⟨x, hx, h⟩
    refine ⟨hlt, trivial, ?_⟩
    have := List.findIdx_getElem (w := hlt)
    rw [List.getD_eq_getElem?_getD, List.getElem?_eq_getElem hlt]
    simpa using this
  · omega

end Go.Proofs.YtjpnhjembncdkaaGreat.Aw

namespace Go.Proofs.YtjpnhjembncdkaaGreat.Aw
open Go Go.RowKit Go.Proofs.YtjpnhjembncdkaaGreat.Pl
set_option linter.unusedSimpArgs false
set_option linter.unusedVariables false

def TestE (f : FuncId) (caps : List LV) (st : St) (l : List Ed) (p : Ed → Bool) : Prop := ∀ x ∈ l, ∀ st2, Keeps st st2 → ACalls Tryz.prog f (.ag (edL x) :: caps) st2 fun r st3 => r = bb (p x) ∧ Keeps st2 st3

def odd1 (o : Bool) (x : Ed) : Bool := decide (x.id % 2 = 1) == o
theorem filter_takeE (l : List Ed) (p : Ed → Bool) (k : Nat) (hk : k < l.length) : (l.take (k + 1)).filter p = if p (l.getD k ed0) = true then (l.take k).filter p ++ [l.getD k ed0] else (l.take k).filter p := by
  rw [List.take_succ_eq_append_getElem hk, List.filter_append, List.getD_eq_getElem?_getD, List.getElem?_eq_getElem hk]
  by_cases h : p l[k] = true <;> simp [h]

/-- A row of edges, or none. -/
def RowE (X : LV) (F : List Ed) : Prop := (X = .nil ∧ F = []) ∨ ∃ t, X = .sl t F.length (eds F)

end Go.Proofs.YtjpnhjembncdkaaGreat.Aw

namespace Go.Proofs.YtjpnhjembncdkaaGreat.Aw
open Go Go.RowKit Go.Proofs.YtjpnhjembncdkaaGreat.Pl
set_option linter.unusedSimpArgs false
set_option linter.unusedVariables false

theorem firstNZ_all {f : Nat → Int} {n : Nat} (h : firstNZ f n = 0) : ∀ j, j < n → f j = 0 := by
  induction n with
  | zero => intro j hj; omega
  | succ n ih =>
    intro j hj
    simp only [firstNZ] at h
    by_cases h0 : firstNZ f n = 0
    · rw [if_neg (by simp [h0])] at h
      rcases Nat.lt_or_ge j n with h1 | h1
      · exact ih h0 j h1
      · obtain rfl : j = n := by omega
        exact h
    · rw [if_pos h0] at h; exact absurd h h0
theorem numb_zero {n a : Int} {b : Bool} (h : numb n a b = 0) : 1 ≤ n ∧ n ≤ 1048576 ∧ (b = false → a < n) := by
  unfold numb at h
  by_cases h1 : n < 1 ∨ 1048576 < n
  · rw [if_pos h1] at h; cases h
  · rw [if_neg h1] at h
    by_cases h2 : b = false ∧ n ≤ a
    · rw [if_pos h2] at h; cases h
    · refine ⟨by omega, by omega, fun hb => ?_⟩
      rcases Int.lt_or_le a n with h3 | h3
      · exact h3
      · exact absurd ⟨hb, h3⟩ h2
theorem rise_of {l : List Int} (h : ∀ j, j < l.length → 0 < j → l.getD (j - 1) 0 < l.getD j 0) : l.Pairwise (· < ·) := by
  rw [List.pairwise_iff_getElem]
  intro a b ha hb hab
  induction b with
  | zero => omega
  | succ b ih =>
    have h1 := h (b + 1) hb (by omega)
    rw [Nat.add_sub_cancel, getD_lt _ _ hb, getD_lt _ _ (by omega)] at h1
    rcases Nat.lt_or_ge a b with h2 | h2
    · have := ih (by omega) h2; omega
    · obtain rfl : a = b := by omega
      exact h1
theorem chk_good {g : Gr} (h : chk g = 0) : Good g ∧ idOk g.es ∧ g.vs.length ≤ 64 ∧ g.es.length ≤ 160 := by
  unfold chk at h
  by_cases h1 : 64 < g.vs.length ∨ 160 < g.es.length
  · rw [if_pos h1] at h; cases h
  · rw [if_neg h1] at h
    by_cases h2 : firstNZ (badV g) g.vs.length = 0
    · rw [if_neg (by simp [h2])] at h
      have hV := firstNZ_all h2
      have hE := firstNZ_all h
      have hEx : ∀ j, j < g.es.length → (1 ≤ (g.es.getD j ed0).id ∧ (g.es.getD j ed0).id ≤ 1048576) ∧ (g.es.getD j ed0).a ∈ g.vs ∧ (g.es.getD j ed0).b ∈ g.vs := by
        intro j hj
        have := hE j hj
        unfold badE at this
        simp only at this
        by_cases h3 : numb (g.es.getD j ed0).id (g.es.getD (j - 1) ed0).id (decide (j = 0)) = 0
        · rw [if_neg (fun h => h h3)] at this
          by_cases h4 : (g.es.getD j ed0).a = (g.es.getD j ed0).b
          · rw [if_pos h4] at this; cases this
          · rw [if_neg h4] at this
            by_cases h5 : (g.es.getD j ed0).a ∉ g.vs ∨ (g.es.getD j ed0).b ∉ g.vs
            · rw [if_pos h5] at this; cases this
            · have h6 := numb_zero h3
              refine ⟨⟨h6.1, h6.2.1⟩, ?_, ?_⟩
              · exact Classical.byContradiction fun h => h5 (.inl h)
              · exact Classical.byContradiction fun h => h5 (.inr h)
        · rw [if_pos h3] at this; exact absurd this h3
      have hget : ∀ x ∈ g.es, ∃ j, j < g.es.length ∧ g.es.getD j ed0 = x := by
        intro x hx
        obtain ⟨j, hj, rfl⟩ := List.getElem_of_mem hx
        exact ⟨j, hj, by rw [List.getD_eq_getElem?_getD, List.getElem?_eq_getElem hj]; rfl⟩
      refine ⟨⟨rise_of fun j hj h0 => ?_, fun x hx => ?_⟩, fun x hx => ?_, by omega, by omega⟩
      · have := (numb_zero (hV j hj)).2.2 (by simp; omega)
        exact this
      · obtain ⟨j, hj, rfl⟩ := hget x hx
        exact (hEx j hj).2
      · obtain ⟨j, hj, rfl⟩ := hget x hx
        have := (hEx j hj).1; omega
    · rw [if_pos h2] at h; exact absurd h h2

theorem ends_nil (es : List Ed) (v : Int) : ends es v = [] ↔ nbr es v = [] := by
  unfold ends nbr
  simp only [List.flatMap_eq_nil_iff]
  refine forall_congr' fun x => forall_congr' fun _ => ?_
  unfold end1 nbr1
  by_cases h1 : x.a = v <;> by_cases h2 : x.b = v <;> simp [h1, h2]

theorem PartsTo.flat {g : Gr} (hg : Good g) {k : Nat} {R : List (List Int)} (h : PartsTo g k R) : R.flatten.Nodup ∧ ∀ w, w ∈ R.flatten ↔ w ∈ g.vs ∧ Seen g k w := by
  induction h with
  | zero => exact ⟨by simp, fun w => ⟨fun h => by simp at h, fun h => by obtain ⟨u, hu, _⟩ := h.2; simp at hu⟩⟩
  | seen _ hk hs ih => exact ⟨ih.1, fun w => by rw [ih.2, seen_same hk hs]⟩
  | @lead k R c _ hk hs hc ih =>
    rw [List.flatten_append, List.flatten_cons, List.flatten_nil, List.append_nil]
    refine ⟨?_, fun w => ?_⟩
    · rw [List.nodup_append]
      refine ⟨ih.1, hc.1.imp fun h => by omega, fun a ha b hb => ?_⟩
      rintro rfl
      have h1 := ((ih.2 a).1 ha).2
      have h2 := ((hc.2 a).1 hb).2
      exact hs (h1.reach h2.symm)
    · rw [List.mem_append, ih.2, hc.2, seen_succ hk]
      constructor
      · rintro (⟨h1, h2⟩ | ⟨h1, h2⟩)
        · exact ⟨h1, .inl h2⟩
        · exact ⟨h1, .inr h2⟩
      · rintro ⟨h1, h2 | h2⟩
        · exact .inl ⟨h1, h2⟩
        · exact .inr ⟨h1, h2⟩
theorem PartsTo.count {g : Gr} (hg : Good g) {R : List (List Int)} (h : PartsTo g g.vs.length R) : R.flatten.length = g.vs.length := by
  obtain ⟨h1, h2⟩ := h.flat hg
  refine ((List.perm_ext_iff_of_nodup h1 hg.nodup).2 fun w => ?_).length_eq
  rw [h2]
  refine ⟨fun h => h.1, fun h => ⟨h, w, ?_, .refl⟩⟩
  rw [List.take_length]; exact h
theorem PartsTo.row_le {g : Gr} (hg : Good g) {k : Nat} {R : List (List Int)} (h : PartsTo g k R) : ∀ c ∈ R, c.length ≤ g.vs.length := by
  induction h with
  | zero => intro c hc; simp at hc
  | seen _ _ _ ih => exact ih
  | lead _ _ _ hc ih =>
    intro d hd
    rw [List.mem_append, List.mem_singleton] at hd
    rcases hd with hd | rfl
    · exact ih d hd
    · exact List.Nodup.length_le_of_subset (hc.1.imp fun h => by omega) fun w hw => ((hc.2 w).1 hw).1

end Go.Proofs.YtjpnhjembncdkaaGreat.Aw
