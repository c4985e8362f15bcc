/- tree.Depths: how far each vertex is. Plain: how far each vertex is, by both searches. No program. Plain: the search finds the shortest way, if there is one. No program. Plain: edges that join parts, and the others; a forest of parents. No program. The document's near vertices; edges beside each other. The document's way from one vertex to another one: the walk. A graph that may be, in words. No program. The law BlockPaths. Plain: a forest's edges and parts; ways within it. No program. Tables of counts: Sum. Tables of counts: Keys, Top. Tables of counts: Add. stat.Girth, stat.Degrees: contracts. Plain: how far each vertex is: there is an end; how many are reached. No program. Plain: the fewest edges of a ring, by both ways of finding it. No program. Faces: each dart is in one; what is told of them. No program. Maps: what is behind each dart; the walk round a face. Maps: the walk round a face. Maps, the document's: Turn, twin, Face. Maps, the document's: Face. Maps: Faces. Maps, the document's: Faces. -/
import Derived.Test.YtlnefdmdabhobaaGreatJe
import Derived.Test.YtlnefdmdabhobaaGreatAwZ
import Derived.Test.YtlnefdmdabhobaaGreatAwRg
import Derived.Test.YtlnefdmdabhobaaGreatAwMr4
import Derived.Test.YtlnefdmdabhobaaGreatAwSet
import Derived.Test.YtlnefdmdabhobaaGreatAwMr5
namespace Go.Proofs.YtlnefdmdabhobaaGreat.Aw
open Go Go.RowKit Go.Proofs.YtlnefdmdabhobaaGreat.Pl
set_option linter.unusedSimpArgs false
set_option linter.unusedVariables false

def scanD1 (d : Int) (D : Led) (w : Int) : Led := if w ∈ D.map (·.1) then D else D ++ [(w, d + 1)]
def scanD (d : Int) (D : Led) (row : List Int) : Led := row.foldl (scanD1 d) D
/-- All that is found from the k-th on, with how far it is. -/
def depF (near : Int → List Int) : Nat → Nat → Led → Option Led
  | 0, _, _ => none
  | n + 1, k, D => if k < D.length then depF near n (k + 1) (scanD (D.getD k (0, 0)).2 D (near (D.getD k (0, 0)).1)) else some D

structure DepOk (vs : List Int) (D : Led) : Prop where
  nd : (D.map (·.1)).Nodup
  sub : ∀ x ∈ D.map (·.1), x ∈ vs
  dep : ∀ j, j < D.length → 0 ≤ (D.getD j (0, 0)).2 ∧ (D.getD j (0, 0)).2 ≤ j
theorem DepOk.len {vs : List Int} {D : Led} (h : DepOk vs D) : D.length ≤ vs.length := by
  have := List.Nodup.length_le_of_subset h.nd h.sub
  simpa using this
theorem DepOk.scan1 {vs : List Int} {D : Led} (h : DepOk vs D) {k : Nat} (hk : k < D.length) {w : Int} (hw : w ∈ vs) : DepOk vs (scanD1 (D.getD k (0, 0)).2 D w) := by
  unfold scanD1
  split
  · exact h
  · rename_i hn
    refine ⟨?_, fun x hx => ?_, fun j hj => ?_⟩
    · rw [List.map_append, List.nodup_append]
      refine ⟨h.nd, by simp, fun a ha b hb => ?_⟩
      simp at hb
      rintro rfl
      rw [hb] at ha
      exact hn ha
    · rw [List.map_append] at hx
      rcases List.mem_append.1 hx with hx | hx
      · exact h.sub x hx
      · simp at hx; rw [hx]; exact hw
    · by_cases hjl : j < D.length
      · rw [getD_append_lt _ _ _ hjl]; exact h.dep j hjl
      · have hje : j = D.length := by simp at hj; omega
        subst hje
        have := h.dep k hk
        generalize (D.getD k (0, 0)).2 = d at *
        rw [List.getD_eq_getElem?_getD, List.getElem?_append_right (Nat.le_refl _)]
        simp
        omega
theorem DepOk.scan {vs : List Int} (d : Int) : ∀ (row : List Int) {D : Led}, DepOk vs D → (∃ k, k < D.length ∧ (D.getD k (0, 0)).2 = d) → (∀ w ∈ row, w ∈ vs) → DepOk vs (scanD d D row)
  | [], _, h, _, _ => h
  | w :: row, D, h, ⟨k, hk, hd⟩, hr => by
    have h1 := h.scan1 hk (hr w List.mem_cons_self)
    rw [hd] at h1
    refine DepOk.scan d row h1 ⟨k, ?_, ?_⟩ fun x hx => hr x (List.mem_cons_of_mem _ hx)
    · unfold scanD1; split
      · exact hk
      · simp; omega
    · unfold scanD1; split
      · exact hd
      · rw [getD_append_lt _ _ _ hk]; exact hd

def kD (D : Led) : List Int := D.map (·.1)
def DeI (g : Gr) (st : St) (M : Nat) (D : Led) (tl : Nat) (s : St) : Prop :=
  s.H st.next = .box 25 2 (grL g) ∧ s.H M = .map false [.u32] (clL D) ∧ (tl ≠ 0 ∧ st.next ≤ tl ∧ tl < s.next ∧ s.H tl = .own 48 1 D.length) ∧ M < s.next ∧ Keeps st s

end Go.Proofs.YtlnefdmdabhobaaGreat.Aw

namespace Go.Proofs.YtlnefdmdabhobaaGreat.Aw
open Go Go.RowKit Go.Proofs.YtlnefdmdabhobaaGreat.Pl
set_option linter.unusedSimpArgs false
set_option linter.unusedVariables false

theorem chain_fuel {from' : Int} {F : Fnd} (h : FG from' F) : ∀ (k m : Nat), k < F.length → k ≤ m → chainF F m k = chainF F k k := by
  intro k
  induction k using Nat.strongRecOn with
  | ind k ih =>
    intro m hk hm
    cases m with
    | zero => have : k = 0 := by omega
              subst this; rfl
    | succ m =>
      cases k with
      | zero => simp [chainF]
      | succ k =>
        have hp := (h.par (k + 1) hk).2 (by omega)
        simp only [chainF, if_neg (Nat.succ_ne_zero k)]
        rw [ih _ hp m (by omega) (by omega), ih _ hp k (by omega) (by omega)]
def dLen (F : Fnd) (k : Nat) : Nat := (chainF F k k).length
def dLed (F : Fnd) : Led := (List.range F.length).map fun k => (fAt F k, (dLen F k : Int))
end Go.Proofs.YtlnefdmdabhobaaGreat.Aw

namespace Go.Proofs.YtlnefdmdabhobaaGreat.Aw
open Go Go.RowKit Go.Proofs.YtlnefdmdabhobaaGreat.Pl
set_option linter.unusedSimpArgs false
set_option linter.unusedVariables false

/-- A way of so many steps. -/
inductive Wk (near : Int → List Int) (v : Int) : Nat → Int → Prop
  | nil : Wk near v 0 v
  | snoc {n : Nat} {x w : Int} (h : Wk near v n x) (hw : w ∈ near x) : Wk near v (n + 1) w
/-- So far it is. -/
def Dst (near : Int → List Int) (v w : Int) (n : Nat) : Prop := Wk near v n w ∧ ∀ m, Wk near v m w → n ≤ m
theorem Dst.unique {near : Int → List Int} {v w : Int} {n m : Nat} (h : Dst near v w n) (k : Dst near v w m) : n = m := Nat.le_antisymm (h.2 _ k.1) (k.2 _ h.1)

theorem dLen_pre {from' : Int} {F D : Fnd} (h : FG from' F) {j : Nat} (hj : j < F.length) : dLen (F ++ D) j = dLen F j := by unfold dLen; rw [chain_pre h j j hj]
theorem dLen_par {from' : Int} {F : Fnd} (h : FG from' F) {j : Nat} (hj : j < F.length) (h0 : 0 < j) : dLen F j = dLen F (pAt F j) + 1 := by
  obtain ⟨m, rfl⟩ : ∃ m, j = m + 1 := ⟨j - 1, by omega⟩
  have hp := (h.par _ hj).2 h0
  unfold dLen
  simp only [chainF, if_neg (Nat.succ_ne_zero m), List.length_cons]
  rw [chain_fuel h _ m (by omega) (by omega)]
theorem dLen_last {from' : Int} {F : Fnd} (h : FG from' F) {w : Int} {k : Nat} (hw : w ∉ F.map (·.1)) (hk : k < F.length) : dLen (F ++ [(w, k)]) F.length = dLen F k + 1 := by
  have h2 := h.snoc hw hk
  rw [dLen_par h2 (by simp) h.pos, (at_last F (w, k)).2, dLen_pre h hk]
/-- What is found, while the k-th is looked at. -/
structure BfI (near : Int → List Int) (from' : Int) (k : Nat) (F : Fnd) : Prop where
  g : FG from' F
  mono : ∀ i j, i ≤ j → j < F.length → dLen F i ≤ dLen F j
  top : ∀ j, j < F.length → dLen F j ≤ dLen F k + 1
  way : ∀ j, j < F.length → Wk near from' (dLen F j) (fAt F j)
  adj : ∀ j, 0 < j → j < F.length → fAt F j ∈ near (fAt F (pAt F j))
structure Bf (near : Int → List Int) (from' : Int) (k : Nat) (F : Fnd) : Prop where
  g : FG from' F
  mono : ∀ i j, i ≤ j → j < F.length → dLen F i ≤ dLen F j
  top : k < F.length → ∀ j, j < F.length → dLen F j ≤ dLen F k + 1
  way : ∀ j, j < F.length → Wk near from' (dLen F j) (fAt F j)
  adj : ∀ j, 0 < j → j < F.length → fAt F j ∈ near (fAt F (pAt F j))
  done : ∀ j, j < k → j < F.length → ∀ w ∈ near (fAt F j), ∃ p, p < F.length ∧ fAt F p = w ∧ dLen F p ≤ dLen F j + 1

theorem BfI.snoc {near : Int → List Int} {from' : Int} {k : Nat} {F : Fnd} (h : BfI near from' k F) (hk : k < F.length) {w : Int} (hw : w ∉ F.map (·.1)) (hn : w ∈ near (fAt F k)) : BfI near from' k (F ++ [(w, k)]) := by
  have hl := dLen_last h.g hw hk
  have hp : ∀ j, j < F.length → dLen (F ++ [(w, k)]) j = dLen F j := fun j hj => dLen_pre h.g hj
  have hcase : ∀ j, j < (F ++ [(w, k)]).length → j < F.length ∨ j = F.length := fun j hj => by simp at hj; omega
  refine ⟨h.g.snoc hw hk, fun i j hij hj => ?_, fun j hj => ?_, fun j hj => ?_, fun j h0 hj => ?_⟩
  · rcases hcase j hj with hj | rfl
    · rw [hp j hj, hp i (by omega)]; exact h.mono i j hij hj
    · rw [hl]
      rcases Nat.lt_or_ge i F.length with hi | hi
      · rw [hp i hi]; exact h.top i hi
      · obtain rfl : i = F.length := by omega
        rw [hl]; exact Nat.le_refl _
  · rw [hp k hk]
    rcases hcase j hj with hj | rfl
    · rw [hp j hj]; exact h.top j hj
    · rw [hl]; exact Nat.le_refl _
  · rcases hcase j hj with hj | rfl
    · rw [hp j hj, fAt_append hj]; exact h.way j hj
    · rw [hl, (at_last F (w, k)).1]; exact .snoc (h.way k hk) hn
  · rcases hcase j hj with hj | rfl
    · have := (h.g.par j hj).1
      rw [fAt_append hj, pAt_append hj, fAt_append this]; exact h.adj j h0 hj
    · rw [(at_last F (w, k)).1, (at_last F (w, k)).2, fAt_append hk]; exact hn
theorem BfI.scan {near : Int → List Int} {from' : Int} {k : Nat} : ∀ (row : List Int) (F : Fnd), BfI near from' k F → k < F.length → (∀ w ∈ row, w ∈ near (fAt F k)) →
    ∃ D, scanR k F row = F ++ D ∧ BfI near from' k (F ++ D) ∧ ∀ w ∈ row, ∃ p, p < (F ++ D).length ∧ fAt (F ++ D) p = w ∧ dLen (F ++ D) p ≤ dLen (F ++ D) k + 1
  | [], F, h, _, _ => ⟨[], by simp [scanR], by simpa using h, fun w hw => by simp at hw⟩
  | w :: row, F, h, hk, hr => by
    by_cases hw : w ∈ F.map (·.1)
    · have e1 : scanR k F (w :: row) = scanR k F row := by simp only [scanR, List.foldl_cons]; congr 1; unfold scanR1; rw [if_pos hw]
      obtain ⟨D, d1, d2, d3⟩ := BfI.scan row F h hk fun x hx => hr x (List.mem_cons_of_mem _ hx)
      refine ⟨D, e1.trans d1, d2, fun x hx => ?_⟩
      rcases List.mem_cons.1 hx with rfl | hx
      · obtain ⟨y, hy, e⟩ := List.mem_map.1 hw
        obtain ⟨p, hp, e2, _⟩ := mem_at hy
        refine ⟨p, by simp; omega, ?_, d2.top p (by simp; omega)⟩
        rw [fAt_append hp, e2, e]
      · exact d3 x hx
    · have e1 : scanR k F (w :: row) = scanR k (F ++ [(w, k)]) row := by simp only [scanR, List.foldl_cons]; congr 1; unfold scanR1; rw [if_neg hw]
      obtain ⟨D, d1, d2, d3⟩ := BfI.scan row (F ++ [(w, k)]) (h.snoc hk hw (hr w (by simp))) (by simp; omega) fun x hx => by rw [fAt_append hk]; exact hr x (List.mem_cons_of_mem _ hx)
      have e2 : F ++ [(w, k)] ++ D = F ++ ((w, k) :: D) := by simp
      rw [e2] at d1 d2 d3
      refine ⟨(w, k) :: D, e1.trans d1, d2, fun x hx => ?_⟩
      rcases List.mem_cons.1 hx with rfl | hx
      · have hlt : F.length < (F ++ ((x, k) :: D)).length := by simp
        refine ⟨F.length, hlt, ?_, d2.top _ hlt⟩
        rw [← e2, fAt_append (by simp)]; exact (at_last F (x, k)).1
      · exact d3 x hx
theorem Bf.next {near : Int → List Int} {from' : Int} {k : Nat} {F : Fnd} (h : Bf near from' k F) (hk : k < F.length) : ∃ D, scanR k F (near (fAt F k)) = F ++ D ∧ Bf near from' (k + 1) (F ++ D) := by
  obtain ⟨D, d1, d2, d3⟩ := BfI.scan (near := near) (near (fAt F k)) F ⟨h.g, h.mono, h.top hk, h.way, h.adj⟩ hk fun w hw => hw
  refine ⟨D, d1, d2.g, d2.mono, fun hk1 j hj => ?_, d2.way, d2.adj, fun j hjk hj w hw => ?_⟩
  · have h1 := d2.top j hj
    have h2 := d2.mono k (k + 1) (by omega) hk1
    omega
  · by_cases e : j = k
    · subst e
      rw [fAt_append hk] at hw
      exact d3 w hw
    · have hjF : j < F.length := by omega
      rw [fAt_append hjF] at hw
      obtain ⟨p, p1, p2, p3⟩ := h.done j (by omega) hjF w hw
      exact ⟨p, by simp; omega, by rw [fAt_append p1]; exact p2, by rw [dLen_pre h.g p1, dLen_pre h.g hjF]; exact p3⟩
theorem bf_start (near : Int → List Int) (from' : Int) : Bf near from' 0 [(from', 0)] := by
  refine ⟨⟨by simp, rfl, fun k hk => by simp at hk; subst hk; simp [pAt], by simp⟩, fun i j hij hj => ?_, fun _ j hj => ?_, fun j hj => ?_, fun j h0 hj => ?_, fun j hj => by omega⟩
  · simp at hj; subst hj; obtain rfl : i = 0 := by omega
    exact Nat.le_refl _
  · simp at hj; subst hj; omega
  · simp at hj; subst hj; exact .nil
  · simp at hj; omega
theorem fAt_inj {from' : Int} {F : Fnd} (h : FG from' F) {i j : Nat} (hi : i < F.length) (hj : j < F.length) (e : fAt F i = fAt F j) : i = j := by
  have hn := h.nd
  have h1 : (F.map (·.1))[i]'(by simpa using hi) = (F.map (·.1))[j]'(by simpa using hj) := by
    unfold fAt at e
    rw [List.getD_eq_getElem?_getD, List.getD_eq_getElem?_getD, List.getElem?_eq_getElem hi, List.getElem?_eq_getElem hj] at e
    simpa using e
  have hi' : i < (F.map (·.1)).length := by simpa using hi
  have hj' : j < (F.map (·.1)).length := by simpa using hj
  rcases Nat.lt_trichotomy i j with h | h | h
  · exact absurd h1 (List.pairwise_iff_getElem.1 hn i j hi' hj' h)
  · exact h
  · exact absurd h1.symm (List.pairwise_iff_getElem.1 hn j i hj' hi' h)
/-- What the search finds. -/
theorem run_dst {near : Int → List Int} {from' to : Int} : ∀ (n k : Nat) (F : Fnd) (R : Option (Fnd × Nat)), Bf near from' k F → refRun near (fun _ => true) to n k F = some R → (∀ j, j < k → j < F.length → fAt F j ≠ to) →
    (R = none → ∀ m, ¬ Wk near from' m to) ∧ ∀ G p, R = some (G, p) → Dst near from' to (dLen G p) ∧ fAt G p = to ∧ p < G.length ∧ ∃ q, Bf near from' q G := by
  have key : ∀ (k : Nat) (F : Fnd), Bf near from' k F → F.length ≤ k → (∀ j, j < k → j < F.length → fAt F j ≠ to) → ∀ m, ¬ Wk near from' m to := by
    intro k F h hk hno m hm
    have : ∀ m w, Wk near from' m w → ∃ j, j < F.length ∧ fAt F j = w := by
      intro m w hw
      induction hw with
      | nil => exact ⟨0, h.g.pos, (fAt_zero h.g).1⟩
      | snoc _ hw ih =>
        obtain ⟨j, hj, rfl⟩ := ih
        obtain ⟨p, p1, p2, _⟩ := h.done j (by omega) hj _ hw
        exact ⟨p, p1, p2⟩
    obtain ⟨j, hj, e⟩ := this m to hm
    exact hno j (by omega) hj e
  intro n
  induction n with
  | zero =>
    intro k F R h hr hno
    simp only [refRun] at hr
    split at hr
    · cases hr
    · rename_i hk
      injection hr with hr
      subst hr
      exact ⟨fun _ => key k F h (by omega) hno, fun G p e => by cases e⟩
  | succ n ih =>
    intro k F R h hr hno
    simp only [refRun] at hr
    split at hr
    · rename_i hk
      split at hr
      · rename_i hf
        injection hr with hr
        subst hr
        refine ⟨fun e => (by cases e), fun G p e => ?_⟩
        rw [Option.some.injEq, Prod.mk.injEq] at e
        obtain ⟨e1, e2⟩ := e
        subst e1; subst e2
        refine ⟨⟨hf ▸ h.way k hk, fun m hm => ?_⟩, hf, hk, k, h⟩
        have low : ∀ m w, Wk near from' m w → (∃ j, j < F.length ∧ fAt F j = w ∧ dLen F j ≤ m) ∨ dLen F k ≤ m := by
          intro m w hw
          induction hw with
          | nil => exact .inl ⟨0, h.g.pos, (fAt_zero h.g).1, Nat.zero_le _⟩
          | @snoc m x w _ hw ih =>
            rcases ih with ⟨j, j1, rfl, j3⟩ | ih
            · by_cases hd : dLen F k ≤ m
              · exact .inr (by omega)
              · have hjk : j < k := by
                  rcases Nat.lt_or_ge j k with h1 | h1
                  · exact h1
                  · have := h.mono k j h1 j1; omega
                obtain ⟨p, p1, p2, p3⟩ := h.done j hjk j1 _ hw
                exact .inl ⟨p, p1, p2, by omega⟩
            · exact .inr (by omega)
        rcases low m to hm with ⟨j, j1, j2, j3⟩ | h1
        · have := fAt_inj h.g j1 hk (j2.trans hf.symm)
          rw [← this]; exact j3
        · exact h1
      · rename_i hf
        rw [if_pos (.inr trivial)] at hr
        obtain ⟨D, d1, d2⟩ := h.next hk
        rw [d1] at hr
        refine ih (k + 1) (F ++ D) R d2 hr fun j hj hjl => ?_
        by_cases hjF : j < F.length
        · rw [fAt_append hjF]
          by_cases hjk : j = k
          · rw [hjk]; exact hf
          · exact hno j (by omega) hjF
        · omega
    · rename_i hk
      injection hr with hr
      subst hr
      exact ⟨fun _ => key k F h (by omega) hno, fun G p e => by cases e⟩

/-- Each is near the one ahead of it. -/
def Adj (near : Int → List Int) (l : List Int) : Prop := ∀ j, j + 1 < l.length → l.getD (j + 1) 0 ∈ near (l.getD j 0)
theorem Adj.snoc {near : Int → List Int} {l : List Int} {x w : Int} (h : Adj near (l ++ [x])) (hw : w ∈ near x) : Adj near (l ++ [x] ++ [w]) := by
  intro j hj
  simp at hj
  by_cases e : j = l.length
  · subst e
    have e1 : (l ++ [x] ++ [w]).getD (l.length + 1) 0 = w := by
      rw [List.getD_eq_getElem?_getD, List.getElem?_append_right (by simp)]; simp
    have e2 : (l ++ [x] ++ [w]).getD l.length 0 = x := by
      rw [getD_append_lt _ _ _ (by simp), List.getD_eq_getElem?_getD, List.getElem?_append_right (Nat.le_refl _)]; simp
    rw [e1, e2]; exact hw
  · rw [getD_append_lt (l ++ [x]) [w] 0 (k := j + 1) (by simp; omega), getD_append_lt (l ++ [x]) [w] 0 (k := j) (by simp; omega)]
    exact h j (by simp; omega)
theorem way_adj {near : Int → List Int} {from' : Int} {q : Nat} {F : Fnd} (h : Bf near from' q F) : ∀ k, k < F.length → ∃ l, from' :: (chainF F k k).reverse = l ++ [fAt F k] ∧ Adj near (l ++ [fAt F k]) := by
  intro k
  induction k using Nat.strongRecOn with
  | ind k ih =>
    intro hk
    cases k with
    | zero =>
      refine ⟨[], ?_, fun j hj => by simp at hj⟩
      simp [chainF, (fAt_zero h.g).1]
    | succ k =>
      have hp := (h.g.par _ hk).2 (by omega)
      obtain ⟨l, h1, h2⟩ := ih _ hp (by omega)
      have e : from' :: (chainF F (k + 1) (k + 1)).reverse = (from' :: (chainF F (pAt F (k + 1)) (pAt F (k + 1))).reverse) ++ [fAt F (k + 1)] := by
        simp only [chainF, if_neg (Nat.succ_ne_zero k), List.reverse_cons]
        rw [chain_fuel h.g _ k (by omega) (by omega)]; rfl
      rw [h1] at e
      exact ⟨_, e, h2.snoc (h.adj _ (by omega) hk)⟩

/-- The way: none, or a shortest one. -/
theorem path_dst {vs : List Int} {near : Int → List Int} {from' to : Int} {n : Nat} {l : List Int} (h : refPath vs near (fun _ => true) from' to n = some l) (h1 : from' ∈ vs) (h2 : to ∈ vs) :
    (l = [] ∧ ∀ m, ¬ Wk near from' m to) ∨ (∃ d, l.length = d + 1 ∧ Dst near from' to d ∧ l.getD 0 0 = from' ∧ l.getD d 0 = to ∧ Adj near l) := by
  unfold refPath at h
  rw [if_neg (by simp [h1, h2])] at h
  cases hb : refRun near (fun _ => true) to n 0 [(from', 0)] with
  | none => rw [hb] at h; cases h
  | some R =>
    rw [hb] at h
    obtain ⟨a1, a2⟩ := run_dst _ _ _ R (bf_start near from') hb fun j hj => by omega
    rcases R with _ | ⟨F, k⟩
    · injection h with h
      exact .inl ⟨h.symm, a1 rfl⟩
    · injection h with h
      subst h
      obtain ⟨b1, b2, b3, q, b4⟩ := a2 F k rfl
      obtain ⟨l, c1, c2⟩ := way_adj b4 k b3
      refine .inr ⟨dLen F k, by simp [dLen], b1, by simp, ?_, by rw [c1]; exact c2⟩
      have hl : l.length = dLen F k := by
        have := congrArg List.length c1
        simp at this
        unfold dLen; omega
      rw [c1, ← hl, List.getD_eq_getElem?_getD, List.getElem?_append_right (Nat.le_refl _)]
      simp [b2]

end Go.Proofs.YtlnefdmdabhobaaGreat.Aw

namespace Go.Proofs.YtlnefdmdabhobaaGreat.Aw
open Go Go.RowKit Go.Proofs.YtlnefdmdabhobaaGreat.Pl
set_option linter.unusedSimpArgs false
set_option linter.unusedVariables false

inductive IsFo : List Ed → List Ed → List Ed → Prop
  | nil : IsFo [] [] []
  | rest {l I R : List Ed} {x : Ed} (h : IsFo l I R) (k : Reach I x.a x.b) : IsFo (l ++ [x]) I (R ++ [x])
  | join {l I R : List Ed} {x : Ed} (h : IsFo l I R) (k : ¬ Reach I x.a x.b) : IsFo (l ++ [x]) (I ++ [x]) R
theorem IsFo.unique {l I R : List Ed} (h : IsFo l I R) : ∀ {I' R' : List Ed}, IsFo l I' R' → I = I' ∧ R = R' := by
  have key : ∀ {m I' R' : List Ed} {l : List Ed} {x : Ed}, IsFo m I' R' → m = l ++ [x] → ∃ I0 R0, IsFo l I0 R0 ∧ ((Reach I0 x.a x.b ∧ I' = I0 ∧ R' = R0 ++ [x]) ∨ (¬ Reach I0 x.a x.b ∧ I' = I0 ++ [x] ∧ R' = R0)) := by
    intro m I' R' l x hm e
    cases hm with
    | nil => simp at e
    | rest h k =>
      obtain ⟨rfl, e2⟩ := List.append_inj' e rfl
      simp at e2; subst e2
      exact ⟨_, _, h, .inl ⟨k, rfl, rfl⟩⟩
    | join h k =>
      obtain ⟨rfl, e2⟩ := List.append_inj' e rfl
      simp at e2; subst e2
      exact ⟨_, _, h, .inr ⟨k, rfl, rfl⟩⟩
  induction h with
  | nil =>
    intro I' R' k
    generalize he : ([] : List Ed) = m at k
    cases k with
    | nil => exact ⟨rfl, rfl⟩
    | rest => simp at he
    | join => simp at he
  | rest h k ih =>
    intro I' R' k'
    obtain ⟨I0, R0, h0, h1 | h1⟩ := key k' rfl
    · obtain ⟨rfl, rfl⟩ := ih h0
      exact ⟨h1.2.1.symm, h1.2.2.symm⟩
    · obtain ⟨rfl, rfl⟩ := ih h0
      exact absurd k h1.1
  | join h k ih =>
    intro I' R' k'
    obtain ⟨I0, R0, h0, h1 | h1⟩ := key k' rfl
    · obtain ⟨rfl, rfl⟩ := ih h0
      exact absurd h1.1 k
    · obtain ⟨rfl, rfl⟩ := ih h0
      exact ⟨h1.2.1.symm, h1.2.2.symm⟩
theorem IsFo.sub {l I R : List Ed} (h : IsFo l I R) : I.Sublist l ∧ R.Sublist l ∧ ∀ x, x ∈ l ↔ x ∈ I ∨ x ∈ R := by
  induction h with
  | nil => simp
  | rest h k ih =>
    obtain ⟨a, b, c⟩ := ih
    refine ⟨a.trans (List.sublist_append_left _ _), b.append (.refl _), fun y => ?_⟩
    simp only [List.mem_append, c, List.mem_singleton, or_assoc]
  | join h k ih =>
    obtain ⟨a, b, c⟩ := ih
    refine ⟨a.append (.refl _), b.trans (List.sublist_append_left _ _), fun y => ?_⟩
    simp only [List.mem_append, c, List.mem_singleton]
    constructor
    · rintro ((h | h) | h) <;> simp [h]
    · rintro ((h | h) | h) <;> simp [h]

theorem Reach.monoF {es es' : List Ed} {v w : Int} (h : Reach es v w) (hs : ∀ x ∈ es, x ∈ es') : Reach es' v w := by
  induction h with
  | refl => exact .refl
  | step _ hw ih =>
    refine .step ih ?_
    rw [mem_nbr] at hw ⊢
    obtain ⟨x, hx, h⟩ := hw
    exact ⟨x, hs x hx, h⟩
theorem Reach.edge {es : List Ed} {x : Ed} (h : x ∈ es) : Reach es x.a x.b := .step .refl (mem_nbr.2 ⟨x, h, .inl ⟨rfl, rfl⟩⟩)

/-- A forest of parents, its roots, and how far each is at most from its own. -/
structure UF (vs : List Int) (I : List Ed) (U R : Int → Int) (d : Int → Nat) : Prop where
  inU : ∀ v ∈ vs, U v ∈ vs
  inR : ∀ v ∈ vs, R v ∈ vs
  fix : ∀ v ∈ vs, U (R v) = R v
  top : ∀ v ∈ vs, U v = v → R v = v
  up : ∀ v ∈ vs, U v ≠ v → R (U v) = R v ∧ d (U v) < d v
  rel : ∀ v ∈ vs, ∀ w ∈ vs, R v = R w ↔ Reach I v w
theorem UF.start (vs : List Int) : UF vs [] id id fun _ => 0 := by
  refine ⟨fun _ h => h, fun _ h => h, fun _ _ => rfl, fun _ _ _ => rfl, fun _ _ h => absurd rfl h, fun v hv w hw => ?_⟩
  constructor
  · rintro h; simp only [id] at h; subst h; exact .refl
  · intro h
    refine h.closed (L := fun w => id v = id w) rfl fun u _ w hw => ?_
    rw [mem_nbr] at hw
    obtain ⟨x, hx, _⟩ := hw
    simp at hx
theorem UF.join {vs : List Int} {I : List Ed} {U R : Int → Int} {d : Int → Nat} (h : UF vs I U R d) {x : Ed} (ha : x.a ∈ vs) (hb : x.b ∈ vs) (hI : ∀ y ∈ I, y.a ∈ vs ∧ y.b ∈ vs) (hne : R x.a ≠ R x.b) :
    UF vs (I ++ [x]) (fun v => if v = R x.a then R x.b else U v) (fun v => if R v = R x.a then R x.b else R v) (fun v => if R v = R x.a then d v + d (R x.b) + 1 else d v) := by
  have rr : ∀ v ∈ vs, R (R v) = R v := fun v hv => h.top _ (h.inR v hv) (h.fix v hv)
  refine ⟨fun v hv => ?_, fun v hv => ?_, fun v hv => ?_, fun v hv => ?_, fun v hv => ?_, fun v hv w hw => ?_⟩
  · split
    · exact h.inR _ hb
    · exact h.inU v hv
  · split
    · exact h.inR _ hb
    · exact h.inR v hv
  · skip
    by_cases e : R v = R x.a
    · rw [if_pos e, if_neg (fun e2 => hne e2.symm)]; exact h.fix _ hb
    · rw [if_neg e, if_neg e]; exact h.fix v hv
  · skip
    intro e
    by_cases e1 : v = R x.a
    · rw [if_pos e1] at e
      exact absurd (e1 ▸ e) (fun e2 => hne (by rw [← e1, ← e]))
    · rw [if_neg e1] at e
      have e2 := h.top v hv e
      rw [if_neg (by rw [e2]; exact e1)]
      exact e2
  · skip
    by_cases e1 : v = R x.a
    · subst e1
      intro _
      rw [if_pos rfl, rr _ hb, if_neg (fun e2 => hne e2.symm), rr _ ha, if_pos rfl, if_neg (fun e2 => hne e2.symm), if_pos rfl]
      exact ⟨rfl, by omega⟩
    · rw [if_neg e1]
      intro e
      obtain ⟨g1, g2⟩ := h.up v hv e
      rw [g1]
      refine ⟨rfl, ?_⟩
      split <;> omega
  · skip
    have hx : Reach (I ++ [x]) x.a x.b := .edge (by simp)
    have mono : ∀ {v w}, Reach I v w → Reach (I ++ [x]) v w := fun h => h.monoF fun y hy => List.mem_append_left _ hy
    constructor
    · intro e
      by_cases e1 : R v = R x.a <;> by_cases e2 : R w = R x.a
      · exact mono ((h.rel v hv w hw).1 (e1.trans e2.symm))
      · rw [if_pos e1, if_neg e2] at e
        exact (mono ((h.rel v hv _ ha).1 e1)).trans (hx.trans (mono ((h.rel _ hb w hw).1 e)))
      · rw [if_neg e1, if_pos e2] at e
        exact (mono ((h.rel v hv _ hb).1 e)).trans (hx.symm.trans (mono ((h.rel _ ha w hw).1 e2.symm)))
      · rw [if_neg e1, if_neg e2] at e
        exact mono ((h.rel v hv w hw).1 e)
    · intro hr
      have := hr.closed (L := fun w => w ∈ vs ∧ (if R v = R x.a then R x.b else R v) = if R w = R x.a then R x.b else R w) ⟨hv, rfl⟩ (fun u hu w hw => ?_)
      · exact this.2
      · rw [mem_nbr] at hw
        obtain ⟨y, hy, h1⟩ := hw
        have edge : ∀ p q, (p = y.a ∧ q = y.b ∨ p = y.b ∧ q = y.a) → q ∈ vs ∧ (if R p = R x.a then R x.b else R p) = if R q = R x.a then R x.b else R q := by
          intro p q hpq
          rcases List.mem_append.1 hy with hy | hy
          · have hyv := hI y hy
            have hyr := (h.rel _ hyv.1 _ hyv.2).2 (.edge hy)
            rcases hpq with ⟨rfl, rfl⟩ | ⟨rfl, rfl⟩
            · exact ⟨hyv.2, by rw [hyr]⟩
            · exact ⟨hyv.1, by rw [hyr]⟩
          · rw [List.mem_singleton] at hy
            subst hy
            rcases hpq with ⟨rfl, rfl⟩ | ⟨rfl, rfl⟩
            · refine ⟨hb, ?_⟩
              rw [if_pos rfl, if_neg (fun e => hne e.symm)]
            · refine ⟨ha, ?_⟩
              rw [if_pos rfl, if_neg (fun e => hne e.symm)]
        rcases h1 with ⟨h1, h2⟩ | ⟨h1, h2⟩
        · obtain ⟨g1, g2⟩ := edge u w (.inl ⟨h1.symm, h2.symm⟩)
          exact ⟨g1, hu.2.trans g2⟩
        · obtain ⟨g1, g2⟩ := edge u w (.inr ⟨h1.symm, h2.symm⟩)
          exact ⟨g1, hu.2.trans g2⟩

end Go.Proofs.YtlnefdmdabhobaaGreat.Aw

namespace Go.Proofs.YtlnefdmdabhobaaGreat.Aw
open Go Go.RowKit Go.Proofs.YtlnefdmdabhobaaGreat.Pl
set_option linter.unusedSimpArgs false
set_option linter.unusedVariables false

def adjB (v w : Int) (x : Ed) : Bool := (x.a == v && x.b == w) || (x.a == w && x.b == v)
def OwnT (t : Nat) (lo : St) (l : List Int) (st : St) : Prop := t ≠ 0 ∧ lo.next ≤ t ∧ t < st.next ∧ st.H t = .own 48 1 l.length

end Go.Proofs.YtlnefdmdabhobaaGreat.Aw

namespace Go.Proofs.YtlnefdmdabhobaaGreat.Aw
open Go Go.RowKit Go.Proofs.YtlnefdmdabhobaaGreat.Pl
set_option linter.unusedSimpArgs false
set_option linter.unusedVariables false

def ns (l : List Nat) : List LV := l.map fun n : Nat => i (n : Int)
theorem ns_len (l : List Nat) : (ns l).length = l.length := by simp [ns]
def fV (F : Fnd) : List Int := F.map (·.1)
def fB (F : Fnd) : List Nat := F.map (·.2)
@[simp] theorem fV_len (F : Fnd) : (fV F).length = F.length := by simp [fV]
@[simp] theorem fB_len (F : Fnd) : (fB F).length = F.length := by simp [fB]
@[simp] theorem ns_len2 (l : List Nat) : (ns l).length = l.length := ns_len l
/-- Rows of the call's own. -/
def OwnN (t e n : Nat) (lo : St) (st : St) : Prop := t ≠ 0 ∧ lo.next ≤ t ∧ t < st.next ∧ st.H t = .own e 1 n

def nearR (g : Gr) (v : Int) : List Int := g.vs.filter fun w => decide (adj g.es v w)
/-- What stays all along. -/
def PF (g : Gr) (from' to : Int) (tt : Nat) (th : List Int) (al : Bool) (st : St) (fr : Frm) (s : St) : Prop :=
  fr 1 = u from' ∧ fr 2 = u to ∧ fr 3 = .sl tt th.length (us th) ∧ fr 4 = bb al ∧ fr 5 = .pt st.next 0 ∧ s.H st.next = .box 25 2 (grL g) ∧ st.next < s.next ∧ Keeps st s
def FB (F : Fnd) (st : St) (fr : Frm) (s : St) : Prop := ∃ tf tb, fr 11 = .sl tf F.length (us (fV F)) ∧ fr 12 = .sl tb F.length (ns (fB F)) ∧ OwnN tf 48 F.length st s ∧ OwnN tb 3 F.length st s
def PI (g : Gr) (from' to : Int) (tt : Nat) (th : List Int) (al : Bool) (st s : St) (k : Nat) (v : Int) (F : Fnd) (m : Bool) (f : Frm) (s' : St) : Prop :=
  s' = s ∧ f 13 = i k ∧ f 14 = u v ∧ f 18 = bb m ∧ PF g from' to tt th al st f s' ∧ FB F st f s'
theorem OwnN.keeps {t e n : Nat} {lo s s' : St} (h : OwnN t e n lo s) (k : Keeps s s') : OwnN t e n lo s' := by
  obtain ⟨h1, h2, h3, h4⟩ := h
  exact ⟨h1, h2, Nat.lt_of_lt_of_le h3 k.next, by rw [k.H t h3]; exact h4⟩

end Go.Proofs.YtlnefdmdabhobaaGreat.Aw

namespace Go.Proofs.YtlnefdmdabhobaaGreat.Aw
open Go Go.RowKit Go.Proofs.YtlnefdmdabhobaaGreat.Pl
set_option linter.unusedSimpArgs false
set_option linter.unusedVariables false

structure GrF (g : Gr) : Prop where
  rise : g.vs.Pairwise (· < ·)
  vpos : ∀ v ∈ g.vs, 1 ≤ v ∧ v ≤ 1048576
  ids : g.es.Pairwise fun x y => x.id < y.id
  pos : ∀ x ∈ g.es, 1 ≤ x.id ∧ x.id ≤ 1048576
  ne : ∀ x ∈ g.es, x.a ≠ x.b
  ends : ∀ x ∈ g.es, x.a ∈ g.vs ∧ x.b ∈ g.vs
  l1 : g.vs.length ≤ 64
  l2 : g.es.length ≤ 160

end Go.Proofs.YtlnefdmdabhobaaGreat.Aw

namespace Go.Proofs.YtlnefdmdabhobaaGreat.Aw
open Go Go.RowKit Go.Proofs.YtlnefdmdabhobaaGreat.Pl
set_option linter.unusedSimpArgs false
set_option linter.unusedVariables false

def lightB (g : Gr) : Bool := decide (chk g = 0 ∧ g.vs.length ≤ 16 ∧ g.es.length ≤ 24)
theorem pathF_len2 {vs : List Int} {near : Int → List Int} {may : Int → Bool} {a b : Int} {n : Nat} {l : List Int} (h : pathF vs near may a b n = some l) : l.length ≤ n + 1 := by
  unfold pathF at h
  split at h
  · injection h with h; subst h; simp
  · split at h
    · injection h with h; subst h; simp
    · split at h
      · injection h with h; subst h; simp
      · rw [Option.map_eq_some_iff] at h
        obtain ⟨l', h1, rfl⟩ := h
        have := backF_len h1
        simp only [List.length_reverse, List.length_cons]; omega
      · cases h

end Go.Proofs.YtlnefdmdabhobaaGreat.Aw

namespace Go.Proofs.YtlnefdmdabhobaaGreat.Aw
open Go Go.RowKit Go.Proofs.YtlnefdmdabhobaaGreat.Pl
set_option linter.unusedSimpArgs false
set_option linter.unusedVariables false
open Eu

theorem IsFo.reach {l I R : List Ed} (h : IsFo l I R) (v w : Int) : Reach l v w ↔ Reach I v w := by
  refine ⟨fun hr => ?_, fun hr => hr.monoF fun x hx => h.sub.1.subset hx⟩
  have edge : ∀ x ∈ l, Reach I x.a x.b := by
    clear hr v w
    induction h with
    | nil => intro x hx; simp at hx
    | rest h k ih =>
      intro x hx
      rcases List.mem_append.1 hx with hx | hx
      · exact ih x hx
      · rw [List.mem_singleton] at hx; subst hx; exact k
    | join h k ih =>
      intro x hx
      rcases List.mem_append.1 hx with hx | hx
      · exact (ih x hx).monoF fun y hy => List.mem_append_left _ hy
      · rw [List.mem_singleton] at hx; subst hx; exact .edge (by simp)
  induction hr with
  | refl => exact .refl
  | step _ hw ih =>
    obtain ⟨x, hx, ⟨rfl, rfl⟩ | ⟨rfl, rfl⟩⟩ := mem_nbr.1 hw
    · exact ih.trans (edge x hx)
    · exact ih.trans (edge x hx).symm
theorem IsFo.count {vs : List Int} (hn : vs.Nodup) {l I R : List Ed} (h : IsFo l I R) (hv : ∀ x ∈ l, x.a ∈ vs ∧ x.b ∈ vs) : I.length + ncl (Reach I) vs = vs.length := by
  induction h with
  | nil => simp [ncl_one (R := Reach []) (fun x y h => reach_nil h) hn]
  | rest h k ih => exact ih fun x hx => hv x (List.mem_append_left _ hx)
  | @join l I R x h k ih =>
    have h1 := ih fun x hx => hv x (List.mem_append_left _ hx)
    have h2 := hv x (by simp)
    have h3 := ncl_mg (reach_eqv I) k h2.1 h2.2
    have h4 : ncl (Reach (I ++ [x])) vs = ncl (Mg (Reach I) x.a x.b) vs := ncl_congr fun v _ w _ => reach_snoc I x v w
    rw [h4, List.length_append, List.length_singleton]
    omega
theorem IsFo.len {l I R : List Ed} (h : IsFo l I R) : I.length + R.length = l.length := by
  induction h with
  | nil => rfl
  | rest h k ih => simp; omega
  | join h k ih => simp; omega
theorem near_nbr {es : List Ed} {v w : Int} : w ∈ nearF es v ↔ w ∈ nbr es v := by
  rw [mem_nearF, mem_nbr]
  constructor
  · rintro ⟨x, hx, ⟨h1, h2⟩ | ⟨h1, h2⟩⟩
    · exact ⟨x, hx, .inl ⟨h1, h2⟩⟩
    · exact ⟨x, hx, .inr ⟨h2, h1⟩⟩
  · rintro ⟨x, hx, ⟨h1, h2⟩ | ⟨h1, h2⟩⟩
    · exact ⟨x, hx, .inl ⟨h1, h2⟩⟩
    · exact ⟨x, hx, .inr ⟨h2, h1⟩⟩
/-- Is an edge between these, either way round? -/
def hasB (es : List Ed) (v w : Int) : Bool := es.any fun y => decide (y.a = v ∧ y.b = w) || decide (y.b = v ∧ y.a = w)
end Go.Proofs.YtlnefdmdabhobaaGreat.Aw

namespace Go.Proofs.YtlnefdmdabhobaaGreat.Aw
open Go Go.RowKit Go.Proofs.YtlnefdmdabhobaaGreat.Pl
set_option linter.unusedSimpArgs false
set_option linter.unusedVariables false

/-- A table's entry: a key, its count. -/
def IsKn (p : List Int × LV) (k n : Int) : Prop := p = ([k], i n) ∧ (-40000 ≤ k ∧ k ≤ 40000) ∧ (0 ≤ n ∧ n ≤ 1000)
def keyOf (p : List Int × LV) : Int := p.1.headD 0
def cntOf (p : List Int × LV) : Int := match p.2 with | .atom (.int _ n) => n | _ => 0
/-- Each key times its count. -/
def sumL : List (List Int × LV) → Int
  | [] => 0
  | p :: L => keyOf p * cntOf p + sumL L
theorem wrap_si (n : Int) (h0 : -9223372036854775808 ≤ n) (h1 : n ≤ 9223372036854775807) : IntKind.i64.wrap n = n := by
  simp only [IntKind.wrap, IntKind.signed, IntKind.bits]
  simp
  split <;> omega
def SumI (st : St) (m : Nat) (es : List (List Int × LV)) (L : List (List Int × LV)) (fr : Frm) (st2 : St) : Prop := (∀ p ∈ L, ∃ k n, IsKn p k n) ∧ L.length ≤ es.length ∧ st2 = st.set m .dead ∧ ∃ s : Int, fr 3 = i s ∧ s + sumL L = sumL es ∧ -(40000000 * ((es.length : Int) - L.length)) ≤ s ∧ s ≤ 40000000 * ((es.length : Int) - L.length)
end Go.Proofs.YtlnefdmdabhobaaGreat.Aw

namespace Go.Proofs.YtlnefdmdabhobaaGreat.Aw
open Go Go.RowKit Go.Proofs.YtlnefdmdabhobaaGreat.Pl
set_option linter.unusedSimpArgs false
set_option linter.unusedVariables false

/-- The keys that are counted. -/
def nzk (L : List (List Int × LV)) : List Int := (L.filter fun p => decide (cntOf p ≠ 0)).map keyOf
structure KeysI (st : St) (m : Nat) (es L : List (List Int × LV)) (fr : Frm) (st2 : St) : Prop where
  kn : ∀ p ∈ L, ∃ k n, IsKn p k n
  len : L.length ≤ es.length
  row : ∃ q A, fr 3 = .ms q 0 A.length ∧ st2.H q = .box 3 1 (I.us A) ∧ (st.next ≤ q ∧ q < st2.next) ∧ (A ++ nzk L).Perm (nzk es) ∧ A.length + L.length ≤ es.length
  hid : st2.H m = .dead ∧ ∀ l, l < st.next → l ≠ m → st2.H l = st.H l
end Go.Proofs.YtlnefdmdabhobaaGreat.Aw

namespace Go.Proofs.YtlnefdmdabhobaaGreat.Aw
open Go Go.RowKit Go.Proofs.YtlnefdmdabhobaaGreat.Pl
set_option linter.unusedSimpArgs false
set_option linter.unusedVariables false

/-- A table whose counts are at most B, no key twice. -/
structure TabB (B : Int) (es : List (List Int × LV)) : Prop where
  kn : ∀ p ∈ es, ∃ k n, p = ([k], i n) ∧ (-40000 ≤ k ∧ k ≤ 40000) ∧ (0 ≤ n ∧ n ≤ B)
  nd : (es.map (·.1)).Nodup
def cntM (es : List (List Int × LV)) (k : Int) : Int := cntOf ([k], (mget es [k]).getD (i 0))
/-- One more of a key. -/
def add1 (es : List (List Int × LV)) (k : Int) : List (List Int × LV) := mset es [k] (i (cntM es k + 1))
theorem cntM_get {B : Int} {es : List (List Int × LV)} (h : TabB B es) (hB : 0 ≤ B) (k : Int) : (mget es [k]).getD (i 0) = i (cntM es k) ∧ 0 ≤ cntM es k ∧ cntM es k ≤ B := by
  have : ∀ es : List (List Int × LV), (∀ p ∈ es, ∃ k n, p = ([k], i n) ∧ (-40000 ≤ k ∧ k ≤ 40000) ∧ (0 ≤ n ∧ n ≤ B)) → mget es [k] = none ∨ ∃ n, mget es [k] = some (i n) ∧ 0 ≤ n ∧ n ≤ B := by
    intro es
    induction es with
    | nil => exact fun _ => .inl rfl
    | cons p es ih =>
      intro h
      obtain ⟨k', n, rfl, _, hn⟩ := h p (by simp)
      unfold mget
      by_cases e : ([k] == [k']) = true
      · simp only [e, if_true]; exact .inr ⟨n, rfl, hn⟩
      · simp only [e, if_false]; exact ih fun q hq => h q (by simp [hq])
  unfold cntM
  rcases this es h.kn with e | ⟨n, e, h1, h2⟩
  · rw [e]; exact ⟨rfl, Int.le_refl _, hB⟩
  · rw [e]; exact ⟨rfl, h1, h2⟩
theorem mset_mem (es : List (List Int × LV)) (a : List Int) (v : LV) (p : List Int × LV) (h : p ∈ mset es a v) : p = (a, v) ∨ p ∈ es := by
  induction es with
  | nil => simp [mset] at h; exact .inl h
  | cons q es ih =>
    unfold mset at h
    split at h
    · rcases List.mem_cons.1 h with h | h
      · exact .inl h
      · exact .inr (by simp [h])
    · rcases List.mem_cons.1 h with h | h
      · exact .inr (by simp [h])
      · rcases ih h with h | h
        · exact .inl h
        · exact .inr (by simp [h])
theorem mset_keys (es : List (List Int × LV)) (a : List Int) (v : LV) (h : (es.map (·.1)).Nodup) : ((mset es a v).map (·.1)).Nodup ∧ ∀ x, x ∈ (mset es a v).map (·.1) → x = a ∨ x ∈ es.map (·.1) := by
  induction es with
  | nil => simp [mset]
  | cons q es ih =>
    simp only [List.map_cons, List.nodup_cons] at h
    obtain ⟨i1, i2⟩ := ih h.2
    unfold mset
    by_cases e : a = q.1
    · rw [if_pos (by simpa using e)]
      subst e
      exact ⟨by simp only [List.map_cons, List.nodup_cons]; exact h, fun x hx => .inr (by simpa using hx)⟩
    · rw [if_neg (by simpa using e)]
      refine ⟨?_, fun x hx => ?_⟩
      · simp only [List.map_cons, List.nodup_cons]
        refine ⟨fun hx => ?_, i1⟩
        rcases i2 _ hx with h1 | h1
        · exact e h1.symm
        · exact h.1 h1
      · rcases List.mem_cons.1 (by simpa using hx : x ∈ q.1 :: (mset es a v).map (·.1)) with h1 | h1
        · exact .inr (by simp [h1])
        · rcases i2 _ h1 with h2 | h2
          · exact .inl h2
          · exact .inr (by simp only [List.map_cons, List.mem_cons]; exact .inr h2)
theorem TabB.add {B : Int} {es : List (List Int × LV)} (h : TabB B es) (hB : 0 ≤ B) {k : Int} (hk : -40000 ≤ k ∧ k ≤ 40000) : TabB (B + 1) (add1 es k) := by
  obtain ⟨_, c1, c2⟩ := cntM_get h hB k
  refine ⟨fun p hp => ?_, (mset_keys es _ _ h.nd).1⟩
  rcases mset_mem _ _ _ _ hp with rfl | hp
  · exact ⟨k, _, rfl, hk, by omega, by omega⟩
  · obtain ⟨k', n, h1, h2, h3⟩ := h.kn p hp
    exact ⟨k', n, h1, h2, h3.1, by omega⟩
theorem sumL_add (es : List (List Int × LV)) (k : Int) (hkn : ∀ p ∈ es, ∃ k n, p = (([k] : List Int), i n)) : sumL (add1 es k) = sumL es + k := by
  unfold add1
  have : ∀ es : List (List Int × LV), (∀ p ∈ es, ∃ k n, p = (([k] : List Int), i n)) → sumL (mset es [k] (i (cntM es k + 1))) = sumL es + k := by
    intro es
    induction es with
    | nil =>
      intro _
      simp [mset, sumL, keyOf, cntOf, cntM, mget]
    | cons p es ih =>
      intro h
      obtain ⟨k', n, rfl⟩ := h p (by simp)
      unfold mset
      by_cases e : k = k'
      · subst e
        simp only [beq_self_eq_true, if_true, sumL]
        have hc : cntM (([k], i n) :: es) k = n := by simp [cntM, mget, cntOf]
        rw [hc]
        have e1 : keyOf ([k], i (n + 1)) = k := rfl
        have e2 : cntOf ([k], i (n + 1)) = n + 1 := rfl
        have e3 : keyOf ([k], i n) = k := rfl
        have e4 : cntOf ([k], i n) = n := rfl
        rw [e1, e2, e3, e4, Int.mul_add]; omega
      · have hb : ([k] == [k']) = false := by simpa using e
        have hc : cntM (([k'], i n) :: es) k = cntM es k := by simp only [cntM, mget, hb, Bool.false_eq_true, if_false]
        simp only [hb, Bool.false_eq_true, if_false, sumL]
        rw [hc, ih fun q hq => h q (by simp [hq])]
        omega
  exact this es hkn

def addAll (es : List (List Int × LV)) (l : List Int) : List (List Int × LV) := l.foldl add1 es
theorem sAdd (m : Nat) (es : List (List Int × LV)) (l : List Int) (t : Nat) (B : Int) (st : St) (hm : st.H m = .map false [.i64] es) (hB : 0 ≤ B ∧ B ≤ 1000000) (hT : TabB B es) (hl : l.length ≤ 1000) (hk : ∀ k ∈ l, -40000 ≤ k ∧ k ≤ 40000) :
    ACalls Tryz.prog 80 [.mp m, .sl t l.length (I.us l)] st fun r st' => st' = st.set m (.map false [.i64] (addAll es l)) ∧ TabB (B + l.length) (addAll es l) := by
  have hself : st = st.set m (.map false [.i64] es) := St.ext' rfl fun y => by by_cases hy : y = m <;> simp [hy, hm]
  refine acalls_of_body tabOk Tryz.func80 rfl rfl Tryz.ntmps80 (rs := []) rfl (by simp) ?_
  (repeat (refine awp_seq ?_))
  refine awp_mapNil (.mp m) false (by simp) (mp_notNil m) Tryz.underlying32 ?_
  simp only [ak]
  (repeat' (first | refine awp_seq ?_ | refine awp_block ?_ | (refine awp_skip ?_; simp only [ak, reduceIte]) | (refine awp_cond ?_; simp []) | (refine w_e [] ?_; intro J hJ; simp only []; simp []; (refine hJ _ _ ?_; clear hJ J; simp only [ak, reduceIte]))))
  refine awp_range 10 9 11 18 (l.length) (fun j fr st2 => fr 0 = .mp m ∧ fr 8 = .sl t l.length (I.us l) ∧ st2 = st.set m (.map false [.i64] (addAll es (l.take j))) ∧ TabB (B + j) (addAll es (l.take j))) ?_ ?_ ?_
  · exact ⟨by simp, by simp, by simpa [addAll] using hself, by simpa [addAll] using hT⟩
  · rintro j fr s hlt ⟨f0, f8, rfl, hT⟩ fi fn JJ hJJ
    have hd := I.us_drop_getD l j hlt
    have hkj := hk (l.getD j 0) (by rw [List.getD_eq_getElem?_getD, List.getElem?_eq_getElem hlt]; exact List.getElem_mem _)
    have htk : addAll es (l.take (j + 1)) = add1 (addAll es (l.take j)) (l.getD j 0) := by
      unfold addAll
      rw [show l.take (j + 1) = l.take j ++ [l.getD j 0] by rw [List.getD_eq_getElem?_getD, List.getElem?_eq_getElem hlt]; exact List.take_succ_eq_append_getElem hlt, List.foldl_append]; rfl
    have hT2 := hT.add (by omega) hkj
    rw [← htk] at hT2
    have hcg := cntM_get hT (by omega) (l.getD j 0)
    generalize l.getD j 0 = x at *
    have ha1 : add1 (addAll es (l.take j)) x = mset (addAll es (l.take j)) [x] (i (cntM (addAll es (l.take j)) x + 1)) := rfl
    generalize addAll es (l.take j) = E at *
    obtain ⟨g1, g2, g3⟩ := hcg
    generalize cntM E x = cx at *
    have w1 : IntKind.i64.wrap (cx + 1) = cx + 1 := wrap_si _ (by omega) (by omega)
    (repeat' (first | refine awp_seq ?_ | (refine w_e [] ?_; intro J hJ; simp only []; simp [f0, f8, fi, fn, hlt, hd, g1, w1]; (refine hJ _ _ ?_; clear hJ J; simp only [ak, reduceIte]))))
    refine hJJ _ _ (by simp [fi]) (by simp [fn]) ⟨by simp [f0], by simp [f8], ?_, by rw [show B + ((j + 1 : Nat) : Int) = B + j + 1 by omega]; exact hT2⟩
    rw [St.set_set, htk, ha1]
  · rintro fr s ⟨f0, f8, rfl, hT⟩
    rw [List.take_length] at hT ⊢
    skip
    exact ⟨trivial, rfl, hT⟩

end Go.Proofs.YtlnefdmdabhobaaGreat.Aw

namespace Go.Proofs.YtlnefdmdabhobaaGreat.Aw
open Go Go.RowKit Go.Proofs.YtlnefdmdabhobaaGreat.Pl
set_option linter.unusedSimpArgs false
set_option linter.unusedVariables false

theorem KeepZ (g : Gr) (f : FuncId) (caps : List LV) (p : Ed → Bool) (st : St) (hv : g.vs.length ≤ 1000) (he : g.es.length ≤ 1000) (hp : TestE f caps st g.es p) :
    ACalls Tryz.prog 81 [.ag (grL g), .fn (.func f) caps] st fun r st' => r = .ag (grL ⟨g.vs, g.es.filter p⟩) ∧ Keeps st st' := by
  refine acalls_z0 ((Keep g f caps p st hv he hp).mono ?_)
  rintro r st' ⟨⟨X, rfl, hX⟩, hk⟩
  refine ⟨?_, hk⟩
  simp only [z0, z0L, z0_us]
  congr 1
  rcases hX with ⟨rfl, h⟩ | ⟨t, rfl⟩
  · rw [h]; simp [z0]
  · simp only [z0, z0_edsB]

theorem Girth_1 (x o : Ed) (q : Nat) (st : St) (hq : st.H q = .box 50 3 (edL x)) (hqn : q < st.next) :
    ACalls Tryz.prog 82 [.ag (edL o), .pt q 0] st fun r st' => r = bb (decide (o.id ≠ x.id)) ∧ Keeps st st' := by
  obtain ⟨d, a, b⟩ := x
  obtain ⟨d', a', b'⟩ := o
  have a1 : ¬ q = st.next := by omega
  refine acalls_of_body tabOk Tryz.func82 rfl rfl Tryz.ntmps82 (rs := [.tmp 3]) rfl (by simp) ?_
  by_cases h : d' = d
  · (repeat' (first | refine awp_seq ?_ | (refine awp_ret ?_; simp only [ak, reduceIte]; simp [hq, a1, h]) | (refine w_e [] ?_; intro J hJ; simp only []; simp [hq, a1, h]; (refine hJ _ _ ?_; clear hJ J; simp only [ak, reduceIte]))))
    exact Keeps.new _ _
  · (repeat' (first | refine awp_seq ?_ | (refine awp_ret ?_; simp only [ak, reduceIte]; simp [hq, a1, h]) | (refine w_e [] ?_; intro J hJ; simp only []; simp [hq, a1, h]; (refine hJ _ _ ?_; clear hJ J; simp only [ak, reduceIte]))))
    exact Keeps.new _ _

def lessE (es : List Ed) (x : Ed) : List Ed := es.filter fun o => decide (o.id ≠ x.id)
/-- The fewest edges of a ring, by ways around each edge; none: the strength n is too little. -/
def girthL (g : Gr) (n : Nat) : Int → List Ed → Option Int
  | least, [] => some least
  | least, x :: xs => match pathF g.vs (nearF (lessE g.es x)) (fun _ => true) x.a x.b n with
    | some l => girthL g n (if 0 < l.length ∧ (least = 0 ∨ (l.length : Int) < least) then l.length else least) xs
    | none => none
theorem pathF_len {vs : List Int} {near : Int → List Int} {may : Int → Bool} {a b : Int} {n : Nat} {l : List Int} (h : pathF vs near may a b n = some l) : l.length ≤ n + 1 := by
  unfold pathF at h
  split at h
  · injection h with h; subst h; simp
  · split at h
    · injection h with h; subst h; simp
    · split at h
      · injection h with h; subst h; simp
      · rw [Option.map_eq_some_iff] at h
        obtain ⟨l', h1, rfl⟩ := h
        have := backF_len h1
        simp only [List.length_reverse, List.length_cons]; omega
      · cases h

set_option maxHeartbeats 1000000 in
theorem Girth (g : Gr) (n : Nat) (r : Int) (st : St) (hv : g.vs.length ≤ 1000) (he : g.es.length ≤ 1000) (hn : n ≤ 1000) (hg : girthL g n 0 g.es = some r) :
    ACalls Tryz.prog 26 [.ag (grL g)] st fun r' st' => r' = i r ∧ Keeps st st' := by
  have hel := eds_length g.es
  refine acalls_of_body tabOk Tryz.func26 rfl rfl Tryz.ntmps26 (rs := [.tmp 2]) rfl (by simp) ?_
  (repeat' (first | refine awp_seq ?_ | refine awp_block ?_ | (refine w_e [] ?_; intro J hJ; simp only []; simp []; (refine hJ _ _ ?_; clear hJ J; simp only [ak, reduceIte]))))
  refine awp_range 11 10 12 37 (g.es.length) (fun j fr st2 => fr 1 = .pt st.next 0 ∧ fr 9 = .sl 0 g.es.length (eds g.es) ∧ st2.H st.next = .box 25 2 (grL g) ∧ st.next < st2.next ∧ Keeps st st2 ∧ ∃ least : Int, fr 3 = i least ∧ girthL g n least (g.es.drop j) = some r ∧ 0 ≤ least ∧ least ≤ 2000) ?_ ?_ ?_
  · exact ⟨by simp, by simp, by simp, by simp, Keeps.new _ _, 0, by simp, hg, by omega, by omega⟩
  · rintro j fr s hlt ⟨f1, f9, hG, hsn, hkp, least, f3, hgl, hl0, hl1⟩ fi fn JO hJO
    have hd := eds_drop g.es j hlt
    have hdr : g.es.drop j = g.es.getD j ed0 :: g.es.drop (j + 1) := by
      rw [List.getD_eq_getElem?_getD, List.getElem?_eq_getElem hlt]; exact List.drop_eq_getElem_cons hlt
    rw [hdr] at hgl
    have hk3 : j * 3 < g.es.length * 3 := by omega
    generalize g.es.getD j ed0 = x at *
    simp only [girthL] at hgl
    cases hp : pathF g.vs (nearF (lessE g.es x)) (fun _ => true) x.a x.b n with
    | none => rw [hp] at hgl; cases hgl
    | some l =>
    rw [hp] at hgl
    simp only at hgl
    have hll := pathF_len hp
    have e1 : ¬ st.next = s.next := by omega
    (repeat' (first | refine awp_seq ?_ | (refine w_e [] ?_; intro J hJ; simp only []; simp [f1, f9, fi, fn, hd, hel, hlt, hk3, hG, e1]; (try (refine hJ _ _ ?_; clear hJ J; simp only [ak, reduceIte])))))
    refine callK_ofE (KeepZ g _ _ (fun o => decide (o.id ≠ x.id)) _ hv he (fun o ho s2 hs2 => Girth_1 x o s.next s2 (by rw [hs2.H _ (by simp)]; simp) (by have := hs2.next; simp at this; omega))) (by simp) ?_; rintro r s3 ⟨rfl, hk3⟩
    have hn3 := hk3.next
    simp only [new_next] at hn3
    have hG3 : s3.H st.next = .box 25 2 (grL g) := by rw [hk3.H _ (by simp; omega)]; simp [e1, hG]
    have hX3 : s3.H s.next = .box 50 3 (edL x) := by rw [hk3.H _ (by simp)]; simp
    have hkp3 : Keeps st s3 := (hkp.trans (Keeps.new _ _)).trans hk3
    have e2 : ¬ s.next = s3.next := by omega
    have e3 : ¬ st.next = s3.next := by omega
    have hfl := List.length_filter_le (fun o : Ed => decide (o.id ≠ x.id)) g.es
    (repeat' (first | refine awp_seq ?_ | ((first | (refine w_e [] ?_; intro J hJ; simp only []) | (refine e_go ?_)); simp [hX3, e2, e3]; (try (refine hJ _ _ ?_; clear hJ J; simp only [ak, reduceIte])))))
    refine callK_ofE (Path ⟨g.vs, lessE g.es x⟩ x.a x.b (.atom .nilFunc) (fun _ => true) n l _ (by simp only; omega) (by simp only [lessE]; omega) hn (.inl ⟨rfl, fun _ => rfl⟩) hp) (by simp [lessE]) ?_; rintro r s4 ⟨rfl, hk4⟩
    have hn4 := hk4.next
    simp only [new_next] at hn4
    have hG4 : s4.H st.next = .box 25 2 (grL g) := by rw [hk4.H _ (by simp; omega)]; simp [e3, hG3]
    have hkp4 : Keeps st s4 := (hkp3.trans (Keeps.new _ _)).trans hk4
    have fin : ∀ (fr : Frm) (least' : Int), fr 11 = i j → fr 10 = i g.es.length → fr 1 = .pt st.next 0 → fr 9 = .sl 0 g.es.length (eds g.es) → fr 3 = i least' → (if 0 < l.length ∧ (least = 0 ∨ (l.length : Int) < least) then (l.length : Int) else least) = least' → JO fr s4 := by
      intro fr least' g1 g2 g3 g4 g5 g6
      rw [g6] at hgl
      refine hJO _ _ g1 g2 ⟨by simp [g3], by simp [g4], hG4, by omega, hkp4, least', by simp [g5], hgl, ?_, ?_⟩
      · rw [← g6]; split <;> omega
      · rw [← g6]; split <;> omega
    by_cases h1 : (0 : Int) < l.length
    · have h1' : 0 < l.length := by omega
      by_cases h2 : least = 0
      · subst h2
        (repeat' (first | refine awp_seq ?_ | (refine awp_cond ?_; simp [f3, h1, h1']) | ((first | (refine w_e [] ?_; intro J hJ; simp only []) | (refine e_go ?_)); simp [f3, h1, h1']; (refine hJ _ _ ?_; clear hJ J; simp only [ak, reduceIte]))))
        exact fin _ l.length (by simp [fi]) (by simp [fn]) (by simp [f1]) (by simp [f9]) (by simp) (if_pos ⟨h1', .inl rfl⟩)
      · have h2' : (least == 0) = false := by simpa using h2
        by_cases h3 : (l.length : Int) < least
        · (repeat' (first | refine awp_seq ?_ | (refine awp_cond ?_; simp [f3, h1, h1', h2', h3]) | ((first | (refine w_e [] ?_; intro J hJ; simp only []) | (refine e_go ?_)); simp [f3, h1, h1', h2', h3]; (refine hJ _ _ ?_; clear hJ J; simp only [ak, reduceIte]))))
          exact fin _ l.length (by simp [fi]) (by simp [fn]) (by simp [f1]) (by simp [f9]) (by simp) (if_pos ⟨h1', .inr h3⟩)
        · (repeat' (first | refine awp_seq ?_ | (refine awp_skip ?_; simp only [ak, reduceIte]) | (refine awp_cond ?_; simp [f3, h1, h1', h2', h3]) | ((first | (refine w_e [] ?_; intro J hJ; simp only []) | (refine e_go ?_)); simp [f3, h1, h1', h2', h3]; (refine hJ _ _ ?_; clear hJ J; simp only [ak, reduceIte]))))
          refine fin _ least (by simp [fi]) (by simp [fn]) (by simp [f1]) (by simp [f9]) (by simp [f3]) (if_neg (by rintro ⟨_, h | h⟩ <;> first | exact h2 h | exact h3 h))
    · have h1' : ¬ 0 < l.length := by omega
      (repeat' (first | refine awp_seq ?_ | (refine awp_skip ?_; simp only [ak, reduceIte]) | (refine awp_cond ?_; simp [f3, h1, h1']) | ((first | (refine w_e [] ?_; intro J hJ; simp only []) | (refine e_go ?_)); simp [f3, h1, h1']; (refine hJ _ _ ?_; clear hJ J; simp only [ak, reduceIte]))))
      exact fin _ least (by simp [fi]) (by simp [fn]) (by simp [f1]) (by simp [f9]) (by simp [f3]) (if_neg (by rintro ⟨h, _⟩; omega))
  · rintro fr s ⟨f1, f9, hG, hsn, hkp, least, f3, hgl, hl0, hl1⟩
    rw [List.drop_length] at hgl
    simp only [girthL, Option.some.injEq] at hgl
    subst hgl
    (repeat' (first | refine awp_seq ?_ | (refine awp_ret ?_; simp only [ak, reduceIte]; simp [f3]) | (refine w_e [] ?_; intro J hJ; simp only []; simp [f3]; (refine hJ _ _ ?_; clear hJ J; simp only [ak, reduceIte]))))
    exact hkp

end Go.Proofs.YtlnefdmdabhobaaGreat.Aw

namespace Go.Proofs.YtlnefdmdabhobaaGreat.Aw
open Go Go.RowKit Go.Proofs.YtlnefdmdabhobaaGreat.Pl
set_option linter.unusedSimpArgs false
set_option linter.unusedVariables false

/-- How far a vertex is, by the document. -/
def depR (g : Gr) (root v : Int) : Int := if root ∈ g.vs then match refPath g.vs (nearF g.es) (fun _ => true) root v g.vs.length with
  | some l => (l.length : Int) - 1
  | none => -1 else -1
theorem nearF_in {g : Gr} (hg : Good g) (v : Int) : ∀ w ∈ nearF g.es v, w ∈ g.vs := fun w hw => by
  obtain ⟨x, hx, ⟨_, rfl⟩ | ⟨rfl, _⟩⟩ := mem_nearF.1 hw
  · exact (hg.ends x hx).2
  · exact (hg.ends x hx).1
/-- All that is reached from a vertex, and how far it is. -/
structure IsDep (g : Gr) (root : Int) (Dr : Led) : Prop where
  out : root ∉ g.vs → Dr = []
  run : root ∈ g.vs → ∃ n, depF (nearF g.es) n 0 [(root, 0)] = some Dr
  ok : DepOk g.vs Dr
/-- So many are reached. -/
theorem IsDep.count {g : Gr} {root : Int} {Dr : Led} (h : IsDep g root Dr) (hg : Good g) : g.vs.countP (fun v => (ledBy Dr v).isSome) = Dr.length := by
  have h1 : (g.vs.filter fun v => (ledBy Dr v).isSome).Perm (Dr.map (·.1)) := by
    refine (List.perm_ext_iff_of_nodup (hg.nodup.filter _) h.ok.nd).2 fun v => ?_
    rw [List.mem_filter]
    constructor
    · rintro ⟨_, h2⟩
      refine Classical.byContradiction fun hn => ?_
      rw [ledBy_none hn] at h2
      cases h2
    · intro h2
      refine ⟨h.ok.sub v h2, ?_⟩
      obtain ⟨w, hw⟩ := ledBy_some h2
      rw [hw]; rfl
  rw [List.countP_eq_length_filter, h1.length_eq, List.length_map]

end Go.Proofs.YtlnefdmdabhobaaGreat.Aw

namespace Go.Proofs.YtlnefdmdabhobaaGreat.Aw
open Go Go.RowKit Go.Proofs.YtlnefdmdabhobaaGreat.Pl
set_option linter.unusedSimpArgs false
set_option linter.unusedVariables false
open Eu

def far1 (f : Int → Int) (v k : Int) : Int → Int := fun w => if w = v then k else f w
/-- A step from the one to the other. -/
def stp (n : Int) (f : Int → Int) (v w : Int) : Int → Int := if f v = n ∧ f w = 0 then far1 f w (n + 1) else f
def layE (x : Ed) (n : Int) (f : Int → Int) (y : Ed) : Int → Int := if y.id = x.id then f else stp n (stp n f y.a y.b) y.b y.a
def lay (x : Ed) (es : List Ed) (n : Int) (f : Int → Int) : Int → Int := es.foldl (layE x n) f
def lays (x : Ed) (es : List Ed) : Nat → (Int → Int)
  | 0 => far1 (fun _ => 0) x.a 1
  | n + 1 => lay x es ((n : Int) + 1) (lays x es n)
def best1 (b k : Int) : Int := if 0 < k ∧ (b = 0 ∨ k < b) then k else b
def refGirth (g : Gr) : Int := g.es.foldl (fun b x => best1 b (lays x g.es g.vs.length x.b)) 0
theorem lay_snoc (x : Ed) (es : List Ed) (n : Int) (f : Int → Int) (y : Ed) : lay x (es ++ [y]) n f = layE x n (lay x es n f) y := by simp [lay, List.foldl_append]

/-- All are told that are so far at most; of the others those that are told are one step on. -/
def Lay (near : Int → List Int) (a : Int) (n : Nat) (P : Int → Int → Prop) (f : Int → Int) : Prop :=
  ∀ w, (∃ d, d ≤ n + 1 ∧ Dst near a w d ∧ f w = (d : Int) + 1) ∨ (f w = 0 ∧ (∀ d, d ≤ n → ¬ Wk near a d w) ∧ ∀ v, P v w → ¬ Wk near a n v)
def LayD (near : Int → List Int) (a : Int) (n : Nat) (f : Int → Int) : Prop :=
  ∀ w, (∃ d, d ≤ n ∧ Dst near a w d ∧ f w = (d : Int) + 1) ∨ (f w = 0 ∧ ∀ d, d ≤ n → ¬ Wk near a d w)
theorem LayD.open {near : Int → List Int} {a : Int} {n : Nat} {f : Int → Int} (h : LayD near a n f) : Lay near a n (fun _ _ => False) f := fun w => by
  rcases h w with ⟨d, h1, h2, h3⟩ | ⟨h1, h2⟩
  · exact .inl ⟨d, by omega, h2, h3⟩
  · exact .inr ⟨h1, h2, fun _ k => k.elim⟩
theorem Lay.step {near : Int → List Int} {a : Int} {n : Nat} {P : Int → Int → Prop} {f : Int → Int} (h : Lay near a n P f) {v w : Int} (hw : w ∈ near v) : Lay near a n (fun x y => P x y ∨ (x = v ∧ y = w)) (stp ((n : Int) + 1) f v w) := by
  intro y
  unfold stp
  split
  · rename_i hc
    obtain ⟨c1, c2⟩ := hc
    by_cases hy : y = w
    · subst hy
      left
      have hv : Dst near a v n := by
        rcases h v with ⟨d, _, h2, h3⟩ | ⟨h1, _⟩
        · obtain rfl : d = n := by omega
          exact h2
        · omega
      refine ⟨n + 1, Nat.le_refl _, ⟨.snoc hv.1 hw, fun m hm => ?_⟩, by simp [far1]⟩
      rcases h y with ⟨d, _, _, h3⟩ | ⟨_, h2, _⟩
      · omega
      · rcases Nat.lt_or_ge m (n + 1) with hl | hl
        · exact absurd hm (h2 m (by omega))
        · exact hl
    · have e : far1 f w (n + 1 + 1) y = f y := by simp [far1, hy]
      rw [e]
      rcases h y with ⟨d, h1, h2, h3⟩ | ⟨h1, h2, h3⟩
      · exact .inl ⟨d, h1, h2, h3⟩
      · refine .inr ⟨h1, h2, fun x hx => ?_⟩
        rcases hx with hx | ⟨_, hx⟩
        · exact h3 x hx
        · exact absurd hx hy
  · rename_i hc
    rcases h y with ⟨d, h1, h2, h3⟩ | ⟨h1, h2, h3⟩
    · exact .inl ⟨d, h1, h2, h3⟩
    · refine .inr ⟨h1, h2, fun x hx => ?_⟩
      rcases hx with hx | ⟨rfl, rfl⟩
      · exact h3 x hx
      · intro hwk
        rcases h x with ⟨d, g1, g2, g3⟩ | ⟨_, g2, _⟩
        · have := g2.2 _ hwk
          by_cases e : d = n
          · subst e; exact hc ⟨g3, h1⟩
          · exact h2 (d + 1) (by omega) (.snoc g2.1 hw)
        · exact g2 n (Nat.le_refl _) hwk
theorem lay_edges {x : Ed} {es : List Ed} {n : Nat} : ∀ (l : List Ed) (P : Int → Int → Prop) (f : Int → Int), (∀ y ∈ l, y ∈ es) → Lay (nearF (lessE es x)) x.a n P f →
    Lay (nearF (lessE es x)) x.a n (fun v w => P v w ∨ ∃ y ∈ l, y.id ≠ x.id ∧ ((y.a = v ∧ y.b = w) ∨ (y.b = v ∧ y.a = w))) (lay x l (n + 1) f)
  | [], P, f, _, h => fun w => by
    rcases h w with h | ⟨h1, h2, h3⟩
    · exact .inl h
    · refine .inr ⟨h1, h2, fun v hv => ?_⟩
      rcases hv with hv | ⟨y, hy, _⟩
      · exact h3 v hv
      · simp at hy
  | y :: l, P, f, hl, h => by
    have e : lay x (y :: l) (n + 1) f = lay x l (n + 1) (layE x (n + 1) f y) := rfl
    rw [e]
    unfold layE
    split
    · rename_i hid
      intro w
      rcases lay_edges l P f (fun z hz => hl z (List.mem_cons_of_mem _ hz)) h w with h | ⟨h1, h2, h3⟩
      · exact .inl h
      · refine .inr ⟨h1, h2, fun v hv => ?_⟩
        rcases hv with hv | ⟨z, hz, hz1, hz2⟩
        · exact h3 v (.inl hv)
        · rcases List.mem_cons.1 hz with rfl | hz
          · exact absurd hid hz1
          · exact h3 v (.inr ⟨z, hz, hz1, hz2⟩)
    · rename_i hid
      have hin : y ∈ lessE es x := by unfold lessE; rw [List.mem_filter]; exact ⟨hl y (by simp), by simpa using hid⟩
      have n1 : y.b ∈ nearF (lessE es x) y.a := near_nbr.2 (mem_nbr.2 ⟨y, hin, .inl ⟨rfl, rfl⟩⟩)
      have n2 : y.a ∈ nearF (lessE es x) y.b := near_nbr.2 (mem_nbr.2 ⟨y, hin, .inr ⟨rfl, rfl⟩⟩)
      have h1 := (h.step n1).step n2
      intro w
      rcases lay_edges l _ _ (fun z hz => hl z (List.mem_cons_of_mem _ hz)) h1 w with h | ⟨h1, h2, h3⟩
      · exact .inl h
      · refine .inr ⟨h1, h2, fun v hv => ?_⟩
        rcases hv with hv | ⟨z, hz, hz1, hz2⟩
        · exact h3 v (.inl (.inl (.inl hv)))
        · rcases List.mem_cons.1 hz with rfl | hz
          · rcases hz2 with ⟨rfl, rfl⟩ | ⟨rfl, rfl⟩
            · exact h3 _ (.inl (.inl (.inr ⟨rfl, rfl⟩)))
            · exact h3 _ (.inl (.inr ⟨rfl, rfl⟩))
          · exact h3 v (.inr ⟨z, hz, hz1, hz2⟩)
theorem lays_dst (x : Ed) (es : List Ed) : ∀ n, LayD (nearF (lessE es x)) x.a n (lays x es n)
  | 0 => fun w => by
    by_cases hw : w = x.a
    · subst hw
      exact .inl ⟨0, Nat.le_refl _, ⟨.nil, fun m _ => Nat.zero_le _⟩, by simp [lays, far1]⟩
    · refine .inr ⟨by simp [lays, far1, hw], fun d hd hwk => ?_⟩
      obtain rfl : d = 0 := by omega
      cases hwk
      exact hw rfl
  | n + 1 => fun w => by
    have h := lay_edges (x := x) (es := es) (n := n) es _ _ (fun y hy => hy) (lays_dst x es n).open
    rcases h w with ⟨d, h1, h2, h3⟩ | ⟨h1, h2, h3⟩
    · exact .inl ⟨d, h1, h2, h3⟩
    · refine .inr ⟨h1, fun d hd hwk => ?_⟩
      rcases Nat.lt_or_ge d (n + 1) with hl | hl
      · exact h2 d (by omega) hwk
      · obtain rfl : d = n + 1 := by omega
        cases hwk with
        | @snoc _ v _ hv hw =>
          obtain ⟨y, hy, hy2⟩ := mem_nbr.1 (near_nbr.1 hw)
          unfold lessE at hy
          rw [List.mem_filter] at hy
          exact h3 v (.inr ⟨y, hy.1, by simpa using hy.2, hy2⟩) hv

/-- The way around an edge: what both find. -/
theorem lays_path {g : Gr} (hg : Good g) {x : Ed} (hx : x ∈ g.es) {n : Nat} (hn : g.vs.length ≤ n) (h0 : 0 < n) : ∃ l, pathF g.vs (nearF (lessE g.es x)) (fun _ => true) x.a x.b n = some l ∧ lays x g.es g.vs.length x.b = l.length := by
  have hgl : ∀ y ∈ lessE g.es x, y.a ∈ g.vs ∧ y.b ∈ g.vs := fun y hy => hg.ends y (List.mem_filter.1 hy).1
  have hnear : ∀ v, ∀ w ∈ nearF (lessE g.es x) v, w ∈ g.vs := fun v w hw => nearF_in (g := ⟨g.vs, lessE g.es x⟩) ⟨hg.rise, hgl⟩ v w hw
  obtain ⟨l, hl⟩ := refPath_some (may := fun _ => true) (from' := x.a) (to := x.b) hnear (n := g.vs.length) (Nat.le_refl _)
  obtain ⟨l2, hl2⟩ := refPath_some (may := fun _ => true) (from' := x.a) (to := x.b) hnear (n := n) hn
  have hv0 : 0 < g.vs.length := List.length_pos_iff.2 fun e => by have := (hg.ends x hx).1; rw [e] at this; simp at this
  have hp := path_same hl hv0
  have hp2 := path_same hl2 h0
  have hb := pathF_len2 hp
  have k1 := path_dst hl (hg.ends x hx).1 (hg.ends x hx).2
  have k2 := path_dst hl2 (hg.ends x hx).1 (hg.ends x hx).2
  refine ⟨l2, hp2, ?_⟩
  rcases lays_dst x g.es g.vs.length x.b with ⟨d, h1, h2, h3⟩ | ⟨h1, h2⟩
  · rcases k2 with ⟨_, c⟩ | ⟨e, c1, c2, _⟩
    · exact absurd h2.1 (c d)
    · rw [h3, c1, h2.unique c2]; simp
  · rw [h1]
    rcases k2 with ⟨c, _⟩ | ⟨e, c1, c2, _⟩
    · rw [c]; rfl
    · rcases k1 with ⟨_, c⟩ | ⟨e', c1', c2', _⟩
      · exact absurd c2.1 (c e)
      · rw [c2.unique c2'] at *
        exact absurd c2'.1 (h2 e' (by omega))
theorem girth_same {g : Gr} (hg : Good g) {n : Nat} (hn : g.vs.length ≤ n) (h0 : 0 < n) : girthL g n 0 g.es = some (refGirth g) := by
  have key : ∀ (l : List Ed) (b : Int), (∀ x ∈ l, x ∈ g.es) → girthL g n b l = some (l.foldl (fun b x => best1 b (lays x g.es g.vs.length x.b)) b) := by
    intro l
    induction l with
    | nil => intro b _; simp [girthL]
    | cons x l ih =>
      intro b hl
      obtain ⟨w, h1, h2⟩ := lays_path hg (hl x (by simp)) hn h0
      simp only [girthL, h1, List.foldl_cons]
      rw [ih _ fun y hy => hl y (List.mem_cons_of_mem _ hy)]
      congr 2
      rw [h2]
      unfold best1
      by_cases hw : 0 < w.length ∧ (b = 0 ∨ (w.length : Int) < b)
      · rw [if_pos hw, if_pos ⟨by omega, hw.2⟩]
      · rw [if_neg hw, if_neg fun h => hw ⟨by omega, h.2⟩]
  exact key g.es 0 fun x hx => hx

end Go.Proofs.YtlnefdmdabhobaaGreat.Aw

namespace Go.Proofs.YtlnefdmdabhobaaGreat.Aw
open Go Go.RowKit Go.Proofs.YtlnefdmdabhobaaGreat.Pl Go.Proofs.YtlnefdmdabhobaaGreat.Eu
set_option linter.unusedSimpArgs false
set_option linter.unusedVariables false

theorem it_in {f : Int → Int} {ds : List Int} (hd : ∀ x ∈ ds, f x ∈ ds) (n : Nat) : ∀ x, x ∈ ds → it f n x ∈ ds := by
  induction n with
  | zero => intro x hx; exact hx
  | succ n ih => intro x hx; exact ih _ (hd x hx)
theorem Lead.flat {f : Int → Int} (hf : Per f) {ds : List Int} {k : Nat} {R : List (List Int)} (h : Lead f ds k R) : R.flatten.Nodup ∧ ∀ x, x ∈ R.flatten ↔ SeenD f ds k x := by
  induction h with
  | zero => exact ⟨by simp, fun w => ⟨fun h => by simp at h, fun h => by obtain ⟨u, hu, _⟩ := h; simp at hu⟩⟩
  | seen _ hk hs ih => exact ⟨ih.1, fun w => by rw [ih.2, seenD_same hk hs]⟩
  | @lead k R c _ hk hs hc ih =>
    rw [List.flatten_append, List.flatten_cons, List.flatten_nil, List.append_nil]
    refine ⟨?_, fun w => ?_⟩
    · rw [List.nodup_append]
      refine ⟨ih.1, hc.nodup fun x y => hf.inj, fun a ha b hb => ?_⟩
      rintro rfl
      obtain ⟨y, hy, h1⟩ := (ih.2 a).1 ha
      exact hs ⟨y, hy, h1.trans (Orb.symm hf (hc.mem.1 hb))⟩
    · rw [List.mem_append, ih.2, hc.mem, seenD_succ hk]
section
variable {f : Int → Int} (hf : Per f) {ds : List Int} (hd : ∀ x ∈ ds, f x ∈ ds)
include hf hd
theorem Lead.count {R : List (List Int)} (hn : ds.Nodup) (h : Lead f ds ds.length R) : R.flatten.Perm ds := by
  obtain ⟨h1, h2⟩ := Lead.flat hf h
  refine (List.perm_ext_iff_of_nodup h1 hn).2 fun w => ?_
  rw [h2]
  unfold SeenD
  rw [List.take_length]
  constructor
  · rintro ⟨y, hy, n, rfl⟩; exact it_in hd n y hy
  · intro hw; exact ⟨w, hw, Orb.refl _ _⟩
end
/-- The place of the first turn that has a dart. -/
def tix (rs : List (List Int)) (d : Int) : Int := if (rs.any fun t => decide (d ∈ t)) = true then (rs.findIdx fun t => decide (d ∈ t) : Int) else -1
theorem tix_some {rs : List (List Int)} {d : Int} {k : Nat} (hk : k < rs.length) (h : d ∈ rs.getD k []) (hn : ∀ j, j < k → d ∉ rs.getD j []) : tix rs d = k := by
  rw [getR_lt _ _ hk] at h
  unfold tix
  rw [if_pos (List.any_eq_true.2 ⟨_, List.getElem_mem hk, by simpa using h⟩)]
  congr 1
  refine (List.findIdx_eq hk).2 ⟨by simpa using h, fun j hj => ?_⟩
  have := hn j hj
  rw [getR_lt _ _ (by omega)] at this
  simpa using this
theorem tix_none {rs : List (List Int)} {d : Int} (hn : ∀ j, j < rs.length → d ∉ rs.getD j []) : tix rs d = -1 := by
  unfold tix
  rw [if_neg]
  intro h
  obtain ⟨t, ht, hp⟩ := List.any_eq_true.1 h
  obtain ⟨j, hj, rfl⟩ := List.getElem_of_mem ht
  have := hn j hj
  rw [getR_lt _ _ hj] at this
  exact this (by simpa using hp)
theorem tix_in {rs : List (List Int)} {d : Int} (h : ∃ t ∈ rs, d ∈ t) : ∃ k, k < rs.length ∧ tix rs d = (k : Int) ∧ d ∈ rs.getD k [] := by
  obtain ⟨t, ht, hd⟩ := h
  obtain ⟨j, hj, rfl⟩ := List.getElem_of_mem ht
  obtain ⟨k, hk, hmin⟩ := least (P := fun k => k < rs.length ∧ d ∈ rs.getD k []) ⟨hj, by rw [getR_lt _ _ hj]; exact hd⟩
  exact ⟨k, hk.1, tix_some hk.1 hk.2 fun i hi hd => hmin i hi ⟨by omega, hd⟩, hk.2⟩
theorem tix_out {rs : List (List Int)} {d : Int} (h : ∀ t ∈ rs, d ∉ t) : tix rs d = -1 := tix_none fun j hj => by rw [getR_lt _ _ hj]; exact h _ (List.getElem_mem _)

end Go.Proofs.YtlnefdmdabhobaaGreat.Aw

namespace Go.Proofs.YtlnefdmdabhobaaGreat.Aw
open Go Go.RowKit Go.Proofs.YtlnefdmdabhobaaGreat.Pl Go.Proofs.YtlnefdmdabhobaaGreat.Eu
set_option linter.unusedSimpArgs false
set_option linter.unusedVariables false

/-- A map that has what is behind each dart of some. -/
def BehI (m : Mp) (es : List (List Int × LV)) (S : List Int) : Prop := ∀ d, mget es [d] = if d ∈ S then some (u (sg m d)) else none
theorem BehI.step {m : Mp} {es : List (List Int × LV)} {S : List Int} (h : BehI m es S) {d x : Int} (hx : x = sg m d) : BehI m (mset es [d] (u x)) (S ++ [d]) := by
  intro e
  rw [mget_mset]
  by_cases he : e = d
  · subst he; rw [if_pos rfl, if_pos (by simp), hx]
  · rw [if_neg (by simpa using he), h e]
    simp [he]
theorem flat_snoc (rs : List (List Int)) (k : Nat) (hk : k < rs.length) : (rs.take (k + 1)).flatten = (rs.take k).flatten ++ rs.getD k [] := by
  rw [List.take_succ_eq_append_getElem hk, List.flatten_append, getR_lt _ _ hk]; simp

def BehP (m : Mp) (st : St) (r : LV) (st' : St) : Prop := ∃ q es, r = .mp q ∧ st.next ≤ q ∧ q < st'.next ∧ st'.H q = .map false [.u32] es ∧ Keeps st st' ∧ BehI m es m.rots.flatten
theorem behind (m : Mp) (h : MapOk m) (st : St) (hv : m.g.vs.length ≤ 1000) (he : m.g.es.length ≤ 1000) :
    ACalls Tryz.prog 99 [.ag (mpL m)] st (BehP m st) := by
  have hrl := h.len
  refine acalls_of_body tabOk Tryz.func99 rfl rfl Tryz.ntmps99 (rs := [.tmp 2]) rfl (by simp) ?_
  (repeat' (first | refine awp_seq ?_ | refine awp_block ?_ | (refine w_e [] ?_; intro J hJ; simp only []; simp []; (refine hJ _ _ ?_; clear hJ J; simp only [ak, reduceIte]))))
  refine awp_range 12 11 13 34 (m.rots.length) (fun j fr st2 => fr 3 = .mp (st.next + 1) ∧ fr 10 = .sl 0 m.rots.length (rowsL m.rots) ∧ Keeps st st2 ∧ st.next + 1 < st2.next ∧ ∃ es, st2.H (st.next + 1) = .map false [.u32] es ∧ BehI m es (m.rots.take j).flatten) ?_ ?_ ?_
  · exact ⟨by simp, by simp, (Keeps.new _ _).trans (Keeps.new _ _), by simp, [], by simp, fun d => rfl⟩
  · rintro j0 fr st2 hlt ⟨f3, f10, hkp, hlt2, es, hM, hB⟩ fi fn JJ hJJ
    have hd := rowsL_drop m.rots j0 hlt
    have hRl : j0 < (rowsL m.rots).length := by simpa using hlt
    have hfl := flat_snoc m.rots j0 hlt
    have htin : m.rots.getD j0 [] ∈ m.rots := by rw [getR_lt _ _ hlt]; exact List.getElem_mem _
    have htl := h.row_le htin
    have htn := h.nodup htin
    have hsg := fun d hd => @sg_at m h _ htin d hd
    generalize m.rots.getD j0 [] = t at *
    (repeat' (first | refine awp_seq ?_ | refine awp_block ?_ | (refine w_e [] ?_; intro J hJ; simp only []; simp [f10, fi, fn, hd, hRl]; (repeat refine ca ?_); (refine hJ _ _ ?_; clear hJ J; simp only [ak, reduceIte]))))
    refine awp_range 18 17 19 33 (t.length) (fun j fr st2 => fr 3 = .mp (st.next + 1) ∧ fr 10 = .sl 0 m.rots.length (rowsL m.rots) ∧ fr 5 = .sl 0 t.length (us t) ∧ fr 16 = .sl 0 t.length (us t) ∧ fr 12 = i j0 ∧ fr 11 = i m.rots.length ∧ Keeps st st2 ∧ st.next + 1 < st2.next ∧ ∃ es, st2.H (st.next + 1) = .map false [.u32] es ∧ BehI m es ((m.rots.take j0).flatten ++ t.take j)) ?_ ?_ ?_
    · exact ⟨by simp [f3], by simp [f10], by simp, by simp, by simp [fi], by simp [fn], hkp, hlt2, es, hM, by simpa using hB⟩
    · clear f3 f10 fi fn hkp hlt2 hM hB es fr st2
      rintro k fr st2 hk ⟨f3, f10, f5, f16, f12, f11, hkp, hlt2, es, hM, hB⟩ fi fn J2 hJ2
      have hd1 := us_drop_getD t k hk
      have hw := nat_add_one k (by omega)
      have htm : ((k : Int) + 1).tmod (t.length : Int) = (((k + 1) % t.length : Nat) : Int) := tmod_nat (k + 1) t.length _ rfl
      have hr : (k + 1) % t.length < t.length := Nat.mod_lt _ (by omega)
      have hd2 := us_drop_getD t _ hr
      have hx : t.getD ((k + 1) % t.length) 0 = sg m (t.getD k 0) := by
        rw [getD_lt _ _ hr, getD_lt _ _ hk, hsg _ (List.getElem_mem _), nx_get htn hk]
      have htk : t.take (k + 1) = t.take k ++ [t.getD k 0] := by rw [getD_lt _ _ hk]; exact List.take_succ_eq_append_getElem hk
      have hB2 := hB.step hx
      rw [List.append_assoc, ← htk] at hB2
      have ht0 : ¬ t.length = 0 := by omega
      generalize (k + 1) % t.length = r at *
      generalize t.getD k 0 = d at *
      generalize t.getD r 0 = x at *
      (repeat' (first | refine awp_seq ?_ | (refine w_e [] ?_; intro J hJ; simp only []; simp [f3, f5, f16, fi, fn, hd1, hw, htm, hd2, hM, hk, hr, ht0]; (refine hJ _ _ ?_; clear hJ J; simp only [ak, reduceIte]))))
      exact hJ2 _ _ (by simp [fi]) (by simp [fn]) ⟨by simp [f3], by simp [f10], by simp [f5], by simp [f16], by simp [f12], by simp [f11], hkp.set (by omega) _, by simpa using hlt2, _, by simp, hB2⟩
    · clear f3 f10 fi fn hkp hlt2 hM hB es fr st2
      rintro fr st2 ⟨f3, f10, f5, f16, f12, f11, hkp, hlt2, es, hM, hB⟩
      rw [List.take_length, ← hfl] at hB
      skip
      exact hJJ _ _ (by simp [f12]) (by simp [f11]) ⟨by simp [f3], by simp [f10], hkp, hlt2, es, hM, hB⟩
  · rintro fr st2 ⟨f3, f10, hkp, hlt2, es, hM, hB⟩
    (repeat' (first | refine awp_seq ?_ | (refine awp_ret ?_; simp only [ak, reduceIte]; simp [f3]) | (refine w_e [] ?_; intro J hJ; simp only []; simp [f3]; (refine hJ _ _ ?_; clear hJ J; simp only [ak, reduceIte]))))
    rw [List.take_length] at hB
    exact ⟨_, es, rfl, by omega, by omega, hM, hkp, hB⟩

end Go.Proofs.YtlnefdmdabhobaaGreat.Aw

namespace Go.Proofs.YtlnefdmdabhobaaGreat.Aw
open Go Go.RowKit Go.Proofs.YtlnefdmdabhobaaGreat.Pl Go.Proofs.YtlnefdmdabhobaaGreat.Eu
set_option linter.unusedSimpArgs false
set_option linter.unusedVariables false

theorem dart_range {m : Mp} (h : MapOk m) {d : Int} (hd : d ∈ darts m.g.es) : 2 ≤ d ∧ d ≤ 2097153 := by
  obtain ⟨x, hx, h1⟩ := mem_darts.1 hd
  have := h.g.pos x hx
  omega
theorem MapOk.cyc_le {m : Mp} (h : MapOk m) {d : Int} (hd : d ∈ darts m.g.es) {L : List Int} (hc : IsCyc (fc m m.g.es) d L) : (∀ x ∈ L, x ∈ darts m.g.es) ∧ L.length ≤ 2 * m.g.es.length := by
  have hdk : ∀ k, it (fc m m.g.es) k d ∈ darts m.g.es := by
    intro k
    induction k with
    | zero => exact hd
    | succ k ih => rw [it_succ]; exact h.fc_dart _ _ ih
  have hs : ∀ x ∈ L, x ∈ darts m.g.es := fun x hx => by
    obtain ⟨n, rfl⟩ := hc.mem.1 hx
    exact hdk n
  have := List.Nodup.length_le_of_subset (hc.nodup (h.fc_inj _)) (l₂ := darts m.g.es) hs
  rw [darts_length] at this
  exact ⟨hs, this⟩
def WalkP (m : Mp) (d : Int) (S : Int → Prop) (ms : Nat) (st : St) (r : LV) (st' : St) : Prop :=
  (∃ t L, r = .sl t L.length (us L) ∧ IsCyc (fc m m.g.es) d L) ∧ OffS ms st st' ∧ ∃ es, st'.H ms = .map false [.u32] es ∧ SeenI es (fun x => S x ∨ Orb (fc m m.g.es) d x)
/-- So far round. -/
def itL (f : Int → Int) (d : Int) (k : Nat) : List Int := (List.range k).map fun j => it f j d
theorem itL_succ (f : Int → Int) (d : Int) (k : Nat) : itL f d (k + 1) = itL f d k ++ [it f k d] := by unfold itL; rw [List.range_succ]; simp
@[simp] theorem itL_len (f : Int → Int) (d : Int) (k : Nat) : (itL f d k).length = k := by simp [itL]

theorem Walk (m : Mp) (h : MapOk m) (d : Int) (q5 q4 ms ma : Nat) (es5 es4 : List (List Int × LV)) (S : Int → Prop) (st : St) (he : m.g.es.length ≤ 1000) (hd : d ∈ darts m.g.es)
    (h5 : st.H q5 = .box 71 1 [.mp ms]) (h4 : st.H q4 = .box 119 1 [.mp ma]) (hms : st.H ms = .map false [.u32] es5) (hma : st.H ma = .map false [.u32] es4) (hlt : (q5 < st.next ∧ q4 < st.next) ∧ ms < st.next ∧ ma < st.next) (hmm : ms ≠ ma)
    (hSI : SeenI es5 S) (hB : BehI m es4 m.rots.flatten) (hS : ∀ x, Orb (fc m m.g.es) d x → ¬ S x) :
    ACalls Tryz.prog 100 [u d, .pt q5 0, .pt q4 0] st (WalkP m d S ms st) := by
  obtain ⟨⟨l5, l4⟩, ls, la⟩ := hlt
  have n1 : ¬ q5 = ms := by rintro rfl; rw [h5] at hms; cases hms
  have n2 : ¬ q4 = ms := by rintro rfl; rw [h4] at hms; cases hms
  have hmm' : ¬ ma = ms := fun e => hmm e.symm
  have hP := h.fc_per m.g.es (fun x hx => hx)
  obtain ⟨L, p, hp, hL, hp1, hp2⟩ := isCyc_ex hP d
  have hcyc : IsCyc (fc m m.g.es) d L := ⟨p, hp, hL, hp1, hp2⟩
  have hL' : L = itL (fc m m.g.es) d p := hL
  have hdk : ∀ k, it (fc m m.g.es) k d ∈ darts m.g.es := by
    intro k
    induction k with
    | zero => exact hd
    | succ k ih => rw [it_succ]; exact h.fc_dart _ _ ih
  have hpl : p ≤ 2 * m.g.es.length := by
    have := (h.cyc_le hd hcyc).2
    rwa [hL', itL_len] at this
  refine acalls_of_body tabOk Tryz.func100 rfl rfl Tryz.ntmps100 (rs := [.tmp 4]) rfl (by simp) ?_
  (repeat' (first | refine awp_seq ?_ | refine awp_block ?_ | (refine w_e [] ?_; intro J hJ; simp only []; simp []; (refine hJ _ _ ?_; clear hJ J; simp only [ak, reduceIte]))))
  refine awp_posG fun hpos => ?_
  refine awp_own 5 48 1 (by simp) ?_
  generalize hf : fc m m.g.es = f at *
  refine awp_loop (fun n fr st2 => ∃ k : Nat, k ≤ p ∧ n = p - k ∧ fr 0 = u (it f k d) ∧ fr 1 = .pt q5 0 ∧ fr 2 = .pt q4 0 ∧ ∃ t es, fr 5 = .sl t k (us (itL f d k)) ∧ (t ≠ 0 ∧ st.next ≤ t ∧ t < st2.next) ∧ st2.H t = .own 48 1 k ∧ OffS ms st st2 ∧ st2.H ms = .map false [.u32] es ∧ SeenI es (fun x => S x ∨ ∃ i, i < k ∧ x = it f i d)) p ?_ ?_
  · exact ⟨0, by omega, by omega, by simp [it], by simp, by simp, st.next, es5, by simp [itL], ⟨by omega, by omega, by simp⟩, by simp, (OffS.refl ms st).keeps (Keeps.new _ _), by simp [show ¬ ms = st.next by omega, hms], hSI.congr fun v => ⟨fun h => h.elim id fun ⟨_, h, _⟩ => by omega, .inl⟩⟩
  rintro n fr st2 ⟨k, hk, rfl, f0, f1, f2, t, es, f5, ⟨ht0, htl, htn⟩, htH, hoff, hM, hSk⟩ JJ hJJ
  have hn2 := hoff.1
  have h5' := (hoff.2 q5 n1 l5).trans h5
  have h4' := (hoff.2 q4 n2 l4).trans h4
  have ha' := (hoff.2 ma hmm' la).trans hma
  by_cases hkp : k < p
  rotate_left
  · clear hJJ
    obtain rfl : k = p := by omega
    have hs1 := (hSk (it f k d)).1 (.inr ⟨0, hp, by rw [hp1]; rfl⟩)
    (repeat' (first | refine awp_seq ?_ | (refine awp_exit ?_; simp only [ak, reduceIte]) | (refine awp_ret ?_; simp only [ak, reduceIte]; simp [f0, f1, h5', hM, hs1, f5]) | (refine awp_cond ?_; simp [f0, f1, h5', hM, hs1, f5]) | (refine w_e [] ?_; intro J hJ; simp only []; simp [f0, f1, h5', hM, hs1, f5]; (refine hJ _ _ ?_; clear hJ J; simp only [ak, reduceIte]))))
    refine ⟨⟨t, L, by rw [hL']; simp, ?_⟩, hoff, es, hM, hSk.congr fun v => ?_⟩
    · rw [hf]; exact hcyc
    · rw [hf]
      refine or_congr Iff.rfl ?_
      rw [← hcyc.mem, hL]
      simp only [List.mem_map, List.mem_range]
      exact ⟨fun ⟨a, b, c⟩ => ⟨a, b, c.symm⟩, fun ⟨a, b, c⟩ => ⟨a, b, c.symm⟩⟩
  have hs0 : ¬ (S (it f k d) ∨ ∃ i, i < k ∧ it f k d = it f i d) := by
    rintro (h1 | ⟨j, h1, h2⟩)
    · exact hS _ ⟨k, rfl⟩ h1
    · have e : k = j + (k - j) := by omega
      rw [e, it_add] at h2
      exact hp2 (k - j) (by omega) (by omega) (it_inj (fun x y => by rw [← hf]; exact h.fc_inj _ x y) j h2)
  have hs1 := (hSk (it f k d)).2 hs0
  have hSn := hSk.step (P' := fun x => S x ∨ ∃ i, i < k + 1 ∧ x = it f i d) (it f k d) fun v => by
    constructor
    · rintro (h1 | ⟨j, h1, h2⟩)
      · exact .inl (.inl h1)
      · rcases Nat.lt_or_ge j k with h3 | h3
        · exact .inl (.inr ⟨j, h3, h2⟩)
        · obtain rfl : j = k := by omega
          exact .inr h2
    · rintro ((h1 | ⟨j, h1, h2⟩) | h1)
      · exact .inl h1
      · exact .inr ⟨j, by omega, h2⟩
      · exact .inr ⟨k, by omega, h1⟩
  have hxd := hdk k
  have hx1 := dart_range h hxd
  have hxl : (mget es4 [tw (it f k d)]).getD (u 0) = u (it f (k + 1) d) := by
    rw [hB, if_pos (by rw [← (h.flat_perm).mem_iff]; exact tw_dart.2 hxd), it_succ, ← hf]
    simp only [Option.getD_some, fc]
    rw [al_in (by rw [hf]; exact hxd), hf]
  have hLn := itL_succ f d k
  have hLl := itL_len f d k
  generalize itL f d k = Lk at *
  generalize hxe : it f k d = x at *
  generalize hye : it f (k + 1) d = y at *
  have t1 : ¬ t = ms := by rintro rfl; rw [hM] at htH; cases htH
  have t2 : ¬ t = st2.next := by omega
  have t3 : ¬ ms = st2.next := by omega
  have t4 : ¬ ms = st2.next + 1 := by omega
  have t5 : ¬ q4 = st2.next := by omega
  have t6 : ¬ q4 = st2.next + 1 := by omega
  have t7 : ¬ ma = st2.next := by omega
  have t8 : ¬ ma = st2.next + 1 := by omega
  have t9 : ¬ q4 = t := by rintro rfl; rw [h4'] at htH; cases htH
  have t10 : ¬ ma = t := by rintro rfl; rw [ha'] at htH; cases htH
  have t11 : ¬ ms = t := fun e => t1 e.symm
  (repeat' (first | refine awp_seq ?_ | refine awp_block ?_ | (refine awp_skip ?_; simp only [ak, reduceIte]) | (refine awp_cond ?_; simp [f0, f1, f2, f5, h5', hM, hs1, n1, n2, htH, ht0, t1, t2, t3, t4, hLl]) | (refine w_e [] ?_; intro J hJ; simp only []; simp [f0, f1, f2, f5, h5', hM, hs1, n1, n2, htH, ht0, t1, t2, t3, t4, hLl]; (repeat refine ca ?_); (refine hJ _ _ ?_; clear hJ J; simp only [ak, reduceIte]))))
  (refine w_s [] [q4, ma] [(0, true), (1, true), (2, true), (3, true), (4, true)] ?_; intro J hJ; simp [f2, f0, h4', ha', t5, t6, t7, t8, t9, t10, n2, hmm'])
  refine dcallK_ofE (Twin x _ (by omega) (by omega)) (by simp) ?_; rintro r s3 ⟨rfl, rfl⟩
  refine ⟨fun _ => by simp [h4', ha', t5, t6, t7, t8, t9, t10, n2, hmm'], ?_⟩
  (refine d_go ?_; simp [f2, f0, h4', ha', t5, t6, t7, t8, t9, t10, n2, hmm', hxl]; (refine hJ _ _ ?_; clear hJ J; simp only [ak, reduceIte]))
  skip
  refine hJJ (p - (k + 1)) _ _ (by omega) ⟨k + 1, by omega, rfl, by simp [hye], by simp [f1], by simp [f2], st2.next + 1, _, by simp [hLn], ⟨by omega, by omega, by simp⟩, by simp, ?_, by simp [t11, t3, t4], hSn⟩
  exact (((hoff.set _).keeps (Keeps.new _ _)).set' htl _).keeps (Keeps.new _ _)

end Go.Proofs.YtlnefdmdabhobaaGreat.Aw

namespace Go.Proofs.YtlnefdmdabhobaaGreat.Aw
open Go Go.RowKit Go.Proofs.YtlnefdmdabhobaaGreat.Pl Go.Proofs.YtlnefdmdabhobaaGreat.Eu
set_option linter.unusedSimpArgs false
set_option linter.unusedVariables false

theorem ref_Turn (m : Mp) (d : Int) (st : St) (hr : m.rots.length ≤ 1000) (hs : ∀ t ∈ m.rots, small t) :
    ACalls Tryz.prog 113 [.ag (mpL m), u d] st fun r st' => r = i (tix m.rots d) ∧ Keeps st st' := by
  refine acalls_of_body tabOk Tryz.func113 rfl rfl Tryz.ntmps113 (rs := [.tmp 4]) rfl (by simp) ?_
  (repeat' (first | refine awp_seq ?_ | refine awp_block ?_ | (refine w_e [] ?_; intro J hJ; simp only []; simp []; (refine hJ _ _ ?_; clear hJ J; simp only [ak, reduceIte]))))
  refine awp_range 9 8 10 21 (m.rots.length) (fun j fr st2 => fr 1 = u d ∧ fr 2 = .pt st.next 0 ∧ st2.H st.next = .box 28 3 (mpL m) ∧ Keeps st st2 ∧ ∀ k, k < j → d ∉ m.rots.getD k []) ?_ ?_ ?_
  · exact ⟨by simp, by simp, by simp, Keeps.new _ _, fun k hk => by omega⟩
  · rintro j fr st2 hlt ⟨f1, f2, hG, hkp, hno⟩ fi fn JJ hJJ
    have hd := rowsL_drop m.rots j hlt
    have hRl : j < (rowsL m.rots).length := by simpa using hlt
    have htin : m.rots.getD j [] ∈ m.rots := by rw [getR_lt _ _ hlt]; exact List.getElem_mem _
    have hsm := hs _ htin
    have hso := fun h => tix_some (d := d) hlt h hno
    have hnn : d ∉ m.rots.getD j [] → ∀ k, k < j + 1 → d ∉ m.rots.getD k [] := fun h k hk => by
      rcases Nat.lt_or_ge k j with h1 | h1
      · exact hno k h1
      · obtain rfl : k = j := by omega
        exact h
    generalize m.rots.getD j [] = t at *
    (repeat' (first | refine awp_seq ?_ | (refine w_e [] ?_; intro J hJ; simp only []; simp [f1, f2, hG, fi, fn, hd, hRl, hlt]; (try (refine hJ _ _ ?_; clear hJ J; simp only [ak, reduceIte])))))
    refine callK_ofE (Find t 0 d _ hsm) (by simp) ?_; rintro r s3 ⟨rfl, rfl⟩
    by_cases hdt : d ∈ t
    · have hr := hso hdt
      have hg := gi_mem hdt
      (repeat' (first | refine awp_seq ?_ | (refine awp_ret ?_; simp only [ak, reduceIte]; simp [hg, hr]) | (refine awp_cond ?_; simp [hg, hr]) | ((first | (refine w_e [] ?_; intro J hJ; simp only []) | (refine e_go ?_)); simp [hg, hr]; (refine hJ _ _ ?_; clear hJ J; simp only [ak, reduceIte]))))
      exact hkp
    · have hg := gi_not hdt
      (repeat' (first | (refine awp_skip ?_; simp only [ak, reduceIte]) | (refine awp_cond ?_; simp [hg]) | (refine e_go ?_; simp [hg]; (refine hJ _ _ ?_; clear hJ J; simp only [ak, reduceIte]))))
      exact hJJ _ _ (by simp [fi]) (by simp [fn]) ⟨by simp [f1], by simp [f2], hG, hkp, hnn hdt⟩
  · rintro fr st2 ⟨f1, f2, hG, hkp, hno⟩
    have hr := tix_none hno
    (repeat' (first | refine awp_seq ?_ | (refine awp_ret ?_; simp only [ak, reduceIte]; simp [hr]) | (refine w_e [] ?_; intro J hJ; simp only []; simp [hr]; (refine hJ _ _ ?_; clear hJ J; simp only [ak, reduceIte]))))
    exact hkp

theorem ref_twin (d : Int) (st : St) (h0 : 0 ≤ d) (h1 : d < 4294967295) : ACalls Tryz.prog 141 [u d] st fun r st' => r = u (tw d) ∧ st' = st := by
  have hm : d.tmod 2 = d % 2 := Int.tmod_eq_emod_of_nonneg h0
  by_cases hp : d % 2 = 0
  · have ht : tw d = d + 1 := by unfold tw; rw [if_pos hp]
    have hw : IntKind.u32.wrap (d + 1) = d + 1 := wrap_u32' _ (by omega) (by omega)
    refine acalls_of_body tabOk Tryz.func141 rfl rfl Tryz.ntmps141 (rs := [.tmp 2]) rfl (by simp) ?_
    (repeat' (first | refine awp_seq ?_ | (refine awp_ret ?_; simp only [ak, reduceIte]; simp [hm, hp, ht, hw]) | (refine awp_cond ?_; simp [hm, hp, ht, hw]) | (refine w_e [] ?_; intro J hJ; simp only []; simp [hm, hp, ht, hw]; (refine hJ _ _ ?_; clear hJ J; simp only [ak, reduceIte]))))
  · have ht : tw d = d - 1 := by unfold tw; rw [if_neg hp]
    have hw : IntKind.u32.wrap (d - 1) = d - 1 := wrap_u32' _ (by omega) (by omega)
    refine acalls_of_body tabOk Tryz.func141 rfl rfl Tryz.ntmps141 (rs := [.tmp 2]) rfl (by simp) ?_
    (repeat' (first | refine awp_seq ?_ | (refine awp_skip ?_; simp only [ak, reduceIte]) | (refine awp_ret ?_; simp only [ak, reduceIte]; simp [hm, hp, ht, hw]) | (refine awp_cond ?_; simp [hm, hp, ht, hw]) | (refine w_e [] ?_; intro J hJ; simp only []; simp [hm, hp, ht, hw]; (refine hJ _ _ ?_; clear hJ J; simp only [ak, reduceIte]))))

end Go.Proofs.YtlnefdmdabhobaaGreat.Aw

namespace Go.Proofs.YtlnefdmdabhobaaGreat.Aw
open Go Go.RowKit Go.Proofs.YtlnefdmdabhobaaGreat.Pl Go.Proofs.YtlnefdmdabhobaaGreat.Eu
set_option linter.unusedSimpArgs false
set_option linter.unusedVariables false

/-- The darts of the face of one, told normally. -/
def IsFace (m : Mp) (d : Int) (c : List Int) : Prop := (d ∈ darts m.g.es ∧ ∃ L, IsCyc (fc m m.g.es) d L ∧ c = nrm L) ∨ (d ∉ darts m.g.es ∧ c = [])
def FaceP (m : Mp) (d : Int) (st : St) (r : LV) (st' : St) : Prop := (∃ c, r = .sl 0 c.length (us c) ∧ IsFace m d c) ∧ Keeps st st'

theorem ref_Face (m : Mp) (h : MapOk m) (d : Int) (st : St) (hv : m.g.vs.length ≤ 1000) (he : m.g.es.length ≤ 1000) :
    ACalls Tryz.prog 79 [.ag (mpL m), u d] st (FaceP m d st) := by
  have hsm : ∀ t ∈ m.rots, small t := fun t ht => by have := h.row_le ht; unfold small; omega
  have hrl := h.len
  refine acalls_norm ?_
  by_cases hd : d ∈ darts m.g.es
  rotate_left
  · have ht := tix_out (rs := m.rots) fun t ht hdt => hd (h.turn_dart ht hdt)
    refine acalls_of_body tabOk Tryz.func79 rfl rfl Tryz.ntmps79 (rs := [.tmp 4]) rfl (by simp) ?_
    (repeat' (first | refine awp_seq ?_ | (refine w_e [] ?_; intro J hJ; simp only []; simp []; (try (refine hJ _ _ ?_; clear hJ J; simp only [ak, reduceIte])))))
    refine callK_ofE (ref_Turn m d _ (by omega) hsm) (by simp) ?_; rintro r s1 ⟨rfl, hk1⟩
    (repeat' (first | refine awp_seq ?_ | (refine awp_ret ?_; simp only [ak, reduceIte]; simp [ht]) | (refine awp_cond ?_; simp [ht]) | ((first | (refine w_e [] ?_; intro J hJ; simp only []) | (refine e_go ?_)); simp [ht]; (refine hJ _ _ ?_; clear hJ J; simp only [ak, reduceIte]))))
    exact ⟨⟨[], rfl, .inr ⟨hd, rfl⟩⟩, (Keeps.new _ _).trans hk1⟩
  have hP := h.fc_per m.g.es (fun x hx => hx)
  obtain ⟨L, p, hp, hL, hp1, hp2⟩ := isCyc_ex hP d
  have hcyc : IsCyc (fc m m.g.es) d L := ⟨p, hp, hL, hp1, hp2⟩
  have hL' : L = itL (fc m m.g.es) d p := hL
  have hdk : ∀ k, it (fc m m.g.es) k d ∈ darts m.g.es := by
    intro k
    induction k with
    | zero => exact hd
    | succ k ih => rw [it_succ]; exact h.fc_dart _ _ ih
  have hpl : p ≤ 2 * m.g.es.length := by
    have := (h.cyc_le hd hcyc).2
    rwa [hL', itL_len] at this
  obtain ⟨k0, hk0, ht0, _⟩ := tix_in (h.turn_of hd)
  have hfx : ∀ x, x ∈ darts m.g.es → fc m m.g.es x = sg m (tw x) := fun x hx => by unfold fc; rw [al_in hx]
  refine acalls_of_body tabOk Tryz.func79 rfl rfl Tryz.ntmps79 (rs := [.tmp 4]) rfl (by simp) ?_
  (repeat' (first | refine awp_seq ?_ | (refine w_e [] ?_; intro J hJ; simp only []; simp []; (try (refine hJ _ _ ?_; clear hJ J; simp only [ak, reduceIte])))))
  refine callK_ofE (ref_Turn m d _ (by omega) hsm) (by simp) ?_; rintro r s1 ⟨rfl, hk1⟩
  have hn1 := hk1.next
  simp only [new_next] at hn1
  have hG1 : s1.H st.next = .box 28 3 (mpL m) := by rw [hk1.H _ (by simp)]; simp
  (repeat' (first | refine awp_seq ?_ | refine awp_block ?_ | (refine awp_skip ?_; simp only [ak, reduceIte]) | (refine awp_cond ?_; simp [ht0]; (try with_reducible refine ⟨?_, ?_⟩) <;> (try with_reducible intro hc) <;> try (exfalso; omega)) | ((first | (refine w_e [] ?_; intro J hJ; simp only []) | (refine e_go ?_)); simp [ht0]; (refine hJ _ _ ?_; clear hJ J; simp only [ak, reduceIte]))))
  refine awp_posG fun hpos => ?_
  refine awp_own 5 48 1 (by simp) ?_
  generalize hf : fc m m.g.es = f at *
  refine awp_loop (fun n fr st2 => ∃ k : Nat, k < p ∧ n = p - k ∧ fr 1 = u d ∧ fr 2 = .pt st.next 0 ∧ fr 6 = u (it f k d) ∧ st2.H st.next = .box 28 3 (mpL m) ∧ ∃ t, fr 5 = .sl t k (us (itL f d k)) ∧ (t ≠ 0 ∧ st.next < t ∧ t < st2.next) ∧ st2.H t = .own 48 1 k ∧ Keeps st st2) p ?_ ?_
  · exact ⟨0, by omega, by omega, by simp, by simp, by simp [it], by simp [show ¬ st.next = s1.next by omega, hG1], s1.next, by simp [itL], ⟨by omega, by omega, by simp⟩, by simp, ((Keeps.new _ _).trans hk1).trans (Keeps.new _ _)⟩
  rintro n fr st2 ⟨k, hk, rfl, f1, f2, f6, hG, t, f5, ⟨t0, t1, t2⟩, htH, hkp⟩ JJ hJJ
  have hn2 := hkp.next
  have hxd := hdk k
  have hx1 := dart_range h hxd
  obtain ⟨kt, hkt, htx, hmem⟩ := tix_in (h.turn_of (tw_dart.2 hxd))
  have hdr := rowsL_drop m.rots kt hkt
  have hRl : kt < (rowsL m.rots).length := by simpa using hkt
  have htin : m.rots.getD kt [] ∈ m.rots := by rw [getR_lt _ _ hkt]; exact List.getElem_mem _
  have hsmt := hsm _ htin
  have hnx : nx (m.rots.getD kt []) (tw (it f k d)) = it f (k + 1) d := by rw [it_succ, hfx _ hxd, sg_at h htin hmem]
  have hLn := itL_succ f d k
  have hLl := itL_len f d k
  have hstop : it f (k + 1) d = d → k + 1 = p := fun e => by
    rcases Nat.lt_or_ge (k + 1) p with h1 | h1
    · exact absurd e (hp2 _ (by omega) h1)
    · omega
  have hgo : ¬ it f (k + 1) d = d → k + 1 < p := fun e => by
    rcases Nat.lt_or_ge (k + 1) p with h1 | h1
    · exact h1
    · exact absurd (by rw [show k + 1 = p by omega]; exact hp1) e
  generalize itL f d k = Lk at *
  generalize m.rots.getD kt [] = tt at *
  generalize hxe : it f k d = x at *
  generalize hye : it f (k + 1) d = y at *
  have m1 : ¬ t = st2.next := by omega
  have m2 : ¬ st.next = st2.next := by omega
  have m3 : ¬ st.next = st2.next + 1 := by omega
  have m4 : ¬ st.next = t := by omega
  (repeat' (first | refine awp_seq ?_ | refine awp_block ?_ | (refine w_e [] ?_; intro J hJ; simp only []; simp [f1, f2, f5, f6, htH, t0, m1, hLl]; (repeat refine ca ?_); (try (refine hJ _ _ ?_; clear hJ J; simp only [ak, reduceIte])))))
  refine callK_ofE (ref_twin x _ (by omega) (by omega)) (by simp) ?_; rintro r s3 ⟨rfl, rfl⟩
  (repeat' (first | refine awp_seq ?_ | (refine e_go ?_; simp []; (refine hJ _ _ ?_; clear hJ J; simp only [ak, reduceIte]))))
  (refine w_s [] [st.next] [(0, true), (1, true), (2, true), (3, true), (7, true), (4, true), (5, true), (6, true), (8, true), (9, true)] ?_; intro J hJ; simp [f2, hG, m2, m3, m4])
  refine dcallK_ofE (ref_Turn m (tw x) _ (by omega) hsm) (by simp) ?_; rintro r s4 ⟨rfl, hk4⟩
  have hn4 := hk4.next
  have hG4 := hk4.H st.next (by simp; omega)
  simp [m2, m3, m4, hG] at hG4
  refine ⟨fun _ => by simp [m2, m3, m4, hG, hG4], ?_⟩
  rw [htx]
  (refine d_go ?_; simp [f2, hG4, hdr, hkt, hRl, m2, m3, m4, hG])
  refine dcallK_ofE (ref_Next tt 0 (tw x) _ hsmt) rfl ?_; rintro r s5 ⟨rfl, rfl⟩
  rw [hnx]
  refine ⟨fun _ => by simp [m2, m3, m4, hG, hG4], ?_⟩
  (refine d_go ?_; simp [hG4, m2, m3, m4, hG]; (refine hJ _ _ ?_; clear hJ J; simp only [ak, reduceIte]))
  have hkp4 : Keeps st s5 := (((hkp.trans (Keeps.new _ _)).set (by omega) _).trans (Keeps.new _ _)).trans hk4
  have htH4 := hk4.H (st2.next + 1) (by simp)
  simp at htH4 hn4
  by_cases hyd : y = d
  · have hkp1 := hstop hyd
    (repeat' (first | refine awp_seq ?_ | (refine awp_cond ?_; simp [hyd, f1]) | (refine w_e [] ?_; intro J hJ; simp only []; simp [hyd, f1]; (try (refine hJ _ _ ?_; clear hJ J; simp only [ak, reduceIte])))))
    refine callK_ofE (ref_Normal L (st2.next + 1) _ (by rw [hL', small, itL_len]; omega)) ?_ ?_
    · rw [hL', ← hkp1, hLn]
      simp [hLl]
    rintro r s6 ⟨rfl, hk6⟩
    (repeat' (first | (refine awp_ret ?_; simp only [ak, reduceIte]; simp []) | (refine e_go ?_; simp []; (refine hJ _ _ ?_; clear hJ J; simp only [ak, reduceIte]))))
    exact ⟨⟨nrm L, by rw [nrm_length], .inl ⟨hd, L, by rw [hf]; exact hcyc, rfl⟩⟩, hkp4.trans hk6⟩
  · have hkp1 := hgo hyd
    (repeat' (first | refine awp_seq ?_ | (refine awp_skip ?_; simp only [ak, reduceIte]) | (refine awp_cond ?_; simp [hyd, f1]) | (refine w_e [] ?_; intro J hJ; simp only []; simp [hyd, f1]; (refine hJ _ _ ?_; clear hJ J; simp only [ak, reduceIte]))))
    refine hJJ (p - (k + 1)) _ _ (by omega) ⟨k + 1, hkp1, rfl, by simp [f1], by simp [f2], by simp [hye], hG4, st2.next + 1, by simp [hLn], ⟨by omega, by omega, by omega⟩, htH4, hkp4⟩

end Go.Proofs.YtlnefdmdabhobaaGreat.Aw

namespace Go.Proofs.YtlnefdmdabhobaaGreat.Aw
open Go Go.RowKit Go.Proofs.YtlnefdmdabhobaaGreat.Pl Go.Proofs.YtlnefdmdabhobaaGreat.Eu
set_option linter.unusedSimpArgs false
set_option linter.unusedVariables false

def FacesP (m : Mp) (st : St) (r : LV) (st' : St) : Prop := (∃ t R, r = .sl t R.length (rowsL3 R) ∧ Lead (fc m m.g.es) (darts m.g.es) (darts m.g.es).length R) ∧ Keeps st st'
structure FcI (m : Mp) (q4 q5 ms ma : Nat) (es4 : List (List Int × LV)) (st : St) (K : Nat) (fr : Frm) (st2 : St) : Prop where
  f5 : fr 5 = .pt q5 0
  f6 : fr 6 = .fn (.func 100) [.pt q5 0, .pt q4 0]
  h5 : st2.H q5 = .box 71 1 [.mp ms]
  h4 : st2.H q4 = .box 119 1 [.mp ma]
  ha : st2.H ma = .map false [.u32] es4
  hs : ∃ es, st2.H ms = .map false [.u32] es ∧ SeenI es (SeenD (fc m m.g.es) (darts m.g.es) K)
  kp : Keeps st st2
  lt : (q5 < st2.next ∧ q4 < st2.next) ∧ ms < st2.next ∧ ma < st2.next
  lo : (st.next ≤ q5 ∧ st.next ≤ q4) ∧ st.next ≤ ms ∧ st.next ≤ ma
  rows : ∃ t R, fr 3 = .sl t R.length (rowsL3 R) ∧ Lead (fc m m.g.es) (darts m.g.es) K R ∧ (t ≠ 0 ∧ st.next ≤ t ∧ t < st2.next) ∧ st2.H t = .own 22 1 R.length
theorem FcI.fr {m : Mp} {q4 q5 ms ma : Nat} {es4 : List (List Int × LV)} {st : St} {K : Nat} {fr fr' : Frm} {st2 st3 : St} (h : FcI m q4 q5 ms ma es4 st K fr st2) (h3 : fr' 3 = fr 3) (h5 : fr' 5 = fr 5) (h6 : fr' 6 = fr 6) (hk : Keeps st2 st3) : FcI m q4 q5 ms ma es4 st K fr' st3 := by
  obtain ⟨f5, f6, a5, a4, aa, ⟨es, as1, as2⟩, kp, ⟨⟨l1, l2⟩, l3, l4⟩, lo, t, R, f3, hL, ⟨t0, t1, t2⟩, hH⟩ := h
  have := hk.next
  exact ⟨h5.trans f5, h6.trans f6, (hk.H _ l1).trans a5, (hk.H _ l2).trans a4, (hk.H _ l4).trans aa, ⟨es, (hk.H _ l3).trans as1, as2⟩, kp.trans hk, ⟨⟨by omega, by omega⟩, by omega, by omega⟩, lo, t, R, h3.trans f3, hL, ⟨t0, t1, by omega⟩, (hk.H _ t2).trans hH⟩

theorem Faces (m : Mp) (h : MapOk m) (st : St) (hv : m.g.vs.length ≤ 1000) (he : m.g.es.length ≤ 1000) :
    ACalls Tryz.prog 40 [.ag (mpL m)] st (FacesP m st) := by
  have hel := eds_length m.g.es
  have hdl := darts_length m.g.es
  have hP := h.fc_per m.g.es (fun x hx => hx)
  refine acalls_of_body tabOk Tryz.func40 rfl rfl Tryz.ntmps40 (rs := [.tmp 2]) rfl (by simp) ?_
  (repeat' (first | refine awp_seq ?_ | (refine w_e [] ?_; intro J hJ; simp only []; simp []; (try (refine hJ _ _ ?_; clear hJ J; simp only [ak, reduceIte])))))
  refine callK_ofE (behind m h _ hv he) (by simp) ?_; rintro r s1 ⟨ma, es4, rfl, hm1, hm2, hMa, hk1, hB⟩
  have hn1 := hk1.next
  simp only [new_next] at hn1 hm1
  have hG1 : s1.H st.next = .box 28 3 (mpL m) := by rw [hk1.H _ (by simp)]; simp
  have a1 : ¬ st.next = s1.next := by omega
  have a2 : ¬ st.next = s1.next + 1 := by omega
  have a3 : ¬ st.next = s1.next + 1 + 1 := by omega
  have a4 : ¬ ma = s1.next := by omega
  have a5 : ¬ ma = s1.next + 1 := by omega
  have a6 : ¬ ma = s1.next + 1 + 1 := by omega
  have a7 : ¬ ma = s1.next + 1 + 1 + 1 := by omega
  (repeat' (first | refine awp_seq ?_ | refine awp_block ?_ | ((first | (refine w_e [] ?_; intro J hJ; simp only []) | (refine e_go ?_)); simp [hG1, a1, a2, a3]; (refine hJ _ _ ?_; clear hJ J; simp only [ak, reduceIte]))))
  refine awp_posG fun hpos => ?_
  refine awp_own 3 22 1 (by simp) ?_
  refine awp_range 19 18 20 42 (m.g.es.length) (fun j fr st2 => fr 17 = .sl 0 m.g.es.length (eds m.g.es) ∧ FcI m s1.next (s1.next + 1 + 1) (s1.next + 1) ma es4 st (2 * j) fr st2) ?_ ?_ ?_
  · refine ⟨by simp, by simp, by simp, by simp, by simp, by simp [a4, a5, a6, a7, hMa], ⟨[], by simp, fun v => ⟨?_, fun _ => rfl⟩⟩, ?_, by simp; omega, by omega, s1.next + 1 + 1 + 1, [], by simp, .zero, ⟨by omega, by omega, by simp⟩, by simp⟩
    · rintro ⟨y, hy, _⟩; simp at hy
    · (repeat (first | exact Keeps.refl _ | exact (Keeps.new _ _).trans hk1 | (refine Keeps.trans ?_ (Keeps.new _ _)) | (refine Keeps.set ?_ (by omega) _)))
  · rintro j0 fr st2' hlt ⟨f17, hI⟩ fi fn JJ hJJ
    have hd := eds_drop m.g.es j0 hlt
    have hk3 : j0 * 3 < m.g.es.length * 3 := by omega
    have hxin : m.g.es.getD j0 ed0 ∈ m.g.es := by rw [getE_lt _ _ hlt]; exact List.getElem_mem _
    have hpos := h.g.pos _ hxin
    have hg := darts_get m.g.es j0 hlt
    generalize hx : m.g.es.getD j0 ed0 = x at *
    obtain ⟨id, a, b⟩ := x
    simp only at hpos hd hg
    (repeat' (first | refine awp_seq ?_ | refine awp_block ?_ | (refine w_e [] ?_; intro J hJ; simp only []; simp [fi, fn, f17, hd, hel, hk3]; (repeat refine ca ?_); (refine hJ _ _ ?_; clear hJ J; simp only [ak, reduceIte]))))
    refine awp_rangeC 23 24 41 2 (fun j fr st2 => fr 17 = .sl 0 m.g.es.length (eds m.g.es) ∧ fr 19 = i j0 ∧ fr 18 = i m.g.es.length ∧ fr 8 = .pt st2'.next 0 ∧ st2.H st2'.next = .box 50 3 (edL ⟨id, a, b⟩) ∧ st2'.next < st2.next ∧ FcI m s1.next (s1.next + 1 + 1) (s1.next + 1) ma es4 st (2 * j0 + j) fr st2) ?_ ?_ ?_
    · exact ⟨by simp [f17], by simp [fi], by simp [fn], by simp, by simp, by simp, hI.fr (by simp) (by simp) (by simp) (Keeps.new _ _)⟩
    · clear f17 fi fn hI fr
      rintro e fr st2 hle ⟨f17, f19, f18, f8, hX, hXl, hI⟩ fi J2 hJ2
      have hK : 2 * j0 + e < (darts m.g.es).length := by omega
      have hKd : (darts m.g.es).getD (2 * j0 + e) 0 = 2 * id + e := by
        rcases Nat.lt_or_ge e 1 with h1 | h1
        · obtain rfl : e = 0 := by omega
          rw [Nat.add_zero, hg.1]; omega
        · obtain rfl : e = 1 := by omega
          rw [hg.2]; rfl
      have hdin : 2 * id + (e : Int) ∈ darts m.g.es := by rw [← hKd, getD_lt _ _ hK]; exact List.getElem_mem _
      obtain ⟨f5, f6, h5, h4, ha, ⟨es, hM, hSI⟩, hkp, hlt5, hlo5, t, R, f3, hL, ⟨t0, t1, t2⟩, hH⟩ := hI
      (repeat' (first | refine awp_seq ?_ | (refine w_e [] ?_; intro J hJ; simp only []; simp [f8, hX, fi]; (try (refine hJ _ _ ?_; clear hJ J; simp only [ak, reduceIte])))))
      refine callK_ofE (dOf id e _ (by omega) (by omega) (by omega)) (by simp) ?_; rintro r s3 ⟨rfl, rfl⟩
      by_cases hs : SeenD (fc m m.g.es) (darts m.g.es) (2 * j0 + e) (2 * id + e)
      · have hg1 := (hSI _).1 hs
        have hs' := hs
        rw [← hKd] at hs'
        (repeat' (first | refine awp_seq ?_ | (refine awp_skip ?_; simp only [ak, reduceIte]) | (refine awp_cond ?_; simp [f5, h5, hM, hg1]) | ((first | (refine w_e [] ?_; intro J hJ; simp only []) | (refine e_go ?_)); simp [f5, h5, hM, hg1]; (refine hJ _ _ ?_; clear hJ J; simp only [ak, reduceIte]))))
        refine hJ2 _ _ (by simp [fi]) ⟨by simp [f17], by simp [f19], by simp [f18], by simp [f8], hX, hXl, by simp [f5], by simp [f6], h5, h4, ha, ⟨es, hM, hSI.congr fun v => seenD_same hK hs'⟩, hkp, hlt5, hlo5, t, R, by simp [f3], .seen hL hK hs', ⟨t0, t1, t2⟩, hH⟩
      · have hg1 := (hSI _).2 hs
        have hs' := hs
        rw [← hKd] at hs'
        (repeat' (first | refine awp_seq ?_ | (refine awp_cond ?_; simp [f5, h5, hM, hg1, f6, f3]) | ((first | (refine w_e [] ?_; intro J hJ; simp only []) | (refine e_go ?_)); simp [f5, h5, hM, hg1, f6, f3]; (try (refine hJ _ _ ?_; clear hJ J; simp only [ak, reduceIte])))))
        refine callK_ofE (Walk m h (2 * id + e) _ _ _ _ es es4 _ _ he hdin h5 h4 hM ha hlt5 (by omega) hSI hB fun x hx hx2 => ?_) (by simp) ?_
        · obtain ⟨y, hy, hr⟩ := hx2
          exact hs ⟨y, hy, hr.trans (Orb.symm hP hx)⟩
        rintro r s4 ⟨⟨t', L, rfl, hc⟩, hoff, es', hM', hSI'⟩
        have hn4 := hoff.1
        have hLl := (h.cyc_le hdin hc).2
        obtain ⟨Lr, hLr⟩ := IsCyc.head hc
        rw [← hKd] at hc
        have hmn := (cyc_lead hP (darts_rise h.g.ids) (h.fc_dart _) hK hc).1 hs'
        have hnL : nrm L = L := nrm_of_head hLr (hmn.trans hKd)
        have hSn : SeenI es' (SeenD (fc m m.g.es) (darts m.g.es) (2 * j0 + e + 1)) := hSI'.congr fun v => by rw [seenD_succ hK, hKd]
        have hRl := hL.len
        have hL2 := Lead.lead hL hK hs' hc
        obtain ⟨⟨l5, l4⟩, ls, la⟩ := hlt5
        obtain ⟨⟨o5, o4⟩, os, oa⟩ := hlo5
        have n1 : ¬ t = s1.next + 1 := by rintro rfl; rw [hM] at hH; cases hH
        (repeat' (refine e_go ?_; simp [f6, f3]))
        refine callK_ofE (Normal L t' _ (by unfold small; omega)) (by simp) ?_; rintro r s5 ⟨rfl, hk5⟩
        have hn5 := hk5.next
        have g5 := (hk5.H _ (by omega)).trans ((hoff.2 _ (by omega) l5).trans h5)
        have g4 := (hk5.H _ (by omega)).trans ((hoff.2 _ (by omega) l4).trans h4)
        have ga := (hk5.H _ (by omega)).trans ((hoff.2 _ (by omega) la).trans ha)
        have gs := (hk5.H _ (by omega)).trans hM'
        have gt := (hk5.H _ (by omega)).trans ((hoff.2 _ n1 t2).trans hH)
        have n2 : ¬ st2'.next = s1.next + 1 := by intro e; rw [e, hM] at hX; cases hX
        have gX := (hk5.H _ (by omega)).trans ((hoff.2 _ n2 hXl).trans hX)
        have m1 : ¬ t = s5.next := by omega
        have m2 : ¬ t = s1.next := by rintro rfl; rw [h4] at hH; cases hH
        have m3 : ¬ t = s1.next + 1 + 1 := by rintro rfl; rw [h5] at hH; cases hH
        have m4 : ¬ t = ma := by rintro rfl; rw [ha] at hH; cases hH
        have m5 : ¬ st2'.next = t := by rintro rfl; rw [hX] at hH; cases hH
        rw [hnL]
        (repeat' (refine e_go ?_; simp [f3, gt, t0, m1]; (repeat refine ca ?_); (refine hJ _ _ ?_; clear hJ J; simp only [ak, reduceIte])))
        refine hJ2 _ _ (by simp [fi]) ⟨by simp [f17], by simp [f19], by simp [f18], by simp [f8], ?_, by simp; omega, by simp [f5], by simp [f6], ?_, ?_, ?_, ⟨es', ?_, hSn⟩, ?_, by simp; omega, by omega, s5.next + 1, R ++ [L], by simp, hL2, ⟨by omega, by omega, by simp⟩, by simp⟩
        · rw [new_H, if_neg (by simp only [set_next, new_next]; omega), set_H, if_neg (by omega), new_H, if_neg (by omega)]; exact gX
        · rw [new_H, if_neg (by simp only [set_next, new_next]; omega), set_H, if_neg (by omega), new_H, if_neg (by omega)]; exact g5
        · rw [new_H, if_neg (by simp only [set_next, new_next]; omega), set_H, if_neg (by omega), new_H, if_neg (by omega)]; exact g4
        · rw [new_H, if_neg (by simp only [set_next, new_next]; omega), set_H, if_neg (by omega), new_H, if_neg (by omega)]; exact ga
        · rw [new_H, if_neg (by simp only [set_next, new_next]; omega), set_H, if_neg (by omega), new_H, if_neg (by omega)]; exact gs
        · have hK3 : Keeps st s5 := ⟨by have := hkp.next; omega, fun l hl => (hk5.H l (by have := hkp.next; omega)).trans ((hoff.2 l (by omega) (by have := hkp.next; omega)).trans (hkp.H l hl))⟩
          exact ((hK3.trans (Keeps.new _ _)).set t1 _).trans (Keeps.new _ _)
    · clear f17 fi fn hI fr
      rintro fr st2 ⟨f17, f19, f18, f8, hX, hXl, hI⟩
      skip
      exact hJJ _ _ (by simp [f19]) (by simp [f18]) ⟨by simp [f17], hI.fr (by simp) (by simp) (by simp) (Keeps.refl _)⟩
  · rintro fr st2 ⟨f17, hI⟩
    obtain ⟨t, R, f3, hL, _⟩ := hI.rows
    (repeat' (first | refine awp_seq ?_ | (refine awp_ret ?_; simp only [ak, reduceIte]; simp [f3]) | (refine w_e [] ?_; intro J hJ; simp only []; simp [f3]; (refine hJ _ _ ?_; clear hJ J; simp only [ak, reduceIte]))))
    exact ⟨⟨t, R, rfl, by rw [hdl]; exact hL⟩, hI.kp⟩

end Go.Proofs.YtlnefdmdabhobaaGreat.Aw

namespace Go.Proofs.YtlnefdmdabhobaaGreat.Aw
open Go Go.RowKit Go.Proofs.YtlnefdmdabhobaaGreat.Pl Go.Proofs.YtlnefdmdabhobaaGreat.Eu
set_option linter.unusedSimpArgs false
set_option linter.unusedVariables false

structure RfI (m : Mp) (st : St) (K : Nat) (fr : Frm) (st2 : St) : Prop where
  f1 : fr 1 = .pt st.next 0
  hG : st2.H st.next = .box 28 3 (mpL m)
  kp : Keeps st st2
  lt : st.next < st2.next
  rows : ∃ t R, fr 3 = .sl t R.length (rowsL3 R) ∧ Lead (fc m m.g.es) (darts m.g.es) K R ∧ (t ≠ 0 ∧ st.next < t ∧ t < st2.next) ∧ st2.H t = .own 22 1 R.length
theorem RfI.fr {m : Mp} {st : St} {K : Nat} {fr fr' : Frm} {st2 st3 : St} (h : RfI m st K fr st2) (h3 : fr' 3 = fr 3) (h1 : fr' 1 = fr 1) (hk : Keeps st2 st3) : RfI m st K fr' st3 := by
  obtain ⟨f1, hG, kp, lt, t, R, f3, hL, ⟨t0, t1, t2⟩, hH⟩ := h
  have := hk.next
  exact ⟨h1.trans f1, (hk.H _ lt).trans hG, kp.trans hk, by omega, t, R, h3.trans f3, hL, ⟨t0, t1, by omega⟩, (hk.H _ t2).trans hH⟩

theorem ref_Faces (m : Mp) (h : MapOk m) (st : St) (hv : m.g.vs.length ≤ 1000) (he : m.g.es.length ≤ 1000) :
    ACalls Tryz.prog 20 [.ag (mpL m)] st (FacesP m st) := by
  have hel := eds_length m.g.es
  have hdl := darts_length m.g.es
  have hP := h.fc_per m.g.es (fun x hx => hx)
  refine acalls_of_body tabOk Tryz.func20 rfl rfl Tryz.ntmps20 (rs := [.tmp 2]) rfl (by simp) ?_
  (repeat' (first | refine awp_seq ?_ | refine awp_block ?_ | (refine w_e [] ?_; intro J hJ; simp only []; simp []; (refine hJ _ _ ?_; clear hJ J; simp only [ak, reduceIte]))))
  refine awp_posG fun hpos => ?_
  refine awp_own 3 22 1 (by simp) ?_
  refine awp_range 12 11 13 39 (m.g.es.length) (fun j fr st2 => fr 10 = .sl 0 m.g.es.length (eds m.g.es) ∧ RfI m st (2 * j) fr st2) ?_ ?_ ?_
  · exact ⟨by simp, by simp, by simp, (Keeps.new _ _).trans (Keeps.new _ _), by simp; omega, st.next + 1, [], by simp, .zero, ⟨by omega, by omega, by simp⟩, by simp⟩
  · rintro j fr s2 hlt ⟨f10, hI⟩ fi fn JJ hJJ
    have hd := eds_drop m.g.es j hlt
    have hk3 : j * 3 < m.g.es.length * 3 := by omega
    have hxin : m.g.es.getD j ed0 ∈ m.g.es := by rw [getE_lt _ _ hlt]; exact List.getElem_mem _
    have hpos := h.g.pos _ hxin
    have hg := darts_get m.g.es j hlt
    generalize hx : m.g.es.getD j ed0 = x at *
    obtain ⟨id, a, b⟩ := x
    simp only at hpos hd hg
    have w1 : IntKind.u32.wrap (2 * id) = 2 * id := wrap_u32' _ (by omega) (by omega)
    have w2 : IntKind.u32.wrap (2 * id + 2) = 2 * id + 2 := wrap_u32' _ (by omega) (by omega)
    (repeat' (first | refine awp_seq ?_ | refine awp_block ?_ | (refine w_e [] ?_; intro J hJ; simp only []; simp [fi, fn, f10, hd, hel, hk3, w1, w2]; (repeat refine ca ?_); (refine hJ _ _ ?_; clear hJ J; simp only [ak, reduceIte]))))
    refine awp_loop (fun n fr st2 => ∃ e : Nat, e ≤ 2 ∧ n = 2 - e ∧ fr 6 = u (2 * id + e) ∧ fr 5 = .pt s2.next 0 ∧ fr 10 = .sl 0 m.g.es.length (eds m.g.es) ∧ fr 12 = i j ∧ fr 11 = i m.g.es.length ∧ st2.H s2.next = .box 50 3 (edL ⟨id, a, b⟩) ∧ s2.next < st2.next ∧ RfI m st (2 * j + e) fr st2) 2 ?_ ?_
    · exact ⟨0, by omega, by omega, by simp, by simp, by simp [f10], by simp [fi], by simp [fn], by simp, by simp, hI.fr (by simp) (by simp) (Keeps.new _ _)⟩
    clear f10 fi fn hI fr
    rintro n fr st2 ⟨e, hle, rfl, f6, f5, f10, f12, f11, hX, hXl, hI⟩ J2 hJ2
    rcases Nat.lt_or_ge e 2 with he2 | he2
    rotate_left
    · clear hJ2
      obtain rfl : e = 2 := by omega
      (repeat' (first | refine awp_seq ?_ | (refine awp_exit ?_; simp only [ak, reduceIte]) | (refine awp_cond ?_; simp [f6, f5, hX, w1, w2]) | (refine w_e [] ?_; intro J hJ; simp only []; simp [f6, f5, hX, w1, w2]; (refine hJ _ _ ?_; clear hJ J; simp only [ak, reduceIte]))))
      exact hJJ _ _ (by simp [f12]) (by simp [f11]) ⟨by simp [f10], hI.fr (by simp) (by simp) (Keeps.refl _)⟩
    clear hJJ
    have hK : 2 * j + e < (darts m.g.es).length := by omega
    have hKd : (darts m.g.es).getD (2 * j + e) 0 = 2 * id + e := by
      rcases Nat.lt_or_ge e 1 with h1 | h1
      · obtain rfl : e = 0 := by omega
        rw [Nat.add_zero, hg.1]; omega
      · obtain rfl : e = 1 := by omega
        rw [hg.2]; rfl
    have hdin : 2 * id + (e : Int) ∈ darts m.g.es := by rw [← hKd, getD_lt _ _ hK]; exact List.getElem_mem _
    have w3 : IntKind.u32.wrap (2 * id + e + 1) = 2 * id + ((e + 1 : Nat) : Int) := by rw [wrap_u32' _ (by omega) (by omega)]; omega
    have hcmp : 2 * id + (e : Int) < 2 * id + 2 := by omega
    obtain ⟨f1, hG, hkp, hlo, t, R, f3, hL, ⟨t0, t1, t2⟩, hH⟩ := hI
    have hRl := hL.len
    (repeat' (first | refine awp_seq ?_ | refine awp_block ?_ | (refine awp_skip ?_; simp only [ak, reduceIte]) | (refine awp_cond ?_; simp [f6, f5, hX, w1, w2, f1, hG, hcmp]) | (refine w_e [] ?_; intro J hJ; simp only []; simp [f6, f5, hX, w1, w2, f1, hG, hcmp]; (try (refine hJ _ _ ?_; clear hJ J; simp only [ak, reduceIte])))))
    refine callK_ofE (ref_Face m h (2 * id + e) _ hv he) (by simp) ?_; rintro r s3 ⟨⟨c, rfl, hc⟩, hk3⟩
    rcases hc with ⟨_, L, hc, rfl⟩ | ⟨hno, _⟩
    rotate_left
    · exact absurd hdin hno
    have hcl := (h.cyc_le hdin hc).2
    obtain ⟨Lr, hLr⟩ := IsCyc.head hc
    obtain ⟨nr, hnr⟩ := nrm_head L hc.ne
    have hnl : (nrm L).length = L.length := nrm_length L
    have hc' := hc
    rw [← hKd] at hc'
    have hld := cyc_lead hP (darts_rise h.g.ids) (h.fc_dart _) hK hc'
    rw [hKd] at hld
    have hL0 : 0 < (nrm L).length := by rw [hnr]; simp
    have hn3 := hk3.next
    have gX := (hk3.H _ hXl).trans hX
    have gH := (hk3.H _ t2).trans hH
    have m1 : ¬ t = s3.next := by omega
    have m5 : ¬ s2.next = t := by rintro rfl; rw [hX] at hH; cases hH
    by_cases hs : SeenD (fc m m.g.es) (darts m.g.es) (2 * j + e) (2 * id + e)
    · have hmn : ¬ mn L = 2 * id + e := fun e1 => (hld.2 e1) hs
      have hL2 := Lead.seen hL hK (by rw [hKd]; exact hs)
      (repeat' (first | refine awp_seq ?_ | (refine awp_skip ?_; simp only [ak, reduceIte]) | (refine awp_cond ?_; simp [f6, hnr, hmn, hL0, w3]) | ((first | (refine w_e [] ?_; intro J hJ; simp only []) | (refine e_go ?_)); simp [f6, hnr, hmn, hL0, w3]; (refine hJ _ _ ?_; clear hJ J; simp only [ak, reduceIte]))))
      exact hJ2 (2 - (e + 1)) _ _ (by omega) ⟨e + 1, by omega, rfl, by simp, by simp [f5], by simp [f10], by simp [f12], by simp [f11], gX, by omega, by simp [f1], (hk3.H _ hlo).trans hG, hkp.trans hk3, by omega, t, R, by simp [f3], hL2, ⟨t0, t1, by omega⟩, gH⟩
    · have hmn := hld.1 hs
      have hnL : nrm L = L := nrm_of_head hLr hmn
      have hL2 := Lead.lead hL hK (by rw [hKd]; exact hs) hc'
      rw [hnL]
      subst hLr
      (repeat' (first | refine awp_seq ?_ | (refine awp_cond ?_; simp [f6, w3, f3, gH, t0, m1]) | ((first | (refine w_e [] ?_; intro J hJ; simp only []) | (refine e_go ?_)); simp [f6, w3, f3, gH, t0, m1]; (repeat refine ca ?_); (refine hJ _ _ ?_; clear hJ J; simp only [ak, reduceIte]))))
      exact hJ2 (2 - (e + 1)) _ _ (by omega) ⟨e + 1, by omega, rfl, by simp, by simp [f5], by simp [f10], by simp [f12], by simp [f11], by rw [new_H, if_neg (by simp only [set_next, new_next]; omega), set_H, if_neg m5, new_H, if_neg (by omega)]; exact gX, by simp; omega, by simp [f1], by rw [new_H, if_neg (by simp only [set_next, new_next]; omega), set_H, if_neg (by omega), new_H, if_neg (by omega)]; exact (hk3.H _ hlo).trans hG, (((hkp.trans hk3).trans (Keeps.new _ _)).set (by omega) _).trans (Keeps.new _ _), by simp; omega, s3.next + 1, R ++ [(2 * id + e) :: Lr], by simp, hL2, ⟨by omega, by omega, by simp⟩, by simp⟩
  · rintro fr st2 ⟨f10, hI⟩
    obtain ⟨t, R, f3, hL, _⟩ := hI.rows
    (repeat' (first | refine awp_seq ?_ | (refine awp_ret ?_; simp only [ak, reduceIte]; simp [f3]) | (refine w_e [] ?_; intro J hJ; simp only []; simp [f3]; (refine hJ _ _ ?_; clear hJ J; simp only [ak, reduceIte]))))
    exact ⟨⟨t, R, rfl, by rw [hdl]; exact hL⟩, hI.kp⟩

end Go.Proofs.YtlnefdmdabhobaaGreat.Aw
