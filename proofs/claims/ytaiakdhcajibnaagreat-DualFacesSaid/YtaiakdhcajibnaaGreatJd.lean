/- Rows of int: neighbours dropped that are alike, places in a rising row. No program. Rows of int: Compact. slices.Values, AppendSeq: a range over a function, at rows of uint32. (After the kit's worked texts on slices.Values and on a loop that collects.) slices.Collect(slices.Values(s)) as a contract over logical values. What each chapter's example answers. Maps as values. Maps: what is set is got. Graphs: Has, Vert, number, Check. Graphs: Check, by the program and by the document; the law GraphChecks. Graphs and maps, made: Clone of edges, copied, Of; Same. Maps, made of turns: Of; the law RotMakes. Graphs: Ends. Graphs: near, Alone. What hangs together in a graph. No program. Graphs: Parts. Graphs: the document's parts. Graphs: the document's Parts; places of edges. Graphs: Keep. -/
import Derived.Test.YtaiakdhcajibnaaGreatJc
import Derived.RangeFuncBox
import Derived.RangeFuncLeaves
import Derived.Shelf.Abstract
import Derived.WalkKit
import Derived.OwnWalkIn
import Derived.TacticsInMore
import Derived.LoopNIn
import Derived.LoopIn
import Derived.Maps.AppendAt
import Derived.Test.YtaiakdhcajibnaaGreatProg
import Derived.Test.YtaiakdhcajibnaaGreatAwX
import Derived.Test.YtaiakdhcajibnaaGreatAwSet
import Derived.Test.YtaiakdhcajibnaaGreatAwFn
import Derived.Test.YtaiakdhcajibnaaGreatAwShp
namespace Go.Proofs.YtaiakdhcajibnaaGreat.Aw.I
open Go Go.RowKit Go.Proofs.YtaiakdhcajibnaaGreat.Pl
set_option linter.unusedSimpArgs false
set_option linter.unusedVariables false

/-- Of the first k, each that is unlike the one ahead of it. -/
def cptT (c : List Int) : Nat → List Int
  | 0 => []
  | k + 1 => if k = 0 ∨ c.getD k 0 ≠ c.getD (k - 1) 0 then cptT c k ++ [c.getD k 0] else cptT c k
theorem cptT_le (c : List Int) : ∀ k, (cptT c k).length ≤ k
  | 0 => Nat.le_refl _
  | k + 1 => by
    have := cptT_le c k
    unfold cptT
    split
    · simp; omega
    · omega
structure Rsn (c : List Int) (k : Nat) (l : List Int) : Prop where
  lt : l.Pairwise (· < ·)
  mem : ∀ y, y ∈ l ↔ ∃ j, j < k ∧ c.getD j 0 = y
theorem cptT_rsn {c : List Int} (h : c.Pairwise (· ≤ ·)) : ∀ k, k ≤ c.length → Rsn c k (cptT c k)
  | 0, _ => ⟨.nil, fun y => by simp [cptT]⟩
  | k + 1, hk => by
    have ih := cptT_rsn h k (by omega)
    have hle : ∀ j, j < k → c.getD j 0 ≤ c.getD (k - 1) 0 := fun j hj => by
      rcases Nat.lt_or_ge j (k - 1) with h1 | h1
      · rw [List.getD_eq_getElem?_getD, List.getElem?_eq_getElem (by omega), List.getD_eq_getElem?_getD, List.getElem?_eq_getElem (by omega)]
        exact List.pairwise_iff_getElem.1 h j (k - 1) (by omega) (by omega) h1
      · obtain rfl : j = k - 1 := by omega
        exact Int.le_refl _
    have hle2 : 0 < k → c.getD (k - 1) 0 ≤ c.getD k 0 := fun h0 => by
      rw [List.getD_eq_getElem?_getD, List.getElem?_eq_getElem (by omega), List.getD_eq_getElem?_getD, List.getElem?_eq_getElem (by omega)]
      exact List.pairwise_iff_getElem.1 h (k - 1) k (by omega) (by omega) (by omega)
    unfold cptT
    split
    · rename_i h0
      refine ⟨?_, fun y => ?_⟩
      · rw [List.pairwise_append]
        refine ⟨ih.lt, List.pairwise_singleton _ _, fun a ha b hb => ?_⟩
        rw [List.mem_singleton] at hb
        subst hb
        obtain ⟨j, hj, rfl⟩ := (ih.mem a).1 ha
        have := hle j hj
        have := hle2 (by omega)
        rcases h0 with h0 | h0
        · omega
        · omega
      · rw [List.mem_append, List.mem_singleton, ih.mem]
        constructor
        · rintro (⟨j, hj, rfl⟩ | rfl)
          · exact ⟨j, by omega, rfl⟩
          · exact ⟨k, by omega, rfl⟩
        · rintro ⟨j, hj, rfl⟩
          rcases Nat.lt_or_ge j k with h1 | h1
          · exact .inl ⟨j, h1, rfl⟩
          · obtain rfl : j = k := by omega
            exact .inr rfl
    · rename_i h0
      refine ⟨ih.lt, fun y => ?_⟩
      rw [ih.mem]
      constructor
      · rintro ⟨j, hj, rfl⟩
        exact ⟨j, by omega, rfl⟩
      · rintro ⟨j, hj, rfl⟩
        rcases Nat.lt_or_ge j k with h1 | h1
        · exact ⟨j, h1, rfl⟩
        · obtain rfl : j = k := by omega
          exact ⟨j - 1, by omega, by omega⟩
/-- Compacted. -/
def cpt (c : List Int) : List Int := cptT c c.length
theorem cpt_lt {c : List Int} (h : c.Pairwise (· ≤ ·)) : (cpt c).Pairwise (· < ·) := (cptT_rsn h _ (Nat.le_refl _)).lt
theorem cpt_mem {c : List Int} (h : c.Pairwise (· ≤ ·)) (y : Int) : y ∈ cpt c ↔ y ∈ c := by
  unfold cpt
  rw [(cptT_rsn h _ (Nat.le_refl _)).mem]
  constructor
  · rintro ⟨j, hj, rfl⟩
    rw [List.getD_eq_getElem?_getD, List.getElem?_eq_getElem hj]
    exact List.getElem_mem _
  · intro hy
    obtain ⟨j, hj, rfl⟩ := List.getElem_of_mem hy
    exact ⟨j, hj, by rw [List.getD_eq_getElem?_getD, List.getElem?_eq_getElem hj]; rfl⟩

/-- How many are less. -/
def below (c : List Int) (k : Int) : Nat := (c.filter fun y => decide (y < k)).length
theorem below_none {c : List Int} {k : Int} (h : ∀ y ∈ c, k ≤ y) : below c k = 0 := by
  unfold below
  rw [List.length_eq_zero_iff, List.filter_eq_nil_iff]
  intro y hy
  have := h y hy
  simp; omega
theorem below_all {c : List Int} {k : Int} (h : ∀ y ∈ c, y < k) : below c k = c.length := by
  unfold below
  rw [List.filter_eq_self.2]
  intro y hy
  simpa using h y hy
theorem below_cons (x : Int) (c : List Int) (k : Int) : below (x :: c) k = (if x < k then 1 else 0) + below c k := by
  unfold below
  by_cases h : x < k
  · rw [List.filter_cons_of_pos (by simpa using h), if_pos h]; simp; omega
  · rw [List.filter_cons_of_neg (by simpa using h), if_neg h]; omega
theorem below_step : ∀ {c : List Int} (_ : c.Pairwise (· < ·)) (k : Int), below c (k + 1) = below c k + (if k ∈ c then 1 else 0)
  | [], _, k => by simp [below]
  | x :: c, h, k => by
    obtain ⟨h1, h2⟩ := List.pairwise_cons.1 h
    have ih := below_step h2 k
    rw [below_cons, below_cons, ih]
    by_cases hx : x = k
    · subst hx
      have : x ∉ c := fun hm => by have := h1 x hm; omega
      rw [if_pos (by omega), if_neg this, if_neg (by omega), if_pos (by simp)]
      omega
    · have hkx : ¬ k = x := fun e => hx e.symm
      simp only [List.mem_cons, hkx, false_or]
      by_cases hl : x < k
      · rw [if_pos hl, if_pos (by omega)]; omega
      · rw [if_neg hl, if_neg (by omega)]; omega
theorem below_at : ∀ {c : List Int} (_ : c.Pairwise (· < ·)) {k : Int}, k ∈ c → below c k < c.length ∧ c.getD (below c k) 0 = k
  | x :: c, h, k, hk => by
    obtain ⟨h1, h2⟩ := List.pairwise_cons.1 h
    rw [below_cons]
    rcases List.mem_cons.1 hk with rfl | hk
    · rw [if_neg (by omega), below_none fun y hy => by have := h1 y hy; omega]
      exact ⟨by simp, rfl⟩
    · have := h1 k hk
      rw [if_pos this]
      obtain ⟨i1, i2⟩ := below_at h2 hk
      refine ⟨by simp; omega, ?_⟩
      rw [Nat.add_comm, List.getD_cons_succ]
      exact i2
theorem below_le (c : List Int) (k : Int) : below c k ≤ c.length := List.length_filter_le _ _

end Go.Proofs.YtaiakdhcajibnaaGreat.Aw.I

namespace Go.Proofs.YtaiakdhcajibnaaGreat.Aw.I
open Go Go.RowKit Go.Proofs.YtaiakdhcajibnaaGreat.Pl
set_option linter.unusedSimpArgs false
set_option linter.unusedVariables false

theorem cptT_id (c : List Int) : ∀ k, k ≤ c.length → (∀ j, 0 < j → j < k → c.getD j 0 ≠ c.getD (j - 1) 0) → cptT c k = c.take k
  | 0, _, _ => rfl
  | k + 1, hk, h => by
    have ih := cptT_id c k (by omega) fun j h1 h2 => h j h1 (by omega)
    have hg : c.take (k + 1) = c.take k ++ [c.getD k 0] := by
      rw [List.getD_eq_getElem?_getD, List.getElem?_eq_getElem (by omega)]
      exact List.take_succ_eq_append_getElem (by omega)
    unfold cptT
    rw [if_pos, ih, hg]
    rcases Nat.eq_zero_or_pos k with h0 | h0
    · exact .inl h0
    · exact .inr (h k h0 (by omega))
theorem cpt_short (c : List Int) (h : c.length < 2) : cpt c = c := by
  unfold cpt
  rw [cptT_id c c.length (Nat.le_refl _) fun j h1 h2 => by omega, List.take_length]

set_option maxHeartbeats 1000000 in
theorem Compact (c : List Int) (q : Nat) (st : St) (hl : c.length ≤ 100000) (hH : st.H q = .box 3 1 (us c)) :
    ACalls Tryz.prog 35 [.ms q 0 c.length] st fun r st' => r = .ms q 0 (cpt c).length ∧ ∃ cs, st' = st.set q (.box 3 1 (us (cpt c) ++ cs)) := by
  have hself : st = st.set q (.box 3 1 (us c ++ [])) := St.ext' rfl fun x => by by_cases hx : x = q <;> simp [hx, hH]
  have hself' : st = st.set q (.box 3 1 (us c)) := by rw [List.append_nil] at hself; exact hself
  refine acalls_of_body tabOk Tryz.func35 rfl rfl Tryz.ntmps35 (rs := [.tmp 2]) rfl (by simp) ?_
  by_cases h2 : c.length < 2
  · have h2' : (c.length : Int) < 2 := by omega
    have hc := cpt_short c h2
    rw [hc]
    (repeat' (first | refine awp_seq ?_ | refine awp_block ?_ | ((first | refine awp_skip ?_ | refine awp_exit ?_); simp only [ak, reduceIte]) | (refine awp_ret ?_; simp only [ak, reduceIte]; simp [h2', h2]) | (refine awp_cond ?_; simp [h2', h2]; (try with_reducible refine ⟨?_, ?_⟩) <;> (try with_reducible intro hc) <;> try (exfalso; omega)) | ((first | (refine w_e [] ?_; intro J hJ; simp only []) | (refine w_q ?_; intro J hJ) | refine e_go ?_); simp [h2', h2]; (repeat refine ca ?_); (try ((try with_reducible refine ⟨?_, ?_⟩) <;> (try with_reducible intro hnil) <;> refine hJ _ _ ?_ <;> clear hJ J <;> simp only [ak, reduceIte] <;> try subst hnil)))))
    exact ⟨[], hself⟩
  have h2' : ¬ (c.length : Int) < 2 := by omega
  (repeat' (first | refine awp_seq ?_ | refine awp_block ?_ | ((first | refine awp_skip ?_ | refine awp_exit ?_); simp only [ak, reduceIte]) | (refine awp_ret ?_; simp only [ak, reduceIte]; simp [h2', h2]) | (refine awp_cond ?_; simp [h2', h2]; (try with_reducible refine ⟨?_, ?_⟩) <;> (try with_reducible intro hc) <;> try (exfalso; omega)) | ((first | (refine w_e [] ?_; intro J hJ; simp only []) | (refine w_q ?_; intro J hJ) | refine e_go ?_); simp [h2', h2]; (repeat refine ca ?_); (try ((try with_reducible refine ⟨?_, ?_⟩) <;> (try with_reducible intro hnil) <;> refine hJ _ _ ?_ <;> clear hJ J <;> simp only [ak, reduceIte] <;> try subst hnil)))))
  refine awp_loop (fun z fr st2 => ∃ k : Nat, 0 < k ∧ k ≤ c.length ∧ z = c.length - k ∧ fr 0 = .ms q 0 c.length ∧ fr 3 = i k ∧ st2 = st ∧ ∀ j, 0 < j → j < k → c.getD j 0 ≠ c.getD (j - 1) 0) (c.length - 1) ?_ ?_
  · exact ⟨1, by omega, by omega, rfl, by simp, by simp, rfl, fun j h1 h2 => by omega⟩
  rintro z fr st2 ⟨k, hk0, hkl, rfl, f0, f3, rfl, hno⟩ JJ hJJ
  by_cases hlt : k < c.length
  rotate_left
  · clear hJJ
    have hc : cpt c = c := by
      unfold cpt
      rw [cptT_id c c.length (Nat.le_refl _) fun j h1 h2 => hno j h1 (by omega), List.take_length]
    rw [hc]
    (repeat' (first | refine awp_seq ?_ | refine awp_block ?_ | ((first | refine awp_skip ?_ | refine awp_exit ?_); simp only [ak, reduceIte]) | (refine awp_ret ?_; simp only [ak, reduceIte]; simp [f0, f3, hlt]) | (refine awp_cond ?_; simp [f0, f3, hlt]; (try with_reducible refine ⟨?_, ?_⟩) <;> (try with_reducible intro hc) <;> try (exfalso; omega)) | ((first | (refine w_e [] ?_; intro J hJ; simp only []) | (refine w_q ?_; intro J hJ) | refine e_go ?_); simp [f0, f3, hlt]; (repeat refine ca ?_); (try ((try with_reducible refine ⟨?_, ?_⟩) <;> (try with_reducible intro hnil) <;> refine hJ _ _ ?_ <;> clear hJ J <;> simp only [ak, reduceIte] <;> try subst hnil)))))
    exact ⟨[], hself⟩
  obtain ⟨k1, rfl⟩ : ∃ k1, k = k1 + 1 := ⟨k - 1, by omega⟩
  have hd := us_drop_getD c (k1 + 1) hlt
  have hd1 := us_drop_getD c k1 (by omega)
  have w1 : IntKind.i64.wrap (k1 : Int) = (k1 : Int) := wrap_i64 _ (by omega) (by omega)
  have w2 := nat_add_one (k1 + 1) (by omega)
  have w2' : IntKind.i64.wrap ((k1 : Int) + 1 + 1) = (k1 : Int) + 1 + 1 := wrap_i64 _ (by omega) (by omega)
  have hkl1 : k1 < c.length := by omega
  have hlt' : (k1 : Int) + 1 < c.length := by omega
  have hnx : c.getD (k1 + 1) 0 ≠ c.getD k1 0 → ∀ j, 0 < j → j < k1 + 1 + 1 → c.getD j 0 ≠ c.getD (j - 1) 0 := fun h j h1 h3 => by
    rcases Nat.lt_or_ge j (k1 + 1) with h4 | h4
    · exact hno j h1 h4
    · obtain rfl : j = k1 + 1 := by omega
      exact h
  have hid := cptT_id c (k1 + 1) (by omega) hno
  have hcs : c.getD (k1 + 1) 0 = c.getD k1 0 → cptT c (k1 + 1 + 1) = c.take (k1 + 1) := fun h => by
    rw [cptT, if_neg, hid]
    rintro (h3 | h3)
    · omega
    · exact h3 h
  generalize hx : c.getD (k1 + 1) 0 = x at *
  generalize hy : c.getD k1 0 = y at *
  by_cases hxy : x = y
  rotate_left
  · (repeat' (first | refine awp_seq ?_ | refine awp_block ?_ | ((first | refine awp_skip ?_ | refine awp_exit ?_); simp only [ak, reduceIte]) | (refine awp_ret ?_; simp only [ak, reduceIte]; simp [f0, f3, hlt, hlt', hd, hd1, w1, w2, w2', hkl1, hxy, hH]) | (refine awp_cond ?_; simp [f0, f3, hlt, hlt', hd, hd1, w1, w2, w2', hkl1, hxy, hH]; (try with_reducible refine ⟨?_, ?_⟩) <;> (try with_reducible intro hc) <;> try (exfalso; omega)) | ((first | (refine w_e [] ?_; intro J hJ; simp only []) | (refine w_q ?_; intro J hJ) | refine e_go ?_); simp [f0, f3, hlt, hlt', hd, hd1, w1, w2, w2', hkl1, hxy, hH]; (repeat refine ca ?_); (try ((try with_reducible refine ⟨?_, ?_⟩) <;> (try with_reducible intro hnil) <;> refine hJ _ _ ?_ <;> clear hJ J <;> simp only [ak, reduceIte] <;> try subst hnil)))))
    exact hJJ (c.length - (k1 + 1 + 1)) _ _ (by omega) ⟨k1 + 1 + 1, by omega, by omega, rfl, by simp [f0], by simp, rfl, hnx hxy⟩
  clear hJJ hnx
  have hcs := hcs hxy
  clear w2 w2' hid hno
  (repeat' (first | refine awp_seq ?_ | refine awp_block ?_ | ((first | refine awp_skip ?_ | refine awp_exit ?_); simp only [ak, reduceIte]) | (refine awp_ret ?_; simp only [ak, reduceIte]; simp [f0, f3, hlt, hlt', hd, hd1, w1, hkl1, hxy, hH]) | (refine awp_cond ?_; simp [f0, f3, hlt, hlt', hd, hd1, w1, hkl1, hxy, hH]; (try with_reducible refine ⟨?_, ?_⟩) <;> (try with_reducible intro hc) <;> try (exfalso; omega)) | ((first | (refine w_e [] ?_; intro J hJ; simp only []) | (refine w_q ?_; intro J hJ) | refine e_go ?_); simp [f0, f3, hlt, hlt', hd, hd1, w1, hkl1, hxy, hH]; (repeat refine ca ?_); (try ((try with_reducible refine ⟨?_, ?_⟩) <;> (try with_reducible intro hnil) <;> refine hJ _ _ ?_ <;> clear hJ J <;> simp only [ak, reduceIte] <;> try subst hnil)))))
  refine awp_loop (fun z fr s => ∃ (p w : Nat) (d : List Int), k1 + 1 + (p + 1) ≤ c.length ∧ z = c.length - (k1 + 1 + (p + 1)) ∧ w = (cptT c (k1 + 1 + (p + 1))).length ∧ w ≤ k1 + 1 + p ∧ fr 0 = .ms q 0 c.length ∧ fr 3 = i w ∧ fr 4 = .ms q (k1 + 1) (c.length - (k1 + 1)) ∧ fr 5 = i (p + 1 : Nat) ∧ d.length = c.length ∧ d.take w = cptT c (k1 + 1 + (p + 1)) ∧ d.drop (k1 + 1 + p) = c.drop (k1 + 1 + p) ∧ s = st2.set q (.box 3 1 (us d))) (c.length - (k1 + 1 + 1)) ?_ ?_
  · refine ⟨0, k1 + 1, c, by omega, by omega, by rw [hcs]; simp; omega, by omega, by simp [f0], by simp [f3], by simp, by simp, rfl, hcs.symm, rfl, hself'⟩
  clear hd hd1 w1 hlt' hx hy hxy hcs f0 f3 fr hself
  rintro z fr s ⟨p, w, d, hpl, rfl, hw, hwl, f0, f3, f4, f5, hdl, hdt, hdd, rfl⟩ JJ hJJ
  by_cases hlp : k1 + 1 + (p + 1) < c.length
  · have e1 : ∀ j, k1 + 1 + p ≤ j → d.getD j 0 = c.getD j 0 := fun j hj => by
      have h1 : (d.drop (k1 + 1 + p)).getD (j - (k1 + 1 + p)) 0 = (c.drop (k1 + 1 + p)).getD (j - (k1 + 1 + p)) 0 := by rw [hdd]
      simp only [List.getD_eq_getElem?_getD, List.getElem?_drop] at h1 ⊢
      rw [show k1 + 1 + p + (j - (k1 + 1 + p)) = j by omega] at h1
      exact h1
    have hd := us_drop_getD d (k1 + 1 + (p + 1)) (by omega)
    have hd1 := us_drop_getD d (k1 + 1 + p) (by omega)
    rw [e1 _ (by omega)] at hd
    rw [e1 _ (by omega)] at hd1
    have hstep : cptT c (k1 + 1 + (p + 1) + 1) = if c.getD (k1 + 1 + (p + 1)) 0 ≠ c.getD (k1 + 1 + p) 0 then cptT c (k1 + 1 + (p + 1)) ++ [c.getD (k1 + 1 + (p + 1)) 0] else cptT c (k1 + 1 + (p + 1)) := by
      rw [cptT, show k1 + 1 + (p + 1) - 1 = k1 + 1 + p by omega]
      by_cases h : c.getD (k1 + 1 + (p + 1)) 0 ≠ c.getD (k1 + 1 + p) 0
      · rw [if_pos (.inr h), if_pos h]
      · rw [if_neg (by rintro (h1 | h1); omega; exact h h1), if_neg h]
    have hdd2 : d.drop (k1 + 1 + (p + 1)) = c.drop (k1 + 1 + (p + 1)) := by
      have h1 : (d.drop (k1 + 1 + p)).drop 1 = (c.drop (k1 + 1 + p)).drop 1 := by rw [hdd]
      rwa [List.drop_drop, List.drop_drop, show k1 + 1 + p + 1 = k1 + 1 + (p + 1) by omega] at h1
    have w1 : IntKind.i64.wrap (p : Int) = (p : Int) := wrap_i64 _ (by omega) (by omega)
    have w2 : IntKind.i64.wrap ((p : Int) + 1 + 1) = (p : Int) + 1 + 1 := wrap_i64 _ (by omega) (by omega)
    have w3 := nat_add_one w (by omega)
    have hA : p + 1 < c.length - (k1 + 1) := by omega
    have hA' : (p : Int) + 1 < (c.length - (k1 + 1) : Nat) := by omega
    have hB : p < c.length - (k1 + 1) := by omega
    have hW : w < c.length := by omega
    generalize c.getD (k1 + 1 + (p + 1)) 0 = x at *
    generalize c.getD (k1 + 1 + p) 0 = y at *
    by_cases hxy : x = y
    · rw [if_neg (fun h => h hxy)] at hstep
      (repeat' (first | refine awp_seq ?_ | refine awp_block ?_ | ((first | refine awp_skip ?_ | refine awp_exit ?_); simp only [ak, reduceIte]) | (refine awp_ret ?_; simp only [ak, reduceIte]; simp [f0, f3, f4, f5, hA, hA', hB, hd, hd1, w1, w2, hdl, hxy]) | (refine awp_cond ?_; simp [f0, f3, f4, f5, hA, hA', hB, hd, hd1, w1, w2, hdl, hxy]; (try with_reducible refine ⟨?_, ?_⟩) <;> (try with_reducible intro hc) <;> try (exfalso; omega)) | ((first | (refine w_e [] ?_; intro J hJ; simp only []) | (refine w_q ?_; intro J hJ) | refine e_go ?_); simp [f0, f3, f4, f5, hA, hA', hB, hd, hd1, w1, w2, hdl, hxy]; (repeat refine ca ?_); (try ((try with_reducible refine ⟨?_, ?_⟩) <;> (try with_reducible intro hnil) <;> refine hJ _ _ ?_ <;> clear hJ J <;> simp only [ak, reduceIte] <;> try subst hnil)))))
      refine hJJ (c.length - (k1 + 1 + (p + 1 + 1))) _ _ (by omega) ⟨p + 1, w, d, by omega, rfl, ?_, by omega, by simp [f0], by simp [f3], by simp [f4], by simp, hdl, ?_, hdd2, rfl⟩
      · rw [show k1 + 1 + (p + 1 + 1) = k1 + 1 + (p + 1) + 1 by omega, hstep]; exact hw
      · rw [show k1 + 1 + (p + 1 + 1) = k1 + 1 + (p + 1) + 1 by omega, hstep]; exact hdt
    · rw [if_pos hxy] at hstep
      have hset := us_set d w x (by omega)
      (repeat' (first | refine awp_seq ?_ | refine awp_block ?_ | ((first | refine awp_skip ?_ | refine awp_exit ?_); simp only [ak, reduceIte]) | (refine awp_ret ?_; simp only [ak, reduceIte]; simp [f0, f3, f4, f5, hA, hA', hB, hd, hd1, w1, w2, w3, hdl, hxy, hW]) | (refine awp_cond ?_; simp [f0, f3, f4, f5, hA, hA', hB, hd, hd1, w1, w2, w3, hdl, hxy, hW]; (try with_reducible refine ⟨?_, ?_⟩) <;> (try with_reducible intro hc) <;> try (exfalso; omega)) | ((first | (refine w_e [] ?_; intro J hJ; simp only []) | (refine w_q ?_; intro J hJ) | refine e_go ?_); simp [f0, f3, f4, f5, hA, hA', hB, hd, hd1, w1, w2, w3, hdl, hxy, hW]; (repeat refine ca ?_); (try ((try with_reducible refine ⟨?_, ?_⟩) <;> (try with_reducible intro hnil) <;> refine hJ _ _ ?_ <;> clear hJ J <;> simp only [ak, reduceIte] <;> try subst hnil)))))
      refine hJJ (c.length - (k1 + 1 + (p + 1 + 1))) _ _ (by omega) ⟨p + 1, w + 1, d.set w x, by omega, rfl, ?_, by omega, by simp [f0], by simp, by simp [f4], by simp, by simp [hdl], ?_, ?_, ?_⟩
      · rw [show k1 + 1 + (p + 1 + 1) = k1 + 1 + (p + 1) + 1 by omega, hstep, List.length_append, ← hw]; rfl
      · rw [show k1 + 1 + (p + 1 + 1) = k1 + 1 + (p + 1) + 1 by omega, hstep, set_take d w x (by omega), hdt]
      · rw [show k1 + 1 + (p + 1) = k1 + 1 + p + 1 by omega, set_drop d w (k1 + 1 + p) x (by omega)]
        rw [show k1 + 1 + p + 1 = k1 + 1 + (p + 1) by omega]; exact hdd2
      · rw [St.set_set]
        congr 1
        rw [← hset]
  clear hJJ
  have hpe : k1 + 1 + (p + 1) = c.length := by omega
  rw [hpe] at hw hdt
  have hcw : (cpt c).length = w := hw.symm
  have hct : d.take w = cpt c := hdt
  have hA : ¬ p + 1 < c.length - (k1 + 1) := by omega
  have hA' : ¬ (p : Int) + 1 < (c.length - (k1 + 1) : Nat) := by omega
  have hW : w ≤ c.length := by omega
  rw [hcw, ← hct]
  (repeat' (first | refine awp_seq ?_ | refine awp_block ?_ | ((first | refine awp_skip ?_ | refine awp_exit ?_); simp only [ak, reduceIte]) | (refine awp_ret ?_; simp only [ak, reduceIte]; simp [f0, f3, f4, f5, hA, hA', hdl, hW]) | (refine awp_cond ?_; simp [f0, f3, f4, f5, hA, hA', hdl, hW]; (try with_reducible refine ⟨?_, ?_⟩) <;> (try with_reducible intro hc) <;> try (exfalso; omega)) | ((first | (refine w_e [] ?_; intro J hJ; simp only []) | (refine w_q ?_; intro J hJ) | refine e_go ?_); simp [f0, f3, f4, f5, hA, hA', hdl, hW]; (repeat refine ca ?_); (try ((try with_reducible refine ⟨?_, ?_⟩) <;> (try with_reducible intro hnil) <;> refine hJ _ _ ?_ <;> clear hJ J <;> simp only [ak, reduceIte] <;> try subst hnil)))))
  rw [St.set_set]
  exact ⟨_, rfl⟩

end Go.Proofs.YtaiakdhcajibnaaGreat.Aw.I

namespace Go.Proofs.YtaiakdhcajibnaaGreat.Rg
open Go Go.RowKit Go.Shelf
set_option linter.unusedSimpArgs false
set_option linter.unusedVariables false

attribute [local go_sem] Oper.semAt_some

/-- What has come when k rounds are over. -/
def upto (zs : List Int) (k : Nat) : List Int := (List.range k).map fun j => zs[j]?.getD 0
theorem upto_succ (zs : List Int) (k : Nat) : upto zs (k + 1) = upto zs k ++ [zs[k]?.getD 0] := by simp [upto, List.range_succ]
theorem upto_length (zs : List Int) (k : Nat) : (upto zs k).length = k := by simp [upto]
theorem upto_all (zs : List Int) : upto zs zs.length = zs := by
  apply List.ext_getElem
  · simp [upto]
  · intro i h1 h2
    simp [upto, h2]

set_option maxRecDepth 100000 in
set_option maxHeartbeats 2000000 in
theorem values1_in (F : Fence) (n : Nat) (h7 : F.fn 230) (hro : F.round = none) (hn : 1 ≤ n) (l Bs n₀ b off len cap : Nat) (zs : List Int) (hlen : len ≤ 1048576) (hb : b < n₀) (J Jx : List Int → World → Prop)
    (hY : ∀ pre x W, J pre W → pre.length < len → YieldAt F (n - 1) Tryz.prog l #[.int .u32 x] W fun e W' =>
      (e = .returned (.bool true) ∧ J (pre ++ [x]) W' ∧ Below n₀ W W') ∨ (e = .returned (.bool false) ∧ Jx (pre ++ [x]) W'))
    (W : World) (hBs : W.cell? ⟨Bs, 0, none⟩ = some (.slice (some ⟨b, off, none⟩) len cap)) (hc : ∀ j, j < len → W.cell? ⟨b, off + j, none⟩ = some (.int .u32 (zs[j]?.getD 0))) (h0 : J [] W) :
    CallsIn F n Tryz.prog 230 #[.func (.yield l) #[] #[], .pointer (some ⟨Bs, 0, none⟩)] W fun e W' => (∃ v, e = .returned v) ∧
      ((∃ ys, ys = upto zs len ∧ J ys W') ∨ (∃ pre, (∃ k, k ≤ len ∧ pre = upto zs k) ∧ Jx pre W')) := by
  refine callsIn_of_wp Tryz.func230 rfl h7 ?_ hro
  simp only [Tryz.ntmps230, List.size_toArray, List.length_cons, List.length_nil, Nat.reduceAdd, Nat.reduceSub, Array.replicate_succ, Array.replicate_zero, List.push_toArray, List.append_toArray, List.nil_append, List.cons_append]
  gi_wp2
  gi_loopw [7] (fun i wr => ∃ k : Nat, k ≤ len ∧ i = .int .i64 k ∧ J (upto zs k) wr ∧ Below n₀ W wr)
    (fun i _ => len - (intOf i).toNat)
  case atStart => exact ⟨0, Nat.zero_le _, rfl, h0, Below.refl _ _⟩
  case round =>
    obtain ⟨k, hk, rfl, hJs, hnx⟩ := hrel
    have hcx : k < len → wr.cell? ⟨b, off + k, none⟩ = some (.int .u32 (zs[k]?.getD 0)) := fun h => (hnx.cell (p := ⟨b, off + k, none⟩) hb).trans (hc k h)
    by_cases hlt : k < len
    · obtain ⟨fn, tmps, assign, body, hy, hR⟩ := hY _ (zs[k]?.getD 0) wr hJs (by rw [upto_length]; exact hlt)
      have hcx' := hcx hlt
      gi_wp2
      refine hR.mono ?_
      rintro e W3 (⟨rfl, hJ3, hk3⟩ | ⟨rfl, hJx3⟩)
      · gi_wp2
        go_roundw
        case rel => exact ⟨k + 1, by omega, by simp, by rw [upto_succ]; exact hJ3, hnx.trans hk3⟩
        case measure => simp [intOf]; omega
      · gi_wp2
        refine bodyPost_ret (results_none rfl _ _ _) rfl ?_
        exact ⟨⟨_, rfl⟩, .inr ⟨_, ⟨k + 1, by omega, (upto_succ _ _).symm⟩, hJx3⟩⟩
    · obtain rfl : k = len := by omega
      gi_wp2
      go_end0
      exact ⟨⟨_, rfl⟩, .inl ⟨_, rfl, hJs⟩⟩

set_option maxRecDepth 100000 in
set_option maxHeartbeats 1000000 in
theorem values1_nil_in (F : Fence) (n : Nat) (h7 : F.fn 230) (hro : F.round = none) (l Bs : Nat) (J : List Int → World → Prop) (W : World) (A : Option Addr) (cap : Nat) (hBs : W.cell? ⟨Bs, 0, none⟩ = some (.slice A 0 cap)) (h0 : J [] W) :
    CallsIn F n Tryz.prog 230 #[.func (.yield l) #[] #[], .pointer (some ⟨Bs, 0, none⟩)] W fun e W' => (∃ v, e = .returned v) ∧ J [] W' := by
  refine callsIn_of_wp Tryz.func230 rfl h7 ?_ hro
  simp only [Tryz.ntmps230, List.size_toArray, List.length_cons, List.length_nil, Nat.reduceAdd, Nat.reduceSub, Array.replicate_succ, Array.replicate_zero, List.push_toArray, List.append_toArray, List.nil_append, List.cons_append]
  gi_wp2
  gi_loopw [7] (fun i wr => i = .int .i64 0 ∧ J [] wr) (fun _ _ => 0)
  case atStart => exact ⟨rfl, h0⟩
  case round =>
    obtain ⟨rfl, hJs⟩ := hrel
    gi_wp2
    go_end0
    exact ⟨⟨_, rfl⟩, hJs⟩

/-- A slice value that holds zs, in a block below n₀; or an empty one. -/
def Ints (n₀ : Nat) (W : World) (sv : Value) (zs : List Int) : Prop :=
  (zs = [] ∧ ∃ A cap, sv = .slice A 0 cap) ∨ ∃ b off cap, sv = .slice (some ⟨b, off, none⟩) zs.length cap ∧ b < n₀ ∧ ∀ j, j < zs.length → W.cell? ⟨b, off + j, none⟩ = some (.int .u32 (zs[j]?.getD 0))
theorem Ints.below {n₀ : Nat} {A B : World} (h : Below n₀ A B) {sv : Value} {zs : List Int} : Ints n₀ A sv zs → Ints n₀ B sv zs
  | .inl e => .inl e
  | .inr ⟨b, off, cap, e, hb, hc⟩ => .inr ⟨b, off, cap, e, hb, fun j hj => (h.cell (p := ⟨b, off + j, none⟩) hb).trans (hc j hj)⟩

theorem values_stops (F : Fence) (n : Nat) (h7 : F.fn 230) (hro : F.round = none) (hn : 1 ≤ n) (Bs n₀ : Nat) (sv : Value) (zs : List Int) (hlen : zs.length ≤ 1048576) (w : World) (hBs : Bs < w.heap.size) (hn₀ : n₀ ≤ w.heap.size)
    (hc : w.cell? ⟨Bs, 0, none⟩ = some sv) (hI : Ints n₀ w sv zs) :
    SeqStopsK F n Tryz.prog 230 #[.pointer (some ⟨Bs, 0, none⟩)] (fun x : Int => #[Value.int .u32 x]) (Below n₀) (fun ys => ys = zs) (fun _ => True) zs.length w := fun l J Jx W hW _ _ hY h0 => by
  have hc' := (hW.cell (p := ⟨Bs, 0, none⟩) hBs).trans hc
  rcases hI.below (hW.mono hn₀) with ⟨rfl, A, cap, rfl⟩ | ⟨b, off, cap, rfl, hb, hcs⟩
  · exact (values1_nil_in F n h7 hro l Bs J W A cap hc' h0).mono fun e W' ⟨he, hj⟩ => ⟨he, .inl ⟨_, rfl, hj⟩⟩
  · refine (values1_in F n h7 hro hn l Bs n₀ b off zs.length cap zs hlen hb J Jx hY W hc' hcs h0).mono ?_
    rintro e W' ⟨he, ⟨ys, rfl, hj⟩ | ⟨pre, ⟨k, hk, rfl⟩, hj⟩⟩
    · exact ⟨he, .inl ⟨_, upto_all zs, hj⟩⟩
    · exact ⟨he, .inr ⟨_, trivial, hj⟩⟩

theorem infoU : (Tryz.prog.info? 29).map (fun i => (i.zero, i.size, i.bytes)) = some (some (.int .u32 0), 1, 4) := by kernel_rfl

set_option maxRecDepth 100000 in
set_option maxHeartbeats 2000000 in
/-- slices.AppendSeq(nil, slices.Values(s)): a slice of its own with what s holds; nothing that lay has turned. -/
theorem appendSeq_in (F : Fence) (n : Nat) (h3 : F.fn 255) (h7 : F.fn 230) (hro : F.round = none) (hn : 3 ≤ n) (Bs : Nat) (sv : Value) (zs : List Int) (hlen : zs.length ≤ 1048576) (w : World) (hBs : Bs < w.heap.size)
    (hc : w.cell? ⟨Bs, 0, none⟩ = some sv) (hI : Ints w.heap.size w sv zs) :
    CallsIn F n Tryz.prog 255 #[.slice none 0 0, .func (.func 230) #[] #[.pointer (some ⟨Bs, 0, none⟩)]] w fun e W' => ∃ v, e = .returned v ∧ W'.ownsRow w.heap.size 29 1 v zs.length (zs.map (Value.int .u32)) ∧ Below w.heap.size w W' := by
  have h1 : 1 ≤ n := by omega
  obtain ⟨i0, hi, hz0, hz1, hz2⟩ := info_parts infoU
  refine callsIn_of_wp_marks Tryz.func255 rfl h3 ?_ hro
  simp only [Tryz.ntmps255, List.size_toArray, List.length_cons, List.length_nil, Nat.reduceAdd, Nat.reduceSub, Array.replicate_succ, Array.replicate_zero, List.push_toArray, List.append_toArray, List.nil_append, List.cons_append]
  gi_wp2
  have bO := Boxed.new w 22 (.slice none 0 0)
  have hB0 : Below w.heap.size w (w.alloc (.cells #[.slice none 0 0] 22)) := (Below.refl _ w).alloc (Nat.le_refl _) _
  refine wpIn_rangeFunc_ownG hro h1 (gf := 230) (lb := #[.pointer (some ⟨Bs, 0, none⟩)]) rfl h7 (enters_of Tryz.func230 (by kernel_rfl) rfl)
    (values_stops F (n - 1) h7 hro (by omega) Bs w.heap.size sv zs hlen _ (by simp; omega) (by simp) ((hB0.cell (p := ⟨Bs, 0, none⟩) hBs).trans hc) (hI.below hB0)) belowK_t (belowK_b (by simp)) (Below.refl _ _) (fun _ => rfl)
    (fun pre W => (∃ v, Boxed W w.heap.size 22 v ∧ W.ownsRow w.heap.size 29 1 v pre.length (pre.map (Value.int .u32)) ∧ True) ∧ Below w.heap.size w W)
    (fun _ _ _ => False)
    (OwnFrom.and (Own.from (holdsRow_own w.heap.size w.heap.size 22 29 1 (fun pre : List Int => pre.length) (fun pre : List Int => pre.map (Value.int .u32)) (fun _ _ => True)) _) (ownFrom_below (Nat.le_refl _) (by simp)))
    (fun _ _ _ _ _ hs _ _ => hs)
    ⟨⟨_, bO, World.ownsRow_nil _ _ _ _, trivial⟩, hB0⟩
    (fun x => { tmps := #[.slice none 0 0, .func (.func 230) #[] #[.pointer (some ⟨Bs, 0, none⟩)], .pointer (some ⟨w.heap.size, 0, none⟩), undef, .slice none 0 0, .int .u32 x, .func (.func 230) #[] #[.pointer (some ⟨Bs, 0, none⟩)], .int .u32 x, undef, undef, undef, undef, undef], defers := [] }) ?assign ?body ?done ?stop
  case assign =>
    intro l x W K hK
    gi_wp2
    exact hK
  case body =>
    rintro l pre x W ⟨⟨v, hv, hrow, _⟩, hB⟩ hlt
    have hc := hv.cell
    gi_wp2_with (gi_at_builtin; refine wpListIn_append_own _ rfl _ _ 22 rfl w.heap.size 29 i0 (.int .u32 0) 1 4 Tryz.underlying22 hi hz0 hz1 hz2 rfl (by decide) _ _ _ rfl (hrow.alloc _) ⟨W.heap.size, 0, none⟩ 1 1 [.int .u32 x] rfl rfl (cell_one_new _ _ _) (by simp [Value.oneCell']) (by simp only [maxLen]; omega) (by omega) (by have := hB.size; simp; omega) ?_; intro v' w1 hown' hgrow _; obtain ⟨g', cap', rfl⟩ := ownsRow_succ hown'; obtain ⟨hv1, hv2, hr2, hk2, hb2⟩ := hv.appended (by decide) hrow hB.size (Nat.le_refl _) hown' hgrow; have hc1 := hv1.cell; have hf1 := hv1.frozen)
    exact ⟨hk2.from _, hb2, ⟨_, hv2, by simpa using hr2, trivial⟩, hB.trans hb2⟩
  case done =>
    rintro D ys W hD rfl ⟨⟨v, hv, hrow, _⟩, hB⟩ hK
    have hc := hv.cell
    gi_wp2
    refine ⟨by simp, .inl ⟨_, _, rfl, run_takeDeferred hK, ?_⟩⟩
    exact ⟨_, results_tmp rfl _ _ _, v, rfl, ownsRow_putObj hrow _ hK rfl, hB.trans (belowK_b (w := w) (Nat.le_refl _) W D _ _ (by simp at hD; omega) hK rfl rfl)⟩
  case stop =>
    rintro D c pre W _ _ h _
    exact h.elim

set_option maxRecDepth 100000 in
set_option maxHeartbeats 1000000 in
/-- slices.Collect(slices.Values(s)). -/
theorem collect_in (F : Fence) (n : Nat) (h2 : F.fn 229) (h3 : F.fn 255) (h7 : F.fn 230) (hro : F.round = none) (hn : 4 ≤ n) (Bs : Nat) (sv : Value) (zs : List Int) (hlen : zs.length ≤ 1048576) (w : World) (hBs : Bs < w.heap.size)
    (hc : w.cell? ⟨Bs, 0, none⟩ = some sv) (hI : Ints w.heap.size w sv zs) :
    CallsIn F n Tryz.prog 229 #[.func (.func 230) #[] #[.pointer (some ⟨Bs, 0, none⟩)]] w fun e W' => ∃ v, e = .returned v ∧ W'.ownsRow w.heap.size 29 1 v zs.length (zs.map (Value.int .u32)) ∧ Below w.heap.size w W' := by
  have h1 : 1 ≤ n := by omega
  refine callsIn_of_wp Tryz.func229 rfl h2 ?_ hro
  simp only [Tryz.ntmps229, List.size_toArray, List.length_cons, List.length_nil, Nat.reduceAdd, Nat.reduceSub, Array.replicate_succ, Array.replicate_zero, List.push_toArray, List.append_toArray, List.nil_append, List.cons_append]
  gi_wp2_with (gi_at_call 255; refine (appendSeq_in F (n - 1) h3 h7 hro (by omega) Bs sv zs hlen _ hBs hc hI).mono ?_; rintro e w' ⟨v, rfl, hrow, hbel⟩)
  go_ret
  exact ⟨v, rfl, hrow, hbel⟩

end Go.Proofs.YtaiakdhcajibnaaGreat.Rg

namespace Go.Proofs.YtaiakdhcajibnaaGreat.Aw
open Go Go.RowKit
set_option linter.unusedSimpArgs false
set_option linter.unusedVariables false

theorem below_ext {w w' : World} (g : G) (h : Below w.heap.size w w') : Ext w g w' g :=
  ⟨h.os, h.tape, h.output, h.size, Nat.le_refl _, fun _ _ => rfl, fun _ _ => rfl, fun _ _ => rfl, fun b hb hn => ⟨hn, h.block b hb⟩, fun b k hb hk => ⟨k, hk, Nat.le_refl _, fun o _ => World.cell?_of_block (w := w) (h.block b hb)⟩⟩

theorem inv_below {w w' : World} {g : G} {st : St} (hi : Inv w g st) (h : Below w.heap.size w w') : Inv w' g st := by
  have he' := below_ext g h
  refine ⟨hi.next, hi.pos, hi.fresh, fun l hl => Nat.lt_of_lt_of_le (hi.lt l hl) h.size, hi.inj, ?_, ?_, ?_⟩
  · intro l e s n hl
    obtain ⟨h1, h2, h3, h4⟩ := hi.own l e s n hl
    refine ⟨h1, h2, h3, fun hnl => ?_⟩
    obtain ⟨cur, k1, k2, k3⟩ := h4 hnl
    exact ⟨cur, by rw [h.block _ (Array.getElem?_eq_some_iff.1 k1).1]; exact k1, k2, k3⟩
  · intro l e s cs hl
    obtain ⟨h1, h2, h3⟩ := hi.box l e s cs hl
    refine ⟨h1, h2, fun hnl => ?_⟩
    obtain ⟨cur, k1, k2, k3, k4, k5⟩ := h3 hnl
    exact ⟨cur, by rw [h.block _ (Array.getElem?_eq_some_iff.1 k1).1]; exact k1, k2, k3, RepL.mono he' _ _ k4, k5⟩
  · intro l ag ks es hl
    have hm := hi.mp l ag ks es hl
    exact hm.keep he' (hi.map_lt hl) (h.block _ hm.blk_lt) rfl

/-- A row that a call has laid is taken in as a box. -/
theorem adopt_row {w w' : World} {g : G} {st : St} (hi : Inv w g st) (h : Below w.heap.size w w') {e : TypeId} {v : Value} {zs : List Value} {cs : List LV} (hrow : w'.ownsRow w.heap.size e 1 v zs.length zs) (hr : ∀ w g, RepL w g cs zs) :
    ∃ g', Rep w' g' (.ms st.next 0 zs.length) v ∧ Inv w' g' (st.new (.box e 1 cs)) ∧ Ext w g w' g' := by
  have hi' := inv_below hi h
  have hcl : cs.length = zs.length := repL_length _ _ (hr w g)
  rcases hrow.2 with ⟨rfl, hn⟩ | ⟨b, cap, cur, rfl, hb, hcur, h1, h2, h3, h4⟩
  · have hcs : cs = [] := List.eq_nil_of_length_eq_zero (by omega)
    subst hcs
    refine ⟨g.addNil, ?_, inv_nil hi' _ (.inr ⟨_, _, rfl⟩), (below_ext g h).trans (ext_nil w' g)⟩
    simp only [Rep, hn]
    exact ⟨none, 0, rfl, Nat.le_refl _, Nat.zero_le _, by simp [G.addNil, hi.next], by simp, by simp [G.addNil, hi.next]⟩
  · have hnx := hi.next
    have hext : Ext w g w' (g.add b 0 cap false) := by
      refine ⟨h.os, h.tape, h.output, h.size, Nat.le_succ _, ?_, ?_, ?_, ?_, ?_⟩
      · intro l hl; simp [G.add, Nat.ne_of_lt hl]
      · intro l hl; simp [G.add, Nat.ne_of_lt hl]
      · intro l hl; simp [G.add, Nat.ne_of_lt hl]
      · intro x hx hn; exact ⟨by simp only [G.add]; rw [if_neg (by omega)]; exact hn, h.block x hx⟩
      · intro x k hx hk; exact ⟨k, by simp only [G.add]; rw [if_neg (by omega)]; exact hk, Nat.le_refl _, fun o _ => World.cell?_of_block (w := w) (h.block x hx)⟩
    have hold : ∀ l, blk g st l → g.β l ≠ b := fun l hl => by have := hi.lt l hl; omega
    have hblt : b < w'.heap.size := (Array.getElem?_eq_some_iff.1 hcur).1
    refine ⟨g.add b 0 cap false, ?_, ?_, hext⟩
    · simp only [Rep, G.add, hnx, if_pos]
      exact ⟨_, cap, rfl, h1, h2, fun _ => ⟨rfl, fun _ => rfl⟩, fun _ => rfl, Nat.lt_succ_self _⟩
    · refine ⟨by simp [G.add, St.new, hnx], by simp [St.new], ?_, ?_, ?_, ?_, ?_, ?_⟩
      · intro l hl
        simp only [St.new] at hl ⊢
        rw [if_neg (by omega)]
        exact hi.fresh l (by omega)
      · intro l hl
        by_cases e0 : l = st.next
        · subst e0; simp [G.add, hnx, hblt]
        · rw [blk_old hnx e0] at hl
          have := hi'.lt l hl
          simp only [G.add, hnx, if_neg e0]; exact this
      · intro l l' hl hl' hbb
        by_cases e0 : l = st.next <;> by_cases e1 : l' = st.next
        · omega
        · rw [blk_old hnx e1] at hl'
          simp only [G.add, hnx, if_pos e0, if_neg e1] at hbb
          exact absurd hbb.symm (hold l' hl')
        · rw [blk_old hnx e0] at hl
          simp only [G.add, hnx, if_pos e1, if_neg e0] at hbb
          exact absurd hbb (hold l hl)
        · rw [blk_old hnx e0] at hl
          rw [blk_old hnx e1] at hl'
          simp only [G.add, hnx, if_neg e1, if_neg e0] at hbb
          exact hi.inj l l' hl hl' hbb
      · intro l e' s n hl
        by_cases e0 : l = st.next
        · simp [St.new, e0] at hl
        · simp only [St.new, if_neg e0] at hl
          obtain ⟨q1, q2, q3, q4⟩ := hi'.own l e' s n hl
          simp only [G.add, hnx, if_neg e0]
          refine ⟨q1, q2, q3, fun hnl => ?_⟩
          obtain ⟨c', k1, k2, k3⟩ := q4 hnl
          have hne := hold l (by unfold blk; rw [hl]; exact hnl)
          exact ⟨c', k1, k2, by rw [if_neg hne]; exact k3⟩
      · intro l e' s' cs' hl
        by_cases e0 : l = st.next
        · simp only [St.new, if_pos e0] at hl
          injection hl with a1 a2 a3
          subst a1 a2 a3
          refine ⟨?_, ?_, fun _ => ⟨cur.toList, ?_, ?_, ?_, ?_, ?_⟩⟩
          · simp only [G.add, hnx, if_pos e0]; exact h2
          · simp [G.add, hnx, e0]
          · simp only [G.add, hnx, if_pos e0]; simpa using hcur
          · simp only [G.add, hnx, if_pos e0]; simpa using h3
          · simp only [Array.length_toList]; omega
          · have : cur.toList.take cs.length = zs := by rw [hcl]; simpa using h4
            rw [this]; exact hr _ _
          · simp [G.add, hnx, e0]
        · simp only [St.new, if_neg e0] at hl
          obtain ⟨k3, k0, k'⟩ := hi'.box l e' s' cs' hl
          refine ⟨?_, ?_, fun hnl => ?_⟩
          · simp only [G.add, hnx, if_neg e0]; exact k3
          · simp only [G.add, hnx, if_neg e0]; exact k0
          simp only [G.add, hnx, if_neg e0] at hnl
          obtain ⟨cur', k1, k2, k4, k5, k6⟩ := k' hnl
          have hne := hold l (by unfold blk; rw [hl]; exact hnl)
          obtain ⟨_, _, k'⟩ := hi.box l e' s' cs' hl
          obtain ⟨cur2, m1, m2, m4, m5, m6⟩ := k' hnl
          have hlt := (Array.getElem?_eq_some_iff.1 m1).1
          refine ⟨cur2, ?_, ?_, m4, RepL.mono hext _ _ m5, ?_⟩
          · simp only [G.add, hnx, if_neg e0]; rw [h.block _ hlt]; exact m1
          · simp only [G.add, hnx, if_neg e0]; exact m2
          · simp only [G.add, hnx, if_neg e0]; rw [if_neg hne]; exact m6
      · intro l ag ks es hl
        by_cases e0 : l = st.next
        · simp [St.new, e0] at hl
        · simp only [St.new, if_neg e0] at hl
          have hm := hi.mp l ag ks es hl
          exact hm.keep hext (hi.map_lt hl) (h.block _ hm.blk_lt) (by simp only [G.add]; rw [if_neg (hold l (hi.map_blk hl))])

theorem repL_us (w : World) (g : G) : ∀ l : List Int, RepL w g (us l) (l.map (Value.int .u32))
  | [] => by simp [RepL]
  | a :: l => by simp only [List.map_cons, RepL, Rep]; exact ⟨_, _, rfl, rfl, repL_us w g l⟩
theorem us_vals {w : World} {g : G} : ∀ (l : List Int) (ws : List Value), RepL w g (us l) ws → ws = l.map (Value.int .u32)
  | [], ws, h => by simpa [RepL] using h
  | a :: l, ws, h => by
    simp only [List.map_cons, RepL, Rep] at h
    obtain ⟨v, ws', rfl, rfl, h2⟩ := h
    rw [us_vals l ws' h2]; rfl

theorem Collect (l : List Int) (x : LV) (q : Nat) (st : St) (hl : l.length ≤ 1048576) (hH : st.H q = .box 22 1 [x]) (hx : srcT tab 22 st x = some (l.length, us l)) :
    ACalls Tryz.prog 229 [.fn (.func 230) [.pt q 0]] st fun r st' => r = .ms st.next 0 l.length ∧ st' = st.new (.box 29 1 (us l)) := by
  refine ⟨enters_of Tryz.func229 (by kernel_rfl) rfl, fun w g vs hi hr => ?_⟩
  simp only [RepL, Rep] at hr
  obtain ⟨v, _, rfl, ⟨us1, rfl, v1, _, rfl, ⟨rfl, hq⟩, rfl⟩, rfl⟩ := hr
  obtain ⟨_, b2, b3⟩ := hi.box q _ _ _ hH
  have hnl : g.nl q = false := by
    cases hn : g.nl q with
    | false => rfl
    | true => obtain ⟨_, h⟩ := b2 hn; cases h
  obtain ⟨cur, k1, k2, k3, k4, k5⟩ := b3 hnl
  simp only [List.length_cons, List.length_nil, Nat.zero_add, RepL] at k4 k3
  obtain ⟨sv, rest, hsv, hrep, _⟩ := k4
  have hc0 : w.cell? ⟨g.β q, 0, none⟩ = some sv := by
    rw [cell_of_row w _ _ _ _ _ k1]
    cases cur with
    | nil => simp at k3
    | cons a cur => simp at hsv; simp [hsv.1]
  have hI : Rg.Ints w.heap.size w sv l := by
    obtain ⟨A, cap, rfl, hrw⟩ := src_sound hi hx hrep
    by_cases hl0 : l = []
    · subst hl0; exact .inl ⟨rfl, A, cap, rfl⟩
    · obtain ⟨b, o, ws, rfl, m1, m2⟩ := hrw (by cases l with | nil => exact absurd rfl hl0 | cons a l => simp)
      have hws := us_vals l ws m1
      refine .inr ⟨b, o, cap, rfl, ?_, fun j hj => ?_⟩
      · have h0 := m2 0 (by cases l with | nil => exact absurd rfl hl0 | cons a l => simp)
        rw [hws] at h0
        cases l with
        | nil => exact absurd rfl hl0
        | cons a l => exact cell_lt (a := ⟨b, o + 0, none⟩) (v := .int .u32 a) (by simpa using h0)
      · rw [m2 j (by simpa using hj), hws]
        simp [hj]
  refine (((Rg.collect_in Fence.wide 4 trivial trivial trivial rfl (Nat.le_refl _) (g.β q) sv l hl w (cell_lt hc0) hc0 hI).calls room_wide)).mono ?_
  rintro e w' ⟨v, rfl, hrow, hbel⟩
  have hlen : l.length = (l.map (Value.int .u32)).length := by simp
  rw [hlen] at hrow
  obtain ⟨g', h1, h2, h3⟩ := adopt_row (cs := us l) hi hbel hrow (fun w g => repL_us w g l)
  rw [← hlen] at h1
  exact ⟨v, _, _, g', rfl, ⟨rfl, rfl⟩, h1, h2, h3⟩

/-- The evaluator's own word for Collect(Values(..)). -/
def prim : XCall := fun f args st => if f = 229 then match args with
    | [.fn (.func g) [.pt q 0]] => if g = 230 then match st.H q with
        | .box e s [x] => if e = 22 ∧ s = 1 then match srcT tab 22 st x with
            | some (n, ds) => match intsL ds with
              | some (ks, ns) => if (ks.all fun k => decide (k = .u32)) = true ∧ ns.length = n ∧ n ≤ 1048576 then some [(.ms st.next 0 n, st.new (.box 29 1 (us ns)))] else none
              | none => none
            | none => none
          else none
        | _ => none
      else none
    | _ => none
  else none

theorem intsL_us : ∀ (ds : List LV) (ks : List IntKind) (ns : List Int), intsL ds = some (ks, ns) → (ks.all fun k => decide (k = .u32)) = true → ds = us ns
  | [], ks, ns, h, _ => by simp only [intsL, Option.some.injEq, Prod.mk.injEq] at h; obtain ⟨rfl, rfl⟩ := h; rfl
  | c :: ds, ks, ns, h, ha => by
    cases c with
    | atom x =>
      cases x with
      | int k n =>
        simp only [intsL] at h
        cases hi : intsL ds with
        | none => simp [hi] at h
        | some p =>
          obtain ⟨ks', ns'⟩ := p
          simp only [hi, Option.some.injEq, Prod.mk.injEq] at h
          obtain ⟨rfl, rfl⟩ := h
          simp only [List.all_cons, Bool.and_eq_true, decide_eq_true_eq] at ha
          obtain ⟨rfl, ha⟩ := ha
          rw [intsL_us ds ks' ns' hi ha]; rfl
      | _ => simp [intsL] at h
    | _ => simp [intsL] at h

theorem prim_ok : CallOk Tryz.prog prim := by
  intro f args st rs h
  unfold prim at h
  split at h
  · rename_i hf
    subst hf
    split at h
    · rename_i g q
      split at h
      · rename_i hg
        subst hg
        split at h
        · rename_i e s x hH
          split at h
          · rename_i hes
            obtain ⟨rfl, rfl⟩ := hes
            split at h
            · rename_i n ds hsrc
              split at h
              · rename_i ks ns hin
                split at h
                · rename_i hc
                  obtain ⟨c1, rfl, c3⟩ := hc
                  injection h with h
                  subst h
                  have := intsL_us ds ks ns hin c1
                  subst this
                  exact (Collect ns x q st c3 hH hsrc).mono (by rintro r st' ⟨rfl, rfl⟩; simp)
                · cases h
              · cases h
            · cases h
          · cases h
        · cases h
      · cases h
    · cases h
  · cases h

end Go.Proofs.YtaiakdhcajibnaaGreat.Aw

namespace Go.Proofs.YtaiakdhcajibnaaGreat.Aw
open Go Go.RowKit
set_option linter.unusedSimpArgs false
set_option linter.unusedVariables false
theorem awake32 (st : St) : ACalls Tryz.prog 14 [] st fun r st' => r = bb true ∧ st' = st :=
  acalls_closed tabOk fnsOk prim_ok mixed 1000000 true (by kernel_rfl)
end Go.Proofs.YtaiakdhcajibnaaGreat.Aw

namespace Go.Proofs.YtaiakdhcajibnaaGreat.Aw
open Go Go.RowKit
set_option linter.unusedSimpArgs false
set_option linter.unusedVariables false

/-- A map: a graph, and its turns. -/
structure Mp where
  g : Gr
  rots : List (List Int)
  deriving DecidableEq
abbrev rowsL (rs : List (List Int)) : List LV := rs.map fun r => .sl 0 r.length (us r)
abbrev mpL (m : Mp) : List LV := grL m.g ++ [.sl 0 m.rots.length (rowsL m.rots)]

theorem rowsL_drop (rs : List (List Int)) (k : Nat) (hk : k < rs.length) : (rowsL rs).drop k = .sl 0 (rs.getD k []).length (us (rs.getD k [])) :: (rowsL rs).drop (k + 1) := by
  unfold rowsL
  rw [List.drop_eq_getElem_cons (by simpa using hk)]
  simp [hk]

def Mp.ok (m : Mp) : Prop := m.g.ok ∧ m.rots.length ≤ maxLen ∧ ∀ r ∈ m.rots, r.length ≤ maxLen ∧ ∀ x ∈ r, U32 x
theorem shp_mp {lvs : List LV} (h : Shp tab 28 lvs) : ∃ m : Mp, lvs = mpL m ∧ m.ok := by
  obtain ⟨ps, rfl, h1, h2⟩ := shp_struct rfl rfl h
  match ps, h1 with
  | [p, q], _ =>
    obtain ⟨g, rfl, k1⟩ := shp_gr (h2 0 _ p rfl rfl)
    obtain ⟨l, rfl, k3, k4⟩ := shp_uss (h2 1 _ q rfl rfl)
    exact ⟨⟨g, l⟩, rfl, k1, k3, k4⟩

end Go.Proofs.YtaiakdhcajibnaaGreat.Aw

namespace Go.Proofs.YtaiakdhcajibnaaGreat.Aw
open Go Go.RowKit
set_option linter.unusedSimpArgs false
set_option linter.unusedVariables false

theorem mget_mset (es : List (List Int × LV)) (a x : List Int) (v : LV) : mget (mset es a v) x = if x = a then some v else mget es x := by
  induction es with
  | nil =>
    simp only [mset, mget, beq_iff_eq]
  | cons p es ih =>
    by_cases h : a = p.1
    · have : mset (p :: es) a v = (a, v) :: es := by simp [mset, h]
      rw [this]
      simp only [mget, beq_iff_eq]
      by_cases hx : x = a
      · simp [hx]
      · have : ¬ x = p.1 := by rw [← h]; exact hx
        simp [hx, this]
    · have : mset (p :: es) a v = p :: mset es a v := by simp [mset, h]
      rw [this]
      simp only [mget, beq_iff_eq]
      by_cases hx : x = p.1
      · have : ¬ x = a := fun h' => h (by rw [← h', hx])
        rw [if_pos hx, if_neg this, if_pos hx]
      · simp [hx, ih]

end Go.Proofs.YtaiakdhcajibnaaGreat.Aw

namespace Go.Proofs.YtaiakdhcajibnaaGreat.Aw
open Go Go.RowKit Go.Proofs.YtaiakdhcajibnaaGreat.Pl
set_option linter.unusedSimpArgs false
set_option linter.unusedVariables false

@[simp] theorem new_set (st : St) (a b : LObj) : (st.new a).set st.next b = st.new b := St.ext' rfl fun y => by by_cases hy : y = st.next <;> simp [hy]

theorem eds_length (l : List Ed) : (eds l).length = l.length * 3 := by
  induction l with
  | nil => rfl
  | cons e l ih => simp only [eds, List.flatMap_cons, List.length_append, List.length_cons, List.length_nil] at ih ⊢; omega
abbrev ed0 : Ed := ⟨0, 0, 0⟩
theorem eds_drop (l : List Ed) (k : Nat) (hk : k < l.length) : (eds l).drop (k * 3) = u (l.getD k ed0).id :: u (l.getD k ed0).a :: u (l.getD k ed0).b :: eds (l.drop (k + 1)) := by
  induction l generalizing k with
  | nil => simp at hk
  | cons e l ih =>
    cases k with
    | zero => rfl
    | succ k =>
      have : (k + 1) * 3 = k * 3 + 1 + 1 + 1 := by omega
      rw [this]
      simp only [eds, List.flatMap_cons, edL, List.cons_append, List.drop_succ_cons, List.nil_append, List.getD_cons_succ]
      exact ih k (by simpa using hk)

/-- The first of some numbers that isn't 0. -/
def firstNZ (f : Nat → Int) : Nat → Int
  | 0 => 0
  | n + 1 => if firstNZ f n ≠ 0 then firstNZ f n else f n
theorem firstNZ_zero {f : Nat → Int} {n : Nat} (h : ∀ j, j < n → f j = 0) : firstNZ f n = 0 := by
  induction n with
  | zero => rfl
  | succ n ih => simp [firstNZ, ih (fun j hj => h j (by omega)), h n (by omega)]
theorem firstNZ_eq {f : Nat → Int} {n k : Nat} {v : Int} (hk : k < n) (h : ∀ j, j < k → f j = 0) (hv : f k = v) (h0 : v ≠ 0) : firstNZ f n = v := by
  induction n with
  | zero => omega
  | succ n ih =>
    rcases Nat.lt_or_ge k n with h1 | h1
    · have := ih h1
      simp [firstNZ, this, h0]
    · have : k = n := by omega
      subst this
      simp [firstNZ, firstNZ_zero h, hv]

def numb (n ahead : Int) (first : Bool) : Int := if n < 1 ∨ 1048576 < n then 2 else if first = false ∧ n ≤ ahead then 19 else 0
def badV (g : Gr) (k : Nat) : Int := numb (g.vs.getD k 0) (g.vs.getD (k - 1) 0) (decide (k = 0))
def badE (g : Gr) (k : Nat) : Int :=
  let x := g.es.getD k ed0
  let n := numb x.id (g.es.getD (k - 1) ed0).id (decide (k = 0))
  if n ≠ 0 then n else if x.a = x.b then 20 else if x.a ∉ g.vs ∨ x.b ∉ g.vs then 21 else 0
/-- What Check answers. -/
def chk (g : Gr) : Int := if 64 < g.vs.length ∨ 160 < g.es.length then 6 else if firstNZ (badV g) g.vs.length ≠ 0 then firstNZ (badV g) g.vs.length else firstNZ (badE g) g.es.length

theorem Has (g : Gr) (v : Int) (st : St) (hl : small g.vs) :
    ACalls Tryz.prog 98 [.ag (grL g), u v] st fun r st' => r = bb (decide (v ∈ g.vs)) ∧ Keeps st st' := by
  obtain ⟨l, es⟩ := g
  simp only at hl ⊢
  unfold small at hl
  refine acalls_of_body tabOk Tryz.func98 rfl rfl Tryz.ntmps98 (rs := [.tmp 4]) rfl (by simp) ?_
  (repeat' (first | refine awp_seq ?_ | refine awp_block ?_ | ((first | refine awp_skip ?_ | refine awp_exit ?_); simp only [ak, reduceIte]) | (refine awp_ret ?_; simp only [ak, reduceIte]; simp []) | (refine awp_cond ?_; simp []; (try with_reducible refine ⟨?_, ?_⟩) <;> (try with_reducible intro hc) <;> try (exfalso; omega)) | ((first | (refine w_e [] ?_; intro J hJ; simp only []) | (refine w_q ?_; intro J hJ) | refine e_go ?_); simp []; (repeat refine ca ?_); (try ((try with_reducible refine ⟨?_, ?_⟩) <;> (try with_reducible intro hnil) <;> refine hJ _ _ ?_ <;> clear hJ J <;> simp only [ak, reduceIte] <;> try subst hnil)))))
  refine awp_loop (fun n fr st' => ∃ k : Nat, k ≤ l.length ∧ n = l.length - k ∧ fr 8 = .sl 0 l.length (us l) ∧ fr 1 = u v ∧ fr 9 = i l.length ∧ fr 10 = i k ∧ Keeps st st' ∧ ∀ j (hj : j < l.length), j < k → l[j] ≠ v) l.length ?_ ?_
  · exact ⟨0, by omega, by omega, by simp, by simp, by simp, by simp, Keeps.new _ _, fun j _ h => by omega⟩
  rintro n fr st' ⟨k, hk, rfl, h8, h1, h9, h10, hkp, hno⟩ JJ hJJ
  by_cases hlt : k < l.length
  · have hd := us_drop_head l k hlt
    have hw := nat_add_one k (by omega)
    (repeat' (first | refine awp_seq ?_ | refine awp_block ?_ | ((first | refine awp_skip ?_ | refine awp_exit ?_); simp only [ak, reduceIte]) | (refine awp_ret ?_; simp only [ak, reduceIte]; simp [h8, h1, h9, h10, hlt, hd, hw]) | (refine awp_cond ?_; simp [h8, h1, h9, h10, hlt, hd, hw]; (try with_reducible refine ⟨?_, ?_⟩) <;> (try with_reducible intro hc) <;> try (exfalso; omega)) | ((first | (refine w_e [] ?_; intro J hJ; simp only []) | (refine w_q ?_; intro J hJ) | refine e_go ?_); simp [h8, h1, h9, h10, hlt, hd, hw]; (repeat refine ca ?_); (try ((try with_reducible refine ⟨?_, ?_⟩) <;> (try with_reducible intro hnil) <;> refine hJ _ _ ?_ <;> clear hJ J <;> simp only [ak, reduceIte] <;> try subst hnil)))))
    · exact ⟨by rw [← hc]; exact List.getElem_mem hlt, hkp⟩
    · refine hJJ _ _ _ ?_ ⟨k + 1, by omega, rfl, by simp [h8], by simp [h1], by simp [h9], by simp, hkp, fun j hj hjk => ?_⟩
      · omega
      · rcases Nat.lt_or_ge j k with h | h
        · exact hno j hj h
        · obtain rfl : j = k := by omega
          exact hc
  · (repeat' (first | refine awp_seq ?_ | refine awp_block ?_ | ((first | refine awp_skip ?_ | refine awp_exit ?_); simp only [ak, reduceIte]) | (refine awp_ret ?_; simp only [ak, reduceIte]; simp [h8, h1, h9, h10, hlt]) | (refine awp_cond ?_; simp [h8, h1, h9, h10, hlt]; (try with_reducible refine ⟨?_, ?_⟩) <;> (try with_reducible intro hc) <;> try (exfalso; omega)) | ((first | (refine w_e [] ?_; intro J hJ; simp only []) | (refine w_q ?_; intro J hJ) | refine e_go ?_); simp [h8, h1, h9, h10, hlt]; (repeat refine ca ?_); (try ((try with_reducible refine ⟨?_, ?_⟩) <;> (try with_reducible intro hnil) <;> refine hJ _ _ ?_ <;> clear hJ J <;> simp only [ak, reduceIte] <;> try subst hnil)))))
    refine ⟨fun hm => ?_, hkp⟩
    obtain ⟨j, hj, rfl⟩ := List.getElem_of_mem hm
    exact hno j hj (by omega) rfl

theorem number (n ahead : Int) (first : Bool) (st : St) :
    ACalls Tryz.prog 228 [u n, u ahead, bb first] st fun r st' => r = i (numb n ahead first) ∧ st' = st := by
  unfold numb
  refine acalls_of_body tabOk Tryz.func228 rfl rfl Tryz.ntmps228 (rs := [.tmp 6]) rfl (by simp) ?_
  by_cases h1 : n < 1
  · (repeat' (first | refine awp_seq ?_ | refine awp_block ?_ | ((first | refine awp_skip ?_ | refine awp_exit ?_); simp only [ak, reduceIte]) | (refine awp_ret ?_; simp only [ak, reduceIte]; simp [h1]) | (refine awp_cond ?_; simp [h1]; (try with_reducible refine ⟨?_, ?_⟩) <;> (try with_reducible intro hc) <;> try (exfalso; omega)) | ((first | (refine w_e [] ?_; intro J hJ; simp only []) | (refine w_q ?_; intro J hJ) | refine e_go ?_); simp [h1]; (repeat refine ca ?_); (try ((try with_reducible refine ⟨?_, ?_⟩) <;> (try with_reducible intro hnil) <;> refine hJ _ _ ?_ <;> clear hJ J <;> simp only [ak, reduceIte] <;> try subst hnil)))))
  by_cases h2 : 1048576 < n
  · (repeat' (first | refine awp_seq ?_ | refine awp_block ?_ | ((first | refine awp_skip ?_ | refine awp_exit ?_); simp only [ak, reduceIte]) | (refine awp_ret ?_; simp only [ak, reduceIte]; simp [h1, h2]) | (refine awp_cond ?_; simp [h1, h2]; (try with_reducible refine ⟨?_, ?_⟩) <;> (try with_reducible intro hc) <;> try (exfalso; omega)) | ((first | (refine w_e [] ?_; intro J hJ; simp only []) | (refine w_q ?_; intro J hJ) | refine e_go ?_); simp [h1, h2]; (repeat refine ca ?_); (try ((try with_reducible refine ⟨?_, ?_⟩) <;> (try with_reducible intro hnil) <;> refine hJ _ _ ?_ <;> clear hJ J <;> simp only [ak, reduceIte] <;> try subst hnil)))))
  cases first
  · by_cases h3 : n ≤ ahead
    · (repeat' (first | refine awp_seq ?_ | refine awp_block ?_ | ((first | refine awp_skip ?_ | refine awp_exit ?_); simp only [ak, reduceIte]) | (refine awp_ret ?_; simp only [ak, reduceIte]; simp [h1, h2, h3]) | (refine awp_cond ?_; simp [h1, h2, h3]; (try with_reducible refine ⟨?_, ?_⟩) <;> (try with_reducible intro hc) <;> try (exfalso; omega)) | ((first | (refine w_e [] ?_; intro J hJ; simp only []) | (refine w_q ?_; intro J hJ) | refine e_go ?_); simp [h1, h2, h3]; (repeat refine ca ?_); (try ((try with_reducible refine ⟨?_, ?_⟩) <;> (try with_reducible intro hnil) <;> refine hJ _ _ ?_ <;> clear hJ J <;> simp only [ak, reduceIte] <;> try subst hnil)))))
    · (repeat' (first | refine awp_seq ?_ | refine awp_block ?_ | ((first | refine awp_skip ?_ | refine awp_exit ?_); simp only [ak, reduceIte]) | (refine awp_ret ?_; simp only [ak, reduceIte]; simp [h1, h2, h3]) | (refine awp_cond ?_; simp [h1, h2, h3]; (try with_reducible refine ⟨?_, ?_⟩) <;> (try with_reducible intro hc) <;> try (exfalso; omega)) | ((first | (refine w_e [] ?_; intro J hJ; simp only []) | (refine w_q ?_; intro J hJ) | refine e_go ?_); simp [h1, h2, h3]; (repeat refine ca ?_); (try ((try with_reducible refine ⟨?_, ?_⟩) <;> (try with_reducible intro hnil) <;> refine hJ _ _ ?_ <;> clear hJ J <;> simp only [ak, reduceIte] <;> try subst hnil)))))
  · (repeat' (first | refine awp_seq ?_ | refine awp_block ?_ | ((first | refine awp_skip ?_ | refine awp_exit ?_); simp only [ak, reduceIte]) | (refine awp_ret ?_; simp only [ak, reduceIte]; simp [h1, h2]) | (refine awp_cond ?_; simp [h1, h2]; (try with_reducible refine ⟨?_, ?_⟩) <;> (try with_reducible intro hc) <;> try (exfalso; omega)) | ((first | (refine w_e [] ?_; intro J hJ; simp only []) | (refine w_q ?_; intro J hJ) | refine e_go ?_); simp [h1, h2]; (repeat refine ca ?_); (try ((try with_reducible refine ⟨?_, ?_⟩) <;> (try with_reducible intro hnil) <;> refine hJ _ _ ?_ <;> clear hJ J <;> simp only [ak, reduceIte] <;> try subst hnil)))))

end Go.Proofs.YtaiakdhcajibnaaGreat.Aw

namespace Go.Proofs.YtaiakdhcajibnaaGreat.Aw
open Go Go.RowKit Go.Proofs.YtaiakdhcajibnaaGreat.Pl
set_option linter.unusedSimpArgs false
set_option linter.unusedVariables false

theorem ref_Check (g : Gr) (st : St) (hv : g.vs.length ≤ 1000) (he : g.es.length ≤ 1000) :
    ACalls Tryz.prog 41 [.ag (grL g)] st fun r st' => r = i (chk g) ∧ Keeps st st' := by
  have hsm : small g.vs := by unfold small; omega
  refine acalls_of_body tabOk Tryz.func41 rfl rfl Tryz.ntmps41 (rs := [.tmp 2]) rfl (by simp) ?_
  by_cases h1 : (64 : Int) < (g.vs.length : Int)
  · have : chk g = 6 := by unfold chk; rw [if_pos (by omega)]
    (repeat' (first | refine awp_seq ?_ | refine awp_block ?_ | ((first | refine awp_skip ?_ | refine awp_exit ?_); simp only [ak, reduceIte]) | (refine awp_ret ?_; simp only [ak, reduceIte]; simp [h1, this]) | (refine awp_cond ?_; simp [h1, this]; (try with_reducible refine ⟨?_, ?_⟩) <;> (try with_reducible intro hc) <;> try (exfalso; omega)) | ((first | (refine w_e [] ?_; intro J hJ; simp only []) | (refine w_q ?_; intro J hJ) | refine e_go ?_); simp [h1, this]; (repeat refine ca ?_); (try ((try with_reducible refine ⟨?_, ?_⟩) <;> (try with_reducible intro hnil) <;> refine hJ _ _ ?_ <;> clear hJ J <;> simp only [ak, reduceIte] <;> try subst hnil)))))
    exact Keeps.new _ _
  by_cases h2 : (160 : Int) < (g.es.length : Int)
  · have : chk g = 6 := by unfold chk; rw [if_pos (by omega)]
    (repeat' (first | refine awp_seq ?_ | refine awp_block ?_ | ((first | refine awp_skip ?_ | refine awp_exit ?_); simp only [ak, reduceIte]) | (refine awp_ret ?_; simp only [ak, reduceIte]; simp [h1, h2, this]) | (refine awp_cond ?_; simp [h1, h2, this]; (try with_reducible refine ⟨?_, ?_⟩) <;> (try with_reducible intro hc) <;> try (exfalso; omega)) | ((first | (refine w_e [] ?_; intro J hJ; simp only []) | (refine w_q ?_; intro J hJ) | refine e_go ?_); simp [h1, h2, this]; (repeat refine ca ?_); (try ((try with_reducible refine ⟨?_, ?_⟩) <;> (try with_reducible intro hnil) <;> refine hJ _ _ ?_ <;> clear hJ J <;> simp only [ak, reduceIte] <;> try subst hnil)))))
    exact Keeps.new _ _
  have hch : chk g = if firstNZ (badV g) g.vs.length ≠ 0 then firstNZ (badV g) g.vs.length else firstNZ (badE g) g.es.length := by unfold chk; rw [if_neg (by omega)]
  (repeat' (first | refine awp_seq ?_ | refine awp_block ?_ | ((first | refine awp_skip ?_ | refine awp_exit ?_); simp only [ak, reduceIte]) | (refine awp_ret ?_; simp only [ak, reduceIte]; simp [h1, h2]) | (refine awp_cond ?_; simp [h1, h2]; (try with_reducible refine ⟨?_, ?_⟩) <;> (try with_reducible intro hc) <;> try (exfalso; omega)) | ((first | (refine w_e [] ?_; intro J hJ; simp only []) | (refine w_q ?_; intro J hJ) | refine e_go ?_); simp [h1, h2]; (repeat refine ca ?_); (try ((try with_reducible refine ⟨?_, ?_⟩) <;> (try with_reducible intro hnil) <;> refine hJ _ _ ?_ <;> clear hJ J <;> simp only [ak, reduceIte] <;> try subst hnil)))))
  refine awp_loop (fun n fr st' => ∃ k : Nat, k ≤ g.vs.length ∧ n = g.vs.length - k ∧ fr 1 = .pt st.next 0 ∧ fr 18 = .sl 0 g.vs.length (us g.vs) ∧ fr 19 = i g.vs.length ∧ fr 20 = i k ∧ st' = st.new (.box 25 2 (grL g)) ∧ ∀ j, j < k → badV g j = 0) g.vs.length ?_ ?_
  · exact ⟨0, by omega, by omega, by simp, by simp, by simp, by simp, rfl, fun j h => by omega⟩
  rintro n fr st' ⟨k, hk, rfl, f1, f18, f19, f20, rfl, hno⟩ JJ hJJ
  by_cases hlt : k < g.vs.length
  · have hd := us_drop_getD g.vs k hlt
    have hw := nat_add_one k (by omega)
    have hbad : badV g k = numb (g.vs.getD k 0) (g.vs.getD (k - 1) 0) (decide (k = 0)) := rfl
    have hnext : badV g k = 0 → ∀ j, j < k + 1 → badV g j = 0 := fun hb j hj => by
      rcases Nat.lt_or_ge j k with h | h
      · exact hno j h
      · obtain rfl : j = k := by omega
        exact hb
    have hret : ∀ v, badV g k = v → v ≠ 0 → chk g = v := fun v h0 h1 => by
      have hf := firstNZ_eq hlt hno h0 h1
      rw [hch, hf, if_pos h1]
    generalize hx : g.vs.getD k 0 = x at *
    by_cases hx1 : x < 1
    · have hr := hret 2 (by rw [hbad]; unfold numb; rw [if_pos (.inl hx1)]) (by decide)
      (repeat' (first | refine awp_seq ?_ | refine awp_block ?_ | ((first | refine awp_skip ?_ | refine awp_exit ?_); simp only [ak, reduceIte]) | (refine awp_ret ?_; simp only [ak, reduceIte]; simp [f1, f18, f19, f20, hlt, hd, hw, hx1, hr]) | (refine awp_cond ?_; simp [f1, f18, f19, f20, hlt, hd, hw, hx1, hr]; (try with_reducible refine ⟨?_, ?_⟩) <;> (try with_reducible intro hc) <;> try (exfalso; omega)) | ((first | (refine w_e [] ?_; intro J hJ; simp only []) | (refine w_q ?_; intro J hJ) | refine e_go ?_); simp [f1, f18, f19, f20, hlt, hd, hw, hx1, hr]; (repeat refine ca ?_); (try ((try with_reducible refine ⟨?_, ?_⟩) <;> (try with_reducible intro hnil) <;> refine hJ _ _ ?_ <;> clear hJ J <;> simp only [ak, reduceIte] <;> try subst hnil)))))
      exact Keeps.new _ _
    by_cases hx2 : 1048576 < x
    · have hr := hret 2 (by rw [hbad]; unfold numb; rw [if_pos (.inr hx2)]) (by decide)
      (repeat' (first | refine awp_seq ?_ | refine awp_block ?_ | ((first | refine awp_skip ?_ | refine awp_exit ?_); simp only [ak, reduceIte]) | (refine awp_ret ?_; simp only [ak, reduceIte]; simp [f1, f18, f19, f20, hlt, hd, hw, hx1, hx2, hr]) | (refine awp_cond ?_; simp [f1, f18, f19, f20, hlt, hd, hw, hx1, hx2, hr]; (try with_reducible refine ⟨?_, ?_⟩) <;> (try with_reducible intro hc) <;> try (exfalso; omega)) | ((first | (refine w_e [] ?_; intro J hJ; simp only []) | (refine w_q ?_; intro J hJ) | refine e_go ?_); simp [f1, f18, f19, f20, hlt, hd, hw, hx1, hx2, hr]; (repeat refine ca ?_); (try ((try with_reducible refine ⟨?_, ?_⟩) <;> (try with_reducible intro hnil) <;> refine hJ _ _ ?_ <;> clear hJ J <;> simp only [ak, reduceIte] <;> try subst hnil)))))
      exact Keeps.new _ _
    by_cases h0 : k = 0
    · have hb : badV g k = 0 := by rw [hbad]; unfold numb; rw [if_neg (by simp [hx1, hx2])]; simp [h0]
      have hk0 : ¬ 0 < k := by omega
      (repeat' (first | refine awp_seq ?_ | refine awp_block ?_ | ((first | refine awp_skip ?_ | refine awp_exit ?_); simp only [ak, reduceIte]) | (refine awp_ret ?_; simp only [ak, reduceIte]; simp [f1, f18, f19, f20, hlt, hd, hw, hx1, hx2, hk0]) | (refine awp_cond ?_; simp [f1, f18, f19, f20, hlt, hd, hw, hx1, hx2, hk0]; (try with_reducible refine ⟨?_, ?_⟩) <;> (try with_reducible intro hc) <;> try (exfalso; omega)) | ((first | (refine w_e [] ?_; intro J hJ; simp only []) | (refine w_q ?_; intro J hJ) | refine e_go ?_); simp [f1, f18, f19, f20, hlt, hd, hw, hx1, hx2, hk0]; (repeat refine ca ?_); (try ((try with_reducible refine ⟨?_, ?_⟩) <;> (try with_reducible intro hnil) <;> refine hJ _ _ ?_ <;> clear hJ J <;> simp only [ak, reduceIte] <;> try subst hnil)))))
      refine hJJ _ _ _ ?_ ⟨k + 1, by omega, rfl, by simp [f1], by simp [f18], by simp [f19], by simp, rfl, hnext hb⟩
      omega
    · have hk0 : 0 < k := by omega
      have hw1 : IntKind.i64.wrap ((k : Int) - 1) = ((k - 1 : Nat) : Int) := by rw [wrap_i64 _ (by omega) (by omega)]; omega
      have hd1 := us_drop_getD g.vs (k - 1) (by omega)
      have hlt1 : k - 1 < g.vs.length := by omega
      generalize hy : g.vs.getD (k - 1) 0 = y at *
      by_cases hle : x ≤ y
      · have hr := hret 19 (by rw [hbad]; unfold numb; rw [if_neg (by simp [hx1, hx2]), if_pos ⟨by simp [h0], hle⟩]) (by decide)
        (repeat' (first | refine awp_seq ?_ | refine awp_block ?_ | ((first | refine awp_skip ?_ | refine awp_exit ?_); simp only [ak, reduceIte]) | (refine awp_ret ?_; simp only [ak, reduceIte]; simp [f1, f18, f19, f20, hlt, hd, hw, hx1, hx2, hk0, hw1, hd1, hlt1, hle, hr]) | (refine awp_cond ?_; simp [f1, f18, f19, f20, hlt, hd, hw, hx1, hx2, hk0, hw1, hd1, hlt1, hle, hr]; (try with_reducible refine ⟨?_, ?_⟩) <;> (try with_reducible intro hc) <;> try (exfalso; omega)) | ((first | (refine w_e [] ?_; intro J hJ; simp only []) | (refine w_q ?_; intro J hJ) | refine e_go ?_); simp [f1, f18, f19, f20, hlt, hd, hw, hx1, hx2, hk0, hw1, hd1, hlt1, hle, hr]; (repeat refine ca ?_); (try ((try with_reducible refine ⟨?_, ?_⟩) <;> (try with_reducible intro hnil) <;> refine hJ _ _ ?_ <;> clear hJ J <;> simp only [ak, reduceIte] <;> try subst hnil)))))
        exact Keeps.new _ _
      · have hb : badV g k = 0 := by rw [hbad]; unfold numb; rw [if_neg (by simp [hx1, hx2]), if_neg (by simp [hle])]
        (repeat' (first | refine awp_seq ?_ | refine awp_block ?_ | ((first | refine awp_skip ?_ | refine awp_exit ?_); simp only [ak, reduceIte]) | (refine awp_ret ?_; simp only [ak, reduceIte]; simp [f1, f18, f19, f20, hlt, hd, hw, hx1, hx2, hk0, hw1, hd1, hlt1, hle]) | (refine awp_cond ?_; simp [f1, f18, f19, f20, hlt, hd, hw, hx1, hx2, hk0, hw1, hd1, hlt1, hle]; (try with_reducible refine ⟨?_, ?_⟩) <;> (try with_reducible intro hc) <;> try (exfalso; omega)) | ((first | (refine w_e [] ?_; intro J hJ; simp only []) | (refine w_q ?_; intro J hJ) | refine e_go ?_); simp [f1, f18, f19, f20, hlt, hd, hw, hx1, hx2, hk0, hw1, hd1, hlt1, hle]; (repeat refine ca ?_); (try ((try with_reducible refine ⟨?_, ?_⟩) <;> (try with_reducible intro hnil) <;> refine hJ _ _ ?_ <;> clear hJ J <;> simp only [ak, reduceIte] <;> try subst hnil)))))
        refine hJJ _ _ _ ?_ ⟨k + 1, by omega, rfl, by simp [f1], by simp [f18], by simp [f19], by simp, rfl, hnext hb⟩
        omega
  have hk' : k = g.vs.length := by omega
  have hz : firstNZ (badV g) g.vs.length = 0 := firstNZ_zero (fun j hj => hno j (by omega))
  rw [hz] at hch
  simp only [ne_eq, not_true_eq_false, if_false] at hch
  clear hJJ hno hz
  have hel := eds_length g.es
  (repeat' (first | refine awp_seq ?_ | refine awp_block ?_ | ((first | refine awp_skip ?_ | refine awp_exit ?_); simp only [ak, reduceIte]) | (refine awp_ret ?_; simp only [ak, reduceIte]; simp [f1, f18, f19, f20, hlt]) | (refine awp_cond ?_; simp [f1, f18, f19, f20, hlt]; (try with_reducible refine ⟨?_, ?_⟩) <;> (try with_reducible intro hc) <;> try (exfalso; omega)) | ((first | (refine w_e [] ?_; intro J hJ; simp only []) | (refine w_q ?_; intro J hJ) | refine e_go ?_); simp [f1, f18, f19, f20, hlt]; (repeat refine ca ?_); (try ((try with_reducible refine ⟨?_, ?_⟩) <;> (try with_reducible intro hnil) <;> refine hJ _ _ ?_ <;> clear hJ J <;> simp only [ak, reduceIte] <;> try subst hnil)))))
  refine awp_loop (fun n fr st' => ∃ k : Nat, k ≤ g.es.length ∧ n = g.es.length - k ∧ fr 1 = .pt st.next 0 ∧ fr 45 = .sl 0 g.es.length (eds g.es) ∧ fr 46 = i g.es.length ∧ fr 47 = i k ∧ Keeps (st.new (.box 25 2 (grL g))) st' ∧ ∀ j, j < k → badE g j = 0) g.es.length ?_ ?_
  · exact ⟨0, by omega, by omega, by simp [f1], by simp, by simp, by simp, Keeps.refl _, fun j h => by omega⟩
  clear f1 f18 f19 f20 hlt hk' hk fr k
  rintro n fr st1 ⟨k, hk, rfl, f1, f45, f46, f47, hkp, hno⟩ JJ hJJ
  have hgH : st1.H st.next = .box 25 2 (grL g) := by rw [hkp.H _ (by simp)]; simp
  have hnx : ¬ st.next = st1.next := by have := hkp.next; simp only [new_next] at this; omega
  have hkp0 := (Keeps.new st (.box 25 2 (grL g))).trans hkp
  by_cases hlt : k < g.es.length
  · have hd := eds_drop g.es k hlt
    have hw := nat_add_one k (by omega)
    have hk3 : k * 3 < g.es.length * 3 := by omega
    have hbad : badE g k = (let x := g.es.getD k ed0; let n := numb x.id (g.es.getD (k - 1) ed0).id (decide (k = 0)); if n ≠ 0 then n else if x.a = x.b then 20 else if x.a ∉ g.vs ∨ x.b ∉ g.vs then 21 else 0) := rfl
    have hnext : badE g k = 0 → ∀ j, j < k + 1 → badE g j = 0 := fun hb j hj => by
      rcases Nat.lt_or_ge j k with h | h
      · exact hno j h
      · obtain rfl : j = k := by omega
        exact hb
    have hret : ∀ v, badE g k = v → v ≠ 0 → chk g = v := fun v h0 h1 => by
      rw [hch]; exact firstNZ_eq hlt hno h0 h1
    generalize hx : g.es.getD k ed0 = x at *
    obtain ⟨xi, xa, xb⟩ := x
    simp only at hd hbad
    have hkn := hkp0.trans (Keeps.new _ (.box 44 3 [u xi, u xa, u xb]))
    by_cases hx1 : xi < 1
    · have hn : numb xi (g.es.getD (k - 1) ed0).id (decide (k = 0)) = 2 := by unfold numb; rw [if_pos (.inl hx1)]
      have hr := hret 2 (by rw [hbad, hn]; rfl) (by decide)
      (repeat' (first | refine awp_seq ?_ | refine awp_block ?_ | ((first | refine awp_skip ?_ | refine awp_exit ?_); simp only [ak, reduceIte]) | (refine awp_ret ?_; simp only [ak, reduceIte]; simp [f1, f45, f46, f47, hlt, hd, hw, hel, hk3, hgH, hnx, hx1, hr]) | (refine awp_cond ?_; simp [f1, f45, f46, f47, hlt, hd, hw, hel, hk3, hgH, hnx, hx1, hr]; (try with_reducible refine ⟨?_, ?_⟩) <;> (try with_reducible intro hc) <;> try (exfalso; omega)) | ((first | (refine w_e [] ?_; intro J hJ; simp only []) | (refine w_q ?_; intro J hJ) | refine e_go ?_); simp [f1, f45, f46, f47, hlt, hd, hw, hel, hk3, hgH, hnx, hx1, hr]; (repeat refine ca ?_); (try ((try with_reducible refine ⟨?_, ?_⟩) <;> (try with_reducible intro hnil) <;> refine hJ _ _ ?_ <;> clear hJ J <;> simp only [ak, reduceIte] <;> try subst hnil)))))
      exact hkn
    by_cases hx2 : 1048576 < xi
    · have hn : numb xi (g.es.getD (k - 1) ed0).id (decide (k = 0)) = 2 := by unfold numb; rw [if_pos (.inr hx2)]
      have hr := hret 2 (by rw [hbad, hn]; rfl) (by decide)
      (repeat' (first | refine awp_seq ?_ | refine awp_block ?_ | ((first | refine awp_skip ?_ | refine awp_exit ?_); simp only [ak, reduceIte]) | (refine awp_ret ?_; simp only [ak, reduceIte]; simp [f1, f45, f46, f47, hlt, hd, hw, hel, hk3, hgH, hnx, hx1, hx2, hr]) | (refine awp_cond ?_; simp [f1, f45, f46, f47, hlt, hd, hw, hel, hk3, hgH, hnx, hx1, hx2, hr]; (try with_reducible refine ⟨?_, ?_⟩) <;> (try with_reducible intro hc) <;> try (exfalso; omega)) | ((first | (refine w_e [] ?_; intro J hJ; simp only []) | (refine w_q ?_; intro J hJ) | refine e_go ?_); simp [f1, f45, f46, f47, hlt, hd, hw, hel, hk3, hgH, hnx, hx1, hx2, hr]; (repeat refine ca ?_); (try ((try with_reducible refine ⟨?_, ?_⟩) <;> (try with_reducible intro hnil) <;> refine hJ _ _ ?_ <;> clear hJ J <;> simp only [ak, reduceIte] <;> try subst hnil)))))
      exact hkn
    by_cases hnb : numb xi (g.es.getD (k - 1) ed0).id (decide (k = 0)) = 0
    rotate_left
    · -- the number doesn't rise
      have h0 : k ≠ 0 := by rintro rfl; apply hnb; unfold numb; rw [if_neg (by simp [hx1, hx2])]; simp
      have hle : xi ≤ (g.es.getD (k - 1) ed0).id := by
        unfold numb at hnb
        rw [if_neg (by simp [hx1, hx2])] at hnb
        by_cases h : decide (k = 0) = false ∧ xi ≤ (g.es.getD (k - 1) ed0).id
        · exact h.2
        · rw [if_neg h] at hnb; exact absurd rfl hnb
      have hn : numb xi (g.es.getD (k - 1) ed0).id (decide (k = 0)) = 19 := by unfold numb; rw [if_neg (by simp [hx1, hx2]), if_pos ⟨by simp [h0], hle⟩]
      have hr := hret 19 (by rw [hbad, hn]; rfl) (by decide)
      have hk0 : 0 < k := by omega
      have hw1 : IntKind.i64.wrap ((k : Int) - 1) = ((k - 1 : Nat) : Int) := by rw [wrap_i64 _ (by omega) (by omega)]; omega
      have hd1 := eds_drop g.es (k - 1) (by omega)
      have hlt1 : k - 1 < g.es.length := by omega
      have hlt3 : (k - 1) * 3 < g.es.length * 3 := by omega
      generalize hy : g.es.getD (k - 1) ed0 = y at *
      obtain ⟨yi, ya, yb⟩ := y
      simp only at hd1 hle
      (repeat' (first | refine awp_seq ?_ | refine awp_block ?_ | ((first | refine awp_skip ?_ | refine awp_exit ?_); simp only [ak, reduceIte]) | (refine awp_ret ?_; simp only [ak, reduceIte]; simp [f1, f45, f46, f47, hlt, hd, hw, hel, hk3, hgH, hnx, hx1, hx2, hk0, hw1, hd1, hlt1, hlt3, hle, hr]) | (refine awp_cond ?_; simp [f1, f45, f46, f47, hlt, hd, hw, hel, hk3, hgH, hnx, hx1, hx2, hk0, hw1, hd1, hlt1, hlt3, hle, hr]; (try with_reducible refine ⟨?_, ?_⟩) <;> (try with_reducible intro hc) <;> try (exfalso; omega)) | ((first | (refine w_e [] ?_; intro J hJ; simp only []) | (refine w_q ?_; intro J hJ) | refine e_go ?_); simp [f1, f45, f46, f47, hlt, hd, hw, hel, hk3, hgH, hnx, hx1, hx2, hk0, hw1, hd1, hlt1, hlt3, hle, hr]; (repeat refine ca ?_); (try ((try with_reducible refine ⟨?_, ?_⟩) <;> (try with_reducible intro hnil) <;> refine hJ _ _ ?_ <;> clear hJ J <;> simp only [ak, reduceIte] <;> try subst hnil)))))
      exact hkn
    rw [if_neg (fun h => h hnb)] at hbad
    by_cases hab : xa = xb
    · have hr := hret 20 (by rw [hbad, if_pos hab]) (by decide)
      by_cases h0 : k = 0
      · have hk0 : ¬ 0 < k := by omega
        (repeat' (first | refine awp_seq ?_ | refine awp_block ?_ | ((first | refine awp_skip ?_ | refine awp_exit ?_); simp only [ak, reduceIte]) | (refine awp_ret ?_; simp only [ak, reduceIte]; simp [f1, f45, f46, f47, hlt, hd, hw, hel, hk3, hgH, hnx, hx1, hx2, hk0, hab, hr]) | (refine awp_cond ?_; simp [f1, f45, f46, f47, hlt, hd, hw, hel, hk3, hgH, hnx, hx1, hx2, hk0, hab, hr]; (try with_reducible refine ⟨?_, ?_⟩) <;> (try with_reducible intro hc) <;> try (exfalso; omega)) | ((first | (refine w_e [] ?_; intro J hJ; simp only []) | (refine w_q ?_; intro J hJ) | refine e_go ?_); simp [f1, f45, f46, f47, hlt, hd, hw, hel, hk3, hgH, hnx, hx1, hx2, hk0, hab, hr]; (repeat refine ca ?_); (try ((try with_reducible refine ⟨?_, ?_⟩) <;> (try with_reducible intro hnil) <;> refine hJ _ _ ?_ <;> clear hJ J <;> simp only [ak, reduceIte] <;> try subst hnil)))))
        exact hkp0.trans (Keeps.new _ _)
      · have hk0 : 0 < k := by omega
        have hw1 : IntKind.i64.wrap ((k : Int) - 1) = ((k - 1 : Nat) : Int) := by rw [wrap_i64 _ (by omega) (by omega)]; omega
        have hd1 := eds_drop g.es (k - 1) (by omega)
        have hlt1 : k - 1 < g.es.length := by omega
        have hlt3 : (k - 1) * 3 < g.es.length * 3 := by omega
        have hle : ¬ xi ≤ (g.es.getD (k - 1) ed0).id := by
          intro h
          unfold numb at hnb
          rw [if_neg (by simp [hx1, hx2]), if_pos ⟨by simp [h0], h⟩] at hnb
          cases hnb
        generalize hy : g.es.getD (k - 1) ed0 = y at *
        obtain ⟨yi, ya, yb⟩ := y
        simp only at hd1 hle
        (repeat' (first | refine awp_seq ?_ | refine awp_block ?_ | ((first | refine awp_skip ?_ | refine awp_exit ?_); simp only [ak, reduceIte]) | (refine awp_ret ?_; simp only [ak, reduceIte]; simp [f1, f45, f46, f47, hlt, hd, hw, hel, hk3, hgH, hnx, hx1, hx2, hk0, hw1, hd1, hlt1, hlt3, hle, hab, hr]) | (refine awp_cond ?_; simp [f1, f45, f46, f47, hlt, hd, hw, hel, hk3, hgH, hnx, hx1, hx2, hk0, hw1, hd1, hlt1, hlt3, hle, hab, hr]; (try with_reducible refine ⟨?_, ?_⟩) <;> (try with_reducible intro hc) <;> try (exfalso; omega)) | ((first | (refine w_e [] ?_; intro J hJ; simp only []) | (refine w_q ?_; intro J hJ) | refine e_go ?_); simp [f1, f45, f46, f47, hlt, hd, hw, hel, hk3, hgH, hnx, hx1, hx2, hk0, hw1, hd1, hlt1, hlt3, hle, hab, hr]; (repeat refine ca ?_); (try ((try with_reducible refine ⟨?_, ?_⟩) <;> (try with_reducible intro hnil) <;> refine hJ _ _ ?_ <;> clear hJ J <;> simp only [ak, reduceIte] <;> try subst hnil)))))
        exact hkp0.trans (Keeps.new _ _)
    rw [if_neg hab] at hbad
    by_cases h0 : k = 0
    · have hk0 : ¬ 0 < k := by omega
      (repeat' (first | refine awp_seq ?_ | refine awp_block ?_ | ((first | refine awp_skip ?_ | refine awp_exit ?_); simp only [ak, reduceIte]) | (refine awp_ret ?_; simp only [ak, reduceIte]; simp [f1, f45, f46, f47, hlt, hd, hw, hel, hk3, hgH, hnx, hx1, hx2, hk0, hab]) | (refine awp_cond ?_; simp [f1, f45, f46, f47, hlt, hd, hw, hel, hk3, hgH, hnx, hx1, hx2, hk0, hab]; (try with_reducible refine ⟨?_, ?_⟩) <;> (try with_reducible intro hc) <;> try (exfalso; omega)) | ((first | (refine w_e [] ?_; intro J hJ; simp only []) | (refine w_q ?_; intro J hJ) | refine e_go ?_); simp [f1, f45, f46, f47, hlt, hd, hw, hel, hk3, hgH, hnx, hx1, hx2, hk0, hab]; (repeat refine ca ?_); (try ((try with_reducible refine ⟨?_, ?_⟩) <;> (try with_reducible intro hnil) <;> refine hJ _ _ ?_ <;> clear hJ J <;> simp only [ak, reduceIte] <;> try subst hnil)))))
      refine callK_ofE (Has g xa _ hsm) (by simp []) ?_; rintro r st' ⟨rfl, hk1⟩
      have hB1 : st'.H st1.next = .box 44 3 [u xi, u xa, u xb] := by rw [hk1.H _ (by simp)]; simp
      have hgH1 : st'.H st.next = .box 25 2 (grL g) := by
        rw [hk1.H _ (by have := hkp.next; simp only [new_next] at this ⊢; omega), new_H, if_neg hnx]; exact hgH
      have hkp1 := (hkp.trans (Keeps.new _ _)).trans hk1
      have hkp01 := (hkp0.trans (Keeps.new _ _)).trans hk1
      by_cases hma : xa ∈ g.vs
      rotate_left
      · have hr := hret 21 (by rw [hbad, if_pos (.inl hma)]) (by decide)
        (repeat' (first | refine awp_seq ?_ | refine awp_block ?_ | ((first | refine awp_skip ?_ | refine awp_exit ?_); simp only [ak, reduceIte]) | (refine awp_ret ?_; simp only [ak, reduceIte]; simp [f1, hB1, hgH1, hr, hma]) | (refine awp_cond ?_; simp [f1, hB1, hgH1, hr, hma]; (try with_reducible refine ⟨?_, ?_⟩) <;> (try with_reducible intro hc) <;> try (exfalso; omega)) | ((first | (refine w_e [] ?_; intro J hJ; simp only []) | (refine w_q ?_; intro J hJ) | refine e_go ?_); simp [f1, hB1, hgH1, hr, hma]; (repeat refine ca ?_); (try ((try with_reducible refine ⟨?_, ?_⟩) <;> (try with_reducible intro hnil) <;> refine hJ _ _ ?_ <;> clear hJ J <;> simp only [ak, reduceIte] <;> try subst hnil)))))
        exact hkp01
      (refine e_go ?_; simp [f1, hB1, hgH1, hma]; (repeat refine ca ?_); (try ((try with_reducible refine ⟨?_, ?_⟩) <;> (try with_reducible intro hnil) <;> refine hJ _ _ ?_ <;> clear hJ J <;> simp only [ak, reduceIte] <;> try subst hnil)))
      refine callK_ofE (Has g xb _ hsm) (by simp []) ?_; rintro r st' ⟨rfl, hk2⟩
      by_cases hmb : xb ∈ g.vs
      rotate_left
      · have hr := hret 21 (by rw [hbad, if_pos (.inr hmb)]) (by decide)
        (repeat' (first | refine awp_seq ?_ | refine awp_block ?_ | ((first | refine awp_skip ?_ | refine awp_exit ?_); simp only [ak, reduceIte]) | (refine awp_ret ?_; simp only [ak, reduceIte]; simp [hr, hmb]) | (refine awp_cond ?_; simp [hr, hmb]; (try with_reducible refine ⟨?_, ?_⟩) <;> (try with_reducible intro hc) <;> try (exfalso; omega)) | ((first | (refine w_e [] ?_; intro J hJ; simp only []) | (refine w_q ?_; intro J hJ) | refine e_go ?_); simp [hr, hmb]; (repeat refine ca ?_); (try ((try with_reducible refine ⟨?_, ?_⟩) <;> (try with_reducible intro hnil) <;> refine hJ _ _ ?_ <;> clear hJ J <;> simp only [ak, reduceIte] <;> try subst hnil)))))
        exact hkp01.trans hk2
      have hb' : badE g k = 0 := by rw [hbad, if_neg (by simp [hma, hmb])]
      (repeat' (first | refine awp_seq ?_ | refine awp_block ?_ | ((first | refine awp_skip ?_ | refine awp_exit ?_); simp only [ak, reduceIte]) | (refine awp_ret ?_; simp only [ak, reduceIte]; simp [f47, hw, hmb]) | (refine awp_cond ?_; simp [f47, hw, hmb]; (try with_reducible refine ⟨?_, ?_⟩) <;> (try with_reducible intro hc) <;> try (exfalso; omega)) | ((first | (refine w_e [] ?_; intro J hJ; simp only []) | (refine w_q ?_; intro J hJ) | refine e_go ?_); simp [f47, hw, hmb]; (repeat refine ca ?_); (try ((try with_reducible refine ⟨?_, ?_⟩) <;> (try with_reducible intro hnil) <;> refine hJ _ _ ?_ <;> clear hJ J <;> simp only [ak, reduceIte] <;> try subst hnil)))))
      refine hJJ _ _ _ ?_ ⟨k + 1, by omega, rfl, by simp [f1], by simp [f45], by simp [f46], by simp, hkp1.trans hk2, hnext hb'⟩
      omega
    · have hk0 : 0 < k := by omega
      have hw1 : IntKind.i64.wrap ((k : Int) - 1) = ((k - 1 : Nat) : Int) := by rw [wrap_i64 _ (by omega) (by omega)]; omega
      have hd1 := eds_drop g.es (k - 1) (by omega)
      have hlt1 : k - 1 < g.es.length := by omega
      have hlt3 : (k - 1) * 3 < g.es.length * 3 := by omega
      have hle : ¬ xi ≤ (g.es.getD (k - 1) ed0).id := by
        intro h
        unfold numb at hnb
        rw [if_neg (by simp [hx1, hx2]), if_pos ⟨by simp [h0], h⟩] at hnb
        cases hnb
      generalize hy : g.es.getD (k - 1) ed0 = y at *
      obtain ⟨yi, ya, yb⟩ := y
      simp only at hd1 hle
      (repeat' (first | refine awp_seq ?_ | refine awp_block ?_ | ((first | refine awp_skip ?_ | refine awp_exit ?_); simp only [ak, reduceIte]) | (refine awp_ret ?_; simp only [ak, reduceIte]; simp [f1, f45, f46, f47, hlt, hd, hw, hel, hk3, hgH, hnx, hx1, hx2, hk0, hw1, hd1, hlt1, hlt3, hle, hab]) | (refine awp_cond ?_; simp [f1, f45, f46, f47, hlt, hd, hw, hel, hk3, hgH, hnx, hx1, hx2, hk0, hw1, hd1, hlt1, hlt3, hle, hab]; (try with_reducible refine ⟨?_, ?_⟩) <;> (try with_reducible intro hc) <;> try (exfalso; omega)) | ((first | (refine w_e [] ?_; intro J hJ; simp only []) | (refine w_q ?_; intro J hJ) | refine e_go ?_); simp [f1, f45, f46, f47, hlt, hd, hw, hel, hk3, hgH, hnx, hx1, hx2, hk0, hw1, hd1, hlt1, hlt3, hle, hab]; (repeat refine ca ?_); (try ((try with_reducible refine ⟨?_, ?_⟩) <;> (try with_reducible intro hnil) <;> refine hJ _ _ ?_ <;> clear hJ J <;> simp only [ak, reduceIte] <;> try subst hnil)))))
      refine callK_ofE (Has g xa _ hsm) (by simp []) ?_; rintro r st' ⟨rfl, hk1⟩
      have hB1 : st'.H st1.next = .box 44 3 [u xi, u xa, u xb] := by rw [hk1.H _ (by simp)]; simp
      have hgH1 : st'.H st.next = .box 25 2 (grL g) := by
        rw [hk1.H _ (by have := hkp.next; simp only [new_next] at this ⊢; omega), new_H, if_neg hnx]; exact hgH
      have hkp1 := (hkp.trans (Keeps.new _ _)).trans hk1
      have hkp01 := (hkp0.trans (Keeps.new _ _)).trans hk1
      by_cases hma : xa ∈ g.vs
      rotate_left
      · have hr := hret 21 (by rw [hbad, if_pos (.inl hma)]) (by decide)
        (repeat' (first | refine awp_seq ?_ | refine awp_block ?_ | ((first | refine awp_skip ?_ | refine awp_exit ?_); simp only [ak, reduceIte]) | (refine awp_ret ?_; simp only [ak, reduceIte]; simp [f1, hB1, hgH1, hr, hma]) | (refine awp_cond ?_; simp [f1, hB1, hgH1, hr, hma]; (try with_reducible refine ⟨?_, ?_⟩) <;> (try with_reducible intro hc) <;> try (exfalso; omega)) | ((first | (refine w_e [] ?_; intro J hJ; simp only []) | (refine w_q ?_; intro J hJ) | refine e_go ?_); simp [f1, hB1, hgH1, hr, hma]; (repeat refine ca ?_); (try ((try with_reducible refine ⟨?_, ?_⟩) <;> (try with_reducible intro hnil) <;> refine hJ _ _ ?_ <;> clear hJ J <;> simp only [ak, reduceIte] <;> try subst hnil)))))
        exact hkp01
      (refine e_go ?_; simp [f1, hB1, hgH1, hma]; (repeat refine ca ?_); (try ((try with_reducible refine ⟨?_, ?_⟩) <;> (try with_reducible intro hnil) <;> refine hJ _ _ ?_ <;> clear hJ J <;> simp only [ak, reduceIte] <;> try subst hnil)))
      refine callK_ofE (Has g xb _ hsm) (by simp []) ?_; rintro r st' ⟨rfl, hk2⟩
      by_cases hmb : xb ∈ g.vs
      rotate_left
      · have hr := hret 21 (by rw [hbad, if_pos (.inr hmb)]) (by decide)
        (repeat' (first | refine awp_seq ?_ | refine awp_block ?_ | ((first | refine awp_skip ?_ | refine awp_exit ?_); simp only [ak, reduceIte]) | (refine awp_ret ?_; simp only [ak, reduceIte]; simp [hr, hmb]) | (refine awp_cond ?_; simp [hr, hmb]; (try with_reducible refine ⟨?_, ?_⟩) <;> (try with_reducible intro hc) <;> try (exfalso; omega)) | ((first | (refine w_e [] ?_; intro J hJ; simp only []) | (refine w_q ?_; intro J hJ) | refine e_go ?_); simp [hr, hmb]; (repeat refine ca ?_); (try ((try with_reducible refine ⟨?_, ?_⟩) <;> (try with_reducible intro hnil) <;> refine hJ _ _ ?_ <;> clear hJ J <;> simp only [ak, reduceIte] <;> try subst hnil)))))
        exact hkp01.trans hk2
      have hb' : badE g k = 0 := by rw [hbad, if_neg (by simp [hma, hmb])]
      (repeat' (first | refine awp_seq ?_ | refine awp_block ?_ | ((first | refine awp_skip ?_ | refine awp_exit ?_); simp only [ak, reduceIte]) | (refine awp_ret ?_; simp only [ak, reduceIte]; simp [f47, hw, hmb]) | (refine awp_cond ?_; simp [f47, hw, hmb]; (try with_reducible refine ⟨?_, ?_⟩) <;> (try with_reducible intro hc) <;> try (exfalso; omega)) | ((first | (refine w_e [] ?_; intro J hJ; simp only []) | (refine w_q ?_; intro J hJ) | refine e_go ?_); simp [f47, hw, hmb]; (repeat refine ca ?_); (try ((try with_reducible refine ⟨?_, ?_⟩) <;> (try with_reducible intro hnil) <;> refine hJ _ _ ?_ <;> clear hJ J <;> simp only [ak, reduceIte] <;> try subst hnil)))))
      refine hJJ _ _ _ ?_ ⟨k + 1, by omega, rfl, by simp [f1], by simp [f45], by simp [f46], by simp, hkp1.trans hk2, hnext hb'⟩
      omega
  · have hr : chk g = 0 := by rw [hch]; exact firstNZ_zero (fun j hj => hno j (by omega))
    clear hJJ
    (repeat' (first | refine awp_seq ?_ | refine awp_block ?_ | ((first | refine awp_skip ?_ | refine awp_exit ?_); simp only [ak, reduceIte]) | (refine awp_ret ?_; simp only [ak, reduceIte]; simp [f1, f45, f46, f47, hlt, hr]) | (refine awp_cond ?_; simp [f1, f45, f46, f47, hlt, hr]; (try with_reducible refine ⟨?_, ?_⟩) <;> (try with_reducible intro hc) <;> try (exfalso; omega)) | ((first | (refine w_e [] ?_; intro J hJ; simp only []) | (refine w_q ?_; intro J hJ) | refine e_go ?_); simp [f1, f45, f46, f47, hlt, hr]; (repeat refine ca ?_); (try ((try with_reducible refine ⟨?_, ?_⟩) <;> (try with_reducible intro hnil) <;> refine hJ _ _ ?_ <;> clear hJ J <;> simp only [ak, reduceIte] <;> try subst hnil)))))
    exact hkp0

end Go.Proofs.YtaiakdhcajibnaaGreat.Aw

namespace Go.Proofs.YtaiakdhcajibnaaGreat.Aw
open Go Go.RowKit Go.Proofs.YtaiakdhcajibnaaGreat.Pl
set_option linter.unusedSimpArgs false
set_option linter.unusedVariables false

end Go.Proofs.YtaiakdhcajibnaaGreat.Aw

namespace Go.Proofs.YtaiakdhcajibnaaGreat.Aw
open Go Go.RowKit Go.Proofs.YtaiakdhcajibnaaGreat.Pl
set_option linter.unusedSimpArgs false
set_option linter.unusedVariables false

end Go.Proofs.YtaiakdhcajibnaaGreat.Aw

namespace Go.Proofs.YtaiakdhcajibnaaGreat.Aw
open Go Go.RowKit Go.Proofs.YtaiakdhcajibnaaGreat.Pl
set_option linter.unusedSimpArgs false
set_option linter.unusedVariables false

theorem awp_posG {P : Program} {N : Nat} {Q : AQ} {c : Code} {fr : Frm} {st : St} (h : 0 < st.next → AWp P N c Q fr st) : AWp P N c Q fr st :=
  fun a w g hi hr hs hd => h hi.pos a w g hi hr hs hd

def end1 (v : Int) (x : Ed) : List Int := (if x.a = v then [2 * x.id] else []) ++ (if x.b = v then [2 * x.id + 1] else [])
/-- The darts at a vertex. -/
def ends (es : List Ed) (v : Int) : List Int := es.flatMap (end1 v)
theorem flat_takeE (f : Ed → List Int) (l : List Ed) (k : Nat) (hk : k < l.length) : (l.take (k + 1)).flatMap f = (l.take k).flatMap f ++ f (l.getD k ed0) := by
  rw [List.take_succ_eq_append_getElem hk, List.flatMap_append, List.getD_eq_getElem?_getD, List.getElem?_eq_getElem hk]; simp
theorem end1_len (v : Int) (x : Ed) : (end1 v x).length ≤ 2 := by
  unfold end1; split <;> split <;> simp
theorem flat_len (f : Ed → List Int) (hf : ∀ x, (f x).length ≤ 2) (l : List Ed) : (l.flatMap f).length ≤ 2 * l.length := by
  induction l with
  | nil => simp
  | cons x l ih => have := hf x; simp only [List.flatMap_cons, List.length_append, List.length_cons]; omega
def idOk (es : List Ed) : Prop := ∀ x ∈ es, 0 ≤ x.id ∧ x.id ≤ 1048576
theorem idOk.at {es : List Ed} (h : idOk es) (k : Nat) (hk : k < es.length) : 0 ≤ (es.getD k ed0).id ∧ (es.getD k ed0).id ≤ 1048576 := by
  rw [List.getD_eq_getElem?_getD, List.getElem?_eq_getElem hk]; exact h _ (List.getElem_mem hk)
theorem wrap_u32' (n : Int) (h0 : 0 ≤ n) (h1 : n < 4294967296) : IntKind.u32.wrap n = n := by
  rw [wrap_u32]; omega

def OwnAt (t : Nat) (lo : St) (l : List Int) (st : St) : Prop := t ≠ 0 ∧ lo.next ≤ t ∧ t < st.next ∧ st.H t = .own 29 1 l.length ∧ Keeps lo st

theorem dOf (id e : Int) (st : St) (h0 : 0 ≤ id) (h1 : id ≤ 1048576) (he : e = 0 ∨ e = 1) : ACalls Tryz.prog 89 [u id, i e] st fun r st' => r = u (2 * id + e) ∧ st' = st := by
  refine (Of id e st).mono ?_
  rintro r st' ⟨rfl, rfl⟩
  refine ⟨?_, rfl⟩
  have h2 : id * 2 % 4294967296 + e % 2 = 2 * id + e := by omega
  rw [h2]

theorem ref_Ends (g : Gr) (v : Int) (st : St) (he : g.es.length ≤ 1000) (hid : idOk g.es) :
    ACalls Tryz.prog 49 [.ag (grL g), u v] st fun r st' => (∃ t, r = .sl t (ends g.es v).length (us (ends g.es v))) ∧ Keeps st st' := by
  obtain ⟨vs, l⟩ := g
  simp only at he hid ⊢
  have hel := eds_length l
  have hfl := fun k => flat_len (end1 v) (end1_len v) (l.take k)
  refine acalls_of_body tabOk Tryz.func49 rfl rfl Tryz.ntmps49 (rs := [.tmp 4]) rfl (by simp) ?_
  (repeat' (first | refine awp_seq ?_ | refine awp_block ?_ | ((first | refine awp_skip ?_ | refine awp_exit ?_); simp only [ak, reduceIte]) | (refine awp_ret ?_; simp only [ak, reduceIte]; simp []) | (refine awp_cond ?_; simp []; (try with_reducible refine ⟨?_, ?_⟩) <;> (try with_reducible intro hc) <;> try (exfalso; omega)) | ((first | (refine w_e [] ?_; intro J hJ; simp only []) | (refine w_q ?_; intro J hJ) | refine e_go ?_); simp []; (repeat refine ca ?_); (try ((try with_reducible refine ⟨?_, ?_⟩) <;> (try with_reducible intro hnil) <;> refine hJ _ _ ?_ <;> clear hJ J <;> simp only [ak, reduceIte] <;> try subst hnil)))))
  refine awp_posG fun hpos => ?_
  refine awp_own 5 29 1 (by simp) ?_
  refine awp_loop (fun n fr st2 => ∃ k : Nat, k ≤ l.length ∧ n = l.length - k ∧ fr 1 = u v ∧ fr 9 = .sl 0 l.length (eds l) ∧ fr 10 = i l.length ∧ fr 11 = i k ∧ ∃ t, fr 5 = .sl t (ends (l.take k) v).length (us (ends (l.take k) v)) ∧ OwnAt t st (ends (l.take k) v) st2) l.length ?_ ?_
  · exact ⟨0, by omega, by omega, by simp, by simp, by simp, by simp, st.next + 1, by simp [ends], by omega, by omega, by simp, by simp [ends], (Keeps.new _ _).trans (Keeps.new _ _)⟩
  rintro n fr st2 ⟨k, hk, rfl, f1, f9, f10, f11, t, f5, ht0, htl, htn, htH, hkp⟩ JJ hJJ
  by_cases hlt : k < l.length
  rotate_left
  · clear hJJ
    have hk' : k = l.length := by omega
    rw [hk', List.take_length] at f5
    (repeat' (first | refine awp_seq ?_ | refine awp_block ?_ | ((first | refine awp_skip ?_ | refine awp_exit ?_); simp only [ak, reduceIte]) | (refine awp_ret ?_; simp only [ak, reduceIte]; simp [f10, f11, hlt, f5]) | (refine awp_cond ?_; simp [f10, f11, hlt, f5]; (try with_reducible refine ⟨?_, ?_⟩) <;> (try with_reducible intro hc) <;> try (exfalso; omega)) | ((first | (refine w_e [] ?_; intro J hJ; simp only []) | (refine w_q ?_; intro J hJ) | refine e_go ?_); simp [f10, f11, hlt, f5]; (repeat refine ca ?_); (try ((try with_reducible refine ⟨?_, ?_⟩) <;> (try with_reducible intro hnil) <;> refine hJ _ _ ?_ <;> clear hJ J <;> simp only [ak, reduceIte] <;> try subst hnil)))))
    exact hkp
  have hd := eds_drop l k hlt
  have hw := nat_add_one k (by omega)
  have hk3 : k * 3 < l.length * 3 := by omega
  obtain ⟨hi0, hi1⟩ := hid.at k hlt
  have hst : ends (l.take (k + 1)) v = ends (l.take k) v ++ end1 v (l.getD k ed0) := flat_takeE _ _ _ hlt
  have hle := hfl k
  rw [List.length_take] at hle
  have hle2 : (ends (l.take k) v).length ≤ 2 * min k l.length := hle
  generalize hx : l.getD k ed0 = x at *
  obtain ⟨id, a, b⟩ := x
  simp only at hi0 hi1 hd
  generalize hF : ends (l.take k) v = F at *
  have w1 : IntKind.u32.wrap (2 * id) = 2 * id := wrap_u32' _ (by omega) (by omega)
  have w2 : IntKind.u32.wrap (2 * id + 1) = 2 * id + 1 := wrap_u32' _ (by omega) (by omega)
  have ht2 : ¬ t = st2.next := by omega
  have ht3 : ¬ st2.next = t := by omega
  have ht4 : ¬ t = st2.next + 1 := by omega
  have ht5 : ¬ t = st2.next + 1 + 1 := by omega
  have ht6 : ¬ t = st2.next + 1 + 1 + 1 := by omega
  have hn2 : ¬ st2.next = st2.next + 1 + 1 := by omega
  have hn3 : ¬ st2.next = st2.next + 1 + 1 + 1 := by omega
  have hn4 : ¬ st2.next = st2.next + 1 + 1 + 1 + 1 := by omega
  have hn5 : ¬ st2.next + 1 + 1 = st2.next + 1 + 1 + 1 := by omega
  by_cases ha : a = v
  · by_cases hb : b = v
    · have he1 : end1 v ⟨id, a, b⟩ = [2 * id, 2 * id + 1] := by simp [end1, ha, hb]
      rw [he1] at hst
      (repeat' (first | refine awp_seq ?_ | refine awp_block ?_ | ((first | refine awp_skip ?_ | refine awp_exit ?_); simp only [ak, reduceIte]) | (refine awp_ret ?_; simp only [ak, reduceIte]; simp [f1, f5, f9, f10, f11, hlt, hd, hw, hel, ha, hb, w1, w2, htH, ht0, ht2, ht3, ht4, hn2, hn3, hn4, hn5, ht5, ht6]) | (refine awp_cond ?_; simp [f1, f5, f9, f10, f11, hlt, hd, hw, hel, ha, hb, w1, w2, htH, ht0, ht2, ht3, ht4, hn2, hn3, hn4, hn5, ht5, ht6]; (try with_reducible refine ⟨?_, ?_⟩) <;> (try with_reducible intro hc) <;> try (exfalso; omega)) | ((first | (refine w_e [] ?_; intro J hJ; simp only []) | (refine w_q ?_; intro J hJ) | refine e_go ?_); simp [f1, f5, f9, f10, f11, hlt, hd, hw, hel, ha, hb, w1, w2, htH, ht0, ht2, ht3, ht4, hn2, hn3, hn4, hn5, ht5, ht6]; (repeat refine ca ?_); (try ((try with_reducible refine ⟨?_, ?_⟩) <;> (try with_reducible intro hnil) <;> refine hJ _ _ ?_ <;> clear hJ J <;> simp only [ak, reduceIte] <;> try subst hnil)))))
      refine hJJ (l.length - (k + 1)) _ _ (by omega) ⟨k + 1, by omega, rfl, by simp [f1], by simp [f9], by simp [f10], by simp, st2.next + 1 + 1 + 1 + 1, by rw [hst]; simp [f5], by omega, by have := hkp.next; omega, by simp <;> omega, by rw [hst]; simp [htH, ht2, ht4, hn2, hn3, hn4, hn5], ?_⟩
      (repeat (first | exact hkp | (refine Keeps.trans ?_ (Keeps.new _ _)) | (refine Keeps.set ?_ (by have := hkp.next; first | omega | (simp only [new_next, set_next]; omega)) _)))
    · have he1 : end1 v ⟨id, a, b⟩ = [2 * id] := by simp [end1, ha, hb]
      rw [he1] at hst
      (repeat' (first | refine awp_seq ?_ | refine awp_block ?_ | ((first | refine awp_skip ?_ | refine awp_exit ?_); simp only [ak, reduceIte]) | (refine awp_ret ?_; simp only [ak, reduceIte]; simp [f1, f5, f9, f10, f11, hlt, hd, hw, hel, ha, hb, w1, w2, htH, ht0, ht2, ht3, ht4, hn2, hn3, hn4, hn5, ht5, ht6]) | (refine awp_cond ?_; simp [f1, f5, f9, f10, f11, hlt, hd, hw, hel, ha, hb, w1, w2, htH, ht0, ht2, ht3, ht4, hn2, hn3, hn4, hn5, ht5, ht6]; (try with_reducible refine ⟨?_, ?_⟩) <;> (try with_reducible intro hc) <;> try (exfalso; omega)) | ((first | (refine w_e [] ?_; intro J hJ; simp only []) | (refine w_q ?_; intro J hJ) | refine e_go ?_); simp [f1, f5, f9, f10, f11, hlt, hd, hw, hel, ha, hb, w1, w2, htH, ht0, ht2, ht3, ht4, hn2, hn3, hn4, hn5, ht5, ht6]; (repeat refine ca ?_); (try ((try with_reducible refine ⟨?_, ?_⟩) <;> (try with_reducible intro hnil) <;> refine hJ _ _ ?_ <;> clear hJ J <;> simp only [ak, reduceIte] <;> try subst hnil)))))
      refine hJJ (l.length - (k + 1)) _ _ (by omega) ⟨k + 1, by omega, rfl, by simp [f1], by simp [f9], by simp [f10], by simp, st2.next + 1 + 1, by rw [hst]; simp [f5], by omega, by have := hkp.next; omega, by simp <;> omega, by rw [hst]; simp [htH, ht2, ht4, hn2, hn3, hn4, hn5], ?_⟩
      (repeat (first | exact hkp | (refine Keeps.trans ?_ (Keeps.new _ _)) | (refine Keeps.set ?_ (by have := hkp.next; first | omega | (simp only [new_next, set_next]; omega)) _)))
  · by_cases hb : b = v
    · have he1 : end1 v ⟨id, a, b⟩ = [2 * id + 1] := by simp [end1, ha, hb]
      rw [he1] at hst
      (repeat' (first | refine awp_seq ?_ | refine awp_block ?_ | ((first | refine awp_skip ?_ | refine awp_exit ?_); simp only [ak, reduceIte]) | (refine awp_ret ?_; simp only [ak, reduceIte]; simp [f1, f5, f9, f10, f11, hlt, hd, hw, hel, ha, hb, w1, w2, htH, ht0, ht2, ht3, ht4, hn2, hn3, hn4, hn5, ht5, ht6]) | (refine awp_cond ?_; simp [f1, f5, f9, f10, f11, hlt, hd, hw, hel, ha, hb, w1, w2, htH, ht0, ht2, ht3, ht4, hn2, hn3, hn4, hn5, ht5, ht6]; (try with_reducible refine ⟨?_, ?_⟩) <;> (try with_reducible intro hc) <;> try (exfalso; omega)) | ((first | (refine w_e [] ?_; intro J hJ; simp only []) | (refine w_q ?_; intro J hJ) | refine e_go ?_); simp [f1, f5, f9, f10, f11, hlt, hd, hw, hel, ha, hb, w1, w2, htH, ht0, ht2, ht3, ht4, hn2, hn3, hn4, hn5, ht5, ht6]; (repeat refine ca ?_); (try ((try with_reducible refine ⟨?_, ?_⟩) <;> (try with_reducible intro hnil) <;> refine hJ _ _ ?_ <;> clear hJ J <;> simp only [ak, reduceIte] <;> try subst hnil)))))
      refine hJJ (l.length - (k + 1)) _ _ (by omega) ⟨k + 1, by omega, rfl, by simp [f1], by simp [f9], by simp [f10], by simp, st2.next + 1 + 1, by rw [hst]; simp [f5], by omega, by have := hkp.next; omega, by simp <;> omega, by rw [hst]; simp [htH, ht2, ht4, hn2, hn3, hn4, hn5], ?_⟩
      (repeat (first | exact hkp | (refine Keeps.trans ?_ (Keeps.new _ _)) | (refine Keeps.set ?_ (by have := hkp.next; first | omega | (simp only [new_next, set_next]; omega)) _)))
    · have he1 : end1 v ⟨id, a, b⟩ = [] := by simp [end1, ha, hb]
      rw [he1] at hst
      (repeat' (first | refine awp_seq ?_ | refine awp_block ?_ | ((first | refine awp_skip ?_ | refine awp_exit ?_); simp only [ak, reduceIte]) | (refine awp_ret ?_; simp only [ak, reduceIte]; simp [f1, f5, f9, f10, f11, hlt, hd, hw, hel, ha, hb, w1, w2, htH, ht0, ht2, ht3, ht4, hn2, hn3, hn4, hn5, ht5, ht6]) | (refine awp_cond ?_; simp [f1, f5, f9, f10, f11, hlt, hd, hw, hel, ha, hb, w1, w2, htH, ht0, ht2, ht3, ht4, hn2, hn3, hn4, hn5, ht5, ht6]; (try with_reducible refine ⟨?_, ?_⟩) <;> (try with_reducible intro hc) <;> try (exfalso; omega)) | ((first | (refine w_e [] ?_; intro J hJ; simp only []) | (refine w_q ?_; intro J hJ) | refine e_go ?_); simp [f1, f5, f9, f10, f11, hlt, hd, hw, hel, ha, hb, w1, w2, htH, ht0, ht2, ht3, ht4, hn2, hn3, hn4, hn5, ht5, ht6]; (repeat refine ca ?_); (try ((try with_reducible refine ⟨?_, ?_⟩) <;> (try with_reducible intro hnil) <;> refine hJ _ _ ?_ <;> clear hJ J <;> simp only [ak, reduceIte] <;> try subst hnil)))))
      refine hJJ (l.length - (k + 1)) _ _ (by omega) ⟨k + 1, by omega, rfl, by simp [f1], by simp [f9], by simp [f10], by simp, t, by rw [hst]; simp [f5], by omega, by have := hkp.next; omega, by simp <;> omega, by rw [hst]; simp [htH, ht2, ht4, hn2, hn3, hn4, hn5], ?_⟩
      (repeat (first | exact hkp | (refine Keeps.trans ?_ (Keeps.new _ _)) | (refine Keeps.set ?_ (by have := hkp.next; first | omega | (simp only [new_next, set_next]; omega)) _)))

end Go.Proofs.YtaiakdhcajibnaaGreat.Aw

namespace Go.Proofs.YtaiakdhcajibnaaGreat.Aw
open Go Go.RowKit Go.Proofs.YtaiakdhcajibnaaGreat.Pl
set_option linter.unusedSimpArgs false
set_option linter.unusedVariables false

def nbr1 (v : Int) (x : Ed) : List Int := (if x.a = v then [x.b] else []) ++ (if x.b = v then [x.a] else [])
/-- Who is at the other ends of a vertex's edges. -/
def nbr (es : List Ed) (v : Int) : List Int := es.flatMap (nbr1 v)
/-- A map of rows, each with a place of its own. -/
def NearI (lo m : Nat) (es : List (List Int × LV)) (st : St) (f : Int → List Int) (tok : Int → Nat) : Prop :=
  ∀ v, (tok v = 0 → f v = [] ∧ mget es [v] = none) ∧ (tok v ≠ 0 → mget es [v] = some (.sl (tok v) (f v).length (us (f v))) ∧ lo ≤ tok v ∧ tok v < st.next ∧ tok v ≠ m ∧ st.H (tok v) = .own 29 1 (f v).length ∧ ∀ w, tok w = tok v → w = v)

theorem NearI.step {lo m : Nat} {es : List (List Int × LV)} {st st' : St} {f : Int → List Int} {tok : Int → Nat} (h : NearI lo m es st f tok) (a x : Int) (N : Nat) (hN : st.next ≤ N) (hN' : N < st'.next) (hm : m < st.next) (h0 : 0 < st.next) (hlo : lo ≤ st.next)
    (hH : ∀ l, l ≠ tok a → l ≠ m → l < st.next → st'.H l = st.H l) (hO : st'.H N = .own 29 1 ((f a).length + 1)) :
    NearI lo m (mset es [a] (.sl N ((f a).length + 1) (us (f a ++ [x])))) st' (fun v => if v = a then f a ++ [x] else f v) (fun v => if v = a then N else tok v) := by
  intro v
  by_cases hv : v = a
  · subst hv
    simp only [if_true]
    refine ⟨fun h1 => by omega, fun _ => ⟨by rw [mget_mset]; simp, by omega, hN', by omega, by rw [hO]; simp, fun w hw => ?_⟩⟩
    by_cases hwv : w = v
    · exact hwv
    · rw [if_neg hwv] at hw
      by_cases h1 : tok w = 0
      · omega
      · have := ((h w).2 h1).2.2.1; omega
  · simp only [if_neg hv]
    have hne : ¬ ([v] : List Int) = [a] := by simpa using hv
    refine ⟨fun h1 => ⟨((h v).1 h1).1, by rw [mget_mset, if_neg hne]; exact ((h v).1 h1).2⟩, fun h1 => ?_⟩
    obtain ⟨k1, k2, k3, k4, k5, k6⟩ := (h v).2 h1
    refine ⟨by rw [mget_mset, if_neg hne]; exact k1, k2, by omega, k4, ?_, fun w hw => ?_⟩
    · rw [hH (tok v) (fun e => hv (k6 a e.symm).symm) k4 k3]; exact k5
    · by_cases hwa : w = a
      · subst hwa; simp only [if_true] at hw; omega
      · rw [if_neg hwa] at hw; exact k6 w hw

/-- A map whose rows are told. -/
def RowsAt (es : List (List Int × LV)) (f : Int → List Int) : Prop := ∀ v, ∃ t, norm ((mget es [v]).getD .nil) = .sl t (f v).length (us (f v))

def NearJ (n0 m : Nat) (st : St) (l : List Ed) (k : Nat) (id a b : Int) (f : Int → List Int) (fr : Frm) (st2 : St) : Prop :=
  fr 3 = .mp (m) ∧ fr 8 = .sl 0 l.length (eds l) ∧ fr 9 = i l.length ∧ fr 10 = i k ∧ Keeps st st2 ∧ m < st2.next ∧ (∃ q, fr 5 = .pt q 0 ∧ st2.H q = .box 44 3 [u id, u a, u b] ∧ q < st2.next) ∧ ∃ es tok, st2.H (m) = .map false [.u32] es ∧ NearI n0 m es st2 f tok

theorem RowsAt.cases {es : List (List Int × LV)} {f : Int → List Int} (h : RowsAt es f) (v : Int) : ((mget es [v]).getD .nil = .nil ∧ f v = []) ∨ ∃ t, (mget es [v]).getD .nil = .sl t (f v).length (us (f v)) := by
  obtain ⟨t, ht⟩ := h v
  cases hx : (mget es [v]).getD .nil with
  | nil =>
    rw [hx] at ht
    left
    refine ⟨rfl, ?_⟩
    simp only [norm, LV.sl.injEq] at ht
    exact List.eq_nil_of_length_eq_zero ht.2.1.symm
  | _ => rw [hx] at ht; simp [norm] at ht <;> exact .inr ⟨t, by simp [ht]⟩

def alone (g : Gr) : Nat := g.vs.countP fun v => decide (nbr g.es v = [])
end Go.Proofs.YtaiakdhcajibnaaGreat.Aw

namespace Go.Proofs.YtaiakdhcajibnaaGreat.Aw
open Go Go.RowKit Go.Proofs.YtaiakdhcajibnaaGreat.Pl
set_option linter.unusedSimpArgs false
set_option linter.unusedVariables false

inductive Reach (es : List Ed) (v : Int) : Int → Prop
  | refl : Reach es v v
  | step {u w : Int} (h : Reach es v u) (hw : w ∈ nbr es u) : Reach es v w

theorem mem_nbr {es : List Ed} {u w : Int} : w ∈ nbr es u ↔ ∃ x ∈ es, (x.a = u ∧ x.b = w) ∨ (x.b = u ∧ x.a = w) := by
  unfold nbr nbr1
  simp only [List.mem_flatMap, List.mem_append]
  constructor
  · rintro ⟨x, hx, h | h⟩
    · refine ⟨x, hx, .inl ?_⟩
      split at h
      · rename_i h1; simp at h; exact ⟨h1, h.symm⟩
      · cases h
    · refine ⟨x, hx, .inr ?_⟩
      split at h
      · rename_i h1; simp at h; exact ⟨h1, h.symm⟩
      · cases h
  · rintro ⟨x, hx, ⟨h1, h2⟩ | ⟨h1, h2⟩⟩
    · exact ⟨x, hx, .inl (by simp [h1, h2])⟩
    · exact ⟨x, hx, .inr (by simp [h1, h2])⟩
theorem nbr_symm {es : List Ed} {u w : Int} (h : w ∈ nbr es u) : u ∈ nbr es w := by
  rw [mem_nbr] at h ⊢
  obtain ⟨x, hx, ⟨h1, h2⟩ | ⟨h1, h2⟩⟩ := h
  · exact ⟨x, hx, .inr ⟨h2, h1⟩⟩
  · exact ⟨x, hx, .inl ⟨h2, h1⟩⟩
theorem Reach.trans {es : List Ed} {u v w : Int} (h : Reach es u v) (k : Reach es v w) : Reach es u w := by
  induction k with
  | refl => exact h
  | step _ hw ih => exact .step ih hw
theorem Reach.symm {es : List Ed} {u v : Int} (h : Reach es u v) : Reach es v u := by
  induction h with
  | refl => exact .refl
  | step _ hw ih => exact Reach.trans (.step .refl (nbr_symm hw)) ih
theorem Reach.closed {es : List Ed} {v w : Int} {L : Int → Prop} (h : Reach es v w) (hv : L v) (hc : ∀ u, L u → ∀ w ∈ nbr es u, L w) : L w := by
  induction h with
  | refl => exact hv
  | step _ hw ih => exact hc _ ih _ hw

/-- A graph's vertices rise, and edges end at them. -/
structure Good (g : Gr) : Prop where
  rise : g.vs.Pairwise (· < ·)
  ends : ∀ x ∈ g.es, x.a ∈ g.vs ∧ x.b ∈ g.vs
theorem Good.nbr {g : Gr} (h : Good g) {u w : Int} (hw : w ∈ nbr g.es u) : w ∈ g.vs := by
  rw [mem_nbr] at hw
  obtain ⟨x, hx, ⟨_, rfl⟩ | ⟨_, rfl⟩⟩ := hw
  · exact (h.ends x hx).2
  · exact (h.ends x hx).1
theorem Good.reach {g : Gr} (h : Good g) {v w : Int} (hv : v ∈ g.vs) (hr : Reach g.es v w) : w ∈ g.vs := by
  cases hr with
  | refl => exact hv
  | step _ hw => exact h.nbr hw
theorem Good.nodup {g : Gr} (h : Good g) : g.vs.Nodup := h.rise.imp fun h => by omega

/-- A row that has just what hangs together with a vertex, rising. -/
def IsPart (g : Gr) (v : Int) (c : List Int) : Prop := c.Pairwise (· < ·) ∧ ∀ w, w ∈ c ↔ w ∈ g.vs ∧ Reach g.es v w
theorem rise_unique {c d : List Int} (hc : c.Pairwise (· < ·)) (hd : d.Pairwise (· < ·)) (h : ∀ w, w ∈ c ↔ w ∈ d) : c = d :=
  srt_unique (hc.imp fun h => by omega) (hd.imp fun h => by omega) ((List.perm_ext_iff_of_nodup (hc.imp fun h => by omega) (hd.imp fun h => by omega)).2 h)
theorem IsPart.unique {g : Gr} {v : Int} {c d : List Int} (h : IsPart g v c) (k : IsPart g v d) : c = d := rise_unique h.1 k.1 fun w => by rw [h.2, k.2]
/-- Seen from the first vertices. -/
def Seen (g : Gr) (k : Nat) (w : Int) : Prop := ∃ u ∈ g.vs.take k, Reach g.es u w
theorem take_lt {l : List Int} (h : l.Pairwise (· < ·)) {k : Nat} (hk : k < l.length) {u : Int} : u ∈ l.take k ↔ u ∈ l ∧ u < l.getD k 0 := by
  rw [getD_lt _ _ hk]
  constructor
  · intro hu
    obtain ⟨j, hj, rfl⟩ := List.getElem_of_mem hu
    rw [List.length_take] at hj
    rw [List.getElem_take]
    exact ⟨List.getElem_mem _, List.pairwise_iff_getElem.1 h j k (by omega) hk (by omega)⟩
  · rintro ⟨hu, hlt⟩
    obtain ⟨j, hj, rfl⟩ := List.getElem_of_mem hu
    have hjk : j < k := by
      rcases Nat.lt_trichotomy j k with h1 | h1 | h1
      · exact h1
      · subst h1; omega
      · have := List.pairwise_iff_getElem.1 h k j hk hj h1; omega
    rw [List.mem_take_iff_getElem]
    exact ⟨j, by omega, rfl⟩
theorem Seen.reach {g : Gr} {k : Nat} {u w : Int} (h : Seen g k u) (hr : Reach g.es u w) : Seen g k w := by
  obtain ⟨x, hx, hy⟩ := h
  exact ⟨x, hx, hy.trans hr⟩
theorem seen_succ {g : Gr} {k : Nat} (hk : k < g.vs.length) {w : Int} : Seen g (k + 1) w ↔ Seen g k w ∨ Reach g.es (g.vs.getD k 0) w := by
  unfold Seen
  rw [List.take_succ_eq_append_getElem hk, getD_lt _ _ hk]
  constructor
  · rintro ⟨u, hu, hr⟩
    rw [List.mem_append, List.mem_singleton] at hu
    rcases hu with hu | rfl
    · exact .inl ⟨u, hu, hr⟩
    · exact .inr hr
  · rintro (⟨u, hu, hr⟩ | hr)
    · exact ⟨u, List.mem_append_left _ hu, hr⟩
    · exact ⟨_, List.mem_append_right _ (List.mem_singleton.2 rfl), hr⟩
theorem seen_same {g : Gr} {k : Nat} (hk : k < g.vs.length) (hs : Seen g k (g.vs.getD k 0)) {w : Int} : Seen g (k + 1) w ↔ Seen g k w := by
  rw [seen_succ hk]
  exact ⟨fun h => h.elim id hs.reach, .inl⟩

/-- The parts, as they come from the first vertices. -/
inductive PartsTo (g : Gr) : Nat → List (List Int) → Prop
  | zero : PartsTo g 0 []
  | seen {k : Nat} {R : List (List Int)} (h : PartsTo g k R) (hk : k < g.vs.length) (hs : Seen g k (g.vs.getD k 0)) : PartsTo g (k + 1) R
  | lead {k : Nat} {R : List (List Int)} {c : List Int} (h : PartsTo g k R) (hk : k < g.vs.length) (hs : ¬ Seen g k (g.vs.getD k 0)) (hc : IsPart g (g.vs.getD k 0) c) : PartsTo g (k + 1) (R ++ [c])
theorem PartsTo.unique {g : Gr} {k : Nat} {R R' : List (List Int)} (h : PartsTo g k R) (h' : PartsTo g k R') : R = R' := by
  induction h generalizing R' with
  | zero => cases h'; rfl
  | seen _ _ hs ih =>
    cases h' with
    | seen h2 _ _ => exact ih h2
    | lead h2 _ hs2 _ => exact absurd hs hs2
  | lead _ _ hs hc ih =>
    cases h' with
    | seen h2 _ hs2 => exact absurd hs2 hs
    | lead h2 _ _ hc2 => rw [ih h2, hc.unique hc2]
theorem PartsTo.len {g : Gr} {k : Nat} {R : List (List Int)} (h : PartsTo g k R) : R.length ≤ k := by
  induction h with
  | zero => simp
  | seen _ _ _ ih => omega
  | lead _ _ _ _ ih => simp; omega

/-! ### a search -/
structure Srch (g : Gr) (n : Nat) (v : Int) (L : List Int) (k : Nat) : Prop where
  nodup : L.Nodup
  reach : ∀ w ∈ L, Reach g.es v w
  mem : v ∈ L
  done : ∀ u ∈ L.take k, ∀ w ∈ nbr g.es u, w ∈ L
theorem Srch.all {g : Gr} {n : Nat} {v : Int} {L : List Int} (h : Srch g n v L L.length) : ∀ w, w ∈ L ↔ Reach g.es v w := by
  intro w
  refine ⟨h.reach w, fun hr => ?_⟩
  exact hr.closed (L := fun w => w ∈ L) h.mem fun u hu w hw => h.done u (by rw [List.take_length]; exact hu) w hw
theorem Srch.sub {g : Gr} (hg : Good g) {n : Nat} {v : Int} {L : List Int} {k : Nat} (h : Srch g n v L k) (hv : v ∈ g.vs) : L.length ≤ g.vs.length := by
  exact List.Nodup.length_le_of_subset h.nodup fun w hw => hg.reach hv (h.reach w hw)

end Go.Proofs.YtaiakdhcajibnaaGreat.Aw

namespace Go.Proofs.YtaiakdhcajibnaaGreat.Aw
open Go Go.RowKit Go.Proofs.YtaiakdhcajibnaaGreat.Pl
set_option linter.unusedSimpArgs false
set_option linter.unusedVariables false

abbrev rowsL3 (rs : List (List Int)) : List LV := rs.map fun r => .sl 0 r.length (us r)

structure SrchI (g : Gr) (v : Int) (L : List Int) (k : Nat) (x : Int) (j : Nat) : Prop where
  nodup : L.Nodup
  reach : ∀ w ∈ L, Reach g.es v w
  mem : v ∈ L
  done : ∀ u ∈ L.take k, ∀ w ∈ nbr g.es u, w ∈ L
  lt : k < L.length
  at' : L.getD k 0 = x
  some : ∀ w ∈ (nbr g.es x).take j, w ∈ L
theorem SrchI.skip {g : Gr} {v : Int} {L : List Int} {k : Nat} {x : Int} {j : Nat} (h : SrchI g v L k x j) (hj : j < (nbr g.es x).length) (hw : (nbr g.es x).getD j 0 ∈ L) : SrchI g v L k x (j + 1) := by
  refine ⟨h.nodup, h.reach, h.mem, h.done, h.lt, h.at', fun w hw2 => ?_⟩
  rw [List.take_succ_eq_append_getElem hj, List.mem_append, List.mem_singleton] at hw2
  rcases hw2 with hw2 | rfl
  · exact h.some w hw2
  · rwa [getD_lt _ _ hj] at hw
theorem SrchI.len {g : Gr} (hg : Good g) {v : Int} {L : List Int} {k : Nat} {x : Int} {j : Nat} (h : SrchI g v L k x j) (hv : v ∈ g.vs) : L.length ≤ g.vs.length :=
  List.Nodup.length_le_of_subset h.nodup fun w hw => hg.reach hv (h.reach w hw)

/-- Which numbers a map of 1's has. -/
def SeenI (es : List (List Int × LV)) (P : Int → Prop) : Prop := ∀ v, (P v → (mget es [v]).getD (i 0) = i 1) ∧ (¬ P v → (mget es [v]).getD (i 0) = i 0)
theorem SeenI.step {es : List (List Int × LV)} {P P' : Int → Prop} (h : SeenI es P) (w : Int) (hp : ∀ v, P' v ↔ P v ∨ v = w) : SeenI (mset es [w] (i 1)) P' := by
  intro v
  rw [mget_mset]
  by_cases hv : v = w
  · subst hv
    simp only [if_true, Option.getD_some]
    exact ⟨fun _ => by trivial, fun h1 => absurd ((hp v).2 (.inr rfl)) h1⟩
  · rw [if_neg (by simpa using hv), hp]
    exact ⟨fun h1 => (h v).1 (h1.resolve_right hv), fun h1 => (h v).2 fun h2 => h1 (.inl h2)⟩
theorem SeenI.congr {es : List (List Int × LV)} {P P' : Int → Prop} (h : SeenI es P) (hp : ∀ v, P' v ↔ P v) : SeenI es P' := fun v => by rw [hp]; exact h v

def PtF (m ms : Nat) (es : List (List Int × LV)) (n : Nat) (g : Gr) (st : St) (j : Nat) (P : Int → Prop) (fr : Frm) (st2 : St) : Prop :=
  fr 4 = .mp m ∧ fr 5 = .mp ms ∧ fr 16 = .sl 0 g.vs.length (us g.vs) ∧ fr 17 = i g.vs.length ∧ fr 18 = i j ∧ (m < ms ∧ ms < st2.next ∧ st.next ≤ m) ∧ st2.H m = .map false [.u32] es ∧ Keeps st st2 ∧ (∃ es2, st2.H ms = .map false [.u32] es2 ∧ SeenI es2 P) ∧
    ∃ t R, fr 3 = .sl t R.length (rowsL3 R) ∧ PartsTo g j R ∧ t ≠ 0 ∧ st.next ≤ t ∧ t < st2.next ∧ st2.H t = .own 22 1 R.length
def PtL (m ms : Nat) (es : List (List Int × LV)) (n : Nat) (g : Gr) (st : St) (j : Nat) (v : Int) (L : List Int) (fr : Frm) (st2 : St) : Prop :=
  PtF m ms es n g st j (fun w => Seen g j w ∨ w ∈ L) fr st2 ∧ ∃ q, fr 8 = .ms q 0 L.length ∧ st2.H q = .box 29 1 (us L) ∧ st.next ≤ q ∧ q < st2.next

theorem PtL.fr {m ms : Nat} {es : List (List Int × LV)} {n : Nat} {g : Gr} {st : St} {j : Nat} {v : Int} {L : List Int} {fr fr' : Frm} {st2 : St} (h : PtL m ms es n g st j v L fr st2) (h3 : fr' 3 = fr 3) (h4 : fr' 4 = fr 4) (h5 : fr' 5 = fr 5) (h8 : fr' 8 = fr 8) (h16 : fr' 16 = fr 16) (h17 : fr' 17 = fr 17) (h18 : fr' 18 = fr 18) : PtL m ms es n g st j v L fr' st2 := by
  obtain ⟨⟨f4, f5, f16, f17, f18, a, b, c, d, t, R, f3, r⟩, q, f8, r2⟩ := h
  exact ⟨⟨h4.trans f4, h5.trans f5, h16.trans f16, h17.trans f17, h18.trans f18, a, b, c, d, t, R, h3.trans f3, r⟩, q, h8.trans f8, r2⟩

end Go.Proofs.YtaiakdhcajibnaaGreat.Aw

namespace Go.Proofs.YtaiakdhcajibnaaGreat.Aw
open Go Go.RowKit Go.Proofs.YtaiakdhcajibnaaGreat.Pl
set_option linter.unusedSimpArgs false
set_option linter.unusedVariables false

/-- Which numbers a map of truths has. -/
def InI (es : List (List Int × LV)) (S : List Int) : Prop := ∀ v, (mget es [v]).getD (bb false) = bb (decide (v ∈ S))
theorem InI.step {es : List (List Int × LV)} {S : List Int} (h : InI es S) (w : Int) : InI (mset es [w] (bb true)) (S ++ [w]) := by
  intro v
  rw [mget_mset]
  by_cases hv : v = w
  · subst hv; simp
  · rw [if_neg (by simpa using hv), h v]; simp [hv]
theorem InI.congr {es : List (List Int × LV)} {S S' : List Int} (h : InI es S) (hs : ∀ v, v ∈ S' ↔ v ∈ S) : InI es S' := fun v => by
  rw [h v, show decide (v ∈ S') = decide (v ∈ S) from decide_eq_decide.2 (hs v)]

structure Flood (g : Gr) (v : Int) (S : List Int) : Prop where
  nodup : S.Nodup
  mem : v ∈ S
  reach : ∀ w ∈ S, Reach g.es v w
theorem Flood.len {g : Gr} (hg : Good g) {v : Int} (hv : v ∈ g.vs) {S : List Int} (h : Flood g v S) : S.length ≤ g.vs.length :=
  List.Nodup.length_le_of_subset h.nodup fun w hw => hg.reach hv (h.reach w hw)
def Even (es : List Ed) (S : List Int) : Prop := ∀ x ∈ es, (x.a ∈ S ↔ x.b ∈ S)
theorem Flood.part {g : Gr} (hg : Good g) {v : Int} {S : List Int} (h : Flood g v S) (he : Even g.es S) : IsPart g v (g.vs.filter fun w => decide (w ∈ S)) := by
  refine ⟨hg.rise.filter _, fun w => ?_⟩
  rw [List.mem_filter, decide_eq_true_eq]
  refine ⟨fun hw => ⟨hw.1, h.reach w hw.2⟩, fun hw => ⟨hw.1, ?_⟩⟩
  refine hw.2.closed (L := fun w => w ∈ S) h.mem fun u hu w hw => ?_
  obtain ⟨x, hx, ⟨rfl, rfl⟩ | ⟨rfl, rfl⟩⟩ := mem_nbr.1 hw
  · exact (he x hx).1 hu
  · exact (he x hx).2 hu

def RpI (ms : Nat) (g : Gr) (st : St) (S : List Int) (fr : Frm) (st2 : St) : Prop :=
  fr 2 = .pt st.next 0 ∧ fr 5 = .mp ms ∧ st.next < ms ∧ ms < st2.next ∧ Keeps st st2 ∧ st2.H st.next = .box 25 2 (grL g) ∧ ∃ es, st2.H ms = .map false [.u32] es ∧ InI es S
theorem RpI.fr {ms : Nat} {g : Gr} {st : St} {S : List Int} {fr fr' : Frm} {st2 : St} (h : RpI ms g st S fr st2) (h2 : fr' 2 = fr 2) (h5 : fr' 5 = fr 5) : RpI ms g st S fr' st2 :=
  ⟨h2.trans h.1, h5.trans h.2.1, h.2.2⟩

end Go.Proofs.YtaiakdhcajibnaaGreat.Aw

namespace Go.Proofs.YtaiakdhcajibnaaGreat.Aw
open Go Go.RowKit Go.Proofs.YtaiakdhcajibnaaGreat.Pl
set_option linter.unusedSimpArgs false
set_option linter.unusedVariables false

theorem IsPart.seen {g : Gr} (hg : Good g) {k : Nat} (hk : k < g.vs.length) {x : Int} {c : List Int} (h : IsPart g (g.vs.getD k 0) (x :: c)) : Seen g k (g.vs.getD k 0) ↔ x ≠ g.vs.getD k 0 := by
  have hvin : g.vs.getD k 0 ∈ g.vs := by rw [getD_lt _ _ hk]; exact List.getElem_mem hk
  obtain ⟨h1, h2⟩ := h
  have hmin : ∀ w ∈ x :: c, x ≤ w := by
    intro w hw
    rw [List.mem_cons] at hw
    rcases hw with rfl | hw
    · omega
    · have := (List.pairwise_cons.1 h1).1 w hw; omega
  have hxin := (h2 x).1 (List.mem_cons_self ..)
  constructor
  · rintro ⟨u, hu, hr⟩ he
    obtain ⟨k1, k2⟩ := (take_lt hg.rise hk).1 hu
    have := hmin u ((h2 u).2 ⟨k1, hr.symm⟩)
    omega
  · intro hne
    have := hmin _ ((h2 _).2 ⟨hvin, .refl⟩)
    exact ⟨x, (take_lt hg.rise hk).2 ⟨hxin.1, by omega⟩, hxin.2.symm⟩

/-- An edge's place. -/
def fe (l : List Ed) (id : Int) : Int := if l.any (fun x => decide (x.id = id)) then (l.findIdx (fun x => decide (x.id = id)) : Int) else -1
end Go.Proofs.YtaiakdhcajibnaaGreat.Aw

namespace Go.Proofs.YtaiakdhcajibnaaGreat.Aw
open Go Go.RowKit Go.Proofs.YtaiakdhcajibnaaGreat.Pl
set_option linter.unusedSimpArgs false
set_option linter.unusedVariables false

def TestE (f : FuncId) (caps : List LV) (st : St) (l : List Ed) (p : Ed → Bool) : Prop := ∀ x ∈ l, ∀ st2, Keeps st st2 → ACalls Tryz.prog f (.ag (edL x) :: caps) st2 fun r st3 => r = bb (p x) ∧ Keeps st2 st3

def odd1 (o : Bool) (x : Ed) : Bool := decide (x.id % 2 = 1) == o
/-- A row of edges, or none. -/
def RowE (X : LV) (F : List Ed) : Prop := (X = .nil ∧ F = []) ∨ ∃ t, X = .sl t F.length (eds F)

end Go.Proofs.YtaiakdhcajibnaaGreat.Aw
