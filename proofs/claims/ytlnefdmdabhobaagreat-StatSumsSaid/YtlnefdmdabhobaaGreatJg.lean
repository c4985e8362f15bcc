/- Tables of counts: what is counted (plain); Sum, Top of a table that is none. Rows of int: Equal. The law StatTables, given what its chapter's example answers. The law StatTables at any argument that is well formed, given what its chapter's example answers. stat.Degrees; what chapter 37's example answers; StatTables. Maps: whether one may be, as the program says it. Maps: whether one may be, as the document says it; whether it lies in the plane. stat.Sizes, stat.Of; counts by keys. tree: root, split, Forest, Rest. The document's Girth and Degree. Whether any graph may be, of whatever size, as the document says it. stat.Of; what is asked of a map ahead; an operation that alone may come next. The law StatSums. -/
import Derived.Test.YtlnefdmdabhobaaGreatJf
import Derived.Test.YtlnefdmdabhobaaGreatAwZ
import Derived.Test.YtlnefdmdabhobaaGreatAwRg
import Derived.Test.YtlnefdmdabhobaaGreatAwAlt
namespace Go.Proofs.YtlnefdmdabhobaaGreat.Aw
open Go Go.RowKit Go.Proofs.YtlnefdmdabhobaaGreat.Pl
set_option linter.unusedSimpArgs false
set_option linter.unusedVariables false

theorem cntM_add (es : List (List Int × LV)) (k x : Int) : cntM (add1 es k) x = if x = k then cntM es k + 1 else cntM es x := by
  unfold add1
  have h := mget_mset es [k] [x] (i (cntM es k + 1))
  have e : cntM (mset es [k] (i (cntM es k + 1))) x = cntOf ([x], (mget (mset es [k] (i (cntM es k + 1))) [x]).getD (i 0)) := rfl
  rw [e, h]
  by_cases hx : x = k
  · subst hx; simp [cntOf]
  · have : ¬ ([x] : List Int) = [k] := by simpa using hx
    rw [if_neg this, if_neg hx]; rfl
end Go.Proofs.YtlnefdmdabhobaaGreat.Aw

namespace Go.Proofs.YtlnefdmdabhobaaGreat.Aw.I
open Go Go.RowKit Go.Proofs.YtlnefdmdabhobaaGreat.Pl
set_option linter.unusedSimpArgs false
set_option linter.unusedVariables false

end Go.Proofs.YtlnefdmdabhobaaGreat.Aw.I

namespace Go.Proofs.YtlnefdmdabhobaaGreat.Aw
open Go Go.RowKit Go.Proofs.YtlnefdmdabhobaaGreat.Pl
set_option linter.unusedSimpArgs false
set_option linter.unusedVariables false

abbrev u16 (n : Int) : LV := .atom (.int .i16 n)
/-- What is counted so far. -/
structure Cnt (l : List Int) (E : List (List Int × LV)) (S top : Int) : Prop where
  tab : TabB (2 * l.length) E
  len : E.length ≤ 1 + 2 * l.length
  sum : sumL E = S ∧ -(80000 * (l.length : Int)) ≤ S ∧ S ≤ 80000 * (l.length : Int)
  mem : ∀ x, cntM E x ≠ 0 ↔ x ∈ l
  top0 : l = [] → top = 0
  top1 : l ≠ [] → top ∈ l ∧ ∀ x ∈ l, x ≤ top
theorem mset_len1 (es : List (List Int × LV)) (a : List Int) (v : LV) : (mset es a v).length ≤ es.length + 1 := by
  induction es with
  | nil => simp [mset]
  | cons q es ih =>
    unfold mset
    split
    · simp
    · simp only [List.length_cons]; omega
theorem add1_len (es : List (List Int × LV)) (k : Int) : (add1 es k).length ≤ es.length + 1 := mset_len1 _ _ _
theorem Cnt.snoc {l : List Int} {E : List (List Int × LV)} {S top : Int} (h : Cnt l E S top) {k : Int} (hk : -40000 ≤ k ∧ k ≤ 40000) :
    Cnt (l ++ [k]) (addAll E [k, k]) (S + 2 * k) (if l = [] ∨ top < k then k else top) := by
  obtain ⟨h1, h2, ⟨h3, h3a, h3b⟩, h4, h5, h6⟩ := h
  have e : addAll E [k, k] = add1 (add1 E k) k := rfl
  have t1 := h1.add (by omega) hk
  have t2 := t1.add (by omega) hk
  rw [e]
  refine ⟨?_, ?_, ⟨?_, ?_, ?_⟩, fun x => ?_, fun h => by simp at h, fun _ => ?_⟩
  · rw [show (2 * ((l ++ [k]).length : Int)) = 2 * (l.length : Int) + 1 + 1 by simp; omega]; exact t2
  · have a1 := add1_len E k
    have a2 := add1_len (add1 E k) k
    simp only [List.length_append, List.length_singleton]; omega
  · rw [sumL_add _ _ (fun p hp => by obtain ⟨a, b, c, _⟩ := t1.kn p hp; exact ⟨a, b, c⟩), sumL_add _ _ (fun p hp => by obtain ⟨a, b, c, _⟩ := h1.kn p hp; exact ⟨a, b, c⟩), h3]; omega
  · simp only [List.length_append, List.length_singleton]; omega
  · simp only [List.length_append, List.length_singleton]; omega
  · rw [cntM_add, cntM_add, cntM_add, List.mem_append, List.mem_singleton]
    have hc := (cntM_get h1 (by omega) k).2.1
    by_cases hx : x = k
    · subst hx; simp; omega
    · simp only [hx, if_false, or_false]; exact h4 x
  · by_cases hl : l = []
    · subst hl; simp
    · obtain ⟨g1, g2⟩ := h6 hl
      by_cases ht : top < k
      · rw [if_pos (.inr ht)]
        refine ⟨by simp, fun x hx => ?_⟩
        rcases List.mem_append.1 hx with h | h
        · have := g2 x h; omega
        · rw [List.mem_singleton] at h; omega
      · rw [if_neg (by rintro (h | h); exact hl h; exact ht h)]
        refine ⟨by simp [g1], fun x hx => ?_⟩
        rcases List.mem_append.1 hx with h | h
        · exact g2 x h
        · rw [List.mem_singleton] at h; omega
end Go.Proofs.YtlnefdmdabhobaaGreat.Aw

namespace Go.Proofs.YtlnefdmdabhobaaGreat.Aw
open Go Go.RowKit Go.Proofs.YtlnefdmdabhobaaGreat.Pl
set_option linter.unusedSimpArgs false
set_option linter.unusedVariables false

end Go.Proofs.YtlnefdmdabhobaaGreat.Aw

namespace Go.Proofs.YtlnefdmdabhobaaGreat.Aw
open Go Go.RowKit Go.Proofs.YtlnefdmdabhobaaGreat.Pl
set_option linter.unusedSimpArgs false
set_option linter.unusedVariables false

def degs (g : Gr) : List Int := g.vs.map fun v => ((ends g.es v).length : Int)
theorem ends_le (es : List Ed) (v : Int) : (ends es v).length ≤ 2 * es.length := flat_len (end1 v) (end1_len v) es

theorem Degrees (g : Gr) (st : St) (hv : g.vs.length ≤ 1000) (he : g.es.length ≤ 1000) (hid : idOk g.es) :
    ACalls Tryz.prog 73 [.ag (grL g)] st fun r st' => ∃ m, r = .mp m ∧ st.next ≤ m ∧ m < st'.next ∧ Keeps st st' ∧ st'.H m = .map false [.i64] (addAll [] (degs g)) ∧ TabB g.vs.length (addAll [] (degs g)) := by
  have hdl : (degs g).length = g.vs.length := by simp [degs]
  refine acalls_of_body tabOk Tryz.func73 rfl rfl Tryz.ntmps73 (rs := [.tmp 2]) rfl (by simp) ?_
  (repeat' (first | refine awp_seq ?_ | refine awp_block ?_ | (refine w_e [] ?_; intro J hJ; simp only []; simp []; (refine hJ _ _ ?_; clear hJ J; simp only [ak, reduceIte]))))
  refine awp_range 10 9 11 21 (g.vs.length) (fun j fr st2 => fr 1 = .pt st.next 0 ∧ fr 3 = .mp (st.next + 1) ∧ fr 8 = .sl 0 g.vs.length (us g.vs) ∧ st2.H st.next = .box 25 2 (grL g) ∧ st.next + 1 < st2.next ∧ Keeps st st2 ∧ st2.H (st.next + 1) = .map false [.i64] (addAll [] ((degs g).take j)) ∧ TabB j (addAll [] ((degs g).take j))) ?_ ?_ ?_
  · exact ⟨by simp, by simp, by simp, by simp, by simp, (Keeps.new _ _).trans (Keeps.new _ _), by simp [addAll], ⟨by simp [addAll], by simp [addAll]⟩⟩
  · rintro j fr s hlt ⟨f1, f3, f8, hG, hsn, hkp, hM, hT⟩ fi fn J hJ
    have hd := us_drop_getD g.vs j hlt
    have htk : (degs g).take (j + 1) = (degs g).take j ++ [((ends g.es (g.vs.getD j 0)).length : Int)] := by
      rw [List.take_succ_eq_append_getElem (by omega)]
      congr 2
      simp [degs, List.getD_eq_getElem?_getD, List.getElem?_eq_getElem hlt]
    generalize g.vs.getD j 0 = v at *
    have hel := ends_le g.es v
    (repeat' (first | refine awp_seq ?_ | (refine w_e [] ?_; intro J hJ; simp only []; simp [f1, f3, f8, fi, fn, hd, hlt, hG]; (try (refine hJ _ _ ?_; clear hJ J; simp only [ak, reduceIte])))))
    refine callK_ofE (Ends g v _ he hid) (by simp) ?_; rintro r s4 ⟨⟨t4, rfl⟩, hk4⟩
    have hn4 := hk4.next
    have hG4 := (hk4.H st.next (by omega)).trans hG
    have hM4 := (hk4.H (st.next + 1) (by omega)).trans hM
    have hAdd := sAdd (st.next + 1) (addAll [] ((degs g).take j)) [((ends g.es v).length : Int)] s4.next (j : Int) (s4.new (.own 3 1 1)) (by rw [new_H, if_neg (by omega)]; exact hM4) (by omega) hT (by simp) (by simp; omega)
    simp only [List.length_cons, List.length_nil, List.map_cons, List.map_nil] at hAdd
    (repeat' (refine e_go ?_; simp []))
    refine callK_ofE hAdd (by simp) ?_; rintro r s5 ⟨rfl, hT5⟩
    have hAA : addAll (addAll [] ((degs g).take j)) [((ends g.es v).length : Int)] = addAll [] ((degs g).take (j + 1)) := by rw [htk]; simp [addAll, List.foldl_append]
    rw [hAA] at hT5 ⊢
    (repeat' (refine e_go ?_; simp []; (refine hJ _ _ ?_; clear hJ J; simp only [ak, reduceIte])))
    refine hJ _ _ (by simp [fi]) (by simp [fn]) ⟨by simp [f1], by simp [f3], by simp [f8], ?_, by simp; omega, ?_, by simp, by simpa using hT5⟩
    · (repeat (first | rw [new_H, if_neg (α := LObj) (by (try simp only [set_next, new_next]); omega)] | rw [set_H, if_neg (α := LObj) (by omega)] | rw [new_H, if_pos (α := LObj) (by (try simp only [set_next, new_next]))] | rw [set_H, if_pos (α := LObj) (by omega)])); exact hG4
    · exact ((hkp.trans hk4).trans (Keeps.new _ _)).set (by omega) _
  · rintro fr s ⟨f1, f3, f8, hG, hsn, hkp, hM, hT⟩
    rw [List.take_of_length_le (by omega)] at hM hT
    (repeat' (first | refine awp_seq ?_ | (refine awp_ret ?_; simp only [ak, reduceIte]; simp [f3]) | (refine w_e [] ?_; intro J hJ; simp only []; simp [f3]; (refine hJ _ _ ?_; clear hJ J; simp only [ak, reduceIte]))))
    exact ⟨hsn, hkp, hM, hT⟩

theorem Awake10 (st : St) : ACalls Tryz.prog 74 [] st fun r st' => r = bb true ∧ st' = st := by
  refine acalls_of_body tabOk Tryz.func74 rfl rfl Tryz.ntmps74 (rs := [.tmp 0]) rfl (by simp) ?_
  (repeat' (first | refine awp_seq ?_ | (refine w_e [] ?_; intro J hJ; simp only []; simp []; (try (refine hJ _ _ ?_; clear hJ J; simp only [ak, reduceIte])))))
  refine callK_ofE (awake10 _) (by simp []) ?_; rintro r st' ⟨rfl, rfl⟩
  (repeat' (first | (refine awp_ret ?_; simp only [ak, reduceIte]; simp []) | (refine e_go ?_; simp []; (refine hJ _ _ ?_; clear hJ J; simp only [ak, reduceIte]))))
theorem Awake13 (st : St) : ACalls Tryz.prog 75 [] st fun r st' => r = bb true ∧ st' = st := by
  refine acalls_of_body tabOk Tryz.func75 rfl rfl Tryz.ntmps75 (rs := [.tmp 0]) rfl (by simp) ?_
  (repeat' (first | refine awp_seq ?_ | (refine w_e [] ?_; intro J hJ; simp only []; simp []; (try (refine hJ _ _ ?_; clear hJ J; simp only [ak, reduceIte])))))
  refine callK_ofE (awake13 _) (by simp []) ?_; rintro r st' ⟨rfl, rfl⟩
  (repeat' (first | (refine awp_ret ?_; simp only [ak, reduceIte]; simp []) | (refine e_go ?_; simp []; (refine hJ _ _ ?_; clear hJ J; simp only [ak, reduceIte]))))

def tri : Gr := ⟨[1, 2, 3], [⟨1, 1, 2⟩, ⟨2, 2, 3⟩, ⟨3, 3, 1⟩]⟩
theorem tri_girth : girthL tri 10 0 tri.es = some 3 := by decide +kernel
theorem tri_degs : addAll [] (degs tri) = [([2], i 3)] := by rfl
theorem awake37 (st : St) : ACalls Tryz.prog 17 [] st fun r st' => r = bb true ∧ st' = st := by
  refine (acalls_frame (R := fun v => v = .bool true) ?_).mono ?_
  rotate_left
  · rintro r st' ⟨⟨v, rfl, rfl⟩, rfl⟩; exact ⟨rfl, rfl⟩
  generalize hst : (⟨1, fun _ => .dead⟩ : St) = st
  have hid : idOk tri.es := by intro x hx; simp [tri] at hx; rcases hx with rfl | rfl | rfl <;> decide
  refine acalls_of_body tabOk Tryz.func17 rfl rfl Tryz.ntmps17 (rs := [.tmp 0]) rfl (by simp) ?_
  (repeat' (first | refine awp_seq ?_ | (refine w_e [] ?_; intro J hJ; simp only []; simp []; (try (refine hJ _ _ ?_; clear hJ J; simp only [ak, reduceIte])))))
  have hG := fun s => Girth tri 10 3 s (by decide) (by decide) (by decide) tri_girth
  have hD := fun s => Degrees tri s (by decide) (by decide) hid
  refine callK_of (acalls_args0 (by simp only [z0L, z0]; exact hG _)) ?_; rintro r s1 ⟨rfl, hk1⟩
  have hn1 := hk1.next
  simp only [new_next, set_next] at hn1
  have hB := hk1.H (st.next + 1 + 1) (by simp)
  simp at hB
  (refine e_go ?_; simp [hB])
  refine callK_of (acalls_args0 (by simp only [z0L, z0]; exact hD _)) ?_; rintro r s2 ⟨m, rfl, m1, m2, hk2, hM, _⟩
  rw [tri_degs] at hM
  (refine e_go ?_; simp [hM, mget])
  refine callK_ofE (Awake10 _) (by simp []) ?_; rintro r st' ⟨rfl, rfl⟩
  (refine e_go ?_; simp [])
  refine callK_ofE (Awake13 _) (by simp []) ?_; rintro r st' ⟨rfl, rfl⟩
  (repeat' (first | (refine awp_ret ?_; simp only [ak, reduceIte]; simp []) | (refine e_go ?_; simp []; (refine hJ _ _ ?_; clear hJ J; simp only [ak, reduceIte]))))

end Go.Proofs.YtlnefdmdabhobaaGreat.Aw

namespace Go.Proofs.YtlnefdmdabhobaaGreat.Aw
open Go Go.RowKit Go.Proofs.YtlnefdmdabhobaaGreat.Pl Go.Proofs.YtlnefdmdabhobaaGreat.Eu
set_option linter.unusedSimpArgs false
set_option linter.unusedVariables false

theorem perm_of_sub : ∀ {a b : List Int}, a.Nodup → (∀ x ∈ a, x ∈ b) → b.length ≤ a.length → a.Perm b
  | [], b, _, _, hl => by
    have : b = [] := List.eq_nil_of_length_eq_zero (by simpa using hl)
    rw [this]
  | x :: a, b, hn, hs, hl => by
    rw [List.nodup_cons] at hn
    have hxb : x ∈ b := hs x List.mem_cons_self
    have p1 : b.Perm (x :: b.erase x) := List.perm_cons_erase hxb
    refine List.Perm.trans (List.Perm.cons x (perm_of_sub hn.2 (fun y hy => ?_) ?_)) p1.symm
    · have hne : y ≠ x := by rintro rfl; exact hn.1 hy
      exact (List.mem_erase_of_ne hne).2 (hs y (List.mem_cons_of_mem _ hy))
    · have := p1.length_eq
      simp only [List.length_cons] at this hl
      omega
theorem okTurn.head {es : List Ed} (hi : es.Pairwise (fun x y => x.id < y.id)) {v : Int} {t : List Int} (h : okTurn es v t) : t.getD 0 0 = (ends es v).getD 0 0 := by
  cases he : ends es v with
  | nil => have := h.1; rw [he] at this; rw [this.eq_nil]
  | cons a r =>
    have hr := ends_rise hi v
    rw [he, List.pairwise_cons] at hr
    have hp := h.1
    rw [he] at hp
    have hne : t ≠ [] := by rintro rfl; have := hp.length_eq; simp at this
    obtain ⟨z, hz⟩ := nrm_head t hne
    rw [h.2] at hz
    have hm : mn t = a := by
      refine mn_eq (hp.mem_iff.2 List.mem_cons_self) fun x hx => ?_
      rcases List.mem_cons.1 (hp.mem_iff.1 hx) with rfl | h1
      · exact Int.le_refl _
      · have := hr.1 x h1; omega
    rw [hz, hm]; rfl
def rok (m : Mp) (k : Nat) : Prop := okTurn m.g.es (m.g.vs.getD k 0) (m.rots.getD k [])
/-- What Check answers. -/
noncomputable def rchk (m : Mp) : Int := if chk m.g ≠ 0 then chk m.g else if m.rots.length ≠ m.g.vs.length then 22 else @ite _ (∀ k, k < m.g.vs.length → rok m k) (Classical.propDecidable _) 0 22
theorem rchk_g {m : Mp} (h : chk m.g ≠ 0) : rchk m = chk m.g := by unfold rchk; rw [if_pos h]
theorem rchk_len {m : Mp} (h : chk m.g = 0) (h1 : m.rots.length ≠ m.g.vs.length) : rchk m = 22 := by unfold rchk; rw [if_neg (fun e => e h), if_pos h1]
theorem rchk_bad {m : Mp} (h : chk m.g = 0) {k : Nat} (hk : k < m.g.vs.length) (h1 : ¬ rok m k) : rchk m = 22 := by
  unfold rchk
  rw [if_neg (fun e => e h)]
  split
  · rfl
  · rw [if_neg (fun e => h1 (e k hk))]
theorem rchk_ok {m : Mp} (h : chk m.g = 0) (h1 : m.rots.length = m.g.vs.length) (h2 : ∀ k, k < m.g.vs.length → rok m k) : rchk m = 0 := by
  unfold rchk
  rw [if_neg (fun e => e h), if_neg (fun e => e h1), if_pos h2]
theorem rchk_zero {m : Mp} (h : rchk m = 0) : chk m.g = 0 ∧ MapOk m := by
  by_cases h0 : chk m.g = 0
  · refine ⟨h0, ?_⟩
    by_cases h1 : m.rots.length = m.g.vs.length
    · refine ⟨chk_goodE h0, h1, fun k hk => ?_⟩
      refine Classical.byContradiction fun hn => ?_
      rw [rchk_bad h0 hk hn] at h; cases h
    · rw [rchk_len h0 h1] at h; cases h
  · rw [rchk_g h0] at h; exact absurd h h0

end Go.Proofs.YtlnefdmdabhobaaGreat.Aw

namespace Go.Proofs.YtlnefdmdabhobaaGreat.Aw
open Go Go.RowKit Go.Proofs.YtlnefdmdabhobaaGreat.Pl Go.Proofs.YtlnefdmdabhobaaGreat.Eu
set_option linter.unusedSimpArgs false
set_option linter.unusedVariables false

set_option maxHeartbeats 1000000 in
theorem ref_rCheck (m : Mp) (st : St) (hv : m.g.vs.length ≤ 1000) (he : m.g.es.length ≤ 1000) (hr : m.rots.length ≤ 1000) :
    ACalls Tryz.prog 18 [.ag (mpL m)] st fun r st' => r = i (rchk m) ∧ Keeps st st' := by
  refine acalls_of_body tabOk Tryz.func18 rfl rfl Tryz.ntmps18 (rs := [.tmp 2]) rfl (by simp) ?_
  (repeat' (first | refine awp_seq ?_ | (refine w_e [] ?_; intro J hJ; simp only []; simp []; (try (refine hJ _ _ ?_; clear hJ J; simp only [ak, reduceIte])))))
  refine callK_ofE (ref_Check m.g _ hv he) (by simp) ?_; rintro r s1 ⟨rfl, hk1⟩
  have hn1 := hk1.next
  simp only [new_next] at hn1
  have hG1 : s1.H st.next = .box 28 3 (mpL m) := by rw [hk1.H _ (by simp)]; simp
  have hK1 : Keeps st s1 := (Keeps.new _ _).trans hk1
  by_cases hc : chk m.g = 0
  rotate_left
  · have hrc := rchk_g hc
    generalize chk m.g = x at *
    (repeat' (first | refine awp_seq ?_ | (refine awp_ret ?_; simp only [ak, reduceIte]; simp [hc, hrc]) | (refine awp_cond ?_; simp [hc, hrc]) | ((first | (refine w_e [] ?_; intro J hJ; simp only []) | (refine e_go ?_)); simp [hc, hrc]; (refine hJ _ _ ?_; clear hJ J; simp only [ak, reduceIte]))))
    exact hK1
  have hgd := chk_goodE hc
  have hid : idOk m.g.es := fun x hx => by have := hgd.pos x hx; omega
  by_cases hl : m.rots.length = m.g.vs.length
  rotate_left
  · have hrc := rchk_len hc hl
    (repeat' (first | refine awp_seq ?_ | (refine awp_skip ?_; simp only [ak, reduceIte]) | (refine awp_ret ?_; simp only [ak, reduceIte]; simp [hc, hrc, hG1, hl]) | (refine awp_cond ?_; simp [hc, hrc, hG1, hl]; (try with_reducible refine ⟨?_, ?_⟩) <;> (try with_reducible intro hc) <;> try (exfalso; omega)) | ((first | (refine w_e [] ?_; intro J hJ; simp only []) | (refine e_go ?_)); simp [hc, hrc, hG1, hl]; (refine hJ _ _ ?_; clear hJ J; simp only [ak, reduceIte]))))
    exact hK1
  (repeat' (first | refine awp_seq ?_ | refine awp_block ?_ | (refine awp_skip ?_; simp only [ak, reduceIte]) | (refine awp_cond ?_; simp [hc, hG1, hl]) | ((first | (refine w_e [] ?_; intro J hJ; simp only []) | (refine e_go ?_)); simp [hc, hG1, hl]; (refine hJ _ _ ?_; clear hJ J; simp only [ak, reduceIte]))))
  refine awp_range 28 27 29 65 (m.g.vs.length) (fun j fr st2 => fr 1 = .pt st.next 0 ∧ fr 26 = .sl 0 m.g.vs.length (us m.g.vs) ∧ st2.H st.next = .box 28 3 (mpL m) ∧ Keeps st st2 ∧ st.next < st2.next ∧ ∀ k, k < j → rok m k) ?_ ?_ ?_
  · exact ⟨by simp, by simp, hG1, hK1, by omega, fun k hk => by omega⟩
  · rintro j0 fr st2 hlt ⟨f1, f26, hG, hkp, hsn, hok⟩ fi fn JJ hJJ
    have hd := us_drop_getD m.g.vs j0 hlt
    have hd2 := rowsL_drop m.rots j0 (by omega)
    have hRl : j0 < (rowsL m.rots).length := by simp; omega
    have htin : m.rots.getD j0 [] ∈ m.rots := by rw [getR_lt _ _ (by omega)]; exact List.getElem_mem _
    have hbad := fun h => rchk_bad hc hlt h
    have hnx : rok m j0 → ∀ k, k < j0 + 1 → rok m k := fun h k hk => by
      rcases Nat.lt_or_ge k j0 with h1 | h1
      · exact hok k h1
      · obtain rfl : k = j0 := by omega
        exact h
    have hok1 : rok m j0 ↔ (m.rots.getD j0 []).Perm (ends m.g.es (m.g.vs.getD j0 0)) ∧ nrm (m.rots.getD j0 []) = m.rots.getD j0 [] := Iff.rfl
    have hel : (ends m.g.es (m.g.vs.getD j0 0)).length ≤ 2 * m.g.es.length := flat_len _ (end1_len _) _
    have hrise := ends_rise hgd.ids (m.g.vs.getD j0 0)
    generalize rok m j0 = OK at *
    generalize m.rots.getD j0 [] = t at *
    generalize m.g.vs.getD j0 0 = v at *
    (repeat' (first | refine awp_seq ?_ | (refine w_e [] ?_; intro J hJ; simp only []; simp [f1, f26, fi, fn, hd, hlt, hG, hd2, hRl, hl]; (try (refine hJ _ _ ?_; clear hJ J; simp only [ak, reduceIte])))))
    refine callK_ofE (ref_Ends m.g v _ he hid) (by simp) ?_; rintro r s3 ⟨⟨te, rfl⟩, hk3⟩
    have hn3 := hk3.next
    have hG3 := (hk3.H st.next (by omega)).trans hG
    have hK3 := hkp.trans hk3
    generalize ends m.g.es v = E at *
    by_cases h1 : t.length = E.length
    rotate_left
    · have hrc := hbad fun h => h1 (hok1.1 h).1.length_eq
      have h1b : ((t.length : Int) != (E.length : Int)) = true := by simp; omega
      (repeat' (first | refine awp_seq ?_ | (refine awp_ret ?_; simp only [ak, reduceIte]; simp [h1b, h1, hrc]) | (refine awp_cond ?_; simp [h1b, h1, hrc]) | ((first | (refine w_e [] ?_; intro J hJ; simp only []) | (refine e_go ?_)); simp [h1b, h1, hrc]; (refine hJ _ _ ?_; clear hJ J; simp only [ak, reduceIte]))))
      exact hK3
    (repeat' (first | refine awp_seq ?_ | ((first | (refine w_e [] ?_; intro J hJ; simp only []) | (refine e_go ?_)); simp [h1]; (try (refine hJ _ _ ?_; clear hJ J; simp only [ak, reduceIte])))))
    refine callK_ofE (ref_Normal t 0 _ (by unfold small; omega)) (by simp [h1]) ?_; rintro r s4 ⟨rfl, hk4⟩
    have hn4 := hk4.next
    have hG4 := (hk4.H st.next (by omega)).trans hG3
    have hK4 := hK3.trans hk4
    have hnl := nrm_length t
    (repeat' (refine e_go ?_; simp []))
    refine callK_ofE (ref_Same t (nrm t) 0 0 _ (by unfold small; omega)) (by simp [h1, hnl]) ?_; rintro r s5 ⟨rfl, rfl⟩
    by_cases h2 : t = nrm t
    rotate_left
    · have hrc := hbad fun h => h2 (hok1.1 h).2.symm
      (repeat' (first | refine awp_seq ?_ | (refine awp_ret ?_; simp only [ak, reduceIte]; simp [h2, hrc]) | (refine awp_cond ?_; simp [h2, hrc]) | ((first | (refine w_e [] ?_; intro J hJ; simp only []) | (refine e_go ?_)); simp [h2, hrc]; (refine hJ _ _ ?_; clear hJ J; simp only [ak, reduceIte]))))
      exact hK4
    have h2' : decide (t = nrm t) = true := by simpa using h2
    rw [h2']
    (repeat' (first | refine awp_seq ?_ | refine awp_block ?_ | (refine awp_skip ?_; simp only [ak, reduceIte]) | (refine awp_cond ?_; simp []) | ((first | (refine w_e [] ?_; intro J hJ; simp only []) | (refine e_go ?_)); simp []; (refine hJ _ _ ?_; clear hJ J; simp only [ak, reduceIte]))))
    refine awp_range 56 55 57 64 (E.length) (fun j fr st2 => fr 1 = .pt st.next 0 ∧ fr 26 = .sl 0 m.g.vs.length (us m.g.vs) ∧ fr 28 = i j0 ∧ fr 27 = i m.g.vs.length ∧ fr 6 = .sl 0 t.length (us t) ∧ fr 54 = .sl te E.length (us E) ∧ st2 = s5 ∧ ∀ k, k < j → E.getD k 0 ∈ t) ?_ ?_ ?_
    · exact ⟨by simp [f1], by simp [f26], by simp [fi], by simp [fn], by simp [h1], by simp, rfl, fun k hk => by omega⟩
    · clear f1 f26 fi fn fr
      rintro k fr st6 hk ⟨f1, f26, f28, f27, f6, f54, rfl, hall⟩ fi fn J2 hJ2
      have hd3 := us_drop_getD E k hk
      have hin : E.getD k 0 ∈ E := by rw [getD_lt _ _ hk]; exact List.getElem_mem _
      generalize hx : E.getD k 0 = x at *
      (repeat' (first | refine awp_seq ?_ | (refine w_e [] ?_; intro J hJ; simp only []; simp [f54, f6, fi, fn, hd3, hk]; (try (refine hJ _ _ ?_; clear hJ J; simp only [ak, reduceIte])))))
      refine callK_ofE (Find t 0 x _ (by unfold small; omega)) (by simp [h1]) ?_; rintro r s7 ⟨rfl, rfl⟩
      by_cases hxt : x ∈ t
      · have hg := gi_mem hxt
        (repeat' (first | (refine awp_skip ?_; simp only [ak, reduceIte]) | (refine awp_cond ?_; simp [hg]; (try with_reducible refine ⟨?_, ?_⟩) <;> (try with_reducible intro hc) <;> try (exfalso; omega)) | (refine e_go ?_; simp [hg]; (refine hJ _ _ ?_; clear hJ J; simp only [ak, reduceIte]))))
        refine hJ2 _ _ (by simp [fi]) (by simp [fn]) ⟨by simp [f1], by simp [f26], by simp [f28], by simp [f27], by simp [f6], by simp [f54], rfl, fun q hq => ?_⟩
        rcases Nat.lt_or_ge q k with h3 | h3
        · exact hall q h3
        · obtain rfl : q = k := by omega
          rw [hx]; exact hxt
      · have hg := gi_not hxt
        have hrc := hbad fun h => hxt ((hok1.1 h).1.mem_iff.2 hin)
        (repeat' (first | refine awp_seq ?_ | (refine awp_ret ?_; simp only [ak, reduceIte]; simp [hg, hrc]) | (refine awp_cond ?_; simp [hg, hrc]) | ((first | (refine w_e [] ?_; intro J hJ; simp only []) | (refine e_go ?_)); simp [hg, hrc]; (refine hJ _ _ ?_; clear hJ J; simp only [ak, reduceIte]))))
        exact hK4
    · clear f1 f26 fi fn fr
      rintro fr st6 ⟨f1, f26, f28, f27, f6, f54, rfl, hall⟩
      skip
      refine hJJ _ _ (by simp [f28]) (by simp [f27]) ⟨by simp [f1], by simp [f26], hG4, hK4, by omega, hnx (hok1.2 ⟨?_, h2.symm⟩)⟩
      refine (perm_of_sub (rise_nodup hrise) (fun x hx => ?_) (by omega)).symm
      obtain ⟨q, hq, rfl⟩ := List.getElem_of_mem hx
      have := hall q hq
      rwa [getD_lt _ _ hq] at this
  · rintro fr st2 ⟨f1, f26, hG, hkp, hsn, hok⟩
    have hrc := rchk_ok hc hl hok
    (repeat' (first | refine awp_seq ?_ | (refine awp_ret ?_; simp only [ak, reduceIte]; simp [hrc]) | (refine w_e [] ?_; intro J hJ; simp only []; simp [hrc]; (refine hJ _ _ ?_; clear hJ J; simp only [ak, reduceIte]))))
    exact hkp

/-- What Right answers. -/
noncomputable def rright (m : Mp) : Int := if rchk m ≠ 0 then rchk m else if gn m ≠ 0 then 23 else 0

end Go.Proofs.YtlnefdmdabhobaaGreat.Aw

namespace Go.Proofs.YtlnefdmdabhobaaGreat.Aw
open Go Go.RowKit Go.Proofs.YtlnefdmdabhobaaGreat.Pl
set_option linter.unusedSimpArgs false
set_option linter.unusedVariables false
open Eu

theorem rows3_drop (R : List (List Int)) (k : Nat) (hk : k < R.length) : (rowsL3 R).drop k = .sl 0 (R.getD k []).length (us (R.getD k [])) :: rowsL3 (R.drop (k + 1)) := by
  rw [List.getD_eq_getElem?_getD, List.getElem?_eq_getElem hk, rowsL3, rowsL3, ← List.map_drop, List.drop_eq_getElem_cons hk]; rfl
def sizs (R : List (List Int)) : List Int := R.map fun c => (c.length : Int)
theorem sum_all : ∀ (l : List Int) (es : List (List Int × LV)) (B : Int), TabB B es → 0 ≤ B → (∀ k ∈ l, -40000 ≤ k ∧ k ≤ 40000) → sumL (addAll es l) = sumL es + l.sum
  | [], es, B, _, _, _ => by simp [addAll]
  | k :: l, es, B, h, hB, hk => by
    have ih := sum_all l (add1 es k) (B + 1) (h.add hB (hk k (by simp))) (by omega) fun x hx => hk x (List.mem_cons_of_mem _ hx)
    have e : addAll es (k :: l) = addAll (add1 es k) l := rfl
    rw [e, ih, sumL_add, List.sum_cons]
    · omega
    · exact fun p hp => by obtain ⟨k, n, h1, _⟩ := h.1 p hp; exact ⟨k, n, h1⟩
theorem all_len (l : List Int) : ∀ es, (addAll es l).length ≤ es.length + l.length := by
  induction l with
  | nil => intro es; simp [addAll]
  | cons k l ih =>
    intro es
    have := ih (add1 es k)
    have h2 := add1_len es k
    have e : addAll es (k :: l) = addAll (add1 es k) l := rfl
    rw [e, List.length_cons]; omega
theorem sizs_sum (R : List (List Int)) : (sizs R).sum = (R.flatten.length : Int) := by
  induction R with
  | nil => rfl
  | cons c R ih => simp only [sizs, List.map_cons, List.sum_cons, List.flatten_cons, List.length_append] at ih ⊢; rw [ih]; simp
theorem degs_sum {m : Mp} (h : MapOk m) : (degs m.g).sum = (2 * m.g.es.length : Nat) := by
  have hp := h.flat_perm.length_eq
  rw [darts_length] at hp
  have hs := sizs_sum m.rots
  have e : sizs m.rots = degs m.g := by
    refine List.ext_getElem (by simp [sizs, degs, h.len]) fun k h1 h2 => ?_
    have hk1 : k < m.rots.length := by simpa [sizs] using h1
    have hk2 : k < m.g.vs.length := by simpa [degs] using h2
    have hok := h.ok k hk2
    rw [getR_lt _ _ hk1, getD_lt _ _ hk2] at hok
    simp only [sizs, degs, List.getElem_map]
    rw [hok.1.length_eq]
  rw [← e, hs, ← hp]

def SizP (m : Mp) (st : St) (r : LV) (st' : St) : Prop := ∃ M R, r = .mp M ∧ st.next ≤ M ∧ M < st'.next ∧ Keeps st st' ∧ st'.H M = .map false [.i64] (addAll [] (sizs R)) ∧ TabB R.length (addAll [] (sizs R)) ∧ Lead (fc m m.g.es) (darts m.g.es) (darts m.g.es).length R
set_option maxHeartbeats 1000000 in
theorem Sizes (m : Mp) (h : MapOk m) (st : St) (hv : m.g.vs.length ≤ 1000) (he : m.g.es.length ≤ 400) :
    ACalls Tryz.prog 25 [.ag (mpL m)] st (SizP m st) := by
  have hdl := darts_length m.g.es
  refine acalls_of_body tabOk Tryz.func25 rfl rfl Tryz.ntmps25 (rs := [.tmp 2]) rfl (by simp) ?_
  (repeat' (first | refine awp_seq ?_ | (refine w_e [] ?_; intro J hJ; simp only []; simp []; (try (refine hJ _ _ ?_; clear hJ J; simp only [ak, reduceIte])))))
  refine callK_ofE (Faces m h _ hv (by omega)) (by simp) ?_; rintro r s1 ⟨⟨t, R, rfl, hR⟩, hk1⟩
  have hn1 := hk1.next
  simp only [new_next] at hn1
  have hM1 : s1.H (st.next + 1) = .map false [.i64] [] := by rw [hk1.H _ (by simp)]; simp
  have k1 : Keeps st s1 := ((Keeps.new _ _).trans (Keeps.new _ _)).trans hk1
  have hRl := hR.len
  have hrow : ∀ c ∈ R, c.length ≤ 800 := fun c hc => by
    have hcnt := Lead.count h.perF (fun x hx => h.fc_dart _ x hx) (rise_nodup (darts_rise h.g.ids)) hR
    have h1 : c.length ≤ R.flatten.length := (List.sublist_flatten_of_mem hc).length_le
    rw [hcnt.length_eq] at h1; omega
  have hsl : (sizs R).length = R.length := by simp [sizs]
  have hrl : (rowsL3 R).length = R.length := by simp [rowsL3]
  (repeat' (first | refine awp_block ?_ | (refine e_go ?_; simp []; (refine hJ _ _ ?_; clear hJ J; simp only [ak, reduceIte]))))
  refine awp_range 10 9 11 19 (R.length) (fun j fr st2 => fr 3 = .mp (st.next + 1) ∧ fr 8 = .sl t R.length (rowsL3 R) ∧ st.next + 1 < st2.next ∧ Keeps st st2 ∧ st2.H (st.next + 1) = .map false [.i64] (addAll [] ((sizs R).take j)) ∧ TabB j (addAll [] ((sizs R).take j))) ?_ ?_ ?_
  · exact ⟨by simp, by simp, by omega, k1, by simpa [addAll] using hM1, ⟨by simp [addAll], by simp [addAll]⟩⟩
  · rintro j fr s hlt ⟨f3, f8, hsn, hkp, hM, hT⟩ fi fn J hJ
    have hd := rows3_drop R j hlt
    have hcin : R.getD j [] ∈ R := by rw [List.getD_eq_getElem?_getD, List.getElem?_eq_getElem hlt]; exact List.getElem_mem _
    have htk : (sizs R).take (j + 1) = (sizs R).take j ++ [((R.getD j []).length : Int)] := by
      rw [List.take_succ_eq_append_getElem (by omega)]
      congr 2
      simp [sizs, List.getD_eq_getElem?_getD, List.getElem?_eq_getElem hlt]
    have hcl := hrow _ hcin
    generalize R.getD j [] = c at *
    have hAdd := sAdd (st.next + 1) (addAll [] ((sizs R).take j)) [(c.length : Int)] s.next (j : Int) (s.new (.own 3 1 1)) (by rw [new_H, if_neg (by omega)]; exact hM) (by omega) hT (by simp) (by simp; omega)
    simp only [List.length_cons, List.length_nil, List.map_cons, List.map_nil] at hAdd
    (repeat' (first | refine awp_seq ?_ | (refine w_e [] ?_; intro J hJ; simp only []; simp [f3, f8, fi, fn, hd, hlt, hrl]; (try (refine hJ _ _ ?_; clear hJ J; simp only [ak, reduceIte])))))
    refine callK_ofE hAdd (by simp) ?_; rintro r s5 ⟨rfl, hT5⟩
    have hAA : addAll (addAll [] ((sizs R).take j)) [(c.length : Int)] = addAll [] ((sizs R).take (j + 1)) := by rw [htk]; simp [addAll, List.foldl_append]
    rw [hAA] at hT5 ⊢
    (repeat' (refine e_go ?_; simp []; (refine hJ _ _ ?_; clear hJ J; simp only [ak, reduceIte])))
    refine hJ _ _ (by simp [fi]) (by simp [fn]) ⟨by simp [f3], by simp [f8], by simp; omega, ?_, by simp, by simpa using hT5⟩
    exact (hkp.trans (Keeps.new _ _)).set (by omega) _
  · rintro fr s ⟨f3, f8, hsn, hkp, hM, hT⟩
    rw [List.take_of_length_le (by omega)] at hM hT
    (repeat' (first | refine awp_seq ?_ | (refine awp_ret ?_; simp only [ak, reduceIte]; simp [f3]) | (refine w_e [] ?_; intro J hJ; simp only []; simp [f3]; (refine hJ _ _ ?_; clear hJ J; simp only [ak, reduceIte]))))
    exact ⟨_, R, rfl, by omega, hsn, hkp, hM, hT, hR⟩

end Go.Proofs.YtlnefdmdabhobaaGreat.Aw

namespace Go.Proofs.YtlnefdmdabhobaaGreat.Aw
open Go Go.RowKit Go.Proofs.YtlnefdmdabhobaaGreat.Pl
set_option linter.unusedSimpArgs false
set_option linter.unusedVariables false

def idsL (l : List Ed) : List Int := l.map (·.id)
@[simp] theorem idsL_len (l : List Ed) : (idsL l).length = l.length := by simp [idsL]
def OwnI (t : Nat) (lo : St) (n : Nat) (st : St) : Prop := t ≠ 0 ∧ lo.next ≤ t ∧ t < st.next ∧ st.H t = .own 48 1 n
structure SpI (g : Gr) (st : St) (M : Nat) (E I Rs : List Ed) (t2 t3 : Nat) (mes : List (List Int × LV)) (s : St) : Prop where
  hM : s.H M = .map false [.u32] mes
  fo : IsFo E I Rs
  uf : ∃ U R d, UF g.vs I U R d ∧ ∀ v ∈ g.vs, mget mes [v] = some (u (U v))
  o2 : OwnI t2 st I.length s
  o3 : OwnI t3 st Rs.length s
  ne : t2 ≠ t3
  b : st.next ≤ M ∧ M < s.next
  kp : Keeps st s

end Go.Proofs.YtlnefdmdabhobaaGreat.Aw

namespace Go.Proofs.YtlnefdmdabhobaaGreat.Aw
open Go Go.RowKit Go.Proofs.YtlnefdmdabhobaaGreat.Pl
set_option linter.unusedSimpArgs false
set_option linter.unusedVariables false

/-- A map that tells how far each is. -/
def FarAt (es : List (List Int × LV)) (f : Int → Int) : Prop := ∀ v, (mget es [v]).getD (i 0) = i (f v)
theorem FarAt.set {es : List (List Int × LV)} {f : Int → Int} (h : FarAt es f) (w k : Int) : FarAt (mset es [w] (i k)) (far1 f w k) := fun v => by
  rw [mget_mset]
  unfold far1
  by_cases hv : v = w
  · rw [hv]; simp
  · have : ¬ [v] = [w] := by simpa using hv
    rw [if_neg this, if_neg hv]; exact h v
/-- What stays all along. -/
def GrI (g : Gr) (st : St) (x : Ed) (b : Int) (xb M k : Nat) (fr : Frm) (s : St) : Prop :=
  fr 1 = .pt st.next 0 ∧ fr 3 = i b ∧ fr 5 = .pt xb 0 ∧ fr 6 = .mp M ∧ fr 7 = i (k + 1 : Nat) ∧ fr 11 = .sl 0 g.es.length (eds g.es) ∧ s.H st.next = .box 25 2 (grL g) ∧ s.H xb = .box 50 3 (edL x) ∧ st.next < xb ∧ xb < M ∧ M < s.next ∧ Keeps st s

end Go.Proofs.YtlnefdmdabhobaaGreat.Aw

namespace Go.Proofs.YtlnefdmdabhobaaGreat.Aw
open Go Go.RowKit Go.Proofs.YtlnefdmdabhobaaGreat.Pl
set_option linter.unusedSimpArgs false
set_option linter.unusedVariables false

theorem ref_Chk (g : Gr) (st : St) : ACalls Tryz.prog 33 [.ag (grL g)] st fun r st' => r = i (chk g) ∧ Keeps st st' := by
  by_cases h1 : (64 : Int) < (g.vs.length : Int)
  · have : chk g = 6 := by unfold chk; rw [if_pos (by omega)]
    refine acalls_of_body tabOk Tryz.func33 rfl rfl Tryz.ntmps33 (rs := [.tmp 2]) rfl (by simp) ?_
    (repeat' (first | refine awp_seq ?_ | (refine awp_ret ?_; simp only [ak, reduceIte]; simp [h1, this]) | (refine awp_cond ?_; simp [h1, this]) | (refine w_e [] ?_; intro J hJ; simp only []; simp [h1, this]; (refine hJ _ _ ?_; clear hJ J; simp only [ak, reduceIte]))))
    exact Keeps.new _ _
  by_cases h2 : (160 : Int) < (g.es.length : Int)
  · have : chk g = 6 := by unfold chk; rw [if_pos (by omega)]
    refine acalls_of_body tabOk Tryz.func33 rfl rfl Tryz.ntmps33 (rs := [.tmp 2]) rfl (by simp) ?_
    (repeat' (first | refine awp_seq ?_ | (refine awp_ret ?_; simp only [ak, reduceIte]; simp [h1, h2, this]) | (refine awp_cond ?_; simp [h1, h2, this]) | (refine w_e [] ?_; intro J hJ; simp only []; simp [h1, h2, this]; (refine hJ _ _ ?_; clear hJ J; simp only [ak, reduceIte]))))
    exact Keeps.new _ _
  exact ref_Check g st (by omega) (by omega)

end Go.Proofs.YtlnefdmdabhobaaGreat.Aw

namespace Go.Proofs.YtlnefdmdabhobaaGreat.Aw
open Go Go.RowKit Go.Proofs.YtlnefdmdabhobaaGreat.Pl
set_option linter.unusedSimpArgs false
set_option linter.unusedVariables false
open Eu

section
variable {P : Program} {T : Tab} {ops : Array Oper} {M B : List Nat} {st0 : St} {J : Frm → St → Prop}
/-- An operation that writes nothing, where it alone may come next. -/
def AOne (T : Tab) (ops : Array Oper) (M : List Nat) (o : Oper) (K : Frm → St → Prop) (fr : Frm) (st : St) : Prop :=
  match wantedL ops fr o.guard with
  | some b => (b = true → match aop T (inM M o.dst) o fr st with
      | some r => r.c ∧ K (updO fr o.dst r.v) st
      | none => False) ∧ (b = false → K (updO fr o.dst (.tu [])) st)
  | none => False
end

theorem chk_smallS {m : Mp} (h : rchk m = 0) : m.g.vs.length ≤ 64 := by
  obtain ⟨_, _, h3, _⟩ := chk_good (rchk_zero h).1
  exact h3
theorem ref_rCheckS (m : Mp) (st : St) (hr : m.rots.length ≤ 1000) (he : m.g.es.length ≤ 1000) : ACalls Tryz.prog 18 [.ag (mpL m)] st fun r st' => r = i (rchk m) ∧ Keeps st st' := by
  by_cases hv : m.g.vs.length ≤ 1000
  · exact ref_rCheck m st hv he hr
  · have hc : chk m.g = 6 := by unfold chk; rw [if_pos (by omega)]
    have hrc : rchk m = 6 := by rw [rchk_g (by rw [hc]; decide), hc]
    refine acalls_of_body tabOk Tryz.func18 rfl rfl Tryz.ntmps18 (rs := [.tmp 2]) rfl (by simp) ?_
    (repeat' (first | refine awp_seq ?_ | (refine w_e [] ?_; intro J hJ; simp only []; simp []; (try (refine hJ _ _ ?_; clear hJ J; simp only [ak, reduceIte])))))
    refine callK_ofE (ref_Chk m.g _) (by simp) ?_; rintro r s1 ⟨rfl, hk1⟩
    rw [hc]
    (repeat' (first | refine awp_seq ?_ | (refine awp_ret ?_; simp only [ak, reduceIte]; simp [hrc]) | (refine awp_cond ?_; simp [hrc]) | ((first | (refine w_e [] ?_; intro J hJ; simp only []) | (refine e_go ?_)); simp [hrc]; (refine hJ _ _ ?_; clear hJ J; simp only [ak, reduceIte]))))
    exact (Keeps.new _ _).trans hk1

noncomputable def OfC (m : Mp) (M : Nat) (F : Nat) : List LV := [.mp M, i m.g.vs.length, i m.g.es.length, i F, i (ncl (Reach m.g.es) m.g.vs : Nat), i (Aw.gn m : Nat), i (refGirth m.g)]
def OfP (m : Mp) (st : St) (r : LV) (st' : St) : Prop := ∃ M R, r = .ag (OfC m M R.length) ∧ st.next ≤ M ∧ M < st'.next ∧ Keeps st st' ∧ st'.H M = .map false [.i64] (addAll [] (degs m.g)) ∧ TabB m.g.vs.length (addAll [] (degs m.g)) ∧ Lead (fc m m.g.es) (darts m.g.es) (darts m.g.es).length R
set_option maxHeartbeats 2000000 in
theorem sOf (m : Mp) (h : MapOk m) (st : St) (hv : m.g.vs.length ≤ 100) (he : m.g.es.length ≤ 400) :
    ACalls Tryz.prog 19 [.ag (mpL m)] st (OfP m st) := by
  have hid : idOk m.g.es := fun x hx => by have := h.g.pos x hx; omega
  refine acalls_of_body tabOk Tryz.func19 rfl rfl Tryz.ntmps19 (rs := [.cell 2 34]) rfl (by simp) ?_
  have e1 : ¬ st.next = st.next + 1 := by omega
  (repeat' (first | refine awp_seq ?_ | (refine w_e [] ?_; intro J hJ; simp only []; simp []; (refine hJ _ _ ?_; clear hJ J; simp only [ak, reduceIte]))))
  (refine w_s [] [st.next] [(0, true), (1, true), (3, true), (4, true), (5, true), (6, true), (7, true), (8, true), (9, true), (10, true), (11, true), (14, true), (15, true), (18, true), (20, true), (21, true), (2, true), (12, true), (13, true), (16, true), (17, true), (19, true), (22, true), (23, true), (24, false)] ?_; intro J hJ; simp [e1])
  refine dcallK_ofE (Degrees m.g _ (by omega) (by omega) hid) (by simp) ?_; rintro r s1 ⟨M, rfl, hM0, hM1, hk1, hM, hT⟩
  have hn1 := hk1.next
  simp only [new_next] at hn1 hM0
  have hG1 : s1.H st.next = .box 28 3 (mpL m) := by rw [hk1.H _ (by simp; omega)]; simp [e1]
  have hC1 : s1.H (st.next + 1) = .box 34 7 [.atom (.map none), i 0, i 0, i 0, i 0, i 0, i 0] := by rw [hk1.H _ (by simp)]; simp
  refine ⟨fun _ => by simp [hG1, e1], ?_⟩
  (refine d_go ?_; simp [hG1, e1])
  refine dcallK_ofE (Faces m h _ (by omega) (by omega)) (by simp) ?_; rintro r s2 ⟨⟨t, R, rfl, hR⟩, hk2⟩
  have hn2 := hk2.next
  have hG2 := (hk2.H st.next (by omega)).trans hG1
  refine ⟨fun _ => by simp [hG2, e1], ?_⟩
  (refine d_go ?_; simp [hG2, e1])
  refine dcallK_ofE (Parts m.g _ h.g.toGood (by omega) (by omega)) (by simp) ?_; rintro r s3 ⟨⟨t3, R3, rfl, hP⟩, hk3⟩
  have hn3 := hk3.next
  have hG3 := (hk3.H st.next (by omega)).trans hG2
  have l3 := hP.all
  refine ⟨fun _ => by simp [hG3, e1], ?_⟩
  (refine d_go ?_; simp [hG3, e1, l3])
  refine dcallK_ofE (Genus m h _ (by omega) (by omega)) (by simp) ?_; rintro r s4 ⟨rfl, hk4⟩
  have hn4 := hk4.next
  have hG4 := (hk4.H st.next (by omega)).trans hG3
  refine ⟨fun _ => by simp [hG4, e1], ?_⟩
  (refine d_go ?_; simp [hG4, e1, l3])
  refine dcallK_ofE (Girth m.g (m.g.vs.length + 1) (refGirth m.g) _ (by omega) (by omega) (by omega) (girth_same h.g.toGood (by omega) (by omega))) (by simp) ?_; rintro r s5 ⟨rfl, hk5⟩
  have hn5 := hk5.next
  have hG5 := (hk5.H st.next (by omega)).trans hG4
  have hC5 := (hk5.H _ (by omega)).trans ((hk4.H _ (by omega)).trans ((hk3.H _ (by omega)).trans ((hk2.H _ (by omega)).trans hC1)))
  have hM5 := (hk5.H _ (by omega)).trans ((hk4.H _ (by omega)).trans ((hk3.H _ (by omega)).trans ((hk2.H _ (by omega)).trans hM)))
  refine ⟨fun _ => by simp [hG5, e1], ?_⟩
  (refine d_go ?_; simp [hG5, hC5, e1, l3]; (refine hJ _ _ ?_; clear hJ J; simp only [ak, reduceIte]))
  (repeat' (refine awp_ret ?_; simp only [ak, reduceIte]; simp []))
  refine ⟨M, R, rfl, by omega, by simp; omega, ?_, ?_, hT, hR⟩
  · exact ((((((((Keeps.new _ _).trans (Keeps.new _ _)).trans hk1).trans hk2).trans hk3).trans hk4).trans hk5).set (by omega) _)
  · rw [set_H, if_neg (by omega)]; exact hM5

end Go.Proofs.YtlnefdmdabhobaaGreat.Aw

namespace Go.Proofs.YtlnefdmdabhobaaGreat.Aw
open Go Go.RowKit Go.Proofs.YtlnefdmdabhobaaGreat.Pl
set_option linter.unusedSimpArgs false
set_option linter.unusedVariables false
open Eu

set_option maxHeartbeats 4000000 in
theorem StatSums (m : Mp) (st : St) :
    ACalls Tryz.prog 4 [.ag (mpL m)] st fun r st' => r = bb true := by
  refine acalls_of_body tabOk Tryz.func4 rfl rfl Tryz.ntmps4 (rs := [.tmp 2]) rfl (by simp) ?_
  refine awp_posG fun hpos => ?_
  (repeat' (first | refine awp_seq ?_ | (refine w_e [] ?_; intro J hJ; simp only []; simp []; (try (refine hJ _ _ ?_; clear hJ J; simp only [ak, reduceIte])))))
  refine callK_ofE (awake37 _) (by simp []) ?_; rintro r st' ⟨rfl, rfl⟩
  by_cases h1 : (40 : Int) < m.g.es.length
  · (repeat' (first | refine awp_seq ?_ | (refine awp_skip ?_; simp only [ak, reduceIte]) | (refine awp_ret ?_; simp only [ak, reduceIte]; simp [h1]) | (refine awp_cond ?_; simp [h1]) | ((first | (refine w_e [] ?_; intro J hJ; simp only []) | (refine e_go ?_)); simp [h1]; (refine hJ _ _ ?_; clear hJ J; simp only [ak, reduceIte]))))
  by_cases h2 : (64 : Int) < m.rots.length
  · (repeat' (first | refine awp_seq ?_ | (refine awp_skip ?_; simp only [ak, reduceIte]) | (refine awp_ret ?_; simp only [ak, reduceIte]; simp [h1, h2]) | (refine awp_cond ?_; simp [h1, h2]) | ((first | (refine w_e [] ?_; intro J hJ; simp only []) | (refine e_go ?_)); simp [h1, h2]; (refine hJ _ _ ?_; clear hJ J; simp only [ak, reduceIte]))))
  (repeat' (first | refine awp_seq ?_ | (refine awp_skip ?_; simp only [ak, reduceIte]) | (refine awp_cond ?_; simp [h1, h2]) | ((first | (refine w_e [] ?_; intro J hJ; simp only []) | (refine e_go ?_)); simp [h1, h2]; (try (refine hJ _ _ ?_; clear hJ J; simp only [ak, reduceIte])))))
  refine callK_ofE (ref_rCheckS m _ (by omega) (by omega)) (by simp) ?_; rintro r s1 ⟨rfl, hk1⟩
  have hn1 := hk1.next
  simp only [new_next] at hn1
  have hG1 : s1.H st.next = .box 28 3 (mpL m) := by rw [hk1.H _ (by simp)]; simp
  by_cases hc : rchk m = 0
  rotate_left
  · generalize rchk m = x at *
    (repeat' (first | refine awp_seq ?_ | (refine awp_ret ?_; simp only [ak, reduceIte]; simp [hc]) | (refine awp_cond ?_; simp [hc]) | ((first | (refine w_e [] ?_; intro J hJ; simp only []) | (refine e_go ?_)); simp [hc]; (refine hJ _ _ ?_; clear hJ J; simp only [ak, reduceIte]))))
  have h := (rchk_zero hc).2
  have hv := chk_smallS hc
  have he : m.g.es.length ≤ 40 := by omega
  have hdl := darts_length m.g.es
  have hdt : ∀ k ∈ degs m.g, -40000 ≤ k ∧ k ≤ 40000 := fun k hk => by
    obtain ⟨v, _, rfl⟩ := List.mem_map.1 hk
    have := ends_le m.g.es v
    omega
  (repeat' (first | refine awp_seq ?_ | (refine awp_skip ?_; simp only [ak, reduceIte]) | (refine awp_cond ?_; simp [hc, hG1]) | ((first | (refine w_e [] ?_; intro J hJ; simp only []) | (refine e_go ?_)); simp [hc, hG1]; (try (refine hJ _ _ ?_; clear hJ J; simp only [ak, reduceIte])))))
  refine callK_ofE (sOf m h _ (by omega) (by omega)) (by simp) ?_; rintro r s2 ⟨M, R, rfl, hM0, hM1, hk2, hM, hT, hR⟩
  have hn2 := hk2.next
  have hG2 := (hk2.H st.next (by omega)).trans hG1
  have hRl := hR.len
  have hcnt := Lead.count h.perF (fun x hx => h.fc_dart _ x hx) (rise_nodup (darts_rise h.g.ids)) hR
  have hsz : ∀ k ∈ sizs R, -40000 ≤ k ∧ k ≤ 40000 := fun k hk => by
    obtain ⟨c, hc, rfl⟩ := List.mem_map.1 hk
    have h1 : c.length ≤ R.flatten.length := (List.sublist_flatten_of_mem hc).length_le
    rw [hcnt.length_eq] at h1; omega
  have hT0 : TabB 0 [] := ⟨by simp, by simp⟩
  have hs1 : sumL (addAll [] (degs m.g)) = ((2 * m.g.es.length : Nat) : Int) := by
    rw [sum_all _ _ 0 hT0 (by omega) hdt, degs_sum h]
    have : sumL [] = 0 := rfl
    rw [this]; omega
  have hs2 : sumL (addAll [] (sizs R)) = ((2 * m.g.es.length : Nat) : Int) := by
    rw [sum_all _ _ 0 hT0 (by omega) hsz, sizs_sum, hcnt.length_eq, hdl]
    have : sumL [] = 0 := rfl
    rw [this]; omega
  have hl1 := all_len (degs m.g) []
  have hl2 := all_len (sizs R) []
  simp only [List.length_nil, degs, sizs, List.length_map] at hl1 hl2
  have e1 : ¬ st.next = s2.next := by omega
  have e2 : ¬ M = s2.next := by omega
  have w1 : IntKind.i64.wrap (2 * (m.g.es.length : Int)) = 2 * (m.g.es.length : Int) := wrap_i64 _ (by omega) (by omega)
  have hM3 : (s2.new (.box 34 7 (OfC m M R.length))).H M = .map false [.i64] (addAll [] (degs m.g)) := by rw [new_H, if_neg e2]; exact hM
  (repeat' (first | refine awp_seq ?_ | (refine e_go ?_; simp [e1, hG2, OfC]; (refine hJ _ _ ?_; clear hJ J; simp only [ak, reduceIte]))))
  simp only [OfC] at hM3
  (repeat (refine awp_seq ?_)); (refine w_s [] [st.next, s2.next] [(0, true), (1, true), (3, true), (4, true), (5, true), (6, true), (7, true), (2, true), (8, true), (9, true), (10, true), (13, true), (14, true), (15, true), (16, true), (17, true), (11, true), (12, true), (18, true), (19, true)] ?_; intro J hJ; simp [e1, hG2, w1])
  refine dcallK_ofE (sSum M (addAll [] (degs m.g)) _ hM3 (hT.isKn (by omega)) (by simp only [degs]; omega)) (by simp) ?_; rintro r s3 ⟨rfl, rfl⟩
  rw [hs1]
  refine ⟨fun _ => by simp, ?_⟩
  (refine d_go ?_; simp [e1, hG2, w1])
  refine dcallK_ofE (Sizes m h _ (by omega) (by omega)) (by simp) ?_; rintro r s4 ⟨M2, R2, rfl, a1, a2, hk4, hM4, hT4, hR2⟩
  obtain rfl := hR.unique hR2
  have hn4 := hk4.next
  simp only [new_next] at hn4
  have hG4 : s4.H st.next = .box 28 3 (mpL m) := by rw [hk4.H _ (by simp; omega), new_H, if_neg e1]; exact hG2
  have hB4 : s4.H s2.next = .box 34 7 (OfC m M R.length) := by rw [hk4.H _ (by simp)]; simp [OfC]
  simp only [OfC] at hB4
  refine ⟨fun _ => by simp [hG4, hB4, hG2, e1], ?_⟩
  (refine d_go ?_; simp [e1, hG2, w1])
  refine dcallK_ofE (sSum M2 (addAll [] (sizs R)) _ hM4 (hT4.isKn (by omega)) (by simp only [sizs]; omega)) (by simp) ?_; rintro r s5 ⟨rfl, rfl⟩
  rw [hs2]
  refine ⟨fun _ => by simp [hG4, hB4, hG2, e1], ?_⟩
  (refine d_go ?_; simp [e1, hG2, w1, hG4, hB4]; (refine hJ _ _ ?_; clear hJ J; simp only [ak, reduceIte]))
  by_cases hg0 : Aw.gn m = 0
  rotate_left
  · have hg0' : ((Aw.gn m : Int) != 0) = true := by simpa using hg0
    (repeat' (first | refine awp_seq ?_ | (refine awp_skip ?_; simp only [ak, reduceIte]) | (refine awp_ret ?_; simp only [ak, reduceIte]; simp [hB4, hG4, hg0, hg0']) | (refine awp_cond ?_; simp [hB4, hG4, hg0, hg0']) | (refine w_e [] ?_; intro J hJ; simp only []; simp [hB4, hG4, hg0, hg0']; (refine hJ _ _ ?_; clear hJ J; simp only [ak, reduceIte]))))
  by_cases hg3 : refGirth m.g < 3
  · (repeat' (first | refine awp_seq ?_ | (refine awp_skip ?_; simp only [ak, reduceIte]) | (refine awp_ret ?_; simp only [ak, reduceIte]; simp [hB4, hG4, hg0, hg3]) | (refine awp_cond ?_; simp [hB4, hG4, hg0, hg3]) | (refine w_e [] ?_; intro J hJ; simp only []; simp [hB4, hG4, hg0, hg3]; (refine hJ _ _ ?_; clear hJ J; simp only [ak, reduceIte]))))
  by_cases hv3 : m.g.vs.length < 3
  · have hv3' : (m.g.vs.length : Int) < 3 := by omega
    (repeat' (first | refine awp_seq ?_ | (refine awp_skip ?_; simp only [ak, reduceIte]) | (refine awp_ret ?_; simp only [ak, reduceIte]; simp [hB4, hG4, hg0, hg3, hv3, hv3']) | (refine awp_cond ?_; simp [hB4, hG4, hg0, hg3, hv3, hv3']) | (refine w_e [] ?_; intro J hJ; simp only []; simp [hB4, hG4, hg0, hg3, hv3, hv3']; (refine hJ _ _ ?_; clear hJ J; simp only [ak, reduceIte]))))
  have hv3' : ¬ (m.g.vs.length : Int) < 3 := by omega
  have hfew := h.few hR hg0 (by omega) (by omega)
  have htop := girth_top m.g
  generalize refGirth m.g = γ at *
  have b1 : 0 ≤ (m.g.es.length : Int) * (γ - 2) := Int.mul_nonneg (by omega) (by omega)
  have b2 : γ * ((m.g.vs.length : Int) - 2) ≤ 65 * ((m.g.vs.length : Int) - 2) := Int.mul_le_mul_of_nonneg_right (by omega) (by omega)
  have w2 : IntKind.i64.wrap (γ - 2) = γ - 2 := wrap_i64 _ (by omega) (by omega)
  have w3 : IntKind.i64.wrap ((m.g.vs.length : Int) - 2) = (m.g.vs.length : Int) - 2 := wrap_i64 _ (by omega) (by omega)
  have w4 : IntKind.i64.wrap ((m.g.es.length : Int) * (γ - 2)) = (m.g.es.length : Int) * (γ - 2) := wrap_i64 _ (by omega) (by omega)
  have w5 : IntKind.i64.wrap (γ * ((m.g.vs.length : Int) - 2)) = γ * ((m.g.vs.length : Int) - 2) := wrap_i64 _ (by omega) (by omega)
  (repeat' (first | refine awp_seq ?_ | (refine awp_skip ?_; simp only [ak, reduceIte]) | (refine awp_ret ?_; simp only [ak, reduceIte]; simp [hB4, hG4, hg0, hg3, hv3, hv3', w2, w3, w4, w5, hfew]) | (refine awp_cond ?_; simp [hB4, hG4, hg0, hg3, hv3, hv3', w2, w3, w4, w5, hfew]) | (refine w_e [] ?_; intro J hJ; simp only []; simp [hB4, hG4, hg0, hg3, hv3, hv3', w2, w3, w4, w5, hfew]; (refine hJ _ _ ?_; clear hJ J; simp only [ak, reduceIte]))))

theorem StatSums_shp (l0 : List LV) (st : St) (h0 : Shp tab 28 l0) :
    ACalls Tryz.prog 4 [argT tab 28 l0] st fun r st' => r = bb true := by
  obtain ⟨m, rfl, _⟩ := shp_mp h0
  exact StatSums m st

end Go.Proofs.YtlnefdmdabhobaaGreat.Aw
