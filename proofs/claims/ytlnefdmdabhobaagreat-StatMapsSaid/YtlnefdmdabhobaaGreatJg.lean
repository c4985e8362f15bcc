/- Maps: the genus, the program's and the document's. Plain: faces are rings' sizes or more; in the plane there are few enough edges. No program. Tables of counts: what is counted (plain); Sum, Top of a table that is none. Rows of int: Equal. The law StatTables, given what its chapter's example answers. The law StatTables at any argument that is well formed, given what its chapter's example answers. stat.Degrees; what chapter 37's example answers; StatTables. Maps: whether one may be, as the program says it. Maps: whether one may be, as the document says it; whether it lies in the plane. stat.Sizes, stat.Of; counts by keys. tree: root, split, Forest, Rest. The document's Girth and Degree. Whether any graph may be, of whatever size, as the document says it. stat.Of; what is asked of a map ahead; an operation that alone may come next. The law StatMaps. -/
import Derived.Test.YtlnefdmdabhobaaGreatJf
import Derived.Test.YtlnefdmdabhobaaGreatAwZ
import Derived.Test.YtlnefdmdabhobaaGreatAwRg
import Derived.Test.YtlnefdmdabhobaaGreatAwAlt
namespace Go.Proofs.YtlnefdmdabhobaaGreat.Aw
open Go Go.RowKit Go.Proofs.YtlnefdmdabhobaaGreat.Pl Go.Proofs.YtlnefdmdabhobaaGreat.Eu
set_option linter.unusedSimpArgs false
set_option linter.unusedVariables false

/-- A map's genus. -/
noncomputable def gn (m : Mp) : Nat := (2 * ncl (Reach m.g.es) m.g.vs + m.g.es.length - (alone m.g + m.g.vs.length + ncl (Orb (fc m m.g.es)) (darts m.g.es))) / 2
theorem MapOk.gn {m : Mp} (h : MapOk m) : 2 * ncl (Reach m.g.es) m.g.vs + m.g.es.length = 2 * gn m + alone m.g + m.g.vs.length + ncl (Orb (fc m m.g.es)) (darts m.g.es) := by
  obtain ⟨k, hk⟩ := h.euler
  have : Aw.gn m = k := by unfold Aw.gn; omega
  omega

set_option maxHeartbeats 1000000 in
theorem Genus (m : Mp) (h : MapOk m) (st : St) (hv : m.g.vs.length ≤ 1000) (he : m.g.es.length ≤ 1000) :
    ACalls Tryz.prog 78 [.ag (mpL m)] st fun r st' => r = i (gn m) ∧ Keeps st st' := by
  have hP := h.fc_per m.g.es (fun x hx => hx)
  have hgn := h.gn
  have hal : alone m.g ≤ m.g.vs.length := List.countP_le_length
  have hdl := darts_length m.g.es
  refine acalls_of_body tabOk Tryz.func78 rfl rfl Tryz.ntmps78 (rs := [.tmp 2]) rfl (by simp) ?_
  (repeat' (first | refine awp_seq ?_ | (refine w_e [] ?_; intro J hJ; simp only []; simp []; (refine hJ _ _ ?_; clear hJ J; simp only [ak, reduceIte]))))
  (refine w_s [] [st.next] [(0, true), (1, true), (4, true), (5, true), (2, true), (3, true), (6, true), (7, true), (8, true)] ?_; intro J hJ; simp [])
  refine dcallK_ofE (Parts m.g _ h.g.toGood hv he) (by simp) ?_; rintro r s1 ⟨⟨t, R, rfl, hR⟩, hk1⟩
  have hn1 := hk1.next
  simp only [new_next] at hn1
  have hG1 := hk1.H st.next (by simp)
  simp at hG1
  refine ⟨fun _ => by simp [hG1], ?_⟩
  (refine d_go ?_; simp [hG1])
  refine dcallK_ofE (Alone m.g _ hv he) (by simp) ?_; rintro r s2 ⟨rfl, hk2⟩
  have hn2 := hk2.next
  have hG2 := (hk2.H st.next (by omega)).trans hG1
  refine ⟨fun _ => by simp [hG2], ?_⟩
  (refine d_go ?_; simp [hG2]; (refine hJ _ _ ?_; clear hJ J; simp only [ak, reduceIte]))
  have hRn := hR.all
  have hRl := hR.len
  generalize R.length = p at *
  generalize alone m.g = al at *
  refine awp_seq ?_
  (refine w_s [] [st.next] [(0, true), (1, true), (2, true), (3, true), (4, true), (5, true), (6, true), (7, true), (8, true), (9, true), (10, true), (11, true), (12, true), (13, true), (14, true), (15, true), (16, true), (17, true), (18, true), (19, true)] ?_; intro J hJ; simp [hG2])
  refine dcallK_ofE (Faces m h _ hv he) (by simp) ?_; rintro r s3 ⟨⟨t3, F, rfl, hF⟩, hk3⟩
  have hG3 := (hk3.H st.next (by omega)).trans hG2
  refine ⟨fun _ => by simp [hG3, hG2], ?_⟩
  have hFn := hF.all hP
  have hFl := hF.len
  generalize F.length = f at *
  have w1 : IntKind.i64.wrap (2 * (p : Int)) = 2 * p := wrap_i64 _ (by omega) (by omega)
  have w2 : IntKind.i64.wrap (2 * (p : Int) - al) = 2 * p - al := wrap_i64 _ (by omega) (by omega)
  have w3 : IntKind.i64.wrap (2 * (p : Int) - al - m.g.vs.length) = 2 * p - al - m.g.vs.length := wrap_i64 _ (by omega) (by omega)
  have w4 : IntKind.i64.wrap (2 * (p : Int) - al - m.g.vs.length + m.g.es.length) = 2 * p - al - m.g.vs.length + m.g.es.length := wrap_i64 _ (by omega) (by omega)
  have w5 : IntKind.i64.wrap (2 * (p : Int) - al - m.g.vs.length + m.g.es.length - f) = 2 * (gn m : Int) := by rw [wrap_i64 _ (by omega) (by omega)]; omega
  have w6 : IntKind.i64.wrap ((2 * (gn m : Int)).tdiv 2) = (gn m : Int) := by
    rw [Int.mul_comm, Int.mul_tdiv_cancel _ (by omega)]
    exact wrap_i64 _ (by omega) (by omega)
  (refine d_go ?_; simp [hG3, hG2, w1, w2, w3, w4, w5, w6]; (refine hJ _ _ ?_; clear hJ J; simp only [ak, reduceIte]))
  (repeat' (refine awp_ret ?_; simp only [ak, reduceIte]; simp []))
  exact ⟨wrap_i64 _ (by omega) (by omega), (((Keeps.new _ _).trans hk1).trans hk2).trans hk3⟩

theorem ends_len0 (es : List Ed) (v : Int) : (ends es v).length = 0 ↔ nbr es v = [] := by rw [List.length_eq_zero_iff, ends_nil]

set_option maxHeartbeats 1000000 in
theorem Twice (m : Mp) (h : MapOk m) (st : St) (hv : m.g.vs.length ≤ 1000) (he : m.g.es.length ≤ 1000) :
    ACalls Tryz.prog 22 [.ag (mpL m)] st fun r st' => r = i (2 * gn m) ∧ Keeps st st' := by
  have hP := h.fc_per m.g.es (fun x hx => hx)
  have hgn := h.gn
  have hal : alone m.g ≤ m.g.vs.length := List.countP_le_length
  have hdl := darts_length m.g.es
  have hid : idOk m.g.es := fun x hx => by have := h.g.pos x hx; omega
  refine acalls_of_body tabOk Tryz.func22 rfl rfl Tryz.ntmps22 (rs := [.tmp 2]) rfl (by simp) ?_
  (repeat' (first | refine awp_seq ?_ | refine awp_block ?_ | (refine w_e [] ?_; intro J hJ; simp only []; simp []; (refine hJ _ _ ?_; clear hJ J; simp only [ak, reduceIte]))))
  refine awp_range 10 9 11 22 (m.g.vs.length) (fun j fr st2 => fr 1 = .pt st.next 0 ∧ fr 8 = .sl 0 m.g.vs.length (us m.g.vs) ∧ fr 3 = i ((m.g.vs.take j).countP fun v => decide (nbr m.g.es v = []) : Nat) ∧ st2.H st.next = .box 28 3 (mpL m) ∧ Keeps st st2 ∧ st.next < st2.next) ?_ ?_ ?_
  · exact ⟨by simp, by simp, by simp, by simp, Keeps.new _ _, by simp⟩
  · rintro j fr st2 hlt ⟨f1, f8, f3, hG, hkp, hsn⟩ fi fn JJ hJJ
    have hd := us_drop_getD m.g.vs j hlt
    have hct := count_take (fun v => decide (nbr m.g.es v = [])) m.g.vs j hlt
    have hle : (m.g.vs.take j).countP (fun v => decide (nbr m.g.es v = [])) ≤ j := Nat.le_trans List.countP_le_length (by simp; omega)
    generalize m.g.vs.getD j 0 = v at *
    generalize (m.g.vs.take j).countP (fun v => decide (nbr m.g.es v = [])) = c at *
    (repeat' (first | refine awp_seq ?_ | (refine w_e [] ?_; intro J hJ; simp only []; simp [f1, f8, fi, fn, hd, hG, hlt]; (try (refine hJ _ _ ?_; clear hJ J; simp only [ak, reduceIte])))))
    refine callK_ofE (ref_Ends m.g v _ he hid) (by simp) ?_; rintro r s3 ⟨⟨t, rfl⟩, hk3⟩
    have hn3 := hk3.next
    have e0 := ends_len0 m.g.es v
    have hw := nat_add_one c (by omega)
    by_cases h0 : nbr m.g.es v = []
    · have e1 := e0.2 h0
      rw [if_pos (by simpa using h0)] at hct
      (repeat' (first | (refine awp_cond ?_; simp [e1, f3, hw]) | ((first | (refine w_e [] ?_; intro J hJ; simp only []) | (refine e_go ?_)); simp [e1, f3, hw]; (refine hJ _ _ ?_; clear hJ J; simp only [ak, reduceIte]))))
      exact hJJ _ _ (by simp [fi]) (by simp [fn]) ⟨by simp [f1], by simp [f8], by simp [hct], (hk3.H _ hsn).trans hG, hkp.trans hk3, by omega⟩
    · have e1 : ¬ (ends m.g.es v).length = 0 := fun e => h0 (e0.1 e)
      rw [if_neg (by simpa using h0)] at hct
      generalize (ends m.g.es v).length = el at *
      (repeat' (first | (refine awp_skip ?_; simp only [ak, reduceIte]) | (refine awp_cond ?_; simp [e1, f3]) | (refine e_go ?_; simp [e1, f3]; (refine hJ _ _ ?_; clear hJ J; simp only [ak, reduceIte]))))
      exact hJJ _ _ (by simp [fi]) (by simp [fn]) ⟨by simp [f1], by simp [f8], by simp [hct, f3], (hk3.H _ hsn).trans hG, hkp.trans hk3, by omega⟩
  rintro fr st2 ⟨f1, f8, f3, hG, hkp, hsn⟩
  rw [List.take_length] at f3
  have f3' : fr 3 = i (alone m.g) := f3
  clear f3
  (repeat' refine awp_seq ?_)
  (refine w_s [] [st.next] [(0, true), (1, true), (5, true), (7, true), (8, true), (9, true), (10, true), (12, true), (13, true), (14, true), (15, true), (17, true), (2, true), (3, true), (4, true), (6, true), (11, true), (16, true), (18, true), (19, true), (20, true), (21, true)] ?_; intro J hJ; simp [f1, f3', hG])
  refine dcallK_ofE (ref_Parts m.g _ h.g.toGood hv he) (by simp) ?_; rintro r s1 ⟨⟨t, R, rfl, hR⟩, hk1⟩
  have hn1 := hk1.next
  have hG1 := (hk1.H st.next (by omega)).trans hG
  refine ⟨fun _ => by simp [hG1, hG], ?_⟩
  have hRn := hR.all
  have hRl := hR.len
  generalize R.length = p at *
  generalize alone m.g = al at *
  have w1 : IntKind.i64.wrap (2 * (p : Int)) = 2 * p := wrap_i64 _ (by omega) (by omega)
  have w2 : IntKind.i64.wrap (2 * (p : Int) - al) = 2 * p - al := wrap_i64 _ (by omega) (by omega)
  have w3 : IntKind.i64.wrap (2 * (p : Int) - al - m.g.vs.length) = 2 * p - al - m.g.vs.length := wrap_i64 _ (by omega) (by omega)
  have w4 : IntKind.i64.wrap (2 * (p : Int) - al - m.g.vs.length + m.g.es.length) = 2 * p - al - m.g.vs.length + m.g.es.length := wrap_i64 _ (by omega) (by omega)
  (refine d_go ?_; simp [hG1, hG, f1, f3', w1, w2, w3, w4])
  refine dcallK_ofE (ref_Faces m h _ hv he) (by simp) ?_; rintro r s3 ⟨⟨t3, F, rfl, hF⟩, hk3⟩
  have hG3 := (hk3.H st.next (by omega)).trans hG1
  refine ⟨fun _ => by simp [hG3, hG1, hG], ?_⟩
  have hFn := hF.all hP
  have hFl := hF.len
  generalize F.length = f at *
  have w5 : IntKind.i64.wrap (2 * (p : Int) - al - m.g.vs.length + m.g.es.length - f) = 2 * (gn m : Int) := by rw [wrap_i64 _ (by omega) (by omega)]; omega
  (refine d_go ?_; simp [hG3, hG1, hG, w1, w2, w3, w4, w5, f1, f3']; (refine hJ _ _ ?_; clear hJ J; simp only [ak, reduceIte]))
  (repeat' (refine awp_ret ?_; simp only [ak, reduceIte]; simp []))
  exact (hkp.trans hk1).trans hk3

end Go.Proofs.YtlnefdmdabhobaaGreat.Aw

namespace Go.Proofs.YtlnefdmdabhobaaGreat.Aw
open Go Go.RowKit Go.Proofs.YtlnefdmdabhobaaGreat.Pl
set_option linter.unusedSimpArgs false
set_option linter.unusedVariables false
open Eu

theorem Wk.pre {near : Int → List Int} {v w u : Int} {n : Nat} (h : Wk near w n u) (hw : w ∈ near v) : Wk near v (n + 1) u := by
  induction h with
  | nil => exact .snoc .nil hw
  | snoc _ hx ih => exact .snoc ih hx
theorem Wk.symm {near : Int → List Int} (hs : ∀ v w, w ∈ near v → v ∈ near w) {v w : Int} {n : Nat} (h : Wk near v n w) : Wk near w n v := by
  induction h with
  | nil => exact .nil
  | snoc _ hx ih => exact ih.pre (hs _ _ hx)
theorem best1_le (b k : Int) (hb : 0 ≤ b) (hk : 0 ≤ k) : 0 ≤ best1 b k ∧ (0 < b → 0 < best1 b k ∧ best1 b k ≤ b) ∧ (0 < k → 0 < best1 b k ∧ best1 b k ≤ k) ∧ (best1 b k = b ∨ best1 b k = k) := by
  unfold best1
  split <;> omega
theorem best_fold {α : Type} (k : α → Int) (hk : ∀ x, 0 ≤ k x) : ∀ (l : List α) (b : Int), 0 ≤ b → (0 < b → 0 < l.foldl (fun b x => best1 b (k x)) b ∧ l.foldl (fun b x => best1 b (k x)) b ≤ b) ∧ (∀ x ∈ l, 0 < k x → 0 < l.foldl (fun b x => best1 b (k x)) b ∧ l.foldl (fun b x => best1 b (k x)) b ≤ k x) ∧ (l.foldl (fun b x => best1 b (k x)) b = b ∨ ∃ x ∈ l, l.foldl (fun b x => best1 b (k x)) b = k x)
  | [], b, hb => ⟨fun h => ⟨h, Int.le_refl _⟩, fun x hx => by simp at hx, .inl rfl⟩
  | y :: l, b, hb => by
    obtain ⟨a1, a2, a3, a4⟩ := best1_le b (k y) hb (hk y)
    obtain ⟨b1, b2, b3⟩ := best_fold k hk l (best1 b (k y)) a1
    rw [List.foldl_cons]
    refine ⟨fun h => ?_, fun x hx h => ?_, ?_⟩
    · have := a2 h; have := b1 this.1; omega
    · rcases List.mem_cons.1 hx with rfl | hx
      · have := a3 h; have := b1 this.1; omega
      · exact b2 x hx h
    · rcases b3 with b3 | ⟨x, hx, b3⟩
      · rcases a4 with a4 | a4
        · exact .inl (b3.trans a4)
        · exact .inr ⟨y, by simp, b3.trans a4⟩
      · exact .inr ⟨x, List.mem_cons_of_mem _ hx, b3⟩
theorem lays_nn (x : Ed) (es : List Ed) (n : Nat) (w : Int) : 0 ≤ lays x es n w := by
  rcases lays_dst x es n w with ⟨d, _, _, h⟩ | ⟨h, _⟩ <;> omega
section
variable {m : Mp} (h : MapOk m)
include h
abbrev fcm (m : Mp) : Int → Int := fc m m.g.es
theorem MapOk.perF : Per (fcm m) := h.fc_per _ fun _ hx => hx
end
open Classical in
noncomputable def tl (m : Mp) (d : Int) : Int := if h : ∃ v, d ∈ ends m.g.es v then Classical.choose h else 0
def both (c : List Int) : Bool := decide (∀ d ∈ c, tw d ∈ c)
end Go.Proofs.YtlnefdmdabhobaaGreat.Aw

namespace Go.Proofs.YtlnefdmdabhobaaGreat.Aw
open Go Go.RowKit Go.Proofs.YtlnefdmdabhobaaGreat.Pl
set_option linter.unusedSimpArgs false
set_option linter.unusedVariables false

theorem cntM_add (es : List (List Int × LV)) (k x : Int) : cntM (add1 es k) x = if x = k then cntM es k + 1 else cntM es x := by
  unfold add1
  have h := mget_mset es [k] [x] (i (cntM es k + 1))
  have e : cntM (mset es [k] (i (cntM es k + 1))) x = cntOf ([x], (mget (mset es [k] (i (cntM es k + 1))) [x]).getD (i 0)) := rfl
  rw [e, h]
  by_cases hx : x = k
  · subst hx; simp [cntOf]
  · have : ¬ ([x] : List Int) = [k] := by simpa using hx
    rw [if_neg this, if_neg hx]; rfl
end Go.Proofs.YtlnefdmdabhobaaGreat.Aw

namespace Go.Proofs.YtlnefdmdabhobaaGreat.Aw.I
open Go Go.RowKit Go.Proofs.YtlnefdmdabhobaaGreat.Pl
set_option linter.unusedSimpArgs false
set_option linter.unusedVariables false

end Go.Proofs.YtlnefdmdabhobaaGreat.Aw.I

namespace Go.Proofs.YtlnefdmdabhobaaGreat.Aw
open Go Go.RowKit Go.Proofs.YtlnefdmdabhobaaGreat.Pl
set_option linter.unusedSimpArgs false
set_option linter.unusedVariables false

abbrev u16 (n : Int) : LV := .atom (.int .i16 n)
/-- What is counted so far. -/
structure Cnt (l : List Int) (E : List (List Int × LV)) (S top : Int) : Prop where
  tab : TabB (2 * l.length) E
  len : E.length ≤ 1 + 2 * l.length
  sum : sumL E = S ∧ -(80000 * (l.length : Int)) ≤ S ∧ S ≤ 80000 * (l.length : Int)
  mem : ∀ x, cntM E x ≠ 0 ↔ x ∈ l
  top0 : l = [] → top = 0
  top1 : l ≠ [] → top ∈ l ∧ ∀ x ∈ l, x ≤ top
theorem mset_len1 (es : List (List Int × LV)) (a : List Int) (v : LV) : (mset es a v).length ≤ es.length + 1 := by
  induction es with
  | nil => simp [mset]
  | cons q es ih =>
    unfold mset
    split
    · simp
    · simp only [List.length_cons]; omega
theorem add1_len (es : List (List Int × LV)) (k : Int) : (add1 es k).length ≤ es.length + 1 := mset_len1 _ _ _
theorem Cnt.snoc {l : List Int} {E : List (List Int × LV)} {S top : Int} (h : Cnt l E S top) {k : Int} (hk : -40000 ≤ k ∧ k ≤ 40000) :
    Cnt (l ++ [k]) (addAll E [k, k]) (S + 2 * k) (if l = [] ∨ top < k then k else top) := by
  obtain ⟨h1, h2, ⟨h3, h3a, h3b⟩, h4, h5, h6⟩ := h
  have e : addAll E [k, k] = add1 (add1 E k) k := rfl
  have t1 := h1.add (by omega) hk
  have t2 := t1.add (by omega) hk
  rw [e]
  refine ⟨?_, ?_, ⟨?_, ?_, ?_⟩, fun x => ?_, fun h => by simp at h, fun _ => ?_⟩
  · rw [show (2 * ((l ++ [k]).length : Int)) = 2 * (l.length : Int) + 1 + 1 by simp; omega]; exact t2
  · have a1 := add1_len E k
    have a2 := add1_len (add1 E k) k
    simp only [List.length_append, List.length_singleton]; omega
  · rw [sumL_add _ _ (fun p hp => by obtain ⟨a, b, c, _⟩ := t1.kn p hp; exact ⟨a, b, c⟩), sumL_add _ _ (fun p hp => by obtain ⟨a, b, c, _⟩ := h1.kn p hp; exact ⟨a, b, c⟩), h3]; omega
  · simp only [List.length_append, List.length_singleton]; omega
  · simp only [List.length_append, List.length_singleton]; omega
  · rw [cntM_add, cntM_add, cntM_add, List.mem_append, List.mem_singleton]
    have hc := (cntM_get h1 (by omega) k).2.1
    by_cases hx : x = k
    · subst hx; simp; omega
    · simp only [hx, if_false, or_false]; exact h4 x
  · by_cases hl : l = []
    · subst hl; simp
    · obtain ⟨g1, g2⟩ := h6 hl
      by_cases ht : top < k
      · rw [if_pos (.inr ht)]
        refine ⟨by simp, fun x hx => ?_⟩
        rcases List.mem_append.1 hx with h | h
        · have := g2 x h; omega
        · rw [List.mem_singleton] at h; omega
      · rw [if_neg (by rintro (h | h); exact hl h; exact ht h)]
        refine ⟨by simp [g1], fun x hx => ?_⟩
        rcases List.mem_append.1 hx with h | h
        · exact g2 x h
        · rw [List.mem_singleton] at h; omega
end Go.Proofs.YtlnefdmdabhobaaGreat.Aw

namespace Go.Proofs.YtlnefdmdabhobaaGreat.Aw
open Go Go.RowKit Go.Proofs.YtlnefdmdabhobaaGreat.Pl
set_option linter.unusedSimpArgs false
set_option linter.unusedVariables false

end Go.Proofs.YtlnefdmdabhobaaGreat.Aw

namespace Go.Proofs.YtlnefdmdabhobaaGreat.Aw
open Go Go.RowKit Go.Proofs.YtlnefdmdabhobaaGreat.Pl
set_option linter.unusedSimpArgs false
set_option linter.unusedVariables false

def degs (g : Gr) : List Int := g.vs.map fun v => ((ends g.es v).length : Int)
theorem ends_le (es : List Ed) (v : Int) : (ends es v).length ≤ 2 * es.length := flat_len (end1 v) (end1_len v) es

theorem Degrees (g : Gr) (st : St) (hv : g.vs.length ≤ 1000) (he : g.es.length ≤ 1000) (hid : idOk g.es) :
    ACalls Tryz.prog 73 [.ag (grL g)] st fun r st' => ∃ m, r = .mp m ∧ st.next ≤ m ∧ m < st'.next ∧ Keeps st st' ∧ st'.H m = .map false [.i64] (addAll [] (degs g)) ∧ TabB g.vs.length (addAll [] (degs g)) := by
  have hdl : (degs g).length = g.vs.length := by simp [degs]
  refine acalls_of_body tabOk Tryz.func73 rfl rfl Tryz.ntmps73 (rs := [.tmp 2]) rfl (by simp) ?_
  (repeat' (first | refine awp_seq ?_ | refine awp_block ?_ | (refine w_e [] ?_; intro J hJ; simp only []; simp []; (refine hJ _ _ ?_; clear hJ J; simp only [ak, reduceIte]))))
  refine awp_range 10 9 11 21 (g.vs.length) (fun j fr st2 => fr 1 = .pt st.next 0 ∧ fr 3 = .mp (st.next + 1) ∧ fr 8 = .sl 0 g.vs.length (us g.vs) ∧ st2.H st.next = .box 25 2 (grL g) ∧ st.next + 1 < st2.next ∧ Keeps st st2 ∧ st2.H (st.next + 1) = .map false [.i64] (addAll [] ((degs g).take j)) ∧ TabB j (addAll [] ((degs g).take j))) ?_ ?_ ?_
  · exact ⟨by simp, by simp, by simp, by simp, by simp, (Keeps.new _ _).trans (Keeps.new _ _), by simp [addAll], ⟨by simp [addAll], by simp [addAll]⟩⟩
  · rintro j fr s hlt ⟨f1, f3, f8, hG, hsn, hkp, hM, hT⟩ fi fn J hJ
    have hd := us_drop_getD g.vs j hlt
    have htk : (degs g).take (j + 1) = (degs g).take j ++ [((ends g.es (g.vs.getD j 0)).length : Int)] := by
      rw [List.take_succ_eq_append_getElem (by omega)]
      congr 2
      simp [degs, List.getD_eq_getElem?_getD, List.getElem?_eq_getElem hlt]
    generalize g.vs.getD j 0 = v at *
    have hel := ends_le g.es v
    (repeat' (first | refine awp_seq ?_ | (refine w_e [] ?_; intro J hJ; simp only []; simp [f1, f3, f8, fi, fn, hd, hlt, hG]; (try (refine hJ _ _ ?_; clear hJ J; simp only [ak, reduceIte])))))
    refine callK_ofE (Ends g v _ he hid) (by simp) ?_; rintro r s4 ⟨⟨t4, rfl⟩, hk4⟩
    have hn4 := hk4.next
    have hG4 := (hk4.H st.next (by omega)).trans hG
    have hM4 := (hk4.H (st.next + 1) (by omega)).trans hM
    have hAdd := sAdd (st.next + 1) (addAll [] ((degs g).take j)) [((ends g.es v).length : Int)] s4.next (j : Int) (s4.new (.own 3 1 1)) (by rw [new_H, if_neg (by omega)]; exact hM4) (by omega) hT (by simp) (by simp; omega)
    simp only [List.length_cons, List.length_nil, List.map_cons, List.map_nil] at hAdd
    (repeat' (refine e_go ?_; simp []))
    refine callK_ofE hAdd (by simp) ?_; rintro r s5 ⟨rfl, hT5⟩
    have hAA : addAll (addAll [] ((degs g).take j)) [((ends g.es v).length : Int)] = addAll [] ((degs g).take (j + 1)) := by rw [htk]; simp [addAll, List.foldl_append]
    rw [hAA] at hT5 ⊢
    (repeat' (refine e_go ?_; simp []; (refine hJ _ _ ?_; clear hJ J; simp only [ak, reduceIte])))
    refine hJ _ _ (by simp [fi]) (by simp [fn]) ⟨by simp [f1], by simp [f3], by simp [f8], ?_, by simp; omega, ?_, by simp, by simpa using hT5⟩
    · (repeat (first | rw [new_H, if_neg (α := LObj) (by (try simp only [set_next, new_next]); omega)] | rw [set_H, if_neg (α := LObj) (by omega)] | rw [new_H, if_pos (α := LObj) (by (try simp only [set_next, new_next]))] | rw [set_H, if_pos (α := LObj) (by omega)])); exact hG4
    · exact ((hkp.trans hk4).trans (Keeps.new _ _)).set (by omega) _
  · rintro fr s ⟨f1, f3, f8, hG, hsn, hkp, hM, hT⟩
    rw [List.take_of_length_le (by omega)] at hM hT
    (repeat' (first | refine awp_seq ?_ | (refine awp_ret ?_; simp only [ak, reduceIte]; simp [f3]) | (refine w_e [] ?_; intro J hJ; simp only []; simp [f3]; (refine hJ _ _ ?_; clear hJ J; simp only [ak, reduceIte]))))
    exact ⟨hsn, hkp, hM, hT⟩

theorem Awake10 (st : St) : ACalls Tryz.prog 74 [] st fun r st' => r = bb true ∧ st' = st := by
  refine acalls_of_body tabOk Tryz.func74 rfl rfl Tryz.ntmps74 (rs := [.tmp 0]) rfl (by simp) ?_
  (repeat' (first | refine awp_seq ?_ | (refine w_e [] ?_; intro J hJ; simp only []; simp []; (try (refine hJ _ _ ?_; clear hJ J; simp only [ak, reduceIte])))))
  refine callK_ofE (awake10 _) (by simp []) ?_; rintro r st' ⟨rfl, rfl⟩
  (repeat' (first | (refine awp_ret ?_; simp only [ak, reduceIte]; simp []) | (refine e_go ?_; simp []; (refine hJ _ _ ?_; clear hJ J; simp only [ak, reduceIte]))))
theorem Awake13 (st : St) : ACalls Tryz.prog 75 [] st fun r st' => r = bb true ∧ st' = st := by
  refine acalls_of_body tabOk Tryz.func75 rfl rfl Tryz.ntmps75 (rs := [.tmp 0]) rfl (by simp) ?_
  (repeat' (first | refine awp_seq ?_ | (refine w_e [] ?_; intro J hJ; simp only []; simp []; (try (refine hJ _ _ ?_; clear hJ J; simp only [ak, reduceIte])))))
  refine callK_ofE (awake13 _) (by simp []) ?_; rintro r st' ⟨rfl, rfl⟩
  (repeat' (first | (refine awp_ret ?_; simp only [ak, reduceIte]; simp []) | (refine e_go ?_; simp []; (refine hJ _ _ ?_; clear hJ J; simp only [ak, reduceIte]))))

def tri : Gr := ⟨[1, 2, 3], [⟨1, 1, 2⟩, ⟨2, 2, 3⟩, ⟨3, 3, 1⟩]⟩
theorem tri_girth : girthL tri 10 0 tri.es = some 3 := by decide +kernel
theorem tri_degs : addAll [] (degs tri) = [([2], i 3)] := by rfl
theorem awake37 (st : St) : ACalls Tryz.prog 17 [] st fun r st' => r = bb true ∧ st' = st := by
  refine (acalls_frame (R := fun v => v = .bool true) ?_).mono ?_
  rotate_left
  · rintro r st' ⟨⟨v, rfl, rfl⟩, rfl⟩; exact ⟨rfl, rfl⟩
  generalize hst : (⟨1, fun _ => .dead⟩ : St) = st
  have hid : idOk tri.es := by intro x hx; simp [tri] at hx; rcases hx with rfl | rfl | rfl <;> decide
  refine acalls_of_body tabOk Tryz.func17 rfl rfl Tryz.ntmps17 (rs := [.tmp 0]) rfl (by simp) ?_
  (repeat' (first | refine awp_seq ?_ | (refine w_e [] ?_; intro J hJ; simp only []; simp []; (try (refine hJ _ _ ?_; clear hJ J; simp only [ak, reduceIte])))))
  have hG := fun s => Girth tri 10 3 s (by decide) (by decide) (by decide) tri_girth
  have hD := fun s => Degrees tri s (by decide) (by decide) hid
  refine callK_of (acalls_args0 (by simp only [z0L, z0]; exact hG _)) ?_; rintro r s1 ⟨rfl, hk1⟩
  have hn1 := hk1.next
  simp only [new_next, set_next] at hn1
  have hB := hk1.H (st.next + 1 + 1) (by simp)
  simp at hB
  (refine e_go ?_; simp [hB])
  refine callK_of (acalls_args0 (by simp only [z0L, z0]; exact hD _)) ?_; rintro r s2 ⟨m, rfl, m1, m2, hk2, hM, _⟩
  rw [tri_degs] at hM
  (refine e_go ?_; simp [hM, mget])
  refine callK_ofE (Awake10 _) (by simp []) ?_; rintro r st' ⟨rfl, rfl⟩
  (refine e_go ?_; simp [])
  refine callK_ofE (Awake13 _) (by simp []) ?_; rintro r st' ⟨rfl, rfl⟩
  (repeat' (first | (refine awp_ret ?_; simp only [ak, reduceIte]; simp []) | (refine e_go ?_; simp []; (refine hJ _ _ ?_; clear hJ J; simp only [ak, reduceIte]))))

end Go.Proofs.YtlnefdmdabhobaaGreat.Aw

namespace Go.Proofs.YtlnefdmdabhobaaGreat.Aw
open Go Go.RowKit Go.Proofs.YtlnefdmdabhobaaGreat.Pl Go.Proofs.YtlnefdmdabhobaaGreat.Eu
set_option linter.unusedSimpArgs false
set_option linter.unusedVariables false

theorem perm_of_sub : ∀ {a b : List Int}, a.Nodup → (∀ x ∈ a, x ∈ b) → b.length ≤ a.length → a.Perm b
  | [], b, _, _, hl => by
    have : b = [] := List.eq_nil_of_length_eq_zero (by simpa using hl)
    rw [this]
  | x :: a, b, hn, hs, hl => by
    rw [List.nodup_cons] at hn
    have hxb : x ∈ b := hs x List.mem_cons_self
    have p1 : b.Perm (x :: b.erase x) := List.perm_cons_erase hxb
    refine List.Perm.trans (List.Perm.cons x (perm_of_sub hn.2 (fun y hy => ?_) ?_)) p1.symm
    · have hne : y ≠ x := by rintro rfl; exact hn.1 hy
      exact (List.mem_erase_of_ne hne).2 (hs y (List.mem_cons_of_mem _ hy))
    · have := p1.length_eq
      simp only [List.length_cons] at this hl
      omega
theorem okTurn.head {es : List Ed} (hi : es.Pairwise (fun x y => x.id < y.id)) {v : Int} {t : List Int} (h : okTurn es v t) : t.getD 0 0 = (ends es v).getD 0 0 := by
  cases he : ends es v with
  | nil => have := h.1; rw [he] at this; rw [this.eq_nil]
  | cons a r =>
    have hr := ends_rise hi v
    rw [he, List.pairwise_cons] at hr
    have hp := h.1
    rw [he] at hp
    have hne : t ≠ [] := by rintro rfl; have := hp.length_eq; simp at this
    obtain ⟨z, hz⟩ := nrm_head t hne
    rw [h.2] at hz
    have hm : mn t = a := by
      refine mn_eq (hp.mem_iff.2 List.mem_cons_self) fun x hx => ?_
      rcases List.mem_cons.1 (hp.mem_iff.1 hx) with rfl | h1
      · exact Int.le_refl _
      · have := hr.1 x h1; omega
    rw [hz, hm]; rfl
def rok (m : Mp) (k : Nat) : Prop := okTurn m.g.es (m.g.vs.getD k 0) (m.rots.getD k [])
/-- What Check answers. -/
noncomputable def rchk (m : Mp) : Int := if chk m.g ≠ 0 then chk m.g else if m.rots.length ≠ m.g.vs.length then 22 else @ite _ (∀ k, k < m.g.vs.length → rok m k) (Classical.propDecidable _) 0 22
theorem rchk_g {m : Mp} (h : chk m.g ≠ 0) : rchk m = chk m.g := by unfold rchk; rw [if_pos h]
theorem rchk_len {m : Mp} (h : chk m.g = 0) (h1 : m.rots.length ≠ m.g.vs.length) : rchk m = 22 := by unfold rchk; rw [if_neg (fun e => e h), if_pos h1]
theorem rchk_bad {m : Mp} (h : chk m.g = 0) {k : Nat} (hk : k < m.g.vs.length) (h1 : ¬ rok m k) : rchk m = 22 := by
  unfold rchk
  rw [if_neg (fun e => e h)]
  split
  · rfl
  · rw [if_neg (fun e => h1 (e k hk))]
theorem rchk_ok {m : Mp} (h : chk m.g = 0) (h1 : m.rots.length = m.g.vs.length) (h2 : ∀ k, k < m.g.vs.length → rok m k) : rchk m = 0 := by
  unfold rchk
  rw [if_neg (fun e => e h), if_neg (fun e => e h1), if_pos h2]
theorem rchk_zero {m : Mp} (h : rchk m = 0) : chk m.g = 0 ∧ MapOk m := by
  by_cases h0 : chk m.g = 0
  · refine ⟨h0, ?_⟩
    by_cases h1 : m.rots.length = m.g.vs.length
    · refine ⟨chk_goodE h0, h1, fun k hk => ?_⟩
      refine Classical.byContradiction fun hn => ?_
      rw [rchk_bad h0 hk hn] at h; cases h
    · rw [rchk_len h0 h1] at h; cases h
  · rw [rchk_g h0] at h; exact absurd h h0

end Go.Proofs.YtlnefdmdabhobaaGreat.Aw

namespace Go.Proofs.YtlnefdmdabhobaaGreat.Aw
open Go Go.RowKit Go.Proofs.YtlnefdmdabhobaaGreat.Pl Go.Proofs.YtlnefdmdabhobaaGreat.Eu
set_option linter.unusedSimpArgs false
set_option linter.unusedVariables false

set_option maxHeartbeats 1000000 in
theorem ref_rCheck (m : Mp) (st : St) (hv : m.g.vs.length ≤ 1000) (he : m.g.es.length ≤ 1000) (hr : m.rots.length ≤ 1000) :
    ACalls Tryz.prog 18 [.ag (mpL m)] st fun r st' => r = i (rchk m) ∧ Keeps st st' := by
  refine acalls_of_body tabOk Tryz.func18 rfl rfl Tryz.ntmps18 (rs := [.tmp 2]) rfl (by simp) ?_
  (repeat' (first | refine awp_seq ?_ | (refine w_e [] ?_; intro J hJ; simp only []; simp []; (try (refine hJ _ _ ?_; clear hJ J; simp only [ak, reduceIte])))))
  refine callK_ofE (ref_Check m.g _ hv he) (by simp) ?_; rintro r s1 ⟨rfl, hk1⟩
  have hn1 := hk1.next
  simp only [new_next] at hn1
  have hG1 : s1.H st.next = .box 28 3 (mpL m) := by rw [hk1.H _ (by simp)]; simp
  have hK1 : Keeps st s1 := (Keeps.new _ _).trans hk1
  by_cases hc : chk m.g = 0
  rotate_left
  · have hrc := rchk_g hc
    generalize chk m.g = x at *
    (repeat' (first | refine awp_seq ?_ | (refine awp_ret ?_; simp only [ak, reduceIte]; simp [hc, hrc]) | (refine awp_cond ?_; simp [hc, hrc]) | ((first | (refine w_e [] ?_; intro J hJ; simp only []) | (refine e_go ?_)); simp [hc, hrc]; (refine hJ _ _ ?_; clear hJ J; simp only [ak, reduceIte]))))
    exact hK1
  have hgd := chk_goodE hc
  have hid : idOk m.g.es := fun x hx => by have := hgd.pos x hx; omega
  by_cases hl : m.rots.length = m.g.vs.length
  rotate_left
  · have hrc := rchk_len hc hl
    (repeat' (first | refine awp_seq ?_ | (refine awp_skip ?_; simp only [ak, reduceIte]) | (refine awp_ret ?_; simp only [ak, reduceIte]; simp [hc, hrc, hG1, hl]) | (refine awp_cond ?_; simp [hc, hrc, hG1, hl]; (try with_reducible refine ⟨?_, ?_⟩) <;> (try with_reducible intro hc) <;> try (exfalso; omega)) | ((first | (refine w_e [] ?_; intro J hJ; simp only []) | (refine e_go ?_)); simp [hc, hrc, hG1, hl]; (refine hJ _ _ ?_; clear hJ J; simp only [ak, reduceIte]))))
    exact hK1
  (repeat' (first | refine awp_seq ?_ | refine awp_block ?_ | (refine awp_skip ?_; simp only [ak, reduceIte]) | (refine awp_cond ?_; simp [hc, hG1, hl]) | ((first | (refine w_e [] ?_; intro J hJ; simp only []) | (refine e_go ?_)); simp [hc, hG1, hl]; (refine hJ _ _ ?_; clear hJ J; simp only [ak, reduceIte]))))
  refine awp_range 28 27 29 65 (m.g.vs.length) (fun j fr st2 => fr 1 = .pt st.next 0 ∧ fr 26 = .sl 0 m.g.vs.length (us m.g.vs) ∧ st2.H st.next = .box 28 3 (mpL m) ∧ Keeps st st2 ∧ st.next < st2.next ∧ ∀ k, k < j → rok m k) ?_ ?_ ?_
  · exact ⟨by simp, by simp, hG1, hK1, by omega, fun k hk => by omega⟩
  · rintro j0 fr st2 hlt ⟨f1, f26, hG, hkp, hsn, hok⟩ fi fn JJ hJJ
    have hd := us_drop_getD m.g.vs j0 hlt
    have hd2 := rowsL_drop m.rots j0 (by omega)
    have hRl : j0 < (rowsL m.rots).length := by simp; omega
    have htin : m.rots.getD j0 [] ∈ m.rots := by rw [getR_lt _ _ (by omega)]; exact List.getElem_mem _
    have hbad := fun h => rchk_bad hc hlt h
    have hnx : rok m j0 → ∀ k, k < j0 + 1 → rok m k := fun h k hk => by
      rcases Nat.lt_or_ge k j0 with h1 | h1
      · exact hok k h1
      · obtain rfl : k = j0 := by omega
        exact h
    have hok1 : rok m j0 ↔ (m.rots.getD j0 []).Perm (ends m.g.es (m.g.vs.getD j0 0)) ∧ nrm (m.rots.getD j0 []) = m.rots.getD j0 [] := Iff.rfl
    have hel : (ends m.g.es (m.g.vs.getD j0 0)).length ≤ 2 * m.g.es.length := flat_len _ (end1_len _) _
    have hrise := ends_rise hgd.ids (m.g.vs.getD j0 0)
    generalize rok m j0 = OK at *
    generalize m.rots.getD j0 [] = t at *
    generalize m.g.vs.getD j0 0 = v at *
    (repeat' (first | refine awp_seq ?_ | (refine w_e [] ?_; intro J hJ; simp only []; simp [f1, f26, fi, fn, hd, hlt, hG, hd2, hRl, hl]; (try (refine hJ _ _ ?_; clear hJ J; simp only [ak, reduceIte])))))
    refine callK_ofE (ref_Ends m.g v _ he hid) (by simp) ?_; rintro r s3 ⟨⟨te, rfl⟩, hk3⟩
    have hn3 := hk3.next
    have hG3 := (hk3.H st.next (by omega)).trans hG
    have hK3 := hkp.trans hk3
    generalize ends m.g.es v = E at *
    by_cases h1 : t.length = E.length
    rotate_left
    · have hrc := hbad fun h => h1 (hok1.1 h).1.length_eq
      have h1b : ((t.length : Int) != (E.length : Int)) = true := by simp; omega
      (repeat' (first | refine awp_seq ?_ | (refine awp_ret ?_; simp only [ak, reduceIte]; simp [h1b, h1, hrc]) | (refine awp_cond ?_; simp [h1b, h1, hrc]) | ((first | (refine w_e [] ?_; intro J hJ; simp only []) | (refine e_go ?_)); simp [h1b, h1, hrc]; (refine hJ _ _ ?_; clear hJ J; simp only [ak, reduceIte]))))
      exact hK3
    (repeat' (first | refine awp_seq ?_ | ((first | (refine w_e [] ?_; intro J hJ; simp only []) | (refine e_go ?_)); simp [h1]; (try (refine hJ _ _ ?_; clear hJ J; simp only [ak, reduceIte])))))
    refine callK_ofE (ref_Normal t 0 _ (by unfold small; omega)) (by simp [h1]) ?_; rintro r s4 ⟨rfl, hk4⟩
    have hn4 := hk4.next
    have hG4 := (hk4.H st.next (by omega)).trans hG3
    have hK4 := hK3.trans hk4
    have hnl := nrm_length t
    (repeat' (refine e_go ?_; simp []))
    refine callK_ofE (ref_Same t (nrm t) 0 0 _ (by unfold small; omega)) (by simp [h1, hnl]) ?_; rintro r s5 ⟨rfl, rfl⟩
    by_cases h2 : t = nrm t
    rotate_left
    · have hrc := hbad fun h => h2 (hok1.1 h).2.symm
      (repeat' (first | refine awp_seq ?_ | (refine awp_ret ?_; simp only [ak, reduceIte]; simp [h2, hrc]) | (refine awp_cond ?_; simp [h2, hrc]) | ((first | (refine w_e [] ?_; intro J hJ; simp only []) | (refine e_go ?_)); simp [h2, hrc]; (refine hJ _ _ ?_; clear hJ J; simp only [ak, reduceIte]))))
      exact hK4
    have h2' : decide (t = nrm t) = true := by simpa using h2
    rw [h2']
    (repeat' (first | refine awp_seq ?_ | refine awp_block ?_ | (refine awp_skip ?_; simp only [ak, reduceIte]) | (refine awp_cond ?_; simp []) | ((first | (refine w_e [] ?_; intro J hJ; simp only []) | (refine e_go ?_)); simp []; (refine hJ _ _ ?_; clear hJ J; simp only [ak, reduceIte]))))
    refine awp_range 56 55 57 64 (E.length) (fun j fr st2 => fr 1 = .pt st.next 0 ∧ fr 26 = .sl 0 m.g.vs.length (us m.g.vs) ∧ fr 28 = i j0 ∧ fr 27 = i m.g.vs.length ∧ fr 6 = .sl 0 t.length (us t) ∧ fr 54 = .sl te E.length (us E) ∧ st2 = s5 ∧ ∀ k, k < j → E.getD k 0 ∈ t) ?_ ?_ ?_
    · exact ⟨by simp [f1], by simp [f26], by simp [fi], by simp [fn], by simp [h1], by simp, rfl, fun k hk => by omega⟩
    · clear f1 f26 fi fn fr
      rintro k fr st6 hk ⟨f1, f26, f28, f27, f6, f54, rfl, hall⟩ fi fn J2 hJ2
      have hd3 := us_drop_getD E k hk
      have hin : E.getD k 0 ∈ E := by rw [getD_lt _ _ hk]; exact List.getElem_mem _
      generalize hx : E.getD k 0 = x at *
      (repeat' (first | refine awp_seq ?_ | (refine w_e [] ?_; intro J hJ; simp only []; simp [f54, f6, fi, fn, hd3, hk]; (try (refine hJ _ _ ?_; clear hJ J; simp only [ak, reduceIte])))))
      refine callK_ofE (Find t 0 x _ (by unfold small; omega)) (by simp [h1]) ?_; rintro r s7 ⟨rfl, rfl⟩
      by_cases hxt : x ∈ t
      · have hg := gi_mem hxt
        (repeat' (first | (refine awp_skip ?_; simp only [ak, reduceIte]) | (refine awp_cond ?_; simp [hg]; (try with_reducible refine ⟨?_, ?_⟩) <;> (try with_reducible intro hc) <;> try (exfalso; omega)) | (refine e_go ?_; simp [hg]; (refine hJ _ _ ?_; clear hJ J; simp only [ak, reduceIte]))))
        refine hJ2 _ _ (by simp [fi]) (by simp [fn]) ⟨by simp [f1], by simp [f26], by simp [f28], by simp [f27], by simp [f6], by simp [f54], rfl, fun q hq => ?_⟩
        rcases Nat.lt_or_ge q k with h3 | h3
        · exact hall q h3
        · obtain rfl : q = k := by omega
          rw [hx]; exact hxt
      · have hg := gi_not hxt
        have hrc := hbad fun h => hxt ((hok1.1 h).1.mem_iff.2 hin)
        (repeat' (first | refine awp_seq ?_ | (refine awp_ret ?_; simp only [ak, reduceIte]; simp [hg, hrc]) | (refine awp_cond ?_; simp [hg, hrc]) | ((first | (refine w_e [] ?_; intro J hJ; simp only []) | (refine e_go ?_)); simp [hg, hrc]; (refine hJ _ _ ?_; clear hJ J; simp only [ak, reduceIte]))))
        exact hK4
    · clear f1 f26 fi fn fr
      rintro fr st6 ⟨f1, f26, f28, f27, f6, f54, rfl, hall⟩
      skip
      refine hJJ _ _ (by simp [f28]) (by simp [f27]) ⟨by simp [f1], by simp [f26], hG4, hK4, by omega, hnx (hok1.2 ⟨?_, h2.symm⟩)⟩
      refine (perm_of_sub (rise_nodup hrise) (fun x hx => ?_) (by omega)).symm
      obtain ⟨q, hq, rfl⟩ := List.getElem_of_mem hx
      have := hall q hq
      rwa [getD_lt _ _ hq] at this
  · rintro fr st2 ⟨f1, f26, hG, hkp, hsn, hok⟩
    have hrc := rchk_ok hc hl hok
    (repeat' (first | refine awp_seq ?_ | (refine awp_ret ?_; simp only [ak, reduceIte]; simp [hrc]) | (refine w_e [] ?_; intro J hJ; simp only []; simp [hrc]; (refine hJ _ _ ?_; clear hJ J; simp only [ak, reduceIte]))))
    exact hkp

/-- What Right answers. -/
noncomputable def rright (m : Mp) : Int := if rchk m ≠ 0 then rchk m else if gn m ≠ 0 then 23 else 0

end Go.Proofs.YtlnefdmdabhobaaGreat.Aw

namespace Go.Proofs.YtlnefdmdabhobaaGreat.Aw
open Go Go.RowKit Go.Proofs.YtlnefdmdabhobaaGreat.Pl
set_option linter.unusedSimpArgs false
set_option linter.unusedVariables false
open Eu

theorem rows3_drop (R : List (List Int)) (k : Nat) (hk : k < R.length) : (rowsL3 R).drop k = .sl 0 (R.getD k []).length (us (R.getD k [])) :: rowsL3 (R.drop (k + 1)) := by
  rw [List.getD_eq_getElem?_getD, List.getElem?_eq_getElem hk, rowsL3, rowsL3, ← List.map_drop, List.drop_eq_getElem_cons hk]; rfl
def sizs (R : List (List Int)) : List Int := R.map fun c => (c.length : Int)
theorem cnt_all : ∀ (l : List Int) (es : List (List Int × LV)) (x : Int), cntM (addAll es l) x = cntM es x + (l.countP fun k => decide (k = x) : Nat)
  | [], es, x => by simp [addAll]
  | k :: l, es, x => by
    have ih := cnt_all l (add1 es k) x
    have e : addAll es (k :: l) = addAll (add1 es k) l := rfl
    rw [e, ih, cntM_add, List.countP_cons]
    by_cases h : x = k
    · subst h; simp; omega
    · have h2 : ¬ k = x := fun e => h e.symm
      rw [if_neg h]; simp [h2]
def SizP (m : Mp) (st : St) (r : LV) (st' : St) : Prop := ∃ M R, r = .mp M ∧ st.next ≤ M ∧ M < st'.next ∧ Keeps st st' ∧ st'.H M = .map false [.i64] (addAll [] (sizs R)) ∧ TabB R.length (addAll [] (sizs R)) ∧ Lead (fc m m.g.es) (darts m.g.es) (darts m.g.es).length R
set_option maxHeartbeats 1000000 in
theorem Sizes (m : Mp) (h : MapOk m) (st : St) (hv : m.g.vs.length ≤ 1000) (he : m.g.es.length ≤ 400) :
    ACalls Tryz.prog 25 [.ag (mpL m)] st (SizP m st) := by
  have hdl := darts_length m.g.es
  refine acalls_of_body tabOk Tryz.func25 rfl rfl Tryz.ntmps25 (rs := [.tmp 2]) rfl (by simp) ?_
  (repeat' (first | refine awp_seq ?_ | (refine w_e [] ?_; intro J hJ; simp only []; simp []; (try (refine hJ _ _ ?_; clear hJ J; simp only [ak, reduceIte])))))
  refine callK_ofE (Faces m h _ hv (by omega)) (by simp) ?_; rintro r s1 ⟨⟨t, R, rfl, hR⟩, hk1⟩
  have hn1 := hk1.next
  simp only [new_next] at hn1
  have hM1 : s1.H (st.next + 1) = .map false [.i64] [] := by rw [hk1.H _ (by simp)]; simp
  have k1 : Keeps st s1 := ((Keeps.new _ _).trans (Keeps.new _ _)).trans hk1
  have hRl := hR.len
  have hrow : ∀ c ∈ R, c.length ≤ 800 := fun c hc => by
    have hcnt := Lead.count h.perF (fun x hx => h.fc_dart _ x hx) (rise_nodup (darts_rise h.g.ids)) hR
    have h1 : c.length ≤ R.flatten.length := (List.sublist_flatten_of_mem hc).length_le
    rw [hcnt.length_eq] at h1; omega
  have hsl : (sizs R).length = R.length := by simp [sizs]
  have hrl : (rowsL3 R).length = R.length := by simp [rowsL3]
  (repeat' (first | refine awp_block ?_ | (refine e_go ?_; simp []; (refine hJ _ _ ?_; clear hJ J; simp only [ak, reduceIte]))))
  refine awp_range 10 9 11 19 (R.length) (fun j fr st2 => fr 3 = .mp (st.next + 1) ∧ fr 8 = .sl t R.length (rowsL3 R) ∧ st.next + 1 < st2.next ∧ Keeps st st2 ∧ st2.H (st.next + 1) = .map false [.i64] (addAll [] ((sizs R).take j)) ∧ TabB j (addAll [] ((sizs R).take j))) ?_ ?_ ?_
  · exact ⟨by simp, by simp, by omega, k1, by simpa [addAll] using hM1, ⟨by simp [addAll], by simp [addAll]⟩⟩
  · rintro j fr s hlt ⟨f3, f8, hsn, hkp, hM, hT⟩ fi fn J hJ
    have hd := rows3_drop R j hlt
    have hcin : R.getD j [] ∈ R := by rw [List.getD_eq_getElem?_getD, List.getElem?_eq_getElem hlt]; exact List.getElem_mem _
    have htk : (sizs R).take (j + 1) = (sizs R).take j ++ [((R.getD j []).length : Int)] := by
      rw [List.take_succ_eq_append_getElem (by omega)]
      congr 2
      simp [sizs, List.getD_eq_getElem?_getD, List.getElem?_eq_getElem hlt]
    have hcl := hrow _ hcin
    generalize R.getD j [] = c at *
    have hAdd := sAdd (st.next + 1) (addAll [] ((sizs R).take j)) [(c.length : Int)] s.next (j : Int) (s.new (.own 3 1 1)) (by rw [new_H, if_neg (by omega)]; exact hM) (by omega) hT (by simp) (by simp; omega)
    simp only [List.length_cons, List.length_nil, List.map_cons, List.map_nil] at hAdd
    (repeat' (first | refine awp_seq ?_ | (refine w_e [] ?_; intro J hJ; simp only []; simp [f3, f8, fi, fn, hd, hlt, hrl]; (try (refine hJ _ _ ?_; clear hJ J; simp only [ak, reduceIte])))))
    refine callK_ofE hAdd (by simp) ?_; rintro r s5 ⟨rfl, hT5⟩
    have hAA : addAll (addAll [] ((sizs R).take j)) [(c.length : Int)] = addAll [] ((sizs R).take (j + 1)) := by rw [htk]; simp [addAll, List.foldl_append]
    rw [hAA] at hT5 ⊢
    (repeat' (refine e_go ?_; simp []; (refine hJ _ _ ?_; clear hJ J; simp only [ak, reduceIte])))
    refine hJ _ _ (by simp [fi]) (by simp [fn]) ⟨by simp [f3], by simp [f8], by simp; omega, ?_, by simp, by simpa using hT5⟩
    exact (hkp.trans (Keeps.new _ _)).set (by omega) _
  · rintro fr s ⟨f3, f8, hsn, hkp, hM, hT⟩
    rw [List.take_of_length_le (by omega)] at hM hT
    (repeat' (first | refine awp_seq ?_ | (refine awp_ret ?_; simp only [ak, reduceIte]; simp [f3]) | (refine w_e [] ?_; intro J hJ; simp only []; simp [f3]; (refine hJ _ _ ?_; clear hJ J; simp only [ak, reduceIte]))))
    exact ⟨_, R, rfl, by omega, hsn, hkp, hM, hT, hR⟩

end Go.Proofs.YtlnefdmdabhobaaGreat.Aw

namespace Go.Proofs.YtlnefdmdabhobaaGreat.Aw
open Go Go.RowKit Go.Proofs.YtlnefdmdabhobaaGreat.Pl
set_option linter.unusedSimpArgs false
set_option linter.unusedVariables false

def idsL (l : List Ed) : List Int := l.map (·.id)
@[simp] theorem idsL_len (l : List Ed) : (idsL l).length = l.length := by simp [idsL]
def OwnI (t : Nat) (lo : St) (n : Nat) (st : St) : Prop := t ≠ 0 ∧ lo.next ≤ t ∧ t < st.next ∧ st.H t = .own 48 1 n
structure SpI (g : Gr) (st : St) (M : Nat) (E I Rs : List Ed) (t2 t3 : Nat) (mes : List (List Int × LV)) (s : St) : Prop where
  hM : s.H M = .map false [.u32] mes
  fo : IsFo E I Rs
  uf : ∃ U R d, UF g.vs I U R d ∧ ∀ v ∈ g.vs, mget mes [v] = some (u (U v))
  o2 : OwnI t2 st I.length s
  o3 : OwnI t3 st Rs.length s
  ne : t2 ≠ t3
  b : st.next ≤ M ∧ M < s.next
  kp : Keeps st s

end Go.Proofs.YtlnefdmdabhobaaGreat.Aw

namespace Go.Proofs.YtlnefdmdabhobaaGreat.Aw
open Go Go.RowKit Go.Proofs.YtlnefdmdabhobaaGreat.Pl
set_option linter.unusedSimpArgs false
set_option linter.unusedVariables false

theorem sum3G (l : List Ed) : (List.map (fun _ : Ed => 3) l).sum = l.length * 3 := by
  induction l with
  | nil => rfl
  | cons x l ih => simp only [List.map_cons, List.sum_cons, List.length_cons, ih]; omega
/-- A map that tells how far each is. -/
def FarAt (es : List (List Int × LV)) (f : Int → Int) : Prop := ∀ v, (mget es [v]).getD (i 0) = i (f v)
theorem FarAt.set {es : List (List Int × LV)} {f : Int → Int} (h : FarAt es f) (w k : Int) : FarAt (mset es [w] (i k)) (far1 f w k) := fun v => by
  rw [mget_mset]
  unfold far1
  by_cases hv : v = w
  · rw [hv]; simp
  · have : ¬ [v] = [w] := by simpa using hv
    rw [if_neg this, if_neg hv]; exact h v
theorem lays_snoc (x : Ed) (es : List Ed) (n : Int) (f : Int → Int) (j : Nat) (hj : j < es.length) : lay x (es.take (j + 1)) n f = layE x n (lay x (es.take j) n f) (es.getD j ed0) := by
  rw [List.take_succ_eq_append_getElem hj, lay_snoc, List.getD_eq_getElem?_getD, List.getElem?_eq_getElem hj]; rfl
/-- What stays all along. -/
def GrI (g : Gr) (st : St) (x : Ed) (b : Int) (xb M k : Nat) (fr : Frm) (s : St) : Prop :=
  fr 1 = .pt st.next 0 ∧ fr 3 = i b ∧ fr 5 = .pt xb 0 ∧ fr 6 = .mp M ∧ fr 7 = i (k + 1 : Nat) ∧ fr 11 = .sl 0 g.es.length (eds g.es) ∧ s.H st.next = .box 25 2 (grL g) ∧ s.H xb = .box 50 3 (edL x) ∧ st.next < xb ∧ xb < M ∧ M < s.next ∧ Keeps st s

set_option maxHeartbeats 4000000 in
theorem ref_Girth (g : Gr) (st : St) (hv : g.vs.length ≤ 1000) (he : g.es.length ≤ 1000) :
    ACalls Tryz.prog 23 [.ag (grL g)] st fun r st' => r = i (refGirth g) ∧ Keeps st st' := by
  have hel := eds_length g.es
  have hsm := sum3G g.es
  refine acalls_of_body tabOk Tryz.func23 rfl rfl Tryz.ntmps23 (rs := [.tmp 2]) rfl (by simp) ?_
  (repeat' (first | refine awp_seq ?_ | refine awp_block ?_ | (refine w_e [] ?_; intro J hJ; simp only []; simp []; (refine hJ _ _ ?_; clear hJ J; simp only [ak, reduceIte]))))
  refine awp_range 13 12 14 98 (g.es.length) (fun j fr st2 => fr 1 = .pt st.next 0 ∧ fr 3 = i ((g.es.take j).foldl (fun b x => best1 b (lays x g.es g.vs.length x.b)) 0) ∧ fr 11 = .sl 0 g.es.length (eds g.es) ∧ st2.H st.next = .box 25 2 (grL g) ∧ st.next < st2.next ∧ Keeps st st2) ?_ ?_ ?_
  · exact ⟨by simp, by simp, by simp, by simp, by simp, Keeps.new _ _⟩
  · rintro j0 fr s hlt ⟨f1, f3, f11, hG, hsn, hkp⟩ hfi hfn JO hJO
    have hd := eds_drop g.es j0 hlt
    have hk3 : j0 * 3 < g.es.length * 3 := by omega
    have htk : (g.es.take (j0 + 1)).foldl (fun b x => best1 b (lays x g.es g.vs.length x.b)) 0 = best1 ((g.es.take j0).foldl (fun b x => best1 b (lays x g.es g.vs.length x.b)) 0) (lays (g.es.getD j0 ed0) g.es g.vs.length (g.es.getD j0 ed0).b) := by
      rw [List.take_succ_eq_append_getElem hlt, List.foldl_append, List.getD_eq_getElem?_getD, List.getElem?_eq_getElem hlt]; rfl
    have hb0 : 0 ≤ (g.es.take j0).foldl (fun b x => best1 b (lays x g.es g.vs.length x.b)) 0 := by
      rcases (best_fold (fun x : Ed => lays x g.es g.vs.length x.b) (fun x => lays_nn _ _ _ _) (g.es.take j0) 0 (by omega)).2.2 with h | ⟨x, _, h⟩
      · rw [h]; exact Int.le_refl _
      · rw [h]; exact lays_nn _ _ _ _
    generalize g.es.getD j0 ed0 = x at *
    generalize (g.es.take j0).foldl (fun b x => best1 b (lays x g.es g.vs.length x.b)) 0 = b at *
    have hx0 : lays x g.es 0 = far1 (fun _ => 0) x.a 1 := rfl
    obtain ⟨xi, xa, xe⟩ := x
    simp only at hx0 hd
    have e1 : ¬ st.next = s.next := by omega
    have e2 : ¬ st.next = s.next + 1 := by omega
    have e3 : ¬ s.next = s.next + 1 := by omega
    (repeat' (first | refine awp_seq ?_ | refine awp_block ?_ | (refine w_e [] ?_; intro J hJ; simp only []; simp [f11, hfi, hfn, hd, hel, hk3, hlt, e1, e2, e3]; (refine hJ _ _ ?_; clear hJ J; simp only [ak, reduceIte]))))
    refine awp_loop (fun z fr s2 => ∃ (k : Nat) (mes : List (List Int × LV)), k ≤ g.vs.length ∧ z = g.vs.length - k ∧ fr 13 = i j0 ∧ fr 12 = i g.es.length ∧ GrI g st ⟨xi, xa, xe⟩ b s.next (s.next + 1) k fr s2 ∧ s2.H (s.next + 1) = .map false [.u32] mes ∧ FarAt mes (lays ⟨xi, xa, xe⟩ g.es k)) g.vs.length ?_ ?_
    · refine ⟨0, [([xa], i 1)], by omega, by omega, by simp [hfi], by simp [hfn], ⟨by simp [f1], by simp [f3], by simp, by simp, by simp, by simp [f11], ?_, ?_, by omega, by omega, by simp, ?_⟩, ?_, ?_⟩
      · (repeat (first | rw [new_H, if_neg (α := LObj) (by (try simp only [set_next, new_next]); omega)] | rw [set_H, if_neg (α := LObj) (by omega)] | rw [new_H, if_pos (α := LObj) (by (try simp only [set_next, new_next]))] | rw [set_H, if_pos (α := LObj) (by omega)])); exact hG
      · (repeat (first | rw [new_H, if_neg (α := LObj) (by (try simp only [set_next, new_next]); omega)] | rw [set_H, if_neg (α := LObj) (by omega)] | rw [new_H, if_pos (α := LObj) (by (try simp only [set_next, new_next]))] | rw [set_H, if_pos (α := LObj) (by omega)])); try rfl
      · exact ((hkp.trans (Keeps.new _ _)).trans (Keeps.new _ _)).set (by omega) _
      · (repeat (first | rw [new_H, if_neg (α := LObj) (by (try simp only [set_next, new_next]); omega)] | rw [set_H, if_neg (α := LObj) (by omega)] | rw [new_H, if_pos (α := LObj) (by (try simp only [set_next, new_next]))] | rw [set_H, if_pos (α := LObj) (by omega)])); try rfl
      · have h0 : FarAt [] (fun _ => 0) := fun v => by simp [mget]
        exact h0.set xa 1
    clear hG hsn hkp f1 f3 f11 hfi hfn e1 e2 e3 fr
    generalize s.next = xb at *
    rintro z fr s2 ⟨k, mes, hk, rfl, gi', gn', ⟨f1, f3, f5, f6, f7, f11, hG, hX, hsx, hxM, hMn, hkp⟩, hM, hfar⟩ J hJ
    have hw := nat_add_one (k + 1) (by omega)
    by_cases hlk : k < g.vs.length
    rotate_left
    · clear hJ
      obtain rfl : k = g.vs.length := by omega
      have hle : ¬ ((g.vs.length : Int) + 1 ≤ g.vs.length) := by omega
      have hB := hfar xe
      have hnn := lays_nn ⟨xi, xa, xe⟩ g.es g.vs.length xe
      simp only at htk
      generalize lays ⟨xi, xa, xe⟩ g.es g.vs.length xe = n at *
      have hfin : ∀ fr', fr' 13 = i j0 → fr' 12 = i g.es.length → fr' 1 = fr 1 → fr' 11 = fr 11 → fr' 3 = i (best1 b n) → JO fr' s2 := fun fr' g1 g2 g3 g4 g5 =>
        hJO _ _ g1 g2 ⟨by simp [g3, f1], by rw [htk]; simp [g5], by simp [g4, f11], hG, by omega, hkp⟩
      by_cases c1 : 0 < n
      · by_cases c2 : b = 0
        · have c2' : (b == 0) = true := by simpa using c2
          have hb : best1 b n = n := by unfold best1; rw [if_pos ⟨c1, .inl c2⟩]
          rw [hb] at hfin
          (repeat' (first | refine awp_seq ?_ | (refine awp_exit ?_; simp only [ak, reduceIte]) | (refine awp_cond ?_; simp [f1, f3, f5, f6, f7, hG, hle, hX, hM, hB, c1, c2']) | (refine w_e [] ?_; intro J hJ; simp only []; simp [f1, f3, f5, f6, f7, hG, hle, hX, hM, hB, c1, c2']; (refine hJ _ _ ?_; clear hJ J; simp only [ak, reduceIte]))))
          exact hfin _ (by simp [gi']) (by simp [gn']) (by simp) (by simp) (by simp)
        · have c2' : (b == 0) = false := by simpa using c2
          by_cases c3 : n < b
          · have hb : best1 b n = n := by unfold best1; rw [if_pos ⟨c1, .inr c3⟩]
            rw [hb] at hfin
            (repeat' (first | refine awp_seq ?_ | (refine awp_exit ?_; simp only [ak, reduceIte]) | (refine awp_cond ?_; simp [f1, f3, f5, f6, f7, hG, hle, hX, hM, hB, c1, c2', c3]) | (refine w_e [] ?_; intro J hJ; simp only []; simp [f1, f3, f5, f6, f7, hG, hle, hX, hM, hB, c1, c2', c3]; (refine hJ _ _ ?_; clear hJ J; simp only [ak, reduceIte]))))
            exact hfin _ (by simp [gi']) (by simp [gn']) (by simp) (by simp) (by simp)
          · have hb : best1 b n = b := by unfold best1; rw [if_neg (by omega)]
            rw [hb] at hfin
            (repeat' (first | refine awp_seq ?_ | (refine awp_skip ?_; simp only [ak, reduceIte]) | (refine awp_exit ?_; simp only [ak, reduceIte]) | (refine awp_cond ?_; simp [f1, f3, f5, f6, f7, hG, hle, hX, hM, hB, c1, c2', c3]) | (refine w_e [] ?_; intro J hJ; simp only []; simp [f1, f3, f5, f6, f7, hG, hle, hX, hM, hB, c1, c2', c3]; (refine hJ _ _ ?_; clear hJ J; simp only [ak, reduceIte]))))
            exact hfin _ (by simp [gi']) (by simp [gn']) (by simp) (by simp) (by simp [f3])
      · have hb : best1 b n = b := by unfold best1; rw [if_neg (by omega)]
        rw [hb] at hfin
        (repeat' (first | refine awp_seq ?_ | (refine awp_skip ?_; simp only [ak, reduceIte]) | (refine awp_exit ?_; simp only [ak, reduceIte]) | (refine awp_cond ?_; simp [f1, f3, f5, f6, f7, hG, hle, hX, hM, hB, c1]) | (refine w_e [] ?_; intro J hJ; simp only []; simp [f1, f3, f5, f6, f7, hG, hle, hX, hM, hB, c1]; (refine hJ _ _ ?_; clear hJ J; simp only [ak, reduceIte]))))
        exact hfin _ (by simp [gi']) (by simp [gn']) (by simp) (by simp) (by simp [f3])
    have hle : (k : Int) + 1 ≤ g.vs.length := by omega
    have hls : lays ⟨xi, xa, xe⟩ g.es (k + 1) = lay ⟨xi, xa, xe⟩ g.es ((k : Int) + 1) (lays ⟨xi, xa, xe⟩ g.es k) := rfl
    generalize lays ⟨xi, xa, xe⟩ g.es k = f at *
    (repeat' (first | refine awp_seq ?_ | refine awp_block ?_ | (refine awp_skip ?_; simp only [ak, reduceIte]) | (refine awp_cond ?_; simp [f1, f7, hG, hle]) | (refine w_e [] ?_; intro J hJ; simp only []; simp [f1, f7, hG, hle]; (refine hJ _ _ ?_; clear hJ J; simp only [ak, reduceIte]))))
    refine awp_range 31 30 32 76 (g.es.length) (fun j fr st2 => fr 13 = i j0 ∧ fr 12 = i g.es.length ∧ fr 29 = .sl 0 g.es.length (eds g.es) ∧ GrI g st ⟨xi, xa, xe⟩ b xb (xb + 1) k fr st2 ∧ ∃ mes, st2.H (xb + 1) = .map false [.u32] mes ∧ FarAt mes (lay ⟨xi, xa, xe⟩ (g.es.take j) ((k : Int) + 1) f)) ?_ ?_ ?_
    · exact ⟨by simp [gi'], by simp [gn'], by simp, ⟨by simp [f1], by simp [f3], by simp [f5], by simp [f6], by simp [f7], by simp [f11], hG, hX, hsx, hxM, hMn, hkp⟩, mes, hM, by simpa [lay] using hfar⟩
    · clear f1 f3 f5 f6 f7 f11 hG hX hxM hMn hkp hM hfar gi' gn' hJ hJO fr s2 mes
      rintro j fr s3 hlj ⟨gi', gn', f29, ⟨f1, f3, f5, f6, f7, f11, hG, hX, _, hxM, hMn, hkp⟩, mes, hM, hfar⟩ fi fn J2 hJ2
      have hdj := eds_drop g.es j hlj
      have hkj : j * 3 < g.es.length * 3 := by omega
      have hsn := lays_snoc ⟨xi, xa, xe⟩ g.es ((k : Int) + 1) f j hlj
      generalize g.es.getD j ed0 = y at *
      generalize lay ⟨xi, xa, xe⟩ (g.es.take j) ((k : Int) + 1) f = F at *
      obtain ⟨yi, ya, yb⟩ := y
      have e1 : ¬ st.next = s3.next := by omega
      have e2 : ¬ xb = s3.next := by omega
      have e3 : ¬ xb + 1 = s3.next := by omega
      have e4 : ¬ st.next = xb + 1 := by omega
      have e5 : ¬ xb = xb + 1 := by omega
      have e6 : ¬ s3.next = xb + 1 := by omega
      have hA := hfar ya
      have hB := hfar yb
      have w1 : IntKind.i64.wrap ((k : Int) + 1 + 1) = (k : Int) + 1 + 1 := wrap_i64 _ (by omega) (by omega)
      have hfin : ∀ fr' es' L, fr' 31 = i j → fr' 30 = i g.es.length → fr' 1 = fr 1 → fr' 3 = fr 3 → fr' 5 = fr 5 → fr' 6 = fr 6 → fr' 7 = fr 7 → fr' 11 = fr 11 → fr' 12 = fr 12 → fr' 13 = fr 13 → fr' 29 = fr 29 → FarAt es' (layE ⟨xi, xa, xe⟩ ((k : Int) + 1) F ⟨yi, ya, yb⟩) → J2 fr' ((s3.new L).set (xb + 1) (.map false [.u32] es')) := by
        intro fr' es' L g1 g2 g3 g4 g5 g6 g7 g8 g9 g10 g11 g12
        refine hJ2 _ _ g1 g2 ⟨by simp [g10, gi'], by simp [g9, gn'], by simp [g11, f29], ⟨by simp [g3, f1], by simp [g4, f3], by simp [g5, f5], by simp [g6, f6], by simp [g7, f7], by simp [g8, f11], ?_, ?_, hsx, hxM, by simp; omega, ?_⟩, es', by simp, by rw [hsn]; exact g12⟩
        · (repeat (first | rw [new_H, if_neg (α := LObj) (by (try simp only [set_next, new_next]); omega)] | rw [set_H, if_neg (α := LObj) (by omega)] | rw [new_H, if_pos (α := LObj) (by (try simp only [set_next, new_next]))] | rw [set_H, if_pos (α := LObj) (by omega)])); exact hG
        · (repeat (first | rw [new_H, if_neg (α := LObj) (by (try simp only [set_next, new_next]); omega)] | rw [set_H, if_neg (α := LObj) (by omega)] | rw [new_H, if_pos (α := LObj) (by (try simp only [set_next, new_next]))] | rw [set_H, if_pos (α := LObj) (by omega)])); exact hX
        · exact (hkp.trans (Keeps.new _ _)).set (by omega) _
      have hself : ∀ L, (s3.new L) = (s3.new L).set (xb + 1) (.map false [.u32] mes) := fun L => St.ext' rfl fun q => by
        by_cases hq : q = xb + 1
        · subst hq; rw [set_H, if_pos rfl, new_H, if_neg e3]; exact hM
        · rw [set_H, if_neg hq]
      have hfin0 : ∀ fr' L, fr' 31 = i j → fr' 30 = i g.es.length → fr' 1 = fr 1 → fr' 3 = fr 3 → fr' 5 = fr 5 → fr' 6 = fr 6 → fr' 7 = fr 7 → fr' 11 = fr 11 → fr' 12 = fr 12 → fr' 13 = fr 13 → fr' 29 = fr 29 → layE ⟨xi, xa, xe⟩ ((k : Int) + 1) F ⟨yi, ya, yb⟩ = F → J2 fr' (s3.new L) := by
        intro fr' L g1 g2 g3 g4 g5 g6 g7 g8 g9 g10 g11 g12
        rw [hself]
        exact hfin _ _ _ g1 g2 g3 g4 g5 g6 g7 g8 g9 g10 g11 (by rw [g12]; exact hfar)
      clear hJ2 hself
      by_cases hid : yi = xi
      · have hid' : (yi == xi) = true := by simpa using hid
        (repeat' (first | refine awp_seq ?_ | (refine awp_exit ?_; simp only [ak, reduceIte]) | (refine awp_cond ?_; simp [f5, f29, fi, fn, hdj, hel, hkj, hlj, e1, e2, e3, e4, e5, e6, hX, hid']) | (refine w_e [] ?_; intro J hJ; simp only []; simp [f5, f29, fi, fn, hdj, hel, hkj, hlj, e1, e2, e3, e4, e5, e6, hX, hid']; (refine hJ _ _ ?_; clear hJ J; simp only [ak, reduceIte]))))
        exact hfin0 _ _ (by simp [fi]) (by simp [fn]) (by simp) (by simp) (by simp) (by simp) (by simp) (by simp) (by simp) (by simp) (by simp) (by simp [layE, hid])
      have hid' : (yi == xi) = false := by simpa using hid
      have hLE : layE ⟨xi, xa, xe⟩ ((k : Int) + 1) F ⟨yi, ya, yb⟩ = stp ((k : Int) + 1) (stp ((k : Int) + 1) F ya yb) yb ya := by unfold layE; rw [if_neg hid]
      rw [hLE] at hfin hfin0
      by_cases c1 : F ya = (k : Int) + 1
      · have c1' : (F ya == (k : Int) + 1) = true := by simpa using c1
        have c4 : ¬ F ya = 0 := by omega
        have c4' : (F ya == 0) = false := by simpa using c4
        by_cases c2 : F yb = 0
        · have c2' : (F yb == 0) = true := by simpa using c2
          have hS : stp ((k : Int) + 1) (stp ((k : Int) + 1) F ya yb) yb ya = far1 F yb ((k : Int) + 1 + 1) := by
            have h1 : stp ((k : Int) + 1) F ya yb = far1 F yb ((k : Int) + 1 + 1) := by unfold stp; rw [if_pos ⟨c1, c2⟩]
            rw [h1]; unfold stp; rw [if_neg]
            rintro ⟨h2, _⟩
            unfold far1 at h2; rw [if_pos rfl] at h2; omega
          rw [hS] at hfin
          have hF2 := hfar.set yb ((k : Int) + 1 + 1)
          have hB2 := hF2 yb
          have hq : (far1 F yb ((k : Int) + 1 + 1) yb == (k : Int) + 1) = false := by unfold far1; rw [if_pos rfl]; simp; omega
          (repeat' (first | refine awp_seq ?_ | (refine awp_skip ?_; simp only [ak, reduceIte]) | (refine awp_cond ?_; simp [f5, f6, f7, f29, fi, fn, hdj, hel, hkj, hlj, e1, e2, e3, e4, e5, e6, hX, hM, hid', hA, hB, c1', c2', w1, hB2, hq]) | (refine w_e [] ?_; intro J hJ; simp only []; simp [f5, f6, f7, f29, fi, fn, hdj, hel, hkj, hlj, e1, e2, e3, e4, e5, e6, hX, hM, hid', hA, hB, c1', c2', w1, hB2, hq]; (refine hJ _ _ ?_; clear hJ J; simp only [ak, reduceIte]))))
          exact hfin _ _ _ (by simp [fi]) (by simp [fn]) (by simp) (by simp) (by simp) (by simp) (by simp) (by simp) (by simp) (by simp) (by simp) hF2
        · have c2' : (F yb == 0) = false := by simpa using c2
          have hS : stp ((k : Int) + 1) (stp ((k : Int) + 1) F ya yb) yb ya = F := by
            have h1 : stp ((k : Int) + 1) F ya yb = F := by unfold stp; rw [if_neg (fun h => c2 h.2)]
            rw [h1]; unfold stp; rw [if_neg (fun h => c4 h.2)]
          rw [hS] at hfin0
          by_cases c3 : F yb = (k : Int) + 1
          · have c3' : (F yb == (k : Int) + 1) = true := by simpa using c3
            (repeat' (first | refine awp_seq ?_ | (refine awp_skip ?_; simp only [ak, reduceIte]) | (refine awp_cond ?_; simp [f5, f6, f7, f29, fi, fn, hdj, hel, hkj, hlj, e1, e2, e3, e4, e5, e6, hX, hM, hid', hA, hB, c1', c2', c3', c4']) | (refine w_e [] ?_; intro J hJ; simp only []; simp [f5, f6, f7, f29, fi, fn, hdj, hel, hkj, hlj, e1, e2, e3, e4, e5, e6, hX, hM, hid', hA, hB, c1', c2', c3', c4']; (refine hJ _ _ ?_; clear hJ J; simp only [ak, reduceIte]))))
            exact hfin0 _ _ (by simp [fi]) (by simp [fn]) (by simp) (by simp) (by simp) (by simp) (by simp) (by simp) (by simp) (by simp) (by simp) rfl
          · have c3' : (F yb == (k : Int) + 1) = false := by simpa using c3
            (repeat' (first | refine awp_seq ?_ | (refine awp_skip ?_; simp only [ak, reduceIte]) | (refine awp_cond ?_; simp [f5, f6, f7, f29, fi, fn, hdj, hel, hkj, hlj, e1, e2, e3, e4, e5, e6, hX, hM, hid', hA, hB, c1', c2', c3']) | (refine w_e [] ?_; intro J hJ; simp only []; simp [f5, f6, f7, f29, fi, fn, hdj, hel, hkj, hlj, e1, e2, e3, e4, e5, e6, hX, hM, hid', hA, hB, c1', c2', c3']; (refine hJ _ _ ?_; clear hJ J; simp only [ak, reduceIte]))))
            exact hfin0 _ _ (by simp [fi]) (by simp [fn]) (by simp) (by simp) (by simp) (by simp) (by simp) (by simp) (by simp) (by simp) (by simp) rfl
      · have c1' : (F ya == (k : Int) + 1) = false := by simpa using c1
        have h1 : stp ((k : Int) + 1) F ya yb = F := by unfold stp; rw [if_neg (fun h => c1 h.1)]
        rw [h1] at hfin hfin0
        by_cases c3 : F yb = (k : Int) + 1
        · have c3' : (F yb == (k : Int) + 1) = true := by simpa using c3
          by_cases c4 : F ya = 0
          · have c4' : (F ya == 0) = true := by simpa using c4
            have hS : stp ((k : Int) + 1) F yb ya = far1 F ya ((k : Int) + 1 + 1) := by unfold stp; rw [if_pos ⟨c3, c4⟩]
            rw [hS] at hfin
            have hF2 := hfar.set ya ((k : Int) + 1 + 1)
            (repeat' (first | refine awp_seq ?_ | (refine awp_skip ?_; simp only [ak, reduceIte]) | (refine awp_cond ?_; simp [f5, f6, f7, f29, fi, fn, hdj, hel, hkj, hlj, e1, e2, e3, e4, e5, e6, hX, hM, hid', hA, hB, c1', c3', c4', w1]) | (refine w_e [] ?_; intro J hJ; simp only []; simp [f5, f6, f7, f29, fi, fn, hdj, hel, hkj, hlj, e1, e2, e3, e4, e5, e6, hX, hM, hid', hA, hB, c1', c3', c4', w1]; (refine hJ _ _ ?_; clear hJ J; simp only [ak, reduceIte]))))
            exact hfin _ _ _ (by simp [fi]) (by simp [fn]) (by simp) (by simp) (by simp) (by simp) (by simp) (by simp) (by simp) (by simp) (by simp) hF2
          · have c4' : (F ya == 0) = false := by simpa using c4
            have hS : stp ((k : Int) + 1) F yb ya = F := by unfold stp; rw [if_neg (fun h => c4 h.2)]
            rw [hS] at hfin0
            (repeat' (first | refine awp_seq ?_ | (refine awp_skip ?_; simp only [ak, reduceIte]) | (refine awp_cond ?_; simp [f5, f6, f7, f29, fi, fn, hdj, hel, hkj, hlj, e1, e2, e3, e4, e5, e6, hX, hM, hid', hA, hB, c1', c3', c4']) | (refine w_e [] ?_; intro J hJ; simp only []; simp [f5, f6, f7, f29, fi, fn, hdj, hel, hkj, hlj, e1, e2, e3, e4, e5, e6, hX, hM, hid', hA, hB, c1', c3', c4']; (refine hJ _ _ ?_; clear hJ J; simp only [ak, reduceIte]))))
            exact hfin0 _ _ (by simp [fi]) (by simp [fn]) (by simp) (by simp) (by simp) (by simp) (by simp) (by simp) (by simp) (by simp) (by simp) rfl
        · have c3' : (F yb == (k : Int) + 1) = false := by simpa using c3
          have hS : stp ((k : Int) + 1) F yb ya = F := by unfold stp; rw [if_neg (fun h => c3 h.1)]
          rw [hS] at hfin0
          (repeat' (first | refine awp_seq ?_ | (refine awp_skip ?_; simp only [ak, reduceIte]) | (refine awp_cond ?_; simp [f5, f6, f7, f29, fi, fn, hdj, hel, hkj, hlj, e1, e2, e3, e4, e5, e6, hX, hM, hid', hA, hB, c1', c3']) | (refine w_e [] ?_; intro J hJ; simp only []; simp [f5, f6, f7, f29, fi, fn, hdj, hel, hkj, hlj, e1, e2, e3, e4, e5, e6, hX, hM, hid', hA, hB, c1', c3']; (refine hJ _ _ ?_; clear hJ J; simp only [ak, reduceIte]))))
          exact hfin0 _ _ (by simp [fi]) (by simp [fn]) (by simp) (by simp) (by simp) (by simp) (by simp) (by simp) (by simp) (by simp) (by simp) rfl
    · clear f1 f3 f5 f6 f7 f11 hG hX hxM hMn hkp hM hfar gi' gn' fr s2 mes
      rintro fr s2 ⟨gi', gn', f29, ⟨f1, f3, f5, f6, f7, f11, hG, hX, _, hxM, hMn, hkp⟩, mes, hM, hfar⟩
      rw [List.take_length, ← hls] at hfar
      have hw2 : IntKind.i64.wrap ((k : Int) + 1 + 1) = (k : Int) + 1 + 1 := wrap_i64 _ (by omega) (by omega)
      (repeat' (refine w_e [] ?_; intro J hJ; simp only []; simp [f7, hw2]; (refine hJ _ _ ?_; clear hJ J; simp only [ak, reduceIte])))
      exact hJ (g.vs.length - (k + 1)) _ _ (by omega) ⟨k + 1, mes, hlk, rfl, by simp [gi'], by simp [gn'], ⟨by simp [f1], by simp [f3], by simp [f5], by simp [f6], by simp, by simp [f11], hG, hX, hsx, hxM, hMn, hkp⟩, hM, hfar⟩
  · rintro fr s ⟨f1, f3, f11, hG, hsn, hkp⟩
    rw [List.take_length] at f3
    (repeat' (first | refine awp_seq ?_ | (refine awp_ret ?_; simp only [ak, reduceIte]; simp [f3]) | (refine w_e [] ?_; intro J hJ; simp only []; simp [f3]; (refine hJ _ _ ?_; clear hJ J; simp only [ak, reduceIte]))))
    exact ⟨rfl, hkp⟩

theorem ref_Degree (g : Gr) (n : Int) (st : St) (hv : g.vs.length ≤ 1000) (he : g.es.length ≤ 1000) (hid : idOk g.es) :
    ACalls Tryz.prog 24 [.ag (grL g), i n] st fun r st' => r = i (g.vs.countP fun v => decide (((ends g.es v).length : Int) = n) : Nat) ∧ Keeps st st' := by
  refine acalls_of_body tabOk Tryz.func24 rfl rfl Tryz.ntmps24 (rs := [.tmp 4]) rfl (by simp) ?_
  (repeat' (first | refine awp_seq ?_ | refine awp_block ?_ | (refine w_e [] ?_; intro J hJ; simp only []; simp []; (refine hJ _ _ ?_; clear hJ J; simp only [ak, reduceIte]))))
  refine awp_range 11 10 12 23 (g.vs.length) (fun j fr st2 => fr 1 = i n ∧ fr 2 = .pt st.next 0 ∧ fr 9 = .sl 0 g.vs.length (us g.vs) ∧ fr 5 = i ((g.vs.take j).countP fun v => decide (((ends g.es v).length : Int) = n) : Nat) ∧ st2.H st.next = .box 25 2 (grL g) ∧ Keeps st st2 ∧ st.next < st2.next) ?_ ?_ ?_
  · exact ⟨by simp, by simp, by simp, by simp, by simp, Keeps.new _ _, by simp⟩
  · rintro j fr st2 hlt ⟨f1, f2, f9, f5, hG, hkp, hsn⟩ fi fn JJ hJJ
    have hd := us_drop_getD g.vs j hlt
    have hct := count_take (fun v => decide (((ends g.es v).length : Int) = n)) g.vs j hlt
    have hle : (g.vs.take j).countP (fun v => decide (((ends g.es v).length : Int) = n)) ≤ j := Nat.le_trans List.countP_le_length (by simp; omega)
    generalize g.vs.getD j 0 = v at *
    generalize (g.vs.take j).countP (fun v => decide (((ends g.es v).length : Int) = n)) = c at *
    (repeat' (first | refine awp_seq ?_ | (refine w_e [] ?_; intro J hJ; simp only []; simp [f2, f9, fi, fn, hd, hG, hlt]; (try (refine hJ _ _ ?_; clear hJ J; simp only [ak, reduceIte])))))
    refine callK_ofE (ref_Ends g v _ he hid) (by simp) ?_; rintro r s3 ⟨⟨t, rfl⟩, hk3⟩
    have hn3 := hk3.next
    have hw := nat_add_one c (by omega)
    by_cases h0 : ((ends g.es v).length : Int) = n
    · have e1 : (((ends g.es v).length : Int) == n) = true := by simpa using h0
      rw [if_pos (by simpa using h0)] at hct
      (repeat' (first | (refine awp_cond ?_; simp [e1, f1, f5, hw]) | ((first | (refine w_e [] ?_; intro J hJ; simp only []) | (refine e_go ?_)); simp [e1, f1, f5, hw]; (refine hJ _ _ ?_; clear hJ J; simp only [ak, reduceIte]))))
      exact hJJ _ _ (by simp [fi]) (by simp [fn]) ⟨by simp [f1], by simp [f2], by simp [f9], by simp [hct], (hk3.H _ hsn).trans hG, hkp.trans hk3, by omega⟩
    · have e1 : (((ends g.es v).length : Int) == n) = false := by simpa using h0
      rw [if_neg (by simpa using h0)] at hct
      (repeat' (first | (refine awp_skip ?_; simp only [ak, reduceIte]) | (refine awp_cond ?_; simp [e1, f1, f5]) | (refine e_go ?_; simp [e1, f1, f5]; (refine hJ _ _ ?_; clear hJ J; simp only [ak, reduceIte]))))
      exact hJJ _ _ (by simp [fi]) (by simp [fn]) ⟨by simp [f1], by simp [f2], by simp [f9], by simp [hct, f5], (hk3.H _ hsn).trans hG, hkp.trans hk3, by omega⟩
  rintro fr st2 ⟨f1, f2, f9, f5, hG, hkp, hsn⟩
  rw [List.take_length] at f5
  (repeat' (first | refine awp_seq ?_ | (refine awp_ret ?_; simp only [ak, reduceIte]; simp [f5]) | (refine w_e [] ?_; intro J hJ; simp only []; simp [f5]; (refine hJ _ _ ?_; clear hJ J; simp only [ak, reduceIte]))))
  exact hkp

end Go.Proofs.YtlnefdmdabhobaaGreat.Aw

namespace Go.Proofs.YtlnefdmdabhobaaGreat.Aw
open Go Go.RowKit Go.Proofs.YtlnefdmdabhobaaGreat.Pl
set_option linter.unusedSimpArgs false
set_option linter.unusedVariables false

theorem ref_Chk (g : Gr) (st : St) : ACalls Tryz.prog 33 [.ag (grL g)] st fun r st' => r = i (chk g) ∧ Keeps st st' := by
  by_cases h1 : (64 : Int) < (g.vs.length : Int)
  · have : chk g = 6 := by unfold chk; rw [if_pos (by omega)]
    refine acalls_of_body tabOk Tryz.func33 rfl rfl Tryz.ntmps33 (rs := [.tmp 2]) rfl (by simp) ?_
    (repeat' (first | refine awp_seq ?_ | (refine awp_ret ?_; simp only [ak, reduceIte]; simp [h1, this]) | (refine awp_cond ?_; simp [h1, this]) | (refine w_e [] ?_; intro J hJ; simp only []; simp [h1, this]; (refine hJ _ _ ?_; clear hJ J; simp only [ak, reduceIte]))))
    exact Keeps.new _ _
  by_cases h2 : (160 : Int) < (g.es.length : Int)
  · have : chk g = 6 := by unfold chk; rw [if_pos (by omega)]
    refine acalls_of_body tabOk Tryz.func33 rfl rfl Tryz.ntmps33 (rs := [.tmp 2]) rfl (by simp) ?_
    (repeat' (first | refine awp_seq ?_ | (refine awp_ret ?_; simp only [ak, reduceIte]; simp [h1, h2, this]) | (refine awp_cond ?_; simp [h1, h2, this]) | (refine w_e [] ?_; intro J hJ; simp only []; simp [h1, h2, this]; (refine hJ _ _ ?_; clear hJ J; simp only [ak, reduceIte]))))
    exact Keeps.new _ _
  exact ref_Check g st (by omega) (by omega)

end Go.Proofs.YtlnefdmdabhobaaGreat.Aw

namespace Go.Proofs.YtlnefdmdabhobaaGreat.Aw
open Go Go.RowKit Go.Proofs.YtlnefdmdabhobaaGreat.Pl
set_option linter.unusedSimpArgs false
set_option linter.unusedVariables false
open Eu

section
variable {P : Program} {T : Tab} {ops : Array Oper} {M B : List Nat} {st0 : St} {J : Frm → St → Prop}
/-- An operation that writes nothing, where it alone may come next. -/
def AOne (T : Tab) (ops : Array Oper) (M : List Nat) (o : Oper) (K : Frm → St → Prop) (fr : Frm) (st : St) : Prop :=
  match wantedL ops fr o.guard with
  | some b => (b = true → match aop T (inM M o.dst) o fr st with
      | some r => r.c ∧ K (updO fr o.dst r.v) st
      | none => False) ∧ (b = false → K (updO fr o.dst (.tu [])) st)
  | none => False
theorem a_one {listed : Array Bool} {fr : Frm} {st : St} {k : Nat} (n i : Nat) {o : Oper} (h : AOne T ops M o (fun fr st => AAny P T ops M (SB B st0) J n (listed.setIfInBounds i true) fr st) fr st) (ho : ops[i]? = some o := by rfl) (hk : k = n + 1 := by rfl) (hq : quietOp o.op = true := by rfl) (hrd : (Region.ready .any ops listed == [i]) = true := by kernel_rfl) : AAny P T ops M (SB B st0) J k listed fr st := by
  subst hk
  rw [beq_iff_eq] at hrd
  refine ⟨fun h0 => (by rw [h0] at hrd; cases hrd), fun j hj => ?_⟩
  rw [hrd] at hj
  obtain rfl : j = i := by simpa using hj
  refine ⟨o, ho, ?_⟩
  have hnc : ∀ x args tys, o.op ≠ .call { callee := .value x, args := args, argTypes := tys } := by
    intro x args tys e
    rw [e] at hq
    simp [quietOp] at hq
  unfold AStep
  unfold AOne at h
  cases hw : wantedL ops fr o.guard with
  | none => rw [hw] at h; exact h
  | some b =>
    rw [hw] at h
    refine ⟨fun hb => ?_, fun hb => ?_⟩
    · have h1 := h.1 hb
      have key : (match aop T (inM M o.dst) o fr st with
        | some r => r.c ∧ Kx ops (SB B st0) j o st r.s ∧ AAny P T ops M (SB B st0) J n (listed.setIfInBounds j true) (updO fr o.dst r.v) r.s
        | none => False) := by
        cases hr : aop T (inM M o.dst) o fr st with
        | none => rw [hr] at h1; exact h1
        | some r =>
          rw [hr] at h1
          have hs := quiet_stable hq (fun l k _ => rfl) hr
          rw [hr] at hs
          injection hs with hs
          have hrs : r.s = st := by rw [hs]
          refine ⟨h1.1, ?_, ?_⟩
          · unfold Kx; rw [if_pos hq]; exact hrs
          · rw [hrs]; exact h1.2
      split
      · rename_i x args tys he
        exact absurd he (hnc _ _ _)
      · exact key
    · refine ⟨?_, h.2 hb⟩
      unfold Kx; rw [if_pos hq]
end

theorem chk_smallS {m : Mp} (h : rchk m = 0) : m.g.vs.length ≤ 64 := by
  obtain ⟨_, _, h3, _⟩ := chk_good (rchk_zero h).1
  exact h3
theorem ref_rCheckS (m : Mp) (st : St) (hr : m.rots.length ≤ 1000) (he : m.g.es.length ≤ 1000) : ACalls Tryz.prog 18 [.ag (mpL m)] st fun r st' => r = i (rchk m) ∧ Keeps st st' := by
  by_cases hv : m.g.vs.length ≤ 1000
  · exact ref_rCheck m st hv he hr
  · have hc : chk m.g = 6 := by unfold chk; rw [if_pos (by omega)]
    have hrc : rchk m = 6 := by rw [rchk_g (by rw [hc]; decide), hc]
    refine acalls_of_body tabOk Tryz.func18 rfl rfl Tryz.ntmps18 (rs := [.tmp 2]) rfl (by simp) ?_
    (repeat' (first | refine awp_seq ?_ | (refine w_e [] ?_; intro J hJ; simp only []; simp []; (try (refine hJ _ _ ?_; clear hJ J; simp only [ak, reduceIte])))))
    refine callK_ofE (ref_Chk m.g _) (by simp) ?_; rintro r s1 ⟨rfl, hk1⟩
    rw [hc]
    (repeat' (first | refine awp_seq ?_ | (refine awp_ret ?_; simp only [ak, reduceIte]; simp [hrc]) | (refine awp_cond ?_; simp [hrc]) | ((first | (refine w_e [] ?_; intro J hJ; simp only []) | (refine e_go ?_)); simp [hrc]; (refine hJ _ _ ?_; clear hJ J; simp only [ak, reduceIte]))))
    exact (Keeps.new _ _).trans hk1

noncomputable def OfC (m : Mp) (M : Nat) (F : Nat) : List LV := [.mp M, i m.g.vs.length, i m.g.es.length, i F, i (ncl (Reach m.g.es) m.g.vs : Nat), i (Aw.gn m : Nat), i (refGirth m.g)]
def OfP (m : Mp) (st : St) (r : LV) (st' : St) : Prop := ∃ M R, r = .ag (OfC m M R.length) ∧ st.next ≤ M ∧ M < st'.next ∧ Keeps st st' ∧ st'.H M = .map false [.i64] (addAll [] (degs m.g)) ∧ TabB m.g.vs.length (addAll [] (degs m.g)) ∧ Lead (fc m m.g.es) (darts m.g.es) (darts m.g.es).length R
set_option maxHeartbeats 2000000 in
theorem sOf (m : Mp) (h : MapOk m) (st : St) (hv : m.g.vs.length ≤ 100) (he : m.g.es.length ≤ 400) :
    ACalls Tryz.prog 19 [.ag (mpL m)] st (OfP m st) := by
  have hid : idOk m.g.es := fun x hx => by have := h.g.pos x hx; omega
  refine acalls_of_body tabOk Tryz.func19 rfl rfl Tryz.ntmps19 (rs := [.cell 2 34]) rfl (by simp) ?_
  have e1 : ¬ st.next = st.next + 1 := by omega
  (repeat' (first | refine awp_seq ?_ | (refine w_e [] ?_; intro J hJ; simp only []; simp []; (refine hJ _ _ ?_; clear hJ J; simp only [ak, reduceIte]))))
  (refine w_s [] [st.next] [(0, true), (1, true), (3, true), (4, true), (5, true), (6, true), (7, true), (8, true), (9, true), (10, true), (11, true), (14, true), (15, true), (18, true), (20, true), (21, true), (2, true), (12, true), (13, true), (16, true), (17, true), (19, true), (22, true), (23, true), (24, false)] ?_; intro J hJ; simp [e1])
  refine dcallK_ofE (Degrees m.g _ (by omega) (by omega) hid) (by simp) ?_; rintro r s1 ⟨M, rfl, hM0, hM1, hk1, hM, hT⟩
  have hn1 := hk1.next
  simp only [new_next] at hn1 hM0
  have hG1 : s1.H st.next = .box 28 3 (mpL m) := by rw [hk1.H _ (by simp; omega)]; simp [e1]
  have hC1 : s1.H (st.next + 1) = .box 34 7 [.atom (.map none), i 0, i 0, i 0, i 0, i 0, i 0] := by rw [hk1.H _ (by simp)]; simp
  refine ⟨fun _ => by simp [hG1, e1], ?_⟩
  (refine d_go ?_; simp [hG1, e1])
  refine dcallK_ofE (Faces m h _ (by omega) (by omega)) (by simp) ?_; rintro r s2 ⟨⟨t, R, rfl, hR⟩, hk2⟩
  have hn2 := hk2.next
  have hG2 := (hk2.H st.next (by omega)).trans hG1
  refine ⟨fun _ => by simp [hG2, e1], ?_⟩
  (refine d_go ?_; simp [hG2, e1])
  refine dcallK_ofE (Parts m.g _ h.g.toGood (by omega) (by omega)) (by simp) ?_; rintro r s3 ⟨⟨t3, R3, rfl, hP⟩, hk3⟩
  have hn3 := hk3.next
  have hG3 := (hk3.H st.next (by omega)).trans hG2
  have l3 := hP.all
  refine ⟨fun _ => by simp [hG3, e1], ?_⟩
  (refine d_go ?_; simp [hG3, e1, l3])
  refine dcallK_ofE (Genus m h _ (by omega) (by omega)) (by simp) ?_; rintro r s4 ⟨rfl, hk4⟩
  have hn4 := hk4.next
  have hG4 := (hk4.H st.next (by omega)).trans hG3
  refine ⟨fun _ => by simp [hG4, e1], ?_⟩
  (refine d_go ?_; simp [hG4, e1, l3])
  refine dcallK_ofE (Girth m.g (m.g.vs.length + 1) (refGirth m.g) _ (by omega) (by omega) (by omega) (girth_same h.g.toGood (by omega) (by omega))) (by simp) ?_; rintro r s5 ⟨rfl, hk5⟩
  have hn5 := hk5.next
  have hG5 := (hk5.H st.next (by omega)).trans hG4
  have hC5 := (hk5.H _ (by omega)).trans ((hk4.H _ (by omega)).trans ((hk3.H _ (by omega)).trans ((hk2.H _ (by omega)).trans hC1)))
  have hM5 := (hk5.H _ (by omega)).trans ((hk4.H _ (by omega)).trans ((hk3.H _ (by omega)).trans ((hk2.H _ (by omega)).trans hM)))
  refine ⟨fun _ => by simp [hG5, e1], ?_⟩
  (refine d_go ?_; simp [hG5, hC5, e1, l3]; (refine hJ _ _ ?_; clear hJ J; simp only [ak, reduceIte]))
  (repeat' (refine awp_ret ?_; simp only [ak, reduceIte]; simp []))
  refine ⟨M, R, rfl, by omega, by simp; omega, ?_, ?_, hT, hR⟩
  · exact ((((((((Keeps.new _ _).trans (Keeps.new _ _)).trans hk1).trans hk2).trans hk3).trans hk4).trans hk5).set (by omega) _)
  · rw [set_H, if_neg (by omega)]; exact hM5

end Go.Proofs.YtlnefdmdabhobaaGreat.Aw

namespace Go.Proofs.YtlnefdmdabhobaaGreat.Aw
open Go Go.RowKit Go.Proofs.YtlnefdmdabhobaaGreat.Pl
set_option linter.unusedSimpArgs false
set_option linter.unusedVariables false
open Eu

theorem count_takeR (p : List Int → Bool) (l : List (List Int)) (k : Nat) (hk : k < l.length) : (l.take (k + 1)).countP p = (l.take k).countP p + (if p (l.getD k []) = true then 1 else 0) := by
  rw [List.take_succ_eq_append_getElem hk, List.countP_append, List.countP_singleton, List.getD_eq_getElem?_getD, List.getElem?_eq_getElem hk]; rfl
theorem cnt_degs (g : Gr) (n : Int) : cntM (addAll [] (degs g)) n = (g.vs.countP fun v => decide (((ends g.es v).length : Int) = n) : Nat) := by
  rw [cnt_all]
  have h0 : cntM [] n = 0 := rfl
  rw [h0, degs, List.countP_map]
  simp [Function.comp_def]
theorem cnt_sizs (R : List (List Int)) (n : Int) : cntM (addAll [] (sizs R)) n = (R.countP fun c => decide ((c.length : Int) = n) : Nat) := by
  rw [cnt_all]
  have h0 : cntM [] n = 0 := rfl
  rw [h0, sizs, List.countP_map]
  simp [Function.comp_def]

set_option maxHeartbeats 4000000 in
theorem StatMaps (m : Mp) (n : Int) (st : St) :
    ACalls Tryz.prog 3 [.ag (mpL m), i n] st fun r st' => r = bb true := by
  refine acalls_of_body tabOk Tryz.func3 rfl rfl Tryz.ntmps3 (rs := [.tmp 4]) rfl (by simp) ?_
  refine awp_posG fun hpos => ?_
  (repeat' (first | refine awp_seq ?_ | (refine w_e [] ?_; intro J hJ; simp only []; simp []; (try (refine hJ _ _ ?_; clear hJ J; simp only [ak, reduceIte])))))
  refine callK_ofE (awake37 _) (by simp []) ?_; rintro r st' ⟨rfl, rfl⟩
  by_cases h1 : (24 : Int) < m.g.es.length
  · (repeat' (first | refine awp_seq ?_ | (refine awp_skip ?_; simp only [ak, reduceIte]) | (refine awp_ret ?_; simp only [ak, reduceIte]; simp [h1]) | (refine awp_cond ?_; simp [h1]) | ((first | (refine w_e [] ?_; intro J hJ; simp only []) | (refine e_go ?_)); simp [h1]; (refine hJ _ _ ?_; clear hJ J; simp only [ak, reduceIte]))))
  by_cases h2 : (64 : Int) < m.rots.length
  · (repeat' (first | refine awp_seq ?_ | (refine awp_skip ?_; simp only [ak, reduceIte]) | (refine awp_ret ?_; simp only [ak, reduceIte]; simp [h1, h2]) | (refine awp_cond ?_; simp [h1, h2]) | ((first | (refine w_e [] ?_; intro J hJ; simp only []) | (refine e_go ?_)); simp [h1, h2]; (refine hJ _ _ ?_; clear hJ J; simp only [ak, reduceIte]))))
  (repeat' (first | refine awp_seq ?_ | (refine awp_skip ?_; simp only [ak, reduceIte]) | (refine awp_cond ?_; simp [h1, h2]) | ((first | (refine w_e [] ?_; intro J hJ; simp only []) | (refine e_go ?_)); simp [h1, h2]; (try (refine hJ _ _ ?_; clear hJ J; simp only [ak, reduceIte])))))
  refine callK_ofE (ref_rCheckS m _ (by omega) (by omega)) (by simp) ?_; rintro r s1 ⟨rfl, hk1⟩
  have hn1 := hk1.next
  simp only [new_next] at hn1
  have hG1 : s1.H st.next = .box 28 3 (mpL m) := by rw [hk1.H _ (by simp)]; simp
  by_cases hc : rchk m = 0
  rotate_left
  · generalize rchk m = x at *
    (repeat' (first | refine awp_seq ?_ | (refine awp_ret ?_; simp only [ak, reduceIte]; simp [hc]) | (refine awp_cond ?_; simp [hc]) | ((first | (refine w_e [] ?_; intro J hJ; simp only []) | (refine e_go ?_)); simp [hc]; (refine hJ _ _ ?_; clear hJ J; simp only [ak, reduceIte]))))
  have h := (rchk_zero hc).2
  have hv := chk_smallS hc
  have he : m.g.es.length ≤ 24 := by omega
  have hid : idOk m.g.es := fun x hx => by have := h.g.pos x hx; omega
  (repeat' (first | refine awp_seq ?_ | (refine awp_skip ?_; simp only [ak, reduceIte]) | (refine awp_cond ?_; simp [hc, hG1]) | ((first | (refine w_e [] ?_; intro J hJ; simp only []) | (refine e_go ?_)); simp [hc, hG1]; (try (refine hJ _ _ ?_; clear hJ J; simp only [ak, reduceIte])))))
  refine callK_ofE (sOf m h _ (by omega) (by omega)) (by simp) ?_; rintro r s2 ⟨M, R, rfl, hM0, hM1, hk2, hM, hT, hR⟩
  have hn2 := hk2.next
  have hG2 := (hk2.H st.next (by omega)).trans hG1
  have e1 : ¬ st.next = s2.next := by omega
  have e2 : ¬ M = s2.next := by omega
  (repeat' (first | refine awp_seq ?_ | ((first | (refine w_e [] ?_; intro J hJ; simp only []) | (refine e_go ?_)); simp [e1, hG2, OfC]; (try (refine hJ _ _ ?_; clear hJ J; simp only [ak, reduceIte])))))
  refine callK_ofE (ref_Faces m h _ (by omega) (by omega)) (by simp) ?_; rintro r s3 ⟨⟨t3, R', rfl, hR'⟩, hk3⟩
  obtain rfl := hR.unique hR'
  have hn3 := hk3.next
  simp only [new_next] at hn3
  have hG3 : s3.H st.next = .box 28 3 (mpL m) := by rw [hk3.H _ (by simp; omega), new_H, if_neg e1]; exact hG2
  have hM3 : s3.H M = .map false [.i64] (addAll [] (degs m.g)) := by rw [hk3.H _ (by simp; omega), new_H, if_neg e2]; exact hM
  have hB3 : s3.H s2.next = .box 34 7 (OfC m M R.length) := by rw [hk3.H _ (by simp)]; simp [OfC]
  have hRl := hR.len
  have hdl := darts_length m.g.es
  have hrl : (rowsL3 R).length = R.length := by simp [rowsL3]
  have hb1 : st.next < s2.next := by omega
  have hb2 : s2.next < s3.next := by omega
  have hb3 : M < s3.next := by omega
  generalize s2.next = b at *
  (repeat' (first | refine awp_seq ?_ | refine awp_block ?_ | ((first | (refine w_e [] ?_; intro J hJ; simp only []) | (refine e_go ?_)); simp []; (refine hJ _ _ ?_; clear hJ J; simp only [ak, reduceIte]))))
  refine awp_range 34 33 35 44 (R.length) (fun j fr st2 => fr 1 = i n ∧ fr 2 = .pt st.next 0 ∧ fr 5 = .pt b 0 ∧ fr 6 = .sl t3 R.length (rowsL3 R) ∧ fr 32 = .sl t3 R.length (rowsL3 R) ∧ fr 7 = i ((R.take j).countP fun c => decide ((c.length : Int) = n) : Nat) ∧ st2 = s3) ?_ ?_ ?_
  · exact ⟨by simp, by simp, by simp, by simp, by simp, by simp, rfl⟩
  · rintro j fr s hlt ⟨f1, f2, f5, f6, f32, f7, rfl⟩ fi fn J hJ
    have hd := rows3_drop R j hlt
    have hct := count_takeR (fun c => decide ((c.length : Int) = n)) R j hlt
    have hle : (R.take j).countP (fun c => decide ((c.length : Int) = n)) ≤ 1000 := Nat.le_trans List.countP_le_length (by simp; omega)
    generalize R.getD j [] = c at *
    generalize (R.take j).countP (fun c => decide ((c.length : Int) = n)) = k at *
    have hw := nat_add_one k (by omega)
    by_cases h0 : (c.length : Int) = n
    · have c1 : ((c.length : Int) == n) = true := by simpa using h0
      rw [if_pos (by simpa using h0)] at hct
      (repeat' (first | refine awp_seq ?_ | (refine awp_cond ?_; simp [f1, f32, f7, fi, fn, hd, hlt, hrl, c1, hw]) | (refine w_e [] ?_; intro J hJ; simp only []; simp [f1, f32, f7, fi, fn, hd, hlt, hrl, c1, hw]; (refine hJ _ _ ?_; clear hJ J; simp only [ak, reduceIte]))))
      exact hJ _ _ (by simp [fi]) (by simp [fn]) ⟨by simp [f1], by simp [f2], by simp [f5], by simp [f6], by simp [f32], by simp [hct], rfl⟩
    · have c1 : ((c.length : Int) == n) = false := by simpa using h0
      rw [if_neg (by simpa using h0)] at hct
      (repeat' (first | refine awp_seq ?_ | (refine awp_skip ?_; simp only [ak, reduceIte]) | (refine awp_cond ?_; simp [f1, f32, f7, fi, fn, hd, hlt, hrl, c1]) | (refine w_e [] ?_; intro J hJ; simp only []; simp [f1, f32, f7, fi, fn, hd, hlt, hrl, c1]; (refine hJ _ _ ?_; clear hJ J; simp only [ak, reduceIte]))))
      exact hJ _ _ (by simp [fi]) (by simp [fn]) ⟨by simp [f1], by simp [f2], by simp [f5], by simp [f6], by simp [f32], by simp [hct, f7], rfl⟩
  · rintro fr s ⟨f1, f2, f5, f6, f32, f7, rfl⟩
    rw [List.take_length] at f7
    clear hk1 hG1 hn1 hk2 hG2 hn2 hk3 hn3 hM hM1 hR' hM0
    have hcd := cnt_degs m.g n
    have hcs := cnt_sizs R n
    have hgd := cntM_get hT (by omega) n
    have hgn := h.gn
    have hnc := ncl_le (Reach m.g.es) m.g.vs
    have w1 : IntKind.i64.wrap (2 * (Aw.gn m : Int)) = 2 * (Aw.gn m : Int) := wrap_i64 _ (by omega) (by omega)
    simp only [OfC] at hB3
    (repeat' refine awp_seq ?_)
    refine w_a [] [st.next, b, M] ?_; intro J hJ
    refine a_pre 53 [(0, true), (1, true), (2, true), (3, true), (4, true), (5, true), (6, true), (7, true), (8, true), (9, true), (10, true), (11, true), (12, true), (13, true), (14, true), (15, true), (16, true), (17, true), (18, true), (19, true), (20, true), (21, true), (22, true)] ?_
    simp [f1, f2, f5, f6, f7, hG3, hB3, hM3]
    refine a_pre 47 [(23, true), (24, true), (25, true), (26, true), (27, true), (28, true)] ?_
    simp [f1, f2, f5, f6, f7, hG3, hB3, hM3]
    refine dcallK_ofE (ref_Parts m.g s h.g.toGood (by omega) (by omega)) (by simp) ?_; rintro r s4 ⟨⟨t4, R4, rfl, hP4⟩, hk4⟩
    have hn4 := hk4.next
    have hG4 := (hk4.H st.next (by omega)).trans hG3
    have hB4 := (hk4.H b (by omega)).trans hB3
    have hM4 := (hk4.H M (by omega)).trans hM3
    have l4 := hP4.all
    refine ⟨fun _ => by simp [hG4, hG3, hB4, hB3, hM4, hM3], ?_⟩
    simp
    refine a_pre 38 [(29, true), (30, true), (31, true), (32, true), (33, true), (34, true), (35, true), (36, true), (37, true)] ?_
    simp [f1, f2, f5, f6, f7, hG3, hB3, hM3, hG4, hB4, hM4, l4, w1]
    refine dcallK_ofE (Twice m h s4 (by omega) (by omega)) (by simp) ?_; rintro r s5 ⟨rfl, hk5⟩
    have hn5 := hk5.next
    have hG5 := (hk5.H st.next (by omega)).trans hG4
    have hB5 := (hk5.H b (by omega)).trans hB4
    have hM5 := (hk5.H M (by omega)).trans hM4
    refine ⟨fun _ => by simp [hG5, hG3, hB5, hB3, hM5, hM3], ?_⟩
    simp
    refine a_pre 30 [(38, true), (39, true), (40, true), (41, true), (42, true), (43, true), (44, true), (45, true)] ?_
    simp [f1, f2, f5, f6, f7, hG3, hB3, hM3, hG5, hB5, hM5]
    refine dcallK_ofE (ref_Girth m.g s5 (by omega) (by omega)) (by simp) ?_; rintro r s6 ⟨rfl, hk6⟩
    have hn6 := hk6.next
    have hG6 := (hk6.H st.next (by omega)).trans hG5
    have hB6 := (hk6.H b (by omega)).trans hB5
    have hM6 := (hk6.H M (by omega)).trans hM5
    refine ⟨fun _ => by simp [hG6, hG3, hB6, hB3, hM6, hM3], ?_⟩
    simp
    refine a_pre 19 [(46, true), (47, true), (48, true), (49, true), (50, true), (51, true), (52, true), (53, true), (54, true), (55, true), (56, true)] ?_
    simp [f1, f2, f5, f6, f7, hG3, hB3, hM3, hG6, hB6, hM6, hgd.1, hcd]
    refine dcallK_ofE (ref_Degree m.g n s6 (by omega) (by omega) hid) (by simp) ?_; rintro r s7 ⟨rfl, hk7⟩
    have hn7 := hk7.next
    have hG7 := (hk7.H st.next (by omega)).trans hG6
    have hB7 := (hk7.H b (by omega)).trans hB6
    have hM7 := (hk7.H M (by omega)).trans hM6
    refine ⟨fun _ => by simp [hG7, hG3, hB7, hB3, hM7, hM3], ?_⟩
    simp
    refine a_pre 12 [(57, true), (58, true), (59, true), (60, true), (62, true), (64, true), (61, true)] ?_
    simp [f1, f2, f5, f6, f7, hG3, hB3, hM3, hG7, hB7, hM7]
    refine dcallK_ofE (Sizes m h s7 (by omega) (by omega)) (by simp) ?_; rintro r s8 ⟨M2, R2, rfl, a1, a2, hk8, hM8', hT8, hR2⟩
    obtain rfl := hR.unique hR2
    have hn8 := hk8.next
    have hG8 := (hk8.H st.next (by omega)).trans hG7
    have hB8 := (hk8.H b (by omega)).trans hB7
    have hM8 := (hk8.H M (by omega)).trans hM7
    have hgs := cntM_get hT8 (by omega) n
    refine ⟨fun _ => by simp [hG8, hG3, hB8, hB3, hM8, hM3], ?_⟩
    simp
    refine a_one 11 63 ?_
    unfold AOne
    simp [hM8', hgs.1, hcs]
    refine a_pre 3 [(65, true), (66, true), (67, true), (68, true), (69, true), (71, true), (72, true), (70, true)] ?_
    simp [f1, f2, f5, f6, f7, hG3, hB3, hM3, hG8, hB8, hM8]
    refine dcallK_ofE (Girth m.g (m.g.vs.length + 1) (refGirth m.g) s8 (by omega) (by omega) (by omega) (girth_same h.g.toGood (by omega) (by omega))) (by simp) ?_; rintro r s9 ⟨rfl, hk9⟩
    have hG9 := (hk9.H st.next (by omega)).trans hG8
    have hB9 := (hk9.H b (by omega)).trans hB8
    have hM9 := (hk9.H M (by omega)).trans hM8
    refine ⟨fun _ => by simp [hG9, hG3, hB9, hB3, hM9, hM3], ?_⟩
    simp
    refine a_pre 0 [(73, true), (74, true), (75, true)] ?_
    simp
    refine aany_end (hJ _ _ ?_)
    simp only [ak]
    (repeat' (refine awp_ret ?_; simp only [ak, reduceIte]; simp []))

theorem StatMaps_shp (l0 l1 : List LV) (st : St) (h0 : Shp tab 28 l0) (h1 : Shp tab 3 l1) :
    ACalls Tryz.prog 3 [argT tab 28 l0, argT tab 3 l1] st fun r st' => r = bb true := by
  obtain ⟨m, rfl, _⟩ := shp_mp h0
  obtain ⟨n, rfl, _⟩ := shp_int (by rfl) rfl h1
  exact StatMaps m n st

end Go.Proofs.YtlnefdmdabhobaaGreat.Aw
