/- The law DiffTells: rows of steps; small functions. The law DiffTells: what a dart stands behind; light maps. The law DiffTells: the document's Diff. The law DiffTells: the program's Diff. The law DiffTells. -/
import Derived.Test.YtjpnhjembncdkaaGreatJd
import Derived.Test.YtjpnhjembncdkaaGreatAwShp
namespace Go.Proofs.YtjpnhjembncdkaaGreat.Aw
open Go Go.RowKit Go.Proofs.YtjpnhjembncdkaaGreat.Pl
set_option linter.unusedSimpArgs false
set_option linter.unusedVariables false

def sp0 : Sp := ⟨0, 0, 0, 0, 0, 0⟩
def spL (s : Sp) : List LV := [i s.k, u s.id, u s.a, u s.b, u s.pa, u s.pb]
def sps (l : List Sp) : List LV := l.flatMap spL
theorem sps_length (l : List Sp) : (sps l).length = l.length * 6 := by
  induction l with
  | nil => rfl
  | cons s l ih => simp only [sps, List.flatMap_cons, List.length_append, List.length_cons] at ih ⊢; rw [ih]; simp [spL]; omega
theorem sps_drop (l : List Sp) (k : Nat) (hk : k < l.length) : (sps l).drop (k * 6) = i (l.getD k sp0).k :: u (l.getD k sp0).id :: u (l.getD k sp0).a :: u (l.getD k sp0).b :: u (l.getD k sp0).pa :: u (l.getD k sp0).pb :: sps (l.drop (k + 1)) := by
  induction l generalizing k with
  | nil => simp at hk
  | cons s l ih =>
    cases k with
    | zero => rfl
    | succ k =>
      have := ih k (by simpa using hk)
      rw [show (k + 1) * 6 = k * 6 + 6 by omega]
      simp only [sps, List.flatMap_cons] at this ⊢
      show (spL s ++ l.flatMap spL).drop (k * 6 + 6) = _
      rw [show k * 6 + 6 = (spL s).length + k * 6 by simp [spL]; omega, ← List.drop_drop, List.drop_left, this]
      simp
theorem ref11Same (l : List Sp) (t t' : Nat) (st : St) (hl : l.length ≤ 100000) :
    ACalls Tryz.prog 37 [.sl t l.length (sps l), .sl t' l.length (sps l)] st fun r st' => r = bb true ∧ st' = st := by
  have hsl := sps_length l
  refine acalls_of_body tabOk Tryz.func37 rfl rfl Tryz.ntmps37 (rs := [.tmp 4]) rfl (by simp) ?_
  (repeat' (first | refine awp_seq ?_ | refine awp_block ?_ | (refine awp_skip ?_; simp only [ak, reduceIte]) | (refine awp_cond ?_; simp []) | (refine w_e [] ?_; intro J hJ; simp only []; simp []; (refine hJ _ _ ?_; clear hJ J; simp only [ak, reduceIte]))))
  refine awp_range 13 12 14 25 (l.length) (fun j fr st2 => fr 0 = .sl t l.length (sps l) ∧ fr 1 = .sl t' l.length (sps l) ∧ st2 = st) ?_ ?_ ?_
  · exact ⟨by simp, by simp, rfl⟩
  · rintro j fr s hlt ⟨f0, f1, rfl⟩ fi fn JO hJO
    have hd := sps_drop l j hlt
    have hj6 : j * 6 < l.length * 6 := by omega
    generalize l.getD j sp0 = y at *
    obtain ⟨y1, y2, y3, y4, y5, y6⟩ := y
    simp only at hd
    (repeat' (first | refine awp_seq ?_ | (refine awp_skip ?_; simp only [ak, reduceIte]) | (refine awp_cond ?_; simp [f0, f1, fi, fn, hlt, hd, hsl, hj6]) | ((first | (refine w_e [] ?_; intro J hJ; simp only []) | (refine w_q ?_; intro J hJ)); simp [f0, f1, fi, fn, hlt, hd, hsl, hj6]; (refine hJ _ _ ?_; clear hJ J; simp only [ak, reduceIte]))))
    exact hJO _ _ (by simp [fi]) (by simp [fn]) ⟨by simp [f0], by simp [f1], rfl⟩
  · rintro fr s ⟨f0, f1, rfl⟩
    (repeat' (first | refine awp_seq ?_ | (refine awp_ret ?_; simp only [ak, reduceIte]; simp []) | (refine w_e [] ?_; intro J hJ; simp only []; simp []; (refine hJ _ _ ?_; clear hJ J; simp only [ak, reduceIte]))))
theorem refAhead (l : List Int) (t : Nat) (d : Int) (st : St) (hl : small l) :
    ACalls Tryz.prog 101 [.sl t l.length (us l), u d] st fun r st' => r = u (if l.length < 2 then 0 else pv l d) ∧ st' = st := by
  refine acalls_of_body tabOk Tryz.func101 rfl rfl Tryz.ntmps101 (rs := [.tmp 4]) rfl (by simp) ?_
  by_cases h : l.length < 2
  · have h' : (l.length : Int) < 2 := by omega
    rw [if_pos h]
    (repeat' (first | refine awp_seq ?_ | (refine awp_ret ?_; simp only [ak, reduceIte]; simp [h']) | (refine awp_cond ?_; simp [h']) | (refine w_e [] ?_; intro J hJ; simp only []; simp [h']; (refine hJ _ _ ?_; clear hJ J; simp only [ak, reduceIte]))))
  · have h' : ¬ (l.length : Int) < 2 := by omega
    rw [if_neg h]
    (repeat' (first | refine awp_seq ?_ | (refine awp_skip ?_; simp only [ak, reduceIte]) | (refine awp_cond ?_; simp [h']) | (refine w_e [] ?_; intro J hJ; simp only []; simp [h']; (try (refine hJ _ _ ?_; clear hJ J; simp only [ak, reduceIte])))))
    refine callK_ofE (ref_Prev l t d _ hl) (by simp) ?_; rintro r s1 ⟨rfl, h1⟩
    rw [h1]; clear h1 s1
    (repeat' (first | (refine awp_ret ?_; simp only [ak, reduceIte]; simp []) | (refine e_go ?_; simp []; (refine hJ _ _ ?_; clear hJ J; simp only [ak, reduceIte]))))

end Go.Proofs.YtjpnhjembncdkaaGreat.Aw

namespace Go.Proofs.YtjpnhjembncdkaaGreat.Aw
open Go Go.RowKit Go.Proofs.YtjpnhjembncdkaaGreat.Pl
set_option linter.unusedSimpArgs false
set_option linter.unusedVariables false

theorem Diff_1K (b : Mp) (hb : MapOk b) (v d : Int) (I : List Int) (qb qm q : Nat) (MM : List (List Int × LV)) (st : St) (hvb : b.g.vs.length ≤ 100) (heb : b.g.es.length ≤ 100)
    (h2 : st.H qm = .box 91 1 [.mp q]) (h3 : st.H qb = .box 41 3 (mpL b)) (h4 : st.H q = .map false [.u32] MM) (hq : q < st.next) (hI : InM MM I) :
    ACalls Tryz.prog 98 [u v, u d, .pt qb 0, .pt qm 0] st fun r st' => r = u (aheadW b v d I) ∧ Keeps st st' := by
  have s2 : small (tnW b v I) := by have := tnW_len hb v I; unfold small; omega
  obtain ⟨y, hy⟩ : ∃ y, y = aheadW b v d I := ⟨_, rfl⟩
  rw [← hy]
  unfold aheadW at hy
  refine acalls_of_body tabOk Tryz.func98 rfl rfl Tryz.ntmps98 (rs := [.tmp 6]) rfl (by simp) ?_
  (repeat' (first | refine awp_seq ?_ | (refine w_e [] ?_; intro J hJ; simp only []; simp [h2, h3]; (try (refine hJ _ _ ?_; clear hJ J; simp only [ak, reduceIte])))))
  refine callK_ofE (dTurn b hb v I q MM _ hvb heb hq h4 hI) (by simp) ?_; rintro r s1 ⟨rfl, h1⟩
  rw [h1]; clear h1 s1
  generalize tnW b v I = L at *
  by_cases h : L.length = 1
  · have h' : (L.length : Int) = 1 := by omega
    rw [if_pos h] at hy
    subst hy
    (repeat' (first | refine awp_seq ?_ | (refine awp_ret ?_; simp only [ak, reduceIte]; simp [h', h]) | (refine awp_cond ?_; simp [h', h]) | ((first | (refine w_e [] ?_; intro J hJ; simp only []) | (refine e_go ?_)); simp [h', h]; (refine hJ _ _ ?_; clear hJ J; simp only [ak, reduceIte]))))
    exact Keeps.refl _
  · have h' : ¬ (L.length : Int) = 1 := by omega
    rw [if_neg h] at hy
    subst hy
    (repeat' (first | refine awp_seq ?_ | (refine awp_skip ?_; simp only [ak, reduceIte]) | (refine awp_cond ?_; simp [h', h]) | ((first | (refine w_e [] ?_; intro J hJ; simp only []) | (refine e_go ?_)); simp [h', h]; (try (refine hJ _ _ ?_; clear hJ J; simp only [ak, reduceIte])))))
    refine callK_ofE (Prev L 0 d _ s2) (by simp) ?_; rintro r s1 ⟨rfl, h1⟩
    rw [h1]; clear h1 s1
    (repeat' (first | (refine awp_ret ?_; simp only [ak, reduceIte]; simp []) | (refine e_go ?_; simp []; (refine hJ _ _ ?_; clear hJ J; simp only [ak, reduceIte]))))
    exact Keeps.refl _
theorem Diff_1 (b : Mp) (hb : MapOk b) (v d : Int) (I : List Int) (qb qm q : Nat) (MM : List (List Int × LV)) (st : St) (hvb : b.g.vs.length ≤ 100) (heb : b.g.es.length ≤ 100)
    (h2 : st.H qm = .box 91 1 [.mp q]) (h3 : st.H qb = .box 41 3 (mpL b)) (h4 : st.H q = .map false [.u32] MM) (hq : q < st.next) (hI : InM MM I) :
    ACalls Tryz.prog 98 [u v, u d, .pt qb 0, .pt qm 0] st fun r st' => r = u (aheadW b v d I) ∧ st' = st :=
  acalls_tidy (Q := fun r => r = u (aheadW b v d I)) (Diff_1K b hb v d I qb qm q MM st hvb heb h2 h3 h4 hq hI) fun r h => by subst h; trivial
noncomputable def lit17 (m : Mp) : Bool := decide (m.g.es.length ≤ 30) && decide (m.rots.length ≤ 64) && decide (rright m = 0)

end Go.Proofs.YtjpnhjembncdkaaGreat.Aw

namespace Go.Proofs.YtjpnhjembncdkaaGreat.Aw
open Go Go.RowKit Go.Proofs.YtjpnhjembncdkaaGreat.Pl
set_option linter.unusedSimpArgs false
set_option linter.unusedVariables false

theorem z0_sps (l : List Sp) : z0L (sps l) = sps l := by
  rw [z0L_map]
  induction l with
  | nil => rfl
  | cons e l ih => simp only [sps, List.flatMap_cons, List.map_append] at ih ⊢; rw [ih]; rfl
theorem sps_snoc (l : List Sp) (s : Sp) : sps (l ++ [s]) = sps l ++ spL s := by simp [sps]
theorem gone_take (a : Mp) (K : List Int) (j : Nat) (hj : j < a.g.es.length) : ((a.g.es.take (j + 1)).filter fun x => decide (x.id ∉ K)).map (fun x => (⟨4, x.id, 0, 0, 0, 0⟩ : Sp)) = ((a.g.es.take j).filter fun x => decide (x.id ∉ K)).map (fun x => (⟨4, x.id, 0, 0, 0, 0⟩ : Sp)) ++ (if (a.g.es.getD j ed0).id ∈ K then [] else [⟨4, (a.g.es.getD j ed0).id, 0, 0, 0, 0⟩]) := by
  rw [filter_takeE _ _ j hj]
  by_cases h : (a.g.es.getD j ed0).id ∈ K
  · rw [if_neg (by simpa using h), if_pos h]; simp
  · rw [if_pos (by simpa using h), if_neg h]; simp

theorem dfHas (g : Gr) (v : Int) (st : St) (hl : small g.vs) :
    ACalls Tryz.prog 45 [.ag (grL g), u v] st fun r st' => r = bb (decide (v ∈ g.vs)) ∧ st' = st :=
  acalls_tidy (Q := fun r => r = bb (decide (v ∈ g.vs))) (Has g v st hl) fun r h => by subst h; trivial
theorem vs_take (l L : List Int) (k : Int) (j : Nat) (hj : j < l.length) : ((l.take (j + 1)).filter fun v => decide (v ∉ L)).map (fun v => (⟨k, v, 0, 0, 0, 0⟩ : Sp)) = ((l.take j).filter fun v => decide (v ∉ L)).map (fun v => (⟨k, v, 0, 0, 0, 0⟩ : Sp)) ++ (if l.getD j 0 ∈ L then [] else [⟨k, l.getD j 0, 0, 0, 0, 0⟩]) := by
  rw [filter_takeI _ _ j hj]
  by_cases h : l.getD j 0 ∈ L
  · rw [if_neg (by simpa using h), if_pos h]; simp
  · rw [if_pos (by simpa using h), if_neg h]; simp

set_option maxHeartbeats 4000000 in
theorem dfDiffK (a b : Mp) (ha : MapOk a) (hb : MapOk b) (st : St) (hva : a.g.vs.length ≤ 100) (hea : a.g.es.length ≤ 100) (hvb : b.g.vs.length ≤ 100) (heb : b.g.es.length ≤ 100) :
    ACalls Tryz.prog 39 [.ag (mpL a), .ag (mpL b)] st fun r st' => r = .sl 0 (diffW a b (keptR a b)).length (sps (diffW a b (keptR a b))) ∧ Keeps st st' := by
  have hKl : (keptR a b).length ≤ a.g.es.length := by have := keepR_len a b a.g.es []; simpa [keptR] using this
  have hsK : small (keptR a b) := by unfold small; omega
  obtain ⟨K, hK⟩ : ∃ K, K = keptR a b := ⟨_, rfl⟩
  rw [← hK] at hKl hsK ⊢
  obtain ⟨G0, hG0⟩ : ∃ G0, G0 = diffW a b K := ⟨_, rfl⟩
  rw [← hG0]
  refine acalls_z0 ?_
  refine acalls_of_body tabOk Tryz.func39 rfl rfl Tryz.ntmps39 (rs := [.tmp 4]) rfl (by simp) ?_
  refine awp_posG fun hpos => ?_
  (repeat' (first | refine awp_seq ?_ | (refine w_e [] ?_; intro J hJ; simp only []; simp []; (try (refine hJ _ _ ?_; clear hJ J; simp only [ak, reduceIte])))))
  refine callK_ofE (dfKept a b ha hb _ hva hea hvb heb) (by simp) ?_; rintro r s1 ⟨rfl, h1⟩
  rw [h1, ← hK]; clear h1 s1
  (repeat' (first | refine awp_seq ?_ | refine awp_block ?_ | ((first | (refine w_e [] ?_; intro J hJ; simp only []) | (refine e_go ?_)); simp []; (refine hJ _ _ ?_; clear hJ J; simp only [ak, reduceIte]))))
  refine awp_own 6 47 6 (by simp) ?_
  refine awp_range 23 22 24 38 (a.g.es.length) (fun j fr st2 => fr 2 = .pt st.next 0 ∧ fr 3 = .pt (st.next + 1) 0 ∧ fr 5 = .sl 0 K.length (us K) ∧ fr 21 = .sl 0 a.g.es.length (eds a.g.es) ∧ st2.H st.next = .box 41 3 (mpL a) ∧ st2.H (st.next + 1) = .box 41 3 (mpL b) ∧ Keeps st st2 ∧ ∃ tt O, O = ((a.g.es.take j).filter fun x => decide (x.id ∉ K)).map (fun x => (⟨4, x.id, 0, 0, 0, 0⟩ : Sp)) ∧ O.length ≤ j ∧ fr 6 = .sl tt O.length (sps O) ∧ st2.H tt = .own 47 6 O.length ∧ st.next + 1 < tt ∧ tt < st2.next) ?_ ?_ ?_
  · exact ⟨by simp, by simp, by simp, by simp, by simp, by simp, ((Keeps.new _ _).trans (Keeps.new _ _)).trans (Keeps.new _ _), st.next + 2, [], by simp, by simp, by simp [sps], by simp, by omega, by simp⟩
  · rintro j fr s hlt ⟨f2, f3, f5, f21, hG, hG2, hkp, tt, O, hO1, hOl, f6, hO, lt, ut⟩ fi fn JO hJO
    have hd := eds_drop a.g.es j hlt
    have hel := eds_length a.g.es
    have hj3 : j * 3 < a.g.es.length * 3 := by omega
    have hst := gone_take a K j hlt
    rw [← hO1] at hst
    simp only [hst] at hJO
    clear hst hO1
    generalize a.g.es.getD j ed0 = x at *
    obtain ⟨d, p, q⟩ := x
    simp only at hd hJO
    have hol := sps_length O
    have e1 : ¬ st.next = s.next := by omega
    have e2 : ¬ st.next + 1 = s.next := by omega
    have e3 : ¬ tt = s.next := by omega
    have e4 : ¬ tt = 0 := by omega
    have e5 : ¬ tt = s.next + 1 := by omega
    (repeat' (first | refine awp_seq ?_ | (refine w_e [] ?_; intro J hJ; simp only []; simp [f5, f21, fi, fn, hd, hlt, hel, hj3]; (try (refine hJ _ _ ?_; clear hJ J; simp only [ak, reduceIte])))))
    refine callK_ofE (Find K 0 d _ hsK) (by simp) ?_; rintro r s1 ⟨rfl, h1⟩
    rw [h1]; clear h1 s1
    by_cases hin : d ∈ K
    · have hge : ¬ gi K d < 0 := fun h => (gi_neg K d).1 h hin
      rw [if_pos hin] at hJO
      generalize gi K d = gg at *
      (repeat' (first | (refine awp_skip ?_; simp only [ak, reduceIte]) | (refine awp_cond ?_; simp [hge]) | (refine e_go ?_; simp [hge]; (refine hJ _ _ ?_; clear hJ J; simp only [ak, reduceIte]))))
      exact hJO _ _ (by simp [fi]) (by simp [fn]) ⟨by simp [f2], by simp [f3], by simp [f5], by simp [f21], by simp [e1, hG], by simp [e2, hG2], hkp.trans (Keeps.new _ _), tt, O, by simp, by omega, by simp [f6], by simp [e3, hO], lt, by simp; omega⟩
    · have hge : gi K d < 0 := (gi_neg K d).2 hin
      rw [if_neg hin] at hJO
      generalize gi K d = gg at *
      (repeat' (first | (refine awp_cond ?_; simp [hge, f6, hO, e3, e4, e5, hol]) | ((first | (refine w_e [] ?_; intro J hJ; simp only []) | (refine e_go ?_)); simp [hge, f6, hO, e3, e4, e5, hol]; (repeat refine ca ?_); (refine hJ _ _ ?_; clear hJ J; simp only [ak, reduceIte]))))
      refine hJO _ _ (by simp [fi]) (by simp [fn]) ⟨by simp [f2], by simp [f3], by simp [f5], by simp [f21], by simp [e1, show ¬ st.next = s.next + 1 by omega, show ¬ st.next = s.next + 1 + 1 by omega, show ¬ st.next = tt by omega, hG], by simp [e1, e2, show ¬ st.next = s.next + 1 by omega, show ¬ st.next + 1 = tt by omega, hG2], ?_, s.next + 1 + 1, _, rfl, by simp; omega, by simp [sps_snoc, spL], by simp, by omega, by simp⟩
      (repeat (first | exact hkp | (refine Keeps.trans ?_ (Keeps.new _ _)) | (refine Keeps.set ?_ (by omega) _)))
  rintro fr s ⟨f2, f3, f5, f21, hG, hG2, hkp, tt, O, hO1, hOl, f6, hO, lt, ut⟩
  rw [List.take_length] at hO1
  clear f21
  (repeat' (first | refine awp_seq ?_ | refine awp_block ?_ | (refine w_e [] ?_; intro J hJ; simp only []; simp [f2, hG]; (refine hJ _ _ ?_; clear hJ J; simp only [ak, reduceIte]))))
  refine awp_range 43 42 44 57 (a.g.vs.length) (fun j fr st2 => fr 2 = .pt st.next 0 ∧ fr 3 = .pt (st.next + 1) 0 ∧ fr 5 = .sl 0 K.length (us K) ∧ fr 41 = .sl 0 a.g.vs.length (us a.g.vs) ∧ st2.H st.next = .box 41 3 (mpL a) ∧ st2.H (st.next + 1) = .box 41 3 (mpL b) ∧ Keeps st st2 ∧ ∃ tt O, O = gone a K ++ ((a.g.vs.take j).filter fun v => decide (v ∉ b.g.vs)).map (fun v => (⟨2, v, 0, 0, 0, 0⟩ : Sp)) ∧ O.length ≤ a.g.es.length + j ∧ fr 6 = .sl tt O.length (sps O) ∧ st2.H tt = .own 47 6 O.length ∧ st.next + 1 < tt ∧ tt < st2.next) ?_ ?_ ?_
  · exact ⟨by simp [f2], by simp [f3], by simp [f5], by simp, hG, hG2, hkp, tt, O, by rw [hO1]; simp [gone], by omega, by simp [f6], hO, lt, ut⟩
  · clear f2 f3 f5 f6 hG hG2 hkp hO lt ut hO1 hOl fr s tt O
    rintro j fr s hlt ⟨f2, f3, f5, fs, hG, hG2, hkp, tt, O, hO1, hOl, f6, hO, lt, ut⟩ fi fn JO hJO
    have hd := us_drop_getD a.g.vs j hlt
    have hst := vs_take a.g.vs b.g.vs 2 j hlt
    simp only [hst, ← List.append_assoc, ← hO1] at hJO
    clear hst hO1
    generalize a.g.vs.getD j 0 = v at *
    have hol := sps_length O
    have e1 : ¬ st.next = s.next := by omega
    have e2 : ¬ st.next + 1 = s.next := by omega
    have e3 : ¬ tt = s.next := by omega
    have e4 : ¬ tt = 0 := by omega
    have e5 : ¬ tt = s.next + 1 := by omega
    (repeat' (first | refine awp_seq ?_ | (refine w_e [] ?_; intro J hJ; simp only []; simp [f3, fs, fi, fn, hd, hlt, hG, hG2]; (try (refine hJ _ _ ?_; clear hJ J; simp only [ak, reduceIte])))))
    refine callK_ofE (dfHas b.g v _ (by unfold small; omega)) (by simp) ?_; rintro r s1 ⟨rfl, h1⟩
    rw [h1]; clear h1 s1
    by_cases hin : v ∈ b.g.vs
    · rw [if_pos hin, List.append_nil] at hJO
      rw [decide_eq_true hin]
      (repeat' (first | (refine awp_skip ?_; simp only [ak, reduceIte]) | (refine awp_cond ?_; simp []) | (refine e_go ?_; simp []; (refine hJ _ _ ?_; clear hJ J; simp only [ak, reduceIte]))))
      exact hJO _ _ (by simp [fi]) (by simp [fn]) ⟨by simp [f2], by simp [f3], by simp [f5], by simp [fs], hG, hG2, hkp, tt, O, rfl, by omega, by simp [f6], hO, lt, ut⟩
    · rw [if_neg hin] at hJO
      rw [decide_eq_false hin]
      (repeat' (first | (refine awp_cond ?_; simp [f6, hO, e3, e4, e5, hol]) | ((first | (refine w_e [] ?_; intro J hJ; simp only []) | (refine e_go ?_)); simp [f6, hO, e3, e4, e5, hol]; (repeat refine ca ?_); (refine hJ _ _ ?_; clear hJ J; simp only [ak, reduceIte]))))
      refine hJO _ _ (by simp [fi]) (by simp [fn]) ⟨by simp [f2], by simp [f3], by simp [f5], by simp [fs], by simp [e1, show ¬ st.next = s.next + 1 by omega, show ¬ st.next = tt by omega, hG], by simp [e1, e2, show ¬ st.next + 1 = tt by omega, hG2], ?_, s.next + 1, _, rfl, by simp; omega, by simp [sps_snoc, spL], by simp, by omega, by simp⟩
      (repeat (first | exact hkp | (refine Keeps.trans ?_ (Keeps.new _ _)) | (refine Keeps.set ?_ (by omega) _)))
  clear f2 f3 f5 f6 hG hG2 hkp hO lt ut hO1 hOl fr s tt O
  rintro fr s ⟨f2, f3, f5, fs, hG, hG2, hkp, tt, O, hO1, hOl, f6, hO, lt, ut⟩
  rw [List.take_length] at hO1
  clear fs
  (repeat' (first | refine awp_seq ?_ | refine awp_block ?_ | (refine w_e [] ?_; intro J hJ; simp only []; simp [f3, hG2]; (refine hJ _ _ ?_; clear hJ J; simp only [ak, reduceIte]))))
  refine awp_range 62 61 63 76 (b.g.vs.length) (fun j fr st2 => fr 2 = .pt st.next 0 ∧ fr 3 = .pt (st.next + 1) 0 ∧ fr 5 = .sl 0 K.length (us K) ∧ fr 60 = .sl 0 b.g.vs.length (us b.g.vs) ∧ st2.H st.next = .box 41 3 (mpL a) ∧ st2.H (st.next + 1) = .box 41 3 (mpL b) ∧ Keeps st st2 ∧ ∃ tt O, O = (gone a K ++ lessV a b) ++ ((b.g.vs.take j).filter fun v => decide (v ∉ a.g.vs)).map (fun v => (⟨1, v, 0, 0, 0, 0⟩ : Sp)) ∧ O.length ≤ a.g.es.length + a.g.vs.length + j ∧ fr 6 = .sl tt O.length (sps O) ∧ st2.H tt = .own 47 6 O.length ∧ st.next + 1 < tt ∧ tt < st2.next) ?_ ?_ ?_
  · exact ⟨by simp [f2], by simp [f3], by simp [f5], by simp, hG, hG2, hkp, tt, O, by rw [hO1]; simp [lessV], by omega, by simp [f6], hO, lt, ut⟩
  · clear f2 f3 f5 f6 hG hG2 hkp hO lt ut hO1 hOl fr s tt O
    rintro j fr s hlt ⟨f2, f3, f5, fs, hG, hG2, hkp, tt, O, hO1, hOl, f6, hO, lt, ut⟩ fi fn JO hJO
    have hd := us_drop_getD b.g.vs j hlt
    have hst := vs_take b.g.vs a.g.vs 1 j hlt
    simp only [hst, ← List.append_assoc, ← hO1] at hJO
    clear hst hO1
    generalize b.g.vs.getD j 0 = v at *
    have hol := sps_length O
    have e1 : ¬ st.next = s.next := by omega
    have e2 : ¬ st.next + 1 = s.next := by omega
    have e3 : ¬ tt = s.next := by omega
    have e4 : ¬ tt = 0 := by omega
    have e5 : ¬ tt = s.next + 1 := by omega
    (repeat' (first | refine awp_seq ?_ | (refine w_e [] ?_; intro J hJ; simp only []; simp [f2, fs, fi, fn, hd, hlt, hG, hG2]; (try (refine hJ _ _ ?_; clear hJ J; simp only [ak, reduceIte])))))
    refine callK_ofE (dfHas a.g v _ (by unfold small; omega)) (by simp) ?_; rintro r s1 ⟨rfl, h1⟩
    rw [h1]; clear h1 s1
    by_cases hin : v ∈ a.g.vs
    · rw [if_pos hin, List.append_nil] at hJO
      rw [decide_eq_true hin]
      (repeat' (first | (refine awp_skip ?_; simp only [ak, reduceIte]) | (refine awp_cond ?_; simp []) | (refine e_go ?_; simp []; (refine hJ _ _ ?_; clear hJ J; simp only [ak, reduceIte]))))
      exact hJO _ _ (by simp [fi]) (by simp [fn]) ⟨by simp [f2], by simp [f3], by simp [f5], by simp [fs], hG, hG2, hkp, tt, O, rfl, by omega, by simp [f6], hO, lt, ut⟩
    · rw [if_neg hin] at hJO
      rw [decide_eq_false hin]
      (repeat' (first | (refine awp_cond ?_; simp [f6, hO, e3, e4, e5, hol]) | ((first | (refine w_e [] ?_; intro J hJ; simp only []) | (refine e_go ?_)); simp [f6, hO, e3, e4, e5, hol]; (repeat refine ca ?_); (refine hJ _ _ ?_; clear hJ J; simp only [ak, reduceIte]))))
      refine hJO _ _ (by simp [fi]) (by simp [fn]) ⟨by simp [f2], by simp [f3], by simp [f5], by simp [fs], by simp [e1, show ¬ st.next = s.next + 1 by omega, show ¬ st.next = tt by omega, hG], by simp [e1, e2, show ¬ st.next + 1 = tt by omega, hG2], ?_, s.next + 1, _, rfl, by simp; omega, by simp [sps_snoc, spL], by simp, by omega, by simp⟩
      (repeat (first | exact hkp | (refine Keeps.trans ?_ (Keeps.new _ _)) | (refine Keeps.set ?_ (by omega) _)))
  clear f2 f3 f5 f6 hG hG2 hkp hO lt ut hO1 hOl fr s tt O
  rintro fr s ⟨f2, f3, f5, fs, hG, hG2, hkp, tt, O, hO1, hOl, f6, hO, lt, ut⟩
  rw [List.take_length] at hO1
  clear fs
  have hone := us_one K
  have b1 : ¬ st.next + 1 = s.next := by omega
  have b2 : ¬ st.next + 1 = s.next + 1 := by omega
  have b3 : ¬ st.next = s.next := by omega
  (repeat' (first | refine awp_seq ?_ | refine awp_block ?_ | (refine w_e [] ?_; intro J hJ; simp only []; simp [f5, hone, f3, hG2, b1, b2, b3]; (repeat refine ca ?_); (refine hJ _ _ ?_; clear hJ J; simp only [ak, reduceIte]))))
  refine awp_range 84 83 85 127 (b.g.es.length) (fun j fr st2 => fr 3 = .pt (st.next + 1) 0 ∧ fr 5 = .sl 0 K.length (us K) ∧ fr 82 = .sl 0 b.g.es.length (eds b.g.es) ∧ st2.H (st.next + 1) = .box 41 3 (mpL b) ∧ Keeps st st2 ∧ ∃ tt tk S, S = (b.g.es.take j).foldl (link1 b K) ⟨K, []⟩ ∧ S.out.length ≤ j ∧ S.T.length ≤ K.length + j ∧ fr 13 = .sl tk S.T.length (us S.T) ∧ st2.H tk = .own 32 1 S.T.length ∧ fr 6 = .sl tt (O.length + S.out.length) (sps (O ++ S.out)) ∧ st2.H tt = .own 47 6 (O.length + S.out.length) ∧ st.next + 1 < tt ∧ tt < st2.next ∧ st.next + 1 < tk ∧ tk < st2.next ∧ tt ≠ tk) ?_ ?_ ?_
  · refine ⟨by simp [f3], by simp [f5], by simp, by simp [b1, b2, b3, hG2], (hkp.trans (Keeps.new _ _)).trans (Keeps.new _ _), tt, s.next + 1, ⟨K, []⟩, by simp, by simp, by simp, by simp, by simp, by simp [f6], by simp [show ¬ tt = s.next by omega, show ¬ tt = s.next + 1 by omega, hO], lt, by simp; omega, by omega, by simp, by omega⟩
  · clear f2 f3 f5 f6 hG hG2 hkp hO lt ut b1 b2 b3 fr s tt
    rintro j fr s hlt ⟨f3, f5, f82, hG2, hkp, tt, tk, S, hS, hS1, hS2, f13, hT, f6, hO, l1, l2, l3, l4, hne⟩ fi fn JO hJO
    have hd := eds_drop b.g.es j hlt
    have hel := eds_length b.g.es
    have hj3 : j * 3 < b.g.es.length * 3 := by omega
    have hxin : b.g.es.getD j ed0 ∈ b.g.es := by rw [getE_lt _ _ hlt]; exact List.getElem_mem hlt
    have hst := foldl_takeE (link1 b K) ⟨K, []⟩ b.g.es j hlt
    rw [← hS] at hst
    simp only [hst] at hJO
    clear hst hS
    generalize b.g.es.getD j ed0 = x at *
    have hx1 := hb.g.pos x hxin
    obtain ⟨d, p, q⟩ := x
    obtain ⟨T, out⟩ := S
    simp only at hd hx1 hS1 hS2 f13 hT f6 hO
    have e2 : ¬ st.next + 1 = s.next := by omega
    have e3 : ¬ tt = s.next := by omega
    have e6 : ¬ tk = s.next := by omega
    (repeat' (first | refine awp_seq ?_ | (refine w_e [] ?_; intro J hJ; simp only []; simp [f5, f82, fi, fn, hd, hlt, hel, hj3]; (try (refine hJ _ _ ?_; clear hJ J; simp only [ak, reduceIte])))))
    refine callK_ofE (Find K 0 d _ hsK) (by simp) ?_; rintro r s1 ⟨rfl, h1⟩
    rw [h1]; clear h1 s1
    by_cases hin : d ∈ K
    · have hge : (0 : Int) ≤ gi K d := Int.not_lt.1 fun h => (gi_neg K d).1 h hin
      have hge' : ¬ gi K d < 0 := fun h => (gi_neg K d).1 h hin
      have hlk : link1 b K ⟨T, out⟩ ⟨d, p, q⟩ = ⟨T, out⟩ := by unfold link1; rw [if_pos hin]
      rw [hlk] at hJO
      generalize gi K d = gg at *
      (repeat' (first | (refine awp_exit ?_; simp only [ak, reduceIte]) | (refine awp_cond ?_; simp [hge, hge']) | (refine e_go ?_; simp [hge, hge']; (refine hJ _ _ ?_; clear hJ J; simp only [ak, reduceIte]))))
      exact hJO _ _ (by simp [fi]) (by simp [fn]) ⟨by simp [f3], by simp [f5], by simp [f82], by simp [e2, hG2], hkp.trans (Keeps.new _ _), tt, tk, ⟨T, out⟩, rfl, by simp; omega, by simp; omega, by simp [f13], by simp [e6, hT], by simp [f6], by simp [e3, hO], l1, by simp; omega, l3, by simp; omega, hne⟩
    · have hge' : gi K d < 0 := (gi_neg K d).2 hin
      have hge : ¬ (0 : Int) ≤ gi K d := by omega
      have hlk : link1 b K ⟨T, out⟩ ⟨d, p, q⟩ = ⟨T ++ [d], out ++ [⟨3, d, p, q, aheadW b p (2 * d) (T ++ [d]), aheadW b q (2 * d + 1) (T ++ [d])⟩]⟩ := by unfold link1; rw [if_neg hin]
      rw [hlk] at hJO
      have hmd := tn_dart hb hxin (T := T ++ [d]) (by simp)
      have a1 := ahead_same hb hmd.1
      have a2 := ahead_same hb hmd.2
      simp only at a1 a2
      have hTs : small (T ++ [d]) := by unfold small; simp; omega
      have n1 : small (nrm (tnW b p (T ++ [d]))) := by have := tnW_len hb p (T ++ [d]); unfold small; rw [nrm_length]; omega
      have n2 : small (nrm (tnW b q (T ++ [d]))) := by have := tnW_len hb q (T ++ [d]); unfold small; rw [nrm_length]; omega
      have w1 : IntKind.u32.wrap (2 * d) = 2 * d := wrap_u32' _ (by omega) (by omega)
      have w2 : IntKind.u32.wrap (2 * d + 1) = 2 * d + 1 := wrap_u32' _ (by omega) (by omega)
      have e4 : ¬ tk = 0 := by omega
      have e5 : ¬ tk = s.next + 1 := by omega
      have e7 : ¬ tk = s.next + 2 := by omega
      generalize gi K d = gg at *
      (repeat' (first | refine awp_seq ?_ | (refine awp_skip ?_; simp only [ak, reduceIte]) | (refine awp_cond ?_; simp [hge, hge', f13, hT, e4, e5, e6, e7]) | ((first | (refine w_e [] ?_; intro J hJ; simp only []) | (refine e_go ?_)); simp [hge, hge', f13, hT, e4, e5, e6, e7]; (repeat refine ca ?_); (refine hJ _ _ ?_; clear hJ J; simp only [ak, reduceIte]))))
      have c1 : ¬ st.next + 1 = s.next + 1 := by omega
      have c2 : ¬ st.next + 1 = tk := by omega
      have c3 : ¬ s.next = tk := by omega
      have c4 : ¬ st.next = s.next := by omega
      have c5 : ¬ st.next = s.next + 1 := by omega
      (refine w_s [] [st.next + 1, s.next] [(0, true), (1, true), (2, true), (3, true), (4, true), (5, true), (6, true), (7, true), (8, true), (9, true), (10, true), (12, true), (13, true), (14, true), (16, true), (17, true), (18, true), (19, true), (21, true), (22, true), (23, true), (24, true), (11, true), (15, true), (20, true), (25, true), (26, true), (27, true), (28, true), (29, true)] ?_; intro J hJ; simp [f6, f3, hG2, e2, c1, c2, c3, c4, c5, w1, w2])
      refine dcallK_ofE (dfTurn b hb p (T ++ [d]) (s.next + 1 + 1) _ hvb heb hTs) (by simp [nrm_length]) ?_; rintro r s1 ⟨rfl, h1⟩
      rw [h1]; clear h1 s1
      refine ⟨fun h => by first | (cases h; done) | simp [f3, hG2, e2, c1, c2, c3, c4, c5, w1, w2], ?_⟩
      (refine d_go ?_; simp [f3, hG2, e2, c1, c2, c3, c4, c5, w1, w2])
      refine dcallK_ofE (refAhead (nrm (tnW b p (T ++ [d]))) 0 (2 * d) _ n1) (by simp [nrm_length]) ?_; rintro r s1 ⟨rfl, h1⟩
      rw [h1]; clear h1 s1
      refine ⟨fun h => by first | (cases h; done) | simp [f3, hG2, e2, c1, c2, c3, c4, c5, w1, w2], ?_⟩
      (refine d_go ?_; simp [f3, hG2, e2, c1, c2, c3, c4, c5, w1, w2])
      refine dcallK_ofE (dfTurn b hb q (T ++ [d]) (s.next + 1 + 1) _ hvb heb hTs) (by simp [nrm_length]) ?_; rintro r s1 ⟨rfl, h1⟩
      rw [h1]; clear h1 s1
      refine ⟨fun h => by first | (cases h; done) | simp [f3, hG2, e2, c1, c2, c3, c4, c5, w1, w2], ?_⟩
      (refine d_go ?_; simp [f3, hG2, e2, c1, c2, c3, c4, c5, w1, w2])
      refine dcallK_ofE (refAhead (nrm (tnW b q (T ++ [d]))) 0 (2 * d + 1) _ n2) (by simp [nrm_length]) ?_; rintro r s1 ⟨rfl, h1⟩
      rw [h1]; clear h1 s1
      refine ⟨fun h => by first | (cases h; done) | simp [f3, hG2, e2, c1, c2, c3, c4, c5, w1, w2], ?_⟩
      have hol := sps_length (O ++ out)
      rw [List.length_append] at hol
      unfold aheadR at a1 a2
      have d1 : ¬ tt = s.next + 1 := by omega
      have d2 : ¬ tt = s.next + 1 + 1 := by omega
      have d3 : ¬ tt = s.next + 1 + 1 + 1 := by omega
      have d4 : ¬ tt = 0 := by omega
      have d5 : ¬ st.next = s.next + 3 := by omega
      have d6 : ¬ st.next = s.next + 2 := by omega
      have d7 : ¬ st.next + 1 = tt := by omega
      have d8 : ¬ s.next = tt := by omega
      (refine d_go ?_; simp [a1, a2, hO, e2, e3, d1, d2, d3, d4, d5, d6, d7, d8, c1, c2, c3, c4, c5, hne, hol, hG2]; (repeat refine ca ?_); (refine hJ _ _ ?_; clear hJ J; simp only [ak, reduceIte]))
      refine hJO _ _ (by simp [fi]) (by simp [fn]) ⟨by simp [f3], by simp [f5], by simp [f82], by simp [hG2, e2, c1, c2, c3, c4, c5, d5, d6, d7], ?_, s.next + 1 + 1 + 1 + 1, s.next + 1 + 1, _, rfl, by simp; omega, by simp; omega, by simp, ?_, ?_, by simp; omega, by omega, by simp, by omega, by simp, by omega⟩
      · (repeat (first | exact hkp | (refine Keeps.trans ?_ (Keeps.new _ _)) | (refine Keeps.set ?_ (by omega) _)))
      · simp [show ¬ s.next + 1 + 1 = tt by omega]
      · simp [List.append_assoc, sps_snoc, spL, ← List.append_assoc]; omega
  · rintro fr s2 ⟨f3, f5, f82, hG2', hkp', tt', tk, S, hS, hS1, hS2, f13, hT, f6', hO', l1, l2, l3, l4, hne⟩
    rw [List.take_length] at hS
    have hfin : O ++ S.out = G0 := by
      rw [hG0, hO1, hS]; simp [diffW, moreV, links]
    have hfl : O.length + S.out.length = G0.length := by rw [← hfin, List.length_append]
    rw [hfin, hfl] at f6'
    (repeat' (first | refine awp_seq ?_ | (refine awp_ret ?_; simp only [ak, reduceIte]; simp [f6']) | (refine w_e [] ?_; intro J hJ; simp only []; simp [f6']; (refine hJ _ _ ?_; clear hJ J; simp only [ak, reduceIte]))))
    exact ⟨by simp [z0, z0_sps], hkp'⟩

end Go.Proofs.YtjpnhjembncdkaaGreat.Aw

namespace Go.Proofs.YtjpnhjembncdkaaGreat.Aw
open Go Go.RowKit Go.Proofs.YtjpnhjembncdkaaGreat.Pl
set_option linter.unusedSimpArgs false
set_option linter.unusedVariables false

theorem stp_bel (n : Nat) (k a b c d e : Int) : bel n (stp k a b c d e) := by simp [stp, bel, belL]
theorem Link' (x : Ed) (pa pb : Int) (st : St) : ACalls Tryz.prog 24 [.ag (edL x), u pa, u pb] st fun r st' => r = stp 3 x.id x.a x.b pa pb ∧ st' = st :=
  acalls_tidy (Q := fun r => r = stp 3 x.id x.a x.b pa pb) (Link x pa pb st) fun r h => by subst h; exact stp_bel _ _ _ _ _ _ _
theorem NoLink' (n : Int) (st : St) : ACalls Tryz.prog 95 [u n] st fun r st' => r = stp 4 n 0 0 0 0 ∧ st' = st :=
  acalls_tidy (Q := fun r => r = stp 4 n 0 0 0 0) (NoLink n st) fun r h => by subst h; exact stp_bel _ _ _ _ _ _ _
theorem Vertex' (n : Int) (st : St) : ACalls Tryz.prog 74 [u n] st fun r st' => r = stp 1 n 0 0 0 0 ∧ st' = st :=
  acalls_tidy (Q := fun r => r = stp 1 n 0 0 0 0) (Vertex n st) fun r h => by subst h; exact stp_bel _ _ _ _ _ _ _
theorem NoVertex' (n : Int) (st : St) : ACalls Tryz.prog 97 [u n] st fun r st' => r = stp 2 n 0 0 0 0 ∧ st' = st :=
  acalls_tidy (Q := fun r => r = stp 2 n 0 0 0 0) (NoVertex n st) fun r h => by subst h; exact stp_bel _ _ _ _ _ _ _
theorem belL_sps (n : Nat) (l : List Sp) : belL n (sps l) := by
  induction l with
  | nil => trivial
  | cons x l ih => simp only [sps, List.flatMap_cons] at ih ⊢; exact ⟨trivial, trivial, trivial, trivial, trivial, trivial, ih⟩
theorem dOf0 (d : Int) (st : St) (h0 : 1 ≤ d ∧ d ≤ 1048576) : ACalls Tryz.prog 82 [u d, i 0] st fun r st' => r = u (2 * d) ∧ st' = st :=
  (dOf d 0 st (by omega) h0.2 (.inl rfl)).mono fun r s h => by rw [show 2 * d + 0 = 2 * d by omega] at h; exact h
theorem dOf1 (d : Int) (st : St) (h0 : 1 ≤ d ∧ d ≤ 1048576) : ACalls Tryz.prog 82 [u d, i 1] st fun r st' => r = u (2 * d + 1) ∧ st' = st := dOf d 1 st (by omega) h0.2 (.inr rfl)
theorem link_out {b : Mp} (hb : MapOk b) (K : List Int) (j : Nat) (hj : j < b.g.es.length) : (b.g.es.getD j ed0).id ∈ ((b.g.es.take j).foldl (link1 b K) ⟨K, []⟩).T ↔ (b.g.es.getD j ed0).id ∈ K := by
  have mono : ∀ (l : List Ed) (S : Lk), ∀ y ∈ S.T, y ∈ (l.foldl (link1 b K) S).T := by
    intro l
    induction l with
    | nil => intro S y h; exact h
    | cons x l ih =>
      intro S y h
      rw [List.foldl_cons]
      refine ih _ _ ?_
      unfold link1
      split
      · exact h
      · exact List.mem_append_left _ h
  constructor
  · intro h
    rcases link_mem K _ _ _ h with h1 | ⟨x, hx, h1⟩
    · exact h1
    · exfalso
      obtain ⟨i, hi, rfl⟩ := List.getElem_of_mem hx
      rw [List.length_take] at hi
      rw [List.getElem_take, getE_lt _ _ hj] at h1
      have := List.pairwise_iff_getElem.1 hb.g.ids i j (by omega) hj (by omega)
      omega
  · exact mono _ ⟨K, []⟩ _

set_option maxHeartbeats 4000000 in
theorem dDiffK (a b : Mp) (ha : MapOk a) (hb : MapOk b) (st : St) (hva : a.g.vs.length ≤ 100) (hea : a.g.es.length ≤ 100) (hvb : b.g.vs.length ≤ 100) (heb : b.g.es.length ≤ 100) :
    ACalls Tryz.prog 38 [.ag (mpL a), .ag (mpL b)] st fun r st' => r = .sl 0 (diffW a b (keptW a b)).length (sps (diffW a b (keptW a b))) ∧ Keeps st st' := by
  have hKl : (keptW a b).length ≤ a.g.es.length := by have := keep1_len a b a.g.es []; simpa [keptW] using this
  obtain ⟨K, hK⟩ : ∃ K, K = keptW a b := ⟨_, rfl⟩
  rw [← hK] at hKl ⊢
  obtain ⟨G0, hG0⟩ : ∃ G0, G0 = diffW a b K := ⟨_, rfl⟩
  rw [← hG0]
  refine acalls_z0 ?_
  refine acalls_of_body tabOk Tryz.func38 rfl rfl Tryz.ntmps38 (rs := [.tmp 4]) rfl (by simp) ?_
  refine awp_posG fun hpos => ?_
  (repeat' (first | refine awp_seq ?_ | (refine w_e [] ?_; intro J hJ; simp only []; simp []; (try (refine hJ _ _ ?_; clear hJ J; simp only [ak, reduceIte])))))
  refine callK_ofE (KeptD a b ha hb _ hva hea hvb heb) (by simp) ?_; rintro r s1 ⟨rfl, h1⟩
  rw [h1, ← hK]; clear h1 s1
  (repeat' (first | refine awp_block ?_ | (refine e_go ?_; simp []; (refine hJ _ _ ?_; clear hJ J; simp only [ak, reduceIte]))))
  refine awp_range 25 24 26 31 (K.length) (fun j fr st2 => fr 2 = .pt st.next 0 ∧ fr 3 = .pt (st.next + 1) 0 ∧ fr 5 = .pt (st.next + 3) 0 ∧ fr 23 = .sl 0 K.length (us K) ∧ st2.H st.next = .box 41 3 (mpL a) ∧ st2.H (st.next + 1) = .box 41 3 (mpL b) ∧ st2.H (st.next + 3) = .box 91 1 [.mp (st.next + 2)] ∧ Keeps st st2 ∧ st.next + 3 < st2.next ∧ ∃ MM, st2.H (st.next + 2) = .map false [.u32] MM ∧ InM MM (K.take j)) ?_ ?_ ?_
  · refine ⟨by simp, by simp, by simp, by simp, by simp, by simp, by simp, ?_, by simp, [], by simp, fun x => by simp [mget]⟩
    (repeat (first | exact Keeps.refl _ | (refine Keeps.trans ?_ (Keeps.new _ _)) | (refine Keeps.set ?_ (by first | omega | (simp; done) | (simp; omega)) _)))
  · rintro j fr s hlt ⟨f2, f3, f5, f23, hG, hG2, hB, hkp, hsn, MM, hM, hI⟩ fi fn JO hJO
    have hd := us_drop_getD K j hlt
    have htk : K.take (j + 1) = K.take j ++ [K.getD j 0] := by rw [List.take_succ_eq_append_getElem hlt, getD_lt _ _ hlt]
    simp only [htk] at hJO
    have hI2 := hI.add (K.getD j 0)
    generalize K.getD j 0 = v at *
    (repeat' (first | refine awp_seq ?_ | (refine w_e [] ?_; intro J hJ; simp only []; simp [f5, f23, fi, fn, hd, hlt, hB, hM]; (refine hJ _ _ ?_; clear hJ J; simp only [ak, reduceIte]))))
    exact hJO _ _ (by simp [fi]) (by simp [fn]) ⟨by simp [f2], by simp [f3], by simp [f5], by simp [f23], by simp [hG], by simp [hG2], by simp [hB], hkp.set (by omega) _, by simp; omega, _, by simp, hI2⟩
  rintro fr s ⟨f2, f3, f5, f23, hG, hG2, hB, hkp, hsn, MM, hM, hI⟩
  rw [List.take_length] at hI
  clear f23
  simp only [ak, reduceIte]
  (repeat (refine awp_seq ?_)); (refine w_e [] ?_; intro J hJ; simp only []; simp []; (refine hJ _ _ ?_; clear hJ J; simp only [ak, reduceIte]))
  refine awp_own 8 47 6 (by simp) ?_
  have a1 : ¬ st.next = s.next := by omega
  have a2 : ¬ st.next + 1 = s.next := by omega
  have a3 : ¬ st.next + 2 = s.next := by omega
  have a4 : ¬ st.next + 3 = s.next := by omega
  (repeat' (first | refine awp_seq ?_ | refine awp_block ?_ | (refine w_e [] ?_; intro J hJ; simp only []; simp [f2, hG, a1]; (refine hJ _ _ ?_; clear hJ J; simp only [ak, reduceIte]))))
  refine awp_range 36 35 37 51 (a.g.es.length) (fun j fr st2 => fr 2 = .pt st.next 0 ∧ fr 3 = .pt (st.next + 1) 0 ∧ fr 5 = .pt (st.next + 3) 0 ∧ fr 34 = .sl 0 a.g.es.length (eds a.g.es) ∧ st2.H st.next = .box 41 3 (mpL a) ∧ st2.H (st.next + 1) = .box 41 3 (mpL b) ∧ st2.H (st.next + 3) = .box 91 1 [.mp (st.next + 2)] ∧ Keeps st st2 ∧ st2.H (st.next + 2) = .map false [.u32] MM ∧ ∃ tt O, O = ((a.g.es.take j).filter fun x => decide (x.id ∉ K)).map (fun x => (⟨4, x.id, 0, 0, 0, 0⟩ : Sp)) ∧ O.length ≤ j ∧ fr 8 = .sl tt O.length (sps O) ∧ st2.H tt = .own 47 6 O.length ∧ st.next + 3 < tt ∧ tt < st2.next) ?_ ?_ ?_
  · exact ⟨by simp [f2], by simp [f3], by simp [f5], by simp, by simp [a1, hG], by simp [a2, hG2], by simp [a4, hB], hkp.trans (Keeps.new _ _), by simp [a3, hM], s.next, [], by simp, by simp, by simp [sps], by simp, by omega, by simp⟩
  · clear f2 f3 f5 hG hG2 hB hkp hsn hM a1 a2 a3 a4 fr s
    rintro j fr s hlt ⟨f2, f3, f5, fs, hG, hG2, hB, hkp, hM, tt, O, hO1, hOl, f8, hO, lt, ut⟩ fi fn JO hJO
    have hd := eds_drop a.g.es j hlt
    have hel := eds_length a.g.es
    have hj3 : j * 3 < a.g.es.length * 3 := by omega
    have hst := gone_take a K j hlt
    rw [← hO1] at hst
    simp only [hst] at hJO
    clear hst hO1
    generalize a.g.es.getD j ed0 = x at *
    obtain ⟨d, p, q⟩ := x
    simp only at hd hJO
    have hol := sps_length O
    have hId := hI d
    have e1 : ¬ st.next = s.next := by omega
    have e2 : ¬ st.next + 1 = s.next := by omega
    have e3 : ¬ st.next + 2 = s.next := by omega
    have e4 : ¬ st.next + 3 = s.next := by omega
    have e5 : ¬ tt = s.next := by omega
    have e6 : ¬ tt = 0 := by omega
    have e7 : ¬ tt = s.next + 1 := by omega
    by_cases hin : d ∈ K
    · have hmg := hId.1 hin
      rw [if_pos hin, List.append_nil] at hJO
      (repeat' (first | refine awp_seq ?_ | (refine awp_skip ?_; simp only [ak, reduceIte]) | (refine awp_cond ?_; simp [f5, fs, fi, fn, hd, hlt, hel, hj3, hB, hM, e3, e4, hmg]) | (refine w_e [] ?_; intro J hJ; simp only []; simp [f5, fs, fi, fn, hd, hlt, hel, hj3, hB, hM, e3, e4, hmg]; (refine hJ _ _ ?_; clear hJ J; simp only [ak, reduceIte]))))
      exact hJO _ _ (by simp [fi]) (by simp [fn]) ⟨by simp [f2], by simp [f3], by simp [f5], by simp [fs], by simp [e1, hG], by simp [e2, hG2], by simp [e4, hB], hkp.trans (Keeps.new _ _), by simp [e3, hM], tt, O, by simp, by omega, by simp [f8], by simp [e5, hO], lt, by simp; omega⟩
    · have hmg := hId.2 hin
      rw [if_neg hin] at hJO
      (repeat' (first | refine awp_seq ?_ | (refine awp_cond ?_; simp [f5, fs, fi, fn, hd, hlt, hel, hj3, hB, hM, e3, e4, hmg]) | (refine w_e [] ?_; intro J hJ; simp only []; simp [f5, fs, fi, fn, hd, hlt, hel, hj3, hB, hM, e3, e4, hmg]; (try (refine hJ _ _ ?_; clear hJ J; simp only [ak, reduceIte])))))
      refine callK_ofE (NoLink' d _) (by simp) ?_; rintro r s1 ⟨rfl, h1⟩
      rw [h1]; clear h1 s1
      (repeat' (refine e_go ?_; simp [f8, hO, e5, e6, e7, hol, stp]; (repeat refine ca ?_); (refine hJ _ _ ?_; clear hJ J; simp only [ak, reduceIte])))
      refine hJO _ _ (by simp [fi]) (by simp [fn]) ⟨by simp [f2], by simp [f3], by simp [f5], by simp [fs], by simp [e1, show ¬ st.next = s.next + 1 by omega, show ¬ st.next = s.next + 1 + 1 by omega, show ¬ st.next = tt by omega, hG], by simp [e1, e2, show ¬ st.next = s.next + 1 by omega, show ¬ st.next + 1 = tt by omega, hG2], by simp [e1, e2, e3, e4, show ¬ st.next + 1 = s.next by omega, show ¬ st.next + 2 = s.next by omega, show ¬ st.next + 3 = tt by omega, hB], ?_, by simp [e1, e2, e3, show ¬ st.next + 1 = s.next by omega, show ¬ st.next + 2 = tt by omega, hM], s.next + 1 + 1, _, rfl, by simp; omega, by simp [sps_snoc, spL], by simp, by omega, by simp⟩
      (repeat (first | exact hkp | (refine Keeps.trans ?_ (Keeps.new _ _)) | (refine Keeps.set ?_ (by omega) _)))
  clear f2 f3 f5 hG hG2 hB hkp hsn hM a1 a2 a3 a4 fr s
  rintro fr s ⟨f2, f3, f5, fs, hG, hG2, hB, hkp, hM, tt, O, hO1, hOl, f8, hO, lt, ut⟩
  rw [List.take_length] at hO1
  clear fs
  (repeat' (first | refine awp_seq ?_ | refine awp_block ?_ | (refine w_e [] ?_; intro J hJ; simp only []; simp [f2, hG]; (refine hJ _ _ ?_; clear hJ J; simp only [ak, reduceIte]))))
  refine awp_range 56 55 57 70 (a.g.vs.length) (fun j fr st2 => fr 2 = .pt st.next 0 ∧ fr 3 = .pt (st.next + 1) 0 ∧ fr 5 = .pt (st.next + 3) 0 ∧ fr 54 = .sl 0 a.g.vs.length (us a.g.vs) ∧ st2.H st.next = .box 41 3 (mpL a) ∧ st2.H (st.next + 1) = .box 41 3 (mpL b) ∧ st2.H (st.next + 3) = .box 91 1 [.mp (st.next + 2)] ∧ Keeps st st2 ∧ st2.H (st.next + 2) = .map false [.u32] MM ∧ ∃ tt O, O = gone a K ++ ((a.g.vs.take j).filter fun v => decide (v ∉ b.g.vs)).map (fun v => (⟨2, v, 0, 0, 0, 0⟩ : Sp)) ∧ O.length ≤ a.g.es.length + j ∧ fr 8 = .sl tt O.length (sps O) ∧ st2.H tt = .own 47 6 O.length ∧ st.next + 3 < tt ∧ tt < st2.next) ?_ ?_ ?_
  · exact ⟨by simp [f2], by simp [f3], by simp [f5], by simp, hG, hG2, hB, hkp, hM, tt, O, by rw [hO1]; simp [gone, lessV], by omega, by simp [f8], hO, lt, ut⟩
  · clear f2 f3 f5 f8 hG hG2 hB hkp hM hO lt ut hO1 hOl fr s tt O
    rintro j fr s hlt ⟨f2, f3, f5, fs, hG, hG2, hB, hkp, hM, tt, O, hO1, hOl, f8, hO, lt, ut⟩ fi fn JO hJO
    have hd := us_drop_getD a.g.vs j hlt
    have hst := vs_take a.g.vs b.g.vs 2 j hlt
    simp only [hst, ← List.append_assoc, ← hO1] at hJO
    clear hst hO1
    generalize a.g.vs.getD j 0 = v at *
    have hol := sps_length O
    have e5 : ¬ tt = s.next := by omega
    have e6 : ¬ tt = 0 := by omega
    have e7 : ¬ tt = s.next + 1 := by omega
    (repeat' (first | refine awp_seq ?_ | (refine w_e [] ?_; intro J hJ; simp only []; simp [f3, hG2, fs, fi, fn, hd, hlt]; (try (refine hJ _ _ ?_; clear hJ J; simp only [ak, reduceIte])))))
    refine callK_ofE (Vert' b.g v _ (by unfold small; omega)) (by simp) ?_; rintro r s1 ⟨rfl, h1⟩
    rw [h1]; clear h1 s1
    by_cases hin : v ∈ b.g.vs
    · have hge : ¬ gi b.g.vs v < 0 := fun h => (gi_neg _ v).1 h hin
      rw [if_pos hin, List.append_nil] at hJO
      generalize gi b.g.vs v = gg at *
      (repeat' (first | (refine awp_skip ?_; simp only [ak, reduceIte]) | (refine awp_cond ?_; simp [hge]) | (refine e_go ?_; simp [hge]; (refine hJ _ _ ?_; clear hJ J; simp only [ak, reduceIte]))))
      exact hJO _ _ (by simp [fi]) (by simp [fn]) ⟨by simp [f2], by simp [f3], by simp [f5], by simp [fs], hG, hG2, hB, hkp, hM, tt, O, rfl, by omega, by simp [f8], hO, lt, ut⟩
    · have hge : gi b.g.vs v < 0 := (gi_neg _ v).2 hin
      rw [if_neg hin] at hJO
      generalize gi b.g.vs v = gg at *
      (repeat' (first | (refine awp_cond ?_; simp [hge]) | ((first | (refine w_e [] ?_; intro J hJ; simp only []) | (refine e_go ?_)); simp [hge]; (try (refine hJ _ _ ?_; clear hJ J; simp only [ak, reduceIte])))))
      refine callK_ofE (NoVertex' v _) (by simp) ?_; rintro r s1 ⟨rfl, h1⟩
      rw [h1]; clear h1 s1
      (repeat' (refine e_go ?_; simp [f8, hO, e5, e6, e7, hol, stp]; (repeat refine ca ?_); (refine hJ _ _ ?_; clear hJ J; simp only [ak, reduceIte])))
      refine hJO _ _ (by simp [fi]) (by simp [fn]) ⟨by simp [f2], by simp [f3], by simp [f5], by simp [fs], by simp [show ¬ st.next = s.next by omega, show ¬ st.next = s.next + 1 by omega, show ¬ st.next = tt by omega, hG], by simp [show ¬ st.next = s.next by omega, show ¬ st.next + 1 = s.next by omega, show ¬ st.next + 1 = tt by omega, hG2], by simp [show ¬ st.next + 3 = s.next by omega, show ¬ st.next + 2 = s.next by omega, show ¬ st.next + 3 = tt by omega, hB], ?_, by simp [show ¬ st.next + 1 = s.next by omega, show ¬ st.next + 2 = s.next by omega, show ¬ st.next + 2 = tt by omega, hM], s.next + 1, _, rfl, by simp; omega, by simp [sps_snoc, spL], by simp, by omega, by simp⟩
      (repeat (first | exact hkp | (refine Keeps.trans ?_ (Keeps.new _ _)) | (refine Keeps.set ?_ (by omega) _)))
  clear f2 f3 f5 f8 hG hG2 hB hkp hM hO lt ut hO1 hOl fr s tt O
  rintro fr s ⟨f2, f3, f5, fs, hG, hG2, hB, hkp, hM, tt, O, hO1, hOl, f8, hO, lt, ut⟩
  rw [List.take_length] at hO1
  clear fs
  (repeat' (first | refine awp_seq ?_ | refine awp_block ?_ | (refine w_e [] ?_; intro J hJ; simp only []; simp [f3, hG2]; (refine hJ _ _ ?_; clear hJ J; simp only [ak, reduceIte]))))
  refine awp_range 75 74 76 89 (b.g.vs.length) (fun j fr st2 => fr 2 = .pt st.next 0 ∧ fr 3 = .pt (st.next + 1) 0 ∧ fr 5 = .pt (st.next + 3) 0 ∧ fr 73 = .sl 0 b.g.vs.length (us b.g.vs) ∧ st2.H st.next = .box 41 3 (mpL a) ∧ st2.H (st.next + 1) = .box 41 3 (mpL b) ∧ st2.H (st.next + 3) = .box 91 1 [.mp (st.next + 2)] ∧ Keeps st st2 ∧ st2.H (st.next + 2) = .map false [.u32] MM ∧ ∃ tt O, O = (gone a K ++ lessV a b) ++ ((b.g.vs.take j).filter fun v => decide (v ∉ a.g.vs)).map (fun v => (⟨1, v, 0, 0, 0, 0⟩ : Sp)) ∧ O.length ≤ a.g.es.length + a.g.vs.length + j ∧ fr 8 = .sl tt O.length (sps O) ∧ st2.H tt = .own 47 6 O.length ∧ st.next + 3 < tt ∧ tt < st2.next) ?_ ?_ ?_
  · exact ⟨by simp [f2], by simp [f3], by simp [f5], by simp, hG, hG2, hB, hkp, hM, tt, O, by rw [hO1]; simp [gone, lessV], by omega, by simp [f8], hO, lt, ut⟩
  · clear f2 f3 f5 f8 hG hG2 hB hkp hM hO lt ut hO1 hOl fr s tt O
    rintro j fr s hlt ⟨f2, f3, f5, fs, hG, hG2, hB, hkp, hM, tt, O, hO1, hOl, f8, hO, lt, ut⟩ fi fn JO hJO
    have hd := us_drop_getD b.g.vs j hlt
    have hst := vs_take b.g.vs a.g.vs 1 j hlt
    simp only [hst, ← List.append_assoc, ← hO1] at hJO
    clear hst hO1
    generalize b.g.vs.getD j 0 = v at *
    have hol := sps_length O
    have e5 : ¬ tt = s.next := by omega
    have e6 : ¬ tt = 0 := by omega
    have e7 : ¬ tt = s.next + 1 := by omega
    (repeat' (first | refine awp_seq ?_ | (refine w_e [] ?_; intro J hJ; simp only []; simp [f2, hG, fs, fi, fn, hd, hlt]; (try (refine hJ _ _ ?_; clear hJ J; simp only [ak, reduceIte])))))
    refine callK_ofE (Vert' a.g v _ (by unfold small; omega)) (by simp) ?_; rintro r s1 ⟨rfl, h1⟩
    rw [h1]; clear h1 s1
    by_cases hin : v ∈ a.g.vs
    · have hge : ¬ gi a.g.vs v < 0 := fun h => (gi_neg _ v).1 h hin
      rw [if_pos hin, List.append_nil] at hJO
      generalize gi a.g.vs v = gg at *
      (repeat' (first | (refine awp_skip ?_; simp only [ak, reduceIte]) | (refine awp_cond ?_; simp [hge]) | (refine e_go ?_; simp [hge]; (refine hJ _ _ ?_; clear hJ J; simp only [ak, reduceIte]))))
      exact hJO _ _ (by simp [fi]) (by simp [fn]) ⟨by simp [f2], by simp [f3], by simp [f5], by simp [fs], hG, hG2, hB, hkp, hM, tt, O, rfl, by omega, by simp [f8], hO, lt, ut⟩
    · have hge : gi a.g.vs v < 0 := (gi_neg _ v).2 hin
      rw [if_neg hin] at hJO
      generalize gi a.g.vs v = gg at *
      (repeat' (first | (refine awp_cond ?_; simp [hge]) | ((first | (refine w_e [] ?_; intro J hJ; simp only []) | (refine e_go ?_)); simp [hge]; (try (refine hJ _ _ ?_; clear hJ J; simp only [ak, reduceIte])))))
      refine callK_ofE (Vertex' v _) (by simp) ?_; rintro r s1 ⟨rfl, h1⟩
      rw [h1]; clear h1 s1
      (repeat' (refine e_go ?_; simp [f8, hO, e5, e6, e7, hol, stp]; (repeat refine ca ?_); (refine hJ _ _ ?_; clear hJ J; simp only [ak, reduceIte])))
      refine hJO _ _ (by simp [fi]) (by simp [fn]) ⟨by simp [f2], by simp [f3], by simp [f5], by simp [fs], by simp [show ¬ st.next = s.next by omega, show ¬ st.next = s.next + 1 by omega, show ¬ st.next = tt by omega, hG], by simp [show ¬ st.next = s.next by omega, show ¬ st.next + 1 = s.next by omega, show ¬ st.next + 1 = tt by omega, hG2], by simp [show ¬ st.next + 3 = s.next by omega, show ¬ st.next + 2 = s.next by omega, show ¬ st.next + 3 = tt by omega, hB], ?_, by simp [show ¬ st.next + 1 = s.next by omega, show ¬ st.next + 2 = s.next by omega, show ¬ st.next + 2 = tt by omega, hM], s.next + 1, _, rfl, by simp; omega, by simp [sps_snoc, spL], by simp, by omega, by simp⟩
      (repeat (first | exact hkp | (refine Keeps.trans ?_ (Keeps.new _ _)) | (refine Keeps.set ?_ (by omega) _)))
  clear f2 f3 f5 f8 hG hG2 hB hkp hM hO lt ut hO1 hOl fr s tt O
  rintro fr s ⟨f2, f3, f5, fs, hG, hG2, hB, hkp, hM, tt, O, hO1, hOl, f8, hO, lt, ut⟩
  rw [List.take_length] at hO1
  clear fs
  (repeat' (first | refine awp_seq ?_ | refine awp_block ?_ | (refine w_e [] ?_; intro J hJ; simp only []; simp [f3, f5, hG2]; (refine hJ _ _ ?_; clear hJ J; simp only [ak, reduceIte]))))
  refine awp_range 95 94 96 128 (b.g.es.length) (fun j fr st2 => fr 3 = .pt (st.next + 1) 0 ∧ fr 5 = .pt (st.next + 3) 0 ∧ fr 15 = .fn (.func 98) [.pt (st.next + 1) 0, .pt (st.next + 3) 0] ∧ fr 93 = .sl 0 b.g.es.length (eds b.g.es) ∧ st2.H (st.next + 1) = .box 41 3 (mpL b) ∧ st2.H (st.next + 3) = .box 91 1 [.mp (st.next + 2)] ∧ Keeps st st2 ∧ ∃ MM tt S, S = (b.g.es.take j).foldl (link1 b K) ⟨K, []⟩ ∧ S.out.length ≤ j ∧ st2.H (st.next + 2) = .map false [.u32] MM ∧ InM MM S.T ∧ fr 8 = .sl tt (O.length + S.out.length) (sps (O ++ S.out)) ∧ st2.H tt = .own 47 6 (O.length + S.out.length) ∧ st.next + 3 < tt ∧ tt < st2.next) ?_ ?_ ?_
  · exact ⟨by simp [f3], by simp [f5], by simp, by simp, hG2, hB, hkp, MM, tt, ⟨K, []⟩, by simp, by simp, hM, hI, by simp [f8], by simpa using hO, lt, ut⟩
  · clear f2 f3 f5 f8 hG hG2 hB hkp hM hO lt ut hI fr s tt MM
    rintro j fr s hlt ⟨f3, f5, f15, f93, hG2, hB, hkp, MM, tt, S, hS, hS1, hM, hI, f8, hO, lt, ut⟩ fi fn JO hJO
    have hd := eds_drop b.g.es j hlt
    have hel := eds_length b.g.es
    have hj3 : j * 3 < b.g.es.length * 3 := by omega
    have hxin : b.g.es.getD j ed0 ∈ b.g.es := by rw [getE_lt _ _ hlt]; exact List.getElem_mem hlt
    have hst := foldl_takeE (link1 b K) ⟨K, []⟩ b.g.es j hlt
    have hiff := link_out hb K j hlt
    rw [← hS] at hst hiff
    simp only [hst] at hJO
    clear hst hS
    generalize b.g.es.getD j ed0 = x at *
    have hx1 := hb.g.pos x hxin
    obtain ⟨d, p, q⟩ := x
    obtain ⟨T, out⟩ := S
    simp only at hd hx1 hS1 hI f8 hO hiff
    have hId := hI d
    have e1 : ¬ st.next + 1 = s.next := by omega
    have e2 : ¬ st.next + 2 = s.next := by omega
    have e3 : ¬ st.next + 3 = s.next := by omega
    have e4 : ¬ tt = s.next := by omega
    by_cases hin : d ∈ K
    · have hmg := hId.1 (hiff.2 hin)
      have hlk : link1 b K ⟨T, out⟩ ⟨d, p, q⟩ = ⟨T, out⟩ := by unfold link1; rw [if_pos hin]
      rw [hlk] at hJO
      (repeat' (first | refine awp_seq ?_ | (refine awp_skip ?_; simp only [ak, reduceIte]) | (refine awp_cond ?_; simp [f5, f93, fi, fn, hd, hlt, hel, hj3, hB, hM, e2, e3, hmg]) | (refine w_e [] ?_; intro J hJ; simp only []; simp [f5, f93, fi, fn, hd, hlt, hel, hj3, hB, hM, e2, e3, hmg]; (refine hJ _ _ ?_; clear hJ J; simp only [ak, reduceIte]))))
      exact hJO _ _ (by simp [fi]) (by simp [fn]) ⟨by simp [f3], by simp [f5], by simp [f15], by simp [f93], by simp [e1, hG2], by simp [e3, hB], hkp.trans (Keeps.new _ _), MM, tt, ⟨T, out⟩, rfl, by simp; omega, by simp [e2, hM], hI, by simp [f8], by simp [e4, hO], lt, by simp; omega⟩
    · have hmg := hId.2 fun h => hin (hiff.1 h)
      have hlk : link1 b K ⟨T, out⟩ ⟨d, p, q⟩ = ⟨T ++ [d], out ++ [⟨3, d, p, q, aheadW b p (2 * d) (T ++ [d]), aheadW b q (2 * d + 1) (T ++ [d])⟩]⟩ := by unfold link1; rw [if_neg hin]
      rw [hlk] at hJO
      have hI2 := hI.add d
      have e5 : ¬ s.next = st.next + 2 := by omega
      (repeat' (first | refine awp_seq ?_ | (refine awp_cond ?_; simp [f5, f93, fi, fn, hd, hlt, hel, hj3, hB, hM, e2, e3, hmg]) | (refine w_e [] ?_; intro J hJ; simp only []; simp [f5, f93, fi, fn, hd, hlt, hel, hj3, hB, hM, e2, e3, hmg]; (refine hJ _ _ ?_; clear hJ J; simp only [ak, reduceIte]))))
      (refine w_s [] [s.next] [(0, true), (1, true), (2, true), (3, true), (4, true), (5, true), (6, true), (7, true)] ?_; intro J hJ; simp [f15, e5])
      refine dcallK_ofE (dOf0 d _ hx1) (by simp) ?_; rintro r s1 ⟨rfl, h1⟩
      rw [h1]; clear h1 s1
      refine ⟨fun h => by first | (cases h; done) | simp [e5], ?_⟩
      (refine d_go ?_; simp [e5])
      refine dcallK_ofE (Diff_1 b hb p (2 * d) (T ++ [d]) (st.next + 1) (st.next + 3) (st.next + 2) _ _ hvb heb (by simp [e3, hB]) (by simp [e1, hG2]) (by simp) (by simp; omega) hI2) (by simp) ?_; rintro r s1 ⟨rfl, h1⟩
      rw [h1]; clear h1 s1
      refine ⟨fun h => by first | (cases h; done) | simp [e5], ?_⟩
      (refine d_go ?_; simp [e5]; (refine hJ _ _ ?_; clear hJ J; simp only [ak, reduceIte]))
      (repeat (refine awp_seq ?_))
      (refine w_s [] [s.next] [(0, true), (1, true), (2, true), (3, true), (4, true), (5, true), (6, true), (7, true)] ?_; intro J hJ; simp [f15, e5])
      refine dcallK_ofE (dOf1 d _ hx1) (by simp) ?_; rintro r s1 ⟨rfl, h1⟩
      rw [h1]; clear h1 s1
      refine ⟨fun h => by first | (cases h; done) | simp [e5], ?_⟩
      (refine d_go ?_; simp [e5])
      refine dcallK_ofE (Diff_1 b hb q (2 * d + 1) (T ++ [d]) (st.next + 1) (st.next + 3) (st.next + 2) _ _ hvb heb (by simp [e3, hB]) (by simp [e1, hG2]) (by simp) (by simp; omega) hI2) (by simp) ?_; rintro r s1 ⟨rfl, h1⟩
      rw [h1]; clear h1 s1
      refine ⟨fun h => by first | (cases h; done) | simp [e5], ?_⟩
      (refine d_go ?_; simp [e5]; (refine hJ _ _ ?_; clear hJ J; simp only [ak, reduceIte]))
      generalize aheadW b p (2 * d) (T ++ [d]) = pa at *
      generalize aheadW b q (2 * d + 1) (T ++ [d]) = pb at *
      have hol := sps_length (O ++ out)
      rw [List.length_append] at hol
      have e6 : ¬ tt = st.next + 2 := by omega
      have e7 : ¬ tt = 0 := by omega
      have e8 : ¬ tt = s.next + 1 := by omega
      (repeat' (refine w_e [] ?_; intro J hJ; simp only []; simp [f8, e5]))
      refine callK_ofE (Link' ⟨d, p, q⟩ pa pb _) (by simp) ?_; rintro r s1 ⟨rfl, h1⟩
      rw [h1]; clear h1 s1
      (repeat' (refine e_go ?_; simp [f8, hO, e4, e6, e7, e8, hol, stp]; (repeat refine ca ?_); (refine hJ _ _ ?_; clear hJ J; simp only [ak, reduceIte])))
      refine hJO _ _ (by simp [fi]) (by simp [fn]) ⟨by simp [f3], by simp [f5], by simp [f15], by simp [f93], by simp [e1, show ¬ st.next + 1 = s.next + 1 by omega, show ¬ st.next = s.next + 1 by omega, show ¬ st.next = s.next by omega, show ¬ st.next + 1 = tt by omega, hG2], by simp [e3, show ¬ st.next + 2 = s.next by omega, show ¬ st.next + 1 = s.next by omega, show ¬ st.next + 3 = tt by omega, hB], ?_, _, s.next + 1 + 1, _, rfl, by simp; omega, by simp [e2, show ¬ st.next + 1 = s.next by omega, show ¬ st.next = s.next by omega, show ¬ st.next + 2 = tt by omega], hI2, ?_, ?_, by omega, by simp⟩
      · (repeat (first | exact hkp | (refine Keeps.trans ?_ (Keeps.new _ _)) | (refine Keeps.set ?_ (by omega) _)))
      · simp [sps_snoc, spL, ← List.append_assoc]; omega
      · simp; omega
  · rintro fr s2 ⟨f3', f5', f15', f93', hG2', hB', hkp', MM', tt', S, hS, hS1, hM', hI', f8', hO', l1, l2⟩
    rw [List.take_length] at hS
    have hfin : O ++ S.out = G0 := by
      rw [hG0, hO1, hS]; simp [diffW, moreV, links]
    have hfl : O.length + S.out.length = G0.length := by rw [← hfin, List.length_append]
    rw [hfin, hfl] at f8'
    (repeat' (first | refine awp_seq ?_ | (refine awp_ret ?_; simp only [ak, reduceIte]; simp [f8']) | (refine w_e [] ?_; intro J hJ; simp only []; simp [f8']; (refine hJ _ _ ?_; clear hJ J; simp only [ak, reduceIte]))))
    exact ⟨by simp [z0, z0_sps], hkp'⟩

theorem dDiff (a b : Mp) (ha : MapOk a) (hb : MapOk b) (st : St) (hva : a.g.vs.length ≤ 100) (hea : a.g.es.length ≤ 100) (hvb : b.g.vs.length ≤ 100) (heb : b.g.es.length ≤ 100) :
    ACalls Tryz.prog 38 [.ag (mpL a), .ag (mpL b)] st fun r st' => r = .sl 0 (diffW a b (keptW a b)).length (sps (diffW a b (keptW a b))) ∧ st' = st :=
  acalls_tidy (Q := fun r => r = .sl 0 (diffW a b (keptW a b)).length (sps (diffW a b (keptW a b)))) (dDiffK a b ha hb st hva hea hvb heb) fun r h => by subst h; exact ⟨.inl rfl, belL_sps _ _⟩
theorem dfDiff (a b : Mp) (ha : MapOk a) (hb : MapOk b) (st : St) (hva : a.g.vs.length ≤ 100) (hea : a.g.es.length ≤ 100) (hvb : b.g.vs.length ≤ 100) (heb : b.g.es.length ≤ 100) :
    ACalls Tryz.prog 39 [.ag (mpL a), .ag (mpL b)] st fun r st' => r = .sl 0 (diffW a b (keptR a b)).length (sps (diffW a b (keptR a b))) ∧ st' = st :=
  acalls_tidy (Q := fun r => r = .sl 0 (diffW a b (keptR a b)).length (sps (diffW a b (keptR a b)))) (dfDiffK a b ha hb st hva hea hvb heb) fun r h => by subst h; exact ⟨.inl rfl, belL_sps _ _⟩
end Go.Proofs.YtjpnhjembncdkaaGreat.Aw

namespace Go.Proofs.YtjpnhjembncdkaaGreat.Aw
open Go Go.RowKit Go.Proofs.YtjpnhjembncdkaaGreat.Pl
set_option linter.unusedSimpArgs false
set_option linter.unusedVariables false

theorem awake17 (st : St) : ACalls Tryz.prog 32 [] st fun r st' => r = bb true ∧ st' = st :=
  acalls_closed tabOk fnsOk prim_ok mixed 1000000 true (by kernel_rfl)
theorem ref_rRightC (m : Mp) (st : St) (hr : m.rots.length ≤ 1000) (he : m.g.es.length ≤ 1000) : ACalls Tryz.prog 22 [.ag (mpL m)] st fun r st' => r = i (rright m) ∧ Keeps st st' := by
  by_cases hv : m.g.vs.length ≤ 1000
  · exact ref_rRight m st hv he hr
  · have hc : rchk m ≠ 0 := fun h => hv (Nat.le_trans (chk_smallC h) (by omega))
    have hrc : rright m = rchk m := by unfold rright; rw [if_pos hc]
    refine acalls_of_body tabOk Tryz.func22 rfl rfl Tryz.ntmps22 (rs := [.tmp 2]) rfl (by simp) ?_
    (repeat' (first | refine awp_seq ?_ | (refine w_e [] ?_; intro J hJ; simp only []; simp []; (try (refine hJ _ _ ?_; clear hJ J; simp only [ak, reduceIte])))))
    refine callK_ofE (ref_rCheckC m _ hr he) (by simp) ?_; rintro r s1 ⟨rfl, hk1⟩
    generalize rchk m = x at *
    have hcb : (x == 0) = false := by simpa using hc
    (repeat' (first | refine awp_seq ?_ | (refine awp_skip ?_; simp only [ak, reduceIte]) | (refine awp_ret ?_; simp only [ak, reduceIte]; simp [hcb, hc, hrc]) | (refine awp_cond ?_; simp [hcb, hc, hrc]) | ((first | (refine w_e [] ?_; intro J hJ; simp only []) | (refine e_go ?_)); simp [hcb, hc, hrc]; (refine hJ _ _ ?_; clear hJ J; simp only [ak, reduceIte]))))
    exact (Keeps.new _ _).trans hk1
theorem rRightC' (m : Mp) (st : St) (hr : m.rots.length ≤ 1000) (he : m.g.es.length ≤ 1000) :
    ACalls Tryz.prog 22 [.ag (mpL m)] st fun r st' => r = i (rright m) ∧ st' = st :=
  acalls_tidy (Q := fun r => r = i (rright m)) (ref_rRightC m st hr he) fun r h => by subst h; trivial
theorem light17K (m : Mp) (st : St) : ACalls Tryz.prog 33 [.ag (mpL m)] st fun r st' => r = bb (lit17 m) ∧ Keeps st st' := by
  refine acalls_of_body tabOk Tryz.func33 rfl rfl Tryz.ntmps33 (rs := [.tmp 2]) rfl (by simp) ?_
  by_cases h1 : (m.g.es.length : Int) ≤ 30
  rotate_left
  · have hf : lit17 m = false := by unfold lit17; simp; omega
    (repeat' (first | refine awp_seq ?_ | (refine awp_ret ?_; simp only [ak, reduceIte]; simp [h1, hf]) | (refine w_e [] ?_; intro J hJ; simp only []; simp [h1, hf]; (refine hJ _ _ ?_; clear hJ J; simp only [ak, reduceIte]))))
    exact Keeps.new _ _
  by_cases h2 : (m.rots.length : Int) ≤ 64
  rotate_left
  · have hf : lit17 m = false := by unfold lit17; simp; omega
    (repeat' (first | refine awp_seq ?_ | (refine awp_ret ?_; simp only [ak, reduceIte]; simp [h1, h2, hf]) | (refine w_e [] ?_; intro J hJ; simp only []; simp [h1, h2, hf]; (refine hJ _ _ ?_; clear hJ J; simp only [ak, reduceIte]))))
    exact Keeps.new _ _
  (repeat' (first | refine awp_seq ?_ | (refine w_e [] ?_; intro J hJ; simp only []; simp [h1, h2]; (try (refine hJ _ _ ?_; clear hJ J; simp only [ak, reduceIte])))))
  refine callK_ofE (rRightC' m _ (by omega) (by omega)) (by simp) ?_; rintro r s1 ⟨rfl, h1⟩
  rw [h1]; clear h1 s1
  have hf : lit17 m = decide (rright m = 0) := by
    unfold lit17
    rw [decide_eq_true (by omega), decide_eq_true (by omega)]; rfl
  by_cases hc : rright m = 0
  · (repeat' (first | (refine awp_ret ?_; simp only [ak, reduceIte]; simp [hc, hf]) | (refine e_go ?_; simp [hc, hf]; (refine hJ _ _ ?_; clear hJ J; simp only [ak, reduceIte]))))
    exact Keeps.new _ _
  · rw [decide_eq_false hc] at hf
    generalize rright m = x at *
    have hcb : (x == 0) = false := by simpa using hc
    (repeat' (first | (refine awp_ret ?_; simp only [ak, reduceIte]; simp [hcb, hc, hf]) | (refine e_go ?_; simp [hcb, hc, hf]; (refine hJ _ _ ?_; clear hJ J; simp only [ak, reduceIte]))))
    exact Keeps.new _ _
theorem light17 (m : Mp) (st : St) : ACalls Tryz.prog 33 [.ag (mpL m)] st fun r st' => r = bb (lit17 m) ∧ st' = st :=
  acalls_tidy (Q := fun r => r = bb (lit17 m)) (light17K m st) fun r h => by subst h; trivial
theorem lit17_of {m : Mp} (h : lit17 m = true) : m.g.es.length ≤ 30 ∧ m.rots.length ≤ 64 ∧ rchk m = 0 ∧ gn m = 0 := by
  unfold lit17 at h
  simp only [Bool.and_eq_true, decide_eq_true_eq] at h
  obtain ⟨⟨h1, h2⟩, h3⟩ := h
  unfold rright at h3
  by_cases hc : rchk m = 0
  · rw [if_neg (fun e => e hc)] at h3
    by_cases hg : gn m = 0
    · exact ⟨h1, h2, hc, hg⟩
    · rw [if_pos hg] at h3; cases h3
  · rw [if_pos hc] at h3; exact absurd h3 hc

set_option maxHeartbeats 4000000 in
theorem DiffTells (a b : Mp) (st : St) : ACalls Tryz.prog 7 [.ag (mpL a), .ag (mpL b)] st fun r st' => r = bb true := by
  refine acalls_of_body tabOk Tryz.func7 rfl rfl Tryz.ntmps7 (rs := [.tmp 4]) rfl (by simp) ?_
  refine awp_posG fun hpos => ?_
  (repeat' (first | refine awp_seq ?_ | (refine w_e [] ?_; intro J hJ; simp only []; simp []; (try (refine hJ _ _ ?_; clear hJ J; simp only [ak, reduceIte])))))
  refine callK_ofE (awake17 _) (by simp []) ?_; rintro r st' ⟨rfl, rfl⟩
  (repeat' (first | refine awp_seq ?_ | (refine awp_skip ?_; simp only [ak, reduceIte]) | (refine awp_cond ?_; simp []) | ((first | (refine w_e [] ?_; intro J hJ; simp only []) | (refine e_go ?_)); simp []; (try (refine hJ _ _ ?_; clear hJ J; simp only [ak, reduceIte])))))
  refine callK_ofE (light17 a _) (by simp) ?_; rintro r s1 ⟨rfl, h1⟩
  rw [h1]; clear h1 s1
  cases hf : lit17 a
  · (repeat' (first | refine awp_seq ?_ | (refine awp_ret ?_; simp only [ak, reduceIte]; simp []) | (refine awp_cond ?_; simp []) | ((first | (refine w_e [] ?_; intro J hJ; simp only []) | (refine e_go ?_)); simp []; (refine hJ _ _ ?_; clear hJ J; simp only [ak, reduceIte]))))
  (repeat' (refine e_go ?_; simp []))
  refine callK_ofE (light17 b _) (by simp) ?_; rintro r s1 ⟨rfl, h1⟩
  rw [h1]; clear h1 s1
  cases hf2 : lit17 b
  · (repeat' (first | refine awp_seq ?_ | (refine awp_ret ?_; simp only [ak, reduceIte]; simp []) | (refine awp_cond ?_; simp []) | ((first | (refine w_e [] ?_; intro J hJ; simp only []) | (refine e_go ?_)); simp []; (refine hJ _ _ ?_; clear hJ J; simp only [ak, reduceIte]))))
  obtain ⟨hea, hra, hca, _⟩ := lit17_of hf
  obtain ⟨heb, hrb, hcb, _⟩ := lit17_of hf2
  have ha := (rchk_zero hca).2
  have hb := (rchk_zero hcb).2
  have hva := chk_smallC hca
  have hvb := chk_smallC hcb
  have hks := kept_same ha hb
  have hKl : (keptR a b).length ≤ a.g.es.length := by have := keepR_len a b a.g.es []; simpa [keptR] using this
  have hlen : (diffW a b (keptR a b)).length ≤ 100000 := by
    have h1 : ∀ (l : List Ed) (S : Lk), (l.foldl (link1 b (keptR a b)) S).out.length ≤ S.out.length + l.length := by
      intro l
      induction l with
      | nil => intro S; simp
      | cons x l ih =>
        intro S
        rw [List.foldl_cons]
        refine Nat.le_trans (ih _) ?_
        unfold link1
        split <;> simp <;> omega
    have h2 := h1 b.g.es ⟨keptR a b, []⟩
    have h3 := List.length_filter_le (fun x : Ed => decide (x.id ∉ keptR a b)) a.g.es
    have h4 := List.length_filter_le (fun v => decide (v ∉ b.g.vs)) a.g.vs
    have h5 := List.length_filter_le (fun v => decide (v ∉ a.g.vs)) b.g.vs
    unfold diffW gone lessV moreV links
    simp only [List.length_append, List.length_map, List.length_nil] at h2 ⊢
    omega
  (repeat' (first | refine awp_seq ?_ | (refine awp_skip ?_; simp only [ak, reduceIte]) | (refine awp_cond ?_; simp []) | (refine e_go ?_; simp []; (refine hJ _ _ ?_; clear hJ J; simp only [ak, reduceIte]))))
  (refine w_s [] [st.next, st.next + 1] [(0, true), (1, true), (3, true), (4, true), (2, true), (5, true), (6, true), (7, true), (8, true), (9, true), (11, true), (12, true), (10, true), (13, true), (14, true), (15, true), (16, true)] ?_; intro J hJ; simp [])
  refine dcallK_ofE (KeptD a b ha hb _ (by omega) (by omega) (by omega) (by omega)) (by simp) ?_; rintro r s1 ⟨rfl, h1⟩
  rw [h1]; clear h1 s1
  refine ⟨fun h => by first | (cases h; done) | simp, ?_⟩
  (refine d_go ?_; simp [])
  refine dcallK_ofE (dfKept a b ha hb _ (by omega) (by omega) (by omega) (by omega)) (by simp) ?_; rintro r s1 ⟨rfl, h1⟩
  rw [h1]; clear h1 s1
  refine ⟨fun h => by first | (cases h; done) | simp, ?_⟩
  (refine d_go ?_; simp [])
  rw [hks]
  refine dcallK_ofE (ref_Same (keptR a b) (keptR a b) 0 0 _ (by unfold small; omega)) (by simp) ?_; rintro r s1 ⟨rfl, h1⟩
  rw [h1]; clear h1 s1
  refine ⟨fun h => by first | (cases h; done) | simp, ?_⟩
  (refine d_go ?_; simp [])
  refine dcallK_ofE (dDiff a b ha hb _ (by omega) (by omega) (by omega) (by omega)) (by simp) ?_; rintro r s1 ⟨rfl, h1⟩
  rw [h1]; clear h1 s1
  refine ⟨fun h => by first | (cases h; done) | simp, ?_⟩
  (refine d_go ?_; simp [])
  refine dcallK_ofE (dfDiff a b ha hb _ (by omega) (by omega) (by omega) (by omega)) (by simp) ?_; rintro r s1 ⟨rfl, h1⟩
  rw [h1]; clear h1 s1
  refine ⟨fun h => by first | (cases h; done) | simp, ?_⟩
  (refine d_go ?_; simp [])
  rw [hks]
  refine dcallK_ofE (ref11Same _ 0 0 _ hlen) (by simp) ?_; rintro r s1 ⟨rfl, h1⟩
  rw [h1]; clear h1 s1
  refine ⟨fun h => by first | (cases h; done) | simp, ?_⟩
  (refine d_go ?_; simp []; (refine hJ _ _ ?_; clear hJ J; simp only [ak, reduceIte]))
  (repeat' (refine awp_ret ?_; simp only [ak, reduceIte]; simp []))

theorem DiffTells_shp (l0 l1 : List LV) (st : St) (h0 : Shp tab 41 l0) (h1 : Shp tab 41 l1) : ACalls Tryz.prog 7 [argT tab 41 l0, argT tab 41 l1] st fun r st' => r = bb true := by
  obtain ⟨m, rfl, _⟩ := shp_mp h0
  obtain ⟨n, rfl, _⟩ := shp_mp h1
  exact DiffTells m n st
end Go.Proofs.YtjpnhjembncdkaaGreat.Aw
