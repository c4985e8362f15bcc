/- The law CanonWalks: what it asks of a map. The law CanonWalks. -/
import Derived.Test.YtlnefdmdabhobaaGreatJc
import Derived.Test.YtlnefdmdabhobaaGreatAwMr5
namespace Go.Proofs.YtlnefdmdabhobaaGreat.Aw
open Go Go.RowKit Go.Proofs.YtlnefdmdabhobaaGreat.Pl Go.Proofs.YtlnefdmdabhobaaGreat.Eu
set_option linter.unusedSimpArgs false
set_option linter.unusedVariables false

theorem chk_smallC {m : Mp} (h : rchk m = 0) : m.g.vs.length ≤ 64 := by
  obtain ⟨_, _, h3, _⟩ := chk_good (rchk_zero h).1
  exact h3
theorem ref_rCheckC (m : Mp) (st : St) (hr : m.rots.length ≤ 1000) (he : m.g.es.length ≤ 1000) : ACalls Tryz.prog 18 [.ag (mpL m)] st fun r st' => r = i (rchk m) ∧ Keeps st st' := by
  by_cases hv : m.g.vs.length ≤ 1000
  · exact ref_rCheck m st hv he hr
  · have hc : chk m.g = 6 := by unfold chk; rw [if_pos (by omega)]
    have hrc : rchk m = 6 := by rw [rchk_g (by rw [hc]; decide), hc]
    refine acalls_of_body tabOk Tryz.func18 rfl rfl Tryz.ntmps18 (rs := [.tmp 2]) rfl (by simp) ?_
    (repeat' (first | refine awp_seq ?_ | (refine w_e [] ?_; intro J hJ; simp only []; simp []; (try (refine hJ _ _ ?_; clear hJ J; simp only [ak, reduceIte])))))
    refine callK_ofE (ref_Chk m.g _) (by simp) ?_; rintro r s1 ⟨rfl, hk1⟩
    rw [hc]
    (repeat' (first | refine awp_seq ?_ | (refine awp_ret ?_; simp only [ak, reduceIte]; simp [hrc]) | (refine awp_cond ?_; simp [hrc]) | ((first | (refine w_e [] ?_; intro J hJ; simp only []) | (refine e_go ?_)); simp [hrc]; (refine hJ _ _ ?_; clear hJ J; simp only [ak, reduceIte]))))
    exact (Keeps.new _ _).trans hk1
noncomputable def lit33 (m : Mp) : Bool := decide (m.g.es.length ≤ 16) && decide (m.rots.length ≤ 40) && decide (rchk m = 0)
theorem light33 (m : Mp) (st : St) : ACalls Tryz.prog 48 [.ag (mpL m)] st fun r st' => r = bb (lit33 m) ∧ Keeps st st' := by
  refine acalls_of_body tabOk Tryz.func48 rfl rfl Tryz.ntmps48 (rs := [.tmp 2]) rfl (by simp) ?_
  by_cases h1 : (m.g.es.length : Int) ≤ 16
  rotate_left
  · have hf : lit33 m = false := by unfold lit33; simp; omega
    (repeat' (first | refine awp_seq ?_ | (refine awp_ret ?_; simp only [ak, reduceIte]; simp [h1, hf]) | (refine w_e [] ?_; intro J hJ; simp only []; simp [h1, hf]; (refine hJ _ _ ?_; clear hJ J; simp only [ak, reduceIte]))))
    exact Keeps.new _ _
  by_cases h2 : (m.rots.length : Int) ≤ 40
  rotate_left
  · have hf : lit33 m = false := by unfold lit33; simp; omega
    (repeat' (first | refine awp_seq ?_ | (refine awp_ret ?_; simp only [ak, reduceIte]; simp [h1, h2, hf]) | (refine w_e [] ?_; intro J hJ; simp only []; simp [h1, h2, hf]; (refine hJ _ _ ?_; clear hJ J; simp only [ak, reduceIte]))))
    exact Keeps.new _ _
  (repeat' (first | refine awp_seq ?_ | (refine w_e [] ?_; intro J hJ; simp only []; simp [h1, h2]; (try (refine hJ _ _ ?_; clear hJ J; simp only [ak, reduceIte])))))
  refine callK_ofE (ref_rCheckC m _ (by omega) (by omega)) (by simp) ?_; rintro r s1 ⟨rfl, hk1⟩
  have hf : lit33 m = decide (rchk m = 0) := by
    unfold lit33
    rw [decide_eq_true (by omega), decide_eq_true (by omega)]; rfl
  by_cases hc : rchk m = 0
  · (repeat' (first | (refine awp_ret ?_; simp only [ak, reduceIte]; simp [hc, hf]) | (refine e_go ?_; simp [hc, hf]; (refine hJ _ _ ?_; clear hJ J; simp only [ak, reduceIte]))))
    exact (Keeps.new _ _).trans hk1
  · rw [decide_eq_false hc] at hf
    generalize rchk m = x at *
    (repeat' (first | (refine awp_ret ?_; simp only [ak, reduceIte]; simp [hc, hf]) | (refine e_go ?_; simp [hc, hf]; (refine hJ _ _ ?_; clear hJ J; simp only [ak, reduceIte]))))
    exact (Keeps.new _ _).trans hk1
theorem lit33_of {m : Mp} (h : lit33 m = true) : m.g.es.length ≤ 16 ∧ m.rots.length ≤ 40 ∧ rchk m = 0 := by
  unfold lit33 at h; simp at h; exact ⟨h.1.1, h.1.2, h.2⟩
theorem ref33Turn (m : Mp) (d : Int) (st : St) (hr : m.rots.length ≤ 1000) (hs : ∀ t ∈ m.rots, small t) :
    ACalls Tryz.prog 50 [.ag (mpL m), u d] st fun r st' => r = i (tix m.rots d) ∧ Keeps st st' := by
  refine acalls_of_body tabOk Tryz.func50 rfl rfl Tryz.ntmps50 (rs := [.tmp 4]) rfl (by simp) ?_
  (repeat' (first | refine awp_seq ?_ | (refine w_e [] ?_; intro J hJ; simp only []; simp []; (try (refine hJ _ _ ?_; clear hJ J; simp only [ak, reduceIte])))))
  refine callK_ofE (ref_Turn m d _ hr hs) (by simp) ?_; rintro r s1 ⟨rfl, hk1⟩
  (repeat' (first | (refine awp_ret ?_; simp only [ak, reduceIte]; simp []) | (refine e_go ?_; simp []; (refine hJ _ _ ?_; clear hJ J; simp only [ak, reduceIte]))))
  exact (Keeps.new _ _).trans hk1

/-! ### plain -/
theorem tix_dart {m : Mp} (h : MapOk m) {d : Int} : (d ∈ darts m.g.es → ∃ k, k < m.g.vs.length ∧ tix m.rots d = (k : Int) ∧ d ∈ ends m.g.es (m.g.vs.getD k 0)) ∧ (d ∉ darts m.g.es → tix m.rots d = -1) := by
  constructor
  · intro hd
    obtain ⟨k, hk, h1, h2⟩ := tix_in (h.turn_of hd)
    refine ⟨k, by rw [← h.len]; exact hk, h1, ?_⟩
    exact (h.ok k (by rw [← h.len]; exact hk)).1.mem_iff.1 h2
  · intro hd
    exact tix_out fun t ht hdt => hd (h.turn_dart ht hdt)
/-- The ends of some vertices. -/
def endsL (es : List Ed) (c : List Int) : List Int := c.flatMap (ends es)
theorem endsL_nodup {es : List Ed} (hi : es.Pairwise fun x y => x.id < y.id) : ∀ {c : List Int}, c.Nodup → (endsL es c).Nodup
  | [], _ => by simp [endsL]
  | v :: c, h => by
    rw [List.nodup_cons] at h
    have ih := endsL_nodup hi h.2
    unfold endsL at ih ⊢
    rw [List.flatMap_cons, List.nodup_append]
    refine ⟨rise_nodup (ends_rise hi v), ih, fun a ha b hb e => ?_⟩
    subst e
    obtain ⟨w, hw, h1⟩ := List.mem_flatMap.1 hb
    exact h.1 (at_unique hi ha h1 ▸ hw)
theorem IsWk.perm {m : Mp} (ho : MapOk m) {h : Int} {D c : List Int} (w : IsWk m.g.es h D) (hh : h ∈ m.g.vs) (hc : IsPart m.g h c) : D.Perm (endsL m.g.es c) ∧ (wV m.g.es h D).Perm c := by
  have hcn : c.Nodup := hc.1.imp fun h => by omega
  have hV : ∀ v, v ∈ wV m.g.es h D ↔ v ∈ c := fun v => by
    rw [w.verts, hc.2]
    exact ⟨fun hr => ⟨ho.g.toGood.reach hh hr, hr⟩, fun hr => hr.2⟩
  constructor
  · refine (List.perm_ext_iff_of_nodup w.nd (endsL_nodup ho.g.ids hcn)).2 fun x => ?_
    rw [w.all]
    unfold endsL
    rw [List.mem_flatMap]
    exact ⟨fun ⟨v, hv, h1⟩ => ⟨v, (hV v).1 hv, h1⟩, fun ⟨v, hv, h1⟩ => ⟨v, (hV v).2 hv, h1⟩⟩
  · exact (List.perm_ext_iff_of_nodup (nms_nodup _ (by simp)) hcn).2 hV
theorem endsL_take (es : List Ed) (c : List Int) (j : Nat) (hj : j < c.length) : (endsL es (c.take (j + 1))).length = (endsL es (c.take j)).length + (ends es (c.getD j 0)).length := by
  rw [List.take_succ_eq_append_getElem hj, ← getD_lt _ _ hj]
  simp [endsL, List.flatMap_append]

theorem told_get (es : List Ed) (V E : List Int) : ∀ (D : List Int) (j : Nat), j < D.length → (told es V E D).getD (2 * j) 0 = num E (D.getD j 0 / 2) ∧ (told es V E D).getD (2 * j + 1) 0 = num V (awy es (D.getD j 0))
  | [], j, h => by simp at h
  | d :: D, 0, _ => by simp [told]
  | d :: D, j + 1, h => by
    have ih := told_get es V E D j (by simpa using h)
    have e : told es V E (d :: D) = num E (d / 2) :: num V (awy es d) :: told es V E D := rfl
    rw [e, show 2 * (j + 1) = 2 * j + 1 + 1 by omega, List.getD_cons_succ, List.getD_cons_succ, List.getD_cons_succ, List.getD_cons_succ, List.getD_cons_succ]
    exact ih
/-- What the law sees of the told row at a place. -/
theorem tel_step (m : Mp) (h : Int) (D : List Int) (j : Nat) (hj : j < D.length) : ∃ a b : Int, (tel m h D).getD (2 * j) 0 = a ∧ (tel m h D).getD (2 * j + 1) 0 = b ∧ a = num (eN D) (D.getD j 0 / 2) ∧ (1 ≤ a ∧ a ≤ ((eN (D.take j)).length : Int) + 1 ∧ max ((eN (D.take j)).length : Int) a = ((eN (D.take (j + 1))).length : Int)) ∧
    (1 ≤ b ∧ b ≤ ((wV m.g.es h (D.take j)).length : Int) + 1 ∧ max ((wV m.g.es h (D.take j)).length : Int) b = ((wV m.g.es h (D.take (j + 1))).length : Int)) := by
  obtain ⟨h1, h2⟩ := told_get m.g.es (wV m.g.es h D) (eN D) D j hj
  have hs : D = D.take j ++ D.getD j 0 :: D.drop (j + 1) := by
    rw [getD_lt _ _ hj]; conv => lhs; rw [← List.take_append_drop j D]
    rw [List.drop_eq_getElem_cons hj]
  have ht : D.take (j + 1) = D.take j ++ [D.getD j 0] := by rw [getD_lt _ _ hj]; exact List.take_succ_eq_append_getElem hj
  refine ⟨_, _, h1, h2, rfl, ?_, ?_⟩
  · have := num_step [] ((D.take j).map fun d => d / 2) (D.getD j 0 / 2) ((D.drop (j + 1)).map fun d => d / 2)
    have e1 : nms [] ((D.take j).map (fun d => d / 2) ++ D.getD j 0 / 2 :: (D.drop (j + 1)).map fun d => d / 2) = eN D := by
      unfold eN; conv => rhs; rw [hs]
      rw [List.map_append, List.map_cons]
    have e2 : nms [] ((D.take j).map (fun d => d / 2) ++ [D.getD j 0 / 2]) = eN (D.take (j + 1)) := by
      unfold eN; rw [ht, List.map_append]; rfl
    rw [e1, e2] at this
    exact this
  · have := num_step [h] ((D.take j).map (awy m.g.es)) (awy m.g.es (D.getD j 0)) ((D.drop (j + 1)).map (awy m.g.es))
    have e1 : nms [h] ((D.take j).map (awy m.g.es) ++ awy m.g.es (D.getD j 0) :: (D.drop (j + 1)).map (awy m.g.es)) = wV m.g.es h D := by
      unfold wV; conv => rhs; rw [hs]
      rw [List.map_append, List.map_cons]
    have e2 : nms [h] ((D.take j).map (awy m.g.es) ++ [awy m.g.es (D.getD j 0)]) = wV m.g.es h (D.take (j + 1)) := by
      unfold wV; rw [ht, List.map_append]; rfl
    rw [e1, e2] at this
    exact this

theorem cnt_allC : ∀ (l : List Int) (es : List (List Int × LV)) (x : Int), cntM (addAll es l) x = cntM es x + (l.countP fun k => decide (k = x) : Nat)
  | [], es, x => by simp [addAll]
  | k :: l, es, x => by
    have ih := cnt_allC l (add1 es k) x
    have e : addAll es (k :: l) = addAll (add1 es k) l := rfl
    rw [e, ih, cntM_add, List.countP_cons]
    by_cases h : x = k
    · subst h; simp; omega
    · have h2 : ¬ k = x := fun e => h e.symm
      rw [if_neg h]; simp [h2]
/-- Each edge's number is counted twice. -/
theorem IsWk.two {m : Mp} (ho : MapOk m) {h : Int} {D : List Int} (w : IsWk m.g.es h D) {B : Int} (hT : TabB B (addAll [] (D.map fun d => num (eN D) (d / 2)))) {p : List Int × LV} (hp : p ∈ addAll [] (D.map fun d => num (eN D) (d / 2))) : p.2 = i 2 := by
  obtain ⟨k, n, rfl, _⟩ := hT.kn p hp
  have h1 := tab_get hT hp
  rw [cnt_allC] at h1
  have h0 : cntM [] k = 0 := rfl
  rw [h0] at h1
  rcases add_keys _ _ _ hp with h2 | ⟨k', hk', h2⟩
  · simp at h2
  · simp only [List.cons.injEq, and_true] at h2
    subst h2
    obtain ⟨x, hx, rfl⟩ := List.mem_map.1 hk'
    have hx2 : x / 2 ∈ D.map fun d => d / 2 := List.mem_map.2 ⟨x, hx, rfl⟩
    have h3 := w.twice ho.g.ids _ hx2
    have h4 : ((D.map fun d => num (eN D) (d / 2)).countP fun y => decide (y = num (eN D) (x / 2))) = (D.map fun d => d / 2).countP fun y => decide (y = x / 2) := by
      rw [List.countP_map, List.countP_map]
      refine List.countP_congr fun y hy => ?_
      have hin : ∀ z ∈ D, z / 2 ∈ eN D := fun z hz => (mem_nms _).2 (.inr (List.mem_map.2 ⟨z, hz, rfl⟩))
      simp only [Function.comp_apply, decide_eq_true_eq]
      exact ⟨fun e => num_inj (hin y hy) (hin x hx) e, fun e => by rw [e]⟩
    rw [h4, h3] at h1
    have : n = 2 := by omega
    subst this; rfl
theorem IsWk.half {m : Mp} (ho : MapOk m) {h : Int} {D : List Int} (w : IsWk m.g.es h D) : D.length = 2 * (eN D).length := by
  have := twice_len (w.twice ho.g.ids)
  rwa [List.length_map] at this

end Go.Proofs.YtlnefdmdabhobaaGreat.Aw

namespace Go.Proofs.YtlnefdmdabhobaaGreat.Aw
open Go Go.RowKit Go.Proofs.YtlnefdmdabhobaaGreat.Pl Go.Proofs.YtlnefdmdabhobaaGreat.Eu
set_option linter.unusedSimpArgs false
set_option linter.unusedVariables false

set_option maxHeartbeats 8000000 in
theorem CanonWalks (m : Mp) (d : Int) (st : St) (hd0 : 0 ≤ d) : ACalls Tryz.prog 9 [.ag (mpL m), u d] st fun r st' => r = bb true := by
  refine acalls_of_body tabOk Tryz.func9 rfl rfl Tryz.ntmps9 (rs := [.tmp 4]) rfl (by simp) ?_
  refine awp_posG fun hpos => ?_
  (repeat' (first | refine awp_seq ?_ | (refine w_e [] ?_; intro J hJ; simp only []; simp []; (try (refine hJ _ _ ?_; clear hJ J; simp only [ak, reduceIte])))))
  refine callK_ofE (awake33 _) (by simp []) ?_; rintro r st' ⟨rfl, rfl⟩
  (repeat' (first | refine awp_seq ?_ | (refine awp_skip ?_; simp only [ak, reduceIte]) | (refine awp_cond ?_; simp []) | ((first | (refine w_e [] ?_; intro J hJ; simp only []) | (refine e_go ?_)); simp []; (try (refine hJ _ _ ?_; clear hJ J; simp only [ak, reduceIte])))))
  refine callK_ofE (light33 m _) (by simp) ?_; rintro r s1 ⟨rfl, hk1⟩
  have hn1 := hk1.next
  simp only [new_next] at hn1
  have hG1 : s1.H st.next = .box 28 3 (mpL m) := by rw [hk1.H _ (by simp)]; simp
  cases hf : lit33 m
  · (repeat' (first | refine awp_seq ?_ | (refine awp_ret ?_; simp only [ak, reduceIte]; simp []) | (refine awp_cond ?_; simp []) | ((first | (refine w_e [] ?_; intro J hJ; simp only []) | (refine e_go ?_)); simp []; (refine hJ _ _ ?_; clear hJ J; simp only [ak, reduceIte]))))
  obtain ⟨he, hr, hc⟩ := lit33_of hf
  have hv := chk_smallC hc
  have h := (rchk_zero hc).2
  have hid : idOk m.g.es := fun x hx => by have := h.g.pos x hx; omega
  have hsm : ∀ t ∈ m.rots, small t := fun t ht => by have := h.row_le ht; unfold small; omega
  (repeat' (first | refine awp_seq ?_ | (refine awp_skip ?_; simp only [ak, reduceIte]) | (refine awp_cond ?_; simp [hG1]) | ((first | (refine w_e [] ?_; intro J hJ; simp only []) | (refine e_go ?_)); simp [hG1]; (try (refine hJ _ _ ?_; clear hJ J; simp only [ak, reduceIte])))))
  refine callK_ofE (cWalk m h d _ (by omega) (by omega) hd0) (by simp) ?_; rintro r s2 ⟨rfl, hk2⟩
  have hn2 := hk2.next
  have hG2 := (hk2.H st.next (by omega)).trans hG1
  (repeat' (first | refine awp_seq ?_ | ((first | (refine w_e [] ?_; intro J hJ; simp only []) | (refine e_go ?_)); simp [hG2]; (try (refine hJ _ _ ?_; clear hJ J; simp only [ak, reduceIte])))))
  refine callK_ofE (ref33Turn m d _ (by omega) hsm) (by simp) ?_; rintro r s3 ⟨rfl, hk3⟩
  have hn3 := hk3.next
  have hG3 := (hk3.H st.next (by omega)).trans hG2
  obtain ⟨ht1, ht2⟩ := tix_dart h (d := d)
  by_cases hdd : d ∈ darts m.g.es
  rotate_left
  · have hwl := walkL_eq (m := m) (d := d) (.inl ⟨hdd, rfl⟩)
    rw [ht2 hdd, hwl]
    (repeat' (first | refine awp_seq ?_ | (refine awp_ret ?_; simp only [ak, reduceIte]; simp []) | (refine awp_cond ?_; simp []) | ((first | (refine w_e [] ?_; intro J hJ; simp only []) | (refine e_go ?_)); simp []; (refine hJ _ _ ?_; clear hJ J; simp only [ak, reduceIte]))))
  obtain ⟨k, hk, hkt, hke⟩ := ht1 hdd
  have hhom := hom_of h.g.ids hke
  obtain ⟨D, hD⟩ := WSt.fin h (dart_ends h.g.ids hdd).1 (hom_vs h hdd)
  have hwl := walkL_eq (m := m) (d := d) (.inr ⟨hdd, D, hD, rfl⟩)
  have hwk := hD.isWk h (dart_ends h.g.ids hdd).1
  have hvin : m.g.vs.getD k 0 ∈ m.g.vs := getD_mem hk
  have hDl := hwk.le
  have hdr := us_drop_getD m.g.vs k hk
  rw [hwl, hkt]
  rw [hhom] at *
  generalize m.g.vs.getD k 0 = v at *
  have hLl := tel_len m v D
  have hk0 : ¬ (k : Int) < 0 := by omega
  (repeat' (first | refine awp_seq ?_ | (refine awp_skip ?_; simp only [ak, reduceIte]) | (refine awp_cond ?_; simp [hk0]) | ((first | (refine w_e [] ?_; intro J hJ; simp only []) | (refine e_go ?_)); simp [hk0]; (refine hJ _ _ ?_; clear hJ J; simp only [ak, reduceIte]))))
  (refine w_s [] [st.next] [(0, true), (1, true), (2, true), (3, true), (4, true), (5, true), (6, true), (7, true), (8, true), (9, true)] ?_; intro J hJ; simp [hG3, hdr, hk])
  refine dcallK_ofE (ref_Part m.g v _ h.g.toGood (by omega) (by omega) hvin) (by simp) ?_; rintro r s4 ⟨⟨c, rfl, hcp⟩, hk4⟩
  have hn4 := hk4.next
  have hG4 := (hk4.H st.next (by omega)).trans hG3
  refine ⟨fun h => by first | (cases h; done) | simp [hG4, hG3], ?_⟩
  (refine d_go ?_; simp [hG4]; (refine hJ _ _ ?_; clear hJ J; simp only [ak, reduceIte]))
  obtain ⟨hpm1, hpm2⟩ := hwk.perm h hvin hcp
  have hcl : c.length ≤ 64 := by
    have := List.Nodup.length_le_of_subset (hcp.1.imp fun h => by omega : c.Nodup) fun w hw => ((hcp.2 w).1 hw).1
    omega
  have hel : (endsL m.g.es c).length = D.length := hpm1.length_eq.symm
  have hEle : ∀ j, (endsL m.g.es (c.take j)).length ≤ (endsL m.g.es c).length := fun j => by
    have e : endsL m.g.es c = endsL m.g.es (c.take j) ++ endsL m.g.es (c.drop j) := by rw [endsL, endsL, endsL, ← List.flatMap_append, List.take_append_drop]
    rw [e, List.length_append]; omega
  (repeat' (first | refine awp_seq ?_ | refine awp_block ?_ | (refine w_e [] ?_; intro J hJ; simp only []; simp []; (refine hJ _ _ ?_; clear hJ J; simp only [ak, reduceIte]))))
  refine awp_range 44 43 45 55 (c.length) (fun j fr st2 => fr 2 = .pt st.next 0 ∧ fr 5 = .sl 0 (tel m v D).length (us (tel m v D)) ∧ fr 7 = .sl 0 c.length (us c) ∧ fr 42 = .sl 0 c.length (us c) ∧ fr 8 = i ((endsL m.g.es (c.take j)).length : Nat) ∧ Keeps s4 st2) ?_ ?_ ?_
  · exact ⟨by simp, by simp, by simp, by simp, by simp [endsL], Keeps.refl _⟩
  · rintro j fr s hlt ⟨f2, f5, f7, f42, f8, hkp⟩ fi fn J hJ
    have hd := us_drop_getD c j hlt
    have htk := endsL_take m.g.es c j hlt
    have hle := hEle (j + 1)
    have hG := (hkp.H st.next (by omega)).trans hG4
    generalize c.getD j 0 = w at *
    have hw := wrap_i64 (((endsL m.g.es (c.take j)).length : Nat) + ((ends m.g.es w).length : Nat) : Int) (by omega) (by omega)
    (repeat' (first | refine awp_seq ?_ | (refine w_e [] ?_; intro J hJ; simp only []; simp [f2, f42, f8, fi, fn, hd, hlt, hG]; (try (refine hJ _ _ ?_; clear hJ J; simp only [ak, reduceIte])))))
    refine callK_ofE (ref_Ends m.g w _ (by omega) hid) (by simp) ?_; rintro r s5 ⟨⟨t5, rfl⟩, hk5⟩
    (repeat' (refine e_go ?_; simp [f2, f42, f8, hw]; (refine hJ _ _ ?_; clear hJ J; simp only [ak, reduceIte])))
    exact hJ _ _ (by simp [fi]) (by simp [fn]) ⟨by simp [f2], by simp [f5], by simp [f7], by simp [f42], by simp [htk], hkp.trans hk5⟩
  rintro fr s ⟨f2, f5, f7, f42, f8, hkp⟩
  rw [List.take_length, hel] at f8
  have hns := hkp.next
  clear hEle
  have w1 : IntKind.i64.wrap (2 * (D.length : Int)) = 2 * (D.length : Int) := wrap_i64 _ (by omega) (by omega)
  have hL2 : ((tel m v D).length : Int) = 2 * (D.length : Int) := by omega
  (repeat' (first | refine awp_seq ?_ | refine awp_block ?_ | (refine awp_skip ?_; simp only [ak, reduceIte]) | (refine awp_cond ?_; simp [f5, f8, w1, hL2]) | (refine w_e [] ?_; intro J hJ; simp only []; simp [f5, f8, w1, hL2]; (refine hJ _ _ ?_; clear hJ J; simp only [ak, reduceIte]))))
  clear w1 hL2
  generalize hM : s.next = M at *
  refine awp_loop (fun n fr st2 => ∃ j : Nat, j ≤ D.length ∧ n = D.length - j ∧ fr 5 = .sl 0 (tel m v D).length (us (tel m v D)) ∧ fr 7 = .sl 0 c.length (us c) ∧ fr 8 = i (D.length : Nat) ∧ fr 11 = .mp M ∧ fr 12 = u ((wV m.g.es v (D.take j)).length : Nat) ∧ fr 13 = u ((eN (D.take j)).length : Nat) ∧ fr 14 = i ((2 * j : Nat) : Int) ∧
      st2.H M = .map false [.u32] (addAll [] ((D.take j).map fun d => num (eN D) (d / 2))) ∧ TabB (j : Nat) (addAll [] ((D.take j).map fun d => num (eN D) (d / 2))) ∧ M < st2.next) D.length ?_ ?_
  · refine ⟨0, by omega, by omega, by simp [f5], by simp [f7], by simp [f8], by simp, by simp [wV, nms], by simp [eN, nms], by simp, by simp [addAll, hM], ⟨by simp [addAll], by simp [addAll]⟩, by simp [hM]⟩
  clear f2 f5 f7 f42 f8 hkp hns hM fr s
  rintro n fr s ⟨j, hj, rfl, f5, f7, f8, f11, f12, f13, f14, hMs, hT, hsn⟩ JJ hJJ
  have hL2 : ((tel m v D).length : Int) = 2 * (D.length : Int) := by omega
  by_cases hlt : j < D.length
  · obtain ⟨a, b, g1, g2, g3, ⟨a1, a2, a3⟩, b1, b2, b3⟩ := tel_step m v D j hlt
    have hd1 := us_drop_getD (tel m v D) (2 * j) (by omega)
    have hd2 := us_drop_getD (tel m v D) (2 * j + 1) (by omega)
    have htk : (D.take (j + 1)).map (fun d => num (eN D) (d / 2)) = (D.take j).map (fun d => num (eN D) (d / 2)) ++ [a] := by
      rw [g3, getD_lt _ _ hlt, List.take_succ_eq_append_getElem hlt, List.map_append]; rfl
    have hAA : addAll [] ((D.take (j + 1)).map fun d => num (eN D) (d / 2)) = add1 (addAll [] ((D.take j).map fun d => num (eN D) (d / 2))) a := by rw [htk]; simp [addAll, List.foldl_append]
    rw [g1] at hd1
    rw [g2] at hd2
    have l1 := eN_le (D.take j)
    have l2 := wV_le m.g.es v (D.take j)
    rw [List.length_take] at l1 l2
    obtain ⟨c1, c2, c3⟩ := cntM_get hT (by omega) a
    have hT2 := hT.add (by omega) (k := a) (by omega)
    clear htk g1 g2 g3
    obtain ⟨kk, hkk⟩ : ∃ kk : Nat, kk = 2 * j := ⟨_, rfl⟩
    rw [← hkk] at f14 hd1 hd2
    have hJ2 := fun fr' st' => hJJ (D.length - (j + 1)) fr' st' (by omega)
    generalize hel : (eN (D.take j)).length = el at *
    generalize hvl : (wV m.g.es v (D.take j)).length = vl at *
    generalize hel' : (eN (D.take (j + 1))).length = el' at *
    generalize hvl' : (wV m.g.es v (D.take (j + 1))).length = vl' at *
    generalize hes : addAll [] ((D.take j).map fun d => num (eN D) (d / 2)) = es at *
    have w1 : IntKind.u32.wrap ((el : Int) + 1) = (el : Int) + 1 := wrap_u32' _ (by omega) (by omega)
    have w2 : IntKind.u32.wrap ((vl : Int) + 1) = (vl : Int) + 1 := wrap_u32' _ (by omega) (by omega)
    have w3 := nat_add_one kk (by omega)
    have w4 : IntKind.i64.wrap ((kk : Int) + 2) = ((2 * (j + 1) : Nat) : Int) := by rw [wrap_i64 _ (by omega) (by omega)]; omega
    have w5 : IntKind.i64.wrap (cntM es a + 1) = cntM es a + 1 := wrap_i64 _ (by omega) (by omega)
    have n1 : ¬ (el : Int) + 1 < a := by omega
    have n2 : ¬ (vl : Int) + 1 < b := by omega
    have hm1 : (if (el : Int) < a then a else (el : Int)) = (el' : Int) := by rw [← a3]; split <;> omega
    have hm2 : (if (vl : Int) < b then b else (vl : Int)) = (vl' : Int) := by rw [← b3]; split <;> omega
    have hk1 : kk < (tel m v D).length := by omega
    have hk2 : kk + 1 < (tel m v D).length := by omega
    have hadd : mset es [a] (i (cntM es a + 1)) = add1 es a := rfl
    (repeat' (first | refine awp_seq ?_ | refine awp_block ?_ | (refine awp_skip ?_; simp only [ak, reduceIte]) | (refine awp_cond ?_; simp [f5, f11, f12, f13, f14, w1, w3, hk1, hk2, hd1, hd2, w2, n1, n2, hm1, hm2, hMs, c1, w4, w5, hadd]) | ((first | (refine w_e [] ?_; intro J hJ; simp only []) | (refine w_q ?_; intro J hJ)); simp [f5, f11, f12, f13, f14, w1, w3, hk1, hk2, hd1, hd2, w2, n1, n2, hm1, hm2, hMs, c1, w4, w5, hadd]; (repeat refine ca ?_); (refine hJ _ _ ?_; clear hJ J; simp only [ak, reduceIte]))))
    exact hJ2 _ _ ⟨j + 1, by omega, rfl, by simp [f5], by simp [f7], by simp [f8], by simp [f11], by simp [hvl'], by simp [hel'], by simp, by rw [hAA]; simp, by rw [hAA]; simpa using hT2, by simpa using hsn⟩
  clear hJJ
  obtain rfl : j = D.length := by omega
  rw [List.take_length] at f12 f13 hMs hT
  have hal := fun p hp => hwk.two h hT (p := p) hp
  have hhf := hwk.half h
  have hvc := hpm2.length_eq
  (repeat' (first | refine awp_seq ?_ | (refine w_e [] ?_; intro J hJ; simp only []; simp [f5, f14, hL2]; (refine hJ _ _ ?_; clear hJ J; simp only [ak, reduceIte]))))
  (refine awp_cond ?_; simp [])
  refine awp_exit ?_
  simp only [ak, reduceIte]
  refine awp_seq ?_
  refine awp_mapRange tabOk [] (fun L fr s => (fr 7 = .sl 0 c.length (us c) ∧ fr 8 = i (D.length : Nat) ∧ fr 12 = u ((wV m.g.es v D).length : Nat) ∧ fr 13 = u ((eN D).length : Nat)) ∧ ∀ p ∈ L, p.2 = i 2) (m := M) (ag := false) (ks := [.u32]) (es := addAll [] (D.map fun d => num (eN D) (d / 2))) (by simp [f11]) hMs ?_ ?_ ?_ Tryz.underlying71
  · intro r
    exact ⟨⟨by simp [f7], by simp [f8], by simp [f12], by simp [f13]⟩, hal⟩
  · clear f5 f7 f8 f11 f12 f13 f14
    rintro r L1 p L2 fr s2 ⟨⟨f7, f8, f12, f13⟩, hL⟩ ft J hJ
    have hp2 := hL p (by simp)
    have hL' : ∀ q ∈ L1 ++ L2, q.2 = i 2 := fun q hq => hL q (by simp only [List.mem_append, List.mem_cons] at hq ⊢; rcases hq with h | h; exact .inl h; exact .inr (.inr h))
    refine e_go ?_
    simp [keyV, mkC, hp2]
    (repeat' (first | refine awp_seq ?_ | (refine awp_skip ?_; simp only [ak, reduceIte]) | (refine awp_cond ?_; simp [hp2]) | (refine w_e [] ?_; intro J hJ; simp only []; simp [hp2]; (refine hJ _ _ ?_; clear hJ J; simp only [ak, reduceIte]))))
    exact hJ _ _ ⟨⟨by simp [f7], by simp [f8], by simp [f12], by simp [f13]⟩, hL'⟩ (by simp [ft])
  · rintro fr s2 ⟨⟨f7, f8, f12, f13⟩, _⟩
    simp only [ak]
    have w1 : IntKind.i64.wrap (((eN D).length : Nat) : Int) = ((eN D).length : Nat) := wrap_i64 _ (by omega) (by omega)
    have w2 : IntKind.i64.wrap (((wV m.g.es v D).length : Nat) : Int) = (c.length : Nat) := by rw [wrap_i64 _ (by omega) (by omega)]; omega
    have w3 : ((D.length : Nat) : Int).tdiv 2 = ((eN D).length : Nat) := by rw [Int.tdiv_eq_ediv_of_nonneg (by omega)]; omega
    (repeat' (first | refine awp_seq ?_ | (refine awp_ret ?_; simp only [ak, reduceIte]; simp [f7, f8, f12, f13, w1, w2, w3]) | (refine w_e [] ?_; intro J hJ; simp only []; simp [f7, f8, f12, f13, w1, w2, w3]; (refine hJ _ _ ?_; clear hJ J; simp only [ak, reduceIte]))))

theorem CanonWalks_shp (l0 l1 : List LV) (st : St) (h0 : Shp tab 28 l0) (h1 : Shp tab 48 l1) : ACalls Tryz.prog 9 [argT tab 28 l0, argT tab 48 l1] st fun r st' => r = bb true := by
  obtain ⟨m, rfl, _⟩ := shp_mp h0
  obtain ⟨d, rfl, hd⟩ := shp_u h1
  exact CanonWalks m d st hd.1

end Go.Proofs.YtlnefdmdabhobaaGreat.Aw
