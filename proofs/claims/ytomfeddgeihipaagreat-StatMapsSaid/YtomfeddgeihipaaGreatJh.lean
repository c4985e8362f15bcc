/- The law StatMaps. -/
import Derived.Test.YtomfeddgeihipaaGreatJg
namespace Go.Proofs.YtomfeddgeihipaaGreat.Aw
open Go Go.RowKit Go.Proofs.YtomfeddgeihipaaGreat.Pl
set_option linter.unusedSimpArgs false
set_option linter.unusedVariables false
open Eu

theorem count_takeR (p : List Int → Bool) (l : List (List Int)) (k : Nat) (hk : k < l.length) : (l.take (k + 1)).countP p = (l.take k).countP p + (if p (l.getD k []) = true then 1 else 0) := by
  rw [List.take_succ_eq_append_getElem hk, List.countP_append, List.countP_singleton, List.getD_eq_getElem?_getD, List.getElem?_eq_getElem hk]; rfl
theorem cnt_degs (g : Gr) (n : Int) : cntM (addAll [] (degs g)) n = (g.vs.countP fun v => decide (((ends g.es v).length : Int) = n) : Nat) := by
  rw [cnt_all]
  have h0 : cntM [] n = 0 := rfl
  rw [h0, degs, List.countP_map]
  simp [Function.comp_def]
theorem cnt_sizs (R : List (List Int)) (n : Int) : cntM (addAll [] (sizs R)) n = (R.countP fun c => decide ((c.length : Int) = n) : Nat) := by
  rw [cnt_all]
  have h0 : cntM [] n = 0 := rfl
  rw [h0, sizs, List.countP_map]
  simp [Function.comp_def]

set_option maxHeartbeats 4000000 in
theorem StatMaps (m : Mp) (n : Int) (st : St) :
    ACalls Tryz.prog 13 [.ag (mpL m), i n] st fun r st' => r = bb true := by
  refine acalls_of_body tabOk Tryz.func13 rfl rfl Tryz.ntmps13 (rs := [.tmp 4]) rfl (by simp) ?_
  refine awp_posG fun hpos => ?_
  (repeat' (first | refine awp_seq ?_ | (refine w_e [] ?_; intro J hJ; simp only []; simp []; (try (refine hJ _ _ ?_; clear hJ J; simp only [ak, reduceIte])))))
  refine callK_ofE (awake37 _) (by simp []) ?_; rintro r st' ⟨rfl, rfl⟩
  by_cases h1 : (24 : Int) < m.g.es.length
  · (repeat' (first | refine awp_seq ?_ | (refine awp_skip ?_; simp only [ak, reduceIte]) | (refine awp_ret ?_; simp only [ak, reduceIte]; simp [h1]) | (refine awp_cond ?_; simp [h1]) | ((first | (refine w_e [] ?_; intro J hJ; simp only []) | (refine e_go ?_)); simp [h1]; (refine hJ _ _ ?_; clear hJ J; simp only [ak, reduceIte]))))
  by_cases h2 : (64 : Int) < m.rots.length
  · (repeat' (first | refine awp_seq ?_ | (refine awp_skip ?_; simp only [ak, reduceIte]) | (refine awp_ret ?_; simp only [ak, reduceIte]; simp [h1, h2]) | (refine awp_cond ?_; simp [h1, h2]) | ((first | (refine w_e [] ?_; intro J hJ; simp only []) | (refine e_go ?_)); simp [h1, h2]; (refine hJ _ _ ?_; clear hJ J; simp only [ak, reduceIte]))))
  (repeat' (first | refine awp_seq ?_ | (refine awp_skip ?_; simp only [ak, reduceIte]) | (refine awp_cond ?_; simp [h1, h2]) | ((first | (refine w_e [] ?_; intro J hJ; simp only []) | (refine e_go ?_)); simp [h1, h2]; (try (refine hJ _ _ ?_; clear hJ J; simp only [ak, reduceIte])))))
  refine callK_ofE (ref_rCheckS m _ (by omega) (by omega)) (by simp) ?_; rintro r s1 ⟨rfl, hk1⟩
  have hn1 := hk1.next
  simp only [new_next] at hn1
  have hG1 : s1.H st.next = .box 85 3 (mpL m) := by rw [hk1.H _ (by simp)]; simp
  by_cases hc : rchk m = 0
  rotate_left
  · generalize rchk m = x at *
    (repeat' (first | refine awp_seq ?_ | (refine awp_ret ?_; simp only [ak, reduceIte]; simp [hc]) | (refine awp_cond ?_; simp [hc]) | ((first | (refine w_e [] ?_; intro J hJ; simp only []) | (refine e_go ?_)); simp [hc]; (refine hJ _ _ ?_; clear hJ J; simp only [ak, reduceIte]))))
  have h := (rchk_zero hc).2
  have hv := chk_smallS hc
  have he : m.g.es.length ≤ 24 := by omega
  have hid : idOk m.g.es := fun x hx => by have := h.g.pos x hx; omega
  (repeat' (first | refine awp_seq ?_ | (refine awp_skip ?_; simp only [ak, reduceIte]) | (refine awp_cond ?_; simp [hc, hG1]) | ((first | (refine w_e [] ?_; intro J hJ; simp only []) | (refine e_go ?_)); simp [hc, hG1]; (try (refine hJ _ _ ?_; clear hJ J; simp only [ak, reduceIte])))))
  refine callK_ofE (sOf m h _ (by omega) (by omega)) (by simp) ?_; rintro r s2 ⟨M, R, rfl, hM0, hM1, hk2, hM, hT, hR⟩
  have hn2 := hk2.next
  have hG2 := (hk2.H st.next (by omega)).trans hG1
  have e1 : ¬ st.next = s2.next := by omega
  have e2 : ¬ M = s2.next := by omega
  (repeat' (first | refine awp_seq ?_ | ((first | (refine w_e [] ?_; intro J hJ; simp only []) | (refine e_go ?_)); simp [e1, hG2, OfC]; (try (refine hJ _ _ ?_; clear hJ J; simp only [ak, reduceIte])))))
  refine callK_ofE (ref_Faces m h _ (by omega) (by omega)) (by simp) ?_; rintro r s3 ⟨⟨t3, R', rfl, hR'⟩, hk3⟩
  obtain rfl := hR.unique hR'
  have hn3 := hk3.next
  simp only [new_next] at hn3
  have hG3 : s3.H st.next = .box 85 3 (mpL m) := by rw [hk3.H _ (by simp; omega), new_H, if_neg e1]; exact hG2
  have hM3 : s3.H M = .map false [.i64] (addAll [] (degs m.g)) := by rw [hk3.H _ (by simp; omega), new_H, if_neg e2]; exact hM
  have hB3 : s3.H s2.next = .box 88 7 (OfC m M R.length) := by rw [hk3.H _ (by simp)]; simp [OfC]
  have hRl := hR.len
  have hdl := darts_length m.g.es
  have hrl : (rowsL3 R).length = R.length := by simp [rowsL3]
  have hb1 : st.next < s2.next := by omega
  have hb2 : s2.next < s3.next := by omega
  have hb3 : M < s3.next := by omega
  generalize s2.next = b at *
  (repeat' (first | refine awp_seq ?_ | refine awp_block ?_ | ((first | (refine w_e [] ?_; intro J hJ; simp only []) | (refine e_go ?_)); simp []; (refine hJ _ _ ?_; clear hJ J; simp only [ak, reduceIte]))))
  refine awp_range 34 33 35 44 (R.length) (fun j fr st2 => fr 1 = i n ∧ fr 2 = .pt st.next 0 ∧ fr 5 = .pt b 0 ∧ fr 6 = .sl t3 R.length (rowsL3 R) ∧ fr 32 = .sl t3 R.length (rowsL3 R) ∧ fr 7 = i ((R.take j).countP fun c => decide ((c.length : Int) = n) : Nat) ∧ st2 = s3) ?_ ?_ ?_
  · exact ⟨by simp, by simp, by simp, by simp, by simp, by simp, rfl⟩
  · rintro j fr s hlt ⟨f1, f2, f5, f6, f32, f7, rfl⟩ fi fn J hJ
    have hd := rows3_drop R j hlt
    have hct := count_takeR (fun c => decide ((c.length : Int) = n)) R j hlt
    have hle : (R.take j).countP (fun c => decide ((c.length : Int) = n)) ≤ 1000 := Nat.le_trans List.countP_le_length (by simp; omega)
    generalize R.getD j [] = c at *
    generalize (R.take j).countP (fun c => decide ((c.length : Int) = n)) = k at *
    have hw := nat_add_one k (by omega)
    by_cases h0 : (c.length : Int) = n
    · have c1 : ((c.length : Int) == n) = true := by simpa using h0
      rw [if_pos (by simpa using h0)] at hct
      (repeat' (first | refine awp_seq ?_ | (refine awp_cond ?_; simp [f1, f32, f7, fi, fn, hd, hlt, hrl, c1, hw]) | (refine w_e [] ?_; intro J hJ; simp only []; simp [f1, f32, f7, fi, fn, hd, hlt, hrl, c1, hw]; (refine hJ _ _ ?_; clear hJ J; simp only [ak, reduceIte]))))
      exact hJ _ _ (by simp [fi]) (by simp [fn]) ⟨by simp [f1], by simp [f2], by simp [f5], by simp [f6], by simp [f32], by simp [hct], rfl⟩
    · have c1 : ((c.length : Int) == n) = false := by simpa using h0
      rw [if_neg (by simpa using h0)] at hct
      (repeat' (first | refine awp_seq ?_ | (refine awp_skip ?_; simp only [ak, reduceIte]) | (refine awp_cond ?_; simp [f1, f32, f7, fi, fn, hd, hlt, hrl, c1]) | (refine w_e [] ?_; intro J hJ; simp only []; simp [f1, f32, f7, fi, fn, hd, hlt, hrl, c1]; (refine hJ _ _ ?_; clear hJ J; simp only [ak, reduceIte]))))
      exact hJ _ _ (by simp [fi]) (by simp [fn]) ⟨by simp [f1], by simp [f2], by simp [f5], by simp [f6], by simp [f32], by simp [hct, f7], rfl⟩
  · rintro fr s ⟨f1, f2, f5, f6, f32, f7, rfl⟩
    rw [List.take_length] at f7
    clear hk1 hG1 hn1 hk2 hG2 hn2 hk3 hn3 hM hM1 hR' hM0
    have hcd := cnt_degs m.g n
    have hcs := cnt_sizs R n
    have hgd := cntM_get hT (by omega) n
    have hgn := h.gn
    have hnc := ncl_le (Reach m.g.es) m.g.vs
    have w1 : IntKind.i64.wrap (2 * (Aw.gn m : Int)) = 2 * (Aw.gn m : Int) := wrap_i64 _ (by omega) (by omega)
    simp only [OfC] at hB3
    (repeat' refine awp_seq ?_)
    refine w_a [] [st.next, b, M] ?_; intro J hJ
    refine a_pre 53 [(0, true), (1, true), (2, true), (3, true), (4, true), (5, true), (6, true), (7, true), (8, true), (9, true), (10, true), (11, true), (12, true), (13, true), (14, true), (15, true), (16, true), (17, true), (18, true), (19, true), (20, true), (21, true), (22, true)] ?_
    simp [f1, f2, f5, f6, f7, hG3, hB3, hM3]
    refine a_pre 47 [(23, true), (24, true), (25, true), (26, true), (27, true), (28, true)] ?_
    simp [f1, f2, f5, f6, f7, hG3, hB3, hM3]
    refine dcallK_ofE (ref_Parts m.g s h.g.toGood (by omega) (by omega)) (by simp) ?_; rintro r s4 ⟨⟨t4, R4, rfl, hP4⟩, hk4⟩
    have hn4 := hk4.next
    have hG4 := (hk4.H st.next (by omega)).trans hG3
    have hB4 := (hk4.H b (by omega)).trans hB3
    have hM4 := (hk4.H M (by omega)).trans hM3
    have l4 := hP4.all
    refine ⟨fun _ => by simp [hG4, hG3, hB4, hB3, hM4, hM3], ?_⟩
    simp
    refine a_pre 38 [(29, true), (30, true), (31, true), (32, true), (33, true), (34, true), (35, true), (36, true), (37, true)] ?_
    simp [f1, f2, f5, f6, f7, hG3, hB3, hM3, hG4, hB4, hM4, l4, w1]
    refine dcallK_ofE (Twice m h s4 (by omega) (by omega)) (by simp) ?_; rintro r s5 ⟨rfl, hk5⟩
    have hn5 := hk5.next
    have hG5 := (hk5.H st.next (by omega)).trans hG4
    have hB5 := (hk5.H b (by omega)).trans hB4
    have hM5 := (hk5.H M (by omega)).trans hM4
    refine ⟨fun _ => by simp [hG5, hG3, hB5, hB3, hM5, hM3], ?_⟩
    simp
    refine a_pre 30 [(38, true), (39, true), (40, true), (41, true), (42, true), (43, true), (44, true), (45, true)] ?_
    simp [f1, f2, f5, f6, f7, hG3, hB3, hM3, hG5, hB5, hM5]
    refine dcallK_ofE (ref_Girth m.g s5 (by omega) (by omega)) (by simp) ?_; rintro r s6 ⟨rfl, hk6⟩
    have hn6 := hk6.next
    have hG6 := (hk6.H st.next (by omega)).trans hG5
    have hB6 := (hk6.H b (by omega)).trans hB5
    have hM6 := (hk6.H M (by omega)).trans hM5
    refine ⟨fun _ => by simp [hG6, hG3, hB6, hB3, hM6, hM3], ?_⟩
    simp
    refine a_pre 19 [(46, true), (47, true), (48, true), (49, true), (50, true), (51, true), (52, true), (53, true), (54, true), (55, true), (56, true)] ?_
    simp [f1, f2, f5, f6, f7, hG3, hB3, hM3, hG6, hB6, hM6, hgd.1, hcd]
    refine dcallK_ofE (ref_Degree m.g n s6 (by omega) (by omega) hid) (by simp) ?_; rintro r s7 ⟨rfl, hk7⟩
    have hn7 := hk7.next
    have hG7 := (hk7.H st.next (by omega)).trans hG6
    have hB7 := (hk7.H b (by omega)).trans hB6
    have hM7 := (hk7.H M (by omega)).trans hM6
    refine ⟨fun _ => by simp [hG7, hG3, hB7, hB3, hM7, hM3], ?_⟩
    simp
    refine a_pre 12 [(57, true), (58, true), (59, true), (60, true), (62, true), (64, true), (61, true)] ?_
    simp [f1, f2, f5, f6, f7, hG3, hB3, hM3, hG7, hB7, hM7]
    refine dcallK_ofE (Sizes m h s7 (by omega) (by omega)) (by simp) ?_; rintro r s8 ⟨M2, R2, rfl, a1, a2, hk8, hM8', hT8, hR2⟩
    obtain rfl := hR.unique hR2
    have hn8 := hk8.next
    have hG8 := (hk8.H st.next (by omega)).trans hG7
    have hB8 := (hk8.H b (by omega)).trans hB7
    have hM8 := (hk8.H M (by omega)).trans hM7
    have hgs := cntM_get hT8 (by omega) n
    refine ⟨fun _ => by simp [hG8, hG3, hB8, hB3, hM8, hM3], ?_⟩
    simp
    refine a_one 11 63 ?_
    unfold AOne
    simp [hM8', hgs.1, hcs]
    refine a_pre 3 [(65, true), (66, true), (67, true), (68, true), (69, true), (71, true), (72, true), (70, true)] ?_
    simp [f1, f2, f5, f6, f7, hG3, hB3, hM3, hG8, hB8, hM8]
    refine dcallK_ofE (Girth m.g (m.g.vs.length + 1) (refGirth m.g) s8 (by omega) (by omega) (by omega) (girth_same h.g.toGood (by omega) (by omega))) (by simp) ?_; rintro r s9 ⟨rfl, hk9⟩
    have hG9 := (hk9.H st.next (by omega)).trans hG8
    have hB9 := (hk9.H b (by omega)).trans hB8
    have hM9 := (hk9.H M (by omega)).trans hM8
    refine ⟨fun _ => by simp [hG9, hG3, hB9, hB3, hM9, hM3], ?_⟩
    simp
    refine a_pre 0 [(73, true), (74, true), (75, true)] ?_
    simp
    refine aany_end (hJ _ _ ?_)
    simp only [ak]
    (repeat' (refine awp_ret ?_; simp only [ak, reduceIte]; simp []))

theorem StatMaps_shp (l0 l1 : List LV) (st : St) (h0 : Shp tab 85 l0) (h1 : Shp tab 3 l1) :
    ACalls Tryz.prog 13 [argT tab 85 l0, argT tab 3 l1] st fun r st' => r = bb true := by
  obtain ⟨m, rfl, _⟩ := shp_mp h0
  obtain ⟨n, rfl, _⟩ := shp_int (by rfl) rfl h1
  exact StatMaps m n st

end Go.Proofs.YtomfeddgeihipaaGreat.Aw
