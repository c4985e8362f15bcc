/- Maps: the genus, the program's and the document's. Maps: whether one may be, as the document says it; whether it lies in the plane. Whether any graph may be, of whatever size, as the document says it. The law DualMaps. Maps: Turn, Face. The dual of a map: it may be, has the same genus, and its faces are the turns. No program. The law DualPlane. -/
import Derived.Test.YtphdhggoaijfoaaGreatJg
namespace Go.Proofs.YtphdhggoaijfoaaGreat.Aw
open Go Go.RowKit Go.Proofs.YtphdhggoaijfoaaGreat.Pl Go.Proofs.YtphdhggoaijfoaaGreat.Eu
set_option linter.unusedSimpArgs false
set_option linter.unusedVariables false

/-- A map's genus. -/
noncomputable def gn (m : Mp) : Nat := (2 * ncl (Reach m.g.es) m.g.vs + m.g.es.length - (alone m.g + m.g.vs.length + ncl (Orb (fc m m.g.es)) (darts m.g.es))) / 2
theorem MapOk.gn {m : Mp} (h : MapOk m) : 2 * ncl (Reach m.g.es) m.g.vs + m.g.es.length = 2 * gn m + alone m.g + m.g.vs.length + ncl (Orb (fc m m.g.es)) (darts m.g.es) := by
  obtain ⟨k, hk⟩ := h.euler
  have : Aw.gn m = k := by unfold Aw.gn; omega
  omega

set_option maxHeartbeats 1000000 in
theorem Genus (m : Mp) (h : MapOk m) (st : St) (hv : m.g.vs.length ≤ 1000) (he : m.g.es.length ≤ 1000) :
    ACalls Tryz.prog 13 [.ag (mpL m)] st fun r st' => r = i (gn m) ∧ Keeps st st' := by
  have hP := h.fc_per m.g.es (fun x hx => hx)
  have hgn := h.gn
  have hal : alone m.g ≤ m.g.vs.length := List.countP_le_length
  have hdl := darts_length m.g.es
  refine acalls_of_body tabOk Tryz.func13 rfl rfl Tryz.ntmps13 (rs := [.tmp 2]) rfl (by simp) ?_
  (repeat' (first | refine awp_seq ?_ | refine awp_block ?_ | ((first | refine awp_skip ?_ | refine awp_exit ?_); simp only [ak, reduceIte]) | (refine awp_ret ?_; simp only [ak, reduceIte]; simp []) | (refine awp_cond ?_; simp []; (try with_reducible refine ⟨?_, ?_⟩) <;> (try with_reducible intro hc) <;> try (exfalso; omega)) | ((first | (refine w_e [] ?_; intro J hJ; simp only []) | (refine w_q ?_; intro J hJ) | refine e_go ?_); simp []; (repeat refine ca ?_); (try ((try with_reducible refine ⟨?_, ?_⟩) <;> (try with_reducible intro hnil) <;> refine hJ _ _ ?_ <;> clear hJ J <;> simp only [ak, reduceIte] <;> try subst hnil)))))
  (refine w_s [] [st.next] [(0, true), (1, true), (4, true), (5, true), (2, true), (3, true), (6, true), (7, true), (8, true)] ?_; intro J hJ; simp []; (repeat refine ca ?_); (try ((try with_reducible refine ⟨?_, ?_⟩) <;> (try with_reducible intro hnil) <;> refine hJ _ _ ?_ <;> clear hJ J <;> simp only [ak, reduceIte] <;> try subst hnil)))
  refine dcallK_ofE (Parts m.g _ h.g.toGood hv he) (by simp) ?_; rintro r s1 ⟨⟨t, R, rfl, hR⟩, hk1⟩
  have hn1 := hk1.next
  simp only [new_next] at hn1
  have hG1 := hk1.H st.next (by simp)
  simp at hG1
  refine ⟨fun _ => by simp [hG1], ?_⟩
  (refine d_go ?_; simp [hG1]; (repeat refine ca ?_); (try ((try with_reducible refine ⟨?_, ?_⟩) <;> (try with_reducible intro hnil) <;> refine hJ _ _ ?_ <;> clear hJ J <;> simp only [ak, reduceIte] <;> try subst hnil)))
  refine dcallK_ofE (Alone m.g _ hv he) (by simp) ?_; rintro r s2 ⟨rfl, hk2⟩
  have hn2 := hk2.next
  have hG2 := (hk2.H st.next (by omega)).trans hG1
  refine ⟨fun _ => by simp [hG2], ?_⟩
  (refine d_go ?_; simp [hG2]; (repeat refine ca ?_); (try ((try with_reducible refine ⟨?_, ?_⟩) <;> (try with_reducible intro hnil) <;> refine hJ _ _ ?_ <;> clear hJ J <;> simp only [ak, reduceIte] <;> try subst hnil)))
  have hRn := hR.all
  have hRl := hR.len
  generalize R.length = p at *
  generalize alone m.g = al at *
  refine awp_seq ?_
  (refine w_s [] [st.next] [(0, true), (1, true), (2, true), (3, true), (4, true), (5, true), (6, true), (7, true), (8, true), (9, true), (10, true), (11, true), (12, true), (13, true), (14, true), (15, true), (16, true), (17, true), (18, true), (19, true)] ?_; intro J hJ; simp [hG2]; (repeat refine ca ?_); (try ((try with_reducible refine ⟨?_, ?_⟩) <;> (try with_reducible intro hnil) <;> refine hJ _ _ ?_ <;> clear hJ J <;> simp only [ak, reduceIte] <;> try subst hnil)))
  refine dcallK_ofE (Faces m h _ hv he) (by simp) ?_; rintro r s3 ⟨⟨t3, F, rfl, hF⟩, hk3⟩
  have hG3 := (hk3.H st.next (by omega)).trans hG2
  refine ⟨fun _ => by simp [hG3, hG2], ?_⟩
  have hFn := hF.all hP
  have hFl := hF.len
  generalize F.length = f at *
  have w1 : IntKind.i64.wrap (2 * (p : Int)) = 2 * p := wrap_i64 _ (by omega) (by omega)
  have w2 : IntKind.i64.wrap (2 * (p : Int) - al) = 2 * p - al := wrap_i64 _ (by omega) (by omega)
  have w3 : IntKind.i64.wrap (2 * (p : Int) - al - m.g.vs.length) = 2 * p - al - m.g.vs.length := wrap_i64 _ (by omega) (by omega)
  have w4 : IntKind.i64.wrap (2 * (p : Int) - al - m.g.vs.length + m.g.es.length) = 2 * p - al - m.g.vs.length + m.g.es.length := wrap_i64 _ (by omega) (by omega)
  have w5 : IntKind.i64.wrap (2 * (p : Int) - al - m.g.vs.length + m.g.es.length - f) = 2 * (gn m : Int) := by rw [wrap_i64 _ (by omega) (by omega)]; omega
  have w6 : IntKind.i64.wrap ((2 * (gn m : Int)).tdiv 2) = (gn m : Int) := by
    rw [Int.mul_comm, Int.mul_tdiv_cancel _ (by omega)]
    exact wrap_i64 _ (by omega) (by omega)
  (refine d_go ?_; simp [hG3, hG2, w1, w2, w3, w4, w5, w6]; (repeat refine ca ?_); (try ((try with_reducible refine ⟨?_, ?_⟩) <;> (try with_reducible intro hnil) <;> refine hJ _ _ ?_ <;> clear hJ J <;> simp only [ak, reduceIte] <;> try subst hnil)))
  (repeat' (first | refine awp_seq ?_ | refine awp_block ?_ | ((first | refine awp_skip ?_ | refine awp_exit ?_); simp only [ak, reduceIte]) | (refine awp_ret ?_; simp only [ak, reduceIte]; simp []) | (refine awp_cond ?_; simp []; (try with_reducible refine ⟨?_, ?_⟩) <;> (try with_reducible intro hc) <;> try (exfalso; omega)) | ((first | (refine w_e [] ?_; intro J hJ; simp only []) | (refine w_q ?_; intro J hJ) | refine e_go ?_); simp []; (repeat refine ca ?_); (try ((try with_reducible refine ⟨?_, ?_⟩) <;> (try with_reducible intro hnil) <;> refine hJ _ _ ?_ <;> clear hJ J <;> simp only [ak, reduceIte] <;> try subst hnil)))))
  exact ⟨wrap_i64 _ (by omega) (by omega), (((Keeps.new _ _).trans hk1).trans hk2).trans hk3⟩

theorem ends_len0 (es : List Ed) (v : Int) : (ends es v).length = 0 ↔ nbr es v = [] := by rw [List.length_eq_zero_iff, ends_nil]

set_option maxHeartbeats 1000000 in
theorem Twice (m : Mp) (h : MapOk m) (st : St) (hv : m.g.vs.length ≤ 1000) (he : m.g.es.length ≤ 1000) :
    ACalls Tryz.prog 14 [.ag (mpL m)] st fun r st' => r = i (2 * gn m) ∧ Keeps st st' := by
  have hP := h.fc_per m.g.es (fun x hx => hx)
  have hgn := h.gn
  have hal : alone m.g ≤ m.g.vs.length := List.countP_le_length
  have hdl := darts_length m.g.es
  have hid : idOk m.g.es := fun x hx => by have := h.g.pos x hx; omega
  refine acalls_of_body tabOk Tryz.func14 rfl rfl Tryz.ntmps14 (rs := [.tmp 2]) rfl (by simp) ?_
  (repeat' (first | refine awp_seq ?_ | refine awp_block ?_ | ((first | refine awp_skip ?_ | refine awp_exit ?_); simp only [ak, reduceIte]) | (refine awp_ret ?_; simp only [ak, reduceIte]; simp []) | (refine awp_cond ?_; simp []; (try with_reducible refine ⟨?_, ?_⟩) <;> (try with_reducible intro hc) <;> try (exfalso; omega)) | ((first | (refine w_e [] ?_; intro J hJ; simp only []) | (refine w_q ?_; intro J hJ) | refine e_go ?_); simp []; (repeat refine ca ?_); (try ((try with_reducible refine ⟨?_, ?_⟩) <;> (try with_reducible intro hnil) <;> refine hJ _ _ ?_ <;> clear hJ J <;> simp only [ak, reduceIte] <;> try subst hnil)))))
  refine awp_range 10 9 11 22 (m.g.vs.length) (fun j fr st2 => fr 1 = .pt st.next 0 ∧ fr 8 = .sl 0 m.g.vs.length (us m.g.vs) ∧ fr 3 = i ((m.g.vs.take j).countP fun v => decide (nbr m.g.es v = []) : Nat) ∧ st2.H st.next = .box 28 3 (mpL m) ∧ Keeps st st2 ∧ st.next < st2.next) ?_ ?_ ?_
  · exact ⟨by simp, by simp, by simp, by simp, Keeps.new _ _, by simp⟩
  · rintro j fr st2 hlt ⟨f1, f8, f3, hG, hkp, hsn⟩ fi fn JJ hJJ
    have hd := us_drop_getD m.g.vs j hlt
    have hct := count_take (fun v => decide (nbr m.g.es v = [])) m.g.vs j hlt
    have hle : (m.g.vs.take j).countP (fun v => decide (nbr m.g.es v = [])) ≤ j := Nat.le_trans List.countP_le_length (by simp; omega)
    generalize m.g.vs.getD j 0 = v at *
    generalize (m.g.vs.take j).countP (fun v => decide (nbr m.g.es v = [])) = c at *
    (repeat' (first | refine awp_seq ?_ | refine awp_block ?_ | ((first | refine awp_skip ?_ | refine awp_exit ?_); simp only [ak, reduceIte]) | (refine awp_ret ?_; simp only [ak, reduceIte]; simp [f1, f8, fi, fn, hd, hG, hlt]) | (refine awp_cond ?_; simp [f1, f8, fi, fn, hd, hG, hlt]; (try with_reducible refine ⟨?_, ?_⟩) <;> (try with_reducible intro hc) <;> try (exfalso; omega)) | ((first | (refine w_e [] ?_; intro J hJ; simp only []) | (refine w_q ?_; intro J hJ) | refine e_go ?_); simp [f1, f8, fi, fn, hd, hG, hlt]; (repeat refine ca ?_); (try ((try with_reducible refine ⟨?_, ?_⟩) <;> (try with_reducible intro hnil) <;> refine hJ _ _ ?_ <;> clear hJ J <;> simp only [ak, reduceIte] <;> try subst hnil)))))
    refine callK_ofE (ref_Ends m.g v _ he hid) (by simp) ?_; rintro r s3 ⟨⟨t, rfl⟩, hk3⟩
    have hn3 := hk3.next
    have e0 := ends_len0 m.g.es v
    have hw := nat_add_one c (by omega)
    by_cases h0 : nbr m.g.es v = []
    · have e1 := e0.2 h0
      rw [if_pos (by simpa using h0)] at hct
      (repeat' (first | refine awp_seq ?_ | refine awp_block ?_ | ((first | refine awp_skip ?_ | refine awp_exit ?_); simp only [ak, reduceIte]) | (refine awp_ret ?_; simp only [ak, reduceIte]; simp [e1, f3, hw]) | (refine awp_cond ?_; simp [e1, f3, hw]; (try with_reducible refine ⟨?_, ?_⟩) <;> (try with_reducible intro hc) <;> try (exfalso; omega)) | ((first | (refine w_e [] ?_; intro J hJ; simp only []) | (refine w_q ?_; intro J hJ) | refine e_go ?_); simp [e1, f3, hw]; (repeat refine ca ?_); (try ((try with_reducible refine ⟨?_, ?_⟩) <;> (try with_reducible intro hnil) <;> refine hJ _ _ ?_ <;> clear hJ J <;> simp only [ak, reduceIte] <;> try subst hnil)))))
      exact hJJ _ _ (by simp [fi]) (by simp [fn]) ⟨by simp [f1], by simp [f8], by simp [hct], (hk3.H _ hsn).trans hG, hkp.trans hk3, by omega⟩
    · have e1 : ¬ (ends m.g.es v).length = 0 := fun e => h0 (e0.1 e)
      rw [if_neg (by simpa using h0)] at hct
      generalize (ends m.g.es v).length = el at *
      (repeat' (first | refine awp_seq ?_ | refine awp_block ?_ | ((first | refine awp_skip ?_ | refine awp_exit ?_); simp only [ak, reduceIte]) | (refine awp_ret ?_; simp only [ak, reduceIte]; simp [e1, f3]) | (refine awp_cond ?_; simp [e1, f3]; (try with_reducible refine ⟨?_, ?_⟩) <;> (try with_reducible intro hc) <;> try (exfalso; omega)) | ((first | (refine w_e [] ?_; intro J hJ; simp only []) | (refine w_q ?_; intro J hJ) | refine e_go ?_); simp [e1, f3]; (repeat refine ca ?_); (try ((try with_reducible refine ⟨?_, ?_⟩) <;> (try with_reducible intro hnil) <;> refine hJ _ _ ?_ <;> clear hJ J <;> simp only [ak, reduceIte] <;> try subst hnil)))))
      exact hJJ _ _ (by simp [fi]) (by simp [fn]) ⟨by simp [f1], by simp [f8], by simp [hct, f3], (hk3.H _ hsn).trans hG, hkp.trans hk3, by omega⟩
  rintro fr st2 ⟨f1, f8, f3, hG, hkp, hsn⟩
  rw [List.take_length] at f3
  have f3' : fr 3 = i (alone m.g) := f3
  clear f3
  (repeat' (first | refine awp_seq ?_ | refine awp_block ?_ | ((first | refine awp_skip ?_ | refine awp_exit ?_); simp only [ak, reduceIte]) | (refine awp_ret ?_; simp only [ak, reduceIte]; simp []) | (refine awp_cond ?_; simp []; (try with_reducible refine ⟨?_, ?_⟩) <;> (try with_reducible intro hc) <;> try (exfalso; omega)) | ((first | (refine w_e [] ?_; intro J hJ; simp only []) | (refine w_q ?_; intro J hJ) | refine e_go ?_); simp []; (repeat refine ca ?_); (try ((try with_reducible refine ⟨?_, ?_⟩) <;> (try with_reducible intro hnil) <;> refine hJ _ _ ?_ <;> clear hJ J <;> simp only [ak, reduceIte] <;> try subst hnil)))))
  (refine w_s [] [st.next] [(0, true), (1, true), (5, true), (7, true), (8, true), (9, true), (10, true), (12, true), (13, true), (14, true), (15, true), (17, true), (2, true), (3, true), (4, true), (6, true), (11, true), (16, true), (18, true), (19, true), (20, true), (21, true)] ?_; intro J hJ; simp [f1, f3', hG]; (repeat refine ca ?_); (try ((try with_reducible refine ⟨?_, ?_⟩) <;> (try with_reducible intro hnil) <;> refine hJ _ _ ?_ <;> clear hJ J <;> simp only [ak, reduceIte] <;> try subst hnil)))
  refine dcallK_ofE (ref_Parts m.g _ h.g.toGood hv he) (by simp) ?_; rintro r s1 ⟨⟨t, R, rfl, hR⟩, hk1⟩
  have hn1 := hk1.next
  have hG1 := (hk1.H st.next (by omega)).trans hG
  refine ⟨fun _ => by simp [hG1, hG], ?_⟩
  have hRn := hR.all
  have hRl := hR.len
  generalize R.length = p at *
  generalize alone m.g = al at *
  have w1 : IntKind.i64.wrap (2 * (p : Int)) = 2 * p := wrap_i64 _ (by omega) (by omega)
  have w2 : IntKind.i64.wrap (2 * (p : Int) - al) = 2 * p - al := wrap_i64 _ (by omega) (by omega)
  have w3 : IntKind.i64.wrap (2 * (p : Int) - al - m.g.vs.length) = 2 * p - al - m.g.vs.length := wrap_i64 _ (by omega) (by omega)
  have w4 : IntKind.i64.wrap (2 * (p : Int) - al - m.g.vs.length + m.g.es.length) = 2 * p - al - m.g.vs.length + m.g.es.length := wrap_i64 _ (by omega) (by omega)
  (refine d_go ?_; simp [hG1, hG, f1, f3', w1, w2, w3, w4]; (repeat refine ca ?_); (try ((try with_reducible refine ⟨?_, ?_⟩) <;> (try with_reducible intro hnil) <;> refine hJ _ _ ?_ <;> clear hJ J <;> simp only [ak, reduceIte] <;> try subst hnil)))
  refine dcallK_ofE (ref_Faces m h _ hv he) (by simp) ?_; rintro r s3 ⟨⟨t3, F, rfl, hF⟩, hk3⟩
  have hG3 := (hk3.H st.next (by omega)).trans hG1
  refine ⟨fun _ => by simp [hG3, hG1, hG], ?_⟩
  have hFn := hF.all hP
  have hFl := hF.len
  generalize F.length = f at *
  have w5 : IntKind.i64.wrap (2 * (p : Int) - al - m.g.vs.length + m.g.es.length - f) = 2 * (gn m : Int) := by rw [wrap_i64 _ (by omega) (by omega)]; omega
  (refine d_go ?_; simp [hG3, hG1, hG, w1, w2, w3, w4, w5, f1, f3']; (repeat refine ca ?_); (try ((try with_reducible refine ⟨?_, ?_⟩) <;> (try with_reducible intro hnil) <;> refine hJ _ _ ?_ <;> clear hJ J <;> simp only [ak, reduceIte] <;> try subst hnil)))
  (repeat' (first | refine awp_seq ?_ | refine awp_block ?_ | ((first | refine awp_skip ?_ | refine awp_exit ?_); simp only [ak, reduceIte]) | (refine awp_ret ?_; simp only [ak, reduceIte]; simp []) | (refine awp_cond ?_; simp []; (try with_reducible refine ⟨?_, ?_⟩) <;> (try with_reducible intro hc) <;> try (exfalso; omega)) | ((first | (refine w_e [] ?_; intro J hJ; simp only []) | (refine w_q ?_; intro J hJ) | refine e_go ?_); simp []; (repeat refine ca ?_); (try ((try with_reducible refine ⟨?_, ?_⟩) <;> (try with_reducible intro hnil) <;> refine hJ _ _ ?_ <;> clear hJ J <;> simp only [ak, reduceIte] <;> try subst hnil)))))
  exact (hkp.trans hk1).trans hk3

end Go.Proofs.YtphdhggoaijfoaaGreat.Aw

namespace Go.Proofs.YtphdhggoaijfoaaGreat.Aw
open Go Go.RowKit Go.Proofs.YtphdhggoaijfoaaGreat.Pl Go.Proofs.YtphdhggoaijfoaaGreat.Eu
set_option linter.unusedSimpArgs false
set_option linter.unusedVariables false

set_option maxHeartbeats 1000000 in
theorem ref_rCheck (m : Mp) (st : St) (hv : m.g.vs.length ≤ 1000) (he : m.g.es.length ≤ 1000) (hr : m.rots.length ≤ 1000) :
    ACalls Tryz.prog 10 [.ag (mpL m)] st fun r st' => r = i (rchk m) ∧ Keeps st st' := by
  refine acalls_of_body tabOk Tryz.func10 rfl rfl Tryz.ntmps10 (rs := [.tmp 2]) rfl (by simp) ?_
  (repeat' (first | refine awp_seq ?_ | refine awp_block ?_ | ((first | refine awp_skip ?_ | refine awp_exit ?_); simp only [ak, reduceIte]) | (refine awp_ret ?_; simp only [ak, reduceIte]; simp []) | (refine awp_cond ?_; simp []; (try with_reducible refine ⟨?_, ?_⟩) <;> (try with_reducible intro hc) <;> try (exfalso; omega)) | ((first | (refine w_e [] ?_; intro J hJ; simp only []) | (refine w_q ?_; intro J hJ) | refine e_go ?_); simp []; (repeat refine ca ?_); (try ((try with_reducible refine ⟨?_, ?_⟩) <;> (try with_reducible intro hnil) <;> refine hJ _ _ ?_ <;> clear hJ J <;> simp only [ak, reduceIte] <;> try subst hnil)))))
  refine callK_ofE (ref_Check m.g _ hv he) (by simp) ?_; rintro r s1 ⟨rfl, hk1⟩
  have hn1 := hk1.next
  simp only [new_next] at hn1
  have hG1 : s1.H st.next = .box 28 3 (mpL m) := by rw [hk1.H _ (by simp)]; simp
  have hK1 : Keeps st s1 := (Keeps.new _ _).trans hk1
  by_cases hc : chk m.g = 0
  rotate_left
  · have hrc := rchk_g hc
    generalize chk m.g = x at *
    (repeat' (first | refine awp_seq ?_ | refine awp_block ?_ | ((first | refine awp_skip ?_ | refine awp_exit ?_); simp only [ak, reduceIte]) | (refine awp_ret ?_; simp only [ak, reduceIte]; simp [hc, hrc]) | (refine awp_cond ?_; simp [hc, hrc]; (try with_reducible refine ⟨?_, ?_⟩) <;> (try with_reducible intro hc) <;> try (exfalso; omega)) | ((first | (refine w_e [] ?_; intro J hJ; simp only []) | (refine w_q ?_; intro J hJ) | refine e_go ?_); simp [hc, hrc]; (repeat refine ca ?_); (try ((try with_reducible refine ⟨?_, ?_⟩) <;> (try with_reducible intro hnil) <;> refine hJ _ _ ?_ <;> clear hJ J <;> simp only [ak, reduceIte] <;> try subst hnil)))))
    exact hK1
  have hgd := chk_goodE hc
  have hid : idOk m.g.es := fun x hx => by have := hgd.pos x hx; omega
  by_cases hl : m.rots.length = m.g.vs.length
  rotate_left
  · have hrc := rchk_len hc hl
    (repeat' (first | refine awp_seq ?_ | refine awp_block ?_ | ((first | refine awp_skip ?_ | refine awp_exit ?_); simp only [ak, reduceIte]) | (refine awp_ret ?_; simp only [ak, reduceIte]; simp [hc, hrc, hG1, hl]) | (refine awp_cond ?_; simp [hc, hrc, hG1, hl]; (try with_reducible refine ⟨?_, ?_⟩) <;> (try with_reducible intro hc) <;> try (exfalso; omega)) | ((first | (refine w_e [] ?_; intro J hJ; simp only []) | (refine w_q ?_; intro J hJ) | refine e_go ?_); simp [hc, hrc, hG1, hl]; (repeat refine ca ?_); (try ((try with_reducible refine ⟨?_, ?_⟩) <;> (try with_reducible intro hnil) <;> refine hJ _ _ ?_ <;> clear hJ J <;> simp only [ak, reduceIte] <;> try subst hnil)))))
    exact hK1
  (repeat' (first | refine awp_seq ?_ | refine awp_block ?_ | ((first | refine awp_skip ?_ | refine awp_exit ?_); simp only [ak, reduceIte]) | (refine awp_ret ?_; simp only [ak, reduceIte]; simp [hc, hG1, hl]) | (refine awp_cond ?_; simp [hc, hG1, hl]; (try with_reducible refine ⟨?_, ?_⟩) <;> (try with_reducible intro hc) <;> try (exfalso; omega)) | ((first | (refine w_e [] ?_; intro J hJ; simp only []) | (refine w_q ?_; intro J hJ) | refine e_go ?_); simp [hc, hG1, hl]; (repeat refine ca ?_); (try ((try with_reducible refine ⟨?_, ?_⟩) <;> (try with_reducible intro hnil) <;> refine hJ _ _ ?_ <;> clear hJ J <;> simp only [ak, reduceIte] <;> try subst hnil)))))
  refine awp_range 28 27 29 65 (m.g.vs.length) (fun j fr st2 => fr 1 = .pt st.next 0 ∧ fr 26 = .sl 0 m.g.vs.length (us m.g.vs) ∧ st2.H st.next = .box 28 3 (mpL m) ∧ Keeps st st2 ∧ st.next < st2.next ∧ ∀ k, k < j → rok m k) ?_ ?_ ?_
  · exact ⟨by simp, by simp, hG1, hK1, by omega, fun k hk => by omega⟩
  · rintro j0 fr st2 hlt ⟨f1, f26, hG, hkp, hsn, hok⟩ fi fn JJ hJJ
    have hd := us_drop_getD m.g.vs j0 hlt
    have hd2 := rowsL_drop m.rots j0 (by omega)
    have hRl : j0 < (rowsL m.rots).length := by simp; omega
    have htin : m.rots.getD j0 [] ∈ m.rots := by rw [getR_lt _ _ (by omega)]; exact List.getElem_mem _
    have hbad := fun h => rchk_bad hc hlt h
    have hnx : rok m j0 → ∀ k, k < j0 + 1 → rok m k := fun h k hk => by
      rcases Nat.lt_or_ge k j0 with h1 | h1
      · exact hok k h1
      · obtain rfl : k = j0 := by omega
        exact h
    have hok1 : rok m j0 ↔ (m.rots.getD j0 []).Perm (ends m.g.es (m.g.vs.getD j0 0)) ∧ nrm (m.rots.getD j0 []) = m.rots.getD j0 [] := Iff.rfl
    have hel : (ends m.g.es (m.g.vs.getD j0 0)).length ≤ 2 * m.g.es.length := flat_len _ (end1_len _) _
    have hrise := ends_rise hgd.ids (m.g.vs.getD j0 0)
    generalize rok m j0 = OK at *
    generalize m.rots.getD j0 [] = t at *
    generalize m.g.vs.getD j0 0 = v at *
    (repeat' (first | refine awp_seq ?_ | refine awp_block ?_ | ((first | refine awp_skip ?_ | refine awp_exit ?_); simp only [ak, reduceIte]) | (refine awp_ret ?_; simp only [ak, reduceIte]; simp [f1, f26, fi, fn, hd, hlt, hG, hd2, hRl, hl]) | (refine awp_cond ?_; simp [f1, f26, fi, fn, hd, hlt, hG, hd2, hRl, hl]; (try with_reducible refine ⟨?_, ?_⟩) <;> (try with_reducible intro hc) <;> try (exfalso; omega)) | ((first | (refine w_e [] ?_; intro J hJ; simp only []) | (refine w_q ?_; intro J hJ) | refine e_go ?_); simp [f1, f26, fi, fn, hd, hlt, hG, hd2, hRl, hl]; (repeat refine ca ?_); (try ((try with_reducible refine ⟨?_, ?_⟩) <;> (try with_reducible intro hnil) <;> refine hJ _ _ ?_ <;> clear hJ J <;> simp only [ak, reduceIte] <;> try subst hnil)))))
    refine callK_ofE (ref_Ends m.g v _ he hid) (by simp) ?_; rintro r s3 ⟨⟨te, rfl⟩, hk3⟩
    have hn3 := hk3.next
    have hG3 := (hk3.H st.next (by omega)).trans hG
    have hK3 := hkp.trans hk3
    generalize ends m.g.es v = E at *
    by_cases h1 : t.length = E.length
    rotate_left
    · have hrc := hbad fun h => h1 (hok1.1 h).1.length_eq
      have h1b : ((t.length : Int) != (E.length : Int)) = true := by simp; omega
      (repeat' (first | refine awp_seq ?_ | refine awp_block ?_ | ((first | refine awp_skip ?_ | refine awp_exit ?_); simp only [ak, reduceIte]) | (refine awp_ret ?_; simp only [ak, reduceIte]; simp [h1b, h1, hrc]) | (refine awp_cond ?_; simp [h1b, h1, hrc]; (try with_reducible refine ⟨?_, ?_⟩) <;> (try with_reducible intro hc) <;> try (exfalso; omega)) | ((first | (refine w_e [] ?_; intro J hJ; simp only []) | (refine w_q ?_; intro J hJ) | refine e_go ?_); simp [h1b, h1, hrc]; (repeat refine ca ?_); (try ((try with_reducible refine ⟨?_, ?_⟩) <;> (try with_reducible intro hnil) <;> refine hJ _ _ ?_ <;> clear hJ J <;> simp only [ak, reduceIte] <;> try subst hnil)))))
      exact hK3
    (repeat' (first | refine awp_seq ?_ | refine awp_block ?_ | ((first | refine awp_skip ?_ | refine awp_exit ?_); simp only [ak, reduceIte]) | (refine awp_ret ?_; simp only [ak, reduceIte]; simp [h1]) | (refine awp_cond ?_; simp [h1]; (try with_reducible refine ⟨?_, ?_⟩) <;> (try with_reducible intro hc) <;> try (exfalso; omega)) | ((first | (refine w_e [] ?_; intro J hJ; simp only []) | (refine w_q ?_; intro J hJ) | refine e_go ?_); simp [h1]; (repeat refine ca ?_); (try ((try with_reducible refine ⟨?_, ?_⟩) <;> (try with_reducible intro hnil) <;> refine hJ _ _ ?_ <;> clear hJ J <;> simp only [ak, reduceIte] <;> try subst hnil)))))
    refine callK_ofE (ref_Normal t 0 _ (by unfold small; omega)) (by simp [h1]) ?_; rintro r s4 ⟨rfl, hk4⟩
    have hn4 := hk4.next
    have hG4 := (hk4.H st.next (by omega)).trans hG3
    have hK4 := hK3.trans hk4
    have hnl := nrm_length t
    (repeat' (first | refine awp_seq ?_ | refine awp_block ?_ | ((first | refine awp_skip ?_ | refine awp_exit ?_); simp only [ak, reduceIte]) | (refine awp_ret ?_; simp only [ak, reduceIte]; simp []) | (refine awp_cond ?_; simp []; (try with_reducible refine ⟨?_, ?_⟩) <;> (try with_reducible intro hc) <;> try (exfalso; omega)) | ((first | (refine w_e [] ?_; intro J hJ; simp only []) | (refine w_q ?_; intro J hJ) | refine e_go ?_); simp []; (repeat refine ca ?_); (try ((try with_reducible refine ⟨?_, ?_⟩) <;> (try with_reducible intro hnil) <;> refine hJ _ _ ?_ <;> clear hJ J <;> simp only [ak, reduceIte] <;> try subst hnil)))))
    refine callK_ofE (ref_Same t (nrm t) 0 0 _ (by unfold small; omega)) (by simp [h1, hnl]) ?_; rintro r s5 ⟨rfl, rfl⟩
    by_cases h2 : t = nrm t
    rotate_left
    · have hrc := hbad fun h => h2 (hok1.1 h).2.symm
      (repeat' (first | refine awp_seq ?_ | refine awp_block ?_ | ((first | refine awp_skip ?_ | refine awp_exit ?_); simp only [ak, reduceIte]) | (refine awp_ret ?_; simp only [ak, reduceIte]; simp [h2, hrc]) | (refine awp_cond ?_; simp [h2, hrc]; (try with_reducible refine ⟨?_, ?_⟩) <;> (try with_reducible intro hc) <;> try (exfalso; omega)) | ((first | (refine w_e [] ?_; intro J hJ; simp only []) | (refine w_q ?_; intro J hJ) | refine e_go ?_); simp [h2, hrc]; (repeat refine ca ?_); (try ((try with_reducible refine ⟨?_, ?_⟩) <;> (try with_reducible intro hnil) <;> refine hJ _ _ ?_ <;> clear hJ J <;> simp only [ak, reduceIte] <;> try subst hnil)))))
      exact hK4
    have h2' : decide (t = nrm t) = true := by simpa using h2
    rw [h2']
    (repeat' (first | refine awp_seq ?_ | refine awp_block ?_ | ((first | refine awp_skip ?_ | refine awp_exit ?_); simp only [ak, reduceIte]) | (refine awp_ret ?_; simp only [ak, reduceIte]; simp []) | (refine awp_cond ?_; simp []; (try with_reducible refine ⟨?_, ?_⟩) <;> (try with_reducible intro hc) <;> try (exfalso; omega)) | ((first | (refine w_e [] ?_; intro J hJ; simp only []) | (refine w_q ?_; intro J hJ) | refine e_go ?_); simp []; (repeat refine ca ?_); (try ((try with_reducible refine ⟨?_, ?_⟩) <;> (try with_reducible intro hnil) <;> refine hJ _ _ ?_ <;> clear hJ J <;> simp only [ak, reduceIte] <;> try subst hnil)))))
    refine awp_range 56 55 57 64 (E.length) (fun j fr st2 => fr 1 = .pt st.next 0 ∧ fr 26 = .sl 0 m.g.vs.length (us m.g.vs) ∧ fr 28 = i j0 ∧ fr 27 = i m.g.vs.length ∧ fr 6 = .sl 0 t.length (us t) ∧ fr 54 = .sl te E.length (us E) ∧ st2 = s5 ∧ ∀ k, k < j → E.getD k 0 ∈ t) ?_ ?_ ?_
    · exact ⟨by simp [f1], by simp [f26], by simp [fi], by simp [fn], by simp [h1], by simp, rfl, fun k hk => by omega⟩
    · clear f1 f26 fi fn fr
      rintro k fr st6 hk ⟨f1, f26, f28, f27, f6, f54, rfl, hall⟩ fi fn J2 hJ2
      have hd3 := us_drop_getD E k hk
      have hin : E.getD k 0 ∈ E := by rw [getD_lt _ _ hk]; exact List.getElem_mem _
      generalize hx : E.getD k 0 = x at *
      (repeat' (first | refine awp_seq ?_ | refine awp_block ?_ | ((first | refine awp_skip ?_ | refine awp_exit ?_); simp only [ak, reduceIte]) | (refine awp_ret ?_; simp only [ak, reduceIte]; simp [f54, f6, fi, fn, hd3, hk]) | (refine awp_cond ?_; simp [f54, f6, fi, fn, hd3, hk]; (try with_reducible refine ⟨?_, ?_⟩) <;> (try with_reducible intro hc) <;> try (exfalso; omega)) | ((first | (refine w_e [] ?_; intro J hJ; simp only []) | (refine w_q ?_; intro J hJ) | refine e_go ?_); simp [f54, f6, fi, fn, hd3, hk]; (repeat refine ca ?_); (try ((try with_reducible refine ⟨?_, ?_⟩) <;> (try with_reducible intro hnil) <;> refine hJ _ _ ?_ <;> clear hJ J <;> simp only [ak, reduceIte] <;> try subst hnil)))))
      refine callK_ofE (Find t 0 x _ (by unfold small; omega)) (by simp [h1]) ?_; rintro r s7 ⟨rfl, rfl⟩
      by_cases hxt : x ∈ t
      · have hg := gi_mem hxt
        (repeat' (first | refine awp_seq ?_ | refine awp_block ?_ | ((first | refine awp_skip ?_ | refine awp_exit ?_); simp only [ak, reduceIte]) | (refine awp_ret ?_; simp only [ak, reduceIte]; simp [hg]) | (refine awp_cond ?_; simp [hg]; (try with_reducible refine ⟨?_, ?_⟩) <;> (try with_reducible intro hc) <;> try (exfalso; omega)) | ((first | (refine w_e [] ?_; intro J hJ; simp only []) | (refine w_q ?_; intro J hJ) | refine e_go ?_); simp [hg]; (repeat refine ca ?_); (try ((try with_reducible refine ⟨?_, ?_⟩) <;> (try with_reducible intro hnil) <;> refine hJ _ _ ?_ <;> clear hJ J <;> simp only [ak, reduceIte] <;> try subst hnil)))))
        refine hJ2 _ _ (by simp [fi]) (by simp [fn]) ⟨by simp [f1], by simp [f26], by simp [f28], by simp [f27], by simp [f6], by simp [f54], rfl, fun q hq => ?_⟩
        rcases Nat.lt_or_ge q k with h3 | h3
        · exact hall q h3
        · obtain rfl : q = k := by omega
          rw [hx]; exact hxt
      · have hg := gi_not hxt
        have hrc := hbad fun h => hxt ((hok1.1 h).1.mem_iff.2 hin)
        (repeat' (first | refine awp_seq ?_ | refine awp_block ?_ | ((first | refine awp_skip ?_ | refine awp_exit ?_); simp only [ak, reduceIte]) | (refine awp_ret ?_; simp only [ak, reduceIte]; simp [hg, hrc]) | (refine awp_cond ?_; simp [hg, hrc]; (try with_reducible refine ⟨?_, ?_⟩) <;> (try with_reducible intro hc) <;> try (exfalso; omega)) | ((first | (refine w_e [] ?_; intro J hJ; simp only []) | (refine w_q ?_; intro J hJ) | refine e_go ?_); simp [hg, hrc]; (repeat refine ca ?_); (try ((try with_reducible refine ⟨?_, ?_⟩) <;> (try with_reducible intro hnil) <;> refine hJ _ _ ?_ <;> clear hJ J <;> simp only [ak, reduceIte] <;> try subst hnil)))))
        exact hK4
    · clear f1 f26 fi fn fr
      rintro fr st6 ⟨f1, f26, f28, f27, f6, f54, rfl, hall⟩
      (repeat' (first | refine awp_seq ?_ | refine awp_block ?_ | ((first | refine awp_skip ?_ | refine awp_exit ?_); simp only [ak, reduceIte]) | (refine awp_ret ?_; simp only [ak, reduceIte]; simp []) | (refine awp_cond ?_; simp []; (try with_reducible refine ⟨?_, ?_⟩) <;> (try with_reducible intro hc) <;> try (exfalso; omega)) | ((first | (refine w_e [] ?_; intro J hJ; simp only []) | (refine w_q ?_; intro J hJ) | refine e_go ?_); simp []; (repeat refine ca ?_); (try ((try with_reducible refine ⟨?_, ?_⟩) <;> (try with_reducible intro hnil) <;> refine hJ _ _ ?_ <;> clear hJ J <;> simp only [ak, reduceIte] <;> try subst hnil)))))
      refine hJJ _ _ (by simp [f28]) (by simp [f27]) ⟨by simp [f1], by simp [f26], hG4, hK4, by omega, hnx (hok1.2 ⟨?_, h2.symm⟩)⟩
      refine (perm_of_sub (rise_nodup hrise) (fun x hx => ?_) (by omega)).symm
      obtain ⟨q, hq, rfl⟩ := List.getElem_of_mem hx
      have := hall q hq
      rwa [getD_lt _ _ hq] at this
  · rintro fr st2 ⟨f1, f26, hG, hkp, hsn, hok⟩
    have hrc := rchk_ok hc hl hok
    (repeat' (first | refine awp_seq ?_ | refine awp_block ?_ | ((first | refine awp_skip ?_ | refine awp_exit ?_); simp only [ak, reduceIte]) | (refine awp_ret ?_; simp only [ak, reduceIte]; simp [hrc]) | (refine awp_cond ?_; simp [hrc]; (try with_reducible refine ⟨?_, ?_⟩) <;> (try with_reducible intro hc) <;> try (exfalso; omega)) | ((first | (refine w_e [] ?_; intro J hJ; simp only []) | (refine w_q ?_; intro J hJ) | refine e_go ?_); simp [hrc]; (repeat refine ca ?_); (try ((try with_reducible refine ⟨?_, ?_⟩) <;> (try with_reducible intro hnil) <;> refine hJ _ _ ?_ <;> clear hJ J <;> simp only [ak, reduceIte] <;> try subst hnil)))))
    exact hkp

/-- What Right answers. -/
noncomputable def rright (m : Mp) : Int := if rchk m ≠ 0 then rchk m else if gn m ≠ 0 then 23 else 0

theorem rRight (m : Mp) (st : St) (hv : m.g.vs.length ≤ 1000) (he : m.g.es.length ≤ 1000) (hr : m.rots.length ≤ 1000) (hs : ∀ t ∈ m.rots, t.length ≤ 1000) :
    ACalls Tryz.prog 29 [.ag (mpL m)] st fun r st' => r = i (rright m) ∧ Keeps st st' := by
  refine acalls_of_body tabOk Tryz.func29 rfl rfl Tryz.ntmps29 (rs := [.tmp 2]) rfl (by simp) ?_
  (repeat' (first | refine awp_seq ?_ | refine awp_block ?_ | ((first | refine awp_skip ?_ | refine awp_exit ?_); simp only [ak, reduceIte]) | (refine awp_ret ?_; simp only [ak, reduceIte]; simp []) | (refine awp_cond ?_; simp []; (try with_reducible refine ⟨?_, ?_⟩) <;> (try with_reducible intro hc) <;> try (exfalso; omega)) | ((first | (refine w_e [] ?_; intro J hJ; simp only []) | (refine w_q ?_; intro J hJ) | refine e_go ?_); simp []; (repeat refine ca ?_); (try ((try with_reducible refine ⟨?_, ?_⟩) <;> (try with_reducible intro hnil) <;> refine hJ _ _ ?_ <;> clear hJ J <;> simp only [ak, reduceIte] <;> try subst hnil)))))
  refine callK_ofE (rCheck m _ hv he hr hs) (by simp) ?_; rintro r s1 ⟨rfl, hk1⟩
  have hn1 := hk1.next
  simp only [new_next] at hn1
  have hG1 : s1.H st.next = .box 28 3 (mpL m) := by rw [hk1.H _ (by simp)]; simp
  have hK1 : Keeps st s1 := (Keeps.new _ _).trans hk1
  by_cases hc : rchk m = 0
  rotate_left
  · have hrc : rright m = rchk m := by unfold rright; rw [if_pos hc]
    generalize rchk m = x at *
    (repeat' (first | refine awp_seq ?_ | refine awp_block ?_ | ((first | refine awp_skip ?_ | refine awp_exit ?_); simp only [ak, reduceIte]) | (refine awp_ret ?_; simp only [ak, reduceIte]; simp [hc, hrc]) | (refine awp_cond ?_; simp [hc, hrc]; (try with_reducible refine ⟨?_, ?_⟩) <;> (try with_reducible intro hc) <;> try (exfalso; omega)) | ((first | (refine w_e [] ?_; intro J hJ; simp only []) | (refine w_q ?_; intro J hJ) | refine e_go ?_); simp [hc, hrc]; (repeat refine ca ?_); (try ((try with_reducible refine ⟨?_, ?_⟩) <;> (try with_reducible intro hnil) <;> refine hJ _ _ ?_ <;> clear hJ J <;> simp only [ak, reduceIte] <;> try subst hnil)))))
    exact hK1
  (repeat' (first | refine awp_seq ?_ | refine awp_block ?_ | ((first | refine awp_skip ?_ | refine awp_exit ?_); simp only [ak, reduceIte]) | (refine awp_ret ?_; simp only [ak, reduceIte]; simp [hc, hG1]) | (refine awp_cond ?_; simp [hc, hG1]; (try with_reducible refine ⟨?_, ?_⟩) <;> (try with_reducible intro hc) <;> try (exfalso; omega)) | ((first | (refine w_e [] ?_; intro J hJ; simp only []) | (refine w_q ?_; intro J hJ) | refine e_go ?_); simp [hc, hG1]; (repeat refine ca ?_); (try ((try with_reducible refine ⟨?_, ?_⟩) <;> (try with_reducible intro hnil) <;> refine hJ _ _ ?_ <;> clear hJ J <;> simp only [ak, reduceIte] <;> try subst hnil)))))
  refine callK_ofE (Genus m (rchk_zero hc).2 _ hv he) (by simp) ?_; rintro r s2 ⟨rfl, hk2⟩
  by_cases hg : gn m = 0
  · have hrc : rright m = 0 := by unfold rright; rw [if_neg (fun e => e hc), if_neg (fun e => e hg)]
    (repeat' (first | refine awp_seq ?_ | refine awp_block ?_ | ((first | refine awp_skip ?_ | refine awp_exit ?_); simp only [ak, reduceIte]) | (refine awp_ret ?_; simp only [ak, reduceIte]; simp [hg, hrc]) | (refine awp_cond ?_; simp [hg, hrc]; (try with_reducible refine ⟨?_, ?_⟩) <;> (try with_reducible intro hc) <;> try (exfalso; omega)) | ((first | (refine w_e [] ?_; intro J hJ; simp only []) | (refine w_q ?_; intro J hJ) | refine e_go ?_); simp [hg, hrc]; (repeat refine ca ?_); (try ((try with_reducible refine ⟨?_, ?_⟩) <;> (try with_reducible intro hnil) <;> refine hJ _ _ ?_ <;> clear hJ J <;> simp only [ak, reduceIte] <;> try subst hnil)))))
    exact hK1.trans hk2
  · have hrc : rright m = 23 := by unfold rright; rw [if_neg (fun e => e hc), if_pos hg]
    generalize gn m = x at *
    (repeat' (first | refine awp_seq ?_ | refine awp_block ?_ | ((first | refine awp_skip ?_ | refine awp_exit ?_); simp only [ak, reduceIte]) | (refine awp_ret ?_; simp only [ak, reduceIte]; simp [hg, hrc]) | (refine awp_cond ?_; simp [hg, hrc]; (try with_reducible refine ⟨?_, ?_⟩) <;> (try with_reducible intro hc) <;> try (exfalso; omega)) | ((first | (refine w_e [] ?_; intro J hJ; simp only []) | (refine w_q ?_; intro J hJ) | refine e_go ?_); simp [hg, hrc]; (repeat refine ca ?_); (try ((try with_reducible refine ⟨?_, ?_⟩) <;> (try with_reducible intro hnil) <;> refine hJ _ _ ?_ <;> clear hJ J <;> simp only [ak, reduceIte] <;> try subst hnil)))))
    exact hK1.trans hk2

theorem ref_rRight (m : Mp) (st : St) (hv : m.g.vs.length ≤ 1000) (he : m.g.es.length ≤ 1000) (hr : m.rots.length ≤ 1000) :
    ACalls Tryz.prog 26 [.ag (mpL m)] st fun r st' => r = i (rright m) ∧ Keeps st st' := by
  refine acalls_of_body tabOk Tryz.func26 rfl rfl Tryz.ntmps26 (rs := [.tmp 2]) rfl (by simp) ?_
  (repeat' (first | refine awp_seq ?_ | refine awp_block ?_ | ((first | refine awp_skip ?_ | refine awp_exit ?_); simp only [ak, reduceIte]) | (refine awp_ret ?_; simp only [ak, reduceIte]; simp []) | (refine awp_cond ?_; simp []; (try with_reducible refine ⟨?_, ?_⟩) <;> (try with_reducible intro hc) <;> try (exfalso; omega)) | ((first | (refine w_e [] ?_; intro J hJ; simp only []) | (refine w_q ?_; intro J hJ) | refine e_go ?_); simp []; (repeat refine ca ?_); (try ((try with_reducible refine ⟨?_, ?_⟩) <;> (try with_reducible intro hnil) <;> refine hJ _ _ ?_ <;> clear hJ J <;> simp only [ak, reduceIte] <;> try subst hnil)))))
  refine callK_ofE (ref_rCheck m _ hv he hr) (by simp) ?_; rintro r s1 ⟨rfl, hk1⟩
  have hn1 := hk1.next
  simp only [new_next] at hn1
  have hG1 : s1.H st.next = .box 28 3 (mpL m) := by rw [hk1.H _ (by simp)]; simp
  have hK1 : Keeps st s1 := (Keeps.new _ _).trans hk1
  by_cases hc : rchk m = 0
  rotate_left
  · have hrc : rright m = rchk m := by unfold rright; rw [if_pos hc]
    generalize rchk m = x at *
    have hcb : (x == 0) = false := by simpa using hc
    (repeat' (first | refine awp_seq ?_ | refine awp_block ?_ | ((first | refine awp_skip ?_ | refine awp_exit ?_); simp only [ak, reduceIte]) | (refine awp_ret ?_; simp only [ak, reduceIte]; simp [hcb, hc, hrc]) | (refine awp_cond ?_; simp [hcb, hc, hrc]; (try with_reducible refine ⟨?_, ?_⟩) <;> (try with_reducible intro hc) <;> try (exfalso; omega)) | ((first | (refine w_e [] ?_; intro J hJ; simp only []) | (refine w_q ?_; intro J hJ) | refine e_go ?_); simp [hcb, hc, hrc]; (repeat refine ca ?_); (try ((try with_reducible refine ⟨?_, ?_⟩) <;> (try with_reducible intro hnil) <;> refine hJ _ _ ?_ <;> clear hJ J <;> simp only [ak, reduceIte] <;> try subst hnil)))))
    exact hK1
  (repeat' (first | refine awp_seq ?_ | refine awp_block ?_ | ((first | refine awp_skip ?_ | refine awp_exit ?_); simp only [ak, reduceIte]) | (refine awp_ret ?_; simp only [ak, reduceIte]; simp [hc, hG1]) | (refine awp_cond ?_; simp [hc, hG1]; (try with_reducible refine ⟨?_, ?_⟩) <;> (try with_reducible intro hc) <;> try (exfalso; omega)) | ((first | (refine w_e [] ?_; intro J hJ; simp only []) | (refine w_q ?_; intro J hJ) | refine e_go ?_); simp [hc, hG1]; (repeat refine ca ?_); (try ((try with_reducible refine ⟨?_, ?_⟩) <;> (try with_reducible intro hnil) <;> refine hJ _ _ ?_ <;> clear hJ J <;> simp only [ak, reduceIte] <;> try subst hnil)))))
  refine callK_ofE (Twice m (rchk_zero hc).2 _ hv he) (by simp) ?_; rintro r s2 ⟨rfl, hk2⟩
  by_cases hg : gn m = 0
  · have hrc : rright m = 0 := by unfold rright; rw [if_neg (fun e => e hc), if_neg (fun e => e hg)]
    (repeat' (first | refine awp_seq ?_ | refine awp_block ?_ | ((first | refine awp_skip ?_ | refine awp_exit ?_); simp only [ak, reduceIte]) | (refine awp_ret ?_; simp only [ak, reduceIte]; simp [hg, hrc]) | (refine awp_cond ?_; simp [hg, hrc]; (try with_reducible refine ⟨?_, ?_⟩) <;> (try with_reducible intro hc) <;> try (exfalso; omega)) | ((first | (refine w_e [] ?_; intro J hJ; simp only []) | (refine w_q ?_; intro J hJ) | refine e_go ?_); simp [hg, hrc]; (repeat refine ca ?_); (try ((try with_reducible refine ⟨?_, ?_⟩) <;> (try with_reducible intro hnil) <;> refine hJ _ _ ?_ <;> clear hJ J <;> simp only [ak, reduceIte] <;> try subst hnil)))))
    exact hK1.trans hk2
  · have hrc : rright m = 23 := by unfold rright; rw [if_neg (fun e => e hc), if_pos hg]
    generalize gn m = x at *
    have hx2 : ¬ (2 * (x : Int) = 0) := by omega
    (repeat' (first | refine awp_seq ?_ | refine awp_block ?_ | ((first | refine awp_skip ?_ | refine awp_exit ?_); simp only [ak, reduceIte]) | (refine awp_ret ?_; simp only [ak, reduceIte]; simp [hx2, hg, hrc]) | (refine awp_cond ?_; simp [hx2, hg, hrc]; (try with_reducible refine ⟨?_, ?_⟩) <;> (try with_reducible intro hc) <;> try (exfalso; omega)) | ((first | (refine w_e [] ?_; intro J hJ; simp only []) | (refine w_q ?_; intro J hJ) | refine e_go ?_); simp [hx2, hg, hrc]; (repeat refine ca ?_); (try ((try with_reducible refine ⟨?_, ?_⟩) <;> (try with_reducible intro hnil) <;> refine hJ _ _ ?_ <;> clear hJ J <;> simp only [ak, reduceIte] <;> try subst hnil)))))
    exact hK1.trans hk2

end Go.Proofs.YtphdhggoaijfoaaGreat.Aw

namespace Go.Proofs.YtphdhggoaijfoaaGreat.Aw
open Go Go.RowKit Go.Proofs.YtphdhggoaijfoaaGreat.Pl
set_option linter.unusedSimpArgs false
set_option linter.unusedVariables false

theorem ref_Chk (g : Gr) (st : St) : ACalls Tryz.prog 39 [.ag (grL g)] st fun r st' => r = i (chk g) ∧ Keeps st st' := by
  by_cases h1 : (64 : Int) < (g.vs.length : Int)
  · have : chk g = 6 := by unfold chk; rw [if_pos (by omega)]
    refine acalls_of_body tabOk Tryz.func39 rfl rfl Tryz.ntmps39 (rs := [.tmp 2]) rfl (by simp) ?_
    (repeat' (first | refine awp_seq ?_ | refine awp_block ?_ | ((first | refine awp_skip ?_ | refine awp_exit ?_); simp only [ak, reduceIte]) | (refine awp_ret ?_; simp only [ak, reduceIte]; simp [h1, this]) | (refine awp_cond ?_; simp [h1, this]; (try with_reducible refine ⟨?_, ?_⟩) <;> (try with_reducible intro hc) <;> try (exfalso; omega)) | ((first | (refine w_e [] ?_; intro J hJ; simp only []) | (refine w_q ?_; intro J hJ) | refine e_go ?_); simp [h1, this]; (repeat refine ca ?_); (try ((try with_reducible refine ⟨?_, ?_⟩) <;> (try with_reducible intro hnil) <;> refine hJ _ _ ?_ <;> clear hJ J <;> simp only [ak, reduceIte] <;> try subst hnil)))))
    exact Keeps.new _ _
  by_cases h2 : (160 : Int) < (g.es.length : Int)
  · have : chk g = 6 := by unfold chk; rw [if_pos (by omega)]
    refine acalls_of_body tabOk Tryz.func39 rfl rfl Tryz.ntmps39 (rs := [.tmp 2]) rfl (by simp) ?_
    (repeat' (first | refine awp_seq ?_ | refine awp_block ?_ | ((first | refine awp_skip ?_ | refine awp_exit ?_); simp only [ak, reduceIte]) | (refine awp_ret ?_; simp only [ak, reduceIte]; simp [h1, h2, this]) | (refine awp_cond ?_; simp [h1, h2, this]; (try with_reducible refine ⟨?_, ?_⟩) <;> (try with_reducible intro hc) <;> try (exfalso; omega)) | ((first | (refine w_e [] ?_; intro J hJ; simp only []) | (refine w_q ?_; intro J hJ) | refine e_go ?_); simp [h1, h2, this]; (repeat refine ca ?_); (try ((try with_reducible refine ⟨?_, ?_⟩) <;> (try with_reducible intro hnil) <;> refine hJ _ _ ?_ <;> clear hJ J <;> simp only [ak, reduceIte] <;> try subst hnil)))))
    exact Keeps.new _ _
  exact ref_Check g st (by omega) (by omega)

end Go.Proofs.YtphdhggoaijfoaaGreat.Aw

namespace Go.Proofs.YtphdhggoaijfoaaGreat.Aw
open Go Go.RowKit Go.Proofs.YtphdhggoaijfoaaGreat.Pl Go.Proofs.YtphdhggoaijfoaaGreat.Eu
set_option linter.unusedSimpArgs false
set_option linter.unusedVariables false

theorem ref_rSame (a : Mp) (st : St) (hv : a.g.vs.length ≤ 1000) (he : a.g.es.length ≤ 1000) (hr : a.rots.length ≤ 1000) (hs : ∀ t ∈ a.rots, small t) :
    ACalls Tryz.prog 25 [.ag (mpL a), .ag (mpL a)] st fun r st' => r = bb true ∧ Keeps st st' := by
  refine acalls_of_body tabOk Tryz.func25 rfl rfl Tryz.ntmps25 (rs := [.tmp 4]) rfl (by simp) ?_
  (repeat' (first | refine awp_seq ?_ | refine awp_block ?_ | ((first | refine awp_skip ?_ | refine awp_exit ?_); simp only [ak, reduceIte]) | (refine awp_ret ?_; simp only [ak, reduceIte]; simp []) | (refine awp_cond ?_; simp []; (try with_reducible refine ⟨?_, ?_⟩) <;> (try with_reducible intro hc) <;> try (exfalso; omega)) | ((first | (refine w_e [] ?_; intro J hJ; simp only []) | (refine w_q ?_; intro J hJ) | refine e_go ?_); simp []; (repeat refine ca ?_); (try ((try with_reducible refine ⟨?_, ?_⟩) <;> (try with_reducible intro hnil) <;> refine hJ _ _ ?_ <;> clear hJ J <;> simp only [ak, reduceIte] <;> try subst hnil)))))
  refine callK_ofE (ref_SameG a.g a.g _ (by omega) (by omega)) (by simp) ?_; rintro r s1 ⟨rfl, hk1⟩
  have hn1 := hk1.next
  simp only [new_next] at hn1
  have hA1 : s1.H st.next = .box 28 3 (mpL a) := by rw [hk1.H _ (by simp; omega)]; simp
  have hB1 : s1.H (st.next + 1) = .box 28 3 (mpL a) := by rw [hk1.H _ (by simp)]; simp
  have hK1 : Keeps st s1 := ((Keeps.new _ _).trans (Keeps.new _ _)).trans hk1
  (repeat' (first | refine awp_seq ?_ | refine awp_block ?_ | ((first | refine awp_skip ?_ | refine awp_exit ?_); simp only [ak, reduceIte]) | (refine awp_ret ?_; simp only [ak, reduceIte]; simp [hA1, hB1]) | (refine awp_cond ?_; simp [hA1, hB1]; (try with_reducible refine ⟨?_, ?_⟩) <;> (try with_reducible intro hc) <;> try (exfalso; omega)) | ((first | (refine w_e [] ?_; intro J hJ; simp only []) | (refine w_q ?_; intro J hJ) | refine e_go ?_); simp [hA1, hB1]; (repeat refine ca ?_); (try ((try with_reducible refine ⟨?_, ?_⟩) <;> (try with_reducible intro hnil) <;> refine hJ _ _ ?_ <;> clear hJ J <;> simp only [ak, reduceIte] <;> try subst hnil)))))
  refine awp_range 24 23 25 39 (a.rots.length) (fun j fr st2 => fr 2 = .pt st.next 0 ∧ fr 3 = .pt (st.next + 1) 0 ∧ st2 = s1) ?_ ?_ ?_
  · exact ⟨by simp, by simp, rfl⟩
  · rintro j fr s2 hlt ⟨f2, f3, rfl⟩ fi fn JJ hJJ
    have hd := rowsL_drop a.rots j hlt
    have hRl2 : j < (rowsL a.rots).length := by simpa using hlt
    have hsk := hs (a.rots.getD j []) (by rw [getR_lt _ _ hlt]; exact List.getElem_mem _)
    generalize a.rots.getD j [] = c at *
    (repeat' (first | refine awp_seq ?_ | refine awp_block ?_ | ((first | refine awp_skip ?_ | refine awp_exit ?_); simp only [ak, reduceIte]) | (refine awp_ret ?_; simp only [ak, reduceIte]; simp [fi, fn]) | (refine awp_cond ?_; simp [fi, fn]; (try with_reducible refine ⟨?_, ?_⟩) <;> (try with_reducible intro hc) <;> try (exfalso; omega)) | ((first | (refine w_e [] ?_; intro J hJ; simp only []) | (refine w_q ?_; intro J hJ) | refine e_go ?_); simp [fi, fn]; (repeat refine ca ?_); (try ((try with_reducible refine ⟨?_, ?_⟩) <;> (try with_reducible intro hnil) <;> refine hJ _ _ ?_ <;> clear hJ J <;> simp only [ak, reduceIte] <;> try subst hnil)))))
    (refine w_s [] [st.next, st.next + 1] [(0, true), (1, true), (2, true), (3, true), (4, true), (5, true), (6, true), (7, true), (8, true), (9, true), (10, true), (11, true)] ?_; intro J hJ; simp [f2, f3, hA1, hB1, hd, hRl2, hlt]; (repeat refine ca ?_); (try ((try with_reducible refine ⟨?_, ?_⟩) <;> (try with_reducible intro hnil) <;> refine hJ _ _ ?_ <;> clear hJ J <;> simp only [ak, reduceIte] <;> try subst hnil)))
    refine dcallK_ofE (ref_Same c c 0 0 _ hsk) (by simp) ?_; rintro r s3 ⟨rfl, rfl⟩
    refine ⟨fun _ => by simp, ?_⟩
    (refine d_go ?_; simp []; (repeat refine ca ?_); (try ((try with_reducible refine ⟨?_, ?_⟩) <;> (try with_reducible intro hnil) <;> refine hJ _ _ ?_ <;> clear hJ J <;> simp only [ak, reduceIte] <;> try subst hnil)))
    (repeat' (first | refine awp_seq ?_ | refine awp_block ?_ | ((first | refine awp_skip ?_ | refine awp_exit ?_); simp only [ak, reduceIte]) | (refine awp_ret ?_; simp only [ak, reduceIte]; simp []) | (refine awp_cond ?_; simp []; (try with_reducible refine ⟨?_, ?_⟩) <;> (try with_reducible intro hc) <;> try (exfalso; omega)) | ((first | (refine w_e [] ?_; intro J hJ; simp only []) | (refine w_q ?_; intro J hJ) | refine e_go ?_); simp []; (repeat refine ca ?_); (try ((try with_reducible refine ⟨?_, ?_⟩) <;> (try with_reducible intro hnil) <;> refine hJ _ _ ?_ <;> clear hJ J <;> simp only [ak, reduceIte] <;> try subst hnil)))))
    exact hJJ _ _ (by simp [fi]) (by simp [fn]) ⟨by simp [f2], by simp [f3], rfl⟩
  · rintro fr s2 ⟨f2, f3, rfl⟩
    (repeat' (first | refine awp_seq ?_ | refine awp_block ?_ | ((first | refine awp_skip ?_ | refine awp_exit ?_); simp only [ak, reduceIte]) | (refine awp_ret ?_; simp only [ak, reduceIte]; simp []) | (refine awp_cond ?_; simp []; (try with_reducible refine ⟨?_, ?_⟩) <;> (try with_reducible intro hc) <;> try (exfalso; omega)) | ((first | (refine w_e [] ?_; intro J hJ; simp only []) | (refine w_q ?_; intro J hJ) | refine e_go ?_); simp []; (repeat refine ca ?_); (try ((try with_reducible refine ⟨?_, ?_⟩) <;> (try with_reducible intro hnil) <;> refine hJ _ _ ?_ <;> clear hJ J <;> simp only [ak, reduceIte] <;> try subst hnil)))))
    exact hK1

noncomputable def lit (m : Mp) : Bool := decide (m.g.es.length ≤ 24) && decide (m.rots.length ≤ 64) && decide (rchk m = 0)
theorem chk_small {m : Mp} (h : rchk m = 0) : m.g.vs.length ≤ 64 := by
  obtain ⟨_, _, h3, _⟩ := chk_good (rchk_zero h).1
  exact h3
theorem ref_rCheckA (m : Mp) (st : St) (hr : m.rots.length ≤ 1000) (he : m.g.es.length ≤ 1000) : ACalls Tryz.prog 10 [.ag (mpL m)] st fun r st' => r = i (rchk m) ∧ Keeps st st' := by
  by_cases hv : m.g.vs.length ≤ 1000
  · exact ref_rCheck m st hv he hr
  · have hc : chk m.g = 6 := by unfold chk; rw [if_pos (by omega)]
    have hrc : rchk m = 6 := by rw [rchk_g (by rw [hc]; decide), hc]
    refine acalls_of_body tabOk Tryz.func10 rfl rfl Tryz.ntmps10 (rs := [.tmp 2]) rfl (by simp) ?_
    (repeat' (first | refine awp_seq ?_ | refine awp_block ?_ | ((first | refine awp_skip ?_ | refine awp_exit ?_); simp only [ak, reduceIte]) | (refine awp_ret ?_; simp only [ak, reduceIte]; simp []) | (refine awp_cond ?_; simp []; (try with_reducible refine ⟨?_, ?_⟩) <;> (try with_reducible intro hc) <;> try (exfalso; omega)) | ((first | (refine w_e [] ?_; intro J hJ; simp only []) | (refine w_q ?_; intro J hJ) | refine e_go ?_); simp []; (repeat refine ca ?_); (try ((try with_reducible refine ⟨?_, ?_⟩) <;> (try with_reducible intro hnil) <;> refine hJ _ _ ?_ <;> clear hJ J <;> simp only [ak, reduceIte] <;> try subst hnil)))))
    refine callK_ofE (ref_Chk m.g _) (by simp) ?_; rintro r s1 ⟨rfl, hk1⟩
    rw [hc]
    (repeat' (first | refine awp_seq ?_ | refine awp_block ?_ | ((first | refine awp_skip ?_ | refine awp_exit ?_); simp only [ak, reduceIte]) | (refine awp_ret ?_; simp only [ak, reduceIte]; simp [hrc]) | (refine awp_cond ?_; simp [hrc]; (try with_reducible refine ⟨?_, ?_⟩) <;> (try with_reducible intro hc) <;> try (exfalso; omega)) | ((first | (refine w_e [] ?_; intro J hJ; simp only []) | (refine w_q ?_; intro J hJ) | refine e_go ?_); simp [hrc]; (repeat refine ca ?_); (try ((try with_reducible refine ⟨?_, ?_⟩) <;> (try with_reducible intro hnil) <;> refine hJ _ _ ?_ <;> clear hJ J <;> simp only [ak, reduceIte] <;> try subst hnil)))))
    exact (Keeps.new _ _).trans hk1
theorem light (m : Mp) (st : St) : ACalls Tryz.prog 21 [.ag (mpL m)] st fun r st' => r = bb (lit m) ∧ Keeps st st' := by
  refine acalls_of_body tabOk Tryz.func21 rfl rfl Tryz.ntmps21 (rs := [.tmp 2]) rfl (by simp) ?_
  by_cases h1 : (m.g.es.length : Int) ≤ 24
  rotate_left
  · have hf : lit m = false := by unfold lit; simp; omega
    (repeat' (first | refine awp_seq ?_ | refine awp_block ?_ | ((first | refine awp_skip ?_ | refine awp_exit ?_); simp only [ak, reduceIte]) | (refine awp_ret ?_; simp only [ak, reduceIte]; simp [h1, hf]) | (refine awp_cond ?_; simp [h1, hf]; (try with_reducible refine ⟨?_, ?_⟩) <;> (try with_reducible intro hc) <;> try (exfalso; omega)) | ((first | (refine w_e [] ?_; intro J hJ; simp only []) | (refine w_q ?_; intro J hJ) | refine e_go ?_); simp [h1, hf]; (repeat refine ca ?_); (try ((try with_reducible refine ⟨?_, ?_⟩) <;> (try with_reducible intro hnil) <;> refine hJ _ _ ?_ <;> clear hJ J <;> simp only [ak, reduceIte] <;> try subst hnil)))))
    exact Keeps.new _ _
  by_cases h2 : (m.rots.length : Int) ≤ 64
  rotate_left
  · have hf : lit m = false := by unfold lit; simp; omega
    (repeat' (first | refine awp_seq ?_ | refine awp_block ?_ | ((first | refine awp_skip ?_ | refine awp_exit ?_); simp only [ak, reduceIte]) | (refine awp_ret ?_; simp only [ak, reduceIte]; simp [h1, h2, hf]) | (refine awp_cond ?_; simp [h1, h2, hf]; (try with_reducible refine ⟨?_, ?_⟩) <;> (try with_reducible intro hc) <;> try (exfalso; omega)) | ((first | (refine w_e [] ?_; intro J hJ; simp only []) | (refine w_q ?_; intro J hJ) | refine e_go ?_); simp [h1, h2, hf]; (repeat refine ca ?_); (try ((try with_reducible refine ⟨?_, ?_⟩) <;> (try with_reducible intro hnil) <;> refine hJ _ _ ?_ <;> clear hJ J <;> simp only [ak, reduceIte] <;> try subst hnil)))))
    exact Keeps.new _ _
  (repeat' (first | refine awp_seq ?_ | refine awp_block ?_ | ((first | refine awp_skip ?_ | refine awp_exit ?_); simp only [ak, reduceIte]) | (refine awp_ret ?_; simp only [ak, reduceIte]; simp [h1, h2]) | (refine awp_cond ?_; simp [h1, h2]; (try with_reducible refine ⟨?_, ?_⟩) <;> (try with_reducible intro hc) <;> try (exfalso; omega)) | ((first | (refine w_e [] ?_; intro J hJ; simp only []) | (refine w_q ?_; intro J hJ) | refine e_go ?_); simp [h1, h2]; (repeat refine ca ?_); (try ((try with_reducible refine ⟨?_, ?_⟩) <;> (try with_reducible intro hnil) <;> refine hJ _ _ ?_ <;> clear hJ J <;> simp only [ak, reduceIte] <;> try subst hnil)))))
  refine callK_ofE (ref_rCheckA m _ (by omega) (by omega)) (by simp) ?_; rintro r s1 ⟨rfl, hk1⟩
  have hf : lit m = decide (rchk m = 0) := by
    unfold lit
    rw [decide_eq_true (by omega), decide_eq_true (by omega)]; rfl
  by_cases hc : rchk m = 0
  · (repeat' (first | refine awp_seq ?_ | refine awp_block ?_ | ((first | refine awp_skip ?_ | refine awp_exit ?_); simp only [ak, reduceIte]) | (refine awp_ret ?_; simp only [ak, reduceIte]; simp [hc, hf]) | (refine awp_cond ?_; simp [hc, hf]; (try with_reducible refine ⟨?_, ?_⟩) <;> (try with_reducible intro hc) <;> try (exfalso; omega)) | ((first | (refine w_e [] ?_; intro J hJ; simp only []) | (refine w_q ?_; intro J hJ) | refine e_go ?_); simp [hc, hf]; (repeat refine ca ?_); (try ((try with_reducible refine ⟨?_, ?_⟩) <;> (try with_reducible intro hnil) <;> refine hJ _ _ ?_ <;> clear hJ J <;> simp only [ak, reduceIte] <;> try subst hnil)))))
    exact (Keeps.new _ _).trans hk1
  · rw [decide_eq_false hc] at hf
    generalize rchk m = x at *
    (repeat' (first | refine awp_seq ?_ | refine awp_block ?_ | ((first | refine awp_skip ?_ | refine awp_exit ?_); simp only [ak, reduceIte]) | (refine awp_ret ?_; simp only [ak, reduceIte]; simp [hc, hf]) | (refine awp_cond ?_; simp [hc, hf]; (try with_reducible refine ⟨?_, ?_⟩) <;> (try with_reducible intro hc) <;> try (exfalso; omega)) | ((first | (refine w_e [] ?_; intro J hJ; simp only []) | (refine w_q ?_; intro J hJ) | refine e_go ?_); simp [hc, hf]; (repeat refine ca ?_); (try ((try with_reducible refine ⟨?_, ?_⟩) <;> (try with_reducible intro hnil) <;> refine hJ _ _ ?_ <;> clear hJ J <;> simp only [ak, reduceIte] <;> try subst hnil)))))
    exact (Keeps.new _ _).trans hk1
theorem lit_of {m : Mp} (h : lit m = true) : m.g.es.length ≤ 24 ∧ m.rots.length ≤ 64 ∧ rchk m = 0 := by
  unfold lit at h; simp at h; exact ⟨h.1.1, h.1.2, h.2⟩

theorem dmap_small {m : Mp} (h : MapOk m) {R : List (List Int)} (hR : FacesOf m R) (he : m.g.es.length ≤ 400) : ((dmap m R).1.g.vs.length ≤ 1000 ∧ (dmap m R).1.g.es.length ≤ 1000) ∧ (dmap m R).1.rots.length ≤ 1000 ∧ ∀ t ∈ (dmap m R).1.rots, small t := by
  unfold dmap
  split
  · simp [mp0]
  · split
    · simp [mp0]
    · rw [dm_eq]
      refine ⟨⟨by simp; omega, by simp; omega⟩, by simp; omega, fun t ht => ?_⟩
      have := faces_row h hR (by omega) ht
      unfold small; omega

set_option maxHeartbeats 2000000 in
theorem DualMaps (m : Mp) (st : St) : ACalls Tryz.prog 4 [.ag (mpL m)] st fun r st' => r = bb true := by
  refine acalls_of_body tabOk Tryz.func4 rfl rfl Tryz.ntmps4 (rs := [.tmp 2]) rfl (by simp) ?_
  (repeat' (first | refine awp_seq ?_ | refine awp_block ?_ | ((first | refine awp_skip ?_ | refine awp_exit ?_); simp only [ak, reduceIte]) | (refine awp_ret ?_; simp only [ak, reduceIte]; simp []) | (refine awp_cond ?_; simp []; (try with_reducible refine ⟨?_, ?_⟩) <;> (try with_reducible intro hc) <;> try (exfalso; omega)) | ((first | (refine w_e [] ?_; intro J hJ; simp only []) | (refine w_q ?_; intro J hJ) | refine e_go ?_); simp []; (repeat refine ca ?_); (try ((try with_reducible refine ⟨?_, ?_⟩) <;> (try with_reducible intro hnil) <;> refine hJ _ _ ?_ <;> clear hJ J <;> simp only [ak, reduceIte] <;> try subst hnil)))))
  refine callK_ofE (awake32 _) (by simp []) ?_; rintro r st' ⟨rfl, rfl⟩
  (repeat' (first | refine awp_seq ?_ | refine awp_block ?_ | ((first | refine awp_skip ?_ | refine awp_exit ?_); simp only [ak, reduceIte]) | (refine awp_ret ?_; simp only [ak, reduceIte]; simp []) | (refine awp_cond ?_; simp []; (try with_reducible refine ⟨?_, ?_⟩) <;> (try with_reducible intro hc) <;> try (exfalso; omega)) | ((first | (refine w_e [] ?_; intro J hJ; simp only []) | (refine w_q ?_; intro J hJ) | refine e_go ?_); simp []; (repeat refine ca ?_); (try ((try with_reducible refine ⟨?_, ?_⟩) <;> (try with_reducible intro hnil) <;> refine hJ _ _ ?_ <;> clear hJ J <;> simp only [ak, reduceIte] <;> try subst hnil)))))
  refine callK_ofE (light m _) (by simp) ?_; rintro r s1 ⟨rfl, hk1⟩
  have hn1 := hk1.next
  simp only [new_next] at hn1
  have hG1 : s1.H st.next = .box 28 3 (mpL m) := by rw [hk1.H _ (by simp)]; simp
  cases hf : lit m
  · (repeat' (first | refine awp_seq ?_ | refine awp_block ?_ | ((first | refine awp_skip ?_ | refine awp_exit ?_); simp only [ak, reduceIte]) | (refine awp_ret ?_; simp only [ak, reduceIte]; simp []) | (refine awp_cond ?_; simp []; (try with_reducible refine ⟨?_, ?_⟩) <;> (try with_reducible intro hc) <;> try (exfalso; omega)) | ((first | (refine w_e [] ?_; intro J hJ; simp only []) | (refine w_q ?_; intro J hJ) | refine e_go ?_); simp []; (repeat refine ca ?_); (try ((try with_reducible refine ⟨?_, ?_⟩) <;> (try with_reducible intro hnil) <;> refine hJ _ _ ?_ <;> clear hJ J <;> simp only [ak, reduceIte] <;> try subst hnil)))))
  obtain ⟨he, hr, hc⟩ := lit_of hf
  have hv := chk_small hc
  have h := (rchk_zero hc).2
  (repeat' (first | refine awp_seq ?_ | refine awp_block ?_ | ((first | refine awp_skip ?_ | refine awp_exit ?_); simp only [ak, reduceIte]) | (refine awp_ret ?_; simp only [ak, reduceIte]; simp [hG1]) | (refine awp_cond ?_; simp [hG1]; (try with_reducible refine ⟨?_, ?_⟩) <;> (try with_reducible intro hc) <;> try (exfalso; omega)) | ((first | (refine w_e [] ?_; intro J hJ; simp only []) | (refine w_q ?_; intro J hJ) | refine e_go ?_); simp [hG1]; (repeat refine ca ?_); (try ((try with_reducible refine ⟨?_, ?_⟩) <;> (try with_reducible intro hnil) <;> refine hJ _ _ ?_ <;> clear hJ J <;> simp only [ak, reduceIte] <;> try subst hnil)))))
  refine callK_ofE (dOf_ m h _ (by omega) (by omega)) (by simp) ?_; rintro r s2 ⟨q, mn, R, rfl, hR, hD, hk2⟩
  have hn2 := hk2.next
  have hG2 := (hk2.H st.next (by omega)).trans hG1
  obtain ⟨⟨d1, d2⟩, d3, d4⟩ := dmap_small h hR (by omega)
  (repeat' (first | refine awp_seq ?_ | refine awp_block ?_ | ((first | refine awp_skip ?_ | refine awp_exit ?_); simp only [ak, reduceIte]) | (refine awp_ret ?_; simp only [ak, reduceIte]; simp []) | (refine awp_cond ?_; simp []; (try with_reducible refine ⟨?_, ?_⟩) <;> (try with_reducible intro hc) <;> try (exfalso; omega)) | ((first | (refine w_e [] ?_; intro J hJ; simp only []) | (refine w_q ?_; intro J hJ) | refine e_go ?_); simp []; (repeat refine ca ?_); (try ((try with_reducible refine ⟨?_, ?_⟩) <;> (try with_reducible intro hnil) <;> refine hJ _ _ ?_ <;> clear hJ J <;> simp only [ak, reduceIte] <;> try subst hnil)))))
  refine callK_ofE (dMap m h R hR q mn _ (by omega) (by omega) hD) (by simp) ?_; rintro r s3 ⟨rfl, hk3⟩
  have hn3 := hk3.next
  have hG3 := (hk3.H st.next (by omega)).trans hG2
  have a1 : ¬ st.next = s3.next := by omega
  (repeat' (first | refine awp_seq ?_ | refine awp_block ?_ | ((first | refine awp_skip ?_ | refine awp_exit ?_); simp only [ak, reduceIte]) | (refine awp_ret ?_; simp only [ak, reduceIte]; simp [hG3, a1]) | (refine awp_cond ?_; simp [hG3, a1]; (try with_reducible refine ⟨?_, ?_⟩) <;> (try with_reducible intro hc) <;> try (exfalso; omega)) | ((first | (refine w_e [] ?_; intro J hJ; simp only []) | (refine w_q ?_; intro J hJ) | refine e_go ?_); simp [hG3, a1]; (repeat refine ca ?_); (try ((try with_reducible refine ⟨?_, ?_⟩) <;> (try with_reducible intro hnil) <;> refine hJ _ _ ?_ <;> clear hJ J <;> simp only [ak, reduceIte] <;> try subst hnil)))))
  refine callK_ofE (ref_dMap m h R hR _ (by omega) (by omega)) (by simp) ?_; rintro r s4 ⟨rfl, hk4⟩
  have hn4 := hk4.next
  simp only [new_next] at hn4
  have hA4 := hk4.H s3.next (by simp)
  simp at hA4
  have a2 : ¬ s3.next = s4.next := by omega
  generalize dmap m R = D at *
  obtain ⟨M, e⟩ := D
  simp only at d1 d2 d3 d4 hA4
  (repeat' (first | refine awp_seq ?_ | refine awp_block ?_ | ((first | refine awp_skip ?_ | refine awp_exit ?_); simp only [ak, reduceIte]) | (refine awp_ret ?_; simp only [ak, reduceIte]; simp [hA4, a2]) | (refine awp_cond ?_; simp [hA4, a2]; (try with_reducible refine ⟨?_, ?_⟩) <;> (try with_reducible intro hc) <;> try (exfalso; omega)) | ((first | (refine w_e [] ?_; intro J hJ; simp only []) | (refine w_q ?_; intro J hJ) | refine e_go ?_); simp [hA4, a2]; (repeat refine ca ?_); (try ((try with_reducible refine ⟨?_, ?_⟩) <;> (try with_reducible intro hnil) <;> refine hJ _ _ ?_ <;> clear hJ J <;> simp only [ak, reduceIte] <;> try subst hnil)))))
  refine callK_ofE (ref_rSame M _ d1 d2 d3 d4) (by simp) ?_; rintro r s5 ⟨rfl, hk5⟩
  (repeat' (first | refine awp_seq ?_ | refine awp_block ?_ | ((first | refine awp_skip ?_ | refine awp_exit ?_); simp only [ak, reduceIte]) | (refine awp_ret ?_; simp only [ak, reduceIte]; simp []) | (refine awp_cond ?_; simp []; (try with_reducible refine ⟨?_, ?_⟩) <;> (try with_reducible intro hc) <;> try (exfalso; omega)) | ((first | (refine w_e [] ?_; intro J hJ; simp only []) | (refine w_q ?_; intro J hJ) | refine e_go ?_); simp []; (repeat refine ca ?_); (try ((try with_reducible refine ⟨?_, ?_⟩) <;> (try with_reducible intro hnil) <;> refine hJ _ _ ?_ <;> clear hJ J <;> simp only [ak, reduceIte] <;> try subst hnil)))))

theorem DualMaps_shp (l0 : List LV) (st : St) (h0 : Shp tab 28 l0) : ACalls Tryz.prog 4 [argT tab 28 l0] st fun r st' => r = bb true := by
  obtain ⟨m, rfl, _⟩ := shp_mp h0
  exact DualMaps m st

end Go.Proofs.YtphdhggoaijfoaaGreat.Aw

namespace Go.Proofs.YtphdhggoaijfoaaGreat.Aw
open Go Go.RowKit Go.Proofs.YtphdhggoaijfoaaGreat.Pl Go.Proofs.YtphdhggoaijfoaaGreat.Eu
set_option linter.unusedSimpArgs false
set_option linter.unusedVariables false

/-- The turn of a dart. -/
def turnOf (rs : List (List Int)) (d : Int) : List Int := if 0 ≤ tix rs d then rs.getD (tix rs d).toNat [] else []
theorem turnOf_some {rs : List (List Int)} {d : Int} {k : Nat} (h : tix rs d = (k : Int)) : turnOf rs d = rs.getD k [] := by
  unfold turnOf; rw [h, if_pos (by omega)]; rfl
theorem turnOf_none {rs : List (List Int)} {d : Int} (h : tix rs d = -1) : turnOf rs d = [] := by
  unfold turnOf; rw [h, if_neg (by omega)]

def TurnP (rs : List (List Int)) (d : Int) (st : St) (r : LV) (st' : St) : Prop := (∃ t, r = .sl t (turnOf rs d).length (us (turnOf rs d))) ∧ Keeps st st'
theorem rTurn (m : Mp) (d : Int) (st : St) (hr : m.rots.length ≤ 1000) (hs : ∀ t ∈ m.rots, small t) :
    ACalls Tryz.prog 17 [.ag (mpL m), u d] st (TurnP m.rots d st) := by
  refine acalls_norm ?_
  refine acalls_of_body tabOk Tryz.func17 rfl rfl Tryz.ntmps17 (rs := [.tmp 4]) rfl (by simp) ?_
  (repeat' (first | refine awp_seq ?_ | refine awp_block ?_ | ((first | refine awp_skip ?_ | refine awp_exit ?_); simp only [ak, reduceIte]) | (refine awp_ret ?_; simp only [ak, reduceIte]; simp []) | (refine awp_cond ?_; simp []; (try with_reducible refine ⟨?_, ?_⟩) <;> (try with_reducible intro hc) <;> try (exfalso; omega)) | ((first | (refine w_e [] ?_; intro J hJ; simp only []) | (refine w_q ?_; intro J hJ) | refine e_go ?_); simp []; (repeat refine ca ?_); (try ((try with_reducible refine ⟨?_, ?_⟩) <;> (try with_reducible intro hnil) <;> refine hJ _ _ ?_ <;> clear hJ J <;> simp only [ak, reduceIte] <;> try subst hnil)))))
  refine awp_range 10 9 11 19 (m.rots.length) (fun j fr st2 => fr 1 = u d ∧ fr 8 = .sl 0 m.rots.length (rowsL m.rots) ∧ Keeps st st2 ∧ ∀ k, k < j → d ∉ m.rots.getD k []) ?_ ?_ ?_
  · exact ⟨by simp, by simp, Keeps.new _ _, fun k hk => by omega⟩
  · rintro j fr st2 hlt ⟨f1, f8, hkp, hno⟩ fi fn JJ hJJ
    have hd := rowsL_drop m.rots j hlt
    have hRl : j < (rowsL m.rots).length := by simpa using hlt
    have htin : m.rots.getD j [] ∈ m.rots := by rw [getR_lt _ _ hlt]; exact List.getElem_mem _
    have hsm := hs _ htin
    have hso := fun h => turnOf_some (tix_some (d := d) hlt h hno)
    have hnn : d ∉ m.rots.getD j [] → ∀ k, k < j + 1 → d ∉ m.rots.getD k [] := fun h k hk => by
      rcases Nat.lt_or_ge k j with h1 | h1
      · exact hno k h1
      · obtain rfl : k = j := by omega
        exact h
    generalize m.rots.getD j [] = t at *
    (repeat' (first | refine awp_seq ?_ | refine awp_block ?_ | ((first | refine awp_skip ?_ | refine awp_exit ?_); simp only [ak, reduceIte]) | (refine awp_ret ?_; simp only [ak, reduceIte]; simp [f1, f8, fi, fn, hd, hRl, hlt]) | (refine awp_cond ?_; simp [f1, f8, fi, fn, hd, hRl, hlt]; (try with_reducible refine ⟨?_, ?_⟩) <;> (try with_reducible intro hc) <;> try (exfalso; omega)) | ((first | (refine w_e [] ?_; intro J hJ; simp only []) | (refine w_q ?_; intro J hJ) | refine e_go ?_); simp [f1, f8, fi, fn, hd, hRl, hlt]; (repeat refine ca ?_); (try ((try with_reducible refine ⟨?_, ?_⟩) <;> (try with_reducible intro hnil) <;> refine hJ _ _ ?_ <;> clear hJ J <;> simp only [ak, reduceIte] <;> try subst hnil)))))
    refine callK_ofE (Contains t 0 d _ hsm) (by simp) ?_; rintro r s3 ⟨rfl, rfl⟩
    by_cases hdt : d ∈ t
    · have hr := hso hdt
      (repeat' (first | refine awp_seq ?_ | refine awp_block ?_ | ((first | refine awp_skip ?_ | refine awp_exit ?_); simp only [ak, reduceIte]) | (refine awp_ret ?_; simp only [ak, reduceIte]; simp [hdt]) | (refine awp_cond ?_; simp [hdt]; (try with_reducible refine ⟨?_, ?_⟩) <;> (try with_reducible intro hc) <;> try (exfalso; omega)) | ((first | (refine w_e [] ?_; intro J hJ; simp only []) | (refine w_q ?_; intro J hJ) | refine e_go ?_); simp [hdt]; (repeat refine ca ?_); (try ((try with_reducible refine ⟨?_, ?_⟩) <;> (try with_reducible intro hnil) <;> refine hJ _ _ ?_ <;> clear hJ J <;> simp only [ak, reduceIte] <;> try subst hnil)))))
      refine callK_ofE (Clone t 0 _ hsm) (by simp) ?_; rintro r s4 ⟨rfl, hk4⟩
      (repeat' (first | refine awp_seq ?_ | refine awp_block ?_ | ((first | refine awp_skip ?_ | refine awp_exit ?_); simp only [ak, reduceIte]) | (refine awp_ret ?_; simp only [ak, reduceIte]; simp []) | (refine awp_cond ?_; simp []; (try with_reducible refine ⟨?_, ?_⟩) <;> (try with_reducible intro hc) <;> try (exfalso; omega)) | ((first | (refine w_e [] ?_; intro J hJ; simp only []) | (refine w_q ?_; intro J hJ) | refine e_go ?_); simp []; (repeat refine ca ?_); (try ((try with_reducible refine ⟨?_, ?_⟩) <;> (try with_reducible intro hnil) <;> refine hJ _ _ ?_ <;> clear hJ J <;> simp only [ak, reduceIte] <;> try subst hnil)))))
      exact ⟨⟨_, by rw [hr]⟩, hkp.trans hk4⟩
    · (repeat' (first | refine awp_seq ?_ | refine awp_block ?_ | ((first | refine awp_skip ?_ | refine awp_exit ?_); simp only [ak, reduceIte]) | (refine awp_ret ?_; simp only [ak, reduceIte]; simp [hdt]) | (refine awp_cond ?_; simp [hdt]; (try with_reducible refine ⟨?_, ?_⟩) <;> (try with_reducible intro hc) <;> try (exfalso; omega)) | ((first | (refine w_e [] ?_; intro J hJ; simp only []) | (refine w_q ?_; intro J hJ) | refine e_go ?_); simp [hdt]; (repeat refine ca ?_); (try ((try with_reducible refine ⟨?_, ?_⟩) <;> (try with_reducible intro hnil) <;> refine hJ _ _ ?_ <;> clear hJ J <;> simp only [ak, reduceIte] <;> try subst hnil)))))
      exact hJJ _ _ (by simp [fi]) (by simp [fn]) ⟨by simp [f1], by simp [f8], hkp, hnn hdt⟩
  · rintro fr st2 ⟨f1, f8, hkp, hno⟩
    have hr := turnOf_none (tix_none hno)
    (repeat' (first | refine awp_seq ?_ | refine awp_block ?_ | ((first | refine awp_skip ?_ | refine awp_exit ?_); simp only [ak, reduceIte]) | (refine awp_ret ?_; simp only [ak, reduceIte]; simp []) | (refine awp_cond ?_; simp []; (try with_reducible refine ⟨?_, ?_⟩) <;> (try with_reducible intro hc) <;> try (exfalso; omega)) | ((first | (refine w_e [] ?_; intro J hJ; simp only []) | (refine w_q ?_; intro J hJ) | refine e_go ?_); simp []; (repeat refine ca ?_); (try ((try with_reducible refine ⟨?_, ?_⟩) <;> (try with_reducible intro hnil) <;> refine hJ _ _ ?_ <;> clear hJ J <;> simp only [ak, reduceIte] <;> try subst hnil)))))
    exact ⟨⟨0, by rw [hr]; rfl⟩, hkp⟩

def rFaceP (m : Mp) (d : Int) (st : St) (r : LV) (st' : St) : Prop := (∃ R t, FacesOf m R ∧ r = .sl t (turnOf R d).length (us (turnOf R d))) ∧ Keeps st st'
theorem rFace (m : Mp) (h : MapOk m) (d : Int) (st : St) (hv : m.g.vs.length ≤ 1000) (he : m.g.es.length ≤ 1000) :
    ACalls Tryz.prog 18 [.ag (mpL m), u d] st (rFaceP m d st) := by
  refine acalls_norm ?_
  refine acalls_of_body tabOk Tryz.func18 rfl rfl Tryz.ntmps18 (rs := [.tmp 4]) rfl (by simp) ?_
  (repeat' (first | refine awp_seq ?_ | refine awp_block ?_ | ((first | refine awp_skip ?_ | refine awp_exit ?_); simp only [ak, reduceIte]) | (refine awp_ret ?_; simp only [ak, reduceIte]; simp []) | (refine awp_cond ?_; simp []; (try with_reducible refine ⟨?_, ?_⟩) <;> (try with_reducible intro hc) <;> try (exfalso; omega)) | ((first | (refine w_e [] ?_; intro J hJ; simp only []) | (refine w_q ?_; intro J hJ) | refine e_go ?_); simp []; (repeat refine ca ?_); (try ((try with_reducible refine ⟨?_, ?_⟩) <;> (try with_reducible intro hnil) <;> refine hJ _ _ ?_ <;> clear hJ J <;> simp only [ak, reduceIte] <;> try subst hnil)))))
  refine callK_ofE (Faces m h _ hv he) (by simp) ?_; rintro r s1 ⟨⟨t0, R, rfl, hR⟩, hk1⟩
  have hRl := hR.len
  have hdl := darts_length m.g.es
  have hrow : ∀ c ∈ R, small c := fun c hc => by
    obtain ⟨e, he', h1, _⟩ := faces_cyc h hR hc
    have := (h.cyc_le he' h1).2
    unfold small; omega
  (repeat' (first | refine awp_seq ?_ | refine awp_block ?_ | ((first | refine awp_skip ?_ | refine awp_exit ?_); simp only [ak, reduceIte]) | (refine awp_ret ?_; simp only [ak, reduceIte]; simp []) | (refine awp_cond ?_; simp []; (try with_reducible refine ⟨?_, ?_⟩) <;> (try with_reducible intro hc) <;> try (exfalso; omega)) | ((first | (refine w_e [] ?_; intro J hJ; simp only []) | (refine w_q ?_; intro J hJ) | refine e_go ?_); simp []; (repeat refine ca ?_); (try ((try with_reducible refine ⟨?_, ?_⟩) <;> (try with_reducible intro hnil) <;> refine hJ _ _ ?_ <;> clear hJ J <;> simp only [ak, reduceIte] <;> try subst hnil)))))
  refine awp_range 10 9 11 18 (R.length) (fun j fr st2 => fr 1 = u d ∧ fr 8 = .sl t0 R.length (rowsL3 R) ∧ Keeps st st2 ∧ ∀ k, k < j → d ∉ R.getD k []) ?_ ?_ ?_
  · exact ⟨by simp, by simp, (Keeps.new _ _).trans hk1, fun k hk => by omega⟩
  · rintro j fr st2 hlt ⟨f1, f8, hkp, hno⟩ fi fn JJ hJJ
    have hd := rowsL_drop R j hlt
    have hRl : j < (rowsL R).length := by simpa using hlt
    have htin : R.getD j [] ∈ R := by rw [getR_lt _ _ hlt]; exact List.getElem_mem _
    have hsm := hrow _ htin
    have hso := fun h => turnOf_some (tix_some (d := d) hlt h hno)
    have hnn : d ∉ R.getD j [] → ∀ k, k < j + 1 → d ∉ R.getD k [] := fun h k hk => by
      rcases Nat.lt_or_ge k j with h1 | h1
      · exact hno k h1
      · obtain rfl : k = j := by omega
        exact h
    generalize R.getD j [] = t at *
    (repeat' (first | refine awp_seq ?_ | refine awp_block ?_ | ((first | refine awp_skip ?_ | refine awp_exit ?_); simp only [ak, reduceIte]) | (refine awp_ret ?_; simp only [ak, reduceIte]; simp [f1, f8, fi, fn, hd, hRl, hlt]) | (refine awp_cond ?_; simp [f1, f8, fi, fn, hd, hRl, hlt]; (try with_reducible refine ⟨?_, ?_⟩) <;> (try with_reducible intro hc) <;> try (exfalso; omega)) | ((first | (refine w_e [] ?_; intro J hJ; simp only []) | (refine w_q ?_; intro J hJ) | refine e_go ?_); simp [f1, f8, fi, fn, hd, hRl, hlt]; (repeat refine ca ?_); (try ((try with_reducible refine ⟨?_, ?_⟩) <;> (try with_reducible intro hnil) <;> refine hJ _ _ ?_ <;> clear hJ J <;> simp only [ak, reduceIte] <;> try subst hnil)))))
    refine callK_ofE (Contains t 0 d _ hsm) (by simp) ?_; rintro r s3 ⟨rfl, rfl⟩
    by_cases hdt : d ∈ t
    · have hr := hso hdt
      (repeat' (first | refine awp_seq ?_ | refine awp_block ?_ | ((first | refine awp_skip ?_ | refine awp_exit ?_); simp only [ak, reduceIte]) | (refine awp_ret ?_; simp only [ak, reduceIte]; simp [hdt]) | (refine awp_cond ?_; simp [hdt]; (try with_reducible refine ⟨?_, ?_⟩) <;> (try with_reducible intro hc) <;> try (exfalso; omega)) | ((first | (refine w_e [] ?_; intro J hJ; simp only []) | (refine w_q ?_; intro J hJ) | refine e_go ?_); simp [hdt]; (repeat refine ca ?_); (try ((try with_reducible refine ⟨?_, ?_⟩) <;> (try with_reducible intro hnil) <;> refine hJ _ _ ?_ <;> clear hJ J <;> simp only [ak, reduceIte] <;> try subst hnil)))))
      exact ⟨⟨R, _, hR, by rw [hr]⟩, hkp⟩
    · (repeat' (first | refine awp_seq ?_ | refine awp_block ?_ | ((first | refine awp_skip ?_ | refine awp_exit ?_); simp only [ak, reduceIte]) | (refine awp_ret ?_; simp only [ak, reduceIte]; simp [hdt]) | (refine awp_cond ?_; simp [hdt]; (try with_reducible refine ⟨?_, ?_⟩) <;> (try with_reducible intro hc) <;> try (exfalso; omega)) | ((first | (refine w_e [] ?_; intro J hJ; simp only []) | (refine w_q ?_; intro J hJ) | refine e_go ?_); simp [hdt]; (repeat refine ca ?_); (try ((try with_reducible refine ⟨?_, ?_⟩) <;> (try with_reducible intro hnil) <;> refine hJ _ _ ?_ <;> clear hJ J <;> simp only [ak, reduceIte] <;> try subst hnil)))))
      exact hJJ _ _ (by simp [fi]) (by simp [fn]) ⟨by simp [f1], by simp [f8], hkp, hnn hdt⟩
  · rintro fr st2 ⟨f1, f8, hkp, hno⟩
    have hr := turnOf_none (tix_none hno)
    (repeat' (first | refine awp_seq ?_ | refine awp_block ?_ | ((first | refine awp_skip ?_ | refine awp_exit ?_); simp only [ak, reduceIte]) | (refine awp_ret ?_; simp only [ak, reduceIte]; simp []) | (refine awp_cond ?_; simp []; (try with_reducible refine ⟨?_, ?_⟩) <;> (try with_reducible intro hc) <;> try (exfalso; omega)) | ((first | (refine w_e [] ?_; intro J hJ; simp only []) | (refine w_q ?_; intro J hJ) | refine e_go ?_); simp []; (repeat refine ca ?_); (try ((try with_reducible refine ⟨?_, ?_⟩) <;> (try with_reducible intro hnil) <;> refine hJ _ _ ?_ <;> clear hJ J <;> simp only [ak, reduceIte] <;> try subst hnil)))))
    exact ⟨⟨R, 0, hR, by rw [hr]; rfl⟩, hkp⟩

/-- The face of a dart is the document's. -/
theorem face_same {m : Mp} (h : MapOk m) {R : List (List Int)} (hR : FacesOf m R) {d : Int} {c : List Int} (hc : IsFace m d c) : turnOf R d = c := by
  rcases hc with ⟨hd, L, hL, rfl⟩ | ⟨hd, rfl⟩
  · obtain ⟨k, hk, h1, h2⟩ := faces_in h hR hd
    rw [turnOf_some h1]
    obtain ⟨e, _, h3, h4⟩ := faces_cyc h hR (c := R.getD k []) (by rw [getR_lt _ _ hk]; exact List.getElem_mem _)
    exact (nrm_cyc_of (h.fc_per m.g.es fun x hx => hx) hL h3 h4 (h3.mem.1 h2)).symm
  · exact turnOf_none (faces_out h hR hd)

end Go.Proofs.YtphdhggoaijfoaaGreat.Aw

namespace Go.Proofs.YtphdhggoaijfoaaGreat.Aw
open Go Go.RowKit Go.Proofs.YtphdhggoaijfoaaGreat.Pl Go.Proofs.YtphdhggoaijfoaaGreat.Eu
set_option linter.unusedSimpArgs false
set_option linter.unusedVariables false

theorem chk_of {g : Gr} (h : GoodE g) (hv : ∀ v ∈ g.vs, 1 ≤ v ∧ v ≤ 1048576) (h1 : g.vs.length ≤ 64) (h2 : g.es.length ≤ 160) : chk g = 0 := by
  unfold chk
  rw [if_neg (by omega)]
  have hV : firstNZ (badV g) g.vs.length = 0 := firstNZ_zero fun j hj => by
    unfold badV numb
    have hin : g.vs.getD j 0 ∈ g.vs := by rw [getD_lt _ _ hj]; exact List.getElem_mem _
    have := hv _ hin
    rw [if_neg (by omega), if_neg]
    rintro ⟨h3, h4⟩
    have hj0 : j ≠ 0 := by simpa using h3
    have := List.pairwise_iff_getElem.1 h.rise (j - 1) j (by omega) hj (by omega)
    rw [getD_lt _ _ hj, getD_lt _ _ (by omega)] at h4
    omega
  rw [if_neg (by rw [hV]; decide)]
  refine firstNZ_zero fun j hj => ?_
  have hin : g.es.getD j ed0 ∈ g.es := by rw [getE_lt _ _ hj]; exact List.getElem_mem _
  have h3 := h.pos _ hin
  have h4 := h.ne _ hin
  have h5 := h.ends _ hin
  have h6 : numb (g.es.getD j ed0).id (g.es.getD (j - 1) ed0).id (decide (j = 0)) = 0 := by
    unfold numb
    rw [if_neg (by omega), if_neg]
    rintro ⟨h7, h8⟩
    have hj0 : j ≠ 0 := by simpa using h7
    have := List.pairwise_iff_getElem.1 h.ids (j - 1) j (by omega) hj (by omega)
    rw [getE_lt _ _ hj, getE_lt _ _ (by omega)] at h8
    omega
  unfold badE
  simp only
  rw [if_neg (fun e => e h6), if_neg h4, if_neg]
  rintro (h7 | h7)
  · exact h7 h5.1
  · exact h7 h5.2

section
variable {m : Mp} (h : MapOk m)
include h
theorem MapOk.turn_it {t : List Int} (ht : t ∈ m.rots) (n : Nat) : ∀ x, x ∈ t → it (sg m) n x ∈ t ∧ it (sg m) n x = it (nx t) n x := by
  induction n with
  | zero => intro x hx; exact ⟨hx, rfl⟩
  | succ n ih =>
    intro x hx
    obtain ⟨h1, h2⟩ := ih x hx
    rw [it_succ, it_succ]
    refine ⟨h.sg_mem ht h1, ?_⟩
    rw [sg_at h ht h1, h2]
theorem MapOk.turn_orb {x y v : Int} (hx : x ∈ ends m.g.es v) (hy : y ∈ ends m.g.es v) : Orb (sg m) x y := by
  obtain ⟨t, ht, hxt⟩ := h.turn_of (ends_dart hx)
  obtain ⟨k, hk, rfl, h1, _⟩ := h.turn ht
  have hv := at_unique h.g.ids hx (h1.mem_iff.1 hxt)
  have hyt := h1.mem_iff.2 (hv ▸ hy)
  obtain ⟨n, hn⟩ := nx_orb (h.nodup ht) hxt hyt
  exact ⟨n, by rw [(h.turn_it ht n x hxt).2, hn]⟩
theorem MapOk.turn_cyc {t r : List Int} {a : Int} (ht : t ∈ m.rots) (hr : t = a :: r) : IsCyc (sg m) a t := by
  have hn := h.nodup ht
  have hl : 0 < t.length := by rw [hr]; simp
  have h0 : t[0] = a := by simp [hr]
  have ha : a ∈ t := by rw [hr]; simp
  have hit : ∀ k, it (sg m) k a = t[k % t.length]'(Nat.mod_lt _ hl) := fun k => by
    rw [(h.turn_it ht k a ha).2]
    have := nx_it hn hl k
    rw [h0] at this
    rw [this]
    congr 1
    rw [Nat.zero_add]
  refine ⟨t.length, hl, ?_, ?_, fun q hq hql e => ?_⟩
  · refine List.ext_getElem (by simp) fun k h1 h2 => ?_
    simp only [List.getElem_map, List.getElem_range]
    rw [hit k]
    congr 1
    rw [Nat.mod_eq_of_lt h1]
  · rw [hit]; simp only [Nat.mod_self]; exact h0
  · rw [hit q] at e
    simp only [Nat.mod_eq_of_lt hql] at e
    rw [← h0] at e
    have := congrArg t.idxOf e
    rw [hn.idxOf_getElem, hn.idxOf_getElem] at this
    omega
end

/-- Darts of one part. -/
def CC (m : Mp) (x y : Int) : Prop := x = y ∨ ∃ v w, x ∈ ends m.g.es v ∧ y ∈ ends m.g.es w ∧ Reach m.g.es v w
theorem CC.eqv {m : Mp} (h : MapOk m) : Eqv (CC m) := by
  refine ⟨fun x => .inl rfl, ?_, ?_⟩
  · rintro x y (rfl | ⟨v, w, h1, h2, h3⟩)
    · exact .inl rfl
    · exact .inr ⟨w, v, h2, h1, h3.symm⟩
  · rintro x y z (rfl | ⟨v, w, h1, h2, h3⟩) (rfl | ⟨v', w', k1, k2, k3⟩)
    · exact .inl rfl
    · exact .inr ⟨v', w', k1, k2, k3⟩
    · exact .inr ⟨v, w, h1, h2, h3⟩
    · have := at_unique h.g.ids h2 k1
      subst this
      exact .inr ⟨v, w', h1, k2, h3.trans k3⟩
theorem CC.dual {m m' : Mp} (h : MapOk m) (h' : MapOk m') (hd : darts m'.g.es = darts m.g.es) (hs : sg m' = fc m m.g.es) {x y : Int} (hc : CC m' x y) : CC m x y := by
  have hE := CC.eqv h
  have same : ∀ {v x y}, x ∈ ends m'.g.es v → y ∈ ends m'.g.es v → CC m x y := by
    intro v x y hx hy
    obtain ⟨n, hn⟩ := h'.turn_orb hx hy
    rw [hs] at hn
    have hxd : x ∈ darts m.g.es := by rw [← hd]; exact ends_dart hx
    obtain ⟨v0, h0, _⟩ := dart_at hxd
    obtain ⟨w0, h1, h2⟩ := h.orb_reach m.g.es (fun x hx => hx) n h0
    rw [hn] at h1
    exact .inr ⟨v0, w0, h0, h1, h2⟩
  have edge : ∀ e ∈ m'.g.es, CC m (2 * e.id) (2 * e.id + 1) := by
    intro e he
    have : 2 * e.id ∈ darts m.g.es := by rw [← hd]; exact mem_darts.2 ⟨e, he, .inl rfl⟩
    obtain ⟨x0, hx0, hid⟩ := darts_half.1 this
    have hid' : x0.id = e.id := by omega
    exact .inr ⟨x0.a, x0.b, mem_ends.2 ⟨x0, hx0, .inl ⟨rfl, by omega⟩⟩, mem_ends.2 ⟨x0, hx0, .inr ⟨rfl, by omega⟩⟩, .step .refl (mem_nbr.2 ⟨x0, hx0, .inl ⟨rfl, rfl⟩⟩)⟩
  rcases hc with rfl | ⟨v, w, hx, hy, hr⟩
  · exact .inl rfl
  · induction hr generalizing y with
    | refl => exact same hx hy
    | step _ hw ih =>
      obtain ⟨e, he, ⟨rfl, rfl⟩ | ⟨rfl, rfl⟩⟩ := mem_nbr.1 hw
      · exact hE.trans (hE.trans (ih (mem_ends.2 ⟨e, he, .inl ⟨rfl, rfl⟩⟩)) (edge e he)) (same (mem_ends.2 ⟨e, he, .inr ⟨rfl, rfl⟩⟩) hy)
      · exact hE.trans (hE.trans (ih (mem_ends.2 ⟨e, he, .inr ⟨rfl, rfl⟩⟩)) (hE.symm (edge e he))) (same (mem_ends.2 ⟨e, he, .inl ⟨rfl, rfl⟩⟩) hy)

theorem ncl_blk2 {C : Int → Int → Prop} (hC : Eqv C) {l : List Int} : ∀ (t : List Int) (x : Int), x ∈ t → (∀ y ∈ t, ∀ z ∈ t, C y z) → ncl C (t ++ l) = ncl C l + @ite Nat (∃ y ∈ l, C y x) (Classical.propDecidable _) 0 1
  | [], x, hx, _ => by cases hx
  | [z], x, hx, _ => by
    rw [List.mem_singleton] at hx
    subst hx
    rfl
  | z :: z' :: t, x, hx, hall => by
    have ih := ncl_blk2 hC (l := l) (z' :: t) z' List.mem_cons_self (fun y hy w hw => hall y (List.mem_cons_of_mem _ hy) w (List.mem_cons_of_mem _ hw))
    have hzx : C z' x := hall z' (by simp) x hx
    rw [List.cons_append, ncl_cons_in ⟨z', by simp, hall z' (by simp) z (by simp)⟩, ih]
    congr 1
    by_cases h1 : ∃ y ∈ l, C y z'
    · obtain ⟨y, hy, hr⟩ := h1
      rw [if_pos ⟨y, hy, hr⟩, if_pos ⟨y, hy, hC.trans hr hzx⟩]
    · rw [if_neg h1, if_neg]
      rintro ⟨y, hy, hr⟩
      exact h1 ⟨y, hy, hC.trans hr (hC.symm hzx)⟩
theorem ncl_link {R C : Int → Int → Prop} (hC : Eqv C) : ∀ (L : List (Int × List Int)), (∀ p ∈ L, ∀ q ∈ L, ∀ x ∈ p.2, ∀ y ∈ q.2, (C x y ↔ R p.1 q.1)) → (∀ p ∈ L, R p.1 p.1) → L.Pairwise (fun p q => (p.2 = [] ∨ q.2 = []) → ¬ R q.1 p.1) →
    ncl R (L.map (·.1)) = ncl C (L.map (·.2)).flatten + (L.filter fun p => decide (p.2 = [])).length
  | [], _, _, _ => rfl
  | (v, t) :: L, h1, h3, h2 => by
    rw [List.pairwise_cons] at h2
    have ih := ncl_link hC L (fun p hp q hq => h1 p (List.mem_cons_of_mem _ hp) q (List.mem_cons_of_mem _ hq)) (fun p hp => h3 p (List.mem_cons_of_mem _ hp)) h2.2
    simp only [List.map_cons, List.flatten_cons]
    by_cases ht : t = []
    · subst ht
      rw [ncl_cons_new, ih]
      · simp; omega
      · rintro ⟨u, hu, hr⟩
        obtain ⟨q, hq, rfl⟩ := List.mem_map.1 hu
        exact h2.1 q hq (.inl rfl) hr
    · obtain ⟨x, hx⟩ := List.exists_mem_of_ne_nil t ht
      have hmem : (v, t) ∈ (v, t) :: L := List.mem_cons_self
      rw [ncl_blk2 hC t x hx (fun y hy z hz => (h1 _ hmem _ hmem y hy z hz).2 (h3 _ hmem))]
      have hf : ((v, t) :: L).filter (fun p => decide (p.2 = [])) = L.filter (fun p => decide (p.2 = [])) := by
        rw [List.filter_cons, if_neg (by simpa using ht)]
      rw [hf]
      by_cases he : ∃ u ∈ L.map (·.1), R u v
      · rw [ncl_cons_in he, ih, if_pos]
        · omega
        · obtain ⟨u, hu, hr⟩ := he
          obtain ⟨q, hq, rfl⟩ := List.mem_map.1 hu
          have hqn : q.2 ≠ [] := fun e => h2.1 q hq (.inr e) hr
          obtain ⟨y, hy⟩ := List.exists_mem_of_ne_nil q.2 hqn
          exact ⟨y, List.mem_flatten.2 ⟨q.2, List.mem_map.2 ⟨q, hq, rfl⟩, hy⟩, (h1 q (List.mem_cons_of_mem _ hq) _ hmem y hy x hx).2 hr⟩
      · rw [ncl_cons_new he, ih, if_neg]
        · omega
        · rintro ⟨y, hy, hr⟩
          obtain ⟨s, hs, hys⟩ := List.mem_flatten.1 hy
          obtain ⟨q, hq, rfl⟩ := List.mem_map.1 hs
          exact he ⟨q.1, List.mem_map.2 ⟨q, hq, rfl⟩, (h1 q (List.mem_cons_of_mem _ hq) _ hmem y hys x hx).1 hr⟩

theorem reach_alone {es : List Ed} {v w : Int} (hn : nbr es v = []) (h : Reach es v w) : v = w := by
  induction h with
  | refl => rfl
  | step _ hw ih => rw [← ih, hn] at hw; cases hw
section
variable {m : Mp} (h : MapOk m)
include h
theorem MapOk.ncl_parts : ncl (Reach m.g.es) m.g.vs = ncl (CC m) (darts m.g.es) + alone m.g := by
  have hat : ∀ p ∈ m.g.vs.zip m.rots, ∃ k, ∃ h1 : k < m.g.vs.length, ∃ h2 : k < m.rots.length, p = (m.g.vs[k], m.rots[k]) := by
    intro p hp
    obtain ⟨k, hk, rfl⟩ := List.getElem_of_mem hp
    rw [List.length_zip] at hk
    exact ⟨k, by omega, by omega, by rw [List.getElem_zip]⟩
  have hok : ∀ k (h1 : k < m.g.vs.length) (h2 : k < m.rots.length), okTurn m.g.es m.g.vs[k] m.rots[k] := fun k h1 h2 => by
    have := h.ok k h1
    rwa [getD_lt _ _ h1, getR_lt _ _ h2] at this
  have key := ncl_link (R := Reach m.g.es) (CC.eqv h) (m.g.vs.zip m.rots) (fun p hp q hq x hx y hy => ?_) (fun p _ => .refl) ?_
  · rw [List.map_fst_zip (by rw [h.len]; exact Nat.le_refl _), List.map_snd_zip (by rw [h.len]; exact Nat.le_refl _)] at key
    rw [key, ncl_perm (CC.eqv h) h.flat_perm]
    congr 1
    have e1 : ((m.g.vs.zip m.rots).filter fun p => decide (p.2 = [])).length = (m.rots.filter fun t => decide (t = [])).length := by
      have e2 : m.rots.filter (fun t => decide (t = [])) = ((m.g.vs.zip m.rots).filter fun p => decide (p.2 = [])).map (·.2) := by
        conv => lhs; rw [← List.map_snd_zip (l₁ := m.g.vs) (l₂ := m.rots) (by rw [h.len]; exact Nat.le_refl _)]
        rw [List.filter_map]; rfl
      rw [e2, List.length_map]
    have e3 := filter_eq (fun t => decide (t = [])) (fun v => !decide (nbr m.g.es v = [])) m.rots m.g.vs h.len fun k h1 h2 => by
      have hk := hok k h2 h1
      have e4 : m.rots[k] = [] ↔ nbr m.g.es m.g.vs[k] = [] := by
        rw [← ends_nil]
        constructor
        · intro h3; have := hk.1; rw [h3] at this; exact this.symm.eq_nil
        · intro h3; have := hk.1; rw [h3] at this; exact this.eq_nil
      by_cases h3 : m.rots[k] = []
      · simp [h3, e4.1 h3]
      · have h5 : ¬ nbr m.g.es m.g.vs[k] = [] := fun h4 => h3 (e4.2 h4)
        simp [h3, h5]
    have e5 : alone m.g + m.g.vs.countP (fun v => !decide (nbr m.g.es v = [])) = m.g.vs.length := by
      unfold alone
      rw [List.length_eq_countP_add_countP (fun v => decide (nbr m.g.es v = [])) (l := m.g.vs)]
      congr 1
      congr 1
      funext v
      simp
    have := h.len
    omega
  · obtain ⟨j, j1, j2, rfl⟩ := hat p hp
    obtain ⟨k, k1, k2, rfl⟩ := hat q hq
    have hx' := (hok j j1 j2).1.mem_iff.1 hx
    have hy' := (hok k k1 k2).1.mem_iff.1 hy
    constructor
    · rintro (rfl | ⟨v, w, h1, h2, h3⟩)
      · rw [at_unique h.g.ids hx' hy']; exact .refl
      · rw [at_unique h.g.ids hx' h1, at_unique h.g.ids hy' h2]; exact h3
    · intro hr; exact .inr ⟨_, _, hx', hy', hr⟩
  · rw [List.pairwise_iff_getElem]
    intro a b ha hb hab
    rw [List.length_zip] at ha hb
    rw [List.getElem_zip, List.getElem_zip]
    simp only
    intro he hr
    have hlt := List.pairwise_iff_getElem.1 h.g.rise a b (by omega) (by omega) hab
    rcases he with he | he
    · have h1 := (hok a (by omega) (by omega)).1
      rw [he] at h1
      have := reach_alone ((ends_nil _ _).1 h1.symm.eq_nil) hr.symm
      omega
    · have h1 := (hok b (by omega) (by omega)).1
      rw [he] at h1
      have := reach_alone ((ends_nil _ _).1 h1.symm.eq_nil) hr
      omega
variable {R : List (List Int)} (hR : FacesOf m R) (hb : ∀ x ∈ m.g.es, tix R (2 * x.id) ≠ tix R (2 * x.id + 1))
include hR hb
theorem dm_gn : gn (dm m R) = gn m := by
  have hok := dm_ok h hR hb
  have hsg := dm_sg h hR hb
  have hfc := dm_fc h hR hb
  have hdd := dm_darts m R
  have hP := h.fc_per m.g.es fun x hx => hx
  have e1 := h.gn
  have e2 := hok.gn
  have e3 := h.ncl_parts
  have e4 := hok.ncl_parts
  have e5 := h.ncl_sg
  have e6 := hok.ncl_sg
  have e7 := Lead.all hP hR
  have e8 : (dm m R).g.vs.length = R.length := by simp [dm]
  have e9 : (dm m R).g.es.length = m.g.es.length := by simp [dm]
  have e10 : ncl (CC (dm m R)) (darts m.g.es) = ncl (CC m) (darts m.g.es) := ncl_congr fun x _ y _ => ⟨CC.dual h hok hdd hsg, CC.dual hok h hdd.symm hfc.symm⟩
  rw [hfc, hdd] at e2
  rw [hdd] at e4
  rw [hsg, hdd] at e6
  omega
theorem dm_chk (h64 : R.length ≤ 64) (he : m.g.es.length ≤ 160) : rchk (dm m R) = 0 := by
  have hok := dm_ok h hR hb
  refine rchk_ok (chk_of hok.g (fun v hv => ?_) (by simp [dm]; exact h64) (by simp [dm]; exact he)) hok.len hok.ok
  obtain ⟨k, hk, rfl⟩ := List.mem_map.1 hv
  rw [List.mem_range] at hk
  omega
theorem dm_faces {R' : List (List Int)} (hR' : FacesOf (dm m R) R') : R'.length + alone m.g = m.g.vs.length ∧ ∀ c ∈ R', ∃ a r, c = a :: r ∧ c ∈ m.rots := by
  have hok := dm_ok h hR hb
  have hfc := dm_fc h hR hb
  have hdd := dm_darts m R
  have hP' := hok.fc_per (dm m R).g.es fun x hx => hx
  refine ⟨?_, fun c hc => ?_⟩
  · have e1 := Lead.all hP' hR'
    rw [hfc, hdd] at e1
    rw [e1]; exact h.ncl_sg
  · obtain ⟨e, he, h1, h2⟩ := faces_cyc hok hR' hc
    obtain ⟨r, hr⟩ := IsCyc.head h1
    refine ⟨e, r, hr, ?_⟩
    rw [hdd] at he
    obtain ⟨t, ht, het⟩ := h.turn_of he
    obtain ⟨k, hk, _, h3, h4⟩ := h.turn ht
    have hne : t ≠ [] := List.ne_nil_of_mem het
    obtain ⟨r2, hr2⟩ := nrm_head t hne
    rw [h4] at hr2
    have hcy := h.turn_cyc ht hr2
    rw [hfc] at h1 hP'
    have := nrm_cyc_of hP' h1 hcy rfl (hcy.mem.1 het)
    rw [faces_nrm hok hR' hc] at this
    rw [this]; exact ht
end

end Go.Proofs.YtphdhggoaijfoaaGreat.Aw

namespace Go.Proofs.YtphdhggoaijfoaaGreat.Aw
open Go Go.RowKit Go.Proofs.YtphdhggoaijfoaaGreat.Pl Go.Proofs.YtphdhggoaijfoaaGreat.Eu
set_option linter.unusedSimpArgs false
set_option linter.unusedVariables false

theorem brg_nil {R : List (List Int)} {es : List Ed} (h : brg R es = []) : ∀ x ∈ es, tix R (2 * x.id) ≠ tix R (2 * x.id + 1) := by
  intro x hx he
  unfold brg at h
  rw [List.map_eq_nil_iff, List.filter_eq_nil_iff] at h
  exact h x hx (by simpa using he)
theorem turn_self {m : Mp} (h : MapOk m) {c r : List Int} {a : Int} (hc : c ∈ m.rots) (hr : c = a :: r) : turnOf m.rots a = c := by
  have ha : a ∈ c := by rw [hr]; simp
  obtain ⟨k, hk, h1, h2⟩ := tix_in ⟨c, hc, ha⟩
  rw [turnOf_some h1]
  exact h.same (by rw [getR_lt _ _ hk]; exact List.getElem_mem _) hc h2 ha
theorem busy_all (g : Gr) : alone g + g.vs.countP (fun v => !decide (nbr g.es v = [])) = g.vs.length := by
  unfold alone
  rw [List.length_eq_countP_add_countP (fun v => decide (nbr g.es v = [])) (l := g.vs)]
  congr 1
  congr 1
  funext v
  simp

set_option maxHeartbeats 4000000 in
theorem DualPlane (m : Mp) (st : St) : ACalls Tryz.prog 5 [.ag (mpL m)] st fun r st' => r = bb true := by
  refine acalls_of_body tabOk Tryz.func5 rfl rfl Tryz.ntmps5 (rs := [.tmp 2]) rfl (by simp) ?_
  (repeat' (first | refine awp_seq ?_ | refine awp_block ?_ | ((first | refine awp_skip ?_ | refine awp_exit ?_); simp only [ak, reduceIte]) | (refine awp_ret ?_; simp only [ak, reduceIte]; simp []) | (refine awp_cond ?_; simp []; (try with_reducible refine ⟨?_, ?_⟩) <;> (try with_reducible intro hc) <;> try (exfalso; omega)) | ((first | (refine w_e [] ?_; intro J hJ; simp only []) | (refine w_q ?_; intro J hJ) | refine e_go ?_); simp []; (repeat refine ca ?_); (try ((try with_reducible refine ⟨?_, ?_⟩) <;> (try with_reducible intro hnil) <;> refine hJ _ _ ?_ <;> clear hJ J <;> simp only [ak, reduceIte] <;> try subst hnil)))))
  refine callK_ofE (awake32 _) (by simp []) ?_; rintro r st' ⟨rfl, rfl⟩
  (repeat' (first | refine awp_seq ?_ | refine awp_block ?_ | ((first | refine awp_skip ?_ | refine awp_exit ?_); simp only [ak, reduceIte]) | (refine awp_ret ?_; simp only [ak, reduceIte]; simp []) | (refine awp_cond ?_; simp []; (try with_reducible refine ⟨?_, ?_⟩) <;> (try with_reducible intro hc) <;> try (exfalso; omega)) | ((first | (refine w_e [] ?_; intro J hJ; simp only []) | (refine w_q ?_; intro J hJ) | refine e_go ?_); simp []; (repeat refine ca ?_); (try ((try with_reducible refine ⟨?_, ?_⟩) <;> (try with_reducible intro hnil) <;> refine hJ _ _ ?_ <;> clear hJ J <;> simp only [ak, reduceIte] <;> try subst hnil)))))
  refine callK_ofE (light m _) (by simp) ?_; rintro r s1 ⟨rfl, hk1⟩
  have hn1 := hk1.next
  simp only [new_next] at hn1
  have hG1 : s1.H st.next = .box 28 3 (mpL m) := by rw [hk1.H _ (by simp)]; simp
  cases hf : lit m
  · (repeat' (first | refine awp_seq ?_ | refine awp_block ?_ | ((first | refine awp_skip ?_ | refine awp_exit ?_); simp only [ak, reduceIte]) | (refine awp_ret ?_; simp only [ak, reduceIte]; simp []) | (refine awp_cond ?_; simp []; (try with_reducible refine ⟨?_, ?_⟩) <;> (try with_reducible intro hc) <;> try (exfalso; omega)) | ((first | (refine w_e [] ?_; intro J hJ; simp only []) | (refine w_q ?_; intro J hJ) | refine e_go ?_); simp []; (repeat refine ca ?_); (try ((try with_reducible refine ⟨?_, ?_⟩) <;> (try with_reducible intro hnil) <;> refine hJ _ _ ?_ <;> clear hJ J <;> simp only [ak, reduceIte] <;> try subst hnil)))))
  obtain ⟨he, hr, hc⟩ := lit_of hf
  have hv := chk_small hc
  have h := (rchk_zero hc).2
  have hsm : ∀ t ∈ m.rots, small t := fun t ht => by have := h.row_le ht; unfold small; omega
  (repeat' (first | refine awp_seq ?_ | refine awp_block ?_ | ((first | refine awp_skip ?_ | refine awp_exit ?_); simp only [ak, reduceIte]) | (refine awp_ret ?_; simp only [ak, reduceIte]; simp [hG1]) | (refine awp_cond ?_; simp [hG1]; (try with_reducible refine ⟨?_, ?_⟩) <;> (try with_reducible intro hc) <;> try (exfalso; omega)) | ((first | (refine w_e [] ?_; intro J hJ; simp only []) | (refine w_q ?_; intro J hJ) | refine e_go ?_); simp [hG1]; (repeat refine ca ?_); (try ((try with_reducible refine ⟨?_, ?_⟩) <;> (try with_reducible intro hnil) <;> refine hJ _ _ ?_ <;> clear hJ J <;> simp only [ak, reduceIte] <;> try subst hnil)))))
  refine callK_ofE (ref_rRight m _ (by omega) (by omega) (by omega)) (by simp) ?_; rintro r s2 ⟨rfl, hk2⟩
  have hn2 := hk2.next
  have hG2 := (hk2.H st.next (by omega)).trans hG1
  by_cases hrr : rright m = 0
  rotate_left
  · have hcb : (rright m != 0) = true := by simpa using hrr
    (repeat' (first | refine awp_seq ?_ | refine awp_block ?_ | ((first | refine awp_skip ?_ | refine awp_exit ?_); simp only [ak, reduceIte]) | (refine awp_ret ?_; simp only [ak, reduceIte]; simp [hcb]) | (refine awp_cond ?_; simp [hcb]; (try with_reducible refine ⟨?_, ?_⟩) <;> (try with_reducible intro hc) <;> try (exfalso; omega)) | ((first | (refine w_e [] ?_; intro J hJ; simp only []) | (refine w_q ?_; intro J hJ) | refine e_go ?_); simp [hcb]; (repeat refine ca ?_); (try ((try with_reducible refine ⟨?_, ?_⟩) <;> (try with_reducible intro hnil) <;> refine hJ _ _ ?_ <;> clear hJ J <;> simp only [ak, reduceIte] <;> try subst hnil)))))
  have hg0 : gn m = 0 := by
    unfold rright at hrr
    rw [if_neg (fun e => e hc)] at hrr
    refine Classical.byContradiction fun e => ?_
    rw [if_pos e] at hrr; cases hrr
  clear hk1 hk2
  (repeat' (first | refine awp_seq ?_ | refine awp_block ?_ | ((first | refine awp_skip ?_ | refine awp_exit ?_); simp only [ak, reduceIte]) | (refine awp_ret ?_; simp only [ak, reduceIte]; simp [hrr, hG2]) | (refine awp_cond ?_; simp [hrr, hG2]; (try with_reducible refine ⟨?_, ?_⟩) <;> (try with_reducible intro hc) <;> try (exfalso; omega)) | ((first | (refine w_e [] ?_; intro J hJ; simp only []) | (refine w_q ?_; intro J hJ) | refine e_go ?_); simp [hrr, hG2]; (repeat refine ca ?_); (try ((try with_reducible refine ⟨?_, ?_⟩) <;> (try with_reducible intro hnil) <;> refine hJ _ _ ?_ <;> clear hJ J <;> simp only [ak, reduceIte] <;> try subst hnil)))))
  refine callK_ofE (dOf_ m h _ (by omega) (by omega)) (by simp) ?_; rintro r s3 ⟨q, mn, R, rfl, hR, hD, hk3⟩
  have hn3 := hk3.next
  have hG3 := (hk3.H st.next (by omega)).trans hG2
  (repeat' (first | refine awp_seq ?_ | refine awp_block ?_ | ((first | refine awp_skip ?_ | refine awp_exit ?_); simp only [ak, reduceIte]) | (refine awp_ret ?_; simp only [ak, reduceIte]; simp []) | (refine awp_cond ?_; simp []; (try with_reducible refine ⟨?_, ?_⟩) <;> (try with_reducible intro hc) <;> try (exfalso; omega)) | ((first | (refine w_e [] ?_; intro J hJ; simp only []) | (refine w_q ?_; intro J hJ) | refine e_go ?_); simp []; (repeat refine ca ?_); (try ((try with_reducible refine ⟨?_, ?_⟩) <;> (try with_reducible intro hnil) <;> refine hJ _ _ ?_ <;> clear hJ J <;> simp only [ak, reduceIte] <;> try subst hnil)))))
  refine callK_ofE (dMap m h R hR q mn _ (by omega) (by omega) hD) (by simp) ?_; rintro r s4 ⟨rfl, hk4⟩
  have hn4 := hk4.next
  have hG4 := (hk4.H st.next (by omega)).trans hG3
  have a1 : ¬ st.next = s4.next := by omega
  have hRl := hR.len
  have hdl := darts_length m.g.es
  by_cases hbr : brg R m.g.es = []
  rotate_left
  · have hdm : dmap m R = (mp0, 20) := by unfold dmap; rw [if_pos hbr]
    rw [hdm]
    have hG5 : (s4.new (.box 28 3 [.sl 0 0 [], .sl 0 0 [], .sl 0 0 []])).H st.next = .box 28 3 (mpL m) := by simp [a1, hG4]
    have hb0 : 0 < (brg R m.g.es).length := List.length_pos_iff.2 hbr
    (repeat' (first | refine awp_seq ?_ | refine awp_block ?_ | ((first | refine awp_skip ?_ | refine awp_exit ?_); simp only [ak, reduceIte]) | (refine awp_ret ?_; simp only [ak, reduceIte]; simp [mp0, a1, hG4]) | (refine awp_cond ?_; simp [mp0, a1, hG4]; (try with_reducible refine ⟨?_, ?_⟩) <;> (try with_reducible intro hc) <;> try (exfalso; omega)) | ((first | (refine w_e [] ?_; intro J hJ; simp only []) | (refine w_q ?_; intro J hJ) | refine e_go ?_); simp [mp0, a1, hG4]; (repeat refine ca ?_); (try ((try with_reducible refine ⟨?_, ?_⟩) <;> (try with_reducible intro hnil) <;> refine hJ _ _ ?_ <;> clear hJ J <;> simp only [ak, reduceIte] <;> try subst hnil)))))
    refine callK_ofE (dOf_ m h _ (by omega) (by omega)) (by simp) ?_; rintro r s6 ⟨q', mn', R', rfl, hR', hD', hk6⟩
    obtain rfl := hR.unique hR'
    (repeat' (first | refine awp_seq ?_ | refine awp_block ?_ | ((first | refine awp_skip ?_ | refine awp_exit ?_); simp only [ak, reduceIte]) | (refine awp_ret ?_; simp only [ak, reduceIte]; simp []) | (refine awp_cond ?_; simp []; (try with_reducible refine ⟨?_, ?_⟩) <;> (try with_reducible intro hc) <;> try (exfalso; omega)) | ((first | (refine w_e [] ?_; intro J hJ; simp only []) | (refine w_q ?_; intro J hJ) | refine e_go ?_); simp []; (repeat refine ca ?_); (try ((try with_reducible refine ⟨?_, ?_⟩) <;> (try with_reducible intro hnil) <;> refine hJ _ _ ?_ <;> clear hJ J <;> simp only [ak, reduceIte] <;> try subst hnil)))))
    refine callK_ofE (dBridges m h R q' mn' _ (by omega) hD') (by simp) ?_; rintro r s7 ⟨⟨t7, rfl⟩, hk7⟩
    generalize (brg R m.g.es).length = bl at *
    (repeat' (first | refine awp_seq ?_ | refine awp_block ?_ | ((first | refine awp_skip ?_ | refine awp_exit ?_); simp only [ak, reduceIte]) | (refine awp_ret ?_; simp only [ak, reduceIte]; simp [hb0]) | (refine awp_cond ?_; simp [hb0]; (try with_reducible refine ⟨?_, ?_⟩) <;> (try with_reducible intro hc) <;> try (exfalso; omega)) | ((first | (refine w_e [] ?_; intro J hJ; simp only []) | (refine w_q ?_; intro J hJ) | refine e_go ?_); simp [hb0]; (repeat refine ca ?_); (try ((try with_reducible refine ⟨?_, ?_⟩) <;> (try with_reducible intro hnil) <;> refine hJ _ _ ?_ <;> clear hJ J <;> simp only [ak, reduceIte] <;> try subst hnil)))))
  have hb := brg_nil hbr
  have hdm : dmap m R = (dm m R, 0) := by unfold dmap; rw [if_neg (fun e => e hbr), if_neg (by omega)]
  have hok := dm_ok h hR hb
  have hMr : rright (dm m R) = 0 := by
    unfold rright
    rw [if_neg (fun e => e (dm_chk h hR hb (by omega) (by omega))), if_neg (by rw [dm_gn h hR hb, hg0]; simp)]
  have hMf := fun R' => @dm_faces m h R hR hb R'
  have hMv : (dm m R).g.vs.length = R.length := by simp [dm]
  have hMe : (dm m R).g.es.length = m.g.es.length := by simp [dm]
  have hMs : ∀ t ∈ (dm m R).rots, t.length ≤ 1000 := fun t ht => by
    have := hok.row_le ht
    omega
  have hMl := hok.len
  rw [hdm]
  generalize dm m R = M at *
  have hid : idOk m.g.es := fun x hx => by have := h.g.pos x hx; omega
  have hbz := busy_all m.g
  have hal : alone m.g ≤ m.g.vs.length := List.countP_le_length
  clear hD hk3 hk4
  (repeat' (first | refine awp_seq ?_ | refine awp_block ?_ | ((first | refine awp_skip ?_ | refine awp_exit ?_); simp only [ak, reduceIte]) | (refine awp_ret ?_; simp only [ak, reduceIte]; simp [a1, hG4]) | (refine awp_cond ?_; simp [a1, hG4]; (try with_reducible refine ⟨?_, ?_⟩) <;> (try with_reducible intro hc) <;> try (exfalso; omega)) | ((first | (refine w_e [] ?_; intro J hJ; simp only []) | (refine w_q ?_; intro J hJ) | refine e_go ?_); simp [a1, hG4]; (repeat refine ca ?_); (try ((try with_reducible refine ⟨?_, ?_⟩) <;> (try with_reducible intro hnil) <;> refine hJ _ _ ?_ <;> clear hJ J <;> simp only [ak, reduceIte] <;> try subst hnil)))))
  have hB5 : (s4.new (.box 28 3 (mpL M))).H s4.next = .box 28 3 (mpL M) := by simp
  have hG5 : (s4.new (.box 28 3 (mpL M))).H st.next = .box 28 3 (mpL m) := by simp [a1, hG4]
  refine awp_range 41 40 42 53 (m.g.vs.length) (fun j fr st2 => fr 1 = .pt st.next 0 ∧ fr 3 = .pt s4.next 0 ∧ fr 39 = .sl 0 m.g.vs.length (us m.g.vs) ∧ fr 5 = i ((m.g.vs.take j).countP (fun v => !decide (nbr m.g.es v = [])) : Nat) ∧ st2.H st.next = .box 28 3 (mpL m) ∧ st2.H s4.next = .box 28 3 (mpL M) ∧ s4.next < st2.next) ?_ ?_ ?_
  · exact ⟨by simp, by simp, by simp, by simp, by simpa using hG5, by simp, by simp⟩
  · rintro j fr s5 hlt ⟨f1, f3, f39, f5, hG, hB, hsn⟩ fi fn JJ hJJ
    have hd := us_drop_getD m.g.vs j hlt
    have hct := count_take (fun v => !decide (nbr m.g.es v = [])) m.g.vs j hlt
    have hle : (m.g.vs.take j).countP (fun v => !decide (nbr m.g.es v = [])) ≤ j := Nat.le_trans List.countP_le_length (by simp; omega)
    generalize m.g.vs.getD j 0 = v at *
    generalize (m.g.vs.take j).countP (fun v => !decide (nbr m.g.es v = [])) = c at *
    (repeat' (first | refine awp_seq ?_ | refine awp_block ?_ | ((first | refine awp_skip ?_ | refine awp_exit ?_); simp only [ak, reduceIte]) | (refine awp_ret ?_; simp only [ak, reduceIte]; simp [f1, f39, fi, fn, hd, hG, hlt]) | (refine awp_cond ?_; simp [f1, f39, fi, fn, hd, hG, hlt]; (try with_reducible refine ⟨?_, ?_⟩) <;> (try with_reducible intro hc) <;> try (exfalso; omega)) | ((first | (refine w_e [] ?_; intro J hJ; simp only []) | (refine w_q ?_; intro J hJ) | refine e_go ?_); simp [f1, f39, fi, fn, hd, hG, hlt]; (repeat refine ca ?_); (try ((try with_reducible refine ⟨?_, ?_⟩) <;> (try with_reducible intro hnil) <;> refine hJ _ _ ?_ <;> clear hJ J <;> simp only [ak, reduceIte] <;> try subst hnil)))))
    refine callK_ofE (ref_Ends m.g v _ (by omega) hid) (by simp) ?_; rintro r s6 ⟨⟨t, rfl⟩, hk6⟩
    have hn6 := hk6.next
    have e0 := ends_len0 m.g.es v
    have hw := nat_add_one c (by omega)
    by_cases h0 : nbr m.g.es v = []
    · have e1 := e0.2 h0
      rw [if_neg (by simpa using h0)] at hct
      (repeat' (first | refine awp_seq ?_ | refine awp_block ?_ | ((first | refine awp_skip ?_ | refine awp_exit ?_); simp only [ak, reduceIte]) | (refine awp_ret ?_; simp only [ak, reduceIte]; simp [e1]) | (refine awp_cond ?_; simp [e1]; (try with_reducible refine ⟨?_, ?_⟩) <;> (try with_reducible intro hc) <;> try (exfalso; omega)) | ((first | (refine w_e [] ?_; intro J hJ; simp only []) | (refine w_q ?_; intro J hJ) | refine e_go ?_); simp [e1]; (repeat refine ca ?_); (try ((try with_reducible refine ⟨?_, ?_⟩) <;> (try with_reducible intro hnil) <;> refine hJ _ _ ?_ <;> clear hJ J <;> simp only [ak, reduceIte] <;> try subst hnil)))))
      exact hJJ _ _ (by simp [fi]) (by simp [fn]) ⟨by simp [f1], by simp [f3], by simp [f39], by rw [hct]; simp [f5], (hk6.H _ (by omega)).trans hG, (hk6.H _ hsn).trans hB, by omega⟩
    · have e1 : 0 < (ends m.g.es v).length := by have : ¬ (ends m.g.es v).length = 0 := fun e => h0 (e0.1 e); omega
      rw [if_pos (by simpa using h0)] at hct
      generalize (ends m.g.es v).length = el at *
      (repeat' (first | refine awp_seq ?_ | refine awp_block ?_ | ((first | refine awp_skip ?_ | refine awp_exit ?_); simp only [ak, reduceIte]) | (refine awp_ret ?_; simp only [ak, reduceIte]; simp [e1, f5, hw]) | (refine awp_cond ?_; simp [e1, f5, hw]; (try with_reducible refine ⟨?_, ?_⟩) <;> (try with_reducible intro hc) <;> try (exfalso; omega)) | ((first | (refine w_e [] ?_; intro J hJ; simp only []) | (refine w_q ?_; intro J hJ) | refine e_go ?_); simp [e1, f5, hw]; (repeat refine ca ?_); (try ((try with_reducible refine ⟨?_, ?_⟩) <;> (try with_reducible intro hnil) <;> refine hJ _ _ ?_ <;> clear hJ J <;> simp only [ak, reduceIte] <;> try subst hnil)))))
      exact hJJ _ _ (by simp [fi]) (by simp [fn]) ⟨by simp [f1], by simp [f3], by simp [f39], by rw [hct]; simp, (hk6.H _ (by omega)).trans hG, (hk6.H _ hsn).trans hB, by omega⟩
  rintro fr s5 ⟨f1, f3, f39, f5, hG, hB, hsn⟩
  rw [List.take_length] at f5
  generalize m.g.vs.countP (fun v => !decide (nbr m.g.es v = [])) = bz at *
  (repeat' (first | refine awp_seq ?_ | refine awp_block ?_ | ((first | refine awp_skip ?_ | refine awp_exit ?_); simp only [ak, reduceIte]) | (refine awp_ret ?_; simp only [ak, reduceIte]; simp []) | (refine awp_cond ?_; simp []; (try with_reducible refine ⟨?_, ?_⟩) <;> (try with_reducible intro hc) <;> try (exfalso; omega)) | ((first | (refine w_e [] ?_; intro J hJ; simp only []) | (refine w_q ?_; intro J hJ) | refine e_go ?_); simp []; (repeat refine ca ?_); (try ((try with_reducible refine ⟨?_, ?_⟩) <;> (try with_reducible intro hnil) <;> refine hJ _ _ ?_ <;> clear hJ J <;> simp only [ak, reduceIte] <;> try subst hnil)))))
  (refine w_s [] [st.next, s4.next] [(0, true), (1, true), (2, true), (3, true), (4, true), (7, true), (5, true), (6, true), (8, true), (9, true), (10, true), (11, true), (12, true), (13, true), (14, true), (15, true), (16, true), (17, true), (18, true), (19, true)] ?_; intro J hJ; simp [f1, f3, hG, hB]; (repeat refine ca ?_); (try ((try with_reducible refine ⟨?_, ?_⟩) <;> (try with_reducible intro hnil) <;> refine hJ _ _ ?_ <;> clear hJ J <;> simp only [ak, reduceIte] <;> try subst hnil)))
  refine dcallK_ofE (rRight M _ (by omega) (by omega) (by omega) hMs) (by simp) ?_; rintro r s6 ⟨rfl, hk6⟩
  have hn6 := hk6.next
  have hG6 := (hk6.H st.next (by omega)).trans hG
  have hB6 := (hk6.H s4.next (by omega)).trans hB
  rw [hMr]
  refine ⟨fun _ => by simp [hG6, hB6, hG, hB], ?_⟩
  (refine d_go ?_; simp [f1, f3, hG6, hB6, hG, hB]; (repeat refine ca ?_); (try ((try with_reducible refine ⟨?_, ?_⟩) <;> (try with_reducible intro hnil) <;> refine hJ _ _ ?_ <;> clear hJ J <;> simp only [ak, reduceIte] <;> try subst hnil)))
  refine dcallK_ofE (Faces M hok _ (by omega) (by omega)) (by simp) ?_; rintro r s7 ⟨⟨t7, R7, rfl, hR7⟩, hk7⟩
  obtain ⟨hf1, hf2⟩ := hMf R7 hR7
  have hn7 := hk7.next
  have hG7 := (hk7.H st.next (by omega)).trans hG6
  have hB7 := (hk7.H s4.next (by omega)).trans hB6
  refine ⟨fun _ => by simp [hG7, hB7, hG, hB], ?_⟩
  have hbz2 : R7.length = bz := by omega
  rw [hbz2]
  (refine d_go ?_; simp [f1, f3, f5, hG7, hB7, hG, hB]; (repeat refine ca ?_); (try ((try with_reducible refine ⟨?_, ?_⟩) <;> (try with_reducible intro hnil) <;> refine hJ _ _ ?_ <;> clear hJ J <;> simp only [ak, reduceIte] <;> try subst hnil)))
  refine dcallK_ofE (Faces m h _ (by omega) (by omega)) (by simp) ?_; rintro r s8 ⟨⟨t8, R8, rfl, hR8⟩, hk8⟩
  obtain rfl := hR.unique hR8
  have hn8 := hk8.next
  have hG8 := (hk8.H st.next (by omega)).trans hG7
  have hB8 := (hk8.H s4.next (by omega)).trans hB7
  refine ⟨fun _ => by simp [hG8, hB8, hG, hB], ?_⟩
  (refine d_go ?_; simp [f1, f3, f5, hG8, hB8, hG, hB, hMv]; (repeat refine ca ?_); (try ((try with_reducible refine ⟨?_, ?_⟩) <;> (try with_reducible intro hnil) <;> refine hJ _ _ ?_ <;> clear hJ J <;> simp only [ak, reduceIte] <;> try subst hnil)))
  (repeat' (first | refine awp_seq ?_ | refine awp_block ?_ | ((first | refine awp_skip ?_ | refine awp_exit ?_); simp only [ak, reduceIte]) | (refine awp_ret ?_; simp only [ak, reduceIte]; simp [f3, hB8]) | (refine awp_cond ?_; simp [f3, hB8]; (try with_reducible refine ⟨?_, ?_⟩) <;> (try with_reducible intro hc) <;> try (exfalso; omega)) | ((first | (refine w_e [] ?_; intro J hJ; simp only []) | (refine w_q ?_; intro J hJ) | refine e_go ?_); simp [f3, hB8]; (repeat refine ca ?_); (try ((try with_reducible refine ⟨?_, ?_⟩) <;> (try with_reducible intro hnil) <;> refine hJ _ _ ?_ <;> clear hJ J <;> simp only [ak, reduceIte] <;> try subst hnil)))))
  refine callK_ofE (Faces M hok _ (by omega) (by omega)) (by simp) ?_; rintro r s9 ⟨⟨t9, R9, rfl, hR9⟩, hk9⟩
  obtain rfl := Lead.unique hR7 hR9
  have hn9 := hk9.next
  have hG9 := (hk9.H st.next (by omega)).trans hG8
  (repeat' (first | refine awp_seq ?_ | refine awp_block ?_ | ((first | refine awp_skip ?_ | refine awp_exit ?_); simp only [ak, reduceIte]) | (refine awp_ret ?_; simp only [ak, reduceIte]; simp []) | (refine awp_cond ?_; simp []; (try with_reducible refine ⟨?_, ?_⟩) <;> (try with_reducible intro hc) <;> try (exfalso; omega)) | ((first | (refine w_e [] ?_; intro J hJ; simp only []) | (refine w_q ?_; intro J hJ) | refine e_go ?_); simp []; (repeat refine ca ?_); (try ((try with_reducible refine ⟨?_, ?_⟩) <;> (try with_reducible intro hnil) <;> refine hJ _ _ ?_ <;> clear hJ J <;> simp only [ak, reduceIte] <;> try subst hnil)))))
  refine awp_range 77 76 78 89 (R7.length) (fun j fr st2 => fr 1 = .pt st.next 0 ∧ fr 75 = .sl t9 R7.length (rowsL R7) ∧ st2.H st.next = .box 28 3 (mpL m) ∧ st.next < st2.next) ?_ ?_ ?_
  · exact ⟨by simp [f1], by simp, hG9, by omega⟩
  · clear f1 f3 f39 f5 fr
    rintro j fr s10 hlt ⟨f1, f75, hG, hsn'⟩ fi fn JJ hJJ
    have hd := rowsL_drop R7 j hlt
    have hRl2 : j < (rowsL R7).length := by simpa using hlt
    have hcin : R7.getD j [] ∈ R7 := by rw [getR_lt _ _ hlt]; exact List.getElem_mem _
    obtain ⟨a, r, hcr, hcm⟩ := hf2 _ hcin
    have hts := turn_self h hcm hcr
    have hcs := hsm _ hcm
    rw [hcr] at hd hts hcs
    (repeat' (first | refine awp_seq ?_ | refine awp_block ?_ | ((first | refine awp_skip ?_ | refine awp_exit ?_); simp only [ak, reduceIte]) | (refine awp_ret ?_; simp only [ak, reduceIte]; simp [f75, fi, fn, hd, hRl2, hlt]) | (refine awp_cond ?_; simp [f75, fi, fn, hd, hRl2, hlt]; (try with_reducible refine ⟨?_, ?_⟩) <;> (try with_reducible intro hc) <;> try (exfalso; omega)) | ((first | (refine w_e [] ?_; intro J hJ; simp only []) | (refine w_q ?_; intro J hJ) | refine e_go ?_); simp [f75, fi, fn, hd, hRl2, hlt]; (repeat refine ca ?_); (try ((try with_reducible refine ⟨?_, ?_⟩) <;> (try with_reducible intro hnil) <;> refine hJ _ _ ?_ <;> clear hJ J <;> simp only [ak, reduceIte] <;> try subst hnil)))))
    (refine w_s [] [st.next] [(0, true), (1, true), (2, true), (3, true), (5, true), (4, false), (6, true), (7, true)] ?_; intro J hJ; simp [f1, hG]; (repeat refine ca ?_); (try ((try with_reducible refine ⟨?_, ?_⟩) <;> (try with_reducible intro hnil) <;> refine hJ _ _ ?_ <;> clear hJ J <;> simp only [ak, reduceIte] <;> try subst hnil)))
    refine dcallK_ofE (rTurn m a _ (by omega) hsm) (by simp) ?_; rintro r' s11 ⟨⟨t11, rfl⟩, hk11⟩
    have hn11 := hk11.next
    have hG11 := (hk11.H st.next hsn').trans hG
    rw [hts]
    refine ⟨fun _ => by simp [hG11, hG], ?_⟩
    (refine d_go ?_; simp [hG11, hG]; (repeat refine ca ?_); (try ((try with_reducible refine ⟨?_, ?_⟩) <;> (try with_reducible intro hnil) <;> refine hJ _ _ ?_ <;> clear hJ J <;> simp only [ak, reduceIte] <;> try subst hnil)))
    refine dcallK_ofE (ref_Same (a :: r) (a :: r) t11 0 _ hcs) (by simp) ?_; rintro r' s12 ⟨rfl, rfl⟩
    refine ⟨fun _ => by simp [hG11, hG], ?_⟩
    (refine d_go ?_; simp [hG11, hG]; (repeat refine ca ?_); (try ((try with_reducible refine ⟨?_, ?_⟩) <;> (try with_reducible intro hnil) <;> refine hJ _ _ ?_ <;> clear hJ J <;> simp only [ak, reduceIte] <;> try subst hnil)))
    (repeat' (first | refine awp_seq ?_ | refine awp_block ?_ | ((first | refine awp_skip ?_ | refine awp_exit ?_); simp only [ak, reduceIte]) | (refine awp_ret ?_; simp only [ak, reduceIte]; simp []) | (refine awp_cond ?_; simp []; (try with_reducible refine ⟨?_, ?_⟩) <;> (try with_reducible intro hc) <;> try (exfalso; omega)) | ((first | (refine w_e [] ?_; intro J hJ; simp only []) | (refine w_q ?_; intro J hJ) | refine e_go ?_); simp []; (repeat refine ca ?_); (try ((try with_reducible refine ⟨?_, ?_⟩) <;> (try with_reducible intro hnil) <;> refine hJ _ _ ?_ <;> clear hJ J <;> simp only [ak, reduceIte] <;> try subst hnil)))))
    exact hJJ _ _ (by simp [fi]) (by simp [fn]) ⟨by simp [f1], by simp [f75], hG11, by omega⟩
  · rintro fr s10 _
    (repeat' (first | refine awp_seq ?_ | refine awp_block ?_ | ((first | refine awp_skip ?_ | refine awp_exit ?_); simp only [ak, reduceIte]) | (refine awp_ret ?_; simp only [ak, reduceIte]; simp []) | (refine awp_cond ?_; simp []; (try with_reducible refine ⟨?_, ?_⟩) <;> (try with_reducible intro hc) <;> try (exfalso; omega)) | ((first | (refine w_e [] ?_; intro J hJ; simp only []) | (refine w_q ?_; intro J hJ) | refine e_go ?_); simp []; (repeat refine ca ?_); (try ((try with_reducible refine ⟨?_, ?_⟩) <;> (try with_reducible intro hnil) <;> refine hJ _ _ ?_ <;> clear hJ J <;> simp only [ak, reduceIte] <;> try subst hnil)))))

theorem DualPlane_shp (l0 : List LV) (st : St) (h0 : Shp tab 28 l0) : ACalls Tryz.prog 5 [argT tab 28 l0] st fun r st' => r = bb true := by
  obtain ⟨m, rfl, _⟩ := shp_mp h0
  exact DualPlane m st

end Go.Proofs.YtphdhggoaijfoaaGreat.Aw
