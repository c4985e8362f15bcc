/- Maps: Faces. Maps, the document's: Faces. Maps: the genus, the program's and the document's. Maps: whether one may be, as the document says it; whether it lies in the plane. The law RotChecks. -/
import Derived.Test.YtphdhggoaijfoaaJf
namespace Go.Proofs.Ytphdhggoaijfoaa.Aw
open Go Go.RowKit Go.Proofs.Ytphdhggoaijfoaa.Pl Go.Proofs.Ytphdhggoaijfoaa.Eu
set_option linter.unusedSimpArgs false
set_option linter.unusedVariables false

def FacesP (m : Mp) (st : St) (r : LV) (st' : St) : Prop := (∃ t R, r = .sl t R.length (rowsL3 R) ∧ Lead (fc m m.g.es) (darts m.g.es) (darts m.g.es).length R) ∧ Keeps st st'
structure FcI (m : Mp) (q4 q5 ms ma : Nat) (es4 : List (List Int × LV)) (st : St) (K : Nat) (fr : Frm) (st2 : St) : Prop where
  f5 : fr 5 = .pt q5 0
  f6 : fr 6 = .fn (.func 108) [.pt q5 0, .pt q4 0]
  h5 : st2.H q5 = .box 89 1 [.mp ms]
  h4 : st2.H q4 = .box 122 1 [.mp ma]
  ha : st2.H ma = .map false [.u32] es4
  hs : ∃ es, st2.H ms = .map false [.u32] es ∧ SeenI es (SeenD (fc m m.g.es) (darts m.g.es) K)
  kp : Keeps st st2
  lt : (q5 < st2.next ∧ q4 < st2.next) ∧ ms < st2.next ∧ ma < st2.next
  lo : (st.next ≤ q5 ∧ st.next ≤ q4) ∧ st.next ≤ ms ∧ st.next ≤ ma
  rows : ∃ t R, fr 3 = .sl t R.length (rowsL3 R) ∧ Lead (fc m m.g.es) (darts m.g.es) K R ∧ (t ≠ 0 ∧ st.next ≤ t ∧ t < st2.next) ∧ st2.H t = .own 27 1 R.length
theorem FcI.fr {m : Mp} {q4 q5 ms ma : Nat} {es4 : List (List Int × LV)} {st : St} {K : Nat} {fr fr' : Frm} {st2 st3 : St} (h : FcI m q4 q5 ms ma es4 st K fr st2) (h3 : fr' 3 = fr 3) (h5 : fr' 5 = fr 5) (h6 : fr' 6 = fr 6) (hk : Keeps st2 st3) : FcI m q4 q5 ms ma es4 st K fr' st3 := by
  obtain ⟨f5, f6, a5, a4, aa, ⟨es, as1, as2⟩, kp, ⟨⟨l1, l2⟩, l3, l4⟩, lo, t, R, f3, hL, ⟨t0, t1, t2⟩, hH⟩ := h
  have := hk.next
  exact ⟨h5.trans f5, h6.trans f6, (hk.H _ l1).trans a5, (hk.H _ l2).trans a4, (hk.H _ l4).trans aa, ⟨es, (hk.H _ l3).trans as1, as2⟩, kp.trans hk, ⟨⟨by omega, by omega⟩, by omega, by omega⟩, lo, t, R, h3.trans f3, hL, ⟨t0, t1, by omega⟩, (hk.H _ t2).trans hH⟩

theorem Faces (m : Mp) (h : MapOk m) (st : St) (hv : m.g.vs.length ≤ 1000) (he : m.g.es.length ≤ 1000) :
    ACalls Try.prog 89 [.ag (mpL m)] st (FacesP m st) := by
  have hel := eds_length m.g.es
  have hdl := darts_length m.g.es
  have hP := h.fc_per m.g.es (fun x hx => hx)
  refine acalls_of_body tabOk Try.func89 rfl rfl Try.ntmps89 (rs := [.tmp 2]) rfl (by simp) ?_
  (repeat' (first | refine awp_seq ?_ | refine awp_block ?_ | ((first | refine awp_skip ?_ | refine awp_exit ?_); simp only [ak, reduceIte]) | (refine awp_ret ?_; simp only [ak, reduceIte]; simp []) | (refine awp_cond ?_; simp []; (try with_reducible refine ⟨?_, ?_⟩) <;> (try with_reducible intro hc) <;> try (exfalso; omega)) | ((first | (refine w_e [] ?_; intro J hJ; simp only []) | (refine w_q ?_; intro J hJ) | refine e_go ?_); simp []; (repeat refine ca ?_); (try ((try with_reducible refine ⟨?_, ?_⟩) <;> (try with_reducible intro hnil) <;> refine hJ _ _ ?_ <;> clear hJ J <;> simp only [ak, reduceIte] <;> try subst hnil)))))
  refine callK_ofE (behind m h _ hv he) (by simp) ?_; rintro r s1 ⟨ma, es4, rfl, hm1, hm2, hMa, hk1, hB⟩
  have hn1 := hk1.next
  simp only [new_next] at hn1 hm1
  have hG1 : s1.H st.next = .box 71 3 (mpL m) := by rw [hk1.H _ (by simp)]; simp
  have a1 : ¬ st.next = s1.next := by omega
  have a2 : ¬ st.next = s1.next + 1 := by omega
  have a3 : ¬ st.next = s1.next + 1 + 1 := by omega
  have a4 : ¬ ma = s1.next := by omega
  have a5 : ¬ ma = s1.next + 1 := by omega
  have a6 : ¬ ma = s1.next + 1 + 1 := by omega
  have a7 : ¬ ma = s1.next + 1 + 1 + 1 := by omega
  (repeat' (first | refine awp_seq ?_ | refine awp_block ?_ | ((first | refine awp_skip ?_ | refine awp_exit ?_); simp only [ak, reduceIte]) | (refine awp_ret ?_; simp only [ak, reduceIte]; simp [hG1, a1, a2, a3]) | (refine awp_cond ?_; simp [hG1, a1, a2, a3]; (try with_reducible refine ⟨?_, ?_⟩) <;> (try with_reducible intro hc) <;> try (exfalso; omega)) | ((first | (refine w_e [] ?_; intro J hJ; simp only []) | (refine w_q ?_; intro J hJ) | refine e_go ?_); simp [hG1, a1, a2, a3]; (repeat refine ca ?_); (try ((try with_reducible refine ⟨?_, ?_⟩) <;> (try with_reducible intro hnil) <;> refine hJ _ _ ?_ <;> clear hJ J <;> simp only [ak, reduceIte] <;> try subst hnil)))))
  refine awp_posG fun hpos => ?_
  refine awp_own 3 27 1 (by simp) ?_
  refine awp_range 19 18 20 42 (m.g.es.length) (fun j fr st2 => fr 17 = .sl 0 m.g.es.length (eds m.g.es) ∧ FcI m s1.next (s1.next + 1 + 1) (s1.next + 1) ma es4 st (2 * j) fr st2) ?_ ?_ ?_
  · refine ⟨by simp, by simp, by simp, by simp, by simp, by simp [a4, a5, a6, a7, hMa], ⟨[], by simp, fun v => ⟨?_, fun _ => rfl⟩⟩, ?_, by simp; omega, by omega, s1.next + 1 + 1 + 1, [], by simp, .zero, ⟨by omega, by omega, by simp⟩, by simp⟩
    · rintro ⟨y, hy, _⟩; simp at hy
    · (repeat (first | exact Keeps.refl _ | exact (Keeps.new _ _).trans hk1 | (refine Keeps.trans ?_ (Keeps.new _ _)) | (refine Keeps.set ?_ (by omega) _)))
  · rintro j0 fr st2' hlt ⟨f17, hI⟩ fi fn JJ hJJ
    have hd := eds_drop m.g.es j0 hlt
    have hk3 : j0 * 3 < m.g.es.length * 3 := by omega
    have hxin : m.g.es.getD j0 ed0 ∈ m.g.es := by rw [getE_lt _ _ hlt]; exact List.getElem_mem _
    have hpos := h.g.pos _ hxin
    have hg := darts_get m.g.es j0 hlt
    generalize hx : m.g.es.getD j0 ed0 = x at *
    obtain ⟨id, a, b⟩ := x
    simp only at hpos hd hg
    (repeat' (first | refine awp_seq ?_ | refine awp_block ?_ | ((first | refine awp_skip ?_ | refine awp_exit ?_); simp only [ak, reduceIte]) | (refine awp_ret ?_; simp only [ak, reduceIte]; simp [fi, fn, f17, hd, hel, hk3]) | (refine awp_cond ?_; simp [fi, fn, f17, hd, hel, hk3]; (try with_reducible refine ⟨?_, ?_⟩) <;> (try with_reducible intro hc) <;> try (exfalso; omega)) | ((first | (refine w_e [] ?_; intro J hJ; simp only []) | (refine w_q ?_; intro J hJ) | refine e_go ?_); simp [fi, fn, f17, hd, hel, hk3]; (repeat refine ca ?_); (try ((try with_reducible refine ⟨?_, ?_⟩) <;> (try with_reducible intro hnil) <;> refine hJ _ _ ?_ <;> clear hJ J <;> simp only [ak, reduceIte] <;> try subst hnil)))))
    refine awp_rangeC 23 24 41 2 (fun j fr st2 => fr 17 = .sl 0 m.g.es.length (eds m.g.es) ∧ fr 19 = i j0 ∧ fr 18 = i m.g.es.length ∧ fr 8 = .pt st2'.next 0 ∧ st2.H st2'.next = .box 52 3 (edL ⟨id, a, b⟩) ∧ st2'.next < st2.next ∧ FcI m s1.next (s1.next + 1 + 1) (s1.next + 1) ma es4 st (2 * j0 + j) fr st2) ?_ ?_ ?_
    · exact ⟨by simp [f17], by simp [fi], by simp [fn], by simp, by simp, by simp, hI.fr (by simp) (by simp) (by simp) (Keeps.new _ _)⟩
    · clear f17 fi fn hI fr
      rintro e fr st2 hle ⟨f17, f19, f18, f8, hX, hXl, hI⟩ fi J2 hJ2
      have hK : 2 * j0 + e < (darts m.g.es).length := by omega
      have hKd : (darts m.g.es).getD (2 * j0 + e) 0 = 2 * id + e := by
        rcases Nat.lt_or_ge e 1 with h1 | h1
        · obtain rfl : e = 0 := by omega
          rw [Nat.add_zero, hg.1]; omega
        · obtain rfl : e = 1 := by omega
          rw [hg.2]; rfl
      have hdin : 2 * id + (e : Int) ∈ darts m.g.es := by rw [← hKd, getD_lt _ _ hK]; exact List.getElem_mem _
      obtain ⟨f5, f6, h5, h4, ha, ⟨es, hM, hSI⟩, hkp, hlt5, hlo5, t, R, f3, hL, ⟨t0, t1, t2⟩, hH⟩ := hI
      (repeat' (first | refine awp_seq ?_ | refine awp_block ?_ | ((first | refine awp_skip ?_ | refine awp_exit ?_); simp only [ak, reduceIte]) | (refine awp_ret ?_; simp only [ak, reduceIte]; simp [f8, hX, fi]) | (refine awp_cond ?_; simp [f8, hX, fi]; (try with_reducible refine ⟨?_, ?_⟩) <;> (try with_reducible intro hc) <;> try (exfalso; omega)) | ((first | (refine w_e [] ?_; intro J hJ; simp only []) | (refine w_q ?_; intro J hJ) | refine e_go ?_); simp [f8, hX, fi]; (repeat refine ca ?_); (try ((try with_reducible refine ⟨?_, ?_⟩) <;> (try with_reducible intro hnil) <;> refine hJ _ _ ?_ <;> clear hJ J <;> simp only [ak, reduceIte] <;> try subst hnil)))))
      refine callK_ofE (dOf id e _ (by omega) (by omega) (by omega)) (by simp) ?_; rintro r s3 ⟨rfl, rfl⟩
      by_cases hs : SeenD (fc m m.g.es) (darts m.g.es) (2 * j0 + e) (2 * id + e)
      · have hg1 := (hSI _).1 hs
        have hs' := hs
        rw [← hKd] at hs'
        (repeat' (first | refine awp_seq ?_ | refine awp_block ?_ | ((first | refine awp_skip ?_ | refine awp_exit ?_); simp only [ak, reduceIte]) | (refine awp_ret ?_; simp only [ak, reduceIte]; simp [f5, h5, hM, hg1]) | (refine awp_cond ?_; simp [f5, h5, hM, hg1]; (try with_reducible refine ⟨?_, ?_⟩) <;> (try with_reducible intro hc) <;> try (exfalso; omega)) | ((first | (refine w_e [] ?_; intro J hJ; simp only []) | (refine w_q ?_; intro J hJ) | refine e_go ?_); simp [f5, h5, hM, hg1]; (repeat refine ca ?_); (try ((try with_reducible refine ⟨?_, ?_⟩) <;> (try with_reducible intro hnil) <;> refine hJ _ _ ?_ <;> clear hJ J <;> simp only [ak, reduceIte] <;> try subst hnil)))))
        refine hJ2 _ _ (by simp [fi]) ⟨by simp [f17], by simp [f19], by simp [f18], by simp [f8], hX, hXl, by simp [f5], by simp [f6], h5, h4, ha, ⟨es, hM, hSI.congr fun v => seenD_same hK hs'⟩, hkp, hlt5, hlo5, t, R, by simp [f3], .seen hL hK hs', ⟨t0, t1, t2⟩, hH⟩
      · have hg1 := (hSI _).2 hs
        have hs' := hs
        rw [← hKd] at hs'
        (repeat' (first | refine awp_seq ?_ | refine awp_block ?_ | ((first | refine awp_skip ?_ | refine awp_exit ?_); simp only [ak, reduceIte]) | (refine awp_ret ?_; simp only [ak, reduceIte]; simp [f5, h5, hM, hg1, f6, f3]) | (refine awp_cond ?_; simp [f5, h5, hM, hg1, f6, f3]; (try with_reducible refine ⟨?_, ?_⟩) <;> (try with_reducible intro hc) <;> try (exfalso; omega)) | ((first | (refine w_e [] ?_; intro J hJ; simp only []) | (refine w_q ?_; intro J hJ) | refine e_go ?_); simp [f5, h5, hM, hg1, f6, f3]; (repeat refine ca ?_); (try ((try with_reducible refine ⟨?_, ?_⟩) <;> (try with_reducible intro hnil) <;> refine hJ _ _ ?_ <;> clear hJ J <;> simp only [ak, reduceIte] <;> try subst hnil)))))
        refine callK_ofE (Walk m h (2 * id + e) _ _ _ _ es es4 _ _ he hdin h5 h4 hM ha hlt5 (by omega) hSI hB fun x hx hx2 => ?_) (by simp) ?_
        · obtain ⟨y, hy, hr⟩ := hx2
          exact hs ⟨y, hy, hr.trans (Orb.symm hP hx)⟩
        rintro r s4 ⟨⟨t', L, rfl, hc⟩, hoff, es', hM', hSI'⟩
        have hn4 := hoff.1
        have hLl := (h.cyc_le hdin hc).2
        obtain ⟨Lr, hLr⟩ := IsCyc.head hc
        rw [← hKd] at hc
        have hmn := (cyc_lead hP (darts_rise h.g.ids) (h.fc_dart _) hK hc).1 hs'
        have hnL : nrm L = L := nrm_of_head hLr (hmn.trans hKd)
        have hSn : SeenI es' (SeenD (fc m m.g.es) (darts m.g.es) (2 * j0 + e + 1)) := hSI'.congr fun v => by rw [seenD_succ hK, hKd]
        have hRl := hL.len
        have hL2 := Lead.lead hL hK hs' hc
        obtain ⟨⟨l5, l4⟩, ls, la⟩ := hlt5
        obtain ⟨⟨o5, o4⟩, os, oa⟩ := hlo5
        have n1 : ¬ t = s1.next + 1 := by rintro rfl; rw [hM] at hH; cases hH
        (repeat' (first | refine awp_seq ?_ | refine awp_block ?_ | ((first | refine awp_skip ?_ | refine awp_exit ?_); simp only [ak, reduceIte]) | (refine awp_ret ?_; simp only [ak, reduceIte]; simp [f6, f3]) | (refine awp_cond ?_; simp [f6, f3]; (try with_reducible refine ⟨?_, ?_⟩) <;> (try with_reducible intro hc) <;> try (exfalso; omega)) | ((first | (refine w_e [] ?_; intro J hJ; simp only []) | (refine w_q ?_; intro J hJ) | refine e_go ?_); simp [f6, f3]; (repeat refine ca ?_); (try ((try with_reducible refine ⟨?_, ?_⟩) <;> (try with_reducible intro hnil) <;> refine hJ _ _ ?_ <;> clear hJ J <;> simp only [ak, reduceIte] <;> try subst hnil)))))
        refine callK_ofE (Normal L t' _ (by unfold small; omega)) (by simp) ?_; rintro r s5 ⟨rfl, hk5⟩
        have hn5 := hk5.next
        have g5 := (hk5.H _ (by omega)).trans ((hoff.2 _ (by omega) l5).trans h5)
        have g4 := (hk5.H _ (by omega)).trans ((hoff.2 _ (by omega) l4).trans h4)
        have ga := (hk5.H _ (by omega)).trans ((hoff.2 _ (by omega) la).trans ha)
        have gs := (hk5.H _ (by omega)).trans hM'
        have gt := (hk5.H _ (by omega)).trans ((hoff.2 _ n1 t2).trans hH)
        have n2 : ¬ st2'.next = s1.next + 1 := by intro e; rw [e, hM] at hX; cases hX
        have gX := (hk5.H _ (by omega)).trans ((hoff.2 _ n2 hXl).trans hX)
        have m1 : ¬ t = s5.next := by omega
        have m2 : ¬ t = s1.next := by rintro rfl; rw [h4] at hH; cases hH
        have m3 : ¬ t = s1.next + 1 + 1 := by rintro rfl; rw [h5] at hH; cases hH
        have m4 : ¬ t = ma := by rintro rfl; rw [ha] at hH; cases hH
        have m5 : ¬ st2'.next = t := by rintro rfl; rw [hX] at hH; cases hH
        rw [hnL]
        (repeat' (first | refine awp_seq ?_ | refine awp_block ?_ | ((first | refine awp_skip ?_ | refine awp_exit ?_); simp only [ak, reduceIte]) | (refine awp_ret ?_; simp only [ak, reduceIte]; simp [f3, gt, t0, m1]) | (refine awp_cond ?_; simp [f3, gt, t0, m1]; (try with_reducible refine ⟨?_, ?_⟩) <;> (try with_reducible intro hc) <;> try (exfalso; omega)) | ((first | (refine w_e [] ?_; intro J hJ; simp only []) | (refine w_q ?_; intro J hJ) | refine e_go ?_); simp [f3, gt, t0, m1]; (repeat refine ca ?_); (try ((try with_reducible refine ⟨?_, ?_⟩) <;> (try with_reducible intro hnil) <;> refine hJ _ _ ?_ <;> clear hJ J <;> simp only [ak, reduceIte] <;> try subst hnil)))))
        refine hJ2 _ _ (by simp [fi]) ⟨by simp [f17], by simp [f19], by simp [f18], by simp [f8], ?_, by simp; omega, by simp [f5], by simp [f6], ?_, ?_, ?_, ⟨es', ?_, hSn⟩, ?_, by simp; omega, by omega, s5.next + 1, R ++ [L], by simp, hL2, ⟨by omega, by omega, by simp⟩, by simp⟩
        · rw [new_H, if_neg (by simp only [set_next, new_next]; omega), set_H, if_neg (by omega), new_H, if_neg (by omega)]; exact gX
        · rw [new_H, if_neg (by simp only [set_next, new_next]; omega), set_H, if_neg (by omega), new_H, if_neg (by omega)]; exact g5
        · rw [new_H, if_neg (by simp only [set_next, new_next]; omega), set_H, if_neg (by omega), new_H, if_neg (by omega)]; exact g4
        · rw [new_H, if_neg (by simp only [set_next, new_next]; omega), set_H, if_neg (by omega), new_H, if_neg (by omega)]; exact ga
        · rw [new_H, if_neg (by simp only [set_next, new_next]; omega), set_H, if_neg (by omega), new_H, if_neg (by omega)]; exact gs
        · have hK3 : Keeps st s5 := ⟨by have := hkp.next; omega, fun l hl => (hk5.H l (by have := hkp.next; omega)).trans ((hoff.2 l (by omega) (by have := hkp.next; omega)).trans (hkp.H l hl))⟩
          exact ((hK3.trans (Keeps.new _ _)).set t1 _).trans (Keeps.new _ _)
    · clear f17 fi fn hI fr
      rintro fr st2 ⟨f17, f19, f18, f8, hX, hXl, hI⟩
      (repeat' (first | refine awp_seq ?_ | refine awp_block ?_ | ((first | refine awp_skip ?_ | refine awp_exit ?_); simp only [ak, reduceIte]) | (refine awp_ret ?_; simp only [ak, reduceIte]; simp []) | (refine awp_cond ?_; simp []; (try with_reducible refine ⟨?_, ?_⟩) <;> (try with_reducible intro hc) <;> try (exfalso; omega)) | ((first | (refine w_e [] ?_; intro J hJ; simp only []) | (refine w_q ?_; intro J hJ) | refine e_go ?_); simp []; (repeat refine ca ?_); (try ((try with_reducible refine ⟨?_, ?_⟩) <;> (try with_reducible intro hnil) <;> refine hJ _ _ ?_ <;> clear hJ J <;> simp only [ak, reduceIte] <;> try subst hnil)))))
      exact hJJ _ _ (by simp [f19]) (by simp [f18]) ⟨by simp [f17], hI.fr (by simp) (by simp) (by simp) (Keeps.refl _)⟩
  · rintro fr st2 ⟨f17, hI⟩
    obtain ⟨t, R, f3, hL, _⟩ := hI.rows
    (repeat' (first | refine awp_seq ?_ | refine awp_block ?_ | ((first | refine awp_skip ?_ | refine awp_exit ?_); simp only [ak, reduceIte]) | (refine awp_ret ?_; simp only [ak, reduceIte]; simp [f3]) | (refine awp_cond ?_; simp [f3]; (try with_reducible refine ⟨?_, ?_⟩) <;> (try with_reducible intro hc) <;> try (exfalso; omega)) | ((first | (refine w_e [] ?_; intro J hJ; simp only []) | (refine w_q ?_; intro J hJ) | refine e_go ?_); simp [f3]; (repeat refine ca ?_); (try ((try with_reducible refine ⟨?_, ?_⟩) <;> (try with_reducible intro hnil) <;> refine hJ _ _ ?_ <;> clear hJ J <;> simp only [ak, reduceIte] <;> try subst hnil)))))
    exact ⟨⟨t, R, rfl, by rw [hdl]; exact hL⟩, hI.kp⟩

end Go.Proofs.Ytphdhggoaijfoaa.Aw

namespace Go.Proofs.Ytphdhggoaijfoaa.Aw
open Go Go.RowKit Go.Proofs.Ytphdhggoaijfoaa.Pl Go.Proofs.Ytphdhggoaijfoaa.Eu
set_option linter.unusedSimpArgs false
set_option linter.unusedVariables false

structure RfI (m : Mp) (st : St) (K : Nat) (fr : Frm) (st2 : St) : Prop where
  f1 : fr 1 = .pt st.next 0
  hG : st2.H st.next = .box 71 3 (mpL m)
  kp : Keeps st st2
  lt : st.next < st2.next
  rows : ∃ t R, fr 3 = .sl t R.length (rowsL3 R) ∧ Lead (fc m m.g.es) (darts m.g.es) K R ∧ (t ≠ 0 ∧ st.next < t ∧ t < st2.next) ∧ st2.H t = .own 27 1 R.length
theorem RfI.fr {m : Mp} {st : St} {K : Nat} {fr fr' : Frm} {st2 st3 : St} (h : RfI m st K fr st2) (h3 : fr' 3 = fr 3) (h1 : fr' 1 = fr 1) (hk : Keeps st2 st3) : RfI m st K fr' st3 := by
  obtain ⟨f1, hG, kp, lt, t, R, f3, hL, ⟨t0, t1, t2⟩, hH⟩ := h
  have := hk.next
  exact ⟨h1.trans f1, (hk.H _ lt).trans hG, kp.trans hk, by omega, t, R, h3.trans f3, hL, ⟨t0, t1, by omega⟩, (hk.H _ t2).trans hH⟩

theorem ref_Faces (m : Mp) (h : MapOk m) (st : St) (hv : m.g.vs.length ≤ 1000) (he : m.g.es.length ≤ 1000) :
    ACalls Try.prog 111 [.ag (mpL m)] st (FacesP m st) := by
  have hel := eds_length m.g.es
  have hdl := darts_length m.g.es
  have hP := h.fc_per m.g.es (fun x hx => hx)
  refine acalls_of_body tabOk Try.func111 rfl rfl Try.ntmps111 (rs := [.tmp 2]) rfl (by simp) ?_
  (repeat' (first | refine awp_seq ?_ | refine awp_block ?_ | ((first | refine awp_skip ?_ | refine awp_exit ?_); simp only [ak, reduceIte]) | (refine awp_ret ?_; simp only [ak, reduceIte]; simp []) | (refine awp_cond ?_; simp []; (try with_reducible refine ⟨?_, ?_⟩) <;> (try with_reducible intro hc) <;> try (exfalso; omega)) | ((first | (refine w_e [] ?_; intro J hJ; simp only []) | (refine w_q ?_; intro J hJ) | refine e_go ?_); simp []; (repeat refine ca ?_); (try ((try with_reducible refine ⟨?_, ?_⟩) <;> (try with_reducible intro hnil) <;> refine hJ _ _ ?_ <;> clear hJ J <;> simp only [ak, reduceIte] <;> try subst hnil)))))
  refine awp_posG fun hpos => ?_
  refine awp_own 3 27 1 (by simp) ?_
  refine awp_range 12 11 13 39 (m.g.es.length) (fun j fr st2 => fr 10 = .sl 0 m.g.es.length (eds m.g.es) ∧ RfI m st (2 * j) fr st2) ?_ ?_ ?_
  · exact ⟨by simp, by simp, by simp, (Keeps.new _ _).trans (Keeps.new _ _), by simp; omega, st.next + 1, [], by simp, .zero, ⟨by omega, by omega, by simp⟩, by simp⟩
  · rintro j fr s2 hlt ⟨f10, hI⟩ fi fn JJ hJJ
    have hd := eds_drop m.g.es j hlt
    have hk3 : j * 3 < m.g.es.length * 3 := by omega
    have hxin : m.g.es.getD j ed0 ∈ m.g.es := by rw [getE_lt _ _ hlt]; exact List.getElem_mem _
    have hpos := h.g.pos _ hxin
    have hg := darts_get m.g.es j hlt
    generalize hx : m.g.es.getD j ed0 = x at *
    obtain ⟨id, a, b⟩ := x
    simp only at hpos hd hg
    have w1 : IntKind.u32.wrap (2 * id) = 2 * id := wrap_u32' _ (by omega) (by omega)
    have w2 : IntKind.u32.wrap (2 * id + 2) = 2 * id + 2 := wrap_u32' _ (by omega) (by omega)
    (repeat' (first | refine awp_seq ?_ | refine awp_block ?_ | ((first | refine awp_skip ?_ | refine awp_exit ?_); simp only [ak, reduceIte]) | (refine awp_ret ?_; simp only [ak, reduceIte]; simp [fi, fn, f10, hd, hel, hk3, w1, w2]) | (refine awp_cond ?_; simp [fi, fn, f10, hd, hel, hk3, w1, w2]; (try with_reducible refine ⟨?_, ?_⟩) <;> (try with_reducible intro hc) <;> try (exfalso; omega)) | ((first | (refine w_e [] ?_; intro J hJ; simp only []) | (refine w_q ?_; intro J hJ) | refine e_go ?_); simp [fi, fn, f10, hd, hel, hk3, w1, w2]; (repeat refine ca ?_); (try ((try with_reducible refine ⟨?_, ?_⟩) <;> (try with_reducible intro hnil) <;> refine hJ _ _ ?_ <;> clear hJ J <;> simp only [ak, reduceIte] <;> try subst hnil)))))
    refine awp_loop (fun n fr st2 => ∃ e : Nat, e ≤ 2 ∧ n = 2 - e ∧ fr 6 = u (2 * id + e) ∧ fr 5 = .pt s2.next 0 ∧ fr 10 = .sl 0 m.g.es.length (eds m.g.es) ∧ fr 12 = i j ∧ fr 11 = i m.g.es.length ∧ st2.H s2.next = .box 52 3 (edL ⟨id, a, b⟩) ∧ s2.next < st2.next ∧ RfI m st (2 * j + e) fr st2) 2 ?_ ?_
    · exact ⟨0, by omega, by omega, by simp, by simp, by simp [f10], by simp [fi], by simp [fn], by simp, by simp, hI.fr (by simp) (by simp) (Keeps.new _ _)⟩
    clear f10 fi fn hI fr
    rintro n fr st2 ⟨e, hle, rfl, f6, f5, f10, f12, f11, hX, hXl, hI⟩ J2 hJ2
    rcases Nat.lt_or_ge e 2 with he2 | he2
    rotate_left
    · clear hJ2
      obtain rfl : e = 2 := by omega
      (repeat' (first | refine awp_seq ?_ | refine awp_block ?_ | ((first | refine awp_skip ?_ | refine awp_exit ?_); simp only [ak, reduceIte]) | (refine awp_ret ?_; simp only [ak, reduceIte]; simp [f6, f5, hX, w1, w2]) | (refine awp_cond ?_; simp [f6, f5, hX, w1, w2]; (try with_reducible refine ⟨?_, ?_⟩) <;> (try with_reducible intro hc) <;> try (exfalso; omega)) | ((first | (refine w_e [] ?_; intro J hJ; simp only []) | (refine w_q ?_; intro J hJ) | refine e_go ?_); simp [f6, f5, hX, w1, w2]; (repeat refine ca ?_); (try ((try with_reducible refine ⟨?_, ?_⟩) <;> (try with_reducible intro hnil) <;> refine hJ _ _ ?_ <;> clear hJ J <;> simp only [ak, reduceIte] <;> try subst hnil)))))
      exact hJJ _ _ (by simp [f12]) (by simp [f11]) ⟨by simp [f10], hI.fr (by simp) (by simp) (Keeps.refl _)⟩
    clear hJJ
    have hK : 2 * j + e < (darts m.g.es).length := by omega
    have hKd : (darts m.g.es).getD (2 * j + e) 0 = 2 * id + e := by
      rcases Nat.lt_or_ge e 1 with h1 | h1
      · obtain rfl : e = 0 := by omega
        rw [Nat.add_zero, hg.1]; omega
      · obtain rfl : e = 1 := by omega
        rw [hg.2]; rfl
    have hdin : 2 * id + (e : Int) ∈ darts m.g.es := by rw [← hKd, getD_lt _ _ hK]; exact List.getElem_mem _
    have w3 : IntKind.u32.wrap (2 * id + e + 1) = 2 * id + ((e + 1 : Nat) : Int) := by rw [wrap_u32' _ (by omega) (by omega)]; omega
    have hcmp : 2 * id + (e : Int) < 2 * id + 2 := by omega
    obtain ⟨f1, hG, hkp, hlo, t, R, f3, hL, ⟨t0, t1, t2⟩, hH⟩ := hI
    have hRl := hL.len
    (repeat' (first | refine awp_seq ?_ | refine awp_block ?_ | ((first | refine awp_skip ?_ | refine awp_exit ?_); simp only [ak, reduceIte]) | (refine awp_ret ?_; simp only [ak, reduceIte]; simp [f6, f5, hX, w1, w2, f1, hG, hcmp]) | (refine awp_cond ?_; simp [f6, f5, hX, w1, w2, f1, hG, hcmp]; (try with_reducible refine ⟨?_, ?_⟩) <;> (try with_reducible intro hc) <;> try (exfalso; omega)) | ((first | (refine w_e [] ?_; intro J hJ; simp only []) | (refine w_q ?_; intro J hJ) | refine e_go ?_); simp [f6, f5, hX, w1, w2, f1, hG, hcmp]; (repeat refine ca ?_); (try ((try with_reducible refine ⟨?_, ?_⟩) <;> (try with_reducible intro hnil) <;> refine hJ _ _ ?_ <;> clear hJ J <;> simp only [ak, reduceIte] <;> try subst hnil)))))
    refine callK_ofE (ref_Face m h (2 * id + e) _ hv he) (by simp) ?_; rintro r s3 ⟨⟨c, rfl, hc⟩, hk3⟩
    rcases hc with ⟨_, L, hc, rfl⟩ | ⟨hno, _⟩
    rotate_left
    · exact absurd hdin hno
    have hcl := (h.cyc_le hdin hc).2
    obtain ⟨Lr, hLr⟩ := IsCyc.head hc
    obtain ⟨nr, hnr⟩ := nrm_head L hc.ne
    have hnl : (nrm L).length = L.length := nrm_length L
    have hc' := hc
    rw [← hKd] at hc'
    have hld := cyc_lead hP (darts_rise h.g.ids) (h.fc_dart _) hK hc'
    rw [hKd] at hld
    have hL0 : 0 < (nrm L).length := by rw [hnr]; simp
    have hn3 := hk3.next
    have gX := (hk3.H _ hXl).trans hX
    have gH := (hk3.H _ t2).trans hH
    have m1 : ¬ t = s3.next := by omega
    have m5 : ¬ s2.next = t := by rintro rfl; rw [hX] at hH; cases hH
    by_cases hs : SeenD (fc m m.g.es) (darts m.g.es) (2 * j + e) (2 * id + e)
    · have hmn : ¬ mn L = 2 * id + e := fun e1 => (hld.2 e1) hs
      have hL2 := Lead.seen hL hK (by rw [hKd]; exact hs)
      (repeat' (first | refine awp_seq ?_ | refine awp_block ?_ | ((first | refine awp_skip ?_ | refine awp_exit ?_); simp only [ak, reduceIte]) | (refine awp_ret ?_; simp only [ak, reduceIte]; simp [f6, hnr, hmn, hL0, w3]) | (refine awp_cond ?_; simp [f6, hnr, hmn, hL0, w3]; (try with_reducible refine ⟨?_, ?_⟩) <;> (try with_reducible intro hc) <;> try (exfalso; omega)) | ((first | (refine w_e [] ?_; intro J hJ; simp only []) | (refine w_q ?_; intro J hJ) | refine e_go ?_); simp [f6, hnr, hmn, hL0, w3]; (repeat refine ca ?_); (try ((try with_reducible refine ⟨?_, ?_⟩) <;> (try with_reducible intro hnil) <;> refine hJ _ _ ?_ <;> clear hJ J <;> simp only [ak, reduceIte] <;> try subst hnil)))))
      exact hJ2 (2 - (e + 1)) _ _ (by omega) ⟨e + 1, by omega, rfl, by simp, by simp [f5], by simp [f10], by simp [f12], by simp [f11], gX, by omega, by simp [f1], (hk3.H _ hlo).trans hG, hkp.trans hk3, by omega, t, R, by simp [f3], hL2, ⟨t0, t1, by omega⟩, gH⟩
    · have hmn := hld.1 hs
      have hnL : nrm L = L := nrm_of_head hLr hmn
      have hL2 := Lead.lead hL hK (by rw [hKd]; exact hs) hc'
      rw [hnL]
      subst hLr
      (repeat' (first | refine awp_seq ?_ | refine awp_block ?_ | ((first | refine awp_skip ?_ | refine awp_exit ?_); simp only [ak, reduceIte]) | (refine awp_ret ?_; simp only [ak, reduceIte]; simp [f6, w3, f3, gH, t0, m1]) | (refine awp_cond ?_; simp [f6, w3, f3, gH, t0, m1]; (try with_reducible refine ⟨?_, ?_⟩) <;> (try with_reducible intro hc) <;> try (exfalso; omega)) | ((first | (refine w_e [] ?_; intro J hJ; simp only []) | (refine w_q ?_; intro J hJ) | refine e_go ?_); simp [f6, w3, f3, gH, t0, m1]; (repeat refine ca ?_); (try ((try with_reducible refine ⟨?_, ?_⟩) <;> (try with_reducible intro hnil) <;> refine hJ _ _ ?_ <;> clear hJ J <;> simp only [ak, reduceIte] <;> try subst hnil)))))
      exact hJ2 (2 - (e + 1)) _ _ (by omega) ⟨e + 1, by omega, rfl, by simp, by simp [f5], by simp [f10], by simp [f12], by simp [f11], by rw [new_H, if_neg (by simp only [set_next, new_next]; omega), set_H, if_neg m5, new_H, if_neg (by omega)]; exact gX, by simp; omega, by simp [f1], by rw [new_H, if_neg (by simp only [set_next, new_next]; omega), set_H, if_neg (by omega), new_H, if_neg (by omega)]; exact (hk3.H _ hlo).trans hG, (((hkp.trans hk3).trans (Keeps.new _ _)).set (by omega) _).trans (Keeps.new _ _), by simp; omega, s3.next + 1, R ++ [(2 * id + e) :: Lr], by simp, hL2, ⟨by omega, by omega, by simp⟩, by simp⟩
  · rintro fr st2 ⟨f10, hI⟩
    obtain ⟨t, R, f3, hL, _⟩ := hI.rows
    (repeat' (first | refine awp_seq ?_ | refine awp_block ?_ | ((first | refine awp_skip ?_ | refine awp_exit ?_); simp only [ak, reduceIte]) | (refine awp_ret ?_; simp only [ak, reduceIte]; simp [f3]) | (refine awp_cond ?_; simp [f3]; (try with_reducible refine ⟨?_, ?_⟩) <;> (try with_reducible intro hc) <;> try (exfalso; omega)) | ((first | (refine w_e [] ?_; intro J hJ; simp only []) | (refine w_q ?_; intro J hJ) | refine e_go ?_); simp [f3]; (repeat refine ca ?_); (try ((try with_reducible refine ⟨?_, ?_⟩) <;> (try with_reducible intro hnil) <;> refine hJ _ _ ?_ <;> clear hJ J <;> simp only [ak, reduceIte] <;> try subst hnil)))))
    exact ⟨⟨t, R, rfl, by rw [hdl]; exact hL⟩, hI.kp⟩

end Go.Proofs.Ytphdhggoaijfoaa.Aw

namespace Go.Proofs.Ytphdhggoaijfoaa.Aw
open Go Go.RowKit Go.Proofs.Ytphdhggoaijfoaa.Pl Go.Proofs.Ytphdhggoaijfoaa.Eu
set_option linter.unusedSimpArgs false
set_option linter.unusedVariables false

/-- A map's genus. -/
noncomputable def gn (m : Mp) : Nat := (2 * ncl (Reach m.g.es) m.g.vs + m.g.es.length - (alone m.g + m.g.vs.length + ncl (Orb (fc m m.g.es)) (darts m.g.es))) / 2
theorem MapOk.gn {m : Mp} (h : MapOk m) : 2 * ncl (Reach m.g.es) m.g.vs + m.g.es.length = 2 * gn m + alone m.g + m.g.vs.length + ncl (Orb (fc m m.g.es)) (darts m.g.es) := by
  obtain ⟨k, hk⟩ := h.euler
  have : Aw.gn m = k := by unfold Aw.gn; omega
  omega

set_option maxHeartbeats 1000000 in
theorem Genus (m : Mp) (h : MapOk m) (st : St) (hv : m.g.vs.length ≤ 1000) (he : m.g.es.length ≤ 1000) :
    ACalls Try.prog 90 [.ag (mpL m)] st fun r st' => r = i (gn m) ∧ Keeps st st' := by
  have hP := h.fc_per m.g.es (fun x hx => hx)
  have hgn := h.gn
  have hal : alone m.g ≤ m.g.vs.length := List.countP_le_length
  have hdl := darts_length m.g.es
  refine acalls_of_body tabOk Try.func90 rfl rfl Try.ntmps90 (rs := [.tmp 2]) rfl (by simp) ?_
  (repeat' (first | refine awp_seq ?_ | refine awp_block ?_ | ((first | refine awp_skip ?_ | refine awp_exit ?_); simp only [ak, reduceIte]) | (refine awp_ret ?_; simp only [ak, reduceIte]; simp []) | (refine awp_cond ?_; simp []; (try with_reducible refine ⟨?_, ?_⟩) <;> (try with_reducible intro hc) <;> try (exfalso; omega)) | ((first | (refine w_e [] ?_; intro J hJ; simp only []) | (refine w_q ?_; intro J hJ) | refine e_go ?_); simp []; (repeat refine ca ?_); (try ((try with_reducible refine ⟨?_, ?_⟩) <;> (try with_reducible intro hnil) <;> refine hJ _ _ ?_ <;> clear hJ J <;> simp only [ak, reduceIte] <;> try subst hnil)))))
  (refine w_s [] [st.next] [(0, true), (1, true), (4, true), (5, true), (2, true), (3, true), (6, true), (7, true), (8, true)] ?_; intro J hJ; simp []; (repeat refine ca ?_); (try ((try with_reducible refine ⟨?_, ?_⟩) <;> (try with_reducible intro hnil) <;> refine hJ _ _ ?_ <;> clear hJ J <;> simp only [ak, reduceIte] <;> try subst hnil)))
  refine dcallK_ofE (Parts m.g _ h.g.toGood hv he) (by simp) ?_; rintro r s1 ⟨⟨t, R, rfl, hR⟩, hk1⟩
  have hn1 := hk1.next
  simp only [new_next] at hn1
  have hG1 := hk1.H st.next (by simp)
  simp at hG1
  refine ⟨fun _ => by simp [hG1], ?_⟩
  (refine d_go ?_; simp [hG1]; (repeat refine ca ?_); (try ((try with_reducible refine ⟨?_, ?_⟩) <;> (try with_reducible intro hnil) <;> refine hJ _ _ ?_ <;> clear hJ J <;> simp only [ak, reduceIte] <;> try subst hnil)))
  refine dcallK_ofE (Alone m.g _ hv he) (by simp) ?_; rintro r s2 ⟨rfl, hk2⟩
  have hn2 := hk2.next
  have hG2 := (hk2.H st.next (by omega)).trans hG1
  refine ⟨fun _ => by simp [hG2], ?_⟩
  (refine d_go ?_; simp [hG2]; (repeat refine ca ?_); (try ((try with_reducible refine ⟨?_, ?_⟩) <;> (try with_reducible intro hnil) <;> refine hJ _ _ ?_ <;> clear hJ J <;> simp only [ak, reduceIte] <;> try subst hnil)))
  have hRn := hR.all
  have hRl := hR.len
  generalize R.length = p at *
  generalize alone m.g = al at *
  refine awp_seq ?_
  (refine w_s [] [st.next] [(0, true), (1, true), (2, true), (3, true), (4, true), (5, true), (6, true), (7, true), (8, true), (9, true), (10, true), (11, true), (12, true), (13, true), (14, true), (15, true), (16, true), (17, true), (18, true), (19, true)] ?_; intro J hJ; simp [hG2]; (repeat refine ca ?_); (try ((try with_reducible refine ⟨?_, ?_⟩) <;> (try with_reducible intro hnil) <;> refine hJ _ _ ?_ <;> clear hJ J <;> simp only [ak, reduceIte] <;> try subst hnil)))
  refine dcallK_ofE (Faces m h _ hv he) (by simp) ?_; rintro r s3 ⟨⟨t3, F, rfl, hF⟩, hk3⟩
  have hG3 := (hk3.H st.next (by omega)).trans hG2
  refine ⟨fun _ => by simp [hG3, hG2], ?_⟩
  have hFn := hF.all hP
  have hFl := hF.len
  generalize F.length = f at *
  have w1 : IntKind.i64.wrap (2 * (p : Int)) = 2 * p := wrap_i64 _ (by omega) (by omega)
  have w2 : IntKind.i64.wrap (2 * (p : Int) - al) = 2 * p - al := wrap_i64 _ (by omega) (by omega)
  have w3 : IntKind.i64.wrap (2 * (p : Int) - al - m.g.vs.length) = 2 * p - al - m.g.vs.length := wrap_i64 _ (by omega) (by omega)
  have w4 : IntKind.i64.wrap (2 * (p : Int) - al - m.g.vs.length + m.g.es.length) = 2 * p - al - m.g.vs.length + m.g.es.length := wrap_i64 _ (by omega) (by omega)
  have w5 : IntKind.i64.wrap (2 * (p : Int) - al - m.g.vs.length + m.g.es.length - f) = 2 * (gn m : Int) := by rw [wrap_i64 _ (by omega) (by omega)]; omega
  have w6 : IntKind.i64.wrap ((2 * (gn m : Int)).tdiv 2) = (gn m : Int) := by
    rw [Int.mul_comm, Int.mul_tdiv_cancel _ (by omega)]
    exact wrap_i64 _ (by omega) (by omega)
  (refine d_go ?_; simp [hG3, hG2, w1, w2, w3, w4, w5, w6]; (repeat refine ca ?_); (try ((try with_reducible refine ⟨?_, ?_⟩) <;> (try with_reducible intro hnil) <;> refine hJ _ _ ?_ <;> clear hJ J <;> simp only [ak, reduceIte] <;> try subst hnil)))
  (repeat' (first | refine awp_seq ?_ | refine awp_block ?_ | ((first | refine awp_skip ?_ | refine awp_exit ?_); simp only [ak, reduceIte]) | (refine awp_ret ?_; simp only [ak, reduceIte]; simp []) | (refine awp_cond ?_; simp []; (try with_reducible refine ⟨?_, ?_⟩) <;> (try with_reducible intro hc) <;> try (exfalso; omega)) | ((first | (refine w_e [] ?_; intro J hJ; simp only []) | (refine w_q ?_; intro J hJ) | refine e_go ?_); simp []; (repeat refine ca ?_); (try ((try with_reducible refine ⟨?_, ?_⟩) <;> (try with_reducible intro hnil) <;> refine hJ _ _ ?_ <;> clear hJ J <;> simp only [ak, reduceIte] <;> try subst hnil)))))
  exact ⟨wrap_i64 _ (by omega) (by omega), (((Keeps.new _ _).trans hk1).trans hk2).trans hk3⟩

theorem ends_len0 (es : List Ed) (v : Int) : (ends es v).length = 0 ↔ nbr es v = [] := by rw [List.length_eq_zero_iff, ends_nil]

set_option maxHeartbeats 1000000 in
theorem Twice (m : Mp) (h : MapOk m) (st : St) (hv : m.g.vs.length ≤ 1000) (he : m.g.es.length ≤ 1000) :
    ACalls Try.prog 93 [.ag (mpL m)] st fun r st' => r = i (2 * gn m) ∧ Keeps st st' := by
  have hP := h.fc_per m.g.es (fun x hx => hx)
  have hgn := h.gn
  have hal : alone m.g ≤ m.g.vs.length := List.countP_le_length
  have hdl := darts_length m.g.es
  have hid : idOk m.g.es := fun x hx => by have := h.g.pos x hx; omega
  refine acalls_of_body tabOk Try.func93 rfl rfl Try.ntmps93 (rs := [.tmp 2]) rfl (by simp) ?_
  (repeat' (first | refine awp_seq ?_ | refine awp_block ?_ | ((first | refine awp_skip ?_ | refine awp_exit ?_); simp only [ak, reduceIte]) | (refine awp_ret ?_; simp only [ak, reduceIte]; simp []) | (refine awp_cond ?_; simp []; (try with_reducible refine ⟨?_, ?_⟩) <;> (try with_reducible intro hc) <;> try (exfalso; omega)) | ((first | (refine w_e [] ?_; intro J hJ; simp only []) | (refine w_q ?_; intro J hJ) | refine e_go ?_); simp []; (repeat refine ca ?_); (try ((try with_reducible refine ⟨?_, ?_⟩) <;> (try with_reducible intro hnil) <;> refine hJ _ _ ?_ <;> clear hJ J <;> simp only [ak, reduceIte] <;> try subst hnil)))))
  refine awp_range 10 9 11 22 (m.g.vs.length) (fun j fr st2 => fr 1 = .pt st.next 0 ∧ fr 8 = .sl 0 m.g.vs.length (us m.g.vs) ∧ fr 3 = i ((m.g.vs.take j).countP fun v => decide (nbr m.g.es v = []) : Nat) ∧ st2.H st.next = .box 71 3 (mpL m) ∧ Keeps st st2 ∧ st.next < st2.next) ?_ ?_ ?_
  · exact ⟨by simp, by simp, by simp, by simp, Keeps.new _ _, by simp⟩
  · rintro j fr st2 hlt ⟨f1, f8, f3, hG, hkp, hsn⟩ fi fn JJ hJJ
    have hd := us_drop_getD m.g.vs j hlt
    have hct := count_take (fun v => decide (nbr m.g.es v = [])) m.g.vs j hlt
    have hle : (m.g.vs.take j).countP (fun v => decide (nbr m.g.es v = [])) ≤ j := Nat.le_trans List.countP_le_length (by simp; omega)
    generalize m.g.vs.getD j 0 = v at *
    generalize (m.g.vs.take j).countP (fun v => decide (nbr m.g.es v = [])) = c at *
    (repeat' (first | refine awp_seq ?_ | refine awp_block ?_ | ((first | refine awp_skip ?_ | refine awp_exit ?_); simp only [ak, reduceIte]) | (refine awp_ret ?_; simp only [ak, reduceIte]; simp [f1, f8, fi, fn, hd, hG, hlt]) | (refine awp_cond ?_; simp [f1, f8, fi, fn, hd, hG, hlt]; (try with_reducible refine ⟨?_, ?_⟩) <;> (try with_reducible intro hc) <;> try (exfalso; omega)) | ((first | (refine w_e [] ?_; intro J hJ; simp only []) | (refine w_q ?_; intro J hJ) | refine e_go ?_); simp [f1, f8, fi, fn, hd, hG, hlt]; (repeat refine ca ?_); (try ((try with_reducible refine ⟨?_, ?_⟩) <;> (try with_reducible intro hnil) <;> refine hJ _ _ ?_ <;> clear hJ J <;> simp only [ak, reduceIte] <;> try subst hnil)))))
    refine callK_ofE (ref_Ends m.g v _ he hid) (by simp) ?_; rintro r s3 ⟨⟨t, rfl⟩, hk3⟩
    have hn3 := hk3.next
    have e0 := ends_len0 m.g.es v
    have hw := nat_add_one c (by omega)
    by_cases h0 : nbr m.g.es v = []
    · have e1 := e0.2 h0
      rw [if_pos (by simpa using h0)] at hct
      (repeat' (first | refine awp_seq ?_ | refine awp_block ?_ | ((first | refine awp_skip ?_ | refine awp_exit ?_); simp only [ak, reduceIte]) | (refine awp_ret ?_; simp only [ak, reduceIte]; simp [e1, f3, hw]) | (refine awp_cond ?_; simp [e1, f3, hw]; (try with_reducible refine ⟨?_, ?_⟩) <;> (try with_reducible intro hc) <;> try (exfalso; omega)) | ((first | (refine w_e [] ?_; intro J hJ; simp only []) | (refine w_q ?_; intro J hJ) | refine e_go ?_); simp [e1, f3, hw]; (repeat refine ca ?_); (try ((try with_reducible refine ⟨?_, ?_⟩) <;> (try with_reducible intro hnil) <;> refine hJ _ _ ?_ <;> clear hJ J <;> simp only [ak, reduceIte] <;> try subst hnil)))))
      exact hJJ _ _ (by simp [fi]) (by simp [fn]) ⟨by simp [f1], by simp [f8], by simp [hct], (hk3.H _ hsn).trans hG, hkp.trans hk3, by omega⟩
    · have e1 : ¬ (ends m.g.es v).length = 0 := fun e => h0 (e0.1 e)
      rw [if_neg (by simpa using h0)] at hct
      generalize (ends m.g.es v).length = el at *
      (repeat' (first | refine awp_seq ?_ | refine awp_block ?_ | ((first | refine awp_skip ?_ | refine awp_exit ?_); simp only [ak, reduceIte]) | (refine awp_ret ?_; simp only [ak, reduceIte]; simp [e1, f3]) | (refine awp_cond ?_; simp [e1, f3]; (try with_reducible refine ⟨?_, ?_⟩) <;> (try with_reducible intro hc) <;> try (exfalso; omega)) | ((first | (refine w_e [] ?_; intro J hJ; simp only []) | (refine w_q ?_; intro J hJ) | refine e_go ?_); simp [e1, f3]; (repeat refine ca ?_); (try ((try with_reducible refine ⟨?_, ?_⟩) <;> (try with_reducible intro hnil) <;> refine hJ _ _ ?_ <;> clear hJ J <;> simp only [ak, reduceIte] <;> try subst hnil)))))
      exact hJJ _ _ (by simp [fi]) (by simp [fn]) ⟨by simp [f1], by simp [f8], by simp [hct, f3], (hk3.H _ hsn).trans hG, hkp.trans hk3, by omega⟩
  rintro fr st2 ⟨f1, f8, f3, hG, hkp, hsn⟩
  rw [List.take_length] at f3
  have f3' : fr 3 = i (alone m.g) := f3
  clear f3
  (repeat' (first | refine awp_seq ?_ | refine awp_block ?_ | ((first | refine awp_skip ?_ | refine awp_exit ?_); simp only [ak, reduceIte]) | (refine awp_ret ?_; simp only [ak, reduceIte]; simp []) | (refine awp_cond ?_; simp []; (try with_reducible refine ⟨?_, ?_⟩) <;> (try with_reducible intro hc) <;> try (exfalso; omega)) | ((first | (refine w_e [] ?_; intro J hJ; simp only []) | (refine w_q ?_; intro J hJ) | refine e_go ?_); simp []; (repeat refine ca ?_); (try ((try with_reducible refine ⟨?_, ?_⟩) <;> (try with_reducible intro hnil) <;> refine hJ _ _ ?_ <;> clear hJ J <;> simp only [ak, reduceIte] <;> try subst hnil)))))
  (refine w_s [] [st.next] [(0, true), (1, true), (5, true), (7, true), (8, true), (9, true), (10, true), (12, true), (13, true), (14, true), (15, true), (17, true), (2, true), (3, true), (4, true), (6, true), (11, true), (16, true), (18, true), (19, true), (20, true), (21, true)] ?_; intro J hJ; simp [f1, f3', hG]; (repeat refine ca ?_); (try ((try with_reducible refine ⟨?_, ?_⟩) <;> (try with_reducible intro hnil) <;> refine hJ _ _ ?_ <;> clear hJ J <;> simp only [ak, reduceIte] <;> try subst hnil)))
  refine dcallK_ofE (ref_Parts m.g _ h.g.toGood hv he) (by simp) ?_; rintro r s1 ⟨⟨t, R, rfl, hR⟩, hk1⟩
  have hn1 := hk1.next
  have hG1 := (hk1.H st.next (by omega)).trans hG
  refine ⟨fun _ => by simp [hG1, hG], ?_⟩
  have hRn := hR.all
  have hRl := hR.len
  generalize R.length = p at *
  generalize alone m.g = al at *
  have w1 : IntKind.i64.wrap (2 * (p : Int)) = 2 * p := wrap_i64 _ (by omega) (by omega)
  have w2 : IntKind.i64.wrap (2 * (p : Int) - al) = 2 * p - al := wrap_i64 _ (by omega) (by omega)
  have w3 : IntKind.i64.wrap (2 * (p : Int) - al - m.g.vs.length) = 2 * p - al - m.g.vs.length := wrap_i64 _ (by omega) (by omega)
  have w4 : IntKind.i64.wrap (2 * (p : Int) - al - m.g.vs.length + m.g.es.length) = 2 * p - al - m.g.vs.length + m.g.es.length := wrap_i64 _ (by omega) (by omega)
  (refine d_go ?_; simp [hG1, hG, f1, f3', w1, w2, w3, w4]; (repeat refine ca ?_); (try ((try with_reducible refine ⟨?_, ?_⟩) <;> (try with_reducible intro hnil) <;> refine hJ _ _ ?_ <;> clear hJ J <;> simp only [ak, reduceIte] <;> try subst hnil)))
  refine dcallK_ofE (ref_Faces m h _ hv he) (by simp) ?_; rintro r s3 ⟨⟨t3, F, rfl, hF⟩, hk3⟩
  have hG3 := (hk3.H st.next (by omega)).trans hG1
  refine ⟨fun _ => by simp [hG3, hG1, hG], ?_⟩
  have hFn := hF.all hP
  have hFl := hF.len
  generalize F.length = f at *
  have w5 : IntKind.i64.wrap (2 * (p : Int) - al - m.g.vs.length + m.g.es.length - f) = 2 * (gn m : Int) := by rw [wrap_i64 _ (by omega) (by omega)]; omega
  (refine d_go ?_; simp [hG3, hG1, hG, w1, w2, w3, w4, w5, f1, f3']; (repeat refine ca ?_); (try ((try with_reducible refine ⟨?_, ?_⟩) <;> (try with_reducible intro hnil) <;> refine hJ _ _ ?_ <;> clear hJ J <;> simp only [ak, reduceIte] <;> try subst hnil)))
  (repeat' (first | refine awp_seq ?_ | refine awp_block ?_ | ((first | refine awp_skip ?_ | refine awp_exit ?_); simp only [ak, reduceIte]) | (refine awp_ret ?_; simp only [ak, reduceIte]; simp []) | (refine awp_cond ?_; simp []; (try with_reducible refine ⟨?_, ?_⟩) <;> (try with_reducible intro hc) <;> try (exfalso; omega)) | ((first | (refine w_e [] ?_; intro J hJ; simp only []) | (refine w_q ?_; intro J hJ) | refine e_go ?_); simp []; (repeat refine ca ?_); (try ((try with_reducible refine ⟨?_, ?_⟩) <;> (try with_reducible intro hnil) <;> refine hJ _ _ ?_ <;> clear hJ J <;> simp only [ak, reduceIte] <;> try subst hnil)))))
  exact (hkp.trans hk1).trans hk3

end Go.Proofs.Ytphdhggoaijfoaa.Aw

namespace Go.Proofs.Ytphdhggoaijfoaa.Aw
open Go Go.RowKit Go.Proofs.Ytphdhggoaijfoaa.Pl Go.Proofs.Ytphdhggoaijfoaa.Eu
set_option linter.unusedSimpArgs false
set_option linter.unusedVariables false

set_option maxHeartbeats 1000000 in
theorem ref_rCheck (m : Mp) (st : St) (hv : m.g.vs.length ≤ 1000) (he : m.g.es.length ≤ 1000) (hr : m.rots.length ≤ 1000) (hs : ∀ t ∈ m.rots, t.length ≤ 1000) :
    ACalls Try.prog 56 [.ag (mpL m)] st fun r st' => r = i (rchk m) ∧ Keeps st st' := by
  refine acalls_of_body tabOk Try.func56 rfl rfl Try.ntmps56 (rs := [.tmp 2]) rfl (by simp) ?_
  (repeat' (first | refine awp_seq ?_ | refine awp_block ?_ | ((first | refine awp_skip ?_ | refine awp_exit ?_); simp only [ak, reduceIte]) | (refine awp_ret ?_; simp only [ak, reduceIte]; simp []) | (refine awp_cond ?_; simp []; (try with_reducible refine ⟨?_, ?_⟩) <;> (try with_reducible intro hc) <;> try (exfalso; omega)) | ((first | (refine w_e [] ?_; intro J hJ; simp only []) | (refine w_q ?_; intro J hJ) | refine e_go ?_); simp []; (repeat refine ca ?_); (try ((try with_reducible refine ⟨?_, ?_⟩) <;> (try with_reducible intro hnil) <;> refine hJ _ _ ?_ <;> clear hJ J <;> simp only [ak, reduceIte] <;> try subst hnil)))))
  refine callK_ofE (ref_Check m.g _ hv he) (by simp) ?_; rintro r s1 ⟨rfl, hk1⟩
  have hn1 := hk1.next
  simp only [new_next] at hn1
  have hG1 : s1.H st.next = .box 71 3 (mpL m) := by rw [hk1.H _ (by simp)]; simp
  have hK1 : Keeps st s1 := (Keeps.new _ _).trans hk1
  by_cases hc : chk m.g = 0
  rotate_left
  · have hrc := rchk_g hc
    generalize chk m.g = x at *
    (repeat' (first | refine awp_seq ?_ | refine awp_block ?_ | ((first | refine awp_skip ?_ | refine awp_exit ?_); simp only [ak, reduceIte]) | (refine awp_ret ?_; simp only [ak, reduceIte]; simp [hc, hrc]) | (refine awp_cond ?_; simp [hc, hrc]; (try with_reducible refine ⟨?_, ?_⟩) <;> (try with_reducible intro hc) <;> try (exfalso; omega)) | ((first | (refine w_e [] ?_; intro J hJ; simp only []) | (refine w_q ?_; intro J hJ) | refine e_go ?_); simp [hc, hrc]; (repeat refine ca ?_); (try ((try with_reducible refine ⟨?_, ?_⟩) <;> (try with_reducible intro hnil) <;> refine hJ _ _ ?_ <;> clear hJ J <;> simp only [ak, reduceIte] <;> try subst hnil)))))
    exact hK1
  have hgd := chk_goodE hc
  have hid : idOk m.g.es := fun x hx => by have := hgd.pos x hx; omega
  by_cases hl : m.rots.length = m.g.vs.length
  rotate_left
  · have hrc := rchk_len hc hl
    (repeat' (first | refine awp_seq ?_ | refine awp_block ?_ | ((first | refine awp_skip ?_ | refine awp_exit ?_); simp only [ak, reduceIte]) | (refine awp_ret ?_; simp only [ak, reduceIte]; simp [hc, hrc, hG1, hl]) | (refine awp_cond ?_; simp [hc, hrc, hG1, hl]; (try with_reducible refine ⟨?_, ?_⟩) <;> (try with_reducible intro hc) <;> try (exfalso; omega)) | ((first | (refine w_e [] ?_; intro J hJ; simp only []) | (refine w_q ?_; intro J hJ) | refine e_go ?_); simp [hc, hrc, hG1, hl]; (repeat refine ca ?_); (try ((try with_reducible refine ⟨?_, ?_⟩) <;> (try with_reducible intro hnil) <;> refine hJ _ _ ?_ <;> clear hJ J <;> simp only [ak, reduceIte] <;> try subst hnil)))))
    exact hK1
  (repeat' (first | refine awp_seq ?_ | refine awp_block ?_ | ((first | refine awp_skip ?_ | refine awp_exit ?_); simp only [ak, reduceIte]) | (refine awp_ret ?_; simp only [ak, reduceIte]; simp [hc, hG1, hl]) | (refine awp_cond ?_; simp [hc, hG1, hl]; (try with_reducible refine ⟨?_, ?_⟩) <;> (try with_reducible intro hc) <;> try (exfalso; omega)) | ((first | (refine w_e [] ?_; intro J hJ; simp only []) | (refine w_q ?_; intro J hJ) | refine e_go ?_); simp [hc, hG1, hl]; (repeat refine ca ?_); (try ((try with_reducible refine ⟨?_, ?_⟩) <;> (try with_reducible intro hnil) <;> refine hJ _ _ ?_ <;> clear hJ J <;> simp only [ak, reduceIte] <;> try subst hnil)))))
  refine awp_range 28 27 29 65 (m.g.vs.length) (fun j fr st2 => fr 1 = .pt st.next 0 ∧ fr 26 = .sl 0 m.g.vs.length (us m.g.vs) ∧ st2.H st.next = .box 71 3 (mpL m) ∧ Keeps st st2 ∧ st.next < st2.next ∧ ∀ k, k < j → rok m k) ?_ ?_ ?_
  · exact ⟨by simp, by simp, hG1, hK1, by omega, fun k hk => by omega⟩
  · rintro j0 fr st2 hlt ⟨f1, f26, hG, hkp, hsn, hok⟩ fi fn JJ hJJ
    have hd := us_drop_getD m.g.vs j0 hlt
    have hd2 := rowsL_drop m.rots j0 (by omega)
    have hRl : j0 < (rowsL m.rots).length := by simp; omega
    have htin : m.rots.getD j0 [] ∈ m.rots := by rw [getR_lt _ _ (by omega)]; exact List.getElem_mem _
    have htl := hs _ htin
    have hbad := fun h => rchk_bad hc hlt h
    have hnx : rok m j0 → ∀ k, k < j0 + 1 → rok m k := fun h k hk => by
      rcases Nat.lt_or_ge k j0 with h1 | h1
      · exact hok k h1
      · obtain rfl : k = j0 := by omega
        exact h
    have hok1 : rok m j0 ↔ (m.rots.getD j0 []).Perm (ends m.g.es (m.g.vs.getD j0 0)) ∧ nrm (m.rots.getD j0 []) = m.rots.getD j0 [] := Iff.rfl
    have hel : (ends m.g.es (m.g.vs.getD j0 0)).length ≤ 2 * m.g.es.length := flat_len _ (end1_len _) _
    have hrise := ends_rise hgd.ids (m.g.vs.getD j0 0)
    generalize rok m j0 = OK at *
    generalize m.rots.getD j0 [] = t at *
    generalize m.g.vs.getD j0 0 = v at *
    (repeat' (first | refine awp_seq ?_ | refine awp_block ?_ | ((first | refine awp_skip ?_ | refine awp_exit ?_); simp only [ak, reduceIte]) | (refine awp_ret ?_; simp only [ak, reduceIte]; simp [f1, f26, fi, fn, hd, hlt, hG, hd2, hRl, hl]) | (refine awp_cond ?_; simp [f1, f26, fi, fn, hd, hlt, hG, hd2, hRl, hl]; (try with_reducible refine ⟨?_, ?_⟩) <;> (try with_reducible intro hc) <;> try (exfalso; omega)) | ((first | (refine w_e [] ?_; intro J hJ; simp only []) | (refine w_q ?_; intro J hJ) | refine e_go ?_); simp [f1, f26, fi, fn, hd, hlt, hG, hd2, hRl, hl]; (repeat refine ca ?_); (try ((try with_reducible refine ⟨?_, ?_⟩) <;> (try with_reducible intro hnil) <;> refine hJ _ _ ?_ <;> clear hJ J <;> simp only [ak, reduceIte] <;> try subst hnil)))))
    refine callK_ofE (ref_Ends m.g v _ he hid) (by simp) ?_; rintro r s3 ⟨⟨te, rfl⟩, hk3⟩
    have hn3 := hk3.next
    have hG3 := (hk3.H st.next (by omega)).trans hG
    have hK3 := hkp.trans hk3
    generalize ends m.g.es v = E at *
    by_cases h1 : t.length = E.length
    rotate_left
    · have hrc := hbad fun h => h1 (hok1.1 h).1.length_eq
      have h1b : ((t.length : Int) != (E.length : Int)) = true := by simp; omega
      (repeat' (first | refine awp_seq ?_ | refine awp_block ?_ | ((first | refine awp_skip ?_ | refine awp_exit ?_); simp only [ak, reduceIte]) | (refine awp_ret ?_; simp only [ak, reduceIte]; simp [h1b, h1, hrc]) | (refine awp_cond ?_; simp [h1b, h1, hrc]; (try with_reducible refine ⟨?_, ?_⟩) <;> (try with_reducible intro hc) <;> try (exfalso; omega)) | ((first | (refine w_e [] ?_; intro J hJ; simp only []) | (refine w_q ?_; intro J hJ) | refine e_go ?_); simp [h1b, h1, hrc]; (repeat refine ca ?_); (try ((try with_reducible refine ⟨?_, ?_⟩) <;> (try with_reducible intro hnil) <;> refine hJ _ _ ?_ <;> clear hJ J <;> simp only [ak, reduceIte] <;> try subst hnil)))))
      exact hK3
    (repeat' (first | refine awp_seq ?_ | refine awp_block ?_ | ((first | refine awp_skip ?_ | refine awp_exit ?_); simp only [ak, reduceIte]) | (refine awp_ret ?_; simp only [ak, reduceIte]; simp [h1]) | (refine awp_cond ?_; simp [h1]; (try with_reducible refine ⟨?_, ?_⟩) <;> (try with_reducible intro hc) <;> try (exfalso; omega)) | ((first | (refine w_e [] ?_; intro J hJ; simp only []) | (refine w_q ?_; intro J hJ) | refine e_go ?_); simp [h1]; (repeat refine ca ?_); (try ((try with_reducible refine ⟨?_, ?_⟩) <;> (try with_reducible intro hnil) <;> refine hJ _ _ ?_ <;> clear hJ J <;> simp only [ak, reduceIte] <;> try subst hnil)))))
    refine callK_ofE (ref_Normal t 0 _ (by unfold small; omega)) (by simp [h1]) ?_; rintro r s4 ⟨rfl, hk4⟩
    have hn4 := hk4.next
    have hG4 := (hk4.H st.next (by omega)).trans hG3
    have hK4 := hK3.trans hk4
    have hnl := nrm_length t
    (repeat' (first | refine awp_seq ?_ | refine awp_block ?_ | ((first | refine awp_skip ?_ | refine awp_exit ?_); simp only [ak, reduceIte]) | (refine awp_ret ?_; simp only [ak, reduceIte]; simp []) | (refine awp_cond ?_; simp []; (try with_reducible refine ⟨?_, ?_⟩) <;> (try with_reducible intro hc) <;> try (exfalso; omega)) | ((first | (refine w_e [] ?_; intro J hJ; simp only []) | (refine w_q ?_; intro J hJ) | refine e_go ?_); simp []; (repeat refine ca ?_); (try ((try with_reducible refine ⟨?_, ?_⟩) <;> (try with_reducible intro hnil) <;> refine hJ _ _ ?_ <;> clear hJ J <;> simp only [ak, reduceIte] <;> try subst hnil)))))
    refine callK_ofE (ref_Same t (nrm t) 0 0 _ (by unfold small; omega)) (by simp [h1, hnl]) ?_; rintro r s5 ⟨rfl, rfl⟩
    by_cases h2 : t = nrm t
    rotate_left
    · have hrc := hbad fun h => h2 (hok1.1 h).2.symm
      (repeat' (first | refine awp_seq ?_ | refine awp_block ?_ | ((first | refine awp_skip ?_ | refine awp_exit ?_); simp only [ak, reduceIte]) | (refine awp_ret ?_; simp only [ak, reduceIte]; simp [h2, hrc]) | (refine awp_cond ?_; simp [h2, hrc]; (try with_reducible refine ⟨?_, ?_⟩) <;> (try with_reducible intro hc) <;> try (exfalso; omega)) | ((first | (refine w_e [] ?_; intro J hJ; simp only []) | (refine w_q ?_; intro J hJ) | refine e_go ?_); simp [h2, hrc]; (repeat refine ca ?_); (try ((try with_reducible refine ⟨?_, ?_⟩) <;> (try with_reducible intro hnil) <;> refine hJ _ _ ?_ <;> clear hJ J <;> simp only [ak, reduceIte] <;> try subst hnil)))))
      exact hK4
    have h2' : decide (t = nrm t) = true := by simpa using h2
    rw [h2']
    (repeat' (first | refine awp_seq ?_ | refine awp_block ?_ | ((first | refine awp_skip ?_ | refine awp_exit ?_); simp only [ak, reduceIte]) | (refine awp_ret ?_; simp only [ak, reduceIte]; simp []) | (refine awp_cond ?_; simp []; (try with_reducible refine ⟨?_, ?_⟩) <;> (try with_reducible intro hc) <;> try (exfalso; omega)) | ((first | (refine w_e [] ?_; intro J hJ; simp only []) | (refine w_q ?_; intro J hJ) | refine e_go ?_); simp []; (repeat refine ca ?_); (try ((try with_reducible refine ⟨?_, ?_⟩) <;> (try with_reducible intro hnil) <;> refine hJ _ _ ?_ <;> clear hJ J <;> simp only [ak, reduceIte] <;> try subst hnil)))))
    refine awp_range 56 55 57 64 (E.length) (fun j fr st2 => fr 1 = .pt st.next 0 ∧ fr 26 = .sl 0 m.g.vs.length (us m.g.vs) ∧ fr 28 = i j0 ∧ fr 27 = i m.g.vs.length ∧ fr 6 = .sl 0 t.length (us t) ∧ fr 54 = .sl te E.length (us E) ∧ st2 = s5 ∧ ∀ k, k < j → E.getD k 0 ∈ t) ?_ ?_ ?_
    · exact ⟨by simp [f1], by simp [f26], by simp [fi], by simp [fn], by simp [h1], by simp, rfl, fun k hk => by omega⟩
    · clear f1 f26 fi fn fr
      rintro k fr st6 hk ⟨f1, f26, f28, f27, f6, f54, rfl, hall⟩ fi fn J2 hJ2
      have hd3 := us_drop_getD E k hk
      have hin : E.getD k 0 ∈ E := by rw [getD_lt _ _ hk]; exact List.getElem_mem _
      generalize hx : E.getD k 0 = x at *
      (repeat' (first | refine awp_seq ?_ | refine awp_block ?_ | ((first | refine awp_skip ?_ | refine awp_exit ?_); simp only [ak, reduceIte]) | (refine awp_ret ?_; simp only [ak, reduceIte]; simp [f54, f6, fi, fn, hd3, hk]) | (refine awp_cond ?_; simp [f54, f6, fi, fn, hd3, hk]; (try with_reducible refine ⟨?_, ?_⟩) <;> (try with_reducible intro hc) <;> try (exfalso; omega)) | ((first | (refine w_e [] ?_; intro J hJ; simp only []) | (refine w_q ?_; intro J hJ) | refine e_go ?_); simp [f54, f6, fi, fn, hd3, hk]; (repeat refine ca ?_); (try ((try with_reducible refine ⟨?_, ?_⟩) <;> (try with_reducible intro hnil) <;> refine hJ _ _ ?_ <;> clear hJ J <;> simp only [ak, reduceIte] <;> try subst hnil)))))
      refine callK_ofE (Find t 0 x _ (by unfold small; omega)) (by simp [h1]) ?_; rintro r s7 ⟨rfl, rfl⟩
      by_cases hxt : x ∈ t
      · have hg := gi_mem hxt
        (repeat' (first | refine awp_seq ?_ | refine awp_block ?_ | ((first | refine awp_skip ?_ | refine awp_exit ?_); simp only [ak, reduceIte]) | (refine awp_ret ?_; simp only [ak, reduceIte]; simp [hg]) | (refine awp_cond ?_; simp [hg]; (try with_reducible refine ⟨?_, ?_⟩) <;> (try with_reducible intro hc) <;> try (exfalso; omega)) | ((first | (refine w_e [] ?_; intro J hJ; simp only []) | (refine w_q ?_; intro J hJ) | refine e_go ?_); simp [hg]; (repeat refine ca ?_); (try ((try with_reducible refine ⟨?_, ?_⟩) <;> (try with_reducible intro hnil) <;> refine hJ _ _ ?_ <;> clear hJ J <;> simp only [ak, reduceIte] <;> try subst hnil)))))
        refine hJ2 _ _ (by simp [fi]) (by simp [fn]) ⟨by simp [f1], by simp [f26], by simp [f28], by simp [f27], by simp [f6], by simp [f54], rfl, fun q hq => ?_⟩
        rcases Nat.lt_or_ge q k with h3 | h3
        · exact hall q h3
        · obtain rfl : q = k := by omega
          rw [hx]; exact hxt
      · have hg := gi_not hxt
        have hrc := hbad fun h => hxt ((hok1.1 h).1.mem_iff.2 hin)
        (repeat' (first | refine awp_seq ?_ | refine awp_block ?_ | ((first | refine awp_skip ?_ | refine awp_exit ?_); simp only [ak, reduceIte]) | (refine awp_ret ?_; simp only [ak, reduceIte]; simp [hg, hrc]) | (refine awp_cond ?_; simp [hg, hrc]; (try with_reducible refine ⟨?_, ?_⟩) <;> (try with_reducible intro hc) <;> try (exfalso; omega)) | ((first | (refine w_e [] ?_; intro J hJ; simp only []) | (refine w_q ?_; intro J hJ) | refine e_go ?_); simp [hg, hrc]; (repeat refine ca ?_); (try ((try with_reducible refine ⟨?_, ?_⟩) <;> (try with_reducible intro hnil) <;> refine hJ _ _ ?_ <;> clear hJ J <;> simp only [ak, reduceIte] <;> try subst hnil)))))
        exact hK4
    · clear f1 f26 fi fn fr
      rintro fr st6 ⟨f1, f26, f28, f27, f6, f54, rfl, hall⟩
      (repeat' (first | refine awp_seq ?_ | refine awp_block ?_ | ((first | refine awp_skip ?_ | refine awp_exit ?_); simp only [ak, reduceIte]) | (refine awp_ret ?_; simp only [ak, reduceIte]; simp []) | (refine awp_cond ?_; simp []; (try with_reducible refine ⟨?_, ?_⟩) <;> (try with_reducible intro hc) <;> try (exfalso; omega)) | ((first | (refine w_e [] ?_; intro J hJ; simp only []) | (refine w_q ?_; intro J hJ) | refine e_go ?_); simp []; (repeat refine ca ?_); (try ((try with_reducible refine ⟨?_, ?_⟩) <;> (try with_reducible intro hnil) <;> refine hJ _ _ ?_ <;> clear hJ J <;> simp only [ak, reduceIte] <;> try subst hnil)))))
      refine hJJ _ _ (by simp [f28]) (by simp [f27]) ⟨by simp [f1], by simp [f26], hG4, hK4, by omega, hnx (hok1.2 ⟨?_, h2.symm⟩)⟩
      refine (perm_of_sub (rise_nodup hrise) (fun x hx => ?_) (by omega)).symm
      obtain ⟨q, hq, rfl⟩ := List.getElem_of_mem hx
      have := hall q hq
      rwa [getD_lt _ _ hq] at this
  · rintro fr st2 ⟨f1, f26, hG, hkp, hsn, hok⟩
    have hrc := rchk_ok hc hl hok
    (repeat' (first | refine awp_seq ?_ | refine awp_block ?_ | ((first | refine awp_skip ?_ | refine awp_exit ?_); simp only [ak, reduceIte]) | (refine awp_ret ?_; simp only [ak, reduceIte]; simp [hrc]) | (refine awp_cond ?_; simp [hrc]; (try with_reducible refine ⟨?_, ?_⟩) <;> (try with_reducible intro hc) <;> try (exfalso; omega)) | ((first | (refine w_e [] ?_; intro J hJ; simp only []) | (refine w_q ?_; intro J hJ) | refine e_go ?_); simp [hrc]; (repeat refine ca ?_); (try ((try with_reducible refine ⟨?_, ?_⟩) <;> (try with_reducible intro hnil) <;> refine hJ _ _ ?_ <;> clear hJ J <;> simp only [ak, reduceIte] <;> try subst hnil)))))
    exact hkp

/-- What Right answers. -/
noncomputable def rright (m : Mp) : Int := if rchk m ≠ 0 then rchk m else if gn m ≠ 0 then 23 else 0

theorem rRight (m : Mp) (st : St) (hv : m.g.vs.length ≤ 1000) (he : m.g.es.length ≤ 1000) (hr : m.rots.length ≤ 1000) (hs : ∀ t ∈ m.rots, t.length ≤ 1000) :
    ACalls Try.prog 57 [.ag (mpL m)] st fun r st' => r = i (rright m) ∧ Keeps st st' := by
  refine acalls_of_body tabOk Try.func57 rfl rfl Try.ntmps57 (rs := [.tmp 2]) rfl (by simp) ?_
  (repeat' (first | refine awp_seq ?_ | refine awp_block ?_ | ((first | refine awp_skip ?_ | refine awp_exit ?_); simp only [ak, reduceIte]) | (refine awp_ret ?_; simp only [ak, reduceIte]; simp []) | (refine awp_cond ?_; simp []; (try with_reducible refine ⟨?_, ?_⟩) <;> (try with_reducible intro hc) <;> try (exfalso; omega)) | ((first | (refine w_e [] ?_; intro J hJ; simp only []) | (refine w_q ?_; intro J hJ) | refine e_go ?_); simp []; (repeat refine ca ?_); (try ((try with_reducible refine ⟨?_, ?_⟩) <;> (try with_reducible intro hnil) <;> refine hJ _ _ ?_ <;> clear hJ J <;> simp only [ak, reduceIte] <;> try subst hnil)))))
  refine callK_ofE (rCheck m _ hv he hr hs) (by simp) ?_; rintro r s1 ⟨rfl, hk1⟩
  have hn1 := hk1.next
  simp only [new_next] at hn1
  have hG1 : s1.H st.next = .box 71 3 (mpL m) := by rw [hk1.H _ (by simp)]; simp
  have hK1 : Keeps st s1 := (Keeps.new _ _).trans hk1
  by_cases hc : rchk m = 0
  rotate_left
  · have hrc : rright m = rchk m := by unfold rright; rw [if_pos hc]
    generalize rchk m = x at *
    (repeat' (first | refine awp_seq ?_ | refine awp_block ?_ | ((first | refine awp_skip ?_ | refine awp_exit ?_); simp only [ak, reduceIte]) | (refine awp_ret ?_; simp only [ak, reduceIte]; simp [hc, hrc]) | (refine awp_cond ?_; simp [hc, hrc]; (try with_reducible refine ⟨?_, ?_⟩) <;> (try with_reducible intro hc) <;> try (exfalso; omega)) | ((first | (refine w_e [] ?_; intro J hJ; simp only []) | (refine w_q ?_; intro J hJ) | refine e_go ?_); simp [hc, hrc]; (repeat refine ca ?_); (try ((try with_reducible refine ⟨?_, ?_⟩) <;> (try with_reducible intro hnil) <;> refine hJ _ _ ?_ <;> clear hJ J <;> simp only [ak, reduceIte] <;> try subst hnil)))))
    exact hK1
  (repeat' (first | refine awp_seq ?_ | refine awp_block ?_ | ((first | refine awp_skip ?_ | refine awp_exit ?_); simp only [ak, reduceIte]) | (refine awp_ret ?_; simp only [ak, reduceIte]; simp [hc, hG1]) | (refine awp_cond ?_; simp [hc, hG1]; (try with_reducible refine ⟨?_, ?_⟩) <;> (try with_reducible intro hc) <;> try (exfalso; omega)) | ((first | (refine w_e [] ?_; intro J hJ; simp only []) | (refine w_q ?_; intro J hJ) | refine e_go ?_); simp [hc, hG1]; (repeat refine ca ?_); (try ((try with_reducible refine ⟨?_, ?_⟩) <;> (try with_reducible intro hnil) <;> refine hJ _ _ ?_ <;> clear hJ J <;> simp only [ak, reduceIte] <;> try subst hnil)))))
  refine callK_ofE (Genus m (rchk_zero hc).2 _ hv he) (by simp) ?_; rintro r s2 ⟨rfl, hk2⟩
  by_cases hg : gn m = 0
  · have hrc : rright m = 0 := by unfold rright; rw [if_neg (fun e => e hc), if_neg (fun e => e hg)]
    (repeat' (first | refine awp_seq ?_ | refine awp_block ?_ | ((first | refine awp_skip ?_ | refine awp_exit ?_); simp only [ak, reduceIte]) | (refine awp_ret ?_; simp only [ak, reduceIte]; simp [hg, hrc]) | (refine awp_cond ?_; simp [hg, hrc]; (try with_reducible refine ⟨?_, ?_⟩) <;> (try with_reducible intro hc) <;> try (exfalso; omega)) | ((first | (refine w_e [] ?_; intro J hJ; simp only []) | (refine w_q ?_; intro J hJ) | refine e_go ?_); simp [hg, hrc]; (repeat refine ca ?_); (try ((try with_reducible refine ⟨?_, ?_⟩) <;> (try with_reducible intro hnil) <;> refine hJ _ _ ?_ <;> clear hJ J <;> simp only [ak, reduceIte] <;> try subst hnil)))))
    exact hK1.trans hk2
  · have hrc : rright m = 23 := by unfold rright; rw [if_neg (fun e => e hc), if_pos hg]
    generalize gn m = x at *
    (repeat' (first | refine awp_seq ?_ | refine awp_block ?_ | ((first | refine awp_skip ?_ | refine awp_exit ?_); simp only [ak, reduceIte]) | (refine awp_ret ?_; simp only [ak, reduceIte]; simp [hg, hrc]) | (refine awp_cond ?_; simp [hg, hrc]; (try with_reducible refine ⟨?_, ?_⟩) <;> (try with_reducible intro hc) <;> try (exfalso; omega)) | ((first | (refine w_e [] ?_; intro J hJ; simp only []) | (refine w_q ?_; intro J hJ) | refine e_go ?_); simp [hg, hrc]; (repeat refine ca ?_); (try ((try with_reducible refine ⟨?_, ?_⟩) <;> (try with_reducible intro hnil) <;> refine hJ _ _ ?_ <;> clear hJ J <;> simp only [ak, reduceIte] <;> try subst hnil)))))
    exact hK1.trans hk2

theorem ref_rRight (m : Mp) (st : St) (hv : m.g.vs.length ≤ 1000) (he : m.g.es.length ≤ 1000) (hr : m.rots.length ≤ 1000) (hs : ∀ t ∈ m.rots, t.length ≤ 1000) :
    ACalls Try.prog 58 [.ag (mpL m)] st fun r st' => r = i (rright m) ∧ Keeps st st' := by
  refine acalls_of_body tabOk Try.func58 rfl rfl Try.ntmps58 (rs := [.tmp 2]) rfl (by simp) ?_
  (repeat' (first | refine awp_seq ?_ | refine awp_block ?_ | ((first | refine awp_skip ?_ | refine awp_exit ?_); simp only [ak, reduceIte]) | (refine awp_ret ?_; simp only [ak, reduceIte]; simp []) | (refine awp_cond ?_; simp []; (try with_reducible refine ⟨?_, ?_⟩) <;> (try with_reducible intro hc) <;> try (exfalso; omega)) | ((first | (refine w_e [] ?_; intro J hJ; simp only []) | (refine w_q ?_; intro J hJ) | refine e_go ?_); simp []; (repeat refine ca ?_); (try ((try with_reducible refine ⟨?_, ?_⟩) <;> (try with_reducible intro hnil) <;> refine hJ _ _ ?_ <;> clear hJ J <;> simp only [ak, reduceIte] <;> try subst hnil)))))
  refine callK_ofE (ref_rCheck m _ hv he hr hs) (by simp) ?_; rintro r s1 ⟨rfl, hk1⟩
  have hn1 := hk1.next
  simp only [new_next] at hn1
  have hG1 : s1.H st.next = .box 71 3 (mpL m) := by rw [hk1.H _ (by simp)]; simp
  have hK1 : Keeps st s1 := (Keeps.new _ _).trans hk1
  by_cases hc : rchk m = 0
  rotate_left
  · have hrc : rright m = rchk m := by unfold rright; rw [if_pos hc]
    generalize rchk m = x at *
    have hcb : (x == 0) = false := by simpa using hc
    (repeat' (first | refine awp_seq ?_ | refine awp_block ?_ | ((first | refine awp_skip ?_ | refine awp_exit ?_); simp only [ak, reduceIte]) | (refine awp_ret ?_; simp only [ak, reduceIte]; simp [hcb, hc, hrc]) | (refine awp_cond ?_; simp [hcb, hc, hrc]; (try with_reducible refine ⟨?_, ?_⟩) <;> (try with_reducible intro hc) <;> try (exfalso; omega)) | ((first | (refine w_e [] ?_; intro J hJ; simp only []) | (refine w_q ?_; intro J hJ) | refine e_go ?_); simp [hcb, hc, hrc]; (repeat refine ca ?_); (try ((try with_reducible refine ⟨?_, ?_⟩) <;> (try with_reducible intro hnil) <;> refine hJ _ _ ?_ <;> clear hJ J <;> simp only [ak, reduceIte] <;> try subst hnil)))))
    exact hK1
  (repeat' (first | refine awp_seq ?_ | refine awp_block ?_ | ((first | refine awp_skip ?_ | refine awp_exit ?_); simp only [ak, reduceIte]) | (refine awp_ret ?_; simp only [ak, reduceIte]; simp [hc, hG1]) | (refine awp_cond ?_; simp [hc, hG1]; (try with_reducible refine ⟨?_, ?_⟩) <;> (try with_reducible intro hc) <;> try (exfalso; omega)) | ((first | (refine w_e [] ?_; intro J hJ; simp only []) | (refine w_q ?_; intro J hJ) | refine e_go ?_); simp [hc, hG1]; (repeat refine ca ?_); (try ((try with_reducible refine ⟨?_, ?_⟩) <;> (try with_reducible intro hnil) <;> refine hJ _ _ ?_ <;> clear hJ J <;> simp only [ak, reduceIte] <;> try subst hnil)))))
  refine callK_ofE (Twice m (rchk_zero hc).2 _ hv he) (by simp) ?_; rintro r s2 ⟨rfl, hk2⟩
  by_cases hg : gn m = 0
  · have hrc : rright m = 0 := by unfold rright; rw [if_neg (fun e => e hc), if_neg (fun e => e hg)]
    (repeat' (first | refine awp_seq ?_ | refine awp_block ?_ | ((first | refine awp_skip ?_ | refine awp_exit ?_); simp only [ak, reduceIte]) | (refine awp_ret ?_; simp only [ak, reduceIte]; simp [hg, hrc]) | (refine awp_cond ?_; simp [hg, hrc]; (try with_reducible refine ⟨?_, ?_⟩) <;> (try with_reducible intro hc) <;> try (exfalso; omega)) | ((first | (refine w_e [] ?_; intro J hJ; simp only []) | (refine w_q ?_; intro J hJ) | refine e_go ?_); simp [hg, hrc]; (repeat refine ca ?_); (try ((try with_reducible refine ⟨?_, ?_⟩) <;> (try with_reducible intro hnil) <;> refine hJ _ _ ?_ <;> clear hJ J <;> simp only [ak, reduceIte] <;> try subst hnil)))))
    exact hK1.trans hk2
  · have hrc : rright m = 23 := by unfold rright; rw [if_neg (fun e => e hc), if_pos hg]
    generalize gn m = x at *
    have hx2 : ¬ (2 * (x : Int) = 0) := by omega
    (repeat' (first | refine awp_seq ?_ | refine awp_block ?_ | ((first | refine awp_skip ?_ | refine awp_exit ?_); simp only [ak, reduceIte]) | (refine awp_ret ?_; simp only [ak, reduceIte]; simp [hx2, hg, hrc]) | (refine awp_cond ?_; simp [hx2, hg, hrc]; (try with_reducible refine ⟨?_, ?_⟩) <;> (try with_reducible intro hc) <;> try (exfalso; omega)) | ((first | (refine w_e [] ?_; intro J hJ; simp only []) | (refine w_q ?_; intro J hJ) | refine e_go ?_); simp [hx2, hg, hrc]; (repeat refine ca ?_); (try ((try with_reducible refine ⟨?_, ?_⟩) <;> (try with_reducible intro hnil) <;> refine hJ _ _ ?_ <;> clear hJ J <;> simp only [ak, reduceIte] <;> try subst hnil)))))
    exact hK1.trans hk2

end Go.Proofs.Ytphdhggoaijfoaa.Aw

namespace Go.Proofs.Ytphdhggoaijfoaa.Aw
open Go Go.RowKit Go.Proofs.Ytphdhggoaijfoaa.Pl Go.Proofs.Ytphdhggoaijfoaa.Eu
set_option linter.unusedSimpArgs false
set_option linter.unusedVariables false

def few (m : Mp) : Bool := decide (m.g.vs.length ≤ 70) && decide (m.g.es.length ≤ 60) && decide (m.rots.length ≤ 80)
theorem Few (m : Mp) (st : St) : ACalls Try.prog 54 [.ag (mpL m)] st fun r st' => r = bb (few m) ∧ Keeps st st' := by
  refine acalls_of_body tabOk Try.func54 rfl rfl Try.ntmps54 (rs := [.tmp 2]) rfl (by simp) ?_
  by_cases h1 : (m.g.vs.length : Int) ≤ 70
  rotate_left
  · have hf : few m = false := by unfold few; simp; omega
    (repeat' (first | refine awp_seq ?_ | refine awp_block ?_ | ((first | refine awp_skip ?_ | refine awp_exit ?_); simp only [ak, reduceIte]) | (refine awp_ret ?_; simp only [ak, reduceIte]; simp [h1, hf]) | (refine awp_cond ?_; simp [h1, hf]; (try with_reducible refine ⟨?_, ?_⟩) <;> (try with_reducible intro hc) <;> try (exfalso; omega)) | ((first | (refine w_e [] ?_; intro J hJ; simp only []) | (refine w_q ?_; intro J hJ) | refine e_go ?_); simp [h1, hf]; (repeat refine ca ?_); (try ((try with_reducible refine ⟨?_, ?_⟩) <;> (try with_reducible intro hnil) <;> refine hJ _ _ ?_ <;> clear hJ J <;> simp only [ak, reduceIte] <;> try subst hnil)))))
    exact Keeps.new _ _
  by_cases h2 : (m.g.es.length : Int) ≤ 60
  rotate_left
  · have hf : few m = false := by unfold few; simp; omega
    (repeat' (first | refine awp_seq ?_ | refine awp_block ?_ | ((first | refine awp_skip ?_ | refine awp_exit ?_); simp only [ak, reduceIte]) | (refine awp_ret ?_; simp only [ak, reduceIte]; simp [h1, h2, hf]) | (refine awp_cond ?_; simp [h1, h2, hf]; (try with_reducible refine ⟨?_, ?_⟩) <;> (try with_reducible intro hc) <;> try (exfalso; omega)) | ((first | (refine w_e [] ?_; intro J hJ; simp only []) | (refine w_q ?_; intro J hJ) | refine e_go ?_); simp [h1, h2, hf]; (repeat refine ca ?_); (try ((try with_reducible refine ⟨?_, ?_⟩) <;> (try with_reducible intro hnil) <;> refine hJ _ _ ?_ <;> clear hJ J <;> simp only [ak, reduceIte] <;> try subst hnil)))))
    exact Keeps.new _ _
  by_cases h3 : (m.rots.length : Int) ≤ 80
  rotate_left
  · have hf : few m = false := by unfold few; simp; omega
    (repeat' (first | refine awp_seq ?_ | refine awp_block ?_ | ((first | refine awp_skip ?_ | refine awp_exit ?_); simp only [ak, reduceIte]) | (refine awp_ret ?_; simp only [ak, reduceIte]; simp [h1, h2, h3, hf]) | (refine awp_cond ?_; simp [h1, h2, h3, hf]; (try with_reducible refine ⟨?_, ?_⟩) <;> (try with_reducible intro hc) <;> try (exfalso; omega)) | ((first | (refine w_e [] ?_; intro J hJ; simp only []) | (refine w_q ?_; intro J hJ) | refine e_go ?_); simp [h1, h2, h3, hf]; (repeat refine ca ?_); (try ((try with_reducible refine ⟨?_, ?_⟩) <;> (try with_reducible intro hnil) <;> refine hJ _ _ ?_ <;> clear hJ J <;> simp only [ak, reduceIte] <;> try subst hnil)))))
    exact Keeps.new _ _
  have hf : few m = true := by unfold few; simp; omega
  (repeat' (first | refine awp_seq ?_ | refine awp_block ?_ | ((first | refine awp_skip ?_ | refine awp_exit ?_); simp only [ak, reduceIte]) | (refine awp_ret ?_; simp only [ak, reduceIte]; simp [h1, h2, h3, hf]) | (refine awp_cond ?_; simp [h1, h2, h3, hf]; (try with_reducible refine ⟨?_, ?_⟩) <;> (try with_reducible intro hc) <;> try (exfalso; omega)) | ((first | (refine w_e [] ?_; intro J hJ; simp only []) | (refine w_q ?_; intro J hJ) | refine e_go ?_); simp [h1, h2, h3, hf]; (repeat refine ca ?_); (try ((try with_reducible refine ⟨?_, ?_⟩) <;> (try with_reducible intro hnil) <;> refine hJ _ _ ?_ <;> clear hJ J <;> simp only [ak, reduceIte] <;> try subst hnil)))))
  exact Keeps.new _ _
theorem few_of {m : Mp} (h : few m = true) : m.g.vs.length ≤ 70 ∧ m.g.es.length ≤ 60 ∧ m.rots.length ≤ 80 := by
  unfold few at h; simp at h; omega

set_option maxHeartbeats 1000000 in
theorem RotChecks (m : Mp) (st : St) : ACalls Try.prog 11 [.ag (mpL m)] st fun r st' => r = bb true := by
  refine acalls_of_body tabOk Try.func11 rfl rfl Try.ntmps11 (rs := [.tmp 2]) rfl (by simp) ?_
  (repeat' (first | refine awp_seq ?_ | refine awp_block ?_ | ((first | refine awp_skip ?_ | refine awp_exit ?_); simp only [ak, reduceIte]) | (refine awp_ret ?_; simp only [ak, reduceIte]; simp []) | (refine awp_cond ?_; simp []; (try with_reducible refine ⟨?_, ?_⟩) <;> (try with_reducible intro hc) <;> try (exfalso; omega)) | ((first | (refine w_e [] ?_; intro J hJ; simp only []) | (refine w_q ?_; intro J hJ) | refine e_go ?_); simp []; (repeat refine ca ?_); (try ((try with_reducible refine ⟨?_, ?_⟩) <;> (try with_reducible intro hnil) <;> refine hJ _ _ ?_ <;> clear hJ J <;> simp only [ak, reduceIte] <;> try subst hnil)))))
  refine callK_ofE (awake10 _) (by simp []) ?_; rintro r st' ⟨rfl, rfl⟩
  (repeat' (first | refine awp_seq ?_ | refine awp_block ?_ | ((first | refine awp_skip ?_ | refine awp_exit ?_); simp only [ak, reduceIte]) | (refine awp_ret ?_; simp only [ak, reduceIte]; simp []) | (refine awp_cond ?_; simp []; (try with_reducible refine ⟨?_, ?_⟩) <;> (try with_reducible intro hc) <;> try (exfalso; omega)) | ((first | (refine w_e [] ?_; intro J hJ; simp only []) | (refine w_q ?_; intro J hJ) | refine e_go ?_); simp []; (repeat refine ca ?_); (try ((try with_reducible refine ⟨?_, ?_⟩) <;> (try with_reducible intro hnil) <;> refine hJ _ _ ?_ <;> clear hJ J <;> simp only [ak, reduceIte] <;> try subst hnil)))))
  refine callK_ofE (Few m _) (by simp) ?_; rintro r s1 ⟨rfl, hk1⟩
  have hn1 := hk1.next
  simp only [new_next] at hn1
  have hG1 : s1.H st.next = .box 71 3 (mpL m) := by rw [hk1.H _ (by simp)]; simp
  cases hf : few m
  · (repeat' (first | refine awp_seq ?_ | refine awp_block ?_ | ((first | refine awp_skip ?_ | refine awp_exit ?_); simp only [ak, reduceIte]) | (refine awp_ret ?_; simp only [ak, reduceIte]; simp []) | (refine awp_cond ?_; simp []; (try with_reducible refine ⟨?_, ?_⟩) <;> (try with_reducible intro hc) <;> try (exfalso; omega)) | ((first | (refine w_e [] ?_; intro J hJ; simp only []) | (refine w_q ?_; intro J hJ) | refine e_go ?_); simp []; (repeat refine ca ?_); (try ((try with_reducible refine ⟨?_, ?_⟩) <;> (try with_reducible intro hnil) <;> refine hJ _ _ ?_ <;> clear hJ J <;> simp only [ak, reduceIte] <;> try subst hnil)))))
  obtain ⟨hv, he, hr⟩ := few_of hf
  (repeat' (first | refine awp_seq ?_ | refine awp_block ?_ | ((first | refine awp_skip ?_ | refine awp_exit ?_); simp only [ak, reduceIte]) | (refine awp_ret ?_; simp only [ak, reduceIte]; simp [hG1]) | (refine awp_cond ?_; simp [hG1]; (try with_reducible refine ⟨?_, ?_⟩) <;> (try with_reducible intro hc) <;> try (exfalso; omega)) | ((first | (refine w_e [] ?_; intro J hJ; simp only []) | (refine w_q ?_; intro J hJ) | refine e_go ?_); simp [hG1]; (repeat refine ca ?_); (try ((try with_reducible refine ⟨?_, ?_⟩) <;> (try with_reducible intro hnil) <;> refine hJ _ _ ?_ <;> clear hJ J <;> simp only [ak, reduceIte] <;> try subst hnil)))))
  refine awp_range 13 12 14 20 (m.rots.length) (fun j fr st2 => fr 1 = .pt st.next 0 ∧ fr 11 = .sl 0 m.rots.length (rowsL m.rots) ∧ st2 = s1 ∧ ∀ k, k < j → (m.rots.getD k []).length ≤ 300) ?_ ?_ ?_
  · exact ⟨by simp, by simp, rfl, fun k hk => by omega⟩
  · rintro j fr st2 hlt ⟨f1, f11, rfl, hall⟩ fi fn JJ hJJ
    have hd := rowsL_drop m.rots j hlt
    have hRl : j < (rowsL m.rots).length := by simpa using hlt
    by_cases h300 : (300 : Int) < ((m.rots.getD j []).length : Int)
    · generalize m.rots.getD j [] = t at *
      (repeat' (first | refine awp_seq ?_ | refine awp_block ?_ | ((first | refine awp_skip ?_ | refine awp_exit ?_); simp only [ak, reduceIte]) | (refine awp_ret ?_; simp only [ak, reduceIte]; simp [f11, fi, fn, hd, hRl, h300]) | (refine awp_cond ?_; simp [f11, fi, fn, hd, hRl, h300]; (try with_reducible refine ⟨?_, ?_⟩) <;> (try with_reducible intro hc) <;> try (exfalso; omega)) | ((first | (refine w_e [] ?_; intro J hJ; simp only []) | (refine w_q ?_; intro J hJ) | refine e_go ?_); simp [f11, fi, fn, hd, hRl, h300]; (repeat refine ca ?_); (try ((try with_reducible refine ⟨?_, ?_⟩) <;> (try with_reducible intro hnil) <;> refine hJ _ _ ?_ <;> clear hJ J <;> simp only [ak, reduceIte] <;> try subst hnil)))))
    · have hnx : ∀ k, k < j + 1 → (m.rots.getD k []).length ≤ 300 := fun k hk => by
        rcases Nat.lt_or_ge k j with h1 | h1
        · exact hall k h1
        · obtain rfl : k = j := by omega
          omega
      generalize m.rots.getD j [] = t at *
      (repeat' (first | refine awp_seq ?_ | refine awp_block ?_ | ((first | refine awp_skip ?_ | refine awp_exit ?_); simp only [ak, reduceIte]) | (refine awp_ret ?_; simp only [ak, reduceIte]; simp [f11, fi, fn, hd, hRl, h300]) | (refine awp_cond ?_; simp [f11, fi, fn, hd, hRl, h300]; (try with_reducible refine ⟨?_, ?_⟩) <;> (try with_reducible intro hc) <;> try (exfalso; omega)) | ((first | (refine w_e [] ?_; intro J hJ; simp only []) | (refine w_q ?_; intro J hJ) | refine e_go ?_); simp [f11, fi, fn, hd, hRl, h300]; (repeat refine ca ?_); (try ((try with_reducible refine ⟨?_, ?_⟩) <;> (try with_reducible intro hnil) <;> refine hJ _ _ ?_ <;> clear hJ J <;> simp only [ak, reduceIte] <;> try subst hnil)))))
      exact hJJ _ _ (by simp [fi]) (by simp [fn]) ⟨by simp [f1], by simp [f11], rfl, hnx⟩
  rintro fr st2 ⟨f1, f11, rfl, hall⟩
  have hs : ∀ t ∈ m.rots, t.length ≤ 1000 := fun t ht => by
    obtain ⟨k, hk, rfl⟩ := List.getElem_of_mem ht
    have := hall k hk
    rw [getR_lt _ _ hk] at this
    omega
  (repeat' (first | refine awp_seq ?_ | refine awp_block ?_ | ((first | refine awp_skip ?_ | refine awp_exit ?_); simp only [ak, reduceIte]) | (refine awp_ret ?_; simp only [ak, reduceIte]; simp []) | (refine awp_cond ?_; simp []; (try with_reducible refine ⟨?_, ?_⟩) <;> (try with_reducible intro hc) <;> try (exfalso; omega)) | ((first | (refine w_e [] ?_; intro J hJ; simp only []) | (refine w_q ?_; intro J hJ) | refine e_go ?_); simp []; (repeat refine ca ?_); (try ((try with_reducible refine ⟨?_, ?_⟩) <;> (try with_reducible intro hnil) <;> refine hJ _ _ ?_ <;> clear hJ J <;> simp only [ak, reduceIte] <;> try subst hnil)))))
  (refine w_s [] [st.next] [(0, true), (2, true), (1, true), (3, true), (4, true), (5, true), (6, true), (8, true), (7, true), (9, true), (10, true), (11, true), (12, true)] ?_; intro J hJ; simp [f1, hG1]; (repeat refine ca ?_); (try ((try with_reducible refine ⟨?_, ?_⟩) <;> (try with_reducible intro hnil) <;> refine hJ _ _ ?_ <;> clear hJ J <;> simp only [ak, reduceIte] <;> try subst hnil)))
  refine dcallK_ofE (rCheck m _ (by omega) (by omega) (by omega) hs) (by simp) ?_; rintro r s2 ⟨rfl, hk2⟩
  have hn2 := hk2.next
  have hG2 := (hk2.H st.next (by omega)).trans hG1
  refine ⟨fun _ => by simp [hG2, hG1], ?_⟩
  (refine d_go ?_; simp [f1, hG2, hG1]; (repeat refine ca ?_); (try ((try with_reducible refine ⟨?_, ?_⟩) <;> (try with_reducible intro hnil) <;> refine hJ _ _ ?_ <;> clear hJ J <;> simp only [ak, reduceIte] <;> try subst hnil)))
  refine dcallK_ofE (ref_rCheck m _ (by omega) (by omega) (by omega) hs) (by simp) ?_; rintro r s3 ⟨rfl, hk3⟩
  have hn3 := hk3.next
  have hG3 := (hk3.H st.next (by omega)).trans hG2
  refine ⟨fun _ => by simp [hG3, hG1], ?_⟩
  (refine d_go ?_; simp [f1, hG3, hG1]; (repeat refine ca ?_); (try ((try with_reducible refine ⟨?_, ?_⟩) <;> (try with_reducible intro hnil) <;> refine hJ _ _ ?_ <;> clear hJ J <;> simp only [ak, reduceIte] <;> try subst hnil)))
  refine dcallK_ofE (rRight m _ (by omega) (by omega) (by omega) hs) (by simp) ?_; rintro r s4 ⟨rfl, hk4⟩
  have hn4 := hk4.next
  have hG4 := (hk4.H st.next (by omega)).trans hG3
  refine ⟨fun _ => by simp [hG4, hG1], ?_⟩
  (refine d_go ?_; simp [f1, hG4, hG1]; (repeat refine ca ?_); (try ((try with_reducible refine ⟨?_, ?_⟩) <;> (try with_reducible intro hnil) <;> refine hJ _ _ ?_ <;> clear hJ J <;> simp only [ak, reduceIte] <;> try subst hnil)))
  refine dcallK_ofE (ref_rRight m _ (by omega) (by omega) (by omega) hs) (by simp) ?_; rintro r s5 ⟨rfl, hk5⟩
  have hG5 := (hk5.H st.next (by omega)).trans hG4
  refine ⟨fun _ => by simp [hG5, hG1], ?_⟩
  (refine d_go ?_; simp [f1, hG5, hG1]; (repeat refine ca ?_); (try ((try with_reducible refine ⟨?_, ?_⟩) <;> (try with_reducible intro hnil) <;> refine hJ _ _ ?_ <;> clear hJ J <;> simp only [ak, reduceIte] <;> try subst hnil)))
  (repeat' (first | refine awp_seq ?_ | refine awp_block ?_ | ((first | refine awp_skip ?_ | refine awp_exit ?_); simp only [ak, reduceIte]) | (refine awp_ret ?_; simp only [ak, reduceIte]; simp []) | (refine awp_cond ?_; simp []; (try with_reducible refine ⟨?_, ?_⟩) <;> (try with_reducible intro hc) <;> try (exfalso; omega)) | ((first | (refine w_e [] ?_; intro J hJ; simp only []) | (refine w_q ?_; intro J hJ) | refine e_go ?_); simp []; (repeat refine ca ?_); (try ((try with_reducible refine ⟨?_, ?_⟩) <;> (try with_reducible intro hnil) <;> refine hJ _ _ ?_ <;> clear hJ J <;> simp only [ak, reduceIte] <;> try subst hnil)))))

theorem RotChecks_shp (l0 : List LV) (st : St) (h0 : Shp tab 71 l0) : ACalls Try.prog 11 [argT tab 71 l0] st fun r st' => r = bb true := by
  obtain ⟨m, rfl, _⟩ := shp_mp h0
  exact RotChecks m st

end Go.Proofs.Ytphdhggoaijfoaa.Aw
