/- The law SketchBytes. -/
import Derived.Test.YtjkmgimedkomkaaGreatJb
namespace Go.Proofs.YtjkmgimedkomkaaGreat.Aw
open Go Go.RowKit
set_option linter.unusedSimpArgs false
set_option linter.unusedVariables false

/-- All of them of one of the four kinds. -/
def rightB (l : List Sq) : Bool := l.all fun s => decide (1 ≤ s.k) && decide (s.k ≤ 4)
theorem rightB_take (l : List Sq) (j : Nat) (hj : j < l.length) : rightB (l.take (j + 1)) = (rightB (l.take j) && (decide (1 ≤ (l.getD j sq0).k) && decide ((l.getD j sq0).k ≤ 4))) := by
  rw [List.take_succ_eq_append_getElem hj, List.getD_eq_getElem?_getD, List.getElem?_eq_getElem hj]
  unfold rightB
  rw [List.all_append]
  simp only [List.all_cons, List.all_nil, Bool.and_true, Option.getD_some]
theorem rightB_all {l : List Sq} (h : rightB l = true) : ∀ s ∈ l, 1 ≤ s.k ∧ s.k ≤ 4 := by
  intro s hs
  unfold rightB at h
  rw [List.all_eq_true] at h
  simpa using h s hs
theorem rowsF_len : ∀ (n : Nat) (s : InS) (acc : List Sq), ((rowsF n s acc).1.getD []).length ≤ acc.length + n
  | 0, s, acc => by simp [rowsF]
  | n + 1, s, acc => by
    unfold rowsF
    split
    · simp
    · have := rowsF_len n (tkF s).2 (acc ++ [(tkF s).1])
      simp only [List.length_append, List.length_singleton] at this
      omega
theorem takeF_len (most : Int) (s : InS) (h0 : 0 ≤ most) (h1 : most < 256) : ((takeF most s).1.getD []).length ≤ 1000 := by
  have h := rowsF_len (cntF most 6 s).1.toNat (cntF most 6 s).2 []
  have h2 := cntF_le most s h0
  simp only [List.length_nil] at h
  unfold takeF
  omega
theorem awp_posQ {P : Program} {N : Nat} {Q : AQ} {c : Code} {fr : Frm} {st : St} (h : 0 < st.next → AWp P N c Q fr st) : AWp P N c Q fr st :=
  fun a w g hi hr hs hd => h hi.pos a w g hi hr hs hd
set_option maxHeartbeats 4000000 in
theorem SketchBytes (l : List Sq) (s : List UInt8) (most : Int) (st : St) (hl : ∀ x ∈ l, x.ok) (hm : 0 ≤ most ∧ most < 256) :
    ACalls Tryz.prog 3 [.sl 0 l.length (sqs l), sv s, .atom (.int .u8 most)] st fun r st' => r = bb true := by
  by_cases h60 : 60 < l.length
  · have h60' : (60 : Int) < l.length := by omega
    refine acalls_of_body tabOk Tryz.func3 rfl rfl Tryz.ntmps3 (rs := [.tmp 6]) rfl (by simp) ?_
    (repeat' (first | refine awp_seq ?_ | refine awp_block ?_ | ((first | refine awp_skip ?_ | refine awp_exit ?_); simp only [ak, reduceIte]) | (refine awp_ret ?_; simp only [ak, reduceIte]; simp []) | (refine awp_cond ?_; simp []; (try with_reducible refine ⟨?_, ?_⟩) <;> (try with_reducible intro hc) <;> try (exfalso; omega)) | ((first | (refine w_e [] ?_; intro J hJ; simp only []) | (refine w_q ?_; intro J hJ) | refine e_go ?_); simp []; (repeat refine ca ?_); (try ((try with_reducible refine ⟨?_, ?_⟩) <;> (try with_reducible intro hnil) <;> refine hJ _ _ ?_ <;> clear hJ J <;> simp only [ak, reduceIte] <;> try subst hnil)))))
    refine callK_ofE (awake11 _) (by simp) ?_; rintro r s1 ⟨rfl, g⟩
    rw [g]; clear g s1
    (repeat' (first | refine awp_seq ?_ | refine awp_block ?_ | ((first | refine awp_skip ?_ | refine awp_exit ?_); simp only [ak, reduceIte]) | (refine awp_ret ?_; simp only [ak, reduceIte]; simp []) | (refine awp_cond ?_; simp []; (try with_reducible refine ⟨?_, ?_⟩) <;> (try with_reducible intro hc) <;> try (exfalso; omega)) | ((first | (refine w_e [] ?_; intro J hJ; simp only []) | (refine w_q ?_; intro J hJ) | refine e_go ?_); simp []; (repeat refine ca ?_); (try ((try with_reducible refine ⟨?_, ?_⟩) <;> (try with_reducible intro hnil) <;> refine hJ _ _ ?_ <;> clear hJ J <;> simp only [ak, reduceIte] <;> try subst hnil)))))
    refine callK_ofE (wireNil _) (by simp) ?_; rintro r s1 ⟨rfl, g⟩
    rw [g]; clear g s1
    (repeat' (first | refine awp_seq ?_ | refine awp_block ?_ | ((first | refine awp_skip ?_ | refine awp_exit ?_); simp only [ak, reduceIte]) | (refine awp_ret ?_; simp only [ak, reduceIte]; simp [h60']) | (refine awp_cond ?_; simp [h60']; (try with_reducible refine ⟨?_, ?_⟩) <;> (try with_reducible intro hc) <;> try (exfalso; omega)) | ((first | (refine w_e [] ?_; intro J hJ; simp only []) | (refine w_q ?_; intro J hJ) | refine e_go ?_); simp [h60']; (repeat refine ca ?_); (try ((try with_reducible refine ⟨?_, ?_⟩) <;> (try with_reducible intro hnil) <;> refine hJ _ _ ?_ <;> clear hJ J <;> simp only [ak, reduceIte] <;> try subst hnil)))))
  · have h60' : ¬ (60 : Int) < l.length := by omega
    by_cases h2k : 2000 < s.length
    · have h2k' : (2000 : Int) < s.length := by omega
      refine acalls_of_body tabOk Tryz.func3 rfl rfl Tryz.ntmps3 (rs := [.tmp 6]) rfl (by simp) ?_
      (repeat' (first | refine awp_seq ?_ | refine awp_block ?_ | ((first | refine awp_skip ?_ | refine awp_exit ?_); simp only [ak, reduceIte]) | (refine awp_ret ?_; simp only [ak, reduceIte]; simp []) | (refine awp_cond ?_; simp []; (try with_reducible refine ⟨?_, ?_⟩) <;> (try with_reducible intro hc) <;> try (exfalso; omega)) | ((first | (refine w_e [] ?_; intro J hJ; simp only []) | (refine w_q ?_; intro J hJ) | refine e_go ?_); simp []; (repeat refine ca ?_); (try ((try with_reducible refine ⟨?_, ?_⟩) <;> (try with_reducible intro hnil) <;> refine hJ _ _ ?_ <;> clear hJ J <;> simp only [ak, reduceIte] <;> try subst hnil)))))
      refine callK_ofE (awake11 _) (by simp) ?_; rintro r s1 ⟨rfl, g⟩
      rw [g]; clear g s1
      (repeat' (first | refine awp_seq ?_ | refine awp_block ?_ | ((first | refine awp_skip ?_ | refine awp_exit ?_); simp only [ak, reduceIte]) | (refine awp_ret ?_; simp only [ak, reduceIte]; simp []) | (refine awp_cond ?_; simp []; (try with_reducible refine ⟨?_, ?_⟩) <;> (try with_reducible intro hc) <;> try (exfalso; omega)) | ((first | (refine w_e [] ?_; intro J hJ; simp only []) | (refine w_q ?_; intro J hJ) | refine e_go ?_); simp []; (repeat refine ca ?_); (try ((try with_reducible refine ⟨?_, ?_⟩) <;> (try with_reducible intro hnil) <;> refine hJ _ _ ?_ <;> clear hJ J <;> simp only [ak, reduceIte] <;> try subst hnil)))))
      refine callK_ofE (wireNil _) (by simp) ?_; rintro r s1 ⟨rfl, g⟩
      rw [g]; clear g s1
      (repeat' (first | refine awp_seq ?_ | refine awp_block ?_ | ((first | refine awp_skip ?_ | refine awp_exit ?_); simp only [ak, reduceIte]) | (refine awp_ret ?_; simp only [ak, reduceIte]; simp [h60', h2k']) | (refine awp_cond ?_; simp [h60', h2k']; (try with_reducible refine ⟨?_, ?_⟩) <;> (try with_reducible intro hc) <;> try (exfalso; omega)) | ((first | (refine w_e [] ?_; intro J hJ; simp only []) | (refine w_q ?_; intro J hJ) | refine e_go ?_); simp [h60', h2k']; (repeat refine ca ?_); (try ((try with_reducible refine ⟨?_, ?_⟩) <;> (try with_reducible intro hnil) <;> refine hJ _ _ ?_ <;> clear hJ J <;> simp only [ak, reduceIte] <;> try subst hnil)))))
    · have h2k' : ¬ (2000 : Int) < s.length := by omega
      have hwm : IntKind.i64.wrap most = most := by rw [IntKind.wrap_i64]; omega
      refine acalls_of_body tabOk Tryz.func3 rfl rfl Tryz.ntmps3 (rs := [.tmp 6]) rfl (by simp) ?_
      refine awp_posQ fun hpos => ?_
      (repeat' (first | refine awp_seq ?_ | refine awp_block ?_ | ((first | refine awp_skip ?_ | refine awp_exit ?_); simp only [ak, reduceIte]) | (refine awp_ret ?_; simp only [ak, reduceIte]; simp []) | (refine awp_cond ?_; simp []; (try with_reducible refine ⟨?_, ?_⟩) <;> (try with_reducible intro hc) <;> try (exfalso; omega)) | ((first | (refine w_e [] ?_; intro J hJ; simp only []) | (refine w_q ?_; intro J hJ) | refine e_go ?_); simp []; (repeat refine ca ?_); (try ((try with_reducible refine ⟨?_, ?_⟩) <;> (try with_reducible intro hnil) <;> refine hJ _ _ ?_ <;> clear hJ J <;> simp only [ak, reduceIte] <;> try subst hnil)))))
      refine callK_ofE (awake11 _) (by simp) ?_; rintro r s1 ⟨rfl, g⟩
      rw [g]; clear g s1
      (repeat' (first | refine awp_seq ?_ | refine awp_block ?_ | ((first | refine awp_skip ?_ | refine awp_exit ?_); simp only [ak, reduceIte]) | (refine awp_ret ?_; simp only [ak, reduceIte]; simp []) | (refine awp_cond ?_; simp []; (try with_reducible refine ⟨?_, ?_⟩) <;> (try with_reducible intro hc) <;> try (exfalso; omega)) | ((first | (refine w_e [] ?_; intro J hJ; simp only []) | (refine w_q ?_; intro J hJ) | refine e_go ?_); simp []; (repeat refine ca ?_); (try ((try with_reducible refine ⟨?_, ?_⟩) <;> (try with_reducible intro hnil) <;> refine hJ _ _ ?_ <;> clear hJ J <;> simp only [ak, reduceIte] <;> try subst hnil)))))
      refine callK_ofE (wireNil _) (by simp) ?_; rintro r s1 ⟨rfl, g⟩
      rw [g]; clear g s1
      (repeat' (first | refine awp_seq ?_ | refine awp_block ?_ | ((first | refine awp_skip ?_ | refine awp_exit ?_); simp only [ak, reduceIte]) | (refine awp_ret ?_; simp only [ak, reduceIte]; simp [h60', h2k']) | (refine awp_cond ?_; simp [h60', h2k']; (try with_reducible refine ⟨?_, ?_⟩) <;> (try with_reducible intro hc) <;> try (exfalso; omega)) | ((first | (refine w_e [] ?_; intro J hJ; simp only []) | (refine w_q ?_; intro J hJ) | refine e_go ?_); simp [h60', h2k']; (repeat refine ca ?_); (try ((try with_reducible refine ⟨?_, ?_⟩) <;> (try with_reducible intro hnil) <;> refine hJ _ _ ?_ <;> clear hJ J <;> simp only [ak, reduceIte] <;> try subst hnil)))))
      refine callK_ofE (Lay l _ hl (by omega)) (by simp) ?_; rintro r s1 ⟨rfl, g⟩
      rw [g]; clear g s1
      (repeat' (first | refine awp_seq ?_ | refine awp_block ?_ | ((first | refine awp_skip ?_ | refine awp_exit ?_); simp only [ak, reduceIte]) | (refine awp_ret ?_; simp only [ak, reduceIte]; simp []) | (refine awp_cond ?_; simp []; (try with_reducible refine ⟨?_, ?_⟩) <;> (try with_reducible intro hc) <;> try (exfalso; omega)) | ((first | (refine w_e [] ?_; intro J hJ; simp only []) | (refine w_q ?_; intro J hJ) | refine e_go ?_); simp []; (repeat refine ca ?_); (try ((try with_reducible refine ⟨?_, ?_⟩) <;> (try with_reducible intro hnil) <;> refine hJ _ _ ?_ <;> clear hJ J <;> simp only [ak, reduceIte] <;> try subst hnil)))))
      refine callK_ofE (OutString (layB l) _) (by simp) ?_; rintro r s1 ⟨rfl, g⟩
      rw [g]; clear g s1
      (repeat' (first | refine awp_seq ?_ | refine awp_block ?_ | ((first | refine awp_skip ?_ | refine awp_exit ?_); simp only [ak, reduceIte]) | (refine awp_ret ?_; simp only [ak, reduceIte]; simp []) | (refine awp_cond ?_; simp []; (try with_reducible refine ⟨?_, ?_⟩) <;> (try with_reducible intro hc) <;> try (exfalso; omega)) | ((first | (refine w_e [] ?_; intro J hJ; simp only []) | (refine w_q ?_; intro J hJ) | refine e_go ?_); simp []; (repeat refine ca ?_); (try ((try with_reducible refine ⟨?_, ?_⟩) <;> (try with_reducible intro hnil) <;> refine hJ _ _ ?_ <;> clear hJ J <;> simp only [ak, reduceIte] <;> try subst hnil)))))
      refine callK_ofE (of_ _ s) (by simp) ?_; rintro r s1 ⟨rfl, g⟩
      rw [g]; clear g s1
      (repeat' (first | refine awp_seq ?_ | refine awp_block ?_ | ((first | refine awp_skip ?_ | refine awp_exit ?_); simp only [ak, reduceIte]) | (refine awp_ret ?_; simp only [ak, reduceIte]; simp []) | (refine awp_cond ?_; simp []; (try with_reducible refine ⟨?_, ?_⟩) <;> (try with_reducible intro hc) <;> try (exfalso; omega)) | ((first | (refine w_e [] ?_; intro J hJ; simp only []) | (refine w_q ?_; intro J hJ) | refine e_go ?_); simp []; (repeat refine ca ?_); (try ((try with_reducible refine ⟨?_, ?_⟩) <;> (try with_reducible intro hnil) <;> refine hJ _ _ ?_ <;> clear hJ J <;> simp only [ak, reduceIte] <;> try subst hnil)))))
      have a0 : ¬ st.next = st.next + 1 := by omega
      refine callK_ofE (sTake _ st.next (0, s) most hm.1 (by omega) (by simp [a0]) (by simp; omega)) (by simp [hwm]) ?_; rintro r s1 ⟨⟨t1, hr1⟩, hq1, hk1⟩
      have hn1 := hk1.next
      have hQ1 := hk1.H (st.next + 1) (by simp) (by omega)
      simp only [new_next, new_H, if_pos] at hn1 hQ1
      (repeat' (first | refine awp_seq ?_ | refine awp_block ?_ | ((first | refine awp_skip ?_ | refine awp_exit ?_); simp only [ak, reduceIte]) | (refine awp_ret ?_; simp only [ak, reduceIte]; simp [hwm]) | (refine awp_cond ?_; simp [hwm]; (try with_reducible refine ⟨?_, ?_⟩) <;> (try with_reducible intro hc) <;> try (exfalso; omega)) | ((first | (refine w_e [] ?_; intro J hJ; simp only []) | (refine w_q ?_; intro J hJ) | refine e_go ?_); simp [hwm]; (repeat refine ca ?_); (try ((try with_reducible refine ⟨?_, ?_⟩) <;> (try with_reducible intro hnil) <;> refine hJ _ _ ?_ <;> clear hJ J <;> simp only [ak, reduceIte] <;> try subst hnil)))))
      refine callK_ofE (rTake _ (st.next + 1) (0, s) most hm.1 (by omega) hQ1 (by omega)) (by simp) ?_; rintro r2 s2 ⟨⟨t2, hr2⟩, hq2, hk2⟩
      have hn2 := hk2.next
      have hQ2 := hk2.H st.next (by omega) (by omega)
      rw [hq1] at hQ2
      clear hQ1 hq1
      have hXl := takeF_len most (0, s) hm.1 hm.2
      generalize takeF most (0, s) = F at *
      obtain ⟨Fr, F1, F2⟩ := F
      simp only at hr1 hr2 hq2 hQ2 hXl
      generalize Fr.getD [] = X at *
      (repeat' (first | refine awp_seq ?_ | refine awp_block ?_ | ((first | refine awp_skip ?_ | refine awp_exit ?_); simp only [ak, reduceIte]) | (refine awp_ret ?_; simp only [ak, reduceIte]; simp []) | (refine awp_cond ?_; simp []; (try with_reducible refine ⟨?_, ?_⟩) <;> (try with_reducible intro hc) <;> try (exfalso; omega)) | ((first | (refine w_e [] ?_; intro J hJ; simp only []) | (refine w_q ?_; intro J hJ) | refine e_go ?_); simp []; (repeat refine ca ?_); (try ((try with_reducible refine ⟨?_, ?_⟩) <;> (try with_reducible intro hnil) <;> refine hJ _ _ ?_ <;> clear hJ J <;> simp only [ak, reduceIte] <;> try subst hnil)))))
      (refine w_s [] [st.next, st.next + 1] [(0, true), (1, true), (2, true), (3, true), (4, true), (5, true), (6, true), (7, true), (8, true), (9, true), (10, true), (11, true), (13, true), (14, true), (15, true), (16, true), (12, true), (17, true), (18, true), (19, true), (20, true), (22, true), (23, true), (24, true), (25, true), (26, true), (21, true), (27, true), (28, true)] ?_; intro J hJ; simp []; (repeat refine ca ?_); (try ((try with_reducible refine ⟨?_, ?_⟩) <;> (try with_reducible intro hnil) <;> refine hJ _ _ ?_ <;> clear hJ J <;> simp only [ak, reduceIte] <;> try subst hnil)))
      refine dcallK_ofE (rLay l _ hl (by omega)) (by simp) ?_; rintro r3 s3 ⟨rfl, g⟩
      rw [g]; clear g s3
      refine ⟨fun h => by first | (simp; done) | (cases h), ?_⟩
      (refine d_go ?_; simp []; (repeat refine ca ?_); (try ((try with_reducible refine ⟨?_, ?_⟩) <;> (try with_reducible intro hnil) <;> refine hJ _ _ ?_ <;> clear hJ J <;> simp only [ak, reduceIte] <;> try subst hnil)))
      refine dcallK_ofE (rSame11 X t1 t2 _ (by omega)) (by show [norm r, norm r2] = _; rw [hr1, hr2]) ?_; rintro r3 s3 ⟨rfl, g⟩
      rw [g]; clear g s3
      refine ⟨fun h => by first | (simp; done) | (cases h), ?_⟩
      (refine d_go ?_; simp [hq2]; (repeat refine ca ?_); (try ((try with_reducible refine ⟨?_, ?_⟩) <;> (try with_reducible intro hnil) <;> refine hJ _ _ ?_ <;> clear hJ J <;> simp only [ak, reduceIte] <;> try subst hnil)))
      refine dcallK_ofE (err_ _ st.next (F1, F2) hQ2) (by simp) ?_; rintro r3 s3 ⟨rfl, g⟩
      rw [g]; clear g s3
      refine ⟨fun h => by first | (simp; done) | (cases h), ?_⟩
      (refine d_go ?_; simp [hq2]; (repeat refine ca ?_); (try ((try with_reducible refine ⟨?_, ?_⟩) <;> (try with_reducible intro hnil) <;> refine hJ _ _ ?_ <;> clear hJ J <;> simp only [ak, reduceIte] <;> try subst hnil)))
      refine dcallK_ofE (left_ _ st.next (F1, F2) hQ2) (by simp) ?_; rintro r3 s3 ⟨rfl, g⟩
      rw [g]; clear g s3
      refine ⟨fun h => by first | (simp; done) | (cases h), ?_⟩
      (refine d_go ?_; simp [hq2]; (repeat refine ca ?_); (try ((try with_reducible refine ⟨?_, ?_⟩) <;> (try with_reducible intro hnil) <;> refine hJ _ _ ?_ <;> clear hJ J <;> simp only [ak, reduceIte] <;> try subst hnil)))
      (repeat' (first | refine awp_seq ?_ | refine awp_block ?_ | ((first | refine awp_skip ?_ | refine awp_exit ?_); simp only [ak, reduceIte]) | (refine awp_ret ?_; simp only [ak, reduceIte]; simp []) | (refine awp_cond ?_; simp []; (try with_reducible refine ⟨?_, ?_⟩) <;> (try with_reducible intro hc) <;> try (exfalso; omega)) | ((first | (refine w_e [] ?_; intro J hJ; simp only []) | (refine w_q ?_; intro J hJ) | refine e_go ?_); simp []; (repeat refine ca ?_); (try ((try with_reducible refine ⟨?_, ?_⟩) <;> (try with_reducible intro hnil) <;> refine hJ _ _ ?_ <;> clear hJ J <;> simp only [ak, reduceIte] <;> try subst hnil)))))
      have hsl := sqs_length l
      refine awp_range 78 77 79 93 (l.length) (fun j fr st2 => fr 0 = .sl 0 l.length (sqs l) ∧ fr 7 = sv (layB l) ∧ fr 12 = bb (rightB (l.take j)) ∧ fr 76 = .sl 0 l.length (sqs l)) ?_ ?_ ?_
      · exact ⟨by simp, by simp, by simp [rightB], by simp⟩
      · rintro j fr s4 hlt ⟨f0, f7, f12, f76⟩ fi fn JO hJO
        have hd := sqs_drop l j hlt
        have hj6 : j * 6 < l.length * 6 := by omega
        have hrt := rightB_take l j hlt
        generalize l.getD j sq0 = y at *
        obtain ⟨k, y2, y3, y4, y5, y6⟩ := y
        simp only at hd hrt
        cases hb : rightB (l.take j) with
        | false =>
          rw [hb] at f12 hrt
          (repeat' (first | refine awp_seq ?_ | refine awp_block ?_ | ((first | refine awp_skip ?_ | refine awp_exit ?_); simp only [ak, reduceIte]) | (refine awp_ret ?_; simp only [ak, reduceIte]; simp [f0, f12, f76, fi, fn, hlt, hd, hsl, hj6]) | (refine awp_cond ?_; simp [f0, f12, f76, fi, fn, hlt, hd, hsl, hj6]; (try with_reducible refine ⟨?_, ?_⟩) <;> (try with_reducible intro hc) <;> try (exfalso; omega)) | ((first | (refine w_e [] ?_; intro J hJ; simp only []) | (refine w_q ?_; intro J hJ) | refine e_go ?_); simp [f0, f12, f76, fi, fn, hlt, hd, hsl, hj6]; (repeat refine ca ?_); (try ((try with_reducible refine ⟨?_, ?_⟩) <;> (try with_reducible intro hnil) <;> refine hJ _ _ ?_ <;> clear hJ J <;> simp only [ak, reduceIte] <;> try subst hnil)))))
          exact hJO _ _ (by simp [fi]) (by simp [fn]) ⟨by simp [f0], by simp [f7], by simp [hrt], by simp [f76]⟩
        | true =>
          rw [hb] at f12 hrt
          by_cases h1 : 1 ≤ k
          · by_cases h4 : k ≤ 4
            · have h4' : ¬ 4 < k := by omega
              (repeat' (first | refine awp_seq ?_ | refine awp_block ?_ | ((first | refine awp_skip ?_ | refine awp_exit ?_); simp only [ak, reduceIte]) | (refine awp_ret ?_; simp only [ak, reduceIte]; simp [f0, f12, f76, fi, fn, hlt, hd, hsl, hj6, h1, h4]) | (refine awp_cond ?_; simp [f0, f12, f76, fi, fn, hlt, hd, hsl, hj6, h1, h4]; (try with_reducible refine ⟨?_, ?_⟩) <;> (try with_reducible intro hc) <;> try (exfalso; omega)) | ((first | (refine w_e [] ?_; intro J hJ; simp only []) | (refine w_q ?_; intro J hJ) | refine e_go ?_); simp [f0, f12, f76, fi, fn, hlt, hd, hsl, hj6, h1, h4]; (repeat refine ca ?_); (try ((try with_reducible refine ⟨?_, ?_⟩) <;> (try with_reducible intro hnil) <;> refine hJ _ _ ?_ <;> clear hJ J <;> simp only [ak, reduceIte] <;> try subst hnil)))))
              exact hJO _ _ (by simp [fi]) (by simp [fn]) ⟨by simp [f0], by simp [f7], by simp [hrt, h1, h4], by simp [f76]⟩
            · (repeat' (first | refine awp_seq ?_ | refine awp_block ?_ | ((first | refine awp_skip ?_ | refine awp_exit ?_); simp only [ak, reduceIte]) | (refine awp_ret ?_; simp only [ak, reduceIte]; simp [f0, f12, f76, fi, fn, hlt, hd, hsl, hj6, h1, h4]) | (refine awp_cond ?_; simp [f0, f12, f76, fi, fn, hlt, hd, hsl, hj6, h1, h4]; (try with_reducible refine ⟨?_, ?_⟩) <;> (try with_reducible intro hc) <;> try (exfalso; omega)) | ((first | (refine w_e [] ?_; intro J hJ; simp only []) | (refine w_q ?_; intro J hJ) | refine e_go ?_); simp [f0, f12, f76, fi, fn, hlt, hd, hsl, hj6, h1, h4]; (repeat refine ca ?_); (try ((try with_reducible refine ⟨?_, ?_⟩) <;> (try with_reducible intro hnil) <;> refine hJ _ _ ?_ <;> clear hJ J <;> simp only [ak, reduceIte] <;> try subst hnil)))))
              exact hJO _ _ (by simp [fi]) (by simp [fn]) ⟨by simp [f0], by simp [f7], by simp [hrt, h1, h4], by simp [f76]⟩
          · (repeat' (first | refine awp_seq ?_ | refine awp_block ?_ | ((first | refine awp_skip ?_ | refine awp_exit ?_); simp only [ak, reduceIte]) | (refine awp_ret ?_; simp only [ak, reduceIte]; simp [f0, f12, f76, fi, fn, hlt, hd, hsl, hj6, h1]) | (refine awp_cond ?_; simp [f0, f12, f76, fi, fn, hlt, hd, hsl, hj6, h1]; (try with_reducible refine ⟨?_, ?_⟩) <;> (try with_reducible intro hc) <;> try (exfalso; omega)) | ((first | (refine w_e [] ?_; intro J hJ; simp only []) | (refine w_q ?_; intro J hJ) | refine e_go ?_); simp [f0, f12, f76, fi, fn, hlt, hd, hsl, hj6, h1]; (repeat refine ca ?_); (try ((try with_reducible refine ⟨?_, ?_⟩) <;> (try with_reducible intro hnil) <;> refine hJ _ _ ?_ <;> clear hJ J <;> simp only [ak, reduceIte] <;> try subst hnil)))))
            exact hJO _ _ (by simp [fi]) (by simp [fn]) ⟨by simp [f0], by simp [f7], by simp [hrt, h1], by simp [f76]⟩
      · rintro fr s4 ⟨f0, f7, f12, f76⟩
        rw [List.take_length] at f12
        (repeat' (first | refine awp_seq ?_ | refine awp_block ?_ | ((first | refine awp_skip ?_ | refine awp_exit ?_); simp only [ak, reduceIte]) | (refine awp_ret ?_; simp only [ak, reduceIte]; simp [f7]) | (refine awp_cond ?_; simp [f7]; (try with_reducible refine ⟨?_, ?_⟩) <;> (try with_reducible intro hc) <;> try (exfalso; omega)) | ((first | (refine w_e [] ?_; intro J hJ; simp only []) | (refine w_q ?_; intro J hJ) | refine e_go ?_); simp [f7]; (repeat refine ca ?_); (try ((try with_reducible refine ⟨?_, ?_⟩) <;> (try with_reducible intro hnil) <;> refine hJ _ _ ?_ <;> clear hJ J <;> simp only [ak, reduceIte] <;> try subst hnil)))))
        refine callK_ofE (of_ s4 (layB l)) (by simp) ?_; rintro r3 s5 ⟨rfl, g⟩
        rw [g]; clear g s5
        (repeat' (first | refine awp_seq ?_ | refine awp_block ?_ | ((first | refine awp_skip ?_ | refine awp_exit ?_); simp only [ak, reduceIte]) | (refine awp_ret ?_; simp only [ak, reduceIte]; simp []) | (refine awp_cond ?_; simp []; (try with_reducible refine ⟨?_, ?_⟩) <;> (try with_reducible intro hc) <;> try (exfalso; omega)) | ((first | (refine w_e [] ?_; intro J hJ; simp only []) | (refine w_q ?_; intro J hJ) | refine e_go ?_); simp []; (repeat refine ca ?_); (try ((try with_reducible refine ⟨?_, ?_⟩) <;> (try with_reducible intro hnil) <;> refine hJ _ _ ?_ <;> clear hJ J <;> simp only [ak, reduceIte] <;> try subst hnil)))))
        refine callK_ofE (sTake _ s4.next (0, layB l) 60 (by omega) (by omega) (by simp) (by simp)) (by simp) ?_; rintro r4 s6 ⟨⟨t4, hr4⟩, hq4, hk4⟩
        cases hb : rightB l with
        | false =>
          rw [hb] at f12
          (repeat' (first | refine awp_seq ?_ | refine awp_block ?_ | ((first | refine awp_skip ?_ | refine awp_exit ?_); simp only [ak, reduceIte]) | (refine awp_ret ?_; simp only [ak, reduceIte]; simp [f0, f12]) | (refine awp_cond ?_; simp [f0, f12]; (try with_reducible refine ⟨?_, ?_⟩) <;> (try with_reducible intro hc) <;> try (exfalso; omega)) | ((first | (refine w_e [] ?_; intro J hJ; simp only []) | (refine w_q ?_; intro J hJ) | refine e_go ?_); simp [f0, f12]; (repeat refine ca ?_); (try ((try with_reducible refine ⟨?_, ?_⟩) <;> (try with_reducible intro hnil) <;> refine hJ _ _ ?_ <;> clear hJ J <;> simp only [ak, reduceIte] <;> try subst hnil)))))
        | true =>
          rw [hb] at f12
          have hT := takeF_lay l (by omega) hl (rightB_all hb)
          rw [hT] at hr4 hq4
          simp only [Option.getD_some] at hr4
          (repeat' (first | refine awp_seq ?_ | refine awp_block ?_ | ((first | refine awp_skip ?_ | refine awp_exit ?_); simp only [ak, reduceIte]) | (refine awp_ret ?_; simp only [ak, reduceIte]; simp [f0, f12]) | (refine awp_cond ?_; simp [f0, f12]; (try with_reducible refine ⟨?_, ?_⟩) <;> (try with_reducible intro hc) <;> try (exfalso; omega)) | ((first | (refine w_e [] ?_; intro J hJ; simp only []) | (refine w_q ?_; intro J hJ) | refine e_go ?_); simp [f0, f12]; (repeat refine ca ?_); (try ((try with_reducible refine ⟨?_, ?_⟩) <;> (try with_reducible intro hnil) <;> refine hJ _ _ ?_ <;> clear hJ J <;> simp only [ak, reduceIte] <;> try subst hnil)))))
          refine callK_ofE (rSame11 l t4 0 _ (by omega)) (by show [norm r4, _] = _; rw [hr4]; rfl) ?_; rintro r5 s7 ⟨rfl, g⟩
          rw [g]; clear g s7
          (repeat' (first | refine awp_seq ?_ | refine awp_block ?_ | ((first | refine awp_skip ?_ | refine awp_exit ?_); simp only [ak, reduceIte]) | (refine awp_ret ?_; simp only [ak, reduceIte]; simp []) | (refine awp_cond ?_; simp []; (try with_reducible refine ⟨?_, ?_⟩) <;> (try with_reducible intro hc) <;> try (exfalso; omega)) | ((first | (refine w_e [] ?_; intro J hJ; simp only []) | (refine w_q ?_; intro J hJ) | refine e_go ?_); simp []; (repeat refine ca ?_); (try ((try with_reducible refine ⟨?_, ?_⟩) <;> (try with_reducible intro hnil) <;> refine hJ _ _ ?_ <;> clear hJ J <;> simp only [ak, reduceIte] <;> try subst hnil)))))
          refine callK_ofE (end_ _ s4.next (0, []) hq4) (by simp) ?_; rintro r5 s7 ⟨rfl, g⟩
          rw [g]; clear g s7
          (repeat' (first | refine awp_seq ?_ | refine awp_block ?_ | ((first | refine awp_skip ?_ | refine awp_exit ?_); simp only [ak, reduceIte]) | (refine awp_ret ?_; simp only [ak, reduceIte]; simp [endF]) | (refine awp_cond ?_; simp [endF]; (try with_reducible refine ⟨?_, ?_⟩) <;> (try with_reducible intro hc) <;> try (exfalso; omega)) | ((first | (refine w_e [] ?_; intro J hJ; simp only []) | (refine w_q ?_; intro J hJ) | refine e_go ?_); simp [endF]; (repeat refine ca ?_); (try ((try with_reducible refine ⟨?_, ?_⟩) <;> (try with_reducible intro hnil) <;> refine hJ _ _ ?_ <;> clear hJ J <;> simp only [ak, reduceIte] <;> try subst hnil)))))
theorem shp_str {lvs : List LV} (h : Shp tab 9 lvs) : ∃ l : List UInt8, lvs = [sv l] := by
  cases h with
  | str b h1 h2 => exact ⟨b, rfl⟩
  | int n h1 h2 h3 => simp at h1; subst h1; cases h2
  | bool b h1 h2 => simp at h1; subst h1; cases h2
  | slice es h1 h2 _ _ => simp at h1; subst h1; cases h2
  | struct es h1 h2 _ _ => simp at h1; subst h1; cases h2
theorem shp_i {lvs : List LV} (h : Shp tab 3 lvs) : ∃ n, lvs = [i n] ∧ (-9223372036854775808 ≤ n ∧ n ≤ 9223372036854775807) := by
  obtain ⟨n, h1, h2⟩ := shp_int rfl rfl h
  refine ⟨n, h1, ?_⟩
  simp [Lit.wf, show IntKind.i64.min = -9223372036854775808 from rfl, show IntKind.i64.max = 9223372036854775807 from rfl] at h2
  exact h2
theorem shp_b {lvs : List LV} (h : Shp tab 5 lvs) : ∃ n, lvs = [.atom (.int .u8 n)] ∧ (0 ≤ n ∧ n < 256) := by
  obtain ⟨n, h1, h2⟩ := shp_int rfl rfl h
  refine ⟨n, h1, ?_⟩
  simp [Lit.wf, show IntKind.u8.min = 0 from rfl, show IntKind.u8.max = 255 from rfl] at h2
  omega
theorem shp_sq {lvs : List LV} (h : Shp tab 42 lvs) : ∃ s : Sq, lvs = sqL s ∧ s.ok := by
  obtain ⟨ps, rfl, h1, h2⟩ := shp_struct rfl rfl h
  match ps, h1 with
  | [p0, p1, p2, p3, p4, p5], _ =>
    obtain ⟨n0, rfl, k0⟩ := shp_i (h2 0 _ p0 rfl rfl)
    obtain ⟨n1, rfl, k1⟩ := shp_u (h2 1 _ p1 rfl rfl)
    obtain ⟨n2, rfl, k2⟩ := shp_u (h2 2 _ p2 rfl rfl)
    obtain ⟨n3, rfl, k3⟩ := shp_u (h2 3 _ p3 rfl rfl)
    obtain ⟨n4, rfl, k4⟩ := shp_u (h2 4 _ p4 rfl rfl)
    obtain ⟨n5, rfl, k5⟩ := shp_u (h2 5 _ p5 rfl rfl)
    exact ⟨⟨n0, n1, n2, n3, n4, n5⟩, rfl, k0, k1, k2, k3, k4, k5⟩
theorem shp_sqs {lvs : List LV} (h : Shp tab 22 lvs) : ∃ l : List Sq, lvs = [.sl 0 l.length (sqs l)] ∧ ∀ x ∈ l, x.ok := by
  obtain ⟨es, h1, h2, h3⟩ := shp_slice rfl rfl h
  have : ∃ l : List Sq, es = l.map sqL ∧ ∀ x ∈ l, x.ok := by
    clear h1 h2
    induction es with
    | nil => exact ⟨[], rfl, by simp⟩
    | cons x es ih =>
      obtain ⟨l, k1, k2⟩ := ih (fun y hy => h3 y (by simp [hy]))
      obtain ⟨n, k3, k4⟩ := shp_sq (h3 x (by simp))
      exact ⟨n :: l, by rw [k1, k3]; rfl, fun y hy => by rcases List.mem_cons.1 hy with rfl | hy; exact k4; exact k2 y hy⟩
  obtain ⟨l, rfl, k⟩ := this
  refine ⟨l, ?_, k⟩
  rw [h1, List.length_map, ← List.flatMap_def]
  rfl
theorem SketchBytes_shp (l0 l1 l2 : List LV) (st : St) (s0 : Shp tab 22 l0) (s1 : Shp tab 9 l1) (s2 : Shp tab 5 l2) :
    ACalls Tryz.prog 3 [argT tab 22 l0, argT tab 9 l1, argT tab 5 l2] st fun r st' => r = bb true := by
  obtain ⟨l, rfl, hl⟩ := shp_sqs s0
  obtain ⟨s, rfl⟩ := shp_str s1
  obtain ⟨m, rfl, hm⟩ := shp_b s2
  exact SketchBytes l s m st hl hm
end Go.Proofs.YtjkmgimedkomkaaGreat.Aw
