/- wire: numbers and counts taken off bytes. sketch: steps taken off bytes. sketch: rows of steps taken off bytes. The document's In, steps off bytes. The document's Take, Lay, Same. The document's Num, Lay, Same. Steps laid are taken again: plain. wire: the chapter's example, an In that is none. -/
import Derived.Test.YtjkmgimedkomkaaGreatJa
import Derived.Test.YtjkmgimedkomkaaGreatAwFn
namespace Go.Proofs.YtjkmgimedkomkaaGreat.Aw
open Go Go.RowKit
set_option linter.unusedSimpArgs false
set_option linter.unusedVariables false

abbrev inB (s : InS) : LObj := .box 75 2 [i s.1, sv s.2]
theorem stIn_self {st : St} {q : Nat} {s : InS} (h : st.H q = inB s) : stIn st q s = st := set_self h
theorem stIn_stIn (st : St) (q : Nat) (s s' : InS) : stIn (stIn st q s) q s' = stIn st q s' := st_set_set _ _ _ _
theorem nxF_len (n : Int) (s : InS) : (nxF n s).1.length ≤ n.toNat := by
  unfold nxF
  split
  · simp
  · split
    · simp
    · simp; omega
/-- A number of so many bytes. -/
def nmF (n : Int) (s : InS) : Int × InS := ((valF (nxF n s).1 : Nat), (nxF n s).2)
theorem nmF_nn (n : Int) (s : InS) : 0 ≤ (nmF n s).1 := Int.natCast_nonneg _
theorem nmF_lt (n : Int) (s : InS) : (nmF n s).1 < ((256 ^ n.toNat : Nat) : Int) := by
  have h1 := valF_lt (nxF n s).1
  have h2 : 256 ^ (nxF n s).1.length ≤ 256 ^ n.toNat := Nat.pow_le_pow_right (by decide) (nxF_len n s)
  show ((valF (nxF n s).1 : Nat) : Int) < _
  omega
theorem nmF4 (s : InS) : (nmF 4 s).1 < 4294967296 := by have := nmF_lt 4 s; simpa using this
theorem nmF1 (s : InS) : (nmF 1 s).1 < 256 := by have := nmF_lt 1 s; simpa using this
theorem byte_ (st : St) (q : Nat) (s : InS) (hq : st.H q = inB s) :
    ACalls Tryz.prog 23 [.pt q 0] st fun r st' => r = .atom (.int .u8 (nmF 1 s).1) ∧ st' = stIn st q (nmF 1 s).2 := by
  have h0 := nmF_nn 1 s
  have h1 := nmF1 s
  have hw : IntKind.u8.wrap (nmF 1 s).1 = (nmF 1 s).1 := by rw [wrapU8]; omega
  have hl := nxF_len 1 s
  have hn := next_ st q s 1
  rw [stIn_self hq] at hn
  refine acalls_of_body tabOk Tryz.func23 rfl rfl Tryz.ntmps23 (rs := [.tmp 2]) rfl (by simp) ?_
  (repeat' (first | refine awp_seq ?_ | refine awp_block ?_ | ((first | refine awp_skip ?_ | refine awp_exit ?_); simp only [ak, reduceIte]) | (refine awp_ret ?_; simp only [ak, reduceIte]; simp []) | (refine awp_cond ?_; simp []; (try with_reducible refine ⟨?_, ?_⟩) <;> (try with_reducible intro hc) <;> try (exfalso; omega)) | ((first | (refine w_e [] ?_; intro J hJ; simp only []) | (refine w_q ?_; intro J hJ) | refine e_go ?_); simp []; (repeat refine ca ?_); (try ((try with_reducible refine ⟨?_, ?_⟩) <;> (try with_reducible intro hnil) <;> refine hJ _ _ ?_ <;> clear hJ J <;> simp only [ak, reduceIte] <;> try subst hnil)))))
  refine callK_ofE hn (by simp) ?_; rintro r s1 ⟨rfl, g⟩
  rw [g]; clear g s1
  (repeat' (first | refine awp_seq ?_ | refine awp_block ?_ | ((first | refine awp_skip ?_ | refine awp_exit ?_); simp only [ak, reduceIte]) | (refine awp_ret ?_; simp only [ak, reduceIte]; simp []) | (refine awp_cond ?_; simp []; (try with_reducible refine ⟨?_, ?_⟩) <;> (try with_reducible intro hc) <;> try (exfalso; omega)) | ((first | (refine w_e [] ?_; intro J hJ; simp only []) | (refine w_q ?_; intro J hJ) | refine e_go ?_); simp []; (repeat refine ca ?_); (try ((try with_reducible refine ⟨?_, ?_⟩) <;> (try with_reducible intro hnil) <;> refine hJ _ _ ?_ <;> clear hJ J <;> simp only [ak, reduceIte] <;> try subst hnil)))))
  refine callK_ofE (value_ _ (nxF 1 s).1 (by omega)) (by simp) ?_; rintro r s1 ⟨rfl, g⟩
  rw [g]; clear g s1
  (repeat' (first | refine awp_seq ?_ | refine awp_block ?_ | ((first | refine awp_skip ?_ | refine awp_exit ?_); simp only [ak, reduceIte]) | (refine awp_ret ?_; simp only [ak, reduceIte]; simp []) | (refine awp_cond ?_; simp []; (try with_reducible refine ⟨?_, ?_⟩) <;> (try with_reducible intro hc) <;> try (exfalso; omega)) | ((first | (refine w_e [] ?_; intro J hJ; simp only []) | (refine w_q ?_; intro J hJ) | refine e_go ?_); simp []; (repeat refine ca ?_); (try ((try with_reducible refine ⟨?_, ?_⟩) <;> (try with_reducible intro hnil) <;> refine hJ _ _ ?_ <;> clear hJ J <;> simp only [ak, reduceIte] <;> try subst hnil)))))
  simp only [nmF] at hw ⊢
  simp [hw]
theorem four_ (st : St) (q : Nat) (s : InS) (hq : st.H q = inB s) :
    ACalls Tryz.prog 24 [.pt q 0] st fun r st' => r = u (nmF 4 s).1 ∧ st' = stIn st q (nmF 4 s).2 := by
  have h0 := nmF_nn 4 s
  have h1 := nmF4 s
  have hw : IntKind.u32.wrap (nmF 4 s).1 = (nmF 4 s).1 := by rw [IntKind.wrap_u32]; omega
  have hl := nxF_len 4 s
  have hn := next_ st q s 4
  rw [stIn_self hq] at hn
  refine acalls_of_body tabOk Tryz.func24 rfl rfl Tryz.ntmps24 (rs := [.tmp 2]) rfl (by simp) ?_
  (repeat' (first | refine awp_seq ?_ | refine awp_block ?_ | ((first | refine awp_skip ?_ | refine awp_exit ?_); simp only [ak, reduceIte]) | (refine awp_ret ?_; simp only [ak, reduceIte]; simp []) | (refine awp_cond ?_; simp []; (try with_reducible refine ⟨?_, ?_⟩) <;> (try with_reducible intro hc) <;> try (exfalso; omega)) | ((first | (refine w_e [] ?_; intro J hJ; simp only []) | (refine w_q ?_; intro J hJ) | refine e_go ?_); simp []; (repeat refine ca ?_); (try ((try with_reducible refine ⟨?_, ?_⟩) <;> (try with_reducible intro hnil) <;> refine hJ _ _ ?_ <;> clear hJ J <;> simp only [ak, reduceIte] <;> try subst hnil)))))
  refine callK_ofE hn (by simp) ?_; rintro r s1 ⟨rfl, g⟩
  rw [g]; clear g s1
  (repeat' (first | refine awp_seq ?_ | refine awp_block ?_ | ((first | refine awp_skip ?_ | refine awp_exit ?_); simp only [ak, reduceIte]) | (refine awp_ret ?_; simp only [ak, reduceIte]; simp []) | (refine awp_cond ?_; simp []; (try with_reducible refine ⟨?_, ?_⟩) <;> (try with_reducible intro hc) <;> try (exfalso; omega)) | ((first | (refine w_e [] ?_; intro J hJ; simp only []) | (refine w_q ?_; intro J hJ) | refine e_go ?_); simp []; (repeat refine ca ?_); (try ((try with_reducible refine ⟨?_, ?_⟩) <;> (try with_reducible intro hnil) <;> refine hJ _ _ ?_ <;> clear hJ J <;> simp only [ak, reduceIte] <;> try subst hnil)))))
  refine callK_ofE (value_ _ (nxF 4 s).1 (by omega)) (by simp) ?_; rintro r s1 ⟨rfl, g⟩
  rw [g]; clear g s1
  (repeat' (first | refine awp_seq ?_ | refine awp_block ?_ | ((first | refine awp_skip ?_ | refine awp_exit ?_); simp only [ak, reduceIte]) | (refine awp_ret ?_; simp only [ak, reduceIte]; simp []) | (refine awp_cond ?_; simp []; (try with_reducible refine ⟨?_, ?_⟩) <;> (try with_reducible intro hc) <;> try (exfalso; omega)) | ((first | (refine w_e [] ?_; intro J hJ; simp only []) | (refine w_q ?_; intro J hJ) | refine e_go ?_); simp []; (repeat refine ca ?_); (try ((try with_reducible refine ⟨?_, ?_⟩) <;> (try with_reducible intro hnil) <;> refine hJ _ _ ?_ <;> clear hJ J <;> simp only [ak, reduceIte] <;> try subst hnil)))))
  simp only [nmF] at hw ⊢
  simp [hw]
theorem fail_ (st : St) (q : Nat) (s : InS) (e : Int) (hq : st.H q = inB s) :
    ACalls Tryz.prog 21 [.pt q 0, i e] st fun r st' => r = .tu [] ∧ st' = stIn st q (flF e s) := by
  have hn := note_ st q s e
  rw [stIn_self hq] at hn
  refine acalls_of_body tabOk Tryz.func21 rfl rfl Tryz.ntmps21 (rs := []) rfl (by simp) ?_
  (repeat' (first | refine awp_seq ?_ | refine awp_block ?_ | ((first | refine awp_skip ?_ | refine awp_exit ?_); simp only [ak, reduceIte]) | (refine awp_ret ?_; simp only [ak, reduceIte]; simp []) | (refine awp_cond ?_; simp []; (try with_reducible refine ⟨?_, ?_⟩) <;> (try with_reducible intro hc) <;> try (exfalso; omega)) | ((first | (refine w_e [] ?_; intro J hJ; simp only []) | (refine w_q ?_; intro J hJ) | refine e_go ?_); simp []; (repeat refine ca ?_); (try ((try with_reducible refine ⟨?_, ?_⟩) <;> (try with_reducible intro hnil) <;> refine hJ _ _ ?_ <;> clear hJ J <;> simp only [ak, reduceIte] <;> try subst hnil)))))
  refine callK_ofE hn (by simp) ?_; rintro r s1 ⟨rfl, g⟩
  rw [g]; clear g s1
  (repeat' (first | refine awp_seq ?_ | refine awp_block ?_ | ((first | refine awp_skip ?_ | refine awp_exit ?_); simp only [ak, reduceIte]) | (refine awp_ret ?_; simp only [ak, reduceIte]; simp []) | (refine awp_cond ?_; simp []; (try with_reducible refine ⟨?_, ?_⟩) <;> (try with_reducible intro hc) <;> try (exfalso; omega)) | ((first | (refine w_e [] ?_; intro J hJ; simp only []) | (refine w_q ?_; intro J hJ) | refine e_go ?_); simp []; (repeat refine ca ?_); (try ((try with_reducible refine ⟨?_, ?_⟩) <;> (try with_reducible intro hnil) <;> refine hJ _ _ ?_ <;> clear hJ J <;> simp only [ak, reduceIte] <;> try subst hnil)))))
  exact ⟨trivial, rfl, rfl⟩
theorem err_ (st : St) (q : Nat) (s : InS) (hq : st.H q = inB s) :
    ACalls Tryz.prog 13 [.pt q 0] st fun r st' => r = i s.1 ∧ st' = st := by
  refine acalls_of_body tabOk Tryz.func13 rfl rfl Tryz.ntmps13 (rs := [.tmp 2]) rfl (by simp) ?_
  (repeat' (first | refine awp_seq ?_ | refine awp_block ?_ | ((first | refine awp_skip ?_ | refine awp_exit ?_); simp only [ak, reduceIte]) | (refine awp_ret ?_; simp only [ak, reduceIte]; simp [hq]) | (refine awp_cond ?_; simp [hq]; (try with_reducible refine ⟨?_, ?_⟩) <;> (try with_reducible intro hc) <;> try (exfalso; omega)) | ((first | (refine w_e [] ?_; intro J hJ; simp only []) | (refine w_q ?_; intro J hJ) | refine e_go ?_); simp [hq]; (repeat refine ca ?_); (try ((try with_reducible refine ⟨?_, ?_⟩) <;> (try with_reducible intro hnil) <;> refine hJ _ _ ?_ <;> clear hJ J <;> simp only [ak, reduceIte] <;> try subst hnil)))))
theorem left_ (st : St) (q : Nat) (s : InS) (hq : st.H q = inB s) :
    ACalls Tryz.prog 14 [.pt q 0] st fun r st' => r = i s.2.length ∧ st' = st := by
  refine acalls_of_body tabOk Tryz.func14 rfl rfl Tryz.ntmps14 (rs := [.tmp 2]) rfl (by simp) ?_
  (repeat' (first | refine awp_seq ?_ | refine awp_block ?_ | ((first | refine awp_skip ?_ | refine awp_exit ?_); simp only [ak, reduceIte]) | (refine awp_ret ?_; simp only [ak, reduceIte]; simp [hq]) | (refine awp_cond ?_; simp [hq]; (try with_reducible refine ⟨?_, ?_⟩) <;> (try with_reducible intro hc) <;> try (exfalso; omega)) | ((first | (refine w_e [] ?_; intro J hJ; simp only []) | (refine w_q ?_; intro J hJ) | refine e_go ?_); simp [hq]; (repeat refine ca ?_); (try ((try with_reducible refine ⟨?_, ?_⟩) <;> (try with_reducible intro hnil) <;> refine hJ _ _ ?_ <;> clear hJ J <;> simp only [ak, reduceIte] <;> try subst hnil)))))
def endF (s : InS) : Int := if s.1 ≠ 0 then s.1 else if 0 < s.2.length then 4 else 0
theorem end_ (st : St) (q : Nat) (s : InS) (hq : st.H q = inB s) :
    ACalls Tryz.prog 15 [.pt q 0] st fun r st' => r = i (endF s) ∧ st' = st := by
  unfold endF
  by_cases h : s.1 = 0
  · have hb : (s.1 != 0) = false := by simpa using h
    rw [if_neg (by simpa using h)]
    by_cases h2 : 0 < s.2.length
    · rw [if_pos h2]
      have h2' : (0 : Int) < s.2.length := by omega
      have hne : ¬ s.2 = [] := by intro h; rw [h] at h2; simp at h2
      refine acalls_of_body tabOk Tryz.func15 rfl rfl Tryz.ntmps15 (rs := [.tmp 2]) rfl (by simp) ?_
      (repeat' (first | refine awp_seq ?_ | refine awp_block ?_ | ((first | refine awp_skip ?_ | refine awp_exit ?_); simp only [ak, reduceIte]) | (refine awp_ret ?_; simp only [ak, reduceIte]; simp []) | (refine awp_cond ?_; simp []; (try with_reducible refine ⟨?_, ?_⟩) <;> (try with_reducible intro hc) <;> try (exfalso; omega)) | ((first | (refine w_e [] ?_; intro J hJ; simp only []) | (refine w_q ?_; intro J hJ) | refine e_go ?_); simp []; (repeat refine ca ?_); (try ((try with_reducible refine ⟨?_, ?_⟩) <;> (try with_reducible intro hnil) <;> refine hJ _ _ ?_ <;> clear hJ J <;> simp only [ak, reduceIte] <;> try subst hnil)))))
      refine callK_ofE (err_ st q s hq) (by simp) ?_; rintro r s1 ⟨rfl, g⟩
      rw [g]; clear g s1
      (repeat' (first | refine awp_seq ?_ | refine awp_block ?_ | ((first | refine awp_skip ?_ | refine awp_exit ?_); simp only [ak, reduceIte]) | (refine awp_ret ?_; simp only [ak, reduceIte]; simp [hb]) | (refine awp_cond ?_; simp [hb]; (try with_reducible refine ⟨?_, ?_⟩) <;> (try with_reducible intro hc) <;> try (exfalso; omega)) | ((first | (refine w_e [] ?_; intro J hJ; simp only []) | (refine w_q ?_; intro J hJ) | refine e_go ?_); simp [hb]; (repeat refine ca ?_); (try ((try with_reducible refine ⟨?_, ?_⟩) <;> (try with_reducible intro hnil) <;> refine hJ _ _ ?_ <;> clear hJ J <;> simp only [ak, reduceIte] <;> try subst hnil)))))
      refine callK_ofE (left_ st q s hq) (by simp) ?_; rintro r s1 ⟨rfl, g⟩
      rw [g]; clear g s1
      (repeat' (first | refine awp_seq ?_ | refine awp_block ?_ | ((first | refine awp_skip ?_ | refine awp_exit ?_); simp only [ak, reduceIte]) | (refine awp_ret ?_; simp only [ak, reduceIte]; simp [h2', hne]) | (refine awp_cond ?_; simp [h2', hne]; (try with_reducible refine ⟨?_, ?_⟩) <;> (try with_reducible intro hc) <;> try (exfalso; omega)) | ((first | (refine w_e [] ?_; intro J hJ; simp only []) | (refine w_q ?_; intro J hJ) | refine e_go ?_); simp [h2', hne]; (repeat refine ca ?_); (try ((try with_reducible refine ⟨?_, ?_⟩) <;> (try with_reducible intro hnil) <;> refine hJ _ _ ?_ <;> clear hJ J <;> simp only [ak, reduceIte] <;> try subst hnil)))))
    · rw [if_neg h2]
      have h2' : ¬ (0 : Int) < s.2.length := by omega
      refine acalls_of_body tabOk Tryz.func15 rfl rfl Tryz.ntmps15 (rs := [.tmp 2]) rfl (by simp) ?_
      (repeat' (first | refine awp_seq ?_ | refine awp_block ?_ | ((first | refine awp_skip ?_ | refine awp_exit ?_); simp only [ak, reduceIte]) | (refine awp_ret ?_; simp only [ak, reduceIte]; simp []) | (refine awp_cond ?_; simp []; (try with_reducible refine ⟨?_, ?_⟩) <;> (try with_reducible intro hc) <;> try (exfalso; omega)) | ((first | (refine w_e [] ?_; intro J hJ; simp only []) | (refine w_q ?_; intro J hJ) | refine e_go ?_); simp []; (repeat refine ca ?_); (try ((try with_reducible refine ⟨?_, ?_⟩) <;> (try with_reducible intro hnil) <;> refine hJ _ _ ?_ <;> clear hJ J <;> simp only [ak, reduceIte] <;> try subst hnil)))))
      refine callK_ofE (err_ st q s hq) (by simp) ?_; rintro r s1 ⟨rfl, g⟩
      rw [g]; clear g s1
      (repeat' (first | refine awp_seq ?_ | refine awp_block ?_ | ((first | refine awp_skip ?_ | refine awp_exit ?_); simp only [ak, reduceIte]) | (refine awp_ret ?_; simp only [ak, reduceIte]; simp [hb]) | (refine awp_cond ?_; simp [hb]; (try with_reducible refine ⟨?_, ?_⟩) <;> (try with_reducible intro hc) <;> try (exfalso; omega)) | ((first | (refine w_e [] ?_; intro J hJ; simp only []) | (refine w_q ?_; intro J hJ) | refine e_go ?_); simp [hb]; (repeat refine ca ?_); (try ((try with_reducible refine ⟨?_, ?_⟩) <;> (try with_reducible intro hnil) <;> refine hJ _ _ ?_ <;> clear hJ J <;> simp only [ak, reduceIte] <;> try subst hnil)))))
      refine callK_ofE (left_ st q s hq) (by simp) ?_; rintro r s1 ⟨rfl, g⟩
      rw [g]; clear g s1
      (repeat' (first | refine awp_seq ?_ | refine awp_block ?_ | ((first | refine awp_skip ?_ | refine awp_exit ?_); simp only [ak, reduceIte]) | (refine awp_ret ?_; simp only [ak, reduceIte]; simp [h2']) | (refine awp_cond ?_; simp [h2']; (try with_reducible refine ⟨?_, ?_⟩) <;> (try with_reducible intro hc) <;> try (exfalso; omega)) | ((first | (refine w_e [] ?_; intro J hJ; simp only []) | (refine w_q ?_; intro J hJ) | refine e_go ?_); simp [h2']; (repeat refine ca ?_); (try ((try with_reducible refine ⟨?_, ?_⟩) <;> (try with_reducible intro hnil) <;> refine hJ _ _ ?_ <;> clear hJ J <;> simp only [ak, reduceIte] <;> try subst hnil)))))
  · have hb : (s.1 != 0) = true := by simpa using h
    rw [if_pos (by simpa using h)]
    refine acalls_of_body tabOk Tryz.func15 rfl rfl Tryz.ntmps15 (rs := [.tmp 2]) rfl (by simp) ?_
    (repeat' (first | refine awp_seq ?_ | refine awp_block ?_ | ((first | refine awp_skip ?_ | refine awp_exit ?_); simp only [ak, reduceIte]) | (refine awp_ret ?_; simp only [ak, reduceIte]; simp []) | (refine awp_cond ?_; simp []; (try with_reducible refine ⟨?_, ?_⟩) <;> (try with_reducible intro hc) <;> try (exfalso; omega)) | ((first | (refine w_e [] ?_; intro J hJ; simp only []) | (refine w_q ?_; intro J hJ) | refine e_go ?_); simp []; (repeat refine ca ?_); (try ((try with_reducible refine ⟨?_, ?_⟩) <;> (try with_reducible intro hnil) <;> refine hJ _ _ ?_ <;> clear hJ J <;> simp only [ak, reduceIte] <;> try subst hnil)))))
    refine callK_ofE (err_ st q s hq) (by simp) ?_; rintro r s1 ⟨rfl, g⟩
    rw [g]; clear g s1
    (repeat' (first | refine awp_seq ?_ | refine awp_block ?_ | ((first | refine awp_skip ?_ | refine awp_exit ?_); simp only [ak, reduceIte]) | (refine awp_ret ?_; simp only [ak, reduceIte]; simp [hb]) | (refine awp_cond ?_; simp [hb]; (try with_reducible refine ⟨?_, ?_⟩) <;> (try with_reducible intro hc) <;> try (exfalso; omega)) | ((first | (refine w_e [] ?_; intro J hJ; simp only []) | (refine w_q ?_; intro J hJ) | refine e_go ?_); simp [hb]; (repeat refine ca ?_); (try ((try with_reducible refine ⟨?_, ?_⟩) <;> (try with_reducible intro hnil) <;> refine hJ _ _ ?_ <;> clear hJ J <;> simp only [ak, reduceIte] <;> try subst hnil)))))
/-- A count, at most so much. -/
def cntF (most e : Int) (s : InS) : Int × InS := if most < (nmF 4 s).1 then (0, flF e (nmF 4 s).2) else nmF 4 s
theorem bounded_ (st : St) (q : Nat) (s : InS) (most e : Int) (h0 : 0 ≤ most) (hm : most ≤ 1000000) (hq : st.H q = inB s) :
    ACalls Tryz.prog 49 [.pt q 0, i most, i e] st fun r st' => r = i (cntF most e s).1 ∧ st' = stIn st q (cntF most e s).2 := by
  have n0 := nmF_nn 4 s
  have n1 := nmF4 s
  unfold cntF
  have e1 : ¬ most < 0 := by omega
  have w1 : IntKind.u64.wrap (nmF 4 s).1 = (nmF 4 s).1 := by rw [IntKind.wrap_u64]; omega
  have w2 : IntKind.u64.wrap most = most := by rw [IntKind.wrap_u64]; omega
  have w3 : IntKind.i64.wrap (nmF 4 s).1 = (nmF 4 s).1 := by rw [IntKind.wrap_i64]; omega
  by_cases h : most < (nmF 4 s).1
  · rw [if_pos h]
    refine acalls_of_body tabOk Tryz.func49 rfl rfl Tryz.ntmps49 (rs := [.tmp 6]) rfl (by simp) ?_
    (repeat' (first | refine awp_seq ?_ | refine awp_block ?_ | ((first | refine awp_skip ?_ | refine awp_exit ?_); simp only [ak, reduceIte]) | (refine awp_ret ?_; simp only [ak, reduceIte]; simp []) | (refine awp_cond ?_; simp []; (try with_reducible refine ⟨?_, ?_⟩) <;> (try with_reducible intro hc) <;> try (exfalso; omega)) | ((first | (refine w_e [] ?_; intro J hJ; simp only []) | (refine w_q ?_; intro J hJ) | refine e_go ?_); simp []; (repeat refine ca ?_); (try ((try with_reducible refine ⟨?_, ?_⟩) <;> (try with_reducible intro hnil) <;> refine hJ _ _ ?_ <;> clear hJ J <;> simp only [ak, reduceIte] <;> try subst hnil)))))
    refine callK_ofE (four_ st q s hq) (by simp) ?_; rintro r s1 ⟨rfl, g⟩
    rw [g]; clear g s1
    (repeat' (first | refine awp_seq ?_ | refine awp_block ?_ | ((first | refine awp_skip ?_ | refine awp_exit ?_); simp only [ak, reduceIte]) | (refine awp_ret ?_; simp only [ak, reduceIte]; simp [e1, w1, w2, h]) | (refine awp_cond ?_; simp [e1, w1, w2, h]; (try with_reducible refine ⟨?_, ?_⟩) <;> (try with_reducible intro hc) <;> try (exfalso; omega)) | ((first | (refine w_e [] ?_; intro J hJ; simp only []) | (refine w_q ?_; intro J hJ) | refine e_go ?_); simp [e1, w1, w2, h]; (repeat refine ca ?_); (try ((try with_reducible refine ⟨?_, ?_⟩) <;> (try with_reducible intro hnil) <;> refine hJ _ _ ?_ <;> clear hJ J <;> simp only [ak, reduceIte] <;> try subst hnil)))))
    refine callK_ofE (fail_ _ q (nmF 4 s).2 e (stIn_H _ _ _)) (by simp) ?_; rintro r s1 ⟨rfl, g⟩
    rw [g]; clear g s1
    (repeat' (first | refine awp_seq ?_ | refine awp_block ?_ | ((first | refine awp_skip ?_ | refine awp_exit ?_); simp only [ak, reduceIte]) | (refine awp_ret ?_; simp only [ak, reduceIte]; simp []) | (refine awp_cond ?_; simp []; (try with_reducible refine ⟨?_, ?_⟩) <;> (try with_reducible intro hc) <;> try (exfalso; omega)) | ((first | (refine w_e [] ?_; intro J hJ; simp only []) | (refine w_q ?_; intro J hJ) | refine e_go ?_); simp []; (repeat refine ca ?_); (try ((try with_reducible refine ⟨?_, ?_⟩) <;> (try with_reducible intro hnil) <;> refine hJ _ _ ?_ <;> clear hJ J <;> simp only [ak, reduceIte] <;> try subst hnil)))))
    exact stIn_stIn _ _ _ _
  · rw [if_neg h]
    refine acalls_of_body tabOk Tryz.func49 rfl rfl Tryz.ntmps49 (rs := [.tmp 6]) rfl (by simp) ?_
    (repeat' (first | refine awp_seq ?_ | refine awp_block ?_ | ((first | refine awp_skip ?_ | refine awp_exit ?_); simp only [ak, reduceIte]) | (refine awp_ret ?_; simp only [ak, reduceIte]; simp []) | (refine awp_cond ?_; simp []; (try with_reducible refine ⟨?_, ?_⟩) <;> (try with_reducible intro hc) <;> try (exfalso; omega)) | ((first | (refine w_e [] ?_; intro J hJ; simp only []) | (refine w_q ?_; intro J hJ) | refine e_go ?_); simp []; (repeat refine ca ?_); (try ((try with_reducible refine ⟨?_, ?_⟩) <;> (try with_reducible intro hnil) <;> refine hJ _ _ ?_ <;> clear hJ J <;> simp only [ak, reduceIte] <;> try subst hnil)))))
    refine callK_ofE (four_ st q s hq) (by simp) ?_; rintro r s1 ⟨rfl, g⟩
    rw [g]; clear g s1
    (repeat' (first | refine awp_seq ?_ | refine awp_block ?_ | ((first | refine awp_skip ?_ | refine awp_exit ?_); simp only [ak, reduceIte]) | (refine awp_ret ?_; simp only [ak, reduceIte]; simp [e1, w1, w2, w3, h]) | (refine awp_cond ?_; simp [e1, w1, w2, w3, h]; (try with_reducible refine ⟨?_, ?_⟩) <;> (try with_reducible intro hc) <;> try (exfalso; omega)) | ((first | (refine w_e [] ?_; intro J hJ; simp only []) | (refine w_q ?_; intro J hJ) | refine e_go ?_); simp [e1, w1, w2, w3, h]; (repeat refine ca ?_); (try ((try with_reducible refine ⟨?_, ?_⟩) <;> (try with_reducible intro hnil) <;> refine hJ _ _ ?_ <;> clear hJ J <;> simp only [ak, reduceIte] <;> try subst hnil)))))
theorem count_ (st : St) (q : Nat) (s : InS) (most : Int) (h0 : 0 ≤ most) (hm : most ≤ 1000000) (hq : st.H q = inB s) :
    ACalls Tryz.prog 28 [.pt q 0, i most] st fun r st' => r = i (cntF most 6 s).1 ∧ st' = stIn st q (cntF most 6 s).2 := by
  refine acalls_of_body tabOk Tryz.func28 rfl rfl Tryz.ntmps28 (rs := [.tmp 4]) rfl (by simp) ?_
  (repeat' (first | refine awp_seq ?_ | refine awp_block ?_ | ((first | refine awp_skip ?_ | refine awp_exit ?_); simp only [ak, reduceIte]) | (refine awp_ret ?_; simp only [ak, reduceIte]; simp []) | (refine awp_cond ?_; simp []; (try with_reducible refine ⟨?_, ?_⟩) <;> (try with_reducible intro hc) <;> try (exfalso; omega)) | ((first | (refine w_e [] ?_; intro J hJ; simp only []) | (refine w_q ?_; intro J hJ) | refine e_go ?_); simp []; (repeat refine ca ?_); (try ((try with_reducible refine ⟨?_, ?_⟩) <;> (try with_reducible intro hnil) <;> refine hJ _ _ ?_ <;> clear hJ J <;> simp only [ak, reduceIte] <;> try subst hnil)))))
  refine callK_ofE (bounded_ st q s most 6 h0 hm hq) (by simp) ?_; rintro r s1 ⟨rfl, g⟩
  rw [g]; clear g s1
  (repeat' (first | refine awp_seq ?_ | refine awp_block ?_ | ((first | refine awp_skip ?_ | refine awp_exit ?_); simp only [ak, reduceIte]) | (refine awp_ret ?_; simp only [ak, reduceIte]; simp []) | (refine awp_cond ?_; simp []; (try with_reducible refine ⟨?_, ?_⟩) <;> (try with_reducible intro hc) <;> try (exfalso; omega)) | ((first | (refine w_e [] ?_; intro J hJ; simp only []) | (refine w_q ?_; intro J hJ) | refine e_go ?_); simp []; (repeat refine ca ?_); (try ((try with_reducible refine ⟨?_, ?_⟩) <;> (try with_reducible intro hnil) <;> refine hJ _ _ ?_ <;> clear hJ J <;> simp only [ak, reduceIte] <;> try subst hnil)))))
theorem of_ (st : St) (l : List UInt8) :
    ACalls Tryz.prog 8 [sv l] st fun r st' => r = .pt st.next 0 ∧ st' = st.new (inB (0, l)) := by
  refine acalls_of_body tabOk Tryz.func8 rfl rfl Tryz.ntmps8 (rs := [.tmp 2]) rfl (by simp) ?_
  (repeat' (first | refine awp_seq ?_ | refine awp_block ?_ | ((first | refine awp_skip ?_ | refine awp_exit ?_); simp only [ak, reduceIte]) | (refine awp_ret ?_; simp only [ak, reduceIte]; simp []) | (refine awp_cond ?_; simp []; (try with_reducible refine ⟨?_, ?_⟩) <;> (try with_reducible intro hc) <;> try (exfalso; omega)) | ((first | (refine w_e [] ?_; intro J hJ; simp only []) | (refine w_q ?_; intro J hJ) | refine e_go ?_); simp []; (repeat refine ca ?_); (try ((try with_reducible refine ⟨?_, ?_⟩) <;> (try with_reducible intro hnil) <;> refine hJ _ _ ?_ <;> clear hJ J <;> simp only [ak, reduceIte] <;> try subst hnil)))))
end Go.Proofs.YtjkmgimedkomkaaGreat.Aw

namespace Go.Proofs.YtjkmgimedkomkaaGreat.Aw
open Go Go.RowKit
set_option linter.unusedSimpArgs false
set_option linter.unusedVariables false

/-- All but one place is as it was. -/
structure KQ (q : Nat) (a b : St) : Prop where
  next : a.next ≤ b.next
  H : ∀ l, l < a.next → l ≠ q → b.H l = a.H l
theorem KQ.refl (q : Nat) (a : St) : KQ q a a := ⟨Nat.le_refl _, fun _ _ _ => rfl⟩
theorem KQ.new {q : Nat} {a b : St} (h : KQ q a b) (o : LObj) : KQ q a (b.new o) := ⟨by have := h.next; simp; omega, fun l hl hq => by rw [new_H, if_neg (by have := h.next; omega)]; exact h.H l hl hq⟩
theorem KQ.set {q : Nat} {a b : St} (h : KQ q a b) {l : Nat} (hl : a.next ≤ l ∨ l = q) (o : LObj) : KQ q a (b.set l o) := ⟨h.next, fun k hk hq => by rw [set_H, if_neg (by omega)]; exact h.H k hk hq⟩
theorem KQ.stIn {q : Nat} {a b : St} (h : KQ q a b) (s : InS) : KQ q a (stIn b q s) := h.set (.inr rfl) _
theorem KQ.keeps {q : Nat} {a b c : St} (h : KQ q a b) (k : Keeps b c) : KQ q a c := ⟨Nat.le_trans h.next k.next, fun l hl hq => (k.H l (Nat.lt_of_lt_of_le hl h.next)).trans (h.H l hl hq)⟩
theorem KQ.trans {q : Nat} {a b c : St} (h : KQ q a b) (k : KQ q b c) : KQ q a c := ⟨Nat.le_trans h.next k.next, fun l hl hq => (k.H l (Nat.lt_of_lt_of_le hl h.next) hq).trans (h.H l hl hq)⟩
theorem stIn_next (st : St) (q : Nat) (s : InS) : (stIn st q s).next = st.next := rfl
theorem stIn_at (st : St) (q l : Nat) (s : InS) : (stIn st q s).H l = if l = q then inB s else st.H l := rfl
def rdF : Nat → InS → List Int × InS
  | 0, s => ([], s)
  | j + 1, s => ((rdF j s).1 ++ [(nmF 4 (rdF j s).2).1], (nmF 4 (rdF j s).2).2)
/-- A step. -/
def tkF (s : InS) : Sq × InS :=
  (⟨(nmF 1 s).1, (rdF 5 (nmF 1 s).2).1.getD 0 0, (rdF 5 (nmF 1 s).2).1.getD 1 0, (rdF 5 (nmF 1 s).2).1.getD 2 0, (rdF 5 (nmF 1 s).2).1.getD 3 0, (rdF 5 (nmF 1 s).2).1.getD 4 0⟩,
    if (nmF 1 s).1 < 1 ∨ 4 < (nmF 1 s).1 then flF 11 (rdF 5 (nmF 1 s).2).2 else (rdF 5 (nmF 1 s).2).2)
abbrev z6 : LObj := .box 42 6 [i 0, u 0, u 0, u 0, u 0, u 0]
set_option maxHeartbeats 2000000 in
theorem take_ (st : St) (q : Nat) (s : InS) (hq : st.H q = inB s) (hl : q < st.next) :
    ACalls Tryz.prog 35 [.pt q 0] st fun r st' => r = .ag (sqL (tkF s).1) ∧ st'.H q = inB (tkF s).2 ∧ KQ q st st' := by
  have k0 := nmF_nn 1 s
  have k1 := nmF1 s
  have hw : IntKind.i64.wrap (nmF 1 s).1 = (nmF 1 s).1 := by rw [IntKind.wrap_i64]; omega
  have y0 : ¬ q = st.next := by omega
  have y1 : ¬ q = st.next + 1 := by omega
  have x0 : ¬ st.next = q := by omega
  have x1 : ¬ st.next + 1 = q := by omega
  have hq0 : (st.new z6).H q = inB s := by rw [new_H, if_neg y0]; exact hq
  unfold tkF
  have hrd : ∀ S : InS, ∃ a b c d e S', rdF 5 S = ([a, b, c, d, e], S') := fun S => ⟨_, _, _, _, _, _, rfl⟩
  generalize hk : nmF 1 s = kk at *
  obtain ⟨k, S0⟩ := kk
  simp only at k0 k1 hw ⊢
  refine acalls_of_body tabOk Tryz.func35 rfl rfl Tryz.ntmps35 (rs := [.cell 2 42]) rfl (by simp) ?_
  (repeat' (first | refine awp_seq ?_ | refine awp_block ?_ | ((first | refine awp_skip ?_ | refine awp_exit ?_); simp only [ak, reduceIte]) | (refine awp_ret ?_; simp only [ak, reduceIte]; simp []) | (refine awp_cond ?_; simp []; (try with_reducible refine ⟨?_, ?_⟩) <;> (try with_reducible intro hc) <;> try (exfalso; omega)) | ((first | (refine w_e [] ?_; intro J hJ; simp only []) | (refine w_q ?_; intro J hJ) | refine e_go ?_); simp []; (repeat refine ca ?_); (try ((try with_reducible refine ⟨?_, ?_⟩) <;> (try with_reducible intro hnil) <;> refine hJ _ _ ?_ <;> clear hJ J <;> simp only [ak, reduceIte] <;> try subst hnil)))))
  have hB := byte_ (st.new z6) q s hq0
  rw [hk] at hB
  refine callK_ofE hB (by simp) ?_; rintro r s1 ⟨rfl, g⟩
  rw [g]; clear g s1
  (repeat' (first | refine awp_seq ?_ | refine awp_block ?_ | ((first | refine awp_skip ?_ | refine awp_exit ?_); simp only [ak, reduceIte]) | (refine awp_ret ?_; simp only [ak, reduceIte]; simp [hw, stIn_next, stIn_at, x0, x1]) | (refine awp_cond ?_; simp [hw, stIn_next, stIn_at, x0, x1]; (try with_reducible refine ⟨?_, ?_⟩) <;> (try with_reducible intro hc) <;> try (exfalso; omega)) | ((first | (refine w_e [] ?_; intro J hJ; simp only []) | (refine w_q ?_; intro J hJ) | refine e_go ?_); simp [hw, stIn_next, stIn_at, x0, x1]; (repeat refine ca ?_); (try ((try with_reducible refine ⟨?_, ?_⟩) <;> (try with_reducible intro hnil) <;> refine hJ _ _ ?_ <;> clear hJ J <;> simp only [ak, reduceIte] <;> try subst hnil)))))
  have n0 : ¬ st.next = st.next + 1 := by omega
  have n1 : ¬ st.next = st.next + 1 + 1 := by omega
  have n2 : ¬ st.next + 1 = st.next + 1 + 1 := by omega
  have y2 : ¬ q = st.next + 1 + 1 := by omega
  refine awp_range 18 17 19 27 (5) (fun j fr st2 => fr 0 = .pt q 0 ∧ fr 2 = .pt st.next 0 ∧ fr 3 = .fn (.func 24) [] ∧ fr 4 = .pt (st.next + 1) 0 ∧ fr 16 = .sl (st.next + 1 + 1) 5 [.pt (st.next + 1) 1, .pt (st.next + 1) 2, .pt (st.next + 1) 3, .pt (st.next + 1) 4, .pt (st.next + 1) 5] ∧ st2.H q = inB (rdF j S0).2 ∧ st2.H (st.next + 1) = .box 42 6 (i k :: us (rdF j S0).1 ++ List.replicate (5 - j) (u 0)) ∧ st2.H st.next = z6 ∧ st.next + 1 < st2.next ∧ KQ q st st2) ?_ ?_ ?_
  · exact ⟨by simp, by simp, by simp, by simp, by simp, by simp [stIn_at, stIn_next, y0, y1, y2, rdF], by simp [stIn_next, n2, rdF], by simp [stIn_next, n0, n1, stIn_at, x0], by simp [stIn_next], ((((((KQ.refl q st).new _).stIn _).new _).set (by omega) _).new _)⟩
  · rintro j fr s2 hlt ⟨f0, f2, f3, f4, f16, hq2, hb2, hz2, hn2, hk2⟩ fi fn JO hJO
    have hF := four_ s2 q (rdF j S0).2 hq2
    have hj : j = 0 ∨ j = 1 ∨ j = 2 ∨ j = 3 ∨ j = 4 := by omega
    rcases hj with rfl | rfl | rfl | rfl | rfl <;> (
      (repeat' (first | refine awp_seq ?_ | refine awp_block ?_ | ((first | refine awp_skip ?_ | refine awp_exit ?_); simp only [ak, reduceIte]) | (refine awp_ret ?_; simp only [ak, reduceIte]; simp [f3, f16, f0, fi, fn]) | (refine awp_cond ?_; simp [f3, f16, f0, fi, fn]; (try with_reducible refine ⟨?_, ?_⟩) <;> (try with_reducible intro hc) <;> try (exfalso; omega)) | ((first | (refine w_e [] ?_; intro J hJ; simp only []) | (refine w_q ?_; intro J hJ) | refine e_go ?_); simp [f3, f16, f0, fi, fn]; (repeat refine ca ?_); (try ((try with_reducible refine ⟨?_, ?_⟩) <;> (try with_reducible intro hnil) <;> refine hJ _ _ ?_ <;> clear hJ J <;> simp only [ak, reduceIte] <;> try subst hnil)))))
      refine callK_ofE hF (by simp) ?_; rintro r s1 ⟨rfl, g⟩
      rw [g]; clear g s1
      simp only [rdF, List.nil_append, List.cons_append, us, List.map_cons, List.map_nil, List.append_nil] at hb2
      (repeat' (first | refine awp_seq ?_ | refine awp_block ?_ | ((first | refine awp_skip ?_ | refine awp_exit ?_); simp only [ak, reduceIte]) | (refine awp_ret ?_; simp only [ak, reduceIte]; simp [stIn_next, stIn_at, x0, x1, hb2]) | (refine awp_cond ?_; simp [stIn_next, stIn_at, x0, x1, hb2]; (try with_reducible refine ⟨?_, ?_⟩) <;> (try with_reducible intro hc) <;> try (exfalso; omega)) | ((first | (refine w_e [] ?_; intro J hJ; simp only []) | (refine w_q ?_; intro J hJ) | refine e_go ?_); simp [stIn_next, stIn_at, x0, x1, hb2]; (repeat refine ca ?_); (try ((try with_reducible refine ⟨?_, ?_⟩) <;> (try with_reducible intro hnil) <;> refine hJ _ _ ?_ <;> clear hJ J <;> simp only [ak, reduceIte] <;> try subst hnil)))))
      exact hJO _ _ (by simp [fi]) (by simp [fn]) ⟨by simp [f0], by simp [f2], by simp [f3], by simp [f4], by simp [f16], by simp [stIn_at, y1, rdF], by simp [rdF], by simp [n0, stIn_at, x0, hz2], by simp [stIn_next]; omega, (hk2.stIn _).set (by omega) _⟩)
  · rintro fr s2 ⟨f0, f2, f3, f4, f16, hq2, hb2, hz2, hn2, hk2⟩
    obtain ⟨a, b, c, d, e, S', hr⟩ := hrd S0
    rw [hr] at hq2 hb2 ⊢
    simp only [us, List.map_cons, List.map_nil, Nat.sub_self, List.replicate_zero, List.append_nil] at hb2
    simp only [List.getD_cons_zero, List.getD_cons_succ] at ⊢
    by_cases h1 : k < 1
    · rw [if_pos (.inl h1)]
      (repeat' (first | refine awp_seq ?_ | refine awp_block ?_ | ((first | refine awp_skip ?_ | refine awp_exit ?_); simp only [ak, reduceIte]) | (refine awp_ret ?_; simp only [ak, reduceIte]; simp [f4, hb2, h1, f0]) | (refine awp_cond ?_; simp [f4, hb2, h1, f0]; (try with_reducible refine ⟨?_, ?_⟩) <;> (try with_reducible intro hc) <;> try (exfalso; omega)) | ((first | (refine w_e [] ?_; intro J hJ; simp only []) | (refine w_q ?_; intro J hJ) | refine e_go ?_); simp [f4, hb2, h1, f0]; (repeat refine ca ?_); (try ((try with_reducible refine ⟨?_, ?_⟩) <;> (try with_reducible intro hnil) <;> refine hJ _ _ ?_ <;> clear hJ J <;> simp only [ak, reduceIte] <;> try subst hnil)))))
      refine callK_ofE (fail_ s2 q S' 11 hq2) (by simp) ?_; rintro r s1 ⟨rfl, g⟩
      rw [g]; clear g s1
      (repeat' (first | refine awp_seq ?_ | refine awp_block ?_ | ((first | refine awp_skip ?_ | refine awp_exit ?_); simp only [ak, reduceIte]) | (refine awp_ret ?_; simp only [ak, reduceIte]; simp [f4, f2, hb2, hz2, stIn_at, stIn_next, x0, x1, n0]) | (refine awp_cond ?_; simp [f4, f2, hb2, hz2, stIn_at, stIn_next, x0, x1, n0]; (try with_reducible refine ⟨?_, ?_⟩) <;> (try with_reducible intro hc) <;> try (exfalso; omega)) | ((first | (refine w_e [] ?_; intro J hJ; simp only []) | (refine w_q ?_; intro J hJ) | refine e_go ?_); simp [f4, f2, hb2, hz2, stIn_at, stIn_next, x0, x1, n0]; (repeat refine ca ?_); (try ((try with_reducible refine ⟨?_, ?_⟩) <;> (try with_reducible intro hnil) <;> refine hJ _ _ ?_ <;> clear hJ J <;> simp only [ak, reduceIte] <;> try subst hnil)))))
      exact ⟨rfl, y0, (hk2.stIn _).set (by omega) _⟩
    · by_cases h2 : 4 < k
      · rw [if_pos (.inr h2)]
        (repeat' (first | refine awp_seq ?_ | refine awp_block ?_ | ((first | refine awp_skip ?_ | refine awp_exit ?_); simp only [ak, reduceIte]) | (refine awp_ret ?_; simp only [ak, reduceIte]; simp [f4, hb2, h1, h2, f0]) | (refine awp_cond ?_; simp [f4, hb2, h1, h2, f0]; (try with_reducible refine ⟨?_, ?_⟩) <;> (try with_reducible intro hc) <;> try (exfalso; omega)) | ((first | (refine w_e [] ?_; intro J hJ; simp only []) | (refine w_q ?_; intro J hJ) | refine e_go ?_); simp [f4, hb2, h1, h2, f0]; (repeat refine ca ?_); (try ((try with_reducible refine ⟨?_, ?_⟩) <;> (try with_reducible intro hnil) <;> refine hJ _ _ ?_ <;> clear hJ J <;> simp only [ak, reduceIte] <;> try subst hnil)))))
        refine callK_ofE (fail_ s2 q S' 11 hq2) (by simp) ?_; rintro r s1 ⟨rfl, g⟩
        rw [g]; clear g s1
        (repeat' (first | refine awp_seq ?_ | refine awp_block ?_ | ((first | refine awp_skip ?_ | refine awp_exit ?_); simp only [ak, reduceIte]) | (refine awp_ret ?_; simp only [ak, reduceIte]; simp [f4, f2, hb2, hz2, stIn_at, stIn_next, x0, x1, n0]) | (refine awp_cond ?_; simp [f4, f2, hb2, hz2, stIn_at, stIn_next, x0, x1, n0]; (try with_reducible refine ⟨?_, ?_⟩) <;> (try with_reducible intro hc) <;> try (exfalso; omega)) | ((first | (refine w_e [] ?_; intro J hJ; simp only []) | (refine w_q ?_; intro J hJ) | refine e_go ?_); simp [f4, f2, hb2, hz2, stIn_at, stIn_next, x0, x1, n0]; (repeat refine ca ?_); (try ((try with_reducible refine ⟨?_, ?_⟩) <;> (try with_reducible intro hnil) <;> refine hJ _ _ ?_ <;> clear hJ J <;> simp only [ak, reduceIte] <;> try subst hnil)))))
        exact ⟨rfl, y0, (hk2.stIn _).set (by omega) _⟩
      · rw [if_neg (by omega)]
        (repeat' (first | refine awp_seq ?_ | refine awp_block ?_ | ((first | refine awp_skip ?_ | refine awp_exit ?_); simp only [ak, reduceIte]) | (refine awp_ret ?_; simp only [ak, reduceIte]; simp [f4, hb2, h1, h2, f0, f2, hz2, n0]) | (refine awp_cond ?_; simp [f4, hb2, h1, h2, f0, f2, hz2, n0]; (try with_reducible refine ⟨?_, ?_⟩) <;> (try with_reducible intro hc) <;> try (exfalso; omega)) | ((first | (refine w_e [] ?_; intro J hJ; simp only []) | (refine w_q ?_; intro J hJ) | refine e_go ?_); simp [f4, hb2, h1, h2, f0, f2, hz2, n0]; (repeat refine ca ?_); (try ((try with_reducible refine ⟨?_, ?_⟩) <;> (try with_reducible intro hnil) <;> refine hJ _ _ ?_ <;> clear hJ J <;> simp only [ak, reduceIte] <;> try subst hnil)))))
        exact ⟨rfl, by rw [if_neg y0]; exact hq2, hk2.set (by omega) _⟩
end Go.Proofs.YtjkmgimedkomkaaGreat.Aw

namespace Go.Proofs.YtjkmgimedkomkaaGreat.Aw
open Go Go.RowKit
set_option linter.unusedSimpArgs false
set_option linter.unusedVariables false

/-- So many steps, till one can't be taken. -/
def rowsF : Nat → InS → List Sq → Option (List Sq) × InS
  | 0, s, acc => (some acc, s)
  | n + 1, s, acc => if (tkF s).2.1 ≠ 0 then (none, (tkF s).2) else rowsF n (tkF s).2 (acc ++ [(tkF s).1])
theorem sqs_snoc (l : List Sq) (s : Sq) : sqs (l ++ [s]) = sqs l ++ sqL s := by simp [sqs]
def takeF (most : Int) (s : InS) : Option (List Sq) × InS := rowsF (cntF most 6 s).1.toNat (cntF most 6 s).2 []
theorem cntF_nn (most : Int) (s : InS) : 0 ≤ (cntF most 6 s).1 := by
  unfold cntF
  split
  · exact Int.le_refl _
  · exact nmF_nn 4 s
theorem cntF_le (most : Int) (s : InS) (h : 0 ≤ most) : (cntF most 6 s).1 ≤ most := by
  unfold cntF
  split
  · exact h
  · omega
set_option maxHeartbeats 2000000 in
theorem rows_ (st : St) (q : Nat) (s : InS) (most : Int) (h0 : 0 ≤ most) (hm : most ≤ 1000) (hq : st.H q = inB s) (hl : q < st.next) :
    ACalls Tryz.prog 34 [.pt q 0, i most, .fn (.func 35) []] st fun r st' =>
      (∃ t, norm r = .sl t ((takeF most s).1.getD []).length (sqs ((takeF most s).1.getD []))) ∧ st'.H q = inB (takeF most s).2 ∧ KQ q st st' := by
  unfold takeF
  have c0 := cntF_nn most s
  have c1 := cntF_le most s h0
  refine acalls_of_body tabOk Tryz.func34 rfl rfl Tryz.ntmps34 (rs := [.tmp 6]) rfl (by simp) ?_
  (repeat' (first | refine awp_seq ?_ | refine awp_block ?_ | ((first | refine awp_skip ?_ | refine awp_exit ?_); simp only [ak, reduceIte]) | (refine awp_ret ?_; simp only [ak, reduceIte]; simp []) | (refine awp_cond ?_; simp []; (try with_reducible refine ⟨?_, ?_⟩) <;> (try with_reducible intro hc) <;> try (exfalso; omega)) | ((first | (refine w_e [] ?_; intro J hJ; simp only []) | (refine w_q ?_; intro J hJ) | refine e_go ?_); simp []; (repeat refine ca ?_); (try ((try with_reducible refine ⟨?_, ?_⟩) <;> (try with_reducible intro hnil) <;> refine hJ _ _ ?_ <;> clear hJ J <;> simp only [ak, reduceIte] <;> try subst hnil)))))
  refine callK_ofE (count_ st q s most h0 (by omega) hq) (by simp) ?_; rintro r s1 ⟨rfl, g⟩
  rw [g]; clear g s1
  (repeat' (first | refine awp_seq ?_ | refine awp_block ?_ | ((first | refine awp_skip ?_ | refine awp_exit ?_); simp only [ak, reduceIte]) | (refine awp_ret ?_; simp only [ak, reduceIte]; simp []) | (refine awp_cond ?_; simp []; (try with_reducible refine ⟨?_, ?_⟩) <;> (try with_reducible intro hc) <;> try (exfalso; omega)) | ((first | (refine w_e [] ?_; intro J hJ; simp only []) | (refine w_q ?_; intro J hJ) | refine e_go ?_); simp []; (repeat refine ca ?_); (try ((try with_reducible refine ⟨?_, ?_⟩) <;> (try with_reducible intro hnil) <;> refine hJ _ _ ?_ <;> clear hJ J <;> simp only [ak, reduceIte] <;> try subst hnil)))))
  generalize cntF most 6 s = cc at *
  obtain ⟨n, S⟩ := cc
  simp only at c0 c1 ⊢
  obtain ⟨m, rfl⟩ : ∃ m : Nat, n = m := ⟨n.toNat, by omega⟩
  have x0 : ¬ st.next = q := by omega
  refine awp_own 7 42 6 (by simp) ?_
  rw [Int.toNat_natCast]
  generalize hR : rowsF m S [] = R
  refine awp_range 12 11 13 24 (m) (fun j fr st2 => fr 0 = .pt q 0 ∧ fr 2 = .fn (.func 35) [] ∧ ∃ (X : List Sq) (S1 : InS) (t : Nat), fr 7 = .sl t X.length (sqs X) ∧ st2.H t = .own 42 6 X.length ∧ st.next ≤ t ∧ t < st2.next ∧ X.length ≤ j ∧ st2.H q = inB S1 ∧ rowsF (m - j) S1 X = R ∧ KQ q st st2) ?_ ?_ ?_
  · exact ⟨by simp, by simp, [], S, st.next, by simp [sqs, stIn_next], by simp [stIn_next], Nat.le_refl _, by simp [stIn_next], by simp, by simp [stIn_at, stIn_next]; omega, hR, ((KQ.refl q st).stIn _).new _⟩
  · rintro j fr s2 hlt ⟨f0, f2, X, S1, t, f7, hT, ht1, ht2, hXj, hq2, hrow, hk⟩ fi fn JO hJO
    have hn2 := hk.next
    have hsx := sqs_length X
    have htk := take_ s2 q S1 hq2 (by omega)
    obtain ⟨p, hp⟩ : ∃ p, m - j = p + 1 := ⟨m - j - 1, by omega⟩
    rw [hp] at hrow
    unfold rowsF at hrow
    (repeat' (first | refine awp_seq ?_ | refine awp_block ?_ | ((first | refine awp_skip ?_ | refine awp_exit ?_); simp only [ak, reduceIte]) | (refine awp_ret ?_; simp only [ak, reduceIte]; simp [f0, f2, fi, fn]) | (refine awp_cond ?_; simp [f0, f2, fi, fn]; (try with_reducible refine ⟨?_, ?_⟩) <;> (try with_reducible intro hc) <;> try (exfalso; omega)) | ((first | (refine w_e [] ?_; intro J hJ; simp only []) | (refine w_q ?_; intro J hJ) | refine e_go ?_); simp [f0, f2, fi, fn]; (repeat refine ca ?_); (try ((try with_reducible refine ⟨?_, ?_⟩) <;> (try with_reducible intro hnil) <;> refine hJ _ _ ?_ <;> clear hJ J <;> simp only [ak, reduceIte] <;> try subst hnil)))))
    refine callK_ofE htk (by simp) ?_; rintro r s3 ⟨rfl, hq3, hk3⟩
    have hn3 := hk3.next
    have hT3 := hk3.H t ht2 (by omega)
    rw [hT] at hT3
    generalize tkF S1 = tk at *
    obtain ⟨y, S2⟩ := tk
    simp only at hq3 hrow ⊢
    have hy : sqL y = [i y.k, u y.id, u y.a, u y.b, u y.pa, u y.pb] := rfl
    have z0 : ¬ q = s3.next := by omega
    have z1 : ¬ t = s3.next := by omega
    (repeat' (first | refine awp_seq ?_ | refine awp_block ?_ | ((first | refine awp_skip ?_ | refine awp_exit ?_); simp only [ak, reduceIte]) | (refine awp_ret ?_; simp only [ak, reduceIte]; simp [f0, hy]) | (refine awp_cond ?_; simp [f0, hy]; (try with_reducible refine ⟨?_, ?_⟩) <;> (try with_reducible intro hc) <;> try (exfalso; omega)) | ((first | (refine w_e [] ?_; intro J hJ; simp only []) | (refine w_q ?_; intro J hJ) | refine e_go ?_); simp [f0, hy]; (repeat refine ca ?_); (try ((try with_reducible refine ⟨?_, ?_⟩) <;> (try with_reducible intro hnil) <;> refine hJ _ _ ?_ <;> clear hJ J <;> simp only [ak, reduceIte] <;> try subst hnil)))))
    have hq4 : ((s3.new z6).set s3.next (.box 42 6 [i y.k, u y.id, u y.a, u y.b, u y.pa, u y.pb])).H q = inB S2 := by
      rw [set_H, if_neg z0, new_H, if_neg z0]; exact hq3
    refine callK_ofE (err_ _ q S2 hq4) (by simp) ?_; rintro r s4 ⟨rfl, g⟩
    rw [g]; clear g s4
    by_cases he : S2.1 = 0
    · have hb : (S2.1 != 0) = false := by simpa using he
      rw [if_neg (by simpa using he)] at hrow
      have hcap : (X.length + 1) * 32 ≤ 140737488355328 := by omega
      have hml : X.length + 1 ≤ maxLen := by unfold maxLen; omega
      have z2 : ¬ t = s3.next + 1 := by omega
      have z3 : ¬ t = 0 := by omega
      have z4 : ¬ q = s3.next + 1 := by omega
      have z5 : ¬ q = s3.next + 1 + 1 := by omega
      have z6' : ¬ q = t := by omega
      (repeat' (first | refine awp_seq ?_ | refine awp_block ?_ | ((first | refine awp_skip ?_ | refine awp_exit ?_); simp only [ak, reduceIte]) | (refine awp_ret ?_; simp only [ak, reduceIte]; simp [hb, f7, z1, z2, z3, hT3, hsx, hcap, hml]) | (refine awp_cond ?_; simp [hb, f7, z1, z2, z3, hT3, hsx, hcap, hml]; (try with_reducible refine ⟨?_, ?_⟩) <;> (try with_reducible intro hc) <;> try (exfalso; omega)) | ((first | (refine w_e [] ?_; intro J hJ; simp only []) | (refine w_q ?_; intro J hJ) | refine e_go ?_); simp [hb, f7, z1, z2, z3, hT3, hsx, hcap, hml]; (repeat refine ca ?_); (try ((try with_reducible refine ⟨?_, ?_⟩) <;> (try with_reducible intro hnil) <;> refine hJ _ _ ?_ <;> clear hJ J <;> simp only [ak, reduceIte] <;> try subst hnil)))))
      refine hJO _ _ (by simp [fi]) (by simp [fn]) ⟨by simp [f0], by simp [f2], X ++ [y], S2, s3.next + 1 + 1, by simp [sqs_snoc, hy], by simp, by omega, by simp, by simp; omega, ?_, by rw [show m - (j + 1) = p by omega]; exact hrow, (((((hk.trans hk3).new _).set (by omega) _).new _).set (.inl ht1) _).new _⟩
      simp [z0, z4, z5, z6', hq3]
    · have hb : (S2.1 != 0) = true := by simpa using he
      rw [if_pos (by simpa using he)] at hrow
      subst hrow
      (repeat' (first | refine awp_seq ?_ | refine awp_block ?_ | ((first | refine awp_skip ?_ | refine awp_exit ?_); simp only [ak, reduceIte]) | (refine awp_ret ?_; simp only [ak, reduceIte]; simp [hb, z0, hq3]) | (refine awp_cond ?_; simp [hb, z0, hq3]; (try with_reducible refine ⟨?_, ?_⟩) <;> (try with_reducible intro hc) <;> try (exfalso; omega)) | ((first | (refine w_e [] ?_; intro J hJ; simp only []) | (refine w_q ?_; intro J hJ) | refine e_go ?_); simp [hb, z0, hq3]; (repeat refine ca ?_); (try ((try with_reducible refine ⟨?_, ?_⟩) <;> (try with_reducible intro hnil) <;> refine hJ _ _ ?_ <;> clear hJ J <;> simp only [ak, reduceIte] <;> try subst hnil)))))
      exact ⟨by simp [sqs], (((hk.trans hk3).new _).set (by omega) _)⟩
  · rintro fr s2 ⟨f0, f2, X, S1, t, f7, hT, ht1, ht2, hXj, hq2, hrow, hk⟩
    rw [Nat.sub_self] at hrow
    simp only [rowsF] at hrow
    subst hrow
    (repeat' (first | refine awp_seq ?_ | refine awp_block ?_ | ((first | refine awp_skip ?_ | refine awp_exit ?_); simp only [ak, reduceIte]) | (refine awp_ret ?_; simp only [ak, reduceIte]; simp [f7]) | (refine awp_cond ?_; simp [f7]; (try with_reducible refine ⟨?_, ?_⟩) <;> (try with_reducible intro hc) <;> try (exfalso; omega)) | ((first | (refine w_e [] ?_; intro J hJ; simp only []) | (refine w_q ?_; intro J hJ) | refine e_go ?_); simp [f7]; (repeat refine ca ?_); (try ((try with_reducible refine ⟨?_, ?_⟩) <;> (try with_reducible intro hnil) <;> refine hJ _ _ ?_ <;> clear hJ J <;> simp only [ak, reduceIte] <;> try subst hnil)))))
    exact ⟨hq2, hk⟩
theorem sTake (st : St) (q : Nat) (s : InS) (most : Int) (h0 : 0 ≤ most) (hm : most ≤ 1000) (hq : st.H q = inB s) (hl : q < st.next) :
    ACalls Tryz.prog 9 [.pt q 0, i most] st fun r st' =>
      (∃ t, norm r = .sl t ((takeF most s).1.getD []).length (sqs ((takeF most s).1.getD []))) ∧ st'.H q = inB (takeF most s).2 ∧ KQ q st st' := by
  refine acalls_of_body tabOk Tryz.func9 rfl rfl Tryz.ntmps9 (rs := [.tmp 4]) rfl (by simp) ?_
  (repeat' (first | refine awp_seq ?_ | refine awp_block ?_ | ((first | refine awp_skip ?_ | refine awp_exit ?_); simp only [ak, reduceIte]) | (refine awp_ret ?_; simp only [ak, reduceIte]; simp []) | (refine awp_cond ?_; simp []; (try with_reducible refine ⟨?_, ?_⟩) <;> (try with_reducible intro hc) <;> try (exfalso; omega)) | ((first | (refine w_e [] ?_; intro J hJ; simp only []) | (refine w_q ?_; intro J hJ) | refine e_go ?_); simp []; (repeat refine ca ?_); (try ((try with_reducible refine ⟨?_, ?_⟩) <;> (try with_reducible intro hnil) <;> refine hJ _ _ ?_ <;> clear hJ J <;> simp only [ak, reduceIte] <;> try subst hnil)))))
  refine callK_ofE (rows_ st q s most h0 hm hq hl) (by simp) ?_; rintro r s1 ⟨⟨t, hr⟩, hq1, hk⟩
  (repeat' (first | refine awp_seq ?_ | refine awp_block ?_ | ((first | refine awp_skip ?_ | refine awp_exit ?_); simp only [ak, reduceIte]) | (refine awp_ret ?_; simp only [ak, reduceIte]; simp []) | (refine awp_cond ?_; simp []; (try with_reducible refine ⟨?_, ?_⟩) <;> (try with_reducible intro hc) <;> try (exfalso; omega)) | ((first | (refine w_e [] ?_; intro J hJ; simp only []) | (refine w_q ?_; intro J hJ) | refine e_go ?_); simp []; (repeat refine ca ?_); (try ((try with_reducible refine ⟨?_, ?_⟩) <;> (try with_reducible intro hnil) <;> refine hJ _ _ ?_ <;> clear hJ J <;> simp only [ak, reduceIte] <;> try subst hnil)))))
  exact ⟨⟨t, hr⟩, hq1, hk⟩
end Go.Proofs.YtjkmgimedkomkaaGreat.Aw

namespace Go.Proofs.YtjkmgimedkomkaaGreat.Aw
open Go Go.RowKit
set_option linter.unusedSimpArgs false
set_option linter.unusedVariables false

abbrev rB (s : InS) : LObj := .box 32 2 [sv s.2, i s.1]
def stR (st : St) (q : Nat) (s : InS) : St := st.set q (rB s)
theorem stR_self {st : St} {q : Nat} {s : InS} (h : st.H q = rB s) : stR st q s = st := set_self h
theorem stR_stR (st : St) (q : Nat) (s s' : InS) : stR (stR st q s) q s' = stR st q s' := st_set_set _ _ _ _
theorem stR_next (st : St) (q : Nat) (s : InS) : (stR st q s).next = st.next := rfl
theorem stR_at (st : St) (q l : Nat) (s : InS) : (stR st q s).H l = if l = q then rB s else st.H l := rfl
theorem stR_H (st : St) (q : Nat) (s : InS) : (stR st q s).H q = rB s := by rw [stR_at, if_pos rfl]
theorem KQ.stR {q : Nat} {a b : St} (h : KQ q a b) (s : InS) : KQ q a (stR b q s) := h.set (.inr rfl) _
theorem rFail (st : St) (q : Nat) (s : InS) (e : Int) (hq : st.H q = rB s) :
    ACalls Tryz.prog 38 [.pt q 0, i e] st fun r st' => r = .tu [] ∧ st' = stR st q (flF e s) := by
  obtain ⟨s1, s2⟩ := s
  unfold flF
  by_cases h : s1 = 0
  · simp only [if_pos h]
    have hb : (s1 == 0) = true := by simpa using h
    refine acalls_of_body tabOk Tryz.func38 rfl rfl Tryz.ntmps38 (rs := []) rfl (by simp) ?_
    (repeat' (first | refine awp_seq ?_ | refine awp_block ?_ | ((first | refine awp_skip ?_ | refine awp_exit ?_); simp only [ak, reduceIte]) | (refine awp_ret ?_; simp only [ak, reduceIte]; simp [hq, hb]) | (refine awp_cond ?_; simp [hq, hb]; (try with_reducible refine ⟨?_, ?_⟩) <;> (try with_reducible intro hc) <;> try (exfalso; omega)) | ((first | (refine w_e [] ?_; intro J hJ; simp only []) | (refine w_q ?_; intro J hJ) | refine e_go ?_); simp [hq, hb]; (repeat refine ca ?_); (try ((try with_reducible refine ⟨?_, ?_⟩) <;> (try with_reducible intro hnil) <;> refine hJ _ _ ?_ <;> clear hJ J <;> simp only [ak, reduceIte] <;> try subst hnil)))))
    exact ⟨trivial, rfl, rfl⟩
  · simp only [if_neg h]
    have hb : (s1 == 0) = false := by simpa using h
    refine acalls_of_body tabOk Tryz.func38 rfl rfl Tryz.ntmps38 (rs := []) rfl (by simp) ?_
    (repeat' (first | refine awp_seq ?_ | refine awp_block ?_ | ((first | refine awp_skip ?_ | refine awp_exit ?_); simp only [ak, reduceIte]) | (refine awp_ret ?_; simp only [ak, reduceIte]; simp [hq, hb]) | (refine awp_cond ?_; simp [hq, hb]; (try with_reducible refine ⟨?_, ?_⟩) <;> (try with_reducible intro hc) <;> try (exfalso; omega)) | ((first | (refine w_e [] ?_; intro J hJ; simp only []) | (refine w_q ?_; intro J hJ) | refine e_go ?_); simp [hq, hb]; (repeat refine ca ?_); (try ((try with_reducible refine ⟨?_, ?_⟩) <;> (try with_reducible intro hnil) <;> refine hJ _ _ ?_ <;> clear hJ J <;> simp only [ak, reduceIte] <;> try subst hnil)))))
    exact ⟨trivial, rfl, (stR_self hq).symm⟩
theorem rRaw (st : St) (q : Nat) (s : InS) (n : Int) (hq : st.H q = rB s) :
    ACalls Tryz.prog 54 [.pt q 0, i n] st fun r st' => r = sv (nxF n s).1 ∧ st' = stR st q (nxF n s).2 := by
  obtain ⟨e, l⟩ := s
  unfold nxF
  by_cases h : e = 0
  · rw [if_neg (by simpa using h)]
    have hb : (e != 0) = false := by simpa using h
    by_cases h1 : n < 0
    · rw [if_pos (.inl h1)]
      refine acalls_of_body tabOk Tryz.func54 rfl rfl Tryz.ntmps54 (rs := [.tmp 4]) rfl (by simp) ?_
      (repeat' (first | refine awp_seq ?_ | refine awp_block ?_ | ((first | refine awp_skip ?_ | refine awp_exit ?_); simp only [ak, reduceIte]) | (refine awp_ret ?_; simp only [ak, reduceIte]; simp [hq, hb, h1]) | (refine awp_cond ?_; simp [hq, hb, h1]; (try with_reducible refine ⟨?_, ?_⟩) <;> (try with_reducible intro hc) <;> try (exfalso; omega)) | ((first | (refine w_e [] ?_; intro J hJ; simp only []) | (refine w_q ?_; intro J hJ) | refine e_go ?_); simp [hq, hb, h1]; (repeat refine ca ?_); (try ((try with_reducible refine ⟨?_, ?_⟩) <;> (try with_reducible intro hnil) <;> refine hJ _ _ ?_ <;> clear hJ J <;> simp only [ak, reduceIte] <;> try subst hnil)))))
      exact rfl
    · by_cases h2 : n > l.length
      · rw [if_pos (.inr h2)]
        have h2' : (l.length : Int) < n := h2
        refine acalls_of_body tabOk Tryz.func54 rfl rfl Tryz.ntmps54 (rs := [.tmp 4]) rfl (by simp) ?_
        (repeat' (first | refine awp_seq ?_ | refine awp_block ?_ | ((first | refine awp_skip ?_ | refine awp_exit ?_); simp only [ak, reduceIte]) | (refine awp_ret ?_; simp only [ak, reduceIte]; simp [hq, hb, h1, h2']) | (refine awp_cond ?_; simp [hq, hb, h1, h2']; (try with_reducible refine ⟨?_, ?_⟩) <;> (try with_reducible intro hc) <;> try (exfalso; omega)) | ((first | (refine w_e [] ?_; intro J hJ; simp only []) | (refine w_q ?_; intro J hJ) | refine e_go ?_); simp [hq, hb, h1, h2']; (repeat refine ca ?_); (try ((try with_reducible refine ⟨?_, ?_⟩) <;> (try with_reducible intro hnil) <;> refine hJ _ _ ?_ <;> clear hJ J <;> simp only [ak, reduceIte] <;> try subst hnil)))))
        exact rfl
      · rw [if_neg (by simp only; omega)]
        have h2' : ¬ (l.length : Int) < n := h2
        have q1 : 0 ≤ n := by omega
        have q2 : n ≤ (l.length : Int) := by omega
        refine acalls_of_body tabOk Tryz.func54 rfl rfl Tryz.ntmps54 (rs := [.tmp 4]) rfl (by simp) ?_
        (repeat' (first | refine awp_seq ?_ | refine awp_block ?_ | ((first | refine awp_skip ?_ | refine awp_exit ?_); simp only [ak, reduceIte]) | (refine awp_ret ?_; simp only [ak, reduceIte]; simp [hq, hb, h1, h2', q1, q2]) | (refine awp_cond ?_; simp [hq, hb, h1, h2', q1, q2]; (try with_reducible refine ⟨?_, ?_⟩) <;> (try with_reducible intro hc) <;> try (exfalso; omega)) | ((first | (refine w_e [] ?_; intro J hJ; simp only []) | (refine w_q ?_; intro J hJ) | refine e_go ?_); simp [hq, hb, h1, h2', q1, q2]; (repeat refine ca ?_); (try ((try with_reducible refine ⟨?_, ?_⟩) <;> (try with_reducible intro hnil) <;> refine hJ _ _ ?_ <;> clear hJ J <;> simp only [ak, reduceIte] <;> try subst hnil)))))
        subst h
        exact rfl
  · rw [if_pos (by simpa using h)]
    have hb : (e != 0) = true := by simpa using h
    refine acalls_of_body tabOk Tryz.func54 rfl rfl Tryz.ntmps54 (rs := [.tmp 4]) rfl (by simp) ?_
    (repeat' (first | refine awp_seq ?_ | refine awp_block ?_ | ((first | refine awp_skip ?_ | refine awp_exit ?_); simp only [ak, reduceIte]) | (refine awp_ret ?_; simp only [ak, reduceIte]; simp [hq, hb]) | (refine awp_cond ?_; simp [hq, hb]; (try with_reducible refine ⟨?_, ?_⟩) <;> (try with_reducible intro hc) <;> try (exfalso; omega)) | ((first | (refine w_e [] ?_; intro J hJ; simp only []) | (refine w_q ?_; intro J hJ) | refine e_go ?_); simp [hq, hb]; (repeat refine ca ?_); (try ((try with_reducible refine ⟨?_, ?_⟩) <;> (try with_reducible intro hnil) <;> refine hJ _ _ ?_ <;> clear hJ J <;> simp only [ak, reduceIte] <;> try subst hnil)))))
    exact (stR_self hq).symm
theorem rNum (st : St) (q : Nat) (s : InS) (n : Int) (hn8 : n ≤ 8) (hq : st.H q = rB s) :
    ACalls Tryz.prog 37 [.pt q 0, i n] st fun r st' => r = w64 (nmF n s).1 ∧ st' = stR st q (nmF n s).2 := by
  have hl := nxF_len n s
  have hl8 : (nxF n s).1.length ≤ 8 := by omega
  have hraw := rRaw st q s n hq
  unfold nmF
  generalize nxF n s = x at *
  obtain ⟨l, S⟩ := x
  simp only at hl hl8 hraw ⊢
  refine acalls_of_body tabOk Tryz.func37 rfl rfl Tryz.ntmps37 (rs := [.tmp 4]) rfl (by simp) ?_
  (repeat' (first | refine awp_seq ?_ | refine awp_block ?_ | ((first | refine awp_skip ?_ | refine awp_exit ?_); simp only [ak, reduceIte]) | (refine awp_ret ?_; simp only [ak, reduceIte]; simp []) | (refine awp_cond ?_; simp []; (try with_reducible refine ⟨?_, ?_⟩) <;> (try with_reducible intro hc) <;> try (exfalso; omega)) | ((first | (refine w_e [] ?_; intro J hJ; simp only []) | (refine w_q ?_; intro J hJ) | refine e_go ?_); simp []; (repeat refine ca ?_); (try ((try with_reducible refine ⟨?_, ?_⟩) <;> (try with_reducible intro hnil) <;> refine hJ _ _ ?_ <;> clear hJ J <;> simp only [ak, reduceIte] <;> try subst hnil)))))
  refine callK_ofE hraw (by simp) ?_; rintro r s1 ⟨rfl, g⟩
  rw [g]; clear g s1
  (repeat' (first | refine awp_seq ?_ | refine awp_block ?_ | ((first | refine awp_skip ?_ | refine awp_exit ?_); simp only [ak, reduceIte]) | (refine awp_ret ?_; simp only [ak, reduceIte]; simp []) | (refine awp_cond ?_; simp []; (try with_reducible refine ⟨?_, ?_⟩) <;> (try with_reducible intro hc) <;> try (exfalso; omega)) | ((first | (refine w_e [] ?_; intro J hJ; simp only []) | (refine w_q ?_; intro J hJ) | refine e_go ?_); simp []; (repeat refine ca ?_); (try ((try with_reducible refine ⟨?_, ?_⟩) <;> (try with_reducible intro hnil) <;> refine hJ _ _ ?_ <;> clear hJ J <;> simp only [ak, reduceIte] <;> try subst hnil)))))
  refine awp_loop (fun m fr st2 => ∃ j : Nat, j ≤ l.length ∧ m = l.length - j ∧ fr 5 = sv l ∧ fr 6 = w64 (valF (l.take j)) ∧ fr 7 = i j ∧ st2 = stR st q S) l.length ⟨0, by omega, by omega, by simp, by simp [valF], by simp, rfl⟩ ?_
  rintro m fr st2 ⟨j, hj, rfl, f5, f6, f7, rfl⟩ J hJ
  by_cases hlt : j < l.length
  · have hg : l[j]? = some l[j] := List.getElem?_eq_getElem hlt
    have htk : valF (l.take (j + 1)) = valF (l.take j) * 256 + l[j].toNat := by
      rw [List.take_succ_eq_append_getElem hlt, valF_snoc]
    have hb := l[j].toNat_lt
    have hv := valF_lt (l.take j)
    rw [List.length_take, Nat.min_eq_left (by omega)] at hv
    have hv2 : (256 : Nat) ^ j ≤ 256 ^ 7 := Nat.pow_le_pow_right (by decide) (by omega)
    rw [pow7] at hv2
    generalize l[j] = y at *
    have hg2 : (ByteArray.mk l.toArray)[j]? = some y := by rw [ba_get, hg]
    have w1 : IntKind.u64.wrap (y.toNat : Int) = y.toNat := by rw [IntKind.wrap_u64]; omega
    have w2 : IntKind.u64.wrap ((valF (l.take j) : Int) * 256) = (valF (l.take j) : Int) * 256 := by rw [IntKind.wrap_u64]; omega
    have w3 : IntKind.u64.wrap ((valF (l.take j) : Int) * 256 + y.toNat) = (valF (l.take j) : Int) * 256 + y.toNat := by rw [IntKind.wrap_u64]; omega
    have w4 := wrap_succ j (by omega)
    (repeat' (first | refine awp_seq ?_ | refine awp_block ?_ | ((first | refine awp_skip ?_ | refine awp_exit ?_); simp only [ak, reduceIte]) | (refine awp_ret ?_; simp only [ak, reduceIte]; simp [f5, f6, f7, hlt, hg2, w1, w2, w3, w4]) | (refine awp_cond ?_; simp [f5, f6, f7, hlt, hg2, w1, w2, w3, w4]; (try with_reducible refine ⟨?_, ?_⟩) <;> (try with_reducible intro hc) <;> try (exfalso; omega)) | ((first | (refine w_e [] ?_; intro J hJ; simp only []) | (refine w_q ?_; intro J hJ) | refine e_go ?_); simp [f5, f6, f7, hlt, hg2, w1, w2, w3, w4]; (repeat refine ca ?_); (try ((try with_reducible refine ⟨?_, ?_⟩) <;> (try with_reducible intro hnil) <;> refine hJ _ _ ?_ <;> clear hJ J <;> simp only [ak, reduceIte] <;> try subst hnil)))))
    exact hJ _ _ _ (by omega) ⟨j + 1, hlt, rfl, by simp [f5], by simp [htk], by simp, rfl⟩
  · obtain rfl : j = l.length := by omega
    rw [List.take_length] at f6
    (repeat' (first | refine awp_seq ?_ | refine awp_block ?_ | ((first | refine awp_skip ?_ | refine awp_exit ?_); simp only [ak, reduceIte]) | (refine awp_ret ?_; simp only [ak, reduceIte]; simp [f5, f6, f7]) | (refine awp_cond ?_; simp [f5, f6, f7]; (try with_reducible refine ⟨?_, ?_⟩) <;> (try with_reducible intro hc) <;> try (exfalso; omega)) | ((first | (refine w_e [] ?_; intro J hJ; simp only []) | (refine w_q ?_; intro J hJ) | refine e_go ?_); simp [f5, f6, f7]; (repeat refine ca ?_); (try ((try with_reducible refine ⟨?_, ?_⟩) <;> (try with_reducible intro hnil) <;> refine hJ _ _ ?_ <;> clear hJ J <;> simp only [ak, reduceIte] <;> try subst hnil)))))
end Go.Proofs.YtjkmgimedkomkaaGreat.Aw

namespace Go.Proofs.YtjkmgimedkomkaaGreat.Aw
open Go Go.RowKit
set_option linter.unusedSimpArgs false
set_option linter.unusedVariables false

theorem rNum' (st : St) (q : Nat) (s : InS) (n : Int) {v : Int} {s' : InS} (hx : nmF n s = (v, s')) (hn8 : n ≤ 8) (hq : st.H q = rB s) :
    ACalls Tryz.prog 37 [.pt q 0, i n] st fun r st' => r = w64 v ∧ st' = stR st q s' := by
  have := rNum st q s n hn8 hq
  rwa [hx] at this
theorem rCount (st : St) (q : Nat) (s : InS) (most : Int) (h0 : 0 ≤ most) (hm : most ≤ 1000000) (hq : st.H q = rB s) :
    ACalls Tryz.prog 36 [.pt q 0, i most] st fun r st' => r = i (cntF most 6 s).1 ∧ st' = stR st q (cntF most 6 s).2 := by
  have n0 := nmF_nn 4 s
  have n1 := nmF4 s
  unfold cntF
  generalize hx : nmF 4 s = x at *
  obtain ⟨n, S⟩ := x
  simp only at n0 n1 ⊢
  have e1 : ¬ most < 0 := by omega
  have w2 : IntKind.u64.wrap most = most := by rw [IntKind.wrap_u64]; omega
  have w3 : IntKind.i64.wrap n = n := by rw [IntKind.wrap_i64]; omega
  by_cases h : most < n
  · rw [if_pos h]
    refine acalls_of_body tabOk Tryz.func36 rfl rfl Tryz.ntmps36 (rs := [.tmp 4]) rfl (by simp) ?_
    (repeat' (first | refine awp_seq ?_ | refine awp_block ?_ | ((first | refine awp_skip ?_ | refine awp_exit ?_); simp only [ak, reduceIte]) | (refine awp_ret ?_; simp only [ak, reduceIte]; simp []) | (refine awp_cond ?_; simp []; (try with_reducible refine ⟨?_, ?_⟩) <;> (try with_reducible intro hc) <;> try (exfalso; omega)) | ((first | (refine w_e [] ?_; intro J hJ; simp only []) | (refine w_q ?_; intro J hJ) | refine e_go ?_); simp []; (repeat refine ca ?_); (try ((try with_reducible refine ⟨?_, ?_⟩) <;> (try with_reducible intro hnil) <;> refine hJ _ _ ?_ <;> clear hJ J <;> simp only [ak, reduceIte] <;> try subst hnil)))))
    refine callK_ofE (rNum' st q s 4 hx (by omega) hq) (by simp) ?_; rintro r s1 ⟨rfl, g⟩
    rw [g]; clear g s1
    (repeat' (first | refine awp_seq ?_ | refine awp_block ?_ | ((first | refine awp_skip ?_ | refine awp_exit ?_); simp only [ak, reduceIte]) | (refine awp_ret ?_; simp only [ak, reduceIte]; simp [e1, w2, h]) | (refine awp_cond ?_; simp [e1, w2, h]; (try with_reducible refine ⟨?_, ?_⟩) <;> (try with_reducible intro hc) <;> try (exfalso; omega)) | ((first | (refine w_e [] ?_; intro J hJ; simp only []) | (refine w_q ?_; intro J hJ) | refine e_go ?_); simp [e1, w2, h]; (repeat refine ca ?_); (try ((try with_reducible refine ⟨?_, ?_⟩) <;> (try with_reducible intro hnil) <;> refine hJ _ _ ?_ <;> clear hJ J <;> simp only [ak, reduceIte] <;> try subst hnil)))))
    refine callK_ofE (rFail _ q S 6 (stR_H _ _ _)) (by simp) ?_; rintro r s1 ⟨rfl, g⟩
    rw [g]; clear g s1
    (repeat' (first | refine awp_seq ?_ | refine awp_block ?_ | ((first | refine awp_skip ?_ | refine awp_exit ?_); simp only [ak, reduceIte]) | (refine awp_ret ?_; simp only [ak, reduceIte]; simp []) | (refine awp_cond ?_; simp []; (try with_reducible refine ⟨?_, ?_⟩) <;> (try with_reducible intro hc) <;> try (exfalso; omega)) | ((first | (refine w_e [] ?_; intro J hJ; simp only []) | (refine w_q ?_; intro J hJ) | refine e_go ?_); simp []; (repeat refine ca ?_); (try ((try with_reducible refine ⟨?_, ?_⟩) <;> (try with_reducible intro hnil) <;> refine hJ _ _ ?_ <;> clear hJ J <;> simp only [ak, reduceIte] <;> try subst hnil)))))
    exact stR_stR _ _ _ _
  · rw [if_neg h]
    refine acalls_of_body tabOk Tryz.func36 rfl rfl Tryz.ntmps36 (rs := [.tmp 4]) rfl (by simp) ?_
    (repeat' (first | refine awp_seq ?_ | refine awp_block ?_ | ((first | refine awp_skip ?_ | refine awp_exit ?_); simp only [ak, reduceIte]) | (refine awp_ret ?_; simp only [ak, reduceIte]; simp []) | (refine awp_cond ?_; simp []; (try with_reducible refine ⟨?_, ?_⟩) <;> (try with_reducible intro hc) <;> try (exfalso; omega)) | ((first | (refine w_e [] ?_; intro J hJ; simp only []) | (refine w_q ?_; intro J hJ) | refine e_go ?_); simp []; (repeat refine ca ?_); (try ((try with_reducible refine ⟨?_, ?_⟩) <;> (try with_reducible intro hnil) <;> refine hJ _ _ ?_ <;> clear hJ J <;> simp only [ak, reduceIte] <;> try subst hnil)))))
    refine callK_ofE (rNum' st q s 4 hx (by omega) hq) (by simp) ?_; rintro r s1 ⟨rfl, g⟩
    rw [g]; clear g s1
    (repeat' (first | refine awp_seq ?_ | refine awp_block ?_ | ((first | refine awp_skip ?_ | refine awp_exit ?_); simp only [ak, reduceIte]) | (refine awp_ret ?_; simp only [ak, reduceIte]; simp [e1, w2, w3, h]) | (refine awp_cond ?_; simp [e1, w2, w3, h]; (try with_reducible refine ⟨?_, ?_⟩) <;> (try with_reducible intro hc) <;> try (exfalso; omega)) | ((first | (refine w_e [] ?_; intro J hJ; simp only []) | (refine w_q ?_; intro J hJ) | refine e_go ?_); simp [e1, w2, w3, h]; (repeat refine ca ?_); (try ((try with_reducible refine ⟨?_, ?_⟩) <;> (try with_reducible intro hnil) <;> refine hJ _ _ ?_ <;> clear hJ J <;> simp only [ak, reduceIte] <;> try subst hnil)))))
theorem nm_bad (n : Int) (s : InS) (h : (nmF n s).2.1 ≠ 0) : (nmF n s).1 = 0 := by
  unfold nmF nxF at h ⊢
  split at h
  · rename_i h1; rw [if_pos h1]; rfl
  · rename_i h1
    rw [if_neg h1]
    split at h
    · rename_i h2; rw [if_pos h2]; rfl
    · exact absurd rfl h
theorem cnt_bad (most : Int) (s : InS) (h : (cntF most 6 s).2.1 ≠ 0) : (cntF most 6 s).1 = 0 := by
  unfold cntF at h ⊢
  split
  · rfl
  · rename_i h1
    rw [if_neg h1] at h
    exact nm_bad 4 s h
def rowsR (n : Nat) (s : InS) (acc : List Sq) : Option (List Sq) × InS := if s.1 ≠ 0 then (none, s) else rowsF n s acc
theorem rowsR_succ (n : Nat) (s : InS) (acc : List Sq) (h : s.1 = 0) : rowsR (n + 1) s acc = rowsR n (tkF s).2 (acc ++ [(tkF s).1]) := by
  unfold rowsR
  rw [if_neg (by simpa using h), rowsF]
theorem take_R (most : Int) (s : InS) : ((takeF most s).1.getD []) = ((rowsR (cntF most 6 s).1.toNat (cntF most 6 s).2 []).1.getD []) ∧ (takeF most s).2 = (rowsR (cntF most 6 s).1.toNat (cntF most 6 s).2 []).2 := by
  unfold takeF rowsR
  split
  · rename_i h
    rw [cnt_bad most s h]
    exact ⟨rfl, rfl⟩
  · exact ⟨rfl, rfl⟩
theorem tkF_eq (s : InS) {k a b c d e : Int} {A1 A2 A3 A4 A5 A6 : InS} (h1 : nmF 1 s = (k, A1)) (h2 : nmF 4 A1 = (a, A2)) (h3 : nmF 4 A2 = (b, A3)) (h4 : nmF 4 A3 = (c, A4)) (h5 : nmF 4 A4 = (d, A5)) (h6 : nmF 4 A5 = (e, A6)) :
    tkF s = (⟨k, a, b, c, d, e⟩, if k < 1 ∨ 4 < k then flF 11 A6 else A6) := by
  simp [tkF, rdF, h1, h2, h3, h4, h5, h6]
set_option maxHeartbeats 4000000 in
theorem rTake (st : St) (q : Nat) (s : InS) (most : Int) (h0 : 0 ≤ most) (hm : most ≤ 1000) (hq : st.H q = rB s) (hl : q < st.next) :
    ACalls Tryz.prog 10 [.pt q 0, i most] st fun r st' =>
      (∃ t, norm r = .sl t ((takeF most s).1.getD []).length (sqs ((takeF most s).1.getD []))) ∧ st'.H q = rB (takeF most s).2 ∧ KQ q st st' := by
  have c0 := cntF_nn most s
  have c1 := cntF_le most s h0
  have hC := rCount st q s most h0 (by omega) hq
  obtain ⟨hR1, hR2⟩ := take_R most s
  rw [hR1, hR2]
  generalize cntF most 6 s = cc at *
  obtain ⟨n, S⟩ := cc
  simp only at c0 c1 hC ⊢
  obtain ⟨m, rfl⟩ : ∃ m : Nat, n = m := ⟨n.toNat, by omega⟩
  rw [Int.toNat_natCast]
  generalize hR : rowsR m S [] = R
  have x0 : ¬ st.next = q := by omega
  refine acalls_of_body tabOk Tryz.func10 rfl rfl Tryz.ntmps10 (rs := [.tmp 4]) rfl (by simp) ?_
  (repeat' (first | refine awp_seq ?_ | refine awp_block ?_ | ((first | refine awp_skip ?_ | refine awp_exit ?_); simp only [ak, reduceIte]) | (refine awp_ret ?_; simp only [ak, reduceIte]; simp []) | (refine awp_cond ?_; simp []; (try with_reducible refine ⟨?_, ?_⟩) <;> (try with_reducible intro hc) <;> try (exfalso; omega)) | ((first | (refine w_e [] ?_; intro J hJ; simp only []) | (refine w_q ?_; intro J hJ) | refine e_go ?_); simp []; (repeat refine ca ?_); (try ((try with_reducible refine ⟨?_, ?_⟩) <;> (try with_reducible intro hnil) <;> refine hJ _ _ ?_ <;> clear hJ J <;> simp only [ak, reduceIte] <;> try subst hnil)))))
  refine callK_ofE hC (by simp) ?_; rintro r s1 ⟨rfl, g⟩
  rw [g]; clear g s1
  (repeat' (first | refine awp_seq ?_ | refine awp_block ?_ | ((first | refine awp_skip ?_ | refine awp_exit ?_); simp only [ak, reduceIte]) | (refine awp_ret ?_; simp only [ak, reduceIte]; simp []) | (refine awp_cond ?_; simp []; (try with_reducible refine ⟨?_, ?_⟩) <;> (try with_reducible intro hc) <;> try (exfalso; omega)) | ((first | (refine w_e [] ?_; intro J hJ; simp only []) | (refine w_q ?_; intro J hJ) | refine e_go ?_); simp []; (repeat refine ca ?_); (try ((try with_reducible refine ⟨?_, ?_⟩) <;> (try with_reducible intro hnil) <;> refine hJ _ _ ?_ <;> clear hJ J <;> simp only [ak, reduceIte] <;> try subst hnil)))))
  refine awp_own 6 42 6 (by simp) ?_
  refine awp_loop (fun z fr st2 => ∃ j : Nat, j ≤ m ∧ z = m - j ∧ fr 0 = .pt q 0 ∧ fr 5 = i m ∧ fr 7 = i j ∧ ∃ (X : List Sq) (S1 : InS) (t : Nat), fr 6 = .sl t X.length (sqs X) ∧ st2.H t = .own 42 6 X.length ∧ st.next ≤ t ∧ t < st2.next ∧ X.length ≤ j ∧ st2.H q = rB S1 ∧ rowsR (m - j) S1 X = R ∧ KQ q st st2) m ?_ ?_
  · exact ⟨0, by omega, by omega, by simp, by simp, by simp, [], S, st.next, by simp [sqs, stR_next], by simp [stR_next], Nat.le_refl _, by simp [stR_next], by simp, by simp [stR_at, stR_next]; omega, hR, ((KQ.refl q st).stR _).new _⟩
  · rintro z fr s2 ⟨j, hj, rfl, f0, f5, f7, X, S1, t, f6, hT, ht1, ht2, hXj, hq2, hrow, hk⟩ J hJ
    have hn2 := hk.next
    have hsx := sqs_length X
    by_cases hlt : j < m
    · by_cases he : S1.1 = 0
      · have hb : (S1.1 == 0) = true := by simpa using he
        obtain ⟨p, hp⟩ : ∃ p, m - j = p + 1 := ⟨m - j - 1, by omega⟩
        rw [hp, rowsR_succ p S1 X he] at hrow
        have z0 : ¬ q = s2.next := by omega
        have z0' : ¬ s2.next = q := by omega
        have z1 : ¬ t = s2.next := by omega
        have z1' : ¬ t = q := by omega
        have g : ∀ x : Int × InS, ∃ v s', x = (v, s') := fun x => ⟨x.1, x.2, rfl⟩
        obtain ⟨k, A1, e1⟩ := g (nmF 1 S1)
        obtain ⟨a, A2, e2⟩ := g (nmF 4 A1)
        obtain ⟨b, A3, e3⟩ := g (nmF 4 A2)
        obtain ⟨c, A4, e4⟩ := g (nmF 4 A3)
        obtain ⟨d, A5, e5⟩ := g (nmF 4 A4)
        obtain ⟨e, A6, e6⟩ := g (nmF 4 A5)
        clear g
        rw [tkF_eq S1 e1 e2 e3 e4 e5 e6] at hrow
        have wk : IntKind.i64.wrap k = k := by have h1 := nmF_nn 1 S1; have h2 := nmF1 S1; rw [e1] at h1 h2; simp only at h1 h2; rw [IntKind.wrap_i64]; omega
        have w4 : ∀ {S S' : InS} {x : Int}, nmF 4 S = (x, S') → IntKind.u32.wrap x = x := by
          intro S S' x hx
          have h1 := nmF_nn 4 S; have h2 := nmF4 S; rw [hx] at h1 h2; simp only at h1 h2; rw [IntKind.wrap_u32]; omega
        have wa := w4 e2
        have wb := w4 e3
        have wc := w4 e4
        have wd := w4 e5
        have we := w4 e6
        have wj := wrap_succ j (by omega)
        have hcap : (X.length + 1) * 32 ≤ 140737488355328 := by omega
        have hml : X.length + 1 ≤ maxLen := by unfold maxLen; omega
        have z2 : ¬ t = s2.next + 1 := by omega
        have z3 : ¬ t = 0 := by omega
        have z4 : ¬ q = s2.next + 1 := by omega
        have z5 : ¬ q = s2.next + 1 + 1 := by omega
        have z6' : ¬ q = t := by omega
        (repeat' (first | refine awp_seq ?_ | refine awp_block ?_ | ((first | refine awp_skip ?_ | refine awp_exit ?_); simp only [ak, reduceIte]) | (refine awp_ret ?_; simp only [ak, reduceIte]; simp [f0, f5, f7, hlt, hq2, hb, z0]) | (refine awp_cond ?_; simp [f0, f5, f7, hlt, hq2, hb, z0]; (try with_reducible refine ⟨?_, ?_⟩) <;> (try with_reducible intro hc) <;> try (exfalso; omega)) | ((first | (refine w_e [] ?_; intro J hJ; simp only []) | (refine w_q ?_; intro J hJ) | refine e_go ?_); simp [f0, f5, f7, hlt, hq2, hb, z0]; (repeat refine ca ?_); (try ((try with_reducible refine ⟨?_, ?_⟩) <;> (try with_reducible intro hnil) <;> refine hJ _ _ ?_ <;> clear hJ J <;> simp only [ak, reduceIte] <;> try subst hnil)))))
        refine callK_ofE (rNum' _ q S1 1 e1 (by omega) (by simp [stR_at, stR_next, z0, z0', hq2])) (by simp) ?_; rintro r s1 ⟨rfl, g⟩
        rw [g]; clear g s1
        (repeat' (first | refine awp_seq ?_ | refine awp_block ?_ | ((first | refine awp_skip ?_ | refine awp_exit ?_); simp only [ak, reduceIte]) | (refine awp_ret ?_; simp only [ak, reduceIte]; simp [f0, stR_at, stR_next, z0, z0', wk]) | (refine awp_cond ?_; simp [f0, stR_at, stR_next, z0, z0', wk]; (try with_reducible refine ⟨?_, ?_⟩) <;> (try with_reducible intro hc) <;> try (exfalso; omega)) | ((first | (refine w_e [] ?_; intro J hJ; simp only []) | (refine w_q ?_; intro J hJ) | refine e_go ?_); simp [f0, stR_at, stR_next, z0, z0', wk]; (repeat refine ca ?_); (try ((try with_reducible refine ⟨?_, ?_⟩) <;> (try with_reducible intro hnil) <;> refine hJ _ _ ?_ <;> clear hJ J <;> simp only [ak, reduceIte] <;> try subst hnil)))))
        refine callK_ofE (rNum' _ q A1 4 e2 (by omega) (by simp [stR_at, stR_next, z0, z0', hq2])) (by simp) ?_; rintro r s1 ⟨rfl, g⟩
        rw [g]; clear g s1
        (repeat' (first | refine awp_seq ?_ | refine awp_block ?_ | ((first | refine awp_skip ?_ | refine awp_exit ?_); simp only [ak, reduceIte]) | (refine awp_ret ?_; simp only [ak, reduceIte]; simp [f0, stR_at, stR_next, z0, z0', wa]) | (refine awp_cond ?_; simp [f0, stR_at, stR_next, z0, z0', wa]; (try with_reducible refine ⟨?_, ?_⟩) <;> (try with_reducible intro hc) <;> try (exfalso; omega)) | ((first | (refine w_e [] ?_; intro J hJ; simp only []) | (refine w_q ?_; intro J hJ) | refine e_go ?_); simp [f0, stR_at, stR_next, z0, z0', wa]; (repeat refine ca ?_); (try ((try with_reducible refine ⟨?_, ?_⟩) <;> (try with_reducible intro hnil) <;> refine hJ _ _ ?_ <;> clear hJ J <;> simp only [ak, reduceIte] <;> try subst hnil)))))
        refine callK_ofE (rNum' _ q A2 4 e3 (by omega) (by simp [stR_at, stR_next, z0, z0', hq2])) (by simp) ?_; rintro r s1 ⟨rfl, g⟩
        rw [g]; clear g s1
        (repeat' (first | refine awp_seq ?_ | refine awp_block ?_ | ((first | refine awp_skip ?_ | refine awp_exit ?_); simp only [ak, reduceIte]) | (refine awp_ret ?_; simp only [ak, reduceIte]; simp [f0, stR_at, stR_next, z0, z0', wb]) | (refine awp_cond ?_; simp [f0, stR_at, stR_next, z0, z0', wb]; (try with_reducible refine ⟨?_, ?_⟩) <;> (try with_reducible intro hc) <;> try (exfalso; omega)) | ((first | (refine w_e [] ?_; intro J hJ; simp only []) | (refine w_q ?_; intro J hJ) | refine e_go ?_); simp [f0, stR_at, stR_next, z0, z0', wb]; (repeat refine ca ?_); (try ((try with_reducible refine ⟨?_, ?_⟩) <;> (try with_reducible intro hnil) <;> refine hJ _ _ ?_ <;> clear hJ J <;> simp only [ak, reduceIte] <;> try subst hnil)))))
        refine callK_ofE (rNum' _ q A3 4 e4 (by omega) (by simp [stR_at, stR_next, z0, z0', hq2])) (by simp) ?_; rintro r s1 ⟨rfl, g⟩
        rw [g]; clear g s1
        (repeat' (first | refine awp_seq ?_ | refine awp_block ?_ | ((first | refine awp_skip ?_ | refine awp_exit ?_); simp only [ak, reduceIte]) | (refine awp_ret ?_; simp only [ak, reduceIte]; simp [f0, stR_at, stR_next, z0, z0', wc]) | (refine awp_cond ?_; simp [f0, stR_at, stR_next, z0, z0', wc]; (try with_reducible refine ⟨?_, ?_⟩) <;> (try with_reducible intro hc) <;> try (exfalso; omega)) | ((first | (refine w_e [] ?_; intro J hJ; simp only []) | (refine w_q ?_; intro J hJ) | refine e_go ?_); simp [f0, stR_at, stR_next, z0, z0', wc]; (repeat refine ca ?_); (try ((try with_reducible refine ⟨?_, ?_⟩) <;> (try with_reducible intro hnil) <;> refine hJ _ _ ?_ <;> clear hJ J <;> simp only [ak, reduceIte] <;> try subst hnil)))))
        refine callK_ofE (rNum' _ q A4 4 e5 (by omega) (by simp [stR_at, stR_next, z0, z0', hq2])) (by simp) ?_; rintro r s1 ⟨rfl, g⟩
        rw [g]; clear g s1
        (repeat' (first | refine awp_seq ?_ | refine awp_block ?_ | ((first | refine awp_skip ?_ | refine awp_exit ?_); simp only [ak, reduceIte]) | (refine awp_ret ?_; simp only [ak, reduceIte]; simp [f0, stR_at, stR_next, z0, z0', wd]) | (refine awp_cond ?_; simp [f0, stR_at, stR_next, z0, z0', wd]; (try with_reducible refine ⟨?_, ?_⟩) <;> (try with_reducible intro hc) <;> try (exfalso; omega)) | ((first | (refine w_e [] ?_; intro J hJ; simp only []) | (refine w_q ?_; intro J hJ) | refine e_go ?_); simp [f0, stR_at, stR_next, z0, z0', wd]; (repeat refine ca ?_); (try ((try with_reducible refine ⟨?_, ?_⟩) <;> (try with_reducible intro hnil) <;> refine hJ _ _ ?_ <;> clear hJ J <;> simp only [ak, reduceIte] <;> try subst hnil)))))
        refine callK_ofE (rNum' _ q A5 4 e6 (by omega) (by simp [stR_at, stR_next, z0, z0', hq2])) (by simp) ?_; rintro r s1 ⟨rfl, g⟩
        rw [g]; clear g s1
        by_cases h1 : k < 1
        · rw [if_pos (.inl h1)] at hrow
          (repeat' (first | refine awp_seq ?_ | refine awp_block ?_ | ((first | refine awp_skip ?_ | refine awp_exit ?_); simp only [ak, reduceIte]) | (refine awp_ret ?_; simp only [ak, reduceIte]; simp [f0, stR_at, stR_next, z0, z0', we, h1]) | (refine awp_cond ?_; simp [f0, stR_at, stR_next, z0, z0', we, h1]; (try with_reducible refine ⟨?_, ?_⟩) <;> (try with_reducible intro hc) <;> try (exfalso; omega)) | ((first | (refine w_e [] ?_; intro J hJ; simp only []) | (refine w_q ?_; intro J hJ) | refine e_go ?_); simp [f0, stR_at, stR_next, z0, z0', we, h1]; (repeat refine ca ?_); (try ((try with_reducible refine ⟨?_, ?_⟩) <;> (try with_reducible intro hnil) <;> refine hJ _ _ ?_ <;> clear hJ J <;> simp only [ak, reduceIte] <;> try subst hnil)))))
          refine callK_ofE (rFail _ q A6 11 (by simp [stR_at, stR_next, z0, z0'])) (by simp) ?_; rintro r s1 ⟨rfl, g⟩
          rw [g]; clear g s1
          (repeat' (first | refine awp_seq ?_ | refine awp_block ?_ | ((first | refine awp_skip ?_ | refine awp_exit ?_); simp only [ak, reduceIte]) | (refine awp_ret ?_; simp only [ak, reduceIte]; simp [f6, f7, hT, hsx, stR_at, stR_next, z0, z0', z1, z1', z2, z3, hcap, hml, wj]) | (refine awp_cond ?_; simp [f6, f7, hT, hsx, stR_at, stR_next, z0, z0', z1, z1', z2, z3, hcap, hml, wj]; (try with_reducible refine ⟨?_, ?_⟩) <;> (try with_reducible intro hc) <;> try (exfalso; omega)) | ((first | (refine w_e [] ?_; intro J hJ; simp only []) | (refine w_q ?_; intro J hJ) | refine e_go ?_); simp [f6, f7, hT, hsx, stR_at, stR_next, z0, z0', z1, z1', z2, z3, hcap, hml, wj]; (repeat refine ca ?_); (try ((try with_reducible refine ⟨?_, ?_⟩) <;> (try with_reducible intro hnil) <;> refine hJ _ _ ?_ <;> clear hJ J <;> simp only [ak, reduceIte] <;> try subst hnil)))))
          refine hJ _ _ _ (by omega) ⟨j + 1, hlt, rfl, by simp [f0], by simp [f5], by simp, X ++ [⟨k, a, b, c, d, e⟩], _, s2.next + 1 + 1, by simp [sqs_snoc, sqL], by simp [stR_next], by omega, by simp [stR_next], by simp; omega, ?_, by rw [show m - (j + 1) = p by omega]; exact hrow, ?_⟩
          · simp [stR_at, stR_next, z0, z4, z5, z6']
          · repeat (first | exact hk | refine KQ.new ?_ _ | refine KQ.stR ?_ _ | refine KQ.set ?_ (by omega) _)
        · by_cases h2 : 4 < k
          · rw [if_pos (.inr h2)] at hrow
            (repeat' (first | refine awp_seq ?_ | refine awp_block ?_ | ((first | refine awp_skip ?_ | refine awp_exit ?_); simp only [ak, reduceIte]) | (refine awp_ret ?_; simp only [ak, reduceIte]; simp [f0, stR_at, stR_next, z0, z0', we, h1, h2]) | (refine awp_cond ?_; simp [f0, stR_at, stR_next, z0, z0', we, h1, h2]; (try with_reducible refine ⟨?_, ?_⟩) <;> (try with_reducible intro hc) <;> try (exfalso; omega)) | ((first | (refine w_e [] ?_; intro J hJ; simp only []) | (refine w_q ?_; intro J hJ) | refine e_go ?_); simp [f0, stR_at, stR_next, z0, z0', we, h1, h2]; (repeat refine ca ?_); (try ((try with_reducible refine ⟨?_, ?_⟩) <;> (try with_reducible intro hnil) <;> refine hJ _ _ ?_ <;> clear hJ J <;> simp only [ak, reduceIte] <;> try subst hnil)))))
            refine callK_ofE (rFail _ q A6 11 (by simp [stR_at, stR_next, z0, z0'])) (by simp) ?_; rintro r s1 ⟨rfl, g⟩
            rw [g]; clear g s1
            (repeat' (first | refine awp_seq ?_ | refine awp_block ?_ | ((first | refine awp_skip ?_ | refine awp_exit ?_); simp only [ak, reduceIte]) | (refine awp_ret ?_; simp only [ak, reduceIte]; simp [f6, f7, hT, hsx, stR_at, stR_next, z0, z0', z1, z1', z2, z3, hcap, hml, wj]) | (refine awp_cond ?_; simp [f6, f7, hT, hsx, stR_at, stR_next, z0, z0', z1, z1', z2, z3, hcap, hml, wj]; (try with_reducible refine ⟨?_, ?_⟩) <;> (try with_reducible intro hc) <;> try (exfalso; omega)) | ((first | (refine w_e [] ?_; intro J hJ; simp only []) | (refine w_q ?_; intro J hJ) | refine e_go ?_); simp [f6, f7, hT, hsx, stR_at, stR_next, z0, z0', z1, z1', z2, z3, hcap, hml, wj]; (repeat refine ca ?_); (try ((try with_reducible refine ⟨?_, ?_⟩) <;> (try with_reducible intro hnil) <;> refine hJ _ _ ?_ <;> clear hJ J <;> simp only [ak, reduceIte] <;> try subst hnil)))))
            refine hJ _ _ _ (by omega) ⟨j + 1, hlt, rfl, by simp [f0], by simp [f5], by simp, X ++ [⟨k, a, b, c, d, e⟩], _, s2.next + 1 + 1, by simp [sqs_snoc, sqL], by simp [stR_next], by omega, by simp [stR_next], by simp; omega, ?_, by rw [show m - (j + 1) = p by omega]; exact hrow, ?_⟩
            · simp [stR_at, stR_next, z0, z4, z5, z6']
            · repeat (first | exact hk | refine KQ.new ?_ _ | refine KQ.stR ?_ _ | refine KQ.set ?_ (by omega) _)
          · rw [if_neg (by omega)] at hrow
            (repeat' (first | refine awp_seq ?_ | refine awp_block ?_ | ((first | refine awp_skip ?_ | refine awp_exit ?_); simp only [ak, reduceIte]) | (refine awp_ret ?_; simp only [ak, reduceIte]; simp [f0, f6, f7, hT, hsx, stR_at, stR_next, z0, z0', z1, z1', z2, z3, hcap, hml, wj, we, h1, h2]) | (refine awp_cond ?_; simp [f0, f6, f7, hT, hsx, stR_at, stR_next, z0, z0', z1, z1', z2, z3, hcap, hml, wj, we, h1, h2]; (try with_reducible refine ⟨?_, ?_⟩) <;> (try with_reducible intro hc) <;> try (exfalso; omega)) | ((first | (refine w_e [] ?_; intro J hJ; simp only []) | (refine w_q ?_; intro J hJ) | refine e_go ?_); simp [f0, f6, f7, hT, hsx, stR_at, stR_next, z0, z0', z1, z1', z2, z3, hcap, hml, wj, we, h1, h2]; (repeat refine ca ?_); (try ((try with_reducible refine ⟨?_, ?_⟩) <;> (try with_reducible intro hnil) <;> refine hJ _ _ ?_ <;> clear hJ J <;> simp only [ak, reduceIte] <;> try subst hnil)))))
            refine hJ _ _ _ (by omega) ⟨j + 1, hlt, rfl, by simp [f0], by simp [f5], by simp, X ++ [⟨k, a, b, c, d, e⟩], _, s2.next + 1 + 1, by simp [sqs_snoc, sqL], by simp [stR_next], by omega, by simp [stR_next], by simp; omega, ?_, by rw [show m - (j + 1) = p by omega]; exact hrow, ?_⟩
            · simp [stR_at, stR_next, z0, z4, z5, z6']
            · repeat (first | exact hk | refine KQ.new ?_ _ | refine KQ.stR ?_ _ | refine KQ.set ?_ (by omega) _)
      · have hb : (S1.1 == 0) = false := by simpa using he
        have hb' : (S1.1 != 0) = true := by simpa using he
        unfold rowsR at hrow
        rw [if_pos (by simpa using he)] at hrow
        subst hrow
        (repeat' (first | refine awp_seq ?_ | refine awp_block ?_ | ((first | refine awp_skip ?_ | refine awp_exit ?_); simp only [ak, reduceIte]) | (refine awp_ret ?_; simp only [ak, reduceIte]; simp [f0, f5, f7, hlt, hq2, hb, hb']) | (refine awp_cond ?_; simp [f0, f5, f7, hlt, hq2, hb, hb']; (try with_reducible refine ⟨?_, ?_⟩) <;> (try with_reducible intro hc) <;> try (exfalso; omega)) | ((first | (refine w_e [] ?_; intro J hJ; simp only []) | (refine w_q ?_; intro J hJ) | refine e_go ?_); simp [f0, f5, f7, hlt, hq2, hb, hb']; (repeat refine ca ?_); (try ((try with_reducible refine ⟨?_, ?_⟩) <;> (try with_reducible intro hnil) <;> refine hJ _ _ ?_ <;> clear hJ J <;> simp only [ak, reduceIte] <;> try subst hnil)))))
        exact ⟨rfl, hk⟩
    · obtain rfl : j = m := by omega
      have e0 : j - j = 0 := by omega
      rw [e0] at hrow
      unfold rowsR at hrow
      by_cases he : S1.1 = 0
      · have hb' : (S1.1 != 0) = false := by simpa using he
        rw [if_neg (by simpa using he), rowsF] at hrow
        subst hrow
        (repeat' (first | refine awp_seq ?_ | refine awp_block ?_ | ((first | refine awp_skip ?_ | refine awp_exit ?_); simp only [ak, reduceIte]) | (refine awp_ret ?_; simp only [ak, reduceIte]; simp [f0, f5, f6, f7, hq2, hb']) | (refine awp_cond ?_; simp [f0, f5, f6, f7, hq2, hb']; (try with_reducible refine ⟨?_, ?_⟩) <;> (try with_reducible intro hc) <;> try (exfalso; omega)) | ((first | (refine w_e [] ?_; intro J hJ; simp only []) | (refine w_q ?_; intro J hJ) | refine e_go ?_); simp [f0, f5, f6, f7, hq2, hb']; (repeat refine ca ?_); (try ((try with_reducible refine ⟨?_, ?_⟩) <;> (try with_reducible intro hnil) <;> refine hJ _ _ ?_ <;> clear hJ J <;> simp only [ak, reduceIte] <;> try subst hnil)))))
        exact hk
      · have hb' : (S1.1 != 0) = true := by simpa using he
        rw [if_pos (by simpa using he)] at hrow
        subst hrow
        (repeat' (first | refine awp_seq ?_ | refine awp_block ?_ | ((first | refine awp_skip ?_ | refine awp_exit ?_); simp only [ak, reduceIte]) | (refine awp_ret ?_; simp only [ak, reduceIte]; simp [f0, f5, f6, f7, hq2, hb']) | (refine awp_cond ?_; simp [f0, f5, f6, f7, hq2, hb']; (try with_reducible refine ⟨?_, ?_⟩) <;> (try with_reducible intro hc) <;> try (exfalso; omega)) | ((first | (refine w_e [] ?_; intro J hJ; simp only []) | (refine w_q ?_; intro J hJ) | refine e_go ?_); simp [f0, f5, f6, f7, hq2, hb']; (repeat refine ca ?_); (try ((try with_reducible refine ⟨?_, ?_⟩) <;> (try with_reducible intro hnil) <;> refine hJ _ _ ?_ <;> clear hJ J <;> simp only [ak, reduceIte] <;> try subst hnil)))))
        exact ⟨rfl, hk⟩
end Go.Proofs.YtjkmgimedkomkaaGreat.Aw

namespace Go.Proofs.YtjkmgimedkomkaaGreat.Aw
open Go Go.RowKit
set_option linter.unusedSimpArgs false
set_option linter.unusedVariables false

theorem numB_succ (n j : Nat) (hj : j < 8) : Wb.numB n (j + 1) = UInt8.ofNat (n / 256 ^ j % 256) :: Wb.numB n j := by
  unfold Wb.numB
  have hlt : 8 - (j + 1) < ((List.range 8).map fun k => UInt8.ofNat (Wb.byteN n k)).length := by simp; omega
  rw [List.drop_eq_getElem_cons hlt, show 8 - (j + 1) + 1 = 8 - j by omega]
  congr 1
  simp only [List.getElem_map, List.getElem_range, Wb.byteN]
  rw [show 56 - 8 * (8 - (j + 1)) = 8 * j by omega, Nat.pow_mul]
theorem numB_zero (n : Nat) : Wb.numB n 0 = [] := by simp [Wb.numB]
theorem rNumS (n : Nat) (b : Nat) (st : St) (hn : n < 18446744073709551616) (hb : b ≤ 8) :
    ACalls Tryz.prog 39 [w64 n, i b] st fun r st' => r = sv (Wb.numB n b) ∧ st' = st := by
  refine acalls_tidy (Q := fun r => r = sv (Wb.numB n b)) ?_ fun r h => by subst h; trivial
  refine acalls_of_body tabOk Tryz.func39 rfl rfl Tryz.ntmps39 (rs := [.tmp 4]) rfl (by simp) ?_
  (repeat' (first | refine awp_seq ?_ | refine awp_block ?_ | ((first | refine awp_skip ?_ | refine awp_exit ?_); simp only [ak, reduceIte]) | (refine awp_ret ?_; simp only [ak, reduceIte]; simp []) | (refine awp_cond ?_; simp []; (try with_reducible refine ⟨?_, ?_⟩) <;> (try with_reducible intro hc) <;> try (exfalso; omega)) | ((first | (refine w_e [] ?_; intro J hJ; simp only []) | (refine w_q ?_; intro J hJ) | refine e_go ?_); simp []; (repeat refine ca ?_); (try ((try with_reducible refine ⟨?_, ?_⟩) <;> (try with_reducible intro hnil) <;> refine hJ _ _ ?_ <;> clear hJ J <;> simp only [ak, reduceIte] <;> try subst hnil)))))
  refine awp_loop (fun z fr st2 => ∃ j : Nat, j ≤ b ∧ z = b - j ∧ fr 0 = w64 ((n / 256 ^ j : Nat) : Int) ∧ fr 1 = i b ∧ fr 5 = sv (Wb.numB n j) ∧ fr 6 = i j ∧ Keeps st st2) b ⟨0, by omega, by omega, by simp, by simp, by simp [numB_zero], by simp, Keeps.refl _⟩ ?_
  rintro z fr st2 ⟨j, hj, rfl, f0, f1, f5, f6, hk⟩ J hJ
  by_cases hlt : j < b
  · have hs := numB_succ n j (by omega)
    have hl := Wb.numB_len n j (by omega)
    have hle : n / 256 ^ j ≤ n := Nat.div_le_self _ _
    have hd : n / 256 ^ (j + 1) = n / 256 ^ j / 256 := by rw [Nat.pow_succ, Nat.div_div_eq_div_mul]
    generalize n / 256 ^ j = v at *
    have w1 : (v : Int).tmod 256 = (v : Int) % 256 := Int.tmod_eq_emod_of_nonneg (by omega)
    have w0 : (v : Int).tdiv 256 = (v : Int) / 256 := Int.tdiv_eq_ediv_of_nonneg (by omega)
    have w2 : IntKind.u8.wrap ((v : Int) % 256) = (v : Int) % 256 := by rw [wrapU8]; omega
    have w3 : IntKind.u64.wrap ((v : Int) / 256) = ((v / 256 : Nat) : Int) := by rw [IntKind.wrap_u64]; omega
    have w4 := wrap_succ j (by omega)
    have w5 : ((v : Int) % 256).toNat = v % 256 := by omega
    (repeat' (first | refine awp_seq ?_ | refine awp_block ?_ | ((first | refine awp_skip ?_ | refine awp_exit ?_); simp only [ak, reduceIte]) | (refine awp_ret ?_; simp only [ak, reduceIte]; simp [f0, f1, f5, f6, hlt, w0, w1, w2, w3, w4, w5, hl]) | (refine awp_cond ?_; simp [f0, f1, f5, f6, hlt, w0, w1, w2, w3, w4, w5, hl]; (try with_reducible refine ⟨?_, ?_⟩) <;> (try with_reducible intro hc) <;> try (exfalso; omega)) | ((first | (refine w_e [] ?_; intro J hJ; simp only []) | (refine w_q ?_; intro J hJ) | refine e_go ?_); simp [f0, f1, f5, f6, hlt, w0, w1, w2, w3, w4, w5, hl]; (repeat refine ca ?_); (try ((try with_reducible refine ⟨?_, ?_⟩) <;> (try with_reducible intro hnil) <;> refine hJ _ _ ?_ <;> clear hJ J <;> simp only [ak, reduceIte] <;> try subst hnil)))))
    exact hJ _ _ _ (by omega) ⟨j + 1, hlt, rfl, by simp [hd], by simp [f1], by simp [hs], by simp, hk.trans (Keeps.new _ _)⟩
  · obtain rfl : j = b := by omega
    (repeat' (first | refine awp_seq ?_ | refine awp_block ?_ | ((first | refine awp_skip ?_ | refine awp_exit ?_); simp only [ak, reduceIte]) | (refine awp_ret ?_; simp only [ak, reduceIte]; simp [f0, f1, f5, f6, hlt]) | (refine awp_cond ?_; simp [f0, f1, f5, f6, hlt]; (try with_reducible refine ⟨?_, ?_⟩) <;> (try with_reducible intro hc) <;> try (exfalso; omega)) | ((first | (refine w_e [] ?_; intro J hJ; simp only []) | (refine w_q ?_; intro J hJ) | refine e_go ?_); simp [f0, f1, f5, f6, hlt]; (repeat refine ca ?_); (try ((try with_reducible refine ⟨?_, ?_⟩) <;> (try with_reducible intro hnil) <;> refine hJ _ _ ?_ <;> clear hJ J <;> simp only [ak, reduceIte] <;> try subst hnil)))))
    exact hk
theorem fours_one (n : Nat) : Wb.fours [n] = Wb.numB n 4 := by simp [Wb.fours]
theorem fours_app (a b : List Nat) : Wb.fours (a ++ b) = Wb.fours a ++ Wb.fours b := by simp [Wb.fours]
theorem us_dropL (l : List Int) (j : Nat) (hj : j < l.length) : (us l).drop j = u (l.getD j 0) :: us (l.drop (j + 1)) := by
  rw [← List.map_drop, List.drop_eq_getElem_cons hj, List.getD_eq_getElem?_getD, List.getElem?_eq_getElem hj]
  rfl
theorem fours_takeI (l : List Int) (j : Nat) (hj : j < l.length) : Wb.fours ((l.take (j + 1)).map Int.toNat) = Wb.fours ((l.take j).map Int.toNat) ++ Wb.numB (l.getD j 0).toNat 4 := by
  rw [List.take_succ_eq_append_getElem hj, List.map_append, fours_app, List.getD_eq_getElem?_getD, List.getElem?_eq_getElem hj]
  simp [Wb.fours]
theorem rLay (l : List Sq) (st : St) (hl : ∀ s ∈ l, s.ok) (h60 : l.length ≤ 60) :
    ACalls Tryz.prog 11 [.sl 0 l.length (sqs l)] st fun r st' => r = sv (layB l) ∧ st' = st := by
  refine acalls_tidy (Q := fun r => r = sv (layB l)) ?_ fun r h => by subst h; trivial
  have hw : IntKind.u64.wrap (l.length : Int) = l.length := by rw [IntKind.wrap_u64]; omega
  have hsl := sqs_length l
  refine acalls_of_body tabOk Tryz.func11 rfl rfl Tryz.ntmps11 (rs := [.tmp 2]) rfl (by simp) ?_
  (repeat' (first | refine awp_seq ?_ | refine awp_block ?_ | ((first | refine awp_skip ?_ | refine awp_exit ?_); simp only [ak, reduceIte]) | (refine awp_ret ?_; simp only [ak, reduceIte]; simp [hw]) | (refine awp_cond ?_; simp [hw]; (try with_reducible refine ⟨?_, ?_⟩) <;> (try with_reducible intro hc) <;> try (exfalso; omega)) | ((first | (refine w_e [] ?_; intro J hJ; simp only []) | (refine w_q ?_; intro J hJ) | refine e_go ?_); simp [hw]; (repeat refine ca ?_); (try ((try with_reducible refine ⟨?_, ?_⟩) <;> (try with_reducible intro hnil) <;> refine hJ _ _ ?_ <;> clear hJ J <;> simp only [ak, reduceIte] <;> try subst hnil)))))
  refine callK_ofE (rNumS l.length 4 _ (by omega) (by omega)) (by simp) ?_; rintro r s1 ⟨rfl, h⟩
  rw [h]; clear h s1
  (repeat' (first | refine awp_seq ?_ | refine awp_block ?_ | ((first | refine awp_skip ?_ | refine awp_exit ?_); simp only [ak, reduceIte]) | (refine awp_ret ?_; simp only [ak, reduceIte]; simp []) | (refine awp_cond ?_; simp []; (try with_reducible refine ⟨?_, ?_⟩) <;> (try with_reducible intro hc) <;> try (exfalso; omega)) | ((first | (refine w_e [] ?_; intro J hJ; simp only []) | (refine w_q ?_; intro J hJ) | refine e_go ?_); simp []; (repeat refine ca ?_); (try ((try with_reducible refine ⟨?_, ?_⟩) <;> (try with_reducible intro hnil) <;> refine hJ _ _ ?_ <;> clear hJ J <;> simp only [ak, reduceIte] <;> try subst hnil)))))
  refine awp_range 14 13 15 47 (l.length) (fun j fr st2 => fr 3 = sv (Wb.numB l.length 4 ++ stepsB (l.take j)) ∧ fr 12 = .sl 0 l.length (sqs l) ∧ Keeps st st2) ?_ ?_ ?_
  · exact ⟨by simp [stepsB], by simp, Keeps.refl _⟩
  · rintro jo fr s hlt ⟨f3, f12, hk⟩ fi fn JO hJO
    have hd := sqs_drop l jo hlt
    have hso := getD_ok hl hlt
    have htk := stepsB_take l jo hlt
    have hj6 : jo * 6 < l.length * 6 := by omega
    have hbl := stepsB_len (l.take jo)
    rw [List.length_take] at hbl
    have hb : (Wb.numB l.length 4 ++ stepsB (l.take jo)).length ≤ 800000 := by
      rw [List.length_append, Wb.numB_len _ 4 (by omega), hbl]; omega
    generalize hB : Wb.numB l.length 4 ++ stepsB (l.take jo) = B at *
    generalize l.getD jo sq0 = y at *
    obtain ⟨k, id, a, b, pa, pb⟩ := y
    obtain ⟨⟨hk1, hk2⟩, h1, h2, h3, h4, h5⟩ := hso
    simp only [U32] at h1 h2 h3 h4 h5
    simp only at hd hk1 hk2
    have e1 : (IntKind.u64.wrap k).tmod 256 = ((k % 256).toNat : Int) := by
      rw [IntKind.wrap_u64, Int.tmod_eq_emod_of_nonneg (by omega)]
      omega
    have hn1 := Wb.numB_len (k % 256).toNat 1 (by omega)
    have x1 : ¬ s.next = s.next + 1 := by omega
    (repeat' (first | refine awp_seq ?_ | refine awp_block ?_ | ((first | refine awp_skip ?_ | refine awp_exit ?_); simp only [ak, reduceIte]) | (refine awp_ret ?_; simp only [ak, reduceIte]; simp [f12, fi, fn, hlt, hd, hsl, hj6, f3, e1]) | (refine awp_cond ?_; simp [f12, fi, fn, hlt, hd, hsl, hj6, f3, e1]; (try with_reducible refine ⟨?_, ?_⟩) <;> (try with_reducible intro hc) <;> try (exfalso; omega)) | ((first | (refine w_e [] ?_; intro J hJ; simp only []) | (refine w_q ?_; intro J hJ) | refine e_go ?_); simp [f12, fi, fn, hlt, hd, hsl, hj6, f3, e1]; (repeat refine ca ?_); (try ((try with_reducible refine ⟨?_, ?_⟩) <;> (try with_reducible intro hnil) <;> refine hJ _ _ ?_ <;> clear hJ J <;> simp only [ak, reduceIte] <;> try subst hnil)))))
    refine callK_ofE (rNumS (k % 256).toNat 1 _ (by omega) (by omega)) (by simp) ?_; rintro r s1 ⟨rfl, h⟩
    rw [h]; clear h s1
    have c1 : B.length + 1 ≤ 9223372036854775807 := by omega
    (repeat' (first | refine awp_seq ?_ | refine awp_block ?_ | ((first | refine awp_skip ?_ | refine awp_exit ?_); simp only [ak, reduceIte]) | (refine awp_ret ?_; simp only [ak, reduceIte]; simp [hn1, c1]) | (refine awp_cond ?_; simp [hn1, c1]; (try with_reducible refine ⟨?_, ?_⟩) <;> (try with_reducible intro hc) <;> try (exfalso; omega)) | ((first | (refine w_e [] ?_; intro J hJ; simp only []) | (refine w_q ?_; intro J hJ) | refine e_go ?_); simp [hn1, c1]; (repeat refine ca ?_); (try ((try with_reducible refine ⟨?_, ?_⟩) <;> (try with_reducible intro hnil) <;> refine hJ _ _ ?_ <;> clear hJ J <;> simp only [ak, reduceIte] <;> try subst hnil)))))
    generalize hB1 : B ++ Wb.numB (k % 256).toNat 1 = B1 at *
    have hl1 : B1.length = B.length + 1 := by rw [← hB1, List.length_append, hn1]
    clear hd f3 e1
    have hL5 : ∀ x ∈ [id, a, b, pa, pb], 0 ≤ x ∧ x < 4294967296 := by
      intro n hn
      simp only [List.mem_cons, List.not_mem_nil, or_false] at hn
      rcases hn with rfl | rfl | rfl | rfl | rfl <;> assumption
    have hus : [u id, u a, u b, u pa, u pb] = us [id, a, b, pa, pb] := rfl
    have hst : stepB ⟨k, id, a, b, pa, pb⟩ = Wb.numB (k % 256).toNat 1 ++ Wb.fours (([id, a, b, pa, pb].take 5).map Int.toNat) := rfl
    have hlen5 : [id, a, b, pa, pb].length = 5 := rfl
    have hu5 : (us [id, a, b, pa, pb]).length = 5 := rfl
    generalize hLL : [id, a, b, pa, pb] = L at *
    refine awp_range 37 36 38 46 (5) (fun j fr st2 => fr 3 = sv (B1 ++ Wb.fours ((L.take j).map Int.toNat)) ∧ fr 12 = .sl 0 l.length (sqs l) ∧ fr 13 = i l.length ∧ fr 14 = i jo ∧ fr 35 = .sl (s.next + 1) 5 (us L) ∧ Keeps st st2) ?_ ?_ ?_
    · exact ⟨by simp [Wb.fours], by simp [f12], by simp [fn], by simp [fi], by simp [← hus], ((hk.trans (Keeps.new _ _)).set (by have := hk.next; omega) _).trans (Keeps.new _ _)⟩
    · clear fi fn f12
      rintro j fr s2 hlt5 ⟨f3, f12, f13, f14, f35, hk2'⟩ fi fn JI hJI
      have hj5 : j < L.length := by omega
      have hdL := us_dropL L j hj5
      have hft := fours_takeI L j hj5
      have hft2 := hft
      rw [List.map_take, List.map_take] at hft2
      have hx := hL5 (L.getD j 0) (by rw [List.getD_eq_getElem?_getD, List.getElem?_eq_getElem hj5]; exact List.getElem_mem hj5)
      have hf5 := Wb.fours_len ((L.take j).map Int.toNat)
      rw [List.length_map, List.length_take] at hf5
      generalize L.getD j 0 = x at *
      have w1 : IntKind.u64.wrap x = ((x.toNat : Nat) : Int) := by rw [IntKind.wrap_u64]; omega
      have hn4 := Wb.numB_len x.toNat 4 (by omega)
      have c2 : (B1 ++ Wb.fours ((L.take j).map Int.toNat)).length + 4 ≤ 9223372036854775807 := by rw [List.length_append]; omega
      generalize hF : B1 ++ Wb.fours ((L.take j).map Int.toNat) = F at *
      (repeat' (first | refine awp_seq ?_ | refine awp_block ?_ | ((first | refine awp_skip ?_ | refine awp_exit ?_); simp only [ak, reduceIte]) | (refine awp_ret ?_; simp only [ak, reduceIte]; simp [f3, f35, fi, fn, w1, hdL, hlt5, hu5]) | (refine awp_cond ?_; simp [f3, f35, fi, fn, w1, hdL, hlt5, hu5]; (try with_reducible refine ⟨?_, ?_⟩) <;> (try with_reducible intro hc) <;> try (exfalso; omega)) | ((first | (refine w_e [] ?_; intro J hJ; simp only []) | (refine w_q ?_; intro J hJ) | refine e_go ?_); simp [f3, f35, fi, fn, w1, hdL, hlt5, hu5]; (repeat refine ca ?_); (try ((try with_reducible refine ⟨?_, ?_⟩) <;> (try with_reducible intro hnil) <;> refine hJ _ _ ?_ <;> clear hJ J <;> simp only [ak, reduceIte] <;> try subst hnil)))))
      refine callK_ofE (rNumS x.toNat 4 _ (by omega) (by omega)) (by simp) ?_; rintro r s1 ⟨rfl, h⟩
      rw [h]; clear h s1
      (repeat' (first | refine awp_seq ?_ | refine awp_block ?_ | ((first | refine awp_skip ?_ | refine awp_exit ?_); simp only [ak, reduceIte]) | (refine awp_ret ?_; simp only [ak, reduceIte]; simp [hn4, c2]) | (refine awp_cond ?_; simp [hn4, c2]; (try with_reducible refine ⟨?_, ?_⟩) <;> (try with_reducible intro hc) <;> try (exfalso; omega)) | ((first | (refine w_e [] ?_; intro J hJ; simp only []) | (refine w_q ?_; intro J hJ) | refine e_go ?_); simp [hn4, c2]; (repeat refine ca ?_); (try ((try with_reducible refine ⟨?_, ?_⟩) <;> (try with_reducible intro hnil) <;> refine hJ _ _ ?_ <;> clear hJ J <;> simp only [ak, reduceIte] <;> try subst hnil)))))
      exact hJI _ _ (by simp [fi]) (by simp [fn]) ⟨by simp [hft2, ← hF], by simp [f12], by simp [f13], by simp [f14], by simp [f35], hk2'⟩
    · rintro fr s2 ⟨f3, f12, f13, f14, f35, hk2'⟩
      (repeat' (first | refine awp_seq ?_ | refine awp_block ?_ | ((first | refine awp_skip ?_ | refine awp_exit ?_); simp only [ak, reduceIte]) | (refine awp_ret ?_; simp only [ak, reduceIte]; simp []) | (refine awp_cond ?_; simp []; (try with_reducible refine ⟨?_, ?_⟩) <;> (try with_reducible intro hc) <;> try (exfalso; omega)) | ((first | (refine w_e [] ?_; intro J hJ; simp only []) | (refine w_q ?_; intro J hJ) | refine e_go ?_); simp []; (repeat refine ca ?_); (try ((try with_reducible refine ⟨?_, ?_⟩) <;> (try with_reducible intro hnil) <;> refine hJ _ _ ?_ <;> clear hJ J <;> simp only [ak, reduceIte] <;> try subst hnil)))))
      exact hJO _ _ (by simp [f14]) (by simp [f13]) ⟨by simp [f3, htk, hst, ← hB, ← hB1], by simp [f12], hk2'⟩
  · rintro fr s ⟨f3, f12, hk⟩
    rw [List.take_length] at f3
    (repeat' (first | refine awp_seq ?_ | refine awp_block ?_ | ((first | refine awp_skip ?_ | refine awp_exit ?_); simp only [ak, reduceIte]) | (refine awp_ret ?_; simp only [ak, reduceIte]; simp [f3]) | (refine awp_cond ?_; simp [f3]; (try with_reducible refine ⟨?_, ?_⟩) <;> (try with_reducible intro hc) <;> try (exfalso; omega)) | ((first | (refine w_e [] ?_; intro J hJ; simp only []) | (refine w_q ?_; intro J hJ) | refine e_go ?_); simp [f3]; (repeat refine ca ?_); (try ((try with_reducible refine ⟨?_, ?_⟩) <;> (try with_reducible intro hnil) <;> refine hJ _ _ ?_ <;> clear hJ J <;> simp only [ak, reduceIte] <;> try subst hnil)))))
    exact ⟨rfl, hk⟩
end Go.Proofs.YtjkmgimedkomkaaGreat.Aw

namespace Go.Proofs.YtjkmgimedkomkaaGreat.Aw
open Go Go.RowKit
set_option linter.unusedSimpArgs false
set_option linter.unusedVariables false

theorem fold_val : ∀ (l : List UInt8) (n : Nat), l.foldl (fun n b => n * 256 + b.toNat) n = n * 256 ^ l.length + valF l
  | [], n => by simp [valF]
  | b :: l, n => by
    have h1 := fold_val l (n * 256 + b.toNat)
    have h2 := fold_val l b.toNat
    rw [List.foldl_cons, h1]
    have : valF (b :: l) = b.toNat * 256 ^ l.length + valF l := by
      show (b :: l).foldl _ 0 = _
      rw [List.foldl_cons, Nat.zero_mul, Nat.zero_add, h2]
    rw [this, List.length_cons, Nat.pow_succ, Nat.add_mul, Nat.mul_assoc, Nat.mul_comm 256 (256 ^ l.length)]
    omega
theorem valF_cons (b : UInt8) (l : List UInt8) : valF (b :: l) = b.toNat * 256 ^ l.length + valF l := by
  show (b :: l).foldl _ 0 = _
  rw [List.foldl_cons, Nat.zero_mul, Nat.zero_add, fold_val]
theorem valF_numB (n : Nat) : ∀ j, j ≤ 8 → valF (Wb.numB n j) = n % 256 ^ j
  | 0, _ => by rw [numB_zero]; simp [valF, Nat.mod_one]
  | j + 1, h => by
    rw [numB_succ n j (by omega), valF_cons, Wb.numB_len n j (by omega), valF_numB n j (by omega)]
    have : (UInt8.ofNat (n / 256 ^ j % 256)).toNat = n / 256 ^ j % 256 := by
      rw [UInt8.toNat_ofNat']
      exact Nat.mod_eq_of_lt (Nat.mod_lt _ (by decide))
    rw [this, Nat.pow_succ, Nat.mod_mul, Nat.add_comm, Nat.mul_comm]
theorem nmF_numB (n k : Nat) (hk : k ≤ 8) (hn : n < 256 ^ k) (rest : List UInt8) : nmF k (0, Wb.numB n k ++ rest) = ((n : Int), (0, rest)) := by
  have hl := Wb.numB_len n k hk
  have h1 : nxF k (0, Wb.numB n k ++ rest) = (Wb.numB n k, (0, rest)) := by
    unfold nxF
    rw [if_neg (by simp), if_neg (by simp; omega)]
    have hk' : ((k : Nat) : Int).toNat = (Wb.numB n k).length := by rw [hl]; exact Int.toNat_natCast k
    simp only [hk', List.take_left, List.drop_left]
  unfold nmF
  rw [h1, valF_numB n k hk, Nat.mod_eq_of_lt hn]
theorem nmF_four (n : Int) (hn : U32 n) (rest : List UInt8) : nmF 4 (0, Wb.numB n.toNat 4 ++ rest) = (n, (0, rest)) := by
  have := nmF_numB n.toNat 4 (by omega) (by have := hn.2; have := hn.1; show n.toNat < 4294967296; omega) rest
  rw [Int.toNat_of_nonneg hn.1] at this
  exact this
theorem nmF_one (n : Int) (h0 : 0 ≤ n) (h1 : n < 256) (rest : List UInt8) : nmF 1 (0, Wb.numB n.toNat 1 ++ rest) = (n, (0, rest)) := by
  have := nmF_numB n.toNat 1 (by omega) (by show n.toNat < 256; omega) rest
  rw [Int.toNat_of_nonneg h0] at this
  exact this
theorem tkF_step (s : Sq) (hs : s.ok) (h1 : 1 ≤ s.k) (h4 : s.k ≤ 4) (rest : List UInt8) : tkF (0, stepB s ++ rest) = (s, (0, rest)) := by
  obtain ⟨k, id, a, b, pa, pb⟩ := s
  obtain ⟨_, q1, q2, q3, q4, q5⟩ := hs
  simp only at h1 h4 q1 q2 q3 q4 q5
  have hk : (k % 256).toNat = k.toNat := by omega
  have hb : stepB ⟨k, id, a, b, pa, pb⟩ ++ rest = Wb.numB k.toNat 1 ++ (Wb.numB id.toNat 4 ++ (Wb.numB a.toNat 4 ++ (Wb.numB b.toNat 4 ++ (Wb.numB pa.toNat 4 ++ (Wb.numB pb.toNat 4 ++ rest))))) := by
    simp [stepB, five, Wb.fours, hk]
  rw [hb, tkF_eq _ (nmF_one k (by omega) (by omega) _) (nmF_four id q1 _) (nmF_four a q2 _) (nmF_four b q3 _) (nmF_four pa q4 _) (nmF_four pb q5 _), if_neg (by omega)]
theorem rowsF_steps : ∀ (l : List Sq) (acc : List Sq) (rest : List UInt8), (∀ s ∈ l, s.ok) → (∀ s ∈ l, 1 ≤ s.k ∧ s.k ≤ 4) → rowsF l.length (0, stepsB l ++ rest) acc = (some (acc ++ l), (0, rest))
  | [], acc, rest, _, _ => by simp [rowsF, stepsB]
  | s :: l, acc, rest, h1, h2 => by
    have hk := h2 s (by simp)
    have ht := tkF_step s (h1 s (by simp)) hk.1 hk.2 (stepsB l ++ rest)
    have hb : stepsB (s :: l) ++ rest = stepB s ++ (stepsB l ++ rest) := by simp [stepsB]
    rw [List.length_cons, rowsF, hb, ht, if_neg (by simp)]
    have := rowsF_steps l (acc ++ [s]) rest (fun x hx => h1 x (by simp [hx])) (fun x hx => h2 x (by simp [hx]))
    simpa using this
theorem takeF_lay (l : List Sq) (h60 : l.length ≤ 60) (h1 : ∀ s ∈ l, s.ok) (h2 : ∀ s ∈ l, 1 ≤ s.k ∧ s.k ≤ 4) : takeF 60 (0, layB l) = (some l, (0, [])) := by
  have hn := nmF_numB l.length 4 (by omega) (by show l.length < 4294967296; omega) (stepsB l)
  have hc : cntF 60 6 (0, layB l) = ((l.length : Int), (0, stepsB l)) := by
    unfold cntF layB
    rw [show ((4 : Nat) : Int) = 4 from rfl] at hn
    rw [hn, if_neg (by simp only; omega)]
  unfold takeF
  rw [hc]
  have := rowsF_steps l [] [] h1 h2
  simpa using this
theorem rSame11 (l : List Sq) (t t' : Nat) (st : St) (hl : l.length ≤ 100000) :
    ACalls Tryz.prog 12 [.sl t l.length (sqs l), .sl t' l.length (sqs l)] st fun r st' => r = bb true ∧ st' = st := by
  have hsl := sqs_length l
  refine acalls_of_body tabOk Tryz.func12 rfl rfl Tryz.ntmps12 (rs := [.tmp 4]) rfl (by simp) ?_
  (repeat' (first | refine awp_seq ?_ | refine awp_block ?_ | ((first | refine awp_skip ?_ | refine awp_exit ?_); simp only [ak, reduceIte]) | (refine awp_ret ?_; simp only [ak, reduceIte]; simp []) | (refine awp_cond ?_; simp []; (try with_reducible refine ⟨?_, ?_⟩) <;> (try with_reducible intro hc) <;> try (exfalso; omega)) | ((first | (refine w_e [] ?_; intro J hJ; simp only []) | (refine w_q ?_; intro J hJ) | refine e_go ?_); simp []; (repeat refine ca ?_); (try ((try with_reducible refine ⟨?_, ?_⟩) <;> (try with_reducible intro hnil) <;> refine hJ _ _ ?_ <;> clear hJ J <;> simp only [ak, reduceIte] <;> try subst hnil)))))
  refine awp_range 13 12 14 25 (l.length) (fun j fr st2 => fr 0 = .sl t l.length (sqs l) ∧ fr 1 = .sl t' l.length (sqs l) ∧ st2 = st) ?_ ?_ ?_
  · exact ⟨by simp, by simp, rfl⟩
  · rintro j fr s hlt ⟨f0, f1, rfl⟩ fi fn JO hJO
    have hd := sqs_drop l j hlt
    have hj6 : j * 6 < l.length * 6 := by omega
    generalize l.getD j sq0 = y at *
    obtain ⟨y1, y2, y3, y4, y5, y6⟩ := y
    simp only at hd
    (repeat' (first | refine awp_seq ?_ | refine awp_block ?_ | ((first | refine awp_skip ?_ | refine awp_exit ?_); simp only [ak, reduceIte]) | (refine awp_ret ?_; simp only [ak, reduceIte]; simp [f0, f1, fi, fn, hlt, hd, hsl, hj6]) | (refine awp_cond ?_; simp [f0, f1, fi, fn, hlt, hd, hsl, hj6]; (try with_reducible refine ⟨?_, ?_⟩) <;> (try with_reducible intro hc) <;> try (exfalso; omega)) | ((first | (refine w_e [] ?_; intro J hJ; simp only []) | (refine w_q ?_; intro J hJ) | refine e_go ?_); simp [f0, f1, fi, fn, hlt, hd, hsl, hj6]; (repeat refine ca ?_); (try ((try with_reducible refine ⟨?_, ?_⟩) <;> (try with_reducible intro hnil) <;> refine hJ _ _ ?_ <;> clear hJ J <;> simp only [ak, reduceIte] <;> try subst hnil)))))
    exact hJO _ _ (by simp [fi]) (by simp [fn]) ⟨by simp [f0], by simp [f1], rfl⟩
  · rintro fr s ⟨f0, f1, rfl⟩
    (repeat' (first | refine awp_seq ?_ | refine awp_block ?_ | ((first | refine awp_skip ?_ | refine awp_exit ?_); simp only [ak, reduceIte]) | (refine awp_ret ?_; simp only [ak, reduceIte]; simp []) | (refine awp_cond ?_; simp []; (try with_reducible refine ⟨?_, ?_⟩) <;> (try with_reducible intro hc) <;> try (exfalso; omega)) | ((first | (refine w_e [] ?_; intro J hJ; simp only []) | (refine w_q ?_; intro J hJ) | refine e_go ?_); simp []; (repeat refine ca ?_); (try ((try with_reducible refine ⟨?_, ?_⟩) <;> (try with_reducible intro hnil) <;> refine hJ _ _ ?_ <;> clear hJ J <;> simp only [ak, reduceIte] <;> try subst hnil)))))
end Go.Proofs.YtjkmgimedkomkaaGreat.Aw

namespace Go.Proofs.YtjkmgimedkomkaaGreat.Aw
open Go Go.RowKit
set_option linter.unusedSimpArgs false
set_option linter.unusedVariables false

/-- What is known ahead of the evaluation: what is laid. -/
def primW : XCall := fun f args st =>
  if f = 33 then match args with
    | [.ag [.atom (.string o)], .ms l 0 n] => match st.H l with
      | .box _ s [.atom (.int .u32 x)] => if o.data.toList = [] ∧ n = 1 ∧ s = 1 ∧ x = 258 then some [(.ag [sv [0, 0, 1, 2]], st.set l .dead)] else none
      | _ => none
    | _ => none
  else if f = 46 then match args with
    | [.ag [.atom (.string o)], .ms l 0 n] => match st.H l with
      | .box _ s [.atom (.string x)] => if o.data.toList = [0, 0, 1, 2] ∧ n = 1 ∧ s = 1 ∧ x.data.toList = [97] then some [(.ag [sv [0, 0, 1, 2, 0, 0, 0, 1, 97]], st.set l .dead)] else none
      | _ => none
    | _ => none
  else none
theorem ba_of (o : ByteArray) {l : List UInt8} (h : o.data.toList = l) : LV.atom (.string o) = sv l := by subst h; cases o; rfl
theorem primW_ok : CallOk Tryz.prog primW := by
  intro f args st rs h
  unfold primW at h
  split at h
  · rename_i hf
    subst hf
    split at h
    · rename_i o l n
      split at h
      · rename_i e s x hH
        split at h
        · rename_i hc
          obtain ⟨h1, rfl, rfl, rfl⟩ := hc
          simp only [Option.some.injEq] at h; subst h
          rw [ba_of o h1]
          have := aFour [] [258] 0 (st.set l .dead) (by decide) (by intro n hn; simp only [List.mem_singleton] at hn; omega) (by decide)
          refine acalls_freezeArg (pre := [.ag [sv []]]) (post := []) hH (by simp) (ACalls.mono this ?_)
          rintro r st' ⟨rfl, rfl⟩
          exact List.mem_singleton.2 rfl
        · cases h
      · cases h
    · cases h
  · split at h
    · rename_i hf
      subst hf
      split at h
      · rename_i o l n
        split at h
        · rename_i e s x hH
          split at h
          · rename_i hc
            obtain ⟨h1, rfl, rfl, h2⟩ := hc
            simp only [Option.some.injEq] at h; subst h
            rw [ba_of x h2] at hH
            rw [ba_of o h1]
            have := aText [0, 0, 1, 2] [97] 0 (st.set l .dead) (by decide)
            refine acalls_freezeArg (pre := [.ag [sv [0, 0, 1, 2]]]) (post := []) hH (by simp) (ACalls.mono this ?_)
            rintro r st' ⟨rfl, rfl⟩
            exact List.mem_singleton.2 rfl
          · cases h
        · cases h
      · cases h
    · cases h
theorem wireNil (st : St) : ACalls Tryz.prog 5 [] st fun r st' => r = bb true ∧ st' = st :=
  acalls_closed tabOk fnsOk primW_ok mixed 1000000 true (by kernel_rfl)
end Go.Proofs.YtjkmgimedkomkaaGreat.Aw
