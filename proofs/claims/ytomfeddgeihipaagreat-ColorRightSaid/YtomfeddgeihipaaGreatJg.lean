/- The law ColorRight. -/
import Derived.Test.YtomfeddgeihipaaGreatJf
import Derived.Test.YtomfeddgeihipaaGreatAwShp
namespace Go.Proofs.YtomfeddgeihipaaGreat.Aw
open Go Go.RowKit Go.Proofs.YtomfeddgeihipaaGreat.Pl
set_option linter.unusedSimpArgs false
set_option linter.unusedVariables false

/-- A row of ints as values. -/
def is (l : List Int) : List LV := l.map i
theorem is_len (l : List Int) : (is l).length = l.length := by simp [is]
theorem is_drop (l : List Int) (k : Nat) (hk : k < l.length) : (is l).drop k = i (l.getD k 0) :: is (l.drop (k + 1)) := by
  rw [is, ← List.map_drop, List.drop_eq_getElem_cons hk, List.map_cons, List.getD_eq_getElem?_getD, List.getElem?_eq_getElem hk]; rfl
theorem shp_ints {lvs : List LV} (h : Shp tab 26 lvs) : ∃ l : List Int, lvs = [.sl 0 l.length (is l)] := by
  obtain ⟨es, h1, h2, h3⟩ := shp_slice rfl rfl h
  have : ∃ l : List Int, es = l.map (fun x => [i x]) := by
    clear h1 h2
    induction es with
    | nil => exact ⟨[], rfl⟩
    | cons x es ih =>
      obtain ⟨l, k1⟩ := ih (fun y hy => h3 y (by simp [hy]))
      obtain ⟨n, k3, _⟩ := shp_int rfl rfl (h3 x (by simp))
      exact ⟨n :: l, by rw [k1, k3]; rfl⟩
  obtain ⟨l, rfl⟩ := this
  refine ⟨l, ?_⟩
  rw [h1]
  have : (l.map fun x => [i x]).flatten = is l := by
    clear h1 h2 h3
    induction l with
    | nil => rfl
    | cons x l ih => simp only [List.map_cons, List.flatten_cons, ih, is]; rfl
  rw [this]; simp

def setC : Led → Int → Int → Led
  | [], v, w => [(v, w)]
  | (x, y) :: A, v, w => if v = x then (x, w) :: A else (x, y) :: setC A v w
theorem mset_setC (v w : Int) : ∀ A : Led, mset (clL A) [v] (i w) = clL (setC A v w)
  | [] => rfl
  | (x, y) :: A => by
    have ih := mset_setC v w A
    simp only [clL, List.map_cons, mset, setC] at ih ⊢
    by_cases h : v = x
    · subst h; simp
    · rw [if_neg (by simpa using h), if_neg h, ih]; rfl
theorem setC_len (v w : Int) : ∀ A : Led, (setC A v w).length ≤ A.length + 1
  | [] => by simp [setC]
  | (x, y) :: A => by
    have ih := setC_len v w A
    unfold setC
    split <;> simp; omega

set_option maxHeartbeats 4000000 in
theorem ColorRight (g : Gr) (vl cl : List Int) (st : St) :
    ACalls Tryz.prog 4 [.ag (grL g), .sl 0 vl.length (us vl), .sl 0 cl.length (is cl)] st fun r st' => r = bb true := by
  have hel := eds_length g.es
  have hcl := is_len cl
  refine acalls_of_body tabOk Tryz.func4 rfl rfl Tryz.ntmps4 (rs := [.tmp 6]) rfl (by simp) ?_
  refine awp_posG fun hpos => ?_
  (repeat' (first | refine awp_seq ?_ | refine awp_block ?_ | ((first | refine awp_skip ?_ | refine awp_exit ?_); simp only [ak, reduceIte]) | (refine awp_ret ?_; simp only [ak, reduceIte]; simp []) | (refine awp_cond ?_; simp []; (try with_reducible refine ⟨?_, ?_⟩) <;> (try with_reducible intro hc) <;> try (exfalso; omega)) | ((first | (refine w_e [] ?_; intro J hJ; simp only []) | (refine w_q ?_; intro J hJ) | refine e_go ?_); simp []; (repeat refine ca ?_); (try ((try with_reducible refine ⟨?_, ?_⟩) <;> (try with_reducible intro hnil) <;> refine hJ _ _ ?_ <;> clear hJ J <;> simp only [ak, reduceIte] <;> try subst hnil)))))
  refine callK_ofE (awake34 _) (by simp []) ?_; rintro r st' ⟨rfl, rfl⟩
  (repeat' (first | refine awp_seq ?_ | refine awp_block ?_ | ((first | refine awp_skip ?_ | refine awp_exit ?_); simp only [ak, reduceIte]) | (refine awp_ret ?_; simp only [ak, reduceIte]; simp []) | (refine awp_cond ?_; simp []; (try with_reducible refine ⟨?_, ?_⟩) <;> (try with_reducible intro hc) <;> try (exfalso; omega)) | ((first | (refine w_e [] ?_; intro J hJ; simp only []) | (refine w_q ?_; intro J hJ) | refine e_go ?_); simp []; (repeat refine ca ?_); (try ((try with_reducible refine ⟨?_, ?_⟩) <;> (try with_reducible intro hnil) <;> refine hJ _ _ ?_ <;> clear hJ J <;> simp only [ak, reduceIte] <;> try subst hnil)))))
  refine callK_ofE (ref_CheckA g _) (by simp) ?_; rintro r s1 ⟨rfl, hk1⟩
  have hn1 := hk1.next
  simp only [new_next] at hn1
  have hG1 : s1.H st.next = .box 38 2 (grL g) := by rw [hk1.H _ (by simp)]; simp
  by_cases hc : chk g = 0
  rotate_left
  · have hc1 : (chk g != 0) = true := by simpa using hc
    (repeat' (first | refine awp_seq ?_ | refine awp_block ?_ | ((first | refine awp_skip ?_ | refine awp_exit ?_); simp only [ak, reduceIte]) | (refine awp_ret ?_; simp only [ak, reduceIte]; simp [hc, hc1, hG1]) | (refine awp_cond ?_; simp [hc, hc1, hG1]; (try with_reducible refine ⟨?_, ?_⟩) <;> (try with_reducible intro hc) <;> try (exfalso; omega)) | ((first | (refine w_e [] ?_; intro J hJ; simp only []) | (refine w_q ?_; intro J hJ) | refine e_go ?_); simp [hc, hc1, hG1]; (repeat refine ca ?_); (try ((try with_reducible refine ⟨?_, ?_⟩) <;> (try with_reducible intro hnil) <;> refine hJ _ _ ?_ <;> clear hJ J <;> simp only [ak, reduceIte] <;> try subst hnil)))))
  have hc1 : (chk g != 0) = false := by simpa using hc
  have hF := chk_full hc
  by_cases h1 : 60 < g.es.length
  · have h1' : (60 : Int) < g.es.length := by omega
    (repeat' (first | refine awp_seq ?_ | refine awp_block ?_ | ((first | refine awp_skip ?_ | refine awp_exit ?_); simp only [ak, reduceIte]) | (refine awp_ret ?_; simp only [ak, reduceIte]; simp [hc, hc1, hG1, h1, h1']) | (refine awp_cond ?_; simp [hc, hc1, hG1, h1, h1']; (try with_reducible refine ⟨?_, ?_⟩) <;> (try with_reducible intro hc) <;> try (exfalso; omega)) | ((first | (refine w_e [] ?_; intro J hJ; simp only []) | (refine w_q ?_; intro J hJ) | refine e_go ?_); simp [hc, hc1, hG1, h1, h1']; (repeat refine ca ?_); (try ((try with_reducible refine ⟨?_, ?_⟩) <;> (try with_reducible intro hnil) <;> refine hJ _ _ ?_ <;> clear hJ J <;> simp only [ak, reduceIte] <;> try subst hnil)))))
  have h1' : ¬ (60 : Int) < g.es.length := by omega
  by_cases h2 : 100 < vl.length
  · have h2' : (100 : Int) < vl.length := by omega
    (repeat' (first | refine awp_seq ?_ | refine awp_block ?_ | ((first | refine awp_skip ?_ | refine awp_exit ?_); simp only [ak, reduceIte]) | (refine awp_ret ?_; simp only [ak, reduceIte]; simp [hc, hc1, hG1, h1, h1', h2, h2']) | (refine awp_cond ?_; simp [hc, hc1, hG1, h1, h1', h2, h2']; (try with_reducible refine ⟨?_, ?_⟩) <;> (try with_reducible intro hc) <;> try (exfalso; omega)) | ((first | (refine w_e [] ?_; intro J hJ; simp only []) | (refine w_q ?_; intro J hJ) | refine e_go ?_); simp [hc, hc1, hG1, h1, h1', h2, h2']; (repeat refine ca ?_); (try ((try with_reducible refine ⟨?_, ?_⟩) <;> (try with_reducible intro hnil) <;> refine hJ _ _ ?_ <;> clear hJ J <;> simp only [ak, reduceIte] <;> try subst hnil)))))
  have h2' : ¬ (100 : Int) < vl.length := by omega
  by_cases h3 : 100 < cl.length
  · have h3' : (100 : Int) < cl.length := by omega
    (repeat' (first | refine awp_seq ?_ | refine awp_block ?_ | ((first | refine awp_skip ?_ | refine awp_exit ?_); simp only [ak, reduceIte]) | (refine awp_ret ?_; simp only [ak, reduceIte]; simp [hc, hc1, hG1, h1, h1', h2, h2', h3, h3']) | (refine awp_cond ?_; simp [hc, hc1, hG1, h1, h1', h2, h2', h3, h3']; (try with_reducible refine ⟨?_, ?_⟩) <;> (try with_reducible intro hc) <;> try (exfalso; omega)) | ((first | (refine w_e [] ?_; intro J hJ; simp only []) | (refine w_q ?_; intro J hJ) | refine e_go ?_); simp [hc, hc1, hG1, h1, h1', h2, h2', h3, h3']; (repeat refine ca ?_); (try ((try with_reducible refine ⟨?_, ?_⟩) <;> (try with_reducible intro hnil) <;> refine hJ _ _ ?_ <;> clear hJ J <;> simp only [ak, reduceIte] <;> try subst hnil)))))
  have h3' : ¬ (100 : Int) < cl.length := by omega
  have hv := hF.l1
  (repeat' (first | refine awp_seq ?_ | refine awp_block ?_ | ((first | refine awp_skip ?_ | refine awp_exit ?_); simp only [ak, reduceIte]) | (refine awp_ret ?_; simp only [ak, reduceIte]; simp [hc, hc1, hG1, h1, h1', h2, h2', h3, h3']) | (refine awp_cond ?_; simp [hc, hc1, hG1, h1, h1', h2, h2', h3, h3']; (try with_reducible refine ⟨?_, ?_⟩) <;> (try with_reducible intro hc) <;> try (exfalso; omega)) | ((first | (refine w_e [] ?_; intro J hJ; simp only []) | (refine w_q ?_; intro J hJ) | refine e_go ?_); simp [hc, hc1, hG1, h1, h1', h2, h2', h3, h3']; (repeat refine ca ?_); (try ((try with_reducible refine ⟨?_, ?_⟩) <;> (try with_reducible intro hnil) <;> refine hJ _ _ ?_ <;> clear hJ J <;> simp only [ak, reduceIte] <;> try subst hnil)))))
  generalize hMd : s1.next = M at *
  refine awp_range 42 41 43 57 (vl.length) (fun j fr st2 => fr 2 = .sl 0 cl.length (is cl) ∧ fr 3 = .pt st.next 0 ∧ fr 7 = .mp M ∧ fr 40 = .sl 0 vl.length (us vl) ∧ st2.H st.next = .box 38 2 (grL g) ∧ M < st2.next ∧ ∃ A : Led, st2.H M = .map false [.u32] (clL A) ∧ A.length ≤ j) ?_ ?_ ?_
  · have e1 : ¬ st.next = M := by omega
    exact ⟨by simp, by simp, by simp, by simp, by simp [hMd, e1, hG1], by simp; omega, [], by simp [hMd, clL], by simp⟩
  · rintro j fr s hlt ⟨f2, f3, f7, f40, hG, hMn, A, hM, hA⟩ fi fn JO hJO
    have hd := us_drop_getD vl j hlt
    generalize vl.getD j 0 = v at *
    have e1 : ¬ st.next = M := by omega
    by_cases hj : j < cl.length
    · have hdc := is_drop cl j hj
      generalize cl.getD j 0 = c at *
      have hms := mset_setC v c A
      have hsl := setC_len v c A
      (repeat' (first | refine awp_seq ?_ | refine awp_block ?_ | ((first | refine awp_skip ?_ | refine awp_exit ?_); simp only [ak, reduceIte]) | (refine awp_ret ?_; simp only [ak, reduceIte]; simp [f2, f7, f40, fi, fn, hd, hlt, hM, hj, hdc, hcl, hms]) | (refine awp_cond ?_; simp [f2, f7, f40, fi, fn, hd, hlt, hM, hj, hdc, hcl, hms]; (try with_reducible refine ⟨?_, ?_⟩) <;> (try with_reducible intro hc) <;> try (exfalso; omega)) | ((first | (refine w_e [] ?_; intro J hJ; simp only []) | (refine w_q ?_; intro J hJ) | refine e_go ?_); simp [f2, f7, f40, fi, fn, hd, hlt, hM, hj, hdc, hcl, hms]; (repeat refine ca ?_); (try ((try with_reducible refine ⟨?_, ?_⟩) <;> (try with_reducible intro hnil) <;> refine hJ _ _ ?_ <;> clear hJ J <;> simp only [ak, reduceIte] <;> try subst hnil)))))
      exact hJO _ _ (by simp [fi]) (by simp [fn]) ⟨by simp [f2], by simp [f3], by simp [f7], by simp [f40], by simp [e1, hG], by simp [hMn], setC A v c, by simp, by omega⟩
    · (repeat' (first | refine awp_seq ?_ | refine awp_block ?_ | ((first | refine awp_skip ?_ | refine awp_exit ?_); simp only [ak, reduceIte]) | (refine awp_ret ?_; simp only [ak, reduceIte]; simp [f2, f7, f40, fi, fn, hd, hlt, hM, hj, hcl]) | (refine awp_cond ?_; simp [f2, f7, f40, fi, fn, hd, hlt, hM, hj, hcl]; (try with_reducible refine ⟨?_, ?_⟩) <;> (try with_reducible intro hc) <;> try (exfalso; omega)) | ((first | (refine w_e [] ?_; intro J hJ; simp only []) | (refine w_q ?_; intro J hJ) | refine e_go ?_); simp [f2, f7, f40, fi, fn, hd, hlt, hM, hj, hcl]; (repeat refine ca ?_); (try ((try with_reducible refine ⟨?_, ?_⟩) <;> (try with_reducible intro hnil) <;> refine hJ _ _ ?_ <;> clear hJ J <;> simp only [ak, reduceIte] <;> try subst hnil)))))
      exact hJO _ _ (by simp [fi]) (by simp [fn]) ⟨by simp [f2], by simp [f3], by simp [f7], by simp [f40], hG, hMn, A, hM, by omega⟩
  rintro fr s ⟨f2, f3, f7, f40, hG, hMn, A, hM, hA⟩
  have hAl : A.length ≤ 1000 := by omega
  have hcol := mget_col A
  (repeat' (first | refine awp_seq ?_ | refine awp_block ?_ | ((first | refine awp_skip ?_ | refine awp_exit ?_); simp only [ak, reduceIte]) | (refine awp_ret ?_; simp only [ak, reduceIte]; simp [f3, hG]) | (refine awp_cond ?_; simp [f3, hG]; (try with_reducible refine ⟨?_, ?_⟩) <;> (try with_reducible intro hc) <;> try (exfalso; omega)) | ((first | (refine w_e [] ?_; intro J hJ; simp only []) | (refine w_q ?_; intro J hJ) | refine e_go ?_); simp [f3, hG]; (repeat refine ca ?_); (try ((try with_reducible refine ⟨?_, ?_⟩) <;> (try with_reducible intro hnil) <;> refine hJ _ _ ?_ <;> clear hJ J <;> simp only [ak, reduceIte] <;> try subst hnil)))))
  refine awp_range 61 60 62 72 (g.vs.length) (fun j fr st2 => fr 3 = .pt st.next 0 ∧ fr 7 = .mp M ∧ fr 59 = .sl 0 g.vs.length (us g.vs) ∧ st2 = s ∧ fr 10 = bb ((g.vs.take j).all fun v => decide (0 < colF A v))) ?_ ?_ ?_
  · exact ⟨by simp [f3], by simp [f7], by simp, rfl, by simp⟩
  · rintro j fr s2 hlt ⟨g3, g7, g59, rfl, g10⟩ fi fn JO hJO
    have hd := us_drop_getD g.vs j hlt
    have htk : (g.vs.take (j + 1)).all (fun v => decide (0 < colF A v)) = ((g.vs.take j).all (fun v => decide (0 < colF A v)) && decide (0 < colF A (g.vs.getD j 0))) := by
      rw [List.take_succ_eq_append_getElem hlt, List.all_append, List.getD_eq_getElem?_getD, List.getElem?_eq_getElem hlt]; simp
    rw [htk] at hJO
    have hcv := hcol (g.vs.getD j 0)
    generalize g.vs.getD j 0 = v at *
    cases hb : (g.vs.take j).all fun v => decide (0 < colF A v)
    · rw [hb] at g10 hJO
      (repeat' (first | refine awp_seq ?_ | refine awp_block ?_ | ((first | refine awp_skip ?_ | refine awp_exit ?_); simp only [ak, reduceIte]) | (refine awp_ret ?_; simp only [ak, reduceIte]; simp [g7, g59, fi, fn, hd, hlt, g10]) | (refine awp_cond ?_; simp [g7, g59, fi, fn, hd, hlt, g10]; (try with_reducible refine ⟨?_, ?_⟩) <;> (try with_reducible intro hc) <;> try (exfalso; omega)) | ((first | (refine w_e [] ?_; intro J hJ; simp only []) | (refine w_q ?_; intro J hJ) | refine e_go ?_); simp [g7, g59, fi, fn, hd, hlt, g10]; (repeat refine ca ?_); (try ((try with_reducible refine ⟨?_, ?_⟩) <;> (try with_reducible intro hnil) <;> refine hJ _ _ ?_ <;> clear hJ J <;> simp only [ak, reduceIte] <;> try subst hnil)))))
      exact hJO _ _ (by simp [fi]) (by simp [fn]) ⟨by simp [g3], by simp [g7], by simp [g59], rfl, by simp⟩
    · rw [hb] at g10 hJO
      (repeat' (first | refine awp_seq ?_ | refine awp_block ?_ | ((first | refine awp_skip ?_ | refine awp_exit ?_); simp only [ak, reduceIte]) | (refine awp_ret ?_; simp only [ak, reduceIte]; simp [g7, g59, fi, fn, hd, hlt, g10, hM, hcv]) | (refine awp_cond ?_; simp [g7, g59, fi, fn, hd, hlt, g10, hM, hcv]; (try with_reducible refine ⟨?_, ?_⟩) <;> (try with_reducible intro hc) <;> try (exfalso; omega)) | ((first | (refine w_e [] ?_; intro J hJ; simp only []) | (refine w_q ?_; intro J hJ) | refine e_go ?_); simp [g7, g59, fi, fn, hd, hlt, g10, hM, hcv]; (repeat refine ca ?_); (try ((try with_reducible refine ⟨?_, ?_⟩) <;> (try with_reducible intro hnil) <;> refine hJ _ _ ?_ <;> clear hJ J <;> simp only [ak, reduceIte] <;> try subst hnil)))))
      exact hJO _ _ (by simp [fi]) (by simp [fn]) ⟨by simp [g3], by simp [g7], by simp [g59], rfl, by simp⟩
  rintro fr s2 ⟨g3, g7, g59, rfl, g10⟩
  rw [List.take_length] at g10
  clear f2 f3 f7 f40
  generalize hRV : g.vs.all (fun v => decide (0 < colF A v)) = rv at *
  (repeat' (first | refine awp_seq ?_ | refine awp_block ?_ | ((first | refine awp_skip ?_ | refine awp_exit ?_); simp only [ak, reduceIte]) | (refine awp_ret ?_; simp only [ak, reduceIte]; simp [g3, hG]) | (refine awp_cond ?_; simp [g3, hG]; (try with_reducible refine ⟨?_, ?_⟩) <;> (try with_reducible intro hc) <;> try (exfalso; omega)) | ((first | (refine w_e [] ?_; intro J hJ; simp only []) | (refine w_q ?_; intro J hJ) | refine e_go ?_); simp [g3, hG]; (repeat refine ca ?_); (try ((try with_reducible refine ⟨?_, ?_⟩) <;> (try with_reducible intro hnil) <;> refine hJ _ _ ?_ <;> clear hJ J <;> simp only [ak, reduceIte] <;> try subst hnil)))))
  refine awp_range 76 75 77 92 (g.es.length) (fun j fr st2 => fr 3 = .pt st.next 0 ∧ fr 7 = .mp M ∧ fr 74 = .sl 0 g.es.length (eds g.es) ∧ st2.H st.next = .box 38 2 (grL g) ∧ st2.H M = .map false [.u32] (clL A) ∧ M < st2.next ∧ fr 10 = bb (rv && (g.es.take j).all fun x => decide (colF A x.a ≠ colF A x.b))) ?_ ?_ ?_
  · exact ⟨by simp [g3], by simp [g7], by simp, hG, hM, hMn, by simp [g10]⟩
  · clear g3 g7 g59 g10 hG hM hMn
    rintro j fr s hlt ⟨g3, g7, g74, hG, hM, hMn, g10⟩ fi fn JO hJO
    have hd := eds_drop g.es j hlt
    have hk3 : j * 3 < g.es.length * 3 := by omega
    have htk : (g.es.take (j + 1)).all (fun x => decide (colF A x.a ≠ colF A x.b)) = ((g.es.take j).all (fun x => decide (colF A x.a ≠ colF A x.b)) && decide (colF A (g.es.getD j ed0).a ≠ colF A (g.es.getD j ed0).b)) := by
      rw [List.take_succ_eq_append_getElem hlt, List.all_append, List.getD_eq_getElem?_getD, List.getElem?_eq_getElem hlt]; simp
    rw [htk, ← Bool.and_assoc] at hJO
    generalize g.es.getD j ed0 = x at *
    obtain ⟨d, a, b⟩ := x
    have hca := hcol a
    have hcb := hcol b
    have e1 : ¬ st.next = s.next := by omega
    have e2 : ¬ M = s.next := by omega
    cases hb : (rv && (g.es.take j).all fun x => decide (colF A x.a ≠ colF A x.b))
    · rw [hb] at g10 hJO
      (repeat' (first | refine awp_seq ?_ | refine awp_block ?_ | ((first | refine awp_skip ?_ | refine awp_exit ?_); simp only [ak, reduceIte]) | (refine awp_ret ?_; simp only [ak, reduceIte]; simp [g7, g74, fi, fn, hd, hel, hk3, hlt, g10]) | (refine awp_cond ?_; simp [g7, g74, fi, fn, hd, hel, hk3, hlt, g10]; (try with_reducible refine ⟨?_, ?_⟩) <;> (try with_reducible intro hc) <;> try (exfalso; omega)) | ((first | (refine w_e [] ?_; intro J hJ; simp only []) | (refine w_q ?_; intro J hJ) | refine e_go ?_); simp [g7, g74, fi, fn, hd, hel, hk3, hlt, g10]; (repeat refine ca ?_); (try ((try with_reducible refine ⟨?_, ?_⟩) <;> (try with_reducible intro hnil) <;> refine hJ _ _ ?_ <;> clear hJ J <;> simp only [ak, reduceIte] <;> try subst hnil)))))
      exact hJO _ _ (by simp [fi]) (by simp [fn]) ⟨by simp [g3], by simp [g7], by simp [g74], by simp [e1, hG], by simp [e2, hM], by simp; omega, by simp⟩
    · rw [hb] at g10 hJO
      have hbd : (colF A a != colF A b) = decide (colF A a ≠ colF A b) := by rw [Bool.eq_iff_iff]; simp
      (repeat' (first | refine awp_seq ?_ | refine awp_block ?_ | ((first | refine awp_skip ?_ | refine awp_exit ?_); simp only [ak, reduceIte]) | (refine awp_ret ?_; simp only [ak, reduceIte]; simp [g7, g74, fi, fn, hd, hel, hk3, hlt, g10, hM, hca, hcb, e2]) | (refine awp_cond ?_; simp [g7, g74, fi, fn, hd, hel, hk3, hlt, g10, hM, hca, hcb, e2]; (try with_reducible refine ⟨?_, ?_⟩) <;> (try with_reducible intro hc) <;> try (exfalso; omega)) | ((first | (refine w_e [] ?_; intro J hJ; simp only []) | (refine w_q ?_; intro J hJ) | refine e_go ?_); simp [g7, g74, fi, fn, hd, hel, hk3, hlt, g10, hM, hca, hcb, e2]; (repeat refine ca ?_); (try ((try with_reducible refine ⟨?_, ?_⟩) <;> (try with_reducible intro hnil) <;> refine hJ _ _ ?_ <;> clear hJ J <;> simp only [ak, reduceIte] <;> try subst hnil)))))
      exact hJO _ _ (by simp [fi]) (by simp [fn]) ⟨by simp [g3], by simp [g7], by simp [g74], by simp [e1, hG], by simp [e2, hM], by simp; omega, by simp [hbd]⟩
  rintro fr s ⟨g3, g7, g74, hG, hM, hMn, g10⟩
  rw [List.take_length] at g10
  have hrb : rightB g (colF A) = (rv && g.es.all fun x => decide (colF A x.a ≠ colF A x.b)) := by unfold rightB; rw [hRV]
  rw [← hrb] at g10
  simp only [ak]
  have hmn : M ≠ s.next := by omega
  refine awp_seq ?_
  (refine w_e [] ?_; intro J hJ; simp only []; simp []; (repeat refine ca ?_); (try ((try with_reducible refine ⟨?_, ?_⟩) <;> (try with_reducible intro hnil) <;> refine hJ _ _ ?_ <;> clear hJ J <;> simp only [ak, reduceIte] <;> try subst hnil)))
  refine awp_seq ?_
  refine awp_mapRange tabOk [] (fun L fr s' => fr 3 = .pt st.next 0 ∧ fr 7 = .mp M ∧ fr 10 = bb (rightB g (colF A)) ∧ fr 15 = .mp s.next ∧ CntI s M s.next (bb true) false A L s') (m := M) (ag := false) (ks := [.u32]) (es := clL A) (by simp [g7]) (by rw [new_H, if_neg hmn]; exact hM) ?_ ?_ ?_ Tryz.underlying40
  · intro r
    refine ⟨by simp [g3], by simp [g7], by simp [g10], by simp, ⟨⟨A, [], rfl, by simp, [], ⟨by simp, by simp⟩, by simp, ?_⟩, ⟨by simp, fun l h1 h2 => by rw [set_H, if_neg h2, new_H, if_neg (by omega)]⟩, ⟨Nat.le_refl _, by simp⟩⟩⟩
    rw [set_H, if_neg (fun e => hmn e.symm), new_H, if_pos rfl]; rfl
  · clear g3 g7 g74 g10 hrb
    rintro r L1 p L2 fr s2 ⟨g3, g7, g10, g15, ⟨⟨B, D, hB, hpm, K, hK, hKl, hq⟩, ⟨hd1, hd2⟩, ⟨b1, b2⟩⟩⟩ ft J hJ
    obtain ⟨B1, B2, v, n, rfl, rfl, rfl, rfl⟩ := clL_split hB.symm
    have hpm2 : (A.map (·.2)).Perm ((B1 ++ B2).map (·.2) ++ ((v, n) :: D).map (·.2)) := by
      refine hpm.trans ?_
      simp only [List.map_append, List.map_cons]
      rw [List.append_assoc, List.append_assoc]
      refine List.Perm.append_left _ ?_
      exact List.perm_middle.symm
    have hK2 := hK.add n (((v, n) :: D).map (·.2)) (by simp)
    have hK2l : (if 0 < n then (if n ∈ K then K else K ++ [n]) else K).length ≤ ((v, n) :: D).length := by
      split
      · split <;> simp <;> omega
      · simp; omega
    have hms := mset_setM (bb true) n K
    have hmq : ¬ M = s.next := hmn
    refine e_go ?_
    simp [keyV, mkC]
    by_cases h0 : 0 < n
    · have h0b : decide (0 < n) = true := decide_eq_true h0
      (repeat' (first | refine awp_seq ?_ | refine awp_block ?_ | ((first | refine awp_skip ?_ | refine awp_exit ?_); simp only [ak, reduceIte]) | (refine awp_ret ?_; simp only [ak, reduceIte]; simp [h0, h0b, g15, hq, hms]) | (refine awp_cond ?_; simp [h0, h0b, g15, hq, hms]; (try with_reducible refine ⟨?_, ?_⟩) <;> (try with_reducible intro hc) <;> try (exfalso; omega)) | ((first | (refine w_e [] ?_; intro J hJ; simp only []) | (refine w_q ?_; intro J hJ) | refine e_go ?_); simp [h0, h0b, g15, hq, hms]; (repeat refine ca ?_); (try ((try with_reducible refine ⟨?_, ?_⟩) <;> (try with_reducible intro hnil) <;> refine hJ _ _ ?_ <;> clear hJ J <;> simp only [ak, reduceIte] <;> try subst hnil)))))
      refine hJ _ _ ⟨by simp [g3], by simp [g7], by simp [g10], by simp [g15], ⟨B1 ++ B2, (v, n) :: D, clL_app _ _, hpm2, _, hK2, hK2l, ?_⟩, ⟨?_, fun l h1 h2 => ?_⟩, ⟨b1, by simpa using b2⟩⟩ (by simp [ft])
      · rw [set_H, if_pos rfl, if_pos h0]
      · rw [set_H, if_neg hmq]; exact hd1
      · rw [set_H, if_neg (by omega)]; exact hd2 l h1 h2
    · have h0b : decide (0 < n) = false := decide_eq_false h0
      rw [if_neg h0] at hK2 hK2l
      (repeat' (first | refine awp_seq ?_ | refine awp_block ?_ | ((first | refine awp_skip ?_ | refine awp_exit ?_); simp only [ak, reduceIte]) | (refine awp_ret ?_; simp only [ak, reduceIte]; simp [h0, h0b, g15]) | (refine awp_cond ?_; simp [h0, h0b, g15]; (try with_reducible refine ⟨?_, ?_⟩) <;> (try with_reducible intro hc) <;> try (exfalso; omega)) | ((first | (refine w_e [] ?_; intro J hJ; simp only []) | (refine w_q ?_; intro J hJ) | refine e_go ?_); simp [h0, h0b, g15]; (repeat refine ca ?_); (try ((try with_reducible refine ⟨?_, ?_⟩) <;> (try with_reducible intro hnil) <;> refine hJ _ _ ?_ <;> clear hJ J <;> simp only [ak, reduceIte] <;> try subst hnil)))))
      exact hJ _ _ ⟨by simp [g3], by simp [g7], by simp [g10], by simp [g15], ⟨B1 ++ B2, (v, n) :: D, clL_app _ _, hpm2, _, hK2, hK2l, hq⟩, ⟨hd1, hd2⟩, ⟨b1, b2⟩⟩ (by simp [ft])
  · clear g3 g7 g74 g10 hrb
    rintro fr s2 ⟨g3, g7, g10, g15, ⟨⟨B, D, hB, hpm, K, hK, hKl, hq⟩, ⟨hd1, hd2⟩, ⟨b1, b2⟩⟩⟩
    simp only [ak]
    have hB0 : B = [] := by
      cases B with
      | nil => rfl
      | cons x B => simp [clL] at hB
    subst hB0
    have hmq : ¬ s.next = M := fun e => hmn e.symm
    have hDl : D.length = A.length := by have := hpm.length_eq; simpa using this.symm
    have hKA : IsPos (A.map (·.2)) K := ⟨hK.1, fun x => by
      rw [hK.2]
      have := hpm.mem_iff (a := x)
      simp only [List.map_nil, List.nil_append] at this
      rw [this]⟩
    have hsl := setM_len (bb true) K
    have hKl2 : K.length ≤ 1000 := by omega
    have e1 : ¬ st.next = M := by omega
    have hG2 : (s2.set M (.map false [.u32] (clL A))).H st.next = .box 38 2 (grL g) := by rw [set_H, if_neg e1]; exact (hd2 _ (by omega) e1).trans hG
    have hM2 : (s2.set M (.map false [.u32] (clL A))).H M = .map false [.u32] (clL A) := by rw [set_H, if_pos rfl]
    have hq2 : (s2.set M (.map false [.u32] (clL A))).H s.next = .map false [.i64] (setM (bb true) K) := by rw [set_H, if_neg hmq]; exact hq
    have n2 : (s2.set M (.map false [.u32] (clL A))).next = s2.next := by simp
    generalize s2.set M (.map false [.u32] (clL A)) = s3 at *
    (repeat' (first | refine awp_seq ?_ | refine awp_block ?_ | ((first | refine awp_skip ?_ | refine awp_exit ?_); simp only [ak, reduceIte]) | (refine awp_ret ?_; simp only [ak, reduceIte]; simp [g3, g7, hG2]) | (refine awp_cond ?_; simp [g3, g7, hG2]; (try with_reducible refine ⟨?_, ?_⟩) <;> (try with_reducible intro hc) <;> try (exfalso; omega)) | ((first | (refine w_e [] ?_; intro J hJ; simp only []) | (refine w_q ?_; intro J hJ) | refine e_go ?_); simp [g3, g7, hG2]; (repeat refine ca ?_); (try ((try with_reducible refine ⟨?_, ?_⟩) <;> (try with_reducible intro hnil) <;> refine hJ _ _ ?_ <;> clear hJ J <;> simp only [ak, reduceIte] <;> try subst hnil)))))
    refine callK_ofE (Right g M (clL A) (colF A) s3 (by omega) (by omega) hM2 (by omega) hcol) (by simp) ?_; rintro r s4 ⟨rfl, hk4⟩
    have hn4 := hk4.next
    have hM4 := (hk4.H M (by omega)).trans hM2
    have hq4 := (hk4.H s.next (by omega)).trans hq2
    (repeat' (first | refine awp_seq ?_ | refine awp_block ?_ | ((first | refine awp_skip ?_ | refine awp_exit ?_); simp only [ak, reduceIte]) | (refine awp_ret ?_; simp only [ak, reduceIte]; simp [g10, g7]) | (refine awp_cond ?_; simp [g10, g7]; (try with_reducible refine ⟨?_, ?_⟩) <;> (try with_reducible intro hc) <;> try (exfalso; omega)) | ((first | (refine w_e [] ?_; intro J hJ; simp only []) | (refine w_q ?_; intro J hJ) | refine e_go ?_); simp [g10, g7]; (repeat refine ca ?_); (try ((try with_reducible refine ⟨?_, ?_⟩) <;> (try with_reducible intro hnil) <;> refine hJ _ _ ?_ <;> clear hJ J <;> simp only [ak, reduceIte] <;> try subst hnil)))))
    refine callK_ofE (Count M A s4 hM4 (by omega) hAl) (by simp) ?_; rintro r s5 ⟨⟨K', hK', rfl⟩, hk5⟩
    have hq5 := (hk5.H s.next (by omega)).trans hq4
    have hKK : K'.length = K.length := hK'.len hKA fun _ => Iff.rfl
    (repeat' (first | refine awp_seq ?_ | refine awp_block ?_ | ((first | refine awp_skip ?_ | refine awp_exit ?_); simp only [ak, reduceIte]) | (refine awp_ret ?_; simp only [ak, reduceIte]; simp [g15, hq5, hsl, hKK]) | (refine awp_cond ?_; simp [g15, hq5, hsl, hKK]; (try with_reducible refine ⟨?_, ?_⟩) <;> (try with_reducible intro hc) <;> try (exfalso; omega)) | ((first | (refine w_e [] ?_; intro J hJ; simp only []) | (refine w_q ?_; intro J hJ) | refine e_go ?_); simp [g15, hq5, hsl, hKK]; (repeat refine ca ?_); (try ((try with_reducible refine ⟨?_, ?_⟩) <;> (try with_reducible intro hnil) <;> refine hJ _ _ ?_ <;> clear hJ J <;> simp only [ak, reduceIte] <;> try subst hnil)))))

theorem ColorRight_shp (l0 l1 l2 : List LV) (st : St) (h0 : Shp tab 38 l0) (h1 : Shp tab 35 l1) (h2 : Shp tab 26 l2) :
    ACalls Tryz.prog 4 [argT tab 38 l0, argT tab 35 l1, argT tab 26 l2] st fun r st' => r = bb true := by
  obtain ⟨g, rfl, _⟩ := shp_gr h0
  obtain ⟨vl, rfl, _⟩ := shp_us h1
  obtain ⟨cl, rfl⟩ := shp_ints h2
  exact ColorRight g vl cl st

end Go.Proofs.YtomfeddgeihipaaGreat.Aw
