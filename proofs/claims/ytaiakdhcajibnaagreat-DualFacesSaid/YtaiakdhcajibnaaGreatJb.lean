/- The library's sort, at rows of int: Less, insertionSort. The library's sort: siftDown, heapSort. The library's sort: heapSort. The library's sort: partition. Written by gensort.py. The library's sort: partitionEqual. Written by gensort.py. -/
import Derived.Test.YtaiakdhcajibnaaGreatJa
namespace Go.Proofs.YtaiakdhcajibnaaGreat.Aw.I
open Go Go.RowKit Go.Proofs.YtaiakdhcajibnaaGreat.Pl
set_option linter.unusedSimpArgs false
set_option linter.unusedVariables false

theorem isNaN (x : Int) (st : St) : ACalls Tryz.prog 188 [u x] st fun r st' => r = bb false ∧ st' = st := by
  refine acalls_of_body tabOk Tryz.func188 rfl rfl Tryz.ntmps188 (rs := [.tmp 2]) rfl (by simp) ?_
  (repeat' (first | refine awp_seq ?_ | refine awp_block ?_ | ((first | refine awp_skip ?_ | refine awp_exit ?_); simp only [ak, reduceIte]) | (refine awp_ret ?_; simp only [ak, reduceIte]; simp []) | (refine awp_cond ?_; simp []; (try with_reducible refine ⟨?_, ?_⟩) <;> (try with_reducible intro hc) <;> try (exfalso; omega)) | ((first | (refine w_e [] ?_; intro J hJ; simp only []) | (refine w_q ?_; intro J hJ) | refine e_go ?_); simp []; (repeat refine ca ?_); (try ((try with_reducible refine ⟨?_, ?_⟩) <;> (try with_reducible intro hnil) <;> refine hJ _ _ ?_ <;> clear hJ J <;> simp only [ak, reduceIte] <;> try subst hnil)))))

theorem Less (x y : Int) (st : St) : ACalls Tryz.prog 150 [u x, u y] st fun r st' => r = bb (decide (x < y)) ∧ st' = st := by
  refine acalls_of_body tabOk Tryz.func150 rfl rfl Tryz.ntmps150 (rs := [.tmp 4]) rfl (by simp) ?_
  (repeat' (first | refine awp_seq ?_ | refine awp_block ?_ | ((first | refine awp_skip ?_ | refine awp_exit ?_); simp only [ak, reduceIte]) | (refine awp_ret ?_; simp only [ak, reduceIte]; simp []) | (refine awp_cond ?_; simp []; (try with_reducible refine ⟨?_, ?_⟩) <;> (try with_reducible intro hc) <;> try (exfalso; omega)) | ((first | (refine w_e [] ?_; intro J hJ; simp only []) | (refine w_q ?_; intro J hJ) | refine e_go ?_); simp []; (repeat refine ca ?_); (try ((try with_reducible refine ⟨?_, ?_⟩) <;> (try with_reducible intro hnil) <;> refine hJ _ _ ?_ <;> clear hJ J <;> simp only [ak, reduceIte] <;> try subst hnil)))))
  refine callK_of (isNaN x _) ?_; rintro r st' ⟨rfl, rfl⟩
  (repeat' (first | refine awp_seq ?_ | refine awp_block ?_ | ((first | refine awp_skip ?_ | refine awp_exit ?_); simp only [ak, reduceIte]) | (refine awp_ret ?_; simp only [ak, reduceIte]; simp []) | (refine awp_cond ?_; simp []; (try with_reducible refine ⟨?_, ?_⟩) <;> (try with_reducible intro hc) <;> try (exfalso; omega)) | ((first | (refine w_e [] ?_; intro J hJ; simp only []) | (refine w_q ?_; intro J hJ) | refine e_go ?_); simp []; (repeat refine ca ?_); (try ((try with_reducible refine ⟨?_, ?_⟩) <;> (try with_reducible intro hnil) <;> refine hJ _ _ ?_ <;> clear hJ J <;> simp only [ak, reduceIte] <;> try subst hnil)))))

theorem nat_sub_one (k : Nat) (h0 : 0 < k) (h : k < 9223372036854775807) : IntKind.i64.wrap ((k : Int) - 1) = ((k - 1 : Nat) : Int) := by
  rw [wrap_i64 _ (by omega) (by omega)]; omega

/-- The state with a row in its box. -/
abbrev bx (st : St) (q : Nat) (c : List Int) : St := st.set q (.box 3 1 (us c))
theorem bx_self {st : St} {q : Nat} {c : List Int} (h : st.H q = .box 3 1 (us c)) : st = bx st q c :=
  St.ext' rfl fun x => by by_cases hx : x = q <;> simp [hx, h]

theorem bx_sw (st : St) (q : Nat) (c : List Int) (k m : Nat) {x y : Int} (hk : k < c.length) (hm : m < c.length) (hx : c.getD k 0 = x) (hy : c.getD m 0 = y) :
    ((bx st q c).set q (.box 3 1 (List.take k (us c) ++ .atom (.int .i64 y) :: List.drop (k + 1) (us c)))).set q
      (.box 3 1 (List.take m (List.take k (us c) ++ .atom (.int .i64 y) :: List.drop (k + 1) (us c)) ++ .atom (.int .i64 x) :: List.drop (m + 1) (List.take k (us c) ++ .atom (.int .i64 y) :: List.drop (k + 1) (us c)))) = bx st q (sw c k m) := by
  have e : List.take k (us c) ++ .atom (.int .i64 y) :: List.drop (k + 1) (us c) = us (c.set k y) := us_set c k y hk
  rw [e, us_set (c.set k y) m x (by simpa using hm)]
  unfold bx sw
  rw [hx, hy]
  exact St.ext' rfl fun z => by by_cases hz : z = q <;> simp [hz]

theorem insertionSort (l : List Int) (q a b : Nat) (st : St) (hl : small l) (ha : a ≤ b) (hb : b ≤ l.length) (hH : st.H q = .box 3 1 (us l)) :
    ACalls Tryz.prog 144 [.ms q 0 l.length, i a, i b] st fun r st' => ∃ c, st' = bx st q c ∧ Pm a b l c ∧ Srt a b c := by
  unfold small at hl
  refine acalls_of_body tabOk Tryz.func144 rfl rfl Tryz.ntmps144 (rs := []) rfl (by simp) ?_
  have hw0 := nat_add_one a (by omega)
  (repeat' (first | refine awp_seq ?_ | refine awp_block ?_ | ((first | refine awp_skip ?_ | refine awp_exit ?_); simp only [ak, reduceIte]) | (refine awp_ret ?_; simp only [ak, reduceIte]; simp [hw0]) | (refine awp_cond ?_; simp [hw0]; (try with_reducible refine ⟨?_, ?_⟩) <;> (try with_reducible intro hc) <;> try (exfalso; omega)) | ((first | (refine w_e [] ?_; intro J hJ; simp only []) | (refine w_q ?_; intro J hJ) | refine e_go ?_); simp [hw0]; (repeat refine ca ?_); (try ((try with_reducible refine ⟨?_, ?_⟩) <;> (try with_reducible intro hnil) <;> refine hJ _ _ ?_ <;> clear hJ J <;> simp only [ak, reduceIte] <;> try subst hnil)))))
  refine awp_loop (fun n fr st' => ∃ (k : Nat) (c : List Int), a < k ∧ n = b - k ∧ fr 0 = .ms q 0 l.length ∧ fr 1 = i a ∧ fr 2 = i b ∧ fr 6 = i k ∧ st' = bx st q c ∧ Pm a b l c ∧ Srt a k c) (b - (a + 1)) ?_ ?_
  · exact ⟨a + 1, l, by omega, rfl, by simp, by simp, by simp, by simp, bx_self hH, .refl, fun p q h1 h2 h3 => by omega⟩
  rintro n fr st1 ⟨k, c, hak, rfl, f0, f1, f2, f6, rfl, hpm, hs⟩ JJ hJJ
  have hcl := hpm.len
  by_cases hlt : k < b
  rotate_left
  · clear hJJ
    have hlt' : ¬ (k : Int) < (b : Int) := by omega
    (repeat' (first | refine awp_seq ?_ | refine awp_block ?_ | ((first | refine awp_skip ?_ | refine awp_exit ?_); simp only [ak, reduceIte]) | (refine awp_ret ?_; simp only [ak, reduceIte]; simp [f0, f1, f2, f6, hlt]) | (refine awp_cond ?_; simp [f0, f1, f2, f6, hlt]; (try with_reducible refine ⟨?_, ?_⟩) <;> (try with_reducible intro hc) <;> try (exfalso; omega)) | ((first | (refine w_e [] ?_; intro J hJ; simp only []) | (refine w_q ?_; intro J hJ) | refine e_go ?_); simp [f0, f1, f2, f6, hlt]; (repeat refine ca ?_); (try ((try with_reducible refine ⟨?_, ?_⟩) <;> (try with_reducible intro hnil) <;> refine hJ _ _ ?_ <;> clear hJ J <;> simp only [ak, reduceIte] <;> try subst hnil)))))
    exact ⟨trivial, c, rfl, hpm, fun p q h1 h2 h3 => hs p q h1 h2 (by omega)⟩
  have hw1 := nat_add_one k (by omega)
  (repeat' (first | refine awp_seq ?_ | refine awp_block ?_ | ((first | refine awp_skip ?_ | refine awp_exit ?_); simp only [ak, reduceIte]) | (refine awp_ret ?_; simp only [ak, reduceIte]; simp [f0, f1, f2, f6, hlt]) | (refine awp_cond ?_; simp [f0, f1, f2, f6, hlt]; (try with_reducible refine ⟨?_, ?_⟩) <;> (try with_reducible intro hc) <;> try (exfalso; omega)) | ((first | (refine w_e [] ?_; intro J hJ; simp only []) | (refine w_q ?_; intro J hJ) | refine e_go ?_); simp [f0, f1, f2, f6, hlt]; (repeat refine ca ?_); (try ((try with_reducible refine ⟨?_, ?_⟩) <;> (try with_reducible intro hnil) <;> refine hJ _ _ ?_ <;> clear hJ J <;> simp only [ak, reduceIte] <;> try subst hnil)))))
  refine awp_loop (fun n fr st' => ∃ (j : Nat) (c : List Int), a ≤ j ∧ j ≤ k ∧ j = n ∧ fr 0 = .ms q 0 l.length ∧ fr 1 = i a ∧ fr 2 = i b ∧ fr 6 = i k ∧ fr 7 = i j ∧ st' = bx st q c ∧ Pm a b l c ∧ Ins a j k c) k ?_ ?_
  · exact ⟨k, c, by omega, by omega, rfl, by simp [f0], by simp [f1], by simp [f2], by simp [f6], by simp, rfl, hpm, hs.ins⟩
  clear f0 f1 f2 f6 hs hpm hcl c fr
  rintro n fr st1 ⟨j, c, haj, hjk, rfl, f0, f1, f2, f6, f7, rfl, hpm, hI⟩ JJ2 hJ2
  have hcl := hpm.len
  by_cases hj : a < j
  rotate_left
  · clear hJ2
    have hj' : ¬ (a : Int) < (j : Int) := by omega
    (repeat (refine awp_seq ?_)); (refine w_s [] [q] [(0, true), (1, true), (2, true), (3, true), (4, true), (5, true), (6, true), (7, true), (8, true), (9, true), (10, true), (11, true), (12, true), (13, false), (14, true)] ?_; intro J hJ; simp [f0, f1, f2, f6, f7, hj]; (repeat refine ca ?_); (try ((try with_reducible refine ⟨?_, ?_⟩) <;> (try with_reducible intro hnil) <;> refine hJ _ _ ?_ <;> clear hJ J <;> simp only [ak, reduceIte] <;> try subst hnil)))
    (repeat' (first | refine awp_seq ?_ | refine awp_block ?_ | ((first | refine awp_skip ?_ | refine awp_exit ?_); simp only [ak, reduceIte]) | (refine awp_ret ?_; simp only [ak, reduceIte]; simp [f6, hw1]) | (refine awp_cond ?_; simp [f6, hw1]; (try with_reducible refine ⟨?_, ?_⟩) <;> (try with_reducible intro hc) <;> try (exfalso; omega)) | ((first | (refine w_e [] ?_; intro J hJ; simp only []) | (refine w_q ?_; intro J hJ) | refine e_go ?_); simp [f6, hw1]; (repeat refine ca ?_); (try ((try with_reducible refine ⟨?_, ?_⟩) <;> (try with_reducible intro hnil) <;> refine hJ _ _ ?_ <;> clear hJ J <;> simp only [ak, reduceIte] <;> try subst hnil)))))
    exact hJJ (b - (k + 1)) _ _ (by omega) ⟨k + 1, c, by omega, rfl, by simp [f0], by simp [f1], by simp [f2], by simp, rfl, hpm, hI.done haj (.inl (by omega))⟩
  have hw2 := nat_sub_one j (by omega) (by omega)
  have hjl : j < l.length := by omega
  have hjl1 : j - 1 < l.length := by omega
  have hd := us_drop_getD c j (by omega)
  have hd2 := us_drop_getD c (j - 1) (by omega)
  have hI1 := hI.step hj hjk (by omega)
  have hI2 := hI.done haj
  have hpm1 := hpm.step j (j - 1) (by omega) (by omega) (by omega) (by omega) (by omega)
  generalize hx : c.getD j 0 = x at *
  generalize hy : c.getD (j - 1) 0 = y at *
  (repeat (refine awp_seq ?_)); (refine w_s [] [q] [(0, true), (1, true), (2, true), (3, true), (4, true), (5, true), (6, true), (7, true), (8, true), (9, true), (10, true), (11, true), (12, true), (13, false), (14, true)] ?_; intro J hJ; simp [f0, f1, f2, f6, f7, hj, hw2, hjl, hjl1, hcl, hd, hd2]; (repeat refine ca ?_); (try ((try with_reducible refine ⟨?_, ?_⟩) <;> (try with_reducible intro hnil) <;> refine hJ _ _ ?_ <;> clear hJ J <;> simp only [ak, reduceIte] <;> try subst hnil)))
  refine dcallK_of (Less x y _) ?_; rintro r s2 ⟨rfl, rfl⟩
  refine ⟨fun _ => by simp, ?_⟩
  by_cases hcd : x < y
  rotate_left
  · clear hJ2
    (refine d_go ?_; simp [hcd]; (repeat refine ca ?_); (try ((try with_reducible refine ⟨?_, ?_⟩) <;> (try with_reducible intro hnil) <;> refine hJ _ _ ?_ <;> clear hJ J <;> simp only [ak, reduceIte] <;> try subst hnil)))
    (repeat' (first | refine awp_seq ?_ | refine awp_block ?_ | ((first | refine awp_skip ?_ | refine awp_exit ?_); simp only [ak, reduceIte]) | (refine awp_ret ?_; simp only [ak, reduceIte]; simp [f6, hw1]) | (refine awp_cond ?_; simp [f6, hw1]; (try with_reducible refine ⟨?_, ?_⟩) <;> (try with_reducible intro hc) <;> try (exfalso; omega)) | ((first | (refine w_e [] ?_; intro J hJ; simp only []) | (refine w_q ?_; intro J hJ) | refine e_go ?_); simp [f6, hw1]; (repeat refine ca ?_); (try ((try with_reducible refine ⟨?_, ?_⟩) <;> (try with_reducible intro hnil) <;> refine hJ _ _ ?_ <;> clear hJ J <;> simp only [ak, reduceIte] <;> try subst hnil)))))
    exact hJJ (b - (k + 1)) _ _ (by omega) ⟨k + 1, c, by omega, rfl, by simp [f0], by simp [f1], by simp [f2], by simp, rfl, hpm, hI2 (.inr hcd)⟩
  clear hJJ
  (refine d_go ?_; simp [hcd]; (repeat refine ca ?_); (try ((try with_reducible refine ⟨?_, ?_⟩) <;> (try with_reducible intro hnil) <;> refine hJ _ _ ?_ <;> clear hJ J <;> simp only [ak, reduceIte] <;> try subst hnil)))
  (repeat' (first | refine awp_seq ?_ | refine awp_block ?_ | ((first | refine awp_skip ?_ | refine awp_exit ?_); simp only [ak, reduceIte]) | (refine awp_ret ?_; simp only [ak, reduceIte]; simp []) | (refine awp_cond ?_; simp []; (try with_reducible refine ⟨?_, ?_⟩) <;> (try with_reducible intro hc) <;> try (exfalso; omega)) | ((first | (refine w_e [] ?_; intro J hJ; simp only []) | (refine w_q ?_; intro J hJ) | refine e_go ?_); simp []; (repeat refine ca ?_); (try ((try with_reducible refine ⟨?_, ?_⟩) <;> (try with_reducible intro hnil) <;> refine hJ _ _ ?_ <;> clear hJ J <;> simp only [ak, reduceIte] <;> try subst hnil)))))
  (refine w_s [] [q] [(0, true), (1, true), (2, true), (3, true), (4, true), (5, true), (6, true), (7, true), (8, true), (9, true), (10, true), (11, true), (12, true), (13, true), (14, true), (15, false), (16, true), (17, false)] ?_; intro J hJ; simp [f0, f1, f2, f6, f7, hw2, hjl, hjl1, hcl, hd, hd2]; (repeat refine ca ?_); (try ((try with_reducible refine ⟨?_, ?_⟩) <;> (try with_reducible intro hnil) <;> refine hJ _ _ ?_ <;> clear hJ J <;> simp only [ak, reduceIte] <;> try subst hnil)))
  (repeat' (first | refine awp_seq ?_ | refine awp_block ?_ | ((first | refine awp_skip ?_ | refine awp_exit ?_); simp only [ak, reduceIte]) | (refine awp_ret ?_; simp only [ak, reduceIte]; simp [f7, hw2]) | (refine awp_cond ?_; simp [f7, hw2]; (try with_reducible refine ⟨?_, ?_⟩) <;> (try with_reducible intro hc) <;> try (exfalso; omega)) | ((first | (refine w_e [] ?_; intro J hJ; simp only []) | (refine w_q ?_; intro J hJ) | refine e_go ?_); simp [f7, hw2]; (repeat refine ca ?_); (try ((try with_reducible refine ⟨?_, ?_⟩) <;> (try with_reducible intro hnil) <;> refine hJ _ _ ?_ <;> clear hJ J <;> simp only [ak, reduceIte] <;> try subst hnil)))))
  exact hJ2 (j - 1) _ _ (by omega) ⟨j - 1, sw c j (j - 1), by omega, by omega, rfl, by simp [f0], by simp [f1], by simp [f2], by simp [f6], by simp, bx_sw st q c j (j - 1) (by omega) (by omega) hx hy, hpm1, hI1 hcd⟩

theorem reverseRange (l : List Int) (q a b : Nat) (st : St) (hl : small l) (ha : a ≤ b) (hb : b ≤ l.length) (h0 : 0 < b) (hH : st.H q = .box 3 1 (us l)) :
    ACalls Tryz.prog 148 [.ms q 0 l.length, i a, i b] st fun r st' => ∃ c, st' = bx st q c ∧ Pm a b l c := by
  unfold small at hl
  refine acalls_of_body tabOk Tryz.func148 rfl rfl Tryz.ntmps148 (rs := []) rfl (by simp) ?_
  have hw0 := nat_sub_one b (by omega) (by omega)
  (repeat' (first | refine awp_seq ?_ | refine awp_block ?_ | ((first | refine awp_skip ?_ | refine awp_exit ?_); simp only [ak, reduceIte]) | (refine awp_ret ?_; simp only [ak, reduceIte]; simp [hw0]) | (refine awp_cond ?_; simp [hw0]; (try with_reducible refine ⟨?_, ?_⟩) <;> (try with_reducible intro hc) <;> try (exfalso; omega)) | ((first | (refine w_e [] ?_; intro J hJ; simp only []) | (refine w_q ?_; intro J hJ) | refine e_go ?_); simp [hw0]; (repeat refine ca ?_); (try ((try with_reducible refine ⟨?_, ?_⟩) <;> (try with_reducible intro hnil) <;> refine hJ _ _ ?_ <;> clear hJ J <;> simp only [ak, reduceIte] <;> try subst hnil)))))
  refine awp_loop (fun n fr st' => ∃ (k m : Nat) (c : List Int), a ≤ k ∧ m < b ∧ m = n ∧ fr 0 = .ms q 0 l.length ∧ fr 6 = i k ∧ fr 7 = i m ∧ st' = bx st q c ∧ Pm a b l c) (b - 1) ?_ ?_
  · exact ⟨a, b - 1, l, by omega, by omega, rfl, by simp, by simp, by simp, bx_self hH, .refl⟩
  rintro n fr st1 ⟨k, m, c, hak, hmb, rfl, f0, f6, f7, rfl, hpm⟩ JJ hJJ
  have hcl := hpm.len
  by_cases hlt : k < m
  rotate_left
  · clear hJJ
    (repeat' (first | refine awp_seq ?_ | refine awp_block ?_ | ((first | refine awp_skip ?_ | refine awp_exit ?_); simp only [ak, reduceIte]) | (refine awp_ret ?_; simp only [ak, reduceIte]; simp [f0, f6, f7, hlt]) | (refine awp_cond ?_; simp [f0, f6, f7, hlt]; (try with_reducible refine ⟨?_, ?_⟩) <;> (try with_reducible intro hc) <;> try (exfalso; omega)) | ((first | (refine w_e [] ?_; intro J hJ; simp only []) | (refine w_q ?_; intro J hJ) | refine e_go ?_); simp [f0, f6, f7, hlt]; (repeat refine ca ?_); (try ((try with_reducible refine ⟨?_, ?_⟩) <;> (try with_reducible intro hnil) <;> refine hJ _ _ ?_ <;> clear hJ J <;> simp only [ak, reduceIte] <;> try subst hnil)))))
    exact ⟨trivial, c, rfl, hpm⟩
  have hw1 := nat_add_one k (by omega)
  have hw2 := nat_sub_one m (by omega) (by omega)
  have hkl : k < l.length := by omega
  have hml : m < l.length := by omega
  have hd := us_drop_getD c k (by omega)
  have hd2 := us_drop_getD c m (by omega)
  have hpm1 := hpm.step k m (by omega) (by omega) (by omega) (by omega) (by omega)
  generalize hx : c.getD k 0 = x at *
  generalize hy : c.getD m 0 = y at *
  (repeat' (first | refine awp_seq ?_ | refine awp_block ?_ | ((first | refine awp_skip ?_ | refine awp_exit ?_); simp only [ak, reduceIte]) | (refine awp_ret ?_; simp only [ak, reduceIte]; simp [f0, f6, f7, hlt]) | (refine awp_cond ?_; simp [f0, f6, f7, hlt]; (try with_reducible refine ⟨?_, ?_⟩) <;> (try with_reducible intro hc) <;> try (exfalso; omega)) | ((first | (refine w_e [] ?_; intro J hJ; simp only []) | (refine w_q ?_; intro J hJ) | refine e_go ?_); simp [f0, f6, f7, hlt]; (repeat refine ca ?_); (try ((try with_reducible refine ⟨?_, ?_⟩) <;> (try with_reducible intro hnil) <;> refine hJ _ _ ?_ <;> clear hJ J <;> simp only [ak, reduceIte] <;> try subst hnil)))))
  (refine w_s [] [q] [(0, true), (1, true), (2, true), (3, true), (4, true), (5, true), (6, true), (7, true), (8, true), (9, true), (10, true), (11, true), (12, true), (13, false), (14, true), (15, false)] ?_; intro J hJ; simp [f0, f6, f7, hkl, hml, hcl, hd, hd2]; (repeat refine ca ?_); (try ((try with_reducible refine ⟨?_, ?_⟩) <;> (try with_reducible intro hnil) <;> refine hJ _ _ ?_ <;> clear hJ J <;> simp only [ak, reduceIte] <;> try subst hnil)))
  (repeat' (first | refine awp_seq ?_ | refine awp_block ?_ | ((first | refine awp_skip ?_ | refine awp_exit ?_); simp only [ak, reduceIte]) | (refine awp_ret ?_; simp only [ak, reduceIte]; simp [f6, f7, hw1, hw2]) | (refine awp_cond ?_; simp [f6, f7, hw1, hw2]; (try with_reducible refine ⟨?_, ?_⟩) <;> (try with_reducible intro hc) <;> try (exfalso; omega)) | ((first | (refine w_e [] ?_; intro J hJ; simp only []) | (refine w_q ?_; intro J hJ) | refine e_go ?_); simp [f6, f7, hw1, hw2]; (repeat refine ca ?_); (try ((try with_reducible refine ⟨?_, ?_⟩) <;> (try with_reducible intro hnil) <;> refine hJ _ _ ?_ <;> clear hJ J <;> simp only [ak, reduceIte] <;> try subst hnil)))))
  exact hJJ (m - 1) _ _ (by omega) ⟨k + 1, m - 1, sw c k m, by omega, by omega, rfl, by simp [f0], by simp, by simp, bx_sw st q c k m (by omega) (by omega) hx hy, hpm1⟩

end Go.Proofs.YtaiakdhcajibnaaGreat.Aw.I

namespace Go.Proofs.YtaiakdhcajibnaaGreat.Aw.I
open Go Go.RowKit Go.Proofs.YtaiakdhcajibnaaGreat.Pl
set_option linter.unusedSimpArgs false
set_option linter.unusedVariables false

theorem awp_cut1 {P : Program} {N : Nat} {Q : AQ} {k : List AItem} {fr : Frm} {st : St} {x y : Code} (I : Frm → St → Prop) (h1 : AWp P N x (AK P N (fun e f s => e = .normal ∧ I f s) []) fr st) (h2 : ∀ fr st, I fr st → AWp P N y (AK P N Q k) fr st) :
    AWp P N x (AK P N Q (.code y :: k)) fr st := by
  refine awp_mono h1 ?_
  rintro e fr' st' ⟨rfl, hI⟩
  rw [ak_code]
  exact h2 _ _ hI
theorem bx_sw' (st : St) (q : Nat) (c : List Int) (k m : Nat) {x y : Int} (hk : k < c.length) (hm : m < c.length) (hx : c.getD k 0 = x) (hy : c.getD m 0 = y) :
    (st.set q (.box 3 1 (List.take k (us c) ++ .atom (.int .i64 y) :: List.drop (k + 1) (us c)))).set q
      (.box 3 1 (List.take m (List.take k (us c) ++ .atom (.int .i64 y) :: List.drop (k + 1) (us c)) ++ .atom (.int .i64 x) :: List.drop (m + 1) (List.take k (us c) ++ .atom (.int .i64 y) :: List.drop (k + 1) (us c)))) = bx st q (sw c k m) := by
  rw [← bx_sw st q c k m hk hm hx hy]
  exact St.ext' rfl fun z => by by_cases hz : z = q <;> simp [hz]
theorem awp_cut2 {P : Program} {N : Nat} {Q : AQ} {k : List AItem} {fr : Frm} {st : St} {x y z : Code} (I : Frm → St → Prop) (h1 : AWp P N x (AK P N (fun e f s => e = .normal ∧ I f s) [.code y]) fr st) (h2 : ∀ fr st, I fr st → AWp P N z (AK P N Q k) fr st) :
    AWp P N x (AK P N Q (.code y :: .code z :: k)) fr st := by
  refine awp_mono h1 ?_
  rintro e fr' st' h
  cases e with
  | normal =>
    rw [ak_code] at h ⊢
    refine awp_mono h ?_
    rintro e fr2 st2 ⟨rfl, h⟩
    rw [ak_code]
    exact h2 _ _ h
  | _ => exact absurd h.1 (by simp)

def MaxC (c : List Int) (f r hi ch : Nat) : Prop := ∀ x, (x = 2 * r + 1 ∨ x = 2 * r + 2) → x < hi → c.getD (f + x) 0 ≤ c.getD (f + ch) 0

theorem siftDown (l : List Int) (q lo hi f : Nat) (st : St) (hl : small l) (hb : f + hi ≤ l.length) (hlo : lo ≤ l.length) (hh : Heap (lo + 1) hi f l) (hH : st.H q = .box 3 1 (us l)) :
    ACalls Tryz.prog 183 [.ms q 0 l.length, i lo, i hi, i f] st fun r st' => ∃ c, st' = bx st q c ∧ Pm (f + lo) (f + hi) l c ∧ Heap lo hi f c := by
  unfold small at hl
  refine acalls_of_body tabOk Tryz.func183 rfl rfl Tryz.ntmps183 (rs := []) rfl (by simp) ?_
  (repeat' (first | refine awp_seq ?_ | refine awp_block ?_ | ((first | refine awp_skip ?_ | refine awp_exit ?_); simp only [ak, reduceIte]) | (refine awp_ret ?_; simp only [ak, reduceIte]; simp []) | (refine awp_cond ?_; simp []; (try with_reducible refine ⟨?_, ?_⟩) <;> (try with_reducible intro hc) <;> try (exfalso; omega)) | ((first | (refine w_e [] ?_; intro J hJ; simp only []) | (refine w_q ?_; intro J hJ) | refine e_go ?_); simp []; (repeat refine ca ?_); (try ((try with_reducible refine ⟨?_, ?_⟩) <;> (try with_reducible intro hnil) <;> refine hJ _ _ ?_ <;> clear hJ J <;> simp only [ak, reduceIte] <;> try subst hnil)))))
  refine awp_loop (fun n fr st' => ∃ (r : Nat) (c : List Int), lo ≤ r ∧ r ≤ l.length ∧ n = hi - r ∧ fr 0 = .ms q 0 l.length ∧ fr 2 = i hi ∧ fr 3 = i f ∧ fr 8 = i r ∧ st' = bx st q c ∧ Pm (f + lo) (f + hi) l c ∧ HeapX lo hi f r c) (hi - lo) ?_ ?_
  · exact ⟨lo, l, Nat.le_refl _, hlo, rfl, by simp, by simp, by simp, by simp, bx_self hH, .refl, hh.x⟩
  rintro n fr st1 ⟨r, c, hlr, hrl, rfl, f0, f2, f3, f8, rfl, hpm, hX⟩ JJ hJJ
  have hcl := hpm.len
  obtain ⟨m, hm⟩ : ∃ m : Nat, m = 2 * r + 1 := ⟨_, rfl⟩
  obtain ⟨m2, hm2⟩ : ∃ m : Nat, m = 2 * r + 2 := ⟨_, rfl⟩
  have w1 : IntKind.i64.wrap (2 * (r : Int)) = 2 * (r : Int) := wrap_i64 _ (by omega) (by omega)
  have w2 : IntKind.i64.wrap (2 * (r : Int) + 1) = (m : Int) := by rw [wrap_i64 _ (by omega) (by omega)]; omega
  have w3 : IntKind.i64.wrap ((m : Int) + 1) = (m2 : Int) := by rw [wrap_i64 _ (by omega) (by omega)]; omega
  by_cases hmh : hi ≤ m
  · clear hJJ
    (repeat' (first | refine awp_seq ?_ | refine awp_block ?_ | ((first | refine awp_skip ?_ | refine awp_exit ?_); simp only [ak, reduceIte]) | (refine awp_ret ?_; simp only [ak, reduceIte]; simp [f0, f2, f3, f8, w1, w2, hmh]) | (refine awp_cond ?_; simp [f0, f2, f3, f8, w1, w2, hmh]; (try with_reducible refine ⟨?_, ?_⟩) <;> (try with_reducible intro hc) <;> try (exfalso; omega)) | ((first | (refine w_e [] ?_; intro J hJ; simp only []) | (refine w_q ?_; intro J hJ) | refine e_go ?_); simp [f0, f2, f3, f8, w1, w2, hmh]; (repeat refine ca ?_); (try ((try with_reducible refine ⟨?_, ?_⟩) <;> (try with_reducible intro hnil) <;> refine hJ _ _ ?_ <;> clear hJ J <;> simp only [ak, reduceIte] <;> try subst hnil)))))
    exact ⟨trivial, c, rfl, hpm, hX.leaf (by omega)⟩
  obtain ⟨x1, hx1⟩ : ∃ x : Nat, x = f + m := ⟨_, rfl⟩
  obtain ⟨x2, hx2⟩ : ∃ x : Nat, x = f + m2 := ⟨_, rfl⟩
  obtain ⟨x0, hx0⟩ : ∃ x : Nat, x = f + r := ⟨_, rfl⟩
  have w4 : IntKind.i64.wrap ((f : Int) + (m : Int)) = (x1 : Int) := by rw [wrap_i64 _ (by omega) (by omega)]; omega
  have w5 : IntKind.i64.wrap ((x1 : Int) + 1) = (x2 : Int) := by rw [wrap_i64 _ (by omega) (by omega)]; omega
  have w6 : IntKind.i64.wrap ((f : Int) + (r : Int)) = (x0 : Int) := by rw [wrap_i64 _ (by omega) (by omega)]; omega
  (repeat' (first | refine awp_seq ?_ | refine awp_block ?_ | ((first | refine awp_skip ?_ | refine awp_exit ?_); simp only [ak, reduceIte]) | (refine awp_ret ?_; simp only [ak, reduceIte]; simp [f0, f2, f3, f8, w1, w2, hmh]) | ((first | (refine w_e [] ?_; intro J hJ; simp only []) | (refine w_q ?_; intro J hJ) | refine e_go ?_); simp [f0, f2, f3, f8, w1, w2, hmh]; (repeat refine ca ?_); (try ((try with_reducible refine ⟨?_, ?_⟩) <;> (try with_reducible intro hnil) <;> refine hJ _ _ ?_ <;> clear hJ J <;> simp only [ak, reduceIte] <;> try subst hnil)))))
  (refine awp_cond ?_; simp []; (try with_reducible refine ⟨?_, ?_⟩) <;> (try with_reducible intro hc) <;> try (exfalso; omega))
  (repeat' (first | refine awp_seq ?_ | refine awp_block ?_ | ((first | refine awp_skip ?_ | refine awp_exit ?_); simp only [ak, reduceIte]) | (refine awp_ret ?_; simp only [ak, reduceIte]; simp []) | ((first | (refine w_e [] ?_; intro J hJ; simp only []) | (refine w_q ?_; intro J hJ) | refine e_go ?_); simp []; (repeat refine ca ?_); (try ((try with_reducible refine ⟨?_, ?_⟩) <;> (try with_reducible intro hnil) <;> refine hJ _ _ ?_ <;> clear hJ J <;> simp only [ak, reduceIte] <;> try subst hnil)))))
  refine awp_cut2 (fun fr2 st2 => st2 = bx st q c ∧ fr2 0 = .ms q 0 l.length ∧ fr2 2 = i hi ∧ fr2 3 = i f ∧ fr2 8 = i r ∧ ∃ ch : Nat, fr2 9 = i ch ∧ (ch = 2 * r + 1 ∨ ch = 2 * r + 2) ∧ ch < hi ∧ MaxC c f r hi ch) ?_ ?_
  · by_cases h2h : m2 < hi
    rotate_left
    · (refine w_s [] [q] [(0, true), (1, true), (2, true), (3, true), (4, true), (5, true), (6, true), (7, true), (8, true), (9, true), (10, true), (11, true), (12, true), (13, true), (14, true), (15, true), (16, true), (17, true), (18, false), (19, true)] ?_; intro J hJ; simp [f0, f2, f3, f8, w3, h2h]; (repeat refine ca ?_); (try ((try with_reducible refine ⟨?_, ?_⟩) <;> (try with_reducible intro hnil) <;> refine hJ _ _ ?_ <;> clear hJ J <;> simp only [ak, reduceIte] <;> try subst hnil)))
      (repeat' (first | refine awp_seq ?_ | refine awp_block ?_ | ((first | refine awp_skip ?_ | refine awp_exit ?_); simp only [ak, reduceIte]) | (refine awp_ret ?_; simp only [ak, reduceIte]; simp [f0]) | (refine awp_cond ?_; simp [f0]; (try with_reducible refine ⟨?_, ?_⟩) <;> (try with_reducible intro hc) <;> try (exfalso; omega)) | ((first | (refine w_e [] ?_; intro J hJ; simp only []) | (refine w_q ?_; intro J hJ) | refine e_go ?_); simp [f0]; (repeat refine ca ?_); (try ((try with_reducible refine ⟨?_, ?_⟩) <;> (try with_reducible intro hnil) <;> refine hJ _ _ ?_ <;> clear hJ J <;> simp only [ak, reduceIte] <;> try subst hnil)))))
      refine ⟨trivial, trivial, by simp [f0], by simp [f2], by simp [f3], by simp [f8], m, by simp, by omega, by omega, fun x h1 h2 => ?_⟩
      rw [show x = m by omega]; exact Int.le_refl _
    have hd1 := us_drop_getD c x1 (by omega)
    have hd2 := us_drop_getD c x2 (by omega)
    have hl1 : x1 < l.length := by omega
    have hl2 : x2 < l.length := by omega
    generalize hy1 : c.getD x1 0 = y1 at *
    generalize hy2 : c.getD x2 0 = y2 at *
    (refine w_s [] [q] [(0, true), (1, true), (2, true), (3, true), (4, true), (5, true), (6, true), (7, true), (8, true), (9, true), (10, true), (11, true), (12, true), (13, true), (14, true), (15, true), (16, true), (17, true), (18, false), (19, true)] ?_; intro J hJ; simp [f0, f2, f3, f8, w3, w4, w5, h2h, hl1, hl2, hcl, hd1, hd2]; (repeat refine ca ?_); (try ((try with_reducible refine ⟨?_, ?_⟩) <;> (try with_reducible intro hnil) <;> refine hJ _ _ ?_ <;> clear hJ J <;> simp only [ak, reduceIte] <;> try subst hnil)))
    refine dcallK_of (Less y1 y2 _) ?_; rintro r1 s2 ⟨rfl, rfl⟩
    refine ⟨fun _ => by simp, ?_⟩
    by_cases hyy : y1 < y2
    · (refine d_go ?_; simp [hyy]; (repeat refine ca ?_); (try ((try with_reducible refine ⟨?_, ?_⟩) <;> (try with_reducible intro hnil) <;> refine hJ _ _ ?_ <;> clear hJ J <;> simp only [ak, reduceIte] <;> try subst hnil)))
      (repeat' (first | refine awp_seq ?_ | refine awp_block ?_ | ((first | refine awp_skip ?_ | refine awp_exit ?_); simp only [ak, reduceIte]) | (refine awp_ret ?_; simp only [ak, reduceIte]; simp [w3]) | (refine awp_cond ?_; simp [w3]; (try with_reducible refine ⟨?_, ?_⟩) <;> (try with_reducible intro hc) <;> try (exfalso; omega)) | ((first | (refine w_e [] ?_; intro J hJ; simp only []) | (refine w_q ?_; intro J hJ) | refine e_go ?_); simp [w3]; (repeat refine ca ?_); (try ((try with_reducible refine ⟨?_, ?_⟩) <;> (try with_reducible intro hnil) <;> refine hJ _ _ ?_ <;> clear hJ J <;> simp only [ak, reduceIte] <;> try subst hnil)))))
      refine ⟨trivial, trivial, by simp [f0], by simp [f2], by simp [f3], by simp [f8], m2, by simp, by omega, by omega, fun x h1 h2 => ?_⟩
      rcases (show x = m ∨ x = m2 by omega) with rfl | rfl
      · rw [← hx1, ← hx2, hy1, hy2]; omega
      · exact Int.le_refl _
    · (refine d_go ?_; simp [hyy]; (repeat refine ca ?_); (try ((try with_reducible refine ⟨?_, ?_⟩) <;> (try with_reducible intro hnil) <;> refine hJ _ _ ?_ <;> clear hJ J <;> simp only [ak, reduceIte] <;> try subst hnil)))
      (repeat' (first | refine awp_seq ?_ | refine awp_block ?_ | ((first | refine awp_skip ?_ | refine awp_exit ?_); simp only [ak, reduceIte]) | (refine awp_ret ?_; simp only [ak, reduceIte]; simp []) | (refine awp_cond ?_; simp []; (try with_reducible refine ⟨?_, ?_⟩) <;> (try with_reducible intro hc) <;> try (exfalso; omega)) | ((first | (refine w_e [] ?_; intro J hJ; simp only []) | (refine w_q ?_; intro J hJ) | refine e_go ?_); simp []; (repeat refine ca ?_); (try ((try with_reducible refine ⟨?_, ?_⟩) <;> (try with_reducible intro hnil) <;> refine hJ _ _ ?_ <;> clear hJ J <;> simp only [ak, reduceIte] <;> try subst hnil)))))
      refine ⟨trivial, trivial, by simp [f0], by simp [f2], by simp [f3], by simp [f8], m, by simp, by omega, by omega, fun x h1 h2 => ?_⟩
      rcases (show x = m ∨ x = m2 by omega) with rfl | rfl
      · exact Int.le_refl _
      · rw [← hx1, ← hx2, hy1, hy2]; omega
  clear f0 f2 f3 f8 w1 w2 w3 w4 w5 hx1 hx2 x1 x2 fr
  rintro fr st2 ⟨rfl, f0, f2, f3, f8, ch, f9, hch, hchi, hmax⟩
  obtain ⟨x1, hx1⟩ : ∃ x : Nat, x = f + ch := ⟨_, rfl⟩
  have w4 : IntKind.i64.wrap ((f : Int) + (ch : Int)) = (x1 : Int) := by rw [wrap_i64 _ (by omega) (by omega)]; omega
  have hd1 := us_drop_getD c x1 (by omega)
  have hd0 := us_drop_getD c x0 (by omega)
  have hl1 : x1 < l.length := by omega
  have hl0 : x0 < l.length := by omega
  unfold MaxC at hmax
  have hstep := hX.step (c := ch) hlr hch hchi (by omega) hmax
  have hpm1 := hpm.step x0 x1 (by omega) (by omega) (by omega) (by omega) (by omega)
  have hbig := hX.big
  rw [← hx0, ← hx1] at hstep
  rw [← hx0] at hbig
  rw [← hx1] at hmax
  generalize hy0 : c.getD x0 0 = y0 at *
  generalize hy1 : c.getD x1 0 = y1 at *
  (repeat (refine awp_seq ?_)); (refine w_s [] [q] [(0, true), (1, true), (2, true), (3, true), (4, true), (5, true), (6, true), (7, true), (8, true), (9, true), (10, true), (11, true), (12, false), (13, true)] ?_; intro J hJ; simp [f0, f2, f3, f8, f9, w4, w6, hl1, hl0, hcl, hd1, hd0]; (repeat refine ca ?_); (try ((try with_reducible refine ⟨?_, ?_⟩) <;> (try with_reducible intro hnil) <;> refine hJ _ _ ?_ <;> clear hJ J <;> simp only [ak, reduceIte] <;> try subst hnil)))
  refine dcallK_of (Less y0 y1 _) ?_; rintro r1 s2 ⟨rfl, rfl⟩
  refine ⟨fun _ => by simp, ?_⟩
  by_cases hyy : y0 < y1
  rotate_left
  · clear hJJ
    (refine d_go ?_; simp [hyy]; (repeat refine ca ?_); (try ((try with_reducible refine ⟨?_, ?_⟩) <;> (try with_reducible intro hnil) <;> refine hJ _ _ ?_ <;> clear hJ J <;> simp only [ak, reduceIte] <;> try subst hnil)))
    (repeat' (first | refine awp_seq ?_ | refine awp_block ?_ | ((first | refine awp_skip ?_ | refine awp_exit ?_); simp only [ak, reduceIte]) | (refine awp_ret ?_; simp only [ak, reduceIte]; simp []) | (refine awp_cond ?_; simp []; (try with_reducible refine ⟨?_, ?_⟩) <;> (try with_reducible intro hc) <;> try (exfalso; omega)) | ((first | (refine w_e [] ?_; intro J hJ; simp only []) | (refine w_q ?_; intro J hJ) | refine e_go ?_); simp []; (repeat refine ca ?_); (try ((try with_reducible refine ⟨?_, ?_⟩) <;> (try with_reducible intro hnil) <;> refine hJ _ _ ?_ <;> clear hJ J <;> simp only [ak, reduceIte] <;> try subst hnil)))))
    exact ⟨c, rfl, hpm, hbig fun x h1 h2 => by have := hmax x h1 h2; omega⟩
  (refine d_go ?_; simp [hyy]; (repeat refine ca ?_); (try ((try with_reducible refine ⟨?_, ?_⟩) <;> (try with_reducible intro hnil) <;> refine hJ _ _ ?_ <;> clear hJ J <;> simp only [ak, reduceIte] <;> try subst hnil)))
  (repeat' (first | refine awp_seq ?_ | refine awp_block ?_ | ((first | refine awp_skip ?_ | refine awp_exit ?_); simp only [ak, reduceIte]) | (refine awp_ret ?_; simp only [ak, reduceIte]; simp []) | (refine awp_cond ?_; simp []; (try with_reducible refine ⟨?_, ?_⟩) <;> (try with_reducible intro hc) <;> try (exfalso; omega)) | ((first | (refine w_e [] ?_; intro J hJ; simp only []) | (refine w_q ?_; intro J hJ) | refine e_go ?_); simp []; (repeat refine ca ?_); (try ((try with_reducible refine ⟨?_, ?_⟩) <;> (try with_reducible intro hnil) <;> refine hJ _ _ ?_ <;> clear hJ J <;> simp only [ak, reduceIte] <;> try subst hnil)))))
  (refine w_s [] [q] [(0, true), (1, true), (2, true), (3, true), (4, true), (5, true), (6, true), (7, true), (8, true), (9, true), (10, true), (11, true), (12, true), (13, true), (14, true), (15, true), (16, true), (17, true), (18, true), (19, true), (20, true), (21, false), (22, true), (23, false)] ?_; intro J hJ; simp [f0, f2, f3, f8, f9, w4, w6, hl1, hl0, hcl, hd1, hd0]; (repeat refine ca ?_); (try ((try with_reducible refine ⟨?_, ?_⟩) <;> (try with_reducible intro hnil) <;> refine hJ _ _ ?_ <;> clear hJ J <;> simp only [ak, reduceIte] <;> try subst hnil)))
  (repeat' (first | refine awp_seq ?_ | refine awp_block ?_ | ((first | refine awp_skip ?_ | refine awp_exit ?_); simp only [ak, reduceIte]) | (refine awp_ret ?_; simp only [ak, reduceIte]; simp [f9]) | (refine awp_cond ?_; simp [f9]; (try with_reducible refine ⟨?_, ?_⟩) <;> (try with_reducible intro hc) <;> try (exfalso; omega)) | ((first | (refine w_e [] ?_; intro J hJ; simp only []) | (refine w_q ?_; intro J hJ) | refine e_go ?_); simp [f9]; (repeat refine ca ?_); (try ((try with_reducible refine ⟨?_, ?_⟩) <;> (try with_reducible intro hnil) <;> refine hJ _ _ ?_ <;> clear hJ J <;> simp only [ak, reduceIte] <;> try subst hnil)))))
  exact hJJ (hi - ch) _ _ (by omega) ⟨ch, sw c x0 x1, by omega, by omega, rfl, by simp [f0], by simp [f2], by simp [f3], by simp, bx_sw st q c x0 x1 (by omega) (by omega) hy0 hy1, hpm1, hstep hyy⟩

end Go.Proofs.YtaiakdhcajibnaaGreat.Aw.I

namespace Go.Proofs.YtaiakdhcajibnaaGreat.Aw.I
open Go Go.RowKit Go.Proofs.YtaiakdhcajibnaaGreat.Pl
set_option linter.unusedSimpArgs false
set_option linter.unusedVariables false

/-- The last ones stand in order, above all. -/
def Last (c : List Int) (f j hi : Nat) : Prop := ∀ p q, p < q → j ≤ q → q < hi → c.getD (f + p) 0 ≤ c.getD (f + q) 0

theorem heapSort (l : List Int) (q a b : Nat) (st : St) (hl : small l) (ha : a < b) (hb : b ≤ l.length) (hH : st.H q = .box 3 1 (us l)) :
    ACalls Tryz.prog 145 [.ms q 0 l.length, i a, i b] st fun r st' => ∃ c, st' = bx st q c ∧ Pm a b l c ∧ Srt a b c := by
  have hsm := hl
  unfold small at hl
  obtain ⟨n, hn⟩ : ∃ n : Nat, n = b - a := ⟨_, rfl⟩
  obtain ⟨n1, hn1⟩ : ∃ n : Nat, n = b - a - 1 := ⟨_, rfl⟩
  obtain ⟨n2, hn2⟩ : ∃ n : Nat, n = n1 / 2 := ⟨_, rfl⟩
  have w1 : IntKind.i64.wrap ((b : Int) - (a : Int)) = (n : Int) := by rw [wrap_i64 _ (by omega) (by omega)]; omega
  have w2 : IntKind.i64.wrap ((n : Int) - 1) = (n1 : Int) := by rw [wrap_i64 _ (by omega) (by omega)]; omega
  have w3 : IntKind.i64.wrap ((n1 : Int) / 2) = (n2 : Int) := by
    rw [show (n1 : Int) / 2 = ((n1 / 2 : Nat) : Int) from rfl, ← hn2]
    exact wrap_i64 _ (by omega) (by omega)
  refine acalls_of_body tabOk Tryz.func145 rfl rfl Tryz.ntmps145 (rs := []) rfl (by simp) ?_
  (repeat' (first | refine awp_seq ?_ | refine awp_block ?_ | ((first | refine awp_skip ?_ | refine awp_exit ?_); simp only [ak, reduceIte]) | (refine awp_ret ?_; simp only [ak, reduceIte]; simp [w1, w2, w3]) | (refine awp_cond ?_; simp [w1, w2, w3]; (try with_reducible refine ⟨?_, ?_⟩) <;> (try with_reducible intro hc) <;> try (exfalso; omega)) | ((first | (refine w_e [] ?_; intro J hJ; simp only []) | (refine w_q ?_; intro J hJ) | refine e_go ?_); simp [w1, w2, w3]; (repeat refine ca ?_); (try ((try with_reducible refine ⟨?_, ?_⟩) <;> (try with_reducible intro hnil) <;> refine hJ _ _ ?_ <;> clear hJ J <;> simp only [ak, reduceIte] <;> try subst hnil)))))
  refine awp_loop (fun m fr st' => ∃ (c : List Int), m ≤ n2 + 1 ∧ fr 0 = .ms q 0 l.length ∧ fr 6 = i a ∧ fr 7 = i 0 ∧ fr 8 = i n ∧ fr 9 = i ((m : Int) - 1) ∧ st' = bx st q c ∧ Pm a b l c ∧ Heap m n a c) (n2 + 1) ?_ ?_
  · exact ⟨l, by omega, by simp, by simp, by simp, by simp, by simp, bx_self hH, .refl, fun k x h1 h2 h3 => by omega⟩
  rintro m fr st1 ⟨c, hm, f0, f6, f7, f8, f9, rfl, hpm, hh⟩ JJ hJJ
  have hcl := hpm.len
  cases m with
  | succ m =>
    have f9' : fr 9 = i (m : Int) := by rw [f9]; congr 2; omega
    have w4 : IntKind.i64.wrap ((m : Int) - 1) = (m : Int) - 1 := wrap_i64 _ (by omega) (by omega)
    have hge : (0 : Int) ≤ (m : Int) := by omega
    (repeat' (first | refine awp_seq ?_ | refine awp_block ?_ | ((first | refine awp_skip ?_ | refine awp_exit ?_); simp only [ak, reduceIte]) | (refine awp_ret ?_; simp only [ak, reduceIte]; simp [f0, f6, f7, f8, f9', hge]) | (refine awp_cond ?_; simp [f0, f6, f7, f8, f9', hge]; (try with_reducible refine ⟨?_, ?_⟩) <;> (try with_reducible intro hc) <;> try (exfalso; omega)) | ((first | (refine w_e [] ?_; intro J hJ; simp only []) | (refine w_q ?_; intro J hJ) | refine e_go ?_); simp [f0, f6, f7, f8, f9', hge]; (repeat refine ca ?_); (try ((try with_reducible refine ⟨?_, ?_⟩) <;> (try with_reducible intro hnil) <;> refine hJ _ _ ?_ <;> clear hJ J <;> simp only [ak, reduceIte] <;> try subst hnil)))))
    rw [← hcl]
    refine callK_of (siftDown c q m n a _ (by unfold small; omega) (by omega) (by omega) hh (by simp)) ?_
    rintro r s2 ⟨c2, rfl, hpm2, hh2⟩
    rw [hcl]
    (repeat' (first | refine awp_seq ?_ | refine awp_block ?_ | ((first | refine awp_skip ?_ | refine awp_exit ?_); simp only [ak, reduceIte]) | (refine awp_ret ?_; simp only [ak, reduceIte]; simp [f9', w4]) | (refine awp_cond ?_; simp [f9', w4]; (try with_reducible refine ⟨?_, ?_⟩) <;> (try with_reducible intro hc) <;> try (exfalso; omega)) | ((first | (refine w_e [] ?_; intro J hJ; simp only []) | (refine w_q ?_; intro J hJ) | refine e_go ?_); simp [f9', w4]; (repeat refine ca ?_); (try ((try with_reducible refine ⟨?_, ?_⟩) <;> (try with_reducible intro hnil) <;> refine hJ _ _ ?_ <;> clear hJ J <;> simp only [ak, reduceIte] <;> try subst hnil)))))
    exact hJJ m _ _ (by omega) ⟨c2, by omega, by simp [f0], by simp [f6], by simp [f7], by simp [f8], by simp, St.set_set _ _ _ _, hpm.trans (hpm2.wide (by omega) (by omega) (by omega)), hh2⟩
  | zero =>
    clear hJJ
    have f9' : fr 9 = i (-1) := by rw [f9]; rfl
    (repeat' (first | refine awp_seq ?_ | refine awp_block ?_ | ((first | refine awp_skip ?_ | refine awp_exit ?_); simp only [ak, reduceIte]) | (refine awp_ret ?_; simp only [ak, reduceIte]; simp [f0, f6, f7, f8, f9', w2]) | (refine awp_cond ?_; simp [f0, f6, f7, f8, f9', w2]; (try with_reducible refine ⟨?_, ?_⟩) <;> (try with_reducible intro hc) <;> try (exfalso; omega)) | ((first | (refine w_e [] ?_; intro J hJ; simp only []) | (refine w_q ?_; intro J hJ) | refine e_go ?_); simp [f0, f6, f7, f8, f9', w2]; (repeat refine ca ?_); (try ((try with_reducible refine ⟨?_, ?_⟩) <;> (try with_reducible intro hnil) <;> refine hJ _ _ ?_ <;> clear hJ J <;> simp only [ak, reduceIte] <;> try subst hnil)))))
    refine awp_loop (fun m fr st' => ∃ (c : List Int), m ≤ n ∧ fr 0 = .ms q 0 l.length ∧ fr 6 = i a ∧ fr 7 = i 0 ∧ fr 10 = i ((m : Int) - 1) ∧ st' = bx st q c ∧ Pm a b l c ∧ Heap 0 m a c ∧ Last c a m n) n ?_ ?_
    · exact ⟨c, Nat.le_refl _, by simp [f0], by simp [f6], by simp [f7], by simp; omega, rfl, hpm, hh, fun p q h1 h2 h3 => by omega⟩
    clear f0 f6 f7 f8 f9 f9' hpm hh hcl c fr
    rintro m fr st1 ⟨c, hm, f0, f6, f7, f10, rfl, hpm, hh, hla⟩ JJ hJJ
    have hcl := hpm.len
    cases m with
    | zero =>
      have f10' : fr 10 = i (-1) := by rw [f10]; rfl
      (repeat' (first | refine awp_seq ?_ | refine awp_block ?_ | ((first | refine awp_skip ?_ | refine awp_exit ?_); simp only [ak, reduceIte]) | (refine awp_ret ?_; simp only [ak, reduceIte]; simp [f10']) | (refine awp_cond ?_; simp [f10']; (try with_reducible refine ⟨?_, ?_⟩) <;> (try with_reducible intro hc) <;> try (exfalso; omega)) | ((first | (refine w_e [] ?_; intro J hJ; simp only []) | (refine w_q ?_; intro J hJ) | refine e_go ?_); simp [f10']; (repeat refine ca ?_); (try ((try with_reducible refine ⟨?_, ?_⟩) <;> (try with_reducible intro hnil) <;> refine hJ _ _ ?_ <;> clear hJ J <;> simp only [ak, reduceIte] <;> try subst hnil)))))
      refine ⟨trivial, c, rfl, hpm, fun p q h1 h2 h3 => ?_⟩
      have := hla (p - a) (q - a) (by omega) (by omega) (by omega)
      rwa [show a + (p - a) = p by omega, show a + (q - a) = q by omega] at this
    | succ m =>
      have f10' : fr 10 = i (m : Int) := by rw [f10]; congr 2; omega
      have w4 : IntKind.i64.wrap ((m : Int) - 1) = (m : Int) - 1 := wrap_i64 _ (by omega) (by omega)
      have hge : (0 : Int) ≤ (m : Int) := by omega
      obtain ⟨x1, hx1⟩ : ∃ x : Nat, x = a + m := ⟨_, rfl⟩
      have w5 : IntKind.i64.wrap ((a : Int) + (m : Int)) = (x1 : Int) := by rw [wrap_i64 _ (by omega) (by omega)]; omega
      have hd0 := us_drop_getD c a (by omega)
      have hd1 := us_drop_getD c x1 (by omega)
      have hl0 : a < l.length := by omega
      have hl1 : x1 < l.length := by omega
      have hpop := hh.pop (by omega)
      have hnext := fun c2 => heap_next (c2 := c2) hh hla (by omega) (by omega)
      have hpm1 := hpm.step a x1 (by omega) (by omega) (by omega) (by omega) (by omega)
      rw [← hx1] at hpop hnext
      have hsl := sw_length c a x1
      have hsw := fun x y => bx_sw st q c a x1 (x := x) (y := y) (by omega) (by omega)
      generalize hy0 : c.getD a 0 = y0 at *
      generalize hy1 : c.getD x1 0 = y1 at *
      have hsw' := hsw y0 y1 rfl rfl
      (repeat' (first | refine awp_seq ?_ | refine awp_block ?_ | ((first | refine awp_skip ?_ | refine awp_exit ?_); simp only [ak, reduceIte]) | (refine awp_ret ?_; simp only [ak, reduceIte]; simp [f0, f6, f7, f10', hge]) | (refine awp_cond ?_; simp [f0, f6, f7, f10', hge]; (try with_reducible refine ⟨?_, ?_⟩) <;> (try with_reducible intro hc) <;> try (exfalso; omega)) | ((first | (refine w_e [] ?_; intro J hJ; simp only []) | (refine w_q ?_; intro J hJ) | refine e_go ?_); simp [f0, f6, f7, f10', hge]; (repeat refine ca ?_); (try ((try with_reducible refine ⟨?_, ?_⟩) <;> (try with_reducible intro hnil) <;> refine hJ _ _ ?_ <;> clear hJ J <;> simp only [ak, reduceIte] <;> try subst hnil)))))
      (refine w_s [] [q] [(0, true), (1, true), (2, true), (3, true), (4, true), (5, true), (6, true), (7, true), (8, true), (9, true), (10, true), (11, true), (12, true), (13, true), (14, true), (15, true), (16, true), (17, false), (18, true), (19, false)] ?_; intro J hJ; simp [f0, f6, f7, f10', w5, hl0, hl1, hcl, hd0, hd1]; (repeat refine ca ?_); (try ((try with_reducible refine ⟨?_, ?_⟩) <;> (try with_reducible intro hnil) <;> refine hJ _ _ ?_ <;> clear hJ J <;> simp only [ak, reduceIte] <;> try subst hnil)))
      rw [hsw']
      generalize hc1 : sw c a x1 = c1 at *
      (repeat' (first | refine awp_seq ?_ | refine awp_block ?_ | ((first | refine awp_skip ?_ | refine awp_exit ?_); simp only [ak, reduceIte]) | (refine awp_ret ?_; simp only [ak, reduceIte]; simp [f0, f6, f7, f10']) | (refine awp_cond ?_; simp [f0, f6, f7, f10']; (try with_reducible refine ⟨?_, ?_⟩) <;> (try with_reducible intro hc) <;> try (exfalso; omega)) | ((first | (refine w_e [] ?_; intro J hJ; simp only []) | (refine w_q ?_; intro J hJ) | refine e_go ?_); simp [f0, f6, f7, f10']; (repeat refine ca ?_); (try ((try with_reducible refine ⟨?_, ?_⟩) <;> (try with_reducible intro hnil) <;> refine hJ _ _ ?_ <;> clear hJ J <;> simp only [ak, reduceIte] <;> try subst hnil)))))
      rw [← hcl, ← hsl]
      refine callK_of (siftDown c1 q 0 m a _ (by unfold small; omega) (by omega) (by omega) hpop (by simp)) ?_
      rintro r s2 ⟨c2, rfl, hpm2, hh2⟩
      rw [hsl, hcl]
      (repeat' (first | refine awp_seq ?_ | refine awp_block ?_ | ((first | refine awp_skip ?_ | refine awp_exit ?_); simp only [ak, reduceIte]) | (refine awp_ret ?_; simp only [ak, reduceIte]; simp [f10', w4]) | (refine awp_cond ?_; simp [f10', w4]; (try with_reducible refine ⟨?_, ?_⟩) <;> (try with_reducible intro hc) <;> try (exfalso; omega)) | ((first | (refine w_e [] ?_; intro J hJ; simp only []) | (refine w_q ?_; intro J hJ) | refine e_go ?_); simp [f10', w4]; (repeat refine ca ?_); (try ((try with_reducible refine ⟨?_, ?_⟩) <;> (try with_reducible intro hnil) <;> refine hJ _ _ ?_ <;> clear hJ J <;> simp only [ak, reduceIte] <;> try subst hnil)))))
      exact hJJ m _ _ (by omega) ⟨c2, by omega, by simp [f0], by simp [f6], by simp [f7], by simp, St.set_set _ _ _ _, hpm1.trans (hpm2.wide (by omega) (by omega) (by omega)), hh2, hnext c2 (by rw [hx1]; exact hpm2)⟩

end Go.Proofs.YtaiakdhcajibnaaGreat.Aw.I

namespace Go.Proofs.YtaiakdhcajibnaaGreat.Aw.I
open Go Go.RowKit Go.Proofs.YtaiakdhcajibnaaGreat.Pl
set_option linter.unusedSimpArgs false
set_option linter.unusedVariables false

def StU (P : Int → Bool) (c : List Int) (ii jj : Nat) : Prop := ii ≤ jj → P (c.getD ii 0) = false
def StD (P : Int → Bool) (c : List Int) (ii kk : Nat) : Prop := ii ≤ kk → P (c.getD kk 0) = true

theorem partition (l : List Int) (q a b pv : Nat) (st : St) (hl : small l) (hab : a < b) (hb : b ≤ l.length) (hp1 : a ≤ pv) (hp2 : pv < b) (hH : st.H q = .box 3 1 (us l)) :
    ACalls Tryz.prog 152 [.ms q 0 l.length, i a, i b, i pv] st fun r st' => ∃ (c : List Int) (mid : Nat) (p : Bool), r = .tu [i mid, bb p] ∧ st' = bx st q c ∧ Pm a b l c ∧ a ≤ mid ∧ mid < b ∧ PartedAt c a mid b := by
  unfold small at hl
  refine acalls_of_body tabOk Tryz.func152 rfl rfl Tryz.ntmps152 (rs := [.tmp 8, .tmp 9]) rfl (by simp) ?_
  (repeat (refine awp_seq ?_)); (refine w_e [] ?_; intro J hJ; simp only []; simp []; (repeat refine ca ?_); (try ((try with_reducible refine ⟨?_, ?_⟩) <;> (try with_reducible intro hnil) <;> refine hJ _ _ ?_ <;> clear hJ J <;> simp only [ak, reduceIte] <;> try subst hnil)))
  have hla : a < l.length := by omega
  have hlp : pv < l.length := by omega
  have hsw := fun x y => bx_sw' st q l a pv (x := x) (y := y) (by omega) (by omega)
  have hd0 := us_drop_getD l a (by omega)
  have hd1 := us_drop_getD l pv (by omega)
  have hpm : Pm a b l (sw l a pv) := Pm.one a pv (by omega) (by omega) (by omega) (by omega) (by omega)
  have hx : (sw l a pv).getD a 0 = l.getD pv 0 := by
    rw [sw_get _ _ _ _ (by omega) (by omega)]
    by_cases e : a = pv
    · rw [if_pos e, e]
    · rw [if_neg e, if_pos rfl]
  generalize hy0 : l.getD a 0 = y0 at *
  generalize hy1 : l.getD pv 0 = x at *
  have hsw' := hsw y0 x rfl rfl
  (repeat (refine awp_seq ?_)); (refine w_s [] [q] [(0, true), (1, true), (2, true), (3, true), (4, true), (5, true), (6, true), (7, true), (8, true), (9, true), (10, true), (11, true), (12, true), (13, false), (14, true), (15, false)] ?_; intro J hJ; simp [hH, hla, hlp, hd0, hd1]; (repeat refine ca ?_); (try ((try with_reducible refine ⟨?_, ?_⟩) <;> (try with_reducible intro hnil) <;> refine hJ _ _ ?_ <;> clear hJ J <;> simp only [ak, reduceIte] <;> try subst hnil)))
  rw [hsw']
  clear hsw hsw' hd0 hd1 hy0
  generalize hc : sw l a pv = c at *
  clear hc
  have hcl := hpm.len
  have w1 := nat_add_one a (by omega)
  have w2 := nat_sub_one b (by omega) (by omega)
  obtain ⟨P, hPd⟩ : ∃ P : Int → Bool, ∀ v, P v = decide (v < x) := ⟨_, fun _ => rfl⟩
  refine awp_seq ?_
  refine awp_cut1 (fun fr st2 => fr 0 = .ms q 0 l.length ∧ fr 1 = i a ∧ fr 10 = i ((a + 1 : Nat) : Int) ∧ fr 11 = i ((b - 1 : Nat) : Int) ∧ st2 = bx st q c) (by (refine w_e [] ?_; intro J hJ; simp only []; simp [w1, w2]; (repeat refine ca ?_); (try ((try with_reducible refine ⟨?_, ?_⟩) <;> (try with_reducible intro hnil) <;> refine hJ _ _ ?_ <;> clear hJ J <;> simp only [ak, reduceIte] <;> try subst hnil))); simp) ?_
  rintro fr st2 ⟨f0, f1, fI, fJ, rfl⟩
  have hai : a < a + 1 := by omega
  have hij : a + 1 ≤ b - 1 + 1 := by omega
  have hjb : b - 1 < b := by omega
  have hLo : Lo P c a (a + 1) := fun p h1 h2 => by omega
  have hHi : Hi P c (b - 1) b := fun p h1 h2 => by omega
  generalize a + 1 = ii at *
  generalize b - 1 = jj at *
  clear w1 w2
  have hd0 := us_drop_getD c a (by omega)
  rw [hx] at hd0
  refine awp_seq ?_
  refine awp_cut1 (fun fr st2 => ∃ ii : Nat, a < ii ∧ ii ≤ jj + 1 ∧ fr 0 = .ms q 0 l.length ∧ fr 1 = i a ∧ fr 10 = i ii ∧ fr 11 = i jj ∧ st2 = bx st q c ∧ Lo P c a ii ∧ StU P c ii jj) ?_ ?_
  · refine awp_block ?_
    refine awp_loop (fun m fr st2 => ∃ ii : Nat, a < ii ∧ ii ≤ jj + 1 ∧ m = jj + 1 - ii ∧ fr 0 = .ms q 0 l.length ∧ fr 1 = i a ∧ fr 10 = i ii ∧ fr 11 = i jj ∧ st2 = bx st q c ∧ Lo P c a ii) (jj + 1 - ii) ?_ ?_
    · exact ⟨ii, by omega, by omega, rfl, by simp [f0], by simp [f1], by simp [fI], by simp [fJ], rfl, hLo⟩
    clear f0 f1 fI fJ hLo hai hij fr ii
    rintro m fr st2 ⟨ii, hai, hij, rfl, f0, f1, fI, fJ, rfl, hLo⟩ JJ hJJ
    have hia := nat_add_one ii (by omega)
    by_cases hle : ii ≤ jj
    rotate_left
    · clear hJJ
      (repeat (refine awp_seq ?_)); (refine w_s [] [q] [(0, true), (1, true), (2, true), (3, true), (4, true), (5, true), (6, true), (7, true), (8, true), (9, true), (10, true), (11, true), (12, false), (13, true)] ?_; intro J hJ; simp [f0, f1, fI, fJ, hle]; (repeat refine ca ?_); (try ((try with_reducible refine ⟨?_, ?_⟩) <;> (try with_reducible intro hnil) <;> refine hJ _ _ ?_ <;> clear hJ J <;> simp only [ak, reduceIte] <;> try subst hnil)))
      (repeat' (first | refine awp_seq ?_ | refine awp_block ?_ | ((first | refine awp_skip ?_ | refine awp_exit ?_); simp only [ak, reduceIte]) | (refine awp_ret ?_; simp only [ak, reduceIte]; simp []) | (refine awp_cond ?_; simp []; (try with_reducible refine ⟨?_, ?_⟩) <;> (try with_reducible intro hc) <;> try (exfalso; omega)) | ((first | (refine w_e [] ?_; intro J hJ; simp only []) | (refine w_q ?_; intro J hJ) | refine e_go ?_); simp []; (repeat refine ca ?_); (try ((try with_reducible refine ⟨?_, ?_⟩) <;> (try with_reducible intro hnil) <;> refine hJ _ _ ?_ <;> clear hJ J <;> simp only [ak, reduceIte] <;> try subst hnil)))))
      exact ⟨trivial, ii, by omega, by omega, by simp [f0], by simp [f1], by simp [fI], by simp [fJ], by trivial, hLo, fun h => absurd h hle⟩
    have hli : ii < l.length := by omega
    have hd1 := us_drop_getD c ii (by omega)
    have hmo := hLo.more
    generalize hy : c.getD ii 0 = y at *
    (repeat (refine awp_seq ?_)); (refine w_s [] [q] [(0, true), (1, true), (2, true), (3, true), (4, true), (5, true), (6, true), (7, true), (8, true), (9, true), (10, true), (11, true), (12, false), (13, true)] ?_; intro J hJ; simp [f0, f1, fI, fJ, hle, hli, hla, hcl, hd0, hd1]; (repeat refine ca ?_); (try ((try with_reducible refine ⟨?_, ?_⟩) <;> (try with_reducible intro hnil) <;> refine hJ _ _ ?_ <;> clear hJ J <;> simp only [ak, reduceIte] <;> try subst hnil)))
    refine dcallK_of (Less y x _) ?_; rintro r s2 ⟨rfl, rfl⟩
    refine ⟨fun _ => by simp, ?_⟩
    have hP := hPd y
    by_cases hyx : y < x
    · (refine d_go ?_; simp [hyx]; (repeat refine ca ?_); (try ((try with_reducible refine ⟨?_, ?_⟩) <;> (try with_reducible intro hnil) <;> refine hJ _ _ ?_ <;> clear hJ J <;> simp only [ak, reduceIte] <;> try subst hnil)))
      (repeat' (first | refine awp_seq ?_ | refine awp_block ?_ | ((first | refine awp_skip ?_ | refine awp_exit ?_); simp only [ak, reduceIte]) | (refine awp_ret ?_; simp only [ak, reduceIte]; simp [fI, hia]) | (refine awp_cond ?_; simp [fI, hia]; (try with_reducible refine ⟨?_, ?_⟩) <;> (try with_reducible intro hc) <;> try (exfalso; omega)) | ((first | (refine w_e [] ?_; intro J hJ; simp only []) | (refine w_q ?_; intro J hJ) | refine e_go ?_); simp [fI, hia]; (repeat refine ca ?_); (try ((try with_reducible refine ⟨?_, ?_⟩) <;> (try with_reducible intro hnil) <;> refine hJ _ _ ?_ <;> clear hJ J <;> simp only [ak, reduceIte] <;> try subst hnil)))))
      exact hJJ (jj + 1 - (ii + 1)) _ _ (by omega) ⟨ii + 1, by omega, by omega, rfl, by simp [f0], by simp [f1], by simp, by simp [fJ], rfl, hmo (by rw [hP]; simp [hyx])⟩
    · clear hJJ
      (refine d_go ?_; simp [hyx]; (repeat refine ca ?_); (try ((try with_reducible refine ⟨?_, ?_⟩) <;> (try with_reducible intro hnil) <;> refine hJ _ _ ?_ <;> clear hJ J <;> simp only [ak, reduceIte] <;> try subst hnil)))
      (repeat' (first | refine awp_seq ?_ | refine awp_block ?_ | ((first | refine awp_skip ?_ | refine awp_exit ?_); simp only [ak, reduceIte]) | (refine awp_ret ?_; simp only [ak, reduceIte]; simp []) | (refine awp_cond ?_; simp []; (try with_reducible refine ⟨?_, ?_⟩) <;> (try with_reducible intro hc) <;> try (exfalso; omega)) | ((first | (refine w_e [] ?_; intro J hJ; simp only []) | (refine w_q ?_; intro J hJ) | refine e_go ?_); simp []; (repeat refine ca ?_); (try ((try with_reducible refine ⟨?_, ?_⟩) <;> (try with_reducible intro hnil) <;> refine hJ _ _ ?_ <;> clear hJ J <;> simp only [ak, reduceIte] <;> try subst hnil)))))
      exact ⟨trivial, ii, by omega, by omega, by simp [f0], by simp [f1], by simp [fI], by simp [fJ], by trivial, hLo, fun _ => by rw [hy, hP]; simp [hyx]⟩
  clear f0 f1 fI fJ hLo hai hij fr ii
  rintro fr st2 ⟨ii, hai, hij, f0, f1, fI, fJ, rfl, hLo, hst⟩
  refine awp_seq ?_
  refine awp_cut1 (fun fr st2 => ∃ kk : Nat, a ≤ kk ∧ kk ≤ jj ∧ ii ≤ kk + 1 ∧ fr 0 = .ms q 0 l.length ∧ fr 1 = i a ∧ fr 10 = i ii ∧ fr 11 = i kk ∧ st2 = bx st q c ∧ Hi P c kk b ∧ StD P c ii kk) ?_ ?_
  · refine awp_block ?_
    refine awp_loop (fun m fr st2 => ∃ kk : Nat, a ≤ kk ∧ kk ≤ jj ∧ ii ≤ kk + 1 ∧ kk = m ∧ fr 0 = .ms q 0 l.length ∧ fr 1 = i a ∧ fr 10 = i ii ∧ fr 11 = i kk ∧ st2 = bx st q c ∧ Hi P c kk b) jj ?_ ?_
    · exact ⟨jj, by omega, by omega, by omega, rfl, by simp [f0], by simp [f1], by simp [fI], by simp [fJ], rfl, hHi⟩
    clear f0 f1 fI fJ hHi fr
    rintro m fr st2 ⟨kk, hak, hkj, hik, rfl, f0, f1, fI, fJ, rfl, hHi⟩ JJ hJJ
    by_cases hle : ii ≤ kk
    rotate_left
    · clear hJJ
      (repeat (refine awp_seq ?_)); (refine w_s [] [q] [(0, true), (1, true), (2, true), (3, true), (4, true), (5, true), (6, true), (7, true), (8, true), (9, true), (10, true), (11, true), (12, false), (13, true), (14, true)] ?_; intro J hJ; simp [f0, f1, fI, fJ, hle]; (repeat refine ca ?_); (try ((try with_reducible refine ⟨?_, ?_⟩) <;> (try with_reducible intro hnil) <;> refine hJ _ _ ?_ <;> clear hJ J <;> simp only [ak, reduceIte] <;> try subst hnil)))
      (repeat' (first | refine awp_seq ?_ | refine awp_block ?_ | ((first | refine awp_skip ?_ | refine awp_exit ?_); simp only [ak, reduceIte]) | (refine awp_ret ?_; simp only [ak, reduceIte]; simp []) | (refine awp_cond ?_; simp []; (try with_reducible refine ⟨?_, ?_⟩) <;> (try with_reducible intro hc) <;> try (exfalso; omega)) | ((first | (refine w_e [] ?_; intro J hJ; simp only []) | (refine w_q ?_; intro J hJ) | refine e_go ?_); simp []; (repeat refine ca ?_); (try ((try with_reducible refine ⟨?_, ?_⟩) <;> (try with_reducible intro hnil) <;> refine hJ _ _ ?_ <;> clear hJ J <;> simp only [ak, reduceIte] <;> try subst hnil)))))
      exact ⟨trivial, kk, by omega, by omega, by omega, by simp [f0], by simp [f1], by simp [fI], by simp [fJ], by trivial, hHi, fun h => absurd h hle⟩
    have hja := nat_sub_one kk (by omega) (by omega)
    have hlj : kk < l.length := by omega
    have hd1 := us_drop_getD c kk (by omega)
    have hmo := hHi.more
    generalize hy : c.getD kk 0 = y at *
    (repeat (refine awp_seq ?_)); (refine w_s [] [q] [(0, true), (1, true), (2, true), (3, true), (4, true), (5, true), (6, true), (7, true), (8, true), (9, true), (10, true), (11, true), (12, false), (13, true), (14, true)] ?_; intro J hJ; simp [f0, f1, fI, fJ, hle, hlj, hla, hcl, hd0, hd1]; (repeat refine ca ?_); (try ((try with_reducible refine ⟨?_, ?_⟩) <;> (try with_reducible intro hnil) <;> refine hJ _ _ ?_ <;> clear hJ J <;> simp only [ak, reduceIte] <;> try subst hnil)))
    refine dcallK_of (Less y x _) ?_; rintro r s2 ⟨rfl, rfl⟩
    refine ⟨fun _ => by simp, ?_⟩
    have hP := hPd y
    by_cases hyx : y < x
    · clear hJJ
      (refine d_go ?_; simp [hyx]; (repeat refine ca ?_); (try ((try with_reducible refine ⟨?_, ?_⟩) <;> (try with_reducible intro hnil) <;> refine hJ _ _ ?_ <;> clear hJ J <;> simp only [ak, reduceIte] <;> try subst hnil)))
      (repeat' (first | refine awp_seq ?_ | refine awp_block ?_ | ((first | refine awp_skip ?_ | refine awp_exit ?_); simp only [ak, reduceIte]) | (refine awp_ret ?_; simp only [ak, reduceIte]; simp []) | (refine awp_cond ?_; simp []; (try with_reducible refine ⟨?_, ?_⟩) <;> (try with_reducible intro hc) <;> try (exfalso; omega)) | ((first | (refine w_e [] ?_; intro J hJ; simp only []) | (refine w_q ?_; intro J hJ) | refine e_go ?_); simp []; (repeat refine ca ?_); (try ((try with_reducible refine ⟨?_, ?_⟩) <;> (try with_reducible intro hnil) <;> refine hJ _ _ ?_ <;> clear hJ J <;> simp only [ak, reduceIte] <;> try subst hnil)))))
      exact ⟨trivial, kk, by omega, by omega, by omega, by simp [f0], by simp [f1], by simp [fI], by simp [fJ], by trivial, hHi, fun _ => by rw [hy, hP]; simp [hyx]⟩
    · (refine d_go ?_; simp [hyx]; (repeat refine ca ?_); (try ((try with_reducible refine ⟨?_, ?_⟩) <;> (try with_reducible intro hnil) <;> refine hJ _ _ ?_ <;> clear hJ J <;> simp only [ak, reduceIte] <;> try subst hnil)))
      (repeat' (first | refine awp_seq ?_ | refine awp_block ?_ | ((first | refine awp_skip ?_ | refine awp_exit ?_); simp only [ak, reduceIte]) | (refine awp_ret ?_; simp only [ak, reduceIte]; simp [fJ, hja]) | (refine awp_cond ?_; simp [fJ, hja]; (try with_reducible refine ⟨?_, ?_⟩) <;> (try with_reducible intro hc) <;> try (exfalso; omega)) | ((first | (refine w_e [] ?_; intro J hJ; simp only []) | (refine w_q ?_; intro J hJ) | refine e_go ?_); simp [fJ, hja]; (repeat refine ca ?_); (try ((try with_reducible refine ⟨?_, ?_⟩) <;> (try with_reducible intro hnil) <;> refine hJ _ _ ?_ <;> clear hJ J <;> simp only [ak, reduceIte] <;> try subst hnil)))))
      exact hJJ (kk - 1) _ _ (by omega) ⟨kk - 1, by omega, by omega, by omega, rfl, by simp [f0], by simp [f1], by simp [fI], by simp, rfl, hmo (by omega) (by rw [hP]; simp [hyx])⟩
  clear f0 f1 fI fJ hHi fr
  rintro fr st2 ⟨kk, hak, hkj, hik, f0, f1, fI, fJ, rfl, hHi, hst2⟩
  by_cases hle : ii ≤ kk
  rotate_left
  · have hke : ii = kk + 1 := by omega
    have hpl := parted_last (hke ▸ hLo) hHi (by omega) (by omega) (by omega)
    have hpm2 := hpm.step kk a (by omega) (by omega) (by omega) (by omega) (by omega)
    have hlk : kk < l.length := by omega
    have hd1 := us_drop_getD c kk (by omega)
    have hsw := fun x y => bx_sw st q c kk a (x := x) (y := y) (by omega) (by omega)
    generalize hy1 : c.getD kk 0 = y1 at *
    have hsw' := hsw y1 x rfl hx
    (repeat' (first | refine awp_seq ?_ | refine awp_block ?_ | ((first | refine awp_skip ?_ | refine awp_exit ?_); simp only [ak, reduceIte]) | (refine awp_ret ?_; simp only [ak, reduceIte]; simp [f0, f1, fI, fJ, hle]) | (refine awp_cond ?_; simp [f0, f1, fI, fJ, hle]; (try with_reducible refine ⟨?_, ?_⟩) <;> (try with_reducible intro hc) <;> try (exfalso; omega)) | ((first | (refine w_e [] ?_; intro J hJ; simp only []) | (refine w_q ?_; intro J hJ) | refine e_go ?_); simp [f0, f1, fI, fJ, hle]; (repeat refine ca ?_); (try ((try with_reducible refine ⟨?_, ?_⟩) <;> (try with_reducible intro hnil) <;> refine hJ _ _ ?_ <;> clear hJ J <;> simp only [ak, reduceIte] <;> try subst hnil)))))
    (refine w_s [] [q] [(0, true), (1, true), (2, true), (3, true), (4, true), (5, true), (6, true), (7, true), (8, true), (9, true), (10, true), (11, true), (12, true), (13, false), (14, true), (15, false)] ?_; intro J hJ; simp [f0, f1, fI, fJ, hla, hlk, hcl, hd0, hd1]; (repeat refine ca ?_); (try ((try with_reducible refine ⟨?_, ?_⟩) <;> (try with_reducible intro hnil) <;> refine hJ _ _ ?_ <;> clear hJ J <;> simp only [ak, reduceIte] <;> try subst hnil)))
    (repeat' (first | refine awp_seq ?_ | refine awp_block ?_ | ((first | refine awp_skip ?_ | refine awp_exit ?_); simp only [ak, reduceIte]) | (refine awp_ret ?_; simp only [ak, reduceIte]; simp [f0, f1, fI, fJ]) | (refine awp_cond ?_; simp [f0, f1, fI, fJ]; (try with_reducible refine ⟨?_, ?_⟩) <;> (try with_reducible intro hc) <;> try (exfalso; omega)) | ((first | (refine w_e [] ?_; intro J hJ; simp only []) | (refine w_q ?_; intro J hJ) | refine e_go ?_); simp [f0, f1, fI, fJ]; (repeat refine ca ?_); (try ((try with_reducible refine ⟨?_, ?_⟩) <;> (try with_reducible intro hnil) <;> refine hJ _ _ ?_ <;> clear hJ J <;> simp only [ak, reduceIte] <;> try subst hnil)))))
    exact ⟨_, kk, rfl, hsw', hpm2, by omega, by omega, by unfold PartedAt; rw [hpl.2, hx]; have h := hpl.1; rwa [show P = _ from funext hPd] at h⟩
  have hik2 : ii < kk := by
    rcases Nat.lt_or_ge ii kk with h | h
    · exact h
    · exfalso
      have e : ii = kk := by omega
      have h1 := hst (by omega)
      have h2 := hst2 hle
      rw [e, h2] at h1; cases h1
  have hLo2 := hLo.swp hik2 (by omega) (hst2 hle)
  have hHi2 := hHi.swp hik2 (by omega) (hst (by omega))
  have hpm2 := hpm.step ii kk (by omega) (by omega) (by omega) (by omega) (by omega)
  have hxx : (sw c ii kk).getD a 0 = x := by rw [sw_get _ _ _ _ (by omega) (by omega), if_neg (by omega), if_neg (by omega)]; exact hx
  have hli : ii < l.length := by omega
  have hlk : kk < l.length := by omega
  have hd1 := us_drop_getD c ii (by omega)
  have hd2 := us_drop_getD c kk (by omega)
  have hsw := fun x y => bx_sw st q c ii kk (x := x) (y := y) (by omega) (by omega)
  have hia := nat_add_one ii (by omega)
  have hka := nat_sub_one kk (by omega) (by omega)
  clear hst hst2
  generalize hy1 : c.getD ii 0 = y1 at *
  generalize hy2 : c.getD kk 0 = y2 at *
  have hsw' := hsw y1 y2 rfl rfl
  (repeat' (first | refine awp_seq ?_ | refine awp_block ?_ | ((first | refine awp_skip ?_ | refine awp_exit ?_); simp only [ak, reduceIte]) | (refine awp_ret ?_; simp only [ak, reduceIte]; simp [f0, f1, fI, fJ, hle]) | (refine awp_cond ?_; simp [f0, f1, fI, fJ, hle]; (try with_reducible refine ⟨?_, ?_⟩) <;> (try with_reducible intro hc) <;> try (exfalso; omega)) | ((first | (refine w_e [] ?_; intro J hJ; simp only []) | (refine w_q ?_; intro J hJ) | refine e_go ?_); simp [f0, f1, fI, fJ, hle]; (repeat refine ca ?_); (try ((try with_reducible refine ⟨?_, ?_⟩) <;> (try with_reducible intro hnil) <;> refine hJ _ _ ?_ <;> clear hJ J <;> simp only [ak, reduceIte] <;> try subst hnil)))))
  (refine w_s [] [q] [(0, true), (1, true), (2, true), (3, true), (4, true), (5, true), (6, true), (7, true), (8, true), (9, true), (10, true), (11, true), (12, true), (13, false), (14, true), (15, false)] ?_; intro J hJ; simp [f0, f1, fI, fJ, hli, hlk, hcl, hd1, hd2]; (repeat refine ca ?_); (try ((try with_reducible refine ⟨?_, ?_⟩) <;> (try with_reducible intro hnil) <;> refine hJ _ _ ?_ <;> clear hJ J <;> simp only [ak, reduceIte] <;> try subst hnil)))
  (repeat' (first | refine awp_seq ?_ | refine awp_block ?_ | ((first | refine awp_skip ?_ | refine awp_exit ?_); simp only [ak, reduceIte]) | (refine awp_ret ?_; simp only [ak, reduceIte]; simp [fI, fJ, hia, hka]) | (refine awp_cond ?_; simp [fI, fJ, hia, hka]; (try with_reducible refine ⟨?_, ?_⟩) <;> (try with_reducible intro hc) <;> try (exfalso; omega)) | ((first | (refine w_e [] ?_; intro J hJ; simp only []) | (refine w_q ?_; intro J hJ) | refine e_go ?_); simp [fI, fJ, hia, hka]; (repeat refine ca ?_); (try ((try with_reducible refine ⟨?_, ?_⟩) <;> (try with_reducible intro hnil) <;> refine hJ _ _ ?_ <;> clear hJ J <;> simp only [ak, reduceIte] <;> try subst hnil)))))
  rw [hsw']
  refine awp_loop (fun m fr st2 => ∃ (ii jj : Nat) (c : List Int), a < ii ∧ ii ≤ jj + 1 ∧ jj < b ∧ jj = m ∧ fr 0 = .ms q 0 l.length ∧ fr 1 = i a ∧ fr 10 = i ii ∧ fr 11 = i jj ∧ st2 = bx st q c ∧ Pm a b l c ∧ c.getD a 0 = x ∧ Lo P c a ii ∧ Hi P c jj b) (kk - 1) ?_ ?_
  · exact ⟨ii + 1, kk - 1, sw c ii kk, by omega, by omega, by omega, rfl, by simp [f0], by simp [f1], by simp, by simp, rfl, hpm2, hxx, hLo2, hHi2⟩
  clear f0 f1 fI fJ hLo hHi hLo2 hHi2 hpm hpm2 hx hxx hcl hd0 hd1 hd2 hsw hsw' hy1 hy2 y1 y2 hai hij hak hik hik2 hli hlk hia hka hle hkj hjb ii jj kk c fr
  rintro m fr st2 ⟨ii, jj, c, hai, hij, hjb, rfl, f0, f1, fI, fJ, rfl, hpm, hx, hLo, hHi⟩ JJ0 hJ0
  have hcl := hpm.len
  have hd0 := us_drop_getD c a (by omega)
  rw [hx] at hd0
  refine awp_block ?_
  refine awp_seq ?_
  refine awp_cut1 (fun fr st2 => ∃ ii : Nat, a < ii ∧ ii ≤ jj + 1 ∧ fr 0 = .ms q 0 l.length ∧ fr 1 = i a ∧ fr 10 = i ii ∧ fr 11 = i jj ∧ st2 = bx st q c ∧ Lo P c a ii ∧ StU P c ii jj) ?_ ?_
  · refine awp_block ?_
    refine awp_loop (fun m fr st2 => ∃ ii : Nat, a < ii ∧ ii ≤ jj + 1 ∧ m = jj + 1 - ii ∧ fr 0 = .ms q 0 l.length ∧ fr 1 = i a ∧ fr 10 = i ii ∧ fr 11 = i jj ∧ st2 = bx st q c ∧ Lo P c a ii) (jj + 1 - ii) ?_ ?_
    · exact ⟨ii, by omega, by omega, rfl, by simp [f0], by simp [f1], by simp [fI], by simp [fJ], rfl, hLo⟩
    clear f0 f1 fI fJ hLo hai hij fr ii
    rintro m fr st2 ⟨ii, hai, hij, rfl, f0, f1, fI, fJ, rfl, hLo⟩ JJ hJJ
    have hia := nat_add_one ii (by omega)
    by_cases hle : ii ≤ jj
    rotate_left
    · clear hJJ
      (repeat (refine awp_seq ?_)); (refine w_s [] [q] [(0, true), (1, true), (2, true), (3, true), (4, true), (5, true), (6, true), (7, true), (8, true), (9, true), (10, true), (11, true), (12, false), (13, true)] ?_; intro J hJ; simp [f0, f1, fI, fJ, hle]; (repeat refine ca ?_); (try ((try with_reducible refine ⟨?_, ?_⟩) <;> (try with_reducible intro hnil) <;> refine hJ _ _ ?_ <;> clear hJ J <;> simp only [ak, reduceIte] <;> try subst hnil)))
      (repeat' (first | refine awp_seq ?_ | refine awp_block ?_ | ((first | refine awp_skip ?_ | refine awp_exit ?_); simp only [ak, reduceIte]) | (refine awp_ret ?_; simp only [ak, reduceIte]; simp []) | (refine awp_cond ?_; simp []; (try with_reducible refine ⟨?_, ?_⟩) <;> (try with_reducible intro hc) <;> try (exfalso; omega)) | ((first | (refine w_e [] ?_; intro J hJ; simp only []) | (refine w_q ?_; intro J hJ) | refine e_go ?_); simp []; (repeat refine ca ?_); (try ((try with_reducible refine ⟨?_, ?_⟩) <;> (try with_reducible intro hnil) <;> refine hJ _ _ ?_ <;> clear hJ J <;> simp only [ak, reduceIte] <;> try subst hnil)))))
      exact ⟨trivial, ii, by omega, by omega, by simp [f0], by simp [f1], by simp [fI], by simp [fJ], by trivial, hLo, fun h => absurd h hle⟩
    have hli : ii < l.length := by omega
    have hd1 := us_drop_getD c ii (by omega)
    have hmo := hLo.more
    generalize hy : c.getD ii 0 = y at *
    (repeat (refine awp_seq ?_)); (refine w_s [] [q] [(0, true), (1, true), (2, true), (3, true), (4, true), (5, true), (6, true), (7, true), (8, true), (9, true), (10, true), (11, true), (12, false), (13, true)] ?_; intro J hJ; simp [f0, f1, fI, fJ, hle, hli, hla, hcl, hd0, hd1]; (repeat refine ca ?_); (try ((try with_reducible refine ⟨?_, ?_⟩) <;> (try with_reducible intro hnil) <;> refine hJ _ _ ?_ <;> clear hJ J <;> simp only [ak, reduceIte] <;> try subst hnil)))
    refine dcallK_of (Less y x _) ?_; rintro r s2 ⟨rfl, rfl⟩
    refine ⟨fun _ => by simp, ?_⟩
    have hP := hPd y
    by_cases hyx : y < x
    · (refine d_go ?_; simp [hyx]; (repeat refine ca ?_); (try ((try with_reducible refine ⟨?_, ?_⟩) <;> (try with_reducible intro hnil) <;> refine hJ _ _ ?_ <;> clear hJ J <;> simp only [ak, reduceIte] <;> try subst hnil)))
      (repeat' (first | refine awp_seq ?_ | refine awp_block ?_ | ((first | refine awp_skip ?_ | refine awp_exit ?_); simp only [ak, reduceIte]) | (refine awp_ret ?_; simp only [ak, reduceIte]; simp [fI, hia]) | (refine awp_cond ?_; simp [fI, hia]; (try with_reducible refine ⟨?_, ?_⟩) <;> (try with_reducible intro hc) <;> try (exfalso; omega)) | ((first | (refine w_e [] ?_; intro J hJ; simp only []) | (refine w_q ?_; intro J hJ) | refine e_go ?_); simp [fI, hia]; (repeat refine ca ?_); (try ((try with_reducible refine ⟨?_, ?_⟩) <;> (try with_reducible intro hnil) <;> refine hJ _ _ ?_ <;> clear hJ J <;> simp only [ak, reduceIte] <;> try subst hnil)))))
      exact hJJ (jj + 1 - (ii + 1)) _ _ (by omega) ⟨ii + 1, by omega, by omega, rfl, by simp [f0], by simp [f1], by simp, by simp [fJ], rfl, hmo (by rw [hP]; simp [hyx])⟩
    · clear hJJ
      (refine d_go ?_; simp [hyx]; (repeat refine ca ?_); (try ((try with_reducible refine ⟨?_, ?_⟩) <;> (try with_reducible intro hnil) <;> refine hJ _ _ ?_ <;> clear hJ J <;> simp only [ak, reduceIte] <;> try subst hnil)))
      (repeat' (first | refine awp_seq ?_ | refine awp_block ?_ | ((first | refine awp_skip ?_ | refine awp_exit ?_); simp only [ak, reduceIte]) | (refine awp_ret ?_; simp only [ak, reduceIte]; simp []) | (refine awp_cond ?_; simp []; (try with_reducible refine ⟨?_, ?_⟩) <;> (try with_reducible intro hc) <;> try (exfalso; omega)) | ((first | (refine w_e [] ?_; intro J hJ; simp only []) | (refine w_q ?_; intro J hJ) | refine e_go ?_); simp []; (repeat refine ca ?_); (try ((try with_reducible refine ⟨?_, ?_⟩) <;> (try with_reducible intro hnil) <;> refine hJ _ _ ?_ <;> clear hJ J <;> simp only [ak, reduceIte] <;> try subst hnil)))))
      exact ⟨trivial, ii, by omega, by omega, by simp [f0], by simp [f1], by simp [fI], by simp [fJ], by trivial, hLo, fun _ => by rw [hy, hP]; simp [hyx]⟩
  clear f0 f1 fI fJ hLo hai hij fr ii
  rintro fr st2 ⟨ii, hai, hij, f0, f1, fI, fJ, rfl, hLo, hst⟩
  refine awp_seq ?_
  refine awp_cut1 (fun fr st2 => ∃ kk : Nat, a ≤ kk ∧ kk ≤ jj ∧ ii ≤ kk + 1 ∧ fr 0 = .ms q 0 l.length ∧ fr 1 = i a ∧ fr 10 = i ii ∧ fr 11 = i kk ∧ st2 = bx st q c ∧ Hi P c kk b ∧ StD P c ii kk) ?_ ?_
  · refine awp_block ?_
    refine awp_loop (fun m fr st2 => ∃ kk : Nat, a ≤ kk ∧ kk ≤ jj ∧ ii ≤ kk + 1 ∧ kk = m ∧ fr 0 = .ms q 0 l.length ∧ fr 1 = i a ∧ fr 10 = i ii ∧ fr 11 = i kk ∧ st2 = bx st q c ∧ Hi P c kk b) jj ?_ ?_
    · exact ⟨jj, by omega, by omega, by omega, rfl, by simp [f0], by simp [f1], by simp [fI], by simp [fJ], rfl, hHi⟩
    clear f0 f1 fI fJ hHi fr
    rintro m fr st2 ⟨kk, hak, hkj, hik, rfl, f0, f1, fI, fJ, rfl, hHi⟩ JJ hJJ
    by_cases hle : ii ≤ kk
    rotate_left
    · clear hJJ
      (repeat (refine awp_seq ?_)); (refine w_s [] [q] [(0, true), (1, true), (2, true), (3, true), (4, true), (5, true), (6, true), (7, true), (8, true), (9, true), (10, true), (11, true), (12, false), (13, true), (14, true)] ?_; intro J hJ; simp [f0, f1, fI, fJ, hle]; (repeat refine ca ?_); (try ((try with_reducible refine ⟨?_, ?_⟩) <;> (try with_reducible intro hnil) <;> refine hJ _ _ ?_ <;> clear hJ J <;> simp only [ak, reduceIte] <;> try subst hnil)))
      (repeat' (first | refine awp_seq ?_ | refine awp_block ?_ | ((first | refine awp_skip ?_ | refine awp_exit ?_); simp only [ak, reduceIte]) | (refine awp_ret ?_; simp only [ak, reduceIte]; simp []) | (refine awp_cond ?_; simp []; (try with_reducible refine ⟨?_, ?_⟩) <;> (try with_reducible intro hc) <;> try (exfalso; omega)) | ((first | (refine w_e [] ?_; intro J hJ; simp only []) | (refine w_q ?_; intro J hJ) | refine e_go ?_); simp []; (repeat refine ca ?_); (try ((try with_reducible refine ⟨?_, ?_⟩) <;> (try with_reducible intro hnil) <;> refine hJ _ _ ?_ <;> clear hJ J <;> simp only [ak, reduceIte] <;> try subst hnil)))))
      exact ⟨trivial, kk, by omega, by omega, by omega, by simp [f0], by simp [f1], by simp [fI], by simp [fJ], by trivial, hHi, fun h => absurd h hle⟩
    have hja := nat_sub_one kk (by omega) (by omega)
    have hlj : kk < l.length := by omega
    have hd1 := us_drop_getD c kk (by omega)
    have hmo := hHi.more
    generalize hy : c.getD kk 0 = y at *
    (repeat (refine awp_seq ?_)); (refine w_s [] [q] [(0, true), (1, true), (2, true), (3, true), (4, true), (5, true), (6, true), (7, true), (8, true), (9, true), (10, true), (11, true), (12, false), (13, true), (14, true)] ?_; intro J hJ; simp [f0, f1, fI, fJ, hle, hlj, hla, hcl, hd0, hd1]; (repeat refine ca ?_); (try ((try with_reducible refine ⟨?_, ?_⟩) <;> (try with_reducible intro hnil) <;> refine hJ _ _ ?_ <;> clear hJ J <;> simp only [ak, reduceIte] <;> try subst hnil)))
    refine dcallK_of (Less y x _) ?_; rintro r s2 ⟨rfl, rfl⟩
    refine ⟨fun _ => by simp, ?_⟩
    have hP := hPd y
    by_cases hyx : y < x
    · clear hJJ
      (refine d_go ?_; simp [hyx]; (repeat refine ca ?_); (try ((try with_reducible refine ⟨?_, ?_⟩) <;> (try with_reducible intro hnil) <;> refine hJ _ _ ?_ <;> clear hJ J <;> simp only [ak, reduceIte] <;> try subst hnil)))
      (repeat' (first | refine awp_seq ?_ | refine awp_block ?_ | ((first | refine awp_skip ?_ | refine awp_exit ?_); simp only [ak, reduceIte]) | (refine awp_ret ?_; simp only [ak, reduceIte]; simp []) | (refine awp_cond ?_; simp []; (try with_reducible refine ⟨?_, ?_⟩) <;> (try with_reducible intro hc) <;> try (exfalso; omega)) | ((first | (refine w_e [] ?_; intro J hJ; simp only []) | (refine w_q ?_; intro J hJ) | refine e_go ?_); simp []; (repeat refine ca ?_); (try ((try with_reducible refine ⟨?_, ?_⟩) <;> (try with_reducible intro hnil) <;> refine hJ _ _ ?_ <;> clear hJ J <;> simp only [ak, reduceIte] <;> try subst hnil)))))
      exact ⟨trivial, kk, by omega, by omega, by omega, by simp [f0], by simp [f1], by simp [fI], by simp [fJ], by trivial, hHi, fun _ => by rw [hy, hP]; simp [hyx]⟩
    · (refine d_go ?_; simp [hyx]; (repeat refine ca ?_); (try ((try with_reducible refine ⟨?_, ?_⟩) <;> (try with_reducible intro hnil) <;> refine hJ _ _ ?_ <;> clear hJ J <;> simp only [ak, reduceIte] <;> try subst hnil)))
      (repeat' (first | refine awp_seq ?_ | refine awp_block ?_ | ((first | refine awp_skip ?_ | refine awp_exit ?_); simp only [ak, reduceIte]) | (refine awp_ret ?_; simp only [ak, reduceIte]; simp [fJ, hja]) | (refine awp_cond ?_; simp [fJ, hja]; (try with_reducible refine ⟨?_, ?_⟩) <;> (try with_reducible intro hc) <;> try (exfalso; omega)) | ((first | (refine w_e [] ?_; intro J hJ; simp only []) | (refine w_q ?_; intro J hJ) | refine e_go ?_); simp [fJ, hja]; (repeat refine ca ?_); (try ((try with_reducible refine ⟨?_, ?_⟩) <;> (try with_reducible intro hnil) <;> refine hJ _ _ ?_ <;> clear hJ J <;> simp only [ak, reduceIte] <;> try subst hnil)))))
      exact hJJ (kk - 1) _ _ (by omega) ⟨kk - 1, by omega, by omega, by omega, rfl, by simp [f0], by simp [f1], by simp [fI], by simp, rfl, hmo (by omega) (by rw [hP]; simp [hyx])⟩
  clear f0 f1 fI fJ hHi fr
  rintro fr st2 ⟨kk, hak, hkj, hik, f0, f1, fI, fJ, rfl, hHi, hst2⟩
  by_cases hle : ii ≤ kk
  rotate_left
  · clear hJ0
    have hke : ii = kk + 1 := by omega
    have hpl := parted_last (hke ▸ hLo) hHi (by omega) (by omega) (by omega)
    have hpm2 := hpm.step kk a (by omega) (by omega) (by omega) (by omega) (by omega)
    have hlk : kk < l.length := by omega
    have hd1 := us_drop_getD c kk (by omega)
    have hsw := fun x y => bx_sw st q c kk a (x := x) (y := y) (by omega) (by omega)
    generalize hy1 : c.getD kk 0 = y1 at *
    have hsw' := hsw y1 x rfl hx
    (repeat' (first | refine awp_seq ?_ | refine awp_block ?_ | ((first | refine awp_skip ?_ | refine awp_exit ?_); simp only [ak, reduceIte]) | (refine awp_ret ?_; simp only [ak, reduceIte]; simp [f0, f1, fI, fJ, hle]) | (refine awp_cond ?_; simp [f0, f1, fI, fJ, hle]; (try with_reducible refine ⟨?_, ?_⟩) <;> (try with_reducible intro hc) <;> try (exfalso; omega)) | ((first | (refine w_e [] ?_; intro J hJ; simp only []) | (refine w_q ?_; intro J hJ) | refine e_go ?_); simp [f0, f1, fI, fJ, hle]; (repeat refine ca ?_); (try ((try with_reducible refine ⟨?_, ?_⟩) <;> (try with_reducible intro hnil) <;> refine hJ _ _ ?_ <;> clear hJ J <;> simp only [ak, reduceIte] <;> try subst hnil)))))
    (refine w_s [] [q] [(0, true), (1, true), (2, true), (3, true), (4, true), (5, true), (6, true), (7, true), (8, true), (9, true), (10, true), (11, true), (12, true), (13, false), (14, true), (15, false)] ?_; intro J hJ; simp [f0, f1, fI, fJ, hla, hlk, hcl, hd0, hd1]; (repeat refine ca ?_); (try ((try with_reducible refine ⟨?_, ?_⟩) <;> (try with_reducible intro hnil) <;> refine hJ _ _ ?_ <;> clear hJ J <;> simp only [ak, reduceIte] <;> try subst hnil)))
    (repeat' (first | refine awp_seq ?_ | refine awp_block ?_ | ((first | refine awp_skip ?_ | refine awp_exit ?_); simp only [ak, reduceIte]) | (refine awp_ret ?_; simp only [ak, reduceIte]; simp [f0, f1, fI, fJ]) | (refine awp_cond ?_; simp [f0, f1, fI, fJ]; (try with_reducible refine ⟨?_, ?_⟩) <;> (try with_reducible intro hc) <;> try (exfalso; omega)) | ((first | (refine w_e [] ?_; intro J hJ; simp only []) | (refine w_q ?_; intro J hJ) | refine e_go ?_); simp [f0, f1, fI, fJ]; (repeat refine ca ?_); (try ((try with_reducible refine ⟨?_, ?_⟩) <;> (try with_reducible intro hnil) <;> refine hJ _ _ ?_ <;> clear hJ J <;> simp only [ak, reduceIte] <;> try subst hnil)))))
    exact ⟨_, kk, rfl, hsw', hpm2, by omega, by omega, by unfold PartedAt; rw [hpl.2, hx]; have h := hpl.1; rwa [show P = _ from funext hPd] at h⟩
  have hik2 : ii < kk := by
    rcases Nat.lt_or_ge ii kk with h | h
    · exact h
    · exfalso
      have e : ii = kk := by omega
      have h1 := hst (by omega)
      have h2 := hst2 hle
      rw [e, h2] at h1; cases h1
  have hLo2 := hLo.swp hik2 (by omega) (hst2 hle)
  have hHi2 := hHi.swp hik2 (by omega) (hst (by omega))
  have hpm2 := hpm.step ii kk (by omega) (by omega) (by omega) (by omega) (by omega)
  have hxx : (sw c ii kk).getD a 0 = x := by rw [sw_get _ _ _ _ (by omega) (by omega), if_neg (by omega), if_neg (by omega)]; exact hx
  have hli : ii < l.length := by omega
  have hlk : kk < l.length := by omega
  have hd1 := us_drop_getD c ii (by omega)
  have hd2 := us_drop_getD c kk (by omega)
  have hsw := fun x y => bx_sw st q c ii kk (x := x) (y := y) (by omega) (by omega)
  have hia := nat_add_one ii (by omega)
  have hka := nat_sub_one kk (by omega) (by omega)
  clear hst hst2
  generalize hy1 : c.getD ii 0 = y1 at *
  generalize hy2 : c.getD kk 0 = y2 at *
  have hsw' := hsw y1 y2 rfl rfl
  (repeat' (first | refine awp_seq ?_ | refine awp_block ?_ | ((first | refine awp_skip ?_ | refine awp_exit ?_); simp only [ak, reduceIte]) | (refine awp_ret ?_; simp only [ak, reduceIte]; simp [f0, f1, fI, fJ, hle]) | (refine awp_cond ?_; simp [f0, f1, fI, fJ, hle]; (try with_reducible refine ⟨?_, ?_⟩) <;> (try with_reducible intro hc) <;> try (exfalso; omega)) | ((first | (refine w_e [] ?_; intro J hJ; simp only []) | (refine w_q ?_; intro J hJ) | refine e_go ?_); simp [f0, f1, fI, fJ, hle]; (repeat refine ca ?_); (try ((try with_reducible refine ⟨?_, ?_⟩) <;> (try with_reducible intro hnil) <;> refine hJ _ _ ?_ <;> clear hJ J <;> simp only [ak, reduceIte] <;> try subst hnil)))))
  (refine w_s [] [q] [(0, true), (1, true), (2, true), (3, true), (4, true), (5, true), (6, true), (7, true), (8, true), (9, true), (10, true), (11, true), (12, true), (13, false), (14, true), (15, false)] ?_; intro J hJ; simp [f0, f1, fI, fJ, hli, hlk, hcl, hd1, hd2]; (repeat refine ca ?_); (try ((try with_reducible refine ⟨?_, ?_⟩) <;> (try with_reducible intro hnil) <;> refine hJ _ _ ?_ <;> clear hJ J <;> simp only [ak, reduceIte] <;> try subst hnil)))
  (repeat' (first | refine awp_seq ?_ | refine awp_block ?_ | ((first | refine awp_skip ?_ | refine awp_exit ?_); simp only [ak, reduceIte]) | (refine awp_ret ?_; simp only [ak, reduceIte]; simp [fI, fJ, hia, hka]) | (refine awp_cond ?_; simp [fI, fJ, hia, hka]; (try with_reducible refine ⟨?_, ?_⟩) <;> (try with_reducible intro hc) <;> try (exfalso; omega)) | ((first | (refine w_e [] ?_; intro J hJ; simp only []) | (refine w_q ?_; intro J hJ) | refine e_go ?_); simp [fI, fJ, hia, hka]; (repeat refine ca ?_); (try ((try with_reducible refine ⟨?_, ?_⟩) <;> (try with_reducible intro hnil) <;> refine hJ _ _ ?_ <;> clear hJ J <;> simp only [ak, reduceIte] <;> try subst hnil)))))
  exact hJ0 (kk - 1) _ _ (by omega) ⟨ii + 1, kk - 1, sw c ii kk, by omega, by omega, by omega, rfl, by simp [f0], by simp [f1], by simp, by simp, hsw', hpm2, hxx, hLo2, hHi2⟩

end Go.Proofs.YtaiakdhcajibnaaGreat.Aw.I

namespace Go.Proofs.YtaiakdhcajibnaaGreat.Aw.I
open Go Go.RowKit Go.Proofs.YtaiakdhcajibnaaGreat.Pl
set_option linter.unusedSimpArgs false
set_option linter.unusedVariables false

theorem partitionEqual (l : List Int) (q a b pv : Nat) (st : St) (hl : small l) (hab : a < b) (hb : b ≤ l.length) (hp1 : a ≤ pv) (hp2 : pv < b) (hH : st.H q = .box 3 1 (us l)) :
    ACalls Tryz.prog 151 [.ms q 0 l.length, i a, i b, i pv] st fun r st' => ∃ (c : List Int) (mid : Nat), r = i mid ∧ st' = bx st q c ∧ Pm a b l c ∧ a < mid ∧ mid ≤ b ∧ PartedEq c a mid b (l.getD pv 0) := by
  unfold small at hl
  refine acalls_of_body tabOk Tryz.func151 rfl rfl Tryz.ntmps151 (rs := [.tmp 8]) rfl (by simp) ?_
  (repeat (refine awp_seq ?_)); (refine w_e [] ?_; intro J hJ; simp only []; simp []; (repeat refine ca ?_); (try ((try with_reducible refine ⟨?_, ?_⟩) <;> (try with_reducible intro hnil) <;> refine hJ _ _ ?_ <;> clear hJ J <;> simp only [ak, reduceIte] <;> try subst hnil)))
  have hla : a < l.length := by omega
  have hlp : pv < l.length := by omega
  have hsw := fun x y => bx_sw' st q l a pv (x := x) (y := y) (by omega) (by omega)
  have hd0 := us_drop_getD l a (by omega)
  have hd1 := us_drop_getD l pv (by omega)
  have hpm : Pm a b l (sw l a pv) := Pm.one a pv (by omega) (by omega) (by omega) (by omega) (by omega)
  have hx : (sw l a pv).getD a 0 = l.getD pv 0 := by
    rw [sw_get _ _ _ _ (by omega) (by omega)]
    by_cases e : a = pv
    · rw [if_pos e, e]
    · rw [if_neg e, if_pos rfl]
  generalize hy0 : l.getD a 0 = y0 at *
  generalize hy1 : l.getD pv 0 = x at *
  have hsw' := hsw y0 x rfl rfl
  (repeat (refine awp_seq ?_)); (refine w_s [] [q] [(0, true), (1, true), (2, true), (3, true), (4, true), (5, true), (6, true), (7, true), (8, true), (9, true), (10, true), (11, true), (12, true), (13, false), (14, true), (15, false)] ?_; intro J hJ; simp [hH, hla, hlp, hd0, hd1]; (repeat refine ca ?_); (try ((try with_reducible refine ⟨?_, ?_⟩) <;> (try with_reducible intro hnil) <;> refine hJ _ _ ?_ <;> clear hJ J <;> simp only [ak, reduceIte] <;> try subst hnil)))
  rw [hsw']
  clear hsw hsw' hd0 hd1 hy0
  generalize hc : sw l a pv = c at *
  clear hc
  have hcl := hpm.len
  have w1 := nat_add_one a (by omega)
  have w2 := nat_sub_one b (by omega) (by omega)
  obtain ⟨P, hPd⟩ : ∃ P : Int → Bool, ∀ v, P v = !decide (x < v) := ⟨_, fun _ => rfl⟩
  refine awp_seq ?_
  refine awp_cut1 (fun fr st2 => fr 0 = .ms q 0 l.length ∧ fr 1 = i a ∧ fr 9 = i ((a + 1 : Nat) : Int) ∧ fr 10 = i ((b - 1 : Nat) : Int) ∧ st2 = bx st q c) (by (refine w_e [] ?_; intro J hJ; simp only []; simp [w1, w2]; (repeat refine ca ?_); (try ((try with_reducible refine ⟨?_, ?_⟩) <;> (try with_reducible intro hnil) <;> refine hJ _ _ ?_ <;> clear hJ J <;> simp only [ak, reduceIte] <;> try subst hnil))); simp) ?_
  rintro fr st2 ⟨f0, f1, fI, fJ, rfl⟩
  have hai : a < a + 1 := by omega
  have hij : a + 1 ≤ b - 1 + 1 := by omega
  have hjb : b - 1 < b := by omega
  have hLo : Lo P c a (a + 1) := fun p h1 h2 => by omega
  have hHi : Hi P c (b - 1) b := fun p h1 h2 => by omega
  generalize a + 1 = ii at *
  generalize b - 1 = jj at *
  clear w1 w2
  have hd0 := us_drop_getD c a (by omega)
  rw [hx] at hd0
  refine awp_seq ?_
  refine awp_block ?_
  refine awp_loop (fun m fr st2 => ∃ (ii jj : Nat) (c : List Int), a < ii ∧ ii ≤ jj + 1 ∧ jj < b ∧ jj = m ∧ fr 0 = .ms q 0 l.length ∧ fr 1 = i a ∧ fr 9 = i ii ∧ fr 10 = i jj ∧ st2 = bx st q c ∧ Pm a b l c ∧ c.getD a 0 = x ∧ Lo P c a ii ∧ Hi P c jj b) jj ?_ ?_
  · exact ⟨ii, jj, c, by omega, by omega, by omega, rfl, f0, f1, fI, fJ, rfl, hpm, hx, hLo, hHi⟩
  clear f0 f1 fI fJ hLo hHi hpm hx hcl hd0 hai hij hjb ii jj c fr
  rintro m fr st2 ⟨ii, jj, c, hai, hij, hjb, rfl, f0, f1, fI, fJ, rfl, hpm, hx, hLo, hHi⟩ JJ0 hJ0
  have hcl := hpm.len
  have hd0 := us_drop_getD c a (by omega)
  rw [hx] at hd0
  refine awp_block ?_
  refine awp_seq ?_
  refine awp_cut1 (fun fr st2 => ∃ ii : Nat, a < ii ∧ ii ≤ jj + 1 ∧ fr 0 = .ms q 0 l.length ∧ fr 1 = i a ∧ fr 9 = i ii ∧ fr 10 = i jj ∧ st2 = bx st q c ∧ Lo P c a ii ∧ StU P c ii jj) ?_ ?_
  · refine awp_block ?_
    refine awp_loop (fun m fr st2 => ∃ ii : Nat, a < ii ∧ ii ≤ jj + 1 ∧ m = jj + 1 - ii ∧ fr 0 = .ms q 0 l.length ∧ fr 1 = i a ∧ fr 9 = i ii ∧ fr 10 = i jj ∧ st2 = bx st q c ∧ Lo P c a ii) (jj + 1 - ii) ?_ ?_
    · exact ⟨ii, by omega, by omega, rfl, by simp [f0], by simp [f1], by simp [fI], by simp [fJ], rfl, hLo⟩
    clear f0 f1 fI fJ hLo hai hij fr ii
    rintro m fr st2 ⟨ii, hai, hij, rfl, f0, f1, fI, fJ, rfl, hLo⟩ JJ hJJ
    have hia := nat_add_one ii (by omega)
    by_cases hle : ii ≤ jj
    rotate_left
    · clear hJJ
      (repeat (refine awp_seq ?_)); (refine w_s [] [q] [(0, true), (1, true), (2, true), (3, true), (4, true), (5, true), (6, true), (7, true), (8, true), (9, true), (10, true), (11, true), (12, false), (13, true), (14, true)] ?_; intro J hJ; simp [f0, f1, fI, fJ, hle]; (repeat refine ca ?_); (try ((try with_reducible refine ⟨?_, ?_⟩) <;> (try with_reducible intro hnil) <;> refine hJ _ _ ?_ <;> clear hJ J <;> simp only [ak, reduceIte] <;> try subst hnil)))
      (repeat' (first | refine awp_seq ?_ | refine awp_block ?_ | ((first | refine awp_skip ?_ | refine awp_exit ?_); simp only [ak, reduceIte]) | (refine awp_ret ?_; simp only [ak, reduceIte]; simp []) | (refine awp_cond ?_; simp []; (try with_reducible refine ⟨?_, ?_⟩) <;> (try with_reducible intro hc) <;> try (exfalso; omega)) | ((first | (refine w_e [] ?_; intro J hJ; simp only []) | (refine w_q ?_; intro J hJ) | refine e_go ?_); simp []; (repeat refine ca ?_); (try ((try with_reducible refine ⟨?_, ?_⟩) <;> (try with_reducible intro hnil) <;> refine hJ _ _ ?_ <;> clear hJ J <;> simp only [ak, reduceIte] <;> try subst hnil)))))
      exact ⟨trivial, ii, by omega, by omega, by simp [f0], by simp [f1], by simp [fI], by simp [fJ], by trivial, hLo, fun h => absurd h hle⟩
    have hli : ii < l.length := by omega
    have hd1 := us_drop_getD c ii (by omega)
    have hmo := hLo.more
    generalize hy : c.getD ii 0 = y at *
    (repeat (refine awp_seq ?_)); (refine w_s [] [q] [(0, true), (1, true), (2, true), (3, true), (4, true), (5, true), (6, true), (7, true), (8, true), (9, true), (10, true), (11, true), (12, false), (13, true), (14, true)] ?_; intro J hJ; simp [f0, f1, fI, fJ, hle, hli, hla, hcl, hd0, hd1]; (repeat refine ca ?_); (try ((try with_reducible refine ⟨?_, ?_⟩) <;> (try with_reducible intro hnil) <;> refine hJ _ _ ?_ <;> clear hJ J <;> simp only [ak, reduceIte] <;> try subst hnil)))
    refine dcallK_of (Less x y _) ?_; rintro r s2 ⟨rfl, rfl⟩
    refine ⟨fun _ => by simp, ?_⟩
    have hP := hPd y
    by_cases hyx : x < y
    · clear hJJ
      (refine d_go ?_; simp [hyx]; (repeat refine ca ?_); (try ((try with_reducible refine ⟨?_, ?_⟩) <;> (try with_reducible intro hnil) <;> refine hJ _ _ ?_ <;> clear hJ J <;> simp only [ak, reduceIte] <;> try subst hnil)))
      (repeat' (first | refine awp_seq ?_ | refine awp_block ?_ | ((first | refine awp_skip ?_ | refine awp_exit ?_); simp only [ak, reduceIte]) | (refine awp_ret ?_; simp only [ak, reduceIte]; simp []) | (refine awp_cond ?_; simp []; (try with_reducible refine ⟨?_, ?_⟩) <;> (try with_reducible intro hc) <;> try (exfalso; omega)) | ((first | (refine w_e [] ?_; intro J hJ; simp only []) | (refine w_q ?_; intro J hJ) | refine e_go ?_); simp []; (repeat refine ca ?_); (try ((try with_reducible refine ⟨?_, ?_⟩) <;> (try with_reducible intro hnil) <;> refine hJ _ _ ?_ <;> clear hJ J <;> simp only [ak, reduceIte] <;> try subst hnil)))))
      exact ⟨trivial, ii, by omega, by omega, by simp [f0], by simp [f1], by simp [fI], by simp [fJ], by trivial, hLo, fun _ => by rw [hy, hP]; simp [hyx]⟩
    · (refine d_go ?_; simp [hyx]; (repeat refine ca ?_); (try ((try with_reducible refine ⟨?_, ?_⟩) <;> (try with_reducible intro hnil) <;> refine hJ _ _ ?_ <;> clear hJ J <;> simp only [ak, reduceIte] <;> try subst hnil)))
      (repeat' (first | refine awp_seq ?_ | refine awp_block ?_ | ((first | refine awp_skip ?_ | refine awp_exit ?_); simp only [ak, reduceIte]) | (refine awp_ret ?_; simp only [ak, reduceIte]; simp [fI, hia]) | (refine awp_cond ?_; simp [fI, hia]; (try with_reducible refine ⟨?_, ?_⟩) <;> (try with_reducible intro hc) <;> try (exfalso; omega)) | ((first | (refine w_e [] ?_; intro J hJ; simp only []) | (refine w_q ?_; intro J hJ) | refine e_go ?_); simp [fI, hia]; (repeat refine ca ?_); (try ((try with_reducible refine ⟨?_, ?_⟩) <;> (try with_reducible intro hnil) <;> refine hJ _ _ ?_ <;> clear hJ J <;> simp only [ak, reduceIte] <;> try subst hnil)))))
      exact hJJ (jj + 1 - (ii + 1)) _ _ (by omega) ⟨ii + 1, by omega, by omega, rfl, by simp [f0], by simp [f1], by simp, by simp [fJ], rfl, hmo (by rw [hP]; simp [hyx])⟩
  clear f0 f1 fI fJ hLo hai hij fr ii
  rintro fr st2 ⟨ii, hai, hij, f0, f1, fI, fJ, rfl, hLo, hst⟩
  refine awp_seq ?_
  refine awp_cut1 (fun fr st2 => ∃ kk : Nat, a ≤ kk ∧ kk ≤ jj ∧ ii ≤ kk + 1 ∧ fr 0 = .ms q 0 l.length ∧ fr 1 = i a ∧ fr 9 = i ii ∧ fr 10 = i kk ∧ st2 = bx st q c ∧ Hi P c kk b ∧ StD P c ii kk) ?_ ?_
  · refine awp_block ?_
    refine awp_loop (fun m fr st2 => ∃ kk : Nat, a ≤ kk ∧ kk ≤ jj ∧ ii ≤ kk + 1 ∧ kk = m ∧ fr 0 = .ms q 0 l.length ∧ fr 1 = i a ∧ fr 9 = i ii ∧ fr 10 = i kk ∧ st2 = bx st q c ∧ Hi P c kk b) jj ?_ ?_
    · exact ⟨jj, by omega, by omega, by omega, rfl, by simp [f0], by simp [f1], by simp [fI], by simp [fJ], rfl, hHi⟩
    clear f0 f1 fI fJ hHi fr
    rintro m fr st2 ⟨kk, hak, hkj, hik, rfl, f0, f1, fI, fJ, rfl, hHi⟩ JJ hJJ
    by_cases hle : ii ≤ kk
    rotate_left
    · clear hJJ
      (repeat (refine awp_seq ?_)); (refine w_s [] [q] [(0, true), (1, true), (2, true), (3, true), (4, true), (5, true), (6, true), (7, true), (8, true), (9, true), (10, true), (11, true), (12, false), (13, true)] ?_; intro J hJ; simp [f0, f1, fI, fJ, hle]; (repeat refine ca ?_); (try ((try with_reducible refine ⟨?_, ?_⟩) <;> (try with_reducible intro hnil) <;> refine hJ _ _ ?_ <;> clear hJ J <;> simp only [ak, reduceIte] <;> try subst hnil)))
      (repeat' (first | refine awp_seq ?_ | refine awp_block ?_ | ((first | refine awp_skip ?_ | refine awp_exit ?_); simp only [ak, reduceIte]) | (refine awp_ret ?_; simp only [ak, reduceIte]; simp []) | (refine awp_cond ?_; simp []; (try with_reducible refine ⟨?_, ?_⟩) <;> (try with_reducible intro hc) <;> try (exfalso; omega)) | ((first | (refine w_e [] ?_; intro J hJ; simp only []) | (refine w_q ?_; intro J hJ) | refine e_go ?_); simp []; (repeat refine ca ?_); (try ((try with_reducible refine ⟨?_, ?_⟩) <;> (try with_reducible intro hnil) <;> refine hJ _ _ ?_ <;> clear hJ J <;> simp only [ak, reduceIte] <;> try subst hnil)))))
      exact ⟨trivial, kk, by omega, by omega, by omega, by simp [f0], by simp [f1], by simp [fI], by simp [fJ], by trivial, hHi, fun h => absurd h hle⟩
    have hja := nat_sub_one kk (by omega) (by omega)
    have hlj : kk < l.length := by omega
    have hd1 := us_drop_getD c kk (by omega)
    have hmo := hHi.more
    generalize hy : c.getD kk 0 = y at *
    (repeat (refine awp_seq ?_)); (refine w_s [] [q] [(0, true), (1, true), (2, true), (3, true), (4, true), (5, true), (6, true), (7, true), (8, true), (9, true), (10, true), (11, true), (12, false), (13, true)] ?_; intro J hJ; simp [f0, f1, fI, fJ, hle, hlj, hla, hcl, hd0, hd1]; (repeat refine ca ?_); (try ((try with_reducible refine ⟨?_, ?_⟩) <;> (try with_reducible intro hnil) <;> refine hJ _ _ ?_ <;> clear hJ J <;> simp only [ak, reduceIte] <;> try subst hnil)))
    refine dcallK_of (Less x y _) ?_; rintro r s2 ⟨rfl, rfl⟩
    refine ⟨fun _ => by simp, ?_⟩
    have hP := hPd y
    by_cases hyx : x < y
    · (refine d_go ?_; simp [hyx]; (repeat refine ca ?_); (try ((try with_reducible refine ⟨?_, ?_⟩) <;> (try with_reducible intro hnil) <;> refine hJ _ _ ?_ <;> clear hJ J <;> simp only [ak, reduceIte] <;> try subst hnil)))
      (repeat' (first | refine awp_seq ?_ | refine awp_block ?_ | ((first | refine awp_skip ?_ | refine awp_exit ?_); simp only [ak, reduceIte]) | (refine awp_ret ?_; simp only [ak, reduceIte]; simp [fJ, hja]) | (refine awp_cond ?_; simp [fJ, hja]; (try with_reducible refine ⟨?_, ?_⟩) <;> (try with_reducible intro hc) <;> try (exfalso; omega)) | ((first | (refine w_e [] ?_; intro J hJ; simp only []) | (refine w_q ?_; intro J hJ) | refine e_go ?_); simp [fJ, hja]; (repeat refine ca ?_); (try ((try with_reducible refine ⟨?_, ?_⟩) <;> (try with_reducible intro hnil) <;> refine hJ _ _ ?_ <;> clear hJ J <;> simp only [ak, reduceIte] <;> try subst hnil)))))
      exact hJJ (kk - 1) _ _ (by omega) ⟨kk - 1, by omega, by omega, by omega, rfl, by simp [f0], by simp [f1], by simp [fI], by simp, rfl, hmo (by omega) (by rw [hP]; simp [hyx])⟩
    · clear hJJ
      (refine d_go ?_; simp [hyx]; (repeat refine ca ?_); (try ((try with_reducible refine ⟨?_, ?_⟩) <;> (try with_reducible intro hnil) <;> refine hJ _ _ ?_ <;> clear hJ J <;> simp only [ak, reduceIte] <;> try subst hnil)))
      (repeat' (first | refine awp_seq ?_ | refine awp_block ?_ | ((first | refine awp_skip ?_ | refine awp_exit ?_); simp only [ak, reduceIte]) | (refine awp_ret ?_; simp only [ak, reduceIte]; simp []) | (refine awp_cond ?_; simp []; (try with_reducible refine ⟨?_, ?_⟩) <;> (try with_reducible intro hc) <;> try (exfalso; omega)) | ((first | (refine w_e [] ?_; intro J hJ; simp only []) | (refine w_q ?_; intro J hJ) | refine e_go ?_); simp []; (repeat refine ca ?_); (try ((try with_reducible refine ⟨?_, ?_⟩) <;> (try with_reducible intro hnil) <;> refine hJ _ _ ?_ <;> clear hJ J <;> simp only [ak, reduceIte] <;> try subst hnil)))))
      exact ⟨trivial, kk, by omega, by omega, by omega, by simp [f0], by simp [f1], by simp [fI], by simp [fJ], by trivial, hHi, fun _ => by rw [hy, hP]; simp [hyx]⟩
  clear f0 f1 fI fJ hHi fr
  rintro fr st2 ⟨kk, hak, hkj, hik, f0, f1, fI, fJ, rfl, hHi, hst2⟩
  by_cases hle : ii ≤ kk
  rotate_left
  · clear hJ0
    (repeat' (first | refine awp_seq ?_ | refine awp_block ?_ | ((first | refine awp_skip ?_ | refine awp_exit ?_); simp only [ak, reduceIte]) | (refine awp_ret ?_; simp only [ak, reduceIte]; simp [f0, f1, fI, fJ, hle]) | (refine awp_cond ?_; simp [f0, f1, fI, fJ, hle]; (try with_reducible refine ⟨?_, ?_⟩) <;> (try with_reducible intro hc) <;> try (exfalso; omega)) | ((first | (refine w_e [] ?_; intro J hJ; simp only []) | (refine w_q ?_; intro J hJ) | refine e_go ?_); simp [f0, f1, fI, fJ, hle]; (repeat refine ca ?_); (try ((try with_reducible refine ⟨?_, ?_⟩) <;> (try with_reducible intro hnil) <;> refine hJ _ _ ?_ <;> clear hJ J <;> simp only [ak, reduceIte] <;> try subst hnil)))))
    refine ⟨c, ii, rfl, rfl, hpm, by omega, by omega, fun p h1 h2 => ?_, fun p h1 h2 => ?_⟩
    · by_cases e : p = a
      · rw [e, hx]; exact Int.le_refl _
      · have := hLo p (by omega) h2; rw [hPd] at this; simpa using this
    · have := hHi p (by omega) h2; rw [hPd] at this; simpa using this
  have hik2 : ii < kk := by
    rcases Nat.lt_or_ge ii kk with h | h
    · exact h
    · exfalso
      have e : ii = kk := by omega
      have h1 := hst (by omega)
      have h2 := hst2 hle
      rw [e, h2] at h1; cases h1
  have hLo2 := hLo.swp hik2 (by omega) (hst2 hle)
  have hHi2 := hHi.swp hik2 (by omega) (hst (by omega))
  have hpm2 := hpm.step ii kk (by omega) (by omega) (by omega) (by omega) (by omega)
  have hxx : (sw c ii kk).getD a 0 = x := by rw [sw_get _ _ _ _ (by omega) (by omega), if_neg (by omega), if_neg (by omega)]; exact hx
  have hli : ii < l.length := by omega
  have hlk : kk < l.length := by omega
  have hd1 := us_drop_getD c ii (by omega)
  have hd2 := us_drop_getD c kk (by omega)
  have hsw := fun x y => bx_sw st q c ii kk (x := x) (y := y) (by omega) (by omega)
  have hia := nat_add_one ii (by omega)
  have hka := nat_sub_one kk (by omega) (by omega)
  clear hst hst2
  generalize hy1 : c.getD ii 0 = y1 at *
  generalize hy2 : c.getD kk 0 = y2 at *
  have hsw' := hsw y1 y2 rfl rfl
  (repeat' (first | refine awp_seq ?_ | refine awp_block ?_ | ((first | refine awp_skip ?_ | refine awp_exit ?_); simp only [ak, reduceIte]) | (refine awp_ret ?_; simp only [ak, reduceIte]; simp [f0, f1, fI, fJ, hle]) | (refine awp_cond ?_; simp [f0, f1, fI, fJ, hle]; (try with_reducible refine ⟨?_, ?_⟩) <;> (try with_reducible intro hc) <;> try (exfalso; omega)) | ((first | (refine w_e [] ?_; intro J hJ; simp only []) | (refine w_q ?_; intro J hJ) | refine e_go ?_); simp [f0, f1, fI, fJ, hle]; (repeat refine ca ?_); (try ((try with_reducible refine ⟨?_, ?_⟩) <;> (try with_reducible intro hnil) <;> refine hJ _ _ ?_ <;> clear hJ J <;> simp only [ak, reduceIte] <;> try subst hnil)))))
  (refine w_s [] [q] [(0, true), (1, true), (2, true), (3, true), (4, true), (5, true), (6, true), (7, true), (8, true), (9, true), (10, true), (11, true), (12, true), (13, false), (14, true), (15, false)] ?_; intro J hJ; simp [f0, f1, fI, fJ, hli, hlk, hcl, hd1, hd2]; (repeat refine ca ?_); (try ((try with_reducible refine ⟨?_, ?_⟩) <;> (try with_reducible intro hnil) <;> refine hJ _ _ ?_ <;> clear hJ J <;> simp only [ak, reduceIte] <;> try subst hnil)))
  (repeat' (first | refine awp_seq ?_ | refine awp_block ?_ | ((first | refine awp_skip ?_ | refine awp_exit ?_); simp only [ak, reduceIte]) | (refine awp_ret ?_; simp only [ak, reduceIte]; simp [fI, fJ, hia, hka]) | (refine awp_cond ?_; simp [fI, fJ, hia, hka]; (try with_reducible refine ⟨?_, ?_⟩) <;> (try with_reducible intro hc) <;> try (exfalso; omega)) | ((first | (refine w_e [] ?_; intro J hJ; simp only []) | (refine w_q ?_; intro J hJ) | refine e_go ?_); simp [fI, fJ, hia, hka]; (repeat refine ca ?_); (try ((try with_reducible refine ⟨?_, ?_⟩) <;> (try with_reducible intro hnil) <;> refine hJ _ _ ?_ <;> clear hJ J <;> simp only [ak, reduceIte] <;> try subst hnil)))))
  exact hJ0 (kk - 1) _ _ (by omega) ⟨ii + 1, kk - 1, sw c ii kk, by omega, by omega, by omega, rfl, by simp [f0], by simp [f1], by simp, by simp, hsw', hpm2, hxx, hLo2, hHi2⟩

end Go.Proofs.YtaiakdhcajibnaaGreat.Aw.I
