/- The law DualFaces. -/
import Derived.Test.YtaiakdhcajibnaaGreatJf
namespace Go.Proofs.YtaiakdhcajibnaaGreat.Aw
open Go Go.RowKit Go.Proofs.YtaiakdhcajibnaaGreat.Pl Go.Proofs.YtaiakdhcajibnaaGreat.Eu
set_option linter.unusedSimpArgs false
set_option linter.unusedVariables false

/-- Each near face has a number. -/
theorem nrL_range {m : Mp} (h : MapOk m) {R : List (List Int)} (hR : FacesOf m R) (n : Int) : ∀ k ∈ nrL n (m.g.es.map (sideOf R)), 1 ≤ k ∧ k ≤ (R.length : Int) := by
  intro k hk
  unfold nrL at hk
  rw [List.mem_flatMap] at hk
  obtain ⟨s, hs, hk⟩ := hk
  obtain ⟨x, hx, rfl⟩ := List.mem_map.1 hs
  have hrg : ∀ d, d ∈ darts m.g.es → 1 ≤ tix R d + 1 ∧ tix R d + 1 ≤ (R.length : Int) := fun d hd => by
    obtain ⟨k, hk, e, _⟩ := faces_in h hR hd
    omega
  have h0 := hrg _ (mem_darts.2 ⟨x, hx, .inl rfl⟩)
  have h1 := hrg _ (mem_darts.2 ⟨x, hx, .inr rfl⟩)
  simp only [sideOf] at hk
  rcases (nrE_mem n k _).1 hk with ⟨_, ⟨_, rfl⟩ | ⟨rfl, _⟩⟩
  · exact h1
  · exact h0

set_option maxHeartbeats 2000000 in
theorem DualFaces (m : Mp) (d n : Int) (st : St) : ACalls Tryz.prog 3 [.ag (mpL m), u d, i n] st fun r st' => r = bb true := by
  refine acalls_of_body tabOk Tryz.func3 rfl rfl Tryz.ntmps3 (rs := [.tmp 6]) rfl (by simp) ?_
  (repeat' (first | refine awp_seq ?_ | refine awp_block ?_ | ((first | refine awp_skip ?_ | refine awp_exit ?_); simp only [ak, reduceIte]) | (refine awp_ret ?_; simp only [ak, reduceIte]; simp []) | (refine awp_cond ?_; simp []; (try with_reducible refine ⟨?_, ?_⟩) <;> (try with_reducible intro hc) <;> try (exfalso; omega)) | ((first | (refine w_e [] ?_; intro J hJ; simp only []) | (refine w_q ?_; intro J hJ) | refine e_go ?_); simp []; (repeat refine ca ?_); (try ((try with_reducible refine ⟨?_, ?_⟩) <;> (try with_reducible intro hnil) <;> refine hJ _ _ ?_ <;> clear hJ J <;> simp only [ak, reduceIte] <;> try subst hnil)))))
  refine callK_ofE (awake32 _) (by simp []) ?_; rintro r st' ⟨rfl, rfl⟩
  (repeat' (first | refine awp_seq ?_ | refine awp_block ?_ | ((first | refine awp_skip ?_ | refine awp_exit ?_); simp only [ak, reduceIte]) | (refine awp_ret ?_; simp only [ak, reduceIte]; simp []) | (refine awp_cond ?_; simp []; (try with_reducible refine ⟨?_, ?_⟩) <;> (try with_reducible intro hc) <;> try (exfalso; omega)) | ((first | (refine w_e [] ?_; intro J hJ; simp only []) | (refine w_q ?_; intro J hJ) | refine e_go ?_); simp []; (repeat refine ca ?_); (try ((try with_reducible refine ⟨?_, ?_⟩) <;> (try with_reducible intro hnil) <;> refine hJ _ _ ?_ <;> clear hJ J <;> simp only [ak, reduceIte] <;> try subst hnil)))))
  refine callK_ofE (light m _) (by simp) ?_; rintro r s1 ⟨rfl, hk1⟩
  have hn1 := hk1.next
  simp only [new_next] at hn1
  have hG1 : s1.H st.next = .box 28 3 (mpL m) := by rw [hk1.H _ (by simp)]; simp
  cases hf : lit m
  · (repeat' (first | refine awp_seq ?_ | refine awp_block ?_ | ((first | refine awp_skip ?_ | refine awp_exit ?_); simp only [ak, reduceIte]) | (refine awp_ret ?_; simp only [ak, reduceIte]; simp []) | (refine awp_cond ?_; simp []; (try with_reducible refine ⟨?_, ?_⟩) <;> (try with_reducible intro hc) <;> try (exfalso; omega)) | ((first | (refine w_e [] ?_; intro J hJ; simp only []) | (refine w_q ?_; intro J hJ) | refine e_go ?_); simp []; (repeat refine ca ?_); (try ((try with_reducible refine ⟨?_, ?_⟩) <;> (try with_reducible intro hnil) <;> refine hJ _ _ ?_ <;> clear hJ J <;> simp only [ak, reduceIte] <;> try subst hnil)))))
  obtain ⟨he, hr, hc⟩ := lit_of hf
  have hv := chk_small hc
  have h := (rchk_zero hc).2
  clear hk1
  (repeat' (first | refine awp_seq ?_ | refine awp_block ?_ | ((first | refine awp_skip ?_ | refine awp_exit ?_); simp only [ak, reduceIte]) | (refine awp_ret ?_; simp only [ak, reduceIte]; simp [hG1]) | (refine awp_cond ?_; simp [hG1]; (try with_reducible refine ⟨?_, ?_⟩) <;> (try with_reducible intro hc) <;> try (exfalso; omega)) | ((first | (refine w_e [] ?_; intro J hJ; simp only []) | (refine w_q ?_; intro J hJ) | refine e_go ?_); simp [hG1]; (repeat refine ca ?_); (try ((try with_reducible refine ⟨?_, ?_⟩) <;> (try with_reducible intro hnil) <;> refine hJ _ _ ?_ <;> clear hJ J <;> simp only [ak, reduceIte] <;> try subst hnil)))))
  refine callK_ofE (dOf_ m h _ (by omega) (by omega)) (by simp) ?_; rintro r s2 ⟨q, mn, R, rfl, hR, hD, hk2⟩
  have hn2 := hk2.next
  have hG2 := (hk2.H st.next (by omega)).trans hG1
  have hRl := hR.len
  have hdl := darts_length m.g.es
  (repeat' (first | refine awp_seq ?_ | refine awp_block ?_ | ((first | refine awp_skip ?_ | refine awp_exit ?_); simp only [ak, reduceIte]) | (refine awp_ret ?_; simp only [ak, reduceIte]; simp []) | (refine awp_cond ?_; simp []; (try with_reducible refine ⟨?_, ?_⟩) <;> (try with_reducible intro hc) <;> try (exfalso; omega)) | ((first | (refine w_e [] ?_; intro J hJ; simp only []) | (refine w_q ?_; intro J hJ) | refine e_go ?_); simp []; (repeat refine ca ?_); (try ((try with_reducible refine ⟨?_, ?_⟩) <;> (try with_reducible intro hnil) <;> refine hJ _ _ ?_ <;> clear hJ J <;> simp only [ak, reduceIte] <;> try subst hnil)))))
  refine callK_ofE (dSides m h R q mn _ (by omega) hD) (by simp) ?_; rintro r s3 ⟨⟨ts, rfl⟩, hk3⟩
  have hn3 := hk3.next
  have hG3 := (hk3.H st.next (by omega)).trans hG2
  have hD3 := hD.keeps hk3
  clear hk2 hk3 hD
  (repeat' (first | refine awp_seq ?_ | refine awp_block ?_ | ((first | refine awp_skip ?_ | refine awp_exit ?_); simp only [ak, reduceIte]) | (refine awp_ret ?_; simp only [ak, reduceIte]; simp []) | (refine awp_cond ?_; simp []; (try with_reducible refine ⟨?_, ?_⟩) <;> (try with_reducible intro hc) <;> try (exfalso; omega)) | ((first | (refine w_e [] ?_; intro J hJ; simp only []) | (refine w_q ?_; intro J hJ) | refine e_go ?_); simp []; (repeat refine ca ?_); (try ((try with_reducible refine ⟨?_, ?_⟩) <;> (try with_reducible intro hnil) <;> refine hJ _ _ ?_ <;> clear hJ J <;> simp only [ak, reduceIte] <;> try subst hnil)))))
  (refine w_s [] [st.next] [(0, true), (2, true), (1, true), (3, true), (4, true), (5, true), (6, true), (7, true), (8, true), (10, true), (11, true), (9, true), (12, true), (13, true), (14, true), (15, true), (16, true), (17, true), (18, true), (19, true), (20, true), (21, true), (22, true), (23, true), (24, true), (25, true), (27, true), (26, true), (28, true), (29, true), (30, true), (31, true)] ?_; intro J hJ; simp [hG3]; (repeat refine ca ?_); (try ((try with_reducible refine ⟨?_, ?_⟩) <;> (try with_reducible intro hnil) <;> refine hJ _ _ ?_ <;> clear hJ J <;> simp only [ak, reduceIte] <;> try subst hnil)))
  refine dcallK_ofE (dLen m R q mn _ hD3) (by simp) ?_; rintro r s4 ⟨rfl, rfl⟩
  refine ⟨fun _ => by simp, ?_⟩
  (refine d_go ?_; simp [hG3]; (repeat refine ca ?_); (try ((try with_reducible refine ⟨?_, ?_⟩) <;> (try with_reducible intro hnil) <;> refine hJ _ _ ?_ <;> clear hJ J <;> simp only [ak, reduceIte] <;> try subst hnil)))
  refine dcallK_ofE (ref_Faces m h _ (by omega) (by omega)) (by simp) ?_; rintro r s5 ⟨⟨t5, R', rfl, hR'⟩, hk5⟩
  obtain rfl := hR.unique hR'
  have hn5 := hk5.next
  have hG5 := (hk5.H st.next (by omega)).trans hG3
  have hD5 := hD3.keeps hk5
  refine ⟨fun _ => by simp [hG5, hG3], ?_⟩
  (refine d_go ?_; simp [hG5, hG3]; (repeat refine ca ?_); (try ((try with_reducible refine ⟨?_, ?_⟩) <;> (try with_reducible intro hnil) <;> refine hJ _ _ ?_ <;> clear hJ J <;> simp only [ak, reduceIte] <;> try subst hnil)))
  refine dcallK_ofE (dFace m R q mn d _ hD5) (by simp) ?_; rintro r s6 ⟨rfl, rfl⟩
  refine ⟨fun _ => by simp [hG5, hG3], ?_⟩
  (refine d_go ?_; simp [hG5, hG3]; (repeat refine ca ?_); (try ((try with_reducible refine ⟨?_, ?_⟩) <;> (try with_reducible intro hnil) <;> refine hJ _ _ ?_ <;> clear hJ J <;> simp only [ak, reduceIte] <;> try subst hnil)))
  refine dcallK_ofE (ref_dFace m h R hR d _ (by omega) (by omega)) (by simp) ?_; rintro r s7 ⟨rfl, hk7⟩
  have hn7 := hk7.next
  have hG7 := (hk7.H st.next (by omega)).trans hG5
  have hD7 := hD5.keeps hk7
  refine ⟨fun _ => by simp [hG7, hG5, hG3], ?_⟩
  (refine d_go ?_; simp [hG7, hG3]; (repeat refine ca ?_); (try ((try with_reducible refine ⟨?_, ?_⟩) <;> (try with_reducible intro hnil) <;> refine hJ _ _ ?_ <;> clear hJ J <;> simp only [ak, reduceIte] <;> try subst hnil)))
  refine dcallK_ofE (dBridges m h R q mn _ (by omega) hD7) (by simp) ?_; rintro r s8 ⟨⟨t8, rfl⟩, hk8⟩
  have hn8 := hk8.next
  have hG8 := (hk8.H st.next (by omega)).trans hG7
  have hD8 := hD7.keeps hk8
  refine ⟨fun _ => by simp [hG8, hG7, hG5, hG3], ?_⟩
  (refine d_go ?_; simp [hG8, hG3]; (repeat refine ca ?_); (try ((try with_reducible refine ⟨?_, ?_⟩) <;> (try with_reducible intro hnil) <;> refine hJ _ _ ?_ <;> clear hJ J <;> simp only [ak, reduceIte] <;> try subst hnil)))
  refine dcallK_ofE (ref_dBridges m h R hR _ (by omega) (by omega)) (by simp) ?_; rintro r s9 ⟨⟨t9, rfl⟩, hk9⟩
  have hn9 := hk9.next
  have hG9 := (hk9.H st.next (by omega)).trans hG8
  have hD9 := hD8.keeps hk9
  have hbs : small (brg R m.g.es) := by
    have := brg_len R m.g.es m.g.es.length
    rw [List.take_length] at this
    unfold small; omega
  refine ⟨fun _ => by simp [hG9, hG8, hG7, hG5, hG3], ?_⟩
  (refine d_go ?_; simp [hG9, hG3]; (repeat refine ca ?_); (try ((try with_reducible refine ⟨?_, ?_⟩) <;> (try with_reducible intro hnil) <;> refine hJ _ _ ?_ <;> clear hJ J <;> simp only [ak, reduceIte] <;> try subst hnil)))
  refine dcallK_ofE (ref_Same (brg R m.g.es) (brg R m.g.es) t8 t9 _ hbs) (by simp) ?_; rintro r s10 ⟨rfl, rfl⟩
  refine ⟨fun _ => by simp [hG9, hG8, hG7, hG5, hG3], ?_⟩
  (refine d_go ?_; simp [hG9, hG3]; (repeat refine ca ?_); (try ((try with_reducible refine ⟨?_, ?_⟩) <;> (try with_reducible intro hnil) <;> refine hJ _ _ ?_ <;> clear hJ J <;> simp only [ak, reduceIte] <;> try subst hnil)))
  have hel := eds_length m.g.es
  have hsl := sds_length (m.g.es.map (sideOf R))
  rw [List.length_map] at hsl
  clear hk5 hk7 hk8 hk9 hD8 hD7 hD5 hD3 hbs
  (repeat' (first | refine awp_seq ?_ | refine awp_block ?_ | ((first | refine awp_skip ?_ | refine awp_exit ?_); simp only [ak, reduceIte]) | (refine awp_ret ?_; simp only [ak, reduceIte]; simp [hG9]) | (refine awp_cond ?_; simp [hG9]; (try with_reducible refine ⟨?_, ?_⟩) <;> (try with_reducible intro hc) <;> try (exfalso; omega)) | ((first | (refine w_e [] ?_; intro J hJ; simp only []) | (refine w_q ?_; intro J hJ) | refine e_go ?_); simp [hG9]; (repeat refine ca ?_); (try ((try with_reducible refine ⟨?_, ?_⟩) <;> (try with_reducible intro hnil) <;> refine hJ _ _ ?_ <;> clear hJ J <;> simp only [ak, reduceIte] <;> try subst hnil)))))
  refine awp_range 59 58 60 83 (m.g.es.length) (fun j fr st2 => fr 2 = i n ∧ fr 3 = .pt st.next 0 ∧ fr 7 = .pt q 0 ∧ fr 8 = .sl ts m.g.es.length (sds (m.g.es.map (sideOf R))) ∧ fr 57 = .sl 0 m.g.es.length (eds m.g.es) ∧ st2.H st.next = .box 28 3 (mpL m) ∧ st.next < st2.next ∧ DF m R q mn st2) ?_ ?_ ?_
  · exact ⟨by simp, by simp, by simp, by simp, by simp, hG9, by omega, hD9⟩
  · rintro j fr s11 hlt ⟨f2, f3, f7, f8, f57, hG, hsn, hD⟩ fi fn JJ hJJ
    have hd := eds_drop m.g.es j hlt
    have hds := sds_drop (m.g.es.map (sideOf R)) j (by simpa using hlt)
    rw [getS_map R _ _ hlt] at hds
    have hk3 : j * 3 < m.g.es.length * 3 := by omega
    have hk33 : j * 3 + 3 ≤ m.g.es.length * 3 := by omega
    have hxin : m.g.es.getD j ed0 ∈ m.g.es := by rw [getE_lt _ _ hlt]; exact List.getElem_mem _
    have hpos := h.g.pos _ hxin
    generalize m.g.es.getD j ed0 = x at *
    obtain ⟨id, a, b⟩ := x
    simp only [sideOf] at hpos hd hds
    have w1 : IntKind.u32.wrap (2 * id) = 2 * id := wrap_u32' _ (by omega) (by omega)
    have w2 : IntKind.u32.wrap (2 * id + 1) = 2 * id + 1 := wrap_u32' _ (by omega) (by omega)
    have m4 : ¬ st.next = s11.next := by omega
    (repeat' (first | refine awp_seq ?_ | refine awp_block ?_ | ((first | refine awp_skip ?_ | refine awp_exit ?_); simp only [ak, reduceIte]) | (refine awp_ret ?_; simp only [ak, reduceIte]; simp [f57, fi, fn, hd, hel, hk3, hlt]) | (refine awp_cond ?_; simp [f57, fi, fn, hd, hel, hk3, hlt]; (try with_reducible refine ⟨?_, ?_⟩) <;> (try with_reducible intro hc) <;> try (exfalso; omega)) | ((first | (refine w_e [] ?_; intro J hJ; simp only []) | (refine w_q ?_; intro J hJ) | refine e_go ?_); simp [f57, fi, fn, hd, hel, hk3, hlt]; (repeat refine ca ?_); (try ((try with_reducible refine ⟨?_, ?_⟩) <;> (try with_reducible intro hnil) <;> refine hJ _ _ ?_ <;> clear hJ J <;> simp only [ak, reduceIte] <;> try subst hnil)))))
    (refine w_s [] [st.next, s11.next] [(0, true), (1, true), (2, true), (3, true), (4, true), (5, true), (6, true), (7, true), (8, true), (9, true), (11, true), (12, true), (13, true), (14, true), (15, true), (10, true), (16, true), (17, true), (18, true)] ?_; intro J hJ; simp [f3, f8, hG, m4, w1, w2, hds, hsl, hlt, hk33]; (repeat refine ca ?_); (try ((try with_reducible refine ⟨?_, ?_⟩) <;> (try with_reducible intro hnil) <;> refine hJ _ _ ?_ <;> clear hJ J <;> simp only [ak, reduceIte] <;> try subst hnil)))
    refine dcallK_ofE (ref_dFace m h R hR (2 * id) _ (by omega) (by omega)) (by simp) ?_; rintro r s12 ⟨rfl, hk12⟩
    have hn12 := hk12.next
    simp only [new_next] at hn12
    have hX12 := hk12.H s11.next (by simp)
    have hG12 := hk12.H st.next (by simp; omega)
    simp [m4, hG] at hX12 hG12
    have hD12 := (hD.keeps (Keeps.new _ _)).keeps hk12
    refine ⟨fun _ => by simp [hG12, hX12, m4, hG], ?_⟩
    (refine d_go ?_; simp [f3, hG12, hX12, m4, hG, w1, w2]; (repeat refine ca ?_); (try ((try with_reducible refine ⟨?_, ?_⟩) <;> (try with_reducible intro hnil) <;> refine hJ _ _ ?_ <;> clear hJ J <;> simp only [ak, reduceIte] <;> try subst hnil)))
    refine dcallK_ofE (ref_dFace m h R hR (2 * id + 1) _ (by omega) (by omega)) (by simp) ?_; rintro r s13 ⟨rfl, hk13⟩
    have hn13 := hk13.next
    have hG13 := (hk13.H st.next (by omega)).trans hG12
    have hX13 := (hk13.H s11.next (by omega)).trans hX12
    have hD13 := hD12.keeps hk13
    refine ⟨fun _ => by simp [hG12, hX12, hG13, hX13, m4, hG], ?_⟩
    (refine d_go ?_; simp [hG13, hX13]; (repeat refine ca ?_); (try ((try with_reducible refine ⟨?_, ?_⟩) <;> (try with_reducible intro hnil) <;> refine hJ _ _ ?_ <;> clear hJ J <;> simp only [ak, reduceIte] <;> try subst hnil)))
    (repeat' (first | refine awp_seq ?_ | refine awp_block ?_ | ((first | refine awp_skip ?_ | refine awp_exit ?_); simp only [ak, reduceIte]) | (refine awp_ret ?_; simp only [ak, reduceIte]; simp []) | (refine awp_cond ?_; simp []; (try with_reducible refine ⟨?_, ?_⟩) <;> (try with_reducible intro hc) <;> try (exfalso; omega)) | ((first | (refine w_e [] ?_; intro J hJ; simp only []) | (refine w_q ?_; intro J hJ) | refine e_go ?_); simp []; (repeat refine ca ?_); (try ((try with_reducible refine ⟨?_, ?_⟩) <;> (try with_reducible intro hnil) <;> refine hJ _ _ ?_ <;> clear hJ J <;> simp only [ak, reduceIte] <;> try subst hnil)))))
    exact hJJ _ _ (by simp [fi]) (by simp [fn]) ⟨by simp [f2], by simp [f3], by simp [f7], by simp [f8], by simp [f57], hG13, by omega, hD13⟩
  rintro fr s11 ⟨f2, f3, f7, f8, f57, hG, hsn, hD⟩
  (repeat' (first | refine awp_seq ?_ | refine awp_block ?_ | ((first | refine awp_skip ?_ | refine awp_exit ?_); simp only [ak, reduceIte]) | (refine awp_ret ?_; simp only [ak, reduceIte]; simp [f7, f2]) | (refine awp_cond ?_; simp [f7, f2]; (try with_reducible refine ⟨?_, ?_⟩) <;> (try with_reducible intro hc) <;> try (exfalso; omega)) | ((first | (refine w_e [] ?_; intro J hJ; simp only []) | (refine w_q ?_; intro J hJ) | refine e_go ?_); simp [f7, f2]; (repeat refine ca ?_); (try ((try with_reducible refine ⟨?_, ?_⟩) <;> (try with_reducible intro hnil) <;> refine hJ _ _ ?_ <;> clear hJ J <;> simp only [ak, reduceIte] <;> try subst hnil)))))
  refine callK_ofE (dNear m h R q mn n _ (by omega) hD) (by simp) ?_; rintro r s12 ⟨⟨c, rfl, hc1, hc2, hcl⟩, hk12⟩
  have hn12 := hk12.next
  have hG12 := (hk12.H st.next (by omega)).trans hG
  have hD12 := hD.keeps hk12
  have hrg : ∀ k ∈ c, 1 ≤ k ∧ k ≤ (R.length : Int) := fun k hk => nrL_range h hR n k ((hc2 k).1 hk)
  (repeat' (first | refine awp_seq ?_ | refine awp_block ?_ | ((first | refine awp_skip ?_ | refine awp_exit ?_); simp only [ak, reduceIte]) | (refine awp_ret ?_; simp only [ak, reduceIte]; simp []) | (refine awp_cond ?_; simp []; (try with_reducible refine ⟨?_, ?_⟩) <;> (try with_reducible intro hc) <;> try (exfalso; omega)) | ((first | (refine w_e [] ?_; intro J hJ; simp only []) | (refine w_q ?_; intro J hJ) | refine e_go ?_); simp []; (repeat refine ca ?_); (try ((try with_reducible refine ⟨?_, ?_⟩) <;> (try with_reducible intro hnil) <;> refine hJ _ _ ?_ <;> clear hJ J <;> simp only [ak, reduceIte] <;> try subst hnil)))))
  have hb1 : I.below c ((1 : Nat) : Int) = 0 := I.below_none fun y hy => by have := (hrg y hy).1; omega
  refine awp_loop (fun z fr s => ∃ k : Nat, 1 ≤ k ∧ k ≤ R.length + 1 ∧ z = R.length + 1 - k ∧ fr 2 = i n ∧ fr 3 = .pt st.next 0 ∧ fr 7 = .pt q 0 ∧ fr 11 = .sl 0 c.length (I.us c) ∧ fr 12 = i (I.below c k : Nat) ∧ fr 13 = i k ∧ s.H st.next = .box 28 3 (mpL m) ∧ st.next < s.next ∧ DF m R q mn s) R.length ?_ ?_
  · exact ⟨1, by omega, by omega, by omega, by simp [f2], by simp [f3], by simp [f7], by simp, by rw [hb1]; simp, by simp, hG12, by omega, hD12⟩
  clear f2 f3 f7 f8 f57 hG hsn hD hG12 hD12 hk12 hn12 fr
  rintro z fr s13 ⟨k, hk1, hkR, rfl, f2, f3, f7, f11, f12, f13, hG, hsn, hD⟩ JJ hJJ
  (repeat (refine awp_seq ?_))
  (repeat' (first | refine awp_seq ?_ | refine awp_block ?_ | ((first | refine awp_skip ?_ | refine awp_exit ?_); simp only [ak, reduceIte]) | (refine awp_ret ?_; simp only [ak, reduceIte]; simp [f7, f13]) | (refine awp_cond ?_; simp [f7, f13]; (try with_reducible refine ⟨?_, ?_⟩) <;> (try with_reducible intro hc) <;> try (exfalso; omega)) | ((first | (refine w_e [] ?_; intro J hJ; simp only []) | (refine w_q ?_; intro J hJ) | refine e_go ?_); simp [f7, f13]; (repeat refine ca ?_); (try ((try with_reducible refine ⟨?_, ?_⟩) <;> (try with_reducible intro hnil) <;> refine hJ _ _ ?_ <;> clear hJ J <;> simp only [ak, reduceIte] <;> try subst hnil)))))
  refine callK_ofE (dLen m R q mn _ hD) (by simp) ?_; rintro r s14 ⟨rfl, rfl⟩
  by_cases hle : k ≤ R.length
  rotate_left
  · clear hJJ
    have hle' : ¬ (k : Int) ≤ R.length := by omega
    have hb : I.below c k = c.length := I.below_all fun y hy => by have := (hrg y hy).2; omega
    rw [hb] at f12
    (repeat' (first | refine awp_seq ?_ | refine awp_block ?_ | ((first | refine awp_skip ?_ | refine awp_exit ?_); simp only [ak, reduceIte]) | (refine awp_ret ?_; simp only [ak, reduceIte]; simp [hle, hle', f11, f12]) | (refine awp_cond ?_; simp [hle, hle', f11, f12]; (try with_reducible refine ⟨?_, ?_⟩) <;> (try with_reducible intro hc) <;> try (exfalso; omega)) | ((first | (refine w_e [] ?_; intro J hJ; simp only []) | (refine w_q ?_; intro J hJ) | refine e_go ?_); simp [hle, hle', f11, f12]; (repeat refine ca ?_); (try ((try with_reducible refine ⟨?_, ?_⟩) <;> (try with_reducible intro hnil) <;> refine hJ _ _ ?_ <;> clear hJ J <;> simp only [ak, reduceIte] <;> try subst hnil)))))
  have hle' : (k : Int) ≤ R.length := by omega
  have hstep := I.below_step hc1 (k : Int)
  have hat := fun hm => I.below_at hc1 (k := (k : Int)) hm
  have hbl := I.below_le c k
  have w1 := nat_add_one k (by omega)
  have w2 := nat_add_one (I.below c k) (by omega)
  (repeat' (first | refine awp_seq ?_ | refine awp_block ?_ | ((first | refine awp_skip ?_ | refine awp_exit ?_); simp only [ak, reduceIte]) | (refine awp_ret ?_; simp only [ak, reduceIte]; simp [hle, hle', f2, f3, f13, hG]) | (refine awp_cond ?_; simp [hle, hle', f2, f3, f13, hG]; (try with_reducible refine ⟨?_, ?_⟩) <;> (try with_reducible intro hc) <;> try (exfalso; omega)) | ((first | (refine w_e [] ?_; intro J hJ; simp only []) | (refine w_q ?_; intro J hJ) | refine e_go ?_); simp [hle, hle', f2, f3, f13, hG]; (repeat refine ca ?_); (try ((try with_reducible refine ⟨?_, ?_⟩) <;> (try with_reducible intro hnil) <;> refine hJ _ _ ?_ <;> clear hJ J <;> simp only [ak, reduceIte] <;> try subst hnil)))))
  refine callK_ofE (ref_dNear m h R hR n k _ (by omega) (by omega)) (by simp) ?_; rintro r s15 ⟨rfl, hk15⟩
  have hn15 := hk15.next
  have hG15 := (hk15.H st.next hsn).trans hG
  have hD15 := hD.keeps hk15
  by_cases hin : (k : Int) ∈ nrL n (m.g.es.map (sideOf R))
  · have hic := (hc2 k).2 hin
    obtain ⟨a1, a2⟩ := hat hic
    rw [if_pos hic] at hstep
    rw [decide_eq_true hin]
    have hdc := I.us_drop_getD c (I.below c k) a1
    rw [a2] at hdc
    generalize hbe : I.below c k = b at *
    have a1' : (b : Int) < c.length := by omega
    have a3 : ¬ c.length ≤ b := by omega
    have a3' : ¬ (c.length : Int) ≤ b := by omega
    (repeat' (first | refine awp_seq ?_ | refine awp_block ?_ | ((first | refine awp_skip ?_ | refine awp_exit ?_); simp only [ak, reduceIte]) | (refine awp_ret ?_; simp only [ak, reduceIte]; simp [f11, f12, f13, a1, a1', a3, a3', hdc, w1, w2]) | (refine awp_cond ?_; simp [f11, f12, f13, a1, a1', a3, a3', hdc, w1, w2]; (try with_reducible refine ⟨?_, ?_⟩) <;> (try with_reducible intro hc) <;> try (exfalso; omega)) | ((first | (refine w_e [] ?_; intro J hJ; simp only []) | (refine w_q ?_; intro J hJ) | refine e_go ?_); simp [f11, f12, f13, a1, a1', a3, a3', hdc, w1, w2]; (repeat refine ca ?_); (try ((try with_reducible refine ⟨?_, ?_⟩) <;> (try with_reducible intro hnil) <;> refine hJ _ _ ?_ <;> clear hJ J <;> simp only [ak, reduceIte] <;> try subst hnil)))))
    exact hJJ (R.length + 1 - (k + 1)) _ _ (by omega) ⟨k + 1, by omega, by omega, rfl, by simp [f2], by simp [f3], by simp [f7], by simp [f11], by rw [show ((k + 1 : Nat) : Int) = (k : Int) + 1 by omega, hstep]; simp, by simp, hG15, by omega, hD15⟩
  · have hic : (k : Int) ∉ c := fun h1 => hin ((hc2 k).1 h1)
    rw [if_neg hic] at hstep
    rw [decide_eq_false hin]
    (repeat' (first | refine awp_seq ?_ | refine awp_block ?_ | ((first | refine awp_skip ?_ | refine awp_exit ?_); simp only [ak, reduceIte]) | (refine awp_ret ?_; simp only [ak, reduceIte]; simp [f13, w1]) | (refine awp_cond ?_; simp [f13, w1]; (try with_reducible refine ⟨?_, ?_⟩) <;> (try with_reducible intro hc) <;> try (exfalso; omega)) | ((first | (refine w_e [] ?_; intro J hJ; simp only []) | (refine w_q ?_; intro J hJ) | refine e_go ?_); simp [f13, w1]; (repeat refine ca ?_); (try ((try with_reducible refine ⟨?_, ?_⟩) <;> (try with_reducible intro hnil) <;> refine hJ _ _ ?_ <;> clear hJ J <;> simp only [ak, reduceIte] <;> try subst hnil)))))
    exact hJJ (R.length + 1 - (k + 1)) _ _ (by omega) ⟨k + 1, by omega, by omega, rfl, by simp [f2], by simp [f3], by simp [f7], by simp [f11], by rw [show ((k + 1 : Nat) : Int) = (k : Int) + 1 by omega, hstep]; simp [f12], by simp, hG15, by omega, hD15⟩

theorem DualFaces_shp (l0 l1 l2 : List LV) (st : St) (h0 : Shp tab 28 l0) (h1 : Shp tab 29 l1) (h2 : Shp tab 3 l2) : ACalls Tryz.prog 3 [argT tab 28 l0, argT tab 29 l1, argT tab 3 l2] st fun r st' => r = bb true := by
  obtain ⟨m, rfl, _⟩ := shp_mp h0
  obtain ⟨a, rfl, _⟩ := shp_u h1
  obtain ⟨b, rfl, _⟩ := shp_int (by rfl) rfl h2
  exact DualFaces m a b st

end Go.Proofs.YtaiakdhcajibnaaGreat.Aw
