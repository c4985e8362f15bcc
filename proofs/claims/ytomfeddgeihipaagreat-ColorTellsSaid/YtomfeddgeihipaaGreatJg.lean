/- The document's few, Order. The document's Greedy. The law ColorTells. -/
import Derived.Test.YtomfeddgeihipaaGreatJf
namespace Go.Proofs.YtomfeddgeihipaaGreat.Aw
open Go Go.RowKit Go.Proofs.YtomfeddgeihipaaGreat.Pl
set_option linter.unusedSimpArgs false
set_option linter.unusedVariables false

theorem few (g : Gr) (v : Int) (left : List Int) (t : Nat) (st : St) (hF : GrF g) (hl : left.length ≤ 1000) :
    ACalls Tryz.prog 102 [.ag (grL g), u v, .sl t left.length (us left)] st fun r st' => r = i (fewN (nearF g.es) left v) ∧ Keeps st st' := by
  have hv := hF.l1
  have he := hF.l2
  have hnr := nearR_eq hF
  refine acalls_of_body tabOk Tryz.func102 rfl rfl Tryz.ntmps102 (rs := [.tmp 6]) rfl (by simp) ?_
  (repeat' (first | refine awp_seq ?_ | refine awp_block ?_ | ((first | refine awp_skip ?_ | refine awp_exit ?_); simp only [ak, reduceIte]) | (refine awp_ret ?_; simp only [ak, reduceIte]; simp []) | (refine awp_cond ?_; simp []; (try with_reducible refine ⟨?_, ?_⟩) <;> (try with_reducible intro hc) <;> try (exfalso; omega)) | ((first | (refine w_e [] ?_; intro J hJ; simp only []) | (refine w_q ?_; intro J hJ) | refine e_go ?_); simp []; (repeat refine ca ?_); (try ((try with_reducible refine ⟨?_, ?_⟩) <;> (try with_reducible intro hnil) <;> refine hJ _ _ ?_ <;> clear hJ J <;> simp only [ak, reduceIte] <;> try subst hnil)))))
  refine callK_ofE (ref_nNear g v _ (by omega) (by omega)) (by simp) ?_; rintro r s1 ⟨rfl, hk1⟩
  have hnv : (g.vs.filter fun w => decide (adj g.es v w)) = nearF g.es v := by rw [← hnr]; rfl
  rw [hnv]
  have hNl : (nearF g.es v).length ≤ 1000 := by have := nearF_len g.es v; omega
  have kk : Keeps st s1 := (Keeps.new _ _).trans hk1
  have hfN : fewN (nearF g.es) left v = ((nearF g.es v).filter fun w => decide (w ∈ left)).length := rfl
  generalize nearF g.es v = N at *
  (repeat' (first | refine awp_seq ?_ | refine awp_block ?_ | ((first | refine awp_skip ?_ | refine awp_exit ?_); simp only [ak, reduceIte]) | (refine awp_ret ?_; simp only [ak, reduceIte]; simp []) | (refine awp_cond ?_; simp []; (try with_reducible refine ⟨?_, ?_⟩) <;> (try with_reducible intro hc) <;> try (exfalso; omega)) | ((first | (refine w_e [] ?_; intro J hJ; simp only []) | (refine w_q ?_; intro J hJ) | refine e_go ?_); simp []; (repeat refine ca ?_); (try ((try with_reducible refine ⟨?_, ?_⟩) <;> (try with_reducible intro hnil) <;> refine hJ _ _ ?_ <;> clear hJ J <;> simp only [ak, reduceIte] <;> try subst hnil)))))
  refine awp_range 14 13 15 24 (N.length) (fun j fr st2 => fr 2 = .sl t left.length (us left) ∧ fr 12 = .sl 0 N.length (us N) ∧ st2 = s1 ∧ fr 7 = i ((N.take j).filter fun w => decide (w ∈ left)).length) ?_ ?_ ?_
  · exact ⟨by simp, by simp, rfl, by simp⟩
  · rintro j fr s hlt ⟨f2, f12, rfl, f7⟩ fi fn JO hJO
    have hd := us_drop_getD N j hlt
    have htk : (N.take (j + 1)).filter (fun w => decide (w ∈ left)) = (N.take j).filter (fun w => decide (w ∈ left)) ++ if N.getD j 0 ∈ left then [N.getD j 0] else [] := by
      rw [List.take_succ_eq_append_getElem hlt, List.filter_append, List.getD_eq_getElem?_getD, List.getElem?_eq_getElem hlt]
      by_cases h : N[j] ∈ left <;> simp [h]
    have hfl := List.length_filter_le (fun w => decide (w ∈ left)) (N.take j)
    rw [List.length_take] at hfl
    rw [htk] at hJO
    generalize N.getD j 0 = w at *
    generalize (N.take j).filter (fun w => decide (w ∈ left)) = T at *
    have hw := nat_add_one T.length (by omega)
    (repeat' (first | refine awp_seq ?_ | refine awp_block ?_ | ((first | refine awp_skip ?_ | refine awp_exit ?_); simp only [ak, reduceIte]) | (refine awp_ret ?_; simp only [ak, reduceIte]; simp [f2, f12, fi, fn, hd, hlt]) | (refine awp_cond ?_; simp [f2, f12, fi, fn, hd, hlt]; (try with_reducible refine ⟨?_, ?_⟩) <;> (try with_reducible intro hc) <;> try (exfalso; omega)) | ((first | (refine w_e [] ?_; intro J hJ; simp only []) | (refine w_q ?_; intro J hJ) | refine e_go ?_); simp [f2, f12, fi, fn, hd, hlt]; (repeat refine ca ?_); (try ((try with_reducible refine ⟨?_, ?_⟩) <;> (try with_reducible intro hnil) <;> refine hJ _ _ ?_ <;> clear hJ J <;> simp only [ak, reduceIte] <;> try subst hnil)))))
    refine callK_ofE (Find left t w _ (by unfold small; omega)) (by simp) ?_; rintro r s2 ⟨rfl, rfl⟩
    have hge0 := gi_ge left w
    by_cases hin : w ∈ left
    · have hge2 := hge0.2 hin
      have hge : decide (0 ≤ gi left w) = true := decide_eq_true hge2
      rw [if_pos hin] at hJO
      (repeat' (first | refine awp_seq ?_ | refine awp_block ?_ | ((first | refine awp_skip ?_ | refine awp_exit ?_); simp only [ak, reduceIte]) | (refine awp_ret ?_; simp only [ak, reduceIte]; simp [hge, hge2, f7, hw]) | (refine awp_cond ?_; simp [hge, hge2, f7, hw]; (try with_reducible refine ⟨?_, ?_⟩) <;> (try with_reducible intro hc) <;> try (exfalso; omega)) | ((first | (refine w_e [] ?_; intro J hJ; simp only []) | (refine w_q ?_; intro J hJ) | refine e_go ?_); simp [hge, hge2, f7, hw]; (repeat refine ca ?_); (try ((try with_reducible refine ⟨?_, ?_⟩) <;> (try with_reducible intro hnil) <;> refine hJ _ _ ?_ <;> clear hJ J <;> simp only [ak, reduceIte] <;> try subst hnil)))))
      exact hJO _ _ (by simp [fi]) (by simp [fn]) ⟨by simp [f2], by simp [f12], rfl, by simp⟩
    · have hge2 : ¬ 0 ≤ gi left w := fun h => hin (hge0.1 h)
      have hge : decide (0 ≤ gi left w) = false := decide_eq_false hge2
      rw [if_neg hin, List.append_nil] at hJO
      (repeat' (first | refine awp_seq ?_ | refine awp_block ?_ | ((first | refine awp_skip ?_ | refine awp_exit ?_); simp only [ak, reduceIte]) | (refine awp_ret ?_; simp only [ak, reduceIte]; simp [hge, hge2]) | (refine awp_cond ?_; simp [hge, hge2]; (try with_reducible refine ⟨?_, ?_⟩) <;> (try with_reducible intro hc) <;> try (exfalso; omega)) | ((first | (refine w_e [] ?_; intro J hJ; simp only []) | (refine w_q ?_; intro J hJ) | refine e_go ?_); simp [hge, hge2]; (repeat refine ca ?_); (try ((try with_reducible refine ⟨?_, ?_⟩) <;> (try with_reducible intro hnil) <;> refine hJ _ _ ?_ <;> clear hJ J <;> simp only [ak, reduceIte] <;> try subst hnil)))))
      exact hJO _ _ (by simp [fi]) (by simp [fn]) ⟨by simp [f2], by simp [f12], rfl, by simp [f7]⟩
  rintro fr s ⟨f2, f12, rfl, f7⟩
  rw [List.take_length] at f7
  (repeat' (first | refine awp_seq ?_ | refine awp_block ?_ | ((first | refine awp_skip ?_ | refine awp_exit ?_); simp only [ak, reduceIte]) | (refine awp_ret ?_; simp only [ak, reduceIte]; simp [f7]) | (refine awp_cond ?_; simp [f7]; (try with_reducible refine ⟨?_, ?_⟩) <;> (try with_reducible intro hc) <;> try (exfalso; omega)) | ((first | (refine w_e [] ?_; intro J hJ; simp only []) | (refine w_q ?_; intro J hJ) | refine e_go ?_); simp [f7]; (repeat refine ca ?_); (try ((try with_reducible refine ⟨?_, ?_⟩) <;> (try with_reducible intro hnil) <;> refine hJ _ _ ?_ <;> clear hJ J <;> simp only [ak, reduceIte] <;> try subst hnil)))))
  exact ⟨by rw [hfN], kk⟩

/-- The state ahead of each round. -/
structure RoI (g : Gr) (st : St) (left W : List Int) (s : St) : Prop where
  hG : s.H st.next = .box 38 2 (grL g)
  out : ordF (nearF g.es) g.vs.length g.vs = W.reverse ++ ordF (nearF g.es) left.length left
  sub : left.Sublist g.vs
  len : W.length + left.length = g.vs.length
  b : st.next < s.next
  kp : Keeps st s

set_option maxHeartbeats 2000000 in
theorem ref_Order (g : Gr) (st : St) (hF : GrF g) :
    ACalls Tryz.prog 52 [.ag (grL g)] st fun r st' => r = .sl 0 (ordA g).length (us (ordA g)) ∧ Keeps st st' := by
  have hv := hF.l1
  have he := hF.l2
  have hnd : g.vs.Nodup := hF.rise.imp fun h => by omega
  refine acalls_z0 ?_
  refine acalls_of_body tabOk Tryz.func52 rfl rfl Tryz.ntmps52 (rs := [.tmp 2]) rfl (by simp) ?_
  refine awp_posG fun hpos => ?_
  (repeat' (first | refine awp_seq ?_ | refine awp_block ?_ | ((first | refine awp_skip ?_ | refine awp_exit ?_); simp only [ak, reduceIte]) | (refine awp_ret ?_; simp only [ak, reduceIte]; simp []) | (refine awp_cond ?_; simp []; (try with_reducible refine ⟨?_, ?_⟩) <;> (try with_reducible intro hc) <;> try (exfalso; omega)) | ((first | (refine w_e [] ?_; intro J hJ; simp only []) | (refine w_q ?_; intro J hJ) | refine e_go ?_); simp []; (repeat refine ca ?_); (try ((try with_reducible refine ⟨?_, ?_⟩) <;> (try with_reducible intro hnil) <;> refine hJ _ _ ?_ <;> clear hJ J <;> simp only [ak, reduceIte] <;> try subst hnil)))))
  refine awp_own 3 41 1 (by simp) ?_
  refine awp_loop (fun n fr s => ∃ left W tl tw, n = left.length ∧ fr 1 = .pt st.next 0 ∧ fr 2 = .nil ∧ fr 3 = .sl tw W.length (us W) ∧ fr 4 = .sl tl left.length (us left) ∧ RoI g st left W s) g.vs.length ?_ ?_
  · refine ⟨g.vs, [], st.next + 1 + 1, st.next + 3, rfl, by simp, by simp, by simp, by simp, ?_⟩
    have k0 : Keeps st ((((((st.new (.box 38 2 (grL g))).new (.own 41 1 0)).set (st.next + 1) .dead).new (.own 41 1 g.vs.length)).new (.own 41 1 0))) := ((((Keeps.new _ _).trans (Keeps.new _ _)).set (by omega) _).trans (Keeps.new _ _)).trans (Keeps.new _ _)
    refine ⟨by simp, rfl, .refl _, by simp, by simp; omega, k0⟩
  rintro n fr s ⟨left, W, tl, tw, rfl, f1, f2, f3, f4, hI⟩ JJ hJJ
  obtain ⟨hG, hout, hsub, hlen, hb, hkp⟩ := hI
  by_cases hl0 : left = []
  · clear hJJ
    subst hl0
    have hWo : ordA g = W := by unfold ordA; rw [hout]; simp [ordF]
    (repeat' (first | refine awp_seq ?_ | refine awp_block ?_ | ((first | refine awp_skip ?_ | refine awp_exit ?_); simp only [ak, reduceIte]) | (refine awp_ret ?_; simp only [ak, reduceIte]; simp [f4, f3]) | (refine awp_cond ?_; simp [f4, f3]; (try with_reducible refine ⟨?_, ?_⟩) <;> (try with_reducible intro hc) <;> try (exfalso; omega)) | ((first | (refine w_e [] ?_; intro J hJ; simp only []) | (refine w_q ?_; intro J hJ) | refine e_go ?_); simp [f4, f3]; (repeat refine ca ?_); (try ((try with_reducible refine ⟨?_, ?_⟩) <;> (try with_reducible intro hnil) <;> refine hJ _ _ ?_ <;> clear hJ J <;> simp only [ak, reduceIte] <;> try subst hnil)))))
    rw [hWo]
    exact ⟨by simp [z0], hkp⟩
  have hpos1 : 0 < left.length := List.length_pos_iff.2 hl0
  have hpos2 : (0 : Int) < left.length := by omega
  have hnl : left.Nodup := hnd.sublist hsub
  have hmz : ∀ v ∈ left, v ≠ 0 := fun v hv => by have := hF.vpos v (hsub.subset hv); omega
  obtain ⟨h, tail, rfl⟩ : ∃ h tail, left = h :: tail := by cases left with | nil => exact absurd rfl hl0 | cons x l => exact ⟨x, l, rfl⟩
  (repeat' (first | refine awp_seq ?_ | refine awp_block ?_ | ((first | refine awp_skip ?_ | refine awp_exit ?_); simp only [ak, reduceIte]) | (refine awp_ret ?_; simp only [ak, reduceIte]; simp [f1, f4, hpos1, hpos2]) | (refine awp_cond ?_; simp [f1, f4, hpos1, hpos2]; (try with_reducible refine ⟨?_, ?_⟩) <;> (try with_reducible intro hc) <;> try (exfalso; omega)) | ((first | (refine w_e [] ?_; intro J hJ; simp only []) | (refine w_q ?_; intro J hJ) | refine e_go ?_); simp [f1, f4, hpos1, hpos2]; (repeat refine ca ?_); (try ((try with_reducible refine ⟨?_, ?_⟩) <;> (try with_reducible intro hnil) <;> refine hJ _ _ ?_ <;> clear hJ J <;> simp only [ak, reduceIte] <;> try subst hnil)))))
  obtain ⟨L, hL⟩ : ∃ L, L = h :: tail := ⟨_, rfl⟩
  have hL' := hL.symm
  rw [hL'] at hnl hmz hsub hlen hout hJJ f4 hpos1 hpos2 hl0
  have hhL : h ∈ L := by rw [hL]; simp
  have hLl : L.length ≤ 1000 := by have := hsub.length_le; omega
  have hLt : (tail.length : Int) + 1 = (L.length : Int) := by rw [hL]; simp
  rw [hLt]
  refine awp_range 23 22 24 37 (L.length) (fun j fr st2 => fr 1 = .pt st.next 0 ∧ fr 2 = .nil ∧ fr 3 = .sl tw W.length (us W) ∧ fr 4 = .sl tl L.length (us L) ∧ fr 21 = .sl tl L.length (us L) ∧ st2.H st.next = .box 38 2 (grL g) ∧ st.next < st2.next ∧ Keeps st st2 ∧ fr 5 = u (bst (nearF g.es) L (L.take j) h)) ?_ ?_ ?_
  · exact ⟨by simp [f1], by simp [f2], by simp [f3], by simp [f4], by simp [hL], hG, hb, hkp, by simp [bst]⟩
  · clear f1 f2 f3 f4 hG hkp hb
    rintro j fr s2 hlt ⟨f1, f2, f3, f4, f21, hG, hb, hkp, f5⟩ fi fn JO hJO
    have hd := us_drop_getD L j hlt
    have htk : L.take (j + 1) = L.take j ++ [L.getD j 0] := by
      rw [List.getD_eq_getElem?_getD, List.getElem?_eq_getElem hlt]; exact List.take_succ_eq_append_getElem hlt
    have hb0 := bst_ne (nearF g.es) L (L.take j) h (.inl (hmz h hhL)) fun v hv => hmz v (List.mem_of_mem_take hv)
    rw [htk, bst_snoc] at hJO
    unfold bstS at hJO
    generalize L.getD j 0 = v at *
    generalize bst (nearF g.es) L (L.take j) h = b at *
    (repeat' (first | refine awp_seq ?_ | refine awp_block ?_ | ((first | refine awp_skip ?_ | refine awp_exit ?_); simp only [ak, reduceIte]) | (refine awp_ret ?_; simp only [ak, reduceIte]; simp [f21, fi, fn, hd, hlt]) | (refine awp_cond ?_; simp [f21, fi, fn, hd, hlt]; (try with_reducible refine ⟨?_, ?_⟩) <;> (try with_reducible intro hc) <;> try (exfalso; omega)) | ((first | (refine w_e [] ?_; intro J hJ; simp only []) | (refine w_q ?_; intro J hJ) | refine e_go ?_); simp [f21, fi, fn, hd, hlt]; (repeat refine ca ?_); (try ((try with_reducible refine ⟨?_, ?_⟩) <;> (try with_reducible intro hnil) <;> refine hJ _ _ ?_ <;> clear hJ J <;> simp only [ak, reduceIte] <;> try subst hnil)))))
    (refine w_s [] [st.next] [(0, true), (1, true), (2, true), (4, true), (5, true), (6, true), (3, true), (7, true), (8, true)] ?_; intro J hJ; simp [f1, f4, f5, hG]; (repeat refine ca ?_); (try ((try with_reducible refine ⟨?_, ?_⟩) <;> (try with_reducible intro hnil) <;> refine hJ _ _ ?_ <;> clear hJ J <;> simp only [ak, reduceIte] <;> try subst hnil)))
    refine dcallK_ofE (few g v L tl s2 hF hLl) (by simp) ?_; rintro r s3 ⟨rfl, hk3⟩
    have hn3 := hk3.next
    have hG3 := (hk3.H st.next (by omega)).trans hG
    refine ⟨fun _ => by simp [hG3, hG], ?_⟩
    (refine d_go ?_; simp [hG3, hG]; (repeat refine ca ?_); (try ((try with_reducible refine ⟨?_, ?_⟩) <;> (try with_reducible intro hnil) <;> refine hJ _ _ ?_ <;> clear hJ J <;> simp only [ak, reduceIte] <;> try subst hnil)))
    refine dcallK_ofE (few g b L tl s3 hF hLl) (by simp) ?_; rintro r s4 ⟨rfl, hk4⟩
    have hn4 := hk4.next
    have hG4 := (hk4.H st.next (by omega)).trans hG3
    refine ⟨fun _ => by simp [hG4, hG], ?_⟩
    by_cases hle : fewN (nearF g.es) L v ≤ fewN (nearF g.es) L b
    · rw [if_pos (.inr hle)] at hJO
      have hle' : decide ((fewN (nearF g.es) L v : Int) ≤ (fewN (nearF g.es) L b : Int)) = true := decide_eq_true (by omega)
      (refine d_go ?_; simp [hG4, hG, hle, hle']; (repeat refine ca ?_); (try ((try with_reducible refine ⟨?_, ?_⟩) <;> (try with_reducible intro hnil) <;> refine hJ _ _ ?_ <;> clear hJ J <;> simp only [ak, reduceIte] <;> try subst hnil)))
      (repeat' (first | refine awp_seq ?_ | refine awp_block ?_ | ((first | refine awp_skip ?_ | refine awp_exit ?_); simp only [ak, reduceIte]) | (refine awp_ret ?_; simp only [ak, reduceIte]; simp []) | (refine awp_cond ?_; simp []; (try with_reducible refine ⟨?_, ?_⟩) <;> (try with_reducible intro hc) <;> try (exfalso; omega)) | ((first | (refine w_e [] ?_; intro J hJ; simp only []) | (refine w_q ?_; intro J hJ) | refine e_go ?_); simp []; (repeat refine ca ?_); (try ((try with_reducible refine ⟨?_, ?_⟩) <;> (try with_reducible intro hnil) <;> refine hJ _ _ ?_ <;> clear hJ J <;> simp only [ak, reduceIte] <;> try subst hnil)))))
      exact hJO _ _ (by simp [fi]) (by simp [fn]) ⟨by simp [f1], by simp [f2], by simp [f3], by simp [f4], by simp [f21], hG4, by omega, (hkp.trans hk3).trans hk4, by simp⟩
    · rw [if_neg (by rw [not_or]; exact ⟨hb0, hle⟩)] at hJO
      have hle' : decide ((fewN (nearF g.es) L v : Int) ≤ (fewN (nearF g.es) L b : Int)) = false := decide_eq_false (by omega)
      (refine d_go ?_; simp [hG4, hG, hle, hle']; (repeat refine ca ?_); (try ((try with_reducible refine ⟨?_, ?_⟩) <;> (try with_reducible intro hnil) <;> refine hJ _ _ ?_ <;> clear hJ J <;> simp only [ak, reduceIte] <;> try subst hnil)))
      (repeat' (first | refine awp_seq ?_ | refine awp_block ?_ | ((first | refine awp_skip ?_ | refine awp_exit ?_); simp only [ak, reduceIte]) | (refine awp_ret ?_; simp only [ak, reduceIte]; simp []) | (refine awp_cond ?_; simp []; (try with_reducible refine ⟨?_, ?_⟩) <;> (try with_reducible intro hc) <;> try (exfalso; omega)) | ((first | (refine w_e [] ?_; intro J hJ; simp only []) | (refine w_q ?_; intro J hJ) | refine e_go ?_); simp []; (repeat refine ca ?_); (try ((try with_reducible refine ⟨?_, ?_⟩) <;> (try with_reducible intro hnil) <;> refine hJ _ _ ?_ <;> clear hJ J <;> simp only [ak, reduceIte] <;> try subst hnil)))))
      exact hJO _ _ (by simp [fi]) (by simp [fn]) ⟨by simp [f1], by simp [f2], by simp [f3], by simp [f4], by simp [f21], hG4, by omega, (hkp.trans hk3).trans hk4, by simp [f5]⟩
  clear f1 f2 f3 f4 hG hkp hb
  rintro fr s2 ⟨f1, f2, f3, f4, f21, hG, hb, hkp, f5⟩
  have hbL : bst (nearF g.es) L L h = bst (nearF g.es) L L 0 := by
    have := bst_head (nearF g.es) L h tail
    rw [hL'] at this; exact this
  rw [List.take_length, hbL] at f5
  have hbm : bst (nearF g.es) L L 0 ∈ L := (bst_mem (nearF g.es) L L 0 (.inl rfl) fun _ h => h).resolve_left (bst_ne _ _ _ _ (.inr hl0) hmz)
  have hoF : ordF (nearF g.es) L.length L = bst (nearF g.es) L L 0 :: ordF (nearF g.es) (L.erase (bst (nearF g.es) L L 0)).length (L.erase (bst (nearF g.es) L L 0)) := by
    obtain ⟨m, hm⟩ : ∃ m, L.length = m + 1 := ⟨L.length - 1, by omega⟩
    rw [List.length_erase_of_mem hbm, hm]
    simp only [ordF, if_neg hl0, Nat.add_sub_cancel]
  generalize bst (nearF g.es) L L 0 = b at *
  have hWl : W.length ≤ 1000 := by omega
  (repeat' (first | refine awp_seq ?_ | refine awp_block ?_ | ((first | refine awp_skip ?_ | refine awp_exit ?_); simp only [ak, reduceIte]) | (refine awp_ret ?_; simp only [ak, reduceIte]; simp [f5, f3, f4]) | (refine awp_cond ?_; simp [f5, f3, f4]; (try with_reducible refine ⟨?_, ?_⟩) <;> (try with_reducible intro hc) <;> try (exfalso; omega)) | ((first | (refine w_e [] ?_; intro J hJ; simp only []) | (refine w_q ?_; intro J hJ) | refine e_go ?_); simp [f5, f3, f4]; (repeat refine ca ?_); (try ((try with_reducible refine ⟨?_, ?_⟩) <;> (try with_reducible intro hnil) <;> refine hJ _ _ ?_ <;> clear hJ J <;> simp only [ak, reduceIte] <;> try subst hnil)))))
  refine awp_own 8 41 1 (by simp) ?_
  obtain ⟨s3, hs3⟩ : ∃ s3, s3 = ((s2.new .dead).new (.own 41 1 (1 + W.length))).new (.own 41 1 0) := ⟨_, rfl⟩
  obtain ⟨tw2, htw2⟩ : ∃ x, x = s2.next + 1 := ⟨_, rfl⟩
  obtain ⟨t80, ht80⟩ : ∃ x, x = ((s2.new .dead).new (.own 41 1 (1 + W.length))).next := ⟨_, rfl⟩
  rw [← hs3, ← htw2, ← ht80]
  have ht81 : t80 = s2.next + 2 := by rw [ht80]; simp
  have hn3 : s3.next = s2.next + 3 := by rw [hs3]; simp
  have hG3 : s3.H st.next = .box 38 2 (grL g) := by rw [hs3]; (repeat (first | rw [new_H, if_neg (α := LObj) (by (try simp only [set_next, new_next]); omega)] | rw [set_H, if_neg (α := LObj) (by omega)] | rw [new_H, if_pos (α := LObj) (by (try simp only [set_next, new_next]))] | rw [set_H, if_pos (α := LObj) (by omega)])); exact hG
  have h83 : s3.H t80 = .own 41 1 0 := by rw [hs3, ht81]; (repeat (first | rw [new_H, if_neg (α := LObj) (by (try simp only [set_next, new_next]); omega)] | rw [set_H, if_neg (α := LObj) (by omega)] | rw [new_H, if_pos (α := LObj) (by (try simp only [set_next, new_next]))] | rw [set_H, if_pos (α := LObj) (by omega)]))
  have k3 : Keeps st s3 := by rw [hs3]; exact ((hkp.trans (Keeps.new _ _)).trans (Keeps.new _ _)).trans (Keeps.new _ _)
  clear hs3 ht80
  have hsl : st.next ≤ s2.next := hkp.next
  refine awp_range 44 43 45 55 (L.length) (fun j fr st2 => fr 1 = .pt st.next 0 ∧ fr 2 = .nil ∧ fr 3 = .sl tw2 (b :: W).length (us (b :: W)) ∧ fr 5 = u b ∧ fr 42 = .sl tl L.length (us L) ∧ st2.H st.next = .box 38 2 (grL g) ∧ st.next < st2.next ∧ Keeps st st2 ∧ ∃ t8, fr 8 = .sl t8 ((L.take j).filter fun w => w != b).length (us ((L.take j).filter fun w => w != b)) ∧ OwnT t8 st ((L.take j).filter fun w => w != b) st2) ?_ ?_ ?_
  · exact ⟨by simp [f1], by simp [f2], by simp; omega, by simp [f5], by simp, hG3, by omega, k3, t80, by simp, by omega, by omega, by omega, by simpa using h83⟩
  · clear f1 f2 f3 f4 f21 f5 hG hb hkp hG3 h83 k3
    rintro j fr s hlt ⟨f1, f2, f3, f5, f42, hG, hb, hkp, t8, f8, o1, o2, o3, o4⟩ fi fn JO hJO
    have hd := us_drop_getD L j hlt
    have htk := filter_takeI L (fun w => w != b) j hlt
    have hfl := List.length_filter_le (fun w => w != b) (L.take j)
    rw [List.length_take] at hfl
    rw [htk] at hJO
    generalize L.getD j 0 = v at *
    generalize (L.take j).filter (fun w => w != b) = T at *
    have c1 : ¬ t8 = s.next := by omega
    by_cases hvb : v = b
    · have hvb2 : (v != b) = false := by simpa using hvb
      rw [hvb2, if_neg (by simp), List.append_nil] at hJO
      (repeat' (first | refine awp_seq ?_ | refine awp_block ?_ | ((first | refine awp_skip ?_ | refine awp_exit ?_); simp only [ak, reduceIte]) | (refine awp_ret ?_; simp only [ak, reduceIte]; simp [f5, f42, fi, fn, hd, hlt, hvb, hvb2]) | (refine awp_cond ?_; simp [f5, f42, fi, fn, hd, hlt, hvb, hvb2]; (try with_reducible refine ⟨?_, ?_⟩) <;> (try with_reducible intro hc) <;> try (exfalso; omega)) | ((first | (refine w_e [] ?_; intro J hJ; simp only []) | (refine w_q ?_; intro J hJ) | refine e_go ?_); simp [f5, f42, fi, fn, hd, hlt, hvb, hvb2]; (repeat refine ca ?_); (try ((try with_reducible refine ⟨?_, ?_⟩) <;> (try with_reducible intro hnil) <;> refine hJ _ _ ?_ <;> clear hJ J <;> simp only [ak, reduceIte] <;> try subst hnil)))))
      exact hJO _ _ (by simp [fi]) (by simp [fn]) ⟨by simp [f1], by simp [f2], by simp [f3], by simp [f5], by simp [f42], hG, hb, hkp, t8, by simp [f8], o1, o2, o3, o4⟩
    · have hvb2 : (v != b) = true := by simpa using hvb
      rw [hvb2, if_pos rfl] at hJO
      (repeat' (first | refine awp_seq ?_ | refine awp_block ?_ | ((first | refine awp_skip ?_ | refine awp_exit ?_); simp only [ak, reduceIte]) | (refine awp_ret ?_; simp only [ak, reduceIte]; simp [f5, f42, fi, fn, hd, hlt, hvb, hvb2, f8, o1, o4, c1]) | (refine awp_cond ?_; simp [f5, f42, fi, fn, hd, hlt, hvb, hvb2, f8, o1, o4, c1]; (try with_reducible refine ⟨?_, ?_⟩) <;> (try with_reducible intro hc) <;> try (exfalso; omega)) | ((first | (refine w_e [] ?_; intro J hJ; simp only []) | (refine w_q ?_; intro J hJ) | refine e_go ?_); simp [f5, f42, fi, fn, hd, hlt, hvb, hvb2, f8, o1, o4, c1]; (repeat refine ca ?_); (try ((try with_reducible refine ⟨?_, ?_⟩) <;> (try with_reducible intro hnil) <;> refine hJ _ _ ?_ <;> clear hJ J <;> simp only [ak, reduceIte] <;> try subst hnil)))))
      have c2 : ¬ st.next = t8 := box_neT hG o4 (by simp)
      refine hJO _ _ (by simp [fi]) (by simp [fn]) ⟨by simp [f1], by simp [f2], by simp [f3], by simp [f5], by simp [f42], by (repeat (first | rw [new_H, if_neg (α := LObj) (by (try simp only [set_next, new_next]); omega)] | rw [set_H, if_neg (α := LObj) (by omega)] | rw [new_H, if_pos (α := LObj) (by (try simp only [set_next, new_next]))] | rw [set_H, if_pos (α := LObj) (by omega)])); exact hG, by simp; omega, ?_, s.next + 1, by simp, by omega, by omega, by simp, by simp⟩
      exact (((hkp.trans (Keeps.new _ _)).set (by omega) _).trans (Keeps.new _ _))
  clear f1 f2 f3 f4 f21 f5 hG hb hkp hG3 h83 k3
  rintro fr s ⟨f1, f2, f3, f5, f42, hG, hb, hkp, t8, f8, o⟩
  rw [List.take_length, ← hnl.erase_eq_filter b] at f8
  (repeat' (first | refine awp_seq ?_ | refine awp_block ?_ | ((first | refine awp_skip ?_ | refine awp_exit ?_); simp only [ak, reduceIte]) | (refine awp_ret ?_; simp only [ak, reduceIte]; simp [f8]) | (refine awp_cond ?_; simp [f8]; (try with_reducible refine ⟨?_, ?_⟩) <;> (try with_reducible intro hc) <;> try (exfalso; omega)) | ((first | (refine w_e [] ?_; intro J hJ; simp only []) | (refine w_q ?_; intro J hJ) | refine e_go ?_); simp [f8]; (repeat refine ca ?_); (try ((try with_reducible refine ⟨?_, ?_⟩) <;> (try with_reducible intro hnil) <;> refine hJ _ _ ?_ <;> clear hJ J <;> simp only [ak, reduceIte] <;> try subst hnil)))))
  have hle := List.length_erase_of_mem hbm
  refine hJJ (L.erase b).length _ _ (by omega) ⟨L.erase b, b :: W, t8, tw2, rfl, by simp [f1], by simp [f2], by simp [f3], by simp, ?_⟩
  exact ⟨hG, by rw [hout, hoF]; simp, List.erase_sublist.trans hsub, by simp; omega, hb, hkp⟩

end Go.Proofs.YtomfeddgeihipaaGreat.Aw

namespace Go.Proofs.YtomfeddgeihipaaGreat.Aw
open Go Go.RowKit Go.Proofs.YtomfeddgeihipaaGreat.Pl
set_option linter.unusedSimpArgs false
set_option linter.unusedVariables false

theorem z0_is (l : List Int) : z0L (is l) = is l := by rw [z0L_map, is, List.map_map]; rfl
def PosC (A : Led) : Prop := ∀ p ∈ A, 1 ≤ p.2
theorem PosC.ne {A : Led} (h : PosC A) (v : Int) : colF A v ≠ 0 ↔ v ∈ A.map (·.1) := by
  unfold colF
  constructor
  · intro hne
    apply Classical.byContradiction
    intro hno
    rw [ledBy_none hno] at hne
    exact hne rfl
  · intro hin
    obtain ⟨w, hw⟩ := ledBy_some hin
    rw [hw]
    have := h _ (ledBy_mem hw)
    simp only at this
    show w ≠ 0
    omega
theorem PosC.give {A : Led} (h : PosC A) (near : Int → List Int) (vs : List Int) (v : Int) : PosC (giveS near vs A v) := by
  unfold giveS
  split
  · exact h
  · intro p hp
    rcases List.mem_append.1 hp with hp | hp
    · exact h p hp
    · rw [List.mem_singleton] at hp
      subst hp
      have := (fN_spec (colF A) (near v)).1
      simp only; omega

theorem PosC.gives (near : Int → List Int) (vs : List Int) : ∀ (l : List Int) {A : Led}, PosC A → PosC (giveA near vs A l)
  | [], _, h => h
  | v :: l, _, h => PosC.gives near vs l (h.give near vs v)

/-- One vertex's rounds: not yet given (k is asked), or given. -/
def GrI (near : Int → List Int) (M : Nat) (A : Led) (v : Int) (n : Nat) (fr : Frm) (s : St) : Prop :=
  (∃ k : Nat, 1 ≤ k ∧ k ≤ fN (colF A) (near v) ∧ n = fN (colF A) (near v) + 1 - k ∧ fr 9 = i k ∧ s.H M = .map false [.u32] (clL A)) ∨
  (n = 0 ∧ s.H M = .map false [.u32] (clL (A ++ [(v, (fN (colF A) (near v) : Int))])))

set_option maxHeartbeats 2000000 in
theorem ref_Greedy (g : Gr) (l : List Int) (t : Nat) (st : St) (hF : GrF g) (hl : l.length ≤ 1000) :
    ACalls Tryz.prog 55 [.ag (grL g), .sl t l.length (us l)] st fun r st' => r = .sl 0 g.vs.length (is (g.vs.map (colF (colA g l)))) ∧ Keeps st st' := by
  have hv := hF.l1
  have he := hF.l2
  have hnr := nearR_eq hF
  refine acalls_z0 ?_
  refine acalls_of_body tabOk Tryz.func55 rfl rfl Tryz.ntmps55 (rs := [.tmp 4]) rfl (by simp) ?_
  refine awp_posG fun hpos => ?_
  refine awp_seq ?_
  (refine w_e [] ?_; intro J hJ; simp only []; simp []; (repeat refine ca ?_); (try ((try with_reducible refine ⟨?_, ?_⟩) <;> (try with_reducible intro hnil) <;> refine hJ _ _ ?_ <;> clear hJ J <;> simp only [ak, reduceIte] <;> try subst hnil)))
  refine awp_seq ?_
  (refine w_e [] ?_; intro J hJ; simp only []; simp []; (repeat refine ca ?_); (try ((try with_reducible refine ⟨?_, ?_⟩) <;> (try with_reducible intro hnil) <;> refine hJ _ _ ?_ <;> clear hJ J <;> simp only [ak, reduceIte] <;> try subst hnil)))
  refine awp_seq ?_
  (refine w_s [] [st.next] [(1, true), (3, true), (4, true), (0, true), (2, true), (5, false), (6, true)] ?_; intro J hJ; simp []; (repeat refine ca ?_); (try ((try with_reducible refine ⟨?_, ?_⟩) <;> (try with_reducible intro hnil) <;> refine hJ _ _ ?_ <;> clear hJ J <;> simp only [ak, reduceIte] <;> try subst hnil)))
  have hus : us l ++ us g.vs = us (l ++ g.vs) := by simp [us]
  have hlen : l.length + g.vs.length = (l ++ g.vs).length := by simp
  rw [hus, hlen]
  have hcolA : colA g l = giveA (nearF g.es) g.vs [] (l ++ g.vs) := by unfold colA giveA; rw [List.foldl_append]
  have hal : (l ++ g.vs).length ≤ 2000 := by simp; omega
  rw [hcolA]
  generalize l ++ g.vs = all at *
  obtain ⟨s0, hs0⟩ : ∃ s0, s0 = (((((((st.new (.box 38 2 (grL g))).new (.map false [.u32] [])).new (.own 41 1 0)).set (st.next + 1 + 1) .dead).new (.own 41 1 l.length)).set (st.next + 1 + 1 + 1) .dead).new (.own 41 1 all.length)) := ⟨_, rfl⟩
  rw [← hs0]
  obtain ⟨M, hMd⟩ : ∃ M, M = st.next + 1 := ⟨_, rfl⟩
  have hG0 : s0.H st.next = .box 38 2 (grL g) := by rw [hs0]; (repeat (first | rw [new_H, if_neg (α := LObj) (by (try simp only [set_next, new_next]); omega)] | rw [set_H, if_neg (α := LObj) (by omega)] | rw [new_H, if_pos (α := LObj) (by (try simp only [set_next, new_next]))] | rw [set_H, if_pos (α := LObj) (by omega)]))
  have hM0 : s0.H M = .map false [.u32] (clL []) := by rw [hs0, hMd]; (repeat (first | rw [new_H, if_neg (α := LObj) (by (try simp only [set_next, new_next]); omega)] | rw [set_H, if_neg (α := LObj) (by omega)] | rw [new_H, if_pos (α := LObj) (by (try simp only [set_next, new_next]))] | rw [set_H, if_pos (α := LObj) (by omega)])); rfl
  have hn0 : M < s0.next := by rw [hs0, hMd]; simp <;> omega
  have k0 : Keeps st s0 := by rw [hs0]; exact ((((((Keeps.new _ _).trans (Keeps.new _ _)).trans (Keeps.new _ _)).set (by omega) _).trans (Keeps.new _ _)).set (by omega) _).trans (Keeps.new _ _)
  clear hs0
  rw [← hMd]
  (repeat' (first | refine awp_seq ?_ | refine awp_block ?_ | ((first | refine awp_skip ?_ | refine awp_exit ?_); simp only [ak, reduceIte]) | (refine awp_ret ?_; simp only [ak, reduceIte]; simp []) | (refine awp_cond ?_; simp []; (try with_reducible refine ⟨?_, ?_⟩) <;> (try with_reducible intro hc) <;> try (exfalso; omega)) | ((first | (refine w_e [] ?_; intro J hJ; simp only []) | (refine w_q ?_; intro J hJ) | refine e_go ?_); simp []; (repeat refine ca ?_); (try ((try with_reducible refine ⟨?_, ?_⟩) <;> (try with_reducible intro hnil) <;> refine hJ _ _ ?_ <;> clear hJ J <;> simp only [ak, reduceIte] <;> try subst hnil)))))
  refine awp_range 25 24 26 63 (all.length) (fun j fr st2 => fr 2 = .pt st.next 0 ∧ fr 4 = .nil ∧ fr 5 = .mp M ∧ fr 23 = .sl (st.next + 1 + 1 + 1 + 1) all.length (us all) ∧ st2.H st.next = .box 38 2 (grL g) ∧ st2.H M = .map false [.u32] (clL (giveA (nearF g.es) g.vs [] (all.take j))) ∧ M < st2.next ∧ Keeps st st2) ?_ ?_ ?_
  · exact ⟨by simp, by simp, by simp, by simp [hMd], hG0, by simpa [giveA] using hM0, hn0, k0⟩
  · clear hG0 hM0 hn0 k0
    rintro j0 fr s hlt ⟨f2, f4, f5, f23, hG, hM, hn, hkp⟩ fi fn JO hJO
    have hd := us_drop_getD all j0 hlt
    have htk : all.take (j0 + 1) = all.take j0 ++ [all.getD j0 0] := by
      rw [List.getD_eq_getElem?_getD, List.getElem?_eq_getElem hlt]; exact List.take_succ_eq_append_getElem hlt
    rw [htk, giveA_snoc] at hJO
    have hPA := PosC.gives (nearF g.es) g.vs (all.take j0) (A := []) (by intro p hp; simp at hp)
    generalize all.getD j0 0 = v at *
    generalize giveA (nearF g.es) g.vs [] (all.take j0) = A at *
    have hne := hPA.ne v
    have hcv := mget_col A v
    (repeat' (first | refine awp_seq ?_ | refine awp_block ?_ | ((first | refine awp_skip ?_ | refine awp_exit ?_); simp only [ak, reduceIte]) | (refine awp_ret ?_; simp only [ak, reduceIte]; simp [f2, f5, f23, fi, fn, hd, hlt, hG]) | (refine awp_cond ?_; simp [f2, f5, f23, fi, fn, hd, hlt, hG]; (try with_reducible refine ⟨?_, ?_⟩) <;> (try with_reducible intro hc) <;> try (exfalso; omega)) | ((first | (refine w_e [] ?_; intro J hJ; simp only []) | (refine w_q ?_; intro J hJ) | refine e_go ?_); simp [f2, f5, f23, fi, fn, hd, hlt, hG]; (repeat refine ca ?_); (try ((try with_reducible refine ⟨?_, ?_⟩) <;> (try with_reducible intro hnil) <;> refine hJ _ _ ?_ <;> clear hJ J <;> simp only [ak, reduceIte] <;> try subst hnil)))))
    refine callK_ofE (Has g v s (by unfold small; omega)) (by simp) ?_; rintro r s2 ⟨rfl, hk2⟩
    have hn2 := hk2.next
    have hG2 := (hk2.H st.next (by omega)).trans hG
    have hM2 := (hk2.H M hn).trans hM
    by_cases hvin : v ∈ g.vs
    rotate_left
    · have hgv : giveS (nearF g.es) g.vs A v = A := by unfold giveS; rw [if_pos (.inr hvin)]
      rw [hgv] at hJO
      (repeat' (first | refine awp_seq ?_ | refine awp_block ?_ | ((first | refine awp_skip ?_ | refine awp_exit ?_); simp only [ak, reduceIte]) | (refine awp_ret ?_; simp only [ak, reduceIte]; simp [hvin]) | (refine awp_cond ?_; simp [hvin]; (try with_reducible refine ⟨?_, ?_⟩) <;> (try with_reducible intro hc) <;> try (exfalso; omega)) | ((first | (refine w_e [] ?_; intro J hJ; simp only []) | (refine w_q ?_; intro J hJ) | refine e_go ?_); simp [hvin]; (repeat refine ca ?_); (try ((try with_reducible refine ⟨?_, ?_⟩) <;> (try with_reducible intro hnil) <;> refine hJ _ _ ?_ <;> clear hJ J <;> simp only [ak, reduceIte] <;> try subst hnil)))))
      exact hJO _ _ (by simp [fi]) (by simp [fn]) ⟨by simp [f2], by simp [f4], by simp [f5], by simp [f23], hG2, hM2, by omega, hkp.trans hk2⟩
    by_cases hin : v ∈ A.map (·.1)
    · have hgv : giveS (nearF g.es) g.vs A v = A := by unfold giveS; rw [if_pos (.inl hin)]
      rw [hgv] at hJO
      have hc0 := hne.2 hin
      have hc1 : (colF A v != 0) = true := by simpa using hc0
      (repeat' (first | refine awp_seq ?_ | refine awp_block ?_ | ((first | refine awp_skip ?_ | refine awp_exit ?_); simp only [ak, reduceIte]) | (refine awp_ret ?_; simp only [ak, reduceIte]; simp [hvin, f5, hM2, hcv, hc0, hc1]) | (refine awp_cond ?_; simp [hvin, f5, hM2, hcv, hc0, hc1]; (try with_reducible refine ⟨?_, ?_⟩) <;> (try with_reducible intro hc) <;> try (exfalso; omega)) | ((first | (refine w_e [] ?_; intro J hJ; simp only []) | (refine w_q ?_; intro J hJ) | refine e_go ?_); simp [hvin, f5, hM2, hcv, hc0, hc1]; (repeat refine ca ?_); (try ((try with_reducible refine ⟨?_, ?_⟩) <;> (try with_reducible intro hnil) <;> refine hJ _ _ ?_ <;> clear hJ J <;> simp only [ak, reduceIte] <;> try subst hnil)))))
      exact hJO _ _ (by simp [fi]) (by simp [fn]) ⟨by simp [f2], by simp [f4], by simp [f5], by simp [f23], hG2, hM2, by omega, hkp.trans hk2⟩
    have hgv : giveS (nearF g.es) g.vs A v = A ++ [(v, (fN (colF A) (nearF g.es v) : Int))] := by unfold giveS; rw [if_neg (by rw [not_or]; exact ⟨hin, fun h => h hvin⟩)]
    rw [hgv] at hJO
    have hc0 : colF A v = 0 := Classical.byContradiction fun h => hin (hne.1 h)
    rw [hc0] at hcv
    (repeat' (first | refine awp_seq ?_ | refine awp_block ?_ | ((first | refine awp_skip ?_ | refine awp_exit ?_); simp only [ak, reduceIte]) | (refine awp_ret ?_; simp only [ak, reduceIte]; simp [hvin, f5, hM2, hcv]) | (refine awp_cond ?_; simp [hvin, f5, hM2, hcv]; (try with_reducible refine ⟨?_, ?_⟩) <;> (try with_reducible intro hc) <;> try (exfalso; omega)) | ((first | (refine w_e [] ?_; intro J hJ; simp only []) | (refine w_q ?_; intro J hJ) | refine e_go ?_); simp [hvin, f5, hM2, hcv]; (repeat refine ca ?_); (try ((try with_reducible refine ⟨?_, ?_⟩) <;> (try with_reducible intro hnil) <;> refine hJ _ _ ?_ <;> clear hJ J <;> simp only [ak, reduceIte] <;> try subst hnil)))))
    obtain ⟨q1, q2, q3⟩ := fN_spec (colF A) (nearF g.es v)
    have hNl : (nearF g.es v).length ≤ 1000 := by have := nearF_len g.es v; omega
    have hfl : fN (colF A) (nearF g.es v) ≤ (nearF g.es v).length + 1 := by
      have := taken_le (col := colF A) (l := nearF g.es v) (k := fN (colF A) (nearF g.es v) - 1) fun m h1 h2 => q3 m h1 (by omega)
      omega
    have hsetv : mget (clL (A ++ [(v, (fN (colF A) (nearF g.es v) : Int))])) [v] = some (i (fN (colF A) (nearF g.es v))) := by
      rw [mget_cl]
      have : ledBy (A ++ [(v, (fN (colF A) (nearF g.es v) : Int))]) v = some (fN (colF A) (nearF g.es v) : Int) := by
        clear hM2 hcv hc0 hgv hJO hne hPA hM q1 q2 q3 hfl
        induction A with
        | nil => simp [ledBy]
        | cons p A ih =>
          rw [List.map_cons, List.mem_cons, not_or] at hin
          simp only [List.cons_append, ledBy, if_neg hin.1]
          have key : ∀ (B : Led) (w : Int), v ∉ B.map (·.1) → ledBy (B ++ [(v, w)]) v = some w := by
            intro B w
            induction B with
            | nil => intro _; simp [ledBy]
            | cons q B ih2 =>
              intro hq
              rw [List.map_cons, List.mem_cons, not_or] at hq
              simp only [List.cons_append, ledBy, if_neg hq.1]
              exact ih2 hq.2
          exact key A _ hin.2
      rw [this]; rfl
    refine awp_loop (fun n fr s3 => GrI (nearF g.es) M A v n fr s3 ∧ fr 2 = .pt st.next 0 ∧ fr 4 = .nil ∧ fr 5 = .mp M ∧ fr 8 = u v ∧ fr 23 = .sl (st.next + 1 + 1 + 1 + 1) all.length (us all) ∧ fr 24 = i all.length ∧ fr 25 = i j0 ∧ s3.H st.next = .box 38 2 (grL g) ∧ M < s3.next ∧ Keeps st s3) (fN (colF A) (nearF g.es v)) ?_ ?_
    · refine ⟨.inl ⟨1, Nat.le_refl _, q1, by omega, by simp, hM2⟩, by simp [f2], by simp [f4], by simp [f5], by simp, by simp [f23], by simp [fn], by simp [fi], hG2, by omega, hkp.trans hk2⟩
    clear f2 f4 f5 f23 hG hM hn hkp hG2 hM2 hn2 hk2 fi fn
    rintro n fr s3 ⟨hGI, f2, f4, f5, f8, f23, fn, fi, hG, hn, hkp⟩ JJ hJJ
    rcases hGI with ⟨k, k1, k2, rfl, f9, hM⟩ | ⟨rfl, hM⟩
    rotate_left
    · clear hJJ
      have hz : ¬ (fN (colF A) (nearF g.es v) : Int) = 0 := by omega
      have hz1 : ((fN (colF A) (nearF g.es v) : Int) == 0) = false := by simpa using hz
      (repeat' (first | refine awp_seq ?_ | refine awp_block ?_ | ((first | refine awp_skip ?_ | refine awp_exit ?_); simp only [ak, reduceIte]) | (refine awp_ret ?_; simp only [ak, reduceIte]; simp [f5, f8, hM, hsetv, hz, hz1]) | (refine awp_cond ?_; simp [f5, f8, hM, hsetv, hz, hz1]; (try with_reducible refine ⟨?_, ?_⟩) <;> (try with_reducible intro hc) <;> try (exfalso; omega)) | ((first | (refine w_e [] ?_; intro J hJ; simp only []) | (refine w_q ?_; intro J hJ) | refine e_go ?_); simp [f5, f8, hM, hsetv, hz, hz1]; (repeat refine ca ?_); (try ((try with_reducible refine ⟨?_, ?_⟩) <;> (try with_reducible intro hnil) <;> refine hJ _ _ ?_ <;> clear hJ J <;> simp only [ak, reduceIte] <;> try subst hnil)))))
      exact hJO _ _ (by simp [fi]) (by simp [fn]) ⟨by simp [f2], by simp [f4], by simp [f5], by simp [f23], hG, hM, hn, hkp⟩
    (repeat' (first | refine awp_seq ?_ | refine awp_block ?_ | ((first | refine awp_skip ?_ | refine awp_exit ?_); simp only [ak, reduceIte]) | (refine awp_ret ?_; simp only [ak, reduceIte]; simp [f2, f5, f8, hM, hcv, hG]) | (refine awp_cond ?_; simp [f2, f5, f8, hM, hcv, hG]; (try with_reducible refine ⟨?_, ?_⟩) <;> (try with_reducible intro hc) <;> try (exfalso; omega)) | ((first | (refine w_e [] ?_; intro J hJ; simp only []) | (refine w_q ?_; intro J hJ) | refine e_go ?_); simp [f2, f5, f8, hM, hcv, hG]; (repeat refine ca ?_); (try ((try with_reducible refine ⟨?_, ?_⟩) <;> (try with_reducible intro hnil) <;> refine hJ _ _ ?_ <;> clear hJ J <;> simp only [ak, reduceIte] <;> try subst hnil)))))
    refine callK_ofE (ref_nNear g v _ (by omega) (by omega)) (by simp) ?_; rintro r s4 ⟨rfl, hk4⟩
    have hn4 := hk4.next
    have hG4 := (hk4.H st.next (by omega)).trans hG
    have hM4 := (hk4.H M hn).trans hM
    have hnv : (g.vs.filter fun w => decide (adj g.es v w)) = nearF g.es v := by rw [← hnr]; rfl
    rw [hnv]
    have hcw := mget_col A
    generalize hfN : fN (colF A) (nearF g.es v) = f at *
    generalize hN : nearF g.es v = N at *
    (repeat' (first | refine awp_seq ?_ | refine awp_block ?_ | ((first | refine awp_skip ?_ | refine awp_exit ?_); simp only [ak, reduceIte]) | (refine awp_ret ?_; simp only [ak, reduceIte]; simp []) | (refine awp_cond ?_; simp []; (try with_reducible refine ⟨?_, ?_⟩) <;> (try with_reducible intro hc) <;> try (exfalso; omega)) | ((first | (refine w_e [] ?_; intro J hJ; simp only []) | (refine w_q ?_; intro J hJ) | refine e_go ?_); simp []; (repeat refine ca ?_); (try ((try with_reducible refine ⟨?_, ?_⟩) <;> (try with_reducible intro hnil) <;> refine hJ _ _ ?_ <;> clear hJ J <;> simp only [ak, reduceIte] <;> try subst hnil)))))
    refine awp_range 49 48 50 58 (N.length) (fun j fr st2 => fr 2 = .pt st.next 0 ∧ fr 4 = .nil ∧ fr 5 = .mp M ∧ fr 8 = u v ∧ fr 9 = i k ∧ fr 23 = .sl (st.next + 1 + 1 + 1 + 1) all.length (us all) ∧ fr 24 = i all.length ∧ fr 25 = i j0 ∧ fr 47 = .sl 0 N.length (us N) ∧ st2 = s4 ∧ fr 10 = bb ((N.take j).all fun w => decide (colF A w ≠ k))) ?_ ?_ ?_
    · exact ⟨by simp [f2], by simp [f4], by simp [f5], by simp [f8], by simp [f9], by simp [f23], by simp [fn], by simp [fi], by simp, rfl, by simp⟩
    · clear f2 f4 f5 f8 f23 f9 fi fn
      rintro j fr s5 hlt2 ⟨f2, f4, f5, f8, f9, f23, fn, fi, f47, rfl, f10⟩ Fi Fn JI hJI
      have hd2 := us_drop_getD N j hlt2
      have htk2 : (N.take (j + 1)).all (fun w => decide (colF A w ≠ k)) = ((N.take j).all (fun w => decide (colF A w ≠ k)) && decide (colF A (N.getD j 0) ≠ k)) := by
        rw [List.take_succ_eq_append_getElem hlt2, List.all_append, List.getD_eq_getElem?_getD, List.getElem?_eq_getElem hlt2]; simp
      rw [htk2] at hJI
      have hcx := hcw (N.getD j 0)
      generalize N.getD j 0 = w at *
      generalize ((N.take j).all fun w => decide (colF A w ≠ k)) = bq at *
      by_cases hck : colF A w = k
      · have hck1 : (colF A w == (k : Int)) = true := by simpa using hck
        (repeat' (first | refine awp_seq ?_ | refine awp_block ?_ | ((first | refine awp_skip ?_ | refine awp_exit ?_); simp only [ak, reduceIte]) | (refine awp_ret ?_; simp only [ak, reduceIte]; simp [f5, f9, f47, Fi, Fn, hd2, hlt2, hM4, hcx, hck1, hck]) | (refine awp_cond ?_; simp [f5, f9, f47, Fi, Fn, hd2, hlt2, hM4, hcx, hck1, hck]; (try with_reducible refine ⟨?_, ?_⟩) <;> (try with_reducible intro hc) <;> try (exfalso; omega)) | ((first | (refine w_e [] ?_; intro J hJ; simp only []) | (refine w_q ?_; intro J hJ) | refine e_go ?_); simp [f5, f9, f47, Fi, Fn, hd2, hlt2, hM4, hcx, hck1, hck]; (repeat refine ca ?_); (try ((try with_reducible refine ⟨?_, ?_⟩) <;> (try with_reducible intro hnil) <;> refine hJ _ _ ?_ <;> clear hJ J <;> simp only [ak, reduceIte] <;> try subst hnil)))))
        exact hJI _ _ (by simp [Fi]) (by simp [Fn]) ⟨by simp [f2], by simp [f4], by simp [f5], by simp [f8], by simp [f9], by simp [f23], by simp [fn], by simp [fi], by simp [f47], rfl, by simp [hck]⟩
      · have hck1 : (colF A w == (k : Int)) = false := by simpa using hck
        (repeat' (first | refine awp_seq ?_ | refine awp_block ?_ | ((first | refine awp_skip ?_ | refine awp_exit ?_); simp only [ak, reduceIte]) | (refine awp_ret ?_; simp only [ak, reduceIte]; simp [f5, f9, f47, Fi, Fn, hd2, hlt2, hM4, hcx, hck1, hck]) | (refine awp_cond ?_; simp [f5, f9, f47, Fi, Fn, hd2, hlt2, hM4, hcx, hck1, hck]; (try with_reducible refine ⟨?_, ?_⟩) <;> (try with_reducible intro hc) <;> try (exfalso; omega)) | ((first | (refine w_e [] ?_; intro J hJ; simp only []) | (refine w_q ?_; intro J hJ) | refine e_go ?_); simp [f5, f9, f47, Fi, Fn, hd2, hlt2, hM4, hcx, hck1, hck]; (repeat refine ca ?_); (try ((try with_reducible refine ⟨?_, ?_⟩) <;> (try with_reducible intro hnil) <;> refine hJ _ _ ?_ <;> clear hJ J <;> simp only [ak, reduceIte] <;> try subst hnil)))))
        exact hJI _ _ (by simp [Fi]) (by simp [Fn]) ⟨by simp [f2], by simp [f4], by simp [f5], by simp [f8], by simp [f9], by simp [f23], by simp [fn], by simp [fi], by simp [f47], rfl, by simp [hck, f10]⟩
    · clear f2 f4 f5 f8 f23 f9 fi fn
      rintro fr s5 ⟨f2, f4, f5, f8, f9, f23, fn, fi, f47, rfl, f10⟩
      rw [List.take_length] at f10
      have hw := nat_add_one k (by omega)
      by_cases hkf : k = f
      · have hall : (N.all fun w => decide (colF A w ≠ k)) = true := by
          rw [List.all_eq_true]; intro w hw'; rw [hkf]; simpa using q2 w hw'
        rw [hall] at f10
        have hms := mset_cl (A := A) (v := v) (w := (k : Int)) hin
        (repeat' (first | refine awp_seq ?_ | refine awp_block ?_ | ((first | refine awp_skip ?_ | refine awp_exit ?_); simp only [ak, reduceIte]) | (refine awp_ret ?_; simp only [ak, reduceIte]; simp [f5, f8, f9, f10, hM4, hms, hw]) | (refine awp_cond ?_; simp [f5, f8, f9, f10, hM4, hms, hw]; (try with_reducible refine ⟨?_, ?_⟩) <;> (try with_reducible intro hc) <;> try (exfalso; omega)) | ((first | (refine w_e [] ?_; intro J hJ; simp only []) | (refine w_q ?_; intro J hJ) | refine e_go ?_); simp [f5, f8, f9, f10, hM4, hms, hw]; (repeat refine ca ?_); (try ((try with_reducible refine ⟨?_, ?_⟩) <;> (try with_reducible intro hnil) <;> refine hJ _ _ ?_ <;> clear hJ J <;> simp only [ak, reduceIte] <;> try subst hnil)))))
        have e1 : ¬ st.next = M := by omega
        refine hJJ 0 _ _ (by omega) ⟨.inr ⟨rfl, ?_⟩, by simp [f2], by simp [f4], by simp [f5], by simp [f8], by simp [f23], by simp [fn], by simp [fi], by rw [set_H, if_neg e1]; exact hG4, by simp; omega, (hkp.trans hk4).set (by omega) _⟩
        rw [set_H, if_pos rfl, hN, hfN, hkf]
      · have hall : (N.all fun w => decide (colF A w ≠ k)) = false := by
          rw [List.all_eq_false]
          obtain ⟨w, hw1, hw2⟩ := q3 k k1 (by omega)
          exact ⟨w, hw1, by simpa using hw2⟩
        rw [hall] at f10
        (repeat' (first | refine awp_seq ?_ | refine awp_block ?_ | ((first | refine awp_skip ?_ | refine awp_exit ?_); simp only [ak, reduceIte]) | (refine awp_ret ?_; simp only [ak, reduceIte]; simp [f9, f10, hw]) | (refine awp_cond ?_; simp [f9, f10, hw]; (try with_reducible refine ⟨?_, ?_⟩) <;> (try with_reducible intro hc) <;> try (exfalso; omega)) | ((first | (refine w_e [] ?_; intro J hJ; simp only []) | (refine w_q ?_; intro J hJ) | refine e_go ?_); simp [f9, f10, hw]; (repeat refine ca ?_); (try ((try with_reducible refine ⟨?_, ?_⟩) <;> (try with_reducible intro hnil) <;> refine hJ _ _ ?_ <;> clear hJ J <;> simp only [ak, reduceIte] <;> try subst hnil)))))
        exact hJJ (f + 1 - (k + 1)) _ _ (by omega) ⟨.inl ⟨k + 1, by omega, by rw [hN, hfN]; omega, by rw [hN, hfN], by simp, hM4⟩, by simp [f2], by simp [f4], by simp [f5], by simp [f8], by simp [f23], by simp [fn], by simp [fi], hG4, by omega, hkp.trans hk4⟩
  rintro fr s ⟨f2, f4, f5, f23, hG, hM, hn, hkp⟩
  rw [List.take_length] at hM
  generalize giveA (nearF g.es) g.vs [] all = A at *
  have hcol := mget_col A
  (repeat' (first | refine awp_seq ?_ | refine awp_block ?_ | ((first | refine awp_skip ?_ | refine awp_exit ?_); simp only [ak, reduceIte]) | (refine awp_ret ?_; simp only [ak, reduceIte]; simp [f2, hG]) | (refine awp_cond ?_; simp [f2, hG]; (try with_reducible refine ⟨?_, ?_⟩) <;> (try with_reducible intro hc) <;> try (exfalso; omega)) | ((first | (refine w_e [] ?_; intro J hJ; simp only []) | (refine w_q ?_; intro J hJ) | refine e_go ?_); simp [f2, hG]; (repeat refine ca ?_); (try ((try with_reducible refine ⟨?_, ?_⟩) <;> (try with_reducible intro hnil) <;> refine hJ _ _ ?_ <;> clear hJ J <;> simp only [ak, reduceIte] <;> try subst hnil)))))
  refine awp_own 13 3 1 (by simp) ?_
  have e1 : ¬ st.next = s.next := by omega
  have e2 : ¬ M = s.next := by omega
  refine awp_range 67 66 68 77 (g.vs.length) (fun j fr st2 => fr 5 = .mp M ∧ fr 65 = .sl 0 g.vs.length (us g.vs) ∧ st2.H M = .map false [.u32] (clL A) ∧ M < st2.next ∧ Keeps st st2 ∧ ∃ tq, fr 13 = .sl tq j (is ((g.vs.take j).map (colF A))) ∧ tq ≠ 0 ∧ st.next ≤ tq ∧ tq < st2.next ∧ st2.H tq = .own 3 1 j) ?_ ?_ ?_
  · exact ⟨by simp [f5], by simp, by simp [e2, hM], by simp; omega, hkp.trans (Keeps.new _ _), s.next, by simp [is], by omega, by omega, by simp, by simp⟩
  · clear f2 f4 f5 f23 hG hM hn hkp e1 e2
    rintro j fr s2 hlt ⟨f5, f65, hM, hn, hkp, tq, f13, o1, o2, o3, o4⟩ fi fn JO hJO
    have hd := us_drop_getD g.vs j hlt
    have htk : g.vs.take (j + 1) = g.vs.take j ++ [g.vs.getD j 0] := by
      rw [List.getD_eq_getElem?_getD, List.getElem?_eq_getElem hlt]; exact List.take_succ_eq_append_getElem hlt
    rw [htk] at hJO
    have hil : (is ((g.vs.take j).map (colF A))).length = j := by simp [is]; omega
    generalize g.vs.getD j 0 = v at *
    generalize hT : g.vs.take j = T at *
    have hcx := hcol v
    have c1 : ¬ tq = s2.next := by omega
    have c2 : ¬ M = tq := box_neT hM o4 (by simp)
    (repeat' (first | refine awp_seq ?_ | refine awp_block ?_ | ((first | refine awp_skip ?_ | refine awp_exit ?_); simp only [ak, reduceIte]) | (refine awp_ret ?_; simp only [ak, reduceIte]; simp [f5, f65, f13, fi, fn, hd, hlt, hM, hcx, o1, o4, c1]) | (refine awp_cond ?_; simp [f5, f65, f13, fi, fn, hd, hlt, hM, hcx, o1, o4, c1]; (try with_reducible refine ⟨?_, ?_⟩) <;> (try with_reducible intro hc) <;> try (exfalso; omega)) | ((first | (refine w_e [] ?_; intro J hJ; simp only []) | (refine w_q ?_; intro J hJ) | refine e_go ?_); simp [f5, f65, f13, fi, fn, hd, hlt, hM, hcx, o1, o4, c1]; (repeat refine ca ?_); (try ((try with_reducible refine ⟨?_, ?_⟩) <;> (try with_reducible intro hnil) <;> refine hJ _ _ ?_ <;> clear hJ J <;> simp only [ak, reduceIte] <;> try subst hnil)))))
    refine hJO _ _ (by simp [fi]) (by simp [fn]) ⟨by simp [f5], by simp [f65], by (repeat (first | rw [new_H, if_neg (α := LObj) (by (try simp only [set_next, new_next]); omega)] | rw [set_H, if_neg (α := LObj) (by omega)] | rw [new_H, if_pos (α := LObj) (by (try simp only [set_next, new_next]))] | rw [set_H, if_pos (α := LObj) (by omega)])); exact hM, by simp; omega, ?_, s2.next + 1, by simp [is], by omega, by omega, by simp, by simp⟩
    exact (((hkp.trans (Keeps.new _ _)).set (by omega) _).trans (Keeps.new _ _))
  rintro fr s2 ⟨f5, f65, hM, hn, hkp, tq, f13, o1, o2, o3, o4⟩
  rw [List.take_length] at f13
  (repeat' (first | refine awp_seq ?_ | refine awp_block ?_ | ((first | refine awp_skip ?_ | refine awp_exit ?_); simp only [ak, reduceIte]) | (refine awp_ret ?_; simp only [ak, reduceIte]; simp [f13]) | (refine awp_cond ?_; simp [f13]; (try with_reducible refine ⟨?_, ?_⟩) <;> (try with_reducible intro hc) <;> try (exfalso; omega)) | ((first | (refine w_e [] ?_; intro J hJ; simp only []) | (refine w_q ?_; intro J hJ) | refine e_go ?_); simp [f13]; (repeat refine ca ?_); (try ((try with_reducible refine ⟨?_, ?_⟩) <;> (try with_reducible intro hnil) <;> refine hJ _ _ ?_ <;> clear hJ J <;> simp only [ak, reduceIte] <;> try subst hnil)))))
  exact ⟨by simp only [z0, z0_is], hkp⟩

end Go.Proofs.YtomfeddgeihipaaGreat.Aw

namespace Go.Proofs.YtomfeddgeihipaaGreat.Aw
open Go Go.RowKit Go.Proofs.YtomfeddgeihipaaGreat.Pl
set_option linter.unusedSimpArgs false
set_option linter.unusedVariables false

/-- The graph's vertices have just these colors, in their order. -/
theorem giveA_keys (near : Int → List Int) (vs : List Int) : ∀ (l : List Int) (A : Led), (∀ x ∈ A.map (·.1), x ∈ vs) → (A.map (·.1)).Nodup → (∀ x ∈ (giveA near vs A l).map (·.1), x ∈ vs) ∧ ((giveA near vs A l).map (·.1)).Nodup ∧ (∀ x, x ∈ A.map (·.1) → x ∈ (giveA near vs A l).map (·.1)) ∧ ∀ x ∈ l, x ∈ vs → x ∈ (giveA near vs A l).map (·.1)
  | [], A, h1, h2 => ⟨h1, h2, fun _ h => h, fun x hx => by simp at hx⟩
  | v :: l, A, h1, h2 => by
    have hstep : (∀ x ∈ (giveS near vs A v).map (·.1), x ∈ vs) ∧ ((giveS near vs A v).map (·.1)).Nodup ∧ (∀ x, x ∈ A.map (·.1) → x ∈ (giveS near vs A v).map (·.1)) ∧ (v ∈ vs → v ∈ (giveS near vs A v).map (·.1)) := by
      unfold giveS
      split
      · rename_i h
        exact ⟨h1, h2, fun _ h => h, fun hv => h.resolve_right fun hn => hn hv⟩
      · rename_i h
        rw [not_or] at h
        have hv : v ∈ vs := Classical.byContradiction h.2
        rw [List.map_append]
        refine ⟨fun x hx => ?_, ?_, fun x hx => List.mem_append_left _ hx, fun _ => by simp⟩
        · rcases List.mem_append.1 hx with hx | hx
          · exact h1 x hx
          · simp at hx; rw [hx]; exact hv
        · rw [List.nodup_append]
          refine ⟨h2, by simp, fun a ha b hb => ?_⟩
          simp at hb
          rintro rfl
          rw [hb] at ha
          exact h.1 ha
    obtain ⟨k1, k2, k3, k4⟩ := giveA_keys near vs l (giveS near vs A v) hstep.1 hstep.2.1
    refine ⟨k1, k2, fun x hx => k3 x (hstep.2.2.1 x hx), fun x hx hxv => ?_⟩
    rcases List.mem_cons.1 hx with rfl | hx
    · exact k3 _ (hstep.2.2.2 hxv)
    · exact k4 x hx hxv
theorem colA_len (g : Gr) (hn : g.vs.Nodup) (l : List Int) : (colA g l).length = g.vs.length := by
  have e : colA g l = giveA (nearF g.es) g.vs [] (l ++ g.vs) := by unfold colA giveA; rw [List.foldl_append]
  obtain ⟨k1, k2, _, k4⟩ := giveA_keys (nearF g.es) g.vs (l ++ g.vs) [] (by simp) (by simp)
  rw [e]
  have := ((List.perm_ext_iff_of_nodup k2 hn).2 fun x => ⟨fun h => k1 x h, fun h => k4 x (List.mem_append_right _ h) h⟩).length_eq
  simpa using this

theorem same34 (g : Gr) (M t : Nat) (A : Led) (st : St) (hv : g.vs.length ≤ 1000) (hM : st.H M = .map false [.u32] (clL A)) (hl : A.length = g.vs.length) (hMn : M < st.next) :
    ACalls Tryz.prog 53 [.ag (grL g), .mp M, .sl t g.vs.length (is (g.vs.map (colF A)))] st fun r st' => r = bb true ∧ Keeps st st' := by
  have hcl := clL_len A
  have e1 : ¬ M = st.next := by omega
  have hil : (is (g.vs.map (colF A))).length = g.vs.length := by simp [is]
  have hcol := mget_col A
  refine acalls_of_body tabOk Tryz.func53 rfl rfl Tryz.ntmps53 (rs := [.tmp 6]) rfl (by simp) ?_
  (repeat' (first | refine awp_seq ?_ | refine awp_block ?_ | ((first | refine awp_skip ?_ | refine awp_exit ?_); simp only [ak, reduceIte]) | (refine awp_ret ?_; simp only [ak, reduceIte]; simp [hM, e1, hcl, hl]) | (refine awp_cond ?_; simp [hM, e1, hcl, hl]; (try with_reducible refine ⟨?_, ?_⟩) <;> (try with_reducible intro hc) <;> try (exfalso; omega)) | ((first | (refine w_e [] ?_; intro J hJ; simp only []) | (refine w_q ?_; intro J hJ) | refine e_go ?_); simp [hM, e1, hcl, hl]; (repeat refine ca ?_); (try ((try with_reducible refine ⟨?_, ?_⟩) <;> (try with_reducible intro hnil) <;> refine hJ _ _ ?_ <;> clear hJ J <;> simp only [ak, reduceIte] <;> try subst hnil)))))
  refine awp_range 17 16 18 30 (g.vs.length) (fun j fr st2 => fr 1 = .mp M ∧ fr 2 = .sl t g.vs.length (is (g.vs.map (colF A))) ∧ fr 15 = .sl 0 g.vs.length (us g.vs) ∧ st2.H M = .map false [.u32] (clL A) ∧ Keeps st st2) ?_ ?_ ?_
  · exact ⟨by simp, by simp, by simp, by simp [e1, hM], Keeps.new _ _⟩
  · rintro j fr s hlt ⟨f1, f2, f15, hM, hkp⟩ fi fn JO hJO
    have hd := us_drop_getD g.vs j hlt
    have hdi := is_drop (g.vs.map (colF A)) j (by simpa using hlt)
    have hgd : (g.vs.map (colF A)).getD j 0 = colF A (g.vs.getD j 0) := by
      rw [List.getD_eq_getElem?_getD, List.getD_eq_getElem?_getD, List.getElem?_map, List.getElem?_eq_getElem hlt]; rfl
    rw [hgd] at hdi
    have hcx := hcol (g.vs.getD j 0)
    generalize g.vs.getD j 0 = v at *
    (repeat' (first | refine awp_seq ?_ | refine awp_block ?_ | ((first | refine awp_skip ?_ | refine awp_exit ?_); simp only [ak, reduceIte]) | (refine awp_ret ?_; simp only [ak, reduceIte]; simp [f1, f2, f15, fi, fn, hd, hlt, hM, hdi, hil, hcx]) | (refine awp_cond ?_; simp [f1, f2, f15, fi, fn, hd, hlt, hM, hdi, hil, hcx]; (try with_reducible refine ⟨?_, ?_⟩) <;> (try with_reducible intro hc) <;> try (exfalso; omega)) | ((first | (refine w_e [] ?_; intro J hJ; simp only []) | (refine w_q ?_; intro J hJ) | refine e_go ?_); simp [f1, f2, f15, fi, fn, hd, hlt, hM, hdi, hil, hcx]; (repeat refine ca ?_); (try ((try with_reducible refine ⟨?_, ?_⟩) <;> (try with_reducible intro hnil) <;> refine hJ _ _ ?_ <;> clear hJ J <;> simp only [ak, reduceIte] <;> try subst hnil)))))
    exact hJO _ _ (by simp [fi]) (by simp [fn]) ⟨by simp [f1], by simp [f2], by simp [f15], hM, hkp⟩
  rintro fr s ⟨f1, f2, f15, hM, hkp⟩
  (repeat' (first | refine awp_seq ?_ | refine awp_block ?_ | ((first | refine awp_skip ?_ | refine awp_exit ?_); simp only [ak, reduceIte]) | (refine awp_ret ?_; simp only [ak, reduceIte]; simp []) | (refine awp_cond ?_; simp []; (try with_reducible refine ⟨?_, ?_⟩) <;> (try with_reducible intro hc) <;> try (exfalso; omega)) | ((first | (refine w_e [] ?_; intro J hJ; simp only []) | (refine w_q ?_; intro J hJ) | refine e_go ?_); simp []; (repeat refine ca ?_); (try ((try with_reducible refine ⟨?_, ?_⟩) <;> (try with_reducible intro hnil) <;> refine hJ _ _ ?_ <;> clear hJ J <;> simp only [ak, reduceIte] <;> try subst hnil)))))
  exact hkp

set_option maxHeartbeats 2000000 in
theorem ColorTells (g : Gr) (l : List Int) (st : St) :
    ACalls Tryz.prog 10 [.ag (grL g), .sl 0 l.length (us l)] st fun r st' => r = bb true := by
  have hel := eds_length g.es
  refine acalls_of_body tabOk Tryz.func10 rfl rfl Tryz.ntmps10 (rs := [.tmp 4]) rfl (by simp) ?_
  refine awp_posG fun hpos => ?_
  (repeat' (first | refine awp_seq ?_ | refine awp_block ?_ | ((first | refine awp_skip ?_ | refine awp_exit ?_); simp only [ak, reduceIte]) | (refine awp_ret ?_; simp only [ak, reduceIte]; simp []) | (refine awp_cond ?_; simp []; (try with_reducible refine ⟨?_, ?_⟩) <;> (try with_reducible intro hc) <;> try (exfalso; omega)) | ((first | (refine w_e [] ?_; intro J hJ; simp only []) | (refine w_q ?_; intro J hJ) | refine e_go ?_); simp []; (repeat refine ca ?_); (try ((try with_reducible refine ⟨?_, ?_⟩) <;> (try with_reducible intro hnil) <;> refine hJ _ _ ?_ <;> clear hJ J <;> simp only [ak, reduceIte] <;> try subst hnil)))))
  refine callK_ofE (awake34 _) (by simp []) ?_; rintro r st' ⟨rfl, rfl⟩
  (repeat' (first | refine awp_seq ?_ | refine awp_block ?_ | ((first | refine awp_skip ?_ | refine awp_exit ?_); simp only [ak, reduceIte]) | (refine awp_ret ?_; simp only [ak, reduceIte]; simp []) | (refine awp_cond ?_; simp []; (try with_reducible refine ⟨?_, ?_⟩) <;> (try with_reducible intro hc) <;> try (exfalso; omega)) | ((first | (refine w_e [] ?_; intro J hJ; simp only []) | (refine w_q ?_; intro J hJ) | refine e_go ?_); simp []; (repeat refine ca ?_); (try ((try with_reducible refine ⟨?_, ?_⟩) <;> (try with_reducible intro hnil) <;> refine hJ _ _ ?_ <;> clear hJ J <;> simp only [ak, reduceIte] <;> try subst hnil)))))
  refine callK_ofE (ref_CheckA g _) (by simp) ?_; rintro r s1 ⟨rfl, hk1⟩
  have hn1 := hk1.next
  simp only [new_next] at hn1
  have hG1 : s1.H st.next = .box 38 2 (grL g) := by rw [hk1.H _ (by simp)]; simp
  by_cases hc : chk g = 0
  rotate_left
  · have hc1 : (chk g != 0) = true := by simpa using hc
    (repeat' (first | refine awp_seq ?_ | refine awp_block ?_ | ((first | refine awp_skip ?_ | refine awp_exit ?_); simp only [ak, reduceIte]) | (refine awp_ret ?_; simp only [ak, reduceIte]; simp [hc, hc1, hG1]) | (refine awp_cond ?_; simp [hc, hc1, hG1]; (try with_reducible refine ⟨?_, ?_⟩) <;> (try with_reducible intro hc) <;> try (exfalso; omega)) | ((first | (refine w_e [] ?_; intro J hJ; simp only []) | (refine w_q ?_; intro J hJ) | refine e_go ?_); simp [hc, hc1, hG1]; (repeat refine ca ?_); (try ((try with_reducible refine ⟨?_, ?_⟩) <;> (try with_reducible intro hnil) <;> refine hJ _ _ ?_ <;> clear hJ J <;> simp only [ak, reduceIte] <;> try subst hnil)))))
  have hc1 : (chk g != 0) = false := by simpa using hc
  have hF := chk_full hc
  by_cases h1 : 60 < g.es.length
  · have h1' : (60 : Int) < g.es.length := by omega
    (repeat' (first | refine awp_seq ?_ | refine awp_block ?_ | ((first | refine awp_skip ?_ | refine awp_exit ?_); simp only [ak, reduceIte]) | (refine awp_ret ?_; simp only [ak, reduceIte]; simp [hc, hc1, hG1, h1, h1']) | (refine awp_cond ?_; simp [hc, hc1, hG1, h1, h1']; (try with_reducible refine ⟨?_, ?_⟩) <;> (try with_reducible intro hc) <;> try (exfalso; omega)) | ((first | (refine w_e [] ?_; intro J hJ; simp only []) | (refine w_q ?_; intro J hJ) | refine e_go ?_); simp [hc, hc1, hG1, h1, h1']; (repeat refine ca ?_); (try ((try with_reducible refine ⟨?_, ?_⟩) <;> (try with_reducible intro hnil) <;> refine hJ _ _ ?_ <;> clear hJ J <;> simp only [ak, reduceIte] <;> try subst hnil)))))
  have h1' : ¬ (60 : Int) < g.es.length := by omega
  by_cases h2 : 30 < g.vs.length
  · have h2' : (30 : Int) < g.vs.length := by omega
    (repeat' (first | refine awp_seq ?_ | refine awp_block ?_ | ((first | refine awp_skip ?_ | refine awp_exit ?_); simp only [ak, reduceIte]) | (refine awp_ret ?_; simp only [ak, reduceIte]; simp [hc, hc1, hG1, h1, h1', h2, h2']) | (refine awp_cond ?_; simp [hc, hc1, hG1, h1, h1', h2, h2']; (try with_reducible refine ⟨?_, ?_⟩) <;> (try with_reducible intro hc) <;> try (exfalso; omega)) | ((first | (refine w_e [] ?_; intro J hJ; simp only []) | (refine w_q ?_; intro J hJ) | refine e_go ?_); simp [hc, hc1, hG1, h1, h1', h2, h2']; (repeat refine ca ?_); (try ((try with_reducible refine ⟨?_, ?_⟩) <;> (try with_reducible intro hnil) <;> refine hJ _ _ ?_ <;> clear hJ J <;> simp only [ak, reduceIte] <;> try subst hnil)))))
  have h2' : ¬ (30 : Int) < g.vs.length := by omega
  by_cases h3 : 100 < l.length
  · have h3' : (100 : Int) < l.length := by omega
    (repeat' (first | refine awp_seq ?_ | refine awp_block ?_ | ((first | refine awp_skip ?_ | refine awp_exit ?_); simp only [ak, reduceIte]) | (refine awp_ret ?_; simp only [ak, reduceIte]; simp [hc, hc1, hG1, h1, h1', h2, h2', h3, h3']) | (refine awp_cond ?_; simp [hc, hc1, hG1, h1, h1', h2, h2', h3, h3']; (try with_reducible refine ⟨?_, ?_⟩) <;> (try with_reducible intro hc) <;> try (exfalso; omega)) | ((first | (refine w_e [] ?_; intro J hJ; simp only []) | (refine w_q ?_; intro J hJ) | refine e_go ?_); simp [hc, hc1, hG1, h1, h1', h2, h2', h3, h3']; (repeat refine ca ?_); (try ((try with_reducible refine ⟨?_, ?_⟩) <;> (try with_reducible intro hnil) <;> refine hJ _ _ ?_ <;> clear hJ J <;> simp only [ak, reduceIte] <;> try subst hnil)))))
  have h3' : ¬ (100 : Int) < l.length := by omega
  have hnd : g.vs.Nodup := hF.rise.imp fun h => by omega
  have hol := ordA_len g
  (repeat' (first | refine awp_seq ?_ | refine awp_block ?_ | ((first | refine awp_skip ?_ | refine awp_exit ?_); simp only [ak, reduceIte]) | (refine awp_ret ?_; simp only [ak, reduceIte]; simp [hc, hc1, hG1, h1, h1', h2, h2', h3, h3']) | (refine awp_cond ?_; simp [hc, hc1, hG1, h1, h1', h2, h2', h3, h3']; (try with_reducible refine ⟨?_, ?_⟩) <;> (try with_reducible intro hc) <;> try (exfalso; omega)) | ((first | (refine w_e [] ?_; intro J hJ; simp only []) | (refine w_q ?_; intro J hJ) | refine e_go ?_); simp [hc, hc1, hG1, h1, h1', h2, h2', h3, h3']; (repeat refine ca ?_); (try ((try with_reducible refine ⟨?_, ?_⟩) <;> (try with_reducible intro hnil) <;> refine hJ _ _ ?_ <;> clear hJ J <;> simp only [ak, reduceIte] <;> try subst hnil)))))
  refine callK_ofE (ref_Order g _ hF) (by simp) ?_; rintro r s2 ⟨rfl, hk2⟩
  have hn2 := hk2.next
  have hG2 := (hk2.H st.next (by omega)).trans hG1
  (repeat' (first | refine awp_seq ?_ | refine awp_block ?_ | ((first | refine awp_skip ?_ | refine awp_exit ?_); simp only [ak, reduceIte]) | (refine awp_ret ?_; simp only [ak, reduceIte]; simp []) | (refine awp_cond ?_; simp []; (try with_reducible refine ⟨?_, ?_⟩) <;> (try with_reducible intro hc) <;> try (exfalso; omega)) | ((first | (refine w_e [] ?_; intro J hJ; simp only []) | (refine w_q ?_; intro J hJ) | refine e_go ?_); simp []; (repeat refine ca ?_); (try ((try with_reducible refine ⟨?_, ?_⟩) <;> (try with_reducible intro hnil) <;> refine hJ _ _ ?_ <;> clear hJ J <;> simp only [ak, reduceIte] <;> try subst hnil)))))
  (refine w_s [] [st.next] [(0, true), (1, true), (2, true), (4, true), (5, true), (3, true), (6, true), (7, true), (8, true), (9, true), (11, true), (10, true), (12, true), (13, true), (14, true), (15, true), (16, true), (18, true), (19, true), (17, true), (20, true), (21, true), (22, true), (23, true)] ?_; intro J hJ; simp [hG2]; (repeat refine ca ?_); (try ((try with_reducible refine ⟨?_, ?_⟩) <;> (try with_reducible intro hnil) <;> refine hJ _ _ ?_ <;> clear hJ J <;> simp only [ak, reduceIte] <;> try subst hnil)))
  refine dcallK_ofE (Greedy g l 0 _ (by omega) (by omega) (by omega)) (by simp) ?_; rintro r s3 ⟨M, rfl, m1, m2, hM, hk3⟩
  have hn3 := hk3.next
  have hG3 := (hk3.H st.next (by omega)).trans hG2
  refine ⟨fun _ => by simp [hG3, hG2], ?_⟩
  (refine d_go ?_; simp [hG3, hG2]; (repeat refine ca ?_); (try ((try with_reducible refine ⟨?_, ?_⟩) <;> (try with_reducible intro hnil) <;> refine hJ _ _ ?_ <;> clear hJ J <;> simp only [ak, reduceIte] <;> try subst hnil)))
  refine dcallK_ofE (ref_Greedy g l 0 _ hF (by omega)) (by simp) ?_; rintro r s4 ⟨rfl, hk4⟩
  have hn4 := hk4.next
  have hG4 := (hk4.H st.next (by omega)).trans hG3
  have hM4 := (hk4.H M m2).trans hM
  refine ⟨fun _ => by simp [hG4, hG2], ?_⟩
  (refine d_go ?_; simp [hG4, hG2]; (repeat refine ca ?_); (try ((try with_reducible refine ⟨?_, ?_⟩) <;> (try with_reducible intro hnil) <;> refine hJ _ _ ?_ <;> clear hJ J <;> simp only [ak, reduceIte] <;> try subst hnil)))
  refine dcallK_ofE (same34 g M 0 (colA g l) s4 (by omega) hM4 (colA_len g hnd l) (by omega)) (by simp [is]) ?_; rintro r s5 ⟨rfl, hk5⟩
  have hn5 := hk5.next
  have hG5 := (hk5.H st.next (by omega)).trans hG4
  refine ⟨fun _ => by simp [hG5, hG2], ?_⟩
  (refine d_go ?_; simp [hG5, hG2]; (repeat refine ca ?_); (try ((try with_reducible refine ⟨?_, ?_⟩) <;> (try with_reducible intro hnil) <;> refine hJ _ _ ?_ <;> clear hJ J <;> simp only [ak, reduceIte] <;> try subst hnil)))
  refine dcallK_ofE (Order g _ hF) (by simp) ?_; rintro r s6 ⟨rfl, hk6⟩
  have hn6 := hk6.next
  have hG6 := (hk6.H st.next (by omega)).trans hG5
  refine ⟨fun _ => by simp [hG6, hG2], ?_⟩
  (refine d_go ?_; simp [hG6, hG2]; (repeat refine ca ?_); (try ((try with_reducible refine ⟨?_, ?_⟩) <;> (try with_reducible intro hnil) <;> refine hJ _ _ ?_ <;> clear hJ J <;> simp only [ak, reduceIte] <;> try subst hnil)))
  refine dcallK_ofE (ref_Same (ordA g) (ordA g) 0 0 _ (by unfold small; omega)) (by simp [ordA]) ?_; rintro r s7 ⟨rfl, rfl⟩
  refine ⟨fun _ => by simp [hG6, hG2], ?_⟩
  (refine d_go ?_; simp [hG6, hG2]; (repeat refine ca ?_); (try ((try with_reducible refine ⟨?_, ?_⟩) <;> (try with_reducible intro hnil) <;> refine hJ _ _ ?_ <;> clear hJ J <;> simp only [ak, reduceIte] <;> try subst hnil)))
  refine dcallK_ofE (Color g _ hF) (by simp) ?_; rintro r s8 ⟨M2, rfl, p1, p2, hP, hk8⟩
  have hn8 := hk8.next
  have hG8 := (hk8.H st.next (by omega)).trans hG6
  refine ⟨fun _ => by simp [hG8, hG2], ?_⟩
  (refine d_go ?_; simp [hG8, hG2]; (repeat refine ca ?_); (try ((try with_reducible refine ⟨?_, ?_⟩) <;> (try with_reducible intro hnil) <;> refine hJ _ _ ?_ <;> clear hJ J <;> simp only [ak, reduceIte] <;> try subst hnil)))
  refine dcallK_ofE (ref_Greedy g (ordA g) 0 _ hF (by omega)) (by simp) ?_; rintro r s9 ⟨rfl, hk9⟩
  have hn9 := hk9.next
  have hG9 := (hk9.H st.next (by omega)).trans hG8
  have hM9 := (hk9.H M2 p2).trans hP
  refine ⟨fun _ => by simp [hG9, hG2], ?_⟩
  (refine d_go ?_; simp [hG9, hG2]; (repeat refine ca ?_); (try ((try with_reducible refine ⟨?_, ?_⟩) <;> (try with_reducible intro hnil) <;> refine hJ _ _ ?_ <;> clear hJ J <;> simp only [ak, reduceIte] <;> try subst hnil)))
  refine dcallK_ofE (same34 g M2 0 (colA g (ordA g)) s9 (by omega) hM9 (colA_len g hnd _) (by omega)) (by simp [is]) ?_; rintro r sa ⟨rfl, hka⟩
  have hGa := (hka.H st.next (by omega)).trans hG9
  refine ⟨fun _ => by simp [hGa, hG2], ?_⟩
  (refine d_go ?_; simp [hGa, hG2]; (repeat refine ca ?_); (try ((try with_reducible refine ⟨?_, ?_⟩) <;> (try with_reducible intro hnil) <;> refine hJ _ _ ?_ <;> clear hJ J <;> simp only [ak, reduceIte] <;> try subst hnil)))
  (repeat' (first | refine awp_seq ?_ | refine awp_block ?_ | ((first | refine awp_skip ?_ | refine awp_exit ?_); simp only [ak, reduceIte]) | (refine awp_ret ?_; simp only [ak, reduceIte]; simp []) | (refine awp_cond ?_; simp []; (try with_reducible refine ⟨?_, ?_⟩) <;> (try with_reducible intro hc) <;> try (exfalso; omega)) | ((first | (refine w_e [] ?_; intro J hJ; simp only []) | (refine w_q ?_; intro J hJ) | refine e_go ?_); simp []; (repeat refine ca ?_); (try ((try with_reducible refine ⟨?_, ?_⟩) <;> (try with_reducible intro hnil) <;> refine hJ _ _ ?_ <;> clear hJ J <;> simp only [ak, reduceIte] <;> try subst hnil)))))

theorem ColorTells_shp (l0 l1 : List LV) (st : St) (h0 : Shp tab 38 l0) (h1 : Shp tab 35 l1) :
    ACalls Tryz.prog 10 [argT tab 38 l0, argT tab 35 l1] st fun r st' => r = bb true := by
  obtain ⟨g, rfl, _⟩ := shp_gr h0
  obtain ⟨vl, rfl, _⟩ := shp_us h1
  exact ColorTells g vl st

end Go.Proofs.YtomfeddgeihipaaGreat.Aw
