/- Maps, the document's: Turn, twin, Face. Maps, the document's: Face. Maps, the document's: Faces. The dual, the document's: faces' numbers, bridges. The dual as a map. The dual as a map, the document's. Maps: whether one may be, as the program says it. -/
import Derived.Test.YtphdhggoaijfoaaGreatJf
import Derived.Test.YtphdhggoaijfoaaGreatAwZ
namespace Go.Proofs.YtphdhggoaijfoaaGreat.Aw
open Go Go.RowKit Go.Proofs.YtphdhggoaijfoaaGreat.Pl Go.Proofs.YtphdhggoaijfoaaGreat.Eu
set_option linter.unusedSimpArgs false
set_option linter.unusedVariables false

theorem ref_Turn (m : Mp) (d : Int) (st : St) (hr : m.rots.length ≤ 1000) (hs : ∀ t ∈ m.rots, small t) :
    ACalls Tryz.prog 16 [.ag (mpL m), u d] st fun r st' => r = i (tix m.rots d) ∧ Keeps st st' := by
  refine acalls_of_body tabOk Tryz.func16 rfl rfl Tryz.ntmps16 (rs := [.tmp 4]) rfl (by simp) ?_
  (repeat' (first | refine awp_seq ?_ | refine awp_block ?_ | ((first | refine awp_skip ?_ | refine awp_exit ?_); simp only [ak, reduceIte]) | (refine awp_ret ?_; simp only [ak, reduceIte]; simp []) | (refine awp_cond ?_; simp []; (try with_reducible refine ⟨?_, ?_⟩) <;> (try with_reducible intro hc) <;> try (exfalso; omega)) | ((first | (refine w_e [] ?_; intro J hJ; simp only []) | (refine w_q ?_; intro J hJ) | refine e_go ?_); simp []; (repeat refine ca ?_); (try ((try with_reducible refine ⟨?_, ?_⟩) <;> (try with_reducible intro hnil) <;> refine hJ _ _ ?_ <;> clear hJ J <;> simp only [ak, reduceIte] <;> try subst hnil)))))
  refine awp_range 9 8 10 21 (m.rots.length) (fun j fr st2 => fr 1 = u d ∧ fr 2 = .pt st.next 0 ∧ st2.H st.next = .box 28 3 (mpL m) ∧ Keeps st st2 ∧ ∀ k, k < j → d ∉ m.rots.getD k []) ?_ ?_ ?_
  · exact ⟨by simp, by simp, by simp, Keeps.new _ _, fun k hk => by omega⟩
  · rintro j fr st2 hlt ⟨f1, f2, hG, hkp, hno⟩ fi fn JJ hJJ
    have hd := rowsL_drop m.rots j hlt
    have hRl : j < (rowsL m.rots).length := by simpa using hlt
    have htin : m.rots.getD j [] ∈ m.rots := by rw [getR_lt _ _ hlt]; exact List.getElem_mem _
    have hsm := hs _ htin
    have hso := fun h => tix_some (d := d) hlt h hno
    have hnn : d ∉ m.rots.getD j [] → ∀ k, k < j + 1 → d ∉ m.rots.getD k [] := fun h k hk => by
      rcases Nat.lt_or_ge k j with h1 | h1
      · exact hno k h1
      · obtain rfl : k = j := by omega
        exact h
    generalize m.rots.getD j [] = t at *
    (repeat' (first | refine awp_seq ?_ | refine awp_block ?_ | ((first | refine awp_skip ?_ | refine awp_exit ?_); simp only [ak, reduceIte]) | (refine awp_ret ?_; simp only [ak, reduceIte]; simp [f1, f2, hG, fi, fn, hd, hRl, hlt]) | (refine awp_cond ?_; simp [f1, f2, hG, fi, fn, hd, hRl, hlt]; (try with_reducible refine ⟨?_, ?_⟩) <;> (try with_reducible intro hc) <;> try (exfalso; omega)) | ((first | (refine w_e [] ?_; intro J hJ; simp only []) | (refine w_q ?_; intro J hJ) | refine e_go ?_); simp [f1, f2, hG, fi, fn, hd, hRl, hlt]; (repeat refine ca ?_); (try ((try with_reducible refine ⟨?_, ?_⟩) <;> (try with_reducible intro hnil) <;> refine hJ _ _ ?_ <;> clear hJ J <;> simp only [ak, reduceIte] <;> try subst hnil)))))
    refine callK_ofE (Find t 0 d _ hsm) (by simp) ?_; rintro r s3 ⟨rfl, rfl⟩
    by_cases hdt : d ∈ t
    · have hr := hso hdt
      have hg := gi_mem hdt
      (repeat' (first | refine awp_seq ?_ | refine awp_block ?_ | ((first | refine awp_skip ?_ | refine awp_exit ?_); simp only [ak, reduceIte]) | (refine awp_ret ?_; simp only [ak, reduceIte]; simp [hg, hr]) | (refine awp_cond ?_; simp [hg, hr]; (try with_reducible refine ⟨?_, ?_⟩) <;> (try with_reducible intro hc) <;> try (exfalso; omega)) | ((first | (refine w_e [] ?_; intro J hJ; simp only []) | (refine w_q ?_; intro J hJ) | refine e_go ?_); simp [hg, hr]; (repeat refine ca ?_); (try ((try with_reducible refine ⟨?_, ?_⟩) <;> (try with_reducible intro hnil) <;> refine hJ _ _ ?_ <;> clear hJ J <;> simp only [ak, reduceIte] <;> try subst hnil)))))
      exact hkp
    · have hg := gi_not hdt
      (repeat' (first | refine awp_seq ?_ | refine awp_block ?_ | ((first | refine awp_skip ?_ | refine awp_exit ?_); simp only [ak, reduceIte]) | (refine awp_ret ?_; simp only [ak, reduceIte]; simp [hg]) | (refine awp_cond ?_; simp [hg]; (try with_reducible refine ⟨?_, ?_⟩) <;> (try with_reducible intro hc) <;> try (exfalso; omega)) | ((first | (refine w_e [] ?_; intro J hJ; simp only []) | (refine w_q ?_; intro J hJ) | refine e_go ?_); simp [hg]; (repeat refine ca ?_); (try ((try with_reducible refine ⟨?_, ?_⟩) <;> (try with_reducible intro hnil) <;> refine hJ _ _ ?_ <;> clear hJ J <;> simp only [ak, reduceIte] <;> try subst hnil)))))
      exact hJJ _ _ (by simp [fi]) (by simp [fn]) ⟨by simp [f1], by simp [f2], hG, hkp, hnn hdt⟩
  · rintro fr st2 ⟨f1, f2, hG, hkp, hno⟩
    have hr := tix_none hno
    (repeat' (first | refine awp_seq ?_ | refine awp_block ?_ | ((first | refine awp_skip ?_ | refine awp_exit ?_); simp only [ak, reduceIte]) | (refine awp_ret ?_; simp only [ak, reduceIte]; simp [hr]) | (refine awp_cond ?_; simp [hr]; (try with_reducible refine ⟨?_, ?_⟩) <;> (try with_reducible intro hc) <;> try (exfalso; omega)) | ((first | (refine w_e [] ?_; intro J hJ; simp only []) | (refine w_q ?_; intro J hJ) | refine e_go ?_); simp [hr]; (repeat refine ca ?_); (try ((try with_reducible refine ⟨?_, ?_⟩) <;> (try with_reducible intro hnil) <;> refine hJ _ _ ?_ <;> clear hJ J <;> simp only [ak, reduceIte] <;> try subst hnil)))))
    exact hkp

theorem ref_twin (d : Int) (st : St) (h0 : 0 ≤ d) (h1 : d < 4294967295) : ACalls Tryz.prog 52 [u d] st fun r st' => r = u (tw d) ∧ st' = st := by
  have hm : d.tmod 2 = d % 2 := Int.tmod_eq_emod_of_nonneg h0
  by_cases hp : d % 2 = 0
  · have ht : tw d = d + 1 := by unfold tw; rw [if_pos hp]
    have hw : IntKind.u32.wrap (d + 1) = d + 1 := wrap_u32' _ (by omega) (by omega)
    refine acalls_of_body tabOk Tryz.func52 rfl rfl Tryz.ntmps52 (rs := [.tmp 2]) rfl (by simp) ?_
    (repeat' (first | refine awp_seq ?_ | refine awp_block ?_ | ((first | refine awp_skip ?_ | refine awp_exit ?_); simp only [ak, reduceIte]) | (refine awp_ret ?_; simp only [ak, reduceIte]; simp [hm, hp, ht, hw]) | (refine awp_cond ?_; simp [hm, hp, ht, hw]; (try with_reducible refine ⟨?_, ?_⟩) <;> (try with_reducible intro hc) <;> try (exfalso; omega)) | ((first | (refine w_e [] ?_; intro J hJ; simp only []) | (refine w_q ?_; intro J hJ) | refine e_go ?_); simp [hm, hp, ht, hw]; (repeat refine ca ?_); (try ((try with_reducible refine ⟨?_, ?_⟩) <;> (try with_reducible intro hnil) <;> refine hJ _ _ ?_ <;> clear hJ J <;> simp only [ak, reduceIte] <;> try subst hnil)))))
  · have ht : tw d = d - 1 := by unfold tw; rw [if_neg hp]
    have hw : IntKind.u32.wrap (d - 1) = d - 1 := wrap_u32' _ (by omega) (by omega)
    refine acalls_of_body tabOk Tryz.func52 rfl rfl Tryz.ntmps52 (rs := [.tmp 2]) rfl (by simp) ?_
    (repeat' (first | refine awp_seq ?_ | refine awp_block ?_ | ((first | refine awp_skip ?_ | refine awp_exit ?_); simp only [ak, reduceIte]) | (refine awp_ret ?_; simp only [ak, reduceIte]; simp [hm, hp, ht, hw]) | (refine awp_cond ?_; simp [hm, hp, ht, hw]; (try with_reducible refine ⟨?_, ?_⟩) <;> (try with_reducible intro hc) <;> try (exfalso; omega)) | ((first | (refine w_e [] ?_; intro J hJ; simp only []) | (refine w_q ?_; intro J hJ) | refine e_go ?_); simp [hm, hp, ht, hw]; (repeat refine ca ?_); (try ((try with_reducible refine ⟨?_, ?_⟩) <;> (try with_reducible intro hnil) <;> refine hJ _ _ ?_ <;> clear hJ J <;> simp only [ak, reduceIte] <;> try subst hnil)))))

end Go.Proofs.YtphdhggoaijfoaaGreat.Aw

namespace Go.Proofs.YtphdhggoaijfoaaGreat.Aw
open Go Go.RowKit Go.Proofs.YtphdhggoaijfoaaGreat.Pl Go.Proofs.YtphdhggoaijfoaaGreat.Eu
set_option linter.unusedSimpArgs false
set_option linter.unusedVariables false

/-- The darts of the face of one, told normally. -/
def IsFace (m : Mp) (d : Int) (c : List Int) : Prop := (d ∈ darts m.g.es ∧ ∃ L, IsCyc (fc m m.g.es) d L ∧ c = nrm L) ∨ (d ∉ darts m.g.es ∧ c = [])
def FaceP (m : Mp) (d : Int) (st : St) (r : LV) (st' : St) : Prop := (∃ c, r = .sl 0 c.length (us c) ∧ IsFace m d c) ∧ Keeps st st'

theorem ref_Face (m : Mp) (h : MapOk m) (d : Int) (st : St) (hv : m.g.vs.length ≤ 1000) (he : m.g.es.length ≤ 1000) :
    ACalls Tryz.prog 19 [.ag (mpL m), u d] st (FaceP m d st) := by
  have hsm : ∀ t ∈ m.rots, small t := fun t ht => by have := h.row_le ht; unfold small; omega
  have hrl := h.len
  refine acalls_norm ?_
  by_cases hd : d ∈ darts m.g.es
  rotate_left
  · have ht := tix_out (rs := m.rots) fun t ht hdt => hd (h.turn_dart ht hdt)
    refine acalls_of_body tabOk Tryz.func19 rfl rfl Tryz.ntmps19 (rs := [.tmp 4]) rfl (by simp) ?_
    (repeat' (first | refine awp_seq ?_ | refine awp_block ?_ | ((first | refine awp_skip ?_ | refine awp_exit ?_); simp only [ak, reduceIte]) | (refine awp_ret ?_; simp only [ak, reduceIte]; simp []) | (refine awp_cond ?_; simp []; (try with_reducible refine ⟨?_, ?_⟩) <;> (try with_reducible intro hc) <;> try (exfalso; omega)) | ((first | (refine w_e [] ?_; intro J hJ; simp only []) | (refine w_q ?_; intro J hJ) | refine e_go ?_); simp []; (repeat refine ca ?_); (try ((try with_reducible refine ⟨?_, ?_⟩) <;> (try with_reducible intro hnil) <;> refine hJ _ _ ?_ <;> clear hJ J <;> simp only [ak, reduceIte] <;> try subst hnil)))))
    refine callK_ofE (ref_Turn m d _ (by omega) hsm) (by simp) ?_; rintro r s1 ⟨rfl, hk1⟩
    (repeat' (first | refine awp_seq ?_ | refine awp_block ?_ | ((first | refine awp_skip ?_ | refine awp_exit ?_); simp only [ak, reduceIte]) | (refine awp_ret ?_; simp only [ak, reduceIte]; simp [ht]) | (refine awp_cond ?_; simp [ht]; (try with_reducible refine ⟨?_, ?_⟩) <;> (try with_reducible intro hc) <;> try (exfalso; omega)) | ((first | (refine w_e [] ?_; intro J hJ; simp only []) | (refine w_q ?_; intro J hJ) | refine e_go ?_); simp [ht]; (repeat refine ca ?_); (try ((try with_reducible refine ⟨?_, ?_⟩) <;> (try with_reducible intro hnil) <;> refine hJ _ _ ?_ <;> clear hJ J <;> simp only [ak, reduceIte] <;> try subst hnil)))))
    exact ⟨⟨[], rfl, .inr ⟨hd, rfl⟩⟩, (Keeps.new _ _).trans hk1⟩
  have hP := h.fc_per m.g.es (fun x hx => hx)
  obtain ⟨L, p, hp, hL, hp1, hp2⟩ := isCyc_ex hP d
  have hcyc : IsCyc (fc m m.g.es) d L := ⟨p, hp, hL, hp1, hp2⟩
  have hL' : L = itL (fc m m.g.es) d p := hL
  have hdk : ∀ k, it (fc m m.g.es) k d ∈ darts m.g.es := by
    intro k
    induction k with
    | zero => exact hd
    | succ k ih => rw [it_succ]; exact h.fc_dart _ _ ih
  have hpl : p ≤ 2 * m.g.es.length := by
    have := (h.cyc_le hd hcyc).2
    rwa [hL', itL_len] at this
  obtain ⟨k0, hk0, ht0, _⟩ := tix_in (h.turn_of hd)
  have hfx : ∀ x, x ∈ darts m.g.es → fc m m.g.es x = sg m (tw x) := fun x hx => by unfold fc; rw [al_in hx]
  refine acalls_of_body tabOk Tryz.func19 rfl rfl Tryz.ntmps19 (rs := [.tmp 4]) rfl (by simp) ?_
  (repeat' (first | refine awp_seq ?_ | refine awp_block ?_ | ((first | refine awp_skip ?_ | refine awp_exit ?_); simp only [ak, reduceIte]) | (refine awp_ret ?_; simp only [ak, reduceIte]; simp []) | (refine awp_cond ?_; simp []; (try with_reducible refine ⟨?_, ?_⟩) <;> (try with_reducible intro hc) <;> try (exfalso; omega)) | ((first | (refine w_e [] ?_; intro J hJ; simp only []) | (refine w_q ?_; intro J hJ) | refine e_go ?_); simp []; (repeat refine ca ?_); (try ((try with_reducible refine ⟨?_, ?_⟩) <;> (try with_reducible intro hnil) <;> refine hJ _ _ ?_ <;> clear hJ J <;> simp only [ak, reduceIte] <;> try subst hnil)))))
  refine callK_ofE (ref_Turn m d _ (by omega) hsm) (by simp) ?_; rintro r s1 ⟨rfl, hk1⟩
  have hn1 := hk1.next
  simp only [new_next] at hn1
  have hG1 : s1.H st.next = .box 28 3 (mpL m) := by rw [hk1.H _ (by simp)]; simp
  (repeat' (first | refine awp_seq ?_ | refine awp_block ?_ | ((first | refine awp_skip ?_ | refine awp_exit ?_); simp only [ak, reduceIte]) | (refine awp_ret ?_; simp only [ak, reduceIte]; simp [ht0]) | (refine awp_cond ?_; simp [ht0]; (try with_reducible refine ⟨?_, ?_⟩) <;> (try with_reducible intro hc) <;> try (exfalso; omega)) | ((first | (refine w_e [] ?_; intro J hJ; simp only []) | (refine w_q ?_; intro J hJ) | refine e_go ?_); simp [ht0]; (repeat refine ca ?_); (try ((try with_reducible refine ⟨?_, ?_⟩) <;> (try with_reducible intro hnil) <;> refine hJ _ _ ?_ <;> clear hJ J <;> simp only [ak, reduceIte] <;> try subst hnil)))))
  refine awp_posG fun hpos => ?_
  refine awp_own 5 29 1 (by simp) ?_
  generalize hf : fc m m.g.es = f at *
  refine awp_loop (fun n fr st2 => ∃ k : Nat, k < p ∧ n = p - k ∧ fr 1 = u d ∧ fr 2 = .pt st.next 0 ∧ fr 6 = u (it f k d) ∧ st2.H st.next = .box 28 3 (mpL m) ∧ ∃ t, fr 5 = .sl t k (us (itL f d k)) ∧ (t ≠ 0 ∧ st.next < t ∧ t < st2.next) ∧ st2.H t = .own 29 1 k ∧ Keeps st st2) p ?_ ?_
  · exact ⟨0, by omega, by omega, by simp, by simp, by simp [it], by simp [show ¬ st.next = s1.next by omega, hG1], s1.next, by simp [itL], ⟨by omega, by omega, by simp⟩, by simp, ((Keeps.new _ _).trans hk1).trans (Keeps.new _ _)⟩
  rintro n fr st2 ⟨k, hk, rfl, f1, f2, f6, hG, t, f5, ⟨t0, t1, t2⟩, htH, hkp⟩ JJ hJJ
  have hn2 := hkp.next
  have hxd := hdk k
  have hx1 := dart_range h hxd
  obtain ⟨kt, hkt, htx, hmem⟩ := tix_in (h.turn_of (tw_dart.2 hxd))
  have hdr := rowsL_drop m.rots kt hkt
  have hRl : kt < (rowsL m.rots).length := by simpa using hkt
  have htin : m.rots.getD kt [] ∈ m.rots := by rw [getR_lt _ _ hkt]; exact List.getElem_mem _
  have hsmt := hsm _ htin
  have hnx : nx (m.rots.getD kt []) (tw (it f k d)) = it f (k + 1) d := by rw [it_succ, hfx _ hxd, sg_at h htin hmem]
  have hLn := itL_succ f d k
  have hLl := itL_len f d k
  have hstop : it f (k + 1) d = d → k + 1 = p := fun e => by
    rcases Nat.lt_or_ge (k + 1) p with h1 | h1
    · exact absurd e (hp2 _ (by omega) h1)
    · omega
  have hgo : ¬ it f (k + 1) d = d → k + 1 < p := fun e => by
    rcases Nat.lt_or_ge (k + 1) p with h1 | h1
    · exact h1
    · exact absurd (by rw [show k + 1 = p by omega]; exact hp1) e
  generalize itL f d k = Lk at *
  generalize m.rots.getD kt [] = tt at *
  generalize hxe : it f k d = x at *
  generalize hye : it f (k + 1) d = y at *
  have m1 : ¬ t = st2.next := by omega
  have m2 : ¬ st.next = st2.next := by omega
  have m3 : ¬ st.next = st2.next + 1 := by omega
  have m4 : ¬ st.next = t := by omega
  (repeat' (first | refine awp_seq ?_ | refine awp_block ?_ | ((first | refine awp_skip ?_ | refine awp_exit ?_); simp only [ak, reduceIte]) | (refine awp_ret ?_; simp only [ak, reduceIte]; simp [f1, f2, f5, f6, htH, t0, m1, hLl]) | (refine awp_cond ?_; simp [f1, f2, f5, f6, htH, t0, m1, hLl]; (try with_reducible refine ⟨?_, ?_⟩) <;> (try with_reducible intro hc) <;> try (exfalso; omega)) | ((first | (refine w_e [] ?_; intro J hJ; simp only []) | (refine w_q ?_; intro J hJ) | refine e_go ?_); simp [f1, f2, f5, f6, htH, t0, m1, hLl]; (repeat refine ca ?_); (try ((try with_reducible refine ⟨?_, ?_⟩) <;> (try with_reducible intro hnil) <;> refine hJ _ _ ?_ <;> clear hJ J <;> simp only [ak, reduceIte] <;> try subst hnil)))))
  refine callK_ofE (ref_twin x _ (by omega) (by omega)) (by simp) ?_; rintro r s3 ⟨rfl, rfl⟩
  (repeat' (first | refine awp_seq ?_ | refine awp_block ?_ | ((first | refine awp_skip ?_ | refine awp_exit ?_); simp only [ak, reduceIte]) | (refine awp_ret ?_; simp only [ak, reduceIte]; simp []) | (refine awp_cond ?_; simp []; (try with_reducible refine ⟨?_, ?_⟩) <;> (try with_reducible intro hc) <;> try (exfalso; omega)) | ((first | (refine w_e [] ?_; intro J hJ; simp only []) | (refine w_q ?_; intro J hJ) | refine e_go ?_); simp []; (repeat refine ca ?_); (try ((try with_reducible refine ⟨?_, ?_⟩) <;> (try with_reducible intro hnil) <;> refine hJ _ _ ?_ <;> clear hJ J <;> simp only [ak, reduceIte] <;> try subst hnil)))))
  (refine w_s [] [st.next] [(0, true), (1, true), (2, true), (3, true), (7, true), (4, true), (5, true), (6, true), (8, true), (9, true)] ?_; intro J hJ; simp [f2, hG, m2, m3, m4]; (repeat refine ca ?_); (try ((try with_reducible refine ⟨?_, ?_⟩) <;> (try with_reducible intro hnil) <;> refine hJ _ _ ?_ <;> clear hJ J <;> simp only [ak, reduceIte] <;> try subst hnil)))
  refine dcallK_ofE (ref_Turn m (tw x) _ (by omega) hsm) (by simp) ?_; rintro r s4 ⟨rfl, hk4⟩
  have hn4 := hk4.next
  have hG4 := hk4.H st.next (by simp; omega)
  simp [m2, m3, m4, hG] at hG4
  refine ⟨fun _ => by simp [m2, m3, m4, hG, hG4], ?_⟩
  rw [htx]
  (refine d_go ?_; simp [f2, hG4, hdr, hkt, hRl, m2, m3, m4, hG]; (repeat refine ca ?_); (try ((try with_reducible refine ⟨?_, ?_⟩) <;> (try with_reducible intro hnil) <;> refine hJ _ _ ?_ <;> clear hJ J <;> simp only [ak, reduceIte] <;> try subst hnil)))
  refine dcallK_ofE (ref_Next tt 0 (tw x) _ hsmt) rfl ?_; rintro r s5 ⟨rfl, rfl⟩
  rw [hnx]
  refine ⟨fun _ => by simp [m2, m3, m4, hG, hG4], ?_⟩
  (refine d_go ?_; simp [hG4, m2, m3, m4, hG]; (repeat refine ca ?_); (try ((try with_reducible refine ⟨?_, ?_⟩) <;> (try with_reducible intro hnil) <;> refine hJ _ _ ?_ <;> clear hJ J <;> simp only [ak, reduceIte] <;> try subst hnil)))
  have hkp4 : Keeps st s5 := (((hkp.trans (Keeps.new _ _)).set (by omega) _).trans (Keeps.new _ _)).trans hk4
  have htH4 := hk4.H (st2.next + 1) (by simp)
  simp at htH4 hn4
  by_cases hyd : y = d
  · have hkp1 := hstop hyd
    (repeat' (first | refine awp_seq ?_ | refine awp_block ?_ | ((first | refine awp_skip ?_ | refine awp_exit ?_); simp only [ak, reduceIte]) | (refine awp_ret ?_; simp only [ak, reduceIte]; simp [hyd, f1]) | (refine awp_cond ?_; simp [hyd, f1]; (try with_reducible refine ⟨?_, ?_⟩) <;> (try with_reducible intro hc) <;> try (exfalso; omega)) | ((first | (refine w_e [] ?_; intro J hJ; simp only []) | (refine w_q ?_; intro J hJ) | refine e_go ?_); simp [hyd, f1]; (repeat refine ca ?_); (try ((try with_reducible refine ⟨?_, ?_⟩) <;> (try with_reducible intro hnil) <;> refine hJ _ _ ?_ <;> clear hJ J <;> simp only [ak, reduceIte] <;> try subst hnil)))))
    refine callK_ofE (ref_Normal L (st2.next + 1) _ (by rw [hL', small, itL_len]; omega)) ?_ ?_
    · rw [hL', ← hkp1, hLn]
      simp [hLl]
    rintro r s6 ⟨rfl, hk6⟩
    (repeat' (first | refine awp_seq ?_ | refine awp_block ?_ | ((first | refine awp_skip ?_ | refine awp_exit ?_); simp only [ak, reduceIte]) | (refine awp_ret ?_; simp only [ak, reduceIte]; simp []) | (refine awp_cond ?_; simp []; (try with_reducible refine ⟨?_, ?_⟩) <;> (try with_reducible intro hc) <;> try (exfalso; omega)) | ((first | (refine w_e [] ?_; intro J hJ; simp only []) | (refine w_q ?_; intro J hJ) | refine e_go ?_); simp []; (repeat refine ca ?_); (try ((try with_reducible refine ⟨?_, ?_⟩) <;> (try with_reducible intro hnil) <;> refine hJ _ _ ?_ <;> clear hJ J <;> simp only [ak, reduceIte] <;> try subst hnil)))))
    exact ⟨⟨nrm L, by rw [nrm_length], .inl ⟨hd, L, by rw [hf]; exact hcyc, rfl⟩⟩, hkp4.trans hk6⟩
  · have hkp1 := hgo hyd
    (repeat' (first | refine awp_seq ?_ | refine awp_block ?_ | ((first | refine awp_skip ?_ | refine awp_exit ?_); simp only [ak, reduceIte]) | (refine awp_ret ?_; simp only [ak, reduceIte]; simp [hyd, f1]) | (refine awp_cond ?_; simp [hyd, f1]; (try with_reducible refine ⟨?_, ?_⟩) <;> (try with_reducible intro hc) <;> try (exfalso; omega)) | ((first | (refine w_e [] ?_; intro J hJ; simp only []) | (refine w_q ?_; intro J hJ) | refine e_go ?_); simp [hyd, f1]; (repeat refine ca ?_); (try ((try with_reducible refine ⟨?_, ?_⟩) <;> (try with_reducible intro hnil) <;> refine hJ _ _ ?_ <;> clear hJ J <;> simp only [ak, reduceIte] <;> try subst hnil)))))
    refine hJJ (p - (k + 1)) _ _ (by omega) ⟨k + 1, hkp1, rfl, by simp [f1], by simp [f2], by simp [hye], hG4, st2.next + 1, by simp [hLn], ⟨by omega, by omega, by omega⟩, htH4, hkp4⟩

end Go.Proofs.YtphdhggoaijfoaaGreat.Aw

namespace Go.Proofs.YtphdhggoaijfoaaGreat.Aw
open Go Go.RowKit Go.Proofs.YtphdhggoaijfoaaGreat.Pl Go.Proofs.YtphdhggoaijfoaaGreat.Eu
set_option linter.unusedSimpArgs false
set_option linter.unusedVariables false

structure RfI (m : Mp) (st : St) (K : Nat) (fr : Frm) (st2 : St) : Prop where
  f1 : fr 1 = .pt st.next 0
  hG : st2.H st.next = .box 28 3 (mpL m)
  kp : Keeps st st2
  lt : st.next < st2.next
  rows : ∃ t R, fr 3 = .sl t R.length (rowsL3 R) ∧ Lead (fc m m.g.es) (darts m.g.es) K R ∧ (t ≠ 0 ∧ st.next < t ∧ t < st2.next) ∧ st2.H t = .own 22 1 R.length
theorem RfI.fr {m : Mp} {st : St} {K : Nat} {fr fr' : Frm} {st2 st3 : St} (h : RfI m st K fr st2) (h3 : fr' 3 = fr 3) (h1 : fr' 1 = fr 1) (hk : Keeps st2 st3) : RfI m st K fr' st3 := by
  obtain ⟨f1, hG, kp, lt, t, R, f3, hL, ⟨t0, t1, t2⟩, hH⟩ := h
  have := hk.next
  exact ⟨h1.trans f1, (hk.H _ lt).trans hG, kp.trans hk, by omega, t, R, h3.trans f3, hL, ⟨t0, t1, by omega⟩, (hk.H _ t2).trans hH⟩

theorem ref_Faces (m : Mp) (h : MapOk m) (st : St) (hv : m.g.vs.length ≤ 1000) (he : m.g.es.length ≤ 1000) :
    ACalls Tryz.prog 12 [.ag (mpL m)] st (FacesP m st) := by
  have hel := eds_length m.g.es
  have hdl := darts_length m.g.es
  have hP := h.fc_per m.g.es (fun x hx => hx)
  refine acalls_of_body tabOk Tryz.func12 rfl rfl Tryz.ntmps12 (rs := [.tmp 2]) rfl (by simp) ?_
  (repeat' (first | refine awp_seq ?_ | refine awp_block ?_ | ((first | refine awp_skip ?_ | refine awp_exit ?_); simp only [ak, reduceIte]) | (refine awp_ret ?_; simp only [ak, reduceIte]; simp []) | (refine awp_cond ?_; simp []; (try with_reducible refine ⟨?_, ?_⟩) <;> (try with_reducible intro hc) <;> try (exfalso; omega)) | ((first | (refine w_e [] ?_; intro J hJ; simp only []) | (refine w_q ?_; intro J hJ) | refine e_go ?_); simp []; (repeat refine ca ?_); (try ((try with_reducible refine ⟨?_, ?_⟩) <;> (try with_reducible intro hnil) <;> refine hJ _ _ ?_ <;> clear hJ J <;> simp only [ak, reduceIte] <;> try subst hnil)))))
  refine awp_posG fun hpos => ?_
  refine awp_own 3 22 1 (by simp) ?_
  refine awp_range 12 11 13 39 (m.g.es.length) (fun j fr st2 => fr 10 = .sl 0 m.g.es.length (eds m.g.es) ∧ RfI m st (2 * j) fr st2) ?_ ?_ ?_
  · exact ⟨by simp, by simp, by simp, (Keeps.new _ _).trans (Keeps.new _ _), by simp; omega, st.next + 1, [], by simp, .zero, ⟨by omega, by omega, by simp⟩, by simp⟩
  · rintro j fr s2 hlt ⟨f10, hI⟩ fi fn JJ hJJ
    have hd := eds_drop m.g.es j hlt
    have hk3 : j * 3 < m.g.es.length * 3 := by omega
    have hxin : m.g.es.getD j ed0 ∈ m.g.es := by rw [getE_lt _ _ hlt]; exact List.getElem_mem _
    have hpos := h.g.pos _ hxin
    have hg := darts_get m.g.es j hlt
    generalize hx : m.g.es.getD j ed0 = x at *
    obtain ⟨id, a, b⟩ := x
    simp only at hpos hd hg
    have w1 : IntKind.u32.wrap (2 * id) = 2 * id := wrap_u32' _ (by omega) (by omega)
    have w2 : IntKind.u32.wrap (2 * id + 2) = 2 * id + 2 := wrap_u32' _ (by omega) (by omega)
    (repeat' (first | refine awp_seq ?_ | refine awp_block ?_ | ((first | refine awp_skip ?_ | refine awp_exit ?_); simp only [ak, reduceIte]) | (refine awp_ret ?_; simp only [ak, reduceIte]; simp [fi, fn, f10, hd, hel, hk3, w1, w2]) | (refine awp_cond ?_; simp [fi, fn, f10, hd, hel, hk3, w1, w2]; (try with_reducible refine ⟨?_, ?_⟩) <;> (try with_reducible intro hc) <;> try (exfalso; omega)) | ((first | (refine w_e [] ?_; intro J hJ; simp only []) | (refine w_q ?_; intro J hJ) | refine e_go ?_); simp [fi, fn, f10, hd, hel, hk3, w1, w2]; (repeat refine ca ?_); (try ((try with_reducible refine ⟨?_, ?_⟩) <;> (try with_reducible intro hnil) <;> refine hJ _ _ ?_ <;> clear hJ J <;> simp only [ak, reduceIte] <;> try subst hnil)))))
    refine awp_loop (fun n fr st2 => ∃ e : Nat, e ≤ 2 ∧ n = 2 - e ∧ fr 6 = u (2 * id + e) ∧ fr 5 = .pt s2.next 0 ∧ fr 10 = .sl 0 m.g.es.length (eds m.g.es) ∧ fr 12 = i j ∧ fr 11 = i m.g.es.length ∧ st2.H s2.next = .box 55 3 (edL ⟨id, a, b⟩) ∧ s2.next < st2.next ∧ RfI m st (2 * j + e) fr st2) 2 ?_ ?_
    · exact ⟨0, by omega, by omega, by simp, by simp, by simp [f10], by simp [fi], by simp [fn], by simp, by simp, hI.fr (by simp) (by simp) (Keeps.new _ _)⟩
    clear f10 fi fn hI fr
    rintro n fr st2 ⟨e, hle, rfl, f6, f5, f10, f12, f11, hX, hXl, hI⟩ J2 hJ2
    rcases Nat.lt_or_ge e 2 with he2 | he2
    rotate_left
    · clear hJ2
      obtain rfl : e = 2 := by omega
      (repeat' (first | refine awp_seq ?_ | refine awp_block ?_ | ((first | refine awp_skip ?_ | refine awp_exit ?_); simp only [ak, reduceIte]) | (refine awp_ret ?_; simp only [ak, reduceIte]; simp [f6, f5, hX, w1, w2]) | (refine awp_cond ?_; simp [f6, f5, hX, w1, w2]; (try with_reducible refine ⟨?_, ?_⟩) <;> (try with_reducible intro hc) <;> try (exfalso; omega)) | ((first | (refine w_e [] ?_; intro J hJ; simp only []) | (refine w_q ?_; intro J hJ) | refine e_go ?_); simp [f6, f5, hX, w1, w2]; (repeat refine ca ?_); (try ((try with_reducible refine ⟨?_, ?_⟩) <;> (try with_reducible intro hnil) <;> refine hJ _ _ ?_ <;> clear hJ J <;> simp only [ak, reduceIte] <;> try subst hnil)))))
      exact hJJ _ _ (by simp [f12]) (by simp [f11]) ⟨by simp [f10], hI.fr (by simp) (by simp) (Keeps.refl _)⟩
    clear hJJ
    have hK : 2 * j + e < (darts m.g.es).length := by omega
    have hKd : (darts m.g.es).getD (2 * j + e) 0 = 2 * id + e := by
      rcases Nat.lt_or_ge e 1 with h1 | h1
      · obtain rfl : e = 0 := by omega
        rw [Nat.add_zero, hg.1]; omega
      · obtain rfl : e = 1 := by omega
        rw [hg.2]; rfl
    have hdin : 2 * id + (e : Int) ∈ darts m.g.es := by rw [← hKd, getD_lt _ _ hK]; exact List.getElem_mem _
    have w3 : IntKind.u32.wrap (2 * id + e + 1) = 2 * id + ((e + 1 : Nat) : Int) := by rw [wrap_u32' _ (by omega) (by omega)]; omega
    have hcmp : 2 * id + (e : Int) < 2 * id + 2 := by omega
    obtain ⟨f1, hG, hkp, hlo, t, R, f3, hL, ⟨t0, t1, t2⟩, hH⟩ := hI
    have hRl := hL.len
    (repeat' (first | refine awp_seq ?_ | refine awp_block ?_ | ((first | refine awp_skip ?_ | refine awp_exit ?_); simp only [ak, reduceIte]) | (refine awp_ret ?_; simp only [ak, reduceIte]; simp [f6, f5, hX, w1, w2, f1, hG, hcmp]) | (refine awp_cond ?_; simp [f6, f5, hX, w1, w2, f1, hG, hcmp]; (try with_reducible refine ⟨?_, ?_⟩) <;> (try with_reducible intro hc) <;> try (exfalso; omega)) | ((first | (refine w_e [] ?_; intro J hJ; simp only []) | (refine w_q ?_; intro J hJ) | refine e_go ?_); simp [f6, f5, hX, w1, w2, f1, hG, hcmp]; (repeat refine ca ?_); (try ((try with_reducible refine ⟨?_, ?_⟩) <;> (try with_reducible intro hnil) <;> refine hJ _ _ ?_ <;> clear hJ J <;> simp only [ak, reduceIte] <;> try subst hnil)))))
    refine callK_ofE (ref_Face m h (2 * id + e) _ hv he) (by simp) ?_; rintro r s3 ⟨⟨c, rfl, hc⟩, hk3⟩
    rcases hc with ⟨_, L, hc, rfl⟩ | ⟨hno, _⟩
    rotate_left
    · exact absurd hdin hno
    have hcl := (h.cyc_le hdin hc).2
    obtain ⟨Lr, hLr⟩ := IsCyc.head hc
    obtain ⟨nr, hnr⟩ := nrm_head L hc.ne
    have hnl : (nrm L).length = L.length := nrm_length L
    have hc' := hc
    rw [← hKd] at hc'
    have hld := cyc_lead hP (darts_rise h.g.ids) (h.fc_dart _) hK hc'
    rw [hKd] at hld
    have hL0 : 0 < (nrm L).length := by rw [hnr]; simp
    have hn3 := hk3.next
    have gX := (hk3.H _ hXl).trans hX
    have gH := (hk3.H _ t2).trans hH
    have m1 : ¬ t = s3.next := by omega
    have m5 : ¬ s2.next = t := by rintro rfl; rw [hX] at hH; cases hH
    by_cases hs : SeenD (fc m m.g.es) (darts m.g.es) (2 * j + e) (2 * id + e)
    · have hmn : ¬ mn L = 2 * id + e := fun e1 => (hld.2 e1) hs
      have hL2 := Lead.seen hL hK (by rw [hKd]; exact hs)
      (repeat' (first | refine awp_seq ?_ | refine awp_block ?_ | ((first | refine awp_skip ?_ | refine awp_exit ?_); simp only [ak, reduceIte]) | (refine awp_ret ?_; simp only [ak, reduceIte]; simp [f6, hnr, hmn, hL0, w3]) | (refine awp_cond ?_; simp [f6, hnr, hmn, hL0, w3]; (try with_reducible refine ⟨?_, ?_⟩) <;> (try with_reducible intro hc) <;> try (exfalso; omega)) | ((first | (refine w_e [] ?_; intro J hJ; simp only []) | (refine w_q ?_; intro J hJ) | refine e_go ?_); simp [f6, hnr, hmn, hL0, w3]; (repeat refine ca ?_); (try ((try with_reducible refine ⟨?_, ?_⟩) <;> (try with_reducible intro hnil) <;> refine hJ _ _ ?_ <;> clear hJ J <;> simp only [ak, reduceIte] <;> try subst hnil)))))
      exact hJ2 (2 - (e + 1)) _ _ (by omega) ⟨e + 1, by omega, rfl, by simp, by simp [f5], by simp [f10], by simp [f12], by simp [f11], gX, by omega, by simp [f1], (hk3.H _ hlo).trans hG, hkp.trans hk3, by omega, t, R, by simp [f3], hL2, ⟨t0, t1, by omega⟩, gH⟩
    · have hmn := hld.1 hs
      have hnL : nrm L = L := nrm_of_head hLr hmn
      have hL2 := Lead.lead hL hK (by rw [hKd]; exact hs) hc'
      rw [hnL]
      subst hLr
      (repeat' (first | refine awp_seq ?_ | refine awp_block ?_ | ((first | refine awp_skip ?_ | refine awp_exit ?_); simp only [ak, reduceIte]) | (refine awp_ret ?_; simp only [ak, reduceIte]; simp [f6, w3, f3, gH, t0, m1]) | (refine awp_cond ?_; simp [f6, w3, f3, gH, t0, m1]; (try with_reducible refine ⟨?_, ?_⟩) <;> (try with_reducible intro hc) <;> try (exfalso; omega)) | ((first | (refine w_e [] ?_; intro J hJ; simp only []) | (refine w_q ?_; intro J hJ) | refine e_go ?_); simp [f6, w3, f3, gH, t0, m1]; (repeat refine ca ?_); (try ((try with_reducible refine ⟨?_, ?_⟩) <;> (try with_reducible intro hnil) <;> refine hJ _ _ ?_ <;> clear hJ J <;> simp only [ak, reduceIte] <;> try subst hnil)))))
      exact hJ2 (2 - (e + 1)) _ _ (by omega) ⟨e + 1, by omega, rfl, by simp, by simp [f5], by simp [f10], by simp [f12], by simp [f11], by rw [new_H, if_neg (by simp only [set_next, new_next]; omega), set_H, if_neg m5, new_H, if_neg (by omega)]; exact gX, by simp; omega, by simp [f1], by rw [new_H, if_neg (by simp only [set_next, new_next]; omega), set_H, if_neg (by omega), new_H, if_neg (by omega)]; exact (hk3.H _ hlo).trans hG, (((hkp.trans hk3).trans (Keeps.new _ _)).set (by omega) _).trans (Keeps.new _ _), by simp; omega, s3.next + 1, R ++ [(2 * id + e) :: Lr], by simp, hL2, ⟨by omega, by omega, by simp⟩, by simp⟩
  · rintro fr st2 ⟨f10, hI⟩
    obtain ⟨t, R, f3, hL, _⟩ := hI.rows
    (repeat' (first | refine awp_seq ?_ | refine awp_block ?_ | ((first | refine awp_skip ?_ | refine awp_exit ?_); simp only [ak, reduceIte]) | (refine awp_ret ?_; simp only [ak, reduceIte]; simp [f3]) | (refine awp_cond ?_; simp [f3]; (try with_reducible refine ⟨?_, ?_⟩) <;> (try with_reducible intro hc) <;> try (exfalso; omega)) | ((first | (refine w_e [] ?_; intro J hJ; simp only []) | (refine w_q ?_; intro J hJ) | refine e_go ?_); simp [f3]; (repeat refine ca ?_); (try ((try with_reducible refine ⟨?_, ?_⟩) <;> (try with_reducible intro hnil) <;> refine hJ _ _ ?_ <;> clear hJ J <;> simp only [ak, reduceIte] <;> try subst hnil)))))
    exact ⟨⟨t, R, rfl, by rw [hdl]; exact hL⟩, hI.kp⟩

end Go.Proofs.YtphdhggoaijfoaaGreat.Aw

namespace Go.Proofs.YtphdhggoaijfoaaGreat.Aw
open Go Go.RowKit Go.Proofs.YtphdhggoaijfoaaGreat.Pl Go.Proofs.YtphdhggoaijfoaaGreat.Eu
set_option linter.unusedSimpArgs false
set_option linter.unusedVariables false

theorem ref_dFace (m : Mp) (h : MapOk m) (R : List (List Int)) (hR : FacesOf m R) (d : Int) (st : St) (hv : m.g.vs.length ≤ 1000) (he : m.g.es.length ≤ 1000) :
    ACalls Tryz.prog 33 [.ag (mpL m), u d] st fun r st' => r = i (tix R d + 1) ∧ Keeps st st' := by
  refine acalls_of_body tabOk Tryz.func33 rfl rfl Tryz.ntmps33 (rs := [.tmp 4]) rfl (by simp) ?_
  (repeat' (first | refine awp_seq ?_ | refine awp_block ?_ | ((first | refine awp_skip ?_ | refine awp_exit ?_); simp only [ak, reduceIte]) | (refine awp_ret ?_; simp only [ak, reduceIte]; simp []) | (refine awp_cond ?_; simp []; (try with_reducible refine ⟨?_, ?_⟩) <;> (try with_reducible intro hc) <;> try (exfalso; omega)) | ((first | (refine w_e [] ?_; intro J hJ; simp only []) | (refine w_q ?_; intro J hJ) | refine e_go ?_); simp []; (repeat refine ca ?_); (try ((try with_reducible refine ⟨?_, ?_⟩) <;> (try with_reducible intro hnil) <;> refine hJ _ _ ?_ <;> clear hJ J <;> simp only [ak, reduceIte] <;> try subst hnil)))))
  refine callK_ofE (ref_Faces m h _ hv he) (by simp) ?_; rintro r s1 ⟨⟨t0, R', rfl, hR'⟩, hk1⟩
  obtain rfl := hR.unique hR'
  have hRl := hR.len
  have hdl := darts_length m.g.es
  have hrow : ∀ c ∈ R, small c := fun c hc => by have := faces_row h hR he hc; unfold small; omega
  (repeat' (first | refine awp_seq ?_ | refine awp_block ?_ | ((first | refine awp_skip ?_ | refine awp_exit ?_); simp only [ak, reduceIte]) | (refine awp_ret ?_; simp only [ak, reduceIte]; simp []) | (refine awp_cond ?_; simp []; (try with_reducible refine ⟨?_, ?_⟩) <;> (try with_reducible intro hc) <;> try (exfalso; omega)) | ((first | (refine w_e [] ?_; intro J hJ; simp only []) | (refine w_q ?_; intro J hJ) | refine e_go ?_); simp []; (repeat refine ca ?_); (try ((try with_reducible refine ⟨?_, ?_⟩) <;> (try with_reducible intro hnil) <;> refine hJ _ _ ?_ <;> clear hJ J <;> simp only [ak, reduceIte] <;> try subst hnil)))))
  refine awp_range 10 9 11 21 (R.length) (fun j fr st2 => fr 1 = u d ∧ fr 8 = .sl t0 R.length (rowsL3 R) ∧ Keeps st st2 ∧ ∀ k, k < j → d ∉ R.getD k []) ?_ ?_ ?_
  · exact ⟨by simp, by simp, (Keeps.new _ _).trans hk1, fun k hk => by omega⟩
  · rintro j fr st2 hlt ⟨f1, f8, hkp, hno⟩ fi fn JJ hJJ
    have hd := rowsL_drop R j hlt
    have hRl2 : j < (rowsL R).length := by simpa using hlt
    have htin : R.getD j [] ∈ R := by rw [getR_lt _ _ hlt]; exact List.getElem_mem _
    have hsm := hrow _ htin
    have hso := fun h => tix_some (d := d) hlt h hno
    have hw := nat_add_one j (by omega)
    have hnn : d ∉ R.getD j [] → ∀ k, k < j + 1 → d ∉ R.getD k [] := fun h k hk => by
      rcases Nat.lt_or_ge k j with h1 | h1
      · exact hno k h1
      · obtain rfl : k = j := by omega
        exact h
    generalize R.getD j [] = t at *
    (repeat' (first | refine awp_seq ?_ | refine awp_block ?_ | ((first | refine awp_skip ?_ | refine awp_exit ?_); simp only [ak, reduceIte]) | (refine awp_ret ?_; simp only [ak, reduceIte]; simp [f1, f8, fi, fn, hd, hRl2, hlt]) | (refine awp_cond ?_; simp [f1, f8, fi, fn, hd, hRl2, hlt]; (try with_reducible refine ⟨?_, ?_⟩) <;> (try with_reducible intro hc) <;> try (exfalso; omega)) | ((first | (refine w_e [] ?_; intro J hJ; simp only []) | (refine w_q ?_; intro J hJ) | refine e_go ?_); simp [f1, f8, fi, fn, hd, hRl2, hlt]; (repeat refine ca ?_); (try ((try with_reducible refine ⟨?_, ?_⟩) <;> (try with_reducible intro hnil) <;> refine hJ _ _ ?_ <;> clear hJ J <;> simp only [ak, reduceIte] <;> try subst hnil)))))
    refine callK_ofE (Find t 0 d _ hsm) (by simp) ?_; rintro r s3 ⟨rfl, rfl⟩
    by_cases hdt : d ∈ t
    · have hr := hso hdt
      have hg := gi_mem hdt
      (repeat' (first | refine awp_seq ?_ | refine awp_block ?_ | ((first | refine awp_skip ?_ | refine awp_exit ?_); simp only [ak, reduceIte]) | (refine awp_ret ?_; simp only [ak, reduceIte]; simp [hg, hr, hw]) | (refine awp_cond ?_; simp [hg, hr, hw]; (try with_reducible refine ⟨?_, ?_⟩) <;> (try with_reducible intro hc) <;> try (exfalso; omega)) | ((first | (refine w_e [] ?_; intro J hJ; simp only []) | (refine w_q ?_; intro J hJ) | refine e_go ?_); simp [hg, hr, hw]; (repeat refine ca ?_); (try ((try with_reducible refine ⟨?_, ?_⟩) <;> (try with_reducible intro hnil) <;> refine hJ _ _ ?_ <;> clear hJ J <;> simp only [ak, reduceIte] <;> try subst hnil)))))
      exact hkp
    · have hg := gi_not hdt
      (repeat' (first | refine awp_seq ?_ | refine awp_block ?_ | ((first | refine awp_skip ?_ | refine awp_exit ?_); simp only [ak, reduceIte]) | (refine awp_ret ?_; simp only [ak, reduceIte]; simp [hg]) | (refine awp_cond ?_; simp [hg]; (try with_reducible refine ⟨?_, ?_⟩) <;> (try with_reducible intro hc) <;> try (exfalso; omega)) | ((first | (refine w_e [] ?_; intro J hJ; simp only []) | (refine w_q ?_; intro J hJ) | refine e_go ?_); simp [hg]; (repeat refine ca ?_); (try ((try with_reducible refine ⟨?_, ?_⟩) <;> (try with_reducible intro hnil) <;> refine hJ _ _ ?_ <;> clear hJ J <;> simp only [ak, reduceIte] <;> try subst hnil)))))
      exact hJJ _ _ (by simp [fi]) (by simp [fn]) ⟨by simp [f1], by simp [f8], hkp, hnn hdt⟩
  · rintro fr st2 ⟨f1, f8, hkp, hno⟩
    have hr := tix_none hno
    (repeat' (first | refine awp_seq ?_ | refine awp_block ?_ | ((first | refine awp_skip ?_ | refine awp_exit ?_); simp only [ak, reduceIte]) | (refine awp_ret ?_; simp only [ak, reduceIte]; simp [hr]) | (refine awp_cond ?_; simp [hr]; (try with_reducible refine ⟨?_, ?_⟩) <;> (try with_reducible intro hc) <;> try (exfalso; omega)) | ((first | (refine w_e [] ?_; intro J hJ; simp only []) | (refine w_q ?_; intro J hJ) | refine e_go ?_); simp [hr]; (repeat refine ca ?_); (try ((try with_reducible refine ⟨?_, ?_⟩) <;> (try with_reducible intro hnil) <;> refine hJ _ _ ?_ <;> clear hJ J <;> simp only [ak, reduceIte] <;> try subst hnil)))))
    exact hkp

/-- Whether an edge's other dart is in the face of its first. -/
theorem face_bridge {m : Mp} (h : MapOk m) {R : List (List Int)} (hR : FacesOf m R) {x : Ed} (hx : x ∈ m.g.es) {c : List Int} (hc : IsFace m (2 * x.id) c) : 2 * x.id + 1 ∈ c ↔ tix R (2 * x.id) = tix R (2 * x.id + 1) := by
  have h0 : 2 * x.id ∈ darts m.g.es := mem_darts.2 ⟨x, hx, .inl rfl⟩
  have h1 : 2 * x.id + 1 ∈ darts m.g.es := mem_darts.2 ⟨x, hx, .inr rfl⟩
  rw [faces_same h hR h0 h1]
  rcases hc with ⟨_, L, hL, rfl⟩ | ⟨hn, _⟩
  · rw [nrm_mem, hL.mem]
  · exact absurd h0 hn

set_option maxHeartbeats 1000000 in
theorem ref_dBridges (m : Mp) (h : MapOk m) (R : List (List Int)) (hR : FacesOf m R) (st : St) (hv : m.g.vs.length ≤ 1000) (he : m.g.es.length ≤ 1000) :
    ACalls Tryz.prog 34 [.ag (mpL m)] st (BridgesP m R st) := by
  have hel := eds_length m.g.es
  refine acalls_of_body tabOk Tryz.func34 rfl rfl Tryz.ntmps34 (rs := [.tmp 2]) rfl (by simp) ?_
  (repeat' (first | refine awp_seq ?_ | refine awp_block ?_ | ((first | refine awp_skip ?_ | refine awp_exit ?_); simp only [ak, reduceIte]) | (refine awp_ret ?_; simp only [ak, reduceIte]; simp []) | (refine awp_cond ?_; simp []; (try with_reducible refine ⟨?_, ?_⟩) <;> (try with_reducible intro hc) <;> try (exfalso; omega)) | ((first | (refine w_e [] ?_; intro J hJ; simp only []) | (refine w_q ?_; intro J hJ) | refine e_go ?_); simp []; (repeat refine ca ?_); (try ((try with_reducible refine ⟨?_, ?_⟩) <;> (try with_reducible intro hnil) <;> refine hJ _ _ ?_ <;> clear hJ J <;> simp only [ak, reduceIte] <;> try subst hnil)))))
  refine awp_posG fun hpos => ?_
  refine awp_own 3 29 1 (by simp) ?_
  refine awp_range 10 9 11 30 (m.g.es.length) (fun j fr st2 => fr 1 = .pt st.next 0 ∧ st2.H st.next = .box 28 3 (mpL m) ∧ st.next < st2.next ∧ fr 8 = .sl 0 m.g.es.length (eds m.g.es) ∧ Keeps st st2 ∧ ∃ t, fr 3 = .sl t (brg R (m.g.es.take j)).length (us (brg R (m.g.es.take j))) ∧ (t ≠ 0 ∧ st.next < t ∧ t < st2.next) ∧ st2.H t = .own 29 1 (brg R (m.g.es.take j)).length) ?_ ?_ ?_
  · exact ⟨by simp, by simp, by simp; omega, by simp, (Keeps.new _ _).trans (Keeps.new _ _), st.next + 1, by simp [brg], ⟨by omega, by omega, by simp⟩, by simp [brg]⟩
  · rintro j fr s2 hlt ⟨f1, hG, hsn, f8, hkp, t, f3, ⟨t0, tl, tn⟩, htH⟩ fi fn JJ hJJ
    have hd := eds_drop m.g.es j hlt
    have hk3 : j * 3 < m.g.es.length * 3 := by omega
    have hxin : m.g.es.getD j ed0 ∈ m.g.es := by rw [getE_lt _ _ hlt]; exact List.getElem_mem _
    have hpos := h.g.pos _ hxin
    have hst := brg_take R m.g.es j hlt
    have hbl := brg_len R m.g.es j
    have hfb := fun c => @face_bridge m h R hR _ hxin c
    generalize hx : m.g.es.getD j ed0 = x at *
    obtain ⟨id, a, b⟩ := x
    simp only at hpos hd hst hfb
    generalize brg R (m.g.es.take j) = B at *
    have w1 : IntKind.u32.wrap (2 * id) = 2 * id := wrap_u32' _ (by omega) (by omega)
    have w2 : IntKind.u32.wrap (2 * id + 1) = 2 * id + 1 := wrap_u32' _ (by omega) (by omega)
    have hn2 := hkp.next
    have m1 : ¬ t = s2.next := by omega
    have m4 : ¬ st.next = s2.next := by omega
    (repeat' (first | refine awp_seq ?_ | refine awp_block ?_ | ((first | refine awp_skip ?_ | refine awp_exit ?_); simp only [ak, reduceIte]) | (refine awp_ret ?_; simp only [ak, reduceIte]; simp [f8, fi, fn, hd, hel, hk3]) | (refine awp_cond ?_; simp [f8, fi, fn, hd, hel, hk3]; (try with_reducible refine ⟨?_, ?_⟩) <;> (try with_reducible intro hc) <;> try (exfalso; omega)) | ((first | (refine w_e [] ?_; intro J hJ; simp only []) | (refine w_q ?_; intro J hJ) | refine e_go ?_); simp [f8, fi, fn, hd, hel, hk3]; (repeat refine ca ?_); (try ((try with_reducible refine ⟨?_, ?_⟩) <;> (try with_reducible intro hnil) <;> refine hJ _ _ ?_ <;> clear hJ J <;> simp only [ak, reduceIte] <;> try subst hnil)))))
    (refine w_s [] [st.next, s2.next] [(0, true), (1, true), (2, true), (3, true), (5, true), (6, true), (7, true), (8, true), (4, true), (9, true), (10, true)] ?_; intro J hJ; simp [f1, hG, m4, w1, w2]; (repeat refine ca ?_); (try ((try with_reducible refine ⟨?_, ?_⟩) <;> (try with_reducible intro hnil) <;> refine hJ _ _ ?_ <;> clear hJ J <;> simp only [ak, reduceIte] <;> try subst hnil)))
    refine dcallK_ofE (ref_Face m h (2 * id) _ hv he) (by simp) ?_; rintro r s3 ⟨⟨c, rfl, hc⟩, hk3'⟩
    have hn3 := hk3'.next
    simp only [new_next] at hn3
    have hX3 := hk3'.H s2.next (by simp)
    have hG3 := hk3'.H st.next (by simp; omega)
    have hT3 := hk3'.H t (by simp; omega)
    simp [m4, m1, hG, htH] at hX3 hG3 hT3
    have hcl : small c := by
      rcases hc with ⟨hdd, L, hL, rfl⟩ | ⟨_, rfl⟩
      · have := (h.cyc_le hdd hL).2
        unfold small; rw [nrm_length]; omega
      · unfold small; simp
    have hfc := hfb c hc
    refine ⟨fun _ => by simp [hG3, hX3, m4, hG], ?_⟩
    (refine d_go ?_; simp [f1, hG3, hX3, m4, hG, w1, w2]; (repeat refine ca ?_); (try ((try with_reducible refine ⟨?_, ?_⟩) <;> (try with_reducible intro hnil) <;> refine hJ _ _ ?_ <;> clear hJ J <;> simp only [ak, reduceIte] <;> try subst hnil)))
    refine dcallK_ofE (Find c 0 (2 * id + 1) _ hcl) (by simp) ?_; rintro r s4 ⟨rfl, rfl⟩
    refine ⟨fun _ => by simp [hG3, hX3, m4, hG], ?_⟩
    have m2 : ¬ t = s4.next := by omega
    have hK4 : Keeps st s4 := (hkp.trans (Keeps.new _ _)).trans hk3'
    by_cases hab : 2 * id + 1 ∈ c
    · have hg := gi_mem hab
      rw [if_pos (hfc.1 hab)] at hst
      (refine d_go ?_; simp [hG3, hX3, m4, hG, hg]; (repeat refine ca ?_); (try ((try with_reducible refine ⟨?_, ?_⟩) <;> (try with_reducible intro hnil) <;> refine hJ _ _ ?_ <;> clear hJ J <;> simp only [ak, reduceIte] <;> try subst hnil)))
      (repeat' (first | refine awp_seq ?_ | refine awp_block ?_ | ((first | refine awp_skip ?_ | refine awp_exit ?_); simp only [ak, reduceIte]) | (refine awp_ret ?_; simp only [ak, reduceIte]; simp [f3, hX3, hT3, t0, m2]) | (refine awp_cond ?_; simp [f3, hX3, hT3, t0, m2]; (try with_reducible refine ⟨?_, ?_⟩) <;> (try with_reducible intro hc) <;> try (exfalso; omega)) | ((first | (refine w_e [] ?_; intro J hJ; simp only []) | (refine w_q ?_; intro J hJ) | refine e_go ?_); simp [f3, hX3, hT3, t0, m2]; (repeat refine ca ?_); (try ((try with_reducible refine ⟨?_, ?_⟩) <;> (try with_reducible intro hnil) <;> refine hJ _ _ ?_ <;> clear hJ J <;> simp only [ak, reduceIte] <;> try subst hnil)))))
      refine hJJ _ _ (by simp [fi]) (by simp [fn]) ⟨by simp [f1], ?_, by simp; omega, by simp [f8], ?_, s4.next + 1, by rw [hst]; simp, ⟨by omega, by omega, by simp⟩, by rw [hst]; simp⟩
      · rw [new_H, if_neg (by simp only [set_next, new_next]; omega), set_H, if_neg (by omega), new_H, if_neg (by omega)]; exact hG3
      · exact ((hK4.trans (Keeps.new _ _)).set (by omega) _).trans (Keeps.new _ _)
    · have hg := gi_not hab
      rw [if_neg (fun e => hab (hfc.2 e)), List.append_nil] at hst
      (refine d_go ?_; simp [hG3, hX3, m4, hG, hg]; (repeat refine ca ?_); (try ((try with_reducible refine ⟨?_, ?_⟩) <;> (try with_reducible intro hnil) <;> refine hJ _ _ ?_ <;> clear hJ J <;> simp only [ak, reduceIte] <;> try subst hnil)))
      (repeat' (first | refine awp_seq ?_ | refine awp_block ?_ | ((first | refine awp_skip ?_ | refine awp_exit ?_); simp only [ak, reduceIte]) | (refine awp_ret ?_; simp only [ak, reduceIte]; simp [f3]) | (refine awp_cond ?_; simp [f3]; (try with_reducible refine ⟨?_, ?_⟩) <;> (try with_reducible intro hc) <;> try (exfalso; omega)) | ((first | (refine w_e [] ?_; intro J hJ; simp only []) | (refine w_q ?_; intro J hJ) | refine e_go ?_); simp [f3]; (repeat refine ca ?_); (try ((try with_reducible refine ⟨?_, ?_⟩) <;> (try with_reducible intro hnil) <;> refine hJ _ _ ?_ <;> clear hJ J <;> simp only [ak, reduceIte] <;> try subst hnil)))))
      exact hJJ _ _ (by simp [fi]) (by simp [fn]) ⟨by simp [f1], hG3, by omega, by simp [f8], hK4, t, by rw [hst]; simp [f3], ⟨t0, tl, by omega⟩, by rw [hst]; exact hT3⟩
  · rintro fr st2 ⟨f1, hG, hsn, f8, hkp, t, f3, _⟩
    rw [List.take_length] at f3
    (repeat' (first | refine awp_seq ?_ | refine awp_block ?_ | ((first | refine awp_skip ?_ | refine awp_exit ?_); simp only [ak, reduceIte]) | (refine awp_ret ?_; simp only [ak, reduceIte]; simp [f3]) | (refine awp_cond ?_; simp [f3]; (try with_reducible refine ⟨?_, ?_⟩) <;> (try with_reducible intro hc) <;> try (exfalso; omega)) | ((first | (refine w_e [] ?_; intro J hJ; simp only []) | (refine w_q ?_; intro J hJ) | refine e_go ?_); simp [f3]; (repeat refine ca ?_); (try ((try with_reducible refine ⟨?_, ?_⟩) <;> (try with_reducible intro hnil) <;> refine hJ _ _ ?_ <;> clear hJ J <;> simp only [ak, reduceIte] <;> try subst hnil)))))
    exact ⟨⟨t, rfl⟩, hkp⟩

end Go.Proofs.YtphdhggoaijfoaaGreat.Aw

namespace Go.Proofs.YtphdhggoaijfoaaGreat.Aw
open Go Go.RowKit Go.Proofs.YtphdhggoaijfoaaGreat.Pl Go.Proofs.YtphdhggoaijfoaaGreat.Eu
set_option linter.unusedSimpArgs false
set_option linter.unusedVariables false

@[simp] theorem z0_eds (l : List Ed) : z0L (eds l) = eds l := by
  rw [z0L_map]
  induction l with
  | nil => rfl
  | cons x l ih => simp only [eds, List.flatMap_cons, List.map_append] at ih ⊢; rw [ih]; rfl
@[simp] theorem z0_rows (R : List (List Int)) : z0L (rowsL R) = rowsL R := by
  rw [z0L_map]
  induction R with
  | nil => rfl
  | cons x l ih => simp only [rowsL, List.map_cons] at ih ⊢; rw [ih]; simp [z0]
def mp0 : Mp := ⟨⟨[], []⟩, []⟩
/-- The dual, or why there is none. -/
def dmap (m : Mp) (R : List (List Int)) : Mp × Int := if brg R m.g.es ≠ [] then (mp0, 20) else if 64 < R.length then (mp0, 6) else (dm m R, 0)
def vsN (j : Nat) : List Int := (List.range j).map fun (k : Nat) => ((k : Int) + 1)
theorem vsN_succ (j : Nat) : vsN (j + 1) = vsN j ++ [(j : Int) + 1] := by unfold vsN; rw [List.range_succ]; simp
@[simp] theorem vsN_len (j : Nat) : (vsN j).length = j := by simp [vsN]
theorem mem_vsN {j : Nat} {v : Int} : v ∈ vsN j ↔ 1 ≤ v ∧ v ≤ j := by
  unfold vsN
  simp only [List.mem_map, List.mem_range]
  constructor
  · rintro ⟨k, hk, rfl⟩; omega
  · rintro ⟨h1, h2⟩; exact ⟨(v - 1).toNat, by omega, by omega⟩
def edOf (R : List (List Int)) (x : Ed) : Ed := ⟨x.id, tix R (2 * x.id) + 1, tix R (2 * x.id + 1) + 1⟩
theorem dm_eq (m : Mp) (R : List (List Int)) : dm m R = ⟨⟨vsN R.length, m.g.es.map (edOf R)⟩, R⟩ := rfl
theorem edsm_take (R : List (List Int)) (l : List Ed) (k : Nat) (hk : k < l.length) : eds ((l.take (k + 1)).map (edOf R)) = eds ((l.take k).map (edOf R)) ++ edL (edOf R (l.getD k ed0)) := by
  rw [List.take_succ_eq_append_getElem hk, getE_lt _ _ hk]
  simp only [List.map_append, List.map_cons, List.map_nil, eds, List.flatMap_append, List.flatMap_cons, List.flatMap_nil, List.append_nil]
theorem tix_range (R : List (List Int)) (d : Int) : -1 ≤ tix R d ∧ tix R d ≤ R.length := by
  unfold tix
  split
  · have := List.findIdx_le_length (p := fun t => decide (d ∈ t)) (xs := R); omega
  · omega

/-- The faces by their vertices' numbers. -/
def TurI (R : List (List Int)) (j : Nat) (es : List (List Int × LV)) : Prop := ∀ v, mget es [v] = if 1 ≤ v ∧ v ≤ (j : Int) then some (.sl 0 (R.getD (v - 1).toNat []).length (us (R.getD (v - 1).toNat []))) else none
def DMapP (m : Mp) (R : List (List Int)) (st : St) (r : LV) (st' : St) : Prop := r = .tu [.ag (mpL (dmap m R).1), i (dmap m R).2] ∧ Keeps st st'

set_option maxHeartbeats 4000000 in
theorem dMap (m : Mp) (h : MapOk m) (R : List (List Int)) (hR : FacesOf m R) (q mn : Nat) (st : St) (hv : m.g.vs.length ≤ 1000) (he : m.g.es.length ≤ 400) (hD : DF m R q mn st) :
    ACalls Tryz.prog 23 [.pt q 0] st (DMapP m R st) := by
  have hsl := sds_length (m.g.es.map (sideOf R))
  rw [List.length_map] at hsl
  have hRl := hR.len
  have hdl := darts_length m.g.es
  refine acalls_z0 ?_
  refine acalls_of_body tabOk Tryz.func23 rfl rfl Tryz.ntmps23 (rs := [.cell 2 28, .tmp 3]) rfl (by simp) ?_
  have hD1 := hD.keeps (Keeps.new st (.box 28 3 [.nil, .nil, .nil]))
  (repeat' (first | refine awp_seq ?_ | refine awp_block ?_ | ((first | refine awp_skip ?_ | refine awp_exit ?_); simp only [ak, reduceIte]) | (refine awp_ret ?_; simp only [ak, reduceIte]; simp []) | (refine awp_cond ?_; simp []; (try with_reducible refine ⟨?_, ?_⟩) <;> (try with_reducible intro hc) <;> try (exfalso; omega)) | ((first | (refine w_e [] ?_; intro J hJ; simp only []) | (refine w_q ?_; intro J hJ) | refine e_go ?_); simp []; (repeat refine ca ?_); (try ((try with_reducible refine ⟨?_, ?_⟩) <;> (try with_reducible intro hnil) <;> refine hJ _ _ ?_ <;> clear hJ J <;> simp only [ak, reduceIte] <;> try subst hnil)))))
  refine callK_ofE (dBridges m h R q mn _ (by omega) hD1) (by simp) ?_; rintro r s1 ⟨⟨tb, rfl⟩, hk1⟩
  have hn1 := hk1.next
  simp only [new_next] at hn1
  have hB1 : s1.H st.next = .box 28 3 [.nil, .nil, .nil] := by rw [hk1.H _ (by simp)]; simp
  have hD2 := hD1.keeps hk1
  have hK1 : Keeps st s1 := (Keeps.new _ _).trans hk1
  by_cases hbr : brg R m.g.es = []
  rotate_left
  · have hdm : dmap m R = (mp0, 20) := by unfold dmap; rw [if_pos hbr]
    have hb0 : 0 < (brg R m.g.es).length := List.length_pos_iff.2 hbr
    generalize (brg R m.g.es).length = bl at *
    (repeat' (first | refine awp_seq ?_ | refine awp_block ?_ | ((first | refine awp_skip ?_ | refine awp_exit ?_); simp only [ak, reduceIte]) | (refine awp_ret ?_; simp only [ak, reduceIte]; simp [hb0, hB1]) | (refine awp_cond ?_; simp [hb0, hB1]; (try with_reducible refine ⟨?_, ?_⟩) <;> (try with_reducible intro hc) <;> try (exfalso; omega)) | ((first | (refine w_e [] ?_; intro J hJ; simp only []) | (refine w_q ?_; intro J hJ) | refine e_go ?_); simp [hb0, hB1]; (repeat refine ca ?_); (try ((try with_reducible refine ⟨?_, ?_⟩) <;> (try with_reducible intro hnil) <;> refine hJ _ _ ?_ <;> clear hJ J <;> simp only [ak, reduceIte] <;> try subst hnil)))))
    refine ⟨by rw [hdm]; rfl, hK1.set (Nat.le_refl _) _⟩
  rw [hbr]
  obtain ⟨t1, t2, hq⟩ := hD2.box
  by_cases h64 : (64 : Int) < (R.length : Int)
  · have hdm : dmap m R = (mp0, 6) := by unfold dmap; rw [if_neg (fun e => e hbr), if_pos (by omega)]
    (repeat' (first | refine awp_seq ?_ | refine awp_block ?_ | ((first | refine awp_skip ?_ | refine awp_exit ?_); simp only [ak, reduceIte]) | (refine awp_ret ?_; simp only [ak, reduceIte]; simp [hB1, hq, h64]) | (refine awp_cond ?_; simp [hB1, hq, h64]; (try with_reducible refine ⟨?_, ?_⟩) <;> (try with_reducible intro hc) <;> try (exfalso; omega)) | ((first | (refine w_e [] ?_; intro J hJ; simp only []) | (refine w_q ?_; intro J hJ) | refine e_go ?_); simp [hB1, hq, h64]; (repeat refine ca ?_); (try ((try with_reducible refine ⟨?_, ?_⟩) <;> (try with_reducible intro hnil) <;> refine hJ _ _ ?_ <;> clear hJ J <;> simp only [ak, reduceIte] <;> try subst hnil)))))
    refine ⟨by rw [hdm]; rfl, hK1.set (Nat.le_refl _) _⟩
  have hdm : dmap m R = (dm m R, 0) := by unfold dmap; rw [if_neg (fun e => e hbr), if_neg (by omega)]
  have hqn := hD2.lt.1
  have a1 : ¬ q = s1.next := by omega
  have a2 : ¬ q = s1.next + 1 := by omega
  (repeat' (first | refine awp_seq ?_ | refine awp_block ?_ | ((first | refine awp_skip ?_ | refine awp_exit ?_); simp only [ak, reduceIte]) | (refine awp_ret ?_; simp only [ak, reduceIte]; simp [hB1, hq, h64, a1, a2]) | (refine awp_cond ?_; simp [hB1, hq, h64, a1, a2]; (try with_reducible refine ⟨?_, ?_⟩) <;> (try with_reducible intro hc) <;> try (exfalso; omega)) | ((first | (refine w_e [] ?_; intro J hJ; simp only []) | (refine w_q ?_; intro J hJ) | refine e_go ?_); simp [hB1, hq, h64, a1, a2]; (repeat refine ca ?_); (try ((try with_reducible refine ⟨?_, ?_⟩) <;> (try with_reducible intro hnil) <;> refine hJ _ _ ?_ <;> clear hJ J <;> simp only [ak, reduceIte] <;> try subst hnil)))))
  refine awp_posG fun hpos => ?_
  refine awp_cell (e := 25) (s := 2) s1.next 29 1 [] [.nil] (by simp) ?_
  refine awp_range 32 31 33 49 (R.length) (fun j fr st2 => (fr 0 = .pt q 0 ∧ fr 2 = .pt st.next 0) ∧ fr 4 = .pt s1.next 0 ∧ fr 5 = .mp (s1.next + 1) ∧ fr 30 = .sl t2 R.length (rowsL R) ∧ Keeps s1 st2 ∧ s1.next + 1 < st2.next ∧ (∃ es, st2.H (s1.next + 1) = .map false [.u32] es ∧ TurI R j es) ∧ ∃ t, st2.H s1.next = .box 25 2 [.sl t j (us (vsN j)), .nil] ∧ (t ≠ 0 ∧ s1.next + 1 < t ∧ t < st2.next) ∧ st2.H t = .own 29 1 j) ?_ ?_ ?_
  · refine ⟨⟨by simp, by simp⟩, by simp, by simp, by simp, ?_, by simp, ⟨[], by simp, fun v => ?_⟩, s1.next + 1 + 1, by simp [vsN], ⟨by omega, by omega, by simp⟩, by simp; omega⟩
    · exact (((Keeps.new _ _).trans (Keeps.new _ _)).trans (Keeps.new _ _)).set (Nat.le_refl _) _
    · rw [if_neg (by omega)]; rfl
  · rintro j fr s2 hlt ⟨⟨f0, f2⟩, f4, f5, f30, hkp, hlt2, ⟨es, hM, hT⟩, t, hG, ⟨t0, tl, tn⟩, htH⟩ fi fn JJ hJJ
    have hd := rowsL_drop R j hlt
    have hRl2 : j < (rowsL R).length := by simpa using hlt
    have hw := nat_add_one j (by omega)
    have hw2 : IntKind.u32.wrap ((j : Int) + 1) = (j : Int) + 1 := wrap_u32' _ (by omega) (by omega)
    have hvs := vsN_succ j
    have hT2 : TurI R (j + 1) (mset es [(j : Int) + 1] (.sl 0 (R.getD j []).length (us (R.getD j [])))) := fun v => by
      rw [mget_mset]
      by_cases hv : v = (j : Int) + 1
      · subst hv
        rw [if_pos rfl, if_pos (by omega), show ((j : Int) + 1 - 1).toNat = j by omega]
      · rw [if_neg (by simpa using hv), hT v]
        by_cases h1 : 1 ≤ v ∧ v ≤ (j : Int)
        · rw [if_pos h1, if_pos (by omega)]
        · rw [if_neg h1, if_neg (by omega)]
    generalize R.getD j [] = c at *
    have m1 : ¬ t = s2.next := by omega
    have m2 : ¬ s1.next = s2.next := by omega
    have m3 : ¬ s1.next = s2.next + 1 := by omega
    have m4 : ¬ s1.next = t := by omega
    have m5 : ¬ s1.next + 1 = s2.next := by omega
    have m6 : ¬ s1.next + 1 = s2.next + 1 := by omega
    have m7 : ¬ s1.next + 1 = t := by omega
    have m8 : ¬ s2.next + 1 = s1.next := by omega
    have m9 : ¬ s2.next + 1 = s1.next + 1 := by omega
    have m10 : ¬ t = s1.next + 1 := by omega
    (repeat' (first | refine awp_seq ?_ | refine awp_block ?_ | ((first | refine awp_skip ?_ | refine awp_exit ?_); simp only [ak, reduceIte]) | (refine awp_ret ?_; simp only [ak, reduceIte]; simp [f4, f5, f30, fi, fn, hd, hRl2, hlt, hw, hw2, hM, hG, htH, t0, m1, m2, m3, m4, m5, m6, m7, m8, m9, m10]) | (refine awp_cond ?_; simp [f4, f5, f30, fi, fn, hd, hRl2, hlt, hw, hw2, hM, hG, htH, t0, m1, m2, m3, m4, m5, m6, m7, m8, m9, m10]; (try with_reducible refine ⟨?_, ?_⟩) <;> (try with_reducible intro hc) <;> try (exfalso; omega)) | ((first | (refine w_e [] ?_; intro J hJ; simp only []) | (refine w_q ?_; intro J hJ) | refine e_go ?_); simp [f4, f5, f30, fi, fn, hd, hRl2, hlt, hw, hw2, hM, hG, htH, t0, m1, m2, m3, m4, m5, m6, m7, m8, m9, m10]; (repeat refine ca ?_); (try ((try with_reducible refine ⟨?_, ?_⟩) <;> (try with_reducible intro hnil) <;> refine hJ _ _ ?_ <;> clear hJ J <;> simp only [ak, reduceIte] <;> try subst hnil)))))
    refine hJJ _ _ (by simp [fi]) (by simp [fn]) ⟨⟨by simp [f0], by simp [f2]⟩, by simp [f4], by simp [f5], by simp [f30], ?_, by simp; omega, ⟨_, by simp, hT2⟩, s2.next + 1, by rw [hvs]; simp, ⟨by omega, by omega, by simp⟩, by simp [m8, m9]; omega⟩
    exact ((((hkp.trans (Keeps.new _ _)).set (by omega) _).trans (Keeps.new _ _)).set (by omega) _).set (by omega) _
  rintro fr s2 ⟨⟨f0, f2⟩, f4, f5, f30, hkp, hlt2, ⟨es, hM, hT⟩, t, hG, ⟨t0, tl, tn⟩, htH⟩
  have hn2 := hkp.next
  (repeat' (first | refine awp_seq ?_ | refine awp_block ?_ | ((first | refine awp_skip ?_ | refine awp_exit ?_); simp only [ak, reduceIte]) | (refine awp_ret ?_; simp only [ak, reduceIte]; simp [f0]) | (refine awp_cond ?_; simp [f0]; (try with_reducible refine ⟨?_, ?_⟩) <;> (try with_reducible intro hc) <;> try (exfalso; omega)) | ((first | (refine w_e [] ?_; intro J hJ; simp only []) | (refine w_q ?_; intro J hJ) | refine e_go ?_); simp [f0]; (repeat refine ca ?_); (try ((try with_reducible refine ⟨?_, ?_⟩) <;> (try with_reducible intro hnil) <;> refine hJ _ _ ?_ <;> clear hJ J <;> simp only [ak, reduceIte] <;> try subst hnil)))))
  refine callK_ofE (dSides m h R q mn _ (by omega) (hD2.keeps hkp)) (by simp) ?_; rintro r s3 ⟨⟨ts, rfl⟩, hk3⟩
  have hn3 := hk3.next
  (repeat' (first | refine awp_seq ?_ | refine awp_block ?_ | ((first | refine awp_skip ?_ | refine awp_exit ?_); simp only [ak, reduceIte]) | (refine awp_ret ?_; simp only [ak, reduceIte]; simp []) | (refine awp_cond ?_; simp []; (try with_reducible refine ⟨?_, ?_⟩) <;> (try with_reducible intro hc) <;> try (exfalso; omega)) | ((first | (refine w_e [] ?_; intro J hJ; simp only []) | (refine w_q ?_; intro J hJ) | refine e_go ?_); simp []; (repeat refine ca ?_); (try ((try with_reducible refine ⟨?_, ?_⟩) <;> (try with_reducible intro hnil) <;> refine hJ _ _ ?_ <;> clear hJ J <;> simp only [ak, reduceIte] <;> try subst hnil)))))
  refine awp_cell (e := 25) (s := 2) s1.next 55 3 [.sl t R.length (us (vsN R.length))] [] ((hk3.H _ (by omega)).trans hG) ?_
  have hM3 := (hk3.H _ hlt2).trans hM
  refine awp_range 53 52 54 71 (m.g.es.length) (fun j fr st2 => fr 2 = .pt st.next 0 ∧ fr 4 = .pt s1.next 0 ∧ fr 5 = .mp (s1.next + 1) ∧ fr 51 = .sl ts m.g.es.length (sds (m.g.es.map (sideOf R))) ∧ Keeps s1 st2 ∧ s1.next + 1 < st2.next ∧ st2.H (s1.next + 1) = .map false [.u32] es ∧ ∃ t2, st2.H s1.next = .box 25 2 [.sl t R.length (us (vsN R.length)), .sl t2 j (eds ((m.g.es.take j).map (edOf R)))] ∧ (t2 ≠ 0 ∧ s1.next + 1 < t2 ∧ t2 < st2.next) ∧ st2.H t2 = .own 55 3 j) ?_ ?_ ?_
  · refine ⟨by simp [f2], by simp [f4], by simp [f5], by simp, ?_, by simp; omega, ?_, s3.next, by simp, ⟨by omega, by omega, by simp⟩, ?_⟩
    · exact ((hkp.trans hk3).trans (Keeps.new _ _)).set (Nat.le_refl _) _
    · rw [set_H, if_neg (by omega), new_H, if_neg (by omega)]; exact hM3
    · rw [set_H, if_neg (by omega)]; simp
  · clear hT htH hG f0 f2 f4 f5 f30 fr
    rintro j fr s4 hlt ⟨f2, f4, f5, f51, hkp, hlt4, hM, t2, hG, ⟨u0, ul, un⟩, htH⟩ fi fn JJ hJJ
    have hd := sds_drop (m.g.es.map (sideOf R)) j (by simpa using hlt)
    rw [getS_map R _ _ hlt] at hd
    have hk3 : j * 3 < m.g.es.length * 3 := by omega
    have hst := edsm_take R m.g.es j hlt
    have hel2 := eds_length ((m.g.es.take j).map (edOf R))
    rw [List.length_map, List.length_take, Nat.min_eq_left (by omega)] at hel2
    have r1 := tix_range R (2 * (m.g.es.getD j ed0).id)
    have r2 := tix_range R (2 * (m.g.es.getD j ed0).id + 1)
    generalize m.g.es.getD j ed0 = x at *
    obtain ⟨id, a, b⟩ := x
    simp only [sideOf, edOf] at hd hst r1 r2
    generalize eds ((m.g.es.take j).map (edOf R)) = E at *
    generalize tix R (2 * id) = ta at *
    generalize tix R (2 * id + 1) = tb at *
    have w1 : IntKind.u32.wrap (ta + 1) = ta + 1 := wrap_u32' _ (by omega) (by omega)
    have w2 : IntKind.u32.wrap (tb + 1) = tb + 1 := wrap_u32' _ (by omega) (by omega)
    have m1 : ¬ t2 = s4.next := by omega
    have m1' : ¬ t2 = s4.next + 1 := by omega
    have m2 : ¬ s1.next = s4.next := by omega
    have m3 : ¬ s1.next = s4.next + 1 := by omega
    have m3' : ¬ s1.next = s4.next + 1 + 1 := by omega
    have m4 : ¬ s1.next = t2 := by omega
    have m8 : ¬ s4.next + 1 + 1 = s1.next := by omega
    have m9 : ¬ s4.next = t2 := by omega
    (repeat' (first | refine awp_seq ?_ | refine awp_block ?_ | ((first | refine awp_skip ?_ | refine awp_exit ?_); simp only [ak, reduceIte]) | (refine awp_ret ?_; simp only [ak, reduceIte]; simp [f4, f51, fi, fn, hd, hsl, hk3, w1, w2, hG, htH, u0, m1, m1', m2, m3, m3', m4, m8, m9, hel2]) | (refine awp_cond ?_; simp [f4, f51, fi, fn, hd, hsl, hk3, w1, w2, hG, htH, u0, m1, m1', m2, m3, m3', m4, m8, m9, hel2]; (try with_reducible refine ⟨?_, ?_⟩) <;> (try with_reducible intro hc) <;> try (exfalso; omega)) | ((first | (refine w_e [] ?_; intro J hJ; simp only []) | (refine w_q ?_; intro J hJ) | refine e_go ?_); simp [f4, f51, fi, fn, hd, hsl, hk3, w1, w2, hG, htH, u0, m1, m1', m2, m3, m3', m4, m8, m9, hel2]; (repeat refine ca ?_); (try ((try with_reducible refine ⟨?_, ?_⟩) <;> (try with_reducible intro hnil) <;> refine hJ _ _ ?_ <;> clear hJ J <;> simp only [ak, reduceIte] <;> try subst hnil)))))
    refine hJJ _ _ (by simp [fi]) (by simp [fn]) ⟨by simp [f2], by simp [f4], by simp [f5], by simp [f51], ?_, by simp; omega, ?_, s4.next + 1 + 1, by rw [hst]; simp, ⟨by omega, by omega, by simp⟩, by simp [m8]⟩
    · exact ((((hkp.trans (Keeps.new _ _)).trans (Keeps.new _ _)).set (by omega) _).trans (Keeps.new _ _)).set (by omega) _
    · rw [set_H, if_neg (by omega), new_H, if_neg (by simp only [set_next, new_next]; omega), set_H, if_neg (by omega), new_H, if_neg (by simp only [new_next]; omega), new_H, if_neg (by omega)]; exact hM
  clear htH hG f0 f2 f4 f5 f30 fr
  rintro fr s4 ⟨f2, f4, f5, f51, hkp, hlt4, hM, t2, hG, ⟨u0, ul, un⟩, htH⟩
  rw [List.take_length] at hG
  have htf : ∀ v ∈ vsN R.length, ∃ x tt, (mget es [v]).getD .nil = x ∧ norm x = .sl tt (R.getD (v - 1).toNat []).length (us (R.getD (v - 1).toNat [])) ∧ (R.getD (v - 1).toNat []).length ≤ 1000 := fun v hv => by
    have hv' := mem_vsN.1 hv
    refine ⟨_, 0, rfl, ?_, ?_⟩
    · rw [hT v, if_pos hv']; rfl
    · have hin : R.getD (v - 1).toNat [] ∈ R := by rw [getR_lt _ _ (by omega)]; exact List.getElem_mem _
      obtain ⟨e, he', h1, _⟩ := faces_cyc h hR hin
      have := (h.cyc_le he' h1).2
      omega
  have hcall := rot_Of ⟨vsN R.length, m.g.es.map (edOf R)⟩ (s1.next + 1) es (fun v => R.getD (v - 1).toNat []) s4 (by simp; omega) (by simp; omega) hlt4 hM htf
  have hrs : (vsN R.length).map (fun v => nrm (R.getD (v - 1).toNat [])) = R := by
    refine List.ext_getElem (by simp) fun k h1 h2 => ?_
    simp only [vsN, List.getElem_map, List.getElem_range]
    rw [show ((k : Int) + 1 - 1).toNat = k by omega, getR_lt _ _ h2]
    exact faces_nrm h hR (List.getElem_mem _)
  rw [hrs, ← dm_eq] at hcall
  have hB4 := (hkp.H st.next (by omega)).trans hB1
  (repeat' (first | refine awp_seq ?_ | refine awp_block ?_ | ((first | refine awp_skip ?_ | refine awp_exit ?_); simp only [ak, reduceIte]) | (refine awp_ret ?_; simp only [ak, reduceIte]; simp [f2, f4, f5, hG]) | (refine awp_cond ?_; simp [f2, f4, f5, hG]; (try with_reducible refine ⟨?_, ?_⟩) <;> (try with_reducible intro hc) <;> try (exfalso; omega)) | ((first | (refine w_e [] ?_; intro J hJ; simp only []) | (refine w_q ?_; intro J hJ) | refine e_go ?_); simp [f2, f4, f5, hG]; (repeat refine ca ?_); (try ((try with_reducible refine ⟨?_, ?_⟩) <;> (try with_reducible intro hnil) <;> refine hJ _ _ ?_ <;> clear hJ J <;> simp only [ak, reduceIte] <;> try subst hnil)))))
  refine callK_of0 hcall (by simp [z0, z0L]) ?_; rintro r s5 ⟨rfl, hk5⟩
  have hB5 := (hk5.H st.next (by omega)).trans hB4
  (repeat' (first | refine awp_seq ?_ | refine awp_block ?_ | ((first | refine awp_skip ?_ | refine awp_exit ?_); simp only [ak, reduceIte]) | (refine awp_ret ?_; simp only [ak, reduceIte]; simp [f2, hB5]) | (refine awp_cond ?_; simp [f2, hB5]; (try with_reducible refine ⟨?_, ?_⟩) <;> (try with_reducible intro hc) <;> try (exfalso; omega)) | ((first | (refine w_e [] ?_; intro J hJ; simp only []) | (refine w_q ?_; intro J hJ) | refine e_go ?_); simp [f2, hB5]; (repeat refine ca ?_); (try ((try with_reducible refine ⟨?_, ?_⟩) <;> (try with_reducible intro hnil) <;> refine hJ _ _ ?_ <;> clear hJ J <;> simp only [ak, reduceIte] <;> try subst hnil)))))
  exact ⟨by rw [hdm]; simp [z0, z0L], (hK1.trans (hkp.trans hk5)).set (Nat.le_refl _) _⟩

end Go.Proofs.YtphdhggoaijfoaaGreat.Aw

namespace Go.Proofs.YtphdhggoaijfoaaGreat.Aw
open Go Go.RowKit Go.Proofs.YtphdhggoaijfoaaGreat.Pl Go.Proofs.YtphdhggoaijfoaaGreat.Eu
set_option linter.unusedSimpArgs false
set_option linter.unusedVariables false

theorem rows_take (R : List (List Int)) (k : Nat) (hk : k < R.length) : rowsL (R.take (k + 1)) = rowsL (R.take k) ++ [.sl 0 (R.getD k []).length (us (R.getD k []))] := by
  unfold rowsL
  rw [List.take_succ_eq_append_getElem hk, List.map_append, getR_lt _ _ hk]; rfl

set_option maxHeartbeats 4000000 in
theorem ref_dMap (m : Mp) (h : MapOk m) (R : List (List Int)) (hR : FacesOf m R) (st : St) (hv : m.g.vs.length ≤ 1000) (he : m.g.es.length ≤ 400) :
    ACalls Tryz.prog 24 [.ag (mpL m)] st (DMapP m R st) := by
  have hel := eds_length m.g.es
  have hRl := hR.len
  have hdl := darts_length m.g.es
  refine acalls_z0 ?_
  refine acalls_of_body tabOk Tryz.func24 rfl rfl Tryz.ntmps24 (rs := [.cell 2 28, .tmp 3]) rfl (by simp) ?_
  (repeat' (first | refine awp_seq ?_ | refine awp_block ?_ | ((first | refine awp_skip ?_ | refine awp_exit ?_); simp only [ak, reduceIte]) | (refine awp_ret ?_; simp only [ak, reduceIte]; simp []) | (refine awp_cond ?_; simp []; (try with_reducible refine ⟨?_, ?_⟩) <;> (try with_reducible intro hc) <;> try (exfalso; omega)) | ((first | (refine w_e [] ?_; intro J hJ; simp only []) | (refine w_q ?_; intro J hJ) | refine e_go ?_); simp []; (repeat refine ca ?_); (try ((try with_reducible refine ⟨?_, ?_⟩) <;> (try with_reducible intro hnil) <;> refine hJ _ _ ?_ <;> clear hJ J <;> simp only [ak, reduceIte] <;> try subst hnil)))))
  refine callK_ofE (ref_dBridges m h R hR _ hv (by omega)) (by simp) ?_; rintro r s1 ⟨⟨tb, rfl⟩, hk1⟩
  have hn1 := hk1.next
  simp only [new_next] at hn1
  have hG1 : s1.H st.next = .box 28 3 (mpL m) := by rw [hk1.H _ (by simp; omega)]; simp
  have hB1 : s1.H (st.next + 1) = .box 28 3 [.nil, .nil, .nil] := by rw [hk1.H _ (by simp)]; simp
  have hK1 : Keeps st s1 := ((Keeps.new _ _).trans (Keeps.new _ _)).trans hk1
  by_cases hbr : brg R m.g.es = []
  rotate_left
  · have hdm : dmap m R = (mp0, 20) := by unfold dmap; rw [if_pos hbr]
    have hb0 : 0 < (brg R m.g.es).length := List.length_pos_iff.2 hbr
    generalize (brg R m.g.es).length = bl at *
    (repeat' (first | refine awp_seq ?_ | refine awp_block ?_ | ((first | refine awp_skip ?_ | refine awp_exit ?_); simp only [ak, reduceIte]) | (refine awp_ret ?_; simp only [ak, reduceIte]; simp [hb0, hB1]) | (refine awp_cond ?_; simp [hb0, hB1]; (try with_reducible refine ⟨?_, ?_⟩) <;> (try with_reducible intro hc) <;> try (exfalso; omega)) | ((first | (refine w_e [] ?_; intro J hJ; simp only []) | (refine w_q ?_; intro J hJ) | refine e_go ?_); simp [hb0, hB1]; (repeat refine ca ?_); (try ((try with_reducible refine ⟨?_, ?_⟩) <;> (try with_reducible intro hnil) <;> refine hJ _ _ ?_ <;> clear hJ J <;> simp only [ak, reduceIte] <;> try subst hnil)))))
    refine ⟨by rw [hdm]; rfl, hK1.set (by omega) _⟩
  rw [hbr]
  (repeat' (first | refine awp_seq ?_ | refine awp_block ?_ | ((first | refine awp_skip ?_ | refine awp_exit ?_); simp only [ak, reduceIte]) | (refine awp_ret ?_; simp only [ak, reduceIte]; simp [hG1]) | (refine awp_cond ?_; simp [hG1]; (try with_reducible refine ⟨?_, ?_⟩) <;> (try with_reducible intro hc) <;> try (exfalso; omega)) | ((first | (refine w_e [] ?_; intro J hJ; simp only []) | (refine w_q ?_; intro J hJ) | refine e_go ?_); simp [hG1]; (repeat refine ca ?_); (try ((try with_reducible refine ⟨?_, ?_⟩) <;> (try with_reducible intro hnil) <;> refine hJ _ _ ?_ <;> clear hJ J <;> simp only [ak, reduceIte] <;> try subst hnil)))))
  refine callK_ofE (ref_Faces m h _ hv (by omega)) (by simp) ?_; rintro r s2 ⟨⟨tr, R', rfl, hR'⟩, hk2⟩
  obtain rfl := hR.unique hR'
  have hn2 := hk2.next
  have hG2 := (hk2.H _ (by omega)).trans hG1
  have hB2 := (hk2.H _ (by omega)).trans hB1
  have hK2 := hK1.trans hk2
  by_cases h64 : (64 : Int) < (R.length : Int)
  · have hdm : dmap m R = (mp0, 6) := by unfold dmap; rw [if_neg (fun e => e hbr), if_pos (by omega)]
    (repeat' (first | refine awp_seq ?_ | refine awp_block ?_ | ((first | refine awp_skip ?_ | refine awp_exit ?_); simp only [ak, reduceIte]) | (refine awp_ret ?_; simp only [ak, reduceIte]; simp [hB2, h64]) | (refine awp_cond ?_; simp [hB2, h64]; (try with_reducible refine ⟨?_, ?_⟩) <;> (try with_reducible intro hc) <;> try (exfalso; omega)) | ((first | (refine w_e [] ?_; intro J hJ; simp only []) | (refine w_q ?_; intro J hJ) | refine e_go ?_); simp [hB2, h64]; (repeat refine ca ?_); (try ((try with_reducible refine ⟨?_, ?_⟩) <;> (try with_reducible intro hnil) <;> refine hJ _ _ ?_ <;> clear hJ J <;> simp only [ak, reduceIte] <;> try subst hnil)))))
    refine ⟨by rw [hdm]; rfl, hK2.set (by omega) _⟩
  have hdm : dmap m R = (dm m R, 0) := by unfold dmap; rw [if_neg (fun e => e hbr), if_neg (by omega)]
  (repeat' (first | refine awp_seq ?_ | refine awp_block ?_ | ((first | refine awp_skip ?_ | refine awp_exit ?_); simp only [ak, reduceIte]) | (refine awp_ret ?_; simp only [ak, reduceIte]; simp [h64]) | (refine awp_cond ?_; simp [h64]; (try with_reducible refine ⟨?_, ?_⟩) <;> (try with_reducible intro hc) <;> try (exfalso; omega)) | ((first | (refine w_e [] ?_; intro J hJ; simp only []) | (refine w_q ?_; intro J hJ) | refine e_go ?_); simp [h64]; (repeat refine ca ?_); (try ((try with_reducible refine ⟨?_, ?_⟩) <;> (try with_reducible intro hnil) <;> refine hJ _ _ ?_ <;> clear hJ J <;> simp only [ak, reduceIte] <;> try subst hnil)))))
  refine awp_posG fun hpos => ?_
  refine awp_cell (e := 28) (s := 3) s2.next 29 1 [] [.nil, .nil] (by simp) ?_
  refine awp_cell (e := 28) (s := 3) s2.next 22 1 [.sl (s2.next + 1) 0 [], .nil] [] (by simp) ?_
  refine awp_range 22 21 23 44 (R.length) (fun j fr st2 => (fr 1 = .pt st.next 0 ∧ fr 2 = .pt (st.next + 1) 0) ∧ fr 5 = .pt s2.next 0 ∧ fr 4 = .sl tr R.length (rowsL R) ∧ Keeps s2 st2 ∧ s2.next < st2.next ∧ ∃ t u1, st2.H s2.next = .box 28 3 [.sl t j (us (vsN j)), .nil, .sl u1 j (rowsL (R.take j))] ∧ (t ≠ 0 ∧ s2.next < t ∧ t < st2.next) ∧ st2.H t = .own 29 1 j ∧ (u1 ≠ 0 ∧ s2.next < u1 ∧ u1 < st2.next) ∧ st2.H u1 = .own 22 1 j) ?_ ?_ ?_
  · refine ⟨⟨by simp, by simp⟩, by simp, by simp, ?_, by simp; omega, s2.next + 1, s2.next + 1 + 1, by simp [vsN], ⟨by omega, by omega, by simp⟩, by simp, ⟨by omega, by omega, by simp⟩, by simp; omega⟩
    exact ((((Keeps.new _ _).trans (Keeps.new _ _)).set (Nat.le_refl _) _).trans (Keeps.new _ _)).set (Nat.le_refl _) _
  · rintro j fr s3 hlt ⟨⟨f1, f2⟩, f5, f4, hkp, hlt3, t, u1, hG, ⟨t0, tl, tn⟩, htH, ⟨u0, ul, un⟩, huH⟩ fi fn JJ hJJ
    have hd := rowsL_drop R j hlt
    have hRl2 : j < (rowsL R).length := by simpa using hlt
    have hw := nat_add_one j (by omega)
    have hw2 : IntKind.u32.wrap ((j : Int) + 1) = (j : Int) + 1 := wrap_u32' _ (by omega) (by omega)
    have hvs := vsN_succ j
    have hrt := rows_take R j hlt
    have hrl : (rowsL (R.take j)).length = j := by simp; omega
    generalize R.getD j [] = c at *
    generalize rowsL (R.take j) = RR at *
    have htu : ¬ t = u1 := by rintro rfl; rw [htH] at huH; cases huH
    have hut : ¬ u1 = t := fun e => htu e.symm
    have m1 : ¬ t = s3.next := by omega
    have m2 : ¬ s2.next = s3.next := by omega
    have m3 : ¬ s2.next = s3.next + 1 := by omega
    have m4 : ¬ s2.next = t := by omega
    have m5 : ¬ s2.next = u1 := by omega
    have m6 : ¬ u1 = s3.next := by omega
    have m7 : ¬ u1 = s3.next + 1 := by omega
    have m8 : ¬ u1 = s3.next + 1 + 1 := by omega
    have m9 : ¬ u1 = s2.next := by omega
    have m10 : ¬ s3.next + 1 = s2.next := by omega
    have m11 : ¬ s2.next = s3.next + 1 + 1 := by omega
    have m12 : ¬ s2.next = s3.next + 1 + 1 + 1 := by omega
    have m13 : ¬ s3.next + 1 = u1 := by omega
    (repeat' (first | refine awp_seq ?_ | refine awp_block ?_ | ((first | refine awp_skip ?_ | refine awp_exit ?_); simp only [ak, reduceIte]) | (refine awp_ret ?_; simp only [ak, reduceIte]; simp [f5, fi, fn, hw, hw2, hG, htH, t0, m1, m2, m3, m4]) | (refine awp_cond ?_; simp [f5, fi, fn, hw, hw2, hG, htH, t0, m1, m2, m3, m4]; (try with_reducible refine ⟨?_, ?_⟩) <;> (try with_reducible intro hc) <;> try (exfalso; omega)) | ((first | (refine w_e [] ?_; intro J hJ; simp only []) | (refine w_q ?_; intro J hJ) | refine e_go ?_); simp [f5, fi, fn, hw, hw2, hG, htH, t0, m1, m2, m3, m4]; (repeat refine ca ?_); (try ((try with_reducible refine ⟨?_, ?_⟩) <;> (try with_reducible intro hnil) <;> refine hJ _ _ ?_ <;> clear hJ J <;> simp only [ak, reduceIte] <;> try subst hnil)))))
    (refine w_s [] [s2.next] [(0, true), (1, true), (2, true), (3, true), (4, true), (5, true), (6, true), (7, true), (8, true), (9, false)] ?_; intro J hJ; simp [f5, f4, hd, hRl2, hlt, huH, u0, hut, m2, m3, m5, m6, m7, m8, m9, m10, m11, m12, hrl, hG]; (repeat refine ca ?_); (try ((try with_reducible refine ⟨?_, ?_⟩) <;> (try with_reducible intro hnil) <;> refine hJ _ _ ?_ <;> clear hJ J <;> simp only [ak, reduceIte] <;> try subst hnil)))
    (repeat' (first | refine awp_seq ?_ | refine awp_block ?_ | ((first | refine awp_skip ?_ | refine awp_exit ?_); simp only [ak, reduceIte]) | (refine awp_ret ?_; simp only [ak, reduceIte]; simp []) | (refine awp_cond ?_; simp []; (try with_reducible refine ⟨?_, ?_⟩) <;> (try with_reducible intro hc) <;> try (exfalso; omega)) | ((first | (refine w_e [] ?_; intro J hJ; simp only []) | (refine w_q ?_; intro J hJ) | refine e_go ?_); simp []; (repeat refine ca ?_); (try ((try with_reducible refine ⟨?_, ?_⟩) <;> (try with_reducible intro hnil) <;> refine hJ _ _ ?_ <;> clear hJ J <;> simp only [ak, reduceIte] <;> try subst hnil)))))
    have m14 : ¬ s3.next + 1 + 1 + 1 = s2.next := by omega
    have m15 : ¬ s3.next + 1 = s3.next + 1 + 1 + 1 := by omega
    refine hJJ _ _ (by simp [fi]) (by simp [fn]) ⟨⟨by simp [f1], by simp [f2]⟩, by simp [f5], by simp [f4], ?_, by simp; omega, s3.next + 1, s3.next + 1 + 1 + 1, by rw [hvs, hrt]; simp, ⟨by omega, by omega, by simp⟩, ?_, ⟨by omega, by omega, by simp⟩, by simp [m14]⟩
    · exact (((((((hkp.trans (Keeps.new _ _)).set (by omega) _).trans (Keeps.new _ _)).set (by omega) _).trans (Keeps.new _ _)).set (by omega) _).trans (Keeps.new _ _)).set (by omega) _
    · rw [set_H, if_neg m10, new_H, if_neg (by simp only [set_next, new_next]; omega), set_H, if_neg m13, new_H, if_neg (by simp only [set_next, new_next]; omega), set_H, if_neg m10]
      simp
  rintro fr s3 ⟨⟨f1, f2⟩, f5, f4, hkp, hlt3, t, u1, hG, ⟨t0, tl, tn⟩, htH, ⟨u0, ul, un⟩, huH⟩
  rw [List.take_length] at hG
  have hn3 := hkp.next
  have hG3 := (hkp.H _ (by omega)).trans hG2
  have hB3 := (hkp.H _ (by omega)).trans hB2
  (repeat' (first | refine awp_seq ?_ | refine awp_block ?_ | ((first | refine awp_skip ?_ | refine awp_exit ?_); simp only [ak, reduceIte]) | (refine awp_ret ?_; simp only [ak, reduceIte]; simp [f1, hG3]) | (refine awp_cond ?_; simp [f1, hG3]; (try with_reducible refine ⟨?_, ?_⟩) <;> (try with_reducible intro hc) <;> try (exfalso; omega)) | ((first | (refine w_e [] ?_; intro J hJ; simp only []) | (refine w_q ?_; intro J hJ) | refine e_go ?_); simp [f1, hG3]; (repeat refine ca ?_); (try ((try with_reducible refine ⟨?_, ?_⟩) <;> (try with_reducible intro hnil) <;> refine hJ _ _ ?_ <;> clear hJ J <;> simp only [ak, reduceIte] <;> try subst hnil)))))
  refine awp_cell (e := 28) (s := 3) s2.next 55 3 [.sl t R.length (us (vsN R.length))] [.sl u1 R.length (rowsL R)] hG ?_
  refine awp_range 49 48 50 76 (m.g.es.length) (fun j fr st2 => (fr 1 = .pt st.next 0 ∧ fr 2 = .pt (st.next + 1) 0) ∧ fr 5 = .pt s2.next 0 ∧ fr 47 = .sl 0 m.g.es.length (eds m.g.es) ∧ Keeps s2 st2 ∧ s2.next < st2.next ∧ ∃ v1, st2.H s2.next = .box 28 3 [.sl t R.length (us (vsN R.length)), .sl v1 j (eds ((m.g.es.take j).map (edOf R))), .sl u1 R.length (rowsL R)] ∧ (v1 ≠ 0 ∧ s2.next < v1 ∧ v1 < st2.next) ∧ st2.H v1 = .own 55 3 j) ?_ ?_ ?_
  · refine ⟨⟨by simp [f1], by simp [f2]⟩, by simp [f5], by simp, ?_, by simp; omega, s3.next, by simp, ⟨by omega, by omega, by simp⟩, by simp; omega⟩
    exact (hkp.trans (Keeps.new _ _)).set (Nat.le_refl _) _
  · clear htH huH hG f1 f2 f5 f4 hG3 hB3 fr
    rintro j fr s4 hlt ⟨⟨f1, f2⟩, f5, f47, hkp4, hlt4, v1, hG, ⟨v0, vl, vn⟩, hvH⟩ fi fn JJ hJJ
    have hn4 := hkp4.next
    have hG4 := (hkp4.H _ (by omega)).trans hG2
    have hd := eds_drop m.g.es j hlt
    have hk3 : j * 3 < m.g.es.length * 3 := by omega
    have hxin : m.g.es.getD j ed0 ∈ m.g.es := by rw [getE_lt _ _ hlt]; exact List.getElem_mem _
    have hpos := h.g.pos _ hxin
    have hst := edsm_take R m.g.es j hlt
    have hel2 := eds_length ((m.g.es.take j).map (edOf R))
    rw [List.length_map, List.length_take, Nat.min_eq_left (by omega)] at hel2
    have r1 := tix_range R (2 * (m.g.es.getD j ed0).id)
    have r2 := tix_range R (2 * (m.g.es.getD j ed0).id + 1)
    generalize m.g.es.getD j ed0 = x at *
    obtain ⟨id, a, b⟩ := x
    simp only [edOf] at hd hst r1 r2 hpos
    generalize eds ((m.g.es.take j).map (edOf R)) = E at *
    have w1 : IntKind.u32.wrap (2 * id) = 2 * id := wrap_u32' _ (by omega) (by omega)
    have w2 : IntKind.u32.wrap (2 * id + 1) = 2 * id + 1 := wrap_u32' _ (by omega) (by omega)
    have w3 : IntKind.u32.wrap (tix R (2 * id) + 1) = tix R (2 * id) + 1 := wrap_u32' _ (by omega) (by omega)
    have w4 : IntKind.u32.wrap (tix R (2 * id + 1) + 1) = tix R (2 * id + 1) + 1 := wrap_u32' _ (by omega) (by omega)
    have m1 : ¬ st.next = s4.next := by omega
    have m2 : ¬ s2.next = s4.next := by omega
    (repeat' (first | refine awp_seq ?_ | refine awp_block ?_ | ((first | refine awp_skip ?_ | refine awp_exit ?_); simp only [ak, reduceIte]) | (refine awp_ret ?_; simp only [ak, reduceIte]; simp [f47, fi, fn, hd, hel, hk3]) | (refine awp_cond ?_; simp [f47, fi, fn, hd, hel, hk3]; (try with_reducible refine ⟨?_, ?_⟩) <;> (try with_reducible intro hc) <;> try (exfalso; omega)) | ((first | (refine w_e [] ?_; intro J hJ; simp only []) | (refine w_q ?_; intro J hJ) | refine e_go ?_); simp [f47, fi, fn, hd, hel, hk3]; (repeat refine ca ?_); (try ((try with_reducible refine ⟨?_, ?_⟩) <;> (try with_reducible intro hnil) <;> refine hJ _ _ ?_ <;> clear hJ J <;> simp only [ak, reduceIte] <;> try subst hnil)))))
    (refine w_s [] [st.next, s2.next, s4.next] [(0, true), (1, true), (2, true), (3, true), (4, true), (5, true), (6, true), (7, true), (8, true), (11, true), (12, true), (13, true), (14, true), (15, true), (9, true), (10, true), (16, true), (17, true), (18, true), (19, true), (20, true), (21, true), (22, true), (23, false)] ?_; intro J hJ; simp [f1, f5, hG, hG4, m1, m2, w1, w2]; (repeat refine ca ?_); (try ((try with_reducible refine ⟨?_, ?_⟩) <;> (try with_reducible intro hnil) <;> refine hJ _ _ ?_ <;> clear hJ J <;> simp only [ak, reduceIte] <;> try subst hnil)))
    refine dcallK_ofE (ref_dFace m h R hR (2 * id) _ hv (by omega)) (by simp) ?_; rintro r s5 ⟨rfl, hk5⟩
    have hn5 := hk5.next
    have g1 := hk5.H st.next (by simp; omega)
    have g2 := hk5.H s2.next (by simp; omega)
    have g3 := hk5.H s4.next (by simp)
    have g4 := hk5.H v1 (by simp; omega)
    simp [m1, m2, hG4, hG, hvH, show ¬ v1 = s4.next by omega] at g1 g2 g3 g4 hn5
    refine ⟨fun _ => by simp [g1, g2, g3, m1, m2, hG4, hG], ?_⟩
    (refine d_go ?_; simp [f1, f5, g1, g2, g3, m1, m2, hG4, hG, w1, w2, w3]; (repeat refine ca ?_); (try ((try with_reducible refine ⟨?_, ?_⟩) <;> (try with_reducible intro hnil) <;> refine hJ _ _ ?_ <;> clear hJ J <;> simp only [ak, reduceIte] <;> try subst hnil)))
    refine dcallK_ofE (ref_dFace m h R hR (2 * id + 1) _ hv (by omega)) (by simp) ?_; rintro r s6 ⟨rfl, hk6⟩
    have hn6 := hk6.next
    have k1 := (hk6.H st.next (by omega)).trans g1
    have k2 := (hk6.H s2.next (by omega)).trans g2
    have k3 := (hk6.H s4.next (by omega)).trans g3
    have k4 := (hk6.H v1 (by omega)).trans g4
    refine ⟨fun _ => by simp [k1, k2, k3, m1, m2, hG4, hG], ?_⟩
    have p1 : ¬ st.next = s6.next := by omega
    have p2 : ¬ s2.next = s6.next := by omega
    have p3 : ¬ s4.next = s6.next := by omega
    have p4 : ¬ st.next = s6.next + 1 := by omega
    have p5 : ¬ s2.next = s6.next + 1 := by omega
    have p6 : ¬ s4.next = s6.next + 1 := by omega
    have p7 : ¬ v1 = s6.next := by omega
    have p8 : ¬ st.next = v1 := by omega
    have p9 : ¬ s2.next = v1 := by omega
    have p10 : ¬ s4.next = v1 := by omega
    have p11 : ¬ s6.next + 1 = s2.next := by omega
    have p12 : ¬ st.next = s2.next := by omega
    have p13 : ¬ s4.next = s2.next := by omega
    (refine d_go ?_; simp [f1, f5, k1, k2, k3, k4, m1, m2, hG4, hG, w1, w2, w3, w4, p1, p2, p3, p4, p5, p6, p7, p8, p9, p10, p11, p12, p13, v0, hel2]; (repeat refine ca ?_); (try ((try with_reducible refine ⟨?_, ?_⟩) <;> (try with_reducible intro hnil) <;> refine hJ _ _ ?_ <;> clear hJ J <;> simp only [ak, reduceIte] <;> try subst hnil)))
    (repeat' (first | refine awp_seq ?_ | refine awp_block ?_ | ((first | refine awp_skip ?_ | refine awp_exit ?_); simp only [ak, reduceIte]) | (refine awp_ret ?_; simp only [ak, reduceIte]; simp []) | (refine awp_cond ?_; simp []; (try with_reducible refine ⟨?_, ?_⟩) <;> (try with_reducible intro hc) <;> try (exfalso; omega)) | ((first | (refine w_e [] ?_; intro J hJ; simp only []) | (refine w_q ?_; intro J hJ) | refine e_go ?_); simp []; (repeat refine ca ?_); (try ((try with_reducible refine ⟨?_, ?_⟩) <;> (try with_reducible intro hnil) <;> refine hJ _ _ ?_ <;> clear hJ J <;> simp only [ak, reduceIte] <;> try subst hnil)))))
    refine hJJ _ _ (by simp [fi]) (by simp [fn]) ⟨⟨by simp [f1], by simp [f2]⟩, by simp [f5], by simp [f47], ?_, by simp; omega, s6.next + 1, by rw [hst]; simp, ⟨by omega, by omega, by simp⟩, by simp [p11]⟩
    exact ((((((hkp4.trans (Keeps.new _ _)).trans hk5).trans hk6).trans (Keeps.new _ _)).set (by omega) _).trans (Keeps.new _ _)).set (by omega) _
  clear htH huH hG f1 f2 f5 f4 hG3 hB3 fr
  rintro fr s4 ⟨⟨f1, f2⟩, f5, f47, hkp4, hlt4, v1, hG, _⟩
  rw [List.take_length] at hG
  have hB4 := (hkp4.H _ (by omega)).trans hB2
  (repeat' (first | refine awp_seq ?_ | refine awp_block ?_ | ((first | refine awp_skip ?_ | refine awp_exit ?_); simp only [ak, reduceIte]) | (refine awp_ret ?_; simp only [ak, reduceIte]; simp [f2, f5, hG, hB4]) | (refine awp_cond ?_; simp [f2, f5, hG, hB4]; (try with_reducible refine ⟨?_, ?_⟩) <;> (try with_reducible intro hc) <;> try (exfalso; omega)) | ((first | (refine w_e [] ?_; intro J hJ; simp only []) | (refine w_q ?_; intro J hJ) | refine e_go ?_); simp [f2, f5, hG, hB4]; (repeat refine ca ?_); (try ((try with_reducible refine ⟨?_, ?_⟩) <;> (try with_reducible intro hnil) <;> refine hJ _ _ ?_ <;> clear hJ J <;> simp only [ak, reduceIte] <;> try subst hnil)))))
  refine ⟨?_, (hK2.trans hkp4).set (by omega) _⟩
  rw [hdm, dm_eq]
  simp [z0, z0L]

end Go.Proofs.YtphdhggoaijfoaaGreat.Aw

namespace Go.Proofs.YtphdhggoaijfoaaGreat.Aw
open Go Go.RowKit Go.Proofs.YtphdhggoaijfoaaGreat.Pl Go.Proofs.YtphdhggoaijfoaaGreat.Eu
set_option linter.unusedSimpArgs false
set_option linter.unusedVariables false

theorem perm_of_sub : ∀ {a b : List Int}, a.Nodup → (∀ x ∈ a, x ∈ b) → b.length ≤ a.length → a.Perm b
  | [], b, _, _, hl => by
    have : b = [] := List.eq_nil_of_length_eq_zero (by simpa using hl)
    rw [this]
  | x :: a, b, hn, hs, hl => by
    rw [List.nodup_cons] at hn
    have hxb : x ∈ b := hs x List.mem_cons_self
    have p1 : b.Perm (x :: b.erase x) := List.perm_cons_erase hxb
    refine List.Perm.trans (List.Perm.cons x (perm_of_sub hn.2 (fun y hy => ?_) ?_)) p1.symm
    · have hne : y ≠ x := by rintro rfl; exact hn.1 hy
      exact (List.mem_erase_of_ne hne).2 (hs y (List.mem_cons_of_mem _ hy))
    · have := p1.length_eq
      simp only [List.length_cons] at this hl
      omega
theorem okTurn.head {es : List Ed} (hi : es.Pairwise (fun x y => x.id < y.id)) {v : Int} {t : List Int} (h : okTurn es v t) : t.getD 0 0 = (ends es v).getD 0 0 := by
  cases he : ends es v with
  | nil => have := h.1; rw [he] at this; rw [this.eq_nil]
  | cons a r =>
    have hr := ends_rise hi v
    rw [he, List.pairwise_cons] at hr
    have hp := h.1
    rw [he] at hp
    have hne : t ≠ [] := by rintro rfl; have := hp.length_eq; simp at this
    obtain ⟨z, hz⟩ := nrm_head t hne
    rw [h.2] at hz
    have hm : mn t = a := by
      refine mn_eq (hp.mem_iff.2 List.mem_cons_self) fun x hx => ?_
      rcases List.mem_cons.1 (hp.mem_iff.1 hx) with rfl | h1
      · exact Int.le_refl _
      · have := hr.1 x h1; omega
    rw [hz, hm]; rfl
theorem okTurn.of {es : List Ed} (hi : es.Pairwise (fun x y => x.id < y.id)) {v : Int} {t : List Int} (h0 : t ≠ [] → t.getD 0 0 = (ends es v).getD 0 0) (hp : t.Perm (ends es v)) : okTurn es v t := by
  refine ⟨hp, ?_⟩
  cases t with
  | nil => rfl
  | cons a r =>
    refine nrm_of_head rfl (mn_eq List.mem_cons_self fun x hx => ?_)
    have h1 := h0 (by simp)
    cases he : ends es v with
    | nil => rw [he] at hp; have := hp.length_eq; simp at this
    | cons b s =>
      have hr := ends_rise hi v
      rw [he] at h1 hp
      rw [he, List.pairwise_cons] at hr
      have h1 : a = b := by simpa using h1
      subst h1
      rcases List.mem_cons.1 (hp.mem_iff.1 hx) with rfl | h2
      · exact Int.le_refl _
      · have := hr.1 x h2; omega

def rok (m : Mp) (k : Nat) : Prop := okTurn m.g.es (m.g.vs.getD k 0) (m.rots.getD k [])
/-- What Check answers. -/
noncomputable def rchk (m : Mp) : Int := if chk m.g ≠ 0 then chk m.g else if m.rots.length ≠ m.g.vs.length then 22 else @ite _ (∀ k, k < m.g.vs.length → rok m k) (Classical.propDecidable _) 0 22
theorem rchk_g {m : Mp} (h : chk m.g ≠ 0) : rchk m = chk m.g := by unfold rchk; rw [if_pos h]
theorem rchk_len {m : Mp} (h : chk m.g = 0) (h1 : m.rots.length ≠ m.g.vs.length) : rchk m = 22 := by unfold rchk; rw [if_neg (fun e => e h), if_pos h1]
theorem rchk_bad {m : Mp} (h : chk m.g = 0) {k : Nat} (hk : k < m.g.vs.length) (h1 : ¬ rok m k) : rchk m = 22 := by
  unfold rchk
  rw [if_neg (fun e => e h)]
  split
  · rfl
  · rw [if_neg (fun e => h1 (e k hk))]
theorem rchk_ok {m : Mp} (h : chk m.g = 0) (h1 : m.rots.length = m.g.vs.length) (h2 : ∀ k, k < m.g.vs.length → rok m k) : rchk m = 0 := by
  unfold rchk
  rw [if_neg (fun e => e h), if_neg (fun e => e h1), if_pos h2]
theorem rchk_zero {m : Mp} (h : rchk m = 0) : chk m.g = 0 ∧ MapOk m := by
  by_cases h0 : chk m.g = 0
  · refine ⟨h0, ?_⟩
    by_cases h1 : m.rots.length = m.g.vs.length
    · refine ⟨chk_goodE h0, h1, fun k hk => ?_⟩
      refine Classical.byContradiction fun hn => ?_
      rw [rchk_bad h0 hk hn] at h; cases h
    · rw [rchk_len h0 h1] at h; cases h
  · rw [rchk_g h0] at h; exact absurd h h0

theorem Values (l : List Int) (t : Nat) (st : St) : ACalls Tryz.prog 73 [.sl t l.length (us l)] st fun r st' => r = .fn (.func 84) [.pt st.next 0] ∧ st' = st.new (.box 22 1 [.sl t l.length (us l)]) := by
  refine acalls_of_body tabOk Tryz.func73 rfl rfl Tryz.ntmps73 (rs := [.tmp 2]) rfl (by simp) ?_
  (repeat' (first | refine awp_seq ?_ | refine awp_block ?_ | ((first | refine awp_skip ?_ | refine awp_exit ?_); simp only [ak, reduceIte]) | (refine awp_ret ?_; simp only [ak, reduceIte]; simp []) | (refine awp_cond ?_; simp []; (try with_reducible refine ⟨?_, ?_⟩) <;> (try with_reducible intro hc) <;> try (exfalso; omega)) | ((first | (refine w_e [] ?_; intro J hJ; simp only []) | (refine w_q ?_; intro J hJ) | refine e_go ?_); simp []; (repeat refine ca ?_); (try ((try with_reducible refine ⟨?_, ?_⟩) <;> (try with_reducible intro hnil) <;> refine hJ _ _ ?_ <;> clear hJ J <;> simp only [ak, reduceIte] <;> try subst hnil)))))
theorem Sorted (l : List Int) (t q : Nat) (st : St) (hl : l.length < 65536) (hH : st.H q = .box 22 1 [.sl t l.length (us l)]) :
    ACalls Tryz.prog 72 [.fn (.func 84) [.pt q 0]] st fun r st' => ∃ c, r = .sl 0 c.length (us c) ∧ c.Perm l ∧ c.Pairwise (· ≤ ·) ∧ Keeps st st' := by
  refine acalls_freeze ?_
  refine acalls_of_body tabOk Tryz.func72 rfl rfl Tryz.ntmps72 (rs := [.tmp 2]) rfl (by simp) ?_
  (repeat' (first | refine awp_seq ?_ | refine awp_block ?_ | ((first | refine awp_skip ?_ | refine awp_exit ?_); simp only [ak, reduceIte]) | (refine awp_ret ?_; simp only [ak, reduceIte]; simp []) | (refine awp_cond ?_; simp []; (try with_reducible refine ⟨?_, ?_⟩) <;> (try with_reducible intro hc) <;> try (exfalso; omega)) | ((first | (refine w_e [] ?_; intro J hJ; simp only []) | (refine w_q ?_; intro J hJ) | refine e_go ?_); simp []; (repeat refine ca ?_); (try ((try with_reducible refine ⟨?_, ?_⟩) <;> (try with_reducible intro hnil) <;> refine hJ _ _ ?_ <;> clear hJ J <;> simp only [ak, reduceIte] <;> try subst hnil)))))
  refine callK_ofE (Collect l (.sl t l.length (us l)) q _ (by omega) hH rfl) (by simp) ?_; rintro r s1 ⟨rfl, rfl⟩
  (repeat' (first | refine awp_seq ?_ | refine awp_block ?_ | ((first | refine awp_skip ?_ | refine awp_exit ?_); simp only [ak, reduceIte]) | (refine awp_ret ?_; simp only [ak, reduceIte]; simp []) | (refine awp_cond ?_; simp []; (try with_reducible refine ⟨?_, ?_⟩) <;> (try with_reducible intro hc) <;> try (exfalso; omega)) | ((first | (refine w_e [] ?_; intro J hJ; simp only []) | (refine w_q ?_; intro J hJ) | refine e_go ?_); simp []; (repeat refine ca ?_); (try ((try with_reducible refine ⟨?_, ?_⟩) <;> (try with_reducible intro hnil) <;> refine hJ _ _ ?_ <;> clear hJ J <;> simp only [ak, reduceIte] <;> try subst hnil)))))
  refine callK_ofE (SortU l st.next _ hl (by simp) (by simp)) (by simp) ?_; rintro r s2 ⟨c, hB, hp, hs, hoff⟩
  have hn2 := hoff.1
  simp only [new_next] at hn2
  have hK : Keeps st s2 := ⟨by omega, fun l' hl' => (hoff.2 l' (by omega) (by simp; omega)).trans ((Keeps.new st _).H l' hl')⟩
  have hcl := hp.length_eq
  (repeat' (first | refine awp_seq ?_ | refine awp_block ?_ | ((first | refine awp_skip ?_ | refine awp_exit ?_); simp only [ak, reduceIte]) | (refine awp_ret ?_; simp only [ak, reduceIte]; simp []) | (refine awp_cond ?_; simp []; (try with_reducible refine ⟨?_, ?_⟩) <;> (try with_reducible intro hc) <;> try (exfalso; omega)) | ((first | (refine w_e [] ?_; intro J hJ; simp only []) | (refine w_q ?_; intro J hJ) | refine e_go ?_); simp []; (repeat refine ca ?_); (try ((try with_reducible refine ⟨?_, ?_⟩) <;> (try with_reducible intro hnil) <;> refine hJ _ _ ?_ <;> clear hJ J <;> simp only [ak, reduceIte] <;> try subst hnil)))))
  refine ⟨st.next, l.length, ⟨rfl, rfl⟩, _, _, _, hB, by simp; omega, c, ?_, hp, hs, hK.set (Nat.le_refl _) _⟩
  rw [List.take_of_length_le (by simp; omega)]
  simp [hcl]

set_option maxHeartbeats 1000000 in
theorem rCheck (m : Mp) (st : St) (hv : m.g.vs.length ≤ 1000) (he : m.g.es.length ≤ 1000) (hr : m.rots.length ≤ 1000) (hs : ∀ t ∈ m.rots, t.length ≤ 1000) :
    ACalls Tryz.prog 57 [.ag (mpL m)] st fun r st' => r = i (rchk m) ∧ Keeps st st' := by
  refine acalls_of_body tabOk Tryz.func57 rfl rfl Tryz.ntmps57 (rs := [.tmp 2]) rfl (by simp) ?_
  (repeat' (first | refine awp_seq ?_ | refine awp_block ?_ | ((first | refine awp_skip ?_ | refine awp_exit ?_); simp only [ak, reduceIte]) | (refine awp_ret ?_; simp only [ak, reduceIte]; simp []) | (refine awp_cond ?_; simp []; (try with_reducible refine ⟨?_, ?_⟩) <;> (try with_reducible intro hc) <;> try (exfalso; omega)) | ((first | (refine w_e [] ?_; intro J hJ; simp only []) | (refine w_q ?_; intro J hJ) | refine e_go ?_); simp []; (repeat refine ca ?_); (try ((try with_reducible refine ⟨?_, ?_⟩) <;> (try with_reducible intro hnil) <;> refine hJ _ _ ?_ <;> clear hJ J <;> simp only [ak, reduceIte] <;> try subst hnil)))))
  refine callK_ofE (Check m.g _ hv he) (by simp) ?_; rintro r s1 ⟨rfl, hk1⟩
  have hn1 := hk1.next
  simp only [new_next] at hn1
  have hG1 : s1.H st.next = .box 28 3 (mpL m) := by rw [hk1.H _ (by simp)]; simp
  have hK1 : Keeps st s1 := (Keeps.new _ _).trans hk1
  by_cases hc : chk m.g = 0
  rotate_left
  · have hrc := rchk_g hc
    generalize chk m.g = x at *
    (repeat' (first | refine awp_seq ?_ | refine awp_block ?_ | ((first | refine awp_skip ?_ | refine awp_exit ?_); simp only [ak, reduceIte]) | (refine awp_ret ?_; simp only [ak, reduceIte]; simp [hc, hrc]) | (refine awp_cond ?_; simp [hc, hrc]; (try with_reducible refine ⟨?_, ?_⟩) <;> (try with_reducible intro hc) <;> try (exfalso; omega)) | ((first | (refine w_e [] ?_; intro J hJ; simp only []) | (refine w_q ?_; intro J hJ) | refine e_go ?_); simp [hc, hrc]; (repeat refine ca ?_); (try ((try with_reducible refine ⟨?_, ?_⟩) <;> (try with_reducible intro hnil) <;> refine hJ _ _ ?_ <;> clear hJ J <;> simp only [ak, reduceIte] <;> try subst hnil)))))
    exact hK1
  have hgd := chk_goodE hc
  have hid : idOk m.g.es := fun x hx => by have := hgd.pos x hx; omega
  by_cases hl : m.rots.length = m.g.vs.length
  rotate_left
  · have hrc := rchk_len hc hl
    (repeat' (first | refine awp_seq ?_ | refine awp_block ?_ | ((first | refine awp_skip ?_ | refine awp_exit ?_); simp only [ak, reduceIte]) | (refine awp_ret ?_; simp only [ak, reduceIte]; simp [hc, hrc, hG1, hl]) | (refine awp_cond ?_; simp [hc, hrc, hG1, hl]; (try with_reducible refine ⟨?_, ?_⟩) <;> (try with_reducible intro hc) <;> try (exfalso; omega)) | ((first | (refine w_e [] ?_; intro J hJ; simp only []) | (refine w_q ?_; intro J hJ) | refine e_go ?_); simp [hc, hrc, hG1, hl]; (repeat refine ca ?_); (try ((try with_reducible refine ⟨?_, ?_⟩) <;> (try with_reducible intro hnil) <;> refine hJ _ _ ?_ <;> clear hJ J <;> simp only [ak, reduceIte] <;> try subst hnil)))))
    exact hK1
  (repeat' (first | refine awp_seq ?_ | refine awp_block ?_ | ((first | refine awp_skip ?_ | refine awp_exit ?_); simp only [ak, reduceIte]) | (refine awp_ret ?_; simp only [ak, reduceIte]; simp [hc, hG1, hl]) | (refine awp_cond ?_; simp [hc, hG1, hl]; (try with_reducible refine ⟨?_, ?_⟩) <;> (try with_reducible intro hc) <;> try (exfalso; omega)) | ((first | (refine w_e [] ?_; intro J hJ; simp only []) | (refine w_q ?_; intro J hJ) | refine e_go ?_); simp [hc, hG1, hl]; (repeat refine ca ?_); (try ((try with_reducible refine ⟨?_, ?_⟩) <;> (try with_reducible intro hnil) <;> refine hJ _ _ ?_ <;> clear hJ J <;> simp only [ak, reduceIte] <;> try subst hnil)))))
  refine awp_range 26 25 27 63 (m.g.vs.length) (fun j fr st2 => fr 1 = .pt st.next 0 ∧ fr 24 = .sl 0 m.g.vs.length (us m.g.vs) ∧ st2.H st.next = .box 28 3 (mpL m) ∧ Keeps st st2 ∧ st.next < st2.next ∧ ∀ k, k < j → rok m k) ?_ ?_ ?_
  · exact ⟨by simp, by simp, hG1, hK1, by omega, fun k hk => by omega⟩
  · rintro j fr st2 hlt ⟨f1, f24, hG, hkp, hsn, hok⟩ fi fn JJ hJJ
    have hd := us_drop_getD m.g.vs j hlt
    have hd2 := rowsL_drop m.rots j (by omega)
    have hRl : j < (rowsL m.rots).length := by simp; omega
    have htin : m.rots.getD j [] ∈ m.rots := by rw [getR_lt _ _ (by omega)]; exact List.getElem_mem _
    have htl := hs _ htin
    have hbad := fun h => rchk_bad hc hlt h
    have hnx : rok m j → ∀ k, k < j + 1 → rok m k := fun h k hk => by
      rcases Nat.lt_or_ge k j with h1 | h1
      · exact hok k h1
      · obtain rfl : k = j := by omega
        exact h
    unfold rok at hbad hnx
    have hel : (ends m.g.es (m.g.vs.getD j 0)).length ≤ 2 * m.g.es.length := flat_len _ (end1_len _) _
    have hhd := @okTurn.head m.g.es hgd.ids (m.g.vs.getD j 0) (m.rots.getD j [])
    have hof := @okTurn.of m.g.es hgd.ids (m.g.vs.getD j 0) (m.rots.getD j [])
    have hrise := ends_rise hgd.ids (m.g.vs.getD j 0)
    have hpm : okTurn m.g.es (m.g.vs.getD j 0) (m.rots.getD j []) → (m.rots.getD j []).Perm (ends m.g.es (m.g.vs.getD j 0)) := fun h => h.1
    generalize okTurn m.g.es (m.g.vs.getD j 0) (m.rots.getD j []) = OK at *
    generalize m.rots.getD j [] = t at *
    generalize m.g.vs.getD j 0 = v at *
    (repeat' (first | refine awp_seq ?_ | refine awp_block ?_ | ((first | refine awp_skip ?_ | refine awp_exit ?_); simp only [ak, reduceIte]) | (refine awp_ret ?_; simp only [ak, reduceIte]; simp [f24, fi, fn, hd, hlt]) | (refine awp_cond ?_; simp [f24, fi, fn, hd, hlt]; (try with_reducible refine ⟨?_, ?_⟩) <;> (try with_reducible intro hc) <;> try (exfalso; omega)) | ((first | (refine w_e [] ?_; intro J hJ; simp only []) | (refine w_q ?_; intro J hJ) | refine e_go ?_); simp [f24, fi, fn, hd, hlt]; (repeat refine ca ?_); (try ((try with_reducible refine ⟨?_, ?_⟩) <;> (try with_reducible intro hnil) <;> refine hJ _ _ ?_ <;> clear hJ J <;> simp only [ak, reduceIte] <;> try subst hnil)))))
    (refine w_s [] [st.next] [(0, true), (1, true), (2, true), (3, true), (4, true), (5, true), (6, true), (7, true), (8, true), (9, true), (10, true)] ?_; intro J hJ; simp [f1, fi, hG, hd2, hRl, hlt, hl]; (repeat refine ca ?_); (try ((try with_reducible refine ⟨?_, ?_⟩) <;> (try with_reducible intro hnil) <;> refine hJ _ _ ?_ <;> clear hJ J <;> simp only [ak, reduceIte] <;> try subst hnil)))
    refine dcallK_ofE (Ends m.g v _ he hid) (by simp) ?_; rintro r s3 ⟨⟨te, rfl⟩, hk3⟩
    have hn3 := hk3.next
    have hG3 := (hk3.H st.next (by omega)).trans hG
    have hK3 := hkp.trans hk3
    refine ⟨fun _ => by simp [hG3, hG], ?_⟩
    (refine d_go ?_; simp [f1, fi, hG3, hG, hd2, hRl, hlt, hl]; (repeat refine ca ?_); (try ((try with_reducible refine ⟨?_, ?_⟩) <;> (try with_reducible intro hnil) <;> refine hJ _ _ ?_ <;> clear hJ J <;> simp only [ak, reduceIte] <;> try subst hnil)))
    generalize ends m.g.es v = E at *
    by_cases h1 : t.length = E.length
    rotate_left
    · have hrc := hbad fun h => h1 (hpm h).length_eq
      (repeat' (first | refine awp_seq ?_ | refine awp_block ?_ | ((first | refine awp_skip ?_ | refine awp_exit ?_); simp only [ak, reduceIte]) | (refine awp_ret ?_; simp only [ak, reduceIte]; simp [h1, hrc]) | (refine awp_cond ?_; simp [h1, hrc]; (try with_reducible refine ⟨?_, ?_⟩) <;> (try with_reducible intro hc) <;> try (exfalso; omega)) | ((first | (refine w_e [] ?_; intro J hJ; simp only []) | (refine w_q ?_; intro J hJ) | refine e_go ?_); simp [h1, hrc]; (repeat refine ca ?_); (try ((try with_reducible refine ⟨?_, ?_⟩) <;> (try with_reducible intro hnil) <;> refine hJ _ _ ?_ <;> clear hJ J <;> simp only [ak, reduceIte] <;> try subst hnil)))))
      exact hK3
    by_cases hb : t.length ≠ 0 ∧ t.getD 0 0 ≠ E.getD 0 0
    · have h0 : 0 < t.length := by omega
      have h0' : 0 < E.length := by omega
      have e1 := us_head t h0
      have e2 := us_head E h0'
      have e3 : ¬ t[0] = E[0] := by have := hb.2; rwa [getD_lt _ _ h0, getD_lt _ _ h0'] at this
      have hrc := hbad fun h => hb.2 (hhd h)
      (repeat' (first | refine awp_seq ?_ | refine awp_block ?_ | ((first | refine awp_skip ?_ | refine awp_exit ?_); simp only [ak, reduceIte]) | (refine awp_ret ?_; simp only [ak, reduceIte]; simp [h1, hrc, e1, e2, e3, h0', h0]) | (refine awp_cond ?_; simp [h1, hrc, e1, e2, e3, h0', h0]; (try with_reducible refine ⟨?_, ?_⟩) <;> (try with_reducible intro hc) <;> try (exfalso; omega)) | ((first | (refine w_e [] ?_; intro J hJ; simp only []) | (refine w_q ?_; intro J hJ) | refine e_go ?_); simp [h1, hrc, e1, e2, e3, h0', h0]; (repeat refine ca ?_); (try ((try with_reducible refine ⟨?_, ?_⟩) <;> (try with_reducible intro hnil) <;> refine hJ _ _ ?_ <;> clear hJ J <;> simp only [ak, reduceIte] <;> try subst hnil)))))
      exact hK3
    have hof2 := hof fun hne => Classical.byContradiction fun e => hb ⟨fun h => hne (List.eq_nil_of_length_eq_zero h), e⟩
    rcases Nat.eq_zero_or_pos t.length with h0 | h0
    · have h0e : E.length = 0 := by omega
      (repeat' (first | refine awp_seq ?_ | refine awp_block ?_ | ((first | refine awp_skip ?_ | refine awp_exit ?_); simp only [ak, reduceIte]) | (refine awp_ret ?_; simp only [ak, reduceIte]; simp [h0, h0e]) | (refine awp_cond ?_; simp [h0, h0e]; (try with_reducible refine ⟨?_, ?_⟩) <;> (try with_reducible intro hc) <;> try (exfalso; omega)) | ((first | (refine w_e [] ?_; intro J hJ; simp only []) | (refine w_q ?_; intro J hJ) | refine e_go ?_); simp [h0, h0e]; (repeat refine ca ?_); (try ((try with_reducible refine ⟨?_, ?_⟩) <;> (try with_reducible intro hnil) <;> refine hJ _ _ ?_ <;> clear hJ J <;> simp only [ak, reduceIte] <;> try subst hnil)))))
      refine callK_ofE (Values t 0 _) (by simp <;> omega) ?_; rintro r s4 ⟨rfl, rfl⟩
      (repeat' (first | refine awp_seq ?_ | refine awp_block ?_ | ((first | refine awp_skip ?_ | refine awp_exit ?_); simp only [ak, reduceIte]) | (refine awp_ret ?_; simp only [ak, reduceIte]; simp []) | (refine awp_cond ?_; simp []; (try with_reducible refine ⟨?_, ?_⟩) <;> (try with_reducible intro hc) <;> try (exfalso; omega)) | ((first | (refine w_e [] ?_; intro J hJ; simp only []) | (refine w_q ?_; intro J hJ) | refine e_go ?_); simp []; (repeat refine ca ?_); (try ((try with_reducible refine ⟨?_, ?_⟩) <;> (try with_reducible intro hnil) <;> refine hJ _ _ ?_ <;> clear hJ J <;> simp only [ak, reduceIte] <;> try subst hnil)))))
      refine callK_ofE (Sorted t 0 s3.next _ (by omega) (by simp)) (by simp) ?_; rintro r s5 ⟨c, rfl, hp, hsrt, hk5⟩
      have hK5 := (hK3.trans (Keeps.new _ _)).trans hk5
      have hn5 := hk5.next
      have hG5 := (hk5.H st.next (by simp; omega)).trans (((Keeps.new s3 _).H st.next (by omega)).trans hG3)
      simp only [new_next] at hn5
      (repeat' (first | refine awp_seq ?_ | refine awp_block ?_ | ((first | refine awp_skip ?_ | refine awp_exit ?_); simp only [ak, reduceIte]) | (refine awp_ret ?_; simp only [ak, reduceIte]; simp []) | (refine awp_cond ?_; simp []; (try with_reducible refine ⟨?_, ?_⟩) <;> (try with_reducible intro hc) <;> try (exfalso; omega)) | ((first | (refine w_e [] ?_; intro J hJ; simp only []) | (refine w_q ?_; intro J hJ) | refine e_go ?_); simp []; (repeat refine ca ?_); (try ((try with_reducible refine ⟨?_, ?_⟩) <;> (try with_reducible intro hnil) <;> refine hJ _ _ ?_ <;> clear hJ J <;> simp only [ak, reduceIte] <;> try subst hnil)))))
      refine callK_ofE (Equal c E 0 te _ (by have := hp.length_eq; unfold small; omega)) (by simp <;> omega) ?_; rintro r s6 ⟨rfl, rfl⟩
      by_cases h3 : c = E
      · (repeat' (first | refine awp_seq ?_ | refine awp_block ?_ | ((first | refine awp_skip ?_ | refine awp_exit ?_); simp only [ak, reduceIte]) | (refine awp_ret ?_; simp only [ak, reduceIte]; simp [h3]) | (refine awp_cond ?_; simp [h3]; (try with_reducible refine ⟨?_, ?_⟩) <;> (try with_reducible intro hc) <;> try (exfalso; omega)) | ((first | (refine w_e [] ?_; intro J hJ; simp only []) | (refine w_q ?_; intro J hJ) | refine e_go ?_); simp [h3]; (repeat refine ca ?_); (try ((try with_reducible refine ⟨?_, ?_⟩) <;> (try with_reducible intro hnil) <;> refine hJ _ _ ?_ <;> clear hJ J <;> simp only [ak, reduceIte] <;> try subst hnil)))))
        exact hJJ _ _ (by simp [fi]) (by simp [fn]) ⟨by simp [f1], by simp [f24], hG5, hK5, by omega, hnx (hof2 (h3 ▸ hp.symm))⟩
      · have hrc := hbad fun h => h3 (srt_unique hsrt (hrise.imp fun h => by omega) (hp.trans (hpm h)))
        (repeat' (first | refine awp_seq ?_ | refine awp_block ?_ | ((first | refine awp_skip ?_ | refine awp_exit ?_); simp only [ak, reduceIte]) | (refine awp_ret ?_; simp only [ak, reduceIte]; simp [h3, hrc]) | (refine awp_cond ?_; simp [h3, hrc]; (try with_reducible refine ⟨?_, ?_⟩) <;> (try with_reducible intro hc) <;> try (exfalso; omega)) | ((first | (refine w_e [] ?_; intro J hJ; simp only []) | (refine w_q ?_; intro J hJ) | refine e_go ?_); simp [h3, hrc]; (repeat refine ca ?_); (try ((try with_reducible refine ⟨?_, ?_⟩) <;> (try with_reducible intro hnil) <;> refine hJ _ _ ?_ <;> clear hJ J <;> simp only [ak, reduceIte] <;> try subst hnil)))))
        exact hK5
    · have h0' : 0 < E.length := by omega
      have e1 := us_head t h0
      have e2 := us_head E h0'
      have e3 : t[0] = E[0] := Classical.byContradiction fun h => hb ⟨by omega, by rwa [getD_lt _ _ h0, getD_lt _ _ h0']⟩
      (repeat' (first | refine awp_seq ?_ | refine awp_block ?_ | ((first | refine awp_skip ?_ | refine awp_exit ?_); simp only [ak, reduceIte]) | (refine awp_ret ?_; simp only [ak, reduceIte]; simp [h1, e1, e2, e3, h0', h0]) | (refine awp_cond ?_; simp [h1, e1, e2, e3, h0', h0]; (try with_reducible refine ⟨?_, ?_⟩) <;> (try with_reducible intro hc) <;> try (exfalso; omega)) | ((first | (refine w_e [] ?_; intro J hJ; simp only []) | (refine w_q ?_; intro J hJ) | refine e_go ?_); simp [h1, e1, e2, e3, h0', h0]; (repeat refine ca ?_); (try ((try with_reducible refine ⟨?_, ?_⟩) <;> (try with_reducible intro hnil) <;> refine hJ _ _ ?_ <;> clear hJ J <;> simp only [ak, reduceIte] <;> try subst hnil)))))
      refine callK_ofE (Values t 0 _) (by simp <;> omega) ?_; rintro r s4 ⟨rfl, rfl⟩
      (repeat' (first | refine awp_seq ?_ | refine awp_block ?_ | ((first | refine awp_skip ?_ | refine awp_exit ?_); simp only [ak, reduceIte]) | (refine awp_ret ?_; simp only [ak, reduceIte]; simp []) | (refine awp_cond ?_; simp []; (try with_reducible refine ⟨?_, ?_⟩) <;> (try with_reducible intro hc) <;> try (exfalso; omega)) | ((first | (refine w_e [] ?_; intro J hJ; simp only []) | (refine w_q ?_; intro J hJ) | refine e_go ?_); simp []; (repeat refine ca ?_); (try ((try with_reducible refine ⟨?_, ?_⟩) <;> (try with_reducible intro hnil) <;> refine hJ _ _ ?_ <;> clear hJ J <;> simp only [ak, reduceIte] <;> try subst hnil)))))
      refine callK_ofE (Sorted t 0 s3.next _ (by omega) (by simp)) (by simp) ?_; rintro r s5 ⟨c, rfl, hp, hsrt, hk5⟩
      have hK5 := (hK3.trans (Keeps.new _ _)).trans hk5
      have hn5 := hk5.next
      have hG5 := (hk5.H st.next (by simp; omega)).trans (((Keeps.new s3 _).H st.next (by omega)).trans hG3)
      simp only [new_next] at hn5
      (repeat' (first | refine awp_seq ?_ | refine awp_block ?_ | ((first | refine awp_skip ?_ | refine awp_exit ?_); simp only [ak, reduceIte]) | (refine awp_ret ?_; simp only [ak, reduceIte]; simp []) | (refine awp_cond ?_; simp []; (try with_reducible refine ⟨?_, ?_⟩) <;> (try with_reducible intro hc) <;> try (exfalso; omega)) | ((first | (refine w_e [] ?_; intro J hJ; simp only []) | (refine w_q ?_; intro J hJ) | refine e_go ?_); simp []; (repeat refine ca ?_); (try ((try with_reducible refine ⟨?_, ?_⟩) <;> (try with_reducible intro hnil) <;> refine hJ _ _ ?_ <;> clear hJ J <;> simp only [ak, reduceIte] <;> try subst hnil)))))
      refine callK_ofE (Equal c E 0 te _ (by have := hp.length_eq; unfold small; omega)) (by simp <;> omega) ?_; rintro r s6 ⟨rfl, rfl⟩
      by_cases h3 : c = E
      · (repeat' (first | refine awp_seq ?_ | refine awp_block ?_ | ((first | refine awp_skip ?_ | refine awp_exit ?_); simp only [ak, reduceIte]) | (refine awp_ret ?_; simp only [ak, reduceIte]; simp [h3]) | (refine awp_cond ?_; simp [h3]; (try with_reducible refine ⟨?_, ?_⟩) <;> (try with_reducible intro hc) <;> try (exfalso; omega)) | ((first | (refine w_e [] ?_; intro J hJ; simp only []) | (refine w_q ?_; intro J hJ) | refine e_go ?_); simp [h3]; (repeat refine ca ?_); (try ((try with_reducible refine ⟨?_, ?_⟩) <;> (try with_reducible intro hnil) <;> refine hJ _ _ ?_ <;> clear hJ J <;> simp only [ak, reduceIte] <;> try subst hnil)))))
        exact hJJ _ _ (by simp [fi]) (by simp [fn]) ⟨by simp [f1], by simp [f24], hG5, hK5, by omega, hnx (hof2 (h3 ▸ hp.symm))⟩
      · have hrc := hbad fun h => h3 (srt_unique hsrt (hrise.imp fun h => by omega) (hp.trans (hpm h)))
        (repeat' (first | refine awp_seq ?_ | refine awp_block ?_ | ((first | refine awp_skip ?_ | refine awp_exit ?_); simp only [ak, reduceIte]) | (refine awp_ret ?_; simp only [ak, reduceIte]; simp [h3, hrc]) | (refine awp_cond ?_; simp [h3, hrc]; (try with_reducible refine ⟨?_, ?_⟩) <;> (try with_reducible intro hc) <;> try (exfalso; omega)) | ((first | (refine w_e [] ?_; intro J hJ; simp only []) | (refine w_q ?_; intro J hJ) | refine e_go ?_); simp [h3, hrc]; (repeat refine ca ?_); (try ((try with_reducible refine ⟨?_, ?_⟩) <;> (try with_reducible intro hnil) <;> refine hJ _ _ ?_ <;> clear hJ J <;> simp only [ak, reduceIte] <;> try subst hnil)))))
        exact hK5
  · rintro fr st2 ⟨f1, f24, hG, hkp, hsn, hok⟩
    have hrc := rchk_ok hc hl hok
    (repeat' (first | refine awp_seq ?_ | refine awp_block ?_ | ((first | refine awp_skip ?_ | refine awp_exit ?_); simp only [ak, reduceIte]) | (refine awp_ret ?_; simp only [ak, reduceIte]; simp [hrc]) | (refine awp_cond ?_; simp [hrc]; (try with_reducible refine ⟨?_, ?_⟩) <;> (try with_reducible intro hc) <;> try (exfalso; omega)) | ((first | (refine w_e [] ?_; intro J hJ; simp only []) | (refine w_q ?_; intro J hJ) | refine e_go ?_); simp [hrc]; (repeat refine ca ?_); (try ((try with_reducible refine ⟨?_, ?_⟩) <;> (try with_reducible intro hnil) <;> refine hJ _ _ ?_ <;> clear hJ J <;> simp only [ak, reduceIte] <;> try subst hnil)))))
    exact hkp

end Go.Proofs.YtphdhggoaijfoaaGreat.Aw
