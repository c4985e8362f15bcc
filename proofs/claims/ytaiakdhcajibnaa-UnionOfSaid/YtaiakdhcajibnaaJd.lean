/- Graphs: Check, by the program and by the document; the law GraphChecks. Graphs and maps, made: Clone of edges, copied, Of; Same. Sets picked, to be written to: Pick, All. Rows of edges, in place: ranges swapped, rotated. -/
import Derived.Test.YtaiakdhcajibnaaJc
namespace Go.Proofs.Ytaiakdhcajibnaa.Aw
open Go Go.RowKit Go.Proofs.Ytaiakdhcajibnaa.Pl
set_option linter.unusedSimpArgs false
set_option linter.unusedVariables false

theorem getD_get (l : List Int) (k : Nat) (hk : k < l.length) : l.getD k 0 = l[k] := by
  rw [List.getD_eq_getElem?_getD, List.getElem?_eq_getElem hk]; rfl

theorem Check (g : Gr) (st : St) (hv : g.vs.length ≤ 1000) (he : g.es.length ≤ 1000) :
    ACalls Try.prog 35 [.ag (grL g)] st fun r st' => r = i (chk g) ∧ Keeps st st' := by
  have hsm : small g.vs := by unfold small; omega
  refine acalls_of_body tabOk Try.func35 rfl rfl Try.ntmps35 (rs := [.tmp 2]) rfl (by simp) ?_
  by_cases h1 : (64 : Int) < (g.vs.length : Int)
  · have : chk g = 6 := by unfold chk; rw [if_pos (by omega)]
    (repeat' (first | refine awp_seq ?_ | refine awp_block ?_ | ((first | refine awp_skip ?_ | refine awp_exit ?_); simp only [ak, reduceIte]) | (refine awp_ret ?_; simp only [ak, reduceIte]; simp [h1, this]) | (refine awp_cond ?_; simp [h1, this]; (try with_reducible refine ⟨?_, ?_⟩) <;> (try with_reducible intro hc) <;> try (exfalso; omega)) | ((first | (refine w_e [] ?_; intro J hJ; simp only []) | (refine w_q ?_; intro J hJ) | refine e_go ?_); simp [h1, this]; (repeat refine ca ?_); (try ((try with_reducible refine ⟨?_, ?_⟩) <;> (try with_reducible intro hnil) <;> refine hJ _ _ ?_ <;> clear hJ J <;> simp only [ak, reduceIte] <;> try subst hnil)))))
    exact Keeps.new _ _
  by_cases h2 : (160 : Int) < (g.es.length : Int)
  · have : chk g = 6 := by unfold chk; rw [if_pos (by omega)]
    (repeat' (first | refine awp_seq ?_ | refine awp_block ?_ | ((first | refine awp_skip ?_ | refine awp_exit ?_); simp only [ak, reduceIte]) | (refine awp_ret ?_; simp only [ak, reduceIte]; simp [h1, h2, this]) | (refine awp_cond ?_; simp [h1, h2, this]; (try with_reducible refine ⟨?_, ?_⟩) <;> (try with_reducible intro hc) <;> try (exfalso; omega)) | ((first | (refine w_e [] ?_; intro J hJ; simp only []) | (refine w_q ?_; intro J hJ) | refine e_go ?_); simp [h1, h2, this]; (repeat refine ca ?_); (try ((try with_reducible refine ⟨?_, ?_⟩) <;> (try with_reducible intro hnil) <;> refine hJ _ _ ?_ <;> clear hJ J <;> simp only [ak, reduceIte] <;> try subst hnil)))))
    exact Keeps.new _ _
  have hch : chk g = if firstNZ (badV g) g.vs.length ≠ 0 then firstNZ (badV g) g.vs.length else firstNZ (badE g) g.es.length := by unfold chk; rw [if_neg (by omega)]
  (repeat' (first | refine awp_seq ?_ | refine awp_block ?_ | ((first | refine awp_skip ?_ | refine awp_exit ?_); simp only [ak, reduceIte]) | (refine awp_ret ?_; simp only [ak, reduceIte]; simp [h1, h2]) | (refine awp_cond ?_; simp [h1, h2]; (try with_reducible refine ⟨?_, ?_⟩) <;> (try with_reducible intro hc) <;> try (exfalso; omega)) | ((first | (refine w_e [] ?_; intro J hJ; simp only []) | (refine w_q ?_; intro J hJ) | refine e_go ?_); simp [h1, h2]; (repeat refine ca ?_); (try ((try with_reducible refine ⟨?_, ?_⟩) <;> (try with_reducible intro hnil) <;> refine hJ _ _ ?_ <;> clear hJ J <;> simp only [ak, reduceIte] <;> try subst hnil)))))
  refine awp_loop (fun n fr st' => ∃ k : Nat, k ≤ g.vs.length ∧ n = g.vs.length - k ∧ fr 1 = .pt st.next 0 ∧ fr 21 = .sl 0 g.vs.length (us g.vs) ∧ fr 22 = i g.vs.length ∧ fr 23 = i k ∧ fr 3 = u (if k = 0 then 0 else g.vs.getD (k - 1) 0) ∧ st' = st.new (.box 25 2 (grL g)) ∧ ∀ j, j < k → badV g j = 0) g.vs.length ?_ ?_
  · exact ⟨0, by omega, by omega, by simp, by simp, by simp, by simp, by simp, rfl, fun j h => by omega⟩
  rintro n fr st' ⟨k, hk, rfl, f1, f21, f22, f23, f3, rfl, hno⟩ JJ hJJ
  by_cases hlt : k < g.vs.length
  · have hd := us_drop_getD g.vs k hlt
    have hw := nat_add_one k (by omega)
    have hbad : badV g k = numb (g.vs.getD k 0) (if k = 0 then 0 else g.vs.getD (k - 1) 0) (decide (k = 0)) := by
      unfold badV
      by_cases h0 : k = 0
      · subst h0; simp [numb]
      · simp [h0]
    generalize hy : (if k = 0 then (0 : Int) else g.vs.getD (k - 1) 0) = y at *
    generalize hx : g.vs.getD k 0 = x at *
    have hk0 : ((k : Int) == 0) = decide (k = 0) := by by_cases h0 : k = 0 <;> simp [h0]
    (repeat' (first | refine awp_seq ?_ | refine awp_block ?_ | ((first | refine awp_skip ?_ | refine awp_exit ?_); simp only [ak, reduceIte]) | (refine awp_ret ?_; simp only [ak, reduceIte]; simp [f1, f21, f22, f23, f3, hlt, hd, hw, hk0]) | (refine awp_cond ?_; simp [f1, f21, f22, f23, f3, hlt, hd, hw, hk0]; (try with_reducible refine ⟨?_, ?_⟩) <;> (try with_reducible intro hc) <;> try (exfalso; omega)) | ((first | (refine w_e [] ?_; intro J hJ; simp only []) | (refine w_q ?_; intro J hJ) | refine e_go ?_); simp [f1, f21, f22, f23, f3, hlt, hd, hw, hk0]; (repeat refine ca ?_); (try ((try with_reducible refine ⟨?_, ?_⟩) <;> (try with_reducible intro hnil) <;> refine hJ _ _ ?_ <;> clear hJ J <;> simp only [ak, reduceIte] <;> try subst hnil)))))
    refine callK_ofE (number x y (decide (k = 0)) _) (by simp []) ?_; rintro r st' ⟨rfl, rfl⟩
    rw [← hbad]
    by_cases hb : badV g k = 0
    · (repeat' (first | refine awp_seq ?_ | refine awp_block ?_ | ((first | refine awp_skip ?_ | refine awp_exit ?_); simp only [ak, reduceIte]) | (refine awp_ret ?_; simp only [ak, reduceIte]; simp [f23, hw, hb]) | (refine awp_cond ?_; simp [f23, hw, hb]; (try with_reducible refine ⟨?_, ?_⟩) <;> (try with_reducible intro hc) <;> try (exfalso; omega)) | ((first | (refine w_e [] ?_; intro J hJ; simp only []) | (refine w_q ?_; intro J hJ) | refine e_go ?_); simp [f23, hw, hb]; (repeat refine ca ?_); (try ((try with_reducible refine ⟨?_, ?_⟩) <;> (try with_reducible intro hnil) <;> refine hJ _ _ ?_ <;> clear hJ J <;> simp only [ak, reduceIte] <;> try subst hnil)))))
      refine hJJ _ _ _ ?_ ⟨k + 1, by omega, rfl, by simp [f1], by simp [f21], by simp [f22], by simp, by rw [if_neg (by omega), Nat.add_sub_cancel, hx]; simp, rfl, fun j hj => ?_⟩
      · omega
      · rcases Nat.lt_or_ge j k with h | h
        · exact hno j h
        · obtain rfl : j = k := by omega
          exact hb
    · have hf := firstNZ_eq hlt hno rfl hb
      have hr : chk g = badV g k := by rw [hch, hf, if_pos hb]
      (repeat' (first | refine awp_seq ?_ | refine awp_block ?_ | ((first | refine awp_skip ?_ | refine awp_exit ?_); simp only [ak, reduceIte]) | (refine awp_ret ?_; simp only [ak, reduceIte]; simp [hb]) | (refine awp_cond ?_; simp [hb]; (try with_reducible refine ⟨?_, ?_⟩) <;> (try with_reducible intro hc) <;> try (exfalso; omega)) | ((first | (refine w_e [] ?_; intro J hJ; simp only []) | (refine w_q ?_; intro J hJ) | refine e_go ?_); simp [hb]; (repeat refine ca ?_); (try ((try with_reducible refine ⟨?_, ?_⟩) <;> (try with_reducible intro hnil) <;> refine hJ _ _ ?_ <;> clear hJ J <;> simp only [ak, reduceIte] <;> try subst hnil)))))
      exact ⟨hr.symm, Keeps.new _ _⟩
  have hk' : k = g.vs.length := by omega
  have hz : firstNZ (badV g) g.vs.length = 0 := firstNZ_zero (fun j hj => hno j (by omega))
  rw [hz] at hch
  simp only [ne_eq, not_true_eq_false, if_false] at hch
  clear hJJ hno hz
  have hel := eds_length g.es
  generalize hy : (if k = 0 then (0 : Int) else g.vs.getD (k - 1) 0) = y at *
  (repeat' (first | refine awp_seq ?_ | refine awp_block ?_ | ((first | refine awp_skip ?_ | refine awp_exit ?_); simp only [ak, reduceIte]) | (refine awp_ret ?_; simp only [ak, reduceIte]; simp [f1, f21, f22, f23, f3, hlt]) | (refine awp_cond ?_; simp [f1, f21, f22, f23, f3, hlt]; (try with_reducible refine ⟨?_, ?_⟩) <;> (try with_reducible intro hc) <;> try (exfalso; omega)) | ((first | (refine w_e [] ?_; intro J hJ; simp only []) | (refine w_q ?_; intro J hJ) | refine e_go ?_); simp [f1, f21, f22, f23, f3, hlt]; (repeat refine ca ?_); (try ((try with_reducible refine ⟨?_, ?_⟩) <;> (try with_reducible intro hnil) <;> refine hJ _ _ ?_ <;> clear hJ J <;> simp only [ak, reduceIte] <;> try subst hnil)))))
  refine awp_loop (fun n fr st' => ∃ k : Nat, k ≤ g.es.length ∧ n = g.es.length - k ∧ fr 1 = .pt st.next 0 ∧ fr 39 = .sl 0 g.es.length (eds g.es) ∧ fr 40 = i g.es.length ∧ fr 41 = i k ∧ (∃ z, fr 3 = u z ∧ (k ≠ 0 → z = (g.es.getD (k - 1) ed0).id)) ∧ Keeps (st.new (.box 25 2 (grL g))) st' ∧ ∀ j, j < k → badE g j = 0) g.es.length ?_ ?_
  · exact ⟨0, by omega, by omega, by simp [f1], by simp, by simp, by simp, ⟨y, by simp [f3], by simp⟩, Keeps.refl _, fun j h => by omega⟩
  clear f1 f21 f22 f23 f3 hlt hk' hk hy y fr k
  rintro n fr st1 ⟨k, hk, rfl, f1, f39, f40, f41, ⟨z, f3, hz⟩, hkp, hno⟩ JJ hJJ
  have hgH : st1.H st.next = .box 25 2 (grL g) := by rw [hkp.H _ (by simp)]; simp
  have hnx : ¬ st.next = st1.next := by have := hkp.next; simp only [new_next] at this; omega
  have hkp0 := (Keeps.new st (.box 25 2 (grL g))).trans hkp
  by_cases hlt : k < g.es.length
  · have hd := eds_drop g.es k hlt
    have hw := nat_add_one k (by omega)
    have hk3 : k * 3 < g.es.length * 3 := by omega
    have hk30 : k * 3 + 3 ≤ g.es.length * 3 := by omega
    have hbad : badE g k = (let x := g.es.getD k ed0; let n := numb x.id z (decide (k = 0)); if n ≠ 0 then n else if x.a = x.b then 20 else if x.a ∉ g.vs ∨ x.b ∉ g.vs then 21 else 0) := by
      unfold badE
      by_cases h0 : k = 0
      · subst h0; simp [numb]
      · rw [hz h0]
    generalize hx : g.es.getD k ed0 = x at *
    obtain ⟨xi, xa, xb⟩ := x
    simp only at hd hbad
    have hk0 : ((k : Int) == 0) = decide (k = 0) := by by_cases h0 : k = 0 <;> simp [h0]
    (repeat' (first | refine awp_seq ?_ | refine awp_block ?_ | ((first | refine awp_skip ?_ | refine awp_exit ?_); simp only [ak, reduceIte]) | (refine awp_ret ?_; simp only [ak, reduceIte]; simp [f1, f39, f40, f41, f3, hlt, hd, hw, hk0, hel, hk3, hgH, hnx]) | (refine awp_cond ?_; simp [f1, f39, f40, f41, f3, hlt, hd, hw, hk0, hel, hk3, hgH, hnx]; (try with_reducible refine ⟨?_, ?_⟩) <;> (try with_reducible intro hc) <;> try (exfalso; omega)) | ((first | (refine w_e [] ?_; intro J hJ; simp only []) | (refine w_q ?_; intro J hJ) | refine e_go ?_); simp [f1, f39, f40, f41, f3, hlt, hd, hw, hk0, hel, hk3, hgH, hnx]; (repeat refine ca ?_); (try ((try with_reducible refine ⟨?_, ?_⟩) <;> (try with_reducible intro hnil) <;> refine hJ _ _ ?_ <;> clear hJ J <;> simp only [ak, reduceIte] <;> try subst hnil)))))
    refine callK_ofE (number xi z (decide (k = 0)) _) (by simp []) ?_; rintro r st' ⟨rfl, rfl⟩
    by_cases hb : numb xi z (decide (k = 0)) = 0
    rotate_left
    · have hb' : badE g k = numb xi z (decide (k = 0)) := by rw [hbad, if_pos hb]
      have hr : chk g = numb xi z (decide (k = 0)) := by rw [hch]; exact firstNZ_eq hlt hno hb' hb
      (repeat' (first | refine awp_seq ?_ | refine awp_block ?_ | ((first | refine awp_skip ?_ | refine awp_exit ?_); simp only [ak, reduceIte]) | (refine awp_ret ?_; simp only [ak, reduceIte]; simp [hb]) | (refine awp_cond ?_; simp [hb]; (try with_reducible refine ⟨?_, ?_⟩) <;> (try with_reducible intro hc) <;> try (exfalso; omega)) | ((first | (refine w_e [] ?_; intro J hJ; simp only []) | (refine w_q ?_; intro J hJ) | refine e_go ?_); simp [hb]; (repeat refine ca ?_); (try ((try with_reducible refine ⟨?_, ?_⟩) <;> (try with_reducible intro hnil) <;> refine hJ _ _ ?_ <;> clear hJ J <;> simp only [ak, reduceIte] <;> try subst hnil)))))
      exact ⟨hr.symm, hkp0.trans (Keeps.new _ _)⟩
    rw [if_neg (by simp [hb])] at hbad
    by_cases hab : xa = xb
    · have hb' : badE g k = 20 := by rw [hbad, if_pos hab]
      have hr : chk g = 20 := by rw [hch]; exact firstNZ_eq hlt hno hb' (by decide)
      (repeat' (first | refine awp_seq ?_ | refine awp_block ?_ | ((first | refine awp_skip ?_ | refine awp_exit ?_); simp only [ak, reduceIte]) | (refine awp_ret ?_; simp only [ak, reduceIte]; simp [hb, hab, hr]) | (refine awp_cond ?_; simp [hb, hab, hr]; (try with_reducible refine ⟨?_, ?_⟩) <;> (try with_reducible intro hc) <;> try (exfalso; omega)) | ((first | (refine w_e [] ?_; intro J hJ; simp only []) | (refine w_q ?_; intro J hJ) | refine e_go ?_); simp [hb, hab, hr]; (repeat refine ca ?_); (try ((try with_reducible refine ⟨?_, ?_⟩) <;> (try with_reducible intro hnil) <;> refine hJ _ _ ?_ <;> clear hJ J <;> simp only [ak, reduceIte] <;> try subst hnil)))))
      exact hkp0.trans (Keeps.new _ _)
    rw [if_neg hab] at hbad
    (repeat' (first | refine awp_seq ?_ | refine awp_block ?_ | ((first | refine awp_skip ?_ | refine awp_exit ?_); simp only [ak, reduceIte]) | (refine awp_ret ?_; simp only [ak, reduceIte]; simp [hb, hab, f1, hnx, hgH]) | (refine awp_cond ?_; simp [hb, hab, f1, hnx, hgH]; (try with_reducible refine ⟨?_, ?_⟩) <;> (try with_reducible intro hc) <;> try (exfalso; omega)) | ((first | (refine w_e [] ?_; intro J hJ; simp only []) | (refine w_q ?_; intro J hJ) | refine e_go ?_); simp [hb, hab, f1, hnx, hgH]; (repeat refine ca ?_); (try ((try with_reducible refine ⟨?_, ?_⟩) <;> (try with_reducible intro hnil) <;> refine hJ _ _ ?_ <;> clear hJ J <;> simp only [ak, reduceIte] <;> try subst hnil)))))
    refine callK_ofE (Vert g xa _ hsm) (by simp []) ?_; rintro r st' ⟨rfl, hk1⟩
    have hB1 : st'.H st1.next = .box 40 3 [u xi, u xa, u xb] := by rw [hk1.H _ (by simp)]; simp
    have hgH1 : st'.H st.next = .box 25 2 (grL g) := by
      rw [hk1.H _ (by have := hkp.next; simp only [new_next] at this ⊢; omega), new_H, if_neg hnx]; exact hgH
    have hkp1 := (hkp.trans (Keeps.new _ _)).trans hk1
    have hkp01 := (hkp0.trans (Keeps.new _ _)).trans hk1
    by_cases hma : xa ∈ g.vs
    rotate_left
    · rw [gi_not hma]
      have hb' : badE g k = 21 := by rw [hbad, if_pos (.inl hma)]
      have hr : chk g = 21 := by rw [hch]; exact firstNZ_eq hlt hno hb' (by decide)
      (repeat' (first | refine awp_seq ?_ | refine awp_block ?_ | ((first | refine awp_skip ?_ | refine awp_exit ?_); simp only [ak, reduceIte]) | (refine awp_ret ?_; simp only [ak, reduceIte]; simp [f1, hB1, hgH1, hr]) | (refine awp_cond ?_; simp [f1, hB1, hgH1, hr]; (try with_reducible refine ⟨?_, ?_⟩) <;> (try with_reducible intro hc) <;> try (exfalso; omega)) | ((first | (refine w_e [] ?_; intro J hJ; simp only []) | (refine w_q ?_; intro J hJ) | refine e_go ?_); simp [f1, hB1, hgH1, hr]; (repeat refine ca ?_); (try ((try with_reducible refine ⟨?_, ?_⟩) <;> (try with_reducible intro hnil) <;> refine hJ _ _ ?_ <;> clear hJ J <;> simp only [ak, reduceIte] <;> try subst hnil)))))
      exact hkp01
    rw [gi_mem hma]
    have hn0 : ¬ ((g.vs.idxOf xa : Nat) : Int) < 0 := by omega
    (refine e_go ?_; simp [f1, hB1, hgH1, hn0]; (repeat refine ca ?_); (try ((try with_reducible refine ⟨?_, ?_⟩) <;> (try with_reducible intro hnil) <;> refine hJ _ _ ?_ <;> clear hJ J <;> simp only [ak, reduceIte] <;> try subst hnil)))
    refine callK_ofE (Vert g xb _ hsm) (by simp []) ?_; rintro r st' ⟨rfl, hk2⟩
    by_cases hmb : xb ∈ g.vs
    rotate_left
    · rw [gi_not hmb]
      have hb' : badE g k = 21 := by rw [hbad, if_pos (.inr hmb)]
      have hr : chk g = 21 := by rw [hch]; exact firstNZ_eq hlt hno hb' (by decide)
      (repeat' (first | refine awp_seq ?_ | refine awp_block ?_ | ((first | refine awp_skip ?_ | refine awp_exit ?_); simp only [ak, reduceIte]) | (refine awp_ret ?_; simp only [ak, reduceIte]; simp [hr]) | (refine awp_cond ?_; simp [hr]; (try with_reducible refine ⟨?_, ?_⟩) <;> (try with_reducible intro hc) <;> try (exfalso; omega)) | ((first | (refine w_e [] ?_; intro J hJ; simp only []) | (refine w_q ?_; intro J hJ) | refine e_go ?_); simp [hr]; (repeat refine ca ?_); (try ((try with_reducible refine ⟨?_, ?_⟩) <;> (try with_reducible intro hnil) <;> refine hJ _ _ ?_ <;> clear hJ J <;> simp only [ak, reduceIte] <;> try subst hnil)))))
      exact hkp01.trans hk2
    rw [gi_mem hmb]
    have hn1 : ¬ ((g.vs.idxOf xb : Nat) : Int) < 0 := by omega
    have hb' : badE g k = 0 := by rw [hbad, if_neg (by simp [hma, hmb])]
    (repeat' (first | refine awp_seq ?_ | refine awp_block ?_ | ((first | refine awp_skip ?_ | refine awp_exit ?_); simp only [ak, reduceIte]) | (refine awp_ret ?_; simp only [ak, reduceIte]; simp [f41, hw, hn1]) | (refine awp_cond ?_; simp [f41, hw, hn1]; (try with_reducible refine ⟨?_, ?_⟩) <;> (try with_reducible intro hc) <;> try (exfalso; omega)) | ((first | (refine w_e [] ?_; intro J hJ; simp only []) | (refine w_q ?_; intro J hJ) | refine e_go ?_); simp [f41, hw, hn1]; (repeat refine ca ?_); (try ((try with_reducible refine ⟨?_, ?_⟩) <;> (try with_reducible intro hnil) <;> refine hJ _ _ ?_ <;> clear hJ J <;> simp only [ak, reduceIte] <;> try subst hnil)))))
    refine hJJ _ _ _ ?_ ⟨k + 1, by omega, rfl, by simp [f1], by simp [f39], by simp [f40], by simp, ⟨xi, by simp, fun _ => by rw [Nat.add_sub_cancel, hx]⟩, hkp1.trans hk2, fun j hj => ?_⟩
    · omega
    · rcases Nat.lt_or_ge j k with h | h
      · exact hno j h
      · obtain rfl : j = k := by omega
        exact hb'
  · have hr : chk g = 0 := by rw [hch]; exact firstNZ_zero (fun j hj => hno j (by omega))
    clear hJJ
    (repeat' (first | refine awp_seq ?_ | refine awp_block ?_ | ((first | refine awp_skip ?_ | refine awp_exit ?_); simp only [ak, reduceIte]) | (refine awp_ret ?_; simp only [ak, reduceIte]; simp [f1, f39, f40, f41, f3, hlt, hr]) | (refine awp_cond ?_; simp [f1, f39, f40, f41, f3, hlt, hr]; (try with_reducible refine ⟨?_, ?_⟩) <;> (try with_reducible intro hc) <;> try (exfalso; omega)) | ((first | (refine w_e [] ?_; intro J hJ; simp only []) | (refine w_q ?_; intro J hJ) | refine e_go ?_); simp [f1, f39, f40, f41, f3, hlt, hr]; (repeat refine ca ?_); (try ((try with_reducible refine ⟨?_, ?_⟩) <;> (try with_reducible intro hnil) <;> refine hJ _ _ ?_ <;> clear hJ J <;> simp only [ak, reduceIte] <;> try subst hnil)))))
    exact hkp0

theorem ref_Check (g : Gr) (st : St) (hv : g.vs.length ≤ 1000) (he : g.es.length ≤ 1000) :
    ACalls Try.prog 6 [.ag (grL g)] st fun r st' => r = i (chk g) ∧ Keeps st st' := by
  have hsm : small g.vs := by unfold small; omega
  refine acalls_of_body tabOk Try.func6 rfl rfl Try.ntmps6 (rs := [.tmp 2]) rfl (by simp) ?_
  by_cases h1 : (64 : Int) < (g.vs.length : Int)
  · have : chk g = 6 := by unfold chk; rw [if_pos (by omega)]
    (repeat' (first | refine awp_seq ?_ | refine awp_block ?_ | ((first | refine awp_skip ?_ | refine awp_exit ?_); simp only [ak, reduceIte]) | (refine awp_ret ?_; simp only [ak, reduceIte]; simp [h1, this]) | (refine awp_cond ?_; simp [h1, this]; (try with_reducible refine ⟨?_, ?_⟩) <;> (try with_reducible intro hc) <;> try (exfalso; omega)) | ((first | (refine w_e [] ?_; intro J hJ; simp only []) | (refine w_q ?_; intro J hJ) | refine e_go ?_); simp [h1, this]; (repeat refine ca ?_); (try ((try with_reducible refine ⟨?_, ?_⟩) <;> (try with_reducible intro hnil) <;> refine hJ _ _ ?_ <;> clear hJ J <;> simp only [ak, reduceIte] <;> try subst hnil)))))
    exact Keeps.new _ _
  by_cases h2 : (160 : Int) < (g.es.length : Int)
  · have : chk g = 6 := by unfold chk; rw [if_pos (by omega)]
    (repeat' (first | refine awp_seq ?_ | refine awp_block ?_ | ((first | refine awp_skip ?_ | refine awp_exit ?_); simp only [ak, reduceIte]) | (refine awp_ret ?_; simp only [ak, reduceIte]; simp [h1, h2, this]) | (refine awp_cond ?_; simp [h1, h2, this]; (try with_reducible refine ⟨?_, ?_⟩) <;> (try with_reducible intro hc) <;> try (exfalso; omega)) | ((first | (refine w_e [] ?_; intro J hJ; simp only []) | (refine w_q ?_; intro J hJ) | refine e_go ?_); simp [h1, h2, this]; (repeat refine ca ?_); (try ((try with_reducible refine ⟨?_, ?_⟩) <;> (try with_reducible intro hnil) <;> refine hJ _ _ ?_ <;> clear hJ J <;> simp only [ak, reduceIte] <;> try subst hnil)))))
    exact Keeps.new _ _
  have hch : chk g = if firstNZ (badV g) g.vs.length ≠ 0 then firstNZ (badV g) g.vs.length else firstNZ (badE g) g.es.length := by unfold chk; rw [if_neg (by omega)]
  (repeat' (first | refine awp_seq ?_ | refine awp_block ?_ | ((first | refine awp_skip ?_ | refine awp_exit ?_); simp only [ak, reduceIte]) | (refine awp_ret ?_; simp only [ak, reduceIte]; simp [h1, h2]) | (refine awp_cond ?_; simp [h1, h2]; (try with_reducible refine ⟨?_, ?_⟩) <;> (try with_reducible intro hc) <;> try (exfalso; omega)) | ((first | (refine w_e [] ?_; intro J hJ; simp only []) | (refine w_q ?_; intro J hJ) | refine e_go ?_); simp [h1, h2]; (repeat refine ca ?_); (try ((try with_reducible refine ⟨?_, ?_⟩) <;> (try with_reducible intro hnil) <;> refine hJ _ _ ?_ <;> clear hJ J <;> simp only [ak, reduceIte] <;> try subst hnil)))))
  refine awp_loop (fun n fr st' => ∃ k : Nat, k ≤ g.vs.length ∧ n = g.vs.length - k ∧ fr 1 = .pt st.next 0 ∧ fr 18 = .sl 0 g.vs.length (us g.vs) ∧ fr 19 = i g.vs.length ∧ fr 20 = i k ∧ st' = st.new (.box 25 2 (grL g)) ∧ ∀ j, j < k → badV g j = 0) g.vs.length ?_ ?_
  · exact ⟨0, by omega, by omega, by simp, by simp, by simp, by simp, rfl, fun j h => by omega⟩
  rintro n fr st' ⟨k, hk, rfl, f1, f18, f19, f20, rfl, hno⟩ JJ hJJ
  by_cases hlt : k < g.vs.length
  · have hd := us_drop_getD g.vs k hlt
    have hw := nat_add_one k (by omega)
    have hbad : badV g k = numb (g.vs.getD k 0) (g.vs.getD (k - 1) 0) (decide (k = 0)) := rfl
    have hnext : badV g k = 0 → ∀ j, j < k + 1 → badV g j = 0 := fun hb j hj => by
      rcases Nat.lt_or_ge j k with h | h
      · exact hno j h
      · obtain rfl : j = k := by omega
        exact hb
    have hret : ∀ v, badV g k = v → v ≠ 0 → chk g = v := fun v h0 h1 => by
      have hf := firstNZ_eq hlt hno h0 h1
      rw [hch, hf, if_pos h1]
    generalize hx : g.vs.getD k 0 = x at *
    by_cases hx1 : x < 1
    · have hr := hret 2 (by rw [hbad]; unfold numb; rw [if_pos (.inl hx1)]) (by decide)
      (repeat' (first | refine awp_seq ?_ | refine awp_block ?_ | ((first | refine awp_skip ?_ | refine awp_exit ?_); simp only [ak, reduceIte]) | (refine awp_ret ?_; simp only [ak, reduceIte]; simp [f1, f18, f19, f20, hlt, hd, hw, hx1, hr]) | (refine awp_cond ?_; simp [f1, f18, f19, f20, hlt, hd, hw, hx1, hr]; (try with_reducible refine ⟨?_, ?_⟩) <;> (try with_reducible intro hc) <;> try (exfalso; omega)) | ((first | (refine w_e [] ?_; intro J hJ; simp only []) | (refine w_q ?_; intro J hJ) | refine e_go ?_); simp [f1, f18, f19, f20, hlt, hd, hw, hx1, hr]; (repeat refine ca ?_); (try ((try with_reducible refine ⟨?_, ?_⟩) <;> (try with_reducible intro hnil) <;> refine hJ _ _ ?_ <;> clear hJ J <;> simp only [ak, reduceIte] <;> try subst hnil)))))
      exact Keeps.new _ _
    by_cases hx2 : 1048576 < x
    · have hr := hret 2 (by rw [hbad]; unfold numb; rw [if_pos (.inr hx2)]) (by decide)
      (repeat' (first | refine awp_seq ?_ | refine awp_block ?_ | ((first | refine awp_skip ?_ | refine awp_exit ?_); simp only [ak, reduceIte]) | (refine awp_ret ?_; simp only [ak, reduceIte]; simp [f1, f18, f19, f20, hlt, hd, hw, hx1, hx2, hr]) | (refine awp_cond ?_; simp [f1, f18, f19, f20, hlt, hd, hw, hx1, hx2, hr]; (try with_reducible refine ⟨?_, ?_⟩) <;> (try with_reducible intro hc) <;> try (exfalso; omega)) | ((first | (refine w_e [] ?_; intro J hJ; simp only []) | (refine w_q ?_; intro J hJ) | refine e_go ?_); simp [f1, f18, f19, f20, hlt, hd, hw, hx1, hx2, hr]; (repeat refine ca ?_); (try ((try with_reducible refine ⟨?_, ?_⟩) <;> (try with_reducible intro hnil) <;> refine hJ _ _ ?_ <;> clear hJ J <;> simp only [ak, reduceIte] <;> try subst hnil)))))
      exact Keeps.new _ _
    by_cases h0 : k = 0
    · have hb : badV g k = 0 := by rw [hbad]; unfold numb; rw [if_neg (by simp [hx1, hx2])]; simp [h0]
      have hk0 : ¬ 0 < k := by omega
      (repeat' (first | refine awp_seq ?_ | refine awp_block ?_ | ((first | refine awp_skip ?_ | refine awp_exit ?_); simp only [ak, reduceIte]) | (refine awp_ret ?_; simp only [ak, reduceIte]; simp [f1, f18, f19, f20, hlt, hd, hw, hx1, hx2, hk0]) | (refine awp_cond ?_; simp [f1, f18, f19, f20, hlt, hd, hw, hx1, hx2, hk0]; (try with_reducible refine ⟨?_, ?_⟩) <;> (try with_reducible intro hc) <;> try (exfalso; omega)) | ((first | (refine w_e [] ?_; intro J hJ; simp only []) | (refine w_q ?_; intro J hJ) | refine e_go ?_); simp [f1, f18, f19, f20, hlt, hd, hw, hx1, hx2, hk0]; (repeat refine ca ?_); (try ((try with_reducible refine ⟨?_, ?_⟩) <;> (try with_reducible intro hnil) <;> refine hJ _ _ ?_ <;> clear hJ J <;> simp only [ak, reduceIte] <;> try subst hnil)))))
      refine hJJ _ _ _ ?_ ⟨k + 1, by omega, rfl, by simp [f1], by simp [f18], by simp [f19], by simp, rfl, hnext hb⟩
      omega
    · have hk0 : 0 < k := by omega
      have hw1 : IntKind.i64.wrap ((k : Int) - 1) = ((k - 1 : Nat) : Int) := by rw [wrap_i64 _ (by omega) (by omega)]; omega
      have hd1 := us_drop_getD g.vs (k - 1) (by omega)
      have hlt1 : k - 1 < g.vs.length := by omega
      generalize hy : g.vs.getD (k - 1) 0 = y at *
      by_cases hle : x ≤ y
      · have hr := hret 19 (by rw [hbad]; unfold numb; rw [if_neg (by simp [hx1, hx2]), if_pos ⟨by simp [h0], hle⟩]) (by decide)
        (repeat' (first | refine awp_seq ?_ | refine awp_block ?_ | ((first | refine awp_skip ?_ | refine awp_exit ?_); simp only [ak, reduceIte]) | (refine awp_ret ?_; simp only [ak, reduceIte]; simp [f1, f18, f19, f20, hlt, hd, hw, hx1, hx2, hk0, hw1, hd1, hlt1, hle, hr]) | (refine awp_cond ?_; simp [f1, f18, f19, f20, hlt, hd, hw, hx1, hx2, hk0, hw1, hd1, hlt1, hle, hr]; (try with_reducible refine ⟨?_, ?_⟩) <;> (try with_reducible intro hc) <;> try (exfalso; omega)) | ((first | (refine w_e [] ?_; intro J hJ; simp only []) | (refine w_q ?_; intro J hJ) | refine e_go ?_); simp [f1, f18, f19, f20, hlt, hd, hw, hx1, hx2, hk0, hw1, hd1, hlt1, hle, hr]; (repeat refine ca ?_); (try ((try with_reducible refine ⟨?_, ?_⟩) <;> (try with_reducible intro hnil) <;> refine hJ _ _ ?_ <;> clear hJ J <;> simp only [ak, reduceIte] <;> try subst hnil)))))
        exact Keeps.new _ _
      · have hb : badV g k = 0 := by rw [hbad]; unfold numb; rw [if_neg (by simp [hx1, hx2]), if_neg (by simp [hle])]
        (repeat' (first | refine awp_seq ?_ | refine awp_block ?_ | ((first | refine awp_skip ?_ | refine awp_exit ?_); simp only [ak, reduceIte]) | (refine awp_ret ?_; simp only [ak, reduceIte]; simp [f1, f18, f19, f20, hlt, hd, hw, hx1, hx2, hk0, hw1, hd1, hlt1, hle]) | (refine awp_cond ?_; simp [f1, f18, f19, f20, hlt, hd, hw, hx1, hx2, hk0, hw1, hd1, hlt1, hle]; (try with_reducible refine ⟨?_, ?_⟩) <;> (try with_reducible intro hc) <;> try (exfalso; omega)) | ((first | (refine w_e [] ?_; intro J hJ; simp only []) | (refine w_q ?_; intro J hJ) | refine e_go ?_); simp [f1, f18, f19, f20, hlt, hd, hw, hx1, hx2, hk0, hw1, hd1, hlt1, hle]; (repeat refine ca ?_); (try ((try with_reducible refine ⟨?_, ?_⟩) <;> (try with_reducible intro hnil) <;> refine hJ _ _ ?_ <;> clear hJ J <;> simp only [ak, reduceIte] <;> try subst hnil)))))
        refine hJJ _ _ _ ?_ ⟨k + 1, by omega, rfl, by simp [f1], by simp [f18], by simp [f19], by simp, rfl, hnext hb⟩
        omega
  have hk' : k = g.vs.length := by omega
  have hz : firstNZ (badV g) g.vs.length = 0 := firstNZ_zero (fun j hj => hno j (by omega))
  rw [hz] at hch
  simp only [ne_eq, not_true_eq_false, if_false] at hch
  clear hJJ hno hz
  have hel := eds_length g.es
  (repeat' (first | refine awp_seq ?_ | refine awp_block ?_ | ((first | refine awp_skip ?_ | refine awp_exit ?_); simp only [ak, reduceIte]) | (refine awp_ret ?_; simp only [ak, reduceIte]; simp [f1, f18, f19, f20, hlt]) | (refine awp_cond ?_; simp [f1, f18, f19, f20, hlt]; (try with_reducible refine ⟨?_, ?_⟩) <;> (try with_reducible intro hc) <;> try (exfalso; omega)) | ((first | (refine w_e [] ?_; intro J hJ; simp only []) | (refine w_q ?_; intro J hJ) | refine e_go ?_); simp [f1, f18, f19, f20, hlt]; (repeat refine ca ?_); (try ((try with_reducible refine ⟨?_, ?_⟩) <;> (try with_reducible intro hnil) <;> refine hJ _ _ ?_ <;> clear hJ J <;> simp only [ak, reduceIte] <;> try subst hnil)))))
  refine awp_loop (fun n fr st' => ∃ k : Nat, k ≤ g.es.length ∧ n = g.es.length - k ∧ fr 1 = .pt st.next 0 ∧ fr 45 = .sl 0 g.es.length (eds g.es) ∧ fr 46 = i g.es.length ∧ fr 47 = i k ∧ Keeps (st.new (.box 25 2 (grL g))) st' ∧ ∀ j, j < k → badE g j = 0) g.es.length ?_ ?_
  · exact ⟨0, by omega, by omega, by simp [f1], by simp, by simp, by simp, Keeps.refl _, fun j h => by omega⟩
  clear f1 f18 f19 f20 hlt hk' hk fr k
  rintro n fr st1 ⟨k, hk, rfl, f1, f45, f46, f47, hkp, hno⟩ JJ hJJ
  have hgH : st1.H st.next = .box 25 2 (grL g) := by rw [hkp.H _ (by simp)]; simp
  have hnx : ¬ st.next = st1.next := by have := hkp.next; simp only [new_next] at this; omega
  have hkp0 := (Keeps.new st (.box 25 2 (grL g))).trans hkp
  by_cases hlt : k < g.es.length
  · have hd := eds_drop g.es k hlt
    have hw := nat_add_one k (by omega)
    have hk3 : k * 3 < g.es.length * 3 := by omega
    have hbad : badE g k = (let x := g.es.getD k ed0; let n := numb x.id (g.es.getD (k - 1) ed0).id (decide (k = 0)); if n ≠ 0 then n else if x.a = x.b then 20 else if x.a ∉ g.vs ∨ x.b ∉ g.vs then 21 else 0) := rfl
    have hnext : badE g k = 0 → ∀ j, j < k + 1 → badE g j = 0 := fun hb j hj => by
      rcases Nat.lt_or_ge j k with h | h
      · exact hno j h
      · obtain rfl : j = k := by omega
        exact hb
    have hret : ∀ v, badE g k = v → v ≠ 0 → chk g = v := fun v h0 h1 => by
      rw [hch]; exact firstNZ_eq hlt hno h0 h1
    generalize hx : g.es.getD k ed0 = x at *
    obtain ⟨xi, xa, xb⟩ := x
    simp only at hd hbad
    have hkn := hkp0.trans (Keeps.new _ (.box 40 3 [u xi, u xa, u xb]))
    by_cases hx1 : xi < 1
    · have hn : numb xi (g.es.getD (k - 1) ed0).id (decide (k = 0)) = 2 := by unfold numb; rw [if_pos (.inl hx1)]
      have hr := hret 2 (by rw [hbad, hn]; rfl) (by decide)
      (repeat' (first | refine awp_seq ?_ | refine awp_block ?_ | ((first | refine awp_skip ?_ | refine awp_exit ?_); simp only [ak, reduceIte]) | (refine awp_ret ?_; simp only [ak, reduceIte]; simp [f1, f45, f46, f47, hlt, hd, hw, hel, hk3, hgH, hnx, hx1, hr]) | (refine awp_cond ?_; simp [f1, f45, f46, f47, hlt, hd, hw, hel, hk3, hgH, hnx, hx1, hr]; (try with_reducible refine ⟨?_, ?_⟩) <;> (try with_reducible intro hc) <;> try (exfalso; omega)) | ((first | (refine w_e [] ?_; intro J hJ; simp only []) | (refine w_q ?_; intro J hJ) | refine e_go ?_); simp [f1, f45, f46, f47, hlt, hd, hw, hel, hk3, hgH, hnx, hx1, hr]; (repeat refine ca ?_); (try ((try with_reducible refine ⟨?_, ?_⟩) <;> (try with_reducible intro hnil) <;> refine hJ _ _ ?_ <;> clear hJ J <;> simp only [ak, reduceIte] <;> try subst hnil)))))
      exact hkn
    by_cases hx2 : 1048576 < xi
    · have hn : numb xi (g.es.getD (k - 1) ed0).id (decide (k = 0)) = 2 := by unfold numb; rw [if_pos (.inr hx2)]
      have hr := hret 2 (by rw [hbad, hn]; rfl) (by decide)
      (repeat' (first | refine awp_seq ?_ | refine awp_block ?_ | ((first | refine awp_skip ?_ | refine awp_exit ?_); simp only [ak, reduceIte]) | (refine awp_ret ?_; simp only [ak, reduceIte]; simp [f1, f45, f46, f47, hlt, hd, hw, hel, hk3, hgH, hnx, hx1, hx2, hr]) | (refine awp_cond ?_; simp [f1, f45, f46, f47, hlt, hd, hw, hel, hk3, hgH, hnx, hx1, hx2, hr]; (try with_reducible refine ⟨?_, ?_⟩) <;> (try with_reducible intro hc) <;> try (exfalso; omega)) | ((first | (refine w_e [] ?_; intro J hJ; simp only []) | (refine w_q ?_; intro J hJ) | refine e_go ?_); simp [f1, f45, f46, f47, hlt, hd, hw, hel, hk3, hgH, hnx, hx1, hx2, hr]; (repeat refine ca ?_); (try ((try with_reducible refine ⟨?_, ?_⟩) <;> (try with_reducible intro hnil) <;> refine hJ _ _ ?_ <;> clear hJ J <;> simp only [ak, reduceIte] <;> try subst hnil)))))
      exact hkn
    by_cases hnb : numb xi (g.es.getD (k - 1) ed0).id (decide (k = 0)) = 0
    rotate_left
    · -- the number doesn't rise
      have h0 : k ≠ 0 := by rintro rfl; apply hnb; unfold numb; rw [if_neg (by simp [hx1, hx2])]; simp
      have hle : xi ≤ (g.es.getD (k - 1) ed0).id := by
        unfold numb at hnb
        rw [if_neg (by simp [hx1, hx2])] at hnb
        by_cases h : decide (k = 0) = false ∧ xi ≤ (g.es.getD (k - 1) ed0).id
        · exact h.2
        · rw [if_neg h] at hnb; exact absurd rfl hnb
      have hn : numb xi (g.es.getD (k - 1) ed0).id (decide (k = 0)) = 19 := by unfold numb; rw [if_neg (by simp [hx1, hx2]), if_pos ⟨by simp [h0], hle⟩]
      have hr := hret 19 (by rw [hbad, hn]; rfl) (by decide)
      have hk0 : 0 < k := by omega
      have hw1 : IntKind.i64.wrap ((k : Int) - 1) = ((k - 1 : Nat) : Int) := by rw [wrap_i64 _ (by omega) (by omega)]; omega
      have hd1 := eds_drop g.es (k - 1) (by omega)
      have hlt1 : k - 1 < g.es.length := by omega
      have hlt3 : (k - 1) * 3 < g.es.length * 3 := by omega
      generalize hy : g.es.getD (k - 1) ed0 = y at *
      obtain ⟨yi, ya, yb⟩ := y
      simp only at hd1 hle
      (repeat' (first | refine awp_seq ?_ | refine awp_block ?_ | ((first | refine awp_skip ?_ | refine awp_exit ?_); simp only [ak, reduceIte]) | (refine awp_ret ?_; simp only [ak, reduceIte]; simp [f1, f45, f46, f47, hlt, hd, hw, hel, hk3, hgH, hnx, hx1, hx2, hk0, hw1, hd1, hlt1, hlt3, hle, hr]) | (refine awp_cond ?_; simp [f1, f45, f46, f47, hlt, hd, hw, hel, hk3, hgH, hnx, hx1, hx2, hk0, hw1, hd1, hlt1, hlt3, hle, hr]; (try with_reducible refine ⟨?_, ?_⟩) <;> (try with_reducible intro hc) <;> try (exfalso; omega)) | ((first | (refine w_e [] ?_; intro J hJ; simp only []) | (refine w_q ?_; intro J hJ) | refine e_go ?_); simp [f1, f45, f46, f47, hlt, hd, hw, hel, hk3, hgH, hnx, hx1, hx2, hk0, hw1, hd1, hlt1, hlt3, hle, hr]; (repeat refine ca ?_); (try ((try with_reducible refine ⟨?_, ?_⟩) <;> (try with_reducible intro hnil) <;> refine hJ _ _ ?_ <;> clear hJ J <;> simp only [ak, reduceIte] <;> try subst hnil)))))
      exact hkn
    rw [if_neg (fun h => h hnb)] at hbad
    by_cases hab : xa = xb
    · have hr := hret 20 (by rw [hbad, if_pos hab]) (by decide)
      by_cases h0 : k = 0
      · have hk0 : ¬ 0 < k := by omega
        (repeat' (first | refine awp_seq ?_ | refine awp_block ?_ | ((first | refine awp_skip ?_ | refine awp_exit ?_); simp only [ak, reduceIte]) | (refine awp_ret ?_; simp only [ak, reduceIte]; simp [f1, f45, f46, f47, hlt, hd, hw, hel, hk3, hgH, hnx, hx1, hx2, hk0, hab, hr]) | (refine awp_cond ?_; simp [f1, f45, f46, f47, hlt, hd, hw, hel, hk3, hgH, hnx, hx1, hx2, hk0, hab, hr]; (try with_reducible refine ⟨?_, ?_⟩) <;> (try with_reducible intro hc) <;> try (exfalso; omega)) | ((first | (refine w_e [] ?_; intro J hJ; simp only []) | (refine w_q ?_; intro J hJ) | refine e_go ?_); simp [f1, f45, f46, f47, hlt, hd, hw, hel, hk3, hgH, hnx, hx1, hx2, hk0, hab, hr]; (repeat refine ca ?_); (try ((try with_reducible refine ⟨?_, ?_⟩) <;> (try with_reducible intro hnil) <;> refine hJ _ _ ?_ <;> clear hJ J <;> simp only [ak, reduceIte] <;> try subst hnil)))))
        exact hkp0.trans (Keeps.new _ _)
      · have hk0 : 0 < k := by omega
        have hw1 : IntKind.i64.wrap ((k : Int) - 1) = ((k - 1 : Nat) : Int) := by rw [wrap_i64 _ (by omega) (by omega)]; omega
        have hd1 := eds_drop g.es (k - 1) (by omega)
        have hlt1 : k - 1 < g.es.length := by omega
        have hlt3 : (k - 1) * 3 < g.es.length * 3 := by omega
        have hle : ¬ xi ≤ (g.es.getD (k - 1) ed0).id := by
          intro h
          unfold numb at hnb
          rw [if_neg (by simp [hx1, hx2]), if_pos ⟨by simp [h0], h⟩] at hnb
          cases hnb
        generalize hy : g.es.getD (k - 1) ed0 = y at *
        obtain ⟨yi, ya, yb⟩ := y
        simp only at hd1 hle
        (repeat' (first | refine awp_seq ?_ | refine awp_block ?_ | ((first | refine awp_skip ?_ | refine awp_exit ?_); simp only [ak, reduceIte]) | (refine awp_ret ?_; simp only [ak, reduceIte]; simp [f1, f45, f46, f47, hlt, hd, hw, hel, hk3, hgH, hnx, hx1, hx2, hk0, hw1, hd1, hlt1, hlt3, hle, hab, hr]) | (refine awp_cond ?_; simp [f1, f45, f46, f47, hlt, hd, hw, hel, hk3, hgH, hnx, hx1, hx2, hk0, hw1, hd1, hlt1, hlt3, hle, hab, hr]; (try with_reducible refine ⟨?_, ?_⟩) <;> (try with_reducible intro hc) <;> try (exfalso; omega)) | ((first | (refine w_e [] ?_; intro J hJ; simp only []) | (refine w_q ?_; intro J hJ) | refine e_go ?_); simp [f1, f45, f46, f47, hlt, hd, hw, hel, hk3, hgH, hnx, hx1, hx2, hk0, hw1, hd1, hlt1, hlt3, hle, hab, hr]; (repeat refine ca ?_); (try ((try with_reducible refine ⟨?_, ?_⟩) <;> (try with_reducible intro hnil) <;> refine hJ _ _ ?_ <;> clear hJ J <;> simp only [ak, reduceIte] <;> try subst hnil)))))
        exact hkp0.trans (Keeps.new _ _)
    rw [if_neg hab] at hbad
    by_cases h0 : k = 0
    · have hk0 : ¬ 0 < k := by omega
      (repeat' (first | refine awp_seq ?_ | refine awp_block ?_ | ((first | refine awp_skip ?_ | refine awp_exit ?_); simp only [ak, reduceIte]) | (refine awp_ret ?_; simp only [ak, reduceIte]; simp [f1, f45, f46, f47, hlt, hd, hw, hel, hk3, hgH, hnx, hx1, hx2, hk0, hab]) | (refine awp_cond ?_; simp [f1, f45, f46, f47, hlt, hd, hw, hel, hk3, hgH, hnx, hx1, hx2, hk0, hab]; (try with_reducible refine ⟨?_, ?_⟩) <;> (try with_reducible intro hc) <;> try (exfalso; omega)) | ((first | (refine w_e [] ?_; intro J hJ; simp only []) | (refine w_q ?_; intro J hJ) | refine e_go ?_); simp [f1, f45, f46, f47, hlt, hd, hw, hel, hk3, hgH, hnx, hx1, hx2, hk0, hab]; (repeat refine ca ?_); (try ((try with_reducible refine ⟨?_, ?_⟩) <;> (try with_reducible intro hnil) <;> refine hJ _ _ ?_ <;> clear hJ J <;> simp only [ak, reduceIte] <;> try subst hnil)))))
      refine callK_ofE (Has g xa _ hsm) (by simp []) ?_; rintro r st' ⟨rfl, hk1⟩
      have hB1 : st'.H st1.next = .box 40 3 [u xi, u xa, u xb] := by rw [hk1.H _ (by simp)]; simp
      have hgH1 : st'.H st.next = .box 25 2 (grL g) := by
        rw [hk1.H _ (by have := hkp.next; simp only [new_next] at this ⊢; omega), new_H, if_neg hnx]; exact hgH
      have hkp1 := (hkp.trans (Keeps.new _ _)).trans hk1
      have hkp01 := (hkp0.trans (Keeps.new _ _)).trans hk1
      by_cases hma : xa ∈ g.vs
      rotate_left
      · have hr := hret 21 (by rw [hbad, if_pos (.inl hma)]) (by decide)
        (repeat' (first | refine awp_seq ?_ | refine awp_block ?_ | ((first | refine awp_skip ?_ | refine awp_exit ?_); simp only [ak, reduceIte]) | (refine awp_ret ?_; simp only [ak, reduceIte]; simp [f1, hB1, hgH1, hr, hma]) | (refine awp_cond ?_; simp [f1, hB1, hgH1, hr, hma]; (try with_reducible refine ⟨?_, ?_⟩) <;> (try with_reducible intro hc) <;> try (exfalso; omega)) | ((first | (refine w_e [] ?_; intro J hJ; simp only []) | (refine w_q ?_; intro J hJ) | refine e_go ?_); simp [f1, hB1, hgH1, hr, hma]; (repeat refine ca ?_); (try ((try with_reducible refine ⟨?_, ?_⟩) <;> (try with_reducible intro hnil) <;> refine hJ _ _ ?_ <;> clear hJ J <;> simp only [ak, reduceIte] <;> try subst hnil)))))
        exact hkp01
      (refine e_go ?_; simp [f1, hB1, hgH1, hma]; (repeat refine ca ?_); (try ((try with_reducible refine ⟨?_, ?_⟩) <;> (try with_reducible intro hnil) <;> refine hJ _ _ ?_ <;> clear hJ J <;> simp only [ak, reduceIte] <;> try subst hnil)))
      refine callK_ofE (Has g xb _ hsm) (by simp []) ?_; rintro r st' ⟨rfl, hk2⟩
      by_cases hmb : xb ∈ g.vs
      rotate_left
      · have hr := hret 21 (by rw [hbad, if_pos (.inr hmb)]) (by decide)
        (repeat' (first | refine awp_seq ?_ | refine awp_block ?_ | ((first | refine awp_skip ?_ | refine awp_exit ?_); simp only [ak, reduceIte]) | (refine awp_ret ?_; simp only [ak, reduceIte]; simp [hr, hmb]) | (refine awp_cond ?_; simp [hr, hmb]; (try with_reducible refine ⟨?_, ?_⟩) <;> (try with_reducible intro hc) <;> try (exfalso; omega)) | ((first | (refine w_e [] ?_; intro J hJ; simp only []) | (refine w_q ?_; intro J hJ) | refine e_go ?_); simp [hr, hmb]; (repeat refine ca ?_); (try ((try with_reducible refine ⟨?_, ?_⟩) <;> (try with_reducible intro hnil) <;> refine hJ _ _ ?_ <;> clear hJ J <;> simp only [ak, reduceIte] <;> try subst hnil)))))
        exact hkp01.trans hk2
      have hb' : badE g k = 0 := by rw [hbad, if_neg (by simp [hma, hmb])]
      (repeat' (first | refine awp_seq ?_ | refine awp_block ?_ | ((first | refine awp_skip ?_ | refine awp_exit ?_); simp only [ak, reduceIte]) | (refine awp_ret ?_; simp only [ak, reduceIte]; simp [f47, hw, hmb]) | (refine awp_cond ?_; simp [f47, hw, hmb]; (try with_reducible refine ⟨?_, ?_⟩) <;> (try with_reducible intro hc) <;> try (exfalso; omega)) | ((first | (refine w_e [] ?_; intro J hJ; simp only []) | (refine w_q ?_; intro J hJ) | refine e_go ?_); simp [f47, hw, hmb]; (repeat refine ca ?_); (try ((try with_reducible refine ⟨?_, ?_⟩) <;> (try with_reducible intro hnil) <;> refine hJ _ _ ?_ <;> clear hJ J <;> simp only [ak, reduceIte] <;> try subst hnil)))))
      refine hJJ _ _ _ ?_ ⟨k + 1, by omega, rfl, by simp [f1], by simp [f45], by simp [f46], by simp, hkp1.trans hk2, hnext hb'⟩
      omega
    · have hk0 : 0 < k := by omega
      have hw1 : IntKind.i64.wrap ((k : Int) - 1) = ((k - 1 : Nat) : Int) := by rw [wrap_i64 _ (by omega) (by omega)]; omega
      have hd1 := eds_drop g.es (k - 1) (by omega)
      have hlt1 : k - 1 < g.es.length := by omega
      have hlt3 : (k - 1) * 3 < g.es.length * 3 := by omega
      have hle : ¬ xi ≤ (g.es.getD (k - 1) ed0).id := by
        intro h
        unfold numb at hnb
        rw [if_neg (by simp [hx1, hx2]), if_pos ⟨by simp [h0], h⟩] at hnb
        cases hnb
      generalize hy : g.es.getD (k - 1) ed0 = y at *
      obtain ⟨yi, ya, yb⟩ := y
      simp only at hd1 hle
      (repeat' (first | refine awp_seq ?_ | refine awp_block ?_ | ((first | refine awp_skip ?_ | refine awp_exit ?_); simp only [ak, reduceIte]) | (refine awp_ret ?_; simp only [ak, reduceIte]; simp [f1, f45, f46, f47, hlt, hd, hw, hel, hk3, hgH, hnx, hx1, hx2, hk0, hw1, hd1, hlt1, hlt3, hle, hab]) | (refine awp_cond ?_; simp [f1, f45, f46, f47, hlt, hd, hw, hel, hk3, hgH, hnx, hx1, hx2, hk0, hw1, hd1, hlt1, hlt3, hle, hab]; (try with_reducible refine ⟨?_, ?_⟩) <;> (try with_reducible intro hc) <;> try (exfalso; omega)) | ((first | (refine w_e [] ?_; intro J hJ; simp only []) | (refine w_q ?_; intro J hJ) | refine e_go ?_); simp [f1, f45, f46, f47, hlt, hd, hw, hel, hk3, hgH, hnx, hx1, hx2, hk0, hw1, hd1, hlt1, hlt3, hle, hab]; (repeat refine ca ?_); (try ((try with_reducible refine ⟨?_, ?_⟩) <;> (try with_reducible intro hnil) <;> refine hJ _ _ ?_ <;> clear hJ J <;> simp only [ak, reduceIte] <;> try subst hnil)))))
      refine callK_ofE (Has g xa _ hsm) (by simp []) ?_; rintro r st' ⟨rfl, hk1⟩
      have hB1 : st'.H st1.next = .box 40 3 [u xi, u xa, u xb] := by rw [hk1.H _ (by simp)]; simp
      have hgH1 : st'.H st.next = .box 25 2 (grL g) := by
        rw [hk1.H _ (by have := hkp.next; simp only [new_next] at this ⊢; omega), new_H, if_neg hnx]; exact hgH
      have hkp1 := (hkp.trans (Keeps.new _ _)).trans hk1
      have hkp01 := (hkp0.trans (Keeps.new _ _)).trans hk1
      by_cases hma : xa ∈ g.vs
      rotate_left
      · have hr := hret 21 (by rw [hbad, if_pos (.inl hma)]) (by decide)
        (repeat' (first | refine awp_seq ?_ | refine awp_block ?_ | ((first | refine awp_skip ?_ | refine awp_exit ?_); simp only [ak, reduceIte]) | (refine awp_ret ?_; simp only [ak, reduceIte]; simp [f1, hB1, hgH1, hr, hma]) | (refine awp_cond ?_; simp [f1, hB1, hgH1, hr, hma]; (try with_reducible refine ⟨?_, ?_⟩) <;> (try with_reducible intro hc) <;> try (exfalso; omega)) | ((first | (refine w_e [] ?_; intro J hJ; simp only []) | (refine w_q ?_; intro J hJ) | refine e_go ?_); simp [f1, hB1, hgH1, hr, hma]; (repeat refine ca ?_); (try ((try with_reducible refine ⟨?_, ?_⟩) <;> (try with_reducible intro hnil) <;> refine hJ _ _ ?_ <;> clear hJ J <;> simp only [ak, reduceIte] <;> try subst hnil)))))
        exact hkp01
      (refine e_go ?_; simp [f1, hB1, hgH1, hma]; (repeat refine ca ?_); (try ((try with_reducible refine ⟨?_, ?_⟩) <;> (try with_reducible intro hnil) <;> refine hJ _ _ ?_ <;> clear hJ J <;> simp only [ak, reduceIte] <;> try subst hnil)))
      refine callK_ofE (Has g xb _ hsm) (by simp []) ?_; rintro r st' ⟨rfl, hk2⟩
      by_cases hmb : xb ∈ g.vs
      rotate_left
      · have hr := hret 21 (by rw [hbad, if_pos (.inr hmb)]) (by decide)
        (repeat' (first | refine awp_seq ?_ | refine awp_block ?_ | ((first | refine awp_skip ?_ | refine awp_exit ?_); simp only [ak, reduceIte]) | (refine awp_ret ?_; simp only [ak, reduceIte]; simp [hr, hmb]) | (refine awp_cond ?_; simp [hr, hmb]; (try with_reducible refine ⟨?_, ?_⟩) <;> (try with_reducible intro hc) <;> try (exfalso; omega)) | ((first | (refine w_e [] ?_; intro J hJ; simp only []) | (refine w_q ?_; intro J hJ) | refine e_go ?_); simp [hr, hmb]; (repeat refine ca ?_); (try ((try with_reducible refine ⟨?_, ?_⟩) <;> (try with_reducible intro hnil) <;> refine hJ _ _ ?_ <;> clear hJ J <;> simp only [ak, reduceIte] <;> try subst hnil)))))
        exact hkp01.trans hk2
      have hb' : badE g k = 0 := by rw [hbad, if_neg (by simp [hma, hmb])]
      (repeat' (first | refine awp_seq ?_ | refine awp_block ?_ | ((first | refine awp_skip ?_ | refine awp_exit ?_); simp only [ak, reduceIte]) | (refine awp_ret ?_; simp only [ak, reduceIte]; simp [f47, hw, hmb]) | (refine awp_cond ?_; simp [f47, hw, hmb]; (try with_reducible refine ⟨?_, ?_⟩) <;> (try with_reducible intro hc) <;> try (exfalso; omega)) | ((first | (refine w_e [] ?_; intro J hJ; simp only []) | (refine w_q ?_; intro J hJ) | refine e_go ?_); simp [f47, hw, hmb]; (repeat refine ca ?_); (try ((try with_reducible refine ⟨?_, ?_⟩) <;> (try with_reducible intro hnil) <;> refine hJ _ _ ?_ <;> clear hJ J <;> simp only [ak, reduceIte] <;> try subst hnil)))))
      refine hJJ _ _ _ ?_ ⟨k + 1, by omega, rfl, by simp [f1], by simp [f45], by simp [f46], by simp, hkp1.trans hk2, hnext hb'⟩
      omega
  · have hr : chk g = 0 := by rw [hch]; exact firstNZ_zero (fun j hj => hno j (by omega))
    clear hJJ
    (repeat' (first | refine awp_seq ?_ | refine awp_block ?_ | ((first | refine awp_skip ?_ | refine awp_exit ?_); simp only [ak, reduceIte]) | (refine awp_ret ?_; simp only [ak, reduceIte]; simp [f1, f45, f46, f47, hlt, hr]) | (refine awp_cond ?_; simp [f1, f45, f46, f47, hlt, hr]; (try with_reducible refine ⟨?_, ?_⟩) <;> (try with_reducible intro hc) <;> try (exfalso; omega)) | ((first | (refine w_e [] ?_; intro J hJ; simp only []) | (refine w_q ?_; intro J hJ) | refine e_go ?_); simp [f1, f45, f46, f47, hlt, hr]; (repeat refine ca ?_); (try ((try with_reducible refine ⟨?_, ?_⟩) <;> (try with_reducible intro hnil) <;> refine hJ _ _ ?_ <;> clear hJ J <;> simp only [ak, reduceIte] <;> try subst hnil)))))
    exact hkp0

end Go.Proofs.Ytaiakdhcajibnaa.Aw

namespace Go.Proofs.Ytaiakdhcajibnaa.Aw
open Go Go.RowKit Go.Proofs.Ytaiakdhcajibnaa.Pl
set_option linter.unusedSimpArgs false
set_option linter.unusedVariables false

theorem eds_one (l : List Ed) : (eds l).all oneL = true := by
  induction l with
  | nil => rfl
  | cons e l ih => simp only [eds, List.flatMap_cons, List.all_append, ih, Bool.and_true]; rfl

theorem CloneE (l : List Ed) (t : Nat) (st : St) (hl : l.length ≤ 1048576) :
    ACalls Try.prog 73 [.sl t l.length (eds l)] st fun r st' => r = .sl 0 l.length (eds l) ∧ Keeps st st' := by
  have hone := eds_one l
  have hel := eds_length l
  refine acalls_freeze ?_
  refine acalls_nilM 40 3 ?_
  refine acalls_of_body tabOk Try.func73 rfl rfl Try.ntmps73 (rs := [.tmp 2]) rfl (by simp) ?_
  (repeat' (first | refine awp_seq ?_ | refine awp_block ?_ | ((first | refine awp_skip ?_ | refine awp_exit ?_); simp only [ak, reduceIte]) | (refine awp_ret ?_; simp only [ak, reduceIte]; simp [hone, hel]) | (refine awp_cond ?_; simp [hone, hel]; (try with_reducible refine ⟨?_, ?_⟩) <;> (try with_reducible intro hc) <;> try (exfalso; omega)) | ((first | (refine w_e [5] ?_; intro J hJ; simp only []) | (refine w_q ?_; intro J hJ) | refine e_go ?_); simp [hone, hel]; (repeat refine ca ?_); (try ((try with_reducible refine ⟨?_, ?_⟩) <;> (try with_reducible intro hnil) <;> refine hJ _ _ ?_ <;> clear hJ J <;> simp only [ak, reduceIte] <;> try subst hnil)))))
  · exact ⟨st.next + 1, l.length, ⟨rfl, rfl⟩, 40, 3, eds l, by simp, by rw [hel]; exact Nat.le_refl _, ⟨rfl, List.take_of_length_le (by rw [hel]; exact Nat.le_refl _)⟩, ((Keeps.new _ _).trans (Keeps.new _ _)).set (by omega) _⟩
  · exact ⟨st.next, 0, ⟨rfl, rfl⟩, 40, 3, [], by simp, by simp, ⟨rfl, .inr rfl⟩, (Keeps.new _ _).set (Nat.le_refl _) _⟩

theorem eds_get (a b : List Ed) (hab : a.length = b.length) (h : ∀ j, j < a.length → a.getD j ed0 = b.getD j ed0) : a = b := by
  apply List.ext_getElem hab
  intro j h1 h2
  have := h j h1
  rw [List.getD_eq_getElem?_getD, List.getD_eq_getElem?_getD, List.getElem?_eq_getElem h1, List.getElem?_eq_getElem h2] at this
  exact this
theorem ints_get (a b : List Int) (hab : a.length = b.length) (h : ∀ j, j < a.length → a.getD j 0 = b.getD j 0) : a = b := by
  apply List.ext_getElem hab
  intro j h1 h2
  have := h j h1
  rw [getD_lt _ _ h1, getD_lt _ _ h2] at this
  exact this

theorem ref_SameG (a b : Gr) (st : St) (hv : a.vs.length ≤ 1048576) (he : a.es.length ≤ 1048576) :
    ACalls Try.prog 9 [.ag (grL a), .ag (grL b)] st fun r st' => r = bb (decide (a = b)) ∧ Keeps st st' := by
  have hkk : Keeps st ((st.new (.box 25 2 (grL a))).new (.box 25 2 (grL b))) := (Keeps.new _ _).trans (Keeps.new _ _)
  refine acalls_of_body tabOk Try.func9 rfl rfl Try.ntmps9 (rs := [.tmp 4]) rfl (by simp) ?_
  by_cases h1 : a.vs.length = b.vs.length
  rotate_left
  · have h1' : ((a.vs.length : Int) != b.vs.length) = true := by simp; omega
    have hne : ¬ a = b := fun h => h1 (by rw [h])
    (repeat' (first | refine awp_seq ?_ | refine awp_block ?_ | ((first | refine awp_skip ?_ | refine awp_exit ?_); simp only [ak, reduceIte]) | (refine awp_ret ?_; simp only [ak, reduceIte]; simp [h1', hne]) | (refine awp_cond ?_; simp [h1', hne]; (try with_reducible refine ⟨?_, ?_⟩) <;> (try with_reducible intro hc) <;> try (exfalso; omega)) | ((first | (refine w_e [] ?_; intro J hJ; simp only []) | (refine w_q ?_; intro J hJ) | refine e_go ?_); simp [h1', hne]; (repeat refine ca ?_); (try ((try with_reducible refine ⟨?_, ?_⟩) <;> (try with_reducible intro hnil) <;> refine hJ _ _ ?_ <;> clear hJ J <;> simp only [ak, reduceIte] <;> try subst hnil)))))
    exact hkk
  have h1' : ((a.vs.length : Int) != b.vs.length) = false := by simp; omega
  by_cases h2 : a.es.length = b.es.length
  rotate_left
  · have h2' : ((a.es.length : Int) != b.es.length) = true := by simp; omega
    have hne : ¬ a = b := fun h => h2 (by rw [h])
    (repeat' (first | refine awp_seq ?_ | refine awp_block ?_ | ((first | refine awp_skip ?_ | refine awp_exit ?_); simp only [ak, reduceIte]) | (refine awp_ret ?_; simp only [ak, reduceIte]; simp [h1', h2', hne]) | (refine awp_cond ?_; simp [h1', h2', hne]; (try with_reducible refine ⟨?_, ?_⟩) <;> (try with_reducible intro hc) <;> try (exfalso; omega)) | ((first | (refine w_e [] ?_; intro J hJ; simp only []) | (refine w_q ?_; intro J hJ) | refine e_go ?_); simp [h1', h2', hne]; (repeat refine ca ?_); (try ((try with_reducible refine ⟨?_, ?_⟩) <;> (try with_reducible intro hnil) <;> refine hJ _ _ ?_ <;> clear hJ J <;> simp only [ak, reduceIte] <;> try subst hnil)))))
    exact hkk
  have h2' : ((a.es.length : Int) != b.es.length) = false := by simp; omega
  (repeat' (first | refine awp_seq ?_ | refine awp_block ?_ | ((first | refine awp_skip ?_ | refine awp_exit ?_); simp only [ak, reduceIte]) | (refine awp_ret ?_; simp only [ak, reduceIte]; simp [h1', h2']) | (refine awp_cond ?_; simp [h1', h2']; (try with_reducible refine ⟨?_, ?_⟩) <;> (try with_reducible intro hc) <;> try (exfalso; omega)) | ((first | (refine w_e [] ?_; intro J hJ; simp only []) | (refine w_q ?_; intro J hJ) | refine e_go ?_); simp [h1', h2']; (repeat refine ca ?_); (try ((try with_reducible refine ⟨?_, ?_⟩) <;> (try with_reducible intro hnil) <;> refine hJ _ _ ?_ <;> clear hJ J <;> simp only [ak, reduceIte] <;> try subst hnil)))))
  refine awp_loop (fun n fr st' => ∃ k : Nat, k ≤ a.vs.length ∧ n = a.vs.length - k ∧ fr 2 = .pt st.next 0 ∧ fr 3 = .pt (st.next + 1) 0 ∧ fr 25 = i a.vs.length ∧ fr 26 = i k ∧ st' = (st.new (.box 25 2 (grL a))).new (.box 25 2 (grL b)) ∧ ∀ j, j < k → a.vs.getD j 0 = b.vs.getD j 0) a.vs.length ?_ ?_
  · exact ⟨0, by omega, by omega, by simp, by simp, by simp, by simp, rfl, fun j h => by omega⟩
  rintro n fr st' ⟨k, hk, rfl, f2, f3, f25, f26, rfl, hno⟩ JJ hJJ
  by_cases hlt : k < a.vs.length
  · have hd := us_drop_getD a.vs k hlt
    have hlt' : k < b.vs.length := by omega
    have hd' := us_drop_getD b.vs k hlt'
    have hw := nat_add_one k (by omega)
    generalize hx : a.vs.getD k 0 = x at *
    generalize hy : b.vs.getD k 0 = y at *
    by_cases hxy : x = y
    · (repeat' (first | refine awp_seq ?_ | refine awp_block ?_ | ((first | refine awp_skip ?_ | refine awp_exit ?_); simp only [ak, reduceIte]) | (refine awp_ret ?_; simp only [ak, reduceIte]; simp [f2, f3, f25, f26, hlt, hlt', hd, hd', hw, hxy]) | (refine awp_cond ?_; simp [f2, f3, f25, f26, hlt, hlt', hd, hd', hw, hxy]; (try with_reducible refine ⟨?_, ?_⟩) <;> (try with_reducible intro hc) <;> try (exfalso; omega)) | ((first | (refine w_e [] ?_; intro J hJ; simp only []) | (refine w_q ?_; intro J hJ) | refine e_go ?_); simp [f2, f3, f25, f26, hlt, hlt', hd, hd', hw, hxy]; (repeat refine ca ?_); (try ((try with_reducible refine ⟨?_, ?_⟩) <;> (try with_reducible intro hnil) <;> refine hJ _ _ ?_ <;> clear hJ J <;> simp only [ak, reduceIte] <;> try subst hnil)))))
      refine hJJ _ _ _ ?_ ⟨k + 1, by omega, rfl, by simp [f2], by simp [f3], by simp [f25], by simp, rfl, fun j hj => ?_⟩
      · omega
      · rcases Nat.lt_or_ge j k with h | h
        · exact hno j h
        · obtain rfl : j = k := by omega
          rw [hx, hy]; exact hxy
    · have hne : ¬ a = b := fun h => hxy (by rw [← hx, ← hy, h])
      (repeat' (first | refine awp_seq ?_ | refine awp_block ?_ | ((first | refine awp_skip ?_ | refine awp_exit ?_); simp only [ak, reduceIte]) | (refine awp_ret ?_; simp only [ak, reduceIte]; simp [f2, f3, f25, f26, hlt, hlt', hd, hd', hw, hxy, hne]) | (refine awp_cond ?_; simp [f2, f3, f25, f26, hlt, hlt', hd, hd', hw, hxy, hne]; (try with_reducible refine ⟨?_, ?_⟩) <;> (try with_reducible intro hc) <;> try (exfalso; omega)) | ((first | (refine w_e [] ?_; intro J hJ; simp only []) | (refine w_q ?_; intro J hJ) | refine e_go ?_); simp [f2, f3, f25, f26, hlt, hlt', hd, hd', hw, hxy, hne]; (repeat refine ca ?_); (try ((try with_reducible refine ⟨?_, ?_⟩) <;> (try with_reducible intro hnil) <;> refine hJ _ _ ?_ <;> clear hJ J <;> simp only [ak, reduceIte] <;> try subst hnil)))))
      exact hkk
  have hvs := ints_get a.vs b.vs h1 (fun j hj => hno j (by omega))
  clear hJJ hno
  have hela := eds_length a.es
  have helb := eds_length b.es
  (repeat' (first | refine awp_seq ?_ | refine awp_block ?_ | ((first | refine awp_skip ?_ | refine awp_exit ?_); simp only [ak, reduceIte]) | (refine awp_ret ?_; simp only [ak, reduceIte]; simp [f2, f3, f25, f26, hlt]) | (refine awp_cond ?_; simp [f2, f3, f25, f26, hlt]; (try with_reducible refine ⟨?_, ?_⟩) <;> (try with_reducible intro hc) <;> try (exfalso; omega)) | ((first | (refine w_e [] ?_; intro J hJ; simp only []) | (refine w_q ?_; intro J hJ) | refine e_go ?_); simp [f2, f3, f25, f26, hlt]; (repeat refine ca ?_); (try ((try with_reducible refine ⟨?_, ?_⟩) <;> (try with_reducible intro hnil) <;> refine hJ _ _ ?_ <;> clear hJ J <;> simp only [ak, reduceIte] <;> try subst hnil)))))
  refine awp_loop (fun n fr st' => ∃ k : Nat, k ≤ a.es.length ∧ n = a.es.length - k ∧ fr 2 = .pt st.next 0 ∧ fr 3 = .pt (st.next + 1) 0 ∧ fr 43 = i a.es.length ∧ fr 44 = i k ∧ st' = (st.new (.box 25 2 (grL a))).new (.box 25 2 (grL b)) ∧ ∀ j, j < k → a.es.getD j ed0 = b.es.getD j ed0) a.es.length ?_ ?_
  · exact ⟨0, by omega, by omega, by simp [f2], by simp [f3], by simp, by simp, rfl, fun j h => by omega⟩
  clear f2 f3 f25 f26 hlt hk fr k
  rintro n fr st' ⟨k, hk, rfl, f2, f3, f43, f44, rfl, hno⟩ JJ hJJ
  by_cases hlt : k < a.es.length
  · have hd := eds_drop a.es k hlt
    have hlt' : k < b.es.length := by omega
    have hd' := eds_drop b.es k hlt'
    have hw := nat_add_one k (by omega)
    have hk3 : k * 3 < a.es.length * 3 := by omega
    have hk3' : k * 3 < b.es.length * 3 := by omega
    generalize hx : a.es.getD k ed0 = x at *
    generalize hy : b.es.getD k ed0 = y at *
    obtain ⟨x1, x2, x3⟩ := x
    obtain ⟨y1, y2, y3⟩ := y
    simp only at hd hd'
    by_cases hxy : ([x1, x2, x3] == [y1, y2, y3]) = true
    · have hxy' : ([x1, x2, x3] : List Int) = [y1, y2, y3] := by simpa using hxy
      injection hxy' with e1 e2; injection e2 with e2 e3; injection e3 with e3 _
      subst e1 e2 e3
      (repeat' (first | refine awp_seq ?_ | refine awp_block ?_ | ((first | refine awp_skip ?_ | refine awp_exit ?_); simp only [ak, reduceIte]) | (refine awp_ret ?_; simp only [ak, reduceIte]; simp [f2, f3, f43, f44, hlt, hlt', hd, hd', hw, hela, helb, hk3, hk3']) | (refine awp_cond ?_; simp [f2, f3, f43, f44, hlt, hlt', hd, hd', hw, hela, helb, hk3, hk3']; (try with_reducible refine ⟨?_, ?_⟩) <;> (try with_reducible intro hc) <;> try (exfalso; omega)) | ((first | (refine w_e [] ?_; intro J hJ; simp only []) | (refine w_q ?_; intro J hJ) | refine e_go ?_); simp [f2, f3, f43, f44, hlt, hlt', hd, hd', hw, hela, helb, hk3, hk3']; (repeat refine ca ?_); (try ((try with_reducible refine ⟨?_, ?_⟩) <;> (try with_reducible intro hnil) <;> refine hJ _ _ ?_ <;> clear hJ J <;> simp only [ak, reduceIte] <;> try subst hnil)))))
      refine hJJ _ _ _ ?_ ⟨k + 1, by omega, rfl, by simp [f2], by simp [f3], by simp [f43], by simp, rfl, fun j hj => ?_⟩
      · omega
      · rcases Nat.lt_or_ge j k with h | h
        · exact hno j h
        · obtain rfl : j = k := by omega
          rw [hx, hy]
    · have hne : ¬ a = b := fun h => hxy (by rw [h] at hx; rw [hx] at hy; injection hy with e1 e2 e3; subst e1 e2 e3; simp)
      have hxyf : ([x1, x2, x3] == [y1, y2, y3]) = false := by simpa using hxy
      (repeat' (first | refine awp_seq ?_ | refine awp_block ?_ | ((first | refine awp_skip ?_ | refine awp_exit ?_); simp only [ak, reduceIte]) | (refine awp_ret ?_; simp only [ak, reduceIte]; simp [f2, f3, f43, f44, hlt, hlt', hd, hd', hw, hela, helb, hk3, hk3', hxyf, hne]) | (refine awp_cond ?_; simp [f2, f3, f43, f44, hlt, hlt', hd, hd', hw, hela, helb, hk3, hk3', hxyf, hne]; (try with_reducible refine ⟨?_, ?_⟩) <;> (try with_reducible intro hc) <;> try (exfalso; omega)) | ((first | (refine w_e [] ?_; intro J hJ; simp only []) | (refine w_q ?_; intro J hJ) | refine e_go ?_); simp [f2, f3, f43, f44, hlt, hlt', hd, hd', hw, hela, helb, hk3, hk3', hxyf, hne]; (repeat refine ca ?_); (try ((try with_reducible refine ⟨?_, ?_⟩) <;> (try with_reducible intro hnil) <;> refine hJ _ _ ?_ <;> clear hJ J <;> simp only [ak, reduceIte] <;> try subst hnil)))))
      exact hkk
  · have hes := eds_get a.es b.es h2 (fun j hj => hno j (by omega))
    have heq : a = b := by cases a; cases b; simp only at hvs hes; subst hvs hes; rfl
    clear hJJ
    subst heq
    (repeat' (first | refine awp_seq ?_ | refine awp_block ?_ | ((first | refine awp_skip ?_ | refine awp_exit ?_); simp only [ak, reduceIte]) | (refine awp_ret ?_; simp only [ak, reduceIte]; simp [f2, f3, f43, f44, hlt]) | (refine awp_cond ?_; simp [f2, f3, f43, f44, hlt]; (try with_reducible refine ⟨?_, ?_⟩) <;> (try with_reducible intro hc) <;> try (exfalso; omega)) | ((first | (refine w_e [] ?_; intro J hJ; simp only []) | (refine w_q ?_; intro J hJ) | refine e_go ?_); simp [f2, f3, f43, f44, hlt]; (repeat refine ca ?_); (try ((try with_reducible refine ⟨?_, ?_⟩) <;> (try with_reducible intro hnil) <;> refine hJ _ _ ?_ <;> clear hJ J <;> simp only [ak, reduceIte] <;> try subst hnil)))))
    exact hkk

end Go.Proofs.Ytaiakdhcajibnaa.Aw

namespace Go.Proofs.Ytaiakdhcajibnaa.Aw
open Go Go.RowKit Go.Proofs.Ytaiakdhcajibnaa.Pl
set_option linter.unusedSimpArgs false
set_option linter.unusedVariables false

abbrev wfn (c : Nat) : LV := .fn (.func 31) [.pt c 0]
theorem SetAt.call {st : St} {c : Nat} {m : List Int} (h : SetAt st c m) (x : Int) : ACalls Try.prog 31 [u x, .pt c 0] st fun r st' => r = bb (decide (x ∈ m)) ∧ Keeps st st' := by
  obtain ⟨q, es, h1, h2, h3, h4, h5⟩ := h
  exact within_1 m es q c x st h3 h4 h5

theorem PickM (a b c : List Int) (ta tb tc : Nat) (st : St) (ha : small a) (hb : small b) (hc : small c) :
    ACalls Try.prog 11 [.sl ta a.length (us a), .sl tb b.length (us b), .sl tc c.length (us c)] st fun r st' => ∃ q, r = .ms q 0 (nums a b c).length ∧ st'.H q = .box 29 1 (us (nums a b c)) ∧ (st.next ≤ q ∧ q < st'.next) ∧ Keeps st st' := by
  have ha' := ha
  have hb' := hb
  have hc' := hc
  unfold small at ha' hb' hc'
  refine acalls_of_body tabOk Try.func11 rfl rfl Try.ntmps11 (rs := [.tmp 6]) rfl (by simp) ?_
  (repeat' (first | refine awp_seq ?_ | refine awp_block ?_ | ((first | refine awp_skip ?_ | refine awp_exit ?_); simp only [ak, reduceIte]) | (refine awp_ret ?_; simp only [ak, reduceIte]; simp []) | (refine awp_cond ?_; simp []; (try with_reducible refine ⟨?_, ?_⟩) <;> (try with_reducible intro hc) <;> try (exfalso; omega)) | ((first | (refine w_e [] ?_; intro J hJ; simp only []) | (refine w_q ?_; intro J hJ) | refine e_go ?_); simp []; (repeat refine ca ?_); (try ((try with_reducible refine ⟨?_, ?_⟩) <;> (try with_reducible intro hnil) <;> refine hJ _ _ ?_ <;> clear hJ J <;> simp only [ak, reduceIte] <;> try subst hnil)))))
  refine callK_ofE (within a ta _ ha) (by simp) ?_; rintro r s1 ⟨kA, rfl, hA1, hk1⟩
  (refine e_go ?_; simp []; (repeat refine ca ?_); (try ((try with_reducible refine ⟨?_, ?_⟩) <;> (try with_reducible intro hnil) <;> refine hJ _ _ ?_ <;> clear hJ J <;> simp only [ak, reduceIte] <;> try subst hnil)))
  refine callK_ofE (within b tb _ hb) (by simp) ?_; rintro r s2 ⟨kB, rfl, hB2, hk2⟩
  (refine e_go ?_; simp []; (repeat refine ca ?_); (try ((try with_reducible refine ⟨?_, ?_⟩) <;> (try with_reducible intro hnil) <;> refine hJ _ _ ?_ <;> clear hJ J <;> simp only [ak, reduceIte] <;> try subst hnil)))
  refine callK_ofE (within c tc _ hc) (by simp) ?_; rintro r s3 ⟨kC, rfl, hC3, hk3⟩
  have hA3 := (hA1.keep hk2).keep hk3
  have hB3 := hB2.keep hk3
  have hK3 := (hk1.trans hk2).trans hk3
  (repeat' (first | refine awp_seq ?_ | refine awp_block ?_ | ((first | refine awp_skip ?_ | refine awp_exit ?_); simp only [ak, reduceIte]) | (refine awp_ret ?_; simp only [ak, reduceIte]; simp []) | (refine awp_cond ?_; simp []; (try with_reducible refine ⟨?_, ?_⟩) <;> (try with_reducible intro hc) <;> try (exfalso; omega)) | ((first | (refine w_e [] ?_; intro J hJ; simp only []) | (refine w_q ?_; intro J hJ) | refine e_go ?_); simp []; (repeat refine ca ?_); (try ((try with_reducible refine ⟨?_, ?_⟩) <;> (try with_reducible intro hnil) <;> refine hJ _ _ ?_ <;> clear hJ J <;> simp only [ak, reduceIte] <;> try subst hnil)))))
  refine awp_ownM 10 29 1 (by simp) ?_
  refine awp_loop (fun n fr st2 => ∃ k : Nat, k ≤ b.length ∧ n = b.length - k ∧ fr 7 = wfn kA ∧ fr 8 = wfn kB ∧ fr 9 = wfn kC ∧ fr 2 = .sl tc c.length (us c) ∧ fr 21 = .sl tb b.length (us b) ∧ fr 22 = i b.length ∧ fr 23 = i k ∧ ∃ q, fr 10 = .ms q 0 ((b.take k).filter (p1 a c)).length ∧ st2.H q = .box 29 1 (us ((b.take k).filter (p1 a c))) ∧ s3.next ≤ q ∧ q < st2.next ∧ Keeps s3 st2) b.length ?_ ?_
  · exact ⟨0, by omega, by omega, by simp, by simp, by simp, by simp, by simp, by simp, by simp, s3.next, by simp, by simp, Nat.le_refl _, by simp, Keeps.new _ _⟩
  rintro n fr st2 ⟨k, hk, rfl, f7, f8, f9, f2, f21, f22, f23, q, f10, hH, hq, hqn, hkp⟩ JJ hJJ
  by_cases hlt : k < b.length
  · have hd := us_drop_getD b k hlt
    have hw := nat_add_one k (by omega)
    have hst := filter_take b (p1 a c) k hlt
    have hle := List.length_filter_le (p1 a c) (b.take k)
    rw [List.length_take] at hle
    generalize hx : b.getD k 0 = x at *
    generalize hF : (b.take k).filter (p1 a c) = F at *
    (repeat' (first | refine awp_seq ?_ | refine awp_block ?_ | ((first | refine awp_skip ?_ | refine awp_exit ?_); simp only [ak, reduceIte]) | (refine awp_ret ?_; simp only [ak, reduceIte]; simp [f7, f8, f9, f21, f22, f23, hlt, hd, hw]) | (refine awp_cond ?_; simp [f7, f8, f9, f21, f22, f23, hlt, hd, hw]; (try with_reducible refine ⟨?_, ?_⟩) <;> (try with_reducible intro hc) <;> try (exfalso; omega)) | ((first | (refine w_e [] ?_; intro J hJ; simp only []) | (refine w_q ?_; intro J hJ) | refine e_go ?_); simp [f7, f8, f9, f21, f22, f23, hlt, hd, hw]; (repeat refine ca ?_); (try ((try with_reducible refine ⟨?_, ?_⟩) <;> (try with_reducible intro hnil) <;> refine hJ _ _ ?_ <;> clear hJ J <;> simp only [ak, reduceIte] <;> try subst hnil)))))
    refine callK_of ((hC3.keep hkp).call x) ?_; rintro r s4 ⟨rfl, hk4⟩
    have hH4 := (hk4.H q hqn).trans hH
    have hn4 := hk4.next
    by_cases hxc : x ∈ c
    · have hpx : p1 a c x = true := by simp [p1, hxc]
      rw [if_pos hpx] at hst
      have hqne : ¬ q = s4.next := by omega
      (repeat' (first | refine awp_seq ?_ | refine awp_block ?_ | ((first | refine awp_skip ?_ | refine awp_exit ?_); simp only [ak, reduceIte]) | (refine awp_ret ?_; simp only [ak, reduceIte]; simp [f23, f10, hH4, hw, hxc, hqne]) | (refine awp_cond ?_; simp [f23, f10, hH4, hw, hxc, hqne]; (try with_reducible refine ⟨?_, ?_⟩) <;> (try with_reducible intro hc) <;> try (exfalso; omega)) | ((first | (refine w_e [] ?_; intro J hJ; simp only []) | (refine w_q ?_; intro J hJ) | refine e_go ?_); simp [f23, f10, hH4, hw, hxc, hqne]; (repeat refine ca ?_); (try ((try with_reducible refine ⟨?_, ?_⟩) <;> (try with_reducible intro hnil) <;> refine hJ _ _ ?_ <;> clear hJ J <;> simp only [ak, reduceIte] <;> try subst hnil)))))
      refine hJJ (b.length - (k + 1)) _ _ (by omega) ⟨k + 1, by omega, rfl, by simp [f7], by simp [f8], by simp [f9], by simp [f2], by simp [f21], by simp [f22], by simp, s4.next + 1, by simp [hst], by simp [hst], by have := hkp.next; omega, by simp, (((hkp.trans hk4).trans (Keeps.new _ _)).set hq _).trans (Keeps.new _ _)⟩
    · (refine e_go ?_; simp [hxc, f7]; (repeat refine ca ?_); (try ((try with_reducible refine ⟨?_, ?_⟩) <;> (try with_reducible intro hnil) <;> refine hJ _ _ ?_ <;> clear hJ J <;> simp only [ak, reduceIte] <;> try subst hnil)))
      refine callK_of (((hA3.keep hkp).keep hk4).call x) ?_; rintro r s5 ⟨rfl, hk5⟩
      have hH5 := (hk5.H q (by omega)).trans hH4
      have hn5 := hk5.next
      have hqne : ¬ q = s5.next := by omega
      by_cases hxa : x ∈ a
      · have hpx : p1 a c x = false := by simp [p1, hxc, hxa]
        rw [hpx] at hst
        (repeat' (first | refine awp_seq ?_ | refine awp_block ?_ | ((first | refine awp_skip ?_ | refine awp_exit ?_); simp only [ak, reduceIte]) | (refine awp_ret ?_; simp only [ak, reduceIte]; simp [f23, hw, hxa]) | (refine awp_cond ?_; simp [f23, hw, hxa]; (try with_reducible refine ⟨?_, ?_⟩) <;> (try with_reducible intro hc) <;> try (exfalso; omega)) | ((first | (refine w_e [] ?_; intro J hJ; simp only []) | (refine w_q ?_; intro J hJ) | refine e_go ?_); simp [f23, hw, hxa]; (repeat refine ca ?_); (try ((try with_reducible refine ⟨?_, ?_⟩) <;> (try with_reducible intro hnil) <;> refine hJ _ _ ?_ <;> clear hJ J <;> simp only [ak, reduceIte] <;> try subst hnil)))))
        refine hJJ (b.length - (k + 1)) _ _ (by omega) ⟨k + 1, by omega, rfl, by simp [f7], by simp [f8], by simp [f9], by simp [f2], by simp [f21], by simp [f22], by simp, q, by simp [f10, hst], by simp [hst, hH5], hq, by omega, (hkp.trans hk4).trans hk5⟩
      · have hpx : p1 a c x = true := by simp [p1, hxa]
        rw [if_pos hpx] at hst
        (repeat' (first | refine awp_seq ?_ | refine awp_block ?_ | ((first | refine awp_skip ?_ | refine awp_exit ?_); simp only [ak, reduceIte]) | (refine awp_ret ?_; simp only [ak, reduceIte]; simp [f23, f10, hH5, hw, hxa, hqne]) | (refine awp_cond ?_; simp [f23, f10, hH5, hw, hxa, hqne]; (try with_reducible refine ⟨?_, ?_⟩) <;> (try with_reducible intro hc) <;> try (exfalso; omega)) | ((first | (refine w_e [] ?_; intro J hJ; simp only []) | (refine w_q ?_; intro J hJ) | refine e_go ?_); simp [f23, f10, hH5, hw, hxa, hqne]; (repeat refine ca ?_); (try ((try with_reducible refine ⟨?_, ?_⟩) <;> (try with_reducible intro hnil) <;> refine hJ _ _ ?_ <;> clear hJ J <;> simp only [ak, reduceIte] <;> try subst hnil)))))
        refine hJJ (b.length - (k + 1)) _ _ (by omega) ⟨k + 1, by omega, rfl, by simp [f7], by simp [f8], by simp [f9], by simp [f2], by simp [f21], by simp [f22], by simp, s5.next + 1, by simp [hst], by simp [hst], by have := hkp.next; omega, by simp, ((((hkp.trans hk4).trans hk5).trans (Keeps.new _ _)).set hq _).trans (Keeps.new _ _)⟩
  have hk' : k = b.length := by omega
  rw [hk', List.take_length] at hH f10
  have hle1 := List.length_filter_le (p1 a c) b
  clear hJJ
  generalize hE : b.filter (p1 a c) = E at *
  (repeat' (first | refine awp_seq ?_ | refine awp_block ?_ | ((first | refine awp_skip ?_ | refine awp_exit ?_); simp only [ak, reduceIte]) | (refine awp_ret ?_; simp only [ak, reduceIte]; simp [f2, f21, f22, f23, hlt]) | (refine awp_cond ?_; simp [f2, f21, f22, f23, hlt]; (try with_reducible refine ⟨?_, ?_⟩) <;> (try with_reducible intro hc) <;> try (exfalso; omega)) | ((first | (refine w_e [] ?_; intro J hJ; simp only []) | (refine w_q ?_; intro J hJ) | refine e_go ?_); simp [f2, f21, f22, f23, hlt]; (repeat refine ca ?_); (try ((try with_reducible refine ⟨?_, ?_⟩) <;> (try with_reducible intro hnil) <;> refine hJ _ _ ?_ <;> clear hJ J <;> simp only [ak, reduceIte] <;> try subst hnil)))))
  refine awp_loop (fun n fr st2 => ∃ k : Nat, k ≤ c.length ∧ n = c.length - k ∧ fr 7 = wfn kA ∧ fr 8 = wfn kB ∧ fr 41 = .sl tc c.length (us c) ∧ fr 42 = i c.length ∧ fr 43 = i k ∧ ∃ q, fr 10 = .ms q 0 (E ++ (c.take k).filter (p2 a b)).length ∧ st2.H q = .box 29 1 (us (E ++ (c.take k).filter (p2 a b))) ∧ s3.next ≤ q ∧ q < st2.next ∧ Keeps s3 st2) c.length ?_ ?_
  · exact ⟨0, by omega, by omega, by simp [f7], by simp [f8], by simp, by simp, by simp, q, by simp [f10], by simp [hH], hq, hqn, hkp⟩
  clear f7 f8 f9 f2 f21 f22 f23 f10 hH hq hqn hkp hlt hk hk' k q fr st2
  rintro n fr st2 ⟨k, hk, rfl, f7, f8, f41, f42, f43, q, f10, hH, hq, hqn, hkp⟩ JJ hJJ
  by_cases hlt : k < c.length
  · have hd := us_drop_getD c k hlt
    have hw := nat_add_one k (by omega)
    have hst := filter_take c (p2 a b) k hlt
    have hle := List.length_filter_le (p2 a b) (c.take k)
    rw [List.length_take] at hle
    generalize hx : c.getD k 0 = x at *
    generalize hF : (c.take k).filter (p2 a b) = F at *
    (repeat' (first | refine awp_seq ?_ | refine awp_block ?_ | ((first | refine awp_skip ?_ | refine awp_exit ?_); simp only [ak, reduceIte]) | (refine awp_ret ?_; simp only [ak, reduceIte]; simp [f7, f8, f41, f42, f43, hlt, hd, hw]) | (refine awp_cond ?_; simp [f7, f8, f41, f42, f43, hlt, hd, hw]; (try with_reducible refine ⟨?_, ?_⟩) <;> (try with_reducible intro hc) <;> try (exfalso; omega)) | ((first | (refine w_e [] ?_; intro J hJ; simp only []) | (refine w_q ?_; intro J hJ) | refine e_go ?_); simp [f7, f8, f41, f42, f43, hlt, hd, hw]; (repeat refine ca ?_); (try ((try with_reducible refine ⟨?_, ?_⟩) <;> (try with_reducible intro hnil) <;> refine hJ _ _ ?_ <;> clear hJ J <;> simp only [ak, reduceIte] <;> try subst hnil)))))
    refine callK_of ((hB3.keep hkp).call x) ?_; rintro r s4 ⟨rfl, hk4⟩
    have hH4 := (hk4.H q hqn).trans hH
    have hn4 := hk4.next
    by_cases hxb : x ∈ b
    · have hpx : p2 a b x = false := by simp [p2, hxb]
      rw [hpx] at hst
      (repeat' (first | refine awp_seq ?_ | refine awp_block ?_ | ((first | refine awp_skip ?_ | refine awp_exit ?_); simp only [ak, reduceIte]) | (refine awp_ret ?_; simp only [ak, reduceIte]; simp [f43, hw, hxb]) | (refine awp_cond ?_; simp [f43, hw, hxb]; (try with_reducible refine ⟨?_, ?_⟩) <;> (try with_reducible intro hc) <;> try (exfalso; omega)) | ((first | (refine w_e [] ?_; intro J hJ; simp only []) | (refine w_q ?_; intro J hJ) | refine e_go ?_); simp [f43, hw, hxb]; (repeat refine ca ?_); (try ((try with_reducible refine ⟨?_, ?_⟩) <;> (try with_reducible intro hnil) <;> refine hJ _ _ ?_ <;> clear hJ J <;> simp only [ak, reduceIte] <;> try subst hnil)))))
      refine hJJ (c.length - (k + 1)) _ _ (by omega) ⟨k + 1, by omega, rfl, by simp [f7], by simp [f8], by simp [f41], by simp [f42], by simp, q, by simp [f10, hst], by simp [hst, hH4], hq, by omega, hkp.trans hk4⟩
    · (refine e_go ?_; simp [hxb, f7]; (repeat refine ca ?_); (try ((try with_reducible refine ⟨?_, ?_⟩) <;> (try with_reducible intro hnil) <;> refine hJ _ _ ?_ <;> clear hJ J <;> simp only [ak, reduceIte] <;> try subst hnil)))
      refine callK_of (((hA3.keep hkp).keep hk4).call x) ?_; rintro r s5 ⟨rfl, hk5⟩
      have hH5 := (hk5.H q (by omega)).trans hH4
      have hn5 := hk5.next
      have hqne : ¬ q = s5.next := by omega
      by_cases hxa : x ∈ a
      · have hpx : p2 a b x = false := by simp [p2, hxb, hxa]
        rw [hpx] at hst
        (repeat' (first | refine awp_seq ?_ | refine awp_block ?_ | ((first | refine awp_skip ?_ | refine awp_exit ?_); simp only [ak, reduceIte]) | (refine awp_ret ?_; simp only [ak, reduceIte]; simp [f43, hw, hxa]) | (refine awp_cond ?_; simp [f43, hw, hxa]; (try with_reducible refine ⟨?_, ?_⟩) <;> (try with_reducible intro hc) <;> try (exfalso; omega)) | ((first | (refine w_e [] ?_; intro J hJ; simp only []) | (refine w_q ?_; intro J hJ) | refine e_go ?_); simp [f43, hw, hxa]; (repeat refine ca ?_); (try ((try with_reducible refine ⟨?_, ?_⟩) <;> (try with_reducible intro hnil) <;> refine hJ _ _ ?_ <;> clear hJ J <;> simp only [ak, reduceIte] <;> try subst hnil)))))
        refine hJJ (c.length - (k + 1)) _ _ (by omega) ⟨k + 1, by omega, rfl, by simp [f7], by simp [f8], by simp [f41], by simp [f42], by simp, q, by simp [f10, hst], by simp [hst, hH5], hq, by omega, (hkp.trans hk4).trans hk5⟩
      · have hpx : p2 a b x = true := by simp [p2, hxa, hxb]
        rw [if_pos hpx] at hst
        generalize hG : E ++ F = G at *
        have hst2 : E ++ (c.take (k + 1)).filter (p2 a b) = G ++ [x] := by rw [hst, ← hG, List.append_assoc]
        have hGl : G.length ≤ 2097152 := by rw [← hG, List.length_append]; omega
        (repeat' (first | refine awp_seq ?_ | refine awp_block ?_ | ((first | refine awp_skip ?_ | refine awp_exit ?_); simp only [ak, reduceIte]) | (refine awp_ret ?_; simp only [ak, reduceIte]; simp [f43, f10, hH5, hw, hxa, hqne]) | (refine awp_cond ?_; simp [f43, f10, hH5, hw, hxa, hqne]; (try with_reducible refine ⟨?_, ?_⟩) <;> (try with_reducible intro hc) <;> try (exfalso; omega)) | ((first | (refine w_e [] ?_; intro J hJ; simp only []) | (refine w_q ?_; intro J hJ) | refine e_go ?_); simp [f43, f10, hH5, hw, hxa, hqne]; (repeat refine ca ?_); (try ((try with_reducible refine ⟨?_, ?_⟩) <;> (try with_reducible intro hnil) <;> refine hJ _ _ ?_ <;> clear hJ J <;> simp only [ak, reduceIte] <;> try subst hnil)))))
        refine hJJ (c.length - (k + 1)) _ _ (by omega) ⟨k + 1, by omega, rfl, by simp [f7], by simp [f8], by simp [f41], by simp [f42], by simp, s5.next + 1, by rw [hst2]; simp, by rw [hst2]; simp, by have := hkp.next; omega, by simp, ((((hkp.trans hk4).trans hk5).trans (Keeps.new _ _)).set hq _).trans (Keeps.new _ _)⟩
  have hk' : k = c.length := by omega
  rw [hk', List.take_length] at hH f10
  have hnn : E ++ c.filter (p2 a b) = nums a b c := by rw [← hE]; rfl
  rw [hnn] at hH f10
  clear hJJ
  (repeat' (first | refine awp_seq ?_ | refine awp_block ?_ | ((first | refine awp_skip ?_ | refine awp_exit ?_); simp only [ak, reduceIte]) | (refine awp_ret ?_; simp only [ak, reduceIte]; simp [f10, f41, f42, f43, hlt]) | (refine awp_cond ?_; simp [f10, f41, f42, f43, hlt]; (try with_reducible refine ⟨?_, ?_⟩) <;> (try with_reducible intro hc) <;> try (exfalso; omega)) | ((first | (refine w_e [] ?_; intro J hJ; simp only []) | (refine w_q ?_; intro J hJ) | refine e_go ?_); simp [f10, f41, f42, f43, hlt]; (repeat refine ca ?_); (try ((try with_reducible refine ⟨?_, ?_⟩) <;> (try with_reducible intro hnil) <;> refine hJ _ _ ?_ <;> clear hJ J <;> simp only [ak, reduceIte] <;> try subst hnil)))))
  exact ⟨hH, ⟨by have := hK3.next; omega, hqn⟩, hK3.trans hkp⟩

theorem AllM (a b c : List Int) (st : St) (ha : small a) (hb : small b) (hc : small c) :
    ACalls Try.prog 14 [.ag [.sl 0 a.length (us a), .sl 0 b.length (us b), .sl 0 c.length (us c)]] st fun r st' => ∃ q, r = .ms q 0 (nums a b c).length ∧ st'.H q = .box 29 1 (us (nums a b c)) ∧ (st.next ≤ q ∧ q < st'.next) ∧ Keeps st st' := by
  refine acalls_of_body tabOk Try.func14 rfl rfl Try.ntmps14 (rs := [.tmp 2]) rfl (by simp) ?_
  (repeat' (first | refine awp_seq ?_ | refine awp_block ?_ | ((first | refine awp_skip ?_ | refine awp_exit ?_); simp only [ak, reduceIte]) | (refine awp_ret ?_; simp only [ak, reduceIte]; simp []) | (refine awp_cond ?_; simp []; (try with_reducible refine ⟨?_, ?_⟩) <;> (try with_reducible intro hc) <;> try (exfalso; omega)) | ((first | (refine w_e [] ?_; intro J hJ; simp only []) | (refine w_q ?_; intro J hJ) | refine e_go ?_); simp []; (repeat refine ca ?_); (try ((try with_reducible refine ⟨?_, ?_⟩) <;> (try with_reducible intro hnil) <;> refine hJ _ _ ?_ <;> clear hJ J <;> simp only [ak, reduceIte] <;> try subst hnil)))))
  refine callK_ofE (PickM a b c 0 0 0 _ ha hb hc) (by simp) ?_; rintro r s1 ⟨q, rfl, h1, ⟨h2, h3⟩, h4⟩
  simp only [new_next] at h2
  (repeat' (first | refine awp_seq ?_ | refine awp_block ?_ | ((first | refine awp_skip ?_ | refine awp_exit ?_); simp only [ak, reduceIte]) | (refine awp_ret ?_; simp only [ak, reduceIte]; simp []) | (refine awp_cond ?_; simp []; (try with_reducible refine ⟨?_, ?_⟩) <;> (try with_reducible intro hc) <;> try (exfalso; omega)) | ((first | (refine w_e [] ?_; intro J hJ; simp only []) | (refine w_q ?_; intro J hJ) | refine e_go ?_); simp []; (repeat refine ca ?_); (try ((try with_reducible refine ⟨?_, ?_⟩) <;> (try with_reducible intro hnil) <;> refine hJ _ _ ?_ <;> clear hJ J <;> simp only [ak, reduceIte] <;> try subst hnil)))))
  exact ⟨h1, ⟨by omega, h3⟩, (Keeps.new _ _).trans h4⟩

end Go.Proofs.Ytaiakdhcajibnaa.Aw

namespace Go.Proofs.Ytaiakdhcajibnaa.Aw
open Go Go.RowKit Go.Proofs.Ytaiakdhcajibnaa.Pl
set_option linter.unusedSimpArgs false
set_option linter.unusedVariables false

theorem getDE (l : List Ed) (j : Nat) (hj : j < l.length) : l.getD j ed0 = l[j] := by
  rw [List.getD_eq_getElem?_getD, List.getElem?_eq_getElem hj]; rfl
theorem eds_append (a b : List Ed) : eds (a ++ b) = eds a ++ eds b := by simp [eds]
theorem eds_tk (l : List Ed) (k : Nat) : (eds l).take (k * 3) = eds (l.take k) := by
  induction l generalizing k with
  | nil => simp [eds]
  | cons x l ih =>
    cases k with
    | zero => simp [eds]
    | succ k =>
      rw [show (k + 1) * 3 = k * 3 + 1 + 1 + 1 by omega]
      simp only [eds, List.flatMap_cons, edL, List.cons_append, List.nil_append, List.take_succ_cons]
      have := ih k
      simp only [eds, edL] at this
      rw [this]
theorem eds_dr (l : List Ed) (k : Nat) : (eds l).drop (k * 3) = eds (l.drop k) := by
  induction l generalizing k with
  | nil => simp [eds]
  | cons x l ih =>
    cases k with
    | zero => simp [eds]
    | succ k =>
      rw [show (k + 1) * 3 = k * 3 + 1 + 1 + 1 by omega]
      simp only [eds, List.flatMap_cons, edL, List.cons_append, List.nil_append, List.drop_succ_cons]
      have := ih k
      simpa only [eds, edL] using this
theorem eds_set (l : List Ed) (k : Nat) (x : Ed) (hk : k < l.length) : (eds l).take (k * 3) ++ (u x.id :: u x.a :: u x.b :: (eds l).drop (k * 3 + 3)) = eds (l.set k x) := by
  rw [show k * 3 + 3 = (k + 1) * 3 by omega, eds_tk, eds_dr, List.set_eq_take_append_cons_drop, if_pos hk, eds_append]
  rfl

/-- A box of edges. -/
def be (st : St) (q : Nat) (c : List Ed) : St := st.set q (.box 40 3 (eds c))
@[simp] theorem be_next (st : St) (q : Nat) (c : List Ed) : (be st q c).next = st.next := rfl
@[simp] theorem be_H (st : St) (q : Nat) (c : List Ed) : (be st q c).H q = .box 40 3 (eds c) := by simp [be]
theorem be_ne (st : St) (q l : Nat) (c : List Ed) (h : l ≠ q) : (be st q c).H l = st.H l := by simp [be, h]
theorem be_be (st : St) (q : Nat) (c d : List Ed) : be (be st q c) q d = be st q d := by unfold be; exact St.set_set _ _ _ _
theorem be_self {st : St} {q : Nat} {c : List Ed} (h : st.H q = .box 40 3 (eds c)) : be st q c = st := St.ext' rfl fun y => by
  by_cases hy : y = q
  · subst hy; rw [be_H, h]
  · rw [be_ne _ _ _ _ hy]
theorem be_set (st : St) (q : Nat) (c : List Ed) (k : Nat) (x : Ed) (hk : k < c.length) : (be st q c).set q (.box 40 3 ((eds c).take (k * 3) ++ (u x.id :: u x.a :: u x.b :: (eds c).drop (k * 3 + 3)))) = be st q (c.set k x) := by
  rw [eds_set _ _ _ hk]; unfold be; exact St.set_set _ _ _ _

theorem be_put (st : St) (q : Nat) (c d : List Ed) : (be st q c).set q (.box 40 3 (eds d)) = be st q d := by unfold be; exact St.set_set _ _ _ _

/-- Two ranges, swapped. -/
def swR (c : List Ed) (a b : Nat) : Nat → List Ed
  | 0 => c
  | n + 1 => swR ((c.set a (c.getD b ed0)).set b (c.getD a ed0)) (a + 1) (b + 1) n
theorem swR_length (c : List Ed) (a b n : Nat) : (swR c a b n).length = c.length := by
  induction n generalizing c a b with
  | zero => rfl
  | succ n ih => rw [swR, ih]; simp
theorem set_mid (U : List Ed) (x y : Ed) (W : List Ed) : (U ++ x :: W).set U.length y = U ++ y :: W := by
  rw [List.set_append_right _ _ (Nat.le_refl _)]; simp
theorem getD_mid (U : List Ed) (x : Ed) (W : List Ed) : (U ++ x :: W).getD U.length ed0 = x := by
  rw [List.getD_eq_getElem?_getD, List.getElem?_append_right (Nat.le_refl _)]; simp
theorem swR_blocks : ∀ (n : Nat) (U A M B V : List Ed), A.length = n → B.length = n → swR (U ++ A ++ M ++ B ++ V) U.length (U.length + n + M.length) n = U ++ B ++ M ++ A ++ V
  | 0, U, A, M, B, V, hA, hB => by
    rw [List.eq_nil_of_length_eq_zero hA, List.eq_nil_of_length_eq_zero hB]; rfl
  | n + 1, U, x :: A, M, y :: B, V, hA, hB => by
    simp only [List.length_cons, Nat.add_right_cancel_iff] at hA hB
    rw [swR]
    have e1 : U ++ x :: A ++ M ++ y :: B ++ V = U ++ x :: (A ++ M ++ y :: B ++ V) := by simp
    have e2 : U ++ x :: (A ++ M ++ y :: B ++ V) = (U ++ x :: A ++ M) ++ y :: (B ++ V) := by simp
    have l2 : U.length + (n + 1) + M.length = (U ++ x :: A ++ M).length := by simp [hA]; omega
    have g1 : (U ++ x :: A ++ M ++ y :: B ++ V).getD U.length ed0 = x := by rw [e1, getD_mid]
    have g2 : (U ++ x :: A ++ M ++ y :: B ++ V).getD (U.length + (n + 1) + M.length) ed0 = y := by rw [e1, e2, l2, getD_mid]
    rw [g1, g2, e1, set_mid]
    have e3 : U ++ y :: (A ++ M ++ y :: B ++ V) = (U ++ y :: A ++ M) ++ y :: (B ++ V) := by simp
    have l3 : U.length + (n + 1) + M.length = (U ++ y :: A ++ M).length := by simp [hA]; omega
    rw [e3, l3, set_mid, ← l3]
    have e4 : U ++ y :: A ++ M ++ x :: (B ++ V) = (U ++ [y]) ++ A ++ (M ++ [x]) ++ B ++ V := by simp
    have l4 : U.length + (n + 1) + M.length + 1 = (U ++ [y]).length + n + (M ++ [x]).length := by simp; omega
    have l5 : U.length + 1 = (U ++ [y]).length := by simp
    rw [e4, l4, l5, swR_blocks n (U ++ [y]) A (M ++ [x]) B V hA hB]
    simp

theorem wrap_s (n : Int) (h0 : -9223372036854775808 ≤ n) (h1 : n ≤ 9223372036854775807) : IntKind.i64.wrap n = n := by
  simp only [IntKind.wrap, IntKind.signed, IntKind.bits]
  simp
  split <;> omega

theorem swapRange (c : List Ed) (q a b n : Nat) (F : Fn) (caps : List LV) (st : St) (hc : c.length ≤ 100000) (hab : a + n ≤ b) (hb : b + n ≤ c.length) (hH : st.H q = .box 40 3 (eds c)) :
    ACalls Try.prog 82 [.ms q 0 c.length, i a, i b, i n, .fn F caps] st fun r st' => st' = be st q (swR c a b n) := by
  refine acalls_of_body tabOk Try.func82 rfl rfl Try.ntmps82 (rs := []) rfl (by simp) ?_
  (repeat' (first | refine awp_seq ?_ | refine awp_block ?_ | ((first | refine awp_skip ?_ | refine awp_exit ?_); simp only [ak, reduceIte]) | (refine awp_ret ?_; simp only [ak, reduceIte]; simp []) | (refine awp_cond ?_; simp []; (try with_reducible refine ⟨?_, ?_⟩) <;> (try with_reducible intro hc) <;> try (exfalso; omega)) | ((first | (refine w_e [] ?_; intro J hJ; simp only []) | (refine w_q ?_; intro J hJ) | refine e_go ?_); simp []; (repeat refine ca ?_); (try ((try with_reducible refine ⟨?_, ?_⟩) <;> (try with_reducible intro hnil) <;> refine hJ _ _ ?_ <;> clear hJ J <;> simp only [ak, reduceIte] <;> try subst hnil)))))
  refine awp_loop (fun z fr st2 => ∃ (k : Nat) (d : List Ed), k ≤ n ∧ z = n - k ∧ fr 0 = .ms q 0 c.length ∧ fr 1 = i a ∧ fr 2 = i b ∧ fr 3 = i n ∧ fr 10 = i k ∧ st2 = be st q d ∧ d.length = c.length ∧ swR d (a + k) (b + k) (n - k) = swR c a b n) n ?_ ?_
  · exact ⟨0, c, by omega, by omega, by simp, by simp, by simp, by simp, by simp, (be_self hH).symm, rfl, rfl⟩
  rintro z fr st2 ⟨k, d, hk, rfl, f0, f1, f2, f3, f10, rfl, hdl, hsw⟩ JJ hJJ
  by_cases hlt : k < n
  rotate_left
  · clear hJJ
    obtain rfl : k = n := by omega
    rw [Nat.sub_self] at hsw
    (repeat' (first | refine awp_seq ?_ | refine awp_block ?_ | ((first | refine awp_skip ?_ | refine awp_exit ?_); simp only [ak, reduceIte]) | (refine awp_ret ?_; simp only [ak, reduceIte]; simp [f3, f10]) | (refine awp_cond ?_; simp [f3, f10]; (try with_reducible refine ⟨?_, ?_⟩) <;> (try with_reducible intro hc) <;> try (exfalso; omega)) | ((first | (refine w_e [] ?_; intro J hJ; simp only []) | (refine w_q ?_; intro J hJ) | refine e_go ?_); simp [f3, f10]; (repeat refine ca ?_); (try ((try with_reducible refine ⟨?_, ?_⟩) <;> (try with_reducible intro hnil) <;> refine hJ _ _ ?_ <;> clear hJ J <;> simp only [ak, reduceIte] <;> try subst hnil)))))
    simp
    rw [← hsw]; rfl
  have hw := wrap_s ((k : Int) + 1) (by omega) (by omega)
  have wa : IntKind.i64.wrap ((a : Int) + k) = ((a + k : Nat) : Int) := by rw [wrap_s _ (by omega) (by omega)]; omega
  have wb : IntKind.i64.wrap ((b : Int) + k) = ((b + k : Nat) : Int) := by rw [wrap_s _ (by omega) (by omega)]; omega
  have hel := eds_length d
  have da := eds_drop d (a + k) (by omega)
  have db := eds_drop d (b + k) (by omega)
  have hsn : swR ((d.set (a + k) (d.getD (b + k) ed0)).set (b + k) (d.getD (a + k) ed0)) (a + (k + 1)) (b + (k + 1)) (n - (k + 1)) = swR c a b n := by
    rw [← hsw, show n - k = (n - (k + 1)) + 1 by omega, swR]; rfl
  have s1 := fun x => be_set st q d (a + k) x (by omega)
  have s2 := fun x y => be_set st q (d.set (a + k) y) (b + k) x (by simp; omega)
  generalize ha : a + k = pa at *
  generalize hbk : b + k = pb at *
  have hne : ¬ pa = pb := by omega
  generalize hxe : d.getD pa ed0 = x at *
  generalize hye : d.getD pb ed0 = y at *
  have hA3 : pa * 3 + 3 ≤ d.length * 3 := by omega
  have hB3 : pb * 3 + 3 ≤ d.length * 3 := by omega
  have hA4 : pa < d.length := by omega
  have hB4 : pb < d.length := by omega
  obtain ⟨xi, xa, xb⟩ := x
  obtain ⟨yi, ya, yb⟩ := y
  have s1' := s1 ⟨yi, ya, yb⟩
  have s2' := s2 ⟨xi, xa, xb⟩ ⟨yi, ya, yb⟩
  simp only at da db s1' s2'
  have hel2 := eds_length (d.set pa ⟨yi, ya, yb⟩)
  rw [List.length_set] at hel2
  (repeat' (first | refine awp_seq ?_ | refine awp_block ?_ | ((first | refine awp_skip ?_ | refine awp_exit ?_); simp only [ak, reduceIte]) | (refine awp_ret ?_; simp only [ak, reduceIte]; simp [f0, f1, f2, f3, f10, hlt]) | (refine awp_cond ?_; simp [f0, f1, f2, f3, f10, hlt]; (try with_reducible refine ⟨?_, ?_⟩) <;> (try with_reducible intro hc) <;> try (exfalso; omega)) | ((first | (refine w_e [] ?_; intro J hJ; simp only []) | (refine w_q ?_; intro J hJ) | refine e_go ?_); simp [f0, f1, f2, f3, f10, hlt]; (repeat refine ca ?_); (try ((try with_reducible refine ⟨?_, ?_⟩) <;> (try with_reducible intro hnil) <;> refine hJ _ _ ?_ <;> clear hJ J <;> simp only [ak, reduceIte] <;> try subst hnil)))))
  (refine w_s [] [q] [(0, true), (1, true), (2, true), (3, true), (4, true), (5, true), (6, true), (7, true), (8, true), (9, true), (10, true), (11, true), (12, true), (13, true), (14, true), (15, true), (16, true), (17, true), (18, true), (19, true), (20, true), (21, false), (22, true), (23, false)] ?_; intro J hJ; simp [f0, f1, f2, f10, wa, wb, hdl, da, db, hel]; (repeat refine ca ?_); (try ((try with_reducible refine ⟨?_, ?_⟩) <;> (try with_reducible intro hnil) <;> refine hJ _ _ ?_ <;> clear hJ J <;> simp only [ak, reduceIte] <;> try subst hnil)))
  have e1 := eds_set d pa ⟨yi, ya, yb⟩ hA4
  simp only at e1
  rw [e1, be_put, s2']
  (repeat' (first | refine awp_seq ?_ | refine awp_block ?_ | ((first | refine awp_skip ?_ | refine awp_exit ?_); simp only [ak, reduceIte]) | (refine awp_ret ?_; simp only [ak, reduceIte]; simp [f10, hw]) | (refine awp_cond ?_; simp [f10, hw]; (try with_reducible refine ⟨?_, ?_⟩) <;> (try with_reducible intro hc) <;> try (exfalso; omega)) | ((first | (refine w_e [] ?_; intro J hJ; simp only []) | (refine w_q ?_; intro J hJ) | refine e_go ?_); simp [f10, hw]; (repeat refine ca ?_); (try ((try with_reducible refine ⟨?_, ?_⟩) <;> (try with_reducible intro hnil) <;> refine hJ _ _ ?_ <;> clear hJ J <;> simp only [ak, reduceIte] <;> try subst hnil)))))
  exact hJJ (n - (k + 1)) _ _ (by omega) ⟨k + 1, _, by omega, rfl, by simp [f0], by simp [f1], by simp [f2], by simp [f3], by simp, rfl, by simp [hdl], hsn⟩

/-- Two blocks side by side change places: rotated. -/
theorem rotate (P X Y S : List Ed) (q : Nat) (F : Fn) (caps : List LV) (st : St) (hX : X ≠ []) (hY : Y ≠ []) (hl : (P ++ X ++ Y ++ S).length ≤ 100000) (hH : st.H q = .box 40 3 (eds (P ++ X ++ Y ++ S))) :
    ACalls Try.prog 67 [.ms q 0 (P ++ X ++ Y ++ S).length, i P.length, i (P.length + X.length : Nat), i (P.length + X.length + Y.length : Nat), .fn F caps] st fun r st' => st' = be st q (P ++ Y ++ X ++ S) := by
  generalize hL : (P ++ X ++ Y ++ S).length = L at *
  have hLl : L = P.length + X.length + Y.length + S.length := by rw [← hL]; simp only [List.length_append]
  generalize hm : P.length + X.length = m at *
  have hX0 : 0 < X.length := List.length_pos_iff.2 hX
  have hY0 : 0 < Y.length := List.length_pos_iff.2 hY
  refine acalls_of_body tabOk Try.func67 rfl rfl Try.ntmps67 (rs := []) rfl (by simp) ?_
  have w1 : IntKind.i64.wrap ((m : Int) - P.length) = (X.length : Int) := by rw [wrap_s _ (by omega) (by omega)]; omega
  have w2 : IntKind.i64.wrap ((m : Int) + Y.length - m) = (Y.length : Int) := by rw [wrap_s _ (by omega) (by omega)]; omega
  (repeat' (first | refine awp_seq ?_ | refine awp_block ?_ | ((first | refine awp_skip ?_ | refine awp_exit ?_); simp only [ak, reduceIte]) | (refine awp_ret ?_; simp only [ak, reduceIte]; simp [w1, w2]) | (refine awp_cond ?_; simp [w1, w2]; (try with_reducible refine ⟨?_, ?_⟩) <;> (try with_reducible intro hc) <;> try (exfalso; omega)) | ((first | (refine w_e [] ?_; intro J hJ; simp only []) | (refine w_q ?_; intro J hJ) | refine e_go ?_); simp [w1, w2]; (repeat refine ca ?_); (try ((try with_reducible refine ⟨?_, ?_⟩) <;> (try with_reducible intro hnil) <;> refine hJ _ _ ?_ <;> clear hJ J <;> simp only [ak, reduceIte] <;> try subst hnil)))))
  refine awp_loop (fun z fr st2 => ∃ U A B V : List Ed, z = A.length + B.length ∧ (A ≠ [] ∧ B ≠ []) ∧ U.length + A.length = m ∧ U ++ B ++ A ++ V = P ++ Y ++ X ++ S ∧ (U ++ A ++ B ++ V).length = L ∧ st2 = be st q (U ++ A ++ B ++ V) ∧ fr 0 = .ms q 0 L ∧ fr 2 = i m ∧ fr 4 = .fn F caps ∧ fr 10 = i A.length ∧ fr 11 = i B.length) (X.length + Y.length) ?_ ?_
  · exact ⟨P, X, Y, S, rfl, ⟨hX, hY⟩, hm, rfl, hL, (be_self hH).symm, by simp, by simp, by simp, by simp, by simp⟩
  rintro z fr st2 ⟨U, A, B, V, rfl, ⟨hA, hB⟩, hUm, htg, hcl, rfl, f0, f2, f4, f10, f11⟩ JJ hJJ
  have hA0 : 0 < A.length := List.length_pos_iff.2 hA
  have hB0 : 0 < B.length := List.length_pos_iff.2 hB
  have hcl' : L = U.length + A.length + B.length + V.length := by rw [← hcl]; simp only [List.length_append]
  have wa : IntKind.i64.wrap ((m : Int) - A.length) = (U.length : Int) := by rw [wrap_s _ (by omega) (by omega)]; omega
  by_cases hEq : A.length = B.length
  · clear hJJ
    have hcall := swapRange (U ++ A ++ B ++ V) q U.length m A.length F caps (be st q (U ++ A ++ B ++ V)) (by omega) (by omega) (by omega) (by simp)
    have hsw := swR_blocks A.length U A [] B V rfl hEq.symm
    simp only [List.length_nil, Nat.add_zero, List.append_nil] at hsw
    rw [hcl, ← hUm, hsw, hUm, be_be, htg] at hcall
    generalize U ++ A ++ B ++ V = c0 at *
    generalize P ++ Y ++ X ++ S = c1 at *
    have wa' := wa
    rw [hEq] at wa'
    (repeat' (first | refine awp_seq ?_ | refine awp_block ?_ | ((first | refine awp_skip ?_ | refine awp_exit ?_); simp only [ak, reduceIte]) | (refine awp_ret ?_; simp only [ak, reduceIte]; simp [f0, f2, f4, f10, f11, hEq, wa, wa']) | (refine awp_cond ?_; simp [f0, f2, f4, f10, f11, hEq, wa, wa']; (try with_reducible refine ⟨?_, ?_⟩) <;> (try with_reducible intro hc) <;> try (exfalso; omega)) | ((first | (refine w_e [] ?_; intro J hJ; simp only []) | (refine w_q ?_; intro J hJ) | refine e_go ?_); simp [f0, f2, f4, f10, f11, hEq, wa, wa']; (repeat refine ca ?_); (try ((try with_reducible refine ⟨?_, ?_⟩) <;> (try with_reducible intro hnil) <;> refine hJ _ _ ?_ <;> clear hJ J <;> simp only [ak, reduceIte] <;> try subst hnil)))))
    refine callK_ofE hcall (by simp [hEq]) ?_; rintro r s3 rfl
    (repeat' (first | refine awp_seq ?_ | refine awp_block ?_ | ((first | refine awp_skip ?_ | refine awp_exit ?_); simp only [ak, reduceIte]) | (refine awp_ret ?_; simp only [ak, reduceIte]; simp []) | (refine awp_cond ?_; simp []; (try with_reducible refine ⟨?_, ?_⟩) <;> (try with_reducible intro hc) <;> try (exfalso; omega)) | ((first | (refine w_e [] ?_; intro J hJ; simp only []) | (refine w_q ?_; intro J hJ) | refine e_go ?_); simp []; (repeat refine ca ?_); (try ((try with_reducible refine ⟨?_, ?_⟩) <;> (try with_reducible intro hnil) <;> refine hJ _ _ ?_ <;> clear hJ J <;> simp only [ak, reduceIte] <;> try subst hnil)))))
    simp
  · have hEq' : ¬ (A.length : Int) = B.length := by omega
    by_cases hgt : B.length < A.length
    · have hA1 : (A.take B.length).length = B.length := by simp; omega
      have hAd : A.take B.length ++ A.drop B.length = A := List.take_append_drop _ _
      have hA2 : (A.drop B.length).length = A.length - B.length := by simp
      generalize A.take B.length = A1 at *
      generalize A.drop B.length = A2 at *
      have hcall := swapRange (U ++ A ++ B ++ V) q U.length m B.length F caps (be st q (U ++ A ++ B ++ V)) (by omega) (by omega) (by omega) (by simp)
      have hsw := swR_blocks B.length U A1 A2 B V hA1 rfl
      have e1 : U ++ A1 ++ A2 ++ B ++ V = U ++ A ++ B ++ V := by rw [← hAd]; simp
      have e2 : U.length + B.length + A2.length = m := by omega
      rw [e1, e2] at hsw
      rw [hcl, hsw, be_be] at hcall
      have hgt' : (B.length : Int) < A.length := by omega
      have wb : IntKind.i64.wrap ((A.length : Int) - B.length) = (A2.length : Int) := by rw [wrap_s _ (by omega) (by omega)]; omega
      generalize U ++ A ++ B ++ V = c0 at *
      generalize hc1 : U ++ B ++ A2 ++ A1 ++ V = c1 at hcall
      (repeat' (first | refine awp_seq ?_ | refine awp_block ?_ | ((first | refine awp_skip ?_ | refine awp_exit ?_); simp only [ak, reduceIte]) | (refine awp_ret ?_; simp only [ak, reduceIte]; simp [f0, f2, f4, f10, f11, hEq', hgt', hEq, hgt, wa, wb]) | (refine awp_cond ?_; simp [f0, f2, f4, f10, f11, hEq', hgt', hEq, hgt, wa, wb]; (try with_reducible refine ⟨?_, ?_⟩) <;> (try with_reducible intro hc) <;> try (exfalso; omega)) | ((first | (refine w_e [] ?_; intro J hJ; simp only []) | (refine w_q ?_; intro J hJ) | refine e_go ?_); simp [f0, f2, f4, f10, f11, hEq', hgt', hEq, hgt, wa, wb]; (repeat refine ca ?_); (try ((try with_reducible refine ⟨?_, ?_⟩) <;> (try with_reducible intro hnil) <;> refine hJ _ _ ?_ <;> clear hJ J <;> simp only [ak, reduceIte] <;> try subst hnil)))))
      refine callK_ofE hcall (by simp) ?_; rintro r s3 rfl
      (repeat' (first | refine awp_seq ?_ | refine awp_block ?_ | ((first | refine awp_skip ?_ | refine awp_exit ?_); simp only [ak, reduceIte]) | (refine awp_ret ?_; simp only [ak, reduceIte]; simp [f10, f11, wb]) | (refine awp_cond ?_; simp [f10, f11, wb]; (try with_reducible refine ⟨?_, ?_⟩) <;> (try with_reducible intro hc) <;> try (exfalso; omega)) | ((first | (refine w_e [] ?_; intro J hJ; simp only []) | (refine w_q ?_; intro J hJ) | refine e_go ?_); simp [f10, f11, wb]; (repeat refine ca ?_); (try ((try with_reducible refine ⟨?_, ?_⟩) <;> (try with_reducible intro hnil) <;> refine hJ _ _ ?_ <;> clear hJ J <;> simp only [ak, reduceIte] <;> try subst hnil)))))
      refine hJJ (A2.length + A1.length) _ _ (by omega) ⟨U ++ B, A2, A1, V, rfl, ⟨?_, ?_⟩, by simp; omega, ?_, ?_, by rw [hc1], by simp [f0], by simp [f2], by simp [f4], by simp, by simp [f11, hA1]⟩
      · rintro rfl; simp at hA2; omega
      · rintro rfl; simp at hA1; omega
      · rw [← htg, ← hAd]; simp
      · simp only [List.length_append]; omega
    · have hB1 : (B.take (B.length - A.length)).length = B.length - A.length := by simp
      have hBd : B.take (B.length - A.length) ++ B.drop (B.length - A.length) = B := List.take_append_drop _ _
      have hB2 : (B.drop (B.length - A.length)).length = A.length := by simp; omega
      generalize B.take (B.length - A.length) = B1 at *
      generalize B.drop (B.length - A.length) = B2 at *
      have hcall := swapRange (U ++ A ++ B ++ V) q U.length (m + B1.length) A.length F caps (be st q (U ++ A ++ B ++ V)) (by omega) (by omega) (by omega) (by simp)
      have hsw := swR_blocks A.length U A B1 B2 V rfl hB2
      have e1 : U ++ A ++ B1 ++ B2 ++ V = U ++ A ++ B ++ V := by rw [← hBd]; simp
      have e2 : U.length + A.length + B1.length = m + B1.length := by omega
      rw [e1, e2] at hsw
      rw [hcl, hsw, be_be] at hcall
      have hgt' : ¬ (B.length : Int) < A.length := by omega
      have wb : IntKind.i64.wrap ((B.length : Int) - A.length) = (B1.length : Int) := by rw [wrap_s _ (by omega) (by omega)]; omega
      have wc : IntKind.i64.wrap ((m : Int) + B.length) = (m : Int) + B.length := wrap_s _ (by omega) (by omega)
      have wd : IntKind.i64.wrap ((m : Int) + B.length - A.length) = ((m + B1.length : Nat) : Int) := by rw [wrap_s _ (by omega) (by omega)]; omega
      generalize U ++ A ++ B ++ V = c0 at *
      generalize hc1 : U ++ B2 ++ B1 ++ A ++ V = c1 at hcall
      (repeat' (first | refine awp_seq ?_ | refine awp_block ?_ | ((first | refine awp_skip ?_ | refine awp_exit ?_); simp only [ak, reduceIte]) | (refine awp_ret ?_; simp only [ak, reduceIte]; simp [f0, f2, f4, f10, f11, hEq', hgt', hEq, hgt, wa, wc, wd]) | (refine awp_cond ?_; simp [f0, f2, f4, f10, f11, hEq', hgt', hEq, hgt, wa, wc, wd]; (try with_reducible refine ⟨?_, ?_⟩) <;> (try with_reducible intro hc) <;> try (exfalso; omega)) | ((first | (refine w_e [] ?_; intro J hJ; simp only []) | (refine w_q ?_; intro J hJ) | refine e_go ?_); simp [f0, f2, f4, f10, f11, hEq', hgt', hEq, hgt, wa, wc, wd]; (repeat refine ca ?_); (try ((try with_reducible refine ⟨?_, ?_⟩) <;> (try with_reducible intro hnil) <;> refine hJ _ _ ?_ <;> clear hJ J <;> simp only [ak, reduceIte] <;> try subst hnil)))))
      refine callK_ofE hcall (by simp) ?_; rintro r s3 rfl
      (repeat' (first | refine awp_seq ?_ | refine awp_block ?_ | ((first | refine awp_skip ?_ | refine awp_exit ?_); simp only [ak, reduceIte]) | (refine awp_ret ?_; simp only [ak, reduceIte]; simp [f10, f11, wb]) | (refine awp_cond ?_; simp [f10, f11, wb]; (try with_reducible refine ⟨?_, ?_⟩) <;> (try with_reducible intro hc) <;> try (exfalso; omega)) | ((first | (refine w_e [] ?_; intro J hJ; simp only []) | (refine w_q ?_; intro J hJ) | refine e_go ?_); simp [f10, f11, wb]; (repeat refine ca ?_); (try ((try with_reducible refine ⟨?_, ?_⟩) <;> (try with_reducible intro hnil) <;> refine hJ _ _ ?_ <;> clear hJ J <;> simp only [ak, reduceIte] <;> try subst hnil)))))
      refine hJJ (B2.length + B1.length) _ _ (by omega) ⟨U, B2, B1, A ++ V, rfl, ⟨?_, ?_⟩, by omega, ?_, ?_, by rw [← hc1, List.append_assoc _ A V], by simp [f0], by simp [f2], by simp [f4], by simp [f10, hB2], by simp⟩
      · rintro rfl; simp at hB2; omega
      · rintro rfl; simp at hB1; omega
      · rw [← htg, ← hBd]; simp
      · simp only [List.length_append]; omega

end Go.Proofs.Ytaiakdhcajibnaa.Aw
