/- Graphs: Check, by the program and by the document; the law GraphChecks. Graphs and maps, made: Clone of edges, copied, Of; Same. Maps, made of turns: Of; the law RotMakes. The law RotMakes. Graphs: Ends. Graphs: near, Alone. What hangs together in a graph. No program. Graphs: Parts. Graphs: the document's parts. Graphs: the document's Parts; places of edges. Graphs: Keep. Plain: edges that join parts, and the others; a forest of parents. No program. -/
import Derived.Test.YtomfeddgeihipaaGreatJc
namespace Go.Proofs.YtomfeddgeihipaaGreat.Aw
open Go Go.RowKit Go.Proofs.YtomfeddgeihipaaGreat.Pl
set_option linter.unusedSimpArgs false
set_option linter.unusedVariables false

theorem ref_Check (g : Gr) (st : St) (hv : g.vs.length ≤ 1000) (he : g.es.length ≤ 1000) :
    ACalls Tryz.prog 24 [.ag (grL g)] st fun r st' => r = i (chk g) ∧ Keeps st st' := by
  have hsm : small g.vs := by unfold small; omega
  refine acalls_of_body tabOk Tryz.func24 rfl rfl Tryz.ntmps24 (rs := [.tmp 2]) rfl (by simp) ?_
  by_cases h1 : (64 : Int) < (g.vs.length : Int)
  · have : chk g = 6 := by unfold chk; rw [if_pos (by omega)]
    (repeat' (first | refine awp_seq ?_ | refine awp_block ?_ | ((first | refine awp_skip ?_ | refine awp_exit ?_); simp only [ak, reduceIte]) | (refine awp_ret ?_; simp only [ak, reduceIte]; simp [h1, this]) | (refine awp_cond ?_; simp [h1, this]; (try with_reducible refine ⟨?_, ?_⟩) <;> (try with_reducible intro hc) <;> try (exfalso; omega)) | ((first | (refine w_e [] ?_; intro J hJ; simp only []) | (refine w_q ?_; intro J hJ) | refine e_go ?_); simp [h1, this]; (repeat refine ca ?_); (try ((try with_reducible refine ⟨?_, ?_⟩) <;> (try with_reducible intro hnil) <;> refine hJ _ _ ?_ <;> clear hJ J <;> simp only [ak, reduceIte] <;> try subst hnil)))))
    exact Keeps.new _ _
  by_cases h2 : (160 : Int) < (g.es.length : Int)
  · have : chk g = 6 := by unfold chk; rw [if_pos (by omega)]
    (repeat' (first | refine awp_seq ?_ | refine awp_block ?_ | ((first | refine awp_skip ?_ | refine awp_exit ?_); simp only [ak, reduceIte]) | (refine awp_ret ?_; simp only [ak, reduceIte]; simp [h1, h2, this]) | (refine awp_cond ?_; simp [h1, h2, this]; (try with_reducible refine ⟨?_, ?_⟩) <;> (try with_reducible intro hc) <;> try (exfalso; omega)) | ((first | (refine w_e [] ?_; intro J hJ; simp only []) | (refine w_q ?_; intro J hJ) | refine e_go ?_); simp [h1, h2, this]; (repeat refine ca ?_); (try ((try with_reducible refine ⟨?_, ?_⟩) <;> (try with_reducible intro hnil) <;> refine hJ _ _ ?_ <;> clear hJ J <;> simp only [ak, reduceIte] <;> try subst hnil)))))
    exact Keeps.new _ _
  have hch : chk g = if firstNZ (badV g) g.vs.length ≠ 0 then firstNZ (badV g) g.vs.length else firstNZ (badE g) g.es.length := by unfold chk; rw [if_neg (by omega)]
  (repeat' (first | refine awp_seq ?_ | refine awp_block ?_ | ((first | refine awp_skip ?_ | refine awp_exit ?_); simp only [ak, reduceIte]) | (refine awp_ret ?_; simp only [ak, reduceIte]; simp [h1, h2]) | (refine awp_cond ?_; simp [h1, h2]; (try with_reducible refine ⟨?_, ?_⟩) <;> (try with_reducible intro hc) <;> try (exfalso; omega)) | ((first | (refine w_e [] ?_; intro J hJ; simp only []) | (refine w_q ?_; intro J hJ) | refine e_go ?_); simp [h1, h2]; (repeat refine ca ?_); (try ((try with_reducible refine ⟨?_, ?_⟩) <;> (try with_reducible intro hnil) <;> refine hJ _ _ ?_ <;> clear hJ J <;> simp only [ak, reduceIte] <;> try subst hnil)))))
  refine awp_loop (fun n fr st' => ∃ k : Nat, k ≤ g.vs.length ∧ n = g.vs.length - k ∧ fr 1 = .pt st.next 0 ∧ fr 18 = .sl 0 g.vs.length (us g.vs) ∧ fr 19 = i g.vs.length ∧ fr 20 = i k ∧ st' = st.new (.box 38 2 (grL g)) ∧ ∀ j, j < k → badV g j = 0) g.vs.length ?_ ?_
  · exact ⟨0, by omega, by omega, by simp, by simp, by simp, by simp, rfl, fun j h => by omega⟩
  rintro n fr st' ⟨k, hk, rfl, f1, f18, f19, f20, rfl, hno⟩ JJ hJJ
  by_cases hlt : k < g.vs.length
  · have hd := us_drop_getD g.vs k hlt
    have hw := nat_add_one k (by omega)
    have hbad : badV g k = numb (g.vs.getD k 0) (g.vs.getD (k - 1) 0) (decide (k = 0)) := rfl
    have hnext : badV g k = 0 → ∀ j, j < k + 1 → badV g j = 0 := fun hb j hj => by
      rcases Nat.lt_or_ge j k with h | h
      · exact hno j h
      · obtain rfl : j = k := by omega
        exact hb
    have hret : ∀ v, badV g k = v → v ≠ 0 → chk g = v := fun v h0 h1 => by
      have hf := firstNZ_eq hlt hno h0 h1
      rw [hch, hf, if_pos h1]
    generalize hx : g.vs.getD k 0 = x at *
    by_cases hx1 : x < 1
    · have hr := hret 2 (by rw [hbad]; unfold numb; rw [if_pos (.inl hx1)]) (by decide)
      (repeat' (first | refine awp_seq ?_ | refine awp_block ?_ | ((first | refine awp_skip ?_ | refine awp_exit ?_); simp only [ak, reduceIte]) | (refine awp_ret ?_; simp only [ak, reduceIte]; simp [f1, f18, f19, f20, hlt, hd, hw, hx1, hr]) | (refine awp_cond ?_; simp [f1, f18, f19, f20, hlt, hd, hw, hx1, hr]; (try with_reducible refine ⟨?_, ?_⟩) <;> (try with_reducible intro hc) <;> try (exfalso; omega)) | ((first | (refine w_e [] ?_; intro J hJ; simp only []) | (refine w_q ?_; intro J hJ) | refine e_go ?_); simp [f1, f18, f19, f20, hlt, hd, hw, hx1, hr]; (repeat refine ca ?_); (try ((try with_reducible refine ⟨?_, ?_⟩) <;> (try with_reducible intro hnil) <;> refine hJ _ _ ?_ <;> clear hJ J <;> simp only [ak, reduceIte] <;> try subst hnil)))))
      exact Keeps.new _ _
    by_cases hx2 : 1048576 < x
    · have hr := hret 2 (by rw [hbad]; unfold numb; rw [if_pos (.inr hx2)]) (by decide)
      (repeat' (first | refine awp_seq ?_ | refine awp_block ?_ | ((first | refine awp_skip ?_ | refine awp_exit ?_); simp only [ak, reduceIte]) | (refine awp_ret ?_; simp only [ak, reduceIte]; simp [f1, f18, f19, f20, hlt, hd, hw, hx1, hx2, hr]) | (refine awp_cond ?_; simp [f1, f18, f19, f20, hlt, hd, hw, hx1, hx2, hr]; (try with_reducible refine ⟨?_, ?_⟩) <;> (try with_reducible intro hc) <;> try (exfalso; omega)) | ((first | (refine w_e [] ?_; intro J hJ; simp only []) | (refine w_q ?_; intro J hJ) | refine e_go ?_); simp [f1, f18, f19, f20, hlt, hd, hw, hx1, hx2, hr]; (repeat refine ca ?_); (try ((try with_reducible refine ⟨?_, ?_⟩) <;> (try with_reducible intro hnil) <;> refine hJ _ _ ?_ <;> clear hJ J <;> simp only [ak, reduceIte] <;> try subst hnil)))))
      exact Keeps.new _ _
    by_cases h0 : k = 0
    · have hb : badV g k = 0 := by rw [hbad]; unfold numb; rw [if_neg (by simp [hx1, hx2])]; simp [h0]
      have hk0 : ¬ 0 < k := by omega
      (repeat' (first | refine awp_seq ?_ | refine awp_block ?_ | ((first | refine awp_skip ?_ | refine awp_exit ?_); simp only [ak, reduceIte]) | (refine awp_ret ?_; simp only [ak, reduceIte]; simp [f1, f18, f19, f20, hlt, hd, hw, hx1, hx2, hk0]) | (refine awp_cond ?_; simp [f1, f18, f19, f20, hlt, hd, hw, hx1, hx2, hk0]; (try with_reducible refine ⟨?_, ?_⟩) <;> (try with_reducible intro hc) <;> try (exfalso; omega)) | ((first | (refine w_e [] ?_; intro J hJ; simp only []) | (refine w_q ?_; intro J hJ) | refine e_go ?_); simp [f1, f18, f19, f20, hlt, hd, hw, hx1, hx2, hk0]; (repeat refine ca ?_); (try ((try with_reducible refine ⟨?_, ?_⟩) <;> (try with_reducible intro hnil) <;> refine hJ _ _ ?_ <;> clear hJ J <;> simp only [ak, reduceIte] <;> try subst hnil)))))
      refine hJJ _ _ _ ?_ ⟨k + 1, by omega, rfl, by simp [f1], by simp [f18], by simp [f19], by simp, rfl, hnext hb⟩
      omega
    · have hk0 : 0 < k := by omega
      have hw1 : IntKind.i64.wrap ((k : Int) - 1) = ((k - 1 : Nat) : Int) := by rw [wrap_i64 _ (by omega) (by omega)]; omega
      have hd1 := us_drop_getD g.vs (k - 1) (by omega)
      have hlt1 : k - 1 < g.vs.length := by omega
      generalize hy : g.vs.getD (k - 1) 0 = y at *
      by_cases hle : x ≤ y
      · have hr := hret 19 (by rw [hbad]; unfold numb; rw [if_neg (by simp [hx1, hx2]), if_pos ⟨by simp [h0], hle⟩]) (by decide)
        (repeat' (first | refine awp_seq ?_ | refine awp_block ?_ | ((first | refine awp_skip ?_ | refine awp_exit ?_); simp only [ak, reduceIte]) | (refine awp_ret ?_; simp only [ak, reduceIte]; simp [f1, f18, f19, f20, hlt, hd, hw, hx1, hx2, hk0, hw1, hd1, hlt1, hle, hr]) | (refine awp_cond ?_; simp [f1, f18, f19, f20, hlt, hd, hw, hx1, hx2, hk0, hw1, hd1, hlt1, hle, hr]; (try with_reducible refine ⟨?_, ?_⟩) <;> (try with_reducible intro hc) <;> try (exfalso; omega)) | ((first | (refine w_e [] ?_; intro J hJ; simp only []) | (refine w_q ?_; intro J hJ) | refine e_go ?_); simp [f1, f18, f19, f20, hlt, hd, hw, hx1, hx2, hk0, hw1, hd1, hlt1, hle, hr]; (repeat refine ca ?_); (try ((try with_reducible refine ⟨?_, ?_⟩) <;> (try with_reducible intro hnil) <;> refine hJ _ _ ?_ <;> clear hJ J <;> simp only [ak, reduceIte] <;> try subst hnil)))))
        exact Keeps.new _ _
      · have hb : badV g k = 0 := by rw [hbad]; unfold numb; rw [if_neg (by simp [hx1, hx2]), if_neg (by simp [hle])]
        (repeat' (first | refine awp_seq ?_ | refine awp_block ?_ | ((first | refine awp_skip ?_ | refine awp_exit ?_); simp only [ak, reduceIte]) | (refine awp_ret ?_; simp only [ak, reduceIte]; simp [f1, f18, f19, f20, hlt, hd, hw, hx1, hx2, hk0, hw1, hd1, hlt1, hle]) | (refine awp_cond ?_; simp [f1, f18, f19, f20, hlt, hd, hw, hx1, hx2, hk0, hw1, hd1, hlt1, hle]; (try with_reducible refine ⟨?_, ?_⟩) <;> (try with_reducible intro hc) <;> try (exfalso; omega)) | ((first | (refine w_e [] ?_; intro J hJ; simp only []) | (refine w_q ?_; intro J hJ) | refine e_go ?_); simp [f1, f18, f19, f20, hlt, hd, hw, hx1, hx2, hk0, hw1, hd1, hlt1, hle]; (repeat refine ca ?_); (try ((try with_reducible refine ⟨?_, ?_⟩) <;> (try with_reducible intro hnil) <;> refine hJ _ _ ?_ <;> clear hJ J <;> simp only [ak, reduceIte] <;> try subst hnil)))))
        refine hJJ _ _ _ ?_ ⟨k + 1, by omega, rfl, by simp [f1], by simp [f18], by simp [f19], by simp, rfl, hnext hb⟩
        omega
  have hk' : k = g.vs.length := by omega
  have hz : firstNZ (badV g) g.vs.length = 0 := firstNZ_zero (fun j hj => hno j (by omega))
  rw [hz] at hch
  simp only [ne_eq, not_true_eq_false, if_false] at hch
  clear hJJ hno hz
  have hel := eds_length g.es
  (repeat' (first | refine awp_seq ?_ | refine awp_block ?_ | ((first | refine awp_skip ?_ | refine awp_exit ?_); simp only [ak, reduceIte]) | (refine awp_ret ?_; simp only [ak, reduceIte]; simp [f1, f18, f19, f20, hlt]) | (refine awp_cond ?_; simp [f1, f18, f19, f20, hlt]; (try with_reducible refine ⟨?_, ?_⟩) <;> (try with_reducible intro hc) <;> try (exfalso; omega)) | ((first | (refine w_e [] ?_; intro J hJ; simp only []) | (refine w_q ?_; intro J hJ) | refine e_go ?_); simp [f1, f18, f19, f20, hlt]; (repeat refine ca ?_); (try ((try with_reducible refine ⟨?_, ?_⟩) <;> (try with_reducible intro hnil) <;> refine hJ _ _ ?_ <;> clear hJ J <;> simp only [ak, reduceIte] <;> try subst hnil)))))
  refine awp_loop (fun n fr st' => ∃ k : Nat, k ≤ g.es.length ∧ n = g.es.length - k ∧ fr 1 = .pt st.next 0 ∧ fr 45 = .sl 0 g.es.length (eds g.es) ∧ fr 46 = i g.es.length ∧ fr 47 = i k ∧ Keeps (st.new (.box 38 2 (grL g))) st' ∧ ∀ j, j < k → badE g j = 0) g.es.length ?_ ?_
  · exact ⟨0, by omega, by omega, by simp [f1], by simp, by simp, by simp, Keeps.refl _, fun j h => by omega⟩
  clear f1 f18 f19 f20 hlt hk' hk fr k
  rintro n fr st1 ⟨k, hk, rfl, f1, f45, f46, f47, hkp, hno⟩ JJ hJJ
  have hgH : st1.H st.next = .box 38 2 (grL g) := by rw [hkp.H _ (by simp)]; simp
  have hnx : ¬ st.next = st1.next := by have := hkp.next; simp only [new_next] at this; omega
  have hkp0 := (Keeps.new st (.box 38 2 (grL g))).trans hkp
  by_cases hlt : k < g.es.length
  · have hd := eds_drop g.es k hlt
    have hw := nat_add_one k (by omega)
    have hk3 : k * 3 < g.es.length * 3 := by omega
    have hbad : badE g k = (let x := g.es.getD k ed0; let n := numb x.id (g.es.getD (k - 1) ed0).id (decide (k = 0)); if n ≠ 0 then n else if x.a = x.b then 20 else if x.a ∉ g.vs ∨ x.b ∉ g.vs then 21 else 0) := rfl
    have hnext : badE g k = 0 → ∀ j, j < k + 1 → badE g j = 0 := fun hb j hj => by
      rcases Nat.lt_or_ge j k with h | h
      · exact hno j h
      · obtain rfl : j = k := by omega
        exact hb
    have hret : ∀ v, badE g k = v → v ≠ 0 → chk g = v := fun v h0 h1 => by
      rw [hch]; exact firstNZ_eq hlt hno h0 h1
    generalize hx : g.es.getD k ed0 = x at *
    obtain ⟨xi, xa, xb⟩ := x
    simp only at hd hbad
    have hkn := hkp0.trans (Keeps.new _ (.box 43 3 [u xi, u xa, u xb]))
    by_cases hx1 : xi < 1
    · have hn : numb xi (g.es.getD (k - 1) ed0).id (decide (k = 0)) = 2 := by unfold numb; rw [if_pos (.inl hx1)]
      have hr := hret 2 (by rw [hbad, hn]; rfl) (by decide)
      (repeat' (first | refine awp_seq ?_ | refine awp_block ?_ | ((first | refine awp_skip ?_ | refine awp_exit ?_); simp only [ak, reduceIte]) | (refine awp_ret ?_; simp only [ak, reduceIte]; simp [f1, f45, f46, f47, hlt, hd, hw, hel, hk3, hgH, hnx, hx1, hr]) | (refine awp_cond ?_; simp [f1, f45, f46, f47, hlt, hd, hw, hel, hk3, hgH, hnx, hx1, hr]; (try with_reducible refine ⟨?_, ?_⟩) <;> (try with_reducible intro hc) <;> try (exfalso; omega)) | ((first | (refine w_e [] ?_; intro J hJ; simp only []) | (refine w_q ?_; intro J hJ) | refine e_go ?_); simp [f1, f45, f46, f47, hlt, hd, hw, hel, hk3, hgH, hnx, hx1, hr]; (repeat refine ca ?_); (try ((try with_reducible refine ⟨?_, ?_⟩) <;> (try with_reducible intro hnil) <;> refine hJ _ _ ?_ <;> clear hJ J <;> simp only [ak, reduceIte] <;> try subst hnil)))))
      exact hkn
    by_cases hx2 : 1048576 < xi
    · have hn : numb xi (g.es.getD (k - 1) ed0).id (decide (k = 0)) = 2 := by unfold numb; rw [if_pos (.inr hx2)]
      have hr := hret 2 (by rw [hbad, hn]; rfl) (by decide)
      (repeat' (first | refine awp_seq ?_ | refine awp_block ?_ | ((first | refine awp_skip ?_ | refine awp_exit ?_); simp only [ak, reduceIte]) | (refine awp_ret ?_; simp only [ak, reduceIte]; simp [f1, f45, f46, f47, hlt, hd, hw, hel, hk3, hgH, hnx, hx1, hx2, hr]) | (refine awp_cond ?_; simp [f1, f45, f46, f47, hlt, hd, hw, hel, hk3, hgH, hnx, hx1, hx2, hr]; (try with_reducible refine ⟨?_, ?_⟩) <;> (try with_reducible intro hc) <;> try (exfalso; omega)) | ((first | (refine w_e [] ?_; intro J hJ; simp only []) | (refine w_q ?_; intro J hJ) | refine e_go ?_); simp [f1, f45, f46, f47, hlt, hd, hw, hel, hk3, hgH, hnx, hx1, hx2, hr]; (repeat refine ca ?_); (try ((try with_reducible refine ⟨?_, ?_⟩) <;> (try with_reducible intro hnil) <;> refine hJ _ _ ?_ <;> clear hJ J <;> simp only [ak, reduceIte] <;> try subst hnil)))))
      exact hkn
    by_cases hnb : numb xi (g.es.getD (k - 1) ed0).id (decide (k = 0)) = 0
    rotate_left
    · -- the number doesn't rise
      have h0 : k ≠ 0 := by rintro rfl; apply hnb; unfold numb; rw [if_neg (by simp [hx1, hx2])]; simp
      have hle : xi ≤ (g.es.getD (k - 1) ed0).id := by
        unfold numb at hnb
        rw [if_neg (by simp [hx1, hx2])] at hnb
        by_cases h : decide (k = 0) = false ∧ xi ≤ (g.es.getD (k - 1) ed0).id
        · exact h.2
        · rw [if_neg h] at hnb; exact absurd rfl hnb
      have hn : numb xi (g.es.getD (k - 1) ed0).id (decide (k = 0)) = 19 := by unfold numb; rw [if_neg (by simp [hx1, hx2]), if_pos ⟨by simp [h0], hle⟩]
      have hr := hret 19 (by rw [hbad, hn]; rfl) (by decide)
      have hk0 : 0 < k := by omega
      have hw1 : IntKind.i64.wrap ((k : Int) - 1) = ((k - 1 : Nat) : Int) := by rw [wrap_i64 _ (by omega) (by omega)]; omega
      have hd1 := eds_drop g.es (k - 1) (by omega)
      have hlt1 : k - 1 < g.es.length := by omega
      have hlt3 : (k - 1) * 3 < g.es.length * 3 := by omega
      generalize hy : g.es.getD (k - 1) ed0 = y at *
      obtain ⟨yi, ya, yb⟩ := y
      simp only at hd1 hle
      (repeat' (first | refine awp_seq ?_ | refine awp_block ?_ | ((first | refine awp_skip ?_ | refine awp_exit ?_); simp only [ak, reduceIte]) | (refine awp_ret ?_; simp only [ak, reduceIte]; simp [f1, f45, f46, f47, hlt, hd, hw, hel, hk3, hgH, hnx, hx1, hx2, hk0, hw1, hd1, hlt1, hlt3, hle, hr]) | (refine awp_cond ?_; simp [f1, f45, f46, f47, hlt, hd, hw, hel, hk3, hgH, hnx, hx1, hx2, hk0, hw1, hd1, hlt1, hlt3, hle, hr]; (try with_reducible refine ⟨?_, ?_⟩) <;> (try with_reducible intro hc) <;> try (exfalso; omega)) | ((first | (refine w_e [] ?_; intro J hJ; simp only []) | (refine w_q ?_; intro J hJ) | refine e_go ?_); simp [f1, f45, f46, f47, hlt, hd, hw, hel, hk3, hgH, hnx, hx1, hx2, hk0, hw1, hd1, hlt1, hlt3, hle, hr]; (repeat refine ca ?_); (try ((try with_reducible refine ⟨?_, ?_⟩) <;> (try with_reducible intro hnil) <;> refine hJ _ _ ?_ <;> clear hJ J <;> simp only [ak, reduceIte] <;> try subst hnil)))))
      exact hkn
    rw [if_neg (fun h => h hnb)] at hbad
    by_cases hab : xa = xb
    · have hr := hret 20 (by rw [hbad, if_pos hab]) (by decide)
      by_cases h0 : k = 0
      · have hk0 : ¬ 0 < k := by omega
        (repeat' (first | refine awp_seq ?_ | refine awp_block ?_ | ((first | refine awp_skip ?_ | refine awp_exit ?_); simp only [ak, reduceIte]) | (refine awp_ret ?_; simp only [ak, reduceIte]; simp [f1, f45, f46, f47, hlt, hd, hw, hel, hk3, hgH, hnx, hx1, hx2, hk0, hab, hr]) | (refine awp_cond ?_; simp [f1, f45, f46, f47, hlt, hd, hw, hel, hk3, hgH, hnx, hx1, hx2, hk0, hab, hr]; (try with_reducible refine ⟨?_, ?_⟩) <;> (try with_reducible intro hc) <;> try (exfalso; omega)) | ((first | (refine w_e [] ?_; intro J hJ; simp only []) | (refine w_q ?_; intro J hJ) | refine e_go ?_); simp [f1, f45, f46, f47, hlt, hd, hw, hel, hk3, hgH, hnx, hx1, hx2, hk0, hab, hr]; (repeat refine ca ?_); (try ((try with_reducible refine ⟨?_, ?_⟩) <;> (try with_reducible intro hnil) <;> refine hJ _ _ ?_ <;> clear hJ J <;> simp only [ak, reduceIte] <;> try subst hnil)))))
        exact hkp0.trans (Keeps.new _ _)
      · have hk0 : 0 < k := by omega
        have hw1 : IntKind.i64.wrap ((k : Int) - 1) = ((k - 1 : Nat) : Int) := by rw [wrap_i64 _ (by omega) (by omega)]; omega
        have hd1 := eds_drop g.es (k - 1) (by omega)
        have hlt1 : k - 1 < g.es.length := by omega
        have hlt3 : (k - 1) * 3 < g.es.length * 3 := by omega
        have hle : ¬ xi ≤ (g.es.getD (k - 1) ed0).id := by
          intro h
          unfold numb at hnb
          rw [if_neg (by simp [hx1, hx2]), if_pos ⟨by simp [h0], h⟩] at hnb
          cases hnb
        generalize hy : g.es.getD (k - 1) ed0 = y at *
        obtain ⟨yi, ya, yb⟩ := y
        simp only at hd1 hle
        (repeat' (first | refine awp_seq ?_ | refine awp_block ?_ | ((first | refine awp_skip ?_ | refine awp_exit ?_); simp only [ak, reduceIte]) | (refine awp_ret ?_; simp only [ak, reduceIte]; simp [f1, f45, f46, f47, hlt, hd, hw, hel, hk3, hgH, hnx, hx1, hx2, hk0, hw1, hd1, hlt1, hlt3, hle, hab, hr]) | (refine awp_cond ?_; simp [f1, f45, f46, f47, hlt, hd, hw, hel, hk3, hgH, hnx, hx1, hx2, hk0, hw1, hd1, hlt1, hlt3, hle, hab, hr]; (try with_reducible refine ⟨?_, ?_⟩) <;> (try with_reducible intro hc) <;> try (exfalso; omega)) | ((first | (refine w_e [] ?_; intro J hJ; simp only []) | (refine w_q ?_; intro J hJ) | refine e_go ?_); simp [f1, f45, f46, f47, hlt, hd, hw, hel, hk3, hgH, hnx, hx1, hx2, hk0, hw1, hd1, hlt1, hlt3, hle, hab, hr]; (repeat refine ca ?_); (try ((try with_reducible refine ⟨?_, ?_⟩) <;> (try with_reducible intro hnil) <;> refine hJ _ _ ?_ <;> clear hJ J <;> simp only [ak, reduceIte] <;> try subst hnil)))))
        exact hkp0.trans (Keeps.new _ _)
    rw [if_neg hab] at hbad
    by_cases h0 : k = 0
    · have hk0 : ¬ 0 < k := by omega
      (repeat' (first | refine awp_seq ?_ | refine awp_block ?_ | ((first | refine awp_skip ?_ | refine awp_exit ?_); simp only [ak, reduceIte]) | (refine awp_ret ?_; simp only [ak, reduceIte]; simp [f1, f45, f46, f47, hlt, hd, hw, hel, hk3, hgH, hnx, hx1, hx2, hk0, hab]) | (refine awp_cond ?_; simp [f1, f45, f46, f47, hlt, hd, hw, hel, hk3, hgH, hnx, hx1, hx2, hk0, hab]; (try with_reducible refine ⟨?_, ?_⟩) <;> (try with_reducible intro hc) <;> try (exfalso; omega)) | ((first | (refine w_e [] ?_; intro J hJ; simp only []) | (refine w_q ?_; intro J hJ) | refine e_go ?_); simp [f1, f45, f46, f47, hlt, hd, hw, hel, hk3, hgH, hnx, hx1, hx2, hk0, hab]; (repeat refine ca ?_); (try ((try with_reducible refine ⟨?_, ?_⟩) <;> (try with_reducible intro hnil) <;> refine hJ _ _ ?_ <;> clear hJ J <;> simp only [ak, reduceIte] <;> try subst hnil)))))
      refine callK_ofE (Has g xa _ hsm) (by simp []) ?_; rintro r st' ⟨rfl, hk1⟩
      have hB1 : st'.H st1.next = .box 43 3 [u xi, u xa, u xb] := by rw [hk1.H _ (by simp)]; simp
      have hgH1 : st'.H st.next = .box 38 2 (grL g) := by
        rw [hk1.H _ (by have := hkp.next; simp only [new_next] at this ⊢; omega), new_H, if_neg hnx]; exact hgH
      have hkp1 := (hkp.trans (Keeps.new _ _)).trans hk1
      have hkp01 := (hkp0.trans (Keeps.new _ _)).trans hk1
      by_cases hma : xa ∈ g.vs
      rotate_left
      · have hr := hret 21 (by rw [hbad, if_pos (.inl hma)]) (by decide)
        (repeat' (first | refine awp_seq ?_ | refine awp_block ?_ | ((first | refine awp_skip ?_ | refine awp_exit ?_); simp only [ak, reduceIte]) | (refine awp_ret ?_; simp only [ak, reduceIte]; simp [f1, hB1, hgH1, hr, hma]) | (refine awp_cond ?_; simp [f1, hB1, hgH1, hr, hma]; (try with_reducible refine ⟨?_, ?_⟩) <;> (try with_reducible intro hc) <;> try (exfalso; omega)) | ((first | (refine w_e [] ?_; intro J hJ; simp only []) | (refine w_q ?_; intro J hJ) | refine e_go ?_); simp [f1, hB1, hgH1, hr, hma]; (repeat refine ca ?_); (try ((try with_reducible refine ⟨?_, ?_⟩) <;> (try with_reducible intro hnil) <;> refine hJ _ _ ?_ <;> clear hJ J <;> simp only [ak, reduceIte] <;> try subst hnil)))))
        exact hkp01
      (refine e_go ?_; simp [f1, hB1, hgH1, hma]; (repeat refine ca ?_); (try ((try with_reducible refine ⟨?_, ?_⟩) <;> (try with_reducible intro hnil) <;> refine hJ _ _ ?_ <;> clear hJ J <;> simp only [ak, reduceIte] <;> try subst hnil)))
      refine callK_ofE (Has g xb _ hsm) (by simp []) ?_; rintro r st' ⟨rfl, hk2⟩
      by_cases hmb : xb ∈ g.vs
      rotate_left
      · have hr := hret 21 (by rw [hbad, if_pos (.inr hmb)]) (by decide)
        (repeat' (first | refine awp_seq ?_ | refine awp_block ?_ | ((first | refine awp_skip ?_ | refine awp_exit ?_); simp only [ak, reduceIte]) | (refine awp_ret ?_; simp only [ak, reduceIte]; simp [hr, hmb]) | (refine awp_cond ?_; simp [hr, hmb]; (try with_reducible refine ⟨?_, ?_⟩) <;> (try with_reducible intro hc) <;> try (exfalso; omega)) | ((first | (refine w_e [] ?_; intro J hJ; simp only []) | (refine w_q ?_; intro J hJ) | refine e_go ?_); simp [hr, hmb]; (repeat refine ca ?_); (try ((try with_reducible refine ⟨?_, ?_⟩) <;> (try with_reducible intro hnil) <;> refine hJ _ _ ?_ <;> clear hJ J <;> simp only [ak, reduceIte] <;> try subst hnil)))))
        exact hkp01.trans hk2
      have hb' : badE g k = 0 := by rw [hbad, if_neg (by simp [hma, hmb])]
      (repeat' (first | refine awp_seq ?_ | refine awp_block ?_ | ((first | refine awp_skip ?_ | refine awp_exit ?_); simp only [ak, reduceIte]) | (refine awp_ret ?_; simp only [ak, reduceIte]; simp [f47, hw, hmb]) | (refine awp_cond ?_; simp [f47, hw, hmb]; (try with_reducible refine ⟨?_, ?_⟩) <;> (try with_reducible intro hc) <;> try (exfalso; omega)) | ((first | (refine w_e [] ?_; intro J hJ; simp only []) | (refine w_q ?_; intro J hJ) | refine e_go ?_); simp [f47, hw, hmb]; (repeat refine ca ?_); (try ((try with_reducible refine ⟨?_, ?_⟩) <;> (try with_reducible intro hnil) <;> refine hJ _ _ ?_ <;> clear hJ J <;> simp only [ak, reduceIte] <;> try subst hnil)))))
      refine hJJ _ _ _ ?_ ⟨k + 1, by omega, rfl, by simp [f1], by simp [f45], by simp [f46], by simp, hkp1.trans hk2, hnext hb'⟩
      omega
    · have hk0 : 0 < k := by omega
      have hw1 : IntKind.i64.wrap ((k : Int) - 1) = ((k - 1 : Nat) : Int) := by rw [wrap_i64 _ (by omega) (by omega)]; omega
      have hd1 := eds_drop g.es (k - 1) (by omega)
      have hlt1 : k - 1 < g.es.length := by omega
      have hlt3 : (k - 1) * 3 < g.es.length * 3 := by omega
      have hle : ¬ xi ≤ (g.es.getD (k - 1) ed0).id := by
        intro h
        unfold numb at hnb
        rw [if_neg (by simp [hx1, hx2]), if_pos ⟨by simp [h0], h⟩] at hnb
        cases hnb
      generalize hy : g.es.getD (k - 1) ed0 = y at *
      obtain ⟨yi, ya, yb⟩ := y
      simp only at hd1 hle
      (repeat' (first | refine awp_seq ?_ | refine awp_block ?_ | ((first | refine awp_skip ?_ | refine awp_exit ?_); simp only [ak, reduceIte]) | (refine awp_ret ?_; simp only [ak, reduceIte]; simp [f1, f45, f46, f47, hlt, hd, hw, hel, hk3, hgH, hnx, hx1, hx2, hk0, hw1, hd1, hlt1, hlt3, hle, hab]) | (refine awp_cond ?_; simp [f1, f45, f46, f47, hlt, hd, hw, hel, hk3, hgH, hnx, hx1, hx2, hk0, hw1, hd1, hlt1, hlt3, hle, hab]; (try with_reducible refine ⟨?_, ?_⟩) <;> (try with_reducible intro hc) <;> try (exfalso; omega)) | ((first | (refine w_e [] ?_; intro J hJ; simp only []) | (refine w_q ?_; intro J hJ) | refine e_go ?_); simp [f1, f45, f46, f47, hlt, hd, hw, hel, hk3, hgH, hnx, hx1, hx2, hk0, hw1, hd1, hlt1, hlt3, hle, hab]; (repeat refine ca ?_); (try ((try with_reducible refine ⟨?_, ?_⟩) <;> (try with_reducible intro hnil) <;> refine hJ _ _ ?_ <;> clear hJ J <;> simp only [ak, reduceIte] <;> try subst hnil)))))
      refine callK_ofE (Has g xa _ hsm) (by simp []) ?_; rintro r st' ⟨rfl, hk1⟩
      have hB1 : st'.H st1.next = .box 43 3 [u xi, u xa, u xb] := by rw [hk1.H _ (by simp)]; simp
      have hgH1 : st'.H st.next = .box 38 2 (grL g) := by
        rw [hk1.H _ (by have := hkp.next; simp only [new_next] at this ⊢; omega), new_H, if_neg hnx]; exact hgH
      have hkp1 := (hkp.trans (Keeps.new _ _)).trans hk1
      have hkp01 := (hkp0.trans (Keeps.new _ _)).trans hk1
      by_cases hma : xa ∈ g.vs
      rotate_left
      · have hr := hret 21 (by rw [hbad, if_pos (.inl hma)]) (by decide)
        (repeat' (first | refine awp_seq ?_ | refine awp_block ?_ | ((first | refine awp_skip ?_ | refine awp_exit ?_); simp only [ak, reduceIte]) | (refine awp_ret ?_; simp only [ak, reduceIte]; simp [f1, hB1, hgH1, hr, hma]) | (refine awp_cond ?_; simp [f1, hB1, hgH1, hr, hma]; (try with_reducible refine ⟨?_, ?_⟩) <;> (try with_reducible intro hc) <;> try (exfalso; omega)) | ((first | (refine w_e [] ?_; intro J hJ; simp only []) | (refine w_q ?_; intro J hJ) | refine e_go ?_); simp [f1, hB1, hgH1, hr, hma]; (repeat refine ca ?_); (try ((try with_reducible refine ⟨?_, ?_⟩) <;> (try with_reducible intro hnil) <;> refine hJ _ _ ?_ <;> clear hJ J <;> simp only [ak, reduceIte] <;> try subst hnil)))))
        exact hkp01
      (refine e_go ?_; simp [f1, hB1, hgH1, hma]; (repeat refine ca ?_); (try ((try with_reducible refine ⟨?_, ?_⟩) <;> (try with_reducible intro hnil) <;> refine hJ _ _ ?_ <;> clear hJ J <;> simp only [ak, reduceIte] <;> try subst hnil)))
      refine callK_ofE (Has g xb _ hsm) (by simp []) ?_; rintro r st' ⟨rfl, hk2⟩
      by_cases hmb : xb ∈ g.vs
      rotate_left
      · have hr := hret 21 (by rw [hbad, if_pos (.inr hmb)]) (by decide)
        (repeat' (first | refine awp_seq ?_ | refine awp_block ?_ | ((first | refine awp_skip ?_ | refine awp_exit ?_); simp only [ak, reduceIte]) | (refine awp_ret ?_; simp only [ak, reduceIte]; simp [hr, hmb]) | (refine awp_cond ?_; simp [hr, hmb]; (try with_reducible refine ⟨?_, ?_⟩) <;> (try with_reducible intro hc) <;> try (exfalso; omega)) | ((first | (refine w_e [] ?_; intro J hJ; simp only []) | (refine w_q ?_; intro J hJ) | refine e_go ?_); simp [hr, hmb]; (repeat refine ca ?_); (try ((try with_reducible refine ⟨?_, ?_⟩) <;> (try with_reducible intro hnil) <;> refine hJ _ _ ?_ <;> clear hJ J <;> simp only [ak, reduceIte] <;> try subst hnil)))))
        exact hkp01.trans hk2
      have hb' : badE g k = 0 := by rw [hbad, if_neg (by simp [hma, hmb])]
      (repeat' (first | refine awp_seq ?_ | refine awp_block ?_ | ((first | refine awp_skip ?_ | refine awp_exit ?_); simp only [ak, reduceIte]) | (refine awp_ret ?_; simp only [ak, reduceIte]; simp [f47, hw, hmb]) | (refine awp_cond ?_; simp [f47, hw, hmb]; (try with_reducible refine ⟨?_, ?_⟩) <;> (try with_reducible intro hc) <;> try (exfalso; omega)) | ((first | (refine w_e [] ?_; intro J hJ; simp only []) | (refine w_q ?_; intro J hJ) | refine e_go ?_); simp [f47, hw, hmb]; (repeat refine ca ?_); (try ((try with_reducible refine ⟨?_, ?_⟩) <;> (try with_reducible intro hnil) <;> refine hJ _ _ ?_ <;> clear hJ J <;> simp only [ak, reduceIte] <;> try subst hnil)))))
      refine hJJ _ _ _ ?_ ⟨k + 1, by omega, rfl, by simp [f1], by simp [f45], by simp [f46], by simp, hkp1.trans hk2, hnext hb'⟩
      omega
  · have hr : chk g = 0 := by rw [hch]; exact firstNZ_zero (fun j hj => hno j (by omega))
    clear hJJ
    (repeat' (first | refine awp_seq ?_ | refine awp_block ?_ | ((first | refine awp_skip ?_ | refine awp_exit ?_); simp only [ak, reduceIte]) | (refine awp_ret ?_; simp only [ak, reduceIte]; simp [f1, f45, f46, f47, hlt, hr]) | (refine awp_cond ?_; simp [f1, f45, f46, f47, hlt, hr]; (try with_reducible refine ⟨?_, ?_⟩) <;> (try with_reducible intro hc) <;> try (exfalso; omega)) | ((first | (refine w_e [] ?_; intro J hJ; simp only []) | (refine w_q ?_; intro J hJ) | refine e_go ?_); simp [f1, f45, f46, f47, hlt, hr]; (repeat refine ca ?_); (try ((try with_reducible refine ⟨?_, ?_⟩) <;> (try with_reducible intro hnil) <;> refine hJ _ _ ?_ <;> clear hJ J <;> simp only [ak, reduceIte] <;> try subst hnil)))))
    exact hkp0

end Go.Proofs.YtomfeddgeihipaaGreat.Aw

namespace Go.Proofs.YtomfeddgeihipaaGreat.Aw
open Go Go.RowKit Go.Proofs.YtomfeddgeihipaaGreat.Pl
set_option linter.unusedSimpArgs false
set_option linter.unusedVariables false

end Go.Proofs.YtomfeddgeihipaaGreat.Aw

namespace Go.Proofs.YtomfeddgeihipaaGreat.Aw
open Go Go.RowKit Go.Proofs.YtomfeddgeihipaaGreat.Pl
set_option linter.unusedSimpArgs false
set_option linter.unusedVariables false

end Go.Proofs.YtomfeddgeihipaaGreat.Aw

namespace Go.Proofs.YtomfeddgeihipaaGreat.Aw
open Go Go.RowKit Go.Proofs.YtomfeddgeihipaaGreat.Pl
set_option linter.unusedSimpArgs false
set_option linter.unusedVariables false

theorem ref_CheckA (g : Gr) (st : St) : ACalls Tryz.prog 24 [.ag (grL g)] st fun r st' => r = i (chk g) ∧ Keeps st st' := by
  by_cases h1 : (64 : Int) < (g.vs.length : Int)
  · have : chk g = 6 := by unfold chk; rw [if_pos (by omega)]
    refine acalls_of_body tabOk Tryz.func24 rfl rfl Tryz.ntmps24 (rs := [.tmp 2]) rfl (by simp) ?_
    (repeat' (first | refine awp_seq ?_ | refine awp_block ?_ | ((first | refine awp_skip ?_ | refine awp_exit ?_); simp only [ak, reduceIte]) | (refine awp_ret ?_; simp only [ak, reduceIte]; simp [h1, this]) | (refine awp_cond ?_; simp [h1, this]; (try with_reducible refine ⟨?_, ?_⟩) <;> (try with_reducible intro hc) <;> try (exfalso; omega)) | ((first | (refine w_e [] ?_; intro J hJ; simp only []) | (refine w_q ?_; intro J hJ) | refine e_go ?_); simp [h1, this]; (repeat refine ca ?_); (try ((try with_reducible refine ⟨?_, ?_⟩) <;> (try with_reducible intro hnil) <;> refine hJ _ _ ?_ <;> clear hJ J <;> simp only [ak, reduceIte] <;> try subst hnil)))))
    exact Keeps.new _ _
  by_cases h2 : (160 : Int) < (g.es.length : Int)
  · have : chk g = 6 := by unfold chk; rw [if_pos (by omega)]
    refine acalls_of_body tabOk Tryz.func24 rfl rfl Tryz.ntmps24 (rs := [.tmp 2]) rfl (by simp) ?_
    (repeat' (first | refine awp_seq ?_ | refine awp_block ?_ | ((first | refine awp_skip ?_ | refine awp_exit ?_); simp only [ak, reduceIte]) | (refine awp_ret ?_; simp only [ak, reduceIte]; simp [h1, h2, this]) | (refine awp_cond ?_; simp [h1, h2, this]; (try with_reducible refine ⟨?_, ?_⟩) <;> (try with_reducible intro hc) <;> try (exfalso; omega)) | ((first | (refine w_e [] ?_; intro J hJ; simp only []) | (refine w_q ?_; intro J hJ) | refine e_go ?_); simp [h1, h2, this]; (repeat refine ca ?_); (try ((try with_reducible refine ⟨?_, ?_⟩) <;> (try with_reducible intro hnil) <;> refine hJ _ _ ?_ <;> clear hJ J <;> simp only [ak, reduceIte] <;> try subst hnil)))))
    exact Keeps.new _ _
  exact ref_Check g st (by omega) (by omega)

/-- Its entries are turns. -/
def Turns (es : List (List Int × LV)) : Prop := ∀ x, mget es x = none ∨ ∃ r : List Int, mget es x = some (.sl 0 r.length (us r)) ∧ r.length ≤ 300

theorem Turns.fn {es : List (List Int × LV)} (h : Turns es) : ∃ tf : Int → List Int, ∀ v, ∃ x t, (mget es [v]).getD .nil = x ∧ norm x = .sl t (tf v).length (us (tf v)) ∧ (tf v).length ≤ 1000 := by
  have : ∀ v : Int, ∃ y : List Int, ∃ x t, (mget es [v]).getD .nil = x ∧ norm x = .sl t y.length (us y) ∧ y.length ≤ 1000 := by
    intro v
    rcases h [v] with h1 | ⟨r, h1, h2⟩
    · exact ⟨[], .nil, 0, by rw [h1]; rfl, rfl, by simp⟩
    · exact ⟨r, .sl 0 r.length (us r), 0, by rw [h1]; rfl, rfl, by omega⟩
  exact ⟨fun v => Classical.choose (this v), fun v => Classical.choose_spec (this v)⟩

end Go.Proofs.YtomfeddgeihipaaGreat.Aw

namespace Go.Proofs.YtomfeddgeihipaaGreat.Aw
open Go Go.RowKit Go.Proofs.YtomfeddgeihipaaGreat.Pl
set_option linter.unusedSimpArgs false
set_option linter.unusedVariables false

theorem awp_posG {P : Program} {N : Nat} {Q : AQ} {c : Code} {fr : Frm} {st : St} (h : 0 < st.next → AWp P N c Q fr st) : AWp P N c Q fr st :=
  fun a w g hi hr hs hd => h hi.pos a w g hi hr hs hd

def end1 (v : Int) (x : Ed) : List Int := (if x.a = v then [2 * x.id] else []) ++ (if x.b = v then [2 * x.id + 1] else [])
/-- The darts at a vertex. -/
def ends (es : List Ed) (v : Int) : List Int := es.flatMap (end1 v)
theorem flat_takeE (f : Ed → List Int) (l : List Ed) (k : Nat) (hk : k < l.length) : (l.take (k + 1)).flatMap f = (l.take k).flatMap f ++ f (l.getD k ed0) := by
  rw [List.take_succ_eq_append_getElem hk, List.flatMap_append, List.getD_eq_getElem?_getD, List.getElem?_eq_getElem hk]; simp
theorem flat_len (f : Ed → List Int) (hf : ∀ x, (f x).length ≤ 2) (l : List Ed) : (l.flatMap f).length ≤ 2 * l.length := by
  induction l with
  | nil => simp
  | cons x l ih => have := hf x; simp only [List.flatMap_cons, List.length_append, List.length_cons]; omega
def idOk (es : List Ed) : Prop := ∀ x ∈ es, 0 ≤ x.id ∧ x.id ≤ 1048576
theorem idOk.at {es : List Ed} (h : idOk es) (k : Nat) (hk : k < es.length) : 0 ≤ (es.getD k ed0).id ∧ (es.getD k ed0).id ≤ 1048576 := by
  rw [List.getD_eq_getElem?_getD, List.getElem?_eq_getElem hk]; exact h _ (List.getElem_mem hk)
def OwnAt (t : Nat) (lo : St) (l : List Int) (st : St) : Prop := t ≠ 0 ∧ lo.next ≤ t ∧ t < st.next ∧ st.H t = .own 41 1 l.length ∧ Keeps lo st

end Go.Proofs.YtomfeddgeihipaaGreat.Aw

namespace Go.Proofs.YtomfeddgeihipaaGreat.Aw
open Go Go.RowKit Go.Proofs.YtomfeddgeihipaaGreat.Pl
set_option linter.unusedSimpArgs false
set_option linter.unusedVariables false

def nbr1 (v : Int) (x : Ed) : List Int := (if x.a = v then [x.b] else []) ++ (if x.b = v then [x.a] else [])
/-- Who is at the other ends of a vertex's edges. -/
def nbr (es : List Ed) (v : Int) : List Int := es.flatMap (nbr1 v)
theorem nbr1_len (v : Int) (x : Ed) : (nbr1 v x).length ≤ 2 := by
  unfold nbr1; split <;> split <;> simp

/-- A map of rows, each with a place of its own. -/
def NearI (lo m : Nat) (es : List (List Int × LV)) (st : St) (f : Int → List Int) (tok : Int → Nat) : Prop :=
  ∀ v, (tok v = 0 → f v = [] ∧ mget es [v] = none) ∧ (tok v ≠ 0 → mget es [v] = some (.sl (tok v) (f v).length (us (f v))) ∧ lo ≤ tok v ∧ tok v < st.next ∧ tok v ≠ m ∧ st.H (tok v) = .own 41 1 (f v).length ∧ ∀ w, tok w = tok v → w = v)

theorem NearI.step {lo m : Nat} {es : List (List Int × LV)} {st st' : St} {f : Int → List Int} {tok : Int → Nat} (h : NearI lo m es st f tok) (a x : Int) (N : Nat) (hN : st.next ≤ N) (hN' : N < st'.next) (hm : m < st.next) (h0 : 0 < st.next) (hlo : lo ≤ st.next)
    (hH : ∀ l, l ≠ tok a → l ≠ m → l < st.next → st'.H l = st.H l) (hO : st'.H N = .own 41 1 ((f a).length + 1)) :
    NearI lo m (mset es [a] (.sl N ((f a).length + 1) (us (f a ++ [x])))) st' (fun v => if v = a then f a ++ [x] else f v) (fun v => if v = a then N else tok v) := by
  intro v
  by_cases hv : v = a
  · subst hv
    simp only [if_true]
    refine ⟨fun h1 => by omega, fun _ => ⟨by rw [mget_mset]; simp, by omega, hN', by omega, by rw [hO]; simp, fun w hw => ?_⟩⟩
    by_cases hwv : w = v
    · exact hwv
    · rw [if_neg hwv] at hw
      by_cases h1 : tok w = 0
      · omega
      · have := ((h w).2 h1).2.2.1; omega
  · simp only [if_neg hv]
    have hne : ¬ ([v] : List Int) = [a] := by simpa using hv
    refine ⟨fun h1 => ⟨((h v).1 h1).1, by rw [mget_mset, if_neg hne]; exact ((h v).1 h1).2⟩, fun h1 => ?_⟩
    obtain ⟨k1, k2, k3, k4, k5, k6⟩ := (h v).2 h1
    refine ⟨by rw [mget_mset, if_neg hne]; exact k1, k2, by omega, k4, ?_, fun w hw => ?_⟩
    · rw [hH (tok v) (fun e => hv (k6 a e.symm).symm) k4 k3]; exact k5
    · by_cases hwa : w = a
      · subst hwa; simp only [if_true] at hw; omega
      · rw [if_neg hwa] at hw; exact k6 w hw

/-- A map whose rows are told. -/
def RowsAt (es : List (List Int × LV)) (f : Int → List Int) : Prop := ∀ v, ∃ t, norm ((mget es [v]).getD .nil) = .sl t (f v).length (us (f v))

def NearJ (n0 m : Nat) (st : St) (l : List Ed) (k : Nat) (id a b : Int) (f : Int → List Int) (fr : Frm) (st2 : St) : Prop :=
  fr 3 = .mp (m) ∧ fr 8 = .sl 0 l.length (eds l) ∧ fr 9 = i l.length ∧ fr 10 = i k ∧ Keeps st st2 ∧ m < st2.next ∧ (∃ q, fr 5 = .pt q 0 ∧ st2.H q = .box 43 3 [u id, u a, u b] ∧ q < st2.next) ∧ ∃ es tok, st2.H (m) = .map false [.u32] es ∧ NearI n0 m es st2 f tok

theorem near (g : Gr) (st : St) (he : g.es.length ≤ 1000) :
    ACalls Tryz.prog 95 [.ag (grL g)] st fun r st' => ∃ m es, r = .mp m ∧ st.next ≤ m ∧ m < st'.next ∧ st'.H m = .map false [.u32] es ∧ Keeps st st' ∧ RowsAt es (nbr g.es) := by
  obtain ⟨vs, l⟩ := g
  simp only at he ⊢
  have hel := eds_length l
  have hfl := fun v k => flat_len (nbr1 v) (nbr1_len v) (l.take k)
  refine acalls_of_body tabOk Tryz.func95 rfl rfl Tryz.ntmps95 (rs := [.tmp 2]) rfl (by simp) ?_
  (repeat' (first | refine awp_seq ?_ | refine awp_block ?_ | ((first | refine awp_skip ?_ | refine awp_exit ?_); simp only [ak, reduceIte]) | (refine awp_ret ?_; simp only [ak, reduceIte]; simp []) | (refine awp_cond ?_; simp []; (try with_reducible refine ⟨?_, ?_⟩) <;> (try with_reducible intro hc) <;> try (exfalso; omega)) | ((first | (refine w_e [] ?_; intro J hJ; simp only []) | (refine w_q ?_; intro J hJ) | refine e_go ?_); simp []; (repeat refine ca ?_); (try ((try with_reducible refine ⟨?_, ?_⟩) <;> (try with_reducible intro hnil) <;> refine hJ _ _ ?_ <;> clear hJ J <;> simp only [ak, reduceIte] <;> try subst hnil)))))
  refine awp_posG fun hpos => ?_
  obtain ⟨m, hm⟩ : ∃ m, m = st.next + 1 := ⟨_, rfl⟩
  refine awp_loop (fun n fr st2 => ∃ k : Nat, k ≤ l.length ∧ n = l.length - k ∧ fr 3 = .mp m ∧ fr 8 = .sl 0 l.length (eds l) ∧ fr 9 = i l.length ∧ fr 10 = i k ∧ Keeps st st2 ∧ m < st2.next ∧ ∃ es tok, st2.H m = .map false [.u32] es ∧ NearI st.next m es st2 (nbr (l.take k)) tok) l.length ?_ ?_
  · exact ⟨0, by omega, by omega, by simp [hm], by simp, by simp, by simp, (Keeps.new _ _).trans (Keeps.new _ _), by simp [hm], [], fun _ => 0, by simp [hm], fun v => ⟨fun _ => ⟨by simp [nbr], rfl⟩, fun h => absurd rfl h⟩⟩
  rintro n fr st2 ⟨k, hk, rfl, f3, f8, f9, f10, hkp, hmn, es, tok, hM, hN⟩ JJ hJJ
  by_cases hlt : k < l.length
  rotate_left
  · clear hJJ
    have hk' : k = l.length := by omega
    rw [hk', List.take_length] at hN
    (repeat' (first | refine awp_seq ?_ | refine awp_block ?_ | ((first | refine awp_skip ?_ | refine awp_exit ?_); simp only [ak, reduceIte]) | (refine awp_ret ?_; simp only [ak, reduceIte]; simp [f3, f9, f10, hlt]) | (refine awp_cond ?_; simp [f3, f9, f10, hlt]; (try with_reducible refine ⟨?_, ?_⟩) <;> (try with_reducible intro hc) <;> try (exfalso; omega)) | ((first | (refine w_e [] ?_; intro J hJ; simp only []) | (refine w_q ?_; intro J hJ) | refine e_go ?_); simp [f3, f9, f10, hlt]; (repeat refine ca ?_); (try ((try with_reducible refine ⟨?_, ?_⟩) <;> (try with_reducible intro hnil) <;> refine hJ _ _ ?_ <;> clear hJ J <;> simp only [ak, reduceIte] <;> try subst hnil)))))
    refine ⟨by omega, hmn, es, hM, hkp, fun v => ?_⟩
    by_cases h0 : tok v = 0
    · obtain ⟨h1, h2⟩ := (hN v).1 h0
      exact ⟨0, by rw [h1, h2]; rfl⟩
    · obtain ⟨h1, -⟩ := (hN v).2 h0
      exact ⟨tok v, by rw [h1]; rfl⟩
  have hd := eds_drop l k hlt
  have hw := nat_add_one k (by omega)
  have hk3 : k * 3 < l.length * 3 := by omega
  have hst : ∀ v, nbr (l.take (k + 1)) v = nbr (l.take k) v ++ nbr1 v (l.getD k ed0) := fun v => flat_takeE _ _ _ hlt
  have hle : ∀ v, (nbr (l.take k) v).length ≤ 2 * k := fun v => by have := hfl v k; rw [List.length_take] at this; unfold nbr; omega
  generalize hx : l.getD k ed0 = x at *
  obtain ⟨id, a, b⟩ := x
  simp only at hd
  generalize hF : nbr (l.take k) = f at *
  (repeat' (first | refine awp_seq ?_ | refine awp_block ?_ | ((first | refine awp_skip ?_ | refine awp_exit ?_); simp only [ak, reduceIte]) | (refine awp_ret ?_; simp only [ak, reduceIte]; simp [f8, f9, f10, hlt, hd, hel]) | (refine awp_cond ?_; simp [f8, f9, f10, hlt, hd, hel]; (try with_reducible refine ⟨?_, ?_⟩) <;> (try with_reducible intro hc) <;> try (exfalso; omega)) | ((first | (refine w_e [] ?_; intro J hJ; simp only []) | (refine w_q ?_; intro J hJ) | refine e_go ?_); simp [f8, f9, f10, hlt, hd, hel]; (repeat refine ca ?_); (try ((try with_reducible refine ⟨?_, ?_⟩) <;> (try with_reducible intro hnil) <;> refine hJ _ _ ?_ <;> clear hJ J <;> simp only [ak, reduceIte] <;> try subst hnil)))))
  have hm2 : ¬ m = st2.next := by omega
  have hm3 : ¬ st2.next = m := by omega
  have hm4 : ¬ m = st2.next + 1 := by omega
  have hm5 : ¬ m = st2.next + 1 + 1 := by omega
  have hn2 : ¬ st2.next = st2.next + 1 + 1 := by omega
  refine awp_cut1 (NearJ st.next m st l k id a b (fun v => if v = a then f a ++ [b] else f v)) ?_ ?_
  · clear hJJ
    have hla := hle a
    by_cases h0 : tok a = 0
    · obtain ⟨h1, h2⟩ := (hN a).1 h0
      (refine w_s [] [st2.next, m] [(0, true), (1, true), (2, true), (3, true), (4, true), (5, true), (6, true), (7, true), (8, true), (9, true), (10, true), (11, false)] ?_; intro J hJ; simp [f3, hM, h2, hm2, hm3, hm4, hm5, hn2]; (repeat refine ca ?_); (try ((try with_reducible refine ⟨?_, ?_⟩) <;> (try with_reducible intro hnil) <;> refine hJ _ _ ?_ <;> clear hJ J <;> simp only [ak, reduceIte] <;> try subst hnil)))
      refine ⟨by trivial, ?_⟩
      have e : LV.sl (st2.next + 1 + 1) ((f a).length + 1) (us (f a ++ [b])) = .sl (st2.next + 1 + 1) 1 [u b] := by rw [h1]; rfl
      refine ⟨by simp [f3], by simp [f8], by simp [f9], by simp [f10], (by repeat (first | exact hkp | (refine Keeps.trans ?_ (Keeps.new _ _)) | (refine Keeps.set ?_ (by have := hkp.next; omega) _))), by simp; omega, ⟨st2.next, by simp, by simp [hm3, hn2], by simp; omega⟩, _, fun v => if v = a then st2.next + 1 + 1 else tok v, by simp; rfl, ?_⟩
      rw [← e]
      refine hN.step a b (st2.next + 1 + 1) (by omega) (by simp) hmn (by omega) (by have := hkp.next; omega) (fun l e1 e2 e3 => ?_) (by rw [h1]; simp [Ne.symm hm5])
      have a1 : ¬ l = st2.next := by omega
      have a2 : ¬ l = st2.next + 1 := by omega
      have a3 : ¬ l = st2.next + 1 + 1 := by omega
      simp [a1, a2, a3, e1, e2]
    · obtain ⟨h1, h2, h3, h4, h5, h6⟩ := (hN a).2 h0
      have ht1 : ¬ tok a = st2.next := by omega
      have ht2 : ¬ st2.next = tok a := by omega
      have ht3 : ¬ tok a = st2.next + 1 := by omega
      have ht4 : ¬ m = tok a := fun h => h4 h.symm
      (refine w_s [] [st2.next, m] [(0, true), (1, true), (2, true), (3, true), (4, true), (5, true), (6, true), (7, true), (8, true), (9, true), (10, true), (11, false)] ?_; intro J hJ; simp [f3, hM, h1, h5, h0, hm2, hm3, hm4, hm5, hn2, ht1, ht2, ht3, ht4]; (repeat refine ca ?_); (try ((try with_reducible refine ⟨?_, ?_⟩) <;> (try with_reducible intro hnil) <;> refine hJ _ _ ?_ <;> clear hJ J <;> simp only [ak, reduceIte] <;> try subst hnil)))
      refine ⟨by trivial, ?_⟩
      have e : LV.sl (st2.next + 1 + 1) ((f a).length + 1) (us (f a ++ [b])) = .sl (st2.next + 1 + 1) ((f a).length + 1) (us (f a) ++ [u b]) := by simp
      refine ⟨by simp [f3], by simp [f8], by simp [f9], by simp [f10], (by repeat (first | exact hkp | (refine Keeps.trans ?_ (Keeps.new _ _)) | (refine Keeps.set ?_ (by have := hkp.next; omega) _))), by simp; omega, ⟨st2.next, by simp, by simp [hm3, hn2, ht2], by simp; omega⟩, _, fun v => if v = a then st2.next + 1 + 1 else tok v, by simp; rfl, ?_⟩
      rw [← e]
      refine hN.step a b (st2.next + 1 + 1) (by omega) (by simp) hmn (by omega) (by have := hkp.next; omega) (fun l e1 e2 e3 => ?_) (by simp [Ne.symm hm5])
      have a1 : ¬ l = st2.next := by omega
      have a2 : ¬ l = st2.next + 1 := by omega
      have a3 : ¬ l = st2.next + 1 + 1 := by omega
      simp [a1, a2, a3, e1, e2]
  clear f3 f8 f9 f10 hkp hmn hM hN hm2 hm3 hm4 hm5 hn2 tok es st2 fr
  rintro fr st2 ⟨f3, f8, f9, f10, hkp, hmn, ⟨q, f5, hq, hqn⟩, es, tok, hM, hN⟩
  generalize hf2 : (fun v => if v = a then f a ++ [b] else f v) = f2 at *
  have hle2 : (f2 b).length ≤ 2 * k + 1 := by
    rw [← hf2]
    simp only
    split
    · have := hle a; simp; omega
    · have := hle b; omega
  have hfin : ∀ v, nbr (l.take (k + 1)) v = (if v = b then f2 b ++ [a] else f2 v) := by
    intro v
    rw [hst v, ← hf2]
    unfold nbr1
    simp only
    by_cases hva : v = a
    · subst hva
      by_cases hvb : v = b
      · subst hvb; simp
      · simp [hvb, Ne.symm hvb]
    · by_cases hvb : v = b
      · subst hvb; simp [hva, Ne.symm hva]
      · simp [hva, hvb, Ne.symm hva, Ne.symm hvb]
  have hfin' : nbr (l.take (k + 1)) = fun v => if v = b then f2 b ++ [a] else f2 v := funext hfin
  have hm2 : ¬ m = st2.next := by omega
  have hm5 : ¬ m = st2.next + 1 := by omega
  have hq2 : ¬ q = st2.next := by omega
  have hqm : ¬ q = m := fun h => by rw [h, hM] at hq; cases hq
  by_cases h0 : tok b = 0
  · obtain ⟨h1, h2⟩ := (hN b).1 h0
    (refine w_s [] [q, m] [(0, true), (1, true), (2, true), (3, true), (4, true), (5, true), (6, true), (7, true), (8, true), (9, true), (10, true), (11, false)] ?_; intro J hJ; simp [f3, f5, hq, hM, h2, hm2, hm5, hq2, hqm]; (repeat refine ca ?_); (try ((try with_reducible refine ⟨?_, ?_⟩) <;> (try with_reducible intro hnil) <;> refine hJ _ _ ?_ <;> clear hJ J <;> simp only [ak, reduceIte] <;> try subst hnil)))
    (repeat' (first | refine awp_seq ?_ | refine awp_block ?_ | ((first | refine awp_skip ?_ | refine awp_exit ?_); simp only [ak, reduceIte]) | (refine awp_ret ?_; simp only [ak, reduceIte]; simp [f10, hw]) | (refine awp_cond ?_; simp [f10, hw]; (try with_reducible refine ⟨?_, ?_⟩) <;> (try with_reducible intro hc) <;> try (exfalso; omega)) | ((first | (refine w_e [] ?_; intro J hJ; simp only []) | (refine w_q ?_; intro J hJ) | refine e_go ?_); simp [f10, hw]; (repeat refine ca ?_); (try ((try with_reducible refine ⟨?_, ?_⟩) <;> (try with_reducible intro hnil) <;> refine hJ _ _ ?_ <;> clear hJ J <;> simp only [ak, reduceIte] <;> try subst hnil)))))
    have e : LV.sl (st2.next + 1) ((f2 b).length + 1) (us (f2 b ++ [a])) = .sl (st2.next + 1) 1 [u a] := by rw [h1]; rfl
    refine hJJ (l.length - (k + 1)) _ _ (by omega) ⟨k + 1, by omega, rfl, by simp [f3], by simp [f8], by simp [f9], by simp, (by repeat (first | exact hkp | (refine Keeps.trans ?_ (Keeps.new _ _)) | (refine Keeps.set ?_ (by have := hkp.next; omega) _))), by simp; omega, _, fun v => if v = b then st2.next + 1 else tok v, by simp; rfl, ?_⟩
    rw [← e, hfin']
    refine hN.step b a (st2.next + 1) (by omega) (by simp) hmn (by omega) (by have := hkp.next; omega) (fun l e1 e2 e3 => ?_) (by rw [h1]; simp [Ne.symm hm5])
    have a1 : ¬ l = st2.next := by omega
    have a2 : ¬ l = st2.next + 1 := by omega
    simp [a1, a2, e1, e2]
  · obtain ⟨h1, h2, h3, h4, h5, h6⟩ := (hN b).2 h0
    have ht1 : ¬ tok b = st2.next := by omega
    have ht2 : ¬ st2.next = tok b := by omega
    have ht4 : ¬ m = tok b := fun h => h4 h.symm
    have ht5 : ¬ q = tok b := fun h => by rw [h, h5] at hq; cases hq
    (refine w_s [] [q, m] [(0, true), (1, true), (2, true), (3, true), (4, true), (5, true), (6, true), (7, true), (8, true), (9, true), (10, true), (11, false)] ?_; intro J hJ; simp [f3, f5, hq, hM, h1, h5, h0, hm2, hm5, hq2, hqm, ht1, ht2, ht4, ht5]; (repeat refine ca ?_); (try ((try with_reducible refine ⟨?_, ?_⟩) <;> (try with_reducible intro hnil) <;> refine hJ _ _ ?_ <;> clear hJ J <;> simp only [ak, reduceIte] <;> try subst hnil)))
    (repeat' (first | refine awp_seq ?_ | refine awp_block ?_ | ((first | refine awp_skip ?_ | refine awp_exit ?_); simp only [ak, reduceIte]) | (refine awp_ret ?_; simp only [ak, reduceIte]; simp [f10, hw]) | (refine awp_cond ?_; simp [f10, hw]; (try with_reducible refine ⟨?_, ?_⟩) <;> (try with_reducible intro hc) <;> try (exfalso; omega)) | ((first | (refine w_e [] ?_; intro J hJ; simp only []) | (refine w_q ?_; intro J hJ) | refine e_go ?_); simp [f10, hw]; (repeat refine ca ?_); (try ((try with_reducible refine ⟨?_, ?_⟩) <;> (try with_reducible intro hnil) <;> refine hJ _ _ ?_ <;> clear hJ J <;> simp only [ak, reduceIte] <;> try subst hnil)))))
    have e : LV.sl (st2.next + 1) ((f2 b).length + 1) (us (f2 b ++ [a])) = .sl (st2.next + 1) ((f2 b).length + 1) (us (f2 b) ++ [u a]) := by simp
    refine hJJ (l.length - (k + 1)) _ _ (by omega) ⟨k + 1, by omega, rfl, by simp [f3], by simp [f8], by simp [f9], by simp, (by repeat (first | exact hkp | (refine Keeps.trans ?_ (Keeps.new _ _)) | (refine Keeps.set ?_ (by have := hkp.next; omega) _))), by simp; omega, _, fun v => if v = b then st2.next + 1 else tok v, by simp; rfl, ?_⟩
    rw [← e, hfin']
    refine hN.step b a (st2.next + 1) (by omega) (by simp) hmn (by omega) (by have := hkp.next; omega) (fun l e1 e2 e3 => ?_) (by simp [Ne.symm hm5])
    have a1 : ¬ l = st2.next := by omega
    have a2 : ¬ l = st2.next + 1 := by omega
    simp [a1, a2, e1, e2]

theorem RowsAt.cases {es : List (List Int × LV)} {f : Int → List Int} (h : RowsAt es f) (v : Int) : ((mget es [v]).getD .nil = .nil ∧ f v = []) ∨ ∃ t, (mget es [v]).getD .nil = .sl t (f v).length (us (f v)) := by
  obtain ⟨t, ht⟩ := h v
  cases hx : (mget es [v]).getD .nil with
  | nil =>
    rw [hx] at ht
    left
    refine ⟨rfl, ?_⟩
    simp only [norm, LV.sl.injEq] at ht
    exact List.eq_nil_of_length_eq_zero ht.2.1.symm
  | _ => rw [hx] at ht; simp [norm] at ht <;> exact .inr ⟨t, by simp [ht]⟩

def alone (g : Gr) : Nat := g.vs.countP fun v => decide (nbr g.es v = [])
end Go.Proofs.YtomfeddgeihipaaGreat.Aw

namespace Go.Proofs.YtomfeddgeihipaaGreat.Aw
open Go Go.RowKit Go.Proofs.YtomfeddgeihipaaGreat.Pl
set_option linter.unusedSimpArgs false
set_option linter.unusedVariables false

inductive Reach (es : List Ed) (v : Int) : Int → Prop
  | refl : Reach es v v
  | step {u w : Int} (h : Reach es v u) (hw : w ∈ nbr es u) : Reach es v w

theorem mem_nbr {es : List Ed} {u w : Int} : w ∈ nbr es u ↔ ∃ x ∈ es, (x.a = u ∧ x.b = w) ∨ (x.b = u ∧ x.a = w) := by
  unfold nbr nbr1
  simp only [List.mem_flatMap, List.mem_append]
  constructor
  · rintro ⟨x, hx, h | h⟩
    · refine ⟨x, hx, .inl ?_⟩
      split at h
      · rename_i h1; simp at h; exact ⟨h1, h.symm⟩
      · cases h
    · refine ⟨x, hx, .inr ?_⟩
      split at h
      · rename_i h1; simp at h; exact ⟨h1, h.symm⟩
      · cases h
  · rintro ⟨x, hx, ⟨h1, h2⟩ | ⟨h1, h2⟩⟩
    · exact ⟨x, hx, .inl (by simp [h1, h2])⟩
    · exact ⟨x, hx, .inr (by simp [h1, h2])⟩
theorem nbr_symm {es : List Ed} {u w : Int} (h : w ∈ nbr es u) : u ∈ nbr es w := by
  rw [mem_nbr] at h ⊢
  obtain ⟨x, hx, ⟨h1, h2⟩ | ⟨h1, h2⟩⟩ := h
  · exact ⟨x, hx, .inr ⟨h2, h1⟩⟩
  · exact ⟨x, hx, .inl ⟨h2, h1⟩⟩
theorem Reach.trans {es : List Ed} {u v w : Int} (h : Reach es u v) (k : Reach es v w) : Reach es u w := by
  induction k with
  | refl => exact h
  | step _ hw ih => exact .step ih hw
theorem Reach.symm {es : List Ed} {u v : Int} (h : Reach es u v) : Reach es v u := by
  induction h with
  | refl => exact .refl
  | step _ hw ih => exact Reach.trans (.step .refl (nbr_symm hw)) ih
theorem Reach.closed {es : List Ed} {v w : Int} {L : Int → Prop} (h : Reach es v w) (hv : L v) (hc : ∀ u, L u → ∀ w ∈ nbr es u, L w) : L w := by
  induction h with
  | refl => exact hv
  | step _ hw ih => exact hc _ ih _ hw

/-- A graph's vertices rise, and edges end at them. -/
structure Good (g : Gr) : Prop where
  rise : g.vs.Pairwise (· < ·)
  ends : ∀ x ∈ g.es, x.a ∈ g.vs ∧ x.b ∈ g.vs
theorem Good.nbr {g : Gr} (h : Good g) {u w : Int} (hw : w ∈ nbr g.es u) : w ∈ g.vs := by
  rw [mem_nbr] at hw
  obtain ⟨x, hx, ⟨_, rfl⟩ | ⟨_, rfl⟩⟩ := hw
  · exact (h.ends x hx).2
  · exact (h.ends x hx).1
theorem Good.reach {g : Gr} (h : Good g) {v w : Int} (hv : v ∈ g.vs) (hr : Reach g.es v w) : w ∈ g.vs := by
  cases hr with
  | refl => exact hv
  | step _ hw => exact h.nbr hw
theorem Good.nodup {g : Gr} (h : Good g) : g.vs.Nodup := h.rise.imp fun h => by omega

/-- A row that has just what hangs together with a vertex, rising. -/
def IsPart (g : Gr) (v : Int) (c : List Int) : Prop := c.Pairwise (· < ·) ∧ ∀ w, w ∈ c ↔ w ∈ g.vs ∧ Reach g.es v w
theorem rise_unique {c d : List Int} (hc : c.Pairwise (· < ·)) (hd : d.Pairwise (· < ·)) (h : ∀ w, w ∈ c ↔ w ∈ d) : c = d :=
  srt_unique (hc.imp fun h => by omega) (hd.imp fun h => by omega) ((List.perm_ext_iff_of_nodup (hc.imp fun h => by omega) (hd.imp fun h => by omega)).2 h)
theorem IsPart.unique {g : Gr} {v : Int} {c d : List Int} (h : IsPart g v c) (k : IsPart g v d) : c = d := rise_unique h.1 k.1 fun w => by rw [h.2, k.2]
/-- Seen from the first vertices. -/
def Seen (g : Gr) (k : Nat) (w : Int) : Prop := ∃ u ∈ g.vs.take k, Reach g.es u w
theorem take_lt {l : List Int} (h : l.Pairwise (· < ·)) {k : Nat} (hk : k < l.length) {u : Int} : u ∈ l.take k ↔ u ∈ l ∧ u < l.getD k 0 := by
  rw [getD_lt _ _ hk]
  constructor
  · intro hu
    obtain ⟨j, hj, rfl⟩ := List.getElem_of_mem hu
    rw [List.length_take] at hj
    rw [List.getElem_take]
    exact ⟨List.getElem_mem _, List.pairwise_iff_getElem.1 h j k (by omega) hk (by omega)⟩
  · rintro ⟨hu, hlt⟩
    obtain ⟨j, hj, rfl⟩ := List.getElem_of_mem hu
    have hjk : j < k := by
      rcases Nat.lt_trichotomy j k with h1 | h1 | h1
      · exact h1
      · subst h1; omega
      · have := List.pairwise_iff_getElem.1 h k j hk hj h1; omega
    rw [List.mem_take_iff_getElem]
    exact ⟨j, by omega, rfl⟩
theorem Seen.reach {g : Gr} {k : Nat} {u w : Int} (h : Seen g k u) (hr : Reach g.es u w) : Seen g k w := by
  obtain ⟨x, hx, hy⟩ := h
  exact ⟨x, hx, hy.trans hr⟩
/-- The parts, as they come from the first vertices. -/
inductive PartsTo (g : Gr) : Nat → List (List Int) → Prop
  | zero : PartsTo g 0 []
  | seen {k : Nat} {R : List (List Int)} (h : PartsTo g k R) (hk : k < g.vs.length) (hs : Seen g k (g.vs.getD k 0)) : PartsTo g (k + 1) R
  | lead {k : Nat} {R : List (List Int)} {c : List Int} (h : PartsTo g k R) (hk : k < g.vs.length) (hs : ¬ Seen g k (g.vs.getD k 0)) (hc : IsPart g (g.vs.getD k 0) c) : PartsTo g (k + 1) (R ++ [c])
theorem PartsTo.unique {g : Gr} {k : Nat} {R R' : List (List Int)} (h : PartsTo g k R) (h' : PartsTo g k R') : R = R' := by
  induction h generalizing R' with
  | zero => cases h'; rfl
  | seen _ _ hs ih =>
    cases h' with
    | seen h2 _ _ => exact ih h2
    | lead h2 _ hs2 _ => exact absurd hs hs2
  | lead _ _ hs hc ih =>
    cases h' with
    | seen h2 _ hs2 => exact absurd hs2 hs
    | lead h2 _ _ hc2 => rw [ih h2, hc.unique hc2]
theorem PartsTo.len {g : Gr} {k : Nat} {R : List (List Int)} (h : PartsTo g k R) : R.length ≤ k := by
  induction h with
  | zero => simp
  | seen _ _ _ ih => omega
  | lead _ _ _ _ ih => simp; omega

/-! ### a search -/
structure Srch (g : Gr) (n : Nat) (v : Int) (L : List Int) (k : Nat) : Prop where
  nodup : L.Nodup
  reach : ∀ w ∈ L, Reach g.es v w
  mem : v ∈ L
  done : ∀ u ∈ L.take k, ∀ w ∈ nbr g.es u, w ∈ L
theorem Srch.all {g : Gr} {n : Nat} {v : Int} {L : List Int} (h : Srch g n v L L.length) : ∀ w, w ∈ L ↔ Reach g.es v w := by
  intro w
  refine ⟨h.reach w, fun hr => ?_⟩
  exact hr.closed (L := fun w => w ∈ L) h.mem fun u hu w hw => h.done u (by rw [List.take_length]; exact hu) w hw
theorem Srch.sub {g : Gr} (hg : Good g) {n : Nat} {v : Int} {L : List Int} {k : Nat} (h : Srch g n v L k) (hv : v ∈ g.vs) : L.length ≤ g.vs.length := by
  exact List.Nodup.length_le_of_subset h.nodup fun w hw => hg.reach hv (h.reach w hw)

end Go.Proofs.YtomfeddgeihipaaGreat.Aw

namespace Go.Proofs.YtomfeddgeihipaaGreat.Aw
open Go Go.RowKit Go.Proofs.YtomfeddgeihipaaGreat.Pl
set_option linter.unusedSimpArgs false
set_option linter.unusedVariables false

abbrev rowsL3 (rs : List (List Int)) : List LV := rs.map fun r => .sl 0 r.length (us r)

structure SrchI (g : Gr) (v : Int) (L : List Int) (k : Nat) (x : Int) (j : Nat) : Prop where
  nodup : L.Nodup
  reach : ∀ w ∈ L, Reach g.es v w
  mem : v ∈ L
  done : ∀ u ∈ L.take k, ∀ w ∈ nbr g.es u, w ∈ L
  lt : k < L.length
  at' : L.getD k 0 = x
  some : ∀ w ∈ (nbr g.es x).take j, w ∈ L
theorem Srch.start {g : Gr} {n : Nat} {v : Int} {L : List Int} {k : Nat} (h : Srch g n v L k) (hk : k < L.length) : SrchI g v L k (L.getD k 0) 0 :=
  ⟨h.nodup, h.reach, h.mem, h.done, hk, rfl, fun w hw => by simp at hw⟩
theorem SrchI.skip {g : Gr} {v : Int} {L : List Int} {k : Nat} {x : Int} {j : Nat} (h : SrchI g v L k x j) (hj : j < (nbr g.es x).length) (hw : (nbr g.es x).getD j 0 ∈ L) : SrchI g v L k x (j + 1) := by
  refine ⟨h.nodup, h.reach, h.mem, h.done, h.lt, h.at', fun w hw2 => ?_⟩
  rw [List.take_succ_eq_append_getElem hj, List.mem_append, List.mem_singleton] at hw2
  rcases hw2 with hw2 | rfl
  · exact h.some w hw2
  · rwa [getD_lt _ _ hj] at hw
theorem SrchI.push {g : Gr} {v : Int} {L : List Int} {k : Nat} {x : Int} {j : Nat} (h : SrchI g v L k x j) (hj : j < (nbr g.es x).length) (hw : (nbr g.es x).getD j 0 ∉ L) : SrchI g v (L ++ [(nbr g.es x).getD j 0]) k x (j + 1) := by
  have hx : x ∈ L := by rw [← h.at', getD_lt _ _ h.lt]; exact List.getElem_mem _
  refine ⟨?_, fun w hw2 => ?_, List.mem_append_left _ h.mem, fun u hu w hw2 => ?_, ?_, ?_, fun w hw2 => ?_⟩
  · rw [List.nodup_append]
    refine ⟨h.nodup, by simp, fun a ha b hb => ?_⟩
    rw [List.mem_singleton] at hb
    rintro rfl
    exact hw (hb ▸ ha)
  · rw [List.mem_append, List.mem_singleton] at hw2
    rcases hw2 with hw2 | rfl
    · exact h.reach w hw2
    · exact .step (h.reach x hx) (by rw [getD_lt _ _ hj]; exact List.getElem_mem _)
  · rw [List.take_append_of_le_length (by have := h.lt; omega)] at hu
    exact List.mem_append_left _ (h.done u hu w hw2)
  · have := h.lt; simp; omega
  · rw [← h.at']
    have := h.lt
    simp [List.getD_eq_getElem?_getD, List.getElem?_append_left this]
  · rw [List.take_succ_eq_append_getElem hj, List.mem_append, List.mem_singleton] at hw2
    rw [getD_lt _ _ hj]
    rcases hw2 with hw2 | rfl
    · exact List.mem_append_left _ (h.some w hw2)
    · exact List.mem_append_right _ (List.mem_singleton.2 rfl)
theorem SrchI.len {g : Gr} (hg : Good g) {v : Int} {L : List Int} {k : Nat} {x : Int} {j : Nat} (h : SrchI g v L k x j) (hv : v ∈ g.vs) : L.length ≤ g.vs.length :=
  List.Nodup.length_le_of_subset h.nodup fun w hw => hg.reach hv (h.reach w hw)

/-- Which numbers a map of 1's has. -/
def SeenI (es : List (List Int × LV)) (P : Int → Prop) : Prop := ∀ v, (P v → (mget es [v]).getD (i 0) = i 1) ∧ (¬ P v → (mget es [v]).getD (i 0) = i 0)
theorem SeenI.step {es : List (List Int × LV)} {P P' : Int → Prop} (h : SeenI es P) (w : Int) (hp : ∀ v, P' v ↔ P v ∨ v = w) : SeenI (mset es [w] (i 1)) P' := by
  intro v
  rw [mget_mset]
  by_cases hv : v = w
  · subst hv
    simp only [if_true, Option.getD_some]
    exact ⟨fun _ => by trivial, fun h1 => absurd ((hp v).2 (.inr rfl)) h1⟩
  · rw [if_neg (by simpa using hv), hp]
    exact ⟨fun h1 => (h v).1 (h1.resolve_right hv), fun h1 => (h v).2 fun h2 => h1 (.inl h2)⟩
theorem SeenI.congr {es : List (List Int × LV)} {P P' : Int → Prop} (h : SeenI es P) (hp : ∀ v, P' v ↔ P v) : SeenI es P' := fun v => by rw [hp]; exact h v

def PtF (m ms : Nat) (es : List (List Int × LV)) (n : Nat) (g : Gr) (st : St) (j : Nat) (P : Int → Prop) (fr : Frm) (st2 : St) : Prop :=
  fr 4 = .mp m ∧ fr 5 = .mp ms ∧ fr 16 = .sl 0 g.vs.length (us g.vs) ∧ fr 17 = i g.vs.length ∧ fr 18 = i j ∧ (m < ms ∧ ms < st2.next ∧ st.next ≤ m) ∧ st2.H m = .map false [.u32] es ∧ Keeps st st2 ∧ (∃ es2, st2.H ms = .map false [.u32] es2 ∧ SeenI es2 P) ∧
    ∃ t R, fr 3 = .sl t R.length (rowsL3 R) ∧ PartsTo g j R ∧ t ≠ 0 ∧ st.next ≤ t ∧ t < st2.next ∧ st2.H t = .own 35 1 R.length
def PtL (m ms : Nat) (es : List (List Int × LV)) (n : Nat) (g : Gr) (st : St) (j : Nat) (v : Int) (L : List Int) (fr : Frm) (st2 : St) : Prop :=
  PtF m ms es n g st j (fun w => Seen g j w ∨ w ∈ L) fr st2 ∧ ∃ q, fr 8 = .ms q 0 L.length ∧ st2.H q = .box 41 1 (us L) ∧ st.next ≤ q ∧ q < st2.next

theorem PtL.fr {m ms : Nat} {es : List (List Int × LV)} {n : Nat} {g : Gr} {st : St} {j : Nat} {v : Int} {L : List Int} {fr fr' : Frm} {st2 : St} (h : PtL m ms es n g st j v L fr st2) (h3 : fr' 3 = fr 3) (h4 : fr' 4 = fr 4) (h5 : fr' 5 = fr 5) (h8 : fr' 8 = fr 8) (h16 : fr' 16 = fr 16) (h17 : fr' 17 = fr 17) (h18 : fr' 18 = fr 18) : PtL m ms es n g st j v L fr' st2 := by
  obtain ⟨⟨f4, f5, f16, f17, f18, a, b, c, d, t, R, f3, r⟩, q, f8, r2⟩ := h
  exact ⟨⟨h4.trans f4, h5.trans f5, h16.trans f16, h17.trans f17, h18.trans f18, a, b, c, d, t, R, h3.trans f3, r⟩, q, h8.trans f8, r2⟩

end Go.Proofs.YtomfeddgeihipaaGreat.Aw

namespace Go.Proofs.YtomfeddgeihipaaGreat.Aw
open Go Go.RowKit Go.Proofs.YtomfeddgeihipaaGreat.Pl
set_option linter.unusedSimpArgs false
set_option linter.unusedVariables false

theorem acalls_sl0 {P : Program} {f : FuncId} {args : List LV} {st : St} {Q : LV → St → Prop} (h : ACalls P f args st fun r st' => ∃ t n cs, r = .sl t n cs ∧ Q (.sl 0 n cs) st') : ACalls P f args st Q := by
  refine ⟨h.1, fun w g vs hi hr => (h.2 w g vs hi hr).mono ?_⟩
  rintro x w' ⟨v, r, st', g', rfl, ⟨t, n, cs, rfl, hq⟩, hrep, hi', he⟩
  refine ⟨v, _, st', g', rfl, hq, ?_, hi', he⟩
  simp only [Rep] at hrep ⊢
  obtain ⟨A, cap, h1, h2, h3, h4, h5⟩ := hrep
  exact ⟨A, cap, h1, h2, h3, fun h => absurd rfl h, h5⟩

/-- Which numbers a map of truths has. -/
def InI (es : List (List Int × LV)) (S : List Int) : Prop := ∀ v, (mget es [v]).getD (bb false) = bb (decide (v ∈ S))
theorem InI.step {es : List (List Int × LV)} {S : List Int} (h : InI es S) (w : Int) : InI (mset es [w] (bb true)) (S ++ [w]) := by
  intro v
  rw [mget_mset]
  by_cases hv : v = w
  · subst hv; simp
  · rw [if_neg (by simpa using hv), h v]; simp [hv]
theorem InI.congr {es : List (List Int × LV)} {S S' : List Int} (h : InI es S) (hs : ∀ v, v ∈ S' ↔ v ∈ S) : InI es S' := fun v => by
  rw [h v, show decide (v ∈ S') = decide (v ∈ S) from decide_eq_decide.2 (hs v)]

structure Flood (g : Gr) (v : Int) (S : List Int) : Prop where
  nodup : S.Nodup
  mem : v ∈ S
  reach : ∀ w ∈ S, Reach g.es v w
theorem Flood.len {g : Gr} (hg : Good g) {v : Int} (hv : v ∈ g.vs) {S : List Int} (h : Flood g v S) : S.length ≤ g.vs.length :=
  List.Nodup.length_le_of_subset h.nodup fun w hw => hg.reach hv (h.reach w hw)
theorem Flood.push {g : Gr} {v : Int} {S : List Int} (h : Flood g v S) {x : Ed} (hx : x ∈ g.es) {u w : Int} (hu : u ∈ S) (hw : w ∉ S) (hxw : (x.a = u ∧ x.b = w) ∨ (x.b = u ∧ x.a = w)) : Flood g v (S ++ [w]) := by
  refine ⟨?_, List.mem_append_left _ h.mem, fun z hz => ?_⟩
  · rw [List.nodup_append]
    refine ⟨h.nodup, by simp, fun a ha b hb => ?_⟩
    rw [List.mem_singleton] at hb
    rintro rfl
    exact hw (hb ▸ ha)
  · rw [List.mem_append, List.mem_singleton] at hz
    rcases hz with hz | rfl
    · exact h.reach z hz
    · exact .step (h.reach u hu) (mem_nbr.2 ⟨x, hx, hxw⟩)
def Even (es : List Ed) (S : List Int) : Prop := ∀ x ∈ es, (x.a ∈ S ↔ x.b ∈ S)
theorem Flood.part {g : Gr} (hg : Good g) {v : Int} {S : List Int} (h : Flood g v S) (he : Even g.es S) : IsPart g v (g.vs.filter fun w => decide (w ∈ S)) := by
  refine ⟨hg.rise.filter _, fun w => ?_⟩
  rw [List.mem_filter, decide_eq_true_eq]
  refine ⟨fun hw => ⟨hw.1, h.reach w hw.2⟩, fun hw => ⟨hw.1, ?_⟩⟩
  refine hw.2.closed (L := fun w => w ∈ S) h.mem fun u hu w hw => ?_
  obtain ⟨x, hx, ⟨rfl, rfl⟩ | ⟨rfl, rfl⟩⟩ := mem_nbr.1 hw
  · exact (he x hx).1 hu
  · exact (he x hx).2 hu

def RpI (ms : Nat) (g : Gr) (st : St) (S : List Int) (fr : Frm) (st2 : St) : Prop :=
  fr 2 = .pt st.next 0 ∧ fr 5 = .mp ms ∧ st.next < ms ∧ ms < st2.next ∧ Keeps st st2 ∧ st2.H st.next = .box 38 2 (grL g) ∧ ∃ es, st2.H ms = .map false [.u32] es ∧ InI es S
theorem RpI.fr {ms : Nat} {g : Gr} {st : St} {S : List Int} {fr fr' : Frm} {st2 : St} (h : RpI ms g st S fr st2) (h2 : fr' 2 = fr 2) (h5 : fr' 5 = fr 5) : RpI ms g st S fr' st2 :=
  ⟨h2.trans h.1, h5.trans h.2.1, h.2.2⟩

theorem ref_Part (g : Gr) (v : Int) (st : St) (hg : Good g) (hv : g.vs.length ≤ 1000) (he : g.es.length ≤ 1000) (hvin : v ∈ g.vs) :
    ACalls Tryz.prog 106 [.ag (grL g), u v] st fun r st' => (∃ c, r = .sl 0 c.length (us c) ∧ IsPart g v c) ∧ Keeps st st' := by
  refine acalls_sl0 ?_
  have hel := eds_length g.es
  refine acalls_of_body tabOk Tryz.func106 rfl rfl Tryz.ntmps106 (rs := [.tmp 4]) rfl (by simp) ?_
  (repeat' (first | refine awp_seq ?_ | refine awp_block ?_ | ((first | refine awp_skip ?_ | refine awp_exit ?_); simp only [ak, reduceIte]) | (refine awp_ret ?_; simp only [ak, reduceIte]; simp []) | (refine awp_cond ?_; simp []; (try with_reducible refine ⟨?_, ?_⟩) <;> (try with_reducible intro hc) <;> try (exfalso; omega)) | ((first | (refine w_e [] ?_; intro J hJ; simp only []) | (refine w_q ?_; intro J hJ) | refine e_go ?_); simp []; (repeat refine ca ?_); (try ((try with_reducible refine ⟨?_, ?_⟩) <;> (try with_reducible intro hnil) <;> refine hJ _ _ ?_ <;> clear hJ J <;> simp only [ak, reduceIte] <;> try subst hnil)))))
  obtain ⟨ms, hms⟩ : ∃ ms, ms = st.next + 1 := ⟨_, rfl⟩
  refine awp_loop (fun z fr st2 => ∃ (gr : Bool) (S : List Int), z = (if gr = true then g.vs.length + 1 - S.length else 0) ∧ fr 6 = bb gr ∧ Flood g v S ∧ (gr = false → Even g.es S) ∧ RpI ms g st S fr st2) g.vs.length ?_ ?_
  · refine ⟨true, [v], by simp, by simp, ⟨by simp, by simp, fun w hw => ?_⟩, fun h => absurd h (by simp), by simp, by simp [hms], by omega, by simp [hms], ?_, by simp, _, by simp [hms]; rfl, fun w => ?_⟩
    · rw [List.mem_singleton] at hw; subst hw; exact .refl
    · (repeat (first | exact Keeps.refl _ | (refine Keeps.trans ?_ (Keeps.new _ _)) | (refine Keeps.set ?_ (by omega) _)))
    · by_cases hw : w = v
      · subst hw; simp [mset, mget]
      · simp [mset, mget, hw]
  rintro z fr st2 ⟨gr, S, rfl, f6, hF, hE, hI⟩ JJ hJJ
  cases gr
  · clear hJJ
    obtain ⟨f2, f5, hm1, hm2, hkp, hG, es, hM, hIn⟩ := hI
    have hpt := hF.part hg (hE rfl)
    (repeat' (first | refine awp_seq ?_ | refine awp_block ?_ | ((first | refine awp_skip ?_ | refine awp_exit ?_); simp only [ak, reduceIte]) | (refine awp_ret ?_; simp only [ak, reduceIte]; simp [f6, f2, hG]) | (refine awp_cond ?_; simp [f6, f2, hG]; (try with_reducible refine ⟨?_, ?_⟩) <;> (try with_reducible intro hc) <;> try (exfalso; omega)) | ((first | (refine w_e [] ?_; intro J hJ; simp only []) | (refine w_q ?_; intro J hJ) | refine e_go ?_); simp [f6, f2, hG]; (repeat refine ca ?_); (try ((try with_reducible refine ⟨?_, ?_⟩) <;> (try with_reducible intro hnil) <;> refine hJ _ _ ?_ <;> clear hJ J <;> simp only [ak, reduceIte] <;> try subst hnil)))))
    refine awp_own 9 41 1 (by simp) ?_
    have hqq : ∀ k, (g.vs.take (k + 1)).filter (fun w => decide (w ∈ S)) = if k < g.vs.length then (if g.vs.getD k 0 ∈ S then (g.vs.take k).filter (fun w => decide (w ∈ S)) ++ [g.vs.getD k 0] else (g.vs.take k).filter (fun w => decide (w ∈ S))) else g.vs.filter (fun w => decide (w ∈ S)) := by
      intro k
      by_cases hk : k < g.vs.length
      · rw [if_pos hk, List.take_succ_eq_append_getElem hk, List.filter_append, getD_lt _ _ hk]
        by_cases h : g.vs[k] ∈ S <;> simp [h]
      · rw [if_neg hk, List.take_of_length_le (by omega)]
    refine awp_loop (fun z fr st3 => ∃ k : Nat, k ≤ g.vs.length ∧ z = g.vs.length - k ∧ fr 5 = .mp ms ∧ fr 40 = .sl 0 g.vs.length (us g.vs) ∧ fr 41 = i g.vs.length ∧ fr 42 = i k ∧ st3.H ms = .map false [.u32] es ∧ ms < st3.next ∧ ∃ t, fr 9 = .sl t ((g.vs.take k).filter fun w => decide (w ∈ S)).length (us ((g.vs.take k).filter fun w => decide (w ∈ S))) ∧ OwnAt t st ((g.vs.take k).filter fun w => decide (w ∈ S)) st3) g.vs.length ?_ ?_
    · have a1 : ¬ ms = st2.next := by omega
      exact ⟨0, by omega, by omega, by simp [f5], by simp, by simp, by simp, by simp [a1, hM], by simp; omega, st2.next, by simp, by omega, by have := hkp.next; omega, by simp, by simp, hkp.trans (Keeps.new _ _)⟩
    clear f2 f5 f6 hM hkp hG fr
    rintro z fr st3 ⟨k, hk, rfl, f5, f40, f41, f42, hM, hm3, t, f9, ht0, htl, htn, htH, hkp⟩ JJ hJJ
    by_cases hlt : k < g.vs.length
    rotate_left
    · clear hJJ
      have hk' : k = g.vs.length := by omega
      rw [hk', List.take_length] at f9
      (repeat' (first | refine awp_seq ?_ | refine awp_block ?_ | ((first | refine awp_skip ?_ | refine awp_exit ?_); simp only [ak, reduceIte]) | (refine awp_ret ?_; simp only [ak, reduceIte]; simp [f9, f41, f42, hlt]) | (refine awp_cond ?_; simp [f9, f41, f42, hlt]; (try with_reducible refine ⟨?_, ?_⟩) <;> (try with_reducible intro hc) <;> try (exfalso; omega)) | ((first | (refine w_e [] ?_; intro J hJ; simp only []) | (refine w_q ?_; intro J hJ) | refine e_go ?_); simp [f9, f41, f42, hlt]; (repeat refine ca ?_); (try ((try with_reducible refine ⟨?_, ?_⟩) <;> (try with_reducible intro hnil) <;> refine hJ _ _ ?_ <;> clear hJ J <;> simp only [ak, reduceIte] <;> try subst hnil)))))
      exact ⟨t, _, _, ⟨rfl, rfl, rfl⟩, ⟨_, ⟨rfl, rfl⟩, hpt⟩, hkp⟩
    have hd := us_drop_getD g.vs k hlt
    have hw := nat_add_one k (by omega)
    have hst := hqq k
    rw [if_pos hlt] at hst
    have hle := List.length_filter_le (fun w => decide (w ∈ S)) (g.vs.take k)
    rw [List.length_take] at hle
    generalize hx : g.vs.getD k 0 = x at *
    generalize hFF : (g.vs.take k).filter (fun w => decide (w ∈ S)) = F at *
    have hIx := hIn x
    have ht2 : ¬ t = st3.next := by omega
    by_cases hxS : x ∈ S
    · rw [if_pos hxS] at hst
      rw [decide_eq_true hxS] at hIx
      (repeat' (first | refine awp_seq ?_ | refine awp_block ?_ | ((first | refine awp_skip ?_ | refine awp_exit ?_); simp only [ak, reduceIte]) | (refine awp_ret ?_; simp only [ak, reduceIte]; simp [f5, f9, f40, f41, f42, hlt, hd, hw, hM, hIx, htH, ht0, ht2]) | (refine awp_cond ?_; simp [f5, f9, f40, f41, f42, hlt, hd, hw, hM, hIx, htH, ht0, ht2]; (try with_reducible refine ⟨?_, ?_⟩) <;> (try with_reducible intro hc) <;> try (exfalso; omega)) | ((first | (refine w_e [] ?_; intro J hJ; simp only []) | (refine w_q ?_; intro J hJ) | refine e_go ?_); simp [f5, f9, f40, f41, f42, hlt, hd, hw, hM, hIx, htH, ht0, ht2]; (repeat refine ca ?_); (try ((try with_reducible refine ⟨?_, ?_⟩) <;> (try with_reducible intro hnil) <;> refine hJ _ _ ?_ <;> clear hJ J <;> simp only [ak, reduceIte] <;> try subst hnil)))))
      have a1 : ¬ ms = st3.next := by omega
      have a2 : ¬ ms = st3.next + 1 := by omega
      have a3 : ¬ ms = t := fun h => by rw [h, htH] at hM; cases hM
      exact hJJ (g.vs.length - (k + 1)) _ _ (by omega) ⟨k + 1, by omega, rfl, by simp [f5], by simp [f40], by simp [f41], by simp, by simp [a1, a2, a3, hM], by simp; omega, st3.next + 1, by rw [hst]; simp, by omega, by omega, by simp, by rw [hst]; simp, (by repeat (first | exact hkp | (refine Keeps.trans ?_ (Keeps.new _ _)) | (refine Keeps.set ?_ (by have := hkp.next; omega) _)))⟩
    · rw [if_neg hxS] at hst
      rw [decide_eq_false hxS] at hIx
      (repeat' (first | refine awp_seq ?_ | refine awp_block ?_ | ((first | refine awp_skip ?_ | refine awp_exit ?_); simp only [ak, reduceIte]) | (refine awp_ret ?_; simp only [ak, reduceIte]; simp [f5, f9, f40, f41, f42, hlt, hd, hw, hM, hIx]) | (refine awp_cond ?_; simp [f5, f9, f40, f41, f42, hlt, hd, hw, hM, hIx]; (try with_reducible refine ⟨?_, ?_⟩) <;> (try with_reducible intro hc) <;> try (exfalso; omega)) | ((first | (refine w_e [] ?_; intro J hJ; simp only []) | (refine w_q ?_; intro J hJ) | refine e_go ?_); simp [f5, f9, f40, f41, f42, hlt, hd, hw, hM, hIx]; (repeat refine ca ?_); (try ((try with_reducible refine ⟨?_, ?_⟩) <;> (try with_reducible intro hnil) <;> refine hJ _ _ ?_ <;> clear hJ J <;> simp only [ak, reduceIte] <;> try subst hnil)))))
      exact hJJ (g.vs.length - (k + 1)) _ _ (by omega) ⟨k + 1, by omega, rfl, by simp [f5], by simp [f40], by simp [f41], by simp, hM, hm3, t, by rw [hst]; simp [f9], ht0, htl, htn, by rw [hst]; exact htH, hkp⟩
  have hSl := hF.len hg hvin
  obtain ⟨f2, f5, hm1, hm2, hkp, hG, es, hM, hIn⟩ := id hI
  (repeat' (first | refine awp_seq ?_ | refine awp_block ?_ | ((first | refine awp_skip ?_ | refine awp_exit ?_); simp only [ak, reduceIte]) | (refine awp_ret ?_; simp only [ak, reduceIte]; simp [f6, f2, hG]) | (refine awp_cond ?_; simp [f6, f2, hG]; (try with_reducible refine ⟨?_, ?_⟩) <;> (try with_reducible intro hc) <;> try (exfalso; omega)) | ((first | (refine w_e [] ?_; intro J hJ; simp only []) | (refine w_q ?_; intro J hJ) | refine e_go ?_); simp [f6, f2, hG]; (repeat refine ca ?_); (try ((try with_reducible refine ⟨?_, ?_⟩) <;> (try with_reducible intro hnil) <;> refine hJ _ _ ?_ <;> clear hJ J <;> simp only [ak, reduceIte] <;> try subst hnil)))))
  refine awp_loop (fun z fr st2 => ∃ (k : Nat) (gr : Bool) (S' : List Int), k ≤ g.es.length ∧ z = g.es.length - k ∧ fr 6 = bb gr ∧ fr 17 = .sl 0 g.es.length (eds g.es) ∧ fr 18 = i g.es.length ∧ fr 19 = i k ∧ Flood g v S' ∧ (gr = false → Even (g.es.take k) S') ∧ (gr = true → S.length < S'.length) ∧ S.length ≤ S'.length ∧ RpI ms g st S' fr st2) g.es.length ?_ ?_
  · exact ⟨0, false, S, by omega, by omega, by simp, by simp, by simp, by simp, hF, fun _ x hx => by simp at hx, fun h => absurd h (by simp), Nat.le_refl _, hI.fr (by simp) (by simp)⟩
  clear f2 f5 f6 hI hE hF hm1 hm2 hkp hG hM hIn es fr st2
  rintro z fr st2 ⟨k, gr, S', hk, rfl, f6, f17, f18, f19, hF, hE, hG2, hSS, hI⟩ J2 hJ2
  have hSl2 := hF.len hg hvin
  obtain ⟨f2, f5, hm1, hm2, hkp, hG, es, hM, hIn⟩ := id hI
  by_cases hlt : k < g.es.length
  rotate_left
  · clear hJ2
    have hk' : k = g.es.length := by omega
    rw [hk', List.take_length] at hE
    (repeat' (first | refine awp_seq ?_ | refine awp_block ?_ | ((first | refine awp_skip ?_ | refine awp_exit ?_); simp only [ak, reduceIte]) | (refine awp_ret ?_; simp only [ak, reduceIte]; simp [f18, f19, hlt]) | (refine awp_cond ?_; simp [f18, f19, hlt]; (try with_reducible refine ⟨?_, ?_⟩) <;> (try with_reducible intro hc) <;> try (exfalso; omega)) | ((first | (refine w_e [] ?_; intro J hJ; simp only []) | (refine w_q ?_; intro J hJ) | refine e_go ?_); simp [f18, f19, hlt]; (repeat refine ca ?_); (try ((try with_reducible refine ⟨?_, ?_⟩) <;> (try with_reducible intro hnil) <;> refine hJ _ _ ?_ <;> clear hJ J <;> simp only [ak, reduceIte] <;> try subst hnil)))))
    refine hJJ (if gr = true then g.vs.length + 1 - S'.length else 0) _ _ ?_ ⟨gr, S', rfl, by simp [f6], hF, hE, hI.fr (by simp) (by simp)⟩
    cases gr
    · simp; omega
    · have := hG2 rfl; simp; omega
  clear hJJ
  have hd := eds_drop g.es k hlt
  have hw := nat_add_one k (by omega)
  have hk3 : k * 3 < g.es.length * 3 := by omega
  have hxin : g.es.getD k ed0 ∈ g.es := by rw [List.getD_eq_getElem?_getD, List.getElem?_eq_getElem hlt]; exact List.getElem_mem hlt
  have hEn : (gr = false → Even (g.es.take k) S') → ((g.es.getD k ed0).a ∈ S' ↔ (g.es.getD k ed0).b ∈ S') → (gr = false → Even (g.es.take (k + 1)) S') := by
    intro h1 h2 h3 y hy
    rw [List.take_succ_eq_append_getElem hlt, List.mem_append, List.mem_singleton] at hy
    rcases hy with hy | rfl
    · exact h1 h3 y hy
    · rw [List.getD_eq_getElem?_getD, List.getElem?_eq_getElem hlt] at h2; exact h2
  generalize hx : g.es.getD k ed0 = x at *
  obtain ⟨id, a, b⟩ := x
  simp only at hd hEn
  have hIa := hIn a
  have hIb := hIn b
  have a1 : ¬ ms = st2.next := by omega
  have a2 : ¬ st2.next = ms := by omega
  have a3 : ¬ st.next = st2.next := by omega
  have a4 : ¬ st.next = ms := by omega
  by_cases hab : (a ∈ S' ↔ b ∈ S')
  · have hdd : decide (a ∈ S') = decide (b ∈ S') := decide_eq_decide.2 hab
    rw [hdd] at hIa
    (repeat' (first | refine awp_seq ?_ | refine awp_block ?_ | ((first | refine awp_skip ?_ | refine awp_exit ?_); simp only [ak, reduceIte]) | (refine awp_ret ?_; simp only [ak, reduceIte]; simp [f5, f17, f18, f19, hlt, hd, hel, hw, hM, hIa, hIb, a1, a2]) | (refine awp_cond ?_; simp [f5, f17, f18, f19, hlt, hd, hel, hw, hM, hIa, hIb, a1, a2]; (try with_reducible refine ⟨?_, ?_⟩) <;> (try with_reducible intro hc) <;> try (exfalso; omega)) | ((first | (refine w_e [] ?_; intro J hJ; simp only []) | (refine w_q ?_; intro J hJ) | refine e_go ?_); simp [f5, f17, f18, f19, hlt, hd, hel, hw, hM, hIa, hIb, a1, a2]; (repeat refine ca ?_); (try ((try with_reducible refine ⟨?_, ?_⟩) <;> (try with_reducible intro hnil) <;> refine hJ _ _ ?_ <;> clear hJ J <;> simp only [ak, reduceIte] <;> try subst hnil)))))
    exact hJ2 (g.es.length - (k + 1)) _ _ (by omega) ⟨k + 1, gr, S', by omega, rfl, by simp [f6], by simp [f17], by simp [f18], by simp, hF, hEn hE hab, hG2, hSS, by simp [f2], by simp [f5], hm1, by simp; omega, (by repeat (first | exact hkp | (refine Keeps.trans ?_ (Keeps.new _ _)) | (refine Keeps.set ?_ (by have := hkp.next; omega) _))), by simp [a3, hG], es, by simp [a1, hM], hIn⟩
  · have hdd : ¬ decide (a ∈ S') = decide (b ∈ S') := fun h => hab (decide_eq_decide.1 h)
    have hIn2 := (hIn.step a).step b
    obtain ⟨S2, hS2, hF2, hl2⟩ : ∃ S2, (∀ z, z ∈ S2 ↔ z ∈ S' ++ [a] ++ [b]) ∧ Flood g v S2 ∧ S'.length < S2.length := by
      by_cases ha : a ∈ S'
      · have hb : b ∉ S' := fun h => hab ⟨fun _ => h, fun _ => ha⟩
        refine ⟨S' ++ [b], fun z => ?_, hF.push hxin ha hb (.inl ⟨rfl, rfl⟩), by simp⟩
        simp only [List.mem_append, List.mem_singleton]
        exact ⟨fun h => h.elim (fun h => .inl (.inl h)) .inr, fun h => h.elim (fun h => h.elim .inl (fun h => .inl (h ▸ ha))) .inr⟩
      · have hb : b ∈ S' := Classical.byContradiction fun h => hab ⟨fun h1 => absurd h1 ha, fun h1 => absurd h1 h⟩
        refine ⟨S' ++ [a], fun z => ?_, hF.push hxin hb ha (.inr ⟨rfl, rfl⟩), by simp⟩
        simp only [List.mem_append, List.mem_singleton]
        exact ⟨fun h => h.elim (fun h => .inl (.inl h)) (fun h => .inl (.inr h)), fun h => h.elim (fun h => h.elim .inl .inr) (fun h => .inl (h ▸ hb))⟩
    have hIn3 := hIn2.congr hS2
    (repeat' (first | refine awp_seq ?_ | refine awp_block ?_ | ((first | refine awp_skip ?_ | refine awp_exit ?_); simp only [ak, reduceIte]) | (refine awp_ret ?_; simp only [ak, reduceIte]; simp [f5, f17, f18, f19, hlt, hd, hel, hw, hM, hIa, hIb, hdd, a1, a2]) | (refine awp_cond ?_; simp [f5, f17, f18, f19, hlt, hd, hel, hw, hM, hIa, hIb, hdd, a1, a2]; (try with_reducible refine ⟨?_, ?_⟩) <;> (try with_reducible intro hc) <;> try (exfalso; omega)) | ((first | (refine w_e [] ?_; intro J hJ; simp only []) | (refine w_q ?_; intro J hJ) | refine e_go ?_); simp [f5, f17, f18, f19, hlt, hd, hel, hw, hM, hIa, hIb, hdd, a1, a2]; (repeat refine ca ?_); (try ((try with_reducible refine ⟨?_, ?_⟩) <;> (try with_reducible intro hnil) <;> refine hJ _ _ ?_ <;> clear hJ J <;> simp only [ak, reduceIte] <;> try subst hnil)))))
    exact hJ2 (g.es.length - (k + 1)) _ _ (by omega) ⟨k + 1, true, S2, by omega, rfl, by simp, by simp [f17], by simp [f18], by simp, hF2, fun h => absurd h (by simp), fun _ => by omega, by omega, by simp [f2], by simp [f5], hm1, by simp; omega, (by repeat (first | exact hkp | (refine Keeps.trans ?_ (Keeps.new _ _)) | (refine Keeps.set ?_ (by have := hkp.next; omega) _))), by simp [a3, a4, hG], _, by simp, hIn3⟩

end Go.Proofs.YtomfeddgeihipaaGreat.Aw

namespace Go.Proofs.YtomfeddgeihipaaGreat.Aw
open Go Go.RowKit Go.Proofs.YtomfeddgeihipaaGreat.Pl
set_option linter.unusedSimpArgs false
set_option linter.unusedVariables false

theorem IsPart.seen {g : Gr} (hg : Good g) {k : Nat} (hk : k < g.vs.length) {x : Int} {c : List Int} (h : IsPart g (g.vs.getD k 0) (x :: c)) : Seen g k (g.vs.getD k 0) ↔ x ≠ g.vs.getD k 0 := by
  have hvin : g.vs.getD k 0 ∈ g.vs := by rw [getD_lt _ _ hk]; exact List.getElem_mem hk
  obtain ⟨h1, h2⟩ := h
  have hmin : ∀ w ∈ x :: c, x ≤ w := by
    intro w hw
    rw [List.mem_cons] at hw
    rcases hw with rfl | hw
    · omega
    · have := (List.pairwise_cons.1 h1).1 w hw; omega
  have hxin := (h2 x).1 (List.mem_cons_self ..)
  constructor
  · rintro ⟨u, hu, hr⟩ he
    obtain ⟨k1, k2⟩ := (take_lt hg.rise hk).1 hu
    have := hmin u ((h2 u).2 ⟨k1, hr.symm⟩)
    omega
  · intro hne
    have := hmin _ ((h2 _).2 ⟨hvin, .refl⟩)
    exact ⟨x, (take_lt hg.rise hk).2 ⟨hxin.1, by omega⟩, hxin.2.symm⟩

/-- An edge's place. -/
def fe (l : List Ed) (id : Int) : Int := if l.any (fun x => decide (x.id = id)) then (l.findIdx (fun x => decide (x.id = id)) : Int) else -1
theorem fe_some {l : List Ed} {id : Int} {k : Nat} (hk : k < l.length) (h : (l.getD k ed0).id = id) (hn : ∀ j, j < k → (l.getD j ed0).id ≠ id) : fe l id = k := by
  have hg : ∀ j (hj : j < l.length), l.getD j ed0 = l[j] := fun j hj => by rw [List.getD_eq_getElem?_getD, List.getElem?_eq_getElem hj]; rfl
  rw [hg k hk] at h
  unfold fe
  rw [if_pos (List.any_eq_true.2 ⟨_, List.getElem_mem hk, by simpa using h⟩)]
  congr 1
  refine (List.findIdx_eq hk).2 ⟨by simpa using h, fun j hj => ?_⟩
  have := hn j hj
  rw [hg j (by omega)] at this
  simpa using this
theorem fe_none {l : List Ed} {id : Int} (hn : ∀ j, j < l.length → (l.getD j ed0).id ≠ id) : fe l id = -1 := by
  unfold fe
  rw [if_neg]
  intro h
  obtain ⟨x, hx, hp⟩ := List.any_eq_true.1 h
  obtain ⟨j, hj, rfl⟩ := List.getElem_of_mem hx
  have := hn j hj
  rw [List.getD_eq_getElem?_getD, List.getElem?_eq_getElem hj] at this
  exact this (by simpa using hp)

theorem ref_Find (g : Gr) (id : Int) (st : St) (he : g.es.length ≤ 1000) :
    ACalls Tryz.prog 110 [.ag (grL g), u id] st fun r st' => r = i (fe g.es id) ∧ Keeps st st' := by
  obtain ⟨vs, l⟩ := g
  simp only at he ⊢
  have hel := eds_length l
  refine acalls_of_body tabOk Tryz.func110 rfl rfl Tryz.ntmps110 (rs := [.tmp 4]) rfl (by simp) ?_
  (repeat' (first | refine awp_seq ?_ | refine awp_block ?_ | ((first | refine awp_skip ?_ | refine awp_exit ?_); simp only [ak, reduceIte]) | (refine awp_ret ?_; simp only [ak, reduceIte]; simp []) | (refine awp_cond ?_; simp []; (try with_reducible refine ⟨?_, ?_⟩) <;> (try with_reducible intro hc) <;> try (exfalso; omega)) | ((first | (refine w_e [] ?_; intro J hJ; simp only []) | (refine w_q ?_; intro J hJ) | refine e_go ?_); simp []; (repeat refine ca ?_); (try ((try with_reducible refine ⟨?_, ?_⟩) <;> (try with_reducible intro hnil) <;> refine hJ _ _ ?_ <;> clear hJ J <;> simp only [ak, reduceIte] <;> try subst hnil)))))
  refine awp_loop (fun n fr st2 => ∃ k : Nat, k ≤ l.length ∧ n = l.length - k ∧ fr 1 = u id ∧ fr 8 = .sl 0 l.length (eds l) ∧ fr 9 = i l.length ∧ fr 10 = i k ∧ Keeps st st2 ∧ ∀ j, j < k → (l.getD j ed0).id ≠ id) l.length ?_ ?_
  · exact ⟨0, by omega, by omega, by simp, by simp, by simp, by simp, Keeps.new _ _, fun j hj => by omega⟩
  rintro n fr st2 ⟨k, hk, rfl, f1, f8, f9, f10, hkp, hno⟩ JJ hJJ
  by_cases hlt : k < l.length
  rotate_left
  · clear hJJ
    have hr := fe_none (l := l) (id := id) fun j hj => hno j (by omega)
    (repeat' (first | refine awp_seq ?_ | refine awp_block ?_ | ((first | refine awp_skip ?_ | refine awp_exit ?_); simp only [ak, reduceIte]) | (refine awp_ret ?_; simp only [ak, reduceIte]; simp [f9, f10, hlt, hr]) | (refine awp_cond ?_; simp [f9, f10, hlt, hr]; (try with_reducible refine ⟨?_, ?_⟩) <;> (try with_reducible intro hc) <;> try (exfalso; omega)) | ((first | (refine w_e [] ?_; intro J hJ; simp only []) | (refine w_q ?_; intro J hJ) | refine e_go ?_); simp [f9, f10, hlt, hr]; (repeat refine ca ?_); (try ((try with_reducible refine ⟨?_, ?_⟩) <;> (try with_reducible intro hnil) <;> refine hJ _ _ ?_ <;> clear hJ J <;> simp only [ak, reduceIte] <;> try subst hnil)))))
    exact hkp
  have hd := eds_drop l k hlt
  have hw := nat_add_one k (by omega)
  have hk3 : k * 3 < l.length * 3 := by omega
  have hso := fun h => fe_some (id := id) hlt h hno
  have hnx : (l.getD k ed0).id ≠ id → ∀ j, j < k + 1 → (l.getD j ed0).id ≠ id := fun h j hj => by
    rcases Nat.lt_or_ge j k with h1 | h1
    · exact hno j h1
    · obtain rfl : j = k := by omega
      exact h
  generalize hx : l.getD k ed0 = x at *
  obtain ⟨d, a, b⟩ := x
  simp only at hd hso hnx
  by_cases hdi : d = id
  · have hr := hso hdi
    (repeat' (first | refine awp_seq ?_ | refine awp_block ?_ | ((first | refine awp_skip ?_ | refine awp_exit ?_); simp only [ak, reduceIte]) | (refine awp_ret ?_; simp only [ak, reduceIte]; simp [f1, f8, f9, f10, hlt, hd, hel, hdi, hr]) | (refine awp_cond ?_; simp [f1, f8, f9, f10, hlt, hd, hel, hdi, hr]; (try with_reducible refine ⟨?_, ?_⟩) <;> (try with_reducible intro hc) <;> try (exfalso; omega)) | ((first | (refine w_e [] ?_; intro J hJ; simp only []) | (refine w_q ?_; intro J hJ) | refine e_go ?_); simp [f1, f8, f9, f10, hlt, hd, hel, hdi, hr]; (repeat refine ca ?_); (try ((try with_reducible refine ⟨?_, ?_⟩) <;> (try with_reducible intro hnil) <;> refine hJ _ _ ?_ <;> clear hJ J <;> simp only [ak, reduceIte] <;> try subst hnil)))))
    exact hkp.trans (Keeps.new _ _)
  · (repeat' (first | refine awp_seq ?_ | refine awp_block ?_ | ((first | refine awp_skip ?_ | refine awp_exit ?_); simp only [ak, reduceIte]) | (refine awp_ret ?_; simp only [ak, reduceIte]; simp [f1, f8, f9, f10, hlt, hd, hel, hdi, hw]) | (refine awp_cond ?_; simp [f1, f8, f9, f10, hlt, hd, hel, hdi, hw]; (try with_reducible refine ⟨?_, ?_⟩) <;> (try with_reducible intro hc) <;> try (exfalso; omega)) | ((first | (refine w_e [] ?_; intro J hJ; simp only []) | (refine w_q ?_; intro J hJ) | refine e_go ?_); simp [f1, f8, f9, f10, hlt, hd, hel, hdi, hw]; (repeat refine ca ?_); (try ((try with_reducible refine ⟨?_, ?_⟩) <;> (try with_reducible intro hnil) <;> refine hJ _ _ ?_ <;> clear hJ J <;> simp only [ak, reduceIte] <;> try subst hnil)))))
    exact hJJ (l.length - (k + 1)) _ _ (by omega) ⟨k + 1, by omega, rfl, by simp [f1], by simp [f8], by simp [f9], by simp, hkp.trans (Keeps.new _ _), hnx hdi⟩

theorem Edge_1 (x : Ed) (q : Nat) (id : Int) (st : St) (hq : st.H q = .box 41 1 [u id]) (hqn : q < st.next) :
    ACalls Tryz.prog 112 [.ag (edL x), .pt q 0] st fun r st' => r = bb (decide (x.id = id)) ∧ Keeps st st' := by
  have a1 : ¬ q = st.next := by omega
  obtain ⟨d, a, b⟩ := x
  refine acalls_of_body tabOk Tryz.func112 rfl rfl Tryz.ntmps112 (rs := [.tmp 3]) rfl (by simp) ?_
  by_cases hd : d = id
  · (repeat' (first | refine awp_seq ?_ | refine awp_block ?_ | ((first | refine awp_skip ?_ | refine awp_exit ?_); simp only [ak, reduceIte]) | (refine awp_ret ?_; simp only [ak, reduceIte]; simp [hq, a1, hd]) | (refine awp_cond ?_; simp [hq, a1, hd]; (try with_reducible refine ⟨?_, ?_⟩) <;> (try with_reducible intro hc) <;> try (exfalso; omega)) | ((first | (refine w_e [] ?_; intro J hJ; simp only []) | (refine w_q ?_; intro J hJ) | refine e_go ?_); simp [hq, a1, hd]; (repeat refine ca ?_); (try ((try with_reducible refine ⟨?_, ?_⟩) <;> (try with_reducible intro hnil) <;> refine hJ _ _ ?_ <;> clear hJ J <;> simp only [ak, reduceIte] <;> try subst hnil)))))
    exact Keeps.new _ _
  · (repeat' (first | refine awp_seq ?_ | refine awp_block ?_ | ((first | refine awp_skip ?_ | refine awp_exit ?_); simp only [ak, reduceIte]) | (refine awp_ret ?_; simp only [ak, reduceIte]; simp [hq, a1, hd]) | (refine awp_cond ?_; simp [hq, a1, hd]; (try with_reducible refine ⟨?_, ?_⟩) <;> (try with_reducible intro hc) <;> try (exfalso; omega)) | ((first | (refine w_e [] ?_; intro J hJ; simp only []) | (refine w_q ?_; intro J hJ) | refine e_go ?_); simp [hq, a1, hd]; (repeat refine ca ?_); (try ((try with_reducible refine ⟨?_, ?_⟩) <;> (try with_reducible intro hnil) <;> refine hJ _ _ ?_ <;> clear hJ J <;> simp only [ak, reduceIte] <;> try subst hnil)))))
    exact Keeps.new _ _

theorem IndexFuncE (l : List Ed) (t q : Nat) (id : Int) (st : St) (hl : l.length ≤ 1000) (hq : st.H q = .box 41 1 [u id]) (hqn : q < st.next) :
    ACalls Tryz.prog 111 [.sl t l.length (eds l), .fn (.func 112) [.pt q 0]] st fun r st' => r = i (fe l id) ∧ Keeps st st' := by
  have hel := eds_length l
  refine acalls_of_body tabOk Tryz.func111 rfl rfl Tryz.ntmps111 (rs := [.tmp 4]) rfl (by simp) ?_
  (repeat' (first | refine awp_seq ?_ | refine awp_block ?_ | ((first | refine awp_skip ?_ | refine awp_exit ?_); simp only [ak, reduceIte]) | (refine awp_ret ?_; simp only [ak, reduceIte]; simp []) | (refine awp_cond ?_; simp []; (try with_reducible refine ⟨?_, ?_⟩) <;> (try with_reducible intro hc) <;> try (exfalso; omega)) | ((first | (refine w_e [] ?_; intro J hJ; simp only []) | (refine w_q ?_; intro J hJ) | refine e_go ?_); simp []; (repeat refine ca ?_); (try ((try with_reducible refine ⟨?_, ?_⟩) <;> (try with_reducible intro hnil) <;> refine hJ _ _ ?_ <;> clear hJ J <;> simp only [ak, reduceIte] <;> try subst hnil)))))
  refine awp_loop (fun n fr st2 => ∃ k : Nat, k ≤ l.length ∧ n = l.length - k ∧ fr 0 = .sl t l.length (eds l) ∧ fr 1 = .fn (.func 112) [.pt q 0] ∧ fr 7 = i l.length ∧ fr 8 = i k ∧ Keeps st st2 ∧ ∀ j, j < k → (l.getD j ed0).id ≠ id) l.length ?_ ?_
  · exact ⟨0, by omega, by omega, by simp, by simp, by simp, by simp, Keeps.refl _, fun j hj => by omega⟩
  rintro n fr st2 ⟨k, hk, rfl, f0, f1, f7, f8, hkp, hno⟩ JJ hJJ
  by_cases hlt : k < l.length
  rotate_left
  · clear hJJ
    have hr := fe_none (l := l) (id := id) fun j hj => hno j (by omega)
    (repeat' (first | refine awp_seq ?_ | refine awp_block ?_ | ((first | refine awp_skip ?_ | refine awp_exit ?_); simp only [ak, reduceIte]) | (refine awp_ret ?_; simp only [ak, reduceIte]; simp [f7, f8, hlt, hr]) | (refine awp_cond ?_; simp [f7, f8, hlt, hr]; (try with_reducible refine ⟨?_, ?_⟩) <;> (try with_reducible intro hc) <;> try (exfalso; omega)) | ((first | (refine w_e [] ?_; intro J hJ; simp only []) | (refine w_q ?_; intro J hJ) | refine e_go ?_); simp [f7, f8, hlt, hr]; (repeat refine ca ?_); (try ((try with_reducible refine ⟨?_, ?_⟩) <;> (try with_reducible intro hnil) <;> refine hJ _ _ ?_ <;> clear hJ J <;> simp only [ak, reduceIte] <;> try subst hnil)))))
    exact hkp
  have hd := eds_drop l k hlt
  have hw := nat_add_one k (by omega)
  have hk3 : k * 3 < l.length * 3 := by omega
  have hso := fun h => fe_some (id := id) hlt h hno
  have hnx : (l.getD k ed0).id ≠ id → ∀ j, j < k + 1 → (l.getD j ed0).id ≠ id := fun h j hj => by
    rcases Nat.lt_or_ge j k with h1 | h1
    · exact hno j h1
    · obtain rfl : j = k := by omega
      exact h
  generalize hx : l.getD k ed0 = x at *
  obtain ⟨d, a, b⟩ := x
  simp only at hd hso hnx
  (repeat' (first | refine awp_seq ?_ | refine awp_block ?_ | ((first | refine awp_skip ?_ | refine awp_exit ?_); simp only [ak, reduceIte]) | (refine awp_ret ?_; simp only [ak, reduceIte]; simp [f0, f1, f7, f8, hlt, hd, hel]) | (refine awp_cond ?_; simp [f0, f1, f7, f8, hlt, hd, hel]; (try with_reducible refine ⟨?_, ?_⟩) <;> (try with_reducible intro hc) <;> try (exfalso; omega)) | ((first | (refine w_e [] ?_; intro J hJ; simp only []) | (refine w_q ?_; intro J hJ) | refine e_go ?_); simp [f0, f1, f7, f8, hlt, hd, hel]; (repeat refine ca ?_); (try ((try with_reducible refine ⟨?_, ?_⟩) <;> (try with_reducible intro hnil) <;> refine hJ _ _ ?_ <;> clear hJ J <;> simp only [ak, reduceIte] <;> try subst hnil)))))
  refine callK_ofE (Edge_1 ⟨d, a, b⟩ q id st2 ((hkp.H q hqn).trans hq) (Nat.lt_of_lt_of_le hqn hkp.next)) (by simp) ?_; rintro r s3 ⟨rfl, hk3'⟩
  simp only
  by_cases hdi : d = id
  · have hr := hso hdi
    (repeat' (first | refine awp_seq ?_ | refine awp_block ?_ | ((first | refine awp_skip ?_ | refine awp_exit ?_); simp only [ak, reduceIte]) | (refine awp_ret ?_; simp only [ak, reduceIte]; simp [f8, hdi, hr]) | (refine awp_cond ?_; simp [f8, hdi, hr]; (try with_reducible refine ⟨?_, ?_⟩) <;> (try with_reducible intro hc) <;> try (exfalso; omega)) | ((first | (refine w_e [] ?_; intro J hJ; simp only []) | (refine w_q ?_; intro J hJ) | refine e_go ?_); simp [f8, hdi, hr]; (repeat refine ca ?_); (try ((try with_reducible refine ⟨?_, ?_⟩) <;> (try with_reducible intro hnil) <;> refine hJ _ _ ?_ <;> clear hJ J <;> simp only [ak, reduceIte] <;> try subst hnil)))))
    exact hkp.trans hk3'
  · (repeat' (first | refine awp_seq ?_ | refine awp_block ?_ | ((first | refine awp_skip ?_ | refine awp_exit ?_); simp only [ak, reduceIte]) | (refine awp_ret ?_; simp only [ak, reduceIte]; simp [f8, hdi, hw]) | (refine awp_cond ?_; simp [f8, hdi, hw]; (try with_reducible refine ⟨?_, ?_⟩) <;> (try with_reducible intro hc) <;> try (exfalso; omega)) | ((first | (refine w_e [] ?_; intro J hJ; simp only []) | (refine w_q ?_; intro J hJ) | refine e_go ?_); simp [f8, hdi, hw]; (repeat refine ca ?_); (try ((try with_reducible refine ⟨?_, ?_⟩) <;> (try with_reducible intro hnil) <;> refine hJ _ _ ?_ <;> clear hJ J <;> simp only [ak, reduceIte] <;> try subst hnil)))))
    exact hJJ (l.length - (k + 1)) _ _ (by omega) ⟨k + 1, by omega, rfl, by simp [f0], by simp [f1], by simp [f7], by simp, hkp.trans hk3', hnx hdi⟩

theorem gEdge (g : Gr) (id : Int) (st : St) (he : g.es.length ≤ 1000) :
    ACalls Tryz.prog 66 [.ag (grL g), u id] st fun r st' => r = i (fe g.es id) ∧ Keeps st st' := by
  refine acalls_of_body tabOk Tryz.func66 rfl rfl Tryz.ntmps66 (rs := [.tmp 4]) rfl (by simp) ?_
  (repeat' (first | refine awp_seq ?_ | refine awp_block ?_ | ((first | refine awp_skip ?_ | refine awp_exit ?_); simp only [ak, reduceIte]) | (refine awp_ret ?_; simp only [ak, reduceIte]; simp []) | (refine awp_cond ?_; simp []; (try with_reducible refine ⟨?_, ?_⟩) <;> (try with_reducible intro hc) <;> try (exfalso; omega)) | ((first | (refine w_e [] ?_; intro J hJ; simp only []) | (refine w_q ?_; intro J hJ) | refine e_go ?_); simp []; (repeat refine ca ?_); (try ((try with_reducible refine ⟨?_, ?_⟩) <;> (try with_reducible intro hnil) <;> refine hJ _ _ ?_ <;> clear hJ J <;> simp only [ak, reduceIte] <;> try subst hnil)))))
  refine callK_ofE (IndexFuncE g.es 0 (st.next + 1) id _ he (by simp) (by simp)) (by simp) ?_; rintro r s3 ⟨rfl, hk3⟩
  (repeat' (first | refine awp_seq ?_ | refine awp_block ?_ | ((first | refine awp_skip ?_ | refine awp_exit ?_); simp only [ak, reduceIte]) | (refine awp_ret ?_; simp only [ak, reduceIte]; simp []) | (refine awp_cond ?_; simp []; (try with_reducible refine ⟨?_, ?_⟩) <;> (try with_reducible intro hc) <;> try (exfalso; omega)) | ((first | (refine w_e [] ?_; intro J hJ; simp only []) | (refine w_q ?_; intro J hJ) | refine e_go ?_); simp []; (repeat refine ca ?_); (try ((try with_reducible refine ⟨?_, ?_⟩) <;> (try with_reducible intro hnil) <;> refine hJ _ _ ?_ <;> clear hJ J <;> simp only [ak, reduceIte] <;> try subst hnil)))))
  exact ((Keeps.new _ _).trans (Keeps.new _ _)).trans hk3

end Go.Proofs.YtomfeddgeihipaaGreat.Aw

namespace Go.Proofs.YtomfeddgeihipaaGreat.Aw
open Go Go.RowKit Go.Proofs.YtomfeddgeihipaaGreat.Pl
set_option linter.unusedSimpArgs false
set_option linter.unusedVariables false

def TestE (f : FuncId) (caps : List LV) (st : St) (l : List Ed) (p : Ed → Bool) : Prop := ∀ x ∈ l, ∀ st2, Keeps st st2 → ACalls Tryz.prog f (.ag (edL x) :: caps) st2 fun r st3 => r = bb (p x) ∧ Keeps st2 st3

def odd1 (o : Bool) (x : Ed) : Bool := decide (x.id % 2 = 1) == o
theorem filter_takeE (l : List Ed) (p : Ed → Bool) (k : Nat) (hk : k < l.length) : (l.take (k + 1)).filter p = if p (l.getD k ed0) = true then (l.take k).filter p ++ [l.getD k ed0] else (l.take k).filter p := by
  rw [List.take_succ_eq_append_getElem hk, List.filter_append, List.getD_eq_getElem?_getD, List.getElem?_eq_getElem hk]
  by_cases h : p l[k] = true <;> simp [h]

/-- A row of edges, or none. -/
def RowE (X : LV) (F : List Ed) : Prop := (X = .nil ∧ F = []) ∨ ∃ t, X = .sl t F.length (eds F)

set_option maxHeartbeats 1000000 in
theorem Keep (g : Gr) (f : FuncId) (caps : List LV) (p : Ed → Bool) (st : St) (hv : g.vs.length ≤ 1000) (he : g.es.length ≤ 1000) (hp : TestE f caps st g.es p) :
    ACalls Tryz.prog 63 [.ag (grL g), .fn (.func f) caps] st fun r st' => (∃ X, r = .ag [.sl 0 g.vs.length (us g.vs), X] ∧ RowE X (g.es.filter p)) ∧ Keeps st st' := by
  have hel := eds_length g.es
  have hsm : small g.vs := by unfold small; omega
  refine acalls_of_body tabOk Tryz.func63 rfl rfl Tryz.ntmps63 (rs := [.cell 4 38]) rfl (by simp) ?_
  (repeat' (first | refine awp_seq ?_ | refine awp_block ?_ | ((first | refine awp_skip ?_ | refine awp_exit ?_); simp only [ak, reduceIte]) | (refine awp_ret ?_; simp only [ak, reduceIte]; simp []) | (refine awp_cond ?_; simp []; (try with_reducible refine ⟨?_, ?_⟩) <;> (try with_reducible intro hc) <;> try (exfalso; omega)) | ((first | (refine w_e [] ?_; intro J hJ; simp only []) | (refine w_q ?_; intro J hJ) | refine e_go ?_); simp []; (repeat refine ca ?_); (try ((try with_reducible refine ⟨?_, ?_⟩) <;> (try with_reducible intro hnil) <;> refine hJ _ _ ?_ <;> clear hJ J <;> simp only [ak, reduceIte] <;> try subst hnil)))))
  refine callK_ofE (Clone g.vs 0 _ hsm) (by simp) ?_; rintro r s1 ⟨rfl, hk1⟩
  have hn1 := hk1.next
  simp only [new_next] at hn1
  have hG1 : s1.H st.next = .box 38 2 (grL g) := by rw [hk1.H _ (by simp; omega)]; simp
  have hC1 : s1.H (st.next + 1) = .box 38 2 [.nil, .nil] := by rw [hk1.H _ (by simp)]; simp
  have e1 : ¬ st.next = s1.next := by omega
  (repeat' (first | refine awp_seq ?_ | refine awp_block ?_ | ((first | refine awp_skip ?_ | refine awp_exit ?_); simp only [ak, reduceIte]) | (refine awp_ret ?_; simp only [ak, reduceIte]; simp [hG1, e1]) | (refine awp_cond ?_; simp [hG1, e1]; (try with_reducible refine ⟨?_, ?_⟩) <;> (try with_reducible intro hc) <;> try (exfalso; omega)) | ((first | (refine w_e [] ?_; intro J hJ; simp only []) | (refine w_q ?_; intro J hJ) | refine e_go ?_); simp [hG1, e1]; (repeat refine ca ?_); (try ((try with_reducible refine ⟨?_, ?_⟩) <;> (try with_reducible intro hnil) <;> refine hJ _ _ ?_ <;> clear hJ J <;> simp only [ak, reduceIte] <;> try subst hnil)))))
  have hkp1 : Keeps st s1 := ((Keeps.new _ _).trans (Keeps.new _ _)).trans hk1
  obtain ⟨q4, hq4⟩ : ∃ q, q = st.next + 1 := ⟨_, rfl⟩
  obtain ⟨q5, hq5⟩ : ∃ q, q = s1.next := ⟨_, rfl⟩
  refine awp_loop (fun n fr st2 => ∃ k : Nat, k ≤ g.es.length ∧ n = g.es.length - k ∧ fr 1 = .fn (.func f) caps ∧ fr 4 = .pt q4 0 ∧ fr 5 = .pt q5 0 ∧ fr 13 = .sl 0 g.es.length (eds g.es) ∧ fr 14 = i g.es.length ∧ fr 15 = i k ∧ Keeps st st2 ∧ q5 < st2.next ∧ st2.H q4 = .box 38 2 [.nil, .nil] ∧ ∃ X, st2.H q5 = .box 38 2 [.sl 0 g.vs.length (us g.vs), X] ∧ ((X = .nil ∧ (g.es.take k).filter p = []) ∨ ∃ t, X = .sl t ((g.es.take k).filter p).length (eds ((g.es.take k).filter p)) ∧ t ≠ 0 ∧ q5 < t ∧ t < st2.next ∧ st2.H t = .own 43 3 ((g.es.take k).filter p).length)) g.es.length ?_ ?_
  · have e2 : ¬ q4 = s1.next := by omega
    have e3 : ¬ st.next + 1 = s1.next := by omega
    refine ⟨0, by omega, by omega, by simp, by simp [hq4], by simp [hq5], by simp, by simp, by simp, ?_, by simp [hq5], by simp [e2, hC1, hq4, e3], .nil, by simp [hq5], .inl ⟨rfl, by simp⟩⟩
    (repeat (first | exact hkp1 | (refine Keeps.trans ?_ (Keeps.new _ _)) | (refine Keeps.set ?_ (by omega) _)))
  rintro n fr st2 ⟨k, hk, rfl, f1, f4, f5, f13, f14, f15, hkp, h5n, hC, X, hX, hXs⟩ JJ hJJ
  have e0 : ¬ q4 = q5 := by omega
  by_cases hlt : k < g.es.length
  rotate_left
  · clear hJJ
    have hk' : k = g.es.length := by omega
    rw [hk', List.take_length] at hXs
    rcases hXs with ⟨rfl, h⟩ | ⟨t, rfl, h⟩
    · (repeat' (first | refine awp_seq ?_ | refine awp_block ?_ | ((first | refine awp_skip ?_ | refine awp_exit ?_); simp only [ak, reduceIte]) | (refine awp_ret ?_; simp only [ak, reduceIte]; simp [f4, f5, f14, f15, hlt, hX, hC, e0]) | (refine awp_cond ?_; simp [f4, f5, f14, f15, hlt, hX, hC, e0]; (try with_reducible refine ⟨?_, ?_⟩) <;> (try with_reducible intro hc) <;> try (exfalso; omega)) | ((first | (refine w_e [] ?_; intro J hJ; simp only []) | (refine w_q ?_; intro J hJ) | refine e_go ?_); simp [f4, f5, f14, f15, hlt, hX, hC, e0]; (repeat refine ca ?_); (try ((try with_reducible refine ⟨?_, ?_⟩) <;> (try with_reducible intro hnil) <;> refine hJ _ _ ?_ <;> clear hJ J <;> simp only [ak, reduceIte] <;> try subst hnil)))))
      exact ⟨.inl ⟨rfl, h⟩, (by repeat (first | exact hkp | (refine Keeps.trans ?_ (Keeps.new _ _)) | (refine Keeps.set ?_ (by have := hkp.next; omega) _)))⟩
    · (repeat' (first | refine awp_seq ?_ | refine awp_block ?_ | ((first | refine awp_skip ?_ | refine awp_exit ?_); simp only [ak, reduceIte]) | (refine awp_ret ?_; simp only [ak, reduceIte]; simp [f4, f5, f14, f15, hlt, hX, hC, e0]) | (refine awp_cond ?_; simp [f4, f5, f14, f15, hlt, hX, hC, e0]; (try with_reducible refine ⟨?_, ?_⟩) <;> (try with_reducible intro hc) <;> try (exfalso; omega)) | ((first | (refine w_e [] ?_; intro J hJ; simp only []) | (refine w_q ?_; intro J hJ) | refine e_go ?_); simp [f4, f5, f14, f15, hlt, hX, hC, e0]; (repeat refine ca ?_); (try ((try with_reducible refine ⟨?_, ?_⟩) <;> (try with_reducible intro hnil) <;> refine hJ _ _ ?_ <;> clear hJ J <;> simp only [ak, reduceIte] <;> try subst hnil)))))
      exact ⟨.inr ⟨t, rfl⟩, (by repeat (first | exact hkp | (refine Keeps.trans ?_ (Keeps.new _ _)) | (refine Keeps.set ?_ (by have := hkp.next; omega) _)))⟩
  have hd := eds_drop g.es k hlt
  have hw := nat_add_one k (by omega)
  have hk3 : k * 3 < g.es.length * 3 := by omega
  have hxin : g.es.getD k ed0 ∈ g.es := by rw [List.getD_eq_getElem?_getD, List.getElem?_eq_getElem hlt]; exact List.getElem_mem hlt
  have hst := filter_takeE g.es p k hlt
  have hle := List.length_filter_le p (g.es.take k)
  rw [List.length_take] at hle
  have htest := fun s h => hp _ hxin s h
  generalize hx : g.es.getD k ed0 = x at *
  generalize hFF : (g.es.take k).filter p = F at *
  have hFl := eds_length F
  have hFo : (eds F).length = F.length * 3 := hFl
  obtain ⟨d, a, b⟩ := x
  simp only at hd htest
  (repeat' (first | refine awp_seq ?_ | refine awp_block ?_ | ((first | refine awp_skip ?_ | refine awp_exit ?_); simp only [ak, reduceIte]) | (refine awp_ret ?_; simp only [ak, reduceIte]; simp [f1, f13, f14, f15, hlt, hd, hel]) | (refine awp_cond ?_; simp [f1, f13, f14, f15, hlt, hd, hel]; (try with_reducible refine ⟨?_, ?_⟩) <;> (try with_reducible intro hc) <;> try (exfalso; omega)) | ((first | (refine w_e [] ?_; intro J hJ; simp only []) | (refine w_q ?_; intro J hJ) | refine e_go ?_); simp [f1, f13, f14, f15, hlt, hd, hel]; (repeat refine ca ?_); (try ((try with_reducible refine ⟨?_, ?_⟩) <;> (try with_reducible intro hnil) <;> refine hJ _ _ ?_ <;> clear hJ J <;> simp only [ak, reduceIte] <;> try subst hnil)))))
  refine callK_of (htest _ (hkp.trans (Keeps.new _ (.box 43 3 [u d, u a, u b])))) ?_; rintro r s3 ⟨rfl, hk3'⟩
  have hn3 := hk3'.next
  simp only [new_next] at hn3
  have hkk : Keeps st2 s3 := (Keeps.new _ _).trans hk3'
  have hX3 := (hkk.H q5 h5n).trans hX
  have hC3 := (hkk.H q4 (by omega)).trans hC
  have hE3 : s3.H st2.next = .box 43 3 [u d, u a, u b] := by rw [hk3'.H _ (by simp)]; simp
  have hkp3 : Keeps st s3 := (hkp.trans (Keeps.new _ _)).trans hk3'
  have z1 : ¬ q5 = s3.next := by omega
  have z2 : ¬ q5 = s3.next + 1 := by omega
  have z3 : ¬ q4 = s3.next := by omega
  have z4 : ¬ q4 = s3.next + 1 := by omega
  have z5 : ¬ s3.next + 1 = q5 := by omega
  by_cases hpx : p ⟨d, a, b⟩ = true
  rotate_left
  · rw [if_neg hpx] at hst
    have hpx : p ⟨d, a, b⟩ = false := by simpa using hpx
    (repeat' (first | refine awp_seq ?_ | refine awp_block ?_ | ((first | refine awp_skip ?_ | refine awp_exit ?_); simp only [ak, reduceIte]) | (refine awp_ret ?_; simp only [ak, reduceIte]; simp [hpx, f15, hw]) | (refine awp_cond ?_; simp [hpx, f15, hw]; (try with_reducible refine ⟨?_, ?_⟩) <;> (try with_reducible intro hc) <;> try (exfalso; omega)) | ((first | (refine w_e [] ?_; intro J hJ; simp only []) | (refine w_q ?_; intro J hJ) | refine e_go ?_); simp [hpx, f15, hw]; (repeat refine ca ?_); (try ((try with_reducible refine ⟨?_, ?_⟩) <;> (try with_reducible intro hnil) <;> refine hJ _ _ ?_ <;> clear hJ J <;> simp only [ak, reduceIte] <;> try subst hnil)))))
    refine hJJ (g.es.length - (k + 1)) _ _ (by omega) ⟨k + 1, by omega, rfl, by simp [f1], by simp [f4], by simp [f5], by simp [f13], by simp [f14], by simp, hkp3, by omega, hC3, X, hX3, ?_⟩
    rw [hst]
    rcases hXs with h | ⟨t, h, h0, h1, h2, h3⟩
    · exact .inl h
    · exact .inr ⟨t, h, h0, h1, by omega, (hkk.H t h2).trans h3⟩
  rw [if_pos hpx] at hst
  have hed : eds (F ++ [⟨d, a, b⟩]) = eds F ++ [u d, u a, u b] := by simp [eds]
  rcases hXs with ⟨rfl, hF0⟩ | ⟨t, rfl, h0, h1, h2, h3⟩
  · (repeat' (first | refine awp_seq ?_ | refine awp_block ?_ | ((first | refine awp_skip ?_ | refine awp_exit ?_); simp only [ak, reduceIte]) | (refine awp_ret ?_; simp only [ak, reduceIte]; simp [hpx, f5, f15, hw, hX3, hE3, z1, z2]) | (refine awp_cond ?_; simp [hpx, f5, f15, hw, hX3, hE3, z1, z2]; (try with_reducible refine ⟨?_, ?_⟩) <;> (try with_reducible intro hc) <;> try (exfalso; omega)) | ((first | (refine w_e [] ?_; intro J hJ; simp only []) | (refine w_q ?_; intro J hJ) | refine e_go ?_); simp [hpx, f5, f15, hw, hX3, hE3, z1, z2]; (repeat refine ca ?_); (try ((try with_reducible refine ⟨?_, ?_⟩) <;> (try with_reducible intro hnil) <;> refine hJ _ _ ?_ <;> clear hJ J <;> simp only [ak, reduceIte] <;> try subst hnil)))))
    refine hJJ (g.es.length - (k + 1)) _ _ (by omega) ⟨k + 1, by omega, rfl, by simp [f1], by simp [f4], by simp [f5], by simp [f13], by simp [f14], by simp, ?_, by simp; omega, by simp [e0, z3, z4, hC3], _, by simp; rfl, .inr ⟨s3.next + 1, by rw [hst, hed, hF0]; simp [eds], by omega, by omega, by simp, by rw [hst, hF0]; simp [z5]⟩⟩
    (repeat (first | exact hkp3 | (refine Keeps.trans ?_ (Keeps.new _ _)) | (refine Keeps.set ?_ (by omega) _)))
  · have h3' : s3.H t = .own 43 3 F.length := (hkk.H t h2).trans h3
    have y1 : ¬ t = s3.next := by omega
    have y2 : ¬ t = s3.next + 1 := by omega
    have y3 : ¬ q5 = t := by omega
    have y4 : ¬ t = q5 := by omega
    have y5 : ¬ q4 = t := by omega
    (repeat' (first | refine awp_seq ?_ | refine awp_block ?_ | ((first | refine awp_skip ?_ | refine awp_exit ?_); simp only [ak, reduceIte]) | (refine awp_ret ?_; simp only [ak, reduceIte]; simp [hpx, f5, f15, hw, hX3, hE3, z1, z2, h3', h0, y1, y2, y3, y4, hFo]) | (refine awp_cond ?_; simp [hpx, f5, f15, hw, hX3, hE3, z1, z2, h3', h0, y1, y2, y3, y4, hFo]; (try with_reducible refine ⟨?_, ?_⟩) <;> (try with_reducible intro hc) <;> try (exfalso; omega)) | ((first | (refine w_e [] ?_; intro J hJ; simp only []) | (refine w_q ?_; intro J hJ) | refine e_go ?_); simp [hpx, f5, f15, hw, hX3, hE3, z1, z2, h3', h0, y1, y2, y3, y4, hFo]; (repeat refine ca ?_); (try ((try with_reducible refine ⟨?_, ?_⟩) <;> (try with_reducible intro hnil) <;> refine hJ _ _ ?_ <;> clear hJ J <;> simp only [ak, reduceIte] <;> try subst hnil)))))
    refine hJJ (g.es.length - (k + 1)) _ _ (by omega) ⟨k + 1, by omega, rfl, by simp [f1], by simp [f4], by simp [f5], by simp [f13], by simp [f14], by simp, ?_, by simp; omega, by simp [e0, z3, z4, y5, hC3], _, by simp; rfl, .inr ⟨s3.next + 1, by rw [hst, hed]; simp, by omega, by omega, by simp, by rw [hst]; simp [z5]⟩⟩
    (repeat (first | exact hkp3 | (refine Keeps.trans ?_ (Keeps.new _ _)) | (refine Keeps.set ?_ (by omega) _)))

end Go.Proofs.YtomfeddgeihipaaGreat.Aw

namespace Go.Proofs.YtomfeddgeihipaaGreat.Aw
open Go Go.RowKit Go.Proofs.YtomfeddgeihipaaGreat.Pl
set_option linter.unusedSimpArgs false
set_option linter.unusedVariables false

inductive IsFo : List Ed → List Ed → List Ed → Prop
  | nil : IsFo [] [] []
  | rest {l I R : List Ed} {x : Ed} (h : IsFo l I R) (k : Reach I x.a x.b) : IsFo (l ++ [x]) I (R ++ [x])
  | join {l I R : List Ed} {x : Ed} (h : IsFo l I R) (k : ¬ Reach I x.a x.b) : IsFo (l ++ [x]) (I ++ [x]) R
theorem IsFo.unique {l I R : List Ed} (h : IsFo l I R) : ∀ {I' R' : List Ed}, IsFo l I' R' → I = I' ∧ R = R' := by
  have key : ∀ {m I' R' : List Ed} {l : List Ed} {x : Ed}, IsFo m I' R' → m = l ++ [x] → ∃ I0 R0, IsFo l I0 R0 ∧ ((Reach I0 x.a x.b ∧ I' = I0 ∧ R' = R0 ++ [x]) ∨ (¬ Reach I0 x.a x.b ∧ I' = I0 ++ [x] ∧ R' = R0)) := by
    intro m I' R' l x hm e
    cases hm with
    | nil => simp at e
    | rest h k =>
      obtain ⟨rfl, e2⟩ := List.append_inj' e rfl
      simp at e2; subst e2
      exact ⟨_, _, h, .inl ⟨k, rfl, rfl⟩⟩
    | join h k =>
      obtain ⟨rfl, e2⟩ := List.append_inj' e rfl
      simp at e2; subst e2
      exact ⟨_, _, h, .inr ⟨k, rfl, rfl⟩⟩
  induction h with
  | nil =>
    intro I' R' k
    generalize he : ([] : List Ed) = m at k
    cases k with
    | nil => exact ⟨rfl, rfl⟩
    | rest => simp at he
    | join => simp at he
  | rest h k ih =>
    intro I' R' k'
    obtain ⟨I0, R0, h0, h1 | h1⟩ := key k' rfl
    · obtain ⟨rfl, rfl⟩ := ih h0
      exact ⟨h1.2.1.symm, h1.2.2.symm⟩
    · obtain ⟨rfl, rfl⟩ := ih h0
      exact absurd k h1.1
  | join h k ih =>
    intro I' R' k'
    obtain ⟨I0, R0, h0, h1 | h1⟩ := key k' rfl
    · obtain ⟨rfl, rfl⟩ := ih h0
      exact absurd h1.1 k
    · obtain ⟨rfl, rfl⟩ := ih h0
      exact ⟨h1.2.1.symm, h1.2.2.symm⟩
theorem IsFo.sub {l I R : List Ed} (h : IsFo l I R) : I.Sublist l ∧ R.Sublist l ∧ ∀ x, x ∈ l ↔ x ∈ I ∨ x ∈ R := by
  induction h with
  | nil => simp
  | rest h k ih =>
    obtain ⟨a, b, c⟩ := ih
    refine ⟨a.trans (List.sublist_append_left _ _), b.append (.refl _), fun y => ?_⟩
    simp only [List.mem_append, c, List.mem_singleton, or_assoc]
  | join h k ih =>
    obtain ⟨a, b, c⟩ := ih
    refine ⟨a.append (.refl _), b.trans (List.sublist_append_left _ _), fun y => ?_⟩
    simp only [List.mem_append, c, List.mem_singleton]
    constructor
    · rintro ((h | h) | h) <;> simp [h]
    · rintro ((h | h) | h) <;> simp [h]

theorem Reach.monoF {es es' : List Ed} {v w : Int} (h : Reach es v w) (hs : ∀ x ∈ es, x ∈ es') : Reach es' v w := by
  induction h with
  | refl => exact .refl
  | step _ hw ih =>
    refine .step ih ?_
    rw [mem_nbr] at hw ⊢
    obtain ⟨x, hx, h⟩ := hw
    exact ⟨x, hs x hx, h⟩
theorem Reach.edge {es : List Ed} {x : Ed} (h : x ∈ es) : Reach es x.a x.b := .step .refl (mem_nbr.2 ⟨x, h, .inl ⟨rfl, rfl⟩⟩)

/-- A forest of parents, its roots, and how far each is at most from its own. -/
structure UF (vs : List Int) (I : List Ed) (U R : Int → Int) (d : Int → Nat) : Prop where
  inU : ∀ v ∈ vs, U v ∈ vs
  inR : ∀ v ∈ vs, R v ∈ vs
  fix : ∀ v ∈ vs, U (R v) = R v
  top : ∀ v ∈ vs, U v = v → R v = v
  up : ∀ v ∈ vs, U v ≠ v → R (U v) = R v ∧ d (U v) < d v
  rel : ∀ v ∈ vs, ∀ w ∈ vs, R v = R w ↔ Reach I v w
theorem UF.start (vs : List Int) : UF vs [] id id fun _ => 0 := by
  refine ⟨fun _ h => h, fun _ h => h, fun _ _ => rfl, fun _ _ _ => rfl, fun _ _ h => absurd rfl h, fun v hv w hw => ?_⟩
  constructor
  · rintro h; simp only [id] at h; subst h; exact .refl
  · intro h
    refine h.closed (L := fun w => id v = id w) rfl fun u _ w hw => ?_
    rw [mem_nbr] at hw
    obtain ⟨x, hx, _⟩ := hw
    simp at hx
theorem UF.join {vs : List Int} {I : List Ed} {U R : Int → Int} {d : Int → Nat} (h : UF vs I U R d) {x : Ed} (ha : x.a ∈ vs) (hb : x.b ∈ vs) (hI : ∀ y ∈ I, y.a ∈ vs ∧ y.b ∈ vs) (hne : R x.a ≠ R x.b) :
    UF vs (I ++ [x]) (fun v => if v = R x.a then R x.b else U v) (fun v => if R v = R x.a then R x.b else R v) (fun v => if R v = R x.a then d v + d (R x.b) + 1 else d v) := by
  have rr : ∀ v ∈ vs, R (R v) = R v := fun v hv => h.top _ (h.inR v hv) (h.fix v hv)
  refine ⟨fun v hv => ?_, fun v hv => ?_, fun v hv => ?_, fun v hv => ?_, fun v hv => ?_, fun v hv w hw => ?_⟩
  · split
    · exact h.inR _ hb
    · exact h.inU v hv
  · split
    · exact h.inR _ hb
    · exact h.inR v hv
  · skip
    by_cases e : R v = R x.a
    · rw [if_pos e, if_neg (fun e2 => hne e2.symm)]; exact h.fix _ hb
    · rw [if_neg e, if_neg e]; exact h.fix v hv
  · skip
    intro e
    by_cases e1 : v = R x.a
    · rw [if_pos e1] at e
      exact absurd (e1 ▸ e) (fun e2 => hne (by rw [← e1, ← e]))
    · rw [if_neg e1] at e
      have e2 := h.top v hv e
      rw [if_neg (by rw [e2]; exact e1)]
      exact e2
  · skip
    by_cases e1 : v = R x.a
    · subst e1
      intro _
      rw [if_pos rfl, rr _ hb, if_neg (fun e2 => hne e2.symm), rr _ ha, if_pos rfl, if_neg (fun e2 => hne e2.symm), if_pos rfl]
      exact ⟨rfl, by omega⟩
    · rw [if_neg e1]
      intro e
      obtain ⟨g1, g2⟩ := h.up v hv e
      rw [g1]
      refine ⟨rfl, ?_⟩
      split <;> omega
  · skip
    have hx : Reach (I ++ [x]) x.a x.b := .edge (by simp)
    have mono : ∀ {v w}, Reach I v w → Reach (I ++ [x]) v w := fun h => h.monoF fun y hy => List.mem_append_left _ hy
    constructor
    · intro e
      by_cases e1 : R v = R x.a <;> by_cases e2 : R w = R x.a
      · exact mono ((h.rel v hv w hw).1 (e1.trans e2.symm))
      · rw [if_pos e1, if_neg e2] at e
        exact (mono ((h.rel v hv _ ha).1 e1)).trans (hx.trans (mono ((h.rel _ hb w hw).1 e)))
      · rw [if_neg e1, if_pos e2] at e
        exact (mono ((h.rel v hv _ hb).1 e)).trans (hx.symm.trans (mono ((h.rel _ ha w hw).1 e2.symm)))
      · rw [if_neg e1, if_neg e2] at e
        exact mono ((h.rel v hv w hw).1 e)
    · intro hr
      have := hr.closed (L := fun w => w ∈ vs ∧ (if R v = R x.a then R x.b else R v) = if R w = R x.a then R x.b else R w) ⟨hv, rfl⟩ (fun u hu w hw => ?_)
      · exact this.2
      · rw [mem_nbr] at hw
        obtain ⟨y, hy, h1⟩ := hw
        have edge : ∀ p q, (p = y.a ∧ q = y.b ∨ p = y.b ∧ q = y.a) → q ∈ vs ∧ (if R p = R x.a then R x.b else R p) = if R q = R x.a then R x.b else R q := by
          intro p q hpq
          rcases List.mem_append.1 hy with hy | hy
          · have hyv := hI y hy
            have hyr := (h.rel _ hyv.1 _ hyv.2).2 (.edge hy)
            rcases hpq with ⟨rfl, rfl⟩ | ⟨rfl, rfl⟩
            · exact ⟨hyv.2, by rw [hyr]⟩
            · exact ⟨hyv.1, by rw [hyr]⟩
          · rw [List.mem_singleton] at hy
            subst hy
            rcases hpq with ⟨rfl, rfl⟩ | ⟨rfl, rfl⟩
            · refine ⟨hb, ?_⟩
              rw [if_pos rfl, if_neg (fun e => hne e.symm)]
            · refine ⟨ha, ?_⟩
              rw [if_pos rfl, if_neg (fun e => hne e.symm)]
        rcases h1 with ⟨h1, h2⟩ | ⟨h1, h2⟩
        · obtain ⟨g1, g2⟩ := edge u w (.inl ⟨h1.symm, h2.symm⟩)
          exact ⟨g1, hu.2.trans g2⟩
        · obtain ⟨g1, g2⟩ := edge u w (.inr ⟨h1.symm, h2.symm⟩)
          exact ⟨g1, hu.2.trans g2⟩

/-- Of rising numbers, those of a part pick just that part. -/
theorem pick_sub {l I : List Ed} (hi : l.Pairwise fun x y => x.id < y.id) (hs : I.Sublist l) : (l.filter fun x => decide (x.id ∈ I.map (·.id))) = I := by
  induction hs with
  | slnil => rfl
  | cons a hs ih =>
    rw [List.pairwise_cons] at hi
    rw [List.filter_cons_of_neg, ih hi.2]
    simp only [decide_eq_true_eq]
    intro h
    obtain ⟨y, hy, e⟩ := List.mem_map.1 h
    have := hi.1 y (hs.subset hy)
    omega
  | cons_cons a hs ih =>
    rw [List.pairwise_cons] at hi
    rw [List.filter_cons_of_pos (by simp)]
    congr 1
    refine Eq.trans (List.filter_congr fun y hy => ?_) (ih hi.2)
    have := hi.1 y hy
    simp only [List.map_cons, List.mem_cons]
    have hne : ¬ y.id = a.id := by omega
    simp [hne]

end Go.Proofs.YtomfeddgeihipaaGreat.Aw
