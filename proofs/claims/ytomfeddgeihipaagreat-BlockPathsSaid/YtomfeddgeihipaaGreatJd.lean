/- Graphs: Check, by the program and by the document; the law GraphChecks. Graphs and maps, made: Clone of edges, copied, Of; Same. Maps, made of turns: Of; the law RotMakes. The law RotMakes. Graphs: Ends. What three graphs come to. No program. Plain: edges beside each other, of each bundle one, rows of near vertices. No program. Plain: the way from one vertex to another one, as it is sought. No program. Plain: the document's way from one vertex to another one. No program. Plain: both ways from one vertex to another one are the same. No program. Plain: both ways from one vertex to another one are the same: the searches. No program. Plain: bundles. No program. block.Simple: of each bundle one edge, and the bundles. -/
import Derived.Test.YtomfeddgeihipaaGreatJc
import Derived.Test.YtomfeddgeihipaaGreatAwShp
import Derived.Test.YtomfeddgeihipaaGreatAwZ
namespace Go.Proofs.YtomfeddgeihipaaGreat.Aw
open Go Go.RowKit Go.Proofs.YtomfeddgeihipaaGreat.Pl
set_option linter.unusedSimpArgs false
set_option linter.unusedVariables false

theorem ref_Check (g : Gr) (st : St) (hv : g.vs.length ≤ 1000) (he : g.es.length ≤ 1000) :
    ACalls Tryz.prog 24 [.ag (grL g)] st fun r st' => r = i (chk g) ∧ Keeps st st' := by
  have hsm : small g.vs := by unfold small; omega
  refine acalls_of_body tabOk Tryz.func24 rfl rfl Tryz.ntmps24 (rs := [.tmp 2]) rfl (by simp) ?_
  by_cases h1 : (64 : Int) < (g.vs.length : Int)
  · have : chk g = 6 := by unfold chk; rw [if_pos (by omega)]
    (repeat' (first | refine awp_seq ?_ | refine awp_block ?_ | ((first | refine awp_skip ?_ | refine awp_exit ?_); simp only [ak, reduceIte]) | (refine awp_ret ?_; simp only [ak, reduceIte]; simp [h1, this]) | (refine awp_cond ?_; simp [h1, this]; (try with_reducible refine ⟨?_, ?_⟩) <;> (try with_reducible intro hc) <;> try (exfalso; omega)) | ((first | (refine w_e [] ?_; intro J hJ; simp only []) | (refine w_q ?_; intro J hJ) | refine e_go ?_); simp [h1, this]; (repeat refine ca ?_); (try ((try with_reducible refine ⟨?_, ?_⟩) <;> (try with_reducible intro hnil) <;> refine hJ _ _ ?_ <;> clear hJ J <;> simp only [ak, reduceIte] <;> try subst hnil)))))
    exact Keeps.new _ _
  by_cases h2 : (160 : Int) < (g.es.length : Int)
  · have : chk g = 6 := by unfold chk; rw [if_pos (by omega)]
    (repeat' (first | refine awp_seq ?_ | refine awp_block ?_ | ((first | refine awp_skip ?_ | refine awp_exit ?_); simp only [ak, reduceIte]) | (refine awp_ret ?_; simp only [ak, reduceIte]; simp [h1, h2, this]) | (refine awp_cond ?_; simp [h1, h2, this]; (try with_reducible refine ⟨?_, ?_⟩) <;> (try with_reducible intro hc) <;> try (exfalso; omega)) | ((first | (refine w_e [] ?_; intro J hJ; simp only []) | (refine w_q ?_; intro J hJ) | refine e_go ?_); simp [h1, h2, this]; (repeat refine ca ?_); (try ((try with_reducible refine ⟨?_, ?_⟩) <;> (try with_reducible intro hnil) <;> refine hJ _ _ ?_ <;> clear hJ J <;> simp only [ak, reduceIte] <;> try subst hnil)))))
    exact Keeps.new _ _
  have hch : chk g = if firstNZ (badV g) g.vs.length ≠ 0 then firstNZ (badV g) g.vs.length else firstNZ (badE g) g.es.length := by unfold chk; rw [if_neg (by omega)]
  (repeat' (first | refine awp_seq ?_ | refine awp_block ?_ | ((first | refine awp_skip ?_ | refine awp_exit ?_); simp only [ak, reduceIte]) | (refine awp_ret ?_; simp only [ak, reduceIte]; simp [h1, h2]) | (refine awp_cond ?_; simp [h1, h2]; (try with_reducible refine ⟨?_, ?_⟩) <;> (try with_reducible intro hc) <;> try (exfalso; omega)) | ((first | (refine w_e [] ?_; intro J hJ; simp only []) | (refine w_q ?_; intro J hJ) | refine e_go ?_); simp [h1, h2]; (repeat refine ca ?_); (try ((try with_reducible refine ⟨?_, ?_⟩) <;> (try with_reducible intro hnil) <;> refine hJ _ _ ?_ <;> clear hJ J <;> simp only [ak, reduceIte] <;> try subst hnil)))))
  refine awp_loop (fun n fr st' => ∃ k : Nat, k ≤ g.vs.length ∧ n = g.vs.length - k ∧ fr 1 = .pt st.next 0 ∧ fr 18 = .sl 0 g.vs.length (us g.vs) ∧ fr 19 = i g.vs.length ∧ fr 20 = i k ∧ st' = st.new (.box 38 2 (grL g)) ∧ ∀ j, j < k → badV g j = 0) g.vs.length ?_ ?_
  · exact ⟨0, by omega, by omega, by simp, by simp, by simp, by simp, rfl, fun j h => by omega⟩
  rintro n fr st' ⟨k, hk, rfl, f1, f18, f19, f20, rfl, hno⟩ JJ hJJ
  by_cases hlt : k < g.vs.length
  · have hd := us_drop_getD g.vs k hlt
    have hw := nat_add_one k (by omega)
    have hbad : badV g k = numb (g.vs.getD k 0) (g.vs.getD (k - 1) 0) (decide (k = 0)) := rfl
    have hnext : badV g k = 0 → ∀ j, j < k + 1 → badV g j = 0 := fun hb j hj => by
      rcases Nat.lt_or_ge j k with h | h
      · exact hno j h
      · obtain rfl : j = k := by omega
        exact hb
    have hret : ∀ v, badV g k = v → v ≠ 0 → chk g = v := fun v h0 h1 => by
      have hf := firstNZ_eq hlt hno h0 h1
      rw [hch, hf, if_pos h1]
    generalize hx : g.vs.getD k 0 = x at *
    by_cases hx1 : x < 1
    · have hr := hret 2 (by rw [hbad]; unfold numb; rw [if_pos (.inl hx1)]) (by decide)
      (repeat' (first | refine awp_seq ?_ | refine awp_block ?_ | ((first | refine awp_skip ?_ | refine awp_exit ?_); simp only [ak, reduceIte]) | (refine awp_ret ?_; simp only [ak, reduceIte]; simp [f1, f18, f19, f20, hlt, hd, hw, hx1, hr]) | (refine awp_cond ?_; simp [f1, f18, f19, f20, hlt, hd, hw, hx1, hr]; (try with_reducible refine ⟨?_, ?_⟩) <;> (try with_reducible intro hc) <;> try (exfalso; omega)) | ((first | (refine w_e [] ?_; intro J hJ; simp only []) | (refine w_q ?_; intro J hJ) | refine e_go ?_); simp [f1, f18, f19, f20, hlt, hd, hw, hx1, hr]; (repeat refine ca ?_); (try ((try with_reducible refine ⟨?_, ?_⟩) <;> (try with_reducible intro hnil) <;> refine hJ _ _ ?_ <;> clear hJ J <;> simp only [ak, reduceIte] <;> try subst hnil)))))
      exact Keeps.new _ _
    by_cases hx2 : 1048576 < x
    · have hr := hret 2 (by rw [hbad]; unfold numb; rw [if_pos (.inr hx2)]) (by decide)
      (repeat' (first | refine awp_seq ?_ | refine awp_block ?_ | ((first | refine awp_skip ?_ | refine awp_exit ?_); simp only [ak, reduceIte]) | (refine awp_ret ?_; simp only [ak, reduceIte]; simp [f1, f18, f19, f20, hlt, hd, hw, hx1, hx2, hr]) | (refine awp_cond ?_; simp [f1, f18, f19, f20, hlt, hd, hw, hx1, hx2, hr]; (try with_reducible refine ⟨?_, ?_⟩) <;> (try with_reducible intro hc) <;> try (exfalso; omega)) | ((first | (refine w_e [] ?_; intro J hJ; simp only []) | (refine w_q ?_; intro J hJ) | refine e_go ?_); simp [f1, f18, f19, f20, hlt, hd, hw, hx1, hx2, hr]; (repeat refine ca ?_); (try ((try with_reducible refine ⟨?_, ?_⟩) <;> (try with_reducible intro hnil) <;> refine hJ _ _ ?_ <;> clear hJ J <;> simp only [ak, reduceIte] <;> try subst hnil)))))
      exact Keeps.new _ _
    by_cases h0 : k = 0
    · have hb : badV g k = 0 := by rw [hbad]; unfold numb; rw [if_neg (by simp [hx1, hx2])]; simp [h0]
      have hk0 : ¬ 0 < k := by omega
      (repeat' (first | refine awp_seq ?_ | refine awp_block ?_ | ((first | refine awp_skip ?_ | refine awp_exit ?_); simp only [ak, reduceIte]) | (refine awp_ret ?_; simp only [ak, reduceIte]; simp [f1, f18, f19, f20, hlt, hd, hw, hx1, hx2, hk0]) | (refine awp_cond ?_; simp [f1, f18, f19, f20, hlt, hd, hw, hx1, hx2, hk0]; (try with_reducible refine ⟨?_, ?_⟩) <;> (try with_reducible intro hc) <;> try (exfalso; omega)) | ((first | (refine w_e [] ?_; intro J hJ; simp only []) | (refine w_q ?_; intro J hJ) | refine e_go ?_); simp [f1, f18, f19, f20, hlt, hd, hw, hx1, hx2, hk0]; (repeat refine ca ?_); (try ((try with_reducible refine ⟨?_, ?_⟩) <;> (try with_reducible intro hnil) <;> refine hJ _ _ ?_ <;> clear hJ J <;> simp only [ak, reduceIte] <;> try subst hnil)))))
      refine hJJ _ _ _ ?_ ⟨k + 1, by omega, rfl, by simp [f1], by simp [f18], by simp [f19], by simp, rfl, hnext hb⟩
      omega
    · have hk0 : 0 < k := by omega
      have hw1 : IntKind.i64.wrap ((k : Int) - 1) = ((k - 1 : Nat) : Int) := by rw [wrap_i64 _ (by omega) (by omega)]; omega
      have hd1 := us_drop_getD g.vs (k - 1) (by omega)
      have hlt1 : k - 1 < g.vs.length := by omega
      generalize hy : g.vs.getD (k - 1) 0 = y at *
      by_cases hle : x ≤ y
      · have hr := hret 19 (by rw [hbad]; unfold numb; rw [if_neg (by simp [hx1, hx2]), if_pos ⟨by simp [h0], hle⟩]) (by decide)
        (repeat' (first | refine awp_seq ?_ | refine awp_block ?_ | ((first | refine awp_skip ?_ | refine awp_exit ?_); simp only [ak, reduceIte]) | (refine awp_ret ?_; simp only [ak, reduceIte]; simp [f1, f18, f19, f20, hlt, hd, hw, hx1, hx2, hk0, hw1, hd1, hlt1, hle, hr]) | (refine awp_cond ?_; simp [f1, f18, f19, f20, hlt, hd, hw, hx1, hx2, hk0, hw1, hd1, hlt1, hle, hr]; (try with_reducible refine ⟨?_, ?_⟩) <;> (try with_reducible intro hc) <;> try (exfalso; omega)) | ((first | (refine w_e [] ?_; intro J hJ; simp only []) | (refine w_q ?_; intro J hJ) | refine e_go ?_); simp [f1, f18, f19, f20, hlt, hd, hw, hx1, hx2, hk0, hw1, hd1, hlt1, hle, hr]; (repeat refine ca ?_); (try ((try with_reducible refine ⟨?_, ?_⟩) <;> (try with_reducible intro hnil) <;> refine hJ _ _ ?_ <;> clear hJ J <;> simp only [ak, reduceIte] <;> try subst hnil)))))
        exact Keeps.new _ _
      · have hb : badV g k = 0 := by rw [hbad]; unfold numb; rw [if_neg (by simp [hx1, hx2]), if_neg (by simp [hle])]
        (repeat' (first | refine awp_seq ?_ | refine awp_block ?_ | ((first | refine awp_skip ?_ | refine awp_exit ?_); simp only [ak, reduceIte]) | (refine awp_ret ?_; simp only [ak, reduceIte]; simp [f1, f18, f19, f20, hlt, hd, hw, hx1, hx2, hk0, hw1, hd1, hlt1, hle]) | (refine awp_cond ?_; simp [f1, f18, f19, f20, hlt, hd, hw, hx1, hx2, hk0, hw1, hd1, hlt1, hle]; (try with_reducible refine ⟨?_, ?_⟩) <;> (try with_reducible intro hc) <;> try (exfalso; omega)) | ((first | (refine w_e [] ?_; intro J hJ; simp only []) | (refine w_q ?_; intro J hJ) | refine e_go ?_); simp [f1, f18, f19, f20, hlt, hd, hw, hx1, hx2, hk0, hw1, hd1, hlt1, hle]; (repeat refine ca ?_); (try ((try with_reducible refine ⟨?_, ?_⟩) <;> (try with_reducible intro hnil) <;> refine hJ _ _ ?_ <;> clear hJ J <;> simp only [ak, reduceIte] <;> try subst hnil)))))
        refine hJJ _ _ _ ?_ ⟨k + 1, by omega, rfl, by simp [f1], by simp [f18], by simp [f19], by simp, rfl, hnext hb⟩
        omega
  have hk' : k = g.vs.length := by omega
  have hz : firstNZ (badV g) g.vs.length = 0 := firstNZ_zero (fun j hj => hno j (by omega))
  rw [hz] at hch
  simp only [ne_eq, not_true_eq_false, if_false] at hch
  clear hJJ hno hz
  have hel := eds_length g.es
  (repeat' (first | refine awp_seq ?_ | refine awp_block ?_ | ((first | refine awp_skip ?_ | refine awp_exit ?_); simp only [ak, reduceIte]) | (refine awp_ret ?_; simp only [ak, reduceIte]; simp [f1, f18, f19, f20, hlt]) | (refine awp_cond ?_; simp [f1, f18, f19, f20, hlt]; (try with_reducible refine ⟨?_, ?_⟩) <;> (try with_reducible intro hc) <;> try (exfalso; omega)) | ((first | (refine w_e [] ?_; intro J hJ; simp only []) | (refine w_q ?_; intro J hJ) | refine e_go ?_); simp [f1, f18, f19, f20, hlt]; (repeat refine ca ?_); (try ((try with_reducible refine ⟨?_, ?_⟩) <;> (try with_reducible intro hnil) <;> refine hJ _ _ ?_ <;> clear hJ J <;> simp only [ak, reduceIte] <;> try subst hnil)))))
  refine awp_loop (fun n fr st' => ∃ k : Nat, k ≤ g.es.length ∧ n = g.es.length - k ∧ fr 1 = .pt st.next 0 ∧ fr 45 = .sl 0 g.es.length (eds g.es) ∧ fr 46 = i g.es.length ∧ fr 47 = i k ∧ Keeps (st.new (.box 38 2 (grL g))) st' ∧ ∀ j, j < k → badE g j = 0) g.es.length ?_ ?_
  · exact ⟨0, by omega, by omega, by simp [f1], by simp, by simp, by simp, Keeps.refl _, fun j h => by omega⟩
  clear f1 f18 f19 f20 hlt hk' hk fr k
  rintro n fr st1 ⟨k, hk, rfl, f1, f45, f46, f47, hkp, hno⟩ JJ hJJ
  have hgH : st1.H st.next = .box 38 2 (grL g) := by rw [hkp.H _ (by simp)]; simp
  have hnx : ¬ st.next = st1.next := by have := hkp.next; simp only [new_next] at this; omega
  have hkp0 := (Keeps.new st (.box 38 2 (grL g))).trans hkp
  by_cases hlt : k < g.es.length
  · have hd := eds_drop g.es k hlt
    have hw := nat_add_one k (by omega)
    have hk3 : k * 3 < g.es.length * 3 := by omega
    have hbad : badE g k = (let x := g.es.getD k ed0; let n := numb x.id (g.es.getD (k - 1) ed0).id (decide (k = 0)); if n ≠ 0 then n else if x.a = x.b then 20 else if x.a ∉ g.vs ∨ x.b ∉ g.vs then 21 else 0) := rfl
    have hnext : badE g k = 0 → ∀ j, j < k + 1 → badE g j = 0 := fun hb j hj => by
      rcases Nat.lt_or_ge j k with h | h
      · exact hno j h
      · obtain rfl : j = k := by omega
        exact hb
    have hret : ∀ v, badE g k = v → v ≠ 0 → chk g = v := fun v h0 h1 => by
      rw [hch]; exact firstNZ_eq hlt hno h0 h1
    generalize hx : g.es.getD k ed0 = x at *
    obtain ⟨xi, xa, xb⟩ := x
    simp only at hd hbad
    have hkn := hkp0.trans (Keeps.new _ (.box 43 3 [u xi, u xa, u xb]))
    by_cases hx1 : xi < 1
    · have hn : numb xi (g.es.getD (k - 1) ed0).id (decide (k = 0)) = 2 := by unfold numb; rw [if_pos (.inl hx1)]
      have hr := hret 2 (by rw [hbad, hn]; rfl) (by decide)
      (repeat' (first | refine awp_seq ?_ | refine awp_block ?_ | ((first | refine awp_skip ?_ | refine awp_exit ?_); simp only [ak, reduceIte]) | (refine awp_ret ?_; simp only [ak, reduceIte]; simp [f1, f45, f46, f47, hlt, hd, hw, hel, hk3, hgH, hnx, hx1, hr]) | (refine awp_cond ?_; simp [f1, f45, f46, f47, hlt, hd, hw, hel, hk3, hgH, hnx, hx1, hr]; (try with_reducible refine ⟨?_, ?_⟩) <;> (try with_reducible intro hc) <;> try (exfalso; omega)) | ((first | (refine w_e [] ?_; intro J hJ; simp only []) | (refine w_q ?_; intro J hJ) | refine e_go ?_); simp [f1, f45, f46, f47, hlt, hd, hw, hel, hk3, hgH, hnx, hx1, hr]; (repeat refine ca ?_); (try ((try with_reducible refine ⟨?_, ?_⟩) <;> (try with_reducible intro hnil) <;> refine hJ _ _ ?_ <;> clear hJ J <;> simp only [ak, reduceIte] <;> try subst hnil)))))
      exact hkn
    by_cases hx2 : 1048576 < xi
    · have hn : numb xi (g.es.getD (k - 1) ed0).id (decide (k = 0)) = 2 := by unfold numb; rw [if_pos (.inr hx2)]
      have hr := hret 2 (by rw [hbad, hn]; rfl) (by decide)
      (repeat' (first | refine awp_seq ?_ | refine awp_block ?_ | ((first | refine awp_skip ?_ | refine awp_exit ?_); simp only [ak, reduceIte]) | (refine awp_ret ?_; simp only [ak, reduceIte]; simp [f1, f45, f46, f47, hlt, hd, hw, hel, hk3, hgH, hnx, hx1, hx2, hr]) | (refine awp_cond ?_; simp [f1, f45, f46, f47, hlt, hd, hw, hel, hk3, hgH, hnx, hx1, hx2, hr]; (try with_reducible refine ⟨?_, ?_⟩) <;> (try with_reducible intro hc) <;> try (exfalso; omega)) | ((first | (refine w_e [] ?_; intro J hJ; simp only []) | (refine w_q ?_; intro J hJ) | refine e_go ?_); simp [f1, f45, f46, f47, hlt, hd, hw, hel, hk3, hgH, hnx, hx1, hx2, hr]; (repeat refine ca ?_); (try ((try with_reducible refine ⟨?_, ?_⟩) <;> (try with_reducible intro hnil) <;> refine hJ _ _ ?_ <;> clear hJ J <;> simp only [ak, reduceIte] <;> try subst hnil)))))
      exact hkn
    by_cases hnb : numb xi (g.es.getD (k - 1) ed0).id (decide (k = 0)) = 0
    rotate_left
    · -- the number doesn't rise
      have h0 : k ≠ 0 := by rintro rfl; apply hnb; unfold numb; rw [if_neg (by simp [hx1, hx2])]; simp
      have hle : xi ≤ (g.es.getD (k - 1) ed0).id := by
        unfold numb at hnb
        rw [if_neg (by simp [hx1, hx2])] at hnb
        by_cases h : decide (k = 0) = false ∧ xi ≤ (g.es.getD (k - 1) ed0).id
        · exact h.2
        · rw [if_neg h] at hnb; exact absurd rfl hnb
      have hn : numb xi (g.es.getD (k - 1) ed0).id (decide (k = 0)) = 19 := by unfold numb; rw [if_neg (by simp [hx1, hx2]), if_pos ⟨by simp [h0], hle⟩]
      have hr := hret 19 (by rw [hbad, hn]; rfl) (by decide)
      have hk0 : 0 < k := by omega
      have hw1 : IntKind.i64.wrap ((k : Int) - 1) = ((k - 1 : Nat) : Int) := by rw [wrap_i64 _ (by omega) (by omega)]; omega
      have hd1 := eds_drop g.es (k - 1) (by omega)
      have hlt1 : k - 1 < g.es.length := by omega
      have hlt3 : (k - 1) * 3 < g.es.length * 3 := by omega
      generalize hy : g.es.getD (k - 1) ed0 = y at *
      obtain ⟨yi, ya, yb⟩ := y
      simp only at hd1 hle
      (repeat' (first | refine awp_seq ?_ | refine awp_block ?_ | ((first | refine awp_skip ?_ | refine awp_exit ?_); simp only [ak, reduceIte]) | (refine awp_ret ?_; simp only [ak, reduceIte]; simp [f1, f45, f46, f47, hlt, hd, hw, hel, hk3, hgH, hnx, hx1, hx2, hk0, hw1, hd1, hlt1, hlt3, hle, hr]) | (refine awp_cond ?_; simp [f1, f45, f46, f47, hlt, hd, hw, hel, hk3, hgH, hnx, hx1, hx2, hk0, hw1, hd1, hlt1, hlt3, hle, hr]; (try with_reducible refine ⟨?_, ?_⟩) <;> (try with_reducible intro hc) <;> try (exfalso; omega)) | ((first | (refine w_e [] ?_; intro J hJ; simp only []) | (refine w_q ?_; intro J hJ) | refine e_go ?_); simp [f1, f45, f46, f47, hlt, hd, hw, hel, hk3, hgH, hnx, hx1, hx2, hk0, hw1, hd1, hlt1, hlt3, hle, hr]; (repeat refine ca ?_); (try ((try with_reducible refine ⟨?_, ?_⟩) <;> (try with_reducible intro hnil) <;> refine hJ _ _ ?_ <;> clear hJ J <;> simp only [ak, reduceIte] <;> try subst hnil)))))
      exact hkn
    rw [if_neg (fun h => h hnb)] at hbad
    by_cases hab : xa = xb
    · have hr := hret 20 (by rw [hbad, if_pos hab]) (by decide)
      by_cases h0 : k = 0
      · have hk0 : ¬ 0 < k := by omega
        (repeat' (first | refine awp_seq ?_ | refine awp_block ?_ | ((first | refine awp_skip ?_ | refine awp_exit ?_); simp only [ak, reduceIte]) | (refine awp_ret ?_; simp only [ak, reduceIte]; simp [f1, f45, f46, f47, hlt, hd, hw, hel, hk3, hgH, hnx, hx1, hx2, hk0, hab, hr]) | (refine awp_cond ?_; simp [f1, f45, f46, f47, hlt, hd, hw, hel, hk3, hgH, hnx, hx1, hx2, hk0, hab, hr]; (try with_reducible refine ⟨?_, ?_⟩) <;> (try with_reducible intro hc) <;> try (exfalso; omega)) | ((first | (refine w_e [] ?_; intro J hJ; simp only []) | (refine w_q ?_; intro J hJ) | refine e_go ?_); simp [f1, f45, f46, f47, hlt, hd, hw, hel, hk3, hgH, hnx, hx1, hx2, hk0, hab, hr]; (repeat refine ca ?_); (try ((try with_reducible refine ⟨?_, ?_⟩) <;> (try with_reducible intro hnil) <;> refine hJ _ _ ?_ <;> clear hJ J <;> simp only [ak, reduceIte] <;> try subst hnil)))))
        exact hkp0.trans (Keeps.new _ _)
      · have hk0 : 0 < k := by omega
        have hw1 : IntKind.i64.wrap ((k : Int) - 1) = ((k - 1 : Nat) : Int) := by rw [wrap_i64 _ (by omega) (by omega)]; omega
        have hd1 := eds_drop g.es (k - 1) (by omega)
        have hlt1 : k - 1 < g.es.length := by omega
        have hlt3 : (k - 1) * 3 < g.es.length * 3 := by omega
        have hle : ¬ xi ≤ (g.es.getD (k - 1) ed0).id := by
          intro h
          unfold numb at hnb
          rw [if_neg (by simp [hx1, hx2]), if_pos ⟨by simp [h0], h⟩] at hnb
          cases hnb
        generalize hy : g.es.getD (k - 1) ed0 = y at *
        obtain ⟨yi, ya, yb⟩ := y
        simp only at hd1 hle
        (repeat' (first | refine awp_seq ?_ | refine awp_block ?_ | ((first | refine awp_skip ?_ | refine awp_exit ?_); simp only [ak, reduceIte]) | (refine awp_ret ?_; simp only [ak, reduceIte]; simp [f1, f45, f46, f47, hlt, hd, hw, hel, hk3, hgH, hnx, hx1, hx2, hk0, hw1, hd1, hlt1, hlt3, hle, hab, hr]) | (refine awp_cond ?_; simp [f1, f45, f46, f47, hlt, hd, hw, hel, hk3, hgH, hnx, hx1, hx2, hk0, hw1, hd1, hlt1, hlt3, hle, hab, hr]; (try with_reducible refine ⟨?_, ?_⟩) <;> (try with_reducible intro hc) <;> try (exfalso; omega)) | ((first | (refine w_e [] ?_; intro J hJ; simp only []) | (refine w_q ?_; intro J hJ) | refine e_go ?_); simp [f1, f45, f46, f47, hlt, hd, hw, hel, hk3, hgH, hnx, hx1, hx2, hk0, hw1, hd1, hlt1, hlt3, hle, hab, hr]; (repeat refine ca ?_); (try ((try with_reducible refine ⟨?_, ?_⟩) <;> (try with_reducible intro hnil) <;> refine hJ _ _ ?_ <;> clear hJ J <;> simp only [ak, reduceIte] <;> try subst hnil)))))
        exact hkp0.trans (Keeps.new _ _)
    rw [if_neg hab] at hbad
    by_cases h0 : k = 0
    · have hk0 : ¬ 0 < k := by omega
      (repeat' (first | refine awp_seq ?_ | refine awp_block ?_ | ((first | refine awp_skip ?_ | refine awp_exit ?_); simp only [ak, reduceIte]) | (refine awp_ret ?_; simp only [ak, reduceIte]; simp [f1, f45, f46, f47, hlt, hd, hw, hel, hk3, hgH, hnx, hx1, hx2, hk0, hab]) | (refine awp_cond ?_; simp [f1, f45, f46, f47, hlt, hd, hw, hel, hk3, hgH, hnx, hx1, hx2, hk0, hab]; (try with_reducible refine ⟨?_, ?_⟩) <;> (try with_reducible intro hc) <;> try (exfalso; omega)) | ((first | (refine w_e [] ?_; intro J hJ; simp only []) | (refine w_q ?_; intro J hJ) | refine e_go ?_); simp [f1, f45, f46, f47, hlt, hd, hw, hel, hk3, hgH, hnx, hx1, hx2, hk0, hab]; (repeat refine ca ?_); (try ((try with_reducible refine ⟨?_, ?_⟩) <;> (try with_reducible intro hnil) <;> refine hJ _ _ ?_ <;> clear hJ J <;> simp only [ak, reduceIte] <;> try subst hnil)))))
      refine callK_ofE (Has g xa _ hsm) (by simp []) ?_; rintro r st' ⟨rfl, hk1⟩
      have hB1 : st'.H st1.next = .box 43 3 [u xi, u xa, u xb] := by rw [hk1.H _ (by simp)]; simp
      have hgH1 : st'.H st.next = .box 38 2 (grL g) := by
        rw [hk1.H _ (by have := hkp.next; simp only [new_next] at this ⊢; omega), new_H, if_neg hnx]; exact hgH
      have hkp1 := (hkp.trans (Keeps.new _ _)).trans hk1
      have hkp01 := (hkp0.trans (Keeps.new _ _)).trans hk1
      by_cases hma : xa ∈ g.vs
      rotate_left
      · have hr := hret 21 (by rw [hbad, if_pos (.inl hma)]) (by decide)
        (repeat' (first | refine awp_seq ?_ | refine awp_block ?_ | ((first | refine awp_skip ?_ | refine awp_exit ?_); simp only [ak, reduceIte]) | (refine awp_ret ?_; simp only [ak, reduceIte]; simp [f1, hB1, hgH1, hr, hma]) | (refine awp_cond ?_; simp [f1, hB1, hgH1, hr, hma]; (try with_reducible refine ⟨?_, ?_⟩) <;> (try with_reducible intro hc) <;> try (exfalso; omega)) | ((first | (refine w_e [] ?_; intro J hJ; simp only []) | (refine w_q ?_; intro J hJ) | refine e_go ?_); simp [f1, hB1, hgH1, hr, hma]; (repeat refine ca ?_); (try ((try with_reducible refine ⟨?_, ?_⟩) <;> (try with_reducible intro hnil) <;> refine hJ _ _ ?_ <;> clear hJ J <;> simp only [ak, reduceIte] <;> try subst hnil)))))
        exact hkp01
      (refine e_go ?_; simp [f1, hB1, hgH1, hma]; (repeat refine ca ?_); (try ((try with_reducible refine ⟨?_, ?_⟩) <;> (try with_reducible intro hnil) <;> refine hJ _ _ ?_ <;> clear hJ J <;> simp only [ak, reduceIte] <;> try subst hnil)))
      refine callK_ofE (Has g xb _ hsm) (by simp []) ?_; rintro r st' ⟨rfl, hk2⟩
      by_cases hmb : xb ∈ g.vs
      rotate_left
      · have hr := hret 21 (by rw [hbad, if_pos (.inr hmb)]) (by decide)
        (repeat' (first | refine awp_seq ?_ | refine awp_block ?_ | ((first | refine awp_skip ?_ | refine awp_exit ?_); simp only [ak, reduceIte]) | (refine awp_ret ?_; simp only [ak, reduceIte]; simp [hr, hmb]) | (refine awp_cond ?_; simp [hr, hmb]; (try with_reducible refine ⟨?_, ?_⟩) <;> (try with_reducible intro hc) <;> try (exfalso; omega)) | ((first | (refine w_e [] ?_; intro J hJ; simp only []) | (refine w_q ?_; intro J hJ) | refine e_go ?_); simp [hr, hmb]; (repeat refine ca ?_); (try ((try with_reducible refine ⟨?_, ?_⟩) <;> (try with_reducible intro hnil) <;> refine hJ _ _ ?_ <;> clear hJ J <;> simp only [ak, reduceIte] <;> try subst hnil)))))
        exact hkp01.trans hk2
      have hb' : badE g k = 0 := by rw [hbad, if_neg (by simp [hma, hmb])]
      (repeat' (first | refine awp_seq ?_ | refine awp_block ?_ | ((first | refine awp_skip ?_ | refine awp_exit ?_); simp only [ak, reduceIte]) | (refine awp_ret ?_; simp only [ak, reduceIte]; simp [f47, hw, hmb]) | (refine awp_cond ?_; simp [f47, hw, hmb]; (try with_reducible refine ⟨?_, ?_⟩) <;> (try with_reducible intro hc) <;> try (exfalso; omega)) | ((first | (refine w_e [] ?_; intro J hJ; simp only []) | (refine w_q ?_; intro J hJ) | refine e_go ?_); simp [f47, hw, hmb]; (repeat refine ca ?_); (try ((try with_reducible refine ⟨?_, ?_⟩) <;> (try with_reducible intro hnil) <;> refine hJ _ _ ?_ <;> clear hJ J <;> simp only [ak, reduceIte] <;> try subst hnil)))))
      refine hJJ _ _ _ ?_ ⟨k + 1, by omega, rfl, by simp [f1], by simp [f45], by simp [f46], by simp, hkp1.trans hk2, hnext hb'⟩
      omega
    · have hk0 : 0 < k := by omega
      have hw1 : IntKind.i64.wrap ((k : Int) - 1) = ((k - 1 : Nat) : Int) := by rw [wrap_i64 _ (by omega) (by omega)]; omega
      have hd1 := eds_drop g.es (k - 1) (by omega)
      have hlt1 : k - 1 < g.es.length := by omega
      have hlt3 : (k - 1) * 3 < g.es.length * 3 := by omega
      have hle : ¬ xi ≤ (g.es.getD (k - 1) ed0).id := by
        intro h
        unfold numb at hnb
        rw [if_neg (by simp [hx1, hx2]), if_pos ⟨by simp [h0], h⟩] at hnb
        cases hnb
      generalize hy : g.es.getD (k - 1) ed0 = y at *
      obtain ⟨yi, ya, yb⟩ := y
      simp only at hd1 hle
      (repeat' (first | refine awp_seq ?_ | refine awp_block ?_ | ((first | refine awp_skip ?_ | refine awp_exit ?_); simp only [ak, reduceIte]) | (refine awp_ret ?_; simp only [ak, reduceIte]; simp [f1, f45, f46, f47, hlt, hd, hw, hel, hk3, hgH, hnx, hx1, hx2, hk0, hw1, hd1, hlt1, hlt3, hle, hab]) | (refine awp_cond ?_; simp [f1, f45, f46, f47, hlt, hd, hw, hel, hk3, hgH, hnx, hx1, hx2, hk0, hw1, hd1, hlt1, hlt3, hle, hab]; (try with_reducible refine ⟨?_, ?_⟩) <;> (try with_reducible intro hc) <;> try (exfalso; omega)) | ((first | (refine w_e [] ?_; intro J hJ; simp only []) | (refine w_q ?_; intro J hJ) | refine e_go ?_); simp [f1, f45, f46, f47, hlt, hd, hw, hel, hk3, hgH, hnx, hx1, hx2, hk0, hw1, hd1, hlt1, hlt3, hle, hab]; (repeat refine ca ?_); (try ((try with_reducible refine ⟨?_, ?_⟩) <;> (try with_reducible intro hnil) <;> refine hJ _ _ ?_ <;> clear hJ J <;> simp only [ak, reduceIte] <;> try subst hnil)))))
      refine callK_ofE (Has g xa _ hsm) (by simp []) ?_; rintro r st' ⟨rfl, hk1⟩
      have hB1 : st'.H st1.next = .box 43 3 [u xi, u xa, u xb] := by rw [hk1.H _ (by simp)]; simp
      have hgH1 : st'.H st.next = .box 38 2 (grL g) := by
        rw [hk1.H _ (by have := hkp.next; simp only [new_next] at this ⊢; omega), new_H, if_neg hnx]; exact hgH
      have hkp1 := (hkp.trans (Keeps.new _ _)).trans hk1
      have hkp01 := (hkp0.trans (Keeps.new _ _)).trans hk1
      by_cases hma : xa ∈ g.vs
      rotate_left
      · have hr := hret 21 (by rw [hbad, if_pos (.inl hma)]) (by decide)
        (repeat' (first | refine awp_seq ?_ | refine awp_block ?_ | ((first | refine awp_skip ?_ | refine awp_exit ?_); simp only [ak, reduceIte]) | (refine awp_ret ?_; simp only [ak, reduceIte]; simp [f1, hB1, hgH1, hr, hma]) | (refine awp_cond ?_; simp [f1, hB1, hgH1, hr, hma]; (try with_reducible refine ⟨?_, ?_⟩) <;> (try with_reducible intro hc) <;> try (exfalso; omega)) | ((first | (refine w_e [] ?_; intro J hJ; simp only []) | (refine w_q ?_; intro J hJ) | refine e_go ?_); simp [f1, hB1, hgH1, hr, hma]; (repeat refine ca ?_); (try ((try with_reducible refine ⟨?_, ?_⟩) <;> (try with_reducible intro hnil) <;> refine hJ _ _ ?_ <;> clear hJ J <;> simp only [ak, reduceIte] <;> try subst hnil)))))
        exact hkp01
      (refine e_go ?_; simp [f1, hB1, hgH1, hma]; (repeat refine ca ?_); (try ((try with_reducible refine ⟨?_, ?_⟩) <;> (try with_reducible intro hnil) <;> refine hJ _ _ ?_ <;> clear hJ J <;> simp only [ak, reduceIte] <;> try subst hnil)))
      refine callK_ofE (Has g xb _ hsm) (by simp []) ?_; rintro r st' ⟨rfl, hk2⟩
      by_cases hmb : xb ∈ g.vs
      rotate_left
      · have hr := hret 21 (by rw [hbad, if_pos (.inr hmb)]) (by decide)
        (repeat' (first | refine awp_seq ?_ | refine awp_block ?_ | ((first | refine awp_skip ?_ | refine awp_exit ?_); simp only [ak, reduceIte]) | (refine awp_ret ?_; simp only [ak, reduceIte]; simp [hr, hmb]) | (refine awp_cond ?_; simp [hr, hmb]; (try with_reducible refine ⟨?_, ?_⟩) <;> (try with_reducible intro hc) <;> try (exfalso; omega)) | ((first | (refine w_e [] ?_; intro J hJ; simp only []) | (refine w_q ?_; intro J hJ) | refine e_go ?_); simp [hr, hmb]; (repeat refine ca ?_); (try ((try with_reducible refine ⟨?_, ?_⟩) <;> (try with_reducible intro hnil) <;> refine hJ _ _ ?_ <;> clear hJ J <;> simp only [ak, reduceIte] <;> try subst hnil)))))
        exact hkp01.trans hk2
      have hb' : badE g k = 0 := by rw [hbad, if_neg (by simp [hma, hmb])]
      (repeat' (first | refine awp_seq ?_ | refine awp_block ?_ | ((first | refine awp_skip ?_ | refine awp_exit ?_); simp only [ak, reduceIte]) | (refine awp_ret ?_; simp only [ak, reduceIte]; simp [f47, hw, hmb]) | (refine awp_cond ?_; simp [f47, hw, hmb]; (try with_reducible refine ⟨?_, ?_⟩) <;> (try with_reducible intro hc) <;> try (exfalso; omega)) | ((first | (refine w_e [] ?_; intro J hJ; simp only []) | (refine w_q ?_; intro J hJ) | refine e_go ?_); simp [f47, hw, hmb]; (repeat refine ca ?_); (try ((try with_reducible refine ⟨?_, ?_⟩) <;> (try with_reducible intro hnil) <;> refine hJ _ _ ?_ <;> clear hJ J <;> simp only [ak, reduceIte] <;> try subst hnil)))))
      refine hJJ _ _ _ ?_ ⟨k + 1, by omega, rfl, by simp [f1], by simp [f45], by simp [f46], by simp, hkp1.trans hk2, hnext hb'⟩
      omega
  · have hr : chk g = 0 := by rw [hch]; exact firstNZ_zero (fun j hj => hno j (by omega))
    clear hJJ
    (repeat' (first | refine awp_seq ?_ | refine awp_block ?_ | ((first | refine awp_skip ?_ | refine awp_exit ?_); simp only [ak, reduceIte]) | (refine awp_ret ?_; simp only [ak, reduceIte]; simp [f1, f45, f46, f47, hlt, hr]) | (refine awp_cond ?_; simp [f1, f45, f46, f47, hlt, hr]; (try with_reducible refine ⟨?_, ?_⟩) <;> (try with_reducible intro hc) <;> try (exfalso; omega)) | ((first | (refine w_e [] ?_; intro J hJ; simp only []) | (refine w_q ?_; intro J hJ) | refine e_go ?_); simp [f1, f45, f46, f47, hlt, hr]; (repeat refine ca ?_); (try ((try with_reducible refine ⟨?_, ?_⟩) <;> (try with_reducible intro hnil) <;> refine hJ _ _ ?_ <;> clear hJ J <;> simp only [ak, reduceIte] <;> try subst hnil)))))
    exact hkp0

end Go.Proofs.YtomfeddgeihipaaGreat.Aw

namespace Go.Proofs.YtomfeddgeihipaaGreat.Aw
open Go Go.RowKit Go.Proofs.YtomfeddgeihipaaGreat.Pl
set_option linter.unusedSimpArgs false
set_option linter.unusedVariables false

end Go.Proofs.YtomfeddgeihipaaGreat.Aw

namespace Go.Proofs.YtomfeddgeihipaaGreat.Aw
open Go Go.RowKit Go.Proofs.YtomfeddgeihipaaGreat.Pl
set_option linter.unusedSimpArgs false
set_option linter.unusedVariables false

end Go.Proofs.YtomfeddgeihipaaGreat.Aw

namespace Go.Proofs.YtomfeddgeihipaaGreat.Aw
open Go Go.RowKit Go.Proofs.YtomfeddgeihipaaGreat.Pl
set_option linter.unusedSimpArgs false
set_option linter.unusedVariables false

theorem ref_CheckA (g : Gr) (st : St) : ACalls Tryz.prog 24 [.ag (grL g)] st fun r st' => r = i (chk g) ∧ Keeps st st' := by
  by_cases h1 : (64 : Int) < (g.vs.length : Int)
  · have : chk g = 6 := by unfold chk; rw [if_pos (by omega)]
    refine acalls_of_body tabOk Tryz.func24 rfl rfl Tryz.ntmps24 (rs := [.tmp 2]) rfl (by simp) ?_
    (repeat' (first | refine awp_seq ?_ | refine awp_block ?_ | ((first | refine awp_skip ?_ | refine awp_exit ?_); simp only [ak, reduceIte]) | (refine awp_ret ?_; simp only [ak, reduceIte]; simp [h1, this]) | (refine awp_cond ?_; simp [h1, this]; (try with_reducible refine ⟨?_, ?_⟩) <;> (try with_reducible intro hc) <;> try (exfalso; omega)) | ((first | (refine w_e [] ?_; intro J hJ; simp only []) | (refine w_q ?_; intro J hJ) | refine e_go ?_); simp [h1, this]; (repeat refine ca ?_); (try ((try with_reducible refine ⟨?_, ?_⟩) <;> (try with_reducible intro hnil) <;> refine hJ _ _ ?_ <;> clear hJ J <;> simp only [ak, reduceIte] <;> try subst hnil)))))
    exact Keeps.new _ _
  by_cases h2 : (160 : Int) < (g.es.length : Int)
  · have : chk g = 6 := by unfold chk; rw [if_pos (by omega)]
    refine acalls_of_body tabOk Tryz.func24 rfl rfl Tryz.ntmps24 (rs := [.tmp 2]) rfl (by simp) ?_
    (repeat' (first | refine awp_seq ?_ | refine awp_block ?_ | ((first | refine awp_skip ?_ | refine awp_exit ?_); simp only [ak, reduceIte]) | (refine awp_ret ?_; simp only [ak, reduceIte]; simp [h1, h2, this]) | (refine awp_cond ?_; simp [h1, h2, this]; (try with_reducible refine ⟨?_, ?_⟩) <;> (try with_reducible intro hc) <;> try (exfalso; omega)) | ((first | (refine w_e [] ?_; intro J hJ; simp only []) | (refine w_q ?_; intro J hJ) | refine e_go ?_); simp [h1, h2, this]; (repeat refine ca ?_); (try ((try with_reducible refine ⟨?_, ?_⟩) <;> (try with_reducible intro hnil) <;> refine hJ _ _ ?_ <;> clear hJ J <;> simp only [ak, reduceIte] <;> try subst hnil)))))
    exact Keeps.new _ _
  exact ref_Check g st (by omega) (by omega)

/-- Its entries are turns. -/
def Turns (es : List (List Int × LV)) : Prop := ∀ x, mget es x = none ∨ ∃ r : List Int, mget es x = some (.sl 0 r.length (us r)) ∧ r.length ≤ 300

theorem Turns.fn {es : List (List Int × LV)} (h : Turns es) : ∃ tf : Int → List Int, ∀ v, ∃ x t, (mget es [v]).getD .nil = x ∧ norm x = .sl t (tf v).length (us (tf v)) ∧ (tf v).length ≤ 1000 := by
  have : ∀ v : Int, ∃ y : List Int, ∃ x t, (mget es [v]).getD .nil = x ∧ norm x = .sl t y.length (us y) ∧ y.length ≤ 1000 := by
    intro v
    rcases h [v] with h1 | ⟨r, h1, h2⟩
    · exact ⟨[], .nil, 0, by rw [h1]; rfl, rfl, by simp⟩
    · exact ⟨r, .sl 0 r.length (us r), 0, by rw [h1]; rfl, rfl, by omega⟩
  exact ⟨fun v => Classical.choose (this v), fun v => Classical.choose_spec (this v)⟩

end Go.Proofs.YtomfeddgeihipaaGreat.Aw

namespace Go.Proofs.YtomfeddgeihipaaGreat.Aw
open Go Go.RowKit Go.Proofs.YtomfeddgeihipaaGreat.Pl
set_option linter.unusedSimpArgs false
set_option linter.unusedVariables false

theorem awp_posG {P : Program} {N : Nat} {Q : AQ} {c : Code} {fr : Frm} {st : St} (h : 0 < st.next → AWp P N c Q fr st) : AWp P N c Q fr st :=
  fun a w g hi hr hs hd => h hi.pos a w g hi hr hs hd

def end1 (v : Int) (x : Ed) : List Int := (if x.a = v then [2 * x.id] else []) ++ (if x.b = v then [2 * x.id + 1] else [])
/-- The darts at a vertex. -/
def ends (es : List Ed) (v : Int) : List Int := es.flatMap (end1 v)
def idOk (es : List Ed) : Prop := ∀ x ∈ es, 0 ≤ x.id ∧ x.id ≤ 1048576
theorem idOk.at {es : List Ed} (h : idOk es) (k : Nat) (hk : k < es.length) : 0 ≤ (es.getD k ed0).id ∧ (es.getD k ed0).id ≤ 1048576 := by
  rw [List.getD_eq_getElem?_getD, List.getElem?_eq_getElem hk]; exact h _ (List.getElem_mem hk)
def OwnAt (t : Nat) (lo : St) (l : List Int) (st : St) : Prop := t ≠ 0 ∧ lo.next ≤ t ∧ t < st.next ∧ st.H t = .own 41 1 l.length ∧ Keeps lo st

end Go.Proofs.YtomfeddgeihipaaGreat.Aw

namespace Go.Proofs.YtomfeddgeihipaaGreat.Aw
open Go Go.RowKit Go.Proofs.YtomfeddgeihipaaGreat.Pl
set_option linter.unusedSimpArgs false
set_option linter.unusedVariables false

/-! ### the least number that stands twice -/
/-- b is the least number that stands twice; 0: there is none. -/
def MinDup (c : List Int) (b : Int) : Prop := (b = 0 ∧ ∀ d, c.count d ≤ 1) ∨ (b ≠ 0 ∧ 2 ≤ c.count b ∧ ∀ d, 2 ≤ c.count d → b ≤ d)
theorem MinDup.perm {c d : List Int} {b : Int} (h : MinDup c b) (p : c.Perm d) : MinDup d b := by
  have e : ∀ x, d.count x = c.count x := fun x => (p.count_eq x).symm
  rcases h with ⟨h1, h2⟩ | ⟨h1, h2, h3⟩
  · exact .inl ⟨h1, fun x => by rw [e]; exact h2 x⟩
  · exact .inr ⟨h1, by rw [e]; exact h2, fun x hx => h3 x (by rw [← e]; exact hx)⟩
theorem MinDup.nil : MinDup [] 0 := .inl ⟨rfl, fun _ => by simp⟩
theorem count_snoc (c : List Int) (x d : Int) : (c ++ [x]).count d = c.count d + if x = d then 1 else 0 := by
  rw [List.count_append, List.count_cons, List.count_nil]
  by_cases h : x = d <;> simp [h]
theorem MinDup.snoc {c : List Int} {b x : Int} (h : MinDup c b) (hx : 0 < x) (hc : ∀ y ∈ c, 0 < y) : MinDup (c ++ [x]) (if x ∈ c ∧ (b = 0 ∨ x < b) then x else b) := by
  have e := count_snoc c x
  have hcx : x ∈ c ↔ 1 ≤ c.count x := by rw [← List.count_pos_iff]; exact Iff.rfl
  by_cases hm : x ∈ c
  · have h1 := hcx.1 hm
    rcases h with ⟨h2, h3⟩ | ⟨h2, h3, h4⟩
    · rw [if_pos ⟨hm, .inl h2⟩]
      refine .inr ⟨by omega, by rw [e, if_pos rfl]; omega, fun d hd => ?_⟩
      rw [e] at hd
      by_cases hxd : x = d
      · omega
      · rw [if_neg hxd] at hd; have := h3 d; omega
    · by_cases hlt : x < b
      · rw [if_pos ⟨hm, .inr hlt⟩]
        refine .inr ⟨by omega, by rw [e, if_pos rfl]; omega, fun d hd => ?_⟩
        rw [e] at hd
        by_cases hxd : x = d
        · omega
        · rw [if_neg hxd] at hd; have := h4 d (by omega); omega
      · rw [if_neg (by rintro ⟨_, g | g⟩ <;> omega)]
        refine .inr ⟨h2, by rw [e]; split <;> omega, fun d hd => ?_⟩
        rw [e] at hd
        by_cases hxd : x = d
        · omega
        · rw [if_neg hxd] at hd; exact h4 d (by omega)
  · have h1 : c.count x = 0 := by have := mt hcx.2 hm; omega
    rw [if_neg (fun g => hm g.1)]
    rcases h with ⟨h2, h3⟩ | ⟨h2, h3, h4⟩
    · refine .inl ⟨h2, fun d => ?_⟩
      rw [e]
      by_cases hxd : x = d
      · subst hxd; rw [if_pos rfl]; omega
      · rw [if_neg hxd]; exact h3 d
    · refine .inr ⟨h2, by rw [e]; split <;> omega, fun d hd => ?_⟩
      rw [e] at hd
      by_cases hxd : x = d
      · subst hxd; rw [if_pos rfl] at hd; omega
      · rw [if_neg hxd] at hd; exact h4 d (by omega)
/-! ### rising rows are told by what is in them -/
theorem rise_eq {α : Type} (f : α → Int) : ∀ {a b : List α}, (a.map f).Pairwise (· < ·) → (b.map f).Pairwise (· < ·) → (∀ x, x ∈ a ↔ x ∈ b) → a = b
  | [], [], _, _, _ => rfl
  | [], y :: b, _, _, h => by have := (h y).2 (by simp); simp at this
  | x :: a, [], _, _, h => by have := (h x).1 (by simp); simp at this
  | x :: a, y :: b, ha, hb, h => by
    simp only [List.map_cons, List.pairwise_cons, List.mem_map, forall_exists_index, and_imp, forall_apply_eq_imp_iff₂] at ha hb
    have hxy : x = y := by
      rcases List.mem_cons.1 ((h x).1 (by simp)) with h1 | h1
      · exact h1
      · rcases List.mem_cons.1 ((h y).2 (by simp)) with h2 | h2
        · exact h2.symm
        · have := ha.1 y h2; have := hb.1 x h1; omega
    subst hxy
    congr 1
    refine rise_eq f ha.2 hb.2 fun z => ?_
    have hz := h z
    rw [List.mem_cons, List.mem_cons] at hz
    constructor
    · intro hza
      rcases hz.1 (.inr hza) with h1 | h1
      · subst h1; have := ha.1 z hza; omega
      · exact h1
    · intro hzb
      rcases hz.2 (.inr hzb) with h1 | h1
      · subst h1; have := hb.1 z hzb; omega
      · exact h1

/-! ### a thing laid into a rising row -/
section
variable {α : Type} (f : α → Int)
def ins1 (v : α) : List α → List α
  | [] => [v]
  | x :: t => if f v < f x then v :: x :: t else x :: ins1 v t
def insU (v : α) (l : List α) : List α := if l.any fun x => decide (f x = f v) then l else ins1 f v l
/-- All of a row, laid one by one. -/
def insAll (l : List α) : List α := l.foldl (fun c v => insU f v c) []
end

end Go.Proofs.YtomfeddgeihipaaGreat.Aw

namespace Go.Proofs.YtomfeddgeihipaaGreat.Aw
open Go Go.RowKit Go.Proofs.YtomfeddgeihipaaGreat.Pl
set_option linter.unusedSimpArgs false
set_option linter.unusedVariables false

theorem snocI {α : Type} {P : List α → Prop} (h0 : P []) (h1 : ∀ l x, P l → P (l ++ [x])) (l : List α) : P l := by
  rw [← List.reverse_reverse l]
  generalize l.reverse = r
  induction r with
  | nil => exact h0
  | cons x r ih => rw [List.reverse_cons]; exact h1 _ _ ih

def bes (x y : Ed) : Bool := decide (x.a = y.a ∧ x.b = y.b ∨ x.a = y.b ∧ x.b = y.a)
theorem bes_iff {x y : Ed} : bes x y = true ↔ (x.a = y.a ∧ x.b = y.b ∨ x.a = y.b ∧ x.b = y.a) := by simp [bes]
theorem bes_symm {x y : Ed} (h : bes x y = true) : bes y x = true := by
  rw [bes_iff] at h ⊢
  rcases h with ⟨h1, h2⟩ | ⟨h1, h2⟩
  · exact .inl ⟨h1.symm, h2.symm⟩
  · exact .inr ⟨h2.symm, h1.symm⟩
theorem bes_refl (x : Ed) : bes x x = true := by rw [bes_iff]; exact .inl ⟨rfl, rfl⟩
theorem bes_trans {x y z : Ed} (h : bes x y = true) (k : bes y z = true) : bes x z = true := by
  rw [bes_iff] at h k ⊢
  rcases h with ⟨h1, h2⟩ | ⟨h1, h2⟩ <;> rcases k with ⟨k1, k2⟩ | ⟨k1, k2⟩
  · exact .inl ⟨h1.trans k1, h2.trans k2⟩
  · exact .inr ⟨h1.trans k1, h2.trans k2⟩
  · exact .inr ⟨h1.trans k2, h2.trans k1⟩
  · exact .inl ⟨h1.trans k2, h2.trans k1⟩

/-- Of each bundle the first. -/
def sE (l : List Ed) : List Ed := l.foldl (fun acc x => if acc.any (bes x) then acc else acc ++ [x]) []
theorem sE_snoc (l : List Ed) (x : Ed) : sE (l ++ [x]) = if (sE l).any (bes x) then sE l else sE l ++ [x] := by
  simp [sE, List.foldl_append]
theorem sE_sub (l : List Ed) : ∀ x ∈ sE l, x ∈ l := by
  induction l using snocI with
  | h0 => simp [sE]
  | h1 l x ih =>
    intro y hy
    rw [sE_snoc] at hy
    split at hy
    · exact List.mem_append_left _ (ih y hy)
    · rcases List.mem_append.1 hy with h | h
      · exact List.mem_append_left _ (ih y h)
      · exact List.mem_append_right _ h
theorem sE_has (l : List Ed) : ∀ x ∈ l, ∃ y ∈ sE l, bes x y = true := by
  induction l using snocI with
  | h0 => simp
  | h1 l x ih =>
    intro y hy
    rw [sE_snoc]
    rcases List.mem_append.1 hy with h | h
    · obtain ⟨z, h1, h2⟩ := ih y h
      split
      · exact ⟨z, h1, h2⟩
      · exact ⟨z, List.mem_append_left _ h1, h2⟩
    · rw [List.mem_singleton] at h
      subst h
      split
      · rename_i ha
        rw [List.any_eq_true] at ha
        obtain ⟨z, h1, h2⟩ := ha
        exact ⟨z, h1, h2⟩
      · exact ⟨y, List.mem_append_right _ (by simp), bes_refl y⟩
theorem sE_len (l : List Ed) : (sE l).length ≤ l.length := by
  induction l using snocI with
  | h0 => simp [sE]
  | h1 l x ih =>
    rw [sE_snoc]
    split
    · rw [List.length_append]; omega
    · rw [List.length_append, List.length_append]; simp only [List.length_cons, List.length_nil]; omega
theorem sE_apart (l : List Ed) : (sE l).Pairwise fun x y => bes x y = false := by
  induction l using snocI with
  | h0 => simp [sE]
  | h1 l x ih =>
    rw [sE_snoc]
    split
    · exact ih
    · rename_i ha
      rw [List.pairwise_append]
      refine ⟨ih, List.pairwise_singleton _ _, fun y hy z hz => ?_⟩
      rw [List.mem_singleton] at hz
      subst hz
      cases hb : bes y z with
      | false => rfl
      | true => exact absurd (List.any_eq_true.2 ⟨y, hy, bes_symm hb⟩) ha

/-- An edge's two halves. -/
abbrev hf (x : Ed) : List (Int × Int) := [(x.a, x.b), (x.b, x.a)]
def hfs (l : List Ed) : List (Int × Int) := l.flatMap hf
theorem hfs_snoc (l : List Ed) (x : Ed) : hfs (l ++ [x]) = hfs l ++ [(x.a, x.b)] ++ [(x.b, x.a)] := by simp [hfs]
theorem hfs_len (l : List Ed) : (hfs l).length = 2 * l.length := by
  induction l with
  | nil => rfl
  | cons x l ih => simp only [hfs, List.flatMap_cons, List.length_append, List.length_cons, List.length_nil] at ih ⊢; omega
theorem mem_hfs {l : List Ed} {p : Int × Int} : p ∈ hfs l ↔ ∃ x ∈ l, (x.a = p.1 ∧ x.b = p.2) ∨ (x.b = p.1 ∧ x.a = p.2) := by
  obtain ⟨p1, p2⟩ := p
  simp only [hfs, List.mem_flatMap, List.mem_cons, List.not_mem_nil, or_false, Prod.mk.injEq]
  constructor
  · rintro ⟨x, hx, ⟨rfl, rfl⟩ | ⟨rfl, rfl⟩⟩
    · exact ⟨x, hx, .inl ⟨rfl, rfl⟩⟩
    · exact ⟨x, hx, .inr ⟨rfl, rfl⟩⟩
  · rintro ⟨x, hx, ⟨rfl, rfl⟩ | ⟨rfl, rfl⟩⟩
    · exact ⟨x, hx, .inl ⟨rfl, rfl⟩⟩
    · exact ⟨x, hx, .inr ⟨rfl, rfl⟩⟩

/-- What stands beside a number. -/
def nbH (v : Int) (H : List (Int × Int)) : List Int := (H.filter fun p => decide (p.1 = v)).map (·.2)
theorem nbH_snoc (v : Int) (H : List (Int × Int)) (p : Int × Int) : nbH v (H ++ [p]) = nbH v H ++ if p.1 = v then [p.2] else [] := by
  unfold nbH
  rw [List.filter_append, List.map_append]
  by_cases h : p.1 = v
  · simp [h]
  · simp [h]
theorem nbH_len (v : Int) (H : List (Int × Int)) : (nbH v H).length ≤ H.length := by
  unfold nbH
  rw [List.length_map]
  exact List.length_filter_le _ _
theorem mem_nbH {v w : Int} {H : List (Int × Int)} : w ∈ nbH v H ↔ (v, w) ∈ H := by
  unfold nbH
  simp only [List.mem_map, List.mem_filter, decide_eq_true_eq]
  constructor
  · rintro ⟨p, ⟨h1, h2⟩, h3⟩
    subst h2 h3
    exact h1
  · intro h
    exact ⟨(v, w), ⟨h, rfl⟩, rfl⟩

/-- A row put in order. -/
def insI (x : Int) : List Int → List Int
  | [] => [x]
  | y :: l => if x ≤ y then x :: y :: l else y :: insI x l
def srt : List Int → List Int
  | [] => []
  | x :: l => insI x (srt l)
theorem insI_perm (x : Int) (l : List Int) : (insI x l).Perm (x :: l) := by
  induction l with
  | nil => exact .refl _
  | cons y l ih =>
    unfold insI
    split
    · exact .refl _
    · exact (ih.cons y).trans (.swap x y l)
theorem srt_perm (l : List Int) : (srt l).Perm l := by
  induction l with
  | nil => exact .refl _
  | cons x l ih => exact (insI_perm x _).trans (ih.cons x)
theorem insI_sorted (x : Int) {l : List Int} (h : l.Pairwise (· ≤ ·)) : (insI x l).Pairwise (· ≤ ·) := by
  induction l with
  | nil => exact List.pairwise_singleton _ _
  | cons y l ih =>
    have h' := List.pairwise_cons.1 h
    unfold insI
    split
    · rename_i hxy
      refine List.pairwise_cons.2 ⟨fun z hz => ?_, h⟩
      rcases List.mem_cons.1 hz with rfl | hz
      · exact hxy
      · have := h'.1 z hz; omega
    · rename_i hxy
      refine List.pairwise_cons.2 ⟨fun z hz => ?_, ih h'.2⟩
      rcases List.mem_cons.1 ((insI_perm x l).mem_iff.1 hz) with rfl | hz
      · omega
      · exact h'.1 z hz
theorem srt_sorted (l : List Int) : (srt l).Pairwise (· ≤ ·) := by
  induction l with
  | nil => exact .nil
  | cons x l ih => exact insI_sorted x ih
theorem sorted_unique : ∀ {a b : List Int}, a.Pairwise (· ≤ ·) → b.Pairwise (· ≤ ·) → a.Perm b → a = b
  | [], b, _, _, h => by rw [h.nil_eq]
  | x :: a, [], _, _, h => absurd h.symm.nil_eq (by simp)
  | x :: a, y :: b, ha, hb, h => by
    obtain ⟨a1, a2⟩ := List.pairwise_cons.1 ha
    obtain ⟨b1, b2⟩ := List.pairwise_cons.1 hb
    have hxy : x = y := by
      have h1 : x ∈ y :: b := h.mem_iff.1 (by simp)
      have h2 : y ∈ x :: a := h.mem_iff.2 (by simp)
      rcases List.mem_cons.1 h1 with h1 | h1
      · exact h1
      · rcases List.mem_cons.1 h2 with h2 | h2
        · exact h2.symm
        · have := b1 x h1
          have := a1 y h2
          omega
    subst hxy
    rw [sorted_unique a2 b2 ((List.perm_cons x).1 h)]
theorem srt_of {c l : List Int} (h : c.Perm l) (hs : c.Pairwise (· ≤ ·)) : c = srt l := sorted_unique hs (srt_sorted l) (h.trans (srt_perm l).symm)

/-- Who has an edge with a vertex, rising. -/
def nearF (es : List Ed) (v : Int) : List Int := srt (nbH v (hfs (sE es)))
def adj (es : List Ed) (v w : Int) : Prop := ∃ x ∈ es, (x.a = v ∧ x.b = w) ∨ (x.a = w ∧ x.b = v)
theorem mem_nearF {es : List Ed} {v w : Int} : w ∈ nearF es v ↔ adj es v w := by
  unfold nearF
  rw [(srt_perm _).mem_iff, mem_nbH, mem_hfs]
  constructor
  · rintro ⟨x, hx, h⟩
    refine ⟨x, sE_sub _ _ hx, ?_⟩
    rcases h with ⟨h1, h2⟩ | ⟨h1, h2⟩
    · exact .inl ⟨h1, h2⟩
    · exact .inr ⟨h2, h1⟩
  · rintro ⟨x, hx, h⟩
    obtain ⟨y, hy, hb⟩ := sE_has _ _ hx
    refine ⟨y, hy, ?_⟩
    rw [bes_iff] at hb
    rcases h with ⟨h1, h2⟩ | ⟨h1, h2⟩ <;> rcases hb with ⟨b1, b2⟩ | ⟨b1, b2⟩
    · exact .inl ⟨b1.symm.trans h1, b2.symm.trans h2⟩
    · exact .inr ⟨b1.symm.trans h1, b2.symm.trans h2⟩
    · exact .inr ⟨b2.symm.trans h2, b1.symm.trans h1⟩
    · exact .inl ⟨b2.symm.trans h2, b1.symm.trans h1⟩
theorem nbH_nodup {l : List Ed} (hne : ∀ x ∈ l, x.a ≠ x.b) (v : Int) : (nbH v (hfs (sE l))).Nodup := by
  induction l using snocI with
  | h0 => simp [sE, hfs, nbH]
  | h1 l x ih =>
    have ih := ih fun y hy => hne y (List.mem_append_left _ hy)
    have hx := hne x (by simp)
    rw [sE_snoc]
    split
    · exact ih
    · rename_i ha
      have hno : ∀ w, (x.a = v ∧ x.b = w) ∨ (x.b = v ∧ x.a = w) → w ∉ nbH v (hfs (sE l)) := by
        intro w hw hin
        rw [mem_nbH, mem_hfs] at hin
        obtain ⟨y, hy, h⟩ := hin
        refine ha (List.any_eq_true.2 ⟨y, hy, bes_iff.2 ?_⟩)
        simp only at h
        rcases hw with ⟨rfl, rfl⟩ | ⟨rfl, rfl⟩ <;> rcases h with ⟨h1, h2⟩ | ⟨h1, h2⟩
        · exact .inl ⟨h1.symm, h2.symm⟩
        · exact .inr ⟨h1.symm, h2.symm⟩
        · exact .inr ⟨h2.symm, h1.symm⟩
        · exact .inl ⟨h2.symm, h1.symm⟩
      rw [hfs_snoc, nbH_snoc, nbH_snoc]
      simp only
      by_cases h1 : x.a = v
      · have h2 : ¬ x.b = v := fun h => hx (h1.trans h.symm)
        rw [if_pos h1, if_neg h2, List.append_nil, List.nodup_append]
        exact ⟨ih, by simp, fun a ha b hb => by rw [List.mem_singleton] at hb; subst hb; rintro rfl; exact hno _ (.inl ⟨h1, rfl⟩) ha⟩
      · rw [if_neg h1, List.append_nil]
        by_cases h2 : x.b = v
        · rw [if_pos h2, List.nodup_append]
          exact ⟨ih, by simp, fun a ha b hb => by rw [List.mem_singleton] at hb; subst hb; rintro rfl; exact hno _ (.inr ⟨h2, rfl⟩) ha⟩
        · rw [if_neg h2, List.append_nil]; exact ih
theorem nearF_lt {es : List Ed} (hne : ∀ x ∈ es, x.a ≠ x.b) (v : Int) : (nearF es v).Pairwise (· < ·) := by
  have h1 := srt_sorted (nbH v (hfs (sE es)))
  have h2 : (nearF es v).Nodup := (srt_perm _).nodup_iff.2 (nbH_nodup hne v)
  exact (h1.and h2).imp fun ⟨a, b⟩ => by omega
instance (es : List Ed) (v w : Int) : Decidable (adj es v w) := by unfold adj; exact inferInstance
theorem nearF_eq {es : List Ed} {vs : List Int} (hne : ∀ x ∈ es, x.a ≠ x.b) (hr : vs.Pairwise (· < ·)) (hin : ∀ x ∈ es, x.a ∈ vs ∧ x.b ∈ vs) (v : Int) : nearF es v = vs.filter fun w => decide (adj es v w) := by
  refine rise_eq id (by simpa using nearF_lt hne v) (by simpa using hr.filter _) fun w => ?_
  rw [mem_nearF, List.mem_filter, decide_eq_true_eq]
  constructor
  · intro h
    refine ⟨?_, h⟩
    obtain ⟨x, hx, ⟨_, h2⟩ | ⟨h1, _⟩⟩ := h
    · rw [← h2]; exact (hin x hx).2
    · rw [← h1]; exact (hin x hx).1
  · exact fun h => h.2
theorem nearF_len (es : List Ed) (v : Int) : (nearF es v).length ≤ 2 * es.length := by
  have h1 := (srt_perm (nbH v (hfs (sE es)))).length_eq
  have h2 := nbH_len v (hfs (sE es))
  have h3 := hfs_len (sE es)
  have h4 := sE_len es
  unfold nearF
  omega

end Go.Proofs.YtomfeddgeihipaaGreat.Aw

namespace Go.Proofs.YtomfeddgeihipaaGreat.Aw
open Go Go.RowKit Go.Proofs.YtomfeddgeihipaaGreat.Pl
set_option linter.unusedSimpArgs false
set_option linter.unusedVariables false

/-- Who led to whom, in order of finding. -/
abbrev Led := List (Int × Int)
def ledBy (A : Led) (v : Int) : Option Int := match A with
  | [] => none
  | p :: A => if v = p.1 then some p.2 else ledBy A v
theorem ledBy_none {v : Int} : ∀ {A : Led}, v ∉ A.map (·.1) → ledBy A v = none
  | [], _ => rfl
  | p :: A, h => by
    simp only [List.map_cons, List.mem_cons, not_or] at h
    simp only [ledBy]
    rw [if_neg h.1, ledBy_none h.2]
theorem ledBy_some {v : Int} : ∀ {A : Led}, v ∈ A.map (·.1) → ∃ w, ledBy A v = some w
  | [], h => by simp at h
  | p :: A, h => by
    simp only [ledBy]
    by_cases e : v = p.1
    · exact ⟨p.2, by rw [if_pos e]⟩
    · rw [if_neg e]
      simp only [List.map_cons, List.mem_cons] at h
      exact ledBy_some (h.resolve_left e)
theorem ledBy_mem {v w : Int} : ∀ {A : Led}, ledBy A v = some w → (v, w) ∈ A
  | [], h => by simp [ledBy] at h
  | p :: A, h => by
    simp only [ledBy] at h
    split at h
    · rename_i e; injection h with h; subst h; rw [e]; simp
    · exact List.mem_cons_of_mem _ (ledBy_mem h)
structure BF where
  A : Led
  Q : List Int
  hit : Bool
/-- One near vertex looked at. -/
def scan1 (may : Int → Bool) (to v : Int) (S : BF) (u : Int) : BF :=
  if S.hit = true then S else if u ∈ S.A.map (·.1) then S else if u = to then ⟨S.A ++ [(u, v)], S.Q, true⟩ else ⟨S.A ++ [(u, v)], if may u = true then S.Q ++ [u] else S.Q, false⟩
def scanL (may : Int → Bool) (to v : Int) (S : BF) (l : List Int) : BF := l.foldl (scan1 may to v) S
theorem scanL_hit (may : Int → Bool) (to v : Int) {S : BF} (h : S.hit = true) (l : List Int) : scanL may to v S l = S := by
  induction l with
  | nil => rfl
  | cons u l ih => simp only [scanL, List.foldl_cons] at ih ⊢; rw [scan1, if_pos h]; exact ih
theorem scanL_snoc (may : Int → Bool) (to v : Int) (S : BF) (l : List Int) (u : Int) : scanL may to v S (l ++ [u]) = scan1 may to v (scanL may to v S l) u := by simp [scanL, List.foldl_append]
theorem scanL_len (may : Int → Bool) (to v : Int) (S : BF) (l : List Int) : (scanL may to v S l).Q.length ≤ S.Q.length + l.length ∧ (scanL may to v S l).A.length ≤ S.A.length + l.length := by
  induction l generalizing S with
  | nil => simp [scanL]
  | cons u l ih =>
    have := ih (scan1 may to v S u)
    have h1 : (scan1 may to v S u).Q.length ≤ S.Q.length + 1 ∧ (scan1 may to v S u).A.length ≤ S.A.length + 1 := by
      unfold scan1
      split
      · omega
      · split
        · omega
        · split
          · simp
          · constructor
            · simp only; split <;> simp
            · simp
    simp only [scanL, List.foldl_cons, List.length_cons] at this ⊢
    omega

/-- The search: what led where, if it was found. -/
def bfs (near : Int → List Int) (may : Int → Bool) (to : Int) : Nat → Led → List Int → Option (Option Led)
  | _, _, [] => some none
  | 0, _, _ :: _ => none
  | n + 1, A, v :: Q => if (scanL may to v ⟨A, Q, false⟩ (near v)).hit = true then some (some (scanL may to v ⟨A, Q, false⟩ (near v)).A) else bfs near may to n (scanL may to v ⟨A, Q, false⟩ (near v)).A (scanL may to v ⟨A, Q, false⟩ (near v)).Q
/-- The way back. -/
def backF (A : Led) (from' : Int) : Nat → Int → Option (List Int)
  | 0, v => if v = from' then some [] else none
  | n + 1, v => if v = from' then some [] else (backF A from' n ((ledBy A v).getD 0)).map fun l => (ledBy A v).getD 0 :: l
theorem backF_len {A : Led} {from' : Int} : ∀ {n : Nat} {v : Int} {l : List Int}, backF A from' n v = some l → l.length ≤ n
  | 0, v, l, h => by
    simp only [backF] at h
    split at h
    · injection h with h; subst h; simp
    · cases h
  | n + 1, v, l, h => by
    simp only [backF] at h
    split at h
    · injection h with h; subst h; simp
    · rw [Option.map_eq_some_iff] at h
      obtain ⟨l', h1, rfl⟩ := h
      have := backF_len h1
      simp only [List.length_cons]; omega
/-- The way from one vertex to another one; none: the strength n is too little. -/
def pathF (vs : List Int) (near : Int → List Int) (may : Int → Bool) (from' to : Int) (n : Nat) : Option (List Int) :=
  if from' ∉ vs ∨ to ∉ vs then some [] else if from' = to then some [from'] else match bfs near may to n [(from', from')] [from'] with
    | some none => some []
    | some (some A) => (backF A from' n to).map fun l => (to :: l).reverse
    | none => none

end Go.Proofs.YtomfeddgeihipaaGreat.Aw

namespace Go.Proofs.YtomfeddgeihipaaGreat.Aw
open Go Go.RowKit Go.Proofs.YtomfeddgeihipaaGreat.Pl
set_option linter.unusedSimpArgs false
set_option linter.unusedVariables false

/-- Found ones, and at which place the one stands that led there. -/
abbrev Fnd := List (Int × Nat)
def scanR1 (k : Nat) (F : Fnd) (w : Int) : Fnd := if w ∈ F.map (·.1) then F else F ++ [(w, k)]
def scanR (k : Nat) (F : Fnd) (row : List Int) : Fnd := row.foldl (scanR1 k) F
theorem scanR_snoc (k : Nat) (F : Fnd) (row : List Int) (w : Int) : scanR k F (row ++ [w]) = scanR1 k (scanR k F row) w := by simp [scanR, List.foldl_append]
theorem scanR1_len (k : Nat) (F : Fnd) (w : Int) : F.length ≤ (scanR1 k F w).length ∧ (scanR1 k F w).length ≤ F.length + 1 := by
  unfold scanR1; split <;> simp
theorem scanR_len (k : Nat) (F : Fnd) (row : List Int) : F.length ≤ (scanR k F row).length ∧ (scanR k F row).length ≤ F.length + row.length := by
  induction row generalizing F with
  | nil => simp [scanR]
  | cons w row ih =>
    have h1 := scanR1_len k F w
    have h2 := ih (scanR1 k F w)
    simp only [scanR, List.foldl_cons, List.length_cons] at h2 ⊢
    omega
def fAt (F : Fnd) (k : Nat) : Int := (F.getD k (0, 0)).1
def pAt (F : Fnd) (k : Nat) : Nat := (F.getD k (0, 0)).2
/-- Who led there stands ahead. -/
def Par (F : Fnd) : Prop := ∀ k, 0 < k → k < F.length → pAt F k < k
theorem getD_append_lt {α : Type} (a b : List α) (d : α) {k : Nat} (h : k < a.length) : (a ++ b).getD k d = a.getD k d := by
  rw [List.getD_eq_getElem?_getD, List.getD_eq_getElem?_getD, List.getElem?_append_left h]
theorem Par.scan1 {F : Fnd} (h : Par F) {k : Nat} (hk : k < F.length) (w : Int) : Par (scanR1 k F w) := by
  unfold scanR1
  split
  · exact h
  · intro j h0 hj
    rw [List.length_append, List.length_singleton] at hj
    by_cases hj2 : j < F.length
    · unfold pAt; rw [getD_append_lt _ _ _ hj2]; exact h j h0 hj2
    · have : j = F.length := by omega
      subst this
      unfold pAt
      simp
      exact hk
theorem Par.scan {F : Fnd} (h : Par F) {k : Nat} (hk : k < F.length) (row : List Int) : Par (scanR k F row) := by
  induction row generalizing F with
  | nil => exact h
  | cons w row ih =>
    exact ih (h.scan1 hk w) (Nat.lt_of_lt_of_le hk (scanR1_len k F w).1)

def refRun (near : Int → List Int) (may : Int → Bool) (to : Int) : Nat → Nat → Fnd → Option (Option (Fnd × Nat))
  | 0, k, F => if k < F.length then none else some none
  | n + 1, k, F => if k < F.length then
      if fAt F k = to then some (some (F, k)) else if k = 0 ∨ may (fAt F k) = true then refRun near may to n (k + 1) (scanR k F (near (fAt F k))) else refRun near may to n (k + 1) F
    else some none
/-- From a place back to the first one. -/
def chainF (F : Fnd) : Nat → Nat → List Int
  | 0, _ => []
  | m + 1, k => if k = 0 then [] else fAt F k :: chainF F m (pAt F k)
def refPath (vs : List Int) (near : Int → List Int) (may : Int → Bool) (from' to : Int) (n : Nat) : Option (List Int) :=
  if from' ∉ vs ∨ to ∉ vs then some [] else match refRun near may to n 0 [(from', 0)] with
    | some none => some []
    | some (some (F, k)) => some (from' :: (chainF F k k).reverse)
    | none => none

end Go.Proofs.YtomfeddgeihipaaGreat.Aw

namespace Go.Proofs.YtomfeddgeihipaaGreat.Aw
open Go Go.RowKit Go.Proofs.YtomfeddgeihipaaGreat.Pl
set_option linter.unusedSimpArgs false
set_option linter.unusedVariables false

structure FG (from' : Int) (F : Fnd) : Prop where
  pos : 0 < F.length
  hd : F.getD 0 (0, 0) = (from', 0)
  par : ∀ k, k < F.length → pAt F k < F.length ∧ (0 < k → pAt F k < k)
  nd : (F.map (·.1)).Nodup
def led (F : Fnd) : Led := F.map fun p => (p.1, fAt F p.2)
theorem led_keys (F : Fnd) : (led F).map (·.1) = F.map (·.1) := by simp [led, List.map_map]
theorem fAt_append {F D : Fnd} {k : Nat} (h : k < F.length) : fAt (F ++ D) k = fAt F k := by unfold fAt; rw [getD_append_lt _ _ _ h]
theorem pAt_append {F D : Fnd} {k : Nat} (h : k < F.length) : pAt (F ++ D) k = pAt F k := by unfold pAt; rw [getD_append_lt _ _ _ h]
theorem at_last (F : Fnd) (p : Int × Nat) : fAt (F ++ [p]) F.length = p.1 ∧ pAt (F ++ [p]) F.length = p.2 := by
  unfold fAt pAt; simp
theorem mem_at {F : Fnd} {p : Int × Nat} (h : p ∈ F) : ∃ k, k < F.length ∧ fAt F k = p.1 ∧ pAt F k = p.2 := by
  obtain ⟨k, hk, e⟩ := List.getElem_of_mem h
  refine ⟨k, hk, ?_, ?_⟩
  · unfold fAt; rw [List.getD_eq_getElem?_getD, List.getElem?_eq_getElem hk, e]; rfl
  · unfold pAt; rw [List.getD_eq_getElem?_getD, List.getElem?_eq_getElem hk, e]; rfl
theorem at_mem {F : Fnd} {k : Nat} (h : k < F.length) : fAt F k ∈ F.map (·.1) := by
  unfold fAt
  rw [List.getD_eq_getElem?_getD, List.getElem?_eq_getElem h]
  exact List.mem_map.2 ⟨F[k], List.getElem_mem _, rfl⟩
theorem FG.snoc {from' : Int} {F : Fnd} (h : FG from' F) {w : Int} {k : Nat} (hw : w ∉ F.map (·.1)) (hk : k < F.length) : FG from' (F ++ [(w, k)]) := by
  refine ⟨by simp, by rw [getD_append_lt _ _ _ h.pos]; exact h.hd, fun j hj => ?_, ?_⟩
  · rw [List.length_append, List.length_singleton] at hj ⊢
    by_cases hj2 : j < F.length
    · rw [pAt_append hj2]; have := h.par j hj2; exact ⟨by omega, this.2⟩
    · obtain rfl : j = F.length := by omega
      rw [(at_last F (w, k)).2]; simp only; omega
  · rw [List.map_append, List.nodup_append]
    exact ⟨h.nd, by simp, fun a ha b hb => by simp at hb; subst hb; rintro rfl; exact hw ha⟩
theorem led_snoc {from' : Int} {F : Fnd} (h : FG from' F) {w : Int} {k : Nat} (hk : k < F.length) : led (F ++ [(w, k)]) = led F ++ [(w, fAt F k)] := by
  unfold led
  rw [List.map_append]
  congr 1
  · refine List.map_congr_left fun p hp => ?_
    obtain ⟨j, hj, e1, e2⟩ := mem_at hp
    have := (h.par j hj).1
    rw [e2] at this
    rw [fAt_append this]
  · simp [fAt_append hk]
theorem scanR_pre (k : Nat) (F : Fnd) (row : List Int) : ∃ D, scanR k F row = F ++ D := by
  induction row generalizing F with
  | nil => exact ⟨[], by simp [scanR]⟩
  | cons w row ih =>
    obtain ⟨D, hD⟩ := ih (scanR1 k F w)
    simp only [scanR, List.foldl_cons] at hD ⊢
    unfold scanR1 at hD ⊢
    split at hD
    · rename_i h; rw [if_pos h]; exact ⟨D, hD⟩
    · rename_i h; rw [if_neg h]; exact ⟨(w, k) :: D, by rw [hD]; simp⟩

theorem scan_rel {from' to v : Int} {may : Int → Bool} {k : Nat} (row : List Int) : ∀ (F : Fnd) (Q : List Int), FG from' F → k < F.length → fAt F k = v → to ∉ F.map (·.1) →
    ∃ D, scanR k F row = F ++ D ∧ FG from' (F ++ D) ∧ (∀ p ∈ D, p.1 ∈ row) ∧
      (to ∉ row → scanL may to v ⟨led F, Q, false⟩ row = ⟨led (F ++ D), Q ++ (D.map (·.1)).filter may, false⟩) ∧
      (to ∈ row → (scanL may to v ⟨led F, Q, false⟩ row).hit = true ∧ ∃ D1 D2, D = D1 ++ D2 ∧ (scanL may to v ⟨led F, Q, false⟩ row).A = led (F ++ D1) ∧ to ∈ D1.map (·.1) ∧ FG from' (F ++ D1)) := by
  induction row with
  | nil => intro F Q h hk hv ht; exact ⟨[], by simp [scanR], by simpa using h, by simp, fun _ => by simp [scanL], fun h => by simp at h⟩
  | cons w row ih =>
    intro F Q h hk hv ht
    by_cases hw : w ∈ F.map (·.1)
    · obtain ⟨D, h1, h2, h3, h4, h5⟩ := ih F Q h hk hv ht
      have hwt : ¬ w = to := fun e => ht (e ▸ hw)
      have e1 : scanR k F (w :: row) = scanR k F row := by simp only [scanR, List.foldl_cons]; congr 1; unfold scanR1; rw [if_pos hw]
      have e2 : scanL may to v ⟨led F, Q, false⟩ (w :: row) = scanL may to v ⟨led F, Q, false⟩ row := by
        simp only [scanL, List.foldl_cons]; congr 1; unfold scan1; rw [if_neg (by simp), if_pos (by rw [led_keys]; exact hw)]
      refine ⟨D, by rw [e1]; exact h1, h2, fun p hp => List.mem_cons_of_mem _ (h3 p hp), fun hno => ?_, fun hin => ?_⟩
      · rw [e2]; exact h4 fun h => hno (List.mem_cons_of_mem _ h)
      · rw [e2]
        rcases List.mem_cons.1 hin with e | hin
        · exact absurd e.symm hwt
        · exact h5 hin
    · have e1 : scanR k F (w :: row) = scanR k (F ++ [(w, k)]) row := by simp only [scanR, List.foldl_cons]; congr 1; unfold scanR1; rw [if_neg hw]
      have hls : led F ++ [(w, v)] = led (F ++ [(w, k)]) := by rw [led_snoc h hk, hv]
      have hg := h.snoc hw hk
      by_cases hwt : w = to
      · subst hwt
        have e2 : scanL may w v ⟨led F, Q, false⟩ (w :: row) = ⟨led (F ++ [(w, k)]), Q, true⟩ := by
          have : scan1 may w v ⟨led F, Q, false⟩ w = ⟨led (F ++ [(w, k)]), Q, true⟩ := by unfold scan1; rw [if_neg (by simp), if_neg (by rw [led_keys]; exact hw), if_pos rfl, hls]
          have h2 := scanL_hit may w v (S := ⟨led (F ++ [(w, k)]), Q, true⟩) rfl row
          simp only [scanL, List.foldl_cons] at h2 ⊢
          rw [this]; exact h2
        obtain ⟨D, hD⟩ := scanR_pre k (F ++ [(w, k)]) row
        have hall : FG from' (F ++ [(w, k)] ++ D) ∧ ∀ p ∈ D, p.1 ∈ row := by
          rw [← hD]
          clear e1 e2 hls hv
          have : ∀ (row : List Int) (G : Fnd), FG from' G → k < G.length → FG from' (scanR k G row) ∧ ∀ D, scanR k G row = G ++ D → ∀ p ∈ D, p.1 ∈ row := by
            intro row
            induction row with
            | nil => intro G h1 h2; exact ⟨h1, fun D hD p hp => by simp [scanR] at hD; subst hD; simp at hp⟩
            | cons x row ih2 =>
              intro G h1 h2
              by_cases hx : x ∈ G.map (·.1)
              · have e : scanR k G (x :: row) = scanR k G row := by simp only [scanR, List.foldl_cons]; congr 1; unfold scanR1; rw [if_pos hx]
                rw [e]
                obtain ⟨a1, a2⟩ := ih2 G h1 h2
                exact ⟨a1, fun D hD p hp => List.mem_cons_of_mem _ (a2 D hD p hp)⟩
              · have e : scanR k G (x :: row) = scanR k (G ++ [(x, k)]) row := by simp only [scanR, List.foldl_cons]; congr 1; unfold scanR1; rw [if_neg hx]
                rw [e]
                obtain ⟨a1, a2⟩ := ih2 (G ++ [(x, k)]) (h1.snoc hx h2) (by simp; omega)
                refine ⟨a1, fun D hD p hp => ?_⟩
                obtain ⟨D', hD'⟩ := scanR_pre k (G ++ [(x, k)]) row
                rw [hD', List.append_assoc] at hD
                have := List.append_cancel_left hD
                subst this
                rcases List.mem_append.1 hp with hp | hp
                · rw [List.mem_singleton] at hp; subst hp; simp
                · exact List.mem_cons_of_mem _ (a2 D' hD' p hp)
          obtain ⟨a1, a2⟩ := this row _ hg (by simp; omega)
          exact ⟨a1, a2 D hD⟩
        refine ⟨(w, k) :: D, by rw [e1, hD]; simp, by have := hall.1; simpa using this, fun p hp => ?_, fun hno => absurd (by simp) hno, fun _ => ⟨by rw [e2], [(w, k)], D, rfl, by rw [e2], by simp, hg⟩⟩
        rcases List.mem_cons.1 hp with rfl | hp
        · simp
        · exact List.mem_cons_of_mem _ (hall.2 p hp)
      · have e2 : scanL may to v ⟨led F, Q, false⟩ (w :: row) = scanL may to v ⟨led (F ++ [(w, k)]), Q ++ [w].filter may, false⟩ row := by
          have : scan1 may to v ⟨led F, Q, false⟩ w = ⟨led (F ++ [(w, k)]), Q ++ [w].filter may, false⟩ := by
            unfold scan1
            rw [if_neg (by simp), if_neg (by rw [led_keys]; exact hw), if_neg hwt, hls]
            by_cases hm : may w = true <;> simp [hm]
          simp only [scanL, List.foldl_cons]
          rw [this]
        obtain ⟨D, h1, h2, h3, h4, h5⟩ := ih (F ++ [(w, k)]) (Q ++ [w].filter may) hg (by simp; omega) (by rw [fAt_append hk]; exact hv) (by
          rw [List.map_append, List.mem_append]; rintro (h | h)
          · exact ht h
          · simp at h; exact hwt h.symm)
        refine ⟨(w, k) :: D, by rw [e1, h1]; simp, by simpa using h2, fun p hp => ?_, fun hno => ?_, fun hin => ?_⟩
        · rcases List.mem_cons.1 hp with rfl | hp
          · simp
          · exact List.mem_cons_of_mem _ (h3 p hp)
        · rw [e2, h4 fun h => hno (List.mem_cons_of_mem _ h)]
          have e3 : ((w, k) :: D).map (·.1) = [w] ++ D.map (·.1) := rfl
          rw [e3, List.filter_append, List.append_assoc, List.append_assoc]
          rfl
        · rw [e2]
          obtain ⟨k1, D1, D2, k2, k3, k4, k5⟩ := h5 (by rcases List.mem_cons.1 hin with e | hin; exact absurd e.symm hwt; exact hin)
          exact ⟨k1, (w, k) :: D1, D2, by rw [k2]; rfl, by rw [k3]; simp, by simp only [List.map_cons, List.mem_cons]; exact .inr k4, by simpa using k5⟩

end Go.Proofs.YtomfeddgeihipaaGreat.Aw

namespace Go.Proofs.YtomfeddgeihipaaGreat.Aw
open Go Go.RowKit Go.Proofs.YtomfeddgeihipaaGreat.Pl
set_option linter.unusedSimpArgs false
set_option linter.unusedVariables false

theorem bfs_up {near : Int → List Int} {may : Int → Bool} {to : Int} : ∀ {n : Nat} {A : Led} {Q : List Int} {r : Option Led}, bfs near may to n A Q = some r → bfs near may to (n + 1) A Q = some r
  | n, A, [], r, h => by
    cases n <;> (simp only [bfs] at h ⊢; exact h)
  | 0, A, v :: Q, r, h => by simp [bfs] at h
  | n + 1, A, v :: Q, r, h => by
    rw [bfs] at h ⊢
    split at h
    · rename_i hh; rw [if_pos hh]; exact h
    · rename_i hh; rw [if_neg hh]; exact bfs_up h

/-- The one sought stands among the found ones: it is come to. -/
theorem found_rel {near : Int → List Int} {may : Int → Bool} {from' to : Int} {p : Nat} : ∀ (n k : Nat) (F : Fnd) (R : Option (Fnd × Nat)), FG from' F → k ≤ p → p < F.length → fAt F p = to → refRun near may to n k F = some R →
    ∃ D, R = some (F ++ D, p) ∧ FG from' (F ++ D) ∧ p + 1 ≤ k + n := by
  intro n
  induction n with
  | zero => intro k F R h hk hp hf hr; simp only [refRun, if_pos (show k < F.length by omega)] at hr; cases hr
  | succ n ih =>
    intro k F R h hk hp hf hr
    simp only [refRun, if_pos (show k < F.length by omega)] at hr
    by_cases hkp : k = p
    · subst hkp
      rw [if_pos hf] at hr
      injection hr with hr
      subst hr
      exact ⟨[], by simp, by simpa using h, by omega⟩
    · have hne : ¬ fAt F k = to := by
        intro e
        have hnd := h.nd
        have h1 : (F.map (·.1))[k]'(by simp; omega) = (F.map (·.1))[p]'(by simp; omega) := by
          have e1 : fAt F k = F[k].1 := by unfold fAt; rw [List.getD_eq_getElem?_getD, List.getElem?_eq_getElem (by omega)]; rfl
          have e2 : fAt F p = F[p].1 := by unfold fAt; rw [List.getD_eq_getElem?_getD, List.getElem?_eq_getElem (by omega)]; rfl
          rw [List.getElem_map, List.getElem_map, ← e1, ← e2, e, hf]
        have := (List.pairwise_iff_getElem.1 hnd) k p (by simp; omega) (by simp; omega) (by omega)
        exact this h1
      rw [if_neg hne] at hr
      split at hr
      · have hkl : k < F.length := by omega
        obtain ⟨D, h1, h2⟩ := (show ∃ D, scanR k F (near (fAt F k)) = F ++ D ∧ FG from' (F ++ D) by
          have : ∀ (row : List Int) (G : Fnd), FG from' G → k < G.length → ∃ D, scanR k G row = G ++ D ∧ FG from' (G ++ D) := by
            intro row
            induction row with
            | nil => intro G h1 h2; exact ⟨[], by simp [scanR], by simpa using h1⟩
            | cons x row ih2 =>
              intro G h1 h2
              by_cases hx : x ∈ G.map (·.1)
              · have e : scanR k G (x :: row) = scanR k G row := by simp only [scanR, List.foldl_cons]; congr 1; unfold scanR1; rw [if_pos hx]
                rw [e]; exact ih2 G h1 h2
              · have e : scanR k G (x :: row) = scanR k (G ++ [(x, k)]) row := by simp only [scanR, List.foldl_cons]; congr 1; unfold scanR1; rw [if_neg hx]
                rw [e]
                obtain ⟨D, a1, a2⟩ := ih2 (G ++ [(x, k)]) (h1.snoc hx h2) (by simp; omega)
                exact ⟨(x, k) :: D, by rw [a1]; simp, by simpa using a2⟩
          exact this _ F h hkl)
        rw [h1] at hr
        obtain ⟨D2, k1, k2, k3⟩ := ih (k + 1) (F ++ D) R h2 (by omega) (by simp; omega) (by rw [fAt_append hp]; exact hf) hr
        exact ⟨D ++ D2, by rw [k1]; simp, by simpa using k2, by omega⟩
      · obtain ⟨D2, k1, k2, k3⟩ := ih (k + 1) F R h (by omega) hp hf hr
        exact ⟨D2, k1, k2, by omega⟩

/-- What both searches have come to. -/
def SamePQ (from' to : Int) (n : Nat) (R : Option (Fnd × Nat)) (R' : Option Led) : Prop :=
  (R = none ∧ R' = none) ∨ ∃ F1 D p, R = some (F1 ++ D, p) ∧ R' = some (led F1) ∧ FG from' F1 ∧ p < F1.length ∧ fAt F1 p = to ∧ p + 1 ≤ n

theorem run_rel {near : Int → List Int} {may : Int → Bool} {from' to : Int} : ∀ (n k : Nat) (F : Fnd) (R : Option (Fnd × Nat)), FG from' F → 0 < k → k ≤ F.length → to ∉ F.map (·.1) → refRun near may to n k F = some R →
    ∃ R', bfs near may to n (led F) (((F.drop k).map (·.1)).filter may) = some R' ∧ SamePQ from' to (k + n) R R' := by
  intro n
  induction n with
  | zero =>
    intro k F R h hk hkF ht hr
    simp only [refRun] at hr
    split at hr
    · cases hr
    · have : F.drop k = [] := List.drop_eq_nil_of_le (by omega)
      rw [this]
      injection hr with hr
      exact ⟨none, by simp [bfs], .inl ⟨hr.symm, rfl⟩⟩
  | succ n ih =>
    intro k F R h hk hkF ht hr
    by_cases hlt : k < F.length
    rotate_left
    · simp only [refRun, if_neg hlt, Option.some.injEq] at hr
      have : F.drop k = [] := List.drop_eq_nil_of_le (by omega)
      rw [this]
      exact ⟨none, by simp [bfs], .inl ⟨hr.symm, rfl⟩⟩
    simp only [refRun, if_pos hlt] at hr
    have hne : ¬ fAt F k = to := fun e => ht (e ▸ at_mem hlt)
    rw [if_neg hne] at hr
    have hdr : (F.drop k).map (·.1) = fAt F k :: (F.drop (k + 1)).map (·.1) := by
      rw [List.drop_eq_getElem_cons hlt, List.map_cons]
      congr 1
      unfold fAt; rw [List.getD_eq_getElem?_getD, List.getElem?_eq_getElem hlt]; rfl
    by_cases hm : may (fAt F k) = true
    rotate_left
    · rw [if_neg (by rintro (h1 | h1); omega; exact hm h1)] at hr
      obtain ⟨R', h1, h2⟩ := ih (k + 1) F R h (by omega) (by omega) ht hr
      rw [hdr, List.filter_cons_of_neg (by simpa using hm)]
      exact ⟨R', bfs_up h1, by rw [show k + (n + 1) = k + 1 + n by omega]; exact h2⟩
    · rw [if_pos (.inr hm)] at hr
      rw [hdr, List.filter_cons_of_pos (by simpa using hm), bfs]
      obtain ⟨D, h1, h2, h3, h4, h5⟩ := scan_rel (may := may) (near (fAt F k)) F (((F.drop (k + 1)).map (·.1)).filter may) h hlt rfl ht
      by_cases hin : to ∈ near (fAt F k)
      · obtain ⟨g1, D1, D2, g2, g3, g4, g5⟩ := h5 hin
        rw [if_pos g1, g3]
        refine ⟨_, rfl, ?_⟩
        rw [h1, g2, ← List.append_assoc] at hr
        obtain ⟨x, hx, hx1⟩ := List.mem_map.1 g4
        obtain ⟨p, hp, e1, _⟩ := mem_at (F := F ++ D1) (p := x) (List.mem_append_right _ hx)
        have hpk : k + 1 ≤ p := by
          rcases Nat.lt_or_ge p (k + 1) with h' | h'
          · exfalso
            rw [fAt_append (by omega)] at e1
            exact ht (by rw [← hx1, ← e1]; exact at_mem (by omega))
          · exact h'
        have h2' : FG from' (F ++ D1 ++ D2) := by rw [List.append_assoc, ← g2]; exact h2
        obtain ⟨D3, k1, k2, k3⟩ := found_rel n (k + 1) (F ++ D1 ++ D2) R h2' hpk (by rw [List.length_append]; omega) (by rw [fAt_append hp, e1, hx1]) hr
        exact .inr ⟨F ++ D1, D2 ++ D3, p, by rw [k1, List.append_assoc], rfl, g5, hp, by rw [e1, hx1], by omega⟩
      · have e := h4 hin
        rw [e]
        simp only [Bool.false_eq_true, if_false]
        rw [h1] at hr
        have ht2 : to ∉ (F ++ D).map (·.1) := by
          rw [List.map_append, List.mem_append]
          rintro (h | h)
          · exact ht h
          · obtain ⟨p, hp, rfl⟩ := List.mem_map.1 h; exact hin (h3 p hp)
        obtain ⟨R', k1, k2⟩ := ih (k + 1) (F ++ D) R h2 (by omega) (by rw [List.length_append]; omega) ht2 hr
        refine ⟨R', ?_, by rw [show k + (n + 1) = k + 1 + n by omega]; exact k2⟩
        rw [← k1, List.drop_append_of_le_length (by omega), List.map_append, List.filter_append]

theorem led_at {from' : Int} {F : Fnd} (h : FG from' F) {k : Nat} (hk : k < F.length) : ledBy (led F) (fAt F k) = some (fAt F (pAt F k)) := by
  obtain ⟨w, hw⟩ := ledBy_some (A := led F) (v := fAt F k) (by rw [led_keys]; exact at_mem hk)
  rw [hw]
  have hm := ledBy_mem hw
  obtain ⟨p, hp, e⟩ := List.mem_map.1 hm
  injection e with e1 e2
  obtain ⟨j, hj, a1, a2⟩ := mem_at hp
  have : j = k := by
    have g1 : (F.map (·.1))[j]'(by simpa using hj) = (F.map (·.1))[k]'(by simpa using hk) := by
      have b1 : fAt F k = F[k].1 := by unfold fAt; rw [List.getD_eq_getElem?_getD, List.getElem?_eq_getElem hk]; rfl
      have b2 : fAt F j = F[j].1 := by unfold fAt; rw [List.getD_eq_getElem?_getD, List.getElem?_eq_getElem hj]; rfl
      rw [List.getElem_map, List.getElem_map, ← b1, ← b2, a1, e1]
    exact (List.getElem_inj h.nd).1 g1
  subst this
  rw [← e2, a2]
theorem fAt_zero {from' : Int} {F : Fnd} (h : FG from' F) : fAt F 0 = from' ∧ pAt F 0 = 0 := by
  unfold fAt pAt; rw [h.hd]; exact ⟨rfl, rfl⟩
/-- The way back by the vertices is the way back by the places. -/
theorem back_rel {from' : Int} {F : Fnd} (h : FG from' F) : ∀ (m k n j : Nat), k ≤ m → k ≤ n → k ≤ j → k < F.length → ∃ l, backF (led F) from' n (fAt F k) = some l ∧ fAt F k :: l = chainF F j k ++ [from'] := by
  intro m
  induction m with
  | zero =>
    intro k n j hm hn hj hk
    obtain rfl : k = 0 := by omega
    have := (fAt_zero h).1
    refine ⟨[], ?_, ?_⟩
    · cases n <;> simp [backF, this]
    · cases j <;> simp [chainF, this]
  | succ m ih =>
    intro k n j hm hn hj hk
    by_cases hk0 : k = 0
    · exact ih k n j (by omega) hn hj hk
    cases n with
    | zero => omega
    | succ n =>
    cases j with
    | zero => omega
    | succ j =>
    have hp := (h.par k hk).2 (by omega)
    obtain ⟨l, h1, h2⟩ := ih (pAt F k) n j (by omega) (by omega) (by omega) (by omega)
    have hne : ¬ fAt F k = from' := by
      intro e
      have hz := (fAt_zero h).1
      have g1 : (F.map (·.1))[0]'(by simpa using h.pos) = (F.map (·.1))[k]'(by simpa using hk) := by
        have b1 : fAt F k = F[k].1 := by unfold fAt; rw [List.getD_eq_getElem?_getD, List.getElem?_eq_getElem hk]; rfl
        have b2 : fAt F 0 = (F[0]'h.pos).1 := by unfold fAt; rw [List.getD_eq_getElem?_getD, List.getElem?_eq_getElem h.pos]; rfl
        rw [List.getElem_map, List.getElem_map, ← b1, ← b2, e, hz]
      have := (List.getElem_inj h.nd).1 g1
      omega
    refine ⟨fAt F (pAt F k) :: l, ?_, ?_⟩
    · simp only [backF, if_neg hne, led_at h hk, Option.getD_some]
      rw [h1]; rfl
    · simp only [chainF, if_neg hk0, List.cons_append]
      rw [← h2]
theorem chain_pre {from' : Int} {F D : Fnd} (h : FG from' F) : ∀ (j k : Nat), k < F.length → chainF (F ++ D) j k = chainF F j k
  | 0, _, _ => rfl
  | j + 1, k, hk => by
    simp only [chainF]
    rw [fAt_append hk, pAt_append hk, chain_pre h j _ (h.par k hk).1]

theorem path_same {vs : List Int} {near : Int → List Int} {may : Int → Bool} {from' to : Int} {n : Nat} {l : List Int} (h : refPath vs near may from' to n = some l) (hn : 0 < n) : pathF vs near may from' to n = some l := by
  unfold refPath at h
  unfold pathF
  split
  · rename_i hv
    rw [if_pos hv] at h; exact h
  · rename_i hv
    rw [if_neg hv] at h
    have h0 : FG from' [(from', 0)] := ⟨by simp, rfl, fun k hk => by simp at hk; subst hk; simp [pAt], by simp⟩
    obtain ⟨n, rfl⟩ : ∃ m, n = m + 1 := ⟨n - 1, by omega⟩
    by_cases hft : from' = to
    · rw [if_pos hft]
      have : refRun near may to (n + 1) 0 [(from', 0)] = some (some ([(from', 0)], 0)) := by
        simp [refRun, fAt, hft]
      rw [this] at h
      simpa [chainF] using h
    · rw [if_neg hft]
      have h1 : refRun near may to (n + 1) 0 [(from', 0)] = refRun near may to n 1 (scanR 0 [(from', 0)] (near from')) := by
        simp [refRun, fAt, hft]
      have h2 : led [(from', 0)] = [(from', from')] := by simp [led, fAt]
      have hto : to ∉ ([(from', 0)] : Fnd).map (·.1) := by simpa using fun e : to = from' => hft e.symm
      obtain ⟨D, g1, g2, g3, g4, g5⟩ := scan_rel (may := may) (k := 0) (v := from') (to := to) (near from') [(from', 0)] [] h0 (by simp) rfl hto
      rw [h2] at g4 g5
      have fin : ∀ (F1 D : Fnd) (p : Nat), FG from' F1 → p < F1.length → fAt F1 p = to → p ≤ n + 1 → ∃ l', backF (led F1) from' (n + 1) to = some l' ∧ (to :: l').reverse = from' :: (chainF (F1 ++ D) p p).reverse := by
        intro F1 D p f1 f2 f3 f4
        obtain ⟨l', e1, e2⟩ := back_rel f1 p p (n + 1) p (Nat.le_refl _) f4 (Nat.le_refl _) f2
        rw [f3] at e1 e2
        exact ⟨l', e1, by rw [e2, chain_pre f1 p p f2]; simp⟩
      cases hr : refRun near may to (n + 1) 0 [(from', 0)] with
      | none => rw [hr] at h; cases h
      | some R =>
      rw [hr] at h
      rw [h1, g1] at hr
      rw [bfs]
      by_cases hin : to ∈ near from'
      · obtain ⟨k1, D1, D2, k2, k3, k4, k5⟩ := g5 hin
        rw [if_pos k1, k3]
        obtain ⟨x, hx, hx1⟩ := List.mem_map.1 k4
        obtain ⟨p, hp, e1, _⟩ := mem_at (F := [(from', 0)] ++ D1) (p := x) (List.mem_append_right _ hx)
        have hp1 : 1 ≤ p := by
          rcases Nat.eq_zero_or_pos p with h' | h'
          · subst h'; rw [(fAt_zero k5).1, hx1] at e1; exact absurd e1 hft
          · exact h'
        rw [k2, ← List.append_assoc] at hr
        have g2' : FG from' ([(from', 0)] ++ D1 ++ D2) := by rw [List.append_assoc, ← k2]; exact g2
        obtain ⟨D3, m1, m2, m3⟩ := found_rel n 1 _ R g2' hp1 (by rw [List.length_append]; omega) (by rw [fAt_append hp, e1, hx1]) hr
        subst m1
        simp only [Option.some.injEq] at h
        obtain ⟨l', a1, a2⟩ := fin _ (D2 ++ D3) p k5 hp (by rw [e1, hx1]) (by omega)
        simp only [a1, Option.map_some]
        rw [a2, ← h]
        simp only [List.append_assoc]
      · have e := g4 hin
        rw [e]
        simp only [Bool.false_eq_true, if_false]
        have ht2 : to ∉ ([(from', 0)] ++ D : Fnd).map (·.1) := by
          rw [List.map_append, List.mem_append]
          rintro (h | h)
          · exact hto h
          · obtain ⟨p, hp, rfl⟩ := List.mem_map.1 h; exact hin (g3 p hp)
        obtain ⟨R', m1, m2⟩ := run_rel n 1 _ R g2 (by omega) (by simp) ht2 hr
        have hd : ([(from', 0)] ++ D).drop 1 = D := rfl
        rw [hd] at m1
        rw [List.nil_append, m1]
        rcases m2 with ⟨rfl, rfl⟩ | ⟨F1, D', p, rfl, rfl, f1, f2, f3, f4⟩
        · exact h
        · simp only [Option.some.injEq] at h
          obtain ⟨l', a1, a2⟩ := fin F1 D' p f1 f2 f3 (by omega)
          simp only [a1, Option.map_some]
          rw [a2, ← h]

theorem refRun_some {vs : List Int} {near : Int → List Int} {may : Int → Bool} {from' to : Int} (hnear : ∀ v, ∀ w ∈ near v, w ∈ vs) : ∀ (n k : Nat) (F : Fnd), FG from' F → (∀ x ∈ F.map (·.1), x ∈ vs) → vs.length ≤ k + n → ∃ R, refRun near may to n k F = some R := by
  intro n
  induction n with
  | zero =>
    intro k F h hs hl
    have := List.Nodup.length_le_of_subset h.nd hs
    rw [List.length_map] at this
    exact ⟨none, by simp only [refRun]; rw [if_neg (by omega)]⟩
  | succ n ih =>
    intro k F h hs hl
    by_cases hlt : k < F.length
    · simp only [refRun, if_pos hlt]
      by_cases h1 : fAt F k = to
      · rw [if_pos h1]; exact ⟨_, rfl⟩
      · rw [if_neg h1]
        split
        · obtain ⟨D, g1, g2, g3⟩ := (show ∃ D : Fnd, scanR k F (near (fAt F k)) = F ++ D ∧ FG from' (F ++ D) ∧ ∀ p ∈ D, p.1 ∈ near (fAt F k) by
            have : ∀ (row : List Int) (G : Fnd), FG from' G → k < G.length → ∃ D : Fnd, scanR k G row = G ++ D ∧ FG from' (G ++ D) ∧ ∀ p ∈ D, p.1 ∈ row := by
              intro row
              induction row with
              | nil => intro G h1 h2; exact ⟨[], by simp [scanR], by simpa using h1, by simp⟩
              | cons x row ih2 =>
                intro G h1 h2
                by_cases hx : x ∈ G.map (·.1)
                · have e : scanR k G (x :: row) = scanR k G row := by simp only [scanR, List.foldl_cons]; congr 1; unfold scanR1; rw [if_pos hx]
                  rw [e]
                  obtain ⟨D, a1, a2, a3⟩ := ih2 G h1 h2
                  exact ⟨D, a1, a2, fun p hp => List.mem_cons_of_mem _ (a3 p hp)⟩
                · have e : scanR k G (x :: row) = scanR k (G ++ [(x, k)]) row := by simp only [scanR, List.foldl_cons]; congr 1; unfold scanR1; rw [if_neg hx]
                  rw [e]
                  obtain ⟨D, a1, a2, a3⟩ := ih2 (G ++ [(x, k)]) (h1.snoc hx h2) (by simp; omega)
                  refine ⟨(x, k) :: D, by rw [a1]; simp, by simpa using a2, fun p hp => ?_⟩
                  rcases List.mem_cons.1 hp with rfl | hp
                  · simp
                  · exact List.mem_cons_of_mem _ (a3 p hp)
            exact this _ F h hlt)
          rw [g1]
          refine ih (k + 1) (F ++ D) g2 (fun x hx => ?_) (by omega)
          rw [List.map_append, List.mem_append] at hx
          rcases hx with hx | hx
          · exact hs x hx
          · obtain ⟨p, hp, rfl⟩ := List.mem_map.1 hx; exact hnear _ _ (g3 p hp)
        · exact ih (k + 1) F h hs (by omega)
    · simp only [refRun, if_neg hlt]; exact ⟨_, rfl⟩
theorem refPath_some {vs : List Int} {near : Int → List Int} {may : Int → Bool} {from' to : Int} (hnear : ∀ v, ∀ w ∈ near v, w ∈ vs) {n : Nat} (hn : vs.length ≤ n) : ∃ l, refPath vs near may from' to n = some l := by
  unfold refPath
  split
  · exact ⟨_, rfl⟩
  · rename_i hv
    have hf : from' ∈ vs := by
      by_cases h : from' ∈ vs
      · exact h
      · exact absurd (.inl h) hv
    have h0 : FG from' [(from', 0)] := ⟨by simp, rfl, fun k hk => by simp at hk; subst hk; simp [pAt], by simp⟩
    obtain ⟨R, hR⟩ := refRun_some (may := may) (to := to) hnear n 0 [(from', 0)] h0 (by simpa using hf) (by omega)
    rw [hR]
    rcases R with _ | ⟨F, k⟩
    · exact ⟨_, rfl⟩
    · exact ⟨_, rfl⟩

end Go.Proofs.YtomfeddgeihipaaGreat.Aw

namespace Go.Proofs.YtomfeddgeihipaaGreat.Aw
open Go Go.RowKit Go.Proofs.YtomfeddgeihipaaGreat.Pl
set_option linter.unusedSimpArgs false
set_option linter.unusedVariables false

/-- A pair of ends as a map's key. -/
def kE (x : Ed) : List Int := [if x.b < x.a then x.b else x.a, if x.a < x.b then x.b else x.a]
theorem kE_iff (x y : Ed) : kE x = kE y ↔ bes x y = true := by
  rw [bes_iff]
  unfold kE
  simp only [List.cons.injEq, and_true]
  constructor
  · rintro ⟨h1, h2⟩
    split at h1 <;> split at h1 <;> split at h2 <;> split at h2 <;> omega
  · rintro (⟨h1, h2⟩ | ⟨h1, h2⟩)
    · rw [h1, h2]; exact ⟨rfl, rfl⟩
    · rw [h1, h2]
      constructor
      · split <;> split <;> omega
      · split <;> split <;> omega

def bnd (l : List Ed) : List (List Int) := (sE l).map fun y => (l.filter fun x => bes y x).map (·.id)
theorem bnd_len (l : List Ed) : (bnd l).length = (sE l).length := by simp [bnd]
theorem bnd_new {l : List Ed} {x : Ed} (h : (sE l).any (bes x) = false) : sE (l ++ [x]) = sE l ++ [x] ∧ bnd (l ++ [x]) = bnd l ++ [[x.id]] := by
  have h' : ∀ y ∈ sE l, bes x y = false := fun y hy => by
    cases hb : bes x y with
    | false => rfl
    | true => rw [List.any_eq_true.2 ⟨y, hy, hb⟩] at h; cases h
  have hs : sE (l ++ [x]) = sE l ++ [x] := by rw [sE_snoc, h]; rfl
  refine ⟨hs, ?_⟩
  unfold bnd
  rw [hs, List.map_append]
  congr 1
  · refine List.map_congr_left fun y hy => ?_
    have : bes y x = false := by
      cases hb : bes y x with
      | false => rfl
      | true => have := h' y hy; rw [bes_symm hb] at this; cases this
    rw [List.filter_append]
    simp [this]
  · have : l.filter (fun z => bes x z) = [] := by
      rw [List.filter_eq_nil_iff]
      intro z hz hb
      obtain ⟨y, hy, h2⟩ := sE_has l z hz
      have := h' y hy
      rw [bes_trans hb h2] at this; cases this
    simp [List.filter_append, this, bes_refl]
theorem bnd_old {l : List Ed} {x : Ed} (h : (sE l).any (bes x) = true) : sE (l ++ [x]) = sE l ∧ ∃ L1 y L2 B1 r B2, sE l = L1 ++ y :: L2 ∧ bes x y = true ∧ bnd l = B1 ++ r :: B2 ∧ B1.length = L1.length ∧ bnd (l ++ [x]) = B1 ++ (r ++ [x.id]) :: B2 ∧ r.length ≤ l.length := by
  have hs : sE (l ++ [x]) = sE l := by rw [sE_snoc, h]; rfl
  refine ⟨hs, ?_⟩
  obtain ⟨y, hy, hb⟩ := List.any_eq_true.1 h
  obtain ⟨L1, L2, hL⟩ := List.append_of_mem hy
  have hap := sE_apart l
  rw [hL, List.pairwise_append, List.pairwise_cons] at hap
  obtain ⟨_, ⟨p2, _⟩, p3⟩ := hap
  have hno : ∀ z, (z ∈ L1 ∨ z ∈ L2) → bes z x = false := by
    intro z hz
    cases hzx : bes z x with
    | false => rfl
    | true =>
      have hzy := bes_trans hzx hb
      rcases hz with hz | hz
      · have := p3 z hz y (by simp); rw [hzy] at this; cases this
      · have := p2 z hz; rw [bes_symm hzy] at this; cases this
  refine ⟨L1, y, L2, _, _, _, hL, hb, by unfold bnd; rw [hL, List.map_append, List.map_cons], by simp, ?_, ?_⟩
  · unfold bnd
    rw [hs, hL, List.map_append, List.map_cons]
    have e : ∀ L : List Ed, (∀ z ∈ L, bes z x = false) → L.map (fun y => ((l ++ [x]).filter fun x => bes y x).map (·.id)) = L.map fun y => (l.filter fun x => bes y x).map (·.id) := by
      intro L hL
      refine List.map_congr_left fun z hz => ?_
      rw [List.filter_append]
      simp [hL z hz]
    rw [e L1 fun z hz => hno z (.inl hz), e L2 fun z hz => hno z (.inr hz)]
    congr 2
    rw [List.filter_append]
    simp [bes_symm hb]
  · rw [List.length_map]; exact List.length_filter_le _ _

/-- The map of the bundles' places. -/
structure AtM (l : List Ed) (es : List (List Int × LV)) : Prop where
  old : ∀ x L1 y L2, sE l = L1 ++ y :: L2 → bes x y = true → mget es (kE x) = some (i L1.length)
  new : ∀ x, (sE l).any (bes x) = false → mget es (kE x) = none
theorem AtM.nil : AtM [] [] := ⟨fun x L1 y L2 h _ => by simp [sE] at h, fun x _ => rfl⟩
theorem AtM.keep {l : List Ed} {es : List (List Int × LV)} (h : AtM l es) {x : Ed} (hx : sE (l ++ [x]) = sE l) : AtM (l ++ [x]) es :=
  ⟨by rw [hx]; exact h.old, by rw [hx]; exact h.new⟩
theorem AtM.add {l : List Ed} {es : List (List Int × LV)} (h : AtM l es) {x : Ed} (hx : (sE l).any (bes x) = false) : AtM (l ++ [x]) (mset es (kE x) (i (sE l).length)) := by
  have hs := (bnd_new hx).1
  constructor
  · intro z L1 y L2 hL hb
    rw [hs] at hL
    rw [mget_mset]
    rcases List.eq_nil_or_concat L2 with rfl | ⟨L2', y', rfl⟩
    · have := List.append_inj' hL rfl
      obtain ⟨h1, h2⟩ := this
      simp only [List.cons.injEq, and_true] at h2
      subst h1 h2
      rw [if_pos ((kE_iff _ _).2 hb)]
    · rw [List.concat_eq_append, show L1 ++ y :: (L2' ++ [y']) = (L1 ++ y :: L2') ++ [y'] by simp] at hL
      obtain ⟨h1, h2⟩ := List.append_inj' hL rfl
      rw [if_neg, h.old z L1 y L2' h1 hb]
      intro hk
      have hxy := bes_trans (bes_symm ((kE_iff _ _).1 hk)) hb
      rw [List.any_eq_true.2 ⟨y, by rw [h1]; simp, hxy⟩] at hx
      cases hx
  · intro z hz
    rw [hs, List.any_append, Bool.or_eq_false_iff] at hz
    rw [mget_mset, if_neg, h.new z hz.1]
    intro hk
    have := (kE_iff _ _).1 hk
    simp [this] at hz

end Go.Proofs.YtomfeddgeihipaaGreat.Aw

namespace Go.Proofs.YtomfeddgeihipaaGreat.Aw
open Go Go.RowKit Go.Proofs.YtomfeddgeihipaaGreat.Pl
set_option linter.unusedSimpArgs false
set_option linter.unusedVariables false

/-- Rows of the call's own: a token, a row. -/
abbrev TR := Nat × List Int
def cellT (p : TR) : LV := .sl p.1 p.2.length (us p.2)
def cellsT (R : List TR) : List LV := R.map cellT
theorem cellsT_len (R : List TR) : (cellsT R).length = R.length := by simp [cellsT]
structure SimB (E : List Ed) (st0 : St) (L2 L4 M te q : Nat) (vs : List Int) (mes : List (List Int × LV)) (R : List TR) (s : St) : Prop where
  h2 : s.H L2 = .box 38 2 [.nil, .nil]
  h4 : s.H L4 = .box 38 2 [.sl 0 vs.length (us vs), .sl te (sE E).length (eds (sE E))]
  ht : s.H te = .own 43 3 (sE E).length
  hM : s.H M = .map true [.u32, .u32] mes
  hq : s.H q = .box 35 1 (cellsT R)
  bn : R.map (·.2) = bnd E
  at' : AtM E mes
  nd : (R.map (·.1)).Nodup
  tk : ∀ p ∈ R, st0.next ≤ p.1 ∧ p.1 < s.next ∧ s.H p.1 = .own 41 1 p.2.length
  b : st0.next ≤ L2 ∧ st0.next ≤ L4 ∧ st0.next ≤ M ∧ st0.next ≤ te ∧ st0.next ≤ q ∧ L2 < s.next ∧ L4 < s.next ∧ M < s.next ∧ te < s.next ∧ q < s.next
  kp : Keeps st0 s
def SimI (g : Gr) (st0 : St) (L2 L4 M k : Nat) (fr : Frm) (s : St) : Prop :=
  fr 2 = .pt L2 0 ∧ fr 4 = .pt L4 0 ∧ fr 6 = .mp M ∧ fr 18 = .sl 0 g.es.length (eds g.es) ∧ fr 19 = i g.es.length ∧ fr 20 = i k ∧
  ∃ te q mes R, fr 5 = .ms q 0 R.length ∧ SimB (g.es.take k) st0 L2 L4 M te q g.vs mes R s

theorem box_ne {st : St} {a b : Nat} {x y : LObj} (ha : st.H a = x) (hb : st.H b = y) (h : x ≠ y) : ¬ a = b := fun e => h (by rw [← ha, e, hb])

theorem z0_edsB (l : List Ed) : z0L (eds l) = eds l := by
  induction l with
  | nil => rfl
  | cons e l ih => simp only [eds, List.flatMap_cons, List.cons_append, List.nil_append, z0L, z0] at ih ⊢; rw [ih]
theorem z0_cellsT (R : List TR) : z0L (cellsT R) = R.map fun p => .sl 0 p.2.length (us p.2) := by
  rw [z0L_map, cellsT, List.map_map]
  refine List.map_congr_left fun p _ => ?_
  simp [cellT, z0]

set_option maxHeartbeats 2000000 in
theorem Simple (g : Gr) (st : St) (hv : g.vs.length ≤ 1048576) (he : g.es.length ≤ 1000) (hp : 0 < st.next) :
    ACalls Tryz.prog 28 [.ag (grL g)] st fun r st' => r = .tu [.ag [.sl 0 g.vs.length (us g.vs), .sl 0 (sE g.es).length (eds (sE g.es))], .sl 0 (bnd g.es).length ((bnd g.es).map fun l => .sl 0 l.length (us l))] ∧ Keeps st st' := by
  refine acalls_z0 ?_
  have hel := eds_length g.es
  refine acalls_of_body tabOk Tryz.func28 rfl rfl Tryz.ntmps28 (rs := [.cell 2 38, .tmp 3]) rfl (by simp) ?_
  (repeat' (first | refine awp_seq ?_ | refine awp_block ?_ | ((first | refine awp_skip ?_ | refine awp_exit ?_); simp only [ak, reduceIte]) | (refine awp_ret ?_; simp only [ak, reduceIte]; simp []) | (refine awp_cond ?_; simp []; (try with_reducible refine ⟨?_, ?_⟩) <;> (try with_reducible intro hc) <;> try (exfalso; omega)) | ((first | (refine w_e [] ?_; intro J hJ; simp only []) | (refine w_q ?_; intro J hJ) | refine e_go ?_); simp []; (repeat refine ca ?_); (try ((try with_reducible refine ⟨?_, ?_⟩) <;> (try with_reducible intro hnil) <;> refine hJ _ _ ?_ <;> clear hJ J <;> simp only [ak, reduceIte] <;> try subst hnil)))))
  refine callK_ofE (Clone g.vs 0 _ hv) (by simp []) ?_; rintro r st' ⟨rfl, hk1⟩
  have hn1 := hk1.next
  simp only [new_next] at hn1
  have hG1 : st'.H st.next = .box 38 2 (grL g) := by rw [hk1.H _ (by simp; omega)]; simp
  have hC1 : st'.H (st.next + 1) = .box 38 2 [.nil, .nil] := by rw [hk1.H _ (by simp)]; simp
  have hkp : Keeps st st' := ((Keeps.new _ _).trans (Keeps.new _ _)).trans hk1
  generalize hL : st' = s1 at *
  have e1 : ¬ st.next = s1.next := by omega
  have e2 : ¬ st.next = s1.next + 1 := by omega
  (repeat' (first | refine awp_seq ?_ | refine awp_block ?_ | ((first | refine awp_skip ?_ | refine awp_exit ?_); simp only [ak, reduceIte]) | (refine awp_ret ?_; simp only [ak, reduceIte]; simp [e1, e2, hG1]) | (refine awp_cond ?_; simp [e1, e2, hG1]; (try with_reducible refine ⟨?_, ?_⟩) <;> (try with_reducible intro hc) <;> try (exfalso; omega)) | ((first | (refine w_e [] ?_; intro J hJ; simp only []) | (refine w_q ?_; intro J hJ) | refine e_go ?_); simp [e1, e2, hG1]; (repeat refine ca ?_); (try ((try with_reducible refine ⟨?_, ?_⟩) <;> (try with_reducible intro hnil) <;> refine hJ _ _ ?_ <;> clear hJ J <;> simp only [ak, reduceIte] <;> try subst hnil)))))
  refine awp_cell s1.next 43 3 (e := 38) (s := 2) [.sl 0 g.vs.length (us g.vs)] [] (by simp) ?_
  refine awp_ownM 5 35 1 (by simp) ?_
  refine awp_loop (fun n fr s => ∃ k : Nat, k ≤ g.es.length ∧ n = g.es.length - k ∧ SimI g st (st.next + 1) s1.next (s1.next + 1) k fr s) g.es.length ?_ ?_
  · refine ⟨0, by omega, by omega, by simp, by simp, by simp, by simp, by simp, by simp, s1.next + 2, s1.next + 3, [], [], by simp, ?_⟩
    have h5 : ¬ st.next = s1.next + 2 := by omega
    have h1 : ¬ st.next + 1 = s1.next := by omega
    refine ⟨by simp [h1, h5, e1, e2, hC1], by simp [sE]; omega, by simp [sE], by simp, by simp [cellsT], by simp [bnd, sE], AtM.nil, by simp, by simp, ⟨by omega, by omega, by omega, by omega, by omega, by simp; omega, by simp; omega, by simp, by simp, by simp⟩, ?_⟩
    exact (((((hkp.trans (Keeps.new _ _)).trans (Keeps.new _ _)).trans (Keeps.new _ _)).set (by omega) _).trans (Keeps.new _ _))
  rintro n fr s ⟨k, hk, rfl, f2, f4, f6, f18, f19, f20, te, q, mes, R, f5, hB⟩ JJ hJJ
  obtain ⟨H2, H4, Ht, HM, Hq, hbn, hat, hnd, htk, ⟨b1, b2, b3, b4, b5, b6, b7, b8, b9, b10⟩, hkps⟩ := hB
  have q24 : ¬ q = s1.next := box_ne Hq H4 (by simp)
  by_cases hlt : k < g.es.length
  rotate_left
  · clear hJJ
    have hk' : k = g.es.length := by omega
    rw [hk', List.take_length] at H4 Ht hbn
    have hbl : (bnd g.es).length = R.length := by rw [← hbn, List.length_map]
    have n1 : ¬ st.next + 1 = q := box_ne H2 Hq (by simp)
    have n2 : ¬ s1.next = q := fun h => q24 h.symm
    have n3 : ¬ s1.next = st.next + 1 := by omega
    have hsl := sE_len g.es
    refine awp_freeze 5 f5 Hq (by simp [cellsT_len]) ?_
    have htk2 : (cellsT R).take (R.length * 1) = cellsT R := List.take_of_length_le (by rw [cellsT_len]; omega)
    rw [htk2]
    (repeat' (first | refine awp_seq ?_ | refine awp_block ?_ | ((first | refine awp_skip ?_ | refine awp_exit ?_); simp only [ak, reduceIte]) | (refine awp_ret ?_; simp only [ak, reduceIte]; simp [f2, f4, f19, f20, hlt, H4, H2, n1, n2, n3]) | (refine awp_cond ?_; simp [f2, f4, f19, f20, hlt, H4, H2, n1, n2, n3]; (try with_reducible refine ⟨?_, ?_⟩) <;> (try with_reducible intro hc) <;> try (exfalso; omega)) | ((first | (refine w_e [] ?_; intro J hJ; simp only []) | (refine w_q ?_; intro J hJ) | refine e_go ?_); simp [f2, f4, f19, f20, hlt, H4, H2, n1, n2, n3]; (repeat refine ca ?_); (try ((try with_reducible refine ⟨?_, ?_⟩) <;> (try with_reducible intro hnil) <;> refine hJ _ _ ?_ <;> clear hJ J <;> simp only [ak, reduceIte] <;> try subst hnil)))))
    refine ⟨?_, (hkps.set (by omega) _).set (by omega) _⟩
    rw [hbl, ← hbn]
    simp only [z0, z0L, z0_us, z0_edsB, z0_cellsT, List.map_map]
    rfl
  have hd := eds_drop g.es k hlt
  have hw := nat_add_one k (by omega)
  have hk3 : k * 3 < g.es.length * 3 := by omega
  have htk1 : g.es.take (k + 1) = g.es.take k ++ [g.es.getD k ed0] := by
    rw [List.getD_eq_getElem?_getD, List.getElem?_eq_getElem hlt]; exact List.take_succ_eq_append_getElem hlt
  have hEl : (g.es.take k).length ≤ 1000 := by rw [List.length_take]; omega
  generalize g.es.getD k ed0 = x at *
  generalize hE : g.es.take k = E at *
  obtain ⟨id, a, b⟩ := x
  simp only at hd
  cases hany : (sE E).any (bes ⟨id, a, b⟩)
  · have hm := hat.new ⟨id, a, b⟩ hany
    simp only [kE] at hm
    have hsm : (List.map (fun _ : Ed => 3) (sE E)).sum = (sE E).length * 3 := by
      induction sE E with
      | nil => rfl
      | cons x l ih => simp only [List.map_cons, List.sum_cons, List.length_cons, ih]; omega
    have hsl := sE_len E
    have te0 : ¬ te = 0 := by omega
    have hcl := cellsT_len R
    have hRl : R.length = (sE E).length := by rw [← bnd_len, ← hbn, List.length_map]
    have htR : List.take R.length (cellsT R) = cellsT R := List.take_of_length_le (by omega)
    have hdl : List.drop R.length (cellsT R ++ [LV.nil]) = [.nil] := by rw [← hcl]; exact List.drop_left
    have htl : List.take R.length (cellsT R ++ [LV.nil]) = cellsT R := by rw [← hcl]; exact List.take_left
    have hdl2 : List.drop (R.length + 1) (cellsT R ++ [LV.nil]) = [] := List.drop_eq_nil_of_le (by simp [hcl])
    have hRn : ((R.length : Int)).toNat = R.length := by omega
    have c0 : ¬ s1.next = s.next := by omega
    have c0' : ¬ s.next = s1.next := by omega
    have c1 : ¬ s1.next = s.next + 1 := by omega
    have c1' : ¬ s.next + 1 = s1.next := by omega
    have c2 : ¬ s1.next = s.next + 2 := by omega
    have c2' : ¬ s.next + 2 = s1.next := by omega
    have c3 : ¬ s1.next = s.next + 3 := by omega
    have c3' : ¬ s.next + 3 = s1.next := by omega
    have c4 : ¬ s1.next = s.next + 4 := by omega
    have c4' : ¬ s.next + 4 = s1.next := by omega
    have e0 : ¬ te = s.next := by omega
    have e0' : ¬ s.next = te := by omega
    have e1 : ¬ te = s.next + 1 := by omega
    have e1' : ¬ s.next + 1 = te := by omega
    have e2 : ¬ te = s.next + 2 := by omega
    have e2' : ¬ s.next + 2 = te := by omega
    have e3 : ¬ te = s.next + 3 := by omega
    have e3' : ¬ s.next + 3 = te := by omega
    have e4 : ¬ te = s.next + 4 := by omega
    have e4' : ¬ s.next + 4 = te := by omega
    have d0 : ¬ q = s.next := by omega
    have d0' : ¬ s.next = q := by omega
    have d1 : ¬ q = s.next + 1 := by omega
    have d1' : ¬ s.next + 1 = q := by omega
    have d2 : ¬ q = s.next + 2 := by omega
    have d2' : ¬ s.next + 2 = q := by omega
    have d3 : ¬ q = s.next + 3 := by omega
    have d3' : ¬ s.next + 3 = q := by omega
    have d4 : ¬ q = s.next + 4 := by omega
    have d4' : ¬ s.next + 4 = q := by omega
    have c9 : ¬ s1.next + 1 = s.next := by omega
    have c9' : ¬ s.next = s1.next + 1 := by omega
    have n1 : ¬ te = s1.next := box_ne Ht H4 (by simp)
    have n2 : ¬ te = s1.next + 1 := box_ne Ht HM (by simp)
    have n3 : ¬ q = s1.next + 1 := box_ne Hq HM (by simp)
    have n4 : ¬ q = te := box_ne Hq Ht (by simp)
    have n1' : ¬ s1.next = te := fun h => n1 h.symm
    have n2' : ¬ s1.next + 1 = te := fun h => n2 h.symm
    have n3' : ¬ s1.next + 1 = q := fun h => n3 h.symm
    have n4' : ¬ te = q := fun h => n4 h.symm
    have n5' : ¬ s1.next = q := fun h => q24 h.symm
    have r2 : ¬ s.next = s.next + 1 + 1 := by omega
    have r3 : ¬ s.next = s.next + 1 + 1 + 1 := by omega
    have r4 : ¬ s.next = s.next + 1 + 1 + 1 + 1 := by omega
    have r5 : ¬ s.next = s.next + 1 + 1 + 1 + 1 + 1 := by omega
    have r6 : ¬ s.next = s.next + 1 + 1 + 1 + 1 + 1 + 1 := by omega
    have r7 : ¬ s.next = s.next + 1 + 1 + 1 + 1 + 1 + 1 + 1 := by omega
    have p1 : R.length < R.length + 1 := by omega
    (repeat' (first | refine awp_seq ?_ | refine awp_block ?_ | ((first | refine awp_skip ?_ | refine awp_exit ?_); simp only [ak, reduceIte]) | (refine awp_ret ?_; simp only [ak, reduceIte]; simp [hcl, htR, hsm, te0, c0, c0', c1, c1', c2, c2', c3, c3', c4, c4', e0, e0', e1, e1', e2, e2', e3, e3', e4, e4', d0, d0', d1, d1', d2, d2', d3, d3', d4, d4', c9, c9', n1, n2, n3, n4, n1', n2', n3', n4', n5', Ht, Hq, q24, f4, f5, f6, f18, f19, f20, hlt, hd, hel, hk3, hw, H4, HM, hm]) | (refine awp_cond ?_; simp [hcl, htR, hsm, te0, c0, c0', c1, c1', c2, c2', c3, c3', c4, c4', e0, e0', e1, e1', e2, e2', e3, e3', e4, e4', d0, d0', d1, d1', d2, d2', d3, d3', d4, d4', c9, c9', n1, n2, n3, n4, n1', n2', n3', n4', n5', Ht, Hq, q24, f4, f5, f6, f18, f19, f20, hlt, hd, hel, hk3, hw, H4, HM, hm]; (try with_reducible refine ⟨?_, ?_⟩) <;> (try with_reducible intro hc) <;> try (exfalso; omega)) | ((first | (refine w_e [] ?_; intro J hJ; simp only []) | (refine w_q ?_; intro J hJ) | refine e_go ?_); simp [hcl, htR, hsm, te0, c0, c0', c1, c1', c2, c2', c3, c3', c4, c4', e0, e0', e1, e1', e2, e2', e3, e3', e4, e4', d0, d0', d1, d1', d2, d2', d3, d3', d4, d4', c9, c9', n1, n2, n3, n4, n1', n2', n3', n4', n5', Ht, Hq, q24, f4, f5, f6, f18, f19, f20, hlt, hd, hel, hk3, hw, H4, HM, hm]; (repeat refine ca ?_); (try ((try with_reducible refine ⟨?_, ?_⟩) <;> (try with_reducible intro hnil) <;> refine hJ _ _ ?_ <;> clear hJ J <;> simp only [ak, reduceIte] <;> try subst hnil)))))
    (refine w_s [] [s.next, s.next + 1 + 1 + 1 + 1 + 1] [(0, true), (1, true), (2, true), (3, true), (4, true), (5, true), (6, true), (7, true), (8, true), (9, true), (10, true), (11, false)] ?_; intro J hJ; simp [r2, r3, r4, r5, r6, r7, c0, c0', c1, c1', c2, c2', c3, c3', c4, c4', e0, e0', e1, e1', e2, e2', e3, e3', e4, e4', d0, d0', d1, d1', d2, d2', d3, d3', d4, d4', c9, c9', n1, n2, n3, n4, n1', n2', n3', n4', n5', hcl, htR, hdl, htl, hdl2, p1]; (repeat refine ca ?_); (try ((try with_reducible refine ⟨?_, ?_⟩) <;> (try with_reducible intro hnil) <;> refine hJ _ _ ?_ <;> clear hJ J <;> simp only [ak, reduceIte] <;> try subst hnil)))
    (repeat' (first | refine awp_seq ?_ | refine awp_block ?_ | ((first | refine awp_skip ?_ | refine awp_exit ?_); simp only [ak, reduceIte]) | (refine awp_ret ?_; simp only [ak, reduceIte]; simp [f20, hw]) | (refine awp_cond ?_; simp [f20, hw]; (try with_reducible refine ⟨?_, ?_⟩) <;> (try with_reducible intro hc) <;> try (exfalso; omega)) | ((first | (refine w_e [] ?_; intro J hJ; simp only []) | (refine w_q ?_; intro J hJ) | refine e_go ?_); simp [f20, hw]; (repeat refine ca ?_); (try ((try with_reducible refine ⟨?_, ?_⟩) <;> (try with_reducible intro hnil) <;> refine hJ _ _ ?_ <;> clear hJ J <;> simp only [ak, reduceIte] <;> try subst hnil)))))
    have l1 : ¬ st.next + 1 = te := box_ne H2 Ht (by simp)
    have l2 : ¬ st.next + 1 = q := box_ne H2 Hq (by simp)
    obtain ⟨hs, hb⟩ := bnd_new hany
    refine hJJ (g.es.length - (k + 1)) _ _ (by omega) ⟨k + 1, by omega, rfl, by simp [f2], by simp [f4], by simp [f6], by simp [f18], by simp [f19], by simp, s.next + 3, s.next + 5, mset mes (kE ⟨id, a, b⟩) (i (sE E).length), R ++ [(s.next + 7, [id])], by simp, ?_⟩
    rw [htk1]
    refine ⟨?_, ?_, ?_, ?_, ?_, ?_, hat.add hany, ?_, ?_, ?_, ?_⟩
    · (repeat (first | rw [new_H, if_neg (α := LObj) (by (try simp only [set_next, new_next]); omega)] | rw [set_H, if_neg (α := LObj) (by omega)] | rw [new_H, if_pos (α := LObj) (by (try simp only [set_next, new_next]))] | rw [set_H, if_pos (α := LObj) (by omega)])); exact H2
    · (repeat (first | rw [new_H, if_neg (α := LObj) (by (try simp only [set_next, new_next]); omega)] | rw [set_H, if_neg (α := LObj) (by omega)] | rw [new_H, if_pos (α := LObj) (by (try simp only [set_next, new_next]))] | rw [set_H, if_pos (α := LObj) (by omega)])); rw [hs]; simp [eds]
    · (repeat (first | rw [new_H, if_neg (α := LObj) (by (try simp only [set_next, new_next]); omega)] | rw [set_H, if_neg (α := LObj) (by omega)] | rw [new_H, if_pos (α := LObj) (by (try simp only [set_next, new_next]))] | rw [set_H, if_pos (α := LObj) (by omega)])); rw [hs]; simp
    · (repeat (first | rw [new_H, if_neg (α := LObj) (by (try simp only [set_next, new_next]); omega)] | rw [set_H, if_neg (α := LObj) (by omega)] | rw [new_H, if_pos (α := LObj) (by (try simp only [set_next, new_next]))] | rw [set_H, if_pos (α := LObj) (by omega)])); rw [hRl]; rfl
    · (repeat (first | rw [new_H, if_neg (α := LObj) (by (try simp only [set_next, new_next]); omega)] | rw [set_H, if_neg (α := LObj) (by omega)] | rw [new_H, if_pos (α := LObj) (by (try simp only [set_next, new_next]))] | rw [set_H, if_pos (α := LObj) (by omega)])); simp [cellsT, cellT]
    · rw [List.map_append, hbn, hb]; rfl
    · rw [List.map_append, List.nodup_append]
      refine ⟨hnd, by simp, fun x hx y hy => ?_⟩
      obtain ⟨p, hp, rfl⟩ := List.mem_map.1 hx
      simp at hy
      have := (htk p hp).2.1
      omega
    · intro p hp
      rcases List.mem_append.1 hp with hp | hp
      · obtain ⟨h1, h2, h3⟩ := htk p hp
        have t1 : ¬ p.1 = te := box_ne h3 Ht (by simp)
        have t2 : ¬ p.1 = q := box_ne h3 Hq (by simp)
        have t3 : ¬ p.1 = s1.next := box_ne h3 H4 (by simp)
        have t4 : ¬ p.1 = s1.next + 1 := box_ne h3 HM (by simp)
        refine ⟨h1, by simp; omega, ?_⟩
        (repeat (first | rw [new_H, if_neg (α := LObj) (by (try simp only [set_next, new_next]); omega)] | rw [set_H, if_neg (α := LObj) (by omega)] | rw [new_H, if_pos (α := LObj) (by (try simp only [set_next, new_next]))] | rw [set_H, if_pos (α := LObj) (by omega)])); exact h3
      · rw [List.mem_singleton] at hp
        subst hp
        refine ⟨by simp; omega, by simp, ?_⟩
        (repeat (first | rw [new_H, if_neg (α := LObj) (by (try simp only [set_next, new_next]); omega)] | rw [set_H, if_neg (α := LObj) (by omega)] | rw [new_H, if_pos (α := LObj) (by (try simp only [set_next, new_next]))] | rw [set_H, if_pos (α := LObj) (by omega)])); rfl
    · simp only [set_next, new_next]; omega
    · refine ⟨by have := hkps.next; simp only [set_next, new_next]; omega, fun l hl => ?_⟩
      (repeat (first | rw [new_H, if_neg (α := LObj) (by (try simp only [set_next, new_next]); omega)] | rw [set_H, if_neg (α := LObj) (by omega)] | rw [new_H, if_pos (α := LObj) (by (try simp only [set_next, new_next]))] | rw [set_H, if_pos (α := LObj) (by omega)])); exact hkps.H l hl
  obtain ⟨hs, L1, y, L2, B1, r, B2, hL, hyb, hB0, hBl, hB1, hrl⟩ := bnd_old hany
  have hm := hat.old ⟨id, a, b⟩ L1 y L2 hL hyb
  simp only [kE] at hm
  rw [hB0] at hbn
  obtain ⟨R1, R', rfl, hR1, hR'⟩ := List.map_eq_append_iff.1 hbn
  obtain ⟨p, R2, rfl, hpr, hR2⟩ := List.map_eq_cons_iff.1 hR'
  obtain ⟨t0, r0⟩ := p
  simp only at hpr
  subst hpr
  obtain ⟨hb1, hb2, hb3⟩ := htk (t0, r0) (by simp)
  simp only at hb1 hb2 hb3
  have hR1l : R1.length = L1.length := by rw [← hBl, ← hR1, List.length_map]
  have hcl : (cellsT (R1 ++ (t0, r0) :: R2)).length = R1.length + (R2.length + 1) := by rw [cellsT_len]; simp
  have hRl : (R1 ++ (t0, r0) :: R2).length = R1.length + (R2.length + 1) := by simp
  have hcs : cellsT (R1 ++ (t0, r0) :: R2) = cellsT R1 ++ .sl t0 r0.length (us r0) :: cellsT R2 := by simp [cellsT, cellT]
  have hc1 : (cellsT R1).length = R1.length := cellsT_len R1
  have hdl : List.drop R1.length (cellsT R1 ++ LV.sl t0 r0.length (us r0) :: cellsT R2) = .sl t0 r0.length (us r0) :: cellsT R2 := by rw [← hc1]; exact List.drop_left
  have htl : List.take R1.length (cellsT R1 ++ LV.sl t0 r0.length (us r0) :: cellsT R2) = cellsT R1 := by rw [← hc1]; exact List.take_left
  have hdl2 : List.drop (R1.length + 1) (cellsT R1 ++ LV.sl t0 r0.length (us r0) :: cellsT R2) = cellsT R2 := by
    rw [← hc1, show cellsT R1 ++ LV.sl t0 r0.length (us r0) :: cellsT R2 = (cellsT R1 ++ [LV.sl t0 r0.length (us r0)]) ++ cellsT R2 by simp]
    rw [show (cellsT R1).length + 1 = (cellsT R1 ++ [LV.sl t0 r0.length (us r0)]).length by simp]
    exact List.drop_left
  rw [hRl] at f5
  rw [hcs] at Hq
  rw [← hR1l] at hm
  have t00 : ¬ t0 = 0 := by omega
  have m1 : ¬ s1.next = s.next := by omega
  have m1' : ¬ s.next = s1.next := by omega
  have m2 : ¬ s1.next + 1 = s.next := by omega
  have m2' : ¬ s.next = s1.next + 1 := by omega
  have m5 : ¬ t0 = s.next := by omega
  have m6 : ¬ t0 = s.next + 1 := by omega
  have m6b : ¬ t0 = s.next + 2 := by omega
  have m5' : ¬ s.next = t0 := by omega
  have m6' : ¬ s.next + 1 = t0 := by omega
  have m6b' : ¬ s.next + 2 = t0 := by omega
  have m7 : ¬ q = s.next := by omega
  have m8 : ¬ q = s.next + 1 := by omega
  have m9 : ¬ q = s.next + 2 := by omega
  have m9b : ¬ q = s.next + 3 := by omega
  have n4 : ¬ q = t0 := box_ne Hq hb3 (by simp)
  have r2 : ¬ s.next = s.next + 1 + 1 := by omega
  have r3 : ¬ s.next = s.next + 1 + 1 + 1 := by omega
  have p1 : R1.length < R1.length + (R2.length + 1) := by omega
  have p2 : (R1.length : Int) < (R1.length : Int) + ((R2.length : Int) + 1) := by omega
  have hr1 : r0.length ≤ 1000 := by omega
  (repeat' (first | refine awp_seq ?_ | refine awp_block ?_ | ((first | refine awp_skip ?_ | refine awp_exit ?_); simp only [ak, reduceIte]) | (refine awp_ret ?_; simp only [ak, reduceIte]; simp [m1, m1', m2, m2', f4, f5, f6, f18, f19, f20, hlt, hd, hel, hk3, hw, HM, hm]) | (refine awp_cond ?_; simp [m1, m1', m2, m2', f4, f5, f6, f18, f19, f20, hlt, hd, hel, hk3, hw, HM, hm]; (try with_reducible refine ⟨?_, ?_⟩) <;> (try with_reducible intro hc) <;> try (exfalso; omega)) | ((first | (refine w_e [] ?_; intro J hJ; simp only []) | (refine w_q ?_; intro J hJ) | refine e_go ?_); simp [m1, m1', m2, m2', f4, f5, f6, f18, f19, f20, hlt, hd, hel, hk3, hw, HM, hm]; (repeat refine ca ?_); (try ((try with_reducible refine ⟨?_, ?_⟩) <;> (try with_reducible intro hnil) <;> refine hJ _ _ ?_ <;> clear hJ J <;> simp only [ak, reduceIte] <;> try subst hnil)))))
  (refine w_s [] [s.next, q] [(0, true), (1, true), (2, true), (3, true), (4, true), (5, true), (6, true), (7, true), (8, true), (9, true), (10, true), (11, false)] ?_; intro J hJ; simp [m1, m1', m2, m2', m5, m6, m6b, m5', m6', m6b', m7, m8, m9, m9b, n4, r2, r3, f5, Hq, hb3, hc1, hdl, htl, hdl2, p1, p2, t00]; (repeat refine ca ?_); (try ((try with_reducible refine ⟨?_, ?_⟩) <;> (try with_reducible intro hnil) <;> refine hJ _ _ ?_ <;> clear hJ J <;> simp only [ak, reduceIte] <;> try subst hnil)))
  (repeat' (first | refine awp_seq ?_ | refine awp_block ?_ | ((first | refine awp_skip ?_ | refine awp_exit ?_); simp only [ak, reduceIte]) | (refine awp_ret ?_; simp only [ak, reduceIte]; simp [f20, hw]) | (refine awp_cond ?_; simp [f20, hw]; (try with_reducible refine ⟨?_, ?_⟩) <;> (try with_reducible intro hc) <;> try (exfalso; omega)) | ((first | (refine w_e [] ?_; intro J hJ; simp only []) | (refine w_q ?_; intro J hJ) | refine e_go ?_); simp [f20, hw]; (repeat refine ca ?_); (try ((try with_reducible refine ⟨?_, ?_⟩) <;> (try with_reducible intro hnil) <;> refine hJ _ _ ?_ <;> clear hJ J <;> simp only [ak, reduceIte] <;> try subst hnil)))))
  have l2 : ¬ st.next + 1 = q := box_ne H2 Hq (by simp)
  have l3 : ¬ st.next + 1 = t0 := box_ne H2 hb3 (by simp)
  have l4 : ¬ s1.next = q := fun h => q24 h.symm
  have l5 : ¬ s1.next = t0 := box_ne H4 hb3 (by simp)
  have l6 : ¬ s1.next + 1 = q := box_ne HM Hq (by simp)
  have l7 : ¬ s1.next + 1 = t0 := box_ne HM hb3 (by simp)
  have l8 : ¬ te = q := box_ne Ht Hq (by simp)
  have l9 : ¬ te = t0 := box_ne Ht hb3 (by simp)
  refine hJJ (g.es.length - (k + 1)) _ _ (by omega) ⟨k + 1, by omega, rfl, by simp [f2], by simp [f4], by simp [f6], by simp [f18], by simp [f19], by simp, te, q, mes, R1 ++ (s.next + 3, r0 ++ [id]) :: R2, by simp [f5], ?_⟩
  rw [htk1]
  have hnd' := hnd
  rw [List.map_append, List.map_cons, List.nodup_append, List.nodup_cons] at hnd'
  obtain ⟨nd1, ⟨nd2, nd3⟩, nd4⟩ := hnd'
  refine ⟨?_, ?_, ?_, ?_, ?_, ?_, hat.keep hs, ?_, ?_, ?_, ?_⟩
  · (repeat (first | rw [new_H, if_neg (α := LObj) (by (try simp only [set_next, new_next]); omega)] | rw [set_H, if_neg (α := LObj) (by omega)] | rw [new_H, if_pos (α := LObj) (by (try simp only [set_next, new_next]))] | rw [set_H, if_pos (α := LObj) (by omega)])); exact H2
  · (repeat (first | rw [new_H, if_neg (α := LObj) (by (try simp only [set_next, new_next]); omega)] | rw [set_H, if_neg (α := LObj) (by omega)] | rw [new_H, if_pos (α := LObj) (by (try simp only [set_next, new_next]))] | rw [set_H, if_pos (α := LObj) (by omega)])); rw [hs]; exact H4
  · (repeat (first | rw [new_H, if_neg (α := LObj) (by (try simp only [set_next, new_next]); omega)] | rw [set_H, if_neg (α := LObj) (by omega)] | rw [new_H, if_pos (α := LObj) (by (try simp only [set_next, new_next]))] | rw [set_H, if_pos (α := LObj) (by omega)])); rw [hs]; exact Ht
  · (repeat (first | rw [new_H, if_neg (α := LObj) (by (try simp only [set_next, new_next]); omega)] | rw [set_H, if_neg (α := LObj) (by omega)] | rw [new_H, if_pos (α := LObj) (by (try simp only [set_next, new_next]))] | rw [set_H, if_pos (α := LObj) (by omega)])); exact HM
  · (repeat (first | rw [new_H, if_neg (α := LObj) (by (try simp only [set_next, new_next]); omega)] | rw [set_H, if_neg (α := LObj) (by omega)] | rw [new_H, if_pos (α := LObj) (by (try simp only [set_next, new_next]))] | rw [set_H, if_pos (α := LObj) (by omega)])); simp [cellsT, cellT]
  · rw [hB1, List.map_append, List.map_cons, hR1, hR2]
  · rw [List.map_append, List.map_cons, List.nodup_append, List.nodup_cons]
    have lt1 : ∀ x ∈ R1.map (·.1), x < s.next := fun x hx => by
      obtain ⟨p, hp, rfl⟩ := List.mem_map.1 hx
      exact (htk p (by simp [hp])).2.1
    have lt2 : ∀ x ∈ R2.map (·.1), x < s.next := fun x hx => by
      obtain ⟨p, hp, rfl⟩ := List.mem_map.1 hx
      exact (htk p (by simp [hp])).2.1
    refine ⟨nd1, ⟨fun h => by have := lt2 _ h; omega, nd3⟩, fun x hx y hy => ?_⟩
    rcases List.mem_cons.1 hy with rfl | hy
    · have := lt1 x hx; simp only; omega
    · exact nd4 x hx y (List.mem_cons_of_mem _ hy)
  · intro p hp
    have old : ∀ p, p ∈ R1 ∨ p ∈ R2 → ¬ p.1 = t0 → st.next ≤ p.1 ∧ p.1 < s.next ∧ s.H p.1 = .own 41 1 p.2.length ∧ ¬ p.1 = t0 ∧ ¬ p.1 = q := by
      intro p hp hne
      obtain ⟨h1, h2, h3⟩ := htk p (by rcases hp with hp | hp <;> simp [hp])
      exact ⟨h1, h2, h3, hne, box_ne h3 Hq (by simp)⟩
    have hp' : (p ∈ R1 ∨ p ∈ R2) ∧ ¬ p.1 = t0 ∨ p = (s.next + 3, r0 ++ [id]) := by
      rcases List.mem_append.1 hp with hp | hp
      · exact .inl ⟨.inl hp, nd4 _ (List.mem_map.2 ⟨p, hp, rfl⟩) t0 (by simp)⟩
      · rcases List.mem_cons.1 hp with hp | hp
        · exact .inr hp
        · exact .inl ⟨.inr hp, fun h => nd2 (by rw [← h]; exact List.mem_map.2 ⟨p, hp, rfl⟩)⟩
    rcases hp' with ⟨hp, hne⟩ | rfl
    · obtain ⟨h1, h2, h3, t1, t2⟩ := old p hp hne
      refine ⟨h1, by simp only [set_next, new_next]; omega, ?_⟩
      (repeat (first | rw [new_H, if_neg (α := LObj) (by (try simp only [set_next, new_next]); omega)] | rw [set_H, if_neg (α := LObj) (by omega)] | rw [new_H, if_pos (α := LObj) (by (try simp only [set_next, new_next]))] | rw [set_H, if_pos (α := LObj) (by omega)])); exact h3
    · refine ⟨by simp only; omega, by simp, ?_⟩
      simp only
      (repeat (first | rw [new_H, if_neg (α := LObj) (by (try simp only [set_next, new_next]); omega)] | rw [set_H, if_neg (α := LObj) (by omega)] | rw [new_H, if_pos (α := LObj) (by (try simp only [set_next, new_next]))] | rw [set_H, if_pos (α := LObj) (by omega)])); simp
  · simp only [set_next, new_next]; omega
  · refine ⟨by have := hkps.next; simp only [set_next, new_next]; omega, fun l hl => ?_⟩
    (repeat (first | rw [new_H, if_neg (α := LObj) (by (try simp only [set_next, new_next]); omega)] | rw [set_H, if_neg (α := LObj) (by omega)] | rw [new_H, if_pos (α := LObj) (by (try simp only [set_next, new_next]))] | rw [set_H, if_pos (α := LObj) (by omega)])); exact hkps.H l hl

end Go.Proofs.YtomfeddgeihipaaGreat.Aw
