/- Graphs: Check, by the program and by the document; the law GraphChecks. Graphs and maps, made: Clone of edges, copied, Of; Same. Maps, made of turns: Of; the law RotMakes. The law RotMakes. Graphs: Ends. Graphs: near, Alone. What hangs together in a graph. No program. Graphs: Parts. Graphs: the document's parts. Graphs: the document's Parts; places of edges. Graphs: Keep. color.free: the least color that none of some vertices has. What three graphs come to. No program. Plain: edges beside each other, of each bundle one, rows of near vertices. No program. Plain: bundles. No program. -/
import Derived.Test.YtomfeddgeihipaaGreatJc
import Derived.Test.YtomfeddgeihipaaGreatAwGo
import Derived.Test.YtomfeddgeihipaaGreatAwRg
import Derived.Test.YtomfeddgeihipaaGreatAwShp
namespace Go.Proofs.YtomfeddgeihipaaGreat.Aw
open Go Go.RowKit Go.Proofs.YtomfeddgeihipaaGreat.Pl
set_option linter.unusedSimpArgs false
set_option linter.unusedVariables false

theorem ref_Check (g : Gr) (st : St) (hv : g.vs.length ≤ 1000) (he : g.es.length ≤ 1000) :
    ACalls Tryz.prog 24 [.ag (grL g)] st fun r st' => r = i (chk g) ∧ Keeps st st' := by
  have hsm : small g.vs := by unfold small; omega
  refine acalls_of_body tabOk Tryz.func24 rfl rfl Tryz.ntmps24 (rs := [.tmp 2]) rfl (by simp) ?_
  by_cases h1 : (64 : Int) < (g.vs.length : Int)
  · have : chk g = 6 := by unfold chk; rw [if_pos (by omega)]
    (repeat' (first | refine awp_seq ?_ | refine awp_block ?_ | ((first | refine awp_skip ?_ | refine awp_exit ?_); simp only [ak, reduceIte]) | (refine awp_ret ?_; simp only [ak, reduceIte]; simp [h1, this]) | (refine awp_cond ?_; simp [h1, this]; (try with_reducible refine ⟨?_, ?_⟩) <;> (try with_reducible intro hc) <;> try (exfalso; omega)) | ((first | (refine w_e [] ?_; intro J hJ; simp only []) | (refine w_q ?_; intro J hJ) | refine e_go ?_); simp [h1, this]; (repeat refine ca ?_); (try ((try with_reducible refine ⟨?_, ?_⟩) <;> (try with_reducible intro hnil) <;> refine hJ _ _ ?_ <;> clear hJ J <;> simp only [ak, reduceIte] <;> try subst hnil)))))
    exact Keeps.new _ _
  by_cases h2 : (160 : Int) < (g.es.length : Int)
  · have : chk g = 6 := by unfold chk; rw [if_pos (by omega)]
    (repeat' (first | refine awp_seq ?_ | refine awp_block ?_ | ((first | refine awp_skip ?_ | refine awp_exit ?_); simp only [ak, reduceIte]) | (refine awp_ret ?_; simp only [ak, reduceIte]; simp [h1, h2, this]) | (refine awp_cond ?_; simp [h1, h2, this]; (try with_reducible refine ⟨?_, ?_⟩) <;> (try with_reducible intro hc) <;> try (exfalso; omega)) | ((first | (refine w_e [] ?_; intro J hJ; simp only []) | (refine w_q ?_; intro J hJ) | refine e_go ?_); simp [h1, h2, this]; (repeat refine ca ?_); (try ((try with_reducible refine ⟨?_, ?_⟩) <;> (try with_reducible intro hnil) <;> refine hJ _ _ ?_ <;> clear hJ J <;> simp only [ak, reduceIte] <;> try subst hnil)))))
    exact Keeps.new _ _
  have hch : chk g = if firstNZ (badV g) g.vs.length ≠ 0 then firstNZ (badV g) g.vs.length else firstNZ (badE g) g.es.length := by unfold chk; rw [if_neg (by omega)]
  (repeat' (first | refine awp_seq ?_ | refine awp_block ?_ | ((first | refine awp_skip ?_ | refine awp_exit ?_); simp only [ak, reduceIte]) | (refine awp_ret ?_; simp only [ak, reduceIte]; simp [h1, h2]) | (refine awp_cond ?_; simp [h1, h2]; (try with_reducible refine ⟨?_, ?_⟩) <;> (try with_reducible intro hc) <;> try (exfalso; omega)) | ((first | (refine w_e [] ?_; intro J hJ; simp only []) | (refine w_q ?_; intro J hJ) | refine e_go ?_); simp [h1, h2]; (repeat refine ca ?_); (try ((try with_reducible refine ⟨?_, ?_⟩) <;> (try with_reducible intro hnil) <;> refine hJ _ _ ?_ <;> clear hJ J <;> simp only [ak, reduceIte] <;> try subst hnil)))))
  refine awp_loop (fun n fr st' => ∃ k : Nat, k ≤ g.vs.length ∧ n = g.vs.length - k ∧ fr 1 = .pt st.next 0 ∧ fr 18 = .sl 0 g.vs.length (us g.vs) ∧ fr 19 = i g.vs.length ∧ fr 20 = i k ∧ st' = st.new (.box 38 2 (grL g)) ∧ ∀ j, j < k → badV g j = 0) g.vs.length ?_ ?_
  · exact ⟨0, by omega, by omega, by simp, by simp, by simp, by simp, rfl, fun j h => by omega⟩
  rintro n fr st' ⟨k, hk, rfl, f1, f18, f19, f20, rfl, hno⟩ JJ hJJ
  by_cases hlt : k < g.vs.length
  · have hd := us_drop_getD g.vs k hlt
    have hw := nat_add_one k (by omega)
    have hbad : badV g k = numb (g.vs.getD k 0) (g.vs.getD (k - 1) 0) (decide (k = 0)) := rfl
    have hnext : badV g k = 0 → ∀ j, j < k + 1 → badV g j = 0 := fun hb j hj => by
      rcases Nat.lt_or_ge j k with h | h
      · exact hno j h
      · obtain rfl : j = k := by omega
        exact hb
    have hret : ∀ v, badV g k = v → v ≠ 0 → chk g = v := fun v h0 h1 => by
      have hf := firstNZ_eq hlt hno h0 h1
      rw [hch, hf, if_pos h1]
    generalize hx : g.vs.getD k 0 = x at *
    by_cases hx1 : x < 1
    · have hr := hret 2 (by rw [hbad]; unfold numb; rw [if_pos (.inl hx1)]) (by decide)
      (repeat' (first | refine awp_seq ?_ | refine awp_block ?_ | ((first | refine awp_skip ?_ | refine awp_exit ?_); simp only [ak, reduceIte]) | (refine awp_ret ?_; simp only [ak, reduceIte]; simp [f1, f18, f19, f20, hlt, hd, hw, hx1, hr]) | (refine awp_cond ?_; simp [f1, f18, f19, f20, hlt, hd, hw, hx1, hr]; (try with_reducible refine ⟨?_, ?_⟩) <;> (try with_reducible intro hc) <;> try (exfalso; omega)) | ((first | (refine w_e [] ?_; intro J hJ; simp only []) | (refine w_q ?_; intro J hJ) | refine e_go ?_); simp [f1, f18, f19, f20, hlt, hd, hw, hx1, hr]; (repeat refine ca ?_); (try ((try with_reducible refine ⟨?_, ?_⟩) <;> (try with_reducible intro hnil) <;> refine hJ _ _ ?_ <;> clear hJ J <;> simp only [ak, reduceIte] <;> try subst hnil)))))
      exact Keeps.new _ _
    by_cases hx2 : 1048576 < x
    · have hr := hret 2 (by rw [hbad]; unfold numb; rw [if_pos (.inr hx2)]) (by decide)
      (repeat' (first | refine awp_seq ?_ | refine awp_block ?_ | ((first | refine awp_skip ?_ | refine awp_exit ?_); simp only [ak, reduceIte]) | (refine awp_ret ?_; simp only [ak, reduceIte]; simp [f1, f18, f19, f20, hlt, hd, hw, hx1, hx2, hr]) | (refine awp_cond ?_; simp [f1, f18, f19, f20, hlt, hd, hw, hx1, hx2, hr]; (try with_reducible refine ⟨?_, ?_⟩) <;> (try with_reducible intro hc) <;> try (exfalso; omega)) | ((first | (refine w_e [] ?_; intro J hJ; simp only []) | (refine w_q ?_; intro J hJ) | refine e_go ?_); simp [f1, f18, f19, f20, hlt, hd, hw, hx1, hx2, hr]; (repeat refine ca ?_); (try ((try with_reducible refine ⟨?_, ?_⟩) <;> (try with_reducible intro hnil) <;> refine hJ _ _ ?_ <;> clear hJ J <;> simp only [ak, reduceIte] <;> try subst hnil)))))
      exact Keeps.new _ _
    by_cases h0 : k = 0
    · have hb : badV g k = 0 := by rw [hbad]; unfold numb; rw [if_neg (by simp [hx1, hx2])]; simp [h0]
      have hk0 : ¬ 0 < k := by omega
      (repeat' (first | refine awp_seq ?_ | refine awp_block ?_ | ((first | refine awp_skip ?_ | refine awp_exit ?_); simp only [ak, reduceIte]) | (refine awp_ret ?_; simp only [ak, reduceIte]; simp [f1, f18, f19, f20, hlt, hd, hw, hx1, hx2, hk0]) | (refine awp_cond ?_; simp [f1, f18, f19, f20, hlt, hd, hw, hx1, hx2, hk0]; (try with_reducible refine ⟨?_, ?_⟩) <;> (try with_reducible intro hc) <;> try (exfalso; omega)) | ((first | (refine w_e [] ?_; intro J hJ; simp only []) | (refine w_q ?_; intro J hJ) | refine e_go ?_); simp [f1, f18, f19, f20, hlt, hd, hw, hx1, hx2, hk0]; (repeat refine ca ?_); (try ((try with_reducible refine ⟨?_, ?_⟩) <;> (try with_reducible intro hnil) <;> refine hJ _ _ ?_ <;> clear hJ J <;> simp only [ak, reduceIte] <;> try subst hnil)))))
      refine hJJ _ _ _ ?_ ⟨k + 1, by omega, rfl, by simp [f1], by simp [f18], by simp [f19], by simp, rfl, hnext hb⟩
      omega
    · have hk0 : 0 < k := by omega
      have hw1 : IntKind.i64.wrap ((k : Int) - 1) = ((k - 1 : Nat) : Int) := by rw [wrap_i64 _ (by omega) (by omega)]; omega
      have hd1 := us_drop_getD g.vs (k - 1) (by omega)
      have hlt1 : k - 1 < g.vs.length := by omega
      generalize hy : g.vs.getD (k - 1) 0 = y at *
      by_cases hle : x ≤ y
      · have hr := hret 19 (by rw [hbad]; unfold numb; rw [if_neg (by simp [hx1, hx2]), if_pos ⟨by simp [h0], hle⟩]) (by decide)
        (repeat' (first | refine awp_seq ?_ | refine awp_block ?_ | ((first | refine awp_skip ?_ | refine awp_exit ?_); simp only [ak, reduceIte]) | (refine awp_ret ?_; simp only [ak, reduceIte]; simp [f1, f18, f19, f20, hlt, hd, hw, hx1, hx2, hk0, hw1, hd1, hlt1, hle, hr]) | (refine awp_cond ?_; simp [f1, f18, f19, f20, hlt, hd, hw, hx1, hx2, hk0, hw1, hd1, hlt1, hle, hr]; (try with_reducible refine ⟨?_, ?_⟩) <;> (try with_reducible intro hc) <;> try (exfalso; omega)) | ((first | (refine w_e [] ?_; intro J hJ; simp only []) | (refine w_q ?_; intro J hJ) | refine e_go ?_); simp [f1, f18, f19, f20, hlt, hd, hw, hx1, hx2, hk0, hw1, hd1, hlt1, hle, hr]; (repeat refine ca ?_); (try ((try with_reducible refine ⟨?_, ?_⟩) <;> (try with_reducible intro hnil) <;> refine hJ _ _ ?_ <;> clear hJ J <;> simp only [ak, reduceIte] <;> try subst hnil)))))
        exact Keeps.new _ _
      · have hb : badV g k = 0 := by rw [hbad]; unfold numb; rw [if_neg (by simp [hx1, hx2]), if_neg (by simp [hle])]
        (repeat' (first | refine awp_seq ?_ | refine awp_block ?_ | ((first | refine awp_skip ?_ | refine awp_exit ?_); simp only [ak, reduceIte]) | (refine awp_ret ?_; simp only [ak, reduceIte]; simp [f1, f18, f19, f20, hlt, hd, hw, hx1, hx2, hk0, hw1, hd1, hlt1, hle]) | (refine awp_cond ?_; simp [f1, f18, f19, f20, hlt, hd, hw, hx1, hx2, hk0, hw1, hd1, hlt1, hle]; (try with_reducible refine ⟨?_, ?_⟩) <;> (try with_reducible intro hc) <;> try (exfalso; omega)) | ((first | (refine w_e [] ?_; intro J hJ; simp only []) | (refine w_q ?_; intro J hJ) | refine e_go ?_); simp [f1, f18, f19, f20, hlt, hd, hw, hx1, hx2, hk0, hw1, hd1, hlt1, hle]; (repeat refine ca ?_); (try ((try with_reducible refine ⟨?_, ?_⟩) <;> (try with_reducible intro hnil) <;> refine hJ _ _ ?_ <;> clear hJ J <;> simp only [ak, reduceIte] <;> try subst hnil)))))
        refine hJJ _ _ _ ?_ ⟨k + 1, by omega, rfl, by simp [f1], by simp [f18], by simp [f19], by simp, rfl, hnext hb⟩
        omega
  have hk' : k = g.vs.length := by omega
  have hz : firstNZ (badV g) g.vs.length = 0 := firstNZ_zero (fun j hj => hno j (by omega))
  rw [hz] at hch
  simp only [ne_eq, not_true_eq_false, if_false] at hch
  clear hJJ hno hz
  have hel := eds_length g.es
  (repeat' (first | refine awp_seq ?_ | refine awp_block ?_ | ((first | refine awp_skip ?_ | refine awp_exit ?_); simp only [ak, reduceIte]) | (refine awp_ret ?_; simp only [ak, reduceIte]; simp [f1, f18, f19, f20, hlt]) | (refine awp_cond ?_; simp [f1, f18, f19, f20, hlt]; (try with_reducible refine ⟨?_, ?_⟩) <;> (try with_reducible intro hc) <;> try (exfalso; omega)) | ((first | (refine w_e [] ?_; intro J hJ; simp only []) | (refine w_q ?_; intro J hJ) | refine e_go ?_); simp [f1, f18, f19, f20, hlt]; (repeat refine ca ?_); (try ((try with_reducible refine ⟨?_, ?_⟩) <;> (try with_reducible intro hnil) <;> refine hJ _ _ ?_ <;> clear hJ J <;> simp only [ak, reduceIte] <;> try subst hnil)))))
  refine awp_loop (fun n fr st' => ∃ k : Nat, k ≤ g.es.length ∧ n = g.es.length - k ∧ fr 1 = .pt st.next 0 ∧ fr 45 = .sl 0 g.es.length (eds g.es) ∧ fr 46 = i g.es.length ∧ fr 47 = i k ∧ Keeps (st.new (.box 38 2 (grL g))) st' ∧ ∀ j, j < k → badE g j = 0) g.es.length ?_ ?_
  · exact ⟨0, by omega, by omega, by simp [f1], by simp, by simp, by simp, Keeps.refl _, fun j h => by omega⟩
  clear f1 f18 f19 f20 hlt hk' hk fr k
  rintro n fr st1 ⟨k, hk, rfl, f1, f45, f46, f47, hkp, hno⟩ JJ hJJ
  have hgH : st1.H st.next = .box 38 2 (grL g) := by rw [hkp.H _ (by simp)]; simp
  have hnx : ¬ st.next = st1.next := by have := hkp.next; simp only [new_next] at this; omega
  have hkp0 := (Keeps.new st (.box 38 2 (grL g))).trans hkp
  by_cases hlt : k < g.es.length
  · have hd := eds_drop g.es k hlt
    have hw := nat_add_one k (by omega)
    have hk3 : k * 3 < g.es.length * 3 := by omega
    have hbad : badE g k = (let x := g.es.getD k ed0; let n := numb x.id (g.es.getD (k - 1) ed0).id (decide (k = 0)); if n ≠ 0 then n else if x.a = x.b then 20 else if x.a ∉ g.vs ∨ x.b ∉ g.vs then 21 else 0) := rfl
    have hnext : badE g k = 0 → ∀ j, j < k + 1 → badE g j = 0 := fun hb j hj => by
      rcases Nat.lt_or_ge j k with h | h
      · exact hno j h
      · obtain rfl : j = k := by omega
        exact hb
    have hret : ∀ v, badE g k = v → v ≠ 0 → chk g = v := fun v h0 h1 => by
      rw [hch]; exact firstNZ_eq hlt hno h0 h1
    generalize hx : g.es.getD k ed0 = x at *
    obtain ⟨xi, xa, xb⟩ := x
    simp only at hd hbad
    have hkn := hkp0.trans (Keeps.new _ (.box 43 3 [u xi, u xa, u xb]))
    by_cases hx1 : xi < 1
    · have hn : numb xi (g.es.getD (k - 1) ed0).id (decide (k = 0)) = 2 := by unfold numb; rw [if_pos (.inl hx1)]
      have hr := hret 2 (by rw [hbad, hn]; rfl) (by decide)
      (repeat' (first | refine awp_seq ?_ | refine awp_block ?_ | ((first | refine awp_skip ?_ | refine awp_exit ?_); simp only [ak, reduceIte]) | (refine awp_ret ?_; simp only [ak, reduceIte]; simp [f1, f45, f46, f47, hlt, hd, hw, hel, hk3, hgH, hnx, hx1, hr]) | (refine awp_cond ?_; simp [f1, f45, f46, f47, hlt, hd, hw, hel, hk3, hgH, hnx, hx1, hr]; (try with_reducible refine ⟨?_, ?_⟩) <;> (try with_reducible intro hc) <;> try (exfalso; omega)) | ((first | (refine w_e [] ?_; intro J hJ; simp only []) | (refine w_q ?_; intro J hJ) | refine e_go ?_); simp [f1, f45, f46, f47, hlt, hd, hw, hel, hk3, hgH, hnx, hx1, hr]; (repeat refine ca ?_); (try ((try with_reducible refine ⟨?_, ?_⟩) <;> (try with_reducible intro hnil) <;> refine hJ _ _ ?_ <;> clear hJ J <;> simp only [ak, reduceIte] <;> try subst hnil)))))
      exact hkn
    by_cases hx2 : 1048576 < xi
    · have hn : numb xi (g.es.getD (k - 1) ed0).id (decide (k = 0)) = 2 := by unfold numb; rw [if_pos (.inr hx2)]
      have hr := hret 2 (by rw [hbad, hn]; rfl) (by decide)
      (repeat' (first | refine awp_seq ?_ | refine awp_block ?_ | ((first | refine awp_skip ?_ | refine awp_exit ?_); simp only [ak, reduceIte]) | (refine awp_ret ?_; simp only [ak, reduceIte]; simp [f1, f45, f46, f47, hlt, hd, hw, hel, hk3, hgH, hnx, hx1, hx2, hr]) | (refine awp_cond ?_; simp [f1, f45, f46, f47, hlt, hd, hw, hel, hk3, hgH, hnx, hx1, hx2, hr]; (try with_reducible refine ⟨?_, ?_⟩) <;> (try with_reducible intro hc) <;> try (exfalso; omega)) | ((first | (refine w_e [] ?_; intro J hJ; simp only []) | (refine w_q ?_; intro J hJ) | refine e_go ?_); simp [f1, f45, f46, f47, hlt, hd, hw, hel, hk3, hgH, hnx, hx1, hx2, hr]; (repeat refine ca ?_); (try ((try with_reducible refine ⟨?_, ?_⟩) <;> (try with_reducible intro hnil) <;> refine hJ _ _ ?_ <;> clear hJ J <;> simp only [ak, reduceIte] <;> try subst hnil)))))
      exact hkn
    by_cases hnb : numb xi (g.es.getD (k - 1) ed0).id (decide (k = 0)) = 0
    rotate_left
    · -- the number doesn't rise
      have h0 : k ≠ 0 := by rintro rfl; apply hnb; unfold numb; rw [if_neg (by simp [hx1, hx2])]; simp
      have hle : xi ≤ (g.es.getD (k - 1) ed0).id := by
        unfold numb at hnb
        rw [if_neg (by simp [hx1, hx2])] at hnb
        by_cases h : decide (k = 0) = false ∧ xi ≤ (g.es.getD (k - 1) ed0).id
        · exact h.2
        · rw [if_neg h] at hnb; exact absurd rfl hnb
      have hn : numb xi (g.es.getD (k - 1) ed0).id (decide (k = 0)) = 19 := by unfold numb; rw [if_neg (by simp [hx1, hx2]), if_pos ⟨by simp [h0], hle⟩]
      have hr := hret 19 (by rw [hbad, hn]; rfl) (by decide)
      have hk0 : 0 < k := by omega
      have hw1 : IntKind.i64.wrap ((k : Int) - 1) = ((k - 1 : Nat) : Int) := by rw [wrap_i64 _ (by omega) (by omega)]; omega
      have hd1 := eds_drop g.es (k - 1) (by omega)
      have hlt1 : k - 1 < g.es.length := by omega
      have hlt3 : (k - 1) * 3 < g.es.length * 3 := by omega
      generalize hy : g.es.getD (k - 1) ed0 = y at *
      obtain ⟨yi, ya, yb⟩ := y
      simp only at hd1 hle
      (repeat' (first | refine awp_seq ?_ | refine awp_block ?_ | ((first | refine awp_skip ?_ | refine awp_exit ?_); simp only [ak, reduceIte]) | (refine awp_ret ?_; simp only [ak, reduceIte]; simp [f1, f45, f46, f47, hlt, hd, hw, hel, hk3, hgH, hnx, hx1, hx2, hk0, hw1, hd1, hlt1, hlt3, hle, hr]) | (refine awp_cond ?_; simp [f1, f45, f46, f47, hlt, hd, hw, hel, hk3, hgH, hnx, hx1, hx2, hk0, hw1, hd1, hlt1, hlt3, hle, hr]; (try with_reducible refine ⟨?_, ?_⟩) <;> (try with_reducible intro hc) <;> try (exfalso; omega)) | ((first | (refine w_e [] ?_; intro J hJ; simp only []) | (refine w_q ?_; intro J hJ) | refine e_go ?_); simp [f1, f45, f46, f47, hlt, hd, hw, hel, hk3, hgH, hnx, hx1, hx2, hk0, hw1, hd1, hlt1, hlt3, hle, hr]; (repeat refine ca ?_); (try ((try with_reducible refine ⟨?_, ?_⟩) <;> (try with_reducible intro hnil) <;> refine hJ _ _ ?_ <;> clear hJ J <;> simp only [ak, reduceIte] <;> try subst hnil)))))
      exact hkn
    rw [if_neg (fun h => h hnb)] at hbad
    by_cases hab : xa = xb
    · have hr := hret 20 (by rw [hbad, if_pos hab]) (by decide)
      by_cases h0 : k = 0
      · have hk0 : ¬ 0 < k := by omega
        (repeat' (first | refine awp_seq ?_ | refine awp_block ?_ | ((first | refine awp_skip ?_ | refine awp_exit ?_); simp only [ak, reduceIte]) | (refine awp_ret ?_; simp only [ak, reduceIte]; simp [f1, f45, f46, f47, hlt, hd, hw, hel, hk3, hgH, hnx, hx1, hx2, hk0, hab, hr]) | (refine awp_cond ?_; simp [f1, f45, f46, f47, hlt, hd, hw, hel, hk3, hgH, hnx, hx1, hx2, hk0, hab, hr]; (try with_reducible refine ⟨?_, ?_⟩) <;> (try with_reducible intro hc) <;> try (exfalso; omega)) | ((first | (refine w_e [] ?_; intro J hJ; simp only []) | (refine w_q ?_; intro J hJ) | refine e_go ?_); simp [f1, f45, f46, f47, hlt, hd, hw, hel, hk3, hgH, hnx, hx1, hx2, hk0, hab, hr]; (repeat refine ca ?_); (try ((try with_reducible refine ⟨?_, ?_⟩) <;> (try with_reducible intro hnil) <;> refine hJ _ _ ?_ <;> clear hJ J <;> simp only [ak, reduceIte] <;> try subst hnil)))))
        exact hkp0.trans (Keeps.new _ _)
      · have hk0 : 0 < k := by omega
        have hw1 : IntKind.i64.wrap ((k : Int) - 1) = ((k - 1 : Nat) : Int) := by rw [wrap_i64 _ (by omega) (by omega)]; omega
        have hd1 := eds_drop g.es (k - 1) (by omega)
        have hlt1 : k - 1 < g.es.length := by omega
        have hlt3 : (k - 1) * 3 < g.es.length * 3 := by omega
        have hle : ¬ xi ≤ (g.es.getD (k - 1) ed0).id := by
          intro h
          unfold numb at hnb
          rw [if_neg (by simp [hx1, hx2]), if_pos ⟨by simp [h0], h⟩] at hnb
          cases hnb
        generalize hy : g.es.getD (k - 1) ed0 = y at *
        obtain ⟨yi, ya, yb⟩ := y
        simp only at hd1 hle
        (repeat' (first | refine awp_seq ?_ | refine awp_block ?_ | ((first | refine awp_skip ?_ | refine awp_exit ?_); simp only [ak, reduceIte]) | (refine awp_ret ?_; simp only [ak, reduceIte]; simp [f1, f45, f46, f47, hlt, hd, hw, hel, hk3, hgH, hnx, hx1, hx2, hk0, hw1, hd1, hlt1, hlt3, hle, hab, hr]) | (refine awp_cond ?_; simp [f1, f45, f46, f47, hlt, hd, hw, hel, hk3, hgH, hnx, hx1, hx2, hk0, hw1, hd1, hlt1, hlt3, hle, hab, hr]; (try with_reducible refine ⟨?_, ?_⟩) <;> (try with_reducible intro hc) <;> try (exfalso; omega)) | ((first | (refine w_e [] ?_; intro J hJ; simp only []) | (refine w_q ?_; intro J hJ) | refine e_go ?_); simp [f1, f45, f46, f47, hlt, hd, hw, hel, hk3, hgH, hnx, hx1, hx2, hk0, hw1, hd1, hlt1, hlt3, hle, hab, hr]; (repeat refine ca ?_); (try ((try with_reducible refine ⟨?_, ?_⟩) <;> (try with_reducible intro hnil) <;> refine hJ _ _ ?_ <;> clear hJ J <;> simp only [ak, reduceIte] <;> try subst hnil)))))
        exact hkp0.trans (Keeps.new _ _)
    rw [if_neg hab] at hbad
    by_cases h0 : k = 0
    · have hk0 : ¬ 0 < k := by omega
      (repeat' (first | refine awp_seq ?_ | refine awp_block ?_ | ((first | refine awp_skip ?_ | refine awp_exit ?_); simp only [ak, reduceIte]) | (refine awp_ret ?_; simp only [ak, reduceIte]; simp [f1, f45, f46, f47, hlt, hd, hw, hel, hk3, hgH, hnx, hx1, hx2, hk0, hab]) | (refine awp_cond ?_; simp [f1, f45, f46, f47, hlt, hd, hw, hel, hk3, hgH, hnx, hx1, hx2, hk0, hab]; (try with_reducible refine ⟨?_, ?_⟩) <;> (try with_reducible intro hc) <;> try (exfalso; omega)) | ((first | (refine w_e [] ?_; intro J hJ; simp only []) | (refine w_q ?_; intro J hJ) | refine e_go ?_); simp [f1, f45, f46, f47, hlt, hd, hw, hel, hk3, hgH, hnx, hx1, hx2, hk0, hab]; (repeat refine ca ?_); (try ((try with_reducible refine ⟨?_, ?_⟩) <;> (try with_reducible intro hnil) <;> refine hJ _ _ ?_ <;> clear hJ J <;> simp only [ak, reduceIte] <;> try subst hnil)))))
      refine callK_ofE (Has g xa _ hsm) (by simp []) ?_; rintro r st' ⟨rfl, hk1⟩
      have hB1 : st'.H st1.next = .box 43 3 [u xi, u xa, u xb] := by rw [hk1.H _ (by simp)]; simp
      have hgH1 : st'.H st.next = .box 38 2 (grL g) := by
        rw [hk1.H _ (by have := hkp.next; simp only [new_next] at this ⊢; omega), new_H, if_neg hnx]; exact hgH
      have hkp1 := (hkp.trans (Keeps.new _ _)).trans hk1
      have hkp01 := (hkp0.trans (Keeps.new _ _)).trans hk1
      by_cases hma : xa ∈ g.vs
      rotate_left
      · have hr := hret 21 (by rw [hbad, if_pos (.inl hma)]) (by decide)
        (repeat' (first | refine awp_seq ?_ | refine awp_block ?_ | ((first | refine awp_skip ?_ | refine awp_exit ?_); simp only [ak, reduceIte]) | (refine awp_ret ?_; simp only [ak, reduceIte]; simp [f1, hB1, hgH1, hr, hma]) | (refine awp_cond ?_; simp [f1, hB1, hgH1, hr, hma]; (try with_reducible refine ⟨?_, ?_⟩) <;> (try with_reducible intro hc) <;> try (exfalso; omega)) | ((first | (refine w_e [] ?_; intro J hJ; simp only []) | (refine w_q ?_; intro J hJ) | refine e_go ?_); simp [f1, hB1, hgH1, hr, hma]; (repeat refine ca ?_); (try ((try with_reducible refine ⟨?_, ?_⟩) <;> (try with_reducible intro hnil) <;> refine hJ _ _ ?_ <;> clear hJ J <;> simp only [ak, reduceIte] <;> try subst hnil)))))
        exact hkp01
      (refine e_go ?_; simp [f1, hB1, hgH1, hma]; (repeat refine ca ?_); (try ((try with_reducible refine ⟨?_, ?_⟩) <;> (try with_reducible intro hnil) <;> refine hJ _ _ ?_ <;> clear hJ J <;> simp only [ak, reduceIte] <;> try subst hnil)))
      refine callK_ofE (Has g xb _ hsm) (by simp []) ?_; rintro r st' ⟨rfl, hk2⟩
      by_cases hmb : xb ∈ g.vs
      rotate_left
      · have hr := hret 21 (by rw [hbad, if_pos (.inr hmb)]) (by decide)
        (repeat' (first | refine awp_seq ?_ | refine awp_block ?_ | ((first | refine awp_skip ?_ | refine awp_exit ?_); simp only [ak, reduceIte]) | (refine awp_ret ?_; simp only [ak, reduceIte]; simp [hr, hmb]) | (refine awp_cond ?_; simp [hr, hmb]; (try with_reducible refine ⟨?_, ?_⟩) <;> (try with_reducible intro hc) <;> try (exfalso; omega)) | ((first | (refine w_e [] ?_; intro J hJ; simp only []) | (refine w_q ?_; intro J hJ) | refine e_go ?_); simp [hr, hmb]; (repeat refine ca ?_); (try ((try with_reducible refine ⟨?_, ?_⟩) <;> (try with_reducible intro hnil) <;> refine hJ _ _ ?_ <;> clear hJ J <;> simp only [ak, reduceIte] <;> try subst hnil)))))
        exact hkp01.trans hk2
      have hb' : badE g k = 0 := by rw [hbad, if_neg (by simp [hma, hmb])]
      (repeat' (first | refine awp_seq ?_ | refine awp_block ?_ | ((first | refine awp_skip ?_ | refine awp_exit ?_); simp only [ak, reduceIte]) | (refine awp_ret ?_; simp only [ak, reduceIte]; simp [f47, hw, hmb]) | (refine awp_cond ?_; simp [f47, hw, hmb]; (try with_reducible refine ⟨?_, ?_⟩) <;> (try with_reducible intro hc) <;> try (exfalso; omega)) | ((first | (refine w_e [] ?_; intro J hJ; simp only []) | (refine w_q ?_; intro J hJ) | refine e_go ?_); simp [f47, hw, hmb]; (repeat refine ca ?_); (try ((try with_reducible refine ⟨?_, ?_⟩) <;> (try with_reducible intro hnil) <;> refine hJ _ _ ?_ <;> clear hJ J <;> simp only [ak, reduceIte] <;> try subst hnil)))))
      refine hJJ _ _ _ ?_ ⟨k + 1, by omega, rfl, by simp [f1], by simp [f45], by simp [f46], by simp, hkp1.trans hk2, hnext hb'⟩
      omega
    · have hk0 : 0 < k := by omega
      have hw1 : IntKind.i64.wrap ((k : Int) - 1) = ((k - 1 : Nat) : Int) := by rw [wrap_i64 _ (by omega) (by omega)]; omega
      have hd1 := eds_drop g.es (k - 1) (by omega)
      have hlt1 : k - 1 < g.es.length := by omega
      have hlt3 : (k - 1) * 3 < g.es.length * 3 := by omega
      have hle : ¬ xi ≤ (g.es.getD (k - 1) ed0).id := by
        intro h
        unfold numb at hnb
        rw [if_neg (by simp [hx1, hx2]), if_pos ⟨by simp [h0], h⟩] at hnb
        cases hnb
      generalize hy : g.es.getD (k - 1) ed0 = y at *
      obtain ⟨yi, ya, yb⟩ := y
      simp only at hd1 hle
      (repeat' (first | refine awp_seq ?_ | refine awp_block ?_ | ((first | refine awp_skip ?_ | refine awp_exit ?_); simp only [ak, reduceIte]) | (refine awp_ret ?_; simp only [ak, reduceIte]; simp [f1, f45, f46, f47, hlt, hd, hw, hel, hk3, hgH, hnx, hx1, hx2, hk0, hw1, hd1, hlt1, hlt3, hle, hab]) | (refine awp_cond ?_; simp [f1, f45, f46, f47, hlt, hd, hw, hel, hk3, hgH, hnx, hx1, hx2, hk0, hw1, hd1, hlt1, hlt3, hle, hab]; (try with_reducible refine ⟨?_, ?_⟩) <;> (try with_reducible intro hc) <;> try (exfalso; omega)) | ((first | (refine w_e [] ?_; intro J hJ; simp only []) | (refine w_q ?_; intro J hJ) | refine e_go ?_); simp [f1, f45, f46, f47, hlt, hd, hw, hel, hk3, hgH, hnx, hx1, hx2, hk0, hw1, hd1, hlt1, hlt3, hle, hab]; (repeat refine ca ?_); (try ((try with_reducible refine ⟨?_, ?_⟩) <;> (try with_reducible intro hnil) <;> refine hJ _ _ ?_ <;> clear hJ J <;> simp only [ak, reduceIte] <;> try subst hnil)))))
      refine callK_ofE (Has g xa _ hsm) (by simp []) ?_; rintro r st' ⟨rfl, hk1⟩
      have hB1 : st'.H st1.next = .box 43 3 [u xi, u xa, u xb] := by rw [hk1.H _ (by simp)]; simp
      have hgH1 : st'.H st.next = .box 38 2 (grL g) := by
        rw [hk1.H _ (by have := hkp.next; simp only [new_next] at this ⊢; omega), new_H, if_neg hnx]; exact hgH
      have hkp1 := (hkp.trans (Keeps.new _ _)).trans hk1
      have hkp01 := (hkp0.trans (Keeps.new _ _)).trans hk1
      by_cases hma : xa ∈ g.vs
      rotate_left
      · have hr := hret 21 (by rw [hbad, if_pos (.inl hma)]) (by decide)
        (repeat' (first | refine awp_seq ?_ | refine awp_block ?_ | ((first | refine awp_skip ?_ | refine awp_exit ?_); simp only [ak, reduceIte]) | (refine awp_ret ?_; simp only [ak, reduceIte]; simp [f1, hB1, hgH1, hr, hma]) | (refine awp_cond ?_; simp [f1, hB1, hgH1, hr, hma]; (try with_reducible refine ⟨?_, ?_⟩) <;> (try with_reducible intro hc) <;> try (exfalso; omega)) | ((first | (refine w_e [] ?_; intro J hJ; simp only []) | (refine w_q ?_; intro J hJ) | refine e_go ?_); simp [f1, hB1, hgH1, hr, hma]; (repeat refine ca ?_); (try ((try with_reducible refine ⟨?_, ?_⟩) <;> (try with_reducible intro hnil) <;> refine hJ _ _ ?_ <;> clear hJ J <;> simp only [ak, reduceIte] <;> try subst hnil)))))
        exact hkp01
      (refine e_go ?_; simp [f1, hB1, hgH1, hma]; (repeat refine ca ?_); (try ((try with_reducible refine ⟨?_, ?_⟩) <;> (try with_reducible intro hnil) <;> refine hJ _ _ ?_ <;> clear hJ J <;> simp only [ak, reduceIte] <;> try subst hnil)))
      refine callK_ofE (Has g xb _ hsm) (by simp []) ?_; rintro r st' ⟨rfl, hk2⟩
      by_cases hmb : xb ∈ g.vs
      rotate_left
      · have hr := hret 21 (by rw [hbad, if_pos (.inr hmb)]) (by decide)
        (repeat' (first | refine awp_seq ?_ | refine awp_block ?_ | ((first | refine awp_skip ?_ | refine awp_exit ?_); simp only [ak, reduceIte]) | (refine awp_ret ?_; simp only [ak, reduceIte]; simp [hr, hmb]) | (refine awp_cond ?_; simp [hr, hmb]; (try with_reducible refine ⟨?_, ?_⟩) <;> (try with_reducible intro hc) <;> try (exfalso; omega)) | ((first | (refine w_e [] ?_; intro J hJ; simp only []) | (refine w_q ?_; intro J hJ) | refine e_go ?_); simp [hr, hmb]; (repeat refine ca ?_); (try ((try with_reducible refine ⟨?_, ?_⟩) <;> (try with_reducible intro hnil) <;> refine hJ _ _ ?_ <;> clear hJ J <;> simp only [ak, reduceIte] <;> try subst hnil)))))
        exact hkp01.trans hk2
      have hb' : badE g k = 0 := by rw [hbad, if_neg (by simp [hma, hmb])]
      (repeat' (first | refine awp_seq ?_ | refine awp_block ?_ | ((first | refine awp_skip ?_ | refine awp_exit ?_); simp only [ak, reduceIte]) | (refine awp_ret ?_; simp only [ak, reduceIte]; simp [f47, hw, hmb]) | (refine awp_cond ?_; simp [f47, hw, hmb]; (try with_reducible refine ⟨?_, ?_⟩) <;> (try with_reducible intro hc) <;> try (exfalso; omega)) | ((first | (refine w_e [] ?_; intro J hJ; simp only []) | (refine w_q ?_; intro J hJ) | refine e_go ?_); simp [f47, hw, hmb]; (repeat refine ca ?_); (try ((try with_reducible refine ⟨?_, ?_⟩) <;> (try with_reducible intro hnil) <;> refine hJ _ _ ?_ <;> clear hJ J <;> simp only [ak, reduceIte] <;> try subst hnil)))))
      refine hJJ _ _ _ ?_ ⟨k + 1, by omega, rfl, by simp [f1], by simp [f45], by simp [f46], by simp, hkp1.trans hk2, hnext hb'⟩
      omega
  · have hr : chk g = 0 := by rw [hch]; exact firstNZ_zero (fun j hj => hno j (by omega))
    clear hJJ
    (repeat' (first | refine awp_seq ?_ | refine awp_block ?_ | ((first | refine awp_skip ?_ | refine awp_exit ?_); simp only [ak, reduceIte]) | (refine awp_ret ?_; simp only [ak, reduceIte]; simp [f1, f45, f46, f47, hlt, hr]) | (refine awp_cond ?_; simp [f1, f45, f46, f47, hlt, hr]; (try with_reducible refine ⟨?_, ?_⟩) <;> (try with_reducible intro hc) <;> try (exfalso; omega)) | ((first | (refine w_e [] ?_; intro J hJ; simp only []) | (refine w_q ?_; intro J hJ) | refine e_go ?_); simp [f1, f45, f46, f47, hlt, hr]; (repeat refine ca ?_); (try ((try with_reducible refine ⟨?_, ?_⟩) <;> (try with_reducible intro hnil) <;> refine hJ _ _ ?_ <;> clear hJ J <;> simp only [ak, reduceIte] <;> try subst hnil)))))
    exact hkp0

end Go.Proofs.YtomfeddgeihipaaGreat.Aw

namespace Go.Proofs.YtomfeddgeihipaaGreat.Aw
open Go Go.RowKit Go.Proofs.YtomfeddgeihipaaGreat.Pl
set_option linter.unusedSimpArgs false
set_option linter.unusedVariables false

end Go.Proofs.YtomfeddgeihipaaGreat.Aw

namespace Go.Proofs.YtomfeddgeihipaaGreat.Aw
open Go Go.RowKit Go.Proofs.YtomfeddgeihipaaGreat.Pl
set_option linter.unusedSimpArgs false
set_option linter.unusedVariables false

end Go.Proofs.YtomfeddgeihipaaGreat.Aw

namespace Go.Proofs.YtomfeddgeihipaaGreat.Aw
open Go Go.RowKit Go.Proofs.YtomfeddgeihipaaGreat.Pl
set_option linter.unusedSimpArgs false
set_option linter.unusedVariables false

theorem ref_CheckA (g : Gr) (st : St) : ACalls Tryz.prog 24 [.ag (grL g)] st fun r st' => r = i (chk g) ∧ Keeps st st' := by
  by_cases h1 : (64 : Int) < (g.vs.length : Int)
  · have : chk g = 6 := by unfold chk; rw [if_pos (by omega)]
    refine acalls_of_body tabOk Tryz.func24 rfl rfl Tryz.ntmps24 (rs := [.tmp 2]) rfl (by simp) ?_
    (repeat' (first | refine awp_seq ?_ | refine awp_block ?_ | ((first | refine awp_skip ?_ | refine awp_exit ?_); simp only [ak, reduceIte]) | (refine awp_ret ?_; simp only [ak, reduceIte]; simp [h1, this]) | (refine awp_cond ?_; simp [h1, this]; (try with_reducible refine ⟨?_, ?_⟩) <;> (try with_reducible intro hc) <;> try (exfalso; omega)) | ((first | (refine w_e [] ?_; intro J hJ; simp only []) | (refine w_q ?_; intro J hJ) | refine e_go ?_); simp [h1, this]; (repeat refine ca ?_); (try ((try with_reducible refine ⟨?_, ?_⟩) <;> (try with_reducible intro hnil) <;> refine hJ _ _ ?_ <;> clear hJ J <;> simp only [ak, reduceIte] <;> try subst hnil)))))
    exact Keeps.new _ _
  by_cases h2 : (160 : Int) < (g.es.length : Int)
  · have : chk g = 6 := by unfold chk; rw [if_pos (by omega)]
    refine acalls_of_body tabOk Tryz.func24 rfl rfl Tryz.ntmps24 (rs := [.tmp 2]) rfl (by simp) ?_
    (repeat' (first | refine awp_seq ?_ | refine awp_block ?_ | ((first | refine awp_skip ?_ | refine awp_exit ?_); simp only [ak, reduceIte]) | (refine awp_ret ?_; simp only [ak, reduceIte]; simp [h1, h2, this]) | (refine awp_cond ?_; simp [h1, h2, this]; (try with_reducible refine ⟨?_, ?_⟩) <;> (try with_reducible intro hc) <;> try (exfalso; omega)) | ((first | (refine w_e [] ?_; intro J hJ; simp only []) | (refine w_q ?_; intro J hJ) | refine e_go ?_); simp [h1, h2, this]; (repeat refine ca ?_); (try ((try with_reducible refine ⟨?_, ?_⟩) <;> (try with_reducible intro hnil) <;> refine hJ _ _ ?_ <;> clear hJ J <;> simp only [ak, reduceIte] <;> try subst hnil)))))
    exact Keeps.new _ _
  exact ref_Check g st (by omega) (by omega)

/-- Its entries are turns. -/
def Turns (es : List (List Int × LV)) : Prop := ∀ x, mget es x = none ∨ ∃ r : List Int, mget es x = some (.sl 0 r.length (us r)) ∧ r.length ≤ 300

theorem Turns.fn {es : List (List Int × LV)} (h : Turns es) : ∃ tf : Int → List Int, ∀ v, ∃ x t, (mget es [v]).getD .nil = x ∧ norm x = .sl t (tf v).length (us (tf v)) ∧ (tf v).length ≤ 1000 := by
  have : ∀ v : Int, ∃ y : List Int, ∃ x t, (mget es [v]).getD .nil = x ∧ norm x = .sl t y.length (us y) ∧ y.length ≤ 1000 := by
    intro v
    rcases h [v] with h1 | ⟨r, h1, h2⟩
    · exact ⟨[], .nil, 0, by rw [h1]; rfl, rfl, by simp⟩
    · exact ⟨r, .sl 0 r.length (us r), 0, by rw [h1]; rfl, rfl, by omega⟩
  exact ⟨fun v => Classical.choose (this v), fun v => Classical.choose_spec (this v)⟩

end Go.Proofs.YtomfeddgeihipaaGreat.Aw

namespace Go.Proofs.YtomfeddgeihipaaGreat.Aw
open Go Go.RowKit Go.Proofs.YtomfeddgeihipaaGreat.Pl
set_option linter.unusedSimpArgs false
set_option linter.unusedVariables false

theorem awp_posG {P : Program} {N : Nat} {Q : AQ} {c : Code} {fr : Frm} {st : St} (h : 0 < st.next → AWp P N c Q fr st) : AWp P N c Q fr st :=
  fun a w g hi hr hs hd => h hi.pos a w g hi hr hs hd

def end1 (v : Int) (x : Ed) : List Int := (if x.a = v then [2 * x.id] else []) ++ (if x.b = v then [2 * x.id + 1] else [])
/-- The darts at a vertex. -/
def ends (es : List Ed) (v : Int) : List Int := es.flatMap (end1 v)
theorem flat_takeE (f : Ed → List Int) (l : List Ed) (k : Nat) (hk : k < l.length) : (l.take (k + 1)).flatMap f = (l.take k).flatMap f ++ f (l.getD k ed0) := by
  rw [List.take_succ_eq_append_getElem hk, List.flatMap_append, List.getD_eq_getElem?_getD, List.getElem?_eq_getElem hk]; simp
theorem flat_len (f : Ed → List Int) (hf : ∀ x, (f x).length ≤ 2) (l : List Ed) : (l.flatMap f).length ≤ 2 * l.length := by
  induction l with
  | nil => simp
  | cons x l ih => have := hf x; simp only [List.flatMap_cons, List.length_append, List.length_cons]; omega
def idOk (es : List Ed) : Prop := ∀ x ∈ es, 0 ≤ x.id ∧ x.id ≤ 1048576
theorem idOk.at {es : List Ed} (h : idOk es) (k : Nat) (hk : k < es.length) : 0 ≤ (es.getD k ed0).id ∧ (es.getD k ed0).id ≤ 1048576 := by
  rw [List.getD_eq_getElem?_getD, List.getElem?_eq_getElem hk]; exact h _ (List.getElem_mem hk)
def OwnAt (t : Nat) (lo : St) (l : List Int) (st : St) : Prop := t ≠ 0 ∧ lo.next ≤ t ∧ t < st.next ∧ st.H t = .own 41 1 l.length ∧ Keeps lo st

end Go.Proofs.YtomfeddgeihipaaGreat.Aw

namespace Go.Proofs.YtomfeddgeihipaaGreat.Aw
open Go Go.RowKit Go.Proofs.YtomfeddgeihipaaGreat.Pl
set_option linter.unusedSimpArgs false
set_option linter.unusedVariables false

def nbr1 (v : Int) (x : Ed) : List Int := (if x.a = v then [x.b] else []) ++ (if x.b = v then [x.a] else [])
/-- Who is at the other ends of a vertex's edges. -/
def nbr (es : List Ed) (v : Int) : List Int := es.flatMap (nbr1 v)
theorem nbr1_len (v : Int) (x : Ed) : (nbr1 v x).length ≤ 2 := by
  unfold nbr1; split <;> split <;> simp

/-- A map of rows, each with a place of its own. -/
def NearI (lo m : Nat) (es : List (List Int × LV)) (st : St) (f : Int → List Int) (tok : Int → Nat) : Prop :=
  ∀ v, (tok v = 0 → f v = [] ∧ mget es [v] = none) ∧ (tok v ≠ 0 → mget es [v] = some (.sl (tok v) (f v).length (us (f v))) ∧ lo ≤ tok v ∧ tok v < st.next ∧ tok v ≠ m ∧ st.H (tok v) = .own 41 1 (f v).length ∧ ∀ w, tok w = tok v → w = v)

theorem NearI.step {lo m : Nat} {es : List (List Int × LV)} {st st' : St} {f : Int → List Int} {tok : Int → Nat} (h : NearI lo m es st f tok) (a x : Int) (N : Nat) (hN : st.next ≤ N) (hN' : N < st'.next) (hm : m < st.next) (h0 : 0 < st.next) (hlo : lo ≤ st.next)
    (hH : ∀ l, l ≠ tok a → l ≠ m → l < st.next → st'.H l = st.H l) (hO : st'.H N = .own 41 1 ((f a).length + 1)) :
    NearI lo m (mset es [a] (.sl N ((f a).length + 1) (us (f a ++ [x])))) st' (fun v => if v = a then f a ++ [x] else f v) (fun v => if v = a then N else tok v) := by
  intro v
  by_cases hv : v = a
  · subst hv
    simp only [if_true]
    refine ⟨fun h1 => by omega, fun _ => ⟨by rw [mget_mset]; simp, by omega, hN', by omega, by rw [hO]; simp, fun w hw => ?_⟩⟩
    by_cases hwv : w = v
    · exact hwv
    · rw [if_neg hwv] at hw
      by_cases h1 : tok w = 0
      · omega
      · have := ((h w).2 h1).2.2.1; omega
  · simp only [if_neg hv]
    have hne : ¬ ([v] : List Int) = [a] := by simpa using hv
    refine ⟨fun h1 => ⟨((h v).1 h1).1, by rw [mget_mset, if_neg hne]; exact ((h v).1 h1).2⟩, fun h1 => ?_⟩
    obtain ⟨k1, k2, k3, k4, k5, k6⟩ := (h v).2 h1
    refine ⟨by rw [mget_mset, if_neg hne]; exact k1, k2, by omega, k4, ?_, fun w hw => ?_⟩
    · rw [hH (tok v) (fun e => hv (k6 a e.symm).symm) k4 k3]; exact k5
    · by_cases hwa : w = a
      · subst hwa; simp only [if_true] at hw; omega
      · rw [if_neg hwa] at hw; exact k6 w hw

/-- A map whose rows are told. -/
def RowsAt (es : List (List Int × LV)) (f : Int → List Int) : Prop := ∀ v, ∃ t, norm ((mget es [v]).getD .nil) = .sl t (f v).length (us (f v))

def NearJ (n0 m : Nat) (st : St) (l : List Ed) (k : Nat) (id a b : Int) (f : Int → List Int) (fr : Frm) (st2 : St) : Prop :=
  fr 3 = .mp (m) ∧ fr 8 = .sl 0 l.length (eds l) ∧ fr 9 = i l.length ∧ fr 10 = i k ∧ Keeps st st2 ∧ m < st2.next ∧ (∃ q, fr 5 = .pt q 0 ∧ st2.H q = .box 43 3 [u id, u a, u b] ∧ q < st2.next) ∧ ∃ es tok, st2.H (m) = .map false [.u32] es ∧ NearI n0 m es st2 f tok

theorem near (g : Gr) (st : St) (he : g.es.length ≤ 1000) :
    ACalls Tryz.prog 95 [.ag (grL g)] st fun r st' => ∃ m es, r = .mp m ∧ st.next ≤ m ∧ m < st'.next ∧ st'.H m = .map false [.u32] es ∧ Keeps st st' ∧ RowsAt es (nbr g.es) := by
  obtain ⟨vs, l⟩ := g
  simp only at he ⊢
  have hel := eds_length l
  have hfl := fun v k => flat_len (nbr1 v) (nbr1_len v) (l.take k)
  refine acalls_of_body tabOk Tryz.func95 rfl rfl Tryz.ntmps95 (rs := [.tmp 2]) rfl (by simp) ?_
  (repeat' (first | refine awp_seq ?_ | refine awp_block ?_ | ((first | refine awp_skip ?_ | refine awp_exit ?_); simp only [ak, reduceIte]) | (refine awp_ret ?_; simp only [ak, reduceIte]; simp []) | (refine awp_cond ?_; simp []; (try with_reducible refine ⟨?_, ?_⟩) <;> (try with_reducible intro hc) <;> try (exfalso; omega)) | ((first | (refine w_e [] ?_; intro J hJ; simp only []) | (refine w_q ?_; intro J hJ) | refine e_go ?_); simp []; (repeat refine ca ?_); (try ((try with_reducible refine ⟨?_, ?_⟩) <;> (try with_reducible intro hnil) <;> refine hJ _ _ ?_ <;> clear hJ J <;> simp only [ak, reduceIte] <;> try subst hnil)))))
  refine awp_posG fun hpos => ?_
  obtain ⟨m, hm⟩ : ∃ m, m = st.next + 1 := ⟨_, rfl⟩
  refine awp_loop (fun n fr st2 => ∃ k : Nat, k ≤ l.length ∧ n = l.length - k ∧ fr 3 = .mp m ∧ fr 8 = .sl 0 l.length (eds l) ∧ fr 9 = i l.length ∧ fr 10 = i k ∧ Keeps st st2 ∧ m < st2.next ∧ ∃ es tok, st2.H m = .map false [.u32] es ∧ NearI st.next m es st2 (nbr (l.take k)) tok) l.length ?_ ?_
  · exact ⟨0, by omega, by omega, by simp [hm], by simp, by simp, by simp, (Keeps.new _ _).trans (Keeps.new _ _), by simp [hm], [], fun _ => 0, by simp [hm], fun v => ⟨fun _ => ⟨by simp [nbr], rfl⟩, fun h => absurd rfl h⟩⟩
  rintro n fr st2 ⟨k, hk, rfl, f3, f8, f9, f10, hkp, hmn, es, tok, hM, hN⟩ JJ hJJ
  by_cases hlt : k < l.length
  rotate_left
  · clear hJJ
    have hk' : k = l.length := by omega
    rw [hk', List.take_length] at hN
    (repeat' (first | refine awp_seq ?_ | refine awp_block ?_ | ((first | refine awp_skip ?_ | refine awp_exit ?_); simp only [ak, reduceIte]) | (refine awp_ret ?_; simp only [ak, reduceIte]; simp [f3, f9, f10, hlt]) | (refine awp_cond ?_; simp [f3, f9, f10, hlt]; (try with_reducible refine ⟨?_, ?_⟩) <;> (try with_reducible intro hc) <;> try (exfalso; omega)) | ((first | (refine w_e [] ?_; intro J hJ; simp only []) | (refine w_q ?_; intro J hJ) | refine e_go ?_); simp [f3, f9, f10, hlt]; (repeat refine ca ?_); (try ((try with_reducible refine ⟨?_, ?_⟩) <;> (try with_reducible intro hnil) <;> refine hJ _ _ ?_ <;> clear hJ J <;> simp only [ak, reduceIte] <;> try subst hnil)))))
    refine ⟨by omega, hmn, es, hM, hkp, fun v => ?_⟩
    by_cases h0 : tok v = 0
    · obtain ⟨h1, h2⟩ := (hN v).1 h0
      exact ⟨0, by rw [h1, h2]; rfl⟩
    · obtain ⟨h1, -⟩ := (hN v).2 h0
      exact ⟨tok v, by rw [h1]; rfl⟩
  have hd := eds_drop l k hlt
  have hw := nat_add_one k (by omega)
  have hk3 : k * 3 < l.length * 3 := by omega
  have hst : ∀ v, nbr (l.take (k + 1)) v = nbr (l.take k) v ++ nbr1 v (l.getD k ed0) := fun v => flat_takeE _ _ _ hlt
  have hle : ∀ v, (nbr (l.take k) v).length ≤ 2 * k := fun v => by have := hfl v k; rw [List.length_take] at this; unfold nbr; omega
  generalize hx : l.getD k ed0 = x at *
  obtain ⟨id, a, b⟩ := x
  simp only at hd
  generalize hF : nbr (l.take k) = f at *
  (repeat' (first | refine awp_seq ?_ | refine awp_block ?_ | ((first | refine awp_skip ?_ | refine awp_exit ?_); simp only [ak, reduceIte]) | (refine awp_ret ?_; simp only [ak, reduceIte]; simp [f8, f9, f10, hlt, hd, hel]) | (refine awp_cond ?_; simp [f8, f9, f10, hlt, hd, hel]; (try with_reducible refine ⟨?_, ?_⟩) <;> (try with_reducible intro hc) <;> try (exfalso; omega)) | ((first | (refine w_e [] ?_; intro J hJ; simp only []) | (refine w_q ?_; intro J hJ) | refine e_go ?_); simp [f8, f9, f10, hlt, hd, hel]; (repeat refine ca ?_); (try ((try with_reducible refine ⟨?_, ?_⟩) <;> (try with_reducible intro hnil) <;> refine hJ _ _ ?_ <;> clear hJ J <;> simp only [ak, reduceIte] <;> try subst hnil)))))
  have hm2 : ¬ m = st2.next := by omega
  have hm3 : ¬ st2.next = m := by omega
  have hm4 : ¬ m = st2.next + 1 := by omega
  have hm5 : ¬ m = st2.next + 1 + 1 := by omega
  have hn2 : ¬ st2.next = st2.next + 1 + 1 := by omega
  refine awp_cut1 (NearJ st.next m st l k id a b (fun v => if v = a then f a ++ [b] else f v)) ?_ ?_
  · clear hJJ
    have hla := hle a
    by_cases h0 : tok a = 0
    · obtain ⟨h1, h2⟩ := (hN a).1 h0
      (refine w_s [] [st2.next, m] [(0, true), (1, true), (2, true), (3, true), (4, true), (5, true), (6, true), (7, true), (8, true), (9, true), (10, true), (11, false)] ?_; intro J hJ; simp [f3, hM, h2, hm2, hm3, hm4, hm5, hn2]; (repeat refine ca ?_); (try ((try with_reducible refine ⟨?_, ?_⟩) <;> (try with_reducible intro hnil) <;> refine hJ _ _ ?_ <;> clear hJ J <;> simp only [ak, reduceIte] <;> try subst hnil)))
      refine ⟨by trivial, ?_⟩
      have e : LV.sl (st2.next + 1 + 1) ((f a).length + 1) (us (f a ++ [b])) = .sl (st2.next + 1 + 1) 1 [u b] := by rw [h1]; rfl
      refine ⟨by simp [f3], by simp [f8], by simp [f9], by simp [f10], (by repeat (first | exact hkp | (refine Keeps.trans ?_ (Keeps.new _ _)) | (refine Keeps.set ?_ (by have := hkp.next; omega) _))), by simp; omega, ⟨st2.next, by simp, by simp [hm3, hn2], by simp; omega⟩, _, fun v => if v = a then st2.next + 1 + 1 else tok v, by simp; rfl, ?_⟩
      rw [← e]
      refine hN.step a b (st2.next + 1 + 1) (by omega) (by simp) hmn (by omega) (by have := hkp.next; omega) (fun l e1 e2 e3 => ?_) (by rw [h1]; simp [Ne.symm hm5])
      have a1 : ¬ l = st2.next := by omega
      have a2 : ¬ l = st2.next + 1 := by omega
      have a3 : ¬ l = st2.next + 1 + 1 := by omega
      simp [a1, a2, a3, e1, e2]
    · obtain ⟨h1, h2, h3, h4, h5, h6⟩ := (hN a).2 h0
      have ht1 : ¬ tok a = st2.next := by omega
      have ht2 : ¬ st2.next = tok a := by omega
      have ht3 : ¬ tok a = st2.next + 1 := by omega
      have ht4 : ¬ m = tok a := fun h => h4 h.symm
      (refine w_s [] [st2.next, m] [(0, true), (1, true), (2, true), (3, true), (4, true), (5, true), (6, true), (7, true), (8, true), (9, true), (10, true), (11, false)] ?_; intro J hJ; simp [f3, hM, h1, h5, h0, hm2, hm3, hm4, hm5, hn2, ht1, ht2, ht3, ht4]; (repeat refine ca ?_); (try ((try with_reducible refine ⟨?_, ?_⟩) <;> (try with_reducible intro hnil) <;> refine hJ _ _ ?_ <;> clear hJ J <;> simp only [ak, reduceIte] <;> try subst hnil)))
      refine ⟨by trivial, ?_⟩
      have e : LV.sl (st2.next + 1 + 1) ((f a).length + 1) (us (f a ++ [b])) = .sl (st2.next + 1 + 1) ((f a).length + 1) (us (f a) ++ [u b]) := by simp
      refine ⟨by simp [f3], by simp [f8], by simp [f9], by simp [f10], (by repeat (first | exact hkp | (refine Keeps.trans ?_ (Keeps.new _ _)) | (refine Keeps.set ?_ (by have := hkp.next; omega) _))), by simp; omega, ⟨st2.next, by simp, by simp [hm3, hn2, ht2], by simp; omega⟩, _, fun v => if v = a then st2.next + 1 + 1 else tok v, by simp; rfl, ?_⟩
      rw [← e]
      refine hN.step a b (st2.next + 1 + 1) (by omega) (by simp) hmn (by omega) (by have := hkp.next; omega) (fun l e1 e2 e3 => ?_) (by simp [Ne.symm hm5])
      have a1 : ¬ l = st2.next := by omega
      have a2 : ¬ l = st2.next + 1 := by omega
      have a3 : ¬ l = st2.next + 1 + 1 := by omega
      simp [a1, a2, a3, e1, e2]
  clear f3 f8 f9 f10 hkp hmn hM hN hm2 hm3 hm4 hm5 hn2 tok es st2 fr
  rintro fr st2 ⟨f3, f8, f9, f10, hkp, hmn, ⟨q, f5, hq, hqn⟩, es, tok, hM, hN⟩
  generalize hf2 : (fun v => if v = a then f a ++ [b] else f v) = f2 at *
  have hle2 : (f2 b).length ≤ 2 * k + 1 := by
    rw [← hf2]
    simp only
    split
    · have := hle a; simp; omega
    · have := hle b; omega
  have hfin : ∀ v, nbr (l.take (k + 1)) v = (if v = b then f2 b ++ [a] else f2 v) := by
    intro v
    rw [hst v, ← hf2]
    unfold nbr1
    simp only
    by_cases hva : v = a
    · subst hva
      by_cases hvb : v = b
      · subst hvb; simp
      · simp [hvb, Ne.symm hvb]
    · by_cases hvb : v = b
      · subst hvb; simp [hva, Ne.symm hva]
      · simp [hva, hvb, Ne.symm hva, Ne.symm hvb]
  have hfin' : nbr (l.take (k + 1)) = fun v => if v = b then f2 b ++ [a] else f2 v := funext hfin
  have hm2 : ¬ m = st2.next := by omega
  have hm5 : ¬ m = st2.next + 1 := by omega
  have hq2 : ¬ q = st2.next := by omega
  have hqm : ¬ q = m := fun h => by rw [h, hM] at hq; cases hq
  by_cases h0 : tok b = 0
  · obtain ⟨h1, h2⟩ := (hN b).1 h0
    (refine w_s [] [q, m] [(0, true), (1, true), (2, true), (3, true), (4, true), (5, true), (6, true), (7, true), (8, true), (9, true), (10, true), (11, false)] ?_; intro J hJ; simp [f3, f5, hq, hM, h2, hm2, hm5, hq2, hqm]; (repeat refine ca ?_); (try ((try with_reducible refine ⟨?_, ?_⟩) <;> (try with_reducible intro hnil) <;> refine hJ _ _ ?_ <;> clear hJ J <;> simp only [ak, reduceIte] <;> try subst hnil)))
    (repeat' (first | refine awp_seq ?_ | refine awp_block ?_ | ((first | refine awp_skip ?_ | refine awp_exit ?_); simp only [ak, reduceIte]) | (refine awp_ret ?_; simp only [ak, reduceIte]; simp [f10, hw]) | (refine awp_cond ?_; simp [f10, hw]; (try with_reducible refine ⟨?_, ?_⟩) <;> (try with_reducible intro hc) <;> try (exfalso; omega)) | ((first | (refine w_e [] ?_; intro J hJ; simp only []) | (refine w_q ?_; intro J hJ) | refine e_go ?_); simp [f10, hw]; (repeat refine ca ?_); (try ((try with_reducible refine ⟨?_, ?_⟩) <;> (try with_reducible intro hnil) <;> refine hJ _ _ ?_ <;> clear hJ J <;> simp only [ak, reduceIte] <;> try subst hnil)))))
    have e : LV.sl (st2.next + 1) ((f2 b).length + 1) (us (f2 b ++ [a])) = .sl (st2.next + 1) 1 [u a] := by rw [h1]; rfl
    refine hJJ (l.length - (k + 1)) _ _ (by omega) ⟨k + 1, by omega, rfl, by simp [f3], by simp [f8], by simp [f9], by simp, (by repeat (first | exact hkp | (refine Keeps.trans ?_ (Keeps.new _ _)) | (refine Keeps.set ?_ (by have := hkp.next; omega) _))), by simp; omega, _, fun v => if v = b then st2.next + 1 else tok v, by simp; rfl, ?_⟩
    rw [← e, hfin']
    refine hN.step b a (st2.next + 1) (by omega) (by simp) hmn (by omega) (by have := hkp.next; omega) (fun l e1 e2 e3 => ?_) (by rw [h1]; simp [Ne.symm hm5])
    have a1 : ¬ l = st2.next := by omega
    have a2 : ¬ l = st2.next + 1 := by omega
    simp [a1, a2, e1, e2]
  · obtain ⟨h1, h2, h3, h4, h5, h6⟩ := (hN b).2 h0
    have ht1 : ¬ tok b = st2.next := by omega
    have ht2 : ¬ st2.next = tok b := by omega
    have ht4 : ¬ m = tok b := fun h => h4 h.symm
    have ht5 : ¬ q = tok b := fun h => by rw [h, h5] at hq; cases hq
    (refine w_s [] [q, m] [(0, true), (1, true), (2, true), (3, true), (4, true), (5, true), (6, true), (7, true), (8, true), (9, true), (10, true), (11, false)] ?_; intro J hJ; simp [f3, f5, hq, hM, h1, h5, h0, hm2, hm5, hq2, hqm, ht1, ht2, ht4, ht5]; (repeat refine ca ?_); (try ((try with_reducible refine ⟨?_, ?_⟩) <;> (try with_reducible intro hnil) <;> refine hJ _ _ ?_ <;> clear hJ J <;> simp only [ak, reduceIte] <;> try subst hnil)))
    (repeat' (first | refine awp_seq ?_ | refine awp_block ?_ | ((first | refine awp_skip ?_ | refine awp_exit ?_); simp only [ak, reduceIte]) | (refine awp_ret ?_; simp only [ak, reduceIte]; simp [f10, hw]) | (refine awp_cond ?_; simp [f10, hw]; (try with_reducible refine ⟨?_, ?_⟩) <;> (try with_reducible intro hc) <;> try (exfalso; omega)) | ((first | (refine w_e [] ?_; intro J hJ; simp only []) | (refine w_q ?_; intro J hJ) | refine e_go ?_); simp [f10, hw]; (repeat refine ca ?_); (try ((try with_reducible refine ⟨?_, ?_⟩) <;> (try with_reducible intro hnil) <;> refine hJ _ _ ?_ <;> clear hJ J <;> simp only [ak, reduceIte] <;> try subst hnil)))))
    have e : LV.sl (st2.next + 1) ((f2 b).length + 1) (us (f2 b ++ [a])) = .sl (st2.next + 1) ((f2 b).length + 1) (us (f2 b) ++ [u a]) := by simp
    refine hJJ (l.length - (k + 1)) _ _ (by omega) ⟨k + 1, by omega, rfl, by simp [f3], by simp [f8], by simp [f9], by simp, (by repeat (first | exact hkp | (refine Keeps.trans ?_ (Keeps.new _ _)) | (refine Keeps.set ?_ (by have := hkp.next; omega) _))), by simp; omega, _, fun v => if v = b then st2.next + 1 else tok v, by simp; rfl, ?_⟩
    rw [← e, hfin']
    refine hN.step b a (st2.next + 1) (by omega) (by simp) hmn (by omega) (by have := hkp.next; omega) (fun l e1 e2 e3 => ?_) (by simp [Ne.symm hm5])
    have a1 : ¬ l = st2.next := by omega
    have a2 : ¬ l = st2.next + 1 := by omega
    simp [a1, a2, e1, e2]

theorem RowsAt.cases {es : List (List Int × LV)} {f : Int → List Int} (h : RowsAt es f) (v : Int) : ((mget es [v]).getD .nil = .nil ∧ f v = []) ∨ ∃ t, (mget es [v]).getD .nil = .sl t (f v).length (us (f v)) := by
  obtain ⟨t, ht⟩ := h v
  cases hx : (mget es [v]).getD .nil with
  | nil =>
    rw [hx] at ht
    left
    refine ⟨rfl, ?_⟩
    simp only [norm, LV.sl.injEq] at ht
    exact List.eq_nil_of_length_eq_zero ht.2.1.symm
  | _ => rw [hx] at ht; simp [norm] at ht <;> exact .inr ⟨t, by simp [ht]⟩

def alone (g : Gr) : Nat := g.vs.countP fun v => decide (nbr g.es v = [])
end Go.Proofs.YtomfeddgeihipaaGreat.Aw

namespace Go.Proofs.YtomfeddgeihipaaGreat.Aw
open Go Go.RowKit Go.Proofs.YtomfeddgeihipaaGreat.Pl
set_option linter.unusedSimpArgs false
set_option linter.unusedVariables false

inductive Reach (es : List Ed) (v : Int) : Int → Prop
  | refl : Reach es v v
  | step {u w : Int} (h : Reach es v u) (hw : w ∈ nbr es u) : Reach es v w

theorem mem_nbr {es : List Ed} {u w : Int} : w ∈ nbr es u ↔ ∃ x ∈ es, (x.a = u ∧ x.b = w) ∨ (x.b = u ∧ x.a = w) := by
  unfold nbr nbr1
  simp only [List.mem_flatMap, List.mem_append]
  constructor
  · rintro ⟨x, hx, h | h⟩
    · refine ⟨x, hx, .inl ?_⟩
      split at h
      · rename_i h1; simp at h; exact ⟨h1, h.symm⟩
      · cases h
    · refine ⟨x, hx, .inr ?_⟩
      split at h
      · rename_i h1; simp at h; exact ⟨h1, h.symm⟩
      · cases h
  · rintro ⟨x, hx, ⟨h1, h2⟩ | ⟨h1, h2⟩⟩
    · exact ⟨x, hx, .inl (by simp [h1, h2])⟩
    · exact ⟨x, hx, .inr (by simp [h1, h2])⟩
theorem nbr_symm {es : List Ed} {u w : Int} (h : w ∈ nbr es u) : u ∈ nbr es w := by
  rw [mem_nbr] at h ⊢
  obtain ⟨x, hx, ⟨h1, h2⟩ | ⟨h1, h2⟩⟩ := h
  · exact ⟨x, hx, .inr ⟨h2, h1⟩⟩
  · exact ⟨x, hx, .inl ⟨h2, h1⟩⟩
theorem Reach.trans {es : List Ed} {u v w : Int} (h : Reach es u v) (k : Reach es v w) : Reach es u w := by
  induction k with
  | refl => exact h
  | step _ hw ih => exact .step ih hw
theorem Reach.symm {es : List Ed} {u v : Int} (h : Reach es u v) : Reach es v u := by
  induction h with
  | refl => exact .refl
  | step _ hw ih => exact Reach.trans (.step .refl (nbr_symm hw)) ih
theorem Reach.closed {es : List Ed} {v w : Int} {L : Int → Prop} (h : Reach es v w) (hv : L v) (hc : ∀ u, L u → ∀ w ∈ nbr es u, L w) : L w := by
  induction h with
  | refl => exact hv
  | step _ hw ih => exact hc _ ih _ hw

/-- A graph's vertices rise, and edges end at them. -/
structure Good (g : Gr) : Prop where
  rise : g.vs.Pairwise (· < ·)
  ends : ∀ x ∈ g.es, x.a ∈ g.vs ∧ x.b ∈ g.vs
theorem Good.nbr {g : Gr} (h : Good g) {u w : Int} (hw : w ∈ nbr g.es u) : w ∈ g.vs := by
  rw [mem_nbr] at hw
  obtain ⟨x, hx, ⟨_, rfl⟩ | ⟨_, rfl⟩⟩ := hw
  · exact (h.ends x hx).2
  · exact (h.ends x hx).1
theorem Good.reach {g : Gr} (h : Good g) {v w : Int} (hv : v ∈ g.vs) (hr : Reach g.es v w) : w ∈ g.vs := by
  cases hr with
  | refl => exact hv
  | step _ hw => exact h.nbr hw
theorem Good.nodup {g : Gr} (h : Good g) : g.vs.Nodup := h.rise.imp fun h => by omega

/-- A row that has just what hangs together with a vertex, rising. -/
def IsPart (g : Gr) (v : Int) (c : List Int) : Prop := c.Pairwise (· < ·) ∧ ∀ w, w ∈ c ↔ w ∈ g.vs ∧ Reach g.es v w
theorem rise_unique {c d : List Int} (hc : c.Pairwise (· < ·)) (hd : d.Pairwise (· < ·)) (h : ∀ w, w ∈ c ↔ w ∈ d) : c = d :=
  srt_unique (hc.imp fun h => by omega) (hd.imp fun h => by omega) ((List.perm_ext_iff_of_nodup (hc.imp fun h => by omega) (hd.imp fun h => by omega)).2 h)
theorem IsPart.unique {g : Gr} {v : Int} {c d : List Int} (h : IsPart g v c) (k : IsPart g v d) : c = d := rise_unique h.1 k.1 fun w => by rw [h.2, k.2]
/-- Seen from the first vertices. -/
def Seen (g : Gr) (k : Nat) (w : Int) : Prop := ∃ u ∈ g.vs.take k, Reach g.es u w
theorem take_lt {l : List Int} (h : l.Pairwise (· < ·)) {k : Nat} (hk : k < l.length) {u : Int} : u ∈ l.take k ↔ u ∈ l ∧ u < l.getD k 0 := by
  rw [getD_lt _ _ hk]
  constructor
  · intro hu
    obtain ⟨j, hj, rfl⟩ := List.getElem_of_mem hu
    rw [List.length_take] at hj
    rw [List.getElem_take]
    exact ⟨List.getElem_mem _, List.pairwise_iff_getElem.1 h j k (by omega) hk (by omega)⟩
  · rintro ⟨hu, hlt⟩
    obtain ⟨j, hj, rfl⟩ := List.getElem_of_mem hu
    have hjk : j < k := by
      rcases Nat.lt_trichotomy j k with h1 | h1 | h1
      · exact h1
      · subst h1; omega
      · have := List.pairwise_iff_getElem.1 h k j hk hj h1; omega
    rw [List.mem_take_iff_getElem]
    exact ⟨j, by omega, rfl⟩
theorem Seen.reach {g : Gr} {k : Nat} {u w : Int} (h : Seen g k u) (hr : Reach g.es u w) : Seen g k w := by
  obtain ⟨x, hx, hy⟩ := h
  exact ⟨x, hx, hy.trans hr⟩
/-- The parts, as they come from the first vertices. -/
inductive PartsTo (g : Gr) : Nat → List (List Int) → Prop
  | zero : PartsTo g 0 []
  | seen {k : Nat} {R : List (List Int)} (h : PartsTo g k R) (hk : k < g.vs.length) (hs : Seen g k (g.vs.getD k 0)) : PartsTo g (k + 1) R
  | lead {k : Nat} {R : List (List Int)} {c : List Int} (h : PartsTo g k R) (hk : k < g.vs.length) (hs : ¬ Seen g k (g.vs.getD k 0)) (hc : IsPart g (g.vs.getD k 0) c) : PartsTo g (k + 1) (R ++ [c])
theorem PartsTo.unique {g : Gr} {k : Nat} {R R' : List (List Int)} (h : PartsTo g k R) (h' : PartsTo g k R') : R = R' := by
  induction h generalizing R' with
  | zero => cases h'; rfl
  | seen _ _ hs ih =>
    cases h' with
    | seen h2 _ _ => exact ih h2
    | lead h2 _ hs2 _ => exact absurd hs hs2
  | lead _ _ hs hc ih =>
    cases h' with
    | seen h2 _ hs2 => exact absurd hs2 hs
    | lead h2 _ _ hc2 => rw [ih h2, hc.unique hc2]
theorem PartsTo.len {g : Gr} {k : Nat} {R : List (List Int)} (h : PartsTo g k R) : R.length ≤ k := by
  induction h with
  | zero => simp
  | seen _ _ _ ih => omega
  | lead _ _ _ _ ih => simp; omega

/-! ### a search -/
structure Srch (g : Gr) (n : Nat) (v : Int) (L : List Int) (k : Nat) : Prop where
  nodup : L.Nodup
  reach : ∀ w ∈ L, Reach g.es v w
  mem : v ∈ L
  done : ∀ u ∈ L.take k, ∀ w ∈ nbr g.es u, w ∈ L
theorem Srch.all {g : Gr} {n : Nat} {v : Int} {L : List Int} (h : Srch g n v L L.length) : ∀ w, w ∈ L ↔ Reach g.es v w := by
  intro w
  refine ⟨h.reach w, fun hr => ?_⟩
  exact hr.closed (L := fun w => w ∈ L) h.mem fun u hu w hw => h.done u (by rw [List.take_length]; exact hu) w hw
theorem Srch.sub {g : Gr} (hg : Good g) {n : Nat} {v : Int} {L : List Int} {k : Nat} (h : Srch g n v L k) (hv : v ∈ g.vs) : L.length ≤ g.vs.length := by
  exact List.Nodup.length_le_of_subset h.nodup fun w hw => hg.reach hv (h.reach w hw)

end Go.Proofs.YtomfeddgeihipaaGreat.Aw

namespace Go.Proofs.YtomfeddgeihipaaGreat.Aw
open Go Go.RowKit Go.Proofs.YtomfeddgeihipaaGreat.Pl
set_option linter.unusedSimpArgs false
set_option linter.unusedVariables false

abbrev rowsL3 (rs : List (List Int)) : List LV := rs.map fun r => .sl 0 r.length (us r)

structure SrchI (g : Gr) (v : Int) (L : List Int) (k : Nat) (x : Int) (j : Nat) : Prop where
  nodup : L.Nodup
  reach : ∀ w ∈ L, Reach g.es v w
  mem : v ∈ L
  done : ∀ u ∈ L.take k, ∀ w ∈ nbr g.es u, w ∈ L
  lt : k < L.length
  at' : L.getD k 0 = x
  some : ∀ w ∈ (nbr g.es x).take j, w ∈ L
theorem Srch.start {g : Gr} {n : Nat} {v : Int} {L : List Int} {k : Nat} (h : Srch g n v L k) (hk : k < L.length) : SrchI g v L k (L.getD k 0) 0 :=
  ⟨h.nodup, h.reach, h.mem, h.done, hk, rfl, fun w hw => by simp at hw⟩
theorem SrchI.skip {g : Gr} {v : Int} {L : List Int} {k : Nat} {x : Int} {j : Nat} (h : SrchI g v L k x j) (hj : j < (nbr g.es x).length) (hw : (nbr g.es x).getD j 0 ∈ L) : SrchI g v L k x (j + 1) := by
  refine ⟨h.nodup, h.reach, h.mem, h.done, h.lt, h.at', fun w hw2 => ?_⟩
  rw [List.take_succ_eq_append_getElem hj, List.mem_append, List.mem_singleton] at hw2
  rcases hw2 with hw2 | rfl
  · exact h.some w hw2
  · rwa [getD_lt _ _ hj] at hw
theorem SrchI.push {g : Gr} {v : Int} {L : List Int} {k : Nat} {x : Int} {j : Nat} (h : SrchI g v L k x j) (hj : j < (nbr g.es x).length) (hw : (nbr g.es x).getD j 0 ∉ L) : SrchI g v (L ++ [(nbr g.es x).getD j 0]) k x (j + 1) := by
  have hx : x ∈ L := by rw [← h.at', getD_lt _ _ h.lt]; exact List.getElem_mem _
  refine ⟨?_, fun w hw2 => ?_, List.mem_append_left _ h.mem, fun u hu w hw2 => ?_, ?_, ?_, fun w hw2 => ?_⟩
  · rw [List.nodup_append]
    refine ⟨h.nodup, by simp, fun a ha b hb => ?_⟩
    rw [List.mem_singleton] at hb
    rintro rfl
    exact hw (hb ▸ ha)
  · rw [List.mem_append, List.mem_singleton] at hw2
    rcases hw2 with hw2 | rfl
    · exact h.reach w hw2
    · exact .step (h.reach x hx) (by rw [getD_lt _ _ hj]; exact List.getElem_mem _)
  · rw [List.take_append_of_le_length (by have := h.lt; omega)] at hu
    exact List.mem_append_left _ (h.done u hu w hw2)
  · have := h.lt; simp; omega
  · rw [← h.at']
    have := h.lt
    simp [List.getD_eq_getElem?_getD, List.getElem?_append_left this]
  · rw [List.take_succ_eq_append_getElem hj, List.mem_append, List.mem_singleton] at hw2
    rw [getD_lt _ _ hj]
    rcases hw2 with hw2 | rfl
    · exact List.mem_append_left _ (h.some w hw2)
    · exact List.mem_append_right _ (List.mem_singleton.2 rfl)
theorem SrchI.len {g : Gr} (hg : Good g) {v : Int} {L : List Int} {k : Nat} {x : Int} {j : Nat} (h : SrchI g v L k x j) (hv : v ∈ g.vs) : L.length ≤ g.vs.length :=
  List.Nodup.length_le_of_subset h.nodup fun w hw => hg.reach hv (h.reach w hw)

/-- Which numbers a map of 1's has. -/
def SeenI (es : List (List Int × LV)) (P : Int → Prop) : Prop := ∀ v, (P v → (mget es [v]).getD (i 0) = i 1) ∧ (¬ P v → (mget es [v]).getD (i 0) = i 0)
theorem SeenI.step {es : List (List Int × LV)} {P P' : Int → Prop} (h : SeenI es P) (w : Int) (hp : ∀ v, P' v ↔ P v ∨ v = w) : SeenI (mset es [w] (i 1)) P' := by
  intro v
  rw [mget_mset]
  by_cases hv : v = w
  · subst hv
    simp only [if_true, Option.getD_some]
    exact ⟨fun _ => by trivial, fun h1 => absurd ((hp v).2 (.inr rfl)) h1⟩
  · rw [if_neg (by simpa using hv), hp]
    exact ⟨fun h1 => (h v).1 (h1.resolve_right hv), fun h1 => (h v).2 fun h2 => h1 (.inl h2)⟩
theorem SeenI.congr {es : List (List Int × LV)} {P P' : Int → Prop} (h : SeenI es P) (hp : ∀ v, P' v ↔ P v) : SeenI es P' := fun v => by rw [hp]; exact h v

def PtF (m ms : Nat) (es : List (List Int × LV)) (n : Nat) (g : Gr) (st : St) (j : Nat) (P : Int → Prop) (fr : Frm) (st2 : St) : Prop :=
  fr 4 = .mp m ∧ fr 5 = .mp ms ∧ fr 16 = .sl 0 g.vs.length (us g.vs) ∧ fr 17 = i g.vs.length ∧ fr 18 = i j ∧ (m < ms ∧ ms < st2.next ∧ st.next ≤ m) ∧ st2.H m = .map false [.u32] es ∧ Keeps st st2 ∧ (∃ es2, st2.H ms = .map false [.u32] es2 ∧ SeenI es2 P) ∧
    ∃ t R, fr 3 = .sl t R.length (rowsL3 R) ∧ PartsTo g j R ∧ t ≠ 0 ∧ st.next ≤ t ∧ t < st2.next ∧ st2.H t = .own 35 1 R.length
def PtL (m ms : Nat) (es : List (List Int × LV)) (n : Nat) (g : Gr) (st : St) (j : Nat) (v : Int) (L : List Int) (fr : Frm) (st2 : St) : Prop :=
  PtF m ms es n g st j (fun w => Seen g j w ∨ w ∈ L) fr st2 ∧ ∃ q, fr 8 = .ms q 0 L.length ∧ st2.H q = .box 41 1 (us L) ∧ st.next ≤ q ∧ q < st2.next

theorem PtL.fr {m ms : Nat} {es : List (List Int × LV)} {n : Nat} {g : Gr} {st : St} {j : Nat} {v : Int} {L : List Int} {fr fr' : Frm} {st2 : St} (h : PtL m ms es n g st j v L fr st2) (h3 : fr' 3 = fr 3) (h4 : fr' 4 = fr 4) (h5 : fr' 5 = fr 5) (h8 : fr' 8 = fr 8) (h16 : fr' 16 = fr 16) (h17 : fr' 17 = fr 17) (h18 : fr' 18 = fr 18) : PtL m ms es n g st j v L fr' st2 := by
  obtain ⟨⟨f4, f5, f16, f17, f18, a, b, c, d, t, R, f3, r⟩, q, f8, r2⟩ := h
  exact ⟨⟨h4.trans f4, h5.trans f5, h16.trans f16, h17.trans f17, h18.trans f18, a, b, c, d, t, R, h3.trans f3, r⟩, q, h8.trans f8, r2⟩

end Go.Proofs.YtomfeddgeihipaaGreat.Aw

namespace Go.Proofs.YtomfeddgeihipaaGreat.Aw
open Go Go.RowKit Go.Proofs.YtomfeddgeihipaaGreat.Pl
set_option linter.unusedSimpArgs false
set_option linter.unusedVariables false

/-- Which numbers a map of truths has. -/
def InI (es : List (List Int × LV)) (S : List Int) : Prop := ∀ v, (mget es [v]).getD (bb false) = bb (decide (v ∈ S))
theorem InI.step {es : List (List Int × LV)} {S : List Int} (h : InI es S) (w : Int) : InI (mset es [w] (bb true)) (S ++ [w]) := by
  intro v
  rw [mget_mset]
  by_cases hv : v = w
  · subst hv; simp
  · rw [if_neg (by simpa using hv), h v]; simp [hv]
theorem InI.congr {es : List (List Int × LV)} {S S' : List Int} (h : InI es S) (hs : ∀ v, v ∈ S' ↔ v ∈ S) : InI es S' := fun v => by
  rw [h v, show decide (v ∈ S') = decide (v ∈ S) from decide_eq_decide.2 (hs v)]

structure Flood (g : Gr) (v : Int) (S : List Int) : Prop where
  nodup : S.Nodup
  mem : v ∈ S
  reach : ∀ w ∈ S, Reach g.es v w
theorem Flood.len {g : Gr} (hg : Good g) {v : Int} (hv : v ∈ g.vs) {S : List Int} (h : Flood g v S) : S.length ≤ g.vs.length :=
  List.Nodup.length_le_of_subset h.nodup fun w hw => hg.reach hv (h.reach w hw)
theorem Flood.push {g : Gr} {v : Int} {S : List Int} (h : Flood g v S) {x : Ed} (hx : x ∈ g.es) {u w : Int} (hu : u ∈ S) (hw : w ∉ S) (hxw : (x.a = u ∧ x.b = w) ∨ (x.b = u ∧ x.a = w)) : Flood g v (S ++ [w]) := by
  refine ⟨?_, List.mem_append_left _ h.mem, fun z hz => ?_⟩
  · rw [List.nodup_append]
    refine ⟨h.nodup, by simp, fun a ha b hb => ?_⟩
    rw [List.mem_singleton] at hb
    rintro rfl
    exact hw (hb ▸ ha)
  · rw [List.mem_append, List.mem_singleton] at hz
    rcases hz with hz | rfl
    · exact h.reach z hz
    · exact .step (h.reach u hu) (mem_nbr.2 ⟨x, hx, hxw⟩)
def Even (es : List Ed) (S : List Int) : Prop := ∀ x ∈ es, (x.a ∈ S ↔ x.b ∈ S)
theorem Flood.part {g : Gr} (hg : Good g) {v : Int} {S : List Int} (h : Flood g v S) (he : Even g.es S) : IsPart g v (g.vs.filter fun w => decide (w ∈ S)) := by
  refine ⟨hg.rise.filter _, fun w => ?_⟩
  rw [List.mem_filter, decide_eq_true_eq]
  refine ⟨fun hw => ⟨hw.1, h.reach w hw.2⟩, fun hw => ⟨hw.1, ?_⟩⟩
  refine hw.2.closed (L := fun w => w ∈ S) h.mem fun u hu w hw => ?_
  obtain ⟨x, hx, ⟨rfl, rfl⟩ | ⟨rfl, rfl⟩⟩ := mem_nbr.1 hw
  · exact (he x hx).1 hu
  · exact (he x hx).2 hu

def RpI (ms : Nat) (g : Gr) (st : St) (S : List Int) (fr : Frm) (st2 : St) : Prop :=
  fr 2 = .pt st.next 0 ∧ fr 5 = .mp ms ∧ st.next < ms ∧ ms < st2.next ∧ Keeps st st2 ∧ st2.H st.next = .box 38 2 (grL g) ∧ ∃ es, st2.H ms = .map false [.u32] es ∧ InI es S
theorem RpI.fr {ms : Nat} {g : Gr} {st : St} {S : List Int} {fr fr' : Frm} {st2 : St} (h : RpI ms g st S fr st2) (h2 : fr' 2 = fr 2) (h5 : fr' 5 = fr 5) : RpI ms g st S fr' st2 :=
  ⟨h2.trans h.1, h5.trans h.2.1, h.2.2⟩

end Go.Proofs.YtomfeddgeihipaaGreat.Aw

namespace Go.Proofs.YtomfeddgeihipaaGreat.Aw
open Go Go.RowKit Go.Proofs.YtomfeddgeihipaaGreat.Pl
set_option linter.unusedSimpArgs false
set_option linter.unusedVariables false

theorem IsPart.seen {g : Gr} (hg : Good g) {k : Nat} (hk : k < g.vs.length) {x : Int} {c : List Int} (h : IsPart g (g.vs.getD k 0) (x :: c)) : Seen g k (g.vs.getD k 0) ↔ x ≠ g.vs.getD k 0 := by
  have hvin : g.vs.getD k 0 ∈ g.vs := by rw [getD_lt _ _ hk]; exact List.getElem_mem hk
  obtain ⟨h1, h2⟩ := h
  have hmin : ∀ w ∈ x :: c, x ≤ w := by
    intro w hw
    rw [List.mem_cons] at hw
    rcases hw with rfl | hw
    · omega
    · have := (List.pairwise_cons.1 h1).1 w hw; omega
  have hxin := (h2 x).1 (List.mem_cons_self ..)
  constructor
  · rintro ⟨u, hu, hr⟩ he
    obtain ⟨k1, k2⟩ := (take_lt hg.rise hk).1 hu
    have := hmin u ((h2 u).2 ⟨k1, hr.symm⟩)
    omega
  · intro hne
    have := hmin _ ((h2 _).2 ⟨hvin, .refl⟩)
    exact ⟨x, (take_lt hg.rise hk).2 ⟨hxin.1, by omega⟩, hxin.2.symm⟩

/-- An edge's place. -/
def fe (l : List Ed) (id : Int) : Int := if l.any (fun x => decide (x.id = id)) then (l.findIdx (fun x => decide (x.id = id)) : Int) else -1
end Go.Proofs.YtomfeddgeihipaaGreat.Aw

namespace Go.Proofs.YtomfeddgeihipaaGreat.Aw
open Go Go.RowKit Go.Proofs.YtomfeddgeihipaaGreat.Pl
set_option linter.unusedSimpArgs false
set_option linter.unusedVariables false

def TestE (f : FuncId) (caps : List LV) (st : St) (l : List Ed) (p : Ed → Bool) : Prop := ∀ x ∈ l, ∀ st2, Keeps st st2 → ACalls Tryz.prog f (.ag (edL x) :: caps) st2 fun r st3 => r = bb (p x) ∧ Keeps st2 st3

def odd1 (o : Bool) (x : Ed) : Bool := decide (x.id % 2 = 1) == o
/-- A row of edges, or none. -/
def RowE (X : LV) (F : List Ed) : Prop := (X = .nil ∧ F = []) ∨ ∃ t, X = .sl t F.length (eds F)

end Go.Proofs.YtomfeddgeihipaaGreat.Aw

namespace Go.Proofs.YtomfeddgeihipaaGreat.Aw
open Go Go.RowKit Go.Proofs.YtomfeddgeihipaaGreat.Pl
set_option linter.unusedSimpArgs false
set_option linter.unusedVariables false

/-- None of these has it, and each less one is taken. -/
def IsFree (col : Int → Int) (l : List Int) (n : Nat) : Prop := 1 ≤ n ∧ (∀ u ∈ l, col u ≠ n) ∧ ∀ m : Nat, 1 ≤ m → m < n → ∃ u ∈ l, col u = m
theorem IsFree.unique {col : Int → Int} {l : List Int} {n m : Nat} (h : IsFree col l n) (k : IsFree col l m) : n = m := by
  rcases Nat.lt_trichotomy n m with hlt | he | hlt
  · obtain ⟨u, hu, e⟩ := k.2.2 n h.1 hlt
    exact absurd e (h.2.1 u hu)
  · exact he
  · obtain ⟨u, hu, e⟩ := h.2.2 m k.1 hlt
    exact absurd e (k.2.1 u hu)
theorem taken_le {col : Int → Int} {l : List Int} {k : Nat} (h : ∀ m : Nat, 1 ≤ m → m ≤ k → ∃ u ∈ l, col u = m) : k ≤ l.length := by
  have h1 : ((List.range k).map fun m : Nat => ((m + 1 : Nat) : Int)).Nodup := by
    rw [List.nodup_iff_pairwise_ne, List.pairwise_map]
    exact List.nodup_range.imp fun h e => h (by omega)
  have := List.Nodup.length_le_of_subset h1 (l₂ := l.map col) fun y hy => by
    obtain ⟨m, hm, rfl⟩ := List.mem_map.1 hy
    rw [List.mem_range] at hm
    obtain ⟨u, hu, e⟩ := h (m + 1) (by omega) (by omega)
    exact List.mem_map.2 ⟨u, hu, e⟩
  simpa using this

def FrI (l : List Int) (col : Int → Int) (M t k : Nat) (st : St) (fr : Frm) (s : St) : Prop :=
  fr 0 = .mp M ∧ fr 1 = .sl t l.length (us l) ∧ fr 5 = i k ∧ s = st ∧ ∀ m : Nat, 1 ≤ m → m ≤ k → ∃ u ∈ l, col u = m

attribute [simp] gq_goto gq_ret gq_normal gq_exit ak_code_goto ak_blk_goto ak_head_goto
theorem awp_weakG {P : Program} {N : Nat} {Q : AQ} {c : Code} {fr : Frm} {st : St} (I : Frm → St → Prop) (h0 : I fr st) (h : ∀ fr st, I fr st → AWp P N c Q fr st) : AWp P N c Q fr st := h _ _ h0


theorem free (l : List Int) (t M : Nat) (es : List (List Int × LV)) (col : Int → Int) (st : St) (hl : l.length ≤ 1000) (hM : st.H M = .map false [.u32] es) (hcol : ∀ u ∈ l, (mget es [u]).getD (i 0) = i (col u)) :
    ACalls Tryz.prog 104 [.mp M, .sl t l.length (us l)] st fun r st' => (∃ n, IsFree col l n ∧ n ≤ l.length + 1 ∧ r = i n) ∧ st' = st := by
  refine acalls_of_body tabOk Tryz.func104 rfl rfl Tryz.ntmps104 (rs := [.tmp 4]) rfl (by simp) ?_
  (repeat' (first | refine awp_seq ?_ | refine awp_block ?_ | ((first | refine awp_skip ?_ | refine awp_exit ?_); simp only [ak, reduceIte]) | (refine awp_ret ?_; simp only [ak, reduceIte]; simp []) | (refine awp_cond ?_; simp []; (try with_reducible refine ⟨?_, ?_⟩) <;> (try with_reducible intro hc) <;> try (exfalso; omega)) | ((first | (refine w_e [] ?_; intro J hJ; simp only []) | (refine w_q ?_; intro J hJ) | refine e_go ?_); simp []; (repeat refine ca ?_); (try ((try with_reducible refine ⟨?_, ?_⟩) <;> (try with_reducible intro hnil) <;> refine hJ _ _ ?_ <;> clear hJ J <;> simp only [ak, reduceIte] <;> try subst hnil)))))
  refine awp_scope_goto _ 0 (fun n fr s => ∃ k : Nat, n = l.length - k ∧ FrI l col M t k st fr s) rfl ?_ ?_
  · (repeat' (first | refine awp_seq ?_ | refine awp_block ?_ | ((first | refine awp_skip ?_ | refine awp_exit ?_); simp only [ak, reduceIte]) | (refine awp_ret ?_; simp only [ak, reduceIte]; simp []) | (refine awp_cond ?_; simp []; (try with_reducible refine ⟨?_, ?_⟩) <;> (try with_reducible intro hc) <;> try (exfalso; omega)) | ((first | (refine w_e [] ?_; intro J hJ; simp only []) | (refine w_q ?_; intro J hJ) | refine e_go ?_); simp []; (repeat refine ca ?_); (try ((try with_reducible refine ⟨?_, ?_⟩) <;> (try with_reducible intro hnil) <;> refine hJ _ _ ?_ <;> clear hJ J <;> simp only [ak, reduceIte] <;> try subst hnil)))))
    refine awp_label ?_
    simp only [ak]
    refine awp_weakG (FrI l col M t 0 st) ⟨by simp, by simp, by simp, rfl, fun m h1 h2 => by omega⟩ ?_
    rintro fr s ⟨f0, f1, f5, rfl, htk⟩
    obtain ⟨k, hk0⟩ : ∃ k : Nat, k = 0 := ⟨0, rfl⟩
    rw [← hk0] at f5 htk
    have hJG : ∀ (m : Nat) (fr' : Frm) (st' : St), (∃ k', m = l.length - k' ∧ k < k' ∧ FrI l col M t k' s fr' st') → ∃ n k', n = l.length - k' ∧ FrI l col M t k' s fr' st' := fun m _ _ ⟨k', h1, _, h3⟩ => ⟨m, k', h1, h3⟩
    have hkl : k ≤ l.length := taken_le htk
    have hw := nat_add_one k (by omega)
    (repeat' (first | refine awp_seq ?_ | refine awp_block ?_ | ((first | refine awp_skip ?_ | refine awp_exit ?_); simp only [ak, reduceIte]) | (refine awp_ret ?_; simp only [ak, reduceIte]; simp [f0, f1, f5, hw]) | (refine awp_cond ?_; simp [f0, f1, f5, hw]; (try with_reducible refine ⟨?_, ?_⟩) <;> (try with_reducible intro hc) <;> try (exfalso; omega)) | ((first | (refine w_e [] ?_; intro J hJ; simp only []) | (refine w_q ?_; intro J hJ) | refine e_go ?_); simp [f0, f1, f5, hw]; (repeat refine ca ?_); (try ((try with_reducible refine ⟨?_, ?_⟩) <;> (try with_reducible intro hnil) <;> refine hJ _ _ ?_ <;> clear hJ J <;> simp only [ak, reduceIte] <;> try subst hnil)))))
    refine awp_range 12 11 13 21 (l.length) (fun j fr st2 => fr 0 = .mp M ∧ fr 1 = .sl t l.length (us l) ∧ fr 5 = i (k + 1 : Nat) ∧ fr 10 = .sl t l.length (us l) ∧ st2 = s ∧ ∀ u ∈ l.take j, col u ≠ (k + 1 : Nat)) ?_ ?_ ?_
    · exact ⟨by simp [f0], by simp [f1], by simp, by simp, rfl, by simp⟩
    · rintro j fr s hlt ⟨g0, g1, g5, g10, rfl, hno⟩ fi fn JO hJO
      have hd := us_drop_getD l j hlt
      have htk2 : l.take (j + 1) = l.take j ++ [l.getD j 0] := by
        rw [List.getD_eq_getElem?_getD, List.getElem?_eq_getElem hlt]; exact List.take_succ_eq_append_getElem hlt
      have hin : l.getD j 0 ∈ l := by
        rw [List.getD_eq_getElem?_getD, List.getElem?_eq_getElem hlt]; exact List.getElem_mem _
      generalize l.getD j 0 = v at *
      have hcv := hcol v hin
      by_cases hck : col v = (k + 1 : Nat)
      · have hck2 : (col v == ((k + 1 : Nat) : Int)) = true := by simpa using hck
        (repeat' (first | refine awp_seq ?_ | refine awp_block ?_ | ((first | refine awp_skip ?_ | refine awp_exit ?_); simp only [ak, reduceIte]) | (refine awp_ret ?_; simp only [ak, reduceIte]; simp [g0, g10, g5, fi, fn, hd, hlt, hM, hcv, hck2, hck]) | (refine awp_cond ?_; simp [g0, g10, g5, fi, fn, hd, hlt, hM, hcv, hck2, hck]; (try with_reducible refine ⟨?_, ?_⟩) <;> (try with_reducible intro hc) <;> try (exfalso; omega)) | ((first | (refine w_e [] ?_; intro J hJ; simp only []) | (refine w_q ?_; intro J hJ) | refine e_go ?_); simp [g0, g10, g5, fi, fn, hd, hlt, hM, hcv, hck2, hck]; (repeat refine ca ?_); (try ((try with_reducible refine ⟨?_, ?_⟩) <;> (try with_reducible intro hnil) <;> refine hJ _ _ ?_ <;> clear hJ J <;> simp only [ak, reduceIte] <;> try subst hnil)))))
        refine awp_goto ?_
        simp only [ak, ak_head_goto, ak_blk_goto, ak_code_goto, gq_goto]
        have hnx : FrI l col M t (k + 1) s (upd (upd (upd (upd (upd (upd (upd (upd (upd fr 13 (bb true)) 14 (.ep (u v :: List.drop (j + 1) (List.map u l)))) 15 (u v)) 7 (u v)) 16 (.mp M)) 17 (u v)) 18 (i ((k : Int) + 1))) 19 (i ((k : Int) + 1))) 20 (bb true)) s := by
          refine ⟨by simp [g0], by simp [g1], by simp [g5], rfl, fun m h1 h2 => ?_⟩
          by_cases hm : m = k + 1
          · subst hm; exact ⟨v, hin, hck⟩
          · exact htk m h1 (by omega)
        exact hJG _ _ _ ⟨k + 1, rfl, by omega, hnx⟩
      · have hck2 : (col v == ((k + 1 : Nat) : Int)) = false := by simpa using hck
        have hck3 : (col v == (k : Int) + 1) = false := by simpa using hck
        have hck4 : ¬ col v = (k : Int) + 1 := by simpa using hck
        (repeat' (first | refine awp_seq ?_ | refine awp_block ?_ | ((first | refine awp_skip ?_ | refine awp_exit ?_); simp only [ak, reduceIte]) | (refine awp_ret ?_; simp only [ak, reduceIte]; simp [g0, g10, g5, fi, fn, hd, hlt, hM, hcv, hck2, hck, hck3, hck4]) | (refine awp_cond ?_; simp [g0, g10, g5, fi, fn, hd, hlt, hM, hcv, hck2, hck, hck3, hck4]; (try with_reducible refine ⟨?_, ?_⟩) <;> (try with_reducible intro hc) <;> try (exfalso; omega)) | ((first | (refine w_e [] ?_; intro J hJ; simp only []) | (refine w_q ?_; intro J hJ) | refine e_go ?_); simp [g0, g10, g5, fi, fn, hd, hlt, hM, hcv, hck2, hck, hck3, hck4]; (repeat refine ca ?_); (try ((try with_reducible refine ⟨?_, ?_⟩) <;> (try with_reducible intro hnil) <;> refine hJ _ _ ?_ <;> clear hJ J <;> simp only [ak, reduceIte] <;> try subst hnil)))))
        refine hJO _ _ (by simp [fi]) (by simp [fn]) ⟨by simp [g0], by simp [g1], by simp [g5], by simp [g10], rfl, fun w hw' => ?_⟩
        rw [htk2, List.mem_append, List.mem_singleton] at hw'
        rcases hw' with hw' | rfl
        · exact hno w hw'
        · exact hck
    · rintro fr s ⟨g0, g1, g5, g10, rfl, hno⟩
      rw [List.take_length] at hno
      (repeat' (first | refine awp_seq ?_ | refine awp_block ?_ | ((first | refine awp_skip ?_ | refine awp_exit ?_); simp only [ak, reduceIte]) | (refine awp_ret ?_; simp only [ak, reduceIte]; simp [g5]) | (refine awp_cond ?_; simp [g5]; (try with_reducible refine ⟨?_, ?_⟩) <;> (try with_reducible intro hc) <;> try (exfalso; omega)) | ((first | (refine w_e [] ?_; intro J hJ; simp only []) | (refine w_q ?_; intro J hJ) | refine e_go ?_); simp [g5]; (repeat refine ca ?_); (try ((try with_reducible refine ⟨?_, ?_⟩) <;> (try with_reducible intro hnil) <;> refine hJ _ _ ?_ <;> clear hJ J <;> simp only [ak, reduceIte] <;> try subst hnil)))))
      exact ⟨k + 1, ⟨by omega, hno, fun m h1 h2 => htk m h1 (by omega)⟩, by omega, by simp⟩
  · rintro n fr s ⟨k, rfl, f0, f1, f5, rfl, htk⟩ JG hJG0
    have hkl : k ≤ l.length := taken_le htk
    have hJG : ∀ (m : Nat) (fr' : Frm) (st' : St), (∃ k', m = l.length - k' ∧ k < k' ∧ FrI l col M t k' s fr' st') → JG fr' st' := fun m fr' st' ⟨k', h1, h2, h3⟩ => hJG0 m fr' st' (by have := taken_le h3.2.2.2.2; omega) ⟨k', h1, h3⟩
    have hkl : k ≤ l.length := taken_le htk
    have hw := nat_add_one k (by omega)
    (repeat' (first | refine awp_seq ?_ | refine awp_block ?_ | ((first | refine awp_skip ?_ | refine awp_exit ?_); simp only [ak, reduceIte]) | (refine awp_ret ?_; simp only [ak, reduceIte]; simp [f0, f1, f5, hw]) | (refine awp_cond ?_; simp [f0, f1, f5, hw]; (try with_reducible refine ⟨?_, ?_⟩) <;> (try with_reducible intro hc) <;> try (exfalso; omega)) | ((first | (refine w_e [] ?_; intro J hJ; simp only []) | (refine w_q ?_; intro J hJ) | refine e_go ?_); simp [f0, f1, f5, hw]; (repeat refine ca ?_); (try ((try with_reducible refine ⟨?_, ?_⟩) <;> (try with_reducible intro hnil) <;> refine hJ _ _ ?_ <;> clear hJ J <;> simp only [ak, reduceIte] <;> try subst hnil)))))
    refine awp_range 12 11 13 21 (l.length) (fun j fr st2 => fr 0 = .mp M ∧ fr 1 = .sl t l.length (us l) ∧ fr 5 = i (k + 1 : Nat) ∧ fr 10 = .sl t l.length (us l) ∧ st2 = s ∧ ∀ u ∈ l.take j, col u ≠ (k + 1 : Nat)) ?_ ?_ ?_
    · exact ⟨by simp [f0], by simp [f1], by simp, by simp, rfl, by simp⟩
    · rintro j fr s hlt ⟨g0, g1, g5, g10, rfl, hno⟩ fi fn JO hJO
      have hd := us_drop_getD l j hlt
      have htk2 : l.take (j + 1) = l.take j ++ [l.getD j 0] := by
        rw [List.getD_eq_getElem?_getD, List.getElem?_eq_getElem hlt]; exact List.take_succ_eq_append_getElem hlt
      have hin : l.getD j 0 ∈ l := by
        rw [List.getD_eq_getElem?_getD, List.getElem?_eq_getElem hlt]; exact List.getElem_mem _
      generalize l.getD j 0 = v at *
      have hcv := hcol v hin
      by_cases hck : col v = (k + 1 : Nat)
      · have hck2 : (col v == ((k + 1 : Nat) : Int)) = true := by simpa using hck
        (repeat' (first | refine awp_seq ?_ | refine awp_block ?_ | ((first | refine awp_skip ?_ | refine awp_exit ?_); simp only [ak, reduceIte]) | (refine awp_ret ?_; simp only [ak, reduceIte]; simp [g0, g10, g5, fi, fn, hd, hlt, hM, hcv, hck2, hck]) | (refine awp_cond ?_; simp [g0, g10, g5, fi, fn, hd, hlt, hM, hcv, hck2, hck]; (try with_reducible refine ⟨?_, ?_⟩) <;> (try with_reducible intro hc) <;> try (exfalso; omega)) | ((first | (refine w_e [] ?_; intro J hJ; simp only []) | (refine w_q ?_; intro J hJ) | refine e_go ?_); simp [g0, g10, g5, fi, fn, hd, hlt, hM, hcv, hck2, hck]; (repeat refine ca ?_); (try ((try with_reducible refine ⟨?_, ?_⟩) <;> (try with_reducible intro hnil) <;> refine hJ _ _ ?_ <;> clear hJ J <;> simp only [ak, reduceIte] <;> try subst hnil)))))
        refine awp_goto ?_
        simp only [ak, ak_head_goto, ak_blk_goto, ak_code_goto, gq_goto]
        have hnx : FrI l col M t (k + 1) s (upd (upd (upd (upd (upd (upd (upd (upd (upd fr 13 (bb true)) 14 (.ep (u v :: List.drop (j + 1) (List.map u l)))) 15 (u v)) 7 (u v)) 16 (.mp M)) 17 (u v)) 18 (i ((k : Int) + 1))) 19 (i ((k : Int) + 1))) 20 (bb true)) s := by
          refine ⟨by simp [g0], by simp [g1], by simp [g5], rfl, fun m h1 h2 => ?_⟩
          by_cases hm : m = k + 1
          · subst hm; exact ⟨v, hin, hck⟩
          · exact htk m h1 (by omega)
        exact hJG _ _ _ ⟨k + 1, rfl, by omega, hnx⟩
      · have hck2 : (col v == ((k + 1 : Nat) : Int)) = false := by simpa using hck
        have hck3 : (col v == (k : Int) + 1) = false := by simpa using hck
        have hck4 : ¬ col v = (k : Int) + 1 := by simpa using hck
        (repeat' (first | refine awp_seq ?_ | refine awp_block ?_ | ((first | refine awp_skip ?_ | refine awp_exit ?_); simp only [ak, reduceIte]) | (refine awp_ret ?_; simp only [ak, reduceIte]; simp [g0, g10, g5, fi, fn, hd, hlt, hM, hcv, hck2, hck, hck3, hck4]) | (refine awp_cond ?_; simp [g0, g10, g5, fi, fn, hd, hlt, hM, hcv, hck2, hck, hck3, hck4]; (try with_reducible refine ⟨?_, ?_⟩) <;> (try with_reducible intro hc) <;> try (exfalso; omega)) | ((first | (refine w_e [] ?_; intro J hJ; simp only []) | (refine w_q ?_; intro J hJ) | refine e_go ?_); simp [g0, g10, g5, fi, fn, hd, hlt, hM, hcv, hck2, hck, hck3, hck4]; (repeat refine ca ?_); (try ((try with_reducible refine ⟨?_, ?_⟩) <;> (try with_reducible intro hnil) <;> refine hJ _ _ ?_ <;> clear hJ J <;> simp only [ak, reduceIte] <;> try subst hnil)))))
        refine hJO _ _ (by simp [fi]) (by simp [fn]) ⟨by simp [g0], by simp [g1], by simp [g5], by simp [g10], rfl, fun w hw' => ?_⟩
        rw [htk2, List.mem_append, List.mem_singleton] at hw'
        rcases hw' with hw' | rfl
        · exact hno w hw'
        · exact hck
    · rintro fr s ⟨g0, g1, g5, g10, rfl, hno⟩
      rw [List.take_length] at hno
      (repeat' (first | refine awp_seq ?_ | refine awp_block ?_ | ((first | refine awp_skip ?_ | refine awp_exit ?_); simp only [ak, reduceIte]) | (refine awp_ret ?_; simp only [ak, reduceIte]; simp [g5]) | (refine awp_cond ?_; simp [g5]; (try with_reducible refine ⟨?_, ?_⟩) <;> (try with_reducible intro hc) <;> try (exfalso; omega)) | ((first | (refine w_e [] ?_; intro J hJ; simp only []) | (refine w_q ?_; intro J hJ) | refine e_go ?_); simp [g5]; (repeat refine ca ?_); (try ((try with_reducible refine ⟨?_, ?_⟩) <;> (try with_reducible intro hnil) <;> refine hJ _ _ ?_ <;> clear hJ J <;> simp only [ak, reduceIte] <;> try subst hnil)))))
      exact ⟨k + 1, ⟨by omega, hno, fun m h1 h2 => htk m h1 (by omega)⟩, by omega, by simp⟩

end Go.Proofs.YtomfeddgeihipaaGreat.Aw

namespace Go.Proofs.YtomfeddgeihipaaGreat.Aw
open Go Go.RowKit Go.Proofs.YtomfeddgeihipaaGreat.Pl
set_option linter.unusedSimpArgs false
set_option linter.unusedVariables false

/-! ### the least number that stands twice -/
/-- b is the least number that stands twice; 0: there is none. -/
def MinDup (c : List Int) (b : Int) : Prop := (b = 0 ∧ ∀ d, c.count d ≤ 1) ∨ (b ≠ 0 ∧ 2 ≤ c.count b ∧ ∀ d, 2 ≤ c.count d → b ≤ d)
theorem MinDup.unique {c : List Int} {a b : Int} (h : MinDup c a) (k : MinDup c b) : a = b := by
  rcases h with ⟨h1, h2⟩ | ⟨h1, h2, h3⟩ <;> rcases k with ⟨k1, k2⟩ | ⟨k1, k2, k3⟩
  · omega
  · have := h2 b; omega
  · have := k2 a; omega
  · have := h3 b k2; have := k3 a h2; omega
theorem MinDup.perm {c d : List Int} {b : Int} (h : MinDup c b) (p : c.Perm d) : MinDup d b := by
  have e : ∀ x, d.count x = c.count x := fun x => (p.count_eq x).symm
  rcases h with ⟨h1, h2⟩ | ⟨h1, h2, h3⟩
  · exact .inl ⟨h1, fun x => by rw [e]; exact h2 x⟩
  · exact .inr ⟨h1, by rw [e]; exact h2, fun x hx => h3 x (by rw [← e]; exact hx)⟩
theorem MinDup.nil : MinDup [] 0 := .inl ⟨rfl, fun _ => by simp⟩
/-! ### rising rows are told by what is in them -/
theorem rise_eq {α : Type} (f : α → Int) : ∀ {a b : List α}, (a.map f).Pairwise (· < ·) → (b.map f).Pairwise (· < ·) → (∀ x, x ∈ a ↔ x ∈ b) → a = b
  | [], [], _, _, _ => rfl
  | [], y :: b, _, _, h => by have := (h y).2 (by simp); simp at this
  | x :: a, [], _, _, h => by have := (h x).1 (by simp); simp at this
  | x :: a, y :: b, ha, hb, h => by
    simp only [List.map_cons, List.pairwise_cons, List.mem_map, forall_exists_index, and_imp, forall_apply_eq_imp_iff₂] at ha hb
    have hxy : x = y := by
      rcases List.mem_cons.1 ((h x).1 (by simp)) with h1 | h1
      · exact h1
      · rcases List.mem_cons.1 ((h y).2 (by simp)) with h2 | h2
        · exact h2.symm
        · have := ha.1 y h2; have := hb.1 x h1; omega
    subst hxy
    congr 1
    refine rise_eq f ha.2 hb.2 fun z => ?_
    have hz := h z
    rw [List.mem_cons, List.mem_cons] at hz
    constructor
    · intro hza
      rcases hz.1 (.inr hza) with h1 | h1
      · subst h1; have := ha.1 z hza; omega
      · exact h1
    · intro hzb
      rcases hz.2 (.inr hzb) with h1 | h1
      · subst h1; have := hb.1 z hzb; omega
      · exact h1

/-! ### a thing laid into a rising row -/
section
variable {α : Type} (f : α → Int)
def ins1 (v : α) : List α → List α
  | [] => [v]
  | x :: t => if f v < f x then v :: x :: t else x :: ins1 v t
def insU (v : α) (l : List α) : List α := if l.any fun x => decide (f x = f v) then l else ins1 f v l
/-- All of a row, laid one by one. -/
def insAll (l : List α) : List α := l.foldl (fun c v => insU f v c) []
end

end Go.Proofs.YtomfeddgeihipaaGreat.Aw

namespace Go.Proofs.YtomfeddgeihipaaGreat.Aw
open Go Go.RowKit Go.Proofs.YtomfeddgeihipaaGreat.Pl
set_option linter.unusedSimpArgs false
set_option linter.unusedVariables false

theorem snocI {α : Type} {P : List α → Prop} (h0 : P []) (h1 : ∀ l x, P l → P (l ++ [x])) (l : List α) : P l := by
  rw [← List.reverse_reverse l]
  generalize l.reverse = r
  induction r with
  | nil => exact h0
  | cons x r ih => rw [List.reverse_cons]; exact h1 _ _ ih

def bes (x y : Ed) : Bool := decide (x.a = y.a ∧ x.b = y.b ∨ x.a = y.b ∧ x.b = y.a)
theorem bes_iff {x y : Ed} : bes x y = true ↔ (x.a = y.a ∧ x.b = y.b ∨ x.a = y.b ∧ x.b = y.a) := by simp [bes]
theorem bes_symm {x y : Ed} (h : bes x y = true) : bes y x = true := by
  rw [bes_iff] at h ⊢
  rcases h with ⟨h1, h2⟩ | ⟨h1, h2⟩
  · exact .inl ⟨h1.symm, h2.symm⟩
  · exact .inr ⟨h2.symm, h1.symm⟩
theorem bes_refl (x : Ed) : bes x x = true := by rw [bes_iff]; exact .inl ⟨rfl, rfl⟩
theorem bes_trans {x y z : Ed} (h : bes x y = true) (k : bes y z = true) : bes x z = true := by
  rw [bes_iff] at h k ⊢
  rcases h with ⟨h1, h2⟩ | ⟨h1, h2⟩ <;> rcases k with ⟨k1, k2⟩ | ⟨k1, k2⟩
  · exact .inl ⟨h1.trans k1, h2.trans k2⟩
  · exact .inr ⟨h1.trans k1, h2.trans k2⟩
  · exact .inr ⟨h1.trans k2, h2.trans k1⟩
  · exact .inl ⟨h1.trans k2, h2.trans k1⟩

/-- Of each bundle the first. -/
def sE (l : List Ed) : List Ed := l.foldl (fun acc x => if acc.any (bes x) then acc else acc ++ [x]) []
theorem sE_snoc (l : List Ed) (x : Ed) : sE (l ++ [x]) = if (sE l).any (bes x) then sE l else sE l ++ [x] := by
  simp [sE, List.foldl_append]
theorem sE_sub (l : List Ed) : ∀ x ∈ sE l, x ∈ l := by
  induction l using snocI with
  | h0 => simp [sE]
  | h1 l x ih =>
    intro y hy
    rw [sE_snoc] at hy
    split at hy
    · exact List.mem_append_left _ (ih y hy)
    · rcases List.mem_append.1 hy with h | h
      · exact List.mem_append_left _ (ih y h)
      · exact List.mem_append_right _ h
theorem sE_has (l : List Ed) : ∀ x ∈ l, ∃ y ∈ sE l, bes x y = true := by
  induction l using snocI with
  | h0 => simp
  | h1 l x ih =>
    intro y hy
    rw [sE_snoc]
    rcases List.mem_append.1 hy with h | h
    · obtain ⟨z, h1, h2⟩ := ih y h
      split
      · exact ⟨z, h1, h2⟩
      · exact ⟨z, List.mem_append_left _ h1, h2⟩
    · rw [List.mem_singleton] at h
      subst h
      split
      · rename_i ha
        rw [List.any_eq_true] at ha
        obtain ⟨z, h1, h2⟩ := ha
        exact ⟨z, h1, h2⟩
      · exact ⟨y, List.mem_append_right _ (by simp), bes_refl y⟩
theorem sE_len (l : List Ed) : (sE l).length ≤ l.length := by
  induction l using snocI with
  | h0 => simp [sE]
  | h1 l x ih =>
    rw [sE_snoc]
    split
    · rw [List.length_append]; omega
    · rw [List.length_append, List.length_append]; simp only [List.length_cons, List.length_nil]; omega
theorem sE_apart (l : List Ed) : (sE l).Pairwise fun x y => bes x y = false := by
  induction l using snocI with
  | h0 => simp [sE]
  | h1 l x ih =>
    rw [sE_snoc]
    split
    · exact ih
    · rename_i ha
      rw [List.pairwise_append]
      refine ⟨ih, List.pairwise_singleton _ _, fun y hy z hz => ?_⟩
      rw [List.mem_singleton] at hz
      subst hz
      cases hb : bes y z with
      | false => rfl
      | true => exact absurd (List.any_eq_true.2 ⟨y, hy, bes_symm hb⟩) ha

/-- An edge's two halves. -/
abbrev hf (x : Ed) : List (Int × Int) := [(x.a, x.b), (x.b, x.a)]
def hfs (l : List Ed) : List (Int × Int) := l.flatMap hf
theorem hfs_snoc (l : List Ed) (x : Ed) : hfs (l ++ [x]) = hfs l ++ [(x.a, x.b)] ++ [(x.b, x.a)] := by simp [hfs]
theorem hfs_len (l : List Ed) : (hfs l).length = 2 * l.length := by
  induction l with
  | nil => rfl
  | cons x l ih => simp only [hfs, List.flatMap_cons, List.length_append, List.length_cons, List.length_nil] at ih ⊢; omega
theorem mem_hfs {l : List Ed} {p : Int × Int} : p ∈ hfs l ↔ ∃ x ∈ l, (x.a = p.1 ∧ x.b = p.2) ∨ (x.b = p.1 ∧ x.a = p.2) := by
  obtain ⟨p1, p2⟩ := p
  simp only [hfs, List.mem_flatMap, List.mem_cons, List.not_mem_nil, or_false, Prod.mk.injEq]
  constructor
  · rintro ⟨x, hx, ⟨rfl, rfl⟩ | ⟨rfl, rfl⟩⟩
    · exact ⟨x, hx, .inl ⟨rfl, rfl⟩⟩
    · exact ⟨x, hx, .inr ⟨rfl, rfl⟩⟩
  · rintro ⟨x, hx, ⟨rfl, rfl⟩ | ⟨rfl, rfl⟩⟩
    · exact ⟨x, hx, .inl ⟨rfl, rfl⟩⟩
    · exact ⟨x, hx, .inr ⟨rfl, rfl⟩⟩

/-- What stands beside a number. -/
def nbH (v : Int) (H : List (Int × Int)) : List Int := (H.filter fun p => decide (p.1 = v)).map (·.2)
theorem nbH_snoc (v : Int) (H : List (Int × Int)) (p : Int × Int) : nbH v (H ++ [p]) = nbH v H ++ if p.1 = v then [p.2] else [] := by
  unfold nbH
  rw [List.filter_append, List.map_append]
  by_cases h : p.1 = v
  · simp [h]
  · simp [h]
theorem nbH_len (v : Int) (H : List (Int × Int)) : (nbH v H).length ≤ H.length := by
  unfold nbH
  rw [List.length_map]
  exact List.length_filter_le _ _
theorem mem_nbH {v w : Int} {H : List (Int × Int)} : w ∈ nbH v H ↔ (v, w) ∈ H := by
  unfold nbH
  simp only [List.mem_map, List.mem_filter, decide_eq_true_eq]
  constructor
  · rintro ⟨p, ⟨h1, h2⟩, h3⟩
    subst h2 h3
    exact h1
  · intro h
    exact ⟨(v, w), ⟨h, rfl⟩, rfl⟩

/-- A row put in order. -/
def insI (x : Int) : List Int → List Int
  | [] => [x]
  | y :: l => if x ≤ y then x :: y :: l else y :: insI x l
def srt : List Int → List Int
  | [] => []
  | x :: l => insI x (srt l)
theorem insI_perm (x : Int) (l : List Int) : (insI x l).Perm (x :: l) := by
  induction l with
  | nil => exact .refl _
  | cons y l ih =>
    unfold insI
    split
    · exact .refl _
    · exact (ih.cons y).trans (.swap x y l)
theorem srt_perm (l : List Int) : (srt l).Perm l := by
  induction l with
  | nil => exact .refl _
  | cons x l ih => exact (insI_perm x _).trans (ih.cons x)
theorem insI_sorted (x : Int) {l : List Int} (h : l.Pairwise (· ≤ ·)) : (insI x l).Pairwise (· ≤ ·) := by
  induction l with
  | nil => exact List.pairwise_singleton _ _
  | cons y l ih =>
    have h' := List.pairwise_cons.1 h
    unfold insI
    split
    · rename_i hxy
      refine List.pairwise_cons.2 ⟨fun z hz => ?_, h⟩
      rcases List.mem_cons.1 hz with rfl | hz
      · exact hxy
      · have := h'.1 z hz; omega
    · rename_i hxy
      refine List.pairwise_cons.2 ⟨fun z hz => ?_, ih h'.2⟩
      rcases List.mem_cons.1 ((insI_perm x l).mem_iff.1 hz) with rfl | hz
      · omega
      · exact h'.1 z hz
theorem srt_sorted (l : List Int) : (srt l).Pairwise (· ≤ ·) := by
  induction l with
  | nil => exact .nil
  | cons x l ih => exact insI_sorted x ih
theorem sorted_unique : ∀ {a b : List Int}, a.Pairwise (· ≤ ·) → b.Pairwise (· ≤ ·) → a.Perm b → a = b
  | [], b, _, _, h => by rw [h.nil_eq]
  | x :: a, [], _, _, h => absurd h.symm.nil_eq (by simp)
  | x :: a, y :: b, ha, hb, h => by
    obtain ⟨a1, a2⟩ := List.pairwise_cons.1 ha
    obtain ⟨b1, b2⟩ := List.pairwise_cons.1 hb
    have hxy : x = y := by
      have h1 : x ∈ y :: b := h.mem_iff.1 (by simp)
      have h2 : y ∈ x :: a := h.mem_iff.2 (by simp)
      rcases List.mem_cons.1 h1 with h1 | h1
      · exact h1
      · rcases List.mem_cons.1 h2 with h2 | h2
        · exact h2.symm
        · have := b1 x h1
          have := a1 y h2
          omega
    subst hxy
    rw [sorted_unique a2 b2 ((List.perm_cons x).1 h)]
theorem srt_of {c l : List Int} (h : c.Perm l) (hs : c.Pairwise (· ≤ ·)) : c = srt l := sorted_unique hs (srt_sorted l) (h.trans (srt_perm l).symm)

/-- Who has an edge with a vertex, rising. -/
def nearF (es : List Ed) (v : Int) : List Int := srt (nbH v (hfs (sE es)))
def adj (es : List Ed) (v w : Int) : Prop := ∃ x ∈ es, (x.a = v ∧ x.b = w) ∨ (x.a = w ∧ x.b = v)
theorem adj_symm {es : List Ed} {v w : Int} (h : adj es v w) : adj es w v := by
  obtain ⟨x, hx, h⟩ := h
  exact ⟨x, hx, h.symm⟩
theorem mem_nearF {es : List Ed} {v w : Int} : w ∈ nearF es v ↔ adj es v w := by
  unfold nearF
  rw [(srt_perm _).mem_iff, mem_nbH, mem_hfs]
  constructor
  · rintro ⟨x, hx, h⟩
    refine ⟨x, sE_sub _ _ hx, ?_⟩
    rcases h with ⟨h1, h2⟩ | ⟨h1, h2⟩
    · exact .inl ⟨h1, h2⟩
    · exact .inr ⟨h2, h1⟩
  · rintro ⟨x, hx, h⟩
    obtain ⟨y, hy, hb⟩ := sE_has _ _ hx
    refine ⟨y, hy, ?_⟩
    rw [bes_iff] at hb
    rcases h with ⟨h1, h2⟩ | ⟨h1, h2⟩ <;> rcases hb with ⟨b1, b2⟩ | ⟨b1, b2⟩
    · exact .inl ⟨b1.symm.trans h1, b2.symm.trans h2⟩
    · exact .inr ⟨b1.symm.trans h1, b2.symm.trans h2⟩
    · exact .inr ⟨b2.symm.trans h2, b1.symm.trans h1⟩
    · exact .inl ⟨b2.symm.trans h2, b1.symm.trans h1⟩
theorem nbH_nodup {l : List Ed} (hne : ∀ x ∈ l, x.a ≠ x.b) (v : Int) : (nbH v (hfs (sE l))).Nodup := by
  induction l using snocI with
  | h0 => simp [sE, hfs, nbH]
  | h1 l x ih =>
    have ih := ih fun y hy => hne y (List.mem_append_left _ hy)
    have hx := hne x (by simp)
    rw [sE_snoc]
    split
    · exact ih
    · rename_i ha
      have hno : ∀ w, (x.a = v ∧ x.b = w) ∨ (x.b = v ∧ x.a = w) → w ∉ nbH v (hfs (sE l)) := by
        intro w hw hin
        rw [mem_nbH, mem_hfs] at hin
        obtain ⟨y, hy, h⟩ := hin
        refine ha (List.any_eq_true.2 ⟨y, hy, bes_iff.2 ?_⟩)
        simp only at h
        rcases hw with ⟨rfl, rfl⟩ | ⟨rfl, rfl⟩ <;> rcases h with ⟨h1, h2⟩ | ⟨h1, h2⟩
        · exact .inl ⟨h1.symm, h2.symm⟩
        · exact .inr ⟨h1.symm, h2.symm⟩
        · exact .inr ⟨h2.symm, h1.symm⟩
        · exact .inl ⟨h2.symm, h1.symm⟩
      rw [hfs_snoc, nbH_snoc, nbH_snoc]
      simp only
      by_cases h1 : x.a = v
      · have h2 : ¬ x.b = v := fun h => hx (h1.trans h.symm)
        rw [if_pos h1, if_neg h2, List.append_nil, List.nodup_append]
        exact ⟨ih, by simp, fun a ha b hb => by rw [List.mem_singleton] at hb; subst hb; rintro rfl; exact hno _ (.inl ⟨h1, rfl⟩) ha⟩
      · rw [if_neg h1, List.append_nil]
        by_cases h2 : x.b = v
        · rw [if_pos h2, List.nodup_append]
          exact ⟨ih, by simp, fun a ha b hb => by rw [List.mem_singleton] at hb; subst hb; rintro rfl; exact hno _ (.inr ⟨h2, rfl⟩) ha⟩
        · rw [if_neg h2, List.append_nil]; exact ih
theorem nearF_lt {es : List Ed} (hne : ∀ x ∈ es, x.a ≠ x.b) (v : Int) : (nearF es v).Pairwise (· < ·) := by
  have h1 := srt_sorted (nbH v (hfs (sE es)))
  have h2 : (nearF es v).Nodup := (srt_perm _).nodup_iff.2 (nbH_nodup hne v)
  exact (h1.and h2).imp fun ⟨a, b⟩ => by omega
instance (es : List Ed) (v w : Int) : Decidable (adj es v w) := by unfold adj; exact inferInstance
theorem nearF_eq {es : List Ed} {vs : List Int} (hne : ∀ x ∈ es, x.a ≠ x.b) (hr : vs.Pairwise (· < ·)) (hin : ∀ x ∈ es, x.a ∈ vs ∧ x.b ∈ vs) (v : Int) : nearF es v = vs.filter fun w => decide (adj es v w) := by
  refine rise_eq id (by simpa using nearF_lt hne v) (by simpa using hr.filter _) fun w => ?_
  rw [mem_nearF, List.mem_filter, decide_eq_true_eq]
  constructor
  · intro h
    refine ⟨?_, h⟩
    obtain ⟨x, hx, ⟨_, h2⟩ | ⟨h1, _⟩⟩ := h
    · rw [← h2]; exact (hin x hx).2
    · rw [← h1]; exact (hin x hx).1
  · exact fun h => h.2
theorem nearF_len (es : List Ed) (v : Int) : (nearF es v).length ≤ 2 * es.length := by
  have h1 := (srt_perm (nbH v (hfs (sE es)))).length_eq
  have h2 := nbH_len v (hfs (sE es))
  have h3 := hfs_len (sE es)
  have h4 := sE_len es
  unfold nearF
  omega

end Go.Proofs.YtomfeddgeihipaaGreat.Aw

namespace Go.Proofs.YtomfeddgeihipaaGreat.Aw
open Go Go.RowKit Go.Proofs.YtomfeddgeihipaaGreat.Pl
set_option linter.unusedSimpArgs false
set_option linter.unusedVariables false

/-- A pair of ends as a map's key. -/
def kE (x : Ed) : List Int := [if x.b < x.a then x.b else x.a, if x.a < x.b then x.b else x.a]
theorem kE_iff (x y : Ed) : kE x = kE y ↔ bes x y = true := by
  rw [bes_iff]
  unfold kE
  simp only [List.cons.injEq, and_true]
  constructor
  · rintro ⟨h1, h2⟩
    split at h1 <;> split at h1 <;> split at h2 <;> split at h2 <;> omega
  · rintro (⟨h1, h2⟩ | ⟨h1, h2⟩)
    · rw [h1, h2]; exact ⟨rfl, rfl⟩
    · rw [h1, h2]
      constructor
      · split <;> split <;> omega
      · split <;> split <;> omega

def bnd (l : List Ed) : List (List Int) := (sE l).map fun y => (l.filter fun x => bes y x).map (·.id)
theorem bnd_len (l : List Ed) : (bnd l).length = (sE l).length := by simp [bnd]
theorem bnd_new {l : List Ed} {x : Ed} (h : (sE l).any (bes x) = false) : sE (l ++ [x]) = sE l ++ [x] ∧ bnd (l ++ [x]) = bnd l ++ [[x.id]] := by
  have h' : ∀ y ∈ sE l, bes x y = false := fun y hy => by
    cases hb : bes x y with
    | false => rfl
    | true => rw [List.any_eq_true.2 ⟨y, hy, hb⟩] at h; cases h
  have hs : sE (l ++ [x]) = sE l ++ [x] := by rw [sE_snoc, h]; rfl
  refine ⟨hs, ?_⟩
  unfold bnd
  rw [hs, List.map_append]
  congr 1
  · refine List.map_congr_left fun y hy => ?_
    have : bes y x = false := by
      cases hb : bes y x with
      | false => rfl
      | true => have := h' y hy; rw [bes_symm hb] at this; cases this
    rw [List.filter_append]
    simp [this]
  · have : l.filter (fun z => bes x z) = [] := by
      rw [List.filter_eq_nil_iff]
      intro z hz hb
      obtain ⟨y, hy, h2⟩ := sE_has l z hz
      have := h' y hy
      rw [bes_trans hb h2] at this; cases this
    simp [List.filter_append, this, bes_refl]
theorem bnd_old {l : List Ed} {x : Ed} (h : (sE l).any (bes x) = true) : sE (l ++ [x]) = sE l ∧ ∃ L1 y L2 B1 r B2, sE l = L1 ++ y :: L2 ∧ bes x y = true ∧ bnd l = B1 ++ r :: B2 ∧ B1.length = L1.length ∧ bnd (l ++ [x]) = B1 ++ (r ++ [x.id]) :: B2 ∧ r.length ≤ l.length := by
  have hs : sE (l ++ [x]) = sE l := by rw [sE_snoc, h]; rfl
  refine ⟨hs, ?_⟩
  obtain ⟨y, hy, hb⟩ := List.any_eq_true.1 h
  obtain ⟨L1, L2, hL⟩ := List.append_of_mem hy
  have hap := sE_apart l
  rw [hL, List.pairwise_append, List.pairwise_cons] at hap
  obtain ⟨_, ⟨p2, _⟩, p3⟩ := hap
  have hno : ∀ z, (z ∈ L1 ∨ z ∈ L2) → bes z x = false := by
    intro z hz
    cases hzx : bes z x with
    | false => rfl
    | true =>
      have hzy := bes_trans hzx hb
      rcases hz with hz | hz
      · have := p3 z hz y (by simp); rw [hzy] at this; cases this
      · have := p2 z hz; rw [bes_symm hzy] at this; cases this
  refine ⟨L1, y, L2, _, _, _, hL, hb, by unfold bnd; rw [hL, List.map_append, List.map_cons], by simp, ?_, ?_⟩
  · unfold bnd
    rw [hs, hL, List.map_append, List.map_cons]
    have e : ∀ L : List Ed, (∀ z ∈ L, bes z x = false) → L.map (fun y => ((l ++ [x]).filter fun x => bes y x).map (·.id)) = L.map fun y => (l.filter fun x => bes y x).map (·.id) := by
      intro L hL
      refine List.map_congr_left fun z hz => ?_
      rw [List.filter_append]
      simp [hL z hz]
    rw [e L1 fun z hz => hno z (.inl hz), e L2 fun z hz => hno z (.inr hz)]
    congr 2
    rw [List.filter_append]
    simp [bes_symm hb]
  · rw [List.length_map]; exact List.length_filter_le _ _

/-- The map of the bundles' places. -/
structure AtM (l : List Ed) (es : List (List Int × LV)) : Prop where
  old : ∀ x L1 y L2, sE l = L1 ++ y :: L2 → bes x y = true → mget es (kE x) = some (i L1.length)
  new : ∀ x, (sE l).any (bes x) = false → mget es (kE x) = none
theorem AtM.nil : AtM [] [] := ⟨fun x L1 y L2 h _ => by simp [sE] at h, fun x _ => rfl⟩
theorem AtM.keep {l : List Ed} {es : List (List Int × LV)} (h : AtM l es) {x : Ed} (hx : sE (l ++ [x]) = sE l) : AtM (l ++ [x]) es :=
  ⟨by rw [hx]; exact h.old, by rw [hx]; exact h.new⟩
theorem AtM.add {l : List Ed} {es : List (List Int × LV)} (h : AtM l es) {x : Ed} (hx : (sE l).any (bes x) = false) : AtM (l ++ [x]) (mset es (kE x) (i (sE l).length)) := by
  have hs := (bnd_new hx).1
  constructor
  · intro z L1 y L2 hL hb
    rw [hs] at hL
    rw [mget_mset]
    rcases List.eq_nil_or_concat L2 with rfl | ⟨L2', y', rfl⟩
    · have := List.append_inj' hL rfl
      obtain ⟨h1, h2⟩ := this
      simp only [List.cons.injEq, and_true] at h2
      subst h1 h2
      rw [if_pos ((kE_iff _ _).2 hb)]
    · rw [List.concat_eq_append, show L1 ++ y :: (L2' ++ [y']) = (L1 ++ y :: L2') ++ [y'] by simp] at hL
      obtain ⟨h1, h2⟩ := List.append_inj' hL rfl
      rw [if_neg, h.old z L1 y L2' h1 hb]
      intro hk
      have hxy := bes_trans (bes_symm ((kE_iff _ _).1 hk)) hb
      rw [List.any_eq_true.2 ⟨y, by rw [h1]; simp, hxy⟩] at hx
      cases hx
  · intro z hz
    rw [hs, List.any_append, Bool.or_eq_false_iff] at hz
    rw [mget_mset, if_neg, h.new z hz.1]
    intro hk
    have := (kE_iff _ _).1 hk
    simp [this] at hz

end Go.Proofs.YtomfeddgeihipaaGreat.Aw
