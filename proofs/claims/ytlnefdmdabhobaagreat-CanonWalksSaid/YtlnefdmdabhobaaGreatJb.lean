/- Graphs: Check, by the program and by the document; the law GraphChecks. Graphs: Ends. Graphs: near, Alone. What hangs together in a graph. No program. Graphs: Parts. Graphs: the document's parts. Graphs: the document's Parts; places of edges. Graphs: Keep. Graphs that may be; what the parts have together. No program. Maps that may be: darts, turns, faces; twice the genus is even, and not less than 0. No program. Plain: things numbered as they are found; a walk over a part's darts. No program. -/
import Derived.Test.YtlnefdmdabhobaaGreatJa
namespace Go.Proofs.YtlnefdmdabhobaaGreat.Aw
open Go Go.RowKit Go.Proofs.YtlnefdmdabhobaaGreat.Pl
set_option linter.unusedSimpArgs false
set_option linter.unusedVariables false

theorem ref_Check (g : Gr) (st : St) (hv : g.vs.length ≤ 1000) (he : g.es.length ≤ 1000) :
    ACalls Tryz.prog 33 [.ag (grL g)] st fun r st' => r = i (chk g) ∧ Keeps st st' := by
  have hsm : small g.vs := by unfold small; omega
  refine acalls_of_body tabOk Tryz.func33 rfl rfl Tryz.ntmps33 (rs := [.tmp 2]) rfl (by simp) ?_
  by_cases h1 : (64 : Int) < (g.vs.length : Int)
  · have : chk g = 6 := by unfold chk; rw [if_pos (by omega)]
    (repeat' (first | refine awp_seq ?_ | (refine awp_ret ?_; simp only [ak, reduceIte]; simp [h1, this]) | (refine awp_cond ?_; simp [h1, this]) | (refine w_e [] ?_; intro J hJ; simp only []; simp [h1, this]; (refine hJ _ _ ?_; clear hJ J; simp only [ak, reduceIte]))))
    exact Keeps.new _ _
  by_cases h2 : (160 : Int) < (g.es.length : Int)
  · have : chk g = 6 := by unfold chk; rw [if_pos (by omega)]
    (repeat' (first | refine awp_seq ?_ | (refine awp_ret ?_; simp only [ak, reduceIte]; simp [h1, h2, this]) | (refine awp_cond ?_; simp [h1, h2, this]) | (refine w_e [] ?_; intro J hJ; simp only []; simp [h1, h2, this]; (refine hJ _ _ ?_; clear hJ J; simp only [ak, reduceIte]))))
    exact Keeps.new _ _
  have hch : chk g = if firstNZ (badV g) g.vs.length ≠ 0 then firstNZ (badV g) g.vs.length else firstNZ (badE g) g.es.length := by unfold chk; rw [if_neg (by omega)]
  (repeat' (first | refine awp_seq ?_ | refine awp_block ?_ | (refine awp_skip ?_; simp only [ak, reduceIte]) | (refine awp_cond ?_; simp [h1, h2]) | (refine w_e [] ?_; intro J hJ; simp only []; simp [h1, h2]; (refine hJ _ _ ?_; clear hJ J; simp only [ak, reduceIte]))))
  refine awp_loop (fun n fr st' => ∃ k : Nat, k ≤ g.vs.length ∧ n = g.vs.length - k ∧ fr 1 = .pt st.next 0 ∧ fr 18 = .sl 0 g.vs.length (us g.vs) ∧ fr 19 = i g.vs.length ∧ fr 20 = i k ∧ st' = st.new (.box 25 2 (grL g)) ∧ ∀ j, j < k → badV g j = 0) g.vs.length ?_ ?_
  · exact ⟨0, by omega, by omega, by simp, by simp, by simp, by simp, rfl, fun j h => by omega⟩
  rintro n fr st' ⟨k, hk, rfl, f1, f18, f19, f20, rfl, hno⟩ JJ hJJ
  by_cases hlt : k < g.vs.length
  · have hd := us_drop_getD g.vs k hlt
    have hw := nat_add_one k (by omega)
    have hbad : badV g k = numb (g.vs.getD k 0) (g.vs.getD (k - 1) 0) (decide (k = 0)) := rfl
    have hnext : badV g k = 0 → ∀ j, j < k + 1 → badV g j = 0 := fun hb j hj => by
      rcases Nat.lt_or_ge j k with h | h
      · exact hno j h
      · obtain rfl : j = k := by omega
        exact hb
    have hret : ∀ v, badV g k = v → v ≠ 0 → chk g = v := fun v h0 h1 => by
      have hf := firstNZ_eq hlt hno h0 h1
      rw [hch, hf, if_pos h1]
    generalize hx : g.vs.getD k 0 = x at *
    by_cases hx1 : x < 1
    · have hr := hret 2 (by rw [hbad]; unfold numb; rw [if_pos (.inl hx1)]) (by decide)
      (repeat' (first | refine awp_seq ?_ | refine awp_block ?_ | (refine awp_skip ?_; simp only [ak, reduceIte]) | (refine awp_ret ?_; simp only [ak, reduceIte]; simp [f1, f18, f19, f20, hlt, hd, hw, hx1, hr]) | (refine awp_cond ?_; simp [f1, f18, f19, f20, hlt, hd, hw, hx1, hr]) | (refine w_e [] ?_; intro J hJ; simp only []; simp [f1, f18, f19, f20, hlt, hd, hw, hx1, hr]; (refine hJ _ _ ?_; clear hJ J; simp only [ak, reduceIte]))))
      exact Keeps.new _ _
    by_cases hx2 : 1048576 < x
    · have hr := hret 2 (by rw [hbad]; unfold numb; rw [if_pos (.inr hx2)]) (by decide)
      (repeat' (first | refine awp_seq ?_ | refine awp_block ?_ | (refine awp_skip ?_; simp only [ak, reduceIte]) | (refine awp_ret ?_; simp only [ak, reduceIte]; simp [f1, f18, f19, f20, hlt, hd, hw, hx1, hx2, hr]) | (refine awp_cond ?_; simp [f1, f18, f19, f20, hlt, hd, hw, hx1, hx2, hr]) | (refine w_e [] ?_; intro J hJ; simp only []; simp [f1, f18, f19, f20, hlt, hd, hw, hx1, hx2, hr]; (refine hJ _ _ ?_; clear hJ J; simp only [ak, reduceIte]))))
      exact Keeps.new _ _
    by_cases h0 : k = 0
    · have hb : badV g k = 0 := by rw [hbad]; unfold numb; rw [if_neg (by simp [hx1, hx2])]; simp [h0]
      have hk0 : ¬ 0 < k := by omega
      (repeat' (first | refine awp_seq ?_ | refine awp_block ?_ | (refine awp_skip ?_; simp only [ak, reduceIte]) | (refine awp_cond ?_; simp [f1, f18, f19, f20, hlt, hd, hw, hx1, hx2, hk0]) | (refine w_e [] ?_; intro J hJ; simp only []; simp [f1, f18, f19, f20, hlt, hd, hw, hx1, hx2, hk0]; (refine hJ _ _ ?_; clear hJ J; simp only [ak, reduceIte]))))
      refine hJJ _ _ _ ?_ ⟨k + 1, by omega, rfl, by simp [f1], by simp [f18], by simp [f19], by simp, rfl, hnext hb⟩
      omega
    · have hk0 : 0 < k := by omega
      have hw1 : IntKind.i64.wrap ((k : Int) - 1) = ((k - 1 : Nat) : Int) := by rw [wrap_i64 _ (by omega) (by omega)]; omega
      have hd1 := us_drop_getD g.vs (k - 1) (by omega)
      have hlt1 : k - 1 < g.vs.length := by omega
      generalize hy : g.vs.getD (k - 1) 0 = y at *
      by_cases hle : x ≤ y
      · have hr := hret 19 (by rw [hbad]; unfold numb; rw [if_neg (by simp [hx1, hx2]), if_pos ⟨by simp [h0], hle⟩]) (by decide)
        (repeat' (first | refine awp_seq ?_ | refine awp_block ?_ | (refine awp_skip ?_; simp only [ak, reduceIte]) | (refine awp_ret ?_; simp only [ak, reduceIte]; simp [f1, f18, f19, f20, hlt, hd, hw, hx1, hx2, hk0, hw1, hd1, hlt1, hle, hr]) | (refine awp_cond ?_; simp [f1, f18, f19, f20, hlt, hd, hw, hx1, hx2, hk0, hw1, hd1, hlt1, hle, hr]) | (refine w_e [] ?_; intro J hJ; simp only []; simp [f1, f18, f19, f20, hlt, hd, hw, hx1, hx2, hk0, hw1, hd1, hlt1, hle, hr]; (refine hJ _ _ ?_; clear hJ J; simp only [ak, reduceIte]))))
        exact Keeps.new _ _
      · have hb : badV g k = 0 := by rw [hbad]; unfold numb; rw [if_neg (by simp [hx1, hx2]), if_neg (by simp [hle])]
        (repeat' (first | refine awp_seq ?_ | refine awp_block ?_ | (refine awp_skip ?_; simp only [ak, reduceIte]) | (refine awp_cond ?_; simp [f1, f18, f19, f20, hlt, hd, hw, hx1, hx2, hk0, hw1, hd1, hlt1, hle]) | (refine w_e [] ?_; intro J hJ; simp only []; simp [f1, f18, f19, f20, hlt, hd, hw, hx1, hx2, hk0, hw1, hd1, hlt1, hle]; (refine hJ _ _ ?_; clear hJ J; simp only [ak, reduceIte]))))
        refine hJJ _ _ _ ?_ ⟨k + 1, by omega, rfl, by simp [f1], by simp [f18], by simp [f19], by simp, rfl, hnext hb⟩
        omega
  have hk' : k = g.vs.length := by omega
  have hz : firstNZ (badV g) g.vs.length = 0 := firstNZ_zero (fun j hj => hno j (by omega))
  rw [hz] at hch
  simp only [ne_eq, not_true_eq_false, if_false] at hch
  clear hJJ hno hz
  have hel := eds_length g.es
  (repeat' (first | refine awp_seq ?_ | refine awp_block ?_ | (refine awp_exit ?_; simp only [ak, reduceIte]) | (refine awp_cond ?_; simp [f1, f18, f19, f20, hlt]) | (refine w_e [] ?_; intro J hJ; simp only []; simp [f1, f18, f19, f20, hlt]; (refine hJ _ _ ?_; clear hJ J; simp only [ak, reduceIte]))))
  refine awp_loop (fun n fr st' => ∃ k : Nat, k ≤ g.es.length ∧ n = g.es.length - k ∧ fr 1 = .pt st.next 0 ∧ fr 45 = .sl 0 g.es.length (eds g.es) ∧ fr 46 = i g.es.length ∧ fr 47 = i k ∧ Keeps (st.new (.box 25 2 (grL g))) st' ∧ ∀ j, j < k → badE g j = 0) g.es.length ?_ ?_
  · exact ⟨0, by omega, by omega, by simp [f1], by simp, by simp, by simp, Keeps.refl _, fun j h => by omega⟩
  clear f1 f18 f19 f20 hlt hk' hk fr k
  rintro n fr st1 ⟨k, hk, rfl, f1, f45, f46, f47, hkp, hno⟩ JJ hJJ
  have hgH : st1.H st.next = .box 25 2 (grL g) := by rw [hkp.H _ (by simp)]; simp
  have hnx : ¬ st.next = st1.next := by have := hkp.next; simp only [new_next] at this; omega
  have hkp0 := (Keeps.new st (.box 25 2 (grL g))).trans hkp
  by_cases hlt : k < g.es.length
  · have hd := eds_drop g.es k hlt
    have hw := nat_add_one k (by omega)
    have hk3 : k * 3 < g.es.length * 3 := by omega
    have hbad : badE g k = (let x := g.es.getD k ed0; let n := numb x.id (g.es.getD (k - 1) ed0).id (decide (k = 0)); if n ≠ 0 then n else if x.a = x.b then 20 else if x.a ∉ g.vs ∨ x.b ∉ g.vs then 21 else 0) := rfl
    have hnext : badE g k = 0 → ∀ j, j < k + 1 → badE g j = 0 := fun hb j hj => by
      rcases Nat.lt_or_ge j k with h | h
      · exact hno j h
      · obtain rfl : j = k := by omega
        exact hb
    have hret : ∀ v, badE g k = v → v ≠ 0 → chk g = v := fun v h0 h1 => by
      rw [hch]; exact firstNZ_eq hlt hno h0 h1
    generalize hx : g.es.getD k ed0 = x at *
    obtain ⟨xi, xa, xb⟩ := x
    simp only at hd hbad
    have hkn := hkp0.trans (Keeps.new _ (.box 50 3 [u xi, u xa, u xb]))
    by_cases hx1 : xi < 1
    · have hn : numb xi (g.es.getD (k - 1) ed0).id (decide (k = 0)) = 2 := by unfold numb; rw [if_pos (.inl hx1)]
      have hr := hret 2 (by rw [hbad, hn]; rfl) (by decide)
      (repeat' (first | refine awp_seq ?_ | refine awp_block ?_ | (refine awp_skip ?_; simp only [ak, reduceIte]) | (refine awp_ret ?_; simp only [ak, reduceIte]; simp [f1, f45, f46, f47, hlt, hd, hw, hel, hk3, hgH, hnx, hx1, hr]) | (refine awp_cond ?_; simp [f1, f45, f46, f47, hlt, hd, hw, hel, hk3, hgH, hnx, hx1, hr]) | (refine w_e [] ?_; intro J hJ; simp only []; simp [f1, f45, f46, f47, hlt, hd, hw, hel, hk3, hgH, hnx, hx1, hr]; (refine hJ _ _ ?_; clear hJ J; simp only [ak, reduceIte]))))
      exact hkn
    by_cases hx2 : 1048576 < xi
    · have hn : numb xi (g.es.getD (k - 1) ed0).id (decide (k = 0)) = 2 := by unfold numb; rw [if_pos (.inr hx2)]
      have hr := hret 2 (by rw [hbad, hn]; rfl) (by decide)
      (repeat' (first | refine awp_seq ?_ | refine awp_block ?_ | (refine awp_skip ?_; simp only [ak, reduceIte]) | (refine awp_ret ?_; simp only [ak, reduceIte]; simp [f1, f45, f46, f47, hlt, hd, hw, hel, hk3, hgH, hnx, hx1, hx2, hr]) | (refine awp_cond ?_; simp [f1, f45, f46, f47, hlt, hd, hw, hel, hk3, hgH, hnx, hx1, hx2, hr]) | (refine w_e [] ?_; intro J hJ; simp only []; simp [f1, f45, f46, f47, hlt, hd, hw, hel, hk3, hgH, hnx, hx1, hx2, hr]; (refine hJ _ _ ?_; clear hJ J; simp only [ak, reduceIte]))))
      exact hkn
    by_cases hnb : numb xi (g.es.getD (k - 1) ed0).id (decide (k = 0)) = 0
    rotate_left
    · -- the number doesn't rise
      have h0 : k ≠ 0 := by rintro rfl; apply hnb; unfold numb; rw [if_neg (by simp [hx1, hx2])]; simp
      have hle : xi ≤ (g.es.getD (k - 1) ed0).id := by
        unfold numb at hnb
        rw [if_neg (by simp [hx1, hx2])] at hnb
        by_cases h : decide (k = 0) = false ∧ xi ≤ (g.es.getD (k - 1) ed0).id
        · exact h.2
        · rw [if_neg h] at hnb; exact absurd rfl hnb
      have hn : numb xi (g.es.getD (k - 1) ed0).id (decide (k = 0)) = 19 := by unfold numb; rw [if_neg (by simp [hx1, hx2]), if_pos ⟨by simp [h0], hle⟩]
      have hr := hret 19 (by rw [hbad, hn]; rfl) (by decide)
      have hk0 : 0 < k := by omega
      have hw1 : IntKind.i64.wrap ((k : Int) - 1) = ((k - 1 : Nat) : Int) := by rw [wrap_i64 _ (by omega) (by omega)]; omega
      have hd1 := eds_drop g.es (k - 1) (by omega)
      have hlt1 : k - 1 < g.es.length := by omega
      have hlt3 : (k - 1) * 3 < g.es.length * 3 := by omega
      generalize hy : g.es.getD (k - 1) ed0 = y at *
      obtain ⟨yi, ya, yb⟩ := y
      simp only at hd1 hle
      (repeat' (first | refine awp_seq ?_ | refine awp_block ?_ | (refine awp_skip ?_; simp only [ak, reduceIte]) | (refine awp_ret ?_; simp only [ak, reduceIte]; simp [f1, f45, f46, f47, hlt, hd, hw, hel, hk3, hgH, hnx, hx1, hx2, hk0, hw1, hd1, hlt1, hlt3, hle, hr]) | (refine awp_cond ?_; simp [f1, f45, f46, f47, hlt, hd, hw, hel, hk3, hgH, hnx, hx1, hx2, hk0, hw1, hd1, hlt1, hlt3, hle, hr]) | ((first | (refine w_e [] ?_; intro J hJ; simp only []) | (refine w_q ?_; intro J hJ)); simp [f1, f45, f46, f47, hlt, hd, hw, hel, hk3, hgH, hnx, hx1, hx2, hk0, hw1, hd1, hlt1, hlt3, hle, hr]; (refine hJ _ _ ?_; clear hJ J; simp only [ak, reduceIte]))))
      exact hkn
    rw [if_neg (fun h => h hnb)] at hbad
    by_cases hab : xa = xb
    · have hr := hret 20 (by rw [hbad, if_pos hab]) (by decide)
      by_cases h0 : k = 0
      · have hk0 : ¬ 0 < k := by omega
        (repeat' (first | refine awp_seq ?_ | refine awp_block ?_ | (refine awp_skip ?_; simp only [ak, reduceIte]) | (refine awp_ret ?_; simp only [ak, reduceIte]; simp [f1, f45, f46, f47, hlt, hd, hw, hel, hk3, hgH, hnx, hx1, hx2, hk0, hab, hr]) | (refine awp_cond ?_; simp [f1, f45, f46, f47, hlt, hd, hw, hel, hk3, hgH, hnx, hx1, hx2, hk0, hab, hr]) | ((first | (refine w_e [] ?_; intro J hJ; simp only []) | (refine w_q ?_; intro J hJ)); simp [f1, f45, f46, f47, hlt, hd, hw, hel, hk3, hgH, hnx, hx1, hx2, hk0, hab, hr]; (refine hJ _ _ ?_; clear hJ J; simp only [ak, reduceIte]))))
        exact hkp0.trans (Keeps.new _ _)
      · have hk0 : 0 < k := by omega
        have hw1 : IntKind.i64.wrap ((k : Int) - 1) = ((k - 1 : Nat) : Int) := by rw [wrap_i64 _ (by omega) (by omega)]; omega
        have hd1 := eds_drop g.es (k - 1) (by omega)
        have hlt1 : k - 1 < g.es.length := by omega
        have hlt3 : (k - 1) * 3 < g.es.length * 3 := by omega
        have hle : ¬ xi ≤ (g.es.getD (k - 1) ed0).id := by
          intro h
          unfold numb at hnb
          rw [if_neg (by simp [hx1, hx2]), if_pos ⟨by simp [h0], h⟩] at hnb
          cases hnb
        generalize hy : g.es.getD (k - 1) ed0 = y at *
        obtain ⟨yi, ya, yb⟩ := y
        simp only at hd1 hle
        (repeat' (first | refine awp_seq ?_ | refine awp_block ?_ | (refine awp_skip ?_; simp only [ak, reduceIte]) | (refine awp_ret ?_; simp only [ak, reduceIte]; simp [f1, f45, f46, f47, hlt, hd, hw, hel, hk3, hgH, hnx, hx1, hx2, hk0, hw1, hd1, hlt1, hlt3, hle, hab, hr]) | (refine awp_cond ?_; simp [f1, f45, f46, f47, hlt, hd, hw, hel, hk3, hgH, hnx, hx1, hx2, hk0, hw1, hd1, hlt1, hlt3, hle, hab, hr]) | ((first | (refine w_e [] ?_; intro J hJ; simp only []) | (refine w_q ?_; intro J hJ)); simp [f1, f45, f46, f47, hlt, hd, hw, hel, hk3, hgH, hnx, hx1, hx2, hk0, hw1, hd1, hlt1, hlt3, hle, hab, hr]; (refine hJ _ _ ?_; clear hJ J; simp only [ak, reduceIte]))))
        exact hkp0.trans (Keeps.new _ _)
    rw [if_neg hab] at hbad
    by_cases h0 : k = 0
    · have hk0 : ¬ 0 < k := by omega
      (repeat' (first | refine awp_seq ?_ | refine awp_block ?_ | (refine awp_skip ?_; simp only [ak, reduceIte]) | (refine awp_cond ?_; simp [f1, f45, f46, f47, hlt, hd, hw, hel, hk3, hgH, hnx, hx1, hx2, hk0, hab]) | ((first | (refine w_e [] ?_; intro J hJ; simp only []) | (refine w_q ?_; intro J hJ)); simp [f1, f45, f46, f47, hlt, hd, hw, hel, hk3, hgH, hnx, hx1, hx2, hk0, hab]; (try (refine hJ _ _ ?_; clear hJ J; simp only [ak, reduceIte])))))
      refine callK_ofE (Has g xa _ hsm) (by simp []) ?_; rintro r st' ⟨rfl, hk1⟩
      have hB1 : st'.H st1.next = .box 50 3 [u xi, u xa, u xb] := by rw [hk1.H _ (by simp)]; simp
      have hgH1 : st'.H st.next = .box 25 2 (grL g) := by
        rw [hk1.H _ (by have := hkp.next; simp only [new_next] at this ⊢; omega), new_H, if_neg hnx]; exact hgH
      have hkp1 := (hkp.trans (Keeps.new _ _)).trans hk1
      have hkp01 := (hkp0.trans (Keeps.new _ _)).trans hk1
      by_cases hma : xa ∈ g.vs
      rotate_left
      · have hr := hret 21 (by rw [hbad, if_pos (.inl hma)]) (by decide)
        (repeat' (first | refine awp_seq ?_ | (refine awp_ret ?_; simp only [ak, reduceIte]; simp [f1, hB1, hgH1, hr, hma]) | (refine awp_cond ?_; simp [f1, hB1, hgH1, hr, hma]) | ((first | (refine w_e [] ?_; intro J hJ; simp only []) | (refine e_go ?_)); simp [f1, hB1, hgH1, hr, hma]; (refine hJ _ _ ?_; clear hJ J; simp only [ak, reduceIte]))))
        exact hkp01
      (refine e_go ?_; simp [f1, hB1, hgH1, hma])
      refine callK_ofE (Has g xb _ hsm) (by simp []) ?_; rintro r st' ⟨rfl, hk2⟩
      by_cases hmb : xb ∈ g.vs
      rotate_left
      · have hr := hret 21 (by rw [hbad, if_pos (.inr hmb)]) (by decide)
        (repeat' (first | refine awp_seq ?_ | (refine awp_ret ?_; simp only [ak, reduceIte]; simp [hr, hmb]) | (refine awp_cond ?_; simp [hr, hmb]) | ((first | (refine w_e [] ?_; intro J hJ; simp only []) | (refine e_go ?_)); simp [hr, hmb]; (refine hJ _ _ ?_; clear hJ J; simp only [ak, reduceIte]))))
        exact hkp01.trans hk2
      have hb' : badE g k = 0 := by rw [hbad, if_neg (by simp [hma, hmb])]
      (repeat' (first | (refine awp_skip ?_; simp only [ak, reduceIte]) | (refine awp_cond ?_; simp [f47, hw, hmb]) | ((first | (refine w_e [] ?_; intro J hJ; simp only []) | (refine e_go ?_)); simp [f47, hw, hmb]; (refine hJ _ _ ?_; clear hJ J; simp only [ak, reduceIte]))))
      refine hJJ _ _ _ ?_ ⟨k + 1, by omega, rfl, by simp [f1], by simp [f45], by simp [f46], by simp, hkp1.trans hk2, hnext hb'⟩
      omega
    · have hk0 : 0 < k := by omega
      have hw1 : IntKind.i64.wrap ((k : Int) - 1) = ((k - 1 : Nat) : Int) := by rw [wrap_i64 _ (by omega) (by omega)]; omega
      have hd1 := eds_drop g.es (k - 1) (by omega)
      have hlt1 : k - 1 < g.es.length := by omega
      have hlt3 : (k - 1) * 3 < g.es.length * 3 := by omega
      have hle : ¬ xi ≤ (g.es.getD (k - 1) ed0).id := by
        intro h
        unfold numb at hnb
        rw [if_neg (by simp [hx1, hx2]), if_pos ⟨by simp [h0], h⟩] at hnb
        cases hnb
      generalize hy : g.es.getD (k - 1) ed0 = y at *
      obtain ⟨yi, ya, yb⟩ := y
      simp only at hd1 hle
      (repeat' (first | refine awp_seq ?_ | refine awp_block ?_ | (refine awp_skip ?_; simp only [ak, reduceIte]) | (refine awp_cond ?_; simp [f1, f45, f46, f47, hlt, hd, hw, hel, hk3, hgH, hnx, hx1, hx2, hk0, hw1, hd1, hlt1, hlt3, hle, hab]) | ((first | (refine w_e [] ?_; intro J hJ; simp only []) | (refine w_q ?_; intro J hJ)); simp [f1, f45, f46, f47, hlt, hd, hw, hel, hk3, hgH, hnx, hx1, hx2, hk0, hw1, hd1, hlt1, hlt3, hle, hab]; (try (refine hJ _ _ ?_; clear hJ J; simp only [ak, reduceIte])))))
      refine callK_ofE (Has g xa _ hsm) (by simp []) ?_; rintro r st' ⟨rfl, hk1⟩
      have hB1 : st'.H st1.next = .box 50 3 [u xi, u xa, u xb] := by rw [hk1.H _ (by simp)]; simp
      have hgH1 : st'.H st.next = .box 25 2 (grL g) := by
        rw [hk1.H _ (by have := hkp.next; simp only [new_next] at this ⊢; omega), new_H, if_neg hnx]; exact hgH
      have hkp1 := (hkp.trans (Keeps.new _ _)).trans hk1
      have hkp01 := (hkp0.trans (Keeps.new _ _)).trans hk1
      by_cases hma : xa ∈ g.vs
      rotate_left
      · have hr := hret 21 (by rw [hbad, if_pos (.inl hma)]) (by decide)
        (repeat' (first | refine awp_seq ?_ | (refine awp_ret ?_; simp only [ak, reduceIte]; simp [f1, hB1, hgH1, hr, hma]) | (refine awp_cond ?_; simp [f1, hB1, hgH1, hr, hma]) | ((first | (refine w_e [] ?_; intro J hJ; simp only []) | (refine e_go ?_)); simp [f1, hB1, hgH1, hr, hma]; (refine hJ _ _ ?_; clear hJ J; simp only [ak, reduceIte]))))
        exact hkp01
      (refine e_go ?_; simp [f1, hB1, hgH1, hma])
      refine callK_ofE (Has g xb _ hsm) (by simp []) ?_; rintro r st' ⟨rfl, hk2⟩
      by_cases hmb : xb ∈ g.vs
      rotate_left
      · have hr := hret 21 (by rw [hbad, if_pos (.inr hmb)]) (by decide)
        (repeat' (first | refine awp_seq ?_ | (refine awp_ret ?_; simp only [ak, reduceIte]; simp [hr, hmb]) | (refine awp_cond ?_; simp [hr, hmb]) | ((first | (refine w_e [] ?_; intro J hJ; simp only []) | (refine e_go ?_)); simp [hr, hmb]; (refine hJ _ _ ?_; clear hJ J; simp only [ak, reduceIte]))))
        exact hkp01.trans hk2
      have hb' : badE g k = 0 := by rw [hbad, if_neg (by simp [hma, hmb])]
      (repeat' (first | (refine awp_skip ?_; simp only [ak, reduceIte]) | (refine awp_cond ?_; simp [f47, hw, hmb]) | ((first | (refine w_e [] ?_; intro J hJ; simp only []) | (refine e_go ?_)); simp [f47, hw, hmb]; (refine hJ _ _ ?_; clear hJ J; simp only [ak, reduceIte]))))
      refine hJJ _ _ _ ?_ ⟨k + 1, by omega, rfl, by simp [f1], by simp [f45], by simp [f46], by simp, hkp1.trans hk2, hnext hb'⟩
      omega
  · have hr : chk g = 0 := by rw [hch]; exact firstNZ_zero (fun j hj => hno j (by omega))
    clear hJJ
    (repeat' (first | refine awp_seq ?_ | (refine awp_exit ?_; simp only [ak, reduceIte]) | (refine awp_ret ?_; simp only [ak, reduceIte]; simp [f1, f45, f46, f47, hlt, hr]) | (refine awp_cond ?_; simp [f1, f45, f46, f47, hlt, hr]) | (refine w_e [] ?_; intro J hJ; simp only []; simp [f1, f45, f46, f47, hlt, hr]; (refine hJ _ _ ?_; clear hJ J; simp only [ak, reduceIte]))))
    exact hkp0

end Go.Proofs.YtlnefdmdabhobaaGreat.Aw

namespace Go.Proofs.YtlnefdmdabhobaaGreat.Aw
open Go Go.RowKit Go.Proofs.YtlnefdmdabhobaaGreat.Pl
set_option linter.unusedSimpArgs false
set_option linter.unusedVariables false

theorem awp_posG {P : Program} {N : Nat} {Q : AQ} {c : Code} {fr : Frm} {st : St} (h : 0 < st.next → AWp P N c Q fr st) : AWp P N c Q fr st :=
  fun a w g hi hr hs hd => h hi.pos a w g hi hr hs hd

def end1 (v : Int) (x : Ed) : List Int := (if x.a = v then [2 * x.id] else []) ++ (if x.b = v then [2 * x.id + 1] else [])
/-- The darts at a vertex. -/
def ends (es : List Ed) (v : Int) : List Int := es.flatMap (end1 v)
theorem flat_takeE (f : Ed → List Int) (l : List Ed) (k : Nat) (hk : k < l.length) : (l.take (k + 1)).flatMap f = (l.take k).flatMap f ++ f (l.getD k ed0) := by
  rw [List.take_succ_eq_append_getElem hk, List.flatMap_append, List.getD_eq_getElem?_getD, List.getElem?_eq_getElem hk]; simp
theorem end1_len (v : Int) (x : Ed) : (end1 v x).length ≤ 2 := by
  unfold end1; split <;> split <;> simp
theorem flat_len (f : Ed → List Int) (hf : ∀ x, (f x).length ≤ 2) (l : List Ed) : (l.flatMap f).length ≤ 2 * l.length := by
  induction l with
  | nil => simp
  | cons x l ih => have := hf x; simp only [List.flatMap_cons, List.length_append, List.length_cons]; omega
def idOk (es : List Ed) : Prop := ∀ x ∈ es, 0 ≤ x.id ∧ x.id ≤ 1048576
theorem idOk.at {es : List Ed} (h : idOk es) (k : Nat) (hk : k < es.length) : 0 ≤ (es.getD k ed0).id ∧ (es.getD k ed0).id ≤ 1048576 := by
  rw [List.getD_eq_getElem?_getD, List.getElem?_eq_getElem hk]; exact h _ (List.getElem_mem hk)
theorem wrap_u32' (n : Int) (h0 : 0 ≤ n) (h1 : n < 4294967296) : IntKind.u32.wrap n = n := by
  rw [wrap_u32]; omega

def OwnAt (t : Nat) (lo : St) (l : List Int) (st : St) : Prop := t ≠ 0 ∧ lo.next ≤ t ∧ t < st.next ∧ st.H t = .own 48 1 l.length ∧ Keeps lo st

theorem ref_Ends (g : Gr) (v : Int) (st : St) (he : g.es.length ≤ 1000) (hid : idOk g.es) :
    ACalls Tryz.prog 52 [.ag (grL g), u v] st fun r st' => (∃ t, r = .sl t (ends g.es v).length (us (ends g.es v))) ∧ Keeps st st' := by
  obtain ⟨vs, l⟩ := g
  simp only at he hid ⊢
  have hel := eds_length l
  have hfl := fun k => flat_len (end1 v) (end1_len v) (l.take k)
  refine acalls_of_body tabOk Tryz.func52 rfl rfl Tryz.ntmps52 (rs := [.tmp 4]) rfl (by simp) ?_
  (repeat' (first | refine awp_seq ?_ | refine awp_block ?_ | (refine w_e [] ?_; intro J hJ; simp only []; simp []; (refine hJ _ _ ?_; clear hJ J; simp only [ak, reduceIte]))))
  refine awp_posG fun hpos => ?_
  refine awp_own 5 48 1 (by simp) ?_
  refine awp_loop (fun n fr st2 => ∃ k : Nat, k ≤ l.length ∧ n = l.length - k ∧ fr 1 = u v ∧ fr 9 = .sl 0 l.length (eds l) ∧ fr 10 = i l.length ∧ fr 11 = i k ∧ ∃ t, fr 5 = .sl t (ends (l.take k) v).length (us (ends (l.take k) v)) ∧ OwnAt t st (ends (l.take k) v) st2) l.length ?_ ?_
  · exact ⟨0, by omega, by omega, by simp, by simp, by simp, by simp, st.next + 1, by simp [ends], by omega, by omega, by simp, by simp [ends], (Keeps.new _ _).trans (Keeps.new _ _)⟩
  rintro n fr st2 ⟨k, hk, rfl, f1, f9, f10, f11, t, f5, ht0, htl, htn, htH, hkp⟩ JJ hJJ
  by_cases hlt : k < l.length
  rotate_left
  · clear hJJ
    have hk' : k = l.length := by omega
    rw [hk', List.take_length] at f5
    (repeat' (first | refine awp_seq ?_ | (refine awp_exit ?_; simp only [ak, reduceIte]) | (refine awp_ret ?_; simp only [ak, reduceIte]; simp [f10, f11, hlt, f5]) | (refine awp_cond ?_; simp [f10, f11, hlt, f5]) | (refine w_e [] ?_; intro J hJ; simp only []; simp [f10, f11, hlt, f5]; (refine hJ _ _ ?_; clear hJ J; simp only [ak, reduceIte]))))
    exact hkp
  have hd := eds_drop l k hlt
  have hw := nat_add_one k (by omega)
  have hk3 : k * 3 < l.length * 3 := by omega
  obtain ⟨hi0, hi1⟩ := hid.at k hlt
  have hst : ends (l.take (k + 1)) v = ends (l.take k) v ++ end1 v (l.getD k ed0) := flat_takeE _ _ _ hlt
  have hle := hfl k
  rw [List.length_take] at hle
  have hle2 : (ends (l.take k) v).length ≤ 2 * min k l.length := hle
  generalize hx : l.getD k ed0 = x at *
  obtain ⟨id, a, b⟩ := x
  simp only at hi0 hi1 hd
  generalize hF : ends (l.take k) v = F at *
  have w1 : IntKind.u32.wrap (2 * id) = 2 * id := wrap_u32' _ (by omega) (by omega)
  have w2 : IntKind.u32.wrap (2 * id + 1) = 2 * id + 1 := wrap_u32' _ (by omega) (by omega)
  have ht2 : ¬ t = st2.next := by omega
  have ht3 : ¬ st2.next = t := by omega
  have ht4 : ¬ t = st2.next + 1 := by omega
  have ht5 : ¬ t = st2.next + 1 + 1 := by omega
  have ht6 : ¬ t = st2.next + 1 + 1 + 1 := by omega
  have hn2 : ¬ st2.next = st2.next + 1 + 1 := by omega
  have hn3 : ¬ st2.next = st2.next + 1 + 1 + 1 := by omega
  have hn4 : ¬ st2.next = st2.next + 1 + 1 + 1 + 1 := by omega
  have hn5 : ¬ st2.next + 1 + 1 = st2.next + 1 + 1 + 1 := by omega
  by_cases ha : a = v
  · by_cases hb : b = v
    · have he1 : end1 v ⟨id, a, b⟩ = [2 * id, 2 * id + 1] := by simp [end1, ha, hb]
      rw [he1] at hst
      (repeat' (first | refine awp_seq ?_ | refine awp_block ?_ | (refine awp_skip ?_; simp only [ak, reduceIte]) | (refine awp_cond ?_; simp [f1, f5, f9, f10, f11, hlt, hd, hw, hel, ha, hb, w1, w2, htH, ht0, ht2, ht3, ht4, hn2, hn3, hn4, hn5, ht5, ht6]) | (refine w_e [] ?_; intro J hJ; simp only []; simp [f1, f5, f9, f10, f11, hlt, hd, hw, hel, ha, hb, w1, w2, htH, ht0, ht2, ht3, ht4, hn2, hn3, hn4, hn5, ht5, ht6]; (repeat refine ca ?_); (refine hJ _ _ ?_; clear hJ J; simp only [ak, reduceIte]))))
      refine hJJ (l.length - (k + 1)) _ _ (by omega) ⟨k + 1, by omega, rfl, by simp [f1], by simp [f9], by simp [f10], by simp, st2.next + 1 + 1 + 1 + 1, by rw [hst]; simp [f5], by omega, by have := hkp.next; omega, by simp <;> omega, by rw [hst]; simp [htH, ht2, ht4, hn2, hn3, hn4, hn5], ?_⟩
      (repeat (first | exact hkp | (refine Keeps.trans ?_ (Keeps.new _ _)) | (refine Keeps.set ?_ (by have := hkp.next; first | omega | (simp only [new_next, set_next]; omega)) _)))
    · have he1 : end1 v ⟨id, a, b⟩ = [2 * id] := by simp [end1, ha, hb]
      rw [he1] at hst
      (repeat' (first | refine awp_seq ?_ | refine awp_block ?_ | (refine awp_skip ?_; simp only [ak, reduceIte]) | (refine awp_cond ?_; simp [f1, f5, f9, f10, f11, hlt, hd, hw, hel, ha, hb, w1, w2, htH, ht0, ht2, ht3, ht4, hn2, hn3, hn4, hn5, ht5, ht6]) | (refine w_e [] ?_; intro J hJ; simp only []; simp [f1, f5, f9, f10, f11, hlt, hd, hw, hel, ha, hb, w1, w2, htH, ht0, ht2, ht3, ht4, hn2, hn3, hn4, hn5, ht5, ht6]; (repeat refine ca ?_); (refine hJ _ _ ?_; clear hJ J; simp only [ak, reduceIte]))))
      refine hJJ (l.length - (k + 1)) _ _ (by omega) ⟨k + 1, by omega, rfl, by simp [f1], by simp [f9], by simp [f10], by simp, st2.next + 1 + 1, by rw [hst]; simp [f5], by omega, by have := hkp.next; omega, by simp <;> omega, by rw [hst]; simp [htH, ht2, ht4, hn2, hn3, hn4, hn5], ?_⟩
      (repeat (first | exact hkp | (refine Keeps.trans ?_ (Keeps.new _ _)) | (refine Keeps.set ?_ (by have := hkp.next; first | omega | (simp only [new_next, set_next]; omega)) _)))
  · by_cases hb : b = v
    · have he1 : end1 v ⟨id, a, b⟩ = [2 * id + 1] := by simp [end1, ha, hb]
      rw [he1] at hst
      (repeat' (first | refine awp_seq ?_ | refine awp_block ?_ | (refine awp_skip ?_; simp only [ak, reduceIte]) | (refine awp_cond ?_; simp [f1, f5, f9, f10, f11, hlt, hd, hw, hel, ha, hb, w1, w2, htH, ht0, ht2, ht3, ht4, hn2, hn3, hn4, hn5, ht5, ht6]) | (refine w_e [] ?_; intro J hJ; simp only []; simp [f1, f5, f9, f10, f11, hlt, hd, hw, hel, ha, hb, w1, w2, htH, ht0, ht2, ht3, ht4, hn2, hn3, hn4, hn5, ht5, ht6]; (repeat refine ca ?_); (refine hJ _ _ ?_; clear hJ J; simp only [ak, reduceIte]))))
      refine hJJ (l.length - (k + 1)) _ _ (by omega) ⟨k + 1, by omega, rfl, by simp [f1], by simp [f9], by simp [f10], by simp, st2.next + 1 + 1, by rw [hst]; simp [f5], by omega, by have := hkp.next; omega, by simp <;> omega, by rw [hst]; simp [htH, ht2, ht4, hn2, hn3, hn4, hn5], ?_⟩
      (repeat (first | exact hkp | (refine Keeps.trans ?_ (Keeps.new _ _)) | (refine Keeps.set ?_ (by have := hkp.next; first | omega | (simp only [new_next, set_next]; omega)) _)))
    · have he1 : end1 v ⟨id, a, b⟩ = [] := by simp [end1, ha, hb]
      rw [he1] at hst
      (repeat' (first | refine awp_seq ?_ | refine awp_block ?_ | (refine awp_skip ?_; simp only [ak, reduceIte]) | (refine awp_cond ?_; simp [f1, f5, f9, f10, f11, hlt, hd, hw, hel, ha, hb, w1, w2, htH, ht0, ht2, ht3, ht4, hn2, hn3, hn4, hn5, ht5, ht6]) | (refine w_e [] ?_; intro J hJ; simp only []; simp [f1, f5, f9, f10, f11, hlt, hd, hw, hel, ha, hb, w1, w2, htH, ht0, ht2, ht3, ht4, hn2, hn3, hn4, hn5, ht5, ht6]; (refine hJ _ _ ?_; clear hJ J; simp only [ak, reduceIte]))))
      refine hJJ (l.length - (k + 1)) _ _ (by omega) ⟨k + 1, by omega, rfl, by simp [f1], by simp [f9], by simp [f10], by simp, t, by rw [hst]; simp [f5], by omega, by have := hkp.next; omega, by simp <;> omega, by rw [hst]; simp [htH, ht2, ht4, hn2, hn3, hn4, hn5], ?_⟩
      (repeat (first | exact hkp | (refine Keeps.trans ?_ (Keeps.new _ _)) | (refine Keeps.set ?_ (by have := hkp.next; first | omega | (simp only [new_next, set_next]; omega)) _)))

end Go.Proofs.YtlnefdmdabhobaaGreat.Aw

namespace Go.Proofs.YtlnefdmdabhobaaGreat.Aw
open Go Go.RowKit Go.Proofs.YtlnefdmdabhobaaGreat.Pl
set_option linter.unusedSimpArgs false
set_option linter.unusedVariables false

def nbr1 (v : Int) (x : Ed) : List Int := (if x.a = v then [x.b] else []) ++ (if x.b = v then [x.a] else [])
/-- Who is at the other ends of a vertex's edges. -/
def nbr (es : List Ed) (v : Int) : List Int := es.flatMap (nbr1 v)
/-- A map of rows, each with a place of its own. -/
def NearI (lo m : Nat) (es : List (List Int × LV)) (st : St) (f : Int → List Int) (tok : Int → Nat) : Prop :=
  ∀ v, (tok v = 0 → f v = [] ∧ mget es [v] = none) ∧ (tok v ≠ 0 → mget es [v] = some (.sl (tok v) (f v).length (us (f v))) ∧ lo ≤ tok v ∧ tok v < st.next ∧ tok v ≠ m ∧ st.H (tok v) = .own 48 1 (f v).length ∧ ∀ w, tok w = tok v → w = v)

theorem NearI.step {lo m : Nat} {es : List (List Int × LV)} {st st' : St} {f : Int → List Int} {tok : Int → Nat} (h : NearI lo m es st f tok) (a x : Int) (N : Nat) (hN : st.next ≤ N) (hN' : N < st'.next) (hm : m < st.next) (h0 : 0 < st.next) (hlo : lo ≤ st.next)
    (hH : ∀ l, l ≠ tok a → l ≠ m → l < st.next → st'.H l = st.H l) (hO : st'.H N = .own 48 1 ((f a).length + 1)) :
    NearI lo m (mset es [a] (.sl N ((f a).length + 1) (us (f a ++ [x])))) st' (fun v => if v = a then f a ++ [x] else f v) (fun v => if v = a then N else tok v) := by
  intro v
  by_cases hv : v = a
  · subst hv
    simp only [if_true]
    refine ⟨fun h1 => by omega, fun _ => ⟨by rw [mget_mset]; simp, by omega, hN', by omega, by rw [hO]; simp, fun w hw => ?_⟩⟩
    by_cases hwv : w = v
    · exact hwv
    · rw [if_neg hwv] at hw
      by_cases h1 : tok w = 0
      · omega
      · have := ((h w).2 h1).2.2.1; omega
  · simp only [if_neg hv]
    have hne : ¬ ([v] : List Int) = [a] := by simpa using hv
    refine ⟨fun h1 => ⟨((h v).1 h1).1, by rw [mget_mset, if_neg hne]; exact ((h v).1 h1).2⟩, fun h1 => ?_⟩
    obtain ⟨k1, k2, k3, k4, k5, k6⟩ := (h v).2 h1
    refine ⟨by rw [mget_mset, if_neg hne]; exact k1, k2, by omega, k4, ?_, fun w hw => ?_⟩
    · rw [hH (tok v) (fun e => hv (k6 a e.symm).symm) k4 k3]; exact k5
    · by_cases hwa : w = a
      · subst hwa; simp only [if_true] at hw; omega
      · rw [if_neg hwa] at hw; exact k6 w hw

/-- A map whose rows are told. -/
def RowsAt (es : List (List Int × LV)) (f : Int → List Int) : Prop := ∀ v, ∃ t, norm ((mget es [v]).getD .nil) = .sl t (f v).length (us (f v))

def NearJ (n0 m : Nat) (st : St) (l : List Ed) (k : Nat) (id a b : Int) (f : Int → List Int) (fr : Frm) (st2 : St) : Prop :=
  fr 3 = .mp (m) ∧ fr 8 = .sl 0 l.length (eds l) ∧ fr 9 = i l.length ∧ fr 10 = i k ∧ Keeps st st2 ∧ m < st2.next ∧ (∃ q, fr 5 = .pt q 0 ∧ st2.H q = .box 50 3 [u id, u a, u b] ∧ q < st2.next) ∧ ∃ es tok, st2.H (m) = .map false [.u32] es ∧ NearI n0 m es st2 f tok

theorem RowsAt.cases {es : List (List Int × LV)} {f : Int → List Int} (h : RowsAt es f) (v : Int) : ((mget es [v]).getD .nil = .nil ∧ f v = []) ∨ ∃ t, (mget es [v]).getD .nil = .sl t (f v).length (us (f v)) := by
  obtain ⟨t, ht⟩ := h v
  cases hx : (mget es [v]).getD .nil with
  | nil =>
    rw [hx] at ht
    left
    refine ⟨rfl, ?_⟩
    simp only [norm, LV.sl.injEq] at ht
    exact List.eq_nil_of_length_eq_zero ht.2.1.symm
  | _ => rw [hx] at ht; simp [norm] at ht <;> exact .inr ⟨t, by simp [ht]⟩

def alone (g : Gr) : Nat := g.vs.countP fun v => decide (nbr g.es v = [])
end Go.Proofs.YtlnefdmdabhobaaGreat.Aw

namespace Go.Proofs.YtlnefdmdabhobaaGreat.Aw
open Go Go.RowKit Go.Proofs.YtlnefdmdabhobaaGreat.Pl
set_option linter.unusedSimpArgs false
set_option linter.unusedVariables false

inductive Reach (es : List Ed) (v : Int) : Int → Prop
  | refl : Reach es v v
  | step {u w : Int} (h : Reach es v u) (hw : w ∈ nbr es u) : Reach es v w

theorem mem_nbr {es : List Ed} {u w : Int} : w ∈ nbr es u ↔ ∃ x ∈ es, (x.a = u ∧ x.b = w) ∨ (x.b = u ∧ x.a = w) := by
  unfold nbr nbr1
  simp only [List.mem_flatMap, List.mem_append]
  constructor
  · rintro ⟨x, hx, h | h⟩
    · refine ⟨x, hx, .inl ?_⟩
      split at h
      · rename_i h1; simp at h; exact ⟨h1, h.symm⟩
      · cases h
    · refine ⟨x, hx, .inr ?_⟩
      split at h
      · rename_i h1; simp at h; exact ⟨h1, h.symm⟩
      · cases h
  · rintro ⟨x, hx, ⟨h1, h2⟩ | ⟨h1, h2⟩⟩
    · exact ⟨x, hx, .inl (by simp [h1, h2])⟩
    · exact ⟨x, hx, .inr (by simp [h1, h2])⟩
theorem nbr_symm {es : List Ed} {u w : Int} (h : w ∈ nbr es u) : u ∈ nbr es w := by
  rw [mem_nbr] at h ⊢
  obtain ⟨x, hx, ⟨h1, h2⟩ | ⟨h1, h2⟩⟩ := h
  · exact ⟨x, hx, .inr ⟨h2, h1⟩⟩
  · exact ⟨x, hx, .inl ⟨h2, h1⟩⟩
theorem Reach.trans {es : List Ed} {u v w : Int} (h : Reach es u v) (k : Reach es v w) : Reach es u w := by
  induction k with
  | refl => exact h
  | step _ hw ih => exact .step ih hw
theorem Reach.symm {es : List Ed} {u v : Int} (h : Reach es u v) : Reach es v u := by
  induction h with
  | refl => exact .refl
  | step _ hw ih => exact Reach.trans (.step .refl (nbr_symm hw)) ih
theorem Reach.closed {es : List Ed} {v w : Int} {L : Int → Prop} (h : Reach es v w) (hv : L v) (hc : ∀ u, L u → ∀ w ∈ nbr es u, L w) : L w := by
  induction h with
  | refl => exact hv
  | step _ hw ih => exact hc _ ih _ hw

/-- A graph's vertices rise, and edges end at them. -/
structure Good (g : Gr) : Prop where
  rise : g.vs.Pairwise (· < ·)
  ends : ∀ x ∈ g.es, x.a ∈ g.vs ∧ x.b ∈ g.vs
theorem Good.nbr {g : Gr} (h : Good g) {u w : Int} (hw : w ∈ nbr g.es u) : w ∈ g.vs := by
  rw [mem_nbr] at hw
  obtain ⟨x, hx, ⟨_, rfl⟩ | ⟨_, rfl⟩⟩ := hw
  · exact (h.ends x hx).2
  · exact (h.ends x hx).1
theorem Good.reach {g : Gr} (h : Good g) {v w : Int} (hv : v ∈ g.vs) (hr : Reach g.es v w) : w ∈ g.vs := by
  cases hr with
  | refl => exact hv
  | step _ hw => exact h.nbr hw
theorem Good.nodup {g : Gr} (h : Good g) : g.vs.Nodup := h.rise.imp fun h => by omega

/-- A row that has just what hangs together with a vertex, rising. -/
def IsPart (g : Gr) (v : Int) (c : List Int) : Prop := c.Pairwise (· < ·) ∧ ∀ w, w ∈ c ↔ w ∈ g.vs ∧ Reach g.es v w
theorem rise_unique {c d : List Int} (hc : c.Pairwise (· < ·)) (hd : d.Pairwise (· < ·)) (h : ∀ w, w ∈ c ↔ w ∈ d) : c = d :=
  srt_unique (hc.imp fun h => by omega) (hd.imp fun h => by omega) ((List.perm_ext_iff_of_nodup (hc.imp fun h => by omega) (hd.imp fun h => by omega)).2 h)
theorem IsPart.unique {g : Gr} {v : Int} {c d : List Int} (h : IsPart g v c) (k : IsPart g v d) : c = d := rise_unique h.1 k.1 fun w => by rw [h.2, k.2]
/-- Seen from the first vertices. -/
def Seen (g : Gr) (k : Nat) (w : Int) : Prop := ∃ u ∈ g.vs.take k, Reach g.es u w
theorem take_lt {l : List Int} (h : l.Pairwise (· < ·)) {k : Nat} (hk : k < l.length) {u : Int} : u ∈ l.take k ↔ u ∈ l ∧ u < l.getD k 0 := by
  rw [getD_lt _ _ hk]
  constructor
  · intro hu
    obtain ⟨j, hj, rfl⟩ := List.getElem_of_mem hu
    rw [List.length_take] at hj
    rw [List.getElem_take]
    exact ⟨List.getElem_mem _, List.pairwise_iff_getElem.1 h j k (by omega) hk (by omega)⟩
  · rintro ⟨hu, hlt⟩
    obtain ⟨j, hj, rfl⟩ := List.getElem_of_mem hu
    have hjk : j < k := by
      rcases Nat.lt_trichotomy j k with h1 | h1 | h1
      · exact h1
      · subst h1; omega
      · have := List.pairwise_iff_getElem.1 h k j hk hj h1; omega
    rw [List.mem_take_iff_getElem]
    exact ⟨j, by omega, rfl⟩
theorem Seen.reach {g : Gr} {k : Nat} {u w : Int} (h : Seen g k u) (hr : Reach g.es u w) : Seen g k w := by
  obtain ⟨x, hx, hy⟩ := h
  exact ⟨x, hx, hy.trans hr⟩
theorem seen_succ {g : Gr} {k : Nat} (hk : k < g.vs.length) {w : Int} : Seen g (k + 1) w ↔ Seen g k w ∨ Reach g.es (g.vs.getD k 0) w := by
  unfold Seen
  rw [List.take_succ_eq_append_getElem hk, getD_lt _ _ hk]
  constructor
  · rintro ⟨u, hu, hr⟩
    rw [List.mem_append, List.mem_singleton] at hu
    rcases hu with hu | rfl
    · exact .inl ⟨u, hu, hr⟩
    · exact .inr hr
  · rintro (⟨u, hu, hr⟩ | hr)
    · exact ⟨u, List.mem_append_left _ hu, hr⟩
    · exact ⟨_, List.mem_append_right _ (List.mem_singleton.2 rfl), hr⟩
theorem seen_same {g : Gr} {k : Nat} (hk : k < g.vs.length) (hs : Seen g k (g.vs.getD k 0)) {w : Int} : Seen g (k + 1) w ↔ Seen g k w := by
  rw [seen_succ hk]
  exact ⟨fun h => h.elim id hs.reach, .inl⟩

/-- The parts, as they come from the first vertices. -/
inductive PartsTo (g : Gr) : Nat → List (List Int) → Prop
  | zero : PartsTo g 0 []
  | seen {k : Nat} {R : List (List Int)} (h : PartsTo g k R) (hk : k < g.vs.length) (hs : Seen g k (g.vs.getD k 0)) : PartsTo g (k + 1) R
  | lead {k : Nat} {R : List (List Int)} {c : List Int} (h : PartsTo g k R) (hk : k < g.vs.length) (hs : ¬ Seen g k (g.vs.getD k 0)) (hc : IsPart g (g.vs.getD k 0) c) : PartsTo g (k + 1) (R ++ [c])
theorem PartsTo.unique {g : Gr} {k : Nat} {R R' : List (List Int)} (h : PartsTo g k R) (h' : PartsTo g k R') : R = R' := by
  induction h generalizing R' with
  | zero => cases h'; rfl
  | seen _ _ hs ih =>
    cases h' with
    | seen h2 _ _ => exact ih h2
    | lead h2 _ hs2 _ => exact absurd hs hs2
  | lead _ _ hs hc ih =>
    cases h' with
    | seen h2 _ hs2 => exact absurd hs2 hs
    | lead h2 _ _ hc2 => rw [ih h2, hc.unique hc2]
theorem PartsTo.len {g : Gr} {k : Nat} {R : List (List Int)} (h : PartsTo g k R) : R.length ≤ k := by
  induction h with
  | zero => simp
  | seen _ _ _ ih => omega
  | lead _ _ _ _ ih => simp; omega

/-! ### a search -/
structure Srch (g : Gr) (n : Nat) (v : Int) (L : List Int) (k : Nat) : Prop where
  nodup : L.Nodup
  reach : ∀ w ∈ L, Reach g.es v w
  mem : v ∈ L
  done : ∀ u ∈ L.take k, ∀ w ∈ nbr g.es u, w ∈ L
theorem Srch.all {g : Gr} {n : Nat} {v : Int} {L : List Int} (h : Srch g n v L L.length) : ∀ w, w ∈ L ↔ Reach g.es v w := by
  intro w
  refine ⟨h.reach w, fun hr => ?_⟩
  exact hr.closed (L := fun w => w ∈ L) h.mem fun u hu w hw => h.done u (by rw [List.take_length]; exact hu) w hw
theorem Srch.sub {g : Gr} (hg : Good g) {n : Nat} {v : Int} {L : List Int} {k : Nat} (h : Srch g n v L k) (hv : v ∈ g.vs) : L.length ≤ g.vs.length := by
  exact List.Nodup.length_le_of_subset h.nodup fun w hw => hg.reach hv (h.reach w hw)

end Go.Proofs.YtlnefdmdabhobaaGreat.Aw

namespace Go.Proofs.YtlnefdmdabhobaaGreat.Aw
open Go Go.RowKit Go.Proofs.YtlnefdmdabhobaaGreat.Pl
set_option linter.unusedSimpArgs false
set_option linter.unusedVariables false

abbrev rowsL3 (rs : List (List Int)) : List LV := rs.map fun r => .sl 0 r.length (us r)

structure SrchI (g : Gr) (v : Int) (L : List Int) (k : Nat) (x : Int) (j : Nat) : Prop where
  nodup : L.Nodup
  reach : ∀ w ∈ L, Reach g.es v w
  mem : v ∈ L
  done : ∀ u ∈ L.take k, ∀ w ∈ nbr g.es u, w ∈ L
  lt : k < L.length
  at' : L.getD k 0 = x
  some : ∀ w ∈ (nbr g.es x).take j, w ∈ L
theorem Srch.start {g : Gr} {n : Nat} {v : Int} {L : List Int} {k : Nat} (h : Srch g n v L k) (hk : k < L.length) : SrchI g v L k (L.getD k 0) 0 :=
  ⟨h.nodup, h.reach, h.mem, h.done, hk, rfl, fun w hw => by simp at hw⟩
theorem SrchI.skip {g : Gr} {v : Int} {L : List Int} {k : Nat} {x : Int} {j : Nat} (h : SrchI g v L k x j) (hj : j < (nbr g.es x).length) (hw : (nbr g.es x).getD j 0 ∈ L) : SrchI g v L k x (j + 1) := by
  refine ⟨h.nodup, h.reach, h.mem, h.done, h.lt, h.at', fun w hw2 => ?_⟩
  rw [List.take_succ_eq_append_getElem hj, List.mem_append, List.mem_singleton] at hw2
  rcases hw2 with hw2 | rfl
  · exact h.some w hw2
  · rwa [getD_lt _ _ hj] at hw
theorem SrchI.push {g : Gr} {v : Int} {L : List Int} {k : Nat} {x : Int} {j : Nat} (h : SrchI g v L k x j) (hj : j < (nbr g.es x).length) (hw : (nbr g.es x).getD j 0 ∉ L) : SrchI g v (L ++ [(nbr g.es x).getD j 0]) k x (j + 1) := by
  have hx : x ∈ L := by rw [← h.at', getD_lt _ _ h.lt]; exact List.getElem_mem _
  refine ⟨?_, fun w hw2 => ?_, List.mem_append_left _ h.mem, fun u hu w hw2 => ?_, ?_, ?_, fun w hw2 => ?_⟩
  · rw [List.nodup_append]
    refine ⟨h.nodup, by simp, fun a ha b hb => ?_⟩
    rw [List.mem_singleton] at hb
    rintro rfl
    exact hw (hb ▸ ha)
  · rw [List.mem_append, List.mem_singleton] at hw2
    rcases hw2 with hw2 | rfl
    · exact h.reach w hw2
    · exact .step (h.reach x hx) (by rw [getD_lt _ _ hj]; exact List.getElem_mem _)
  · rw [List.take_append_of_le_length (by have := h.lt; omega)] at hu
    exact List.mem_append_left _ (h.done u hu w hw2)
  · have := h.lt; simp; omega
  · rw [← h.at']
    have := h.lt
    simp [List.getD_eq_getElem?_getD, List.getElem?_append_left this]
  · rw [List.take_succ_eq_append_getElem hj, List.mem_append, List.mem_singleton] at hw2
    rw [getD_lt _ _ hj]
    rcases hw2 with hw2 | rfl
    · exact List.mem_append_left _ (h.some w hw2)
    · exact List.mem_append_right _ (List.mem_singleton.2 rfl)
theorem SrchI.len {g : Gr} (hg : Good g) {v : Int} {L : List Int} {k : Nat} {x : Int} {j : Nat} (h : SrchI g v L k x j) (hv : v ∈ g.vs) : L.length ≤ g.vs.length :=
  List.Nodup.length_le_of_subset h.nodup fun w hw => hg.reach hv (h.reach w hw)

/-- Which numbers a map of 1's has. -/
def SeenI (es : List (List Int × LV)) (P : Int → Prop) : Prop := ∀ v, (P v → (mget es [v]).getD (i 0) = i 1) ∧ (¬ P v → (mget es [v]).getD (i 0) = i 0)
theorem SeenI.step {es : List (List Int × LV)} {P P' : Int → Prop} (h : SeenI es P) (w : Int) (hp : ∀ v, P' v ↔ P v ∨ v = w) : SeenI (mset es [w] (i 1)) P' := by
  intro v
  rw [mget_mset]
  by_cases hv : v = w
  · subst hv
    simp only [if_true, Option.getD_some]
    exact ⟨fun _ => by trivial, fun h1 => absurd ((hp v).2 (.inr rfl)) h1⟩
  · rw [if_neg (by simpa using hv), hp]
    exact ⟨fun h1 => (h v).1 (h1.resolve_right hv), fun h1 => (h v).2 fun h2 => h1 (.inl h2)⟩
theorem SeenI.congr {es : List (List Int × LV)} {P P' : Int → Prop} (h : SeenI es P) (hp : ∀ v, P' v ↔ P v) : SeenI es P' := fun v => by rw [hp]; exact h v

def PtF (m ms : Nat) (es : List (List Int × LV)) (n : Nat) (g : Gr) (st : St) (j : Nat) (P : Int → Prop) (fr : Frm) (st2 : St) : Prop :=
  fr 4 = .mp m ∧ fr 5 = .mp ms ∧ fr 16 = .sl 0 g.vs.length (us g.vs) ∧ fr 17 = i g.vs.length ∧ fr 18 = i j ∧ (m < ms ∧ ms < st2.next ∧ st.next ≤ m) ∧ st2.H m = .map false [.u32] es ∧ Keeps st st2 ∧ (∃ es2, st2.H ms = .map false [.u32] es2 ∧ SeenI es2 P) ∧
    ∃ t R, fr 3 = .sl t R.length (rowsL3 R) ∧ PartsTo g j R ∧ t ≠ 0 ∧ st.next ≤ t ∧ t < st2.next ∧ st2.H t = .own 22 1 R.length
def PtL (m ms : Nat) (es : List (List Int × LV)) (n : Nat) (g : Gr) (st : St) (j : Nat) (v : Int) (L : List Int) (fr : Frm) (st2 : St) : Prop :=
  PtF m ms es n g st j (fun w => Seen g j w ∨ w ∈ L) fr st2 ∧ ∃ q, fr 8 = .ms q 0 L.length ∧ st2.H q = .box 48 1 (us L) ∧ st.next ≤ q ∧ q < st2.next

theorem PtL.fr {m ms : Nat} {es : List (List Int × LV)} {n : Nat} {g : Gr} {st : St} {j : Nat} {v : Int} {L : List Int} {fr fr' : Frm} {st2 : St} (h : PtL m ms es n g st j v L fr st2) (h3 : fr' 3 = fr 3) (h4 : fr' 4 = fr 4) (h5 : fr' 5 = fr 5) (h8 : fr' 8 = fr 8) (h16 : fr' 16 = fr 16) (h17 : fr' 17 = fr 17) (h18 : fr' 18 = fr 18) : PtL m ms es n g st j v L fr' st2 := by
  obtain ⟨⟨f4, f5, f16, f17, f18, a, b, c, d, t, R, f3, r⟩, q, f8, r2⟩ := h
  exact ⟨⟨h4.trans f4, h5.trans f5, h16.trans f16, h17.trans f17, h18.trans f18, a, b, c, d, t, R, h3.trans f3, r⟩, q, h8.trans f8, r2⟩

end Go.Proofs.YtlnefdmdabhobaaGreat.Aw

namespace Go.Proofs.YtlnefdmdabhobaaGreat.Aw
open Go Go.RowKit Go.Proofs.YtlnefdmdabhobaaGreat.Pl
set_option linter.unusedSimpArgs false
set_option linter.unusedVariables false

theorem acalls_sl0 {P : Program} {f : FuncId} {args : List LV} {st : St} {Q : LV → St → Prop} (h : ACalls P f args st fun r st' => ∃ t n cs, r = .sl t n cs ∧ Q (.sl 0 n cs) st') : ACalls P f args st Q := by
  refine ⟨h.1, fun w g vs hi hr => (h.2 w g vs hi hr).mono ?_⟩
  rintro x w' ⟨v, r, st', g', rfl, ⟨t, n, cs, rfl, hq⟩, hrep, hi', he⟩
  refine ⟨v, _, st', g', rfl, hq, ?_, hi', he⟩
  simp only [Rep] at hrep ⊢
  obtain ⟨A, cap, h1, h2, h3, h4, h5⟩ := hrep
  exact ⟨A, cap, h1, h2, h3, fun h => absurd rfl h, h5⟩

/-- Which numbers a map of truths has. -/
def InI (es : List (List Int × LV)) (S : List Int) : Prop := ∀ v, (mget es [v]).getD (bb false) = bb (decide (v ∈ S))
theorem InI.step {es : List (List Int × LV)} {S : List Int} (h : InI es S) (w : Int) : InI (mset es [w] (bb true)) (S ++ [w]) := by
  intro v
  rw [mget_mset]
  by_cases hv : v = w
  · subst hv; simp
  · rw [if_neg (by simpa using hv), h v]; simp [hv]
theorem InI.congr {es : List (List Int × LV)} {S S' : List Int} (h : InI es S) (hs : ∀ v, v ∈ S' ↔ v ∈ S) : InI es S' := fun v => by
  rw [h v, show decide (v ∈ S') = decide (v ∈ S) from decide_eq_decide.2 (hs v)]

structure Flood (g : Gr) (v : Int) (S : List Int) : Prop where
  nodup : S.Nodup
  mem : v ∈ S
  reach : ∀ w ∈ S, Reach g.es v w
theorem Flood.len {g : Gr} (hg : Good g) {v : Int} (hv : v ∈ g.vs) {S : List Int} (h : Flood g v S) : S.length ≤ g.vs.length :=
  List.Nodup.length_le_of_subset h.nodup fun w hw => hg.reach hv (h.reach w hw)
theorem Flood.push {g : Gr} {v : Int} {S : List Int} (h : Flood g v S) {x : Ed} (hx : x ∈ g.es) {u w : Int} (hu : u ∈ S) (hw : w ∉ S) (hxw : (x.a = u ∧ x.b = w) ∨ (x.b = u ∧ x.a = w)) : Flood g v (S ++ [w]) := by
  refine ⟨?_, List.mem_append_left _ h.mem, fun z hz => ?_⟩
  · rw [List.nodup_append]
    refine ⟨h.nodup, by simp, fun a ha b hb => ?_⟩
    rw [List.mem_singleton] at hb
    rintro rfl
    exact hw (hb ▸ ha)
  · rw [List.mem_append, List.mem_singleton] at hz
    rcases hz with hz | rfl
    · exact h.reach z hz
    · exact .step (h.reach u hu) (mem_nbr.2 ⟨x, hx, hxw⟩)
def Even (es : List Ed) (S : List Int) : Prop := ∀ x ∈ es, (x.a ∈ S ↔ x.b ∈ S)
theorem Flood.part {g : Gr} (hg : Good g) {v : Int} {S : List Int} (h : Flood g v S) (he : Even g.es S) : IsPart g v (g.vs.filter fun w => decide (w ∈ S)) := by
  refine ⟨hg.rise.filter _, fun w => ?_⟩
  rw [List.mem_filter, decide_eq_true_eq]
  refine ⟨fun hw => ⟨hw.1, h.reach w hw.2⟩, fun hw => ⟨hw.1, ?_⟩⟩
  refine hw.2.closed (L := fun w => w ∈ S) h.mem fun u hu w hw => ?_
  obtain ⟨x, hx, ⟨rfl, rfl⟩ | ⟨rfl, rfl⟩⟩ := mem_nbr.1 hw
  · exact (he x hx).1 hu
  · exact (he x hx).2 hu

def RpI (ms : Nat) (g : Gr) (st : St) (S : List Int) (fr : Frm) (st2 : St) : Prop :=
  fr 2 = .pt st.next 0 ∧ fr 5 = .mp ms ∧ st.next < ms ∧ ms < st2.next ∧ Keeps st st2 ∧ st2.H st.next = .box 25 2 (grL g) ∧ ∃ es, st2.H ms = .map false [.u32] es ∧ InI es S
theorem RpI.fr {ms : Nat} {g : Gr} {st : St} {S : List Int} {fr fr' : Frm} {st2 : St} (h : RpI ms g st S fr st2) (h2 : fr' 2 = fr 2) (h5 : fr' 5 = fr 5) : RpI ms g st S fr' st2 :=
  ⟨h2.trans h.1, h5.trans h.2.1, h.2.2⟩

theorem ref_Part (g : Gr) (v : Int) (st : St) (hg : Good g) (hv : g.vs.length ≤ 1000) (he : g.es.length ≤ 1000) (hvin : v ∈ g.vs) :
    ACalls Tryz.prog 51 [.ag (grL g), u v] st fun r st' => (∃ c, r = .sl 0 c.length (us c) ∧ IsPart g v c) ∧ Keeps st st' := by
  refine acalls_sl0 ?_
  have hel := eds_length g.es
  refine acalls_of_body tabOk Tryz.func51 rfl rfl Tryz.ntmps51 (rs := [.tmp 4]) rfl (by simp) ?_
  (repeat' (first | refine awp_seq ?_ | refine awp_block ?_ | (refine w_e [] ?_; intro J hJ; simp only []; simp []; (refine hJ _ _ ?_; clear hJ J; simp only [ak, reduceIte]))))
  obtain ⟨ms, hms⟩ : ∃ ms, ms = st.next + 1 := ⟨_, rfl⟩
  refine awp_loop (fun z fr st2 => ∃ (gr : Bool) (S : List Int), z = (if gr = true then g.vs.length + 1 - S.length else 0) ∧ fr 6 = bb gr ∧ Flood g v S ∧ (gr = false → Even g.es S) ∧ RpI ms g st S fr st2) g.vs.length ?_ ?_
  · refine ⟨true, [v], by simp, by simp, ⟨by simp, by simp, fun w hw => ?_⟩, fun h => absurd h (by simp), by simp, by simp [hms], by omega, by simp [hms], ?_, by simp, _, by simp [hms]; rfl, fun w => ?_⟩
    · rw [List.mem_singleton] at hw; subst hw; exact .refl
    · (repeat (first | exact Keeps.refl _ | (refine Keeps.trans ?_ (Keeps.new _ _)) | (refine Keeps.set ?_ (by omega) _)))
    · by_cases hw : w = v
      · subst hw; simp [mset, mget]
      · simp [mset, mget, hw]
  rintro z fr st2 ⟨gr, S, rfl, f6, hF, hE, hI⟩ JJ hJJ
  cases gr
  · clear hJJ
    obtain ⟨f2, f5, hm1, hm2, hkp, hG, es, hM, hIn⟩ := hI
    have hpt := hF.part hg (hE rfl)
    (repeat' (first | refine awp_seq ?_ | refine awp_block ?_ | (refine awp_exit ?_; simp only [ak, reduceIte]) | (refine awp_cond ?_; simp [f6, f2, hG]) | (refine w_e [] ?_; intro J hJ; simp only []; simp [f6, f2, hG]; (refine hJ _ _ ?_; clear hJ J; simp only [ak, reduceIte]))))
    refine awp_own 9 48 1 (by simp) ?_
    have hqq : ∀ k, (g.vs.take (k + 1)).filter (fun w => decide (w ∈ S)) = if k < g.vs.length then (if g.vs.getD k 0 ∈ S then (g.vs.take k).filter (fun w => decide (w ∈ S)) ++ [g.vs.getD k 0] else (g.vs.take k).filter (fun w => decide (w ∈ S))) else g.vs.filter (fun w => decide (w ∈ S)) := by
      intro k
      by_cases hk : k < g.vs.length
      · rw [if_pos hk, List.take_succ_eq_append_getElem hk, List.filter_append, getD_lt _ _ hk]
        by_cases h : g.vs[k] ∈ S <;> simp [h]
      · rw [if_neg hk, List.take_of_length_le (by omega)]
    refine awp_loop (fun z fr st3 => ∃ k : Nat, k ≤ g.vs.length ∧ z = g.vs.length - k ∧ fr 5 = .mp ms ∧ fr 40 = .sl 0 g.vs.length (us g.vs) ∧ fr 41 = i g.vs.length ∧ fr 42 = i k ∧ st3.H ms = .map false [.u32] es ∧ ms < st3.next ∧ ∃ t, fr 9 = .sl t ((g.vs.take k).filter fun w => decide (w ∈ S)).length (us ((g.vs.take k).filter fun w => decide (w ∈ S))) ∧ OwnAt t st ((g.vs.take k).filter fun w => decide (w ∈ S)) st3) g.vs.length ?_ ?_
    · have a1 : ¬ ms = st2.next := by omega
      exact ⟨0, by omega, by omega, by simp [f5], by simp, by simp, by simp, by simp [a1, hM], by simp; omega, st2.next, by simp, by omega, by have := hkp.next; omega, by simp, by simp, hkp.trans (Keeps.new _ _)⟩
    clear f2 f5 f6 hM hkp hG fr
    rintro z fr st3 ⟨k, hk, rfl, f5, f40, f41, f42, hM, hm3, t, f9, ht0, htl, htn, htH, hkp⟩ JJ hJJ
    by_cases hlt : k < g.vs.length
    rotate_left
    · clear hJJ
      have hk' : k = g.vs.length := by omega
      rw [hk', List.take_length] at f9
      (repeat' (first | refine awp_seq ?_ | (refine awp_exit ?_; simp only [ak, reduceIte]) | (refine awp_ret ?_; simp only [ak, reduceIte]; simp [f9, f41, f42, hlt]) | (refine awp_cond ?_; simp [f9, f41, f42, hlt]) | (refine w_e [] ?_; intro J hJ; simp only []; simp [f9, f41, f42, hlt]; (refine hJ _ _ ?_; clear hJ J; simp only [ak, reduceIte]))))
      exact ⟨t, _, _, ⟨rfl, rfl, rfl⟩, ⟨_, ⟨rfl, rfl⟩, hpt⟩, hkp⟩
    have hd := us_drop_getD g.vs k hlt
    have hw := nat_add_one k (by omega)
    have hst := hqq k
    rw [if_pos hlt] at hst
    have hle := List.length_filter_le (fun w => decide (w ∈ S)) (g.vs.take k)
    rw [List.length_take] at hle
    generalize hx : g.vs.getD k 0 = x at *
    generalize hFF : (g.vs.take k).filter (fun w => decide (w ∈ S)) = F at *
    have hIx := hIn x
    have ht2 : ¬ t = st3.next := by omega
    by_cases hxS : x ∈ S
    · rw [if_pos hxS] at hst
      rw [decide_eq_true hxS] at hIx
      (repeat' (first | refine awp_seq ?_ | refine awp_block ?_ | (refine awp_skip ?_; simp only [ak, reduceIte]) | (refine awp_cond ?_; simp [f5, f9, f40, f41, f42, hlt, hd, hw, hM, hIx, htH, ht0, ht2]) | (refine w_e [] ?_; intro J hJ; simp only []; simp [f5, f9, f40, f41, f42, hlt, hd, hw, hM, hIx, htH, ht0, ht2]; (repeat refine ca ?_); (refine hJ _ _ ?_; clear hJ J; simp only [ak, reduceIte]))))
      have a1 : ¬ ms = st3.next := by omega
      have a2 : ¬ ms = st3.next + 1 := by omega
      have a3 : ¬ ms = t := fun h => by rw [h, htH] at hM; cases hM
      exact hJJ (g.vs.length - (k + 1)) _ _ (by omega) ⟨k + 1, by omega, rfl, by simp [f5], by simp [f40], by simp [f41], by simp, by simp [a1, a2, a3, hM], by simp; omega, st3.next + 1, by rw [hst]; simp, by omega, by omega, by simp, by rw [hst]; simp, (by repeat (first | exact hkp | (refine Keeps.trans ?_ (Keeps.new _ _)) | (refine Keeps.set ?_ (by have := hkp.next; omega) _)))⟩
    · rw [if_neg hxS] at hst
      rw [decide_eq_false hxS] at hIx
      (repeat' (first | refine awp_seq ?_ | refine awp_block ?_ | (refine awp_skip ?_; simp only [ak, reduceIte]) | (refine awp_cond ?_; simp [f5, f9, f40, f41, f42, hlt, hd, hw, hM, hIx]) | (refine w_e [] ?_; intro J hJ; simp only []; simp [f5, f9, f40, f41, f42, hlt, hd, hw, hM, hIx]; (refine hJ _ _ ?_; clear hJ J; simp only [ak, reduceIte]))))
      exact hJJ (g.vs.length - (k + 1)) _ _ (by omega) ⟨k + 1, by omega, rfl, by simp [f5], by simp [f40], by simp [f41], by simp, hM, hm3, t, by rw [hst]; simp [f9], ht0, htl, htn, by rw [hst]; exact htH, hkp⟩
  have hSl := hF.len hg hvin
  obtain ⟨f2, f5, hm1, hm2, hkp, hG, es, hM, hIn⟩ := id hI
  (repeat' (first | refine awp_seq ?_ | refine awp_block ?_ | (refine awp_skip ?_; simp only [ak, reduceIte]) | (refine awp_cond ?_; simp [f6, f2, hG]) | (refine w_e [] ?_; intro J hJ; simp only []; simp [f6, f2, hG]; (refine hJ _ _ ?_; clear hJ J; simp only [ak, reduceIte]))))
  refine awp_loop (fun z fr st2 => ∃ (k : Nat) (gr : Bool) (S' : List Int), k ≤ g.es.length ∧ z = g.es.length - k ∧ fr 6 = bb gr ∧ fr 17 = .sl 0 g.es.length (eds g.es) ∧ fr 18 = i g.es.length ∧ fr 19 = i k ∧ Flood g v S' ∧ (gr = false → Even (g.es.take k) S') ∧ (gr = true → S.length < S'.length) ∧ S.length ≤ S'.length ∧ RpI ms g st S' fr st2) g.es.length ?_ ?_
  · exact ⟨0, false, S, by omega, by omega, by simp, by simp, by simp, by simp, hF, fun _ x hx => by simp at hx, fun h => absurd h (by simp), Nat.le_refl _, hI.fr (by simp) (by simp)⟩
  clear f2 f5 f6 hI hE hF hm1 hm2 hkp hG hM hIn es fr st2
  rintro z fr st2 ⟨k, gr, S', hk, rfl, f6, f17, f18, f19, hF, hE, hG2, hSS, hI⟩ J2 hJ2
  have hSl2 := hF.len hg hvin
  obtain ⟨f2, f5, hm1, hm2, hkp, hG, es, hM, hIn⟩ := id hI
  by_cases hlt : k < g.es.length
  rotate_left
  · clear hJ2
    have hk' : k = g.es.length := by omega
    rw [hk', List.take_length] at hE
    (repeat' (first | refine awp_seq ?_ | (refine awp_exit ?_; simp only [ak, reduceIte]) | (refine awp_cond ?_; simp [f18, f19, hlt]) | (refine w_e [] ?_; intro J hJ; simp only []; simp [f18, f19, hlt]; (refine hJ _ _ ?_; clear hJ J; simp only [ak, reduceIte]))))
    refine hJJ (if gr = true then g.vs.length + 1 - S'.length else 0) _ _ ?_ ⟨gr, S', rfl, by simp [f6], hF, hE, hI.fr (by simp) (by simp)⟩
    cases gr
    · simp; omega
    · have := hG2 rfl; simp; omega
  clear hJJ
  have hd := eds_drop g.es k hlt
  have hw := nat_add_one k (by omega)
  have hk3 : k * 3 < g.es.length * 3 := by omega
  have hxin : g.es.getD k ed0 ∈ g.es := by rw [List.getD_eq_getElem?_getD, List.getElem?_eq_getElem hlt]; exact List.getElem_mem hlt
  have hEn : (gr = false → Even (g.es.take k) S') → ((g.es.getD k ed0).a ∈ S' ↔ (g.es.getD k ed0).b ∈ S') → (gr = false → Even (g.es.take (k + 1)) S') := by
    intro h1 h2 h3 y hy
    rw [List.take_succ_eq_append_getElem hlt, List.mem_append, List.mem_singleton] at hy
    rcases hy with hy | rfl
    · exact h1 h3 y hy
    · rw [List.getD_eq_getElem?_getD, List.getElem?_eq_getElem hlt] at h2; exact h2
  generalize hx : g.es.getD k ed0 = x at *
  obtain ⟨id, a, b⟩ := x
  simp only at hd hEn
  have hIa := hIn a
  have hIb := hIn b
  have a1 : ¬ ms = st2.next := by omega
  have a2 : ¬ st2.next = ms := by omega
  have a3 : ¬ st.next = st2.next := by omega
  have a4 : ¬ st.next = ms := by omega
  by_cases hab : (a ∈ S' ↔ b ∈ S')
  · have hdd : decide (a ∈ S') = decide (b ∈ S') := decide_eq_decide.2 hab
    rw [hdd] at hIa
    (repeat' (first | refine awp_seq ?_ | refine awp_block ?_ | (refine awp_skip ?_; simp only [ak, reduceIte]) | (refine awp_cond ?_; simp [f5, f17, f18, f19, hlt, hd, hel, hw, hM, hIa, hIb, a1, a2]) | (refine w_e [] ?_; intro J hJ; simp only []; simp [f5, f17, f18, f19, hlt, hd, hel, hw, hM, hIa, hIb, a1, a2]; (refine hJ _ _ ?_; clear hJ J; simp only [ak, reduceIte]))))
    exact hJ2 (g.es.length - (k + 1)) _ _ (by omega) ⟨k + 1, gr, S', by omega, rfl, by simp [f6], by simp [f17], by simp [f18], by simp, hF, hEn hE hab, hG2, hSS, by simp [f2], by simp [f5], hm1, by simp; omega, (by repeat (first | exact hkp | (refine Keeps.trans ?_ (Keeps.new _ _)) | (refine Keeps.set ?_ (by have := hkp.next; omega) _))), by simp [a3, hG], es, by simp [a1, hM], hIn⟩
  · have hdd : ¬ decide (a ∈ S') = decide (b ∈ S') := fun h => hab (decide_eq_decide.1 h)
    have hIn2 := (hIn.step a).step b
    obtain ⟨S2, hS2, hF2, hl2⟩ : ∃ S2, (∀ z, z ∈ S2 ↔ z ∈ S' ++ [a] ++ [b]) ∧ Flood g v S2 ∧ S'.length < S2.length := by
      by_cases ha : a ∈ S'
      · have hb : b ∉ S' := fun h => hab ⟨fun _ => h, fun _ => ha⟩
        refine ⟨S' ++ [b], fun z => ?_, hF.push hxin ha hb (.inl ⟨rfl, rfl⟩), by simp⟩
        simp only [List.mem_append, List.mem_singleton]
        exact ⟨fun h => h.elim (fun h => .inl (.inl h)) .inr, fun h => h.elim (fun h => h.elim .inl (fun h => .inl (h ▸ ha))) .inr⟩
      · have hb : b ∈ S' := Classical.byContradiction fun h => hab ⟨fun h1 => absurd h1 ha, fun h1 => absurd h1 h⟩
        refine ⟨S' ++ [a], fun z => ?_, hF.push hxin hb ha (.inr ⟨rfl, rfl⟩), by simp⟩
        simp only [List.mem_append, List.mem_singleton]
        exact ⟨fun h => h.elim (fun h => .inl (.inl h)) (fun h => .inl (.inr h)), fun h => h.elim (fun h => h.elim .inl .inr) (fun h => .inl (h ▸ hb))⟩
    have hIn3 := hIn2.congr hS2
    (repeat' (first | refine awp_seq ?_ | refine awp_block ?_ | (refine awp_skip ?_; simp only [ak, reduceIte]) | (refine awp_cond ?_; simp [f5, f17, f18, f19, hlt, hd, hel, hw, hM, hIa, hIb, hdd, a1, a2]) | (refine w_e [] ?_; intro J hJ; simp only []; simp [f5, f17, f18, f19, hlt, hd, hel, hw, hM, hIa, hIb, hdd, a1, a2]; (refine hJ _ _ ?_; clear hJ J; simp only [ak, reduceIte]))))
    exact hJ2 (g.es.length - (k + 1)) _ _ (by omega) ⟨k + 1, true, S2, by omega, rfl, by simp, by simp [f17], by simp [f18], by simp, hF2, fun h => absurd h (by simp), fun _ => by omega, by omega, by simp [f2], by simp [f5], hm1, by simp; omega, (by repeat (first | exact hkp | (refine Keeps.trans ?_ (Keeps.new _ _)) | (refine Keeps.set ?_ (by have := hkp.next; omega) _))), by simp [a3, a4, hG], _, by simp, hIn3⟩

end Go.Proofs.YtlnefdmdabhobaaGreat.Aw

namespace Go.Proofs.YtlnefdmdabhobaaGreat.Aw
open Go Go.RowKit Go.Proofs.YtlnefdmdabhobaaGreat.Pl
set_option linter.unusedSimpArgs false
set_option linter.unusedVariables false

theorem IsPart.seen {g : Gr} (hg : Good g) {k : Nat} (hk : k < g.vs.length) {x : Int} {c : List Int} (h : IsPart g (g.vs.getD k 0) (x :: c)) : Seen g k (g.vs.getD k 0) ↔ x ≠ g.vs.getD k 0 := by
  have hvin : g.vs.getD k 0 ∈ g.vs := by rw [getD_lt _ _ hk]; exact List.getElem_mem hk
  obtain ⟨h1, h2⟩ := h
  have hmin : ∀ w ∈ x :: c, x ≤ w := by
    intro w hw
    rw [List.mem_cons] at hw
    rcases hw with rfl | hw
    · omega
    · have := (List.pairwise_cons.1 h1).1 w hw; omega
  have hxin := (h2 x).1 (List.mem_cons_self ..)
  constructor
  · rintro ⟨u, hu, hr⟩ he
    obtain ⟨k1, k2⟩ := (take_lt hg.rise hk).1 hu
    have := hmin u ((h2 u).2 ⟨k1, hr.symm⟩)
    omega
  · intro hne
    have := hmin _ ((h2 _).2 ⟨hvin, .refl⟩)
    exact ⟨x, (take_lt hg.rise hk).2 ⟨hxin.1, by omega⟩, hxin.2.symm⟩

/-- An edge's place. -/
def fe (l : List Ed) (id : Int) : Int := if l.any (fun x => decide (x.id = id)) then (l.findIdx (fun x => decide (x.id = id)) : Int) else -1
theorem fe_some {l : List Ed} {id : Int} {k : Nat} (hk : k < l.length) (h : (l.getD k ed0).id = id) (hn : ∀ j, j < k → (l.getD j ed0).id ≠ id) : fe l id = k := by
  have hg : ∀ j (hj : j < l.length), l.getD j ed0 = l[j] := fun j hj => by rw [List.getD_eq_getElem?_getD, List.getElem?_eq_getElem hj]; rfl
  rw [hg k hk] at h
  unfold fe
  rw [if_pos (List.any_eq_true.2 ⟨_, List.getElem_mem hk, by simpa using h⟩)]
  congr 1
  refine (List.findIdx_eq hk).2 ⟨by simpa using h, fun j hj => ?_⟩
  have := hn j hj
  rw [hg j (by omega)] at this
  simpa using this
theorem fe_none {l : List Ed} {id : Int} (hn : ∀ j, j < l.length → (l.getD j ed0).id ≠ id) : fe l id = -1 := by
  unfold fe
  rw [if_neg]
  intro h
  obtain ⟨x, hx, hp⟩ := List.any_eq_true.1 h
  obtain ⟨j, hj, rfl⟩ := List.getElem_of_mem hx
  have := hn j hj
  rw [List.getD_eq_getElem?_getD, List.getElem?_eq_getElem hj] at this
  exact this (by simpa using hp)

theorem Edge_1 (x : Ed) (q : Nat) (id : Int) (st : St) (hq : st.H q = .box 48 1 [u id]) (hqn : q < st.next) :
    ACalls Tryz.prog 227 [.ag (edL x), .pt q 0] st fun r st' => r = bb (decide (x.id = id)) ∧ Keeps st st' := by
  have a1 : ¬ q = st.next := by omega
  obtain ⟨d, a, b⟩ := x
  refine acalls_of_body tabOk Tryz.func227 rfl rfl Tryz.ntmps227 (rs := [.tmp 3]) rfl (by simp) ?_
  by_cases hd : d = id
  · (repeat' (first | refine awp_seq ?_ | (refine awp_ret ?_; simp only [ak, reduceIte]; simp [hq, a1, hd]) | (refine w_e [] ?_; intro J hJ; simp only []; simp [hq, a1, hd]; (refine hJ _ _ ?_; clear hJ J; simp only [ak, reduceIte]))))
    exact Keeps.new _ _
  · (repeat' (first | refine awp_seq ?_ | (refine awp_ret ?_; simp only [ak, reduceIte]; simp [hq, a1, hd]) | (refine w_e [] ?_; intro J hJ; simp only []; simp [hq, a1, hd]; (refine hJ _ _ ?_; clear hJ J; simp only [ak, reduceIte]))))
    exact Keeps.new _ _

theorem IndexFuncE (l : List Ed) (t q : Nat) (id : Int) (st : St) (hl : l.length ≤ 1000) (hq : st.H q = .box 48 1 [u id]) (hqn : q < st.next) :
    ACalls Tryz.prog 221 [.sl t l.length (eds l), .fn (.func 227) [.pt q 0]] st fun r st' => r = i (fe l id) ∧ Keeps st st' := by
  have hel := eds_length l
  refine acalls_of_body tabOk Tryz.func221 rfl rfl Tryz.ntmps221 (rs := [.tmp 4]) rfl (by simp) ?_
  (repeat' (first | refine awp_seq ?_ | refine awp_block ?_ | (refine w_e [] ?_; intro J hJ; simp only []; simp []; (refine hJ _ _ ?_; clear hJ J; simp only [ak, reduceIte]))))
  refine awp_loop (fun n fr st2 => ∃ k : Nat, k ≤ l.length ∧ n = l.length - k ∧ fr 0 = .sl t l.length (eds l) ∧ fr 1 = .fn (.func 227) [.pt q 0] ∧ fr 7 = i l.length ∧ fr 8 = i k ∧ Keeps st st2 ∧ ∀ j, j < k → (l.getD j ed0).id ≠ id) l.length ?_ ?_
  · exact ⟨0, by omega, by omega, by simp, by simp, by simp, by simp, Keeps.refl _, fun j hj => by omega⟩
  rintro n fr st2 ⟨k, hk, rfl, f0, f1, f7, f8, hkp, hno⟩ JJ hJJ
  by_cases hlt : k < l.length
  rotate_left
  · clear hJJ
    have hr := fe_none (l := l) (id := id) fun j hj => hno j (by omega)
    (repeat' (first | refine awp_seq ?_ | (refine awp_exit ?_; simp only [ak, reduceIte]) | (refine awp_ret ?_; simp only [ak, reduceIte]; simp [f7, f8, hlt, hr]) | (refine awp_cond ?_; simp [f7, f8, hlt, hr]) | (refine w_e [] ?_; intro J hJ; simp only []; simp [f7, f8, hlt, hr]; (refine hJ _ _ ?_; clear hJ J; simp only [ak, reduceIte]))))
    exact hkp
  have hd := eds_drop l k hlt
  have hw := nat_add_one k (by omega)
  have hk3 : k * 3 < l.length * 3 := by omega
  have hso := fun h => fe_some (id := id) hlt h hno
  have hnx : (l.getD k ed0).id ≠ id → ∀ j, j < k + 1 → (l.getD j ed0).id ≠ id := fun h j hj => by
    rcases Nat.lt_or_ge j k with h1 | h1
    · exact hno j h1
    · obtain rfl : j = k := by omega
      exact h
  generalize hx : l.getD k ed0 = x at *
  obtain ⟨d, a, b⟩ := x
  simp only at hd hso hnx
  (repeat' (first | refine awp_seq ?_ | refine awp_block ?_ | (refine awp_skip ?_; simp only [ak, reduceIte]) | (refine awp_cond ?_; simp [f0, f1, f7, f8, hlt, hd, hel]) | (refine w_e [] ?_; intro J hJ; simp only []; simp [f0, f1, f7, f8, hlt, hd, hel]; (try (refine hJ _ _ ?_; clear hJ J; simp only [ak, reduceIte])))))
  refine callK_ofE (Edge_1 ⟨d, a, b⟩ q id st2 ((hkp.H q hqn).trans hq) (Nat.lt_of_lt_of_le hqn hkp.next)) (by simp) ?_; rintro r s3 ⟨rfl, hk3'⟩
  simp only
  by_cases hdi : d = id
  · have hr := hso hdi
    (repeat' (first | refine awp_seq ?_ | (refine awp_ret ?_; simp only [ak, reduceIte]; simp [f8, hdi, hr]) | (refine awp_cond ?_; simp [f8, hdi, hr]) | ((first | (refine w_e [] ?_; intro J hJ; simp only []) | (refine e_go ?_)); simp [f8, hdi, hr]; (refine hJ _ _ ?_; clear hJ J; simp only [ak, reduceIte]))))
    exact hkp.trans hk3'
  · (repeat' (first | (refine awp_skip ?_; simp only [ak, reduceIte]) | (refine awp_cond ?_; simp [f8, hdi, hw]) | ((first | (refine w_e [] ?_; intro J hJ; simp only []) | (refine e_go ?_)); simp [f8, hdi, hw]; (refine hJ _ _ ?_; clear hJ J; simp only [ak, reduceIte]))))
    exact hJJ (l.length - (k + 1)) _ _ (by omega) ⟨k + 1, by omega, rfl, by simp [f0], by simp [f1], by simp [f7], by simp, hkp.trans hk3', hnx hdi⟩

theorem fe_lt (l : List Ed) (id : Int) (h : ¬ fe l id < 0) : (fe l id).toNat < l.length ∧ fe l id = ((fe l id).toNat : Int) ∧ (l.getD (fe l id).toNat ed0).id = id := by
  unfold fe at h ⊢
  split at h
  · rename_i ha
    rw [if_pos ha]
    simp only [Int.toNat_natCast]
    have hlt : l.findIdx (fun x => decide (x.id = id)) < l.length := by
      rw [List.findIdx_lt_length]
      obtain ⟨x, hx, h⟩ := List.any_eq_true.1 ha
      exact ⟨x, hx, h⟩
    refine ⟨hlt, trivial, ?_⟩
    have := List.findIdx_getElem (w := hlt)
    rw [List.getD_eq_getElem?_getD, List.getElem?_eq_getElem hlt]
    simpa using this
  · omega

theorem gEdge (g : Gr) (id : Int) (st : St) (he : g.es.length ≤ 1000) :
    ACalls Tryz.prog 169 [.ag (grL g), u id] st fun r st' => r = i (fe g.es id) ∧ Keeps st st' := by
  refine acalls_of_body tabOk Tryz.func169 rfl rfl Tryz.ntmps169 (rs := [.tmp 4]) rfl (by simp) ?_
  (repeat' (first | refine awp_seq ?_ | (refine w_e [] ?_; intro J hJ; simp only []; simp []; (try (refine hJ _ _ ?_; clear hJ J; simp only [ak, reduceIte])))))
  refine callK_ofE (IndexFuncE g.es 0 (st.next + 1) id _ he (by simp) (by simp)) (by simp) ?_; rintro r s3 ⟨rfl, hk3⟩
  (repeat' (first | (refine awp_ret ?_; simp only [ak, reduceIte]; simp []) | (refine e_go ?_; simp []; (refine hJ _ _ ?_; clear hJ J; simp only [ak, reduceIte]))))
  exact ((Keeps.new _ _).trans (Keeps.new _ _)).trans hk3

end Go.Proofs.YtlnefdmdabhobaaGreat.Aw

namespace Go.Proofs.YtlnefdmdabhobaaGreat.Aw
open Go Go.RowKit Go.Proofs.YtlnefdmdabhobaaGreat.Pl
set_option linter.unusedSimpArgs false
set_option linter.unusedVariables false

def TestE (f : FuncId) (caps : List LV) (st : St) (l : List Ed) (p : Ed → Bool) : Prop := ∀ x ∈ l, ∀ st2, Keeps st st2 → ACalls Tryz.prog f (.ag (edL x) :: caps) st2 fun r st3 => r = bb (p x) ∧ Keeps st2 st3

def odd1 (o : Bool) (x : Ed) : Bool := decide (x.id % 2 = 1) == o
/-- A row of edges, or none. -/
def RowE (X : LV) (F : List Ed) : Prop := (X = .nil ∧ F = []) ∨ ∃ t, X = .sl t F.length (eds F)

end Go.Proofs.YtlnefdmdabhobaaGreat.Aw

namespace Go.Proofs.YtlnefdmdabhobaaGreat.Aw
open Go Go.RowKit Go.Proofs.YtlnefdmdabhobaaGreat.Pl
set_option linter.unusedSimpArgs false
set_option linter.unusedVariables false

theorem firstNZ_all {f : Nat → Int} {n : Nat} (h : firstNZ f n = 0) : ∀ j, j < n → f j = 0 := by
  induction n with
  | zero => intro j hj; omega
  | succ n ih =>
    intro j hj
    simp only [firstNZ] at h
    by_cases h0 : firstNZ f n = 0
    · rw [if_neg (by simp [h0])] at h
      rcases Nat.lt_or_ge j n with h1 | h1
      · exact ih h0 j h1
      · obtain rfl : j = n := by omega
        exact h
    · rw [if_pos h0] at h; exact absurd h h0
theorem numb_zero {n a : Int} {b : Bool} (h : numb n a b = 0) : 1 ≤ n ∧ n ≤ 1048576 ∧ (b = false → a < n) := by
  unfold numb at h
  by_cases h1 : n < 1 ∨ 1048576 < n
  · rw [if_pos h1] at h; cases h
  · rw [if_neg h1] at h
    by_cases h2 : b = false ∧ n ≤ a
    · rw [if_pos h2] at h; cases h
    · refine ⟨by omega, by omega, fun hb => ?_⟩
      rcases Int.lt_or_le a n with h3 | h3
      · exact h3
      · exact absurd ⟨hb, h3⟩ h2
theorem rise_of {l : List Int} (h : ∀ j, j < l.length → 0 < j → l.getD (j - 1) 0 < l.getD j 0) : l.Pairwise (· < ·) := by
  rw [List.pairwise_iff_getElem]
  intro a b ha hb hab
  induction b with
  | zero => omega
  | succ b ih =>
    have h1 := h (b + 1) hb (by omega)
    rw [Nat.add_sub_cancel, getD_lt _ _ hb, getD_lt _ _ (by omega)] at h1
    rcases Nat.lt_or_ge a b with h2 | h2
    · have := ih (by omega) h2; omega
    · obtain rfl : a = b := by omega
      exact h1
theorem chk_good {g : Gr} (h : chk g = 0) : Good g ∧ idOk g.es ∧ g.vs.length ≤ 64 ∧ g.es.length ≤ 160 := by
  unfold chk at h
  by_cases h1 : 64 < g.vs.length ∨ 160 < g.es.length
  · rw [if_pos h1] at h; cases h
  · rw [if_neg h1] at h
    by_cases h2 : firstNZ (badV g) g.vs.length = 0
    · rw [if_neg (by simp [h2])] at h
      have hV := firstNZ_all h2
      have hE := firstNZ_all h
      have hEx : ∀ j, j < g.es.length → (1 ≤ (g.es.getD j ed0).id ∧ (g.es.getD j ed0).id ≤ 1048576) ∧ (g.es.getD j ed0).a ∈ g.vs ∧ (g.es.getD j ed0).b ∈ g.vs := by
        intro j hj
        have := hE j hj
        unfold badE at this
        simp only at this
        by_cases h3 : numb (g.es.getD j ed0).id (g.es.getD (j - 1) ed0).id (decide (j = 0)) = 0
        · rw [if_neg (fun h => h h3)] at this
          by_cases h4 : (g.es.getD j ed0).a = (g.es.getD j ed0).b
          · rw [if_pos h4] at this; cases this
          · rw [if_neg h4] at this
            by_cases h5 : (g.es.getD j ed0).a ∉ g.vs ∨ (g.es.getD j ed0).b ∉ g.vs
            · rw [if_pos h5] at this; cases this
            · have h6 := numb_zero h3
              refine ⟨⟨h6.1, h6.2.1⟩, ?_, ?_⟩
              · exact Classical.byContradiction fun h => h5 (.inl h)
              · exact Classical.byContradiction fun h => h5 (.inr h)
        · rw [if_pos h3] at this; exact absurd this h3
      have hget : ∀ x ∈ g.es, ∃ j, j < g.es.length ∧ g.es.getD j ed0 = x := by
        intro x hx
        obtain ⟨j, hj, rfl⟩ := List.getElem_of_mem hx
        exact ⟨j, hj, by rw [List.getD_eq_getElem?_getD, List.getElem?_eq_getElem hj]; rfl⟩
      refine ⟨⟨rise_of fun j hj h0 => ?_, fun x hx => ?_⟩, fun x hx => ?_, by omega, by omega⟩
      · have := (numb_zero (hV j hj)).2.2 (by simp; omega)
        exact this
      · obtain ⟨j, hj, rfl⟩ := hget x hx
        exact (hEx j hj).2
      · obtain ⟨j, hj, rfl⟩ := hget x hx
        have := (hEx j hj).1; omega
    · rw [if_pos h2] at h; exact absurd h h2

theorem ends_nil (es : List Ed) (v : Int) : ends es v = [] ↔ nbr es v = [] := by
  unfold ends nbr
  simp only [List.flatMap_eq_nil_iff]
  refine forall_congr' fun x => forall_congr' fun _ => ?_
  unfold end1 nbr1
  by_cases h1 : x.a = v <;> by_cases h2 : x.b = v <;> simp [h1, h2]

theorem PartsTo.flat {g : Gr} (hg : Good g) {k : Nat} {R : List (List Int)} (h : PartsTo g k R) : R.flatten.Nodup ∧ ∀ w, w ∈ R.flatten ↔ w ∈ g.vs ∧ Seen g k w := by
  induction h with
  | zero => exact ⟨by simp, fun w => ⟨fun h => by simp at h, fun h => by obtain ⟨u, hu, _⟩ := h.2; simp at hu⟩⟩
  | seen _ hk hs ih => exact ⟨ih.1, fun w => by rw [ih.2, seen_same hk hs]⟩
  | @lead k R c _ hk hs hc ih =>
    rw [List.flatten_append, List.flatten_cons, List.flatten_nil, List.append_nil]
    refine ⟨?_, fun w => ?_⟩
    · rw [List.nodup_append]
      refine ⟨ih.1, hc.1.imp fun h => by omega, fun a ha b hb => ?_⟩
      rintro rfl
      have h1 := ((ih.2 a).1 ha).2
      have h2 := ((hc.2 a).1 hb).2
      exact hs (h1.reach h2.symm)
    · rw [List.mem_append, ih.2, hc.2, seen_succ hk]
      constructor
      · rintro (⟨h1, h2⟩ | ⟨h1, h2⟩)
        · exact ⟨h1, .inl h2⟩
        · exact ⟨h1, .inr h2⟩
      · rintro ⟨h1, h2 | h2⟩
        · exact .inl ⟨h1, h2⟩
        · exact .inr ⟨h1, h2⟩
theorem PartsTo.row_le {g : Gr} (hg : Good g) {k : Nat} {R : List (List Int)} (h : PartsTo g k R) : ∀ c ∈ R, c.length ≤ g.vs.length := by
  induction h with
  | zero => intro c hc; simp at hc
  | seen _ _ _ ih => exact ih
  | lead _ _ _ hc ih =>
    intro d hd
    rw [List.mem_append, List.mem_singleton] at hd
    rcases hd with hd | rfl
    · exact ih d hd
    · exact List.Nodup.length_le_of_subset (hc.1.imp fun h => by omega) fun w hw => ((hc.2 w).1 hw).1

end Go.Proofs.YtlnefdmdabhobaaGreat.Aw

namespace Go.Proofs.YtlnefdmdabhobaaGreat.Aw
open Go Go.RowKit Go.Proofs.YtlnefdmdabhobaaGreat.Pl Go.Proofs.YtlnefdmdabhobaaGreat.Eu
set_option linter.unusedSimpArgs false
set_option linter.unusedVariables false

/-- All darts, in the edges' order. -/
def darts (es : List Ed) : List Int := es.flatMap fun x => [2 * x.id, 2 * x.id + 1]
structure GoodE (g : Gr) : Prop extends Good g where
  ids : g.es.Pairwise (fun x y => x.id < y.id)
  pos : ∀ x ∈ g.es, 1 ≤ x.id ∧ x.id ≤ 1048576
  ne : ∀ x ∈ g.es, x.a ≠ x.b
theorem getE_lt (l : List Ed) (j : Nat) (hj : j < l.length) : l.getD j ed0 = l[j] := by
  rw [List.getD_eq_getElem?_getD, List.getElem?_eq_getElem hj]; rfl
theorem chk_goodE {g : Gr} (h : chk g = 0) : GoodE g := by
  obtain ⟨hg, _, _, _⟩ := chk_good h
  unfold chk at h
  by_cases h1 : 64 < g.vs.length ∨ 160 < g.es.length
  · rw [if_pos h1] at h; cases h
  rw [if_neg h1] at h
  by_cases h2 : firstNZ (badV g) g.vs.length = 0
  · rw [if_neg (by simp [h2])] at h
    have hE := firstNZ_all h
    have hEx : ∀ j, j < g.es.length → ((1 ≤ (g.es.getD j ed0).id ∧ (g.es.getD j ed0).id ≤ 1048576) ∧ (0 < j → (g.es.getD (j - 1) ed0).id < (g.es.getD j ed0).id)) ∧ (g.es.getD j ed0).a ≠ (g.es.getD j ed0).b := by
      intro j hj
      have := hE j hj
      unfold badE at this
      simp only at this
      by_cases h3 : numb (g.es.getD j ed0).id (g.es.getD (j - 1) ed0).id (decide (j = 0)) = 0
      · rw [if_neg (fun h => h h3)] at this
        by_cases h4 : (g.es.getD j ed0).a = (g.es.getD j ed0).b
        · rw [if_pos h4] at this; cases this
        · have h6 := numb_zero h3
          exact ⟨⟨⟨h6.1, h6.2.1⟩, fun h0 => h6.2.2 (by simp; omega)⟩, h4⟩
      · rw [if_pos h3] at this; exact absurd this h3
    have hget : ∀ x ∈ g.es, ∃ j, j < g.es.length ∧ g.es.getD j ed0 = x := by
      intro x hx
      obtain ⟨j, hj, rfl⟩ := List.getElem_of_mem hx
      exact ⟨j, hj, getE_lt _ _ hj⟩
    refine ⟨hg, ?_, fun x hx => ?_, fun x hx => ?_⟩
    · rw [List.pairwise_iff_getElem]
      intro a b ha hb hab
      induction b with
      | zero => omega
      | succ b ih =>
        have h1 := (hEx (b + 1) hb).1.2 (by omega)
        rw [Nat.add_sub_cancel, getE_lt _ _ hb, getE_lt _ _ (by omega)] at h1
        rcases Nat.lt_or_ge a b with h2 | h2
        · have := ih (by omega) h2; omega
        · obtain rfl : a = b := by omega
          exact h1
    · obtain ⟨j, hj, rfl⟩ := hget x hx
      exact (hEx j hj).1.1
    · obtain ⟨j, hj, rfl⟩ := hget x hx
      exact (hEx j hj).2
  · rw [if_pos h2] at h; exact absurd h h2

theorem id_eq {es : List Ed} (h : es.Pairwise (fun x y => x.id < y.id)) {x y : Ed} (hx : x ∈ es) (hy : y ∈ es) (he : x.id = y.id) : x = y := by
  obtain ⟨j, hj, rfl⟩ := List.getElem_of_mem hx
  obtain ⟨k, hk, rfl⟩ := List.getElem_of_mem hy
  rcases Nat.lt_trichotomy j k with h1 | h1 | h1
  · have := List.pairwise_iff_getElem.1 h j k hj hk h1; omega
  · subst h1; rfl
  · have := List.pairwise_iff_getElem.1 h k j hk hj h1; omega
theorem mem_ends {es : List Ed} {v d : Int} : d ∈ ends es v ↔ ∃ x ∈ es, (x.a = v ∧ d = 2 * x.id) ∨ (x.b = v ∧ d = 2 * x.id + 1) := by
  unfold ends
  rw [List.mem_flatMap]
  refine exists_congr fun x => and_congr_right fun _ => ?_
  unfold end1
  rw [List.mem_append]
  refine or_congr ?_ ?_
  · split
    · rename_i h; simp [h]
    · rename_i h; simp [h]
  · split
    · rename_i h; simp [h]
    · rename_i h; simp [h]
theorem mem_darts {es : List Ed} {d : Int} : d ∈ darts es ↔ ∃ x ∈ es, d = 2 * x.id ∨ d = 2 * x.id + 1 := by
  unfold darts
  rw [List.mem_flatMap]
  refine exists_congr fun x => and_congr_right fun _ => ?_
  simp
theorem darts_half {es : List Ed} {d : Int} : d ∈ darts es ↔ ∃ x ∈ es, x.id = d / 2 := by
  rw [mem_darts]
  refine exists_congr fun x => and_congr_right fun _ => ?_
  omega
theorem darts_rise {es : List Ed} (h : es.Pairwise (fun x y => x.id < y.id)) : (darts es).Pairwise (· < ·) := by
  unfold darts
  rw [List.pairwise_flatMap]
  refine ⟨fun x _ => by simp; omega, h.imp fun {x y} hxy a ha b hb => ?_⟩
  simp at ha hb
  omega
theorem ends_rise {es : List Ed} (h : es.Pairwise (fun x y => x.id < y.id)) (v : Int) : (ends es v).Pairwise (· < ·) := by
  unfold ends
  rw [List.pairwise_flatMap]
  refine ⟨fun x _ => ?_, h.imp fun {x y} hxy a ha b hb => ?_⟩
  · unfold end1
    by_cases h1 : x.a = v <;> by_cases h2 : x.b = v <;> simp [h1, h2]
    omega
  · unfold end1 at ha hb
    simp only [List.mem_append] at ha hb
    have h1 : a = 2 * x.id ∨ a = 2 * x.id + 1 := by
      rcases ha with ha | ha <;> split at ha <;> simp at ha
      · exact .inl ha
      · exact .inr ha
    have h2 : b = 2 * y.id ∨ b = 2 * y.id + 1 := by
      rcases hb with hb | hb <;> split at hb <;> simp at hb
      · exact .inl hb
      · exact .inr hb
    omega
theorem rise_nodup {l : List Int} (h : l.Pairwise (· < ·)) : l.Nodup := h.imp fun h => by omega
theorem darts_length (es : List Ed) : (darts es).length = 2 * es.length := by
  induction es with
  | nil => rfl
  | cons x l ih => simp only [darts, List.flatMap_cons, List.length_append, List.length_cons, List.length_nil] at ih ⊢; omega
/-- A turn that stands right at a vertex. -/
def okTurn (es : List Ed) (v : Int) (t : List Int) : Prop := t.Perm (ends es v) ∧ nrm t = t
structure MapOk (m : Mp) : Prop where
  g : GoodE m.g
  len : m.rots.length = m.g.vs.length
  ok : ∀ k, k < m.g.vs.length → okTurn m.g.es (m.g.vs.getD k 0) (m.rots.getD k [])

theorem at_unique {es : List Ed} (h : es.Pairwise (fun x y => x.id < y.id)) {d v w : Int} (hv : d ∈ ends es v) (hw : d ∈ ends es w) : v = w := by
  rw [mem_ends] at hv hw
  obtain ⟨x, hx, h1⟩ := hv
  obtain ⟨y, hy, h2⟩ := hw
  have he : x.id = y.id := by omega
  have := id_eq h hx hy he
  subst this
  omega
theorem ends_dart {es : List Ed} {d v : Int} (h : d ∈ ends es v) : d ∈ darts es := by
  rw [mem_ends] at h
  rw [mem_darts]
  obtain ⟨x, hx, h1⟩ := h
  exact ⟨x, hx, by omega⟩
theorem dart_at {es : List Ed} {d : Int} (h : d ∈ darts es) : ∃ v, d ∈ ends es v ∧ ∃ x ∈ es, x.id = d / 2 ∧ (v = x.a ∨ v = x.b) := by
  rw [mem_darts] at h
  obtain ⟨x, hx, h1 | h1⟩ := h
  · exact ⟨x.a, mem_ends.2 ⟨x, hx, .inl ⟨rfl, h1⟩⟩, x, hx, by omega, .inl rfl⟩
  · exact ⟨x.b, mem_ends.2 ⟨x, hx, .inr ⟨rfl, h1⟩⟩, x, hx, by omega, .inr rfl⟩

theorem getR_lt (l : List (List Int)) (j : Nat) (hj : j < l.length) : l.getD j [] = l[j] := by
  rw [List.getD_eq_getElem?_getD, List.getElem?_eq_getElem hj]; rfl

section
variable {m : Mp} (h : MapOk m)
include h
theorem MapOk.turn {t : List Int} (ht : t ∈ m.rots) : ∃ k, k < m.g.vs.length ∧ t = m.rots.getD k [] ∧ okTurn m.g.es (m.g.vs.getD k 0) t := by
  obtain ⟨k, hk, rfl⟩ := List.getElem_of_mem ht
  have hk' : k < m.g.vs.length := by rw [← h.len]; exact hk
  refine ⟨k, hk', (getR_lt _ _ hk).symm, ?_⟩
  have := h.ok k hk'
  rwa [getR_lt _ _ hk] at this
theorem MapOk.nodup {t : List Int} (ht : t ∈ m.rots) : t.Nodup := by
  obtain ⟨k, _, _, h1, _⟩ := h.turn ht
  exact h1.nodup_iff.2 (rise_nodup (ends_rise h.g.ids _))
theorem MapOk.same {t t' : List Int} (ht : t ∈ m.rots) (ht' : t' ∈ m.rots) {d : Int} (hd : d ∈ t) (hd' : d ∈ t') : t = t' := by
  obtain ⟨k, hk, rfl, h1, _⟩ := h.turn ht
  obtain ⟨k', hk', rfl, h2, _⟩ := h.turn ht'
  have := at_unique h.g.ids (h1.mem_iff.1 hd) (h2.mem_iff.1 hd')
  rw [getD_lt _ _ hk, getD_lt _ _ hk'] at this
  have h3 := congrArg m.g.vs.idxOf this
  rw [h.g.toGood.nodup.idxOf_getElem, h.g.toGood.nodup.idxOf_getElem] at h3
  rw [h3]
theorem MapOk.turn_of {d : Int} (hd : d ∈ darts m.g.es) : ∃ t ∈ m.rots, d ∈ t := by
  obtain ⟨v, hv, x, hx, _, hvx⟩ := dart_at hd
  have hvin : v ∈ m.g.vs := by
    rcases hvx with rfl | rfl
    · exact (h.g.ends x hx).1
    · exact (h.g.ends x hx).2
  obtain ⟨k, hk, rfl⟩ := List.getElem_of_mem hvin
  have := h.ok k hk
  rw [getD_lt _ _ hk] at this
  refine ⟨_, ?_, this.1.mem_iff.2 hv⟩
  rw [getR_lt _ _ (by rw [h.len]; exact hk)]
  exact List.getElem_mem _
theorem MapOk.turn_dart {t : List Int} (ht : t ∈ m.rots) {d : Int} (hd : d ∈ t) : d ∈ darts m.g.es := by
  obtain ⟨k, _, _, h1, _⟩ := h.turn ht
  exact ends_dart (h1.mem_iff.1 hd)
theorem MapOk.row_le {t : List Int} (ht : t ∈ m.rots) : t.length ≤ 2 * m.g.es.length := by
  obtain ⟨k, _, _, h1, _⟩ := h.turn ht
  rw [h1.length_eq]
  exact flat_len _ (end1_len _) _
end

/-- The one behind a dart, in its turn. -/
def sg (m : Mp) (d : Int) : Int := match m.rots.find? (fun t => decide (d ∈ t)) with
  | some t => nx t d
  | none => d
theorem sg_out {m : Mp} {d : Int} (h : ∀ t ∈ m.rots, d ∉ t) : sg m d = d := by
  unfold sg
  have : m.rots.find? (fun t => decide (d ∈ t)) = none := by
    rw [List.find?_eq_none]
    intro t ht
    simpa using h t ht
  rw [this]
theorem sg_at {m : Mp} (h : MapOk m) {t : List Int} (ht : t ∈ m.rots) {d : Int} (hd : d ∈ t) : sg m d = nx t d := by
  unfold sg
  cases hf : m.rots.find? (fun t => decide (d ∈ t)) with
  | none =>
    rw [List.find?_eq_none] at hf
    exact absurd hd (by simpa using hf t ht)
  | some t' =>
    have h1 := List.find?_some hf
    have h2 := List.mem_of_find?_eq_some hf
    simp only at h1 ⊢
    rw [h.same h2 ht (by simpa using h1) hd]

/-- The other end, of some edges. -/
def al (es : List Ed) (d : Int) : Int := if (es.any fun x => decide (x.id = d / 2)) = true then tw d else d
theorem al_in {es : List Ed} {d : Int} (h : d ∈ darts es) : al es d = tw d := by
  unfold al
  rw [if_pos]
  obtain ⟨x, hx, h⟩ := darts_half.1 h
  exact List.any_eq_true.2 ⟨x, hx, by simpa using h⟩
theorem al_out {es : List Ed} {d : Int} (h : d ∉ darts es) : al es d = d := by
  unfold al
  rw [if_neg]
  intro ha
  obtain ⟨x, hx, h1⟩ := List.any_eq_true.1 ha
  exact h (darts_half.2 ⟨x, hx, by simpa using h1⟩)
theorem twHalf (d : Int) : tw d / 2 = d / 2 := by unfold tw; split <;> omega
theorem twTw (d : Int) : tw (tw d) = d := by unfold tw; split <;> split <;> omega
theorem tw_dart {es : List Ed} {d : Int} : tw d ∈ darts es ↔ d ∈ darts es := by rw [darts_half, darts_half, twHalf]
theorem al_al (es : List Ed) (d : Int) : al es (al es d) = d := by
  by_cases h : d ∈ darts es
  · rw [al_in h, al_in (tw_dart.2 h), twTw]
  · rw [al_out h, al_out h]
theorem al_half (es : List Ed) (d : Int) : al es d / 2 = d / 2 := by
  unfold al; split
  · exact twHalf d
  · rfl
theorem al_dart (es es' : List Ed) (d : Int) : al es d ∈ darts es' ↔ d ∈ darts es' := by rw [darts_half, darts_half, al_half]
theorem al_inj (es : List Ed) {d e : Int} (h : al es d = al es e) : d = e := by rw [← al_al es d, h, al_al]

/-- The dart behind one in its face. -/
def fc (m : Mp) (es : List Ed) (d : Int) : Int := sg m (al es d)

section
variable {m : Mp} (h : MapOk m)
include h
theorem MapOk.sg_mem {t : List Int} (ht : t ∈ m.rots) {d : Int} (hd : d ∈ t) : sg m d ∈ t := by rw [sg_at h ht hd]; exact nx_mem hd
theorem MapOk.sg_dart {d : Int} (hd : d ∈ darts m.g.es) : sg m d ∈ darts m.g.es := by
  obtain ⟨t, ht, hdt⟩ := h.turn_of hd
  exact h.turn_dart ht (h.sg_mem ht hdt)
theorem MapOk.sg_id {d : Int} (hd : d ∉ darts m.g.es) : sg m d = d := sg_out fun _ ht hdt => hd (h.turn_dart ht hdt)
theorem MapOk.sg_inj {d e : Int} (he : sg m d = sg m e) : d = e := by
  by_cases h1 : d ∈ darts m.g.es
  · by_cases h2 : e ∈ darts m.g.es
    · obtain ⟨t, ht, hd⟩ := h.turn_of h1
      obtain ⟨t', ht', hd'⟩ := h.turn_of h2
      have := h.same ht ht' (h.sg_mem ht hd) (he ▸ h.sg_mem ht' hd')
      subst this
      rw [sg_at h ht hd, sg_at h ht hd'] at he
      exact nx_inj (h.nodup ht) hd hd' he
    · have := h.sg_dart h1
      rw [he, h.sg_id h2] at this
      exact absurd this h2
  · by_cases h2 : e ∈ darts m.g.es
    · have := h.sg_dart h2
      rw [← he, h.sg_id h1] at this
      exact absurd this h1
    · rwa [h.sg_id h1, h.sg_id h2] at he
theorem MapOk.fc_inj (es : List Ed) (d e : Int) (he : fc m es d = fc m es e) : d = e := al_inj es (h.sg_inj he)
theorem MapOk.fc_dart (es : List Ed) (d : Int) (hd : d ∈ darts m.g.es) : fc m es d ∈ darts m.g.es := h.sg_dart ((al_dart es _ d).2 hd)
theorem MapOk.fc_per (es : List Ed) (hs : ∀ x ∈ es, x ∈ m.g.es) : Per (fc m es) := by
  refine per_of (darts m.g.es) (fun x hx => h.fc_dart es x hx) (h.fc_inj es) fun x hx => ?_
  have hx' : x ∉ darts es := fun hd => hx (by
    rw [mem_darts] at hd ⊢
    obtain ⟨y, hy, h1⟩ := hd
    exact ⟨y, hs y hy, h1⟩)
  unfold fc
  rw [al_out hx', h.sg_id hx]
theorem MapOk.sg_at_v {d v : Int} (hd : d ∈ ends m.g.es v) : sg m d ∈ ends m.g.es v := by
  obtain ⟨t, ht, hdt⟩ := h.turn_of (ends_dart hd)
  obtain ⟨k, hk, rfl, h1, _⟩ := h.turn ht
  have := at_unique h.g.ids hd (h1.mem_iff.1 hdt)
  rw [this]
  exact h1.mem_iff.1 (h.sg_mem ht hdt)
theorem MapOk.orb_reach (es : List Ed) (hs : ∀ x ∈ es, x ∈ m.g.es) (n : Nat) : ∀ {d v : Int}, d ∈ ends m.g.es v → ∃ w, it (fc m es) n d ∈ ends m.g.es w ∧ Reach es v w := by
  induction n with
  | zero => intro d v hd; exact ⟨v, hd, .refl⟩
  | succ n ih =>
    intro d v hd
    have key : ∃ w, fc m es d ∈ ends m.g.es w ∧ Reach es v w := by
      by_cases hin : d ∈ darts es
      · unfold fc
        rw [al_in hin]
        obtain ⟨x, hx, hxd⟩ := darts_half.1 hin
        have hxg := hs x hx
        obtain ⟨y, hy, hyd⟩ := mem_ends.1 hd
        have hxy : x = y := id_eq h.g.ids hxg hy (by omega)
        subst hxy
        rcases hyd with ⟨rfl, hdd⟩ | ⟨rfl, hdd⟩
        · refine ⟨x.b, h.sg_at_v (mem_ends.2 ⟨x, hxg, .inr ⟨rfl, ?_⟩⟩), .step .refl (mem_nbr.2 ⟨x, hx, .inl ⟨rfl, rfl⟩⟩)⟩
          unfold tw; split <;> omega
        · refine ⟨x.a, h.sg_at_v (mem_ends.2 ⟨x, hxg, .inl ⟨rfl, ?_⟩⟩), .step .refl (mem_nbr.2 ⟨x, hx, .inr ⟨rfl, rfl⟩⟩)⟩
          unfold tw; split <;> omega
      · unfold fc
        rw [al_out hin]
        exact ⟨v, h.sg_at_v hd, .refl⟩
    obtain ⟨w, h1, h2⟩ := key
    obtain ⟨w', h3, h4⟩ := ih h1
    exact ⟨w', h3, h2.trans h4⟩
end

/-! ### Euler -/
theorem reach_eqv (es : List Ed) : Eqv (Reach es) := ⟨fun _ => .refl, Reach.symm, Reach.trans⟩
theorem Reach.mono {es es' : List Ed} (hs : ∀ x ∈ es, x ∈ es') {v w : Int} (h : Reach es v w) : Reach es' v w := by
  induction h with
  | refl => exact .refl
  | step _ hw ih =>
    refine .step ih ?_
    rw [mem_nbr] at hw ⊢
    obtain ⟨x, hx, h1⟩ := hw
    exact ⟨x, hs x hx, h1⟩
theorem reach_snoc (es : List Ed) (x : Ed) (v w : Int) : Reach (es ++ [x]) v w ↔ Eu.Mg (Reach es) x.a x.b v w := by
  constructor
  · intro h
    have hE := Mg.eqv (reach_eqv es) x.a x.b
    induction h with
    | refl => exact hE.refl _
    | step _ hw ih =>
      refine hE.trans ih ?_
      obtain ⟨y, hy, h1⟩ := mem_nbr.1 hw
      rw [List.mem_append, List.mem_singleton] at hy
      rcases hy with hy | rfl
      · exact .inl (.step .refl (mem_nbr.2 ⟨y, hy, h1⟩))
      · rcases h1 with ⟨rfl, rfl⟩ | ⟨rfl, rfl⟩
        · exact .inr (.inl ⟨.refl, .refl⟩)
        · exact .inr (.inr ⟨.refl, .refl⟩)
  · refine Mg.le (reach_eqv _) (.step .refl (mem_nbr.2 ⟨x, by simp, .inl ⟨rfl, rfl⟩⟩)) fun v w h => h.mono fun y hy => by simp [hy]
theorem ncl_one {R : Int → Int → Prop} (hR : ∀ x y, R x y → x = y) {l : List Int} (hn : l.Nodup) : ncl R l = l.length := by
  induction l with
  | nil => rfl
  | cons x l ih =>
    rw [List.nodup_cons] at hn
    rw [ncl_cons_new, ih hn.2, List.length_cons]
    rintro ⟨y, hy, hr⟩
    exact hn.1 (hR _ _ hr ▸ hy)
theorem reach_nil {v w : Int} (h : Reach [] v w) : v = w := by
  induction h with
  | refl => rfl
  | step _ hw _ => obtain ⟨x, hx, _⟩ := mem_nbr.1 hw; cases hx
theorem filter_eq {α β : Type} (p : α → Bool) (q : β → Bool) : ∀ (l : List α) (l' : List β), l.length = l'.length → (∀ k (h1 : k < l.length) (h2 : k < l'.length), p l[k] = !q l'[k]) → (l.filter p).length + l'.countP q = l.length
  | [], [], _, _ => rfl
  | [], _ :: _, h, _ => by simp at h
  | _ :: _, [], h, _ => by simp at h
  | a :: l, b :: l', h, hk => by
    have ih := filter_eq p q l l' (by simpa using h) fun k h1 h2 => hk (k + 1) (by simpa using h1) (by simpa using h2)
    have h0 := hk 0 (by simp) (by simp)
    simp only [List.getElem_cons_zero] at h0
    rw [List.filter_cons, List.countP_cons, h0, List.length_cons]
    cases q b <;> simp <;> omega
section
variable {m : Mp} (h : MapOk m)
include h
theorem MapOk.flat_perm : (darts m.g.es).Perm m.rots.flatten := by
  refine (List.perm_ext_iff_of_nodup (rise_nodup (darts_rise h.g.ids)) ?_).2 fun d => ?_
  · unfold List.Nodup
    rw [List.pairwise_flatten]
    refine ⟨fun t ht => h.nodup ht, ?_⟩
    rw [List.pairwise_iff_getElem]
    intro a b ha hb hab x hx y hy
    rintro rfl
    have h1 := h.ok a (by rw [← h.len]; exact ha)
    have h2 := h.ok b (by rw [← h.len]; exact hb)
    rw [getR_lt _ _ ha] at h1
    rw [getR_lt _ _ hb] at h2
    have h3 := at_unique h.g.ids (h1.1.mem_iff.1 hx) (h2.1.mem_iff.1 hy)
    have ha' : a < m.g.vs.length := by rw [← h.len]; exact ha
    have hb' : b < m.g.vs.length := by rw [← h.len]; exact hb
    rw [getD_lt _ _ ha', getD_lt _ _ hb'] at h3
    have := List.pairwise_iff_getElem.1 h.g.rise a b ha' hb' hab
    omega
  · rw [List.mem_flatten]
    exact ⟨fun hd => h.turn_of hd, fun ⟨t, ht, hd⟩ => h.turn_dart ht hd⟩
theorem MapOk.ncl_sg : ncl (Orb (sg m)) (darts m.g.es) + alone m.g = m.g.vs.length := by
  have hfc : fc m [] = sg m := by funext d; simp [fc, al]
  have hP : Per (sg m) := by rw [← hfc]; exact h.fc_per [] (fun x hx => by cases hx)
  have hst : ∀ t ∈ m.rots, ∀ n x, x ∈ t → it (sg m) n x ∈ t := by
    intro t ht n
    induction n with
    | zero => intro x hx; exact hx
    | succ n ih => intro x hx; exact ih _ (h.sg_mem ht hx)
  have hit : ∀ t ∈ m.rots, ∀ n x, x ∈ t → it (sg m) n x = it (nx t) n x := by
    intro t ht n
    induction n with
    | zero => intro x hx; rfl
    | succ n ih => intro x hx; rw [it_succ, it_succ, ih x hx, sg_at h ht]; rw [← ih x hx]; exact hst t ht n x hx
  rw [ncl_perm hP.eqv h.flat_perm, ncl_rows]
  · have := filter_eq (fun t => decide (t ≠ [])) (fun v => decide (nbr m.g.es v = [])) m.rots m.g.vs h.len fun k h1 h2 => ?_
    · rw [← h.len]; exact this
    · have hk := h.ok k h2
      rw [getR_lt _ _ h1, getD_lt _ _ h2] at hk
      have e1 : m.rots[k] = [] ↔ nbr m.g.es m.g.vs[k] = [] := by
        rw [← ends_nil]
        constructor
        · intro h3; have := hk.1; rw [h3] at this; exact this.symm.eq_nil
        · intro h3; have := hk.1; rw [h3] at this; exact this.eq_nil
      by_cases h3 : m.rots[k] = []
      · simp [h3, e1.1 h3]
      · have h5 : ¬ nbr m.g.es m.g.vs[k] = [] := fun h4 => h3 (e1.2 h4)
        simp [h3, h5]
  · intro t ht x hx y hy
    obtain ⟨n, hn⟩ := nx_orb (h.nodup ht) hx hy
    exact ⟨n, by rw [hit t ht n x hx, hn]⟩
  · rw [List.pairwise_iff_getElem]
    rintro a b ha hb hab x hx y hy ⟨n, hn⟩
    have h4 := hst _ (List.getElem_mem hb) n y hy
    rw [hn] at h4
    have h1 := h.ok a (by rw [← h.len]; exact ha)
    have h2 := h.ok b (by rw [← h.len]; exact hb)
    rw [getR_lt _ _ ha] at h1
    rw [getR_lt _ _ hb] at h2
    have h3 := at_unique h.g.ids (h1.1.mem_iff.1 hx) (h2.1.mem_iff.1 h4)
    have ha' : a < m.g.vs.length := by rw [← h.len]; exact ha
    have hb' : b < m.g.vs.length := by rw [← h.len]; exact hb
    rw [getD_lt _ _ ha', getD_lt _ _ hb'] at h3
    have := List.pairwise_iff_getElem.1 h.g.rise a b ha' hb' hab
    omega
theorem MapOk.euler_at (j : Nat) (hj : j ≤ m.g.es.length) : ∃ k : Nat, 2 * ncl (Reach (m.g.es.take j)) m.g.vs + j = 2 * k + alone m.g + m.g.vs.length + ncl (Orb (fc m (m.g.es.take j))) (darts m.g.es) := by
  induction j with
  | zero =>
    have hfc : fc m [] = sg m := by funext d; simp [fc, al]
    refine ⟨0, ?_⟩
    rw [List.take_zero, hfc, ncl_one (fun x y => reach_nil) h.g.toGood.nodup]
    have := h.ncl_sg
    omega
  | succ j ih =>
    obtain ⟨k, hk⟩ := ih (by omega)
    have hs : ∀ i, ∀ x ∈ m.g.es.take i, x ∈ m.g.es := fun i x hx => List.mem_of_mem_take hx
    have hp := h.fc_per (m.g.es.take j) (hs j)
    have hp' := h.fc_per (m.g.es.take (j + 1)) (hs (j + 1))
    have htk : m.g.es.take (j + 1) = m.g.es.take j ++ [m.g.es[j]] := List.take_succ_eq_append_getElem (by omega)
    have hxin : m.g.es[j] ∈ m.g.es := List.getElem_mem _
    have hxno : ∀ y ∈ m.g.es.take j, y.id ≠ m.g.es[j].id := by
      intro y hy
      obtain ⟨i, hi, rfl⟩ := List.getElem_of_mem hy
      rw [List.length_take] at hi
      rw [List.getElem_take]
      have := List.pairwise_iff_getElem.1 h.g.ids i j (by omega) (by omega) (by omega)
      omega
    generalize m.g.es[j] = x at *
    have hf' : ∀ d, fc m (m.g.es.take (j + 1)) d = fc m (m.g.es.take j) (sw (2 * x.id) (2 * x.id + 1) d) := by
      intro d
      unfold fc
      congr 1
      by_cases h1 : d = 2 * x.id
      · subst h1
        rw [sw_a, al_in (darts_half.2 ⟨x, by rw [htk]; simp, by omega⟩), al_out]
        · unfold tw; rw [if_pos (by omega)]
        · intro hd
          obtain ⟨y, hy, h2⟩ := darts_half.1 hd
          exact hxno y hy (by omega)
      · by_cases h2 : d = 2 * x.id + 1
        · subst h2
          rw [sw_b, al_in (darts_half.2 ⟨x, by rw [htk]; simp, by omega⟩), al_out]
          · unfold tw; rw [if_neg (by omega)]; omega
          · intro hd
            obtain ⟨y, hy, h2⟩ := darts_half.1 hd
            exact hxno y hy (by omega)
        · rw [sw_o h1 h2]
          by_cases h3 : d ∈ darts (m.g.es.take j)
          · rw [al_in h3, al_in]
            obtain ⟨y, hy, h4⟩ := darts_half.1 h3
            exact darts_half.2 ⟨y, by rw [htk]; simp [hy], h4⟩
          · rw [al_out h3, al_out]
            intro hd
            obtain ⟨y, hy, h4⟩ := darts_half.1 hd
            rw [htk, List.mem_append, List.mem_singleton] at hy
            rcases hy with hy | rfl
            · exact h3 (darts_half.2 ⟨y, hy, h4⟩)
            · omega
    have ha : 2 * x.id ∈ darts m.g.es := mem_darts.2 ⟨x, hxin, .inl rfl⟩
    have hb : 2 * x.id + 1 ∈ darts m.g.es := mem_darts.2 ⟨x, hxin, .inr rfl⟩
    have hR : ∀ v w, Reach (m.g.es.take (j + 1)) v w ↔ Eu.Mg (Reach (m.g.es.take j)) x.a x.b v w := fun v w => by rw [htk]; exact reach_snoc _ _ _ _
    have hRn : ncl (Reach (m.g.es.take (j + 1))) m.g.vs = ncl (Eu.Mg (Reach (m.g.es.take j)) x.a x.b) m.g.vs := ncl_congr fun v _ w _ => hR v w
    rw [hRn]
    by_cases ho : Orb (fc m (m.g.es.take j)) (2 * x.id) (2 * x.id + 1)
    · have h1 := ncl_split hp hp' hf' (by omega) ha hb ho
      have hr : Reach (m.g.es.take j) x.a x.b := by
        obtain ⟨n, hn⟩ := ho
        obtain ⟨w, h2, h3⟩ := h.orb_reach (m.g.es.take j) (hs j) n (mem_ends.2 ⟨x, hxin, .inl ⟨rfl, rfl⟩⟩)
        rw [hn] at h2
        rwa [at_unique h.g.ids h2 (mem_ends.2 ⟨x, hxin, .inr ⟨rfl, rfl⟩⟩)] at h3
      have h2 : ncl (Eu.Mg (Reach (m.g.es.take j)) x.a x.b) m.g.vs = ncl (Reach (m.g.es.take j)) m.g.vs := ncl_congr fun v _ w _ => Mg.same (reach_eqv _) hr v w
      rw [h2, h1]
      exact ⟨k, by omega⟩
    · have h1 := ncl_join hp hp' hf' ha hb ho
      by_cases hr : Reach (m.g.es.take j) x.a x.b
      · have h2 : ncl (Eu.Mg (Reach (m.g.es.take j)) x.a x.b) m.g.vs = ncl (Reach (m.g.es.take j)) m.g.vs := ncl_congr fun v _ w _ => Mg.same (reach_eqv _) hr v w
        rw [h2]
        exact ⟨k + 1, by omega⟩
      · have h2 := ncl_mg (reach_eqv _) hr (h.g.ends x hxin).1 (h.g.ends x hxin).2
        exact ⟨k, by omega⟩
theorem MapOk.euler : ∃ k : Nat, 2 * ncl (Reach m.g.es) m.g.vs + m.g.es.length = 2 * k + alone m.g + m.g.vs.length + ncl (Orb (fc m m.g.es)) (darts m.g.es) := by
  have := h.euler_at m.g.es.length (Nat.le_refl _)
  rwa [List.take_length] at this
end

/-! ### parts and faces, counted -/
theorem PartsTo.ncl {g : Gr} {k : Nat} {R : List (List Int)} (h : PartsTo g k R) : R.length = Eu.ncl (Reach g.es) (g.vs.take k).reverse := by
  induction h with
  | zero => rfl
  | @seen k R _ hk hs ih =>
    rw [List.take_succ_eq_append_getElem hk, List.reverse_append, List.reverse_singleton, List.singleton_append, ncl_cons_in, ih]
    obtain ⟨u, hu, hr⟩ := hs
    rw [getD_lt _ _ hk] at hr
    exact ⟨u, List.mem_reverse.2 hu, hr⟩
  | @lead k R c _ hk hs _ ih =>
    rw [List.take_succ_eq_append_getElem hk, List.reverse_append, List.reverse_singleton, List.singleton_append, ncl_cons_new, List.length_append, ih]
    · rfl
    · rintro ⟨u, hu, hr⟩
      rw [← getD_lt _ _ hk] at hr
      exact hs ⟨u, List.mem_reverse.1 hu, hr⟩
theorem PartsTo.all {g : Gr} {R : List (List Int)} (h : PartsTo g g.vs.length R) : R.length = Eu.ncl (Reach g.es) g.vs := by
  rw [h.ncl, List.take_length]
  exact ncl_perm (reach_eqv _) (List.reverse_perm _)

def SeenD (f : Int → Int) (ds : List Int) (k : Nat) (x : Int) : Prop := ∃ y ∈ ds.take k, Orb f y x
/-- The cycles, as they come from the first darts. -/
inductive Lead (f : Int → Int) (ds : List Int) : Nat → List (List Int) → Prop
  | zero : Lead f ds 0 []
  | seen {k : Nat} {R : List (List Int)} (h : Lead f ds k R) (hk : k < ds.length) (hs : SeenD f ds k (ds.getD k 0)) : Lead f ds (k + 1) R
  | lead {k : Nat} {R : List (List Int)} {c : List Int} (h : Lead f ds k R) (hk : k < ds.length) (hs : ¬ SeenD f ds k (ds.getD k 0)) (hc : IsCyc f (ds.getD k 0) c) : Lead f ds (k + 1) (R ++ [c])
theorem Lead.unique {f : Int → Int} {ds : List Int} {k : Nat} {R R' : List (List Int)} (h : Lead f ds k R) (h' : Lead f ds k R') : R = R' := by
  induction h generalizing R' with
  | zero => cases h'; rfl
  | seen _ _ hs ih =>
    cases h' with
    | seen h2 _ _ => exact ih h2
    | lead h2 _ hs2 _ => exact absurd hs hs2
  | lead _ _ hs hc ih =>
    cases h' with
    | seen h2 _ hs2 => exact absurd hs2 hs
    | lead h2 _ _ hc2 => rw [ih h2, hc.unique hc2]
theorem Lead.len {f : Int → Int} {ds : List Int} {k : Nat} {R : List (List Int)} (h : Lead f ds k R) : R.length ≤ k := by
  induction h with
  | zero => simp
  | seen _ _ _ ih => omega
  | lead _ _ _ _ ih => simp; omega
theorem Lead.ncl {f : Int → Int} {ds : List Int} {k : Nat} {R : List (List Int)} (h : Lead f ds k R) : R.length = Eu.ncl (Orb f) (ds.take k).reverse := by
  induction h with
  | zero => rfl
  | @seen k R _ hk hs ih =>
    rw [List.take_succ_eq_append_getElem hk, List.reverse_append, List.reverse_singleton, List.singleton_append, ncl_cons_in, ih]
    obtain ⟨u, hu, hr⟩ := hs
    rw [getD_lt _ _ hk] at hr
    exact ⟨u, List.mem_reverse.2 hu, hr⟩
  | @lead k R c _ hk hs _ ih =>
    rw [List.take_succ_eq_append_getElem hk, List.reverse_append, List.reverse_singleton, List.singleton_append, ncl_cons_new, List.length_append, ih]
    · rfl
    · rintro ⟨u, hu, hr⟩
      rw [← getD_lt _ _ hk] at hr
      exact hs ⟨u, List.mem_reverse.1 hu, hr⟩
theorem Lead.all {f : Int → Int} (hf : Per f) {ds : List Int} {R : List (List Int)} (h : Lead f ds ds.length R) : R.length = Eu.ncl (Orb f) ds := by
  rw [h.ncl, List.take_length]
  exact ncl_perm hf.eqv (List.reverse_perm _)
theorem seenD_succ {f : Int → Int} {ds : List Int} {k : Nat} (hk : k < ds.length) {x : Int} : SeenD f ds (k + 1) x ↔ SeenD f ds k x ∨ Orb f (ds.getD k 0) x := by
  unfold SeenD
  rw [List.take_succ_eq_append_getElem hk, getD_lt _ _ hk]
  constructor
  · rintro ⟨u, hu, hr⟩
    rw [List.mem_append, List.mem_singleton] at hu
    rcases hu with hu | rfl
    · exact .inl ⟨u, hu, hr⟩
    · exact .inr hr
  · rintro (⟨u, hu, hr⟩ | hr)
    · exact ⟨u, List.mem_append_left _ hu, hr⟩
    · exact ⟨_, List.mem_append_right _ (List.mem_singleton.2 rfl), hr⟩
theorem seenD_same {f : Int → Int} {ds : List Int} {k : Nat} (hk : k < ds.length) (hs : SeenD f ds k (ds.getD k 0)) {x : Int} : SeenD f ds (k + 1) x ↔ SeenD f ds k x := by
  rw [seenD_succ hk]
  refine ⟨fun h => h.elim id fun h => ?_, .inl⟩
  obtain ⟨y, hy, hr⟩ := hs
  exact ⟨y, hy, hr.trans h⟩
theorem IsCyc.head {f : Int → Int} {d : Int} {c : List Int} (h : IsCyc f d c) : ∃ r, c = d :: r := by
  obtain ⟨p, hp, rfl, _, _⟩ := h
  obtain ⟨q, rfl⟩ : ∃ q, p = q + 1 := ⟨p - 1, by omega⟩
  rw [List.range_succ_eq_map]
  exact ⟨_, rfl⟩
theorem nrm_head (c : List Int) (h : c ≠ []) : ∃ r, nrm c = mn c :: r := by
  have hm := mn_mem h
  have hlt := List.idxOf_lt_length_of_mem hm
  have hl : 0 < (nrm c).length := by rw [nrm_length]; omega
  have h0 := nrm_get c 0 (by omega)
  simp only [Nat.add_zero, Nat.mod_eq_of_lt hlt, List.getElem_idxOf] at h0
  cases hn : nrm c with
  | nil => rw [hn] at hl; simp at hl
  | cons a r => simp only [hn, List.getElem_cons_zero] at h0; rw [h0]; exact ⟨r, rfl⟩

end Go.Proofs.YtlnefdmdabhobaaGreat.Aw

namespace Go.Proofs.YtlnefdmdabhobaaGreat.Aw
open Go Go.RowKit Go.Proofs.YtlnefdmdabhobaaGreat.Pl
set_option linter.unusedSimpArgs false
set_option linter.unusedVariables false

/-- Names, and one more thing that is named. -/
def enm (L : List Int) (x : Int) : List Int := if x ∈ L then L else L ++ [x]
def nms (L xs : List Int) : List Int := xs.foldl enm L
def num (L : List Int) (x : Int) : Int := (L.idxOf x : Int) + 1
theorem nms_snoc (L xs : List Int) (x : Int) : nms L (xs ++ [x]) = enm (nms L xs) x := by simp [nms, List.foldl_append]
theorem enm_pre (L : List Int) (x : Int) : ∃ D, enm L x = L ++ D := by
  unfold enm; split
  · exact ⟨[], by simp⟩
  · exact ⟨[x], rfl⟩
theorem nms_pre (xs : List Int) : ∀ L, ∃ D, nms L xs = L ++ D := by
  induction xs with
  | nil => intro L; exact ⟨[], by simp [nms]⟩
  | cons x xs ih =>
    intro L
    obtain ⟨D, hD⟩ := enm_pre L x
    obtain ⟨D2, hD2⟩ := ih (enm L x)
    exact ⟨D ++ D2, by rw [show nms L (x :: xs) = nms (enm L x) xs from rfl, hD2, hD]; simp⟩
theorem nms_append (L xs ys : List Int) : nms L (xs ++ ys) = nms (nms L xs) ys := by simp [nms, List.foldl_append]
theorem mem_enm {L : List Int} {x y : Int} : y ∈ enm L x ↔ y ∈ L ∨ y = x := by
  unfold enm; split
  · rename_i h
    constructor
    · exact .inl
    · rintro (h1 | rfl)
      · exact h1
      · exact h
  · simp
theorem mem_nms (xs : List Int) : ∀ {L : List Int} {y : Int}, y ∈ nms L xs ↔ y ∈ L ∨ y ∈ xs := by
  induction xs with
  | nil => intro L y; simp [nms]
  | cons x xs ih =>
    intro L y
    rw [show nms L (x :: xs) = nms (enm L x) xs from rfl, ih, mem_enm, List.mem_cons, or_assoc]
theorem enm_nodup {L : List Int} (h : L.Nodup) (x : Int) : (enm L x).Nodup := by
  unfold enm; split
  · exact h
  · rename_i hx
    rw [List.nodup_append]
    refine ⟨h, by simp, fun a ha b hb e => ?_⟩
    simp at hb
    subst hb; subst e
    exact hx ha
theorem nms_nodup (xs : List Int) : ∀ {L : List Int}, L.Nodup → (nms L xs).Nodup := by
  induction xs with
  | nil => intro L h; exact h
  | cons x xs ih => intro L h; exact ih (enm_nodup h x)
theorem num_app {L : List Int} {x : Int} (h : x ∈ L) (D : List Int) : num (L ++ D) x = num L x := by
  unfold num; rw [List.idxOf_append, if_pos h]
theorem num_old {L : List Int} {x : Int} (h : x ∈ L) : enm L x = L ∧ 1 ≤ num L x ∧ num L x ≤ L.length := by
  have := List.idxOf_lt_length_of_mem h
  refine ⟨by unfold enm; rw [if_pos h], ?_, ?_⟩ <;> unfold num <;> omega
theorem num_new {L : List Int} {x : Int} (h : x ∉ L) : enm L x = L ++ [x] ∧ num (L ++ [x]) x = (L.length : Int) + 1 := by
  refine ⟨by unfold enm; rw [if_neg h], ?_⟩
  unfold num
  rw [List.idxOf_append, if_neg h]
  simp
theorem num_inj {L : List Int} {x y : Int} (hx : x ∈ L) (hy : y ∈ L) (h : num L x = num L y) : x = y := by
  unfold num at h
  have h1 := List.getElem_idxOf (List.idxOf_lt_length_of_mem hx)
  have h2 := List.getElem_idxOf (List.idxOf_lt_length_of_mem hy)
  have e : L.idxOf x = L.idxOf y := by omega
  rw [← h1, ← h2]
  congr 1
/-- A step of the law: the number is at most one more than the greatest so far, which grows with it. -/
theorem num_step (L xs : List Int) (x : Int) (ys : List Int) : 1 ≤ num (nms L (xs ++ x :: ys)) x ∧ num (nms L (xs ++ x :: ys)) x ≤ ((nms L xs).length : Int) + 1 ∧ max ((nms L xs).length : Int) (num (nms L (xs ++ x :: ys)) x) = ((nms L (xs ++ [x])).length : Int) := by
  have e : nms L (xs ++ x :: ys) = nms (nms L (xs ++ [x])) ys := by rw [← nms_append]; simp
  obtain ⟨D, hD⟩ := nms_pre ys (nms L (xs ++ [x]))
  have hin : x ∈ nms L (xs ++ [x]) := (mem_nms _).2 (.inr (by simp))
  rw [e, hD, num_app hin]
  rw [nms_snoc] at hin ⊢
  by_cases hx : x ∈ nms L xs
  · obtain ⟨h1, h2, h3⟩ := num_old hx
    rw [h1]
    omega
  · obtain ⟨h1, h2⟩ := num_new hx
    rw [h1, h2, List.length_append, List.length_singleton]
    omega
theorem len_counts : ∀ (E xs : List Int), E.Nodup → (∀ x ∈ xs, x ∈ E) → xs.length = (E.map fun e => xs.countP fun x => decide (x = e)).sum
  | [], xs, _, h => by
    cases xs with
    | nil => rfl
    | cons x xs => exact absurd (h x (by simp)) (by simp)
  | e :: E, xs, hn, h => by
    rw [List.nodup_cons] at hn
    have ih := len_counts E (xs.filter fun x => decide (x ≠ e)) hn.2 fun x hx => by
      obtain ⟨h1, h2⟩ := List.mem_filter.1 hx
      rcases List.mem_cons.1 (h x h1) with rfl | h3
      · simp at h2
      · exact h3
    have e1 : xs.length = (xs.countP fun x => decide (x = e)) + (xs.filter fun x => decide (x ≠ e)).length := by
      rw [List.countP_eq_length_filter]
      clear ih h
      induction xs with
      | nil => rfl
      | cons y ys ih2 =>
        by_cases hy : y = e
        · simp [hy] at ih2 ⊢; omega
        · simp [hy] at ih2 ⊢; omega
    rw [e1, ih, List.map_cons, List.sum_cons]
    congr 2
    refine List.map_congr_left fun y hy => ?_
    rw [List.countP_filter]
    refine List.countP_congr fun x _ => ?_
    have hye : y ≠ e := fun he => hn.1 (he ▸ hy)
    by_cases hxy : x = y
    · subst hxy; simp [hye]
    · simp [hxy]
theorem twice_len {xs : List Int} (h : ∀ e ∈ xs, (xs.countP fun x => decide (x = e)) = 2) : xs.length = 2 * (nms [] xs).length := by
  have h1 := len_counts (nms [] xs) xs (nms_nodup xs (by simp)) fun x hx => (mem_nms _).2 (.inr hx)
  have h2 : ∀ (E : List Int), (∀ e ∈ E, e ∈ xs) → (E.map fun e => xs.countP fun x => decide (x = e)).sum = 2 * E.length := by
    intro E
    induction E with
    | nil => intro _; rfl
    | cons e E ih =>
      intro hE
      rw [List.map_cons, List.sum_cons, ih fun y hy => hE y (List.mem_cons_of_mem _ hy), h e (hE e (by simp)), List.length_cons]
      omega
  rw [h1, h2 _ fun e he => ?_]
  rcases (mem_nms _).1 he with h3 | h3
  · simp at h3
  · exact h3

/-- The vertex at a dart's other end. -/
def awy (es : List Ed) (d : Int) : Int := match es.find? (fun x => decide (x.id = d / 2)) with
  | some x => if d % 2 = 0 then x.b else x.a
  | none => 0
def hom (es : List Ed) (d : Int) : Int := match es.find? (fun x => decide (x.id = d / 2)) with
  | some x => if d % 2 = 0 then x.a else x.b
  | none => 0
theorem find_id {es : List Ed} (hi : es.Pairwise fun x y => x.id < y.id) {x : Ed} (hx : x ∈ es) : es.find? (fun y => decide (y.id = x.id)) = some x := by
  cases h : es.find? (fun y => decide (y.id = x.id)) with
  | none =>
    have := List.find?_eq_none.1 h x hx
    simp at this
  | some y =>
    have h1 := List.find?_some h
    have h2 := List.mem_of_find?_eq_some h
    simp only [decide_eq_true_eq] at h1
    rw [id_eq hi h2 hx h1]
theorem dart_ends {es : List Ed} (hi : es.Pairwise fun x y => x.id < y.id) {d : Int} (hd : d ∈ darts es) : d ∈ ends es (hom es d) ∧ tw d ∈ ends es (awy es d) ∧ awy es d ∈ nbr es (hom es d) := by
  obtain ⟨x, hx, h1 | h1⟩ := mem_darts.1 hd
  · have hf := find_id hi hx
    rw [show x.id = d / 2 by omega] at hf
    have e1 : hom es d = x.a := by unfold hom; rw [hf]; simp; omega
    have e2 : awy es d = x.b := by unfold awy; rw [hf]; simp; omega
    rw [e1, e2]
    exact ⟨mem_ends.2 ⟨x, hx, .inl ⟨rfl, h1⟩⟩, mem_ends.2 ⟨x, hx, .inr ⟨rfl, by unfold tw; split <;> omega⟩⟩, mem_nbr.2 ⟨x, hx, .inl ⟨rfl, rfl⟩⟩⟩
  · have hf := find_id hi hx
    rw [show x.id = d / 2 by omega] at hf
    have e1 : hom es d = x.b := by unfold hom; rw [hf]; simp; omega
    have e2 : awy es d = x.a := by unfold awy; rw [hf]; simp; omega
    rw [e1, e2]
    exact ⟨mem_ends.2 ⟨x, hx, .inr ⟨rfl, h1⟩⟩, mem_ends.2 ⟨x, hx, .inl ⟨rfl, by unfold tw; split <;> omega⟩⟩, mem_nbr.2 ⟨x, hx, .inr ⟨rfl, rfl⟩⟩⟩

/-- All darts of a part, told vertex by vertex as they are found. -/
structure IsWk (es : List Ed) (home : Int) (DD : List Int) : Prop where
  nd : DD.Nodup
  verts : ∀ w, w ∈ nms [home] (DD.map (awy es)) ↔ Reach es home w
  all : ∀ x, x ∈ DD ↔ ∃ v ∈ nms [home] (DD.map (awy es)), x ∈ ends es v
theorem IsWk.twice {es : List Ed} (hi : es.Pairwise fun x y => x.id < y.id) {home : Int} {DD : List Int} (h : IsWk es home DD) : ∀ e ∈ DD.map (fun d => d / 2), ((DD.map fun d => d / 2).countP fun x => decide (x = e)) = 2 := by
  intro e he
  obtain ⟨d, hd, rfl⟩ := List.mem_map.1 he
  rw [List.countP_map, List.countP_eq_length_filter]
  have hin : ∀ x ∈ DD, tw x ∈ DD := fun x hx => by
    obtain ⟨v, hv, hxv⟩ := (h.all x).1 hx
    have hxd := ends_dart hxv
    obtain ⟨h1, h2, h3⟩ := dart_ends hi hxd
    refine (h.all _).2 ⟨_, ?_, h2⟩
    rw [at_unique hi hxv h1] at hv
    rw [h.verts] at hv ⊢
    exact hv.step h3
  have hp : (DD.filter ((fun x => decide (x = d / 2)) ∘ fun d => d / 2)).Perm [d, tw d] := by
    have hne : d ≠ tw d := by unfold tw; split <;> omega
    refine (List.perm_ext_iff_of_nodup (h.nd.filter _) (by simp [hne])).2 fun x => ?_
    rw [List.mem_filter]
    simp only [Function.comp_apply, decide_eq_true_eq, List.mem_cons, List.not_mem_nil, or_false]
    constructor
    · rintro ⟨_, h2⟩
      unfold tw; split <;> omega
    · rintro (rfl | rfl)
      · exact ⟨hd, rfl⟩
      · exact ⟨hin d hd, twHalf d⟩
  rw [hp.length_eq]; rfl

end Go.Proofs.YtlnefdmdabhobaaGreat.Aw
