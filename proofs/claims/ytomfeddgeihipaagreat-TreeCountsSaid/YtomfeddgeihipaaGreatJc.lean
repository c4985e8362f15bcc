/- Graphs: Check, by the program and by the document; the law GraphChecks. Graphs and maps, made: Clone of edges, copied, Of; Same. Maps, made of turns: Of; the law RotMakes. The law RotMakes. Graphs: Ends. Graphs: near, Alone. What hangs together in a graph. No program. Graphs: Parts. Graphs: the document's parts. Graphs: the document's Parts; places of edges. Graphs: Keep. Graphs that may be; what the parts have together. No program. Maps that may be: darts, turns, faces; twice the genus is even, and not less than 0. No program. What three graphs come to. No program. Plain: edges beside each other, of each bundle one, rows of near vertices. No program. Plain: the way from one vertex to another one, as it is sought. No program. Plain: the document's way from one vertex to another one. No program. -/
import Derived.Test.YtomfeddgeihipaaGreatJb
import Derived.Test.YtomfeddgeihipaaGreatAwShp
namespace Go.Proofs.YtomfeddgeihipaaGreat.Aw
open Go Go.RowKit Go.Proofs.YtomfeddgeihipaaGreat.Pl
set_option linter.unusedSimpArgs false
set_option linter.unusedVariables false

theorem ref_Check (g : Gr) (st : St) (hv : g.vs.length ≤ 1000) (he : g.es.length ≤ 1000) :
    ACalls Tryz.prog 24 [.ag (grL g)] st fun r st' => r = i (chk g) ∧ Keeps st st' := by
  have hsm : small g.vs := by unfold small; omega
  refine acalls_of_body tabOk Tryz.func24 rfl rfl Tryz.ntmps24 (rs := [.tmp 2]) rfl (by simp) ?_
  by_cases h1 : (64 : Int) < (g.vs.length : Int)
  · have : chk g = 6 := by unfold chk; rw [if_pos (by omega)]
    (repeat' (first | refine awp_seq ?_ | (refine awp_ret ?_; simp only [ak, reduceIte]; simp [h1, this]) | (refine awp_cond ?_; simp [h1, this]) | (refine w_e [] ?_; intro J hJ; simp only []; simp [h1, this]; (refine hJ _ _ ?_; clear hJ J; simp only [ak, reduceIte]))))
    exact Keeps.new _ _
  by_cases h2 : (160 : Int) < (g.es.length : Int)
  · have : chk g = 6 := by unfold chk; rw [if_pos (by omega)]
    (repeat' (first | refine awp_seq ?_ | (refine awp_ret ?_; simp only [ak, reduceIte]; simp [h1, h2, this]) | (refine awp_cond ?_; simp [h1, h2, this]) | (refine w_e [] ?_; intro J hJ; simp only []; simp [h1, h2, this]; (refine hJ _ _ ?_; clear hJ J; simp only [ak, reduceIte]))))
    exact Keeps.new _ _
  have hch : chk g = if firstNZ (badV g) g.vs.length ≠ 0 then firstNZ (badV g) g.vs.length else firstNZ (badE g) g.es.length := by unfold chk; rw [if_neg (by omega)]
  (repeat' (first | refine awp_seq ?_ | refine awp_block ?_ | (refine awp_skip ?_; simp only [ak, reduceIte]) | (refine awp_cond ?_; simp [h1, h2]) | (refine w_e [] ?_; intro J hJ; simp only []; simp [h1, h2]; (refine hJ _ _ ?_; clear hJ J; simp only [ak, reduceIte]))))
  refine awp_loop (fun n fr st' => ∃ k : Nat, k ≤ g.vs.length ∧ n = g.vs.length - k ∧ fr 1 = .pt st.next 0 ∧ fr 18 = .sl 0 g.vs.length (us g.vs) ∧ fr 19 = i g.vs.length ∧ fr 20 = i k ∧ st' = st.new (.box 38 2 (grL g)) ∧ ∀ j, j < k → badV g j = 0) g.vs.length ?_ ?_
  · exact ⟨0, by omega, by omega, by simp, by simp, by simp, by simp, rfl, fun j h => by omega⟩
  rintro n fr st' ⟨k, hk, rfl, f1, f18, f19, f20, rfl, hno⟩ JJ hJJ
  by_cases hlt : k < g.vs.length
  · have hd := us_drop_getD g.vs k hlt
    have hw := nat_add_one k (by omega)
    have hbad : badV g k = numb (g.vs.getD k 0) (g.vs.getD (k - 1) 0) (decide (k = 0)) := rfl
    have hnext : badV g k = 0 → ∀ j, j < k + 1 → badV g j = 0 := fun hb j hj => by
      rcases Nat.lt_or_ge j k with h | h
      · exact hno j h
      · obtain rfl : j = k := by omega
        exact hb
    have hret : ∀ v, badV g k = v → v ≠ 0 → chk g = v := fun v h0 h1 => by
      have hf := firstNZ_eq hlt hno h0 h1
      rw [hch, hf, if_pos h1]
    generalize hx : g.vs.getD k 0 = x at *
    by_cases hx1 : x < 1
    · have hr := hret 2 (by rw [hbad]; unfold numb; rw [if_pos (.inl hx1)]) (by decide)
      (repeat' (first | refine awp_seq ?_ | refine awp_block ?_ | (refine awp_skip ?_; simp only [ak, reduceIte]) | (refine awp_ret ?_; simp only [ak, reduceIte]; simp [f1, f18, f19, f20, hlt, hd, hw, hx1, hr]) | (refine awp_cond ?_; simp [f1, f18, f19, f20, hlt, hd, hw, hx1, hr]) | (refine w_e [] ?_; intro J hJ; simp only []; simp [f1, f18, f19, f20, hlt, hd, hw, hx1, hr]; (refine hJ _ _ ?_; clear hJ J; simp only [ak, reduceIte]))))
      exact Keeps.new _ _
    by_cases hx2 : 1048576 < x
    · have hr := hret 2 (by rw [hbad]; unfold numb; rw [if_pos (.inr hx2)]) (by decide)
      (repeat' (first | refine awp_seq ?_ | refine awp_block ?_ | (refine awp_skip ?_; simp only [ak, reduceIte]) | (refine awp_ret ?_; simp only [ak, reduceIte]; simp [f1, f18, f19, f20, hlt, hd, hw, hx1, hx2, hr]) | (refine awp_cond ?_; simp [f1, f18, f19, f20, hlt, hd, hw, hx1, hx2, hr]) | (refine w_e [] ?_; intro J hJ; simp only []; simp [f1, f18, f19, f20, hlt, hd, hw, hx1, hx2, hr]; (refine hJ _ _ ?_; clear hJ J; simp only [ak, reduceIte]))))
      exact Keeps.new _ _
    by_cases h0 : k = 0
    · have hb : badV g k = 0 := by rw [hbad]; unfold numb; rw [if_neg (by simp [hx1, hx2])]; simp [h0]
      have hk0 : ¬ 0 < k := by omega
      (repeat' (first | refine awp_seq ?_ | refine awp_block ?_ | (refine awp_skip ?_; simp only [ak, reduceIte]) | (refine awp_cond ?_; simp [f1, f18, f19, f20, hlt, hd, hw, hx1, hx2, hk0]) | (refine w_e [] ?_; intro J hJ; simp only []; simp [f1, f18, f19, f20, hlt, hd, hw, hx1, hx2, hk0]; (refine hJ _ _ ?_; clear hJ J; simp only [ak, reduceIte]))))
      refine hJJ _ _ _ ?_ ⟨k + 1, by omega, rfl, by simp [f1], by simp [f18], by simp [f19], by simp, rfl, hnext hb⟩
      omega
    · have hk0 : 0 < k := by omega
      have hw1 : IntKind.i64.wrap ((k : Int) - 1) = ((k - 1 : Nat) : Int) := by rw [wrap_i64 _ (by omega) (by omega)]; omega
      have hd1 := us_drop_getD g.vs (k - 1) (by omega)
      have hlt1 : k - 1 < g.vs.length := by omega
      generalize hy : g.vs.getD (k - 1) 0 = y at *
      by_cases hle : x ≤ y
      · have hr := hret 19 (by rw [hbad]; unfold numb; rw [if_neg (by simp [hx1, hx2]), if_pos ⟨by simp [h0], hle⟩]) (by decide)
        (repeat' (first | refine awp_seq ?_ | refine awp_block ?_ | (refine awp_skip ?_; simp only [ak, reduceIte]) | (refine awp_ret ?_; simp only [ak, reduceIte]; simp [f1, f18, f19, f20, hlt, hd, hw, hx1, hx2, hk0, hw1, hd1, hlt1, hle, hr]) | (refine awp_cond ?_; simp [f1, f18, f19, f20, hlt, hd, hw, hx1, hx2, hk0, hw1, hd1, hlt1, hle, hr]) | (refine w_e [] ?_; intro J hJ; simp only []; simp [f1, f18, f19, f20, hlt, hd, hw, hx1, hx2, hk0, hw1, hd1, hlt1, hle, hr]; (refine hJ _ _ ?_; clear hJ J; simp only [ak, reduceIte]))))
        exact Keeps.new _ _
      · have hb : badV g k = 0 := by rw [hbad]; unfold numb; rw [if_neg (by simp [hx1, hx2]), if_neg (by simp [hle])]
        (repeat' (first | refine awp_seq ?_ | refine awp_block ?_ | (refine awp_skip ?_; simp only [ak, reduceIte]) | (refine awp_cond ?_; simp [f1, f18, f19, f20, hlt, hd, hw, hx1, hx2, hk0, hw1, hd1, hlt1, hle]) | (refine w_e [] ?_; intro J hJ; simp only []; simp [f1, f18, f19, f20, hlt, hd, hw, hx1, hx2, hk0, hw1, hd1, hlt1, hle]; (refine hJ _ _ ?_; clear hJ J; simp only [ak, reduceIte]))))
        refine hJJ _ _ _ ?_ ⟨k + 1, by omega, rfl, by simp [f1], by simp [f18], by simp [f19], by simp, rfl, hnext hb⟩
        omega
  have hk' : k = g.vs.length := by omega
  have hz : firstNZ (badV g) g.vs.length = 0 := firstNZ_zero (fun j hj => hno j (by omega))
  rw [hz] at hch
  simp only [ne_eq, not_true_eq_false, if_false] at hch
  clear hJJ hno hz
  have hel := eds_length g.es
  (repeat' (first | refine awp_seq ?_ | refine awp_block ?_ | (refine awp_exit ?_; simp only [ak, reduceIte]) | (refine awp_cond ?_; simp [f1, f18, f19, f20, hlt]) | (refine w_e [] ?_; intro J hJ; simp only []; simp [f1, f18, f19, f20, hlt]; (refine hJ _ _ ?_; clear hJ J; simp only [ak, reduceIte]))))
  refine awp_loop (fun n fr st' => ∃ k : Nat, k ≤ g.es.length ∧ n = g.es.length - k ∧ fr 1 = .pt st.next 0 ∧ fr 45 = .sl 0 g.es.length (eds g.es) ∧ fr 46 = i g.es.length ∧ fr 47 = i k ∧ Keeps (st.new (.box 38 2 (grL g))) st' ∧ ∀ j, j < k → badE g j = 0) g.es.length ?_ ?_
  · exact ⟨0, by omega, by omega, by simp [f1], by simp, by simp, by simp, Keeps.refl _, fun j h => by omega⟩
  clear f1 f18 f19 f20 hlt hk' hk fr k
  rintro n fr st1 ⟨k, hk, rfl, f1, f45, f46, f47, hkp, hno⟩ JJ hJJ
  have hgH : st1.H st.next = .box 38 2 (grL g) := by rw [hkp.H _ (by simp)]; simp
  have hnx : ¬ st.next = st1.next := by have := hkp.next; simp only [new_next] at this; omega
  have hkp0 := (Keeps.new st (.box 38 2 (grL g))).trans hkp
  by_cases hlt : k < g.es.length
  · have hd := eds_drop g.es k hlt
    have hw := nat_add_one k (by omega)
    have hk3 : k * 3 < g.es.length * 3 := by omega
    have hbad : badE g k = (let x := g.es.getD k ed0; let n := numb x.id (g.es.getD (k - 1) ed0).id (decide (k = 0)); if n ≠ 0 then n else if x.a = x.b then 20 else if x.a ∉ g.vs ∨ x.b ∉ g.vs then 21 else 0) := rfl
    have hnext : badE g k = 0 → ∀ j, j < k + 1 → badE g j = 0 := fun hb j hj => by
      rcases Nat.lt_or_ge j k with h | h
      · exact hno j h
      · obtain rfl : j = k := by omega
        exact hb
    have hret : ∀ v, badE g k = v → v ≠ 0 → chk g = v := fun v h0 h1 => by
      rw [hch]; exact firstNZ_eq hlt hno h0 h1
    generalize hx : g.es.getD k ed0 = x at *
    obtain ⟨xi, xa, xb⟩ := x
    simp only at hd hbad
    have hkn := hkp0.trans (Keeps.new _ (.box 43 3 [u xi, u xa, u xb]))
    by_cases hx1 : xi < 1
    · have hn : numb xi (g.es.getD (k - 1) ed0).id (decide (k = 0)) = 2 := by unfold numb; rw [if_pos (.inl hx1)]
      have hr := hret 2 (by rw [hbad, hn]; rfl) (by decide)
      (repeat' (first | refine awp_seq ?_ | refine awp_block ?_ | (refine awp_skip ?_; simp only [ak, reduceIte]) | (refine awp_ret ?_; simp only [ak, reduceIte]; simp [f1, f45, f46, f47, hlt, hd, hw, hel, hk3, hgH, hnx, hx1, hr]) | (refine awp_cond ?_; simp [f1, f45, f46, f47, hlt, hd, hw, hel, hk3, hgH, hnx, hx1, hr]) | (refine w_e [] ?_; intro J hJ; simp only []; simp [f1, f45, f46, f47, hlt, hd, hw, hel, hk3, hgH, hnx, hx1, hr]; (refine hJ _ _ ?_; clear hJ J; simp only [ak, reduceIte]))))
      exact hkn
    by_cases hx2 : 1048576 < xi
    · have hn : numb xi (g.es.getD (k - 1) ed0).id (decide (k = 0)) = 2 := by unfold numb; rw [if_pos (.inr hx2)]
      have hr := hret 2 (by rw [hbad, hn]; rfl) (by decide)
      (repeat' (first | refine awp_seq ?_ | refine awp_block ?_ | (refine awp_skip ?_; simp only [ak, reduceIte]) | (refine awp_ret ?_; simp only [ak, reduceIte]; simp [f1, f45, f46, f47, hlt, hd, hw, hel, hk3, hgH, hnx, hx1, hx2, hr]) | (refine awp_cond ?_; simp [f1, f45, f46, f47, hlt, hd, hw, hel, hk3, hgH, hnx, hx1, hx2, hr]) | (refine w_e [] ?_; intro J hJ; simp only []; simp [f1, f45, f46, f47, hlt, hd, hw, hel, hk3, hgH, hnx, hx1, hx2, hr]; (refine hJ _ _ ?_; clear hJ J; simp only [ak, reduceIte]))))
      exact hkn
    by_cases hnb : numb xi (g.es.getD (k - 1) ed0).id (decide (k = 0)) = 0
    rotate_left
    · -- the number doesn't rise
      have h0 : k ≠ 0 := by rintro rfl; apply hnb; unfold numb; rw [if_neg (by simp [hx1, hx2])]; simp
      have hle : xi ≤ (g.es.getD (k - 1) ed0).id := by
        unfold numb at hnb
        rw [if_neg (by simp [hx1, hx2])] at hnb
        by_cases h : decide (k = 0) = false ∧ xi ≤ (g.es.getD (k - 1) ed0).id
        · exact h.2
        · rw [if_neg h] at hnb; exact absurd rfl hnb
      have hn : numb xi (g.es.getD (k - 1) ed0).id (decide (k = 0)) = 19 := by unfold numb; rw [if_neg (by simp [hx1, hx2]), if_pos ⟨by simp [h0], hle⟩]
      have hr := hret 19 (by rw [hbad, hn]; rfl) (by decide)
      have hk0 : 0 < k := by omega
      have hw1 : IntKind.i64.wrap ((k : Int) - 1) = ((k - 1 : Nat) : Int) := by rw [wrap_i64 _ (by omega) (by omega)]; omega
      have hd1 := eds_drop g.es (k - 1) (by omega)
      have hlt1 : k - 1 < g.es.length := by omega
      have hlt3 : (k - 1) * 3 < g.es.length * 3 := by omega
      generalize hy : g.es.getD (k - 1) ed0 = y at *
      obtain ⟨yi, ya, yb⟩ := y
      simp only at hd1 hle
      (repeat' (first | refine awp_seq ?_ | refine awp_block ?_ | (refine awp_skip ?_; simp only [ak, reduceIte]) | (refine awp_ret ?_; simp only [ak, reduceIte]; simp [f1, f45, f46, f47, hlt, hd, hw, hel, hk3, hgH, hnx, hx1, hx2, hk0, hw1, hd1, hlt1, hlt3, hle, hr]) | (refine awp_cond ?_; simp [f1, f45, f46, f47, hlt, hd, hw, hel, hk3, hgH, hnx, hx1, hx2, hk0, hw1, hd1, hlt1, hlt3, hle, hr]) | ((first | (refine w_e [] ?_; intro J hJ; simp only []) | (refine w_q ?_; intro J hJ)); simp [f1, f45, f46, f47, hlt, hd, hw, hel, hk3, hgH, hnx, hx1, hx2, hk0, hw1, hd1, hlt1, hlt3, hle, hr]; (refine hJ _ _ ?_; clear hJ J; simp only [ak, reduceIte]))))
      exact hkn
    rw [if_neg (fun h => h hnb)] at hbad
    by_cases hab : xa = xb
    · have hr := hret 20 (by rw [hbad, if_pos hab]) (by decide)
      by_cases h0 : k = 0
      · have hk0 : ¬ 0 < k := by omega
        (repeat' (first | refine awp_seq ?_ | refine awp_block ?_ | (refine awp_skip ?_; simp only [ak, reduceIte]) | (refine awp_ret ?_; simp only [ak, reduceIte]; simp [f1, f45, f46, f47, hlt, hd, hw, hel, hk3, hgH, hnx, hx1, hx2, hk0, hab, hr]) | (refine awp_cond ?_; simp [f1, f45, f46, f47, hlt, hd, hw, hel, hk3, hgH, hnx, hx1, hx2, hk0, hab, hr]) | ((first | (refine w_e [] ?_; intro J hJ; simp only []) | (refine w_q ?_; intro J hJ)); simp [f1, f45, f46, f47, hlt, hd, hw, hel, hk3, hgH, hnx, hx1, hx2, hk0, hab, hr]; (refine hJ _ _ ?_; clear hJ J; simp only [ak, reduceIte]))))
        exact hkp0.trans (Keeps.new _ _)
      · have hk0 : 0 < k := by omega
        have hw1 : IntKind.i64.wrap ((k : Int) - 1) = ((k - 1 : Nat) : Int) := by rw [wrap_i64 _ (by omega) (by omega)]; omega
        have hd1 := eds_drop g.es (k - 1) (by omega)
        have hlt1 : k - 1 < g.es.length := by omega
        have hlt3 : (k - 1) * 3 < g.es.length * 3 := by omega
        have hle : ¬ xi ≤ (g.es.getD (k - 1) ed0).id := by
          intro h
          unfold numb at hnb
          rw [if_neg (by simp [hx1, hx2]), if_pos ⟨by simp [h0], h⟩] at hnb
          cases hnb
        generalize hy : g.es.getD (k - 1) ed0 = y at *
        obtain ⟨yi, ya, yb⟩ := y
        simp only at hd1 hle
        (repeat' (first | refine awp_seq ?_ | refine awp_block ?_ | (refine awp_skip ?_; simp only [ak, reduceIte]) | (refine awp_ret ?_; simp only [ak, reduceIte]; simp [f1, f45, f46, f47, hlt, hd, hw, hel, hk3, hgH, hnx, hx1, hx2, hk0, hw1, hd1, hlt1, hlt3, hle, hab, hr]) | (refine awp_cond ?_; simp [f1, f45, f46, f47, hlt, hd, hw, hel, hk3, hgH, hnx, hx1, hx2, hk0, hw1, hd1, hlt1, hlt3, hle, hab, hr]) | ((first | (refine w_e [] ?_; intro J hJ; simp only []) | (refine w_q ?_; intro J hJ)); simp [f1, f45, f46, f47, hlt, hd, hw, hel, hk3, hgH, hnx, hx1, hx2, hk0, hw1, hd1, hlt1, hlt3, hle, hab, hr]; (refine hJ _ _ ?_; clear hJ J; simp only [ak, reduceIte]))))
        exact hkp0.trans (Keeps.new _ _)
    rw [if_neg hab] at hbad
    by_cases h0 : k = 0
    · have hk0 : ¬ 0 < k := by omega
      (repeat' (first | refine awp_seq ?_ | refine awp_block ?_ | (refine awp_skip ?_; simp only [ak, reduceIte]) | (refine awp_cond ?_; simp [f1, f45, f46, f47, hlt, hd, hw, hel, hk3, hgH, hnx, hx1, hx2, hk0, hab]) | ((first | (refine w_e [] ?_; intro J hJ; simp only []) | (refine w_q ?_; intro J hJ)); simp [f1, f45, f46, f47, hlt, hd, hw, hel, hk3, hgH, hnx, hx1, hx2, hk0, hab]; (try (refine hJ _ _ ?_; clear hJ J; simp only [ak, reduceIte])))))
      refine callK_ofE (Has g xa _ hsm) (by simp []) ?_; rintro r st' ⟨rfl, hk1⟩
      have hB1 : st'.H st1.next = .box 43 3 [u xi, u xa, u xb] := by rw [hk1.H _ (by simp)]; simp
      have hgH1 : st'.H st.next = .box 38 2 (grL g) := by
        rw [hk1.H _ (by have := hkp.next; simp only [new_next] at this ⊢; omega), new_H, if_neg hnx]; exact hgH
      have hkp1 := (hkp.trans (Keeps.new _ _)).trans hk1
      have hkp01 := (hkp0.trans (Keeps.new _ _)).trans hk1
      by_cases hma : xa ∈ g.vs
      rotate_left
      · have hr := hret 21 (by rw [hbad, if_pos (.inl hma)]) (by decide)
        (repeat' (first | refine awp_seq ?_ | (refine awp_ret ?_; simp only [ak, reduceIte]; simp [f1, hB1, hgH1, hr, hma]) | (refine awp_cond ?_; simp [f1, hB1, hgH1, hr, hma]) | ((first | (refine w_e [] ?_; intro J hJ; simp only []) | (refine e_go ?_)); simp [f1, hB1, hgH1, hr, hma]; (refine hJ _ _ ?_; clear hJ J; simp only [ak, reduceIte]))))
        exact hkp01
      (refine e_go ?_; simp [f1, hB1, hgH1, hma])
      refine callK_ofE (Has g xb _ hsm) (by simp []) ?_; rintro r st' ⟨rfl, hk2⟩
      by_cases hmb : xb ∈ g.vs
      rotate_left
      · have hr := hret 21 (by rw [hbad, if_pos (.inr hmb)]) (by decide)
        (repeat' (first | refine awp_seq ?_ | (refine awp_ret ?_; simp only [ak, reduceIte]; simp [hr, hmb]) | (refine awp_cond ?_; simp [hr, hmb]) | ((first | (refine w_e [] ?_; intro J hJ; simp only []) | (refine e_go ?_)); simp [hr, hmb]; (refine hJ _ _ ?_; clear hJ J; simp only [ak, reduceIte]))))
        exact hkp01.trans hk2
      have hb' : badE g k = 0 := by rw [hbad, if_neg (by simp [hma, hmb])]
      (repeat' (first | (refine awp_skip ?_; simp only [ak, reduceIte]) | (refine awp_cond ?_; simp [f47, hw, hmb]) | ((first | (refine w_e [] ?_; intro J hJ; simp only []) | (refine e_go ?_)); simp [f47, hw, hmb]; (refine hJ _ _ ?_; clear hJ J; simp only [ak, reduceIte]))))
      refine hJJ _ _ _ ?_ ⟨k + 1, by omega, rfl, by simp [f1], by simp [f45], by simp [f46], by simp, hkp1.trans hk2, hnext hb'⟩
      omega
    · have hk0 : 0 < k := by omega
      have hw1 : IntKind.i64.wrap ((k : Int) - 1) = ((k - 1 : Nat) : Int) := by rw [wrap_i64 _ (by omega) (by omega)]; omega
      have hd1 := eds_drop g.es (k - 1) (by omega)
      have hlt1 : k - 1 < g.es.length := by omega
      have hlt3 : (k - 1) * 3 < g.es.length * 3 := by omega
      have hle : ¬ xi ≤ (g.es.getD (k - 1) ed0).id := by
        intro h
        unfold numb at hnb
        rw [if_neg (by simp [hx1, hx2]), if_pos ⟨by simp [h0], h⟩] at hnb
        cases hnb
      generalize hy : g.es.getD (k - 1) ed0 = y at *
      obtain ⟨yi, ya, yb⟩ := y
      simp only at hd1 hle
      (repeat' (first | refine awp_seq ?_ | refine awp_block ?_ | (refine awp_skip ?_; simp only [ak, reduceIte]) | (refine awp_cond ?_; simp [f1, f45, f46, f47, hlt, hd, hw, hel, hk3, hgH, hnx, hx1, hx2, hk0, hw1, hd1, hlt1, hlt3, hle, hab]) | ((first | (refine w_e [] ?_; intro J hJ; simp only []) | (refine w_q ?_; intro J hJ)); simp [f1, f45, f46, f47, hlt, hd, hw, hel, hk3, hgH, hnx, hx1, hx2, hk0, hw1, hd1, hlt1, hlt3, hle, hab]; (try (refine hJ _ _ ?_; clear hJ J; simp only [ak, reduceIte])))))
      refine callK_ofE (Has g xa _ hsm) (by simp []) ?_; rintro r st' ⟨rfl, hk1⟩
      have hB1 : st'.H st1.next = .box 43 3 [u xi, u xa, u xb] := by rw [hk1.H _ (by simp)]; simp
      have hgH1 : st'.H st.next = .box 38 2 (grL g) := by
        rw [hk1.H _ (by have := hkp.next; simp only [new_next] at this ⊢; omega), new_H, if_neg hnx]; exact hgH
      have hkp1 := (hkp.trans (Keeps.new _ _)).trans hk1
      have hkp01 := (hkp0.trans (Keeps.new _ _)).trans hk1
      by_cases hma : xa ∈ g.vs
      rotate_left
      · have hr := hret 21 (by rw [hbad, if_pos (.inl hma)]) (by decide)
        (repeat' (first | refine awp_seq ?_ | (refine awp_ret ?_; simp only [ak, reduceIte]; simp [f1, hB1, hgH1, hr, hma]) | (refine awp_cond ?_; simp [f1, hB1, hgH1, hr, hma]) | ((first | (refine w_e [] ?_; intro J hJ; simp only []) | (refine e_go ?_)); simp [f1, hB1, hgH1, hr, hma]; (refine hJ _ _ ?_; clear hJ J; simp only [ak, reduceIte]))))
        exact hkp01
      (refine e_go ?_; simp [f1, hB1, hgH1, hma])
      refine callK_ofE (Has g xb _ hsm) (by simp []) ?_; rintro r st' ⟨rfl, hk2⟩
      by_cases hmb : xb ∈ g.vs
      rotate_left
      · have hr := hret 21 (by rw [hbad, if_pos (.inr hmb)]) (by decide)
        (repeat' (first | refine awp_seq ?_ | (refine awp_ret ?_; simp only [ak, reduceIte]; simp [hr, hmb]) | (refine awp_cond ?_; simp [hr, hmb]) | ((first | (refine w_e [] ?_; intro J hJ; simp only []) | (refine e_go ?_)); simp [hr, hmb]; (refine hJ _ _ ?_; clear hJ J; simp only [ak, reduceIte]))))
        exact hkp01.trans hk2
      have hb' : badE g k = 0 := by rw [hbad, if_neg (by simp [hma, hmb])]
      (repeat' (first | (refine awp_skip ?_; simp only [ak, reduceIte]) | (refine awp_cond ?_; simp [f47, hw, hmb]) | ((first | (refine w_e [] ?_; intro J hJ; simp only []) | (refine e_go ?_)); simp [f47, hw, hmb]; (refine hJ _ _ ?_; clear hJ J; simp only [ak, reduceIte]))))
      refine hJJ _ _ _ ?_ ⟨k + 1, by omega, rfl, by simp [f1], by simp [f45], by simp [f46], by simp, hkp1.trans hk2, hnext hb'⟩
      omega
  · have hr : chk g = 0 := by rw [hch]; exact firstNZ_zero (fun j hj => hno j (by omega))
    clear hJJ
    (repeat' (first | refine awp_seq ?_ | (refine awp_exit ?_; simp only [ak, reduceIte]) | (refine awp_ret ?_; simp only [ak, reduceIte]; simp [f1, f45, f46, f47, hlt, hr]) | (refine awp_cond ?_; simp [f1, f45, f46, f47, hlt, hr]) | (refine w_e [] ?_; intro J hJ; simp only []; simp [f1, f45, f46, f47, hlt, hr]; (refine hJ _ _ ?_; clear hJ J; simp only [ak, reduceIte]))))
    exact hkp0

end Go.Proofs.YtomfeddgeihipaaGreat.Aw

namespace Go.Proofs.YtomfeddgeihipaaGreat.Aw
open Go Go.RowKit Go.Proofs.YtomfeddgeihipaaGreat.Pl
set_option linter.unusedSimpArgs false
set_option linter.unusedVariables false

end Go.Proofs.YtomfeddgeihipaaGreat.Aw

namespace Go.Proofs.YtomfeddgeihipaaGreat.Aw
open Go Go.RowKit Go.Proofs.YtomfeddgeihipaaGreat.Pl
set_option linter.unusedSimpArgs false
set_option linter.unusedVariables false

end Go.Proofs.YtomfeddgeihipaaGreat.Aw

namespace Go.Proofs.YtomfeddgeihipaaGreat.Aw
open Go Go.RowKit Go.Proofs.YtomfeddgeihipaaGreat.Pl
set_option linter.unusedSimpArgs false
set_option linter.unusedVariables false

theorem ref_CheckA (g : Gr) (st : St) : ACalls Tryz.prog 24 [.ag (grL g)] st fun r st' => r = i (chk g) ∧ Keeps st st' := by
  by_cases h1 : (64 : Int) < (g.vs.length : Int)
  · have : chk g = 6 := by unfold chk; rw [if_pos (by omega)]
    refine acalls_of_body tabOk Tryz.func24 rfl rfl Tryz.ntmps24 (rs := [.tmp 2]) rfl (by simp) ?_
    (repeat' (first | refine awp_seq ?_ | (refine awp_ret ?_; simp only [ak, reduceIte]; simp [h1, this]) | (refine awp_cond ?_; simp [h1, this]) | (refine w_e [] ?_; intro J hJ; simp only []; simp [h1, this]; (refine hJ _ _ ?_; clear hJ J; simp only [ak, reduceIte]))))
    exact Keeps.new _ _
  by_cases h2 : (160 : Int) < (g.es.length : Int)
  · have : chk g = 6 := by unfold chk; rw [if_pos (by omega)]
    refine acalls_of_body tabOk Tryz.func24 rfl rfl Tryz.ntmps24 (rs := [.tmp 2]) rfl (by simp) ?_
    (repeat' (first | refine awp_seq ?_ | (refine awp_ret ?_; simp only [ak, reduceIte]; simp [h1, h2, this]) | (refine awp_cond ?_; simp [h1, h2, this]) | (refine w_e [] ?_; intro J hJ; simp only []; simp [h1, h2, this]; (refine hJ _ _ ?_; clear hJ J; simp only [ak, reduceIte]))))
    exact Keeps.new _ _
  exact ref_Check g st (by omega) (by omega)

/-- Its entries are turns. -/
def Turns (es : List (List Int × LV)) : Prop := ∀ x, mget es x = none ∨ ∃ r : List Int, mget es x = some (.sl 0 r.length (us r)) ∧ r.length ≤ 300

theorem Turns.fn {es : List (List Int × LV)} (h : Turns es) : ∃ tf : Int → List Int, ∀ v, ∃ x t, (mget es [v]).getD .nil = x ∧ norm x = .sl t (tf v).length (us (tf v)) ∧ (tf v).length ≤ 1000 := by
  have : ∀ v : Int, ∃ y : List Int, ∃ x t, (mget es [v]).getD .nil = x ∧ norm x = .sl t y.length (us y) ∧ y.length ≤ 1000 := by
    intro v
    rcases h [v] with h1 | ⟨r, h1, h2⟩
    · exact ⟨[], .nil, 0, by rw [h1]; rfl, rfl, by simp⟩
    · exact ⟨r, .sl 0 r.length (us r), 0, by rw [h1]; rfl, rfl, by omega⟩
  exact ⟨fun v => Classical.choose (this v), fun v => Classical.choose_spec (this v)⟩

end Go.Proofs.YtomfeddgeihipaaGreat.Aw

namespace Go.Proofs.YtomfeddgeihipaaGreat.Aw
open Go Go.RowKit Go.Proofs.YtomfeddgeihipaaGreat.Pl
set_option linter.unusedSimpArgs false
set_option linter.unusedVariables false

theorem awp_posG {P : Program} {N : Nat} {Q : AQ} {c : Code} {fr : Frm} {st : St} (h : 0 < st.next → AWp P N c Q fr st) : AWp P N c Q fr st :=
  fun a w g hi hr hs hd => h hi.pos a w g hi hr hs hd

def end1 (v : Int) (x : Ed) : List Int := (if x.a = v then [2 * x.id] else []) ++ (if x.b = v then [2 * x.id + 1] else [])
/-- The darts at a vertex. -/
def ends (es : List Ed) (v : Int) : List Int := es.flatMap (end1 v)
theorem flat_takeE (f : Ed → List Int) (l : List Ed) (k : Nat) (hk : k < l.length) : (l.take (k + 1)).flatMap f = (l.take k).flatMap f ++ f (l.getD k ed0) := by
  rw [List.take_succ_eq_append_getElem hk, List.flatMap_append, List.getD_eq_getElem?_getD, List.getElem?_eq_getElem hk]; simp
theorem flat_len (f : Ed → List Int) (hf : ∀ x, (f x).length ≤ 2) (l : List Ed) : (l.flatMap f).length ≤ 2 * l.length := by
  induction l with
  | nil => simp
  | cons x l ih => have := hf x; simp only [List.flatMap_cons, List.length_append, List.length_cons]; omega
def idOk (es : List Ed) : Prop := ∀ x ∈ es, 0 ≤ x.id ∧ x.id ≤ 1048576
theorem idOk.at {es : List Ed} (h : idOk es) (k : Nat) (hk : k < es.length) : 0 ≤ (es.getD k ed0).id ∧ (es.getD k ed0).id ≤ 1048576 := by
  rw [List.getD_eq_getElem?_getD, List.getElem?_eq_getElem hk]; exact h _ (List.getElem_mem hk)
def OwnAt (t : Nat) (lo : St) (l : List Int) (st : St) : Prop := t ≠ 0 ∧ lo.next ≤ t ∧ t < st.next ∧ st.H t = .own 41 1 l.length ∧ Keeps lo st

end Go.Proofs.YtomfeddgeihipaaGreat.Aw

namespace Go.Proofs.YtomfeddgeihipaaGreat.Aw
open Go Go.RowKit Go.Proofs.YtomfeddgeihipaaGreat.Pl
set_option linter.unusedSimpArgs false
set_option linter.unusedVariables false

def nbr1 (v : Int) (x : Ed) : List Int := (if x.a = v then [x.b] else []) ++ (if x.b = v then [x.a] else [])
/-- Who is at the other ends of a vertex's edges. -/
def nbr (es : List Ed) (v : Int) : List Int := es.flatMap (nbr1 v)
theorem nbr1_len (v : Int) (x : Ed) : (nbr1 v x).length ≤ 2 := by
  unfold nbr1; split <;> split <;> simp

/-- A map of rows, each with a place of its own. -/
def NearI (lo m : Nat) (es : List (List Int × LV)) (st : St) (f : Int → List Int) (tok : Int → Nat) : Prop :=
  ∀ v, (tok v = 0 → f v = [] ∧ mget es [v] = none) ∧ (tok v ≠ 0 → mget es [v] = some (.sl (tok v) (f v).length (us (f v))) ∧ lo ≤ tok v ∧ tok v < st.next ∧ tok v ≠ m ∧ st.H (tok v) = .own 41 1 (f v).length ∧ ∀ w, tok w = tok v → w = v)

theorem NearI.step {lo m : Nat} {es : List (List Int × LV)} {st st' : St} {f : Int → List Int} {tok : Int → Nat} (h : NearI lo m es st f tok) (a x : Int) (N : Nat) (hN : st.next ≤ N) (hN' : N < st'.next) (hm : m < st.next) (h0 : 0 < st.next) (hlo : lo ≤ st.next)
    (hH : ∀ l, l ≠ tok a → l ≠ m → l < st.next → st'.H l = st.H l) (hO : st'.H N = .own 41 1 ((f a).length + 1)) :
    NearI lo m (mset es [a] (.sl N ((f a).length + 1) (us (f a ++ [x])))) st' (fun v => if v = a then f a ++ [x] else f v) (fun v => if v = a then N else tok v) := by
  intro v
  by_cases hv : v = a
  · subst hv
    simp only [if_true]
    refine ⟨fun h1 => by omega, fun _ => ⟨by rw [mget_mset]; simp, by omega, hN', by omega, by rw [hO]; simp, fun w hw => ?_⟩⟩
    by_cases hwv : w = v
    · exact hwv
    · rw [if_neg hwv] at hw
      by_cases h1 : tok w = 0
      · omega
      · have := ((h w).2 h1).2.2.1; omega
  · simp only [if_neg hv]
    have hne : ¬ ([v] : List Int) = [a] := by simpa using hv
    refine ⟨fun h1 => ⟨((h v).1 h1).1, by rw [mget_mset, if_neg hne]; exact ((h v).1 h1).2⟩, fun h1 => ?_⟩
    obtain ⟨k1, k2, k3, k4, k5, k6⟩ := (h v).2 h1
    refine ⟨by rw [mget_mset, if_neg hne]; exact k1, k2, by omega, k4, ?_, fun w hw => ?_⟩
    · rw [hH (tok v) (fun e => hv (k6 a e.symm).symm) k4 k3]; exact k5
    · by_cases hwa : w = a
      · subst hwa; simp only [if_true] at hw; omega
      · rw [if_neg hwa] at hw; exact k6 w hw

/-- A map whose rows are told. -/
def RowsAt (es : List (List Int × LV)) (f : Int → List Int) : Prop := ∀ v, ∃ t, norm ((mget es [v]).getD .nil) = .sl t (f v).length (us (f v))

def NearJ (n0 m : Nat) (st : St) (l : List Ed) (k : Nat) (id a b : Int) (f : Int → List Int) (fr : Frm) (st2 : St) : Prop :=
  fr 3 = .mp (m) ∧ fr 8 = .sl 0 l.length (eds l) ∧ fr 9 = i l.length ∧ fr 10 = i k ∧ Keeps st st2 ∧ m < st2.next ∧ (∃ q, fr 5 = .pt q 0 ∧ st2.H q = .box 43 3 [u id, u a, u b] ∧ q < st2.next) ∧ ∃ es tok, st2.H (m) = .map false [.u32] es ∧ NearI n0 m es st2 f tok

theorem near (g : Gr) (st : St) (he : g.es.length ≤ 1000) :
    ACalls Tryz.prog 95 [.ag (grL g)] st fun r st' => ∃ m es, r = .mp m ∧ st.next ≤ m ∧ m < st'.next ∧ st'.H m = .map false [.u32] es ∧ Keeps st st' ∧ RowsAt es (nbr g.es) := by
  obtain ⟨vs, l⟩ := g
  simp only at he ⊢
  have hel := eds_length l
  have hfl := fun v k => flat_len (nbr1 v) (nbr1_len v) (l.take k)
  refine acalls_of_body tabOk Tryz.func95 rfl rfl Tryz.ntmps95 (rs := [.tmp 2]) rfl (by simp) ?_
  (repeat' (first | refine awp_seq ?_ | refine awp_block ?_ | (refine w_e [] ?_; intro J hJ; simp only []; simp []; (refine hJ _ _ ?_; clear hJ J; simp only [ak, reduceIte]))))
  refine awp_posG fun hpos => ?_
  obtain ⟨m, hm⟩ : ∃ m, m = st.next + 1 := ⟨_, rfl⟩
  refine awp_loop (fun n fr st2 => ∃ k : Nat, k ≤ l.length ∧ n = l.length - k ∧ fr 3 = .mp m ∧ fr 8 = .sl 0 l.length (eds l) ∧ fr 9 = i l.length ∧ fr 10 = i k ∧ Keeps st st2 ∧ m < st2.next ∧ ∃ es tok, st2.H m = .map false [.u32] es ∧ NearI st.next m es st2 (nbr (l.take k)) tok) l.length ?_ ?_
  · exact ⟨0, by omega, by omega, by simp [hm], by simp, by simp, by simp, (Keeps.new _ _).trans (Keeps.new _ _), by simp [hm], [], fun _ => 0, by simp [hm], fun v => ⟨fun _ => ⟨by simp [nbr], rfl⟩, fun h => absurd rfl h⟩⟩
  rintro n fr st2 ⟨k, hk, rfl, f3, f8, f9, f10, hkp, hmn, es, tok, hM, hN⟩ JJ hJJ
  by_cases hlt : k < l.length
  rotate_left
  · clear hJJ
    have hk' : k = l.length := by omega
    rw [hk', List.take_length] at hN
    (repeat' (first | refine awp_seq ?_ | (refine awp_exit ?_; simp only [ak, reduceIte]) | (refine awp_ret ?_; simp only [ak, reduceIte]; simp [f3, f9, f10, hlt]) | (refine awp_cond ?_; simp [f3, f9, f10, hlt]) | (refine w_e [] ?_; intro J hJ; simp only []; simp [f3, f9, f10, hlt]; (refine hJ _ _ ?_; clear hJ J; simp only [ak, reduceIte]))))
    refine ⟨by omega, hmn, es, hM, hkp, fun v => ?_⟩
    by_cases h0 : tok v = 0
    · obtain ⟨h1, h2⟩ := (hN v).1 h0
      exact ⟨0, by rw [h1, h2]; rfl⟩
    · obtain ⟨h1, -⟩ := (hN v).2 h0
      exact ⟨tok v, by rw [h1]; rfl⟩
  have hd := eds_drop l k hlt
  have hw := nat_add_one k (by omega)
  have hk3 : k * 3 < l.length * 3 := by omega
  have hst : ∀ v, nbr (l.take (k + 1)) v = nbr (l.take k) v ++ nbr1 v (l.getD k ed0) := fun v => flat_takeE _ _ _ hlt
  have hle : ∀ v, (nbr (l.take k) v).length ≤ 2 * k := fun v => by have := hfl v k; rw [List.length_take] at this; unfold nbr; omega
  generalize hx : l.getD k ed0 = x at *
  obtain ⟨id, a, b⟩ := x
  simp only at hd
  generalize hF : nbr (l.take k) = f at *
  (repeat' (first | refine awp_seq ?_ | refine awp_block ?_ | (refine awp_skip ?_; simp only [ak, reduceIte]) | (refine awp_cond ?_; simp [f8, f9, f10, hlt, hd, hel]) | (refine w_e [] ?_; intro J hJ; simp only []; simp [f8, f9, f10, hlt, hd, hel]; (refine hJ _ _ ?_; clear hJ J; simp only [ak, reduceIte]))))
  have hm2 : ¬ m = st2.next := by omega
  have hm3 : ¬ st2.next = m := by omega
  have hm4 : ¬ m = st2.next + 1 := by omega
  have hm5 : ¬ m = st2.next + 1 + 1 := by omega
  have hn2 : ¬ st2.next = st2.next + 1 + 1 := by omega
  refine awp_cut1 (NearJ st.next m st l k id a b (fun v => if v = a then f a ++ [b] else f v)) ?_ ?_
  · clear hJJ
    have hla := hle a
    by_cases h0 : tok a = 0
    · obtain ⟨h1, h2⟩ := (hN a).1 h0
      (refine w_s [] [st2.next, m] [(0, true), (1, true), (2, true), (3, true), (4, true), (5, true), (6, true), (7, true), (8, true), (9, true), (10, true), (11, false)] ?_; intro J hJ; simp [f3, hM, h2, hm2, hm3, hm4, hm5, hn2]; (repeat refine ca ?_); (refine hJ _ _ ?_; clear hJ J; simp only [ak, reduceIte]))
      refine ⟨by trivial, ?_⟩
      have e : LV.sl (st2.next + 1 + 1) ((f a).length + 1) (us (f a ++ [b])) = .sl (st2.next + 1 + 1) 1 [u b] := by rw [h1]; rfl
      refine ⟨by simp [f3], by simp [f8], by simp [f9], by simp [f10], (by repeat (first | exact hkp | (refine Keeps.trans ?_ (Keeps.new _ _)) | (refine Keeps.set ?_ (by have := hkp.next; omega) _))), by simp; omega, ⟨st2.next, by simp, by simp [hm3, hn2], by simp; omega⟩, _, fun v => if v = a then st2.next + 1 + 1 else tok v, by simp; rfl, ?_⟩
      rw [← e]
      refine hN.step a b (st2.next + 1 + 1) (by omega) (by simp) hmn (by omega) (by have := hkp.next; omega) (fun l e1 e2 e3 => ?_) (by rw [h1]; simp [Ne.symm hm5])
      have a1 : ¬ l = st2.next := by omega
      have a2 : ¬ l = st2.next + 1 := by omega
      have a3 : ¬ l = st2.next + 1 + 1 := by omega
      simp [a1, a2, a3, e1, e2]
    · obtain ⟨h1, h2, h3, h4, h5, h6⟩ := (hN a).2 h0
      have ht1 : ¬ tok a = st2.next := by omega
      have ht2 : ¬ st2.next = tok a := by omega
      have ht3 : ¬ tok a = st2.next + 1 := by omega
      have ht4 : ¬ m = tok a := fun h => h4 h.symm
      (refine w_s [] [st2.next, m] [(0, true), (1, true), (2, true), (3, true), (4, true), (5, true), (6, true), (7, true), (8, true), (9, true), (10, true), (11, false)] ?_; intro J hJ; simp [f3, hM, h1, h5, h0, hm2, hm3, hm4, hm5, hn2, ht1, ht2, ht3, ht4]; (repeat refine ca ?_); (refine hJ _ _ ?_; clear hJ J; simp only [ak, reduceIte]))
      refine ⟨by trivial, ?_⟩
      have e : LV.sl (st2.next + 1 + 1) ((f a).length + 1) (us (f a ++ [b])) = .sl (st2.next + 1 + 1) ((f a).length + 1) (us (f a) ++ [u b]) := by simp
      refine ⟨by simp [f3], by simp [f8], by simp [f9], by simp [f10], (by repeat (first | exact hkp | (refine Keeps.trans ?_ (Keeps.new _ _)) | (refine Keeps.set ?_ (by have := hkp.next; omega) _))), by simp; omega, ⟨st2.next, by simp, by simp [hm3, hn2, ht2], by simp; omega⟩, _, fun v => if v = a then st2.next + 1 + 1 else tok v, by simp; rfl, ?_⟩
      rw [← e]
      refine hN.step a b (st2.next + 1 + 1) (by omega) (by simp) hmn (by omega) (by have := hkp.next; omega) (fun l e1 e2 e3 => ?_) (by simp [Ne.symm hm5])
      have a1 : ¬ l = st2.next := by omega
      have a2 : ¬ l = st2.next + 1 := by omega
      have a3 : ¬ l = st2.next + 1 + 1 := by omega
      simp [a1, a2, a3, e1, e2]
  clear f3 f8 f9 f10 hkp hmn hM hN hm2 hm3 hm4 hm5 hn2 tok es st2 fr
  rintro fr st2 ⟨f3, f8, f9, f10, hkp, hmn, ⟨q, f5, hq, hqn⟩, es, tok, hM, hN⟩
  generalize hf2 : (fun v => if v = a then f a ++ [b] else f v) = f2 at *
  have hle2 : (f2 b).length ≤ 2 * k + 1 := by
    rw [← hf2]
    simp only
    split
    · have := hle a; simp; omega
    · have := hle b; omega
  have hfin : ∀ v, nbr (l.take (k + 1)) v = (if v = b then f2 b ++ [a] else f2 v) := by
    intro v
    rw [hst v, ← hf2]
    unfold nbr1
    simp only
    by_cases hva : v = a
    · subst hva
      by_cases hvb : v = b
      · subst hvb; simp
      · simp [hvb, Ne.symm hvb]
    · by_cases hvb : v = b
      · subst hvb; simp [hva, Ne.symm hva]
      · simp [hva, hvb, Ne.symm hva, Ne.symm hvb]
  have hfin' : nbr (l.take (k + 1)) = fun v => if v = b then f2 b ++ [a] else f2 v := funext hfin
  have hm2 : ¬ m = st2.next := by omega
  have hm5 : ¬ m = st2.next + 1 := by omega
  have hq2 : ¬ q = st2.next := by omega
  have hqm : ¬ q = m := fun h => by rw [h, hM] at hq; cases hq
  by_cases h0 : tok b = 0
  · obtain ⟨h1, h2⟩ := (hN b).1 h0
    (refine w_s [] [q, m] [(0, true), (1, true), (2, true), (3, true), (4, true), (5, true), (6, true), (7, true), (8, true), (9, true), (10, true), (11, false)] ?_; intro J hJ; simp [f3, f5, hq, hM, h2, hm2, hm5, hq2, hqm]; (repeat refine ca ?_); (refine hJ _ _ ?_; clear hJ J; simp only [ak, reduceIte]))
    (repeat' (refine w_e [] ?_; intro J hJ; simp only []; simp [f10, hw]; (refine hJ _ _ ?_; clear hJ J; simp only [ak, reduceIte])))
    have e : LV.sl (st2.next + 1) ((f2 b).length + 1) (us (f2 b ++ [a])) = .sl (st2.next + 1) 1 [u a] := by rw [h1]; rfl
    refine hJJ (l.length - (k + 1)) _ _ (by omega) ⟨k + 1, by omega, rfl, by simp [f3], by simp [f8], by simp [f9], by simp, (by repeat (first | exact hkp | (refine Keeps.trans ?_ (Keeps.new _ _)) | (refine Keeps.set ?_ (by have := hkp.next; omega) _))), by simp; omega, _, fun v => if v = b then st2.next + 1 else tok v, by simp; rfl, ?_⟩
    rw [← e, hfin']
    refine hN.step b a (st2.next + 1) (by omega) (by simp) hmn (by omega) (by have := hkp.next; omega) (fun l e1 e2 e3 => ?_) (by rw [h1]; simp [Ne.symm hm5])
    have a1 : ¬ l = st2.next := by omega
    have a2 : ¬ l = st2.next + 1 := by omega
    simp [a1, a2, e1, e2]
  · obtain ⟨h1, h2, h3, h4, h5, h6⟩ := (hN b).2 h0
    have ht1 : ¬ tok b = st2.next := by omega
    have ht2 : ¬ st2.next = tok b := by omega
    have ht4 : ¬ m = tok b := fun h => h4 h.symm
    have ht5 : ¬ q = tok b := fun h => by rw [h, h5] at hq; cases hq
    (refine w_s [] [q, m] [(0, true), (1, true), (2, true), (3, true), (4, true), (5, true), (6, true), (7, true), (8, true), (9, true), (10, true), (11, false)] ?_; intro J hJ; simp [f3, f5, hq, hM, h1, h5, h0, hm2, hm5, hq2, hqm, ht1, ht2, ht4, ht5]; (repeat refine ca ?_); (refine hJ _ _ ?_; clear hJ J; simp only [ak, reduceIte]))
    (repeat' (refine w_e [] ?_; intro J hJ; simp only []; simp [f10, hw]; (refine hJ _ _ ?_; clear hJ J; simp only [ak, reduceIte])))
    have e : LV.sl (st2.next + 1) ((f2 b).length + 1) (us (f2 b ++ [a])) = .sl (st2.next + 1) ((f2 b).length + 1) (us (f2 b) ++ [u a]) := by simp
    refine hJJ (l.length - (k + 1)) _ _ (by omega) ⟨k + 1, by omega, rfl, by simp [f3], by simp [f8], by simp [f9], by simp, (by repeat (first | exact hkp | (refine Keeps.trans ?_ (Keeps.new _ _)) | (refine Keeps.set ?_ (by have := hkp.next; omega) _))), by simp; omega, _, fun v => if v = b then st2.next + 1 else tok v, by simp; rfl, ?_⟩
    rw [← e, hfin']
    refine hN.step b a (st2.next + 1) (by omega) (by simp) hmn (by omega) (by have := hkp.next; omega) (fun l e1 e2 e3 => ?_) (by simp [Ne.symm hm5])
    have a1 : ¬ l = st2.next := by omega
    have a2 : ¬ l = st2.next + 1 := by omega
    simp [a1, a2, e1, e2]

theorem RowsAt.cases {es : List (List Int × LV)} {f : Int → List Int} (h : RowsAt es f) (v : Int) : ((mget es [v]).getD .nil = .nil ∧ f v = []) ∨ ∃ t, (mget es [v]).getD .nil = .sl t (f v).length (us (f v)) := by
  obtain ⟨t, ht⟩ := h v
  cases hx : (mget es [v]).getD .nil with
  | nil =>
    rw [hx] at ht
    left
    refine ⟨rfl, ?_⟩
    simp only [norm, LV.sl.injEq] at ht
    exact List.eq_nil_of_length_eq_zero ht.2.1.symm
  | _ => rw [hx] at ht; simp [norm] at ht <;> exact .inr ⟨t, by simp [ht]⟩

def alone (g : Gr) : Nat := g.vs.countP fun v => decide (nbr g.es v = [])
end Go.Proofs.YtomfeddgeihipaaGreat.Aw

namespace Go.Proofs.YtomfeddgeihipaaGreat.Aw
open Go Go.RowKit Go.Proofs.YtomfeddgeihipaaGreat.Pl
set_option linter.unusedSimpArgs false
set_option linter.unusedVariables false

inductive Reach (es : List Ed) (v : Int) : Int → Prop
  | refl : Reach es v v
  | step {u w : Int} (h : Reach es v u) (hw : w ∈ nbr es u) : Reach es v w

theorem mem_nbr {es : List Ed} {u w : Int} : w ∈ nbr es u ↔ ∃ x ∈ es, (x.a = u ∧ x.b = w) ∨ (x.b = u ∧ x.a = w) := by
  unfold nbr nbr1
  simp only [List.mem_flatMap, List.mem_append]
  constructor
  · rintro ⟨x, hx, h | h⟩
    · refine ⟨x, hx, .inl ?_⟩
      split at h
      · rename_i h1; simp at h; exact ⟨h1, h.symm⟩
      · cases h
    · refine ⟨x, hx, .inr ?_⟩
      split at h
      · rename_i h1; simp at h; exact ⟨h1, h.symm⟩
      · cases h
  · rintro ⟨x, hx, ⟨h1, h2⟩ | ⟨h1, h2⟩⟩
    · exact ⟨x, hx, .inl (by simp [h1, h2])⟩
    · exact ⟨x, hx, .inr (by simp [h1, h2])⟩
theorem nbr_symm {es : List Ed} {u w : Int} (h : w ∈ nbr es u) : u ∈ nbr es w := by
  rw [mem_nbr] at h ⊢
  obtain ⟨x, hx, ⟨h1, h2⟩ | ⟨h1, h2⟩⟩ := h
  · exact ⟨x, hx, .inr ⟨h2, h1⟩⟩
  · exact ⟨x, hx, .inl ⟨h2, h1⟩⟩
theorem Reach.trans {es : List Ed} {u v w : Int} (h : Reach es u v) (k : Reach es v w) : Reach es u w := by
  induction k with
  | refl => exact h
  | step _ hw ih => exact .step ih hw
theorem Reach.symm {es : List Ed} {u v : Int} (h : Reach es u v) : Reach es v u := by
  induction h with
  | refl => exact .refl
  | step _ hw ih => exact Reach.trans (.step .refl (nbr_symm hw)) ih
theorem Reach.closed {es : List Ed} {v w : Int} {L : Int → Prop} (h : Reach es v w) (hv : L v) (hc : ∀ u, L u → ∀ w ∈ nbr es u, L w) : L w := by
  induction h with
  | refl => exact hv
  | step _ hw ih => exact hc _ ih _ hw

/-- A graph's vertices rise, and edges end at them. -/
structure Good (g : Gr) : Prop where
  rise : g.vs.Pairwise (· < ·)
  ends : ∀ x ∈ g.es, x.a ∈ g.vs ∧ x.b ∈ g.vs
theorem Good.nbr {g : Gr} (h : Good g) {u w : Int} (hw : w ∈ nbr g.es u) : w ∈ g.vs := by
  rw [mem_nbr] at hw
  obtain ⟨x, hx, ⟨_, rfl⟩ | ⟨_, rfl⟩⟩ := hw
  · exact (h.ends x hx).2
  · exact (h.ends x hx).1
theorem Good.reach {g : Gr} (h : Good g) {v w : Int} (hv : v ∈ g.vs) (hr : Reach g.es v w) : w ∈ g.vs := by
  cases hr with
  | refl => exact hv
  | step _ hw => exact h.nbr hw
theorem Good.nodup {g : Gr} (h : Good g) : g.vs.Nodup := h.rise.imp fun h => by omega

/-- A row that has just what hangs together with a vertex, rising. -/
def IsPart (g : Gr) (v : Int) (c : List Int) : Prop := c.Pairwise (· < ·) ∧ ∀ w, w ∈ c ↔ w ∈ g.vs ∧ Reach g.es v w
theorem rise_unique {c d : List Int} (hc : c.Pairwise (· < ·)) (hd : d.Pairwise (· < ·)) (h : ∀ w, w ∈ c ↔ w ∈ d) : c = d :=
  srt_unique (hc.imp fun h => by omega) (hd.imp fun h => by omega) ((List.perm_ext_iff_of_nodup (hc.imp fun h => by omega) (hd.imp fun h => by omega)).2 h)
theorem IsPart.unique {g : Gr} {v : Int} {c d : List Int} (h : IsPart g v c) (k : IsPart g v d) : c = d := rise_unique h.1 k.1 fun w => by rw [h.2, k.2]
theorem part_of {g : Gr} (h : Good g) {v : Int} (hv : v ∈ g.vs) {L c : List Int} (hn : L.Nodup) (hL : ∀ w, w ∈ L ↔ Reach g.es v w) (hp : c.Perm L) (hs : c.Pairwise (· ≤ ·)) : IsPart g v c := by
  have hcn : c.Nodup := hp.nodup_iff.2 hn
  refine ⟨?_, fun w => ?_⟩
  · refine (List.Pairwise.and hs hcn).imp ?_
    rintro a b ⟨h1, h2⟩
    have : a ≠ b := h2
    omega
  · rw [hp.mem_iff, hL]
    exact ⟨fun hr => ⟨h.reach hv hr, hr⟩, fun hr => hr.2⟩

/-- Seen from the first vertices. -/
def Seen (g : Gr) (k : Nat) (w : Int) : Prop := ∃ u ∈ g.vs.take k, Reach g.es u w
theorem take_lt {l : List Int} (h : l.Pairwise (· < ·)) {k : Nat} (hk : k < l.length) {u : Int} : u ∈ l.take k ↔ u ∈ l ∧ u < l.getD k 0 := by
  rw [getD_lt _ _ hk]
  constructor
  · intro hu
    obtain ⟨j, hj, rfl⟩ := List.getElem_of_mem hu
    rw [List.length_take] at hj
    rw [List.getElem_take]
    exact ⟨List.getElem_mem _, List.pairwise_iff_getElem.1 h j k (by omega) hk (by omega)⟩
  · rintro ⟨hu, hlt⟩
    obtain ⟨j, hj, rfl⟩ := List.getElem_of_mem hu
    have hjk : j < k := by
      rcases Nat.lt_trichotomy j k with h1 | h1 | h1
      · exact h1
      · subst h1; omega
      · have := List.pairwise_iff_getElem.1 h k j hk hj h1; omega
    rw [List.mem_take_iff_getElem]
    exact ⟨j, by omega, rfl⟩
theorem Seen.reach {g : Gr} {k : Nat} {u w : Int} (h : Seen g k u) (hr : Reach g.es u w) : Seen g k w := by
  obtain ⟨x, hx, hy⟩ := h
  exact ⟨x, hx, hy.trans hr⟩
theorem seen_succ {g : Gr} {k : Nat} (hk : k < g.vs.length) {w : Int} : Seen g (k + 1) w ↔ Seen g k w ∨ Reach g.es (g.vs.getD k 0) w := by
  unfold Seen
  rw [List.take_succ_eq_append_getElem hk, getD_lt _ _ hk]
  constructor
  · rintro ⟨u, hu, hr⟩
    rw [List.mem_append, List.mem_singleton] at hu
    rcases hu with hu | rfl
    · exact .inl ⟨u, hu, hr⟩
    · exact .inr hr
  · rintro (⟨u, hu, hr⟩ | hr)
    · exact ⟨u, List.mem_append_left _ hu, hr⟩
    · exact ⟨_, List.mem_append_right _ (List.mem_singleton.2 rfl), hr⟩
theorem seen_same {g : Gr} {k : Nat} (hk : k < g.vs.length) (hs : Seen g k (g.vs.getD k 0)) {w : Int} : Seen g (k + 1) w ↔ Seen g k w := by
  rw [seen_succ hk]
  exact ⟨fun h => h.elim id hs.reach, .inl⟩

/-- The parts, as they come from the first vertices. -/
inductive PartsTo (g : Gr) : Nat → List (List Int) → Prop
  | zero : PartsTo g 0 []
  | seen {k : Nat} {R : List (List Int)} (h : PartsTo g k R) (hk : k < g.vs.length) (hs : Seen g k (g.vs.getD k 0)) : PartsTo g (k + 1) R
  | lead {k : Nat} {R : List (List Int)} {c : List Int} (h : PartsTo g k R) (hk : k < g.vs.length) (hs : ¬ Seen g k (g.vs.getD k 0)) (hc : IsPart g (g.vs.getD k 0) c) : PartsTo g (k + 1) (R ++ [c])
theorem PartsTo.unique {g : Gr} {k : Nat} {R R' : List (List Int)} (h : PartsTo g k R) (h' : PartsTo g k R') : R = R' := by
  induction h generalizing R' with
  | zero => cases h'; rfl
  | seen _ _ hs ih =>
    cases h' with
    | seen h2 _ _ => exact ih h2
    | lead h2 _ hs2 _ => exact absurd hs hs2
  | lead _ _ hs hc ih =>
    cases h' with
    | seen h2 _ hs2 => exact absurd hs2 hs
    | lead h2 _ _ hc2 => rw [ih h2, hc.unique hc2]
theorem PartsTo.len {g : Gr} {k : Nat} {R : List (List Int)} (h : PartsTo g k R) : R.length ≤ k := by
  induction h with
  | zero => simp
  | seen _ _ _ ih => omega
  | lead _ _ _ _ ih => simp; omega

/-! ### a search -/
structure Srch (g : Gr) (n : Nat) (v : Int) (L : List Int) (k : Nat) : Prop where
  nodup : L.Nodup
  reach : ∀ w ∈ L, Reach g.es v w
  mem : v ∈ L
  done : ∀ u ∈ L.take k, ∀ w ∈ nbr g.es u, w ∈ L
theorem Srch.all {g : Gr} {n : Nat} {v : Int} {L : List Int} (h : Srch g n v L L.length) : ∀ w, w ∈ L ↔ Reach g.es v w := by
  intro w
  refine ⟨h.reach w, fun hr => ?_⟩
  exact hr.closed (L := fun w => w ∈ L) h.mem fun u hu w hw => h.done u (by rw [List.take_length]; exact hu) w hw
theorem Srch.sub {g : Gr} (hg : Good g) {n : Nat} {v : Int} {L : List Int} {k : Nat} (h : Srch g n v L k) (hv : v ∈ g.vs) : L.length ≤ g.vs.length := by
  exact List.Nodup.length_le_of_subset h.nodup fun w hw => hg.reach hv (h.reach w hw)

end Go.Proofs.YtomfeddgeihipaaGreat.Aw

namespace Go.Proofs.YtomfeddgeihipaaGreat.Aw
open Go Go.RowKit Go.Proofs.YtomfeddgeihipaaGreat.Pl
set_option linter.unusedSimpArgs false
set_option linter.unusedVariables false

abbrev rowsL3 (rs : List (List Int)) : List LV := rs.map fun r => .sl 0 r.length (us r)

structure SrchI (g : Gr) (v : Int) (L : List Int) (k : Nat) (x : Int) (j : Nat) : Prop where
  nodup : L.Nodup
  reach : ∀ w ∈ L, Reach g.es v w
  mem : v ∈ L
  done : ∀ u ∈ L.take k, ∀ w ∈ nbr g.es u, w ∈ L
  lt : k < L.length
  at' : L.getD k 0 = x
  some : ∀ w ∈ (nbr g.es x).take j, w ∈ L
theorem Srch.start {g : Gr} {n : Nat} {v : Int} {L : List Int} {k : Nat} (h : Srch g n v L k) (hk : k < L.length) : SrchI g v L k (L.getD k 0) 0 :=
  ⟨h.nodup, h.reach, h.mem, h.done, hk, rfl, fun w hw => by simp at hw⟩
theorem SrchI.skip {g : Gr} {v : Int} {L : List Int} {k : Nat} {x : Int} {j : Nat} (h : SrchI g v L k x j) (hj : j < (nbr g.es x).length) (hw : (nbr g.es x).getD j 0 ∈ L) : SrchI g v L k x (j + 1) := by
  refine ⟨h.nodup, h.reach, h.mem, h.done, h.lt, h.at', fun w hw2 => ?_⟩
  rw [List.take_succ_eq_append_getElem hj, List.mem_append, List.mem_singleton] at hw2
  rcases hw2 with hw2 | rfl
  · exact h.some w hw2
  · rwa [getD_lt _ _ hj] at hw
theorem SrchI.push {g : Gr} {v : Int} {L : List Int} {k : Nat} {x : Int} {j : Nat} (h : SrchI g v L k x j) (hj : j < (nbr g.es x).length) (hw : (nbr g.es x).getD j 0 ∉ L) : SrchI g v (L ++ [(nbr g.es x).getD j 0]) k x (j + 1) := by
  have hx : x ∈ L := by rw [← h.at', getD_lt _ _ h.lt]; exact List.getElem_mem _
  refine ⟨?_, fun w hw2 => ?_, List.mem_append_left _ h.mem, fun u hu w hw2 => ?_, ?_, ?_, fun w hw2 => ?_⟩
  · rw [List.nodup_append]
    refine ⟨h.nodup, by simp, fun a ha b hb => ?_⟩
    rw [List.mem_singleton] at hb
    rintro rfl
    exact hw (hb ▸ ha)
  · rw [List.mem_append, List.mem_singleton] at hw2
    rcases hw2 with hw2 | rfl
    · exact h.reach w hw2
    · exact .step (h.reach x hx) (by rw [getD_lt _ _ hj]; exact List.getElem_mem _)
  · rw [List.take_append_of_le_length (by have := h.lt; omega)] at hu
    exact List.mem_append_left _ (h.done u hu w hw2)
  · have := h.lt; simp; omega
  · rw [← h.at']
    have := h.lt
    simp [List.getD_eq_getElem?_getD, List.getElem?_append_left this]
  · rw [List.take_succ_eq_append_getElem hj, List.mem_append, List.mem_singleton] at hw2
    rw [getD_lt _ _ hj]
    rcases hw2 with hw2 | rfl
    · exact List.mem_append_left _ (h.some w hw2)
    · exact List.mem_append_right _ (List.mem_singleton.2 rfl)
theorem SrchI.finish {g : Gr} {n : Nat} {v : Int} {L : List Int} {k : Nat} {x : Int} {j : Nat} (h : SrchI g v L k x j) (hj : (nbr g.es x).length ≤ j) : Srch g n v L (k + 1) := by
  refine ⟨h.nodup, h.reach, h.mem, fun u hu w hw => ?_⟩
  rw [List.take_succ_eq_append_getElem h.lt, List.mem_append, List.mem_singleton] at hu
  rcases hu with hu | rfl
  · exact h.done u hu w hw
  · have hx : L[k]'h.lt = x := (getD_lt _ _ h.lt).symm.trans h.at'
    rw [hx] at hw
    exact h.some w (by rw [List.take_of_length_le hj]; exact hw)
theorem SrchI.len {g : Gr} (hg : Good g) {v : Int} {L : List Int} {k : Nat} {x : Int} {j : Nat} (h : SrchI g v L k x j) (hv : v ∈ g.vs) : L.length ≤ g.vs.length :=
  List.Nodup.length_le_of_subset h.nodup fun w hw => hg.reach hv (h.reach w hw)

/-- Which numbers a map of 1's has. -/
def SeenI (es : List (List Int × LV)) (P : Int → Prop) : Prop := ∀ v, (P v → (mget es [v]).getD (i 0) = i 1) ∧ (¬ P v → (mget es [v]).getD (i 0) = i 0)
theorem SeenI.step {es : List (List Int × LV)} {P P' : Int → Prop} (h : SeenI es P) (w : Int) (hp : ∀ v, P' v ↔ P v ∨ v = w) : SeenI (mset es [w] (i 1)) P' := by
  intro v
  rw [mget_mset]
  by_cases hv : v = w
  · subst hv
    simp only [if_true, Option.getD_some]
    exact ⟨fun _ => by trivial, fun h1 => absurd ((hp v).2 (.inr rfl)) h1⟩
  · rw [if_neg (by simpa using hv), hp]
    exact ⟨fun h1 => (h v).1 (h1.resolve_right hv), fun h1 => (h v).2 fun h2 => h1 (.inl h2)⟩
theorem SeenI.congr {es : List (List Int × LV)} {P P' : Int → Prop} (h : SeenI es P) (hp : ∀ v, P' v ↔ P v) : SeenI es P' := fun v => by rw [hp]; exact h v

def PtF (m ms : Nat) (es : List (List Int × LV)) (n : Nat) (g : Gr) (st : St) (j : Nat) (P : Int → Prop) (fr : Frm) (st2 : St) : Prop :=
  fr 4 = .mp m ∧ fr 5 = .mp ms ∧ fr 16 = .sl 0 g.vs.length (us g.vs) ∧ fr 17 = i g.vs.length ∧ fr 18 = i j ∧ (m < ms ∧ ms < st2.next ∧ st.next ≤ m) ∧ st2.H m = .map false [.u32] es ∧ Keeps st st2 ∧ (∃ es2, st2.H ms = .map false [.u32] es2 ∧ SeenI es2 P) ∧
    ∃ t R, fr 3 = .sl t R.length (rowsL3 R) ∧ PartsTo g j R ∧ t ≠ 0 ∧ st.next ≤ t ∧ t < st2.next ∧ st2.H t = .own 35 1 R.length
def PtL (m ms : Nat) (es : List (List Int × LV)) (n : Nat) (g : Gr) (st : St) (j : Nat) (v : Int) (L : List Int) (fr : Frm) (st2 : St) : Prop :=
  PtF m ms es n g st j (fun w => Seen g j w ∨ w ∈ L) fr st2 ∧ ∃ q, fr 8 = .ms q 0 L.length ∧ st2.H q = .box 41 1 (us L) ∧ st.next ≤ q ∧ q < st2.next

theorem PtL.fr {m ms : Nat} {es : List (List Int × LV)} {n : Nat} {g : Gr} {st : St} {j : Nat} {v : Int} {L : List Int} {fr fr' : Frm} {st2 : St} (h : PtL m ms es n g st j v L fr st2) (h3 : fr' 3 = fr 3) (h4 : fr' 4 = fr 4) (h5 : fr' 5 = fr 5) (h8 : fr' 8 = fr 8) (h16 : fr' 16 = fr 16) (h17 : fr' 17 = fr 17) (h18 : fr' 18 = fr 18) : PtL m ms es n g st j v L fr' st2 := by
  obtain ⟨⟨f4, f5, f16, f17, f18, a, b, c, d, t, R, f3, r⟩, q, f8, r2⟩ := h
  exact ⟨⟨h4.trans f4, h5.trans f5, h16.trans f16, h17.trans f17, h18.trans f18, a, b, c, d, t, R, h3.trans f3, r⟩, q, h8.trans f8, r2⟩

set_option maxHeartbeats 2000000 in
theorem Parts (g : Gr) (st : St) (hg : Good g) (hv : g.vs.length ≤ 1000) (he : g.es.length ≤ 1000) :
    ACalls Tryz.prog 39 [.ag (grL g)] st fun r st' => (∃ t R, r = .sl t R.length (rowsL3 R) ∧ PartsTo g g.vs.length R) ∧ Keeps st st' := by
  refine acalls_of_body tabOk Tryz.func39 rfl rfl Tryz.ntmps39 (rs := [.tmp 2]) rfl (by simp) ?_
  (repeat' (first | refine awp_seq ?_ | (refine w_e [] ?_; intro J hJ; simp only []; simp []; (try (refine hJ _ _ ?_; clear hJ J; simp only [ak, reduceIte])))))
  refine callK_ofE (near g _ he) (by simp) ?_; rintro r s1 ⟨m, es, rfl, hm1, hm2, hM, hk1, hR⟩
  have hn1 := hk1.next
  simp only [new_next] at hn1 hm1
  have hG1 : s1.H st.next = .box 38 2 (grL g) := by rw [hk1.H _ (by simp)]; simp
  have hms : ¬ st.next = s1.next := by omega
  (repeat' (first | refine awp_seq ?_ | refine awp_block ?_ | ((first | (refine w_e [] ?_; intro J hJ; simp only []) | (refine e_go ?_)); simp [hG1, hms]; (refine hJ _ _ ?_; clear hJ J; simp only [ak, reduceIte]))))
  obtain ⟨ms, hmse⟩ : ∃ ms, ms = s1.next := ⟨_, rfl⟩
  refine awp_posG fun hpos => ?_
  refine awp_own 3 35 1 (by simp) ?_
  refine awp_loop (fun z fr st2 => ∃ j : Nat, j ≤ g.vs.length ∧ z = g.vs.length - j ∧ PtF m ms es 0 g st j (Seen g j) fr st2) g.vs.length ?_ ?_
  · refine ⟨0, by omega, by omega, by simp, by simp [hmse], by simp, by simp, by simp, ⟨by omega, by simp; omega, by omega⟩, ?_, ?_, ⟨[], by simp [hmse], fun v => ⟨fun h => ?_, fun _ => rfl⟩⟩, s1.next + 1, [], by simp, .zero, by omega, by omega, by simp, by simp⟩
    · have a1 : ¬ m = s1.next + 1 := by omega
      have a2 : ¬ m = s1.next := by omega
      simp [a1, a2, hM]
    · exact (((Keeps.new _ _).trans hk1).trans (Keeps.new _ _)).trans (Keeps.new _ _)
    · obtain ⟨u, hu, _⟩ := h; simp at hu
  rintro z fr st2 ⟨j, hj, rfl, f4, f5, f16, f17, f18, ⟨hmm, hmn, hml⟩, hM2, hkp, ⟨es2, hS, hSI⟩, t, R, f3, hPT, ht0, htl, htn, htH⟩ JJ hJJ
  by_cases hlt : j < g.vs.length
  rotate_left
  · clear hJJ
    have hj' : j = g.vs.length := by omega
    rw [hj'] at hPT
    (repeat' (first | refine awp_seq ?_ | (refine awp_exit ?_; simp only [ak, reduceIte]) | (refine awp_ret ?_; simp only [ak, reduceIte]; simp [f3, f17, f18, hlt]) | (refine awp_cond ?_; simp [f3, f17, f18, hlt]) | (refine w_e [] ?_; intro J hJ; simp only []; simp [f3, f17, f18, hlt]; (refine hJ _ _ ?_; clear hJ J; simp only [ak, reduceIte]))))
    exact ⟨⟨t, R, ⟨rfl, rfl, rfl⟩, hPT⟩, hkp⟩
  have hd := us_drop_getD g.vs j hlt
  have hw := nat_add_one j (by omega)
  have hvin : g.vs.getD j 0 ∈ g.vs := by rw [getD_lt _ _ hlt]; exact List.getElem_mem hlt
  have hsame := @seen_same g j hlt
  have hsucc := @seen_succ g j hlt
  have hps := fun hs => PartsTo.seen hPT hlt hs
  have hpl := fun (c : List Int) hs hc => PartsTo.lead (c := c) hPT hlt hs hc
  generalize hx : g.vs.getD j 0 = v at *
  by_cases hs : Seen g j v
  · have hg1 := (hSI v).1 hs
    (repeat' (first | refine awp_seq ?_ | refine awp_block ?_ | (refine awp_skip ?_; simp only [ak, reduceIte]) | (refine awp_exit ?_; simp only [ak, reduceIte]) | (refine awp_cond ?_; simp [f5, f16, f17, f18, hlt, hd, hw, hS, hg1]) | (refine w_e [] ?_; intro J hJ; simp only []; simp [f5, f16, f17, f18, hlt, hd, hw, hS, hg1]; (refine hJ _ _ ?_; clear hJ J; simp only [ak, reduceIte]))))
    exact hJJ (g.vs.length - (j + 1)) _ _ (by omega) ⟨j + 1, by omega, rfl, by simp [f4], by simp [f5], by simp [f16], by simp [f17], by simp, ⟨hmm, hmn, hml⟩, hM2, hkp, ⟨es2, hS, hSI.congr fun w => hsame hs⟩, t, R, by simp [f3], hps hs, ht0, htl, htn, htH⟩
  have hg1 := (hSI v).2 hs
  (repeat' (first | refine awp_seq ?_ | (refine w_e [] ?_; intro J hJ; simp only []; simp [f5, f16, f17, f18, hlt, hd, hw, hS, hg1]; (refine hJ _ _ ?_; clear hJ J; simp only [ak, reduceIte]))))
  refine awp_cond ?_; simp [hlt]
  (repeat' (first | refine awp_seq ?_ | refine awp_block ?_ | (refine awp_skip ?_; simp only [ak, reduceIte]) | (refine w_e [] ?_; intro J hJ; simp only []; simp [f5, f16, f17, f18, hlt, hd, hw, hS, hg1]; (refine hJ _ _ ?_; clear hJ J; simp only [ak, reduceIte]))))
  refine awp_cond ?_; simp
  refine awp_skip ?_; simp only [ak, reduceIte]
  have hne1 : ¬ m = ms := by omega
  have hne2 : ¬ t = ms := fun h => by rw [h, hS] at htH; cases htH
  refine awp_seq ?_; (refine w_e [] ?_; intro J hJ; simp only []; simp [f5, hS]; (refine hJ _ _ ?_; clear hJ J; simp only [ak, reduceIte]))
  refine awp_seq ?_; (refine w_e [29] ?_; intro J hJ; simp only []; simp []; (refine hJ _ _ ?_; clear hJ J; simp only [ak, reduceIte]))
  refine awp_seq ?_
  refine awp_cut1 (fun fr st2 => ∃ L, Srch g j v L L.length ∧ PtL m ms es 0 g st j v L fr st2) ?_ ?_
  · clear hJJ
    (repeat' (first | refine awp_seq ?_ | refine awp_block ?_ | (refine w_e [] ?_; intro J hJ; simp only []; simp []; (refine hJ _ _ ?_; clear hJ J; simp only [ak, reduceIte]))))
    refine awp_loop (fun z fr st2 => ∃ k L, k ≤ L.length ∧ z = g.vs.length - k ∧ fr 9 = i (k : Nat) ∧ Srch g j v L k ∧ PtL m ms es 0 g st j v L fr st2) g.vs.length ?_ ?_
    · refine ⟨0, [v], by simp, by simp, by simp, ⟨by simp, fun w hw => ?_, by simp, fun u hu => by simp at hu⟩, ⟨by simp [f4], by simp [f5], by simp [f16], by simp [f17], by simp [f18], ⟨hmm, by simp; omega, hml⟩, ?_, (by repeat (first | exact hkp | (refine Keeps.trans ?_ (Keeps.new _ _)) | (refine Keeps.set ?_ (by have := hkp.next; omega) _))), ⟨_, ?_, hSI.step v fun w => ?_⟩, t, R, by simp [f3], hPT, ht0, htl, by simp; omega, ?_⟩, st2.next, by simp, by simp, by have := hkp.next; omega, by simp⟩
      · rw [List.mem_singleton] at hw; subst hw; exact .refl
      · have a2 : ¬ m = st2.next := by omega
        simp [a2, hne1, hM2]
      · have a2 : ¬ ms = st2.next := by omega
        simp [a2]
      · rw [List.mem_singleton]
      · have a2 : ¬ t = st2.next := by omega
        simp [a2, hne2, htH]
    clear f3 f4 f5 f16 f17 f18 hmn hM2 hkp hS hSI hg1 htn htH hne2 ht0 htl hPT hps hpl t R es2 st2 fr
    rintro z fr st2 ⟨k, L, hkL, rfl, f9, hSr, hP⟩ J2 hJ2
    obtain ⟨⟨f4, f5, f16, f17, f18, ⟨-, hmn, -⟩, hM2, hkp, ⟨es2, hS, hSI⟩, t, R, f3, hPT, ht0, htl, htn, htH⟩, q, f8, hq, hql, hqn⟩ := id hP
    have hLl := hSr.sub hg hvin
    by_cases hkl : k < L.length
    rotate_left
    · clear hJ2
      have hk' : k = L.length := by omega
      rw [hk'] at hSr
      (repeat' (first | refine awp_seq ?_ | (refine awp_exit ?_; simp only [ak, reduceIte]) | (refine awp_cond ?_; simp [f8, f9, hkl]) | (refine w_e [] ?_; intro J hJ; simp only []; simp [f8, f9, hkl]; (refine hJ _ _ ?_; clear hJ J; simp only [ak, reduceIte]))))
      exact ⟨by trivial, L, hSr, ⟨by simp [f4], by simp [f5], by simp [f16], by simp [f17], by simp [f18], ⟨hmm, hmn, hml⟩, hM2, hkp, ⟨es2, hS, hSI⟩, t, R, by simp [f3], hPT, ht0, htl, htn, htH⟩, q, by simp [f8], hq, hql, hqn⟩
    have hdL := us_drop_getD L k hkl
    have hst := hSr.start hkl
    have hwk := nat_add_one k (by omega)
    generalize hxx : L.getD k 0 = x at *
    have hyl : (nbr g.es x).length ≤ 2 * g.es.length := flat_len (nbr1 x) (nbr1_len x) g.es
    obtain ⟨X, hX, hXl⟩ : ∃ X, (mget es [x]).getD .nil = X ∧ ((X = .nil ∧ nbr g.es x = []) ∨ ∃ t', X = .sl t' (nbr g.es x).length (us (nbr g.es x))) := by
      rcases hR.cases x with ⟨h1, h2⟩ | ⟨t', h1⟩
      · exact ⟨_, h1, .inl ⟨rfl, h2⟩⟩
      · exact ⟨_, h1, .inr ⟨t', rfl⟩⟩
    (repeat (refine awp_seq ?_)); (refine w_e [] ?_; intro J hJ; simp only []; simp [f8, f9, hkl]; (refine hJ _ _ ?_; clear hJ J; simp only [ak, reduceIte]))
    refine awp_cond ?_; simp [hkl]
    refine awp_skip ?_; simp only [ak, reduceIte]
    refine awp_seq ?_; refine awp_block ?_; refine awp_seq ?_
    refine awp_cut1 (fun fr st2 => fr 9 = i k ∧ fr 41 = X ∧ fr 42 = i (nbr g.es x).length ∧ fr 43 = i (0 : Nat) ∧ PtL m ms es 0 g st j v L fr st2) ?_ ?_
    · clear hJ2
      rcases hXl with ⟨rfl, hy⟩ | ⟨t', rfl⟩
      · (repeat' (refine w_e [] ?_; intro J hJ; simp only []; simp [f4, f8, f9, hkl, hdL, hq, hM2, hX]; (refine hJ _ _ ?_; clear hJ J; simp only [ak, reduceIte])))
        exact ⟨by trivial, by simp [f9], by simp, by simp [hy], by simp, hP.fr (by simp) (by simp) (by simp) (by simp) (by simp) (by simp) (by simp)⟩
      · (repeat' (refine w_e [] ?_; intro J hJ; simp only []; simp [f4, f8, f9, hkl, hdL, hq, hM2, hX]; (refine hJ _ _ ?_; clear hJ J; simp only [ak, reduceIte])))
        exact ⟨by trivial, by simp [f9], by simp, by simp, by simp, hP.fr (by simp) (by simp) (by simp) (by simp) (by simp) (by simp) (by simp)⟩
    clear f3 f4 f5 f8 f9 f16 f17 f18 hmn hM2 hkp hS hSI htn htH ht0 htl hPT hP hq hql hqn q t R es2 st2 fr
    rintro fr st2 ⟨f9, f41, f42, f43, hP⟩
    refine awp_block ?_
    refine awp_loop (fun z fr st2 => ∃ jj L, jj ≤ (nbr g.es x).length ∧ z = (nbr g.es x).length - jj ∧ fr 9 = i k ∧ fr 41 = X ∧ fr 42 = i (nbr g.es x).length ∧ fr 43 = i (jj : Nat) ∧ SrchI g v L k x jj ∧ PtL m ms es 0 g st j v L fr st2) (nbr g.es x).length ?_ ?_
    · exact ⟨0, L, by omega, by omega, f9, f41, f42, f43, hst, hP⟩
    clear f9 f41 f42 f43 hP hst hSr hkL hkl hLl hdL hxx L fr st2
    rintro z fr st2 ⟨jj, L, hjj, rfl, f9, f41, f42, f43, hSr, hP⟩ J3 hJ3
    obtain ⟨⟨f4, f5, f16, f17, f18, ⟨-, hmn, -⟩, hM2, hkp, ⟨es2, hS, hSI⟩, t, R, f3, hPT, ht0, htl, htn, htH⟩, q, f8, hq, hql, hqn⟩ := id hP
    have hLl := hSr.len hg hvin
    by_cases hjl : jj < (nbr g.es x).length
    rotate_left
    · clear hJ3
      have hkl := hSr.lt
      (repeat' (first | refine awp_seq ?_ | (refine awp_exit ?_; simp only [ak, reduceIte]) | (refine awp_cond ?_; simp [f42, f43, hjl, f9, hwk]) | (refine w_e [] ?_; intro J hJ; simp only []; simp [f42, f43, hjl, f9, hwk]; (refine hJ _ _ ?_; clear hJ J; simp only [ak, reduceIte]))))
      exact hJ2 (g.vs.length - (k + 1)) _ _ (by omega) ⟨k + 1, L, by omega, rfl, by simp, hSr.finish (by omega), hP.fr (by simp) (by simp) (by simp) (by simp) (by simp) (by simp) (by simp)⟩
    clear hJ2
    have hdy := us_drop_getD (nbr g.es x) jj hjl
    have hwj := nat_add_one jj (by omega)
    have hXs : ∃ t', X = .sl t' (nbr g.es x).length (us (nbr g.es x)) := by
      rcases hXl with ⟨_, hy⟩ | h
      · rw [hy] at hjl; simp at hjl
      · exact h
    obtain ⟨t', hXe⟩ := hXs
    rw [hXe] at f41
    have hskip := hSr.skip hjl
    have hpush := hSr.push hjl
    have hwm : (nbr g.es x).getD jj 0 ∈ nbr g.es x := by rw [getD_lt _ _ hjl]; exact List.getElem_mem _
    generalize hwx : (nbr g.es x).getD jj 0 = w at *
    by_cases hwL : w ∈ L
    · have hg2 := (hSI w).1 (.inr hwL)
      (repeat' (first | refine awp_seq ?_ | refine awp_block ?_ | (refine awp_skip ?_; simp only [ak, reduceIte]) | (refine awp_cond ?_; simp [f5, f41, f42, f43, hjl, hdy, hS, hg2, hwj]) | (refine w_e [] ?_; intro J hJ; simp only []; simp [f5, f41, f42, f43, hjl, hdy, hS, hg2, hwj]; (refine hJ _ _ ?_; clear hJ J; simp only [ak, reduceIte]))))
      exact hJ3 ((nbr g.es x).length - (jj + 1)) _ _ (by omega) ⟨jj + 1, L, by omega, rfl, by simp [f9], by simp [f41, hXe], by simp [f42], by simp, hskip hwL, hP.fr (by simp) (by simp) (by simp) (by simp) (by simp) (by simp) (by simp)⟩
    have hns : ¬ (Seen g j w ∨ w ∈ L) := by
      rintro (h | h)
      · have hxL : x ∈ L := by rw [← hSr.at', getD_lt _ _ hSr.lt]; exact List.getElem_mem _
        exact hs (h.reach ((Reach.step .refl (nbr_symm hwm)).trans (hSr.reach x hxL).symm))
      · exact hwL h
    have hg2 := (hSI w).2 hns
    have b1 : ¬ q = ms := fun h => by rw [h, hS] at hq; cases hq
    have b2 : ¬ q = st2.next := by omega
    (repeat' (first | refine awp_seq ?_ | refine awp_block ?_ | (refine awp_skip ?_; simp only [ak, reduceIte]) | (refine awp_cond ?_; simp [f5, f8, f41, f42, f43, hjl, hdy, hS, hg2, hwj, hq, b1, b2]) | (refine w_e [] ?_; intro J hJ; simp only []; simp [f5, f8, f41, f42, f43, hjl, hdy, hS, hg2, hwj, hq, b1, b2]; (repeat refine ca ?_); (refine hJ _ _ ?_; clear hJ J; simp only [ak, reduceIte]))))
    have b3 : ¬ m = q := fun h => by rw [← h, hM2] at hq; cases hq
    have b4 : ¬ m = st2.next := by omega
    have b5 : ¬ m = st2.next + 1 := by omega
    have b6 : ¬ ms = q := fun h => b1 h.symm
    have b7 : ¬ ms = st2.next := by omega
    have b8 : ¬ ms = st2.next + 1 := by omega
    have b9 : ¬ t = ms := fun h => by rw [h, hS] at htH; cases htH
    have c1 : ¬ t = q := fun h => by rw [h, hq] at htH; cases htH
    have c2 : ¬ t = st2.next := by omega
    have c3 : ¬ t = st2.next + 1 := by omega
    refine hJ3 ((nbr g.es x).length - (jj + 1)) _ _ (by omega) ⟨jj + 1, L ++ [w], by omega, rfl, by simp [f9], by simp [f41, hXe], by simp [f42], by simp, hpush hwL, ⟨by simp [f4], by simp [f5], by simp [f16], by simp [f17], by simp [f18], ⟨hmm, by simp; omega, hml⟩, by simp [hne1, b3, b4, b5, hM2], (by repeat (first | exact hkp | (refine Keeps.trans ?_ (Keeps.new _ _)) | (refine Keeps.set ?_ (by have := hkp.next; omega) _))), ⟨_, by simp [b6, b7, b8], hSI.step w fun z => ?_⟩, t, R, by simp [f3], hPT, ht0, htl, by simp; omega, by simp [b9, c1, c2, c3, htH]⟩, st2.next + 1, by simp, by simp, by have := hkp.next; omega, by simp⟩
    rw [List.mem_append, List.mem_singleton]
    exact or_assoc.symm
  clear f3 f4 f5 f16 f17 f18 hmn hM2 hkp hS hSI hg1 htn htH hne2 ht0 htl hPT hps hpl t R es2 st2 fr
  rintro fr st2 ⟨L, hSr, ⟨f4, f5, f16, f17, f18, ⟨-, hmn, -⟩, hM2, hkp, ⟨es2, hS, hSI⟩, t, R, f3, hPT, ht0, htl, htn, htH⟩, q, f8, hq, hql, hqn⟩
  have hpl := fun (c : List Int) hs hc => PartsTo.lead (c := c) hPT hlt hs hc
  rw [hx] at hpl
  have hLl := hSr.sub hg hvin
  have hRl := hPT.len
  have b1 : ¬ q = ms := fun h => by rw [h, hS] at hq; cases hq
  have b3 : ¬ m = q := fun h => by rw [← h, hM2] at hq; cases hq
  have b6 : ¬ ms = q := fun h => b1 h.symm
  have c1 : ¬ t = q := fun h => by rw [h, hq] at htH; cases htH
  (repeat' (first | refine awp_seq ?_ | (refine w_e [] ?_; intro J hJ; simp only []; simp [f8])))
  refine callK_ofE (SortU L q st2 (by omega) hqn hq) (by simp [f8]) ?_; rintro r st' ⟨c, hc, hcp, hcs, hof⟩
  have hcl := hcp.length_eq
  have hnx := hof.1
  have hM3 := (hof.2 m b3 (by omega)).trans hM2
  have hS3 := (hof.2 ms b6 (by omega)).trans hS
  have htH3 := (hof.2 t c1 htn).trans htH
  have hkp3 : Keeps st st' := ⟨Nat.le_trans hkp.next hnx, fun l hl => (hof.2 l (by omega) (by have := hkp.next; omega)).trans (hkp.H l hl)⟩
  (refine e_go ?_; simp []; (refine hJ _ _ ?_; clear hJ J; simp only [ak, reduceIte]))
  refine awp_freeze 8 (l := q) (n := L.length) (by simp [f8]) hc (by simp [hcl]) ?_
  have htk : (us c).take (L.length * 1) = us c := by rw [List.take_of_length_le (by simp [hcl])]
  rw [htk]
  have d1 : ¬ t = st'.next := by omega
  have d2 : ¬ t = st'.next + 1 := by omega
  have d3 : ¬ m = st'.next := by omega
  have d4 : ¬ m = st'.next + 1 := by omega
  have d5 : ¬ ms = st'.next := by omega
  have d6 : ¬ ms = st'.next + 1 := by omega
  have hmt : ¬ m = t := fun h => by rw [h, htH3] at hM3; cases hM3
  have hmst : ¬ ms = t := fun h => by rw [h, htH3] at hS3; cases hS3
  (repeat' (refine w_e [] ?_; intro J hJ; simp only []; simp [f3, f18, hw, htH3, ht0, c1, d1, d2]; (repeat refine ca ?_); (refine hJ _ _ ?_; clear hJ J; simp only [ak, reduceIte])))
  refine hJJ (g.vs.length - (j + 1)) _ _ (by omega) ⟨j + 1, by omega, rfl, by simp [f4], by simp [f5], by simp [f16], by simp [f17], by simp, ⟨hmm, by simp; omega, hml⟩, by simp [hmt, b3, d3, d4, hM3], ?_, ⟨es2, by simp [hmst, b6, d5, d6, hS3], hSI.congr fun w => ?_⟩, st'.next + 1, R ++ [c], by simp [hcl], hpl c hs (part_of hg hvin hSr.nodup hSr.all hcp hcs), by omega, by omega, by simp, by simp⟩
  · (repeat (first | exact hkp3 | (refine Keeps.trans ?_ (Keeps.new _ _)) | (refine Keeps.set ?_ (by have := hkp.next; omega) _)))
  · rw [hsucc, hSr.all]

end Go.Proofs.YtomfeddgeihipaaGreat.Aw

namespace Go.Proofs.YtomfeddgeihipaaGreat.Aw
open Go Go.RowKit Go.Proofs.YtomfeddgeihipaaGreat.Pl
set_option linter.unusedSimpArgs false
set_option linter.unusedVariables false

/-- Which numbers a map of truths has. -/
def InI (es : List (List Int × LV)) (S : List Int) : Prop := ∀ v, (mget es [v]).getD (bb false) = bb (decide (v ∈ S))
theorem InI.step {es : List (List Int × LV)} {S : List Int} (h : InI es S) (w : Int) : InI (mset es [w] (bb true)) (S ++ [w]) := by
  intro v
  rw [mget_mset]
  by_cases hv : v = w
  · subst hv; simp
  · rw [if_neg (by simpa using hv), h v]; simp [hv]
theorem InI.congr {es : List (List Int × LV)} {S S' : List Int} (h : InI es S) (hs : ∀ v, v ∈ S' ↔ v ∈ S) : InI es S' := fun v => by
  rw [h v, show decide (v ∈ S') = decide (v ∈ S) from decide_eq_decide.2 (hs v)]

structure Flood (g : Gr) (v : Int) (S : List Int) : Prop where
  nodup : S.Nodup
  mem : v ∈ S
  reach : ∀ w ∈ S, Reach g.es v w
theorem Flood.len {g : Gr} (hg : Good g) {v : Int} (hv : v ∈ g.vs) {S : List Int} (h : Flood g v S) : S.length ≤ g.vs.length :=
  List.Nodup.length_le_of_subset h.nodup fun w hw => hg.reach hv (h.reach w hw)
theorem Flood.push {g : Gr} {v : Int} {S : List Int} (h : Flood g v S) {x : Ed} (hx : x ∈ g.es) {u w : Int} (hu : u ∈ S) (hw : w ∉ S) (hxw : (x.a = u ∧ x.b = w) ∨ (x.b = u ∧ x.a = w)) : Flood g v (S ++ [w]) := by
  refine ⟨?_, List.mem_append_left _ h.mem, fun z hz => ?_⟩
  · rw [List.nodup_append]
    refine ⟨h.nodup, by simp, fun a ha b hb => ?_⟩
    rw [List.mem_singleton] at hb
    rintro rfl
    exact hw (hb ▸ ha)
  · rw [List.mem_append, List.mem_singleton] at hz
    rcases hz with hz | rfl
    · exact h.reach z hz
    · exact .step (h.reach u hu) (mem_nbr.2 ⟨x, hx, hxw⟩)
def Even (es : List Ed) (S : List Int) : Prop := ∀ x ∈ es, (x.a ∈ S ↔ x.b ∈ S)
theorem Flood.part {g : Gr} (hg : Good g) {v : Int} {S : List Int} (h : Flood g v S) (he : Even g.es S) : IsPart g v (g.vs.filter fun w => decide (w ∈ S)) := by
  refine ⟨hg.rise.filter _, fun w => ?_⟩
  rw [List.mem_filter, decide_eq_true_eq]
  refine ⟨fun hw => ⟨hw.1, h.reach w hw.2⟩, fun hw => ⟨hw.1, ?_⟩⟩
  refine hw.2.closed (L := fun w => w ∈ S) h.mem fun u hu w hw => ?_
  obtain ⟨x, hx, ⟨rfl, rfl⟩ | ⟨rfl, rfl⟩⟩ := mem_nbr.1 hw
  · exact (he x hx).1 hu
  · exact (he x hx).2 hu

def RpI (ms : Nat) (g : Gr) (st : St) (S : List Int) (fr : Frm) (st2 : St) : Prop :=
  fr 2 = .pt st.next 0 ∧ fr 5 = .mp ms ∧ st.next < ms ∧ ms < st2.next ∧ Keeps st st2 ∧ st2.H st.next = .box 38 2 (grL g) ∧ ∃ es, st2.H ms = .map false [.u32] es ∧ InI es S
theorem RpI.fr {ms : Nat} {g : Gr} {st : St} {S : List Int} {fr fr' : Frm} {st2 : St} (h : RpI ms g st S fr st2) (h2 : fr' 2 = fr 2) (h5 : fr' 5 = fr 5) : RpI ms g st S fr' st2 :=
  ⟨h2.trans h.1, h5.trans h.2.1, h.2.2⟩

end Go.Proofs.YtomfeddgeihipaaGreat.Aw

namespace Go.Proofs.YtomfeddgeihipaaGreat.Aw
open Go Go.RowKit Go.Proofs.YtomfeddgeihipaaGreat.Pl
set_option linter.unusedSimpArgs false
set_option linter.unusedVariables false

theorem IsPart.seen {g : Gr} (hg : Good g) {k : Nat} (hk : k < g.vs.length) {x : Int} {c : List Int} (h : IsPart g (g.vs.getD k 0) (x :: c)) : Seen g k (g.vs.getD k 0) ↔ x ≠ g.vs.getD k 0 := by
  have hvin : g.vs.getD k 0 ∈ g.vs := by rw [getD_lt _ _ hk]; exact List.getElem_mem hk
  obtain ⟨h1, h2⟩ := h
  have hmin : ∀ w ∈ x :: c, x ≤ w := by
    intro w hw
    rw [List.mem_cons] at hw
    rcases hw with rfl | hw
    · omega
    · have := (List.pairwise_cons.1 h1).1 w hw; omega
  have hxin := (h2 x).1 (List.mem_cons_self ..)
  constructor
  · rintro ⟨u, hu, hr⟩ he
    obtain ⟨k1, k2⟩ := (take_lt hg.rise hk).1 hu
    have := hmin u ((h2 u).2 ⟨k1, hr.symm⟩)
    omega
  · intro hne
    have := hmin _ ((h2 _).2 ⟨hvin, .refl⟩)
    exact ⟨x, (take_lt hg.rise hk).2 ⟨hxin.1, by omega⟩, hxin.2.symm⟩

/-- An edge's place. -/
def fe (l : List Ed) (id : Int) : Int := if l.any (fun x => decide (x.id = id)) then (l.findIdx (fun x => decide (x.id = id)) : Int) else -1
theorem fe_some {l : List Ed} {id : Int} {k : Nat} (hk : k < l.length) (h : (l.getD k ed0).id = id) (hn : ∀ j, j < k → (l.getD j ed0).id ≠ id) : fe l id = k := by
  have hg : ∀ j (hj : j < l.length), l.getD j ed0 = l[j] := fun j hj => by rw [List.getD_eq_getElem?_getD, List.getElem?_eq_getElem hj]; rfl
  rw [hg k hk] at h
  unfold fe
  rw [if_pos (List.any_eq_true.2 ⟨_, List.getElem_mem hk, by simpa using h⟩)]
  congr 1
  refine (List.findIdx_eq hk).2 ⟨by simpa using h, fun j hj => ?_⟩
  have := hn j hj
  rw [hg j (by omega)] at this
  simpa using this
theorem fe_none {l : List Ed} {id : Int} (hn : ∀ j, j < l.length → (l.getD j ed0).id ≠ id) : fe l id = -1 := by
  unfold fe
  rw [if_neg]
  intro h
  obtain ⟨x, hx, hp⟩ := List.any_eq_true.1 h
  obtain ⟨j, hj, rfl⟩ := List.getElem_of_mem hx
  have := hn j hj
  rw [List.getD_eq_getElem?_getD, List.getElem?_eq_getElem hj] at this
  exact this (by simpa using hp)

theorem Edge_1 (x : Ed) (q : Nat) (id : Int) (st : St) (hq : st.H q = .box 41 1 [u id]) (hqn : q < st.next) :
    ACalls Tryz.prog 112 [.ag (edL x), .pt q 0] st fun r st' => r = bb (decide (x.id = id)) ∧ Keeps st st' := by
  have a1 : ¬ q = st.next := by omega
  obtain ⟨d, a, b⟩ := x
  refine acalls_of_body tabOk Tryz.func112 rfl rfl Tryz.ntmps112 (rs := [.tmp 3]) rfl (by simp) ?_
  by_cases hd : d = id
  · (repeat' (first | refine awp_seq ?_ | (refine awp_ret ?_; simp only [ak, reduceIte]; simp [hq, a1, hd]) | (refine w_e [] ?_; intro J hJ; simp only []; simp [hq, a1, hd]; (refine hJ _ _ ?_; clear hJ J; simp only [ak, reduceIte]))))
    exact Keeps.new _ _
  · (repeat' (first | refine awp_seq ?_ | (refine awp_ret ?_; simp only [ak, reduceIte]; simp [hq, a1, hd]) | (refine w_e [] ?_; intro J hJ; simp only []; simp [hq, a1, hd]; (refine hJ _ _ ?_; clear hJ J; simp only [ak, reduceIte]))))
    exact Keeps.new _ _

theorem IndexFuncE (l : List Ed) (t q : Nat) (id : Int) (st : St) (hl : l.length ≤ 1000) (hq : st.H q = .box 41 1 [u id]) (hqn : q < st.next) :
    ACalls Tryz.prog 111 [.sl t l.length (eds l), .fn (.func 112) [.pt q 0]] st fun r st' => r = i (fe l id) ∧ Keeps st st' := by
  have hel := eds_length l
  refine acalls_of_body tabOk Tryz.func111 rfl rfl Tryz.ntmps111 (rs := [.tmp 4]) rfl (by simp) ?_
  (repeat' (first | refine awp_seq ?_ | refine awp_block ?_ | (refine w_e [] ?_; intro J hJ; simp only []; simp []; (refine hJ _ _ ?_; clear hJ J; simp only [ak, reduceIte]))))
  refine awp_loop (fun n fr st2 => ∃ k : Nat, k ≤ l.length ∧ n = l.length - k ∧ fr 0 = .sl t l.length (eds l) ∧ fr 1 = .fn (.func 112) [.pt q 0] ∧ fr 7 = i l.length ∧ fr 8 = i k ∧ Keeps st st2 ∧ ∀ j, j < k → (l.getD j ed0).id ≠ id) l.length ?_ ?_
  · exact ⟨0, by omega, by omega, by simp, by simp, by simp, by simp, Keeps.refl _, fun j hj => by omega⟩
  rintro n fr st2 ⟨k, hk, rfl, f0, f1, f7, f8, hkp, hno⟩ JJ hJJ
  by_cases hlt : k < l.length
  rotate_left
  · clear hJJ
    have hr := fe_none (l := l) (id := id) fun j hj => hno j (by omega)
    (repeat' (first | refine awp_seq ?_ | (refine awp_exit ?_; simp only [ak, reduceIte]) | (refine awp_ret ?_; simp only [ak, reduceIte]; simp [f7, f8, hlt, hr]) | (refine awp_cond ?_; simp [f7, f8, hlt, hr]) | (refine w_e [] ?_; intro J hJ; simp only []; simp [f7, f8, hlt, hr]; (refine hJ _ _ ?_; clear hJ J; simp only [ak, reduceIte]))))
    exact hkp
  have hd := eds_drop l k hlt
  have hw := nat_add_one k (by omega)
  have hk3 : k * 3 < l.length * 3 := by omega
  have hso := fun h => fe_some (id := id) hlt h hno
  have hnx : (l.getD k ed0).id ≠ id → ∀ j, j < k + 1 → (l.getD j ed0).id ≠ id := fun h j hj => by
    rcases Nat.lt_or_ge j k with h1 | h1
    · exact hno j h1
    · obtain rfl : j = k := by omega
      exact h
  generalize hx : l.getD k ed0 = x at *
  obtain ⟨d, a, b⟩ := x
  simp only at hd hso hnx
  (repeat' (first | refine awp_seq ?_ | refine awp_block ?_ | (refine awp_skip ?_; simp only [ak, reduceIte]) | (refine awp_cond ?_; simp [f0, f1, f7, f8, hlt, hd, hel]) | (refine w_e [] ?_; intro J hJ; simp only []; simp [f0, f1, f7, f8, hlt, hd, hel]; (try (refine hJ _ _ ?_; clear hJ J; simp only [ak, reduceIte])))))
  refine callK_ofE (Edge_1 ⟨d, a, b⟩ q id st2 ((hkp.H q hqn).trans hq) (Nat.lt_of_lt_of_le hqn hkp.next)) (by simp) ?_; rintro r s3 ⟨rfl, hk3'⟩
  simp only
  by_cases hdi : d = id
  · have hr := hso hdi
    (repeat' (first | refine awp_seq ?_ | (refine awp_ret ?_; simp only [ak, reduceIte]; simp [f8, hdi, hr]) | (refine awp_cond ?_; simp [f8, hdi, hr]) | ((first | (refine w_e [] ?_; intro J hJ; simp only []) | (refine e_go ?_)); simp [f8, hdi, hr]; (refine hJ _ _ ?_; clear hJ J; simp only [ak, reduceIte]))))
    exact hkp.trans hk3'
  · (repeat' (first | (refine awp_skip ?_; simp only [ak, reduceIte]) | (refine awp_cond ?_; simp [f8, hdi, hw]) | ((first | (refine w_e [] ?_; intro J hJ; simp only []) | (refine e_go ?_)); simp [f8, hdi, hw]; (refine hJ _ _ ?_; clear hJ J; simp only [ak, reduceIte]))))
    exact hJJ (l.length - (k + 1)) _ _ (by omega) ⟨k + 1, by omega, rfl, by simp [f0], by simp [f1], by simp [f7], by simp, hkp.trans hk3', hnx hdi⟩

theorem gEdge (g : Gr) (id : Int) (st : St) (he : g.es.length ≤ 1000) :
    ACalls Tryz.prog 66 [.ag (grL g), u id] st fun r st' => r = i (fe g.es id) ∧ Keeps st st' := by
  refine acalls_of_body tabOk Tryz.func66 rfl rfl Tryz.ntmps66 (rs := [.tmp 4]) rfl (by simp) ?_
  (repeat' (first | refine awp_seq ?_ | (refine w_e [] ?_; intro J hJ; simp only []; simp []; (try (refine hJ _ _ ?_; clear hJ J; simp only [ak, reduceIte])))))
  refine callK_ofE (IndexFuncE g.es 0 (st.next + 1) id _ he (by simp) (by simp)) (by simp) ?_; rintro r s3 ⟨rfl, hk3⟩
  (repeat' (first | (refine awp_ret ?_; simp only [ak, reduceIte]; simp []) | (refine e_go ?_; simp []; (refine hJ _ _ ?_; clear hJ J; simp only [ak, reduceIte]))))
  exact ((Keeps.new _ _).trans (Keeps.new _ _)).trans hk3

end Go.Proofs.YtomfeddgeihipaaGreat.Aw

namespace Go.Proofs.YtomfeddgeihipaaGreat.Aw
open Go Go.RowKit Go.Proofs.YtomfeddgeihipaaGreat.Pl
set_option linter.unusedSimpArgs false
set_option linter.unusedVariables false

def TestE (f : FuncId) (caps : List LV) (st : St) (l : List Ed) (p : Ed → Bool) : Prop := ∀ x ∈ l, ∀ st2, Keeps st st2 → ACalls Tryz.prog f (.ag (edL x) :: caps) st2 fun r st3 => r = bb (p x) ∧ Keeps st2 st3

def odd1 (o : Bool) (x : Ed) : Bool := decide (x.id % 2 = 1) == o
theorem filter_takeE (l : List Ed) (p : Ed → Bool) (k : Nat) (hk : k < l.length) : (l.take (k + 1)).filter p = if p (l.getD k ed0) = true then (l.take k).filter p ++ [l.getD k ed0] else (l.take k).filter p := by
  rw [List.take_succ_eq_append_getElem hk, List.filter_append, List.getD_eq_getElem?_getD, List.getElem?_eq_getElem hk]
  by_cases h : p l[k] = true <;> simp [h]

/-- A row of edges, or none. -/
def RowE (X : LV) (F : List Ed) : Prop := (X = .nil ∧ F = []) ∨ ∃ t, X = .sl t F.length (eds F)

set_option maxHeartbeats 1000000 in
theorem Keep (g : Gr) (f : FuncId) (caps : List LV) (p : Ed → Bool) (st : St) (hv : g.vs.length ≤ 1000) (he : g.es.length ≤ 1000) (hp : TestE f caps st g.es p) :
    ACalls Tryz.prog 63 [.ag (grL g), .fn (.func f) caps] st fun r st' => (∃ X, r = .ag [.sl 0 g.vs.length (us g.vs), X] ∧ RowE X (g.es.filter p)) ∧ Keeps st st' := by
  have hel := eds_length g.es
  have hsm : small g.vs := by unfold small; omega
  refine acalls_of_body tabOk Tryz.func63 rfl rfl Tryz.ntmps63 (rs := [.cell 4 38]) rfl (by simp) ?_
  (repeat' (first | refine awp_seq ?_ | (refine w_e [] ?_; intro J hJ; simp only []; simp []; (try (refine hJ _ _ ?_; clear hJ J; simp only [ak, reduceIte])))))
  refine callK_ofE (Clone g.vs 0 _ hsm) (by simp) ?_; rintro r s1 ⟨rfl, hk1⟩
  have hn1 := hk1.next
  simp only [new_next] at hn1
  have hG1 : s1.H st.next = .box 38 2 (grL g) := by rw [hk1.H _ (by simp; omega)]; simp
  have hC1 : s1.H (st.next + 1) = .box 38 2 [.nil, .nil] := by rw [hk1.H _ (by simp)]; simp
  have e1 : ¬ st.next = s1.next := by omega
  (repeat' (first | refine awp_seq ?_ | refine awp_block ?_ | ((first | (refine w_e [] ?_; intro J hJ; simp only []) | (refine e_go ?_)); simp [hG1, e1]; (refine hJ _ _ ?_; clear hJ J; simp only [ak, reduceIte]))))
  have hkp1 : Keeps st s1 := ((Keeps.new _ _).trans (Keeps.new _ _)).trans hk1
  obtain ⟨q4, hq4⟩ : ∃ q, q = st.next + 1 := ⟨_, rfl⟩
  obtain ⟨q5, hq5⟩ : ∃ q, q = s1.next := ⟨_, rfl⟩
  refine awp_loop (fun n fr st2 => ∃ k : Nat, k ≤ g.es.length ∧ n = g.es.length - k ∧ fr 1 = .fn (.func f) caps ∧ fr 4 = .pt q4 0 ∧ fr 5 = .pt q5 0 ∧ fr 13 = .sl 0 g.es.length (eds g.es) ∧ fr 14 = i g.es.length ∧ fr 15 = i k ∧ Keeps st st2 ∧ q5 < st2.next ∧ st2.H q4 = .box 38 2 [.nil, .nil] ∧ ∃ X, st2.H q5 = .box 38 2 [.sl 0 g.vs.length (us g.vs), X] ∧ ((X = .nil ∧ (g.es.take k).filter p = []) ∨ ∃ t, X = .sl t ((g.es.take k).filter p).length (eds ((g.es.take k).filter p)) ∧ t ≠ 0 ∧ q5 < t ∧ t < st2.next ∧ st2.H t = .own 43 3 ((g.es.take k).filter p).length)) g.es.length ?_ ?_
  · have e2 : ¬ q4 = s1.next := by omega
    have e3 : ¬ st.next + 1 = s1.next := by omega
    refine ⟨0, by omega, by omega, by simp, by simp [hq4], by simp [hq5], by simp, by simp, by simp, ?_, by simp [hq5], by simp [e2, hC1, hq4, e3], .nil, by simp [hq5], .inl ⟨rfl, by simp⟩⟩
    (repeat (first | exact hkp1 | (refine Keeps.trans ?_ (Keeps.new _ _)) | (refine Keeps.set ?_ (by omega) _)))
  rintro n fr st2 ⟨k, hk, rfl, f1, f4, f5, f13, f14, f15, hkp, h5n, hC, X, hX, hXs⟩ JJ hJJ
  have e0 : ¬ q4 = q5 := by omega
  by_cases hlt : k < g.es.length
  rotate_left
  · clear hJJ
    have hk' : k = g.es.length := by omega
    rw [hk', List.take_length] at hXs
    rcases hXs with ⟨rfl, h⟩ | ⟨t, rfl, h⟩
    · (repeat' (first | refine awp_seq ?_ | (refine awp_exit ?_; simp only [ak, reduceIte]) | (refine awp_ret ?_; simp only [ak, reduceIte]; simp [f4, f5, f14, f15, hlt, hX, hC, e0]) | (refine awp_cond ?_; simp [f4, f5, f14, f15, hlt, hX, hC, e0]) | (refine w_e [] ?_; intro J hJ; simp only []; simp [f4, f5, f14, f15, hlt, hX, hC, e0]; (refine hJ _ _ ?_; clear hJ J; simp only [ak, reduceIte]))))
      exact ⟨.inl ⟨rfl, h⟩, (by repeat (first | exact hkp | (refine Keeps.trans ?_ (Keeps.new _ _)) | (refine Keeps.set ?_ (by have := hkp.next; omega) _)))⟩
    · (repeat' (first | refine awp_seq ?_ | (refine awp_exit ?_; simp only [ak, reduceIte]) | (refine awp_ret ?_; simp only [ak, reduceIte]; simp [f4, f5, f14, f15, hlt, hX, hC, e0]) | (refine awp_cond ?_; simp [f4, f5, f14, f15, hlt, hX, hC, e0]) | (refine w_e [] ?_; intro J hJ; simp only []; simp [f4, f5, f14, f15, hlt, hX, hC, e0]; (refine hJ _ _ ?_; clear hJ J; simp only [ak, reduceIte]))))
      exact ⟨.inr ⟨t, rfl⟩, (by repeat (first | exact hkp | (refine Keeps.trans ?_ (Keeps.new _ _)) | (refine Keeps.set ?_ (by have := hkp.next; omega) _)))⟩
  have hd := eds_drop g.es k hlt
  have hw := nat_add_one k (by omega)
  have hk3 : k * 3 < g.es.length * 3 := by omega
  have hxin : g.es.getD k ed0 ∈ g.es := by rw [List.getD_eq_getElem?_getD, List.getElem?_eq_getElem hlt]; exact List.getElem_mem hlt
  have hst := filter_takeE g.es p k hlt
  have hle := List.length_filter_le p (g.es.take k)
  rw [List.length_take] at hle
  have htest := fun s h => hp _ hxin s h
  generalize hx : g.es.getD k ed0 = x at *
  generalize hFF : (g.es.take k).filter p = F at *
  have hFl := eds_length F
  have hFo : (eds F).length = F.length * 3 := hFl
  obtain ⟨d, a, b⟩ := x
  simp only at hd htest
  (repeat' (first | refine awp_seq ?_ | refine awp_block ?_ | (refine awp_skip ?_; simp only [ak, reduceIte]) | (refine awp_cond ?_; simp [f1, f13, f14, f15, hlt, hd, hel]) | (refine w_e [] ?_; intro J hJ; simp only []; simp [f1, f13, f14, f15, hlt, hd, hel]; (try (refine hJ _ _ ?_; clear hJ J; simp only [ak, reduceIte])))))
  refine callK_of (htest _ (hkp.trans (Keeps.new _ (.box 43 3 [u d, u a, u b])))) ?_; rintro r s3 ⟨rfl, hk3'⟩
  have hn3 := hk3'.next
  simp only [new_next] at hn3
  have hkk : Keeps st2 s3 := (Keeps.new _ _).trans hk3'
  have hX3 := (hkk.H q5 h5n).trans hX
  have hC3 := (hkk.H q4 (by omega)).trans hC
  have hE3 : s3.H st2.next = .box 43 3 [u d, u a, u b] := by rw [hk3'.H _ (by simp)]; simp
  have hkp3 : Keeps st s3 := (hkp.trans (Keeps.new _ _)).trans hk3'
  have z1 : ¬ q5 = s3.next := by omega
  have z2 : ¬ q5 = s3.next + 1 := by omega
  have z3 : ¬ q4 = s3.next := by omega
  have z4 : ¬ q4 = s3.next + 1 := by omega
  have z5 : ¬ s3.next + 1 = q5 := by omega
  by_cases hpx : p ⟨d, a, b⟩ = true
  rotate_left
  · rw [if_neg hpx] at hst
    have hpx : p ⟨d, a, b⟩ = false := by simpa using hpx
    (repeat' (first | (refine awp_skip ?_; simp only [ak, reduceIte]) | (refine awp_cond ?_; simp [hpx, f15, hw]) | ((first | (refine w_e [] ?_; intro J hJ; simp only []) | (refine e_go ?_)); simp [hpx, f15, hw]; (refine hJ _ _ ?_; clear hJ J; simp only [ak, reduceIte]))))
    refine hJJ (g.es.length - (k + 1)) _ _ (by omega) ⟨k + 1, by omega, rfl, by simp [f1], by simp [f4], by simp [f5], by simp [f13], by simp [f14], by simp, hkp3, by omega, hC3, X, hX3, ?_⟩
    rw [hst]
    rcases hXs with h | ⟨t, h, h0, h1, h2, h3⟩
    · exact .inl h
    · exact .inr ⟨t, h, h0, h1, by omega, (hkk.H t h2).trans h3⟩
  rw [if_pos hpx] at hst
  have hed : eds (F ++ [⟨d, a, b⟩]) = eds F ++ [u d, u a, u b] := by simp [eds]
  rcases hXs with ⟨rfl, hF0⟩ | ⟨t, rfl, h0, h1, h2, h3⟩
  · (repeat' (first | (refine awp_cond ?_; simp [hpx, f5, f15, hw, hX3, hE3, z1, z2]) | ((first | (refine w_e [] ?_; intro J hJ; simp only []) | (refine e_go ?_)); simp [hpx, f5, f15, hw, hX3, hE3, z1, z2]; (repeat refine ca ?_); (refine hJ _ _ ?_; clear hJ J; simp only [ak, reduceIte]))))
    refine hJJ (g.es.length - (k + 1)) _ _ (by omega) ⟨k + 1, by omega, rfl, by simp [f1], by simp [f4], by simp [f5], by simp [f13], by simp [f14], by simp, ?_, by simp; omega, by simp [e0, z3, z4, hC3], _, by simp; rfl, .inr ⟨s3.next + 1, by rw [hst, hed, hF0]; simp [eds], by omega, by omega, by simp, by rw [hst, hF0]; simp [z5]⟩⟩
    (repeat (first | exact hkp3 | (refine Keeps.trans ?_ (Keeps.new _ _)) | (refine Keeps.set ?_ (by omega) _)))
  · have h3' : s3.H t = .own 43 3 F.length := (hkk.H t h2).trans h3
    have y1 : ¬ t = s3.next := by omega
    have y2 : ¬ t = s3.next + 1 := by omega
    have y3 : ¬ q5 = t := by omega
    have y4 : ¬ t = q5 := by omega
    have y5 : ¬ q4 = t := by omega
    (repeat' (first | (refine awp_cond ?_; simp [hpx, f5, f15, hw, hX3, hE3, z1, z2, h3', h0, y1, y2, y3, y4, hFo]) | ((first | (refine w_e [] ?_; intro J hJ; simp only []) | (refine e_go ?_)); simp [hpx, f5, f15, hw, hX3, hE3, z1, z2, h3', h0, y1, y2, y3, y4, hFo]; (repeat refine ca ?_); (refine hJ _ _ ?_; clear hJ J; simp only [ak, reduceIte]))))
    refine hJJ (g.es.length - (k + 1)) _ _ (by omega) ⟨k + 1, by omega, rfl, by simp [f1], by simp [f4], by simp [f5], by simp [f13], by simp [f14], by simp, ?_, by simp; omega, by simp [e0, z3, z4, y5, hC3], _, by simp; rfl, .inr ⟨s3.next + 1, by rw [hst, hed]; simp, by omega, by omega, by simp, by rw [hst]; simp [z5]⟩⟩
    (repeat (first | exact hkp3 | (refine Keeps.trans ?_ (Keeps.new _ _)) | (refine Keeps.set ?_ (by omega) _)))

end Go.Proofs.YtomfeddgeihipaaGreat.Aw

namespace Go.Proofs.YtomfeddgeihipaaGreat.Aw
open Go Go.RowKit Go.Proofs.YtomfeddgeihipaaGreat.Pl
set_option linter.unusedSimpArgs false
set_option linter.unusedVariables false

theorem PartsTo.flat {g : Gr} (hg : Good g) {k : Nat} {R : List (List Int)} (h : PartsTo g k R) : R.flatten.Nodup ∧ ∀ w, w ∈ R.flatten ↔ w ∈ g.vs ∧ Seen g k w := by
  induction h with
  | zero => exact ⟨by simp, fun w => ⟨fun h => by simp at h, fun h => by obtain ⟨u, hu, _⟩ := h.2; simp at hu⟩⟩
  | seen _ hk hs ih => exact ⟨ih.1, fun w => by rw [ih.2, seen_same hk hs]⟩
  | @lead k R c _ hk hs hc ih =>
    rw [List.flatten_append, List.flatten_cons, List.flatten_nil, List.append_nil]
    refine ⟨?_, fun w => ?_⟩
    · rw [List.nodup_append]
      refine ⟨ih.1, hc.1.imp fun h => by omega, fun a ha b hb => ?_⟩
      rintro rfl
      have h1 := ((ih.2 a).1 ha).2
      have h2 := ((hc.2 a).1 hb).2
      exact hs (h1.reach h2.symm)
    · rw [List.mem_append, ih.2, hc.2, seen_succ hk]
      constructor
      · rintro (⟨h1, h2⟩ | ⟨h1, h2⟩)
        · exact ⟨h1, .inl h2⟩
        · exact ⟨h1, .inr h2⟩
      · rintro ⟨h1, h2 | h2⟩
        · exact .inl ⟨h1, h2⟩
        · exact .inr ⟨h1, h2⟩
theorem PartsTo.count {g : Gr} (hg : Good g) {R : List (List Int)} (h : PartsTo g g.vs.length R) : R.flatten.length = g.vs.length := by
  obtain ⟨h1, h2⟩ := h.flat hg
  refine ((List.perm_ext_iff_of_nodup h1 hg.nodup).2 fun w => ?_).length_eq
  rw [h2]
  refine ⟨fun h => h.1, fun h => ⟨h, w, ?_, .refl⟩⟩
  rw [List.take_length]; exact h
end Go.Proofs.YtomfeddgeihipaaGreat.Aw

namespace Go.Proofs.YtomfeddgeihipaaGreat.Aw
open Go Go.RowKit Go.Proofs.YtomfeddgeihipaaGreat.Pl Go.Proofs.YtomfeddgeihipaaGreat.Eu
set_option linter.unusedSimpArgs false
set_option linter.unusedVariables false

/-- All darts, in the edges' order. -/
def darts (es : List Ed) : List Int := es.flatMap fun x => [2 * x.id, 2 * x.id + 1]
structure GoodE (g : Gr) : Prop extends Good g where
  ids : g.es.Pairwise (fun x y => x.id < y.id)
  pos : ∀ x ∈ g.es, 1 ≤ x.id ∧ x.id ≤ 1048576
  ne : ∀ x ∈ g.es, x.a ≠ x.b
theorem ends_rise {es : List Ed} (h : es.Pairwise (fun x y => x.id < y.id)) (v : Int) : (ends es v).Pairwise (· < ·) := by
  unfold ends
  rw [List.pairwise_flatMap]
  refine ⟨fun x _ => ?_, h.imp fun {x y} hxy a ha b hb => ?_⟩
  · unfold end1
    by_cases h1 : x.a = v <;> by_cases h2 : x.b = v <;> simp [h1, h2]
    omega
  · unfold end1 at ha hb
    simp only [List.mem_append] at ha hb
    have h1 : a = 2 * x.id ∨ a = 2 * x.id + 1 := by
      rcases ha with ha | ha <;> split at ha <;> simp at ha
      · exact .inl ha
      · exact .inr ha
    have h2 : b = 2 * y.id ∨ b = 2 * y.id + 1 := by
      rcases hb with hb | hb <;> split at hb <;> simp at hb
      · exact .inl hb
      · exact .inr hb
    omega
theorem rise_nodup {l : List Int} (h : l.Pairwise (· < ·)) : l.Nodup := h.imp fun h => by omega
/-- A turn that stands right at a vertex. -/
def okTurn (es : List Ed) (v : Int) (t : List Int) : Prop := t.Perm (ends es v) ∧ nrm t = t
structure MapOk (m : Mp) : Prop where
  g : GoodE m.g
  len : m.rots.length = m.g.vs.length
  ok : ∀ k, k < m.g.vs.length → okTurn m.g.es (m.g.vs.getD k 0) (m.rots.getD k [])

theorem getR_lt (l : List (List Int)) (j : Nat) (hj : j < l.length) : l.getD j [] = l[j] := by
  rw [List.getD_eq_getElem?_getD, List.getElem?_eq_getElem hj]; rfl

section
variable {m : Mp} (h : MapOk m)
include h
theorem MapOk.turn {t : List Int} (ht : t ∈ m.rots) : ∃ k, k < m.g.vs.length ∧ t = m.rots.getD k [] ∧ okTurn m.g.es (m.g.vs.getD k 0) t := by
  obtain ⟨k, hk, rfl⟩ := List.getElem_of_mem ht
  have hk' : k < m.g.vs.length := by rw [← h.len]; exact hk
  refine ⟨k, hk', (getR_lt _ _ hk).symm, ?_⟩
  have := h.ok k hk'
  rwa [getR_lt _ _ hk] at this
theorem MapOk.nodup {t : List Int} (ht : t ∈ m.rots) : t.Nodup := by
  obtain ⟨k, _, _, h1, _⟩ := h.turn ht
  exact h1.nodup_iff.2 (rise_nodup (ends_rise h.g.ids _))
end

/-- The one behind a dart, in its turn. -/
def sg (m : Mp) (d : Int) : Int := match m.rots.find? (fun t => decide (d ∈ t)) with
  | some t => nx t d
  | none => d
/-- The other end, of some edges. -/
def al (es : List Ed) (d : Int) : Int := if (es.any fun x => decide (x.id = d / 2)) = true then tw d else d
/-- The dart behind one in its face. -/
def fc (m : Mp) (es : List Ed) (d : Int) : Int := sg m (al es d)

section
variable {m : Mp} (h : MapOk m)
include h
end

/-! ### Euler -/
theorem reach_eqv (es : List Ed) : Eqv (Reach es) := ⟨fun _ => .refl, Reach.symm, Reach.trans⟩
theorem Reach.mono {es es' : List Ed} (hs : ∀ x ∈ es, x ∈ es') {v w : Int} (h : Reach es v w) : Reach es' v w := by
  induction h with
  | refl => exact .refl
  | step _ hw ih =>
    refine .step ih ?_
    rw [mem_nbr] at hw ⊢
    obtain ⟨x, hx, h1⟩ := hw
    exact ⟨x, hs x hx, h1⟩
theorem reach_snoc (es : List Ed) (x : Ed) (v w : Int) : Reach (es ++ [x]) v w ↔ Eu.Mg (Reach es) x.a x.b v w := by
  constructor
  · intro h
    have hE := Mg.eqv (reach_eqv es) x.a x.b
    induction h with
    | refl => exact hE.refl _
    | step _ hw ih =>
      refine hE.trans ih ?_
      obtain ⟨y, hy, h1⟩ := mem_nbr.1 hw
      rw [List.mem_append, List.mem_singleton] at hy
      rcases hy with hy | rfl
      · exact .inl (.step .refl (mem_nbr.2 ⟨y, hy, h1⟩))
      · rcases h1 with ⟨rfl, rfl⟩ | ⟨rfl, rfl⟩
        · exact .inr (.inl ⟨.refl, .refl⟩)
        · exact .inr (.inr ⟨.refl, .refl⟩)
  · refine Mg.le (reach_eqv _) (.step .refl (mem_nbr.2 ⟨x, by simp, .inl ⟨rfl, rfl⟩⟩)) fun v w h => h.mono fun y hy => by simp [hy]
theorem ncl_one {R : Int → Int → Prop} (hR : ∀ x y, R x y → x = y) {l : List Int} (hn : l.Nodup) : ncl R l = l.length := by
  induction l with
  | nil => rfl
  | cons x l ih =>
    rw [List.nodup_cons] at hn
    rw [ncl_cons_new, ih hn.2, List.length_cons]
    rintro ⟨y, hy, hr⟩
    exact hn.1 (hR _ _ hr ▸ hy)
theorem reach_nil {v w : Int} (h : Reach [] v w) : v = w := by
  induction h with
  | refl => rfl
  | step _ hw _ => obtain ⟨x, hx, _⟩ := mem_nbr.1 hw; cases hx
section
variable {m : Mp} (h : MapOk m)
include h
end

/-! ### parts and faces, counted -/
theorem PartsTo.ncl {g : Gr} {k : Nat} {R : List (List Int)} (h : PartsTo g k R) : R.length = Eu.ncl (Reach g.es) (g.vs.take k).reverse := by
  induction h with
  | zero => rfl
  | @seen k R _ hk hs ih =>
    rw [List.take_succ_eq_append_getElem hk, List.reverse_append, List.reverse_singleton, List.singleton_append, ncl_cons_in, ih]
    obtain ⟨u, hu, hr⟩ := hs
    rw [getD_lt _ _ hk] at hr
    exact ⟨u, List.mem_reverse.2 hu, hr⟩
  | @lead k R c _ hk hs _ ih =>
    rw [List.take_succ_eq_append_getElem hk, List.reverse_append, List.reverse_singleton, List.singleton_append, ncl_cons_new, List.length_append, ih]
    · rfl
    · rintro ⟨u, hu, hr⟩
      rw [← getD_lt _ _ hk] at hr
      exact hs ⟨u, List.mem_reverse.1 hu, hr⟩
theorem PartsTo.all {g : Gr} {R : List (List Int)} (h : PartsTo g g.vs.length R) : R.length = Eu.ncl (Reach g.es) g.vs := by
  rw [h.ncl, List.take_length]
  exact ncl_perm (reach_eqv _) (List.reverse_perm _)

def SeenD (f : Int → Int) (ds : List Int) (k : Nat) (x : Int) : Prop := ∃ y ∈ ds.take k, Orb f y x
/-- The cycles, as they come from the first darts. -/
inductive Lead (f : Int → Int) (ds : List Int) : Nat → List (List Int) → Prop
  | zero : Lead f ds 0 []
  | seen {k : Nat} {R : List (List Int)} (h : Lead f ds k R) (hk : k < ds.length) (hs : SeenD f ds k (ds.getD k 0)) : Lead f ds (k + 1) R
  | lead {k : Nat} {R : List (List Int)} {c : List Int} (h : Lead f ds k R) (hk : k < ds.length) (hs : ¬ SeenD f ds k (ds.getD k 0)) (hc : IsCyc f (ds.getD k 0) c) : Lead f ds (k + 1) (R ++ [c])
theorem Lead.unique {f : Int → Int} {ds : List Int} {k : Nat} {R R' : List (List Int)} (h : Lead f ds k R) (h' : Lead f ds k R') : R = R' := by
  induction h generalizing R' with
  | zero => cases h'; rfl
  | seen _ _ hs ih =>
    cases h' with
    | seen h2 _ _ => exact ih h2
    | lead h2 _ hs2 _ => exact absurd hs hs2
  | lead _ _ hs hc ih =>
    cases h' with
    | seen h2 _ hs2 => exact absurd hs2 hs
    | lead h2 _ _ hc2 => rw [ih h2, hc.unique hc2]
theorem Lead.len {f : Int → Int} {ds : List Int} {k : Nat} {R : List (List Int)} (h : Lead f ds k R) : R.length ≤ k := by
  induction h with
  | zero => simp
  | seen _ _ _ ih => omega
  | lead _ _ _ _ ih => simp; omega
theorem Lead.ncl {f : Int → Int} {ds : List Int} {k : Nat} {R : List (List Int)} (h : Lead f ds k R) : R.length = Eu.ncl (Orb f) (ds.take k).reverse := by
  induction h with
  | zero => rfl
  | @seen k R _ hk hs ih =>
    rw [List.take_succ_eq_append_getElem hk, List.reverse_append, List.reverse_singleton, List.singleton_append, ncl_cons_in, ih]
    obtain ⟨u, hu, hr⟩ := hs
    rw [getD_lt _ _ hk] at hr
    exact ⟨u, List.mem_reverse.2 hu, hr⟩
  | @lead k R c _ hk hs _ ih =>
    rw [List.take_succ_eq_append_getElem hk, List.reverse_append, List.reverse_singleton, List.singleton_append, ncl_cons_new, List.length_append, ih]
    · rfl
    · rintro ⟨u, hu, hr⟩
      rw [← getD_lt _ _ hk] at hr
      exact hs ⟨u, List.mem_reverse.1 hu, hr⟩
theorem Lead.all {f : Int → Int} (hf : Per f) {ds : List Int} {R : List (List Int)} (h : Lead f ds ds.length R) : R.length = Eu.ncl (Orb f) ds := by
  rw [h.ncl, List.take_length]
  exact ncl_perm hf.eqv (List.reverse_perm _)
theorem IsCyc.head {f : Int → Int} {d : Int} {c : List Int} (h : IsCyc f d c) : ∃ r, c = d :: r := by
  obtain ⟨p, hp, rfl, _, _⟩ := h
  obtain ⟨q, rfl⟩ : ∃ q, p = q + 1 := ⟨p - 1, by omega⟩
  rw [List.range_succ_eq_map]
  exact ⟨_, rfl⟩
end Go.Proofs.YtomfeddgeihipaaGreat.Aw

namespace Go.Proofs.YtomfeddgeihipaaGreat.Aw
open Go Go.RowKit Go.Proofs.YtomfeddgeihipaaGreat.Pl
set_option linter.unusedSimpArgs false
set_option linter.unusedVariables false

/-! ### the least number that stands twice -/
/-- b is the least number that stands twice; 0: there is none. -/
def MinDup (c : List Int) (b : Int) : Prop := (b = 0 ∧ ∀ d, c.count d ≤ 1) ∨ (b ≠ 0 ∧ 2 ≤ c.count b ∧ ∀ d, 2 ≤ c.count d → b ≤ d)
theorem MinDup.unique {c : List Int} {a b : Int} (h : MinDup c a) (k : MinDup c b) : a = b := by
  rcases h with ⟨h1, h2⟩ | ⟨h1, h2, h3⟩ <;> rcases k with ⟨k1, k2⟩ | ⟨k1, k2, k3⟩
  · omega
  · have := h2 b; omega
  · have := k2 a; omega
  · have := h3 b k2; have := k3 a h2; omega
theorem MinDup.perm {c d : List Int} {b : Int} (h : MinDup c b) (p : c.Perm d) : MinDup d b := by
  have e : ∀ x, d.count x = c.count x := fun x => (p.count_eq x).symm
  rcases h with ⟨h1, h2⟩ | ⟨h1, h2, h3⟩
  · exact .inl ⟨h1, fun x => by rw [e]; exact h2 x⟩
  · exact .inr ⟨h1, by rw [e]; exact h2, fun x hx => h3 x (by rw [← e]; exact hx)⟩
theorem MinDup.nil : MinDup [] 0 := .inl ⟨rfl, fun _ => by simp⟩
theorem count_snoc (c : List Int) (x d : Int) : (c ++ [x]).count d = c.count d + if x = d then 1 else 0 := by
  rw [List.count_append, List.count_cons, List.count_nil]
  by_cases h : x = d <;> simp [h]
theorem MinDup.snoc {c : List Int} {b x : Int} (h : MinDup c b) (hx : 0 < x) (hc : ∀ y ∈ c, 0 < y) : MinDup (c ++ [x]) (if x ∈ c ∧ (b = 0 ∨ x < b) then x else b) := by
  have e := count_snoc c x
  have hcx : x ∈ c ↔ 1 ≤ c.count x := by rw [← List.count_pos_iff]; exact Iff.rfl
  by_cases hm : x ∈ c
  · have h1 := hcx.1 hm
    rcases h with ⟨h2, h3⟩ | ⟨h2, h3, h4⟩
    · rw [if_pos ⟨hm, .inl h2⟩]
      refine .inr ⟨by omega, by rw [e, if_pos rfl]; omega, fun d hd => ?_⟩
      rw [e] at hd
      by_cases hxd : x = d
      · omega
      · rw [if_neg hxd] at hd; have := h3 d; omega
    · by_cases hlt : x < b
      · rw [if_pos ⟨hm, .inr hlt⟩]
        refine .inr ⟨by omega, by rw [e, if_pos rfl]; omega, fun d hd => ?_⟩
        rw [e] at hd
        by_cases hxd : x = d
        · omega
        · rw [if_neg hxd] at hd; have := h4 d (by omega); omega
      · rw [if_neg (by rintro ⟨_, g | g⟩ <;> omega)]
        refine .inr ⟨h2, by rw [e]; split <;> omega, fun d hd => ?_⟩
        rw [e] at hd
        by_cases hxd : x = d
        · omega
        · rw [if_neg hxd] at hd; exact h4 d (by omega)
  · have h1 : c.count x = 0 := by have := mt hcx.2 hm; omega
    rw [if_neg (fun g => hm g.1)]
    rcases h with ⟨h2, h3⟩ | ⟨h2, h3, h4⟩
    · refine .inl ⟨h2, fun d => ?_⟩
      rw [e]
      by_cases hxd : x = d
      · subst hxd; rw [if_pos rfl]; omega
      · rw [if_neg hxd]; exact h3 d
    · refine .inr ⟨h2, by rw [e]; split <;> omega, fun d hd => ?_⟩
      rw [e] at hd
      by_cases hxd : x = d
      · subst hxd; rw [if_pos rfl] at hd; omega
      · rw [if_neg hxd] at hd; exact h4 d (by omega)
/-! ### rising rows are told by what is in them -/
/-! ### a thing laid into a rising row -/
section
variable {α : Type} (f : α → Int)
def ins1 (v : α) : List α → List α
  | [] => [v]
  | x :: t => if f v < f x then v :: x :: t else x :: ins1 v t
def insU (v : α) (l : List α) : List α := if l.any fun x => decide (f x = f v) then l else ins1 f v l
/-- All of a row, laid one by one. -/
def insAll (l : List α) : List α := l.foldl (fun c v => insU f v c) []
end

end Go.Proofs.YtomfeddgeihipaaGreat.Aw

namespace Go.Proofs.YtomfeddgeihipaaGreat.Aw
open Go Go.RowKit Go.Proofs.YtomfeddgeihipaaGreat.Pl
set_option linter.unusedSimpArgs false
set_option linter.unusedVariables false

theorem snocI {α : Type} {P : List α → Prop} (h0 : P []) (h1 : ∀ l x, P l → P (l ++ [x])) (l : List α) : P l := by
  rw [← List.reverse_reverse l]
  generalize l.reverse = r
  induction r with
  | nil => exact h0
  | cons x r ih => rw [List.reverse_cons]; exact h1 _ _ ih

def bes (x y : Ed) : Bool := decide (x.a = y.a ∧ x.b = y.b ∨ x.a = y.b ∧ x.b = y.a)
theorem bes_iff {x y : Ed} : bes x y = true ↔ (x.a = y.a ∧ x.b = y.b ∨ x.a = y.b ∧ x.b = y.a) := by simp [bes]
theorem bes_symm {x y : Ed} (h : bes x y = true) : bes y x = true := by
  rw [bes_iff] at h ⊢
  rcases h with ⟨h1, h2⟩ | ⟨h1, h2⟩
  · exact .inl ⟨h1.symm, h2.symm⟩
  · exact .inr ⟨h2.symm, h1.symm⟩
theorem bes_refl (x : Ed) : bes x x = true := by rw [bes_iff]; exact .inl ⟨rfl, rfl⟩
theorem bes_trans {x y z : Ed} (h : bes x y = true) (k : bes y z = true) : bes x z = true := by
  rw [bes_iff] at h k ⊢
  rcases h with ⟨h1, h2⟩ | ⟨h1, h2⟩ <;> rcases k with ⟨k1, k2⟩ | ⟨k1, k2⟩
  · exact .inl ⟨h1.trans k1, h2.trans k2⟩
  · exact .inr ⟨h1.trans k1, h2.trans k2⟩
  · exact .inr ⟨h1.trans k2, h2.trans k1⟩
  · exact .inl ⟨h1.trans k2, h2.trans k1⟩

/-- Of each bundle the first. -/
def sE (l : List Ed) : List Ed := l.foldl (fun acc x => if acc.any (bes x) then acc else acc ++ [x]) []
theorem sE_snoc (l : List Ed) (x : Ed) : sE (l ++ [x]) = if (sE l).any (bes x) then sE l else sE l ++ [x] := by
  simp [sE, List.foldl_append]
theorem sE_sub (l : List Ed) : ∀ x ∈ sE l, x ∈ l := by
  induction l using snocI with
  | h0 => simp [sE]
  | h1 l x ih =>
    intro y hy
    rw [sE_snoc] at hy
    split at hy
    · exact List.mem_append_left _ (ih y hy)
    · rcases List.mem_append.1 hy with h | h
      · exact List.mem_append_left _ (ih y h)
      · exact List.mem_append_right _ h
theorem sE_has (l : List Ed) : ∀ x ∈ l, ∃ y ∈ sE l, bes x y = true := by
  induction l using snocI with
  | h0 => simp
  | h1 l x ih =>
    intro y hy
    rw [sE_snoc]
    rcases List.mem_append.1 hy with h | h
    · obtain ⟨z, h1, h2⟩ := ih y h
      split
      · exact ⟨z, h1, h2⟩
      · exact ⟨z, List.mem_append_left _ h1, h2⟩
    · rw [List.mem_singleton] at h
      subst h
      split
      · rename_i ha
        rw [List.any_eq_true] at ha
        obtain ⟨z, h1, h2⟩ := ha
        exact ⟨z, h1, h2⟩
      · exact ⟨y, List.mem_append_right _ (by simp), bes_refl y⟩
theorem sE_len (l : List Ed) : (sE l).length ≤ l.length := by
  induction l using snocI with
  | h0 => simp [sE]
  | h1 l x ih =>
    rw [sE_snoc]
    split
    · rw [List.length_append]; omega
    · rw [List.length_append, List.length_append]; simp only [List.length_cons, List.length_nil]; omega
theorem sE_apart (l : List Ed) : (sE l).Pairwise fun x y => bes x y = false := by
  induction l using snocI with
  | h0 => simp [sE]
  | h1 l x ih =>
    rw [sE_snoc]
    split
    · exact ih
    · rename_i ha
      rw [List.pairwise_append]
      refine ⟨ih, List.pairwise_singleton _ _, fun y hy z hz => ?_⟩
      rw [List.mem_singleton] at hz
      subst hz
      cases hb : bes y z with
      | false => rfl
      | true => exact absurd (List.any_eq_true.2 ⟨y, hy, bes_symm hb⟩) ha

/-- An edge's two halves. -/
abbrev hf (x : Ed) : List (Int × Int) := [(x.a, x.b), (x.b, x.a)]
def hfs (l : List Ed) : List (Int × Int) := l.flatMap hf
theorem hfs_snoc (l : List Ed) (x : Ed) : hfs (l ++ [x]) = hfs l ++ [(x.a, x.b)] ++ [(x.b, x.a)] := by simp [hfs]
theorem hfs_len (l : List Ed) : (hfs l).length = 2 * l.length := by
  induction l with
  | nil => rfl
  | cons x l ih => simp only [hfs, List.flatMap_cons, List.length_append, List.length_cons, List.length_nil] at ih ⊢; omega
theorem mem_hfs {l : List Ed} {p : Int × Int} : p ∈ hfs l ↔ ∃ x ∈ l, (x.a = p.1 ∧ x.b = p.2) ∨ (x.b = p.1 ∧ x.a = p.2) := by
  obtain ⟨p1, p2⟩ := p
  simp only [hfs, List.mem_flatMap, List.mem_cons, List.not_mem_nil, or_false, Prod.mk.injEq]
  constructor
  · rintro ⟨x, hx, ⟨rfl, rfl⟩ | ⟨rfl, rfl⟩⟩
    · exact ⟨x, hx, .inl ⟨rfl, rfl⟩⟩
    · exact ⟨x, hx, .inr ⟨rfl, rfl⟩⟩
  · rintro ⟨x, hx, ⟨rfl, rfl⟩ | ⟨rfl, rfl⟩⟩
    · exact ⟨x, hx, .inl ⟨rfl, rfl⟩⟩
    · exact ⟨x, hx, .inr ⟨rfl, rfl⟩⟩

/-- What stands beside a number. -/
def nbH (v : Int) (H : List (Int × Int)) : List Int := (H.filter fun p => decide (p.1 = v)).map (·.2)
theorem nbH_snoc (v : Int) (H : List (Int × Int)) (p : Int × Int) : nbH v (H ++ [p]) = nbH v H ++ if p.1 = v then [p.2] else [] := by
  unfold nbH
  rw [List.filter_append, List.map_append]
  by_cases h : p.1 = v
  · simp [h]
  · simp [h]
theorem nbH_len (v : Int) (H : List (Int × Int)) : (nbH v H).length ≤ H.length := by
  unfold nbH
  rw [List.length_map]
  exact List.length_filter_le _ _
theorem mem_nbH {v w : Int} {H : List (Int × Int)} : w ∈ nbH v H ↔ (v, w) ∈ H := by
  unfold nbH
  simp only [List.mem_map, List.mem_filter, decide_eq_true_eq]
  constructor
  · rintro ⟨p, ⟨h1, h2⟩, h3⟩
    subst h2 h3
    exact h1
  · intro h
    exact ⟨(v, w), ⟨h, rfl⟩, rfl⟩

/-- A row put in order. -/
def insI (x : Int) : List Int → List Int
  | [] => [x]
  | y :: l => if x ≤ y then x :: y :: l else y :: insI x l
def srt : List Int → List Int
  | [] => []
  | x :: l => insI x (srt l)
theorem insI_perm (x : Int) (l : List Int) : (insI x l).Perm (x :: l) := by
  induction l with
  | nil => exact .refl _
  | cons y l ih =>
    unfold insI
    split
    · exact .refl _
    · exact (ih.cons y).trans (.swap x y l)
theorem srt_perm (l : List Int) : (srt l).Perm l := by
  induction l with
  | nil => exact .refl _
  | cons x l ih => exact (insI_perm x _).trans (ih.cons x)
theorem insI_sorted (x : Int) {l : List Int} (h : l.Pairwise (· ≤ ·)) : (insI x l).Pairwise (· ≤ ·) := by
  induction l with
  | nil => exact List.pairwise_singleton _ _
  | cons y l ih =>
    have h' := List.pairwise_cons.1 h
    unfold insI
    split
    · rename_i hxy
      refine List.pairwise_cons.2 ⟨fun z hz => ?_, h⟩
      rcases List.mem_cons.1 hz with rfl | hz
      · exact hxy
      · have := h'.1 z hz; omega
    · rename_i hxy
      refine List.pairwise_cons.2 ⟨fun z hz => ?_, ih h'.2⟩
      rcases List.mem_cons.1 ((insI_perm x l).mem_iff.1 hz) with rfl | hz
      · omega
      · exact h'.1 z hz
theorem srt_sorted (l : List Int) : (srt l).Pairwise (· ≤ ·) := by
  induction l with
  | nil => exact .nil
  | cons x l ih => exact insI_sorted x ih
theorem sorted_unique : ∀ {a b : List Int}, a.Pairwise (· ≤ ·) → b.Pairwise (· ≤ ·) → a.Perm b → a = b
  | [], b, _, _, h => by rw [h.nil_eq]
  | x :: a, [], _, _, h => absurd h.symm.nil_eq (by simp)
  | x :: a, y :: b, ha, hb, h => by
    obtain ⟨a1, a2⟩ := List.pairwise_cons.1 ha
    obtain ⟨b1, b2⟩ := List.pairwise_cons.1 hb
    have hxy : x = y := by
      have h1 : x ∈ y :: b := h.mem_iff.1 (by simp)
      have h2 : y ∈ x :: a := h.mem_iff.2 (by simp)
      rcases List.mem_cons.1 h1 with h1 | h1
      · exact h1
      · rcases List.mem_cons.1 h2 with h2 | h2
        · exact h2.symm
        · have := b1 x h1
          have := a1 y h2
          omega
    subst hxy
    rw [sorted_unique a2 b2 ((List.perm_cons x).1 h)]
theorem srt_of {c l : List Int} (h : c.Perm l) (hs : c.Pairwise (· ≤ ·)) : c = srt l := sorted_unique hs (srt_sorted l) (h.trans (srt_perm l).symm)

/-- Who has an edge with a vertex, rising. -/
def nearF (es : List Ed) (v : Int) : List Int := srt (nbH v (hfs (sE es)))
def adj (es : List Ed) (v w : Int) : Prop := ∃ x ∈ es, (x.a = v ∧ x.b = w) ∨ (x.a = w ∧ x.b = v)
theorem mem_nearF {es : List Ed} {v w : Int} : w ∈ nearF es v ↔ adj es v w := by
  unfold nearF
  rw [(srt_perm _).mem_iff, mem_nbH, mem_hfs]
  constructor
  · rintro ⟨x, hx, h⟩
    refine ⟨x, sE_sub _ _ hx, ?_⟩
    rcases h with ⟨h1, h2⟩ | ⟨h1, h2⟩
    · exact .inl ⟨h1, h2⟩
    · exact .inr ⟨h2, h1⟩
  · rintro ⟨x, hx, h⟩
    obtain ⟨y, hy, hb⟩ := sE_has _ _ hx
    refine ⟨y, hy, ?_⟩
    rw [bes_iff] at hb
    rcases h with ⟨h1, h2⟩ | ⟨h1, h2⟩ <;> rcases hb with ⟨b1, b2⟩ | ⟨b1, b2⟩
    · exact .inl ⟨b1.symm.trans h1, b2.symm.trans h2⟩
    · exact .inr ⟨b1.symm.trans h1, b2.symm.trans h2⟩
    · exact .inr ⟨b2.symm.trans h2, b1.symm.trans h1⟩
    · exact .inl ⟨b2.symm.trans h2, b1.symm.trans h1⟩
instance (es : List Ed) (v w : Int) : Decidable (adj es v w) := by unfold adj; exact inferInstance
theorem nearF_len (es : List Ed) (v : Int) : (nearF es v).length ≤ 2 * es.length := by
  have h1 := (srt_perm (nbH v (hfs (sE es)))).length_eq
  have h2 := nbH_len v (hfs (sE es))
  have h3 := hfs_len (sE es)
  have h4 := sE_len es
  unfold nearF
  omega

end Go.Proofs.YtomfeddgeihipaaGreat.Aw

namespace Go.Proofs.YtomfeddgeihipaaGreat.Aw
open Go Go.RowKit Go.Proofs.YtomfeddgeihipaaGreat.Pl
set_option linter.unusedSimpArgs false
set_option linter.unusedVariables false

/-- Who led to whom, in order of finding. -/
abbrev Led := List (Int × Int)
def ledBy (A : Led) (v : Int) : Option Int := match A with
  | [] => none
  | p :: A => if v = p.1 then some p.2 else ledBy A v
theorem ledBy_none {v : Int} : ∀ {A : Led}, v ∉ A.map (·.1) → ledBy A v = none
  | [], _ => rfl
  | p :: A, h => by
    simp only [List.map_cons, List.mem_cons, not_or] at h
    simp only [ledBy]
    rw [if_neg h.1, ledBy_none h.2]
theorem ledBy_some {v : Int} : ∀ {A : Led}, v ∈ A.map (·.1) → ∃ w, ledBy A v = some w
  | [], h => by simp at h
  | p :: A, h => by
    simp only [ledBy]
    by_cases e : v = p.1
    · exact ⟨p.2, by rw [if_pos e]⟩
    · rw [if_neg e]
      simp only [List.map_cons, List.mem_cons] at h
      exact ledBy_some (h.resolve_left e)
theorem ledBy_mem {v w : Int} : ∀ {A : Led}, ledBy A v = some w → (v, w) ∈ A
  | [], h => by simp [ledBy] at h
  | p :: A, h => by
    simp only [ledBy] at h
    split at h
    · rename_i e; injection h with h; subst h; rw [e]; simp
    · exact List.mem_cons_of_mem _ (ledBy_mem h)
structure BF where
  A : Led
  Q : List Int
  hit : Bool
/-- One near vertex looked at. -/
def scan1 (may : Int → Bool) (to v : Int) (S : BF) (u : Int) : BF :=
  if S.hit = true then S else if u ∈ S.A.map (·.1) then S else if u = to then ⟨S.A ++ [(u, v)], S.Q, true⟩ else ⟨S.A ++ [(u, v)], if may u = true then S.Q ++ [u] else S.Q, false⟩
def scanL (may : Int → Bool) (to v : Int) (S : BF) (l : List Int) : BF := l.foldl (scan1 may to v) S
theorem scanL_hit (may : Int → Bool) (to v : Int) {S : BF} (h : S.hit = true) (l : List Int) : scanL may to v S l = S := by
  induction l with
  | nil => rfl
  | cons u l ih => simp only [scanL, List.foldl_cons] at ih ⊢; rw [scan1, if_pos h]; exact ih
theorem scanL_snoc (may : Int → Bool) (to v : Int) (S : BF) (l : List Int) (u : Int) : scanL may to v S (l ++ [u]) = scan1 may to v (scanL may to v S l) u := by simp [scanL, List.foldl_append]
theorem scanL_len (may : Int → Bool) (to v : Int) (S : BF) (l : List Int) : (scanL may to v S l).Q.length ≤ S.Q.length + l.length ∧ (scanL may to v S l).A.length ≤ S.A.length + l.length := by
  induction l generalizing S with
  | nil => simp [scanL]
  | cons u l ih =>
    have := ih (scan1 may to v S u)
    have h1 : (scan1 may to v S u).Q.length ≤ S.Q.length + 1 ∧ (scan1 may to v S u).A.length ≤ S.A.length + 1 := by
      unfold scan1
      split
      · omega
      · split
        · omega
        · split
          · simp
          · constructor
            · simp only; split <;> simp
            · simp
    simp only [scanL, List.foldl_cons, List.length_cons] at this ⊢
    omega

/-- The search: what led where, if it was found. -/
def bfs (near : Int → List Int) (may : Int → Bool) (to : Int) : Nat → Led → List Int → Option (Option Led)
  | _, _, [] => some none
  | 0, _, _ :: _ => none
  | n + 1, A, v :: Q => if (scanL may to v ⟨A, Q, false⟩ (near v)).hit = true then some (some (scanL may to v ⟨A, Q, false⟩ (near v)).A) else bfs near may to n (scanL may to v ⟨A, Q, false⟩ (near v)).A (scanL may to v ⟨A, Q, false⟩ (near v)).Q
/-- The way back. -/
def backF (A : Led) (from' : Int) : Nat → Int → Option (List Int)
  | 0, v => if v = from' then some [] else none
  | n + 1, v => if v = from' then some [] else (backF A from' n ((ledBy A v).getD 0)).map fun l => (ledBy A v).getD 0 :: l
theorem backF_len {A : Led} {from' : Int} : ∀ {n : Nat} {v : Int} {l : List Int}, backF A from' n v = some l → l.length ≤ n
  | 0, v, l, h => by
    simp only [backF] at h
    split at h
    · injection h with h; subst h; simp
    · cases h
  | n + 1, v, l, h => by
    simp only [backF] at h
    split at h
    · injection h with h; subst h; simp
    · rw [Option.map_eq_some_iff] at h
      obtain ⟨l', h1, rfl⟩ := h
      have := backF_len h1
      simp only [List.length_cons]; omega
/-- The way from one vertex to another one; none: the strength n is too little. -/
def pathF (vs : List Int) (near : Int → List Int) (may : Int → Bool) (from' to : Int) (n : Nat) : Option (List Int) :=
  if from' ∉ vs ∨ to ∉ vs then some [] else if from' = to then some [from'] else match bfs near may to n [(from', from')] [from'] with
    | some none => some []
    | some (some A) => (backF A from' n to).map fun l => (to :: l).reverse
    | none => none

end Go.Proofs.YtomfeddgeihipaaGreat.Aw

namespace Go.Proofs.YtomfeddgeihipaaGreat.Aw
open Go Go.RowKit Go.Proofs.YtomfeddgeihipaaGreat.Pl
set_option linter.unusedSimpArgs false
set_option linter.unusedVariables false

/-- Found ones, and at which place the one stands that led there. -/
abbrev Fnd := List (Int × Nat)
def scanR1 (k : Nat) (F : Fnd) (w : Int) : Fnd := if w ∈ F.map (·.1) then F else F ++ [(w, k)]
def scanR (k : Nat) (F : Fnd) (row : List Int) : Fnd := row.foldl (scanR1 k) F
theorem scanR1_len (k : Nat) (F : Fnd) (w : Int) : F.length ≤ (scanR1 k F w).length ∧ (scanR1 k F w).length ≤ F.length + 1 := by
  unfold scanR1; split <;> simp
def fAt (F : Fnd) (k : Nat) : Int := (F.getD k (0, 0)).1
def pAt (F : Fnd) (k : Nat) : Nat := (F.getD k (0, 0)).2
/-- Who led there stands ahead. -/
def Par (F : Fnd) : Prop := ∀ k, 0 < k → k < F.length → pAt F k < k
theorem getD_append_lt {α : Type} (a b : List α) (d : α) {k : Nat} (h : k < a.length) : (a ++ b).getD k d = a.getD k d := by
  rw [List.getD_eq_getElem?_getD, List.getD_eq_getElem?_getD, List.getElem?_append_left h]
theorem Par.scan1 {F : Fnd} (h : Par F) {k : Nat} (hk : k < F.length) (w : Int) : Par (scanR1 k F w) := by
  unfold scanR1
  split
  · exact h
  · intro j h0 hj
    rw [List.length_append, List.length_singleton] at hj
    by_cases hj2 : j < F.length
    · unfold pAt; rw [getD_append_lt _ _ _ hj2]; exact h j h0 hj2
    · have : j = F.length := by omega
      subst this
      unfold pAt
      simp
      exact hk
theorem Par.scan {F : Fnd} (h : Par F) {k : Nat} (hk : k < F.length) (row : List Int) : Par (scanR k F row) := by
  induction row generalizing F with
  | nil => exact h
  | cons w row ih =>
    exact ih (h.scan1 hk w) (Nat.lt_of_lt_of_le hk (scanR1_len k F w).1)

def refRun (near : Int → List Int) (may : Int → Bool) (to : Int) : Nat → Nat → Fnd → Option (Option (Fnd × Nat))
  | 0, k, F => if k < F.length then none else some none
  | n + 1, k, F => if k < F.length then
      if fAt F k = to then some (some (F, k)) else if k = 0 ∨ may (fAt F k) = true then refRun near may to n (k + 1) (scanR k F (near (fAt F k))) else refRun near may to n (k + 1) F
    else some none
/-- From a place back to the first one. -/
def chainF (F : Fnd) : Nat → Nat → List Int
  | 0, _ => []
  | m + 1, k => if k = 0 then [] else fAt F k :: chainF F m (pAt F k)
def refPath (vs : List Int) (near : Int → List Int) (may : Int → Bool) (from' to : Int) (n : Nat) : Option (List Int) :=
  if from' ∉ vs ∨ to ∉ vs then some [] else match refRun near may to n 0 [(from', 0)] with
    | some none => some []
    | some (some (F, k)) => some (from' :: (chainF F k k).reverse)
    | none => none

end Go.Proofs.YtomfeddgeihipaaGreat.Aw
