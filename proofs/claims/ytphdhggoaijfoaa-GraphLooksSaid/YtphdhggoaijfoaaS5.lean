/- The library's sort: partitionEqual. Written by gensort.py. -/
import Derived.Test.YtphdhggoaijfoaaS4
namespace Go.Proofs.Ytphdhggoaijfoaa.Aw
open Go Go.RowKit Go.Proofs.Ytphdhggoaijfoaa.Pl
set_option linter.unusedSimpArgs false
set_option linter.unusedVariables false

theorem partitionEqual (l : List Int) (q a b pv : Nat) (st : St) (hl : small l) (hab : a < b) (hb : b ≤ l.length) (hp1 : a ≤ pv) (hp2 : pv < b) (hH : st.H q = .box 22 1 (us l)) :
    ACalls Try.prog 127 [.ms q 0 l.length, i a, i b, i pv] st fun r st' => ∃ (c : List Int) (mid : Nat), r = i mid ∧ st' = bx st q c ∧ Pm a b l c ∧ a < mid ∧ mid ≤ b ∧ PartedEq c a mid b (l.getD pv 0) := by
  unfold small at hl
  refine acalls_of_body tabOk Try.func127 rfl rfl Try.ntmps127 (rs := [.tmp 8]) rfl (by simp) ?_
  (repeat (refine awp_seq ?_)); (refine awp_regionE tabOk [] rfl ?_; intro J hJ; simp only []; simp []; (repeat (refine And.intro (by first | omega | assumption | (simp only [maxLen]; omega) | decide) ?_)); (try (first | (refine hJ _ _ ?_; clear hJ J; simp only [ak, reduceIte]) | (with_reducible refine ⟨?_, ?_⟩ <;> (first | (refine hJ _ _ ?_; clear hJ J; simp only [ak, reduceIte]) | (with_reducible intro hnil; refine hJ _ _ ?_; clear hJ J; simp only [ak, reduceIte]; (try subst hnil)))))))
  have hla : a < l.length := by omega
  have hlp : pv < l.length := by omega
  have hsw := fun x y => bx_sw' st q l a pv (x := x) (y := y) (by omega) (by omega)
  have hd0 := us_drop_getD l a (by omega)
  have hd1 := us_drop_getD l pv (by omega)
  have hpm : Pm a b l (sw l a pv) := Pm.one a pv (by omega) (by omega) (by omega) (by omega) (by omega)
  have hx : (sw l a pv).getD a 0 = l.getD pv 0 := by
    rw [sw_get _ _ _ _ (by omega) (by omega)]
    by_cases e : a = pv
    · rw [if_pos e, e]
    · rw [if_neg e, if_pos rfl]
  generalize hy0 : l.getD a 0 = y0 at *
  generalize hy1 : l.getD pv 0 = x at *
  have hsw' := hsw y0 x rfl rfl
  (repeat (refine awp_seq ?_)); (refine awp_drawS tabOk [] [q] [(0, true), (1, true), (2, true), (3, true), (4, true), (5, true), (6, true), (7, true), (8, true), (9, true), (10, true), (11, true), (12, true), (13, false), (14, true), (15, false)] (by kernel_rfl) rfl (by kernel_rfl) ?_; intro J hJ; simp [hH, hla, hlp, hd0, hd1]; (repeat (refine And.intro (by first | omega | assumption | (simp only [maxLen]; omega) | decide) ?_)); (try (first | (refine hJ _ _ ?_; clear hJ J; simp only [ak, reduceIte]) | (with_reducible refine ⟨?_, ?_⟩ <;> (first | (refine hJ _ _ ?_; clear hJ J; simp only [ak, reduceIte]) | (with_reducible intro hnil; refine hJ _ _ ?_; clear hJ J; simp only [ak, reduceIte]; (try subst hnil)))))))
  rw [hsw']
  clear hsw hsw' hd0 hd1 hy0
  generalize hc : sw l a pv = c at *
  clear hc
  have hcl := hpm.len
  have w1 := nat_add_one a (by omega)
  have w2 := nat_sub_one b (by omega) (by omega)
  obtain ⟨P, hPd⟩ : ∃ P : Int → Bool, ∀ v, P v = !decide (x < v) := ⟨_, fun _ => rfl⟩
  refine awp_seq ?_
  refine awp_cut1 (fun fr st2 => fr 0 = .ms q 0 l.length ∧ fr 1 = i a ∧ fr 9 = i ((a + 1 : Nat) : Int) ∧ fr 10 = i ((b - 1 : Nat) : Int) ∧ st2 = bx st q c) (by (refine awp_regionE tabOk [] rfl ?_; intro J hJ; simp only []; simp [w1, w2]; (repeat (refine And.intro (by first | omega | assumption | (simp only [maxLen]; omega) | decide) ?_)); (try (first | (refine hJ _ _ ?_; clear hJ J; simp only [ak, reduceIte]) | (with_reducible refine ⟨?_, ?_⟩ <;> (first | (refine hJ _ _ ?_; clear hJ J; simp only [ak, reduceIte]) | (with_reducible intro hnil; refine hJ _ _ ?_; clear hJ J; simp only [ak, reduceIte]; (try subst hnil))))))); simp) ?_
  rintro fr st2 ⟨f0, f1, fI, fJ, rfl⟩
  have hai : a < a + 1 := by omega
  have hij : a + 1 ≤ b - 1 + 1 := by omega
  have hjb : b - 1 < b := by omega
  have hLo : Lo P c a (a + 1) := fun p h1 h2 => by omega
  have hHi : Hi P c (b - 1) b := fun p h1 h2 => by omega
  generalize a + 1 = ii at *
  generalize b - 1 = jj at *
  clear w1 w2
  have hd0 := us_drop_getD c a (by omega)
  rw [hx] at hd0
  refine awp_seq ?_
  refine awp_block ?_
  refine awp_loop (fun m fr st2 => ∃ (ii jj : Nat) (c : List Int), a < ii ∧ ii ≤ jj + 1 ∧ jj < b ∧ jj = m ∧ fr 0 = .ms q 0 l.length ∧ fr 1 = i a ∧ fr 9 = i ii ∧ fr 10 = i jj ∧ st2 = bx st q c ∧ Pm a b l c ∧ c.getD a 0 = x ∧ Lo P c a ii ∧ Hi P c jj b) jj ?_ ?_
  · exact ⟨ii, jj, c, by omega, by omega, by omega, rfl, f0, f1, fI, fJ, rfl, hpm, hx, hLo, hHi⟩
  clear f0 f1 fI fJ hLo hHi hpm hx hcl hd0 hai hij hjb ii jj c fr
  rintro m fr st2 ⟨ii, jj, c, hai, hij, hjb, rfl, f0, f1, fI, fJ, rfl, hpm, hx, hLo, hHi⟩ JJ0 hJ0
  have hcl := hpm.len
  have hd0 := us_drop_getD c a (by omega)
  rw [hx] at hd0
  refine awp_block ?_
  refine awp_seq ?_
  refine awp_cut1 (fun fr st2 => ∃ ii : Nat, a < ii ∧ ii ≤ jj + 1 ∧ fr 0 = .ms q 0 l.length ∧ fr 1 = i a ∧ fr 9 = i ii ∧ fr 10 = i jj ∧ st2 = bx st q c ∧ Lo P c a ii ∧ StU P c ii jj) ?_ ?_
  · refine awp_block ?_
    refine awp_loop (fun m fr st2 => ∃ ii : Nat, a < ii ∧ ii ≤ jj + 1 ∧ m = jj + 1 - ii ∧ fr 0 = .ms q 0 l.length ∧ fr 1 = i a ∧ fr 9 = i ii ∧ fr 10 = i jj ∧ st2 = bx st q c ∧ Lo P c a ii) (jj + 1 - ii) ?_ ?_
    · exact ⟨ii, by omega, by omega, rfl, by simp [f0], by simp [f1], by simp [fI], by simp [fJ], rfl, hLo⟩
    clear f0 f1 fI fJ hLo hai hij fr ii
    rintro m fr st2 ⟨ii, hai, hij, rfl, f0, f1, fI, fJ, rfl, hLo⟩ JJ hJJ
    have hia := nat_add_one ii (by omega)
    by_cases hle : ii ≤ jj
    rotate_left
    · clear hJJ
      (repeat (refine awp_seq ?_)); (refine awp_drawS tabOk [] [q] [(0, true), (1, true), (2, true), (3, true), (4, true), (5, true), (6, true), (7, true), (8, true), (9, true), (10, true), (11, true), (12, false), (13, true), (14, true)] (by kernel_rfl) rfl (by kernel_rfl) ?_; intro J hJ; simp [f0, f1, fI, fJ, hle]; (repeat (refine And.intro (by first | omega | assumption | (simp only [maxLen]; omega) | decide) ?_)); (try (first | (refine hJ _ _ ?_; clear hJ J; simp only [ak, reduceIte]) | (with_reducible refine ⟨?_, ?_⟩ <;> (first | (refine hJ _ _ ?_; clear hJ J; simp only [ak, reduceIte]) | (with_reducible intro hnil; refine hJ _ _ ?_; clear hJ J; simp only [ak, reduceIte]; (try subst hnil)))))))
      (repeat' (first | (refine awp_seq ?_) | (refine awp_block ?_) | (refine awp_skip ?_; simp only [ak, reduceIte]) | (refine awp_exit ?_; simp only [ak, reduceIte]) | (refine awp_ret ?_; simp only [ak, reduceIte]; simp []) | (refine awp_cond ?_; simp []; (try (with_reducible refine ⟨?_, ?_⟩)) <;> (try (with_reducible intro hc)) <;> (try (exfalso; omega))) | (refine awp_regionE tabOk [] rfl ?_; intro J hJ; simp only []; simp []; (repeat (refine And.intro (by first | omega | assumption | (simp only [maxLen]; omega) | decide) ?_)); (try (first | (refine hJ _ _ ?_; clear hJ J; simp only [ak, reduceIte]) | (with_reducible refine ⟨?_, ?_⟩ <;> (first | (refine hJ _ _ ?_; clear hJ J; simp only [ak, reduceIte]) | (with_reducible intro hnil; refine hJ _ _ ?_; clear hJ J; simp only [ak, reduceIte]; (try subst hnil))))))) | (refine awp_drawQ tabOk (by kernel_rfl) (by kernel_rfl) rfl rfl ?_; intro J hJ; simp []; (repeat (refine And.intro (by first | omega | assumption | (simp only [maxLen]; omega) | decide) ?_)); (try (first | (refine hJ _ _ ?_; clear hJ J; simp only [ak, reduceIte]) | (with_reducible refine ⟨?_, ?_⟩ <;> (first | (refine hJ _ _ ?_; clear hJ J; simp only [ak, reduceIte]) | (with_reducible intro hnil; refine hJ _ _ ?_; clear hJ J; simp only [ak, reduceIte]; (try subst hnil))))))) | (refine e_go ?_; simp []; (repeat (refine And.intro (by first | omega | assumption | (simp only [maxLen]; omega) | decide) ?_)); (try (first | (refine hJ _ _ ?_; clear hJ J; simp only [ak, reduceIte]) | (with_reducible refine ⟨?_, ?_⟩ <;> (first | (refine hJ _ _ ?_; clear hJ J; simp only [ak, reduceIte]) | (with_reducible intro hnil; refine hJ _ _ ?_; clear hJ J; simp only [ak, reduceIte]; (try subst hnil)))))))))
      exact ⟨trivial, ii, by omega, by omega, by simp [f0], by simp [f1], by simp [fI], by simp [fJ], by trivial, hLo, fun h => absurd h hle⟩
    have hli : ii < l.length := by omega
    have hd1 := us_drop_getD c ii (by omega)
    have hmo := hLo.more
    generalize hy : c.getD ii 0 = y at *
    (repeat (refine awp_seq ?_)); (refine awp_drawS tabOk [] [q] [(0, true), (1, true), (2, true), (3, true), (4, true), (5, true), (6, true), (7, true), (8, true), (9, true), (10, true), (11, true), (12, false), (13, true), (14, true)] (by kernel_rfl) rfl (by kernel_rfl) ?_; intro J hJ; simp [f0, f1, fI, fJ, hle, hli, hla, hcl, hd0, hd1]; (repeat (refine And.intro (by first | omega | assumption | (simp only [maxLen]; omega) | decide) ?_)); (try (first | (refine hJ _ _ ?_; clear hJ J; simp only [ak, reduceIte]) | (with_reducible refine ⟨?_, ?_⟩ <;> (first | (refine hJ _ _ ?_; clear hJ J; simp only [ak, reduceIte]) | (with_reducible intro hnil; refine hJ _ _ ?_; clear hJ J; simp only [ak, reduceIte]; (try subst hnil)))))))
    refine dcallK_of (Less x y _) ?_; rintro r s2 ⟨rfl, rfl⟩
    refine ⟨fun _ => by simp, ?_⟩
    have hP := hPd y
    by_cases hyx : x < y
    · clear hJJ
      (refine d_go ?_; simp [hyx]; (repeat (refine And.intro (by first | omega | assumption | (simp only [maxLen]; omega) | decide) ?_)); (try (first | (refine hJ _ _ ?_; clear hJ J; simp only [ak, reduceIte]) | (with_reducible refine ⟨?_, ?_⟩ <;> (first | (refine hJ _ _ ?_; clear hJ J; simp only [ak, reduceIte]) | (with_reducible intro hnil; refine hJ _ _ ?_; clear hJ J; simp only [ak, reduceIte]; (try subst hnil)))))))
      (repeat' (first | (refine awp_seq ?_) | (refine awp_block ?_) | (refine awp_skip ?_; simp only [ak, reduceIte]) | (refine awp_exit ?_; simp only [ak, reduceIte]) | (refine awp_ret ?_; simp only [ak, reduceIte]; simp []) | (refine awp_cond ?_; simp []; (try (with_reducible refine ⟨?_, ?_⟩)) <;> (try (with_reducible intro hc)) <;> (try (exfalso; omega))) | (refine awp_regionE tabOk [] rfl ?_; intro J hJ; simp only []; simp []; (repeat (refine And.intro (by first | omega | assumption | (simp only [maxLen]; omega) | decide) ?_)); (try (first | (refine hJ _ _ ?_; clear hJ J; simp only [ak, reduceIte]) | (with_reducible refine ⟨?_, ?_⟩ <;> (first | (refine hJ _ _ ?_; clear hJ J; simp only [ak, reduceIte]) | (with_reducible intro hnil; refine hJ _ _ ?_; clear hJ J; simp only [ak, reduceIte]; (try subst hnil))))))) | (refine awp_drawQ tabOk (by kernel_rfl) (by kernel_rfl) rfl rfl ?_; intro J hJ; simp []; (repeat (refine And.intro (by first | omega | assumption | (simp only [maxLen]; omega) | decide) ?_)); (try (first | (refine hJ _ _ ?_; clear hJ J; simp only [ak, reduceIte]) | (with_reducible refine ⟨?_, ?_⟩ <;> (first | (refine hJ _ _ ?_; clear hJ J; simp only [ak, reduceIte]) | (with_reducible intro hnil; refine hJ _ _ ?_; clear hJ J; simp only [ak, reduceIte]; (try subst hnil))))))) | (refine e_go ?_; simp []; (repeat (refine And.intro (by first | omega | assumption | (simp only [maxLen]; omega) | decide) ?_)); (try (first | (refine hJ _ _ ?_; clear hJ J; simp only [ak, reduceIte]) | (with_reducible refine ⟨?_, ?_⟩ <;> (first | (refine hJ _ _ ?_; clear hJ J; simp only [ak, reduceIte]) | (with_reducible intro hnil; refine hJ _ _ ?_; clear hJ J; simp only [ak, reduceIte]; (try subst hnil)))))))))
      exact ⟨trivial, ii, by omega, by omega, by simp [f0], by simp [f1], by simp [fI], by simp [fJ], by trivial, hLo, fun _ => by rw [hy, hP]; simp [hyx]⟩
    · (refine d_go ?_; simp [hyx]; (repeat (refine And.intro (by first | omega | assumption | (simp only [maxLen]; omega) | decide) ?_)); (try (first | (refine hJ _ _ ?_; clear hJ J; simp only [ak, reduceIte]) | (with_reducible refine ⟨?_, ?_⟩ <;> (first | (refine hJ _ _ ?_; clear hJ J; simp only [ak, reduceIte]) | (with_reducible intro hnil; refine hJ _ _ ?_; clear hJ J; simp only [ak, reduceIte]; (try subst hnil)))))))
      (repeat' (first | (refine awp_seq ?_) | (refine awp_block ?_) | (refine awp_skip ?_; simp only [ak, reduceIte]) | (refine awp_exit ?_; simp only [ak, reduceIte]) | (refine awp_ret ?_; simp only [ak, reduceIte]; simp [fI, hia]) | (refine awp_cond ?_; simp [fI, hia]; (try (with_reducible refine ⟨?_, ?_⟩)) <;> (try (with_reducible intro hc)) <;> (try (exfalso; omega))) | (refine awp_regionE tabOk [] rfl ?_; intro J hJ; simp only []; simp [fI, hia]; (repeat (refine And.intro (by first | omega | assumption | (simp only [maxLen]; omega) | decide) ?_)); (try (first | (refine hJ _ _ ?_; clear hJ J; simp only [ak, reduceIte]) | (with_reducible refine ⟨?_, ?_⟩ <;> (first | (refine hJ _ _ ?_; clear hJ J; simp only [ak, reduceIte]) | (with_reducible intro hnil; refine hJ _ _ ?_; clear hJ J; simp only [ak, reduceIte]; (try subst hnil))))))) | (refine awp_drawQ tabOk (by kernel_rfl) (by kernel_rfl) rfl rfl ?_; intro J hJ; simp [fI, hia]; (repeat (refine And.intro (by first | omega | assumption | (simp only [maxLen]; omega) | decide) ?_)); (try (first | (refine hJ _ _ ?_; clear hJ J; simp only [ak, reduceIte]) | (with_reducible refine ⟨?_, ?_⟩ <;> (first | (refine hJ _ _ ?_; clear hJ J; simp only [ak, reduceIte]) | (with_reducible intro hnil; refine hJ _ _ ?_; clear hJ J; simp only [ak, reduceIte]; (try subst hnil))))))) | (refine e_go ?_; simp [fI, hia]; (repeat (refine And.intro (by first | omega | assumption | (simp only [maxLen]; omega) | decide) ?_)); (try (first | (refine hJ _ _ ?_; clear hJ J; simp only [ak, reduceIte]) | (with_reducible refine ⟨?_, ?_⟩ <;> (first | (refine hJ _ _ ?_; clear hJ J; simp only [ak, reduceIte]) | (with_reducible intro hnil; refine hJ _ _ ?_; clear hJ J; simp only [ak, reduceIte]; (try subst hnil)))))))))
      exact hJJ (jj + 1 - (ii + 1)) _ _ (by omega) ⟨ii + 1, by omega, by omega, rfl, by simp [f0], by simp [f1], by simp, by simp [fJ], rfl, hmo (by rw [hP]; simp [hyx])⟩
  clear f0 f1 fI fJ hLo hai hij fr ii
  rintro fr st2 ⟨ii, hai, hij, f0, f1, fI, fJ, rfl, hLo, hst⟩
  refine awp_seq ?_
  refine awp_cut1 (fun fr st2 => ∃ kk : Nat, a ≤ kk ∧ kk ≤ jj ∧ ii ≤ kk + 1 ∧ fr 0 = .ms q 0 l.length ∧ fr 1 = i a ∧ fr 9 = i ii ∧ fr 10 = i kk ∧ st2 = bx st q c ∧ Hi P c kk b ∧ StD P c ii kk) ?_ ?_
  · refine awp_block ?_
    refine awp_loop (fun m fr st2 => ∃ kk : Nat, a ≤ kk ∧ kk ≤ jj ∧ ii ≤ kk + 1 ∧ kk = m ∧ fr 0 = .ms q 0 l.length ∧ fr 1 = i a ∧ fr 9 = i ii ∧ fr 10 = i kk ∧ st2 = bx st q c ∧ Hi P c kk b) jj ?_ ?_
    · exact ⟨jj, by omega, by omega, by omega, rfl, by simp [f0], by simp [f1], by simp [fI], by simp [fJ], rfl, hHi⟩
    clear f0 f1 fI fJ hHi fr
    rintro m fr st2 ⟨kk, hak, hkj, hik, rfl, f0, f1, fI, fJ, rfl, hHi⟩ JJ hJJ
    by_cases hle : ii ≤ kk
    rotate_left
    · clear hJJ
      (repeat (refine awp_seq ?_)); (refine awp_drawS tabOk [] [q] [(0, true), (1, true), (2, true), (3, true), (4, true), (5, true), (6, true), (7, true), (8, true), (9, true), (10, true), (11, true), (12, false), (13, true)] (by kernel_rfl) rfl (by kernel_rfl) ?_; intro J hJ; simp [f0, f1, fI, fJ, hle]; (repeat (refine And.intro (by first | omega | assumption | (simp only [maxLen]; omega) | decide) ?_)); (try (first | (refine hJ _ _ ?_; clear hJ J; simp only [ak, reduceIte]) | (with_reducible refine ⟨?_, ?_⟩ <;> (first | (refine hJ _ _ ?_; clear hJ J; simp only [ak, reduceIte]) | (with_reducible intro hnil; refine hJ _ _ ?_; clear hJ J; simp only [ak, reduceIte]; (try subst hnil)))))))
      (repeat' (first | (refine awp_seq ?_) | (refine awp_block ?_) | (refine awp_skip ?_; simp only [ak, reduceIte]) | (refine awp_exit ?_; simp only [ak, reduceIte]) | (refine awp_ret ?_; simp only [ak, reduceIte]; simp []) | (refine awp_cond ?_; simp []; (try (with_reducible refine ⟨?_, ?_⟩)) <;> (try (with_reducible intro hc)) <;> (try (exfalso; omega))) | (refine awp_regionE tabOk [] rfl ?_; intro J hJ; simp only []; simp []; (repeat (refine And.intro (by first | omega | assumption | (simp only [maxLen]; omega) | decide) ?_)); (try (first | (refine hJ _ _ ?_; clear hJ J; simp only [ak, reduceIte]) | (with_reducible refine ⟨?_, ?_⟩ <;> (first | (refine hJ _ _ ?_; clear hJ J; simp only [ak, reduceIte]) | (with_reducible intro hnil; refine hJ _ _ ?_; clear hJ J; simp only [ak, reduceIte]; (try subst hnil))))))) | (refine awp_drawQ tabOk (by kernel_rfl) (by kernel_rfl) rfl rfl ?_; intro J hJ; simp []; (repeat (refine And.intro (by first | omega | assumption | (simp only [maxLen]; omega) | decide) ?_)); (try (first | (refine hJ _ _ ?_; clear hJ J; simp only [ak, reduceIte]) | (with_reducible refine ⟨?_, ?_⟩ <;> (first | (refine hJ _ _ ?_; clear hJ J; simp only [ak, reduceIte]) | (with_reducible intro hnil; refine hJ _ _ ?_; clear hJ J; simp only [ak, reduceIte]; (try subst hnil))))))) | (refine e_go ?_; simp []; (repeat (refine And.intro (by first | omega | assumption | (simp only [maxLen]; omega) | decide) ?_)); (try (first | (refine hJ _ _ ?_; clear hJ J; simp only [ak, reduceIte]) | (with_reducible refine ⟨?_, ?_⟩ <;> (first | (refine hJ _ _ ?_; clear hJ J; simp only [ak, reduceIte]) | (with_reducible intro hnil; refine hJ _ _ ?_; clear hJ J; simp only [ak, reduceIte]; (try subst hnil)))))))))
      exact ⟨trivial, kk, by omega, by omega, by omega, by simp [f0], by simp [f1], by simp [fI], by simp [fJ], by trivial, hHi, fun h => absurd h hle⟩
    have hja := nat_sub_one kk (by omega) (by omega)
    have hlj : kk < l.length := by omega
    have hd1 := us_drop_getD c kk (by omega)
    have hmo := hHi.more
    generalize hy : c.getD kk 0 = y at *
    (repeat (refine awp_seq ?_)); (refine awp_drawS tabOk [] [q] [(0, true), (1, true), (2, true), (3, true), (4, true), (5, true), (6, true), (7, true), (8, true), (9, true), (10, true), (11, true), (12, false), (13, true)] (by kernel_rfl) rfl (by kernel_rfl) ?_; intro J hJ; simp [f0, f1, fI, fJ, hle, hlj, hla, hcl, hd0, hd1]; (repeat (refine And.intro (by first | omega | assumption | (simp only [maxLen]; omega) | decide) ?_)); (try (first | (refine hJ _ _ ?_; clear hJ J; simp only [ak, reduceIte]) | (with_reducible refine ⟨?_, ?_⟩ <;> (first | (refine hJ _ _ ?_; clear hJ J; simp only [ak, reduceIte]) | (with_reducible intro hnil; refine hJ _ _ ?_; clear hJ J; simp only [ak, reduceIte]; (try subst hnil)))))))
    refine dcallK_of (Less x y _) ?_; rintro r s2 ⟨rfl, rfl⟩
    refine ⟨fun _ => by simp, ?_⟩
    have hP := hPd y
    by_cases hyx : x < y
    · (refine d_go ?_; simp [hyx]; (repeat (refine And.intro (by first | omega | assumption | (simp only [maxLen]; omega) | decide) ?_)); (try (first | (refine hJ _ _ ?_; clear hJ J; simp only [ak, reduceIte]) | (with_reducible refine ⟨?_, ?_⟩ <;> (first | (refine hJ _ _ ?_; clear hJ J; simp only [ak, reduceIte]) | (with_reducible intro hnil; refine hJ _ _ ?_; clear hJ J; simp only [ak, reduceIte]; (try subst hnil)))))))
      (repeat' (first | (refine awp_seq ?_) | (refine awp_block ?_) | (refine awp_skip ?_; simp only [ak, reduceIte]) | (refine awp_exit ?_; simp only [ak, reduceIte]) | (refine awp_ret ?_; simp only [ak, reduceIte]; simp [fJ, hja]) | (refine awp_cond ?_; simp [fJ, hja]; (try (with_reducible refine ⟨?_, ?_⟩)) <;> (try (with_reducible intro hc)) <;> (try (exfalso; omega))) | (refine awp_regionE tabOk [] rfl ?_; intro J hJ; simp only []; simp [fJ, hja]; (repeat (refine And.intro (by first | omega | assumption | (simp only [maxLen]; omega) | decide) ?_)); (try (first | (refine hJ _ _ ?_; clear hJ J; simp only [ak, reduceIte]) | (with_reducible refine ⟨?_, ?_⟩ <;> (first | (refine hJ _ _ ?_; clear hJ J; simp only [ak, reduceIte]) | (with_reducible intro hnil; refine hJ _ _ ?_; clear hJ J; simp only [ak, reduceIte]; (try subst hnil))))))) | (refine awp_drawQ tabOk (by kernel_rfl) (by kernel_rfl) rfl rfl ?_; intro J hJ; simp [fJ, hja]; (repeat (refine And.intro (by first | omega | assumption | (simp only [maxLen]; omega) | decide) ?_)); (try (first | (refine hJ _ _ ?_; clear hJ J; simp only [ak, reduceIte]) | (with_reducible refine ⟨?_, ?_⟩ <;> (first | (refine hJ _ _ ?_; clear hJ J; simp only [ak, reduceIte]) | (with_reducible intro hnil; refine hJ _ _ ?_; clear hJ J; simp only [ak, reduceIte]; (try subst hnil))))))) | (refine e_go ?_; simp [fJ, hja]; (repeat (refine And.intro (by first | omega | assumption | (simp only [maxLen]; omega) | decide) ?_)); (try (first | (refine hJ _ _ ?_; clear hJ J; simp only [ak, reduceIte]) | (with_reducible refine ⟨?_, ?_⟩ <;> (first | (refine hJ _ _ ?_; clear hJ J; simp only [ak, reduceIte]) | (with_reducible intro hnil; refine hJ _ _ ?_; clear hJ J; simp only [ak, reduceIte]; (try subst hnil)))))))))
      exact hJJ (kk - 1) _ _ (by omega) ⟨kk - 1, by omega, by omega, by omega, rfl, by simp [f0], by simp [f1], by simp [fI], by simp, rfl, hmo (by omega) (by rw [hP]; simp [hyx])⟩
    · clear hJJ
      (refine d_go ?_; simp [hyx]; (repeat (refine And.intro (by first | omega | assumption | (simp only [maxLen]; omega) | decide) ?_)); (try (first | (refine hJ _ _ ?_; clear hJ J; simp only [ak, reduceIte]) | (with_reducible refine ⟨?_, ?_⟩ <;> (first | (refine hJ _ _ ?_; clear hJ J; simp only [ak, reduceIte]) | (with_reducible intro hnil; refine hJ _ _ ?_; clear hJ J; simp only [ak, reduceIte]; (try subst hnil)))))))
      (repeat' (first | (refine awp_seq ?_) | (refine awp_block ?_) | (refine awp_skip ?_; simp only [ak, reduceIte]) | (refine awp_exit ?_; simp only [ak, reduceIte]) | (refine awp_ret ?_; simp only [ak, reduceIte]; simp []) | (refine awp_cond ?_; simp []; (try (with_reducible refine ⟨?_, ?_⟩)) <;> (try (with_reducible intro hc)) <;> (try (exfalso; omega))) | (refine awp_regionE tabOk [] rfl ?_; intro J hJ; simp only []; simp []; (repeat (refine And.intro (by first | omega | assumption | (simp only [maxLen]; omega) | decide) ?_)); (try (first | (refine hJ _ _ ?_; clear hJ J; simp only [ak, reduceIte]) | (with_reducible refine ⟨?_, ?_⟩ <;> (first | (refine hJ _ _ ?_; clear hJ J; simp only [ak, reduceIte]) | (with_reducible intro hnil; refine hJ _ _ ?_; clear hJ J; simp only [ak, reduceIte]; (try subst hnil))))))) | (refine awp_drawQ tabOk (by kernel_rfl) (by kernel_rfl) rfl rfl ?_; intro J hJ; simp []; (repeat (refine And.intro (by first | omega | assumption | (simp only [maxLen]; omega) | decide) ?_)); (try (first | (refine hJ _ _ ?_; clear hJ J; simp only [ak, reduceIte]) | (with_reducible refine ⟨?_, ?_⟩ <;> (first | (refine hJ _ _ ?_; clear hJ J; simp only [ak, reduceIte]) | (with_reducible intro hnil; refine hJ _ _ ?_; clear hJ J; simp only [ak, reduceIte]; (try subst hnil))))))) | (refine e_go ?_; simp []; (repeat (refine And.intro (by first | omega | assumption | (simp only [maxLen]; omega) | decide) ?_)); (try (first | (refine hJ _ _ ?_; clear hJ J; simp only [ak, reduceIte]) | (with_reducible refine ⟨?_, ?_⟩ <;> (first | (refine hJ _ _ ?_; clear hJ J; simp only [ak, reduceIte]) | (with_reducible intro hnil; refine hJ _ _ ?_; clear hJ J; simp only [ak, reduceIte]; (try subst hnil)))))))))
      exact ⟨trivial, kk, by omega, by omega, by omega, by simp [f0], by simp [f1], by simp [fI], by simp [fJ], by trivial, hHi, fun _ => by rw [hy, hP]; simp [hyx]⟩
  clear f0 f1 fI fJ hHi fr
  rintro fr st2 ⟨kk, hak, hkj, hik, f0, f1, fI, fJ, rfl, hHi, hst2⟩
  by_cases hle : ii ≤ kk
  rotate_left
  · clear hJ0
    (repeat' (first | (refine awp_seq ?_) | (refine awp_block ?_) | (refine awp_skip ?_; simp only [ak, reduceIte]) | (refine awp_exit ?_; simp only [ak, reduceIte]) | (refine awp_ret ?_; simp only [ak, reduceIte]; simp [f0, f1, fI, fJ, hle]) | (refine awp_cond ?_; simp [f0, f1, fI, fJ, hle]; (try (with_reducible refine ⟨?_, ?_⟩)) <;> (try (with_reducible intro hc)) <;> (try (exfalso; omega))) | (refine awp_regionE tabOk [] rfl ?_; intro J hJ; simp only []; simp [f0, f1, fI, fJ, hle]; (repeat (refine And.intro (by first | omega | assumption | (simp only [maxLen]; omega) | decide) ?_)); (try (first | (refine hJ _ _ ?_; clear hJ J; simp only [ak, reduceIte]) | (with_reducible refine ⟨?_, ?_⟩ <;> (first | (refine hJ _ _ ?_; clear hJ J; simp only [ak, reduceIte]) | (with_reducible intro hnil; refine hJ _ _ ?_; clear hJ J; simp only [ak, reduceIte]; (try subst hnil))))))) | (refine awp_drawQ tabOk (by kernel_rfl) (by kernel_rfl) rfl rfl ?_; intro J hJ; simp [f0, f1, fI, fJ, hle]; (repeat (refine And.intro (by first | omega | assumption | (simp only [maxLen]; omega) | decide) ?_)); (try (first | (refine hJ _ _ ?_; clear hJ J; simp only [ak, reduceIte]) | (with_reducible refine ⟨?_, ?_⟩ <;> (first | (refine hJ _ _ ?_; clear hJ J; simp only [ak, reduceIte]) | (with_reducible intro hnil; refine hJ _ _ ?_; clear hJ J; simp only [ak, reduceIte]; (try subst hnil))))))) | (refine e_go ?_; simp [f0, f1, fI, fJ, hle]; (repeat (refine And.intro (by first | omega | assumption | (simp only [maxLen]; omega) | decide) ?_)); (try (first | (refine hJ _ _ ?_; clear hJ J; simp only [ak, reduceIte]) | (with_reducible refine ⟨?_, ?_⟩ <;> (first | (refine hJ _ _ ?_; clear hJ J; simp only [ak, reduceIte]) | (with_reducible intro hnil; refine hJ _ _ ?_; clear hJ J; simp only [ak, reduceIte]; (try subst hnil)))))))))
    refine ⟨c, ii, rfl, rfl, hpm, by omega, by omega, fun p h1 h2 => ?_, fun p h1 h2 => ?_⟩
    · by_cases e : p = a
      · rw [e, hx]; exact Int.le_refl _
      · have := hLo p (by omega) h2; rw [hPd] at this; simpa using this
    · have := hHi p (by omega) h2; rw [hPd] at this; simpa using this
  have hik2 : ii < kk := by
    rcases Nat.lt_or_ge ii kk with h | h
    · exact h
    · exfalso
      have e : ii = kk := by omega
      have h1 := hst (by omega)
      have h2 := hst2 hle
      rw [e, h2] at h1; cases h1
  have hLo2 := hLo.swp hik2 (by omega) (hst2 hle)
  have hHi2 := hHi.swp hik2 (by omega) (hst (by omega))
  have hpm2 := hpm.step ii kk (by omega) (by omega) (by omega) (by omega) (by omega)
  have hxx : (sw c ii kk).getD a 0 = x := by rw [sw_get _ _ _ _ (by omega) (by omega), if_neg (by omega), if_neg (by omega)]; exact hx
  have hli : ii < l.length := by omega
  have hlk : kk < l.length := by omega
  have hd1 := us_drop_getD c ii (by omega)
  have hd2 := us_drop_getD c kk (by omega)
  have hsw := fun x y => bx_sw st q c ii kk (x := x) (y := y) (by omega) (by omega)
  have hia := nat_add_one ii (by omega)
  have hka := nat_sub_one kk (by omega) (by omega)
  clear hst hst2
  generalize hy1 : c.getD ii 0 = y1 at *
  generalize hy2 : c.getD kk 0 = y2 at *
  have hsw' := hsw y1 y2 rfl rfl
  (repeat' (first | (refine awp_seq ?_) | (refine awp_block ?_) | (refine awp_skip ?_; simp only [ak, reduceIte]) | (refine awp_exit ?_; simp only [ak, reduceIte]) | (refine awp_ret ?_; simp only [ak, reduceIte]; simp [f0, f1, fI, fJ, hle]) | (refine awp_cond ?_; simp [f0, f1, fI, fJ, hle]; (try (with_reducible refine ⟨?_, ?_⟩)) <;> (try (with_reducible intro hc)) <;> (try (exfalso; omega))) | (refine awp_regionE tabOk [] rfl ?_; intro J hJ; simp only []; simp [f0, f1, fI, fJ, hle]; (repeat (refine And.intro (by first | omega | assumption | (simp only [maxLen]; omega) | decide) ?_)); (try (first | (refine hJ _ _ ?_; clear hJ J; simp only [ak, reduceIte]) | (with_reducible refine ⟨?_, ?_⟩ <;> (first | (refine hJ _ _ ?_; clear hJ J; simp only [ak, reduceIte]) | (with_reducible intro hnil; refine hJ _ _ ?_; clear hJ J; simp only [ak, reduceIte]; (try subst hnil))))))) | (refine awp_drawQ tabOk (by kernel_rfl) (by kernel_rfl) rfl rfl ?_; intro J hJ; simp [f0, f1, fI, fJ, hle]; (repeat (refine And.intro (by first | omega | assumption | (simp only [maxLen]; omega) | decide) ?_)); (try (first | (refine hJ _ _ ?_; clear hJ J; simp only [ak, reduceIte]) | (with_reducible refine ⟨?_, ?_⟩ <;> (first | (refine hJ _ _ ?_; clear hJ J; simp only [ak, reduceIte]) | (with_reducible intro hnil; refine hJ _ _ ?_; clear hJ J; simp only [ak, reduceIte]; (try subst hnil))))))) | (refine e_go ?_; simp [f0, f1, fI, fJ, hle]; (repeat (refine And.intro (by first | omega | assumption | (simp only [maxLen]; omega) | decide) ?_)); (try (first | (refine hJ _ _ ?_; clear hJ J; simp only [ak, reduceIte]) | (with_reducible refine ⟨?_, ?_⟩ <;> (first | (refine hJ _ _ ?_; clear hJ J; simp only [ak, reduceIte]) | (with_reducible intro hnil; refine hJ _ _ ?_; clear hJ J; simp only [ak, reduceIte]; (try subst hnil)))))))))
  (refine awp_drawS tabOk [] [q] [(0, true), (1, true), (2, true), (3, true), (4, true), (5, true), (6, true), (7, true), (8, true), (9, true), (10, true), (11, true), (12, true), (13, false), (14, true), (15, false)] (by kernel_rfl) rfl (by kernel_rfl) ?_; intro J hJ; simp [f0, f1, fI, fJ, hli, hlk, hcl, hd1, hd2]; (repeat (refine And.intro (by first | omega | assumption | (simp only [maxLen]; omega) | decide) ?_)); (try (first | (refine hJ _ _ ?_; clear hJ J; simp only [ak, reduceIte]) | (with_reducible refine ⟨?_, ?_⟩ <;> (first | (refine hJ _ _ ?_; clear hJ J; simp only [ak, reduceIte]) | (with_reducible intro hnil; refine hJ _ _ ?_; clear hJ J; simp only [ak, reduceIte]; (try subst hnil)))))))
  (repeat' (first | (refine awp_seq ?_) | (refine awp_block ?_) | (refine awp_skip ?_; simp only [ak, reduceIte]) | (refine awp_exit ?_; simp only [ak, reduceIte]) | (refine awp_ret ?_; simp only [ak, reduceIte]; simp [fI, fJ, hia, hka]) | (refine awp_cond ?_; simp [fI, fJ, hia, hka]; (try (with_reducible refine ⟨?_, ?_⟩)) <;> (try (with_reducible intro hc)) <;> (try (exfalso; omega))) | (refine awp_regionE tabOk [] rfl ?_; intro J hJ; simp only []; simp [fI, fJ, hia, hka]; (repeat (refine And.intro (by first | omega | assumption | (simp only [maxLen]; omega) | decide) ?_)); (try (first | (refine hJ _ _ ?_; clear hJ J; simp only [ak, reduceIte]) | (with_reducible refine ⟨?_, ?_⟩ <;> (first | (refine hJ _ _ ?_; clear hJ J; simp only [ak, reduceIte]) | (with_reducible intro hnil; refine hJ _ _ ?_; clear hJ J; simp only [ak, reduceIte]; (try subst hnil))))))) | (refine awp_drawQ tabOk (by kernel_rfl) (by kernel_rfl) rfl rfl ?_; intro J hJ; simp [fI, fJ, hia, hka]; (repeat (refine And.intro (by first | omega | assumption | (simp only [maxLen]; omega) | decide) ?_)); (try (first | (refine hJ _ _ ?_; clear hJ J; simp only [ak, reduceIte]) | (with_reducible refine ⟨?_, ?_⟩ <;> (first | (refine hJ _ _ ?_; clear hJ J; simp only [ak, reduceIte]) | (with_reducible intro hnil; refine hJ _ _ ?_; clear hJ J; simp only [ak, reduceIte]; (try subst hnil))))))) | (refine e_go ?_; simp [fI, fJ, hia, hka]; (repeat (refine And.intro (by first | omega | assumption | (simp only [maxLen]; omega) | decide) ?_)); (try (first | (refine hJ _ _ ?_; clear hJ J; simp only [ak, reduceIte]) | (with_reducible refine ⟨?_, ?_⟩ <;> (first | (refine hJ _ _ ?_; clear hJ J; simp only [ak, reduceIte]) | (with_reducible intro hnil; refine hJ _ _ ?_; clear hJ J; simp only [ak, reduceIte]; (try subst hnil)))))))))
  exact hJ0 (kk - 1) _ _ (by omega) ⟨ii + 1, kk - 1, sw c ii kk, by omega, by omega, by omega, rfl, by simp [f0], by simp [f1], by simp, by simp, hsw', hpm2, hxx, hLo2, hHi2⟩

end Go.Proofs.Ytphdhggoaijfoaa.Aw
