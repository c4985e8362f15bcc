/- The library's sort: Len, nextPowerOfTwo, breakPatterns. -/
import Derived.Test.YtphdhggoaijfoaaS7
namespace Go.Proofs.Ytphdhggoaijfoaa.Aw
open Go Go.RowKit Go.Proofs.Ytphdhggoaijfoaa.Pl
set_option linter.unusedSimpArgs false
set_option linter.unusedVariables false

abbrev uw (n : Int) : LV := .atom (.int .u64 n)
def lenTab (m : Nat) : Nat := if m = 0 then 0 else Nat.log2 m + 1
def blen (n : Nat) : Nat := if 256 ≤ n then 8 + lenTab (n / 256) else lenTab n

theorem wrap_u64 (n : Int) (h1 : 0 ≤ n) (h2 : n < 18446744073709551616) : IntKind.u64.wrap n = n := by
  simp [IntKind.wrap, IntKind.signed, IntKind.bits]; omega
theorem wrap_u8 (n : Int) (h1 : 0 ≤ n) (h2 : n < 256) : IntKind.u8.wrap n = n := by
  simp [IntKind.wrap, IntKind.signed, IntKind.bits]; omega

abbrev lenStr : ByteArray := { data := ((List.append [0, 1, 2, 2, 3, 3, 3, 3, 4, 4, 4, 4, 4, 4, 4, 4, 5, 5, 5, 5, 5, 5, 5, 5, 5, 5, 5, 5, 5, 5, 5, 5, 6, 6, 6, 6, 6, 6, 6, 6, 6, 6, 6, 6, 6, 6, 6, 6, 6, 6, 6, 6, 6, 6, 6, 6, 6, 6, 6, 6, 6, 6, 6, 6] [7, 7, 7, 7, 7, 7, 7, 7, 7, 7, 7, 7, 7, 7, 7, 7, 7, 7, 7, 7, 7, 7, 7, 7, 7, 7, 7, 7, 7, 7, 7, 7, 7, 7, 7, 7, 7, 7, 7, 7, 7, 7, 7, 7, 7, 7, 7, 7, 7, 7, 7, 7, 7, 7, 7, 7, 7, 7, 7, 7, 7, 7, 7, 7]).append (List.append [8, 8, 8, 8, 8, 8, 8, 8, 8, 8, 8, 8, 8, 8, 8, 8, 8, 8, 8, 8, 8, 8, 8, 8, 8, 8, 8, 8, 8, 8, 8, 8, 8, 8, 8, 8, 8, 8, 8, 8, 8, 8, 8, 8, 8, 8, 8, 8, 8, 8, 8, 8, 8, 8, 8, 8, 8, 8, 8, 8, 8, 8, 8, 8] [8, 8, 8, 8, 8, 8, 8, 8, 8, 8, 8, 8, 8, 8, 8, 8, 8, 8, 8, 8, 8, 8, 8, 8, 8, 8, 8, 8, 8, 8, 8, 8, 8, 8, 8, 8, 8, 8, 8, 8, 8, 8, 8, 8, 8, 8, 8, 8, 8, 8, 8, 8, 8, 8, 8, 8, 8, 8, 8, 8, 8, 8, 8, 8])).toArray }
theorem lenStr_at : ∀ m : Fin 256, ((lenStr[m.val]?).isSome = true ∧ ((lenStr[m.val]?).getD 0).toNat = lenTab m.val) := by decide +kernel

theorem lenTab_at : ∀ m : Fin 256, lenTab m.val ≤ 8 ∧ (0 < m.val → m.val < 2 ^ lenTab m.val ∧ 2 ^ lenTab m.val ≤ 2 * m.val) := by decide +kernel
theorem blen_at (n : Nat) (hn : n < 65536) : blen n ≤ 16 ∧ (0 < n → n < 2 ^ blen n ∧ 2 ^ blen n ≤ 2 * n) := by
  unfold blen
  by_cases h : 256 ≤ n
  · rw [if_pos h]
    have h1 := lenTab_at ⟨n / 256, by omega⟩
    simp only at h1
    obtain ⟨h2, h3⟩ := h1.2 (by omega)
    refine ⟨by omega, fun _ => ?_⟩
    rw [Nat.pow_add]
    generalize 2 ^ lenTab (n / 256) = e at *
    omega
  · rw [if_neg h]
    have h1 := lenTab_at ⟨n, by omega⟩
    simp only at h1
    exact ⟨by omega, h1.2⟩

theorem Len64 (n : Nat) (st : St) (hn : n < 65536) : ACalls Try.prog 130 [uw n] st fun r st' => r = i (blen n) ∧ st' = st := by
  refine acalls_of_body tabOk Try.func130 rfl rfl Try.ntmps130 (rs := [.tmp 2]) rfl (by simp) ?_
  have h1 : ¬ (4294967296 : Int) ≤ (n : Int) := by omega
  have h2 : ¬ (65536 : Int) ≤ (n : Int) := by omega
  have hs : ∀ m, m < 256 → (lenStr[m]?).isSome = true ∧ ((lenStr[m]?).getD 0).toNat = lenTab m := fun m h => lenStr_at ⟨m, h⟩
  generalize hq : ({ data := ((List.append [0, 1, 2, 2, 3, 3, 3, 3, 4, 4, 4, 4, 4, 4, 4, 4, 5, 5, 5, 5, 5, 5, 5, 5, 5, 5, 5, 5, 5, 5, 5, 5, 6, 6, 6, 6, 6, 6, 6, 6, 6, 6, 6, 6, 6, 6, 6, 6, 6, 6, 6, 6, 6, 6, 6, 6, 6, 6, 6, 6, 6, 6, 6, 6] [7, 7, 7, 7, 7, 7, 7, 7, 7, 7, 7, 7, 7, 7, 7, 7, 7, 7, 7, 7, 7, 7, 7, 7, 7, 7, 7, 7, 7, 7, 7, 7, 7, 7, 7, 7, 7, 7, 7, 7, 7, 7, 7, 7, 7, 7, 7, 7, 7, 7, 7, 7, 7, 7, 7, 7, 7, 7, 7, 7, 7, 7, 7, 7]).append (List.append [8, 8, 8, 8, 8, 8, 8, 8, 8, 8, 8, 8, 8, 8, 8, 8, 8, 8, 8, 8, 8, 8, 8, 8, 8, 8, 8, 8, 8, 8, 8, 8, 8, 8, 8, 8, 8, 8, 8, 8, 8, 8, 8, 8, 8, 8, 8, 8, 8, 8, 8, 8, 8, 8, 8, 8, 8, 8, 8, 8, 8, 8, 8, 8] [8, 8, 8, 8, 8, 8, 8, 8, 8, 8, 8, 8, 8, 8, 8, 8, 8, 8, 8, 8, 8, 8, 8, 8, 8, 8, 8, 8, 8, 8, 8, 8, 8, 8, 8, 8, 8, 8, 8, 8, 8, 8, 8, 8, 8, 8, 8, 8, 8, 8, 8, 8, 8, 8, 8, 8, 8, 8, 8, 8, 8, 8, 8, 8])).toArray } : ByteArray) = s
  rw [show lenStr = s from hq] at hs
  clear hq
  by_cases h3 : (256 : Int) ≤ (n : Int)
  · obtain ⟨m, hm⟩ : ∃ m, m = n / 256 := ⟨_, rfl⟩
    have w1 : (n : Int).fdiv (2 ^ min 8 IntKind.u64.bits) = (m : Int) := by
      show (n : Int).fdiv 256 = (m : Int)
      rw [Int.fdiv_eq_ediv_of_nonneg _ (by omega)]; omega
    have w2 := wrap_u8 m (by omega) (by omega)
    have hb : blen n = 8 + lenTab m := by unfold blen; rw [if_pos (by omega), hm]
    have h4 : lenTab m ≤ 8 := (lenTab_at ⟨m, by omega⟩).1
    have hm2 := hs m (by omega)
    have hz : m < s.size := by simpa using hm2.1
    have hv := hm2.2
    rw [hb]
    generalize lenTab m = e at *
    have w3 : IntKind.i64.wrap (8 + (e : Int)) = ((8 + e : Nat) : Int) := by rw [wrap_i64 _ (by omega) (by omega)]; omega
    have w4 : IntKind.i64.wrap (e : Int) = (e : Int) := by rw [wrap_i64 _ (by omega) (by omega)]
    have w5 : IntKind.i64.wrap (8 : Int) = 8 := rfl
    simp [hz] at hv
    (repeat' (first | (refine awp_seq ?_) | (refine awp_block ?_) | (refine awp_skip ?_; simp only [ak, reduceIte]) | (refine awp_exit ?_; simp only [ak, reduceIte]) | (refine awp_ret ?_; simp only [ak, reduceIte]; simp [h1, h2, h3, gshr, w1, w2, hz, hv, w3, w4, w5]) | (refine awp_cond ?_; simp [h1, h2, h3, gshr, w1, w2, hz, hv, w3, w4, w5]; (try (with_reducible refine ⟨?_, ?_⟩)) <;> (try (with_reducible intro hc)) <;> (try (exfalso; omega))) | (refine awp_regionE tabOk [] rfl ?_; intro J hJ; simp only []; simp [h1, h2, h3, gshr, w1, w2, hz, hv, w3, w4, w5]; (repeat (refine And.intro (by first | omega | assumption | (simp only [maxLen]; omega) | decide) ?_)); (try (first | (refine hJ _ _ ?_; clear hJ J; simp only [ak, reduceIte]) | (with_reducible refine ⟨?_, ?_⟩ <;> (first | (refine hJ _ _ ?_; clear hJ J; simp only [ak, reduceIte]) | (with_reducible intro hnil; refine hJ _ _ ?_; clear hJ J; simp only [ak, reduceIte]; (try subst hnil))))))) | (refine awp_drawQ tabOk (by kernel_rfl) (by kernel_rfl) rfl rfl ?_; intro J hJ; simp [h1, h2, h3, gshr, w1, w2, hz, hv, w3, w4, w5]; (repeat (refine And.intro (by first | omega | assumption | (simp only [maxLen]; omega) | decide) ?_)); (try (first | (refine hJ _ _ ?_; clear hJ J; simp only [ak, reduceIte]) | (with_reducible refine ⟨?_, ?_⟩ <;> (first | (refine hJ _ _ ?_; clear hJ J; simp only [ak, reduceIte]) | (with_reducible intro hnil; refine hJ _ _ ?_; clear hJ J; simp only [ak, reduceIte]; (try subst hnil))))))) | (refine e_go ?_; simp [h1, h2, h3, gshr, w1, w2, hz, hv, w3, w4, w5]; (repeat (refine And.intro (by first | omega | assumption | (simp only [maxLen]; omega) | decide) ?_)); (try (first | (refine hJ _ _ ?_; clear hJ J; simp only [ak, reduceIte]) | (with_reducible refine ⟨?_, ?_⟩ <;> (first | (refine hJ _ _ ?_; clear hJ J; simp only [ak, reduceIte]) | (with_reducible intro hnil; refine hJ _ _ ?_; clear hJ J; simp only [ak, reduceIte]; (try subst hnil)))))))))
  · have w2 := wrap_u8 n (by omega) (by omega)
    have hb : blen n = lenTab n := by unfold blen; rw [if_neg (by omega)]
    have h4 : lenTab n ≤ 8 := (lenTab_at ⟨n, by omega⟩).1
    have hm2 := hs n (by omega)
    have hz : n < s.size := by simpa using hm2.1
    have hv := hm2.2
    rw [hb]
    generalize lenTab n = e at *
    have w4 : IntKind.i64.wrap (e : Int) = (e : Int) := by rw [wrap_i64 _ (by omega) (by omega)]
    simp [hz] at hv
    (repeat' (first | (refine awp_seq ?_) | (refine awp_block ?_) | (refine awp_skip ?_; simp only [ak, reduceIte]) | (refine awp_exit ?_; simp only [ak, reduceIte]) | (refine awp_ret ?_; simp only [ak, reduceIte]; simp [h1, h2, h3, w2, hz, hv, w4]) | (refine awp_cond ?_; simp [h1, h2, h3, w2, hz, hv, w4]; (try (with_reducible refine ⟨?_, ?_⟩)) <;> (try (with_reducible intro hc)) <;> (try (exfalso; omega))) | (refine awp_regionE tabOk [] rfl ?_; intro J hJ; simp only []; simp [h1, h2, h3, w2, hz, hv, w4]; (repeat (refine And.intro (by first | omega | assumption | (simp only [maxLen]; omega) | decide) ?_)); (try (first | (refine hJ _ _ ?_; clear hJ J; simp only [ak, reduceIte]) | (with_reducible refine ⟨?_, ?_⟩ <;> (first | (refine hJ _ _ ?_; clear hJ J; simp only [ak, reduceIte]) | (with_reducible intro hnil; refine hJ _ _ ?_; clear hJ J; simp only [ak, reduceIte]; (try subst hnil))))))) | (refine awp_drawQ tabOk (by kernel_rfl) (by kernel_rfl) rfl rfl ?_; intro J hJ; simp [h1, h2, h3, w2, hz, hv, w4]; (repeat (refine And.intro (by first | omega | assumption | (simp only [maxLen]; omega) | decide) ?_)); (try (first | (refine hJ _ _ ?_; clear hJ J; simp only [ak, reduceIte]) | (with_reducible refine ⟨?_, ?_⟩ <;> (first | (refine hJ _ _ ?_; clear hJ J; simp only [ak, reduceIte]) | (with_reducible intro hnil; refine hJ _ _ ?_; clear hJ J; simp only [ak, reduceIte]; (try subst hnil))))))) | (refine e_go ?_; simp [h1, h2, h3, w2, hz, hv, w4]; (repeat (refine And.intro (by first | omega | assumption | (simp only [maxLen]; omega) | decide) ?_)); (try (first | (refine hJ _ _ ?_; clear hJ J; simp only [ak, reduceIte]) | (with_reducible refine ⟨?_, ?_⟩ <;> (first | (refine hJ _ _ ?_; clear hJ J; simp only [ak, reduceIte]) | (with_reducible intro hnil; refine hJ _ _ ?_; clear hJ J; simp only [ak, reduceIte]; (try subst hnil)))))))))

theorem Len (n : Nat) (st : St) (hn : n < 65536) : ACalls Try.prog 102 [uw n] st fun r st' => r = i (blen n) ∧ st' = st := by
  refine acalls_of_body tabOk Try.func102 rfl rfl Try.ntmps102 (rs := [.tmp 2]) rfl (by simp) ?_
  (repeat' (first | (refine awp_seq ?_) | (refine awp_block ?_) | (refine awp_skip ?_; simp only [ak, reduceIte]) | (refine awp_exit ?_; simp only [ak, reduceIte]) | (refine awp_ret ?_; simp only [ak, reduceIte]; simp []) | (refine awp_cond ?_; simp []; (try (with_reducible refine ⟨?_, ?_⟩)) <;> (try (with_reducible intro hc)) <;> (try (exfalso; omega))) | (refine awp_regionE tabOk [] rfl ?_; intro J hJ; simp only []; simp []; (repeat (refine And.intro (by first | omega | assumption | (simp only [maxLen]; omega) | decide) ?_)); (try (first | (refine hJ _ _ ?_; clear hJ J; simp only [ak, reduceIte]) | (with_reducible refine ⟨?_, ?_⟩ <;> (first | (refine hJ _ _ ?_; clear hJ J; simp only [ak, reduceIte]) | (with_reducible intro hnil; refine hJ _ _ ?_; clear hJ J; simp only [ak, reduceIte]; (try subst hnil))))))) | (refine awp_drawQ tabOk (by kernel_rfl) (by kernel_rfl) rfl rfl ?_; intro J hJ; simp []; (repeat (refine And.intro (by first | omega | assumption | (simp only [maxLen]; omega) | decide) ?_)); (try (first | (refine hJ _ _ ?_; clear hJ J; simp only [ak, reduceIte]) | (with_reducible refine ⟨?_, ?_⟩ <;> (first | (refine hJ _ _ ?_; clear hJ J; simp only [ak, reduceIte]) | (with_reducible intro hnil; refine hJ _ _ ?_; clear hJ J; simp only [ak, reduceIte]; (try subst hnil))))))) | (refine e_go ?_; simp []; (repeat (refine And.intro (by first | omega | assumption | (simp only [maxLen]; omega) | decide) ?_)); (try (first | (refine hJ _ _ ?_; clear hJ J; simp only [ak, reduceIte]) | (with_reducible refine ⟨?_, ?_⟩ <;> (first | (refine hJ _ _ ?_; clear hJ J; simp only [ak, reduceIte]) | (with_reducible intro hnil; refine hJ _ _ ?_; clear hJ J; simp only [ak, reduceIte]; (try subst hnil)))))))))
  refine callK_of (Len64 n _ hn) ?_; rintro r st' ⟨rfl, rfl⟩
  (repeat' (first | (refine awp_seq ?_) | (refine awp_block ?_) | (refine awp_skip ?_; simp only [ak, reduceIte]) | (refine awp_exit ?_; simp only [ak, reduceIte]) | (refine awp_ret ?_; simp only [ak, reduceIte]; simp []) | (refine awp_cond ?_; simp []; (try (with_reducible refine ⟨?_, ?_⟩)) <;> (try (with_reducible intro hc)) <;> (try (exfalso; omega))) | (refine awp_regionE tabOk [] rfl ?_; intro J hJ; simp only []; simp []; (repeat (refine And.intro (by first | omega | assumption | (simp only [maxLen]; omega) | decide) ?_)); (try (first | (refine hJ _ _ ?_; clear hJ J; simp only [ak, reduceIte]) | (with_reducible refine ⟨?_, ?_⟩ <;> (first | (refine hJ _ _ ?_; clear hJ J; simp only [ak, reduceIte]) | (with_reducible intro hnil; refine hJ _ _ ?_; clear hJ J; simp only [ak, reduceIte]; (try subst hnil))))))) | (refine awp_drawQ tabOk (by kernel_rfl) (by kernel_rfl) rfl rfl ?_; intro J hJ; simp []; (repeat (refine And.intro (by first | omega | assumption | (simp only [maxLen]; omega) | decide) ?_)); (try (first | (refine hJ _ _ ?_; clear hJ J; simp only [ak, reduceIte]) | (with_reducible refine ⟨?_, ?_⟩ <;> (first | (refine hJ _ _ ?_; clear hJ J; simp only [ak, reduceIte]) | (with_reducible intro hnil; refine hJ _ _ ?_; clear hJ J; simp only [ak, reduceIte]; (try subst hnil))))))) | (refine e_go ?_; simp []; (repeat (refine And.intro (by first | omega | assumption | (simp only [maxLen]; omega) | decide) ?_)); (try (first | (refine hJ _ _ ?_; clear hJ J; simp only [ak, reduceIte]) | (with_reducible refine ⟨?_, ?_⟩ <;> (first | (refine hJ _ _ ?_; clear hJ J; simp only [ak, reduceIte]) | (with_reducible intro hnil; refine hJ _ _ ?_; clear hJ J; simp only [ak, reduceIte]; (try subst hnil)))))))))

theorem nextPowerOfTwo (n : Nat) (st : St) (hn : n < 65536) : ACalls Try.prog 138 [i n] st fun r st' => r = uw ((2 ^ blen n : Nat) : Int) ∧ st' = st := by
  have h1 := (blen_at n hn).1
  have w1 : IntKind.u64.wrap (n : Int) = (n : Int) := wrap_u64 _ (by omega) (by omega)
  have w2 : gshl .u64 1 (blen n) = ((2 ^ blen n : Nat) : Int) := by
    unfold gshl
    have h2 : (2 : Nat) ^ blen n ≤ 2 ^ 16 := Nat.pow_le_pow_right (by omega) h1
    have h3 : min ((blen n : Int).toNat) IntKind.u64.bits = blen n := by simp [IntKind.bits]; omega
    rw [h3, Int.one_mul]
    rw [show ((2 : Int) ^ blen n) = ((2 ^ blen n : Nat) : Int) by simp]
    generalize (2 : Nat) ^ blen n = z at *
    exact wrap_u64 _ (by omega) (by omega)
  refine acalls_of_body tabOk Try.func138 rfl rfl Try.ntmps138 (rs := [.tmp 2]) rfl (by simp) ?_
  (repeat' (first | (refine awp_seq ?_) | (refine awp_block ?_) | (refine awp_skip ?_; simp only [ak, reduceIte]) | (refine awp_exit ?_; simp only [ak, reduceIte]) | (refine awp_ret ?_; simp only [ak, reduceIte]; simp [w1]) | (refine awp_cond ?_; simp [w1]; (try (with_reducible refine ⟨?_, ?_⟩)) <;> (try (with_reducible intro hc)) <;> (try (exfalso; omega))) | (refine awp_regionE tabOk [] rfl ?_; intro J hJ; simp only []; simp [w1]; (repeat (refine And.intro (by first | omega | assumption | (simp only [maxLen]; omega) | decide) ?_)); (try (first | (refine hJ _ _ ?_; clear hJ J; simp only [ak, reduceIte]) | (with_reducible refine ⟨?_, ?_⟩ <;> (first | (refine hJ _ _ ?_; clear hJ J; simp only [ak, reduceIte]) | (with_reducible intro hnil; refine hJ _ _ ?_; clear hJ J; simp only [ak, reduceIte]; (try subst hnil))))))) | (refine awp_drawQ tabOk (by kernel_rfl) (by kernel_rfl) rfl rfl ?_; intro J hJ; simp [w1]; (repeat (refine And.intro (by first | omega | assumption | (simp only [maxLen]; omega) | decide) ?_)); (try (first | (refine hJ _ _ ?_; clear hJ J; simp only [ak, reduceIte]) | (with_reducible refine ⟨?_, ?_⟩ <;> (first | (refine hJ _ _ ?_; clear hJ J; simp only [ak, reduceIte]) | (with_reducible intro hnil; refine hJ _ _ ?_; clear hJ J; simp only [ak, reduceIte]; (try subst hnil))))))) | (refine e_go ?_; simp [w1]; (repeat (refine And.intro (by first | omega | assumption | (simp only [maxLen]; omega) | decide) ?_)); (try (first | (refine hJ _ _ ?_; clear hJ J; simp only [ak, reduceIte]) | (with_reducible refine ⟨?_, ?_⟩ <;> (first | (refine hJ _ _ ?_; clear hJ J; simp only [ak, reduceIte]) | (with_reducible intro hnil; refine hJ _ _ ?_; clear hJ J; simp only [ak, reduceIte]; (try subst hnil)))))))))
  refine callK_of (Len n _ hn) ?_; rintro r st' ⟨rfl, rfl⟩
  generalize ((2 ^ blen n : Nat) : Int) = e2 at *
  (repeat' (first | (refine awp_seq ?_) | (refine awp_block ?_) | (refine awp_skip ?_; simp only [ak, reduceIte]) | (refine awp_exit ?_; simp only [ak, reduceIte]) | (refine awp_ret ?_; simp only [ak, reduceIte]; simp [w2]) | (refine awp_cond ?_; simp [w2]; (try (with_reducible refine ⟨?_, ?_⟩)) <;> (try (with_reducible intro hc)) <;> (try (exfalso; omega))) | (refine awp_regionE tabOk [] rfl ?_; intro J hJ; simp only []; simp [w2]; (repeat (refine And.intro (by first | omega | assumption | (simp only [maxLen]; omega) | decide) ?_)); (try (first | (refine hJ _ _ ?_; clear hJ J; simp only [ak, reduceIte]) | (with_reducible refine ⟨?_, ?_⟩ <;> (first | (refine hJ _ _ ?_; clear hJ J; simp only [ak, reduceIte]) | (with_reducible intro hnil; refine hJ _ _ ?_; clear hJ J; simp only [ak, reduceIte]; (try subst hnil))))))) | (refine awp_drawQ tabOk (by kernel_rfl) (by kernel_rfl) rfl rfl ?_; intro J hJ; simp [w2]; (repeat (refine And.intro (by first | omega | assumption | (simp only [maxLen]; omega) | decide) ?_)); (try (first | (refine hJ _ _ ?_; clear hJ J; simp only [ak, reduceIte]) | (with_reducible refine ⟨?_, ?_⟩ <;> (first | (refine hJ _ _ ?_; clear hJ J; simp only [ak, reduceIte]) | (with_reducible intro hnil; refine hJ _ _ ?_; clear hJ J; simp only [ak, reduceIte]; (try subst hnil))))))) | (refine e_go ?_; simp [w2]; (repeat (refine And.intro (by first | omega | assumption | (simp only [maxLen]; omega) | decide) ?_)); (try (first | (refine hJ _ _ ?_; clear hJ J; simp only [ak, reduceIte]) | (with_reducible refine ⟨?_, ?_⟩ <;> (first | (refine hJ _ _ ?_; clear hJ J; simp only [ak, reduceIte]) | (with_reducible intro hnil; refine hJ _ _ ?_; clear hJ J; simp only [ak, reduceIte]; (try subst hnil)))))))))

abbrev xx (st : St) (p : Nat) (s : Int) : St := st.set p (.box 148 1 [uw s])

theorem Next (p : Nat) (s : Int) (st : St) (hp : st.H p = .box 148 1 [uw s]) : ACalls Try.prog 139 [.pt p 0] st fun r st' => ∃ s', r = uw s' ∧ st' = xx st p s' := by
  refine acalls_of_body tabOk Try.func139 rfl rfl Try.ntmps139 (rs := [.tmp 2]) rfl (by simp) ?_
  (repeat (refine awp_seq ?_)); (refine awp_regionE tabOk [] rfl ?_; intro J hJ; simp only []; simp []; (repeat (refine And.intro (by first | omega | assumption | (simp only [maxLen]; omega) | decide) ?_)); (try (first | (refine hJ _ _ ?_; clear hJ J; simp only [ak, reduceIte]) | (with_reducible refine ⟨?_, ?_⟩ <;> (first | (refine hJ _ _ ?_; clear hJ J; simp only [ak, reduceIte]) | (with_reducible intro hnil; refine hJ _ _ ?_; clear hJ J; simp only [ak, reduceIte]; (try subst hnil)))))))
  (repeat (refine awp_seq ?_)); (refine awp_drawS tabOk [] [p] [(0, true), (1, true), (2, true), (3, true), (4, true), (5, true), (6, true), (7, true), (8, true), (9, false)] (by kernel_rfl) rfl (by kernel_rfl) ?_; intro J hJ; simp [hp]; (repeat (refine And.intro (by first | omega | assumption | (simp only [maxLen]; omega) | decide) ?_)); (try (first | (refine hJ _ _ ?_; clear hJ J; simp only [ak, reduceIte]) | (with_reducible refine ⟨?_, ?_⟩ <;> (first | (refine hJ _ _ ?_; clear hJ J; simp only [ak, reduceIte]) | (with_reducible intro hnil; refine hJ _ _ ?_; clear hJ J; simp only [ak, reduceIte]; (try subst hnil)))))))
  generalize gxor _ _ _ = s1
  (repeat (refine awp_seq ?_)); (refine awp_drawS tabOk [] [p] [(0, true), (1, true), (2, true), (3, true), (4, true), (5, true), (6, true), (7, true), (8, true), (9, false)] (by kernel_rfl) rfl (by kernel_rfl) ?_; intro J hJ; simp [hp]; (repeat (refine And.intro (by first | omega | assumption | (simp only [maxLen]; omega) | decide) ?_)); (try (first | (refine hJ _ _ ?_; clear hJ J; simp only [ak, reduceIte]) | (with_reducible refine ⟨?_, ?_⟩ <;> (first | (refine hJ _ _ ?_; clear hJ J; simp only [ak, reduceIte]) | (with_reducible intro hnil; refine hJ _ _ ?_; clear hJ J; simp only [ak, reduceIte]; (try subst hnil)))))))
  generalize gxor _ _ _ = s2
  (repeat (refine awp_seq ?_)); (refine awp_drawS tabOk [] [p] [(0, true), (1, true), (2, true), (3, true), (4, true), (5, true), (6, true), (7, true), (8, true), (9, false)] (by kernel_rfl) rfl (by kernel_rfl) ?_; intro J hJ; simp [hp]; (repeat (refine And.intro (by first | omega | assumption | (simp only [maxLen]; omega) | decide) ?_)); (try (first | (refine hJ _ _ ?_; clear hJ J; simp only [ak, reduceIte]) | (with_reducible refine ⟨?_, ?_⟩ <;> (first | (refine hJ _ _ ?_; clear hJ J; simp only [ak, reduceIte]) | (with_reducible intro hnil; refine hJ _ _ ?_; clear hJ J; simp only [ak, reduceIte]; (try subst hnil)))))))
  generalize gxor _ _ _ = s3
  (repeat' (first | (refine awp_seq ?_) | (refine awp_block ?_) | (refine awp_skip ?_; simp only [ak, reduceIte]) | (refine awp_exit ?_; simp only [ak, reduceIte]) | (refine awp_ret ?_; simp only [ak, reduceIte]; simp []) | (refine awp_cond ?_; simp []; (try (with_reducible refine ⟨?_, ?_⟩)) <;> (try (with_reducible intro hc)) <;> (try (exfalso; omega))) | (refine awp_regionE tabOk [] rfl ?_; intro J hJ; simp only []; simp []; (repeat (refine And.intro (by first | omega | assumption | (simp only [maxLen]; omega) | decide) ?_)); (try (first | (refine hJ _ _ ?_; clear hJ J; simp only [ak, reduceIte]) | (with_reducible refine ⟨?_, ?_⟩ <;> (first | (refine hJ _ _ ?_; clear hJ J; simp only [ak, reduceIte]) | (with_reducible intro hnil; refine hJ _ _ ?_; clear hJ J; simp only [ak, reduceIte]; (try subst hnil))))))) | (refine awp_drawQ tabOk (by kernel_rfl) (by kernel_rfl) rfl rfl ?_; intro J hJ; simp []; (repeat (refine And.intro (by first | omega | assumption | (simp only [maxLen]; omega) | decide) ?_)); (try (first | (refine hJ _ _ ?_; clear hJ J; simp only [ak, reduceIte]) | (with_reducible refine ⟨?_, ?_⟩ <;> (first | (refine hJ _ _ ?_; clear hJ J; simp only [ak, reduceIte]) | (with_reducible intro hnil; refine hJ _ _ ?_; clear hJ J; simp only [ak, reduceIte]; (try subst hnil))))))) | (refine e_go ?_; simp []; (repeat (refine And.intro (by first | omega | assumption | (simp only [maxLen]; omega) | decide) ?_)); (try (first | (refine hJ _ _ ?_; clear hJ J; simp only [ak, reduceIte]) | (with_reducible refine ⟨?_, ?_⟩ <;> (first | (refine hJ _ _ ?_; clear hJ J; simp only [ak, reduceIte]) | (with_reducible intro hnil; refine hJ _ _ ?_; clear hJ J; simp only [ak, reduceIte]; (try subst hnil)))))))))
  rw [St.set_set, St.set_set]

theorem gand_lt (s : Int) (m : Nat) (h0 : 0 < m) (hm : m ≤ 131072) : ∃ o : Nat, o < m ∧ gand .u64 s (((m - 1 : Nat)) : Int) = (o : Int) := by
  unfold gand
  generalize hx : BitVec.ofInt IntKind.u64.bits s = x
  have h1 : (BitVec.ofInt IntKind.u64.bits ((m - 1 : Nat) : Int)).toNat = m - 1 := by
    rw [BitVec.ofInt_natCast, BitVec.toNat_ofNat]
    show (m - 1) % 2 ^ 64 = m - 1
    exact Nat.mod_eq_of_lt (by omega)
  refine ⟨(x &&& BitVec.ofInt IntKind.u64.bits ((m - 1 : Nat) : Int)).toNat, ?_, ?_⟩
  · have h2 : (x &&& BitVec.ofInt IntKind.u64.bits ((m - 1 : Nat) : Int)).toNat ≤ (BitVec.ofInt IntKind.u64.bits ((m - 1 : Nat) : Int)).toNat := by
      rw [BitVec.toNat_and]; exact Nat.and_le_right
    omega
  · have h2 : (x &&& BitVec.ofInt IntKind.u64.bits ((m - 1 : Nat) : Int)).toNat ≤ (BitVec.ofInt IntKind.u64.bits ((m - 1 : Nat) : Int)).toNat := by
      rw [BitVec.toNat_and]; exact Nat.and_le_right
    exact wrap_u64 _ (by omega) (by omega)

/-- All but one place is as it was. -/
def OffS (q : Nat) (st st' : St) : Prop := st.next ≤ st'.next ∧ ∀ l, l ≠ q → l < st.next → st'.H l = st.H l
theorem OffS.refl (q : Nat) (st : St) : OffS q st st := ⟨Nat.le_refl _, fun _ _ _ => rfl⟩
theorem OffS.trans {q : Nat} {a b c : St} (h : OffS q a b) (k : OffS q b c) : OffS q a c := ⟨Nat.le_trans h.1 k.1, fun l hl hn => (k.2 l hl (Nat.lt_of_lt_of_le hn h.1)).trans (h.2 l hl hn)⟩
theorem OffS.keeps {q : Nat} {a b c : St} (h : OffS q a b) (k : Keeps b c) : OffS q a c := ⟨Nat.le_trans h.1 k.next, fun l hl hn => (k.H l (Nat.lt_of_lt_of_le hn h.1)).trans (h.2 l hl hn)⟩
theorem OffS.set {q : Nat} {a b : St} (h : OffS q a b) (o : LObj) : OffS q a (b.set q o) := ⟨h.1, fun l hl hn => by rw [set_H, if_neg hl]; exact h.2 l hl hn⟩
theorem OffS.set' {q p : Nat} {a b : St} (h : OffS q a b) (hp : a.next ≤ p) (o : LObj) : OffS q a (b.set p o) := ⟨h.1, fun l hl hn => by rw [set_H, if_neg (by omega)]; exact h.2 l hl hn⟩

def BrkI (q p a b n m k : Nat) (l : List Int) (st : St) (fr : Frm) (st2 : St) : Prop := fr 0 = .ms q 0 l.length ∧ fr 1 = i a ∧ fr 6 = i n ∧ fr 7 = .pt p 0 ∧ fr 8 = uw m ∧ fr 9 = i k ∧ p < st2.next ∧ OffS q st st2 ∧ (∃ s, st2.H p = .box 148 1 [uw s]) ∧ ∃ c, st2.H q = .box 22 1 (us c) ∧ Pm a b l c
def BrkJ (q p a b n m k : Nat) (l : List Int) (st : St) (fr : Frm) (st2 : St) : Prop := BrkI q p a b n m k l st fr st2 ∧ ∃ o : Nat, o < n ∧ fr 10 = i o

set_option maxHeartbeats 1000000 in
theorem breakPatterns (l : List Int) (q a b : Nat) (st : St) (hl : l.length < 65536) (hab : a + 8 ≤ b) (hb : b ≤ l.length) (hqn : q < st.next) (hH : st.H q = .box 22 1 (us l)) :
    ACalls Try.prog 122 [.ms q 0 l.length, i a, i b] st fun r st' => ∃ c, st'.H q = .box 22 1 (us c) ∧ Pm a b l c ∧ OffS q st st' := by
  obtain ⟨n, hn⟩ : ∃ n : Nat, n = b - a := ⟨_, rfl⟩
  obtain ⟨n4, hn4⟩ : ∃ m : Nat, m = n / 4 := ⟨_, rfl⟩
  obtain ⟨k0, hk0⟩ : ∃ m : Nat, m = a + n4 * 2 := ⟨_, rfl⟩
  have w1 : IntKind.i64.wrap ((b : Int) - (a : Int)) = (n : Int) := by rw [wrap_i64 _ (by omega) (by omega)]; omega
  have w2 : IntKind.i64.wrap ((n : Int) / 4) = (n4 : Int) := by
    rw [show (n : Int) / 4 = ((n / 4 : Nat) : Int) from rfl, ← hn4]
    exact wrap_i64 _ (by omega) (by omega)
  have w4 : IntKind.i64.wrap ((n4 : Int) * 2) = ((n4 * 2 : Nat) : Int) := by rw [wrap_i64 _ (by omega) (by omega)]; omega
  have w7 : IntKind.i64.wrap ((a : Int) + ((n4 * 2 : Nat) : Int)) = (k0 : Int) := by rw [wrap_i64 _ (by omega) (by omega)]; omega
  have w8 := nat_sub_one k0 (by omega) (by omega)
  obtain ⟨k1, hk1⟩ : ∃ m : Nat, m = k0 + 1 := ⟨_, rfl⟩
  have w9 : IntKind.i64.wrap ((k0 : Int) + 1) = (k1 : Int) := by rw [nat_add_one k0 (by omega), hk1]
  have w10 : IntKind.u64.wrap (n : Int) = (n : Int) := wrap_u64 _ (by omega) (by omega)
  have h8 : (8 : Int) ≤ (n : Int) := by omega
  have hbl := (blen_at n (by omega)).2 (by omega)
  obtain ⟨m, hm⟩ : ∃ m : Nat, m = 2 ^ blen n := ⟨_, rfl⟩
  rw [← hm] at hbl
  have w11 : IntKind.u64.wrap ((m : Int) - 1) = ((m - 1 : Nat) : Int) := by rw [wrap_u64 _ (by omega) (by omega)]; omega
  generalize ((n4 * 2 : Nat) : Int) = e2 at *
  refine acalls_of_body tabOk Try.func122 rfl rfl Try.ntmps122 (rs := []) rfl (by simp) ?_
  (repeat' (first | (refine awp_seq ?_) | (refine awp_block ?_) | (refine awp_skip ?_; simp only [ak, reduceIte]) | (refine awp_exit ?_; simp only [ak, reduceIte]) | (refine awp_ret ?_; simp only [ak, reduceIte]; simp [w1]) | (refine awp_regionE tabOk [] rfl ?_; intro J hJ; simp only []; simp [w1]; (repeat (refine And.intro (by first | omega | assumption | (simp only [maxLen]; omega) | decide) ?_)); (try (first | (refine hJ _ _ ?_; clear hJ J; simp only [ak, reduceIte]) | (with_reducible refine ⟨?_, ?_⟩ <;> (first | (refine hJ _ _ ?_; clear hJ J; simp only [ak, reduceIte]) | (with_reducible intro hnil; refine hJ _ _ ?_; clear hJ J; simp only [ak, reduceIte]; (try subst hnil))))))) | (refine awp_drawQ tabOk (by kernel_rfl) (by kernel_rfl) rfl rfl ?_; intro J hJ; simp [w1]; (repeat (refine And.intro (by first | omega | assumption | (simp only [maxLen]; omega) | decide) ?_)); (try (first | (refine hJ _ _ ?_; clear hJ J; simp only [ak, reduceIte]) | (with_reducible refine ⟨?_, ?_⟩ <;> (first | (refine hJ _ _ ?_; clear hJ J; simp only [ak, reduceIte]) | (with_reducible intro hnil; refine hJ _ _ ?_; clear hJ J; simp only [ak, reduceIte]; (try subst hnil))))))) | (refine e_go ?_; simp [w1]; (repeat (refine And.intro (by first | omega | assumption | (simp only [maxLen]; omega) | decide) ?_)); (try (first | (refine hJ _ _ ?_; clear hJ J; simp only [ak, reduceIte]) | (with_reducible refine ⟨?_, ?_⟩ <;> (first | (refine hJ _ _ ?_; clear hJ J; simp only [ak, reduceIte]) | (with_reducible intro hnil; refine hJ _ _ ?_; clear hJ J; simp only [ak, reduceIte]; (try subst hnil)))))))))
  refine awp_cond ?_; simp [h8]
  (repeat' (first | (refine awp_seq ?_) | (refine awp_block ?_) | (refine awp_skip ?_; simp only [ak, reduceIte]) | (refine awp_exit ?_; simp only [ak, reduceIte]) | (refine awp_ret ?_; simp only [ak, reduceIte]; simp [w10, w1]) | (refine awp_regionE tabOk [] rfl ?_; intro J hJ; simp only []; simp [w10, w1]; (repeat (refine And.intro (by first | omega | assumption | (simp only [maxLen]; omega) | decide) ?_)); (try (first | (refine hJ _ _ ?_; clear hJ J; simp only [ak, reduceIte]) | (with_reducible refine ⟨?_, ?_⟩ <;> (first | (refine hJ _ _ ?_; clear hJ J; simp only [ak, reduceIte]) | (with_reducible intro hnil; refine hJ _ _ ?_; clear hJ J; simp only [ak, reduceIte]; (try subst hnil))))))) | (refine awp_drawQ tabOk (by kernel_rfl) (by kernel_rfl) rfl rfl ?_; intro J hJ; simp [w10, w1]; (repeat (refine And.intro (by first | omega | assumption | (simp only [maxLen]; omega) | decide) ?_)); (try (first | (refine hJ _ _ ?_; clear hJ J; simp only [ak, reduceIte]) | (with_reducible refine ⟨?_, ?_⟩ <;> (first | (refine hJ _ _ ?_; clear hJ J; simp only [ak, reduceIte]) | (with_reducible intro hnil; refine hJ _ _ ?_; clear hJ J; simp only [ak, reduceIte]; (try subst hnil))))))) | (refine e_go ?_; simp [w10, w1]; (repeat (refine And.intro (by first | omega | assumption | (simp only [maxLen]; omega) | decide) ?_)); (try (first | (refine hJ _ _ ?_; clear hJ J; simp only [ak, reduceIte]) | (with_reducible refine ⟨?_, ?_⟩ <;> (first | (refine hJ _ _ ?_; clear hJ J; simp only [ak, reduceIte]) | (with_reducible intro hnil; refine hJ _ _ ?_; clear hJ J; simp only [ak, reduceIte]; (try subst hnil)))))))))
  refine callK_of (nextPowerOfTwo n _ (by omega)) ?_; rintro r st' ⟨rfl, rfl⟩
  rw [← hm]
  (repeat' (first | (refine awp_seq ?_) | (refine awp_block ?_) | (refine awp_skip ?_; simp only [ak, reduceIte]) | (refine awp_exit ?_; simp only [ak, reduceIte]) | (refine awp_ret ?_; simp only [ak, reduceIte]; simp [w2, w4, w7, w8]) | (refine awp_regionE tabOk [] rfl ?_; intro J hJ; simp only []; simp [w2, w4, w7, w8]; (repeat (refine And.intro (by first | omega | assumption | (simp only [maxLen]; omega) | decide) ?_)); (try (first | (refine hJ _ _ ?_; clear hJ J; simp only [ak, reduceIte]) | (with_reducible refine ⟨?_, ?_⟩ <;> (first | (refine hJ _ _ ?_; clear hJ J; simp only [ak, reduceIte]) | (with_reducible intro hnil; refine hJ _ _ ?_; clear hJ J; simp only [ak, reduceIte]; (try subst hnil))))))) | (refine awp_drawQ tabOk (by kernel_rfl) (by kernel_rfl) rfl rfl ?_; intro J hJ; simp [w2, w4, w7, w8]; (repeat (refine And.intro (by first | omega | assumption | (simp only [maxLen]; omega) | decide) ?_)); (try (first | (refine hJ _ _ ?_; clear hJ J; simp only [ak, reduceIte]) | (with_reducible refine ⟨?_, ?_⟩ <;> (first | (refine hJ _ _ ?_; clear hJ J; simp only [ak, reduceIte]) | (with_reducible intro hnil; refine hJ _ _ ?_; clear hJ J; simp only [ak, reduceIte]; (try subst hnil))))))) | (refine e_go ?_; simp [w2, w4, w7, w8]; (repeat (refine And.intro (by first | omega | assumption | (simp only [maxLen]; omega) | decide) ?_)); (try (first | (refine hJ _ _ ?_; clear hJ J; simp only [ak, reduceIte]) | (with_reducible refine ⟨?_, ?_⟩ <;> (first | (refine hJ _ _ ?_; clear hJ J; simp only [ak, reduceIte]) | (with_reducible intro hnil; refine hJ _ _ ?_; clear hJ J; simp only [ak, reduceIte]; (try subst hnil)))))))))
  refine awp_loop (fun z fr st2 => ∃ k : Nat, k0 ≤ k + 1 ∧ k ≤ k0 + 2 ∧ z = k0 + 2 - k ∧ BrkI q st.next a b n m k l st fr st2) 3 ?_ ?_
  · refine ⟨k0 - 1, by omega, by omega, by omega, ?_⟩
    unfold BrkI
    have hne : ¬ q = st.next := by omega
    refine ⟨by simp, by simp, by simp, by simp, by simp, by simp, by simp, ?_, ⟨n, by simp⟩, l, by simp [hne, hH], .refl⟩
    exact ((OffS.refl q st).keeps (Keeps.new _ _)).set' (Nat.le_refl _) _
  rintro z fr st2 ⟨k, hkl, hku, rfl, f0, f1, f6, f7, f8, f9, hpn, hof, ⟨s, hs⟩, c, hcq, hpm⟩ JJ hJJ
  have hcl := hpm.len
  by_cases hlt : (k : Int) ≤ (k1 : Int)
  rotate_left
  · clear hJJ
    (repeat' (first | (refine awp_seq ?_) | (refine awp_block ?_) | (refine awp_skip ?_; simp only [ak, reduceIte]) | (refine awp_exit ?_; simp only [ak, reduceIte]) | (refine awp_ret ?_; simp only [ak, reduceIte]; simp [f1, f6, f9, w2, w4, w7, w9, hlt]) | (refine awp_cond ?_; simp [f1, f6, f9, w2, w4, w7, w9, hlt]; (try (with_reducible refine ⟨?_, ?_⟩)) <;> (try (with_reducible intro hc)) <;> (try (exfalso; omega))) | (refine awp_regionE tabOk [] rfl ?_; intro J hJ; simp only []; simp [f1, f6, f9, w2, w4, w7, w9, hlt]; (repeat (refine And.intro (by first | omega | assumption | (simp only [maxLen]; omega) | decide) ?_)); (try (first | (refine hJ _ _ ?_; clear hJ J; simp only [ak, reduceIte]) | (with_reducible refine ⟨?_, ?_⟩ <;> (first | (refine hJ _ _ ?_; clear hJ J; simp only [ak, reduceIte]) | (with_reducible intro hnil; refine hJ _ _ ?_; clear hJ J; simp only [ak, reduceIte]; (try subst hnil))))))) | (refine awp_drawQ tabOk (by kernel_rfl) (by kernel_rfl) rfl rfl ?_; intro J hJ; simp [f1, f6, f9, w2, w4, w7, w9, hlt]; (repeat (refine And.intro (by first | omega | assumption | (simp only [maxLen]; omega) | decide) ?_)); (try (first | (refine hJ _ _ ?_; clear hJ J; simp only [ak, reduceIte]) | (with_reducible refine ⟨?_, ?_⟩ <;> (first | (refine hJ _ _ ?_; clear hJ J; simp only [ak, reduceIte]) | (with_reducible intro hnil; refine hJ _ _ ?_; clear hJ J; simp only [ak, reduceIte]; (try subst hnil))))))) | (refine e_go ?_; simp [f1, f6, f9, w2, w4, w7, w9, hlt]; (repeat (refine And.intro (by first | omega | assumption | (simp only [maxLen]; omega) | decide) ?_)); (try (first | (refine hJ _ _ ?_; clear hJ J; simp only [ak, reduceIte]) | (with_reducible refine ⟨?_, ?_⟩ <;> (first | (refine hJ _ _ ?_; clear hJ J; simp only [ak, reduceIte]) | (with_reducible intro hnil; refine hJ _ _ ?_; clear hJ J; simp only [ak, reduceIte]; (try subst hnil)))))))))
    exact ⟨trivial, c, hcq, hpm, hof⟩
  (repeat (refine awp_seq ?_)); (refine awp_regionE tabOk [] rfl ?_; intro J hJ; simp only []; simp [f1, f6, f9, w2, w4, w7, w9, hlt]; (repeat (refine And.intro (by first | omega | assumption | (simp only [maxLen]; omega) | decide) ?_)); (try (first | (refine hJ _ _ ?_; clear hJ J; simp only [ak, reduceIte]) | (with_reducible refine ⟨?_, ?_⟩ <;> (first | (refine hJ _ _ ?_; clear hJ J; simp only [ak, reduceIte]) | (with_reducible intro hnil; refine hJ _ _ ?_; clear hJ J; simp only [ak, reduceIte]; (try subst hnil)))))))
  refine awp_cond ?_; simp [hlt]
  refine awp_skip ?_; simp only [ak, reduceIte]
  refine awp_seq ?_
  refine awp_block ?_
  refine awp_seq ?_
  (refine awp_regionE tabOk [] rfl ?_; intro J hJ; simp only []; simp [f7]; (repeat (refine And.intro (by first | omega | assumption | (simp only [maxLen]; omega) | decide) ?_)); (try (first | (refine hJ _ _ ?_; clear hJ J; simp only [ak, reduceIte]) | (with_reducible refine ⟨?_, ?_⟩ <;> (first | (refine hJ _ _ ?_; clear hJ J; simp only [ak, reduceIte]) | (with_reducible intro hnil; refine hJ _ _ ?_; clear hJ J; simp only [ak, reduceIte]; (try subst hnil)))))))
  refine callK_of (Next st.next s _ hs) ?_; rintro r st' ⟨s1, rfl, rfl⟩
  obtain ⟨o, ho, hgo⟩ := gand_lt s1 m (by omega) (by omega)
  have w12 : IntKind.i64.wrap (o : Int) = (o : Int) := wrap_i64 _ (by omega) (by omega)
  (refine e_go ?_; simp [f8, w11, hgo, w12]; (repeat (refine And.intro (by first | omega | assumption | (simp only [maxLen]; omega) | decide) ?_)); (try (first | (refine hJ _ _ ?_; clear hJ J; simp only [ak, reduceIte]) | (with_reducible refine ⟨?_, ?_⟩ <;> (first | (refine hJ _ _ ?_; clear hJ J; simp only [ak, reduceIte]) | (with_reducible intro hnil; refine hJ _ _ ?_; clear hJ J; simp only [ak, reduceIte]; (try subst hnil)))))))
  refine awp_seq ?_
  refine awp_cut1 (BrkJ q st.next a b n m k l st) ?_ ?_
  · have hqne : ¬ q = st.next := by omega
    have hI : ∀ fr2 : Frm, fr2 0 = fr 0 → fr2 1 = fr 1 → fr2 6 = fr 6 → fr2 7 = fr 7 → fr2 8 = fr 8 → fr2 9 = fr 9 → BrkI q st.next a b n m k l st fr2 (xx st2 st.next s1) := by
      intro fr2 g0 g1 g6 g7 g8 g9
      exact ⟨by rw [g0, f0], by rw [g1, f1], by rw [g6, f6], by rw [g7, f7], by rw [g8, f8], by rw [g9, f9], by simpa using hpn, hof.set' (Nat.le_refl _) _, ⟨s1, by simp⟩, c, by simp [hqne, hcq], hpm⟩
    by_cases hge : (n : Int) ≤ (o : Int)
    · have w13 : IntKind.i64.wrap ((o : Int) - (n : Int)) = ((o - n : Nat) : Int) := by rw [wrap_i64 _ (by omega) (by omega)]; omega
      (repeat' (first | (refine awp_seq ?_) | (refine awp_block ?_) | (refine awp_skip ?_; simp only [ak, reduceIte]) | (refine awp_exit ?_; simp only [ak, reduceIte]) | (refine awp_ret ?_; simp only [ak, reduceIte]; simp [f6, hge, w13]) | (refine awp_cond ?_; simp [f6, hge, w13]; (try (with_reducible refine ⟨?_, ?_⟩)) <;> (try (with_reducible intro hc)) <;> (try (exfalso; omega))) | (refine awp_regionE tabOk [] rfl ?_; intro J hJ; simp only []; simp [f6, hge, w13]; (repeat (refine And.intro (by first | omega | assumption | (simp only [maxLen]; omega) | decide) ?_)); (try (first | (refine hJ _ _ ?_; clear hJ J; simp only [ak, reduceIte]) | (with_reducible refine ⟨?_, ?_⟩ <;> (first | (refine hJ _ _ ?_; clear hJ J; simp only [ak, reduceIte]) | (with_reducible intro hnil; refine hJ _ _ ?_; clear hJ J; simp only [ak, reduceIte]; (try subst hnil))))))) | (refine awp_drawQ tabOk (by kernel_rfl) (by kernel_rfl) rfl rfl ?_; intro J hJ; simp [f6, hge, w13]; (repeat (refine And.intro (by first | omega | assumption | (simp only [maxLen]; omega) | decide) ?_)); (try (first | (refine hJ _ _ ?_; clear hJ J; simp only [ak, reduceIte]) | (with_reducible refine ⟨?_, ?_⟩ <;> (first | (refine hJ _ _ ?_; clear hJ J; simp only [ak, reduceIte]) | (with_reducible intro hnil; refine hJ _ _ ?_; clear hJ J; simp only [ak, reduceIte]; (try subst hnil))))))) | (refine e_go ?_; simp [f6, hge, w13]; (repeat (refine And.intro (by first | omega | assumption | (simp only [maxLen]; omega) | decide) ?_)); (try (first | (refine hJ _ _ ?_; clear hJ J; simp only [ak, reduceIte]) | (with_reducible refine ⟨?_, ?_⟩ <;> (first | (refine hJ _ _ ?_; clear hJ J; simp only [ak, reduceIte]) | (with_reducible intro hnil; refine hJ _ _ ?_; clear hJ J; simp only [ak, reduceIte]; (try subst hnil)))))))))
      refine ⟨by trivial, ?_⟩
      exact ⟨hI _ (by simp) (by simp) (by simp) (by simp) (by simp) (by simp), o - n, by omega, by simp⟩
    · (repeat' (first | (refine awp_seq ?_) | (refine awp_block ?_) | (refine awp_skip ?_; simp only [ak, reduceIte]) | (refine awp_exit ?_; simp only [ak, reduceIte]) | (refine awp_ret ?_; simp only [ak, reduceIte]; simp [f6, hge]) | (refine awp_cond ?_; simp [f6, hge]; (try (with_reducible refine ⟨?_, ?_⟩)) <;> (try (with_reducible intro hc)) <;> (try (exfalso; omega))) | (refine awp_regionE tabOk [] rfl ?_; intro J hJ; simp only []; simp [f6, hge]; (repeat (refine And.intro (by first | omega | assumption | (simp only [maxLen]; omega) | decide) ?_)); (try (first | (refine hJ _ _ ?_; clear hJ J; simp only [ak, reduceIte]) | (with_reducible refine ⟨?_, ?_⟩ <;> (first | (refine hJ _ _ ?_; clear hJ J; simp only [ak, reduceIte]) | (with_reducible intro hnil; refine hJ _ _ ?_; clear hJ J; simp only [ak, reduceIte]; (try subst hnil))))))) | (refine awp_drawQ tabOk (by kernel_rfl) (by kernel_rfl) rfl rfl ?_; intro J hJ; simp [f6, hge]; (repeat (refine And.intro (by first | omega | assumption | (simp only [maxLen]; omega) | decide) ?_)); (try (first | (refine hJ _ _ ?_; clear hJ J; simp only [ak, reduceIte]) | (with_reducible refine ⟨?_, ?_⟩ <;> (first | (refine hJ _ _ ?_; clear hJ J; simp only [ak, reduceIte]) | (with_reducible intro hnil; refine hJ _ _ ?_; clear hJ J; simp only [ak, reduceIte]; (try subst hnil))))))) | (refine e_go ?_; simp [f6, hge]; (repeat (refine And.intro (by first | omega | assumption | (simp only [maxLen]; omega) | decide) ?_)); (try (first | (refine hJ _ _ ?_; clear hJ J; simp only [ak, reduceIte]) | (with_reducible refine ⟨?_, ?_⟩ <;> (first | (refine hJ _ _ ?_; clear hJ J; simp only [ak, reduceIte]) | (with_reducible intro hnil; refine hJ _ _ ?_; clear hJ J; simp only [ak, reduceIte]; (try subst hnil)))))))))
      refine ⟨by trivial, ?_⟩
      exact ⟨hI _ (by simp) (by simp) (by simp) (by simp) (by simp) (by simp), o, by omega, by simp⟩
  clear f0 f1 f6 f7 f8 f9 hpn hof hs hcq hpm hcl hgo w12 ho o s s1 c st2 fr
  rintro fr st2 ⟨⟨f0, f1, f6, f7, f8, f9, hpn, hof, ⟨s, hs⟩, c, hcq, hpm⟩, o, ho, f10⟩
  have hcl := hpm.len
  obtain ⟨x, hx⟩ : ∃ x : Nat, x = a + o := ⟨_, rfl⟩
  have w12 : IntKind.i64.wrap ((a : Int) + (o : Int)) = (x : Int) := by rw [wrap_i64 _ (by omega) (by omega)]; omega
  have w13 := nat_add_one k (by omega)
  have hd1 := us_drop_getD c k (by omega)
  have hd2 := us_drop_getD c x (by omega)
  have hl3 : k < l.length := by omega
  have hl4 : x < l.length := by omega
  have hsw := fun v y => bx_sw' st2 q c k x (x := v) (y := y) (by omega) (by omega)
  have hpm2 := hpm.step k x (by omega) (by omega) (by omega) (by omega) (by omega)
  generalize hv : c.getD k 0 = v at *
  generalize hy : c.getD x 0 = y at *
  have hsw' := hsw v y rfl rfl
  (refine awp_drawS tabOk [] [q] [(0, true), (1, true), (2, true), (3, true), (4, true), (5, true), (6, true), (7, true), (8, true), (9, true), (10, true), (11, true), (12, true), (13, true), (14, true), (15, true), (16, true), (17, false), (18, true), (19, false)] (by kernel_rfl) rfl (by kernel_rfl) ?_; intro J hJ; simp [f0, f1, f9, f10, w12, hl3, hl4, hcl, hcq, hd1, hd2]; (repeat (refine And.intro (by first | omega | assumption | (simp only [maxLen]; omega) | decide) ?_)); (try (first | (refine hJ _ _ ?_; clear hJ J; simp only [ak, reduceIte]) | (with_reducible refine ⟨?_, ?_⟩ <;> (first | (refine hJ _ _ ?_; clear hJ J; simp only [ak, reduceIte]) | (with_reducible intro hnil; refine hJ _ _ ?_; clear hJ J; simp only [ak, reduceIte]; (try subst hnil)))))))
  (repeat' (first | (refine awp_seq ?_) | (refine awp_block ?_) | (refine awp_skip ?_; simp only [ak, reduceIte]) | (refine awp_exit ?_; simp only [ak, reduceIte]) | (refine awp_ret ?_; simp only [ak, reduceIte]; simp [f9, w13]) | (refine awp_cond ?_; simp [f9, w13]; (try (with_reducible refine ⟨?_, ?_⟩)) <;> (try (with_reducible intro hc)) <;> (try (exfalso; omega))) | (refine awp_regionE tabOk [] rfl ?_; intro J hJ; simp only []; simp [f9, w13]; (repeat (refine And.intro (by first | omega | assumption | (simp only [maxLen]; omega) | decide) ?_)); (try (first | (refine hJ _ _ ?_; clear hJ J; simp only [ak, reduceIte]) | (with_reducible refine ⟨?_, ?_⟩ <;> (first | (refine hJ _ _ ?_; clear hJ J; simp only [ak, reduceIte]) | (with_reducible intro hnil; refine hJ _ _ ?_; clear hJ J; simp only [ak, reduceIte]; (try subst hnil))))))) | (refine awp_drawQ tabOk (by kernel_rfl) (by kernel_rfl) rfl rfl ?_; intro J hJ; simp [f9, w13]; (repeat (refine And.intro (by first | omega | assumption | (simp only [maxLen]; omega) | decide) ?_)); (try (first | (refine hJ _ _ ?_; clear hJ J; simp only [ak, reduceIte]) | (with_reducible refine ⟨?_, ?_⟩ <;> (first | (refine hJ _ _ ?_; clear hJ J; simp only [ak, reduceIte]) | (with_reducible intro hnil; refine hJ _ _ ?_; clear hJ J; simp only [ak, reduceIte]; (try subst hnil))))))) | (refine e_go ?_; simp [f9, w13]; (repeat (refine And.intro (by first | omega | assumption | (simp only [maxLen]; omega) | decide) ?_)); (try (first | (refine hJ _ _ ?_; clear hJ J; simp only [ak, reduceIte]) | (with_reducible refine ⟨?_, ?_⟩ <;> (first | (refine hJ _ _ ?_; clear hJ J; simp only [ak, reduceIte]) | (with_reducible intro hnil; refine hJ _ _ ?_; clear hJ J; simp only [ak, reduceIte]; (try subst hnil)))))))))
  have hqne : ¬ st.next = q := by omega
  rw [hsw']
  exact hJJ (k0 + 2 - (k + 1)) _ _ (by omega) ⟨k + 1, by omega, by omega, rfl, by simp [f0], by simp [f1], by simp [f6], by simp [f7], by simp [f8], by simp, by simpa using hpn, hof.set _, ⟨s, by simp [hqne, hs]⟩, _, by simp, hpm2⟩

end Go.Proofs.Ytphdhggoaijfoaa.Aw
