/- Darts: Of, Edge, Twin. -/
import Derived.Test.YtphdhggoaijfoaaAwSet
import Derived.IntWalk
namespace Go.Proofs.Ytphdhggoaijfoaa.Aw
open Go Go.RowKit
set_option linter.unusedSimpArgs false
set_option linter.unusedVariables false

def tw (d : Int) : Int := if d % 2 = 0 then d + 1 else d - 1

theorem wrap_u32 (n : Int) : IntKind.u32.wrap n = n % 4294967296 := by simp [IntKind.wrap, IntKind.signed, IntKind.bits]
theorem wrap_i64 (n : Int) (h1 : -9223372036854775808 ≤ n) (h2 : n ≤ 9223372036854775807) : IntKind.i64.wrap n = n := by
  simp only [IntKind.wrap, IntKind.signed, IntKind.bits]
  simp
  split <;> omega

theorem xor_one (n : Nat) : n ^^^ 1 = if n % 2 = 0 then n + 1 else n - 1 := by
  have h : ∀ a b : Nat, (∀ j, a.testBit j = b.testBit j) → a = b := fun a b h => Nat.eq_of_testBit_eq h
  split
  · apply h; intro j
    cases j with
    | zero => simp; omega
    | succ j => rw [Nat.testBit_xor]; simp [Nat.testBit_succ]; congr 1; omega
  · apply h; intro j
    cases j with
    | zero => simp; omega
    | succ j => rw [Nat.testBit_xor]; simp [Nat.testBit_succ]; congr 1; omega

theorem twin_bits (d : Int) (h0 : 0 ≤ d) (h1 : d < 4294967296) : gxor .u32 d 1 = tw d := by
  unfold gxor IntKind.bits
  obtain ⟨n, rfl⟩ := Int.eq_ofNat_of_zero_le h0
  have hn : n < 4294967296 := by omega
  rw [wrap_u32, BitVec.toNat_xor]
  have e1 : (BitVec.ofInt 32 (n : Int)).toNat = n := by rw [BitVec.ofInt_natCast, BitVec.toNat_ofNat]; exact Nat.mod_eq_of_lt (by omega)
  have e2 : (BitVec.ofInt 32 1).toNat = 1 := by decide
  rw [e1, e2, xor_one]
  unfold tw
  split <;> split <;> omega

theorem of_bits (a : Int) (e : Int) (h0 : 0 ≤ a) (h1 : a < 4294967296) (ha : a % 2 = 0) (he : e = 0 ∨ e = 1) : gor .u32 a e = a + e := by
  unfold gor IntKind.bits
  obtain ⟨n, rfl⟩ := Int.eq_ofNat_of_zero_le h0
  rw [wrap_u32, BitVec.toNat_or]
  have e1 : (BitVec.ofInt 32 (n : Int)).toNat = n := by rw [BitVec.ofInt_natCast, BitVec.toNat_ofNat]; exact Nat.mod_eq_of_lt (by omega)
  rw [e1]
  rcases he with rfl | rfl
  · simp; omega
  · have e2 : (BitVec.ofInt 32 1).toNat = 1 := by decide
    have : n ||| 1 = n + 1 := by
      apply Nat.eq_of_testBit_eq; intro j
      cases j with
      | zero => simp; omega
      | succ j => rw [Nat.testBit_or]; simp [Nat.testBit_succ]; congr 1; omega
    rw [e2, this]; omega

theorem and_one (e : Int) : gand .i64 e 1 = e % 2 := by
  show IntKind.i64.wrap ((BitVec.ofInt 64 e &&& BitVec.ofInt 64 1).toNat : Int) = _
  have e2 : (BitVec.ofInt 64 1).toNat = 1 := by decide
  rw [BitVec.toNat_and, e2, Nat.and_one_is_mod, wrap_i64 _ (by omega) (by omega), BitVec.toNat_ofInt]
  omega

theorem shl_one (a : Int) : gshl .u32 a 1 = a * 2 % 4294967296 := by
  unfold gshl; rw [wrap_u32]; rfl
theorem shr_one (a : Int) : gshr .u32 a 1 = a / 2 := by
  unfold gshr
  show a.fdiv 2 = a / 2
  rw [Int.fdiv_eq_ediv_of_nonneg _ (by decide)]

theorem Of (id e : Int) (st : St) :
    ACalls Try.prog 14 [u id, i e] st fun r st' => r = u (id * 2 % 4294967296 + e % 2) ∧ st' = st := by
  refine acalls_of_body tabOk Try.func14 rfl rfl Try.ntmps14 (rs := [.tmp 4]) rfl (by simp) ?_
  (repeat' (first | (refine awp_seq ?_) | (refine awp_block ?_) | (refine awp_skip ?_; simp only [ak, reduceIte]) | (refine awp_exit ?_; simp only [ak, reduceIte]) | (refine awp_ret ?_; simp only [ak, reduceIte]; simp []) | (refine awp_cond ?_; simp []; (try (with_reducible refine ⟨?_, ?_⟩)) <;> (try (with_reducible intro hc)) <;> (try (exfalso; omega))) | (refine awp_regionE tabOk [] rfl ?_; intro J hJ; simp only []; simp []; (repeat (refine And.intro (by first | omega | assumption | (simp only [maxLen]; omega) | decide) ?_)); (try (first | (refine hJ _ _ ?_; clear hJ J; simp only [ak, reduceIte]) | (with_reducible refine ⟨?_, ?_⟩ <;> (first | (refine hJ _ _ ?_; clear hJ J; simp only [ak, reduceIte]) | (with_reducible intro hnil; refine hJ _ _ ?_; clear hJ J; simp only [ak, reduceIte]; (try subst hnil))))))) | (refine awp_drawQ tabOk (by kernel_rfl) (by kernel_rfl) rfl rfl ?_; intro J hJ; simp []; (repeat (refine And.intro (by first | omega | assumption | (simp only [maxLen]; omega) | decide) ?_)); (try (first | (refine hJ _ _ ?_; clear hJ J; simp only [ak, reduceIte]) | (with_reducible refine ⟨?_, ?_⟩ <;> (first | (refine hJ _ _ ?_; clear hJ J; simp only [ak, reduceIte]) | (with_reducible intro hnil; refine hJ _ _ ?_; clear hJ J; simp only [ak, reduceIte]; (try subst hnil))))))) | (refine e_go ?_; simp []; (repeat (refine And.intro (by first | omega | assumption | (simp only [maxLen]; omega) | decide) ?_)); (try (first | (refine hJ _ _ ?_; clear hJ J; simp only [ak, reduceIte]) | (with_reducible refine ⟨?_, ?_⟩ <;> (first | (refine hJ _ _ ?_; clear hJ J; simp only [ak, reduceIte]) | (with_reducible intro hnil; refine hJ _ _ ?_; clear hJ J; simp only [ak, reduceIte]; (try subst hnil)))))))))
  rw [shl_one, and_one, wrap_u32, of_bits _ _ (by omega) (by omega) (by omega) (by omega)]
  omega

theorem Edge (d : Int) (st : St) : ACalls Try.prog 15 [u d] st fun r st' => r = u (d / 2) ∧ st' = st := by
  refine acalls_of_body tabOk Try.func15 rfl rfl Try.ntmps15 (rs := [.tmp 2]) rfl (by simp) ?_
  (repeat' (first | (refine awp_seq ?_) | (refine awp_block ?_) | (refine awp_skip ?_; simp only [ak, reduceIte]) | (refine awp_exit ?_; simp only [ak, reduceIte]) | (refine awp_ret ?_; simp only [ak, reduceIte]; simp [shr_one]) | (refine awp_cond ?_; simp [shr_one]; (try (with_reducible refine ⟨?_, ?_⟩)) <;> (try (with_reducible intro hc)) <;> (try (exfalso; omega))) | (refine awp_regionE tabOk [] rfl ?_; intro J hJ; simp only []; simp [shr_one]; (repeat (refine And.intro (by first | omega | assumption | (simp only [maxLen]; omega) | decide) ?_)); (try (first | (refine hJ _ _ ?_; clear hJ J; simp only [ak, reduceIte]) | (with_reducible refine ⟨?_, ?_⟩ <;> (first | (refine hJ _ _ ?_; clear hJ J; simp only [ak, reduceIte]) | (with_reducible intro hnil; refine hJ _ _ ?_; clear hJ J; simp only [ak, reduceIte]; (try subst hnil))))))) | (refine awp_drawQ tabOk (by kernel_rfl) (by kernel_rfl) rfl rfl ?_; intro J hJ; simp [shr_one]; (repeat (refine And.intro (by first | omega | assumption | (simp only [maxLen]; omega) | decide) ?_)); (try (first | (refine hJ _ _ ?_; clear hJ J; simp only [ak, reduceIte]) | (with_reducible refine ⟨?_, ?_⟩ <;> (first | (refine hJ _ _ ?_; clear hJ J; simp only [ak, reduceIte]) | (with_reducible intro hnil; refine hJ _ _ ?_; clear hJ J; simp only [ak, reduceIte]; (try subst hnil))))))) | (refine e_go ?_; simp [shr_one]; (repeat (refine And.intro (by first | omega | assumption | (simp only [maxLen]; omega) | decide) ?_)); (try (first | (refine hJ _ _ ?_; clear hJ J; simp only [ak, reduceIte]) | (with_reducible refine ⟨?_, ?_⟩ <;> (first | (refine hJ _ _ ?_; clear hJ J; simp only [ak, reduceIte]) | (with_reducible intro hnil; refine hJ _ _ ?_; clear hJ J; simp only [ak, reduceIte]; (try subst hnil)))))))))

theorem Twin (d : Int) (st : St) (h0 : 0 ≤ d) (h1 : d < 4294967296) : ACalls Try.prog 16 [u d] st fun r st' => r = u (tw d) ∧ st' = st := by
  refine acalls_of_body tabOk Try.func16 rfl rfl Try.ntmps16 (rs := [.tmp 2]) rfl (by simp) ?_
  (repeat' (first | (refine awp_seq ?_) | (refine awp_block ?_) | (refine awp_skip ?_; simp only [ak, reduceIte]) | (refine awp_exit ?_; simp only [ak, reduceIte]) | (refine awp_ret ?_; simp only [ak, reduceIte]; simp [twin_bits d h0 h1]) | (refine awp_cond ?_; simp [twin_bits d h0 h1]; (try (with_reducible refine ⟨?_, ?_⟩)) <;> (try (with_reducible intro hc)) <;> (try (exfalso; omega))) | (refine awp_regionE tabOk [] rfl ?_; intro J hJ; simp only []; simp [twin_bits d h0 h1]; (repeat (refine And.intro (by first | omega | assumption | (simp only [maxLen]; omega) | decide) ?_)); (try (first | (refine hJ _ _ ?_; clear hJ J; simp only [ak, reduceIte]) | (with_reducible refine ⟨?_, ?_⟩ <;> (first | (refine hJ _ _ ?_; clear hJ J; simp only [ak, reduceIte]) | (with_reducible intro hnil; refine hJ _ _ ?_; clear hJ J; simp only [ak, reduceIte]; (try subst hnil))))))) | (refine awp_drawQ tabOk (by kernel_rfl) (by kernel_rfl) rfl rfl ?_; intro J hJ; simp [twin_bits d h0 h1]; (repeat (refine And.intro (by first | omega | assumption | (simp only [maxLen]; omega) | decide) ?_)); (try (first | (refine hJ _ _ ?_; clear hJ J; simp only [ak, reduceIte]) | (with_reducible refine ⟨?_, ?_⟩ <;> (first | (refine hJ _ _ ?_; clear hJ J; simp only [ak, reduceIte]) | (with_reducible intro hnil; refine hJ _ _ ?_; clear hJ J; simp only [ak, reduceIte]; (try subst hnil))))))) | (refine e_go ?_; simp [twin_bits d h0 h1]; (repeat (refine And.intro (by first | omega | assumption | (simp only [maxLen]; omega) | decide) ?_)); (try (first | (refine hJ _ _ ?_; clear hJ J; simp only [ak, reduceIte]) | (with_reducible refine ⟨?_, ?_⟩ <;> (first | (refine hJ _ _ ?_; clear hJ J; simp only [ak, reduceIte]) | (with_reducible intro hnil; refine hJ _ _ ?_; clear hJ J; simp only [ak, reduceIte]; (try subst hnil)))))))))

end Go.Proofs.Ytphdhggoaijfoaa.Aw
