/- Darts: Of, Edge, Twin. Plain lists of numbers: places, least ones, turns. No program. Rows of numbers, read: Index, Find, Min, Same, Equal, Contains. slices.Values, AppendSeq: a range over a function, at rows of uint32. (After the kit's worked texts on slices.Values and on a loop that collects.) slices.Collect(slices.Values(s)) as a contract over logical values. What each chapter's example answers. Graphs: Has, Vert, number, Check. The law SketchMakes: the steps that are told. -/
import Derived.Test.YtaiakdhcajibnaaGreatAwSet
import Derived.IntWalk
import Derived.RangeFuncBox
import Derived.RangeFuncLeaves
import Derived.Shelf.Abstract
import Derived.WalkKit
import Derived.OwnWalkIn
import Derived.TacticsInMore
import Derived.LoopNIn
import Derived.LoopIn
import Derived.Maps.AppendAt
import Derived.Test.YtaiakdhcajibnaaGreatProg
import Derived.Test.YtaiakdhcajibnaaGreatAwX
import Derived.Test.YtaiakdhcajibnaaGreatAwFn
import Derived.Test.YtaiakdhcajibnaaGreatAwShp
namespace Go.Proofs.YtaiakdhcajibnaaGreat.Aw
open Go Go.RowKit
set_option linter.unusedSimpArgs false
set_option linter.unusedVariables false

def tw (d : Int) : Int := if d % 2 = 0 then d + 1 else d - 1

theorem wrap_u32 (n : Int) : IntKind.u32.wrap n = n % 4294967296 := by simp [IntKind.wrap, IntKind.signed, IntKind.bits]
theorem wrap_i64 (n : Int) (h1 : -9223372036854775808 ≤ n) (h2 : n ≤ 9223372036854775807) : IntKind.i64.wrap n = n := by
  simp only [IntKind.wrap, IntKind.signed, IntKind.bits]
  simp
  split <;> omega

theorem xor_one (n : Nat) : n ^^^ 1 = if n % 2 = 0 then n + 1 else n - 1 := by
  have h : ∀ a b : Nat, (∀ j, a.testBit j = b.testBit j) → a = b := fun a b h => Nat.eq_of_testBit_eq h
  split
  · apply h; intro j
    cases j with
    | zero => simp; omega
    | succ j => rw [Nat.testBit_xor]; simp [Nat.testBit_succ]; congr 1; omega
  · apply h; intro j
    cases j with
    | zero => simp; omega
    | succ j => rw [Nat.testBit_xor]; simp [Nat.testBit_succ]; congr 1; omega

theorem twin_bits (d : Int) (h0 : 0 ≤ d) (h1 : d < 4294967296) : gxor .u32 d 1 = tw d := by
  unfold gxor IntKind.bits
  obtain ⟨n, rfl⟩ := Int.eq_ofNat_of_zero_le h0
  have hn : n < 4294967296 := by omega
  rw [wrap_u32, BitVec.toNat_xor]
  have e1 : (BitVec.ofInt 32 (n : Int)).toNat = n := by rw [BitVec.ofInt_natCast, BitVec.toNat_ofNat]; exact Nat.mod_eq_of_lt (by omega)
  have e2 : (BitVec.ofInt 32 1).toNat = 1 := by decide
  rw [e1, e2, xor_one]
  unfold tw
  split <;> split <;> omega

theorem of_bits (a : Int) (e : Int) (h0 : 0 ≤ a) (h1 : a < 4294967296) (ha : a % 2 = 0) (he : e = 0 ∨ e = 1) : gor .u32 a e = a + e := by
  unfold gor IntKind.bits
  obtain ⟨n, rfl⟩ := Int.eq_ofNat_of_zero_le h0
  rw [wrap_u32, BitVec.toNat_or]
  have e1 : (BitVec.ofInt 32 (n : Int)).toNat = n := by rw [BitVec.ofInt_natCast, BitVec.toNat_ofNat]; exact Nat.mod_eq_of_lt (by omega)
  rw [e1]
  rcases he with rfl | rfl
  · simp; omega
  · have e2 : (BitVec.ofInt 32 1).toNat = 1 := by decide
    have : n ||| 1 = n + 1 := by
      apply Nat.eq_of_testBit_eq; intro j
      cases j with
      | zero => simp; omega
      | succ j => rw [Nat.testBit_or]; simp [Nat.testBit_succ]; congr 1; omega
    rw [e2, this]; omega

theorem and_one (e : Int) : gand .i64 e 1 = e % 2 := by
  show IntKind.i64.wrap ((BitVec.ofInt 64 e &&& BitVec.ofInt 64 1).toNat : Int) = _
  have e2 : (BitVec.ofInt 64 1).toNat = 1 := by decide
  rw [BitVec.toNat_and, e2, Nat.and_one_is_mod, wrap_i64 _ (by omega) (by omega), BitVec.toNat_ofInt]
  omega

theorem shl_one (a : Int) : gshl .u32 a 1 = a * 2 % 4294967296 := by
  unfold gshl; rw [wrap_u32]; rfl
theorem shr_one (a : Int) : gshr .u32 a 1 = a / 2 := by
  unfold gshr
  show a.fdiv 2 = a / 2
  rw [Int.fdiv_eq_ediv_of_nonneg _ (by decide)]

theorem Of (id e : Int) (st : St) :
    ACalls Tryz.prog 89 [u id, i e] st fun r st' => r = u (id * 2 % 4294967296 + e % 2) ∧ st' = st := by
  refine acalls_of_body tabOk Tryz.func89 rfl rfl Tryz.ntmps89 (rs := [.tmp 4]) rfl (by simp) ?_
  (repeat' (first | refine awp_seq ?_ | refine awp_block ?_ | ((first | refine awp_skip ?_ | refine awp_exit ?_); simp only [ak, reduceIte]) | (refine awp_ret ?_; simp only [ak, reduceIte]; simp []) | (refine awp_cond ?_; simp []; (try with_reducible refine ⟨?_, ?_⟩) <;> (try with_reducible intro hc) <;> try (exfalso; omega)) | ((first | (refine w_e [] ?_; intro J hJ; simp only []) | (refine w_q ?_; intro J hJ) | refine e_go ?_); simp []; (repeat refine ca ?_); (try ((try with_reducible refine ⟨?_, ?_⟩) <;> (try with_reducible intro hnil) <;> refine hJ _ _ ?_ <;> clear hJ J <;> simp only [ak, reduceIte] <;> try subst hnil)))))
  rw [shl_one, and_one, wrap_u32, of_bits _ _ (by omega) (by omega) (by omega) (by omega)]
  omega

theorem Twin (d : Int) (st : St) (h0 : 0 ≤ d) (h1 : d < 4294967296) : ACalls Tryz.prog 90 [u d] st fun r st' => r = u (tw d) ∧ st' = st := by
  refine acalls_of_body tabOk Tryz.func90 rfl rfl Tryz.ntmps90 (rs := [.tmp 2]) rfl (by simp) ?_
  (repeat' (first | refine awp_seq ?_ | refine awp_block ?_ | ((first | refine awp_skip ?_ | refine awp_exit ?_); simp only [ak, reduceIte]) | (refine awp_ret ?_; simp only [ak, reduceIte]; simp [twin_bits d h0 h1]) | (refine awp_cond ?_; simp [twin_bits d h0 h1]; (try with_reducible refine ⟨?_, ?_⟩) <;> (try with_reducible intro hc) <;> try (exfalso; omega)) | ((first | (refine w_e [] ?_; intro J hJ; simp only []) | (refine w_q ?_; intro J hJ) | refine e_go ?_); simp [twin_bits d h0 h1]; (repeat refine ca ?_); (try ((try with_reducible refine ⟨?_, ?_⟩) <;> (try with_reducible intro hnil) <;> refine hJ _ _ ?_ <;> clear hJ J <;> simp only [ak, reduceIte] <;> try subst hnil)))))

end Go.Proofs.YtaiakdhcajibnaaGreat.Aw

namespace Go.Proofs.YtaiakdhcajibnaaGreat.Pl

/-- The first place of a number; -1. -/
def gi (l : List Int) (x : Int) : Int := if x ∈ l then (l.idxOf x : Int) else -1

theorem gi_some {l : List Int} {x : Int} {k : Nat} (hk : k < l.length) (h : l[k] = x) (hn : ∀ j (hj : j < k), l[j]'(by omega) ≠ x) : gi l x = k := by
  have hm : x ∈ l := by rw [← h]; exact List.getElem_mem hk
  unfold gi
  rw [if_pos hm]
  congr 1
  have h1 : l.idxOf x < l.length := List.idxOf_lt_length_of_mem hm
  have h2 : l[l.idxOf x] = x := List.getElem_idxOf h1
  rcases Nat.lt_trichotomy (l.idxOf x) k with h3 | h3 | h3
  · exact absurd h2 (hn _ h3)
  · exact h3
  · have := List.not_of_lt_findIdx (p := fun y => y == x) (xs := l) (i := k) (by simpa [List.idxOf] using h3)
    simp [h] at this

theorem gi_none {l : List Int} {x : Int} (hn : ∀ j (hj : j < l.length), l[j] ≠ x) : gi l x = -1 := by
  unfold gi
  rw [if_neg]
  intro hm
  obtain ⟨j, hj, h⟩ := List.getElem_of_mem hm
  exact hn j hj h

theorem gi_lt (l : List Int) (x : Int) : -1 ≤ gi l x ∧ gi l x < l.length := by
  unfold gi
  split
  · rename_i h
    have := List.idxOf_lt_length_of_mem h
    omega
  · omega

theorem gi_neg (l : List Int) (x : Int) : gi l x < 0 ↔ x ∉ l := by
  unfold gi
  split
  · rename_i h; simp [h]
  · rename_i h; simp [h]

/-- The least one. -/
def mn : List Int → Int
  | [] => 0
  | x :: l => l.foldl (fun a b => if b < a then b else a) x

theorem foldl_min_le (l : List Int) : ∀ a : Int, l.foldl (fun a b => if b < a then b else a) a ≤ a ∧ (∀ x ∈ l, l.foldl (fun a b => if b < a then b else a) a ≤ x) ∧ (l.foldl (fun a b => if b < a then b else a) a = a ∨ l.foldl (fun a b => if b < a then b else a) a ∈ l) := by
  induction l with
  | nil => intro a; simp
  | cons b l ih =>
    intro a
    simp only [List.foldl_cons]
    obtain ⟨h1, h2, h3⟩ := ih (if b < a then b else a)
    have c1 : (if b < a then b else a) ≤ a := by split <;> omega
    have c2 : (if b < a then b else a) ≤ b := by split <;> omega
    refine ⟨Int.le_trans h1 c1, ?_, ?_⟩
    · intro x hx
      rcases List.mem_cons.1 hx with rfl | hx
      · exact Int.le_trans h1 c2
      · exact h2 x hx
    · rcases h3 with h3 | h3
      · rw [h3]
        split
        · right; simp
        · left; rfl
      · right; simp [h3]

theorem mn_le {l : List Int} {x : Int} (hx : x ∈ l) : mn l ≤ x := by
  cases l with
  | nil => simp at hx
  | cons a l =>
    obtain ⟨h1, h2, _⟩ := foldl_min_le l a
    rcases List.mem_cons.1 hx with rfl | hx
    · exact h1
    · exact h2 x hx
theorem mn_mem {l : List Int} (h : l ≠ []) : mn l ∈ l := by
  cases l with
  | nil => exact absurd rfl h
  | cons a l =>
    obtain ⟨_, _, h3⟩ := foldl_min_le l a
    rcases h3 with h3 | h3
    · simp only [mn]; rw [h3]; simp
    · simp only [mn]; exact List.mem_cons_of_mem _ h3
theorem mn_eq {l : List Int} {m : Int} (hm : m ∈ l) (h : ∀ x ∈ l, m ≤ x) : mn l = m := by
  have h1 := mn_le hm
  have h2 := h _ (mn_mem (List.ne_nil_of_mem hm))
  omega

theorem mn_append (l : List Int) (x : Int) (h : l ≠ []) : mn (l ++ [x]) = if x < mn l then x else mn l := by
  cases l with
  | nil => exact absurd rfl h
  | cons a l => rw [List.cons_append, mn, List.foldl_append]; rfl
theorem mn_take (l : List Int) (k : Nat) (h0 : 0 < k) (hk : k < l.length) : mn (l.take (k + 1)) = if l[k] < mn (l.take k) then l[k] else mn (l.take k) := by
  rw [List.take_succ_eq_append_getElem hk, mn_append]
  intro h
  have := congrArg List.length h
  rw [List.length_take, List.length_nil] at this
  omega
/-- From a place on. -/
def rt (l : List Int) (k : Nat) : List Int := l.drop k ++ l.take k
/-- The turn told normally. -/
def nrm (l : List Int) : List Int := rt l (l.idxOf (mn l))

theorem rt_length (l : List Int) (k : Nat) : (rt l k).length = l.length := by simp [rt]; omega
theorem nrm_length (l : List Int) : (nrm l).length = l.length := rt_length _ _
theorem rt_mem (l : List Int) (k : Nat) (x : Int) : x ∈ rt l k ↔ x ∈ l := by
  unfold rt
  rw [List.mem_append, or_comm, ← List.mem_append, List.take_append_drop]
theorem nrm_mem (l : List Int) (x : Int) : x ∈ nrm l ↔ x ∈ l := rt_mem _ _ _
theorem rt_get (l : List Int) (k i : Nat) (hk : k ≤ l.length) (hi : i < l.length) : (rt l k)[i]'(by rw [rt_length]; exact hi) = l[(k + i) % l.length]'(Nat.mod_lt _ (by omega)) := by
  unfold rt
  by_cases h : i < l.length - k
  · rw [List.getElem_append_left (by simpa using h)]
    simp only [List.getElem_drop]
    congr 1
    rw [Nat.mod_eq_of_lt (by omega)]
  · rw [List.getElem_append_right (by simp; omega)]
    simp only [List.getElem_take, List.length_drop]
    congr 1
    rw [Nat.mod_eq_sub_mod (by omega), Nat.mod_eq_of_lt (by omega)]
    omega
theorem nrm_get (l : List Int) (i : Nat) (hi : i < l.length) : (nrm l)[i]'(by rw [nrm_length]; exact hi) = l[(l.idxOf (mn l) + i) % l.length]'(Nat.mod_lt _ (by omega)) :=
  rt_get l _ i List.idxOf_le_length hi

end Go.Proofs.YtaiakdhcajibnaaGreat.Pl

namespace Go.Proofs.YtaiakdhcajibnaaGreat.Aw
open Go Go.RowKit Go.Proofs.YtaiakdhcajibnaaGreat.Pl
set_option linter.unusedSimpArgs false
set_option linter.unusedVariables false

theorem nat_add_one (k : Nat) (h : k < 9223372036854775807) : IntKind.i64.wrap ((k : Int) + 1) = ((k + 1 : Nat) : Int) := by
  rw [wrap_i64 _ (by omega) (by omega)]; omega

theorem us_drop_head (l : List Int) (k : Nat) (hk : k < l.length) : (us l).drop k = u l[k] :: us (l.drop (k + 1)) := by
  rw [us, ← List.map_drop, List.drop_eq_getElem_cons hk]; rfl

theorem us_drop_getD (l : List Int) (k : Nat) (hk : k < l.length) : (us l).drop k = u (l.getD k 0) :: us (l.drop (k + 1)) := by
  rw [us_drop_head l k hk]; simp [hk]
theorem gi_mem {l : List Int} {d : Int} (h : d ∈ l) : gi l d = ((l.idxOf d : Nat) : Int) := by unfold gi; rw [if_pos h]
theorem gi_not {l : List Int} {d : Int} (h : ¬ d ∈ l) : gi l d = -1 := by unfold gi; rw [if_neg h]
theorem tmod_nat (a b c : Nat) (h : a % b = c) : ((a : Int).tmod (b : Int)) = (c : Int) := by
  rw [← h]; exact (Int.ofNat_tmod a b).symm
theorem getD_lt (l : List Int) (j : Nat) (hj : j < l.length) : l.getD j 0 = l[j] := by
  rw [List.getD_eq_getElem?_getD, List.getElem?_eq_getElem hj]; rfl
theorem St.ext' {a b : St} (h : a.next = b.next) (k : ∀ x, a.H x = b.H x) : a = b := by
  cases a; cases b; simp only at h k; subst h; congr; funext x; exact k x
def small (l : List Int) : Prop := l.length ≤ 1048576

theorem Index (l : List Int) (t : Nat) (x : Int) (st : St) (hl : small l) :
    ACalls Tryz.prog 160 [.sl t l.length (us l), u x] st fun r st' => r = i (gi l x) ∧ st' = st := by
  unfold small at hl
  refine acalls_of_body tabOk Tryz.func160 rfl rfl Tryz.ntmps160 (rs := [.tmp 4]) rfl (by simp) ?_
  (repeat' (first | refine awp_seq ?_ | refine awp_block ?_ | ((first | refine awp_skip ?_ | refine awp_exit ?_); simp only [ak, reduceIte]) | (refine awp_ret ?_; simp only [ak, reduceIte]; simp []) | (refine awp_cond ?_; simp []; (try with_reducible refine ⟨?_, ?_⟩) <;> (try with_reducible intro hc) <;> try (exfalso; omega)) | ((first | (refine w_e [] ?_; intro J hJ; simp only []) | (refine w_q ?_; intro J hJ) | refine e_go ?_); simp []; (repeat refine ca ?_); (try ((try with_reducible refine ⟨?_, ?_⟩) <;> (try with_reducible intro hnil) <;> refine hJ _ _ ?_ <;> clear hJ J <;> simp only [ak, reduceIte] <;> try subst hnil)))))
  refine awp_loop (fun n fr st' => ∃ k : Nat, k ≤ l.length ∧ n = l.length - k ∧ fr 0 = .sl t l.length (us l) ∧ fr 1 = u x ∧ fr 7 = i l.length ∧ fr 8 = i k ∧ st' = st ∧ ∀ j (hj : j < l.length), j < k → l[j] ≠ x) l.length ?_ ?_
  · exact ⟨0, by omega, by omega, by simp, by simp, by simp, by simp, rfl, fun j _ h => by omega⟩
  rintro n fr st' ⟨k, hk, rfl, h0, h1, h7, h8, rfl, hno⟩ JJ hJJ
  by_cases hlt : k < l.length
  · have hd := us_drop_head l k hlt
    have hw := nat_add_one k (by omega)
    (repeat' (first | refine awp_seq ?_ | refine awp_block ?_ | ((first | refine awp_skip ?_ | refine awp_exit ?_); simp only [ak, reduceIte]) | (refine awp_ret ?_; simp only [ak, reduceIte]; simp [h0, h1, h7, h8, hlt, hd, hw]) | (refine awp_cond ?_; simp [h0, h1, h7, h8, hlt, hd, hw]; (try with_reducible refine ⟨?_, ?_⟩) <;> (try with_reducible intro hc) <;> try (exfalso; omega)) | ((first | (refine w_e [] ?_; intro J hJ; simp only []) | (refine w_q ?_; intro J hJ) | refine e_go ?_); simp [h0, h1, h7, h8, hlt, hd, hw]; (repeat refine ca ?_); (try ((try with_reducible refine ⟨?_, ?_⟩) <;> (try with_reducible intro hnil) <;> refine hJ _ _ ?_ <;> clear hJ J <;> simp only [ak, reduceIte] <;> try subst hnil)))))
    · exact (gi_some hlt hc.symm (fun j hj => hno j (by omega) hj)).symm
    · refine hJJ _ _ _ ?_ ⟨k + 1, by omega, rfl, by simp [h0], by simp [h1], by simp [h7], by simp, rfl, fun j hj hjk => ?_⟩
      · omega
      · rcases Nat.lt_or_ge j k with h | h
        · exact hno j hj h
        · obtain rfl : j = k := by omega
          exact fun h => hc h.symm
  · (repeat' (first | refine awp_seq ?_ | refine awp_block ?_ | ((first | refine awp_skip ?_ | refine awp_exit ?_); simp only [ak, reduceIte]) | (refine awp_ret ?_; simp only [ak, reduceIte]; simp [h0, h1, h7, h8, hlt]) | (refine awp_cond ?_; simp [h0, h1, h7, h8, hlt]; (try with_reducible refine ⟨?_, ?_⟩) <;> (try with_reducible intro hc) <;> try (exfalso; omega)) | ((first | (refine w_e [] ?_; intro J hJ; simp only []) | (refine w_q ?_; intro J hJ) | refine e_go ?_); simp [h0, h1, h7, h8, hlt]; (repeat refine ca ?_); (try ((try with_reducible refine ⟨?_, ?_⟩) <;> (try with_reducible intro hnil) <;> refine hJ _ _ ?_ <;> clear hJ J <;> simp only [ak, reduceIte] <;> try subst hnil)))))
    exact (gi_none (fun j hj => hno j hj (by omega))).symm

theorem Find (l : List Int) (t : Nat) (x : Int) (st : St) (hl : small l) :
    ACalls Tryz.prog 62 [.sl t l.length (us l), u x] st fun r st' => r = i (gi l x) ∧ st' = st := by
  unfold small at hl
  refine acalls_of_body tabOk Tryz.func62 rfl rfl Tryz.ntmps62 (rs := [.tmp 4]) rfl (by simp) ?_
  (repeat' (first | refine awp_seq ?_ | refine awp_block ?_ | ((first | refine awp_skip ?_ | refine awp_exit ?_); simp only [ak, reduceIte]) | (refine awp_ret ?_; simp only [ak, reduceIte]; simp []) | (refine awp_cond ?_; simp []; (try with_reducible refine ⟨?_, ?_⟩) <;> (try with_reducible intro hc) <;> try (exfalso; omega)) | ((first | (refine w_e [] ?_; intro J hJ; simp only []) | (refine w_q ?_; intro J hJ) | refine e_go ?_); simp []; (repeat refine ca ?_); (try ((try with_reducible refine ⟨?_, ?_⟩) <;> (try with_reducible intro hnil) <;> refine hJ _ _ ?_ <;> clear hJ J <;> simp only [ak, reduceIte] <;> try subst hnil)))))
  refine awp_loop (fun n fr st' => ∃ k : Nat, k ≤ l.length ∧ n = l.length - k ∧ fr 7 = .sl t l.length (us l) ∧ fr 1 = u x ∧ fr 8 = i l.length ∧ fr 9 = i k ∧ st' = st ∧ ∀ j (hj : j < l.length), j < k → l[j] ≠ x) l.length ?_ ?_
  · exact ⟨0, by omega, by omega, by simp, by simp, by simp, by simp, rfl, fun j _ h => by omega⟩
  rintro n fr st' ⟨k, hk, rfl, h0, h1, h7, h8, rfl, hno⟩ JJ hJJ
  by_cases hlt : k < l.length
  · have hd := us_drop_head l k hlt
    have hw := nat_add_one k (by omega)
    (repeat' (first | refine awp_seq ?_ | refine awp_block ?_ | ((first | refine awp_skip ?_ | refine awp_exit ?_); simp only [ak, reduceIte]) | (refine awp_ret ?_; simp only [ak, reduceIte]; simp [h0, h1, h7, h8, hlt, hd, hw]) | (refine awp_cond ?_; simp [h0, h1, h7, h8, hlt, hd, hw]; (try with_reducible refine ⟨?_, ?_⟩) <;> (try with_reducible intro hc) <;> try (exfalso; omega)) | ((first | (refine w_e [] ?_; intro J hJ; simp only []) | (refine w_q ?_; intro J hJ) | refine e_go ?_); simp [h0, h1, h7, h8, hlt, hd, hw]; (repeat refine ca ?_); (try ((try with_reducible refine ⟨?_, ?_⟩) <;> (try with_reducible intro hnil) <;> refine hJ _ _ ?_ <;> clear hJ J <;> simp only [ak, reduceIte] <;> try subst hnil)))))
    · exact (gi_some hlt hc (fun j hj => hno j (by omega) hj)).symm
    · refine hJJ _ _ _ ?_ ⟨k + 1, by omega, rfl, by simp [h0], by simp [h1], by simp [h7], by simp, rfl, fun j hj hjk => ?_⟩
      · omega
      · rcases Nat.lt_or_ge j k with h | h
        · exact hno j hj h
        · obtain rfl : j = k := by omega
          exact hc
  · (repeat' (first | refine awp_seq ?_ | refine awp_block ?_ | ((first | refine awp_skip ?_ | refine awp_exit ?_); simp only [ak, reduceIte]) | (refine awp_ret ?_; simp only [ak, reduceIte]; simp [h0, h1, h7, h8, hlt]) | (refine awp_cond ?_; simp [h0, h1, h7, h8, hlt]; (try with_reducible refine ⟨?_, ?_⟩) <;> (try with_reducible intro hc) <;> try (exfalso; omega)) | ((first | (refine w_e [] ?_; intro J hJ; simp only []) | (refine w_q ?_; intro J hJ) | refine e_go ?_); simp [h0, h1, h7, h8, hlt]; (repeat refine ca ?_); (try ((try with_reducible refine ⟨?_, ?_⟩) <;> (try with_reducible intro hnil) <;> refine hJ _ _ ?_ <;> clear hJ J <;> simp only [ak, reduceIte] <;> try subst hnil)))))
    exact (gi_none (fun j hj => hno j hj (by omega))).symm

theorem Contains (l : List Int) (t : Nat) (x : Int) (st : St) (hl : small l) :
    ACalls Tryz.prog 222 [.sl t l.length (us l), u x] st fun r st' => r = bb (decide (x ∈ l)) ∧ st' = st := by
  refine acalls_of_body tabOk Tryz.func222 rfl rfl Tryz.ntmps222 (rs := [.tmp 4]) rfl (by simp) ?_
  (repeat' (first | refine awp_seq ?_ | refine awp_block ?_ | ((first | refine awp_skip ?_ | refine awp_exit ?_); simp only [ak, reduceIte]) | (refine awp_ret ?_; simp only [ak, reduceIte]; simp []) | (refine awp_cond ?_; simp []; (try with_reducible refine ⟨?_, ?_⟩) <;> (try with_reducible intro hc) <;> try (exfalso; omega)) | ((first | (refine w_e [] ?_; intro J hJ; simp only []) | (refine w_q ?_; intro J hJ) | refine e_go ?_); simp []; (repeat refine ca ?_); (try ((try with_reducible refine ⟨?_, ?_⟩) <;> (try with_reducible intro hnil) <;> refine hJ _ _ ?_ <;> clear hJ J <;> simp only [ak, reduceIte] <;> try subst hnil)))))
  refine callK_of (Index l t x st hl) ?_; rintro r st' ⟨rfl, rfl⟩
  (repeat' (first | refine awp_seq ?_ | refine awp_block ?_ | ((first | refine awp_skip ?_ | refine awp_exit ?_); simp only [ak, reduceIte]) | (refine awp_ret ?_; simp only [ak, reduceIte]; simp []) | (refine awp_cond ?_; simp []; (try with_reducible refine ⟨?_, ?_⟩) <;> (try with_reducible intro hc) <;> try (exfalso; omega)) | ((first | (refine w_e [] ?_; intro J hJ; simp only []) | (refine w_q ?_; intro J hJ) | refine e_go ?_); simp []; (repeat refine ca ?_); (try ((try with_reducible refine ⟨?_, ?_⟩) <;> (try with_reducible intro hnil) <;> refine hJ _ _ ?_ <;> clear hJ J <;> simp only [ak, reduceIte] <;> try subst hnil)))))
  have := gi_neg l x
  by_cases hx : x ∈ l
  · simp [hx]; simp [hx] at this; omega
  · simp [hx]; simp [hx] at this; omega

theorem us_head (l : List Int) (h : 0 < l.length) : hdL (us l) = u l[0] := by
  cases l with
  | nil => simp at h
  | cons a l => rfl

theorem Min (l : List Int) (t : Nat) (st : St) (hl : small l) (h0 : l ≠ []) :
    ACalls Tryz.prog 173 [.sl t l.length (us l)] st fun r st' => r = u (mn l) ∧ st' = st := by
  unfold small at hl
  have hpos : 0 < l.length := List.length_pos_iff.2 h0
  have hd0 := us_head l hpos
  refine acalls_of_body tabOk Tryz.func173 rfl rfl Tryz.ntmps173 (rs := [.tmp 2]) rfl (by simp) ?_
  (repeat' (first | refine awp_seq ?_ | refine awp_block ?_ | ((first | refine awp_skip ?_ | refine awp_exit ?_); simp only [ak, reduceIte]) | (refine awp_ret ?_; simp only [ak, reduceIte]; simp [hpos, hd0]) | (refine awp_cond ?_; simp [hpos, hd0]; (try with_reducible refine ⟨?_, ?_⟩) <;> (try with_reducible intro hc) <;> try (exfalso; omega)) | ((first | (refine w_e [] ?_; intro J hJ; simp only []) | (refine w_q ?_; intro J hJ) | refine e_go ?_); simp [hpos, hd0]; (repeat refine ca ?_); (try ((try with_reducible refine ⟨?_, ?_⟩) <;> (try with_reducible intro hnil) <;> refine hJ _ _ ?_ <;> clear hJ J <;> simp only [ak, reduceIte] <;> try subst hnil)))))
  refine awp_loop (fun n fr st' => ∃ k : Nat, 0 < k ∧ k ≤ l.length ∧ n = l.length - k ∧ fr 0 = .sl t l.length (us l) ∧ fr 4 = i k ∧ fr 3 = u (mn (l.take k)) ∧ st' = st) (l.length - 1) ?_ ?_
  · refine ⟨1, by omega, by omega, by omega, by simp, by simp, ?_, rfl⟩
    cases l with
    | nil => simp at hpos
    | cons a l => simp [mn]
  rintro n fr st' ⟨k, hk0, hk, rfl, h0', h4, h3, rfl⟩ JJ hJJ
  by_cases hlt : k < l.length
  · have hd := us_drop_head l k hlt
    have hw := nat_add_one k (by omega)
    (repeat' (first | refine awp_seq ?_ | refine awp_block ?_ | ((first | refine awp_skip ?_ | refine awp_exit ?_); simp only [ak, reduceIte]) | (refine awp_ret ?_; simp only [ak, reduceIte]; simp [h0', h3, h4, hlt, hd, hw]) | (refine awp_cond ?_; simp [h0', h3, h4, hlt, hd, hw]; (try with_reducible refine ⟨?_, ?_⟩) <;> (try with_reducible intro hc) <;> try (exfalso; omega)) | ((first | (refine w_e [] ?_; intro J hJ; simp only []) | (refine w_q ?_; intro J hJ) | refine e_go ?_); simp [h0', h3, h4, hlt, hd, hw]; (repeat refine ca ?_); (try ((try with_reducible refine ⟨?_, ?_⟩) <;> (try with_reducible intro hnil) <;> refine hJ _ _ ?_ <;> clear hJ J <;> simp only [ak, reduceIte] <;> try subst hnil)))))
    refine hJJ _ _ _ ?_ ⟨k + 1, by omega, by omega, rfl, by simp [h0'], by simp, by simp [mn_take l k hk0 hlt], rfl⟩
    omega
  · (repeat' (first | refine awp_seq ?_ | refine awp_block ?_ | ((first | refine awp_skip ?_ | refine awp_exit ?_); simp only [ak, reduceIte]) | (refine awp_ret ?_; simp only [ak, reduceIte]; simp [h0', h3, h4, hlt]) | (refine awp_cond ?_; simp [h0', h3, h4, hlt]; (try with_reducible refine ⟨?_, ?_⟩) <;> (try with_reducible intro hc) <;> try (exfalso; omega)) | ((first | (refine w_e [] ?_; intro J hJ; simp only []) | (refine w_q ?_; intro J hJ) | refine e_go ?_); simp [h0', h3, h4, hlt]; (repeat refine ca ?_); (try ((try with_reducible refine ⟨?_, ?_⟩) <;> (try with_reducible intro hnil) <;> refine hJ _ _ ?_ <;> clear hJ J <;> simp only [ak, reduceIte] <;> try subst hnil)))))
    rw [List.take_of_length_le (by omega)]

theorem ref_Same (a b : List Int) (t t' : Nat) (st : St) (hl : small a) :
    ACalls Tryz.prog 22 [.sl t a.length (us a), .sl t' b.length (us b)] st fun r st' => r = bb (decide (a = b)) ∧ st' = st := by
  unfold small at hl
  refine acalls_of_body tabOk Tryz.func22 rfl rfl Tryz.ntmps22 (rs := [.tmp 4]) rfl (by simp) ?_
  by_cases hab : a.length = b.length
  · have hab' : ((a.length : Int) != (b.length : Int)) = false := by simp [hab]
    (repeat' (first | refine awp_seq ?_ | refine awp_block ?_ | ((first | refine awp_skip ?_ | refine awp_exit ?_); simp only [ak, reduceIte]) | (refine awp_ret ?_; simp only [ak, reduceIte]; simp [hab]) | (refine awp_cond ?_; simp [hab]; (try with_reducible refine ⟨?_, ?_⟩) <;> (try with_reducible intro hc) <;> try (exfalso; omega)) | ((first | (refine w_e [] ?_; intro J hJ; simp only []) | (refine w_q ?_; intro J hJ) | refine e_go ?_); simp [hab]; (repeat refine ca ?_); (try ((try with_reducible refine ⟨?_, ?_⟩) <;> (try with_reducible intro hnil) <;> refine hJ _ _ ?_ <;> clear hJ J <;> simp only [ak, reduceIte] <;> try subst hnil)))))
    refine awp_loop (fun n fr st' => ∃ k : Nat, k ≤ a.length ∧ n = a.length - k ∧ fr 0 = .sl t a.length (us a) ∧ fr 1 = .sl t' b.length (us b) ∧ fr 12 = i a.length ∧ fr 13 = i k ∧ st' = st ∧ ∀ j (hj : j < a.length), j < k → a[j] = b[j]'(by omega)) a.length ?_ ?_
    · exact ⟨0, by omega, by omega, by simp [hab], by simp [hab], by simp [hab], by simp, rfl, fun j _ h => by omega⟩
    rintro n fr st' ⟨k, hk, rfl, h0, h1, h7, h8, rfl, hno⟩ JJ hJJ
    by_cases hlt : k < a.length
    · have hlt' : k < b.length := by omega
      have hd := us_drop_head a k hlt
      have hd' := us_drop_head b k hlt'
      have hw := nat_add_one k (by omega)
      (repeat' (first | refine awp_seq ?_ | refine awp_block ?_ | ((first | refine awp_skip ?_ | refine awp_exit ?_); simp only [ak, reduceIte]) | (refine awp_ret ?_; simp only [ak, reduceIte]; simp [h0, h1, h7, h8, hlt, hlt', hd, hd', hw]) | (refine awp_cond ?_; simp [h0, h1, h7, h8, hlt, hlt', hd, hd', hw]; (try with_reducible refine ⟨?_, ?_⟩) <;> (try with_reducible intro hc) <;> try (exfalso; omega)) | ((first | (refine w_e [] ?_; intro J hJ; simp only []) | (refine w_q ?_; intro J hJ) | refine e_go ?_); simp [h0, h1, h7, h8, hlt, hlt', hd, hd', hw]; (repeat refine ca ?_); (try ((try with_reducible refine ⟨?_, ?_⟩) <;> (try with_reducible intro hnil) <;> refine hJ _ _ ?_ <;> clear hJ J <;> simp only [ak, reduceIte] <;> try subst hnil)))))
      · intro h; apply hc; simp [h]
      · refine hJJ _ _ _ ?_ ⟨k + 1, by omega, rfl, by simp [h0], by simp [h1], by simp [h7], by simp, rfl, fun j hj hjk => ?_⟩
        · omega
        · rcases Nat.lt_or_ge j k with h | h
          · exact hno j hj h
          · obtain rfl : j = k := by omega
            exact hc
    · (repeat' (first | refine awp_seq ?_ | refine awp_block ?_ | ((first | refine awp_skip ?_ | refine awp_exit ?_); simp only [ak, reduceIte]) | (refine awp_ret ?_; simp only [ak, reduceIte]; simp [h0, h1, h7, h8, hlt]) | (refine awp_cond ?_; simp [h0, h1, h7, h8, hlt]; (try with_reducible refine ⟨?_, ?_⟩) <;> (try with_reducible intro hc) <;> try (exfalso; omega)) | ((first | (refine w_e [] ?_; intro J hJ; simp only []) | (refine w_q ?_; intro J hJ) | refine e_go ?_); simp [h0, h1, h7, h8, hlt]; (repeat refine ca ?_); (try ((try with_reducible refine ⟨?_, ?_⟩) <;> (try with_reducible intro hnil) <;> refine hJ _ _ ?_ <;> clear hJ J <;> simp only [ak, reduceIte] <;> try subst hnil)))))
      exact List.ext_getElem hab (fun j hj _ => hno j hj (by omega))
  · (repeat' (first | refine awp_seq ?_ | refine awp_block ?_ | ((first | refine awp_skip ?_ | refine awp_exit ?_); simp only [ak, reduceIte]) | (refine awp_ret ?_; simp only [ak, reduceIte]; simp [hab]) | (refine awp_cond ?_; simp [hab]; (try with_reducible refine ⟨?_, ?_⟩) <;> (try with_reducible intro hc) <;> try (exfalso; omega)) | ((first | (refine w_e [] ?_; intro J hJ; simp only []) | (refine w_q ?_; intro J hJ) | refine e_go ?_); simp [hab]; (repeat refine ca ?_); (try ((try with_reducible refine ⟨?_, ?_⟩) <;> (try with_reducible intro hnil) <;> refine hJ _ _ ?_ <;> clear hJ J <;> simp only [ak, reduceIte] <;> try subst hnil)))))
    intro h; exact hab (by rw [h])

end Go.Proofs.YtaiakdhcajibnaaGreat.Aw

namespace Go.Proofs.YtaiakdhcajibnaaGreat.Rg
open Go Go.RowKit Go.Shelf
set_option linter.unusedSimpArgs false
set_option linter.unusedVariables false

attribute [local go_sem] Oper.semAt_some

/-- What has come when k rounds are over. -/
def upto (zs : List Int) (k : Nat) : List Int := (List.range k).map fun j => zs[j]?.getD 0
theorem upto_succ (zs : List Int) (k : Nat) : upto zs (k + 1) = upto zs k ++ [zs[k]?.getD 0] := by simp [upto, List.range_succ]
theorem upto_length (zs : List Int) (k : Nat) : (upto zs k).length = k := by simp [upto]
theorem upto_all (zs : List Int) : upto zs zs.length = zs := by
  apply List.ext_getElem
  · simp [upto]
  · intro i h1 h2
    simp [upto, h2]

set_option maxRecDepth 100000 in
set_option maxHeartbeats 2000000 in
theorem values1_in (F : Fence) (n : Nat) (h7 : F.fn 230) (hro : F.round = none) (hn : 1 ≤ n) (l Bs n₀ b off len cap : Nat) (zs : List Int) (hlen : len ≤ 1048576) (hb : b < n₀) (J Jx : List Int → World → Prop)
    (hY : ∀ pre x W, J pre W → pre.length < len → YieldAt F (n - 1) Tryz.prog l #[.int .u32 x] W fun e W' =>
      (e = .returned (.bool true) ∧ J (pre ++ [x]) W' ∧ Below n₀ W W') ∨ (e = .returned (.bool false) ∧ Jx (pre ++ [x]) W'))
    (W : World) (hBs : W.cell? ⟨Bs, 0, none⟩ = some (.slice (some ⟨b, off, none⟩) len cap)) (hc : ∀ j, j < len → W.cell? ⟨b, off + j, none⟩ = some (.int .u32 (zs[j]?.getD 0))) (h0 : J [] W) :
    CallsIn F n Tryz.prog 230 #[.func (.yield l) #[] #[], .pointer (some ⟨Bs, 0, none⟩)] W fun e W' => (∃ v, e = .returned v) ∧
      ((∃ ys, ys = upto zs len ∧ J ys W') ∨ (∃ pre, (∃ k, k ≤ len ∧ pre = upto zs k) ∧ Jx pre W')) := by
  refine callsIn_of_wp Tryz.func230 rfl h7 ?_ hro
  simp only [Tryz.ntmps230, List.size_toArray, List.length_cons, List.length_nil, Nat.reduceAdd, Nat.reduceSub, Array.replicate_succ, Array.replicate_zero, List.push_toArray, List.append_toArray, List.nil_append, List.cons_append]
  gi_wp2
  gi_loopw [7] (fun i wr => ∃ k : Nat, k ≤ len ∧ i = .int .i64 k ∧ J (upto zs k) wr ∧ Below n₀ W wr)
    (fun i _ => len - (intOf i).toNat)
  case atStart => exact ⟨0, Nat.zero_le _, rfl, h0, Below.refl _ _⟩
  case round =>
    obtain ⟨k, hk, rfl, hJs, hnx⟩ := hrel
    have hcx : k < len → wr.cell? ⟨b, off + k, none⟩ = some (.int .u32 (zs[k]?.getD 0)) := fun h => (hnx.cell (p := ⟨b, off + k, none⟩) hb).trans (hc k h)
    by_cases hlt : k < len
    · obtain ⟨fn, tmps, assign, body, hy, hR⟩ := hY _ (zs[k]?.getD 0) wr hJs (by rw [upto_length]; exact hlt)
      have hcx' := hcx hlt
      gi_wp2
      refine hR.mono ?_
      rintro e W3 (⟨rfl, hJ3, hk3⟩ | ⟨rfl, hJx3⟩)
      · gi_wp2
        go_roundw
        case rel => exact ⟨k + 1, by omega, by simp, by rw [upto_succ]; exact hJ3, hnx.trans hk3⟩
        case measure => simp [intOf]; omega
      · gi_wp2
        refine bodyPost_ret (results_none rfl _ _ _) rfl ?_
        exact ⟨⟨_, rfl⟩, .inr ⟨_, ⟨k + 1, by omega, (upto_succ _ _).symm⟩, hJx3⟩⟩
    · obtain rfl : k = len := by omega
      gi_wp2
      go_end0
      exact ⟨⟨_, rfl⟩, .inl ⟨_, rfl, hJs⟩⟩

set_option maxRecDepth 100000 in
set_option maxHeartbeats 1000000 in
theorem values1_nil_in (F : Fence) (n : Nat) (h7 : F.fn 230) (hro : F.round = none) (l Bs : Nat) (J : List Int → World → Prop) (W : World) (A : Option Addr) (cap : Nat) (hBs : W.cell? ⟨Bs, 0, none⟩ = some (.slice A 0 cap)) (h0 : J [] W) :
    CallsIn F n Tryz.prog 230 #[.func (.yield l) #[] #[], .pointer (some ⟨Bs, 0, none⟩)] W fun e W' => (∃ v, e = .returned v) ∧ J [] W' := by
  refine callsIn_of_wp Tryz.func230 rfl h7 ?_ hro
  simp only [Tryz.ntmps230, List.size_toArray, List.length_cons, List.length_nil, Nat.reduceAdd, Nat.reduceSub, Array.replicate_succ, Array.replicate_zero, List.push_toArray, List.append_toArray, List.nil_append, List.cons_append]
  gi_wp2
  gi_loopw [7] (fun i wr => i = .int .i64 0 ∧ J [] wr) (fun _ _ => 0)
  case atStart => exact ⟨rfl, h0⟩
  case round =>
    obtain ⟨rfl, hJs⟩ := hrel
    gi_wp2
    go_end0
    exact ⟨⟨_, rfl⟩, hJs⟩

/-- A slice value that holds zs, in a block below n₀; or an empty one. -/
def Ints (n₀ : Nat) (W : World) (sv : Value) (zs : List Int) : Prop :=
  (zs = [] ∧ ∃ A cap, sv = .slice A 0 cap) ∨ ∃ b off cap, sv = .slice (some ⟨b, off, none⟩) zs.length cap ∧ b < n₀ ∧ ∀ j, j < zs.length → W.cell? ⟨b, off + j, none⟩ = some (.int .u32 (zs[j]?.getD 0))
theorem Ints.below {n₀ : Nat} {A B : World} (h : Below n₀ A B) {sv : Value} {zs : List Int} : Ints n₀ A sv zs → Ints n₀ B sv zs
  | .inl e => .inl e
  | .inr ⟨b, off, cap, e, hb, hc⟩ => .inr ⟨b, off, cap, e, hb, fun j hj => (h.cell (p := ⟨b, off + j, none⟩) hb).trans (hc j hj)⟩

theorem values_stops (F : Fence) (n : Nat) (h7 : F.fn 230) (hro : F.round = none) (hn : 1 ≤ n) (Bs n₀ : Nat) (sv : Value) (zs : List Int) (hlen : zs.length ≤ 1048576) (w : World) (hBs : Bs < w.heap.size) (hn₀ : n₀ ≤ w.heap.size)
    (hc : w.cell? ⟨Bs, 0, none⟩ = some sv) (hI : Ints n₀ w sv zs) :
    SeqStopsK F n Tryz.prog 230 #[.pointer (some ⟨Bs, 0, none⟩)] (fun x : Int => #[Value.int .u32 x]) (Below n₀) (fun ys => ys = zs) (fun _ => True) zs.length w := fun l J Jx W hW _ _ hY h0 => by
  have hc' := (hW.cell (p := ⟨Bs, 0, none⟩) hBs).trans hc
  rcases hI.below (hW.mono hn₀) with ⟨rfl, A, cap, rfl⟩ | ⟨b, off, cap, rfl, hb, hcs⟩
  · exact (values1_nil_in F n h7 hro l Bs J W A cap hc' h0).mono fun e W' ⟨he, hj⟩ => ⟨he, .inl ⟨_, rfl, hj⟩⟩
  · refine (values1_in F n h7 hro hn l Bs n₀ b off zs.length cap zs hlen hb J Jx hY W hc' hcs h0).mono ?_
    rintro e W' ⟨he, ⟨ys, rfl, hj⟩ | ⟨pre, ⟨k, hk, rfl⟩, hj⟩⟩
    · exact ⟨he, .inl ⟨_, upto_all zs, hj⟩⟩
    · exact ⟨he, .inr ⟨_, trivial, hj⟩⟩

theorem infoU : (Tryz.prog.info? 29).map (fun i => (i.zero, i.size, i.bytes)) = some (some (.int .u32 0), 1, 4) := by kernel_rfl

set_option maxRecDepth 100000 in
set_option maxHeartbeats 2000000 in
/-- slices.AppendSeq(nil, slices.Values(s)): a slice of its own with what s holds; nothing that lay has turned. -/
theorem appendSeq_in (F : Fence) (n : Nat) (h3 : F.fn 255) (h7 : F.fn 230) (hro : F.round = none) (hn : 3 ≤ n) (Bs : Nat) (sv : Value) (zs : List Int) (hlen : zs.length ≤ 1048576) (w : World) (hBs : Bs < w.heap.size)
    (hc : w.cell? ⟨Bs, 0, none⟩ = some sv) (hI : Ints w.heap.size w sv zs) :
    CallsIn F n Tryz.prog 255 #[.slice none 0 0, .func (.func 230) #[] #[.pointer (some ⟨Bs, 0, none⟩)]] w fun e W' => ∃ v, e = .returned v ∧ W'.ownsRow w.heap.size 29 1 v zs.length (zs.map (Value.int .u32)) ∧ Below w.heap.size w W' := by
  have h1 : 1 ≤ n := by omega
  obtain ⟨i0, hi, hz0, hz1, hz2⟩ := info_parts infoU
  refine callsIn_of_wp_marks Tryz.func255 rfl h3 ?_ hro
  simp only [Tryz.ntmps255, List.size_toArray, List.length_cons, List.length_nil, Nat.reduceAdd, Nat.reduceSub, Array.replicate_succ, Array.replicate_zero, List.push_toArray, List.append_toArray, List.nil_append, List.cons_append]
  gi_wp2
  have bO := Boxed.new w 22 (.slice none 0 0)
  have hB0 : Below w.heap.size w (w.alloc (.cells #[.slice none 0 0] 22)) := (Below.refl _ w).alloc (Nat.le_refl _) _
  refine wpIn_rangeFunc_ownG hro h1 (gf := 230) (lb := #[.pointer (some ⟨Bs, 0, none⟩)]) rfl h7 (enters_of Tryz.func230 (by kernel_rfl) rfl)
    (values_stops F (n - 1) h7 hro (by omega) Bs w.heap.size sv zs hlen _ (by simp; omega) (by simp) ((hB0.cell (p := ⟨Bs, 0, none⟩) hBs).trans hc) (hI.below hB0)) belowK_t (belowK_b (by simp)) (Below.refl _ _) (fun _ => rfl)
    (fun pre W => (∃ v, Boxed W w.heap.size 22 v ∧ W.ownsRow w.heap.size 29 1 v pre.length (pre.map (Value.int .u32)) ∧ True) ∧ Below w.heap.size w W)
    (fun _ _ _ => False)
    (OwnFrom.and (Own.from (holdsRow_own w.heap.size w.heap.size 22 29 1 (fun pre : List Int => pre.length) (fun pre : List Int => pre.map (Value.int .u32)) (fun _ _ => True)) _) (ownFrom_below (Nat.le_refl _) (by simp)))
    (fun _ _ _ _ _ hs _ _ => hs)
    ⟨⟨_, bO, World.ownsRow_nil _ _ _ _, trivial⟩, hB0⟩
    (fun x => { tmps := #[.slice none 0 0, .func (.func 230) #[] #[.pointer (some ⟨Bs, 0, none⟩)], .pointer (some ⟨w.heap.size, 0, none⟩), undef, .slice none 0 0, .int .u32 x, .func (.func 230) #[] #[.pointer (some ⟨Bs, 0, none⟩)], .int .u32 x, undef, undef, undef, undef, undef], defers := [] }) ?assign ?body ?done ?stop
  case assign =>
    intro l x W K hK
    gi_wp2
    exact hK
  case body =>
    rintro l pre x W ⟨⟨v, hv, hrow, _⟩, hB⟩ hlt
    have hc := hv.cell
    gi_wp2_with (gi_at_builtin; refine wpListIn_append_own _ rfl _ _ 22 rfl w.heap.size 29 i0 (.int .u32 0) 1 4 Tryz.underlying22 hi hz0 hz1 hz2 rfl (by decide) _ _ _ rfl (hrow.alloc _) ⟨W.heap.size, 0, none⟩ 1 1 [.int .u32 x] rfl rfl (cell_one_new _ _ _) (by simp [Value.oneCell']) (by simp only [maxLen]; omega) (by omega) (by have := hB.size; simp; omega) ?_; intro v' w1 hown' hgrow _; obtain ⟨g', cap', rfl⟩ := ownsRow_succ hown'; obtain ⟨hv1, hv2, hr2, hk2, hb2⟩ := hv.appended (by decide) hrow hB.size (Nat.le_refl _) hown' hgrow; have hc1 := hv1.cell; have hf1 := hv1.frozen)
    exact ⟨hk2.from _, hb2, ⟨_, hv2, by simpa using hr2, trivial⟩, hB.trans hb2⟩
  case done =>
    rintro D ys W hD rfl ⟨⟨v, hv, hrow, _⟩, hB⟩ hK
    have hc := hv.cell
    gi_wp2
    refine ⟨by simp, .inl ⟨_, _, rfl, run_takeDeferred hK, ?_⟩⟩
    exact ⟨_, results_tmp rfl _ _ _, v, rfl, ownsRow_putObj hrow _ hK rfl, hB.trans (belowK_b (w := w) (Nat.le_refl _) W D _ _ (by simp at hD; omega) hK rfl rfl)⟩
  case stop =>
    rintro D c pre W _ _ h _
    exact h.elim

set_option maxRecDepth 100000 in
set_option maxHeartbeats 1000000 in
/-- slices.Collect(slices.Values(s)). -/
theorem collect_in (F : Fence) (n : Nat) (h2 : F.fn 229) (h3 : F.fn 255) (h7 : F.fn 230) (hro : F.round = none) (hn : 4 ≤ n) (Bs : Nat) (sv : Value) (zs : List Int) (hlen : zs.length ≤ 1048576) (w : World) (hBs : Bs < w.heap.size)
    (hc : w.cell? ⟨Bs, 0, none⟩ = some sv) (hI : Ints w.heap.size w sv zs) :
    CallsIn F n Tryz.prog 229 #[.func (.func 230) #[] #[.pointer (some ⟨Bs, 0, none⟩)]] w fun e W' => ∃ v, e = .returned v ∧ W'.ownsRow w.heap.size 29 1 v zs.length (zs.map (Value.int .u32)) ∧ Below w.heap.size w W' := by
  have h1 : 1 ≤ n := by omega
  refine callsIn_of_wp Tryz.func229 rfl h2 ?_ hro
  simp only [Tryz.ntmps229, List.size_toArray, List.length_cons, List.length_nil, Nat.reduceAdd, Nat.reduceSub, Array.replicate_succ, Array.replicate_zero, List.push_toArray, List.append_toArray, List.nil_append, List.cons_append]
  gi_wp2_with (gi_at_call 255; refine (appendSeq_in F (n - 1) h3 h7 hro (by omega) Bs sv zs hlen _ hBs hc hI).mono ?_; rintro e w' ⟨v, rfl, hrow, hbel⟩)
  go_ret
  exact ⟨v, rfl, hrow, hbel⟩

end Go.Proofs.YtaiakdhcajibnaaGreat.Rg

namespace Go.Proofs.YtaiakdhcajibnaaGreat.Aw
open Go Go.RowKit
set_option linter.unusedSimpArgs false
set_option linter.unusedVariables false

theorem below_ext {w w' : World} (g : G) (h : Below w.heap.size w w') : Ext w g w' g :=
  ⟨h.os, h.tape, h.output, h.size, Nat.le_refl _, fun _ _ => rfl, fun _ _ => rfl, fun _ _ => rfl, fun b hb hn => ⟨hn, h.block b hb⟩, fun b k hb hk => ⟨k, hk, Nat.le_refl _, fun o _ => World.cell?_of_block (w := w) (h.block b hb)⟩⟩

theorem inv_below {w w' : World} {g : G} {st : St} (hi : Inv w g st) (h : Below w.heap.size w w') : Inv w' g st := by
  have he' := below_ext g h
  refine ⟨hi.next, hi.pos, hi.fresh, fun l hl => Nat.lt_of_lt_of_le (hi.lt l hl) h.size, hi.inj, ?_, ?_, ?_⟩
  · intro l e s n hl
    obtain ⟨h1, h2, h3, h4⟩ := hi.own l e s n hl
    refine ⟨h1, h2, h3, fun hnl => ?_⟩
    obtain ⟨cur, k1, k2, k3⟩ := h4 hnl
    exact ⟨cur, by rw [h.block _ (Array.getElem?_eq_some_iff.1 k1).1]; exact k1, k2, k3⟩
  · intro l e s cs hl
    obtain ⟨h1, h2, h3⟩ := hi.box l e s cs hl
    refine ⟨h1, h2, fun hnl => ?_⟩
    obtain ⟨cur, k1, k2, k3, k4, k5⟩ := h3 hnl
    exact ⟨cur, by rw [h.block _ (Array.getElem?_eq_some_iff.1 k1).1]; exact k1, k2, k3, RepL.mono he' _ _ k4, k5⟩
  · intro l ag ks es hl
    have hm := hi.mp l ag ks es hl
    exact hm.keep he' (hi.map_lt hl) (h.block _ hm.blk_lt) rfl

/-- A row that a call has laid is taken in as a box. -/
theorem adopt_row {w w' : World} {g : G} {st : St} (hi : Inv w g st) (h : Below w.heap.size w w') {e : TypeId} {v : Value} {zs : List Value} {cs : List LV} (hrow : w'.ownsRow w.heap.size e 1 v zs.length zs) (hr : ∀ w g, RepL w g cs zs) :
    ∃ g', Rep w' g' (.ms st.next 0 zs.length) v ∧ Inv w' g' (st.new (.box e 1 cs)) ∧ Ext w g w' g' := by
  have hi' := inv_below hi h
  have hcl : cs.length = zs.length := repL_length _ _ (hr w g)
  rcases hrow.2 with ⟨rfl, hn⟩ | ⟨b, cap, cur, rfl, hb, hcur, h1, h2, h3, h4⟩
  · have hcs : cs = [] := List.eq_nil_of_length_eq_zero (by omega)
    subst hcs
    refine ⟨g.addNil, ?_, inv_nil hi' _ (.inr ⟨_, _, rfl⟩), (below_ext g h).trans (ext_nil w' g)⟩
    simp only [Rep, hn]
    exact ⟨none, 0, rfl, Nat.le_refl _, Nat.zero_le _, by simp [G.addNil, hi.next], by simp, by simp [G.addNil, hi.next]⟩
  · have hnx := hi.next
    have hext : Ext w g w' (g.add b 0 cap false) := by
      refine ⟨h.os, h.tape, h.output, h.size, Nat.le_succ _, ?_, ?_, ?_, ?_, ?_⟩
      · intro l hl; simp [G.add, Nat.ne_of_lt hl]
      · intro l hl; simp [G.add, Nat.ne_of_lt hl]
      · intro l hl; simp [G.add, Nat.ne_of_lt hl]
      · intro x hx hn; exact ⟨by simp only [G.add]; rw [if_neg (by omega)]; exact hn, h.block x hx⟩
      · intro x k hx hk; exact ⟨k, by simp only [G.add]; rw [if_neg (by omega)]; exact hk, Nat.le_refl _, fun o _ => World.cell?_of_block (w := w) (h.block x hx)⟩
    have hold : ∀ l, blk g st l → g.β l ≠ b := fun l hl => by have := hi.lt l hl; omega
    have hblt : b < w'.heap.size := (Array.getElem?_eq_some_iff.1 hcur).1
    refine ⟨g.add b 0 cap false, ?_, ?_, hext⟩
    · simp only [Rep, G.add, hnx, if_pos]
      exact ⟨_, cap, rfl, h1, h2, fun _ => ⟨rfl, fun _ => rfl⟩, fun _ => rfl, Nat.lt_succ_self _⟩
    · refine ⟨by simp [G.add, St.new, hnx], by simp [St.new], ?_, ?_, ?_, ?_, ?_, ?_⟩
      · intro l hl
        simp only [St.new] at hl ⊢
        rw [if_neg (by omega)]
        exact hi.fresh l (by omega)
      · intro l hl
        by_cases e0 : l = st.next
        · subst e0; simp [G.add, hnx, hblt]
        · rw [blk_old hnx e0] at hl
          have := hi'.lt l hl
          simp only [G.add, hnx, if_neg e0]; exact this
      · intro l l' hl hl' hbb
        by_cases e0 : l = st.next <;> by_cases e1 : l' = st.next
        · omega
        · rw [blk_old hnx e1] at hl'
          simp only [G.add, hnx, if_pos e0, if_neg e1] at hbb
          exact absurd hbb.symm (hold l' hl')
        · rw [blk_old hnx e0] at hl
          simp only [G.add, hnx, if_pos e1, if_neg e0] at hbb
          exact absurd hbb (hold l hl)
        · rw [blk_old hnx e0] at hl
          rw [blk_old hnx e1] at hl'
          simp only [G.add, hnx, if_neg e1, if_neg e0] at hbb
          exact hi.inj l l' hl hl' hbb
      · intro l e' s n hl
        by_cases e0 : l = st.next
        · simp [St.new, e0] at hl
        · simp only [St.new, if_neg e0] at hl
          obtain ⟨q1, q2, q3, q4⟩ := hi'.own l e' s n hl
          simp only [G.add, hnx, if_neg e0]
          refine ⟨q1, q2, q3, fun hnl => ?_⟩
          obtain ⟨c', k1, k2, k3⟩ := q4 hnl
          have hne := hold l (by unfold blk; rw [hl]; exact hnl)
          exact ⟨c', k1, k2, by rw [if_neg hne]; exact k3⟩
      · intro l e' s' cs' hl
        by_cases e0 : l = st.next
        · simp only [St.new, if_pos e0] at hl
          injection hl with a1 a2 a3
          subst a1 a2 a3
          refine ⟨?_, ?_, fun _ => ⟨cur.toList, ?_, ?_, ?_, ?_, ?_⟩⟩
          · simp only [G.add, hnx, if_pos e0]; exact h2
          · simp [G.add, hnx, e0]
          · simp only [G.add, hnx, if_pos e0]; simpa using hcur
          · simp only [G.add, hnx, if_pos e0]; simpa using h3
          · simp only [Array.length_toList]; omega
          · have : cur.toList.take cs.length = zs := by rw [hcl]; simpa using h4
            rw [this]; exact hr _ _
          · simp [G.add, hnx, e0]
        · simp only [St.new, if_neg e0] at hl
          obtain ⟨k3, k0, k'⟩ := hi'.box l e' s' cs' hl
          refine ⟨?_, ?_, fun hnl => ?_⟩
          · simp only [G.add, hnx, if_neg e0]; exact k3
          · simp only [G.add, hnx, if_neg e0]; exact k0
          simp only [G.add, hnx, if_neg e0] at hnl
          obtain ⟨cur', k1, k2, k4, k5, k6⟩ := k' hnl
          have hne := hold l (by unfold blk; rw [hl]; exact hnl)
          obtain ⟨_, _, k'⟩ := hi.box l e' s' cs' hl
          obtain ⟨cur2, m1, m2, m4, m5, m6⟩ := k' hnl
          have hlt := (Array.getElem?_eq_some_iff.1 m1).1
          refine ⟨cur2, ?_, ?_, m4, RepL.mono hext _ _ m5, ?_⟩
          · simp only [G.add, hnx, if_neg e0]; rw [h.block _ hlt]; exact m1
          · simp only [G.add, hnx, if_neg e0]; exact m2
          · simp only [G.add, hnx, if_neg e0]; rw [if_neg hne]; exact m6
      · intro l ag ks es hl
        by_cases e0 : l = st.next
        · simp [St.new, e0] at hl
        · simp only [St.new, if_neg e0] at hl
          have hm := hi.mp l ag ks es hl
          exact hm.keep hext (hi.map_lt hl) (h.block _ hm.blk_lt) (by simp only [G.add]; rw [if_neg (hold l (hi.map_blk hl))])

theorem repL_us (w : World) (g : G) : ∀ l : List Int, RepL w g (us l) (l.map (Value.int .u32))
  | [] => by simp [RepL]
  | a :: l => by simp only [List.map_cons, RepL, Rep]; exact ⟨_, _, rfl, rfl, repL_us w g l⟩
theorem us_vals {w : World} {g : G} : ∀ (l : List Int) (ws : List Value), RepL w g (us l) ws → ws = l.map (Value.int .u32)
  | [], ws, h => by simpa [RepL] using h
  | a :: l, ws, h => by
    simp only [List.map_cons, RepL, Rep] at h
    obtain ⟨v, ws', rfl, rfl, h2⟩ := h
    rw [us_vals l ws' h2]; rfl

theorem Collect (l : List Int) (x : LV) (q : Nat) (st : St) (hl : l.length ≤ 1048576) (hH : st.H q = .box 22 1 [x]) (hx : srcT tab 22 st x = some (l.length, us l)) :
    ACalls Tryz.prog 229 [.fn (.func 230) [.pt q 0]] st fun r st' => r = .ms st.next 0 l.length ∧ st' = st.new (.box 29 1 (us l)) := by
  refine ⟨enters_of Tryz.func229 (by kernel_rfl) rfl, fun w g vs hi hr => ?_⟩
  simp only [RepL, Rep] at hr
  obtain ⟨v, _, rfl, ⟨us1, rfl, v1, _, rfl, ⟨rfl, hq⟩, rfl⟩, rfl⟩ := hr
  obtain ⟨_, b2, b3⟩ := hi.box q _ _ _ hH
  have hnl : g.nl q = false := by
    cases hn : g.nl q with
    | false => rfl
    | true => obtain ⟨_, h⟩ := b2 hn; cases h
  obtain ⟨cur, k1, k2, k3, k4, k5⟩ := b3 hnl
  simp only [List.length_cons, List.length_nil, Nat.zero_add, RepL] at k4 k3
  obtain ⟨sv, rest, hsv, hrep, _⟩ := k4
  have hc0 : w.cell? ⟨g.β q, 0, none⟩ = some sv := by
    rw [cell_of_row w _ _ _ _ _ k1]
    cases cur with
    | nil => simp at k3
    | cons a cur => simp at hsv; simp [hsv.1]
  have hI : Rg.Ints w.heap.size w sv l := by
    obtain ⟨A, cap, rfl, hrw⟩ := src_sound hi hx hrep
    by_cases hl0 : l = []
    · subst hl0; exact .inl ⟨rfl, A, cap, rfl⟩
    · obtain ⟨b, o, ws, rfl, m1, m2⟩ := hrw (by cases l with | nil => exact absurd rfl hl0 | cons a l => simp)
      have hws := us_vals l ws m1
      refine .inr ⟨b, o, cap, rfl, ?_, fun j hj => ?_⟩
      · have h0 := m2 0 (by cases l with | nil => exact absurd rfl hl0 | cons a l => simp)
        rw [hws] at h0
        cases l with
        | nil => exact absurd rfl hl0
        | cons a l => exact cell_lt (a := ⟨b, o + 0, none⟩) (v := .int .u32 a) (by simpa using h0)
      · rw [m2 j (by simpa using hj), hws]
        simp [hj]
  refine (((Rg.collect_in Fence.wide 4 trivial trivial trivial rfl (Nat.le_refl _) (g.β q) sv l hl w (cell_lt hc0) hc0 hI).calls room_wide)).mono ?_
  rintro e w' ⟨v, rfl, hrow, hbel⟩
  have hlen : l.length = (l.map (Value.int .u32)).length := by simp
  rw [hlen] at hrow
  obtain ⟨g', h1, h2, h3⟩ := adopt_row (cs := us l) hi hbel hrow (fun w g => repL_us w g l)
  rw [← hlen] at h1
  exact ⟨v, _, _, g', rfl, ⟨rfl, rfl⟩, h1, h2, h3⟩

/-- The evaluator's own word for Collect(Values(..)). -/
def prim : XCall := fun f args st => if f = 229 then match args with
    | [.fn (.func g) [.pt q 0]] => if g = 230 then match st.H q with
        | .box e s [x] => if e = 22 ∧ s = 1 then match srcT tab 22 st x with
            | some (n, ds) => match intsL ds with
              | some (ks, ns) => if (ks.all fun k => decide (k = .u32)) = true ∧ ns.length = n ∧ n ≤ 1048576 then some [(.ms st.next 0 n, st.new (.box 29 1 (us ns)))] else none
              | none => none
            | none => none
          else none
        | _ => none
      else none
    | _ => none
  else none

theorem intsL_us : ∀ (ds : List LV) (ks : List IntKind) (ns : List Int), intsL ds = some (ks, ns) → (ks.all fun k => decide (k = .u32)) = true → ds = us ns
  | [], ks, ns, h, _ => by simp only [intsL, Option.some.injEq, Prod.mk.injEq] at h; obtain ⟨rfl, rfl⟩ := h; rfl
  | c :: ds, ks, ns, h, ha => by
    cases c with
    | atom x =>
      cases x with
      | int k n =>
        simp only [intsL] at h
        cases hi : intsL ds with
        | none => simp [hi] at h
        | some p =>
          obtain ⟨ks', ns'⟩ := p
          simp only [hi, Option.some.injEq, Prod.mk.injEq] at h
          obtain ⟨rfl, rfl⟩ := h
          simp only [List.all_cons, Bool.and_eq_true, decide_eq_true_eq] at ha
          obtain ⟨rfl, ha⟩ := ha
          rw [intsL_us ds ks' ns' hi ha]; rfl
      | _ => simp [intsL] at h
    | _ => simp [intsL] at h

theorem prim_ok : CallOk Tryz.prog prim := by
  intro f args st rs h
  unfold prim at h
  split at h
  · rename_i hf
    subst hf
    split at h
    · rename_i g q
      split at h
      · rename_i hg
        subst hg
        split at h
        · rename_i e s x hH
          split at h
          · rename_i hes
            obtain ⟨rfl, rfl⟩ := hes
            split at h
            · rename_i n ds hsrc
              split at h
              · rename_i ks ns hin
                split at h
                · rename_i hc
                  obtain ⟨c1, rfl, c3⟩ := hc
                  injection h with h
                  subst h
                  have := intsL_us ds ks ns hin c1
                  subst this
                  exact (Collect ns x q st c3 hH hsrc).mono (by rintro r st' ⟨rfl, rfl⟩; simp)
                · cases h
              · cases h
            · cases h
          · cases h
        · cases h
      · cases h
    · cases h
  · cases h

end Go.Proofs.YtaiakdhcajibnaaGreat.Aw

namespace Go.Proofs.YtaiakdhcajibnaaGreat.Aw
open Go Go.RowKit
set_option linter.unusedSimpArgs false
set_option linter.unusedVariables false
theorem awake09 (st : St) : ACalls Tryz.prog 155 [] st fun r st' => r = bb true ∧ st' = st :=
  acalls_closed tabOk fnsOk prim_ok mixed 1000000 true (by kernel_rfl)
theorem awake10 (st : St) : ACalls Tryz.prog 134 [] st fun r st' => r = bb true ∧ st' = st :=
  acalls_closed tabOk fnsOk prim_ok mixed 1000000 true (by kernel_rfl)
theorem awake11 (st : St) : ACalls Tryz.prog 27 [] st fun r st' => r = bb true ∧ st' = st :=
  acalls_closed tabOk fnsOk prim_ok mixed 1000000 true (by kernel_rfl)
theorem awake13 (st : St) : ACalls Tryz.prog 44 [] st fun r st' => r = bb true ∧ st' = st :=
  acalls_closed tabOk fnsOk prim_ok mixed 1000000 true (by kernel_rfl)
theorem awake32 (st : St) : ACalls Tryz.prog 14 [] st fun r st' => r = bb true ∧ st' = st :=
  acalls_closed tabOk fnsOk prim_ok mixed 1000000 true (by kernel_rfl)
end Go.Proofs.YtaiakdhcajibnaaGreat.Aw

namespace Go.Proofs.YtaiakdhcajibnaaGreat.Aw
open Go Go.RowKit Go.Proofs.YtaiakdhcajibnaaGreat.Pl
set_option linter.unusedSimpArgs false
set_option linter.unusedVariables false

@[simp] theorem new_set (st : St) (a b : LObj) : (st.new a).set st.next b = st.new b := St.ext' rfl fun y => by by_cases hy : y = st.next <;> simp [hy]

theorem eds_length (l : List Ed) : (eds l).length = l.length * 3 := by
  induction l with
  | nil => rfl
  | cons e l ih => simp only [eds, List.flatMap_cons, List.length_append, List.length_cons, List.length_nil] at ih ⊢; omega
abbrev ed0 : Ed := ⟨0, 0, 0⟩
theorem eds_drop (l : List Ed) (k : Nat) (hk : k < l.length) : (eds l).drop (k * 3) = u (l.getD k ed0).id :: u (l.getD k ed0).a :: u (l.getD k ed0).b :: eds (l.drop (k + 1)) := by
  induction l generalizing k with
  | nil => simp at hk
  | cons e l ih =>
    cases k with
    | zero => rfl
    | succ k =>
      have : (k + 1) * 3 = k * 3 + 1 + 1 + 1 := by omega
      rw [this]
      simp only [eds, List.flatMap_cons, edL, List.cons_append, List.drop_succ_cons, List.nil_append, List.getD_cons_succ]
      exact ih k (by simpa using hk)

/-- The first of some numbers that isn't 0. -/
def firstNZ (f : Nat → Int) : Nat → Int
  | 0 => 0
  | n + 1 => if firstNZ f n ≠ 0 then firstNZ f n else f n
theorem firstNZ_zero {f : Nat → Int} {n : Nat} (h : ∀ j, j < n → f j = 0) : firstNZ f n = 0 := by
  induction n with
  | zero => rfl
  | succ n ih => simp [firstNZ, ih (fun j hj => h j (by omega)), h n (by omega)]
theorem firstNZ_eq {f : Nat → Int} {n k : Nat} {v : Int} (hk : k < n) (h : ∀ j, j < k → f j = 0) (hv : f k = v) (h0 : v ≠ 0) : firstNZ f n = v := by
  induction n with
  | zero => omega
  | succ n ih =>
    rcases Nat.lt_or_ge k n with h1 | h1
    · have := ih h1
      simp [firstNZ, this, h0]
    · have : k = n := by omega
      subst this
      simp [firstNZ, firstNZ_zero h, hv]

def numb (n ahead : Int) (first : Bool) : Int := if n < 1 ∨ 1048576 < n then 2 else if first = false ∧ n ≤ ahead then 19 else 0
def badV (g : Gr) (k : Nat) : Int := numb (g.vs.getD k 0) (g.vs.getD (k - 1) 0) (decide (k = 0))
def badE (g : Gr) (k : Nat) : Int :=
  let x := g.es.getD k ed0
  let n := numb x.id (g.es.getD (k - 1) ed0).id (decide (k = 0))
  if n ≠ 0 then n else if x.a = x.b then 20 else if x.a ∉ g.vs ∨ x.b ∉ g.vs then 21 else 0
/-- What Check answers. -/
def chk (g : Gr) : Int := if 64 < g.vs.length ∨ 160 < g.es.length then 6 else if firstNZ (badV g) g.vs.length ≠ 0 then firstNZ (badV g) g.vs.length else firstNZ (badE g) g.es.length

theorem Has (g : Gr) (v : Int) (st : St) (hl : small g.vs) :
    ACalls Tryz.prog 98 [.ag (grL g), u v] st fun r st' => r = bb (decide (v ∈ g.vs)) ∧ Keeps st st' := by
  obtain ⟨l, es⟩ := g
  simp only at hl ⊢
  unfold small at hl
  refine acalls_of_body tabOk Tryz.func98 rfl rfl Tryz.ntmps98 (rs := [.tmp 4]) rfl (by simp) ?_
  (repeat' (first | refine awp_seq ?_ | refine awp_block ?_ | ((first | refine awp_skip ?_ | refine awp_exit ?_); simp only [ak, reduceIte]) | (refine awp_ret ?_; simp only [ak, reduceIte]; simp []) | (refine awp_cond ?_; simp []; (try with_reducible refine ⟨?_, ?_⟩) <;> (try with_reducible intro hc) <;> try (exfalso; omega)) | ((first | (refine w_e [] ?_; intro J hJ; simp only []) | (refine w_q ?_; intro J hJ) | refine e_go ?_); simp []; (repeat refine ca ?_); (try ((try with_reducible refine ⟨?_, ?_⟩) <;> (try with_reducible intro hnil) <;> refine hJ _ _ ?_ <;> clear hJ J <;> simp only [ak, reduceIte] <;> try subst hnil)))))
  refine awp_loop (fun n fr st' => ∃ k : Nat, k ≤ l.length ∧ n = l.length - k ∧ fr 8 = .sl 0 l.length (us l) ∧ fr 1 = u v ∧ fr 9 = i l.length ∧ fr 10 = i k ∧ Keeps st st' ∧ ∀ j (hj : j < l.length), j < k → l[j] ≠ v) l.length ?_ ?_
  · exact ⟨0, by omega, by omega, by simp, by simp, by simp, by simp, Keeps.new _ _, fun j _ h => by omega⟩
  rintro n fr st' ⟨k, hk, rfl, h8, h1, h9, h10, hkp, hno⟩ JJ hJJ
  by_cases hlt : k < l.length
  · have hd := us_drop_head l k hlt
    have hw := nat_add_one k (by omega)
    (repeat' (first | refine awp_seq ?_ | refine awp_block ?_ | ((first | refine awp_skip ?_ | refine awp_exit ?_); simp only [ak, reduceIte]) | (refine awp_ret ?_; simp only [ak, reduceIte]; simp [h8, h1, h9, h10, hlt, hd, hw]) | (refine awp_cond ?_; simp [h8, h1, h9, h10, hlt, hd, hw]; (try with_reducible refine ⟨?_, ?_⟩) <;> (try with_reducible intro hc) <;> try (exfalso; omega)) | ((first | (refine w_e [] ?_; intro J hJ; simp only []) | (refine w_q ?_; intro J hJ) | refine e_go ?_); simp [h8, h1, h9, h10, hlt, hd, hw]; (repeat refine ca ?_); (try ((try with_reducible refine ⟨?_, ?_⟩) <;> (try with_reducible intro hnil) <;> refine hJ _ _ ?_ <;> clear hJ J <;> simp only [ak, reduceIte] <;> try subst hnil)))))
    · exact ⟨by rw [← hc]; exact List.getElem_mem hlt, hkp⟩
    · refine hJJ _ _ _ ?_ ⟨k + 1, by omega, rfl, by simp [h8], by simp [h1], by simp [h9], by simp, hkp, fun j hj hjk => ?_⟩
      · omega
      · rcases Nat.lt_or_ge j k with h | h
        · exact hno j hj h
        · obtain rfl : j = k := by omega
          exact hc
  · (repeat' (first | refine awp_seq ?_ | refine awp_block ?_ | ((first | refine awp_skip ?_ | refine awp_exit ?_); simp only [ak, reduceIte]) | (refine awp_ret ?_; simp only [ak, reduceIte]; simp [h8, h1, h9, h10, hlt]) | (refine awp_cond ?_; simp [h8, h1, h9, h10, hlt]; (try with_reducible refine ⟨?_, ?_⟩) <;> (try with_reducible intro hc) <;> try (exfalso; omega)) | ((first | (refine w_e [] ?_; intro J hJ; simp only []) | (refine w_q ?_; intro J hJ) | refine e_go ?_); simp [h8, h1, h9, h10, hlt]; (repeat refine ca ?_); (try ((try with_reducible refine ⟨?_, ?_⟩) <;> (try with_reducible intro hnil) <;> refine hJ _ _ ?_ <;> clear hJ J <;> simp only [ak, reduceIte] <;> try subst hnil)))))
    refine ⟨fun hm => ?_, hkp⟩
    obtain ⟨j, hj, rfl⟩ := List.getElem_of_mem hm
    exact hno j hj (by omega) rfl

theorem Vert (g : Gr) (v : Int) (st : St) (hl : small g.vs) :
    ACalls Tryz.prog 118 [.ag (grL g), u v] st fun r st' => r = i (gi g.vs v) ∧ Keeps st st' := by
  obtain ⟨l, es⟩ := g
  simp only at hl ⊢
  refine acalls_of_body tabOk Tryz.func118 rfl rfl Tryz.ntmps118 (rs := [.tmp 4]) rfl (by simp) ?_
  (repeat' (first | refine awp_seq ?_ | refine awp_block ?_ | ((first | refine awp_skip ?_ | refine awp_exit ?_); simp only [ak, reduceIte]) | (refine awp_ret ?_; simp only [ak, reduceIte]; simp []) | (refine awp_cond ?_; simp []; (try with_reducible refine ⟨?_, ?_⟩) <;> (try with_reducible intro hc) <;> try (exfalso; omega)) | ((first | (refine w_e [] ?_; intro J hJ; simp only []) | (refine w_q ?_; intro J hJ) | refine e_go ?_); simp []; (repeat refine ca ?_); (try ((try with_reducible refine ⟨?_, ?_⟩) <;> (try with_reducible intro hnil) <;> refine hJ _ _ ?_ <;> clear hJ J <;> simp only [ak, reduceIte] <;> try subst hnil)))))
  refine callK_ofE (Index l 0 v _ hl) (by simp []) ?_; rintro r st' ⟨rfl, rfl⟩
  (repeat' (first | refine awp_seq ?_ | refine awp_block ?_ | ((first | refine awp_skip ?_ | refine awp_exit ?_); simp only [ak, reduceIte]) | (refine awp_ret ?_; simp only [ak, reduceIte]; simp []) | (refine awp_cond ?_; simp []; (try with_reducible refine ⟨?_, ?_⟩) <;> (try with_reducible intro hc) <;> try (exfalso; omega)) | ((first | (refine w_e [] ?_; intro J hJ; simp only []) | (refine w_q ?_; intro J hJ) | refine e_go ?_); simp []; (repeat refine ca ?_); (try ((try with_reducible refine ⟨?_, ?_⟩) <;> (try with_reducible intro hnil) <;> refine hJ _ _ ?_ <;> clear hJ J <;> simp only [ak, reduceIte] <;> try subst hnil)))))
  exact Keeps.new _ _

theorem number (n ahead : Int) (first : Bool) (st : St) :
    ACalls Tryz.prog 228 [u n, u ahead, bb first] st fun r st' => r = i (numb n ahead first) ∧ st' = st := by
  unfold numb
  refine acalls_of_body tabOk Tryz.func228 rfl rfl Tryz.ntmps228 (rs := [.tmp 6]) rfl (by simp) ?_
  by_cases h1 : n < 1
  · (repeat' (first | refine awp_seq ?_ | refine awp_block ?_ | ((first | refine awp_skip ?_ | refine awp_exit ?_); simp only [ak, reduceIte]) | (refine awp_ret ?_; simp only [ak, reduceIte]; simp [h1]) | (refine awp_cond ?_; simp [h1]; (try with_reducible refine ⟨?_, ?_⟩) <;> (try with_reducible intro hc) <;> try (exfalso; omega)) | ((first | (refine w_e [] ?_; intro J hJ; simp only []) | (refine w_q ?_; intro J hJ) | refine e_go ?_); simp [h1]; (repeat refine ca ?_); (try ((try with_reducible refine ⟨?_, ?_⟩) <;> (try with_reducible intro hnil) <;> refine hJ _ _ ?_ <;> clear hJ J <;> simp only [ak, reduceIte] <;> try subst hnil)))))
  by_cases h2 : 1048576 < n
  · (repeat' (first | refine awp_seq ?_ | refine awp_block ?_ | ((first | refine awp_skip ?_ | refine awp_exit ?_); simp only [ak, reduceIte]) | (refine awp_ret ?_; simp only [ak, reduceIte]; simp [h1, h2]) | (refine awp_cond ?_; simp [h1, h2]; (try with_reducible refine ⟨?_, ?_⟩) <;> (try with_reducible intro hc) <;> try (exfalso; omega)) | ((first | (refine w_e [] ?_; intro J hJ; simp only []) | (refine w_q ?_; intro J hJ) | refine e_go ?_); simp [h1, h2]; (repeat refine ca ?_); (try ((try with_reducible refine ⟨?_, ?_⟩) <;> (try with_reducible intro hnil) <;> refine hJ _ _ ?_ <;> clear hJ J <;> simp only [ak, reduceIte] <;> try subst hnil)))))
  cases first
  · by_cases h3 : n ≤ ahead
    · (repeat' (first | refine awp_seq ?_ | refine awp_block ?_ | ((first | refine awp_skip ?_ | refine awp_exit ?_); simp only [ak, reduceIte]) | (refine awp_ret ?_; simp only [ak, reduceIte]; simp [h1, h2, h3]) | (refine awp_cond ?_; simp [h1, h2, h3]; (try with_reducible refine ⟨?_, ?_⟩) <;> (try with_reducible intro hc) <;> try (exfalso; omega)) | ((first | (refine w_e [] ?_; intro J hJ; simp only []) | (refine w_q ?_; intro J hJ) | refine e_go ?_); simp [h1, h2, h3]; (repeat refine ca ?_); (try ((try with_reducible refine ⟨?_, ?_⟩) <;> (try with_reducible intro hnil) <;> refine hJ _ _ ?_ <;> clear hJ J <;> simp only [ak, reduceIte] <;> try subst hnil)))))
    · (repeat' (first | refine awp_seq ?_ | refine awp_block ?_ | ((first | refine awp_skip ?_ | refine awp_exit ?_); simp only [ak, reduceIte]) | (refine awp_ret ?_; simp only [ak, reduceIte]; simp [h1, h2, h3]) | (refine awp_cond ?_; simp [h1, h2, h3]; (try with_reducible refine ⟨?_, ?_⟩) <;> (try with_reducible intro hc) <;> try (exfalso; omega)) | ((first | (refine w_e [] ?_; intro J hJ; simp only []) | (refine w_q ?_; intro J hJ) | refine e_go ?_); simp [h1, h2, h3]; (repeat refine ca ?_); (try ((try with_reducible refine ⟨?_, ?_⟩) <;> (try with_reducible intro hnil) <;> refine hJ _ _ ?_ <;> clear hJ J <;> simp only [ak, reduceIte] <;> try subst hnil)))))
  · (repeat' (first | refine awp_seq ?_ | refine awp_block ?_ | ((first | refine awp_skip ?_ | refine awp_exit ?_); simp only [ak, reduceIte]) | (refine awp_ret ?_; simp only [ak, reduceIte]; simp [h1, h2]) | (refine awp_cond ?_; simp [h1, h2]; (try with_reducible refine ⟨?_, ?_⟩) <;> (try with_reducible intro hc) <;> try (exfalso; omega)) | ((first | (refine w_e [] ?_; intro J hJ; simp only []) | (refine w_q ?_; intro J hJ) | refine e_go ?_); simp [h1, h2]; (repeat refine ca ?_); (try ((try with_reducible refine ⟨?_, ?_⟩) <;> (try with_reducible intro hnil) <;> refine hJ _ _ ?_ <;> clear hJ J <;> simp only [ak, reduceIte] <;> try subst hnil)))))

end Go.Proofs.YtaiakdhcajibnaaGreat.Aw

namespace Go.Proofs.YtaiakdhcajibnaaGreat.Aw
open Go Go.RowKit
set_option linter.unusedSimpArgs false
set_option linter.unusedVariables false

def stp (k id a b pa pb : Int) : LV := .ag [i k, u id, u a, u b, u pa, u pb]
theorem Link (x : Ed) (pa pb : Int) (st : St) : ACalls Tryz.prog 28 [.ag (edL x), u pa, u pb] st fun r st' => r = stp 3 x.id x.a x.b pa pb ∧ Keeps st st' := by
  obtain ⟨xi, xa, xb⟩ := x
  refine acalls_of_body tabOk Tryz.func28 rfl rfl Tryz.ntmps28 (rs := [.cell 6 52]) rfl (by simp) ?_
  (repeat' (first | refine awp_seq ?_ | refine awp_block ?_ | ((first | refine awp_skip ?_ | refine awp_exit ?_); simp only [ak, reduceIte]) | (refine awp_ret ?_; simp only [ak, reduceIte]; simp []) | (refine awp_cond ?_; simp []; (try with_reducible refine ⟨?_, ?_⟩) <;> (try with_reducible intro hc) <;> try (exfalso; omega)) | ((first | (refine w_e [] ?_; intro J hJ; simp only []) | (refine w_q ?_; intro J hJ) | refine e_go ?_); simp []; (repeat refine ca ?_); (try ((try with_reducible refine ⟨?_, ?_⟩) <;> (try with_reducible intro hnil) <;> refine hJ _ _ ?_ <;> clear hJ J <;> simp only [ak, reduceIte] <;> try subst hnil)))))
  first | exact ⟨rfl, (Keeps.new _ _).trans (Keeps.new _ _)⟩ | exact (Keeps.new _ _).trans (Keeps.new _ _) | exact ⟨rfl, ((Keeps.new _ _).trans (Keeps.new _ _)).set (by simp) _⟩
theorem NoLink (n : Int) (st : St) : ACalls Tryz.prog 29 [u n] st fun r st' => r = stp 4 n 0 0 0 0 ∧ Keeps st st' := by
  refine acalls_of_body tabOk Tryz.func29 rfl rfl Tryz.ntmps29 (rs := [.cell 2 52]) rfl (by simp) ?_
  (repeat' (first | refine awp_seq ?_ | refine awp_block ?_ | ((first | refine awp_skip ?_ | refine awp_exit ?_); simp only [ak, reduceIte]) | (refine awp_ret ?_; simp only [ak, reduceIte]; simp []) | (refine awp_cond ?_; simp []; (try with_reducible refine ⟨?_, ?_⟩) <;> (try with_reducible intro hc) <;> try (exfalso; omega)) | ((first | (refine w_e [] ?_; intro J hJ; simp only []) | (refine w_q ?_; intro J hJ) | refine e_go ?_); simp []; (repeat refine ca ?_); (try ((try with_reducible refine ⟨?_, ?_⟩) <;> (try with_reducible intro hnil) <;> refine hJ _ _ ?_ <;> clear hJ J <;> simp only [ak, reduceIte] <;> try subst hnil)))))
  first | exact ⟨rfl, Keeps.new _ _⟩ | exact Keeps.new _ _
theorem Vertex (n : Int) (st : St) : ACalls Tryz.prog 30 [u n] st fun r st' => r = stp 1 n 0 0 0 0 ∧ Keeps st st' := by
  refine acalls_of_body tabOk Tryz.func30 rfl rfl Tryz.ntmps30 (rs := [.cell 2 52]) rfl (by simp) ?_
  (repeat' (first | refine awp_seq ?_ | refine awp_block ?_ | ((first | refine awp_skip ?_ | refine awp_exit ?_); simp only [ak, reduceIte]) | (refine awp_ret ?_; simp only [ak, reduceIte]; simp []) | (refine awp_cond ?_; simp []; (try with_reducible refine ⟨?_, ?_⟩) <;> (try with_reducible intro hc) <;> try (exfalso; omega)) | ((first | (refine w_e [] ?_; intro J hJ; simp only []) | (refine w_q ?_; intro J hJ) | refine e_go ?_); simp []; (repeat refine ca ?_); (try ((try with_reducible refine ⟨?_, ?_⟩) <;> (try with_reducible intro hnil) <;> refine hJ _ _ ?_ <;> clear hJ J <;> simp only [ak, reduceIte] <;> try subst hnil)))))
  first | exact ⟨rfl, Keeps.new _ _⟩ | exact Keeps.new _ _
theorem NoVertex (n : Int) (st : St) : ACalls Tryz.prog 31 [u n] st fun r st' => r = stp 2 n 0 0 0 0 ∧ Keeps st st' := by
  refine acalls_of_body tabOk Tryz.func31 rfl rfl Tryz.ntmps31 (rs := [.cell 2 52]) rfl (by simp) ?_
  (repeat' (first | refine awp_seq ?_ | refine awp_block ?_ | ((first | refine awp_skip ?_ | refine awp_exit ?_); simp only [ak, reduceIte]) | (refine awp_ret ?_; simp only [ak, reduceIte]; simp []) | (refine awp_cond ?_; simp []; (try with_reducible refine ⟨?_, ?_⟩) <;> (try with_reducible intro hc) <;> try (exfalso; omega)) | ((first | (refine w_e [] ?_; intro J hJ; simp only []) | (refine w_q ?_; intro J hJ) | refine e_go ?_); simp []; (repeat refine ca ?_); (try ((try with_reducible refine ⟨?_, ?_⟩) <;> (try with_reducible intro hnil) <;> refine hJ _ _ ?_ <;> clear hJ J <;> simp only [ak, reduceIte] <;> try subst hnil)))))
  first | exact ⟨rfl, Keeps.new _ _⟩ | exact Keeps.new _ _

theorem SketchMakes (x : Ed) (pa pb : Int) (st : St) : ACalls Tryz.prog 4 [.ag (edL x), u pa, u pb] st fun r st' => r = bb true := by
  obtain ⟨xi, xa, xb⟩ := x
  refine acalls_of_body tabOk Tryz.func4 rfl rfl Tryz.ntmps4 (rs := [.tmp 6]) rfl (by simp) ?_
  (repeat' (first | refine awp_seq ?_ | refine awp_block ?_ | ((first | refine awp_skip ?_ | refine awp_exit ?_); simp only [ak, reduceIte]) | (refine awp_ret ?_; simp only [ak, reduceIte]; simp []) | (refine awp_cond ?_; simp []; (try with_reducible refine ⟨?_, ?_⟩) <;> (try with_reducible intro hc) <;> try (exfalso; omega)) | ((first | (refine w_e [] ?_; intro J hJ; simp only []) | (refine w_q ?_; intro J hJ) | refine e_go ?_); simp []; (repeat refine ca ?_); (try ((try with_reducible refine ⟨?_, ?_⟩) <;> (try with_reducible intro hnil) <;> refine hJ _ _ ?_ <;> clear hJ J <;> simp only [ak, reduceIte] <;> try subst hnil)))))
  (refine w_s [] [st.next] [(0, true), (1, true), (2, true), (3, true), (4, true), (6, true), (7, true), (8, true), (9, true), (10, true), (11, true), (12, true), (13, true), (14, true), (5, true), (15, true), (16, true), (17, true), (18, true), (19, true), (21, true), (22, true), (23, true), (20, true), (24, true), (25, true), (26, true), (27, true), (28, true), (30, true), (31, true), (32, true), (29, true), (33, true), (34, true), (35, true), (36, true), (37, true), (39, true), (40, true), (41, true), (38, true), (42, true), (43, true), (44, true)] ?_; intro J hJ; simp []; (repeat refine ca ?_); (try ((try with_reducible refine ⟨?_, ?_⟩) <;> (try with_reducible intro hnil) <;> refine hJ _ _ ?_ <;> clear hJ J <;> simp only [ak, reduceIte] <;> try subst hnil)))
  refine dcallK_ofE (awake11 _) (by simp) ?_; rintro r s1 ⟨rfl, rfl⟩
  refine ⟨fun _ => by simp, ?_⟩
  (refine d_go ?_; simp []; (repeat refine ca ?_); (try ((try with_reducible refine ⟨?_, ?_⟩) <;> (try with_reducible intro hnil) <;> refine hJ _ _ ?_ <;> clear hJ J <;> simp only [ak, reduceIte] <;> try subst hnil)))
  refine dcallK_ofE (Link ⟨xi, xa, xb⟩ pa pb _) (by simp) ?_; rintro r s2 ⟨rfl, hk2⟩
  have hn2 := hk2.next
  have hX2 := hk2.H st.next (by simp)
  simp only [new_H, new_next, if_true] at hX2 hn2
  refine ⟨fun _ => by simp [hX2], ?_⟩
  (refine d_go ?_; simp [stp, hX2]; (repeat refine ca ?_); (try ((try with_reducible refine ⟨?_, ?_⟩) <;> (try with_reducible intro hnil) <;> refine hJ _ _ ?_ <;> clear hJ J <;> simp only [ak, reduceIte] <;> try subst hnil)))
  refine dcallK_ofE (NoLink xi _) (by simp) ?_; rintro r s3 ⟨rfl, hk3⟩
  have hn3 := hk3.next
  have hX3 := (hk3.H st.next (by omega)).trans hX2
  refine ⟨fun _ => by simp [hX2, hX3], ?_⟩
  (refine d_go ?_; simp [stp, hX3]; (repeat refine ca ?_); (try ((try with_reducible refine ⟨?_, ?_⟩) <;> (try with_reducible intro hnil) <;> refine hJ _ _ ?_ <;> clear hJ J <;> simp only [ak, reduceIte] <;> try subst hnil)))
  refine dcallK_ofE (Vertex xa _) (by simp) ?_; rintro r s4 ⟨rfl, hk4⟩
  have hn4 := hk4.next
  have hX4 := (hk4.H st.next (by omega)).trans hX3
  refine ⟨fun _ => by simp [hX2, hX3, hX4], ?_⟩
  (refine d_go ?_; simp [stp, hX4]; (repeat refine ca ?_); (try ((try with_reducible refine ⟨?_, ?_⟩) <;> (try with_reducible intro hnil) <;> refine hJ _ _ ?_ <;> clear hJ J <;> simp only [ak, reduceIte] <;> try subst hnil)))
  refine dcallK_ofE (NoVertex xb _) (by simp) ?_; rintro r s5 ⟨rfl, hk5⟩
  have hX5 := (hk5.H st.next (by omega)).trans hX4
  refine ⟨fun _ => by simp [hX2, hX3, hX4, hX5], ?_⟩
  (refine d_go ?_; simp [stp, hX5]; (repeat refine ca ?_); (try ((try with_reducible refine ⟨?_, ?_⟩) <;> (try with_reducible intro hnil) <;> refine hJ _ _ ?_ <;> clear hJ J <;> simp only [ak, reduceIte] <;> try subst hnil)))
  (repeat' (first | refine awp_seq ?_ | refine awp_block ?_ | ((first | refine awp_skip ?_ | refine awp_exit ?_); simp only [ak, reduceIte]) | (refine awp_ret ?_; simp only [ak, reduceIte]; simp []) | (refine awp_cond ?_; simp []; (try with_reducible refine ⟨?_, ?_⟩) <;> (try with_reducible intro hc) <;> try (exfalso; omega)) | ((first | (refine w_e [] ?_; intro J hJ; simp only []) | (refine w_q ?_; intro J hJ) | refine e_go ?_); simp []; (repeat refine ca ?_); (try ((try with_reducible refine ⟨?_, ?_⟩) <;> (try with_reducible intro hnil) <;> refine hJ _ _ ?_ <;> clear hJ J <;> simp only [ak, reduceIte] <;> try subst hnil)))))
theorem SketchMakes_shp (l0 l1 l2 : List LV) (st : St) (h0 : Shp tab 44 l0) (h1 : Shp tab 29 l1) (h2 : Shp tab 29 l2) : ACalls Tryz.prog 4 [argT tab 44 l0, argT tab 29 l1, argT tab 29 l2] st fun r st' => r = bb true := by
  obtain ⟨x, rfl, _⟩ := shp_ed h0
  obtain ⟨a, rfl, _⟩ := shp_u h1
  obtain ⟨b, rfl, _⟩ := shp_u h2
  exact SketchMakes x a b st

end Go.Proofs.YtaiakdhcajibnaaGreat.Aw
