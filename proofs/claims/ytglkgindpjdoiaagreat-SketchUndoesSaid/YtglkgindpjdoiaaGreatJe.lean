/- slices.Insert of one, at rows of numbers. -/
import Derived.Test.YtglkgindpjdoiaaGreatJd
import Derived.Test.YtglkgindpjdoiaaGreatAwRg
import Derived.Test.YtglkgindpjdoiaaGreatAwMr4
import Derived.Test.YtglkgindpjdoiaaGreatAwSet
import Derived.Test.YtglkgindpjdoiaaGreatAwMr5
import Derived.Test.YtglkgindpjdoiaaGreatAwZ
import Derived.Test.YtglkgindpjdoiaaGreatAwFn
namespace Go.Proofs.YtglkgindpjdoiaaGreat.Aw
open Go Go.RowKit Go.Proofs.YtglkgindpjdoiaaGreat.Pl
set_option linter.unusedSimpArgs false
set_option linter.unusedVariables false
structure InsQ (l n E S : Nat) (cs : List LV) (st : St) (r : LV) (st' : St) : Prop where
  ex : ∃ l', r = .ms l' 0 n ∧ st'.H l' = .box E S cs ∧ l' < st'.next ∧ (l' = l ∨ st.next ≤ l') ∧ ∀ x, x < st.next → x ≠ l → st'.H x = st.H x
  next : st.next ≤ st'.next
theorem ins_grow {a b S : Nat} {P Z xs cs : List LV} (ha : a ≤ b) (hc : cs.length = b) (hP : P = cs.take a) (hZ : Z.length = b + S - a) (hx : xs.length = S) :
    ((P ++ Z).take a ++ (xs ++ (P ++ Z).drop (a + S))).take (a + S) ++ (cs.drop a ++ ((P ++ Z).take a ++ (xs ++ (P ++ Z).drop (a + S))).drop (b + S)) = cs.take a ++ (xs ++ cs.drop a) := by
  have hPl : P.length = a := by rw [hP, List.length_take]; omega
  have e1 : (P ++ Z).take a = P := by rw [← hPl, List.take_left]
  rw [e1]
  have e2 : (P ++ (xs ++ (P ++ Z).drop (a + S))).take (a + S) = P ++ xs := by
    rw [← List.append_assoc, List.take_left' (by simp; omega)]
  have e3 : (P ++ (xs ++ (P ++ Z).drop (a + S))).drop (b + S) = [] := List.drop_of_length_le (by simp; omega)
  rw [e2, e3, List.append_nil, hP, List.append_assoc]
theorem ins_room {a b S : Nat} {B xs cs Y Z : List LV} (ha : a ≤ b) (hc : cs.length = b) (hB : B.take a = cs.take a) (hx : xs.length = S) (hBl : b + S ≤ B.length) :
    ((B.take (a + S) ++ Y).take a ++ (xs ++ (cs.drop a ++ Z))).take (b + S) = cs.take a ++ (xs ++ cs.drop a) := by
  have e1 : (B.take (a + S) ++ Y).take a = cs.take a := by
    rw [List.take_append_of_le_length (by simp; omega), List.take_take, Nat.min_eq_left (by omega), hB]
  rw [e1, ← List.append_assoc xs, ← List.append_assoc, List.take_left' (by simp; omega)]
theorem InsertU (l n k t : Nat) (cs xs : List LV) (st : St) (hn : n ≤ 100000) (hk : k ≤ n) (hc : cs.length = n) (hx : xs.length = 1) (hone : cs.all oneL = true) (honex : xs.all oneL = true) (ht0 : t ≠ 0) (ht : st.H t = .own 29 1 1) (hl : st.H l = .box 29 1 cs) (hlt : l < st.next) :
    ACalls Tryz.prog 96 [.ms l 0 n, i k, .sl t 1 xs] st (InsQ l (n + 1) 29 1 (cs.take k ++ (xs ++ cs.drop k)) st) := by
  refine acalls_kap (acalls_shr ?_)
  refine qO tabOk Tryz.func96 rfl rfl Tryz.ntmps96 (rs := [.tmp 6]) rfl (by simp) ?_
  refine awp_kap 0 rfl hl fun cap x hcap hcx => ?_
  have hBk : ∀ j, j ≤ n → (cs ++ List.replicate x LV.dead).take j = cs.take j := fun j hj => by rw [List.take_append_of_le_length (by omega)]
  have hBd : ((cs ++ List.replicate x LV.dead).drop k).take (n - k) = cs.drop k := by rw [List.drop_append_of_le_length (by omega), List.take_append_of_le_length (by simp; omega), List.take_of_length_le (by simp; omega)]
  have hBl : (cs ++ List.replicate x LV.dead).length = cap := by simp; omega
  generalize cs ++ List.replicate x LV.dead = B at *
  have hw1 : IntKind.i64.wrap (1 : Int) = 1 := by decide
  have hwn : IntKind.i64.wrap ((n : Int) + 1) = (n : Int) + 1 := wrap_small _ (by omega) (by omega)
  have hwk : IntKind.i64.wrap ((k : Int) + 1) = (k : Int) + 1 := wrap_small _ (by omega) (by omega)
  have hwd : IntKind.i64.wrap ((n : Int) + 1 - k) = (n : Int) + 1 - k := wrap_small _ (by omega) (by omega)
  have hne : ¬ t = l := by rintro rfl; rw [ht] at hl; cases hl
  have hne2 : ¬ l = st.next := by omega
  have honed : (cs.drop k).all oneL = true := List.all_eq_true.2 fun y hy => List.all_eq_true.1 hone y (List.mem_of_mem_drop hy)
  by_cases hkn : k = n
  · subst hkn
    (repeat' (first | refine qS ?_ | (refine qK ?_; simp only [ak, reduceIte]) | (refine qR ?_; simp only [ak, reduceIte]; simp [hx, honex, hBl]) | (refine qC ?_; simp [hx, honex, hBl]) | (refine w_e [] ?_; intro J hJ; simp only []; simp [hx, honex, hBl]; (repeat refine ca ?_); (refine hJ _ _ ?_; clear hJ J; simp only [ak, reduceIte]))))
    refine ⟨st.next, _, _, _, if_pos rfl, k + 1, ?_⟩
    refine ⟨⟨st.next, rfl, ?_, by simp, .inr (Nat.le_refl _), fun y hy hyl => by simp [show ¬ y = st.next by omega, hyl]⟩, by simp⟩
    rw [hBk k (by omega), List.take_of_length_le (by omega), List.take_of_length_le (by simp; omega), List.drop_of_length_le (by omega)]
    simp
  have hkn' : ¬ (k : Int) = n := by omega
  by_cases hroom : cap < n + 1
  · have hr1 : (cap : Int) < (n : Int) + 1 := by omega
    have hs1 : k + (n + 1 - k) = n + 1 := by omega
    have hs2 : ((n : Int) + 1).toNat = n + 1 := by omega
    have hs3 : min (n + 1 - k) 1 = 1 := by omega
    have hs5 : k + 1 + (n - k) = n + 1 := by omega
    have hs4 : min (n - k) (n - k) = n - k := by omega
    have hzl : ∀ z : LV, ∀ j, (zerosL [z] j).length = j := fun z j => by
      induction j with
      | zero => rfl
      | succ j ih => simp [zerosL, ih]
    have hzl := hzl (.atom (.int .u32 0))
    generalize hZ : zerosL [LV.atom (.int .u32 0)] = Z at *
    (repeat' (first | refine qS ?_ | (refine qK ?_; simp only [ak, reduceIte]) | (refine qC ?_; simp [hkn', hr1, hwn, hwd, hs1, hs2, hs3, hx, honex, hBl, hzl, hZ]) | (refine w_e [] ?_; intro J hJ; simp only []; simp [hkn', hr1, hwn, hwd, hs1, hs2, hs3, hx, honex, hBl, hzl, hZ]; (repeat refine ca ?_); (refine hJ _ _ ?_; clear hJ J; simp only [ak, reduceIte]))))
    (refine w_s [] [] [(0, true), (1, true), (2, true), (3, true), (4, true), (5, true), (6, true), (7, true), (8, false)] ?_; intro J hJ; simp [hc, hwk, hs1, hs2, hs4, hs5, hx, hBl, hBd, honed, hzl, hne2]; (repeat refine ca ?_); (refine hJ _ _ ?_; clear hJ J; simp only [ak, reduceIte]))
    (repeat' (first | refine qS ?_ | (refine qR ?_; simp only [ak, reduceIte]; simp []) | (refine w_e [] ?_; intro J hJ; simp only []; simp []; (refine hJ _ _ ?_; clear hJ J; simp only [ak, reduceIte]))))
    refine ⟨st.next, _, _, _, if_pos rfl, n + 1, ⟨⟨st.next, rfl, ?_, by simp, .inr (Nat.le_refl _), fun y hy hyl => by simp [show ¬ y = st.next by omega, hyl]⟩, by simp⟩⟩
    rw [ins_grow (a := k) (b := n) (S := 1) hk hc (hBk k hk) (hzl _) hx, set_H, if_pos rfl, List.take_of_length_le (by simp; omega)]
  · have hr1 : ¬ (cap : Int) < (n : Int) + 1 := by omega
    have hs2 : ((n : Int) + 1).toNat = n + 1 := by omega
    have hs5 : k + 1 + (n - k) = n + 1 := by omega
    have hs6 : min (n - k) (n + 1 - k) = n - k := by omega
    have hs7 : min (n + 1 - k) (cap - k) = n + 1 - k := by omega
    have hBd2 : List.take (n - k) (List.take (n + 1 - k) (List.drop k B)) = cs.drop k := by rw [List.take_take, hs6]; exact hBd
    (repeat' (first | refine qS ?_ | (refine w_e [] ?_; intro J hJ; simp only []; simp [hkn', hr1, hwn, hwk]; (repeat refine ca ?_); (refine hJ _ _ ?_; clear hJ J; simp only [ak, reduceIte]))))
    (refine qC ?_; simp [])
    (repeat' (first | refine qS ?_ | (refine qK ?_; simp only [ak, reduceIte]) | (refine w_e [] ?_; intro J hJ; simp only []; simp [hkn', hr1, hwn, hwk]; (refine hJ _ _ ?_; clear hJ J; simp only [ak, reduceIte]))))
    (refine qC ?_; simp [hkn'])
    (repeat' (first | refine qS ?_ | (refine qK ?_; simp only [ak, reduceIte]) | (refine w_e [] ?_; intro J hJ; simp only []; simp [hkn', hr1, hwn, hwk]; (refine hJ _ _ ?_; clear hJ J; simp only [ak, reduceIte]))))
    (refine qC ?_; simp [hr1])
    refine qK ?_; simp only [ak, reduceIte]
    refine qS ?_
    (refine w_e [] ?_; intro J hJ; simp only []; simp [hwn]; (repeat refine ca ?_); (refine hJ _ _ ?_; clear hJ J; simp only [ak, reduceIte]))
    repeat refine qS ?_
    refine w_x [] 6 rfl ?_
    intro J hJ
    simp [hwk]
    (repeat refine ca ?_)
    refine ⟨_, op1_overlaps (tS := 22) (tR := 4) tabOk rfl (Tryz.func123) (by kernel_rfl) (by kernel_rfl) (by kernel_rfl) (by kernel_rfl) rfl rfl rfl rfl ht0 (by simp [hne]; exact ht) (show _ = LObj.box 29 1 B by simp) (by omega) (by first | omega | (simp [hwk, hwn]; omega)) (by omega) (by omega), ?_⟩
    simp
    refine hJ _ _ ?_; clear hJ J; simp only [ak, reduceIte]
    (repeat' (first | refine qS ?_ | (refine qC ?_; simp [])))
    (refine w_s [] [] [(0, true), (1, true), (2, true), (3, true), (4, true), (5, true), (6, true), (7, true), (8, false)] ?_; intro J hJ; simp [hc, hwk, hs2, hs6, hs7, hs5, hx, hBl, hBd2, honed]; (repeat refine ca ?_); (refine hJ _ _ ?_; clear hJ J; simp only [ak, reduceIte]))
    have hs8 : min (n + 1 - k) 1 = 1 := by omega
    have hs9 : k + 1 + (n - k + (cap - (n + 1))) = cap := by omega
    have hs10 : min (k + 1) cap = k + 1 := by omega
    (repeat' (first | refine qS ?_ | (refine qR ?_; simp only [ak, reduceIte]; simp [hx, honex, hBl, hc, hs8, hs9, hs10]) | (refine w_e [] ?_; intro J hJ; simp only []; simp [hx, honex, hBl, hc, hs8, hs9, hs10]; (repeat refine ca ?_); (refine hJ _ _ ?_; clear hJ J; simp only [ak, reduceIte]))))
    refine ⟨l, _, _, _, if_pos rfl, n + 1, .inl ⟨_, _, ⟨rfl, rfl⟩, ⟨⟨l, rfl, ?_, by simp; omega, .inl rfl, fun y hy hyl => by simp [hyl]⟩, by simp⟩⟩⟩
    rw [ins_room (a := k) (b := n) (S := 1) hk hc (hBk k hk) hx (by omega), set_H, if_pos rfl]
theorem ins_growX {a b S p p' q : Nat} {P Z xs cs : List LV} (ha : a ≤ b) (hc : cs.length = b) (hP : P = cs.take a) (hZ : Z.length = b + S - a) (hx : xs.length = S) (hp : p = a + S) (hp' : p' = a + S) (hq : q = b + S) :
    (P ++ (xs ++ (P ++ Z).drop p')).take p ++ (cs.drop a ++ (P ++ (xs ++ (P ++ Z).drop p')).drop q) = cs.take a ++ (xs ++ cs.drop a) := by
  subst hp hp' hq
  have := ins_grow ha hc hP hZ hx
  rwa [List.take_left' (l₁ := P) (l₂ := Z) (by rw [hP, List.length_take]; omega)] at this
theorem ins_roomX {a b S p p' q : Nat} {B xs cs Z : List LV} (ha : a ≤ b) (hc : cs.length = b) (hB : B.take a = cs.take a) (hx : xs.length = S) (hBl : b + S ≤ B.length) (hp : p = a + S) (hp' : p' = a + S) (hq : q = b + S) :
    ((B.take p ++ (cs.drop a ++ Z)).take a ++ (xs ++ (B.take p ++ (cs.drop a ++ Z)).drop p')).take q = cs.take a ++ (xs ++ cs.drop a) := by
  subst hp hp' hq
  have e2 : (B.take (a + S) ++ (cs.drop a ++ Z)).drop (a + S) = cs.drop a ++ Z := List.drop_left' (by simp; omega)
  rw [e2]
  exact ins_room ha hc hB hx hBl
theorem InsertE (l n k t : Nat) (cs xs : List LV) (st : St) (hn : n ≤ 100000) (hk : k ≤ n) (hc : cs.length = n * 3) (hx : xs.length = 3) (hone : cs.all oneL = true) (honex : xs.all oneL = true) (ht0 : t ≠ 0) (ht : st.H t = .own 31 3 1) (hl : st.H l = .box 31 3 cs) (hlt : l < st.next) :
    ACalls Tryz.prog 104 [.ms l 0 n, i k, .sl t 1 xs] st (InsQ l (n + 1) 31 3 (cs.take (k * 3) ++ (xs ++ cs.drop (k * 3))) st) := by
  refine acalls_kap (acalls_shr ?_)
  refine qO tabOk Tryz.func104 rfl rfl Tryz.ntmps104 (rs := [.tmp 6]) rfl (by simp) ?_
  refine awp_kap 0 rfl hl fun cap x hcap hcx => ?_
  have hBk : ∀ j, j ≤ n → (cs ++ List.replicate x LV.dead).take (j * 3) = cs.take (j * 3) := fun j hj => by rw [List.take_append_of_le_length (by omega)]
  have hBd : ((cs ++ List.replicate x LV.dead).drop (k * 3)).take ((n - k) * 3) = cs.drop (k * 3) := by rw [List.drop_append_of_le_length (by omega), List.take_append_of_le_length (by simp; omega), List.take_of_length_le (by simp; omega)]
  have hBl : (cs ++ List.replicate x LV.dead).length = cap * 3 := by simp; omega
  generalize cs ++ List.replicate x LV.dead = B at *
  have hw1 : IntKind.i64.wrap (1 : Int) = 1 := by decide
  have hwn : IntKind.i64.wrap ((n : Int) + 1) = (n : Int) + 1 := wrap_small _ (by omega) (by omega)
  have hwk : IntKind.i64.wrap ((k : Int) + 1) = (k : Int) + 1 := wrap_small _ (by omega) (by omega)
  have hwd : IntKind.i64.wrap ((n : Int) + 1 - k) = (n : Int) + 1 - k := wrap_small _ (by omega) (by omega)
  have hBd3 : List.take ((n - k) * 3) (List.drop (k * 3) cs) = cs.drop (k * 3) := List.take_of_length_le (by simp; omega)
  have hmk : min k cap = k := by omega
  have hne : ¬ t = l := by rintro rfl; rw [ht] at hl; cases hl
  have hne2 : ¬ l = st.next := by omega
  have honed : (cs.drop (k * 3)).all oneL = true := List.all_eq_true.2 fun y hy => List.all_eq_true.1 hone y (List.mem_of_mem_drop hy)
  by_cases hkn : k = n
  · subst hkn
    (repeat' (first | refine qS ?_ | (refine qK ?_; simp only [ak, reduceIte]) | (refine qR ?_; simp only [ak, reduceIte]; simp [hx, honex, hBl]) | (refine qC ?_; simp [hx, honex, hBl]) | (refine w_e [] ?_; intro J hJ; simp only []; simp [hx, honex, hBl]; (repeat refine ca ?_); (refine hJ _ _ ?_; clear hJ J; simp only [ak, reduceIte]))))
    refine ⟨st.next, _, _, _, if_pos rfl, (k + 1) * 3, ?_⟩
    refine ⟨⟨st.next, rfl, ?_, by simp, .inr (Nat.le_refl _), fun y hy hyl => by simp [show ¬ y = st.next by omega, hyl]⟩, by simp⟩
    rw [hBk k (by omega), List.take_of_length_le (by omega), List.take_of_length_le (by simp; omega), List.drop_of_length_le (by omega)]
    simp
  have hkn' : ¬ (k : Int) = n := by omega
  by_cases hroom : cap < n + 1
  · have hr1 : (cap : Int) < (n : Int) + 1 := by omega
    have hs1 : k + (n + 1 - k) = n + 1 := by omega
    have hs2 : ((n : Int) + 1).toNat = n + 1 := by omega
    have hs3 : min (n + 1 - k) 1 = 1 := by omega
    have hs5 : k + 1 + (n - k) = n + 1 := by omega
    have hs4 : min (n - k) (n - k) = n - k := by omega
    have hzl : ∀ z : LV, ∀ j, (zerosL [z, z, z] j).length = j * 3 := fun z j => by
      induction j with
      | zero => rfl
      | succ j ih => simp [zerosL, ih]; omega
    have hzl := hzl (u 0)
    generalize hZ : zerosL [u 0, u 0, u 0] = Z at *
    (repeat' (first | refine qS ?_ | (refine qK ?_; simp only [ak, reduceIte]) | (refine qC ?_; simp [hkn', hr1, hwn, hwd, hs1, hs2, hs3, hx, honex, hBl, hzl, hZ]) | (refine w_e [] ?_; intro J hJ; simp only []; simp [hkn', hr1, hwn, hwd, hs1, hs2, hs3, hx, honex, hBl, hzl, hZ]; (repeat refine ca ?_); (refine hJ _ _ ?_; clear hJ J; simp only [ak, reduceIte]))))
    (refine w_s [] [] [(0, true), (1, true), (2, true), (3, true), (4, true), (5, true), (6, true), (7, true), (8, false)] ?_; intro J hJ; simp [hc, hwk, hs1, hs2, hs4, hs5, hx, hBl, hBd, hBd3, hmk, honed, hzl, hne2]; (repeat refine ca ?_); (refine hJ _ _ ?_; clear hJ J; simp only [ak, reduceIte]))
    (repeat' (first | refine qS ?_ | (refine qR ?_; simp only [ak, reduceIte]; simp []) | (refine w_e [] ?_; intro J hJ; simp only []; simp []; (refine hJ _ _ ?_; clear hJ J; simp only [ak, reduceIte]))))
    refine ⟨st.next, _, _, _, if_pos rfl, (n + 1) * 3, ⟨⟨st.next, rfl, ?_, by simp, .inr (Nat.le_refl _), fun y hy hyl => by simp [show ¬ y = st.next by omega, hyl]⟩, by simp⟩⟩
    rw [ins_growX (a := k * 3) (b := n * 3) (S := 3) (p := (k + 1) * 3) (p' := k * 3 + 3) (q := (k + 1) * 3 + (n - k) * 3) (by omega) hc (hBk k hk) (by rw [hzl]; omega) hx (by omega) rfl (by omega), set_H, if_pos rfl, List.take_of_length_le (by simp; omega)]
  · have hr1 : ¬ (cap : Int) < (n : Int) + 1 := by omega
    have hs2 : ((n : Int) + 1).toNat = n + 1 := by omega
    have hs5 : k + 1 + (n - k) = n + 1 := by omega
    have hs6 : min (n - k) (n + 1 - k) = n - k := by omega
    have hs7 : min (n + 1 - k) (cap - k) = n + 1 - k := by omega
    have hBd2 : List.take ((n - k) * 3) (List.take ((n + 1 - k) * 3) (List.drop (k * 3) B)) = cs.drop (k * 3) := by rw [List.take_take, Nat.min_eq_left (by omega)]; exact hBd
    (repeat' (first | refine qS ?_ | (refine w_e [] ?_; intro J hJ; simp only []; simp [hkn', hr1, hwn, hwk]; (repeat refine ca ?_); (refine hJ _ _ ?_; clear hJ J; simp only [ak, reduceIte]))))
    (refine qC ?_; simp [])
    (repeat' (first | refine qS ?_ | (refine qK ?_; simp only [ak, reduceIte]) | (refine w_e [] ?_; intro J hJ; simp only []; simp [hkn', hr1, hwn, hwk]; (refine hJ _ _ ?_; clear hJ J; simp only [ak, reduceIte]))))
    (refine qC ?_; simp [hkn'])
    (repeat' (first | refine qS ?_ | (refine qK ?_; simp only [ak, reduceIte]) | (refine w_e [] ?_; intro J hJ; simp only []; simp [hkn', hr1, hwn, hwk]; (refine hJ _ _ ?_; clear hJ J; simp only [ak, reduceIte]))))
    (refine qC ?_; simp [hr1])
    refine qK ?_; simp only [ak, reduceIte]
    refine qS ?_
    (refine w_e [] ?_; intro J hJ; simp only []; simp [hwn]; (repeat refine ca ?_); (refine hJ _ _ ?_; clear hJ J; simp only [ak, reduceIte]))
    repeat refine qS ?_
    refine w_x [] 6 rfl ?_
    intro J hJ
    simp [hwk]
    (repeat refine ca ?_)
    refine ⟨_, op1_overlaps (tS := 23) (tR := 4) tabOk rfl (Tryz.func129) (by kernel_rfl) (by kernel_rfl) (by kernel_rfl) (by kernel_rfl) rfl rfl rfl rfl ht0 (by simp [hne]; exact ht) (show _ = LObj.box 31 3 B by simp) (by omega) (by first | omega | (simp [hwk, hwn]; omega)) (by omega) (by omega), ?_⟩
    simp
    refine hJ _ _ ?_; clear hJ J; simp only [ak, reduceIte]
    (repeat' (first | refine qS ?_ | (refine qC ?_; simp [])))
    (refine w_s [] [] [(0, true), (1, true), (2, true), (3, true), (4, true), (5, true), (6, true), (7, true), (8, false)] ?_; intro J hJ; simp [hc, hwk, hs2, hs6, hs7, hs5, hx, hBl, hBd2, honed]; (repeat refine ca ?_); (refine hJ _ _ ?_; clear hJ J; simp only [ak, reduceIte]))
    have hs8 : min (n + 1 - k) 1 = 1 := by omega
    have hs9 : k + 1 + (n - k + (cap - (n + 1))) = cap := by omega
    have hs10 : min (k + 1) cap = k + 1 := by omega
    (repeat' (first | refine qS ?_ | (refine qR ?_; simp only [ak, reduceIte]; simp [hx, honex, hBl, hc, hs8, hs9, hs10]) | (refine w_e [] ?_; intro J hJ; simp only []; simp [hx, honex, hBl, hc, hs8, hs9, hs10]; (repeat refine ca ?_); (refine hJ _ _ ?_; clear hJ J; simp only [ak, reduceIte]))))
    refine ⟨l, _, _, _, if_pos rfl, (n + 1) * 3, .inl ⟨_, _, ⟨rfl, rfl⟩, ⟨⟨l, rfl, ?_, by simp; omega, .inl rfl, fun y hy hyl => by simp [hyl]⟩, by simp⟩⟩⟩
    rw [ins_roomX (a := k * 3) (b := n * 3) (S := 3) (p := (k + 1) * 3) (p' := k * 3 + 3) (q := (n + 1) * 3) (by omega) hc (hBk k hk) hx (by omega) (by omega) rfl (by omega), set_H, if_pos rfl]
theorem InsertR (l n k t : Nat) (cs xs : List LV) (st : St) (hn : n ≤ 100000) (hk : k ≤ n) (hc : cs.length = n) (hx : xs.length = 1) (hone : cs.all oneL = true) (honex : xs.all oneL = true) (ht0 : t ≠ 0) (ht : st.H t = .own 22 1 1) (hl : st.H l = .box 22 1 cs) (hlt : l < st.next) :
    ACalls Tryz.prog 97 [.ms l 0 n, i k, .sl t 1 xs] st (InsQ l (n + 1) 22 1 (cs.take k ++ (xs ++ cs.drop k)) st) := by
  refine acalls_kap (acalls_shr ?_)
  refine qO tabOk Tryz.func97 rfl rfl Tryz.ntmps97 (rs := [.tmp 6]) rfl (by simp) ?_
  refine awp_kap 0 rfl hl fun cap x hcap hcx => ?_
  have hBk : ∀ j, j ≤ n → (cs ++ List.replicate x LV.dead).take j = cs.take j := fun j hj => by rw [List.take_append_of_le_length (by omega)]
  have hBd : ((cs ++ List.replicate x LV.dead).drop k).take (n - k) = cs.drop k := by rw [List.drop_append_of_le_length (by omega), List.take_append_of_le_length (by simp; omega), List.take_of_length_le (by simp; omega)]
  have hBl : (cs ++ List.replicate x LV.dead).length = cap := by simp; omega
  generalize cs ++ List.replicate x LV.dead = B at *
  have hw1 : IntKind.i64.wrap (1 : Int) = 1 := by decide
  have hwn : IntKind.i64.wrap ((n : Int) + 1) = (n : Int) + 1 := wrap_small _ (by omega) (by omega)
  have hwk : IntKind.i64.wrap ((k : Int) + 1) = (k : Int) + 1 := wrap_small _ (by omega) (by omega)
  have hwd : IntKind.i64.wrap ((n : Int) + 1 - k) = (n : Int) + 1 - k := wrap_small _ (by omega) (by omega)
  have hne : ¬ t = l := by rintro rfl; rw [ht] at hl; cases hl
  have hne2 : ¬ l = st.next := by omega
  have honed : (cs.drop k).all oneL = true := List.all_eq_true.2 fun y hy => List.all_eq_true.1 hone y (List.mem_of_mem_drop hy)
  by_cases hkn : k = n
  · subst hkn
    (repeat' (first | refine qS ?_ | (refine qK ?_; simp only [ak, reduceIte]) | (refine qR ?_; simp only [ak, reduceIte]; simp [hx, honex, hBl]) | (refine qC ?_; simp [hx, honex, hBl]) | (refine w_e [] ?_; intro J hJ; simp only []; simp [hx, honex, hBl]; (repeat refine ca ?_); (refine hJ _ _ ?_; clear hJ J; simp only [ak, reduceIte]))))
    refine ⟨st.next, _, _, _, if_pos rfl, k + 1, ?_⟩
    refine ⟨⟨st.next, rfl, ?_, by simp, .inr (Nat.le_refl _), fun y hy hyl => by simp [show ¬ y = st.next by omega, hyl]⟩, by simp⟩
    rw [hBk k (by omega), List.take_of_length_le (by omega), List.take_of_length_le (by simp; omega), List.drop_of_length_le (by omega)]
    simp
  have hkn' : ¬ (k : Int) = n := by omega
  by_cases hroom : cap < n + 1
  · have hr1 : (cap : Int) < (n : Int) + 1 := by omega
    have hs1 : k + (n + 1 - k) = n + 1 := by omega
    have hs2 : ((n : Int) + 1).toNat = n + 1 := by omega
    have hs3 : min (n + 1 - k) 1 = 1 := by omega
    have hs5 : k + 1 + (n - k) = n + 1 := by omega
    have hs4 : min (n - k) (n - k) = n - k := by omega
    have hzl : ∀ z : LV, ∀ j, (zerosL [z] j).length = j := fun z j => by
      induction j with
      | zero => rfl
      | succ j ih => simp [zerosL, ih]
    have hzl := hzl .nil
    generalize hZ : zerosL [LV.nil] = Z at *
    (repeat' (first | refine qS ?_ | (refine qK ?_; simp only [ak, reduceIte]) | (refine qC ?_; simp [hkn', hr1, hwn, hwd, hs1, hs2, hs3, hx, honex, hBl, hzl, hZ]) | (refine w_e [] ?_; intro J hJ; simp only []; simp [hkn', hr1, hwn, hwd, hs1, hs2, hs3, hx, honex, hBl, hzl, hZ]; (repeat refine ca ?_); (refine hJ _ _ ?_; clear hJ J; simp only [ak, reduceIte]))))
    (refine w_s [] [] [(0, true), (1, true), (2, true), (3, true), (4, true), (5, true), (6, true), (7, true), (8, false)] ?_; intro J hJ; simp [hc, hwk, hs1, hs2, hs4, hs5, hx, hBl, hBd, honed, hzl, hne2]; (repeat refine ca ?_); (refine hJ _ _ ?_; clear hJ J; simp only [ak, reduceIte]))
    (repeat' (first | refine qS ?_ | (refine qR ?_; simp only [ak, reduceIte]; simp []) | (refine w_e [] ?_; intro J hJ; simp only []; simp []; (refine hJ _ _ ?_; clear hJ J; simp only [ak, reduceIte]))))
    refine ⟨st.next, _, _, _, if_pos rfl, n + 1, ⟨⟨st.next, rfl, ?_, by simp, .inr (Nat.le_refl _), fun y hy hyl => by simp [show ¬ y = st.next by omega, hyl]⟩, by simp⟩⟩
    rw [ins_grow (a := k) (b := n) (S := 1) hk hc (hBk k hk) (hzl _) hx, set_H, if_pos rfl, List.take_of_length_le (by simp; omega)]
  · have hr1 : ¬ (cap : Int) < (n : Int) + 1 := by omega
    have hs2 : ((n : Int) + 1).toNat = n + 1 := by omega
    have hs5 : k + 1 + (n - k) = n + 1 := by omega
    have hs6 : min (n - k) (n + 1 - k) = n - k := by omega
    have hs7 : min (n + 1 - k) (cap - k) = n + 1 - k := by omega
    have hBd2 : List.take (n - k) (List.take (n + 1 - k) (List.drop k B)) = cs.drop k := by rw [List.take_take, hs6]; exact hBd
    (repeat' (first | refine qS ?_ | (refine w_e [] ?_; intro J hJ; simp only []; simp [hkn', hr1, hwn, hwk]; (repeat refine ca ?_); (refine hJ _ _ ?_; clear hJ J; simp only [ak, reduceIte]))))
    (refine qC ?_; simp [])
    (repeat' (first | refine qS ?_ | (refine qK ?_; simp only [ak, reduceIte]) | (refine w_e [] ?_; intro J hJ; simp only []; simp [hkn', hr1, hwn, hwk]; (refine hJ _ _ ?_; clear hJ J; simp only [ak, reduceIte]))))
    (refine qC ?_; simp [hkn'])
    (repeat' (first | refine qS ?_ | (refine qK ?_; simp only [ak, reduceIte]) | (refine w_e [] ?_; intro J hJ; simp only []; simp [hkn', hr1, hwn, hwk]; (refine hJ _ _ ?_; clear hJ J; simp only [ak, reduceIte]))))
    (refine qC ?_; simp [hr1])
    refine qK ?_; simp only [ak, reduceIte]
    refine qS ?_
    (refine w_e [] ?_; intro J hJ; simp only []; simp [hwn]; (repeat refine ca ?_); (refine hJ _ _ ?_; clear hJ J; simp only [ak, reduceIte]))
    repeat refine qS ?_
    refine w_x [] 6 rfl ?_
    intro J hJ
    simp [hwk]
    (repeat refine ca ?_)
    refine ⟨_, op1_overlaps (tS := 26) (tR := 4) tabOk rfl (Tryz.func125) (by kernel_rfl) (by kernel_rfl) (by kernel_rfl) (by kernel_rfl) rfl rfl rfl rfl ht0 (by simp [hne]; exact ht) (show _ = LObj.box 22 1 B by simp) (by omega) (by first | omega | (simp [hwk, hwn]; omega)) (by omega) (by omega), ?_⟩
    simp
    refine hJ _ _ ?_; clear hJ J; simp only [ak, reduceIte]
    (repeat' (first | refine qS ?_ | (refine qC ?_; simp [])))
    (refine w_s [] [] [(0, true), (1, true), (2, true), (3, true), (4, true), (5, true), (6, true), (7, true), (8, false)] ?_; intro J hJ; simp [hc, hwk, hs2, hs6, hs7, hs5, hx, hBl, hBd2, honed]; (repeat refine ca ?_); (refine hJ _ _ ?_; clear hJ J; simp only [ak, reduceIte]))
    have hs8 : min (n + 1 - k) 1 = 1 := by omega
    have hs9 : k + 1 + (n - k + (cap - (n + 1))) = cap := by omega
    have hs10 : min (k + 1) cap = k + 1 := by omega
    (repeat' (first | refine qS ?_ | (refine qR ?_; simp only [ak, reduceIte]; simp [hx, honex, hBl, hc, hs8, hs9, hs10]) | (refine w_e [] ?_; intro J hJ; simp only []; simp [hx, honex, hBl, hc, hs8, hs9, hs10]; (repeat refine ca ?_); (refine hJ _ _ ?_; clear hJ J; simp only [ak, reduceIte]))))
    refine ⟨l, _, _, _, if_pos rfl, n + 1, .inl ⟨_, _, ⟨rfl, rfl⟩, ⟨⟨l, rfl, ?_, by simp; omega, .inl rfl, fun y hy hyl => by simp [hyl]⟩, by simp⟩⟩⟩
    rw [ins_room (a := k) (b := n) (S := 1) hk hc (hBk k hk) hx (by omega), set_H, if_pos rfl]
theorem DeleteU (l n k : Nat) (cs : List LV) (st : St) (hn : n ≤ 100000) (hk : k < n) (hc : cs.length = n) (hone : cs.all oneL = true) (hl : st.H l = .box 29 1 cs) :
    ACalls Tryz.prog 98 [.ms l 0 n, i k, i ((k + 1 : Nat) : Int)] st fun r st' => r = .ms l 0 (n - 1) ∧ st' = st.set l (.box 29 1 (cs.take k ++ cs.drop (k + 1))) := by
  refine acalls_kap (acalls_shr ?_)
  refine qO tabOk Tryz.func98 rfl rfl Tryz.ntmps98 (rs := [.tmp 6]) rfl (by simp) ?_
  refine awp_kap 0 rfl hl fun cap x hcap hcx => ?_
  have hBk : ∀ j, j ≤ n → (cs ++ List.replicate x LV.dead).take j = cs.take j := fun j hj => by rw [List.take_append_of_le_length (by omega)]
  have hBd : ((cs ++ List.replicate x LV.dead).drop (k + 1)).take (n - (k + 1)) = cs.drop (k + 1) := by rw [List.drop_append_of_le_length (by omega), List.take_append_of_le_length (by simp; omega), List.take_of_length_le (by simp; omega)]
  have hBl : (cs ++ List.replicate x LV.dead).length = cap := by simp; omega
  generalize cs ++ List.replicate x .dead = B at *
  have honed : (cs.drop (k + 1)).all oneL = true := List.all_eq_true.2 fun y hy => List.all_eq_true.1 hone y (List.mem_of_mem_drop hy)
  have h1 : ¬ (k : Int) = (k : Int) + 1 := by omega
  have h2 : ((k : Int) + 1).toNat = k + 1 := by omega
  (repeat' (first | refine qS ?_ | (refine w_e [] ?_; intro J hJ; simp only []; simp [h1, h2]; (repeat refine ca ?_); (refine hJ _ _ ?_; clear hJ J; simp only [ak, reduceIte]))))
  (refine qC ?_; simp [h1])
  (repeat' (first | refine qS ?_ | (refine qK ?_; simp only [ak, reduceIte]) | (refine w_e [] ?_; intro J hJ; simp only []; simp [h1, h2]; (refine hJ _ _ ?_; clear hJ J; simp only [ak, reduceIte]))))
  have h3 : min (n - (k + 1)) (cap - (k + 1)) = n - (k + 1) := by omega
  have h4 : k + (n - (k + 1)) = n - 1 := by omega
  (refine w_s [26] [] [(0, true), (1, true), (2, true), (3, true), (4, true), (5, true), (6, false), (7, true)] ?_; intro J hJ; simp [h2, h3, h4, hBl, hBd, honed, hBk k (by omega)]; (repeat refine ca ?_); (refine hJ _ _ ?_; clear hJ J; simp only [ak, reduceIte]))
  have h5 : ((n - 1 : Nat) : Int) ≤ n := by omega
  have h6 : n - (n - 1) = 1 := by omega
  (repeat' (first | refine qS ?_ | (refine qR ?_; simp only [ak, reduceIte]; simp [h5, h6]) | (refine w_e [] ?_; intro J hJ; simp only []; simp [h5, h6]; (repeat refine ca ?_); (refine hJ _ _ ?_; clear hJ J; simp only [ak, reduceIte]))))
  refine ⟨l, _, _, _, if_pos rfl, n - 1, _, _, ⟨rfl, rfl⟩, ⟨rfl, rfl⟩, ?_⟩
  have hlen : (cs.take k ++ cs.drop (k + 1)).length = n - 1 := by simp; omega
  have e1 : ∀ Y, List.take (n - 1) (cs.take k ++ (cs.drop (k + 1) ++ Y)) = cs.take k ++ cs.drop (k + 1) := fun Y => by rw [← List.append_assoc, List.take_left' hlen]
  rw [e1, List.take_left' hlen]
  simp only [St.set_set]
theorem DeleteR (l n k : Nat) (cs : List LV) (st : St) (hn : n ≤ 100000) (hk : k < n) (hc : cs.length = n) (hone : cs.all oneL = true) (hl : st.H l = .box 22 1 cs) :
    ACalls Tryz.prog 99 [.ms l 0 n, i k, i ((k + 1 : Nat) : Int)] st fun r st' => r = .ms l 0 (n - 1) ∧ st' = st.set l (.box 22 1 (cs.take k ++ cs.drop (k + 1))) := by
  refine acalls_kap (acalls_shr ?_)
  refine qO tabOk Tryz.func99 rfl rfl Tryz.ntmps99 (rs := [.tmp 6]) rfl (by simp) ?_
  refine awp_kap 0 rfl hl fun cap x hcap hcx => ?_
  have hBk : ∀ j, j ≤ n → (cs ++ List.replicate x LV.dead).take j = cs.take j := fun j hj => by rw [List.take_append_of_le_length (by omega)]
  have hBd : ((cs ++ List.replicate x LV.dead).drop (k + 1)).take (n - (k + 1)) = cs.drop (k + 1) := by rw [List.drop_append_of_le_length (by omega), List.take_append_of_le_length (by simp; omega), List.take_of_length_le (by simp; omega)]
  have hBl : (cs ++ List.replicate x LV.dead).length = cap := by simp; omega
  generalize cs ++ List.replicate x .dead = B at *
  have honed : (cs.drop (k + 1)).all oneL = true := List.all_eq_true.2 fun y hy => List.all_eq_true.1 hone y (List.mem_of_mem_drop hy)
  have h1 : ¬ (k : Int) = (k : Int) + 1 := by omega
  have h2 : ((k : Int) + 1).toNat = k + 1 := by omega
  (repeat' (first | refine qS ?_ | (refine w_e [] ?_; intro J hJ; simp only []; simp [h1, h2]; (repeat refine ca ?_); (refine hJ _ _ ?_; clear hJ J; simp only [ak, reduceIte]))))
  (refine qC ?_; simp [h1])
  (repeat' (first | refine qS ?_ | (refine qK ?_; simp only [ak, reduceIte]) | (refine w_e [] ?_; intro J hJ; simp only []; simp [h1, h2]; (refine hJ _ _ ?_; clear hJ J; simp only [ak, reduceIte]))))
  have h3 : min (n - (k + 1)) (cap - (k + 1)) = n - (k + 1) := by omega
  have h4 : k + (n - (k + 1)) = n - 1 := by omega
  (refine w_s [26] [] [(0, true), (1, true), (2, true), (3, true), (4, true), (5, true), (6, false), (7, true)] ?_; intro J hJ; simp [h2, h3, h4, hBl, hBd, honed, hBk k (by omega)]; (repeat refine ca ?_); (refine hJ _ _ ?_; clear hJ J; simp only [ak, reduceIte]))
  have h5 : ((n - 1 : Nat) : Int) ≤ n := by omega
  have h6 : n - (n - 1) = 1 := by omega
  (repeat' (first | refine qS ?_ | (refine qR ?_; simp only [ak, reduceIte]; simp [h5, h6]) | (refine w_e [] ?_; intro J hJ; simp only []; simp [h5, h6]; (repeat refine ca ?_); (refine hJ _ _ ?_; clear hJ J; simp only [ak, reduceIte]))))
  refine ⟨l, _, _, _, if_pos rfl, n - 1, _, _, ⟨rfl, rfl⟩, ⟨rfl, rfl⟩, ?_⟩
  have hlen : (cs.take k ++ cs.drop (k + 1)).length = n - 1 := by simp; omega
  have e1 : ∀ Y, List.take (n - 1) (cs.take k ++ (cs.drop (k + 1) ++ Y)) = cs.take k ++ cs.drop (k + 1) := fun Y => by rw [← List.append_assoc, List.take_left' hlen]
  rw [e1, List.take_left' hlen]
  simp only [St.set_set]
theorem getDE (l : List Ed) (j : Nat) (hj : j < l.length) : l.getD j ed0 = l[j] := by
  rw [List.getD_eq_getElem?_getD, List.getElem?_eq_getElem hj]; rfl
theorem eds_append (a b : List Ed) : eds (a ++ b) = eds a ++ eds b := by simp [eds]
def be (st : St) (q : Nat) (c : List Ed) : St := st.set q (.box 31 3 (eds c))
@[simp] theorem be_next (st : St) (q : Nat) (c : List Ed) : (be st q c).next = st.next := rfl
@[simp] theorem be_H (st : St) (q : Nat) (c : List Ed) : (be st q c).H q = .box 31 3 (eds c) := by simp [be]
def cmpK (x y : Ed) : Int := if x.id < y.id then -1 else if y.id < x.id then 1 else 0
structure CmpAt (fid : FuncId) (caps : List LV) (q : Nat) (Pc : St → Prop) : Prop where
  keep : ∀ st st', Pc st → OffS q st st' → Pc st'
  call : ∀ st x y, Pc st → ACalls Tryz.prog fid ([.ag (edL x), .ag (edL y)] ++ caps) st fun r st' => r = i (cmpK x y) ∧ Keeps st st'
theorem half_s (n h : Nat) (hh : h = n / 2) : gshr .u64 (n : Int) 1 = (h : Int) := by
  show (n : Int).fdiv 2 = (h : Int)
  rw [Int.fdiv_eq_ediv_of_nonneg _ (by omega)]; omega
section
variable (q L : Nat) (fid : FuncId) (caps : List LV) (Pc : St → Prop) (hcmp : CmpAt fid caps q Pc) (hl : L ≤ 100000)
include hcmp hl
end
end Go.Proofs.YtglkgindpjdoiaaGreat.Aw
namespace Go.Proofs.YtglkgindpjdoiaaGreat.Aw.U
open Go Go.RowKit Go.Proofs.YtglkgindpjdoiaaGreat.Pl
set_option linter.unusedSimpArgs false
set_option linter.unusedVariables false
def be (st : St) (q : Nat) (c : List Int) : St := st.set q (.box 29 1 (us c))
@[simp] theorem be_next (st : St) (q : Nat) (c : List Int) : (be st q c).next = st.next := rfl
@[simp] theorem be_H (st : St) (q : Nat) (c : List Int) : (be st q c).H q = .box 29 1 (us c) := by simp [be]
def cmpK (x y : Int) : Int := if x < y then -1 else if y < x then 1 else 0
structure CmpAt (fid : FuncId) (caps : List LV) (q : Nat) (Pc : St → Prop) : Prop where
  keep : ∀ st st', Pc st → OffS q st st' → Pc st'
  call : ∀ st x y, Pc st → ACalls Tryz.prog fid ([u x, u y] ++ caps) st fun r st' => r = i (cmpK x y) ∧ Keeps st st'
section
variable (q L : Nat) (fid : FuncId) (caps : List LV) (Pc : St → Prop) (hcmp : CmpAt fid caps q Pc) (hl : L ≤ 100000)
include hcmp hl
end
end Go.Proofs.YtglkgindpjdoiaaGreat.Aw.U
namespace Go.Proofs.YtglkgindpjdoiaaGreat.Aw
open Go Go.RowKit Go.Proofs.YtglkgindpjdoiaaGreat.Pl
set_option linter.unusedSimpArgs false
set_option linter.unusedVariables false
section
variable {α : Type} (f : α → Int)
end
theorem CloneMU (a : List Int) (t : Nat) (st : St) (hl : a.length ≤ 100000) :
    ACalls Tryz.prog 37 [.sl t a.length (us a)] st fun r st' => ∃ l, r = .ms l 0 a.length ∧ st.next ≤ l ∧ l < st'.next ∧ st'.H l = .box 29 1 (us a) ∧ Keeps st st' := by
  refine acalls_nilM 29 1 ?_
  have hone := us_one a
  refine qO tabOk Tryz.func37 rfl rfl Tryz.ntmps37 (rs := [.tmp 2]) rfl (by simp) ?_
  (repeat' (first | refine qS ?_ | (refine qK ?_; simp only [ak, reduceIte]) | (refine qR ?_; simp only [ak, reduceIte]; simp [hone]) | (refine qC ?_; simp [hone]) | (refine w_e [5] ?_; intro J hJ; simp only []; simp [hone]; (repeat refine ca ?_); ((try with_reducible refine ⟨?_, ?_⟩) <;> (try with_reducible intro hnil) <;> refine hJ _ _ ?_ <;> clear hJ J <;> simp only [ak, reduceIte] <;> try subst hnil))))
  · exact (Keeps.new _ _).trans (Keeps.new _ _)
  · exact Keeps.new _ _
theorem CloneME (l : List Ed) (t : Nat) (st : St) (hl : l.length ≤ 100000) :
    ACalls Tryz.prog 93 [.sl t l.length (eds l)] st fun r st' => ∃ q, r = .ms q 0 l.length ∧ st.next ≤ q ∧ q < st'.next ∧ st'.H q = .box 31 3 (eds l) ∧ Keeps st st' := by
  have hone := eds_one l
  have hel := eds_length l
  refine acalls_nilM 31 3 ?_
  refine qO tabOk Tryz.func93 rfl rfl Tryz.ntmps93 (rs := [.tmp 2]) rfl (by simp) ?_
  (repeat' (first | refine qS ?_ | (refine qK ?_; simp only [ak, reduceIte]) | (refine qR ?_; simp only [ak, reduceIte]; simp [hone, hel]) | (refine qC ?_; simp [hone, hel]) | (refine w_e [5] ?_; intro J hJ; simp only []; simp [hone, hel]; (repeat refine ca ?_); ((try with_reducible refine ⟨?_, ?_⟩) <;> (try with_reducible intro hnil) <;> refine hJ _ _ ?_ <;> clear hJ J <;> simp only [ak, reduceIte] <;> try subst hnil))))
  · exact (Keeps.new _ _).trans (Keeps.new _ _)
  · exact Keeps.new _ _
end Go.Proofs.YtglkgindpjdoiaaGreat.Aw
namespace Go.Proofs.YtglkgindpjdoiaaGreat.Aw
open Go.Proofs.YtglkgindpjdoiaaGreat.Pl
set_option linter.unusedSimpArgs false
set_option linter.unusedVariables false
end Go.Proofs.YtglkgindpjdoiaaGreat.Aw
namespace Go.Proofs.YtglkgindpjdoiaaGreat.Aw
open Go Go.RowKit Go.Proofs.YtglkgindpjdoiaaGreat.Pl
set_option linter.unusedSimpArgs false
set_option linter.unusedVariables false
end Go.Proofs.YtglkgindpjdoiaaGreat.Aw
namespace Go.Proofs.YtglkgindpjdoiaaGreat.Aw.I
open Go Go.RowKit Go.Proofs.YtglkgindpjdoiaaGreat.Pl
set_option linter.unusedSimpArgs false
set_option linter.unusedVariables false
end Go.Proofs.YtglkgindpjdoiaaGreat.Aw.I
namespace Go.Proofs.YtglkgindpjdoiaaGreat.Aw
open Go Go.RowKit Go.Proofs.YtglkgindpjdoiaaGreat.Pl
set_option linter.unusedSimpArgs false
set_option linter.unusedVariables false
def nmF : Nat → List Int → List (List Int × LV)
  | _, [] => []
  | k, x :: V => ([x], u (k + 1 : Nat)) :: nmF (k + 1) V
def nmL (V : List Int) : List (List Int × LV) := nmF 0 V
theorem nmF_len (V : List Int) : ∀ k, (nmF k V).length = V.length := by
  induction V with
  | nil => intro k; rfl
  | cons x V ih => intro k; simp only [nmF, List.length_cons, ih]
@[simp] theorem nmL_len (V : List Int) : (nmL V).length = V.length := nmF_len V 0
end Go.Proofs.YtglkgindpjdoiaaGreat.Aw
namespace Go.Proofs.YtglkgindpjdoiaaGreat.Aw
open Go Go.RowKit Go.Proofs.YtglkgindpjdoiaaGreat.Pl Go.Proofs.YtglkgindpjdoiaaGreat.Eu
set_option linter.unusedSimpArgs false
set_option linter.unusedVariables false
def BehI (m : Mp) (es : List (List Int × LV)) (S : List Int) : Prop := ∀ d, mget es [d] = if d ∈ S then some (u (sg m d)) else none
theorem BehI.step {m : Mp} {es : List (List Int × LV)} {S : List Int} (h : BehI m es S) {d x : Int} (hx : x = sg m d) : BehI m (mset es [d] (u x)) (S ++ [d]) := by
  intro e
  rw [mget_mset]
  by_cases he : e = d
  · subst he; rw [if_pos rfl, if_pos (by simp), hx]
  · rw [if_neg (by simpa using he), h e]
    simp [he]
theorem flat_snoc (rs : List (List Int)) (k : Nat) (hk : k < rs.length) : (rs.take (k + 1)).flatten = (rs.take k).flatten ++ rs.getD k [] := by
  rw [List.take_succ_eq_append_getElem hk, List.flatten_append, getR_lt _ _ hk]; simp
def BehP (m : Mp) (st : St) (r : LV) (st' : St) : Prop := ∃ q es, r = .mp q ∧ st.next ≤ q ∧ q < st'.next ∧ st'.H q = .map false [.u32] es ∧ Keeps st st' ∧ BehI m es m.rots.flatten
theorem behind (m : Mp) (h : MapOk m) (st : St) (hv : m.g.vs.length ≤ 1000) (he : m.g.es.length ≤ 1000) :
    ACalls Tryz.prog 31 [.ag (mpL m)] st (BehP m st) := by
  have hrl := h.len
  refine qO tabOk Tryz.func31 rfl rfl Tryz.ntmps31 (rs := [.tmp 2]) rfl (by simp) ?_
  (repeat' (first | refine qS ?_ | refine qB ?_ | (refine w_e [] ?_; intro J hJ; simp only []; simp []; (refine hJ _ _ ?_; clear hJ J; simp only [ak, reduceIte]))))
  refine awp_range 12 11 13 34 (m.rots.length) (fun j fr st2 => fr 3 = .mp (st.next + 1) ∧ fr 10 = .sl 0 m.rots.length (rowsL m.rots) ∧ Keeps st st2 ∧ st.next + 1 < st2.next ∧ ∃ es, st2.H (st.next + 1) = .map false [.u32] es ∧ BehI m es (m.rots.take j).flatten) ?_ ?_ ?_
  · exact ⟨by simp, by simp, (Keeps.new _ _).trans (Keeps.new _ _), by simp, [], by simp, fun d => rfl⟩
  · rintro j0 fr st2 hlt ⟨f3, f10, hkp, hlt2, es, hM, hB⟩ fi fn JJ hJJ
    have hd := rowsL_drop m.rots j0 hlt
    have hRl : j0 < (rowsL m.rots).length := by simpa using hlt
    have hfl := flat_snoc m.rots j0 hlt
    have htin : m.rots.getD j0 [] ∈ m.rots := by rw [getR_lt _ _ hlt]; exact List.getElem_mem _
    have htl := h.row_le htin
    have htn := h.nodup htin
    have hsg := fun d hd => @sg_at m h _ htin d hd
    generalize m.rots.getD j0 [] = t at *
    (repeat' (first | refine qS ?_ | refine qB ?_ | (refine w_e [] ?_; intro J hJ; simp only []; simp [f10, fi, fn, hd, hRl]; (repeat refine ca ?_); (refine hJ _ _ ?_; clear hJ J; simp only [ak, reduceIte]))))
    refine awp_range 18 17 19 33 (t.length) (fun j fr st2 => fr 3 = .mp (st.next + 1) ∧ fr 10 = .sl 0 m.rots.length (rowsL m.rots) ∧ fr 5 = .sl 0 t.length (us t) ∧ fr 16 = .sl 0 t.length (us t) ∧ fr 12 = i j0 ∧ fr 11 = i m.rots.length ∧ Keeps st st2 ∧ st.next + 1 < st2.next ∧ ∃ es, st2.H (st.next + 1) = .map false [.u32] es ∧ BehI m es ((m.rots.take j0).flatten ++ t.take j)) ?_ ?_ ?_
    · exact ⟨by simp [f3], by simp [f10], by simp, by simp, by simp [fi], by simp [fn], hkp, hlt2, es, hM, by simpa using hB⟩
    · clear f3 f10 fi fn hkp hlt2 hM hB es fr st2
      rintro k fr st2 hk ⟨f3, f10, f5, f16, f12, f11, hkp, hlt2, es, hM, hB⟩ fi fn J2 hJ2
      have hd1 := qG t k hk
      have hw := qN k (by omega)
      have htm : ((k : Int) + 1).tmod (t.length : Int) = (((k + 1) % t.length : Nat) : Int) := tmod_nat (k + 1) t.length _ rfl
      have hr : (k + 1) % t.length < t.length := Nat.mod_lt _ (by omega)
      have hd2 := qG t _ hr
      have hx : t.getD ((k + 1) % t.length) 0 = sg m (t.getD k 0) := by
        rw [getD_lt _ _ hr, getD_lt _ _ hk, hsg _ (List.getElem_mem _), nx_get htn hk]
      have htk : t.take (k + 1) = t.take k ++ [t.getD k 0] := by rw [getD_lt _ _ hk]; exact List.take_succ_eq_append_getElem hk
      have hB2 := hB.step hx
      rw [List.append_assoc, ← htk] at hB2
      have ht0 : ¬ t.length = 0 := by omega
      generalize (k + 1) % t.length = r at *
      generalize t.getD k 0 = d at *
      generalize t.getD r 0 = x at *
      (repeat' (first | refine qS ?_ | (refine w_e [] ?_; intro J hJ; simp only []; simp [f3, f5, f16, fi, fn, hd1, hw, htm, hd2, hM, hk, hr, ht0]; (refine hJ _ _ ?_; clear hJ J; simp only [ak, reduceIte]))))
      exact hJ2 _ _ (by simp [fi]) (by simp [fn]) ⟨by simp [f3], by simp [f10], by simp [f5], by simp [f16], by simp [f12], by simp [f11], hkp.set (by omega) _, by simpa using hlt2, _, by simp, hB2⟩
    · clear f3 f10 fi fn hkp hlt2 hM hB es fr st2
      rintro fr st2 ⟨f3, f10, f5, f16, f12, f11, hkp, hlt2, es, hM, hB⟩
      rw [List.take_length, ← hfl] at hB
      skip
      exact hJJ _ _ (by simp [f12]) (by simp [f11]) ⟨by simp [f3], by simp [f10], hkp, hlt2, es, hM, hB⟩
  · rintro fr st2 ⟨f3, f10, hkp, hlt2, es, hM, hB⟩
    (repeat' (first | refine qS ?_ | (refine qR ?_; simp only [ak, reduceIte]; simp [f3]) | (refine w_e [] ?_; intro J hJ; simp only []; simp [f3]; (refine hJ _ _ ?_; clear hJ J; simp only [ak, reduceIte]))))
    rw [List.take_length] at hB
    exact ⟨_, es, rfl, by omega, by omega, hM, hkp, hB⟩
theorem dart_range {m : Mp} (h : MapOk m) {d : Int} (hd : d ∈ darts m.g.es) : 2 ≤ d ∧ d ≤ 2097153 := by
  obtain ⟨x, hx, h1⟩ := mem_darts.1 hd
  have := h.g.pos x hx
  omega
theorem MapOk.cyc_le {m : Mp} (h : MapOk m) {d : Int} (hd : d ∈ darts m.g.es) {L : List Int} (hc : IsCyc (fc m m.g.es) d L) : (∀ x ∈ L, x ∈ darts m.g.es) ∧ L.length ≤ 2 * m.g.es.length := by
  have hdk : ∀ k, it (fc m m.g.es) k d ∈ darts m.g.es := by
    intro k
    induction k with
    | zero => exact hd
    | succ k ih => rw [it_succ]; exact h.fc_dart _ _ ih
  have hs : ∀ x ∈ L, x ∈ darts m.g.es := fun x hx => by
    obtain ⟨n, rfl⟩ := hc.mem.1 hx
    exact hdk n
  have := List.Nodup.length_le_of_subset (hc.nodup (h.fc_inj _)) (l₂ := darts m.g.es) hs
  rw [darts_length] at this
  exact ⟨hs, this⟩
def WalkP (m : Mp) (d : Int) (S : Int → Prop) (ms : Nat) (st : St) (r : LV) (st' : St) : Prop :=
  (∃ t L, r = .sl t L.length (us L) ∧ IsCyc (fc m m.g.es) d L) ∧ OffS ms st st' ∧ ∃ es, st'.H ms = .map false [.u32] es ∧ SeenI es (fun x => S x ∨ Orb (fc m m.g.es) d x)
def itL (f : Int → Int) (d : Int) (k : Nat) : List Int := (List.range k).map fun j => it f j d
theorem itL_succ (f : Int → Int) (d : Int) (k : Nat) : itL f d (k + 1) = itL f d k ++ [it f k d] := by unfold itL; rw [List.range_succ]; simp
@[simp] theorem itL_len (f : Int → Int) (d : Int) (k : Nat) : (itL f d k).length = k := by simp [itL]
theorem Walk (m : Mp) (h : MapOk m) (d : Int) (q5 q4 ms ma : Nat) (es5 es4 : List (List Int × LV)) (S : Int → Prop) (st : St) (he : m.g.es.length ≤ 1000) (hd : d ∈ darts m.g.es)
    (h5 : st.H q5 = .box 65 1 [.mp ms]) (h4 : st.H q4 = .box 63 1 [.mp ma]) (hms : st.H ms = .map false [.u32] es5) (hma : st.H ma = .map false [.u32] es4) (hlt : (q5 < st.next ∧ q4 < st.next) ∧ ms < st.next ∧ ma < st.next) (hmm : ms ≠ ma)
    (hSI : SeenI es5 S) (hB : BehI m es4 m.rots.flatten) (hS : ∀ x, Orb (fc m m.g.es) d x → ¬ S x) :
    ACalls Tryz.prog 32 [u d, .pt q5 0, .pt q4 0] st (WalkP m d S ms st) := by
  obtain ⟨⟨l5, l4⟩, ls, la⟩ := hlt
  have n1 : ¬ q5 = ms := by rintro rfl; rw [h5] at hms; cases hms
  have n2 : ¬ q4 = ms := by rintro rfl; rw [h4] at hms; cases hms
  have hmm' : ¬ ma = ms := fun e => hmm e.symm
  have hP := h.fc_per m.g.es (fun x hx => hx)
  obtain ⟨L, p, hp, hL, hp1, hp2⟩ := isCyc_ex hP d
  have hcyc : IsCyc (fc m m.g.es) d L := ⟨p, hp, hL, hp1, hp2⟩
  have hL' : L = itL (fc m m.g.es) d p := hL
  have hdk : ∀ k, it (fc m m.g.es) k d ∈ darts m.g.es := by
    intro k
    induction k with
    | zero => exact hd
    | succ k ih => rw [it_succ]; exact h.fc_dart _ _ ih
  have hpl : p ≤ 2 * m.g.es.length := by
    have := (h.cyc_le hd hcyc).2
    rwa [hL', itL_len] at this
  refine qO tabOk Tryz.func32 rfl rfl Tryz.ntmps32 (rs := [.tmp 4]) rfl (by simp) ?_
  (repeat' (first | refine qS ?_ | refine qB ?_ | (refine w_e [] ?_; intro J hJ; simp only []; simp []; (refine hJ _ _ ?_; clear hJ J; simp only [ak, reduceIte]))))
  refine awp_posG fun hpos => ?_
  refine awp_own 5 29 1 (by simp) ?_
  generalize hf : fc m m.g.es = f at *
  refine qL (fun n fr st2 => ∃ k : Nat, k ≤ p ∧ n = p - k ∧ fr 0 = u (it f k d) ∧ fr 1 = .pt q5 0 ∧ fr 2 = .pt q4 0 ∧ ∃ t es, fr 5 = .sl t k (us (itL f d k)) ∧ (t ≠ 0 ∧ st.next ≤ t ∧ t < st2.next) ∧ st2.H t = .own 29 1 k ∧ OffS ms st st2 ∧ st2.H ms = .map false [.u32] es ∧ SeenI es (fun x => S x ∨ ∃ i, i < k ∧ x = it f i d)) p ?_ ?_
  · exact ⟨0, by omega, by omega, by simp [it], by simp, by simp, st.next, es5, by simp [itL], ⟨by omega, by omega, by simp⟩, by simp, (OffS.refl ms st).keeps (Keeps.new _ _), by simp [show ¬ ms = st.next by omega, hms], hSI.congr fun v => ⟨fun h => h.elim id fun ⟨_, h, _⟩ => by omega, .inl⟩⟩
  rintro n fr st2 ⟨k, hk, rfl, f0, f1, f2, t, es, f5, ⟨ht0, htl, htn⟩, htH, hoff, hM, hSk⟩ JJ hJJ
  have hn2 := hoff.1
  have h5' := (hoff.2 q5 n1 l5).trans h5
  have h4' := (hoff.2 q4 n2 l4).trans h4
  have ha' := (hoff.2 ma hmm' la).trans hma
  by_cases hkp : k < p
  rotate_left
  · clear hJJ
    obtain rfl : k = p := by omega
    have hs1 := (hSk (it f k d)).1 (.inr ⟨0, hp, by rw [hp1]; rfl⟩)
    (repeat' (first | refine qS ?_ | (refine qX ?_; simp only [ak, reduceIte]) | (refine qR ?_; simp only [ak, reduceIte]; simp [f0, f1, h5', hM, hs1, f5]) | (refine qC ?_; simp [f0, f1, h5', hM, hs1, f5]) | (refine w_e [] ?_; intro J hJ; simp only []; simp [f0, f1, h5', hM, hs1, f5]; (refine hJ _ _ ?_; clear hJ J; simp only [ak, reduceIte]))))
    refine ⟨⟨t, L, by rw [hL']; simp, ?_⟩, hoff, es, hM, hSk.congr fun v => ?_⟩
    · rw [hf]; exact hcyc
    · rw [hf]
      refine or_congr Iff.rfl ?_
      rw [← hcyc.mem, hL]
      simp only [List.mem_map, List.mem_range]
      exact ⟨fun ⟨a, b, c⟩ => ⟨a, b, c.symm⟩, fun ⟨a, b, c⟩ => ⟨a, b, c.symm⟩⟩
  have hs0 : ¬ (S (it f k d) ∨ ∃ i, i < k ∧ it f k d = it f i d) := by
    rintro (h1 | ⟨j, h1, h2⟩)
    · exact hS _ ⟨k, rfl⟩ h1
    · have e : k = j + (k - j) := by omega
      rw [e, it_add] at h2
      exact hp2 (k - j) (by omega) (by omega) (it_inj (fun x y => by rw [← hf]; exact h.fc_inj _ x y) j h2)
  have hs1 := (hSk (it f k d)).2 hs0
  have hSn := hSk.step (P' := fun x => S x ∨ ∃ i, i < k + 1 ∧ x = it f i d) (it f k d) fun v => by
    constructor
    · rintro (h1 | ⟨j, h1, h2⟩)
      · exact .inl (.inl h1)
      · rcases Nat.lt_or_ge j k with h3 | h3
        · exact .inl (.inr ⟨j, h3, h2⟩)
        · obtain rfl : j = k := by omega
          exact .inr h2
    · rintro ((h1 | ⟨j, h1, h2⟩) | h1)
      · exact .inl h1
      · exact .inr ⟨j, by omega, h2⟩
      · exact .inr ⟨k, by omega, h1⟩
  have hxd := hdk k
  have hx1 := dart_range h hxd
  have hxl : (mget es4 [tw (it f k d)]).getD (u 0) = u (it f (k + 1) d) := by
    rw [hB, if_pos (by rw [← (h.flat_perm).mem_iff]; exact tw_dart.2 hxd), it_succ, ← hf]
    simp only [Option.getD_some, fc]
    rw [al_in (by rw [hf]; exact hxd), hf]
  have hLn := itL_succ f d k
  have hLl := itL_len f d k
  generalize itL f d k = Lk at *
  generalize hxe : it f k d = x at *
  generalize hye : it f (k + 1) d = y at *
  have t1 : ¬ t = ms := by rintro rfl; rw [hM] at htH; cases htH
  have t2 : ¬ t = st2.next := by omega
  have t3 : ¬ ms = st2.next := by omega
  have t4 : ¬ ms = st2.next + 1 := by omega
  have t5 : ¬ q4 = st2.next := by omega
  have t6 : ¬ q4 = st2.next + 1 := by omega
  have t7 : ¬ ma = st2.next := by omega
  have t8 : ¬ ma = st2.next + 1 := by omega
  have t9 : ¬ q4 = t := by rintro rfl; rw [h4'] at htH; cases htH
  have t10 : ¬ ma = t := by rintro rfl; rw [ha'] at htH; cases htH
  have t11 : ¬ ms = t := fun e => t1 e.symm
  (repeat' (first | refine qS ?_ | refine qB ?_ | (refine qK ?_; simp only [ak, reduceIte]) | (refine qC ?_; simp [f0, f1, f2, f5, h5', hM, hs1, n1, n2, htH, ht0, t1, t2, t3, t4, hLl]) | (refine w_e [] ?_; intro J hJ; simp only []; simp [f0, f1, f2, f5, h5', hM, hs1, n1, n2, htH, ht0, t1, t2, t3, t4, hLl]; (repeat refine ca ?_); (refine hJ _ _ ?_; clear hJ J; simp only [ak, reduceIte]))))
  (refine w_s [] [q4, ma] [(0, true), (1, true), (2, true), (3, true), (4, true)] ?_; intro J hJ; simp [f2, f0, h4', ha', t5, t6, t7, t8, t9, t10, n2, hmm'])
  refine qD (Twin x _ (by omega) (by omega)) (by simp) ?_; rintro r s3 ⟨rfl, rfl⟩
  refine ⟨fun _ => by simp [h4', ha', t5, t6, t7, t8, t9, t10, n2, hmm'], ?_⟩
  (refine d_go ?_; simp [f2, f0, h4', ha', t5, t6, t7, t8, t9, t10, n2, hmm', hxl]; (refine hJ _ _ ?_; clear hJ J; simp only [ak, reduceIte]))
  skip
  refine hJJ (p - (k + 1)) _ _ (by omega) ⟨k + 1, by omega, rfl, by simp [hye], by simp [f1], by simp [f2], st2.next + 1, _, by simp [hLn], ⟨by omega, by omega, by simp⟩, by simp, ?_, by simp [t11, t3, t4], hSn⟩
  exact (((hoff.set _).keeps (Keeps.new _ _)).set' htl _).keeps (Keeps.new _ _)
theorem it_in {f : Int → Int} {ds : List Int} (hd : ∀ x ∈ ds, f x ∈ ds) (n : Nat) : ∀ x, x ∈ ds → it f n x ∈ ds := by
  induction n with
  | zero => intro x hx; exact hx
  | succ n ih => intro x hx; exact ih _ (hd x hx)
theorem Lead.flat {f : Int → Int} (hf : Per f) {ds : List Int} {k : Nat} {R : List (List Int)} (h : Lead f ds k R) : R.flatten.Nodup ∧ ∀ x, x ∈ R.flatten ↔ SeenD f ds k x := by
  induction h with
  | zero => exact ⟨by simp, fun w => ⟨fun h => by simp at h, fun h => by obtain ⟨u, hu, _⟩ := h; simp at hu⟩⟩
  | seen _ hk hs ih => exact ⟨ih.1, fun w => by rw [ih.2, seenD_same hk hs]⟩
  | @lead k R c _ hk hs hc ih =>
    rw [List.flatten_append, List.flatten_cons, List.flatten_nil, List.append_nil]
    refine ⟨?_, fun w => ?_⟩
    · rw [List.nodup_append]
      refine ⟨ih.1, hc.nodup fun x y => hf.inj, fun a ha b hb => ?_⟩
      rintro rfl
      obtain ⟨y, hy, h1⟩ := (ih.2 a).1 ha
      exact hs ⟨y, hy, h1.trans (Orb.symm hf (hc.mem.1 hb))⟩
    · rw [List.mem_append, ih.2, hc.mem, seenD_succ hk]
section
variable {f : Int → Int} (hf : Per f) {ds : List Int} (hd : ∀ x ∈ ds, f x ∈ ds)
include hf hd
theorem Lead.count {R : List (List Int)} (hn : ds.Nodup) (h : Lead f ds ds.length R) : R.flatten.Perm ds := by
  obtain ⟨h1, h2⟩ := Lead.flat hf h
  refine (List.perm_ext_iff_of_nodup h1 hn).2 fun w => ?_
  rw [h2]
  unfold SeenD
  rw [List.take_length]
  constructor
  · rintro ⟨y, hy, n, rfl⟩; exact it_in hd n y hy
  · intro hw; exact ⟨w, hw, Orb.refl _ _⟩
theorem Lead.cyc (hr : ds.Pairwise (· < ·)) {k : Nat} {R : List (List Int)} (h : Lead f ds k R) : ∀ c ∈ R, ∃ e ∈ ds, IsCyc f e c ∧ mn c = e := by
  induction h with
  | zero => intro c hc; simp at hc
  | seen _ _ _ ih => exact ih
  | @lead k R c _ hk hs hc ih =>
    intro c' hc'
    rw [List.mem_append, List.mem_singleton] at hc'
    rcases hc' with h1 | rfl
    · exact ih c' h1
    · exact ⟨_, by rw [getD_lt _ _ hk]; exact List.getElem_mem _, hc, (cyc_lead hf hr hd hk hc).1 hs⟩
end
def tix (rs : List (List Int)) (d : Int) : Int := if (rs.any fun t => decide (d ∈ t)) = true then (rs.findIdx fun t => decide (d ∈ t) : Int) else -1
theorem tix_some {rs : List (List Int)} {d : Int} {k : Nat} (hk : k < rs.length) (h : d ∈ rs.getD k []) (hn : ∀ j, j < k → d ∉ rs.getD j []) : tix rs d = k := by
  rw [getR_lt _ _ hk] at h
  unfold tix
  rw [if_pos (List.any_eq_true.2 ⟨_, List.getElem_mem hk, by simpa using h⟩)]
  congr 1
  refine (List.findIdx_eq hk).2 ⟨by simpa using h, fun j hj => ?_⟩
  have := hn j hj
  rw [getR_lt _ _ (by omega)] at this
  simpa using this
theorem tix_none {rs : List (List Int)} {d : Int} (hn : ∀ j, j < rs.length → d ∉ rs.getD j []) : tix rs d = -1 := by
  unfold tix
  rw [if_neg]
  intro h
  obtain ⟨t, ht, hp⟩ := List.any_eq_true.1 h
  obtain ⟨j, hj, rfl⟩ := List.getElem_of_mem ht
  have := hn j hj
  rw [getR_lt _ _ hj] at this
  exact this (by simpa using hp)
theorem tix_in {rs : List (List Int)} {d : Int} (h : ∃ t ∈ rs, d ∈ t) : ∃ k, k < rs.length ∧ tix rs d = (k : Int) ∧ d ∈ rs.getD k [] := by
  obtain ⟨t, ht, hd⟩ := h
  obtain ⟨j, hj, rfl⟩ := List.getElem_of_mem ht
  obtain ⟨k, hk, hmin⟩ := least (P := fun k => k < rs.length ∧ d ∈ rs.getD k []) ⟨hj, by rw [getR_lt _ _ hj]; exact hd⟩
  exact ⟨k, hk.1, tix_some hk.1 hk.2 fun i hi hd => hmin i hi ⟨by omega, hd⟩, hk.2⟩
theorem tix_out {rs : List (List Int)} {d : Int} (h : ∀ t ∈ rs, d ∉ t) : tix rs d = -1 := tix_none fun j hj => by rw [getR_lt _ _ hj]; exact h _ (List.getElem_mem _)
theorem ref_Turn (m : Mp) (d : Int) (st : St) (hr : m.rots.length ≤ 1000) (hs : ∀ t ∈ m.rots, small t) :
    ACalls Tryz.prog 119 [.ag (mpL m), u d] st fun r st' => r = i (tix m.rots d) ∧ Keeps st st' := by
  refine qO tabOk Tryz.func119 rfl rfl Tryz.ntmps119 (rs := [.tmp 4]) rfl (by simp) ?_
  (repeat' (first | refine qS ?_ | refine qB ?_ | (refine w_e [] ?_; intro J hJ; simp only []; simp []; (refine hJ _ _ ?_; clear hJ J; simp only [ak, reduceIte]))))
  refine awp_range 9 8 10 21 (m.rots.length) (fun j fr st2 => fr 1 = u d ∧ fr 2 = .pt st.next 0 ∧ st2.H st.next = .box 28 3 (mpL m) ∧ Keeps st st2 ∧ ∀ k, k < j → d ∉ m.rots.getD k []) ?_ ?_ ?_
  · exact ⟨by simp, by simp, by simp, Keeps.new _ _, fun k hk => by omega⟩
  · rintro j fr st2 hlt ⟨f1, f2, hG, hkp, hno⟩ fi fn JJ hJJ
    have hd := rowsL_drop m.rots j hlt
    have hRl : j < (rowsL m.rots).length := by simpa using hlt
    have htin : m.rots.getD j [] ∈ m.rots := by rw [getR_lt _ _ hlt]; exact List.getElem_mem _
    have hsm := hs _ htin
    have hso := fun h => tix_some (d := d) hlt h hno
    have hnn : d ∉ m.rots.getD j [] → ∀ k, k < j + 1 → d ∉ m.rots.getD k [] := fun h k hk => by
      rcases Nat.lt_or_ge k j with h1 | h1
      · exact hno k h1
      · obtain rfl : k = j := by omega
        exact h
    generalize m.rots.getD j [] = t at *
    (repeat' (first | refine qS ?_ | (refine w_e [] ?_; intro J hJ; simp only []; simp [f1, f2, hG, fi, fn, hd, hRl, hlt]; (try (refine hJ _ _ ?_; clear hJ J; simp only [ak, reduceIte])))))
    refine qE (Find t 0 d _ hsm) (by simp) ?_; rintro r s3 ⟨rfl, rfl⟩
    by_cases hdt : d ∈ t
    · have hr := hso hdt
      have hg := gi_mem hdt
      (repeat' (first | refine qS ?_ | (refine qR ?_; simp only [ak, reduceIte]; simp [hg, hr]) | (refine qC ?_; simp [hg, hr]) | ((first | (refine w_e [] ?_; intro J hJ; simp only []) | (refine e_go ?_)); simp [hg, hr]; (refine hJ _ _ ?_; clear hJ J; simp only [ak, reduceIte]))))
      exact hkp
    · have hg := gi_not hdt
      (repeat' (first | (refine qK ?_; simp only [ak, reduceIte]) | (refine qC ?_; simp [hg]) | (refine e_go ?_; simp [hg]; (refine hJ _ _ ?_; clear hJ J; simp only [ak, reduceIte]))))
      exact hJJ _ _ (by simp [fi]) (by simp [fn]) ⟨by simp [f1], by simp [f2], hG, hkp, hnn hdt⟩
  · rintro fr st2 ⟨f1, f2, hG, hkp, hno⟩
    have hr := tix_none hno
    (repeat' (first | refine qS ?_ | (refine qR ?_; simp only [ak, reduceIte]; simp [hr]) | (refine w_e [] ?_; intro J hJ; simp only []; simp [hr]; (refine hJ _ _ ?_; clear hJ J; simp only [ak, reduceIte]))))
    exact hkp
theorem ref_twin (d : Int) (st : St) (h0 : 0 ≤ d) (h1 : d < 4294967295) : ACalls Tryz.prog 120 [u d] st fun r st' => r = u (tw d) ∧ st' = st := by
  have hm : d.tmod 2 = d % 2 := Int.tmod_eq_emod_of_nonneg h0
  by_cases hp : d % 2 = 0
  · have ht : tw d = d + 1 := by unfold tw; rw [if_pos hp]
    have hw : IntKind.u32.wrap (d + 1) = d + 1 := wrap_u32' _ (by omega) (by omega)
    refine qO tabOk Tryz.func120 rfl rfl Tryz.ntmps120 (rs := [.tmp 2]) rfl (by simp) ?_
    (repeat' (first | refine qS ?_ | (refine qR ?_; simp only [ak, reduceIte]; simp [hm, hp, ht, hw]) | (refine qC ?_; simp [hm, hp, ht, hw]) | (refine w_e [] ?_; intro J hJ; simp only []; simp [hm, hp, ht, hw]; (refine hJ _ _ ?_; clear hJ J; simp only [ak, reduceIte]))))
  · have ht : tw d = d - 1 := by unfold tw; rw [if_neg hp]
    have hw : IntKind.u32.wrap (d - 1) = d - 1 := wrap_u32' _ (by omega) (by omega)
    refine qO tabOk Tryz.func120 rfl rfl Tryz.ntmps120 (rs := [.tmp 2]) rfl (by simp) ?_
    (repeat' (first | refine qS ?_ | (refine qK ?_; simp only [ak, reduceIte]) | (refine qR ?_; simp only [ak, reduceIte]; simp [hm, hp, ht, hw]) | (refine qC ?_; simp [hm, hp, ht, hw]) | (refine w_e [] ?_; intro J hJ; simp only []; simp [hm, hp, ht, hw]; (refine hJ _ _ ?_; clear hJ J; simp only [ak, reduceIte]))))
def IsFace (m : Mp) (d : Int) (c : List Int) : Prop := (d ∈ darts m.g.es ∧ ∃ L, IsCyc (fc m m.g.es) d L ∧ c = nrm L) ∨ (d ∉ darts m.g.es ∧ c = [])
def FaceP (m : Mp) (d : Int) (st : St) (r : LV) (st' : St) : Prop := (∃ c, r = .sl 0 c.length (us c) ∧ IsFace m d c) ∧ Keeps st st'
theorem ref_Face (m : Mp) (h : MapOk m) (d : Int) (st : St) (hv : m.g.vs.length ≤ 1000) (he : m.g.es.length ≤ 1000) :
    ACalls Tryz.prog 92 [.ag (mpL m), u d] st (FaceP m d st) := by
  have hsm : ∀ t ∈ m.rots, small t := fun t ht => by have := h.row_le ht; unfold small; omega
  have hrl := h.len
  refine acalls_norm ?_
  by_cases hd : d ∈ darts m.g.es
  rotate_left
  · have ht := tix_out (rs := m.rots) fun t ht hdt => hd (h.turn_dart ht hdt)
    refine qO tabOk Tryz.func92 rfl rfl Tryz.ntmps92 (rs := [.tmp 4]) rfl (by simp) ?_
    (repeat' (first | refine qS ?_ | (refine w_e [] ?_; intro J hJ; simp only []; simp []; (try (refine hJ _ _ ?_; clear hJ J; simp only [ak, reduceIte])))))
    refine qE (ref_Turn m d _ (by omega) hsm) (by simp) ?_; rintro r s1 ⟨rfl, hk1⟩
    (repeat' (first | refine qS ?_ | (refine qR ?_; simp only [ak, reduceIte]; simp [ht]) | (refine qC ?_; simp [ht]) | ((first | (refine w_e [] ?_; intro J hJ; simp only []) | (refine e_go ?_)); simp [ht]; (refine hJ _ _ ?_; clear hJ J; simp only [ak, reduceIte]))))
    exact ⟨⟨[], rfl, .inr ⟨hd, rfl⟩⟩, (Keeps.new _ _).trans hk1⟩
  have hP := h.fc_per m.g.es (fun x hx => hx)
  obtain ⟨L, p, hp, hL, hp1, hp2⟩ := isCyc_ex hP d
  have hcyc : IsCyc (fc m m.g.es) d L := ⟨p, hp, hL, hp1, hp2⟩
  have hL' : L = itL (fc m m.g.es) d p := hL
  have hdk : ∀ k, it (fc m m.g.es) k d ∈ darts m.g.es := by
    intro k
    induction k with
    | zero => exact hd
    | succ k ih => rw [it_succ]; exact h.fc_dart _ _ ih
  have hpl : p ≤ 2 * m.g.es.length := by
    have := (h.cyc_le hd hcyc).2
    rwa [hL', itL_len] at this
  obtain ⟨k0, hk0, ht0, _⟩ := tix_in (h.turn_of hd)
  have hfx : ∀ x, x ∈ darts m.g.es → fc m m.g.es x = sg m (tw x) := fun x hx => by unfold fc; rw [al_in hx]
  refine qO tabOk Tryz.func92 rfl rfl Tryz.ntmps92 (rs := [.tmp 4]) rfl (by simp) ?_
  (repeat' (first | refine qS ?_ | (refine w_e [] ?_; intro J hJ; simp only []; simp []; (try (refine hJ _ _ ?_; clear hJ J; simp only [ak, reduceIte])))))
  refine qE (ref_Turn m d _ (by omega) hsm) (by simp) ?_; rintro r s1 ⟨rfl, hk1⟩
  have hn1 := hk1.next
  simp only [new_next] at hn1
  have hG1 : s1.H st.next = .box 28 3 (mpL m) := by rw [hk1.H _ (by simp)]; simp
  (repeat' (first | refine qS ?_ | refine qB ?_ | (refine qK ?_; simp only [ak, reduceIte]) | (refine qC ?_; simp [ht0]; (try with_reducible refine ⟨?_, ?_⟩) <;> (try with_reducible intro hc) <;> try (exfalso; omega)) | ((first | (refine w_e [] ?_; intro J hJ; simp only []) | (refine e_go ?_)); simp [ht0]; (refine hJ _ _ ?_; clear hJ J; simp only [ak, reduceIte]))))
  refine awp_posG fun hpos => ?_
  refine awp_own 5 29 1 (by simp) ?_
  generalize hf : fc m m.g.es = f at *
  refine qL (fun n fr st2 => ∃ k : Nat, k < p ∧ n = p - k ∧ fr 1 = u d ∧ fr 2 = .pt st.next 0 ∧ fr 6 = u (it f k d) ∧ st2.H st.next = .box 28 3 (mpL m) ∧ ∃ t, fr 5 = .sl t k (us (itL f d k)) ∧ (t ≠ 0 ∧ st.next < t ∧ t < st2.next) ∧ st2.H t = .own 29 1 k ∧ Keeps st st2) p ?_ ?_
  · exact ⟨0, by omega, by omega, by simp, by simp, by simp [it], by simp [show ¬ st.next = s1.next by omega, hG1], s1.next, by simp [itL], ⟨by omega, by omega, by simp⟩, by simp, ((Keeps.new _ _).trans hk1).trans (Keeps.new _ _)⟩
  rintro n fr st2 ⟨k, hk, rfl, f1, f2, f6, hG, t, f5, ⟨t0, t1, t2⟩, htH, hkp⟩ JJ hJJ
  have hn2 := hkp.next
  have hxd := hdk k
  have hx1 := dart_range h hxd
  obtain ⟨kt, hkt, htx, hmem⟩ := tix_in (h.turn_of (tw_dart.2 hxd))
  have hdr := rowsL_drop m.rots kt hkt
  have hRl : kt < (rowsL m.rots).length := by simpa using hkt
  have htin : m.rots.getD kt [] ∈ m.rots := by rw [getR_lt _ _ hkt]; exact List.getElem_mem _
  have hsmt := hsm _ htin
  have hnx : nx (m.rots.getD kt []) (tw (it f k d)) = it f (k + 1) d := by rw [it_succ, hfx _ hxd, sg_at h htin hmem]
  have hLn := itL_succ f d k
  have hLl := itL_len f d k
  have hstop : it f (k + 1) d = d → k + 1 = p := fun e => by
    rcases Nat.lt_or_ge (k + 1) p with h1 | h1
    · exact absurd e (hp2 _ (by omega) h1)
    · omega
  have hgo : ¬ it f (k + 1) d = d → k + 1 < p := fun e => by
    rcases Nat.lt_or_ge (k + 1) p with h1 | h1
    · exact h1
    · exact absurd (by rw [show k + 1 = p by omega]; exact hp1) e
  generalize itL f d k = Lk at *
  generalize m.rots.getD kt [] = tt at *
  generalize hxe : it f k d = x at *
  generalize hye : it f (k + 1) d = y at *
  have m1 : ¬ t = st2.next := by omega
  have m2 : ¬ st.next = st2.next := by omega
  have m3 : ¬ st.next = st2.next + 1 := by omega
  have m4 : ¬ st.next = t := by omega
  (repeat' (first | refine qS ?_ | refine qB ?_ | (refine w_e [] ?_; intro J hJ; simp only []; simp [f1, f2, f5, f6, htH, t0, m1, hLl]; (repeat refine ca ?_); (try (refine hJ _ _ ?_; clear hJ J; simp only [ak, reduceIte])))))
  refine qE (ref_twin x _ (by omega) (by omega)) (by simp) ?_; rintro r s3 ⟨rfl, rfl⟩
  (repeat' (first | refine qS ?_ | (refine e_go ?_; simp []; (refine hJ _ _ ?_; clear hJ J; simp only [ak, reduceIte]))))
  (refine w_s [] [st.next] [(0, true), (1, true), (2, true), (3, true), (7, true), (4, true), (5, true), (6, true), (8, true), (9, true)] ?_; intro J hJ; simp [f2, hG, m2, m3, m4])
  refine qD (ref_Turn m (tw x) _ (by omega) hsm) (by simp) ?_; rintro r s4 ⟨rfl, hk4⟩
  have hn4 := hk4.next
  have hG4 := hk4.H st.next (by simp; omega)
  simp [m2, m3, m4, hG] at hG4
  refine ⟨fun _ => by simp [m2, m3, m4, hG, hG4], ?_⟩
  rw [htx]
  (refine d_go ?_; simp [f2, hG4, hdr, hkt, hRl, m2, m3, m4, hG])
  refine qD (ref_Next tt 0 (tw x) _ hsmt) rfl ?_; rintro r s5 ⟨rfl, rfl⟩
  rw [hnx]
  refine ⟨fun _ => by simp [m2, m3, m4, hG, hG4], ?_⟩
  (refine d_go ?_; simp [hG4, m2, m3, m4, hG]; (refine hJ _ _ ?_; clear hJ J; simp only [ak, reduceIte]))
  have hkp4 : Keeps st s5 := (((hkp.trans (Keeps.new _ _)).set (by omega) _).trans (Keeps.new _ _)).trans hk4
  have htH4 := hk4.H (st2.next + 1) (by simp)
  simp at htH4 hn4
  by_cases hyd : y = d
  · have hkp1 := hstop hyd
    (repeat' (first | refine qS ?_ | (refine qC ?_; simp [hyd, f1]) | (refine w_e [] ?_; intro J hJ; simp only []; simp [hyd, f1]; (try (refine hJ _ _ ?_; clear hJ J; simp only [ak, reduceIte])))))
    refine qE (ref_Normal L (st2.next + 1) _ (by rw [hL', small, itL_len]; omega)) ?_ ?_
    · rw [hL', ← hkp1, hLn]
      simp [hLl]
    rintro r s6 ⟨rfl, hk6⟩
    (repeat' (first | (refine qR ?_; simp only [ak, reduceIte]; simp []) | (refine e_go ?_; simp []; (refine hJ _ _ ?_; clear hJ J; simp only [ak, reduceIte]))))
    exact ⟨⟨nrm L, by rw [nrm_length], .inl ⟨hd, L, by rw [hf]; exact hcyc, rfl⟩⟩, hkp4.trans hk6⟩
  · have hkp1 := hgo hyd
    (repeat' (first | refine qS ?_ | (refine qK ?_; simp only [ak, reduceIte]) | (refine qC ?_; simp [hyd, f1]) | (refine w_e [] ?_; intro J hJ; simp only []; simp [hyd, f1]; (refine hJ _ _ ?_; clear hJ J; simp only [ak, reduceIte]))))
    refine hJJ (p - (k + 1)) _ _ (by omega) ⟨k + 1, hkp1, rfl, by simp [f1], by simp [f2], by simp [hye], hG4, st2.next + 1, by simp [hLn], ⟨by omega, by omega, by omega⟩, htH4, hkp4⟩
def FacesP (m : Mp) (st : St) (r : LV) (st' : St) : Prop := (∃ t R, r = .sl t R.length (rowsL3 R) ∧ Lead (fc m m.g.es) (darts m.g.es) (darts m.g.es).length R) ∧ Keeps st st'
structure FcI (m : Mp) (q4 q5 ms ma : Nat) (es4 : List (List Int × LV)) (st : St) (K : Nat) (fr : Frm) (st2 : St) : Prop where
  f5 : fr 5 = .pt q5 0
  f6 : fr 6 = .fn (.func 32) [.pt q5 0, .pt q4 0]
  h5 : st2.H q5 = .box 65 1 [.mp ms]
  h4 : st2.H q4 = .box 63 1 [.mp ma]
  ha : st2.H ma = .map false [.u32] es4
  hs : ∃ es, st2.H ms = .map false [.u32] es ∧ SeenI es (SeenD (fc m m.g.es) (darts m.g.es) K)
  kp : Keeps st st2
  lt : (q5 < st2.next ∧ q4 < st2.next) ∧ ms < st2.next ∧ ma < st2.next
  lo : (st.next ≤ q5 ∧ st.next ≤ q4) ∧ st.next ≤ ms ∧ st.next ≤ ma
  rows : ∃ t R, fr 3 = .sl t R.length (rowsL3 R) ∧ Lead (fc m m.g.es) (darts m.g.es) K R ∧ (t ≠ 0 ∧ st.next ≤ t ∧ t < st2.next) ∧ st2.H t = .own 22 1 R.length
theorem FcI.fr {m : Mp} {q4 q5 ms ma : Nat} {es4 : List (List Int × LV)} {st : St} {K : Nat} {fr fr' : Frm} {st2 st3 : St} (h : FcI m q4 q5 ms ma es4 st K fr st2) (h3 : fr' 3 = fr 3) (h5 : fr' 5 = fr 5) (h6 : fr' 6 = fr 6) (hk : Keeps st2 st3) : FcI m q4 q5 ms ma es4 st K fr' st3 := by
  obtain ⟨f5, f6, a5, a4, aa, ⟨es, as1, as2⟩, kp, ⟨⟨l1, l2⟩, l3, l4⟩, lo, t, R, f3, hL, ⟨t0, t1, t2⟩, hH⟩ := h
  have := hk.next
  exact ⟨h5.trans f5, h6.trans f6, (hk.H _ l1).trans a5, (hk.H _ l2).trans a4, (hk.H _ l4).trans aa, ⟨es, (hk.H _ l3).trans as1, as2⟩, kp.trans hk, ⟨⟨by omega, by omega⟩, by omega, by omega⟩, lo, t, R, h3.trans f3, hL, ⟨t0, t1, by omega⟩, (hk.H _ t2).trans hH⟩
theorem Faces (m : Mp) (h : MapOk m) (st : St) (hv : m.g.vs.length ≤ 1000) (he : m.g.es.length ≤ 1000) :
    ACalls Tryz.prog 12 [.ag (mpL m)] st (FacesP m st) := by
  have hel := eds_length m.g.es
  have hdl := darts_length m.g.es
  have hP := h.fc_per m.g.es (fun x hx => hx)
  refine qO tabOk Tryz.func12 rfl rfl Tryz.ntmps12 (rs := [.tmp 2]) rfl (by simp) ?_
  (repeat' (first | refine qS ?_ | (refine w_e [] ?_; intro J hJ; simp only []; simp []; (try (refine hJ _ _ ?_; clear hJ J; simp only [ak, reduceIte])))))
  refine qE (behind m h _ hv he) (by simp) ?_; rintro r s1 ⟨ma, es4, rfl, hm1, hm2, hMa, hk1, hB⟩
  have hn1 := hk1.next
  simp only [new_next] at hn1 hm1
  have hG1 : s1.H st.next = .box 28 3 (mpL m) := by rw [hk1.H _ (by simp)]; simp
  have a1 : ¬ st.next = s1.next := by omega
  have a2 : ¬ st.next = s1.next + 1 := by omega
  have a3 : ¬ st.next = s1.next + 1 + 1 := by omega
  have a4 : ¬ ma = s1.next := by omega
  have a5 : ¬ ma = s1.next + 1 := by omega
  have a6 : ¬ ma = s1.next + 1 + 1 := by omega
  have a7 : ¬ ma = s1.next + 1 + 1 + 1 := by omega
  (repeat' (first | refine qS ?_ | refine qB ?_ | ((first | (refine w_e [] ?_; intro J hJ; simp only []) | (refine e_go ?_)); simp [hG1, a1, a2, a3]; (refine hJ _ _ ?_; clear hJ J; simp only [ak, reduceIte]))))
  refine awp_posG fun hpos => ?_
  refine awp_own 3 22 1 (by simp) ?_
  refine awp_range 19 18 20 42 (m.g.es.length) (fun j fr st2 => fr 17 = .sl 0 m.g.es.length (eds m.g.es) ∧ FcI m s1.next (s1.next + 1 + 1) (s1.next + 1) ma es4 st (2 * j) fr st2) ?_ ?_ ?_
  · refine ⟨by simp, by simp, by simp, by simp, by simp, by simp [a4, a5, a6, a7, hMa], ⟨[], by simp, fun v => ⟨?_, fun _ => rfl⟩⟩, ?_, by simp; omega, by omega, s1.next + 1 + 1 + 1, [], by simp, .zero, ⟨by omega, by omega, by simp⟩, by simp⟩
    · rintro ⟨y, hy, _⟩; simp at hy
    · (repeat (first | exact Keeps.refl _ | exact (Keeps.new _ _).trans hk1 | (refine Keeps.trans ?_ (Keeps.new _ _)) | (refine Keeps.set ?_ (by omega) _)))
  · rintro j0 fr st2' hlt ⟨f17, hI⟩ fi fn JJ hJJ
    have hd := eds_drop m.g.es j0 hlt
    have hk3 : j0 * 3 < m.g.es.length * 3 := by omega
    have hxin : m.g.es.getD j0 ed0 ∈ m.g.es := by rw [getE_lt _ _ hlt]; exact List.getElem_mem _
    have hpos := h.g.pos _ hxin
    have hg := darts_get m.g.es j0 hlt
    generalize hx : m.g.es.getD j0 ed0 = x at *
    obtain ⟨id, a, b⟩ := x
    simp only at hpos hd hg
    (repeat' (first | refine qS ?_ | refine qB ?_ | (refine w_e [] ?_; intro J hJ; simp only []; simp [fi, fn, f17, hd, hel, hk3]; (repeat refine ca ?_); (refine hJ _ _ ?_; clear hJ J; simp only [ak, reduceIte]))))
    refine awp_rangeC 23 24 41 2 (fun j fr st2 => fr 17 = .sl 0 m.g.es.length (eds m.g.es) ∧ fr 19 = i j0 ∧ fr 18 = i m.g.es.length ∧ fr 8 = .pt st2'.next 0 ∧ st2.H st2'.next = .box 31 3 (edL ⟨id, a, b⟩) ∧ st2'.next < st2.next ∧ FcI m s1.next (s1.next + 1 + 1) (s1.next + 1) ma es4 st (2 * j0 + j) fr st2) ?_ ?_ ?_
    · exact ⟨by simp [f17], by simp [fi], by simp [fn], by simp, by simp, by simp, hI.fr (by simp) (by simp) (by simp) (Keeps.new _ _)⟩
    · clear f17 fi fn hI fr
      rintro e fr st2 hle ⟨f17, f19, f18, f8, hX, hXl, hI⟩ fi J2 hJ2
      have hK : 2 * j0 + e < (darts m.g.es).length := by omega
      have hKd : (darts m.g.es).getD (2 * j0 + e) 0 = 2 * id + e := by
        rcases Nat.lt_or_ge e 1 with h1 | h1
        · obtain rfl : e = 0 := by omega
          rw [Nat.add_zero, hg.1]; omega
        · obtain rfl : e = 1 := by omega
          rw [hg.2]; rfl
      have hdin : 2 * id + (e : Int) ∈ darts m.g.es := by rw [← hKd, getD_lt _ _ hK]; exact List.getElem_mem _
      obtain ⟨f5, f6, h5, h4, ha, ⟨es, hM, hSI⟩, hkp, hlt5, hlo5, t, R, f3, hL, ⟨t0, t1, t2⟩, hH⟩ := hI
      (repeat' (first | refine qS ?_ | (refine w_e [] ?_; intro J hJ; simp only []; simp [f8, hX, fi]; (try (refine hJ _ _ ?_; clear hJ J; simp only [ak, reduceIte])))))
      refine qE (dOf id e _ (by omega) (by omega) (by omega)) (by simp) ?_; rintro r s3 ⟨rfl, rfl⟩
      by_cases hs : SeenD (fc m m.g.es) (darts m.g.es) (2 * j0 + e) (2 * id + e)
      · have hg1 := (hSI _).1 hs
        have hs' := hs
        rw [← hKd] at hs'
        (repeat' (first | refine qS ?_ | (refine qK ?_; simp only [ak, reduceIte]) | (refine qC ?_; simp [f5, h5, hM, hg1]) | ((first | (refine w_e [] ?_; intro J hJ; simp only []) | (refine e_go ?_)); simp [f5, h5, hM, hg1]; (refine hJ _ _ ?_; clear hJ J; simp only [ak, reduceIte]))))
        refine hJ2 _ _ (by simp [fi]) ⟨by simp [f17], by simp [f19], by simp [f18], by simp [f8], hX, hXl, by simp [f5], by simp [f6], h5, h4, ha, ⟨es, hM, hSI.congr fun v => seenD_same hK hs'⟩, hkp, hlt5, hlo5, t, R, by simp [f3], .seen hL hK hs', ⟨t0, t1, t2⟩, hH⟩
      · have hg1 := (hSI _).2 hs
        have hs' := hs
        rw [← hKd] at hs'
        (repeat' (first | refine qS ?_ | (refine qC ?_; simp [f5, h5, hM, hg1, f6, f3]) | ((first | (refine w_e [] ?_; intro J hJ; simp only []) | (refine e_go ?_)); simp [f5, h5, hM, hg1, f6, f3]; (try (refine hJ _ _ ?_; clear hJ J; simp only [ak, reduceIte])))))
        refine qE (Walk m h (2 * id + e) _ _ _ _ es es4 _ _ he hdin h5 h4 hM ha hlt5 (by omega) hSI hB fun x hx hx2 => ?_) (by simp) ?_
        · obtain ⟨y, hy, hr⟩ := hx2
          exact hs ⟨y, hy, hr.trans (Orb.symm hP hx)⟩
        rintro r s4 ⟨⟨t', L, rfl, hc⟩, hoff, es', hM', hSI'⟩
        have hn4 := hoff.1
        have hLl := (h.cyc_le hdin hc).2
        obtain ⟨Lr, hLr⟩ := IsCyc.head hc
        rw [← hKd] at hc
        have hmn := (cyc_lead hP (darts_rise h.g.ids) (h.fc_dart _) hK hc).1 hs'
        have hnL : nrm L = L := nrm_of_head hLr (hmn.trans hKd)
        have hSn : SeenI es' (SeenD (fc m m.g.es) (darts m.g.es) (2 * j0 + e + 1)) := hSI'.congr fun v => by rw [seenD_succ hK, hKd]
        have hRl := hL.len
        have hL2 := Lead.lead hL hK hs' hc
        obtain ⟨⟨l5, l4⟩, ls, la⟩ := hlt5
        obtain ⟨⟨o5, o4⟩, os, oa⟩ := hlo5
        have n1 : ¬ t = s1.next + 1 := by rintro rfl; rw [hM] at hH; cases hH
        (repeat' (refine e_go ?_; simp [f6, f3]))
        refine qE (Normal L t' _ (by unfold small; omega)) (by simp) ?_; rintro r s5 ⟨rfl, hk5⟩
        have hn5 := hk5.next
        have g5 := (hk5.H _ (by omega)).trans ((hoff.2 _ (by omega) l5).trans h5)
        have g4 := (hk5.H _ (by omega)).trans ((hoff.2 _ (by omega) l4).trans h4)
        have ga := (hk5.H _ (by omega)).trans ((hoff.2 _ (by omega) la).trans ha)
        have gs := (hk5.H _ (by omega)).trans hM'
        have gt := (hk5.H _ (by omega)).trans ((hoff.2 _ n1 t2).trans hH)
        have n2 : ¬ st2'.next = s1.next + 1 := by intro e; rw [e, hM] at hX; cases hX
        have gX := (hk5.H _ (by omega)).trans ((hoff.2 _ n2 hXl).trans hX)
        have m1 : ¬ t = s5.next := by omega
        have m2 : ¬ t = s1.next := by rintro rfl; rw [h4] at hH; cases hH
        have m3 : ¬ t = s1.next + 1 + 1 := by rintro rfl; rw [h5] at hH; cases hH
        have m4 : ¬ t = ma := by rintro rfl; rw [ha] at hH; cases hH
        have m5 : ¬ st2'.next = t := by rintro rfl; rw [hX] at hH; cases hH
        rw [hnL]
        (repeat' (refine e_go ?_; simp [f3, gt, t0, m1]; (repeat refine ca ?_); (refine hJ _ _ ?_; clear hJ J; simp only [ak, reduceIte])))
        refine hJ2 _ _ (by simp [fi]) ⟨by simp [f17], by simp [f19], by simp [f18], by simp [f8], ?_, by simp; omega, by simp [f5], by simp [f6], ?_, ?_, ?_, ⟨es', ?_, hSn⟩, ?_, by simp; omega, by omega, s5.next + 1, R ++ [L], by simp, hL2, ⟨by omega, by omega, by simp⟩, by simp⟩
        · rw [new_H, if_neg (by simp only [set_next, new_next]; omega), set_H, if_neg (by omega), new_H, if_neg (by omega)]; exact gX
        · rw [new_H, if_neg (by simp only [set_next, new_next]; omega), set_H, if_neg (by omega), new_H, if_neg (by omega)]; exact g5
        · rw [new_H, if_neg (by simp only [set_next, new_next]; omega), set_H, if_neg (by omega), new_H, if_neg (by omega)]; exact g4
        · rw [new_H, if_neg (by simp only [set_next, new_next]; omega), set_H, if_neg (by omega), new_H, if_neg (by omega)]; exact ga
        · rw [new_H, if_neg (by simp only [set_next, new_next]; omega), set_H, if_neg (by omega), new_H, if_neg (by omega)]; exact gs
        · have hK3 : Keeps st s5 := ⟨by have := hkp.next; omega, fun l hl => (hk5.H l (by have := hkp.next; omega)).trans ((hoff.2 l (by omega) (by have := hkp.next; omega)).trans (hkp.H l hl))⟩
          exact ((hK3.trans (Keeps.new _ _)).set t1 _).trans (Keeps.new _ _)
    · clear f17 fi fn hI fr
      rintro fr st2 ⟨f17, f19, f18, f8, hX, hXl, hI⟩
      skip
      exact hJJ _ _ (by simp [f19]) (by simp [f18]) ⟨by simp [f17], hI.fr (by simp) (by simp) (by simp) (Keeps.refl _)⟩
  · rintro fr st2 ⟨f17, hI⟩
    obtain ⟨t, R, f3, hL, _⟩ := hI.rows
    (repeat' (first | refine qS ?_ | (refine qR ?_; simp only [ak, reduceIte]; simp [f3]) | (refine w_e [] ?_; intro J hJ; simp only []; simp [f3]; (refine hJ _ _ ?_; clear hJ J; simp only [ak, reduceIte]))))
    exact ⟨⟨t, R, rfl, by rw [hdl]; exact hL⟩, hI.kp⟩
structure RfI (m : Mp) (st : St) (K : Nat) (fr : Frm) (st2 : St) : Prop where
  f1 : fr 1 = .pt st.next 0
  hG : st2.H st.next = .box 28 3 (mpL m)
  kp : Keeps st st2
  lt : st.next < st2.next
  rows : ∃ t R, fr 3 = .sl t R.length (rowsL3 R) ∧ Lead (fc m m.g.es) (darts m.g.es) K R ∧ (t ≠ 0 ∧ st.next < t ∧ t < st2.next) ∧ st2.H t = .own 22 1 R.length
theorem RfI.fr {m : Mp} {st : St} {K : Nat} {fr fr' : Frm} {st2 st3 : St} (h : RfI m st K fr st2) (h3 : fr' 3 = fr 3) (h1 : fr' 1 = fr 1) (hk : Keeps st2 st3) : RfI m st K fr' st3 := by
  obtain ⟨f1, hG, kp, lt, t, R, f3, hL, ⟨t0, t1, t2⟩, hH⟩ := h
  have := hk.next
  exact ⟨h1.trans f1, (hk.H _ lt).trans hG, kp.trans hk, by omega, t, R, h3.trans f3, hL, ⟨t0, t1, by omega⟩, (hk.H _ t2).trans hH⟩
theorem ref_Faces (m : Mp) (h : MapOk m) (st : St) (hv : m.g.vs.length ≤ 1000) (he : m.g.es.length ≤ 1000) :
    ACalls Tryz.prog 59 [.ag (mpL m)] st (FacesP m st) := by
  have hel := eds_length m.g.es
  have hdl := darts_length m.g.es
  have hP := h.fc_per m.g.es (fun x hx => hx)
  refine qO tabOk Tryz.func59 rfl rfl Tryz.ntmps59 (rs := [.tmp 2]) rfl (by simp) ?_
  (repeat' (first | refine qS ?_ | refine qB ?_ | (refine w_e [] ?_; intro J hJ; simp only []; simp []; (refine hJ _ _ ?_; clear hJ J; simp only [ak, reduceIte]))))
  refine awp_posG fun hpos => ?_
  refine awp_own 3 22 1 (by simp) ?_
  refine awp_range 12 11 13 39 (m.g.es.length) (fun j fr st2 => fr 10 = .sl 0 m.g.es.length (eds m.g.es) ∧ RfI m st (2 * j) fr st2) ?_ ?_ ?_
  · exact ⟨by simp, by simp, by simp, (Keeps.new _ _).trans (Keeps.new _ _), by simp; omega, st.next + 1, [], by simp, .zero, ⟨by omega, by omega, by simp⟩, by simp⟩
  · rintro j fr s2 hlt ⟨f10, hI⟩ fi fn JJ hJJ
    have hd := eds_drop m.g.es j hlt
    have hk3 : j * 3 < m.g.es.length * 3 := by omega
    have hxin : m.g.es.getD j ed0 ∈ m.g.es := by rw [getE_lt _ _ hlt]; exact List.getElem_mem _
    have hpos := h.g.pos _ hxin
    have hg := darts_get m.g.es j hlt
    generalize hx : m.g.es.getD j ed0 = x at *
    obtain ⟨id, a, b⟩ := x
    simp only at hpos hd hg
    have w1 : IntKind.u32.wrap (2 * id) = 2 * id := wrap_u32' _ (by omega) (by omega)
    have w2 : IntKind.u32.wrap (2 * id + 2) = 2 * id + 2 := wrap_u32' _ (by omega) (by omega)
    (repeat' (first | refine qS ?_ | refine qB ?_ | (refine w_e [] ?_; intro J hJ; simp only []; simp [fi, fn, f10, hd, hel, hk3, w1, w2]; (repeat refine ca ?_); (refine hJ _ _ ?_; clear hJ J; simp only [ak, reduceIte]))))
    refine qL (fun n fr st2 => ∃ e : Nat, e ≤ 2 ∧ n = 2 - e ∧ fr 6 = u (2 * id + e) ∧ fr 5 = .pt s2.next 0 ∧ fr 10 = .sl 0 m.g.es.length (eds m.g.es) ∧ fr 12 = i j ∧ fr 11 = i m.g.es.length ∧ st2.H s2.next = .box 31 3 (edL ⟨id, a, b⟩) ∧ s2.next < st2.next ∧ RfI m st (2 * j + e) fr st2) 2 ?_ ?_
    · exact ⟨0, by omega, by omega, by simp, by simp, by simp [f10], by simp [fi], by simp [fn], by simp, by simp, hI.fr (by simp) (by simp) (Keeps.new _ _)⟩
    clear f10 fi fn hI fr
    rintro n fr st2 ⟨e, hle, rfl, f6, f5, f10, f12, f11, hX, hXl, hI⟩ J2 hJ2
    rcases Nat.lt_or_ge e 2 with he2 | he2
    rotate_left
    · clear hJ2
      obtain rfl : e = 2 := by omega
      (repeat' (first | refine qS ?_ | (refine qX ?_; simp only [ak, reduceIte]) | (refine qC ?_; simp [f6, f5, hX, w1, w2]) | (refine w_e [] ?_; intro J hJ; simp only []; simp [f6, f5, hX, w1, w2]; (refine hJ _ _ ?_; clear hJ J; simp only [ak, reduceIte]))))
      exact hJJ _ _ (by simp [f12]) (by simp [f11]) ⟨by simp [f10], hI.fr (by simp) (by simp) (Keeps.refl _)⟩
    clear hJJ
    have hK : 2 * j + e < (darts m.g.es).length := by omega
    have hKd : (darts m.g.es).getD (2 * j + e) 0 = 2 * id + e := by
      rcases Nat.lt_or_ge e 1 with h1 | h1
      · obtain rfl : e = 0 := by omega
        rw [Nat.add_zero, hg.1]; omega
      · obtain rfl : e = 1 := by omega
        rw [hg.2]; rfl
    have hdin : 2 * id + (e : Int) ∈ darts m.g.es := by rw [← hKd, getD_lt _ _ hK]; exact List.getElem_mem _
    have w3 : IntKind.u32.wrap (2 * id + e + 1) = 2 * id + ((e + 1 : Nat) : Int) := by rw [wrap_u32' _ (by omega) (by omega)]; omega
    have hcmp : 2 * id + (e : Int) < 2 * id + 2 := by omega
    obtain ⟨f1, hG, hkp, hlo, t, R, f3, hL, ⟨t0, t1, t2⟩, hH⟩ := hI
    have hRl := hL.len
    (repeat' (first | refine qS ?_ | refine qB ?_ | (refine qK ?_; simp only [ak, reduceIte]) | (refine qC ?_; simp [f6, f5, hX, w1, w2, f1, hG, hcmp]) | (refine w_e [] ?_; intro J hJ; simp only []; simp [f6, f5, hX, w1, w2, f1, hG, hcmp]; (try (refine hJ _ _ ?_; clear hJ J; simp only [ak, reduceIte])))))
    refine qE (ref_Face m h (2 * id + e) _ hv he) (by simp) ?_; rintro r s3 ⟨⟨c, rfl, hc⟩, hk3⟩
    rcases hc with ⟨_, L, hc, rfl⟩ | ⟨hno, _⟩
    rotate_left
    · exact absurd hdin hno
    have hcl := (h.cyc_le hdin hc).2
    obtain ⟨Lr, hLr⟩ := IsCyc.head hc
    obtain ⟨nr, hnr⟩ := nrm_head L hc.ne
    have hnl : (nrm L).length = L.length := nrm_length L
    have hc' := hc
    rw [← hKd] at hc'
    have hld := cyc_lead hP (darts_rise h.g.ids) (h.fc_dart _) hK hc'
    rw [hKd] at hld
    have hL0 : 0 < (nrm L).length := by rw [hnr]; simp
    have hn3 := hk3.next
    have gX := (hk3.H _ hXl).trans hX
    have gH := (hk3.H _ t2).trans hH
    have m1 : ¬ t = s3.next := by omega
    have m5 : ¬ s2.next = t := by rintro rfl; rw [hX] at hH; cases hH
    by_cases hs : SeenD (fc m m.g.es) (darts m.g.es) (2 * j + e) (2 * id + e)
    · have hmn : ¬ mn L = 2 * id + e := fun e1 => (hld.2 e1) hs
      have hL2 := Lead.seen hL hK (by rw [hKd]; exact hs)
      (repeat' (first | refine qS ?_ | (refine qK ?_; simp only [ak, reduceIte]) | (refine qC ?_; simp [f6, hnr, hmn, hL0, w3]) | ((first | (refine w_e [] ?_; intro J hJ; simp only []) | (refine e_go ?_)); simp [f6, hnr, hmn, hL0, w3]; (refine hJ _ _ ?_; clear hJ J; simp only [ak, reduceIte]))))
      exact hJ2 (2 - (e + 1)) _ _ (by omega) ⟨e + 1, by omega, rfl, by simp, by simp [f5], by simp [f10], by simp [f12], by simp [f11], gX, by omega, by simp [f1], (hk3.H _ hlo).trans hG, hkp.trans hk3, by omega, t, R, by simp [f3], hL2, ⟨t0, t1, by omega⟩, gH⟩
    · have hmn := hld.1 hs
      have hnL : nrm L = L := nrm_of_head hLr hmn
      have hL2 := Lead.lead hL hK (by rw [hKd]; exact hs) hc'
      rw [hnL]
      subst hLr
      (repeat' (first | refine qS ?_ | (refine qC ?_; simp [f6, w3, f3, gH, t0, m1]) | ((first | (refine w_e [] ?_; intro J hJ; simp only []) | (refine e_go ?_)); simp [f6, w3, f3, gH, t0, m1]; (repeat refine ca ?_); (refine hJ _ _ ?_; clear hJ J; simp only [ak, reduceIte]))))
      exact hJ2 (2 - (e + 1)) _ _ (by omega) ⟨e + 1, by omega, rfl, by simp, by simp [f5], by simp [f10], by simp [f12], by simp [f11], by rw [new_H, if_neg (by simp only [set_next, new_next]; omega), set_H, if_neg m5, new_H, if_neg (by omega)]; exact gX, by simp; omega, by simp [f1], by rw [new_H, if_neg (by simp only [set_next, new_next]; omega), set_H, if_neg (by omega), new_H, if_neg (by omega)]; exact (hk3.H _ hlo).trans hG, (((hkp.trans hk3).trans (Keeps.new _ _)).set (by omega) _).trans (Keeps.new _ _), by simp; omega, s3.next + 1, R ++ [(2 * id + e) :: Lr], by simp, hL2, ⟨by omega, by omega, by simp⟩, by simp⟩
  · rintro fr st2 ⟨f10, hI⟩
    obtain ⟨t, R, f3, hL, _⟩ := hI.rows
    (repeat' (first | refine qS ?_ | (refine qR ?_; simp only [ak, reduceIte]; simp [f3]) | (refine w_e [] ?_; intro J hJ; simp only []; simp [f3]; (refine hJ _ _ ?_; clear hJ J; simp only [ak, reduceIte]))))
    exact ⟨⟨t, R, rfl, by rw [hdl]; exact hL⟩, hI.kp⟩
def FacesOf (m : Mp) (R : List (List Int)) : Prop := Lead (fc m m.g.es) (darts m.g.es) (darts m.g.es).length R
section
variable {m : Mp} (h : MapOk m) {R : List (List Int)} (hR : FacesOf m R)
include h hR
theorem faces_perm : R.flatten.Perm (darts m.g.es) := Lead.count (h.fc_per m.g.es fun x hx => hx) (h.fc_dart _) (rise_nodup (darts_rise h.g.ids)) hR
theorem faces_cyc {c : List Int} (hc : c ∈ R) : ∃ e ∈ darts m.g.es, IsCyc (fc m m.g.es) e c ∧ mn c = e := Lead.cyc (h.fc_per m.g.es fun x hx => hx) (h.fc_dart _) (darts_rise h.g.ids) hR c hc
theorem faces_in {d : Int} (hd : d ∈ darts m.g.es) : ∃ k, k < R.length ∧ tix R d = (k : Int) ∧ d ∈ R.getD k [] := by
  refine tix_in ?_
  have := (faces_perm h hR).mem_iff.2 hd
  obtain ⟨t, ht, h1⟩ := List.mem_flatten.1 this
  exact ⟨t, ht, h1⟩
end
def turnOf (rs : List (List Int)) (d : Int) : List Int := if 0 ≤ tix rs d then rs.getD (tix rs d).toNat [] else []
theorem turnOf_some {rs : List (List Int)} {d : Int} {k : Nat} (h : tix rs d = (k : Int)) : turnOf rs d = rs.getD k [] := by
  unfold turnOf; rw [h, if_pos (by omega)]; rfl
theorem turnOf_none {rs : List (List Int)} {d : Int} (h : tix rs d = -1) : turnOf rs d = [] := by
  unfold turnOf; rw [h, if_neg (by omega)]
def TurnP (rs : List (List Int)) (d : Int) (st : St) (r : LV) (st' : St) : Prop := (∃ t, r = .sl t (turnOf rs d).length (us (turnOf rs d))) ∧ Keeps st st'
theorem rTurn (m : Mp) (d : Int) (st : St) (hr : m.rots.length ≤ 1000) (hs : ∀ t ∈ m.rots, small t) :
    ACalls Tryz.prog 16 [.ag (mpL m), u d] st (TurnP m.rots d st) := by
  refine acalls_norm ?_
  refine qO tabOk Tryz.func16 rfl rfl Tryz.ntmps16 (rs := [.tmp 4]) rfl (by simp) ?_
  (repeat' (first | refine qS ?_ | refine qB ?_ | (refine w_e [] ?_; intro J hJ; simp only []; simp []; (refine hJ _ _ ?_; clear hJ J; simp only [ak, reduceIte]))))
  refine awp_range 10 9 11 19 (m.rots.length) (fun j fr st2 => fr 1 = u d ∧ fr 8 = .sl 0 m.rots.length (rowsL m.rots) ∧ Keeps st st2 ∧ ∀ k, k < j → d ∉ m.rots.getD k []) ?_ ?_ ?_
  · exact ⟨by simp, by simp, Keeps.new _ _, fun k hk => by omega⟩
  · rintro j fr st2 hlt ⟨f1, f8, hkp, hno⟩ fi fn JJ hJJ
    have hd := rowsL_drop m.rots j hlt
    have hRl : j < (rowsL m.rots).length := by simpa using hlt
    have htin : m.rots.getD j [] ∈ m.rots := by rw [getR_lt _ _ hlt]; exact List.getElem_mem _
    have hsm := hs _ htin
    have hso := fun h => turnOf_some (tix_some (d := d) hlt h hno)
    have hnn : d ∉ m.rots.getD j [] → ∀ k, k < j + 1 → d ∉ m.rots.getD k [] := fun h k hk => by
      rcases Nat.lt_or_ge k j with h1 | h1
      · exact hno k h1
      · obtain rfl : k = j := by omega
        exact h
    generalize m.rots.getD j [] = t at *
    (repeat' (first | refine qS ?_ | (refine w_e [] ?_; intro J hJ; simp only []; simp [f1, f8, fi, fn, hd, hRl, hlt]; (try (refine hJ _ _ ?_; clear hJ J; simp only [ak, reduceIte])))))
    refine qE (Contains t 0 d _ hsm) (by simp) ?_; rintro r s3 ⟨rfl, rfl⟩
    by_cases hdt : d ∈ t
    · have hr := hso hdt
      (repeat' (first | refine qS ?_ | (refine qC ?_; simp [hdt]) | ((first | (refine w_e [] ?_; intro J hJ; simp only []) | (refine e_go ?_)); simp [hdt]; (try (refine hJ _ _ ?_; clear hJ J; simp only [ak, reduceIte])))))
      refine qE (Clone t 0 _ hsm) (by simp) ?_; rintro r s4 ⟨rfl, hk4⟩
      (repeat' (first | (refine qR ?_; simp only [ak, reduceIte]; simp []) | (refine e_go ?_; simp []; (refine hJ _ _ ?_; clear hJ J; simp only [ak, reduceIte]))))
      exact ⟨⟨_, by rw [hr]⟩, hkp.trans hk4⟩
    · (repeat' (first | (refine qK ?_; simp only [ak, reduceIte]) | (refine qC ?_; simp [hdt]) | (refine e_go ?_; simp [hdt]; (refine hJ _ _ ?_; clear hJ J; simp only [ak, reduceIte]))))
      exact hJJ _ _ (by simp [fi]) (by simp [fn]) ⟨by simp [f1], by simp [f8], hkp, hnn hdt⟩
  · rintro fr st2 ⟨f1, f8, hkp, hno⟩
    have hr := turnOf_none (tix_none hno)
    (repeat' (first | refine qS ?_ | (refine qR ?_; simp only [ak, reduceIte]; simp []) | (refine w_e [] ?_; intro J hJ; simp only []; simp []; (refine hJ _ _ ?_; clear hJ J; simp only [ak, reduceIte]))))
    exact ⟨⟨0, by rw [hr]; rfl⟩, hkp⟩
def rFaceP (m : Mp) (d : Int) (st : St) (r : LV) (st' : St) : Prop := (∃ R t, FacesOf m R ∧ r = .sl t (turnOf R d).length (us (turnOf R d))) ∧ Keeps st st'
theorem rFace (m : Mp) (h : MapOk m) (d : Int) (st : St) (hv : m.g.vs.length ≤ 1000) (he : m.g.es.length ≤ 1000) :
    ACalls Tryz.prog 14 [.ag (mpL m), u d] st (rFaceP m d st) := by
  refine acalls_norm ?_
  refine qO tabOk Tryz.func14 rfl rfl Tryz.ntmps14 (rs := [.tmp 4]) rfl (by simp) ?_
  (repeat' (first | refine qS ?_ | (refine w_e [] ?_; intro J hJ; simp only []; simp []; (try (refine hJ _ _ ?_; clear hJ J; simp only [ak, reduceIte])))))
  refine qE (Faces m h _ hv he) (by simp) ?_; rintro r s1 ⟨⟨t0, R, rfl, hR⟩, hk1⟩
  have hRl := hR.len
  have hdl := darts_length m.g.es
  have hrow : ∀ c ∈ R, small c := fun c hc => by
    obtain ⟨e, he', h1, _⟩ := faces_cyc h hR hc
    have := (h.cyc_le he' h1).2
    unfold small; omega
  (repeat' (first | refine qB ?_ | (refine e_go ?_; simp []; (refine hJ _ _ ?_; clear hJ J; simp only [ak, reduceIte]))))
  refine awp_range 10 9 11 18 (R.length) (fun j fr st2 => fr 1 = u d ∧ fr 8 = .sl t0 R.length (rowsL3 R) ∧ Keeps st st2 ∧ ∀ k, k < j → d ∉ R.getD k []) ?_ ?_ ?_
  · exact ⟨by simp, by simp, (Keeps.new _ _).trans hk1, fun k hk => by omega⟩
  · rintro j fr st2 hlt ⟨f1, f8, hkp, hno⟩ fi fn JJ hJJ
    have hd := rowsL_drop R j hlt
    have hRl : j < (rowsL R).length := by simpa using hlt
    have htin : R.getD j [] ∈ R := by rw [getR_lt _ _ hlt]; exact List.getElem_mem _
    have hsm := hrow _ htin
    have hso := fun h => turnOf_some (tix_some (d := d) hlt h hno)
    have hnn : d ∉ R.getD j [] → ∀ k, k < j + 1 → d ∉ R.getD k [] := fun h k hk => by
      rcases Nat.lt_or_ge k j with h1 | h1
      · exact hno k h1
      · obtain rfl : k = j := by omega
        exact h
    generalize R.getD j [] = t at *
    (repeat' (first | refine qS ?_ | (refine w_e [] ?_; intro J hJ; simp only []; simp [f1, f8, fi, fn, hd, hRl, hlt]; (try (refine hJ _ _ ?_; clear hJ J; simp only [ak, reduceIte])))))
    refine qE (Contains t 0 d _ hsm) (by simp) ?_; rintro r s3 ⟨rfl, rfl⟩
    by_cases hdt : d ∈ t
    · have hr := hso hdt
      (repeat' (first | refine qS ?_ | (refine qR ?_; simp only [ak, reduceIte]; simp [hdt]) | (refine qC ?_; simp [hdt]) | ((first | (refine w_e [] ?_; intro J hJ; simp only []) | (refine e_go ?_)); simp [hdt]; (refine hJ _ _ ?_; clear hJ J; simp only [ak, reduceIte]))))
      exact ⟨⟨R, _, hR, by rw [hr]⟩, hkp⟩
    · (repeat' (first | (refine qK ?_; simp only [ak, reduceIte]) | (refine qC ?_; simp [hdt]) | (refine e_go ?_; simp [hdt]; (refine hJ _ _ ?_; clear hJ J; simp only [ak, reduceIte]))))
      exact hJJ _ _ (by simp [fi]) (by simp [fn]) ⟨by simp [f1], by simp [f8], hkp, hnn hdt⟩
  · rintro fr st2 ⟨f1, f8, hkp, hno⟩
    have hr := turnOf_none (tix_none hno)
    (repeat' (first | refine qS ?_ | (refine qR ?_; simp only [ak, reduceIte]; simp []) | (refine w_e [] ?_; intro J hJ; simp only []; simp []; (refine hJ _ _ ?_; clear hJ J; simp only [ak, reduceIte]))))
    exact ⟨⟨R, 0, hR, by rw [hr]; rfl⟩, hkp⟩
theorem turn_of_dart {m : Mp} (h : MapOk m) {d : Int} (hd : d ∈ darts m.g.es) : turnOf m.rots d ∈ m.rots ∧ d ∈ turnOf m.rots d := by
  obtain ⟨t, ht, hdt⟩ := h.turn_of hd
  obtain ⟨k, hk, h1, h2⟩ := tix_in ⟨t, ht, hdt⟩
  rw [turnOf_some h1]
  exact ⟨by rw [getR_lt _ _ hk]; exact List.getElem_mem _, h2⟩
end Go.Proofs.YtglkgindpjdoiaaGreat.Aw
namespace Go.Proofs.YtglkgindpjdoiaaGreat.Aw
open Go Go.RowKit Go.Proofs.YtglkgindpjdoiaaGreat.Pl
set_option linter.unusedSimpArgs false
set_option linter.unusedVariables false
end Go.Proofs.YtglkgindpjdoiaaGreat.Aw
namespace Go.Proofs.YtglkgindpjdoiaaGreat.Aw
open Go Go.RowKit Go.Proofs.YtglkgindpjdoiaaGreat.Pl Go.Proofs.YtglkgindpjdoiaaGreat.Eu
set_option linter.unusedSimpArgs false
set_option linter.unusedVariables false
theorem getD_mem {l : List Int} {k : Nat} (h : k < l.length) : l.getD k 0 ∈ l := by rw [getD_lt _ _ h]; exact List.getElem_mem _
structure Iso (a b : Mp) (P : Int → Prop) (φ : Int → Int) : Prop where
  dart : ∀ x, P x → x ∈ darts a.g.es
  to : ∀ x, P x → φ x ∈ darts b.g.es
  inj : ∀ x y, P x → P y → φ x = φ y → x = y
  tw : ∀ x, P x → P (tw x) ∧ φ (tw x) = tw (φ x)
  sg : ∀ x, P x → P (sg a x) ∧ φ (sg a x) = sg b (φ x)
section
variable {a b : Mp} (ha : MapOk a) (hb : MapOk b) {P : Int → Prop} {φ : Int → Int} (h : Iso a b P φ)
include h
include ha hb
end
end Go.Proofs.YtglkgindpjdoiaaGreat.Aw
namespace Go.Proofs.YtglkgindpjdoiaaGreat.Aw
open Go Go.RowKit Go.Proofs.YtglkgindpjdoiaaGreat.Pl
set_option linter.unusedSimpArgs false
set_option linter.unusedVariables false
end Go.Proofs.YtglkgindpjdoiaaGreat.Aw
namespace Go.Proofs.YtglkgindpjdoiaaGreat.Aw
open Go Go.RowKit Go.Proofs.YtglkgindpjdoiaaGreat.Pl Go.Proofs.YtglkgindpjdoiaaGreat.Eu
set_option linter.unusedSimpArgs false
set_option linter.unusedVariables false
end Go.Proofs.YtglkgindpjdoiaaGreat.Aw
namespace Go.Proofs.YtglkgindpjdoiaaGreat.Aw
open Go Go.RowKit Go.Proofs.YtglkgindpjdoiaaGreat.Pl
set_option linter.unusedSimpArgs false
set_option linter.unusedVariables false
end Go.Proofs.YtglkgindpjdoiaaGreat.Aw
namespace Go.Proofs.YtglkgindpjdoiaaGreat.Aw
open Go Go.RowKit
set_option linter.unusedSimpArgs false
set_option linter.unusedVariables false
end Go.Proofs.YtglkgindpjdoiaaGreat.Aw
namespace Go.Proofs.YtglkgindpjdoiaaGreat.Aw
open Go Go.RowKit Go.Proofs.YtglkgindpjdoiaaGreat.Pl
set_option linter.unusedSimpArgs false
set_option linter.unusedVariables false
theorem ref_Chk (g : Gr) (st : St) : ACalls Tryz.prog 54 [.ag (grL g)] st fun r st' => r = i (chk g) ∧ Keeps st st' := by
  by_cases h1 : (64 : Int) < (g.vs.length : Int)
  · have : chk g = 6 := by unfold chk; rw [if_pos (by omega)]
    refine qO tabOk Tryz.func54 rfl rfl Tryz.ntmps54 (rs := [.tmp 2]) rfl (by simp) ?_
    (repeat' (first | refine qS ?_ | (refine qR ?_; simp only [ak, reduceIte]; simp [h1, this]) | (refine qC ?_; simp [h1, this]) | (refine w_e [] ?_; intro J hJ; simp only []; simp [h1, this]; (refine hJ _ _ ?_; clear hJ J; simp only [ak, reduceIte]))))
    exact Keeps.new _ _
  by_cases h2 : (160 : Int) < (g.es.length : Int)
  · have : chk g = 6 := by unfold chk; rw [if_pos (by omega)]
    refine qO tabOk Tryz.func54 rfl rfl Tryz.ntmps54 (rs := [.tmp 2]) rfl (by simp) ?_
    (repeat' (first | refine qS ?_ | (refine qR ?_; simp only [ak, reduceIte]; simp [h1, h2, this]) | (refine qC ?_; simp [h1, h2, this]) | (refine w_e [] ?_; intro J hJ; simp only []; simp [h1, h2, this]; (refine hJ _ _ ?_; clear hJ J; simp only [ak, reduceIte]))))
    exact Keeps.new _ _
  exact ref_Check g st (by omega) (by omega)
end Go.Proofs.YtglkgindpjdoiaaGreat.Aw
namespace Go.Proofs.YtglkgindpjdoiaaGreat.Aw
open Go Go.RowKit Go.Proofs.YtglkgindpjdoiaaGreat.Pl Go.Proofs.YtglkgindpjdoiaaGreat.Eu
set_option linter.unusedSimpArgs false
set_option linter.unusedVariables false
theorem perm_of_sub : ∀ {a b : List Int}, a.Nodup → (∀ x ∈ a, x ∈ b) → b.length ≤ a.length → a.Perm b
  | [], b, _, _, hl => by
    have : b = [] := List.eq_nil_of_length_eq_zero (by simpa using hl)
    rw [this]
  | x :: a, b, hn, hs, hl => by
    rw [List.nodup_cons] at hn
    have hxb : x ∈ b := hs x List.mem_cons_self
    have p1 : b.Perm (x :: b.erase x) := List.perm_cons_erase hxb
    refine List.Perm.trans (List.Perm.cons x (perm_of_sub hn.2 (fun y hy => ?_) ?_)) p1.symm
    · have hne : y ≠ x := by rintro rfl; exact hn.1 hy
      exact (List.mem_erase_of_ne hne).2 (hs y (List.mem_cons_of_mem _ hy))
    · have := p1.length_eq
      simp only [List.length_cons] at this hl
      omega
def rok (m : Mp) (k : Nat) : Prop := okTurn m.g.es (m.g.vs.getD k 0) (m.rots.getD k [])
noncomputable def rchk (m : Mp) : Int := if chk m.g ≠ 0 then chk m.g else if m.rots.length ≠ m.g.vs.length then 22 else @ite _ (∀ k, k < m.g.vs.length → rok m k) (Classical.propDecidable _) 0 22
theorem rchk_g {m : Mp} (h : chk m.g ≠ 0) : rchk m = chk m.g := by unfold rchk; rw [if_pos h]
theorem rchk_len {m : Mp} (h : chk m.g = 0) (h1 : m.rots.length ≠ m.g.vs.length) : rchk m = 22 := by unfold rchk; rw [if_neg (fun e => e h), if_pos h1]
theorem rchk_bad {m : Mp} (h : chk m.g = 0) {k : Nat} (hk : k < m.g.vs.length) (h1 : ¬ rok m k) : rchk m = 22 := by
  unfold rchk
  rw [if_neg (fun e => e h)]
  split
  · rfl
  · rw [if_neg (fun e => h1 (e k hk))]
theorem rchk_ok {m : Mp} (h : chk m.g = 0) (h1 : m.rots.length = m.g.vs.length) (h2 : ∀ k, k < m.g.vs.length → rok m k) : rchk m = 0 := by
  unfold rchk
  rw [if_neg (fun e => e h), if_neg (fun e => e h1), if_pos h2]
theorem rchk_zero {m : Mp} (h : rchk m = 0) : chk m.g = 0 ∧ MapOk m := by
  by_cases h0 : chk m.g = 0
  · refine ⟨h0, ?_⟩
    by_cases h1 : m.rots.length = m.g.vs.length
    · refine ⟨chk_goodE h0, h1, fun k hk => ?_⟩
      refine Classical.byContradiction fun hn => ?_
      rw [rchk_bad h0 hk hn] at h; cases h
    · rw [rchk_len h0 h1] at h; cases h
  · rw [rchk_g h0] at h; exact absurd h h0
noncomputable def gn (m : Mp) : Nat := (2 * ncl (Reach m.g.es) m.g.vs + m.g.es.length - (alone m.g + m.g.vs.length + ncl (Orb (fc m m.g.es)) (darts m.g.es))) / 2
theorem MapOk.gn {m : Mp} (h : MapOk m) : 2 * ncl (Reach m.g.es) m.g.vs + m.g.es.length = 2 * gn m + alone m.g + m.g.vs.length + ncl (Orb (fc m m.g.es)) (darts m.g.es) := by
  obtain ⟨k, hk⟩ := h.euler
  have : Aw.gn m = k := by unfold Aw.gn; omega
  omega
theorem ends_len0 (es : List Ed) (v : Int) : (ends es v).length = 0 ↔ nbr es v = [] := by rw [List.length_eq_zero_iff, ends_nil]
set_option maxHeartbeats 1000000 in
theorem Twice (m : Mp) (h : MapOk m) (st : St) (hv : m.g.vs.length ≤ 1000) (he : m.g.es.length ≤ 1000) :
    ACalls Tryz.prog 28 [.ag (mpL m)] st fun r st' => r = i (2 * gn m) ∧ Keeps st st' := by
  have hP := h.fc_per m.g.es (fun x hx => hx)
  have hgn := h.gn
  have hal : alone m.g ≤ m.g.vs.length := List.countP_le_length
  have hdl := darts_length m.g.es
  have hid : idOk m.g.es := fun x hx => by have := h.g.pos x hx; omega
  refine qO tabOk Tryz.func28 rfl rfl Tryz.ntmps28 (rs := [.tmp 2]) rfl (by simp) ?_
  (repeat' (first | refine qS ?_ | refine qB ?_ | (refine w_e [] ?_; intro J hJ; simp only []; simp []; (refine hJ _ _ ?_; clear hJ J; simp only [ak, reduceIte]))))
  refine awp_range 10 9 11 22 (m.g.vs.length) (fun j fr st2 => fr 1 = .pt st.next 0 ∧ fr 8 = .sl 0 m.g.vs.length (us m.g.vs) ∧ fr 3 = i ((m.g.vs.take j).countP fun v => decide (nbr m.g.es v = []) : Nat) ∧ st2.H st.next = .box 28 3 (mpL m) ∧ Keeps st st2 ∧ st.next < st2.next) ?_ ?_ ?_
  · exact ⟨by simp, by simp, by simp, by simp, Keeps.new _ _, by simp⟩
  · rintro j fr st2 hlt ⟨f1, f8, f3, hG, hkp, hsn⟩ fi fn JJ hJJ
    have hd := qG m.g.vs j hlt
    have hct := count_take (fun v => decide (nbr m.g.es v = [])) m.g.vs j hlt
    have hle : (m.g.vs.take j).countP (fun v => decide (nbr m.g.es v = [])) ≤ j := Nat.le_trans List.countP_le_length (by simp; omega)
    generalize m.g.vs.getD j 0 = v at *
    generalize (m.g.vs.take j).countP (fun v => decide (nbr m.g.es v = [])) = c at *
    (repeat' (first | refine qS ?_ | (refine w_e [] ?_; intro J hJ; simp only []; simp [f1, f8, fi, fn, hd, hG, hlt]; (try (refine hJ _ _ ?_; clear hJ J; simp only [ak, reduceIte])))))
    refine qE (ref_Ends m.g v _ he hid) (by simp) ?_; rintro r s3 ⟨⟨t, rfl⟩, hk3⟩
    have hn3 := hk3.next
    have e0 := ends_len0 m.g.es v
    have hw := qN c (by omega)
    by_cases h0 : nbr m.g.es v = []
    · have e1 := e0.2 h0
      rw [if_pos (by simpa using h0)] at hct
      (repeat' (first | (refine qC ?_; simp [e1, f3, hw]) | ((first | (refine w_e [] ?_; intro J hJ; simp only []) | (refine e_go ?_)); simp [e1, f3, hw]; (refine hJ _ _ ?_; clear hJ J; simp only [ak, reduceIte]))))
      exact hJJ _ _ (by simp [fi]) (by simp [fn]) ⟨by simp [f1], by simp [f8], by simp [hct], (hk3.H _ hsn).trans hG, hkp.trans hk3, by omega⟩
    · have e1 : ¬ (ends m.g.es v).length = 0 := fun e => h0 (e0.1 e)
      rw [if_neg (by simpa using h0)] at hct
      generalize (ends m.g.es v).length = el at *
      (repeat' (first | (refine qK ?_; simp only [ak, reduceIte]) | (refine qC ?_; simp [e1, f3]) | (refine e_go ?_; simp [e1, f3]; (refine hJ _ _ ?_; clear hJ J; simp only [ak, reduceIte]))))
      exact hJJ _ _ (by simp [fi]) (by simp [fn]) ⟨by simp [f1], by simp [f8], by simp [hct, f3], (hk3.H _ hsn).trans hG, hkp.trans hk3, by omega⟩
  rintro fr st2 ⟨f1, f8, f3, hG, hkp, hsn⟩
  rw [List.take_length] at f3
  have f3' : fr 3 = i (alone m.g) := f3
  clear f3
  (repeat' refine qS ?_)
  (refine w_s [] [st.next] [(0, true), (1, true), (5, true), (7, true), (8, true), (9, true), (10, true), (12, true), (13, true), (14, true), (15, true), (17, true), (2, true), (3, true), (4, true), (6, true), (11, true), (16, true), (18, true), (19, true), (20, true), (21, true)] ?_; intro J hJ; simp [f1, f3', hG])
  refine qD (ref_Parts m.g _ h.g.toGood hv he) (by simp) ?_; rintro r s1 ⟨⟨t, R, rfl, hR⟩, hk1⟩
  have hn1 := hk1.next
  have hG1 := (hk1.H st.next (by omega)).trans hG
  refine ⟨fun _ => by simp [hG1, hG], ?_⟩
  have hRn := hR.all
  have hRl := hR.len
  generalize R.length = p at *
  generalize alone m.g = al at *
  have w1 : IntKind.i64.wrap (2 * (p : Int)) = 2 * p := wrap_i64 _ (by omega) (by omega)
  have w2 : IntKind.i64.wrap (2 * (p : Int) - al) = 2 * p - al := wrap_i64 _ (by omega) (by omega)
  have w3 : IntKind.i64.wrap (2 * (p : Int) - al - m.g.vs.length) = 2 * p - al - m.g.vs.length := wrap_i64 _ (by omega) (by omega)
  have w4 : IntKind.i64.wrap (2 * (p : Int) - al - m.g.vs.length + m.g.es.length) = 2 * p - al - m.g.vs.length + m.g.es.length := wrap_i64 _ (by omega) (by omega)
  (refine d_go ?_; simp [hG1, hG, f1, f3', w1, w2, w3, w4])
  refine qD (ref_Faces m h _ hv he) (by simp) ?_; rintro r s3 ⟨⟨t3, F, rfl, hF⟩, hk3⟩
  have hG3 := (hk3.H st.next (by omega)).trans hG1
  refine ⟨fun _ => by simp [hG3, hG1, hG], ?_⟩
  have hFn := hF.all hP
  have hFl := hF.len
  generalize F.length = f at *
  have w5 : IntKind.i64.wrap (2 * (p : Int) - al - m.g.vs.length + m.g.es.length - f) = 2 * (gn m : Int) := by rw [wrap_i64 _ (by omega) (by omega)]; omega
  (refine d_go ?_; simp [hG3, hG1, hG, w1, w2, w3, w4, w5, f1, f3']; (refine hJ _ _ ?_; clear hJ J; simp only [ak, reduceIte]))
  (repeat' (refine qR ?_; simp only [ak, reduceIte]; simp []))
  exact (hkp.trans hk1).trans hk3
end Go.Proofs.YtglkgindpjdoiaaGreat.Aw
