/- Rows put in order, by exchanges within a range. No program. -/
namespace Go.Proofs.Ytphdhggoaijfoaa.Pl

/-- Two places of a row, exchanged. -/
def sw (c : List Int) (a b : Nat) : List Int := (c.set a (c.getD b 0)).set b (c.getD a 0)
theorem sw_length (c : List Int) (a b : Nat) : (sw c a b).length = c.length := by simp [sw]
theorem sw_get (c : List Int) (a b j : Nat) (ha : a < c.length) (hb : b < c.length) : (sw c a b).getD j 0 = if j = b then c.getD a 0 else if j = a then c.getD b 0 else c.getD j 0 := by
  unfold sw
  simp only [List.getD_eq_getElem?_getD, List.getElem?_set]
  by_cases h1 : b = j
  · subst h1; simp [hb]
  · by_cases h2 : a = j
    · subst h2; simp [h1, ha, Ne.symm h1]
    · simp [h1, h2, Ne.symm h1, Ne.symm h2]
theorem sw_perm (c : List Int) (a b : Nat) (ha : a < c.length) (hb : b < c.length) : (sw c a b).Perm c := by
  unfold sw
  have h := List.set_set_perm ha hb
  simp only [List.getD_eq_getElem?_getD, List.getElem?_eq_getElem ha, List.getElem?_eq_getElem hb, Option.getD_some]
  exact h

/-- What comes of exchanges within a range. -/
inductive Pm (a b : Nat) (l : List Int) : List Int → Prop
  | refl : Pm a b l l
  | step {m : List Int} (h : Pm a b l m) (x y : Nat) (hx : a ≤ x) (hx' : x < b) (hy : a ≤ y) (hy' : y < b) (hb : b ≤ l.length) : Pm a b l (sw m x y)

theorem Pm.len {a b : Nat} {l m : List Int} (h : Pm a b l m) : m.length = l.length := by
  induction h with
  | refl => rfl
  | step h x y _ _ _ _ _ ih => rw [sw_length]; exact ih
theorem Pm.out {a b : Nat} {l m : List Int} (h : Pm a b l m) (j : Nat) (hj : j < a ∨ b ≤ j) : m.getD j 0 = l.getD j 0 := by
  induction h with
  | refl => rfl
  | step h x y h1 h2 h3 h4 h5 ih =>
    have := h.len
    rw [sw_get _ _ _ _ (by omega) (by omega), if_neg (by omega), if_neg (by omega)]; exact ih
theorem Pm.trans {a b : Nat} {l m n : List Int} (h : Pm a b l m) (k : Pm a b m n) : Pm a b l n := by
  induction k with
  | refl => exact h
  | step k x y h1 h2 h3 h4 h5 ih => have := h.len; exact ih.step x y h1 h2 h3 h4 (by omega)
theorem Pm.wide {a b a' b' : Nat} {l m : List Int} (h : Pm a b l m) (ha : a' ≤ a) (hb : b ≤ b') (hl : b' ≤ l.length) : Pm a' b' l m := by
  induction h with
  | refl => exact .refl
  | step k x y h1 h2 h3 h4 h5 ih => exact ih.step x y (by omega) (by omega) (by omega) (by omega) hl
theorem Pm.perm {a b : Nat} {l m : List Int} (h : Pm a b l m) : m.Perm l := by
  induction h with
  | refl => exact .refl _
  | step k x y h1 h2 h3 h4 h5 ih => have := k.len; exact (sw_perm _ _ _ (by omega) (by omega)).trans ih
theorem Pm.all {a b : Nat} {l m : List Int} (h : Pm a b l m) (P : Int → Prop) (hP : ∀ j, a ≤ j → j < b → P (l.getD j 0)) (j : Nat) (h1 : a ≤ j) (h2 : j < b) : P (m.getD j 0) := by
  induction h generalizing j with
  | refl => exact hP j h1 h2
  | step k x y g1 g2 g3 g4 g5 ih =>
    have := k.len
    rw [sw_get _ _ _ _ (by omega) (by omega)]
    by_cases e1 : j = y
    · rw [if_pos e1]; exact ih x g1 g2
    · rw [if_neg e1]
      by_cases e2 : j = x
      · rw [if_pos e2]; exact ih y g3 g4
      · rw [if_neg e2]; exact ih j h1 h2
theorem Pm.one {a b : Nat} {l : List Int} (x y : Nat) (hx : a ≤ x) (hx' : x < b) (hy : a ≤ y) (hy' : y < b) (hb : b ≤ l.length) : Pm a b l (sw l x y) := Pm.refl.step x y hx hx' hy hy' hb

/-- A range stands in order. -/
def Srt (a b : Nat) (l : List Int) : Prop := ∀ p q, a ≤ p → p < q → q < b → l.getD p 0 ≤ l.getD q 0

/-! ### one put in its place -/
def Ins (a j i : Nat) (d : List Int) : Prop := ∀ p q, a ≤ p → p < q → q ≤ i → q ≠ j → d.getD p 0 ≤ d.getD q 0
theorem Srt.ins {a i : Nat} {d : List Int} (h : Srt a i d) : Ins a i i d := fun p q h1 h2 h3 h4 => h p q h1 h2 (by omega)
theorem Ins.step {a j i : Nat} {d : List Int} (h : Ins a j i d) (hj : a < j) (hi : j ≤ i) (hil : i < d.length) (hlt : d.getD j 0 < d.getD (j - 1) 0) : Ins a (j - 1) i (sw d j (j - 1)) := by
  intro p q h1 h2 h3 h4
  rw [sw_get _ _ _ _ (by omega) (by omega), sw_get _ _ _ _ (by omega) (by omega)]
  by_cases e1 : q = j
  · rw [if_neg h4, if_pos e1]
    by_cases e2 : p = j - 1
    · rw [if_pos e2]; omega
    · rw [if_neg e2, if_neg (by omega)]; exact h p (j - 1) h1 (by omega) (by omega) (by omega)
  · rw [if_neg h4, if_neg e1]
    by_cases e2 : p = j - 1
    · rw [if_pos e2]; exact h j q (by omega) (by omega) h3 e1
    · rw [if_neg e2]
      by_cases e3 : p = j
      · rw [if_pos e3]; exact h (j - 1) q (by omega) (by omega) h3 e1
      · rw [if_neg e3]; exact h p q h1 h2 h3 e1
theorem Ins.done {a j i : Nat} {d : List Int} (h : Ins a j i d) (hj : a ≤ j) (hs : j = a ∨ ¬ d.getD j 0 < d.getD (j - 1) 0) : Srt a (i + 1) d := by
  intro p q h1 h2 h3
  by_cases e : q = j
  · subst e
    have h5 : ¬ d.getD q 0 < d.getD (q - 1) 0 := by rcases hs with hs | hs; omega; exact hs
    by_cases e2 : p = q - 1
    · subst e2; omega
    · have := h p (q - 1) h1 (by omega) (by omega) (by omega); omega
  · exact h p q h1 h2 (by omega) e

/-! ### heaps -/
def Heap (lo hi f : Nat) (d : List Int) : Prop := ∀ k c, lo ≤ k → (c = 2 * k + 1 ∨ c = 2 * k + 2) → c < hi → d.getD (f + c) 0 ≤ d.getD (f + k) 0
def HeapX (lo hi f r : Nat) (d : List Int) : Prop := (∀ k c, lo ≤ k → k ≠ r → (c = 2 * k + 1 ∨ c = 2 * k + 2) → c < hi → d.getD (f + c) 0 ≤ d.getD (f + k) 0) ∧
  (∀ k c, lo ≤ k → (r = 2 * k + 1 ∨ r = 2 * k + 2) → (c = 2 * r + 1 ∨ c = 2 * r + 2) → c < hi → d.getD (f + c) 0 ≤ d.getD (f + k) 0)
theorem Heap.x {lo hi f : Nat} {d : List Int} (h : Heap (lo + 1) hi f d) : HeapX lo hi f lo d :=
  ⟨fun k c h1 h2 h3 h4 => h k c (by omega) h3 h4, fun k c h1 h2 h3 h4 => by omega⟩
theorem HeapX.leaf {lo hi f r : Nat} {d : List Int} (h : HeapX lo hi f r d) (hr : hi ≤ 2 * r + 1) : Heap lo hi f d := by
  intro k c h1 h2 h3
  exact h.1 k c h1 (by omega) h2 h3
theorem HeapX.big {lo hi f r : Nat} {d : List Int} (h : HeapX lo hi f r d) (hr : ∀ c, (c = 2 * r + 1 ∨ c = 2 * r + 2) → c < hi → d.getD (f + c) 0 ≤ d.getD (f + r) 0) : Heap lo hi f d := by
  intro k c h1 h2 h3
  by_cases e : k = r
  · subst e; exact hr c h2 h3
  · exact h.1 k c h1 e h2 h3
theorem HeapX.step {lo hi f r c : Nat} {d : List Int} (h : HeapX lo hi f r d) (hlo : lo ≤ r) (hc : c = 2 * r + 1 ∨ c = 2 * r + 2) (hci : c < hi) (hl : f + hi ≤ d.length) (hm : ∀ x, (x = 2 * r + 1 ∨ x = 2 * r + 2) → x < hi → d.getD (f + x) 0 ≤ d.getD (f + c) 0)
    (hlt : d.getD (f + r) 0 < d.getD (f + c) 0) : HeapX lo hi f c (sw d (f + r) (f + c)) := by
  constructor
  · intro k x h1 h2 h3 h4
    rw [sw_get _ _ _ _ (by omega) (by omega), sw_get _ _ _ _ (by omega) (by omega)]
    by_cases e1 : k = r
    · subst e1
      rw [if_neg (show ¬ f + k = f + c by omega), if_pos (rfl : f + k = f + k)]
      by_cases e2 : x = c
      · rw [if_pos (by omega)]; omega
      · rw [if_neg (by omega), if_neg (by omega)]; exact hm x h3 h4
    · rw [if_neg (show ¬ f + k = f + c by omega), if_neg (show ¬ f + k = f + r by omega)]
      by_cases e2 : x = r
      · subst e2
        rw [if_neg (by omega), if_pos (rfl : f + x = f + x)]; exact h.2 k c h1 h3 hc hci
      · rw [if_neg (by omega), if_neg (by omega)]; exact h.1 k x h1 e1 h3 h4
  · intro k x h1 h2 h3 h4
    have e1 : k = r := by omega
    subst e1
    rw [sw_get _ _ _ _ (by omega) (by omega), sw_get _ _ _ _ (by omega) (by omega)]
    rw [if_neg (by omega), if_neg (by omega), if_neg (show ¬ f + k = f + c by omega), if_pos (rfl : f + k = f + k)]
    exact h.1 c x (by omega) (by omega) h3 h4
theorem Heap.top {hi f : Nat} {d : List Int} (h : Heap 0 hi f d) : ∀ c, c < hi → d.getD (f + c) 0 ≤ d.getD f 0 := by
  intro c
  induction c using Nat.strongRecOn with
  | ind c ih =>
    intro hc
    by_cases h0 : c = 0
    · subst h0; simp
    · have h1 := h ((c - 1) / 2) c (by omega) (by omega) hc
      have h2 := ih ((c - 1) / 2) (by omega) (by omega)
      omega

theorem Heap.pop {j f : Nat} {c : List Int} (h : Heap 0 (j + 1) f c) (hl : f + j < c.length) : Heap 1 j f (sw c f (f + j)) := by
  intro k x h1 h2 h3
  rw [sw_get _ _ _ _ (by omega) (by omega), sw_get _ _ _ _ (by omega) (by omega)]
  rw [if_neg (by omega), if_neg (by omega), if_neg (by omega), if_neg (by omega)]
  exact h k x (by omega) h2 (by omega)
theorem heap_next {hi f j : Nat} {c c2 : List Int} (hH : Heap 0 (j + 1) f c) (ho : ∀ p q, p < q → j + 1 ≤ q → q < hi → c.getD (f + p) 0 ≤ c.getD (f + q) 0) (hj : j < hi) (hl : f + hi ≤ c.length) (hp : Pm f (f + j) (sw c f (f + j)) c2) :
    ∀ p q, p < q → j ≤ q → q < hi → c2.getD (f + p) 0 ≤ c2.getD (f + q) 0 := by
  intro p q h1 h2 h3
  have g := fun x => sw_get c f (f + j) x (by omega) (by omega)
  rw [hp.out (f + q) (by omega), g (f + q)]
  by_cases e : q = j
  · subst e
    rw [if_pos rfl]
    refine hp.all (fun x => x ≤ c.getD f 0) (fun x h4 h5 => ?_) (f + p) (by omega) (by omega)
    rw [g, if_neg (by omega)]
    by_cases e2 : x = f
    · rw [if_pos e2]; exact hH.top q (by omega)
    · rw [if_neg e2]
      have := hH.top (x - f) (by omega)
      rwa [show f + (x - f) = x by omega] at this
  · rw [if_neg (by omega), if_neg (by omega)]
    by_cases e2 : p < j
    · refine hp.all (fun x => x ≤ c.getD (f + q) 0) (fun x h4 h5 => ?_) (f + p) (by omega) (by omega)
      rw [g, if_neg (by omega)]
      by_cases e3 : x = f
      · rw [if_pos e3]; exact ho j q (by omega) (by omega) h3
      · rw [if_neg e3]
        have := ho (x - f) q (by omega) (by omega) h3
        rwa [show f + (x - f) = x by omega] at this
    · rw [hp.out (f + p) (by omega), g]
      by_cases e3 : p = j
      · rw [if_pos (by omega)]
        have := ho 0 q (by omega) (by omega) h3
        rwa [Nat.add_zero] at this
      · rw [if_neg (by omega), if_neg (by omega)]; exact ho p q h1 (by omega) h3

/-! ### about a pivot -/
theorem srt_glue {a m b : Nat} {d : List Int} (h1 : Srt a m d) (h2 : Srt (m + 1) b d) (h3 : ∀ p, a ≤ p → p < m → d.getD p 0 ≤ d.getD m 0) (h4 : ∀ q, m < q → q < b → d.getD m 0 ≤ d.getD q 0) : Srt a b d := by
  intro p q k1 k2 k3
  rcases Nat.lt_trichotomy p m with e | e | e
  · rcases Nat.lt_trichotomy q m with e' | e' | e'
    · exact h1 p q k1 k2 e'
    · subst e'; exact h3 p k1 e
    · have := h3 p k1 e; have := h4 q e' k3; omega
  · subst e; exact h4 q k2 k3
  · exact h2 p q (by omega) k2 k3

/-- Below a place the test says yes; above one no. -/
def Lo (P : Int → Bool) (c : List Int) (a m : Nat) : Prop := ∀ p, a < p → p < m → P (c.getD p 0) = true
def Hi (P : Int → Bool) (c : List Int) (m b : Nat) : Prop := ∀ p, m < p → p < b → P (c.getD p 0) = false
theorem Lo.more {P : Int → Bool} {c : List Int} {a m : Nat} (h : Lo P c a m) (hm : P (c.getD m 0) = true) : Lo P c a (m + 1) := by
  intro p h1 h2
  by_cases e : p = m
  · rw [e]; exact hm
  · exact h p h1 (by omega)
theorem Hi.more {P : Int → Bool} {c : List Int} {m b : Nat} (h : Hi P c m b) (h0 : 0 < m) (hm : P (c.getD m 0) = false) : Hi P c (m - 1) b := by
  intro p h1 h2
  by_cases e : p = m
  · rw [e]; exact hm
  · exact h p (by omega) h2
theorem Lo.swp {P : Int → Bool} {c : List Int} {a k m : Nat} (h : Lo P c a k) (hkm : k < m) (hm : m < c.length) (hp : P (c.getD m 0) = true) : Lo P (sw c k m) a (k + 1) := by
  intro p h1 h2
  rw [sw_get _ _ _ _ (by omega) (by omega), if_neg (by omega)]
  by_cases e : p = k
  · rw [if_pos e]; exact hp
  · rw [if_neg e]; exact h p h1 (by omega)
theorem Hi.swp {P : Int → Bool} {c : List Int} {k m b : Nat} (h : Hi P c m b) (hkm : k < m) (hm : m < c.length) (hp : P (c.getD k 0) = false) : Hi P (sw c k m) (m - 1) b := by
  intro p h1 h2
  rw [sw_get _ _ _ _ (by omega) (by omega)]
  by_cases e : p = m
  · rw [if_pos e]; exact hp
  · rw [if_neg e, if_neg (by omega)]; exact h p (by omega) h2
/-- A row parted about a place. -/
def Parted (P : Int → Bool) (c : List Int) (a m b : Nat) : Prop := (∀ p, a ≤ p → p < m → P (c.getD p 0) = true) ∧ (∀ p, m < p → p < b → P (c.getD p 0) = false)
def PartedEq (c : List Int) (a m b : Nat) (x : Int) : Prop := (∀ p, a ≤ p → p < m → c.getD p 0 ≤ x) ∧ (∀ p, m ≤ p → p < b → x < c.getD p 0)
def PartedAt (c : List Int) (a m b : Nat) : Prop := Parted (fun v => decide (v < c.getD m 0)) c a m b
theorem parted_last {P : Int → Bool} {c : List Int} {a m b : Nat} (h1 : Lo P c a (m + 1)) (h2 : Hi P c m b) (ham : a ≤ m) (hmb : m < b) (hb : b ≤ c.length) : Parted P (sw c m a) a m b ∧ (sw c m a).getD m 0 = c.getD a 0 := by
  refine ⟨⟨fun p k1 k2 => ?_, fun p k1 k2 => ?_⟩, ?_⟩
  · rw [sw_get _ _ _ _ (by omega) (by omega)]
    by_cases e : p = a
    · rw [if_pos e]; exact h1 m (by omega) (by omega)
    · rw [if_neg e, if_neg (by omega)]; exact h1 p (by omega) (by omega)
  · rw [sw_get _ _ _ _ (by omega) (by omega), if_neg (by omega), if_neg (by omega)]; exact h2 p k1 k2
  · rw [sw_get _ _ _ _ (by omega) (by omega)]
    by_cases e : m = a
    · rw [if_pos e, e]
    · rw [if_neg e, if_pos rfl]

/-- Two rows in order with the same things are the same. -/
theorem srt_pair {l : List Int} (h : Srt 0 l.length l) : l.Pairwise (· ≤ ·) := by
  refine List.pairwise_iff_getElem.2 fun p q hp hq hpq => ?_
  have := h p q (by omega) hpq hq
  rwa [List.getD_eq_getElem?_getD, List.getD_eq_getElem?_getD, List.getElem?_eq_getElem hp, List.getElem?_eq_getElem hq] at this
theorem srt_unique {l m : List Int} (h : l.Pairwise (· ≤ ·)) (k : m.Pairwise (· ≤ ·)) (hp : l.Perm m) : l = m :=
  hp.eq_of_pairwise (fun a b _ _ h1 h2 => by omega) h k

end Go.Proofs.Ytphdhggoaijfoaa.Pl
