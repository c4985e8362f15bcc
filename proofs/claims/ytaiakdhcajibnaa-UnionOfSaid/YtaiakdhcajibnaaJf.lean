/- What three graphs come to. No program. A graph that may be, in words. No program. What three graphs come to, told by what is in it. No program. Rows of edges: in order by their numbers (SortStableFunc); sets of edges picked. Sets of edges picked, to be written to: Pick, All. What three graphs come to: the program's answer. Whether any graph may be, of whatever size, as the document says it. The law UnionTurns. -/
import Derived.Test.YtaiakdhcajibnaaJe
import Derived.Test.YtaiakdhcajibnaaAwRg
import Derived.Test.YtaiakdhcajibnaaAwZ
namespace Go.Proofs.Ytaiakdhcajibnaa.Aw
open Go Go.RowKit Go.Proofs.Ytaiakdhcajibnaa.Pl
set_option linter.unusedSimpArgs false
set_option linter.unusedVariables false

/-! ### the least number that stands twice -/
/-- b is the least number that stands twice; 0: there is none. -/
def MinDup (c : List Int) (b : Int) : Prop := (b = 0 ∧ ∀ d, c.count d ≤ 1) ∨ (b ≠ 0 ∧ 2 ≤ c.count b ∧ ∀ d, 2 ≤ c.count d → b ≤ d)
theorem MinDup.unique {c : List Int} {a b : Int} (h : MinDup c a) (k : MinDup c b) : a = b := by
  rcases h with ⟨h1, h2⟩ | ⟨h1, h2, h3⟩ <;> rcases k with ⟨k1, k2⟩ | ⟨k1, k2, k3⟩
  · omega
  · have := h2 b; omega
  · have := k2 a; omega
  · have := h3 b k2; have := k3 a h2; omega
theorem MinDup.perm {c d : List Int} {b : Int} (h : MinDup c b) (p : c.Perm d) : MinDup d b := by
  have e : ∀ x, d.count x = c.count x := fun x => (p.count_eq x).symm
  rcases h with ⟨h1, h2⟩ | ⟨h1, h2, h3⟩
  · exact .inl ⟨h1, fun x => by rw [e]; exact h2 x⟩
  · exact .inr ⟨h1, by rw [e]; exact h2, fun x hx => h3 x (by rw [← e]; exact hx)⟩
theorem MinDup.nil : MinDup [] 0 := .inl ⟨rfl, fun _ => by simp⟩
theorem count_snoc (c : List Int) (x d : Int) : (c ++ [x]).count d = c.count d + if x = d then 1 else 0 := by
  rw [List.count_append, List.count_cons, List.count_nil]
  by_cases h : x = d <;> simp [h]
theorem MinDup.snoc {c : List Int} {b x : Int} (h : MinDup c b) (hx : 0 < x) (hc : ∀ y ∈ c, 0 < y) : MinDup (c ++ [x]) (if x ∈ c ∧ (b = 0 ∨ x < b) then x else b) := by
  have e := count_snoc c x
  have hcx : x ∈ c ↔ 1 ≤ c.count x := by rw [← List.count_pos_iff]; exact Iff.rfl
  by_cases hm : x ∈ c
  · have h1 := hcx.1 hm
    rcases h with ⟨h2, h3⟩ | ⟨h2, h3, h4⟩
    · rw [if_pos ⟨hm, .inl h2⟩]
      refine .inr ⟨by omega, by rw [e, if_pos rfl]; omega, fun d hd => ?_⟩
      rw [e] at hd
      by_cases hxd : x = d
      · omega
      · rw [if_neg hxd] at hd; have := h3 d; omega
    · by_cases hlt : x < b
      · rw [if_pos ⟨hm, .inr hlt⟩]
        refine .inr ⟨by omega, by rw [e, if_pos rfl]; omega, fun d hd => ?_⟩
        rw [e] at hd
        by_cases hxd : x = d
        · omega
        · rw [if_neg hxd] at hd; have := h4 d (by omega); omega
      · rw [if_neg (by rintro ⟨_, g | g⟩ <;> omega)]
        refine .inr ⟨h2, by rw [e]; split <;> omega, fun d hd => ?_⟩
        rw [e] at hd
        by_cases hxd : x = d
        · omega
        · rw [if_neg hxd] at hd; exact h4 d (by omega)
  · have h1 : c.count x = 0 := by have := mt hcx.2 hm; omega
    rw [if_neg (fun g => hm g.1)]
    rcases h with ⟨h2, h3⟩ | ⟨h2, h3, h4⟩
    · refine .inl ⟨h2, fun d => ?_⟩
      rw [e]
      by_cases hxd : x = d
      · subst hxd; rw [if_pos rfl]; omega
      · rw [if_neg hxd]; exact h3 d
    · refine .inr ⟨h2, by rw [e]; split <;> omega, fun d hd => ?_⟩
      rw [e] at hd
      by_cases hxd : x = d
      · subst hxd; rw [if_pos rfl] at hd; omega
      · rw [if_neg hxd] at hd; exact h4 d (by omega)
/-- In a rising row the first that is like the one ahead of it. -/
theorem minDup_first {c : List Int} (h : c.Pairwise (· ≤ ·)) (hp : ∀ y ∈ c, 0 < y) {k : Nat} (h0 : 0 < k) (hk : k < c.length) (he : c.getD k 0 = c.getD (k - 1) 0) (hn : ∀ j, 0 < j → j < k → c.getD j 0 ≠ c.getD (j - 1) 0) : MinDup c (c.getD k 0) := by
  have g : ∀ j (hj : j < c.length), c.getD j 0 = c[j] := fun j hj => by rw [List.getD_eq_getElem?_getD, List.getElem?_eq_getElem hj]; rfl
  have hmono : ∀ i j, i ≤ j → j < c.length → c.getD i 0 ≤ c.getD j 0 := fun i j h1 h2 => by
    rcases Nat.lt_or_ge i j with h3 | h3
    · rw [g i (by omega), g j h2]; exact List.pairwise_iff_getElem.1 h i j (by omega) h2 h3
    · obtain rfl : i = j := by omega
      exact Int.le_refl _
  have hstrict : ∀ i j, i < j → j < k → c.getD i 0 < c.getD j 0 := fun i j h1 h2 => by
    have a1 := hmono i (j - 1) (by omega) (by omega)
    have a2 := hmono (j - 1) j (by omega) (by omega)
    have a3 := hn j (by omega) h2
    omega
  have hpos : 0 < c.getD k 0 := hp _ (by rw [g k hk]; exact List.getElem_mem _)
  have split : ∀ d, c.count d = (c.take k).count d + (c.drop k).count d := fun d => by rw [← List.count_append, List.take_append_drop]
  have htk : ∀ d, (c.take k).count d ≤ 1 := fun d => by
    refine List.nodup_iff_count.1 ?_ d
    refine List.Pairwise.imp (R := (· < ·)) (fun h => by omega) (List.pairwise_iff_getElem.2 fun i j hi hj hij => ?_)
    simp only [List.length_take] at hi hj
    rw [List.getElem_take, List.getElem_take, ← g i (by omega), ← g j (by omega)]
    exact hstrict i j hij (by omega)
  have hm1 : c.getD k 0 ∈ c.take k := by
    rw [he, g (k - 1) (by omega)]
    exact List.mem_iff_getElem.2 ⟨k - 1, by simp; omega, by rw [List.getElem_take]⟩
  have hm2 : c.getD k 0 ∈ c.drop k := by
    rw [g k hk]
    exact List.mem_iff_getElem.2 ⟨0, by simp; omega, by rw [List.getElem_drop]; simp⟩
  refine .inr ⟨by omega, ?_, fun d hd => ?_⟩
  · rw [split]
    have a1 := List.count_pos_iff.2 hm1
    have a2 := List.count_pos_iff.2 hm2
    omega
  · rw [split] at hd
    have := htk d
    have : 0 < (c.drop k).count d := by omega
    obtain ⟨j, hj, rfl⟩ := List.getElem_of_mem (List.count_pos_iff.1 this)
    simp only [List.length_drop] at hj
    rw [List.getElem_drop, ← g (k + j) (by omega)]
    exact hmono k (k + j) (by omega) (by omega)
theorem minDup_none {c : List Int} (h : c.Pairwise (· ≤ ·)) (hn : ∀ j, 0 < j → j < c.length → c.getD j 0 ≠ c.getD (j - 1) 0) : MinDup c 0 ∧ c.Pairwise (· < ·) := by
  have g : ∀ j (hj : j < c.length), c.getD j 0 = c[j] := fun j hj => by rw [List.getD_eq_getElem?_getD, List.getElem?_eq_getElem hj]; rfl
  have hmono : ∀ i j, i ≤ j → j < c.length → c.getD i 0 ≤ c.getD j 0 := fun i j h1 h2 => by
    rcases Nat.lt_or_ge i j with h3 | h3
    · rw [g i (by omega), g j h2]; exact List.pairwise_iff_getElem.1 h i j (by omega) h2 h3
    · obtain rfl : i = j := by omega
      exact Int.le_refl _
  have hlt : c.Pairwise (· < ·) := List.pairwise_iff_getElem.2 fun i j hi hj hij => by
    have a1 := hmono i (j - 1) (by omega) (by omega)
    have a2 := hmono (j - 1) j (by omega) (by omega)
    have a3 := hn j (by omega) hj
    rw [← g i hi, ← g j hj]
    omega
  exact ⟨.inl ⟨rfl, fun d => List.nodup_iff_count.1 (hlt.imp fun h => by omega) d⟩, hlt⟩

/-! ### rising rows are told by what is in them -/
theorem rise_eq {α : Type} (f : α → Int) : ∀ {a b : List α}, (a.map f).Pairwise (· < ·) → (b.map f).Pairwise (· < ·) → (∀ x, x ∈ a ↔ x ∈ b) → a = b
  | [], [], _, _, _ => rfl
  | [], y :: b, _, _, h => by have := (h y).2 (by simp); simp at this
  | x :: a, [], _, _, h => by have := (h x).1 (by simp); simp at this
  | x :: a, y :: b, ha, hb, h => by
    simp only [List.map_cons, List.pairwise_cons, List.mem_map, forall_exists_index, and_imp, forall_apply_eq_imp_iff₂] at ha hb
    have hxy : x = y := by
      rcases List.mem_cons.1 ((h x).1 (by simp)) with h1 | h1
      · exact h1
      · rcases List.mem_cons.1 ((h y).2 (by simp)) with h2 | h2
        · exact h2.symm
        · have := ha.1 y h2; have := hb.1 x h1; omega
    subst hxy
    congr 1
    refine rise_eq f ha.2 hb.2 fun z => ?_
    have hz := h z
    rw [List.mem_cons, List.mem_cons] at hz
    constructor
    · intro hza
      rcases hz.1 (.inr hza) with h1 | h1
      · subst h1; have := ha.1 z hza; omega
      · exact h1
    · intro hzb
      rcases hz.2 (.inr hzb) with h1 | h1
      · subst h1; have := hb.1 z hzb; omega
      · exact h1

/-! ### a thing laid into a rising row -/
section
variable {α : Type} (f : α → Int)
def ins1 (v : α) : List α → List α
  | [] => [v]
  | x :: t => if f v < f x then v :: x :: t else x :: ins1 v t
def insU (v : α) (l : List α) : List α := if l.any fun x => decide (f x = f v) then l else ins1 f v l
theorem ins1_mem (v : α) (l : List α) (x : α) : x ∈ ins1 f v l ↔ x = v ∨ x ∈ l := by
  induction l with
  | nil => simp [ins1]
  | cons y t ih =>
    unfold ins1
    split
    · simp
    · rw [List.mem_cons, ih, List.mem_cons]
      constructor
      · rintro (h | h | h)
        · exact .inr (.inl h)
        · exact .inl h
        · exact .inr (.inr h)
      · rintro (h | h | h)
        · exact .inr (.inl h)
        · exact .inl h
        · exact .inr (.inr h)
theorem ins1_len (v : α) (l : List α) : (ins1 f v l).length = l.length + 1 := by
  induction l with
  | nil => rfl
  | cons y t ih =>
    unfold ins1
    split
    · simp
    · simp [ih]
theorem ins1_rise (v : α) : ∀ (l : List α), (l.map f).Pairwise (· < ·) → (∀ x ∈ l, f x ≠ f v) → ((ins1 f v l).map f).Pairwise (· < ·)
  | [], _, _ => by simp [ins1]
  | y :: t, h, hn => by
    simp only [List.map_cons, List.pairwise_cons, List.mem_map, forall_exists_index, and_imp, forall_apply_eq_imp_iff₂] at h
    unfold ins1
    by_cases hv : f v < f y
    · rw [if_pos hv]
      simp only [List.map_cons, List.pairwise_cons, List.mem_cons, List.mem_map, forall_eq_or_imp, forall_exists_index, and_imp, forall_apply_eq_imp_iff₂]
      exact ⟨⟨hv, fun a ha => by have := h.1 a ha; omega⟩, h.1, h.2⟩
    · rw [if_neg hv]
      simp only [List.map_cons, List.pairwise_cons, List.mem_map, forall_exists_index, and_imp, forall_apply_eq_imp_iff₂]
      refine ⟨fun a ha => ?_, ins1_rise v t h.2 fun x hx => hn x (by simp [hx])⟩
      rcases (ins1_mem f v t a).1 ha with rfl | ha
      · have := hn y (by simp); omega
      · exact h.1 a ha
theorem insU_rise (v : α) (l : List α) (h : (l.map f).Pairwise (· < ·)) : ((insU f v l).map f).Pairwise (· < ·) := by
  unfold insU
  split
  · exact h
  · rename_i hn
    refine ins1_rise f v l h fun x hx he => hn ?_
    exact List.any_eq_true.2 ⟨x, hx, by simpa using he⟩
/-- All of a row, laid one by one. -/
def insAll (l : List α) : List α := l.foldl (fun c v => insU f v c) []
theorem insAll_take (l : List α) (k : Nat) (hk : k < l.length) : insAll f (l.take (k + 1)) = insU f l[k] (insAll f (l.take k)) := by
  unfold insAll
  rw [List.take_succ_eq_append_getElem hk, List.foldl_append]; rfl
theorem insAll_rise (l : List α) : ((insAll f l).map f).Pairwise (· < ·) := by
  unfold insAll
  have : ∀ (l c : List α), (c.map f).Pairwise (· < ·) → ((l.foldl (fun c v => insU f v c) c).map f).Pairwise (· < ·) := by
    intro l
    induction l with
    | nil => exact fun c h => h
    | cons x l ih => exact fun c h => ih _ (insU_rise f x c h)
  exact this l [] .nil
theorem insAll_sub (l : List α) (x : α) (hx : x ∈ insAll f l) : x ∈ l := by
  unfold insAll at hx
  have : ∀ (l c : List α), x ∈ l.foldl (fun c v => insU f v c) c → x ∈ c ∨ x ∈ l := by
    intro l
    induction l with
    | nil => exact fun c h => .inl h
    | cons y l ih =>
      intro c h
      rcases ih _ h with h1 | h1
      · simp only [insU] at h1
        split at h1
        · exact .inl h1
        · rcases (ins1_mem f y c x).1 h1 with rfl | h2
          · simp
          · exact .inl h2
      · simp [h1]
  rcases this l [] hx with h | h
  · simp at h
  · exact h
/-- Where no number stands twice all come in. -/
theorem insAll_mem (l : List α) (hn : (l.map f).Nodup) (x : α) : x ∈ insAll f l ↔ x ∈ l := by
  refine ⟨insAll_sub f l x, fun hx => ?_⟩
  unfold insAll
  have : ∀ (l c : List α), (l.map f).Nodup → (∀ a ∈ l, ∀ b ∈ c, f b ≠ f a) → (∀ x, x ∈ c ∨ x ∈ l → x ∈ l.foldl (fun c v => insU f v c) c) := by
    intro l
    induction l with
    | nil => intro c _ _ x hx; simpa using hx
    | cons y l ih =>
      intro c hnd hd x hx
      simp only [List.map_cons, List.nodup_cons] at hnd
      rw [List.foldl_cons]
      have hiu : insU f y c = ins1 f y c := by
        unfold insU
        rw [if_neg]
        intro h
        obtain ⟨b, hb, he⟩ := List.any_eq_true.1 h
        exact hd y (by simp) b hb (by simpa using he)
      rw [hiu]
      refine ih _ hnd.2 (fun a ha b hb => ?_) x ?_
      · rcases (ins1_mem f y c b).1 hb with rfl | hb
        · intro he; exact hnd.1 (by rw [he]; exact List.mem_map_of_mem ha)
        · exact hd a (by simp [ha]) b hb
      · rw [ins1_mem]
        rcases hx with h | h
        · exact .inl (.inr h)
        · rcases List.mem_cons.1 h with h | h
          · exact .inl (.inl h)
          · exact .inr h
  exact this l [] hn (by simp) x (.inr hx)
end

end Go.Proofs.Ytaiakdhcajibnaa.Aw

namespace Go.Proofs.Ytaiakdhcajibnaa.Aw
open Go Go.RowKit Go.Proofs.Ytaiakdhcajibnaa.Pl
set_option linter.unusedSimpArgs false
set_option linter.unusedVariables false

structure GrF (g : Gr) : Prop where
  rise : g.vs.Pairwise (· < ·)
  vpos : ∀ v ∈ g.vs, 1 ≤ v ∧ v ≤ 1048576
  ids : g.es.Pairwise fun x y => x.id < y.id
  pos : ∀ x ∈ g.es, 1 ≤ x.id ∧ x.id ≤ 1048576
  ne : ∀ x ∈ g.es, x.a ≠ x.b
  ends : ∀ x ∈ g.es, x.a ∈ g.vs ∧ x.b ∈ g.vs
  l1 : g.vs.length ≤ 64
  l2 : g.es.length ≤ 160

theorem nz_all {f : Nat → Int} {n : Nat} (h : firstNZ f n = 0) : ∀ j, j < n → f j = 0 := by
  induction n with
  | zero => intro j hj; omega
  | succ n ih =>
    intro j hj
    simp only [firstNZ] at h
    by_cases h0 : firstNZ f n = 0
    · rw [if_neg (by simp [h0])] at h
      rcases Nat.lt_or_ge j n with h1 | h1
      · exact ih h0 j h1
      · obtain rfl : j = n := by omega
        exact h
    · rw [if_pos h0] at h; exact absurd h h0
theorem numb_zero_iff (n a : Int) (b : Bool) : numb n a b = 0 ↔ (1 ≤ n ∧ n ≤ 1048576) ∧ (b = false → a < n) := by
  unfold numb
  by_cases h1 : n < 1 ∨ 1048576 < n
  · rw [if_pos h1]
    constructor
    · intro h; cases h
    · rintro ⟨h, _⟩; omega
  · rw [if_neg h1]
    by_cases h2 : b = false ∧ n ≤ a
    · rw [if_pos h2]
      constructor
      · intro h; cases h
      · rintro ⟨_, h⟩; have := h h2.1; omega
    · rw [if_neg h2]
      refine ⟨fun _ => ⟨by omega, fun hb => ?_⟩, fun _ => rfl⟩
      rcases Int.lt_or_le a n with h3 | h3
      · exact h3
      · exact absurd ⟨hb, h3⟩ h2
theorem rise_step {l : List Int} (h : ∀ j, j < l.length → 0 < j → l.getD (j - 1) 0 < l.getD j 0) : l.Pairwise (· < ·) := by
  have g : ∀ j (hj : j < l.length), l.getD j 0 = l[j] := fun j hj => by rw [List.getD_eq_getElem?_getD, List.getElem?_eq_getElem hj]; rfl
  rw [List.pairwise_iff_getElem]
  intro a b ha hb hab
  induction b with
  | zero => omega
  | succ b ih =>
    have h1 := h (b + 1) hb (by omega)
    rw [Nat.add_sub_cancel, g _ hb, g _ (by omega)] at h1
    rcases Nat.lt_or_ge a b with h2 | h2
    · have := ih (by omega) h2; omega
    · obtain rfl : a = b := by omega
      exact h1
theorem gE (l : List Ed) (j : Nat) (hj : j < l.length) : l.getD j ed0 = l[j] := by
  rw [List.getD_eq_getElem?_getD, List.getElem?_eq_getElem hj]; rfl
theorem badE_zero (g : Gr) (j : Nat) (x : Ed) (hx : g.es.getD j ed0 = x) : badE g j = 0 ↔ ((1 ≤ x.id ∧ x.id ≤ 1048576) ∧ (0 < j → (g.es.getD (j - 1) ed0).id < x.id)) ∧ x.a ≠ x.b ∧ x.a ∈ g.vs ∧ x.b ∈ g.vs := by
  unfold badE
  simp only [hx]
  have h0 := numb_zero_iff x.id (g.es.getD (j - 1) ed0).id (decide (j = 0))
  have hj : (decide (j = 0) = false) ↔ 0 < j := by simp; omega
  rw [hj] at h0
  by_cases h1 : numb x.id (g.es.getD (j - 1) ed0).id (decide (j = 0)) = 0
  · rw [if_neg (fun h => h h1)]
    have h1' := h0.1 h1
    by_cases h2 : x.a = x.b
    · rw [if_pos h2]
      constructor
      · intro h; cases h
      · rintro ⟨_, h, _⟩; exact absurd h2 h
    · rw [if_neg h2]
      by_cases h3 : x.a ∉ g.vs ∨ x.b ∉ g.vs
      · rw [if_pos h3]
        constructor
        · intro h; cases h
        · rintro ⟨_, _, h, h'⟩
          rcases h3 with h3 | h3
          · exact absurd h h3
          · exact absurd h' h3
      · rw [if_neg h3]
        exact ⟨fun _ => ⟨h1', h2, Classical.byContradiction fun h => h3 (.inl h), Classical.byContradiction fun h => h3 (.inr h)⟩, fun _ => rfl⟩
  · rw [if_pos h1]
    constructor
    · intro h; exact absurd h h1
    · rintro ⟨h, _⟩; exact absurd (h0.2 h) h1
theorem chk_full {g : Gr} (h : chk g = 0) : GrF g := by
  unfold chk at h
  by_cases h1 : 64 < g.vs.length ∨ 160 < g.es.length
  · rw [if_pos h1] at h; cases h
  rw [if_neg h1] at h
  by_cases h2 : firstNZ (badV g) g.vs.length = 0
  rotate_left
  · rw [if_pos h2] at h; exact absurd h h2
  rw [if_neg (by simp [h2])] at h
  have gI : ∀ j (hj : j < g.vs.length), g.vs.getD j 0 = g.vs[j] := fun j hj => by rw [List.getD_eq_getElem?_getD, List.getElem?_eq_getElem hj]; rfl
  have hV := fun j hj => (numb_zero_iff _ _ _).1 (nz_all h2 j hj)
  have hE := fun j hj => (badE_zero g j _ rfl).1 (nz_all h j hj)
  have hin : ∀ x ∈ g.es, ∃ j, j < g.es.length ∧ g.es.getD j ed0 = x := fun x hx => by
    obtain ⟨j, hj, rfl⟩ := List.getElem_of_mem hx
    exact ⟨j, hj, gE _ _ hj⟩
  refine ⟨rise_step fun j hj h0 => (hV j hj).2 (by simp; omega), fun v hv => ?_, ?_, fun x hx => ?_, fun x hx => ?_, fun x hx => ?_, by omega, by omega⟩
  · obtain ⟨j, hj, rfl⟩ := List.getElem_of_mem hv
    rw [← gI j hj]; exact (hV j hj).1
  · have := rise_step (l := g.es.map (·.id)) fun j hj h0 => by
      rw [List.length_map] at hj
      have := (hE j hj).1.2 h0
      rw [gE _ _ hj, gE _ _ (by omega)] at this
      rw [List.getD_eq_getElem?_getD, List.getElem?_eq_getElem (by simp; omega), List.getD_eq_getElem?_getD, List.getElem?_eq_getElem (by simp; omega)]
      simpa using this
    rwa [List.pairwise_map] at this
  · obtain ⟨j, hj, rfl⟩ := hin x hx; exact (hE j hj).1.1
  · obtain ⟨j, hj, rfl⟩ := hin x hx; exact (hE j hj).2.1
  · obtain ⟨j, hj, rfl⟩ := hin x hx; exact (hE j hj).2.2
theorem chk_mk {g : Gr} (h : GrF g) : chk g = 0 := by
  have hl1 := h.l1
  have hl2 := h.l2
  have gI : ∀ j (hj : j < g.vs.length), g.vs.getD j 0 = g.vs[j] := fun j hj => by rw [List.getD_eq_getElem?_getD, List.getElem?_eq_getElem hj]; rfl
  unfold chk
  rw [if_neg (by omega)]
  have h2 : firstNZ (badV g) g.vs.length = 0 := firstNZ_zero fun j hj => (numb_zero_iff _ _ _).2 ⟨by rw [gI j hj]; exact h.vpos _ (List.getElem_mem _), fun h0 => by
    have h0 : 0 < j := by simp at h0; omega
    rw [gI j hj, gI _ (by omega)]
    exact List.pairwise_iff_getElem.1 h.rise _ _ (by omega) hj (by omega)⟩
  rw [h2]
  simp only [ne_eq, not_true_eq_false, if_false]
  refine firstNZ_zero fun j hj => (badE_zero g j _ (gE _ _ hj)).2 ?_
  have hm : g.es[j] ∈ g.es := List.getElem_mem _
  refine ⟨⟨h.pos _ hm, fun h0 => ?_⟩, h.ne _ hm, (h.ends _ hm).1, (h.ends _ hm).2⟩
  rw [gE _ _ (by omega)]
  exact List.pairwise_iff_getElem.1 h.ids _ _ (by omega) hj (by omega)

end Go.Proofs.Ytaiakdhcajibnaa.Aw

namespace Go.Proofs.Ytaiakdhcajibnaa.Aw
open Go Go.RowKit Go.Proofs.Ytaiakdhcajibnaa.Pl
set_option linter.unusedSimpArgs false
set_option linter.unusedVariables false

abbrev gr0 : Gr := ⟨[], []⟩
def q1 (a c : List Ed) (x : Ed) : Bool := decide (x ∈ c) || !decide (x ∈ a)
def q2 (a b : List Ed) (x : Ed) : Bool := !decide (x ∈ b) && !decide (x ∈ a)
def picks (a b c : List Ed) : List Ed := b.filter (q1 a c) ++ c.filter (q2 a b)
def v1 (a c : List Int) (x : Int) : Bool := decide (x ∈ c) || !decide (x ∈ a)
def v2 (a b : List Int) (x : Int) : Bool := !decide (x ∈ b) && !decide (x ∈ a)
def vpicks (a b c : List Int) : List Int := b.filter (v1 a c) ++ c.filter (v2 a b)
theorem picks_mem {a b c : List Ed} {x : Ed} : x ∈ picks a b c ↔ (x ∈ b ∧ x ∈ c) ∨ (x ∈ b ∧ x ∉ a) ∨ (x ∈ c ∧ x ∉ a) := by
  unfold picks q1 q2
  simp only [List.mem_append, List.mem_filter, Bool.or_eq_true, Bool.and_eq_true, Bool.not_eq_true', decide_eq_true_eq, decide_eq_false_iff_not]
  by_cases h1 : x ∈ a <;> by_cases h2 : x ∈ b <;> by_cases h3 : x ∈ c <;> simp [h1, h2, h3]
theorem vpicks_mem {a b c : List Int} {x : Int} : x ∈ vpicks a b c ↔ (x ∈ b ∧ x ∈ c) ∨ (x ∈ b ∧ x ∉ a) ∨ (x ∈ c ∧ x ∉ a) := by
  unfold vpicks v1 v2
  simp only [List.mem_append, List.mem_filter, Bool.or_eq_true, Bool.and_eq_true, Bool.not_eq_true', decide_eq_true_eq, decide_eq_false_iff_not]
  by_cases h1 : x ∈ a <;> by_cases h2 : x ∈ b <;> by_cases h3 : x ∈ c <;> simp [h1, h2, h3]
theorem picks_nodup {a b c : List Ed} (hb : b.Nodup) (hc : c.Nodup) : (picks a b c).Nodup := by
  unfold picks
  rw [List.nodup_append]
  refine ⟨hb.filter _, hc.filter _, fun x hx y hy he => ?_⟩
  subst he
  have h1 := (List.mem_filter.1 hx).1
  have h2 := (List.mem_filter.1 hy).2
  simp [q2, h1] at h2
theorem vpicks_nodup {a b c : List Int} (hb : b.Nodup) (hc : c.Nodup) : (vpicks a b c).Nodup := by
  unfold vpicks
  rw [List.nodup_append]
  refine ⟨hb.filter _, hc.filter _, fun x hx y hy he => ?_⟩
  subst he
  have h1 := (List.mem_filter.1 hx).1
  have h2 := (List.mem_filter.1 hy).2
  simp [v2, h1] at h2

/-- The first edge, in order, that ends at none of the vertices: its number. -/
def dang (V : List Int) (E : List Ed) (k : Nat) : Int := if (E.getD k ed0).a ∈ V ∧ (E.getD k ed0).b ∈ V then 0 else (E.getD k ed0).id
structure Un3 where
  g : Gr
  n : Int
  e : Int
def uniV (V : List Int) (E : List Ed) : Un3 := if firstNZ (dang V E) E.length ≠ 0 then ⟨gr0, firstNZ (dang V E) E.length, 27⟩ else if 64 < V.length ∨ 160 < E.length then ⟨gr0, 0, 6⟩ else ⟨⟨V, E⟩, 0, 0⟩
/-- What three graphs come to. -/
def UniR (a b c : Gr) (r : Un3) : Prop := ∃ V d, V.Pairwise (· < ·) ∧ (∀ x, x ∈ V ↔ x ∈ vpicks a.vs b.vs c.vs) ∧ MinDup ((picks a.es b.es c.es).map (·.id)) d ∧
  ((d ≠ 0 ∧ r = ⟨gr0, d, 26⟩) ∨ (d = 0 ∧ ∃ E : List Ed, (E.map (·.id)).Pairwise (· < ·) ∧ (∀ x, x ∈ E ↔ x ∈ picks a.es b.es c.es) ∧ r = uniV V E))
theorem vrise_eq {a b : List Int} (ha : a.Pairwise (· < ·)) (hb : b.Pairwise (· < ·)) (h : ∀ x, x ∈ a ↔ x ∈ b) : a = b := rise_eq id (by simpa using ha) (by simpa using hb) h
theorem UniR.unique {a b c : Gr} {r s : Un3} (h : UniR a b c r) (k : UniR a b c s) : r = s := by
  obtain ⟨V, d, h1, h2, h3, h4⟩ := h
  obtain ⟨V', d', k1, k2, k3, k4⟩ := k
  obtain rfl := h3.unique k3
  obtain rfl := vrise_eq h1 k1 fun x => (h2 x).trans (k2 x).symm
  rcases h4 with ⟨h5, rfl⟩ | ⟨h5, E, h6, h7, rfl⟩ <;> rcases k4 with ⟨k5, rfl⟩ | ⟨k5, E', k6, k7, rfl⟩
  · rfl
  · exact absurd k5 h5
  · exact absurd h5 k5
  · obtain rfl := rise_eq _ h6 k6 fun x => (h7 x).trans (k7 x).symm
    rfl
theorem GrF.vnodup {g : Gr} (h : GrF g) : g.vs.Nodup := h.rise.imp fun h => by omega
theorem GrF.enodup {g : Gr} (h : GrF g) : g.es.Nodup := h.ids.imp fun h he => by subst he; omega
theorem perm_of_mem {α : Type} [DecidableEq α] {a b : List α} (ha : a.Nodup) (hb : b.Nodup) (h : ∀ x, x ∈ a ↔ x ∈ b) : a.Perm b := by
  rw [List.perm_iff_count]
  intro x
  by_cases hx : x ∈ a
  · rw [ha.count, hb.count, if_pos hx, if_pos ((h x).1 hx)]
  · rw [ha.count, hb.count, if_neg hx, if_neg fun g => hx ((h x).2 g)]
/-- Ours and theirs can be taken for one another. -/
theorem UniR.swap {a b c : Gr} (hb : GrF b) (hc : GrF c) {r : Un3} (h : UniR a b c r) : UniR a c b r := by
  obtain ⟨V, d, h1, h2, h3, h4⟩ := h
  have em : ∀ x, x ∈ picks a.es b.es c.es ↔ x ∈ picks a.es c.es b.es := fun x => by
    rw [picks_mem, picks_mem]
    by_cases h1 : x ∈ a.es <;> by_cases h2 : x ∈ b.es <;> by_cases h3 : x ∈ c.es <;> simp [h1, h2, h3]
  refine ⟨V, d, h1, fun x => (h2 x).trans ?_, h3.perm ((perm_of_mem (picks_nodup hb.enodup hc.enodup) (picks_nodup hc.enodup hb.enodup) em).map _), ?_⟩
  · rw [vpicks_mem, vpicks_mem]
    by_cases h1 : x ∈ a.vs <;> by_cases h2 : x ∈ b.vs <;> by_cases h3 : x ∈ c.vs <;> simp [h1, h2, h3]
  · rcases h4 with h4 | ⟨h5, E, h6, h7, h8⟩
    · exact .inl h4
    · exact .inr ⟨h5, E, h6, fun x => (h7 x).trans (em x), h8⟩
theorem uniV_self {g : Gr} (h : GrF g) : uniV g.vs g.es = ⟨g, 0, 0⟩ := by
  have h0 : firstNZ (dang g.vs g.es) g.es.length = 0 := firstNZ_zero fun j hj => by
    unfold dang
    rw [if_pos]
    rw [gE _ _ hj]
    exact h.ends _ (List.getElem_mem _)
  have := h.l1
  have := h.l2
  unfold uniV
  rw [h0, if_neg (by simp), if_neg (by omega)]
theorem minDup_ids {g : Gr} (h : GrF g) : MinDup (g.es.map (·.id)) 0 := by
  refine .inl ⟨rfl, fun d => List.nodup_iff_count.1 ?_ d⟩
  rw [List.nodup_iff_pairwise_ne, List.pairwise_map]
  exact h.ids.imp fun h => by omega
/-- Where theirs is base it is ours. -/
theorem UniR.ours {a b : Gr} (ha : GrF a) (hb : GrF b) : UniR a b a ⟨b, 0, 0⟩ := by
  have em : ∀ x, x ∈ b.es ↔ x ∈ picks a.es b.es a.es := fun x => by
    rw [picks_mem]
    by_cases h1 : x ∈ a.es <;> by_cases h2 : x ∈ b.es <;> simp [h1, h2]
  refine ⟨b.vs, 0, hb.rise, fun x => ?_, ?_, .inr ⟨rfl, b.es, ?_, em, (uniV_self hb).symm⟩⟩
  · rw [vpicks_mem]
    by_cases h1 : x ∈ a.vs <;> by_cases h2 : x ∈ b.vs <;> simp [h1, h2]
  · exact (minDup_ids hb).perm ((perm_of_mem hb.enodup (picks_nodup hb.enodup ha.enodup) em).map _)
  · rw [List.pairwise_map]; exact hb.ids
/-- What they come to may be. -/
theorem UniR.good {a b c : Gr} (hb : GrF b) (hc : GrF c) {r : Un3} (h : UniR a b c r) (he : r.e = 0) : chk r.g = 0 := by
  obtain ⟨V, d, h1, h2, h3, h4⟩ := h
  rcases h4 with ⟨_, rfl⟩ | ⟨_, E, h6, h7, rfl⟩
  · cases he
  unfold uniV at he ⊢
  by_cases hd : firstNZ (dang V E) E.length = 0
  rotate_left
  · rw [if_pos hd] at he; cases he
  rw [if_neg (fun h => h hd)] at he ⊢
  by_cases hl : 64 < V.length ∨ 160 < E.length
  · rw [if_pos hl] at he; cases he
  rw [if_neg hl]
  have hbc : ∀ x ∈ E, x ∈ b.es ∨ x ∈ c.es := fun x hx => by
    have := picks_mem.1 ((h7 x).1 hx)
    rcases this with h | h | h
    · exact .inl h.1
    · exact .inl h.1
    · exact .inr h.1
  have hp : ∀ x ∈ E, 1 ≤ x.id ∧ x.id ≤ 1048576 := fun x hx => (hbc x hx).elim (hb.pos x) (hc.pos x)
  refine chk_mk ⟨h1, fun v hv => ?_, by rwa [List.pairwise_map] at h6, hp, fun x hx => (hbc x hx).elim (hb.ne x) (hc.ne x), fun x hx => ?_, by show V.length ≤ 64; omega, by show E.length ≤ 160; omega⟩
  · rcases vpicks_mem.1 ((h2 v).1 hv) with h | h | h
    · exact hb.vpos v h.1
    · exact hb.vpos v h.1
    · exact hc.vpos v h.1
  · have := hp x hx
    obtain ⟨j, hj, rfl⟩ := List.getElem_of_mem hx
    have h0 := nz_all hd j hj
    unfold dang at h0
    rw [gE _ _ hj] at h0
    refine Classical.byContradiction fun hn => ?_
    rw [if_neg hn] at h0
    omega

end Go.Proofs.Ytaiakdhcajibnaa.Aw

namespace Go.Proofs.Ytaiakdhcajibnaa.Aw
open Go Go.RowKit Go.Proofs.Ytaiakdhcajibnaa.Pl
set_option linter.unusedSimpArgs false
set_option linter.unusedVariables false

theorem Compare (x y : Int) (st : St) : ACalls Try.prog 19 [u x, u y] st fun r st' => r = i (if x < y then -1 else if y < x then 1 else 0) ∧ st' = st := by
  refine acalls_of_body tabOk Try.func19 rfl rfl Try.ntmps19 (rs := [.tmp 4]) rfl (by simp) ?_
  (repeat' (first | refine awp_seq ?_ | refine awp_block ?_ | ((first | refine awp_skip ?_ | refine awp_exit ?_); simp only [ak, reduceIte]) | (refine awp_ret ?_; simp only [ak, reduceIte]; simp []) | (refine awp_cond ?_; simp []; (try with_reducible refine ⟨?_, ?_⟩) <;> (try with_reducible intro hc) <;> try (exfalso; omega)) | ((first | (refine w_e [] ?_; intro J hJ; simp only []) | (refine w_q ?_; intro J hJ) | refine e_go ?_); simp []; (repeat refine ca ?_); (try ((try with_reducible refine ⟨?_, ?_⟩) <;> (try with_reducible intro hnil) <;> refine hJ _ _ ?_ <;> clear hJ J <;> simp only [ak, reduceIte] <;> try subst hnil)))))
  refine callK_of (isNaN x _) ?_; rintro r st' ⟨rfl, rfl⟩
  (repeat' (first | refine awp_seq ?_ | refine awp_block ?_ | ((first | refine awp_skip ?_ | refine awp_exit ?_); simp only [ak, reduceIte]) | (refine awp_ret ?_; simp only [ak, reduceIte]; simp []) | (refine awp_cond ?_; simp []; (try with_reducible refine ⟨?_, ?_⟩) <;> (try with_reducible intro hc) <;> try (exfalso; omega)) | ((first | (refine w_e [] ?_; intro J hJ; simp only []) | (refine w_q ?_; intro J hJ) | refine e_go ?_); simp []; (repeat refine ca ?_); (try ((try with_reducible refine ⟨?_, ?_⟩) <;> (try with_reducible intro hnil) <;> refine hJ _ _ ?_ <;> clear hJ J <;> simp only [ak, reduceIte] <;> try subst hnil)))))
  refine callK_of (isNaN y _) ?_; rintro r st' ⟨rfl, rfl⟩
  by_cases h1 : x < y
  · (repeat' (first | refine awp_seq ?_ | refine awp_block ?_ | ((first | refine awp_skip ?_ | refine awp_exit ?_); simp only [ak, reduceIte]) | (refine awp_ret ?_; simp only [ak, reduceIte]; simp [h1]) | (refine awp_cond ?_; simp [h1]; (try with_reducible refine ⟨?_, ?_⟩) <;> (try with_reducible intro hc) <;> try (exfalso; omega)) | ((first | (refine w_e [] ?_; intro J hJ; simp only []) | (refine w_q ?_; intro J hJ) | refine e_go ?_); simp [h1]; (repeat refine ca ?_); (try ((try with_reducible refine ⟨?_, ?_⟩) <;> (try with_reducible intro hnil) <;> refine hJ _ _ ?_ <;> clear hJ J <;> simp only [ak, reduceIte] <;> try subst hnil)))))
  · by_cases h2 : y < x
    · (repeat' (first | refine awp_seq ?_ | refine awp_block ?_ | ((first | refine awp_skip ?_ | refine awp_exit ?_); simp only [ak, reduceIte]) | (refine awp_ret ?_; simp only [ak, reduceIte]; simp [h1, h2]) | (refine awp_cond ?_; simp [h1, h2]; (try with_reducible refine ⟨?_, ?_⟩) <;> (try with_reducible intro hc) <;> try (exfalso; omega)) | ((first | (refine w_e [] ?_; intro J hJ; simp only []) | (refine w_q ?_; intro J hJ) | refine e_go ?_); simp [h1, h2]; (repeat refine ca ?_); (try ((try with_reducible refine ⟨?_, ?_⟩) <;> (try with_reducible intro hnil) <;> refine hJ _ _ ?_ <;> clear hJ J <;> simp only [ak, reduceIte] <;> try subst hnil)))))
    · (repeat' (first | refine awp_seq ?_ | refine awp_block ?_ | ((first | refine awp_skip ?_ | refine awp_exit ?_); simp only [ak, reduceIte]) | (refine awp_ret ?_; simp only [ak, reduceIte]; simp [h1, h2]) | (refine awp_cond ?_; simp [h1, h2]; (try with_reducible refine ⟨?_, ?_⟩) <;> (try with_reducible intro hc) <;> try (exfalso; omega)) | ((first | (refine w_e [] ?_; intro J hJ; simp only []) | (refine w_q ?_; intro J hJ) | refine e_go ?_); simp [h1, h2]; (repeat refine ca ?_); (try ((try with_reducible refine ⟨?_, ?_⟩) <;> (try with_reducible intro hnil) <;> refine hJ _ _ ?_ <;> clear hJ J <;> simp only [ak, reduceIte] <;> try subst hnil)))))
theorem uCmp (x y : Ed) (st : St) : ACalls Try.prog 18 [.ag (edL x), .ag (edL y)] st fun r st' => r = i (cmpK x y) ∧ Keeps st st' := by
  obtain ⟨xi, xa, xb⟩ := x
  obtain ⟨yi, ya, yb⟩ := y
  refine acalls_of_body tabOk Try.func18 rfl rfl Try.ntmps18 (rs := [.tmp 4]) rfl (by simp) ?_
  (repeat' (first | refine awp_seq ?_ | refine awp_block ?_ | ((first | refine awp_skip ?_ | refine awp_exit ?_); simp only [ak, reduceIte]) | (refine awp_ret ?_; simp only [ak, reduceIte]; simp []) | (refine awp_cond ?_; simp []; (try with_reducible refine ⟨?_, ?_⟩) <;> (try with_reducible intro hc) <;> try (exfalso; omega)) | ((first | (refine w_e [] ?_; intro J hJ; simp only []) | (refine w_q ?_; intro J hJ) | refine e_go ?_); simp []; (repeat refine ca ?_); (try ((try with_reducible refine ⟨?_, ?_⟩) <;> (try with_reducible intro hnil) <;> refine hJ _ _ ?_ <;> clear hJ J <;> simp only [ak, reduceIte] <;> try subst hnil)))))
  refine callK_ofE (Compare xi yi _) (by simp) ?_; rintro r s1 ⟨rfl, rfl⟩
  (repeat' (first | refine awp_seq ?_ | refine awp_block ?_ | ((first | refine awp_skip ?_ | refine awp_exit ?_); simp only [ak, reduceIte]) | (refine awp_ret ?_; simp only [ak, reduceIte]; simp [cmpK]) | (refine awp_cond ?_; simp [cmpK]; (try with_reducible refine ⟨?_, ?_⟩) <;> (try with_reducible intro hc) <;> try (exfalso; omega)) | ((first | (refine w_e [] ?_; intro J hJ; simp only []) | (refine w_q ?_; intro J hJ) | refine e_go ?_); simp [cmpK]; (repeat refine ca ?_); (try ((try with_reducible refine ⟨?_, ?_⟩) <;> (try with_reducible intro hnil) <;> refine hJ _ _ ?_ <;> clear hJ J <;> simp only [ak, reduceIte] <;> try subst hnil)))))
  exact (Keeps.new _ _).trans (Keeps.new _ _)
theorem uCmpAt (q : Nat) : CmpAt 18 [] q fun _ => True := ⟨fun _ _ _ _ => trivial, fun st x y _ => by simpa using uCmp x y st⟩
theorem SortSt (D0 : List Ed) (q : Nat) (st : St) (hq : q < st.next) (hl : D0.length ≤ 100000) (hH : st.H q = .box 40 3 (eds D0)) :
    ACalls Try.prog 17 [.ms q 0 D0.length, .fn (.func 18) []] st fun r st' => ∃ D, D.Perm D0 ∧ Ris D ∧ st'.H q = .box 40 3 (eds D) ∧ OffS q st st' := by
  have hc := stable D0 q _ 18 [] _ st (uCmpAt q) trivial hq rfl hl hH
  refine acalls_of_body tabOk Try.func17 rfl rfl Try.ntmps17 (rs := []) rfl (by simp) ?_
  (repeat' (first | refine awp_seq ?_ | refine awp_block ?_ | ((first | refine awp_skip ?_ | refine awp_exit ?_); simp only [ak, reduceIte]) | (refine awp_ret ?_; simp only [ak, reduceIte]; simp []) | (refine awp_cond ?_; simp []; (try with_reducible refine ⟨?_, ?_⟩) <;> (try with_reducible intro hc) <;> try (exfalso; omega)) | ((first | (refine w_e [] ?_; intro J hJ; simp only []) | (refine w_q ?_; intro J hJ) | refine e_go ?_); simp []; (repeat refine ca ?_); (try ((try with_reducible refine ⟨?_, ?_⟩) <;> (try with_reducible intro hnil) <;> refine hJ _ _ ?_ <;> clear hJ J <;> simp only [ak, reduceIte] <;> try subst hnil)))))
  refine callK_ofE hc (by simp) ?_; rintro r s1 h
  (repeat' (first | refine awp_seq ?_ | refine awp_block ?_ | ((first | refine awp_skip ?_ | refine awp_exit ?_); simp only [ak, reduceIte]) | (refine awp_ret ?_; simp only [ak, reduceIte]; simp []) | (refine awp_cond ?_; simp []; (try with_reducible refine ⟨?_, ?_⟩) <;> (try with_reducible intro hc) <;> try (exfalso; omega)) | ((first | (refine w_e [] ?_; intro J hJ; simp only []) | (refine w_q ?_; intro J hJ) | refine e_go ?_); simp []; (repeat refine ca ?_); (try ((try with_reducible refine ⟨?_, ?_⟩) <;> (try with_reducible intro hnil) <;> refine hJ _ _ ?_ <;> clear hJ J <;> simp only [ak, reduceIte] <;> try subst hnil)))))
  exact ⟨trivial, h⟩

abbrev bxM (q : Nat) : LObj := .box 99 1 [.mp q]
/-- A map that holds a row's edges, behind a cell. -/
def SetE (st : St) (c : Nat) (m : List Ed) : Prop := ∃ q es, q < st.next ∧ c < st.next ∧ st.H c = .box 99 1 [.mp q] ∧ st.H q = .map true [.u32, .u32, .u32] es ∧ ∀ y : Ed, mget es [y.id, y.a, y.b] = if y ∈ m then some (.ag []) else none
theorem SetE.keep {st st' : St} {c : Nat} {m : List Ed} (h : SetE st c m) (k : Keeps st st') : SetE st' c m := by
  obtain ⟨q, es, h1, h2, h3, h4, h5⟩ := h
  exact ⟨q, es, by have := k.next; omega, by have := k.next; omega, (k.H _ h2).trans h3, (k.H _ h1).trans h4, h5⟩
theorem SetE.call {st : St} {c : Nat} {m : List Ed} (h : SetE st c m) (x : Ed) : ACalls Try.prog 61 [.ag (edL x), .pt c 0] st fun r st' => r = bb (decide (x ∈ m)) ∧ Keeps st st' := by
  obtain ⟨q, es, h1, h2, hc, hq, h5⟩ := h
  have hx := h5 x
  have c1 : ¬ c = st.next := by omega
  have q1 : ¬ q = st.next := by omega
  generalize hb : decide (x ∈ m) = b at *
  obtain ⟨xi, xa, xb⟩ := x
  simp only at hx
  refine acalls_of_body tabOk Try.func61 rfl rfl Try.ntmps61 (rs := [.tmp 3]) rfl (by simp) ?_
  cases b with
  | true =>
    rw [if_pos (of_decide_eq_true hb)] at hx
    (repeat' (first | refine awp_seq ?_ | refine awp_block ?_ | ((first | refine awp_skip ?_ | refine awp_exit ?_); simp only [ak, reduceIte]) | (refine awp_ret ?_; simp only [ak, reduceIte]; simp [hc, hq, hx, c1, q1]) | (refine awp_cond ?_; simp [hc, hq, hx, c1, q1]; (try with_reducible refine ⟨?_, ?_⟩) <;> (try with_reducible intro hc) <;> try (exfalso; omega)) | ((first | (refine w_e [] ?_; intro J hJ; simp only []) | (refine w_q ?_; intro J hJ) | refine e_go ?_); simp [hc, hq, hx, c1, q1]; (repeat refine ca ?_); (try ((try with_reducible refine ⟨?_, ?_⟩) <;> (try with_reducible intro hnil) <;> refine hJ _ _ ?_ <;> clear hJ J <;> simp only [ak, reduceIte] <;> try subst hnil)))))
    exact ((Keeps.new _ _).trans (Keeps.new _ _)).set (by simp) _
  | false =>
    rw [if_neg (of_decide_eq_false hb)] at hx
    (repeat' (first | refine awp_seq ?_ | refine awp_block ?_ | ((first | refine awp_skip ?_ | refine awp_exit ?_); simp only [ak, reduceIte]) | (refine awp_ret ?_; simp only [ak, reduceIte]; simp [hc, hq, hx, c1, q1]) | (refine awp_cond ?_; simp [hc, hq, hx, c1, q1]; (try with_reducible refine ⟨?_, ?_⟩) <;> (try with_reducible intro hc) <;> try (exfalso; omega)) | ((first | (refine w_e [] ?_; intro J hJ; simp only []) | (refine w_q ?_; intro J hJ) | refine e_go ?_); simp [hc, hq, hx, c1, q1]; (repeat refine ca ?_); (try ((try with_reducible refine ⟨?_, ?_⟩) <;> (try with_reducible intro hnil) <;> refine hJ _ _ ?_ <;> clear hJ J <;> simp only [ak, reduceIte] <;> try subst hnil)))))
    exact ((Keeps.new _ _).trans (Keeps.new _ _)).set (by simp) _

theorem withinE (m : List Ed) (t : Nat) (st : St) (hm : m.length ≤ 100000) :
    ACalls Try.prog 39 [.sl t m.length (eds m)] st fun r st' => ∃ c, r = .fn (.func 61) [.pt c 0] ∧ SetE st' c m ∧ Keeps st st' := by
  have hel := eds_length m
  refine acalls_of_body tabOk Try.func39 rfl rfl Try.ntmps39 (rs := [.tmp 2]) rfl (by simp) ?_
  (repeat' (first | refine awp_seq ?_ | refine awp_block ?_ | ((first | refine awp_skip ?_ | refine awp_exit ?_); simp only [ak, reduceIte]) | (refine awp_ret ?_; simp only [ak, reduceIte]; simp []) | (refine awp_cond ?_; simp []; (try with_reducible refine ⟨?_, ?_⟩) <;> (try with_reducible intro hc) <;> try (exfalso; omega)) | ((first | (refine w_e [] ?_; intro J hJ; simp only []) | (refine w_q ?_; intro J hJ) | refine e_go ?_); simp []; (repeat refine ca ?_); (try ((try with_reducible refine ⟨?_, ?_⟩) <;> (try with_reducible intro hnil) <;> refine hJ _ _ ?_ <;> clear hJ J <;> simp only [ak, reduceIte] <;> try subst hnil)))))
  refine awp_range 11 10 12 18 (m.length) (fun j fr st2 => fr 9 = .sl t m.length (eds m) ∧ fr 3 = .pt (st.next + 1) 0 ∧ st.next + 1 < st2.next ∧ Keeps st st2 ∧ st2.H (st.next + 1) = bxM st.next ∧ ∃ es, st2.H st.next = .map true [.u32, .u32, .u32] es ∧ ∀ y : Ed, mget es [y.id, y.a, y.b] = if y ∈ m.take j then some (.ag []) else none) ?_ ?_ ?_
  · exact ⟨by simp, by simp, by simp, ((Keeps.new _ _).trans (Keeps.new _ _)).set (by omega) _, by simp, [], by simp, fun y => by simp [mget]⟩
  · rintro j fr s2 hlt ⟨f9, f3, hn, hkp, hc, es, hq, he⟩ fi fn JJ hJJ
    have hd := eds_drop m j hlt
    have hk3 : j * 3 < m.length * 3 := by omega
    have htk := tk_at m j hlt
    generalize m.getD j ed0 = x at *
    obtain ⟨xi, xa, xb⟩ := x
    simp only at hd
    have c1 : ¬ st.next + 1 = s2.next := by omega
    have q1 : ¬ st.next = s2.next := by omega
    (repeat' (first | refine awp_seq ?_ | refine awp_block ?_ | ((first | refine awp_skip ?_ | refine awp_exit ?_); simp only [ak, reduceIte]) | (refine awp_ret ?_; simp only [ak, reduceIte]; simp [f9, f3, fi, fn, hd, hel, hk3, hlt, hc, hq, c1, q1]) | (refine awp_cond ?_; simp [f9, f3, fi, fn, hd, hel, hk3, hlt, hc, hq, c1, q1]; (try with_reducible refine ⟨?_, ?_⟩) <;> (try with_reducible intro hc) <;> try (exfalso; omega)) | ((first | (refine w_e [] ?_; intro J hJ; simp only []) | (refine w_q ?_; intro J hJ) | refine e_go ?_); simp [f9, f3, fi, fn, hd, hel, hk3, hlt, hc, hq, c1, q1]; (repeat refine ca ?_); (try ((try with_reducible refine ⟨?_, ?_⟩) <;> (try with_reducible intro hnil) <;> refine hJ _ _ ?_ <;> clear hJ J <;> simp only [ak, reduceIte] <;> try subst hnil)))))
    refine hJJ _ _ (by simp [fi]) (by simp [fn]) ⟨by simp [f9], by simp [f3], by simp; omega, (hkp.trans (Keeps.new _ _)).set (by omega) _, by simp [hc, c1], mset es [xi, xa, xb] (.ag []), by simp, fun y => ?_⟩
    obtain ⟨yi, ya, yb⟩ := y
    rw [mget_mset, he, htk]
    by_cases hy : (⟨yi, ya, yb⟩ : Ed) = ⟨xi, xa, xb⟩
    · obtain ⟨rfl, rfl, rfl⟩ := Ed.mk.injEq .. ▸ hy
      simp
    · have hy2 : ¬ [yi, ya, yb] = [xi, xa, xb] := fun e => hy (by simp only [List.cons.injEq, and_true] at e; rw [e.1, e.2.1, e.2.2])
      rw [if_neg hy2]
      simp only [List.mem_append, List.mem_singleton, hy, or_false]
  · rintro fr s2 ⟨f9, f3, hn, hkp, hc, es, hq, he⟩
    rw [List.take_length] at he
    (repeat' (first | refine awp_seq ?_ | refine awp_block ?_ | ((first | refine awp_skip ?_ | refine awp_exit ?_); simp only [ak, reduceIte]) | (refine awp_ret ?_; simp only [ak, reduceIte]; simp [f3]) | (refine awp_cond ?_; simp [f3]; (try with_reducible refine ⟨?_, ?_⟩) <;> (try with_reducible intro hc) <;> try (exfalso; omega)) | ((first | (refine w_e [] ?_; intro J hJ; simp only []) | (refine w_q ?_; intro J hJ) | refine e_go ?_); simp [f3]; (repeat refine ca ?_); (try ((try with_reducible refine ⟨?_, ?_⟩) <;> (try with_reducible intro hnil) <;> refine hJ _ _ ?_ <;> clear hJ J <;> simp only [ak, reduceIte] <;> try subst hnil)))))
    exact ⟨⟨st.next, es, by omega, hn, hc, hq, he⟩, hkp⟩

end Go.Proofs.Ytaiakdhcajibnaa.Aw

namespace Go.Proofs.Ytaiakdhcajibnaa.Aw
open Go Go.RowKit Go.Proofs.Ytaiakdhcajibnaa.Pl
set_option linter.unusedSimpArgs false
set_option linter.unusedVariables false

theorem filterE_take (l : List Ed) (p : Ed → Bool) (k : Nat) (hk : k < l.length) : (l.take (k + 1)).filter p = if p (l.getD k ed0) = true then (l.take k).filter p ++ [l.getD k ed0] else (l.take k).filter p := by
  rw [tk_at l k hk, List.filter_append]
  generalize l.getD k ed0 = x
  by_cases h : p x = true <;> simp [h]
abbrev wfnE (c : Nat) : LV := .fn (.func 61) [.pt c 0]
/-- A row of edges that is written to, new since st. -/
def RowE (st st2 : St) (q : Nat) (l : List Ed) : Prop := st2.H q = .box 40 3 (eds l) ∧ st.next ≤ q ∧ q < st2.next ∧ Keeps st st2
theorem RowE.keeps {st st2 st3 : St} {q : Nat} {l : List Ed} (h : RowE st st2 q l) (k : Keeps st2 st3) : RowE st st3 q l :=
  ⟨(k.H _ h.2.2.1).trans h.1, h.2.1, Nat.lt_of_lt_of_le h.2.2.1 k.next, h.2.2.2.trans k⟩
theorem eds_snoc (l : List Ed) (x : Ed) : eds (l ++ [x]) = eds l ++ edL x := by simp [eds]
theorem RowE.push {st s4 s5 : St} {q q' : Nat} {l l' : List Ed} (h : RowE st s4 q l) (h1 : s5.H q' = .box 40 3 (eds l')) (hn : s4.next ≤ q' ∧ q' < s5.next) (hk : Keeps st s5) : RowE st s5 q' l' :=
  ⟨h1, by have := h.2.2.2.next; omega, hn.2, hk⟩

set_option maxHeartbeats 2000000 in
theorem PickE (a b c : List Ed) (ta tb tc : Nat) (st : St) (ha : a.length ≤ 10000) (hb : b.length ≤ 10000) (hc : c.length ≤ 10000) :
    ACalls Try.prog 26 [.sl ta a.length (eds a), .sl tb b.length (eds b), .sl tc c.length (eds c)] st fun r st' => ∃ q, r = .ms q 0 (picks a b c).length ∧ RowE st st' q (picks a b c) := by
  have hlb := eds_length b
  have hlc := eds_length c
  refine acalls_of_body tabOk Try.func26 rfl rfl Try.ntmps26 (rs := [.tmp 6]) rfl (by simp) ?_
  (repeat' (first | refine awp_seq ?_ | refine awp_block ?_ | ((first | refine awp_skip ?_ | refine awp_exit ?_); simp only [ak, reduceIte]) | (refine awp_ret ?_; simp only [ak, reduceIte]; simp []) | (refine awp_cond ?_; simp []; (try with_reducible refine ⟨?_, ?_⟩) <;> (try with_reducible intro hc) <;> try (exfalso; omega)) | ((first | (refine w_e [] ?_; intro J hJ; simp only []) | (refine w_q ?_; intro J hJ) | refine e_go ?_); simp []; (repeat refine ca ?_); (try ((try with_reducible refine ⟨?_, ?_⟩) <;> (try with_reducible intro hnil) <;> refine hJ _ _ ?_ <;> clear hJ J <;> simp only [ak, reduceIte] <;> try subst hnil)))))
  refine callK_ofE (withinE a ta _ (by omega)) (by simp) ?_; rintro r s1 ⟨kA, rfl, hA1, hk1⟩
  (refine e_go ?_; simp []; (repeat refine ca ?_); (try ((try with_reducible refine ⟨?_, ?_⟩) <;> (try with_reducible intro hnil) <;> refine hJ _ _ ?_ <;> clear hJ J <;> simp only [ak, reduceIte] <;> try subst hnil)))
  refine callK_ofE (withinE b tb _ (by omega)) (by simp) ?_; rintro r s2 ⟨kB, rfl, hB2, hk2⟩
  (refine e_go ?_; simp []; (repeat refine ca ?_); (try ((try with_reducible refine ⟨?_, ?_⟩) <;> (try with_reducible intro hnil) <;> refine hJ _ _ ?_ <;> clear hJ J <;> simp only [ak, reduceIte] <;> try subst hnil)))
  refine callK_ofE (withinE c tc _ (by omega)) (by simp) ?_; rintro r s3 ⟨kC, rfl, hC3, hk3⟩
  have hA3 := (hA1.keep hk2).keep hk3
  have hB3 := hB2.keep hk3
  have hK3 := (hk1.trans hk2).trans hk3
  clear hA1 hB2 hk1 hk2 hk3
  (repeat' (first | refine awp_seq ?_ | refine awp_block ?_ | ((first | refine awp_skip ?_ | refine awp_exit ?_); simp only [ak, reduceIte]) | (refine awp_ret ?_; simp only [ak, reduceIte]; simp []) | (refine awp_cond ?_; simp []; (try with_reducible refine ⟨?_, ?_⟩) <;> (try with_reducible intro hc) <;> try (exfalso; omega)) | ((first | (refine w_e [] ?_; intro J hJ; simp only []) | (refine w_q ?_; intro J hJ) | refine e_go ?_); simp []; (repeat refine ca ?_); (try ((try with_reducible refine ⟨?_, ?_⟩) <;> (try with_reducible intro hnil) <;> refine hJ _ _ ?_ <;> clear hJ J <;> simp only [ak, reduceIte] <;> try subst hnil)))))
  refine awp_ownM 10 40 3 (by simp) ?_
  refine awp_range 23 22 24 40 (b.length) (fun j fr st2 => fr 7 = wfnE kA ∧ fr 8 = wfnE kB ∧ fr 9 = wfnE kC ∧ fr 2 = .sl tc c.length (eds c) ∧ fr 21 = .sl tb b.length (eds b) ∧ ∃ q, fr 10 = .ms q 0 ((b.take j).filter (q1 a c)).length ∧ RowE s3 st2 q ((b.take j).filter (q1 a c))) ?_ ?_ ?_
  · exact ⟨by simp, by simp, by simp, by simp, by simp, s3.next, by simp, by simp, Nat.le_refl _, by simp, Keeps.new _ _⟩
  · rintro j fr s4 hlt ⟨f7, f8, f9, f2, f21, q, f10, hR⟩ fi fn JJ hJJ
    have hd := eds_drop b j hlt
    have hk3 : j * 3 < b.length * 3 := by omega
    have hst := filterE_take b (q1 a c) j hlt
    have hle := List.length_filter_le (q1 a c) (b.take j)
    rw [List.length_take] at hle
    generalize b.getD j ed0 = x at *
    generalize (b.take j).filter (q1 a c) = F at *
    have hq1 : q1 a c x = (decide (x ∈ c) || !decide (x ∈ a)) := rfl
    have cC := fun st => @SetE.call st kC c
    have cA := fun st => @SetE.call st kA a
    have hC4 := ((hC3.keep hR.2.2.2).keep (Keeps.new s4 (.box 40 3 (edL x)))).call x
    have hFl := eds_length F
    have hpush : eds (F ++ [x]) = eds F ++ edL x := eds_snoc F x
    obtain ⟨xi, xa, xb⟩ := x
    simp only at hd
    (repeat' (first | refine awp_seq ?_ | refine awp_block ?_ | ((first | refine awp_skip ?_ | refine awp_exit ?_); simp only [ak, reduceIte]) | (refine awp_ret ?_; simp only [ak, reduceIte]; simp [f7, f8, f9, f21, fi, fn, hlt, hk3, hlb, hd]) | (refine awp_cond ?_; simp [f7, f8, f9, f21, fi, fn, hlt, hk3, hlb, hd]; (try with_reducible refine ⟨?_, ?_⟩) <;> (try with_reducible intro hc) <;> try (exfalso; omega)) | ((first | (refine w_e [] ?_; intro J hJ; simp only []) | (refine w_q ?_; intro J hJ) | refine e_go ?_); simp [f7, f8, f9, f21, fi, fn, hlt, hk3, hlb, hd]; (repeat refine ca ?_); (try ((try with_reducible refine ⟨?_, ?_⟩) <;> (try with_reducible intro hnil) <;> refine hJ _ _ ?_ <;> clear hJ J <;> simp only [ak, reduceIte] <;> try subst hnil)))))
    refine callK_ofE hC4 (by simp) ?_; rintro r s5 ⟨rfl, hk5⟩
    have hn5 := hk5.next
    simp only [new_next] at hn5
    have hX5 := hk5.H s4.next (by simp)
    simp only [new_H, if_true] at hX5
    have hR5 := (hR.keeps (Keeps.new _ _)).keeps hk5
    by_cases hxc : (⟨xi, xa, xb⟩ : Ed) ∈ c
    · have hpx : q1 a c ⟨xi, xa, xb⟩ = true := by rw [hq1]; simp [hxc]
      rw [if_pos hpx] at hst
      have hqne : ¬ q = s5.next := by have := hR5.2.2.1; omega
      have hsne : ¬ s4.next = s5.next := by omega
      have hB5 := hR5.1
      (repeat' (first | refine awp_seq ?_ | refine awp_block ?_ | ((first | refine awp_skip ?_ | refine awp_exit ?_); simp only [ak, reduceIte]) | (refine awp_ret ?_; simp only [ak, reduceIte]; simp [hxc, f10, hX5, hB5, hqne, hsne, hFl]) | (refine awp_cond ?_; simp [hxc, f10, hX5, hB5, hqne, hsne, hFl]; (try with_reducible refine ⟨?_, ?_⟩) <;> (try with_reducible intro hc) <;> try (exfalso; omega)) | ((first | (refine w_e [] ?_; intro J hJ; simp only []) | (refine w_q ?_; intro J hJ) | refine e_go ?_); simp [hxc, f10, hX5, hB5, hqne, hsne, hFl]; (repeat refine ca ?_); (try ((try with_reducible refine ⟨?_, ?_⟩) <;> (try with_reducible intro hnil) <;> refine hJ _ _ ?_ <;> clear hJ J <;> simp only [ak, reduceIte] <;> try subst hnil)))))
      refine hJJ _ _ (by simp [fi]) (by simp [fn]) ⟨by simp [f7], by simp [f8], by simp [f9], by simp [f2], by simp [f21], s5.next + 1, by rw [hst]; simp, ?_⟩
      rw [hst]
      refine hR5.push (by rw [hpush]; simp) (by simp) (((hR5.2.2.2.trans (Keeps.new _ _)).set hR5.2.1 _).trans (Keeps.new _ _))
    · have hA5 := (((hA3.keep hR.2.2.2).keep (Keeps.new s4 (.box 40 3 (edL ⟨xi, xa, xb⟩)))).keep hk5).call ⟨xi, xa, xb⟩
      (refine e_go ?_; simp [hxc, f7, hX5]; (repeat refine ca ?_); (try ((try with_reducible refine ⟨?_, ?_⟩) <;> (try with_reducible intro hnil) <;> refine hJ _ _ ?_ <;> clear hJ J <;> simp only [ak, reduceIte] <;> try subst hnil)))
      refine callK_ofE hA5 (by simp) ?_; rintro r s6 ⟨rfl, hk6⟩
      have hn6 := hk6.next
      have hX6 := (hk6.H s4.next (by omega)).trans hX5
      have hR6 := hR5.keeps hk6
      have hB6 := hR6.1
      have hqne : ¬ q = s6.next := by have := hR6.2.2.1; omega
      have hsne : ¬ s4.next = s6.next := by omega
      by_cases hxa : (⟨xi, xa, xb⟩ : Ed) ∈ a
      · have hpx : q1 a c ⟨xi, xa, xb⟩ = false := by rw [hq1]; simp [hxc, hxa]
        rw [hpx] at hst
        (repeat' (first | refine awp_seq ?_ | refine awp_block ?_ | ((first | refine awp_skip ?_ | refine awp_exit ?_); simp only [ak, reduceIte]) | (refine awp_ret ?_; simp only [ak, reduceIte]; simp [hxa]) | (refine awp_cond ?_; simp [hxa]; (try with_reducible refine ⟨?_, ?_⟩) <;> (try with_reducible intro hc) <;> try (exfalso; omega)) | ((first | (refine w_e [] ?_; intro J hJ; simp only []) | (refine w_q ?_; intro J hJ) | refine e_go ?_); simp [hxa]; (repeat refine ca ?_); (try ((try with_reducible refine ⟨?_, ?_⟩) <;> (try with_reducible intro hnil) <;> refine hJ _ _ ?_ <;> clear hJ J <;> simp only [ak, reduceIte] <;> try subst hnil)))))
        exact hJJ _ _ (by simp [fi]) (by simp [fn]) ⟨by simp [f7], by simp [f8], by simp [f9], by simp [f2], by simp [f21], q, by rw [hst]; simp [f10], by rw [hst]; exact hR6⟩
      · have hpx : q1 a c ⟨xi, xa, xb⟩ = true := by rw [hq1]; simp [hxa]
        rw [if_pos hpx] at hst
        (repeat' (first | refine awp_seq ?_ | refine awp_block ?_ | ((first | refine awp_skip ?_ | refine awp_exit ?_); simp only [ak, reduceIte]) | (refine awp_ret ?_; simp only [ak, reduceIte]; simp [hxa, f10, hX6, hB6, hqne, hsne, hFl]) | (refine awp_cond ?_; simp [hxa, f10, hX6, hB6, hqne, hsne, hFl]; (try with_reducible refine ⟨?_, ?_⟩) <;> (try with_reducible intro hc) <;> try (exfalso; omega)) | ((first | (refine w_e [] ?_; intro J hJ; simp only []) | (refine w_q ?_; intro J hJ) | refine e_go ?_); simp [hxa, f10, hX6, hB6, hqne, hsne, hFl]; (repeat refine ca ?_); (try ((try with_reducible refine ⟨?_, ?_⟩) <;> (try with_reducible intro hnil) <;> refine hJ _ _ ?_ <;> clear hJ J <;> simp only [ak, reduceIte] <;> try subst hnil)))))
        refine hJJ _ _ (by simp [fi]) (by simp [fn]) ⟨by simp [f7], by simp [f8], by simp [f9], by simp [f2], by simp [f21], s6.next + 1, by rw [hst]; simp, ?_⟩
        rw [hst]
        refine hR6.push (by rw [hpush]; simp) (by simp) (((hR6.2.2.2.trans (Keeps.new _ _)).set hR6.2.1 _).trans (Keeps.new _ _))
  rintro fr s4 ⟨f7, f8, f9, f2, f21, q, f10, hR⟩
  rw [List.take_length] at f10 hR
  have hEl := List.length_filter_le (q1 a c) b
  generalize hE : b.filter (q1 a c) = E at *
  clear f9 f21
  (repeat' (first | refine awp_seq ?_ | refine awp_block ?_ | ((first | refine awp_skip ?_ | refine awp_exit ?_); simp only [ak, reduceIte]) | (refine awp_ret ?_; simp only [ak, reduceIte]; simp [f2]) | (refine awp_cond ?_; simp [f2]; (try with_reducible refine ⟨?_, ?_⟩) <;> (try with_reducible intro hc) <;> try (exfalso; omega)) | ((first | (refine w_e [] ?_; intro J hJ; simp only []) | (refine w_q ?_; intro J hJ) | refine e_go ?_); simp [f2]; (repeat refine ca ?_); (try ((try with_reducible refine ⟨?_, ?_⟩) <;> (try with_reducible intro hnil) <;> refine hJ _ _ ?_ <;> clear hJ J <;> simp only [ak, reduceIte] <;> try subst hnil)))))
  refine awp_range 43 42 44 61 (c.length) (fun j fr st2 => fr 7 = wfnE kA ∧ fr 8 = wfnE kB ∧ fr 41 = .sl tc c.length (eds c) ∧ ∃ q, fr 10 = .ms q 0 (E ++ (c.take j).filter (q2 a b)).length ∧ RowE s3 st2 q (E ++ (c.take j).filter (q2 a b))) ?_ ?_ ?_
  · exact ⟨by simp [f7], by simp [f8], by simp, q, by simp [f10], by simpa using hR⟩
  · clear f7 f8 f2 f10 hR q fr s4
    rintro j fr s4 hlt ⟨f7, f8, f41, q, f10, hR⟩ fi fn JJ hJJ
    have hd := eds_drop c j hlt
    have hk3 : j * 3 < c.length * 3 := by omega
    have hst := filterE_take c (q2 a b) j hlt
    have hle := List.length_filter_le (q2 a b) (c.take j)
    rw [List.length_take] at hle
    generalize c.getD j ed0 = x at *
    generalize (c.take j).filter (q2 a b) = F at *
    have hq1 : q2 a b x = (!decide (x ∈ b) && !decide (x ∈ a)) := rfl
    have hB4 := ((hB3.keep hR.2.2.2).keep (Keeps.new s4 (.box 40 3 (edL x)))).call x
    have hGl : (E ++ F).length = E.length + F.length := by simp
    generalize hG : E ++ F = G at *
    have hFl := eds_length G
    have hpush : eds (G ++ [x]) = eds G ++ edL x := eds_snoc G x
    have happ : ∀ y : Ed, E ++ (F ++ [y]) = G ++ [y] := fun y => by rw [← hG]; simp
    obtain ⟨xi, xa, xb⟩ := x
    simp only at hd
    (repeat' (first | refine awp_seq ?_ | refine awp_block ?_ | ((first | refine awp_skip ?_ | refine awp_exit ?_); simp only [ak, reduceIte]) | (refine awp_ret ?_; simp only [ak, reduceIte]; simp [f7, f8, f41, fi, fn, hlt, hk3, hlc, hd]) | (refine awp_cond ?_; simp [f7, f8, f41, fi, fn, hlt, hk3, hlc, hd]; (try with_reducible refine ⟨?_, ?_⟩) <;> (try with_reducible intro hc) <;> try (exfalso; omega)) | ((first | (refine w_e [] ?_; intro J hJ; simp only []) | (refine w_q ?_; intro J hJ) | refine e_go ?_); simp [f7, f8, f41, fi, fn, hlt, hk3, hlc, hd]; (repeat refine ca ?_); (try ((try with_reducible refine ⟨?_, ?_⟩) <;> (try with_reducible intro hnil) <;> refine hJ _ _ ?_ <;> clear hJ J <;> simp only [ak, reduceIte] <;> try subst hnil)))))
    refine callK_ofE hB4 (by simp) ?_; rintro r s5 ⟨rfl, hk5⟩
    have hn5 := hk5.next
    simp only [new_next] at hn5
    have hX5 := hk5.H s4.next (by simp)
    simp only [new_H, if_true] at hX5
    have hR5 := (hR.keeps (Keeps.new _ _)).keeps hk5
    by_cases hxb : (⟨xi, xa, xb⟩ : Ed) ∈ b
    · have hpx : q2 a b ⟨xi, xa, xb⟩ = false := by rw [hq1]; simp [hxb]
      rw [hpx] at hst
      (repeat' (first | refine awp_seq ?_ | refine awp_block ?_ | ((first | refine awp_skip ?_ | refine awp_exit ?_); simp only [ak, reduceIte]) | (refine awp_ret ?_; simp only [ak, reduceIte]; simp [hxb]) | (refine awp_cond ?_; simp [hxb]; (try with_reducible refine ⟨?_, ?_⟩) <;> (try with_reducible intro hc) <;> try (exfalso; omega)) | ((first | (refine w_e [] ?_; intro J hJ; simp only []) | (refine w_q ?_; intro J hJ) | refine e_go ?_); simp [hxb]; (repeat refine ca ?_); (try ((try with_reducible refine ⟨?_, ?_⟩) <;> (try with_reducible intro hnil) <;> refine hJ _ _ ?_ <;> clear hJ J <;> simp only [ak, reduceIte] <;> try subst hnil)))))
      exact hJJ _ _ (by simp [fi]) (by simp [fn]) ⟨by simp [f7], by simp [f8], by simp [f41], q, by rw [hst, if_neg (by simp), hG]; simp [f10], by rw [hst, if_neg (by simp), hG]; exact hR5⟩
    · have hA5 := (((hA3.keep hR.2.2.2).keep (Keeps.new s4 (.box 40 3 (edL ⟨xi, xa, xb⟩)))).keep hk5).call ⟨xi, xa, xb⟩
      (refine e_go ?_; simp [hxb, f7, hX5]; (repeat refine ca ?_); (try ((try with_reducible refine ⟨?_, ?_⟩) <;> (try with_reducible intro hnil) <;> refine hJ _ _ ?_ <;> clear hJ J <;> simp only [ak, reduceIte] <;> try subst hnil)))
      refine callK_ofE hA5 (by simp) ?_; rintro r s6 ⟨rfl, hk6⟩
      have hn6 := hk6.next
      have hX6 := (hk6.H s4.next (by omega)).trans hX5
      have hR6 := hR5.keeps hk6
      have hB6 := hR6.1
      have hqne : ¬ q = s6.next := by have := hR6.2.2.1; omega
      have hsne : ¬ s4.next = s6.next := by omega
      by_cases hxa : (⟨xi, xa, xb⟩ : Ed) ∈ a
      · have hpx : q2 a b ⟨xi, xa, xb⟩ = false := by rw [hq1]; simp [hxa]
        rw [hpx] at hst
        (repeat' (first | refine awp_seq ?_ | refine awp_block ?_ | ((first | refine awp_skip ?_ | refine awp_exit ?_); simp only [ak, reduceIte]) | (refine awp_ret ?_; simp only [ak, reduceIte]; simp [hxa]) | (refine awp_cond ?_; simp [hxa]; (try with_reducible refine ⟨?_, ?_⟩) <;> (try with_reducible intro hc) <;> try (exfalso; omega)) | ((first | (refine w_e [] ?_; intro J hJ; simp only []) | (refine w_q ?_; intro J hJ) | refine e_go ?_); simp [hxa]; (repeat refine ca ?_); (try ((try with_reducible refine ⟨?_, ?_⟩) <;> (try with_reducible intro hnil) <;> refine hJ _ _ ?_ <;> clear hJ J <;> simp only [ak, reduceIte] <;> try subst hnil)))))
        exact hJJ _ _ (by simp [fi]) (by simp [fn]) ⟨by simp [f7], by simp [f8], by simp [f41], q, by rw [hst, if_neg (by simp), hG]; simp [f10], by rw [hst, if_neg (by simp), hG]; exact hR6⟩
      · have hpx : q2 a b ⟨xi, xa, xb⟩ = true := by rw [hq1]; simp [hxa, hxb]
        rw [if_pos hpx] at hst
        have hGle : G.length ≤ 20000 := by omega
        (repeat' (first | refine awp_seq ?_ | refine awp_block ?_ | ((first | refine awp_skip ?_ | refine awp_exit ?_); simp only [ak, reduceIte]) | (refine awp_ret ?_; simp only [ak, reduceIte]; simp [hxa, f10, hX6, hB6, hqne, hsne, hFl]) | (refine awp_cond ?_; simp [hxa, f10, hX6, hB6, hqne, hsne, hFl]; (try with_reducible refine ⟨?_, ?_⟩) <;> (try with_reducible intro hc) <;> try (exfalso; omega)) | ((first | (refine w_e [] ?_; intro J hJ; simp only []) | (refine w_q ?_; intro J hJ) | refine e_go ?_); simp [hxa, f10, hX6, hB6, hqne, hsne, hFl]; (repeat refine ca ?_); (try ((try with_reducible refine ⟨?_, ?_⟩) <;> (try with_reducible intro hnil) <;> refine hJ _ _ ?_ <;> clear hJ J <;> simp only [ak, reduceIte] <;> try subst hnil)))))
        refine hJJ _ _ (by simp [fi]) (by simp [fn]) ⟨by simp [f7], by simp [f8], by simp [f41], s6.next + 1, by rw [hst, happ]; simp, ?_⟩
        rw [hst, happ]
        refine hR6.push (by rw [hpush]; simp) (by simp) (((hR6.2.2.2.trans (Keeps.new _ _)).set hR6.2.1 _).trans (Keeps.new _ _))
  · clear f7 f8 f2 f10 hR q fr s4
    rintro fr s4 ⟨f7, f8, f41, q, f10, hR⟩
    rw [List.take_length] at f10 hR
    have hp : E ++ c.filter (q2 a b) = picks a b c := by rw [← hE]; rfl
    rw [hp] at f10 hR
    (repeat' (first | refine awp_seq ?_ | refine awp_block ?_ | ((first | refine awp_skip ?_ | refine awp_exit ?_); simp only [ak, reduceIte]) | (refine awp_ret ?_; simp only [ak, reduceIte]; simp [f10]) | (refine awp_cond ?_; simp [f10]; (try with_reducible refine ⟨?_, ?_⟩) <;> (try with_reducible intro hc) <;> try (exfalso; omega)) | ((first | (refine w_e [] ?_; intro J hJ; simp only []) | (refine w_q ?_; intro J hJ) | refine e_go ?_); simp [f10]; (repeat refine ca ?_); (try ((try with_reducible refine ⟨?_, ?_⟩) <;> (try with_reducible intro hnil) <;> refine hJ _ _ ?_ <;> clear hJ J <;> simp only [ak, reduceIte] <;> try subst hnil)))))
    exact ⟨hR.1, by have := hK3.next; have := hR.2.1; omega, hR.2.2.1, hK3.trans hR.2.2.2⟩

theorem AllE (a b c : List Ed) (st : St) (ha : a.length ≤ 10000) (hb : b.length ≤ 10000) (hc : c.length ≤ 10000) :
    ACalls Try.prog 15 [.ag [.sl 0 a.length (eds a), .sl 0 b.length (eds b), .sl 0 c.length (eds c)]] st fun r st' => ∃ q, r = .ms q 0 (picks a b c).length ∧ RowE st st' q (picks a b c) := by
  refine acalls_of_body tabOk Try.func15 rfl rfl Try.ntmps15 (rs := [.tmp 2]) rfl (by simp) ?_
  (repeat' (first | refine awp_seq ?_ | refine awp_block ?_ | ((first | refine awp_skip ?_ | refine awp_exit ?_); simp only [ak, reduceIte]) | (refine awp_ret ?_; simp only [ak, reduceIte]; simp []) | (refine awp_cond ?_; simp []; (try with_reducible refine ⟨?_, ?_⟩) <;> (try with_reducible intro hc) <;> try (exfalso; omega)) | ((first | (refine w_e [] ?_; intro J hJ; simp only []) | (refine w_q ?_; intro J hJ) | refine e_go ?_); simp []; (repeat refine ca ?_); (try ((try with_reducible refine ⟨?_, ?_⟩) <;> (try with_reducible intro hnil) <;> refine hJ _ _ ?_ <;> clear hJ J <;> simp only [ak, reduceIte] <;> try subst hnil)))))
  refine callK_ofE (PickE a b c 0 0 0 _ ha hb hc) (by simp) ?_; rintro r s1 ⟨q, rfl, h1, h2, h3, h4⟩
  simp only [new_next] at h2
  (repeat' (first | refine awp_seq ?_ | refine awp_block ?_ | ((first | refine awp_skip ?_ | refine awp_exit ?_); simp only [ak, reduceIte]) | (refine awp_ret ?_; simp only [ak, reduceIte]; simp []) | (refine awp_cond ?_; simp []; (try with_reducible refine ⟨?_, ?_⟩) <;> (try with_reducible intro hc) <;> try (exfalso; omega)) | ((first | (refine w_e [] ?_; intro J hJ; simp only []) | (refine w_q ?_; intro J hJ) | refine e_go ?_); simp []; (repeat refine ca ?_); (try ((try with_reducible refine ⟨?_, ?_⟩) <;> (try with_reducible intro hnil) <;> refine hJ _ _ ?_ <;> clear hJ J <;> simp only [ak, reduceIte] <;> try subst hnil)))))
  exact ⟨h1, by omega, h3, (Keeps.new _ _).trans h4⟩

end Go.Proofs.Ytaiakdhcajibnaa.Aw

namespace Go.Proofs.Ytaiakdhcajibnaa.Aw
open Go Go.RowKit Go.Proofs.Ytaiakdhcajibnaa.Pl
set_option linter.unusedSimpArgs false
set_option linter.unusedVariables false

theorem z0L_us (l : List Int) : z0L (us l) = us l := by rw [z0L_map]; simp [us, z0]
theorem z0L_eds (l : List Ed) : z0L (eds l) = eds l := by
  rw [z0L_map]
  induction l with
  | nil => rfl
  | cons x l ih => simp only [eds, List.flatMap_cons, List.map_append] at ih ⊢; rw [ih]; rfl
theorem OffS.keepsOf {q : Nat} {a b st : St} (h : OffS q a b) (hq : st.next ≤ q) (k : Keeps st a) : Keeps st b :=
  ⟨Nat.le_trans k.next h.1, fun l hl => (h.2 l (by omega) (Nat.lt_of_lt_of_le hl k.next)).trans (k.H l hl)⟩
theorem nums_eq (a b c : List Int) : nums a b c = vpicks a b c := rfl
abbrev bzG : LObj := .box 25 2 [.nil, .nil]
/-- The ids of edges in order. -/
theorem ids_getD (E : List Ed) (j : Nat) (hj : j < E.length) : (E.map (·.id)).getD j 0 = (E.getD j ed0).id := by
  rw [getDE E j hj, List.getD_eq_getElem?_getD, List.getElem?_eq_getElem (by simpa using hj)]; simp
def UofP (a b c : Gr) (st : St) (r : LV) (st' : St) : Prop := (∃ x : Un3, r = .tu [.ag (grL x.g), u x.n, i x.e] ∧ UniR a b c x) ∧ Keeps st st'
theorem awp_weak {P : Program} {N : Nat} {Q : AQ} {c : Code} {fr : Frm} {st : St} (I : Frm → St → Prop) (h0 : I fr st) (h : ∀ fr st, I fr st → AWp P N c Q fr st) : AWp P N c Q fr st := h _ _ h0
/-- Picked and in order. -/
def UsoI (a b c : Gr) (st : St) (fr : Frm) (s : St) : Prop := ∃ V E t1 t2, fr 6 = .pt (st.next + 3) 0 ∧ fr 7 = u 0 ∧ fr 8 = i 0 ∧ fr 11 = .sl t1 V.length (us V) ∧ fr 12 = .sl t2 E.length (eds E) ∧ s.H (st.next + 3) = bzG ∧ st.next + 3 < s.next ∧ Keeps st s ∧ V.Pairwise (· < ·) ∧ (∀ x, x ∈ V ↔ x ∈ vpicks a.vs b.vs c.vs) ∧ E.Perm (picks a.es b.es c.es) ∧ Ris E ∧ V.length ≤ 20000 ∧ E.length ≤ 20000

set_option maxHeartbeats 2000000 in
theorem uOf (a b c : Gr) (st : St) (ha : a.vs.length ≤ 10000 ∧ a.es.length ≤ 10000) (hb : GrF b) (hc : GrF c) :
    ACalls Try.prog 7 [.ag (grL a), .ag (grL b), .ag (grL c)] st (UofP a b c st) := by
  have hb1 := hb.l1
  have hb2 := hb.l2
  have hc1 := hc.l1
  have hc2 := hc.l2
  refine acalls_z0 ?_
  refine acalls_of_body tabOk Try.func7 rfl rfl Try.ntmps7 (rs := [.cell 6 25, .tmp 7, .tmp 8]) rfl (by simp) ?_
  (repeat' (first | refine awp_seq ?_ | refine awp_block ?_ | ((first | refine awp_skip ?_ | refine awp_exit ?_); simp only [ak, reduceIte]) | (refine awp_ret ?_; simp only [ak, reduceIte]; simp []) | (refine awp_cond ?_; simp []; (try with_reducible refine ⟨?_, ?_⟩) <;> (try with_reducible intro hc) <;> try (exfalso; omega)) | ((first | (refine w_e [] ?_; intro J hJ; simp only []) | (refine w_q ?_; intro J hJ) | refine e_go ?_); simp []; (repeat refine ca ?_); (try ((try with_reducible refine ⟨?_, ?_⟩) <;> (try with_reducible intro hnil) <;> refine hJ _ _ ?_ <;> clear hJ J <;> simp only [ak, reduceIte] <;> try subst hnil)))))
  refine awp_weak (fun fr s => (fr 6 = .pt (st.next + 3) 0 ∧ fr 7 = u 0 ∧ fr 8 = i 0 ∧ fr 9 = .pt (st.next + 4) 0 ∧ fr 10 = .pt (st.next + 5) 0) ∧ s.H (st.next + 3) = bzG ∧ s.H (st.next + 4) = .box 45 3 [.sl 0 a.vs.length (us a.vs), .sl 0 b.vs.length (us b.vs), .sl 0 c.vs.length (us c.vs)] ∧ s.H (st.next + 5) = .box 49 3 [.sl 0 a.es.length (eds a.es), .sl 0 b.es.length (eds b.es), .sl 0 c.es.length (eds c.es)] ∧ s.next = st.next + 6 ∧ Keeps st s) ?_ ?_
  · refine ⟨⟨by simp, by simp, by simp, by simp, by simp⟩, by simp, by simp, by simp, by simp, ?_⟩
    exact ((((((Keeps.new _ _).trans (Keeps.new _ _)).trans (Keeps.new _ _)).trans (Keeps.new _ _)).trans (Keeps.new _ _)).set (by omega) _ |>.trans (Keeps.new _ _)).set (by omega) _
  rintro fr s ⟨⟨f6, f7, f8, f9, f10⟩, hG, hA, hB, hn, hk0⟩
  (refine w_s [] [st.next + 4, st.next + 5] [(0, true), (1, true), (3, true), (4, true), (2, true), (5, true), (6, true), (7, true)] ?_; intro J hJ; simp [f9, f10, hA, hB]; (repeat refine ca ?_); (try ((try with_reducible refine ⟨?_, ?_⟩) <;> (try with_reducible intro hnil) <;> refine hJ _ _ ?_ <;> clear hJ J <;> simp only [ak, reduceIte] <;> try subst hnil)))
  refine dcallK_ofE (AllM a.vs b.vs c.vs _ (by unfold small; omega) (by unfold small; omega) (by unfold small; omega)) (by simp) ?_; rintro r s1 ⟨qv, rfl, hV, ⟨hv1, hv2⟩, hk1⟩
  have hA1 := (hk1.H _ (by omega)).trans hA
  have hB1 := (hk1.H _ (by omega)).trans hB
  have hG1 := (hk1.H _ (by omega)).trans hG
  have hn1 := hk1.next
  refine ⟨fun _ => by simp [hA1, hB1, hA, hB], ?_⟩
  (refine d_go ?_; simp [f9, f10, hA1, hB1]; (repeat refine ca ?_); (try ((try with_reducible refine ⟨?_, ?_⟩) <;> (try with_reducible intro hnil) <;> refine hJ _ _ ?_ <;> clear hJ J <;> simp only [ak, reduceIte] <;> try subst hnil)))
  refine dcallK_ofE (AllE a.es b.es c.es _ (by omega) (by omega) (by omega)) (by simp) ?_; rintro r s2 ⟨qe, rfl, hE, he1, he2, hk2⟩
  have hA2 := (hk2.H _ (by omega)).trans hA1
  have hB2 := (hk2.H _ (by omega)).trans hB1
  have hG2 := (hk2.H _ (by omega)).trans hG1
  have hV2 := (hk2.H _ hv2).trans hV
  have hn2 := hk2.next
  refine ⟨fun _ => by simp [hA1, hB1, hA2, hB2, hA, hB], ?_⟩
  (refine d_go ?_; simp [f9, f10, hA2, hB2]; (repeat refine ca ?_); (try ((try with_reducible refine ⟨?_, ?_⟩) <;> (try with_reducible intro hnil) <;> refine hJ _ _ ?_ <;> clear hJ J <;> simp only [ak, reduceIte] <;> try subst hnil)))
  have hlv : (nums a.vs b.vs c.vs).length ≤ 20000 := by
    unfold nums
    have := List.length_filter_le (p1 a.vs c.vs) b.vs
    have := List.length_filter_le (p2 a.vs b.vs) c.vs
    rw [List.length_append]; omega
  have hle : (picks a.es b.es c.es).length ≤ 20000 := by
    unfold picks
    have := List.length_filter_le (q1 a.es c.es) b.es
    have := List.length_filter_le (q2 a.es b.es) c.es
    rw [List.length_append]; omega
  have hK2 : Keeps st s2 := (hk0.trans hk1).trans hk2
  (repeat (refine awp_seq ?_))
  refine awp_weak (fun fr s => (fr 6 = .pt (st.next + 3) 0 ∧ fr 7 = u 0 ∧ fr 8 = i 0 ∧ fr 11 = .ms qv 0 (nums a.vs b.vs c.vs).length ∧ fr 12 = .ms qe 0 (picks a.es b.es c.es).length) ∧ s = s2) ⟨⟨by simp [f6], by simp [f7], by simp [f8], by simp, by simp⟩, rfl⟩ ?_
  clear f6 f7 f8 f9 f10 fr
  rintro fr s3 ⟨⟨f6, f7, f8, f11, f12⟩, rfl⟩
  have hvn : qv ≠ qe := by omega
  (refine w_e [] ?_; intro J hJ; simp only []; simp [f11]; (repeat refine ca ?_); (try ((try with_reducible refine ⟨?_, ?_⟩) <;> (try with_reducible intro hnil) <;> refine hJ _ _ ?_ <;> clear hJ J <;> simp only [ak, reduceIte] <;> try subst hnil)))
  refine callK_ofE (SortU (nums a.vs b.vs c.vs) qv _ (by omega) (by omega) hV2) (by simp) ?_; rintro r s4 ⟨V, hV4, hVp, hVs, hof4⟩
  have hn4 := hof4.1
  have hE4 := (hof4.2 qe (by omega) he2).trans hE
  have hG4 := (hof4.2 (st.next + 3) (by omega) (by omega)).trans hG2
  have hK4 := hof4.keepsOf (by omega) hK2
  have lV := hVp.length_eq
  (refine e_go ?_; simp []; (repeat refine ca ?_); (try ((try with_reducible refine ⟨?_, ?_⟩) <;> (try with_reducible intro hnil) <;> refine hJ _ _ ?_ <;> clear hJ J <;> simp only [ak, reduceIte] <;> try subst hnil)))
  (repeat (refine awp_seq ?_))
  (refine w_e [] ?_; intro J hJ; simp only []; simp [f12]; (repeat refine ca ?_); (try ((try with_reducible refine ⟨?_, ?_⟩) <;> (try with_reducible intro hnil) <;> refine hJ _ _ ?_ <;> clear hJ J <;> simp only [ak, reduceIte] <;> try subst hnil)))
  refine callK_ofE (SortSt (picks a.es b.es c.es) qe _ (by omega) (by omega) hE4) (by simp) ?_; rintro r s5 ⟨E, hEp, hEr, hE5, hof5⟩
  have hn5 := hof5.1
  have hV5 := (hof5.2 qv hvn (by omega)).trans hV4
  have hG5 := (hof5.2 (st.next + 3) (by omega) (by omega)).trans hG4
  have hK5 := hof5.keepsOf (by omega) hK4
  have lE := hEp.length_eq
  (refine e_go ?_; simp []; (repeat refine ca ?_); (try ((try with_reducible refine ⟨?_, ?_⟩) <;> (try with_reducible intro hnil) <;> refine hJ _ _ ?_ <;> clear hJ J <;> simp only [ak, reduceIte] <;> try subst hnil)))
  refine awp_freeze 11 (l := qv) (n := V.length) (by simp [f11, lV]) hV5 (by simp) ?_
  refine awp_freeze 12 (l := qe) (n := E.length) (by simp [f12, lE]) (show (s5.set qv .dead).H qe = _ by rw [set_H, if_neg (by omega)]; exact hE5) (by rw [eds_length]; omega) ?_
  have tV : (us V).take (V.length * 1) = us V := by rw [List.take_of_length_le (by simp)]
  have tE : (eds E).take (E.length * 3) = eds E := by rw [List.take_of_length_le (by rw [eds_length]; omega)]
  rw [tV, tE]
  have hVm : ∀ x, x ∈ V ↔ x ∈ vpicks a.vs b.vs c.vs := fun x => hVp.mem_iff
  have hVlt : V.Pairwise (· < ·) := by
    have hnd : V.Nodup := hVp.nodup_iff.2 (vpicks_nodup hb.vnodup hc.vnodup)
    refine (hVs.and hnd).imp fun h => ?_
    have := h.1
    have := h.2
    omega
  refine awp_weak (fun fr s => (fr 6 = .pt (st.next + 3) 0 ∧ fr 7 = u 0 ∧ fr 8 = i 0 ∧ fr 11 = .sl 0 V.length (us V) ∧ fr 12 = .sl 0 E.length (eds E)) ∧ s.H (st.next + 3) = bzG ∧ st.next + 3 < s.next ∧ Keeps st s) ⟨⟨by simp [f6], by simp [f7], by simp [f8], by simp, by simp⟩, ?_, ?_, ?_⟩ ?_
  · rw [set_H, if_neg (by omega), set_H, if_neg (by omega)]; exact hG5
  · simp; omega
  · exact (hK5.set (by omega) _).set (by omega) _
  clear hK5 hK4 hK2 hG5 hG4 hG2 hG1 hG hV5 hE5 hE4 hV4 hV2 hV hE hof4 hof5 hA hB hA1 hB1 hA2 hB2 hk0 hk1 hk2 hn hn1 hn2 hn4 hn5 hv1 hv2 he1 he2 hvn f6 f7 f8 f11 f12 fr
  clear s4 s5 s1 s3 s
  rintro fr s ⟨⟨f6, f7, f8, f11, f12⟩, hG, hlt, hK⟩
  have hid := (hEp.map (·.id))
  have hpos : ∀ x ∈ E, 1 ≤ x.id ∧ x.id ≤ 1048576 := fun x hx => by
    rcases picks_mem.1 (hEp.mem_iff.1 hx) with h | h | h
    · exact hb.pos x h.1
    · exact hb.pos x h.1
    · exact hc.pos x h.1
  have hidr : (E.map (·.id)).Pairwise (· ≤ ·) := by rw [List.pairwise_map]; exact hEr
  have hidp : ∀ y ∈ E.map (·.id), 0 < y := fun y hy => by
    obtain ⟨x, hx, rfl⟩ := List.mem_map.1 hy
    have := hpos x hx; omega
  have hel := eds_length E
  have hmk : ∀ x : Un3, UniR a b c x → ∀ st', Keeps st st' → UofP a b c st (.tu [.ag (grL x.g), u x.n, i x.e]) st' := fun x hx st' hk => ⟨⟨x, rfl, hx⟩, hk⟩
  have hdup : ∀ d, MinDup (E.map (·.id)) d → d ≠ 0 → UniR a b c ⟨gr0, d, 26⟩ := fun d h1 h2 => ⟨V, d, hVlt, hVm, h1.perm hid, .inl ⟨h2, rfl⟩⟩
  have huni : MinDup (E.map (·.id)) 0 → (E.map (·.id)).Pairwise (· < ·) → UniR a b c (uniV V E) := fun h1 h2 => ⟨V, 0, hVlt, hVm, h1.perm hid, .inr ⟨rfl, E, h2, fun x => hEp.mem_iff, rfl⟩⟩
  have lE2 : E.length ≤ 20000 := by omega
  have lV2 : V.length ≤ 20000 := by omega
  clear hEp hVp hVs hVlt hVm lV lE hlv hle hid tV tE
  (repeat' (first | refine awp_seq ?_ | refine awp_block ?_ | ((first | refine awp_skip ?_ | refine awp_exit ?_); simp only [ak, reduceIte]) | (refine awp_ret ?_; simp only [ak, reduceIte]; simp []) | (refine awp_cond ?_; simp []; (try with_reducible refine ⟨?_, ?_⟩) <;> (try with_reducible intro hc) <;> try (exfalso; omega)) | ((first | (refine w_e [] ?_; intro J hJ; simp only []) | (refine w_q ?_; intro J hJ) | refine e_go ?_); simp []; (repeat refine ca ?_); (try ((try with_reducible refine ⟨?_, ?_⟩) <;> (try with_reducible intro hnil) <;> refine hJ _ _ ?_ <;> clear hJ J <;> simp only [ak, reduceIte] <;> try subst hnil)))))
  refine awp_loop (fun z fr s2 => ∃ k : Nat, 0 < k ∧ k ≤ E.length + 1 ∧ z = E.length + 1 - k ∧ fr 6 = .pt (st.next + 3) 0 ∧ fr 7 = u 0 ∧ fr 8 = i 0 ∧ fr 11 = .sl 0 V.length (us V) ∧ fr 12 = .sl 0 E.length (eds E) ∧ fr 13 = i k ∧ s2 = s ∧ ∀ j, 0 < j → j < k → j < E.length → (E.getD j ed0).id ≠ (E.getD (j - 1) ed0).id) E.length ?_ ?_
  · exact ⟨1, by omega, by omega, rfl, by simp [f6], by simp [f7], by simp [f8], by simp [f11], by simp [f12], by simp, rfl, fun j h1 h2 => by omega⟩
  clear f6 f7 f8 f11 f12 fr
  rintro z fr s2 ⟨k, hk0, hkE, rfl, f6, f7, f8, f11, f12, f13, rfl, hno⟩ JJ hJJ
  by_cases hlt2 : k < E.length
  · have hd := eds_drop E k hlt2
    have hd1 := eds_drop E (k - 1) (by omega)
    have w1 : IntKind.i64.wrap ((k : Int) - 1) = ((k - 1 : Nat) : Int) := by rw [wrap_s _ (by omega) (by omega)]; omega
    have w2 := nat_add_one k (by omega)
    have hid1 := ids_getD E k hlt2
    have hid2 := ids_getD E (k - 1) (by omega)
    have hd0 := fun he hn => minDup_first hidr hidp hk0 (by simpa using hlt2) he hn
    have hno' : ∀ j, 0 < j → j < k → (E.map (·.id)).getD j 0 ≠ (E.map (·.id)).getD (j - 1) 0 := fun j h1 h2 => by
      rw [ids_getD E j (by omega), ids_getD E (j - 1) (by omega)]; exact hno j h1 h2 (by omega)
    have hp := hpos (E.getD k ed0) (by rw [getDE E k hlt2]; exact List.getElem_mem _)
    rw [hid1, hid2] at hd0
    have hnext : (E.getD k ed0).id ≠ (E.getD (k - 1) ed0).id → ∀ j, 0 < j → j < k + 1 → j < E.length → (E.getD j ed0).id ≠ (E.getD (j - 1) ed0).id := fun h j h1 h2 h3 => by
      rcases Nat.lt_or_ge j k with h4 | h4
      · exact hno j h1 h4 h3
      · obtain rfl : j = k := by omega
        exact h
    clear hid1 hid2 hno
    obtain ⟨km, hkm⟩ : ∃ km : Nat, km = k - 1 := ⟨_, rfl⟩
    rw [← hkm] at hd1 w1 hd0 hnext
    have hkl : km < E.length := by omega
    generalize E.getD k ed0 = x at *
    generalize E.getD km ed0 = y at *
    obtain ⟨xi, xa, xb⟩ := x
    obtain ⟨yi, ya, yb⟩ := y
    simp only at hd hd1 hd0 hp hnext
    by_cases hxy : xi = yi
    · clear hJJ
      have hr := hmk _ (hdup xi (hd0 hxy hno') (by omega))
      (repeat' (first | refine awp_seq ?_ | refine awp_block ?_ | ((first | refine awp_skip ?_ | refine awp_exit ?_); simp only [ak, reduceIte]) | (refine awp_ret ?_; simp only [ak, reduceIte]; simp [f12, f13, hd, hd1, hlt2, hkl, w1, hel, hxy]) | (refine awp_cond ?_; simp [f12, f13, hd, hd1, hlt2, hkl, w1, hel, hxy]; (try with_reducible refine ⟨?_, ?_⟩) <;> (try with_reducible intro hc) <;> try (exfalso; omega)) | ((first | (refine w_e [] ?_; intro J hJ; simp only []) | (refine w_q ?_; intro J hJ) | refine e_go ?_); simp [f12, f13, hd, hd1, hlt2, hkl, w1, hel, hxy]; (repeat refine ca ?_); (try ((try with_reducible refine ⟨?_, ?_⟩) <;> (try with_reducible intro hnil) <;> refine hJ _ _ ?_ <;> clear hJ J <;> simp only [ak, reduceIte] <;> try subst hnil)))))
      (refine w_s [] [] [(1, true), (2, true), (3, true), (4, true), (5, true), (0, true), (6, true), (7, true), (8, true)] ?_; intro J hJ; simp [f6, f12, f13, hd, hlt2, hel, hG]; (repeat refine ca ?_); (try ((try with_reducible refine ⟨?_, ?_⟩) <;> (try with_reducible intro hnil) <;> refine hJ _ _ ?_ <;> clear hJ J <;> simp only [ak, reduceIte] <;> try subst hnil)))
      (repeat' (first | refine awp_seq ?_ | refine awp_block ?_ | ((first | refine awp_skip ?_ | refine awp_exit ?_); simp only [ak, reduceIte]) | (refine awp_ret ?_; simp only [ak, reduceIte]; simp [f6]) | (refine awp_cond ?_; simp [f6]; (try with_reducible refine ⟨?_, ?_⟩) <;> (try with_reducible intro hc) <;> try (exfalso; omega)) | ((first | (refine w_e [] ?_; intro J hJ; simp only []) | (refine w_q ?_; intro J hJ) | refine e_go ?_); simp [f6]; (repeat refine ca ?_); (try ((try with_reducible refine ⟨?_, ?_⟩) <;> (try with_reducible intro hnil) <;> refine hJ _ _ ?_ <;> clear hJ J <;> simp only [ak, reduceIte] <;> try subst hnil)))))
      simp [z0, z0L]; exact hr _ (hK.set (by omega) _)
    · (repeat' (first | refine awp_seq ?_ | refine awp_block ?_ | ((first | refine awp_skip ?_ | refine awp_exit ?_); simp only [ak, reduceIte]) | (refine awp_ret ?_; simp only [ak, reduceIte]; simp [f12, f13, hd, hd1, hlt2, hkl, w1, hel, hxy, w2]) | (refine awp_cond ?_; simp [f12, f13, hd, hd1, hlt2, hkl, w1, hel, hxy, w2]; (try with_reducible refine ⟨?_, ?_⟩) <;> (try with_reducible intro hc) <;> try (exfalso; omega)) | ((first | (refine w_e [] ?_; intro J hJ; simp only []) | (refine w_q ?_; intro J hJ) | refine e_go ?_); simp [f12, f13, hd, hd1, hlt2, hkl, w1, hel, hxy, w2]; (repeat refine ca ?_); (try ((try with_reducible refine ⟨?_, ?_⟩) <;> (try with_reducible intro hnil) <;> refine hJ _ _ ?_ <;> clear hJ J <;> simp only [ak, reduceIte] <;> try subst hnil)))))
      exact hJJ (E.length + 1 - (k + 1)) _ _ (by omega) ⟨k + 1, by omega, by omega, rfl, by simp [f6], by simp [f7], by simp [f8], by simp [f11], by simp [f12], by simp, rfl, hnext hxy⟩
  clear hJJ
  obtain ⟨hmd, hlt3⟩ := minDup_none hidr fun j h1 h2 => by
    rw [List.length_map] at h2
    rw [ids_getD E j h2, ids_getD E (j - 1) (by omega)]; exact hno j h1 (by omega) h2
  have hR := huni hmd hlt3
  clear hdup huni hno hmd hlt3 hidr hidp
  (repeat' (first | refine awp_seq ?_ | refine awp_block ?_ | ((first | refine awp_skip ?_ | refine awp_exit ?_); simp only [ak, reduceIte]) | (refine awp_ret ?_; simp only [ak, reduceIte]; simp [f12, f13, hlt2, f11]) | (refine awp_cond ?_; simp [f12, f13, hlt2, f11]; (try with_reducible refine ⟨?_, ?_⟩) <;> (try with_reducible intro hc) <;> try (exfalso; omega)) | ((first | (refine w_e [] ?_; intro J hJ; simp only []) | (refine w_q ?_; intro J hJ) | refine e_go ?_); simp [f12, f13, hlt2, f11]; (repeat refine ca ?_); (try ((try with_reducible refine ⟨?_, ?_⟩) <;> (try with_reducible intro hnil) <;> refine hJ _ _ ?_ <;> clear hJ J <;> simp only [ak, reduceIte] <;> try subst hnil)))))
  refine callK_ofE (within V 0 _ (by unfold small; omega)) (by simp) ?_; rintro r s3 ⟨cw, rfl, hS, hk3⟩
  have hn3 := hk3.next
  have hG3 := (hk3.H _ hlt).trans hG
  have hK3 := hK.trans hk3
  (repeat' (first | refine awp_seq ?_ | refine awp_block ?_ | ((first | refine awp_skip ?_ | refine awp_exit ?_); simp only [ak, reduceIte]) | (refine awp_ret ?_; simp only [ak, reduceIte]; simp [f12]) | (refine awp_cond ?_; simp [f12]; (try with_reducible refine ⟨?_, ?_⟩) <;> (try with_reducible intro hc) <;> try (exfalso; omega)) | ((first | (refine w_e [] ?_; intro J hJ; simp only []) | (refine w_q ?_; intro J hJ) | refine e_go ?_); simp [f12]; (repeat refine ca ?_); (try ((try with_reducible refine ⟨?_, ?_⟩) <;> (try with_reducible intro hnil) <;> refine hJ _ _ ?_ <;> clear hJ J <;> simp only [ak, reduceIte] <;> try subst hnil)))))
  refine awp_range 71 70 72 90 (E.length) (fun j fr st2 => fr 6 = .pt (st.next + 3) 0 ∧ fr 7 = u 0 ∧ fr 8 = i 0 ∧ fr 11 = .sl 0 V.length (us V) ∧ fr 12 = .sl 0 E.length (eds E) ∧ fr 14 = wfn cw ∧ fr 69 = .sl 0 E.length (eds E) ∧ SetAt st2 cw V ∧ st2.H (st.next + 3) = bzG ∧ st.next + 3 < st2.next ∧ Keeps st st2 ∧ ∀ k, k < j → dang V E k = 0) ?_ ?_ ?_
  · exact ⟨by simp [f6], by simp [f7], by simp [f8], by simp [f11], by simp [f12], by simp, by simp, hS, hG3, by omega, hK3, fun k h => by omega⟩
  · clear f6 f7 f8 f11 f12 f13 hS hG3 hK3 fr
    rintro j fr s4 hltj ⟨f6, f7, f8, f11, f12, f14, f69, hS, hG, hlt, hK, hno⟩ fi fn JJ hJJ
    have hd := eds_drop E j hltj
    have hk3 : j * 3 < E.length * 3 := by omega
    have hp := hpos (E.getD j ed0) (by rw [getDE E j hltj]; exact List.getElem_mem _)
    have hdj : dang V E j = if (E.getD j ed0).a ∈ V ∧ (E.getD j ed0).b ∈ V then 0 else (E.getD j ed0).id := rfl
    have hbad : dang V E j ≠ 0 → uniV V E = ⟨gr0, dang V E j, 27⟩ := fun h => by
      have := firstNZ_eq hltj hno rfl h
      unfold uniV
      rw [this, if_pos h]
    have hnx : dang V E j = 0 → ∀ k, k < j + 1 → dang V E k = 0 := fun h k hk => by
      rcases Nat.lt_or_ge k j with h1 | h1
      · exact hno k h1
      · obtain rfl : k = j := by omega
        exact h
    generalize dang V E j = dj at *
    generalize E.getD j ed0 = x at *
    obtain ⟨xi, xa, xb⟩ := x
    simp only at hd hp hdj
    have c1 : ¬ st.next + 3 = s4.next := by omega
    have hS4 := hS.keep (Keeps.new s4 (.box 40 3 (edL ⟨xi, xa, xb⟩)))
    (repeat' (first | refine awp_seq ?_ | refine awp_block ?_ | ((first | refine awp_skip ?_ | refine awp_exit ?_); simp only [ak, reduceIte]) | (refine awp_ret ?_; simp only [ak, reduceIte]; simp [f69, f14, fi, fn, hltj, hk3, hel, hd]) | (refine awp_cond ?_; simp [f69, f14, fi, fn, hltj, hk3, hel, hd]; (try with_reducible refine ⟨?_, ?_⟩) <;> (try with_reducible intro hc) <;> try (exfalso; omega)) | ((first | (refine w_e [] ?_; intro J hJ; simp only []) | (refine w_q ?_; intro J hJ) | refine e_go ?_); simp [f69, f14, fi, fn, hltj, hk3, hel, hd]; (repeat refine ca ?_); (try ((try with_reducible refine ⟨?_, ?_⟩) <;> (try with_reducible intro hnil) <;> refine hJ _ _ ?_ <;> clear hJ J <;> simp only [ak, reduceIte] <;> try subst hnil)))))
    refine callK_ofE (hS4.call xa) (by simp) ?_; rintro r s5 ⟨rfl, hk5⟩
    have hn5 := hk5.next
    simp only [new_next] at hn5
    have hX5 := hk5.H s4.next (by simp)
    have hG5 := hk5.H (st.next + 3) (by simp; omega)
    simp only [new_H, if_true, if_neg c1] at hX5 hG5
    rw [hG] at hG5
    have hK5 := (hK.trans (Keeps.new s4 (.box 40 3 (edL ⟨xi, xa, xb⟩)))).trans hk5
    have hS5 := hS4.keep hk5
    by_cases h1 : xa ∈ V
    rotate_left
    · clear hJJ
      rw [if_neg (fun h => h1 h.1)] at hdj
      rw [hbad (by omega), hdj] at hR
      have hr := hmk _ hR
      (repeat' (first | refine awp_seq ?_ | refine awp_block ?_ | ((first | refine awp_skip ?_ | refine awp_exit ?_); simp only [ak, reduceIte]) | (refine awp_ret ?_; simp only [ak, reduceIte]; simp [h1, hX5]) | (refine awp_cond ?_; simp [h1, hX5]; (try with_reducible refine ⟨?_, ?_⟩) <;> (try with_reducible intro hc) <;> try (exfalso; omega)) | ((first | (refine w_e [] ?_; intro J hJ; simp only []) | (refine w_q ?_; intro J hJ) | refine e_go ?_); simp [h1, hX5]; (repeat refine ca ?_); (try ((try with_reducible refine ⟨?_, ?_⟩) <;> (try with_reducible intro hnil) <;> refine hJ _ _ ?_ <;> clear hJ J <;> simp only [ak, reduceIte] <;> try subst hnil)))))
      (refine w_s [] [s4.next] [(1, true), (2, true), (0, true), (3, true), (4, true), (5, true)] ?_; intro J hJ; simp [f6, hX5, hG5]; (repeat refine ca ?_); (try ((try with_reducible refine ⟨?_, ?_⟩) <;> (try with_reducible intro hnil) <;> refine hJ _ _ ?_ <;> clear hJ J <;> simp only [ak, reduceIte] <;> try subst hnil)))
      (repeat' (first | refine awp_seq ?_ | refine awp_block ?_ | ((first | refine awp_skip ?_ | refine awp_exit ?_); simp only [ak, reduceIte]) | (refine awp_ret ?_; simp only [ak, reduceIte]; simp [f6]) | (refine awp_cond ?_; simp [f6]; (try with_reducible refine ⟨?_, ?_⟩) <;> (try with_reducible intro hc) <;> try (exfalso; omega)) | ((first | (refine w_e [] ?_; intro J hJ; simp only []) | (refine w_q ?_; intro J hJ) | refine e_go ?_); simp [f6]; (repeat refine ca ?_); (try ((try with_reducible refine ⟨?_, ?_⟩) <;> (try with_reducible intro hnil) <;> refine hJ _ _ ?_ <;> clear hJ J <;> simp only [ak, reduceIte] <;> try subst hnil)))))
      simp [z0, z0L]; exact hr _ (hK5.set (by omega) _)
    (refine e_go ?_; simp [h1, f14, hX5]; (repeat refine ca ?_); (try ((try with_reducible refine ⟨?_, ?_⟩) <;> (try with_reducible intro hnil) <;> refine hJ _ _ ?_ <;> clear hJ J <;> simp only [ak, reduceIte] <;> try subst hnil)))
    refine callK_ofE (hS5.call xb) (by simp) ?_; rintro r s6 ⟨rfl, hk6⟩
    have hn6 := hk6.next
    have hX6 := (hk6.H s4.next (by omega)).trans hX5
    have hG6 := (hk6.H (st.next + 3) (by omega)).trans hG5
    have hK6 := hK5.trans hk6
    by_cases h2 : xb ∈ V
    · rw [if_pos ⟨h1, h2⟩] at hdj
      (repeat' (first | refine awp_seq ?_ | refine awp_block ?_ | ((first | refine awp_skip ?_ | refine awp_exit ?_); simp only [ak, reduceIte]) | (refine awp_ret ?_; simp only [ak, reduceIte]; simp [h2]) | (refine awp_cond ?_; simp [h2]; (try with_reducible refine ⟨?_, ?_⟩) <;> (try with_reducible intro hc) <;> try (exfalso; omega)) | ((first | (refine w_e [] ?_; intro J hJ; simp only []) | (refine w_q ?_; intro J hJ) | refine e_go ?_); simp [h2]; (repeat refine ca ?_); (try ((try with_reducible refine ⟨?_, ?_⟩) <;> (try with_reducible intro hnil) <;> refine hJ _ _ ?_ <;> clear hJ J <;> simp only [ak, reduceIte] <;> try subst hnil)))))
      exact hJJ _ _ (by simp [fi]) (by simp [fn]) ⟨by simp [f6], by simp [f7], by simp [f8], by simp [f11], by simp [f12], by simp [f14], by simp [f69], hS5.keep hk6, hG6, by omega, hK6, hnx hdj⟩
    · clear hJJ
      rw [if_neg (fun h => h2 h.2)] at hdj
      rw [hbad (by omega), hdj] at hR
      have hr := hmk _ hR
      (repeat' (first | refine awp_seq ?_ | refine awp_block ?_ | ((first | refine awp_skip ?_ | refine awp_exit ?_); simp only [ak, reduceIte]) | (refine awp_ret ?_; simp only [ak, reduceIte]; simp [h2, hX6]) | (refine awp_cond ?_; simp [h2, hX6]; (try with_reducible refine ⟨?_, ?_⟩) <;> (try with_reducible intro hc) <;> try (exfalso; omega)) | ((first | (refine w_e [] ?_; intro J hJ; simp only []) | (refine w_q ?_; intro J hJ) | refine e_go ?_); simp [h2, hX6]; (repeat refine ca ?_); (try ((try with_reducible refine ⟨?_, ?_⟩) <;> (try with_reducible intro hnil) <;> refine hJ _ _ ?_ <;> clear hJ J <;> simp only [ak, reduceIte] <;> try subst hnil)))))
      (refine w_s [] [s4.next] [(1, true), (2, true), (0, true), (3, true), (4, true), (5, true)] ?_; intro J hJ; simp [f6, hX6, hG6]; (repeat refine ca ?_); (try ((try with_reducible refine ⟨?_, ?_⟩) <;> (try with_reducible intro hnil) <;> refine hJ _ _ ?_ <;> clear hJ J <;> simp only [ak, reduceIte] <;> try subst hnil)))
      (repeat' (first | refine awp_seq ?_ | refine awp_block ?_ | ((first | refine awp_skip ?_ | refine awp_exit ?_); simp only [ak, reduceIte]) | (refine awp_ret ?_; simp only [ak, reduceIte]; simp [f6]) | (refine awp_cond ?_; simp [f6]; (try with_reducible refine ⟨?_, ?_⟩) <;> (try with_reducible intro hc) <;> try (exfalso; omega)) | ((first | (refine w_e [] ?_; intro J hJ; simp only []) | (refine w_q ?_; intro J hJ) | refine e_go ?_); simp [f6]; (repeat refine ca ?_); (try ((try with_reducible refine ⟨?_, ?_⟩) <;> (try with_reducible intro hnil) <;> refine hJ _ _ ?_ <;> clear hJ J <;> simp only [ak, reduceIte] <;> try subst hnil)))))
      simp [z0, z0L]; exact hr _ (hK6.set (by omega) _)
  clear f6 f7 f8 f11 f12 f13 hS hG3 hK3 fr
  rintro fr s4 ⟨f6, f7, f8, f11, f12, f14, f69, hS, hG, hlt, hK, hno⟩
  have h0 : firstNZ (dang V E) E.length = 0 := firstNZ_zero hno
  have hU : uniV V E = if 64 < V.length ∨ 160 < E.length then ⟨gr0, 0, 6⟩ else ⟨⟨V, E⟩, 0, 0⟩ := by
    unfold uniV
    rw [h0, if_neg (by simp)]
  rw [hU] at hR
  by_cases h1 : 64 < V.length
  · rw [if_pos (.inl h1)] at hR
    have hr := hmk _ hR
    have h1' : (64 : Int) < V.length := by omega
    (repeat' (first | refine awp_seq ?_ | refine awp_block ?_ | ((first | refine awp_skip ?_ | refine awp_exit ?_); simp only [ak, reduceIte]) | (refine awp_ret ?_; simp only [ak, reduceIte]; simp [f11, f12, h1, h1', f6, hG]) | (refine awp_cond ?_; simp [f11, f12, h1, h1', f6, hG]; (try with_reducible refine ⟨?_, ?_⟩) <;> (try with_reducible intro hc) <;> try (exfalso; omega)) | ((first | (refine w_e [] ?_; intro J hJ; simp only []) | (refine w_q ?_; intro J hJ) | refine e_go ?_); simp [f11, f12, h1, h1', f6, hG]; (repeat refine ca ?_); (try ((try with_reducible refine ⟨?_, ?_⟩) <;> (try with_reducible intro hnil) <;> refine hJ _ _ ?_ <;> clear hJ J <;> simp only [ak, reduceIte] <;> try subst hnil)))))
    simp [z0, z0L]; exact hr _ (hK.set (by omega) _)
  have h1' : ¬ (64 : Int) < V.length := by omega
  by_cases h2 : 160 < E.length
  · rw [if_pos (.inr h2)] at hR
    have hr := hmk _ hR
    have h2' : (160 : Int) < E.length := by omega
    (repeat' (first | refine awp_seq ?_ | refine awp_block ?_ | ((first | refine awp_skip ?_ | refine awp_exit ?_); simp only [ak, reduceIte]) | (refine awp_ret ?_; simp only [ak, reduceIte]; simp [f11, f12, h1, h1', h2, h2', f6, hG]) | (refine awp_cond ?_; simp [f11, f12, h1, h1', h2, h2', f6, hG]; (try with_reducible refine ⟨?_, ?_⟩) <;> (try with_reducible intro hc) <;> try (exfalso; omega)) | ((first | (refine w_e [] ?_; intro J hJ; simp only []) | (refine w_q ?_; intro J hJ) | refine e_go ?_); simp [f11, f12, h1, h1', h2, h2', f6, hG]; (repeat refine ca ?_); (try ((try with_reducible refine ⟨?_, ?_⟩) <;> (try with_reducible intro hnil) <;> refine hJ _ _ ?_ <;> clear hJ J <;> simp only [ak, reduceIte] <;> try subst hnil)))))
    simp [z0, z0L]; exact hr _ (hK.set (by omega) _)
  rw [if_neg (by omega)] at hR
  have hr := hmk _ hR
  have h2' : ¬ (160 : Int) < E.length := by omega
  have zU := z0L_us V
  have zE := z0L_eds E
  (repeat' (first | refine awp_seq ?_ | refine awp_block ?_ | ((first | refine awp_skip ?_ | refine awp_exit ?_); simp only [ak, reduceIte]) | (refine awp_ret ?_; simp only [ak, reduceIte]; simp [f11, f12, h1, h1', h2, h2', f6, hG]) | (refine awp_cond ?_; simp [f11, f12, h1, h1', h2, h2', f6, hG]; (try with_reducible refine ⟨?_, ?_⟩) <;> (try with_reducible intro hc) <;> try (exfalso; omega)) | ((first | (refine w_e [] ?_; intro J hJ; simp only []) | (refine w_q ?_; intro J hJ) | refine e_go ?_); simp [f11, f12, h1, h1', h2, h2', f6, hG]; (repeat refine ca ?_); (try ((try with_reducible refine ⟨?_, ?_⟩) <;> (try with_reducible intro hnil) <;> refine hJ _ _ ?_ <;> clear hJ J <;> simp only [ak, reduceIte] <;> try subst hnil)))))
  simpa [z0, z0L, zU, zE] using hr _ (hK.set (by omega) _)

end Go.Proofs.Ytaiakdhcajibnaa.Aw

namespace Go.Proofs.Ytaiakdhcajibnaa.Aw
open Go Go.RowKit Go.Proofs.Ytaiakdhcajibnaa.Pl
set_option linter.unusedSimpArgs false
set_option linter.unusedVariables false

theorem ref_Chk (g : Gr) (st : St) : ACalls Try.prog 6 [.ag (grL g)] st fun r st' => r = i (chk g) ∧ Keeps st st' := by
  by_cases h1 : (64 : Int) < (g.vs.length : Int)
  · have : chk g = 6 := by unfold chk; rw [if_pos (by omega)]
    refine acalls_of_body tabOk Try.func6 rfl rfl Try.ntmps6 (rs := [.tmp 2]) rfl (by simp) ?_
    (repeat' (first | refine awp_seq ?_ | refine awp_block ?_ | ((first | refine awp_skip ?_ | refine awp_exit ?_); simp only [ak, reduceIte]) | (refine awp_ret ?_; simp only [ak, reduceIte]; simp [h1, this]) | (refine awp_cond ?_; simp [h1, this]; (try with_reducible refine ⟨?_, ?_⟩) <;> (try with_reducible intro hc) <;> try (exfalso; omega)) | ((first | (refine w_e [] ?_; intro J hJ; simp only []) | (refine w_q ?_; intro J hJ) | refine e_go ?_); simp [h1, this]; (repeat refine ca ?_); (try ((try with_reducible refine ⟨?_, ?_⟩) <;> (try with_reducible intro hnil) <;> refine hJ _ _ ?_ <;> clear hJ J <;> simp only [ak, reduceIte] <;> try subst hnil)))))
    exact Keeps.new _ _
  by_cases h2 : (160 : Int) < (g.es.length : Int)
  · have : chk g = 6 := by unfold chk; rw [if_pos (by omega)]
    refine acalls_of_body tabOk Try.func6 rfl rfl Try.ntmps6 (rs := [.tmp 2]) rfl (by simp) ?_
    (repeat' (first | refine awp_seq ?_ | refine awp_block ?_ | ((first | refine awp_skip ?_ | refine awp_exit ?_); simp only [ak, reduceIte]) | (refine awp_ret ?_; simp only [ak, reduceIte]; simp [h1, h2, this]) | (refine awp_cond ?_; simp [h1, h2, this]; (try with_reducible refine ⟨?_, ?_⟩) <;> (try with_reducible intro hc) <;> try (exfalso; omega)) | ((first | (refine w_e [] ?_; intro J hJ; simp only []) | (refine w_q ?_; intro J hJ) | refine e_go ?_); simp [h1, h2, this]; (repeat refine ca ?_); (try ((try with_reducible refine ⟨?_, ?_⟩) <;> (try with_reducible intro hnil) <;> refine hJ _ _ ?_ <;> clear hJ J <;> simp only [ak, reduceIte] <;> try subst hnil)))))
    exact Keeps.new _ _
  exact ref_Check g st (by omega) (by omega)

end Go.Proofs.Ytaiakdhcajibnaa.Aw

namespace Go.Proofs.Ytaiakdhcajibnaa.Aw
open Go Go.RowKit Go.Proofs.Ytaiakdhcajibnaa.Pl
set_option linter.unusedSimpArgs false
set_option linter.unusedVariables false

abbrev gsL (l : List Gr) : List LV := l.flatMap grL
theorem gs_drop (l : List Gr) (k : Nat) (hk : k < l.length) : (gsL l).drop (k * 2) = .sl 0 (l.getD k gr0).vs.length (us (l.getD k gr0).vs) :: .sl 0 (l.getD k gr0).es.length (eds (l.getD k gr0).es) :: gsL (l.drop (k + 1)) := by
  induction l generalizing k with
  | nil => simp at hk
  | cons e l ih =>
    cases k with
    | zero => rfl
    | succ k =>
      have : (k + 1) * 2 = k * 2 + 1 + 1 := by omega
      rw [this]
      simp only [gsL, List.flatMap_cons, grL, List.cons_append, List.drop_succ_cons, List.nil_append, List.getD_cons_succ]
      exact ih k (by simpa using hk)
/-- The three, in memory. -/
def At3 (a b c : Gr) (n : Nat) (st : St) : Prop := st.H n = .box 25 2 (grL a) ∧ st.H (n + 1) = .box 25 2 (grL b) ∧ st.H (n + 2) = .box 25 2 (grL c) ∧ n + 2 < st.next
theorem At3.keep {a b c : Gr} {n : Nat} {st st' : St} (h : At3 a b c n st) (k : Keeps st st') : At3 a b c n st' :=
  ⟨(k.H _ (by have := h.2.2.2; omega)).trans h.1, (k.H _ (by have := h.2.2.2; omega)).trans h.2.1, (k.H _ h.2.2.2).trans h.2.2.1, Nat.lt_of_lt_of_le h.2.2.2 k.next⟩
theorem UniR.small {a b c : Gr} (hb : GrF b) (hc : GrF c) {r : Un3} (h : UniR a b c r) : r.g.vs.length ≤ 1048576 ∧ r.g.es.length ≤ 1048576 := by
  obtain ⟨V, d, h1, h2, h3, h4⟩ := h
  rcases h4 with ⟨_, rfl⟩ | ⟨_, E, h6, h7, rfl⟩
  · simp
  · unfold uniV
    split
    · simp
    · split
      · simp
      · rename_i h
        simp only
        omega
def okG (g : Gr) : Prop := chk g = 0 ∧ g.es.length ≤ 60

set_option maxHeartbeats 2000000 in
theorem UnionTurns (a b c : Gr) (st : St) : ACalls Try.prog 4 [.ag (grL a), .ag (grL b), .ag (grL c)] st fun r st' => r = bb true := by
  refine acalls_of_body tabOk Try.func4 rfl rfl Try.ntmps4 (rs := [.tmp 6]) rfl (by simp) ?_
  (repeat' (first | refine awp_seq ?_ | refine awp_block ?_ | ((first | refine awp_skip ?_ | refine awp_exit ?_); simp only [ak, reduceIte]) | (refine awp_ret ?_; simp only [ak, reduceIte]; simp []) | (refine awp_cond ?_; simp []; (try with_reducible refine ⟨?_, ?_⟩) <;> (try with_reducible intro hc) <;> try (exfalso; omega)) | ((first | (refine w_e [] ?_; intro J hJ; simp only []) | (refine w_q ?_; intro J hJ) | refine e_go ?_); simp []; (repeat refine ca ?_); (try ((try with_reducible refine ⟨?_, ?_⟩) <;> (try with_reducible intro hnil) <;> refine hJ _ _ ?_ <;> clear hJ J <;> simp only [ak, reduceIte] <;> try subst hnil)))))
  refine callK_ofE (awake18 _) (by simp []) ?_; rintro r st' ⟨rfl, rfl⟩
  (repeat' (first | refine awp_seq ?_ | refine awp_block ?_ | ((first | refine awp_skip ?_ | refine awp_exit ?_); simp only [ak, reduceIte]) | (refine awp_ret ?_; simp only [ak, reduceIte]; simp []) | (refine awp_cond ?_; simp []; (try with_reducible refine ⟨?_, ?_⟩) <;> (try with_reducible intro hc) <;> try (exfalso; omega)) | ((first | (refine w_e [] ?_; intro J hJ; simp only []) | (refine w_q ?_; intro J hJ) | refine e_go ?_); simp []; (repeat refine ca ?_); (try ((try with_reducible refine ⟨?_, ?_⟩) <;> (try with_reducible intro hnil) <;> refine hJ _ _ ?_ <;> clear hJ J <;> simp only [ak, reduceIte] <;> try subst hnil)))))
  have hok : ∀ g : Gr, okG g → GrF g := fun g h => chk_full h.1
  refine awp_range 28 27 29 41 (3) (fun j fr st2 => fr 3 = .pt st.next 0 ∧ fr 4 = .pt (st.next + 1) 0 ∧ fr 5 = .pt (st.next + 2) 0 ∧ (∃ t, fr 26 = .sl t 3 (gsL [a, b, c])) ∧ At3 a b c st.next st2 ∧ ∀ k, k < j → okG ([a, b, c].getD k gr0)) ?_ ?_ ?_
  · exact ⟨by simp, by simp, by simp, ⟨_, by simp; rfl⟩, ⟨by simp, by simp, by simp, by simp⟩, fun k h => by omega⟩
  · rintro j fr s hlt ⟨f3, f4, f5, ⟨t, f26⟩, hA, hno⟩ fi fn JJ hJJ
    have hd := gs_drop [a, b, c] j (by simpa using hlt)
    have hgl : (gsL [a, b, c]).length = 6 := rfl
    have hj2 : j * 2 < 6 := by omega
    have hnx : okG ([a, b, c].getD j gr0) → ∀ k, k < j + 1 → okG ([a, b, c].getD k gr0) := fun h k hk => by
      rcases Nat.lt_or_ge k j with h1 | h1
      · exact hno k h1
      · obtain rfl : k = j := by omega
        exact h
    generalize [a, b, c].getD j gr0 = g at *
    generalize gsL [a, b, c] = G at *
    (repeat' (first | refine awp_seq ?_ | refine awp_block ?_ | ((first | refine awp_skip ?_ | refine awp_exit ?_); simp only [ak, reduceIte]) | (refine awp_ret ?_; simp only [ak, reduceIte]; simp [f26, fi, fn, hlt, hd, hgl, hj2]) | (refine awp_cond ?_; simp [f26, fi, fn, hlt, hd, hgl, hj2]; (try with_reducible refine ⟨?_, ?_⟩) <;> (try with_reducible intro hc) <;> try (exfalso; omega)) | ((first | (refine w_e [] ?_; intro J hJ; simp only []) | (refine w_q ?_; intro J hJ) | refine e_go ?_); simp [f26, fi, fn, hlt, hd, hgl, hj2]; (repeat refine ca ?_); (try ((try with_reducible refine ⟨?_, ?_⟩) <;> (try with_reducible intro hnil) <;> refine hJ _ _ ?_ <;> clear hJ J <;> simp only [ak, reduceIte] <;> try subst hnil)))))
    refine callK_ofE (ref_Chk g _) (by simp) ?_; rintro r s1 ⟨rfl, hk1⟩
    have hX1 := hk1.H s.next (by simp)
    simp only [new_H, if_true] at hX1
    by_cases hc : chk g = 0
    rotate_left
    · clear hJJ
      have hcb : (chk g != 0) = true := by simpa using hc
      generalize chk g = x at *
      (repeat' (first | refine awp_seq ?_ | refine awp_block ?_ | ((first | refine awp_skip ?_ | refine awp_exit ?_); simp only [ak, reduceIte]) | (refine awp_ret ?_; simp only [ak, reduceIte]; simp [hcb]) | (refine awp_cond ?_; simp [hcb]; (try with_reducible refine ⟨?_, ?_⟩) <;> (try with_reducible intro hc) <;> try (exfalso; omega)) | ((first | (refine w_e [] ?_; intro J hJ; simp only []) | (refine w_q ?_; intro J hJ) | refine e_go ?_); simp [hcb]; (repeat refine ca ?_); (try ((try with_reducible refine ⟨?_, ?_⟩) <;> (try with_reducible intro hnil) <;> refine hJ _ _ ?_ <;> clear hJ J <;> simp only [ak, reduceIte] <;> try subst hnil)))))
    by_cases h6 : g.es.length ≤ 60
    · have h6' : ¬ (60 : Int) < g.es.length := by omega
      have h6n : ¬ 60 < g.es.length := by omega
      have hn := hnx ⟨hc, h6⟩
      rw [hc]
      generalize g.es.length = n at *
      (repeat' (first | refine awp_seq ?_ | refine awp_block ?_ | ((first | refine awp_skip ?_ | refine awp_exit ?_); simp only [ak, reduceIte]) | (refine awp_ret ?_; simp only [ak, reduceIte]; simp [hX1, h6', h6n]) | (refine awp_cond ?_; simp [hX1, h6', h6n]; (try with_reducible refine ⟨?_, ?_⟩) <;> (try with_reducible intro hc) <;> try (exfalso; omega)) | ((first | (refine w_e [] ?_; intro J hJ; simp only []) | (refine w_q ?_; intro J hJ) | refine e_go ?_); simp [hX1, h6', h6n]; (repeat refine ca ?_); (try ((try with_reducible refine ⟨?_, ?_⟩) <;> (try with_reducible intro hnil) <;> refine hJ _ _ ?_ <;> clear hJ J <;> simp only [ak, reduceIte] <;> try subst hnil)))))
      exact hJJ _ _ (by simp [fi]) (by simp [fn]) ⟨by simp [f3], by simp [f4], by simp [f5], ⟨t, by simp [f26]⟩, (hA.keep (Keeps.new _ _)).keep hk1, hn⟩
    · clear hJJ
      have h6' : (60 : Int) < g.es.length := by omega
      have h6n : 60 < g.es.length := by omega
      rw [hc]
      generalize g.es.length = n at *
      (repeat' (first | refine awp_seq ?_ | refine awp_block ?_ | ((first | refine awp_skip ?_ | refine awp_exit ?_); simp only [ak, reduceIte]) | (refine awp_ret ?_; simp only [ak, reduceIte]; simp [hX1, h6', h6n]) | (refine awp_cond ?_; simp [hX1, h6', h6n]; (try with_reducible refine ⟨?_, ?_⟩) <;> (try with_reducible intro hc) <;> try (exfalso; omega)) | ((first | (refine w_e [] ?_; intro J hJ; simp only []) | (refine w_q ?_; intro J hJ) | refine e_go ?_); simp [hX1, h6', h6n]; (repeat refine ca ?_); (try ((try with_reducible refine ⟨?_, ?_⟩) <;> (try with_reducible intro hnil) <;> refine hJ _ _ ?_ <;> clear hJ J <;> simp only [ak, reduceIte] <;> try subst hnil)))))
  rintro fr s ⟨f3, f4, f5, -, hA, hno⟩
  have ga := hok a (hno 0 (by omega))
  have gb := hok b (hno 1 (by omega))
  have gc := hok c (hno 2 (by omega))
  clear hno hok
  have la : a.vs.length ≤ 10000 ∧ a.es.length ≤ 10000 := ⟨by have := ga.l1; omega, by have := ga.l2; omega⟩
  obtain ⟨A1, A2, A3, A4⟩ := hA
  have hA : At3 a b c st.next s := ⟨A1, A2, A3, A4⟩
  (repeat (refine awp_seq ?_))
  (refine w_e [] ?_; intro J hJ; simp only []; simp [f3, f4, A1, A2]; (repeat refine ca ?_); (try ((try with_reducible refine ⟨?_, ?_⟩) <;> (try with_reducible intro hnil) <;> refine hJ _ _ ?_ <;> clear hJ J <;> simp only [ak, reduceIte] <;> try subst hnil)))
  refine callK_ofE (uOf a b a _ la gb ga) (by simp) ?_; rintro r s1 ⟨⟨x1, rfl, hx1⟩, hk1⟩
  obtain rfl := hx1.unique (.ours ga gb)
  have hB := hA.keep hk1
  have hn1 := hk1.next
  (refine e_go ?_; simp []; (repeat refine ca ?_); (try ((try with_reducible refine ⟨?_, ?_⟩) <;> (try with_reducible intro hnil) <;> refine hJ _ _ ?_ <;> clear hJ J <;> simp only [ak, reduceIte] <;> try subst hnil)))
  refine awp_weak (fun fr s => (fr 3 = .pt st.next 0 ∧ fr 4 = .pt (st.next + 1) 0 ∧ fr 5 = .pt (st.next + 2) 0 ∧ fr 9 = .pt s1.next 0 ∧ fr 11 = i 0) ∧ At3 a b c st.next s ∧ s.H s1.next = .box 25 2 (grL b) ∧ s1.next < s.next) ⟨⟨by simp [f3], by simp [f4], by simp [f5], by simp, by simp⟩, ?_, by simp, by simp⟩ ?_
  · refine hB.keep ?_
    first | exact Keeps.new _ _ | exact (Keeps.new _ _).set (Nat.le_refl _) _
  have n1 : st.next ≠ s1.next ∧ st.next + 1 ≠ s1.next ∧ st.next + 2 ≠ s1.next := by omega
  clear f3 f4 f5 A1 A2 A3 A4 hA hB fr hk1
  generalize s1.next = m1 at *
  clear hn1 s1
  rintro fr s1 ⟨⟨f3, f4, f5, f9, f11⟩, hA, hM1, lM1⟩
  obtain ⟨A1, A2, A3, A4⟩ := hA
  have hA : At3 a b c st.next s1 := ⟨A1, A2, A3, A4⟩
  (repeat (refine awp_seq ?_))
  (refine w_e [] ?_; intro J hJ; simp only []; simp [f3, f5, A1, A3]; (repeat refine ca ?_); (try ((try with_reducible refine ⟨?_, ?_⟩) <;> (try with_reducible intro hnil) <;> refine hJ _ _ ?_ <;> clear hJ J <;> simp only [ak, reduceIte] <;> try subst hnil)))
  refine callK_ofE (uOf a a c _ la ga gc) (by simp) ?_; rintro r s2 ⟨⟨x1, rfl, hx1⟩, hk2⟩
  obtain rfl := hx1.unique ((UniR.ours ga gc).swap gc ga)
  have hB := hA.keep hk2
  have hM2 := (hk2.H _ lM1).trans hM1
  have hn2 := hk2.next
  (refine e_go ?_; simp []; (repeat refine ca ?_); (try ((try with_reducible refine ⟨?_, ?_⟩) <;> (try with_reducible intro hnil) <;> refine hJ _ _ ?_ <;> clear hJ J <;> simp only [ak, reduceIte] <;> try subst hnil)))
  refine awp_weak (fun fr s => (fr 3 = .pt st.next 0 ∧ fr 4 = .pt (st.next + 1) 0 ∧ fr 5 = .pt (st.next + 2) 0 ∧ fr 9 = .pt m1 0 ∧ fr 11 = i 0 ∧ fr 12 = .pt s2.next 0 ∧ fr 14 = i 0) ∧ At3 a b c st.next s ∧ (s.H m1 = .box 25 2 (grL b) ∧ m1 < s.next) ∧ s.H s2.next = .box 25 2 (grL c) ∧ s2.next < s.next) ⟨⟨by simp [f3], by simp [f4], by simp [f5], by simp [f9], by simp [f11], by simp, by simp⟩, ?_, ⟨?_, by simp; omega⟩, by simp, by simp⟩ ?_
  · refine hB.keep ?_
    first | exact Keeps.new _ _ | exact (Keeps.new _ _).set (Nat.le_refl _) _
  · have : m1 ≠ s2.next := by omega
    simp [this, hM2]
  have n2 : m1 < s2.next := by omega
  clear f3 f4 f5 f9 f11 A1 A2 A3 A4 hA hB fr hk2 hM1 hM2
  generalize s2.next = m2 at *
  clear hn2 s2 lM1 s1 n1 s
  rintro fr s2 ⟨⟨f3, f4, f5, f9, f11, f12, f14⟩, hA, ⟨hM1, lM1⟩, hM2, lM2⟩
  obtain ⟨A1, A2, A3, A4⟩ := hA
  have hA : At3 a b c st.next s2 := ⟨A1, A2, A3, A4⟩
  (repeat (refine awp_seq ?_))
  (refine w_e [] ?_; intro J hJ; simp only []; simp [f3, f4, f5, A1, A2, A3]; (repeat refine ca ?_); (try ((try with_reducible refine ⟨?_, ?_⟩) <;> (try with_reducible intro hnil) <;> refine hJ _ _ ?_ <;> clear hJ J <;> simp only [ak, reduceIte] <;> try subst hnil)))
  refine callK_ofE (uOf a b c _ la gb gc) (by simp) ?_; rintro r s3 ⟨⟨x, rfl, hx⟩, hk3⟩
  have hB := hA.keep hk3
  have hM13 := (hk3.H _ lM1).trans hM1
  have hM23 := (hk3.H _ lM2).trans hM2
  have hn3 := hk3.next
  obtain ⟨B1, B2, B3, B4⟩ := hB
  (refine e_go ?_; simp []; (repeat refine ca ?_); (try ((try with_reducible refine ⟨?_, ?_⟩) <;> (try with_reducible intro hnil) <;> refine hJ _ _ ?_ <;> clear hJ J <;> simp only [ak, reduceIte] <;> try subst hnil)))
  (repeat (refine awp_seq ?_))
  have c1 : st.next ≠ s3.next := by omega
  have c2 : st.next + 1 ≠ s3.next := by omega
  have c3 : st.next + 2 ≠ s3.next := by omega
  (refine w_e [] ?_; intro J hJ; simp only []; simp [f3, f4, f5, B1, B2, B3, c1, c2, c3]; (repeat refine ca ?_); (try ((try with_reducible refine ⟨?_, ?_⟩) <;> (try with_reducible intro hnil) <;> refine hJ _ _ ?_ <;> clear hJ J <;> simp only [ak, reduceIte] <;> try subst hnil)))
  refine callK_ofE (uOf a c b _ la gc gb) (by simp) ?_; rintro r s4 ⟨⟨y, rfl, hy⟩, hk4⟩
  obtain rfl := (hx.swap gb gc).unique hy
  have hn4 := hk4.next
  simp only [set_next, new_next] at hn4
  have hX4 := hk4.H s3.next (by simp)
  simp only [set_H, new_H, if_true] at hX4
  have c4 : m1 ≠ s3.next := by omega
  have c5 : m2 ≠ s3.next := by omega
  have hM14 := hk4.H m1 (by simp; omega)
  have hM24 := hk4.H m2 (by simp; omega)
  have hB24 := hk4.H (st.next + 1) (by simp; omega)
  have hB34 := hk4.H (st.next + 2) (by simp; omega)
  simp only [set_H, new_H, if_neg c4] at hM14
  simp only [set_H, new_H, if_neg c5] at hM24
  simp only [set_H, new_H, if_neg c2] at hB24
  simp only [set_H, new_H, if_neg c3] at hB34
  rw [hM13] at hM14
  rw [hM23] at hM24
  rw [B2] at hB24
  rw [B3] at hB34
  (refine e_go ?_; simp []; (repeat refine ca ?_); (try ((try with_reducible refine ⟨?_, ?_⟩) <;> (try with_reducible intro hnil) <;> refine hJ _ _ ?_ <;> clear hJ J <;> simp only [ak, reduceIte] <;> try subst hnil)))
  refine awp_weak (fun fr s => (fr 4 = .pt (st.next + 1) 0 ∧ fr 5 = .pt (st.next + 2) 0 ∧ fr 9 = .pt m1 0 ∧ fr 11 = i 0 ∧ fr 12 = .pt m2 0 ∧ fr 14 = i 0 ∧ fr 15 = .pt s3.next 0 ∧ fr 18 = .pt s4.next 0 ∧ fr 16 = u x.n ∧ fr 19 = u x.n ∧ fr 17 = i x.e ∧ fr 20 = i x.e) ∧ s = s4.new (.box 25 2 (grL x.g))) ⟨⟨by simp [f4], by simp [f5], by simp [f9], by simp [f11], by simp [f12], by simp [f14], by simp, by simp, by simp, by simp, by simp, by simp⟩, by simp⟩ ?_
  clear f3 f4 f5 f9 f11 f12 f14 fr
  rintro fr s5 ⟨⟨f4, f5, f9, f11, f12, f14, f15, f18, f16, f19, f17, f20⟩, rfl⟩
  have g1 := (Keeps.new s4 (.box 25 2 (grL x.g))).H m1 (by omega)
  have g2 := (Keeps.new s4 (.box 25 2 (grL x.g))).H m2 (by omega)
  have g3 := (Keeps.new s4 (.box 25 2 (grL x.g))).H (st.next + 1) (by omega)
  have g4 := (Keeps.new s4 (.box 25 2 (grL x.g))).H (st.next + 2) (by omega)
  have g5 := (Keeps.new s4 (.box 25 2 (grL x.g))).H s3.next (by omega)
  have g6 : (s4.new (.box 25 2 (grL x.g))).H s4.next = .box 25 2 (grL x.g) := by simp
  rw [hM14] at g1
  rw [hM24] at g2
  rw [hB24] at g3
  rw [hB34] at g4
  rw [hX4] at g5
  have l5 : s4.next < (s4.new (.box 25 2 (grL x.g))).next := by simp
  generalize s4.new (.box 25 2 (grL x.g)) = s5 at *
  have lgb := gb.l1
  have lgb2 := gb.l2
  have lgc := gc.l1
  have lgc2 := gc.l2
  have lxg : x.g.vs.length ≤ 1048576 ∧ x.g.es.length ≤ 1048576 := hx.small gb gc
  clear hM14 hM24 hB24 hB34 hX4 hk4 hx hy hA A1 A2 A3 hM1 hM2 hk3 hM13 hM23 B1 B2 B3
  (repeat (refine awp_seq ?_))
  (refine w_e [] ?_; intro J hJ; simp only []; simp [f4, f9, f11, f14, g1, g3]; (repeat refine ca ?_); (try ((try with_reducible refine ⟨?_, ?_⟩) <;> (try with_reducible intro hnil) <;> refine hJ _ _ ?_ <;> clear hJ J <;> simp only [ak, reduceIte] <;> try subst hnil)))
  refine callK_ofE (ref_SameG b b _ (by omega) (by omega)) (by simp) ?_; rintro r s6 ⟨rfl, hk6⟩
  have hn6 := hk6.next
  have i2 := (hk6.H m2 (by omega)).trans g2
  have i4 := (hk6.H (st.next + 2) (by omega)).trans g4
  have i5 := (hk6.H s3.next (by omega)).trans g5
  have i6 := (hk6.H s4.next (by omega)).trans g6
  rw [decide_eq_true (rfl : b = b)]
  (refine e_go ?_; simp [f5, f12, i2, i4]; (repeat refine ca ?_); (try ((try with_reducible refine ⟨?_, ?_⟩) <;> (try with_reducible intro hnil) <;> refine hJ _ _ ?_ <;> clear hJ J <;> simp only [ak, reduceIte] <;> try subst hnil)))
  refine callK_ofE (ref_SameG c c _ (by omega) (by omega)) (by simp) ?_; rintro r s7 ⟨rfl, hk7⟩
  have j5 := (hk7.H s3.next (by omega)).trans i5
  have j6 := (hk7.H s4.next (by omega)).trans i6
  rw [decide_eq_true (rfl : c = c)]
  (refine e_go ?_; simp [f15, f16, f17, f18, f19, f20, j5, j6]; (repeat refine ca ?_); (try ((try with_reducible refine ⟨?_, ?_⟩) <;> (try with_reducible intro hnil) <;> refine hJ _ _ ?_ <;> clear hJ J <;> simp only [ak, reduceIte] <;> try subst hnil)))
  refine callK_ofE (ref_SameG x.g x.g _ lxg.1 lxg.2) (by simp) ?_; rintro r s8 ⟨rfl, hk8⟩
  rw [decide_eq_true (rfl : x.g = x.g)]
  (repeat' (first | refine awp_seq ?_ | refine awp_block ?_ | ((first | refine awp_skip ?_ | refine awp_exit ?_); simp only [ak, reduceIte]) | (refine awp_ret ?_; simp only [ak, reduceIte]; simp []) | (refine awp_cond ?_; simp []; (try with_reducible refine ⟨?_, ?_⟩) <;> (try with_reducible intro hc) <;> try (exfalso; omega)) | ((first | (refine w_e [] ?_; intro J hJ; simp only []) | (refine w_q ?_; intro J hJ) | refine e_go ?_); simp []; (repeat refine ca ?_); (try ((try with_reducible refine ⟨?_, ?_⟩) <;> (try with_reducible intro hnil) <;> refine hJ _ _ ?_ <;> clear hJ J <;> simp only [ak, reduceIte] <;> try subst hnil)))))

theorem UnionTurns_shp (l0 l1 l2 : List LV) (st : St) (h0 : Shp tab 25 l0) (h1 : Shp tab 25 l1) (h2 : Shp tab 25 l2) : ACalls Try.prog 4 [argT tab 25 l0, argT tab 25 l1, argT tab 25 l2] st fun r st' => r = bb true := by
  obtain ⟨a, rfl, _⟩ := shp_gr h0
  obtain ⟨b, rfl, _⟩ := shp_gr h1
  obtain ⟨c, rfl, _⟩ := shp_gr h2
  exact UnionTurns a b c st

end Go.Proofs.Ytaiakdhcajibnaa.Aw
