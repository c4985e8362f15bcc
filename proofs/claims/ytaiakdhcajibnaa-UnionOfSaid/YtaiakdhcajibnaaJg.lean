/- What three graphs come to, the document's: hasEdge, Find, Make. What three graphs come to, the document's: Make. What three graphs come to: the document's answer. The law UnionOf. -/
import Derived.Test.YtaiakdhcajibnaaJf
namespace Go.Proofs.Ytaiakdhcajibnaa.Aw
open Go Go.RowKit Go.Proofs.Ytaiakdhcajibnaa.Pl
set_option linter.unusedSimpArgs false
set_option linter.unusedVariables false

/-! ### a thing laid into a row, on the way -/
section
variable {α : Type} (f : α → Int)
def flg (d0 : Bool) (v : α) (l : List α) : Bool := d0 || l.any fun x => decide (f v < f x)
def outI (d0 : Bool) (v : α) (l : List α) : List α := if d0 then l else if l.any fun x => decide (f v < f x) then ins1 f v l else l
theorem ins1_none (v : α) : ∀ (l : List α), (l.any fun x => decide (f v < f x)) = false → ins1 f v l = l ++ [v]
  | [], _ => rfl
  | y :: t, h => by
    simp only [List.any_cons, Bool.or_eq_false_iff, decide_eq_false_iff_not] at h
    unfold ins1
    rw [if_neg h.1, ins1_none v t h.2]; rfl
theorem ins1_some (v x : α) : ∀ (l : List α), (l.any fun x => decide (f v < f x)) = true → ins1 f v (l ++ [x]) = ins1 f v l ++ [x]
  | [], h => by simp at h
  | y :: t, h => by
    simp only [List.any_cons, Bool.or_eq_true, decide_eq_true_eq] at h
    rw [List.cons_append]
    unfold ins1
    by_cases h1 : f v < f y
    · rw [if_pos h1, if_pos h1]; rfl
    · rw [if_neg h1, if_neg h1, ins1_some v x t (h.resolve_left h1)]; rfl
theorem ins1_new (v x : α) : ∀ (l : List α), (l.any fun x => decide (f v < f x)) = false → f v < f x → ins1 f v (l ++ [x]) = l ++ [v] ++ [x]
  | [], _, hx => by simp [ins1, hx]
  | y :: t, h, hx => by
    simp only [List.any_cons, Bool.or_eq_false_iff, decide_eq_false_iff_not] at h
    rw [List.cons_append]
    unfold ins1
    rw [if_neg h.1, ins1_new v x t h.2 hx]; rfl
theorem flg_snoc (d0 : Bool) (v x : α) (l : List α) : flg f d0 v (l ++ [x]) = (flg f d0 v l || decide (f v < f x)) := by
  unfold flg
  rw [List.any_append]
  cases d0 <;> simp
theorem outI_new (d0 : Bool) (v x : α) (l : List α) (h : flg f d0 v l = false) (hx : f v < f x) : outI f d0 v (l ++ [x]) = outI f d0 v l ++ [v] ++ [x] := by
  unfold flg at h
  simp only [Bool.or_eq_false_iff] at h
  obtain ⟨rfl, h⟩ := h
  have h2 : ((l ++ [x]).any fun x => decide (f v < f x)) = true := by rw [List.any_append]; simp [hx]
  unfold outI
  rw [h, h2, ins1_new f v x l h hx]
  rfl
theorem outI_same (d0 : Bool) (v x : α) (l : List α) (h : flg f d0 v l = true ∨ ¬ f v < f x) : outI f d0 v (l ++ [x]) = outI f d0 v l ++ [x] := by
  unfold outI
  cases d0 with
  | true => rfl
  | false =>
    unfold flg at h
    rw [Bool.false_or] at h
    by_cases h1 : (l.any fun x => decide (f v < f x)) = true
    · have h2 : ((l ++ [x]).any fun x => decide (f v < f x)) = true := by rw [List.any_append, h1]; rfl
      rw [h1, h2, ins1_some f v x l h1]; rfl
    · have hx := h.resolve_left h1
      have h1' : (l.any fun x => decide (f v < f x)) = false := by simpa using h1
      have h2 : ((l ++ [x]).any fun x => decide (f v < f x)) = false := by rw [List.any_append, h1']; simpa using hx
      rw [h1', h2]; rfl
theorem outI_end (d0 : Bool) (v : α) (l : List α) (hd : d0 = l.any fun x => decide (f x = f v)) : insU f v l = if flg f d0 v l then outI f d0 v l else outI f d0 v l ++ [v] := by
  unfold insU flg outI
  rw [← hd]
  cases d0 with
  | true => rfl
  | false =>
    cases h1 : (l.any fun x => decide (f v < f x)) with
    | true => rfl
    | false => rw [ins1_none f v l h1]; rfl
theorem outI_len (d0 : Bool) (v : α) (l : List α) : (outI f d0 v l).length ≤ l.length + 1 := by
  unfold outI
  split
  · omega
  · split
    · rw [ins1_len]; omega
    · omega
theorem insAll_len (l : List α) : (insAll f l).length ≤ l.length := by
  unfold insAll
  have : ∀ (l c : List α), (l.foldl (fun c v => insU f v c) c).length ≤ c.length + l.length := by
    intro l
    induction l with
    | nil => exact fun c => by simp
    | cons y l ih =>
      intro c
      have h1 := ih (insU f y c)
      have h2 : (insU f y c).length ≤ c.length + 1 := by
        unfold insU
        split
        · omega
        · rw [ins1_len]; omega
      rw [List.foldl_cons, List.length_cons]; omega
  have := this l []
  simpa using this
end
theorem insAll_nil {α : Type} (f : α → Int) : insAll f ([] : List α) = [] := rfl

theorem hasEdge (l : List Ed) (t : Nat) (x : Ed) (st : St) (hl : l.length ≤ 100000) :
    ACalls Try.prog 22 [.sl t l.length (eds l), .ag (edL x)] st fun r st' => r = bb (decide (x ∈ l)) ∧ Keeps st st' := by
  have hel := eds_length l
  refine acalls_of_body tabOk Try.func22 rfl rfl Try.ntmps22 (rs := [.tmp 4]) rfl (by simp) ?_
  (repeat' (first | refine awp_seq ?_ | refine awp_block ?_ | ((first | refine awp_skip ?_ | refine awp_exit ?_); simp only [ak, reduceIte]) | (refine awp_ret ?_; simp only [ak, reduceIte]; simp []) | (refine awp_cond ?_; simp []; (try with_reducible refine ⟨?_, ?_⟩) <;> (try with_reducible intro hc) <;> try (exfalso; omega)) | ((first | (refine w_e [] ?_; intro J hJ; simp only []) | (refine w_q ?_; intro J hJ) | refine e_go ?_); simp []; (repeat refine ca ?_); (try ((try with_reducible refine ⟨?_, ?_⟩) <;> (try with_reducible intro hnil) <;> refine hJ _ _ ?_ <;> clear hJ J <;> simp only [ak, reduceIte] <;> try subst hnil)))))
  refine awp_range 9 8 10 16 (l.length) (fun j fr st2 => fr 3 = .pt st.next 0 ∧ fr 7 = .sl t l.length (eds l) ∧ st2.H st.next = .box 40 3 (edL x) ∧ st.next < st2.next ∧ Keeps st st2 ∧ x ∉ l.take j) ?_ ?_ ?_
  · exact ⟨by simp, by simp, by simp, by simp, Keeps.new _ _, by simp⟩
  · rintro j fr s hlt ⟨f3, f7, hX, hn, hk, hno⟩ fi fn JJ hJJ
    have hd := eds_drop l j hlt
    have hk3 : j * 3 < l.length * 3 := by omega
    have htk := tk_at l j hlt
    have hin : l.getD j ed0 ∈ l := by rw [getDE l j hlt]; exact List.getElem_mem _
    generalize l.getD j ed0 = y at *
    have c1 : ¬ st.next = s.next := by omega
    have hnx : ¬ y = x → x ∉ l.take (j + 1) := fun h => by rw [htk, List.mem_append, List.mem_singleton]; rintro (h1 | h1); exact hno h1; exact h h1.symm
    have hm : y = x → decide (x ∈ l) = true := fun h => decide_eq_true (h ▸ hin)
    generalize decide (x ∈ l) = D at *
    obtain ⟨x1, x2, x3⟩ := x
    obtain ⟨y1, y2, y3⟩ := y
    simp only at hd
    by_cases hxy : ([y1, y2, y3] == [x1, x2, x3]) = true
    · have hxy' : ([y1, y2, y3] : List Int) = [x1, x2, x3] := by simpa using hxy
      injection hxy' with e1 e2; injection e2 with e2 e3; injection e3 with e3 _
      subst e1 e2 e3
      have hm := hm rfl
      subst hm
      (repeat' (first | refine awp_seq ?_ | refine awp_block ?_ | ((first | refine awp_skip ?_ | refine awp_exit ?_); simp only [ak, reduceIte]) | (refine awp_ret ?_; simp only [ak, reduceIte]; simp [f3, f7, fi, fn, hd, hel, hk3, hlt, hX, c1]) | (refine awp_cond ?_; simp [f3, f7, fi, fn, hd, hel, hk3, hlt, hX, c1]; (try with_reducible refine ⟨?_, ?_⟩) <;> (try with_reducible intro hc) <;> try (exfalso; omega)) | ((first | (refine w_e [] ?_; intro J hJ; simp only []) | (refine w_q ?_; intro J hJ) | refine e_go ?_); simp [f3, f7, fi, fn, hd, hel, hk3, hlt, hX, c1]; (repeat refine ca ?_); (try ((try with_reducible refine ⟨?_, ?_⟩) <;> (try with_reducible intro hnil) <;> refine hJ _ _ ?_ <;> clear hJ J <;> simp only [ak, reduceIte] <;> try subst hnil)))))
      exact hk.trans (Keeps.new _ _)
    · have hxyf : ([y1, y2, y3] == [x1, x2, x3]) = false := by simpa using hxy
      have hne : ¬ (⟨y1, y2, y3⟩ : Ed) = ⟨x1, x2, x3⟩ := fun h => by injection h with e1 e2 e3; subst e1 e2 e3; simp at hxyf
      (repeat' (first | refine awp_seq ?_ | refine awp_block ?_ | ((first | refine awp_skip ?_ | refine awp_exit ?_); simp only [ak, reduceIte]) | (refine awp_ret ?_; simp only [ak, reduceIte]; simp [f3, f7, fi, fn, hd, hel, hk3, hlt, hX, c1, hxyf]) | (refine awp_cond ?_; simp [f3, f7, fi, fn, hd, hel, hk3, hlt, hX, c1, hxyf]; (try with_reducible refine ⟨?_, ?_⟩) <;> (try with_reducible intro hc) <;> try (exfalso; omega)) | ((first | (refine w_e [] ?_; intro J hJ; simp only []) | (refine w_q ?_; intro J hJ) | refine e_go ?_); simp [f3, f7, fi, fn, hd, hel, hk3, hlt, hX, c1, hxyf]; (repeat refine ca ?_); (try ((try with_reducible refine ⟨?_, ?_⟩) <;> (try with_reducible intro hnil) <;> refine hJ _ _ ?_ <;> clear hJ J <;> simp only [ak, reduceIte] <;> try subst hnil)))))
      exact hJJ _ _ (by simp [fi]) (by simp [fn]) ⟨by simp [f3], by simp [f7], by simp [c1, hX], by simp; omega, hk.trans (Keeps.new _ _), hnx hne⟩
  · rintro fr s ⟨f3, f7, hX, hn, hk, hno⟩
    rw [List.take_length] at hno
    have hm : decide (x ∈ l) = false := decide_eq_false hno
    rw [hm]
    (repeat' (first | refine awp_seq ?_ | refine awp_block ?_ | ((first | refine awp_skip ?_ | refine awp_exit ?_); simp only [ak, reduceIte]) | (refine awp_ret ?_; simp only [ak, reduceIte]; simp []) | (refine awp_cond ?_; simp []; (try with_reducible refine ⟨?_, ?_⟩) <;> (try with_reducible intro hc) <;> try (exfalso; omega)) | ((first | (refine w_e [] ?_; intro J hJ; simp only []) | (refine w_q ?_; intro J hJ) | refine e_go ?_); simp []; (repeat refine ca ?_); (try ((try with_reducible refine ⟨?_, ?_⟩) <;> (try with_reducible intro hnil) <;> refine hJ _ _ ?_ <;> clear hJ J <;> simp only [ak, reduceIte] <;> try subst hnil)))))
    exact hk

theorem rFind (g : Gr) (id : Int) (st : St) (he : g.es.length ≤ 100000) :
    ACalls Try.prog 32 [.ag (grL g), u id] st fun r st' => (∃ k : Int, r = i k ∧ decide (0 ≤ k) = g.es.any fun x => decide (x.id = id)) ∧ Keeps st st' := by
  obtain ⟨vs, l⟩ := g
  simp only at he ⊢
  have hel := eds_length l
  refine acalls_of_body tabOk Try.func32 rfl rfl Try.ntmps32 (rs := [.tmp 4]) rfl (by simp) ?_
  (repeat' (first | refine awp_seq ?_ | refine awp_block ?_ | ((first | refine awp_skip ?_ | refine awp_exit ?_); simp only [ak, reduceIte]) | (refine awp_ret ?_; simp only [ak, reduceIte]; simp []) | (refine awp_cond ?_; simp []; (try with_reducible refine ⟨?_, ?_⟩) <;> (try with_reducible intro hc) <;> try (exfalso; omega)) | ((first | (refine w_e [] ?_; intro J hJ; simp only []) | (refine w_q ?_; intro J hJ) | refine e_go ?_); simp []; (repeat refine ca ?_); (try ((try with_reducible refine ⟨?_, ?_⟩) <;> (try with_reducible intro hnil) <;> refine hJ _ _ ?_ <;> clear hJ J <;> simp only [ak, reduceIte] <;> try subst hnil)))))
  refine awp_range 10 9 11 20 (l.length) (fun j fr st2 => fr 1 = u id ∧ fr 8 = .sl 0 l.length (eds l) ∧ Keeps st st2 ∧ (∀ x ∈ l.take j, x.id ≠ id)) ?_ ?_ ?_
  · exact ⟨by simp, by simp, Keeps.new _ _, by simp⟩
  · rintro j fr s hlt ⟨f1, f8, hk, hno⟩ fi fn JJ hJJ
    have hd := eds_drop l j hlt
    have hk3 : j * 3 < l.length * 3 := by omega
    have htk := tk_at l j hlt
    have hin : l.getD j ed0 ∈ l := by rw [getDE l j hlt]; exact List.getElem_mem _
    have hso : (l.getD j ed0).id = id → (l.any fun x => decide (x.id = id)) = true := fun h => List.any_eq_true.2 ⟨_, hin, by simpa using h⟩
    generalize l.getD j ed0 = x at *
    have hnx : x.id ≠ id → ∀ y ∈ l.take (j + 1), y.id ≠ id := fun h y hy => by
      rw [htk, List.mem_append, List.mem_singleton] at hy
      rcases hy with h1 | rfl
      · exact hno y h1
      · exact h
    obtain ⟨d, a, b⟩ := x
    simp only at hd hso hnx
    by_cases hdi : d = id
    · have hr := hso hdi
      (repeat' (first | refine awp_seq ?_ | refine awp_block ?_ | ((first | refine awp_skip ?_ | refine awp_exit ?_); simp only [ak, reduceIte]) | (refine awp_ret ?_; simp only [ak, reduceIte]; simp [f1, f8, fi, fn, hlt, hd, hel, hk3, hdi]) | (refine awp_cond ?_; simp [f1, f8, fi, fn, hlt, hd, hel, hk3, hdi]; (try with_reducible refine ⟨?_, ?_⟩) <;> (try with_reducible intro hc) <;> try (exfalso; omega)) | ((first | (refine w_e [] ?_; intro J hJ; simp only []) | (refine w_q ?_; intro J hJ) | refine e_go ?_); simp [f1, f8, fi, fn, hlt, hd, hel, hk3, hdi]; (repeat refine ca ?_); (try ((try with_reducible refine ⟨?_, ?_⟩) <;> (try with_reducible intro hnil) <;> refine hJ _ _ ?_ <;> clear hJ J <;> simp only [ak, reduceIte] <;> try subst hnil)))))
      refine ⟨?_, hk.trans (Keeps.new _ _)⟩
      first | exact hr | (simpa using hr) | skip
    · (repeat' (first | refine awp_seq ?_ | refine awp_block ?_ | ((first | refine awp_skip ?_ | refine awp_exit ?_); simp only [ak, reduceIte]) | (refine awp_ret ?_; simp only [ak, reduceIte]; simp [f1, f8, fi, fn, hlt, hd, hel, hk3, hdi]) | (refine awp_cond ?_; simp [f1, f8, fi, fn, hlt, hd, hel, hk3, hdi]; (try with_reducible refine ⟨?_, ?_⟩) <;> (try with_reducible intro hc) <;> try (exfalso; omega)) | ((first | (refine w_e [] ?_; intro J hJ; simp only []) | (refine w_q ?_; intro J hJ) | refine e_go ?_); simp [f1, f8, fi, fn, hlt, hd, hel, hk3, hdi]; (repeat refine ca ?_); (try ((try with_reducible refine ⟨?_, ?_⟩) <;> (try with_reducible intro hnil) <;> refine hJ _ _ ?_ <;> clear hJ J <;> simp only [ak, reduceIte] <;> try subst hnil)))))
      exact hJJ _ _ (by simp [fi]) (by simp [fn]) ⟨by simp [f1], by simp [f8], hk.trans (Keeps.new _ _), hnx hdi⟩
  · rintro fr s ⟨f1, f8, hk, hno⟩
    rw [List.take_length] at hno
    have hr : (l.any fun x => decide (x.id = id)) = false := by
      rw [List.any_eq_false]
      intro x hx
      simpa using hno x hx
    (repeat' (first | refine awp_seq ?_ | refine awp_block ?_ | ((first | refine awp_skip ?_ | refine awp_exit ?_); simp only [ak, reduceIte]) | (refine awp_ret ?_; simp only [ak, reduceIte]; simp []) | (refine awp_cond ?_; simp []; (try with_reducible refine ⟨?_, ?_⟩) <;> (try with_reducible intro hc) <;> try (exfalso; omega)) | ((first | (refine w_e [] ?_; intro J hJ; simp only []) | (refine w_q ?_; intro J hJ) | refine e_go ?_); simp []; (repeat refine ca ?_); (try ((try with_reducible refine ⟨?_, ?_⟩) <;> (try with_reducible intro hnil) <;> refine hJ _ _ ?_ <;> clear hJ J <;> simp only [ak, reduceIte] <;> try subst hnil)))))
    refine ⟨?_, hk⟩
    first | exact hr | (simpa using hr) | skip

end Go.Proofs.Ytaiakdhcajibnaa.Aw

namespace Go.Proofs.Ytaiakdhcajibnaa.Aw
open Go Go.RowKit Go.Proofs.Ytaiakdhcajibnaa.Pl
set_option linter.unusedSimpArgs false
set_option linter.unusedVariables false

abbrev idI : Int → Int := fun n => n
abbrev idE : Ed → Int := fun x => x.id
theorem mem_any (l : List Int) (v : Int) : decide (v ∈ l) = l.any fun x => decide (idI x = idI v) := by
  by_cases h : v ∈ l
  · rw [decide_eq_true h]
    exact (List.any_eq_true.2 ⟨v, h, by simp⟩).symm
  · rw [decide_eq_false h]
    refine (List.any_eq_false.2 fun x hx => ?_).symm
    simp only [decide_eq_true_eq]
    rintro rfl; exact h hx
theorem tkI_at (l : List Int) (t : Nat) (h : t < l.length) : l.take (t + 1) = l.take t ++ [l.getD t 0] := by
  rw [List.getD_eq_getElem?_getD, List.getElem?_eq_getElem h]
  exact List.take_succ_eq_append_getElem h
theorem insV_take (l : List Int) (k : Nat) (hk : k < l.length) : insAll idI (l.take (k + 1)) = insU idI (l.getD k 0) (insAll idI (l.take k)) := by
  rw [insAll_take idI l k hk, List.getD_eq_getElem?_getD, List.getElem?_eq_getElem hk]; rfl
theorem insE_take (l : List Ed) (k : Nat) (hk : k < l.length) : insAll idE (l.take (k + 1)) = insU idE (l.getD k ed0) (insAll idE (l.take k)) := by
  rw [insAll_take idE l k hk, getDE l k hk]
/-- The graph under way. -/
structure MkS (st s : St) (x y : LV) : Prop where
  z : s.H st.next = bzG
  b : s.H (st.next + 1) = .box 25 2 [x, y]
  lt : st.next + 1 < s.next
  k : Keeps st s
section
variable {st s : St} {x y : LV}
theorem MkS.new (h : MkS st s x y) (o : LObj) : MkS st (s.new o) x y :=
  ⟨by have := h.lt; rw [new_H, if_neg (by omega)]; exact h.z, by have := h.lt; rw [new_H, if_neg (by omega)]; exact h.b, by have := h.lt; rw [new_next]; omega, h.k.trans (Keeps.new _ _)⟩
theorem MkS.set (h : MkS st s x y) {t : Nat} (ht : st.next + 1 < t) (o : LObj) : MkS st (s.set t o) x y :=
  ⟨by rw [set_H, if_neg (by omega)]; exact h.z, by rw [set_H, if_neg (by omega)]; exact h.b, h.lt, h.k.set (by omega) _⟩
theorem MkS.keeps {s' : St} (h : MkS st s x y) (k : Keeps s s') : MkS st s' x y :=
  ⟨(k.H _ (by have := h.lt; omega)).trans h.z, (k.H _ h.lt).trans h.b, Nat.lt_of_lt_of_le h.lt k.next, h.k.trans k⟩
theorem MkS.put (h : MkS st s x y) (x' y' : LV) : MkS st (s.set (st.next + 1) (.box 25 2 [x', y'])) x' y' :=
  ⟨by rw [set_H, if_neg (by omega)]; exact h.z, by rw [set_H, if_pos rfl], h.lt, h.k.set (by omega) _⟩
end
def RowV (st s : St) (o : LV) (l : List Int) : Prop := ∃ t, o = .sl t l.length (us l) ∧ (t ≠ 0 ∧ st.next + 1 < t ∧ t < s.next) ∧ s.H t = .own 29 1 l.length
def RowG (st s : St) (o : LV) (l : List Ed) : Prop := ∃ t, o = .sl t l.length (eds l) ∧ (t ≠ 0 ∧ st.next + 1 < t ∧ t < s.next) ∧ s.H t = .own 40 3 l.length
def MakeP (vs : List Int) (es : List Ed) (st : St) (r : LV) (st' : St) : Prop := r = .ag (grL ⟨insAll idI vs, insAll idE es⟩) ∧ Keeps st st'
def MkV (es : List Ed) (te : Nat) (st : St) (fr : Frm) (s : St) (V : List Int) : Prop := fr 1 = .sl te es.length (eds es) ∧ fr 4 = .pt st.next 0 ∧ fr 5 = .pt (st.next + 1) 0 ∧ ∃ t1 t2, MkS st s (.sl t1 V.length (us V)) (.sl t2 0 [])
def MkE (V : List Int) (st : St) (fr : Frm) (s : St) (E : List Ed) : Prop := fr 4 = .pt st.next 0 ∧ fr 5 = .pt (st.next + 1) 0 ∧ ∃ t1 t2, MkS st s (.sl t1 V.length (us V)) (.sl t2 E.length (eds E))

set_option maxHeartbeats 2000000 in
theorem Make (vs : List Int) (es : List Ed) (tv te : Nat) (st : St) (hvs : vs.length ≤ 10000) (hes : es.length ≤ 10000) :
    ACalls Try.prog 23 [.sl tv vs.length (us vs), .sl te es.length (eds es)] st (MakeP vs es st) := by
  have hle := eds_length es
  refine acalls_z0 ?_
  refine acalls_of_body tabOk Try.func23 rfl rfl Try.ntmps23 (rs := [.cell 4 25]) rfl (by simp) ?_
  (repeat' (first | refine awp_seq ?_ | refine awp_block ?_ | ((first | refine awp_skip ?_ | refine awp_exit ?_); simp only [ak, reduceIte]) | (refine awp_ret ?_; simp only [ak, reduceIte]; simp []) | (refine awp_cond ?_; simp []; (try with_reducible refine ⟨?_, ?_⟩) <;> (try with_reducible intro hc) <;> try (exfalso; omega)) | ((first | (refine w_e [] ?_; intro J hJ; simp only []) | (refine w_q ?_; intro J hJ) | refine e_go ?_); simp []; (repeat refine ca ?_); (try ((try with_reducible refine ⟨?_, ?_⟩) <;> (try with_reducible intro hnil) <;> refine hJ _ _ ?_ <;> clear hJ J <;> simp only [ak, reduceIte] <;> try subst hnil)))))
  refine awp_cell (e := 25) (s := 2) (st.next + 1) 29 1 [] [.nil] (by simp) ?_
  refine awp_cell (e := 25) (s := 2) (st.next + 1) 40 3 [.sl (st.next + 1 + 1) 0 []] [] (by simp) ?_
  refine awp_range 20 19 21 58 (vs.length) (fun j fr st2 => fr 18 = .sl tv vs.length (us vs) ∧ MkV es te st fr st2 (insAll idI (vs.take j))) ?_ ?_ ?_
  · refine ⟨by simp, by simp, by simp, by simp, st.next + 1 + 1, st.next + 1 + 1 + 1, ?_, ?_, ?_, ?_⟩
    · simp
    · simp [insAll]
    · simp
    · exact ((((Keeps.new _ _).trans (Keeps.new _ _)).trans (Keeps.new _ _)).set (by omega) _ |>.trans (Keeps.new _ _)).set (by omega) _
  · rintro q fr s hlt ⟨f18, f1, f4, f5, t1, t2, hM⟩ fi fn JJ hJJ
    have hd := us_drop_getD vs q hlt
    have htk := insV_take vs q hlt
    have hl := insAll_len idI (vs.take q)
    rw [List.length_take] at hl
    generalize vs.getD q 0 = v at *
    generalize insAll idI (vs.take q) = l at *
    have hB := hM.b
    (repeat' (first | refine awp_seq ?_ | refine awp_block ?_ | ((first | refine awp_skip ?_ | refine awp_exit ?_); simp only [ak, reduceIte]) | (refine awp_ret ?_; simp only [ak, reduceIte]; simp [f1, f5, f18, fi, fn, hlt, hd, hB]) | (refine awp_cond ?_; simp [f1, f5, f18, fi, fn, hlt, hd, hB]; (try with_reducible refine ⟨?_, ?_⟩) <;> (try with_reducible intro hc) <;> try (exfalso; omega)) | ((first | (refine w_e [] ?_; intro J hJ; simp only []) | (refine w_q ?_; intro J hJ) | refine e_go ?_); simp [f1, f5, f18, fi, fn, hlt, hd, hB]; (repeat refine ca ?_); (try ((try with_reducible refine ⟨?_, ?_⟩) <;> (try with_reducible intro hnil) <;> refine hJ _ _ ?_ <;> clear hJ J <;> simp only [ak, reduceIte] <;> try subst hnil)))))
    refine callK_of0 (Has ⟨l, []⟩ v s (by unfold small; simp only; omega)) (by simp [z0, z0L, z0L_us]) ?_; rintro r s1 ⟨rfl, hk1⟩
    have hM1 := hM.keeps hk1
    have hB1 := hM1.b
    simp only at *
    have hend := outI_end idI (decide (v ∈ l)) v l (mem_any l v)
    have hol := outI_len idI (decide (v ∈ l)) v
    generalize decide (v ∈ l) = d0 at *
    (repeat' (first | refine awp_seq ?_ | refine awp_block ?_ | ((first | refine awp_skip ?_ | refine awp_exit ?_); simp only [ak, reduceIte]) | (refine awp_ret ?_; simp only [ak, reduceIte]; simp [f5, hB1]) | (refine awp_cond ?_; simp [f5, hB1]; (try with_reducible refine ⟨?_, ?_⟩) <;> (try with_reducible intro hc) <;> try (exfalso; omega)) | ((first | (refine w_e [] ?_; intro J hJ; simp only []) | (refine w_q ?_; intro J hJ) | refine e_go ?_); simp [f5, hB1]; (repeat refine ca ?_); (try ((try with_reducible refine ⟨?_, ?_⟩) <;> (try with_reducible intro hnil) <;> refine hJ _ _ ?_ <;> clear hJ J <;> simp only [ak, reduceIte] <;> try subst hnil)))))
    refine awp_own 8 29 1 (by simp) ?_
    have hM2 := hM1.new (.own 29 1 0)
    refine awp_range 30 29 31 49 (l.length) (fun j fr st2 => (fr 1 = .sl te es.length (eds es) ∧ fr 4 = .pt st.next 0 ∧ fr 5 = .pt (st.next + 1) 0 ∧ fr 18 = .sl tv vs.length (us vs) ∧ fr 19 = i vs.length ∧ fr 20 = i q ∧ fr 7 = u v ∧ fr 28 = .sl t1 l.length (us l)) ∧ MkS st st2 (.sl t1 l.length (us l)) (.sl t2 0 []) ∧ fr 9 = bb (flg idI d0 v (l.take j)) ∧ RowV st st2 (fr 8) (outI idI d0 v (l.take j))) ?_ ?_ ?_
    · refine ⟨⟨by simp [f1], by simp [f4], by simp [f5], by simp [f18], by simp [fn], by simp [fi], by simp, by simp⟩, hM2, by simp [flg], s1.next, ?_, ⟨by have := hM1.lt; omega, by have := hM1.lt; omega, by simp⟩, ?_⟩
      · unfold outI; cases d0 <;> simp
      · unfold outI; cases d0 <;> simp
    · clear f1 f4 f5 f18 fi fn hM hM1 hM2 hB hB1
      rintro j fr s2 hltj ⟨⟨f1, f4, f5, f18, f19, f20, f7, f28⟩, hM, f9, t, f8, ⟨t0, tl, tn⟩, htH⟩ fi fn J2 hJ2
      have hdx := us_drop_getD l j hltj
      have htx := tkI_at l j hltj
      have hol1 := hol (l.take j)
      rw [List.length_take] at hol1
      generalize l.getD j 0 = x at *
      have hF := flg_snoc idI d0 v x (l.take j)
      have hO1 := outI_new idI d0 v x (l.take j)
      have hO2 := outI_same idI d0 v x (l.take j)
      rw [← htx] at hF hO1 hO2
      have m1 : ¬ t = s2.next := by omega
      generalize flg idI d0 v (l.take j) = F at *
      generalize outI idI d0 v (l.take j) = O at *
      by_cases hvx : v < x
      · cases F with
        | false =>
          have hO := hO1 rfl hvx
          have hF' : flg idI d0 v (l.take (j + 1)) = true := by rw [hF]; simp [hvx]
          (repeat' (first | refine awp_seq ?_ | refine awp_block ?_ | ((first | refine awp_skip ?_ | refine awp_exit ?_); simp only [ak, reduceIte]) | (refine awp_ret ?_; simp only [ak, reduceIte]; simp [f7, f8, f9, f28, fi, fn, hltj, hdx, hvx, htH, t0, m1]) | (refine awp_cond ?_; simp [f7, f8, f9, f28, fi, fn, hltj, hdx, hvx, htH, t0, m1]; (try with_reducible refine ⟨?_, ?_⟩) <;> (try with_reducible intro hc) <;> try (exfalso; omega)) | ((first | (refine w_e [] ?_; intro J hJ; simp only []) | (refine w_q ?_; intro J hJ) | refine e_go ?_); simp [f7, f8, f9, f28, fi, fn, hltj, hdx, hvx, htH, t0, m1]; (repeat refine ca ?_); (try ((try with_reducible refine ⟨?_, ?_⟩) <;> (try with_reducible intro hnil) <;> refine hJ _ _ ?_ <;> clear hJ J <;> simp only [ak, reduceIte] <;> try subst hnil)))))
          refine hJ2 _ _ (by simp [fi]) (by simp [fn]) ⟨⟨by simp [f1], by simp [f4], by simp [f5], by simp [f18], by simp [f19], by simp [f20], by simp [f7], by simp [f28]⟩, ?_, by rw [hF']; simp, s2.next + 1 + 1 + 1, by rw [hO]; simp, ⟨by omega, by omega, by simp⟩, by rw [hO]; simp⟩
          exact (((((hM.new _).set tl _).new _).new _).set (by omega) _).new _
        | true =>
          have hO := hO2 (.inl rfl)
          have hF' : flg idI d0 v (l.take (j + 1)) = true := by rw [hF]; simp
          (repeat' (first | refine awp_seq ?_ | refine awp_block ?_ | ((first | refine awp_skip ?_ | refine awp_exit ?_); simp only [ak, reduceIte]) | (refine awp_ret ?_; simp only [ak, reduceIte]; simp [f7, f8, f9, f28, fi, fn, hltj, hdx, hvx, htH, t0, m1]) | (refine awp_cond ?_; simp [f7, f8, f9, f28, fi, fn, hltj, hdx, hvx, htH, t0, m1]; (try with_reducible refine ⟨?_, ?_⟩) <;> (try with_reducible intro hc) <;> try (exfalso; omega)) | ((first | (refine w_e [] ?_; intro J hJ; simp only []) | (refine w_q ?_; intro J hJ) | refine e_go ?_); simp [f7, f8, f9, f28, fi, fn, hltj, hdx, hvx, htH, t0, m1]; (repeat refine ca ?_); (try ((try with_reducible refine ⟨?_, ?_⟩) <;> (try with_reducible intro hnil) <;> refine hJ _ _ ?_ <;> clear hJ J <;> simp only [ak, reduceIte] <;> try subst hnil)))))
          refine hJ2 _ _ (by simp [fi]) (by simp [fn]) ⟨⟨by simp [f1], by simp [f4], by simp [f5], by simp [f18], by simp [f19], by simp [f20], by simp [f7], by simp [f28]⟩, ?_, by rw [hF']; simp [f9], s2.next + 1, by rw [hO]; simp, ⟨by omega, by omega, by simp⟩, by rw [hO]; simp⟩
          exact ((hM.new _).set tl _).new _
      · have hO := hO2 (.inr hvx)
        have hF' : flg idI d0 v (l.take (j + 1)) = F := by rw [hF]; simp [hvx]
        cases F with
        | false =>
          (repeat' (first | refine awp_seq ?_ | refine awp_block ?_ | ((first | refine awp_skip ?_ | refine awp_exit ?_); simp only [ak, reduceIte]) | (refine awp_ret ?_; simp only [ak, reduceIte]; simp [f7, f8, f9, f28, fi, fn, hltj, hdx, hvx, htH, t0, m1]) | (refine awp_cond ?_; simp [f7, f8, f9, f28, fi, fn, hltj, hdx, hvx, htH, t0, m1]; (try with_reducible refine ⟨?_, ?_⟩) <;> (try with_reducible intro hc) <;> try (exfalso; omega)) | ((first | (refine w_e [] ?_; intro J hJ; simp only []) | (refine w_q ?_; intro J hJ) | refine e_go ?_); simp [f7, f8, f9, f28, fi, fn, hltj, hdx, hvx, htH, t0, m1]; (repeat refine ca ?_); (try ((try with_reducible refine ⟨?_, ?_⟩) <;> (try with_reducible intro hnil) <;> refine hJ _ _ ?_ <;> clear hJ J <;> simp only [ak, reduceIte] <;> try subst hnil)))))
          refine hJ2 _ _ (by simp [fi]) (by simp [fn]) ⟨⟨by simp [f1], by simp [f4], by simp [f5], by simp [f18], by simp [f19], by simp [f20], by simp [f7], by simp [f28]⟩, ?_, by rw [hF']; simp [f9], s2.next + 1, by rw [hO]; simp, ⟨by omega, by omega, by simp⟩, by rw [hO]; simp⟩
          exact ((hM.new _).set tl _).new _
        | true =>
          (repeat' (first | refine awp_seq ?_ | refine awp_block ?_ | ((first | refine awp_skip ?_ | refine awp_exit ?_); simp only [ak, reduceIte]) | (refine awp_ret ?_; simp only [ak, reduceIte]; simp [f7, f8, f9, f28, fi, fn, hltj, hdx, hvx, htH, t0, m1]) | (refine awp_cond ?_; simp [f7, f8, f9, f28, fi, fn, hltj, hdx, hvx, htH, t0, m1]; (try with_reducible refine ⟨?_, ?_⟩) <;> (try with_reducible intro hc) <;> try (exfalso; omega)) | ((first | (refine w_e [] ?_; intro J hJ; simp only []) | (refine w_q ?_; intro J hJ) | refine e_go ?_); simp [f7, f8, f9, f28, fi, fn, hltj, hdx, hvx, htH, t0, m1]; (repeat refine ca ?_); (try ((try with_reducible refine ⟨?_, ?_⟩) <;> (try with_reducible intro hnil) <;> refine hJ _ _ ?_ <;> clear hJ J <;> simp only [ak, reduceIte] <;> try subst hnil)))))
          refine hJ2 _ _ (by simp [fi]) (by simp [fn]) ⟨⟨by simp [f1], by simp [f4], by simp [f5], by simp [f18], by simp [f19], by simp [f20], by simp [f7], by simp [f28]⟩, ?_, by rw [hF']; simp [f9], s2.next + 1, by rw [hO]; simp, ⟨by omega, by omega, by simp⟩, by rw [hO]; simp⟩
          exact ((hM.new _).set tl _).new _
    · clear f1 f4 f5 f18 fi fn hM hM1 hM2 hB hB1
      rintro fr s2 ⟨⟨f1, f4, f5, f18, f19, f20, f7, f28⟩, hM, f9, t, f8, ⟨t0, tl, tn⟩, htH⟩
      have hol1 := hol l
      rw [List.take_length] at f9 f8 htH
      have m1 : ¬ t = s2.next := by omega
      have hB := hM.b
      have b1 : ¬ st.next + 1 = t := by omega
      have b2 : ¬ st.next + 1 = s2.next := by have := hM.lt; omega
      have b3 : ¬ st.next = s2.next := by have := hM.lt; omega
      generalize flg idI d0 v l = F at *
      generalize outI idI d0 v l = O at *
      cases F with
      | true =>
        rw [if_pos rfl] at hend
        (repeat' (first | refine awp_seq ?_ | refine awp_block ?_ | ((first | refine awp_skip ?_ | refine awp_exit ?_); simp only [ak, reduceIte]) | (refine awp_ret ?_; simp only [ak, reduceIte]; simp [f5, f8, f9, hB]) | (refine awp_cond ?_; simp [f5, f8, f9, hB]; (try with_reducible refine ⟨?_, ?_⟩) <;> (try with_reducible intro hc) <;> try (exfalso; omega)) | ((first | (refine w_e [] ?_; intro J hJ; simp only []) | (refine w_q ?_; intro J hJ) | refine e_go ?_); simp [f5, f8, f9, hB]; (repeat refine ca ?_); (try ((try with_reducible refine ⟨?_, ?_⟩) <;> (try with_reducible intro hnil) <;> refine hJ _ _ ?_ <;> clear hJ J <;> simp only [ak, reduceIte] <;> try subst hnil)))))
        refine hJJ _ _ (by simp [f20]) (by simp [f19]) ⟨by simp [f18], by simp [f1], by simp [f4], by simp [f5], t, t2, ?_⟩
        rw [htk, hend]
        exact hM.put _ _
      | false =>
        rw [if_neg (by simp)] at hend
        (repeat' (first | refine awp_seq ?_ | refine awp_block ?_ | ((first | refine awp_skip ?_ | refine awp_exit ?_); simp only [ak, reduceIte]) | (refine awp_ret ?_; simp only [ak, reduceIte]; simp [f5, f7, f8, f9, hB, htH, t0, m1, b1, b2, b3]) | (refine awp_cond ?_; simp [f5, f7, f8, f9, hB, htH, t0, m1, b1, b2, b3]; (try with_reducible refine ⟨?_, ?_⟩) <;> (try with_reducible intro hc) <;> try (exfalso; omega)) | ((first | (refine w_e [] ?_; intro J hJ; simp only []) | (refine w_q ?_; intro J hJ) | refine e_go ?_); simp [f5, f7, f8, f9, hB, htH, t0, m1, b1, b2, b3]; (repeat refine ca ?_); (try ((try with_reducible refine ⟨?_, ?_⟩) <;> (try with_reducible intro hnil) <;> refine hJ _ _ ?_ <;> clear hJ J <;> simp only [ak, reduceIte] <;> try subst hnil)))))
        refine hJJ _ _ (by simp [f20]) (by simp [f19]) ⟨by simp [f18], by simp [f1], by simp [f4], by simp [f5], s2.next + 1, t2, ?_⟩
        rw [htk, hend]
        have := (((hM.new (.own 29 1 1)).set tl .dead).new (.own 29 1 (O.length + 1))).put (.sl (s2.next + 1) (O.length + 1) (us O ++ [u v])) (.sl t2 0 [])
        simpa using this
  rintro fr s ⟨f18, hV⟩
  rw [List.take_length] at hV
  obtain ⟨f1, f4, f5, t1, t2, hM⟩ := hV
  have hVl := insAll_len idI vs
  unfold MakeP
  generalize insAll idI vs = V at *
  (repeat' (first | refine awp_seq ?_ | refine awp_block ?_ | ((first | refine awp_skip ?_ | refine awp_exit ?_); simp only [ak, reduceIte]) | (refine awp_ret ?_; simp only [ak, reduceIte]; simp [f1]) | (refine awp_cond ?_; simp [f1]; (try with_reducible refine ⟨?_, ?_⟩) <;> (try with_reducible intro hc) <;> try (exfalso; omega)) | ((first | (refine w_e [] ?_; intro J hJ; simp only []) | (refine w_q ?_; intro J hJ) | refine e_go ?_); simp [f1]; (repeat refine ca ?_); (try ((try with_reducible refine ⟨?_, ?_⟩) <;> (try with_reducible intro hnil) <;> refine hJ _ _ ?_ <;> clear hJ J <;> simp only [ak, reduceIte] <;> try subst hnil)))))
  refine awp_range 61 60 62 103 (es.length) (fun j fr st2 => fr 59 = .sl te es.length (eds es) ∧ MkE V st fr st2 (insAll idE (es.take j))) ?_ ?_ ?_
  · exact ⟨by simp, by simp [f4], by simp [f5], t1, t2, by simpa [insAll] using hM⟩
  · clear f1 f4 f5 f18 hM t1 t2 fr s
    rintro q fr s hlt ⟨f59, f4, f5, t1, t2, hM⟩ fi fn JJ hJJ
    have hd := eds_drop es q hlt
    have hk3 : q * 3 < es.length * 3 := by omega
    have htk := insE_take es q hlt
    have hl := insAll_len idE (es.take q)
    rw [List.length_take] at hl
    generalize es.getD q ed0 = e at *
    generalize insAll idE (es.take q) = l at *
    have hB := hM.b
    have c1 : ¬ st.next + 1 = s.next := by have := hM.lt; omega
    have hM0 := hM.new (.box 40 3 (edL e))
    have hel := eds_length l
    have hend := outI_end idE (l.any fun x => decide (idE x = idE e)) e l rfl
    have hol := outI_len idE (l.any fun x => decide (idE x = idE e)) e
    have hfi := rFind ⟨V, l⟩ e.id (s.new (.box 40 3 (edL e))) (by simp only; omega)
    have hai : (l.any fun x => decide (idE x = idE e)) = l.any fun x => decide (x.id = e.id) := rfl
    simp only at hfi
    generalize (l.any fun x => decide (x.id = e.id)) = d0 at *
    rw [hai] at hend hol
    clear hai
    have hsn1 : ∀ v x l, @flg_snoc Ed idE d0 v x l = @flg_snoc Ed idE d0 v x l := fun _ _ _ => rfl
    clear hsn1
    have hee : ∀ x : Ed, idE x = x.id := fun _ => rfl
    obtain ⟨ei, ea, eb⟩ := e
    simp only at hd hfi
    (repeat' (first | refine awp_seq ?_ | refine awp_block ?_ | ((first | refine awp_skip ?_ | refine awp_exit ?_); simp only [ak, reduceIte]) | (refine awp_ret ?_; simp only [ak, reduceIte]; simp [f59, fi, fn, hlt, hd, hle, hk3, f5, hB, c1]) | (refine awp_cond ?_; simp [f59, fi, fn, hlt, hd, hle, hk3, f5, hB, c1]; (try with_reducible refine ⟨?_, ?_⟩) <;> (try with_reducible intro hc) <;> try (exfalso; omega)) | ((first | (refine w_e [] ?_; intro J hJ; simp only []) | (refine w_q ?_; intro J hJ) | refine e_go ?_); simp [f59, fi, fn, hlt, hd, hle, hk3, f5, hB, c1]; (repeat refine ca ?_); (try ((try with_reducible refine ⟨?_, ?_⟩) <;> (try with_reducible intro hnil) <;> refine hJ _ _ ?_ <;> clear hJ J <;> simp only [ak, reduceIte] <;> try subst hnil)))))
    refine callK_of0 hfi (by simp [z0, z0L, z0L_us, z0L_eds]) ?_; rintro r s1 ⟨⟨kf, rfl, hkf⟩, hk1⟩
    have hM1 := hM0.keeps hk1
    have hn1 := hk1.next
    simp only [new_next] at hn1
    have hX1 := hk1.H s.next (by simp)
    simp only [new_H, if_true] at hX1
    have hB1 := hM1.b
    (repeat' (first | refine awp_seq ?_ | refine awp_block ?_ | ((first | refine awp_skip ?_ | refine awp_exit ?_); simp only [ak, reduceIte]) | (refine awp_ret ?_; simp only [ak, reduceIte]; simp [f5, hB1, hkf]) | (refine awp_cond ?_; simp [f5, hB1, hkf]; (try with_reducible refine ⟨?_, ?_⟩) <;> (try with_reducible intro hc) <;> try (exfalso; omega)) | ((first | (refine w_e [] ?_; intro J hJ; simp only []) | (refine w_q ?_; intro J hJ) | refine e_go ?_); simp [f5, hB1, hkf]; (repeat refine ca ?_); (try ((try with_reducible refine ⟨?_, ?_⟩) <;> (try with_reducible intro hnil) <;> refine hJ _ _ ?_ <;> clear hJ J <;> simp only [ak, reduceIte] <;> try subst hnil)))))
    refine awp_own 14 40 3 (by simp) ?_
    have hM2 := hM1.new (.own 40 3 0)
    have hpe1 : st.next + 1 < s.next := hM.lt
    generalize hpe : s.next = pe at *
    refine awp_range 73 72 74 94 (l.length) (fun j fr st2 => (fr 4 = .pt st.next 0 ∧ fr 5 = .pt (st.next + 1) 0 ∧ fr 59 = .sl te es.length (eds es) ∧ fr 60 = i es.length ∧ fr 61 = i q ∧ fr 13 = .pt pe 0 ∧ fr 71 = .sl t2 l.length (eds l)) ∧ MkS st st2 (.sl t1 V.length (us V)) (.sl t2 l.length (eds l)) ∧ (st2.H pe = .box 40 3 (edL ⟨ei, ea, eb⟩) ∧ pe < st2.next) ∧ fr 15 = bb (flg idE d0 ⟨ei, ea, eb⟩ (l.take j)) ∧ RowG st st2 (fr 14) (outI idE d0 ⟨ei, ea, eb⟩ (l.take j))) ?_ ?_ ?_
    · refine ⟨⟨by simp [f4], by simp [f5], by simp [f59], by simp [fn], by simp [fi], by simp, by simp⟩, hM2, ⟨by rw [new_H, if_neg (by omega)]; exact hX1, by simp; omega⟩, by simp [flg], s1.next, ?_, ⟨by have := hM1.lt; omega, by have := hM1.lt; omega, by simp⟩, ?_⟩
      · unfold outI; cases d0 <;> simp
      · unfold outI; cases d0 <;> simp
    · clear f4 f5 f59 fi fn hM hM1 hM2 hM0 hB hB1 hX1 hn1 hk1 hkf hfi
      rintro j fr s2 hltj ⟨⟨f4, f5, f59, f60, f61, f13, f71⟩, hM, ⟨hX, hpl⟩, f15, t, f14, ⟨t0, tl, tn⟩, htH⟩ fi fn J2 hJ2
      have hdx := eds_drop l j hltj
      have hj3 : j * 3 < l.length * 3 := by omega
      have htx := tk_at l j hltj
      have hol1 := hol (l.take j)
      rw [List.length_take] at hol1
      generalize l.getD j ed0 = x at *
      have hF := flg_snoc idE d0 ⟨ei, ea, eb⟩ x (l.take j)
      have hO1 := outI_new idE d0 ⟨ei, ea, eb⟩ x (l.take j)
      have hO2 := outI_same idE d0 ⟨ei, ea, eb⟩ x (l.take j)
      rw [← htx] at hF hO1 hO2
      have m1 : ¬ t = s2.next := by omega
      have m2 : ¬ t = s2.next + 1 := by omega
      have m3 : ¬ s2.next = t := by omega
      have p0 : ¬ pe = t := by rintro rfl; rw [hX] at htH; cases htH
      have p1 : ¬ pe = s2.next := by omega
      have p2 : ¬ pe = s2.next + 1 := by omega
      have p3 : ¬ pe = s2.next + 1 + 1 := by omega
      have p4 : ¬ pe = s2.next + 1 + 1 + 1 := by omega
      have p5 : ¬ pe = s2.next + 1 + 1 + 1 + 1 := by omega
      generalize flg idE d0 ⟨ei, ea, eb⟩ (l.take j) = F at *
      generalize outI idE d0 ⟨ei, ea, eb⟩ (l.take j) = O at *
      have hOl := eds_length O
      have hsn := fun y => eds_snoc O y
      have hsn2 := fun y z => eds_snoc (O ++ [y]) z
      obtain ⟨xi, xa, xb⟩ := x
      simp only at hdx hF hO1 hO2
      by_cases hvx : ei < xi
      · cases F with
        | false =>
          have hO := hO1 rfl hvx
          have hF' : flg idE d0 ⟨ei, ea, eb⟩ (l.take (j + 1)) = true := by rw [hF]; simp [hvx]
          (repeat' (first | refine awp_seq ?_ | refine awp_block ?_ | ((first | refine awp_skip ?_ | refine awp_exit ?_); simp only [ak, reduceIte]) | (refine awp_ret ?_; simp only [ak, reduceIte]; simp [f13, f14, f15, f71, fi, fn, hltj, hdx, hel, hj3, hvx, hX, htH, t0, m1, m2, m3, p0, p1, p2, p3, p4, p5, hOl]) | (refine awp_cond ?_; simp [f13, f14, f15, f71, fi, fn, hltj, hdx, hel, hj3, hvx, hX, htH, t0, m1, m2, m3, p0, p1, p2, p3, p4, p5, hOl]; (try with_reducible refine ⟨?_, ?_⟩) <;> (try with_reducible intro hc) <;> try (exfalso; omega)) | ((first | (refine w_e [] ?_; intro J hJ; simp only []) | (refine w_q ?_; intro J hJ) | refine e_go ?_); simp [f13, f14, f15, f71, fi, fn, hltj, hdx, hel, hj3, hvx, hX, htH, t0, m1, m2, m3, p0, p1, p2, p3, p4, p5, hOl]; (repeat refine ca ?_); (try ((try with_reducible refine ⟨?_, ?_⟩) <;> (try with_reducible intro hnil) <;> refine hJ _ _ ?_ <;> clear hJ J <;> simp only [ak, reduceIte] <;> try subst hnil)))))
          refine hJ2 _ _ (by simp [fi]) (by simp [fn]) ⟨⟨by simp [f4], by simp [f5], by simp [f59], by simp [f60], by simp [f61], by simp [f13], by simp [f71]⟩, ?_, ⟨by simp [p0, p1, p2, p3, p4, p5, hX], by simp; omega⟩, by rw [hF']; simp, s2.next + 1 + 1 + 1 + 1, by rw [hO, hsn2, hsn]; simp, ⟨by omega, by omega, by simp⟩, by rw [hO]; simp⟩
          exact ((((((hM.new _).new _).set tl _).new _).new _).set (by omega) _).new _
        | true =>
          have hO := hO2 (.inl rfl)
          have hF' : flg idE d0 ⟨ei, ea, eb⟩ (l.take (j + 1)) = true := by rw [hF]; simp
          (repeat' (first | refine awp_seq ?_ | refine awp_block ?_ | ((first | refine awp_skip ?_ | refine awp_exit ?_); simp only [ak, reduceIte]) | (refine awp_ret ?_; simp only [ak, reduceIte]; simp [f13, f14, f15, f71, fi, fn, hltj, hdx, hel, hj3, hvx, hX, htH, t0, m1, m2, m3, p0, p1, p2, p3, p4, p5, hOl]) | (refine awp_cond ?_; simp [f13, f14, f15, f71, fi, fn, hltj, hdx, hel, hj3, hvx, hX, htH, t0, m1, m2, m3, p0, p1, p2, p3, p4, p5, hOl]; (try with_reducible refine ⟨?_, ?_⟩) <;> (try with_reducible intro hc) <;> try (exfalso; omega)) | ((first | (refine w_e [] ?_; intro J hJ; simp only []) | (refine w_q ?_; intro J hJ) | refine e_go ?_); simp [f13, f14, f15, f71, fi, fn, hltj, hdx, hel, hj3, hvx, hX, htH, t0, m1, m2, m3, p0, p1, p2, p3, p4, p5, hOl]; (repeat refine ca ?_); (try ((try with_reducible refine ⟨?_, ?_⟩) <;> (try with_reducible intro hnil) <;> refine hJ _ _ ?_ <;> clear hJ J <;> simp only [ak, reduceIte] <;> try subst hnil)))))
          refine hJ2 _ _ (by simp [fi]) (by simp [fn]) ⟨⟨by simp [f4], by simp [f5], by simp [f59], by simp [f60], by simp [f61], by simp [f13], by simp [f71]⟩, ?_, ⟨by simp [p0, p1, p2, p3, p4, p5, hX], by simp; omega⟩, by rw [hF']; simp [f15], s2.next + 1 + 1, by rw [hO, hsn]; simp, ⟨by omega, by omega, by simp⟩, by rw [hO]; simp⟩
          exact (((hM.new _).new _).set tl _).new _
      · have hO := hO2 (.inr hvx)
        have hF' : flg idE d0 ⟨ei, ea, eb⟩ (l.take (j + 1)) = F := by rw [hF]; simp [hvx]
        cases F with
        | false =>
          (repeat' (first | refine awp_seq ?_ | refine awp_block ?_ | ((first | refine awp_skip ?_ | refine awp_exit ?_); simp only [ak, reduceIte]) | (refine awp_ret ?_; simp only [ak, reduceIte]; simp [f13, f14, f15, f71, fi, fn, hltj, hdx, hel, hj3, hvx, hX, htH, t0, m1, m2, m3, p0, p1, p2, p3, p4, p5, hOl]) | (refine awp_cond ?_; simp [f13, f14, f15, f71, fi, fn, hltj, hdx, hel, hj3, hvx, hX, htH, t0, m1, m2, m3, p0, p1, p2, p3, p4, p5, hOl]; (try with_reducible refine ⟨?_, ?_⟩) <;> (try with_reducible intro hc) <;> try (exfalso; omega)) | ((first | (refine w_e [] ?_; intro J hJ; simp only []) | (refine w_q ?_; intro J hJ) | refine e_go ?_); simp [f13, f14, f15, f71, fi, fn, hltj, hdx, hel, hj3, hvx, hX, htH, t0, m1, m2, m3, p0, p1, p2, p3, p4, p5, hOl]; (repeat refine ca ?_); (try ((try with_reducible refine ⟨?_, ?_⟩) <;> (try with_reducible intro hnil) <;> refine hJ _ _ ?_ <;> clear hJ J <;> simp only [ak, reduceIte] <;> try subst hnil)))))
          refine hJ2 _ _ (by simp [fi]) (by simp [fn]) ⟨⟨by simp [f4], by simp [f5], by simp [f59], by simp [f60], by simp [f61], by simp [f13], by simp [f71]⟩, ?_, ⟨by simp [p0, p1, p2, p3, p4, p5, hX], by simp; omega⟩, by rw [hF']; simp [f15], s2.next + 1 + 1, by rw [hO, hsn]; simp, ⟨by omega, by omega, by simp⟩, by rw [hO]; simp⟩
          exact (((hM.new _).new _).set tl _).new _
        | true =>
          (repeat' (first | refine awp_seq ?_ | refine awp_block ?_ | ((first | refine awp_skip ?_ | refine awp_exit ?_); simp only [ak, reduceIte]) | (refine awp_ret ?_; simp only [ak, reduceIte]; simp [f13, f14, f15, f71, fi, fn, hltj, hdx, hel, hj3, hvx, hX, htH, t0, m1, m2, m3, p0, p1, p2, p3, p4, p5, hOl]) | (refine awp_cond ?_; simp [f13, f14, f15, f71, fi, fn, hltj, hdx, hel, hj3, hvx, hX, htH, t0, m1, m2, m3, p0, p1, p2, p3, p4, p5, hOl]; (try with_reducible refine ⟨?_, ?_⟩) <;> (try with_reducible intro hc) <;> try (exfalso; omega)) | ((first | (refine w_e [] ?_; intro J hJ; simp only []) | (refine w_q ?_; intro J hJ) | refine e_go ?_); simp [f13, f14, f15, f71, fi, fn, hltj, hdx, hel, hj3, hvx, hX, htH, t0, m1, m2, m3, p0, p1, p2, p3, p4, p5, hOl]; (repeat refine ca ?_); (try ((try with_reducible refine ⟨?_, ?_⟩) <;> (try with_reducible intro hnil) <;> refine hJ _ _ ?_ <;> clear hJ J <;> simp only [ak, reduceIte] <;> try subst hnil)))))
          refine hJ2 _ _ (by simp [fi]) (by simp [fn]) ⟨⟨by simp [f4], by simp [f5], by simp [f59], by simp [f60], by simp [f61], by simp [f13], by simp [f71]⟩, ?_, ⟨by simp [p0, p1, p2, p3, p4, p5, hX], by simp; omega⟩, by rw [hF']; simp [f15], s2.next + 1 + 1, by rw [hO, hsn]; simp, ⟨by omega, by omega, by simp⟩, by rw [hO]; simp⟩
          exact (((hM.new _).new _).set tl _).new _
    · clear f4 f5 f59 fi fn hM hM1 hM2 hM0 hB hB1 hX1 hn1 hk1 hkf hfi
      rintro fr s2 ⟨⟨f4, f5, f59, f60, f61, f13, f71⟩, hM, ⟨hX, hpl⟩, f15, t, f14, ⟨t0, tl, tn⟩, htH⟩
      have hol1 := hol l
      rw [List.take_length] at f15 f14 htH
      have m1 : ¬ t = s2.next := by omega
      have hB := hM.b
      have b1 : ¬ st.next + 1 = t := by omega
      have b2 : ¬ st.next + 1 = s2.next := by have := hM.lt; omega
      have b3 : ¬ st.next = s2.next := by have := hM.lt; omega
      generalize flg idE d0 ⟨ei, ea, eb⟩ l = F at *
      generalize outI idE d0 ⟨ei, ea, eb⟩ l = O at *
      have hOl := eds_length O
      cases F with
      | true =>
        rw [if_pos rfl] at hend
        (repeat' (first | refine awp_seq ?_ | refine awp_block ?_ | ((first | refine awp_skip ?_ | refine awp_exit ?_); simp only [ak, reduceIte]) | (refine awp_ret ?_; simp only [ak, reduceIte]; simp [f5, f14, f15, hB]) | (refine awp_cond ?_; simp [f5, f14, f15, hB]; (try with_reducible refine ⟨?_, ?_⟩) <;> (try with_reducible intro hc) <;> try (exfalso; omega)) | ((first | (refine w_e [] ?_; intro J hJ; simp only []) | (refine w_q ?_; intro J hJ) | refine e_go ?_); simp [f5, f14, f15, hB]; (repeat refine ca ?_); (try ((try with_reducible refine ⟨?_, ?_⟩) <;> (try with_reducible intro hnil) <;> refine hJ _ _ ?_ <;> clear hJ J <;> simp only [ak, reduceIte] <;> try subst hnil)))))
        refine hJJ _ _ (by simp [f61]) (by simp [f60]) ⟨by simp [f59], by simp [f4], by simp [f5], t1, t, ?_⟩
        rw [htk, hend]
        exact hM.put _ _
      | false =>
        rw [if_neg (by simp)] at hend
        (repeat' (first | refine awp_seq ?_ | refine awp_block ?_ | ((first | refine awp_skip ?_ | refine awp_exit ?_); simp only [ak, reduceIte]) | (refine awp_ret ?_; simp only [ak, reduceIte]; simp [f5, f13, f14, f15, hX, hB, htH, t0, m1, b1, b2, b3, hOl]) | (refine awp_cond ?_; simp [f5, f13, f14, f15, hX, hB, htH, t0, m1, b1, b2, b3, hOl]; (try with_reducible refine ⟨?_, ?_⟩) <;> (try with_reducible intro hc) <;> try (exfalso; omega)) | ((first | (refine w_e [] ?_; intro J hJ; simp only []) | (refine w_q ?_; intro J hJ) | refine e_go ?_); simp [f5, f13, f14, f15, hX, hB, htH, t0, m1, b1, b2, b3, hOl]; (repeat refine ca ?_); (try ((try with_reducible refine ⟨?_, ?_⟩) <;> (try with_reducible intro hnil) <;> refine hJ _ _ ?_ <;> clear hJ J <;> simp only [ak, reduceIte] <;> try subst hnil)))))
        refine hJJ _ _ (by simp [f61]) (by simp [f60]) ⟨by simp [f59], by simp [f4], by simp [f5], t1, s2.next + 1, ?_⟩
        rw [htk, hend, eds_snoc]
        have := (((hM.new (.own 40 3 1)).set tl .dead).new (.own 40 3 (O.length + 1))).put (.sl t1 V.length (us V)) (.sl (s2.next + 1) (O.length + 1) (eds O ++ [u ei, u ea, u eb]))
        simpa using this
  · clear f1 f4 f5 f18 hM t1 t2 fr s
    rintro fr s ⟨f59, f4, f5, t1, t2, hM⟩
    rw [List.take_length] at hM
    generalize insAll idE es = E at *
    have hB := hM.b
    have hZ := hM.z
    (repeat' (first | refine awp_seq ?_ | refine awp_block ?_ | ((first | refine awp_skip ?_ | refine awp_exit ?_); simp only [ak, reduceIte]) | (refine awp_ret ?_; simp only [ak, reduceIte]; simp [f4, f5, hB, hZ]) | (refine awp_cond ?_; simp [f4, f5, hB, hZ]; (try with_reducible refine ⟨?_, ?_⟩) <;> (try with_reducible intro hc) <;> try (exfalso; omega)) | ((first | (refine w_e [] ?_; intro J hJ; simp only []) | (refine w_q ?_; intro J hJ) | refine e_go ?_); simp [f4, f5, hB, hZ]; (repeat refine ca ?_); (try ((try with_reducible refine ⟨?_, ?_⟩) <;> (try with_reducible intro hnil) <;> refine hJ _ _ ?_ <;> clear hJ J <;> simp only [ak, reduceIte] <;> try subst hnil)))))
    simp [z0, z0L, z0L_us, z0L_eds]
    exact hM.k.set (Nat.le_refl _) _

end Go.Proofs.Ytaiakdhcajibnaa.Aw

namespace Go.Proofs.Ytaiakdhcajibnaa.Aw
open Go Go.RowKit Go.Proofs.Ytaiakdhcajibnaa.Pl
set_option linter.unusedSimpArgs false
set_option linter.unusedVariables false

/-- The three, and the answer's cell. -/
def At4 (a b c : Gr) (st s : St) : Prop := s.H st.next = .box 25 2 (grL a) ∧ s.H (st.next + 1) = .box 25 2 (grL b) ∧ s.H (st.next + 2) = .box 25 2 (grL c) ∧ s.H (st.next + 3) = bzG ∧ st.next + 3 < s.next ∧ Keeps st s
theorem At4.keeps {a b c : Gr} {st s s' : St} (h : At4 a b c st s) (k : Keeps s s') : At4 a b c st s' :=
  ⟨(k.H _ (by have := h.2.2.2.2.1; omega)).trans h.1, (k.H _ (by have := h.2.2.2.2.1; omega)).trans h.2.1, (k.H _ (by have := h.2.2.2.2.1; omega)).trans h.2.2.1, (k.H _ h.2.2.2.2.1).trans h.2.2.2.1, Nat.lt_of_lt_of_le h.2.2.2.2.1 k.next, h.2.2.2.2.2.trans k⟩
theorem At4.new {a b c : Gr} {st s : St} (h : At4 a b c st s) (o : LObj) : At4 a b c st (s.new o) := h.keeps (Keeps.new _ _)
theorem At4.set {a b c : Gr} {st s : St} (h : At4 a b c st s) {t : Nat} (ht : st.next + 3 < t) (o : LObj) : At4 a b c st (s.set t o) := by
  obtain ⟨h1, h2, h3, h4, h5, h6⟩ := h
  refine ⟨?_, ?_, ?_, ?_, h5, h6.set (by omega) _⟩
  all_goals rw [set_H, if_neg (by omega)]; assumption
/-- A row of edges of the call's own. -/
def RowO (st s : St) (o : LV) (l : List Ed) : Prop := ∃ t, o = .sl t l.length (eds l) ∧ (t ≠ 0 ∧ st.next + 3 < t ∧ t < s.next) ∧ s.H t = .own 40 3 l.length
theorem RowO.keeps {st s s' : St} {o : LV} {l : List Ed} (h : RowO st s o l) (k : Keeps s s') : RowO st s' o l := by
  obtain ⟨t, h1, ⟨h2, h3, h4⟩, h5⟩ := h
  exact ⟨t, h1, ⟨h2, h3, Nat.lt_of_lt_of_le h4 k.next⟩, (k.H _ h4).trans h5⟩
def bdJ (B x : Int) (l : List Ed) : Int := if x ∈ l.map (·.id) ∧ (B = 0 ∨ x < B) then x else B
theorem bdJ_nil (B x : Int) : bdJ B x [] = B := by unfold bdJ; simp
theorem bdJ_snoc (B x : Int) (l : List Ed) (y : Ed) (hx : 0 < x) : bdJ B x (l ++ [y]) = if x = y.id ∧ (bdJ B x l = 0 ∨ x < bdJ B x l) then x else bdJ B x l := by
  have hc : bdJ B x l = if x ∈ l.map (·.id) ∧ (B = 0 ∨ x < B) then x else B := rfl
  have hm : x ∈ (l ++ [y]).map (·.id) ↔ x ∈ l.map (·.id) ∨ x = y.id := by simp
  have hL : bdJ B x (l ++ [y]) = if (x ∈ l.map (·.id) ∨ x = y.id) ∧ (B = 0 ∨ x < B) then x else B := by
    unfold bdJ
    simp only [hm]
  rw [hL]
  generalize bdJ B x l = c at *
  clear hL hm
  by_cases h1 : x ∈ l.map (·.id) ∧ (B = 0 ∨ x < B)
  · rw [if_pos h1] at hc
    rw [if_pos ⟨.inl h1.1, h1.2⟩, if_neg (by rintro ⟨_, h | h⟩ <;> omega), hc]
  · rw [if_neg h1] at hc
    by_cases h2 : x = y.id ∧ (B = 0 ∨ x < B)
    · rw [if_pos ⟨.inr h2.1, h2.2⟩, hc, if_pos h2]
    · rw [if_neg (by rintro ⟨h3 | h3, h4⟩; exact h1 ⟨h3, h4⟩; exact h2 ⟨h3, h4⟩), hc, if_neg h2]

set_option maxHeartbeats 4000000 in
theorem rOf (a b c : Gr) (st : St) (ha : a.vs.length ≤ 10000 ∧ a.es.length ≤ 10000) (hb : GrF b) (hc : GrF c) :
    ACalls Try.prog 8 [.ag (grL a), .ag (grL b), .ag (grL c)] st (UofP a b c st) := by
  have hb1 := hb.l1
  have hb2 := hb.l2
  have hc1 := hc.l1
  have hc2 := hc.l2
  have hla := eds_length a.es
  have hlb := eds_length b.es
  have hlc := eds_length c.es
  refine acalls_z0 ?_
  refine acalls_of_body tabOk Try.func8 rfl rfl Try.ntmps8 (rs := [.cell 6 25, .tmp 7, .tmp 8]) rfl (by simp) ?_
  (repeat' (first | refine awp_seq ?_ | refine awp_block ?_ | ((first | refine awp_skip ?_ | refine awp_exit ?_); simp only [ak, reduceIte]) | (refine awp_ret ?_; simp only [ak, reduceIte]; simp []) | (refine awp_cond ?_; simp []; (try with_reducible refine ⟨?_, ?_⟩) <;> (try with_reducible intro hc) <;> try (exfalso; omega)) | ((first | (refine w_e [] ?_; intro J hJ; simp only []) | (refine w_q ?_; intro J hJ) | refine e_go ?_); simp []; (repeat refine ca ?_); (try ((try with_reducible refine ⟨?_, ?_⟩) <;> (try with_reducible intro hnil) <;> refine hJ _ _ ?_ <;> clear hJ J <;> simp only [ak, reduceIte] <;> try subst hnil)))))
  refine awp_own 9 40 3 (by simp) ?_
  refine awp_range 25 24 26 42 (b.es.length) (fun j fr st2 => (fr 3 = .pt st.next 0 ∧ fr 4 = .pt (st.next + 1) 0 ∧ fr 5 = .pt (st.next + 2) 0 ∧ fr 6 = .pt (st.next + 3) 0 ∧ fr 7 = u 0 ∧ fr 8 = i 0 ∧ fr 23 = .sl 0 b.es.length (eds b.es)) ∧ At4 a b c st st2 ∧ RowO st st2 (fr 9) ((b.es.take j).filter (q1 a.es c.es))) ?_ ?_ ?_
  · refine ⟨⟨by simp, by simp, by simp, by simp, by simp, by simp, by simp⟩, ⟨by simp, by simp, by simp, by simp, by simp, ?_⟩, st.next + 1 + 1 + 1 + 1, by simp, ⟨by omega, by omega, by simp⟩, by simp⟩
    exact ((((Keeps.new _ _).trans (Keeps.new _ _)).trans (Keeps.new _ _)).trans (Keeps.new _ _)).trans (Keeps.new _ _)
  · rintro j fr s hlt ⟨⟨f3, f4, f5, f6, f7, f8, f23⟩, hA, hR⟩ fi fn JJ hJJ
    have hd := eds_drop b.es j hlt
    have hk3 : j * 3 < b.es.length * 3 := by omega
    have hst := filterE_take b.es (q1 a.es c.es) j hlt
    have hle := List.length_filter_le (q1 a.es c.es) (b.es.take j)
    rw [List.length_take] at hle
    generalize b.es.getD j ed0 = x at *
    generalize (b.es.take j).filter (q1 a.es c.es) = F at *
    have hq1 : q1 a.es c.es x = (decide (x ∈ c.es) || !decide (x ∈ a.es)) := rfl
    have hFl := eds_length F
    have hpush := eds_snoc F x
    have k1 := hasEdge a.es 0 x
    have k2 := hasEdge c.es 0 x
    have hA1 := hA.new (.box 40 3 (edL x))
    obtain ⟨A1, A2, A3, A4, A5, A6⟩ := hA1
    have hA1 : At4 a b c st (s.new (.box 40 3 (edL x))) := ⟨A1, A2, A3, A4, A5, A6⟩
    have hX1 : (s.new (.box 40 3 (edL x))).H s.next = .box 40 3 (edL x) := by simp
    have hl1 : s.next < (s.new (.box 40 3 (edL x))).next := by simp
    have hR1 := hR.keeps (Keeps.new s (.box 40 3 (edL x)))
    have hgn : 0 < s.next := by have := hA.2.2.2.2.1; omega
    obtain ⟨xi, xa, xb⟩ := x
    simp only at hd
    (repeat' (first | refine awp_seq ?_ | refine awp_block ?_ | ((first | refine awp_skip ?_ | refine awp_exit ?_); simp only [ak, reduceIte]) | (refine awp_ret ?_; simp only [ak, reduceIte]; simp [f23, fi, fn, hlt, hk3, hlb, hd]) | (refine awp_cond ?_; simp [f23, fi, fn, hlt, hk3, hlb, hd]; (try with_reducible refine ⟨?_, ?_⟩) <;> (try with_reducible intro hc) <;> try (exfalso; omega)) | ((first | (refine w_e [] ?_; intro J hJ; simp only []) | (refine w_q ?_; intro J hJ) | refine e_go ?_); simp [f23, fi, fn, hlt, hk3, hlb, hd]; (repeat refine ca ?_); (try ((try with_reducible refine ⟨?_, ?_⟩) <;> (try with_reducible intro hnil) <;> refine hJ _ _ ?_ <;> clear hJ J <;> simp only [ak, reduceIte] <;> try subst hnil)))))
    generalize s.new (.box 40 3 (edL ⟨xi, xa, xb⟩)) = s1 at *
    generalize hpx : s.next = px at *
    (repeat (refine awp_seq ?_))
    (refine w_s [] [st.next, st.next + 2, px] [(0, true), (1, true), (2, true), (4, true), (5, true), (6, true), (3, true), (7, true), (8, true)] ?_; intro J hJ; simp [f3, f5, A1, A3, hX1]; (repeat refine ca ?_); (try ((try with_reducible refine ⟨?_, ?_⟩) <;> (try with_reducible intro hnil) <;> refine hJ _ _ ?_ <;> clear hJ J <;> simp only [ak, reduceIte] <;> try subst hnil)))
    refine dcallK_ofE (k1 _ (by omega)) (by simp) ?_; rintro r s2 ⟨rfl, hk2⟩
    have hA2 := hA1.keeps hk2
    have hX2 := (hk2.H _ hl1).trans hX1
    have hn2 := hk2.next
    have hR2 := hR1.keeps hk2
    obtain ⟨B1, B2, B3, B4, B5, B6⟩ := hA2
    have hA2 : At4 a b c st s2 := ⟨B1, B2, B3, B4, B5, B6⟩
    refine ⟨fun _ => by simp [A1, A3, B1, B3, hX1, hX2], ?_⟩
    (refine d_go ?_; simp [f3, f5, B1, B3, hX2]; (repeat refine ca ?_); (try ((try with_reducible refine ⟨?_, ?_⟩) <;> (try with_reducible intro hnil) <;> refine hJ _ _ ?_ <;> clear hJ J <;> simp only [ak, reduceIte] <;> try subst hnil)))
    refine dcallK_ofE (k2 _ (by omega)) (by simp) ?_; rintro r s3 ⟨rfl, hk3⟩
    have hA3 := hA2.keeps hk3
    have hX3 := (hk3.H _ (by omega)).trans hX2
    have hn3 := hk3.next
    have hR3 := hR2.keeps hk3
    obtain ⟨C1, C2, C3, C4, C5, C6⟩ := hA3
    have hA3 : At4 a b c st s3 := ⟨C1, C2, C3, C4, C5, C6⟩
    refine ⟨fun _ => by simp [A1, A3, B1, B3, C1, C3, hX1, hX2, hX3], ?_⟩
    (refine d_go ?_; simp [f3, f5, C1, C3, hX3]; (repeat refine ca ?_); (try ((try with_reducible refine ⟨?_, ?_⟩) <;> (try with_reducible intro hnil) <;> refine hJ _ _ ?_ <;> clear hJ J <;> simp only [ak, reduceIte] <;> try subst hnil)))
    refine dcallK_ofE (belongs (decide (⟨xi, xa, xb⟩ ∈ a.es)) true (decide (⟨xi, xa, xb⟩ ∈ c.es)) _) (by simp) ?_; rintro r s4 ⟨rfl, rfl⟩
    refine ⟨fun _ => by simp [A1, A3, B1, B3, C1, C3, hX1, hX2, hX3], ?_⟩
    have hq : ((true && decide (⟨xi, xa, xb⟩ ∈ c.es)) || (true && !decide (⟨xi, xa, xb⟩ ∈ a.es)) || (decide (⟨xi, xa, xb⟩ ∈ c.es) && !decide (⟨xi, xa, xb⟩ ∈ a.es))) = q1 a.es c.es ⟨xi, xa, xb⟩ := by
      rw [hq1]; cases decide (⟨xi, xa, xb⟩ ∈ c.es) <;> cases decide (⟨xi, xa, xb⟩ ∈ a.es) <;> rfl
    rw [hq]
    (refine d_go ?_; simp [C1, C3, hX3]; (repeat refine ca ?_); (try ((try with_reducible refine ⟨?_, ?_⟩) <;> (try with_reducible intro hnil) <;> refine hJ _ _ ?_ <;> clear hJ J <;> simp only [ak, reduceIte] <;> try subst hnil)))
    obtain ⟨t, f9, ⟨t0, tl, tn⟩, htH⟩ := hR3
    have m1 : ¬ t = s4.next := by omega
    have m2 : ¬ px = t := by rintro rfl; rw [hX3] at htH; cases htH
    have m3 : ¬ px = s4.next := by omega
    by_cases hp : q1 a.es c.es ⟨xi, xa, xb⟩ = true
    · rw [if_pos hp] at hst
      (repeat' (first | refine awp_seq ?_ | refine awp_block ?_ | ((first | refine awp_skip ?_ | refine awp_exit ?_); simp only [ak, reduceIte]) | (refine awp_ret ?_; simp only [ak, reduceIte]; simp [hp, f9, hX3, htH, t0, m1, m2, m3, hFl]) | (refine awp_cond ?_; simp [hp, f9, hX3, htH, t0, m1, m2, m3, hFl]; (try with_reducible refine ⟨?_, ?_⟩) <;> (try with_reducible intro hc) <;> try (exfalso; omega)) | ((first | (refine w_e [] ?_; intro J hJ; simp only []) | (refine w_q ?_; intro J hJ) | refine e_go ?_); simp [hp, f9, hX3, htH, t0, m1, m2, m3, hFl]; (repeat refine ca ?_); (try ((try with_reducible refine ⟨?_, ?_⟩) <;> (try with_reducible intro hnil) <;> refine hJ _ _ ?_ <;> clear hJ J <;> simp only [ak, reduceIte] <;> try subst hnil)))))
      refine hJJ _ _ (by simp [fi]) (by simp [fn]) ⟨⟨by simp [f3], by simp [f4], by simp [f5], by simp [f6], by simp [f7], by simp [f8], by simp [f23]⟩, ((hA3.new _).set tl _).new _, s4.next + 1, by rw [hst, hpush]; simp, ⟨by omega, by omega, by simp⟩, by rw [hst]; simp⟩
    · have hp : q1 a.es c.es ⟨xi, xa, xb⟩ = false := by simpa using hp
      rw [hp, if_neg (by simp)] at hst
      (repeat' (first | refine awp_seq ?_ | refine awp_block ?_ | ((first | refine awp_skip ?_ | refine awp_exit ?_); simp only [ak, reduceIte]) | (refine awp_ret ?_; simp only [ak, reduceIte]; simp [hp]) | (refine awp_cond ?_; simp [hp]; (try with_reducible refine ⟨?_, ?_⟩) <;> (try with_reducible intro hc) <;> try (exfalso; omega)) | ((first | (refine w_e [] ?_; intro J hJ; simp only []) | (refine w_q ?_; intro J hJ) | refine e_go ?_); simp [hp]; (repeat refine ca ?_); (try ((try with_reducible refine ⟨?_, ?_⟩) <;> (try with_reducible intro hnil) <;> refine hJ _ _ ?_ <;> clear hJ J <;> simp only [ak, reduceIte] <;> try subst hnil)))))
      exact hJJ _ _ (by simp [fi]) (by simp [fn]) ⟨⟨by simp [f3], by simp [f4], by simp [f5], by simp [f6], by simp [f7], by simp [f8], by simp [f23]⟩, hA3, t, by rw [hst]; simp [f9], ⟨t0, tl, tn⟩, by rw [hst]; exact htH⟩
  rintro fr s ⟨⟨f3, f4, f5, f6, f7, f8, f23⟩, hA, hR⟩
  rw [List.take_length] at hR
  have hEl := List.length_filter_le (q1 a.es c.es) b.es
  generalize hE : b.es.filter (q1 a.es c.es) = E at *
  obtain ⟨A1, A2, A3, A4, A5, A6⟩ := hA
  have hA : At4 a b c st s := ⟨A1, A2, A3, A4, A5, A6⟩
  (repeat' (first | refine awp_seq ?_ | refine awp_block ?_ | ((first | refine awp_skip ?_ | refine awp_exit ?_); simp only [ak, reduceIte]) | (refine awp_ret ?_; simp only [ak, reduceIte]; simp [f5, A3]) | (refine awp_cond ?_; simp [f5, A3]; (try with_reducible refine ⟨?_, ?_⟩) <;> (try with_reducible intro hc) <;> try (exfalso; omega)) | ((first | (refine w_e [] ?_; intro J hJ; simp only []) | (refine w_q ?_; intro J hJ) | refine e_go ?_); simp [f5, A3]; (repeat refine ca ?_); (try ((try with_reducible refine ⟨?_, ?_⟩) <;> (try with_reducible intro hnil) <;> refine hJ _ _ ?_ <;> clear hJ J <;> simp only [ak, reduceIte] <;> try subst hnil)))))
  refine awp_range 46 45 47 66 (c.es.length) (fun j fr st2 => (fr 3 = .pt st.next 0 ∧ fr 4 = .pt (st.next + 1) 0 ∧ fr 5 = .pt (st.next + 2) 0 ∧ fr 6 = .pt (st.next + 3) 0 ∧ fr 7 = u 0 ∧ fr 8 = i 0 ∧ fr 44 = .sl 0 c.es.length (eds c.es)) ∧ At4 a b c st st2 ∧ RowO st st2 (fr 9) (E ++ (c.es.take j).filter (q2 a.es b.es))) ?_ ?_ ?_
  · exact ⟨⟨by simp [f3], by simp [f4], by simp [f5], by simp [f6], by simp [f7], by simp [f8], by simp⟩, hA, by simpa using hR⟩
  · clear f3 f4 f5 f6 f7 f8 f23 hA hR A1 A2 A3 A4 A5 A6 fr s
    rintro j fr s hlt ⟨⟨f3, f4, f5, f6, f7, f8, f44⟩, hA, hR⟩ fi fn JJ hJJ
    have hd := eds_drop c.es j hlt
    have hk3 : j * 3 < c.es.length * 3 := by omega
    have hst := filterE_take c.es (q2 a.es b.es) j hlt
    have hle := List.length_filter_le (q2 a.es b.es) (c.es.take j)
    rw [List.length_take] at hle
    generalize c.es.getD j ed0 = x at *
    generalize (c.es.take j).filter (q2 a.es b.es) = F at *
    have hq2 : q2 a.es b.es x = (!decide (x ∈ b.es) && !decide (x ∈ a.es)) := rfl
    have hGl : (E ++ F).length = E.length + F.length := by simp
    have happ : ∀ y : Ed, E ++ (F ++ [y]) = E ++ F ++ [y] := fun y => by simp
    generalize hG : E ++ F = G at *
    have hFl := eds_length G
    have hpush := eds_snoc G x
    have k1 := hasEdge b.es 0 x
    have k2 := hasEdge a.es 0 x
    have hA1 := hA.new (.box 40 3 (edL x))
    obtain ⟨A1, A2, A3, A4, A5, A6⟩ := hA1
    have hA1 : At4 a b c st (s.new (.box 40 3 (edL x))) := ⟨A1, A2, A3, A4, A5, A6⟩
    have hX1 : (s.new (.box 40 3 (edL x))).H s.next = .box 40 3 (edL x) := by simp
    have hl1 : s.next < (s.new (.box 40 3 (edL x))).next := by simp
    have hR1 := hR.keeps (Keeps.new s (.box 40 3 (edL x)))
    have hgn : 0 < s.next := by have := hA.2.2.2.2.1; omega
    obtain ⟨xi, xa, xb⟩ := x
    simp only at hd
    have c2 : ¬ st.next + 1 = s.next := by have := hA.2.2.2.2.1; omega
    have A2' := hA.2.1
    (repeat' (first | refine awp_seq ?_ | refine awp_block ?_ | ((first | refine awp_skip ?_ | refine awp_exit ?_); simp only [ak, reduceIte]) | (refine awp_ret ?_; simp only [ak, reduceIte]; simp [f44, f4, fi, fn, hlt, hk3, hlc, hd, c2, A2']) | (refine awp_cond ?_; simp [f44, f4, fi, fn, hlt, hk3, hlc, hd, c2, A2']; (try with_reducible refine ⟨?_, ?_⟩) <;> (try with_reducible intro hc) <;> try (exfalso; omega)) | ((first | (refine w_e [] ?_; intro J hJ; simp only []) | (refine w_q ?_; intro J hJ) | refine e_go ?_); simp [f44, f4, fi, fn, hlt, hk3, hlc, hd, c2, A2']; (repeat refine ca ?_); (try ((try with_reducible refine ⟨?_, ?_⟩) <;> (try with_reducible intro hnil) <;> refine hJ _ _ ?_ <;> clear hJ J <;> simp only [ak, reduceIte] <;> try subst hnil)))))
    generalize s.new (.box 40 3 (edL ⟨xi, xa, xb⟩)) = s1 at *
    generalize hpx : s.next = px at *
    refine callK_ofE (k1 _ (by omega)) (by simp) ?_; rintro r s2 ⟨rfl, hk2⟩
    have hA2 := hA1.keeps hk2
    have hX2 := (hk2.H _ hl1).trans hX1
    have hn2 := hk2.next
    have hR2 := hR1.keeps hk2
    obtain ⟨B1, B2, B3, B4, B5, B6⟩ := hA2
    have hA2 : At4 a b c st s2 := ⟨B1, B2, B3, B4, B5, B6⟩
    by_cases hxb : (⟨xi, xa, xb⟩ : Ed) ∈ b.es
    · have hq : q2 a.es b.es ⟨xi, xa, xb⟩ = false := by rw [hq2]; simp [hxb]
      rw [hq, if_neg (by simp)] at hst
      (repeat' (first | refine awp_seq ?_ | refine awp_block ?_ | ((first | refine awp_skip ?_ | refine awp_exit ?_); simp only [ak, reduceIte]) | (refine awp_ret ?_; simp only [ak, reduceIte]; simp [hxb]) | (refine awp_cond ?_; simp [hxb]; (try with_reducible refine ⟨?_, ?_⟩) <;> (try with_reducible intro hc) <;> try (exfalso; omega)) | ((first | (refine w_e [] ?_; intro J hJ; simp only []) | (refine w_q ?_; intro J hJ) | refine e_go ?_); simp [hxb]; (repeat refine ca ?_); (try ((try with_reducible refine ⟨?_, ?_⟩) <;> (try with_reducible intro hnil) <;> refine hJ _ _ ?_ <;> clear hJ J <;> simp only [ak, reduceIte] <;> try subst hnil)))))
      exact hJJ _ _ (by simp [fi]) (by simp [fn]) ⟨⟨by simp [f3], by simp [f4], by simp [f5], by simp [f6], by simp [f7], by simp [f8], by simp [f44]⟩, hA2, by obtain ⟨t, f9, h9⟩ := hR2; rw [hst, hG]; exact ⟨t, by simpa using f9, h9⟩⟩
    (refine e_go ?_; simp [hxb, f3, B1, hX2]; (repeat refine ca ?_); (try ((try with_reducible refine ⟨?_, ?_⟩) <;> (try with_reducible intro hnil) <;> refine hJ _ _ ?_ <;> clear hJ J <;> simp only [ak, reduceIte] <;> try subst hnil)))
    refine callK_ofE (k2 _ (by omega)) (by simp) ?_; rintro r s3 ⟨rfl, hk3⟩
    have hA3 := hA2.keeps hk3
    have hX3 := (hk3.H _ (by omega)).trans hX2
    have hn3 := hk3.next
    have hR3 := hR2.keeps hk3
    (refine e_go ?_; simp []; (repeat refine ca ?_); (try ((try with_reducible refine ⟨?_, ?_⟩) <;> (try with_reducible intro hnil) <;> refine hJ _ _ ?_ <;> clear hJ J <;> simp only [ak, reduceIte] <;> try subst hnil)))
    refine callK_ofE (belongs (decide (⟨xi, xa, xb⟩ ∈ a.es)) false true _) (by simp) ?_; rintro r s4 ⟨rfl, rfl⟩
    have hq : ((false && true) || (false && !decide (⟨xi, xa, xb⟩ ∈ a.es)) || (true && !decide (⟨xi, xa, xb⟩ ∈ a.es))) = q2 a.es b.es ⟨xi, xa, xb⟩ := by
      rw [hq2]; simp [hxb]
    rw [hq]
    obtain ⟨t, f9, ⟨t0, tl, tn⟩, htH⟩ := hR3
    have m1 : ¬ t = s4.next := by omega
    have m2 : ¬ px = t := by rintro rfl; rw [hX3] at htH; cases htH
    have m3 : ¬ px = s4.next := by omega
    by_cases hp : q2 a.es b.es ⟨xi, xa, xb⟩ = true
    · rw [if_pos hp] at hst
      (repeat' (first | refine awp_seq ?_ | refine awp_block ?_ | ((first | refine awp_skip ?_ | refine awp_exit ?_); simp only [ak, reduceIte]) | (refine awp_ret ?_; simp only [ak, reduceIte]; simp [hp, f9, hX3, htH, t0, m1, m2, m3, hFl]) | (refine awp_cond ?_; simp [hp, f9, hX3, htH, t0, m1, m2, m3, hFl]; (try with_reducible refine ⟨?_, ?_⟩) <;> (try with_reducible intro hc) <;> try (exfalso; omega)) | ((first | (refine w_e [] ?_; intro J hJ; simp only []) | (refine w_q ?_; intro J hJ) | refine e_go ?_); simp [hp, f9, hX3, htH, t0, m1, m2, m3, hFl]; (repeat refine ca ?_); (try ((try with_reducible refine ⟨?_, ?_⟩) <;> (try with_reducible intro hnil) <;> refine hJ _ _ ?_ <;> clear hJ J <;> simp only [ak, reduceIte] <;> try subst hnil)))))
      refine hJJ _ _ (by simp [fi]) (by simp [fn]) ⟨⟨by simp [f3], by simp [f4], by simp [f5], by simp [f6], by simp [f7], by simp [f8], by simp [f44]⟩, ((hA3.new _).set tl _).new _, s4.next + 1, by rw [hst, happ, hpush]; simp, ⟨by omega, by omega, by simp⟩, by rw [hst, happ]; simp⟩
    · have hp : q2 a.es b.es ⟨xi, xa, xb⟩ = false := by simpa using hp
      rw [hp, if_neg (by simp)] at hst
      (repeat' (first | refine awp_seq ?_ | refine awp_block ?_ | ((first | refine awp_skip ?_ | refine awp_exit ?_); simp only [ak, reduceIte]) | (refine awp_ret ?_; simp only [ak, reduceIte]; simp [hp]) | (refine awp_cond ?_; simp [hp]; (try with_reducible refine ⟨?_, ?_⟩) <;> (try with_reducible intro hc) <;> try (exfalso; omega)) | ((first | (refine w_e [] ?_; intro J hJ; simp only []) | (refine w_q ?_; intro J hJ) | refine e_go ?_); simp [hp]; (repeat refine ca ?_); (try ((try with_reducible refine ⟨?_, ?_⟩) <;> (try with_reducible intro hnil) <;> refine hJ _ _ ?_ <;> clear hJ J <;> simp only [ak, reduceIte] <;> try subst hnil)))))
      exact hJJ _ _ (by simp [fi]) (by simp [fn]) ⟨⟨by simp [f3], by simp [f4], by simp [f5], by simp [f6], by simp [f7], by simp [f8], by simp [f44]⟩, hA3, t, by rw [hst, hG]; simp [f9], ⟨t0, tl, tn⟩, by rw [hst, hG]; exact htH⟩
  clear f3 f4 f5 f6 f7 f8 f23 hA hR A1 A2 A3 A4 A5 A6 fr s
  rintro fr s ⟨⟨f3, f4, f5, f6, f7, f8, f44⟩, hA, hR⟩
  rw [List.take_length] at hR
  have hFl := List.length_filter_le (q2 a.es b.es) c.es
  have hlP : (picks a.es b.es c.es).length ≤ 10000 := by
    unfold picks
    rw [List.length_append, hE]; omega
  have hpk : E ++ c.es.filter (q2 a.es b.es) = picks a.es b.es c.es := by rw [← hE]; rfl
  rw [hpk] at hR
  clear hE hpk hEl hFl
  have hposP : ∀ x ∈ picks a.es b.es c.es, 0 < x.id := fun x hx => by
    rcases picks_mem.1 hx with h | h | h
    · have := hb.pos x h.1; omega
    · have := hb.pos x h.1; omega
    · have := hc.pos x h.1; omega
  have hnv : (nums a.vs b.vs c.vs).Nodup := vpicks_nodup hb.vnodup hc.vnodup
  have hUR : ∀ V d x, V.Pairwise (· < ·) → (∀ y, y ∈ V ↔ y ∈ nums a.vs b.vs c.vs) → MinDup ((picks a.es b.es c.es).map (·.id)) d → ((d ≠ 0 ∧ x = ⟨gr0, d, 26⟩) ∨ (d = 0 ∧ ∃ E : List Ed, (E.map (·.id)).Pairwise (· < ·) ∧ (∀ y, y ∈ E ↔ y ∈ picks a.es b.es c.es) ∧ x = uniV V E)) → UniR a b c x := fun V d x h1 h2 h3 h4 => ⟨V, d, h1, h2, h3, h4⟩
  have hmk : ∀ x : Un3, UniR a b c x → ∀ st', Keeps st st' → UofP a b c st (.tu [.ag (grL x.g), u x.n, i x.e]) st' := fun x hx st' hk => ⟨⟨x, rfl, hx⟩, hk⟩
  obtain ⟨tt, f9, -, -⟩ := hR
  generalize hPk : picks a.es b.es c.es = P at *
  have hlp := eds_length P
  (repeat' (first | refine awp_seq ?_ | refine awp_block ?_ | ((first | refine awp_skip ?_ | refine awp_exit ?_); simp only [ak, reduceIte]) | (refine awp_ret ?_; simp only [ak, reduceIte]; simp [f9]) | (refine awp_cond ?_; simp [f9]; (try with_reducible refine ⟨?_, ?_⟩) <;> (try with_reducible intro hc) <;> try (exfalso; omega)) | ((first | (refine w_e [] ?_; intro J hJ; simp only []) | (refine w_q ?_; intro J hJ) | refine e_go ?_); simp [f9]; (repeat refine ca ?_); (try ((try with_reducible refine ⟨?_, ?_⟩) <;> (try with_reducible intro hnil) <;> refine hJ _ _ ?_ <;> clear hJ J <;> simp only [ak, reduceIte] <;> try subst hnil)))))
  refine awp_range 69 68 70 100 (P.length) (fun j fr st2 => (fr 3 = .pt st.next 0 ∧ fr 4 = .pt (st.next + 1) 0 ∧ fr 5 = .pt (st.next + 2) 0 ∧ fr 6 = .pt (st.next + 3) 0 ∧ fr 7 = u 0 ∧ fr 8 = i 0 ∧ fr 9 = .sl tt P.length (eds P) ∧ fr 67 = .sl tt P.length (eds P)) ∧ At4 a b c st st2 ∧ ∃ d, fr 14 = u d ∧ MinDup ((P.take j).map (·.id)) d) ?_ ?_ ?_
  · exact ⟨⟨by simp [f3], by simp [f4], by simp [f5], by simp [f6], by simp [f7], by simp [f8], by simp [f9], by simp⟩, hA, 0, by simp, by simpa using MinDup.nil⟩
  · clear f3 f4 f5 f6 f7 f8 f9 f44 hA fr s
    rintro q fr s hlt ⟨⟨f3, f4, f5, f6, f7, f8, f9, f67⟩, hA, d, f14, hmd⟩ fi fn JJ hJJ
    have hd := eds_drop P q hlt
    have hk3 : q * 3 < P.length * 3 := by omega
    have htk := tk_at P q hlt
    have hxp : 0 < (P.getD q ed0).id := by rw [getDE P q hlt]; exact hposP _ (List.getElem_mem _)
    have hdl : d = 0 ∨ d ∈ (P.take q).map (·.id) := by
      rcases hmd with ⟨h, _⟩ | ⟨_, h, _⟩
      · exact .inl h
      · exact .inr (List.count_pos_iff.1 (by omega))
    have hmd2 := hmd.snoc hxp (fun y hy => by
      obtain ⟨z, hz, rfl⟩ := List.mem_map.1 hy
      exact hposP _ (List.take_subset _ _ hz))
    have hfin : MinDup ((P.take (q + 1)).map (·.id)) (bdJ d (P.getD q ed0).id (P.take q)) := by
      rw [htk, List.map_append]; exact hmd2
    generalize P.getD q ed0 = x at *
    have hA1 := hA.new (.box 40 3 (edL x))
    have hX1 : (s.new (.box 40 3 (edL x))).H s.next = .box 40 3 (edL x) := by simp
    have hl1 : s.next < (s.new (.box 40 3 (edL x))).next := by simp
    obtain ⟨xi, xa, xb⟩ := x
    simp only at hd hxp hfin
    have hsub : (eds P).take (q * 3) = eds (P.take q) := eds_tk P q
    have hln : (P.take q).length = q := by rw [List.length_take]; omega
    have hq3 : q * 3 ≤ P.length * 3 := by omega
    have hqP : q ≤ P.length := by omega
    (repeat' (first | refine awp_seq ?_ | refine awp_block ?_ | ((first | refine awp_skip ?_ | refine awp_exit ?_); simp only [ak, reduceIte]) | (refine awp_ret ?_; simp only [ak, reduceIte]; simp [f9, f67, fi, fn, hlt, hk3, hlp, hd, hsub, hq3, hqP]) | (refine awp_cond ?_; simp [f9, f67, fi, fn, hlt, hk3, hlp, hd, hsub, hq3, hqP]; (try with_reducible refine ⟨?_, ?_⟩) <;> (try with_reducible intro hc) <;> try (exfalso; omega)) | ((first | (refine w_e [] ?_; intro J hJ; simp only []) | (refine w_q ?_; intro J hJ) | refine e_go ?_); simp [f9, f67, fi, fn, hlt, hk3, hlp, hd, hsub, hq3, hqP]; (repeat refine ca ?_); (try ((try with_reducible refine ⟨?_, ?_⟩) <;> (try with_reducible intro hnil) <;> refine hJ _ _ ?_ <;> clear hJ J <;> simp only [ak, reduceIte] <;> try subst hnil)))))
    generalize s.new (.box 40 3 (edL ⟨xi, xa, xb⟩)) = s1 at *
    have hsl := hA.2.2.2.2.1
    generalize hpx : s.next = px at *
    refine awp_range 78 77 79 99 (q) (fun j fr st2 => (fr 3 = .pt st.next 0 ∧ fr 4 = .pt (st.next + 1) 0 ∧ fr 5 = .pt (st.next + 2) 0 ∧ fr 6 = .pt (st.next + 3) 0 ∧ fr 7 = u 0 ∧ fr 8 = i 0 ∧ fr 9 = .sl tt P.length (eds P) ∧ fr 67 = .sl tt P.length (eds P) ∧ fr 68 = i P.length ∧ fr 69 = i q ∧ fr 16 = .pt px 0 ∧ ∃ t7, fr 76 = .sl t7 q (eds (P.take q))) ∧ At4 a b c st st2 ∧ (st2.H px = .box 40 3 (edL ⟨xi, xa, xb⟩) ∧ px < st2.next) ∧ fr 14 = u (bdJ d xi ((P.take q).take j))) ?_ ?_ ?_
    · exact ⟨⟨by simp [f3], by simp [f4], by simp [f5], by simp [f6], by simp [f7], by simp [f8], by simp [f9], by simp [f67], by simp [fn], by simp [fi], by simp, _, by simp; rfl⟩, hA1, ⟨hX1, hl1⟩, by rw [List.take_zero, bdJ_nil]; simp [f14]⟩
    · clear f3 f4 f5 f6 f7 f8 f9 f67 f14 fi fn hA1 hX1 hl1 hmd hmd2
      rintro j fr s2 hltj ⟨⟨f3, f4, f5, f6, f7, f8, f9, f67, f68, f69, f16, t7, f76⟩, hA, ⟨hX, hpl⟩, f14⟩ fi fn J2 hJ2
      have hdy := eds_drop (P.take q) j (by omega)
      have hj3 : j * 3 < q * 3 := by omega
      have hlq := eds_length (P.take q)
      rw [hln] at hlq
      have hty := tk_at (P.take q) j (by omega)
      have hb := fun y => bdJ_snoc d xi ((P.take q).take j) y hxp
      generalize (P.take q).getD j ed0 = y at *
      have hb := hb y
      rw [← hty] at hb
      generalize bdJ d xi ((P.take q).take j) = cur at *
      have p1 : ¬ px = s2.next := by omega
      obtain ⟨yi, ya, yb⟩ := y
      simp only at hdy hb
      by_cases hxy : xi = yi
      · by_cases hc0 : cur = 0 ∨ xi < cur
        · rw [if_pos ⟨hxy, hc0⟩] at hb
          by_cases hz : cur = 0
          · (repeat' (first | refine awp_seq ?_ | refine awp_block ?_ | ((first | refine awp_skip ?_ | refine awp_exit ?_); simp only [ak, reduceIte]) | (refine awp_ret ?_; simp only [ak, reduceIte]; simp [f14, f16, f76, fi, fn, hltj, hdy, hj3, hlq, hX, p1, hxy, hz]) | (refine awp_cond ?_; simp [f14, f16, f76, fi, fn, hltj, hdy, hj3, hlq, hX, p1, hxy, hz]; (try with_reducible refine ⟨?_, ?_⟩) <;> (try with_reducible intro hc) <;> try (exfalso; omega)) | ((first | (refine w_e [] ?_; intro J hJ; simp only []) | (refine w_q ?_; intro J hJ) | refine e_go ?_); simp [f14, f16, f76, fi, fn, hltj, hdy, hj3, hlq, hX, p1, hxy, hz]; (repeat refine ca ?_); (try ((try with_reducible refine ⟨?_, ?_⟩) <;> (try with_reducible intro hnil) <;> refine hJ _ _ ?_ <;> clear hJ J <;> simp only [ak, reduceIte] <;> try subst hnil)))))
            refine hJ2 _ _ (by simp [fi]) (by simp [fn]) ⟨⟨by simp [f3], by simp [f4], by simp [f5], by simp [f6], by simp [f7], by simp [f8], by simp [f9], by simp [f67], by simp [f68], by simp [f69], by simp [f16], t7, by simp [f76]⟩, hA.new _, ⟨by simp [p1, hX, hxy], by simp; omega⟩, by rw [hb]; simp [hxy]⟩
          · have hl : yi < cur := by omega
            have hzb : (cur == 0) = false := by simpa using hz
            (repeat' (first | refine awp_seq ?_ | refine awp_block ?_ | ((first | refine awp_skip ?_ | refine awp_exit ?_); simp only [ak, reduceIte]) | (refine awp_ret ?_; simp only [ak, reduceIte]; simp [f14, f16, f76, fi, fn, hltj, hdy, hj3, hlq, hX, p1, hxy, hz, hzb, hl]) | (refine awp_cond ?_; simp [f14, f16, f76, fi, fn, hltj, hdy, hj3, hlq, hX, p1, hxy, hz, hzb, hl]; (try with_reducible refine ⟨?_, ?_⟩) <;> (try with_reducible intro hc) <;> try (exfalso; omega)) | ((first | (refine w_e [] ?_; intro J hJ; simp only []) | (refine w_q ?_; intro J hJ) | refine e_go ?_); simp [f14, f16, f76, fi, fn, hltj, hdy, hj3, hlq, hX, p1, hxy, hz, hzb, hl]; (repeat refine ca ?_); (try ((try with_reducible refine ⟨?_, ?_⟩) <;> (try with_reducible intro hnil) <;> refine hJ _ _ ?_ <;> clear hJ J <;> simp only [ak, reduceIte] <;> try subst hnil)))))
            refine hJ2 _ _ (by simp [fi]) (by simp [fn]) ⟨⟨by simp [f3], by simp [f4], by simp [f5], by simp [f6], by simp [f7], by simp [f8], by simp [f9], by simp [f67], by simp [f68], by simp [f69], by simp [f16], t7, by simp [f76]⟩, hA.new _, ⟨by simp [p1, hX, hxy], by simp; omega⟩, by rw [hb]; simp [hxy]⟩
        · rw [if_neg (fun h => hc0 h.2)] at hb
          have hz : ¬ cur = 0 := fun h => hc0 (.inl h)
          have hl : ¬ yi < cur := fun h => hc0 (.inr (by omega))
          have hzb : (cur == 0) = false := by simpa using hz
          (repeat' (first | refine awp_seq ?_ | refine awp_block ?_ | ((first | refine awp_skip ?_ | refine awp_exit ?_); simp only [ak, reduceIte]) | (refine awp_ret ?_; simp only [ak, reduceIte]; simp [f14, f16, f76, fi, fn, hltj, hdy, hj3, hlq, hX, p1, hxy, hz, hzb, hl]) | (refine awp_cond ?_; simp [f14, f16, f76, fi, fn, hltj, hdy, hj3, hlq, hX, p1, hxy, hz, hzb, hl]; (try with_reducible refine ⟨?_, ?_⟩) <;> (try with_reducible intro hc) <;> try (exfalso; omega)) | ((first | (refine w_e [] ?_; intro J hJ; simp only []) | (refine w_q ?_; intro J hJ) | refine e_go ?_); simp [f14, f16, f76, fi, fn, hltj, hdy, hj3, hlq, hX, p1, hxy, hz, hzb, hl]; (repeat refine ca ?_); (try ((try with_reducible refine ⟨?_, ?_⟩) <;> (try with_reducible intro hnil) <;> refine hJ _ _ ?_ <;> clear hJ J <;> simp only [ak, reduceIte] <;> try subst hnil)))))
          refine hJ2 _ _ (by simp [fi]) (by simp [fn]) ⟨⟨by simp [f3], by simp [f4], by simp [f5], by simp [f6], by simp [f7], by simp [f8], by simp [f9], by simp [f67], by simp [f68], by simp [f69], by simp [f16], t7, by simp [f76]⟩, hA.new _, ⟨by simp [p1, hX, hxy], by simp; omega⟩, by rw [hb]; simp [f14]⟩
      · rw [if_neg (fun h => hxy h.1)] at hb
        have hxb : (xi == yi) = false := by simpa using hxy
        (repeat' (first | refine awp_seq ?_ | refine awp_block ?_ | ((first | refine awp_skip ?_ | refine awp_exit ?_); simp only [ak, reduceIte]) | (refine awp_ret ?_; simp only [ak, reduceIte]; simp [f14, f16, f76, fi, fn, hltj, hdy, hj3, hlq, hX, p1, hxy, hxb]) | (refine awp_cond ?_; simp [f14, f16, f76, fi, fn, hltj, hdy, hj3, hlq, hX, p1, hxy, hxb]; (try with_reducible refine ⟨?_, ?_⟩) <;> (try with_reducible intro hc) <;> try (exfalso; omega)) | ((first | (refine w_e [] ?_; intro J hJ; simp only []) | (refine w_q ?_; intro J hJ) | refine e_go ?_); simp [f14, f16, f76, fi, fn, hltj, hdy, hj3, hlq, hX, p1, hxy, hxb]; (repeat refine ca ?_); (try ((try with_reducible refine ⟨?_, ?_⟩) <;> (try with_reducible intro hnil) <;> refine hJ _ _ ?_ <;> clear hJ J <;> simp only [ak, reduceIte] <;> try subst hnil)))))
        refine hJ2 _ _ (by simp [fi]) (by simp [fn]) ⟨⟨by simp [f3], by simp [f4], by simp [f5], by simp [f6], by simp [f7], by simp [f8], by simp [f9], by simp [f67], by simp [f68], by simp [f69], by simp [f16], t7, by simp [f76]⟩, hA.new _, ⟨by simp [p1, hX], by simp; omega⟩, by rw [hb]; simp [f14]⟩
    · clear f3 f4 f5 f6 f7 f8 f9 f67 f14 fi fn hA1 hX1 hl1 hmd hmd2
      rintro fr s2 ⟨⟨f3, f4, f5, f6, f7, f8, f9, f67, f68, f69, f16, t7, f76⟩, hA, -, f14⟩
      rw [List.take_of_length_le (by omega : (P.take q).length ≤ q)] at f14
      (repeat' (first | refine awp_seq ?_ | refine awp_block ?_ | ((first | refine awp_skip ?_ | refine awp_exit ?_); simp only [ak, reduceIte]) | (refine awp_ret ?_; simp only [ak, reduceIte]; simp []) | (refine awp_cond ?_; simp []; (try with_reducible refine ⟨?_, ?_⟩) <;> (try with_reducible intro hc) <;> try (exfalso; omega)) | ((first | (refine w_e [] ?_; intro J hJ; simp only []) | (refine w_q ?_; intro J hJ) | refine e_go ?_); simp []; (repeat refine ca ?_); (try ((try with_reducible refine ⟨?_, ?_⟩) <;> (try with_reducible intro hnil) <;> refine hJ _ _ ?_ <;> clear hJ J <;> simp only [ak, reduceIte] <;> try subst hnil)))))
      exact hJJ _ _ (by simp [f69]) (by simp [f68]) ⟨⟨by simp [f3], by simp [f4], by simp [f5], by simp [f6], by simp [f7], by simp [f8], by simp [f9], by simp [f67]⟩, hA, _, by simp [f14], hfin⟩
  clear f3 f4 f5 f6 f7 f8 f9 f44 hA fr s
  rintro fr s ⟨⟨f3, f4, f5, f6, f7, f8, f9, f67⟩, hA, d, f14, hmd⟩
  rw [List.take_length] at hmd
  obtain ⟨A1, A2, A3, A4, A5, A6⟩ := hA
  have hVr := insAll_rise idI (nums a.vs b.vs c.vs)
  rw [List.map_id'] at hVr
  have hVm := insAll_mem idI (nums a.vs b.vs c.vs) (by rw [List.map_id']; exact hnv)
  have hln : (nums a.vs b.vs c.vs).length ≤ 10000 := by
    unfold nums
    have := List.length_filter_le (p1 a.vs c.vs) b.vs
    have := List.length_filter_le (p2 a.vs b.vs) c.vs
    rw [List.length_append]; omega
  by_cases hd0 : d = 0
  rotate_left
  · have hr := hmk _ (hUR _ d _ hVr hVm hmd (.inl ⟨hd0, rfl⟩))
    have hdb : (d != 0) = true := by simpa using hd0
    (repeat' (first | refine awp_seq ?_ | refine awp_block ?_ | ((first | refine awp_skip ?_ | refine awp_exit ?_); simp only [ak, reduceIte]) | (refine awp_ret ?_; simp only [ak, reduceIte]; simp [f14, f6, A4, hd0, hdb]) | (refine awp_cond ?_; simp [f14, f6, A4, hd0, hdb]; (try with_reducible refine ⟨?_, ?_⟩) <;> (try with_reducible intro hc) <;> try (exfalso; omega)) | ((first | (refine w_e [] ?_; intro J hJ; simp only []) | (refine w_q ?_; intro J hJ) | refine e_go ?_); simp [f14, f6, A4, hd0, hdb]; (repeat refine ca ?_); (try ((try with_reducible refine ⟨?_, ?_⟩) <;> (try with_reducible intro hnil) <;> refine hJ _ _ ?_ <;> clear hJ J <;> simp only [ak, reduceIte] <;> try subst hnil)))))
    simp [z0, z0L]; exact hr _ (A6.set (by omega) _)
  subst hd0
  have hidn : (P.map idE).Nodup := by
    rcases hmd with ⟨_, h⟩ | ⟨h, _⟩
    · exact List.nodup_iff_count.2 h
    · exact absurd rfl h
  have hEr := insAll_rise idE P
  have hEm := insAll_mem idE P hidn
  have hEl := insAll_len idE P
  have hVl := insAll_len idI (nums a.vs b.vs c.vs)
  have hR := hUR _ 0 (uniV (insAll idI (nums a.vs b.vs c.vs)) (insAll idE P)) hVr hVm hmd (.inr ⟨rfl, _, hEr, hEm, rfl⟩)
  have hpos : ∀ x ∈ insAll idE P, 0 < x.id := fun x hx => hposP x (insAll_sub idE P x hx)
  clear hUR hVr hVm hmd hEr hEm hidn hposP
  (repeat' (first | refine awp_seq ?_ | refine awp_block ?_ | ((first | refine awp_skip ?_ | refine awp_exit ?_); simp only [ak, reduceIte]) | (refine awp_ret ?_; simp only [ak, reduceIte]; simp [f3, f4, f5, f14, A1, A2, A3]) | (refine awp_cond ?_; simp [f3, f4, f5, f14, A1, A2, A3]; (try with_reducible refine ⟨?_, ?_⟩) <;> (try with_reducible intro hc) <;> try (exfalso; omega)) | ((first | (refine w_e [] ?_; intro J hJ; simp only []) | (refine w_q ?_; intro J hJ) | refine e_go ?_); simp [f3, f4, f5, f14, A1, A2, A3]; (repeat refine ca ?_); (try ((try with_reducible refine ⟨?_, ?_⟩) <;> (try with_reducible intro hnil) <;> refine hJ _ _ ?_ <;> clear hJ J <;> simp only [ak, reduceIte] <;> try subst hnil)))))
  refine callK_ofE (Nums a.vs b.vs c.vs 0 0 0 s (by unfold small; omega) (by unfold small; omega) (by unfold small; omega)) (by simp) ?_; rintro r s1 ⟨rfl, hk1⟩
  (refine e_go ?_; simp [f9]; (repeat refine ca ?_); (try ((try with_reducible refine ⟨?_, ?_⟩) <;> (try with_reducible intro hnil) <;> refine hJ _ _ ?_ <;> clear hJ J <;> simp only [ak, reduceIte] <;> try subst hnil)))
  refine callK_ofE (Make (nums a.vs b.vs c.vs) P 0 tt s1 hln (by omega)) (by simp) ?_; rintro r s2 ⟨rfl, hk2⟩
  generalize insAll idI (nums a.vs b.vs c.vs) = V at *
  generalize insAll idE P = E at *
  have hel := eds_length E
  have hn2 := hk2.next
  have hn1 := hk1.next
  have hG2 := (hk2.H _ (by omega)).trans ((hk1.H _ A5).trans A4)
  have hK2 := (A6.trans hk1).trans hk2
  generalize hpg : s2.next = pg at *
  (repeat' (first | refine awp_seq ?_ | refine awp_block ?_ | ((first | refine awp_skip ?_ | refine awp_exit ?_); simp only [ak, reduceIte]) | (refine awp_ret ?_; simp only [ak, reduceIte]; simp []) | (refine awp_cond ?_; simp []; (try with_reducible refine ⟨?_, ?_⟩) <;> (try with_reducible intro hc) <;> try (exfalso; omega)) | ((first | (refine w_e [] ?_; intro J hJ; simp only []) | (refine w_q ?_; intro J hJ) | refine e_go ?_); simp []; (repeat refine ca ?_); (try ((try with_reducible refine ⟨?_, ?_⟩) <;> (try with_reducible intro hnil) <;> refine hJ _ _ ?_ <;> clear hJ J <;> simp only [ak, reduceIte] <;> try subst hnil)))))
  rw [hpg]
  have hg1 : (s2.new (.box 25 2 (grL ⟨V, E⟩))).H pg = .box 25 2 (grL ⟨V, E⟩) := by simp [hpg]
  refine awp_range 117 116 118 136 (E.length) (fun j fr st2 => (fr 6 = .pt (st.next + 3) 0 ∧ fr 7 = u 0 ∧ fr 8 = i 0 ∧ fr 19 = .pt pg 0 ∧ fr 115 = .sl 0 E.length (eds E)) ∧ (st2.H pg = .box 25 2 (grL ⟨V, E⟩) ∧ pg < st2.next) ∧ (st2.H (st.next + 3) = bzG ∧ st.next + 3 < st2.next ∧ Keeps st st2) ∧ ∀ k, k < j → dang V E k = 0) ?_ ?_ ?_
  · exact ⟨⟨by simp [f6], by simp [f7], by simp [f8], by simp, by simp⟩, ⟨hg1, by simp; omega⟩, ⟨by rw [new_H, if_neg (by omega)]; exact hG2, by simp; omega, hK2.trans (Keeps.new _ _)⟩, fun k h => by omega⟩
  · clear f3 f4 f5 f6 f7 f8 f9 f67 f14 hG2 hK2 hg1 A1 A2 A3 A4 A6 fr
    rintro j fr s3 hltj ⟨⟨f6, f7, f8, f19, f115⟩, ⟨hg, hgl⟩, ⟨hG, hlt, hK⟩, hno⟩ fi fn JJ hJJ
    have hd := eds_drop E j hltj
    have hk3 : j * 3 < E.length * 3 := by omega
    have hp := hpos (E.getD j ed0) (by rw [getDE E j hltj]; exact List.getElem_mem _)
    have hdj : dang V E j = if (E.getD j ed0).a ∈ V ∧ (E.getD j ed0).b ∈ V then 0 else (E.getD j ed0).id := rfl
    have hbad : dang V E j ≠ 0 → uniV V E = ⟨gr0, dang V E j, 27⟩ := fun h => by
      have := firstNZ_eq hltj hno rfl h
      unfold uniV
      rw [this, if_pos h]
    have hnx : dang V E j = 0 → ∀ k, k < j + 1 → dang V E k = 0 := fun h k hk => by
      rcases Nat.lt_or_ge k j with h1 | h1
      · exact hno k h1
      · obtain rfl : k = j := by omega
        exact h
    generalize dang V E j = dj at *
    generalize E.getD j ed0 = x at *
    obtain ⟨xi, xa, xb⟩ := x
    simp only at hd hp hdj
    have c0 : ¬ pg = s3.next := by omega
    have c1 : ¬ st.next + 3 = s3.next := by omega
    have hsV : small V := by unfold small; omega
    (repeat' (first | refine awp_seq ?_ | refine awp_block ?_ | ((first | refine awp_skip ?_ | refine awp_exit ?_); simp only [ak, reduceIte]) | (refine awp_ret ?_; simp only [ak, reduceIte]; simp [f19, f115, fi, fn, hltj, hk3, hel, hd, hg, c0]) | (refine awp_cond ?_; simp [f19, f115, fi, fn, hltj, hk3, hel, hd, hg, c0]; (try with_reducible refine ⟨?_, ?_⟩) <;> (try with_reducible intro hc) <;> try (exfalso; omega)) | ((first | (refine w_e [] ?_; intro J hJ; simp only []) | (refine w_q ?_; intro J hJ) | refine e_go ?_); simp [f19, f115, fi, fn, hltj, hk3, hel, hd, hg, c0]; (repeat refine ca ?_); (try ((try with_reducible refine ⟨?_, ?_⟩) <;> (try with_reducible intro hnil) <;> refine hJ _ _ ?_ <;> clear hJ J <;> simp only [ak, reduceIte] <;> try subst hnil)))))
    refine callK_ofE (Has ⟨V, E⟩ xa (s3.new (.box 40 3 (edL ⟨xi, xa, xb⟩))) hsV) (by simp) ?_; rintro r s5 ⟨rfl, hk5⟩
    have hn5 := hk5.next
    simp only [new_next] at hn5
    have hX5 := hk5.H s3.next (by simp)
    have hG5 := hk5.H (st.next + 3) (by simp; omega)
    have hg5 := hk5.H pg (by simp; omega)
    simp only [new_H, if_true, if_neg c1, if_neg c0] at hX5 hG5 hg5
    rw [hG] at hG5
    rw [hg] at hg5
    have hK5 := (hK.trans (Keeps.new s3 (.box 40 3 (edL ⟨xi, xa, xb⟩)))).trans hk5
    by_cases h1 : xa ∈ V
    rotate_left
    · clear hJJ
      rw [if_neg (fun h => h1 h.1)] at hdj
      rw [hbad (by omega), hdj] at hR
      have hr := hmk _ hR
      (repeat' (first | refine awp_seq ?_ | refine awp_block ?_ | ((first | refine awp_skip ?_ | refine awp_exit ?_); simp only [ak, reduceIte]) | (refine awp_ret ?_; simp only [ak, reduceIte]; simp [h1, hX5]) | (refine awp_cond ?_; simp [h1, hX5]; (try with_reducible refine ⟨?_, ?_⟩) <;> (try with_reducible intro hc) <;> try (exfalso; omega)) | ((first | (refine w_e [] ?_; intro J hJ; simp only []) | (refine w_q ?_; intro J hJ) | refine e_go ?_); simp [h1, hX5]; (repeat refine ca ?_); (try ((try with_reducible refine ⟨?_, ?_⟩) <;> (try with_reducible intro hnil) <;> refine hJ _ _ ?_ <;> clear hJ J <;> simp only [ak, reduceIte] <;> try subst hnil)))))
      (refine w_s [] [s3.next] [(1, true), (2, true), (0, true), (3, true), (4, true), (5, true)] ?_; intro J hJ; simp [f6, hX5, hG5]; (repeat refine ca ?_); (try ((try with_reducible refine ⟨?_, ?_⟩) <;> (try with_reducible intro hnil) <;> refine hJ _ _ ?_ <;> clear hJ J <;> simp only [ak, reduceIte] <;> try subst hnil)))
      (repeat' (first | refine awp_seq ?_ | refine awp_block ?_ | ((first | refine awp_skip ?_ | refine awp_exit ?_); simp only [ak, reduceIte]) | (refine awp_ret ?_; simp only [ak, reduceIte]; simp [f6]) | (refine awp_cond ?_; simp [f6]; (try with_reducible refine ⟨?_, ?_⟩) <;> (try with_reducible intro hc) <;> try (exfalso; omega)) | ((first | (refine w_e [] ?_; intro J hJ; simp only []) | (refine w_q ?_; intro J hJ) | refine e_go ?_); simp [f6]; (repeat refine ca ?_); (try ((try with_reducible refine ⟨?_, ?_⟩) <;> (try with_reducible intro hnil) <;> refine hJ _ _ ?_ <;> clear hJ J <;> simp only [ak, reduceIte] <;> try subst hnil)))))
      simp [z0, z0L]; exact hr _ (hK5.set (by omega) _)
    (refine e_go ?_; simp [h1, f19, hX5, hg5]; (repeat refine ca ?_); (try ((try with_reducible refine ⟨?_, ?_⟩) <;> (try with_reducible intro hnil) <;> refine hJ _ _ ?_ <;> clear hJ J <;> simp only [ak, reduceIte] <;> try subst hnil)))
    refine callK_ofE (Has ⟨V, E⟩ xb s5 hsV) (by simp) ?_; rintro r s6 ⟨rfl, hk6⟩
    have hn6 := hk6.next
    have hX6 := (hk6.H s3.next (by omega)).trans hX5
    have hG6 := (hk6.H (st.next + 3) (by omega)).trans hG5
    have hg6 := (hk6.H pg (by omega)).trans hg5
    have hK6 := hK5.trans hk6
    by_cases h2 : xb ∈ V
    · rw [if_pos ⟨h1, h2⟩] at hdj
      (repeat' (first | refine awp_seq ?_ | refine awp_block ?_ | ((first | refine awp_skip ?_ | refine awp_exit ?_); simp only [ak, reduceIte]) | (refine awp_ret ?_; simp only [ak, reduceIte]; simp [h2]) | (refine awp_cond ?_; simp [h2]; (try with_reducible refine ⟨?_, ?_⟩) <;> (try with_reducible intro hc) <;> try (exfalso; omega)) | ((first | (refine w_e [] ?_; intro J hJ; simp only []) | (refine w_q ?_; intro J hJ) | refine e_go ?_); simp [h2]; (repeat refine ca ?_); (try ((try with_reducible refine ⟨?_, ?_⟩) <;> (try with_reducible intro hnil) <;> refine hJ _ _ ?_ <;> clear hJ J <;> simp only [ak, reduceIte] <;> try subst hnil)))))
      exact hJJ _ _ (by simp [fi]) (by simp [fn]) ⟨⟨by simp [f6], by simp [f7], by simp [f8], by simp [f19], by simp [f115]⟩, ⟨hg6, by omega⟩, ⟨hG6, by omega, hK6⟩, hnx hdj⟩
    · clear hJJ
      rw [if_neg (fun h => h2 h.2)] at hdj
      rw [hbad (by omega), hdj] at hR
      have hr := hmk _ hR
      (repeat' (first | refine awp_seq ?_ | refine awp_block ?_ | ((first | refine awp_skip ?_ | refine awp_exit ?_); simp only [ak, reduceIte]) | (refine awp_ret ?_; simp only [ak, reduceIte]; simp [h2, hX6]) | (refine awp_cond ?_; simp [h2, hX6]; (try with_reducible refine ⟨?_, ?_⟩) <;> (try with_reducible intro hc) <;> try (exfalso; omega)) | ((first | (refine w_e [] ?_; intro J hJ; simp only []) | (refine w_q ?_; intro J hJ) | refine e_go ?_); simp [h2, hX6]; (repeat refine ca ?_); (try ((try with_reducible refine ⟨?_, ?_⟩) <;> (try with_reducible intro hnil) <;> refine hJ _ _ ?_ <;> clear hJ J <;> simp only [ak, reduceIte] <;> try subst hnil)))))
      (refine w_s [] [s3.next] [(1, true), (2, true), (0, true), (3, true), (4, true), (5, true)] ?_; intro J hJ; simp [f6, hX6, hG6]; (repeat refine ca ?_); (try ((try with_reducible refine ⟨?_, ?_⟩) <;> (try with_reducible intro hnil) <;> refine hJ _ _ ?_ <;> clear hJ J <;> simp only [ak, reduceIte] <;> try subst hnil)))
      (repeat' (first | refine awp_seq ?_ | refine awp_block ?_ | ((first | refine awp_skip ?_ | refine awp_exit ?_); simp only [ak, reduceIte]) | (refine awp_ret ?_; simp only [ak, reduceIte]; simp [f6]) | (refine awp_cond ?_; simp [f6]; (try with_reducible refine ⟨?_, ?_⟩) <;> (try with_reducible intro hc) <;> try (exfalso; omega)) | ((first | (refine w_e [] ?_; intro J hJ; simp only []) | (refine w_q ?_; intro J hJ) | refine e_go ?_); simp [f6]; (repeat refine ca ?_); (try ((try with_reducible refine ⟨?_, ?_⟩) <;> (try with_reducible intro hnil) <;> refine hJ _ _ ?_ <;> clear hJ J <;> simp only [ak, reduceIte] <;> try subst hnil)))))
      simp [z0, z0L]; exact hr _ (hK6.set (by omega) _)
  clear f3 f4 f5 f6 f7 f8 f9 f67 f14 hG2 hK2 hg1 A1 A2 A3 A4 A6 fr
  rintro fr s4 ⟨⟨f6, f7, f8, f19, f115⟩, ⟨hg, hgl⟩, ⟨hG, hlt, hK⟩, hno⟩
  have h0 : firstNZ (dang V E) E.length = 0 := firstNZ_zero hno
  have hU : uniV V E = if 64 < V.length ∨ 160 < E.length then ⟨gr0, 0, 6⟩ else ⟨⟨V, E⟩, 0, 0⟩ := by
    unfold uniV
    rw [h0, if_neg (by simp)]
  rw [hU] at hR
  by_cases h1 : 64 < V.length
  · rw [if_pos (.inl h1)] at hR
    have hr := hmk _ hR
    have h1' : (64 : Int) < V.length := by omega
    (repeat' (first | refine awp_seq ?_ | refine awp_block ?_ | ((first | refine awp_skip ?_ | refine awp_exit ?_); simp only [ak, reduceIte]) | (refine awp_ret ?_; simp only [ak, reduceIte]; simp [f19, hg, h1, h1', f6, hG]) | (refine awp_cond ?_; simp [f19, hg, h1, h1', f6, hG]; (try with_reducible refine ⟨?_, ?_⟩) <;> (try with_reducible intro hc) <;> try (exfalso; omega)) | ((first | (refine w_e [] ?_; intro J hJ; simp only []) | (refine w_q ?_; intro J hJ) | refine e_go ?_); simp [f19, hg, h1, h1', f6, hG]; (repeat refine ca ?_); (try ((try with_reducible refine ⟨?_, ?_⟩) <;> (try with_reducible intro hnil) <;> refine hJ _ _ ?_ <;> clear hJ J <;> simp only [ak, reduceIte] <;> try subst hnil)))))
    simp [z0, z0L]; exact hr _ (hK.set (by omega) _)
  have h1' : ¬ (64 : Int) < V.length := by omega
  by_cases h2 : 160 < E.length
  · rw [if_pos (.inr h2)] at hR
    have hr := hmk _ hR
    have h2' : (160 : Int) < E.length := by omega
    (repeat' (first | refine awp_seq ?_ | refine awp_block ?_ | ((first | refine awp_skip ?_ | refine awp_exit ?_); simp only [ak, reduceIte]) | (refine awp_ret ?_; simp only [ak, reduceIte]; simp [f19, hg, h1, h1', h2, h2', f6, hG]) | (refine awp_cond ?_; simp [f19, hg, h1, h1', h2, h2', f6, hG]; (try with_reducible refine ⟨?_, ?_⟩) <;> (try with_reducible intro hc) <;> try (exfalso; omega)) | ((first | (refine w_e [] ?_; intro J hJ; simp only []) | (refine w_q ?_; intro J hJ) | refine e_go ?_); simp [f19, hg, h1, h1', h2, h2', f6, hG]; (repeat refine ca ?_); (try ((try with_reducible refine ⟨?_, ?_⟩) <;> (try with_reducible intro hnil) <;> refine hJ _ _ ?_ <;> clear hJ J <;> simp only [ak, reduceIte] <;> try subst hnil)))))
    simp [z0, z0L]; exact hr _ (hK.set (by omega) _)
  rw [if_neg (by omega)] at hR
  have hr := hmk _ hR
  have h2' : ¬ (160 : Int) < E.length := by omega
  have zU := z0L_us V
  have zE := z0L_eds E
  (repeat' (first | refine awp_seq ?_ | refine awp_block ?_ | ((first | refine awp_skip ?_ | refine awp_exit ?_); simp only [ak, reduceIte]) | (refine awp_ret ?_; simp only [ak, reduceIte]; simp [f19, hg, h1, h1', h2, h2', f6, hG]) | (refine awp_cond ?_; simp [f19, hg, h1, h1', h2, h2', f6, hG]; (try with_reducible refine ⟨?_, ?_⟩) <;> (try with_reducible intro hc) <;> try (exfalso; omega)) | ((first | (refine w_e [] ?_; intro J hJ; simp only []) | (refine w_q ?_; intro J hJ) | refine e_go ?_); simp [f19, hg, h1, h1', h2, h2', f6, hG]; (repeat refine ca ?_); (try ((try with_reducible refine ⟨?_, ?_⟩) <;> (try with_reducible intro hnil) <;> refine hJ _ _ ?_ <;> clear hJ J <;> simp only [ak, reduceIte] <;> try subst hnil)))))
  simpa [z0, z0L, zU, zE] using hr _ (hK.set (by omega) _)

end Go.Proofs.Ytaiakdhcajibnaa.Aw

namespace Go.Proofs.Ytaiakdhcajibnaa.Aw
open Go Go.RowKit Go.Proofs.Ytaiakdhcajibnaa.Pl
set_option linter.unusedSimpArgs false
set_option linter.unusedVariables false

set_option maxHeartbeats 2000000 in
theorem UnionOf (a b c : Gr) (st : St) : ACalls Try.prog 3 [.ag (grL a), .ag (grL b), .ag (grL c)] st fun r st' => r = bb true := by
  refine acalls_of_body tabOk Try.func3 rfl rfl Try.ntmps3 (rs := [.tmp 6]) rfl (by simp) ?_
  (repeat' (first | refine awp_seq ?_ | refine awp_block ?_ | ((first | refine awp_skip ?_ | refine awp_exit ?_); simp only [ak, reduceIte]) | (refine awp_ret ?_; simp only [ak, reduceIte]; simp []) | (refine awp_cond ?_; simp []; (try with_reducible refine ⟨?_, ?_⟩) <;> (try with_reducible intro hc) <;> try (exfalso; omega)) | ((first | (refine w_e [] ?_; intro J hJ; simp only []) | (refine w_q ?_; intro J hJ) | refine e_go ?_); simp []; (repeat refine ca ?_); (try ((try with_reducible refine ⟨?_, ?_⟩) <;> (try with_reducible intro hnil) <;> refine hJ _ _ ?_ <;> clear hJ J <;> simp only [ak, reduceIte] <;> try subst hnil)))))
  refine callK_ofE (awake18 _) (by simp []) ?_; rintro r st' ⟨rfl, rfl⟩
  (repeat' (first | refine awp_seq ?_ | refine awp_block ?_ | ((first | refine awp_skip ?_ | refine awp_exit ?_); simp only [ak, reduceIte]) | (refine awp_ret ?_; simp only [ak, reduceIte]; simp []) | (refine awp_cond ?_; simp []; (try with_reducible refine ⟨?_, ?_⟩) <;> (try with_reducible intro hc) <;> try (exfalso; omega)) | ((first | (refine w_e [] ?_; intro J hJ; simp only []) | (refine w_q ?_; intro J hJ) | refine e_go ?_); simp []; (repeat refine ca ?_); (try ((try with_reducible refine ⟨?_, ?_⟩) <;> (try with_reducible intro hnil) <;> refine hJ _ _ ?_ <;> clear hJ J <;> simp only [ak, reduceIte] <;> try subst hnil)))))
  have hok : ∀ g : Gr, okG g → GrF g := fun g h => chk_full h.1
  refine awp_range 22 21 23 35 (3) (fun j fr st2 => fr 3 = .pt st.next 0 ∧ fr 4 = .pt (st.next + 1) 0 ∧ fr 5 = .pt (st.next + 2) 0 ∧ (∃ t, fr 20 = .sl t 3 (gsL [a, b, c])) ∧ At3 a b c st.next st2 ∧ ∀ k, k < j → okG ([a, b, c].getD k gr0)) ?_ ?_ ?_
  · exact ⟨by simp, by simp, by simp, ⟨_, by simp; rfl⟩, ⟨by simp, by simp, by simp, by simp⟩, fun k h => by omega⟩
  · rintro j fr s hlt ⟨f3, f4, f5, ⟨t, f20⟩, hA, hno⟩ fi fn JJ hJJ
    have hd := gs_drop [a, b, c] j (by simpa using hlt)
    have hgl : (gsL [a, b, c]).length = 6 := rfl
    have hj2 : j * 2 < 6 := by omega
    have hnx : okG ([a, b, c].getD j gr0) → ∀ k, k < j + 1 → okG ([a, b, c].getD k gr0) := fun h k hk => by
      rcases Nat.lt_or_ge k j with h1 | h1
      · exact hno k h1
      · obtain rfl : k = j := by omega
        exact h
    generalize [a, b, c].getD j gr0 = g at *
    generalize gsL [a, b, c] = G at *
    (repeat' (first | refine awp_seq ?_ | refine awp_block ?_ | ((first | refine awp_skip ?_ | refine awp_exit ?_); simp only [ak, reduceIte]) | (refine awp_ret ?_; simp only [ak, reduceIte]; simp [f20, fi, fn, hlt, hd, hgl, hj2]) | (refine awp_cond ?_; simp [f20, fi, fn, hlt, hd, hgl, hj2]; (try with_reducible refine ⟨?_, ?_⟩) <;> (try with_reducible intro hc) <;> try (exfalso; omega)) | ((first | (refine w_e [] ?_; intro J hJ; simp only []) | (refine w_q ?_; intro J hJ) | refine e_go ?_); simp [f20, fi, fn, hlt, hd, hgl, hj2]; (repeat refine ca ?_); (try ((try with_reducible refine ⟨?_, ?_⟩) <;> (try with_reducible intro hnil) <;> refine hJ _ _ ?_ <;> clear hJ J <;> simp only [ak, reduceIte] <;> try subst hnil)))))
    refine callK_ofE (ref_Chk g _) (by simp) ?_; rintro r s1 ⟨rfl, hk1⟩
    have hX1 := hk1.H s.next (by simp)
    simp only [new_H, if_true] at hX1
    by_cases hc : chk g = 0
    rotate_left
    · clear hJJ
      have hcb : (chk g != 0) = true := by simpa using hc
      generalize chk g = x at *
      (repeat' (first | refine awp_seq ?_ | refine awp_block ?_ | ((first | refine awp_skip ?_ | refine awp_exit ?_); simp only [ak, reduceIte]) | (refine awp_ret ?_; simp only [ak, reduceIte]; simp [hcb]) | (refine awp_cond ?_; simp [hcb]; (try with_reducible refine ⟨?_, ?_⟩) <;> (try with_reducible intro hc) <;> try (exfalso; omega)) | ((first | (refine w_e [] ?_; intro J hJ; simp only []) | (refine w_q ?_; intro J hJ) | refine e_go ?_); simp [hcb]; (repeat refine ca ?_); (try ((try with_reducible refine ⟨?_, ?_⟩) <;> (try with_reducible intro hnil) <;> refine hJ _ _ ?_ <;> clear hJ J <;> simp only [ak, reduceIte] <;> try subst hnil)))))
    by_cases h6 : g.es.length ≤ 60
    · have h6' : ¬ (60 : Int) < g.es.length := by omega
      have h6n : ¬ 60 < g.es.length := by omega
      have hn := hnx ⟨hc, h6⟩
      rw [hc]
      generalize g.es.length = n at *
      (repeat' (first | refine awp_seq ?_ | refine awp_block ?_ | ((first | refine awp_skip ?_ | refine awp_exit ?_); simp only [ak, reduceIte]) | (refine awp_ret ?_; simp only [ak, reduceIte]; simp [hX1, h6', h6n]) | (refine awp_cond ?_; simp [hX1, h6', h6n]; (try with_reducible refine ⟨?_, ?_⟩) <;> (try with_reducible intro hc) <;> try (exfalso; omega)) | ((first | (refine w_e [] ?_; intro J hJ; simp only []) | (refine w_q ?_; intro J hJ) | refine e_go ?_); simp [hX1, h6', h6n]; (repeat refine ca ?_); (try ((try with_reducible refine ⟨?_, ?_⟩) <;> (try with_reducible intro hnil) <;> refine hJ _ _ ?_ <;> clear hJ J <;> simp only [ak, reduceIte] <;> try subst hnil)))))
      exact hJJ _ _ (by simp [fi]) (by simp [fn]) ⟨by simp [f3], by simp [f4], by simp [f5], ⟨t, by simp [f20]⟩, (hA.keep (Keeps.new _ _)).keep hk1, hn⟩
    · clear hJJ
      have h6' : (60 : Int) < g.es.length := by omega
      have h6n : 60 < g.es.length := by omega
      rw [hc]
      generalize g.es.length = n at *
      (repeat' (first | refine awp_seq ?_ | refine awp_block ?_ | ((first | refine awp_skip ?_ | refine awp_exit ?_); simp only [ak, reduceIte]) | (refine awp_ret ?_; simp only [ak, reduceIte]; simp [hX1, h6', h6n]) | (refine awp_cond ?_; simp [hX1, h6', h6n]; (try with_reducible refine ⟨?_, ?_⟩) <;> (try with_reducible intro hc) <;> try (exfalso; omega)) | ((first | (refine w_e [] ?_; intro J hJ; simp only []) | (refine w_q ?_; intro J hJ) | refine e_go ?_); simp [hX1, h6', h6n]; (repeat refine ca ?_); (try ((try with_reducible refine ⟨?_, ?_⟩) <;> (try with_reducible intro hnil) <;> refine hJ _ _ ?_ <;> clear hJ J <;> simp only [ak, reduceIte] <;> try subst hnil)))))
  rintro fr s ⟨f3, f4, f5, -, hA, hno⟩
  have ga := hok a (hno 0 (by omega))
  have gb := hok b (hno 1 (by omega))
  have gc := hok c (hno 2 (by omega))
  clear hno hok
  have la : a.vs.length ≤ 10000 ∧ a.es.length ≤ 10000 := ⟨by have := ga.l1; omega, by have := ga.l2; omega⟩
  obtain ⟨A1, A2, A3, A4⟩ := hA
  have hA : At3 a b c st.next s := ⟨A1, A2, A3, A4⟩
  (repeat (refine awp_seq ?_))
  (refine w_e [] ?_; intro J hJ; simp only []; simp [f3, f4, f5, A1, A2, A3]; (repeat refine ca ?_); (try ((try with_reducible refine ⟨?_, ?_⟩) <;> (try with_reducible intro hnil) <;> refine hJ _ _ ?_ <;> clear hJ J <;> simp only [ak, reduceIte] <;> try subst hnil)))
  refine callK_ofE (uOf a b c _ la gb gc) (by simp) ?_; rintro r s1 ⟨⟨x, rfl, hx⟩, hk1⟩
  have hB := hA.keep hk1
  have hn1 := hk1.next
  obtain ⟨B1, B2, B3, B4⟩ := hB
  (refine e_go ?_; simp []; (repeat refine ca ?_); (try ((try with_reducible refine ⟨?_, ?_⟩) <;> (try with_reducible intro hnil) <;> refine hJ _ _ ?_ <;> clear hJ J <;> simp only [ak, reduceIte] <;> try subst hnil)))
  (repeat (refine awp_seq ?_))
  have c1 : st.next ≠ s1.next := by omega
  have c2 : st.next + 1 ≠ s1.next := by omega
  have c3 : st.next + 2 ≠ s1.next := by omega
  (refine w_e [] ?_; intro J hJ; simp only []; simp [f3, f4, f5, B1, B2, B3, c1, c2, c3]; (repeat refine ca ?_); (try ((try with_reducible refine ⟨?_, ?_⟩) <;> (try with_reducible intro hnil) <;> refine hJ _ _ ?_ <;> clear hJ J <;> simp only [ak, reduceIte] <;> try subst hnil)))
  refine callK_ofE (rOf a b c _ la gb gc) (by simp) ?_; rintro r s2 ⟨⟨y, rfl, hy⟩, hk2⟩
  obtain rfl := hx.unique hy
  have hn2 := hk2.next
  simp only [set_next, new_next] at hn2
  have hX2 := hk2.H s1.next (by simp)
  simp only [set_H, new_H, if_true] at hX2
  have lxg := hx.small gb gc
  have hgood := hx.good gb gc
  (refine e_go ?_; simp []; (repeat refine ca ?_); (try ((try with_reducible refine ⟨?_, ?_⟩) <;> (try with_reducible intro hnil) <;> refine hJ _ _ ?_ <;> clear hJ J <;> simp only [ak, reduceIte] <;> try subst hnil)))
  refine awp_weak (fun fr s => (fr 9 = .pt s1.next 0 ∧ fr 12 = .pt s2.next 0 ∧ fr 10 = u x.n ∧ fr 13 = u x.n ∧ fr 11 = i x.e ∧ fr 14 = i x.e) ∧ s = s2.new (.box 25 2 (grL x.g))) ⟨⟨by simp, by simp, by simp, by simp, by simp, by simp⟩, by simp⟩ ?_
  clear f3 f4 f5 fr
  rintro fr s3 ⟨⟨f9, f12, f10, f13, f11, f14⟩, rfl⟩
  have g1 := (Keeps.new s2 (.box 25 2 (grL x.g))).H s1.next (by omega)
  rw [hX2] at g1
  have g2 : (s2.new (.box 25 2 (grL x.g))).H s2.next = .box 25 2 (grL x.g) := by simp
  have l1 : s1.next < (s2.new (.box 25 2 (grL x.g))).next := by simp; omega
  generalize s2.new (.box 25 2 (grL x.g)) = s3 at *
  clear hX2 hk2 hy hx A1 A2 A3 hA hk1 B1 B2 B3
  (repeat (refine awp_seq ?_))
  (refine w_e [] ?_; intro J hJ; simp only []; simp [f9, f12, g1, g2]; (repeat refine ca ?_); (try ((try with_reducible refine ⟨?_, ?_⟩) <;> (try with_reducible intro hnil) <;> refine hJ _ _ ?_ <;> clear hJ J <;> simp only [ak, reduceIte] <;> try subst hnil)))
  refine callK_ofE (ref_SameG x.g x.g _ lxg.1 lxg.2) (by simp) ?_; rintro r s4 ⟨rfl, hk4⟩
  have i1 := (hk4.H s1.next l1).trans g1
  rw [decide_eq_true (rfl : x.g = x.g)]
  by_cases he : x.e = 0
  · have hch := hgood he
    rw [he] at f11 f14
    (refine e_go ?_; simp [f9, f10, f11, f13, f14, i1]; (repeat refine ca ?_); (try ((try with_reducible refine ⟨?_, ?_⟩) <;> (try with_reducible intro hnil) <;> refine hJ _ _ ?_ <;> clear hJ J <;> simp only [ak, reduceIte] <;> try subst hnil)))
    refine callK_ofE (ref_Chk x.g _) (by simp) ?_; rintro r s5 ⟨rfl, hk5⟩
    rw [hch]
    (repeat' (first | refine awp_seq ?_ | refine awp_block ?_ | ((first | refine awp_skip ?_ | refine awp_exit ?_); simp only [ak, reduceIte]) | (refine awp_ret ?_; simp only [ak, reduceIte]; simp []) | (refine awp_cond ?_; simp []; (try with_reducible refine ⟨?_, ?_⟩) <;> (try with_reducible intro hc) <;> try (exfalso; omega)) | ((first | (refine w_e [] ?_; intro J hJ; simp only []) | (refine w_q ?_; intro J hJ) | refine e_go ?_); simp []; (repeat refine ca ?_); (try ((try with_reducible refine ⟨?_, ?_⟩) <;> (try with_reducible intro hnil) <;> refine hJ _ _ ?_ <;> clear hJ J <;> simp only [ak, reduceIte] <;> try subst hnil)))))
  · have heb : (x.e != 0) = true := by simpa using he
    generalize x.e = e at *
    (repeat' (first | refine awp_seq ?_ | refine awp_block ?_ | ((first | refine awp_skip ?_ | refine awp_exit ?_); simp only [ak, reduceIte]) | (refine awp_ret ?_; simp only [ak, reduceIte]; simp [f9, f10, f11, f13, f14, i1, heb]) | (refine awp_cond ?_; simp [f9, f10, f11, f13, f14, i1, heb]; (try with_reducible refine ⟨?_, ?_⟩) <;> (try with_reducible intro hc) <;> try (exfalso; omega)) | ((first | (refine w_e [] ?_; intro J hJ; simp only []) | (refine w_q ?_; intro J hJ) | refine e_go ?_); simp [f9, f10, f11, f13, f14, i1, heb]; (repeat refine ca ?_); (try ((try with_reducible refine ⟨?_, ?_⟩) <;> (try with_reducible intro hnil) <;> refine hJ _ _ ?_ <;> clear hJ J <;> simp only [ak, reduceIte] <;> try subst hnil)))))

theorem UnionOf_shp (l0 l1 l2 : List LV) (st : St) (h0 : Shp tab 25 l0) (h1 : Shp tab 25 l1) (h2 : Shp tab 25 l2) : ACalls Try.prog 3 [argT tab 25 l0, argT tab 25 l1, argT tab 25 l2] st fun r st' => r = bb true := by
  obtain ⟨a, rfl, _⟩ := shp_gr h0
  obtain ⟨b, rfl, _⟩ := shp_gr h1
  obtain ⟨c, rfl, _⟩ := shp_gr h2
  exact UnionOf a b c st

end Go.Proofs.Ytaiakdhcajibnaa.Aw
