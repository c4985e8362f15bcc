/- Tables of counts: what is counted (plain); Sum, Top of a table that is none. Rows of int: Equal. The law StatTables, given what its chapter's example answers. The law StatTables at any argument that is well formed, given what its chapter's example answers. stat.Degrees; what chapter 37's example answers; StatTables. -/
import Derived.Test.YtomfeddgeihipaaGreatJg
namespace Go.Proofs.YtomfeddgeihipaaGreat.Aw
open Go Go.RowKit Go.Proofs.YtomfeddgeihipaaGreat.Pl
set_option linter.unusedSimpArgs false
set_option linter.unusedVariables false

theorem cntM_add (es : List (List Int × LV)) (k x : Int) : cntM (add1 es k) x = if x = k then cntM es k + 1 else cntM es x := by
  unfold add1
  have h := mget_mset es [k] [x] (i (cntM es k + 1))
  have e : cntM (mset es [k] (i (cntM es k + 1))) x = cntOf ([x], (mget (mset es [k] (i (cntM es k + 1))) [x]).getD (i 0)) := rfl
  rw [e, h]
  by_cases hx : x = k
  · subst hx; simp [cntOf]
  · have : ¬ ([x] : List Int) = [k] := by simpa using hx
    rw [if_neg this, if_neg hx]; rfl
theorem mem_nzk : ∀ {es : List (List Int × LV)} {B : Int} (_ : TabB B es) (x : Int), x ∈ nzk es ↔ cntM es x ≠ 0
  | [], _, _, x => by simp [nzk, cntM, mget, cntOf]
  | p :: es, B, h, x => by
    obtain ⟨k, n, rfl, hk, hn⟩ := h.kn p (by simp)
    have hnd := h.nd
    simp only [List.map_cons, List.nodup_cons] at hnd
    have ih := mem_nzk (B := B) (es := es) ⟨fun q hq => h.kn q (by simp [hq]), hnd.2⟩ x
    have hz : k = x → cntM es x = 0 := by
      rintro rfl
      have hno : mget es [k] = none := by
        have : ∀ es : List (List Int × LV), [k] ∉ es.map (·.1) → mget es [k] = none := by
          intro es
          induction es with
          | nil => exact fun _ => rfl
          | cons q es ih =>
            intro h
            simp only [List.map_cons, List.mem_cons, not_or] at h
            unfold mget
            rw [if_neg (by simpa using h.1)]
            exact ih h.2
        exact this es hnd.1
      unfold cntM; rw [hno]; rfl
    by_cases e : x = k
    · subst e
      have hc : cntM (([x], i n) :: es) x = n := by simp [cntM, mget, cntOf]
      rw [hc]
      have hz := hz rfl
      have ih' : x ∉ nzk es := fun h => ih.1 h hz
      unfold nzk at ih' ⊢
      by_cases h0 : n = 0
      · subst h0
        rw [List.filter_cons_of_neg (by simp [cntOf])]
        exact ⟨fun h => absurd h ih', fun h => absurd rfl h⟩
      · rw [List.filter_cons_of_pos (p := fun p : List Int × LV => decide (cntOf p ≠ 0)) (decide_eq_true (show cntOf ([x], i n) ≠ 0 from h0))]
        simp [keyOf, h0]
    · have hb : ([x] == [k]) = false := by simpa using e
      have hc : cntM (([k], i n) :: es) x = cntM es x := by simp only [cntM, mget, hb, Bool.false_eq_true, if_false]
      rw [hc, ← ih]
      unfold nzk
      by_cases h0 : n = 0
      · subst h0
        rw [List.filter_cons_of_neg (by simp [cntOf])]
      · rw [List.filter_cons_of_pos (p := fun p : List Int × LV => decide (cntOf p ≠ 0)) (decide_eq_true (show cntOf ([k], i n) ≠ 0 from h0))]
        simp [keyOf, e]
theorem nzk_nodup {es : List (List Int × LV)} {B : Int} (h : TabB B es) : (nzk es).Nodup := by
  have : nzk es = ((es.filter fun p => decide (cntOf p ≠ 0)).map (·.1)).map fun k => k.headD 0 := by unfold nzk; rw [List.map_map]; rfl
  rw [this]
  have h1 : ((es.filter fun p => decide (cntOf p ≠ 0)).map (·.1)).Nodup := h.nd.sublist (List.Sublist.map _ List.filter_sublist)
  rw [List.nodup_iff_pairwise_ne, List.pairwise_map]
  rw [List.nodup_iff_pairwise_ne] at h1
  refine h1.imp_of_mem fun {a b} ha hb hne he => hne ?_
  obtain ⟨p, hp, rfl⟩ := List.mem_map.1 ha
  obtain ⟨q, hq, rfl⟩ := List.mem_map.1 hb
  obtain ⟨k, n, rfl, _⟩ := h.kn p (List.mem_filter.1 hp).1
  obtain ⟨k', n', rfl, _⟩ := h.kn q (List.mem_filter.1 hq).1
  simp only [List.headD_cons] at he
  rw [he]

theorem sSumNil (st : St) : ACalls Tryz.prog 19 [.atom (.map none)] st fun r st' => r = i 0 ∧ st' = st := by
  refine acalls_of_body tabOk Tryz.func19 rfl rfl Tryz.ntmps19 (rs := [.tmp 2]) rfl (by simp) ?_
  refine awp_seq ?_
  (refine w_e [] ?_; intro J hJ; simp only []; simp []; (repeat refine ca ?_); (try ((try with_reducible refine ⟨?_, ?_⟩) <;> (try with_reducible intro hnil) <;> refine hJ _ _ ?_ <;> clear hJ J <;> simp only [ak, reduceIte] <;> try subst hnil)))
  refine awp_seq ?_
  (refine w_e [] ?_; intro J hJ; simp only []; simp []; (repeat refine ca ?_); (try ((try with_reducible refine ⟨?_, ?_⟩) <;> (try with_reducible intro hnil) <;> refine hJ _ _ ?_ <;> clear hJ J <;> simp only [ak, reduceIte] <;> try subst hnil)))
  refine awp_seq ?_
  refine awp_nilRange (by simp) (fun r => ?_) Tryz.underlying25
  simp only [ak]
  (repeat' (first | refine awp_seq ?_ | refine awp_block ?_ | ((first | refine awp_skip ?_ | refine awp_exit ?_); simp only [ak, reduceIte]) | (refine awp_ret ?_; simp only [ak, reduceIte]; simp []) | (refine awp_cond ?_; simp []; (try with_reducible refine ⟨?_, ?_⟩) <;> (try with_reducible intro hc) <;> try (exfalso; omega)) | ((first | (refine w_e [] ?_; intro J hJ; simp only []) | (refine w_q ?_; intro J hJ) | refine e_go ?_); simp []; (repeat refine ca ?_); (try ((try with_reducible refine ⟨?_, ?_⟩) <;> (try with_reducible intro hnil) <;> refine hJ _ _ ?_ <;> clear hJ J <;> simp only [ak, reduceIte] <;> try subst hnil)))))
theorem sKeysNil (st : St) : ACalls Tryz.prog 22 [.atom (.map none)] st fun r st' => r = .sl 0 0 [] ∧ Keeps st st' := by
  refine acalls_freeze ?_
  refine acalls_of_body tabOk Tryz.func22 rfl rfl Tryz.ntmps22 (rs := [.tmp 2]) rfl (by simp) ?_
  refine awp_seq ?_
  (refine w_e [] ?_; intro J hJ; simp only []; simp []; (repeat refine ca ?_); (try ((try with_reducible refine ⟨?_, ?_⟩) <;> (try with_reducible intro hnil) <;> refine hJ _ _ ?_ <;> clear hJ J <;> simp only [ak, reduceIte] <;> try subst hnil)))
  refine awp_seq ?_
  (refine w_e [] ?_; intro J hJ; simp only []; simp []; (repeat refine ca ?_); (try ((try with_reducible refine ⟨?_, ?_⟩) <;> (try with_reducible intro hnil) <;> refine hJ _ _ ?_ <;> clear hJ J <;> simp only [ak, reduceIte] <;> try subst hnil)))
  refine awp_seq ?_
  refine awp_ownM 3 3 1 (by simp) ?_
  refine awp_nilRange (by simp) (fun r => ?_) Tryz.underlying25
  simp only [ak]
  (repeat' (first | refine awp_seq ?_ | refine awp_block ?_ | ((first | refine awp_skip ?_ | refine awp_exit ?_); simp only [ak, reduceIte]) | (refine awp_ret ?_; simp only [ak, reduceIte]; simp []) | (refine awp_cond ?_; simp []; (try with_reducible refine ⟨?_, ?_⟩) <;> (try with_reducible intro hc) <;> try (exfalso; omega)) | ((first | (refine w_e [] ?_; intro J hJ; simp only []) | (refine w_q ?_; intro J hJ) | refine e_go ?_); simp []; (repeat refine ca ?_); (try ((try with_reducible refine ⟨?_, ?_⟩) <;> (try with_reducible intro hnil) <;> refine hJ _ _ ?_ <;> clear hJ J <;> simp only [ak, reduceIte] <;> try subst hnil)))))
  refine callK_ofE (I.SortU [] st.next _ (by simp) (by simp) (by simp)) (by simp) ?_; rintro r s3 ⟨c, hc, hcp, hcs, hof⟩
  obtain rfl : c = [] := hcp.eq_nil
  (repeat' (first | refine awp_seq ?_ | refine awp_block ?_ | ((first | refine awp_skip ?_ | refine awp_exit ?_); simp only [ak, reduceIte]) | (refine awp_ret ?_; simp only [ak, reduceIte]; simp []) | (refine awp_cond ?_; simp []; (try with_reducible refine ⟨?_, ?_⟩) <;> (try with_reducible intro hc) <;> try (exfalso; omega)) | ((first | (refine w_e [] ?_; intro J hJ; simp only []) | (refine w_q ?_; intro J hJ) | refine e_go ?_); simp []; (repeat refine ca ?_); (try ((try with_reducible refine ⟨?_, ?_⟩) <;> (try with_reducible intro hnil) <;> refine hJ _ _ ?_ <;> clear hJ J <;> simp only [ak, reduceIte] <;> try subst hnil)))))
  exact ⟨st.next, _, ⟨rfl, rfl⟩, _, _, _, hc, by simp, by simp, ⟨by rw [set_next]; have := hof.1; simp at this; omega, fun l hl => by rw [set_H, if_neg (by omega), hof.2 l (by omega) (by simp; omega), new_H, if_neg (by omega)]⟩⟩
theorem sTopNil (st : St) : ACalls Tryz.prog 20 [.atom (.map none)] st fun r st' => r = i 0 ∧ Keeps st st' := by
  refine acalls_of_body tabOk Tryz.func20 rfl rfl Tryz.ntmps20 (rs := [.tmp 2]) rfl (by simp) ?_
  (repeat' (first | refine awp_seq ?_ | refine awp_block ?_ | ((first | refine awp_skip ?_ | refine awp_exit ?_); simp only [ak, reduceIte]) | (refine awp_ret ?_; simp only [ak, reduceIte]; simp []) | (refine awp_cond ?_; simp []; (try with_reducible refine ⟨?_, ?_⟩) <;> (try with_reducible intro hc) <;> try (exfalso; omega)) | ((first | (refine w_e [] ?_; intro J hJ; simp only []) | (refine w_q ?_; intro J hJ) | refine e_go ?_); simp []; (repeat refine ca ?_); (try ((try with_reducible refine ⟨?_, ?_⟩) <;> (try with_reducible intro hnil) <;> refine hJ _ _ ?_ <;> clear hJ J <;> simp only [ak, reduceIte] <;> try subst hnil)))))
  refine callK_ofE (sKeysNil _) (by simp) ?_; rintro r s1 ⟨rfl, hk1⟩
  (repeat' (first | refine awp_seq ?_ | refine awp_block ?_ | ((first | refine awp_skip ?_ | refine awp_exit ?_); simp only [ak, reduceIte]) | (refine awp_ret ?_; simp only [ak, reduceIte]; simp []) | (refine awp_cond ?_; simp []; (try with_reducible refine ⟨?_, ?_⟩) <;> (try with_reducible intro hc) <;> try (exfalso; omega)) | ((first | (refine w_e [] ?_; intro J hJ; simp only []) | (refine w_q ?_; intro J hJ) | refine e_go ?_); simp []; (repeat refine ca ?_); (try ((try with_reducible refine ⟨?_, ?_⟩) <;> (try with_reducible intro hnil) <;> refine hJ _ _ ?_ <;> clear hJ J <;> simp only [ak, reduceIte] <;> try subst hnil)))))
  exact hk1

end Go.Proofs.YtomfeddgeihipaaGreat.Aw

namespace Go.Proofs.YtomfeddgeihipaaGreat.Aw.I
open Go Go.RowKit Go.Proofs.YtomfeddgeihipaaGreat.Pl
set_option linter.unusedSimpArgs false
set_option linter.unusedVariables false

theorem us_drop_head (l : List Int) (k : Nat) (hk : k < l.length) : (us l).drop k = u l[k] :: us (l.drop (k + 1)) := by
  simp only [us, ← List.map_drop]
  rw [List.drop_eq_getElem_cons hk]
  rfl
theorem Equal (a b : List Int) (t t' : Nat) (st : St) (hl : small a) :
    ACalls Tryz.prog 21 [.sl t a.length (us a), .sl t' b.length (us b)] st fun r st' => r = bb (decide (a = b)) ∧ st' = st := by
  unfold small at hl
  refine acalls_of_body tabOk Tryz.func21 rfl rfl Tryz.ntmps21 (rs := [.tmp 4]) rfl (by simp) ?_
  by_cases hab : a.length = b.length
  · (repeat' (first | refine awp_seq ?_ | refine awp_block ?_ | ((first | refine awp_skip ?_ | refine awp_exit ?_); simp only [ak, reduceIte]) | (refine awp_ret ?_; simp only [ak, reduceIte]; simp [hab]) | (refine awp_cond ?_; simp [hab]; (try with_reducible refine ⟨?_, ?_⟩) <;> (try with_reducible intro hc) <;> try (exfalso; omega)) | ((first | (refine w_e [] ?_; intro J hJ; simp only []) | (refine w_q ?_; intro J hJ) | refine e_go ?_); simp [hab]; (repeat refine ca ?_); (try ((try with_reducible refine ⟨?_, ?_⟩) <;> (try with_reducible intro hnil) <;> refine hJ _ _ ?_ <;> clear hJ J <;> simp only [ak, reduceIte] <;> try subst hnil)))))
    refine awp_loop (fun n fr st' => ∃ k : Nat, k ≤ a.length ∧ n = a.length - k ∧ fr 0 = .sl t a.length (us a) ∧ fr 1 = .sl t' b.length (us b) ∧ fr 12 = i a.length ∧ fr 13 = i k ∧ st' = st ∧ ∀ j (hj : j < a.length), j < k → a[j] = b[j]'(by omega)) a.length ?_ ?_
    · exact ⟨0, by omega, by omega, by simp [hab], by simp [hab], by simp [hab], by simp, rfl, fun j _ h => by omega⟩
    rintro n fr st' ⟨k, hk, rfl, h0, h1, h7, h8, rfl, hno⟩ JJ hJJ
    by_cases hlt : k < a.length
    · have hlt' : k < b.length := by omega
      have hd := us_drop_head a k hlt
      have hd' := us_drop_head b k hlt'
      have hw := nat_add_one k (by omega)
      (repeat' (first | refine awp_seq ?_ | refine awp_block ?_ | ((first | refine awp_skip ?_ | refine awp_exit ?_); simp only [ak, reduceIte]) | (refine awp_ret ?_; simp only [ak, reduceIte]; simp [h0, h1, h7, h8, hlt, hlt', hd, hd', hw]) | (refine awp_cond ?_; simp [h0, h1, h7, h8, hlt, hlt', hd, hd', hw]; (try with_reducible refine ⟨?_, ?_⟩) <;> (try with_reducible intro hc) <;> try (exfalso; omega)) | ((first | (refine w_e [] ?_; intro J hJ; simp only []) | (refine w_q ?_; intro J hJ) | refine e_go ?_); simp [h0, h1, h7, h8, hlt, hlt', hd, hd', hw]; (repeat refine ca ?_); (try ((try with_reducible refine ⟨?_, ?_⟩) <;> (try with_reducible intro hnil) <;> refine hJ _ _ ?_ <;> clear hJ J <;> simp only [ak, reduceIte] <;> try subst hnil)))))
      · intro h; apply hc; simp [h]
      · refine hJJ _ _ _ ?_ ⟨k + 1, by omega, rfl, by simp [h0], by simp [h1], by simp [h7], by simp, rfl, fun j hj hjk => ?_⟩
        · omega
        · rcases Nat.lt_or_ge j k with h | h
          · exact hno j hj h
          · obtain rfl : j = k := by omega
            exact hc
    · (repeat' (first | refine awp_seq ?_ | refine awp_block ?_ | ((first | refine awp_skip ?_ | refine awp_exit ?_); simp only [ak, reduceIte]) | (refine awp_ret ?_; simp only [ak, reduceIte]; simp [h0, h1, h7, h8, hlt]) | (refine awp_cond ?_; simp [h0, h1, h7, h8, hlt]; (try with_reducible refine ⟨?_, ?_⟩) <;> (try with_reducible intro hc) <;> try (exfalso; omega)) | ((first | (refine w_e [] ?_; intro J hJ; simp only []) | (refine w_q ?_; intro J hJ) | refine e_go ?_); simp [h0, h1, h7, h8, hlt]; (repeat refine ca ?_); (try ((try with_reducible refine ⟨?_, ?_⟩) <;> (try with_reducible intro hnil) <;> refine hJ _ _ ?_ <;> clear hJ J <;> simp only [ak, reduceIte] <;> try subst hnil)))))
      exact List.ext_getElem hab (fun j hj _ => hno j hj (by omega))
  · (repeat' (first | refine awp_seq ?_ | refine awp_block ?_ | ((first | refine awp_skip ?_ | refine awp_exit ?_); simp only [ak, reduceIte]) | (refine awp_ret ?_; simp only [ak, reduceIte]; simp [hab]) | (refine awp_cond ?_; simp [hab]; (try with_reducible refine ⟨?_, ?_⟩) <;> (try with_reducible intro hc) <;> try (exfalso; omega)) | ((first | (refine w_e [] ?_; intro J hJ; simp only []) | (refine w_q ?_; intro J hJ) | refine e_go ?_); simp [hab]; (repeat refine ca ?_); (try ((try with_reducible refine ⟨?_, ?_⟩) <;> (try with_reducible intro hnil) <;> refine hJ _ _ ?_ <;> clear hJ J <;> simp only [ak, reduceIte] <;> try subst hnil)))))
    intro h; exact hab (by rw [h])

end Go.Proofs.YtomfeddgeihipaaGreat.Aw.I

namespace Go.Proofs.YtomfeddgeihipaaGreat.Aw
open Go Go.RowKit Go.Proofs.YtomfeddgeihipaaGreat.Pl
set_option linter.unusedSimpArgs false
set_option linter.unusedVariables false

abbrev u16 (n : Int) : LV := .atom (.int .i16 n)
theorem u16_drop (l : List Int) (k : Nat) (hk : k < l.length) : (l.map u16).drop k = u16 (l.getD k 0) :: (l.drop (k + 1)).map u16 := by
  rw [List.getD_eq_getElem?_getD, List.getElem?_eq_getElem hk, ← List.map_drop, List.drop_eq_getElem_cons hk]; rfl
theorem tkJ (l : List Int) (k : Nat) (h : k < l.length) : l.take (k + 1) = l.take k ++ [l.getD k 0] := by
  rw [List.getD_eq_getElem?_getD, List.getElem?_eq_getElem h]
  exact List.take_succ_eq_append_getElem h
/-- What is counted so far. -/
structure Cnt (l : List Int) (E : List (List Int × LV)) (S top : Int) : Prop where
  tab : TabB (2 * l.length) E
  len : E.length ≤ 1 + 2 * l.length
  sum : sumL E = S ∧ -(80000 * (l.length : Int)) ≤ S ∧ S ≤ 80000 * (l.length : Int)
  mem : ∀ x, cntM E x ≠ 0 ↔ x ∈ l
  top0 : l = [] → top = 0
  top1 : l ≠ [] → top ∈ l ∧ ∀ x ∈ l, x ≤ top
theorem mset_len1 (es : List (List Int × LV)) (a : List Int) (v : LV) : (mset es a v).length ≤ es.length + 1 := by
  induction es with
  | nil => simp [mset]
  | cons q es ih =>
    unfold mset
    split
    · simp
    · simp only [List.length_cons]; omega
theorem add1_len (es : List (List Int × LV)) (k : Int) : (add1 es k).length ≤ es.length + 1 := mset_len1 _ _ _
theorem Cnt.snoc {l : List Int} {E : List (List Int × LV)} {S top : Int} (h : Cnt l E S top) {k : Int} (hk : -40000 ≤ k ∧ k ≤ 40000) :
    Cnt (l ++ [k]) (addAll E [k, k]) (S + 2 * k) (if l = [] ∨ top < k then k else top) := by
  obtain ⟨h1, h2, ⟨h3, h3a, h3b⟩, h4, h5, h6⟩ := h
  have e : addAll E [k, k] = add1 (add1 E k) k := rfl
  have t1 := h1.add (by omega) hk
  have t2 := t1.add (by omega) hk
  rw [e]
  refine ⟨?_, ?_, ⟨?_, ?_, ?_⟩, fun x => ?_, fun h => by simp at h, fun _ => ?_⟩
  · rw [show (2 * ((l ++ [k]).length : Int)) = 2 * (l.length : Int) + 1 + 1 by simp; omega]; exact t2
  · have a1 := add1_len E k
    have a2 := add1_len (add1 E k) k
    simp only [List.length_append, List.length_singleton]; omega
  · rw [sumL_add _ _ (fun p hp => by obtain ⟨a, b, c, _⟩ := t1.kn p hp; exact ⟨a, b, c⟩), sumL_add _ _ (fun p hp => by obtain ⟨a, b, c, _⟩ := h1.kn p hp; exact ⟨a, b, c⟩), h3]; omega
  · simp only [List.length_append, List.length_singleton]; omega
  · simp only [List.length_append, List.length_singleton]; omega
  · rw [cntM_add, cntM_add, cntM_add, List.mem_append, List.mem_singleton]
    have hc := (cntM_get h1 (by omega) k).2.1
    by_cases hx : x = k
    · subst hx; simp; omega
    · simp only [hx, if_false, or_false]; exact h4 x
  · by_cases hl : l = []
    · subst hl; simp
    · obtain ⟨g1, g2⟩ := h6 hl
      by_cases ht : top < k
      · rw [if_pos (.inr ht)]
        refine ⟨by simp, fun x hx => ?_⟩
        rcases List.mem_append.1 hx with h | h
        · have := g2 x h; omega
        · rw [List.mem_singleton] at h; omega
      · rw [if_neg (by rintro (h | h); exact hl h; exact ht h)]
        refine ⟨by simp [g1], fun x hx => ?_⟩
        rcases List.mem_append.1 hx with h | h
        · exact g2 x h
        · rw [List.mem_singleton] at h; omega
theorem last_max {c : List Int} (h : c.Pairwise (· ≤ ·)) {x : Int} (hx : x ∈ c) (hm : ∀ y ∈ c, y ≤ x) : c.getLast?.getD 0 = x := by
  rcases List.eq_nil_or_concat c with rfl | ⟨d, y, rfl⟩
  · simp at hx
  · rw [List.concat_eq_append] at *
    have hy := hm y (by simp)
    rw [List.pairwise_append] at h
    have : x ≤ y := by
      rcases List.mem_append.1 hx with h1 | h1
      · exact h.2.2 x h1 y (by simp)
      · rw [List.mem_singleton] at h1; omega
    simp; omega

theorem lt_ext : ∀ {a b : List Int}, a.Pairwise (· < ·) → b.Pairwise (· < ·) → (∀ x, x ∈ a ↔ x ∈ b) → a = b
  | [], [], _, _, _ => rfl
  | [], y :: b, _, _, h => absurd ((h y).2 (by simp)) (by simp)
  | x :: a, [], _, _, h => absurd ((h x).1 (by simp)) (by simp)
  | x :: a, y :: b, ha, hb, h => by
    have h1 := (h x).1 (by simp)
    have h2 := (h y).2 (by simp)
    rw [List.pairwise_cons] at ha hb
    have e : x = y := by
      rcases List.mem_cons.1 h1 with r | r
      · exact r
      rcases List.mem_cons.1 h2 with s | s
      · exact s.symm
      have := ha.1 y s
      have := hb.1 x r
      omega
    subst e
    rw [lt_ext ha.2 hb.2 fun z => ⟨fun hz => ?_, fun hz => ?_⟩]
    · rcases List.mem_cons.1 ((h z).1 (by simp [hz])) with r | r
      · have := ha.1 z hz
        omega
      · exact r
    · rcases List.mem_cons.1 ((h z).2 (by simp [hz])) with r | r
      · have := hb.1 z hz
        omega
      · exact r

set_option maxHeartbeats 2000000 in
theorem StatTables_of (hawk : ∀ st, ACalls Tryz.prog 15 [] st fun r st' => r = bb true ∧ st' = st) (l : List Int) (st : St) (hb : ∀ x ∈ l, -32768 ≤ x ∧ x ≤ 32767) :
    ACalls Tryz.prog 3 [.sl 0 l.length (l.map u16)] st fun r st' => r = bb true := by
  refine acalls_of_body tabOk Tryz.func3 rfl rfl Tryz.ntmps3 (rs := [.tmp 2]) rfl (by simp) ?_
  (repeat' (first | refine awp_seq ?_ | refine awp_block ?_ | ((first | refine awp_skip ?_ | refine awp_exit ?_); simp only [ak, reduceIte]) | (refine awp_ret ?_; simp only [ak, reduceIte]; simp []) | (refine awp_cond ?_; simp []; (try with_reducible refine ⟨?_, ?_⟩) <;> (try with_reducible intro hc) <;> try (exfalso; omega)) | ((first | (refine w_e [] ?_; intro J hJ; simp only []) | (refine w_q ?_; intro J hJ) | refine e_go ?_); simp []; (repeat refine ca ?_); (try ((try with_reducible refine ⟨?_, ?_⟩) <;> (try with_reducible intro hnil) <;> refine hJ _ _ ?_ <;> clear hJ J <;> simp only [ak, reduceIte] <;> try subst hnil)))))
  refine callK_ofE (hawk _) (by simp) ?_; rintro r s0 ⟨rfl, hs0⟩; rw [hs0]; clear hs0 s0
  by_cases h100 : (100 : Int) < l.length
  · have h100' : 100 < l.length := by omega
    (repeat' (first | refine awp_seq ?_ | refine awp_block ?_ | ((first | refine awp_skip ?_ | refine awp_exit ?_); simp only [ak, reduceIte]) | (refine awp_ret ?_; simp only [ak, reduceIte]; simp [h100, h100']) | (refine awp_cond ?_; simp [h100, h100']; (try with_reducible refine ⟨?_, ?_⟩) <;> (try with_reducible intro hc) <;> try (exfalso; omega)) | ((first | (refine w_e [] ?_; intro J hJ; simp only []) | (refine w_q ?_; intro J hJ) | refine e_go ?_); simp [h100, h100']; (repeat refine ca ?_); (try ((try with_reducible refine ⟨?_, ?_⟩) <;> (try with_reducible intro hnil) <;> refine hJ _ _ ?_ <;> clear hJ J <;> simp only [ak, reduceIte] <;> try subst hnil)))))
  have h100' : ¬ 100 < l.length := by omega
  (repeat' (first | refine awp_seq ?_ | refine awp_block ?_ | ((first | refine awp_skip ?_ | refine awp_exit ?_); simp only [ak, reduceIte]) | (refine awp_ret ?_; simp only [ak, reduceIte]; simp [h100, h100']) | (refine awp_cond ?_; simp [h100, h100']; (try with_reducible refine ⟨?_, ?_⟩) <;> (try with_reducible intro hc) <;> try (exfalso; omega)) | ((first | (refine w_e [] ?_; intro J hJ; simp only []) | (refine w_q ?_; intro J hJ) | refine e_go ?_); simp [h100, h100']; (repeat refine ca ?_); (try ((try with_reducible refine ⟨?_, ?_⟩) <;> (try with_reducible intro hnil) <;> refine hJ _ _ ?_ <;> clear hJ J <;> simp only [ak, reduceIte] <;> try subst hnil)))))
  refine awp_ownM 6 3 1 (by simp) ?_
  refine awp_range 19 18 20 47 (l.length) (fun j fr st2 => fr 3 = .mp st.next ∧ fr 17 = .sl 0 l.length (l.map u16) ∧ st.next < st2.next ∧ ∃ E S top q, st2.H st.next = .map false [.i64] E ∧ Cnt (l.take j) E S top ∧ fr 4 = i S ∧ fr 5 = i top ∧ fr 6 = .ms q 0 (l.take j).length ∧ st2.H q = .box 3 1 (I.us (l.take j)) ∧ q < st2.next ∧ st.next < q) ?_ ?_ ?_
  · refine ⟨by simp, by simp, by simp; omega, [([7], i 0)], 0, 0, st.next + 1, by simp [mset], ⟨⟨?_, by simp⟩, by simp, by simp [sumL, keyOf, cntOf], fun x => ?_, fun _ => rfl, fun h => absurd rfl h⟩, by simp, by simp, by simp, by simp, by simp, by omega⟩
    · intro p hp
      rw [List.mem_singleton] at hp
      exact ⟨7, 0, hp, by omega, by omega, by simp⟩
    · by_cases hx : x = 7
      · subst hx; simp [cntM, mget, cntOf]
      · simp [cntM, mget, cntOf, hx]
  · rintro j fr s hlt ⟨f3, f17, hn, E, S, top, q, hE, hC, f4, f5, f6, hq, hqn, hqm⟩ fi fn JJ hJJ
    have hd := u16_drop l j hlt
    have htk := tkJ l j hlt
    have hbx := hb (l.getD j 0) (by rw [List.getD_eq_getElem?_getD, List.getElem?_eq_getElem hlt]; exact List.getElem_mem _)
    have hln : (l.take j).length = j := by rw [List.length_take]; omega
    have hC2 := hC.snoc (k := l.getD j 0) (by omega)
    rw [← htk] at hC2
    generalize l.getD j 0 = x at *
    have w1 : IntKind.i64.wrap x = x := wrap_si _ (by omega) (by omega)
    have w2 : IntKind.i64.wrap (2 * x) = 2 * x := wrap_si _ (by omega) (by omega)
    have hsb := hC.sum.2
    rw [hln] at hsb f6
    have w3 : IntKind.i64.wrap (S + 2 * x) = S + 2 * x := wrap_si _ (by omega) (by omega)
    have hA := sAdd st.next E [x, x] s.next (2 * (l.take j).length) (s.new (.own 3 1 2)) (by rw [new_H, if_neg (by omega)]; exact hE) (by rw [hln]; omega) hC.tab (by simp) (by simp; omega)
    (repeat' (first | refine awp_seq ?_ | refine awp_block ?_ | ((first | refine awp_skip ?_ | refine awp_exit ?_); simp only [ak, reduceIte]) | (refine awp_ret ?_; simp only [ak, reduceIte]; simp [f3, f17, fi, fn, hlt, hd, w1]) | (refine awp_cond ?_; simp [f3, f17, fi, fn, hlt, hd, w1]; (try with_reducible refine ⟨?_, ?_⟩) <;> (try with_reducible intro hc) <;> try (exfalso; omega)) | ((first | (refine w_e [] ?_; intro J hJ; simp only []) | (refine w_q ?_; intro J hJ) | refine e_go ?_); simp [f3, f17, fi, fn, hlt, hd, w1]; (repeat refine ca ?_); (try ((try with_reducible refine ⟨?_, ?_⟩) <;> (try with_reducible intro hnil) <;> refine hJ _ _ ?_ <;> clear hJ J <;> simp only [ak, reduceIte] <;> try subst hnil)))))
    refine callK_ofE hA (by simp) ?_; rintro r s1 ⟨rfl, hT⟩
    have c1 : ¬ q = st.next := by omega
    have c2 : ¬ q = s.next := by omega
    have c3 : ¬ q = s.next + 1 := by omega
    have c4 : ¬ st.next = q := by omega
    have c5 : ¬ st.next = s.next := by omega
    have c6 : ¬ st.next = s.next + 1 := by omega
    have c7 : ¬ st.next = s.next + 1 + 1 := by omega
    have hfin : ∀ fr' s', fr' 19 = i j → fr' 18 = i l.length → (fr' 3 = .mp st.next ∧ fr' 17 = .sl 0 l.length (l.map u16) ∧ fr' 4 = i (S + 2 * x) ∧ fr' 5 = i (if l.take j = [] ∨ top < x then x else top) ∧ fr' 6 = .ms (s.next + 1 + 1) 0 (l.take (j + 1)).length) → s'.H st.next = .map false [.i64] (addAll E [x, x]) → s'.H (s.next + 1 + 1) = .box 3 1 (I.us (l.take (j + 1))) → s.next + 1 + 1 < s'.next → JJ fr' s' := fun fr' s' g1 g2 ⟨g3, g4, g5, g6, g7⟩ g8 g9 g10 =>
      hJJ fr' s' g1 g2 ⟨by simp [g3], by simp [g4], by omega, _, _, _, _, g8, hC2, by simp [g5], by simp [g6], by simp [g7], g9, g10, by omega⟩
    have hj0 : l.take j = [] ↔ j = 0 := by rw [← List.length_eq_zero_iff, hln]
    clear hJJ hb hA hd
    have hsz : ((l.take (j + 1)).length : Nat) = j + 1 := by rw [htk]; simp [hln]
    by_cases hj : j = 0
    · have hj' : (j : Int) = 0 := by omega
      (repeat' (first | refine awp_seq ?_ | refine awp_block ?_ | ((first | refine awp_skip ?_ | refine awp_exit ?_); simp only [ak, reduceIte]) | (refine awp_ret ?_; simp only [ak, reduceIte]; simp [hj', hj, f3, f17, f4, f5, f6, w2, w3, hln, fi, fn, hq, c1, c2, c3, c4, c5, c6, c7, I.us]) | (refine awp_cond ?_; simp [hj', hj, f3, f17, f4, f5, f6, w2, w3, hln, fi, fn, hq, c1, c2, c3, c4, c5, c6, c7, I.us]; (try with_reducible refine ⟨?_, ?_⟩) <;> (try with_reducible intro hc) <;> try (exfalso; omega)) | ((first | (refine w_e [] ?_; intro J hJ; simp only []) | (refine w_q ?_; intro J hJ) | refine e_go ?_); simp [hj', hj, f3, f17, f4, f5, f6, w2, w3, hln, fi, fn, hq, c1, c2, c3, c4, c5, c6, c7, I.us]; (repeat refine ca ?_); (try ((try with_reducible refine ⟨?_, ?_⟩) <;> (try with_reducible intro hnil) <;> refine hJ _ _ ?_ <;> clear hJ J <;> simp only [ak, reduceIte] <;> try subst hnil)))))
      refine hfin _ _ (by simp [fi]) (by simp [fn]) ⟨by simp [f3], by simp [f17], by simp, by simp [hj0, hj], by rw [hsz]; simp [hj]⟩ (by simp [c4, c5, c6, c7]) (by rw [htk, hj0.2 hj]; simp [I.us, I.u]) (by simp)
    have hj' : ¬ (j : Int) = 0 := by omega
    have hjb : ((j : Int) == 0) = false := by simp [hj]
    by_cases ht : top < x
    · (repeat' (first | refine awp_seq ?_ | refine awp_block ?_ | ((first | refine awp_skip ?_ | refine awp_exit ?_); simp only [ak, reduceIte]) | (refine awp_ret ?_; simp only [ak, reduceIte]; simp [hjb, ht, f3, f17, f4, f5, f6, w2, w3, hln, fi, fn, hq, c1, c2, c3, c4, c5, c6, c7, I.us]) | (refine awp_cond ?_; simp [hjb, ht, f3, f17, f4, f5, f6, w2, w3, hln, fi, fn, hq, c1, c2, c3, c4, c5, c6, c7, I.us]; (try with_reducible refine ⟨?_, ?_⟩) <;> (try with_reducible intro hc) <;> try (exfalso; omega)) | ((first | (refine w_e [] ?_; intro J hJ; simp only []) | (refine w_q ?_; intro J hJ) | refine e_go ?_); simp [hjb, ht, f3, f17, f4, f5, f6, w2, w3, hln, fi, fn, hq, c1, c2, c3, c4, c5, c6, c7, I.us]; (repeat refine ca ?_); (try ((try with_reducible refine ⟨?_, ?_⟩) <;> (try with_reducible intro hnil) <;> refine hJ _ _ ?_ <;> clear hJ J <;> simp only [ak, reduceIte] <;> try subst hnil)))))
      refine hfin _ _ (by simp [fi]) (by simp [fn]) ⟨by simp [f3], by simp [f17], by simp, by simp [hj0, hj, ht], by simp [hsz]⟩ (by simp [c4, c5, c6, c7]) (by rw [htk]; simp [I.us, I.u, List.map_take, List.take_take]) (by simp)
    · (repeat' (first | refine awp_seq ?_ | refine awp_block ?_ | ((first | refine awp_skip ?_ | refine awp_exit ?_); simp only [ak, reduceIte]) | (refine awp_ret ?_; simp only [ak, reduceIte]; simp [hjb, ht, f3, f17, f4, f5, f6, w2, w3, hln, fi, fn, hq, c1, c2, c3, c4, c5, c6, c7, I.us]) | (refine awp_cond ?_; simp [hjb, ht, f3, f17, f4, f5, f6, w2, w3, hln, fi, fn, hq, c1, c2, c3, c4, c5, c6, c7, I.us]; (try with_reducible refine ⟨?_, ?_⟩) <;> (try with_reducible intro hc) <;> try (exfalso; omega)) | ((first | (refine w_e [] ?_; intro J hJ; simp only []) | (refine w_q ?_; intro J hJ) | refine e_go ?_); simp [hjb, ht, f3, f17, f4, f5, f6, w2, w3, hln, fi, fn, hq, c1, c2, c3, c4, c5, c6, c7, I.us]; (repeat refine ca ?_); (try ((try with_reducible refine ⟨?_, ?_⟩) <;> (try with_reducible intro hnil) <;> refine hJ _ _ ?_ <;> clear hJ J <;> simp only [ak, reduceIte] <;> try subst hnil)))))
      refine hfin _ _ (by simp [fi]) (by simp [fn]) ⟨by simp [f3], by simp [f17], by simp, by simp [hj0, hj, ht, f5], by simp [hsz]⟩ (by simp [c4, c5, c6, c7]) (by rw [htk]; simp [I.us, I.u, List.map_take, List.take_take]) (by simp)
  · rintro fr s ⟨f3, f17, hn, E, S, top, q, hE, hC, f4, f5, f6, hq, hqn, hqm⟩
    rw [List.take_length] at hC f6 hq
    have hlen := hC.len
    have hkn := hC.tab.isKn (by omega)
    have hsb := hC.sum.2
    have hmn := fun x => (mem_nzk hC.tab x).trans (hC.mem x)
    have hnd := nzk_nodup hC.tab
    have hS := hC.sum.1
    have ht0 := hC.top0
    have ht1 := hC.top1
    clear hC hb
    (repeat' (first | refine awp_seq ?_ | refine awp_block ?_ | ((first | refine awp_skip ?_ | refine awp_exit ?_); simp only [ak, reduceIte]) | (refine awp_ret ?_; simp only [ak, reduceIte]; simp [f6]) | (refine awp_cond ?_; simp [f6]; (try with_reducible refine ⟨?_, ?_⟩) <;> (try with_reducible intro hc) <;> try (exfalso; omega)) | ((first | (refine w_e [] ?_; intro J hJ; simp only []) | (refine w_q ?_; intro J hJ) | refine e_go ?_); simp [f6]; (repeat refine ca ?_); (try ((try with_reducible refine ⟨?_, ?_⟩) <;> (try with_reducible intro hnil) <;> refine hJ _ _ ?_ <;> clear hJ J <;> simp only [ak, reduceIte] <;> try subst hnil)))))
    refine callK_ofE (I.SortU l q s (by omega) hqn hq) (by simp) ?_; rintro r s1 ⟨c, hc, hcp, hcs, hof⟩
    have hcl := hcp.length_eq
    rw [← hcl] at f6
    have hE1 : s1.H st.next = .map false [.i64] E := (hof.2 _ (by omega) hn).trans hE
    have hn1 := hof.1
    (repeat' (first | refine awp_seq ?_ | refine awp_block ?_ | ((first | refine awp_skip ?_ | refine awp_exit ?_); simp only [ak, reduceIte]) | (refine awp_ret ?_; simp only [ak, reduceIte]; simp [f6]) | (refine awp_cond ?_; simp [f6]; (try with_reducible refine ⟨?_, ?_⟩) <;> (try with_reducible intro hc) <;> try (exfalso; omega)) | ((first | (refine w_e [] ?_; intro J hJ; simp only []) | (refine w_q ?_; intro J hJ) | refine e_go ?_); simp [f6]; (repeat refine ca ?_); (try ((try with_reducible refine ⟨?_, ?_⟩) <;> (try with_reducible intro hnil) <;> refine hJ _ _ ?_ <;> clear hJ J <;> simp only [ak, reduceIte] <;> try subst hnil)))))
    refine callK_ofE (I.Compact c q s1 (by omega) hc) (by simp) ?_; rintro r s2 ⟨rfl, cs, hs2⟩
    have hE2 : s2.H st.next = .map false [.i64] E := by rw [hs2, set_H, if_neg (by omega)]; exact hE1
    have hq2 : s2.H q = .box 3 1 (I.us (I.cpt c) ++ cs) := by rw [hs2, set_H, if_pos rfl]
    have hn2 : s2.next = s1.next := by rw [hs2, set_next]
    clear hs2
    (repeat' (first | refine awp_seq ?_ | refine awp_block ?_ | ((first | refine awp_skip ?_ | refine awp_exit ?_); simp only [ak, reduceIte]) | (refine awp_ret ?_; simp only [ak, reduceIte]; simp [f3, f4, f5]) | (refine awp_cond ?_; simp [f3, f4, f5]; (try with_reducible refine ⟨?_, ?_⟩) <;> (try with_reducible intro hc) <;> try (exfalso; omega)) | ((first | (refine w_e [] ?_; intro J hJ; simp only []) | (refine w_q ?_; intro J hJ) | refine e_go ?_); simp [f3, f4, f5]; (repeat refine ca ?_); (try ((try with_reducible refine ⟨?_, ?_⟩) <;> (try with_reducible intro hnil) <;> refine hJ _ _ ?_ <;> clear hJ J <;> simp only [ak, reduceIte] <;> try subst hnil)))))
    refine callK_ofE (sSum st.next E s2 hE2 hkn (by omega)) (by simp) ?_; rintro r s3 ⟨rfl, hs3⟩; rw [hs3]; clear hs3 s3
    rw [hS]
    (repeat' (first | refine awp_seq ?_ | refine awp_block ?_ | ((first | refine awp_skip ?_ | refine awp_exit ?_); simp only [ak, reduceIte]) | (refine awp_ret ?_; simp only [ak, reduceIte]; simp [f3, f4, f5]) | (refine awp_cond ?_; simp [f3, f4, f5]; (try with_reducible refine ⟨?_, ?_⟩) <;> (try with_reducible intro hc) <;> try (exfalso; omega)) | ((first | (refine w_e [] ?_; intro J hJ; simp only []) | (refine w_q ?_; intro J hJ) | refine e_go ?_); simp [f3, f4, f5]; (repeat refine ca ?_); (try ((try with_reducible refine ⟨?_, ?_⟩) <;> (try with_reducible intro hnil) <;> refine hJ _ _ ?_ <;> clear hJ J <;> simp only [ak, reduceIte] <;> try subst hnil)))))
    refine callK_ofE (sTop st.next E s2 hE2 (by omega) hkn (by omega)) (by simp) ?_; rintro r s3 ⟨⟨d, rfl, hds, hdp⟩, hk3⟩
    have hdt : d.getLast?.getD 0 = top := by
      by_cases hl : l = []
      · have : d = [] := List.eq_nil_iff_forall_not_mem.2 fun x hx => by have := (hmn x).1 (hdp.mem_iff.1 hx); simp [hl] at this
        rw [this, ht0 hl]; rfl
      · exact last_max hds (hdp.mem_iff.2 ((hmn _).2 (ht1 hl).1)) fun y hy => (ht1 hl).2 y ((hmn y).1 (hdp.mem_iff.1 hy))
    rw [hdt]
    have hE3 := (hk3.H st.next (by omega)).trans hE2
    have hn3 := hk3.next
    (repeat' (first | refine awp_seq ?_ | refine awp_block ?_ | ((first | refine awp_skip ?_ | refine awp_exit ?_); simp only [ak, reduceIte]) | (refine awp_ret ?_; simp only [ak, reduceIte]; simp [f3, f4, f5]) | (refine awp_cond ?_; simp [f3, f4, f5]; (try with_reducible refine ⟨?_, ?_⟩) <;> (try with_reducible intro hc) <;> try (exfalso; omega)) | ((first | (refine w_e [] ?_; intro J hJ; simp only []) | (refine w_q ?_; intro J hJ) | refine e_go ?_); simp [f3, f4, f5]; (repeat refine ca ?_); (try ((try with_reducible refine ⟨?_, ?_⟩) <;> (try with_reducible intro hnil) <;> refine hJ _ _ ?_ <;> clear hJ J <;> simp only [ak, reduceIte] <;> try subst hnil)))))
    refine callK_ofE (sKeys st.next E s3 hE3 (by omega) hkn (by omega)) (by simp) ?_; rintro r s4 ⟨⟨d2, rfl, hds2, hdp2⟩, hk4⟩
    have hdd : d2 = I.cpt c := lt_ext ((hds2.and (hdp2.nodup_iff.2 hnd)).imp fun h => by have := h.1; have := h.2; omega) (I.cpt_lt hcs) fun x => hdp2.mem_iff.trans ((hmn x).trans (hcp.mem_iff.symm.trans (I.cpt_mem hcs x).symm))
    subst hdd
    have hcc : (I.cpt c).length ≤ c.length := I.cptT_le c c.length
    have hq4 := (hk4.H q (by omega)).trans ((hk3.H q (by omega)).trans hq2)
    have hEq : ACalls Tryz.prog 21 [.sl 0 (I.cpt c).length (I.us (I.cpt c)), .ms q 0 (I.cpt c).length] s4 fun r st' => r = bb true ∧ st' = s4.set q .dead := by
      refine acalls_freezeArg (pre := [_]) (post := []) hq4 (by simp) ?_
      rw [Nat.mul_one, List.take_append_of_le_length (by simp), List.take_of_length_le (by simp)]
      have h := I.Equal (I.cpt c) (I.cpt c) 0 0 (s4.set q .dead) (by unfold small; omega)
      rw [decide_eq_true rfl] at h
      exact h
    (repeat' (first | refine awp_seq ?_ | refine awp_block ?_ | ((first | refine awp_skip ?_ | refine awp_exit ?_); simp only [ak, reduceIte]) | (refine awp_ret ?_; simp only [ak, reduceIte]; simp [f3, f4, f5]) | (refine awp_cond ?_; simp [f3, f4, f5]; (try with_reducible refine ⟨?_, ?_⟩) <;> (try with_reducible intro hc) <;> try (exfalso; omega)) | ((first | (refine w_e [] ?_; intro J hJ; simp only []) | (refine w_q ?_; intro J hJ) | refine e_go ?_); simp [f3, f4, f5]; (repeat refine ca ?_); (try ((try with_reducible refine ⟨?_, ?_⟩) <;> (try with_reducible intro hnil) <;> refine hJ _ _ ?_ <;> clear hJ J <;> simp only [ak, reduceIte] <;> try subst hnil)))))
    refine callK_ofE hEq (by simp) ?_; rintro r s5 ⟨rfl, hs5⟩; clear hs5
    (repeat' (first | refine awp_seq ?_ | refine awp_block ?_ | ((first | refine awp_skip ?_ | refine awp_exit ?_); simp only [ak, reduceIte]) | (refine awp_ret ?_; simp only [ak, reduceIte]; simp [f3, f4, f5]) | (refine awp_cond ?_; simp [f3, f4, f5]; (try with_reducible refine ⟨?_, ?_⟩) <;> (try with_reducible intro hc) <;> try (exfalso; omega)) | ((first | (refine w_e [] ?_; intro J hJ; simp only []) | (refine w_q ?_; intro J hJ) | refine e_go ?_); simp [f3, f4, f5]; (repeat refine ca ?_); (try ((try with_reducible refine ⟨?_, ?_⟩) <;> (try with_reducible intro hnil) <;> refine hJ _ _ ?_ <;> clear hJ J <;> simp only [ak, reduceIte] <;> try subst hnil)))))
    refine callK_ofE (sSumNil s5) (by simp) ?_; rintro r s6 ⟨rfl, hs6⟩; rw [hs6]; clear hs6 s6
    (repeat' (first | refine awp_seq ?_ | refine awp_block ?_ | ((first | refine awp_skip ?_ | refine awp_exit ?_); simp only [ak, reduceIte]) | (refine awp_ret ?_; simp only [ak, reduceIte]; simp [f3, f4, f5]) | (refine awp_cond ?_; simp [f3, f4, f5]; (try with_reducible refine ⟨?_, ?_⟩) <;> (try with_reducible intro hc) <;> try (exfalso; omega)) | ((first | (refine w_e [] ?_; intro J hJ; simp only []) | (refine w_q ?_; intro J hJ) | refine e_go ?_); simp [f3, f4, f5]; (repeat refine ca ?_); (try ((try with_reducible refine ⟨?_, ?_⟩) <;> (try with_reducible intro hnil) <;> refine hJ _ _ ?_ <;> clear hJ J <;> simp only [ak, reduceIte] <;> try subst hnil)))))
    refine callK_ofE (sTopNil s5) (by simp) ?_; rintro r s6 ⟨rfl, hk6⟩
    (repeat' (first | refine awp_seq ?_ | refine awp_block ?_ | ((first | refine awp_skip ?_ | refine awp_exit ?_); simp only [ak, reduceIte]) | (refine awp_ret ?_; simp only [ak, reduceIte]; simp []) | (refine awp_cond ?_; simp []; (try with_reducible refine ⟨?_, ?_⟩) <;> (try with_reducible intro hc) <;> try (exfalso; omega)) | ((first | (refine w_e [] ?_; intro J hJ; simp only []) | (refine w_q ?_; intro J hJ) | refine e_go ?_); simp []; (repeat refine ca ?_); (try ((try with_reducible refine ⟨?_, ?_⟩) <;> (try with_reducible intro hnil) <;> refine hJ _ _ ?_ <;> clear hJ J <;> simp only [ak, reduceIte] <;> try subst hnil)))))

end Go.Proofs.YtomfeddgeihipaaGreat.Aw

namespace Go.Proofs.YtomfeddgeihipaaGreat.Aw
open Go Go.RowKit Go.Proofs.YtomfeddgeihipaaGreat.Pl
set_option linter.unusedSimpArgs false
set_option linter.unusedVariables false

theorem shp_i16 {lvs : List LV} (h : Shp tab 27 lvs) : ∃ n, lvs = [u16 n] ∧ (-32768 ≤ n ∧ n ≤ 32767) := by
  obtain ⟨n, h1, h2⟩ := shp_int rfl rfl h
  simp [Lit.wf, show IntKind.i16.min = -32768 from rfl, show IntKind.i16.max = 32767 from rfl] at h2
  exact ⟨n, h1, h2⟩
theorem shp_i16s {lvs : List LV} (h : Shp tab 22 lvs) : ∃ l : List Int, lvs = [.sl 0 l.length (l.map u16)] ∧ ∀ x ∈ l, -32768 ≤ x ∧ x ≤ 32767 := by
  obtain ⟨es, h1, h2, h3⟩ := shp_slice rfl rfl h
  have : ∃ l : List Int, es = l.map (fun x => [u16 x]) ∧ ∀ x ∈ l, -32768 ≤ x ∧ x ≤ 32767 := by
    clear h1 h2
    induction es with
    | nil => exact ⟨[], rfl, by simp⟩
    | cons x es ih =>
      obtain ⟨l, k1, k2⟩ := ih (fun y hy => h3 y (by simp [hy]))
      obtain ⟨n, k3, k4⟩ := shp_i16 (h3 x (by simp))
      exact ⟨n :: l, by rw [k1, k3]; rfl, fun y hy => by rcases List.mem_cons.1 hy with rfl | hy; exact k4; exact k2 y hy⟩
  obtain ⟨l, rfl, k⟩ := this
  refine ⟨l, ?_, k⟩
  rw [h1]
  have : (l.map fun x => [u16 x]).flatten = l.map u16 := by
    clear h1 h2 h3 k
    induction l with
    | nil => rfl
    | cons x l ih => simp only [List.map_cons, List.flatten_cons, ih]; rfl
  rw [this]; simp
theorem StatTables_shpH (hawk : ∀ st, ACalls Tryz.prog 15 [] st fun r st' => r = bb true ∧ st' = st) (l0 : List LV) (st : St) (h0 : Shp tab 22 l0) :
    ACalls Tryz.prog 3 [argT tab 22 l0] st fun r st' => r = bb true := by
  obtain ⟨l, rfl, hb⟩ := shp_i16s h0
  exact StatTables_of hawk l st hb

end Go.Proofs.YtomfeddgeihipaaGreat.Aw

namespace Go.Proofs.YtomfeddgeihipaaGreat.Aw
open Go Go.RowKit Go.Proofs.YtomfeddgeihipaaGreat.Pl
set_option linter.unusedSimpArgs false
set_option linter.unusedVariables false

def degs (g : Gr) : List Int := g.vs.map fun v => ((ends g.es v).length : Int)
theorem ends_le (es : List Ed) (v : Int) : (ends es v).length ≤ 2 * es.length := flat_len (end1 v) (end1_len v) es

theorem Degrees (g : Gr) (st : St) (hv : g.vs.length ≤ 1000) (he : g.es.length ≤ 1000) (hid : idOk g.es) :
    ACalls Tryz.prog 76 [.ag (grL g)] st fun r st' => ∃ m, r = .mp m ∧ st.next ≤ m ∧ m < st'.next ∧ Keeps st st' ∧ st'.H m = .map false [.i64] (addAll [] (degs g)) ∧ TabB g.vs.length (addAll [] (degs g)) := by
  have hdl : (degs g).length = g.vs.length := by simp [degs]
  refine acalls_of_body tabOk Tryz.func76 rfl rfl Tryz.ntmps76 (rs := [.tmp 2]) rfl (by simp) ?_
  (repeat' (first | refine awp_seq ?_ | refine awp_block ?_ | ((first | refine awp_skip ?_ | refine awp_exit ?_); simp only [ak, reduceIte]) | (refine awp_ret ?_; simp only [ak, reduceIte]; simp []) | (refine awp_cond ?_; simp []; (try with_reducible refine ⟨?_, ?_⟩) <;> (try with_reducible intro hc) <;> try (exfalso; omega)) | ((first | (refine w_e [] ?_; intro J hJ; simp only []) | (refine w_q ?_; intro J hJ) | refine e_go ?_); simp []; (repeat refine ca ?_); (try ((try with_reducible refine ⟨?_, ?_⟩) <;> (try with_reducible intro hnil) <;> refine hJ _ _ ?_ <;> clear hJ J <;> simp only [ak, reduceIte] <;> try subst hnil)))))
  refine awp_range 10 9 11 21 (g.vs.length) (fun j fr st2 => fr 1 = .pt st.next 0 ∧ fr 3 = .mp (st.next + 1) ∧ fr 8 = .sl 0 g.vs.length (us g.vs) ∧ st2.H st.next = .box 38 2 (grL g) ∧ st.next + 1 < st2.next ∧ Keeps st st2 ∧ st2.H (st.next + 1) = .map false [.i64] (addAll [] ((degs g).take j)) ∧ TabB j (addAll [] ((degs g).take j))) ?_ ?_ ?_
  · exact ⟨by simp, by simp, by simp, by simp, by simp, (Keeps.new _ _).trans (Keeps.new _ _), by simp [addAll], ⟨by simp [addAll], by simp [addAll]⟩⟩
  · rintro j fr s hlt ⟨f1, f3, f8, hG, hsn, hkp, hM, hT⟩ fi fn J hJ
    have hd := us_drop_getD g.vs j hlt
    have htk : (degs g).take (j + 1) = (degs g).take j ++ [((ends g.es (g.vs.getD j 0)).length : Int)] := by
      rw [List.take_succ_eq_append_getElem (by omega)]
      congr 2
      simp [degs, List.getD_eq_getElem?_getD, List.getElem?_eq_getElem hlt]
    generalize g.vs.getD j 0 = v at *
    have hel := ends_le g.es v
    (repeat' (first | refine awp_seq ?_ | refine awp_block ?_ | ((first | refine awp_skip ?_ | refine awp_exit ?_); simp only [ak, reduceIte]) | (refine awp_ret ?_; simp only [ak, reduceIte]; simp [f1, f3, f8, fi, fn, hd, hlt, hG]) | (refine awp_cond ?_; simp [f1, f3, f8, fi, fn, hd, hlt, hG]; (try with_reducible refine ⟨?_, ?_⟩) <;> (try with_reducible intro hc) <;> try (exfalso; omega)) | ((first | (refine w_e [] ?_; intro J hJ; simp only []) | (refine w_q ?_; intro J hJ) | refine e_go ?_); simp [f1, f3, f8, fi, fn, hd, hlt, hG]; (repeat refine ca ?_); (try ((try with_reducible refine ⟨?_, ?_⟩) <;> (try with_reducible intro hnil) <;> refine hJ _ _ ?_ <;> clear hJ J <;> simp only [ak, reduceIte] <;> try subst hnil)))))
    refine callK_ofE (Ends g v _ he hid) (by simp) ?_; rintro r s4 ⟨⟨t4, rfl⟩, hk4⟩
    have hn4 := hk4.next
    have hG4 := (hk4.H st.next (by omega)).trans hG
    have hM4 := (hk4.H (st.next + 1) (by omega)).trans hM
    have hAdd := sAdd (st.next + 1) (addAll [] ((degs g).take j)) [((ends g.es v).length : Int)] s4.next (j : Int) (s4.new (.own 3 1 1)) (by rw [new_H, if_neg (by omega)]; exact hM4) (by omega) hT (by simp) (by simp; omega)
    simp only [List.length_cons, List.length_nil, List.map_cons, List.map_nil] at hAdd
    (repeat' (first | refine awp_seq ?_ | refine awp_block ?_ | ((first | refine awp_skip ?_ | refine awp_exit ?_); simp only [ak, reduceIte]) | (refine awp_ret ?_; simp only [ak, reduceIte]; simp []) | (refine awp_cond ?_; simp []; (try with_reducible refine ⟨?_, ?_⟩) <;> (try with_reducible intro hc) <;> try (exfalso; omega)) | ((first | (refine w_e [] ?_; intro J hJ; simp only []) | (refine w_q ?_; intro J hJ) | refine e_go ?_); simp []; (repeat refine ca ?_); (try ((try with_reducible refine ⟨?_, ?_⟩) <;> (try with_reducible intro hnil) <;> refine hJ _ _ ?_ <;> clear hJ J <;> simp only [ak, reduceIte] <;> try subst hnil)))))
    refine callK_ofE hAdd (by simp) ?_; rintro r s5 ⟨rfl, hT5⟩
    have hAA : addAll (addAll [] ((degs g).take j)) [((ends g.es v).length : Int)] = addAll [] ((degs g).take (j + 1)) := by rw [htk]; simp [addAll, List.foldl_append]
    rw [hAA] at hT5 ⊢
    (repeat' (first | refine awp_seq ?_ | refine awp_block ?_ | ((first | refine awp_skip ?_ | refine awp_exit ?_); simp only [ak, reduceIte]) | (refine awp_ret ?_; simp only [ak, reduceIte]; simp []) | (refine awp_cond ?_; simp []; (try with_reducible refine ⟨?_, ?_⟩) <;> (try with_reducible intro hc) <;> try (exfalso; omega)) | ((first | (refine w_e [] ?_; intro J hJ; simp only []) | (refine w_q ?_; intro J hJ) | refine e_go ?_); simp []; (repeat refine ca ?_); (try ((try with_reducible refine ⟨?_, ?_⟩) <;> (try with_reducible intro hnil) <;> refine hJ _ _ ?_ <;> clear hJ J <;> simp only [ak, reduceIte] <;> try subst hnil)))))
    refine hJ _ _ (by simp [fi]) (by simp [fn]) ⟨by simp [f1], by simp [f3], by simp [f8], ?_, by simp; omega, ?_, by simp, by simpa using hT5⟩
    · (repeat (first | rw [new_H, if_neg (α := LObj) (by (try simp only [set_next, new_next]); omega)] | rw [set_H, if_neg (α := LObj) (by omega)] | rw [new_H, if_pos (α := LObj) (by (try simp only [set_next, new_next]))] | rw [set_H, if_pos (α := LObj) (by omega)])); exact hG4
    · exact ((hkp.trans hk4).trans (Keeps.new _ _)).set (by omega) _
  · rintro fr s ⟨f1, f3, f8, hG, hsn, hkp, hM, hT⟩
    rw [List.take_of_length_le (by omega)] at hM hT
    (repeat' (first | refine awp_seq ?_ | refine awp_block ?_ | ((first | refine awp_skip ?_ | refine awp_exit ?_); simp only [ak, reduceIte]) | (refine awp_ret ?_; simp only [ak, reduceIte]; simp [f3]) | (refine awp_cond ?_; simp [f3]; (try with_reducible refine ⟨?_, ?_⟩) <;> (try with_reducible intro hc) <;> try (exfalso; omega)) | ((first | (refine w_e [] ?_; intro J hJ; simp only []) | (refine w_q ?_; intro J hJ) | refine e_go ?_); simp [f3]; (repeat refine ca ?_); (try ((try with_reducible refine ⟨?_, ?_⟩) <;> (try with_reducible intro hnil) <;> refine hJ _ _ ?_ <;> clear hJ J <;> simp only [ak, reduceIte] <;> try subst hnil)))))
    exact ⟨hsn, hkp, hM, hT⟩

theorem Awake10 (st : St) : ACalls Tryz.prog 77 [] st fun r st' => r = bb true ∧ st' = st := by
  refine acalls_of_body tabOk Tryz.func77 rfl rfl Tryz.ntmps77 (rs := [.tmp 0]) rfl (by simp) ?_
  (repeat' (first | refine awp_seq ?_ | refine awp_block ?_ | ((first | refine awp_skip ?_ | refine awp_exit ?_); simp only [ak, reduceIte]) | (refine awp_ret ?_; simp only [ak, reduceIte]; simp []) | (refine awp_cond ?_; simp []; (try with_reducible refine ⟨?_, ?_⟩) <;> (try with_reducible intro hc) <;> try (exfalso; omega)) | ((first | (refine w_e [] ?_; intro J hJ; simp only []) | (refine w_q ?_; intro J hJ) | refine e_go ?_); simp []; (repeat refine ca ?_); (try ((try with_reducible refine ⟨?_, ?_⟩) <;> (try with_reducible intro hnil) <;> refine hJ _ _ ?_ <;> clear hJ J <;> simp only [ak, reduceIte] <;> try subst hnil)))))
  refine callK_ofE (awake10 _) (by simp []) ?_; rintro r st' ⟨rfl, rfl⟩
  (repeat' (first | refine awp_seq ?_ | refine awp_block ?_ | ((first | refine awp_skip ?_ | refine awp_exit ?_); simp only [ak, reduceIte]) | (refine awp_ret ?_; simp only [ak, reduceIte]; simp []) | (refine awp_cond ?_; simp []; (try with_reducible refine ⟨?_, ?_⟩) <;> (try with_reducible intro hc) <;> try (exfalso; omega)) | ((first | (refine w_e [] ?_; intro J hJ; simp only []) | (refine w_q ?_; intro J hJ) | refine e_go ?_); simp []; (repeat refine ca ?_); (try ((try with_reducible refine ⟨?_, ?_⟩) <;> (try with_reducible intro hnil) <;> refine hJ _ _ ?_ <;> clear hJ J <;> simp only [ak, reduceIte] <;> try subst hnil)))))
theorem Awake13 (st : St) : ACalls Tryz.prog 78 [] st fun r st' => r = bb true ∧ st' = st := by
  refine acalls_of_body tabOk Tryz.func78 rfl rfl Tryz.ntmps78 (rs := [.tmp 0]) rfl (by simp) ?_
  (repeat' (first | refine awp_seq ?_ | refine awp_block ?_ | ((first | refine awp_skip ?_ | refine awp_exit ?_); simp only [ak, reduceIte]) | (refine awp_ret ?_; simp only [ak, reduceIte]; simp []) | (refine awp_cond ?_; simp []; (try with_reducible refine ⟨?_, ?_⟩) <;> (try with_reducible intro hc) <;> try (exfalso; omega)) | ((first | (refine w_e [] ?_; intro J hJ; simp only []) | (refine w_q ?_; intro J hJ) | refine e_go ?_); simp []; (repeat refine ca ?_); (try ((try with_reducible refine ⟨?_, ?_⟩) <;> (try with_reducible intro hnil) <;> refine hJ _ _ ?_ <;> clear hJ J <;> simp only [ak, reduceIte] <;> try subst hnil)))))
  refine callK_ofE (awake13 _) (by simp []) ?_; rintro r st' ⟨rfl, rfl⟩
  (repeat' (first | refine awp_seq ?_ | refine awp_block ?_ | ((first | refine awp_skip ?_ | refine awp_exit ?_); simp only [ak, reduceIte]) | (refine awp_ret ?_; simp only [ak, reduceIte]; simp []) | (refine awp_cond ?_; simp []; (try with_reducible refine ⟨?_, ?_⟩) <;> (try with_reducible intro hc) <;> try (exfalso; omega)) | ((first | (refine w_e [] ?_; intro J hJ; simp only []) | (refine w_q ?_; intro J hJ) | refine e_go ?_); simp []; (repeat refine ca ?_); (try ((try with_reducible refine ⟨?_, ?_⟩) <;> (try with_reducible intro hnil) <;> refine hJ _ _ ?_ <;> clear hJ J <;> simp only [ak, reduceIte] <;> try subst hnil)))))

def tri : Gr := ⟨[1, 2, 3], [⟨1, 1, 2⟩, ⟨2, 2, 3⟩, ⟨3, 3, 1⟩]⟩
theorem tri_girth : girthL tri 10 0 tri.es = some 3 := by decide +kernel
theorem tri_degs : addAll [] (degs tri) = [([2], i 3)] := by rfl
theorem awake37 (st : St) : ACalls Tryz.prog 15 [] st fun r st' => r = bb true ∧ st' = st := by
  refine (acalls_frame (R := fun v => v = .bool true) ?_).mono ?_
  rotate_left
  · rintro r st' ⟨⟨v, rfl, rfl⟩, rfl⟩; exact ⟨rfl, rfl⟩
  generalize hst : (⟨1, fun _ => .dead⟩ : St) = st
  have hid : idOk tri.es := by intro x hx; simp [tri] at hx; rcases hx with rfl | rfl | rfl <;> decide
  refine acalls_of_body tabOk Tryz.func15 rfl rfl Tryz.ntmps15 (rs := [.tmp 0]) rfl (by simp) ?_
  (repeat' (first | refine awp_seq ?_ | refine awp_block ?_ | ((first | refine awp_skip ?_ | refine awp_exit ?_); simp only [ak, reduceIte]) | (refine awp_ret ?_; simp only [ak, reduceIte]; simp []) | (refine awp_cond ?_; simp []; (try with_reducible refine ⟨?_, ?_⟩) <;> (try with_reducible intro hc) <;> try (exfalso; omega)) | ((first | (refine w_e [] ?_; intro J hJ; simp only []) | (refine w_q ?_; intro J hJ) | refine e_go ?_); simp []; (repeat refine ca ?_); (try ((try with_reducible refine ⟨?_, ?_⟩) <;> (try with_reducible intro hnil) <;> refine hJ _ _ ?_ <;> clear hJ J <;> simp only [ak, reduceIte] <;> try subst hnil)))))
  have hG := fun s => Girth tri 10 3 s (by decide) (by decide) (by decide) tri_girth
  have hD := fun s => Degrees tri s (by decide) (by decide) hid
  refine callK_of (acalls_args0 (by simp only [z0L, z0]; exact hG _)) ?_; rintro r s1 ⟨rfl, hk1⟩
  have hn1 := hk1.next
  simp only [new_next, set_next] at hn1
  have hB := hk1.H (st.next + 1 + 1) (by simp)
  simp at hB
  (refine e_go ?_; simp [hB]; (repeat refine ca ?_); (try ((try with_reducible refine ⟨?_, ?_⟩) <;> (try with_reducible intro hnil) <;> refine hJ _ _ ?_ <;> clear hJ J <;> simp only [ak, reduceIte] <;> try subst hnil)))
  refine callK_of (acalls_args0 (by simp only [z0L, z0]; exact hD _)) ?_; rintro r s2 ⟨m, rfl, m1, m2, hk2, hM, _⟩
  rw [tri_degs] at hM
  (refine e_go ?_; simp [hM, mget]; (repeat refine ca ?_); (try ((try with_reducible refine ⟨?_, ?_⟩) <;> (try with_reducible intro hnil) <;> refine hJ _ _ ?_ <;> clear hJ J <;> simp only [ak, reduceIte] <;> try subst hnil)))
  refine callK_ofE (Awake10 _) (by simp []) ?_; rintro r st' ⟨rfl, rfl⟩
  (refine e_go ?_; simp []; (repeat refine ca ?_); (try ((try with_reducible refine ⟨?_, ?_⟩) <;> (try with_reducible intro hnil) <;> refine hJ _ _ ?_ <;> clear hJ J <;> simp only [ak, reduceIte] <;> try subst hnil)))
  refine callK_ofE (Awake13 _) (by simp []) ?_; rintro r st' ⟨rfl, rfl⟩
  (repeat' (first | refine awp_seq ?_ | refine awp_block ?_ | ((first | refine awp_skip ?_ | refine awp_exit ?_); simp only [ak, reduceIte]) | (refine awp_ret ?_; simp only [ak, reduceIte]; simp []) | (refine awp_cond ?_; simp []; (try with_reducible refine ⟨?_, ?_⟩) <;> (try with_reducible intro hc) <;> try (exfalso; omega)) | ((first | (refine w_e [] ?_; intro J hJ; simp only []) | (refine w_q ?_; intro J hJ) | refine e_go ?_); simp []; (repeat refine ca ?_); (try ((try with_reducible refine ⟨?_, ?_⟩) <;> (try with_reducible intro hnil) <;> refine hJ _ _ ?_ <;> clear hJ J <;> simp only [ak, reduceIte] <;> try subst hnil)))))

theorem StatTables_shp (l0 : List LV) (st : St) (h0 : Shp tab 22 l0) :
    ACalls Tryz.prog 3 [argT tab 22 l0] st fun r st' => r = bb true := StatTables_shpH awake37 l0 st h0

end Go.Proofs.YtomfeddgeihipaaGreat.Aw
