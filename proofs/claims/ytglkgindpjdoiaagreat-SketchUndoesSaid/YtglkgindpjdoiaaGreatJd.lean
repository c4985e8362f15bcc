/- Graphs: near, Alone. -/
import Derived.Test.YtglkgindpjdoiaaGreatJc
import Derived.Test.YtglkgindpjdoiaaGreatAwTd
import Derived.Lib.Overlaps
namespace Go.Proofs.YtglkgindpjdoiaaGreat.Aw
open Go Go.RowKit Go.Proofs.YtglkgindpjdoiaaGreat.Pl
set_option linter.unusedSimpArgs false
set_option linter.unusedVariables false
def nbr1 (v : Int) (x : Ed) : List Int := (if x.a = v then [x.b] else []) ++ (if x.b = v then [x.a] else [])
def nbr (es : List Ed) (v : Int) : List Int := es.flatMap (nbr1 v)
theorem nbr1_len (v : Int) (x : Ed) : (nbr1 v x).length ≤ 2 := by
  unfold nbr1; split <;> split <;> simp
def NearI (lo m : Nat) (es : List (List Int × LV)) (st : St) (f : Int → List Int) (tok : Int → Nat) : Prop :=
  ∀ v, (tok v = 0 → f v = [] ∧ mget es [v] = none) ∧ (tok v ≠ 0 → mget es [v] = some (.sl (tok v) (f v).length (us (f v))) ∧ lo ≤ tok v ∧ tok v < st.next ∧ tok v ≠ m ∧ st.H (tok v) = .own 29 1 (f v).length ∧ ∀ w, tok w = tok v → w = v)
theorem NearI.step {lo m : Nat} {es : List (List Int × LV)} {st st' : St} {f : Int → List Int} {tok : Int → Nat} (h : NearI lo m es st f tok) (a x : Int) (N : Nat) (hN : st.next ≤ N) (hN' : N < st'.next) (hm : m < st.next) (h0 : 0 < st.next) (hlo : lo ≤ st.next)
    (hH : ∀ l, l ≠ tok a → l ≠ m → l < st.next → st'.H l = st.H l) (hO : st'.H N = .own 29 1 ((f a).length + 1)) :
    NearI lo m (mset es [a] (.sl N ((f a).length + 1) (us (f a ++ [x])))) st' (fun v => if v = a then f a ++ [x] else f v) (fun v => if v = a then N else tok v) := by
  intro v
  by_cases hv : v = a
  · subst hv
    simp only [if_true]
    refine ⟨fun h1 => by omega, fun _ => ⟨by rw [mget_mset]; simp, by omega, hN', by omega, by rw [hO]; simp, fun w hw => ?_⟩⟩
    by_cases hwv : w = v
    · exact hwv
    · rw [if_neg hwv] at hw
      by_cases h1 : tok w = 0
      · omega
      · have := ((h w).2 h1).2.2.1; omega
  · simp only [if_neg hv]
    have hne : ¬ ([v] : List Int) = [a] := by simpa using hv
    refine ⟨fun h1 => ⟨((h v).1 h1).1, by rw [mget_mset, if_neg hne]; exact ((h v).1 h1).2⟩, fun h1 => ?_⟩
    obtain ⟨k1, k2, k3, k4, k5, k6⟩ := (h v).2 h1
    refine ⟨by rw [mget_mset, if_neg hne]; exact k1, k2, by omega, k4, ?_, fun w hw => ?_⟩
    · rw [hH (tok v) (fun e => hv (k6 a e.symm).symm) k4 k3]; exact k5
    · by_cases hwa : w = a
      · subst hwa; simp only [if_true] at hw; omega
      · rw [if_neg hwa] at hw; exact k6 w hw
def RowsAt (es : List (List Int × LV)) (f : Int → List Int) : Prop := ∀ v, ∃ t, norm ((mget es [v]).getD .nil) = .sl t (f v).length (us (f v))
def NearJ (n0 m : Nat) (st : St) (l : List Ed) (k : Nat) (id a b : Int) (f : Int → List Int) (fr : Frm) (st2 : St) : Prop :=
  fr 3 = .mp (m) ∧ fr 8 = .sl 0 l.length (eds l) ∧ fr 9 = i l.length ∧ fr 10 = i k ∧ Keeps st st2 ∧ m < st2.next ∧ (∃ q, fr 5 = .pt q 0 ∧ st2.H q = .box 31 3 [u id, u a, u b] ∧ q < st2.next) ∧ ∃ es tok, st2.H (m) = .map false [.u32] es ∧ NearI n0 m es st2 f tok
theorem near (g : Gr) (st : St) (he : g.es.length ≤ 1000) :
    ACalls Tryz.prog 117 [.ag (grL g)] st fun r st' => ∃ m es, r = .mp m ∧ st.next ≤ m ∧ m < st'.next ∧ st'.H m = .map false [.u32] es ∧ Keeps st st' ∧ RowsAt es (nbr g.es) := by
  obtain ⟨vs, l⟩ := g
  simp only at he ⊢
  have hel := eds_length l
  have hfl := fun v k => flat_len (nbr1 v) (nbr1_len v) (l.take k)
  refine qO tabOk Tryz.func117 rfl rfl Tryz.ntmps117 (rs := [.tmp 2]) rfl (by simp) ?_
  (repeat' (first | refine qS ?_ | refine qB ?_ | (refine w_e [] ?_; intro J hJ; simp only []; simp []; (refine hJ _ _ ?_; clear hJ J; simp only [ak, reduceIte]))))
  refine awp_posG fun hpos => ?_
  obtain ⟨m, hm⟩ : ∃ m, m = st.next + 1 := ⟨_, rfl⟩
  refine qL (fun n fr st2 => ∃ k : Nat, k ≤ l.length ∧ n = l.length - k ∧ fr 3 = .mp m ∧ fr 8 = .sl 0 l.length (eds l) ∧ fr 9 = i l.length ∧ fr 10 = i k ∧ Keeps st st2 ∧ m < st2.next ∧ ∃ es tok, st2.H m = .map false [.u32] es ∧ NearI st.next m es st2 (nbr (l.take k)) tok) l.length ?_ ?_
  · exact ⟨0, by omega, by omega, by simp [hm], by simp, by simp, by simp, (Keeps.new _ _).trans (Keeps.new _ _), by simp [hm], [], fun _ => 0, by simp [hm], fun v => ⟨fun _ => ⟨by simp [nbr], rfl⟩, fun h => absurd rfl h⟩⟩
  rintro n fr st2 ⟨k, hk, rfl, f3, f8, f9, f10, hkp, hmn, es, tok, hM, hN⟩ JJ hJJ
  by_cases hlt : k < l.length
  rotate_left
  · clear hJJ
    have hk' : k = l.length := by omega
    rw [hk', List.take_length] at hN
    (repeat' (first | refine qS ?_ | (refine qX ?_; simp only [ak, reduceIte]) | (refine qR ?_; simp only [ak, reduceIte]; simp [f3, f9, f10, hlt]) | (refine qC ?_; simp [f3, f9, f10, hlt]) | (refine w_e [] ?_; intro J hJ; simp only []; simp [f3, f9, f10, hlt]; (refine hJ _ _ ?_; clear hJ J; simp only [ak, reduceIte]))))
    refine ⟨by omega, hmn, es, hM, hkp, fun v => ?_⟩
    by_cases h0 : tok v = 0
    · obtain ⟨h1, h2⟩ := (hN v).1 h0
      exact ⟨0, by rw [h1, h2]; rfl⟩
    · obtain ⟨h1, -⟩ := (hN v).2 h0
      exact ⟨tok v, by rw [h1]; rfl⟩
  have hd := eds_drop l k hlt
  have hw := qN k (by omega)
  have hk3 : k * 3 < l.length * 3 := by omega
  have hst : ∀ v, nbr (l.take (k + 1)) v = nbr (l.take k) v ++ nbr1 v (l.getD k ed0) := fun v => flat_takeE _ _ _ hlt
  have hle : ∀ v, (nbr (l.take k) v).length ≤ 2 * k := fun v => by have := hfl v k; rw [List.length_take] at this; unfold nbr; omega
  generalize hx : l.getD k ed0 = x at *
  obtain ⟨id, a, b⟩ := x
  simp only at hd
  generalize hF : nbr (l.take k) = f at *
  (repeat' (first | refine qS ?_ | refine qB ?_ | (refine qK ?_; simp only [ak, reduceIte]) | (refine qC ?_; simp [f8, f9, f10, hlt, hd, hel]) | (refine w_e [] ?_; intro J hJ; simp only []; simp [f8, f9, f10, hlt, hd, hel]; (refine hJ _ _ ?_; clear hJ J; simp only [ak, reduceIte]))))
  have hm2 : ¬ m = st2.next := by omega
  have hm3 : ¬ st2.next = m := by omega
  have hm4 : ¬ m = st2.next + 1 := by omega
  have hm5 : ¬ m = st2.next + 1 + 1 := by omega
  have hn2 : ¬ st2.next = st2.next + 1 + 1 := by omega
  refine awp_cut1 (NearJ st.next m st l k id a b (fun v => if v = a then f a ++ [b] else f v)) ?_ ?_
  · clear hJJ
    have hla := hle a
    by_cases h0 : tok a = 0
    · obtain ⟨h1, h2⟩ := (hN a).1 h0
      (refine w_s [] [st2.next, m] [(0, true), (1, true), (2, true), (3, true), (4, true), (5, true), (6, true), (7, true), (8, true), (9, true), (10, true), (11, false)] ?_; intro J hJ; simp [f3, hM, h2, hm2, hm3, hm4, hm5, hn2]; (repeat refine ca ?_); (refine hJ _ _ ?_; clear hJ J; simp only [ak, reduceIte]))
      refine ⟨by trivial, ?_⟩
      have e : LV.sl (st2.next + 1 + 1) ((f a).length + 1) (us (f a ++ [b])) = .sl (st2.next + 1 + 1) 1 [u b] := by rw [h1]; rfl
      refine ⟨by simp [f3], by simp [f8], by simp [f9], by simp [f10], (by repeat (first | exact hkp | (refine Keeps.trans ?_ (Keeps.new _ _)) | (refine Keeps.set ?_ (by have := hkp.next; omega) _))), by simp; omega, ⟨st2.next, by simp, by simp [hm3, hn2], by simp; omega⟩, _, fun v => if v = a then st2.next + 1 + 1 else tok v, by simp; rfl, ?_⟩
      rw [← e]
      refine hN.step a b (st2.next + 1 + 1) (by omega) (by simp) hmn (by omega) (by have := hkp.next; omega) (fun l e1 e2 e3 => ?_) (by rw [h1]; simp [Ne.symm hm5])
      have a1 : ¬ l = st2.next := by omega
      have a2 : ¬ l = st2.next + 1 := by omega
      have a3 : ¬ l = st2.next + 1 + 1 := by omega
      simp [a1, a2, a3, e1, e2]
    · obtain ⟨h1, h2, h3, h4, h5, h6⟩ := (hN a).2 h0
      have ht1 : ¬ tok a = st2.next := by omega
      have ht2 : ¬ st2.next = tok a := by omega
      have ht3 : ¬ tok a = st2.next + 1 := by omega
      have ht4 : ¬ m = tok a := fun h => h4 h.symm
      (refine w_s [] [st2.next, m] [(0, true), (1, true), (2, true), (3, true), (4, true), (5, true), (6, true), (7, true), (8, true), (9, true), (10, true), (11, false)] ?_; intro J hJ; simp [f3, hM, h1, h5, h0, hm2, hm3, hm4, hm5, hn2, ht1, ht2, ht3, ht4]; (repeat refine ca ?_); (refine hJ _ _ ?_; clear hJ J; simp only [ak, reduceIte]))
      refine ⟨by trivial, ?_⟩
      have e : LV.sl (st2.next + 1 + 1) ((f a).length + 1) (us (f a ++ [b])) = .sl (st2.next + 1 + 1) ((f a).length + 1) (us (f a) ++ [u b]) := by simp
      refine ⟨by simp [f3], by simp [f8], by simp [f9], by simp [f10], (by repeat (first | exact hkp | (refine Keeps.trans ?_ (Keeps.new _ _)) | (refine Keeps.set ?_ (by have := hkp.next; omega) _))), by simp; omega, ⟨st2.next, by simp, by simp [hm3, hn2, ht2], by simp; omega⟩, _, fun v => if v = a then st2.next + 1 + 1 else tok v, by simp; rfl, ?_⟩
      rw [← e]
      refine hN.step a b (st2.next + 1 + 1) (by omega) (by simp) hmn (by omega) (by have := hkp.next; omega) (fun l e1 e2 e3 => ?_) (by simp [Ne.symm hm5])
      have a1 : ¬ l = st2.next := by omega
      have a2 : ¬ l = st2.next + 1 := by omega
      have a3 : ¬ l = st2.next + 1 + 1 := by omega
      simp [a1, a2, a3, e1, e2]
  clear f3 f8 f9 f10 hkp hmn hM hN hm2 hm3 hm4 hm5 hn2 tok es st2 fr
  rintro fr st2 ⟨f3, f8, f9, f10, hkp, hmn, ⟨q, f5, hq, hqn⟩, es, tok, hM, hN⟩
  generalize hf2 : (fun v => if v = a then f a ++ [b] else f v) = f2 at *
  have hle2 : (f2 b).length ≤ 2 * k + 1 := by
    rw [← hf2]
    simp only
    split
    · have := hle a; simp; omega
    · have := hle b; omega
  have hfin : ∀ v, nbr (l.take (k + 1)) v = (if v = b then f2 b ++ [a] else f2 v) := by
    intro v
    rw [hst v, ← hf2]
    unfold nbr1
    simp only
    by_cases hva : v = a
    · subst hva
      by_cases hvb : v = b
      · subst hvb; simp
      · simp [hvb, Ne.symm hvb]
    · by_cases hvb : v = b
      · subst hvb; simp [hva, Ne.symm hva]
      · simp [hva, hvb, Ne.symm hva, Ne.symm hvb]
  have hfin' : nbr (l.take (k + 1)) = fun v => if v = b then f2 b ++ [a] else f2 v := funext hfin
  have hm2 : ¬ m = st2.next := by omega
  have hm5 : ¬ m = st2.next + 1 := by omega
  have hq2 : ¬ q = st2.next := by omega
  have hqm : ¬ q = m := fun h => by rw [h, hM] at hq; cases hq
  by_cases h0 : tok b = 0
  · obtain ⟨h1, h2⟩ := (hN b).1 h0
    (refine w_s [] [q, m] [(0, true), (1, true), (2, true), (3, true), (4, true), (5, true), (6, true), (7, true), (8, true), (9, true), (10, true), (11, false)] ?_; intro J hJ; simp [f3, f5, hq, hM, h2, hm2, hm5, hq2, hqm]; (repeat refine ca ?_); (refine hJ _ _ ?_; clear hJ J; simp only [ak, reduceIte]))
    (repeat' (refine w_e [] ?_; intro J hJ; simp only []; simp [f10, hw]; (refine hJ _ _ ?_; clear hJ J; simp only [ak, reduceIte])))
    have e : LV.sl (st2.next + 1) ((f2 b).length + 1) (us (f2 b ++ [a])) = .sl (st2.next + 1) 1 [u a] := by rw [h1]; rfl
    refine hJJ (l.length - (k + 1)) _ _ (by omega) ⟨k + 1, by omega, rfl, by simp [f3], by simp [f8], by simp [f9], by simp, (by repeat (first | exact hkp | (refine Keeps.trans ?_ (Keeps.new _ _)) | (refine Keeps.set ?_ (by have := hkp.next; omega) _))), by simp; omega, _, fun v => if v = b then st2.next + 1 else tok v, by simp; rfl, ?_⟩
    rw [← e, hfin']
    refine hN.step b a (st2.next + 1) (by omega) (by simp) hmn (by omega) (by have := hkp.next; omega) (fun l e1 e2 e3 => ?_) (by rw [h1]; simp [Ne.symm hm5])
    have a1 : ¬ l = st2.next := by omega
    have a2 : ¬ l = st2.next + 1 := by omega
    simp [a1, a2, e1, e2]
  · obtain ⟨h1, h2, h3, h4, h5, h6⟩ := (hN b).2 h0
    have ht1 : ¬ tok b = st2.next := by omega
    have ht2 : ¬ st2.next = tok b := by omega
    have ht4 : ¬ m = tok b := fun h => h4 h.symm
    have ht5 : ¬ q = tok b := fun h => by rw [h, h5] at hq; cases hq
    (refine w_s [] [q, m] [(0, true), (1, true), (2, true), (3, true), (4, true), (5, true), (6, true), (7, true), (8, true), (9, true), (10, true), (11, false)] ?_; intro J hJ; simp [f3, f5, hq, hM, h1, h5, h0, hm2, hm5, hq2, hqm, ht1, ht2, ht4, ht5]; (repeat refine ca ?_); (refine hJ _ _ ?_; clear hJ J; simp only [ak, reduceIte]))
    (repeat' (refine w_e [] ?_; intro J hJ; simp only []; simp [f10, hw]; (refine hJ _ _ ?_; clear hJ J; simp only [ak, reduceIte])))
    have e : LV.sl (st2.next + 1) ((f2 b).length + 1) (us (f2 b ++ [a])) = .sl (st2.next + 1) ((f2 b).length + 1) (us (f2 b) ++ [u a]) := by simp
    refine hJJ (l.length - (k + 1)) _ _ (by omega) ⟨k + 1, by omega, rfl, by simp [f3], by simp [f8], by simp [f9], by simp, (by repeat (first | exact hkp | (refine Keeps.trans ?_ (Keeps.new _ _)) | (refine Keeps.set ?_ (by have := hkp.next; omega) _))), by simp; omega, _, fun v => if v = b then st2.next + 1 else tok v, by simp; rfl, ?_⟩
    rw [← e, hfin']
    refine hN.step b a (st2.next + 1) (by omega) (by simp) hmn (by omega) (by have := hkp.next; omega) (fun l e1 e2 e3 => ?_) (by simp [Ne.symm hm5])
    have a1 : ¬ l = st2.next := by omega
    have a2 : ¬ l = st2.next + 1 := by omega
    simp [a1, a2, e1, e2]
theorem RowsAt.cases {es : List (List Int × LV)} {f : Int → List Int} (h : RowsAt es f) (v : Int) : ((mget es [v]).getD .nil = .nil ∧ f v = []) ∨ ∃ t, (mget es [v]).getD .nil = .sl t (f v).length (us (f v)) := by
  obtain ⟨t, ht⟩ := h v
  cases hx : (mget es [v]).getD .nil with
  | nil =>
    rw [hx] at ht
    left
    refine ⟨rfl, ?_⟩
    simp only [norm, LV.sl.injEq] at ht
    exact List.eq_nil_of_length_eq_zero ht.2.1.symm
  | _ => rw [hx] at ht; simp [norm] at ht <;> exact .inr ⟨t, by simp [ht]⟩
def alone (g : Gr) : Nat := g.vs.countP fun v => decide (nbr g.es v = [])
theorem count_take (p : Int → Bool) (l : List Int) (k : Nat) (hk : k < l.length) : (l.take (k + 1)).countP p = (l.take k).countP p + (if p (l.getD k 0) = true then 1 else 0) := by
  rw [List.take_succ_eq_append_getElem hk, List.countP_append, getD_lt _ _ hk]
  simp [List.countP_cons]
inductive Reach (es : List Ed) (v : Int) : Int → Prop
  | refl : Reach es v v
  | step {u w : Int} (h : Reach es v u) (hw : w ∈ nbr es u) : Reach es v w
theorem mem_nbr {es : List Ed} {u w : Int} : w ∈ nbr es u ↔ ∃ x ∈ es, (x.a = u ∧ x.b = w) ∨ (x.b = u ∧ x.a = w) := by
  unfold nbr nbr1
  simp only [List.mem_flatMap, List.mem_append]
  constructor
  · rintro ⟨x, hx, h | h⟩
    · refine ⟨x, hx, .inl ?_⟩
      split at h
      · rename_i h1; simp at h; exact ⟨h1, h.symm⟩
      · cases h
    · refine ⟨x, hx, .inr ?_⟩
      split at h
      · rename_i h1; simp at h; exact ⟨h1, h.symm⟩
      · cases h
  · rintro ⟨x, hx, ⟨h1, h2⟩ | ⟨h1, h2⟩⟩
    · exact ⟨x, hx, .inl (by simp [h1, h2])⟩
    · exact ⟨x, hx, .inr (by simp [h1, h2])⟩
theorem nbr_symm {es : List Ed} {u w : Int} (h : w ∈ nbr es u) : u ∈ nbr es w := by
  rw [mem_nbr] at h ⊢
  obtain ⟨x, hx, ⟨h1, h2⟩ | ⟨h1, h2⟩⟩ := h
  · exact ⟨x, hx, .inr ⟨h2, h1⟩⟩
  · exact ⟨x, hx, .inl ⟨h2, h1⟩⟩
theorem Reach.trans {es : List Ed} {u v w : Int} (h : Reach es u v) (k : Reach es v w) : Reach es u w := by
  induction k with
  | refl => exact h
  | step _ hw ih => exact .step ih hw
theorem Reach.symm {es : List Ed} {u v : Int} (h : Reach es u v) : Reach es v u := by
  induction h with
  | refl => exact .refl
  | step _ hw ih => exact Reach.trans (.step .refl (nbr_symm hw)) ih
theorem Reach.closed {es : List Ed} {v w : Int} {L : Int → Prop} (h : Reach es v w) (hv : L v) (hc : ∀ u, L u → ∀ w ∈ nbr es u, L w) : L w := by
  induction h with
  | refl => exact hv
  | step _ hw ih => exact hc _ ih _ hw
structure Good (g : Gr) : Prop where
  rise : g.vs.Pairwise (· < ·)
  ends : ∀ x ∈ g.es, x.a ∈ g.vs ∧ x.b ∈ g.vs
theorem Good.nbr {g : Gr} (h : Good g) {u w : Int} (hw : w ∈ nbr g.es u) : w ∈ g.vs := by
  rw [mem_nbr] at hw
  obtain ⟨x, hx, ⟨_, rfl⟩ | ⟨_, rfl⟩⟩ := hw
  · exact (h.ends x hx).2
  · exact (h.ends x hx).1
theorem Good.reach {g : Gr} (h : Good g) {v w : Int} (hv : v ∈ g.vs) (hr : Reach g.es v w) : w ∈ g.vs := by
  cases hr with
  | refl => exact hv
  | step _ hw => exact h.nbr hw
theorem Good.nodup {g : Gr} (h : Good g) : g.vs.Nodup := h.rise.imp fun h => by omega
def IsPart (g : Gr) (v : Int) (c : List Int) : Prop := c.Pairwise (· < ·) ∧ ∀ w, w ∈ c ↔ w ∈ g.vs ∧ Reach g.es v w
theorem rise_unique {c d : List Int} (hc : c.Pairwise (· < ·)) (hd : d.Pairwise (· < ·)) (h : ∀ w, w ∈ c ↔ w ∈ d) : c = d :=
  srt_unique (hc.imp fun h => by omega) (hd.imp fun h => by omega) ((List.perm_ext_iff_of_nodup (hc.imp fun h => by omega) (hd.imp fun h => by omega)).2 h)
theorem part_of {g : Gr} (h : Good g) {v : Int} (hv : v ∈ g.vs) {L c : List Int} (hn : L.Nodup) (hL : ∀ w, w ∈ L ↔ Reach g.es v w) (hp : c.Perm L) (hs : c.Pairwise (· ≤ ·)) : IsPart g v c := by
  have hcn : c.Nodup := hp.nodup_iff.2 hn
  refine ⟨?_, fun w => ?_⟩
  · refine (List.Pairwise.and hs hcn).imp ?_
    rintro a b ⟨h1, h2⟩
    have : a ≠ b := h2
    omega
  · rw [hp.mem_iff, hL]
    exact ⟨fun hr => ⟨h.reach hv hr, hr⟩, fun hr => hr.2⟩
def Seen (g : Gr) (k : Nat) (w : Int) : Prop := ∃ u ∈ g.vs.take k, Reach g.es u w
theorem take_lt {l : List Int} (h : l.Pairwise (· < ·)) {k : Nat} (hk : k < l.length) {u : Int} : u ∈ l.take k ↔ u ∈ l ∧ u < l.getD k 0 := by
  rw [getD_lt _ _ hk]
  constructor
  · intro hu
    obtain ⟨j, hj, rfl⟩ := List.getElem_of_mem hu
    rw [List.length_take] at hj
    rw [List.getElem_take]
    exact ⟨List.getElem_mem _, List.pairwise_iff_getElem.1 h j k (by omega) hk (by omega)⟩
  · rintro ⟨hu, hlt⟩
    obtain ⟨j, hj, rfl⟩ := List.getElem_of_mem hu
    have hjk : j < k := by
      rcases Nat.lt_trichotomy j k with h1 | h1 | h1
      · exact h1
      · subst h1; omega
      · have := List.pairwise_iff_getElem.1 h k j hk hj h1; omega
    rw [List.mem_take_iff_getElem]
    exact ⟨j, by omega, rfl⟩
theorem Seen.reach {g : Gr} {k : Nat} {u w : Int} (h : Seen g k u) (hr : Reach g.es u w) : Seen g k w := by
  obtain ⟨x, hx, hy⟩ := h
  exact ⟨x, hx, hy.trans hr⟩
theorem seen_succ {g : Gr} {k : Nat} (hk : k < g.vs.length) {w : Int} : Seen g (k + 1) w ↔ Seen g k w ∨ Reach g.es (g.vs.getD k 0) w := by
  unfold Seen
  rw [List.take_succ_eq_append_getElem hk, getD_lt _ _ hk]
  constructor
  · rintro ⟨u, hu, hr⟩
    rw [List.mem_append, List.mem_singleton] at hu
    rcases hu with hu | rfl
    · exact .inl ⟨u, hu, hr⟩
    · exact .inr hr
  · rintro (⟨u, hu, hr⟩ | hr)
    · exact ⟨u, List.mem_append_left _ hu, hr⟩
    · exact ⟨_, List.mem_append_right _ (List.mem_singleton.2 rfl), hr⟩
theorem seen_same {g : Gr} {k : Nat} (hk : k < g.vs.length) (hs : Seen g k (g.vs.getD k 0)) {w : Int} : Seen g (k + 1) w ↔ Seen g k w := by
  rw [seen_succ hk]
  exact ⟨fun h => h.elim id hs.reach, .inl⟩
inductive PartsTo (g : Gr) : Nat → List (List Int) → Prop
  | zero : PartsTo g 0 []
  | seen {k : Nat} {R : List (List Int)} (h : PartsTo g k R) (hk : k < g.vs.length) (hs : Seen g k (g.vs.getD k 0)) : PartsTo g (k + 1) R
  | lead {k : Nat} {R : List (List Int)} {c : List Int} (h : PartsTo g k R) (hk : k < g.vs.length) (hs : ¬ Seen g k (g.vs.getD k 0)) (hc : IsPart g (g.vs.getD k 0) c) : PartsTo g (k + 1) (R ++ [c])
theorem PartsTo.len {g : Gr} {k : Nat} {R : List (List Int)} (h : PartsTo g k R) : R.length ≤ k := by
  induction h with
  | zero => simp
  | seen _ _ _ ih => omega
  | lead _ _ _ _ ih => simp; omega
structure Srch (g : Gr) (n : Nat) (v : Int) (L : List Int) (k : Nat) : Prop where
  nodup : L.Nodup
  reach : ∀ w ∈ L, Reach g.es v w
  mem : v ∈ L
  done : ∀ u ∈ L.take k, ∀ w ∈ nbr g.es u, w ∈ L
theorem Srch.all {g : Gr} {n : Nat} {v : Int} {L : List Int} (h : Srch g n v L L.length) : ∀ w, w ∈ L ↔ Reach g.es v w := by
  intro w
  refine ⟨h.reach w, fun hr => ?_⟩
  exact hr.closed (L := fun w => w ∈ L) h.mem fun u hu w hw => h.done u (by rw [List.take_length]; exact hu) w hw
theorem Srch.sub {g : Gr} (hg : Good g) {n : Nat} {v : Int} {L : List Int} {k : Nat} (h : Srch g n v L k) (hv : v ∈ g.vs) : L.length ≤ g.vs.length := by
  exact List.Nodup.length_le_of_subset h.nodup fun w hw => hg.reach hv (h.reach w hw)
abbrev rowsL3 (rs : List (List Int)) : List LV := rs.map fun r => .sl 0 r.length (us r)
structure SrchI (g : Gr) (v : Int) (L : List Int) (k : Nat) (x : Int) (j : Nat) : Prop where
  nodup : L.Nodup
  reach : ∀ w ∈ L, Reach g.es v w
  mem : v ∈ L
  done : ∀ u ∈ L.take k, ∀ w ∈ nbr g.es u, w ∈ L
  lt : k < L.length
  at' : L.getD k 0 = x
  some : ∀ w ∈ (nbr g.es x).take j, w ∈ L
theorem Srch.start {g : Gr} {n : Nat} {v : Int} {L : List Int} {k : Nat} (h : Srch g n v L k) (hk : k < L.length) : SrchI g v L k (L.getD k 0) 0 :=
  ⟨h.nodup, h.reach, h.mem, h.done, hk, rfl, fun w hw => by simp at hw⟩
theorem SrchI.skip {g : Gr} {v : Int} {L : List Int} {k : Nat} {x : Int} {j : Nat} (h : SrchI g v L k x j) (hj : j < (nbr g.es x).length) (hw : (nbr g.es x).getD j 0 ∈ L) : SrchI g v L k x (j + 1) := by
  refine ⟨h.nodup, h.reach, h.mem, h.done, h.lt, h.at', fun w hw2 => ?_⟩
  rw [List.take_succ_eq_append_getElem hj, List.mem_append, List.mem_singleton] at hw2
  rcases hw2 with hw2 | rfl
  · exact h.some w hw2
  · rwa [getD_lt _ _ hj] at hw
theorem SrchI.push {g : Gr} {v : Int} {L : List Int} {k : Nat} {x : Int} {j : Nat} (h : SrchI g v L k x j) (hj : j < (nbr g.es x).length) (hw : (nbr g.es x).getD j 0 ∉ L) : SrchI g v (L ++ [(nbr g.es x).getD j 0]) k x (j + 1) := by
  have hx : x ∈ L := by rw [← h.at', getD_lt _ _ h.lt]; exact List.getElem_mem _
  refine ⟨?_, fun w hw2 => ?_, List.mem_append_left _ h.mem, fun u hu w hw2 => ?_, ?_, ?_, fun w hw2 => ?_⟩
  · rw [List.nodup_append]
    refine ⟨h.nodup, by simp, fun a ha b hb => ?_⟩
    rw [List.mem_singleton] at hb
    rintro rfl
    exact hw (hb ▸ ha)
  · rw [List.mem_append, List.mem_singleton] at hw2
    rcases hw2 with hw2 | rfl
    · exact h.reach w hw2
    · exact .step (h.reach x hx) (by rw [getD_lt _ _ hj]; exact List.getElem_mem _)
  · rw [List.take_append_of_le_length (by have := h.lt; omega)] at hu
    exact List.mem_append_left _ (h.done u hu w hw2)
  · have := h.lt; simp; omega
  · rw [← h.at']
    have := h.lt
    simp [List.getD_eq_getElem?_getD, List.getElem?_append_left this]
  · rw [List.take_succ_eq_append_getElem hj, List.mem_append, List.mem_singleton] at hw2
    rw [getD_lt _ _ hj]
    rcases hw2 with hw2 | rfl
    · exact List.mem_append_left _ (h.some w hw2)
    · exact List.mem_append_right _ (List.mem_singleton.2 rfl)
theorem SrchI.finish {g : Gr} {n : Nat} {v : Int} {L : List Int} {k : Nat} {x : Int} {j : Nat} (h : SrchI g v L k x j) (hj : (nbr g.es x).length ≤ j) : Srch g n v L (k + 1) := by
  refine ⟨h.nodup, h.reach, h.mem, fun u hu w hw => ?_⟩
  rw [List.take_succ_eq_append_getElem h.lt, List.mem_append, List.mem_singleton] at hu
  rcases hu with hu | rfl
  · exact h.done u hu w hw
  · have hx : L[k]'h.lt = x := (getD_lt _ _ h.lt).symm.trans h.at'
    rw [hx] at hw
    exact h.some w (by rw [List.take_of_length_le hj]; exact hw)
theorem SrchI.len {g : Gr} (hg : Good g) {v : Int} {L : List Int} {k : Nat} {x : Int} {j : Nat} (h : SrchI g v L k x j) (hv : v ∈ g.vs) : L.length ≤ g.vs.length :=
  List.Nodup.length_le_of_subset h.nodup fun w hw => hg.reach hv (h.reach w hw)
def SeenI (es : List (List Int × LV)) (P : Int → Prop) : Prop := ∀ v, (P v → (mget es [v]).getD (i 0) = i 1) ∧ (¬ P v → (mget es [v]).getD (i 0) = i 0)
theorem SeenI.step {es : List (List Int × LV)} {P P' : Int → Prop} (h : SeenI es P) (w : Int) (hp : ∀ v, P' v ↔ P v ∨ v = w) : SeenI (mset es [w] (i 1)) P' := by
  intro v
  rw [mget_mset]
  by_cases hv : v = w
  · subst hv
    simp only [if_true, Option.getD_some]
    exact ⟨fun _ => by trivial, fun h1 => absurd ((hp v).2 (.inr rfl)) h1⟩
  · rw [if_neg (by simpa using hv), hp]
    exact ⟨fun h1 => (h v).1 (h1.resolve_right hv), fun h1 => (h v).2 fun h2 => h1 (.inl h2)⟩
theorem SeenI.congr {es : List (List Int × LV)} {P P' : Int → Prop} (h : SeenI es P) (hp : ∀ v, P' v ↔ P v) : SeenI es P' := fun v => by rw [hp]; exact h v
def PtF (m ms : Nat) (es : List (List Int × LV)) (n : Nat) (g : Gr) (st : St) (j : Nat) (P : Int → Prop) (fr : Frm) (st2 : St) : Prop :=
  fr 4 = .mp m ∧ fr 5 = .mp ms ∧ fr 16 = .sl 0 g.vs.length (us g.vs) ∧ fr 17 = i g.vs.length ∧ fr 18 = i j ∧ (m < ms ∧ ms < st2.next ∧ st.next ≤ m) ∧ st2.H m = .map false [.u32] es ∧ Keeps st st2 ∧ (∃ es2, st2.H ms = .map false [.u32] es2 ∧ SeenI es2 P) ∧
    ∃ t R, fr 3 = .sl t R.length (rowsL3 R) ∧ PartsTo g j R ∧ t ≠ 0 ∧ st.next ≤ t ∧ t < st2.next ∧ st2.H t = .own 22 1 R.length
def PtL (m ms : Nat) (es : List (List Int × LV)) (n : Nat) (g : Gr) (st : St) (j : Nat) (v : Int) (L : List Int) (fr : Frm) (st2 : St) : Prop :=
  PtF m ms es n g st j (fun w => Seen g j w ∨ w ∈ L) fr st2 ∧ ∃ q, fr 8 = .ms q 0 L.length ∧ st2.H q = .box 29 1 (us L) ∧ st.next ≤ q ∧ q < st2.next
theorem PtL.fr {m ms : Nat} {es : List (List Int × LV)} {n : Nat} {g : Gr} {st : St} {j : Nat} {v : Int} {L : List Int} {fr fr' : Frm} {st2 : St} (h : PtL m ms es n g st j v L fr st2) (h3 : fr' 3 = fr 3) (h4 : fr' 4 = fr 4) (h5 : fr' 5 = fr 5) (h8 : fr' 8 = fr 8) (h16 : fr' 16 = fr 16) (h17 : fr' 17 = fr 17) (h18 : fr' 18 = fr 18) : PtL m ms es n g st j v L fr' st2 := by
  obtain ⟨⟨f4, f5, f16, f17, f18, a, b, c, d, t, R, f3, r⟩, q, f8, r2⟩ := h
  exact ⟨⟨h4.trans f4, h5.trans f5, h16.trans f16, h17.trans f17, h18.trans f18, a, b, c, d, t, R, h3.trans f3, r⟩, q, h8.trans f8, r2⟩
set_option maxHeartbeats 2000000 in
theorem Parts (g : Gr) (st : St) (hg : Good g) (hv : g.vs.length ≤ 1000) (he : g.es.length ≤ 1000) :
    ACalls Tryz.prog 86 [.ag (grL g)] st fun r st' => (∃ t R, r = .sl t R.length (rowsL3 R) ∧ PartsTo g g.vs.length R) ∧ Keeps st st' := by
  refine qO tabOk Tryz.func86 rfl rfl Tryz.ntmps86 (rs := [.tmp 2]) rfl (by simp) ?_
  (repeat' (first | refine qS ?_ | (refine w_e [] ?_; intro J hJ; simp only []; simp []; (try (refine hJ _ _ ?_; clear hJ J; simp only [ak, reduceIte])))))
  refine qE (near g _ he) (by simp) ?_; rintro r s1 ⟨m, es, rfl, hm1, hm2, hM, hk1, hR⟩
  have hn1 := hk1.next
  simp only [new_next] at hn1 hm1
  have hG1 : s1.H st.next = .box 25 2 (grL g) := by rw [hk1.H _ (by simp)]; simp
  have hms : ¬ st.next = s1.next := by omega
  (repeat' (first | refine qS ?_ | refine qB ?_ | ((first | (refine w_e [] ?_; intro J hJ; simp only []) | (refine e_go ?_)); simp [hG1, hms]; (refine hJ _ _ ?_; clear hJ J; simp only [ak, reduceIte]))))
  obtain ⟨ms, hmse⟩ : ∃ ms, ms = s1.next := ⟨_, rfl⟩
  refine awp_posG fun hpos => ?_
  refine awp_own 3 22 1 (by simp) ?_
  refine qL (fun z fr st2 => ∃ j : Nat, j ≤ g.vs.length ∧ z = g.vs.length - j ∧ PtF m ms es 0 g st j (Seen g j) fr st2) g.vs.length ?_ ?_
  · refine ⟨0, by omega, by omega, by simp, by simp [hmse], by simp, by simp, by simp, ⟨by omega, by simp; omega, by omega⟩, ?_, ?_, ⟨[], by simp [hmse], fun v => ⟨fun h => ?_, fun _ => rfl⟩⟩, s1.next + 1, [], by simp, .zero, by omega, by omega, by simp, by simp⟩
    · have a1 : ¬ m = s1.next + 1 := by omega
      have a2 : ¬ m = s1.next := by omega
      simp [a1, a2, hM]
    · exact (((Keeps.new _ _).trans hk1).trans (Keeps.new _ _)).trans (Keeps.new _ _)
    · obtain ⟨u, hu, _⟩ := h; simp at hu
  rintro z fr st2 ⟨j, hj, rfl, f4, f5, f16, f17, f18, ⟨hmm, hmn, hml⟩, hM2, hkp, ⟨es2, hS, hSI⟩, t, R, f3, hPT, ht0, htl, htn, htH⟩ JJ hJJ
  by_cases hlt : j < g.vs.length
  rotate_left
  · clear hJJ
    have hj' : j = g.vs.length := by omega
    rw [hj'] at hPT
    (repeat' (first | refine qS ?_ | (refine qX ?_; simp only [ak, reduceIte]) | (refine qR ?_; simp only [ak, reduceIte]; simp [f3, f17, f18, hlt]) | (refine qC ?_; simp [f3, f17, f18, hlt]) | (refine w_e [] ?_; intro J hJ; simp only []; simp [f3, f17, f18, hlt]; (refine hJ _ _ ?_; clear hJ J; simp only [ak, reduceIte]))))
    exact ⟨⟨t, R, ⟨rfl, rfl, rfl⟩, hPT⟩, hkp⟩
  have hd := qG g.vs j hlt
  have hw := qN j (by omega)
  have hvin : g.vs.getD j 0 ∈ g.vs := by rw [getD_lt _ _ hlt]; exact List.getElem_mem hlt
  have hsame := @seen_same g j hlt
  have hsucc := @seen_succ g j hlt
  have hps := fun hs => PartsTo.seen hPT hlt hs
  have hpl := fun (c : List Int) hs hc => PartsTo.lead (c := c) hPT hlt hs hc
  generalize hx : g.vs.getD j 0 = v at *
  by_cases hs : Seen g j v
  · have hg1 := (hSI v).1 hs
    (repeat' (first | refine qS ?_ | refine qB ?_ | (refine qK ?_; simp only [ak, reduceIte]) | (refine qX ?_; simp only [ak, reduceIte]) | (refine qC ?_; simp [f5, f16, f17, f18, hlt, hd, hw, hS, hg1]) | (refine w_e [] ?_; intro J hJ; simp only []; simp [f5, f16, f17, f18, hlt, hd, hw, hS, hg1]; (refine hJ _ _ ?_; clear hJ J; simp only [ak, reduceIte]))))
    exact hJJ (g.vs.length - (j + 1)) _ _ (by omega) ⟨j + 1, by omega, rfl, by simp [f4], by simp [f5], by simp [f16], by simp [f17], by simp, ⟨hmm, hmn, hml⟩, hM2, hkp, ⟨es2, hS, hSI.congr fun w => hsame hs⟩, t, R, by simp [f3], hps hs, ht0, htl, htn, htH⟩
  have hg1 := (hSI v).2 hs
  (repeat' (first | refine qS ?_ | (refine w_e [] ?_; intro J hJ; simp only []; simp [f5, f16, f17, f18, hlt, hd, hw, hS, hg1]; (refine hJ _ _ ?_; clear hJ J; simp only [ak, reduceIte]))))
  refine qC ?_; simp [hlt]
  (repeat' (first | refine qS ?_ | refine qB ?_ | (refine qK ?_; simp only [ak, reduceIte]) | (refine w_e [] ?_; intro J hJ; simp only []; simp [f5, f16, f17, f18, hlt, hd, hw, hS, hg1]; (refine hJ _ _ ?_; clear hJ J; simp only [ak, reduceIte]))))
  refine qC ?_; simp
  refine qK ?_; simp only [ak, reduceIte]
  have hne1 : ¬ m = ms := by omega
  have hne2 : ¬ t = ms := fun h => by rw [h, hS] at htH; cases htH
  refine qS ?_; (refine w_e [] ?_; intro J hJ; simp only []; simp [f5, hS]; (refine hJ _ _ ?_; clear hJ J; simp only [ak, reduceIte]))
  refine qS ?_; (refine w_e [29] ?_; intro J hJ; simp only []; simp []; (refine hJ _ _ ?_; clear hJ J; simp only [ak, reduceIte]))
  refine qS ?_
  refine awp_cut1 (fun fr st2 => ∃ L, Srch g j v L L.length ∧ PtL m ms es 0 g st j v L fr st2) ?_ ?_
  · clear hJJ
    (repeat' (first | refine qS ?_ | refine qB ?_ | (refine w_e [] ?_; intro J hJ; simp only []; simp []; (refine hJ _ _ ?_; clear hJ J; simp only [ak, reduceIte]))))
    refine qL (fun z fr st2 => ∃ k L, k ≤ L.length ∧ z = g.vs.length - k ∧ fr 9 = i (k : Nat) ∧ Srch g j v L k ∧ PtL m ms es 0 g st j v L fr st2) g.vs.length ?_ ?_
    · refine ⟨0, [v], by simp, by simp, by simp, ⟨by simp, fun w hw => ?_, by simp, fun u hu => by simp at hu⟩, ⟨by simp [f4], by simp [f5], by simp [f16], by simp [f17], by simp [f18], ⟨hmm, by simp; omega, hml⟩, ?_, (by repeat (first | exact hkp | (refine Keeps.trans ?_ (Keeps.new _ _)) | (refine Keeps.set ?_ (by have := hkp.next; omega) _))), ⟨_, ?_, hSI.step v fun w => ?_⟩, t, R, by simp [f3], hPT, ht0, htl, by simp; omega, ?_⟩, st2.next, by simp, by simp, by have := hkp.next; omega, by simp⟩
      · rw [List.mem_singleton] at hw; subst hw; exact .refl
      · have a2 : ¬ m = st2.next := by omega
        simp [a2, hne1, hM2]
      · have a2 : ¬ ms = st2.next := by omega
        simp [a2]
      · rw [List.mem_singleton]
      · have a2 : ¬ t = st2.next := by omega
        simp [a2, hne2, htH]
    clear f3 f4 f5 f16 f17 f18 hmn hM2 hkp hS hSI hg1 htn htH hne2 ht0 htl hPT hps hpl t R es2 st2 fr
    rintro z fr st2 ⟨k, L, hkL, rfl, f9, hSr, hP⟩ J2 hJ2
    obtain ⟨⟨f4, f5, f16, f17, f18, ⟨-, hmn, -⟩, hM2, hkp, ⟨es2, hS, hSI⟩, t, R, f3, hPT, ht0, htl, htn, htH⟩, q, f8, hq, hql, hqn⟩ := id hP
    have hLl := hSr.sub hg hvin
    by_cases hkl : k < L.length
    rotate_left
    · clear hJ2
      have hk' : k = L.length := by omega
      rw [hk'] at hSr
      (repeat' (first | refine qS ?_ | (refine qX ?_; simp only [ak, reduceIte]) | (refine qC ?_; simp [f8, f9, hkl]) | (refine w_e [] ?_; intro J hJ; simp only []; simp [f8, f9, hkl]; (refine hJ _ _ ?_; clear hJ J; simp only [ak, reduceIte]))))
      exact ⟨by trivial, L, hSr, ⟨by simp [f4], by simp [f5], by simp [f16], by simp [f17], by simp [f18], ⟨hmm, hmn, hml⟩, hM2, hkp, ⟨es2, hS, hSI⟩, t, R, by simp [f3], hPT, ht0, htl, htn, htH⟩, q, by simp [f8], hq, hql, hqn⟩
    have hdL := qG L k hkl
    have hst := hSr.start hkl
    have hwk := qN k (by omega)
    generalize hxx : L.getD k 0 = x at *
    have hyl : (nbr g.es x).length ≤ 2 * g.es.length := flat_len (nbr1 x) (nbr1_len x) g.es
    obtain ⟨X, hX, hXl⟩ : ∃ X, (mget es [x]).getD .nil = X ∧ ((X = .nil ∧ nbr g.es x = []) ∨ ∃ t', X = .sl t' (nbr g.es x).length (us (nbr g.es x))) := by
      rcases hR.cases x with ⟨h1, h2⟩ | ⟨t', h1⟩
      · exact ⟨_, h1, .inl ⟨rfl, h2⟩⟩
      · exact ⟨_, h1, .inr ⟨t', rfl⟩⟩
    (repeat (refine qS ?_)); (refine w_e [] ?_; intro J hJ; simp only []; simp [f8, f9, hkl]; (refine hJ _ _ ?_; clear hJ J; simp only [ak, reduceIte]))
    refine qC ?_; simp [hkl]
    refine qK ?_; simp only [ak, reduceIte]
    refine qS ?_; refine qB ?_; refine qS ?_
    refine awp_cut1 (fun fr st2 => fr 9 = i k ∧ fr 41 = X ∧ fr 42 = i (nbr g.es x).length ∧ fr 43 = i (0 : Nat) ∧ PtL m ms es 0 g st j v L fr st2) ?_ ?_
    · clear hJ2
      rcases hXl with ⟨rfl, hy⟩ | ⟨t', rfl⟩
      · (repeat' (refine w_e [] ?_; intro J hJ; simp only []; simp [f4, f8, f9, hkl, hdL, hq, hM2, hX]; (refine hJ _ _ ?_; clear hJ J; simp only [ak, reduceIte])))
        exact ⟨by trivial, by simp [f9], by simp, by simp [hy], by simp, hP.fr (by simp) (by simp) (by simp) (by simp) (by simp) (by simp) (by simp)⟩
      · (repeat' (refine w_e [] ?_; intro J hJ; simp only []; simp [f4, f8, f9, hkl, hdL, hq, hM2, hX]; (refine hJ _ _ ?_; clear hJ J; simp only [ak, reduceIte])))
        exact ⟨by trivial, by simp [f9], by simp, by simp, by simp, hP.fr (by simp) (by simp) (by simp) (by simp) (by simp) (by simp) (by simp)⟩
    clear f3 f4 f5 f8 f9 f16 f17 f18 hmn hM2 hkp hS hSI htn htH ht0 htl hPT hP hq hql hqn q t R es2 st2 fr
    rintro fr st2 ⟨f9, f41, f42, f43, hP⟩
    refine qB ?_
    refine qL (fun z fr st2 => ∃ jj L, jj ≤ (nbr g.es x).length ∧ z = (nbr g.es x).length - jj ∧ fr 9 = i k ∧ fr 41 = X ∧ fr 42 = i (nbr g.es x).length ∧ fr 43 = i (jj : Nat) ∧ SrchI g v L k x jj ∧ PtL m ms es 0 g st j v L fr st2) (nbr g.es x).length ?_ ?_
    · exact ⟨0, L, by omega, by omega, f9, f41, f42, f43, hst, hP⟩
    clear f9 f41 f42 f43 hP hst hSr hkL hkl hLl hdL hxx L fr st2
    rintro z fr st2 ⟨jj, L, hjj, rfl, f9, f41, f42, f43, hSr, hP⟩ J3 hJ3
    obtain ⟨⟨f4, f5, f16, f17, f18, ⟨-, hmn, -⟩, hM2, hkp, ⟨es2, hS, hSI⟩, t, R, f3, hPT, ht0, htl, htn, htH⟩, q, f8, hq, hql, hqn⟩ := id hP
    have hLl := hSr.len hg hvin
    by_cases hjl : jj < (nbr g.es x).length
    rotate_left
    · clear hJ3
      have hkl := hSr.lt
      (repeat' (first | refine qS ?_ | (refine qX ?_; simp only [ak, reduceIte]) | (refine qC ?_; simp [f42, f43, hjl, f9, hwk]) | (refine w_e [] ?_; intro J hJ; simp only []; simp [f42, f43, hjl, f9, hwk]; (refine hJ _ _ ?_; clear hJ J; simp only [ak, reduceIte]))))
      exact hJ2 (g.vs.length - (k + 1)) _ _ (by omega) ⟨k + 1, L, by omega, rfl, by simp, hSr.finish (by omega), hP.fr (by simp) (by simp) (by simp) (by simp) (by simp) (by simp) (by simp)⟩
    clear hJ2
    have hdy := qG (nbr g.es x) jj hjl
    have hwj := qN jj (by omega)
    have hXs : ∃ t', X = .sl t' (nbr g.es x).length (us (nbr g.es x)) := by
      rcases hXl with ⟨_, hy⟩ | h
      · rw [hy] at hjl; simp at hjl
      · exact h
    obtain ⟨t', hXe⟩ := hXs
    rw [hXe] at f41
    have hskip := hSr.skip hjl
    have hpush := hSr.push hjl
    have hwm : (nbr g.es x).getD jj 0 ∈ nbr g.es x := by rw [getD_lt _ _ hjl]; exact List.getElem_mem _
    generalize hwx : (nbr g.es x).getD jj 0 = w at *
    by_cases hwL : w ∈ L
    · have hg2 := (hSI w).1 (.inr hwL)
      (repeat' (first | refine qS ?_ | refine qB ?_ | (refine qK ?_; simp only [ak, reduceIte]) | (refine qC ?_; simp [f5, f41, f42, f43, hjl, hdy, hS, hg2, hwj]) | (refine w_e [] ?_; intro J hJ; simp only []; simp [f5, f41, f42, f43, hjl, hdy, hS, hg2, hwj]; (refine hJ _ _ ?_; clear hJ J; simp only [ak, reduceIte]))))
      exact hJ3 ((nbr g.es x).length - (jj + 1)) _ _ (by omega) ⟨jj + 1, L, by omega, rfl, by simp [f9], by simp [f41, hXe], by simp [f42], by simp, hskip hwL, hP.fr (by simp) (by simp) (by simp) (by simp) (by simp) (by simp) (by simp)⟩
    have hns : ¬ (Seen g j w ∨ w ∈ L) := by
      rintro (h | h)
      · have hxL : x ∈ L := by rw [← hSr.at', getD_lt _ _ hSr.lt]; exact List.getElem_mem _
        exact hs (h.reach ((Reach.step .refl (nbr_symm hwm)).trans (hSr.reach x hxL).symm))
      · exact hwL h
    have hg2 := (hSI w).2 hns
    have b1 : ¬ q = ms := fun h => by rw [h, hS] at hq; cases hq
    have b2 : ¬ q = st2.next := by omega
    (repeat' (first | refine qS ?_ | refine qB ?_ | (refine qK ?_; simp only [ak, reduceIte]) | (refine qC ?_; simp [f5, f8, f41, f42, f43, hjl, hdy, hS, hg2, hwj, hq, b1, b2]) | (refine w_e [] ?_; intro J hJ; simp only []; simp [f5, f8, f41, f42, f43, hjl, hdy, hS, hg2, hwj, hq, b1, b2]; (repeat refine ca ?_); (refine hJ _ _ ?_; clear hJ J; simp only [ak, reduceIte]))))
    have b3 : ¬ m = q := fun h => by rw [← h, hM2] at hq; cases hq
    have b4 : ¬ m = st2.next := by omega
    have b5 : ¬ m = st2.next + 1 := by omega
    have b6 : ¬ ms = q := fun h => b1 h.symm
    have b7 : ¬ ms = st2.next := by omega
    have b8 : ¬ ms = st2.next + 1 := by omega
    have b9 : ¬ t = ms := fun h => by rw [h, hS] at htH; cases htH
    have c1 : ¬ t = q := fun h => by rw [h, hq] at htH; cases htH
    have c2 : ¬ t = st2.next := by omega
    have c3 : ¬ t = st2.next + 1 := by omega
    refine hJ3 ((nbr g.es x).length - (jj + 1)) _ _ (by omega) ⟨jj + 1, L ++ [w], by omega, rfl, by simp [f9], by simp [f41, hXe], by simp [f42], by simp, hpush hwL, ⟨by simp [f4], by simp [f5], by simp [f16], by simp [f17], by simp [f18], ⟨hmm, by simp; omega, hml⟩, by simp [hne1, b3, b4, b5, hM2], (by repeat (first | exact hkp | (refine Keeps.trans ?_ (Keeps.new _ _)) | (refine Keeps.set ?_ (by have := hkp.next; omega) _))), ⟨_, by simp [b6, b7, b8], hSI.step w fun z => ?_⟩, t, R, by simp [f3], hPT, ht0, htl, by simp; omega, by simp [b9, c1, c2, c3, htH]⟩, st2.next + 1, by simp, by simp, by have := hkp.next; omega, by simp⟩
    rw [List.mem_append, List.mem_singleton]
    exact or_assoc.symm
  clear f3 f4 f5 f16 f17 f18 hmn hM2 hkp hS hSI hg1 htn htH hne2 ht0 htl hPT hps hpl t R es2 st2 fr
  rintro fr st2 ⟨L, hSr, ⟨f4, f5, f16, f17, f18, ⟨-, hmn, -⟩, hM2, hkp, ⟨es2, hS, hSI⟩, t, R, f3, hPT, ht0, htl, htn, htH⟩, q, f8, hq, hql, hqn⟩
  have hpl := fun (c : List Int) hs hc => PartsTo.lead (c := c) hPT hlt hs hc
  rw [hx] at hpl
  have hLl := hSr.sub hg hvin
  have hRl := hPT.len
  have b1 : ¬ q = ms := fun h => by rw [h, hS] at hq; cases hq
  have b3 : ¬ m = q := fun h => by rw [← h, hM2] at hq; cases hq
  have b6 : ¬ ms = q := fun h => b1 h.symm
  have c1 : ¬ t = q := fun h => by rw [h, hq] at htH; cases htH
  (repeat' (first | refine qS ?_ | (refine w_e [] ?_; intro J hJ; simp only []; simp [f8])))
  refine qE (SortU L q st2 (by omega) hqn hq) (by simp [f8]) ?_; rintro r st' ⟨c, hc, hcp, hcs, hof⟩
  have hcl := hcp.length_eq
  have hnx := hof.1
  have hM3 := (hof.2 m b3 (by omega)).trans hM2
  have hS3 := (hof.2 ms b6 (by omega)).trans hS
  have htH3 := (hof.2 t c1 htn).trans htH
  have hkp3 : Keeps st st' := ⟨Nat.le_trans hkp.next hnx, fun l hl => (hof.2 l (by omega) (by have := hkp.next; omega)).trans (hkp.H l hl)⟩
  (refine e_go ?_; simp []; (refine hJ _ _ ?_; clear hJ J; simp only [ak, reduceIte]))
  refine awp_freeze 8 (l := q) (n := L.length) (by simp [f8]) hc (by simp [hcl]) ?_
  have htk : (us c).take (L.length * 1) = us c := by rw [List.take_of_length_le (by simp [hcl])]
  rw [htk]
  have d1 : ¬ t = st'.next := by omega
  have d2 : ¬ t = st'.next + 1 := by omega
  have d3 : ¬ m = st'.next := by omega
  have d4 : ¬ m = st'.next + 1 := by omega
  have d5 : ¬ ms = st'.next := by omega
  have d6 : ¬ ms = st'.next + 1 := by omega
  have hmt : ¬ m = t := fun h => by rw [h, htH3] at hM3; cases hM3
  have hmst : ¬ ms = t := fun h => by rw [h, htH3] at hS3; cases hS3
  (repeat' (refine w_e [] ?_; intro J hJ; simp only []; simp [f3, f18, hw, htH3, ht0, c1, d1, d2]; (repeat refine ca ?_); (refine hJ _ _ ?_; clear hJ J; simp only [ak, reduceIte])))
  refine hJJ (g.vs.length - (j + 1)) _ _ (by omega) ⟨j + 1, by omega, rfl, by simp [f4], by simp [f5], by simp [f16], by simp [f17], by simp, ⟨hmm, by simp; omega, hml⟩, by simp [hmt, b3, d3, d4, hM3], ?_, ⟨es2, by simp [hmst, b6, d5, d6, hS3], hSI.congr fun w => ?_⟩, st'.next + 1, R ++ [c], by simp [hcl], hpl c hs (part_of hg hvin hSr.nodup hSr.all hcp hcs), by omega, by omega, by simp, by simp⟩
  · (repeat (first | exact hkp3 | (refine Keeps.trans ?_ (Keeps.new _ _)) | (refine Keeps.set ?_ (by have := hkp.next; omega) _)))
  · rw [hsucc, hSr.all]
theorem acalls_sl0 {P : Program} {f : FuncId} {args : List LV} {st : St} {Q : LV → St → Prop} (h : ACalls P f args st fun r st' => ∃ t n cs, r = .sl t n cs ∧ Q (.sl 0 n cs) st') : ACalls P f args st Q := by
  refine ⟨h.1, fun w g vs hi hr => (h.2 w g vs hi hr).mono ?_⟩
  rintro x w' ⟨v, r, st', g', rfl, ⟨t, n, cs, rfl, hq⟩, hrep, hi', he⟩
  refine ⟨v, _, st', g', rfl, hq, ?_, hi', he⟩
  simp only [Rep] at hrep ⊢
  obtain ⟨A, cap, h1, h2, h3, h4, h5⟩ := hrep
  exact ⟨A, cap, h1, h2, h3, fun h => absurd rfl h, h5⟩
def InI (es : List (List Int × LV)) (S : List Int) : Prop := ∀ v, (mget es [v]).getD (bb false) = bb (decide (v ∈ S))
theorem InI.step {es : List (List Int × LV)} {S : List Int} (h : InI es S) (w : Int) : InI (mset es [w] (bb true)) (S ++ [w]) := by
  intro v
  rw [mget_mset]
  by_cases hv : v = w
  · subst hv; simp
  · rw [if_neg (by simpa using hv), h v]; simp [hv]
theorem InI.congr {es : List (List Int × LV)} {S S' : List Int} (h : InI es S) (hs : ∀ v, v ∈ S' ↔ v ∈ S) : InI es S' := fun v => by
  rw [h v, show decide (v ∈ S') = decide (v ∈ S) from decide_eq_decide.2 (hs v)]
structure Flood (g : Gr) (v : Int) (S : List Int) : Prop where
  nodup : S.Nodup
  mem : v ∈ S
  reach : ∀ w ∈ S, Reach g.es v w
theorem Flood.len {g : Gr} (hg : Good g) {v : Int} (hv : v ∈ g.vs) {S : List Int} (h : Flood g v S) : S.length ≤ g.vs.length :=
  List.Nodup.length_le_of_subset h.nodup fun w hw => hg.reach hv (h.reach w hw)
theorem Flood.push {g : Gr} {v : Int} {S : List Int} (h : Flood g v S) {x : Ed} (hx : x ∈ g.es) {u w : Int} (hu : u ∈ S) (hw : w ∉ S) (hxw : (x.a = u ∧ x.b = w) ∨ (x.b = u ∧ x.a = w)) : Flood g v (S ++ [w]) := by
  refine ⟨?_, List.mem_append_left _ h.mem, fun z hz => ?_⟩
  · rw [List.nodup_append]
    refine ⟨h.nodup, by simp, fun a ha b hb => ?_⟩
    rw [List.mem_singleton] at hb
    rintro rfl
    exact hw (hb ▸ ha)
  · rw [List.mem_append, List.mem_singleton] at hz
    rcases hz with hz | rfl
    · exact h.reach z hz
    · exact .step (h.reach u hu) (mem_nbr.2 ⟨x, hx, hxw⟩)
def Even (es : List Ed) (S : List Int) : Prop := ∀ x ∈ es, (x.a ∈ S ↔ x.b ∈ S)
theorem Flood.part {g : Gr} (hg : Good g) {v : Int} {S : List Int} (h : Flood g v S) (he : Even g.es S) : IsPart g v (g.vs.filter fun w => decide (w ∈ S)) := by
  refine ⟨hg.rise.filter _, fun w => ?_⟩
  rw [List.mem_filter, decide_eq_true_eq]
  refine ⟨fun hw => ⟨hw.1, h.reach w hw.2⟩, fun hw => ⟨hw.1, ?_⟩⟩
  refine hw.2.closed (L := fun w => w ∈ S) h.mem fun u hu w hw => ?_
  obtain ⟨x, hx, ⟨rfl, rfl⟩ | ⟨rfl, rfl⟩⟩ := mem_nbr.1 hw
  · exact (he x hx).1 hu
  · exact (he x hx).2 hu
def RpI (ms : Nat) (g : Gr) (st : St) (S : List Int) (fr : Frm) (st2 : St) : Prop :=
  fr 2 = .pt st.next 0 ∧ fr 5 = .mp ms ∧ st.next < ms ∧ ms < st2.next ∧ Keeps st st2 ∧ st2.H st.next = .box 25 2 (grL g) ∧ ∃ es, st2.H ms = .map false [.u32] es ∧ InI es S
theorem RpI.fr {ms : Nat} {g : Gr} {st : St} {S : List Int} {fr fr' : Frm} {st2 : St} (h : RpI ms g st S fr st2) (h2 : fr' 2 = fr 2) (h5 : fr' 5 = fr 5) : RpI ms g st S fr' st2 :=
  ⟨h2.trans h.1, h5.trans h.2.1, h.2.2⟩
theorem ref_Part (g : Gr) (v : Int) (st : St) (hg : Good g) (hv : g.vs.length ≤ 1000) (he : g.es.length ≤ 1000) (hvin : v ∈ g.vs) :
    ACalls Tryz.prog 91 [.ag (grL g), u v] st fun r st' => (∃ c, r = .sl 0 c.length (us c) ∧ IsPart g v c) ∧ Keeps st st' := by
  refine acalls_sl0 ?_
  have hel := eds_length g.es
  refine qO tabOk Tryz.func91 rfl rfl Tryz.ntmps91 (rs := [.tmp 4]) rfl (by simp) ?_
  (repeat' (first | refine qS ?_ | refine qB ?_ | (refine w_e [] ?_; intro J hJ; simp only []; simp []; (refine hJ _ _ ?_; clear hJ J; simp only [ak, reduceIte]))))
  obtain ⟨ms, hms⟩ : ∃ ms, ms = st.next + 1 := ⟨_, rfl⟩
  refine qL (fun z fr st2 => ∃ (gr : Bool) (S : List Int), z = (if gr = true then g.vs.length + 1 - S.length else 0) ∧ fr 6 = bb gr ∧ Flood g v S ∧ (gr = false → Even g.es S) ∧ RpI ms g st S fr st2) g.vs.length ?_ ?_
  · refine ⟨true, [v], by simp, by simp, ⟨by simp, by simp, fun w hw => ?_⟩, fun h => absurd h (by simp), by simp, by simp [hms], by omega, by simp [hms], ?_, by simp, _, by simp [hms]; rfl, fun w => ?_⟩
    · rw [List.mem_singleton] at hw; subst hw; exact .refl
    · (repeat (first | exact Keeps.refl _ | (refine Keeps.trans ?_ (Keeps.new _ _)) | (refine Keeps.set ?_ (by omega) _)))
    · by_cases hw : w = v
      · subst hw; simp [mset, mget]
      · simp [mset, mget, hw]
  rintro z fr st2 ⟨gr, S, rfl, f6, hF, hE, hI⟩ JJ hJJ
  cases gr
  · clear hJJ
    obtain ⟨f2, f5, hm1, hm2, hkp, hG, es, hM, hIn⟩ := hI
    have hpt := hF.part hg (hE rfl)
    (repeat' (first | refine qS ?_ | refine qB ?_ | (refine qX ?_; simp only [ak, reduceIte]) | (refine qC ?_; simp [f6, f2, hG]) | (refine w_e [] ?_; intro J hJ; simp only []; simp [f6, f2, hG]; (refine hJ _ _ ?_; clear hJ J; simp only [ak, reduceIte]))))
    refine awp_own 9 29 1 (by simp) ?_
    have hqq : ∀ k, (g.vs.take (k + 1)).filter (fun w => decide (w ∈ S)) = if k < g.vs.length then (if g.vs.getD k 0 ∈ S then (g.vs.take k).filter (fun w => decide (w ∈ S)) ++ [g.vs.getD k 0] else (g.vs.take k).filter (fun w => decide (w ∈ S))) else g.vs.filter (fun w => decide (w ∈ S)) := by
      intro k
      by_cases hk : k < g.vs.length
      · rw [if_pos hk, List.take_succ_eq_append_getElem hk, List.filter_append, getD_lt _ _ hk]
        by_cases h : g.vs[k] ∈ S <;> simp [h]
      · rw [if_neg hk, List.take_of_length_le (by omega)]
    refine qL (fun z fr st3 => ∃ k : Nat, k ≤ g.vs.length ∧ z = g.vs.length - k ∧ fr 5 = .mp ms ∧ fr 40 = .sl 0 g.vs.length (us g.vs) ∧ fr 41 = i g.vs.length ∧ fr 42 = i k ∧ st3.H ms = .map false [.u32] es ∧ ms < st3.next ∧ ∃ t, fr 9 = .sl t ((g.vs.take k).filter fun w => decide (w ∈ S)).length (us ((g.vs.take k).filter fun w => decide (w ∈ S))) ∧ OwnAt t st ((g.vs.take k).filter fun w => decide (w ∈ S)) st3) g.vs.length ?_ ?_
    · have a1 : ¬ ms = st2.next := by omega
      exact ⟨0, by omega, by omega, by simp [f5], by simp, by simp, by simp, by simp [a1, hM], by simp; omega, st2.next, by simp, by omega, by have := hkp.next; omega, by simp, by simp, hkp.trans (Keeps.new _ _)⟩
    clear f2 f5 f6 hM hkp hG fr
    rintro z fr st3 ⟨k, hk, rfl, f5, f40, f41, f42, hM, hm3, t, f9, ht0, htl, htn, htH, hkp⟩ JJ hJJ
    by_cases hlt : k < g.vs.length
    rotate_left
    · clear hJJ
      have hk' : k = g.vs.length := by omega
      rw [hk', List.take_length] at f9
      (repeat' (first | refine qS ?_ | (refine qX ?_; simp only [ak, reduceIte]) | (refine qR ?_; simp only [ak, reduceIte]; simp [f9, f41, f42, hlt]) | (refine qC ?_; simp [f9, f41, f42, hlt]) | (refine w_e [] ?_; intro J hJ; simp only []; simp [f9, f41, f42, hlt]; (refine hJ _ _ ?_; clear hJ J; simp only [ak, reduceIte]))))
      exact ⟨t, _, _, ⟨rfl, rfl, rfl⟩, ⟨_, ⟨rfl, rfl⟩, hpt⟩, hkp⟩
    have hd := qG g.vs k hlt
    have hw := qN k (by omega)
    have hst := hqq k
    rw [if_pos hlt] at hst
    have hle := List.length_filter_le (fun w => decide (w ∈ S)) (g.vs.take k)
    rw [List.length_take] at hle
    generalize hx : g.vs.getD k 0 = x at *
    generalize hFF : (g.vs.take k).filter (fun w => decide (w ∈ S)) = F at *
    have hIx := hIn x
    have ht2 : ¬ t = st3.next := by omega
    by_cases hxS : x ∈ S
    · rw [if_pos hxS] at hst
      rw [decide_eq_true hxS] at hIx
      (repeat' (first | refine qS ?_ | refine qB ?_ | (refine qK ?_; simp only [ak, reduceIte]) | (refine qC ?_; simp [f5, f9, f40, f41, f42, hlt, hd, hw, hM, hIx, htH, ht0, ht2]) | (refine w_e [] ?_; intro J hJ; simp only []; simp [f5, f9, f40, f41, f42, hlt, hd, hw, hM, hIx, htH, ht0, ht2]; (repeat refine ca ?_); (refine hJ _ _ ?_; clear hJ J; simp only [ak, reduceIte]))))
      have a1 : ¬ ms = st3.next := by omega
      have a2 : ¬ ms = st3.next + 1 := by omega
      have a3 : ¬ ms = t := fun h => by rw [h, htH] at hM; cases hM
      exact hJJ (g.vs.length - (k + 1)) _ _ (by omega) ⟨k + 1, by omega, rfl, by simp [f5], by simp [f40], by simp [f41], by simp, by simp [a1, a2, a3, hM], by simp; omega, st3.next + 1, by rw [hst]; simp, by omega, by omega, by simp, by rw [hst]; simp, (by repeat (first | exact hkp | (refine Keeps.trans ?_ (Keeps.new _ _)) | (refine Keeps.set ?_ (by have := hkp.next; omega) _)))⟩
    · rw [if_neg hxS] at hst
      rw [decide_eq_false hxS] at hIx
      (repeat' (first | refine qS ?_ | refine qB ?_ | (refine qK ?_; simp only [ak, reduceIte]) | (refine qC ?_; simp [f5, f9, f40, f41, f42, hlt, hd, hw, hM, hIx]) | (refine w_e [] ?_; intro J hJ; simp only []; simp [f5, f9, f40, f41, f42, hlt, hd, hw, hM, hIx]; (refine hJ _ _ ?_; clear hJ J; simp only [ak, reduceIte]))))
      exact hJJ (g.vs.length - (k + 1)) _ _ (by omega) ⟨k + 1, by omega, rfl, by simp [f5], by simp [f40], by simp [f41], by simp, hM, hm3, t, by rw [hst]; simp [f9], ht0, htl, htn, by rw [hst]; exact htH, hkp⟩
  have hSl := hF.len hg hvin
  obtain ⟨f2, f5, hm1, hm2, hkp, hG, es, hM, hIn⟩ := id hI
  (repeat' (first | refine qS ?_ | refine qB ?_ | (refine qK ?_; simp only [ak, reduceIte]) | (refine qC ?_; simp [f6, f2, hG]) | (refine w_e [] ?_; intro J hJ; simp only []; simp [f6, f2, hG]; (refine hJ _ _ ?_; clear hJ J; simp only [ak, reduceIte]))))
  refine qL (fun z fr st2 => ∃ (k : Nat) (gr : Bool) (S' : List Int), k ≤ g.es.length ∧ z = g.es.length - k ∧ fr 6 = bb gr ∧ fr 17 = .sl 0 g.es.length (eds g.es) ∧ fr 18 = i g.es.length ∧ fr 19 = i k ∧ Flood g v S' ∧ (gr = false → Even (g.es.take k) S') ∧ (gr = true → S.length < S'.length) ∧ S.length ≤ S'.length ∧ RpI ms g st S' fr st2) g.es.length ?_ ?_
  · exact ⟨0, false, S, by omega, by omega, by simp, by simp, by simp, by simp, hF, fun _ x hx => by simp at hx, fun h => absurd h (by simp), Nat.le_refl _, hI.fr (by simp) (by simp)⟩
  clear f2 f5 f6 hI hE hF hm1 hm2 hkp hG hM hIn es fr st2
  rintro z fr st2 ⟨k, gr, S', hk, rfl, f6, f17, f18, f19, hF, hE, hG2, hSS, hI⟩ J2 hJ2
  have hSl2 := hF.len hg hvin
  obtain ⟨f2, f5, hm1, hm2, hkp, hG, es, hM, hIn⟩ := id hI
  by_cases hlt : k < g.es.length
  rotate_left
  · clear hJ2
    have hk' : k = g.es.length := by omega
    rw [hk', List.take_length] at hE
    (repeat' (first | refine qS ?_ | (refine qX ?_; simp only [ak, reduceIte]) | (refine qC ?_; simp [f18, f19, hlt]) | (refine w_e [] ?_; intro J hJ; simp only []; simp [f18, f19, hlt]; (refine hJ _ _ ?_; clear hJ J; simp only [ak, reduceIte]))))
    refine hJJ (if gr = true then g.vs.length + 1 - S'.length else 0) _ _ ?_ ⟨gr, S', rfl, by simp [f6], hF, hE, hI.fr (by simp) (by simp)⟩
    cases gr
    · simp; omega
    · have := hG2 rfl; simp; omega
  clear hJJ
  have hd := eds_drop g.es k hlt
  have hw := qN k (by omega)
  have hk3 : k * 3 < g.es.length * 3 := by omega
  have hxin : g.es.getD k ed0 ∈ g.es := by rw [List.getD_eq_getElem?_getD, List.getElem?_eq_getElem hlt]; exact List.getElem_mem hlt
  have hEn : (gr = false → Even (g.es.take k) S') → ((g.es.getD k ed0).a ∈ S' ↔ (g.es.getD k ed0).b ∈ S') → (gr = false → Even (g.es.take (k + 1)) S') := by
    intro h1 h2 h3 y hy
    rw [List.take_succ_eq_append_getElem hlt, List.mem_append, List.mem_singleton] at hy
    rcases hy with hy | rfl
    · exact h1 h3 y hy
    · rw [List.getD_eq_getElem?_getD, List.getElem?_eq_getElem hlt] at h2; exact h2
  generalize hx : g.es.getD k ed0 = x at *
  obtain ⟨id, a, b⟩ := x
  simp only at hd hEn
  have hIa := hIn a
  have hIb := hIn b
  have a1 : ¬ ms = st2.next := by omega
  have a2 : ¬ st2.next = ms := by omega
  have a3 : ¬ st.next = st2.next := by omega
  have a4 : ¬ st.next = ms := by omega
  by_cases hab : (a ∈ S' ↔ b ∈ S')
  · have hdd : decide (a ∈ S') = decide (b ∈ S') := decide_eq_decide.2 hab
    rw [hdd] at hIa
    (repeat' (first | refine qS ?_ | refine qB ?_ | (refine qK ?_; simp only [ak, reduceIte]) | (refine qC ?_; simp [f5, f17, f18, f19, hlt, hd, hel, hw, hM, hIa, hIb, a1, a2]) | (refine w_e [] ?_; intro J hJ; simp only []; simp [f5, f17, f18, f19, hlt, hd, hel, hw, hM, hIa, hIb, a1, a2]; (refine hJ _ _ ?_; clear hJ J; simp only [ak, reduceIte]))))
    exact hJ2 (g.es.length - (k + 1)) _ _ (by omega) ⟨k + 1, gr, S', by omega, rfl, by simp [f6], by simp [f17], by simp [f18], by simp, hF, hEn hE hab, hG2, hSS, by simp [f2], by simp [f5], hm1, by simp; omega, (by repeat (first | exact hkp | (refine Keeps.trans ?_ (Keeps.new _ _)) | (refine Keeps.set ?_ (by have := hkp.next; omega) _))), by simp [a3, hG], es, by simp [a1, hM], hIn⟩
  · have hdd : ¬ decide (a ∈ S') = decide (b ∈ S') := fun h => hab (decide_eq_decide.1 h)
    have hIn2 := (hIn.step a).step b
    obtain ⟨S2, hS2, hF2, hl2⟩ : ∃ S2, (∀ z, z ∈ S2 ↔ z ∈ S' ++ [a] ++ [b]) ∧ Flood g v S2 ∧ S'.length < S2.length := by
      by_cases ha : a ∈ S'
      · have hb : b ∉ S' := fun h => hab ⟨fun _ => h, fun _ => ha⟩
        refine ⟨S' ++ [b], fun z => ?_, hF.push hxin ha hb (.inl ⟨rfl, rfl⟩), by simp⟩
        simp only [List.mem_append, List.mem_singleton]
        exact ⟨fun h => h.elim (fun h => .inl (.inl h)) .inr, fun h => h.elim (fun h => h.elim .inl (fun h => .inl (h ▸ ha))) .inr⟩
      · have hb : b ∈ S' := Classical.byContradiction fun h => hab ⟨fun h1 => absurd h1 ha, fun h1 => absurd h1 h⟩
        refine ⟨S' ++ [a], fun z => ?_, hF.push hxin hb ha (.inr ⟨rfl, rfl⟩), by simp⟩
        simp only [List.mem_append, List.mem_singleton]
        exact ⟨fun h => h.elim (fun h => .inl (.inl h)) (fun h => .inl (.inr h)), fun h => h.elim (fun h => h.elim .inl .inr) (fun h => .inl (h ▸ hb))⟩
    have hIn3 := hIn2.congr hS2
    (repeat' (first | refine qS ?_ | refine qB ?_ | (refine qK ?_; simp only [ak, reduceIte]) | (refine qC ?_; simp [f5, f17, f18, f19, hlt, hd, hel, hw, hM, hIa, hIb, hdd, a1, a2]) | (refine w_e [] ?_; intro J hJ; simp only []; simp [f5, f17, f18, f19, hlt, hd, hel, hw, hM, hIa, hIb, hdd, a1, a2]; (refine hJ _ _ ?_; clear hJ J; simp only [ak, reduceIte]))))
    exact hJ2 (g.es.length - (k + 1)) _ _ (by omega) ⟨k + 1, true, S2, by omega, rfl, by simp, by simp [f17], by simp [f18], by simp, hF2, fun h => absurd h (by simp), fun _ => by omega, by omega, by simp [f2], by simp [f5], hm1, by simp; omega, (by repeat (first | exact hkp | (refine Keeps.trans ?_ (Keeps.new _ _)) | (refine Keeps.set ?_ (by have := hkp.next; omega) _))), by simp [a3, a4, hG], _, by simp, hIn3⟩
theorem IsPart.seen {g : Gr} (hg : Good g) {k : Nat} (hk : k < g.vs.length) {x : Int} {c : List Int} (h : IsPart g (g.vs.getD k 0) (x :: c)) : Seen g k (g.vs.getD k 0) ↔ x ≠ g.vs.getD k 0 := by
  have hvin : g.vs.getD k 0 ∈ g.vs := by rw [getD_lt _ _ hk]; exact List.getElem_mem hk
  obtain ⟨h1, h2⟩ := h
  have hmin : ∀ w ∈ x :: c, x ≤ w := by
    intro w hw
    rw [List.mem_cons] at hw
    rcases hw with rfl | hw
    · omega
    · have := (List.pairwise_cons.1 h1).1 w hw; omega
  have hxin := (h2 x).1 (List.mem_cons_self ..)
  constructor
  · rintro ⟨u, hu, hr⟩ he
    obtain ⟨k1, k2⟩ := (take_lt hg.rise hk).1 hu
    have := hmin u ((h2 u).2 ⟨k1, hr.symm⟩)
    omega
  · intro hne
    have := hmin _ ((h2 _).2 ⟨hvin, .refl⟩)
    exact ⟨x, (take_lt hg.rise hk).2 ⟨hxin.1, by omega⟩, hxin.2.symm⟩
theorem ref_Parts (g : Gr) (st : St) (hg : Good g) (hv : g.vs.length ≤ 1000) (he : g.es.length ≤ 1000) :
    ACalls Tryz.prog 58 [.ag (grL g)] st fun r st' => (∃ t R, r = .sl t R.length (rowsL3 R) ∧ PartsTo g g.vs.length R) ∧ Keeps st st' := by
  refine qO tabOk Tryz.func58 rfl rfl Tryz.ntmps58 (rs := [.tmp 2]) rfl (by simp) ?_
  (repeat' (first | refine qS ?_ | refine qB ?_ | (refine w_e [] ?_; intro J hJ; simp only []; simp []; (refine hJ _ _ ?_; clear hJ J; simp only [ak, reduceIte]))))
  refine awp_posG fun hpos => ?_
  refine awp_own 3 22 1 (by simp) ?_
  refine qL (fun z fr st2 => ∃ j : Nat, j ≤ g.vs.length ∧ z = g.vs.length - j ∧ fr 1 = .pt st.next 0 ∧ fr 8 = .sl 0 g.vs.length (us g.vs) ∧ fr 9 = i g.vs.length ∧ fr 10 = i j ∧ st.next < st2.next ∧ st2.H st.next = .box 25 2 (grL g) ∧ Keeps st st2 ∧ ∃ t R, fr 3 = .sl t R.length (rowsL3 R) ∧ PartsTo g j R ∧ t ≠ 0 ∧ st.next < t ∧ t < st2.next ∧ st2.H t = .own 22 1 R.length) g.vs.length ?_ ?_
  · refine ⟨0, by omega, by omega, by simp, by simp, by simp, by simp, by simp; omega, by simp, ?_, st.next + 1, [], by simp, .zero, by omega, by omega, by simp, by simp⟩
    (repeat (first | exact Keeps.refl _ | (refine Keeps.trans ?_ (Keeps.new _ _)) | (refine Keeps.set ?_ (by omega) _)))
  rintro z fr st2 ⟨j, hj, rfl, f1, f8, f9, f10, hsn, hG, hkp, t, R, f3, hPT, ht0, htl, htn, htH⟩ JJ hJJ
  by_cases hlt : j < g.vs.length
  rotate_left
  · clear hJJ
    have hj' : j = g.vs.length := by omega
    rw [hj'] at hPT
    (repeat' (first | refine qS ?_ | (refine qX ?_; simp only [ak, reduceIte]) | (refine qR ?_; simp only [ak, reduceIte]; simp [f3, f9, f10, hlt]) | (refine qC ?_; simp [f3, f9, f10, hlt]) | (refine w_e [] ?_; intro J hJ; simp only []; simp [f3, f9, f10, hlt]; (refine hJ _ _ ?_; clear hJ J; simp only [ak, reduceIte]))))
    exact ⟨⟨t, R, ⟨rfl, rfl, rfl⟩, hPT⟩, hkp⟩
  have hd := qG g.vs j hlt
  have hw := qN j (by omega)
  have hvin : g.vs.getD j 0 ∈ g.vs := by rw [getD_lt _ _ hlt]; exact List.getElem_mem hlt
  have hps := fun hs => PartsTo.seen hPT hlt hs
  have hpl := fun (c : List Int) hs hc => PartsTo.lead (c := c) hPT hlt hs hc
  have hsn2 := fun x c => @IsPart.seen g hg j hlt x c
  have hRl := hPT.len
  generalize hx : g.vs.getD j 0 = v at *
  (repeat' (first | refine qS ?_ | refine qB ?_ | (refine qK ?_; simp only [ak, reduceIte]) | (refine qC ?_; simp [f1, f8, f9, f10, hlt, hd, hG]) | (refine w_e [] ?_; intro J hJ; simp only []; simp [f1, f8, f9, f10, hlt, hd, hG]; (try (refine hJ _ _ ?_; clear hJ J; simp only [ak, reduceIte])))))
  refine qE (ref_Part g v st2 hg hv he hvin) (by simp [f1, hG]) ?_; rintro r s2 ⟨⟨c, rfl, hc⟩, hk2⟩
  have hn2 := hk2.next
  have hG2 := (hk2.H _ hsn).trans hG
  have htH2 := (hk2.H _ htn).trans htH
  have hkp2 := hkp.trans hk2
  have a1 : ¬ t = s2.next := by omega
  have a2 : ¬ t = s2.next + 1 := by omega
  have a3 : ¬ st.next = s2.next := by omega
  have a4 : ¬ st.next = s2.next + 1 := by omega
  have a5 : ¬ st.next = t := by omega
  cases c with
  | nil =>
    exfalso
    have := (hc.2 v).2 ⟨hvin, .refl⟩
    simp at this
  | cons x c =>
    by_cases hxv : x = v
    · have hns : ¬ Seen g j v := fun h => ((hsn2 x c hc).1 h) hxv
      have hP2 := hpl _ hns hc
      (repeat' (first | refine qS ?_ | (refine qC ?_; simp [f3, f10, hw, hxv, htH2, ht0, a1, a2]) | ((first | (refine w_e [] ?_; intro J hJ; simp only []) | (refine e_go ?_)); simp [f3, f10, hw, hxv, htH2, ht0, a1, a2]; (repeat refine ca ?_); (refine hJ _ _ ?_; clear hJ J; simp only [ak, reduceIte]))))
      rw [hxv] at hP2
      refine hJJ (g.vs.length - (j + 1)) _ _ (by omega) ⟨j + 1, by omega, rfl, by simp [f1], by simp [f8], by simp [f9], by simp, by simp; omega, by simp [a3, a4, a5, hG2], ?_, s2.next + 1, R ++ [v :: c], by simp, hP2, by omega, by omega, by simp, by simp⟩
      (repeat (first | exact hkp2 | (refine Keeps.trans ?_ (Keeps.new _ _)) | (refine Keeps.set ?_ (by omega) _)))
    · have hns : Seen g j v := (hsn2 x c hc).2 hxv
      have hP2 := hps hns
      (repeat' (first | refine qS ?_ | (refine qK ?_; simp only [ak, reduceIte]) | (refine qC ?_; simp [f3, f10, hw, hxv]) | ((first | (refine w_e [] ?_; intro J hJ; simp only []) | (refine e_go ?_)); simp [f3, f10, hw, hxv]; (refine hJ _ _ ?_; clear hJ J; simp only [ak, reduceIte]))))
      exact hJJ (g.vs.length - (j + 1)) _ _ (by omega) ⟨j + 1, by omega, rfl, by simp [f1], by simp [f8], by simp [f9], by simp, by omega, hG2, hkp2, t, R, by simp [f3], hP2, ht0, htl, by omega, htH2⟩
def fe (l : List Ed) (id : Int) : Int := if l.any (fun x => decide (x.id = id)) then (l.findIdx (fun x => decide (x.id = id)) : Int) else -1
theorem fe_some {l : List Ed} {id : Int} {k : Nat} (hk : k < l.length) (h : (l.getD k ed0).id = id) (hn : ∀ j, j < k → (l.getD j ed0).id ≠ id) : fe l id = k := by
  have hg : ∀ j (hj : j < l.length), l.getD j ed0 = l[j] := fun j hj => by rw [List.getD_eq_getElem?_getD, List.getElem?_eq_getElem hj]; rfl
  rw [hg k hk] at h
  unfold fe
  rw [if_pos (List.any_eq_true.2 ⟨_, List.getElem_mem hk, by simpa using h⟩)]
  congr 1
  refine (List.findIdx_eq hk).2 ⟨by simpa using h, fun j hj => ?_⟩
  have := hn j hj
  rw [hg j (by omega)] at this
  simpa using this
theorem fe_none {l : List Ed} {id : Int} (hn : ∀ j, j < l.length → (l.getD j ed0).id ≠ id) : fe l id = -1 := by
  unfold fe
  rw [if_neg]
  intro h
  obtain ⟨x, hx, hp⟩ := List.any_eq_true.1 h
  obtain ⟨j, hj, rfl⟩ := List.getElem_of_mem hx
  have := hn j hj
  rw [List.getD_eq_getElem?_getD, List.getElem?_eq_getElem hj] at this
  exact this (by simpa using hp)
theorem Edge_1 (x : Ed) (q : Nat) (id : Int) (st : St) (hq : st.H q = .box 29 1 [u id]) (hqn : q < st.next) :
    ACalls Tryz.prog 109 [.ag (edL x), .pt q 0] st fun r st' => r = bb (decide (x.id = id)) ∧ Keeps st st' := by
  have a1 : ¬ q = st.next := by omega
  obtain ⟨d, a, b⟩ := x
  refine qO tabOk Tryz.func109 rfl rfl Tryz.ntmps109 (rs := [.tmp 3]) rfl (by simp) ?_
  by_cases hd : d = id
  · (repeat' (first | refine qS ?_ | (refine qR ?_; simp only [ak, reduceIte]; simp [hq, a1, hd]) | (refine w_e [] ?_; intro J hJ; simp only []; simp [hq, a1, hd]; (refine hJ _ _ ?_; clear hJ J; simp only [ak, reduceIte]))))
    exact Keeps.new _ _
  · (repeat' (first | refine qS ?_ | (refine qR ?_; simp only [ak, reduceIte]; simp [hq, a1, hd]) | (refine w_e [] ?_; intro J hJ; simp only []; simp [hq, a1, hd]; (refine hJ _ _ ?_; clear hJ J; simp only [ak, reduceIte]))))
    exact Keeps.new _ _
theorem IndexFuncE (l : List Ed) (t q : Nat) (id : Int) (st : St) (hl : l.length ≤ 1000) (hq : st.H q = .box 29 1 [u id]) (hqn : q < st.next) :
    ACalls Tryz.prog 102 [.sl t l.length (eds l), .fn (.func 109) [.pt q 0]] st fun r st' => r = i (fe l id) ∧ Keeps st st' := by
  have hel := eds_length l
  refine qO tabOk Tryz.func102 rfl rfl Tryz.ntmps102 (rs := [.tmp 4]) rfl (by simp) ?_
  (repeat' (first | refine qS ?_ | refine qB ?_ | (refine w_e [] ?_; intro J hJ; simp only []; simp []; (refine hJ _ _ ?_; clear hJ J; simp only [ak, reduceIte]))))
  refine qL (fun n fr st2 => ∃ k : Nat, k ≤ l.length ∧ n = l.length - k ∧ fr 0 = .sl t l.length (eds l) ∧ fr 1 = .fn (.func 109) [.pt q 0] ∧ fr 7 = i l.length ∧ fr 8 = i k ∧ Keeps st st2 ∧ ∀ j, j < k → (l.getD j ed0).id ≠ id) l.length ?_ ?_
  · exact ⟨0, by omega, by omega, by simp, by simp, by simp, by simp, Keeps.refl _, fun j hj => by omega⟩
  rintro n fr st2 ⟨k, hk, rfl, f0, f1, f7, f8, hkp, hno⟩ JJ hJJ
  by_cases hlt : k < l.length
  rotate_left
  · clear hJJ
    have hr := fe_none (l := l) (id := id) fun j hj => hno j (by omega)
    (repeat' (first | refine qS ?_ | (refine qX ?_; simp only [ak, reduceIte]) | (refine qR ?_; simp only [ak, reduceIte]; simp [f7, f8, hlt, hr]) | (refine qC ?_; simp [f7, f8, hlt, hr]) | (refine w_e [] ?_; intro J hJ; simp only []; simp [f7, f8, hlt, hr]; (refine hJ _ _ ?_; clear hJ J; simp only [ak, reduceIte]))))
    exact hkp
  have hd := eds_drop l k hlt
  have hw := qN k (by omega)
  have hk3 : k * 3 < l.length * 3 := by omega
  have hso := fun h => fe_some (id := id) hlt h hno
  have hnx : (l.getD k ed0).id ≠ id → ∀ j, j < k + 1 → (l.getD j ed0).id ≠ id := fun h j hj => by
    rcases Nat.lt_or_ge j k with h1 | h1
    · exact hno j h1
    · obtain rfl : j = k := by omega
      exact h
  generalize hx : l.getD k ed0 = x at *
  obtain ⟨d, a, b⟩ := x
  simp only at hd hso hnx
  (repeat' (first | refine qS ?_ | refine qB ?_ | (refine qK ?_; simp only [ak, reduceIte]) | (refine qC ?_; simp [f0, f1, f7, f8, hlt, hd, hel]) | (refine w_e [] ?_; intro J hJ; simp only []; simp [f0, f1, f7, f8, hlt, hd, hel]; (try (refine hJ _ _ ?_; clear hJ J; simp only [ak, reduceIte])))))
  refine qE (Edge_1 ⟨d, a, b⟩ q id st2 ((hkp.H q hqn).trans hq) (Nat.lt_of_lt_of_le hqn hkp.next)) (by simp) ?_; rintro r s3 ⟨rfl, hk3'⟩
  simp only
  by_cases hdi : d = id
  · have hr := hso hdi
    (repeat' (first | refine qS ?_ | (refine qR ?_; simp only [ak, reduceIte]; simp [f8, hdi, hr]) | (refine qC ?_; simp [f8, hdi, hr]) | ((first | (refine w_e [] ?_; intro J hJ; simp only []) | (refine e_go ?_)); simp [f8, hdi, hr]; (refine hJ _ _ ?_; clear hJ J; simp only [ak, reduceIte]))))
    exact hkp.trans hk3'
  · (repeat' (first | (refine qK ?_; simp only [ak, reduceIte]) | (refine qC ?_; simp [f8, hdi, hw]) | ((first | (refine w_e [] ?_; intro J hJ; simp only []) | (refine e_go ?_)); simp [f8, hdi, hw]; (refine hJ _ _ ?_; clear hJ J; simp only [ak, reduceIte]))))
    exact hJJ (l.length - (k + 1)) _ _ (by omega) ⟨k + 1, by omega, rfl, by simp [f0], by simp [f1], by simp [f7], by simp, hkp.trans hk3', hnx hdi⟩
theorem fe_lt (l : List Ed) (id : Int) (h : ¬ fe l id < 0) : (fe l id).toNat < l.length ∧ fe l id = ((fe l id).toNat : Int) ∧ (l.getD (fe l id).toNat ed0).id = id := by
  unfold fe at h ⊢
  split at h
  · rename_i ha
    rw [if_pos ha]
    simp only [Int.toNat_natCast]
    have hlt : l.findIdx (fun x => decide (x.id = id)) < l.length := by
      rw [List.findIdx_lt_length]
      obtain ⟨x, hx, h⟩ := List.any_eq_true.1 ha
      exact ⟨x, hx, h⟩
    refine ⟨hlt, trivial, ?_⟩
    have := List.findIdx_getElem (w := hlt)
    rw [List.getD_eq_getElem?_getD, List.getElem?_eq_getElem hlt]
    simpa using this
  · omega
theorem gEdge (g : Gr) (id : Int) (st : St) (he : g.es.length ≤ 1000) :
    ACalls Tryz.prog 68 [.ag (grL g), u id] st fun r st' => r = i (fe g.es id) ∧ Keeps st st' := by
  refine qO tabOk Tryz.func68 rfl rfl Tryz.ntmps68 (rs := [.tmp 4]) rfl (by simp) ?_
  (repeat' (first | refine qS ?_ | (refine w_e [] ?_; intro J hJ; simp only []; simp []; (try (refine hJ _ _ ?_; clear hJ J; simp only [ak, reduceIte])))))
  refine qE (IndexFuncE g.es 0 (st.next + 1) id _ he (by simp) (by simp)) (by simp) ?_; rintro r s3 ⟨rfl, hk3⟩
  (repeat' (first | (refine qR ?_; simp only [ak, reduceIte]; simp []) | (refine e_go ?_; simp []; (refine hJ _ _ ?_; clear hJ J; simp only [ak, reduceIte]))))
  exact ((Keeps.new _ _).trans (Keeps.new _ _)).trans hk3
theorem filter_takeE (l : List Ed) (p : Ed → Bool) (k : Nat) (hk : k < l.length) : (l.take (k + 1)).filter p = if p (l.getD k ed0) = true then (l.take k).filter p ++ [l.getD k ed0] else (l.take k).filter p := by
  rw [List.take_succ_eq_append_getElem hk, List.filter_append, List.getD_eq_getElem?_getD, List.getElem?_eq_getElem hk]
  by_cases h : p l[k] = true <;> simp [h]
theorem firstNZ_all {f : Nat → Int} {n : Nat} (h : firstNZ f n = 0) : ∀ j, j < n → f j = 0 := by
  induction n with
  | zero => intro j hj; omega
  | succ n ih =>
    intro j hj
    simp only [firstNZ] at h
    by_cases h0 : firstNZ f n = 0
    · rw [if_neg (by simp [h0])] at h
      rcases Nat.lt_or_ge j n with h1 | h1
      · exact ih h0 j h1
      · obtain rfl : j = n := by omega
        exact h
    · rw [if_pos h0] at h; exact absurd h h0
theorem numb_zero {n a : Int} {b : Bool} (h : numb n a b = 0) : 1 ≤ n ∧ n ≤ 1048576 ∧ (b = false → a < n) := by
  unfold numb at h
  by_cases h1 : n < 1 ∨ 1048576 < n
  · rw [if_pos h1] at h; cases h
  · rw [if_neg h1] at h
    by_cases h2 : b = false ∧ n ≤ a
    · rw [if_pos h2] at h; cases h
    · refine ⟨by omega, by omega, fun hb => ?_⟩
      rcases Int.lt_or_le a n with h3 | h3
      · exact h3
      · exact absurd ⟨hb, h3⟩ h2
theorem rise_of {l : List Int} (h : ∀ j, j < l.length → 0 < j → l.getD (j - 1) 0 < l.getD j 0) : l.Pairwise (· < ·) := by
  rw [List.pairwise_iff_getElem]
  intro a b ha hb hab
  induction b with
  | zero => omega
  | succ b ih =>
    have h1 := h (b + 1) hb (by omega)
    rw [Nat.add_sub_cancel, getD_lt _ _ hb, getD_lt _ _ (by omega)] at h1
    rcases Nat.lt_or_ge a b with h2 | h2
    · have := ih (by omega) h2; omega
    · obtain rfl : a = b := by omega
      exact h1
theorem chk_good {g : Gr} (h : chk g = 0) : Good g ∧ idOk g.es ∧ g.vs.length ≤ 64 ∧ g.es.length ≤ 160 := by
  unfold chk at h
  by_cases h1 : 64 < g.vs.length ∨ 160 < g.es.length
  · rw [if_pos h1] at h; cases h
  · rw [if_neg h1] at h
    by_cases h2 : firstNZ (badV g) g.vs.length = 0
    · rw [if_neg (by simp [h2])] at h
      have hV := firstNZ_all h2
      have hE := firstNZ_all h
      have hEx : ∀ j, j < g.es.length → (1 ≤ (g.es.getD j ed0).id ∧ (g.es.getD j ed0).id ≤ 1048576) ∧ (g.es.getD j ed0).a ∈ g.vs ∧ (g.es.getD j ed0).b ∈ g.vs := by
        intro j hj
        have := hE j hj
        unfold badE at this
        simp only at this
        by_cases h3 : numb (g.es.getD j ed0).id (g.es.getD (j - 1) ed0).id (decide (j = 0)) = 0
        · rw [if_neg (fun h => h h3)] at this
          by_cases h4 : (g.es.getD j ed0).a = (g.es.getD j ed0).b
          · rw [if_pos h4] at this; cases this
          · rw [if_neg h4] at this
            by_cases h5 : (g.es.getD j ed0).a ∉ g.vs ∨ (g.es.getD j ed0).b ∉ g.vs
            · rw [if_pos h5] at this; cases this
            · have h6 := numb_zero h3
              refine ⟨⟨h6.1, h6.2.1⟩, ?_, ?_⟩
              · exact Classical.byContradiction fun h => h5 (.inl h)
              · exact Classical.byContradiction fun h => h5 (.inr h)
        · rw [if_pos h3] at this; exact absurd this h3
      have hget : ∀ x ∈ g.es, ∃ j, j < g.es.length ∧ g.es.getD j ed0 = x := by
        intro x hx
        obtain ⟨j, hj, rfl⟩ := List.getElem_of_mem hx
        exact ⟨j, hj, by rw [List.getD_eq_getElem?_getD, List.getElem?_eq_getElem hj]; rfl⟩
      refine ⟨⟨rise_of fun j hj h0 => ?_, fun x hx => ?_⟩, fun x hx => ?_, by omega, by omega⟩
      · have := (numb_zero (hV j hj)).2.2 (by simp; omega)
        exact this
      · obtain ⟨j, hj, rfl⟩ := hget x hx
        exact (hEx j hj).2
      · obtain ⟨j, hj, rfl⟩ := hget x hx
        have := (hEx j hj).1; omega
    · rw [if_pos h2] at h; exact absurd h h2
theorem ends_nil (es : List Ed) (v : Int) : ends es v = [] ↔ nbr es v = [] := by
  unfold ends nbr
  simp only [List.flatMap_eq_nil_iff]
  refine forall_congr' fun x => forall_congr' fun _ => ?_
  unfold end1 nbr1
  by_cases h1 : x.a = v <;> by_cases h2 : x.b = v <;> simp [h1, h2]
theorem PartsTo.flat {g : Gr} (hg : Good g) {k : Nat} {R : List (List Int)} (h : PartsTo g k R) : R.flatten.Nodup ∧ ∀ w, w ∈ R.flatten ↔ w ∈ g.vs ∧ Seen g k w := by
  induction h with
  | zero => exact ⟨by simp, fun w => ⟨fun h => by simp at h, fun h => by obtain ⟨u, hu, _⟩ := h.2; simp at hu⟩⟩
  | seen _ hk hs ih => exact ⟨ih.1, fun w => by rw [ih.2, seen_same hk hs]⟩
  | @lead k R c _ hk hs hc ih =>
    rw [List.flatten_append, List.flatten_cons, List.flatten_nil, List.append_nil]
    refine ⟨?_, fun w => ?_⟩
    · rw [List.nodup_append]
      refine ⟨ih.1, hc.1.imp fun h => by omega, fun a ha b hb => ?_⟩
      rintro rfl
      have h1 := ((ih.2 a).1 ha).2
      have h2 := ((hc.2 a).1 hb).2
      exact hs (h1.reach h2.symm)
    · rw [List.mem_append, ih.2, hc.2, seen_succ hk]
      constructor
      · rintro (⟨h1, h2⟩ | ⟨h1, h2⟩)
        · exact ⟨h1, .inl h2⟩
        · exact ⟨h1, .inr h2⟩
      · rintro ⟨h1, h2 | h2⟩
        · exact .inl ⟨h1, h2⟩
        · exact .inr ⟨h1, h2⟩
theorem PartsTo.row_le {g : Gr} (hg : Good g) {k : Nat} {R : List (List Int)} (h : PartsTo g k R) : ∀ c ∈ R, c.length ≤ g.vs.length := by
  induction h with
  | zero => intro c hc; simp at hc
  | seen _ _ _ ih => exact ih
  | lead _ _ _ hc ih =>
    intro d hd
    rw [List.mem_append, List.mem_singleton] at hd
    rcases hd with hd | rfl
    · exact ih d hd
    · exact List.Nodup.length_le_of_subset (hc.1.imp fun h => by omega) fun w hw => ((hc.2 w).1 hw).1
end Go.Proofs.YtglkgindpjdoiaaGreat.Aw
namespace Go.Proofs.YtglkgindpjdoiaaGreat.Aw
open Go Go.RowKit Go.Proofs.YtglkgindpjdoiaaGreat.Pl Go.Proofs.YtglkgindpjdoiaaGreat.Eu
set_option linter.unusedSimpArgs false
set_option linter.unusedVariables false
def darts (es : List Ed) : List Int := es.flatMap fun x => [2 * x.id, 2 * x.id + 1]
structure GoodE (g : Gr) : Prop extends Good g where
  ids : g.es.Pairwise (fun x y => x.id < y.id)
  pos : ∀ x ∈ g.es, 1 ≤ x.id ∧ x.id ≤ 1048576
  ne : ∀ x ∈ g.es, x.a ≠ x.b
theorem getE_lt (l : List Ed) (j : Nat) (hj : j < l.length) : l.getD j ed0 = l[j] := by
  rw [List.getD_eq_getElem?_getD, List.getElem?_eq_getElem hj]; rfl
theorem chk_goodE {g : Gr} (h : chk g = 0) : GoodE g := by
  obtain ⟨hg, _, _, _⟩ := chk_good h
  unfold chk at h
  by_cases h1 : 64 < g.vs.length ∨ 160 < g.es.length
  · rw [if_pos h1] at h; cases h
  rw [if_neg h1] at h
  by_cases h2 : firstNZ (badV g) g.vs.length = 0
  · rw [if_neg (by simp [h2])] at h
    have hE := firstNZ_all h
    have hEx : ∀ j, j < g.es.length → ((1 ≤ (g.es.getD j ed0).id ∧ (g.es.getD j ed0).id ≤ 1048576) ∧ (0 < j → (g.es.getD (j - 1) ed0).id < (g.es.getD j ed0).id)) ∧ (g.es.getD j ed0).a ≠ (g.es.getD j ed0).b := by
      intro j hj
      have := hE j hj
      unfold badE at this
      simp only at this
      by_cases h3 : numb (g.es.getD j ed0).id (g.es.getD (j - 1) ed0).id (decide (j = 0)) = 0
      · rw [if_neg (fun h => h h3)] at this
        by_cases h4 : (g.es.getD j ed0).a = (g.es.getD j ed0).b
        · rw [if_pos h4] at this; cases this
        · have h6 := numb_zero h3
          exact ⟨⟨⟨h6.1, h6.2.1⟩, fun h0 => h6.2.2 (by simp; omega)⟩, h4⟩
      · rw [if_pos h3] at this; exact absurd this h3
    have hget : ∀ x ∈ g.es, ∃ j, j < g.es.length ∧ g.es.getD j ed0 = x := by
      intro x hx
      obtain ⟨j, hj, rfl⟩ := List.getElem_of_mem hx
      exact ⟨j, hj, getE_lt _ _ hj⟩
    refine ⟨hg, ?_, fun x hx => ?_, fun x hx => ?_⟩
    · rw [List.pairwise_iff_getElem]
      intro a b ha hb hab
      induction b with
      | zero => omega
      | succ b ih =>
        have h1 := (hEx (b + 1) hb).1.2 (by omega)
        rw [Nat.add_sub_cancel, getE_lt _ _ hb, getE_lt _ _ (by omega)] at h1
        rcases Nat.lt_or_ge a b with h2 | h2
        · have := ih (by omega) h2; omega
        · obtain rfl : a = b := by omega
          exact h1
    · obtain ⟨j, hj, rfl⟩ := hget x hx
      exact (hEx j hj).1.1
    · obtain ⟨j, hj, rfl⟩ := hget x hx
      exact (hEx j hj).2
  · rw [if_pos h2] at h; exact absurd h h2
theorem id_eq {es : List Ed} (h : es.Pairwise (fun x y => x.id < y.id)) {x y : Ed} (hx : x ∈ es) (hy : y ∈ es) (he : x.id = y.id) : x = y := by
  obtain ⟨j, hj, rfl⟩ := List.getElem_of_mem hx
  obtain ⟨k, hk, rfl⟩ := List.getElem_of_mem hy
  rcases Nat.lt_trichotomy j k with h1 | h1 | h1
  · have := List.pairwise_iff_getElem.1 h j k hj hk h1; omega
  · subst h1; rfl
  · have := List.pairwise_iff_getElem.1 h k j hk hj h1; omega
theorem mem_ends {es : List Ed} {v d : Int} : d ∈ ends es v ↔ ∃ x ∈ es, (x.a = v ∧ d = 2 * x.id) ∨ (x.b = v ∧ d = 2 * x.id + 1) := by
  unfold ends
  rw [List.mem_flatMap]
  refine exists_congr fun x => and_congr_right fun _ => ?_
  unfold end1
  rw [List.mem_append]
  refine or_congr ?_ ?_
  · split
    · rename_i h; simp [h]
    · rename_i h; simp [h]
  · split
    · rename_i h; simp [h]
    · rename_i h; simp [h]
theorem mem_darts {es : List Ed} {d : Int} : d ∈ darts es ↔ ∃ x ∈ es, d = 2 * x.id ∨ d = 2 * x.id + 1 := by
  unfold darts
  rw [List.mem_flatMap]
  refine exists_congr fun x => and_congr_right fun _ => ?_
  simp
theorem darts_half {es : List Ed} {d : Int} : d ∈ darts es ↔ ∃ x ∈ es, x.id = d / 2 := by
  rw [mem_darts]
  refine exists_congr fun x => and_congr_right fun _ => ?_
  omega
theorem darts_rise {es : List Ed} (h : es.Pairwise (fun x y => x.id < y.id)) : (darts es).Pairwise (· < ·) := by
  unfold darts
  rw [List.pairwise_flatMap]
  refine ⟨fun x _ => by simp; omega, h.imp fun {x y} hxy a ha b hb => ?_⟩
  simp at ha hb
  omega
theorem ends_rise {es : List Ed} (h : es.Pairwise (fun x y => x.id < y.id)) (v : Int) : (ends es v).Pairwise (· < ·) := by
  unfold ends
  rw [List.pairwise_flatMap]
  refine ⟨fun x _ => ?_, h.imp fun {x y} hxy a ha b hb => ?_⟩
  · unfold end1
    by_cases h1 : x.a = v <;> by_cases h2 : x.b = v <;> simp [h1, h2]
    omega
  · unfold end1 at ha hb
    simp only [List.mem_append] at ha hb
    have h1 : a = 2 * x.id ∨ a = 2 * x.id + 1 := by
      rcases ha with ha | ha <;> split at ha <;> simp at ha
      · exact .inl ha
      · exact .inr ha
    have h2 : b = 2 * y.id ∨ b = 2 * y.id + 1 := by
      rcases hb with hb | hb <;> split at hb <;> simp at hb
      · exact .inl hb
      · exact .inr hb
    omega
theorem rise_nodup {l : List Int} (h : l.Pairwise (· < ·)) : l.Nodup := h.imp fun h => by omega
theorem darts_length (es : List Ed) : (darts es).length = 2 * es.length := by
  induction es with
  | nil => rfl
  | cons x l ih => simp only [darts, List.flatMap_cons, List.length_append, List.length_cons, List.length_nil] at ih ⊢; omega
theorem darts_get (es : List Ed) (k : Nat) (hk : k < es.length) : (darts es).getD (2 * k) 0 = 2 * (es.getD k ed0).id ∧ (darts es).getD (2 * k + 1) 0 = 2 * (es.getD k ed0).id + 1 := by
  induction es generalizing k with
  | nil => simp at hk
  | cons x l ih =>
    cases k with
    | zero => simp [darts]
    | succ k =>
      have := ih k (by simpa using hk)
      simp only [darts, List.flatMap_cons, List.cons_append, List.nil_append, show 2 * (k + 1) = 2 * k + 1 + 1 by omega, List.getD_cons_succ] at this ⊢
      exact this
def okTurn (es : List Ed) (v : Int) (t : List Int) : Prop := t.Perm (ends es v) ∧ nrm t = t
structure MapOk (m : Mp) : Prop where
  g : GoodE m.g
  len : m.rots.length = m.g.vs.length
  ok : ∀ k, k < m.g.vs.length → okTurn m.g.es (m.g.vs.getD k 0) (m.rots.getD k [])
theorem at_unique {es : List Ed} (h : es.Pairwise (fun x y => x.id < y.id)) {d v w : Int} (hv : d ∈ ends es v) (hw : d ∈ ends es w) : v = w := by
  rw [mem_ends] at hv hw
  obtain ⟨x, hx, h1⟩ := hv
  obtain ⟨y, hy, h2⟩ := hw
  have he : x.id = y.id := by omega
  have := id_eq h hx hy he
  subst this
  omega
theorem ends_dart {es : List Ed} {d v : Int} (h : d ∈ ends es v) : d ∈ darts es := by
  rw [mem_ends] at h
  rw [mem_darts]
  obtain ⟨x, hx, h1⟩ := h
  exact ⟨x, hx, by omega⟩
theorem dart_at {es : List Ed} {d : Int} (h : d ∈ darts es) : ∃ v, d ∈ ends es v ∧ ∃ x ∈ es, x.id = d / 2 ∧ (v = x.a ∨ v = x.b) := by
  rw [mem_darts] at h
  obtain ⟨x, hx, h1 | h1⟩ := h
  · exact ⟨x.a, mem_ends.2 ⟨x, hx, .inl ⟨rfl, h1⟩⟩, x, hx, by omega, .inl rfl⟩
  · exact ⟨x.b, mem_ends.2 ⟨x, hx, .inr ⟨rfl, h1⟩⟩, x, hx, by omega, .inr rfl⟩
theorem getR_lt (l : List (List Int)) (j : Nat) (hj : j < l.length) : l.getD j [] = l[j] := by
  rw [List.getD_eq_getElem?_getD, List.getElem?_eq_getElem hj]; rfl
section
variable {m : Mp} (h : MapOk m)
include h
theorem MapOk.turn {t : List Int} (ht : t ∈ m.rots) : ∃ k, k < m.g.vs.length ∧ t = m.rots.getD k [] ∧ okTurn m.g.es (m.g.vs.getD k 0) t := by
  obtain ⟨k, hk, rfl⟩ := List.getElem_of_mem ht
  have hk' : k < m.g.vs.length := by rw [← h.len]; exact hk
  refine ⟨k, hk', (getR_lt _ _ hk).symm, ?_⟩
  have := h.ok k hk'
  rwa [getR_lt _ _ hk] at this
theorem MapOk.nodup {t : List Int} (ht : t ∈ m.rots) : t.Nodup := by
  obtain ⟨k, _, _, h1, _⟩ := h.turn ht
  exact h1.nodup_iff.2 (rise_nodup (ends_rise h.g.ids _))
theorem MapOk.same {t t' : List Int} (ht : t ∈ m.rots) (ht' : t' ∈ m.rots) {d : Int} (hd : d ∈ t) (hd' : d ∈ t') : t = t' := by
  obtain ⟨k, hk, rfl, h1, _⟩ := h.turn ht
  obtain ⟨k', hk', rfl, h2, _⟩ := h.turn ht'
  have := at_unique h.g.ids (h1.mem_iff.1 hd) (h2.mem_iff.1 hd')
  rw [getD_lt _ _ hk, getD_lt _ _ hk'] at this
  have h3 := congrArg m.g.vs.idxOf this
  rw [h.g.toGood.nodup.idxOf_getElem, h.g.toGood.nodup.idxOf_getElem] at h3
  rw [h3]
theorem MapOk.turn_of {d : Int} (hd : d ∈ darts m.g.es) : ∃ t ∈ m.rots, d ∈ t := by
  obtain ⟨v, hv, x, hx, _, hvx⟩ := dart_at hd
  have hvin : v ∈ m.g.vs := by
    rcases hvx with rfl | rfl
    · exact (h.g.ends x hx).1
    · exact (h.g.ends x hx).2
  obtain ⟨k, hk, rfl⟩ := List.getElem_of_mem hvin
  have := h.ok k hk
  rw [getD_lt _ _ hk] at this
  refine ⟨_, ?_, this.1.mem_iff.2 hv⟩
  rw [getR_lt _ _ (by rw [h.len]; exact hk)]
  exact List.getElem_mem _
theorem MapOk.turn_dart {t : List Int} (ht : t ∈ m.rots) {d : Int} (hd : d ∈ t) : d ∈ darts m.g.es := by
  obtain ⟨k, _, _, h1, _⟩ := h.turn ht
  exact ends_dart (h1.mem_iff.1 hd)
theorem MapOk.row_le {t : List Int} (ht : t ∈ m.rots) : t.length ≤ 2 * m.g.es.length := by
  obtain ⟨k, _, _, h1, _⟩ := h.turn ht
  rw [h1.length_eq]
  exact flat_len _ (end1_len _) _
end
def sg (m : Mp) (d : Int) : Int := match m.rots.find? (fun t => decide (d ∈ t)) with
  | some t => nx t d
  | none => d
theorem sg_out {m : Mp} {d : Int} (h : ∀ t ∈ m.rots, d ∉ t) : sg m d = d := by
  unfold sg
  have : m.rots.find? (fun t => decide (d ∈ t)) = none := by
    rw [List.find?_eq_none]
    intro t ht
    simpa using h t ht
  rw [this]
theorem sg_at {m : Mp} (h : MapOk m) {t : List Int} (ht : t ∈ m.rots) {d : Int} (hd : d ∈ t) : sg m d = nx t d := by
  unfold sg
  cases hf : m.rots.find? (fun t => decide (d ∈ t)) with
  | none =>
    rw [List.find?_eq_none] at hf
    exact absurd hd (by simpa using hf t ht)
  | some t' =>
    have h1 := List.find?_some hf
    have h2 := List.mem_of_find?_eq_some hf
    simp only at h1 ⊢
    rw [h.same h2 ht (by simpa using h1) hd]
def al (es : List Ed) (d : Int) : Int := if (es.any fun x => decide (x.id = d / 2)) = true then tw d else d
theorem al_in {es : List Ed} {d : Int} (h : d ∈ darts es) : al es d = tw d := by
  unfold al
  rw [if_pos]
  obtain ⟨x, hx, h⟩ := darts_half.1 h
  exact List.any_eq_true.2 ⟨x, hx, by simpa using h⟩
theorem al_out {es : List Ed} {d : Int} (h : d ∉ darts es) : al es d = d := by
  unfold al
  rw [if_neg]
  intro ha
  obtain ⟨x, hx, h1⟩ := List.any_eq_true.1 ha
  exact h (darts_half.2 ⟨x, hx, by simpa using h1⟩)
theorem twHalf (d : Int) : tw d / 2 = d / 2 := by unfold tw; split <;> omega
theorem twTw (d : Int) : tw (tw d) = d := by unfold tw; split <;> split <;> omega
theorem tw_dart {es : List Ed} {d : Int} : tw d ∈ darts es ↔ d ∈ darts es := by rw [darts_half, darts_half, twHalf]
theorem al_al (es : List Ed) (d : Int) : al es (al es d) = d := by
  by_cases h : d ∈ darts es
  · rw [al_in h, al_in (tw_dart.2 h), twTw]
  · rw [al_out h, al_out h]
theorem al_half (es : List Ed) (d : Int) : al es d / 2 = d / 2 := by
  unfold al; split
  · exact twHalf d
  · rfl
theorem al_dart (es es' : List Ed) (d : Int) : al es d ∈ darts es' ↔ d ∈ darts es' := by rw [darts_half, darts_half, al_half]
theorem al_inj (es : List Ed) {d e : Int} (h : al es d = al es e) : d = e := by rw [← al_al es d, h, al_al]
def fc (m : Mp) (es : List Ed) (d : Int) : Int := sg m (al es d)
section
variable {m : Mp} (h : MapOk m)
include h
theorem MapOk.sg_mem {t : List Int} (ht : t ∈ m.rots) {d : Int} (hd : d ∈ t) : sg m d ∈ t := by rw [sg_at h ht hd]; exact nx_mem hd
theorem MapOk.sg_dart {d : Int} (hd : d ∈ darts m.g.es) : sg m d ∈ darts m.g.es := by
  obtain ⟨t, ht, hdt⟩ := h.turn_of hd
  exact h.turn_dart ht (h.sg_mem ht hdt)
theorem MapOk.sg_id {d : Int} (hd : d ∉ darts m.g.es) : sg m d = d := sg_out fun _ ht hdt => hd (h.turn_dart ht hdt)
theorem MapOk.sg_inj {d e : Int} (he : sg m d = sg m e) : d = e := by
  by_cases h1 : d ∈ darts m.g.es
  · by_cases h2 : e ∈ darts m.g.es
    · obtain ⟨t, ht, hd⟩ := h.turn_of h1
      obtain ⟨t', ht', hd'⟩ := h.turn_of h2
      have := h.same ht ht' (h.sg_mem ht hd) (he ▸ h.sg_mem ht' hd')
      subst this
      rw [sg_at h ht hd, sg_at h ht hd'] at he
      exact nx_inj (h.nodup ht) hd hd' he
    · have := h.sg_dart h1
      rw [he, h.sg_id h2] at this
      exact absurd this h2
  · by_cases h2 : e ∈ darts m.g.es
    · have := h.sg_dart h2
      rw [← he, h.sg_id h1] at this
      exact absurd this h1
    · rwa [h.sg_id h1, h.sg_id h2] at he
theorem MapOk.fc_inj (es : List Ed) (d e : Int) (he : fc m es d = fc m es e) : d = e := al_inj es (h.sg_inj he)
theorem MapOk.fc_dart (es : List Ed) (d : Int) (hd : d ∈ darts m.g.es) : fc m es d ∈ darts m.g.es := h.sg_dart ((al_dart es _ d).2 hd)
theorem MapOk.fc_per (es : List Ed) (hs : ∀ x ∈ es, x ∈ m.g.es) : Per (fc m es) := by
  refine per_of (darts m.g.es) (fun x hx => h.fc_dart es x hx) (h.fc_inj es) fun x hx => ?_
  have hx' : x ∉ darts es := fun hd => hx (by
    rw [mem_darts] at hd ⊢
    obtain ⟨y, hy, h1⟩ := hd
    exact ⟨y, hs y hy, h1⟩)
  unfold fc
  rw [al_out hx', h.sg_id hx]
theorem MapOk.sg_at_v {d v : Int} (hd : d ∈ ends m.g.es v) : sg m d ∈ ends m.g.es v := by
  obtain ⟨t, ht, hdt⟩ := h.turn_of (ends_dart hd)
  obtain ⟨k, hk, rfl, h1, _⟩ := h.turn ht
  have := at_unique h.g.ids hd (h1.mem_iff.1 hdt)
  rw [this]
  exact h1.mem_iff.1 (h.sg_mem ht hdt)
theorem MapOk.orb_reach (es : List Ed) (hs : ∀ x ∈ es, x ∈ m.g.es) (n : Nat) : ∀ {d v : Int}, d ∈ ends m.g.es v → ∃ w, it (fc m es) n d ∈ ends m.g.es w ∧ Reach es v w := by
  induction n with
  | zero => intro d v hd; exact ⟨v, hd, .refl⟩
  | succ n ih =>
    intro d v hd
    have key : ∃ w, fc m es d ∈ ends m.g.es w ∧ Reach es v w := by
      by_cases hin : d ∈ darts es
      · unfold fc
        rw [al_in hin]
        obtain ⟨x, hx, hxd⟩ := darts_half.1 hin
        have hxg := hs x hx
        obtain ⟨y, hy, hyd⟩ := mem_ends.1 hd
        have hxy : x = y := id_eq h.g.ids hxg hy (by omega)
        subst hxy
        rcases hyd with ⟨rfl, hdd⟩ | ⟨rfl, hdd⟩
        · refine ⟨x.b, h.sg_at_v (mem_ends.2 ⟨x, hxg, .inr ⟨rfl, ?_⟩⟩), .step .refl (mem_nbr.2 ⟨x, hx, .inl ⟨rfl, rfl⟩⟩)⟩
          unfold tw; split <;> omega
        · refine ⟨x.a, h.sg_at_v (mem_ends.2 ⟨x, hxg, .inl ⟨rfl, ?_⟩⟩), .step .refl (mem_nbr.2 ⟨x, hx, .inr ⟨rfl, rfl⟩⟩)⟩
          unfold tw; split <;> omega
      · unfold fc
        rw [al_out hin]
        exact ⟨v, h.sg_at_v hd, .refl⟩
    obtain ⟨w, h1, h2⟩ := key
    obtain ⟨w', h3, h4⟩ := ih h1
    exact ⟨w', h3, h2.trans h4⟩
end
theorem reach_eqv (es : List Ed) : Eqv (Reach es) := ⟨fun _ => .refl, Reach.symm, Reach.trans⟩
theorem Reach.mono {es es' : List Ed} (hs : ∀ x ∈ es, x ∈ es') {v w : Int} (h : Reach es v w) : Reach es' v w := by
  induction h with
  | refl => exact .refl
  | step _ hw ih =>
    refine .step ih ?_
    rw [mem_nbr] at hw ⊢
    obtain ⟨x, hx, h1⟩ := hw
    exact ⟨x, hs x hx, h1⟩
theorem reach_snoc (es : List Ed) (x : Ed) (v w : Int) : Reach (es ++ [x]) v w ↔ Eu.Mg (Reach es) x.a x.b v w := by
  constructor
  · intro h
    have hE := Mg.eqv (reach_eqv es) x.a x.b
    induction h with
    | refl => exact hE.refl _
    | step _ hw ih =>
      refine hE.trans ih ?_
      obtain ⟨y, hy, h1⟩ := mem_nbr.1 hw
      rw [List.mem_append, List.mem_singleton] at hy
      rcases hy with hy | rfl
      · exact .inl (.step .refl (mem_nbr.2 ⟨y, hy, h1⟩))
      · rcases h1 with ⟨rfl, rfl⟩ | ⟨rfl, rfl⟩
        · exact .inr (.inl ⟨.refl, .refl⟩)
        · exact .inr (.inr ⟨.refl, .refl⟩)
  · refine Mg.le (reach_eqv _) (.step .refl (mem_nbr.2 ⟨x, by simp, .inl ⟨rfl, rfl⟩⟩)) fun v w h => h.mono fun y hy => by simp [hy]
theorem ncl_one {R : Int → Int → Prop} (hR : ∀ x y, R x y → x = y) {l : List Int} (hn : l.Nodup) : ncl R l = l.length := by
  induction l with
  | nil => rfl
  | cons x l ih =>
    rw [List.nodup_cons] at hn
    rw [ncl_cons_new, ih hn.2, List.length_cons]
    rintro ⟨y, hy, hr⟩
    exact hn.1 (hR _ _ hr ▸ hy)
theorem reach_nil {v w : Int} (h : Reach [] v w) : v = w := by
  induction h with
  | refl => rfl
  | step _ hw _ => obtain ⟨x, hx, _⟩ := mem_nbr.1 hw; cases hx
theorem filter_eq {α β : Type} (p : α → Bool) (q : β → Bool) : ∀ (l : List α) (l' : List β), l.length = l'.length → (∀ k (h1 : k < l.length) (h2 : k < l'.length), p l[k] = !q l'[k]) → (l.filter p).length + l'.countP q = l.length
  | [], [], _, _ => rfl
  | [], _ :: _, h, _ => by simp at h
  | _ :: _, [], h, _ => by simp at h
  | a :: l, b :: l', h, hk => by
    have ih := filter_eq p q l l' (by simpa using h) fun k h1 h2 => hk (k + 1) (by simpa using h1) (by simpa using h2)
    have h0 := hk 0 (by simp) (by simp)
    simp only [List.getElem_cons_zero] at h0
    rw [List.filter_cons, List.countP_cons, h0, List.length_cons]
    cases q b <;> simp <;> omega
section
variable {m : Mp} (h : MapOk m)
include h
theorem MapOk.flat_perm : (darts m.g.es).Perm m.rots.flatten := by
  refine (List.perm_ext_iff_of_nodup (rise_nodup (darts_rise h.g.ids)) ?_).2 fun d => ?_
  · unfold List.Nodup
    rw [List.pairwise_flatten]
    refine ⟨fun t ht => h.nodup ht, ?_⟩
    rw [List.pairwise_iff_getElem]
    intro a b ha hb hab x hx y hy
    rintro rfl
    have h1 := h.ok a (by rw [← h.len]; exact ha)
    have h2 := h.ok b (by rw [← h.len]; exact hb)
    rw [getR_lt _ _ ha] at h1
    rw [getR_lt _ _ hb] at h2
    have h3 := at_unique h.g.ids (h1.1.mem_iff.1 hx) (h2.1.mem_iff.1 hy)
    have ha' : a < m.g.vs.length := by rw [← h.len]; exact ha
    have hb' : b < m.g.vs.length := by rw [← h.len]; exact hb
    rw [getD_lt _ _ ha', getD_lt _ _ hb'] at h3
    have := List.pairwise_iff_getElem.1 h.g.rise a b ha' hb' hab
    omega
  · rw [List.mem_flatten]
    exact ⟨fun hd => h.turn_of hd, fun ⟨t, ht, hd⟩ => h.turn_dart ht hd⟩
theorem MapOk.ncl_sg : ncl (Orb (sg m)) (darts m.g.es) + alone m.g = m.g.vs.length := by
  have hfc : fc m [] = sg m := by funext d; simp [fc, al]
  have hP : Per (sg m) := by rw [← hfc]; exact h.fc_per [] (fun x hx => by cases hx)
  have hst : ∀ t ∈ m.rots, ∀ n x, x ∈ t → it (sg m) n x ∈ t := by
    intro t ht n
    induction n with
    | zero => intro x hx; exact hx
    | succ n ih => intro x hx; exact ih _ (h.sg_mem ht hx)
  have hit : ∀ t ∈ m.rots, ∀ n x, x ∈ t → it (sg m) n x = it (nx t) n x := by
    intro t ht n
    induction n with
    | zero => intro x hx; rfl
    | succ n ih => intro x hx; rw [it_succ, it_succ, ih x hx, sg_at h ht]; rw [← ih x hx]; exact hst t ht n x hx
  rw [ncl_perm hP.eqv h.flat_perm, ncl_rows]
  · have := filter_eq (fun t => decide (t ≠ [])) (fun v => decide (nbr m.g.es v = [])) m.rots m.g.vs h.len fun k h1 h2 => ?_
    · rw [← h.len]; exact this
    · have hk := h.ok k h2
      rw [getR_lt _ _ h1, getD_lt _ _ h2] at hk
      have e1 : m.rots[k] = [] ↔ nbr m.g.es m.g.vs[k] = [] := by
        rw [← ends_nil]
        constructor
        · intro h3; have := hk.1; rw [h3] at this; exact this.symm.eq_nil
        · intro h3; have := hk.1; rw [h3] at this; exact this.eq_nil
      by_cases h3 : m.rots[k] = []
      · simp [h3, e1.1 h3]
      · have h5 : ¬ nbr m.g.es m.g.vs[k] = [] := fun h4 => h3 (e1.2 h4)
        simp [h3, h5]
  · intro t ht x hx y hy
    obtain ⟨n, hn⟩ := nx_orb (h.nodup ht) hx hy
    exact ⟨n, by rw [hit t ht n x hx, hn]⟩
  · rw [List.pairwise_iff_getElem]
    rintro a b ha hb hab x hx y hy ⟨n, hn⟩
    have h4 := hst _ (List.getElem_mem hb) n y hy
    rw [hn] at h4
    have h1 := h.ok a (by rw [← h.len]; exact ha)
    have h2 := h.ok b (by rw [← h.len]; exact hb)
    rw [getR_lt _ _ ha] at h1
    rw [getR_lt _ _ hb] at h2
    have h3 := at_unique h.g.ids (h1.1.mem_iff.1 hx) (h2.1.mem_iff.1 h4)
    have ha' : a < m.g.vs.length := by rw [← h.len]; exact ha
    have hb' : b < m.g.vs.length := by rw [← h.len]; exact hb
    rw [getD_lt _ _ ha', getD_lt _ _ hb'] at h3
    have := List.pairwise_iff_getElem.1 h.g.rise a b ha' hb' hab
    omega
theorem MapOk.euler_at (j : Nat) (hj : j ≤ m.g.es.length) : ∃ k : Nat, 2 * ncl (Reach (m.g.es.take j)) m.g.vs + j = 2 * k + alone m.g + m.g.vs.length + ncl (Orb (fc m (m.g.es.take j))) (darts m.g.es) := by
  induction j with
  | zero =>
    have hfc : fc m [] = sg m := by funext d; simp [fc, al]
    refine ⟨0, ?_⟩
    rw [List.take_zero, hfc, ncl_one (fun x y => reach_nil) h.g.toGood.nodup]
    have := h.ncl_sg
    omega
  | succ j ih =>
    obtain ⟨k, hk⟩ := ih (by omega)
    have hs : ∀ i, ∀ x ∈ m.g.es.take i, x ∈ m.g.es := fun i x hx => List.mem_of_mem_take hx
    have hp := h.fc_per (m.g.es.take j) (hs j)
    have hp' := h.fc_per (m.g.es.take (j + 1)) (hs (j + 1))
    have htk : m.g.es.take (j + 1) = m.g.es.take j ++ [m.g.es[j]] := List.take_succ_eq_append_getElem (by omega)
    have hxin : m.g.es[j] ∈ m.g.es := List.getElem_mem _
    have hxno : ∀ y ∈ m.g.es.take j, y.id ≠ m.g.es[j].id := by
      intro y hy
      obtain ⟨i, hi, rfl⟩ := List.getElem_of_mem hy
      rw [List.length_take] at hi
      rw [List.getElem_take]
      have := List.pairwise_iff_getElem.1 h.g.ids i j (by omega) (by omega) (by omega)
      omega
    generalize m.g.es[j] = x at *
    have hf' : ∀ d, fc m (m.g.es.take (j + 1)) d = fc m (m.g.es.take j) (sw (2 * x.id) (2 * x.id + 1) d) := by
      intro d
      unfold fc
      congr 1
      by_cases h1 : d = 2 * x.id
      · subst h1
        rw [sw_a, al_in (darts_half.2 ⟨x, by rw [htk]; simp, by omega⟩), al_out]
        · unfold tw; rw [if_pos (by omega)]
        · intro hd
          obtain ⟨y, hy, h2⟩ := darts_half.1 hd
          exact hxno y hy (by omega)
      · by_cases h2 : d = 2 * x.id + 1
        · subst h2
          rw [sw_b, al_in (darts_half.2 ⟨x, by rw [htk]; simp, by omega⟩), al_out]
          · unfold tw; rw [if_neg (by omega)]; omega
          · intro hd
            obtain ⟨y, hy, h2⟩ := darts_half.1 hd
            exact hxno y hy (by omega)
        · rw [sw_o h1 h2]
          by_cases h3 : d ∈ darts (m.g.es.take j)
          · rw [al_in h3, al_in]
            obtain ⟨y, hy, h4⟩ := darts_half.1 h3
            exact darts_half.2 ⟨y, by rw [htk]; simp [hy], h4⟩
          · rw [al_out h3, al_out]
            intro hd
            obtain ⟨y, hy, h4⟩ := darts_half.1 hd
            rw [htk, List.mem_append, List.mem_singleton] at hy
            rcases hy with hy | rfl
            · exact h3 (darts_half.2 ⟨y, hy, h4⟩)
            · omega
    have ha : 2 * x.id ∈ darts m.g.es := mem_darts.2 ⟨x, hxin, .inl rfl⟩
    have hb : 2 * x.id + 1 ∈ darts m.g.es := mem_darts.2 ⟨x, hxin, .inr rfl⟩
    have hR : ∀ v w, Reach (m.g.es.take (j + 1)) v w ↔ Eu.Mg (Reach (m.g.es.take j)) x.a x.b v w := fun v w => by rw [htk]; exact reach_snoc _ _ _ _
    have hRn : ncl (Reach (m.g.es.take (j + 1))) m.g.vs = ncl (Eu.Mg (Reach (m.g.es.take j)) x.a x.b) m.g.vs := ncl_congr fun v _ w _ => hR v w
    rw [hRn]
    by_cases ho : Orb (fc m (m.g.es.take j)) (2 * x.id) (2 * x.id + 1)
    · have h1 := ncl_split hp hp' hf' (by omega) ha hb ho
      have hr : Reach (m.g.es.take j) x.a x.b := by
        obtain ⟨n, hn⟩ := ho
        obtain ⟨w, h2, h3⟩ := h.orb_reach (m.g.es.take j) (hs j) n (mem_ends.2 ⟨x, hxin, .inl ⟨rfl, rfl⟩⟩)
        rw [hn] at h2
        rwa [at_unique h.g.ids h2 (mem_ends.2 ⟨x, hxin, .inr ⟨rfl, rfl⟩⟩)] at h3
      have h2 : ncl (Eu.Mg (Reach (m.g.es.take j)) x.a x.b) m.g.vs = ncl (Reach (m.g.es.take j)) m.g.vs := ncl_congr fun v _ w _ => Mg.same (reach_eqv _) hr v w
      rw [h2, h1]
      exact ⟨k, by omega⟩
    · have h1 := ncl_join hp hp' hf' ha hb ho
      by_cases hr : Reach (m.g.es.take j) x.a x.b
      · have h2 : ncl (Eu.Mg (Reach (m.g.es.take j)) x.a x.b) m.g.vs = ncl (Reach (m.g.es.take j)) m.g.vs := ncl_congr fun v _ w _ => Mg.same (reach_eqv _) hr v w
        rw [h2]
        exact ⟨k + 1, by omega⟩
      · have h2 := ncl_mg (reach_eqv _) hr (h.g.ends x hxin).1 (h.g.ends x hxin).2
        exact ⟨k, by omega⟩
theorem MapOk.euler : ∃ k : Nat, 2 * ncl (Reach m.g.es) m.g.vs + m.g.es.length = 2 * k + alone m.g + m.g.vs.length + ncl (Orb (fc m m.g.es)) (darts m.g.es) := by
  have := h.euler_at m.g.es.length (Nat.le_refl _)
  rwa [List.take_length] at this
end
theorem PartsTo.ncl {g : Gr} {k : Nat} {R : List (List Int)} (h : PartsTo g k R) : R.length = Eu.ncl (Reach g.es) (g.vs.take k).reverse := by
  induction h with
  | zero => rfl
  | @seen k R _ hk hs ih =>
    rw [List.take_succ_eq_append_getElem hk, List.reverse_append, List.reverse_singleton, List.singleton_append, ncl_cons_in, ih]
    obtain ⟨u, hu, hr⟩ := hs
    rw [getD_lt _ _ hk] at hr
    exact ⟨u, List.mem_reverse.2 hu, hr⟩
  | @lead k R c _ hk hs _ ih =>
    rw [List.take_succ_eq_append_getElem hk, List.reverse_append, List.reverse_singleton, List.singleton_append, ncl_cons_new, List.length_append, ih]
    · rfl
    · rintro ⟨u, hu, hr⟩
      rw [← getD_lt _ _ hk] at hr
      exact hs ⟨u, List.mem_reverse.1 hu, hr⟩
theorem PartsTo.all {g : Gr} {R : List (List Int)} (h : PartsTo g g.vs.length R) : R.length = Eu.ncl (Reach g.es) g.vs := by
  rw [h.ncl, List.take_length]
  exact ncl_perm (reach_eqv _) (List.reverse_perm _)
def SeenD (f : Int → Int) (ds : List Int) (k : Nat) (x : Int) : Prop := ∃ y ∈ ds.take k, Orb f y x
inductive Lead (f : Int → Int) (ds : List Int) : Nat → List (List Int) → Prop
  | zero : Lead f ds 0 []
  | seen {k : Nat} {R : List (List Int)} (h : Lead f ds k R) (hk : k < ds.length) (hs : SeenD f ds k (ds.getD k 0)) : Lead f ds (k + 1) R
  | lead {k : Nat} {R : List (List Int)} {c : List Int} (h : Lead f ds k R) (hk : k < ds.length) (hs : ¬ SeenD f ds k (ds.getD k 0)) (hc : IsCyc f (ds.getD k 0) c) : Lead f ds (k + 1) (R ++ [c])
theorem Lead.len {f : Int → Int} {ds : List Int} {k : Nat} {R : List (List Int)} (h : Lead f ds k R) : R.length ≤ k := by
  induction h with
  | zero => simp
  | seen _ _ _ ih => omega
  | lead _ _ _ _ ih => simp; omega
theorem Lead.ncl {f : Int → Int} {ds : List Int} {k : Nat} {R : List (List Int)} (h : Lead f ds k R) : R.length = Eu.ncl (Orb f) (ds.take k).reverse := by
  induction h with
  | zero => rfl
  | @seen k R _ hk hs ih =>
    rw [List.take_succ_eq_append_getElem hk, List.reverse_append, List.reverse_singleton, List.singleton_append, ncl_cons_in, ih]
    obtain ⟨u, hu, hr⟩ := hs
    rw [getD_lt _ _ hk] at hr
    exact ⟨u, List.mem_reverse.2 hu, hr⟩
  | @lead k R c _ hk hs _ ih =>
    rw [List.take_succ_eq_append_getElem hk, List.reverse_append, List.reverse_singleton, List.singleton_append, ncl_cons_new, List.length_append, ih]
    · rfl
    · rintro ⟨u, hu, hr⟩
      rw [← getD_lt _ _ hk] at hr
      exact hs ⟨u, List.mem_reverse.1 hu, hr⟩
theorem Lead.all {f : Int → Int} (hf : Per f) {ds : List Int} {R : List (List Int)} (h : Lead f ds ds.length R) : R.length = Eu.ncl (Orb f) ds := by
  rw [h.ncl, List.take_length]
  exact ncl_perm hf.eqv (List.reverse_perm _)
theorem seenD_succ {f : Int → Int} {ds : List Int} {k : Nat} (hk : k < ds.length) {x : Int} : SeenD f ds (k + 1) x ↔ SeenD f ds k x ∨ Orb f (ds.getD k 0) x := by
  unfold SeenD
  rw [List.take_succ_eq_append_getElem hk, getD_lt _ _ hk]
  constructor
  · rintro ⟨u, hu, hr⟩
    rw [List.mem_append, List.mem_singleton] at hu
    rcases hu with hu | rfl
    · exact .inl ⟨u, hu, hr⟩
    · exact .inr hr
  · rintro (⟨u, hu, hr⟩ | hr)
    · exact ⟨u, List.mem_append_left _ hu, hr⟩
    · exact ⟨_, List.mem_append_right _ (List.mem_singleton.2 rfl), hr⟩
theorem seenD_same {f : Int → Int} {ds : List Int} {k : Nat} (hk : k < ds.length) (hs : SeenD f ds k (ds.getD k 0)) {x : Int} : SeenD f ds (k + 1) x ↔ SeenD f ds k x := by
  rw [seenD_succ hk]
  refine ⟨fun h => h.elim id fun h => ?_, .inl⟩
  obtain ⟨y, hy, hr⟩ := hs
  exact ⟨y, hy, hr.trans h⟩
theorem cyc_lead {f : Int → Int} (hf : Per f) {ds : List Int} (hr : ds.Pairwise (· < ·)) (hd : ∀ x ∈ ds, f x ∈ ds) {k : Nat} (hk : k < ds.length) {c : List Int} (hc : IsCyc f (ds.getD k 0) c) : (¬ SeenD f ds k (ds.getD k 0)) ↔ mn c = ds.getD k 0 := by
  have hin : ∀ n x, x ∈ ds → it f n x ∈ ds := by
    intro n
    induction n with
    | zero => intro x hx; exact hx
    | succ n ih => intro x hx; exact ih _ (hd x hx)
  have hx : ds.getD k 0 ∈ ds := by rw [getD_lt _ _ hk]; exact List.getElem_mem _
  constructor
  · intro hs
    refine mn_eq (hc.mem.2 (Orb.refl _ _)) fun y hy => ?_
    obtain ⟨n, hn⟩ := hc.mem.1 hy
    rcases Int.lt_or_le y (ds.getD k 0) with h1 | h1
    · have hy2 : y ∈ ds := by rw [← hn]; exact hin n _ hx
      exact absurd ⟨y, (take_lt hr hk).2 ⟨hy2, h1⟩, Orb.symm hf ⟨n, hn⟩⟩ hs
    · exact h1
  · rintro hm ⟨y, hy, hr2⟩
    have h1 := ((take_lt hr hk).1 hy).2
    have := mn_le (hc.mem.2 (Orb.symm hf hr2))
    omega
theorem nrm_of_head {c : List Int} {d : Int} {r : List Int} (h : c = d :: r) (hm : mn c = d) : nrm c = c := by
  subst h
  unfold nrm
  rw [hm]
  simp [rt]
theorem IsCyc.head {f : Int → Int} {d : Int} {c : List Int} (h : IsCyc f d c) : ∃ r, c = d :: r := by
  obtain ⟨p, hp, rfl, _, _⟩ := h
  obtain ⟨q, rfl⟩ : ∃ q, p = q + 1 := ⟨p - 1, by omega⟩
  rw [List.range_succ_eq_map]
  exact ⟨_, rfl⟩
theorem nrm_head (c : List Int) (h : c ≠ []) : ∃ r, nrm c = mn c :: r := by
  have hm := mn_mem h
  have hlt := List.idxOf_lt_length_of_mem hm
  have hl : 0 < (nrm c).length := by rw [nrm_length]; omega
  have h0 := nrm_get c 0 (by omega)
  simp only [Nat.add_zero, Nat.mod_eq_of_lt hlt, List.getElem_idxOf] at h0
  cases hn : nrm c with
  | nil => rw [hn] at hl; simp at hl
  | cons a r => simp only [hn, List.getElem_cons_zero] at h0; rw [h0]; exact ⟨r, rfl⟩
end Go.Proofs.YtglkgindpjdoiaaGreat.Aw
namespace Go.Proofs.YtglkgindpjdoiaaGreat.Aw
open Go Go.RowKit
set_option linter.unusedSimpArgs false
set_option linter.unusedVariables false
section
variable {P : Program} {T : Tab} {N : Nat} {Q : AQ} {fr : Frm} {st : St} {c : Code}
theorem rep_deads (w : World) (g : G) : ∀ vs : List Value, RepL w g (List.replicate vs.length .dead) vs
  | [] => by simp [RepL]
  | v :: vs => by
    simp only [List.length_cons, List.replicate_succ, RepL]
    exact ⟨v, vs, rfl, by simp only [Rep], rep_deads w g vs⟩
theorem awp_kap (d : Nat) {l n e s : Nat} {cs : List LV} (hd : fr d = .ms l 0 n) (hl : st.H l = .box e s cs)
    (h : ∀ cap x, n ≤ cap → cs.length + x = cap * s → AWp P N c Q (upd fr d (.kap l n cap)) (st.set l (.box e s (cs ++ List.replicate x .dead)))) : AWp P N c Q fr st := by
  intro a w g hi hr hs hdf
  have hv := hr d
  rw [hd] at hv
  simp only [Rep] at hv
  obtain ⟨A, cap, hv, h1, h2, h3, h4, h5⟩ := hv
  obtain ⟨h6, h7⟩ := h3 trivial
  obtain ⟨q1, q2, q3⟩ := hi.box l e s cs hl
  have hrk : Rep w g (.kap l n cap) (a.tmps.getD d undef) := by
    simp only [Rep]
    exact ⟨A, hv, h1, h2, h6.symm, h5, h7, fun hn => by have := (q2 hn).1; omega⟩
  have hr2 := repF_upd hr d hrk
  cases hnl : g.nl l with
  | true =>
    obtain ⟨k1, k2⟩ := q2 hnl
    have := h cap 0 h1 (by rw [k2, h6, k1]; simp) a w g (by
      rw [List.replicate_zero, List.append_nil, set_self hl]; exact hi) hr2 hs hdf
    exact this
  | false =>
    obtain ⟨cur, k1, k2, k3, k4, k5⟩ := q3 hnl
    have hall : RepL w g (cs ++ List.replicate (cur.length - cs.length) .dead) cur := by
      have := repL_append _ _ _ _ k4 (rep_deads w g (cur.drop cs.length))
      rw [List.take_append_drop, List.length_drop] at this
      exact this
    have hlen : cs.length + (cur.length - cs.length) = cap * s := by rw [h6, ← k2]; omega
    refine h cap _ h1 hlen a w g ?_ hr2 hs hdf
    have hlt : l < st.next := by
      rcases Nat.lt_or_ge l st.next with h0 | h0
      · exact h0
      · have := hi.fresh l h0; rw [hl] at this; cases this
    have hb : ∀ x, blk g (st.set l (.box e s (cs ++ List.replicate (cur.length - cs.length) .dead))) x ↔ blk g st x := by
      intro x
      unfold blk
      simp only [St.set]
      by_cases hx : x = l
      · subst hx; simp [hl]
      · rw [if_neg hx]
    refine ⟨hi.next, hi.pos, ?_, fun x hx => hi.lt x ((hb x).1 hx), fun x y hx hy => hi.inj x y ((hb x).1 hx) ((hb y).1 hy), ?_, ?_, ?_, ?_⟩
    · intro x hx
      simp only [St.set] at hx ⊢
      rw [if_neg (by omega)]
      exact hi.fresh x hx
    · intro x e' s' n hx
      by_cases e0 : x = l
      · simp [St.set, e0] at hx
      · simp only [St.set, if_neg e0] at hx
        exact hi.own x e' s' n hx
    · intro x e' s' cs' hx
      by_cases e0 : x = l
      · simp only [St.set, if_pos e0] at hx
        injection hx with h1 h2 h3
        subst h1 h2 h3 e0
        refine ⟨q1, fun hn => absurd hn (by rw [hnl]; simp), fun _ => ?_⟩
        have hle : (cs ++ List.replicate (cur.length - cs.length) LV.dead).length = cur.length := by simp; omega
        refine ⟨cur, k1, k2, by omega, ?_, k5⟩
        rw [hle, List.take_length]; exact hall
      · simp only [St.set, if_neg e0] at hx
        exact hi.box x e' s' cs' hx
    · intro x ag ks es hx
      by_cases e0 : x = l
      · simp [St.set, e0] at hx
      · simp only [St.set, if_neg e0] at hx
        exact hi.mp x ag ks es hx
    · intro x e' n hx
      by_cases e0 : x = l
      · simp [St.set, e0] at hx
      · simp only [St.set, if_neg e0] at hx
        exact hi.qu x e' n hx
theorem acalls_kap {f : FuncId} {args : List LV} {Q : LV → St → Prop} (h : ACalls P f args st fun r st' => (∃ l n c, r = .kap l n c ∧ Q (.ms l 0 n) st') ∨ Q r st') : ACalls P f args st Q := by
  refine ⟨h.1, fun w g vs hi hr => (h.2 w g vs hi hr).mono ?_⟩
  rintro x w' ⟨v, r, st', g', rfl, hq, hrep, hi', he⟩
  rcases hq with ⟨l, n, c, rfl, hq⟩ | hq
  · exact ⟨v, _, st', g', rfl, hq, rep_kap hrep, hi', he⟩
  · exact ⟨v, r, st', g', rfl, hq, hrep, hi', he⟩
theorem acalls_shr {f : FuncId} {args : List LV} {Q : LV → St → Prop} (h : ACalls P f args st fun r st' => ∃ l e s cs k, st'.H l = .box e s cs ∧ Q r (st'.set l (.box e s (cs.take k)))) : ACalls P f args st Q := by
  refine ⟨h.1, fun w g vs hi hr => (h.2 w g vs hi hr).mono ?_⟩
  rintro x w' ⟨v, r, st', g', rfl, ⟨l, e, s, cs, k, hl, hq⟩, hrep, hi', he⟩
  exact ⟨v, r, _, g', rfl, hq, hrep, inv_shrink hi' k hl, he⟩
variable {ops : Array Oper} {M : List Nat} {o : Oper}
theorem aopsE_then (hT : TabOk P T) {Q : AQ} {suf : List Oper} {J : Frm → St → Prop} (hJ : ∀ fr st, J fr st → AOps P N ops suf Q fr st) : ∀ (rest : List Oper) (fr : Frm) (st : St), regOk N ops rest = true → AOpsE P T N ops M J rest fr st → AOps P N ops (rest ++ suf) Q fr st
  | [], fr, st, _, h => hJ _ _ h
  | o :: rest, fr, st, hk, h => by
    simp only [regOk, List.all_cons, Bool.and_eq_true] at hk
    obtain ⟨⟨hd, hg⟩, hk⟩ := hk
    have ih := aopsE_then hT (Q := Q) (suf := suf) hJ rest
    have hk' : regOk N ops rest = true := hk
    unfold AOpsE at h
    rw [List.cons_append]
    cases hw : wantedL ops fr o.guard with
    | none => rw [hw] at h; exact h.elim
    | some b =>
      rw [hw] at h
      cases b with
      | false => exact aops_skip hw hg hd (ih _ _ hk' (h.2 rfl))
      | true =>
        have h1 := h.1 rfl
        split at h1
        · rename_i x args tys hop
          split at h1
          · rename_i f caps hf
            obtain ⟨R, hR, hn⟩ := h1
            exact aops_call hop hw hg hd hf hR (fun r st' hr => ih _ _ hk' (hn r st' hr))
          · exact h1.elim
        · split at h1
          · rename_i ng n hnc
            exact aops_nilCmp hT hnc hw hg hd (fun b hb => ih _ _ hk' (h1 b hb))
          · split at h1
            · rename_i r hr
              exact aops_op hw hg hd (aop_sound hT hr h1.1) (ih _ _ hk' h1.2)
            · exact h1.elim
theorem awp_regionX (hT : TabOk P T) (M : List Nat) (n : Nat) {Q : AQ} {id : Nat} {o : Oper} (ho : ops.toList[n]? = some o) (hk : regOk N ops ops.toList = true)
    (h : ∀ J : Frm → St → Prop, (∀ fr st, Q .normal fr st → J fr st) → AOpsE P T N ops M (fun fr st => ∃ lv, wantedL ops fr o.guard = some true ∧ Op1 P N false o fr st lv st ∧ AOpsE P T N ops M J (ops.toList.drop (n + 1)) (updO fr o.dst lv) st) (ops.toList.take n) fr st) :
    AWp P N (.region id ops false) Q fr st := by
  refine awp_region ?_
  have hn : n < ops.toList.length := (List.getElem?_eq_some_iff.1 ho).1
  have hsp : ops.toList = ops.toList.take n ++ o :: ops.toList.drop (n + 1) := by
    have e : ops.toList[n] = o := by rw [List.getElem?_eq_getElem hn] at ho; exact Option.some.inj ho
    rw [← e, ← List.drop_eq_getElem_cons hn, List.take_append_drop]
  have hk2 : regOk N ops (ops.toList.take n) = true ∧ (dstOk N o.dst = true ∧ guardOk N ops o.guard = true) ∧ regOk N ops (ops.toList.drop (n + 1)) = true := by
    have hk' := hk
    rw [hsp] at hk'
    unfold regOk at hk' ⊢
    rw [List.all_append, List.all_cons] at hk'
    simpa [Bool.and_eq_true] using hk'
  rw [hsp]
  refine aopsE_then hT ?_ _ _ _ hk2.1 (h (fun fr st => Q .normal fr st) fun _ _ h => h)
  rintro fr st ⟨lv, h1, h2, h3⟩
  exact aops_op h1 hk2.2.1.2 hk2.2.1.1 h2 (aopsE_sound hT (fun _ _ h => h) _ _ _ hk2.2.2 h3)
theorem op1_overlaps {f : FuncId} {fn : Func} {tS tR e s t l k n m : Nat} {x y : Operand} {tys : Array TypeId} {xs cs : List LV} (hT : TabOk P T) (hop : o.op = .call { callee := .value (.func f), args := #[x, y], argTypes := tys })
    (hf : P.funcs[f]? = some fn) (hname : (fn.name == "runtime.NumGoroutine") = false) (hb : fn.body.isNone = true) (hn : Extern.findNext fn = none) (he : Extern.find fn = some (Extern.SlicesOverlaps.overlaps #[tS, tS] #[tR]))
    (hS : sliceE T tS = some e) {row : TRow} (hE : T e = some row) (hx : evalL fr x = .sl t m xs) (hy : evalL fr y = .ms l k n) (ht0 : t ≠ 0) (ht : st.H t = .own e s m) (hl : st.H l = .box e s cs) (hm : 0 < m) (hn0 : 0 < n) (hsp : 0 < s) (hcs : 0 < cs.length) :
    Op1 P N false o fr st (.atom (.bool false)) st := by
  intro a w g hi hr hs
  have h1 := rep_eval hr x
  have h2 := rep_eval hr y
  rw [hx] at h1
  rw [hy] at h2
  simp only [Rep] at h1 h2
  obtain ⟨A, ca, hv, a1, a2, a3, _⟩ := h1
  obtain ⟨B, cb, hu, b1, b2, b3, b4, b5⟩ := h2
  obtain ⟨o1, o2, o3, o4⟩ := hi.own t e s m ht
  obtain ⟨q1, q2, q3⟩ := hi.box l e s cs hl
  have hnt : g.nl t = false := by
    cases hnt : g.nl t with
    | false => rfl
    | true => have := o3 hnt; omega
  have hnl : g.nl l = false := by
    cases hnl : g.nl l with
    | false => rfl
    | true => have := (q2 hnl).2; subst this; simp at hcs
  obtain ⟨cur, c1, c2, c3⟩ := o4 hnt
  obtain ⟨cur', d1, d2, d3, d4, d5⟩ := q3 hnl
  obtain ⟨e1, e2, e3⟩ := a3 ht0
  have e1 := e1 hnt
  subst e1
  have b4 := b4 (by omega)
  subst b4
  have hne : g.β t ≠ g.β l := fun h0 => by
    have := hi.inj t l (by unfold blk; rw [ht]; exact hnt) (by unfold blk; rw [hl]; exact hnl) h0
    subst this
    rw [ht] at hl; cases hl
  have hrow := hT e row hE
  refine ⟨.value (.bool false), w, g, ?_, .inl ⟨_, rfl, by simp only [Rep]⟩, hi, Ext.refl w g, fun h => by cases h⟩
  have hkB : cur'.toArray.size ≠ 0 := by simp only [List.size_toArray]; omega
  have hrun := Lib.run_overlaps_apart (P := P) w tS tR e (sliceE_ok hT hS) row.size hrow.sizeOf ⟨g.β t, 0, none⟩ ⟨g.β l, k, none⟩ m ca n cb hne e e cur.size cur'.toArray.size (by simp [World.shape?, c1]) (by simp [World.shape?, d1]) hkB (by simp [World.frozen?, c1]) (by simp [World.frozen?, c1])
  have hcf := run_callFunc_extern hf hname hb hn he #[.slice (some ⟨g.β t, 0, none⟩) m ca, .slice (some ⟨g.β l, k, none⟩) n cb] w
  rw [hrun, Result.andThen_ok] at hcf
  unfold execOp
  simp only [hop, resolve, invoke, Act.eval, Deferred.ofValue, Sem.run_bind, Sem.run_pure, Result.andThen_ok]
  have hv' : a.eval x = _ := hv
  have hu' : a.eval y = _ := hu
  simp [hv', hu', hcf]
end
theorem w_x {N : Nat} {Q : AQ} {fr : Frm} {st : St} {id : Nat} {ops : Array Oper} (M : List Nat) (n : Nat) {o : Oper} (ho : ops.toList[n]? = some o)
    (h : ∀ J : Frm → St → Prop, (∀ fr st, Q .normal fr st → J fr st) → AOpsE Tryz.prog tab N ops M (fun fr st => ∃ lv, wantedL ops fr o.guard = some true ∧ Op1 Tryz.prog N false o fr st lv st ∧ AOpsE Tryz.prog tab N ops M J (ops.toList.drop (n + 1)) (updO fr o.dst lv) st) (ops.toList.take n) fr st) (hk : regOk N ops ops.toList = true := by exact rfl) :
    AWp Tryz.prog N (.region id ops false) Q fr st := awp_regionX tabOk M n ho hk h
end Go.Proofs.YtglkgindpjdoiaaGreat.Aw
