/- Graphs: near, Alone. What hangs together in a graph. No program. Graphs: Parts. Graphs: the document's parts. Graphs: the document's Parts; places of edges. Graphs: Keep. What three graphs come to. No program. Plain: edges beside each other, of each bundle one, rows of near vertices. No program. Plain: the way from one vertex to another one, as it is sought. No program. Plain: bundles. No program. block.Simple: of each bundle one edge, and the bundles. -/
import Derived.Test.YtomfeddgeihipaaGreatJe
import Derived.Test.YtomfeddgeihipaaGreatAwShp
import Derived.Test.YtomfeddgeihipaaGreatAwZ
namespace Go.Proofs.YtomfeddgeihipaaGreat.Aw
open Go Go.RowKit Go.Proofs.YtomfeddgeihipaaGreat.Pl
set_option linter.unusedSimpArgs false
set_option linter.unusedVariables false

def nbr1 (v : Int) (x : Ed) : List Int := (if x.a = v then [x.b] else []) ++ (if x.b = v then [x.a] else [])
/-- Who is at the other ends of a vertex's edges. -/
def nbr (es : List Ed) (v : Int) : List Int := es.flatMap (nbr1 v)
theorem nbr1_len (v : Int) (x : Ed) : (nbr1 v x).length ≤ 2 := by
  unfold nbr1; split <;> split <;> simp

/-- A map of rows, each with a place of its own. -/
def NearI (lo m : Nat) (es : List (List Int × LV)) (st : St) (f : Int → List Int) (tok : Int → Nat) : Prop :=
  ∀ v, (tok v = 0 → f v = [] ∧ mget es [v] = none) ∧ (tok v ≠ 0 → mget es [v] = some (.sl (tok v) (f v).length (us (f v))) ∧ lo ≤ tok v ∧ tok v < st.next ∧ tok v ≠ m ∧ st.H (tok v) = .own 41 1 (f v).length ∧ ∀ w, tok w = tok v → w = v)

theorem NearI.step {lo m : Nat} {es : List (List Int × LV)} {st st' : St} {f : Int → List Int} {tok : Int → Nat} (h : NearI lo m es st f tok) (a x : Int) (N : Nat) (hN : st.next ≤ N) (hN' : N < st'.next) (hm : m < st.next) (h0 : 0 < st.next) (hlo : lo ≤ st.next)
    (hH : ∀ l, l ≠ tok a → l ≠ m → l < st.next → st'.H l = st.H l) (hO : st'.H N = .own 41 1 ((f a).length + 1)) :
    NearI lo m (mset es [a] (.sl N ((f a).length + 1) (us (f a ++ [x])))) st' (fun v => if v = a then f a ++ [x] else f v) (fun v => if v = a then N else tok v) := by
  intro v
  by_cases hv : v = a
  · subst hv
    simp only [if_true]
    refine ⟨fun h1 => by omega, fun _ => ⟨by rw [mget_mset]; simp, by omega, hN', by omega, by rw [hO]; simp, fun w hw => ?_⟩⟩
    by_cases hwv : w = v
    · exact hwv
    · rw [if_neg hwv] at hw
      by_cases h1 : tok w = 0
      · omega
      · have := ((h w).2 h1).2.2.1; omega
  · simp only [if_neg hv]
    have hne : ¬ ([v] : List Int) = [a] := by simpa using hv
    refine ⟨fun h1 => ⟨((h v).1 h1).1, by rw [mget_mset, if_neg hne]; exact ((h v).1 h1).2⟩, fun h1 => ?_⟩
    obtain ⟨k1, k2, k3, k4, k5, k6⟩ := (h v).2 h1
    refine ⟨by rw [mget_mset, if_neg hne]; exact k1, k2, by omega, k4, ?_, fun w hw => ?_⟩
    · rw [hH (tok v) (fun e => hv (k6 a e.symm).symm) k4 k3]; exact k5
    · by_cases hwa : w = a
      · subst hwa; simp only [if_true] at hw; omega
      · rw [if_neg hwa] at hw; exact k6 w hw

/-- A map whose rows are told. -/
def RowsAt (es : List (List Int × LV)) (f : Int → List Int) : Prop := ∀ v, ∃ t, norm ((mget es [v]).getD .nil) = .sl t (f v).length (us (f v))

def NearJ (n0 m : Nat) (st : St) (l : List Ed) (k : Nat) (id a b : Int) (f : Int → List Int) (fr : Frm) (st2 : St) : Prop :=
  fr 3 = .mp (m) ∧ fr 8 = .sl 0 l.length (eds l) ∧ fr 9 = i l.length ∧ fr 10 = i k ∧ Keeps st st2 ∧ m < st2.next ∧ (∃ q, fr 5 = .pt q 0 ∧ st2.H q = .box 43 3 [u id, u a, u b] ∧ q < st2.next) ∧ ∃ es tok, st2.H (m) = .map false [.u32] es ∧ NearI n0 m es st2 f tok

theorem near (g : Gr) (st : St) (he : g.es.length ≤ 1000) :
    ACalls Tryz.prog 95 [.ag (grL g)] st fun r st' => ∃ m es, r = .mp m ∧ st.next ≤ m ∧ m < st'.next ∧ st'.H m = .map false [.u32] es ∧ Keeps st st' ∧ RowsAt es (nbr g.es) := by
  obtain ⟨vs, l⟩ := g
  simp only at he ⊢
  have hel := eds_length l
  have hfl := fun v k => flat_len (nbr1 v) (nbr1_len v) (l.take k)
  refine acalls_of_body tabOk Tryz.func95 rfl rfl Tryz.ntmps95 (rs := [.tmp 2]) rfl (by simp) ?_
  (repeat' (first | refine awp_seq ?_ | refine awp_block ?_ | ((first | refine awp_skip ?_ | refine awp_exit ?_); simp only [ak, reduceIte]) | (refine awp_ret ?_; simp only [ak, reduceIte]; simp []) | (refine awp_cond ?_; simp []; (try with_reducible refine ⟨?_, ?_⟩) <;> (try with_reducible intro hc) <;> try (exfalso; omega)) | ((first | (refine w_e [] ?_; intro J hJ; simp only []) | (refine w_q ?_; intro J hJ) | refine e_go ?_); simp []; (repeat refine ca ?_); (try ((try with_reducible refine ⟨?_, ?_⟩) <;> (try with_reducible intro hnil) <;> refine hJ _ _ ?_ <;> clear hJ J <;> simp only [ak, reduceIte] <;> try subst hnil)))))
  refine awp_posG fun hpos => ?_
  obtain ⟨m, hm⟩ : ∃ m, m = st.next + 1 := ⟨_, rfl⟩
  refine awp_loop (fun n fr st2 => ∃ k : Nat, k ≤ l.length ∧ n = l.length - k ∧ fr 3 = .mp m ∧ fr 8 = .sl 0 l.length (eds l) ∧ fr 9 = i l.length ∧ fr 10 = i k ∧ Keeps st st2 ∧ m < st2.next ∧ ∃ es tok, st2.H m = .map false [.u32] es ∧ NearI st.next m es st2 (nbr (l.take k)) tok) l.length ?_ ?_
  · exact ⟨0, by omega, by omega, by simp [hm], by simp, by simp, by simp, (Keeps.new _ _).trans (Keeps.new _ _), by simp [hm], [], fun _ => 0, by simp [hm], fun v => ⟨fun _ => ⟨by simp [nbr], rfl⟩, fun h => absurd rfl h⟩⟩
  rintro n fr st2 ⟨k, hk, rfl, f3, f8, f9, f10, hkp, hmn, es, tok, hM, hN⟩ JJ hJJ
  by_cases hlt : k < l.length
  rotate_left
  · clear hJJ
    have hk' : k = l.length := by omega
    rw [hk', List.take_length] at hN
    (repeat' (first | refine awp_seq ?_ | refine awp_block ?_ | ((first | refine awp_skip ?_ | refine awp_exit ?_); simp only [ak, reduceIte]) | (refine awp_ret ?_; simp only [ak, reduceIte]; simp [f3, f9, f10, hlt]) | (refine awp_cond ?_; simp [f3, f9, f10, hlt]; (try with_reducible refine ⟨?_, ?_⟩) <;> (try with_reducible intro hc) <;> try (exfalso; omega)) | ((first | (refine w_e [] ?_; intro J hJ; simp only []) | (refine w_q ?_; intro J hJ) | refine e_go ?_); simp [f3, f9, f10, hlt]; (repeat refine ca ?_); (try ((try with_reducible refine ⟨?_, ?_⟩) <;> (try with_reducible intro hnil) <;> refine hJ _ _ ?_ <;> clear hJ J <;> simp only [ak, reduceIte] <;> try subst hnil)))))
    refine ⟨by omega, hmn, es, hM, hkp, fun v => ?_⟩
    by_cases h0 : tok v = 0
    · obtain ⟨h1, h2⟩ := (hN v).1 h0
      exact ⟨0, by rw [h1, h2]; rfl⟩
    · obtain ⟨h1, -⟩ := (hN v).2 h0
      exact ⟨tok v, by rw [h1]; rfl⟩
  have hd := eds_drop l k hlt
  have hw := nat_add_one k (by omega)
  have hk3 : k * 3 < l.length * 3 := by omega
  have hst : ∀ v, nbr (l.take (k + 1)) v = nbr (l.take k) v ++ nbr1 v (l.getD k ed0) := fun v => flat_takeE _ _ _ hlt
  have hle : ∀ v, (nbr (l.take k) v).length ≤ 2 * k := fun v => by have := hfl v k; rw [List.length_take] at this; unfold nbr; omega
  generalize hx : l.getD k ed0 = x at *
  obtain ⟨id, a, b⟩ := x
  simp only at hd
  generalize hF : nbr (l.take k) = f at *
  (repeat' (first | refine awp_seq ?_ | refine awp_block ?_ | ((first | refine awp_skip ?_ | refine awp_exit ?_); simp only [ak, reduceIte]) | (refine awp_ret ?_; simp only [ak, reduceIte]; simp [f8, f9, f10, hlt, hd, hel]) | (refine awp_cond ?_; simp [f8, f9, f10, hlt, hd, hel]; (try with_reducible refine ⟨?_, ?_⟩) <;> (try with_reducible intro hc) <;> try (exfalso; omega)) | ((first | (refine w_e [] ?_; intro J hJ; simp only []) | (refine w_q ?_; intro J hJ) | refine e_go ?_); simp [f8, f9, f10, hlt, hd, hel]; (repeat refine ca ?_); (try ((try with_reducible refine ⟨?_, ?_⟩) <;> (try with_reducible intro hnil) <;> refine hJ _ _ ?_ <;> clear hJ J <;> simp only [ak, reduceIte] <;> try subst hnil)))))
  have hm2 : ¬ m = st2.next := by omega
  have hm3 : ¬ st2.next = m := by omega
  have hm4 : ¬ m = st2.next + 1 := by omega
  have hm5 : ¬ m = st2.next + 1 + 1 := by omega
  have hn2 : ¬ st2.next = st2.next + 1 + 1 := by omega
  refine awp_cut1 (NearJ st.next m st l k id a b (fun v => if v = a then f a ++ [b] else f v)) ?_ ?_
  · clear hJJ
    have hla := hle a
    by_cases h0 : tok a = 0
    · obtain ⟨h1, h2⟩ := (hN a).1 h0
      (refine w_s [] [st2.next, m] [(0, true), (1, true), (2, true), (3, true), (4, true), (5, true), (6, true), (7, true), (8, true), (9, true), (10, true), (11, false)] ?_; intro J hJ; simp [f3, hM, h2, hm2, hm3, hm4, hm5, hn2]; (repeat refine ca ?_); (try ((try with_reducible refine ⟨?_, ?_⟩) <;> (try with_reducible intro hnil) <;> refine hJ _ _ ?_ <;> clear hJ J <;> simp only [ak, reduceIte] <;> try subst hnil)))
      refine ⟨by trivial, ?_⟩
      have e : LV.sl (st2.next + 1 + 1) ((f a).length + 1) (us (f a ++ [b])) = .sl (st2.next + 1 + 1) 1 [u b] := by rw [h1]; rfl
      refine ⟨by simp [f3], by simp [f8], by simp [f9], by simp [f10], (by repeat (first | exact hkp | (refine Keeps.trans ?_ (Keeps.new _ _)) | (refine Keeps.set ?_ (by have := hkp.next; omega) _))), by simp; omega, ⟨st2.next, by simp, by simp [hm3, hn2], by simp; omega⟩, _, fun v => if v = a then st2.next + 1 + 1 else tok v, by simp; rfl, ?_⟩
      rw [← e]
      refine hN.step a b (st2.next + 1 + 1) (by omega) (by simp) hmn (by omega) (by have := hkp.next; omega) (fun l e1 e2 e3 => ?_) (by rw [h1]; simp [Ne.symm hm5])
      have a1 : ¬ l = st2.next := by omega
      have a2 : ¬ l = st2.next + 1 := by omega
      have a3 : ¬ l = st2.next + 1 + 1 := by omega
      simp [a1, a2, a3, e1, e2]
    · obtain ⟨h1, h2, h3, h4, h5, h6⟩ := (hN a).2 h0
      have ht1 : ¬ tok a = st2.next := by omega
      have ht2 : ¬ st2.next = tok a := by omega
      have ht3 : ¬ tok a = st2.next + 1 := by omega
      have ht4 : ¬ m = tok a := fun h => h4 h.symm
      (refine w_s [] [st2.next, m] [(0, true), (1, true), (2, true), (3, true), (4, true), (5, true), (6, true), (7, true), (8, true), (9, true), (10, true), (11, false)] ?_; intro J hJ; simp [f3, hM, h1, h5, h0, hm2, hm3, hm4, hm5, hn2, ht1, ht2, ht3, ht4]; (repeat refine ca ?_); (try ((try with_reducible refine ⟨?_, ?_⟩) <;> (try with_reducible intro hnil) <;> refine hJ _ _ ?_ <;> clear hJ J <;> simp only [ak, reduceIte] <;> try subst hnil)))
      refine ⟨by trivial, ?_⟩
      have e : LV.sl (st2.next + 1 + 1) ((f a).length + 1) (us (f a ++ [b])) = .sl (st2.next + 1 + 1) ((f a).length + 1) (us (f a) ++ [u b]) := by simp
      refine ⟨by simp [f3], by simp [f8], by simp [f9], by simp [f10], (by repeat (first | exact hkp | (refine Keeps.trans ?_ (Keeps.new _ _)) | (refine Keeps.set ?_ (by have := hkp.next; omega) _))), by simp; omega, ⟨st2.next, by simp, by simp [hm3, hn2, ht2], by simp; omega⟩, _, fun v => if v = a then st2.next + 1 + 1 else tok v, by simp; rfl, ?_⟩
      rw [← e]
      refine hN.step a b (st2.next + 1 + 1) (by omega) (by simp) hmn (by omega) (by have := hkp.next; omega) (fun l e1 e2 e3 => ?_) (by simp [Ne.symm hm5])
      have a1 : ¬ l = st2.next := by omega
      have a2 : ¬ l = st2.next + 1 := by omega
      have a3 : ¬ l = st2.next + 1 + 1 := by omega
      simp [a1, a2, a3, e1, e2]
  clear f3 f8 f9 f10 hkp hmn hM hN hm2 hm3 hm4 hm5 hn2 tok es st2 fr
  rintro fr st2 ⟨f3, f8, f9, f10, hkp, hmn, ⟨q, f5, hq, hqn⟩, es, tok, hM, hN⟩
  generalize hf2 : (fun v => if v = a then f a ++ [b] else f v) = f2 at *
  have hle2 : (f2 b).length ≤ 2 * k + 1 := by
    rw [← hf2]
    simp only
    split
    · have := hle a; simp; omega
    · have := hle b; omega
  have hfin : ∀ v, nbr (l.take (k + 1)) v = (if v = b then f2 b ++ [a] else f2 v) := by
    intro v
    rw [hst v, ← hf2]
    unfold nbr1
    simp only
    by_cases hva : v = a
    · subst hva
      by_cases hvb : v = b
      · subst hvb; simp
      · simp [hvb, Ne.symm hvb]
    · by_cases hvb : v = b
      · subst hvb; simp [hva, Ne.symm hva]
      · simp [hva, hvb, Ne.symm hva, Ne.symm hvb]
  have hfin' : nbr (l.take (k + 1)) = fun v => if v = b then f2 b ++ [a] else f2 v := funext hfin
  have hm2 : ¬ m = st2.next := by omega
  have hm5 : ¬ m = st2.next + 1 := by omega
  have hq2 : ¬ q = st2.next := by omega
  have hqm : ¬ q = m := fun h => by rw [h, hM] at hq; cases hq
  by_cases h0 : tok b = 0
  · obtain ⟨h1, h2⟩ := (hN b).1 h0
    (refine w_s [] [q, m] [(0, true), (1, true), (2, true), (3, true), (4, true), (5, true), (6, true), (7, true), (8, true), (9, true), (10, true), (11, false)] ?_; intro J hJ; simp [f3, f5, hq, hM, h2, hm2, hm5, hq2, hqm]; (repeat refine ca ?_); (try ((try with_reducible refine ⟨?_, ?_⟩) <;> (try with_reducible intro hnil) <;> refine hJ _ _ ?_ <;> clear hJ J <;> simp only [ak, reduceIte] <;> try subst hnil)))
    (repeat' (first | refine awp_seq ?_ | refine awp_block ?_ | ((first | refine awp_skip ?_ | refine awp_exit ?_); simp only [ak, reduceIte]) | (refine awp_ret ?_; simp only [ak, reduceIte]; simp [f10, hw]) | (refine awp_cond ?_; simp [f10, hw]; (try with_reducible refine ⟨?_, ?_⟩) <;> (try with_reducible intro hc) <;> try (exfalso; omega)) | ((first | (refine w_e [] ?_; intro J hJ; simp only []) | (refine w_q ?_; intro J hJ) | refine e_go ?_); simp [f10, hw]; (repeat refine ca ?_); (try ((try with_reducible refine ⟨?_, ?_⟩) <;> (try with_reducible intro hnil) <;> refine hJ _ _ ?_ <;> clear hJ J <;> simp only [ak, reduceIte] <;> try subst hnil)))))
    have e : LV.sl (st2.next + 1) ((f2 b).length + 1) (us (f2 b ++ [a])) = .sl (st2.next + 1) 1 [u a] := by rw [h1]; rfl
    refine hJJ (l.length - (k + 1)) _ _ (by omega) ⟨k + 1, by omega, rfl, by simp [f3], by simp [f8], by simp [f9], by simp, (by repeat (first | exact hkp | (refine Keeps.trans ?_ (Keeps.new _ _)) | (refine Keeps.set ?_ (by have := hkp.next; omega) _))), by simp; omega, _, fun v => if v = b then st2.next + 1 else tok v, by simp; rfl, ?_⟩
    rw [← e, hfin']
    refine hN.step b a (st2.next + 1) (by omega) (by simp) hmn (by omega) (by have := hkp.next; omega) (fun l e1 e2 e3 => ?_) (by rw [h1]; simp [Ne.symm hm5])
    have a1 : ¬ l = st2.next := by omega
    have a2 : ¬ l = st2.next + 1 := by omega
    simp [a1, a2, e1, e2]
  · obtain ⟨h1, h2, h3, h4, h5, h6⟩ := (hN b).2 h0
    have ht1 : ¬ tok b = st2.next := by omega
    have ht2 : ¬ st2.next = tok b := by omega
    have ht4 : ¬ m = tok b := fun h => h4 h.symm
    have ht5 : ¬ q = tok b := fun h => by rw [h, h5] at hq; cases hq
    (refine w_s [] [q, m] [(0, true), (1, true), (2, true), (3, true), (4, true), (5, true), (6, true), (7, true), (8, true), (9, true), (10, true), (11, false)] ?_; intro J hJ; simp [f3, f5, hq, hM, h1, h5, h0, hm2, hm5, hq2, hqm, ht1, ht2, ht4, ht5]; (repeat refine ca ?_); (try ((try with_reducible refine ⟨?_, ?_⟩) <;> (try with_reducible intro hnil) <;> refine hJ _ _ ?_ <;> clear hJ J <;> simp only [ak, reduceIte] <;> try subst hnil)))
    (repeat' (first | refine awp_seq ?_ | refine awp_block ?_ | ((first | refine awp_skip ?_ | refine awp_exit ?_); simp only [ak, reduceIte]) | (refine awp_ret ?_; simp only [ak, reduceIte]; simp [f10, hw]) | (refine awp_cond ?_; simp [f10, hw]; (try with_reducible refine ⟨?_, ?_⟩) <;> (try with_reducible intro hc) <;> try (exfalso; omega)) | ((first | (refine w_e [] ?_; intro J hJ; simp only []) | (refine w_q ?_; intro J hJ) | refine e_go ?_); simp [f10, hw]; (repeat refine ca ?_); (try ((try with_reducible refine ⟨?_, ?_⟩) <;> (try with_reducible intro hnil) <;> refine hJ _ _ ?_ <;> clear hJ J <;> simp only [ak, reduceIte] <;> try subst hnil)))))
    have e : LV.sl (st2.next + 1) ((f2 b).length + 1) (us (f2 b ++ [a])) = .sl (st2.next + 1) ((f2 b).length + 1) (us (f2 b) ++ [u a]) := by simp
    refine hJJ (l.length - (k + 1)) _ _ (by omega) ⟨k + 1, by omega, rfl, by simp [f3], by simp [f8], by simp [f9], by simp, (by repeat (first | exact hkp | (refine Keeps.trans ?_ (Keeps.new _ _)) | (refine Keeps.set ?_ (by have := hkp.next; omega) _))), by simp; omega, _, fun v => if v = b then st2.next + 1 else tok v, by simp; rfl, ?_⟩
    rw [← e, hfin']
    refine hN.step b a (st2.next + 1) (by omega) (by simp) hmn (by omega) (by have := hkp.next; omega) (fun l e1 e2 e3 => ?_) (by simp [Ne.symm hm5])
    have a1 : ¬ l = st2.next := by omega
    have a2 : ¬ l = st2.next + 1 := by omega
    simp [a1, a2, e1, e2]

theorem RowsAt.cases {es : List (List Int × LV)} {f : Int → List Int} (h : RowsAt es f) (v : Int) : ((mget es [v]).getD .nil = .nil ∧ f v = []) ∨ ∃ t, (mget es [v]).getD .nil = .sl t (f v).length (us (f v)) := by
  obtain ⟨t, ht⟩ := h v
  cases hx : (mget es [v]).getD .nil with
  | nil =>
    rw [hx] at ht
    left
    refine ⟨rfl, ?_⟩
    simp only [norm, LV.sl.injEq] at ht
    exact List.eq_nil_of_length_eq_zero ht.2.1.symm
  | _ => rw [hx] at ht; simp [norm] at ht <;> exact .inr ⟨t, by simp [ht]⟩

def alone (g : Gr) : Nat := g.vs.countP fun v => decide (nbr g.es v = [])
end Go.Proofs.YtomfeddgeihipaaGreat.Aw

namespace Go.Proofs.YtomfeddgeihipaaGreat.Aw
open Go Go.RowKit Go.Proofs.YtomfeddgeihipaaGreat.Pl
set_option linter.unusedSimpArgs false
set_option linter.unusedVariables false

inductive Reach (es : List Ed) (v : Int) : Int → Prop
  | refl : Reach es v v
  | step {u w : Int} (h : Reach es v u) (hw : w ∈ nbr es u) : Reach es v w

theorem mem_nbr {es : List Ed} {u w : Int} : w ∈ nbr es u ↔ ∃ x ∈ es, (x.a = u ∧ x.b = w) ∨ (x.b = u ∧ x.a = w) := by
  unfold nbr nbr1
  simp only [List.mem_flatMap, List.mem_append]
  constructor
  · rintro ⟨x, hx, h | h⟩
    · refine ⟨x, hx, .inl ?_⟩
      split at h
      · rename_i h1; simp at h; exact ⟨h1, h.symm⟩
      · cases h
    · refine ⟨x, hx, .inr ?_⟩
      split at h
      · rename_i h1; simp at h; exact ⟨h1, h.symm⟩
      · cases h
  · rintro ⟨x, hx, ⟨h1, h2⟩ | ⟨h1, h2⟩⟩
    · exact ⟨x, hx, .inl (by simp [h1, h2])⟩
    · exact ⟨x, hx, .inr (by simp [h1, h2])⟩
theorem nbr_symm {es : List Ed} {u w : Int} (h : w ∈ nbr es u) : u ∈ nbr es w := by
  rw [mem_nbr] at h ⊢
  obtain ⟨x, hx, ⟨h1, h2⟩ | ⟨h1, h2⟩⟩ := h
  · exact ⟨x, hx, .inr ⟨h2, h1⟩⟩
  · exact ⟨x, hx, .inl ⟨h2, h1⟩⟩
theorem Reach.trans {es : List Ed} {u v w : Int} (h : Reach es u v) (k : Reach es v w) : Reach es u w := by
  induction k with
  | refl => exact h
  | step _ hw ih => exact .step ih hw
theorem Reach.symm {es : List Ed} {u v : Int} (h : Reach es u v) : Reach es v u := by
  induction h with
  | refl => exact .refl
  | step _ hw ih => exact Reach.trans (.step .refl (nbr_symm hw)) ih
theorem Reach.closed {es : List Ed} {v w : Int} {L : Int → Prop} (h : Reach es v w) (hv : L v) (hc : ∀ u, L u → ∀ w ∈ nbr es u, L w) : L w := by
  induction h with
  | refl => exact hv
  | step _ hw ih => exact hc _ ih _ hw

/-- A graph's vertices rise, and edges end at them. -/
structure Good (g : Gr) : Prop where
  rise : g.vs.Pairwise (· < ·)
  ends : ∀ x ∈ g.es, x.a ∈ g.vs ∧ x.b ∈ g.vs
theorem Good.nbr {g : Gr} (h : Good g) {u w : Int} (hw : w ∈ nbr g.es u) : w ∈ g.vs := by
  rw [mem_nbr] at hw
  obtain ⟨x, hx, ⟨_, rfl⟩ | ⟨_, rfl⟩⟩ := hw
  · exact (h.ends x hx).2
  · exact (h.ends x hx).1
theorem Good.reach {g : Gr} (h : Good g) {v w : Int} (hv : v ∈ g.vs) (hr : Reach g.es v w) : w ∈ g.vs := by
  cases hr with
  | refl => exact hv
  | step _ hw => exact h.nbr hw
theorem Good.nodup {g : Gr} (h : Good g) : g.vs.Nodup := h.rise.imp fun h => by omega

/-- A row that has just what hangs together with a vertex, rising. -/
def IsPart (g : Gr) (v : Int) (c : List Int) : Prop := c.Pairwise (· < ·) ∧ ∀ w, w ∈ c ↔ w ∈ g.vs ∧ Reach g.es v w
/-- Seen from the first vertices. -/
def Seen (g : Gr) (k : Nat) (w : Int) : Prop := ∃ u ∈ g.vs.take k, Reach g.es u w
theorem take_lt {l : List Int} (h : l.Pairwise (· < ·)) {k : Nat} (hk : k < l.length) {u : Int} : u ∈ l.take k ↔ u ∈ l ∧ u < l.getD k 0 := by
  rw [getD_lt _ _ hk]
  constructor
  · intro hu
    obtain ⟨j, hj, rfl⟩ := List.getElem_of_mem hu
    rw [List.length_take] at hj
    rw [List.getElem_take]
    exact ⟨List.getElem_mem _, List.pairwise_iff_getElem.1 h j k (by omega) hk (by omega)⟩
  · rintro ⟨hu, hlt⟩
    obtain ⟨j, hj, rfl⟩ := List.getElem_of_mem hu
    have hjk : j < k := by
      rcases Nat.lt_trichotomy j k with h1 | h1 | h1
      · exact h1
      · subst h1; omega
      · have := List.pairwise_iff_getElem.1 h k j hk hj h1; omega
    rw [List.mem_take_iff_getElem]
    exact ⟨j, by omega, rfl⟩
theorem Seen.reach {g : Gr} {k : Nat} {u w : Int} (h : Seen g k u) (hr : Reach g.es u w) : Seen g k w := by
  obtain ⟨x, hx, hy⟩ := h
  exact ⟨x, hx, hy.trans hr⟩
/-- The parts, as they come from the first vertices. -/
inductive PartsTo (g : Gr) : Nat → List (List Int) → Prop
  | zero : PartsTo g 0 []
  | seen {k : Nat} {R : List (List Int)} (h : PartsTo g k R) (hk : k < g.vs.length) (hs : Seen g k (g.vs.getD k 0)) : PartsTo g (k + 1) R
  | lead {k : Nat} {R : List (List Int)} {c : List Int} (h : PartsTo g k R) (hk : k < g.vs.length) (hs : ¬ Seen g k (g.vs.getD k 0)) (hc : IsPart g (g.vs.getD k 0) c) : PartsTo g (k + 1) (R ++ [c])
theorem PartsTo.len {g : Gr} {k : Nat} {R : List (List Int)} (h : PartsTo g k R) : R.length ≤ k := by
  induction h with
  | zero => simp
  | seen _ _ _ ih => omega
  | lead _ _ _ _ ih => simp; omega

/-! ### a search -/
structure Srch (g : Gr) (n : Nat) (v : Int) (L : List Int) (k : Nat) : Prop where
  nodup : L.Nodup
  reach : ∀ w ∈ L, Reach g.es v w
  mem : v ∈ L
  done : ∀ u ∈ L.take k, ∀ w ∈ nbr g.es u, w ∈ L
theorem Srch.all {g : Gr} {n : Nat} {v : Int} {L : List Int} (h : Srch g n v L L.length) : ∀ w, w ∈ L ↔ Reach g.es v w := by
  intro w
  refine ⟨h.reach w, fun hr => ?_⟩
  exact hr.closed (L := fun w => w ∈ L) h.mem fun u hu w hw => h.done u (by rw [List.take_length]; exact hu) w hw
theorem Srch.sub {g : Gr} (hg : Good g) {n : Nat} {v : Int} {L : List Int} {k : Nat} (h : Srch g n v L k) (hv : v ∈ g.vs) : L.length ≤ g.vs.length := by
  exact List.Nodup.length_le_of_subset h.nodup fun w hw => hg.reach hv (h.reach w hw)

end Go.Proofs.YtomfeddgeihipaaGreat.Aw

namespace Go.Proofs.YtomfeddgeihipaaGreat.Aw
open Go Go.RowKit Go.Proofs.YtomfeddgeihipaaGreat.Pl
set_option linter.unusedSimpArgs false
set_option linter.unusedVariables false

abbrev rowsL3 (rs : List (List Int)) : List LV := rs.map fun r => .sl 0 r.length (us r)

structure SrchI (g : Gr) (v : Int) (L : List Int) (k : Nat) (x : Int) (j : Nat) : Prop where
  nodup : L.Nodup
  reach : ∀ w ∈ L, Reach g.es v w
  mem : v ∈ L
  done : ∀ u ∈ L.take k, ∀ w ∈ nbr g.es u, w ∈ L
  lt : k < L.length
  at' : L.getD k 0 = x
  some : ∀ w ∈ (nbr g.es x).take j, w ∈ L
theorem Srch.start {g : Gr} {n : Nat} {v : Int} {L : List Int} {k : Nat} (h : Srch g n v L k) (hk : k < L.length) : SrchI g v L k (L.getD k 0) 0 :=
  ⟨h.nodup, h.reach, h.mem, h.done, hk, rfl, fun w hw => by simp at hw⟩
theorem SrchI.skip {g : Gr} {v : Int} {L : List Int} {k : Nat} {x : Int} {j : Nat} (h : SrchI g v L k x j) (hj : j < (nbr g.es x).length) (hw : (nbr g.es x).getD j 0 ∈ L) : SrchI g v L k x (j + 1) := by
  refine ⟨h.nodup, h.reach, h.mem, h.done, h.lt, h.at', fun w hw2 => ?_⟩
  rw [List.take_succ_eq_append_getElem hj, List.mem_append, List.mem_singleton] at hw2
  rcases hw2 with hw2 | rfl
  · exact h.some w hw2
  · rwa [getD_lt _ _ hj] at hw
theorem SrchI.push {g : Gr} {v : Int} {L : List Int} {k : Nat} {x : Int} {j : Nat} (h : SrchI g v L k x j) (hj : j < (nbr g.es x).length) (hw : (nbr g.es x).getD j 0 ∉ L) : SrchI g v (L ++ [(nbr g.es x).getD j 0]) k x (j + 1) := by
  have hx : x ∈ L := by rw [← h.at', getD_lt _ _ h.lt]; exact List.getElem_mem _
  refine ⟨?_, fun w hw2 => ?_, List.mem_append_left _ h.mem, fun u hu w hw2 => ?_, ?_, ?_, fun w hw2 => ?_⟩
  · rw [List.nodup_append]
    refine ⟨h.nodup, by simp, fun a ha b hb => ?_⟩
    rw [List.mem_singleton] at hb
    rintro rfl
    exact hw (hb ▸ ha)
  · rw [List.mem_append, List.mem_singleton] at hw2
    rcases hw2 with hw2 | rfl
    · exact h.reach w hw2
    · exact .step (h.reach x hx) (by rw [getD_lt _ _ hj]; exact List.getElem_mem _)
  · rw [List.take_append_of_le_length (by have := h.lt; omega)] at hu
    exact List.mem_append_left _ (h.done u hu w hw2)
  · have := h.lt; simp; omega
  · rw [← h.at']
    have := h.lt
    simp [List.getD_eq_getElem?_getD, List.getElem?_append_left this]
  · rw [List.take_succ_eq_append_getElem hj, List.mem_append, List.mem_singleton] at hw2
    rw [getD_lt _ _ hj]
    rcases hw2 with hw2 | rfl
    · exact List.mem_append_left _ (h.some w hw2)
    · exact List.mem_append_right _ (List.mem_singleton.2 rfl)
theorem SrchI.len {g : Gr} (hg : Good g) {v : Int} {L : List Int} {k : Nat} {x : Int} {j : Nat} (h : SrchI g v L k x j) (hv : v ∈ g.vs) : L.length ≤ g.vs.length :=
  List.Nodup.length_le_of_subset h.nodup fun w hw => hg.reach hv (h.reach w hw)

/-- Which numbers a map of 1's has. -/
def SeenI (es : List (List Int × LV)) (P : Int → Prop) : Prop := ∀ v, (P v → (mget es [v]).getD (i 0) = i 1) ∧ (¬ P v → (mget es [v]).getD (i 0) = i 0)
theorem SeenI.step {es : List (List Int × LV)} {P P' : Int → Prop} (h : SeenI es P) (w : Int) (hp : ∀ v, P' v ↔ P v ∨ v = w) : SeenI (mset es [w] (i 1)) P' := by
  intro v
  rw [mget_mset]
  by_cases hv : v = w
  · subst hv
    simp only [if_true, Option.getD_some]
    exact ⟨fun _ => by trivial, fun h1 => absurd ((hp v).2 (.inr rfl)) h1⟩
  · rw [if_neg (by simpa using hv), hp]
    exact ⟨fun h1 => (h v).1 (h1.resolve_right hv), fun h1 => (h v).2 fun h2 => h1 (.inl h2)⟩
theorem SeenI.congr {es : List (List Int × LV)} {P P' : Int → Prop} (h : SeenI es P) (hp : ∀ v, P' v ↔ P v) : SeenI es P' := fun v => by rw [hp]; exact h v

def PtF (m ms : Nat) (es : List (List Int × LV)) (n : Nat) (g : Gr) (st : St) (j : Nat) (P : Int → Prop) (fr : Frm) (st2 : St) : Prop :=
  fr 4 = .mp m ∧ fr 5 = .mp ms ∧ fr 16 = .sl 0 g.vs.length (us g.vs) ∧ fr 17 = i g.vs.length ∧ fr 18 = i j ∧ (m < ms ∧ ms < st2.next ∧ st.next ≤ m) ∧ st2.H m = .map false [.u32] es ∧ Keeps st st2 ∧ (∃ es2, st2.H ms = .map false [.u32] es2 ∧ SeenI es2 P) ∧
    ∃ t R, fr 3 = .sl t R.length (rowsL3 R) ∧ PartsTo g j R ∧ t ≠ 0 ∧ st.next ≤ t ∧ t < st2.next ∧ st2.H t = .own 35 1 R.length
def PtL (m ms : Nat) (es : List (List Int × LV)) (n : Nat) (g : Gr) (st : St) (j : Nat) (v : Int) (L : List Int) (fr : Frm) (st2 : St) : Prop :=
  PtF m ms es n g st j (fun w => Seen g j w ∨ w ∈ L) fr st2 ∧ ∃ q, fr 8 = .ms q 0 L.length ∧ st2.H q = .box 41 1 (us L) ∧ st.next ≤ q ∧ q < st2.next

theorem PtL.fr {m ms : Nat} {es : List (List Int × LV)} {n : Nat} {g : Gr} {st : St} {j : Nat} {v : Int} {L : List Int} {fr fr' : Frm} {st2 : St} (h : PtL m ms es n g st j v L fr st2) (h3 : fr' 3 = fr 3) (h4 : fr' 4 = fr 4) (h5 : fr' 5 = fr 5) (h8 : fr' 8 = fr 8) (h16 : fr' 16 = fr 16) (h17 : fr' 17 = fr 17) (h18 : fr' 18 = fr 18) : PtL m ms es n g st j v L fr' st2 := by
  obtain ⟨⟨f4, f5, f16, f17, f18, a, b, c, d, t, R, f3, r⟩, q, f8, r2⟩ := h
  exact ⟨⟨h4.trans f4, h5.trans f5, h16.trans f16, h17.trans f17, h18.trans f18, a, b, c, d, t, R, h3.trans f3, r⟩, q, h8.trans f8, r2⟩

end Go.Proofs.YtomfeddgeihipaaGreat.Aw

namespace Go.Proofs.YtomfeddgeihipaaGreat.Aw
open Go Go.RowKit Go.Proofs.YtomfeddgeihipaaGreat.Pl
set_option linter.unusedSimpArgs false
set_option linter.unusedVariables false

/-- Which numbers a map of truths has. -/
def InI (es : List (List Int × LV)) (S : List Int) : Prop := ∀ v, (mget es [v]).getD (bb false) = bb (decide (v ∈ S))
theorem InI.step {es : List (List Int × LV)} {S : List Int} (h : InI es S) (w : Int) : InI (mset es [w] (bb true)) (S ++ [w]) := by
  intro v
  rw [mget_mset]
  by_cases hv : v = w
  · subst hv; simp
  · rw [if_neg (by simpa using hv), h v]; simp [hv]
theorem InI.congr {es : List (List Int × LV)} {S S' : List Int} (h : InI es S) (hs : ∀ v, v ∈ S' ↔ v ∈ S) : InI es S' := fun v => by
  rw [h v, show decide (v ∈ S') = decide (v ∈ S) from decide_eq_decide.2 (hs v)]

structure Flood (g : Gr) (v : Int) (S : List Int) : Prop where
  nodup : S.Nodup
  mem : v ∈ S
  reach : ∀ w ∈ S, Reach g.es v w
theorem Flood.len {g : Gr} (hg : Good g) {v : Int} (hv : v ∈ g.vs) {S : List Int} (h : Flood g v S) : S.length ≤ g.vs.length :=
  List.Nodup.length_le_of_subset h.nodup fun w hw => hg.reach hv (h.reach w hw)
theorem Flood.push {g : Gr} {v : Int} {S : List Int} (h : Flood g v S) {x : Ed} (hx : x ∈ g.es) {u w : Int} (hu : u ∈ S) (hw : w ∉ S) (hxw : (x.a = u ∧ x.b = w) ∨ (x.b = u ∧ x.a = w)) : Flood g v (S ++ [w]) := by
  refine ⟨?_, List.mem_append_left _ h.mem, fun z hz => ?_⟩
  · rw [List.nodup_append]
    refine ⟨h.nodup, by simp, fun a ha b hb => ?_⟩
    rw [List.mem_singleton] at hb
    rintro rfl
    exact hw (hb ▸ ha)
  · rw [List.mem_append, List.mem_singleton] at hz
    rcases hz with hz | rfl
    · exact h.reach z hz
    · exact .step (h.reach u hu) (mem_nbr.2 ⟨x, hx, hxw⟩)
def Even (es : List Ed) (S : List Int) : Prop := ∀ x ∈ es, (x.a ∈ S ↔ x.b ∈ S)
theorem Flood.part {g : Gr} (hg : Good g) {v : Int} {S : List Int} (h : Flood g v S) (he : Even g.es S) : IsPart g v (g.vs.filter fun w => decide (w ∈ S)) := by
  refine ⟨hg.rise.filter _, fun w => ?_⟩
  rw [List.mem_filter, decide_eq_true_eq]
  refine ⟨fun hw => ⟨hw.1, h.reach w hw.2⟩, fun hw => ⟨hw.1, ?_⟩⟩
  refine hw.2.closed (L := fun w => w ∈ S) h.mem fun u hu w hw => ?_
  obtain ⟨x, hx, ⟨rfl, rfl⟩ | ⟨rfl, rfl⟩⟩ := mem_nbr.1 hw
  · exact (he x hx).1 hu
  · exact (he x hx).2 hu

def RpI (ms : Nat) (g : Gr) (st : St) (S : List Int) (fr : Frm) (st2 : St) : Prop :=
  fr 2 = .pt st.next 0 ∧ fr 5 = .mp ms ∧ st.next < ms ∧ ms < st2.next ∧ Keeps st st2 ∧ st2.H st.next = .box 38 2 (grL g) ∧ ∃ es, st2.H ms = .map false [.u32] es ∧ InI es S
theorem RpI.fr {ms : Nat} {g : Gr} {st : St} {S : List Int} {fr fr' : Frm} {st2 : St} (h : RpI ms g st S fr st2) (h2 : fr' 2 = fr 2) (h5 : fr' 5 = fr 5) : RpI ms g st S fr' st2 :=
  ⟨h2.trans h.1, h5.trans h.2.1, h.2.2⟩

end Go.Proofs.YtomfeddgeihipaaGreat.Aw

namespace Go.Proofs.YtomfeddgeihipaaGreat.Aw
open Go Go.RowKit Go.Proofs.YtomfeddgeihipaaGreat.Pl
set_option linter.unusedSimpArgs false
set_option linter.unusedVariables false

theorem IsPart.seen {g : Gr} (hg : Good g) {k : Nat} (hk : k < g.vs.length) {x : Int} {c : List Int} (h : IsPart g (g.vs.getD k 0) (x :: c)) : Seen g k (g.vs.getD k 0) ↔ x ≠ g.vs.getD k 0 := by
  have hvin : g.vs.getD k 0 ∈ g.vs := by rw [getD_lt _ _ hk]; exact List.getElem_mem hk
  obtain ⟨h1, h2⟩ := h
  have hmin : ∀ w ∈ x :: c, x ≤ w := by
    intro w hw
    rw [List.mem_cons] at hw
    rcases hw with rfl | hw
    · omega
    · have := (List.pairwise_cons.1 h1).1 w hw; omega
  have hxin := (h2 x).1 (List.mem_cons_self ..)
  constructor
  · rintro ⟨u, hu, hr⟩ he
    obtain ⟨k1, k2⟩ := (take_lt hg.rise hk).1 hu
    have := hmin u ((h2 u).2 ⟨k1, hr.symm⟩)
    omega
  · intro hne
    have := hmin _ ((h2 _).2 ⟨hvin, .refl⟩)
    exact ⟨x, (take_lt hg.rise hk).2 ⟨hxin.1, by omega⟩, hxin.2.symm⟩

/-- An edge's place. -/
def fe (l : List Ed) (id : Int) : Int := if l.any (fun x => decide (x.id = id)) then (l.findIdx (fun x => decide (x.id = id)) : Int) else -1
end Go.Proofs.YtomfeddgeihipaaGreat.Aw

namespace Go.Proofs.YtomfeddgeihipaaGreat.Aw
open Go Go.RowKit Go.Proofs.YtomfeddgeihipaaGreat.Pl
set_option linter.unusedSimpArgs false
set_option linter.unusedVariables false

def TestE (f : FuncId) (caps : List LV) (st : St) (l : List Ed) (p : Ed → Bool) : Prop := ∀ x ∈ l, ∀ st2, Keeps st st2 → ACalls Tryz.prog f (.ag (edL x) :: caps) st2 fun r st3 => r = bb (p x) ∧ Keeps st2 st3

def odd1 (o : Bool) (x : Ed) : Bool := decide (x.id % 2 = 1) == o
theorem filter_takeE (l : List Ed) (p : Ed → Bool) (k : Nat) (hk : k < l.length) : (l.take (k + 1)).filter p = if p (l.getD k ed0) = true then (l.take k).filter p ++ [l.getD k ed0] else (l.take k).filter p := by
  rw [List.take_succ_eq_append_getElem hk, List.filter_append, List.getD_eq_getElem?_getD, List.getElem?_eq_getElem hk]
  by_cases h : p l[k] = true <;> simp [h]

/-- A row of edges, or none. -/
def RowE (X : LV) (F : List Ed) : Prop := (X = .nil ∧ F = []) ∨ ∃ t, X = .sl t F.length (eds F)

set_option maxHeartbeats 1000000 in
theorem Keep (g : Gr) (f : FuncId) (caps : List LV) (p : Ed → Bool) (st : St) (hv : g.vs.length ≤ 1000) (he : g.es.length ≤ 1000) (hp : TestE f caps st g.es p) :
    ACalls Tryz.prog 63 [.ag (grL g), .fn (.func f) caps] st fun r st' => (∃ X, r = .ag [.sl 0 g.vs.length (us g.vs), X] ∧ RowE X (g.es.filter p)) ∧ Keeps st st' := by
  have hel := eds_length g.es
  have hsm : small g.vs := by unfold small; omega
  refine acalls_of_body tabOk Tryz.func63 rfl rfl Tryz.ntmps63 (rs := [.cell 4 38]) rfl (by simp) ?_
  (repeat' (first | refine awp_seq ?_ | refine awp_block ?_ | ((first | refine awp_skip ?_ | refine awp_exit ?_); simp only [ak, reduceIte]) | (refine awp_ret ?_; simp only [ak, reduceIte]; simp []) | (refine awp_cond ?_; simp []; (try with_reducible refine ⟨?_, ?_⟩) <;> (try with_reducible intro hc) <;> try (exfalso; omega)) | ((first | (refine w_e [] ?_; intro J hJ; simp only []) | (refine w_q ?_; intro J hJ) | refine e_go ?_); simp []; (repeat refine ca ?_); (try ((try with_reducible refine ⟨?_, ?_⟩) <;> (try with_reducible intro hnil) <;> refine hJ _ _ ?_ <;> clear hJ J <;> simp only [ak, reduceIte] <;> try subst hnil)))))
  refine callK_ofE (Clone g.vs 0 _ hsm) (by simp) ?_; rintro r s1 ⟨rfl, hk1⟩
  have hn1 := hk1.next
  simp only [new_next] at hn1
  have hG1 : s1.H st.next = .box 38 2 (grL g) := by rw [hk1.H _ (by simp; omega)]; simp
  have hC1 : s1.H (st.next + 1) = .box 38 2 [.nil, .nil] := by rw [hk1.H _ (by simp)]; simp
  have e1 : ¬ st.next = s1.next := by omega
  (repeat' (first | refine awp_seq ?_ | refine awp_block ?_ | ((first | refine awp_skip ?_ | refine awp_exit ?_); simp only [ak, reduceIte]) | (refine awp_ret ?_; simp only [ak, reduceIte]; simp [hG1, e1]) | (refine awp_cond ?_; simp [hG1, e1]; (try with_reducible refine ⟨?_, ?_⟩) <;> (try with_reducible intro hc) <;> try (exfalso; omega)) | ((first | (refine w_e [] ?_; intro J hJ; simp only []) | (refine w_q ?_; intro J hJ) | refine e_go ?_); simp [hG1, e1]; (repeat refine ca ?_); (try ((try with_reducible refine ⟨?_, ?_⟩) <;> (try with_reducible intro hnil) <;> refine hJ _ _ ?_ <;> clear hJ J <;> simp only [ak, reduceIte] <;> try subst hnil)))))
  have hkp1 : Keeps st s1 := ((Keeps.new _ _).trans (Keeps.new _ _)).trans hk1
  obtain ⟨q4, hq4⟩ : ∃ q, q = st.next + 1 := ⟨_, rfl⟩
  obtain ⟨q5, hq5⟩ : ∃ q, q = s1.next := ⟨_, rfl⟩
  refine awp_loop (fun n fr st2 => ∃ k : Nat, k ≤ g.es.length ∧ n = g.es.length - k ∧ fr 1 = .fn (.func f) caps ∧ fr 4 = .pt q4 0 ∧ fr 5 = .pt q5 0 ∧ fr 13 = .sl 0 g.es.length (eds g.es) ∧ fr 14 = i g.es.length ∧ fr 15 = i k ∧ Keeps st st2 ∧ q5 < st2.next ∧ st2.H q4 = .box 38 2 [.nil, .nil] ∧ ∃ X, st2.H q5 = .box 38 2 [.sl 0 g.vs.length (us g.vs), X] ∧ ((X = .nil ∧ (g.es.take k).filter p = []) ∨ ∃ t, X = .sl t ((g.es.take k).filter p).length (eds ((g.es.take k).filter p)) ∧ t ≠ 0 ∧ q5 < t ∧ t < st2.next ∧ st2.H t = .own 43 3 ((g.es.take k).filter p).length)) g.es.length ?_ ?_
  · have e2 : ¬ q4 = s1.next := by omega
    have e3 : ¬ st.next + 1 = s1.next := by omega
    refine ⟨0, by omega, by omega, by simp, by simp [hq4], by simp [hq5], by simp, by simp, by simp, ?_, by simp [hq5], by simp [e2, hC1, hq4, e3], .nil, by simp [hq5], .inl ⟨rfl, by simp⟩⟩
    (repeat (first | exact hkp1 | (refine Keeps.trans ?_ (Keeps.new _ _)) | (refine Keeps.set ?_ (by omega) _)))
  rintro n fr st2 ⟨k, hk, rfl, f1, f4, f5, f13, f14, f15, hkp, h5n, hC, X, hX, hXs⟩ JJ hJJ
  have e0 : ¬ q4 = q5 := by omega
  by_cases hlt : k < g.es.length
  rotate_left
  · clear hJJ
    have hk' : k = g.es.length := by omega
    rw [hk', List.take_length] at hXs
    rcases hXs with ⟨rfl, h⟩ | ⟨t, rfl, h⟩
    · (repeat' (first | refine awp_seq ?_ | refine awp_block ?_ | ((first | refine awp_skip ?_ | refine awp_exit ?_); simp only [ak, reduceIte]) | (refine awp_ret ?_; simp only [ak, reduceIte]; simp [f4, f5, f14, f15, hlt, hX, hC, e0]) | (refine awp_cond ?_; simp [f4, f5, f14, f15, hlt, hX, hC, e0]; (try with_reducible refine ⟨?_, ?_⟩) <;> (try with_reducible intro hc) <;> try (exfalso; omega)) | ((first | (refine w_e [] ?_; intro J hJ; simp only []) | (refine w_q ?_; intro J hJ) | refine e_go ?_); simp [f4, f5, f14, f15, hlt, hX, hC, e0]; (repeat refine ca ?_); (try ((try with_reducible refine ⟨?_, ?_⟩) <;> (try with_reducible intro hnil) <;> refine hJ _ _ ?_ <;> clear hJ J <;> simp only [ak, reduceIte] <;> try subst hnil)))))
      exact ⟨.inl ⟨rfl, h⟩, (by repeat (first | exact hkp | (refine Keeps.trans ?_ (Keeps.new _ _)) | (refine Keeps.set ?_ (by have := hkp.next; omega) _)))⟩
    · (repeat' (first | refine awp_seq ?_ | refine awp_block ?_ | ((first | refine awp_skip ?_ | refine awp_exit ?_); simp only [ak, reduceIte]) | (refine awp_ret ?_; simp only [ak, reduceIte]; simp [f4, f5, f14, f15, hlt, hX, hC, e0]) | (refine awp_cond ?_; simp [f4, f5, f14, f15, hlt, hX, hC, e0]; (try with_reducible refine ⟨?_, ?_⟩) <;> (try with_reducible intro hc) <;> try (exfalso; omega)) | ((first | (refine w_e [] ?_; intro J hJ; simp only []) | (refine w_q ?_; intro J hJ) | refine e_go ?_); simp [f4, f5, f14, f15, hlt, hX, hC, e0]; (repeat refine ca ?_); (try ((try with_reducible refine ⟨?_, ?_⟩) <;> (try with_reducible intro hnil) <;> refine hJ _ _ ?_ <;> clear hJ J <;> simp only [ak, reduceIte] <;> try subst hnil)))))
      exact ⟨.inr ⟨t, rfl⟩, (by repeat (first | exact hkp | (refine Keeps.trans ?_ (Keeps.new _ _)) | (refine Keeps.set ?_ (by have := hkp.next; omega) _)))⟩
  have hd := eds_drop g.es k hlt
  have hw := nat_add_one k (by omega)
  have hk3 : k * 3 < g.es.length * 3 := by omega
  have hxin : g.es.getD k ed0 ∈ g.es := by rw [List.getD_eq_getElem?_getD, List.getElem?_eq_getElem hlt]; exact List.getElem_mem hlt
  have hst := filter_takeE g.es p k hlt
  have hle := List.length_filter_le p (g.es.take k)
  rw [List.length_take] at hle
  have htest := fun s h => hp _ hxin s h
  generalize hx : g.es.getD k ed0 = x at *
  generalize hFF : (g.es.take k).filter p = F at *
  have hFl := eds_length F
  have hFo : (eds F).length = F.length * 3 := hFl
  obtain ⟨d, a, b⟩ := x
  simp only at hd htest
  (repeat' (first | refine awp_seq ?_ | refine awp_block ?_ | ((first | refine awp_skip ?_ | refine awp_exit ?_); simp only [ak, reduceIte]) | (refine awp_ret ?_; simp only [ak, reduceIte]; simp [f1, f13, f14, f15, hlt, hd, hel]) | (refine awp_cond ?_; simp [f1, f13, f14, f15, hlt, hd, hel]; (try with_reducible refine ⟨?_, ?_⟩) <;> (try with_reducible intro hc) <;> try (exfalso; omega)) | ((first | (refine w_e [] ?_; intro J hJ; simp only []) | (refine w_q ?_; intro J hJ) | refine e_go ?_); simp [f1, f13, f14, f15, hlt, hd, hel]; (repeat refine ca ?_); (try ((try with_reducible refine ⟨?_, ?_⟩) <;> (try with_reducible intro hnil) <;> refine hJ _ _ ?_ <;> clear hJ J <;> simp only [ak, reduceIte] <;> try subst hnil)))))
  refine callK_of (htest _ (hkp.trans (Keeps.new _ (.box 43 3 [u d, u a, u b])))) ?_; rintro r s3 ⟨rfl, hk3'⟩
  have hn3 := hk3'.next
  simp only [new_next] at hn3
  have hkk : Keeps st2 s3 := (Keeps.new _ _).trans hk3'
  have hX3 := (hkk.H q5 h5n).trans hX
  have hC3 := (hkk.H q4 (by omega)).trans hC
  have hE3 : s3.H st2.next = .box 43 3 [u d, u a, u b] := by rw [hk3'.H _ (by simp)]; simp
  have hkp3 : Keeps st s3 := (hkp.trans (Keeps.new _ _)).trans hk3'
  have z1 : ¬ q5 = s3.next := by omega
  have z2 : ¬ q5 = s3.next + 1 := by omega
  have z3 : ¬ q4 = s3.next := by omega
  have z4 : ¬ q4 = s3.next + 1 := by omega
  have z5 : ¬ s3.next + 1 = q5 := by omega
  by_cases hpx : p ⟨d, a, b⟩ = true
  rotate_left
  · rw [if_neg hpx] at hst
    have hpx : p ⟨d, a, b⟩ = false := by simpa using hpx
    (repeat' (first | refine awp_seq ?_ | refine awp_block ?_ | ((first | refine awp_skip ?_ | refine awp_exit ?_); simp only [ak, reduceIte]) | (refine awp_ret ?_; simp only [ak, reduceIte]; simp [hpx, f15, hw]) | (refine awp_cond ?_; simp [hpx, f15, hw]; (try with_reducible refine ⟨?_, ?_⟩) <;> (try with_reducible intro hc) <;> try (exfalso; omega)) | ((first | (refine w_e [] ?_; intro J hJ; simp only []) | (refine w_q ?_; intro J hJ) | refine e_go ?_); simp [hpx, f15, hw]; (repeat refine ca ?_); (try ((try with_reducible refine ⟨?_, ?_⟩) <;> (try with_reducible intro hnil) <;> refine hJ _ _ ?_ <;> clear hJ J <;> simp only [ak, reduceIte] <;> try subst hnil)))))
    refine hJJ (g.es.length - (k + 1)) _ _ (by omega) ⟨k + 1, by omega, rfl, by simp [f1], by simp [f4], by simp [f5], by simp [f13], by simp [f14], by simp, hkp3, by omega, hC3, X, hX3, ?_⟩
    rw [hst]
    rcases hXs with h | ⟨t, h, h0, h1, h2, h3⟩
    · exact .inl h
    · exact .inr ⟨t, h, h0, h1, by omega, (hkk.H t h2).trans h3⟩
  rw [if_pos hpx] at hst
  have hed : eds (F ++ [⟨d, a, b⟩]) = eds F ++ [u d, u a, u b] := by simp [eds]
  rcases hXs with ⟨rfl, hF0⟩ | ⟨t, rfl, h0, h1, h2, h3⟩
  · (repeat' (first | refine awp_seq ?_ | refine awp_block ?_ | ((first | refine awp_skip ?_ | refine awp_exit ?_); simp only [ak, reduceIte]) | (refine awp_ret ?_; simp only [ak, reduceIte]; simp [hpx, f5, f15, hw, hX3, hE3, z1, z2]) | (refine awp_cond ?_; simp [hpx, f5, f15, hw, hX3, hE3, z1, z2]; (try with_reducible refine ⟨?_, ?_⟩) <;> (try with_reducible intro hc) <;> try (exfalso; omega)) | ((first | (refine w_e [] ?_; intro J hJ; simp only []) | (refine w_q ?_; intro J hJ) | refine e_go ?_); simp [hpx, f5, f15, hw, hX3, hE3, z1, z2]; (repeat refine ca ?_); (try ((try with_reducible refine ⟨?_, ?_⟩) <;> (try with_reducible intro hnil) <;> refine hJ _ _ ?_ <;> clear hJ J <;> simp only [ak, reduceIte] <;> try subst hnil)))))
    refine hJJ (g.es.length - (k + 1)) _ _ (by omega) ⟨k + 1, by omega, rfl, by simp [f1], by simp [f4], by simp [f5], by simp [f13], by simp [f14], by simp, ?_, by simp; omega, by simp [e0, z3, z4, hC3], _, by simp; rfl, .inr ⟨s3.next + 1, by rw [hst, hed, hF0]; simp [eds], by omega, by omega, by simp, by rw [hst, hF0]; simp [z5]⟩⟩
    (repeat (first | exact hkp3 | (refine Keeps.trans ?_ (Keeps.new _ _)) | (refine Keeps.set ?_ (by omega) _)))
  · have h3' : s3.H t = .own 43 3 F.length := (hkk.H t h2).trans h3
    have y1 : ¬ t = s3.next := by omega
    have y2 : ¬ t = s3.next + 1 := by omega
    have y3 : ¬ q5 = t := by omega
    have y4 : ¬ t = q5 := by omega
    have y5 : ¬ q4 = t := by omega
    (repeat' (first | refine awp_seq ?_ | refine awp_block ?_ | ((first | refine awp_skip ?_ | refine awp_exit ?_); simp only [ak, reduceIte]) | (refine awp_ret ?_; simp only [ak, reduceIte]; simp [hpx, f5, f15, hw, hX3, hE3, z1, z2, h3', h0, y1, y2, y3, y4, hFo]) | (refine awp_cond ?_; simp [hpx, f5, f15, hw, hX3, hE3, z1, z2, h3', h0, y1, y2, y3, y4, hFo]; (try with_reducible refine ⟨?_, ?_⟩) <;> (try with_reducible intro hc) <;> try (exfalso; omega)) | ((first | (refine w_e [] ?_; intro J hJ; simp only []) | (refine w_q ?_; intro J hJ) | refine e_go ?_); simp [hpx, f5, f15, hw, hX3, hE3, z1, z2, h3', h0, y1, y2, y3, y4, hFo]; (repeat refine ca ?_); (try ((try with_reducible refine ⟨?_, ?_⟩) <;> (try with_reducible intro hnil) <;> refine hJ _ _ ?_ <;> clear hJ J <;> simp only [ak, reduceIte] <;> try subst hnil)))))
    refine hJJ (g.es.length - (k + 1)) _ _ (by omega) ⟨k + 1, by omega, rfl, by simp [f1], by simp [f4], by simp [f5], by simp [f13], by simp [f14], by simp, ?_, by simp; omega, by simp [e0, z3, z4, y5, hC3], _, by simp; rfl, .inr ⟨s3.next + 1, by rw [hst, hed]; simp, by omega, by omega, by simp, by rw [hst]; simp [z5]⟩⟩
    (repeat (first | exact hkp3 | (refine Keeps.trans ?_ (Keeps.new _ _)) | (refine Keeps.set ?_ (by omega) _)))

end Go.Proofs.YtomfeddgeihipaaGreat.Aw

namespace Go.Proofs.YtomfeddgeihipaaGreat.Aw
open Go Go.RowKit Go.Proofs.YtomfeddgeihipaaGreat.Pl
set_option linter.unusedSimpArgs false
set_option linter.unusedVariables false

/-! ### the least number that stands twice -/
/-- b is the least number that stands twice; 0: there is none. -/
def MinDup (c : List Int) (b : Int) : Prop := (b = 0 ∧ ∀ d, c.count d ≤ 1) ∨ (b ≠ 0 ∧ 2 ≤ c.count b ∧ ∀ d, 2 ≤ c.count d → b ≤ d)
theorem MinDup.perm {c d : List Int} {b : Int} (h : MinDup c b) (p : c.Perm d) : MinDup d b := by
  have e : ∀ x, d.count x = c.count x := fun x => (p.count_eq x).symm
  rcases h with ⟨h1, h2⟩ | ⟨h1, h2, h3⟩
  · exact .inl ⟨h1, fun x => by rw [e]; exact h2 x⟩
  · exact .inr ⟨h1, by rw [e]; exact h2, fun x hx => h3 x (by rw [← e]; exact hx)⟩
theorem MinDup.nil : MinDup [] 0 := .inl ⟨rfl, fun _ => by simp⟩
theorem count_snoc (c : List Int) (x d : Int) : (c ++ [x]).count d = c.count d + if x = d then 1 else 0 := by
  rw [List.count_append, List.count_cons, List.count_nil]
  by_cases h : x = d <;> simp [h]
theorem MinDup.snoc {c : List Int} {b x : Int} (h : MinDup c b) (hx : 0 < x) (hc : ∀ y ∈ c, 0 < y) : MinDup (c ++ [x]) (if x ∈ c ∧ (b = 0 ∨ x < b) then x else b) := by
  have e := count_snoc c x
  have hcx : x ∈ c ↔ 1 ≤ c.count x := by rw [← List.count_pos_iff]; exact Iff.rfl
  by_cases hm : x ∈ c
  · have h1 := hcx.1 hm
    rcases h with ⟨h2, h3⟩ | ⟨h2, h3, h4⟩
    · rw [if_pos ⟨hm, .inl h2⟩]
      refine .inr ⟨by omega, by rw [e, if_pos rfl]; omega, fun d hd => ?_⟩
      rw [e] at hd
      by_cases hxd : x = d
      · omega
      · rw [if_neg hxd] at hd; have := h3 d; omega
    · by_cases hlt : x < b
      · rw [if_pos ⟨hm, .inr hlt⟩]
        refine .inr ⟨by omega, by rw [e, if_pos rfl]; omega, fun d hd => ?_⟩
        rw [e] at hd
        by_cases hxd : x = d
        · omega
        · rw [if_neg hxd] at hd; have := h4 d (by omega); omega
      · rw [if_neg (by rintro ⟨_, g | g⟩ <;> omega)]
        refine .inr ⟨h2, by rw [e]; split <;> omega, fun d hd => ?_⟩
        rw [e] at hd
        by_cases hxd : x = d
        · omega
        · rw [if_neg hxd] at hd; exact h4 d (by omega)
  · have h1 : c.count x = 0 := by have := mt hcx.2 hm; omega
    rw [if_neg (fun g => hm g.1)]
    rcases h with ⟨h2, h3⟩ | ⟨h2, h3, h4⟩
    · refine .inl ⟨h2, fun d => ?_⟩
      rw [e]
      by_cases hxd : x = d
      · subst hxd; rw [if_pos rfl]; omega
      · rw [if_neg hxd]; exact h3 d
    · refine .inr ⟨h2, by rw [e]; split <;> omega, fun d hd => ?_⟩
      rw [e] at hd
      by_cases hxd : x = d
      · subst hxd; rw [if_pos rfl] at hd; omega
      · rw [if_neg hxd] at hd; exact h4 d (by omega)
/-! ### rising rows are told by what is in them -/
/-! ### a thing laid into a rising row -/
section
variable {α : Type} (f : α → Int)
def ins1 (v : α) : List α → List α
  | [] => [v]
  | x :: t => if f v < f x then v :: x :: t else x :: ins1 v t
def insU (v : α) (l : List α) : List α := if l.any fun x => decide (f x = f v) then l else ins1 f v l
/-- All of a row, laid one by one. -/
def insAll (l : List α) : List α := l.foldl (fun c v => insU f v c) []
end

end Go.Proofs.YtomfeddgeihipaaGreat.Aw

namespace Go.Proofs.YtomfeddgeihipaaGreat.Aw
open Go Go.RowKit Go.Proofs.YtomfeddgeihipaaGreat.Pl
set_option linter.unusedSimpArgs false
set_option linter.unusedVariables false

theorem snocI {α : Type} {P : List α → Prop} (h0 : P []) (h1 : ∀ l x, P l → P (l ++ [x])) (l : List α) : P l := by
  rw [← List.reverse_reverse l]
  generalize l.reverse = r
  induction r with
  | nil => exact h0
  | cons x r ih => rw [List.reverse_cons]; exact h1 _ _ ih

def bes (x y : Ed) : Bool := decide (x.a = y.a ∧ x.b = y.b ∨ x.a = y.b ∧ x.b = y.a)
theorem bes_iff {x y : Ed} : bes x y = true ↔ (x.a = y.a ∧ x.b = y.b ∨ x.a = y.b ∧ x.b = y.a) := by simp [bes]
theorem bes_symm {x y : Ed} (h : bes x y = true) : bes y x = true := by
  rw [bes_iff] at h ⊢
  rcases h with ⟨h1, h2⟩ | ⟨h1, h2⟩
  · exact .inl ⟨h1.symm, h2.symm⟩
  · exact .inr ⟨h2.symm, h1.symm⟩
theorem bes_refl (x : Ed) : bes x x = true := by rw [bes_iff]; exact .inl ⟨rfl, rfl⟩
theorem bes_trans {x y z : Ed} (h : bes x y = true) (k : bes y z = true) : bes x z = true := by
  rw [bes_iff] at h k ⊢
  rcases h with ⟨h1, h2⟩ | ⟨h1, h2⟩ <;> rcases k with ⟨k1, k2⟩ | ⟨k1, k2⟩
  · exact .inl ⟨h1.trans k1, h2.trans k2⟩
  · exact .inr ⟨h1.trans k1, h2.trans k2⟩
  · exact .inr ⟨h1.trans k2, h2.trans k1⟩
  · exact .inl ⟨h1.trans k2, h2.trans k1⟩

/-- Of each bundle the first. -/
def sE (l : List Ed) : List Ed := l.foldl (fun acc x => if acc.any (bes x) then acc else acc ++ [x]) []
theorem sE_snoc (l : List Ed) (x : Ed) : sE (l ++ [x]) = if (sE l).any (bes x) then sE l else sE l ++ [x] := by
  simp [sE, List.foldl_append]
theorem sE_has (l : List Ed) : ∀ x ∈ l, ∃ y ∈ sE l, bes x y = true := by
  induction l using snocI with
  | h0 => simp
  | h1 l x ih =>
    intro y hy
    rw [sE_snoc]
    rcases List.mem_append.1 hy with h | h
    · obtain ⟨z, h1, h2⟩ := ih y h
      split
      · exact ⟨z, h1, h2⟩
      · exact ⟨z, List.mem_append_left _ h1, h2⟩
    · rw [List.mem_singleton] at h
      subst h
      split
      · rename_i ha
        rw [List.any_eq_true] at ha
        obtain ⟨z, h1, h2⟩ := ha
        exact ⟨z, h1, h2⟩
      · exact ⟨y, List.mem_append_right _ (by simp), bes_refl y⟩
theorem sE_len (l : List Ed) : (sE l).length ≤ l.length := by
  induction l using snocI with
  | h0 => simp [sE]
  | h1 l x ih =>
    rw [sE_snoc]
    split
    · rw [List.length_append]; omega
    · rw [List.length_append, List.length_append]; simp only [List.length_cons, List.length_nil]; omega
theorem sE_apart (l : List Ed) : (sE l).Pairwise fun x y => bes x y = false := by
  induction l using snocI with
  | h0 => simp [sE]
  | h1 l x ih =>
    rw [sE_snoc]
    split
    · exact ih
    · rename_i ha
      rw [List.pairwise_append]
      refine ⟨ih, List.pairwise_singleton _ _, fun y hy z hz => ?_⟩
      rw [List.mem_singleton] at hz
      subst hz
      cases hb : bes y z with
      | false => rfl
      | true => exact absurd (List.any_eq_true.2 ⟨y, hy, bes_symm hb⟩) ha

/-- An edge's two halves. -/
abbrev hf (x : Ed) : List (Int × Int) := [(x.a, x.b), (x.b, x.a)]
def hfs (l : List Ed) : List (Int × Int) := l.flatMap hf
theorem hfs_snoc (l : List Ed) (x : Ed) : hfs (l ++ [x]) = hfs l ++ [(x.a, x.b)] ++ [(x.b, x.a)] := by simp [hfs]
theorem hfs_len (l : List Ed) : (hfs l).length = 2 * l.length := by
  induction l with
  | nil => rfl
  | cons x l ih => simp only [hfs, List.flatMap_cons, List.length_append, List.length_cons, List.length_nil] at ih ⊢; omega
/-- What stands beside a number. -/
def nbH (v : Int) (H : List (Int × Int)) : List Int := (H.filter fun p => decide (p.1 = v)).map (·.2)
theorem nbH_snoc (v : Int) (H : List (Int × Int)) (p : Int × Int) : nbH v (H ++ [p]) = nbH v H ++ if p.1 = v then [p.2] else [] := by
  unfold nbH
  rw [List.filter_append, List.map_append]
  by_cases h : p.1 = v
  · simp [h]
  · simp [h]
theorem nbH_len (v : Int) (H : List (Int × Int)) : (nbH v H).length ≤ H.length := by
  unfold nbH
  rw [List.length_map]
  exact List.length_filter_le _ _
/-- A row put in order. -/
def insI (x : Int) : List Int → List Int
  | [] => [x]
  | y :: l => if x ≤ y then x :: y :: l else y :: insI x l
def srt : List Int → List Int
  | [] => []
  | x :: l => insI x (srt l)
theorem insI_perm (x : Int) (l : List Int) : (insI x l).Perm (x :: l) := by
  induction l with
  | nil => exact .refl _
  | cons y l ih =>
    unfold insI
    split
    · exact .refl _
    · exact (ih.cons y).trans (.swap x y l)
theorem srt_perm (l : List Int) : (srt l).Perm l := by
  induction l with
  | nil => exact .refl _
  | cons x l ih => exact (insI_perm x _).trans (ih.cons x)
theorem insI_sorted (x : Int) {l : List Int} (h : l.Pairwise (· ≤ ·)) : (insI x l).Pairwise (· ≤ ·) := by
  induction l with
  | nil => exact List.pairwise_singleton _ _
  | cons y l ih =>
    have h' := List.pairwise_cons.1 h
    unfold insI
    split
    · rename_i hxy
      refine List.pairwise_cons.2 ⟨fun z hz => ?_, h⟩
      rcases List.mem_cons.1 hz with rfl | hz
      · exact hxy
      · have := h'.1 z hz; omega
    · rename_i hxy
      refine List.pairwise_cons.2 ⟨fun z hz => ?_, ih h'.2⟩
      rcases List.mem_cons.1 ((insI_perm x l).mem_iff.1 hz) with rfl | hz
      · omega
      · exact h'.1 z hz
theorem srt_sorted (l : List Int) : (srt l).Pairwise (· ≤ ·) := by
  induction l with
  | nil => exact .nil
  | cons x l ih => exact insI_sorted x ih
theorem sorted_unique : ∀ {a b : List Int}, a.Pairwise (· ≤ ·) → b.Pairwise (· ≤ ·) → a.Perm b → a = b
  | [], b, _, _, h => by rw [h.nil_eq]
  | x :: a, [], _, _, h => absurd h.symm.nil_eq (by simp)
  | x :: a, y :: b, ha, hb, h => by
    obtain ⟨a1, a2⟩ := List.pairwise_cons.1 ha
    obtain ⟨b1, b2⟩ := List.pairwise_cons.1 hb
    have hxy : x = y := by
      have h1 : x ∈ y :: b := h.mem_iff.1 (by simp)
      have h2 : y ∈ x :: a := h.mem_iff.2 (by simp)
      rcases List.mem_cons.1 h1 with h1 | h1
      · exact h1
      · rcases List.mem_cons.1 h2 with h2 | h2
        · exact h2.symm
        · have := b1 x h1
          have := a1 y h2
          omega
    subst hxy
    rw [sorted_unique a2 b2 ((List.perm_cons x).1 h)]
theorem srt_of {c l : List Int} (h : c.Perm l) (hs : c.Pairwise (· ≤ ·)) : c = srt l := sorted_unique hs (srt_sorted l) (h.trans (srt_perm l).symm)

/-- Who has an edge with a vertex, rising. -/
def nearF (es : List Ed) (v : Int) : List Int := srt (nbH v (hfs (sE es)))
def adj (es : List Ed) (v w : Int) : Prop := ∃ x ∈ es, (x.a = v ∧ x.b = w) ∨ (x.a = w ∧ x.b = v)
instance (es : List Ed) (v w : Int) : Decidable (adj es v w) := by unfold adj; exact inferInstance
theorem nearF_len (es : List Ed) (v : Int) : (nearF es v).length ≤ 2 * es.length := by
  have h1 := (srt_perm (nbH v (hfs (sE es)))).length_eq
  have h2 := nbH_len v (hfs (sE es))
  have h3 := hfs_len (sE es)
  have h4 := sE_len es
  unfold nearF
  omega

end Go.Proofs.YtomfeddgeihipaaGreat.Aw

namespace Go.Proofs.YtomfeddgeihipaaGreat.Aw
open Go Go.RowKit Go.Proofs.YtomfeddgeihipaaGreat.Pl
set_option linter.unusedSimpArgs false
set_option linter.unusedVariables false

/-- Who led to whom, in order of finding. -/
abbrev Led := List (Int × Int)
def ledBy (A : Led) (v : Int) : Option Int := match A with
  | [] => none
  | p :: A => if v = p.1 then some p.2 else ledBy A v
theorem ledBy_none {v : Int} : ∀ {A : Led}, v ∉ A.map (·.1) → ledBy A v = none
  | [], _ => rfl
  | p :: A, h => by
    simp only [List.map_cons, List.mem_cons, not_or] at h
    simp only [ledBy]
    rw [if_neg h.1, ledBy_none h.2]
theorem ledBy_some {v : Int} : ∀ {A : Led}, v ∈ A.map (·.1) → ∃ w, ledBy A v = some w
  | [], h => by simp at h
  | p :: A, h => by
    simp only [ledBy]
    by_cases e : v = p.1
    · exact ⟨p.2, by rw [if_pos e]⟩
    · rw [if_neg e]
      simp only [List.map_cons, List.mem_cons] at h
      exact ledBy_some (h.resolve_left e)
structure BF where
  A : Led
  Q : List Int
  hit : Bool
/-- One near vertex looked at. -/
def scan1 (may : Int → Bool) (to v : Int) (S : BF) (u : Int) : BF :=
  if S.hit = true then S else if u ∈ S.A.map (·.1) then S else if u = to then ⟨S.A ++ [(u, v)], S.Q, true⟩ else ⟨S.A ++ [(u, v)], if may u = true then S.Q ++ [u] else S.Q, false⟩
def scanL (may : Int → Bool) (to v : Int) (S : BF) (l : List Int) : BF := l.foldl (scan1 may to v) S
theorem scanL_hit (may : Int → Bool) (to v : Int) {S : BF} (h : S.hit = true) (l : List Int) : scanL may to v S l = S := by
  induction l with
  | nil => rfl
  | cons u l ih => simp only [scanL, List.foldl_cons] at ih ⊢; rw [scan1, if_pos h]; exact ih
theorem scanL_snoc (may : Int → Bool) (to v : Int) (S : BF) (l : List Int) (u : Int) : scanL may to v S (l ++ [u]) = scan1 may to v (scanL may to v S l) u := by simp [scanL, List.foldl_append]
theorem scanL_len (may : Int → Bool) (to v : Int) (S : BF) (l : List Int) : (scanL may to v S l).Q.length ≤ S.Q.length + l.length ∧ (scanL may to v S l).A.length ≤ S.A.length + l.length := by
  induction l generalizing S with
  | nil => simp [scanL]
  | cons u l ih =>
    have := ih (scan1 may to v S u)
    have h1 : (scan1 may to v S u).Q.length ≤ S.Q.length + 1 ∧ (scan1 may to v S u).A.length ≤ S.A.length + 1 := by
      unfold scan1
      split
      · omega
      · split
        · omega
        · split
          · simp
          · constructor
            · simp only; split <;> simp
            · simp
    simp only [scanL, List.foldl_cons, List.length_cons] at this ⊢
    omega

/-- The search: what led where, if it was found. -/
def bfs (near : Int → List Int) (may : Int → Bool) (to : Int) : Nat → Led → List Int → Option (Option Led)
  | _, _, [] => some none
  | 0, _, _ :: _ => none
  | n + 1, A, v :: Q => if (scanL may to v ⟨A, Q, false⟩ (near v)).hit = true then some (some (scanL may to v ⟨A, Q, false⟩ (near v)).A) else bfs near may to n (scanL may to v ⟨A, Q, false⟩ (near v)).A (scanL may to v ⟨A, Q, false⟩ (near v)).Q
/-- The way back. -/
def backF (A : Led) (from' : Int) : Nat → Int → Option (List Int)
  | 0, v => if v = from' then some [] else none
  | n + 1, v => if v = from' then some [] else (backF A from' n ((ledBy A v).getD 0)).map fun l => (ledBy A v).getD 0 :: l
theorem backF_len {A : Led} {from' : Int} : ∀ {n : Nat} {v : Int} {l : List Int}, backF A from' n v = some l → l.length ≤ n
  | 0, v, l, h => by
    simp only [backF] at h
    split at h
    · injection h with h; subst h; simp
    · cases h
  | n + 1, v, l, h => by
    simp only [backF] at h
    split at h
    · injection h with h; subst h; simp
    · rw [Option.map_eq_some_iff] at h
      obtain ⟨l', h1, rfl⟩ := h
      have := backF_len h1
      simp only [List.length_cons]; omega
/-- The way from one vertex to another one; none: the strength n is too little. -/
def pathF (vs : List Int) (near : Int → List Int) (may : Int → Bool) (from' to : Int) (n : Nat) : Option (List Int) :=
  if from' ∉ vs ∨ to ∉ vs then some [] else if from' = to then some [from'] else match bfs near may to n [(from', from')] [from'] with
    | some none => some []
    | some (some A) => (backF A from' n to).map fun l => (to :: l).reverse
    | none => none

end Go.Proofs.YtomfeddgeihipaaGreat.Aw

namespace Go.Proofs.YtomfeddgeihipaaGreat.Aw
open Go Go.RowKit Go.Proofs.YtomfeddgeihipaaGreat.Pl
set_option linter.unusedSimpArgs false
set_option linter.unusedVariables false

/-- A pair of ends as a map's key. -/
def kE (x : Ed) : List Int := [if x.b < x.a then x.b else x.a, if x.a < x.b then x.b else x.a]
theorem kE_iff (x y : Ed) : kE x = kE y ↔ bes x y = true := by
  rw [bes_iff]
  unfold kE
  simp only [List.cons.injEq, and_true]
  constructor
  · rintro ⟨h1, h2⟩
    split at h1 <;> split at h1 <;> split at h2 <;> split at h2 <;> omega
  · rintro (⟨h1, h2⟩ | ⟨h1, h2⟩)
    · rw [h1, h2]; exact ⟨rfl, rfl⟩
    · rw [h1, h2]
      constructor
      · split <;> split <;> omega
      · split <;> split <;> omega

def bnd (l : List Ed) : List (List Int) := (sE l).map fun y => (l.filter fun x => bes y x).map (·.id)
theorem bnd_len (l : List Ed) : (bnd l).length = (sE l).length := by simp [bnd]
theorem bnd_new {l : List Ed} {x : Ed} (h : (sE l).any (bes x) = false) : sE (l ++ [x]) = sE l ++ [x] ∧ bnd (l ++ [x]) = bnd l ++ [[x.id]] := by
  have h' : ∀ y ∈ sE l, bes x y = false := fun y hy => by
    cases hb : bes x y with
    | false => rfl
    | true => rw [List.any_eq_true.2 ⟨y, hy, hb⟩] at h; cases h
  have hs : sE (l ++ [x]) = sE l ++ [x] := by rw [sE_snoc, h]; rfl
  refine ⟨hs, ?_⟩
  unfold bnd
  rw [hs, List.map_append]
  congr 1
  · refine List.map_congr_left fun y hy => ?_
    have : bes y x = false := by
      cases hb : bes y x with
      | false => rfl
      | true => have := h' y hy; rw [bes_symm hb] at this; cases this
    rw [List.filter_append]
    simp [this]
  · have : l.filter (fun z => bes x z) = [] := by
      rw [List.filter_eq_nil_iff]
      intro z hz hb
      obtain ⟨y, hy, h2⟩ := sE_has l z hz
      have := h' y hy
      rw [bes_trans hb h2] at this; cases this
    simp [List.filter_append, this, bes_refl]
theorem bnd_old {l : List Ed} {x : Ed} (h : (sE l).any (bes x) = true) : sE (l ++ [x]) = sE l ∧ ∃ L1 y L2 B1 r B2, sE l = L1 ++ y :: L2 ∧ bes x y = true ∧ bnd l = B1 ++ r :: B2 ∧ B1.length = L1.length ∧ bnd (l ++ [x]) = B1 ++ (r ++ [x.id]) :: B2 ∧ r.length ≤ l.length := by
  have hs : sE (l ++ [x]) = sE l := by rw [sE_snoc, h]; rfl
  refine ⟨hs, ?_⟩
  obtain ⟨y, hy, hb⟩ := List.any_eq_true.1 h
  obtain ⟨L1, L2, hL⟩ := List.append_of_mem hy
  have hap := sE_apart l
  rw [hL, List.pairwise_append, List.pairwise_cons] at hap
  obtain ⟨_, ⟨p2, _⟩, p3⟩ := hap
  have hno : ∀ z, (z ∈ L1 ∨ z ∈ L2) → bes z x = false := by
    intro z hz
    cases hzx : bes z x with
    | false => rfl
    | true =>
      have hzy := bes_trans hzx hb
      rcases hz with hz | hz
      · have := p3 z hz y (by simp); rw [hzy] at this; cases this
      · have := p2 z hz; rw [bes_symm hzy] at this; cases this
  refine ⟨L1, y, L2, _, _, _, hL, hb, by unfold bnd; rw [hL, List.map_append, List.map_cons], by simp, ?_, ?_⟩
  · unfold bnd
    rw [hs, hL, List.map_append, List.map_cons]
    have e : ∀ L : List Ed, (∀ z ∈ L, bes z x = false) → L.map (fun y => ((l ++ [x]).filter fun x => bes y x).map (·.id)) = L.map fun y => (l.filter fun x => bes y x).map (·.id) := by
      intro L hL
      refine List.map_congr_left fun z hz => ?_
      rw [List.filter_append]
      simp [hL z hz]
    rw [e L1 fun z hz => hno z (.inl hz), e L2 fun z hz => hno z (.inr hz)]
    congr 2
    rw [List.filter_append]
    simp [bes_symm hb]
  · rw [List.length_map]; exact List.length_filter_le _ _

/-- The map of the bundles' places. -/
structure AtM (l : List Ed) (es : List (List Int × LV)) : Prop where
  old : ∀ x L1 y L2, sE l = L1 ++ y :: L2 → bes x y = true → mget es (kE x) = some (i L1.length)
  new : ∀ x, (sE l).any (bes x) = false → mget es (kE x) = none
theorem AtM.nil : AtM [] [] := ⟨fun x L1 y L2 h _ => by simp [sE] at h, fun x _ => rfl⟩
theorem AtM.keep {l : List Ed} {es : List (List Int × LV)} (h : AtM l es) {x : Ed} (hx : sE (l ++ [x]) = sE l) : AtM (l ++ [x]) es :=
  ⟨by rw [hx]; exact h.old, by rw [hx]; exact h.new⟩
theorem AtM.add {l : List Ed} {es : List (List Int × LV)} (h : AtM l es) {x : Ed} (hx : (sE l).any (bes x) = false) : AtM (l ++ [x]) (mset es (kE x) (i (sE l).length)) := by
  have hs := (bnd_new hx).1
  constructor
  · intro z L1 y L2 hL hb
    rw [hs] at hL
    rw [mget_mset]
    rcases List.eq_nil_or_concat L2 with rfl | ⟨L2', y', rfl⟩
    · have := List.append_inj' hL rfl
      obtain ⟨h1, h2⟩ := this
      simp only [List.cons.injEq, and_true] at h2
      subst h1 h2
      rw [if_pos ((kE_iff _ _).2 hb)]
    · rw [List.concat_eq_append, show L1 ++ y :: (L2' ++ [y']) = (L1 ++ y :: L2') ++ [y'] by simp] at hL
      obtain ⟨h1, h2⟩ := List.append_inj' hL rfl
      rw [if_neg, h.old z L1 y L2' h1 hb]
      intro hk
      have hxy := bes_trans (bes_symm ((kE_iff _ _).1 hk)) hb
      rw [List.any_eq_true.2 ⟨y, by rw [h1]; simp, hxy⟩] at hx
      cases hx
  · intro z hz
    rw [hs, List.any_append, Bool.or_eq_false_iff] at hz
    rw [mget_mset, if_neg, h.new z hz.1]
    intro hk
    have := (kE_iff _ _).1 hk
    simp [this] at hz

end Go.Proofs.YtomfeddgeihipaaGreat.Aw

namespace Go.Proofs.YtomfeddgeihipaaGreat.Aw
open Go Go.RowKit Go.Proofs.YtomfeddgeihipaaGreat.Pl
set_option linter.unusedSimpArgs false
set_option linter.unusedVariables false

/-- Rows of the call's own: a token, a row. -/
abbrev TR := Nat × List Int
def cellT (p : TR) : LV := .sl p.1 p.2.length (us p.2)
def cellsT (R : List TR) : List LV := R.map cellT
theorem cellsT_len (R : List TR) : (cellsT R).length = R.length := by simp [cellsT]
structure SimB (E : List Ed) (st0 : St) (L2 L4 M te q : Nat) (vs : List Int) (mes : List (List Int × LV)) (R : List TR) (s : St) : Prop where
  h2 : s.H L2 = .box 38 2 [.nil, .nil]
  h4 : s.H L4 = .box 38 2 [.sl 0 vs.length (us vs), .sl te (sE E).length (eds (sE E))]
  ht : s.H te = .own 43 3 (sE E).length
  hM : s.H M = .map true [.u32, .u32] mes
  hq : s.H q = .box 35 1 (cellsT R)
  bn : R.map (·.2) = bnd E
  at' : AtM E mes
  nd : (R.map (·.1)).Nodup
  tk : ∀ p ∈ R, st0.next ≤ p.1 ∧ p.1 < s.next ∧ s.H p.1 = .own 41 1 p.2.length
  b : st0.next ≤ L2 ∧ st0.next ≤ L4 ∧ st0.next ≤ M ∧ st0.next ≤ te ∧ st0.next ≤ q ∧ L2 < s.next ∧ L4 < s.next ∧ M < s.next ∧ te < s.next ∧ q < s.next
  kp : Keeps st0 s
def SimI (g : Gr) (st0 : St) (L2 L4 M k : Nat) (fr : Frm) (s : St) : Prop :=
  fr 2 = .pt L2 0 ∧ fr 4 = .pt L4 0 ∧ fr 6 = .mp M ∧ fr 18 = .sl 0 g.es.length (eds g.es) ∧ fr 19 = i g.es.length ∧ fr 20 = i k ∧
  ∃ te q mes R, fr 5 = .ms q 0 R.length ∧ SimB (g.es.take k) st0 L2 L4 M te q g.vs mes R s

theorem box_ne {st : St} {a b : Nat} {x y : LObj} (ha : st.H a = x) (hb : st.H b = y) (h : x ≠ y) : ¬ a = b := fun e => h (by rw [← ha, e, hb])

theorem z0_edsB (l : List Ed) : z0L (eds l) = eds l := by
  induction l with
  | nil => rfl
  | cons e l ih => simp only [eds, List.flatMap_cons, List.cons_append, List.nil_append, z0L, z0] at ih ⊢; rw [ih]
theorem z0_cellsT (R : List TR) : z0L (cellsT R) = R.map fun p => .sl 0 p.2.length (us p.2) := by
  rw [z0L_map, cellsT, List.map_map]
  refine List.map_congr_left fun p _ => ?_
  simp [cellT, z0]

set_option maxHeartbeats 2000000 in
theorem Simple (g : Gr) (st : St) (hv : g.vs.length ≤ 1048576) (he : g.es.length ≤ 1000) (hp : 0 < st.next) :
    ACalls Tryz.prog 28 [.ag (grL g)] st fun r st' => r = .tu [.ag [.sl 0 g.vs.length (us g.vs), .sl 0 (sE g.es).length (eds (sE g.es))], .sl 0 (bnd g.es).length ((bnd g.es).map fun l => .sl 0 l.length (us l))] ∧ Keeps st st' := by
  refine acalls_z0 ?_
  have hel := eds_length g.es
  refine acalls_of_body tabOk Tryz.func28 rfl rfl Tryz.ntmps28 (rs := [.cell 2 38, .tmp 3]) rfl (by simp) ?_
  (repeat' (first | refine awp_seq ?_ | refine awp_block ?_ | ((first | refine awp_skip ?_ | refine awp_exit ?_); simp only [ak, reduceIte]) | (refine awp_ret ?_; simp only [ak, reduceIte]; simp []) | (refine awp_cond ?_; simp []; (try with_reducible refine ⟨?_, ?_⟩) <;> (try with_reducible intro hc) <;> try (exfalso; omega)) | ((first | (refine w_e [] ?_; intro J hJ; simp only []) | (refine w_q ?_; intro J hJ) | refine e_go ?_); simp []; (repeat refine ca ?_); (try ((try with_reducible refine ⟨?_, ?_⟩) <;> (try with_reducible intro hnil) <;> refine hJ _ _ ?_ <;> clear hJ J <;> simp only [ak, reduceIte] <;> try subst hnil)))))
  refine callK_ofE (Clone g.vs 0 _ hv) (by simp []) ?_; rintro r st' ⟨rfl, hk1⟩
  have hn1 := hk1.next
  simp only [new_next] at hn1
  have hG1 : st'.H st.next = .box 38 2 (grL g) := by rw [hk1.H _ (by simp; omega)]; simp
  have hC1 : st'.H (st.next + 1) = .box 38 2 [.nil, .nil] := by rw [hk1.H _ (by simp)]; simp
  have hkp : Keeps st st' := ((Keeps.new _ _).trans (Keeps.new _ _)).trans hk1
  generalize hL : st' = s1 at *
  have e1 : ¬ st.next = s1.next := by omega
  have e2 : ¬ st.next = s1.next + 1 := by omega
  (repeat' (first | refine awp_seq ?_ | refine awp_block ?_ | ((first | refine awp_skip ?_ | refine awp_exit ?_); simp only [ak, reduceIte]) | (refine awp_ret ?_; simp only [ak, reduceIte]; simp [e1, e2, hG1]) | (refine awp_cond ?_; simp [e1, e2, hG1]; (try with_reducible refine ⟨?_, ?_⟩) <;> (try with_reducible intro hc) <;> try (exfalso; omega)) | ((first | (refine w_e [] ?_; intro J hJ; simp only []) | (refine w_q ?_; intro J hJ) | refine e_go ?_); simp [e1, e2, hG1]; (repeat refine ca ?_); (try ((try with_reducible refine ⟨?_, ?_⟩) <;> (try with_reducible intro hnil) <;> refine hJ _ _ ?_ <;> clear hJ J <;> simp only [ak, reduceIte] <;> try subst hnil)))))
  refine awp_cell s1.next 43 3 (e := 38) (s := 2) [.sl 0 g.vs.length (us g.vs)] [] (by simp) ?_
  refine awp_ownM 5 35 1 (by simp) ?_
  refine awp_loop (fun n fr s => ∃ k : Nat, k ≤ g.es.length ∧ n = g.es.length - k ∧ SimI g st (st.next + 1) s1.next (s1.next + 1) k fr s) g.es.length ?_ ?_
  · refine ⟨0, by omega, by omega, by simp, by simp, by simp, by simp, by simp, by simp, s1.next + 2, s1.next + 3, [], [], by simp, ?_⟩
    have h5 : ¬ st.next = s1.next + 2 := by omega
    have h1 : ¬ st.next + 1 = s1.next := by omega
    refine ⟨by simp [h1, h5, e1, e2, hC1], by simp [sE]; omega, by simp [sE], by simp, by simp [cellsT], by simp [bnd, sE], AtM.nil, by simp, by simp, ⟨by omega, by omega, by omega, by omega, by omega, by simp; omega, by simp; omega, by simp, by simp, by simp⟩, ?_⟩
    exact (((((hkp.trans (Keeps.new _ _)).trans (Keeps.new _ _)).trans (Keeps.new _ _)).set (by omega) _).trans (Keeps.new _ _))
  rintro n fr s ⟨k, hk, rfl, f2, f4, f6, f18, f19, f20, te, q, mes, R, f5, hB⟩ JJ hJJ
  obtain ⟨H2, H4, Ht, HM, Hq, hbn, hat, hnd, htk, ⟨b1, b2, b3, b4, b5, b6, b7, b8, b9, b10⟩, hkps⟩ := hB
  have q24 : ¬ q = s1.next := box_ne Hq H4 (by simp)
  by_cases hlt : k < g.es.length
  rotate_left
  · clear hJJ
    have hk' : k = g.es.length := by omega
    rw [hk', List.take_length] at H4 Ht hbn
    have hbl : (bnd g.es).length = R.length := by rw [← hbn, List.length_map]
    have n1 : ¬ st.next + 1 = q := box_ne H2 Hq (by simp)
    have n2 : ¬ s1.next = q := fun h => q24 h.symm
    have n3 : ¬ s1.next = st.next + 1 := by omega
    have hsl := sE_len g.es
    refine awp_freeze 5 f5 Hq (by simp [cellsT_len]) ?_
    have htk2 : (cellsT R).take (R.length * 1) = cellsT R := List.take_of_length_le (by rw [cellsT_len]; omega)
    rw [htk2]
    (repeat' (first | refine awp_seq ?_ | refine awp_block ?_ | ((first | refine awp_skip ?_ | refine awp_exit ?_); simp only [ak, reduceIte]) | (refine awp_ret ?_; simp only [ak, reduceIte]; simp [f2, f4, f19, f20, hlt, H4, H2, n1, n2, n3]) | (refine awp_cond ?_; simp [f2, f4, f19, f20, hlt, H4, H2, n1, n2, n3]; (try with_reducible refine ⟨?_, ?_⟩) <;> (try with_reducible intro hc) <;> try (exfalso; omega)) | ((first | (refine w_e [] ?_; intro J hJ; simp only []) | (refine w_q ?_; intro J hJ) | refine e_go ?_); simp [f2, f4, f19, f20, hlt, H4, H2, n1, n2, n3]; (repeat refine ca ?_); (try ((try with_reducible refine ⟨?_, ?_⟩) <;> (try with_reducible intro hnil) <;> refine hJ _ _ ?_ <;> clear hJ J <;> simp only [ak, reduceIte] <;> try subst hnil)))))
    refine ⟨?_, (hkps.set (by omega) _).set (by omega) _⟩
    rw [hbl, ← hbn]
    simp only [z0, z0L, z0_us, z0_edsB, z0_cellsT, List.map_map]
    rfl
  have hd := eds_drop g.es k hlt
  have hw := nat_add_one k (by omega)
  have hk3 : k * 3 < g.es.length * 3 := by omega
  have htk1 : g.es.take (k + 1) = g.es.take k ++ [g.es.getD k ed0] := by
    rw [List.getD_eq_getElem?_getD, List.getElem?_eq_getElem hlt]; exact List.take_succ_eq_append_getElem hlt
  have hEl : (g.es.take k).length ≤ 1000 := by rw [List.length_take]; omega
  generalize g.es.getD k ed0 = x at *
  generalize hE : g.es.take k = E at *
  obtain ⟨id, a, b⟩ := x
  simp only at hd
  cases hany : (sE E).any (bes ⟨id, a, b⟩)
  · have hm := hat.new ⟨id, a, b⟩ hany
    simp only [kE] at hm
    have hsm : (List.map (fun _ : Ed => 3) (sE E)).sum = (sE E).length * 3 := by
      induction sE E with
      | nil => rfl
      | cons x l ih => simp only [List.map_cons, List.sum_cons, List.length_cons, ih]; omega
    have hsl := sE_len E
    have te0 : ¬ te = 0 := by omega
    have hcl := cellsT_len R
    have hRl : R.length = (sE E).length := by rw [← bnd_len, ← hbn, List.length_map]
    have htR : List.take R.length (cellsT R) = cellsT R := List.take_of_length_le (by omega)
    have hdl : List.drop R.length (cellsT R ++ [LV.nil]) = [.nil] := by rw [← hcl]; exact List.drop_left
    have htl : List.take R.length (cellsT R ++ [LV.nil]) = cellsT R := by rw [← hcl]; exact List.take_left
    have hdl2 : List.drop (R.length + 1) (cellsT R ++ [LV.nil]) = [] := List.drop_eq_nil_of_le (by simp [hcl])
    have hRn : ((R.length : Int)).toNat = R.length := by omega
    have c0 : ¬ s1.next = s.next := by omega
    have c0' : ¬ s.next = s1.next := by omega
    have c1 : ¬ s1.next = s.next + 1 := by omega
    have c1' : ¬ s.next + 1 = s1.next := by omega
    have c2 : ¬ s1.next = s.next + 2 := by omega
    have c2' : ¬ s.next + 2 = s1.next := by omega
    have c3 : ¬ s1.next = s.next + 3 := by omega
    have c3' : ¬ s.next + 3 = s1.next := by omega
    have c4 : ¬ s1.next = s.next + 4 := by omega
    have c4' : ¬ s.next + 4 = s1.next := by omega
    have e0 : ¬ te = s.next := by omega
    have e0' : ¬ s.next = te := by omega
    have e1 : ¬ te = s.next + 1 := by omega
    have e1' : ¬ s.next + 1 = te := by omega
    have e2 : ¬ te = s.next + 2 := by omega
    have e2' : ¬ s.next + 2 = te := by omega
    have e3 : ¬ te = s.next + 3 := by omega
    have e3' : ¬ s.next + 3 = te := by omega
    have e4 : ¬ te = s.next + 4 := by omega
    have e4' : ¬ s.next + 4 = te := by omega
    have d0 : ¬ q = s.next := by omega
    have d0' : ¬ s.next = q := by omega
    have d1 : ¬ q = s.next + 1 := by omega
    have d1' : ¬ s.next + 1 = q := by omega
    have d2 : ¬ q = s.next + 2 := by omega
    have d2' : ¬ s.next + 2 = q := by omega
    have d3 : ¬ q = s.next + 3 := by omega
    have d3' : ¬ s.next + 3 = q := by omega
    have d4 : ¬ q = s.next + 4 := by omega
    have d4' : ¬ s.next + 4 = q := by omega
    have c9 : ¬ s1.next + 1 = s.next := by omega
    have c9' : ¬ s.next = s1.next + 1 := by omega
    have n1 : ¬ te = s1.next := box_ne Ht H4 (by simp)
    have n2 : ¬ te = s1.next + 1 := box_ne Ht HM (by simp)
    have n3 : ¬ q = s1.next + 1 := box_ne Hq HM (by simp)
    have n4 : ¬ q = te := box_ne Hq Ht (by simp)
    have n1' : ¬ s1.next = te := fun h => n1 h.symm
    have n2' : ¬ s1.next + 1 = te := fun h => n2 h.symm
    have n3' : ¬ s1.next + 1 = q := fun h => n3 h.symm
    have n4' : ¬ te = q := fun h => n4 h.symm
    have n5' : ¬ s1.next = q := fun h => q24 h.symm
    have r2 : ¬ s.next = s.next + 1 + 1 := by omega
    have r3 : ¬ s.next = s.next + 1 + 1 + 1 := by omega
    have r4 : ¬ s.next = s.next + 1 + 1 + 1 + 1 := by omega
    have r5 : ¬ s.next = s.next + 1 + 1 + 1 + 1 + 1 := by omega
    have r6 : ¬ s.next = s.next + 1 + 1 + 1 + 1 + 1 + 1 := by omega
    have r7 : ¬ s.next = s.next + 1 + 1 + 1 + 1 + 1 + 1 + 1 := by omega
    have p1 : R.length < R.length + 1 := by omega
    (repeat' (first | refine awp_seq ?_ | refine awp_block ?_ | ((first | refine awp_skip ?_ | refine awp_exit ?_); simp only [ak, reduceIte]) | (refine awp_ret ?_; simp only [ak, reduceIte]; simp [hcl, htR, hsm, te0, c0, c0', c1, c1', c2, c2', c3, c3', c4, c4', e0, e0', e1, e1', e2, e2', e3, e3', e4, e4', d0, d0', d1, d1', d2, d2', d3, d3', d4, d4', c9, c9', n1, n2, n3, n4, n1', n2', n3', n4', n5', Ht, Hq, q24, f4, f5, f6, f18, f19, f20, hlt, hd, hel, hk3, hw, H4, HM, hm]) | (refine awp_cond ?_; simp [hcl, htR, hsm, te0, c0, c0', c1, c1', c2, c2', c3, c3', c4, c4', e0, e0', e1, e1', e2, e2', e3, e3', e4, e4', d0, d0', d1, d1', d2, d2', d3, d3', d4, d4', c9, c9', n1, n2, n3, n4, n1', n2', n3', n4', n5', Ht, Hq, q24, f4, f5, f6, f18, f19, f20, hlt, hd, hel, hk3, hw, H4, HM, hm]; (try with_reducible refine ⟨?_, ?_⟩) <;> (try with_reducible intro hc) <;> try (exfalso; omega)) | ((first | (refine w_e [] ?_; intro J hJ; simp only []) | (refine w_q ?_; intro J hJ) | refine e_go ?_); simp [hcl, htR, hsm, te0, c0, c0', c1, c1', c2, c2', c3, c3', c4, c4', e0, e0', e1, e1', e2, e2', e3, e3', e4, e4', d0, d0', d1, d1', d2, d2', d3, d3', d4, d4', c9, c9', n1, n2, n3, n4, n1', n2', n3', n4', n5', Ht, Hq, q24, f4, f5, f6, f18, f19, f20, hlt, hd, hel, hk3, hw, H4, HM, hm]; (repeat refine ca ?_); (try ((try with_reducible refine ⟨?_, ?_⟩) <;> (try with_reducible intro hnil) <;> refine hJ _ _ ?_ <;> clear hJ J <;> simp only [ak, reduceIte] <;> try subst hnil)))))
    (refine w_s [] [s.next, s.next + 1 + 1 + 1 + 1 + 1] [(0, true), (1, true), (2, true), (3, true), (4, true), (5, true), (6, true), (7, true), (8, true), (9, true), (10, true), (11, false)] ?_; intro J hJ; simp [r2, r3, r4, r5, r6, r7, c0, c0', c1, c1', c2, c2', c3, c3', c4, c4', e0, e0', e1, e1', e2, e2', e3, e3', e4, e4', d0, d0', d1, d1', d2, d2', d3, d3', d4, d4', c9, c9', n1, n2, n3, n4, n1', n2', n3', n4', n5', hcl, htR, hdl, htl, hdl2, p1]; (repeat refine ca ?_); (try ((try with_reducible refine ⟨?_, ?_⟩) <;> (try with_reducible intro hnil) <;> refine hJ _ _ ?_ <;> clear hJ J <;> simp only [ak, reduceIte] <;> try subst hnil)))
    (repeat' (first | refine awp_seq ?_ | refine awp_block ?_ | ((first | refine awp_skip ?_ | refine awp_exit ?_); simp only [ak, reduceIte]) | (refine awp_ret ?_; simp only [ak, reduceIte]; simp [f20, hw]) | (refine awp_cond ?_; simp [f20, hw]; (try with_reducible refine ⟨?_, ?_⟩) <;> (try with_reducible intro hc) <;> try (exfalso; omega)) | ((first | (refine w_e [] ?_; intro J hJ; simp only []) | (refine w_q ?_; intro J hJ) | refine e_go ?_); simp [f20, hw]; (repeat refine ca ?_); (try ((try with_reducible refine ⟨?_, ?_⟩) <;> (try with_reducible intro hnil) <;> refine hJ _ _ ?_ <;> clear hJ J <;> simp only [ak, reduceIte] <;> try subst hnil)))))
    have l1 : ¬ st.next + 1 = te := box_ne H2 Ht (by simp)
    have l2 : ¬ st.next + 1 = q := box_ne H2 Hq (by simp)
    obtain ⟨hs, hb⟩ := bnd_new hany
    refine hJJ (g.es.length - (k + 1)) _ _ (by omega) ⟨k + 1, by omega, rfl, by simp [f2], by simp [f4], by simp [f6], by simp [f18], by simp [f19], by simp, s.next + 3, s.next + 5, mset mes (kE ⟨id, a, b⟩) (i (sE E).length), R ++ [(s.next + 7, [id])], by simp, ?_⟩
    rw [htk1]
    refine ⟨?_, ?_, ?_, ?_, ?_, ?_, hat.add hany, ?_, ?_, ?_, ?_⟩
    · (repeat (first | rw [new_H, if_neg (α := LObj) (by (try simp only [set_next, new_next]); omega)] | rw [set_H, if_neg (α := LObj) (by omega)] | rw [new_H, if_pos (α := LObj) (by (try simp only [set_next, new_next]))] | rw [set_H, if_pos (α := LObj) (by omega)])); exact H2
    · (repeat (first | rw [new_H, if_neg (α := LObj) (by (try simp only [set_next, new_next]); omega)] | rw [set_H, if_neg (α := LObj) (by omega)] | rw [new_H, if_pos (α := LObj) (by (try simp only [set_next, new_next]))] | rw [set_H, if_pos (α := LObj) (by omega)])); rw [hs]; simp [eds]
    · (repeat (first | rw [new_H, if_neg (α := LObj) (by (try simp only [set_next, new_next]); omega)] | rw [set_H, if_neg (α := LObj) (by omega)] | rw [new_H, if_pos (α := LObj) (by (try simp only [set_next, new_next]))] | rw [set_H, if_pos (α := LObj) (by omega)])); rw [hs]; simp
    · (repeat (first | rw [new_H, if_neg (α := LObj) (by (try simp only [set_next, new_next]); omega)] | rw [set_H, if_neg (α := LObj) (by omega)] | rw [new_H, if_pos (α := LObj) (by (try simp only [set_next, new_next]))] | rw [set_H, if_pos (α := LObj) (by omega)])); rw [hRl]; rfl
    · (repeat (first | rw [new_H, if_neg (α := LObj) (by (try simp only [set_next, new_next]); omega)] | rw [set_H, if_neg (α := LObj) (by omega)] | rw [new_H, if_pos (α := LObj) (by (try simp only [set_next, new_next]))] | rw [set_H, if_pos (α := LObj) (by omega)])); simp [cellsT, cellT]
    · rw [List.map_append, hbn, hb]; rfl
    · rw [List.map_append, List.nodup_append]
      refine ⟨hnd, by simp, fun x hx y hy => ?_⟩
      obtain ⟨p, hp, rfl⟩ := List.mem_map.1 hx
      simp at hy
      have := (htk p hp).2.1
      omega
    · intro p hp
      rcases List.mem_append.1 hp with hp | hp
      · obtain ⟨h1, h2, h3⟩ := htk p hp
        have t1 : ¬ p.1 = te := box_ne h3 Ht (by simp)
        have t2 : ¬ p.1 = q := box_ne h3 Hq (by simp)
        have t3 : ¬ p.1 = s1.next := box_ne h3 H4 (by simp)
        have t4 : ¬ p.1 = s1.next + 1 := box_ne h3 HM (by simp)
        refine ⟨h1, by simp; omega, ?_⟩
        (repeat (first | rw [new_H, if_neg (α := LObj) (by (try simp only [set_next, new_next]); omega)] | rw [set_H, if_neg (α := LObj) (by omega)] | rw [new_H, if_pos (α := LObj) (by (try simp only [set_next, new_next]))] | rw [set_H, if_pos (α := LObj) (by omega)])); exact h3
      · rw [List.mem_singleton] at hp
        subst hp
        refine ⟨by simp; omega, by simp, ?_⟩
        (repeat (first | rw [new_H, if_neg (α := LObj) (by (try simp only [set_next, new_next]); omega)] | rw [set_H, if_neg (α := LObj) (by omega)] | rw [new_H, if_pos (α := LObj) (by (try simp only [set_next, new_next]))] | rw [set_H, if_pos (α := LObj) (by omega)])); rfl
    · simp only [set_next, new_next]; omega
    · refine ⟨by have := hkps.next; simp only [set_next, new_next]; omega, fun l hl => ?_⟩
      (repeat (first | rw [new_H, if_neg (α := LObj) (by (try simp only [set_next, new_next]); omega)] | rw [set_H, if_neg (α := LObj) (by omega)] | rw [new_H, if_pos (α := LObj) (by (try simp only [set_next, new_next]))] | rw [set_H, if_pos (α := LObj) (by omega)])); exact hkps.H l hl
  obtain ⟨hs, L1, y, L2, B1, r, B2, hL, hyb, hB0, hBl, hB1, hrl⟩ := bnd_old hany
  have hm := hat.old ⟨id, a, b⟩ L1 y L2 hL hyb
  simp only [kE] at hm
  rw [hB0] at hbn
  obtain ⟨R1, R', rfl, hR1, hR'⟩ := List.map_eq_append_iff.1 hbn
  obtain ⟨p, R2, rfl, hpr, hR2⟩ := List.map_eq_cons_iff.1 hR'
  obtain ⟨t0, r0⟩ := p
  simp only at hpr
  subst hpr
  obtain ⟨hb1, hb2, hb3⟩ := htk (t0, r0) (by simp)
  simp only at hb1 hb2 hb3
  have hR1l : R1.length = L1.length := by rw [← hBl, ← hR1, List.length_map]
  have hcl : (cellsT (R1 ++ (t0, r0) :: R2)).length = R1.length + (R2.length + 1) := by rw [cellsT_len]; simp
  have hRl : (R1 ++ (t0, r0) :: R2).length = R1.length + (R2.length + 1) := by simp
  have hcs : cellsT (R1 ++ (t0, r0) :: R2) = cellsT R1 ++ .sl t0 r0.length (us r0) :: cellsT R2 := by simp [cellsT, cellT]
  have hc1 : (cellsT R1).length = R1.length := cellsT_len R1
  have hdl : List.drop R1.length (cellsT R1 ++ LV.sl t0 r0.length (us r0) :: cellsT R2) = .sl t0 r0.length (us r0) :: cellsT R2 := by rw [← hc1]; exact List.drop_left
  have htl : List.take R1.length (cellsT R1 ++ LV.sl t0 r0.length (us r0) :: cellsT R2) = cellsT R1 := by rw [← hc1]; exact List.take_left
  have hdl2 : List.drop (R1.length + 1) (cellsT R1 ++ LV.sl t0 r0.length (us r0) :: cellsT R2) = cellsT R2 := by
    rw [← hc1, show cellsT R1 ++ LV.sl t0 r0.length (us r0) :: cellsT R2 = (cellsT R1 ++ [LV.sl t0 r0.length (us r0)]) ++ cellsT R2 by simp]
    rw [show (cellsT R1).length + 1 = (cellsT R1 ++ [LV.sl t0 r0.length (us r0)]).length by simp]
    exact List.drop_left
  rw [hRl] at f5
  rw [hcs] at Hq
  rw [← hR1l] at hm
  have t00 : ¬ t0 = 0 := by omega
  have m1 : ¬ s1.next = s.next := by omega
  have m1' : ¬ s.next = s1.next := by omega
  have m2 : ¬ s1.next + 1 = s.next := by omega
  have m2' : ¬ s.next = s1.next + 1 := by omega
  have m5 : ¬ t0 = s.next := by omega
  have m6 : ¬ t0 = s.next + 1 := by omega
  have m6b : ¬ t0 = s.next + 2 := by omega
  have m5' : ¬ s.next = t0 := by omega
  have m6' : ¬ s.next + 1 = t0 := by omega
  have m6b' : ¬ s.next + 2 = t0 := by omega
  have m7 : ¬ q = s.next := by omega
  have m8 : ¬ q = s.next + 1 := by omega
  have m9 : ¬ q = s.next + 2 := by omega
  have m9b : ¬ q = s.next + 3 := by omega
  have n4 : ¬ q = t0 := box_ne Hq hb3 (by simp)
  have r2 : ¬ s.next = s.next + 1 + 1 := by omega
  have r3 : ¬ s.next = s.next + 1 + 1 + 1 := by omega
  have p1 : R1.length < R1.length + (R2.length + 1) := by omega
  have p2 : (R1.length : Int) < (R1.length : Int) + ((R2.length : Int) + 1) := by omega
  have hr1 : r0.length ≤ 1000 := by omega
  (repeat' (first | refine awp_seq ?_ | refine awp_block ?_ | ((first | refine awp_skip ?_ | refine awp_exit ?_); simp only [ak, reduceIte]) | (refine awp_ret ?_; simp only [ak, reduceIte]; simp [m1, m1', m2, m2', f4, f5, f6, f18, f19, f20, hlt, hd, hel, hk3, hw, HM, hm]) | (refine awp_cond ?_; simp [m1, m1', m2, m2', f4, f5, f6, f18, f19, f20, hlt, hd, hel, hk3, hw, HM, hm]; (try with_reducible refine ⟨?_, ?_⟩) <;> (try with_reducible intro hc) <;> try (exfalso; omega)) | ((first | (refine w_e [] ?_; intro J hJ; simp only []) | (refine w_q ?_; intro J hJ) | refine e_go ?_); simp [m1, m1', m2, m2', f4, f5, f6, f18, f19, f20, hlt, hd, hel, hk3, hw, HM, hm]; (repeat refine ca ?_); (try ((try with_reducible refine ⟨?_, ?_⟩) <;> (try with_reducible intro hnil) <;> refine hJ _ _ ?_ <;> clear hJ J <;> simp only [ak, reduceIte] <;> try subst hnil)))))
  (refine w_s [] [s.next, q] [(0, true), (1, true), (2, true), (3, true), (4, true), (5, true), (6, true), (7, true), (8, true), (9, true), (10, true), (11, false)] ?_; intro J hJ; simp [m1, m1', m2, m2', m5, m6, m6b, m5', m6', m6b', m7, m8, m9, m9b, n4, r2, r3, f5, Hq, hb3, hc1, hdl, htl, hdl2, p1, p2, t00]; (repeat refine ca ?_); (try ((try with_reducible refine ⟨?_, ?_⟩) <;> (try with_reducible intro hnil) <;> refine hJ _ _ ?_ <;> clear hJ J <;> simp only [ak, reduceIte] <;> try subst hnil)))
  (repeat' (first | refine awp_seq ?_ | refine awp_block ?_ | ((first | refine awp_skip ?_ | refine awp_exit ?_); simp only [ak, reduceIte]) | (refine awp_ret ?_; simp only [ak, reduceIte]; simp [f20, hw]) | (refine awp_cond ?_; simp [f20, hw]; (try with_reducible refine ⟨?_, ?_⟩) <;> (try with_reducible intro hc) <;> try (exfalso; omega)) | ((first | (refine w_e [] ?_; intro J hJ; simp only []) | (refine w_q ?_; intro J hJ) | refine e_go ?_); simp [f20, hw]; (repeat refine ca ?_); (try ((try with_reducible refine ⟨?_, ?_⟩) <;> (try with_reducible intro hnil) <;> refine hJ _ _ ?_ <;> clear hJ J <;> simp only [ak, reduceIte] <;> try subst hnil)))))
  have l2 : ¬ st.next + 1 = q := box_ne H2 Hq (by simp)
  have l3 : ¬ st.next + 1 = t0 := box_ne H2 hb3 (by simp)
  have l4 : ¬ s1.next = q := fun h => q24 h.symm
  have l5 : ¬ s1.next = t0 := box_ne H4 hb3 (by simp)
  have l6 : ¬ s1.next + 1 = q := box_ne HM Hq (by simp)
  have l7 : ¬ s1.next + 1 = t0 := box_ne HM hb3 (by simp)
  have l8 : ¬ te = q := box_ne Ht Hq (by simp)
  have l9 : ¬ te = t0 := box_ne Ht hb3 (by simp)
  refine hJJ (g.es.length - (k + 1)) _ _ (by omega) ⟨k + 1, by omega, rfl, by simp [f2], by simp [f4], by simp [f6], by simp [f18], by simp [f19], by simp, te, q, mes, R1 ++ (s.next + 3, r0 ++ [id]) :: R2, by simp [f5], ?_⟩
  rw [htk1]
  have hnd' := hnd
  rw [List.map_append, List.map_cons, List.nodup_append, List.nodup_cons] at hnd'
  obtain ⟨nd1, ⟨nd2, nd3⟩, nd4⟩ := hnd'
  refine ⟨?_, ?_, ?_, ?_, ?_, ?_, hat.keep hs, ?_, ?_, ?_, ?_⟩
  · (repeat (first | rw [new_H, if_neg (α := LObj) (by (try simp only [set_next, new_next]); omega)] | rw [set_H, if_neg (α := LObj) (by omega)] | rw [new_H, if_pos (α := LObj) (by (try simp only [set_next, new_next]))] | rw [set_H, if_pos (α := LObj) (by omega)])); exact H2
  · (repeat (first | rw [new_H, if_neg (α := LObj) (by (try simp only [set_next, new_next]); omega)] | rw [set_H, if_neg (α := LObj) (by omega)] | rw [new_H, if_pos (α := LObj) (by (try simp only [set_next, new_next]))] | rw [set_H, if_pos (α := LObj) (by omega)])); rw [hs]; exact H4
  · (repeat (first | rw [new_H, if_neg (α := LObj) (by (try simp only [set_next, new_next]); omega)] | rw [set_H, if_neg (α := LObj) (by omega)] | rw [new_H, if_pos (α := LObj) (by (try simp only [set_next, new_next]))] | rw [set_H, if_pos (α := LObj) (by omega)])); rw [hs]; exact Ht
  · (repeat (first | rw [new_H, if_neg (α := LObj) (by (try simp only [set_next, new_next]); omega)] | rw [set_H, if_neg (α := LObj) (by omega)] | rw [new_H, if_pos (α := LObj) (by (try simp only [set_next, new_next]))] | rw [set_H, if_pos (α := LObj) (by omega)])); exact HM
  · (repeat (first | rw [new_H, if_neg (α := LObj) (by (try simp only [set_next, new_next]); omega)] | rw [set_H, if_neg (α := LObj) (by omega)] | rw [new_H, if_pos (α := LObj) (by (try simp only [set_next, new_next]))] | rw [set_H, if_pos (α := LObj) (by omega)])); simp [cellsT, cellT]
  · rw [hB1, List.map_append, List.map_cons, hR1, hR2]
  · rw [List.map_append, List.map_cons, List.nodup_append, List.nodup_cons]
    have lt1 : ∀ x ∈ R1.map (·.1), x < s.next := fun x hx => by
      obtain ⟨p, hp, rfl⟩ := List.mem_map.1 hx
      exact (htk p (by simp [hp])).2.1
    have lt2 : ∀ x ∈ R2.map (·.1), x < s.next := fun x hx => by
      obtain ⟨p, hp, rfl⟩ := List.mem_map.1 hx
      exact (htk p (by simp [hp])).2.1
    refine ⟨nd1, ⟨fun h => by have := lt2 _ h; omega, nd3⟩, fun x hx y hy => ?_⟩
    rcases List.mem_cons.1 hy with rfl | hy
    · have := lt1 x hx; simp only; omega
    · exact nd4 x hx y (List.mem_cons_of_mem _ hy)
  · intro p hp
    have old : ∀ p, p ∈ R1 ∨ p ∈ R2 → ¬ p.1 = t0 → st.next ≤ p.1 ∧ p.1 < s.next ∧ s.H p.1 = .own 41 1 p.2.length ∧ ¬ p.1 = t0 ∧ ¬ p.1 = q := by
      intro p hp hne
      obtain ⟨h1, h2, h3⟩ := htk p (by rcases hp with hp | hp <;> simp [hp])
      exact ⟨h1, h2, h3, hne, box_ne h3 Hq (by simp)⟩
    have hp' : (p ∈ R1 ∨ p ∈ R2) ∧ ¬ p.1 = t0 ∨ p = (s.next + 3, r0 ++ [id]) := by
      rcases List.mem_append.1 hp with hp | hp
      · exact .inl ⟨.inl hp, nd4 _ (List.mem_map.2 ⟨p, hp, rfl⟩) t0 (by simp)⟩
      · rcases List.mem_cons.1 hp with hp | hp
        · exact .inr hp
        · exact .inl ⟨.inr hp, fun h => nd2 (by rw [← h]; exact List.mem_map.2 ⟨p, hp, rfl⟩)⟩
    rcases hp' with ⟨hp, hne⟩ | rfl
    · obtain ⟨h1, h2, h3, t1, t2⟩ := old p hp hne
      refine ⟨h1, by simp only [set_next, new_next]; omega, ?_⟩
      (repeat (first | rw [new_H, if_neg (α := LObj) (by (try simp only [set_next, new_next]); omega)] | rw [set_H, if_neg (α := LObj) (by omega)] | rw [new_H, if_pos (α := LObj) (by (try simp only [set_next, new_next]))] | rw [set_H, if_pos (α := LObj) (by omega)])); exact h3
    · refine ⟨by simp only; omega, by simp, ?_⟩
      simp only
      (repeat (first | rw [new_H, if_neg (α := LObj) (by (try simp only [set_next, new_next]); omega)] | rw [set_H, if_neg (α := LObj) (by omega)] | rw [new_H, if_pos (α := LObj) (by (try simp only [set_next, new_next]))] | rw [set_H, if_pos (α := LObj) (by omega)])); simp
  · simp only [set_next, new_next]; omega
  · refine ⟨by have := hkps.next; simp only [set_next, new_next]; omega, fun l hl => ?_⟩
    (repeat (first | rw [new_H, if_neg (α := LObj) (by (try simp only [set_next, new_next]); omega)] | rw [set_H, if_neg (α := LObj) (by omega)] | rw [new_H, if_pos (α := LObj) (by (try simp only [set_next, new_next]))] | rw [set_H, if_pos (α := LObj) (by omega)])); exact hkps.H l hl

end Go.Proofs.YtomfeddgeihipaaGreat.Aw
