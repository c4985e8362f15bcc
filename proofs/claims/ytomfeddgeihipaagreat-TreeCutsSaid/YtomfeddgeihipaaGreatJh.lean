/- The document's way from one vertex to another one: the walk. A graph that may be, in words. No program. The law BlockPaths. Plain: how far each vertex is: there is an end; how many are reached. No program. Tables of counts: Sum. Tables of counts: Keys, Top. Tables of counts: Add. stat.Girth, stat.Degrees: contracts. tree.Ring, the document's Ring. The document's Ring. The document's Depth. The law of TreeTells. The law TreeCuts. -/
import Derived.Test.YtomfeddgeihipaaGreatJg
import Derived.Test.YtomfeddgeihipaaGreatAwRg
import Derived.Test.YtomfeddgeihipaaGreatAwMr4
import Derived.Test.YtomfeddgeihipaaGreatAwSet
import Derived.Test.YtomfeddgeihipaaGreatAwMr5
import Derived.Test.YtomfeddgeihipaaGreatAwAlt
import Derived.Test.YtomfeddgeihipaaGreatAwShp
namespace Go.Proofs.YtomfeddgeihipaaGreat.Aw
open Go Go.RowKit Go.Proofs.YtomfeddgeihipaaGreat.Pl
set_option linter.unusedSimpArgs false
set_option linter.unusedVariables false

def ns (l : List Nat) : List LV := l.map fun n : Nat => i (n : Int)
theorem ns_len (l : List Nat) : (ns l).length = l.length := by simp [ns]
theorem ns_drop (l : List Nat) (k : Nat) (hk : k < l.length) : (ns l).drop k = i (l.getD k 0 : Nat) :: ns (l.drop (k + 1)) := by
  rw [List.getD_eq_getElem?_getD, List.getElem?_eq_getElem hk, ns, ← List.map_drop, List.drop_eq_getElem_cons hk]; rfl
def fV (F : Fnd) : List Int := F.map (·.1)
def fB (F : Fnd) : List Nat := F.map (·.2)
@[simp] theorem fV_len (F : Fnd) : (fV F).length = F.length := by simp [fV]
@[simp] theorem fB_len (F : Fnd) : (fB F).length = F.length := by simp [fB]
@[simp] theorem ns_len2 (l : List Nat) : (ns l).length = l.length := ns_len l
theorem fV_at (F : Fnd) (k : Nat) (hk : k < F.length) : (us (fV F)).drop k = u (fAt F k) :: us ((fV F).drop (k + 1)) := by
  have := us_drop_getD (fV F) k (by simpa using hk)
  rw [this]
  congr 2
  simp [fV, fAt, List.getD_eq_getElem?_getD, List.getElem?_eq_getElem hk]
theorem fB_at (F : Fnd) (k : Nat) (hk : k < F.length) : (ns (fB F)).drop k = i (pAt F k : Nat) :: ns ((fB F).drop (k + 1)) := by
  have := ns_drop (fB F) k (by simpa using hk)
  rw [this]
  congr 3
  simp [fB, pAt, List.getD_eq_getElem?_getD, List.getElem?_eq_getElem hk]

/-- Rows of the call's own. -/
def OwnN (t e n : Nat) (lo : St) (st : St) : Prop := t ≠ 0 ∧ lo.next ≤ t ∧ t < st.next ∧ st.H t = .own e 1 n

def nearR (g : Gr) (v : Int) : List Int := g.vs.filter fun w => decide (adj g.es v w)
theorem nearR_len (g : Gr) (v : Int) : (nearR g v).length ≤ g.vs.length := List.length_filter_le _ _

theorem awp_cut1B {P : Program} {N : Nat} {Q : AQ} {k : List AItem} {fr : Frm} {st : St} {x y : Code} (I : Frm → St → Prop) (h1 : AWp P N x (AK P N (fun e f s => e = .normal ∧ I f s) []) fr st) (h2 : ∀ fr st, I fr st → AWp P N y (AK P N Q k) fr st) :
    AWp P N x (AK P N Q (.code y :: k)) fr st := by
  refine awp_mono h1 ?_
  rintro e fr' st' ⟨rfl, hI⟩
  rw [ak_code]
  exact h2 _ _ hI
/-- What stays all along. -/
def PF (g : Gr) (from' to : Int) (tt : Nat) (th : List Int) (al : Bool) (st : St) (fr : Frm) (s : St) : Prop :=
  fr 1 = u from' ∧ fr 2 = u to ∧ fr 3 = .sl tt th.length (us th) ∧ fr 4 = bb al ∧ fr 5 = .pt st.next 0 ∧ s.H st.next = .box 38 2 (grL g) ∧ st.next < s.next ∧ Keeps st s
def FB (F : Fnd) (st : St) (fr : Frm) (s : St) : Prop := ∃ tf tb, fr 11 = .sl tf F.length (us (fV F)) ∧ fr 12 = .sl tb F.length (ns (fB F)) ∧ OwnN tf 41 F.length st s ∧ OwnN tb 3 F.length st s
def PI (g : Gr) (from' to : Int) (tt : Nat) (th : List Int) (al : Bool) (st s : St) (k : Nat) (v : Int) (F : Fnd) (m : Bool) (f : Frm) (s' : St) : Prop :=
  s' = s ∧ f 13 = i k ∧ f 14 = u v ∧ f 18 = bb m ∧ PF g from' to tt th al st f s' ∧ FB F st f s'
theorem OwnN.keeps {t e n : Nat} {lo s s' : St} (h : OwnN t e n lo s) (k : Keeps s s') : OwnN t e n lo s' := by
  obtain ⟨h1, h2, h3, h4⟩ := h
  exact ⟨h1, h2, Nat.lt_of_lt_of_le h3 k.next, by rw [k.H t h3]; exact h4⟩

set_option maxHeartbeats 4000000 in
theorem ref_nPath (g : Gr) (from' to : Int) (th : List Int) (tt : Nat) (al : Bool) (n : Nat) (l : List Int) (st : St) (hv : g.vs.length ≤ 1000) (he : g.es.length ≤ 1000) (hth : th.length ≤ 1000) (hn : n ≤ 1000)
    (hl : refPath g.vs (nearR g) (fun v => al || decide (v ∈ th)) from' to n = some l) :
    ACalls Tryz.prog 45 [.ag (grL g), u from', u to, .sl tt th.length (us th), bb al] st fun r st' => r = .sl 0 l.length (us l) ∧ Keeps st st' := by
  have hsm : small g.vs := by unfold small; omega
  refine acalls_z0 ?_
  refine acalls_of_body tabOk Tryz.func45 rfl rfl Tryz.ntmps45 (rs := [.tmp 10]) rfl (by simp) ?_
  refine awp_posG fun hpos => ?_
  (repeat' (first | refine awp_seq ?_ | (refine w_e [] ?_; intro J hJ; simp only []; simp []; (try (refine hJ _ _ ?_; clear hJ J; simp only [ak, reduceIte])))))
  refine callK_ofE (Has g from' _ hsm) (by simp) ?_; rintro r s1 ⟨rfl, hk1⟩
  have hn1 := hk1.next
  simp only [new_next] at hn1
  have hG1 : s1.H st.next = .box 38 2 (grL g) := by rw [hk1.H _ (by simp)]; simp
  have hkp1 : Keeps st s1 := (Keeps.new _ _).trans hk1
  clear hk1
  unfold refPath at hl
  by_cases hf : from' ∈ g.vs
  rotate_left
  · rw [if_pos (.inl hf)] at hl
    injection hl with hl
    subst hl
    (refine e_go ?_; simp [hf]; (refine hJ _ _ ?_; clear hJ J; simp only [ak, reduceIte]))
    (repeat' (first | refine awp_seq ?_ | (refine awp_ret ?_; simp only [ak, reduceIte]; simp []) | (refine awp_cond ?_; simp []) | (refine w_e [] ?_; intro J hJ; simp only []; simp []; (refine hJ _ _ ?_; clear hJ J; simp only [ak, reduceIte]))))
    exact ⟨rfl, hkp1⟩
  (refine e_go ?_; simp [hf, hG1])
  refine callK_ofE (Has g to _ hsm) (by simp) ?_; rintro r s2 ⟨rfl, hk2⟩
  have hn2 := hk2.next
  have hG2 := (hk2.H st.next (by omega)).trans hG1
  have hkp2 := hkp1.trans hk2
  clear hk2 hkp1 hG1
  by_cases ht : to ∈ g.vs
  rotate_left
  · rw [if_pos (.inr ht)] at hl
    injection hl with hl
    subst hl
    (refine e_go ?_; simp [ht]; (refine hJ _ _ ?_; clear hJ J; simp only [ak, reduceIte]))
    (repeat' (first | refine awp_seq ?_ | (refine awp_ret ?_; simp only [ak, reduceIte]; simp []) | (refine awp_cond ?_; simp []) | (refine w_e [] ?_; intro J hJ; simp only []; simp []; (refine hJ _ _ ?_; clear hJ J; simp only [ak, reduceIte]))))
    exact ⟨rfl, hkp2⟩
  rw [if_neg (by simp [hf, ht])] at hl
  (refine e_go ?_; simp [ht]; (refine hJ _ _ ?_; clear hJ J; simp only [ak, reduceIte]))
  obtain ⟨R0, hrun, hR0⟩ : ∃ R0, refRun (nearR g) (fun v => al || decide (v ∈ th)) to n 0 [(from', 0)] = some R0 ∧ ((R0 = none ∧ l = []) ∨ ∃ F k, R0 = some (F, k) ∧ l = from' :: (chainF F k k).reverse) := by
    cases hb : refRun (nearR g) (fun v => al || decide (v ∈ th)) to n 0 [(from', 0)] with
    | none => rw [hb] at hl; cases hl
    | some R0 =>
      rw [hb] at hl
      rcases R0 with _ | ⟨F, k⟩
      · injection hl with hl; exact ⟨_, rfl, .inl ⟨rfl, hl.symm⟩⟩
      · injection hl with hl; exact ⟨_, rfl, .inr ⟨F, k, rfl, hl.symm⟩⟩
  clear hl
  (repeat' (first | refine awp_seq ?_ | refine awp_block ?_ | (refine awp_skip ?_; simp only [ak, reduceIte]) | (refine awp_cond ?_; simp []) | (refine w_e [] ?_; intro J hJ; simp only []; simp []; (refine hJ _ _ ?_; clear hJ J; simp only [ak, reduceIte]))))
  refine awp_loop (fun m fr s => ∃ (k : Nat) (F : Fnd), refRun (nearR g) (fun v => al || decide (v ∈ th)) to m k F = some R0 ∧ m ≤ n ∧ F.length + 1000 * m ≤ 1000 * n + 1 ∧ Par F ∧ 0 < F.length ∧ k ≤ F.length ∧ fr 13 = i k ∧ PF g from' to tt th al st fr s ∧ FB F st fr s) n ?_ ?_
  · refine ⟨0, _, hrun, Nat.le_refl _, by simp; omega, fun k h0 h1 => by simp at h1; omega, by simp, by simp, by simp, ?_, s2.next, s2.next + 1, by simp [fV], by simp [ns, fB], ⟨by omega, by omega, by simp; omega, by simp⟩, ⟨by omega, by omega, by simp, by simp⟩⟩
    have e1 : ¬ st.next = s2.next := by omega
    have e2 : ¬ st.next = s2.next + 1 := by omega
    exact ⟨by simp, by simp, by simp, by simp, by simp, by simp [e1, e2, hG2], by simp; omega, (hkp2.trans (Keeps.new _ _)).trans (Keeps.new _ _)⟩
  clear hrun hG2 hkp2 hn2 hn1
  rintro m fr s ⟨k, F, hrun, hm, hFm, hpar, hF0, hkF, f13, ⟨f1, f2, f3, f4, f5, hG, hsn, hkp⟩, tf, tb, f11, f12, hof, hob⟩ JJ hJJ
  by_cases hlt : k < F.length
  rotate_left
  · clear hJJ
    have h1 : R0 = none := by cases m <;> (simp only [refRun, if_neg hlt, Option.some.injEq] at hrun; exact hrun.symm)
    subst h1
    rcases hR0 with ⟨_, rfl⟩ | ⟨_, _, h, _⟩
    · (repeat' (first | refine awp_seq ?_ | (refine awp_exit ?_; simp only [ak, reduceIte]) | (refine awp_ret ?_; simp only [ak, reduceIte]; simp [f13, f11, hlt]) | (refine awp_cond ?_; simp [f13, f11, hlt]) | (refine w_e [] ?_; intro J hJ; simp only []; simp [f13, f11, hlt]; (refine hJ _ _ ?_; clear hJ J; simp only [ak, reduceIte]))))
      exact ⟨rfl, hkp⟩
    · cases h
  cases m with
  | zero => simp [refRun, hlt] at hrun
  | succ m =>
  have hFl : F.length ≤ 1000001 := by omega
  simp only [refRun, if_pos hlt] at hrun
  have hfa := fV_at F k hlt
  have hw := nat_add_one k (by omega)
  generalize hv0 : fAt F k = v at *
  by_cases hvt : v = to
  · clear hJJ
    rw [if_pos hvt] at hrun
    injection hrun with hrun
    subst hrun
    rcases hR0 with ⟨h, _⟩ | ⟨F2, k2, h, rfl⟩
    · cases h
    injection h with h
    injection h with h1 h2
    subst h1 h2
    subst hvt
    (repeat (first | refine awp_seq ?_ | refine awp_block ?_))
    (repeat' (first | refine awp_seq ?_ | refine awp_block ?_ | (refine awp_skip ?_; simp only [ak, reduceIte]) | (refine awp_cond ?_; simp [f13, f11, f2, hlt, hfa]) | (refine w_e [] ?_; intro J hJ; simp only []; simp [f13, f11, f2, hlt, hfa]; (refine hJ _ _ ?_; clear hJ J; simp only [ak, reduceIte]))))
    refine awp_own 15 41 1 (by simp) ?_
    obtain ⟨of1, of2, of3, of4⟩ := hof
    obtain ⟨ob1, ob2, ob3, ob4⟩ := hob
    refine awp_loop (fun z fr s2 => ∃ (j : Nat) (B : List Int), chainF F k k = B ++ chainF F z j ∧ j ≤ z ∧ z ≤ k ∧ j < F.length ∧ B.length + z = k ∧ fr 1 = u from' ∧ fr 11 = .sl tf F.length (us (fV F)) ∧ fr 12 = .sl tb F.length (ns (fB F)) ∧ fr 13 = i j ∧ s.next ≤ s2.next ∧ Keeps st s2 ∧ ∃ t, fr 15 = .sl t B.length (us B) ∧ OwnN t 41 B.length st s2) k ?_ ?_
    · exact ⟨k, [], rfl, Nat.le_refl _, Nat.le_refl _, hlt, by simp, by simp [f1], by simp [f11], by simp [f12], by simp [f13], by simp, hkp.trans (Keeps.new _ _), s.next, by simp, by omega, by omega, by simp, by simp⟩
    clear f1 f2 f3 f4 f5 f11 f12 f13 hG hsn hkp of1 of2 of3 of4 ob1 ob2 ob3 ob4 hfa fr
    rintro z fr s2 ⟨j, B, hch, hjz, hzk, hjF, hBl, f1, f11, f12, f13, hs2, hkp, t, f15, t1, t2, t3, t4⟩ J3 hJ3
    by_cases hj : j = 0
    · clear hJ3
      have hB : chainF F k k = B := by
        rw [hch]
        cases z <;> simp [chainF, hj]
      rw [hB]
      have hBB : B.length ≤ 1000001 := by omega
      clear hch hjz hzk hBl hB
      have hj2 : ¬ (0 : Int) < j := by omega
      have w1 : IntKind.i64.wrap ((B.length : Int) - 1) = (B.length : Int) - 1 := wrap_i64 _ (by omega) (by omega)
      subst hj
      (repeat' (first | refine awp_seq ?_ | refine awp_block ?_ | (refine awp_exit ?_; simp only [ak, reduceIte]) | (refine awp_cond ?_; simp [f1, f13, f15, w1]) | (refine w_e [] ?_; intro J hJ; simp only []; simp [f1, f13, f15, w1]; (refine hJ _ _ ?_; clear hJ J; simp only [ak, reduceIte]))))
      refine awp_loop (fun z fr s3 => z ≤ B.length ∧ fr 15 = .sl t B.length (us B) ∧ fr 17 = i ((z : Int) - 1) ∧ Keeps st s3 ∧ ∃ t2, fr 16 = .sl t2 (from' :: (B.drop z).reverse).length (us (from' :: (B.drop z).reverse)) ∧ OwnN t2 41 (from' :: (B.drop z).reverse).length st s3) B.length ?_ ?_
      · exact ⟨Nat.le_refl _, by simp [f15], by simp, hkp.trans (Keeps.new _ _), s2.next, by simp, by omega, by omega, by simp, by simp⟩
      clear f1 f11 f12 f13 f15 hkp t1 t2 t3 t4 hs2 fr
      rintro z fr s3 ⟨hz, f15, f17, hkp, t2, f16, a1, a2, a3, a4⟩ J4 hJ4
      cases z with
      | zero =>
        clear hJ4
        have h0 : ¬ (0 : Int) ≤ (0 : Int) - 1 := by omega
        (repeat' (first | refine awp_seq ?_ | (refine awp_exit ?_; simp only [ak, reduceIte]) | (refine awp_ret ?_; simp only [ak, reduceIte]; simp [f16, f17, h0]) | (refine awp_cond ?_; simp [f16, f17, h0]) | (refine w_e [] ?_; intro J hJ; simp only []; simp [f16, f17, h0]; (refine hJ _ _ ?_; clear hJ J; simp only [ak, reduceIte]))))
        refine ⟨?_, hkp⟩
        simp only [z0]
        congr 1
        have h := z0_us (from' :: B.reverse)
        simpa using h
      | succ z =>
        have h0 : (0 : Int) ≤ ((z + 1 : Nat) : Int) - 1 := by omega
        have hz1 : ((z + 1 : Nat) : Int) - 1 = z := by omega
        rw [hz1] at f17
        have hzl : z < B.length := by omega
        have hBd := us_drop_getD B z hzl
        have hdr : B.drop z = B.getD z 0 :: B.drop (z + 1) := by
          rw [List.getD_eq_getElem?_getD, List.getElem?_eq_getElem hzl]; exact List.drop_eq_getElem_cons hzl
        have w2 : IntKind.i64.wrap ((z : Int) - 1) = (z : Int) - 1 := wrap_i64 _ (by omega) (by omega)
        generalize B.getD z 0 = x at *
        have hdl : (B.drop (z + 1)).length ≤ 1000001 := by rw [List.length_drop]; omega
        have hrv : from' :: (B.drop z).reverse = (from' :: (B.drop (z + 1)).reverse) ++ [x] := by rw [hdr]; simp
        generalize hO : from' :: (B.drop (z + 1)).reverse = O at *
        have hOl : O.length ≤ 1000002 := by rw [← hO]; simp only [List.length_cons, List.length_reverse]; omega
        have q1 : ¬ t2 = s3.next := by omega
        (repeat' (first | refine awp_seq ?_ | refine awp_block ?_ | (refine awp_skip ?_; simp only [ak, reduceIte]) | (refine awp_cond ?_; simp [f15, f16, f17, hzl, hBd, w2, a4, q1, a1]) | (refine w_e [] ?_; intro J hJ; simp only []; simp [f15, f16, f17, hzl, hBd, w2, a4, q1, a1]; (repeat refine ca ?_); (refine hJ _ _ ?_; clear hJ J; simp only [ak, reduceIte]))))
        refine hJ4 z _ _ (by omega) ⟨by omega, by simp [f15], by simp, ?_, s3.next + 1, by rw [hrv]; simp, by omega, by omega, by simp, by rw [hrv]; simp⟩
        exact (((hkp.trans (Keeps.new _ _)).set a2 _).trans (Keeps.new _ _))
    · cases z with
      | zero => omega
      | succ z =>
      simp only [chainF, if_neg hj] at hch
      have hj2 : (0 : Int) < j := by omega
      have hj3 : 0 < j := by omega
      have hpj := hpar j hj3 hjF
      have hfa := fV_at F j hjF
      have hfb := fB_at F j hjF
      have q1 : ¬ t = s2.next := by omega
      have hBB : B.length ≤ 1000001 := by omega
      (repeat' (first | refine awp_seq ?_ | refine awp_block ?_ | (refine awp_skip ?_; simp only [ak, reduceIte]) | (refine awp_cond ?_; simp [f11, f12, f13, f15, hj2, hj3, hjF, hfa, hfb, t4, q1, t1]) | (refine w_e [] ?_; intro J hJ; simp only []; simp [f11, f12, f13, f15, hj2, hj3, hjF, hfa, hfb, t4, q1, t1]; (repeat refine ca ?_); (refine hJ _ _ ?_; clear hJ J; simp only [ak, reduceIte]))))
      refine hJ3 z _ _ (by omega) ⟨pAt F j, B ++ [fAt F j], by rw [hch]; simp, by omega, by omega, by omega, by simp; omega, by simp [f1], by simp [f11], by simp [f12], by simp, by simp; omega, ?_, s2.next + 1, by simp, by omega, by omega, by simp, by simp⟩
      exact (((hkp.trans (Keeps.new _ _)).set t2 _).trans (Keeps.new _ _))
  rw [if_neg hvt] at hrun
  have hvt2 : (v == to) = false := by simpa using hvt
  (repeat (first | refine awp_seq ?_ | refine awp_block ?_))
  have hk0 : ((k : Int) == 0) = decide (k = 0) := by
    by_cases h : k = 0
    · simp [h]
    · have : ¬ (k : Int) = 0 := by omega
      simp [h]
  (refine w_e [] ?_; intro J hJ; simp only []; simp [f13, f11, hlt]; (refine hJ _ _ ?_; clear hJ J; simp only [ak, reduceIte]))
  (repeat (first | refine awp_seq ?_ | refine awp_block ?_))
  (refine awp_cond ?_; simp [])
  refine awp_skip ?_; simp only [ak]
  (repeat (first | refine awp_seq ?_ | refine awp_block ?_))
  (refine w_e [] ?_; intro J hJ; simp only []; simp [f13, f11, hlt, hfa]; (refine hJ _ _ ?_; clear hJ J; simp only [ak, reduceIte]))
  (repeat (first | refine awp_seq ?_ | refine awp_block ?_))
  (refine w_e [] ?_; intro J hJ; simp only []; simp [f2, hvt2]; (refine hJ _ _ ?_; clear hJ J; simp only [ak, reduceIte]))
  (repeat (first | refine awp_seq ?_ | refine awp_block ?_))
  (refine awp_cond ?_; simp [hvt, hvt2])
  refine awp_skip ?_; simp only [ak]
  refine awp_seq ?_
  refine awp_cut1B (PI g from' to tt th al st s k v F (al || decide (k = 0))) ?_ ?_
  · clear hJJ
    have fin : ∀ (f : Frm), f 13 = i k → f 14 = u v → f 18 = bb (al || decide (k = 0)) → f 1 = u from' → f 2 = u to → f 3 = .sl tt th.length (us th) → f 4 = bb al → f 5 = .pt st.next 0 → f 11 = .sl tf F.length (us (fV F)) → f 12 = .sl tb F.length (ns (fB F)) → PI g from' to tt th al st s k v F (al || decide (k = 0)) f s :=
      fun f g1 g2 g3 g4 g5 g6 g7 g8 g9 g10 => ⟨rfl, g1, g2, g3, ⟨g4, g5, g6, g7, g8, hG, hsn, hkp⟩, tf, tb, g9, g10, hof, hob⟩
    cases al
    · by_cases h0 : k = 0
      · have h1 : ((k : Int) == 0) = true := by rw [hk0]; simp [h0]
        (repeat' (refine w_e [] ?_; intro J hJ; simp only []; simp [f4, f13, h1]; (refine hJ _ _ ?_; clear hJ J; simp only [ak, reduceIte])))
        exact ⟨by trivial, fin _ (by simp [f13]) (by simp) (by simp [h0]) (by simp [f1]) (by simp [f2]) (by simp [f3]) (by simp [f4]) (by simp [f5]) (by simp [f11]) (by simp [f12])⟩
      · have h1 : ((k : Int) == 0) = false := by rw [hk0]; simp [h0]
        (repeat' (refine w_e [] ?_; intro J hJ; simp only []; simp [f4, f13, h1]; (refine hJ _ _ ?_; clear hJ J; simp only [ak, reduceIte])))
        exact ⟨by trivial, fin _ (by simp [f13]) (by simp) (by simp [h0]) (by simp [f1]) (by simp [f2]) (by simp [f3]) (by simp [f4]) (by simp [f5]) (by simp [f11]) (by simp [f12])⟩
    · (repeat' (refine w_e [] ?_; intro J hJ; simp only []; simp [f4, f13]; (refine hJ _ _ ?_; clear hJ J; simp only [ak, reduceIte])))
      exact ⟨by trivial, fin _ (by simp [f13]) (by simp) (by simp) (by simp [f1]) (by simp [f2]) (by simp [f3]) (by simp [f4]) (by simp [f5]) (by simp [f11]) (by simp [f12])⟩
  clear f1 f2 f3 f4 f5 f11 f12 f13 hG hsn hkp hof hob hfa tf tb fr
  rintro fr s' ⟨rfl, f13, f14, f18, ⟨f1, f2, f3, f4, f5, hG, hsn, hkp⟩, tf, tb, f11, f12, hof, hob⟩
  (repeat' (first | refine awp_seq ?_ | refine awp_block ?_ | (refine w_e [] ?_; intro J hJ; simp only []; simp [f3]; (refine hJ _ _ ?_; clear hJ J; simp only [ak, reduceIte]))))
  refine awp_range 89 88 90 96 (th.length) (fun j fr st2 => fr 87 = .sl tt th.length (us th) ∧ PI g from' to tt th al st s' k v F ((al || decide (k = 0)) || decide (v ∈ th.take j)) fr st2) ?_ ?_ ?_
  · exact ⟨by simp, rfl, by simp [f13], by simp [f14], by simp [f18], ⟨by simp [f1], by simp [f2], by simp [f3], by simp [f4], by simp [f5], hG, hsn, hkp⟩, tf, tb, by simp [f11], by simp [f12], hof, hob⟩
  · clear f1 f2 f3 f4 f5 f11 f12 f13 f14 f18 hG hsn hkp hof hob tf tb hJJ fr
    rintro j fr s hlj ⟨f87, rfl, f13, f14, f18, ⟨f1, f2, f3, f4, f5, hG, hsn, hkp⟩, tf, tb, f11, f12, hof, hob⟩ fi fn J hJ
    have hdj := us_drop_getD th j hlj
    have htj : th.take (j + 1) = th.take j ++ [th.getD j 0] := by
      rw [List.getD_eq_getElem?_getD, List.getElem?_eq_getElem hlj]; exact List.take_succ_eq_append_getElem hlj
    generalize th.getD j 0 = y at *
    have fin : ∀ (f : Frm) (b : Bool), f 89 = i j → f 88 = i th.length → f 87 = .sl tt th.length (us th) → f 13 = i k → f 14 = u v → f 18 = bb b → f 1 = u from' → f 2 = u to → f 3 = .sl tt th.length (us th) → f 4 = bb al → f 5 = .pt st.next 0 → f 11 = .sl tf F.length (us (fV F)) → f 12 = .sl tb F.length (ns (fB F)) → b = ((al || decide (k = 0)) || decide (v ∈ th.take (j + 1))) → J f s :=
      fun f b g1 g2 g3 g4 g5 g6 g7 g8 g9 g10 g11 g12 g13 g14 => hJ _ _ g1 g2 ⟨by simp [g3], rfl, by simp [g4], by simp [g5], by simp [g6, g14], ⟨by simp [g7], by simp [g8], by simp [g9], by simp [g10], by simp [g11], hG, hsn, hkp⟩, tf, tb, by simp [g12], by simp [g13], hof, hob⟩
    by_cases hy : y = v
    · have hy2 : (y == v) = true := by simpa using hy
      (repeat' (first | refine awp_seq ?_ | (refine awp_cond ?_; simp [f87, f14, fi, fn, hdj, hlj, hy2]) | (refine w_e [] ?_; intro J hJ; simp only []; simp [f87, f14, fi, fn, hdj, hlj, hy2]; (refine hJ _ _ ?_; clear hJ J; simp only [ak, reduceIte]))))
      exact fin _ true (by simp [fi]) (by simp [fn]) (by simp [f87]) (by simp [f13]) (by simp [f14]) (by simp) (by simp [f1]) (by simp [f2]) (by simp [f3]) (by simp [f4]) (by simp [f5]) (by simp [f11]) (by simp [f12]) (by rw [htj]; simp [hy])
    · have hy2 : (y == v) = false := by simpa using hy
      have hy3 : ¬ v = y := fun h => hy h.symm
      (repeat' (first | refine awp_seq ?_ | (refine awp_skip ?_; simp only [ak, reduceIte]) | (refine awp_cond ?_; simp [f87, f14, fi, fn, hdj, hlj, hy2]) | (refine w_e [] ?_; intro J hJ; simp only []; simp [f87, f14, fi, fn, hdj, hlj, hy2]; (refine hJ _ _ ?_; clear hJ J; simp only [ak, reduceIte]))))
      exact fin _ _ (by simp [fi]) (by simp [fn]) (by simp [f87]) (by simp [f13]) (by simp [f14]) (by simp; exact f18) (by simp [f1]) (by simp [f2]) (by simp [f3]) (by simp [f4]) (by simp [f5]) (by simp [f11]) (by simp [f12]) (by rw [htj]; simp [hy3])
  clear f1 f2 f3 f4 f5 f11 f12 f13 f14 f18 hG hsn hkp hof hob tf tb fr
  rintro fr s ⟨f87, rfl, f13, f14, f18, ⟨f1, f2, f3, f4, f5, hG, hsn, hkp⟩, tf, tb, f11, f12, hof, hob⟩
  rw [List.take_length] at f18
  have hmayE : ((al || decide (k = 0)) || decide (v ∈ th)) = decide (k = 0 ∨ (al || decide (v ∈ th)) = true) := by
    cases al <;> by_cases h1 : k = 0 <;> by_cases h2 : v ∈ th <;> simp [h1, h2]
  rw [hmayE] at f18
  by_cases hmay : k = 0 ∨ (al || decide (v ∈ th)) = true
  rotate_left
  · rw [decide_eq_false hmay] at f18
    rw [if_neg hmay] at hrun
    (repeat' (first | refine awp_seq ?_ | (refine awp_exit ?_; simp only [ak, reduceIte]) | (refine awp_cond ?_; simp [f18, f13, hw]) | (refine w_e [] ?_; intro J hJ; simp only []; simp [f18, f13, hw]; (refine hJ _ _ ?_; clear hJ J; simp only [ak, reduceIte]))))
    exact hJJ m _ _ (by omega) ⟨k + 1, F, hrun, by omega, by omega, hpar, hF0, by omega, by simp, ⟨by simp [f1], by simp [f2], by simp [f3], by simp [f4], by simp [f5], hG, hsn, hkp⟩, tf, tb, by simp [f11], by simp [f12], hof, hob⟩
  rw [decide_eq_true hmay] at f18
  rw [if_pos hmay] at hrun
  (repeat' (first | refine awp_seq ?_ | (refine awp_skip ?_; simp only [ak, reduceIte]) | (refine awp_cond ?_; simp [f18, f5, f14, hG]) | (refine w_e [] ?_; intro J hJ; simp only []; simp [f18, f5, f14, hG]; (try (refine hJ _ _ ?_; clear hJ J; simp only [ak, reduceIte])))))
  refine callK_ofE (ref_nNear g v _ hv he) (by simp) ?_; rintro r s2 ⟨rfl, hk2⟩
  have hn2 := hk2.next
  have hG2 := (hk2.H st.next (by omega)).trans hG
  have hrl := nearR_len g v
  have hrow : (g.vs.filter fun w => decide (adj g.es v w)) = nearR g v := rfl
  rw [hrow]
  generalize nearR g v = row at *
  (repeat' (first | refine awp_block ?_ | (refine e_go ?_; simp []; (refine hJ _ _ ?_; clear hJ J; simp only [ak, reduceIte]))))
  refine awp_range 103 102 104 127 (row.length) (fun j fr st2 => fr 101 = .sl 0 row.length (us row) ∧ fr 13 = i k ∧ PF g from' to tt th al st fr st2 ∧ FB (scanR k F (row.take j)) st fr st2) ?_ ?_ ?_
  · exact ⟨by simp, by simp [f13], ⟨by simp [f1], by simp [f2], by simp [f3], by simp [f4], by simp [f5], hG2, by omega, hkp.trans hk2⟩, tf, tb, by simp [scanR, f11], by simp [scanR, f12], hof.keeps hk2, hob.keeps hk2⟩
  · clear f1 f2 f3 f4 f5 f11 f12 f13 f14 f18 f87 hG hsn hkp hof hob tf tb fr hG2 hn2 hk2 hJJ
    rintro j0 fr s3 hlj ⟨f101, f13, ⟨f1, f2, f3, f4, f5, hG, hsn, hkp⟩, tf, tb, f11, f12, hof, hob⟩ fi fn JO hJO
    have hdj := us_drop_getD row j0 hlj
    have htj : row.take (j0 + 1) = row.take j0 ++ [row.getD j0 0] := by
      rw [List.getD_eq_getElem?_getD, List.getElem?_eq_getElem hlj]; exact List.take_succ_eq_append_getElem hlj
    have hsc := scanR_snoc k F (row.take j0) (row.getD j0 0)
    rw [← htj] at hsc
    have hgl := (scanR_len k F (row.take j0)).2
    rw [List.length_take] at hgl
    generalize row.getD j0 0 = x at *
    generalize scanR k F (row.take j0) = G at *
    have hGl : G.length ≤ 1002001 := by omega
    (repeat' (first | refine awp_seq ?_ | refine awp_block ?_ | (refine w_e [] ?_; intro J hJ; simp only []; simp [f11, f101, fi, fn, hdj, hlj]; (refine hJ _ _ ?_; clear hJ J; simp only [ak, reduceIte]))))
    refine awp_range 109 108 110 116 (G.length) (fun j fr st2 => st2 = s3 ∧ fr 107 = .sl tf G.length (us (fV G)) ∧ fr 23 = bb (decide (x ∈ (fV G).take j)) ∧ fr 103 = i j0 ∧ fr 102 = i row.length ∧ fr 101 = .sl 0 row.length (us row) ∧ fr 22 = u x ∧ fr 13 = i k ∧ fr 1 = u from' ∧ fr 2 = u to ∧ fr 3 = .sl tt th.length (us th) ∧ fr 4 = bb al ∧ fr 5 = .pt st.next 0 ∧ fr 11 = .sl tf G.length (us (fV G)) ∧ fr 12 = .sl tb G.length (ns (fB G))) ?_ ?_ ?_
    · exact ⟨rfl, by simp, by simp, by simp [fi], by simp [fn], by simp [f101], by simp, by simp [f13], by simp [f1], by simp [f2], by simp [f3], by simp [f4], by simp [f5], by simp [f11], by simp [f12]⟩
    · clear f1 f2 f3 f4 f5 f11 f12 f13 f101 fi fn hJO fr
      rintro j fr s4 hlj2 ⟨rfl, f107, f23, f103, f102, f101, f22, f13, f1, f2, f3, f4, f5, f11, f12⟩ fi fn J hJ
      have hd2 := us_drop_getD (fV G) j (by simpa using hlj2)
      have ht2 : (fV G).take (j + 1) = (fV G).take j ++ [(fV G).getD j 0] := by
        rw [List.getD_eq_getElem?_getD, List.getElem?_eq_getElem (by simpa using hlj2)]; exact List.take_succ_eq_append_getElem (by simpa using hlj2)
      generalize (fV G).getD j 0 = y at *
      have fin : ∀ (f : Frm) (b : Bool), f 109 = i j → f 108 = i G.length → f 107 = .sl tf G.length (us (fV G)) → f 23 = bb b → f 103 = i j0 → f 102 = i row.length → f 101 = .sl 0 row.length (us row) → f 22 = u x → f 13 = i k → f 1 = u from' → f 2 = u to → f 3 = .sl tt th.length (us th) → f 4 = bb al → f 5 = .pt st.next 0 → f 11 = .sl tf G.length (us (fV G)) → f 12 = .sl tb G.length (ns (fB G)) → b = decide (x ∈ (fV G).take (j + 1)) → J f s4 :=
        fun f b g1 g2 g3 g4 g5 g6 g7 g8 g9 g10 g11 g12 g13 g14 g15 g16 g17 => hJ _ _ g1 g2 ⟨rfl, by simp [g3], by simp [g4, g17], by simp [g5], by simp [g6], by simp [g7], by simp [g8], by simp [g9], by simp [g10], by simp [g11], by simp [g12], by simp [g13], by simp [g14], by simp [g15], by simp [g16]⟩
      by_cases hy : y = x
      · have hy2 : (y == x) = true := by simpa using hy
        (repeat' (first | refine awp_seq ?_ | (refine awp_cond ?_; simp [f107, f22, fi, fn, hd2, hlj2, hy2]) | (refine w_e [] ?_; intro J hJ; simp only []; simp [f107, f22, fi, fn, hd2, hlj2, hy2]; (refine hJ _ _ ?_; clear hJ J; simp only [ak, reduceIte]))))
        exact fin _ true (by simp [fi]) (by simp [fn]) (by simp [f107]) (by simp) (by simp [f103]) (by simp [f102]) (by simp [f101]) (by simp [f22]) (by simp [f13]) (by simp [f1]) (by simp [f2]) (by simp [f3]) (by simp [f4]) (by simp [f5]) (by simp [f11]) (by simp [f12]) (by rw [ht2]; simp [hy])
      · have hy2 : (y == x) = false := by simpa using hy
        have hy3 : ¬ x = y := fun h => hy h.symm
        (repeat' (first | refine awp_seq ?_ | (refine awp_skip ?_; simp only [ak, reduceIte]) | (refine awp_cond ?_; simp [f107, f22, fi, fn, hd2, hlj2, hy2]) | (refine w_e [] ?_; intro J hJ; simp only []; simp [f107, f22, fi, fn, hd2, hlj2, hy2]; (refine hJ _ _ ?_; clear hJ J; simp only [ak, reduceIte]))))
        exact fin _ _ (by simp [fi]) (by simp [fn]) (by simp [f107]) (by simp; exact f23) (by simp [f103]) (by simp [f102]) (by simp [f101]) (by simp [f22]) (by simp [f13]) (by simp [f1]) (by simp [f2]) (by simp [f3]) (by simp [f4]) (by simp [f5]) (by simp [f11]) (by simp [f12]) (by rw [ht2]; simp [hy3])
    · clear f1 f2 f3 f4 f5 f11 f12 f13 f101 fi fn fr
      rintro fr s4 ⟨rfl, f107, f23, f103, f102, f101, f22, f13, f1, f2, f3, f4, f5, f11, f12⟩
      rw [List.take_of_length_le (by simp)] at f23
      by_cases hin : x ∈ fV G
      · have h1 : scanR1 k G x = G := by unfold scanR1; exact if_pos hin
        rw [h1] at hsc
        rw [decide_eq_true hin] at f23
        (repeat' (first | refine awp_seq ?_ | (refine awp_skip ?_; simp only [ak, reduceIte]) | (refine awp_cond ?_; simp [f23]) | (refine w_e [] ?_; intro J hJ; simp only []; simp [f23]; (refine hJ _ _ ?_; clear hJ J; simp only [ak, reduceIte]))))
        exact hJO _ _ (by simp [f103]) (by simp [f102]) ⟨by simp [f101], by simp [f13], ⟨by simp [f1], by simp [f2], by simp [f3], by simp [f4], by simp [f5], hG, hsn, hkp⟩, tf, tb, by rw [hsc]; simp [f11], by rw [hsc]; simp [f12], by rw [hsc]; exact hof, by rw [hsc]; exact hob⟩
      · have h1 : scanR1 k G x = G ++ [(x, k)] := by unfold scanR1; exact if_neg hin
        rw [h1] at hsc
        rw [decide_eq_false hin] at f23
        obtain ⟨of1, of2, of3, of4⟩ := hof
        obtain ⟨ob1, ob2, ob3, ob4⟩ := hob
        have q1 : ¬ tf = s4.next := by omega
        have q2 : ¬ tb = s4.next := by omega
        have q3 : ¬ tb = s4.next + 1 := by omega
        have q4 : ¬ tb = s4.next + 2 := by omega
        have q5 : ¬ tb = tf := box_neT ob4 of4 (by simp)
        have q6 : ¬ st.next = tf := box_neT hG of4 (by simp)
        have q7 : ¬ st.next = tb := box_neT hG ob4 (by simp)
        (repeat' (first | refine awp_seq ?_ | (refine awp_cond ?_; simp [f23, f22, f11, f12, f13, of4, ob4, q1, q2, q3, q4, q5, of1, ob1]) | (refine w_e [] ?_; intro J hJ; simp only []; simp [f23, f22, f11, f12, f13, of4, ob4, q1, q2, q3, q4, q5, of1, ob1]; (repeat refine ca ?_); (refine hJ _ _ ?_; clear hJ J; simp only [ak, reduceIte]))))
        refine hJO _ _ (by simp [f103]) (by simp [f102]) ⟨by simp [f101], by simp [f13], ⟨by simp [f1], by simp [f2], by simp [f3], by simp [f4], by simp [f5], ?_, by simp; omega, ?_⟩, s4.next + 1, s4.next + 3, by rw [hsc]; simp [fV], by rw [hsc]; simp [fB, ns], ⟨by omega, by omega, by simp, ?_⟩, by omega, by omega, by simp, ?_⟩
        · (repeat (first | rw [new_H, if_neg (α := LObj) (by (try simp only [set_next, new_next]); omega)] | rw [set_H, if_neg (α := LObj) (by omega)] | rw [new_H, if_pos (α := LObj) (by (try simp only [set_next, new_next]))] | rw [set_H, if_pos (α := LObj) (by omega)])); exact hG
        · exact ((((((hkp.trans (Keeps.new _ _)).set of2 _).trans (Keeps.new _ _)).trans (Keeps.new _ _)).set ob2 _).trans (Keeps.new _ _))
        · (repeat (first | rw [new_H, if_neg (α := LObj) (by (try simp only [set_next, new_next]); omega)] | rw [set_H, if_neg (α := LObj) (by omega)] | rw [new_H, if_pos (α := LObj) (by (try simp only [set_next, new_next]))] | rw [set_H, if_pos (α := LObj) (by omega)])); rw [hsc]; simp
        · (repeat (first | rw [new_H, if_neg (α := LObj) (by (try simp only [set_next, new_next]); omega)] | rw [set_H, if_neg (α := LObj) (by omega)] | rw [new_H, if_pos (α := LObj) (by (try simp only [set_next, new_next]))] | rw [set_H, if_pos (α := LObj) (by omega)])); rw [hsc]; simp
  · clear f1 f2 f3 f4 f5 f11 f12 f13 f14 f18 f87 hG hsn hkp hof hob tf tb fr hG2 hn2 hk2
    rintro fr s3 ⟨f101, f13, ⟨f1, f2, f3, f4, f5, hG, hsn, hkp⟩, tf, tb, f11, f12, hof, hob⟩
    rw [List.take_length] at f11 f12 hof hob
    have hsl := scanR_len k F row
    (repeat' (refine w_e [] ?_; intro J hJ; simp only []; simp [f13, hw]; (refine hJ _ _ ?_; clear hJ J; simp only [ak, reduceIte])))
    exact hJJ m _ _ (by omega) ⟨k + 1, _, hrun, by omega, by omega, hpar.scan hlt row, by omega, by omega, by simp, ⟨by simp [f1], by simp [f2], by simp [f3], by simp [f4], by simp [f5], hG, hsn, hkp⟩, tf, tb, by simp [f11], by simp [f12], hof, hob⟩

end Go.Proofs.YtomfeddgeihipaaGreat.Aw

namespace Go.Proofs.YtomfeddgeihipaaGreat.Aw
open Go Go.RowKit Go.Proofs.YtomfeddgeihipaaGreat.Pl
set_option linter.unusedSimpArgs false
set_option linter.unusedVariables false

structure GrF (g : Gr) : Prop where
  rise : g.vs.Pairwise (· < ·)
  vpos : ∀ v ∈ g.vs, 1 ≤ v ∧ v ≤ 1048576
  ids : g.es.Pairwise fun x y => x.id < y.id
  pos : ∀ x ∈ g.es, 1 ≤ x.id ∧ x.id ≤ 1048576
  ne : ∀ x ∈ g.es, x.a ≠ x.b
  ends : ∀ x ∈ g.es, x.a ∈ g.vs ∧ x.b ∈ g.vs
  l1 : g.vs.length ≤ 64
  l2 : g.es.length ≤ 160

theorem nz_all {f : Nat → Int} {n : Nat} (h : firstNZ f n = 0) : ∀ j, j < n → f j = 0 := by
  induction n with
  | zero => intro j hj; omega
  | succ n ih =>
    intro j hj
    simp only [firstNZ] at h
    by_cases h0 : firstNZ f n = 0
    · rw [if_neg (by simp [h0])] at h
      rcases Nat.lt_or_ge j n with h1 | h1
      · exact ih h0 j h1
      · obtain rfl : j = n := by omega
        exact h
    · rw [if_pos h0] at h; exact absurd h h0
theorem numb_zero_iff (n a : Int) (b : Bool) : numb n a b = 0 ↔ (1 ≤ n ∧ n ≤ 1048576) ∧ (b = false → a < n) := by
  unfold numb
  by_cases h1 : n < 1 ∨ 1048576 < n
  · rw [if_pos h1]
    constructor
    · intro h; cases h
    · rintro ⟨h, _⟩; omega
  · rw [if_neg h1]
    by_cases h2 : b = false ∧ n ≤ a
    · rw [if_pos h2]
      constructor
      · intro h; cases h
      · rintro ⟨_, h⟩; have := h h2.1; omega
    · rw [if_neg h2]
      refine ⟨fun _ => ⟨by omega, fun hb => ?_⟩, fun _ => rfl⟩
      rcases Int.lt_or_le a n with h3 | h3
      · exact h3
      · exact absurd ⟨hb, h3⟩ h2
theorem rise_step {l : List Int} (h : ∀ j, j < l.length → 0 < j → l.getD (j - 1) 0 < l.getD j 0) : l.Pairwise (· < ·) := by
  have g : ∀ j (hj : j < l.length), l.getD j 0 = l[j] := fun j hj => by rw [List.getD_eq_getElem?_getD, List.getElem?_eq_getElem hj]; rfl
  rw [List.pairwise_iff_getElem]
  intro a b ha hb hab
  induction b with
  | zero => omega
  | succ b ih =>
    have h1 := h (b + 1) hb (by omega)
    rw [Nat.add_sub_cancel, g _ hb, g _ (by omega)] at h1
    rcases Nat.lt_or_ge a b with h2 | h2
    · have := ih (by omega) h2; omega
    · obtain rfl : a = b := by omega
      exact h1
theorem gE (l : List Ed) (j : Nat) (hj : j < l.length) : l.getD j ed0 = l[j] := by
  rw [List.getD_eq_getElem?_getD, List.getElem?_eq_getElem hj]; rfl
theorem badE_zero (g : Gr) (j : Nat) (x : Ed) (hx : g.es.getD j ed0 = x) : badE g j = 0 ↔ ((1 ≤ x.id ∧ x.id ≤ 1048576) ∧ (0 < j → (g.es.getD (j - 1) ed0).id < x.id)) ∧ x.a ≠ x.b ∧ x.a ∈ g.vs ∧ x.b ∈ g.vs := by
  unfold badE
  simp only [hx]
  have h0 := numb_zero_iff x.id (g.es.getD (j - 1) ed0).id (decide (j = 0))
  have hj : (decide (j = 0) = false) ↔ 0 < j := by simp; omega
  rw [hj] at h0
  by_cases h1 : numb x.id (g.es.getD (j - 1) ed0).id (decide (j = 0)) = 0
  · rw [if_neg (fun h => h h1)]
    have h1' := h0.1 h1
    by_cases h2 : x.a = x.b
    · rw [if_pos h2]
      constructor
      · intro h; cases h
      · rintro ⟨_, h, _⟩; exact absurd h2 h
    · rw [if_neg h2]
      by_cases h3 : x.a ∉ g.vs ∨ x.b ∉ g.vs
      · rw [if_pos h3]
        constructor
        · intro h; cases h
        · rintro ⟨_, _, h, h'⟩
          rcases h3 with h3 | h3
          · exact absurd h h3
          · exact absurd h' h3
      · rw [if_neg h3]
        exact ⟨fun _ => ⟨h1', h2, Classical.byContradiction fun h => h3 (.inl h), Classical.byContradiction fun h => h3 (.inr h)⟩, fun _ => rfl⟩
  · rw [if_pos h1]
    constructor
    · intro h; exact absurd h h1
    · rintro ⟨h, _⟩; exact absurd (h0.2 h) h1
theorem chk_full {g : Gr} (h : chk g = 0) : GrF g := by
  unfold chk at h
  by_cases h1 : 64 < g.vs.length ∨ 160 < g.es.length
  · rw [if_pos h1] at h; cases h
  rw [if_neg h1] at h
  by_cases h2 : firstNZ (badV g) g.vs.length = 0
  rotate_left
  · rw [if_pos h2] at h; exact absurd h h2
  rw [if_neg (by simp [h2])] at h
  have gI : ∀ j (hj : j < g.vs.length), g.vs.getD j 0 = g.vs[j] := fun j hj => by rw [List.getD_eq_getElem?_getD, List.getElem?_eq_getElem hj]; rfl
  have hV := fun j hj => (numb_zero_iff _ _ _).1 (nz_all h2 j hj)
  have hE := fun j hj => (badE_zero g j _ rfl).1 (nz_all h j hj)
  have hin : ∀ x ∈ g.es, ∃ j, j < g.es.length ∧ g.es.getD j ed0 = x := fun x hx => by
    obtain ⟨j, hj, rfl⟩ := List.getElem_of_mem hx
    exact ⟨j, hj, gE _ _ hj⟩
  refine ⟨rise_step fun j hj h0 => (hV j hj).2 (by simp; omega), fun v hv => ?_, ?_, fun x hx => ?_, fun x hx => ?_, fun x hx => ?_, by omega, by omega⟩
  · obtain ⟨j, hj, rfl⟩ := List.getElem_of_mem hv
    rw [← gI j hj]; exact (hV j hj).1
  · have := rise_step (l := g.es.map (·.id)) fun j hj h0 => by
      rw [List.length_map] at hj
      have := (hE j hj).1.2 h0
      rw [gE _ _ hj, gE _ _ (by omega)] at this
      rw [List.getD_eq_getElem?_getD, List.getElem?_eq_getElem (by simp; omega), List.getD_eq_getElem?_getD, List.getElem?_eq_getElem (by simp; omega)]
      simpa using this
    rwa [List.pairwise_map] at this
  · obtain ⟨j, hj, rfl⟩ := hin x hx; exact (hE j hj).1.1
  · obtain ⟨j, hj, rfl⟩ := hin x hx; exact (hE j hj).2.1
  · obtain ⟨j, hj, rfl⟩ := hin x hx; exact (hE j hj).2.2
end Go.Proofs.YtomfeddgeihipaaGreat.Aw

namespace Go.Proofs.YtomfeddgeihipaaGreat.Aw
open Go Go.RowKit Go.Proofs.YtomfeddgeihipaaGreat.Pl
set_option linter.unusedSimpArgs false
set_option linter.unusedVariables false

def lightB (g : Gr) : Bool := decide (chk g = 0 ∧ g.vs.length ≤ 16 ∧ g.es.length ≤ 24)
theorem nearR_eq {g : Gr} (h : GrF g) : nearR g = nearF g.es := by
  funext v
  exact (nearF_eq h.ne h.rise h.ends v).symm

theorem pathF_len2 {vs : List Int} {near : Int → List Int} {may : Int → Bool} {a b : Int} {n : Nat} {l : List Int} (h : pathF vs near may a b n = some l) : l.length ≤ n + 1 := by
  unfold pathF at h
  split at h
  · injection h with h; subst h; simp
  · split at h
    · injection h with h; subst h; simp
    · split at h
      · injection h with h; subst h; simp
      · rw [Option.map_eq_some_iff] at h
        obtain ⟨l', h1, rfl⟩ := h
        have := backF_len h1
        simp only [List.length_reverse, List.length_cons]; omega
      · cases h

end Go.Proofs.YtomfeddgeihipaaGreat.Aw

namespace Go.Proofs.YtomfeddgeihipaaGreat.Aw
open Go Go.RowKit Go.Proofs.YtomfeddgeihipaaGreat.Pl
set_option linter.unusedSimpArgs false
set_option linter.unusedVariables false

theorem depF_some {vs : List Int} {near : Int → List Int} (hnear : ∀ v, ∀ w ∈ near v, w ∈ vs) : ∀ (n k : Nat) (D : Led), DepOk vs D → k ≤ D.length → vs.length < n + k → ∃ Dr, depF near n k D = some Dr ∧ DepOk vs Dr := by
  intro n
  induction n with
  | zero =>
    intro k D h h1 hk
    have := h.len
    omega
  | succ n ih =>
    intro k D h h1 hk
    simp only [depF]
    split
    · rename_i hlt
      obtain ⟨E, hE⟩ := scanD_pre (D.getD k (0, 0)).2 D (near (D.getD k (0, 0)).1)
      exact ih (k + 1) _ (DepOk.scan _ _ h ⟨k, hlt, rfl⟩ fun w hw => hnear _ w hw) (by rw [hE, List.length_append]; omega) (by omega)
    · exact ⟨D, rfl, h⟩

theorem pathF_len3 {vs : List Int} {near : Int → List Int} {may : Int → Bool} {from' to : Int} {n : Nat} {l : List Int} (h : refPath vs near may from' to n = some l) : l.length ≤ n + 2 := by
  rcases Nat.eq_zero_or_pos n with h0 | h0
  · subst h0
    unfold refPath at h
    split at h
    · injection h with h; subst h; simp
    · split at h
      · injection h with h; subst h; simp
      · rename_i F k hr
        simp [refRun] at hr
      · cases h
  · have := pathF_len2 (path_same h h0); omega
/-- How far a vertex is, by the document. -/
def depR (g : Gr) (root v : Int) : Int := if root ∈ g.vs then match refPath g.vs (nearF g.es) (fun _ => true) root v g.vs.length with
  | some l => (l.length : Int) - 1
  | none => -1 else -1
theorem nearF_in {g : Gr} (hg : Good g) (v : Int) : ∀ w ∈ nearF g.es v, w ∈ g.vs := fun w hw => by
  obtain ⟨x, hx, ⟨_, rfl⟩ | ⟨rfl, _⟩⟩ := mem_nearF.1 hw
  · exact (hg.ends x hx).2
  · exact (hg.ends x hx).1
theorem dep_one {vs : List Int} {root : Int} (h : root ∈ vs) : DepOk vs [(root, 0)] := ⟨by simp, by simpa using h, fun j hj => by simp at hj; subst hj; simp⟩
/-- All that is reached from a vertex, and how far it is. -/
structure IsDep (g : Gr) (root : Int) (Dr : Led) : Prop where
  out : root ∉ g.vs → Dr = []
  run : root ∈ g.vs → ∃ n, depF (nearF g.es) n 0 [(root, 0)] = some Dr
  ok : DepOk g.vs Dr
theorem dep_some {g : Gr} (hg : Good g) (root : Int) : ∃ Dr, IsDep g root Dr := by
  by_cases h : root ∈ g.vs
  · obtain ⟨Dr, h1, h2⟩ := depF_some (nearF_in hg) (g.vs.length + 1) 0 _ (dep_one h) (by simp) (by omega)
    exact ⟨Dr, fun k => absurd h k, fun _ => ⟨_, h1⟩, h2⟩
  · exact ⟨[], fun _ => rfl, fun k => absurd k h, ⟨by simp, by simp, fun j hj => by simp at hj⟩⟩
theorem IsDep.far {g : Gr} {root : Int} {Dr : Led} (h : IsDep g root Dr) (hg : Good g) {v : Int} (hv : v ∈ g.vs) : depR g root v = (ledBy Dr v).getD (-1) ∧ ∀ d, ledBy Dr v = some d → 0 ≤ d := by
  refine ⟨?_, fun d hd => ?_⟩
  · unfold depR
    by_cases hr : root ∈ g.vs
    · rw [if_pos hr]
      obtain ⟨n, hn⟩ := h.run hr
      obtain ⟨l, hl⟩ := refPath_some (may := fun _ => true) (from' := root) (to := v) (nearF_in hg) (n := g.vs.length) (Nat.le_refl _)
      rw [hl]
      unfold refPath at hl
      rw [if_neg (by simp [hr, hv])] at hl
      have hG : FG root [(root, 0)] := ⟨by simp, rfl, fun k hk => by simp at hk; subst hk; simp [pAt], by simp⟩
      have hd0 : dLed [(root, 0)] = [(root, 0)] := by simp [dLed, fAt, dLen, chainF]
      cases hb : refRun (nearF g.es) (fun _ => true) v g.vs.length 0 [(root, 0)] with
      | none => rw [hb] at hl; cases hl
      | some R =>
        rw [hb] at hl
        obtain ⟨h1, h2⟩ := run_dep _ _ _ R _ Dr hG hb (fun j hj => by omega) (by rw [hd0]; exact hn)
        rcases R with _ | ⟨F, k⟩
        · injection hl with hl
          subst hl
          rw [h1 rfl]
          simp
        · injection hl with hl
          subst hl
          rw [h2 F k rfl]
          simp [dLen]
    · rw [if_neg hr, h.out hr]
      simp [ledBy]
  · have hm := ledBy_mem hd
    obtain ⟨k, hk, e⟩ := List.getElem_of_mem hm
    have := (h.ok.dep k hk).1
    rw [List.getD_eq_getElem?_getD, List.getElem?_eq_getElem hk, e] at this
    exact this
/-- So many are reached. -/
theorem IsDep.count {g : Gr} {root : Int} {Dr : Led} (h : IsDep g root Dr) (hg : Good g) : g.vs.countP (fun v => (ledBy Dr v).isSome) = Dr.length := by
  have h1 : (g.vs.filter fun v => (ledBy Dr v).isSome).Perm (Dr.map (·.1)) := by
    refine (List.perm_ext_iff_of_nodup (hg.nodup.filter _) h.ok.nd).2 fun v => ?_
    rw [List.mem_filter]
    constructor
    · rintro ⟨_, h2⟩
      refine Classical.byContradiction fun hn => ?_
      rw [ledBy_none hn] at h2
      cases h2
    · intro h2
      refine ⟨h.ok.sub v h2, ?_⟩
      obtain ⟨w, hw⟩ := ledBy_some h2
      rw [hw]; rfl
  rw [List.countP_eq_length_filter, h1.length_eq, List.length_map]

end Go.Proofs.YtomfeddgeihipaaGreat.Aw

namespace Go.Proofs.YtomfeddgeihipaaGreat.Aw
open Go Go.RowKit Go.Proofs.YtomfeddgeihipaaGreat.Pl
set_option linter.unusedSimpArgs false
set_option linter.unusedVariables false

/-- A table's entry: a key, its count. -/
def IsKn (p : List Int × LV) (k n : Int) : Prop := p = ([k], i n) ∧ (-40000 ≤ k ∧ k ≤ 40000) ∧ (0 ≤ n ∧ n ≤ 1000)
def keyOf (p : List Int × LV) : Int := p.1.headD 0
def cntOf (p : List Int × LV) : Int := match p.2 with | .atom (.int _ n) => n | _ => 0
/-- Each key times its count. -/
def sumL : List (List Int × LV) → Int
  | [] => 0
  | p :: L => keyOf p * cntOf p + sumL L
def SumI (st : St) (m : Nat) (es : List (List Int × LV)) (L : List (List Int × LV)) (fr : Frm) (st2 : St) : Prop := (∀ p ∈ L, ∃ k n, IsKn p k n) ∧ L.length ≤ es.length ∧ st2 = st.set m .dead ∧ ∃ s : Int, fr 3 = i s ∧ s + sumL L = sumL es ∧ -(40000000 * ((es.length : Int) - L.length)) ≤ s ∧ s ≤ 40000000 * ((es.length : Int) - L.length)
end Go.Proofs.YtomfeddgeihipaaGreat.Aw

namespace Go.Proofs.YtomfeddgeihipaaGreat.Aw
open Go Go.RowKit Go.Proofs.YtomfeddgeihipaaGreat.Pl
set_option linter.unusedSimpArgs false
set_option linter.unusedVariables false

/-- The keys that are counted. -/
def nzk (L : List (List Int × LV)) : List Int := (L.filter fun p => decide (cntOf p ≠ 0)).map keyOf
structure KeysI (st : St) (m : Nat) (es L : List (List Int × LV)) (fr : Frm) (st2 : St) : Prop where
  kn : ∀ p ∈ L, ∃ k n, IsKn p k n
  len : L.length ≤ es.length
  row : ∃ q A, fr 3 = .ms q 0 A.length ∧ st2.H q = .box 3 1 (I.us A) ∧ (st.next ≤ q ∧ q < st2.next) ∧ (A ++ nzk L).Perm (nzk es) ∧ A.length + L.length ≤ es.length
  hid : st2.H m = .dead ∧ ∀ l, l < st.next → l ≠ m → st2.H l = st.H l
end Go.Proofs.YtomfeddgeihipaaGreat.Aw

namespace Go.Proofs.YtomfeddgeihipaaGreat.Aw
open Go Go.RowKit Go.Proofs.YtomfeddgeihipaaGreat.Pl
set_option linter.unusedSimpArgs false
set_option linter.unusedVariables false

/-- A table whose counts are at most B, no key twice. -/
structure TabB (B : Int) (es : List (List Int × LV)) : Prop where
  kn : ∀ p ∈ es, ∃ k n, p = ([k], i n) ∧ (-40000 ≤ k ∧ k ≤ 40000) ∧ (0 ≤ n ∧ n ≤ B)
  nd : (es.map (·.1)).Nodup
def cntM (es : List (List Int × LV)) (k : Int) : Int := cntOf ([k], (mget es [k]).getD (i 0))
/-- One more of a key. -/
def add1 (es : List (List Int × LV)) (k : Int) : List (List Int × LV) := mset es [k] (i (cntM es k + 1))
theorem cntM_get {B : Int} {es : List (List Int × LV)} (h : TabB B es) (hB : 0 ≤ B) (k : Int) : (mget es [k]).getD (i 0) = i (cntM es k) ∧ 0 ≤ cntM es k ∧ cntM es k ≤ B := by
  have : ∀ es : List (List Int × LV), (∀ p ∈ es, ∃ k n, p = ([k], i n) ∧ (-40000 ≤ k ∧ k ≤ 40000) ∧ (0 ≤ n ∧ n ≤ B)) → mget es [k] = none ∨ ∃ n, mget es [k] = some (i n) ∧ 0 ≤ n ∧ n ≤ B := by
    intro es
    induction es with
    | nil => exact fun _ => .inl rfl
    | cons p es ih =>
      intro h
      obtain ⟨k', n, rfl, _, hn⟩ := h p (by simp)
      unfold mget
      by_cases e : ([k] == [k']) = true
      · simp only [e, if_true]; exact .inr ⟨n, rfl, hn⟩
      · simp only [e, if_false]; exact ih fun q hq => h q (by simp [hq])
  unfold cntM
  rcases this es h.kn with e | ⟨n, e, h1, h2⟩
  · rw [e]; exact ⟨rfl, Int.le_refl _, hB⟩
  · rw [e]; exact ⟨rfl, h1, h2⟩
theorem mset_mem (es : List (List Int × LV)) (a : List Int) (v : LV) (p : List Int × LV) (h : p ∈ mset es a v) : p = (a, v) ∨ p ∈ es := by
  induction es with
  | nil => simp [mset] at h; exact .inl h
  | cons q es ih =>
    unfold mset at h
    split at h
    · rcases List.mem_cons.1 h with h | h
      · exact .inl h
      · exact .inr (by simp [h])
    · rcases List.mem_cons.1 h with h | h
      · exact .inr (by simp [h])
      · rcases ih h with h | h
        · exact .inl h
        · exact .inr (by simp [h])
theorem mset_keys (es : List (List Int × LV)) (a : List Int) (v : LV) (h : (es.map (·.1)).Nodup) : ((mset es a v).map (·.1)).Nodup ∧ ∀ x, x ∈ (mset es a v).map (·.1) → x = a ∨ x ∈ es.map (·.1) := by
  induction es with
  | nil => simp [mset]
  | cons q es ih =>
    simp only [List.map_cons, List.nodup_cons] at h
    obtain ⟨i1, i2⟩ := ih h.2
    unfold mset
    by_cases e : a = q.1
    · rw [if_pos (by simpa using e)]
      subst e
      exact ⟨by simp only [List.map_cons, List.nodup_cons]; exact h, fun x hx => .inr (by simpa using hx)⟩
    · rw [if_neg (by simpa using e)]
      refine ⟨?_, fun x hx => ?_⟩
      · simp only [List.map_cons, List.nodup_cons]
        refine ⟨fun hx => ?_, i1⟩
        rcases i2 _ hx with h1 | h1
        · exact e h1.symm
        · exact h.1 h1
      · rcases List.mem_cons.1 (by simpa using hx : x ∈ q.1 :: (mset es a v).map (·.1)) with h1 | h1
        · exact .inr (by simp [h1])
        · rcases i2 _ h1 with h2 | h2
          · exact .inl h2
          · exact .inr (by simp only [List.map_cons, List.mem_cons]; exact .inr h2)
theorem TabB.add {B : Int} {es : List (List Int × LV)} (h : TabB B es) (hB : 0 ≤ B) {k : Int} (hk : -40000 ≤ k ∧ k ≤ 40000) : TabB (B + 1) (add1 es k) := by
  obtain ⟨_, c1, c2⟩ := cntM_get h hB k
  refine ⟨fun p hp => ?_, (mset_keys es _ _ h.nd).1⟩
  rcases mset_mem _ _ _ _ hp with rfl | hp
  · exact ⟨k, _, rfl, hk, by omega, by omega⟩
  · obtain ⟨k', n, h1, h2, h3⟩ := h.kn p hp
    exact ⟨k', n, h1, h2, h3.1, by omega⟩
def addAll (es : List (List Int × LV)) (l : List Int) : List (List Int × LV) := l.foldl add1 es
end Go.Proofs.YtomfeddgeihipaaGreat.Aw

namespace Go.Proofs.YtomfeddgeihipaaGreat.Aw
open Go Go.RowKit Go.Proofs.YtomfeddgeihipaaGreat.Pl
set_option linter.unusedSimpArgs false
set_option linter.unusedVariables false

def lessE (es : List Ed) (x : Ed) : List Ed := es.filter fun o => decide (o.id ≠ x.id)
/-- The fewest edges of a ring, by ways around each edge; none: the strength n is too little. -/
def girthL (g : Gr) (n : Nat) : Int → List Ed → Option Int
  | least, [] => some least
  | least, x :: xs => match pathF g.vs (nearF (lessE g.es x)) (fun _ => true) x.a x.b n with
    | some l => girthL g n (if 0 < l.length ∧ (least = 0 ∨ (l.length : Int) < least) then l.length else least) xs
    | none => none
end Go.Proofs.YtomfeddgeihipaaGreat.Aw

namespace Go.Proofs.YtomfeddgeihipaaGreat.Aw
open Go Go.RowKit Go.Proofs.YtomfeddgeihipaaGreat.Pl
set_option linter.unusedSimpArgs false
set_option linter.unusedVariables false

@[simp] def boxM (M : Nat) : LObj := .box 130 1 [.mp M]
def RingR (g : Gr) (id : Int) (I : List Ed) (l : List Int) : Prop := if id ∈ idsL I ∨ fe g.es id < 0 then l = [] else refPath g.vs (nearF I) (fun _ => true) (g.es.getD (fe g.es id).toNat ed0).a (g.es.getD (fe g.es id).toNat ed0).b 100 = some l
def RgR (g : Gr) (id : Int) (r : LV) : Prop := ∀ I Rs, IsFo g.es I Rs → ∃ l, RingR g id I l ∧ r = .sl 0 l.length (us l)
theorem RgR.none {g : Gr} {id : Int} (h : ∀ I Rs, IsFo g.es I Rs → id ∈ idsL I ∨ fe g.es id < 0) : RgR g id (z0 .nil) := fun I Rs hI => ⟨[], by unfold RingR; rw [if_pos (h I Rs hI)], rfl⟩
end Go.Proofs.YtomfeddgeihipaaGreat.Aw

namespace Go.Proofs.YtomfeddgeihipaaGreat.Aw
open Go Go.RowKit Go.Proofs.YtomfeddgeihipaaGreat.Pl
set_option linter.unusedSimpArgs false
set_option linter.unusedVariables false

theorem GrF.sub {g : Gr} (h : GrF g) {I : List Ed} (hs : I.Sublist g.es) : GrF ⟨g.vs, I⟩ :=
  ⟨h.rise, h.vpos, h.ids.sublist hs, fun x hx => h.pos x (hs.subset hx), fun x hx => h.ne x (hs.subset hx), fun x hx => h.ends x (hs.subset hx), h.l1, Nat.le_trans hs.length_le h.l2⟩
theorem GrF.good {g : Gr} (h : GrF g) : Good g := ⟨h.rise, h.ends⟩
end Go.Proofs.YtomfeddgeihipaaGreat.Aw

namespace Go.Proofs.YtomfeddgeihipaaGreat.Aw
open Go Go.RowKit Go.Proofs.YtomfeddgeihipaaGreat.Pl
set_option linter.unusedSimpArgs false
set_option linter.unusedVariables false

theorem ref_Depth (g : Gr) (root v : Int) (st : St) (hF : GrF g) :
    ACalls Tryz.prog 49 [.ag (grL g), u root, u v] st fun r st' => r = i (depR g root v) ∧ Keeps st st' := by
  have hv := hF.l1
  have he := hF.l2
  have hsm : small g.vs := by unfold small; omega
  obtain ⟨l, hl⟩ := refPath_some (vs := g.vs) (may := fun _ => true) (from' := root) (to := v) (nearF_in hF.good) (n := g.vs.length) (Nat.le_refl _)
  have hl2 := pathF_len3 hl
  refine acalls_of_body tabOk Tryz.func49 rfl rfl Tryz.ntmps49 (rs := [.tmp 6]) rfl (by simp) ?_
  (repeat' (first | refine awp_seq ?_ | (refine w_e [] ?_; intro J hJ; simp only []; simp []; (try (refine hJ _ _ ?_; clear hJ J; simp only [ak, reduceIte])))))
  refine callK_ofE (Has g root _ hsm) (by simp) ?_; rintro r s1 ⟨rfl, hk1⟩
  have hn1 := hk1.next
  simp only [new_next] at hn1
  have hG1 : s1.H st.next = .box 38 2 (grL g) := by rw [hk1.H _ (by simp)]; simp
  have k1 : Keeps st s1 := (Keeps.new _ _).trans hk1
  by_cases hr : root ∈ g.vs
  rotate_left
  · have hd : depR g root v = -1 := by unfold depR; rw [if_neg hr]
    (repeat' (first | refine awp_seq ?_ | (refine awp_ret ?_; simp only [ak, reduceIte]; simp [hr, hd]) | (refine awp_cond ?_; simp [hr, hd]) | ((first | (refine w_e [] ?_; intro J hJ; simp only []) | (refine e_go ?_)); simp [hr, hd]; (refine hJ _ _ ?_; clear hJ J; simp only [ak, reduceIte]))))
    exact k1
  have hd : depR g root v = (l.length : Int) - 1 := by unfold depR; rw [if_pos hr, hl]
  have hw : IntKind.i64.wrap ((l.length : Int) - 1) = (l.length : Int) - 1 := wrap_i64 _ (by omega) (by omega)
  (repeat' (first | refine awp_seq ?_ | (refine awp_skip ?_; simp only [ak, reduceIte]) | (refine awp_cond ?_; simp [hr, hG1]) | ((first | (refine w_e [] ?_; intro J hJ; simp only []) | (refine e_go ?_)); simp [hr, hG1]; (try (refine hJ _ _ ?_; clear hJ J; simp only [ak, reduceIte])))))
  refine callK_of0 (ref_nPath g root v [] 0 true g.vs.length l s1 (by omega) (by omega) (by simp) (by omega) (by rw [nearR_eq hF]; exact hl)) (by simp [z0, z0L, z0_edsW, us]) ?_; rintro r s2 ⟨rfl, hk2⟩
  (repeat' (first | (refine awp_ret ?_; simp only [ak, reduceIte]; simp [hw, hd]) | (refine e_go ?_; simp [hw, hd]; (refine hJ _ _ ?_; clear hJ J; simp only [ak, reduceIte]))))
  exact k1.trans hk2

end Go.Proofs.YtomfeddgeihipaaGreat.Aw

namespace Go.Proofs.YtomfeddgeihipaaGreat.Aw
open Go Go.RowKit Go.Proofs.YtomfeddgeihipaaGreat.Pl
set_option linter.unusedSimpArgs false
set_option linter.unusedVariables false

theorem awake35 (st : St) : ACalls Tryz.prog 46 [] st fun r st' => r = bb true ∧ st' = st :=
  acalls_closed tabOk fnsOk prim_ok mixed 1000000 true (by kernel_rfl)

def lightT (g : Gr) : Bool := decide (chk g = 0 ∧ g.vs.length ≤ 24 ∧ g.es.length ≤ 40)
theorem LightT (g : Gr) (st : St) : ACalls Tryz.prog 47 [.ag (grL g)] st fun r st' => r = bb (lightT g) ∧ Keeps st st' := by
  refine acalls_of_body tabOk Tryz.func47 rfl rfl Tryz.ntmps47 (rs := [.tmp 2]) rfl (by simp) ?_
  (repeat' (first | refine awp_seq ?_ | (refine w_e [] ?_; intro J hJ; simp only []; simp []; (try (refine hJ _ _ ?_; clear hJ J; simp only [ak, reduceIte])))))
  refine callK_ofE (ref_CheckA g _) (by simp) ?_; rintro r s1 ⟨rfl, hk1⟩
  have hG1 : s1.H st.next = .box 38 2 (grL g) := by rw [hk1.H _ (by simp)]; simp
  have hkp1 : Keeps st s1 := (Keeps.new _ _).trans hk1
  by_cases h1 : chk g = 0
  · have h1' : (chk g == 0) = true := by simpa using h1
    by_cases h2 : g.vs.length ≤ 24
    · have h2' : (g.vs.length : Int) ≤ 24 := by omega
      by_cases h3 : g.es.length ≤ 40
      · have h3' : (g.es.length : Int) ≤ 40 := by omega
        (repeat' (first | (refine awp_ret ?_; simp only [ak, reduceIte]; simp [h1', h2, h2', h3, h3', hG1, h1, lightT]) | (refine e_go ?_; simp [h1', h2, h2', h3, h3', hG1, h1, lightT]; (refine hJ _ _ ?_; clear hJ J; simp only [ak, reduceIte]))))
        exact hkp1
      · have h3' : ¬ (g.es.length : Int) ≤ 40 := by omega
        (repeat' (first | (refine awp_ret ?_; simp only [ak, reduceIte]; simp [h1', h2, h2', h3, h3', hG1, h1, lightT]) | (refine e_go ?_; simp [h1', h2, h2', h3, h3', hG1, h1, lightT]; (refine hJ _ _ ?_; clear hJ J; simp only [ak, reduceIte]))))
        exact hkp1
    · have h2' : ¬ (g.vs.length : Int) ≤ 24 := by omega
      (repeat' (first | (refine awp_ret ?_; simp only [ak, reduceIte]; simp [h1', h2, h2', hG1, h1, lightT]) | (refine e_go ?_; simp [h1', h2, h2', hG1, h1, lightT]; (refine hJ _ _ ?_; clear hJ J; simp only [ak, reduceIte]))))
      exact hkp1
  · have h1' : (chk g == 0) = false := by simpa using h1
    (repeat' (first | (refine awp_ret ?_; simp only [ak, reduceIte]; simp [h1', hG1, h1, lightT]) | (refine e_go ?_; simp [h1', hG1, h1, lightT]; (refine hJ _ _ ?_; clear hJ J; simp only [ak, reduceIte]))))
    exact hkp1

end Go.Proofs.YtomfeddgeihipaaGreat.Aw

namespace Go.Proofs.YtomfeddgeihipaaGreat.Aw
open Go Go.RowKit Go.Proofs.YtomfeddgeihipaaGreat.Pl
set_option linter.unusedSimpArgs false
set_option linter.unusedVariables false

set_option maxHeartbeats 2000000 in
theorem TreeCuts (g : Gr) (root : Int) (st : St) :
    ACalls Tryz.prog 9 [.ag (grL g), u root] st fun r st' => r = bb true := by
  refine acalls_of_body tabOk Tryz.func9 rfl rfl Tryz.ntmps9 (rs := [.tmp 4]) rfl (by simp) ?_
  refine awp_posG fun hpos => ?_
  (repeat' (first | refine awp_seq ?_ | (refine w_e [] ?_; intro J hJ; simp only []; simp []; (try (refine hJ _ _ ?_; clear hJ J; simp only [ak, reduceIte])))))
  refine callK_ofE (awake35 _) (by simp []) ?_; rintro r st' ⟨rfl, rfl⟩
  (repeat' (first | refine awp_seq ?_ | (refine awp_skip ?_; simp only [ak, reduceIte]) | (refine awp_cond ?_; simp []) | ((first | (refine w_e [] ?_; intro J hJ; simp only []) | (refine e_go ?_)); simp []; (try (refine hJ _ _ ?_; clear hJ J; simp only [ak, reduceIte])))))
  refine callK_ofE (LightT g _) (by simp) ?_; rintro r s1 ⟨rfl, hk1⟩
  have hn1 := hk1.next
  simp only [new_next] at hn1
  have hG1 : s1.H st.next = .box 38 2 (grL g) := by rw [hk1.H _ (by simp)]; simp
  cases hL : lightT g
  · (repeat' (first | refine awp_seq ?_ | (refine awp_ret ?_; simp only [ak, reduceIte]; simp []) | (refine awp_cond ?_; simp []) | ((first | (refine w_e [] ?_; intro J hJ; simp only []) | (refine e_go ?_)); simp []; (refine hJ _ _ ?_; clear hJ J; simp only [ak, reduceIte]))))
  simp only [lightT, decide_eq_true_eq] at hL
  obtain ⟨hc, hv, he⟩ := hL
  have hF := chk_full hc
  have hg := hF.good
  have hi := hF.ids
  obtain ⟨Dr, hDr⟩ := dep_some hg root
  obtain ⟨n, Df, hDf, hrun⟩ : ∃ n Df, (root ∈ g.vs → Dr = Df) ∧ depF (nearF g.es) n 0 [(root, 0)] = some Df := by
    by_cases hr : root ∈ g.vs
    · obtain ⟨n, hn⟩ := hDr.run hr
      exact ⟨n, Dr, fun _ => rfl, hn⟩
    · obtain ⟨n, Df, hn⟩ : ∃ n Df, depF (nearF g.es) n 0 [(root, 0)] = some Df := by
        refine ⟨2, [(root, 0)], ?_⟩
        have hnil : nearF g.es root = [] := by
          refine List.eq_nil_iff_forall_not_mem.2 fun w hw => ?_
          obtain ⟨x, hx, ⟨h1, _⟩ | ⟨_, h1⟩⟩ := mem_nearF.1 hw
          · exact hr (h1 ▸ (hg.ends x hx).1)
          · exact hr (h1 ▸ (hg.ends x hx).2)
        simp [depF, hnil, scanD]
      exact ⟨n, Df, fun h => absurd h hr, hn⟩
  have hDl := hDr.ok.len
  have hcnt := hDr.count hg
  (repeat' (first | refine awp_seq ?_ | (refine awp_skip ?_; simp only [ak, reduceIte]) | (refine awp_cond ?_; simp [hG1]) | ((first | (refine w_e [] ?_; intro J hJ; simp only []) | (refine e_go ?_)); simp [hG1]; (try (refine hJ _ _ ?_; clear hJ J; simp only [ak, reduceIte])))))
  refine callK_ofE (Depths g root n Df Dr _ hDf hDr.out hg (by omega) (by omega) hrun) (by simp) ?_; rintro r s2 ⟨M, rfl, m1, m2, hM, hk2⟩
  have hn2 := hk2.next
  have hG2 := (hk2.H st.next (by omega)).trans hG1
  have hcl := clL_len Dr
  have hmM : ¬ st.next = M := by omega
  (repeat' (first | refine awp_seq ?_ | refine awp_block ?_ | ((first | (refine w_e [] ?_; intro J hJ; simp only []) | (refine e_go ?_)); simp [hG2]; (refine hJ _ _ ?_; clear hJ J; simp only [ak, reduceIte]))))
  refine awp_range 23 22 24 52 (g.vs.length) (fun j fr st2 => fr 1 = u root ∧ fr 2 = .pt st.next 0 ∧ fr 5 = .mp M ∧ fr 6 = i ((g.vs.take j).countP fun v => (ledBy Dr v).isSome : Nat) ∧ fr 21 = .sl 0 g.vs.length (us g.vs) ∧ st2.H st.next = .box 38 2 (grL g) ∧ st.next < st2.next ∧ M < st2.next ∧ st2.H M = .map false [.u32] (clL Dr)) ?_ ?_ ?_
  · exact ⟨by simp, by simp, by simp, by simp, by simp, hG2, by omega, m2, hM⟩
  · clear hM hG2 hk2 hn2 hG1 hk1 hn1
    rintro j fr s hlt ⟨f1, f2, f5, f6, f21, hG, hsn, hMn, hM⟩ fi fn JO hJO
    have hd := us_drop_getD g.vs j hlt
    have hct := count_take (fun v => (ledBy Dr v).isSome) g.vs j hlt
    have hvin : g.vs.getD j 0 ∈ g.vs := by rw [getD_lt _ _ hlt]; exact List.getElem_mem hlt
    have hcl2 : ((g.vs.take j).countP fun v => (ledBy Dr v).isSome) ≤ 1000 := by
      have := List.countP_le_length (p := fun v => (ledBy Dr v).isSome) (l := g.vs.take j)
      rw [List.length_take] at this; omega
    generalize g.vs.getD j 0 = v at *
    obtain ⟨far, fnn⟩ := hDr.far hg hvin
    have hmg := mget_cl Dr v
    generalize ((g.vs.take j).countP fun v => (ledBy Dr v).isSome) = c at *
    have hw := nat_add_one c (by omega)
    (repeat' (first | refine awp_seq ?_ | (refine w_e [] ?_; intro J hJ; simp only []; simp [f1, f2, f21, fi, fn, hd, hlt, hG]; (try (refine hJ _ _ ?_; clear hJ J; simp only [ak, reduceIte])))))
    refine callK_ofE (ref_Depth g root v s hF) (by simp) ?_; rintro r s3 ⟨rfl, hk3⟩
    have hn3 := hk3.next
    have hM3 := (hk3.H M hMn).trans hM
    have hG3 := (hk3.H st.next hsn).trans hG
    cases hb : ledBy Dr v with
    | none =>
      rw [hb] at hmg far hct
      simp only [Option.map_none, Option.getD_none] at hmg far
      simp only [Option.isSome_none] at hct
      rw [far]
      (repeat' (first | refine awp_seq ?_ | (refine awp_skip ?_; simp only [ak, reduceIte]) | (refine awp_cond ?_; simp [f5, hM3, hmg]) | ((first | (refine w_e [] ?_; intro J hJ; simp only []) | (refine e_go ?_)); simp [f5, hM3, hmg]; (refine hJ _ _ ?_; clear hJ J; simp only [ak, reduceIte]))))
      exact hJO _ _ (by simp [fi]) (by simp [fn]) ⟨by simp [f1], by simp [f2], by simp [f5], by rw [hct]; simp [f6], by simp [f21], hG3, by omega, by omega, hM3⟩
    | some d =>
      rw [hb] at hmg far hct
      have hd0 := fnn d hb
      simp only [Option.map_some, Option.getD_some] at hmg far
      simp only [Option.isSome_some] at hct
      rw [far]
      (repeat' (first | refine awp_seq ?_ | (refine awp_skip ?_; simp only [ak, reduceIte]) | (refine awp_cond ?_; simp [f5, f6, hM3, hmg, hd0, hw]) | ((first | (refine w_e [] ?_; intro J hJ; simp only []) | (refine e_go ?_)); simp [f5, f6, hM3, hmg, hd0, hw]; (refine hJ _ _ ?_; clear hJ J; simp only [ak, reduceIte]))))
      exact hJO _ _ (by simp [fi]) (by simp [fn]) ⟨by simp [f1], by simp [f2], by simp [f5], by rw [hct]; simp, by simp [f21], hG3, by omega, by omega, hM3⟩
  · clear hM hG2 hk2 hn2 hG1 hk1 hn1
    rintro fr s ⟨f1, f2, f5, f6, f21, hG, hsn, hMn, hM⟩
    rw [List.take_length, hcnt] at f6
    have hcl3 := cuts_le g g.vs g.vs.length
    rw [List.take_length] at hcl3
    (repeat' refine awp_seq ?_)
    (refine w_s [] [st.next, M] [(0, true), (1, true), (2, true), (3, true), (4, true), (5, true), (7, true), (6, true), (8, true), (9, true), (10, true), (11, true)] ?_; intro J hJ; simp [f2, f5, f6, hG, hM, hcl])
    refine dcallK_ofE (Cuts g s hg hi (by omega) (by omega)) (by simp) ?_; rintro r s1 ⟨rfl, hk1⟩
    have hn1 := hk1.next
    have hG1 := (hk1.H st.next hsn).trans hG
    have hM1 := (hk1.H M hMn).trans hM
    refine ⟨fun _ => by simp [hG1, hG, hM1, hM], ?_⟩
    (refine d_go ?_; simp [hG1, hG, hM1, hM])
    refine dcallK_ofE (ref_Cuts g s1 hg (by omega) (by omega)) (by simp) ?_; rintro r s2 ⟨rfl, hk2⟩
    have hG2 := (hk2.H st.next (by omega)).trans hG1
    have hM2 := (hk2.H M (by omega)).trans hM1
    refine ⟨fun _ => by simp [hG2, hG, hM2, hM], ?_⟩
    (refine d_go ?_; simp [hG2, hG, hM2, hM])
    refine dcallK_ofE (ref_Same (cuts g g.vs) (cuts g g.vs) 0 0 _ (by unfold small; omega)) (by simp) ?_; rintro r s3 ⟨rfl, rfl⟩
    refine ⟨fun _ => by simp [hG2, hG, hM2, hM], ?_⟩
    (refine d_go ?_; simp [hG2, hG, hM2, hM]; (refine hJ _ _ ?_; clear hJ J; simp only [ak, reduceIte]))
    (repeat' (refine awp_ret ?_; simp only [ak, reduceIte]; simp []))

theorem TreeCuts_shp (l0 l1 : List LV) (st : St) (h0 : Shp tab 38 l0) (h1 : Shp tab 41 l1) :
    ACalls Tryz.prog 9 [argT tab 38 l0, argT tab 41 l1] st fun r st' => r = bb true := by
  obtain ⟨g, rfl, _⟩ := shp_gr h0
  obtain ⟨a, rfl, _⟩ := shp_u h1
  exact TreeCuts g a st

end Go.Proofs.YtomfeddgeihipaaGreat.Aw
