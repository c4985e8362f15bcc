/- Maps: whether one may be, as the document says it; whether it lies in the plane. -/
import Derived.Test.YtglkgindpjdoiaaGreatJe
import Derived.Test.YtglkgindpjdoiaaGreatAwTd
import Derived.Test.YtglkgindpjdoiaaGreatAwMr5
import Derived.Test.YtglkgindpjdoiaaGreatAwLd
import Derived.Test.YtglkgindpjdoiaaGreatAwAlt
import Derived.Test.YtglkgindpjdoiaaGreatAwShp
import Derived.Test.YtglkgindpjdoiaaGreatAwFr
namespace Go.Proofs.YtglkgindpjdoiaaGreat.Aw
open Go Go.RowKit Go.Proofs.YtglkgindpjdoiaaGreat.Pl Go.Proofs.YtglkgindpjdoiaaGreat.Eu
set_option linter.unusedSimpArgs false
set_option linter.unusedVariables false
set_option maxHeartbeats 1000000 in
theorem ref_rCheck (m : Mp) (st : St) (hv : m.g.vs.length ≤ 1000) (he : m.g.es.length ≤ 1000) (hr : m.rots.length ≤ 1000) :
    ACalls Tryz.prog 27 [.ag (mpL m)] st fun r st' => r = i (rchk m) ∧ Keeps st st' := by
  refine qO tabOk Tryz.func27 rfl rfl Tryz.ntmps27 (rs := [.tmp 2]) rfl (by simp) ?_
  (repeat' (first | refine qS ?_ | (refine w_e [] ?_; intro J hJ; simp only []; simp []; (try (refine hJ _ _ ?_; clear hJ J; simp only [ak, reduceIte])))))
  refine qE (ref_Check m.g _ hv he) (by simp) ?_; rintro r s1 ⟨rfl, hk1⟩
  have hn1 := hk1.next
  simp only [new_next] at hn1
  have hG1 : s1.H st.next = .box 28 3 (mpL m) := by rw [hk1.H _ (by simp)]; simp
  have hK1 : Keeps st s1 := (Keeps.new _ _).trans hk1
  by_cases hc : chk m.g = 0
  rotate_left
  · have hrc := rchk_g hc
    generalize chk m.g = x at *
    (repeat' (first | refine qS ?_ | (refine qR ?_; simp only [ak, reduceIte]; simp [hc, hrc]) | (refine qC ?_; simp [hc, hrc]) | ((first | (refine w_e [] ?_; intro J hJ; simp only []) | (refine e_go ?_)); simp [hc, hrc]; (refine hJ _ _ ?_; clear hJ J; simp only [ak, reduceIte]))))
    exact hK1
  have hgd := chk_goodE hc
  have hid : idOk m.g.es := fun x hx => by have := hgd.pos x hx; omega
  by_cases hl : m.rots.length = m.g.vs.length
  rotate_left
  · have hrc := rchk_len hc hl
    (repeat' (first | refine qS ?_ | (refine qK ?_; simp only [ak, reduceIte]) | (refine qR ?_; simp only [ak, reduceIte]; simp [hc, hrc, hG1, hl]) | (refine qC ?_; simp [hc, hrc, hG1, hl]; (try with_reducible refine ⟨?_, ?_⟩) <;> (try with_reducible intro hc) <;> try (exfalso; omega)) | ((first | (refine w_e [] ?_; intro J hJ; simp only []) | (refine e_go ?_)); simp [hc, hrc, hG1, hl]; (refine hJ _ _ ?_; clear hJ J; simp only [ak, reduceIte]))))
    exact hK1
  (repeat' (first | refine qS ?_ | refine qB ?_ | (refine qK ?_; simp only [ak, reduceIte]) | (refine qC ?_; simp [hc, hG1, hl]) | ((first | (refine w_e [] ?_; intro J hJ; simp only []) | (refine e_go ?_)); simp [hc, hG1, hl]; (refine hJ _ _ ?_; clear hJ J; simp only [ak, reduceIte]))))
  refine awp_range 28 27 29 65 (m.g.vs.length) (fun j fr st2 => fr 1 = .pt st.next 0 ∧ fr 26 = .sl 0 m.g.vs.length (us m.g.vs) ∧ st2.H st.next = .box 28 3 (mpL m) ∧ Keeps st st2 ∧ st.next < st2.next ∧ ∀ k, k < j → rok m k) ?_ ?_ ?_
  · exact ⟨by simp, by simp, hG1, hK1, by omega, fun k hk => by omega⟩
  · rintro j0 fr st2 hlt ⟨f1, f26, hG, hkp, hsn, hok⟩ fi fn JJ hJJ
    have hd := qG m.g.vs j0 hlt
    have hd2 := rowsL_drop m.rots j0 (by omega)
    have hRl : j0 < (rowsL m.rots).length := by simp; omega
    have htin : m.rots.getD j0 [] ∈ m.rots := by rw [getR_lt _ _ (by omega)]; exact List.getElem_mem _
    have hbad := fun h => rchk_bad hc hlt h
    have hnx : rok m j0 → ∀ k, k < j0 + 1 → rok m k := fun h k hk => by
      rcases Nat.lt_or_ge k j0 with h1 | h1
      · exact hok k h1
      · obtain rfl : k = j0 := by omega
        exact h
    have hok1 : rok m j0 ↔ (m.rots.getD j0 []).Perm (ends m.g.es (m.g.vs.getD j0 0)) ∧ nrm (m.rots.getD j0 []) = m.rots.getD j0 [] := Iff.rfl
    have hel : (ends m.g.es (m.g.vs.getD j0 0)).length ≤ 2 * m.g.es.length := flat_len _ (end1_len _) _
    have hrise := ends_rise hgd.ids (m.g.vs.getD j0 0)
    generalize rok m j0 = OK at *
    generalize m.rots.getD j0 [] = t at *
    generalize m.g.vs.getD j0 0 = v at *
    (repeat' (first | refine qS ?_ | (refine w_e [] ?_; intro J hJ; simp only []; simp [f1, f26, fi, fn, hd, hlt, hG, hd2, hRl, hl]; (try (refine hJ _ _ ?_; clear hJ J; simp only [ak, reduceIte])))))
    refine qE (ref_Ends m.g v _ he hid) (by simp) ?_; rintro r s3 ⟨⟨te, rfl⟩, hk3⟩
    have hn3 := hk3.next
    have hG3 := (hk3.H st.next (by omega)).trans hG
    have hK3 := hkp.trans hk3
    generalize ends m.g.es v = E at *
    by_cases h1 : t.length = E.length
    rotate_left
    · have hrc := hbad fun h => h1 (hok1.1 h).1.length_eq
      have h1b : ((t.length : Int) != (E.length : Int)) = true := by simp; omega
      (repeat' (first | refine qS ?_ | (refine qR ?_; simp only [ak, reduceIte]; simp [h1b, h1, hrc]) | (refine qC ?_; simp [h1b, h1, hrc]) | ((first | (refine w_e [] ?_; intro J hJ; simp only []) | (refine e_go ?_)); simp [h1b, h1, hrc]; (refine hJ _ _ ?_; clear hJ J; simp only [ak, reduceIte]))))
      exact hK3
    (repeat' (first | refine qS ?_ | ((first | (refine w_e [] ?_; intro J hJ; simp only []) | (refine e_go ?_)); simp [h1]; (try (refine hJ _ _ ?_; clear hJ J; simp only [ak, reduceIte])))))
    refine qE (ref_Normal t 0 _ (by unfold small; omega)) (by simp [h1]) ?_; rintro r s4 ⟨rfl, hk4⟩
    have hn4 := hk4.next
    have hG4 := (hk4.H st.next (by omega)).trans hG3
    have hK4 := hK3.trans hk4
    have hnl := nrm_length t
    (repeat' (refine e_go ?_; simp []))
    refine qE (ref_Same t (nrm t) 0 0 _ (by unfold small; omega)) (by simp [h1, hnl]) ?_; rintro r s5 ⟨rfl, rfl⟩
    by_cases h2 : t = nrm t
    rotate_left
    · have hrc := hbad fun h => h2 (hok1.1 h).2.symm
      (repeat' (first | refine qS ?_ | (refine qR ?_; simp only [ak, reduceIte]; simp [h2, hrc]) | (refine qC ?_; simp [h2, hrc]) | ((first | (refine w_e [] ?_; intro J hJ; simp only []) | (refine e_go ?_)); simp [h2, hrc]; (refine hJ _ _ ?_; clear hJ J; simp only [ak, reduceIte]))))
      exact hK4
    have h2' : decide (t = nrm t) = true := by simpa using h2
    rw [h2']
    (repeat' (first | refine qS ?_ | refine qB ?_ | (refine qK ?_; simp only [ak, reduceIte]) | (refine qC ?_; simp []) | ((first | (refine w_e [] ?_; intro J hJ; simp only []) | (refine e_go ?_)); simp []; (refine hJ _ _ ?_; clear hJ J; simp only [ak, reduceIte]))))
    refine awp_range 56 55 57 64 (E.length) (fun j fr st2 => fr 1 = .pt st.next 0 ∧ fr 26 = .sl 0 m.g.vs.length (us m.g.vs) ∧ fr 28 = i j0 ∧ fr 27 = i m.g.vs.length ∧ fr 6 = .sl 0 t.length (us t) ∧ fr 54 = .sl te E.length (us E) ∧ st2 = s5 ∧ ∀ k, k < j → E.getD k 0 ∈ t) ?_ ?_ ?_
    · exact ⟨by simp [f1], by simp [f26], by simp [fi], by simp [fn], by simp [h1], by simp, rfl, fun k hk => by omega⟩
    · clear f1 f26 fi fn fr
      rintro k fr st6 hk ⟨f1, f26, f28, f27, f6, f54, rfl, hall⟩ fi fn J2 hJ2
      have hd3 := qG E k hk
      have hin : E.getD k 0 ∈ E := by rw [getD_lt _ _ hk]; exact List.getElem_mem _
      generalize hx : E.getD k 0 = x at *
      (repeat' (first | refine qS ?_ | (refine w_e [] ?_; intro J hJ; simp only []; simp [f54, f6, fi, fn, hd3, hk]; (try (refine hJ _ _ ?_; clear hJ J; simp only [ak, reduceIte])))))
      refine qE (Find t 0 x _ (by unfold small; omega)) (by simp [h1]) ?_; rintro r s7 ⟨rfl, rfl⟩
      by_cases hxt : x ∈ t
      · have hg := gi_mem hxt
        (repeat' (first | (refine qK ?_; simp only [ak, reduceIte]) | (refine qC ?_; simp [hg]; (try with_reducible refine ⟨?_, ?_⟩) <;> (try with_reducible intro hc) <;> try (exfalso; omega)) | (refine e_go ?_; simp [hg]; (refine hJ _ _ ?_; clear hJ J; simp only [ak, reduceIte]))))
        refine hJ2 _ _ (by simp [fi]) (by simp [fn]) ⟨by simp [f1], by simp [f26], by simp [f28], by simp [f27], by simp [f6], by simp [f54], rfl, fun q hq => ?_⟩
        rcases Nat.lt_or_ge q k with h3 | h3
        · exact hall q h3
        · obtain rfl : q = k := by omega
          rw [hx]; exact hxt
      · have hg := gi_not hxt
        have hrc := hbad fun h => hxt ((hok1.1 h).1.mem_iff.2 hin)
        (repeat' (first | refine qS ?_ | (refine qR ?_; simp only [ak, reduceIte]; simp [hg, hrc]) | (refine qC ?_; simp [hg, hrc]) | ((first | (refine w_e [] ?_; intro J hJ; simp only []) | (refine e_go ?_)); simp [hg, hrc]; (refine hJ _ _ ?_; clear hJ J; simp only [ak, reduceIte]))))
        exact hK4
    · clear f1 f26 fi fn fr
      rintro fr st6 ⟨f1, f26, f28, f27, f6, f54, rfl, hall⟩
      skip
      refine hJJ _ _ (by simp [f28]) (by simp [f27]) ⟨by simp [f1], by simp [f26], hG4, hK4, by omega, hnx (hok1.2 ⟨?_, h2.symm⟩)⟩
      refine (perm_of_sub (rise_nodup hrise) (fun x hx => ?_) (by omega)).symm
      obtain ⟨q, hq, rfl⟩ := List.getElem_of_mem hx
      have := hall q hq
      rwa [getD_lt _ _ hq] at this
  · rintro fr st2 ⟨f1, f26, hG, hkp, hsn, hok⟩
    have hrc := rchk_ok hc hl hok
    (repeat' (first | refine qS ?_ | (refine qR ?_; simp only [ak, reduceIte]; simp [hrc]) | (refine w_e [] ?_; intro J hJ; simp only []; simp [hrc]; (refine hJ _ _ ?_; clear hJ J; simp only [ak, reduceIte]))))
    exact hkp
noncomputable def rright (m : Mp) : Int := if rchk m ≠ 0 then rchk m else if gn m ≠ 0 then 23 else 0
theorem ref_rRight (m : Mp) (st : St) (hv : m.g.vs.length ≤ 1000) (he : m.g.es.length ≤ 1000) (hr : m.rots.length ≤ 1000) :
    ACalls Tryz.prog 9 [.ag (mpL m)] st fun r st' => r = i (rright m) ∧ Keeps st st' := by
  refine qO tabOk Tryz.func9 rfl rfl Tryz.ntmps9 (rs := [.tmp 2]) rfl (by simp) ?_
  (repeat' (first | refine qS ?_ | (refine w_e [] ?_; intro J hJ; simp only []; simp []; (try (refine hJ _ _ ?_; clear hJ J; simp only [ak, reduceIte])))))
  refine qE (ref_rCheck m _ hv he hr) (by simp) ?_; rintro r s1 ⟨rfl, hk1⟩
  have hn1 := hk1.next
  simp only [new_next] at hn1
  have hG1 : s1.H st.next = .box 28 3 (mpL m) := by rw [hk1.H _ (by simp)]; simp
  have hK1 : Keeps st s1 := (Keeps.new _ _).trans hk1
  by_cases hc : rchk m = 0
  rotate_left
  · have hrc : rright m = rchk m := by unfold rright; rw [if_pos hc]
    generalize rchk m = x at *
    have hcb : (x == 0) = false := by simpa using hc
    (repeat' (first | refine qS ?_ | (refine qK ?_; simp only [ak, reduceIte]) | (refine qR ?_; simp only [ak, reduceIte]; simp [hcb, hc, hrc]) | (refine qC ?_; simp [hcb, hc, hrc]) | ((first | (refine w_e [] ?_; intro J hJ; simp only []) | (refine e_go ?_)); simp [hcb, hc, hrc]; (refine hJ _ _ ?_; clear hJ J; simp only [ak, reduceIte]))))
    exact hK1
  (repeat' (first | refine qS ?_ | ((first | (refine w_e [] ?_; intro J hJ; simp only []) | (refine e_go ?_)); simp [hc, hG1]; (try (refine hJ _ _ ?_; clear hJ J; simp only [ak, reduceIte])))))
  refine qE (Twice m (rchk_zero hc).2 _ hv he) (by simp) ?_; rintro r s2 ⟨rfl, hk2⟩
  by_cases hg : gn m = 0
  · have hrc : rright m = 0 := by unfold rright; rw [if_neg (fun e => e hc), if_neg (fun e => e hg)]
    (repeat' (first | refine qS ?_ | (refine qK ?_; simp only [ak, reduceIte]) | (refine qR ?_; simp only [ak, reduceIte]; simp [hg, hrc]) | (refine qC ?_; simp [hg, hrc]) | ((first | (refine w_e [] ?_; intro J hJ; simp only []) | (refine e_go ?_)); simp [hg, hrc]; (refine hJ _ _ ?_; clear hJ J; simp only [ak, reduceIte]))))
    exact hK1.trans hk2
  · have hrc : rright m = 23 := by unfold rright; rw [if_neg (fun e => e hc), if_pos hg]
    generalize gn m = x at *
    have hx2 : ¬ (2 * (x : Int) = 0) := by omega
    (repeat' (first | refine qS ?_ | (refine qR ?_; simp only [ak, reduceIte]; simp [hx2, hg, hrc]) | (refine qC ?_; simp [hx2, hg, hrc]) | ((first | (refine w_e [] ?_; intro J hJ; simp only []) | (refine e_go ?_)); simp [hx2, hg, hrc]; (refine hJ _ _ ?_; clear hJ J; simp only [ak, reduceIte]))))
    exact hK1.trans hk2
end Go.Proofs.YtglkgindpjdoiaaGreat.Aw
namespace Go.Proofs.YtglkgindpjdoiaaGreat.Aw
open Go Go.RowKit Go.Proofs.YtglkgindpjdoiaaGreat.Pl Go.Proofs.YtglkgindpjdoiaaGreat.Eu
set_option linter.unusedSimpArgs false
set_option linter.unusedVariables false
theorem chk_smallC {m : Mp} (h : rchk m = 0) : m.g.vs.length ≤ 64 := by
  obtain ⟨_, _, h3, _⟩ := chk_good (rchk_zero h).1
  exact h3
theorem ref_rCheckC (m : Mp) (st : St) (hr : m.rots.length ≤ 1000) (he : m.g.es.length ≤ 1000) : ACalls Tryz.prog 27 [.ag (mpL m)] st fun r st' => r = i (rchk m) ∧ Keeps st st' := by
  by_cases hv : m.g.vs.length ≤ 1000
  · exact ref_rCheck m st hv he hr
  · have hc : chk m.g = 6 := by unfold chk; rw [if_pos (by omega)]
    have hrc : rchk m = 6 := by rw [rchk_g (by rw [hc]; decide), hc]
    refine qO tabOk Tryz.func27 rfl rfl Tryz.ntmps27 (rs := [.tmp 2]) rfl (by simp) ?_
    (repeat' (first | refine qS ?_ | (refine w_e [] ?_; intro J hJ; simp only []; simp []; (try (refine hJ _ _ ?_; clear hJ J; simp only [ak, reduceIte])))))
    refine qE (ref_Chk m.g _) (by simp) ?_; rintro r s1 ⟨rfl, hk1⟩
    rw [hc]
    (repeat' (first | refine qS ?_ | (refine qR ?_; simp only [ak, reduceIte]; simp [hrc]) | (refine qC ?_; simp [hrc]) | ((first | (refine w_e [] ?_; intro J hJ; simp only []) | (refine e_go ?_)); simp [hrc]; (refine hJ _ _ ?_; clear hJ J; simp only [ak, reduceIte]))))
    exact (Keeps.new _ _).trans hk1
theorem parts_mem {g : Gr} {k : Nat} {R : List (List Int)} (h : PartsTo g k R) : ∀ c ∈ R, ∃ v ∈ g.vs, IsPart g v c := by
  induction h with
  | zero => intro c hc; simp at hc
  | seen _ _ _ ih => exact ih
  | lead _ hk _ hc ih =>
    intro c hc'
    rcases List.mem_append.1 hc' with h1 | h1
    · exact ih c h1
    · rw [List.mem_singleton] at h1; subst h1
      exact ⟨_, getD_mem hk, hc⟩
section
variable {a b : Mp} (ha : MapOk a) (hb : MapOk b)
include ha hb
end
theorem belL_us (n : Nat) : ∀ l : List Int, belL n (us l) := fun l => by
  induction l with
  | nil => simp only [us, List.map_nil, belL]
  | cons x l ih => simp only [us, List.map_cons, belL]; exact ⟨trivial, ih⟩
theorem belL_rows3 (n : Nat) : ∀ R : List (List Int), belL n (rowsL3 R) := fun R => by
  induction R with
  | nil => simp only [rowsL3, List.map_nil, belL]
  | cons x l ih => simp only [rowsL3, List.map_cons, belL]; exact ⟨⟨.inl rfl, belL_us _ _⟩, ih⟩
theorem belL_eds (n : Nat) : ∀ l : List Ed, belL n (eds l) := fun l => by
  induction l with
  | nil => simp only [eds, List.flatMap_nil, belL]
  | cons x l ih => simp only [eds, List.flatMap_cons] at ih ⊢; exact ⟨trivial, trivial, trivial, ih⟩
theorem bel_mpL (n : Nat) (m : Mp) : bel n (.ag (mpL m)) := ⟨⟨.inl rfl, belL_us _ _⟩, ⟨.inl rfl, belL_eds _ _⟩, ⟨.inl rfl, belL_rows3 _ _⟩, trivial⟩
theorem uClone' (l : List Int) (t : Nat) (st : St) (hl : small l) :
    ACalls Tryz.prog 37 [.sl t l.length (us l)] st fun r st' => r = .sl 0 l.length (us l) ∧ st' = st :=
  qT (Q := fun r => r = .sl 0 l.length (us l)) (Clone l t st hl) fun r h => by subst h; exact ⟨.inl rfl, belL_us _ _⟩
end Go.Proofs.YtglkgindpjdoiaaGreat.Aw
namespace Go.Proofs.YtglkgindpjdoiaaGreat.Aw
open Go Go.RowKit Go.Proofs.YtglkgindpjdoiaaGreat.Pl
set_option linter.unusedSimpArgs false
set_option linter.unusedVariables false
theorem awp_cellM {P : Program} {N : Nat} {Q : AQ} {fr : Frm} {st : St} {c : Code} (q e' s' : Nat) {e s : Nat} (pre post : List LV) (hH : st.H q = .box e s (pre ++ .nil :: post))
    (h : AWp P N c Q fr ((st.new (.box e' s' [])).set q (.box e s (pre ++ .ms st.next 0 0 :: post)))) : AWp P N c Q fr st := by
  refine awp_ghost (fun a w g hi hr _ => ?_) h
  have he := ext_nil w g
  have h1 : Inv w g.addNil (st.new (.box e' s' [])) := inv_nil hi _ (.inr ⟨e', s', rfl⟩)
  have hlt : q < st.next := box_lt hi hH (by simp)
  refine ⟨g.addNil, inv_recell h1 (cs := pre ++ .nil :: post) (by rw [new_H, if_neg (by omega)]; exact hH) (by simp) (fun vs hv => ?_), hr.mono he, he⟩
  obtain ⟨v, k1, k2⟩ := repL_mid pre vs hv
  refine k2 g.addNil _ (Ext.refl _ _) ?_
  simp only [Rep] at k1 ⊢
  exact ⟨none, 0, k1, Nat.le_refl _, Nat.zero_le _, fun _ => by simp [G.addNil, hi.next], fun h => absurd rfl h, by simp [G.addNil, hi.next]⟩
def mpM (lv le lr : Nat) (m : Mp) : List LV := [.ms lv 0 m.g.vs.length, .ms le 0 m.g.es.length, .ms lr 0 m.rots.length]
structure MpAt (m : Mp) (lv le lr : Nat) (st : St) : Prop where
  v : st.H lv = .box 29 1 (us m.g.vs)
  e : st.H le = .box 31 3 (eds m.g.es)
  r : st.H lr = .box 22 1 (rowsL m.rots)
  v0 : lv < st.next
  e0 : le < st.next
  r0 : lr < st.next
theorem copiedM (g : Gr) (st : St) (hv : g.vs.length ≤ 100000) (he : g.es.length ≤ 100000) :
    ACalls Tryz.prog 60 [.ag (grL g)] st fun r st' => ∃ lv le, r = .ag [.ms lv 0 g.vs.length, .ms le 0 g.es.length] ∧ st.next ≤ lv ∧ lv < st'.next ∧ st.next ≤ le ∧ le < st'.next ∧ st'.H lv = .box 29 1 (us g.vs) ∧ st'.H le = .box 31 3 (eds g.es) ∧ Keeps st st' := by
  refine qO tabOk Tryz.func60 rfl rfl Tryz.ntmps60 (rs := [.cell 2 25]) rfl (by simp) ?_
  (repeat' (first | refine qS ?_ | (refine w_e [] ?_; intro J hJ; simp only []; simp []; (refine hJ _ _ ?_; clear hJ J; simp only [ak, reduceIte]))))
  (refine w_s [] [st.next] [(0, true), (1, true), (3, true), (4, true), (2, true), (5, true), (6, true), (7, false)] ?_; intro J hJ; simp [])
  refine qD (CloneMU g.vs 0 _ hv) (by simp) ?_; rintro r s1 ⟨lv, rfl, l1, l2, hv1, hk1⟩
  simp only [new_next] at l1
  have hB1 : s1.H st.next = .box 25 2 (grL g) := by rw [hk1.H _ (by simp; omega)]; simp
  have hC1 : s1.H (st.next + 1) = .box 25 2 [.nil, .nil] := by rw [hk1.H _ (by simp)]; simp
  refine ⟨fun _ => by simp [hB1], ?_⟩
  (refine d_go ?_; simp [hB1])
  have hn1 := hk1.next
  simp only [new_next] at hn1
  refine qD (CloneME g.es 0 _ he) (by simp) ?_; rintro r s2 ⟨le, rfl, l3, l4, hv2, hk2⟩
  have hB2 := (hk2.H st.next (by omega)).trans hB1
  have hC2 := (hk2.H (st.next + 1) (by omega)).trans hC1
  have hv3 := (hk2.H lv l2).trans hv1
  have hn2 := hk2.next
  refine ⟨fun _ => by simp [hB2], ?_⟩
  (refine d_go ?_; simp [hB2, hC2]; (refine hJ _ _ ?_; clear hJ J; simp only [ak, reduceIte]))
  (repeat' (refine qR ?_; simp only [ak, reduceIte]; simp [hC2]))
  refine ⟨lv, le, ⟨rfl, rfl⟩, by omega, by omega, by omega, by omega, ?_, ?_, ?_⟩
  · simp [show ¬ lv = st.next + 1 by omega, hv3]
  · simp [show ¬ le = st.next + 1 by omega, hv2]
  · exact (((((Keeps.new _ _).trans (Keeps.new _ _)).trans hk1).trans hk2).set (by omega) _)
set_option maxHeartbeats 1000000 in
theorem rCloneM (m : Mp) (st : St) (hv : m.g.vs.length ≤ 1000) (he : m.g.es.length ≤ 1000) (hr : m.rots.length ≤ 1000) (hs : ∀ t ∈ m.rots, small t) :
    ACalls Tryz.prog 29 [.ag (mpL m)] st fun r st' => ∃ lv le lr, r = .ag (mpM lv le lr m) ∧ MpAt m lv le lr st' ∧ st.next ≤ lv ∧ st.next ≤ le ∧ st.next ≤ lr ∧ Keeps st st' := by
  refine qO tabOk Tryz.func29 rfl rfl Tryz.ntmps29 (rs := [.cell 2 28]) rfl (by simp) ?_
  refine awp_posG fun hpos => ?_
  (repeat' (first | refine qS ?_ | (refine w_e [] ?_; intro J hJ; simp only []; simp []; (try (refine hJ _ _ ?_; clear hJ J; simp only [ak, reduceIte])))))
  refine qE (copiedM m.g _ (by omega) (by omega)) (by simp) ?_; rintro r s1 ⟨lv, le, rfl, l1, l2, l3, l4, hv1, he1, hk1⟩
  simp only [new_next] at l1 l3
  have hn1 := hk1.next
  simp only [new_next] at hn1
  have hB1 : s1.H st.next = .box 28 3 (mpL m) := by rw [hk1.H _ (by simp; omega)]; simp
  have hC1 : s1.H (st.next + 1) = .box 28 3 [.nil, .nil, .nil] := by rw [hk1.H _ (by simp)]; simp
  have e0 : ¬ st.next = s1.next := by omega
  (repeat' (first | refine qS ?_ | refine qB ?_ | ((first | (refine w_e [] ?_; intro J hJ; simp only []) | (refine e_go ?_)); simp [hB1, e0]; (refine hJ _ _ ?_; clear hJ J; simp only [ak, reduceIte]))))
  obtain ⟨c, hc⟩ : ∃ c, c = s1.next := ⟨_, rfl⟩
  refine awp_cellM c 22 1 (e := 28) (s := 3) [.ms lv 0 m.g.vs.length, .ms le 0 m.g.es.length] [] (by subst hc; simp) ?_
  have hF : ∀ j, j < m.rots.length → rowsL (m.rots.take (j + 1)) = rowsL (m.rots.take j) ++ [.sl 0 (m.rots.getD j []).length (us (m.rots.getD j []))] := fun j hj => by
    rw [List.take_succ_eq_append_getElem hj, getR_lt _ _ hj]; simp only [rowsL, List.map_append, List.map_cons, List.map_nil]
  have hkp1 : Keeps st s1 := ((Keeps.new _ _).trans (Keeps.new _ _)).trans hk1
  refine awp_range 13 12 14 24 (m.rots.length) (fun j fr st2 => fr 2 = .pt (st.next + 1) 0 ∧ fr 3 = .pt c 0 ∧ fr 11 = .sl 0 m.rots.length (rowsL m.rots) ∧ Keeps st st2 ∧ st2.H (st.next + 1) = .box 28 3 [.nil, .nil, .nil] ∧ st2.H lv = .box 29 1 (us m.g.vs) ∧ st2.H le = .box 31 3 (eds m.g.es) ∧ ∃ lr, st2.H c = .box 28 3 [.ms lv 0 m.g.vs.length, .ms le 0 m.g.es.length, .ms lr 0 j] ∧ st2.H lr = .box 22 1 (rowsL (m.rots.take j)) ∧ c < lr ∧ lr < st2.next) ?_ ?_ ?_
  · refine ⟨by simp, by simp [hc], by simp, ?_, ?_, ?_, ?_, c + 1, ?_, ?_, by omega, ?_⟩
    · subst hc; (repeat (first | exact hkp1 | (refine Keeps.trans ?_ (Keeps.new _ _)) | (refine Keeps.set ?_ (by first | omega | (simp; done) | (simp; omega)) _)))
    · subst hc; simp [show ¬ st.next + 1 = s1.next by omega, show ¬ st.next + 1 = s1.next + 1 by omega, hC1, show ¬ st.next = s1.next by omega]
    · subst hc; simp [show ¬ lv = s1.next by omega, show ¬ lv = s1.next + 1 by omega, hv1]
    · subst hc; simp [show ¬ le = s1.next by omega, show ¬ le = s1.next + 1 by omega, he1]
    · subst hc; simp
    · subst hc; simp
    · subst hc; simp
  · rintro j fr s hlt ⟨f2, f3, f11, hkp, hR, hv, he, lr, hB, hO, hlo, hhi⟩ fi fn JO hJO
    have hd := rowsL_drop m.rots j hlt
    have hFj := hF j hlt
    have hst := hs _ (show m.rots.getD j [] ∈ m.rots by rw [getR_lt _ _ hlt]; exact List.getElem_mem _)
    have hjl : (rowsL (m.rots.take j)).length = j := by simp [rowsL]; omega
    simp only [hFj] at hJO
    generalize m.rots.getD j [] = t at *
    generalize rowsL (m.rots.take j) = R at *
    (repeat' (first | refine qS ?_ | (refine w_e [] ?_; intro J hJ; simp only []; simp [f11, fi, fn, hd, hlt]; (refine hJ _ _ ?_; clear hJ J; simp only [ak, reduceIte]))))
    (refine w_s [] [c] [(0, true), (1, true), (2, true), (3, true), (4, true), (5, false), (6, true), (7, false)] ?_; intro J hJ; simp [f3, hB])
    refine qD (uClone' t 0 _ hst) (by simp) ?_; rintro r s2 ⟨rfl, h1⟩
    rw [h1]; clear h1 s2
    refine ⟨fun h => by first | (cases h; done) | simp [hB], ?_⟩
    have e2 : ¬ lr = s.next := by omega
    have e3 : ¬ c = lr := by omega
    have e4 : ¬ c = s.next := by omega
    have e5 : ¬ c = s.next + 1 := by omega
    (refine d_go ?_; simp [f3, hB, hO, e2, e3, e4, e5, hjl]; (repeat refine ca ?_); (refine hJ _ _ ?_; clear hJ J; simp only [ak, reduceIte]))
    refine hJO _ _ (by simp [fi]) (by simp [fn]) ⟨by simp [f2], by simp [f3], by simp [f11], ?_, ?_, ?_, ?_, s.next + 1, by simp, by simp [show ¬ s.next + 1 = c by omega, show ¬ s.next = c by omega], by omega, by simp⟩
    · (repeat (first | exact hkp | (refine Keeps.trans ?_ (Keeps.new _ _)) | (refine Keeps.set ?_ (by omega) _)))
    · simp [show ¬ st.next + 1 = c by omega, show ¬ st.next = s.next by omega, show ¬ st.next + 1 = lr by omega, show ¬ st.next + 1 = s.next by omega, hR]
    · simp [show ¬ lv = c by omega, show ¬ lv = s.next + 1 by omega, show ¬ lv = lr by omega, show ¬ lv = s.next by omega, hv]
    · simp [show ¬ le = c by omega, show ¬ le = s.next + 1 by omega, show ¬ le = lr by omega, show ¬ le = s.next by omega, he]
  · rintro fr s ⟨f2, f3, f11, hkp, hR, hv, he, lr, hB, hO, hlo, hhi⟩
    rw [List.take_length] at hO
    (repeat' (first | refine qS ?_ | (refine qR ?_; simp only [ak, reduceIte]; simp [f2, f3, hB, hR]) | (refine w_e [] ?_; intro J hJ; simp only []; simp [f2, f3, hB, hR]; (refine hJ _ _ ?_; clear hJ J; simp only [ak, reduceIte]))))
    refine ⟨lv, le, lr, rfl, ⟨?_, ?_, ?_, by simp; omega, by simp; omega, by simp; omega⟩, by omega, by omega, by omega, hkp.set (by omega) _⟩
    · simp [show ¬ lv = st.next + 1 by omega, hv]
    · simp [show ¬ le = st.next + 1 by omega, he]
    · simp [show ¬ lr = st.next + 1 by omega, hO]
def lss (l : List Int) (v : Int) : Nat := (l.filter fun x => decide (x < v)).length
theorem lss_at {l : List Int} {v : Int} {k : Nat} (hk : k ≤ l.length) (h1 : ∀ j (h : j < l.length), j < k → l[j] < v) (h2 : ∀ j (h : j < l.length), k ≤ j → v ≤ l[j]) : lss l v = k := by
  unfold lss
  rw [← List.take_append_drop k l, List.filter_append, List.length_append]
  have e1 : (l.take k).filter (fun x => decide (x < v)) = l.take k := List.filter_eq_self.2 fun x hx => by
    obtain ⟨j, hj, rfl⟩ := List.getElem_of_mem hx
    rw [List.length_take] at hj
    rw [List.getElem_take]
    simpa using h1 j (by omega) (by omega)
  have e2 : (l.drop k).filter (fun x => decide (x < v)) = [] := List.filter_eq_nil_iff.2 fun x hx => by
    obtain ⟨j, hj, rfl⟩ := List.getElem_of_mem hx
    rw [List.length_drop] at hj
    rw [List.getElem_drop]
    simpa using h2 (k + j) (by omega) (by omega)
  rw [e1, e2, List.length_take]; simp; omega
theorem lss_le (l : List Int) (v : Int) : lss l v ≤ l.length := List.length_filter_le _ _
theorem isNaNS (x : Int) (st : St) : ACalls Tryz.prog 122 [u x] st fun r st' => r = bb false ∧ st' = st := by
  refine qO tabOk Tryz.func122 rfl rfl Tryz.ntmps122 (rs := [.tmp 2]) rfl (by simp) ?_
  (repeat' (first | refine qS ?_ | (refine qR ?_; simp only [ak, reduceIte]; simp []) | (refine w_e [] ?_; intro J hJ; simp only []; simp []; (refine hJ _ _ ?_; clear hJ J; simp only [ak, reduceIte]))))
theorem BinarySearch (l : List Int) (t : Nat) (v : Int) (st : St) (hl : l.length ≤ 100000) (hr : l.Pairwise (· < ·)) :
    ACalls Tryz.prog 95 [.sl t l.length (us l), u v] st fun r st' => r = .tu [i (lss l v), bb (decide (v ∈ l))] ∧ st' = st := by
  refine qO tabOk Tryz.func95 rfl rfl Tryz.ntmps95 (rs := [.tmp 4, .tmp 5]) rfl (by simp) ?_
  (repeat' (first | refine qS ?_ | refine qB ?_ | (refine w_e [] ?_; intro J hJ; simp only []; simp []; (refine hJ _ _ ?_; clear hJ J; simp only [ak, reduceIte]))))
  refine qL (fun n fr st' => ∃ a b : Nat, a ≤ b ∧ b ≤ l.length ∧ n = b - a ∧ fr 0 = .sl t l.length (us l) ∧ fr 1 = u v ∧ fr 6 = i l.length ∧ fr 7 = i a ∧ fr 8 = i b ∧ st' = st ∧ (∀ j (h : j < l.length), j < a → l[j] < v) ∧ ∀ j (h : j < l.length), b ≤ j → v ≤ l[j]) l.length ?_ ?_
  · exact ⟨0, l.length, by omega, by omega, by omega, by simp, by simp, by simp, by simp, by simp, rfl, fun j _ h => by omega, fun j h1 h2 => by omega⟩
  rintro n fr st' ⟨a, b, hab, hb, rfl, f0, f1, f6, f7, f8, rfl, h1, h2⟩ JJ hJJ
  by_cases hlt : a < b
  rotate_left
  · have hba : b = a := by omega
    subst hba
    clear hJJ
    have hlt' : ¬ (b : Int) < b := by omega
    have hls := lss_at hb h1 h2
    by_cases hlb : b < l.length
    · have hd := us_drop_head l b hlb
      have hlb' : (b : Int) < l.length := by omega
      by_cases hv : l[b] = v
      · have hin : v ∈ l := hv ▸ List.getElem_mem hlb
        (repeat' (first | refine qS ?_ | (refine qX ?_; simp only [ak, reduceIte]) | (refine qR ?_; simp only [ak, reduceIte]; simp [f0, f1, f6, f7, f8, hlt', hlb', hlb, hd, hv, hls, hin]) | (refine qC ?_; simp [f0, f1, f6, f7, f8, hlt', hlb', hlb, hd, hv, hls, hin]) | (refine w_e [] ?_; intro J hJ; simp only []; simp [f0, f1, f6, f7, f8, hlt', hlb', hlb, hd, hv, hls, hin]; (refine hJ _ _ ?_; clear hJ J; simp only [ak, reduceIte]))))
      · have hin : v ∉ l := fun hm => by
          obtain ⟨j, hj, e⟩ := List.getElem_of_mem hm
          rcases Nat.lt_trichotomy j b with h | h | h
          · have := h1 j hj h; omega
          · subst h; exact hv e
          · have h3 := List.pairwise_iff_getElem.1 hr b j hlb hj h
            have h4 := h2 b hlb (Nat.le_refl _)
            omega
        have hvb : (l[b] == v) = false := by simpa using hv
        (repeat' (first | refine qS ?_ | (refine qX ?_; simp only [ak, reduceIte]) | (refine qC ?_; simp [f0, f1, f6, f7, f8, hlt', hlb', hlb, hd, hv, hvb, hls, hin]) | (refine w_e [] ?_; intro J hJ; simp only []; simp [f0, f1, f6, f7, f8, hlt', hlb', hlb, hd, hv, hvb, hls, hin]; (try (refine hJ _ _ ?_; clear hJ J; simp only [ak, reduceIte])))))
        refine qE (isNaNS l[b] _) (by simp) ?_; rintro r s1 ⟨rfl, rfl⟩
        (repeat' (first | (refine qR ?_; simp only [ak, reduceIte]; simp [hls, hin]) | (refine e_go ?_; simp [hls, hin]; (refine hJ _ _ ?_; clear hJ J; simp only [ak, reduceIte]))))
    · have hlb' : ¬ (b : Int) < l.length := by omega
      have hin : v ∉ l := fun hm => by
        obtain ⟨j, hj, e⟩ := List.getElem_of_mem hm
        have := h1 j hj (by omega)
        omega
      (repeat' (first | refine qS ?_ | (refine qX ?_; simp only [ak, reduceIte]) | (refine qR ?_; simp only [ak, reduceIte]; simp [f0, f1, f6, f7, f8, hlt', hlb', hls, hin]) | (refine qC ?_; simp [f0, f1, f6, f7, f8, hlt', hlb', hls, hin]) | (refine w_e [] ?_; intro J hJ; simp only []; simp [f0, f1, f6, f7, f8, hlt', hlb', hls, hin]; (refine hJ _ _ ?_; clear hJ J; simp only [ak, reduceIte]))))
  · obtain ⟨h, hh⟩ : ∃ h, h = (a + b) / 2 := ⟨_, rfl⟩
    have hw1 : IntKind.i64.wrap ((a : Int) + b) = ((a + b : Nat) : Int) := by rw [wrap_small _ (by omega) (by omega)]; omega
    have hw2 : IntKind.u64.wrap ((a + b : Nat) : Int) = ((a + b : Nat) : Int) := wrap_u64 _ (by omega) (by omega)
    have hw3 := half_s (a + b) h hh
    have hw4 : IntKind.i64.wrap (h : Int) = h := wrap_small _ (by omega) (by omega)
    have hw5 := qN h (by omega)
    have hlt' : (a : Int) < b := by omega
    have hhl : h < l.length := by omega
    have hhl' : (h : Int) < l.length := by omega
    have hd := us_drop_head l h hhl
    have hca : ((a + b : Nat) : Int) = (a : Int) + b := by omega
    rw [hca] at hw1 hw2 hw3
    (repeat' (first | refine qS ?_ | refine qB ?_ | (refine qK ?_; simp only [ak, reduceIte]) | (refine qC ?_; simp [f0, f1, f7, f8, hlt', hw1, hw2, hw3, hw4, hhl, hhl', hd]) | (refine w_e [] ?_; intro J hJ; simp only []; simp [f0, f1, f7, f8, hlt', hw1, hw2, hw3, hw4, hhl, hhl', hd]; (try (refine hJ _ _ ?_; clear hJ J; simp only [ak, reduceIte])))))
    refine qE (Less l[h] v _) (by simp) ?_; rintro r s1 ⟨rfl, rfl⟩
    by_cases hc : l[h] < v
    · (repeat' (first | (refine qC ?_; simp [hc, hw5]) | ((first | (refine w_e [] ?_; intro J hJ; simp only []) | (refine e_go ?_)); simp [hc, hw5]; (refine hJ _ _ ?_; clear hJ J; simp only [ak, reduceIte]))))
      refine hJJ (b - (h + 1)) _ _ (by omega) ⟨h + 1, b, by omega, hb, rfl, by simp [f0], by simp [f1], by simp [f6], by simp, by simp [f8], rfl, fun j hj hjh => ?_, h2⟩
      rcases Nat.lt_or_ge j h with h3 | h3
      · have := List.pairwise_iff_getElem.1 hr j h hj hhl h3; omega
      · obtain rfl : j = h := by omega
        exact hc
    · (repeat' (first | (refine qC ?_; simp [hc]) | ((first | (refine w_e [] ?_; intro J hJ; simp only []) | (refine e_go ?_)); simp [hc]; (refine hJ _ _ ?_; clear hJ J; simp only [ak, reduceIte]))))
      refine hJJ (h - a) _ _ (by omega) ⟨a, h, by omega, by omega, rfl, by simp [f0], by simp [f1], by simp [f6], by simp [f7], by simp, rfl, h1, fun j hj hjh => ?_⟩
      rcases Nat.lt_or_ge h j with h3 | h3
      · have := List.pairwise_iff_getElem.1 hr h j hhl hj h3; omega
      · obtain rfl : j = h := by omega
        omega
def rowW (m : Mp) (v : Int) : List Int := if v ∈ m.g.vs then m.rots.getD (m.g.vs.idxOf v) [] else []
def tnW (m : Mp) (v : Int) (ids : List Int) : List Int := (rowW m v).filter fun d => decide (d / 2 ∈ ids)
structure Sp where
  k : Int
  id : Int
  a : Int
  b : Int
  pa : Int
  pb : Int
def aheadR (b : Mp) (v d : Int) (T : List Int) : Int := if (nrm (tnW b v T)).length < 2 then 0 else pv (nrm (tnW b v T)) d
end Go.Proofs.YtglkgindpjdoiaaGreat.Aw
namespace Go.Proofs.YtglkgindpjdoiaaGreat.Aw
open Go Go.RowKit Go.Proofs.YtglkgindpjdoiaaGreat.Pl Go.Proofs.YtglkgindpjdoiaaGreat.Eu
set_option linter.unusedSimpArgs false
set_option linter.unusedVariables false
def keptM (m : Mp) (I : List Int) : Mp := ⟨⟨m.g.vs, m.g.es.filter fun x => decide (x.id ∈ I)⟩, m.rots.map fun t => nrm (t.filter fun d => decide (d / 2 ∈ I))⟩
end Go.Proofs.YtglkgindpjdoiaaGreat.Aw
namespace Go.Proofs.YtglkgindpjdoiaaGreat.Aw
open Go Go.RowKit Go.Proofs.YtglkgindpjdoiaaGreat.Pl
set_option linter.unusedSimpArgs false
set_option linter.unusedVariables false
theorem Vert' (g : Gr) (v : Int) (st : St) (hl : small g.vs) :
    ACalls Tryz.prog 45 [.ag (grL g), u v] st fun r st' => r = i (gi g.vs v) ∧ st' = st :=
  qT (Q := fun r => r = i (gi g.vs v)) (Vert g v st hl) fun r h => by subst h; trivial
end Go.Proofs.YtglkgindpjdoiaaGreat.Aw
namespace Go.Proofs.YtglkgindpjdoiaaGreat.Aw
open Go Go.RowKit
set_option linter.unusedSimpArgs false
set_option linter.unusedVariables false
def stp (k id a b pa pb : Int) : LV := .ag [i k, u id, u a, u b, u pa, u pb]
theorem Link (x : Ed) (pa pb : Int) (st : St) : ACalls Tryz.prog 11 [.ag (edL x), u pa, u pb] st fun r st' => r = stp 3 x.id x.a x.b pa pb ∧ Keeps st st' := by
  obtain ⟨xi, xa, xb⟩ := x
  refine qO tabOk Tryz.func11 rfl rfl Tryz.ntmps11 (rs := [.cell 6 38]) rfl (by simp) ?_
  (repeat' (first | refine qS ?_ | (refine qR ?_; simp only [ak, reduceIte]; simp []) | (refine w_e [] ?_; intro J hJ; simp only []; simp []; (refine hJ _ _ ?_; clear hJ J; simp only [ak, reduceIte]))))
  first | exact ⟨rfl, (Keeps.new _ _).trans (Keeps.new _ _)⟩ | exact (Keeps.new _ _).trans (Keeps.new _ _) | exact ⟨rfl, ((Keeps.new _ _).trans (Keeps.new _ _)).set (by simp) _⟩
theorem NoLink (n : Int) (st : St) : ACalls Tryz.prog 44 [u n] st fun r st' => r = stp 4 n 0 0 0 0 ∧ Keeps st st' := by
  refine qO tabOk Tryz.func44 rfl rfl Tryz.ntmps44 (rs := [.cell 2 38]) rfl (by simp) ?_
  (repeat' (first | refine qS ?_ | (refine qR ?_; simp only [ak, reduceIte]; simp []) | (refine w_e [] ?_; intro J hJ; simp only []; simp []; (refine hJ _ _ ?_; clear hJ J; simp only [ak, reduceIte]))))
  first | exact ⟨rfl, Keeps.new _ _⟩ | exact Keeps.new _ _
theorem Vertex (n : Int) (st : St) : ACalls Tryz.prog 24 [u n] st fun r st' => r = stp 1 n 0 0 0 0 ∧ Keeps st st' := by
  refine qO tabOk Tryz.func24 rfl rfl Tryz.ntmps24 (rs := [.cell 2 38]) rfl (by simp) ?_
  (repeat' (first | refine qS ?_ | (refine qR ?_; simp only [ak, reduceIte]; simp []) | (refine w_e [] ?_; intro J hJ; simp only []; simp []; (refine hJ _ _ ?_; clear hJ J; simp only [ak, reduceIte]))))
  first | exact ⟨rfl, Keeps.new _ _⟩ | exact Keeps.new _ _
theorem NoVertex (n : Int) (st : St) : ACalls Tryz.prog 46 [u n] st fun r st' => r = stp 2 n 0 0 0 0 ∧ Keeps st st' := by
  refine qO tabOk Tryz.func46 rfl rfl Tryz.ntmps46 (rs := [.cell 2 38]) rfl (by simp) ?_
  (repeat' (first | refine qS ?_ | (refine qR ?_; simp only [ak, reduceIte]; simp []) | (refine w_e [] ?_; intro J hJ; simp only []; simp []; (refine hJ _ _ ?_; clear hJ J; simp only [ak, reduceIte]))))
  first | exact ⟨rfl, Keeps.new _ _⟩ | exact Keeps.new _ _
end Go.Proofs.YtglkgindpjdoiaaGreat.Aw
namespace Go.Proofs.YtglkgindpjdoiaaGreat.Aw
open Go Go.RowKit Go.Proofs.YtglkgindpjdoiaaGreat.Pl
set_option linter.unusedSimpArgs false
set_option linter.unusedVariables false
def sp0 : Sp := ⟨0, 0, 0, 0, 0, 0⟩
def spL (s : Sp) : List LV := [i s.k, u s.id, u s.a, u s.b, u s.pa, u s.pb]
def sps (l : List Sp) : List LV := l.flatMap spL
theorem sps_length (l : List Sp) : (sps l).length = l.length * 6 := by
  induction l with
  | nil => rfl
  | cons s l ih => simp only [sps, List.flatMap_cons, List.length_append, List.length_cons] at ih ⊢; rw [ih]; simp [spL]; omega
theorem sps_drop (l : List Sp) (k : Nat) (hk : k < l.length) : (sps l).drop (k * 6) = i (l.getD k sp0).k :: u (l.getD k sp0).id :: u (l.getD k sp0).a :: u (l.getD k sp0).b :: u (l.getD k sp0).pa :: u (l.getD k sp0).pb :: sps (l.drop (k + 1)) := by
  induction l generalizing k with
  | nil => simp at hk
  | cons s l ih =>
    cases k with
    | zero => rfl
    | succ k =>
      have := ih k (by simpa using hk)
      rw [show (k + 1) * 6 = k * 6 + 6 by omega]
      simp only [sps, List.flatMap_cons] at this ⊢
      show (spL s ++ l.flatMap spL).drop (k * 6 + 6) = _
      rw [show k * 6 + 6 = (spL s).length + k * 6 by simp [spL]; omega, ← List.drop_drop, List.drop_left, this]
      simp
def numI (n : Int) : Prop := 1 ≤ n ∧ n ≤ 1048576
instance (n : Int) : Decidable (numI n) := by unfold numI; infer_instance
theorem numberS (n : Int) (st : St) : ACalls Tryz.prog 94 [u n] st fun r st' => r = bb (decide (numI n)) ∧ st' = st := by
  refine qO tabOk Tryz.func94 rfl rfl Tryz.ntmps94 (rs := [.tmp 2]) rfl (by simp) ?_
  by_cases h1 : 1 ≤ n
  · by_cases h2 : n ≤ 1048576
    · have h : numI n := ⟨h1, h2⟩
      (repeat' (first | refine qS ?_ | (refine qR ?_; simp only [ak, reduceIte]; simp [h1, h2, h]) | (refine w_e [] ?_; intro J hJ; simp only []; simp [h1, h2, h]; (refine hJ _ _ ?_; clear hJ J; simp only [ak, reduceIte]))))
    · have h : ¬ numI n := fun h => h2 h.2
      (repeat' (first | refine qS ?_ | (refine qR ?_; simp only [ak, reduceIte]; simp [h1, h2, h]) | (refine w_e [] ?_; intro J hJ; simp only []; simp [h1, h2, h]; (refine hJ _ _ ?_; clear hJ J; simp only [ak, reduceIte]))))
  · have h : ¬ numI n := fun h => h1 h.1
    (repeat' (first | refine qS ?_ | (refine qR ?_; simp only [ak, reduceIte]; simp [h1, h]) | (refine w_e [] ?_; intro J hJ; simp only []; simp [h1, h]; (refine hJ _ _ ?_; clear hJ J; simp only [ak, reduceIte]))))
def formW (s : Sp) : Int :=
  if s.k < 1 ∨ 4 < s.k then 11
  else if s.k ≠ 3 ∧ (s.a ≠ 0 ∨ s.b ≠ 0 ∨ s.pa ≠ 0 ∨ s.pb ≠ 0) then 4
  else if ¬ numI s.id ∨ (s.k = 3 ∧ (¬ numI s.a ∨ ¬ numI s.b)) then 2 else 0
set_option maxHeartbeats 2000000 in
theorem formK (s : Sp) (st : St) : ACalls Tryz.prog 61 [.ag (spL s)] st fun r st' => r = i (formW s) ∧ Keeps st st' := by
  obtain ⟨y, hy⟩ : ∃ y, y = formW s := ⟨_, rfl⟩
  rw [← hy]
  unfold formW at hy
  obtain ⟨k, id, a, b, pa, pb⟩ := s
  simp only at hy
  simp only [spL]
  refine qO tabOk Tryz.func61 rfl rfl Tryz.ntmps61 (rs := [.tmp 2]) rfl (by simp) ?_
  by_cases h1 : k < 1 ∨ 4 < k
  · rw [if_pos h1] at hy
    subst hy
    by_cases h2 : k < 1
    · (repeat' (first | refine qS ?_ | (refine qR ?_; simp only [ak, reduceIte]; simp [h2]) | (refine qC ?_; simp [h2]) | (refine w_e [] ?_; intro J hJ; simp only []; simp [h2]; (refine hJ _ _ ?_; clear hJ J; simp only [ak, reduceIte]))))
      exact Keeps.new _ _
    · have h3 : 4 < k := by omega
      (repeat' (first | refine qS ?_ | (refine qR ?_; simp only [ak, reduceIte]; simp [h2, h3]) | (refine qC ?_; simp [h2, h3]) | (refine w_e [] ?_; intro J hJ; simp only []; simp [h2, h3]; (refine hJ _ _ ?_; clear hJ J; simp only [ak, reduceIte]))))
      exact Keeps.new _ _
  rw [if_neg h1] at hy
  have h2 : ¬ k < 1 := by omega
  have h3 : ¬ 4 < k := by omega
  clear h1
  by_cases hk : k = 3
  · subst hk
    rw [if_neg (by simp)] at hy
    (repeat' (first | refine qS ?_ | (refine qK ?_; simp only [ak, reduceIte]) | (refine qC ?_; simp [h2, h3]) | (refine w_e [] ?_; intro J hJ; simp only []; simp [h2, h3]; (try (refine hJ _ _ ?_; clear hJ J; simp only [ak, reduceIte])))))
    refine qE (numberS id _) (by simp) ?_; rintro r s1 ⟨rfl, h1⟩
    rw [h1]; clear h1 s1
    by_cases hi : numI id
    rotate_left
    · rw [if_pos (.inl hi)] at hy
      subst hy
      (repeat' (first | refine qS ?_ | (refine qR ?_; simp only [ak, reduceIte]; simp [hi]) | (refine qC ?_; simp [hi]) | ((first | (refine w_e [] ?_; intro J hJ; simp only []) | (refine e_go ?_)); simp [hi]; (refine hJ _ _ ?_; clear hJ J; simp only [ak, reduceIte]))))
      exact Keeps.new _ _
    (repeat' (refine e_go ?_; simp [hi]))
    refine qE (numberS a _) (by simp) ?_; rintro r s1 ⟨rfl, h1⟩
    rw [h1]; clear h1 s1
    by_cases ha : numI a
    rotate_left
    · rw [if_pos (.inr ⟨rfl, .inl ha⟩)] at hy
      subst hy
      (repeat' (first | refine qS ?_ | (refine qR ?_; simp only [ak, reduceIte]; simp [ha]) | (refine qC ?_; simp [ha]) | ((first | (refine w_e [] ?_; intro J hJ; simp only []) | (refine e_go ?_)); simp [ha]; (refine hJ _ _ ?_; clear hJ J; simp only [ak, reduceIte]))))
      exact Keeps.new _ _
    (repeat' (refine e_go ?_; simp [ha]))
    refine qE (numberS b _) (by simp) ?_; rintro r s1 ⟨rfl, h1⟩
    rw [h1]; clear h1 s1
    by_cases hb : numI b
    rotate_left
    · rw [if_pos (.inr ⟨rfl, .inr hb⟩)] at hy
      subst hy
      (repeat' (first | refine qS ?_ | (refine qR ?_; simp only [ak, reduceIte]; simp [hb]) | (refine qC ?_; simp [hb]) | ((first | (refine w_e [] ?_; intro J hJ; simp only []) | (refine e_go ?_)); simp [hb]; (refine hJ _ _ ?_; clear hJ J; simp only [ak, reduceIte]))))
      exact Keeps.new _ _
    rw [if_neg (by rintro (h | ⟨_, h | h⟩) <;> contradiction)] at hy
    subst hy
    (repeat' (first | refine qS ?_ | (refine qK ?_; simp only [ak, reduceIte]) | (refine qR ?_; simp only [ak, reduceIte]; simp [hb]) | (refine qC ?_; simp [hb]) | ((first | (refine w_e [] ?_; intro J hJ; simp only []) | (refine e_go ?_)); simp [hb]; (refine hJ _ _ ?_; clear hJ J; simp only [ak, reduceIte]))))
    exact Keeps.new _ _
  have hkb : (k == 3) = false := by simpa using hk
  have hkn : (k != 3) = true := by simpa using hk
  by_cases hz : a ≠ 0 ∨ b ≠ 0 ∨ pa ≠ 0 ∨ pb ≠ 0
  · rw [if_pos ⟨hk, hz⟩] at hy
    subst hy
    by_cases ha : a = 0
    rotate_left
    · have hab : (a != 0) = true := by simpa using ha
      (repeat' (first | refine qS ?_ | (refine qK ?_; simp only [ak, reduceIte]) | (refine qR ?_; simp only [ak, reduceIte]; simp [h2, h3, hk, hkb, hkn, ha, hab]) | (refine qC ?_; simp [h2, h3, hk, hkb, hkn, ha, hab]) | (refine w_e [] ?_; intro J hJ; simp only []; simp [h2, h3, hk, hkb, hkn, ha, hab]; (refine hJ _ _ ?_; clear hJ J; simp only [ak, reduceIte]))))
      exact Keeps.new _ _
    subst ha
    by_cases hb : b = 0
    rotate_left
    · have hab : (b != 0) = true := by simpa using hb
      (repeat' (first | refine qS ?_ | (refine qK ?_; simp only [ak, reduceIte]) | (refine qR ?_; simp only [ak, reduceIte]; simp [h2, h3, hk, hkb, hkn, hb, hab]) | (refine qC ?_; simp [h2, h3, hk, hkb, hkn, hb, hab]) | (refine w_e [] ?_; intro J hJ; simp only []; simp [h2, h3, hk, hkb, hkn, hb, hab]; (refine hJ _ _ ?_; clear hJ J; simp only [ak, reduceIte]))))
      exact Keeps.new _ _
    subst hb
    by_cases hp : pa = 0
    rotate_left
    · have hab : (pa != 0) = true := by simpa using hp
      (repeat' (first | refine qS ?_ | (refine qK ?_; simp only [ak, reduceIte]) | (refine qR ?_; simp only [ak, reduceIte]; simp [h2, h3, hk, hkb, hkn, hp, hab]) | (refine qC ?_; simp [h2, h3, hk, hkb, hkn, hp, hab]) | (refine w_e [] ?_; intro J hJ; simp only []; simp [h2, h3, hk, hkb, hkn, hp, hab]; (refine hJ _ _ ?_; clear hJ J; simp only [ak, reduceIte]))))
      exact Keeps.new _ _
    subst hp
    have hq : pb ≠ 0 := by simpa using hz
    have hab : (pb != 0) = true := by simpa using hq
    (repeat' (first | refine qS ?_ | (refine qK ?_; simp only [ak, reduceIte]) | (refine qR ?_; simp only [ak, reduceIte]; simp [h2, h3, hk, hkb, hkn, hq, hab]) | (refine qC ?_; simp [h2, h3, hk, hkb, hkn, hq, hab]) | (refine w_e [] ?_; intro J hJ; simp only []; simp [h2, h3, hk, hkb, hkn, hq, hab]; (refine hJ _ _ ?_; clear hJ J; simp only [ak, reduceIte]))))
    exact Keeps.new _ _
  rw [if_neg (fun h => hz h.2)] at hy
  obtain ⟨ha, hb, hp, hq⟩ : a = 0 ∧ b = 0 ∧ pa = 0 ∧ pb = 0 := by
    refine ⟨?_, ?_, ?_, ?_⟩ <;> (refine Classical.byContradiction fun h => hz ?_) <;> simp [h]
  subst ha hb hp hq
  (repeat' (first | refine qS ?_ | (refine qK ?_; simp only [ak, reduceIte]) | (refine qC ?_; simp [h2, h3, hk, hkb, hkn]) | (refine w_e [] ?_; intro J hJ; simp only []; simp [h2, h3, hk, hkb, hkn]; (try (refine hJ _ _ ?_; clear hJ J; simp only [ak, reduceIte])))))
  refine qE (numberS id _) (by simp) ?_; rintro r s1 ⟨rfl, h1⟩
  rw [h1]; clear h1 s1
  by_cases hi : numI id
  · rw [if_neg (by rintro (h | ⟨h, _⟩) <;> contradiction)] at hy
    subst hy
    (repeat' (first | refine qS ?_ | (refine qK ?_; simp only [ak, reduceIte]) | (refine qR ?_; simp only [ak, reduceIte]; simp [hi, hk, hkb]) | (refine qC ?_; simp [hi, hk, hkb]) | ((first | (refine w_e [] ?_; intro J hJ; simp only []) | (refine e_go ?_)); simp [hi, hk, hkb]; (refine hJ _ _ ?_; clear hJ J; simp only [ak, reduceIte]))))
    exact Keeps.new _ _
  · rw [if_pos (.inl hi)] at hy
    subst hy
    (repeat' (first | refine qS ?_ | (refine qR ?_; simp only [ak, reduceIte]; simp [hi]) | (refine qC ?_; simp [hi]) | ((first | (refine w_e [] ?_; intro J hJ; simp only []) | (refine e_go ?_)); simp [hi]; (refine hJ _ _ ?_; clear hJ J; simp only [ak, reduceIte]))))
    exact Keeps.new _ _
theorem form (s : Sp) (st : St) : ACalls Tryz.prog 61 [.ag (spL s)] st fun r st' => r = i (formW s) ∧ st' = st :=
  qT (Q := fun r => r = i (formW s)) (formK s st) fun r h => by subst h; trivial
def standsW (t : List Int) (p : Int) : Prop := (t = [] ∧ p = 0) ∨ p ∈ t
instance (t : List Int) (p : Int) : Decidable (standsW t p) := by unfold standsW; infer_instance
theorem stands (l : List Int) (t : Nat) (p : Int) (st : St) (hl : small l) : ACalls Tryz.prog 100 [.sl t l.length (us l), u p] st fun r st' => r = bb (decide (standsW l p)) ∧ st' = st := by
  obtain ⟨y, hy⟩ : ∃ y, y = decide (standsW l p) := ⟨_, rfl⟩
  rw [← hy]
  unfold standsW at hy
  refine qO tabOk Tryz.func100 rfl rfl Tryz.ntmps100 (rs := [.tmp 4]) rfl (by simp) ?_
  by_cases h0 : l = []
  · subst h0
    by_cases hp : p = 0
    · subst hp
      simp at hy
      subst hy
      (repeat' (first | refine qS ?_ | (refine qR ?_; simp only [ak, reduceIte]; simp []) | (refine qC ?_; simp []) | (refine w_e [] ?_; intro J hJ; simp only []; simp []; (refine hJ _ _ ?_; clear hJ J; simp only [ak, reduceIte]))))
    · have hpb : (p == 0) = false := by simpa using hp
      simp [hp] at hy
      subst hy
      (repeat' (first | refine qS ?_ | (refine qR ?_; simp only [ak, reduceIte]; simp [hp, hpb]) | (refine qC ?_; simp [hp, hpb]) | (refine w_e [] ?_; intro J hJ; simp only []; simp [hp, hpb]; (refine hJ _ _ ?_; clear hJ J; simp only [ak, reduceIte]))))
  · have hlen : ¬ l.length = 0 := fun h => h0 (List.eq_nil_of_length_eq_zero h)
    have hlen' : ¬ (l.length : Int) = 0 := by omega
    simp [h0] at hy
    subst hy
    (repeat' (first | refine qS ?_ | (refine qK ?_; simp only [ak, reduceIte]) | (refine qC ?_; simp [hlen, hlen', h0]) | (refine w_e [] ?_; intro J hJ; simp only []; simp [hlen, hlen', h0]; (try (refine hJ _ _ ?_; clear hJ J; simp only [ak, reduceIte])))))
    refine qE (Contains l t p _ hl) (by simp) ?_; rintro r s1 ⟨rfl, rfl⟩
    (repeat' (first | (refine qR ?_; simp only [ak, reduceIte]; simp []) | (refine e_go ?_; simp []; (refine hJ _ _ ?_; clear hJ J; simp only [ak, reduceIte]))))
theorem acalls_cellN {P : Program} {f : FuncId} {args : List LV} {st : St} {Q : LV → St → Prop} (h : ACalls P f args st fun r st' => Q r st' ∨ ∃ q e s pre post, st'.H q = .box e s (pre ++ .nil :: post) ∧ Q r (st'.set q (.box e s (pre ++ .sl 0 0 [] :: post)))) : ACalls P f args st Q := by
  refine ⟨h.1, fun w g vs hi hr => (h.2 w g vs hi hr).mono ?_⟩
  rintro x w' ⟨v, r, st', g', rfl, hq, hrep, hi', he⟩
  rcases hq with hq | ⟨q, e, s, pre, post, hl, hq⟩
  · exact ⟨v, r, st', g', rfl, hq, hrep, hi', he⟩
  · refine ⟨v, r, _, g', rfl, hq, hrep, inv_recell hi' (cs := pre ++ .nil :: post) hl (by simp) (fun vs hv => ?_), he⟩
    obtain ⟨v, k1, k2⟩ := repL_mid pre vs hv
    exact k2 g' _ (Ext.refl _ _) (rep_norm k1)
theorem lend_row {st : St} {l n e s : Nat} {cs : List LV} (hl : st.H l = .box e s cs) (hn : cs.length = n * s) : Lend st (.ms l 0 n) (.sl 0 n cs) := by
  have := lend_ms hl (Nat.le_of_eq hn.symm) (lendL_same st (cs.take (n * s)))
  rwa [List.take_of_length_le (Nat.le_of_eq hn)] at this
structure DrI (D lv le lr : Nat) (m : Mp) (st : St) : Prop where
  d : st.H D = .box 61 3 (mpM lv le lr m)
  at' : MpAt m lv le lr st
  D0 : D < st.next
theorem DrI.ne {D lv le lr : Nat} {m : Mp} {st : St} (h : DrI D lv le lr m st) : D ≠ lv ∧ D ≠ le ∧ D ≠ lr ∧ lv ≠ le ∧ lv ≠ lr ∧ le ≠ lr := by
  have h1 := h.d
  have h2 := h.at'.v
  have h3 := h.at'.e
  have h4 := h.at'.r
  refine ⟨?_, ?_, ?_, ?_, ?_, ?_⟩
  · rintro rfl; rw [h1] at h2; cases h2
  · rintro rfl; rw [h1] at h3; cases h3
  · rintro rfl; rw [h1] at h4; cases h4
  · rintro rfl; rw [h2] at h3; cases h3
  · rintro rfl; rw [h2] at h4; cases h4
  · rintro rfl; rw [h3] at h4; cases h4
structure DrB (B D : Nat) (m : Mp) (st : St) : Prop where
  ex : ∃ lv le lr, DrI D lv le lr m st ∧ B ≤ lv ∧ B ≤ le ∧ B ≤ lr
  B0 : B ≤ D
structure KB (B : Nat) (st st' : St) : Prop where
  next : st.next ≤ st'.next
  H : ∀ x, x < B → st'.H x = st.H x
theorem KB.refl (B : Nat) (st : St) : KB B st st := ⟨Nat.le_refl _, fun _ _ => rfl⟩
theorem KB.trans {B : Nat} {a b c : St} (h : KB B a b) (k : KB B b c) : KB B a c := ⟨Nat.le_trans h.next k.next, fun x hx => (k.H x hx).trans (h.H x hx)⟩
theorem Keeps.kb {B : Nat} {a b : St} (h : Keeps a b) (hB : B ≤ a.next) : KB B a b := ⟨h.next, fun x hx => h.H x (by omega)⟩
theorem gr_lend {m : Mp} {lv le lr : Nat} {st : St} (h : MpAt m lv le lr st) : Lend st (.ag [.ms lv 0 m.g.vs.length, .ms le 0 m.g.es.length]) (.ag (grL m.g)) :=
  lend_ag (lendL_cons (lend_row h.v (by simp)) (lendL_cons (lend_row h.e (eds_length _)) (lendL_nil st)))
theorem BinarySearchM (l : List Int) (q : Nat) (v : Int) (st : St) (hl : l.length ≤ 100000) (hr : l.Pairwise (· < ·)) (hq : st.H q = .box 29 1 (us l)) :
    ACalls Tryz.prog 95 [.ms q 0 l.length, u v] st fun r st' => r = .tu [i (lss l v), bb (decide (v ∈ l))] ∧ st' = st :=
  acalls_lend (Q := fun r => r = .tu [i (lss l v), bb (decide (v ∈ l))]) (lendL_cons (lend_row hq (by simp)) (lendL_same st _)) ((BinarySearch l 0 v st.bare hl hr).mono fun r s h => h.1) fun r h => by subst h; rfl
theorem VertM (m : Mp) (lv le lr : Nat) (v : Int) (st : St) (hl : small m.g.vs) (h : MpAt m lv le lr st) :
    ACalls Tryz.prog 45 [.ag [.ms lv 0 m.g.vs.length, .ms le 0 m.g.es.length], u v] st fun r st' => r = i (gi m.g.vs v) ∧ st' = st :=
  acalls_lend (Q := fun r => r = i (gi m.g.vs v)) (lendL_cons (gr_lend h) (lendL_same st _)) ((Vert' m.g v st.bare hl).mono fun r s h => h.1) fun r h => by subst h; rfl
theorem EdgeM (m : Mp) (lv le lr : Nat) (id : Int) (st : St) (hl : m.g.es.length ≤ 1000) (h : MpAt m lv le lr st) :
    ACalls Tryz.prog 68 [.ag [.ms lv 0 m.g.vs.length, .ms le 0 m.g.es.length], u id] st fun r st' => r = i (fe m.g.es id) ∧ st' = st :=
  acalls_lend (Q := fun r => r = i (fe m.g.es id)) (lendL_cons (gr_lend h) (lendL_same st _)) ((gEdge m.g id st.bare hl).mono fun r s h => h.1) fun r h => by subst h; rfl
def addV (m : Mp) (v : Int) : Mp := ⟨⟨m.g.vs.take (lss m.g.vs v) ++ v :: m.g.vs.drop (lss m.g.vs v), m.g.es⟩, m.rots.take (lss m.g.vs v) ++ [] :: m.rots.drop (lss m.g.vs v)⟩
def vertexW (m : Mp) (v : Int) : Int := if v ∈ m.g.vs then 17 else if 64 ≤ m.g.vs.length then 6 else 0
theorem us_mid (a : List Int) (v : Int) (b : List Int) : us a ++ u v :: us b = us (a ++ v :: b) := by simp [us]
theorem rowsL_mid (a : List (List Int)) (b : List (List Int)) : rowsL a ++ .sl 0 0 [] :: rowsL b = rowsL (a ++ [] :: b) := by simp [rowsL, us]
structure Ord (m : Mp) : Prop where
  rise : m.g.vs.Pairwise (· < ·)
  len : m.rots.length = m.g.vs.length
  vl : m.g.vs.length ≤ 1000
  el : m.g.es.length ≤ 1000
theorem us_take' (l : List Int) (k : Nat) : (us l).take k = us (l.take k) := by simp [us]
theorem us_drop' (l : List Int) (k : Nat) : (us l).drop k = us (l.drop k) := by simp [us]
theorem rowsL_take' (l : List (List Int)) (k : Nat) : (rowsL l).take k = rowsL (l.take k) := by simp [rowsL]
theorem rowsL_drop' (l : List (List Int)) (k : Nat) : (rowsL l).drop k = rowsL (l.drop k) := by simp [rowsL]
set_option maxHeartbeats 2000000 in
theorem vertexS (B D : Nat) (m : Mp) (v : Int) (st : St) (h : DrB B D m st) (ho : Ord m) :
    ACalls Tryz.prog 62 [.pt D 0, u v] st fun r st' => r = i (vertexW m v) ∧ (vertexW m v = 0 → DrB B D (addV m v) st') ∧ KB B st st' := by
  obtain ⟨⟨lv, le, lr, ⟨hD, hat, hD0⟩, b1, b2, b3⟩, hB0⟩ := h
  obtain ⟨d1, d2, d3, d4, d5, d6⟩ := DrI.ne ⟨hD, hat, hD0⟩
  obtain ⟨y, hy⟩ : ∃ y, y = vertexW m v := ⟨_, rfl⟩
  rw [← hy]
  unfold vertexW at hy
  have hvl := ho.vl
  have hlen := ho.len
  unfold mpM at hD
  refine acalls_cellN ?_
  refine qO tabOk Tryz.func62 rfl rfl Tryz.ntmps62 (rs := [.tmp 4]) rfl (by simp) ?_
  refine awp_posG fun hpos => ?_
  (repeat' (first | refine qS ?_ | (refine w_e [] ?_; intro J hJ; simp only []; simp [hD]; (try (refine hJ _ _ ?_; clear hJ J; simp only [ak, reduceIte])))))
  refine qE (BinarySearchM m.g.vs lv v _ (by omega) ho.rise hat.v) (by simp) ?_; rintro r s1 ⟨rfl, h1⟩
  rw [h1]; clear h1 s1
  by_cases hin : v ∈ m.g.vs
  · rw [if_pos hin] at hy
    subst hy
    (repeat' (first | refine qS ?_ | (refine qR ?_; simp only [ak, reduceIte]; simp [hin]) | (refine qC ?_; simp [hin]) | ((first | (refine w_e [] ?_; intro J hJ; simp only []) | (refine e_go ?_)); simp [hin]; (refine hJ _ _ ?_; clear hJ J; simp only [ak, reduceIte]))))
    exact .inl (KB.refl _ _)
  rw [if_neg hin] at hy
  by_cases hmany : 64 ≤ m.g.vs.length
  · rw [if_pos hmany] at hy
    subst hy
    have hm : (64 : Int) ≤ m.g.vs.length := by omega
    (repeat' (first | refine qS ?_ | (refine qK ?_; simp only [ak, reduceIte]) | (refine qR ?_; simp only [ak, reduceIte]; simp [hin, hD, hm, hmany]) | (refine qC ?_; simp [hin, hD, hm, hmany]) | ((first | (refine w_e [] ?_; intro J hJ; simp only []) | (refine e_go ?_)); simp [hin, hD, hm, hmany]; (refine hJ _ _ ?_; clear hJ J; simp only [ak, reduceIte]))))
    exact .inl (KB.refl _ _)
  rw [if_neg hmany] at hy
  subst hy
  have hm : ¬ (64 : Int) ≤ m.g.vs.length := by omega
  have hkl := lss_le m.g.vs v
  generalize hk : lss m.g.vs v = k at *
  (repeat' (first | refine qS ?_ | (refine qK ?_; simp only [ak, reduceIte]) | (refine qC ?_; simp [hin, hD, hm, hmany]) | ((first | (refine w_e [] ?_; intro J hJ; simp only []) | (refine e_go ?_)); simp [hin, hD, hm, hmany]; (try (refine hJ _ _ ?_; clear hJ J; simp only [ak, reduceIte])))))
  have hB : B ≤ st.next := by omega
  have n1 := hat.v0
  have n2 := hat.e0
  have n3 := hat.r0
  refine qE (InsertU lv m.g.vs.length k st.next (us m.g.vs) [u v] _ (by omega) hkl (by simp) rfl (us_one _) rfl (by omega) (by simp) (by simp [show ¬ lv = st.next by omega, hat.v]) (by simp; omega)) (by simp) ?_; rintro r s1 ⟨⟨l', rfl, q1, q2, q3, q4⟩, q5⟩
  simp only [new_next] at q3 q4 q5
  have hl' : l' = lv ∨ st.next < l' := by omega
  have hD1 : s1.H D = .box 61 3 (mpM lv le lr m) := by rw [q4 D (by omega) d1]; simp [show ¬ D = st.next by omega, hD, mpM]
  have he1 : s1.H le = .box 31 3 (eds m.g.es) := by rw [q4 le (by omega) (Ne.symm d4)]; simp [show ¬ le = st.next by omega, hat.e]
  have hr1 : s1.H lr = .box 22 1 (rowsL m.rots) := by rw [q4 lr (by omega) (Ne.symm d5)]; simp [show ¬ lr = st.next by omega, hat.r]
  have hk1 : KB B st s1 := ⟨by omega, fun x hx => by rw [q4 x (by omega) (by omega)]; simp [show ¬ x = st.next by omega]⟩
  unfold mpM at hD1
  have d7 : ¬ l' = D := by omega
  have d8 : ¬ l' = le := by omega
  have d9 : ¬ l' = lr := by omega
  have d3' : ¬ lr = D := Ne.symm d3
  have d2' : ¬ le = D := Ne.symm d2
  (repeat' (first | refine qS ?_ | ((first | (refine w_e [] ?_; intro J hJ; simp only []) | (refine e_go ?_)); simp [hD1]; (try (refine hJ _ _ ?_; clear hJ J; simp only [ak, reduceIte])))))
  have hrl : (rowsL m.rots).all oneL = true := by simp [rowsL, oneL]
  refine qE (InsertR lr m.rots.length k s1.next (rowsL m.rots) [.nil] _ (by omega) (by omega) (by simp [rowsL]) rfl hrl rfl (by omega) (by simp) (by simp [show ¬ lr = s1.next by omega, d3', hr1]) (by simp; omega)) (by simp) ?_; rintro r s2 ⟨⟨m', rfl, p1, p2, p3, p4⟩, p5⟩
  simp only [new_next, set_next] at p3 p4 p5
  have hm' : m' = lr ∨ s1.next < m' := by omega
  have hD2 : s2.H D = .box 61 3 [.ms l' 0 (m.g.vs.length + 1), .ms le 0 m.g.es.length, .ms lr 0 m.rots.length] := by rw [p4 D (by omega) d3]; simp [show ¬ D = s1.next by omega]
  have he2 : s2.H le = .box 31 3 (eds m.g.es) := by rw [p4 le (by omega) d6]; simp [show ¬ le = s1.next by omega, d2', he1]
  have hv2 : s2.H l' = .box 29 1 (us (addV m v).g.vs) := by
    rw [p4 l' (by omega) d9]
    simp only [set_H, new_H, show ¬ l' = s1.next by omega, d7, if_false, q1, addV, hk, us_take', us_drop', List.cons_append, List.nil_append, us_mid, set_next]
  have hk2 : KB B s1 s2 := ⟨by omega, fun x hx => by rw [p4 x (by omega) (by omega)]; simp [show ¬ x = s1.next by omega, show ¬ x = D by omega]⟩
  have f7 : ¬ m' = D := by omega
  have f8 : ¬ m' = le := by omega
  have f9 : ¬ m' = l' := by omega
  (repeat' (first | refine qS ?_ | (refine qR ?_; simp only [ak, reduceIte]; simp [hD2, f7, Ne.symm f7]) | ((first | (refine w_e [] ?_; intro J hJ; simp only []) | (refine e_go ?_)); simp [hD2, f7, Ne.symm f7]; (refine hJ _ _ ?_; clear hJ J; simp only [ak, reduceIte]))))
  refine .inr ⟨m', _, _, (rowsL m.rots).take k, (rowsL m.rots).drop k, by simp [f7, p1]; exact ⟨rfl, rfl⟩, ?_⟩
  refine ⟨⟨⟨l', le, m', ⟨?_, ⟨?_, ?_, ?_, ?_, ?_, ?_⟩, ?_⟩, by omega, by omega, by omega⟩, by omega⟩, ?_⟩
  · simp [show ¬ D = m' by omega, mpM, addV, hk]; omega
  · simp [d7, Ne.symm f9, hv2, show ¬ l' = m' by omega]
  · simp [d2', show ¬ le = m' by omega, he2, addV]
  · simp only [set_H, if_pos, addV, hk, rowsL_take', rowsL_drop', rowsL_mid]
  · simp; omega
  · simp; omega
  · simp; omega
  · simp; omega
  · refine (hk1.trans hk2).trans ⟨by simp, fun x hx => ?_⟩
    simp [show ¬ x = D by omega, show ¬ x = m' by omega]
def delV (m : Mp) (v : Int) : Mp := ⟨⟨m.g.vs.take (m.g.vs.idxOf v) ++ m.g.vs.drop (m.g.vs.idxOf v + 1), m.g.es⟩, m.rots.take (m.g.vs.idxOf v) ++ m.rots.drop (m.g.vs.idxOf v + 1)⟩
def noVertexW (m : Mp) (v : Int) : Int := if v ∉ m.g.vs then 16 else if m.rots.getD (m.g.vs.idxOf v) [] ≠ [] then 25 else 0
theorem rowsL_append' (a b : List (List Int)) : rowsL a ++ rowsL b = rowsL (a ++ b) := by simp [rowsL]
set_option maxHeartbeats 2000000 in
theorem noVertexS (B D : Nat) (m : Mp) (v : Int) (st : St) (h : DrB B D m st) (ho : Ord m) :
    ACalls Tryz.prog 63 [.pt D 0, u v] st fun r st' => r = i (noVertexW m v) ∧ (noVertexW m v = 0 → DrB B D (delV m v) st') ∧ KB B st st' := by
  obtain ⟨⟨lv, le, lr, hI, b1, b2, b3⟩, hB0⟩ := h
  obtain ⟨d1, d2, d3, d4, d5, d6⟩ := hI.ne
  obtain ⟨hD, hat, hD0⟩ := hI
  obtain ⟨y, hy⟩ : ∃ y, y = noVertexW m v := ⟨_, rfl⟩
  rw [← hy]
  unfold noVertexW at hy
  have hvl := ho.vl
  have hlen := ho.len
  unfold mpM at hD
  refine qO tabOk Tryz.func63 rfl rfl Tryz.ntmps63 (rs := [.tmp 4]) rfl (by simp) ?_
  refine awp_posG fun hpos => ?_
  (repeat' (first | refine qS ?_ | (refine w_e [] ?_; intro J hJ; simp only []; simp [hD]; (try (refine hJ _ _ ?_; clear hJ J; simp only [ak, reduceIte])))))
  refine qE (VertM m lv le lr v _ (by unfold small; omega) hat) (by simp) ?_; rintro r s1 ⟨rfl, h1⟩
  rw [h1]; clear h1 s1
  by_cases hin : v ∈ m.g.vs
  rotate_left
  · rw [if_pos hin] at hy
    subst hy
    have hge : gi m.g.vs v < 0 := (gi_neg _ v).2 hin
    generalize gi m.g.vs v = gg at *
    (repeat' (first | refine qS ?_ | (refine qR ?_; simp only [ak, reduceIte]; simp [hge]) | (refine qC ?_; simp [hge]) | ((first | (refine w_e [] ?_; intro J hJ; simp only []) | (refine e_go ?_)); simp [hge]; (refine hJ _ _ ?_; clear hJ J; simp only [ak, reduceIte]))))
    exact KB.refl _ _
  rw [if_neg (fun h => h hin)] at hy
  rw [gi_mem hin]
  have hkl := List.idxOf_lt_length_of_mem hin
  generalize hk : m.g.vs.idxOf v = k at *
  have hkr : k < m.rots.length := by omega
  have hge : ¬ (k : Int) < 0 := by omega
  have hd := rowsL_drop m.rots k hkr
  have hkr' : (k : Int) < m.rots.length := by omega
  by_cases hr : m.rots.getD k [] = []
  rotate_left
  · rw [if_pos hr] at hy
    subst hy
    have hpos : 0 < (m.rots.getD k []).length := List.length_pos_iff.2 hr
    have hpos' : (0 : Int) < ((m.rots.getD k []).length : Int) := by omega
    generalize m.rots.getD k [] = t at *
    (repeat' (first | refine qS ?_ | (refine qK ?_; simp only [ak, reduceIte]) | (refine qR ?_; simp only [ak, reduceIte]; simp [hge, hD, hat.r, hkr, hkr', hd, hpos, hpos', hr]) | (refine qC ?_; simp [hge, hD, hat.r, hkr, hkr', hd, hpos, hpos', hr]) | ((first | (refine w_e [] ?_; intro J hJ; simp only []) | (refine e_go ?_)); simp [hge, hD, hat.r, hkr, hkr', hd, hpos, hpos', hr]; (refine hJ _ _ ?_; clear hJ J; simp only [ak, reduceIte]))))
    exact KB.refl _ _
  rw [if_neg (fun h => h hr)] at hy
  subst hy
  rw [hr] at hd
  have hw := qN k (by omega)
  (repeat' (first | refine qS ?_ | (refine qK ?_; simp only [ak, reduceIte]) | (refine qC ?_; simp [hge, hD, hat.r, hkr, hkr', hd, hw]) | ((first | (refine w_e [] ?_; intro J hJ; simp only []) | (refine e_go ?_)); simp [hge, hD, hat.r, hkr, hkr', hd, hw]; (try (refine hJ _ _ ?_; clear hJ J; simp only [ak, reduceIte])))))
  have n1 := hat.v0
  have n2 := hat.e0
  have n3 := hat.r0
  refine qE (DeleteU lv m.g.vs.length k (us m.g.vs) _ (by omega) hkl (by simp) (us_one _) hat.v) (by simp) ?_; rintro r s1 ⟨rfl, h1⟩
  rw [h1]; clear h1 s1
  have d1' : ¬ lv = D := Ne.symm d1
  have d2' : ¬ le = D := Ne.symm d2
  have d3' : ¬ lr = D := Ne.symm d3
  have d5' : ¬ lr = lv := Ne.symm d5
  have d4' : ¬ le = lv := Ne.symm d4
  (repeat' (first | refine qS ?_ | ((first | (refine w_e [] ?_; intro J hJ; simp only []) | (refine e_go ?_)); simp [hD, d1, hw]; (try (refine hJ _ _ ?_; clear hJ J; simp only [ak, reduceIte])))))
  refine qE (DeleteR lr m.rots.length k (rowsL m.rots) _ (by omega) hkr (by simp [rowsL]) (by simp [rowsL, oneL]) (by simp [d3', d5', hat.r])) (by simp) ?_; rintro r s1 ⟨rfl, h1⟩
  rw [h1]; clear h1 s1
  (repeat' (first | refine qS ?_ | (refine qR ?_; simp only [ak, reduceIte]; simp [hD, d1, d3]) | ((first | (refine w_e [] ?_; intro J hJ; simp only []) | (refine e_go ?_)); simp [hD, d1, d3]; (refine hJ _ _ ?_; clear hJ J; simp only [ak, reduceIte]))))
  refine ⟨⟨⟨lv, le, lr, ⟨?_, ⟨?_, ?_, ?_, ?_, ?_, ?_⟩, ?_⟩, b1, b2, b3⟩, hB0⟩, ?_⟩
  · simp [mpM, delV, hk]; omega
  · simp only [set_H, d1', d5, if_false, if_pos, delV, hk, us_take', us_drop', us_append]
  · simp [d2', d6, d4', hat.e, delV]
  · simp only [set_H, d3', if_false, if_pos, delV, hk, rowsL_take', rowsL_drop', rowsL_append']
  · simp; omega
  · simp; omega
  · simp; omega
  · simp; omega
  · refine ⟨by simp, fun x hx => ?_⟩
    simp [show ¬ x = D by omega, show ¬ x = lr by omega, show ¬ x = lv by omega]
def TestX (f : FuncId) (caps : List LV) (st : St) (l : List Ed) (p : Ed → Bool) : Prop := ∀ x ∈ l, ∀ st2, Keeps st st2 → ACalls Tryz.prog f (.ag (edL x) :: caps) st2 fun r st3 => r = bb (p x) ∧ st3 = st2
theorem TestX.keeps {f : FuncId} {caps : List LV} {st st1 : St} {l : List Ed} {p : Ed → Bool} (h : TestX f caps st l p) (hk : Keeps st st1) : TestX f caps st1 l p := fun x hx st2 h2 => h x hx st2 (hk.trans h2)
theorem gr_lend' {g : Gr} {lv le : Nat} {st : St} (hv : st.H lv = .box 29 1 (us g.vs)) (he : st.H le = .box 31 3 (eds g.es)) : Lend st (.ag [.ms lv 0 g.vs.length, .ms le 0 g.es.length]) (.ag (grL g)) :=
  lend_ag (lendL_cons (lend_row hv (by simp)) (lendL_cons (lend_row he (eds_length _)) (lendL_nil st)))
theorem EdgeG (g : Gr) (lv le : Nat) (id : Int) (st : St) (hl : g.es.length ≤ 1000) (hv : st.H lv = .box 29 1 (us g.vs)) (he : st.H le = .box 31 3 (eds g.es)) :
    ACalls Tryz.prog 68 [.ag [.ms lv 0 g.vs.length, .ms le 0 g.es.length], u id] st fun r st' => r = i (fe g.es id) ∧ st' = st :=
  acalls_lend (Q := fun r => r = i (fe g.es id)) (lendL_cons (gr_lend' hv he) (lendL_same st _)) ((gEdge g id st.bare hl).mono fun r s h => h.1) fun r h => by subst h; rfl
set_option maxHeartbeats 2000000 in
theorem KeepM (g : Gr) (f : FuncId) (caps : List LV) (p : Ed → Bool) (st : St) (hv : g.vs.length ≤ 1000) (he : g.es.length ≤ 1000) (hp : TestX f caps st g.es p) :
    ACalls Tryz.prog 131 [.ag (grL g), .fn (.func f) caps] st fun r st' => ∃ lv le, r = .ag [.ms lv 0 g.vs.length, .ms le 0 (g.es.filter p).length] ∧ st.next ≤ lv ∧ lv < st'.next ∧ st.next ≤ le ∧ le < st'.next ∧ st'.H lv = .box 29 1 (us g.vs) ∧ st'.H le = .box 31 3 (eds (g.es.filter p)) ∧ Keeps st st' := by
  refine qO tabOk Tryz.func131 rfl rfl Tryz.ntmps131 (rs := [.cell 4 25]) rfl (by simp) ?_
  refine awp_posG fun hpos => ?_
  (repeat' (first | refine qS ?_ | (refine w_e [] ?_; intro J hJ; simp only []; simp []; (try (refine hJ _ _ ?_; clear hJ J; simp only [ak, reduceIte])))))
  refine qE (CloneMU g.vs 0 _ (by omega)) (by simp) ?_; rintro r s1 ⟨lv, rfl, l1, l2, hv1, hk1⟩
  simp only [new_next] at l1
  have hn1 := hk1.next
  simp only [new_next] at hn1
  have hG1 : s1.H st.next = .box 25 2 (grL g) := by rw [hk1.H _ (by simp; omega)]; simp
  have hC1 : s1.H (st.next + 1) = .box 25 2 [.nil, .nil] := by rw [hk1.H _ (by simp)]; simp
  have hkp1 : Keeps st s1 := ((Keeps.new _ _).trans (Keeps.new _ _)).trans hk1
  have e0 : ¬ st.next = s1.next := by omega
  (repeat' (first | refine qS ?_ | refine qB ?_ | ((first | (refine w_e [] ?_; intro J hJ; simp only []) | (refine e_go ?_)); simp [hG1, e0]; (refine hJ _ _ ?_; clear hJ J; simp only [ak, reduceIte]))))
  obtain ⟨c, hc⟩ : ∃ c, c = s1.next := ⟨_, rfl⟩
  refine awp_cellM c 31 3 (e := 25) (s := 2) [.ms lv 0 g.vs.length] [] (by subst hc; simp) ?_
  refine awp_range 15 14 16 28 (g.es.length) (fun j fr st2 => fr 1 = .fn (.func f) caps ∧ fr 4 = .pt (st.next + 1) 0 ∧ fr 5 = .pt c 0 ∧ fr 13 = .sl 0 g.es.length (eds g.es) ∧ Keeps st st2 ∧ st2.H (st.next + 1) = .box 25 2 [.nil, .nil] ∧ st2.H lv = .box 29 1 (us g.vs) ∧ ∃ le F, F = (g.es.take j).filter p ∧ F.length ≤ j ∧ st2.H c = .box 25 2 [.ms lv 0 g.vs.length, .ms le 0 F.length] ∧ st2.H le = .box 31 3 (eds F) ∧ c < le ∧ le < st2.next) ?_ ?_ ?_
  · refine ⟨by simp, by simp, by simp [hc], by simp, ?_, ?_, ?_, c + 1, [], by simp, by simp, ?_, ?_, by omega, ?_⟩
    · subst hc; (repeat (first | exact hkp1 | (refine Keeps.trans ?_ (Keeps.new _ _)) | (refine Keeps.set ?_ (by first | omega | (simp; done) | (simp; omega)) _)))
    · subst hc; simp [show ¬ st.next + 1 = s1.next by omega, show ¬ st.next = s1.next by omega, hC1]
    · subst hc; simp [show ¬ lv = s1.next by omega, show ¬ lv = s1.next + 1 by omega, hv1]
    · subst hc; simp
    · subst hc; simp [eds]
    · subst hc; simp
  · rintro j fr s hlt ⟨f1, f4, f5, f13, hkp, hR, hv, le, F, hF, hFl, hB, hO, hlo, hhi⟩ fi fn JO hJO
    have hd := eds_drop g.es j hlt
    have hel := eds_length g.es
    have hj3 : j * 3 < g.es.length * 3 := by omega
    have hxin : g.es.getD j ed0 ∈ g.es := by rw [getDE _ _ hlt]; exact List.getElem_mem hlt
    have hst := filter_takeE g.es p j hlt
    rw [← hF] at hst
    simp only [hst] at hJO
    clear hst hF
    have htest := fun s h => hp _ hxin s h
    generalize g.es.getD j ed0 = x at *
    obtain ⟨d, a, b⟩ := x
    simp only at hd htest
    have hFo : (eds F).length = F.length * 3 := eds_length F
    have a1 : ¬ c = s.next := by omega
    have a2 : ¬ le = s.next := by omega
    (repeat' (first | refine qS ?_ | (refine w_e [] ?_; intro J hJ; simp only []; simp [f1, f13, fi, fn, hd, hlt, hel, hj3]; (try (refine hJ _ _ ?_; clear hJ J; simp only [ak, reduceIte])))))
    refine qF (htest _ (hkp.trans (Keeps.new _ (.box 31 3 [u d, u a, u b])))) ?_; rintro r s2 ⟨rfl, h1⟩
    rw [h1]; clear h1 s2
    cases hpx : p ⟨d, a, b⟩ with
    | false =>
      rw [hpx] at hJO
      simp only [Bool.false_eq_true, if_false] at hJO
      (repeat' (first | (refine qK ?_; simp only [ak, reduceIte]) | (refine qC ?_; simp []) | (refine e_go ?_; simp []; (refine hJ _ _ ?_; clear hJ J; simp only [ak, reduceIte]))))
      exact hJO _ _ (by simp [fi]) (by simp [fn]) ⟨by simp [f1], by simp [f4], by simp [f5], by simp [f13], hkp.trans (Keeps.new _ _), by simp [show ¬ st.next + 1 = s.next by omega, hR], by simp [show ¬ lv = s.next by omega, hv], le, F, rfl, by omega, by simp [a1, hB], by simp [a2, hO], hlo, by simp; omega⟩
    | true =>
      rw [hpx] at hJO
      simp only [if_true] at hJO
      have a3 : ¬ c = s.next + 1 := by omega
      have a4 : ¬ c = le := by omega
      have a5 : ¬ le = s.next + 1 := by omega
      have a6 : ¬ c = s.next + 1 + 1 := by omega
      (repeat' (first | (refine qC ?_; simp [f5, hB, hO, a1, a2, a3, a4, a5, a6, hFo]) | ((first | (refine w_e [] ?_; intro J hJ; simp only []) | (refine e_go ?_)); simp [f5, hB, hO, a1, a2, a3, a4, a5, a6, hFo]; (repeat refine ca ?_); (refine hJ _ _ ?_; clear hJ J; simp only [ak, reduceIte]))))
      refine hJO _ _ (by simp [fi]) (by simp [fn]) ⟨by simp [f1], by simp [f4], by simp [f5], by simp [f13], ?_, by simp [show ¬ st.next + 1 = s.next by omega, show ¬ st.next + 1 = c by omega, show ¬ st.next = s.next by omega, show ¬ st.next = s.next + 1 by omega, show ¬ st.next + 1 = le by omega, hR], by simp [show ¬ lv = s.next by omega, show ¬ lv = c by omega, show ¬ lv = s.next + 1 by omega, show ¬ lv = s.next + 1 + 1 by omega, show ¬ lv = le by omega, hv], s.next + 1 + 1, _, rfl, by simp; omega, by simp, ?_, by omega, by simp⟩
      · (repeat (first | exact hkp | (refine Keeps.trans ?_ (Keeps.new _ _)) | (refine Keeps.set ?_ (by omega) _)))
      · simp [show ¬ s.next + 1 + 1 = c by omega, eds, edL]
  · rintro fr s ⟨f1, f4, f5, f13, hkp, hR, hv, le, F, hF, hFl, hB, hO, hlo, hhi⟩
    rw [List.take_length] at hF
    subst hF
    (repeat' (first | refine qS ?_ | (refine qR ?_; simp only [ak, reduceIte]; simp [f4, f5, hR, hB, show ¬ c = st.next + 1 by omega]) | (refine w_e [] ?_; intro J hJ; simp only []; simp [f4, f5, hR, hB, show ¬ c = st.next + 1 by omega]; (refine hJ _ _ ?_; clear hJ J; simp only [ak, reduceIte]))))
    refine ⟨lv, le, ⟨rfl, rfl⟩, by omega, by omega, by omega, by omega, ?_, ?_, hkp.set (by omega) _⟩
    · simp [show ¬ lv = st.next + 1 by omega, hv]
    · simp [show ¬ le = st.next + 1 by omega, hO]
theorem stp_bel (n : Nat) (k a b c d e : Int) : bel n (stp k a b c d e) := by simp [stp, bel, belL]
theorem Link' (x : Ed) (pa pb : Int) (st : St) : ACalls Tryz.prog 11 [.ag (edL x), u pa, u pb] st fun r st' => r = stp 3 x.id x.a x.b pa pb ∧ st' = st :=
  qT (Q := fun r => r = stp 3 x.id x.a x.b pa pb) (Link x pa pb st) fun r h => by subst h; exact stp_bel _ _ _ _ _ _ _
theorem NoLink' (n : Int) (st : St) : ACalls Tryz.prog 44 [u n] st fun r st' => r = stp 4 n 0 0 0 0 ∧ st' = st :=
  qT (Q := fun r => r = stp 4 n 0 0 0 0) (NoLink n st) fun r h => by subst h; exact stp_bel _ _ _ _ _ _ _
theorem Vertex' (n : Int) (st : St) : ACalls Tryz.prog 24 [u n] st fun r st' => r = stp 1 n 0 0 0 0 ∧ st' = st :=
  qT (Q := fun r => r = stp 1 n 0 0 0 0) (Vertex n st) fun r h => by subst h; exact stp_bel _ _ _ _ _ _ _
theorem NoVertex' (n : Int) (st : St) : ACalls Tryz.prog 46 [u n] st fun r st' => r = stp 2 n 0 0 0 0 ∧ st' = st :=
  qT (Q := fun r => r = stp 2 n 0 0 0 0) (NoVertex n st) fun r h => by subst h; exact stp_bel _ _ _ _ _ _ _
theorem belL_sps (n : Nat) (l : List Sp) : belL n (sps l) := by
  induction l with
  | nil => trivial
  | cons x l ih => simp only [sps, List.flatMap_cons] at ih ⊢; exact ⟨trivial, trivial, trivial, trivial, trivial, trivial, ih⟩
theorem dOf0 (d : Int) (st : St) (h0 : 1 ≤ d ∧ d ≤ 1048576) : ACalls Tryz.prog 34 [u d, i 0] st fun r st' => r = u (2 * d) ∧ st' = st :=
  (dOf d 0 st (by omega) h0.2 (.inl rfl)).mono fun r s h => by rw [show 2 * d + 0 = 2 * d by omega] at h; exact h
theorem dOf1 (d : Int) (st : St) (h0 : 1 ≤ d ∧ d ≤ 1048576) : ACalls Tryz.prog 34 [u d, i 1] st fun r st' => r = u (2 * d + 1) ∧ st' = st := dOf d 1 st (by omega) h0.2 (.inr rfl)
theorem Without' (l m : List Int) (t t' : Nat) (st : St) (hl : small l) (hm : small m) :
    ACalls Tryz.prog 132 [.sl t l.length (us l), .sl t' m.length (us m)] st fun r st' => r = .sl 0 (wo l m).length (us (nrm (wo l m))) ∧ st' = st :=
  qT (Q := fun r => r = .sl 0 (wo l m).length (us (nrm (wo l m)))) (Without l m t t' st hl hm) fun r h => by subst h; exact ⟨.inl rfl, belL_us _ _⟩
def goneL (l : List Ed) (K : List Ed) : List Int := (l.filter fun x => decide (fe K x.id < 0)).flatMap fun x => [2 * x.id, 2 * x.id + 1]
def keptP (m : Mp) (p : Ed → Bool) : Mp := ⟨⟨m.g.vs, m.g.es.filter p⟩, m.rots.map fun t => nrm (wo t (goneL m.g.es (m.g.es.filter p)))⟩
theorem goneL_len (l K : List Ed) : (goneL l K).length ≤ 2 * l.length := by
  induction l with
  | nil => simp [goneL]
  | cons x l ih =>
    unfold goneL at ih ⊢
    rw [List.filter_cons]
    split
    · rw [List.flatMap_cons, List.length_append, List.length_cons, List.length_cons, List.length_cons]; simp only [List.length_nil]; omega
    · rw [List.length_cons]; omega
theorem goneL_take (l K : List Ed) (j : Nat) (hj : j < l.length) : goneL (l.take (j + 1)) K = if fe K (l.getD j ed0).id < 0 then goneL (l.take j) K ++ [2 * (l.getD j ed0).id, 2 * (l.getD j ed0).id + 1] else goneL (l.take j) K := by
  unfold goneL
  rw [filter_takeE _ _ j hj]
  by_cases h : fe K (l.getD j ed0).id < 0
  · rw [if_pos (by simpa using h), if_pos h]; simp
  · rw [if_neg (by simpa using h), if_neg h]
set_option maxHeartbeats 4000000 in
theorem rKeepM (m : Mp) (f : FuncId) (caps : List LV) (p : Ed → Bool) (st : St) (hv : m.g.vs.length ≤ 1000) (he : m.g.es.length ≤ 1000) (hr : m.rots.length ≤ 1000) (hs : ∀ t ∈ m.rots, small t) (hid : ∀ x ∈ m.g.es, 1 ≤ x.id ∧ x.id ≤ 1048576) (hp : TestX f caps st m.g.es p) :
    ACalls Tryz.prog 106 [.ag (mpL m), .fn (.func f) caps] st fun r st' => ∃ lv le lr, r = .ag (mpM lv le lr (keptP m p)) ∧ MpAt (keptP m p) lv le lr st' ∧ st.next ≤ lv ∧ st.next ≤ le ∧ st.next ≤ lr ∧ Keeps st st' := by
  have hkp : keptP m p = ⟨⟨m.g.vs, m.g.es.filter p⟩, m.rots.map fun t => nrm (wo t (goneL m.g.es (m.g.es.filter p)))⟩ := rfl
  rw [hkp]
  obtain ⟨K, hK⟩ : ∃ K, K = m.g.es.filter p := ⟨_, rfl⟩
  rw [← hK]
  have hKl : K.length ≤ 1000 := by rw [hK]; exact Nat.le_trans (List.length_filter_le _ _) he
  refine qO tabOk Tryz.func106 rfl rfl Tryz.ntmps106 (rs := [.cell 4 28]) rfl (by simp) ?_
  refine awp_posG fun hpos => ?_
  (repeat' (first | refine qS ?_ | (refine w_e [] ?_; intro J hJ; simp only []; simp []; (try (refine hJ _ _ ?_; clear hJ J; simp only [ak, reduceIte])))))
  refine qF (KeepM m.g f caps p _ hv he (hp.keeps ((Keeps.new _ _).trans (Keeps.new _ _)))) ?_; rw [← hK]; rintro r s1 ⟨lv, le, rfl, l1, l2, l3, l4, hv1, he1, hk1⟩
  simp only [new_next] at l1 l3
  have hn1 := hk1.next
  simp only [new_next] at hn1
  have hB1 : s1.H st.next = .box 28 3 (mpL m) := by rw [hk1.H _ (by simp; omega)]; simp
  have hC1 : s1.H (st.next + 1) = .box 28 3 [.nil, .nil, .nil] := by rw [hk1.H _ (by simp)]; simp
  have hkp1 : Keeps st s1 := ((Keeps.new _ _).trans (Keeps.new _ _)).trans hk1
  have e0 : ¬ st.next = s1.next := by omega
  obtain ⟨c, hc⟩ : ∃ c, c = s1.next := ⟨_, rfl⟩
  (refine e_go ?_; simp []; (refine hJ _ _ ?_; clear hJ J; simp only [ak, reduceIte]))
  (repeat (refine qS ?_)); (refine w_e [] ?_; intro J hJ; simp only []; simp []; (refine hJ _ _ ?_; clear hJ J; simp only [ak, reduceIte]))
  refine awp_own 6 29 1 (by simp) ?_
  (repeat' (first | refine qS ?_ | refine qB ?_ | (refine w_e [] ?_; intro J hJ; simp only []; simp [hB1, e0, show ¬ st.next = s1.next + 1 by omega]; (refine hJ _ _ ?_; clear hJ J; simp only [ak, reduceIte]))))
  have hgl := goneL_len m.g.es K
  refine awp_range 20 19 21 39 (m.g.es.length) (fun j fr st2 => fr 2 = .pt st.next 0 ∧ fr 4 = .pt (st.next + 1) 0 ∧ fr 5 = .pt c 0 ∧ fr 18 = .sl 0 m.g.es.length (eds m.g.es) ∧ Keeps st st2 ∧ st2.H st.next = .box 28 3 (mpL m) ∧ st2.H (st.next + 1) = .box 28 3 [.nil, .nil, .nil] ∧ st2.H c = .box 28 3 [.ms lv 0 m.g.vs.length, .ms le 0 K.length, .nil] ∧ st2.H lv = .box 29 1 (us m.g.vs) ∧ st2.H le = .box 31 3 (eds K) ∧ ∃ tt G, G = goneL (m.g.es.take j) K ∧ G.length ≤ 2 * j ∧ fr 6 = .sl tt G.length (us G) ∧ st2.H tt = .own 29 1 G.length ∧ c < tt ∧ tt < st2.next) ?_ ?_ ?_
  · subst hc
    refine ⟨by simp, by simp, by simp, by simp, ?_, ?_, ?_, ?_, ?_, ?_, s1.next + 1, [], by simp [goneL], by simp, by simp, by simp, by omega, by simp⟩
    · (repeat (first | exact hkp1 | (refine Keeps.trans ?_ (Keeps.new _ _)) | (refine Keeps.set ?_ (by first | omega | (simp; done) | (simp; omega)) _)))
    · simp [show ¬ st.next = s1.next by omega, show ¬ st.next = s1.next + 1 by omega, hB1]
    · simp [show ¬ st.next + 1 = s1.next by omega, show ¬ st.next = s1.next by omega, hC1]
    · simp
    · simp [show ¬ lv = s1.next by omega, show ¬ lv = s1.next + 1 by omega, hv1]
    · simp [show ¬ le = s1.next by omega, show ¬ le = s1.next + 1 by omega, he1]
  · rintro j fr s hlt ⟨f2, f4, f5, f18, hkp, hA, hR, hC, hv2, he2, tt, G, hG, hGl, f6, hO, hlo, hhi⟩ fi fn JO hJO
    have hd := eds_drop m.g.es j hlt
    have hel := eds_length m.g.es
    have hj3 : j * 3 < m.g.es.length * 3 := by omega
    have hxin : m.g.es.getD j ed0 ∈ m.g.es := by rw [getDE _ _ hlt]; exact List.getElem_mem hlt
    have hst := goneL_take m.g.es K j hlt
    rw [← hG] at hst
    simp only [hst] at hJO
    clear hst hG
    have hx1 := hid _ hxin
    generalize m.g.es.getD j ed0 = x at *
    obtain ⟨d, a, b⟩ := x
    simp only at hd hx1 hJO
    have a1 : ¬ c = s.next := by omega
    have a2 : ¬ tt = s.next := by omega
    have a3 : ¬ lv = s.next := by omega
    have a4 : ¬ le = s.next := by omega
    (repeat' (first | refine qS ?_ | (refine w_e [] ?_; intro J hJ; simp only []; simp [f5, f18, fi, fn, hd, hlt, hel, hj3, hC, a1]; (try (refine hJ _ _ ?_; clear hJ J; simp only [ak, reduceIte])))))
    refine qE (EdgeG ⟨m.g.vs, K⟩ lv le d _ hKl (by simp [a3, hv2]) (by simp [a4, he2])) (by simp) ?_; rintro r s2 ⟨rfl, h1⟩
    rw [h1]; clear h1 s2
    simp only at hJO ⊢
    by_cases hfe : fe K d < 0
    rotate_left
    · rw [if_neg hfe] at hJO
      generalize fe K d = gg at *
      (repeat' (first | (refine qK ?_; simp only [ak, reduceIte]) | (refine qC ?_; simp [hfe]) | (refine e_go ?_; simp [hfe]; (refine hJ _ _ ?_; clear hJ J; simp only [ak, reduceIte]))))
      exact hJO _ _ (by simp [fi]) (by simp [fn]) ⟨by simp [f2], by simp [f4], by simp [f5], by simp [f18], hkp.trans (Keeps.new _ _), by simp [show ¬ st.next = s.next by omega, hA], by simp [show ¬ st.next + 1 = s.next by omega, hR], by simp [a1, hC], by simp [a3, hv2], by simp [a4, he2], tt, G, rfl, by omega, by simp [f6], by simp [a2, hO], hlo, by simp; omega⟩
    · rw [if_pos hfe] at hJO
      generalize fe K d = gg at *
      have a5 : ¬ tt = 0 := by omega
      have a6 : ¬ tt = s.next + 1 := by omega
      have hone := us_one G
      (repeat' (first | (refine qC ?_; simp [hfe]) | (refine e_go ?_; simp [hfe]; (refine hJ _ _ ?_; clear hJ J; simp only [ak, reduceIte]))))
      (refine w_s [] [s.next] [(0, true), (1, true), (2, true), (4, true), (5, true), (3, true), (6, true), (7, true), (8, true), (9, true)] ?_; intro J hJ; simp [f6])
      refine qD (dOf0 d _ hx1) (by simp) ?_; rintro r s2 ⟨rfl, h1⟩
      rw [h1]; clear h1 s2
      refine ⟨fun h => by first | (cases h; done) | simp, ?_⟩
      (refine d_go ?_; simp [])
      refine qD (dOf1 d _ hx1) (by simp) ?_; rintro r s2 ⟨rfl, h1⟩
      rw [h1]; clear h1 s2
      refine ⟨fun h => by first | (cases h; done) | simp, ?_⟩
      (refine d_go ?_; simp [f6, hO, a2, a5, a6]; (repeat refine ca ?_); (refine hJ _ _ ?_; clear hJ J; simp only [ak, reduceIte]))
      refine hJO _ _ (by simp [fi]) (by simp [fn]) ⟨by simp [f2], by simp [f4], by simp [f5], by simp [f18], ?_, by simp [show ¬ st.next = s.next by omega, show ¬ st.next = s.next + 1 by omega, show ¬ st.next = s.next + 1 + 1 by omega, show ¬ st.next = tt by omega, hA], by simp [show ¬ st.next + 1 = s.next by omega, show ¬ st.next = s.next by omega, show ¬ st.next = s.next + 1 by omega, show ¬ st.next + 1 = tt by omega, hR], by simp [a1, show ¬ c = s.next + 1 by omega, show ¬ c = s.next + 1 + 1 by omega, show ¬ c = tt by omega, hC], by simp [a3, show ¬ lv = s.next + 1 by omega, show ¬ lv = s.next + 1 + 1 by omega, show ¬ lv = tt by omega, hv2], by simp [a4, show ¬ le = s.next + 1 by omega, show ¬ le = s.next + 1 + 1 by omega, show ¬ le = tt by omega, he2], s.next + 1 + 1, _, rfl, by simp; omega, by simp [us], by simp, by omega, by simp⟩
      (repeat (first | exact hkp | (refine Keeps.trans ?_ (Keeps.new _ _)) | (refine Keeps.set ?_ (by omega) _)))
  rintro fr s ⟨f2, f4, f5, f18, hkp, hA, hR, hC, hv2, he2, tt, G, hG, hGl, f6, hO, hlo, hhi⟩
  rw [List.take_length] at hG
  rw [← hG]
  clear f18 hO
  simp only [ak, reduceIte]
  refine awp_cellM c 22 1 (e := 28) (s := 3) [.ms lv 0 m.g.vs.length, .ms le 0 K.length] [] hC ?_
  have hF : ∀ j, j < m.rots.length → rowsL ((m.rots.take (j + 1)).map fun t => nrm (wo t G)) = rowsL ((m.rots.take j).map fun t => nrm (wo t G)) ++ [.sl 0 (nrm (wo (m.rots.getD j []) G)).length (us (nrm (wo (m.rots.getD j []) G)))] := fun j hj => by
    rw [List.take_succ_eq_append_getElem hj, getR_lt _ _ hj]; simp only [rowsL, List.map_append, List.map_cons, List.map_nil]
  (repeat' (first | refine qS ?_ | refine qB ?_ | (refine w_e [] ?_; intro J hJ; simp only []; simp [f2, hA, show ¬ st.next = s.next by omega, show ¬ st.next = c by omega]; (refine hJ _ _ ?_; clear hJ J; simp only [ak, reduceIte]))))
  refine awp_range 43 42 44 55 (m.rots.length) (fun j fr st2 => fr 4 = .pt (st.next + 1) 0 ∧ fr 5 = .pt c 0 ∧ fr 6 = .sl tt G.length (us G) ∧ fr 41 = .sl 0 m.rots.length (rowsL m.rots) ∧ Keeps st st2 ∧ st2.H (st.next + 1) = .box 28 3 [.nil, .nil, .nil] ∧ st2.H lv = .box 29 1 (us m.g.vs) ∧ st2.H le = .box 31 3 (eds K) ∧ ∃ lr, st2.H c = .box 28 3 [.ms lv 0 m.g.vs.length, .ms le 0 K.length, .ms lr 0 j] ∧ st2.H lr = .box 22 1 (rowsL ((m.rots.take j).map fun t => nrm (wo t G))) ∧ c < lr ∧ lr < st2.next) ?_ ?_ ?_
  · refine ⟨by simp [f4], by simp [f5], by simp [f6], by simp, ?_, ?_, ?_, ?_, s.next, ?_, ?_, by omega, by simp⟩
    · (repeat (first | exact hkp | (refine Keeps.trans ?_ (Keeps.new _ _)) | (refine Keeps.set ?_ (by omega) _)))
    · simp [show ¬ st.next + 1 = s.next by omega, show ¬ st.next + 1 = c by omega, hR]
    · simp [show ¬ lv = s.next by omega, show ¬ lv = c by omega, hv2]
    · simp [show ¬ le = s.next by omega, show ¬ le = c by omega, he2]
    · simp
    · simp [show ¬ s.next = c by omega, rowsL]
  · clear f2 f4 f5 f6 hkp hA hR hC hv2 he2 fr s hhi
    rintro j fr s hlt ⟨f4, f5, f6, f41, hkp, hR, hv2, he2, lr, hB, hO, hlo', hhi⟩ fi fn JO hJO
    have hd := rowsL_drop m.rots j hlt
    have hFj := hF j hlt
    have hst := hs _ (show m.rots.getD j [] ∈ m.rots by rw [getR_lt _ _ hlt]; exact List.getElem_mem _)
    have hjl : (rowsL ((m.rots.take j).map fun t => nrm (wo t G))).length = j := by simp [rowsL]; omega
    simp only [hFj] at hJO
    generalize m.rots.getD j [] = t at *
    generalize rowsL ((m.rots.take j).map fun t => nrm (wo t G)) = R at *
    have hGs : small G := by unfold small; omega
    (repeat' (first | refine qS ?_ | (refine w_e [] ?_; intro J hJ; simp only []; simp [f41, fi, fn, hd, hlt]; (refine hJ _ _ ?_; clear hJ J; simp only [ak, reduceIte]))))
    (refine w_s [] [c] [(0, true), (1, true), (2, true), (3, true), (4, true), (5, true), (6, false), (7, true), (8, false)] ?_; intro J hJ; simp [f5, f6, hB])
    refine qD (Without' t G 0 tt _ hst hGs) (by simp) ?_; rintro r s2 ⟨rfl, h1⟩
    rw [h1]; clear h1 s2
    refine ⟨fun h => by first | (cases h; done) | simp [hB], ?_⟩
    have e2 : ¬ lr = s.next := by omega
    have e3 : ¬ c = lr := by omega
    have e4 : ¬ c = s.next := by omega
    have e5 : ¬ c = s.next + 1 := by omega
    (refine d_go ?_; simp [f5, hB, hO, e2, e3, e4, e5, hjl]; (repeat refine ca ?_); (refine hJ _ _ ?_; clear hJ J; simp only [ak, reduceIte]))
    refine hJO _ _ (by simp [fi]) (by simp [fn]) ⟨by simp [f4], by simp [f5], by simp [f6], by simp [f41], ?_, ?_, ?_, ?_, s.next + 1, by simp, by simp [show ¬ s.next + 1 = c by omega, show ¬ s.next = c by omega, nrm_length], by omega, by simp⟩
    · (repeat (first | exact hkp | (refine Keeps.trans ?_ (Keeps.new _ _)) | (refine Keeps.set ?_ (by omega) _)))
    · simp [show ¬ st.next + 1 = c by omega, show ¬ st.next = s.next by omega, show ¬ st.next + 1 = lr by omega, show ¬ st.next + 1 = s.next by omega, hR]
    · simp [show ¬ lv = c by omega, show ¬ lv = s.next + 1 by omega, show ¬ lv = lr by omega, show ¬ lv = s.next by omega, hv2]
    · simp [show ¬ le = c by omega, show ¬ le = s.next + 1 by omega, show ¬ le = lr by omega, show ¬ le = s.next by omega, he2]
  · clear f2 f4 f5 f6 hkp hA hR hC hv2 he2 fr s hhi
    rintro fr s ⟨f4, f5, f6, f41, hkp, hR, hv2, he2, lr, hB, hO, hlo', hhi⟩
    rw [List.take_length] at hO
    (repeat' (first | refine qS ?_ | (refine qR ?_; simp only [ak, reduceIte]; simp [f4, f5, hB, hR]) | (refine w_e [] ?_; intro J hJ; simp only []; simp [f4, f5, hB, hR]; (refine hJ _ _ ?_; clear hJ J; simp only [ak, reduceIte]))))
    refine ⟨lv, le, lr, by simp [mpM], ⟨?_, ?_, ?_, by simp; omega, by simp; omega, by simp; omega⟩, by omega, by omega, by omega, hkp.set (by omega) _⟩
    · simp [show ¬ lv = st.next + 1 by omega, hv2]
    · simp [show ¬ le = st.next + 1 by omega, he2]
    · simp [show ¬ lr = st.next + 1 by omega, hO]
end Go.Proofs.YtglkgindpjdoiaaGreat.Aw
namespace Go.Proofs.YtglkgindpjdoiaaGreat.Aw
open Go Go.RowKit Go.Proofs.YtglkgindpjdoiaaGreat.Pl Go.Proofs.YtglkgindpjdoiaaGreat.Eu
set_option linter.unusedSimpArgs false
set_option linter.unusedVariables false
theorem nrm_perm (l : List Int) : (nrm l).Perm l := by
  unfold nrm rt
  exact List.perm_append_comm.trans (by rw [List.take_append_drop])
theorem nrm_nrm (l : List Int) : nrm (nrm l) = nrm l := by
  by_cases h : l = []
  · subst h; rfl
  · obtain ⟨r, hr⟩ := nrm_head l h
    have hm : mn (nrm l) = mn l := mn_eq ((nrm_perm l).mem_iff.2 (mn_mem h)) fun x hx => mn_le ((nrm_perm l).mem_iff.1 hx)
    exact nrm_of_head hr hm
theorem ends_filter (I : List Int) (v : Int) : ∀ es : List Ed, ends (es.filter fun x => decide (x.id ∈ I)) v = (ends es v).filter fun d => decide (d / 2 ∈ I)
  | [] => rfl
  | x :: es => by
    have ih := ends_filter I v es
    have h1 : (2 * x.id) / 2 = x.id := by omega
    have h2 : (2 * x.id + 1) / 2 = x.id := by omega
    have hx : (end1 v x).filter (fun d => decide (d / 2 ∈ I)) = if x.id ∈ I then end1 v x else [] := by
      unfold end1
      by_cases hi : x.id ∈ I
      · rw [if_pos hi, List.filter_eq_self]
        intro d hd
        have : d = 2 * x.id ∨ d = 2 * x.id + 1 := by
          revert hd; split <;> split <;> simp <;> omega
        rcases this with rfl | rfl
        · rw [h1]; simpa using hi
        · rw [h2]; simpa using hi
      · rw [if_neg hi, List.filter_eq_nil_iff]
        intro d hd
        have : d = 2 * x.id ∨ d = 2 * x.id + 1 := by
          revert hd; split <;> split <;> simp <;> omega
        rcases this with rfl | rfl
        · rw [h1]; simpa using hi
        · rw [h2]; simpa using hi
    unfold ends at ih ⊢
    rw [List.flatMap_cons, List.filter_append, hx, List.filter_cons]
    by_cases hi : x.id ∈ I
    · rw [if_pos (by simpa using hi), if_pos hi, List.flatMap_cons, ih]
    · rw [if_neg (by simpa using hi), if_neg hi, ih, List.nil_append]
theorem kept_ok {m : Mp} (ho : MapOk m) (I : List Int) : MapOk (keptM m I) := by
  refine ⟨⟨⟨ho.g.rise, fun x hx => ho.g.ends x (List.mem_filter.1 hx).1⟩, ho.g.ids.sublist List.filter_sublist, fun x hx => ho.g.pos x (List.mem_filter.1 hx).1, fun x hx => ho.g.ne x (List.mem_filter.1 hx).1⟩, by simpa [keptM] using ho.len, fun k hk => ?_⟩
  have hk' : k < m.rots.length := by rw [ho.len]; exact hk
  have e : (keptM m I).rots.getD k [] = nrm ((m.rots.getD k []).filter fun d => decide (d / 2 ∈ I)) := by simp [keptM, List.getD_eq_getElem?_getD, hk']
  rw [e]
  refine ⟨(nrm_perm _).trans ?_, nrm_nrm _⟩
  show List.Perm _ (ends (m.g.es.filter fun x => decide (x.id ∈ I)) _)
  rw [ends_filter]
  exact (ho.ok k hk).1.filter _
theorem chk_of {g : Gr} (h : GoodE g) (hv : ∀ v ∈ g.vs, 1 ≤ v ∧ v ≤ 1048576) (h1 : g.vs.length ≤ 64) (h2 : g.es.length ≤ 160) : chk g = 0 := by
  unfold chk
  rw [if_neg (by omega)]
  have hV : firstNZ (badV g) g.vs.length = 0 := firstNZ_zero fun j hj => by
    unfold badV numb
    have hin : g.vs.getD j 0 ∈ g.vs := by rw [getD_lt _ _ hj]; exact List.getElem_mem _
    have := hv _ hin
    rw [if_neg (by omega), if_neg]
    rintro ⟨h3, h4⟩
    have hj0 : j ≠ 0 := by simpa using h3
    have := List.pairwise_iff_getElem.1 h.rise (j - 1) j (by omega) hj (by omega)
    rw [getD_lt _ _ hj, getD_lt _ _ (by omega)] at h4
    omega
  rw [if_neg (by rw [hV]; decide)]
  refine firstNZ_zero fun j hj => ?_
  have hin : g.es.getD j ed0 ∈ g.es := by rw [getE_lt _ _ hj]; exact List.getElem_mem _
  have h3 := h.pos _ hin
  have h4 := h.ne _ hin
  have h5 := h.ends _ hin
  have h6 : numb (g.es.getD j ed0).id (g.es.getD (j - 1) ed0).id (decide (j = 0)) = 0 := by
    unfold numb
    rw [if_neg (by omega), if_neg]
    rintro ⟨h7, h8⟩
    have hj0 : j ≠ 0 := by simpa using h7
    have := List.pairwise_iff_getElem.1 h.ids (j - 1) j (by omega) hj (by omega)
    rw [getE_lt _ _ hj, getE_lt _ _ (by omega)] at h8
    omega
  unfold badE
  simp only
  rw [if_neg (fun e => e h6), if_neg h4, if_neg]
  rintro (h7 | h7)
  · exact h7 h5.1
  · exact h7 h5.2
section
variable {m : Mp} (h : MapOk m)
include h
theorem MapOk.turn_it {t : List Int} (ht : t ∈ m.rots) (n : Nat) : ∀ x, x ∈ t → it (sg m) n x ∈ t ∧ it (sg m) n x = it (nx t) n x := by
  induction n with
  | zero => intro x hx; exact ⟨hx, rfl⟩
  | succ n ih =>
    intro x hx
    obtain ⟨h1, h2⟩ := ih x hx
    rw [it_succ, it_succ]
    refine ⟨h.sg_mem ht h1, ?_⟩
    rw [sg_at h ht h1, h2]
theorem MapOk.turn_orb {x y v : Int} (hx : x ∈ ends m.g.es v) (hy : y ∈ ends m.g.es v) : Orb (sg m) x y := by
  obtain ⟨t, ht, hxt⟩ := h.turn_of (ends_dart hx)
  obtain ⟨k, hk, rfl, h1, _⟩ := h.turn ht
  have hv := at_unique h.g.ids hx (h1.mem_iff.1 hxt)
  have hyt := h1.mem_iff.2 (hv ▸ hy)
  obtain ⟨n, hn⟩ := nx_orb (h.nodup ht) hxt hyt
  exact ⟨n, by rw [(h.turn_it ht n x hxt).2, hn]⟩
theorem MapOk.turn_cyc {t r : List Int} {a : Int} (ht : t ∈ m.rots) (hr : t = a :: r) : IsCyc (sg m) a t := by
  have hn := h.nodup ht
  have hl : 0 < t.length := by rw [hr]; simp
  have h0 : t[0] = a := by simp [hr]
  have ha : a ∈ t := by rw [hr]; simp
  have hit : ∀ k, it (sg m) k a = t[k % t.length]'(Nat.mod_lt _ hl) := fun k => by
    rw [(h.turn_it ht k a ha).2]
    have := nx_it hn hl k
    rw [h0] at this
    rw [this]
    congr 1
    rw [Nat.zero_add]
  refine ⟨t.length, hl, ?_, ?_, fun q hq hql e => ?_⟩
  · refine List.ext_getElem (by simp) fun k h1 h2 => ?_
    simp only [List.getElem_map, List.getElem_range]
    rw [hit k]
    congr 1
    rw [Nat.mod_eq_of_lt h1]
  · rw [hit]; simp only [Nat.mod_self]; exact h0
  · rw [hit q] at e
    simp only [Nat.mod_eq_of_lt hql] at e
    rw [← h0] at e
    have := congrArg t.idxOf e
    rw [hn.idxOf_getElem, hn.idxOf_getElem] at this
    omega
end
theorem reach_alone {es : List Ed} {v w : Int} (hn : nbr es v = []) (h : Reach es v w) : v = w := by
  induction h with
  | refl => rfl
  | step _ hw ih => rw [← ih, hn] at hw; cases hw
section
variable {m : Mp} (h : MapOk m)
include h
variable {R : List (List Int)} (hR : FacesOf m R) (hb : ∀ x ∈ m.g.es, tix R (2 * x.id) ≠ tix R (2 * x.id + 1))
include hR hb
end
def lessM (n : Mp) (i : Int) : Mp := ⟨⟨n.g.vs, n.g.es.filter fun y => decide (y.id ≠ i)⟩, n.rots.map fun t => nrm (wo t [2 * i, 2 * i + 1])⟩
theorem wo_half (t : List Int) (i : Int) : wo t [2 * i, 2 * i + 1] = t.filter fun d => decide (d / 2 ≠ i) := by
  unfold wo
  refine List.filter_congr fun d _ => ?_
  rw [← decide_not]
  refine decide_eq_decide.2 ?_
  simp only [List.mem_cons, List.not_mem_nil, or_false]
  omega
theorem less_kept {n : Mp} (h : MapOk n) (i : Int) : lessM n i = keptM n ((n.g.es.filter fun y => decide (y.id ≠ i)).map (·.id)) := by
  have hm : ∀ x ∈ n.g.es, (x.id ∈ (n.g.es.filter fun y => decide (y.id ≠ i)).map (·.id)) ↔ x.id ≠ i := fun x hx => by
    rw [List.mem_map]
    constructor
    · rintro ⟨y, hy, e⟩; rw [List.mem_filter] at hy; rw [← e]; simpa using hy.2
    · intro hne; exact ⟨x, List.mem_filter.2 ⟨hx, by simpa using hne⟩, rfl⟩
  unfold lessM keptM
  congr 1
  · congr 1
    refine List.filter_congr fun x hx => ?_
    exact decide_eq_decide.2 (hm x hx).symm
  · refine List.map_congr_left fun t ht => ?_
    rw [wo_half]
    congr 1
    refine List.filter_congr fun d hd => ?_
    obtain ⟨x, hx, e⟩ := darts_half.1 (h.turn_dart ht hd)
    rw [← e]
    exact decide_eq_decide.2 (hm x hx).symm
theorem less_ok {n : Mp} (h : MapOk n) (i : Int) : MapOk (lessM n i) := by rw [less_kept h]; exact kept_ok h _
theorem less_dart {n : Mp} {i d : Int} : d ∈ darts (lessM n i).g.es ↔ d ∈ darts n.g.es ∧ d / 2 ≠ i := by
  rw [darts_half, darts_half]
  constructor
  · rintro ⟨x, hx, e⟩
    have := List.mem_filter.1 hx
    exact ⟨⟨x, this.1, e⟩, by rw [← e]; simpa using this.2⟩
  · rintro ⟨⟨x, hx, e⟩, hne⟩
    exact ⟨x, List.mem_filter.2 ⟨hx, by rw [e]; simpa using hne⟩, e⟩
theorem nx_at (p q : List Int) (d : Int) (hn : (p ++ d :: q).Nodup) : nx (p ++ d :: q) d = (q ++ p ++ [d]).headD 0 := by
  have hp : d ∉ p := fun h => by
    rw [List.nodup_append] at hn
    exact hn.2.2 d h d (by simp) rfl
  have hi : (p ++ d :: q).idxOf d = p.length := by
    rw [List.idxOf_append, if_neg hp]; simp
  unfold nx
  rw [if_pos (by simp), hi]
  cases q with
  | nil =>
    have : (p ++ [d]).length = p.length + 1 := by simp
    rw [this, Nat.mod_self]
    cases p <;> simp
  | cons y q =>
    rw [Nat.mod_eq_of_lt (by simp)]
    simp [List.getD_eq_getElem?_getD, List.getElem?_append_right]
theorem nx_less {t : List Int} (hn : t.Nodup) {e : Int} (h0 : e ∈ t) : ∃ r, Cyc t (e :: r) ∧ ((r = [] ∧ pv t e = e ∧ nx t e = e) ∨ ((∃ r', r = r' ++ [pv t e]) ∧ pv t e ≠ e ∧ nx t (pv t e) = e ∧ nx r (pv t e) = nx t e ∧ ∀ d ∈ r, d ≠ pv t e → nx r d = nx t d)) := by
  have hi := List.idxOf_lt_length_of_mem h0
  obtain ⟨r, hr⟩ : ∃ r, rt t (t.idxOf e) = e :: r := by
    unfold rt
    rw [List.drop_eq_getElem_cons hi, List.getElem_idxOf hi]
    exact ⟨_, rfl⟩
  have hc : Cyc t (e :: r) := ⟨_, Nat.le_of_lt hi, hr.symm⟩
  have hn2 := hc.nodup hn
  refine ⟨r, hc, ?_⟩
  rw [← cyc_pv hc hn]
  have hx : ∀ d, nx t d = nx (e :: r) d := fun d => (cyc_nx hc hn d).symm
  simp only [hx]
  rcases List.eq_nil_or_concat r with rfl | ⟨r', z, rfl⟩
  · exact .inl ⟨rfl, by simp [pv], by simp [nx]⟩
  rw [List.concat_eq_append] at *
  have h1 : nx (e :: (r' ++ [z])) z = e := by
    have := nx_at (e :: r') [] z (by simpa using hn2)
    simpa using this
  have hp : pv (e :: (r' ++ [z])) e = z := by
    have := pv_nx hn2 (d := z) (by simp)
    rwa [h1] at this
  rw [hp]
  have hze : z ≠ e := fun h => by subst h; rw [List.nodup_cons] at hn2; exact hn2.1 (by simp)
  have hn3 : (r' ++ [z]).Nodup := (List.nodup_cons.1 hn2).2
  refine .inr ⟨⟨r', rfl⟩, hze, h1, ?_, fun d hd hdz => ?_⟩
  · have a1 := nx_at r' [] z hn3
    have a2 := nx_at [] (r' ++ [z]) e hn2
    rw [a1, show e :: (r' ++ [z]) = [] ++ e :: (r' ++ [z]) from rfl, a2]
    cases r' <;> simp
  · obtain ⟨p, q, hpq⟩ := List.append_of_mem hd
    rw [hpq] at hn3 hn2 ⊢
    have a1 := nx_at p q d hn3
    have a2 := nx_at (e :: p) q d (by simpa using hn2)
    rw [a1]
    rw [show e :: (p ++ d :: q) = e :: p ++ d :: q from rfl, a2]
    cases q with
    | nil =>
      have : d = z := by
        have := congrArg (fun l => l.getLast?) hpq
        simpa using this.symm
      exact absurd this hdz
    | cons y q => simp
section
variable {n : Mp} (h : MapOk n) {x : Ed} (hx : x ∈ n.g.es)
include h hx
theorem MapOk.dart0 : 2 * x.id ∈ darts n.g.es ∧ 2 * x.id + 1 ∈ darts n.g.es := have _ := h; ⟨mem_darts.2 ⟨x, hx, .inl rfl⟩, mem_darts.2 ⟨x, hx, .inr rfl⟩⟩
theorem MapOk.apart {t : List Int} (ht : t ∈ n.rots) (h0 : 2 * x.id ∈ t) : 2 * x.id + 1 ∉ t := fun h1 => by
  obtain ⟨k, hk, rfl, ho⟩ := h.turn ht
  have e0 := at_unique h.g.ids (ho.1.mem_iff.1 h0) (mem_ends.2 ⟨x, hx, .inl ⟨rfl, rfl⟩⟩)
  have e1 := at_unique h.g.ids (ho.1.mem_iff.1 h1) (mem_ends.2 ⟨x, hx, .inr ⟨rfl, rfl⟩⟩)
  exact h.g.ne x hx (e0.symm.trans e1)
theorem MapOk.sg_less_at {t : List Int} (ht : t ∈ n.rots) {d : Int} (hd : d ∈ t) (hne : d / 2 ≠ x.id) : sg (lessM n x.id) d = nx (wo t [2 * x.id, 2 * x.id + 1]) d := by
  have ho := less_ok h x.id
  have _ := hx
  have hm : d ∈ wo t [2 * x.id, 2 * x.id + 1] := by rw [wo_half]; exact List.mem_filter.2 ⟨hd, by simpa using hne⟩
  rw [sg_at ho (t := nrm (wo t [2 * x.id, 2 * x.id + 1])) (List.mem_map_of_mem ht) ((nrm_mem _ _).2 hm)]
  refine cyc_nx (cyc_nrm _) ?_ d
  unfold wo
  exact (h.nodup ht).filter _
theorem MapOk.less_end {e e' : Int} (he : (e = 2 * x.id ∧ e' = 2 * x.id + 1) ∨ (e = 2 * x.id + 1 ∧ e' = 2 * x.id)) {t : List Int} (ht : t ∈ n.rots) (h0 : e ∈ t) :
    e' ∉ t ∧ pv t e ∈ t ∧ sg n (pv t e) = e ∧ (∀ d ∈ t, d ≠ e → d ≠ pv t e → sg (lessM n x.id) d = sg n d) ∧ (pv t e = e ∧ sg n e = e ∧ sg (lessM n x.id) e = e ∨ pv t e ≠ e ∧ sg (lessM n x.id) (pv t e) = sg n e) := by
  have hn := h.nodup ht
  have ho := less_ok h x.id
  have h1 : e' ∉ t := by
    rcases he with ⟨rfl, rfl⟩ | ⟨rfl, rfl⟩
    · exact h.apart hx ht h0
    · exact fun k => h.apart hx ht k h0
  obtain ⟨r, hc, hr⟩ := nx_less hn h0
  have hw : Cyc (wo t [2 * x.id, 2 * x.id + 1]) r := by
    have h2 := wo_cyc hc [2 * x.id, 2 * x.id + 1]
    have hn2 := hc.nodup hn
    have e1 : wo (e :: r) [2 * x.id, 2 * x.id + 1] = r := by
      unfold wo
      rw [List.filter_cons, if_neg (by rcases he with ⟨rfl, _⟩ | ⟨rfl, _⟩ <;> simp), List.filter_eq_self]
      intro y hy
      have hy1 : y ≠ e := fun k => by subst k; exact (List.nodup_cons.1 hn2).1 hy
      have hy2 : y ≠ e' := fun k => by subst k; exact h1 ((hc.mem y).1 (List.mem_cons_of_mem _ hy))
      rcases he with ⟨rfl, rfl⟩ | ⟨rfl, rfl⟩ <;> simp [hy1, hy2]
    rwa [e1] at h2
  have hwn : (wo t [2 * x.id, 2 * x.id + 1]).Nodup := by unfold wo; exact hn.filter _
  have hhalf : ∀ d ∈ t, d ≠ e → d / 2 ≠ x.id := fun d hd hde k => by
    have : d = e ∨ d = e' := by rcases he with ⟨rfl, rfl⟩ | ⟨rfl, rfl⟩ <;> omega
    rcases this with rfl | rfl
    · exact hde rfl
    · exact h1 hd
  have hsm : ∀ d ∈ t, d ≠ e → sg (lessM n x.id) d = nx r d := fun d hd hde => by
    rw [h.sg_less_at hx ht hd (hhalf d hd hde)]; exact (cyc_nx hw hwn d).symm
  have hsn : ∀ d ∈ t, sg n d = nx t d := fun d hd => sg_at h ht hd
  have hgone : sg (lessM n x.id) e = e := ho.sg_id fun k => (less_dart.1 k).2 (by rcases he with ⟨rfl, _⟩ | ⟨rfl, _⟩ <;> omega)
  have hin : ∀ d ∈ t, d ≠ e → d ∈ r := fun d hd hde => by
    have := (hc.mem d).2 hd
    rcases List.mem_cons.1 this with k | k
    · exact absurd k hde
    · exact k
  rcases hr with ⟨rfl, k1, k2⟩ | ⟨⟨r', rfl⟩, k1, k2, k3, k4⟩
  · refine ⟨h1, by rw [k1]; exact h0, by rw [k1, hsn e h0, k2], fun d hd hde _ => ?_, .inl ⟨k1, by rw [hsn e h0, k2], hgone⟩⟩
    exact absurd (hin d hd hde) (by simp)
  · have hpt : pv t e ∈ t := (hc.mem _).1 (by simp)
    refine ⟨h1, hpt, by rw [hsn _ hpt, k2], fun d hd hde hdp => ?_, .inr ⟨k1, ?_⟩⟩
    · rw [hsm d hd hde, hsn d hd, k4 d (hin d hd hde) hdp]
    · rw [hsm _ hpt k1, k3, hsn e h0]
theorem MapOk.less_sg : ∃ A B, sg n A = 2 * x.id ∧ sg n B = 2 * x.id + 1 ∧ A ∈ darts n.g.es ∧ B ∈ darts n.g.es ∧ A ≠ B ∧ A ≠ 2 * x.id + 1 ∧ B ≠ 2 * x.id ∧
    (∀ d, sg n d = sg (lessM n x.id) (sw A (2 * x.id) (sw B (2 * x.id + 1) d))) := by
  have ho := less_ok h x.id
  obtain ⟨q0, q1⟩ := h.dart0 hx
  obtain ⟨ta, hta, ha0⟩ := h.turn_of q0
  obtain ⟨tb, htb, hb0⟩ := h.turn_of q1
  obtain ⟨a1, a2, a3, a4, a5⟩ := h.less_end hx (.inl ⟨rfl, rfl⟩) hta ha0
  obtain ⟨b1, b2, b3, b4, b5⟩ := h.less_end hx (.inr ⟨rfl, rfl⟩) htb hb0
  have hne : ∀ d, d ∈ ta → d ∈ tb → False := fun d h1 h2 => by
    have e := h.same hta htb h1 h2
    exact a1 (e ▸ hb0)
  have hd01 : (2 * x.id : Int) ≠ 2 * x.id + 1 := by omega
  have g0 : sg (lessM n x.id) (2 * x.id) = 2 * x.id := ho.sg_id fun k => (less_dart.1 k).2 (by omega)
  have g1 : sg (lessM n x.id) (2 * x.id + 1) = 2 * x.id + 1 := ho.sg_id fun k => (less_dart.1 k).2 (by omega)
  generalize pv ta (2 * x.id) = A at *
  generalize pv tb (2 * x.id + 1) = B at *
  have hAB : A ≠ B := fun k => hne A a2 (k ▸ b2)
  have hA1 : A ≠ 2 * x.id + 1 := fun k => hne A a2 (k ▸ hb0)
  have hB0 : B ≠ 2 * x.id := fun k => hne B (k ▸ ha0) b2
  refine ⟨A, B, a3, b3, h.turn_dart hta a2, h.turn_dart htb b2, hAB, hA1, hB0, fun d => ?_⟩
  by_cases e0 : d = 2 * x.id
  · subst e0
    rw [sw_o (Ne.symm hB0) hd01, sw_b]
    rcases a5 with ⟨k1, k2, k3⟩ | ⟨k1, k2⟩
    · rw [k1, g0, k2]
    · exact k2.symm
  by_cases e1 : d = 2 * x.id + 1
  · subst e1
    rw [sw_b, sw_o (Ne.symm hAB) hB0]
    rcases b5 with ⟨k1, k2, k3⟩ | ⟨k1, k2⟩
    · rw [k1, g1, k2]
    · exact k2.symm
  by_cases eA : d = A
  · subst eA
    rw [sw_o hAB e1, sw_a, a3, g0]
  by_cases eB : d = B
  · subst eB
    rw [sw_a, sw_o (Ne.symm hA1) (Ne.symm hd01), b3, g1]
  rw [sw_o eB e1, sw_o eA e0]
  by_cases hd : d ∈ darts n.g.es
  · obtain ⟨t, ht, hdt⟩ := h.turn_of hd
    by_cases h0 : 2 * x.id ∈ t
    · obtain rfl := h.same ht hta h0 ha0
      exact (a4 d hdt e0 eA).symm
    by_cases h1 : 2 * x.id + 1 ∈ t
    · obtain rfl := h.same ht htb h1 hb0
      exact (b4 d hdt e1 eB).symm
    rw [h.sg_less_at hx ht hdt (by omega), sg_at h ht hdt]
    congr 1
    unfold wo
    refine (List.filter_eq_self.2 fun y hy => ?_).symm
    simp only [List.mem_cons, List.not_mem_nil, or_false, Bool.not_eq_true', decide_eq_false_iff_not, not_or]
    exact ⟨fun k => h0 (k ▸ hy), fun k => h1 (k ▸ hy)⟩
  · rw [h.sg_id hd, ho.sg_id fun k => hd (less_dart.1 k).1]
end
end Go.Proofs.YtglkgindpjdoiaaGreat.Aw
