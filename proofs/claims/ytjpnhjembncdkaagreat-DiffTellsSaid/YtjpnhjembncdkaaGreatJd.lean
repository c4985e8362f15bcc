/- Plain: how a walk's row falls into turns; who is told the same is laid. No program. canon.Walk. What the later chapters' examples answer. Whether any graph may be, of whatever size, as the document says it. Maps: whether one may be, as the program says it. Maps: the genus, the program's and the document's. Maps: whether one may be, as the document says it; whether it lies in the plane. The law CanonWalks: what it asks of a map. canon.least; slices.Compare at rows of numbers. canon.Code. Plain: parts that are one drawing have one key; darts laid on darts, one by one. No program. The document's way: darts are laid on darts. The document's way: Laid, walked. The document's way: darts, Part. The document's way: Same, walked; plain: parts paired off greedily. The law CanonSame. The law CanonLess: a map's mirror, a map's copy. The law CanonLess: the document's Keep of a map. The law DiffTells: the document's turn, alike. The law DiffTells: the program's turn of the kept edges. The law DiffTells: the document's Kept. The law DiffTells: the program's Kept. The law DiffTells: is an edge in a row. The law DiffTells: the program's Kept, walked. The law SketchMakes: the steps that are told. -/
import Derived.Test.YtjpnhjembncdkaaGreatJc
import Derived.Test.YtjpnhjembncdkaaGreatAwZ
import Derived.Test.YtjpnhjembncdkaaGreatAwFn
import Derived.Test.YtjpnhjembncdkaaGreatAwTd
import Derived.Test.YtjpnhjembncdkaaGreatAwMr5
import Derived.Test.YtjpnhjembncdkaaGreatAwAlt
import Derived.Test.YtjpnhjembncdkaaGreatAwShp
namespace Go.Proofs.YtjpnhjembncdkaaGreat.Aw
open Go Go.RowKit Go.Proofs.YtjpnhjembncdkaaGreat.Pl Go.Proofs.YtjpnhjembncdkaaGreat.Eu
set_option linter.unusedSimpArgs false
set_option linter.unusedVariables false

/-- The place behind one, in its group. -/
def nxt (hs : List Int) (i : Nat) : Nat := if i + 1 < hs.length ∧ hs.getD (i + 1) 0 = hs.getD i 0 then i + 1 else hs.idxOf (hs.getD i 0)
theorem Pat.nxt {xs ys : List Int} (h : Pat xs ys) {i : Nat} (hi : i < xs.length) : Aw.nxt xs i = Aw.nxt ys i := by
  unfold Aw.nxt
  rw [← h.idx hi, ← h.1]
  by_cases h1 : i + 1 < xs.length
  · simp only [h1, true_and, h.2 (i + 1) i h1 hi]
  · simp only [h1, false_and]
theorem getD_app (a b : List Int) (k : Nat) : (a ++ b).getD k 0 = if k < a.length then a.getD k 0 else b.getD (k - a.length) 0 := by
  rw [List.getD_eq_getElem?_getD, List.getElem?_append]
  split <;> rw [List.getD_eq_getElem?_getD]
/-- Each turn of a vertex stands as one piece. -/
def Grp (m : Mp) (D : List Int) : Prop := ∀ i, i < D.length → sg m (D.getD i 0) = D.getD (nxt (D.map (hom m.g.es)) i) 0
theorem nxt_lt {hs : List Int} {i : Nat} (hi : i < hs.length) : nxt hs i < hs.length := by
  unfold nxt
  split
  · rename_i h; exact h.1
  · exact List.idxOf_lt_length_of_mem (getD_mem hi)
theorem Grp.turn {m : Mp} (h : MapOk m) {D : List Int} (hg : Grp m D) {v d : Int} (hd : d ∈ ends m.g.es v) (hnew : ∀ z ∈ D, hom m.g.es z ≠ v) : Grp m (D ++ trn m d) := by
  have hc := trn_cyc h (ends_dart hd)
  have hp := trn_perm h hd
  have hv : ∀ y ∈ trn m d, hom m.g.es y = v := fun y hy => hom_of h.g.ids (hp.mem_iff.1 hy)
  obtain ⟨p, hp0, hL, h1, h2⟩ := hc
  have hrl : (trn m d).length = p := by rw [hL]; simp
  have hrg : ∀ k, k < p → (trn m d).getD k 0 = it (sg m) k d := fun k hk => by
    rw [getD_lt _ _ (by omega)]
    simp only [hL, List.getElem_map, List.getElem_range]
  generalize trn m d = r at *
  intro i hi
  rw [List.length_append] at hi
  rw [List.map_append]
  have hml : (D.map (hom m.g.es)).length = D.length := by simp
  have hrm : ∀ k, k < p → (r.map (hom m.g.es)).getD k 0 = v := fun k hk => by rw [getD_map _ _ (by omega)]; exact hv _ (getD_mem (by omega))
  rcases Nat.lt_or_ge i D.length with hiD | hiD
  · have e1 : nxt (D.map (hom m.g.es) ++ r.map (hom m.g.es)) i = nxt (D.map (hom m.g.es)) i := by
      have hin : hom m.g.es (D.getD i 0) ∈ D.map (hom m.g.es) := List.mem_map.2 ⟨_, getD_mem hiD, rfl⟩
      have ei : (D.map (hom m.g.es) ++ r.map (hom m.g.es)).getD i 0 = hom m.g.es (D.getD i 0) := by rw [getD_app, hml, if_pos hiD, getD_map _ _ hiD]
      have ei2 : (D.map (hom m.g.es)).getD i 0 = hom m.g.es (D.getD i 0) := getD_map _ _ hiD
      have eL : (D.map (hom m.g.es) ++ r.map (hom m.g.es)).length = D.length + p := by rw [List.length_append, hml, List.length_map, hrl]
      unfold nxt
      rw [ei, ei2, List.idxOf_append, if_pos hin, eL, hml]
      rcases Nat.lt_or_ge (i + 1) D.length with h3 | h3
      · have e3 : (D.map (hom m.g.es) ++ r.map (hom m.g.es)).getD (i + 1) 0 = (D.map (hom m.g.es)).getD (i + 1) 0 := by rw [getD_app, hml, if_pos h3]
        rw [e3]
        simp only [h3, show i + 1 < D.length + p by omega, true_and]
      · have e3 : (D.map (hom m.g.es) ++ r.map (hom m.g.es)).getD (i + 1) 0 = v := by rw [getD_app, hml, if_neg (by omega), show i + 1 - D.length = 0 by omega, hrm 0 hp0]
        rw [e3, if_neg, if_neg]
        · rintro ⟨h5, _⟩; omega
        · rintro ⟨_, h5⟩; exact hnew _ (getD_mem hiD) h5.symm
    have hlt := nxt_lt (hs := D.map (hom m.g.es)) (i := i) (by simpa using hiD)
    rw [hml] at hlt
    rw [e1, getD_app, getD_app, if_pos hiD, if_pos hlt]
    exact hg i hiD
  · have hk : i - D.length < p := by omega
    generalize hke : i - D.length = k at *
    obtain rfl : i = D.length + k := by omega
    have e0 : (D.map (hom m.g.es) ++ r.map (hom m.g.es)).getD (D.length + k) 0 = v := by
      rw [getD_app, hml, if_neg (by omega), show D.length + k - D.length = k by omega, hrm k hk]
    have hni : v ∉ D.map (hom m.g.es) := fun hm => by
      obtain ⟨z, hz, e⟩ := List.mem_map.1 hm
      exact hnew z hz e
    rw [getD_app, if_neg (by omega), show D.length + k - D.length = k by omega, hrg k hk, ← it_succ (sg m) k d]
    unfold nxt
    rw [e0]
    rcases Nat.lt_or_ge (k + 1) p with h3 | h3
    · rw [if_pos, getD_app, if_neg (by omega), show D.length + k + 1 - D.length = k + 1 by omega, hrg _ h3]
      refine ⟨by rw [List.length_append, hml, List.length_map, hrl]; omega, ?_⟩
      rw [getD_app, hml, if_neg (by omega), show D.length + k + 1 - D.length = k + 1 by omega, hrm _ h3]
    · obtain rfl : k + 1 = p := by omega
      rw [if_neg, List.idxOf_append, if_neg hni, h1]
      · have e2 : (r.map (hom m.g.es)).idxOf v = 0 := by
          have h5 := hrm 0 hp0
          cases hr : r.map (hom m.g.es) with
          | nil => rw [List.map_eq_nil_iff] at hr; rw [hr] at hrl; simp at hrl
          | cons y l =>
            rw [hr] at h5
            simp at h5
            rw [h5]; simp
        rw [e2, hml, getD_app, if_neg (by omega), show 0 + D.length - D.length = 0 by omega, hrg 0 hp0]; rfl
      · rintro ⟨h5, _⟩
        rw [List.length_append, hml, List.length_map, hrl] at h5; omega
theorem WSt.head {m : Mp} (ho : MapOk m) {h d : Int} (hd : d ∈ ends m.g.es h) {k : Nat} {F D : List Int} (s : WSt m h d k F D) : F.getD 0 0 = d ∧ 0 < F.length ∧ (0 < k → D.getD 0 0 = d ∧ 0 < D.length) := by
  induction s with
  | start => exact ⟨rfl, by simp, fun h => by omega⟩
  | turn s hk ih =>
    rename_i k F D
    obtain ⟨h1, h2, h3⟩ := ih
    obtain ⟨X, hX⟩ := wFs_pre m.g.es h (trn m (F.getD k 0)) F D
    refine ⟨by rw [hX, getD_app, if_pos h2, h1], by rw [hX]; simp; omega, fun _ => ?_⟩
    rcases Nat.eq_zero_or_pos k with h0 | h0
    · subst h0
      cases s
      have hc := trn_cyc ho (ends_dart hd)
      obtain ⟨r, hr⟩ := Aw.IsCyc.head hc
      simp [hr]
    · obtain ⟨h4, h5⟩ := h3 h0
      exact ⟨by rw [getD_app, if_pos h5, h4], by simp; omega⟩
theorem WEnd.head {m : Mp} (ho : MapOk m) {h d : Int} (hd : d ∈ ends m.g.es h) {D : List Int} (e : WEnd m h d D) : D.getD 0 0 = d ∧ 0 < D.length := by
  obtain ⟨k, F, s, hk⟩ := e
  obtain ⟨_, h2, h3⟩ := s.head ho hd
  exact h3 (by omega)
end Go.Proofs.YtjpnhjembncdkaaGreat.Aw

namespace Go.Proofs.YtjpnhjembncdkaaGreat.Aw
open Go Go.RowKit Go.Proofs.YtjpnhjembncdkaaGreat.Pl
set_option linter.unusedSimpArgs false
set_option linter.unusedVariables false

/-- What a walk from a dart on tells. -/
def IsTold (m : Mp) (d : Int) (l : List Int) : Prop := (d ∉ darts m.g.es ∧ l = []) ∨ (d ∈ darts m.g.es ∧ ∃ D, WEnd m (hom m.g.es d) d D ∧ l = tel m (hom m.g.es d) D)
theorem IsTold.unique {m : Mp} {d : Int} {l l' : List Int} (h : IsTold m d l) (k : IsTold m d l') : l = l' := by
  rcases h with ⟨h1, rfl⟩ | ⟨h1, D, h2, rfl⟩ <;> rcases k with ⟨k1, rfl⟩ | ⟨k1, D', k2, rfl⟩
  · rfl
  · exact absurd k1 h1
  · exact absurd h1 k1
  · rw [h2.unique k2]
theorem hom_vs {m : Mp} (ho : MapOk m) {d : Int} (hd : d ∈ darts m.g.es) : hom m.g.es d ∈ m.g.vs := by
  obtain ⟨x, hx, h1⟩ := mem_ends.1 (dart_ends ho.g.ids hd).1
  have := ho.g.ends x hx
  rcases h1 with h1 | h1
  · rw [← h1.1]; exact this.1
  · rw [← h1.1]; exact this.2
open Classical in
noncomputable def walkL (m : Mp) (d : Int) : List Int := if h : ∃ l, IsTold m d l then h.choose else []
theorem walkL_eq {m : Mp} {d : Int} {l : List Int} (h : IsTold m d l) : walkL m d = l := by
  unfold walkL
  rw [dif_pos ⟨l, h⟩]
  exact (Exists.choose_spec (⟨l, h⟩ : ∃ l, IsTold m d l)).unique h
theorem IsWk.le {m : Mp} {h : Int} {D : List Int} (w : IsWk m.g.es h D) : D.length ≤ 2 * m.g.es.length := by
  rw [← darts_length]
  refine List.Nodup.length_le_of_subset w.nd fun x hx => ?_
  obtain ⟨v, _, h1⟩ := (w.all x).1 hx
  exact ends_dart h1
theorem WkI.le {m : Mp} (ho : MapOk m) {h : Int} {k : Nat} {F D : List Int} (w : WkI m.g.es h k F D) (hh : h ∈ m.g.vs) : D.length ≤ 2 * m.g.es.length ∧ F.length ≤ m.g.vs.length := by
  constructor
  · rw [← darts_length]
    refine List.Nodup.length_le_of_subset w.nd fun x hx => ?_
    obtain ⟨j, _, _, h1⟩ := (w.mem x).1 hx
    exact ends_dart h1
  · exact w.toWkN.le ho.g.toGood hh

end Go.Proofs.YtjpnhjembncdkaaGreat.Aw

namespace Go.Proofs.YtjpnhjembncdkaaGreat.Aw
open Go Go.RowKit
set_option linter.unusedSimpArgs false
set_option linter.unusedVariables false
end Go.Proofs.YtjpnhjembncdkaaGreat.Aw

namespace Go.Proofs.YtjpnhjembncdkaaGreat.Aw
open Go Go.RowKit Go.Proofs.YtjpnhjembncdkaaGreat.Pl
set_option linter.unusedSimpArgs false
set_option linter.unusedVariables false

theorem ref_Chk (g : Gr) (st : St) : ACalls Tryz.prog 14 [.ag (grL g)] st fun r st' => r = i (chk g) ∧ Keeps st st' := by
  by_cases h1 : (64 : Int) < (g.vs.length : Int)
  · have : chk g = 6 := by unfold chk; rw [if_pos (by omega)]
    refine acalls_of_body tabOk Tryz.func14 rfl rfl Tryz.ntmps14 (rs := [.tmp 2]) rfl (by simp) ?_
    (repeat' (first | refine awp_seq ?_ | (refine awp_ret ?_; simp only [ak, reduceIte]; simp [h1, this]) | (refine awp_cond ?_; simp [h1, this]) | (refine w_e [] ?_; intro J hJ; simp only []; simp [h1, this]; (refine hJ _ _ ?_; clear hJ J; simp only [ak, reduceIte]))))
    exact Keeps.new _ _
  by_cases h2 : (160 : Int) < (g.es.length : Int)
  · have : chk g = 6 := by unfold chk; rw [if_pos (by omega)]
    refine acalls_of_body tabOk Tryz.func14 rfl rfl Tryz.ntmps14 (rs := [.tmp 2]) rfl (by simp) ?_
    (repeat' (first | refine awp_seq ?_ | (refine awp_ret ?_; simp only [ak, reduceIte]; simp [h1, h2, this]) | (refine awp_cond ?_; simp [h1, h2, this]) | (refine w_e [] ?_; intro J hJ; simp only []; simp [h1, h2, this]; (refine hJ _ _ ?_; clear hJ J; simp only [ak, reduceIte]))))
    exact Keeps.new _ _
  exact ref_Check g st (by omega) (by omega)

end Go.Proofs.YtjpnhjembncdkaaGreat.Aw

namespace Go.Proofs.YtjpnhjembncdkaaGreat.Aw
open Go Go.RowKit Go.Proofs.YtjpnhjembncdkaaGreat.Pl Go.Proofs.YtjpnhjembncdkaaGreat.Eu
set_option linter.unusedSimpArgs false
set_option linter.unusedVariables false

theorem perm_of_sub : ∀ {a b : List Int}, a.Nodup → (∀ x ∈ a, x ∈ b) → b.length ≤ a.length → a.Perm b
  | [], b, _, _, hl => by
    have : b = [] := List.eq_nil_of_length_eq_zero (by simpa using hl)
    rw [this]
  | x :: a, b, hn, hs, hl => by
    rw [List.nodup_cons] at hn
    have hxb : x ∈ b := hs x List.mem_cons_self
    have p1 : b.Perm (x :: b.erase x) := List.perm_cons_erase hxb
    refine List.Perm.trans (List.Perm.cons x (perm_of_sub hn.2 (fun y hy => ?_) ?_)) p1.symm
    · have hne : y ≠ x := by rintro rfl; exact hn.1 hy
      exact (List.mem_erase_of_ne hne).2 (hs y (List.mem_cons_of_mem _ hy))
    · have := p1.length_eq
      simp only [List.length_cons] at this hl
      omega
theorem okTurn.head {es : List Ed} (hi : es.Pairwise (fun x y => x.id < y.id)) {v : Int} {t : List Int} (h : okTurn es v t) : t.getD 0 0 = (ends es v).getD 0 0 := by
  cases he : ends es v with
  | nil => have := h.1; rw [he] at this; rw [this.eq_nil]
  | cons a r =>
    have hr := ends_rise hi v
    rw [he, List.pairwise_cons] at hr
    have hp := h.1
    rw [he] at hp
    have hne : t ≠ [] := by rintro rfl; have := hp.length_eq; simp at this
    obtain ⟨z, hz⟩ := nrm_head t hne
    rw [h.2] at hz
    have hm : mn t = a := by
      refine mn_eq (hp.mem_iff.2 List.mem_cons_self) fun x hx => ?_
      rcases List.mem_cons.1 (hp.mem_iff.1 hx) with rfl | h1
      · exact Int.le_refl _
      · have := hr.1 x h1; omega
    rw [hz, hm]; rfl
def rok (m : Mp) (k : Nat) : Prop := okTurn m.g.es (m.g.vs.getD k 0) (m.rots.getD k [])
/-- What Check answers. -/
noncomputable def rchk (m : Mp) : Int := if chk m.g ≠ 0 then chk m.g else if m.rots.length ≠ m.g.vs.length then 22 else @ite _ (∀ k, k < m.g.vs.length → rok m k) (Classical.propDecidable _) 0 22
theorem rchk_g {m : Mp} (h : chk m.g ≠ 0) : rchk m = chk m.g := by unfold rchk; rw [if_pos h]
theorem rchk_len {m : Mp} (h : chk m.g = 0) (h1 : m.rots.length ≠ m.g.vs.length) : rchk m = 22 := by unfold rchk; rw [if_neg (fun e => e h), if_pos h1]
theorem rchk_bad {m : Mp} (h : chk m.g = 0) {k : Nat} (hk : k < m.g.vs.length) (h1 : ¬ rok m k) : rchk m = 22 := by
  unfold rchk
  rw [if_neg (fun e => e h)]
  split
  · rfl
  · rw [if_neg (fun e => h1 (e k hk))]
theorem rchk_ok {m : Mp} (h : chk m.g = 0) (h1 : m.rots.length = m.g.vs.length) (h2 : ∀ k, k < m.g.vs.length → rok m k) : rchk m = 0 := by
  unfold rchk
  rw [if_neg (fun e => e h), if_neg (fun e => e h1), if_pos h2]
theorem rchk_zero {m : Mp} (h : rchk m = 0) : chk m.g = 0 ∧ MapOk m := by
  by_cases h0 : chk m.g = 0
  · refine ⟨h0, ?_⟩
    by_cases h1 : m.rots.length = m.g.vs.length
    · refine ⟨chk_goodE h0, h1, fun k hk => ?_⟩
      refine Classical.byContradiction fun hn => ?_
      rw [rchk_bad h0 hk hn] at h; cases h
    · rw [rchk_len h0 h1] at h; cases h
  · rw [rchk_g h0] at h; exact absurd h h0

end Go.Proofs.YtjpnhjembncdkaaGreat.Aw

namespace Go.Proofs.YtjpnhjembncdkaaGreat.Aw
open Go Go.RowKit Go.Proofs.YtjpnhjembncdkaaGreat.Pl Go.Proofs.YtjpnhjembncdkaaGreat.Eu
set_option linter.unusedSimpArgs false
set_option linter.unusedVariables false

/-- A map's genus. -/
noncomputable def gn (m : Mp) : Nat := (2 * ncl (Reach m.g.es) m.g.vs + m.g.es.length - (alone m.g + m.g.vs.length + ncl (Orb (fc m m.g.es)) (darts m.g.es))) / 2
theorem MapOk.gn {m : Mp} (h : MapOk m) : 2 * ncl (Reach m.g.es) m.g.vs + m.g.es.length = 2 * gn m + alone m.g + m.g.vs.length + ncl (Orb (fc m m.g.es)) (darts m.g.es) := by
  obtain ⟨k, hk⟩ := h.euler
  have : Aw.gn m = k := by unfold Aw.gn; omega
  omega

theorem ends_len0 (es : List Ed) (v : Int) : (ends es v).length = 0 ↔ nbr es v = [] := by rw [List.length_eq_zero_iff, ends_nil]

set_option maxHeartbeats 1000000 in
theorem Twice (m : Mp) (h : MapOk m) (st : St) (hv : m.g.vs.length ≤ 1000) (he : m.g.es.length ≤ 1000) :
    ACalls Tryz.prog 51 [.ag (mpL m)] st fun r st' => r = i (2 * gn m) ∧ Keeps st st' := by
  have hP := h.fc_per m.g.es (fun x hx => hx)
  have hgn := h.gn
  have hal : alone m.g ≤ m.g.vs.length := List.countP_le_length
  have hdl := darts_length m.g.es
  have hid : idOk m.g.es := fun x hx => by have := h.g.pos x hx; omega
  refine acalls_of_body tabOk Tryz.func51 rfl rfl Tryz.ntmps51 (rs := [.tmp 2]) rfl (by simp) ?_
  (repeat' (first | refine awp_seq ?_ | refine awp_block ?_ | (refine w_e [] ?_; intro J hJ; simp only []; simp []; (refine hJ _ _ ?_; clear hJ J; simp only [ak, reduceIte]))))
  refine awp_range 10 9 11 22 (m.g.vs.length) (fun j fr st2 => fr 1 = .pt st.next 0 ∧ fr 8 = .sl 0 m.g.vs.length (us m.g.vs) ∧ fr 3 = i ((m.g.vs.take j).countP fun v => decide (nbr m.g.es v = []) : Nat) ∧ st2.H st.next = .box 41 3 (mpL m) ∧ Keeps st st2 ∧ st.next < st2.next) ?_ ?_ ?_
  · exact ⟨by simp, by simp, by simp, by simp, Keeps.new _ _, by simp⟩
  · rintro j fr st2 hlt ⟨f1, f8, f3, hG, hkp, hsn⟩ fi fn JJ hJJ
    have hd := us_drop_getD m.g.vs j hlt
    have hct := count_take (fun v => decide (nbr m.g.es v = [])) m.g.vs j hlt
    have hle : (m.g.vs.take j).countP (fun v => decide (nbr m.g.es v = [])) ≤ j := Nat.le_trans List.countP_le_length (by simp; omega)
    generalize m.g.vs.getD j 0 = v at *
    generalize (m.g.vs.take j).countP (fun v => decide (nbr m.g.es v = [])) = c at *
    (repeat' (first | refine awp_seq ?_ | (refine w_e [] ?_; intro J hJ; simp only []; simp [f1, f8, fi, fn, hd, hG, hlt]; (try (refine hJ _ _ ?_; clear hJ J; simp only [ak, reduceIte])))))
    refine callK_ofE (ref_Ends m.g v _ he hid) (by simp) ?_; rintro r s3 ⟨⟨t, rfl⟩, hk3⟩
    have hn3 := hk3.next
    have e0 := ends_len0 m.g.es v
    have hw := nat_add_one c (by omega)
    by_cases h0 : nbr m.g.es v = []
    · have e1 := e0.2 h0
      rw [if_pos (by simpa using h0)] at hct
      (repeat' (first | (refine awp_cond ?_; simp [e1, f3, hw]) | ((first | (refine w_e [] ?_; intro J hJ; simp only []) | (refine e_go ?_)); simp [e1, f3, hw]; (refine hJ _ _ ?_; clear hJ J; simp only [ak, reduceIte]))))
      exact hJJ _ _ (by simp [fi]) (by simp [fn]) ⟨by simp [f1], by simp [f8], by simp [hct], (hk3.H _ hsn).trans hG, hkp.trans hk3, by omega⟩
    · have e1 : ¬ (ends m.g.es v).length = 0 := fun e => h0 (e0.1 e)
      rw [if_neg (by simpa using h0)] at hct
      generalize (ends m.g.es v).length = el at *
      (repeat' (first | (refine awp_skip ?_; simp only [ak, reduceIte]) | (refine awp_cond ?_; simp [e1, f3]) | (refine e_go ?_; simp [e1, f3]; (refine hJ _ _ ?_; clear hJ J; simp only [ak, reduceIte]))))
      exact hJJ _ _ (by simp [fi]) (by simp [fn]) ⟨by simp [f1], by simp [f8], by simp [hct, f3], (hk3.H _ hsn).trans hG, hkp.trans hk3, by omega⟩
  rintro fr st2 ⟨f1, f8, f3, hG, hkp, hsn⟩
  rw [List.take_length] at f3
  have f3' : fr 3 = i (alone m.g) := f3
  clear f3
  (repeat' refine awp_seq ?_)
  (refine w_s [] [st.next] [(0, true), (1, true), (5, true), (7, true), (8, true), (9, true), (10, true), (12, true), (13, true), (14, true), (15, true), (17, true), (2, true), (3, true), (4, true), (6, true), (11, true), (16, true), (18, true), (19, true), (20, true), (21, true)] ?_; intro J hJ; simp [f1, f3', hG])
  refine dcallK_ofE (ref_Parts m.g _ h.g.toGood hv he) (by simp) ?_; rintro r s1 ⟨⟨t, R, rfl, hR⟩, hk1⟩
  have hn1 := hk1.next
  have hG1 := (hk1.H st.next (by omega)).trans hG
  refine ⟨fun _ => by simp [hG1, hG], ?_⟩
  have hRn := hR.all
  have hRl := hR.len
  generalize R.length = p at *
  generalize alone m.g = al at *
  have w1 : IntKind.i64.wrap (2 * (p : Int)) = 2 * p := wrap_i64 _ (by omega) (by omega)
  have w2 : IntKind.i64.wrap (2 * (p : Int) - al) = 2 * p - al := wrap_i64 _ (by omega) (by omega)
  have w3 : IntKind.i64.wrap (2 * (p : Int) - al - m.g.vs.length) = 2 * p - al - m.g.vs.length := wrap_i64 _ (by omega) (by omega)
  have w4 : IntKind.i64.wrap (2 * (p : Int) - al - m.g.vs.length + m.g.es.length) = 2 * p - al - m.g.vs.length + m.g.es.length := wrap_i64 _ (by omega) (by omega)
  (refine d_go ?_; simp [hG1, hG, f1, f3', w1, w2, w3, w4])
  refine dcallK_ofE (ref_Faces m h _ hv he) (by simp) ?_; rintro r s3 ⟨⟨t3, F, rfl, hF⟩, hk3⟩
  have hG3 := (hk3.H st.next (by omega)).trans hG1
  refine ⟨fun _ => by simp [hG3, hG1, hG], ?_⟩
  have hFn := hF.all hP
  have hFl := hF.len
  generalize F.length = f at *
  have w5 : IntKind.i64.wrap (2 * (p : Int) - al - m.g.vs.length + m.g.es.length - f) = 2 * (gn m : Int) := by rw [wrap_i64 _ (by omega) (by omega)]; omega
  (refine d_go ?_; simp [hG3, hG1, hG, w1, w2, w3, w4, w5, f1, f3']; (refine hJ _ _ ?_; clear hJ J; simp only [ak, reduceIte]))
  (repeat' (refine awp_ret ?_; simp only [ak, reduceIte]; simp []))
  exact (hkp.trans hk1).trans hk3

end Go.Proofs.YtjpnhjembncdkaaGreat.Aw

namespace Go.Proofs.YtjpnhjembncdkaaGreat.Aw
open Go Go.RowKit Go.Proofs.YtjpnhjembncdkaaGreat.Pl Go.Proofs.YtjpnhjembncdkaaGreat.Eu
set_option linter.unusedSimpArgs false
set_option linter.unusedVariables false

set_option maxHeartbeats 1000000 in
theorem ref_rCheck (m : Mp) (st : St) (hv : m.g.vs.length ≤ 1000) (he : m.g.es.length ≤ 1000) (hr : m.rots.length ≤ 1000) :
    ACalls Tryz.prog 48 [.ag (mpL m)] st fun r st' => r = i (rchk m) ∧ Keeps st st' := by
  refine acalls_of_body tabOk Tryz.func48 rfl rfl Tryz.ntmps48 (rs := [.tmp 2]) rfl (by simp) ?_
  (repeat' (first | refine awp_seq ?_ | (refine w_e [] ?_; intro J hJ; simp only []; simp []; (try (refine hJ _ _ ?_; clear hJ J; simp only [ak, reduceIte])))))
  refine callK_ofE (ref_Check m.g _ hv he) (by simp) ?_; rintro r s1 ⟨rfl, hk1⟩
  have hn1 := hk1.next
  simp only [new_next] at hn1
  have hG1 : s1.H st.next = .box 41 3 (mpL m) := by rw [hk1.H _ (by simp)]; simp
  have hK1 : Keeps st s1 := (Keeps.new _ _).trans hk1
  by_cases hc : chk m.g = 0
  rotate_left
  · have hrc := rchk_g hc
    generalize chk m.g = x at *
    (repeat' (first | refine awp_seq ?_ | (refine awp_ret ?_; simp only [ak, reduceIte]; simp [hc, hrc]) | (refine awp_cond ?_; simp [hc, hrc]) | ((first | (refine w_e [] ?_; intro J hJ; simp only []) | (refine e_go ?_)); simp [hc, hrc]; (refine hJ _ _ ?_; clear hJ J; simp only [ak, reduceIte]))))
    exact hK1
  have hgd := chk_goodE hc
  have hid : idOk m.g.es := fun x hx => by have := hgd.pos x hx; omega
  by_cases hl : m.rots.length = m.g.vs.length
  rotate_left
  · have hrc := rchk_len hc hl
    (repeat' (first | refine awp_seq ?_ | (refine awp_skip ?_; simp only [ak, reduceIte]) | (refine awp_ret ?_; simp only [ak, reduceIte]; simp [hc, hrc, hG1, hl]) | (refine awp_cond ?_; simp [hc, hrc, hG1, hl]; (try with_reducible refine ⟨?_, ?_⟩) <;> (try with_reducible intro hc) <;> try (exfalso; omega)) | ((first | (refine w_e [] ?_; intro J hJ; simp only []) | (refine e_go ?_)); simp [hc, hrc, hG1, hl]; (refine hJ _ _ ?_; clear hJ J; simp only [ak, reduceIte]))))
    exact hK1
  (repeat' (first | refine awp_seq ?_ | refine awp_block ?_ | (refine awp_skip ?_; simp only [ak, reduceIte]) | (refine awp_cond ?_; simp [hc, hG1, hl]) | ((first | (refine w_e [] ?_; intro J hJ; simp only []) | (refine e_go ?_)); simp [hc, hG1, hl]; (refine hJ _ _ ?_; clear hJ J; simp only [ak, reduceIte]))))
  refine awp_range 28 27 29 65 (m.g.vs.length) (fun j fr st2 => fr 1 = .pt st.next 0 ∧ fr 26 = .sl 0 m.g.vs.length (us m.g.vs) ∧ st2.H st.next = .box 41 3 (mpL m) ∧ Keeps st st2 ∧ st.next < st2.next ∧ ∀ k, k < j → rok m k) ?_ ?_ ?_
  · exact ⟨by simp, by simp, hG1, hK1, by omega, fun k hk => by omega⟩
  · rintro j0 fr st2 hlt ⟨f1, f26, hG, hkp, hsn, hok⟩ fi fn JJ hJJ
    have hd := us_drop_getD m.g.vs j0 hlt
    have hd2 := rowsL_drop m.rots j0 (by omega)
    have hRl : j0 < (rowsL m.rots).length := by simp; omega
    have htin : m.rots.getD j0 [] ∈ m.rots := by rw [getR_lt _ _ (by omega)]; exact List.getElem_mem _
    have hbad := fun h => rchk_bad hc hlt h
    have hnx : rok m j0 → ∀ k, k < j0 + 1 → rok m k := fun h k hk => by
      rcases Nat.lt_or_ge k j0 with h1 | h1
      · exact hok k h1
      · obtain rfl : k = j0 := by omega
        exact h
    have hok1 : rok m j0 ↔ (m.rots.getD j0 []).Perm (ends m.g.es (m.g.vs.getD j0 0)) ∧ nrm (m.rots.getD j0 []) = m.rots.getD j0 [] := Iff.rfl
    have hel : (ends m.g.es (m.g.vs.getD j0 0)).length ≤ 2 * m.g.es.length := flat_len _ (end1_len _) _
    have hrise := ends_rise hgd.ids (m.g.vs.getD j0 0)
    generalize rok m j0 = OK at *
    generalize m.rots.getD j0 [] = t at *
    generalize m.g.vs.getD j0 0 = v at *
    (repeat' (first | refine awp_seq ?_ | (refine w_e [] ?_; intro J hJ; simp only []; simp [f1, f26, fi, fn, hd, hlt, hG, hd2, hRl, hl]; (try (refine hJ _ _ ?_; clear hJ J; simp only [ak, reduceIte])))))
    refine callK_ofE (ref_Ends m.g v _ he hid) (by simp) ?_; rintro r s3 ⟨⟨te, rfl⟩, hk3⟩
    have hn3 := hk3.next
    have hG3 := (hk3.H st.next (by omega)).trans hG
    have hK3 := hkp.trans hk3
    generalize ends m.g.es v = E at *
    by_cases h1 : t.length = E.length
    rotate_left
    · have hrc := hbad fun h => h1 (hok1.1 h).1.length_eq
      have h1b : ((t.length : Int) != (E.length : Int)) = true := by simp; omega
      (repeat' (first | refine awp_seq ?_ | (refine awp_ret ?_; simp only [ak, reduceIte]; simp [h1b, h1, hrc]) | (refine awp_cond ?_; simp [h1b, h1, hrc]) | ((first | (refine w_e [] ?_; intro J hJ; simp only []) | (refine e_go ?_)); simp [h1b, h1, hrc]; (refine hJ _ _ ?_; clear hJ J; simp only [ak, reduceIte]))))
      exact hK3
    (repeat' (first | refine awp_seq ?_ | ((first | (refine w_e [] ?_; intro J hJ; simp only []) | (refine e_go ?_)); simp [h1]; (try (refine hJ _ _ ?_; clear hJ J; simp only [ak, reduceIte])))))
    refine callK_ofE (ref_Normal t 0 _ (by unfold small; omega)) (by simp [h1]) ?_; rintro r s4 ⟨rfl, hk4⟩
    have hn4 := hk4.next
    have hG4 := (hk4.H st.next (by omega)).trans hG3
    have hK4 := hK3.trans hk4
    have hnl := nrm_length t
    (repeat' (refine e_go ?_; simp []))
    refine callK_ofE (ref_Same t (nrm t) 0 0 _ (by unfold small; omega)) (by simp [h1, hnl]) ?_; rintro r s5 ⟨rfl, rfl⟩
    by_cases h2 : t = nrm t
    rotate_left
    · have hrc := hbad fun h => h2 (hok1.1 h).2.symm
      (repeat' (first | refine awp_seq ?_ | (refine awp_ret ?_; simp only [ak, reduceIte]; simp [h2, hrc]) | (refine awp_cond ?_; simp [h2, hrc]) | ((first | (refine w_e [] ?_; intro J hJ; simp only []) | (refine e_go ?_)); simp [h2, hrc]; (refine hJ _ _ ?_; clear hJ J; simp only [ak, reduceIte]))))
      exact hK4
    have h2' : decide (t = nrm t) = true := by simpa using h2
    rw [h2']
    (repeat' (first | refine awp_seq ?_ | refine awp_block ?_ | (refine awp_skip ?_; simp only [ak, reduceIte]) | (refine awp_cond ?_; simp []) | ((first | (refine w_e [] ?_; intro J hJ; simp only []) | (refine e_go ?_)); simp []; (refine hJ _ _ ?_; clear hJ J; simp only [ak, reduceIte]))))
    refine awp_range 56 55 57 64 (E.length) (fun j fr st2 => fr 1 = .pt st.next 0 ∧ fr 26 = .sl 0 m.g.vs.length (us m.g.vs) ∧ fr 28 = i j0 ∧ fr 27 = i m.g.vs.length ∧ fr 6 = .sl 0 t.length (us t) ∧ fr 54 = .sl te E.length (us E) ∧ st2 = s5 ∧ ∀ k, k < j → E.getD k 0 ∈ t) ?_ ?_ ?_
    · exact ⟨by simp [f1], by simp [f26], by simp [fi], by simp [fn], by simp [h1], by simp, rfl, fun k hk => by omega⟩
    · clear f1 f26 fi fn fr
      rintro k fr st6 hk ⟨f1, f26, f28, f27, f6, f54, rfl, hall⟩ fi fn J2 hJ2
      have hd3 := us_drop_getD E k hk
      have hin : E.getD k 0 ∈ E := by rw [getD_lt _ _ hk]; exact List.getElem_mem _
      generalize hx : E.getD k 0 = x at *
      (repeat' (first | refine awp_seq ?_ | (refine w_e [] ?_; intro J hJ; simp only []; simp [f54, f6, fi, fn, hd3, hk]; (try (refine hJ _ _ ?_; clear hJ J; simp only [ak, reduceIte])))))
      refine callK_ofE (Find t 0 x _ (by unfold small; omega)) (by simp [h1]) ?_; rintro r s7 ⟨rfl, rfl⟩
      by_cases hxt : x ∈ t
      · have hg := gi_mem hxt
        (repeat' (first | (refine awp_skip ?_; simp only [ak, reduceIte]) | (refine awp_cond ?_; simp [hg]; (try with_reducible refine ⟨?_, ?_⟩) <;> (try with_reducible intro hc) <;> try (exfalso; omega)) | (refine e_go ?_; simp [hg]; (refine hJ _ _ ?_; clear hJ J; simp only [ak, reduceIte]))))
        refine hJ2 _ _ (by simp [fi]) (by simp [fn]) ⟨by simp [f1], by simp [f26], by simp [f28], by simp [f27], by simp [f6], by simp [f54], rfl, fun q hq => ?_⟩
        rcases Nat.lt_or_ge q k with h3 | h3
        · exact hall q h3
        · obtain rfl : q = k := by omega
          rw [hx]; exact hxt
      · have hg := gi_not hxt
        have hrc := hbad fun h => hxt ((hok1.1 h).1.mem_iff.2 hin)
        (repeat' (first | refine awp_seq ?_ | (refine awp_ret ?_; simp only [ak, reduceIte]; simp [hg, hrc]) | (refine awp_cond ?_; simp [hg, hrc]) | ((first | (refine w_e [] ?_; intro J hJ; simp only []) | (refine e_go ?_)); simp [hg, hrc]; (refine hJ _ _ ?_; clear hJ J; simp only [ak, reduceIte]))))
        exact hK4
    · clear f1 f26 fi fn fr
      rintro fr st6 ⟨f1, f26, f28, f27, f6, f54, rfl, hall⟩
      skip
      refine hJJ _ _ (by simp [f28]) (by simp [f27]) ⟨by simp [f1], by simp [f26], hG4, hK4, by omega, hnx (hok1.2 ⟨?_, h2.symm⟩)⟩
      refine (perm_of_sub (rise_nodup hrise) (fun x hx => ?_) (by omega)).symm
      obtain ⟨q, hq, rfl⟩ := List.getElem_of_mem hx
      have := hall q hq
      rwa [getD_lt _ _ hq] at this
  · rintro fr st2 ⟨f1, f26, hG, hkp, hsn, hok⟩
    have hrc := rchk_ok hc hl hok
    (repeat' (first | refine awp_seq ?_ | (refine awp_ret ?_; simp only [ak, reduceIte]; simp [hrc]) | (refine w_e [] ?_; intro J hJ; simp only []; simp [hrc]; (refine hJ _ _ ?_; clear hJ J; simp only [ak, reduceIte]))))
    exact hkp

/-- What Right answers. -/
noncomputable def rright (m : Mp) : Int := if rchk m ≠ 0 then rchk m else if gn m ≠ 0 then 23 else 0

theorem ref_rRight (m : Mp) (st : St) (hv : m.g.vs.length ≤ 1000) (he : m.g.es.length ≤ 1000) (hr : m.rots.length ≤ 1000) :
    ACalls Tryz.prog 22 [.ag (mpL m)] st fun r st' => r = i (rright m) ∧ Keeps st st' := by
  refine acalls_of_body tabOk Tryz.func22 rfl rfl Tryz.ntmps22 (rs := [.tmp 2]) rfl (by simp) ?_
  (repeat' (first | refine awp_seq ?_ | (refine w_e [] ?_; intro J hJ; simp only []; simp []; (try (refine hJ _ _ ?_; clear hJ J; simp only [ak, reduceIte])))))
  refine callK_ofE (ref_rCheck m _ hv he hr) (by simp) ?_; rintro r s1 ⟨rfl, hk1⟩
  have hn1 := hk1.next
  simp only [new_next] at hn1
  have hG1 : s1.H st.next = .box 41 3 (mpL m) := by rw [hk1.H _ (by simp)]; simp
  have hK1 : Keeps st s1 := (Keeps.new _ _).trans hk1
  by_cases hc : rchk m = 0
  rotate_left
  · have hrc : rright m = rchk m := by unfold rright; rw [if_pos hc]
    generalize rchk m = x at *
    have hcb : (x == 0) = false := by simpa using hc
    (repeat' (first | refine awp_seq ?_ | (refine awp_skip ?_; simp only [ak, reduceIte]) | (refine awp_ret ?_; simp only [ak, reduceIte]; simp [hcb, hc, hrc]) | (refine awp_cond ?_; simp [hcb, hc, hrc]) | ((first | (refine w_e [] ?_; intro J hJ; simp only []) | (refine e_go ?_)); simp [hcb, hc, hrc]; (refine hJ _ _ ?_; clear hJ J; simp only [ak, reduceIte]))))
    exact hK1
  (repeat' (first | refine awp_seq ?_ | ((first | (refine w_e [] ?_; intro J hJ; simp only []) | (refine e_go ?_)); simp [hc, hG1]; (try (refine hJ _ _ ?_; clear hJ J; simp only [ak, reduceIte])))))
  refine callK_ofE (Twice m (rchk_zero hc).2 _ hv he) (by simp) ?_; rintro r s2 ⟨rfl, hk2⟩
  by_cases hg : gn m = 0
  · have hrc : rright m = 0 := by unfold rright; rw [if_neg (fun e => e hc), if_neg (fun e => e hg)]
    (repeat' (first | refine awp_seq ?_ | (refine awp_skip ?_; simp only [ak, reduceIte]) | (refine awp_ret ?_; simp only [ak, reduceIte]; simp [hg, hrc]) | (refine awp_cond ?_; simp [hg, hrc]) | ((first | (refine w_e [] ?_; intro J hJ; simp only []) | (refine e_go ?_)); simp [hg, hrc]; (refine hJ _ _ ?_; clear hJ J; simp only [ak, reduceIte]))))
    exact hK1.trans hk2
  · have hrc : rright m = 23 := by unfold rright; rw [if_neg (fun e => e hc), if_pos hg]
    generalize gn m = x at *
    have hx2 : ¬ (2 * (x : Int) = 0) := by omega
    (repeat' (first | refine awp_seq ?_ | (refine awp_ret ?_; simp only [ak, reduceIte]; simp [hx2, hg, hrc]) | (refine awp_cond ?_; simp [hx2, hg, hrc]) | ((first | (refine w_e [] ?_; intro J hJ; simp only []) | (refine e_go ?_)); simp [hx2, hg, hrc]; (refine hJ _ _ ?_; clear hJ J; simp only [ak, reduceIte]))))
    exact hK1.trans hk2

end Go.Proofs.YtjpnhjembncdkaaGreat.Aw

namespace Go.Proofs.YtjpnhjembncdkaaGreat.Aw
open Go Go.RowKit Go.Proofs.YtjpnhjembncdkaaGreat.Pl Go.Proofs.YtjpnhjembncdkaaGreat.Eu
set_option linter.unusedSimpArgs false
set_option linter.unusedVariables false

theorem chk_smallC {m : Mp} (h : rchk m = 0) : m.g.vs.length ≤ 64 := by
  obtain ⟨_, _, h3, _⟩ := chk_good (rchk_zero h).1
  exact h3
theorem ref_rCheckC (m : Mp) (st : St) (hr : m.rots.length ≤ 1000) (he : m.g.es.length ≤ 1000) : ACalls Tryz.prog 48 [.ag (mpL m)] st fun r st' => r = i (rchk m) ∧ Keeps st st' := by
  by_cases hv : m.g.vs.length ≤ 1000
  · exact ref_rCheck m st hv he hr
  · have hc : chk m.g = 6 := by unfold chk; rw [if_pos (by omega)]
    have hrc : rchk m = 6 := by rw [rchk_g (by rw [hc]; decide), hc]
    refine acalls_of_body tabOk Tryz.func48 rfl rfl Tryz.ntmps48 (rs := [.tmp 2]) rfl (by simp) ?_
    (repeat' (first | refine awp_seq ?_ | (refine w_e [] ?_; intro J hJ; simp only []; simp []; (try (refine hJ _ _ ?_; clear hJ J; simp only [ak, reduceIte])))))
    refine callK_ofE (ref_Chk m.g _) (by simp) ?_; rintro r s1 ⟨rfl, hk1⟩
    rw [hc]
    (repeat' (first | refine awp_seq ?_ | (refine awp_ret ?_; simp only [ak, reduceIte]; simp [hrc]) | (refine awp_cond ?_; simp [hrc]) | ((first | (refine w_e [] ?_; intro J hJ; simp only []) | (refine e_go ?_)); simp [hrc]; (refine hJ _ _ ?_; clear hJ J; simp only [ak, reduceIte]))))
    exact (Keeps.new _ _).trans hk1
noncomputable def lit33 (m : Mp) : Bool := decide (m.g.es.length ≤ 16) && decide (m.rots.length ≤ 40) && decide (rchk m = 0)
/-- The ends of some vertices. -/
def endsL (es : List Ed) (c : List Int) : List Int := c.flatMap (ends es)
theorem endsL_nodup {es : List Ed} (hi : es.Pairwise fun x y => x.id < y.id) : ∀ {c : List Int}, c.Nodup → (endsL es c).Nodup
  | [], _ => by simp [endsL]
  | v :: c, h => by
    rw [List.nodup_cons] at h
    have ih := endsL_nodup hi h.2
    unfold endsL at ih ⊢
    rw [List.flatMap_cons, List.nodup_append]
    refine ⟨rise_nodup (ends_rise hi v), ih, fun a ha b hb e => ?_⟩
    subst e
    obtain ⟨w, hw, h1⟩ := List.mem_flatMap.1 hb
    exact h.1 (at_unique hi ha h1 ▸ hw)
theorem IsWk.perm {m : Mp} (ho : MapOk m) {h : Int} {D c : List Int} (w : IsWk m.g.es h D) (hh : h ∈ m.g.vs) (hc : IsPart m.g h c) : D.Perm (endsL m.g.es c) ∧ (wV m.g.es h D).Perm c := by
  have hcn : c.Nodup := hc.1.imp fun h => by omega
  have hV : ∀ v, v ∈ wV m.g.es h D ↔ v ∈ c := fun v => by
    rw [w.verts, hc.2]
    exact ⟨fun hr => ⟨ho.g.toGood.reach hh hr, hr⟩, fun hr => hr.2⟩
  constructor
  · refine (List.perm_ext_iff_of_nodup w.nd (endsL_nodup ho.g.ids hcn)).2 fun x => ?_
    rw [w.all]
    unfold endsL
    rw [List.mem_flatMap]
    exact ⟨fun ⟨v, hv, h1⟩ => ⟨v, (hV v).1 hv, h1⟩, fun ⟨v, hv, h1⟩ => ⟨v, (hV v).2 hv, h1⟩⟩
  · exact (List.perm_ext_iff_of_nodup (nms_nodup _ (by simp)) hcn).2 hV
theorem IsWk.half {m : Mp} (ho : MapOk m) {h : Int} {D : List Int} (w : IsWk m.g.es h D) : D.length = 2 * (eN D).length := by
  have := twice_len (w.twice ho.g.ids)
  rwa [List.length_map] at this

end Go.Proofs.YtjpnhjembncdkaaGreat.Aw

namespace Go.Proofs.YtjpnhjembncdkaaGreat.Aw
open Go Go.RowKit Go.Proofs.YtjpnhjembncdkaaGreat.Pl Go.Proofs.YtjpnhjembncdkaaGreat.Eu
set_option linter.unusedSimpArgs false
set_option linter.unusedVariables false

/-- The least walk of some vertices' darts; 0 of none. -/
noncomputable def keyW (m : Mp) (c : List Int) : List Int := match ((endsL m.g.es c).map (walkL m)).foldl lea none with
  | none => [0]
  | some b => b
def bestV : Option (List Int) → LV
  | none => .nil
  | some b => .sl 0 b.length (us b)
def BOk (m : Mp) (b : Option (List Int)) : Prop := ∀ l, b = some l → 0 < l.length ∧ l.length ≤ 4 * m.g.es.length
theorem BOk.lea {m : Mp} {b : Option (List Int)} (h : BOk m b) {l : List Int} (hl : 0 < l.length ∧ l.length ≤ 4 * m.g.es.length) : BOk m (Aw.lea b l) := by
  intro x hx
  cases b with
  | none => simp only [Aw.lea, Option.some.injEq] at hx; subst hx; exact hl
  | some b =>
    simp only [Aw.lea] at hx
    split at hx
    · simp only [Option.some.injEq] at hx; subst hx; exact hl
    · simp only [Option.some.injEq] at hx; subst hx; exact h _ rfl

end Go.Proofs.YtjpnhjembncdkaaGreat.Aw

namespace Go.Proofs.YtjpnhjembncdkaaGreat.Aw
open Go Go.RowKit Go.Proofs.YtjpnhjembncdkaaGreat.Pl Go.Proofs.YtjpnhjembncdkaaGreat.Eu
set_option linter.unusedSimpArgs false
set_option linter.unusedVariables false

/-- A map's code: its parts' keys in order, each with its length, and how many there are. -/
def IsCode (m : Mp) (c : List Int) : Prop := ∃ P S : List (List Int), PartsTo m.g m.g.vs.length P ∧ S.Perm (P.map fun x => withLen (keyW m x)) ∧ S.Pairwise Lle ∧ c = (S.length : Int) :: S.flatten

abbrev tabN (T : List (List Int)) (x : Int) : Nat := (T.getD x.toNat []).length
abbrev tabC (T : List (List Int)) (x : Int) : List LV := us (T.getD x.toNat [])
/-- The rows by their labels. -/
def unlab (T : List (List Int)) (c : List Int) : List (List Int) := c.map fun x => T.getD x.toNat []
end Go.Proofs.YtjpnhjembncdkaaGreat.Aw

namespace Go.Proofs.YtjpnhjembncdkaaGreat.Aw
open Go Go.RowKit Go.Proofs.YtjpnhjembncdkaaGreat.Pl Go.Proofs.YtjpnhjembncdkaaGreat.Eu
set_option linter.unusedSimpArgs false
set_option linter.unusedVariables false

def LaidTo (a b : Mp) (x y : Int) : Prop := ∃ P φ, Iso a b P φ ∧ P x ∧ φ x = y
theorem IsPart.at {g : Gr} {v w : Int} {c : List Int} (h : IsPart g v c) (hw : w ∈ c) : IsPart g w c := by
  have hr := ((h.2 w).1 hw).2
  exact ⟨h.1, fun u => by rw [h.2]; exact ⟨fun ⟨h1, h2⟩ => ⟨h1, hr.symm.trans h2⟩, fun ⟨h1, h2⟩ => ⟨h1, hr.trans h2⟩⟩⟩
/-- A part's walk, from any of its darts on. -/
theorem part_walk {m : Mp} (ho : MapOk m) {v : Int} {c : List Int} (hc : IsPart m.g v c) {d : Int} (hd : d ∈ endsL m.g.es c) : d ∈ darts m.g.es ∧ hom m.g.es d ∈ c ∧ ∃ D, WEnd m (hom m.g.es d) d D ∧ D.Perm (endsL m.g.es c) ∧ (wV m.g.es (hom m.g.es d) D).Perm c ∧ walkL m d = tel m (hom m.g.es d) D := by
  obtain ⟨w, hw, h1⟩ := List.mem_flatMap.1 hd
  have hdd := ends_dart h1
  have hh := hom_of ho.g.ids h1
  obtain ⟨D, hD⟩ := WSt.fin ho (dart_ends ho.g.ids hdd).1 (hom_vs ho hdd)
  have hwk := hD.isWk ho (dart_ends ho.g.ids hdd).1
  obtain ⟨k1, k2⟩ := hwk.perm ho (hom_vs ho hdd) (by rw [hh]; exact hc.at hw)
  exact ⟨hdd, by rw [hh]; exact hw, D, hD, k1, k2, walkL_eq (.inr ⟨hdd, D, hD, rfl⟩)⟩
section
variable {a b : Mp} (ha : MapOk a) (hb : MapOk b)
include ha hb
def PartEq (a b : Mp) (x y : List Int) : Prop := x.length = y.length ∧ (endsL a.g.es x).length = (endsL b.g.es y).length ∧ (endsL a.g.es x = [] ∨ ∃ d ∈ endsL b.g.es y, LaidTo a b ((endsL a.g.es x).getD 0 0) d)
end

end Go.Proofs.YtjpnhjembncdkaaGreat.Aw

namespace Go.Proofs.YtjpnhjembncdkaaGreat.Aw
open Go Go.RowKit Go.Proofs.YtjpnhjembncdkaaGreat.Pl Go.Proofs.YtjpnhjembncdkaaGreat.Eu
set_option linter.unusedSimpArgs false
set_option linter.unusedVariables false

/-- Darts laid on darts so far. -/
structure LaI (a b : Mp) (x y : Int) (F T : List Int) : Prop where
  len : F.length = T.length
  nd : F.Nodup
  nd' : T.Nodup
  dart : ∀ z ∈ F, z ∈ darts a.g.es ∧ Reach a.g.es (hom a.g.es x) (hom a.g.es z)
  dart' : ∀ z ∈ T, z ∈ darts b.g.es
  head : F.getD 0 0 = x ∧ T.getD 0 0 = y ∧ 0 < F.length
  uni : ∀ P φ, Iso a b P φ → P x → φ x = y → (∀ z ∈ F, P z) ∧ T = F.map φ
/-- A pair of darts stands at one place. -/
def At2 (F T : List Int) (w w' : Int) : Prop := ∃ i, i < F.length ∧ F.getD i 0 = w ∧ T.getD i 0 = w'
def LaC (a b : Mp) (F T : List Int) (k : Nat) : Prop := ∀ j, j < k → j < F.length → At2 F T (tw (F.getD j 0)) (tw (T.getD j 0)) ∧ At2 F T (sg a (F.getD j 0)) (sg b (T.getD j 0))
theorem LaI.start {a b : Mp} {x y : Int} (hx : x ∈ darts a.g.es) (hy : y ∈ darts b.g.es) : LaI a b x y [x] [y] := by
  refine ⟨rfl, by simp, by simp, fun z hz => ?_, fun z hz => ?_, ⟨rfl, rfl, by simp⟩, fun P φ hI hP hφ => ⟨?_, by simp [hφ]⟩⟩
  · rw [List.mem_singleton] at hz; subst hz; exact ⟨hx, .refl⟩
  · rw [List.mem_singleton] at hz; subst hz; exact hy
  · intro z hz; rw [List.mem_singleton] at hz; subst hz; exact hP
theorem LaI.le {a b : Mp} {x y : Int} {F T : List Int} (h : LaI a b x y F T) : F.length ≤ 2 * a.g.es.length := by
  rw [← darts_length]
  exact List.Nodup.length_le_of_subset h.nd fun z hz => (h.dart z hz).1
/-- The pair that comes next: what is found of it tells whether it may be laid. -/
structure Nxt2 (a b : Mp) (x y : Int) (w w' : Int) : Prop where
  dart : w ∈ darts a.g.es ∧ Reach a.g.es (hom a.g.es x) (hom a.g.es w)
  dart' : w' ∈ darts b.g.es
  uni : ∀ P φ, Iso a b P φ → P x → φ x = y → P w ∧ φ w = w'
theorem LaI.add {a b : Mp} {x y : Int} {F T : List Int} (h : LaI a b x y F T) {w w' : Int} (hn : Nxt2 a b x y w w') (hw : w ∉ F) (hw' : w' ∉ T) : LaI a b x y (F ++ [w]) (T ++ [w']) := by
  have hsnoc : ∀ {L : List Int} {z : Int}, L.Nodup → z ∉ L → (L ++ [z]).Nodup := fun {L z} hL hz => by
    rw [List.nodup_append]
    refine ⟨hL, by simp, fun p hp q hq e => ?_⟩
    rw [List.mem_singleton] at hq; subst hq; subst e; exact hz hp
  refine ⟨by simp [h.len], hsnoc h.nd hw, hsnoc h.nd' hw', fun z hz => ?_, fun z hz => ?_, ?_, fun P φ hI hP hφ => ?_⟩
  · rcases List.mem_append.1 hz with hz | hz
    · exact h.dart z hz
    · rw [List.mem_singleton] at hz; subst hz; exact hn.dart
  · rcases List.mem_append.1 hz with hz | hz
    · exact h.dart' z hz
    · rw [List.mem_singleton] at hz; subst hz; exact hn.dart'
  · obtain ⟨h1, h2, h3⟩ := h.head
    exact ⟨by rw [getD_app_lt _ _ h3, h1], by rw [getD_app_lt _ _ (by rw [← h.len]; exact h3), h2], by rw [List.length_append]; omega⟩
  · obtain ⟨h1, h2⟩ := h.uni P φ hI hP hφ
    obtain ⟨h3, h4⟩ := hn.uni P φ hI hP hφ
    refine ⟨fun z hz => ?_, by rw [List.map_append, ← h2]; simp [h4]⟩
    rcases List.mem_append.1 hz with hz | hz
    · exact h1 z hz
    · rw [List.mem_singleton] at hz; subst hz; exact h3
theorem LaI.nxt {a b : Mp} (ha : MapOk a) (hb : MapOk b) {x y : Int} {F T : List Int} (h : LaI a b x y F T) {j : Nat} (hj : j < F.length) :
    Nxt2 a b x y (tw (F.getD j 0)) (tw (T.getD j 0)) ∧ Nxt2 a b x y (sg a (F.getD j 0)) (sg b (T.getD j 0)) := by
  have hz := h.dart _ (getD_mem hj)
  have hj' : j < T.length := by rw [← h.len]; exact hj
  have hz' := h.dart' _ (getD_mem hj')
  have hTj : ∀ P φ, Iso a b P φ → P x → φ x = y → P (F.getD j 0) ∧ T.getD j 0 = φ (F.getD j 0) := fun P φ hI hP hφ => by
    obtain ⟨h1, h2⟩ := h.uni P φ hI hP hφ
    exact ⟨h1 _ (getD_mem hj), by rw [h2, getD_map _ _ hj]⟩
  refine ⟨⟨⟨tw_dart.2 hz.1, ?_⟩, tw_dart.2 hz', fun P φ hI hP hφ => ?_⟩, ⟨⟨ha.sg_dart hz.1, ?_⟩, hb.sg_dart hz', fun P φ hI hP hφ => ?_⟩⟩
  · rw [hom_tw ha.g.ids hz.1]
    exact hz.2.step (dart_ends ha.g.ids hz.1).2.2
  · obtain ⟨k1, k2⟩ := hTj P φ hI hP hφ
    rw [k2]
    exact hI.tw _ k1
  · have : hom a.g.es (sg a (F.getD j 0)) = hom a.g.es (F.getD j 0) := hom_of ha.g.ids (ha.sg_at_v (dart_ends ha.g.ids hz.1).1)
    rw [this]; exact hz.2
  · obtain ⟨k1, k2⟩ := hTj P φ hI hP hφ
    rw [k2]
    exact hI.sg _ k1
/-- All is laid. -/
theorem LaI.done {a b : Mp} (ha : MapOk a) {x y : Int} {F T : List Int} (h : LaI a b x y F T) (hC : LaC a b F T F.length) : LaidTo a b x y ∧ ∀ {v : Int} {c : List Int}, IsPart a.g v c → x ∈ endsL a.g.es c → F.length = (endsL a.g.es c).length := by
  have hφ : ∀ i, i < F.length → T.getD (F.idxOf (F.getD i 0)) 0 = T.getD i 0 := fun i hi => by
    obtain ⟨h1, h2⟩ := idx_lt (getD_mem hi)
    rw [nodup_idx h.nd h1 hi h2]
  have hat : ∀ {w w' : Int}, At2 F T w w' → w ∈ F ∧ T.getD (F.idxOf w) 0 = w' := fun {w w'} ⟨i, h1, h2, h3⟩ => by
    subst h2
    exact ⟨getD_mem h1, by rw [hφ i h1, h3]⟩
  have hIso : Iso a b (fun z => z ∈ F) (fun z => T.getD (F.idxOf z) 0) := by
    refine ⟨fun z hz => (h.dart z hz).1, fun z hz => ?_, fun z z' hz hz' e => ?_, fun z hz => ?_, fun z hz => ?_⟩
    · exact h.dart' _ (getD_mem (by rw [← h.len]; exact (idx_lt hz).1))
    · obtain ⟨h1, h2⟩ := idx_lt hz
      obtain ⟨h3, h4⟩ := idx_lt hz'
      rw [← h2, ← h4, nodup_idx h.nd' (by rw [← h.len]; exact h1) (by rw [← h.len]; exact h3) e]
    · obtain ⟨h1, h2⟩ := idx_lt hz
      have := hat (hC _ h1 h1).1
      rw [h2] at this
      exact this
    · obtain ⟨h1, h2⟩ := idx_lt hz
      have := hat (hC _ h1 h1).2
      rw [h2] at this
      exact this
  obtain ⟨h1, h2, h3⟩ := h.head
  have hxF : x ∈ F := by rw [← h1]; exact getD_mem h3
  refine ⟨⟨_, _, hIso, hxF, ?_⟩, fun {v c} hc hxc => ?_⟩
  · have := hφ 0 h3
    rw [h1, h2] at this
    exact this
  · obtain ⟨k1, k2, D, hD, q1, _, _⟩ := part_walk ha hc hxc
    have hwk := hD.isWk ha (dart_ends ha.g.ids k1).1
    refine List.Perm.length_eq (((List.perm_ext_iff_of_nodup h.nd hwk.nd).2 fun z => ⟨fun hz => ?_, fun hz => ?_⟩).trans q1)
    · obtain ⟨z1, z2⟩ := h.dart z hz
      exact (hwk.all z).2 ⟨hom a.g.es z, (hwk.verts _).2 z2, (dart_ends ha.g.ids z1).1⟩
    · have : ∀ {k : Nat} {E G : List Int}, WSt a (hom a.g.es x) x k E G → (∀ z ∈ E, z ∈ F) ∧ ∀ z ∈ G, z ∈ F := by
        intro k E G s
        induction s with
        | start => exact ⟨by simpa using hxF, by simp⟩
        | turn s hk ih =>
          rename_i k E G
          have hE := ih.1 _ (getD_mem hk)
          have htr : ∀ z ∈ trn a (E.getD k 0), z ∈ F := fun z hz => by
            obtain ⟨p, hp, hL, _⟩ := trn_cyc ha (h.dart _ hE).1
            rw [hL] at hz
            obtain ⟨n, hn, rfl⟩ := List.mem_map.1 hz
            clear hz hL hn
            induction n with
            | zero => exact hE
            | succ n ihn => rw [it_succ]; exact (hIso.sg _ ihn).1
          have hfs : ∀ (r E G : List Int), (∀ z ∈ r, z ∈ F) → (∀ z ∈ E, z ∈ F) → ∀ z ∈ wFs a.g.es (hom a.g.es x) E G r, z ∈ F := by
            intro r
            induction r with
            | nil => intro E G _ hE z hz; exact hE z hz
            | cons y r ihr =>
              intro E G hr hE z hz
              refine ihr _ _ (fun z hz => hr z (List.mem_cons_of_mem _ hz)) (fun z hz => ?_) z hz
              unfold wF at hz
              split at hz
              · exact hE z hz
              · rcases List.mem_append.1 hz with hz | hz
                · exact hE z hz
                · rw [List.mem_singleton] at hz; subst hz; exact (hIso.tw _ (hr y (by simp))).1
          refine ⟨hfs _ _ _ htr ih.1, fun z hz => ?_⟩
          rcases List.mem_append.1 hz with hz | hz
          · exact ih.2 z hz
          · exact htr z hz
      obtain ⟨k, E, s, _⟩ := hD
      exact (this s).2 z hz

end Go.Proofs.YtjpnhjembncdkaaGreat.Aw

namespace Go.Proofs.YtjpnhjembncdkaaGreat.Aw
open Go Go.RowKit Go.Proofs.YtjpnhjembncdkaaGreat.Pl Go.Proofs.YtjpnhjembncdkaaGreat.Eu
set_option linter.unusedSimpArgs false
set_option linter.unusedVariables false

def LaidR (a b : Mp) (x y : Int) (r : LV) : Prop := ∃ (n : Nat) (ok : Bool), r = .tu [i n, bb ok] ∧ (ok = true ↔ LaidTo a b x y) ∧ (ok = true → ∀ v c, IsPart a.g v c → x ∈ endsL a.g.es c → n = (endsL a.g.es c).length)
/-- What is laid, in memory. -/
structure LaM (a b : Mp) (x y : Int) (st : St) (F T : List Int) (fr : Frm) (s : St) : Prop where
  la : LaI a b x y F T
  f4 : fr 4 = .pt st.next 0
  f5 : fr 5 = .pt (st.next + 1) 0
  mem : ∃ tF tT, fr 10 = .sl tF F.length (us F) ∧ fr 11 = .sl tT T.length (us T) ∧ s.H tF = .own 32 1 F.length ∧ s.H tT = .own 32 1 T.length ∧ tF ≠ tT ∧ (st.next + 2 ≤ tF ∧ st.next + 2 ≤ tT) ∧ (tF < s.next ∧ tT < s.next)
  ga : s.H st.next = .box 41 3 (mpL a)
  gb : s.H (st.next + 1) = .box 41 3 (mpL b)
  kp : Keeps st s

end Go.Proofs.YtjpnhjembncdkaaGreat.Aw

namespace Go.Proofs.YtjpnhjembncdkaaGreat.Aw
open Go Go.RowKit Go.Proofs.YtjpnhjembncdkaaGreat.Pl Go.Proofs.YtjpnhjembncdkaaGreat.Eu
set_option linter.unusedSimpArgs false
set_option linter.unusedVariables false

end Go.Proofs.YtjpnhjembncdkaaGreat.Aw

namespace Go.Proofs.YtjpnhjembncdkaaGreat.Aw
open Go Go.RowKit Go.Proofs.YtjpnhjembncdkaaGreat.Pl Go.Proofs.YtjpnhjembncdkaaGreat.Eu
set_option linter.unusedSimpArgs false
set_option linter.unusedVariables false

def sel : List (List Int) → List Bool → List (List Int)
  | x :: l, true :: t => x :: sel l t
  | _ :: l, false :: t => sel l t
  | _, _ => []
theorem sel_sub (l : List (List Int)) (t : List Bool) : (sel l t).Sublist l := by
  induction l generalizing t with
  | nil => cases t <;> exact List.nil_sublist _
  | cons x l ih =>
    match t with
    | [] => exact List.nil_sublist _
    | true :: t => exact (ih t).cons_cons _
    | false :: t => exact (ih t).cons _
theorem sel_set (l : List (List Int)) (t : List Bool) (k : Nat) (hk : k < l.length) (hl : t.length = l.length) (ht : t.getD k true = false) : (sel l (t.set k true)).Perm (l.getD k [] :: sel l t) := by
  induction l generalizing t k with
  | nil => simp at hk
  | cons x l ih =>
    match t, k with
    | [], _ => simp at hl
    | b :: t, 0 =>
      have hb : b = false := by simpa using ht
      subst hb
      exact .refl _
    | true :: t, k + 1 =>
      have := ih t k (by simpa using hk) (by simpa using hl) (by simpa using ht)
      exact (this.cons x).trans (.swap _ _ _)
    | false :: t, k + 1 => exact ih t k (by simpa using hk) (by simpa using hl) (by simpa using ht)
theorem sel_count (l : List (List Int)) (t : List Bool) (x : List Int) (hl : t.length = l.length) (h : ∀ k, k < l.length → t.getD k true = false → l.getD k [] ≠ x) : l.count x ≤ (sel l t).count x := by
  induction l generalizing t with
  | nil => simp
  | cons y l ih =>
    match t with
    | [] => simp at hl
    | true :: t =>
      have := ih t (by simpa using hl) fun k hk h1 => h (k + 1) (by simpa using hk) (by simpa using h1)
      rw [sel, List.count_cons, List.count_cons]; omega
    | false :: t =>
      have := ih t (by simpa using hl) fun k hk h1 => h (k + 1) (by simpa using hk) (by simpa using h1)
      have h0 : y ≠ x := h 0 (by simp) rfl
      rw [sel, List.count_cons, if_neg (by simpa using h0)]; exact this
/-- After the first j parts are paired; with the next one paired (done), or no partner below k. -/
def PkI (KA KB : List (List Int)) (j k : Nat) (dn : Bool) (tk : List Bool) : Prop :=
  tk.length = KB.length ∧ (dn = true → (KA.take (j + 1)).Perm (sel KB tk)) ∧ (dn = false → (KA.take j).Perm (sel KB tk) ∧ ∀ i, i < k → tk.getD i true = false → KB.getD i [] ≠ KA.getD j [])
theorem take_one {KA : List (List Int)} {j : Nat} (hj : j < KA.length) : KA.take (j + 1) = KA.take j ++ [KA.getD j []] := by
  rw [List.take_succ_eq_append_getElem hj, List.getD_eq_getElem?_getD, List.getElem?_eq_getElem hj]; rfl
theorem PkI.none {KA KB : List (List Int)} {j : Nat} {tk : List Bool} (h : PkI KA KB j KB.length false tk) (hj : j < KA.length) : ¬ KA.Perm KB := fun hp => by
  obtain ⟨h1, _, h2⟩ := h
  obtain ⟨h3, h4⟩ := h2 rfl
  have c1 := sel_count KB tk (KA.getD j []) h1 h4
  have c2 := hp.count_eq (KA.getD j [])
  have c3 := h3.count_eq (KA.getD j [])
  have c4 := (List.take_sublist (j + 1) KA).count_le (KA.getD j [])
  rw [take_one hj, List.count_append, List.count_singleton_self] at c4
  omega
theorem PkI.all {KA KB : List (List Int)} {tk : List Bool} (hl : KA.length = KB.length) (h : (KA.take KA.length).Perm (sel KB tk)) : KA.Perm KB := by
  rw [List.take_length] at h
  have := (sel_sub KB tk).eq_of_length (by rw [← h.length_eq]; exact hl)
  rwa [this] at h
theorem PkI.hit {KA KB : List (List Int)} {j k : Nat} {tk : List Bool} (h : PkI KA KB j k false tk) (hj : j < KA.length) (hk : k < KB.length) (ht : tk.getD k true = false) (e : KB.getD k [] = KA.getD j []) : PkI KA KB j (k + 1) true (tk.set k true) := by
  obtain ⟨h1, _, h2⟩ := h
  refine ⟨by rw [List.length_set]; exact h1, fun _ => ?_, fun h => absurd h (by simp)⟩
  rw [take_one hj, ← e]
  exact ((List.perm_append_singleton _ _).trans ((h2 rfl).1.cons _)).trans (sel_set KB tk k hk h1 ht).symm
theorem PkI.skip {KA KB : List (List Int)} {j k : Nat} {tk : List Bool} (h : PkI KA KB j k true tk) : PkI KA KB j (k + 1) true tk := ⟨h.1, h.2.1, fun h => absurd h (by simp)⟩

theorem belL_us (n : Nat) : ∀ l : List Int, belL n (us l) := fun l => by
  induction l with
  | nil => simp only [us, List.map_nil, belL]
  | cons x l ih => simp only [us, List.map_cons, belL]; exact ⟨trivial, ih⟩
def bbs (t : List Bool) : List LV := t.map bb
end Go.Proofs.YtjpnhjembncdkaaGreat.Aw

namespace Go.Proofs.YtjpnhjembncdkaaGreat.Aw
open Go Go.RowKit Go.Proofs.YtjpnhjembncdkaaGreat.Pl Go.Proofs.YtjpnhjembncdkaaGreat.Eu
set_option linter.unusedSimpArgs false
set_option linter.unusedVariables false

end Go.Proofs.YtjpnhjembncdkaaGreat.Aw

namespace Go.Proofs.YtjpnhjembncdkaaGreat.Aw
open Go Go.RowKit Go.Proofs.YtjpnhjembncdkaaGreat.Pl Go.Proofs.YtjpnhjembncdkaaGreat.Eu
set_option linter.unusedSimpArgs false
set_option linter.unusedVariables false

end Go.Proofs.YtjpnhjembncdkaaGreat.Aw

namespace Go.Proofs.YtjpnhjembncdkaaGreat.Aw
open Go Go.RowKit Go.Proofs.YtjpnhjembncdkaaGreat.Pl Go.Proofs.YtjpnhjembncdkaaGreat.Eu
set_option linter.unusedSimpArgs false
set_option linter.unusedVariables false

def keptM (m : Mp) (I : List Int) : Mp := ⟨⟨m.g.vs, m.g.es.filter fun x => decide (x.id ∈ I)⟩, m.rots.map fun t => nrm (t.filter fun d => decide (d / 2 ∈ I))⟩
theorem filter_takeI (l : List Int) (p : Int → Bool) (k : Nat) (hk : k < l.length) : (l.take (k + 1)).filter p = if p (l.getD k 0) = true then (l.take k).filter p ++ [l.getD k 0] else (l.take k).filter p := by
  rw [List.take_succ_eq_append_getElem hk, List.filter_append, List.getD_eq_getElem?_getD, List.getElem?_eq_getElem hk]
  by_cases h : p l[k] = true <;> simp [h]
theorem refNormal' (l : List Int) (t : Nat) (st : St) (hl : small l) :
    ACalls Tryz.prog 110 [.sl t l.length (us l)] st fun r st' => r = .sl 0 l.length (us (nrm l)) ∧ st' = st :=
  acalls_tidy (Q := fun r => r = .sl 0 l.length (us (nrm l))) (ref_Normal l t st hl) fun r h => by subst h; exact ⟨.inl rfl, belL_us _ _⟩

end Go.Proofs.YtjpnhjembncdkaaGreat.Aw

namespace Go.Proofs.YtjpnhjembncdkaaGreat.Aw
open Go Go.RowKit Go.Proofs.YtjpnhjembncdkaaGreat.Pl
set_option linter.unusedSimpArgs false
set_option linter.unusedVariables false

set_option maxHeartbeats 4000000 in
theorem dfTurnK (m : Mp) (ho : MapOk m) (v : Int) (I : List Int) (ti : Nat) (st : St) (hv : m.g.vs.length ≤ 100) (he : m.g.es.length ≤ 100) (hI : small I) :
    ACalls Tryz.prog 102 [.ag (mpL m), u v, .sl ti I.length (us I)] st fun r st' => r = .sl 0 (tnW m v I).length (us (nrm (tnW m v I))) ∧ Keeps st st' := by
  have hrl := ho.len
  refine acalls_of_body tabOk Tryz.func102 rfl rfl Tryz.ntmps102 (rs := [.tmp 6]) rfl (by simp) ?_
  refine awp_posG fun hpos => ?_
  (repeat' (first | refine awp_seq ?_ | refine awp_block ?_ | (refine w_e [] ?_; intro J hJ; simp only []; simp []; (refine hJ _ _ ?_; clear hJ J; simp only [ak, reduceIte]))))
  refine awp_own 7 32 1 (by simp) ?_
  refine awp_range 16 15 17 44 (m.g.vs.length) (fun j fr st2 => fr 1 = u v ∧ fr 2 = .sl ti I.length (us I) ∧ fr 3 = .pt st.next 0 ∧ fr 14 = .sl 0 m.g.vs.length (us m.g.vs) ∧ st2.H st.next = .box 41 3 (mpL m) ∧ Keeps st st2 ∧ ∃ tt G, G = (if v ∈ m.g.vs.take j then tnW m v I else []) ∧ fr 7 = .sl tt G.length (us G) ∧ st2.H tt = .own 32 1 G.length ∧ st.next < tt ∧ tt < st2.next) ?_ ?_ ?_
  · exact ⟨by simp, by simp, by simp, by simp, by simp, (Keeps.new _ _).trans (Keeps.new _ _), st.next + 1, [], by simp, by simp, by simp, by omega, by simp⟩
  · rintro jo fr s hlt ⟨f1, f2, f3, f14, hG, hkp, tt, G, hGe, f7, hO, lt, ut⟩ fi fn JO hJO
    have hd := us_drop_getD m.g.vs jo hlt
    have htk : ∀ x, x ∈ m.g.vs.take (jo + 1) ↔ x ∈ m.g.vs.take jo ∨ x = m.g.vs.getD jo 0 := fun x => by
      rw [List.take_succ_eq_append_getElem hlt, getD_lt _ _ hlt, List.mem_append, List.mem_singleton]
    by_cases hw : m.g.vs.getD jo 0 = v
    rotate_left
    · have hG2 : G = (if v ∈ m.g.vs.take (jo + 1) then tnW m v I else []) := by
        rw [hGe]
        have : (v ∈ m.g.vs.take (jo + 1)) = (v ∈ m.g.vs.take jo) := propext ⟨fun h => ((htk v).1 h).resolve_right fun e => hw e.symm, fun h => (htk v).2 (.inl h)⟩
        simp only [this]
      clear hGe htk
      generalize m.g.vs.getD jo 0 = w at *
      (repeat' (first | refine awp_seq ?_ | (refine awp_exit ?_; simp only [ak, reduceIte]) | (refine awp_cond ?_; simp [f1, f14, fi, fn, hd, hlt, hw]) | (refine w_e [] ?_; intro J hJ; simp only []; simp [f1, f14, fi, fn, hd, hlt, hw]; (refine hJ _ _ ?_; clear hJ J; simp only [ak, reduceIte]))))
      exact hJO _ _ (by simp [fi]) (by simp [fn]) ⟨by simp [f1], by simp [f2], by simp [f3], by simp [f14], hG, hkp, tt, G, hG2, by simp [f7], hO, lt, ut⟩
    · have hnot : ¬ v ∈ m.g.vs.take jo := fun h => by
        obtain ⟨i, hi, e⟩ := List.mem_iff_getElem.1 h
        have hi2 : i < jo := by have := hi; rw [List.length_take] at this; omega
        rw [List.getElem_take] at e
        have := List.pairwise_iff_getElem.1 ho.g.rise i jo (by omega) hlt hi2
        rw [getD_lt _ _ hlt] at hw
        omega
      have hin : v ∈ m.g.vs.take (jo + 1) := (htk v).2 (.inr hw.symm)
      rw [if_neg hnot] at hGe
      subst hGe
      have hix : m.g.vs.idxOf v = jo := by
        have hm : v ∈ m.g.vs := hw ▸ getD_mem hlt
        obtain ⟨k1, k2⟩ := idx_lt hm
        exact nodup_idx (rise_nodup ho.g.rise) k1 hlt (by rw [k2, hw])
      have hrow : tnW m v I = (m.rots.getD jo []).filter fun d => decide (d / 2 ∈ I) := by
        unfold tnW rowW
        rw [if_pos (hw ▸ getD_mem hlt), hix]
      have hltR : jo < m.rots.length := by omega
      have hdR := rowsL_drop m.rots jo hltR
      have hmem : m.rots.getD jo [] ∈ m.rots := by rw [getR_lt _ _ hltR]; exact List.getElem_mem _
      have htl : (m.rots.getD jo []).length ≤ 200 := by have := ho.row_le hmem; omega
      have htd : ∀ d ∈ m.rots.getD jo [], 2 ≤ d ∧ d ≤ 2097153 := fun d hd => dart_range ho (ho.turn_dart hmem hd)
      simp only [if_pos hin, hrow] at hJO
      clear htk hnot hin hix hrow
      generalize m.g.vs.getD jo 0 = w at *
      subst hw
      generalize m.rots.getD jo [] = t at *
      (repeat' (first | refine awp_seq ?_ | refine awp_block ?_ | (refine awp_skip ?_; simp only [ak, reduceIte]) | (refine awp_cond ?_; simp [f1, f3, f14, fi, fn, hd, hlt, hG, hdR, hltR]) | (refine w_e [] ?_; intro J hJ; simp only []; simp [f1, f3, f14, fi, fn, hd, hlt, hG, hdR, hltR]; (refine hJ _ _ ?_; clear hJ J; simp only [ak, reduceIte]))))
      refine awp_range 30 29 31 43 (t.length) (fun j fr st2 => fr 1 = u w ∧ fr 2 = .sl ti I.length (us I) ∧ fr 3 = .pt st.next 0 ∧ fr 14 = .sl 0 m.g.vs.length (us m.g.vs) ∧ fr 15 = i m.g.vs.length ∧ fr 16 = i jo ∧ fr 28 = .sl 0 t.length (us t) ∧ st2.H st.next = .box 41 3 (mpL m) ∧ Keeps st st2 ∧ ∃ tt, fr 7 = .sl tt ((t.take j).filter fun d => decide (d / 2 ∈ I)).length (us ((t.take j).filter fun d => decide (d / 2 ∈ I))) ∧ st2.H tt = .own 32 1 ((t.take j).filter fun d => decide (d / 2 ∈ I)).length ∧ st.next < tt ∧ tt < st2.next) ?_ ?_ ?_
      · exact ⟨by simp [f1], by simp [f2], by simp [f3], by simp [f14], by simp [fn], by simp [fi], by simp, hG, hkp, tt, by simp [f7], by simpa using hO, lt, ut⟩
      · clear f1 f2 f3 f14 fi fn hG hkp f7 hO lt ut hJO hd hdR fr s
        rintro k fr s hlk ⟨f1, f2, f3, f14, f15, f16, f28, hG, hkp, tt, f7, hO, lt, ut⟩ fi fn JI hJI
        have hd := us_drop_getD t k hlk
        have hst := filter_takeI t (fun d => decide (d / 2 ∈ I)) k hlk
        have hd0' := htd _ (getD_mem hlk)
        have hgl := List.length_filter_le (fun d => decide (d / 2 ∈ I)) (t.take k)
        rw [List.length_take] at hgl
        simp only [hst] at hJI
        clear hst
        generalize (t.take k).filter (fun d => decide (d / 2 ∈ I)) = G at *
        generalize t.getD k 0 = d at *
        have hq : d.tdiv 2 = d / 2 := Int.tdiv_eq_ediv_of_nonneg (by omega)
        have hwr : IntKind.u32.wrap (d / 2) = d / 2 := wrap_u32' _ (by omega) (by omega)
        generalize d / 2 = dd at *
        (repeat' (first | refine awp_seq ?_ | (refine w_e [] ?_; intro J hJ; simp only []; simp [f2, f28, fi, fn, hd, hlk, hq, hwr]; (try (refine hJ _ _ ?_; clear hJ J; simp only [ak, reduceIte])))))
        refine callK_ofE (Find I ti dd _ hI) (by simp [hwr]) ?_; rintro r s1 ⟨rfl, h1⟩
        rw [h1]; clear h1 s1
        by_cases hin : dd ∈ I
        rotate_left
        · have hge' : gi I dd < 0 := (gi_neg I dd).2 hin
          have hge : ¬ (0 : Int) ≤ gi I dd := by omega
          rw [if_neg (by simpa using hin)] at hJI
          generalize gi I dd = gg at *
          (repeat' (first | (refine awp_skip ?_; simp only [ak, reduceIte]) | (refine awp_cond ?_; simp [hge, hge']) | (refine e_go ?_; simp [hge, hge']; (refine hJ _ _ ?_; clear hJ J; simp only [ak, reduceIte]))))
          exact hJI _ _ (by simp [fi]) (by simp [fn]) ⟨by simp [f1], by simp [f2], by simp [f3], by simp [f14], by simp [f15], by simp [f16], by simp [f28], hG, hkp, tt, by simp [f7], hO, lt, ut⟩
        · have hge' : ¬ gi I dd < 0 := fun h => (gi_neg I dd).1 h hin
          have hge : (0 : Int) ≤ gi I dd := by omega
          rw [if_pos (by simpa using hin)] at hJI
          generalize gi I dd = gg at *
          have e1 : ¬ tt = s.next := by omega
          have e2 : ¬ tt = 0 := by omega
          (repeat' (first | (refine awp_cond ?_; simp [hge, hge', f7, hO, e1, e2]) | ((first | (refine w_e [] ?_; intro J hJ; simp only []) | (refine e_go ?_)); simp [hge, hge', f7, hO, e1, e2]; (repeat refine ca ?_); (refine hJ _ _ ?_; clear hJ J; simp only [ak, reduceIte]))))
          refine hJI _ _ (by simp [fi]) (by simp [fn]) ⟨by simp [f1], by simp [f2], by simp [f3], by simp [f14], by simp [f15], by simp [f16], by simp [f28], by simp [show ¬ st.next = s.next by omega, show ¬ st.next = s.next + 1 by omega, show ¬ st.next = tt by omega, hG], ?_, s.next + 1, by simp, by simp, by omega, by simp⟩
          (repeat (first | exact hkp | (refine Keeps.trans ?_ (Keeps.new _ _)) | (refine Keeps.set ?_ (by omega) _)))
      · clear f1 f2 f3 f14 fi fn hG hkp f7 hO lt ut hd hdR fr s
        rintro fr s ⟨f1, f2, f3, f14, f15, f16, f28, hG, hkp, tt, f7, hO, lt, ut⟩
        rw [List.take_length] at f7 hO
        skip
        exact hJO _ _ (by simp [f16]) (by simp [f15]) ⟨by simp [f1], by simp [f2], by simp [f3], by simp [f14], hG, hkp, tt, _, rfl, by simp [f7], hO, lt, ut⟩
  · rintro fr s ⟨f1, f2, f3, f14, hG, hkp, tt, G, hGe, f7, hO, lt, ut⟩
    rw [List.take_length] at hGe
    have hGe2 : G = tnW m v I := by
      rw [hGe]
      split
      · rfl
      · rename_i h; unfold tnW rowW; rw [if_neg h]; rfl
    have hgl : small (tnW m v I) := by
      have h1 : (tnW m v I).length ≤ (rowW m v).length := List.length_filter_le _ _
      have h2 : (rowW m v).length ≤ 200 := by
        unfold rowW
        split
        · by_cases h : m.g.vs.idxOf v < m.rots.length
          · have hmem : m.rots.getD (m.g.vs.idxOf v) [] ∈ m.rots := by rw [getR_lt _ _ h]; exact List.getElem_mem _
            have := ho.row_le hmem; omega
          · simp [List.getD_eq_getElem?_getD, List.getElem?_eq_none (by omega : m.rots.length ≤ m.g.vs.idxOf v)]
        · simp
      unfold small; omega
    rw [hGe2] at f7
    generalize tnW m v I = G2 at *
    (repeat' (first | refine awp_seq ?_ | (refine w_e [] ?_; intro J hJ; simp only []; simp [f7])))
    refine callK_ofE (refNormal' G2 tt _ hgl) (by simp) ?_; rintro r s1 ⟨rfl, h1⟩
    rw [h1]; clear h1 s1
    (repeat' (first | (refine awp_ret ?_; simp only [ak, reduceIte]; simp []) | (refine e_go ?_; simp []; (refine hJ _ _ ?_; clear hJ J; simp only [ak, reduceIte]))))
    exact hkp
theorem dfTurn (m : Mp) (ho : MapOk m) (v : Int) (I : List Int) (ti : Nat) (st : St) (hv : m.g.vs.length ≤ 100) (he : m.g.es.length ≤ 100) (hI : small I) :
    ACalls Tryz.prog 102 [.ag (mpL m), u v, .sl ti I.length (us I)] st fun r st' => r = .sl 0 (tnW m v I).length (us (nrm (tnW m v I))) ∧ st' = st :=
  acalls_tidy (Q := fun r => r = .sl 0 (tnW m v I).length (us (nrm (tnW m v I)))) (dfTurnK m ho v I ti st hv he hI) fun r h => by subst h; exact ⟨.inl rfl, belL_us _ _⟩

theorem nrm_sameW (a b : Mp) (I : List Int) (v : Int) : decide (nrm (tnW a v I) = nrm (tnW b v I)) = sameW a b I v := rfl
def alike1 (a b : Mp) (I : List Int) (vs : List Int) (k : Nat) : Prop := ∀ j, j < k → sameW a b I (vs.getD j 0) = true
theorem tnW_len {m : Mp} (ho : MapOk m) (v : Int) (I : List Int) : (tnW m v I).length ≤ 2 * m.g.es.length := by
  have h1 : (tnW m v I).length ≤ (rowW m v).length := List.length_filter_le _ _
  refine Nat.le_trans h1 ?_
  unfold rowW
  split
  · rename_i hv
    have hk := List.idxOf_lt_length_of_mem hv
    have h : m.g.vs.idxOf v < m.rots.length := by rw [ho.len]; exact hk
    have hmem : m.rots.getD (m.g.vs.idxOf v) [] ∈ m.rots := by rw [getR_lt _ _ h]; exact List.getElem_mem _
    exact ho.row_le hmem
  · simp
set_option maxHeartbeats 4000000 in
theorem dfAlikeK (a b : Mp) (ha : MapOk a) (hb : MapOk b) (I : List Int) (ti : Nat) (st : St) (hva : a.g.vs.length ≤ 100) (hea : a.g.es.length ≤ 100) (hvb : b.g.vs.length ≤ 100) (heb : b.g.es.length ≤ 100) (hI : small I) :
    ACalls Tryz.prog 94 [.ag (mpL a), .ag (mpL b), .sl ti I.length (us I)] st fun r st' => r = bb (alikeW a b I) ∧ Keeps st st' := by
  have hsa : ∀ v, small (nrm (tnW a v I)) := fun v => by have := tnW_len ha v I; unfold small; rw [nrm_length]; omega
  have hno : ∀ v, (v ∈ a.g.vs ∨ v ∈ b.g.vs) → sameW a b I v = false → alikeW a b I = false := fun v hv h => by
    unfold alikeW
    rcases hv with hv | hv
    · rw [Bool.and_eq_false_iff]; left; exact List.all_eq_false.2 ⟨v, hv, by simp [h]⟩
    · rw [Bool.and_eq_false_iff]; right; exact List.all_eq_false.2 ⟨v, hv, by simp [h]⟩
  have hyes : alike1 a b I a.g.vs a.g.vs.length → alike1 a b I b.g.vs b.g.vs.length → alikeW a b I = true := fun h1 h2 => by
    unfold alikeW
    rw [Bool.and_eq_true, List.all_eq_true, List.all_eq_true]
    exact ⟨fun v hv => by obtain ⟨k1, k2⟩ := idx_lt hv; rw [← k2]; exact h1 _ k1, fun v hv => by obtain ⟨k1, k2⟩ := idx_lt hv; rw [← k2]; exact h2 _ k1⟩
  generalize alikeW a b I = res at *
  refine acalls_of_body tabOk Tryz.func94 rfl rfl Tryz.ntmps94 (rs := [.tmp 6]) rfl (by simp) ?_
  refine awp_posG fun hpos => ?_
  (repeat' (first | refine awp_seq ?_ | refine awp_block ?_ | (refine w_e [] ?_; intro J hJ; simp only []; simp []; (refine hJ _ _ ?_; clear hJ J; simp only [ak, reduceIte]))))
  refine awp_range 13 12 14 36 (a.g.vs.length) (fun j fr st2 => fr 2 = .sl ti I.length (us I) ∧ fr 3 = .pt st.next 0 ∧ fr 4 = .pt (st.next + 1) 0 ∧ fr 11 = .sl 0 a.g.vs.length (us a.g.vs) ∧ st2.H st.next = .box 41 3 (mpL a) ∧ st2.H (st.next + 1) = .box 41 3 (mpL b) ∧ Keeps st st2 ∧ alike1 a b I a.g.vs j) ?_ ?_ ?_
  · exact ⟨by simp, by simp, by simp, by simp, by simp, by simp, (Keeps.new _ _).trans (Keeps.new _ _), fun j hj => by omega⟩
  · rintro j fr s hlt ⟨f2, f3, f4, f11, hG, hG2, hkp, hal⟩ fi fn JO hJO
    have hd := us_drop_getD a.g.vs j hlt
    have hin := getD_mem hlt
    have hnx : sameW a b I (a.g.vs.getD j 0) = true → alike1 a b I a.g.vs (j + 1) := fun h k hk => by
      by_cases e : k = j
      · subst e; exact h
      · exact hal k (by omega)
    generalize a.g.vs.getD j 0 = v at *
    have hnv := hno v (.inl hin)
    (repeat' (first | refine awp_seq ?_ | (refine w_e [] ?_; intro J hJ; simp only []; simp [fi, fn, hlt]; (refine hJ _ _ ?_; clear hJ J; simp only [ak, reduceIte]))))
    (refine w_s [] [st.next, st.next + 1] [(0, true), (1, true), (2, true), (3, true), (4, true), (5, true), (6, true), (7, true), (9, true), (10, true), (11, true), (12, true), (13, true), (14, true), (15, true), (16, true), (8, true), (17, true), (18, true), (19, true)] ?_; intro J hJ; simp [f2, f3, f4, hG, hG2, hd, hlt])
    refine dcallK_ofE (dfTurn a ha v I ti _ hva hea hI) (by simp) ?_; rintro r s1 ⟨rfl, h1⟩
    rw [h1]; clear h1 s1
    refine ⟨fun h => by first | (cases h; done) | simp [hG, hG2], ?_⟩
    (refine d_go ?_; simp [f2, f3, f4, hG, hG2, hd, hlt])
    refine dcallK_ofE (dfTurn b hb v I ti _ hvb heb hI) (by simp) ?_; rintro r s1 ⟨rfl, h1⟩
    rw [h1]; clear h1 s1
    refine ⟨fun h => by first | (cases h; done) | simp [hG, hG2], ?_⟩
    (refine d_go ?_; simp [f2, f3, f4, hG, hG2, hd, hlt])
    refine dcallK_ofE (ref_Same (nrm (tnW a v I)) (nrm (tnW b v I)) 0 0 _ (hsa v)) (by simp [nrm_length]) ?_; rintro r s1 ⟨rfl, h1⟩
    rw [h1]; clear h1 s1
    rw [nrm_sameW]
    refine ⟨fun h => by first | (cases h; done) | simp [hG, hG2], ?_⟩
    (refine d_go ?_; simp []; (refine hJ _ _ ?_; clear hJ J; simp only [ak, reduceIte]))
    cases hs : sameW a b I v with
    | true =>
      (repeat' (first | (refine awp_skip ?_; simp only [ak, reduceIte]) | (refine awp_cond ?_; simp [])))
      exact hJO _ _ (by simp [fi]) (by simp [fn]) ⟨by simp [f2], by simp [f3], by simp [f4], by simp [f11], hG, hG2, hkp, hnx hs⟩
    | false =>
      obtain rfl := hnv hs
      (repeat' (first | refine awp_seq ?_ | (refine awp_ret ?_; simp only [ak, reduceIte]; simp []) | (refine awp_cond ?_; simp []) | (refine w_e [] ?_; intro J hJ; simp only []; simp []; (refine hJ _ _ ?_; clear hJ J; simp only [ak, reduceIte]))))
      exact hkp
  rintro fr s ⟨f2, f3, f4, f11, hG, hG2, hkp, hal0⟩
  clear f11
  (repeat' (first | refine awp_seq ?_ | refine awp_block ?_ | (refine w_e [] ?_; intro J hJ; simp only []; simp [f4, hG2]; (refine hJ _ _ ?_; clear hJ J; simp only [ak, reduceIte]))))
  refine awp_range 41 40 42 64 (b.g.vs.length) (fun j fr st2 => fr 2 = .sl ti I.length (us I) ∧ fr 3 = .pt st.next 0 ∧ fr 4 = .pt (st.next + 1) 0 ∧ fr 39 = .sl 0 b.g.vs.length (us b.g.vs) ∧ st2.H st.next = .box 41 3 (mpL a) ∧ st2.H (st.next + 1) = .box 41 3 (mpL b) ∧ Keeps st st2 ∧ alike1 a b I b.g.vs j) ?_ ?_ ?_
  · exact ⟨by simp [f2], by simp [f3], by simp [f4], by simp, hG, hG2, hkp, fun j hj => by omega⟩
  · clear f2 f3 f4 hG hG2 hkp fr s
    rintro j fr s hlt ⟨f2, f3, f4, f39, hG, hG2, hkp, hal⟩ fi fn JO hJO
    have hd := us_drop_getD b.g.vs j hlt
    have hin := getD_mem hlt
    have hnx : sameW a b I (b.g.vs.getD j 0) = true → alike1 a b I b.g.vs (j + 1) := fun h k hk => by
      by_cases e : k = j
      · subst e; exact h
      · exact hal k (by omega)
    generalize b.g.vs.getD j 0 = v at *
    have hnv := hno v (.inr hin)
    (repeat' (first | refine awp_seq ?_ | (refine w_e [] ?_; intro J hJ; simp only []; simp [fi, fn, hlt]; (refine hJ _ _ ?_; clear hJ J; simp only [ak, reduceIte]))))
    (refine w_s [] [st.next, st.next + 1] [(0, true), (1, true), (2, true), (3, true), (4, true), (5, true), (6, true), (7, true), (9, true), (10, true), (11, true), (12, true), (13, true), (14, true), (15, true), (16, true), (8, true), (17, true), (18, true), (19, true)] ?_; intro J hJ; simp [f2, f3, f4, hG, hG2, hd, hlt])
    refine dcallK_ofE (dfTurn a ha v I ti _ hva hea hI) (by simp) ?_; rintro r s1 ⟨rfl, h1⟩
    rw [h1]; clear h1 s1
    refine ⟨fun h => by first | (cases h; done) | simp [hG, hG2], ?_⟩
    (refine d_go ?_; simp [f2, f3, f4, hG, hG2, hd, hlt])
    refine dcallK_ofE (dfTurn b hb v I ti _ hvb heb hI) (by simp) ?_; rintro r s1 ⟨rfl, h1⟩
    rw [h1]; clear h1 s1
    refine ⟨fun h => by first | (cases h; done) | simp [hG, hG2], ?_⟩
    (refine d_go ?_; simp [f2, f3, f4, hG, hG2, hd, hlt])
    refine dcallK_ofE (ref_Same (nrm (tnW a v I)) (nrm (tnW b v I)) 0 0 _ (hsa v)) (by simp [nrm_length]) ?_; rintro r s1 ⟨rfl, h1⟩
    rw [h1]; clear h1 s1
    rw [nrm_sameW]
    refine ⟨fun h => by first | (cases h; done) | simp [hG, hG2], ?_⟩
    (refine d_go ?_; simp []; (refine hJ _ _ ?_; clear hJ J; simp only [ak, reduceIte]))
    cases hs : sameW a b I v with
    | true =>
      (repeat' (first | (refine awp_skip ?_; simp only [ak, reduceIte]) | (refine awp_cond ?_; simp [])))
      exact hJO _ _ (by simp [fi]) (by simp [fn]) ⟨by simp [f2], by simp [f3], by simp [f4], by simp [f39], hG, hG2, hkp, hnx hs⟩
    | false =>
      obtain rfl := hnv hs
      (repeat' (first | refine awp_seq ?_ | (refine awp_ret ?_; simp only [ak, reduceIte]; simp []) | (refine awp_cond ?_; simp []) | (refine w_e [] ?_; intro J hJ; simp only []; simp []; (refine hJ _ _ ?_; clear hJ J; simp only [ak, reduceIte]))))
      exact hkp
  · rintro fr s ⟨f2, f3, f4, f39, hG, hG2, hkp, hal⟩
    obtain rfl := hyes hal0 hal
    (repeat' (first | refine awp_seq ?_ | (refine awp_ret ?_; simp only [ak, reduceIte]; simp []) | (refine w_e [] ?_; intro J hJ; simp only []; simp []; (refine hJ _ _ ?_; clear hJ J; simp only [ak, reduceIte]))))
    exact hkp
theorem dfAlike (a b : Mp) (ha : MapOk a) (hb : MapOk b) (I : List Int) (ti : Nat) (st : St) (hva : a.g.vs.length ≤ 100) (hea : a.g.es.length ≤ 100) (hvb : b.g.vs.length ≤ 100) (heb : b.g.es.length ≤ 100) (hI : small I) :
    ACalls Tryz.prog 94 [.ag (mpL a), .ag (mpL b), .sl ti I.length (us I)] st fun r st' => r = bb (alikeW a b I) ∧ st' = st :=
  acalls_tidy (Q := fun r => r = bb (alikeW a b I)) (dfAlikeK a b ha hb I ti st hva hea hvb heb hI) fun r h => by subst h; trivial

end Go.Proofs.YtjpnhjembncdkaaGreat.Aw

namespace Go.Proofs.YtjpnhjembncdkaaGreat.Aw
open Go Go.RowKit Go.Proofs.YtjpnhjembncdkaaGreat.Pl
set_option linter.unusedSimpArgs false
set_option linter.unusedVariables false

/-- A map that holds a set. -/
def InM (MM : List (List Int × LV)) (I : List Int) : Prop := ∀ x, (x ∈ I → mget MM [x] = some (i 1)) ∧ (x ∉ I → mget MM [x] = none)
theorem Vert' (g : Gr) (v : Int) (st : St) (hl : small g.vs) :
    ACalls Tryz.prog 96 [.ag (grL g), u v] st fun r st' => r = i (gi g.vs v) ∧ st' = st :=
  acalls_tidy (Q := fun r => r = i (gi g.vs v)) (Vert g v st hl) fun r h => by subst h; trivial
set_option maxHeartbeats 4000000 in
theorem dTurnK (m : Mp) (ho : MapOk m) (v : Int) (I : List Int) (q : Nat) (MM : List (List Int × LV)) (st : St) (hv : m.g.vs.length ≤ 100) (he : m.g.es.length ≤ 100) (hq : q < st.next) (hM : st.H q = .map false [.u32] MM) (hI : InM MM I) :
    ACalls Tryz.prog 92 [.ag (mpL m), u v, .mp q] st fun r st' => r = .sl 0 (tnW m v I).length (us (tnW m v I)) ∧ Keeps st st' := by
  have hrl := ho.len
  have hsm : small m.g.vs := by unfold small; omega
  obtain ⟨G0, hG0⟩ : ∃ G0, G0 = tnW m v I := ⟨_, rfl⟩
  rw [← hG0]
  refine acalls_z0 ?_
  refine acalls_of_body tabOk Tryz.func92 rfl rfl Tryz.ntmps92 (rs := [.tmp 6]) rfl (by simp) ?_
  refine awp_posG fun hpos => ?_
  (repeat' (first | refine awp_seq ?_ | (refine w_e [] ?_; intro J hJ; simp only []; simp []; (try (refine hJ _ _ ?_; clear hJ J; simp only [ak, reduceIte])))))
  refine callK_ofE (Vert' m.g v _ hsm) (by simp) ?_; rintro r s1 ⟨rfl, h1⟩
  rw [h1]; clear h1 s1
  by_cases hin : v ∈ m.g.vs
  rotate_left
  · have hge : ¬ (0 : Int) ≤ gi m.g.vs v := by have := (gi_neg m.g.vs v).2 hin; omega
    have hge' : gi m.g.vs v < 0 := (gi_neg m.g.vs v).2 hin
    have ht : tnW m v I = [] := by unfold tnW rowW; rw [if_neg hin]; rfl
    obtain rfl : G0 = [] := hG0.trans ht
    generalize gi m.g.vs v = g at *
    (repeat' (first | refine awp_seq ?_ | (refine awp_skip ?_; simp only [ak, reduceIte]) | (refine awp_ret ?_; simp only [ak, reduceIte]; simp [hge, hge']) | (refine awp_cond ?_; simp [hge, hge']) | ((first | (refine w_e [] ?_; intro J hJ; simp only []) | (refine e_go ?_)); simp [hge, hge']; (refine hJ _ _ ?_; clear hJ J; simp only [ak, reduceIte]))))
    exact ⟨by simp [z0], Keeps.new _ _⟩
  rw [gi_mem hin]
  have hk : m.g.vs.idxOf v < m.rots.length := by rw [hrl]; exact List.idxOf_lt_length_of_mem hin
  have hrow : tnW m v I = (m.rots.getD (m.g.vs.idxOf v) []).filter fun d => decide (d / 2 ∈ I) := by
    unfold tnW rowW; rw [if_pos hin]
  rw [hrow] at hG0
  clear hrow
  generalize m.g.vs.idxOf v = k at *
  have hdR := rowsL_drop m.rots k hk
  have hmem : m.rots.getD k [] ∈ m.rots := by rw [getR_lt _ _ hk]; exact List.getElem_mem _
  have htl : (m.rots.getD k []).length ≤ 200 := by have := ho.row_le hmem; omega
  have htd : ∀ d ∈ m.rots.getD k [], 2 ≤ d ∧ d ≤ 2097153 := fun d hd => dart_range ho (ho.turn_dart hmem hd)
  generalize m.rots.getD k [] = t at *
  have hk0 : (0 : Int) ≤ (k : Int) := by omega
  (repeat' (first | refine awp_seq ?_ | refine awp_block ?_ | (refine awp_cond ?_; simp [hk0, hdR, hk]) | ((first | (refine w_e [] ?_; intro J hJ; simp only []) | (refine e_go ?_)); simp [hk0, hdR, hk]; (refine hJ _ _ ?_; clear hJ J; simp only [ak, reduceIte]))))
  refine awp_own 7 32 1 (by simp) ?_
  refine awp_range 23 22 24 36 (t.length) (fun j fr st2 => fr 2 = .mp q ∧ fr 21 = .sl 0 t.length (us t) ∧ st2.H q = .map false [.u32] MM ∧ Keeps st st2 ∧ st.next < st2.next ∧ ∃ tt, fr 7 = .sl tt ((t.take j).filter fun d => decide (d / 2 ∈ I)).length (us ((t.take j).filter fun d => decide (d / 2 ∈ I))) ∧ st2.H tt = .own 32 1 ((t.take j).filter fun d => decide (d / 2 ∈ I)).length ∧ st.next < tt ∧ tt < st2.next) ?_ ?_ ?_
  · exact ⟨by simp, by simp, by simp [show ¬ q = st.next by omega, show ¬ q = st.next + 1 by omega, hM], (Keeps.new _ _).trans (Keeps.new _ _), by simp; omega, st.next + 1, by simp, by simp, by omega, by simp⟩
  · rintro k fr s hlk ⟨f2, f21, hMs, hkp, hsn, tt, f7, hO, lt, ut⟩ fi fn JI hJI
    have hd := us_drop_getD t k hlk
    have hst := filter_takeI t (fun d => decide (d / 2 ∈ I)) k hlk
    have hgl := List.length_filter_le (fun d => decide (d / 2 ∈ I)) (t.take k)
    rw [List.length_take] at hgl
    simp only [hst] at hJI
    clear hst
    generalize (t.take k).filter (fun d => decide (d / 2 ∈ I)) = G at *
    generalize t.getD k 0 = d at *
    generalize hdd : d / 2 = dd at *
    (repeat' (first | refine awp_seq ?_ | (refine w_e [] ?_; intro J hJ; simp only []; simp [f21, fi, fn, hd, hlk, f2]; (try (refine hJ _ _ ?_; clear hJ J; simp only [ak, reduceIte])))))
    refine callK_ofE (Edge d _) (by simp) ?_; rintro r s1 ⟨rfl, h1⟩
    rw [h1]; clear h1 s1
    rw [hdd]
    have e1 : ¬ tt = s.next := by omega
    have e2 : ¬ tt = 0 := by omega
    by_cases hin2 : dd ∈ I
    rotate_left
    · have hg := (hI dd).2 hin2
      rw [if_neg (by simpa using hin2)] at hJI
      (repeat' (first | (refine awp_skip ?_; simp only [ak, reduceIte]) | (refine awp_cond ?_; simp [hMs, hg]) | (refine e_go ?_; simp [hMs, hg]; (refine hJ _ _ ?_; clear hJ J; simp only [ak, reduceIte]))))
      exact hJI _ _ (by simp [fi]) (by simp [fn]) ⟨by simp [f2], by simp [f21], hMs, hkp, hsn, tt, by simp [f7], hO, lt, ut⟩
    · have hg := (hI dd).1 hin2
      rw [if_pos (by simpa using hin2)] at hJI
      (repeat' (first | (refine awp_cond ?_; simp [hMs, hg, f7, hO, e1, e2]) | ((first | (refine w_e [] ?_; intro J hJ; simp only []) | (refine e_go ?_)); simp [hMs, hg, f7, hO, e1, e2]; (repeat refine ca ?_); (refine hJ _ _ ?_; clear hJ J; simp only [ak, reduceIte]))))
      refine hJI _ _ (by simp [fi]) (by simp [fn]) ⟨by simp [f2], by simp [f21], by simp [show ¬ q = s.next by omega, show ¬ q = s.next + 1 by omega, show ¬ q = tt by omega, hMs], ?_, by simp; omega, s.next + 1, by simp, by simp, by omega, by simp⟩
      (repeat (first | exact hkp | (refine Keeps.trans ?_ (Keeps.new _ _)) | (refine Keeps.set ?_ (by omega) _)))
  · rintro fr s ⟨f2, f21, hMs, hkp, hsn, tt, f7, hO, lt, ut⟩
    rw [List.take_length, ← hG0] at f7
    (repeat' (first | refine awp_seq ?_ | (refine awp_ret ?_; simp only [ak, reduceIte]; simp [f7]) | (refine w_e [] ?_; intro J hJ; simp only []; simp [f7]; (refine hJ _ _ ?_; clear hJ J; simp only [ak, reduceIte]))))
    exact ⟨by simp [z0, z0L_map], hkp⟩
theorem dTurn (m : Mp) (ho : MapOk m) (v : Int) (I : List Int) (q : Nat) (MM : List (List Int × LV)) (st : St) (hv : m.g.vs.length ≤ 100) (he : m.g.es.length ≤ 100) (hq : q < st.next) (hM : st.H q = .map false [.u32] MM) (hI : InM MM I) :
    ACalls Tryz.prog 92 [.ag (mpL m), u v, .mp q] st fun r st' => r = .sl 0 (tnW m v I).length (us (tnW m v I)) ∧ st' = st :=
  acalls_tidy (Q := fun r => r = .sl 0 (tnW m v I).length (us (tnW m v I))) (dTurnK m ho v I q MM st hv he hq hM hI) fun r h => by subst h; exact ⟨.inl rfl, belL_us _ _⟩

end Go.Proofs.YtjpnhjembncdkaaGreat.Aw

namespace Go.Proofs.YtjpnhjembncdkaaGreat.Aw
open Go Go.RowKit Go.Proofs.YtjpnhjembncdkaaGreat.Pl
set_option linter.unusedSimpArgs false
set_option linter.unusedVariables false

theorem dfFind (g : Gr) (id : Int) (st : St) (he : g.es.length ≤ 1000) :
    ACalls Tryz.prog 47 [.ag (grL g), u id] st fun r st' => r = i (fe g.es id) ∧ st' = st :=
  acalls_tidy (Q := fun r => r = i (fe g.es id)) (ref_Find g id st he) fun r h => by subst h; trivial
theorem fe_mem {g : Gr} (hg : GoodE g) {x : Ed} (hx : x ∈ g.es) : ¬ fe g.es x.id < 0 ∧ g.es.getD (fe g.es x.id).toNat ed0 = x := by
  have hne : ¬ fe g.es x.id < 0 := fun h => by
    unfold fe at h
    rw [if_pos (List.any_eq_true.2 ⟨_, hx, by simp⟩)] at h
    omega
  obtain ⟨k1, k2, k3⟩ := fe_lt _ _ hne
  refine ⟨hne, ?_⟩
  have hin : g.es.getD (fe g.es x.id).toNat ed0 ∈ g.es := by rw [getE_lt _ _ k1]; exact List.getElem_mem _
  exact id_eq hg.ids hin hx k3
theorem foldl_takeE {β : Type} (f : β → Ed → β) (b : β) (l : List Ed) (k : Nat) (hk : k < l.length) : (l.take (k + 1)).foldl f b = f ((l.take k).foldl f b) (l.getD k ed0) := by
  rw [List.take_succ_eq_append_getElem hk, List.foldl_append, getE_lt _ _ hk]; rfl

set_option maxHeartbeats 4000000 in
theorem dfKeptK (a b : Mp) (ha : MapOk a) (hb : MapOk b) (st : St) (hva : a.g.vs.length ≤ 100) (hea : a.g.es.length ≤ 100) (hvb : b.g.vs.length ≤ 100) (heb : b.g.es.length ≤ 100) :
    ACalls Tryz.prog 36 [.ag (mpL a), .ag (mpL b)] st fun r st' => r = .sl 0 (keptR a b).length (us (keptR a b)) ∧ Keeps st st' := by
  obtain ⟨G0, hG0⟩ : ∃ G0, G0 = keptR a b := ⟨_, rfl⟩
  rw [← hG0]
  refine acalls_z0 ?_
  refine acalls_of_body tabOk Tryz.func36 rfl rfl Tryz.ntmps36 (rs := [.tmp 4]) rfl (by simp) ?_
  refine awp_posG fun hpos => ?_
  (repeat' (first | refine awp_seq ?_ | refine awp_block ?_ | (refine w_e [] ?_; intro J hJ; simp only []; simp []; (refine hJ _ _ ?_; clear hJ J; simp only [ak, reduceIte]))))
  refine awp_own 5 32 1 (by simp) ?_
  refine awp_range 14 13 15 47 (a.g.es.length) (fun j fr st2 => fr 2 = .pt st.next 0 ∧ fr 3 = .pt (st.next + 1) 0 ∧ fr 12 = .sl 0 a.g.es.length (eds a.g.es) ∧ st2.H st.next = .box 41 3 (mpL a) ∧ st2.H (st.next + 1) = .box 41 3 (mpL b) ∧ st.next + 1 < st2.next ∧ Keeps st st2 ∧ ∃ t K, K = (a.g.es.take j).foldl (keepR a b) [] ∧ K.length ≤ j ∧ fr 5 = .sl t K.length (us K)) ?_ ?_ ?_
  · exact ⟨by simp, by simp, by simp, by simp, by simp, by simp, ((Keeps.new _ _).trans (Keeps.new _ _)).trans (Keeps.new _ _), st.next + 2, [], by simp, by simp, by simp⟩
  · rintro j fr s hlt ⟨f2, f3, f12, hG, hG2, hsn, hkp, t, K, hK, hKl, f5⟩ fi fn JO hJO
    have hd := eds_drop a.g.es j hlt
    have hel := eds_length a.g.es
    have hj3 : j * 3 < a.g.es.length * 3 := by omega
    have hxin : a.g.es.getD j ed0 ∈ a.g.es := by rw [getE_lt _ _ hlt]; exact List.getElem_mem hlt
    have hst := foldl_takeE (keepR a b) [] a.g.es j hlt
    rw [← hK] at hst
    simp only [hst] at hJO
    clear hst hK
    generalize a.g.es.getD j ed0 = x at *
    obtain ⟨d, p, q⟩ := x
    simp only at hd
    have e1 : ¬ st.next = s.next := by omega
    have e2 : ¬ st.next + 1 = s.next := by omega
    have hKs : small (K ++ [d]) := by unfold small; simp; omega
    have hfin : ∀ (fr' : Frm) (st' : St) (t' : Nat) (K' : List Int), keepR a b K ⟨d, p, q⟩ = K' → K'.length ≤ j + 1 → True := fun _ _ _ _ _ _ => trivial
    clear hfin
    (repeat' (first | refine awp_seq ?_ | (refine w_e [] ?_; intro J hJ; simp only []; simp [f12, fi, fn, hd, hlt, hel, hj3, f3, hG2, e2]; (try (refine hJ _ _ ?_; clear hJ J; simp only [ak, reduceIte])))))
    refine callK_ofE (dfFind b.g d _ (by omega)) (by simp) ?_; rintro r s1 ⟨rfl, h1⟩
    rw [h1]; clear h1 s1
    by_cases hneg : fe b.g.es d < 0
    · have hnb : ¬ (⟨d, p, q⟩ : Ed) ∈ b.g.es := fun h => (fe_mem hb.g h).1 hneg
      have hkeep : keepR a b K ⟨d, p, q⟩ = K := by unfold keepR; rw [if_neg fun h => hnb h.1]
      rw [hkeep] at hJO
      generalize fe b.g.es d = g at *
      (repeat' (first | refine awp_seq ?_ | (refine awp_exit ?_; simp only [ak, reduceIte]) | (refine awp_cond ?_; simp [hneg]) | ((first | (refine w_q ?_; intro J hJ) | (refine e_go ?_)); simp [hneg]; (refine hJ _ _ ?_; clear hJ J; simp only [ak, reduceIte]))))
      exact hJO _ _ (by simp [fi]) (by simp [fn]) ⟨by simp [f2], by simp [f3], by simp [f12], by simp [e1, hG], by simp [e2, hG2], by simp; omega, hkp.trans (Keeps.new _ _), t, K, rfl, by omega, by simp [f5]⟩
    · obtain ⟨k1, k2, k3⟩ := fe_lt _ _ hneg
      generalize (fe b.g.es d).toNat = k at *
      rw [k2]
      have hd2 := eds_drop b.g.es k k1
      have heL2 := eds_length b.g.es
      have hk3 : k * 3 < b.g.es.length * 3 := by omega
      have hk0 : ¬ (k : Int) < 0 := by omega
      have hyin : b.g.es.getD k ed0 ∈ b.g.es := by rw [getE_lt _ _ k1]; exact List.getElem_mem k1
      have hmem : (⟨d, p, q⟩ : Ed) ∈ b.g.es ↔ b.g.es.getD k ed0 = ⟨d, p, q⟩ := ⟨fun h => id_eq hb.g.ids hyin h k3, fun h => h ▸ hyin⟩
      generalize b.g.es.getD k ed0 = y at *
      obtain ⟨d', p', q'⟩ := y
      simp only at hd2 k3
      subst k3
      by_cases hpq : p' = p ∧ q' = q
      rotate_left
      · have hnb : ¬ (⟨d', p, q⟩ : Ed) ∈ b.g.es := fun h => hpq (by have := hmem.1 h; simpa using this)
        have hkeep : keepR a b K ⟨d', p, q⟩ = K := by unfold keepR; rw [if_neg fun h => hnb h.1]
        rw [hkeep] at hJO
        (repeat' (first | refine awp_seq ?_ | (refine awp_exit ?_; simp only [ak, reduceIte]) | (refine awp_cond ?_; simp [f3, hG2, e1, e2, hk0, k1, hd2, heL2, hk3, hpq]; (try with_reducible intro hc)) | ((first | (refine w_q ?_; intro J hJ) | (refine e_go ?_)); simp [f3, hG2, e1, e2, hk0, k1, hd2, heL2, hk3, hpq]; (refine hJ _ _ ?_; clear hJ J; simp only [ak, reduceIte]))))
        exact hJO _ _ (by simp [fi]) (by simp [fn]) ⟨by simp [f2], by simp [f3], by simp [f12], by simp [e1, hG], by simp [e2, hG2], by simp; omega, hkp.trans (Keeps.new _ _), t, K, rfl, by omega, by simp [f5]⟩
      · obtain ⟨rfl, rfl⟩ := hpq
        have hb1 := hmem.2 rfl
        (repeat' (first | refine awp_seq ?_ | (refine awp_skip ?_; simp only [ak, reduceIte]) | (refine awp_cond ?_; simp [f3, hG2, e1, e2, hk0, k1, hd2, heL2, hk3]) | ((first | (refine w_q ?_; intro J hJ) | (refine e_go ?_)); simp [f3, hG2, e1, e2, hk0, k1, hd2, heL2, hk3]; (refine hJ _ _ ?_; clear hJ J; simp only [ak, reduceIte]))))
        have hone := us_one K
        have e3 : ¬ st.next = s.next + 1 := by omega
        have e4 : ¬ st.next = s.next + 1 + 1 := by omega
        have e5 : ¬ st.next = s.next + 1 + 1 + 1 := by omega
        have e6 : ¬ st.next = s.next + 1 + 1 + 1 + 1 := by omega
        have e7 : ¬ st.next = s.next + 3 := by omega
        have e8 : ¬ st.next = s.next + 2 := by omega
        refine awp_cut1 (fun fr' s' => fr' 2 = .pt st.next 0 ∧ fr' 3 = .pt (st.next + 1) 0 ∧ fr' 12 = .sl 0 a.g.es.length (eds a.g.es) ∧ fr' 13 = i a.g.es.length ∧ fr' 14 = i j ∧ fr' 5 = .sl t K.length (us K) ∧ (∃ t9, fr' 9 = .sl t9 (K ++ [d']).length (us (K ++ [d']))) ∧ s'.H st.next = .box 41 3 (mpL a) ∧ s'.H (st.next + 1) = .box 41 3 (mpL b) ∧ st.next + 1 < s'.next ∧ Keeps st s') ?_ ?_
        · refine w_a [] [s.next] ?_; intro J hJ
          refine a_pre 5 [(1, true), (3, true), (4, true)] ?_
          simp [f5]
          refine a_alt2 4 (0, true) (5, true) ?_ ?_
          · simp
            refine a_alt2 3 (2, true) (5, true) ?_ ?_
            · simp [e1, e2, e3, e4, e5, hone, f5]
              refine ⟨⟨by omega, by simp only [maxLen]; omega⟩, ?_⟩
              refine a_pre 0 [(5, true), (6, true), (7, true)] ?_
              simp [e1, e2, e3, e4, e5, hone, f5]
              repeat (refine ⟨⟨by omega, by simp only [maxLen]; omega⟩, ?_⟩)
              refine aany_end (hJ _ _ ?_)
              simp only [ak]
              refine ⟨trivial, by simp [f2], by simp [f3], by simp [f12], by simp [fn], by simp [fi], by simp [f5], ⟨s.next + 1 + 1 + 1 + 1, by simp⟩, ?_, ?_, by simp; omega, ?_⟩
              · simp [e1, e3, e4, e5, e6, e7, e8, hG]
              · simp [e2, e1, e3, e4, e5, e6, e7, e8, hG2]
              · (repeat (first | exact hkp | (refine Keeps.trans ?_ (Keeps.new _ _)) | (refine Keeps.set ?_ (by omega) _)))
            · simp [e1, e2, e3, e4, e5, hone, f5]
              refine a_pre 0 [(2, true), (6, true), (7, true)] ?_
              simp [e1, e2, e3, e4, e5, hone, f5]
              repeat (refine ⟨⟨by omega, by simp only [maxLen]; omega⟩, ?_⟩)
              refine aany_end (hJ _ _ ?_)
              simp only [ak]
              refine ⟨trivial, by simp [f2], by simp [f3], by simp [f12], by simp [fn], by simp [fi], by simp [f5], ⟨s.next + 1 + 1 + 1 + 1, by simp⟩, ?_, ?_, by simp; omega, ?_⟩
              · simp [e1, e3, e4, e5, e6, e7, e8, hG]
              · simp [e2, e1, e3, e4, e5, e6, e7, e8, hG2]
              · (repeat (first | exact hkp | (refine Keeps.trans ?_ (Keeps.new _ _)) | (refine Keeps.set ?_ (by omega) _)))
          · simp
            refine a_pre 0 [(0, true), (2, true), (6, true), (7, true)] ?_
            simp [e1, e2, e3, e4, e5, hone, f5]
            repeat (refine ⟨⟨by omega, by simp only [maxLen]; omega⟩, ?_⟩)
            refine aany_end (hJ _ _ ?_)
            simp only [ak]
            refine ⟨trivial, by simp [f2], by simp [f3], by simp [f12], by simp [fn], by simp [fi], by simp [f5], ⟨s.next + 1 + 1 + 1 + 1, by simp⟩, ?_, ?_, by simp; omega, ?_⟩
            · simp [e1, e3, e4, e5, e6, e7, e8, hG]
            · simp [e2, e1, e3, e4, e5, e6, e7, e8, hG2]
            · (repeat (first | exact hkp | (refine Keeps.trans ?_ (Keeps.new _ _)) | (refine Keeps.set ?_ (by omega) _)))
        · rintro fr s2 ⟨f2, f3, f12, f13, f14, f5, ⟨t9, f9⟩, hG, hG2, hsn, hkp⟩
          (repeat' (first | refine awp_seq ?_ | (refine w_e [] ?_; intro J hJ; simp only []; simp [f2, f3, f9, hG, hG2])))
          refine callK_ofE (dfAlike a b ha hb (K ++ [d']) t9 _ (by omega) (by omega) (by omega) (by omega) hKs) (by simp) ?_; rintro r s1 ⟨rfl, h1⟩
          rw [h1]; clear h1 s1
          cases hal : alikeW a b (K ++ [d']) with
          | true =>
            have hkeep : keepR a b K ⟨d', p', q'⟩ = K ++ [d'] := by unfold keepR; rw [if_pos ⟨hb1, hal⟩]
            rw [hkeep] at hJO
            (repeat' (first | (refine awp_cond ?_; simp [f9]) | ((first | (refine w_e [] ?_; intro J hJ; simp only []) | (refine e_go ?_)); simp [f9]; (refine hJ _ _ ?_; clear hJ J; simp only [ak, reduceIte]))))
            exact hJO _ _ (by simp [f14]) (by simp [f13]) ⟨by simp [f2], by simp [f3], by simp [f12], hG, hG2, hsn, hkp, t9, _, rfl, by simp; omega, by simp⟩
          | false =>
            have hkeep : keepR a b K ⟨d', p', q'⟩ = K := by unfold keepR; rw [if_neg fun h => by rw [hal] at h; exact absurd h.2 (by simp)]
            rw [hkeep] at hJO
            (repeat' (first | (refine awp_skip ?_; simp only [ak, reduceIte]) | (refine awp_cond ?_; simp []) | (refine e_go ?_; simp []; (refine hJ _ _ ?_; clear hJ J; simp only [ak, reduceIte]))))
            exact hJO _ _ (by simp [f14]) (by simp [f13]) ⟨by simp [f2], by simp [f3], by simp [f12], hG, hG2, hsn, hkp, t, K, rfl, by omega, by simp [f5]⟩
  · rintro fr s ⟨f2, f3, f12, hG, hG2, hsn, hkp, t, K, hK, hKl, f5⟩
    rw [List.take_length] at hK
    obtain rfl : K = G0 := hK.trans hG0.symm
    (repeat' (first | refine awp_seq ?_ | (refine awp_ret ?_; simp only [ak, reduceIte]; simp [f5]) | (refine w_e [] ?_; intro J hJ; simp only []; simp [f5]; (refine hJ _ _ ?_; clear hJ J; simp only [ak, reduceIte]))))
    exact ⟨by simp [z0, z0L_map], hkp⟩
theorem dfKept (a b : Mp) (ha : MapOk a) (hb : MapOk b) (st : St) (hva : a.g.vs.length ≤ 100) (hea : a.g.es.length ≤ 100) (hvb : b.g.vs.length ≤ 100) (heb : b.g.es.length ≤ 100) :
    ACalls Tryz.prog 36 [.ag (mpL a), .ag (mpL b)] st fun r st' => r = .sl 0 (keptR a b).length (us (keptR a b)) ∧ st' = st :=
  acalls_tidy (Q := fun r => r = .sl 0 (keptR a b).length (us (keptR a b))) (dfKeptK a b ha hb st hva hea hvb heb) fun r h => by subst h; exact ⟨.inl rfl, belL_us _ _⟩

end Go.Proofs.YtjpnhjembncdkaaGreat.Aw

namespace Go.Proofs.YtjpnhjembncdkaaGreat.Aw
open Go Go.RowKit Go.Proofs.YtjpnhjembncdkaaGreat.Pl
set_option linter.unusedSimpArgs false
set_option linter.unusedVariables false

theorem dSame' (a b : List Int) (t t' : Nat) (st : St) (ha : small a) (hb : small b) :
    ACalls Tryz.prog 91 [.sl t a.length (us a), .sl t' b.length (us b)] st fun r st' => r = bb (decide (nrm a = nrm b)) ∧ st' = st :=
  acalls_tidy (Q := fun r => r = bb (decide (nrm a = nrm b))) (Same a b t t' st ha hb) fun r h => by subst h; trivial
theorem Kept_1K (a b : Mp) (ha : MapOk a) (hb : MapOk b) (v : Int) (I : List Int) (qa qm qb q : Nat) (MM : List (List Int × LV)) (st : St) (hva : a.g.vs.length ≤ 100) (hea : a.g.es.length ≤ 100) (hvb : b.g.vs.length ≤ 100) (heb : b.g.es.length ≤ 100)
    (h1 : st.H qa = .box 41 3 (mpL a)) (h2 : st.H qm = .box 91 1 [.mp q]) (h3 : st.H qb = .box 41 3 (mpL b)) (h4 : st.H q = .map false [.u32] MM) (hq : q < st.next) (hI : InM MM I) :
    ACalls Tryz.prog 90 [u v, .pt qa 0, .pt qm 0, .pt qb 0] st fun r st' => r = bb (sameW a b I v) ∧ Keeps st st' := by
  have s1 : small (tnW a v I) := by have := tnW_len ha v I; unfold small; omega
  have s2 : small (tnW b v I) := by have := tnW_len hb v I; unfold small; omega
  refine acalls_of_body tabOk Tryz.func90 rfl rfl Tryz.ntmps90 (rs := [.tmp 5]) rfl (by simp) ?_
  (repeat' (first | refine awp_seq ?_ | (refine w_e [] ?_; intro J hJ; simp only []; simp []; (refine hJ _ _ ?_; clear hJ J; simp only [ak, reduceIte]))))
  (refine w_s [] [qa, qm, qb] [(0, true), (1, true), (2, true), (4, true), (5, true), (6, true), (3, true), (7, true), (8, true), (9, true)] ?_; intro J hJ; simp [h1, h2, h3])
  refine dcallK_ofE (dTurn a ha v I q MM _ hva hea hq h4 hI) (by simp) ?_; rintro r s1 ⟨rfl, h1'⟩
  rw [h1']; clear h1' s1
  refine ⟨fun h => by first | (cases h; done) | simp [h1, h2, h3], ?_⟩
  (refine d_go ?_; simp [h1, h2, h3])
  refine dcallK_ofE (dTurn b hb v I q MM _ hvb heb hq h4 hI) (by simp) ?_; rintro r s1 ⟨rfl, h1'⟩
  rw [h1']; clear h1' s1
  refine ⟨fun h => by first | (cases h; done) | simp [h1, h2, h3], ?_⟩
  (refine d_go ?_; simp [h1, h2, h3])
  refine dcallK_ofE (dSame' _ _ 0 0 _ s1 s2) (by simp) ?_; rintro r s1 ⟨rfl, h1'⟩
  rw [h1', nrm_sameW]; clear h1' s1
  refine ⟨fun h => by first | (cases h; done) | simp [h1, h2, h3], ?_⟩
  (refine d_go ?_; simp []; (refine hJ _ _ ?_; clear hJ J; simp only [ak, reduceIte]))
  (repeat' (refine awp_ret ?_; simp only [ak, reduceIte]; simp []))
  exact Keeps.refl _
theorem Kept_1 (a b : Mp) (ha : MapOk a) (hb : MapOk b) (v : Int) (I : List Int) (qa qm qb q : Nat) (MM : List (List Int × LV)) (st : St) (hva : a.g.vs.length ≤ 100) (hea : a.g.es.length ≤ 100) (hvb : b.g.vs.length ≤ 100) (heb : b.g.es.length ≤ 100)
    (h1 : st.H qa = .box 41 3 (mpL a)) (h2 : st.H qm = .box 91 1 [.mp q]) (h3 : st.H qb = .box 41 3 (mpL b)) (h4 : st.H q = .map false [.u32] MM) (hq : q < st.next) (hI : InM MM I) :
    ACalls Tryz.prog 90 [u v, .pt qa 0, .pt qm 0, .pt qb 0] st fun r st' => r = bb (sameW a b I v) ∧ st' = st :=
  acalls_tidy (Q := fun r => r = bb (sameW a b I v)) (Kept_1K a b ha hb v I qa qm qb q MM st hva hea hvb heb h1 h2 h3 h4 hq hI) fun r h => by subst h; trivial

end Go.Proofs.YtjpnhjembncdkaaGreat.Aw

namespace Go.Proofs.YtjpnhjembncdkaaGreat.Aw
open Go Go.RowKit Go.Proofs.YtjpnhjembncdkaaGreat.Pl
set_option linter.unusedSimpArgs false
set_option linter.unusedVariables false

theorem IndexE (l : List Ed) (t : Nat) (x : Ed) (st : St) (hl : l.length ≤ 1000) :
    ACalls Tryz.prog 162 [.sl t l.length (eds l), .ag (edL x)] st fun r st' => (∃ k : Int, r = i k ∧ (0 ≤ k ↔ x ∈ l)) ∧ Keeps st st' := by
  obtain ⟨d, p, q⟩ := x
  refine acalls_of_body tabOk Tryz.func162 rfl rfl Tryz.ntmps162 (rs := [.tmp 4]) rfl (by simp) ?_
  (repeat' (first | refine awp_seq ?_ | refine awp_block ?_ | (refine w_e [] ?_; intro J hJ; simp only []; simp []; (refine hJ _ _ ?_; clear hJ J; simp only [ak, reduceIte]))))
  refine awp_range 8 7 9 18 (l.length) (fun j fr st2 => fr 0 = .sl t l.length (eds l) ∧ fr 3 = .pt st.next 0 ∧ st2.H st.next = .box 34 3 [u d, u p, u q] ∧ Keeps st st2 ∧ ∀ i, i < j → l.getD i ed0 ≠ ⟨d, p, q⟩) ?_ ?_ ?_
  · exact ⟨by simp, by simp, by simp, Keeps.new _ _, fun i hi => by omega⟩
  · rintro j fr s hlt ⟨f0, f3, hG, hkp, hno⟩ fi fn JO hJO
    have hd := eds_drop l j hlt
    have hel := eds_length l
    have hj3 : j * 3 < l.length * 3 := by omega
    have hin : l.getD j ed0 ∈ l := by rw [getE_lt _ _ hlt]; exact List.getElem_mem hlt
    have hnx : l.getD j ed0 ≠ ⟨d, p, q⟩ → ∀ i, i < j + 1 → l.getD i ed0 ≠ ⟨d, p, q⟩ := fun h i hi => by
      by_cases e : i = j
      · subst e; exact h
      · exact hno i (by omega)
    generalize l.getD j ed0 = y at *
    obtain ⟨d', p', q'⟩ := y
    simp only at hd
    have hj0 : (0 : Int) ≤ (j : Int) := by omega
    by_cases he : d = d' ∧ p = p' ∧ q = q'
    · obtain ⟨rfl, rfl, rfl⟩ := he
      (repeat' (first | refine awp_seq ?_ | (refine awp_ret ?_; simp only [ak, reduceIte]; simp [f0, f3, fi, fn, hd, hlt, hel, hj3, hG]) | (refine awp_cond ?_; simp [f0, f3, fi, fn, hd, hlt, hel, hj3, hG]) | ((first | (refine w_e [] ?_; intro J hJ; simp only []) | (refine w_q ?_; intro J hJ)); simp [f0, f3, fi, fn, hd, hlt, hel, hj3, hG]; (refine hJ _ _ ?_; clear hJ J; simp only [ak, reduceIte]))))
      exact ⟨hin, hkp⟩
    · have hn := hnx fun e => he (by simp at e; exact ⟨e.1.symm, e.2.1.symm, e.2.2.symm⟩)
      by_cases c1 : d = d'
      · subst c1
        by_cases c2 : p = p'
        · subst c2
          have c3 : ¬ q = q' := fun e => he ⟨rfl, rfl, e⟩
          (repeat' (first | refine awp_seq ?_ | (refine awp_skip ?_; simp only [ak, reduceIte]) | (refine awp_cond ?_; simp [f0, f3, fi, fn, hd, hlt, hel, hj3, hG, c3]) | ((first | (refine w_e [] ?_; intro J hJ; simp only []) | (refine w_q ?_; intro J hJ)); simp [f0, f3, fi, fn, hd, hlt, hel, hj3, hG, c3]; (refine hJ _ _ ?_; clear hJ J; simp only [ak, reduceIte]))))
          exact hJO _ _ (by simp [fi]) (by simp [fn]) ⟨by simp [f0], by simp [f3], hG, hkp, hn⟩
        · (repeat' (first | refine awp_seq ?_ | (refine awp_skip ?_; simp only [ak, reduceIte]) | (refine awp_cond ?_; simp [f0, f3, fi, fn, hd, hlt, hel, hj3, hG, c2]) | ((first | (refine w_e [] ?_; intro J hJ; simp only []) | (refine w_q ?_; intro J hJ)); simp [f0, f3, fi, fn, hd, hlt, hel, hj3, hG, c2]; (refine hJ _ _ ?_; clear hJ J; simp only [ak, reduceIte]))))
          exact hJO _ _ (by simp [fi]) (by simp [fn]) ⟨by simp [f0], by simp [f3], hG, hkp, hn⟩
      · (repeat' (first | refine awp_seq ?_ | (refine awp_skip ?_; simp only [ak, reduceIte]) | (refine awp_cond ?_; simp [f0, f3, fi, fn, hd, hlt, hel, hj3, hG, c1]) | ((first | (refine w_e [] ?_; intro J hJ; simp only []) | (refine w_q ?_; intro J hJ)); simp [f0, f3, fi, fn, hd, hlt, hel, hj3, hG, c1]; (refine hJ _ _ ?_; clear hJ J; simp only [ak, reduceIte]))))
        exact hJO _ _ (by simp [fi]) (by simp [fn]) ⟨by simp [f0], by simp [f3], hG, hkp, hn⟩
  · rintro fr s ⟨f0, f3, hG, hkp, hno⟩
    (repeat' (first | refine awp_seq ?_ | (refine awp_ret ?_; simp only [ak, reduceIte]; simp []) | (refine w_e [] ?_; intro J hJ; simp only []; simp []; (refine hJ _ _ ?_; clear hJ J; simp only [ak, reduceIte]))))
    refine ⟨fun h => ?_, hkp⟩
    obtain ⟨k, hk, e⟩ := List.mem_iff_getElem.1 h
    exact absurd (by rw [getE_lt _ _ hk, e]) (hno k hk)
theorem ContainsE (l : List Ed) (t : Nat) (x : Ed) (st : St) (hl : l.length ≤ 1000) :
    ACalls Tryz.prog 93 [.sl t l.length (eds l), .ag (edL x)] st fun r st' => r = bb (decide (x ∈ l)) ∧ st' = st := by
  refine acalls_tidy (Q := fun r => r = bb (decide (x ∈ l))) ?_ fun r h => by subst h; trivial
  have hi := fun st => acalls_tidy (Q := fun r => ∃ k : Int, r = i k ∧ (0 ≤ k ↔ x ∈ l)) (IndexE l t x st hl) fun r h => by obtain ⟨k, rfl, _⟩ := h; trivial
  obtain ⟨d, p, q⟩ := x
  have hdd : ∀ k : Int, (0 ≤ k ↔ (⟨d, p, q⟩ : Ed) ∈ l) → decide (0 ≤ k) = decide ((⟨d, p, q⟩ : Ed) ∈ l) := fun k h => decide_eq_decide.2 h
  generalize decide ((⟨d, p, q⟩ : Ed) ∈ l) = res at *
  refine acalls_of_body tabOk Tryz.func93 rfl rfl Tryz.ntmps93 (rs := [.tmp 4]) rfl (by simp) ?_
  (repeat' (first | refine awp_seq ?_ | (refine w_e [] ?_; intro J hJ; simp only []; simp []; (try (refine hJ _ _ ?_; clear hJ J; simp only [ak, reduceIte])))))
  refine callK_ofE (hi _) (by simp) ?_; rintro r s1 ⟨⟨k, rfl, hk⟩, h1⟩
  rw [h1]; clear h1 s1
  have := hdd k hk
  subst this
  (repeat' (first | (refine awp_ret ?_; simp only [ak, reduceIte]; simp []) | (refine e_go ?_; simp []; (refine hJ _ _ ?_; clear hJ J; simp only [ak, reduceIte]))))
  exact Keeps.new _ _

end Go.Proofs.YtjpnhjembncdkaaGreat.Aw

namespace Go.Proofs.YtjpnhjembncdkaaGreat.Aw
open Go Go.RowKit Go.Proofs.YtjpnhjembncdkaaGreat.Pl
set_option linter.unusedSimpArgs false
set_option linter.unusedVariables false

theorem InM.add {MM : List (List Int × LV)} {I : List Int} (h : InM MM I) (a : Int) : InM (mset MM [a] (i 1)) (I ++ [a]) := fun x => by
  rw [mget_mset]
  by_cases e : x = a
  · subst e
    rw [if_pos rfl]
    exact ⟨fun _ => rfl, fun h => absurd (by simp) h⟩
  · rw [if_neg (by simpa using e)]
    refine ⟨fun hx => (h x).1 ?_, fun hx => (h x).2 fun h2 => hx (by simp [h2])⟩
    simp only [List.mem_append, List.mem_singleton] at hx
    exact hx.resolve_right e
theorem mdel_mset {es : List (List Int × LV)} {a : List Int} (v : LV) (h : mget es a = none) : mdel (mset es a v) a = es := by
  induction es with
  | nil => simp [mset, mdel]
  | cons p es ih =>
    obtain ⟨k, w⟩ := p
    unfold mget at h
    by_cases e : a = k
    · subst e; simp at h
    · have e1 : (a == k) = false := by simpa using e
      rw [e1] at h
      unfold mset
      rw [e1]
      simp only [Bool.false_eq_true, if_false] at h ⊢
      unfold mdel
      rw [e1]
      simp only [Bool.false_eq_true, if_false]
      rw [ih h]
theorem keep1_in (a b : Mp) (l : List Ed) : ∀ K y, y ∈ l.foldl (keep1 a b) K → y ∈ K ∨ ∃ x ∈ l, x.id = y := by
  induction l with
  | nil => intro K y h; exact .inl h
  | cons x l ih =>
    intro K y h
    rcases ih _ _ h with h1 | ⟨z, hz, e⟩
    · unfold keep1 at h1
      split at h1
      · simp only [List.mem_append, List.mem_singleton] at h1
        rcases h1 with h1 | h1
        · exact .inl h1
        · exact .inr ⟨x, by simp, h1.symm⟩
      · exact .inl h1
    · exact .inr ⟨z, by simp [hz], e⟩
theorem keep1_new {a b : Mp} (ha : MapOk a) {j : Nat} (hj : j < a.g.es.length) : (a.g.es.getD j ed0).id ∉ (a.g.es.take j).foldl (keep1 a b) [] := fun h => by
  rcases keep1_in a b _ _ _ h with h1 | ⟨z, hz, e⟩
  · simp at h1
  · obtain ⟨k, hk, rfl⟩ := List.mem_iff_getElem.1 hz
    have hk2 : k < j := by rw [List.length_take] at hk; omega
    rw [List.getElem_take] at e
    have := List.pairwise_iff_getElem.1 ha.g.ids k j (by omega) hj hk2
    rw [getE_lt _ _ hj] at e
    omega

set_option maxHeartbeats 4000000 in
theorem KeptDK (a b : Mp) (ha : MapOk a) (hb : MapOk b) (st : St) (hva : a.g.vs.length ≤ 100) (hea : a.g.es.length ≤ 100) (hvb : b.g.vs.length ≤ 100) (heb : b.g.es.length ≤ 100) :
    ACalls Tryz.prog 35 [.ag (mpL a), .ag (mpL b)] st fun r st' => r = .sl 0 (keptW a b).length (us (keptW a b)) ∧ Keeps st st' := by
  obtain ⟨G0, hG0⟩ : ∃ G0, G0 = keptW a b := ⟨_, rfl⟩
  rw [← hG0]
  refine acalls_z0 ?_
  refine acalls_of_body tabOk Tryz.func35 rfl rfl Tryz.ntmps35 (rs := [.tmp 4]) rfl (by simp) ?_
  refine awp_posG fun hpos => ?_
  (repeat' (first | refine awp_seq ?_ | refine awp_block ?_ | (refine w_e [] ?_; intro J hJ; simp only []; simp []; (refine hJ _ _ ?_; clear hJ J; simp only [ak, reduceIte]))))
  refine awp_own 7 32 1 (by simp) ?_
  refine awp_range 16 15 17 47 (a.g.es.length) (fun j fr st2 => fr 2 = .pt st.next 0 ∧ fr 3 = .pt (st.next + 1) 0 ∧ fr 5 = .pt (st.next + 3) 0 ∧ fr 6 = .fn (.func 90) [.pt st.next 0, .pt (st.next + 3) 0, .pt (st.next + 1) 0] ∧ fr 14 = .sl 0 a.g.es.length (eds a.g.es) ∧ st2.H st.next = .box 41 3 (mpL a) ∧ st2.H (st.next + 1) = .box 41 3 (mpL b) ∧ st2.H (st.next + 3) = .box 91 1 [.mp (st.next + 2)] ∧ Keeps st st2 ∧ ∃ MM K tt, K = (a.g.es.take j).foldl (keep1 a b) [] ∧ K.length ≤ j ∧ st2.H (st.next + 2) = .map false [.u32] MM ∧ InM MM K ∧ fr 7 = .sl tt K.length (us K) ∧ st2.H tt = .own 32 1 K.length ∧ st.next + 3 < tt ∧ tt < st2.next) ?_ ?_ ?_
  · refine ⟨by simp, by simp, by simp, by simp, by simp, by simp, by simp, by simp, ?_, [], [], st.next + 4, by simp, by simp, by simp, fun x => ⟨fun h => by simp at h, fun _ => rfl⟩, by simp, by simp, by omega, by simp⟩
    (repeat (first | exact Keeps.refl _ | (refine Keeps.trans ?_ (Keeps.new _ _)) | (refine Keeps.set ?_ (by first | omega | (simp; done) | (simp; omega)) _)))
  · rintro j fr s hlt ⟨f2, f3, f5, f6, f14, hG, hG2, hB, hkp, MM, K, tt, hK, hKl, hM, hI, f7, hO, lt, ut⟩ fi fn JO hJO
    have hd := eds_drop a.g.es j hlt
    have hel := eds_length a.g.es
    have hj3 : j * 3 < a.g.es.length * 3 := by omega
    have hst := foldl_takeE (keep1 a b) [] a.g.es j hlt
    have hnew := keep1_new (b := b) ha hlt
    rw [← hK] at hst hnew
    simp only [hst] at hJO
    clear hst hK
    generalize a.g.es.getD j ed0 = x at *
    obtain ⟨d, p, q⟩ := x
    simp only at hd hnew
    have e1 : ¬ st.next = s.next := by omega
    have e2 : ¬ st.next + 1 = s.next := by omega
    have e3 : ¬ st.next + 2 = s.next := by omega
    have e4 : ¬ st.next + 3 = s.next := by omega
    have e5 : ¬ tt = s.next := by omega
    have hmn := (hI d).2 hnew
    have hI2 := hI.add d
    have hdel := mdel_mset (i 1) hmn
    (repeat' (first | refine awp_seq ?_ | (refine w_e [] ?_; intro J hJ; simp only []; simp [f14, fi, fn, hd, hlt, hel, hj3, f3, hG2, e2]; (try (refine hJ _ _ ?_; clear hJ J; simp only [ak, reduceIte])))))
    refine callK_ofE (ContainsE b.g.es 0 ⟨d, p, q⟩ _ (by omega)) (by simp) ?_; rintro r s1 ⟨rfl, h1⟩
    rw [h1]; clear h1 s1
    by_cases hin : (⟨d, p, q⟩ : Ed) ∈ b.g.es
    rotate_left
    · have hkeep : keep1 a b K ⟨d, p, q⟩ = K := by unfold keep1; rw [if_neg fun h => hin h.1]
      rw [hkeep] at hJO
      rw [decide_eq_false hin]
      (repeat' (first | (refine awp_exit ?_; simp only [ak, reduceIte]) | (refine awp_cond ?_; simp []) | (refine e_go ?_; simp []; (refine hJ _ _ ?_; clear hJ J; simp only [ak, reduceIte]))))
      exact hJO _ _ (by simp [fi]) (by simp [fn]) ⟨by simp [f2], by simp [f3], by simp [f5], by simp [f6], by simp [f14], by simp [e1, hG], by simp [e2, hG2], by simp [e4, hB], hkp.trans (Keeps.new _ _), MM, K, tt, rfl, by omega, by simp [e3, hM], hI, by simp [f7], by simp [e5, hO], lt, by simp; omega⟩
    · rw [decide_eq_true hin]
      have e6 : ¬ s.next = st.next + 2 := by omega
      (repeat' (first | refine awp_seq ?_ | (refine awp_skip ?_; simp only [ak, reduceIte]) | (refine awp_cond ?_; simp [f5, f6, hB, e4, hM, e3, e6]) | ((first | (refine w_e [] ?_; intro J hJ; simp only []) | (refine e_go ?_)); simp [f5, f6, hB, e4, hM, e3, e6]; (try (refine hJ _ _ ?_; clear hJ J; simp only [ak, reduceIte])))))
      refine callK_ofE (Kept_1 a b ha hb p (K ++ [d]) st.next (st.next + 3) (st.next + 1) (st.next + 2) _ _ hva hea hvb heb (by simp [e1, hG]) (by simp [e4, hB]) (by simp [e2, hG2]) (by simp) (by simp; omega) hI2) (by simp) ?_; rintro r s1 ⟨rfl, h1⟩
      rw [h1]; clear h1 s1
      cases hs1 : sameW a b (K ++ [d]) p with
      | false =>
        have hkeep : keep1 a b K ⟨d, p, q⟩ = K := by unfold keep1; rw [if_neg fun h => by rw [hs1] at h; exact absurd h.2.1 (by simp)]
        rw [hkeep] at hJO
        (repeat' (first | (refine awp_cond ?_; simp [f5, hB, e4, e6]) | ((first | (refine w_e [] ?_; intro J hJ; simp only []) | (refine e_go ?_)); simp [f5, hB, e4, e6]; (refine hJ _ _ ?_; clear hJ J; simp only [ak, reduceIte]))))
        exact hJO _ _ (by simp [fi]) (by simp [fn]) ⟨by simp [f2], by simp [f3], by simp [f5], by simp [f6], by simp [f14], by simp [e1, hG], by simp [e2, hG2], by simp [e4, hB], ((hkp.trans (Keeps.new _ _)).set (by omega) _).set (by omega) _, MM, K, tt, rfl, by omega, by simp [hdel], hI, by simp [f7], by simp [e5, show ¬ tt = st.next + 2 by omega, hO], lt, by simp; omega⟩
      | true =>
        (repeat' (refine e_go ?_; simp [f6, e6]))
        refine callK_ofE (Kept_1 a b ha hb q (K ++ [d]) st.next (st.next + 3) (st.next + 1) (st.next + 2) _ _ hva hea hvb heb (by simp [e1, hG]) (by simp [e4, hB]) (by simp [e2, hG2]) (by simp) (by simp; omega) hI2) (by simp) ?_; rintro r s1 ⟨rfl, h1⟩
        rw [h1]; clear h1 s1
        cases hs2 : sameW a b (K ++ [d]) q with
        | false =>
          have hkeep : keep1 a b K ⟨d, p, q⟩ = K := by unfold keep1; rw [if_neg fun h => by rw [hs2] at h; exact absurd h.2.2 (by simp)]
          rw [hkeep] at hJO
          (repeat' (first | (refine awp_cond ?_; simp [f5, hB, e4, e6]) | ((first | (refine w_e [] ?_; intro J hJ; simp only []) | (refine e_go ?_)); simp [f5, hB, e4, e6]; (refine hJ _ _ ?_; clear hJ J; simp only [ak, reduceIte]))))
          exact hJO _ _ (by simp [fi]) (by simp [fn]) ⟨by simp [f2], by simp [f3], by simp [f5], by simp [f6], by simp [f14], by simp [e1, hG], by simp [e2, hG2], by simp [e4, hB], ((hkp.trans (Keeps.new _ _)).set (by omega) _).set (by omega) _, MM, K, tt, rfl, by omega, by simp [hdel], hI, by simp [f7], by simp [e5, show ¬ tt = st.next + 2 by omega, hO], lt, by simp; omega⟩
        | true =>
          have hkeep : keep1 a b K ⟨d, p, q⟩ = K ++ [d] := by unfold keep1; rw [if_pos ⟨hin, hs1, hs2⟩]
          rw [hkeep] at hJO
          have e7 : ¬ tt = 0 := by omega
          have e8 : ¬ tt = st.next + 2 := by omega
          (repeat' (first | (refine awp_cond ?_; simp [f7, hO, e5, e6, e7, e8, show ¬ tt = s.next + 1 by omega]) | ((first | (refine w_e [] ?_; intro J hJ; simp only []) | (refine e_go ?_)); simp [f7, hO, e5, e6, e7, e8, show ¬ tt = s.next + 1 by omega]; (repeat refine ca ?_); (refine hJ _ _ ?_; clear hJ J; simp only [ak, reduceIte]))))
          refine hJO _ _ (by simp [fi]) (by simp [fn]) ⟨by simp [f2], by simp [f3], by simp [f5], by simp [f6], by simp [f14], by simp [e1, show ¬ st.next = s.next + 1 by omega, show ¬ st.next = s.next + 1 + 1 by omega, show ¬ st.next = tt by omega, hG], by simp [e1, e2, show ¬ st.next = s.next + 1 by omega, show ¬ st.next + 1 = tt by omega, hG2], by simp [e3, e4, show ¬ st.next + 2 = s.next + 1 by omega, show ¬ st.next + 1 = s.next by omega, show ¬ st.next + 3 = tt by omega, hB], ?_, mset MM [d] (i 1), K ++ [d], s.next + 1 + 1, rfl, by simp; omega, by simp [e3, show ¬ st.next + 1 = s.next by omega, show ¬ st.next = s.next by omega, show ¬ st.next + 2 = tt by omega], hI2, by simp, by simp, by omega, by simp⟩
          (repeat (first | exact hkp | (refine Keeps.trans ?_ (Keeps.new _ _)) | (refine Keeps.set ?_ (by omega) _)))
  · rintro fr s ⟨f2, f3, f5, f6, f14, hG, hG2, hB, hkp, MM, K, tt, hK, hKl, hM, hI, f7, hO, lt, ut⟩
    rw [List.take_length] at hK
    obtain rfl : K = G0 := hK.trans hG0.symm
    (repeat' (first | refine awp_seq ?_ | (refine awp_ret ?_; simp only [ak, reduceIte]; simp [f7]) | (refine w_e [] ?_; intro J hJ; simp only []; simp [f7]; (refine hJ _ _ ?_; clear hJ J; simp only [ak, reduceIte]))))
    exact ⟨by simp [z0, z0L_map], hkp⟩
theorem KeptD (a b : Mp) (ha : MapOk a) (hb : MapOk b) (st : St) (hva : a.g.vs.length ≤ 100) (hea : a.g.es.length ≤ 100) (hvb : b.g.vs.length ≤ 100) (heb : b.g.es.length ≤ 100) :
    ACalls Tryz.prog 35 [.ag (mpL a), .ag (mpL b)] st fun r st' => r = .sl 0 (keptW a b).length (us (keptW a b)) ∧ st' = st :=
  acalls_tidy (Q := fun r => r = .sl 0 (keptW a b).length (us (keptW a b))) (KeptDK a b ha hb st hva hea hvb heb) fun r h => by subst h; exact ⟨.inl rfl, belL_us _ _⟩

end Go.Proofs.YtjpnhjembncdkaaGreat.Aw

namespace Go.Proofs.YtjpnhjembncdkaaGreat.Aw
open Go Go.RowKit
set_option linter.unusedSimpArgs false
set_option linter.unusedVariables false

def stp (k id a b pa pb : Int) : LV := .ag [i k, u id, u a, u b, u pa, u pb]
theorem Link (x : Ed) (pa pb : Int) (st : St) : ACalls Tryz.prog 24 [.ag (edL x), u pa, u pb] st fun r st' => r = stp 3 x.id x.a x.b pa pb ∧ Keeps st st' := by
  obtain ⟨xi, xa, xb⟩ := x
  refine acalls_of_body tabOk Tryz.func24 rfl rfl Tryz.ntmps24 (rs := [.cell 6 47]) rfl (by simp) ?_
  (repeat' (first | refine awp_seq ?_ | (refine awp_ret ?_; simp only [ak, reduceIte]; simp []) | (refine w_e [] ?_; intro J hJ; simp only []; simp []; (refine hJ _ _ ?_; clear hJ J; simp only [ak, reduceIte]))))
  first | exact ⟨rfl, (Keeps.new _ _).trans (Keeps.new _ _)⟩ | exact (Keeps.new _ _).trans (Keeps.new _ _) | exact ⟨rfl, ((Keeps.new _ _).trans (Keeps.new _ _)).set (by simp) _⟩
theorem NoLink (n : Int) (st : St) : ACalls Tryz.prog 95 [u n] st fun r st' => r = stp 4 n 0 0 0 0 ∧ Keeps st st' := by
  refine acalls_of_body tabOk Tryz.func95 rfl rfl Tryz.ntmps95 (rs := [.cell 2 47]) rfl (by simp) ?_
  (repeat' (first | refine awp_seq ?_ | (refine awp_ret ?_; simp only [ak, reduceIte]; simp []) | (refine w_e [] ?_; intro J hJ; simp only []; simp []; (refine hJ _ _ ?_; clear hJ J; simp only [ak, reduceIte]))))
  first | exact ⟨rfl, Keeps.new _ _⟩ | exact Keeps.new _ _
theorem Vertex (n : Int) (st : St) : ACalls Tryz.prog 74 [u n] st fun r st' => r = stp 1 n 0 0 0 0 ∧ Keeps st st' := by
  refine acalls_of_body tabOk Tryz.func74 rfl rfl Tryz.ntmps74 (rs := [.cell 2 47]) rfl (by simp) ?_
  (repeat' (first | refine awp_seq ?_ | (refine awp_ret ?_; simp only [ak, reduceIte]; simp []) | (refine w_e [] ?_; intro J hJ; simp only []; simp []; (refine hJ _ _ ?_; clear hJ J; simp only [ak, reduceIte]))))
  first | exact ⟨rfl, Keeps.new _ _⟩ | exact Keeps.new _ _
theorem NoVertex (n : Int) (st : St) : ACalls Tryz.prog 97 [u n] st fun r st' => r = stp 2 n 0 0 0 0 ∧ Keeps st st' := by
  refine acalls_of_body tabOk Tryz.func97 rfl rfl Tryz.ntmps97 (rs := [.cell 2 47]) rfl (by simp) ?_
  (repeat' (first | refine awp_seq ?_ | (refine awp_ret ?_; simp only [ak, reduceIte]; simp []) | (refine w_e [] ?_; intro J hJ; simp only []; simp []; (refine hJ _ _ ?_; clear hJ J; simp only [ak, reduceIte]))))
  first | exact ⟨rfl, Keeps.new _ _⟩ | exact Keeps.new _ _

end Go.Proofs.YtjpnhjembncdkaaGreat.Aw
