/- The dual: how many faces; those near one. Maps, the document's: Turn, twin, Face. Maps, the document's: Face. Maps, the document's: Faces. The dual, the document's: faces' numbers, bridges. The dual, the document's: near faces. The dual as a map. The dual as a map, the document's. Maps: whether one may be, as the program says it. Maps: the genus, the program's and the document's. Maps: whether one may be, as the document says it; whether it lies in the plane. Whether any graph may be, of whatever size, as the document says it. The law DualMaps. -/
import Derived.Test.YtaiakdhcajibnaaGreatJe
import Derived.Test.YtaiakdhcajibnaaGreatAwZ
namespace Go.Proofs.YtaiakdhcajibnaaGreat.Aw
open Go Go.RowKit Go.Proofs.YtaiakdhcajibnaaGreat.Pl Go.Proofs.YtaiakdhcajibnaaGreat.Eu
set_option linter.unusedSimpArgs false
set_option linter.unusedVariables false

theorem dLen (m : Mp) (R : List (List Int)) (q mn : Nat) (st : St) (h : DF m R q mn st) :
    ACalls Tryz.prog 18 [.pt q 0] st fun r st' => r = i R.length ∧ st' = st := by
  obtain ⟨⟨t1, t2, hq⟩, _⟩ := h
  refine acalls_of_body tabOk Tryz.func18 rfl rfl Tryz.ntmps18 (rs := [.tmp 2]) rfl (by simp) ?_
  (repeat' (first | refine awp_seq ?_ | refine awp_block ?_ | ((first | refine awp_skip ?_ | refine awp_exit ?_); simp only [ak, reduceIte]) | (refine awp_ret ?_; simp only [ak, reduceIte]; simp [hq]) | (refine awp_cond ?_; simp [hq]; (try with_reducible refine ⟨?_, ?_⟩) <;> (try with_reducible intro hc) <;> try (exfalso; omega)) | ((first | (refine w_e [] ?_; intro J hJ; simp only []) | (refine w_q ?_; intro J hJ) | refine e_go ?_); simp [hq]; (repeat refine ca ?_); (try ((try with_reducible refine ⟨?_, ?_⟩) <;> (try with_reducible intro hnil) <;> refine hJ _ _ ?_ <;> clear hJ J <;> simp only [ak, reduceIte] <;> try subst hnil)))))

/-- The other faces at an edge of one. -/
def nrE (n : Int) (s : Sd) : List Int := if s.l = s.r then [] else (if s.l = n then [s.r] else []) ++ (if s.r = n then [s.l] else [])
def nrL (n : Int) (l : List Sd) : List Int := l.flatMap (nrE n)
theorem nrL_take (n : Int) (l : List Sd) (k : Nat) (hk : k < l.length) : nrL n (l.take (k + 1)) = nrL n (l.take k) ++ nrE n (l.getD k sd0) := by
  have : l.take (k + 1) = l.take k ++ [l.getD k sd0] := by
    rw [List.getD_eq_getElem?_getD, List.getElem?_eq_getElem hk]
    exact List.take_succ_eq_append_getElem hk
  rw [this]
  unfold nrL
  rw [List.flatMap_append]; simp
theorem nrE_len (n : Int) (s : Sd) : (nrE n s).length ≤ 2 := by
  unfold nrE
  split
  · simp
  · split <;> split <;> simp
theorem nrL_len (n : Int) (l : List Sd) : (nrL n l).length ≤ 2 * l.length := by
  induction l with
  | nil => simp [nrL]
  | cons s l ih =>
    have := nrE_len n s
    simp only [nrL, List.flatMap_cons, List.length_append, List.length_cons] at ih ⊢
    omega
theorem nrE_mem (n k : Int) (s : Sd) : k ∈ nrE n s ↔ s.l ≠ s.r ∧ (s.l = n ∧ s.r = k ∨ s.l = k ∧ s.r = n) := by
  unfold nrE
  by_cases h1 : s.l = s.r
  · rw [if_pos h1]; simp [h1]
  · rw [if_neg h1, List.mem_append]
    constructor
    · rintro (h | h)
      · by_cases h2 : s.l = n
        · rw [if_pos h2] at h; exact ⟨h1, .inl ⟨h2, (by simpa using h : k = s.r).symm⟩⟩
        · rw [if_neg h2] at h; simp at h
      · by_cases h2 : s.r = n
        · rw [if_pos h2] at h; exact ⟨h1, .inr ⟨(by simpa using h : k = s.l).symm, h2⟩⟩
        · rw [if_neg h2] at h; simp at h
    · rintro ⟨_, ⟨h2, h3⟩ | ⟨h2, h3⟩⟩
      · exact .inl (by rw [if_pos h2, h3]; simp)
      · exact .inr (by rw [if_pos h3, h2]; simp)
/-- A row of int that is written to, new since st. -/
def RowI (st st2 : St) (q : Nat) (l : List Int) : Prop := st2.H q = .box 3 1 (I.us l) ∧ st.next ≤ q ∧ q < st2.next ∧ Keeps st st2
def NearP (m : Mp) (R : List (List Int)) (n : Int) (st : St) (r : LV) (st' : St) : Prop := (∃ c : List Int, r = .sl 0 c.length (I.us c) ∧ c.Pairwise (· < ·) ∧ (∀ k, k ∈ c ↔ k ∈ nrL n (m.g.es.map (sideOf R))) ∧ c.length ≤ 2000) ∧ Keeps st st'

set_option maxHeartbeats 1000000 in
theorem dNear (m : Mp) (h : MapOk m) (R : List (List Int)) (q mn : Nat) (n : Int) (st : St) (he : m.g.es.length ≤ 1000) (hD : DF m R q mn st) :
    ACalls Tryz.prog 25 [.pt q 0, i n] st (NearP m R n st) := by
  have hsl := sds_length (m.g.es.map (sideOf R))
  rw [List.length_map] at hsl
  refine acalls_freeze ?_
  refine acalls_of_body tabOk Tryz.func25 rfl rfl Tryz.ntmps25 (rs := [.tmp 4]) rfl (by simp) ?_
  (repeat' (first | refine awp_seq ?_ | refine awp_block ?_ | ((first | refine awp_skip ?_ | refine awp_exit ?_); simp only [ak, reduceIte]) | (refine awp_ret ?_; simp only [ak, reduceIte]; simp []) | (refine awp_cond ?_; simp []; (try with_reducible refine ⟨?_, ?_⟩) <;> (try with_reducible intro hc) <;> try (exfalso; omega)) | ((first | (refine w_e [] ?_; intro J hJ; simp only []) | (refine w_q ?_; intro J hJ) | refine e_go ?_); simp []; (repeat refine ca ?_); (try ((try with_reducible refine ⟨?_, ?_⟩) <;> (try with_reducible intro hnil) <;> refine hJ _ _ ?_ <;> clear hJ J <;> simp only [ak, reduceIte] <;> try subst hnil)))))
  refine callK_ofE (dSides m h R q mn _ he hD) (by simp) ?_; rintro r s1 ⟨⟨ts, rfl⟩, hk1⟩
  have hn1 := hk1.next
  (repeat' (first | refine awp_seq ?_ | refine awp_block ?_ | ((first | refine awp_skip ?_ | refine awp_exit ?_); simp only [ak, reduceIte]) | (refine awp_ret ?_; simp only [ak, reduceIte]; simp []) | (refine awp_cond ?_; simp []; (try with_reducible refine ⟨?_, ?_⟩) <;> (try with_reducible intro hc) <;> try (exfalso; omega)) | ((first | (refine w_e [] ?_; intro J hJ; simp only []) | (refine w_q ?_; intro J hJ) | refine e_go ?_); simp []; (repeat refine ca ?_); (try ((try with_reducible refine ⟨?_, ?_⟩) <;> (try with_reducible intro hnil) <;> refine hJ _ _ ?_ <;> clear hJ J <;> simp only [ak, reduceIte] <;> try subst hnil)))))
  refine awp_ownM 5 3 1 (by simp) ?_
  refine awp_range 11 10 12 38 (m.g.es.length) (fun j fr st2 => fr 1 = i n ∧ fr 9 = .sl ts m.g.es.length (sds (m.g.es.map (sideOf R))) ∧ ∃ p, fr 5 = .ms p 0 (nrL n ((m.g.es.map (sideOf R)).take j)).length ∧ RowI s1 st2 p (nrL n ((m.g.es.map (sideOf R)).take j))) ?_ ?_ ?_
  · exact ⟨by simp, by simp, s1.next, by simp [nrL], by simp [nrL], Nat.le_refl _, by simp, Keeps.new _ _⟩
  · rintro j fr s2 hlt ⟨f1, f9, p, f5, hH, hp1, hp2, hkp⟩ fi fn JJ hJJ
    have hltm : j < (m.g.es.map (sideOf R)).length := by simpa using hlt
    have hd := sds_drop (m.g.es.map (sideOf R)) j hltm
    have hst := nrL_take n (m.g.es.map (sideOf R)) j hltm
    have hlen := nrL_len n ((m.g.es.map (sideOf R)).take j)
    rw [List.length_take] at hlen
    have hk3 : j * 3 < m.g.es.length * 3 := by omega
    generalize (m.g.es.map (sideOf R)).getD j sd0 = x at *
    generalize nrL n ((m.g.es.map (sideOf R)).take j) = B at *
    have hx : nrE n x = if x.l = x.r then [] else (if x.l = n then [x.r] else []) ++ (if x.r = n then [x.l] else []) := rfl
    obtain ⟨id, a, b⟩ := x
    simp only at hd hx
    have m1 : ¬ p = s2.next := by omega
    have m2 : ¬ p = s2.next + 1 := by omega
    have m3 : ¬ s2.next = p := by omega
    by_cases hab : a = b
    · rw [if_pos hab] at hx
      rw [hx, List.append_nil] at hst
      (repeat' (first | refine awp_seq ?_ | refine awp_block ?_ | ((first | refine awp_skip ?_ | refine awp_exit ?_); simp only [ak, reduceIte]) | (refine awp_ret ?_; simp only [ak, reduceIte]; simp [f9, fi, fn, hd, hsl, hk3, hlt, hab]) | (refine awp_cond ?_; simp [f9, fi, fn, hd, hsl, hk3, hlt, hab]; (try with_reducible refine ⟨?_, ?_⟩) <;> (try with_reducible intro hc) <;> try (exfalso; omega)) | ((first | (refine w_e [] ?_; intro J hJ; simp only []) | (refine w_q ?_; intro J hJ) | refine e_go ?_); simp [f9, fi, fn, hd, hsl, hk3, hlt, hab]; (repeat refine ca ?_); (try ((try with_reducible refine ⟨?_, ?_⟩) <;> (try with_reducible intro hnil) <;> refine hJ _ _ ?_ <;> clear hJ J <;> simp only [ak, reduceIte] <;> try subst hnil)))))
      exact hJJ _ _ (by simp [fi]) (by simp [fn]) ⟨by simp [f1], by simp [f9], p, by rw [hst]; simp [f5], by rw [hst, new_H, if_neg m1]; exact hH, hp1, by simp; omega, hkp.trans (Keeps.new _ _)⟩
    rw [if_neg hab] at hx
    by_cases h1 : a = n
    · have h2 : ¬ b = n := by omega
      rw [if_pos h1, if_neg h2, List.append_nil] at hx
      rw [hx] at hst
      (repeat' (first | refine awp_seq ?_ | refine awp_block ?_ | ((first | refine awp_skip ?_ | refine awp_exit ?_); simp only [ak, reduceIte]) | (refine awp_ret ?_; simp only [ak, reduceIte]; simp [f1, f5, f9, fi, fn, hd, hsl, hk3, hlt, hab, h1, h2, hH, m1, m2, m3]) | (refine awp_cond ?_; simp [f1, f5, f9, fi, fn, hd, hsl, hk3, hlt, hab, h1, h2, hH, m1, m2, m3]; (try with_reducible refine ⟨?_, ?_⟩) <;> (try with_reducible intro hc) <;> try (exfalso; omega)) | ((first | (refine w_e [] ?_; intro J hJ; simp only []) | (refine w_q ?_; intro J hJ) | refine e_go ?_); simp [f1, f5, f9, fi, fn, hd, hsl, hk3, hlt, hab, h1, h2, hH, m1, m2, m3]; (repeat refine ca ?_); (try ((try with_reducible refine ⟨?_, ?_⟩) <;> (try with_reducible intro hnil) <;> refine hJ _ _ ?_ <;> clear hJ J <;> simp only [ak, reduceIte] <;> try subst hnil)))))
      all_goals
        refine hJJ _ _ (by simp [fi]) (by simp [fn]) ⟨by simp [f1], by simp [f9], s2.next + 1 + 1, by rw [hst]; simp, by rw [hst]; simp, by have := hkp.next; omega, by simp, ?_⟩
        exact (((hkp.trans (Keeps.new _ _)).trans (Keeps.new _ _)).set hp1 _).trans (Keeps.new _ _)
    · by_cases h2 : b = n
      · rw [if_neg h1, if_pos h2, List.nil_append] at hx
        rw [hx] at hst
        (repeat' (first | refine awp_seq ?_ | refine awp_block ?_ | ((first | refine awp_skip ?_ | refine awp_exit ?_); simp only [ak, reduceIte]) | (refine awp_ret ?_; simp only [ak, reduceIte]; simp [f1, f5, f9, fi, fn, hd, hsl, hk3, hlt, hab, h1, h2, hH, m1, m2, m3]) | (refine awp_cond ?_; simp [f1, f5, f9, fi, fn, hd, hsl, hk3, hlt, hab, h1, h2, hH, m1, m2, m3]; (try with_reducible refine ⟨?_, ?_⟩) <;> (try with_reducible intro hc) <;> try (exfalso; omega)) | ((first | (refine w_e [] ?_; intro J hJ; simp only []) | (refine w_q ?_; intro J hJ) | refine e_go ?_); simp [f1, f5, f9, fi, fn, hd, hsl, hk3, hlt, hab, h1, h2, hH, m1, m2, m3]; (repeat refine ca ?_); (try ((try with_reducible refine ⟨?_, ?_⟩) <;> (try with_reducible intro hnil) <;> refine hJ _ _ ?_ <;> clear hJ J <;> simp only [ak, reduceIte] <;> try subst hnil)))))
        all_goals
          refine hJJ _ _ (by simp [fi]) (by simp [fn]) ⟨by simp [f1], by simp [f9], s2.next + 1 + 1, by rw [hst]; simp, by rw [hst]; simp, by have := hkp.next; omega, by simp, ?_⟩
          exact (((hkp.trans (Keeps.new _ _)).trans (Keeps.new _ _)).set hp1 _).trans (Keeps.new _ _)
      · rw [if_neg h1, if_neg h2, List.append_nil] at hx
        rw [hx, List.append_nil] at hst
        (repeat' (first | refine awp_seq ?_ | refine awp_block ?_ | ((first | refine awp_skip ?_ | refine awp_exit ?_); simp only [ak, reduceIte]) | (refine awp_ret ?_; simp only [ak, reduceIte]; simp [f1, f5, f9, fi, fn, hd, hsl, hk3, hlt, hab, h1, h2]) | (refine awp_cond ?_; simp [f1, f5, f9, fi, fn, hd, hsl, hk3, hlt, hab, h1, h2]; (try with_reducible refine ⟨?_, ?_⟩) <;> (try with_reducible intro hc) <;> try (exfalso; omega)) | ((first | (refine w_e [] ?_; intro J hJ; simp only []) | (refine w_q ?_; intro J hJ) | refine e_go ?_); simp [f1, f5, f9, fi, fn, hd, hsl, hk3, hlt, hab, h1, h2]; (repeat refine ca ?_); (try ((try with_reducible refine ⟨?_, ?_⟩) <;> (try with_reducible intro hnil) <;> refine hJ _ _ ?_ <;> clear hJ J <;> simp only [ak, reduceIte] <;> try subst hnil)))))
        exact hJJ _ _ (by simp [fi]) (by simp [fn]) ⟨by simp [f1], by simp [f9], p, by rw [hst]; simp [f5], by rw [hst, new_H, if_neg m1]; exact hH, hp1, by simp; omega, hkp.trans (Keeps.new _ _)⟩
  · rintro fr s2 ⟨f1, f9, p, f5, hH, hp1, hp2, hkp⟩
    have htl : (m.g.es.map (sideOf R)).take m.g.es.length = m.g.es.map (sideOf R) := List.take_of_length_le (by simp)
    rw [htl] at f5 hH
    have hlen := nrL_len n (m.g.es.map (sideOf R))
    rw [List.length_map] at hlen
    unfold NearP
    generalize nrL n (m.g.es.map (sideOf R)) = B at *
    (repeat' (first | refine awp_seq ?_ | refine awp_block ?_ | ((first | refine awp_skip ?_ | refine awp_exit ?_); simp only [ak, reduceIte]) | (refine awp_ret ?_; simp only [ak, reduceIte]; simp [f5]) | (refine awp_cond ?_; simp [f5]; (try with_reducible refine ⟨?_, ?_⟩) <;> (try with_reducible intro hc) <;> try (exfalso; omega)) | ((first | (refine w_e [] ?_; intro J hJ; simp only []) | (refine w_q ?_; intro J hJ) | refine e_go ?_); simp [f5]; (repeat refine ca ?_); (try ((try with_reducible refine ⟨?_, ?_⟩) <;> (try with_reducible intro hnil) <;> refine hJ _ _ ?_ <;> clear hJ J <;> simp only [ak, reduceIte] <;> try subst hnil)))))
    refine callK_ofE (I.SortU B p s2 (by omega) hp2 hH) (by simp) ?_; rintro r s3 ⟨c, hc, hcp, hcs, hof⟩
    have hcl := hcp.length_eq
    rw [← hcl] at f5
    have hK3 : Keeps st s3 := ⟨by have := hof.1; have := hkp.next; omega, fun l hl => (hof.2 l (by omega) (by have := hkp.next; omega)).trans ((hk1.trans hkp).H l hl)⟩
    have hn3 := hof.1
    (repeat' (first | refine awp_seq ?_ | refine awp_block ?_ | ((first | refine awp_skip ?_ | refine awp_exit ?_); simp only [ak, reduceIte]) | (refine awp_ret ?_; simp only [ak, reduceIte]; simp [f5]) | (refine awp_cond ?_; simp [f5]; (try with_reducible refine ⟨?_, ?_⟩) <;> (try with_reducible intro hc) <;> try (exfalso; omega)) | ((first | (refine w_e [] ?_; intro J hJ; simp only []) | (refine w_q ?_; intro J hJ) | refine e_go ?_); simp [f5]; (repeat refine ca ?_); (try ((try with_reducible refine ⟨?_, ?_⟩) <;> (try with_reducible intro hnil) <;> refine hJ _ _ ?_ <;> clear hJ J <;> simp only [ak, reduceIte] <;> try subst hnil)))))
    refine callK_ofE (I.Compact c p s3 (by omega) hc) (by simp) ?_; rintro r s4 ⟨rfl, cs, rfl⟩
    have hce : (I.cpt c).length ≤ c.length := I.cptT_le c c.length
    (repeat' (first | refine awp_seq ?_ | refine awp_block ?_ | ((first | refine awp_skip ?_ | refine awp_exit ?_); simp only [ak, reduceIte]) | (refine awp_ret ?_; simp only [ak, reduceIte]; simp []) | (refine awp_cond ?_; simp []; (try with_reducible refine ⟨?_, ?_⟩) <;> (try with_reducible intro hc) <;> try (exfalso; omega)) | ((first | (refine w_e [] ?_; intro J hJ; simp only []) | (refine w_q ?_; intro J hJ) | refine e_go ?_); simp []; (repeat refine ca ?_); (try ((try with_reducible refine ⟨?_, ?_⟩) <;> (try with_reducible intro hnil) <;> refine hJ _ _ ?_ <;> clear hJ J <;> simp only [ak, reduceIte] <;> try subst hnil)))))
    refine ⟨p, _, ⟨rfl, rfl⟩, _, _, _, (show (s3.set p (.box 3 1 (I.us (I.cpt c) ++ cs))).H p = _ by rw [set_H, if_pos rfl]), by simp, ⟨I.cpt c, ?_, I.cpt_lt hcs, fun k => (I.cpt_mem hcs k).trans hcp.mem_iff, by omega⟩, ?_⟩
    · rw [Nat.mul_one, List.take_append_of_le_length (by simp), List.take_of_length_le (by simp)]
      exact ⟨rfl, rfl⟩
    · exact (hK3.set (by omega) _).set (by omega) _

end Go.Proofs.YtaiakdhcajibnaaGreat.Aw

namespace Go.Proofs.YtaiakdhcajibnaaGreat.Aw
open Go Go.RowKit Go.Proofs.YtaiakdhcajibnaaGreat.Pl Go.Proofs.YtaiakdhcajibnaaGreat.Eu
set_option linter.unusedSimpArgs false
set_option linter.unusedVariables false

theorem ref_Turn (m : Mp) (d : Int) (st : St) (hr : m.rots.length ≤ 1000) (hs : ∀ t ∈ m.rots, small t) :
    ACalls Tryz.prog 137 [.ag (mpL m), u d] st fun r st' => r = i (tix m.rots d) ∧ Keeps st st' := by
  refine acalls_of_body tabOk Tryz.func137 rfl rfl Tryz.ntmps137 (rs := [.tmp 4]) rfl (by simp) ?_
  (repeat' (first | refine awp_seq ?_ | refine awp_block ?_ | ((first | refine awp_skip ?_ | refine awp_exit ?_); simp only [ak, reduceIte]) | (refine awp_ret ?_; simp only [ak, reduceIte]; simp []) | (refine awp_cond ?_; simp []; (try with_reducible refine ⟨?_, ?_⟩) <;> (try with_reducible intro hc) <;> try (exfalso; omega)) | ((first | (refine w_e [] ?_; intro J hJ; simp only []) | (refine w_q ?_; intro J hJ) | refine e_go ?_); simp []; (repeat refine ca ?_); (try ((try with_reducible refine ⟨?_, ?_⟩) <;> (try with_reducible intro hnil) <;> refine hJ _ _ ?_ <;> clear hJ J <;> simp only [ak, reduceIte] <;> try subst hnil)))))
  refine awp_range 9 8 10 21 (m.rots.length) (fun j fr st2 => fr 1 = u d ∧ fr 2 = .pt st.next 0 ∧ st2.H st.next = .box 28 3 (mpL m) ∧ Keeps st st2 ∧ ∀ k, k < j → d ∉ m.rots.getD k []) ?_ ?_ ?_
  · exact ⟨by simp, by simp, by simp, Keeps.new _ _, fun k hk => by omega⟩
  · rintro j fr st2 hlt ⟨f1, f2, hG, hkp, hno⟩ fi fn JJ hJJ
    have hd := rowsL_drop m.rots j hlt
    have hRl : j < (rowsL m.rots).length := by simpa using hlt
    have htin : m.rots.getD j [] ∈ m.rots := by rw [getR_lt _ _ hlt]; exact List.getElem_mem _
    have hsm := hs _ htin
    have hso := fun h => tix_some (d := d) hlt h hno
    have hnn : d ∉ m.rots.getD j [] → ∀ k, k < j + 1 → d ∉ m.rots.getD k [] := fun h k hk => by
      rcases Nat.lt_or_ge k j with h1 | h1
      · exact hno k h1
      · obtain rfl : k = j := by omega
        exact h
    generalize m.rots.getD j [] = t at *
    (repeat' (first | refine awp_seq ?_ | refine awp_block ?_ | ((first | refine awp_skip ?_ | refine awp_exit ?_); simp only [ak, reduceIte]) | (refine awp_ret ?_; simp only [ak, reduceIte]; simp [f1, f2, hG, fi, fn, hd, hRl, hlt]) | (refine awp_cond ?_; simp [f1, f2, hG, fi, fn, hd, hRl, hlt]; (try with_reducible refine ⟨?_, ?_⟩) <;> (try with_reducible intro hc) <;> try (exfalso; omega)) | ((first | (refine w_e [] ?_; intro J hJ; simp only []) | (refine w_q ?_; intro J hJ) | refine e_go ?_); simp [f1, f2, hG, fi, fn, hd, hRl, hlt]; (repeat refine ca ?_); (try ((try with_reducible refine ⟨?_, ?_⟩) <;> (try with_reducible intro hnil) <;> refine hJ _ _ ?_ <;> clear hJ J <;> simp only [ak, reduceIte] <;> try subst hnil)))))
    refine callK_ofE (Find t 0 d _ hsm) (by simp) ?_; rintro r s3 ⟨rfl, rfl⟩
    by_cases hdt : d ∈ t
    · have hr := hso hdt
      have hg := gi_mem hdt
      (repeat' (first | refine awp_seq ?_ | refine awp_block ?_ | ((first | refine awp_skip ?_ | refine awp_exit ?_); simp only [ak, reduceIte]) | (refine awp_ret ?_; simp only [ak, reduceIte]; simp [hg, hr]) | (refine awp_cond ?_; simp [hg, hr]; (try with_reducible refine ⟨?_, ?_⟩) <;> (try with_reducible intro hc) <;> try (exfalso; omega)) | ((first | (refine w_e [] ?_; intro J hJ; simp only []) | (refine w_q ?_; intro J hJ) | refine e_go ?_); simp [hg, hr]; (repeat refine ca ?_); (try ((try with_reducible refine ⟨?_, ?_⟩) <;> (try with_reducible intro hnil) <;> refine hJ _ _ ?_ <;> clear hJ J <;> simp only [ak, reduceIte] <;> try subst hnil)))))
      exact hkp
    · have hg := gi_not hdt
      (repeat' (first | refine awp_seq ?_ | refine awp_block ?_ | ((first | refine awp_skip ?_ | refine awp_exit ?_); simp only [ak, reduceIte]) | (refine awp_ret ?_; simp only [ak, reduceIte]; simp [hg]) | (refine awp_cond ?_; simp [hg]; (try with_reducible refine ⟨?_, ?_⟩) <;> (try with_reducible intro hc) <;> try (exfalso; omega)) | ((first | (refine w_e [] ?_; intro J hJ; simp only []) | (refine w_q ?_; intro J hJ) | refine e_go ?_); simp [hg]; (repeat refine ca ?_); (try ((try with_reducible refine ⟨?_, ?_⟩) <;> (try with_reducible intro hnil) <;> refine hJ _ _ ?_ <;> clear hJ J <;> simp only [ak, reduceIte] <;> try subst hnil)))))
      exact hJJ _ _ (by simp [fi]) (by simp [fn]) ⟨by simp [f1], by simp [f2], hG, hkp, hnn hdt⟩
  · rintro fr st2 ⟨f1, f2, hG, hkp, hno⟩
    have hr := tix_none hno
    (repeat' (first | refine awp_seq ?_ | refine awp_block ?_ | ((first | refine awp_skip ?_ | refine awp_exit ?_); simp only [ak, reduceIte]) | (refine awp_ret ?_; simp only [ak, reduceIte]; simp [hr]) | (refine awp_cond ?_; simp [hr]; (try with_reducible refine ⟨?_, ?_⟩) <;> (try with_reducible intro hc) <;> try (exfalso; omega)) | ((first | (refine w_e [] ?_; intro J hJ; simp only []) | (refine w_q ?_; intro J hJ) | refine e_go ?_); simp [hr]; (repeat refine ca ?_); (try ((try with_reducible refine ⟨?_, ?_⟩) <;> (try with_reducible intro hnil) <;> refine hJ _ _ ?_ <;> clear hJ J <;> simp only [ak, reduceIte] <;> try subst hnil)))))
    exact hkp

theorem ref_twin (d : Int) (st : St) (h0 : 0 ≤ d) (h1 : d < 4294967295) : ACalls Tryz.prog 138 [u d] st fun r st' => r = u (tw d) ∧ st' = st := by
  have hm : d.tmod 2 = d % 2 := Int.tmod_eq_emod_of_nonneg h0
  by_cases hp : d % 2 = 0
  · have ht : tw d = d + 1 := by unfold tw; rw [if_pos hp]
    have hw : IntKind.u32.wrap (d + 1) = d + 1 := wrap_u32' _ (by omega) (by omega)
    refine acalls_of_body tabOk Tryz.func138 rfl rfl Tryz.ntmps138 (rs := [.tmp 2]) rfl (by simp) ?_
    (repeat' (first | refine awp_seq ?_ | refine awp_block ?_ | ((first | refine awp_skip ?_ | refine awp_exit ?_); simp only [ak, reduceIte]) | (refine awp_ret ?_; simp only [ak, reduceIte]; simp [hm, hp, ht, hw]) | (refine awp_cond ?_; simp [hm, hp, ht, hw]; (try with_reducible refine ⟨?_, ?_⟩) <;> (try with_reducible intro hc) <;> try (exfalso; omega)) | ((first | (refine w_e [] ?_; intro J hJ; simp only []) | (refine w_q ?_; intro J hJ) | refine e_go ?_); simp [hm, hp, ht, hw]; (repeat refine ca ?_); (try ((try with_reducible refine ⟨?_, ?_⟩) <;> (try with_reducible intro hnil) <;> refine hJ _ _ ?_ <;> clear hJ J <;> simp only [ak, reduceIte] <;> try subst hnil)))))
  · have ht : tw d = d - 1 := by unfold tw; rw [if_neg hp]
    have hw : IntKind.u32.wrap (d - 1) = d - 1 := wrap_u32' _ (by omega) (by omega)
    refine acalls_of_body tabOk Tryz.func138 rfl rfl Tryz.ntmps138 (rs := [.tmp 2]) rfl (by simp) ?_
    (repeat' (first | refine awp_seq ?_ | refine awp_block ?_ | ((first | refine awp_skip ?_ | refine awp_exit ?_); simp only [ak, reduceIte]) | (refine awp_ret ?_; simp only [ak, reduceIte]; simp [hm, hp, ht, hw]) | (refine awp_cond ?_; simp [hm, hp, ht, hw]; (try with_reducible refine ⟨?_, ?_⟩) <;> (try with_reducible intro hc) <;> try (exfalso; omega)) | ((first | (refine w_e [] ?_; intro J hJ; simp only []) | (refine w_q ?_; intro J hJ) | refine e_go ?_); simp [hm, hp, ht, hw]; (repeat refine ca ?_); (try ((try with_reducible refine ⟨?_, ?_⟩) <;> (try with_reducible intro hnil) <;> refine hJ _ _ ?_ <;> clear hJ J <;> simp only [ak, reduceIte] <;> try subst hnil)))))

end Go.Proofs.YtaiakdhcajibnaaGreat.Aw

namespace Go.Proofs.YtaiakdhcajibnaaGreat.Aw
open Go Go.RowKit Go.Proofs.YtaiakdhcajibnaaGreat.Pl Go.Proofs.YtaiakdhcajibnaaGreat.Eu
set_option linter.unusedSimpArgs false
set_option linter.unusedVariables false

/-- The darts of the face of one, told normally. -/
def IsFace (m : Mp) (d : Int) (c : List Int) : Prop := (d ∈ darts m.g.es ∧ ∃ L, IsCyc (fc m m.g.es) d L ∧ c = nrm L) ∨ (d ∉ darts m.g.es ∧ c = [])
def FaceP (m : Mp) (d : Int) (st : St) (r : LV) (st' : St) : Prop := (∃ c, r = .sl 0 c.length (us c) ∧ IsFace m d c) ∧ Keeps st st'

theorem ref_Face (m : Mp) (h : MapOk m) (d : Int) (st : St) (hv : m.g.vs.length ≤ 1000) (he : m.g.es.length ≤ 1000) :
    ACalls Tryz.prog 91 [.ag (mpL m), u d] st (FaceP m d st) := by
  have hsm : ∀ t ∈ m.rots, small t := fun t ht => by have := h.row_le ht; unfold small; omega
  have hrl := h.len
  refine acalls_norm ?_
  by_cases hd : d ∈ darts m.g.es
  rotate_left
  · have ht := tix_out (rs := m.rots) fun t ht hdt => hd (h.turn_dart ht hdt)
    refine acalls_of_body tabOk Tryz.func91 rfl rfl Tryz.ntmps91 (rs := [.tmp 4]) rfl (by simp) ?_
    (repeat' (first | refine awp_seq ?_ | refine awp_block ?_ | ((first | refine awp_skip ?_ | refine awp_exit ?_); simp only [ak, reduceIte]) | (refine awp_ret ?_; simp only [ak, reduceIte]; simp []) | (refine awp_cond ?_; simp []; (try with_reducible refine ⟨?_, ?_⟩) <;> (try with_reducible intro hc) <;> try (exfalso; omega)) | ((first | (refine w_e [] ?_; intro J hJ; simp only []) | (refine w_q ?_; intro J hJ) | refine e_go ?_); simp []; (repeat refine ca ?_); (try ((try with_reducible refine ⟨?_, ?_⟩) <;> (try with_reducible intro hnil) <;> refine hJ _ _ ?_ <;> clear hJ J <;> simp only [ak, reduceIte] <;> try subst hnil)))))
    refine callK_ofE (ref_Turn m d _ (by omega) hsm) (by simp) ?_; rintro r s1 ⟨rfl, hk1⟩
    (repeat' (first | refine awp_seq ?_ | refine awp_block ?_ | ((first | refine awp_skip ?_ | refine awp_exit ?_); simp only [ak, reduceIte]) | (refine awp_ret ?_; simp only [ak, reduceIte]; simp [ht]) | (refine awp_cond ?_; simp [ht]; (try with_reducible refine ⟨?_, ?_⟩) <;> (try with_reducible intro hc) <;> try (exfalso; omega)) | ((first | (refine w_e [] ?_; intro J hJ; simp only []) | (refine w_q ?_; intro J hJ) | refine e_go ?_); simp [ht]; (repeat refine ca ?_); (try ((try with_reducible refine ⟨?_, ?_⟩) <;> (try with_reducible intro hnil) <;> refine hJ _ _ ?_ <;> clear hJ J <;> simp only [ak, reduceIte] <;> try subst hnil)))))
    exact ⟨⟨[], rfl, .inr ⟨hd, rfl⟩⟩, (Keeps.new _ _).trans hk1⟩
  have hP := h.fc_per m.g.es (fun x hx => hx)
  obtain ⟨L, p, hp, hL, hp1, hp2⟩ := isCyc_ex hP d
  have hcyc : IsCyc (fc m m.g.es) d L := ⟨p, hp, hL, hp1, hp2⟩
  have hL' : L = itL (fc m m.g.es) d p := hL
  have hdk : ∀ k, it (fc m m.g.es) k d ∈ darts m.g.es := by
    intro k
    induction k with
    | zero => exact hd
    | succ k ih => rw [it_succ]; exact h.fc_dart _ _ ih
  have hpl : p ≤ 2 * m.g.es.length := by
    have := (h.cyc_le hd hcyc).2
    rwa [hL', itL_len] at this
  obtain ⟨k0, hk0, ht0, _⟩ := tix_in (h.turn_of hd)
  have hfx : ∀ x, x ∈ darts m.g.es → fc m m.g.es x = sg m (tw x) := fun x hx => by unfold fc; rw [al_in hx]
  refine acalls_of_body tabOk Tryz.func91 rfl rfl Tryz.ntmps91 (rs := [.tmp 4]) rfl (by simp) ?_
  (repeat' (first | refine awp_seq ?_ | refine awp_block ?_ | ((first | refine awp_skip ?_ | refine awp_exit ?_); simp only [ak, reduceIte]) | (refine awp_ret ?_; simp only [ak, reduceIte]; simp []) | (refine awp_cond ?_; simp []; (try with_reducible refine ⟨?_, ?_⟩) <;> (try with_reducible intro hc) <;> try (exfalso; omega)) | ((first | (refine w_e [] ?_; intro J hJ; simp only []) | (refine w_q ?_; intro J hJ) | refine e_go ?_); simp []; (repeat refine ca ?_); (try ((try with_reducible refine ⟨?_, ?_⟩) <;> (try with_reducible intro hnil) <;> refine hJ _ _ ?_ <;> clear hJ J <;> simp only [ak, reduceIte] <;> try subst hnil)))))
  refine callK_ofE (ref_Turn m d _ (by omega) hsm) (by simp) ?_; rintro r s1 ⟨rfl, hk1⟩
  have hn1 := hk1.next
  simp only [new_next] at hn1
  have hG1 : s1.H st.next = .box 28 3 (mpL m) := by rw [hk1.H _ (by simp)]; simp
  (repeat' (first | refine awp_seq ?_ | refine awp_block ?_ | ((first | refine awp_skip ?_ | refine awp_exit ?_); simp only [ak, reduceIte]) | (refine awp_ret ?_; simp only [ak, reduceIte]; simp [ht0]) | (refine awp_cond ?_; simp [ht0]; (try with_reducible refine ⟨?_, ?_⟩) <;> (try with_reducible intro hc) <;> try (exfalso; omega)) | ((first | (refine w_e [] ?_; intro J hJ; simp only []) | (refine w_q ?_; intro J hJ) | refine e_go ?_); simp [ht0]; (repeat refine ca ?_); (try ((try with_reducible refine ⟨?_, ?_⟩) <;> (try with_reducible intro hnil) <;> refine hJ _ _ ?_ <;> clear hJ J <;> simp only [ak, reduceIte] <;> try subst hnil)))))
  refine awp_posG fun hpos => ?_
  refine awp_own 5 29 1 (by simp) ?_
  generalize hf : fc m m.g.es = f at *
  refine awp_loop (fun n fr st2 => ∃ k : Nat, k < p ∧ n = p - k ∧ fr 1 = u d ∧ fr 2 = .pt st.next 0 ∧ fr 6 = u (it f k d) ∧ st2.H st.next = .box 28 3 (mpL m) ∧ ∃ t, fr 5 = .sl t k (us (itL f d k)) ∧ (t ≠ 0 ∧ st.next < t ∧ t < st2.next) ∧ st2.H t = .own 29 1 k ∧ Keeps st st2) p ?_ ?_
  · exact ⟨0, by omega, by omega, by simp, by simp, by simp [it], by simp [show ¬ st.next = s1.next by omega, hG1], s1.next, by simp [itL], ⟨by omega, by omega, by simp⟩, by simp, ((Keeps.new _ _).trans hk1).trans (Keeps.new _ _)⟩
  rintro n fr st2 ⟨k, hk, rfl, f1, f2, f6, hG, t, f5, ⟨t0, t1, t2⟩, htH, hkp⟩ JJ hJJ
  have hn2 := hkp.next
  have hxd := hdk k
  have hx1 := dart_range h hxd
  obtain ⟨kt, hkt, htx, hmem⟩ := tix_in (h.turn_of (tw_dart.2 hxd))
  have hdr := rowsL_drop m.rots kt hkt
  have hRl : kt < (rowsL m.rots).length := by simpa using hkt
  have htin : m.rots.getD kt [] ∈ m.rots := by rw [getR_lt _ _ hkt]; exact List.getElem_mem _
  have hsmt := hsm _ htin
  have hnx : nx (m.rots.getD kt []) (tw (it f k d)) = it f (k + 1) d := by rw [it_succ, hfx _ hxd, sg_at h htin hmem]
  have hLn := itL_succ f d k
  have hLl := itL_len f d k
  have hstop : it f (k + 1) d = d → k + 1 = p := fun e => by
    rcases Nat.lt_or_ge (k + 1) p with h1 | h1
    · exact absurd e (hp2 _ (by omega) h1)
    · omega
  have hgo : ¬ it f (k + 1) d = d → k + 1 < p := fun e => by
    rcases Nat.lt_or_ge (k + 1) p with h1 | h1
    · exact h1
    · exact absurd (by rw [show k + 1 = p by omega]; exact hp1) e
  generalize itL f d k = Lk at *
  generalize m.rots.getD kt [] = tt at *
  generalize hxe : it f k d = x at *
  generalize hye : it f (k + 1) d = y at *
  have m1 : ¬ t = st2.next := by omega
  have m2 : ¬ st.next = st2.next := by omega
  have m3 : ¬ st.next = st2.next + 1 := by omega
  have m4 : ¬ st.next = t := by omega
  (repeat' (first | refine awp_seq ?_ | refine awp_block ?_ | ((first | refine awp_skip ?_ | refine awp_exit ?_); simp only [ak, reduceIte]) | (refine awp_ret ?_; simp only [ak, reduceIte]; simp [f1, f2, f5, f6, htH, t0, m1, hLl]) | (refine awp_cond ?_; simp [f1, f2, f5, f6, htH, t0, m1, hLl]; (try with_reducible refine ⟨?_, ?_⟩) <;> (try with_reducible intro hc) <;> try (exfalso; omega)) | ((first | (refine w_e [] ?_; intro J hJ; simp only []) | (refine w_q ?_; intro J hJ) | refine e_go ?_); simp [f1, f2, f5, f6, htH, t0, m1, hLl]; (repeat refine ca ?_); (try ((try with_reducible refine ⟨?_, ?_⟩) <;> (try with_reducible intro hnil) <;> refine hJ _ _ ?_ <;> clear hJ J <;> simp only [ak, reduceIte] <;> try subst hnil)))))
  refine callK_ofE (ref_twin x _ (by omega) (by omega)) (by simp) ?_; rintro r s3 ⟨rfl, rfl⟩
  (repeat' (first | refine awp_seq ?_ | refine awp_block ?_ | ((first | refine awp_skip ?_ | refine awp_exit ?_); simp only [ak, reduceIte]) | (refine awp_ret ?_; simp only [ak, reduceIte]; simp []) | (refine awp_cond ?_; simp []; (try with_reducible refine ⟨?_, ?_⟩) <;> (try with_reducible intro hc) <;> try (exfalso; omega)) | ((first | (refine w_e [] ?_; intro J hJ; simp only []) | (refine w_q ?_; intro J hJ) | refine e_go ?_); simp []; (repeat refine ca ?_); (try ((try with_reducible refine ⟨?_, ?_⟩) <;> (try with_reducible intro hnil) <;> refine hJ _ _ ?_ <;> clear hJ J <;> simp only [ak, reduceIte] <;> try subst hnil)))))
  (refine w_s [] [st.next] [(0, true), (1, true), (2, true), (3, true), (7, true), (4, true), (5, true), (6, true), (8, true), (9, true)] ?_; intro J hJ; simp [f2, hG, m2, m3, m4]; (repeat refine ca ?_); (try ((try with_reducible refine ⟨?_, ?_⟩) <;> (try with_reducible intro hnil) <;> refine hJ _ _ ?_ <;> clear hJ J <;> simp only [ak, reduceIte] <;> try subst hnil)))
  refine dcallK_ofE (ref_Turn m (tw x) _ (by omega) hsm) (by simp) ?_; rintro r s4 ⟨rfl, hk4⟩
  have hn4 := hk4.next
  have hG4 := hk4.H st.next (by simp; omega)
  simp [m2, m3, m4, hG] at hG4
  refine ⟨fun _ => by simp [m2, m3, m4, hG, hG4], ?_⟩
  rw [htx]
  (refine d_go ?_; simp [f2, hG4, hdr, hkt, hRl, m2, m3, m4, hG]; (repeat refine ca ?_); (try ((try with_reducible refine ⟨?_, ?_⟩) <;> (try with_reducible intro hnil) <;> refine hJ _ _ ?_ <;> clear hJ J <;> simp only [ak, reduceIte] <;> try subst hnil)))
  refine dcallK_ofE (ref_Next tt 0 (tw x) _ hsmt) rfl ?_; rintro r s5 ⟨rfl, rfl⟩
  rw [hnx]
  refine ⟨fun _ => by simp [m2, m3, m4, hG, hG4], ?_⟩
  (refine d_go ?_; simp [hG4, m2, m3, m4, hG]; (repeat refine ca ?_); (try ((try with_reducible refine ⟨?_, ?_⟩) <;> (try with_reducible intro hnil) <;> refine hJ _ _ ?_ <;> clear hJ J <;> simp only [ak, reduceIte] <;> try subst hnil)))
  have hkp4 : Keeps st s5 := (((hkp.trans (Keeps.new _ _)).set (by omega) _).trans (Keeps.new _ _)).trans hk4
  have htH4 := hk4.H (st2.next + 1) (by simp)
  simp at htH4 hn4
  by_cases hyd : y = d
  · have hkp1 := hstop hyd
    (repeat' (first | refine awp_seq ?_ | refine awp_block ?_ | ((first | refine awp_skip ?_ | refine awp_exit ?_); simp only [ak, reduceIte]) | (refine awp_ret ?_; simp only [ak, reduceIte]; simp [hyd, f1]) | (refine awp_cond ?_; simp [hyd, f1]; (try with_reducible refine ⟨?_, ?_⟩) <;> (try with_reducible intro hc) <;> try (exfalso; omega)) | ((first | (refine w_e [] ?_; intro J hJ; simp only []) | (refine w_q ?_; intro J hJ) | refine e_go ?_); simp [hyd, f1]; (repeat refine ca ?_); (try ((try with_reducible refine ⟨?_, ?_⟩) <;> (try with_reducible intro hnil) <;> refine hJ _ _ ?_ <;> clear hJ J <;> simp only [ak, reduceIte] <;> try subst hnil)))))
    refine callK_ofE (ref_Normal L (st2.next + 1) _ (by rw [hL', small, itL_len]; omega)) ?_ ?_
    · rw [hL', ← hkp1, hLn]
      simp [hLl]
    rintro r s6 ⟨rfl, hk6⟩
    (repeat' (first | refine awp_seq ?_ | refine awp_block ?_ | ((first | refine awp_skip ?_ | refine awp_exit ?_); simp only [ak, reduceIte]) | (refine awp_ret ?_; simp only [ak, reduceIte]; simp []) | (refine awp_cond ?_; simp []; (try with_reducible refine ⟨?_, ?_⟩) <;> (try with_reducible intro hc) <;> try (exfalso; omega)) | ((first | (refine w_e [] ?_; intro J hJ; simp only []) | (refine w_q ?_; intro J hJ) | refine e_go ?_); simp []; (repeat refine ca ?_); (try ((try with_reducible refine ⟨?_, ?_⟩) <;> (try with_reducible intro hnil) <;> refine hJ _ _ ?_ <;> clear hJ J <;> simp only [ak, reduceIte] <;> try subst hnil)))))
    exact ⟨⟨nrm L, by rw [nrm_length], .inl ⟨hd, L, by rw [hf]; exact hcyc, rfl⟩⟩, hkp4.trans hk6⟩
  · have hkp1 := hgo hyd
    (repeat' (first | refine awp_seq ?_ | refine awp_block ?_ | ((first | refine awp_skip ?_ | refine awp_exit ?_); simp only [ak, reduceIte]) | (refine awp_ret ?_; simp only [ak, reduceIte]; simp [hyd, f1]) | (refine awp_cond ?_; simp [hyd, f1]; (try with_reducible refine ⟨?_, ?_⟩) <;> (try with_reducible intro hc) <;> try (exfalso; omega)) | ((first | (refine w_e [] ?_; intro J hJ; simp only []) | (refine w_q ?_; intro J hJ) | refine e_go ?_); simp [hyd, f1]; (repeat refine ca ?_); (try ((try with_reducible refine ⟨?_, ?_⟩) <;> (try with_reducible intro hnil) <;> refine hJ _ _ ?_ <;> clear hJ J <;> simp only [ak, reduceIte] <;> try subst hnil)))))
    refine hJJ (p - (k + 1)) _ _ (by omega) ⟨k + 1, hkp1, rfl, by simp [f1], by simp [f2], by simp [hye], hG4, st2.next + 1, by simp [hLn], ⟨by omega, by omega, by omega⟩, htH4, hkp4⟩

end Go.Proofs.YtaiakdhcajibnaaGreat.Aw

namespace Go.Proofs.YtaiakdhcajibnaaGreat.Aw
open Go Go.RowKit Go.Proofs.YtaiakdhcajibnaaGreat.Pl Go.Proofs.YtaiakdhcajibnaaGreat.Eu
set_option linter.unusedSimpArgs false
set_option linter.unusedVariables false

structure RfI (m : Mp) (st : St) (K : Nat) (fr : Frm) (st2 : St) : Prop where
  f1 : fr 1 = .pt st.next 0
  hG : st2.H st.next = .box 28 3 (mpL m)
  kp : Keeps st st2
  lt : st.next < st2.next
  rows : ∃ t R, fr 3 = .sl t R.length (rowsL3 R) ∧ Lead (fc m m.g.es) (darts m.g.es) K R ∧ (t ≠ 0 ∧ st.next < t ∧ t < st2.next) ∧ st2.H t = .own 22 1 R.length
theorem RfI.fr {m : Mp} {st : St} {K : Nat} {fr fr' : Frm} {st2 st3 : St} (h : RfI m st K fr st2) (h3 : fr' 3 = fr 3) (h1 : fr' 1 = fr 1) (hk : Keeps st2 st3) : RfI m st K fr' st3 := by
  obtain ⟨f1, hG, kp, lt, t, R, f3, hL, ⟨t0, t1, t2⟩, hH⟩ := h
  have := hk.next
  exact ⟨h1.trans f1, (hk.H _ lt).trans hG, kp.trans hk, by omega, t, R, h3.trans f3, hL, ⟨t0, t1, by omega⟩, (hk.H _ t2).trans hH⟩

theorem ref_Faces (m : Mp) (h : MapOk m) (st : St) (hv : m.g.vs.length ≤ 1000) (he : m.g.es.length ≤ 1000) :
    ACalls Tryz.prog 19 [.ag (mpL m)] st (FacesP m st) := by
  have hel := eds_length m.g.es
  have hdl := darts_length m.g.es
  have hP := h.fc_per m.g.es (fun x hx => hx)
  refine acalls_of_body tabOk Tryz.func19 rfl rfl Tryz.ntmps19 (rs := [.tmp 2]) rfl (by simp) ?_
  (repeat' (first | refine awp_seq ?_ | refine awp_block ?_ | ((first | refine awp_skip ?_ | refine awp_exit ?_); simp only [ak, reduceIte]) | (refine awp_ret ?_; simp only [ak, reduceIte]; simp []) | (refine awp_cond ?_; simp []; (try with_reducible refine ⟨?_, ?_⟩) <;> (try with_reducible intro hc) <;> try (exfalso; omega)) | ((first | (refine w_e [] ?_; intro J hJ; simp only []) | (refine w_q ?_; intro J hJ) | refine e_go ?_); simp []; (repeat refine ca ?_); (try ((try with_reducible refine ⟨?_, ?_⟩) <;> (try with_reducible intro hnil) <;> refine hJ _ _ ?_ <;> clear hJ J <;> simp only [ak, reduceIte] <;> try subst hnil)))))
  refine awp_posG fun hpos => ?_
  refine awp_own 3 22 1 (by simp) ?_
  refine awp_range 12 11 13 39 (m.g.es.length) (fun j fr st2 => fr 10 = .sl 0 m.g.es.length (eds m.g.es) ∧ RfI m st (2 * j) fr st2) ?_ ?_ ?_
  · exact ⟨by simp, by simp, by simp, (Keeps.new _ _).trans (Keeps.new _ _), by simp; omega, st.next + 1, [], by simp, .zero, ⟨by omega, by omega, by simp⟩, by simp⟩
  · rintro j fr s2 hlt ⟨f10, hI⟩ fi fn JJ hJJ
    have hd := eds_drop m.g.es j hlt
    have hk3 : j * 3 < m.g.es.length * 3 := by omega
    have hxin : m.g.es.getD j ed0 ∈ m.g.es := by rw [getE_lt _ _ hlt]; exact List.getElem_mem _
    have hpos := h.g.pos _ hxin
    have hg := darts_get m.g.es j hlt
    generalize hx : m.g.es.getD j ed0 = x at *
    obtain ⟨id, a, b⟩ := x
    simp only at hpos hd hg
    have w1 : IntKind.u32.wrap (2 * id) = 2 * id := wrap_u32' _ (by omega) (by omega)
    have w2 : IntKind.u32.wrap (2 * id + 2) = 2 * id + 2 := wrap_u32' _ (by omega) (by omega)
    (repeat' (first | refine awp_seq ?_ | refine awp_block ?_ | ((first | refine awp_skip ?_ | refine awp_exit ?_); simp only [ak, reduceIte]) | (refine awp_ret ?_; simp only [ak, reduceIte]; simp [fi, fn, f10, hd, hel, hk3, w1, w2]) | (refine awp_cond ?_; simp [fi, fn, f10, hd, hel, hk3, w1, w2]; (try with_reducible refine ⟨?_, ?_⟩) <;> (try with_reducible intro hc) <;> try (exfalso; omega)) | ((first | (refine w_e [] ?_; intro J hJ; simp only []) | (refine w_q ?_; intro J hJ) | refine e_go ?_); simp [fi, fn, f10, hd, hel, hk3, w1, w2]; (repeat refine ca ?_); (try ((try with_reducible refine ⟨?_, ?_⟩) <;> (try with_reducible intro hnil) <;> refine hJ _ _ ?_ <;> clear hJ J <;> simp only [ak, reduceIte] <;> try subst hnil)))))
    refine awp_loop (fun n fr st2 => ∃ e : Nat, e ≤ 2 ∧ n = 2 - e ∧ fr 6 = u (2 * id + e) ∧ fr 5 = .pt s2.next 0 ∧ fr 10 = .sl 0 m.g.es.length (eds m.g.es) ∧ fr 12 = i j ∧ fr 11 = i m.g.es.length ∧ st2.H s2.next = .box 44 3 (edL ⟨id, a, b⟩) ∧ s2.next < st2.next ∧ RfI m st (2 * j + e) fr st2) 2 ?_ ?_
    · exact ⟨0, by omega, by omega, by simp, by simp, by simp [f10], by simp [fi], by simp [fn], by simp, by simp, hI.fr (by simp) (by simp) (Keeps.new _ _)⟩
    clear f10 fi fn hI fr
    rintro n fr st2 ⟨e, hle, rfl, f6, f5, f10, f12, f11, hX, hXl, hI⟩ J2 hJ2
    rcases Nat.lt_or_ge e 2 with he2 | he2
    rotate_left
    · clear hJ2
      obtain rfl : e = 2 := by omega
      (repeat' (first | refine awp_seq ?_ | refine awp_block ?_ | ((first | refine awp_skip ?_ | refine awp_exit ?_); simp only [ak, reduceIte]) | (refine awp_ret ?_; simp only [ak, reduceIte]; simp [f6, f5, hX, w1, w2]) | (refine awp_cond ?_; simp [f6, f5, hX, w1, w2]; (try with_reducible refine ⟨?_, ?_⟩) <;> (try with_reducible intro hc) <;> try (exfalso; omega)) | ((first | (refine w_e [] ?_; intro J hJ; simp only []) | (refine w_q ?_; intro J hJ) | refine e_go ?_); simp [f6, f5, hX, w1, w2]; (repeat refine ca ?_); (try ((try with_reducible refine ⟨?_, ?_⟩) <;> (try with_reducible intro hnil) <;> refine hJ _ _ ?_ <;> clear hJ J <;> simp only [ak, reduceIte] <;> try subst hnil)))))
      exact hJJ _ _ (by simp [f12]) (by simp [f11]) ⟨by simp [f10], hI.fr (by simp) (by simp) (Keeps.refl _)⟩
    clear hJJ
    have hK : 2 * j + e < (darts m.g.es).length := by omega
    have hKd : (darts m.g.es).getD (2 * j + e) 0 = 2 * id + e := by
      rcases Nat.lt_or_ge e 1 with h1 | h1
      · obtain rfl : e = 0 := by omega
        rw [Nat.add_zero, hg.1]; omega
      · obtain rfl : e = 1 := by omega
        rw [hg.2]; rfl
    have hdin : 2 * id + (e : Int) ∈ darts m.g.es := by rw [← hKd, getD_lt _ _ hK]; exact List.getElem_mem _
    have w3 : IntKind.u32.wrap (2 * id + e + 1) = 2 * id + ((e + 1 : Nat) : Int) := by rw [wrap_u32' _ (by omega) (by omega)]; omega
    have hcmp : 2 * id + (e : Int) < 2 * id + 2 := by omega
    obtain ⟨f1, hG, hkp, hlo, t, R, f3, hL, ⟨t0, t1, t2⟩, hH⟩ := hI
    have hRl := hL.len
    (repeat' (first | refine awp_seq ?_ | refine awp_block ?_ | ((first | refine awp_skip ?_ | refine awp_exit ?_); simp only [ak, reduceIte]) | (refine awp_ret ?_; simp only [ak, reduceIte]; simp [f6, f5, hX, w1, w2, f1, hG, hcmp]) | (refine awp_cond ?_; simp [f6, f5, hX, w1, w2, f1, hG, hcmp]; (try with_reducible refine ⟨?_, ?_⟩) <;> (try with_reducible intro hc) <;> try (exfalso; omega)) | ((first | (refine w_e [] ?_; intro J hJ; simp only []) | (refine w_q ?_; intro J hJ) | refine e_go ?_); simp [f6, f5, hX, w1, w2, f1, hG, hcmp]; (repeat refine ca ?_); (try ((try with_reducible refine ⟨?_, ?_⟩) <;> (try with_reducible intro hnil) <;> refine hJ _ _ ?_ <;> clear hJ J <;> simp only [ak, reduceIte] <;> try subst hnil)))))
    refine callK_ofE (ref_Face m h (2 * id + e) _ hv he) (by simp) ?_; rintro r s3 ⟨⟨c, rfl, hc⟩, hk3⟩
    rcases hc with ⟨_, L, hc, rfl⟩ | ⟨hno, _⟩
    rotate_left
    · exact absurd hdin hno
    have hcl := (h.cyc_le hdin hc).2
    obtain ⟨Lr, hLr⟩ := IsCyc.head hc
    obtain ⟨nr, hnr⟩ := nrm_head L hc.ne
    have hnl : (nrm L).length = L.length := nrm_length L
    have hc' := hc
    rw [← hKd] at hc'
    have hld := cyc_lead hP (darts_rise h.g.ids) (h.fc_dart _) hK hc'
    rw [hKd] at hld
    have hL0 : 0 < (nrm L).length := by rw [hnr]; simp
    have hn3 := hk3.next
    have gX := (hk3.H _ hXl).trans hX
    have gH := (hk3.H _ t2).trans hH
    have m1 : ¬ t = s3.next := by omega
    have m5 : ¬ s2.next = t := by rintro rfl; rw [hX] at hH; cases hH
    by_cases hs : SeenD (fc m m.g.es) (darts m.g.es) (2 * j + e) (2 * id + e)
    · have hmn : ¬ mn L = 2 * id + e := fun e1 => (hld.2 e1) hs
      have hL2 := Lead.seen hL hK (by rw [hKd]; exact hs)
      (repeat' (first | refine awp_seq ?_ | refine awp_block ?_ | ((first | refine awp_skip ?_ | refine awp_exit ?_); simp only [ak, reduceIte]) | (refine awp_ret ?_; simp only [ak, reduceIte]; simp [f6, hnr, hmn, hL0, w3]) | (refine awp_cond ?_; simp [f6, hnr, hmn, hL0, w3]; (try with_reducible refine ⟨?_, ?_⟩) <;> (try with_reducible intro hc) <;> try (exfalso; omega)) | ((first | (refine w_e [] ?_; intro J hJ; simp only []) | (refine w_q ?_; intro J hJ) | refine e_go ?_); simp [f6, hnr, hmn, hL0, w3]; (repeat refine ca ?_); (try ((try with_reducible refine ⟨?_, ?_⟩) <;> (try with_reducible intro hnil) <;> refine hJ _ _ ?_ <;> clear hJ J <;> simp only [ak, reduceIte] <;> try subst hnil)))))
      exact hJ2 (2 - (e + 1)) _ _ (by omega) ⟨e + 1, by omega, rfl, by simp, by simp [f5], by simp [f10], by simp [f12], by simp [f11], gX, by omega, by simp [f1], (hk3.H _ hlo).trans hG, hkp.trans hk3, by omega, t, R, by simp [f3], hL2, ⟨t0, t1, by omega⟩, gH⟩
    · have hmn := hld.1 hs
      have hnL : nrm L = L := nrm_of_head hLr hmn
      have hL2 := Lead.lead hL hK (by rw [hKd]; exact hs) hc'
      rw [hnL]
      subst hLr
      (repeat' (first | refine awp_seq ?_ | refine awp_block ?_ | ((first | refine awp_skip ?_ | refine awp_exit ?_); simp only [ak, reduceIte]) | (refine awp_ret ?_; simp only [ak, reduceIte]; simp [f6, w3, f3, gH, t0, m1]) | (refine awp_cond ?_; simp [f6, w3, f3, gH, t0, m1]; (try with_reducible refine ⟨?_, ?_⟩) <;> (try with_reducible intro hc) <;> try (exfalso; omega)) | ((first | (refine w_e [] ?_; intro J hJ; simp only []) | (refine w_q ?_; intro J hJ) | refine e_go ?_); simp [f6, w3, f3, gH, t0, m1]; (repeat refine ca ?_); (try ((try with_reducible refine ⟨?_, ?_⟩) <;> (try with_reducible intro hnil) <;> refine hJ _ _ ?_ <;> clear hJ J <;> simp only [ak, reduceIte] <;> try subst hnil)))))
      exact hJ2 (2 - (e + 1)) _ _ (by omega) ⟨e + 1, by omega, rfl, by simp, by simp [f5], by simp [f10], by simp [f12], by simp [f11], by rw [new_H, if_neg (by simp only [set_next, new_next]; omega), set_H, if_neg m5, new_H, if_neg (by omega)]; exact gX, by simp; omega, by simp [f1], by rw [new_H, if_neg (by simp only [set_next, new_next]; omega), set_H, if_neg (by omega), new_H, if_neg (by omega)]; exact (hk3.H _ hlo).trans hG, (((hkp.trans hk3).trans (Keeps.new _ _)).set (by omega) _).trans (Keeps.new _ _), by simp; omega, s3.next + 1, R ++ [(2 * id + e) :: Lr], by simp, hL2, ⟨by omega, by omega, by simp⟩, by simp⟩
  · rintro fr st2 ⟨f10, hI⟩
    obtain ⟨t, R, f3, hL, _⟩ := hI.rows
    (repeat' (first | refine awp_seq ?_ | refine awp_block ?_ | ((first | refine awp_skip ?_ | refine awp_exit ?_); simp only [ak, reduceIte]) | (refine awp_ret ?_; simp only [ak, reduceIte]; simp [f3]) | (refine awp_cond ?_; simp [f3]; (try with_reducible refine ⟨?_, ?_⟩) <;> (try with_reducible intro hc) <;> try (exfalso; omega)) | ((first | (refine w_e [] ?_; intro J hJ; simp only []) | (refine w_q ?_; intro J hJ) | refine e_go ?_); simp [f3]; (repeat refine ca ?_); (try ((try with_reducible refine ⟨?_, ?_⟩) <;> (try with_reducible intro hnil) <;> refine hJ _ _ ?_ <;> clear hJ J <;> simp only [ak, reduceIte] <;> try subst hnil)))))
    exact ⟨⟨t, R, rfl, by rw [hdl]; exact hL⟩, hI.kp⟩

end Go.Proofs.YtaiakdhcajibnaaGreat.Aw

namespace Go.Proofs.YtaiakdhcajibnaaGreat.Aw
open Go Go.RowKit Go.Proofs.YtaiakdhcajibnaaGreat.Pl Go.Proofs.YtaiakdhcajibnaaGreat.Eu
set_option linter.unusedSimpArgs false
set_option linter.unusedVariables false

theorem ref_dFace (m : Mp) (h : MapOk m) (R : List (List Int)) (hR : FacesOf m R) (d : Int) (st : St) (hv : m.g.vs.length ≤ 1000) (he : m.g.es.length ≤ 1000) :
    ACalls Tryz.prog 21 [.ag (mpL m), u d] st fun r st' => r = i (tix R d + 1) ∧ Keeps st st' := by
  refine acalls_of_body tabOk Tryz.func21 rfl rfl Tryz.ntmps21 (rs := [.tmp 4]) rfl (by simp) ?_
  (repeat' (first | refine awp_seq ?_ | refine awp_block ?_ | ((first | refine awp_skip ?_ | refine awp_exit ?_); simp only [ak, reduceIte]) | (refine awp_ret ?_; simp only [ak, reduceIte]; simp []) | (refine awp_cond ?_; simp []; (try with_reducible refine ⟨?_, ?_⟩) <;> (try with_reducible intro hc) <;> try (exfalso; omega)) | ((first | (refine w_e [] ?_; intro J hJ; simp only []) | (refine w_q ?_; intro J hJ) | refine e_go ?_); simp []; (repeat refine ca ?_); (try ((try with_reducible refine ⟨?_, ?_⟩) <;> (try with_reducible intro hnil) <;> refine hJ _ _ ?_ <;> clear hJ J <;> simp only [ak, reduceIte] <;> try subst hnil)))))
  refine callK_ofE (ref_Faces m h _ hv he) (by simp) ?_; rintro r s1 ⟨⟨t0, R', rfl, hR'⟩, hk1⟩
  obtain rfl := hR.unique hR'
  have hRl := hR.len
  have hdl := darts_length m.g.es
  have hrow : ∀ c ∈ R, small c := fun c hc => by have := faces_row h hR he hc; unfold small; omega
  (repeat' (first | refine awp_seq ?_ | refine awp_block ?_ | ((first | refine awp_skip ?_ | refine awp_exit ?_); simp only [ak, reduceIte]) | (refine awp_ret ?_; simp only [ak, reduceIte]; simp []) | (refine awp_cond ?_; simp []; (try with_reducible refine ⟨?_, ?_⟩) <;> (try with_reducible intro hc) <;> try (exfalso; omega)) | ((first | (refine w_e [] ?_; intro J hJ; simp only []) | (refine w_q ?_; intro J hJ) | refine e_go ?_); simp []; (repeat refine ca ?_); (try ((try with_reducible refine ⟨?_, ?_⟩) <;> (try with_reducible intro hnil) <;> refine hJ _ _ ?_ <;> clear hJ J <;> simp only [ak, reduceIte] <;> try subst hnil)))))
  refine awp_range 10 9 11 21 (R.length) (fun j fr st2 => fr 1 = u d ∧ fr 8 = .sl t0 R.length (rowsL3 R) ∧ Keeps st st2 ∧ ∀ k, k < j → d ∉ R.getD k []) ?_ ?_ ?_
  · exact ⟨by simp, by simp, (Keeps.new _ _).trans hk1, fun k hk => by omega⟩
  · rintro j fr st2 hlt ⟨f1, f8, hkp, hno⟩ fi fn JJ hJJ
    have hd := rowsL_drop R j hlt
    have hRl2 : j < (rowsL R).length := by simpa using hlt
    have htin : R.getD j [] ∈ R := by rw [getR_lt _ _ hlt]; exact List.getElem_mem _
    have hsm := hrow _ htin
    have hso := fun h => tix_some (d := d) hlt h hno
    have hw := nat_add_one j (by omega)
    have hnn : d ∉ R.getD j [] → ∀ k, k < j + 1 → d ∉ R.getD k [] := fun h k hk => by
      rcases Nat.lt_or_ge k j with h1 | h1
      · exact hno k h1
      · obtain rfl : k = j := by omega
        exact h
    generalize R.getD j [] = t at *
    (repeat' (first | refine awp_seq ?_ | refine awp_block ?_ | ((first | refine awp_skip ?_ | refine awp_exit ?_); simp only [ak, reduceIte]) | (refine awp_ret ?_; simp only [ak, reduceIte]; simp [f1, f8, fi, fn, hd, hRl2, hlt]) | (refine awp_cond ?_; simp [f1, f8, fi, fn, hd, hRl2, hlt]; (try with_reducible refine ⟨?_, ?_⟩) <;> (try with_reducible intro hc) <;> try (exfalso; omega)) | ((first | (refine w_e [] ?_; intro J hJ; simp only []) | (refine w_q ?_; intro J hJ) | refine e_go ?_); simp [f1, f8, fi, fn, hd, hRl2, hlt]; (repeat refine ca ?_); (try ((try with_reducible refine ⟨?_, ?_⟩) <;> (try with_reducible intro hnil) <;> refine hJ _ _ ?_ <;> clear hJ J <;> simp only [ak, reduceIte] <;> try subst hnil)))))
    refine callK_ofE (Find t 0 d _ hsm) (by simp) ?_; rintro r s3 ⟨rfl, rfl⟩
    by_cases hdt : d ∈ t
    · have hr := hso hdt
      have hg := gi_mem hdt
      (repeat' (first | refine awp_seq ?_ | refine awp_block ?_ | ((first | refine awp_skip ?_ | refine awp_exit ?_); simp only [ak, reduceIte]) | (refine awp_ret ?_; simp only [ak, reduceIte]; simp [hg, hr, hw]) | (refine awp_cond ?_; simp [hg, hr, hw]; (try with_reducible refine ⟨?_, ?_⟩) <;> (try with_reducible intro hc) <;> try (exfalso; omega)) | ((first | (refine w_e [] ?_; intro J hJ; simp only []) | (refine w_q ?_; intro J hJ) | refine e_go ?_); simp [hg, hr, hw]; (repeat refine ca ?_); (try ((try with_reducible refine ⟨?_, ?_⟩) <;> (try with_reducible intro hnil) <;> refine hJ _ _ ?_ <;> clear hJ J <;> simp only [ak, reduceIte] <;> try subst hnil)))))
      exact hkp
    · have hg := gi_not hdt
      (repeat' (first | refine awp_seq ?_ | refine awp_block ?_ | ((first | refine awp_skip ?_ | refine awp_exit ?_); simp only [ak, reduceIte]) | (refine awp_ret ?_; simp only [ak, reduceIte]; simp [hg]) | (refine awp_cond ?_; simp [hg]; (try with_reducible refine ⟨?_, ?_⟩) <;> (try with_reducible intro hc) <;> try (exfalso; omega)) | ((first | (refine w_e [] ?_; intro J hJ; simp only []) | (refine w_q ?_; intro J hJ) | refine e_go ?_); simp [hg]; (repeat refine ca ?_); (try ((try with_reducible refine ⟨?_, ?_⟩) <;> (try with_reducible intro hnil) <;> refine hJ _ _ ?_ <;> clear hJ J <;> simp only [ak, reduceIte] <;> try subst hnil)))))
      exact hJJ _ _ (by simp [fi]) (by simp [fn]) ⟨by simp [f1], by simp [f8], hkp, hnn hdt⟩
  · rintro fr st2 ⟨f1, f8, hkp, hno⟩
    have hr := tix_none hno
    (repeat' (first | refine awp_seq ?_ | refine awp_block ?_ | ((first | refine awp_skip ?_ | refine awp_exit ?_); simp only [ak, reduceIte]) | (refine awp_ret ?_; simp only [ak, reduceIte]; simp [hr]) | (refine awp_cond ?_; simp [hr]; (try with_reducible refine ⟨?_, ?_⟩) <;> (try with_reducible intro hc) <;> try (exfalso; omega)) | ((first | (refine w_e [] ?_; intro J hJ; simp only []) | (refine w_q ?_; intro J hJ) | refine e_go ?_); simp [hr]; (repeat refine ca ?_); (try ((try with_reducible refine ⟨?_, ?_⟩) <;> (try with_reducible intro hnil) <;> refine hJ _ _ ?_ <;> clear hJ J <;> simp only [ak, reduceIte] <;> try subst hnil)))))
    exact hkp

/-- Whether an edge's other dart is in the face of its first. -/
theorem face_bridge {m : Mp} (h : MapOk m) {R : List (List Int)} (hR : FacesOf m R) {x : Ed} (hx : x ∈ m.g.es) {c : List Int} (hc : IsFace m (2 * x.id) c) : 2 * x.id + 1 ∈ c ↔ tix R (2 * x.id) = tix R (2 * x.id + 1) := by
  have h0 : 2 * x.id ∈ darts m.g.es := mem_darts.2 ⟨x, hx, .inl rfl⟩
  have h1 : 2 * x.id + 1 ∈ darts m.g.es := mem_darts.2 ⟨x, hx, .inr rfl⟩
  rw [faces_same h hR h0 h1]
  rcases hc with ⟨_, L, hL, rfl⟩ | ⟨hn, _⟩
  · rw [nrm_mem, hL.mem]
  · exact absurd h0 hn

set_option maxHeartbeats 1000000 in
theorem ref_dBridges (m : Mp) (h : MapOk m) (R : List (List Int)) (hR : FacesOf m R) (st : St) (hv : m.g.vs.length ≤ 1000) (he : m.g.es.length ≤ 1000) :
    ACalls Tryz.prog 24 [.ag (mpL m)] st (BridgesP m R st) := by
  have hel := eds_length m.g.es
  refine acalls_of_body tabOk Tryz.func24 rfl rfl Tryz.ntmps24 (rs := [.tmp 2]) rfl (by simp) ?_
  (repeat' (first | refine awp_seq ?_ | refine awp_block ?_ | ((first | refine awp_skip ?_ | refine awp_exit ?_); simp only [ak, reduceIte]) | (refine awp_ret ?_; simp only [ak, reduceIte]; simp []) | (refine awp_cond ?_; simp []; (try with_reducible refine ⟨?_, ?_⟩) <;> (try with_reducible intro hc) <;> try (exfalso; omega)) | ((first | (refine w_e [] ?_; intro J hJ; simp only []) | (refine w_q ?_; intro J hJ) | refine e_go ?_); simp []; (repeat refine ca ?_); (try ((try with_reducible refine ⟨?_, ?_⟩) <;> (try with_reducible intro hnil) <;> refine hJ _ _ ?_ <;> clear hJ J <;> simp only [ak, reduceIte] <;> try subst hnil)))))
  refine awp_posG fun hpos => ?_
  refine awp_own 3 29 1 (by simp) ?_
  refine awp_range 10 9 11 30 (m.g.es.length) (fun j fr st2 => fr 1 = .pt st.next 0 ∧ st2.H st.next = .box 28 3 (mpL m) ∧ st.next < st2.next ∧ fr 8 = .sl 0 m.g.es.length (eds m.g.es) ∧ Keeps st st2 ∧ ∃ t, fr 3 = .sl t (brg R (m.g.es.take j)).length (us (brg R (m.g.es.take j))) ∧ (t ≠ 0 ∧ st.next < t ∧ t < st2.next) ∧ st2.H t = .own 29 1 (brg R (m.g.es.take j)).length) ?_ ?_ ?_
  · exact ⟨by simp, by simp, by simp; omega, by simp, (Keeps.new _ _).trans (Keeps.new _ _), st.next + 1, by simp [brg], ⟨by omega, by omega, by simp⟩, by simp [brg]⟩
  · rintro j fr s2 hlt ⟨f1, hG, hsn, f8, hkp, t, f3, ⟨t0, tl, tn⟩, htH⟩ fi fn JJ hJJ
    have hd := eds_drop m.g.es j hlt
    have hk3 : j * 3 < m.g.es.length * 3 := by omega
    have hxin : m.g.es.getD j ed0 ∈ m.g.es := by rw [getE_lt _ _ hlt]; exact List.getElem_mem _
    have hpos := h.g.pos _ hxin
    have hst := brg_take R m.g.es j hlt
    have hbl := brg_len R m.g.es j
    have hfb := fun c => @face_bridge m h R hR _ hxin c
    generalize hx : m.g.es.getD j ed0 = x at *
    obtain ⟨id, a, b⟩ := x
    simp only at hpos hd hst hfb
    generalize brg R (m.g.es.take j) = B at *
    have w1 : IntKind.u32.wrap (2 * id) = 2 * id := wrap_u32' _ (by omega) (by omega)
    have w2 : IntKind.u32.wrap (2 * id + 1) = 2 * id + 1 := wrap_u32' _ (by omega) (by omega)
    have hn2 := hkp.next
    have m1 : ¬ t = s2.next := by omega
    have m4 : ¬ st.next = s2.next := by omega
    (repeat' (first | refine awp_seq ?_ | refine awp_block ?_ | ((first | refine awp_skip ?_ | refine awp_exit ?_); simp only [ak, reduceIte]) | (refine awp_ret ?_; simp only [ak, reduceIte]; simp [f8, fi, fn, hd, hel, hk3]) | (refine awp_cond ?_; simp [f8, fi, fn, hd, hel, hk3]; (try with_reducible refine ⟨?_, ?_⟩) <;> (try with_reducible intro hc) <;> try (exfalso; omega)) | ((first | (refine w_e [] ?_; intro J hJ; simp only []) | (refine w_q ?_; intro J hJ) | refine e_go ?_); simp [f8, fi, fn, hd, hel, hk3]; (repeat refine ca ?_); (try ((try with_reducible refine ⟨?_, ?_⟩) <;> (try with_reducible intro hnil) <;> refine hJ _ _ ?_ <;> clear hJ J <;> simp only [ak, reduceIte] <;> try subst hnil)))))
    (refine w_s [] [st.next, s2.next] [(0, true), (1, true), (2, true), (3, true), (5, true), (6, true), (7, true), (8, true), (4, true), (9, true), (10, true)] ?_; intro J hJ; simp [f1, hG, m4, w1, w2]; (repeat refine ca ?_); (try ((try with_reducible refine ⟨?_, ?_⟩) <;> (try with_reducible intro hnil) <;> refine hJ _ _ ?_ <;> clear hJ J <;> simp only [ak, reduceIte] <;> try subst hnil)))
    refine dcallK_ofE (ref_Face m h (2 * id) _ hv he) (by simp) ?_; rintro r s3 ⟨⟨c, rfl, hc⟩, hk3'⟩
    have hn3 := hk3'.next
    simp only [new_next] at hn3
    have hX3 := hk3'.H s2.next (by simp)
    have hG3 := hk3'.H st.next (by simp; omega)
    have hT3 := hk3'.H t (by simp; omega)
    simp [m4, m1, hG, htH] at hX3 hG3 hT3
    have hcl : small c := by
      rcases hc with ⟨hdd, L, hL, rfl⟩ | ⟨_, rfl⟩
      · have := (h.cyc_le hdd hL).2
        unfold small; rw [nrm_length]; omega
      · unfold small; simp
    have hfc := hfb c hc
    refine ⟨fun _ => by simp [hG3, hX3, m4, hG], ?_⟩
    (refine d_go ?_; simp [f1, hG3, hX3, m4, hG, w1, w2]; (repeat refine ca ?_); (try ((try with_reducible refine ⟨?_, ?_⟩) <;> (try with_reducible intro hnil) <;> refine hJ _ _ ?_ <;> clear hJ J <;> simp only [ak, reduceIte] <;> try subst hnil)))
    refine dcallK_ofE (Find c 0 (2 * id + 1) _ hcl) (by simp) ?_; rintro r s4 ⟨rfl, rfl⟩
    refine ⟨fun _ => by simp [hG3, hX3, m4, hG], ?_⟩
    have m2 : ¬ t = s4.next := by omega
    have hK4 : Keeps st s4 := (hkp.trans (Keeps.new _ _)).trans hk3'
    by_cases hab : 2 * id + 1 ∈ c
    · have hg := gi_mem hab
      rw [if_pos (hfc.1 hab)] at hst
      (refine d_go ?_; simp [hG3, hX3, m4, hG, hg]; (repeat refine ca ?_); (try ((try with_reducible refine ⟨?_, ?_⟩) <;> (try with_reducible intro hnil) <;> refine hJ _ _ ?_ <;> clear hJ J <;> simp only [ak, reduceIte] <;> try subst hnil)))
      (repeat' (first | refine awp_seq ?_ | refine awp_block ?_ | ((first | refine awp_skip ?_ | refine awp_exit ?_); simp only [ak, reduceIte]) | (refine awp_ret ?_; simp only [ak, reduceIte]; simp [f3, hX3, hT3, t0, m2]) | (refine awp_cond ?_; simp [f3, hX3, hT3, t0, m2]; (try with_reducible refine ⟨?_, ?_⟩) <;> (try with_reducible intro hc) <;> try (exfalso; omega)) | ((first | (refine w_e [] ?_; intro J hJ; simp only []) | (refine w_q ?_; intro J hJ) | refine e_go ?_); simp [f3, hX3, hT3, t0, m2]; (repeat refine ca ?_); (try ((try with_reducible refine ⟨?_, ?_⟩) <;> (try with_reducible intro hnil) <;> refine hJ _ _ ?_ <;> clear hJ J <;> simp only [ak, reduceIte] <;> try subst hnil)))))
      refine hJJ _ _ (by simp [fi]) (by simp [fn]) ⟨by simp [f1], ?_, by simp; omega, by simp [f8], ?_, s4.next + 1, by rw [hst]; simp, ⟨by omega, by omega, by simp⟩, by rw [hst]; simp⟩
      · rw [new_H, if_neg (by simp only [set_next, new_next]; omega), set_H, if_neg (by omega), new_H, if_neg (by omega)]; exact hG3
      · exact ((hK4.trans (Keeps.new _ _)).set (by omega) _).trans (Keeps.new _ _)
    · have hg := gi_not hab
      rw [if_neg (fun e => hab (hfc.2 e)), List.append_nil] at hst
      (refine d_go ?_; simp [hG3, hX3, m4, hG, hg]; (repeat refine ca ?_); (try ((try with_reducible refine ⟨?_, ?_⟩) <;> (try with_reducible intro hnil) <;> refine hJ _ _ ?_ <;> clear hJ J <;> simp only [ak, reduceIte] <;> try subst hnil)))
      (repeat' (first | refine awp_seq ?_ | refine awp_block ?_ | ((first | refine awp_skip ?_ | refine awp_exit ?_); simp only [ak, reduceIte]) | (refine awp_ret ?_; simp only [ak, reduceIte]; simp [f3]) | (refine awp_cond ?_; simp [f3]; (try with_reducible refine ⟨?_, ?_⟩) <;> (try with_reducible intro hc) <;> try (exfalso; omega)) | ((first | (refine w_e [] ?_; intro J hJ; simp only []) | (refine w_q ?_; intro J hJ) | refine e_go ?_); simp [f3]; (repeat refine ca ?_); (try ((try with_reducible refine ⟨?_, ?_⟩) <;> (try with_reducible intro hnil) <;> refine hJ _ _ ?_ <;> clear hJ J <;> simp only [ak, reduceIte] <;> try subst hnil)))))
      exact hJJ _ _ (by simp [fi]) (by simp [fn]) ⟨by simp [f1], hG3, by omega, by simp [f8], hK4, t, by rw [hst]; simp [f3], ⟨t0, tl, by omega⟩, by rw [hst]; exact hT3⟩
  · rintro fr st2 ⟨f1, hG, hsn, f8, hkp, t, f3, _⟩
    rw [List.take_length] at f3
    (repeat' (first | refine awp_seq ?_ | refine awp_block ?_ | ((first | refine awp_skip ?_ | refine awp_exit ?_); simp only [ak, reduceIte]) | (refine awp_ret ?_; simp only [ak, reduceIte]; simp [f3]) | (refine awp_cond ?_; simp [f3]; (try with_reducible refine ⟨?_, ?_⟩) <;> (try with_reducible intro hc) <;> try (exfalso; omega)) | ((first | (refine w_e [] ?_; intro J hJ; simp only []) | (refine w_q ?_; intro J hJ) | refine e_go ?_); simp [f3]; (repeat refine ca ?_); (try ((try with_reducible refine ⟨?_, ?_⟩) <;> (try with_reducible intro hnil) <;> refine hJ _ _ ?_ <;> clear hJ J <;> simp only [ak, reduceIte] <;> try subst hnil)))))
    exact ⟨⟨t, rfl⟩, hkp⟩

end Go.Proofs.YtaiakdhcajibnaaGreat.Aw

namespace Go.Proofs.YtaiakdhcajibnaaGreat.Aw
open Go Go.RowKit Go.Proofs.YtaiakdhcajibnaaGreat.Pl Go.Proofs.YtaiakdhcajibnaaGreat.Eu
set_option linter.unusedSimpArgs false
set_option linter.unusedVariables false

set_option maxHeartbeats 1000000 in
theorem ref_dNear (m : Mp) (h : MapOk m) (R : List (List Int)) (hR : FacesOf m R) (n k : Int) (st : St) (hv : m.g.vs.length ≤ 1000) (he : m.g.es.length ≤ 1000) :
    ACalls Tryz.prog 26 [.ag (mpL m), i n, i k] st fun r st' => r = bb (decide (k ∈ nrL n (m.g.es.map (sideOf R)))) ∧ Keeps st st' := by
  have hel := eds_length m.g.es
  have hml : (m.g.es.map (sideOf R)).length = m.g.es.length := by simp
  refine acalls_of_body tabOk Tryz.func26 rfl rfl Tryz.ntmps26 (rs := [.tmp 6]) rfl (by simp) ?_
  (repeat' (first | refine awp_seq ?_ | refine awp_block ?_ | ((first | refine awp_skip ?_ | refine awp_exit ?_); simp only [ak, reduceIte]) | (refine awp_ret ?_; simp only [ak, reduceIte]; simp []) | (refine awp_cond ?_; simp []; (try with_reducible refine ⟨?_, ?_⟩) <;> (try with_reducible intro hc) <;> try (exfalso; omega)) | ((first | (refine w_e [] ?_; intro J hJ; simp only []) | (refine w_q ?_; intro J hJ) | refine e_go ?_); simp []; (repeat refine ca ?_); (try ((try with_reducible refine ⟨?_, ?_⟩) <;> (try with_reducible intro hnil) <;> refine hJ _ _ ?_ <;> clear hJ J <;> simp only [ak, reduceIte] <;> try subst hnil)))))
  refine awp_range 15 14 16 53 (m.g.es.length) (fun j fr st2 => fr 1 = i n ∧ fr 2 = i k ∧ fr 3 = .pt st.next 0 ∧ fr 13 = .sl 0 m.g.es.length (eds m.g.es) ∧ st2.H st.next = .box 28 3 (mpL m) ∧ st.next < st2.next ∧ Keeps st st2 ∧ k ∉ nrL n ((m.g.es.map (sideOf R)).take j)) ?_ ?_ ?_
  · exact ⟨by simp, by simp, by simp, by simp, by simp, by simp, Keeps.new _ _, by simp [nrL]⟩
  · rintro j fr s2 hlt ⟨f1, f2, f3, f13, hG, hsn, hkp, hno⟩ fi fn JJ hJJ
    have hd := eds_drop m.g.es j hlt
    have hk3 : j * 3 < m.g.es.length * 3 := by omega
    have hxin : m.g.es.getD j ed0 ∈ m.g.es := by rw [getE_lt _ _ hlt]; exact List.getElem_mem _
    have hpos := h.g.pos _ hxin
    have hst := nrL_take n (m.g.es.map (sideOf R)) j (by omega)
    rw [getS_map R _ _ hlt] at hst
    have hm : k ∈ nrE n (sideOf R (m.g.es.getD j ed0)) → decide (k ∈ nrL n (m.g.es.map (sideOf R))) = true := fun h1 => decide_eq_true (by
      unfold nrL
      rw [List.mem_flatMap]
      exact ⟨_, List.mem_map_of_mem hxin, h1⟩)
    have hnx : k ∉ nrE n (sideOf R (m.g.es.getD j ed0)) → k ∉ nrL n ((m.g.es.map (sideOf R)).take (j + 1)) := fun h1 => by
      rw [hst, List.mem_append]; rintro (h2 | h2)
      · exact hno h2
      · exact h1 h2
    have hmem := nrE_mem n k (sideOf R (m.g.es.getD j ed0))
    generalize decide (k ∈ nrL n (m.g.es.map (sideOf R))) = D at *
    generalize m.g.es.getD j ed0 = x at *
    obtain ⟨id, a, b⟩ := x
    simp only [sideOf] at hpos hd hmem hm hnx
    have w1 : IntKind.u32.wrap (2 * id) = 2 * id := wrap_u32' _ (by omega) (by omega)
    have w2 : IntKind.u32.wrap (2 * id + 1) = 2 * id + 1 := wrap_u32' _ (by omega) (by omega)
    have hn2 := hkp.next
    have m4 : ¬ st.next = s2.next := by omega
    (repeat' (first | refine awp_seq ?_ | refine awp_block ?_ | ((first | refine awp_skip ?_ | refine awp_exit ?_); simp only [ak, reduceIte]) | (refine awp_ret ?_; simp only [ak, reduceIte]; simp [f13, fi, fn, hd, hel, hk3, hlt]) | (refine awp_cond ?_; simp [f13, fi, fn, hd, hel, hk3, hlt]; (try with_reducible refine ⟨?_, ?_⟩) <;> (try with_reducible intro hc) <;> try (exfalso; omega)) | ((first | (refine w_e [] ?_; intro J hJ; simp only []) | (refine w_q ?_; intro J hJ) | refine e_go ?_); simp [f13, fi, fn, hd, hel, hk3, hlt]; (repeat refine ca ?_); (try ((try with_reducible refine ⟨?_, ?_⟩) <;> (try with_reducible intro hnil) <;> refine hJ _ _ ?_ <;> clear hJ J <;> simp only [ak, reduceIte] <;> try subst hnil)))))
    (refine w_s [] [st.next, s2.next] [(0, true), (1, true), (2, true), (3, true), (5, true), (6, true), (7, true), (8, true), (9, true), (4, true), (10, true), (11, true), (12, true)] ?_; intro J hJ; simp [f3, hG, m4, w1, w2]; (repeat refine ca ?_); (try ((try with_reducible refine ⟨?_, ?_⟩) <;> (try with_reducible intro hnil) <;> refine hJ _ _ ?_ <;> clear hJ J <;> simp only [ak, reduceIte] <;> try subst hnil)))
    refine dcallK_ofE (ref_dFace m h R hR (2 * id) _ hv he) (by simp) ?_; rintro r s3 ⟨rfl, hk3'⟩
    have hn3 := hk3'.next
    simp only [new_next] at hn3
    have hX3 := hk3'.H s2.next (by simp)
    have hG3 := hk3'.H st.next (by simp; omega)
    simp [m4, hG] at hX3 hG3
    refine ⟨fun _ => by simp [hG3, hX3, m4, hG], ?_⟩
    (refine d_go ?_; simp [f3, hG3, hX3, m4, hG, w1, w2]; (repeat refine ca ?_); (try ((try with_reducible refine ⟨?_, ?_⟩) <;> (try with_reducible intro hnil) <;> refine hJ _ _ ?_ <;> clear hJ J <;> simp only [ak, reduceIte] <;> try subst hnil)))
    refine dcallK_ofE (ref_dFace m h R hR (2 * id + 1) _ hv he) (by simp) ?_; rintro r s4 ⟨rfl, hk4⟩
    have hG4 := (hk4.H st.next (by omega)).trans hG3
    have hX4 := (hk4.H s2.next (by omega)).trans hX3
    have hn4 := hk4.next
    have hK4 : Keeps st s4 := ((hkp.trans (Keeps.new _ _)).trans hk3').trans hk4
    refine ⟨fun _ => by simp [hG3, hX3, hG4, hX4, m4, hG], ?_⟩
    (refine d_go ?_; simp [hG4, hX4, m4, hG]; (repeat refine ca ?_); (try ((try with_reducible refine ⟨?_, ?_⟩) <;> (try with_reducible intro hnil) <;> refine hJ _ _ ?_ <;> clear hJ J <;> simp only [ak, reduceIte] <;> try subst hnil)))
    generalize tix R (2 * id) = ta at *
    generalize tix R (2 * id + 1) = tb at *
    by_cases hab : ta = tb
    · have hnot : k ∉ nrE n ⟨id, ta + 1, tb + 1⟩ := fun h1 => (hmem.1 h1).1 (by omega)
      (repeat' (first | refine awp_seq ?_ | refine awp_block ?_ | ((first | refine awp_skip ?_ | refine awp_exit ?_); simp only [ak, reduceIte]) | (refine awp_ret ?_; simp only [ak, reduceIte]; simp [hab]) | (refine awp_cond ?_; simp [hab]; (try with_reducible refine ⟨?_, ?_⟩) <;> (try with_reducible intro hc) <;> try (exfalso; omega)) | ((first | (refine w_e [] ?_; intro J hJ; simp only []) | (refine w_q ?_; intro J hJ) | refine e_go ?_); simp [hab]; (repeat refine ca ?_); (try ((try with_reducible refine ⟨?_, ?_⟩) <;> (try with_reducible intro hnil) <;> refine hJ _ _ ?_ <;> clear hJ J <;> simp only [ak, reduceIte] <;> try subst hnil)))))
      exact hJJ _ _ (by simp [fi]) (by simp [fn]) ⟨by simp [f1], by simp [f2], by simp [f3], by simp [f13], hG4, by omega, hK4, hnx hnot⟩
    have hab1 : ¬ ta + 1 = tb + 1 := by omega
    generalize ta + 1 = A at *
    generalize tb + 1 = B at *
    clear hab
    have h0 : (A != B) = true := by simpa using hab1
    have h0' : (A == B) = false := by simpa using hab1
    have hmb : k ∈ nrE n ⟨id, A, B⟩ ↔ ((A == n && B == k) || (A == k && B == n)) = true := by
      rw [hmem]
      simp [hab1]
    by_cases hk : k ∈ nrE n ⟨id, A, B⟩
    · have hD := hm hk
      subst hD
      have hmb := hmb.1 hk
      clear hm hnx hmem hJJ
      cases h1 : (A == n) <;> cases h2 : (B == k) <;> cases h3 : (A == k) <;> cases h4 : (B == n)
      all_goals first | (exfalso; simp [h1, h2, h3, h4] at hmb; done) | ((repeat' (first | refine awp_seq ?_ | refine awp_block ?_ | ((first | refine awp_skip ?_ | refine awp_exit ?_); simp only [ak, reduceIte]) | (refine awp_ret ?_; simp only [ak, reduceIte]; simp [h0, h0', h1, h2, h3, h4, f1, f2]) | (refine awp_cond ?_; simp [h0, h0', h1, h2, h3, h4, f1, f2]; (try with_reducible refine ⟨?_, ?_⟩) <;> (try with_reducible intro hc) <;> try (exfalso; omega)) | ((first | (refine w_e [] ?_; intro J hJ; simp only []) | (refine w_q ?_; intro J hJ) | refine e_go ?_); simp [h0, h0', h1, h2, h3, h4, f1, f2]; (repeat refine ca ?_); (try ((try with_reducible refine ⟨?_, ?_⟩) <;> (try with_reducible intro hnil) <;> refine hJ _ _ ?_ <;> clear hJ J <;> simp only [ak, reduceIte] <;> try subst hnil))))); exact hK4)
    · have hmb := mt hmb.2 hk
      have hnot := hnx hk
      clear hm hnx hmem
      cases h1 : (A == n) <;> cases h2 : (B == k) <;> cases h3 : (A == k) <;> cases h4 : (B == n)
      all_goals first | (exfalso; simp [h1, h2, h3, h4] at hmb; done) | ((repeat' (first | refine awp_seq ?_ | refine awp_block ?_ | ((first | refine awp_skip ?_ | refine awp_exit ?_); simp only [ak, reduceIte]) | (refine awp_ret ?_; simp only [ak, reduceIte]; simp [h0, h0', h1, h2, h3, h4, f1, f2]) | (refine awp_cond ?_; simp [h0, h0', h1, h2, h3, h4, f1, f2]; (try with_reducible refine ⟨?_, ?_⟩) <;> (try with_reducible intro hc) <;> try (exfalso; omega)) | ((first | (refine w_e [] ?_; intro J hJ; simp only []) | (refine w_q ?_; intro J hJ) | refine e_go ?_); simp [h0, h0', h1, h2, h3, h4, f1, f2]; (repeat refine ca ?_); (try ((try with_reducible refine ⟨?_, ?_⟩) <;> (try with_reducible intro hnil) <;> refine hJ _ _ ?_ <;> clear hJ J <;> simp only [ak, reduceIte] <;> try subst hnil))))); exact hJJ _ _ (by simp [fi]) (by simp [fn]) ⟨by simp [f1], by simp [f2], by simp [f3], by simp [f13], hG4, by omega, hK4, hnot⟩)
  · rintro fr s2 ⟨f1, f2, f3, f13, hG, hsn, hkp, hno⟩
    have htl : (m.g.es.map (sideOf R)).take m.g.es.length = m.g.es.map (sideOf R) := List.take_of_length_le (by omega)
    rw [htl] at hno
    rw [decide_eq_false hno]
    (repeat' (first | refine awp_seq ?_ | refine awp_block ?_ | ((first | refine awp_skip ?_ | refine awp_exit ?_); simp only [ak, reduceIte]) | (refine awp_ret ?_; simp only [ak, reduceIte]; simp []) | (refine awp_cond ?_; simp []; (try with_reducible refine ⟨?_, ?_⟩) <;> (try with_reducible intro hc) <;> try (exfalso; omega)) | ((first | (refine w_e [] ?_; intro J hJ; simp only []) | (refine w_q ?_; intro J hJ) | refine e_go ?_); simp []; (repeat refine ca ?_); (try ((try with_reducible refine ⟨?_, ?_⟩) <;> (try with_reducible intro hnil) <;> refine hJ _ _ ?_ <;> clear hJ J <;> simp only [ak, reduceIte] <;> try subst hnil)))))
    exact hkp

end Go.Proofs.YtaiakdhcajibnaaGreat.Aw

namespace Go.Proofs.YtaiakdhcajibnaaGreat.Aw
open Go Go.RowKit Go.Proofs.YtaiakdhcajibnaaGreat.Pl Go.Proofs.YtaiakdhcajibnaaGreat.Eu
set_option linter.unusedSimpArgs false
set_option linter.unusedVariables false

@[simp] theorem z0_eds (l : List Ed) : z0L (eds l) = eds l := by
  rw [z0L_map]
  induction l with
  | nil => rfl
  | cons x l ih => simp only [eds, List.flatMap_cons, List.map_append] at ih ⊢; rw [ih]; rfl
@[simp] theorem z0_rows (R : List (List Int)) : z0L (rowsL R) = rowsL R := by
  rw [z0L_map]
  induction R with
  | nil => rfl
  | cons x l ih => simp only [rowsL, List.map_cons] at ih ⊢; rw [ih]; simp [z0]
def mp0 : Mp := ⟨⟨[], []⟩, []⟩
/-- The dual, or why there is none. -/
def dmap (m : Mp) (R : List (List Int)) : Mp × Int := if brg R m.g.es ≠ [] then (mp0, 20) else if 64 < R.length then (mp0, 6) else (dm m R, 0)
def vsN (j : Nat) : List Int := (List.range j).map fun (k : Nat) => ((k : Int) + 1)
@[simp] theorem vsN_len (j : Nat) : (vsN j).length = j := by simp [vsN]
def edOf (R : List (List Int)) (x : Ed) : Ed := ⟨x.id, tix R (2 * x.id) + 1, tix R (2 * x.id + 1) + 1⟩
/-- The faces by their vertices' numbers. -/
def TurI (R : List (List Int)) (j : Nat) (es : List (List Int × LV)) : Prop := ∀ v, mget es [v] = if 1 ≤ v ∧ v ≤ (j : Int) then some (.sl 0 (R.getD (v - 1).toNat []).length (us (R.getD (v - 1).toNat []))) else none
def DMapP (m : Mp) (R : List (List Int)) (st : St) (r : LV) (st' : St) : Prop := r = .tu [.ag (mpL (dmap m R).1), i (dmap m R).2] ∧ Keeps st st'

end Go.Proofs.YtaiakdhcajibnaaGreat.Aw

namespace Go.Proofs.YtaiakdhcajibnaaGreat.Aw
open Go Go.RowKit Go.Proofs.YtaiakdhcajibnaaGreat.Pl Go.Proofs.YtaiakdhcajibnaaGreat.Eu
set_option linter.unusedSimpArgs false
set_option linter.unusedVariables false

end Go.Proofs.YtaiakdhcajibnaaGreat.Aw

namespace Go.Proofs.YtaiakdhcajibnaaGreat.Aw
open Go Go.RowKit Go.Proofs.YtaiakdhcajibnaaGreat.Pl Go.Proofs.YtaiakdhcajibnaaGreat.Eu
set_option linter.unusedSimpArgs false
set_option linter.unusedVariables false

theorem perm_of_sub : ∀ {a b : List Int}, a.Nodup → (∀ x ∈ a, x ∈ b) → b.length ≤ a.length → a.Perm b
  | [], b, _, _, hl => by
    have : b = [] := List.eq_nil_of_length_eq_zero (by simpa using hl)
    rw [this]
  | x :: a, b, hn, hs, hl => by
    rw [List.nodup_cons] at hn
    have hxb : x ∈ b := hs x List.mem_cons_self
    have p1 : b.Perm (x :: b.erase x) := List.perm_cons_erase hxb
    refine List.Perm.trans (List.Perm.cons x (perm_of_sub hn.2 (fun y hy => ?_) ?_)) p1.symm
    · have hne : y ≠ x := by rintro rfl; exact hn.1 hy
      exact (List.mem_erase_of_ne hne).2 (hs y (List.mem_cons_of_mem _ hy))
    · have := p1.length_eq
      simp only [List.length_cons] at this hl
      omega
theorem okTurn.head {es : List Ed} (hi : es.Pairwise (fun x y => x.id < y.id)) {v : Int} {t : List Int} (h : okTurn es v t) : t.getD 0 0 = (ends es v).getD 0 0 := by
  cases he : ends es v with
  | nil => have := h.1; rw [he] at this; rw [this.eq_nil]
  | cons a r =>
    have hr := ends_rise hi v
    rw [he, List.pairwise_cons] at hr
    have hp := h.1
    rw [he] at hp
    have hne : t ≠ [] := by rintro rfl; have := hp.length_eq; simp at this
    obtain ⟨z, hz⟩ := nrm_head t hne
    rw [h.2] at hz
    have hm : mn t = a := by
      refine mn_eq (hp.mem_iff.2 List.mem_cons_self) fun x hx => ?_
      rcases List.mem_cons.1 (hp.mem_iff.1 hx) with rfl | h1
      · exact Int.le_refl _
      · have := hr.1 x h1; omega
    rw [hz, hm]; rfl
def rok (m : Mp) (k : Nat) : Prop := okTurn m.g.es (m.g.vs.getD k 0) (m.rots.getD k [])
/-- What Check answers. -/
noncomputable def rchk (m : Mp) : Int := if chk m.g ≠ 0 then chk m.g else if m.rots.length ≠ m.g.vs.length then 22 else @ite _ (∀ k, k < m.g.vs.length → rok m k) (Classical.propDecidable _) 0 22
theorem rchk_g {m : Mp} (h : chk m.g ≠ 0) : rchk m = chk m.g := by unfold rchk; rw [if_pos h]
theorem rchk_len {m : Mp} (h : chk m.g = 0) (h1 : m.rots.length ≠ m.g.vs.length) : rchk m = 22 := by unfold rchk; rw [if_neg (fun e => e h), if_pos h1]
theorem rchk_bad {m : Mp} (h : chk m.g = 0) {k : Nat} (hk : k < m.g.vs.length) (h1 : ¬ rok m k) : rchk m = 22 := by
  unfold rchk
  rw [if_neg (fun e => e h)]
  split
  · rfl
  · rw [if_neg (fun e => h1 (e k hk))]
theorem rchk_ok {m : Mp} (h : chk m.g = 0) (h1 : m.rots.length = m.g.vs.length) (h2 : ∀ k, k < m.g.vs.length → rok m k) : rchk m = 0 := by
  unfold rchk
  rw [if_neg (fun e => e h), if_neg (fun e => e h1), if_pos h2]
theorem rchk_zero {m : Mp} (h : rchk m = 0) : chk m.g = 0 ∧ MapOk m := by
  by_cases h0 : chk m.g = 0
  · refine ⟨h0, ?_⟩
    by_cases h1 : m.rots.length = m.g.vs.length
    · refine ⟨chk_goodE h0, h1, fun k hk => ?_⟩
      refine Classical.byContradiction fun hn => ?_
      rw [rchk_bad h0 hk hn] at h; cases h
    · rw [rchk_len h0 h1] at h; cases h
  · rw [rchk_g h0] at h; exact absurd h h0

end Go.Proofs.YtaiakdhcajibnaaGreat.Aw

namespace Go.Proofs.YtaiakdhcajibnaaGreat.Aw
open Go Go.RowKit Go.Proofs.YtaiakdhcajibnaaGreat.Pl Go.Proofs.YtaiakdhcajibnaaGreat.Eu
set_option linter.unusedSimpArgs false
set_option linter.unusedVariables false

/-- A map's genus. -/
noncomputable def gn (m : Mp) : Nat := (2 * ncl (Reach m.g.es) m.g.vs + m.g.es.length - (alone m.g + m.g.vs.length + ncl (Orb (fc m m.g.es)) (darts m.g.es))) / 2
theorem MapOk.gn {m : Mp} (h : MapOk m) : 2 * ncl (Reach m.g.es) m.g.vs + m.g.es.length = 2 * gn m + alone m.g + m.g.vs.length + ncl (Orb (fc m m.g.es)) (darts m.g.es) := by
  obtain ⟨k, hk⟩ := h.euler
  have : Aw.gn m = k := by unfold Aw.gn; omega
  omega

end Go.Proofs.YtaiakdhcajibnaaGreat.Aw

namespace Go.Proofs.YtaiakdhcajibnaaGreat.Aw
open Go Go.RowKit Go.Proofs.YtaiakdhcajibnaaGreat.Pl Go.Proofs.YtaiakdhcajibnaaGreat.Eu
set_option linter.unusedSimpArgs false
set_option linter.unusedVariables false

set_option maxHeartbeats 1000000 in
theorem ref_rCheck (m : Mp) (st : St) (hv : m.g.vs.length ≤ 1000) (he : m.g.es.length ≤ 1000) (hr : m.rots.length ≤ 1000) :
    ACalls Tryz.prog 65 [.ag (mpL m)] st fun r st' => r = i (rchk m) ∧ Keeps st st' := by
  refine acalls_of_body tabOk Tryz.func65 rfl rfl Tryz.ntmps65 (rs := [.tmp 2]) rfl (by simp) ?_
  (repeat' (first | refine awp_seq ?_ | refine awp_block ?_ | ((first | refine awp_skip ?_ | refine awp_exit ?_); simp only [ak, reduceIte]) | (refine awp_ret ?_; simp only [ak, reduceIte]; simp []) | (refine awp_cond ?_; simp []; (try with_reducible refine ⟨?_, ?_⟩) <;> (try with_reducible intro hc) <;> try (exfalso; omega)) | ((first | (refine w_e [] ?_; intro J hJ; simp only []) | (refine w_q ?_; intro J hJ) | refine e_go ?_); simp []; (repeat refine ca ?_); (try ((try with_reducible refine ⟨?_, ?_⟩) <;> (try with_reducible intro hnil) <;> refine hJ _ _ ?_ <;> clear hJ J <;> simp only [ak, reduceIte] <;> try subst hnil)))))
  refine callK_ofE (ref_Check m.g _ hv he) (by simp) ?_; rintro r s1 ⟨rfl, hk1⟩
  have hn1 := hk1.next
  simp only [new_next] at hn1
  have hG1 : s1.H st.next = .box 28 3 (mpL m) := by rw [hk1.H _ (by simp)]; simp
  have hK1 : Keeps st s1 := (Keeps.new _ _).trans hk1
  by_cases hc : chk m.g = 0
  rotate_left
  · have hrc := rchk_g hc
    generalize chk m.g = x at *
    (repeat' (first | refine awp_seq ?_ | refine awp_block ?_ | ((first | refine awp_skip ?_ | refine awp_exit ?_); simp only [ak, reduceIte]) | (refine awp_ret ?_; simp only [ak, reduceIte]; simp [hc, hrc]) | (refine awp_cond ?_; simp [hc, hrc]; (try with_reducible refine ⟨?_, ?_⟩) <;> (try with_reducible intro hc) <;> try (exfalso; omega)) | ((first | (refine w_e [] ?_; intro J hJ; simp only []) | (refine w_q ?_; intro J hJ) | refine e_go ?_); simp [hc, hrc]; (repeat refine ca ?_); (try ((try with_reducible refine ⟨?_, ?_⟩) <;> (try with_reducible intro hnil) <;> refine hJ _ _ ?_ <;> clear hJ J <;> simp only [ak, reduceIte] <;> try subst hnil)))))
    exact hK1
  have hgd := chk_goodE hc
  have hid : idOk m.g.es := fun x hx => by have := hgd.pos x hx; omega
  by_cases hl : m.rots.length = m.g.vs.length
  rotate_left
  · have hrc := rchk_len hc hl
    (repeat' (first | refine awp_seq ?_ | refine awp_block ?_ | ((first | refine awp_skip ?_ | refine awp_exit ?_); simp only [ak, reduceIte]) | (refine awp_ret ?_; simp only [ak, reduceIte]; simp [hc, hrc, hG1, hl]) | (refine awp_cond ?_; simp [hc, hrc, hG1, hl]; (try with_reducible refine ⟨?_, ?_⟩) <;> (try with_reducible intro hc) <;> try (exfalso; omega)) | ((first | (refine w_e [] ?_; intro J hJ; simp only []) | (refine w_q ?_; intro J hJ) | refine e_go ?_); simp [hc, hrc, hG1, hl]; (repeat refine ca ?_); (try ((try with_reducible refine ⟨?_, ?_⟩) <;> (try with_reducible intro hnil) <;> refine hJ _ _ ?_ <;> clear hJ J <;> simp only [ak, reduceIte] <;> try subst hnil)))))
    exact hK1
  (repeat' (first | refine awp_seq ?_ | refine awp_block ?_ | ((first | refine awp_skip ?_ | refine awp_exit ?_); simp only [ak, reduceIte]) | (refine awp_ret ?_; simp only [ak, reduceIte]; simp [hc, hG1, hl]) | (refine awp_cond ?_; simp [hc, hG1, hl]; (try with_reducible refine ⟨?_, ?_⟩) <;> (try with_reducible intro hc) <;> try (exfalso; omega)) | ((first | (refine w_e [] ?_; intro J hJ; simp only []) | (refine w_q ?_; intro J hJ) | refine e_go ?_); simp [hc, hG1, hl]; (repeat refine ca ?_); (try ((try with_reducible refine ⟨?_, ?_⟩) <;> (try with_reducible intro hnil) <;> refine hJ _ _ ?_ <;> clear hJ J <;> simp only [ak, reduceIte] <;> try subst hnil)))))
  refine awp_range 28 27 29 65 (m.g.vs.length) (fun j fr st2 => fr 1 = .pt st.next 0 ∧ fr 26 = .sl 0 m.g.vs.length (us m.g.vs) ∧ st2.H st.next = .box 28 3 (mpL m) ∧ Keeps st st2 ∧ st.next < st2.next ∧ ∀ k, k < j → rok m k) ?_ ?_ ?_
  · exact ⟨by simp, by simp, hG1, hK1, by omega, fun k hk => by omega⟩
  · rintro j0 fr st2 hlt ⟨f1, f26, hG, hkp, hsn, hok⟩ fi fn JJ hJJ
    have hd := us_drop_getD m.g.vs j0 hlt
    have hd2 := rowsL_drop m.rots j0 (by omega)
    have hRl : j0 < (rowsL m.rots).length := by simp; omega
    have htin : m.rots.getD j0 [] ∈ m.rots := by rw [getR_lt _ _ (by omega)]; exact List.getElem_mem _
    have hbad := fun h => rchk_bad hc hlt h
    have hnx : rok m j0 → ∀ k, k < j0 + 1 → rok m k := fun h k hk => by
      rcases Nat.lt_or_ge k j0 with h1 | h1
      · exact hok k h1
      · obtain rfl : k = j0 := by omega
        exact h
    have hok1 : rok m j0 ↔ (m.rots.getD j0 []).Perm (ends m.g.es (m.g.vs.getD j0 0)) ∧ nrm (m.rots.getD j0 []) = m.rots.getD j0 [] := Iff.rfl
    have hel : (ends m.g.es (m.g.vs.getD j0 0)).length ≤ 2 * m.g.es.length := flat_len _ (end1_len _) _
    have hrise := ends_rise hgd.ids (m.g.vs.getD j0 0)
    generalize rok m j0 = OK at *
    generalize m.rots.getD j0 [] = t at *
    generalize m.g.vs.getD j0 0 = v at *
    (repeat' (first | refine awp_seq ?_ | refine awp_block ?_ | ((first | refine awp_skip ?_ | refine awp_exit ?_); simp only [ak, reduceIte]) | (refine awp_ret ?_; simp only [ak, reduceIte]; simp [f1, f26, fi, fn, hd, hlt, hG, hd2, hRl, hl]) | (refine awp_cond ?_; simp [f1, f26, fi, fn, hd, hlt, hG, hd2, hRl, hl]; (try with_reducible refine ⟨?_, ?_⟩) <;> (try with_reducible intro hc) <;> try (exfalso; omega)) | ((first | (refine w_e [] ?_; intro J hJ; simp only []) | (refine w_q ?_; intro J hJ) | refine e_go ?_); simp [f1, f26, fi, fn, hd, hlt, hG, hd2, hRl, hl]; (repeat refine ca ?_); (try ((try with_reducible refine ⟨?_, ?_⟩) <;> (try with_reducible intro hnil) <;> refine hJ _ _ ?_ <;> clear hJ J <;> simp only [ak, reduceIte] <;> try subst hnil)))))
    refine callK_ofE (ref_Ends m.g v _ he hid) (by simp) ?_; rintro r s3 ⟨⟨te, rfl⟩, hk3⟩
    have hn3 := hk3.next
    have hG3 := (hk3.H st.next (by omega)).trans hG
    have hK3 := hkp.trans hk3
    generalize ends m.g.es v = E at *
    by_cases h1 : t.length = E.length
    rotate_left
    · have hrc := hbad fun h => h1 (hok1.1 h).1.length_eq
      have h1b : ((t.length : Int) != (E.length : Int)) = true := by simp; omega
      (repeat' (first | refine awp_seq ?_ | refine awp_block ?_ | ((first | refine awp_skip ?_ | refine awp_exit ?_); simp only [ak, reduceIte]) | (refine awp_ret ?_; simp only [ak, reduceIte]; simp [h1b, h1, hrc]) | (refine awp_cond ?_; simp [h1b, h1, hrc]; (try with_reducible refine ⟨?_, ?_⟩) <;> (try with_reducible intro hc) <;> try (exfalso; omega)) | ((first | (refine w_e [] ?_; intro J hJ; simp only []) | (refine w_q ?_; intro J hJ) | refine e_go ?_); simp [h1b, h1, hrc]; (repeat refine ca ?_); (try ((try with_reducible refine ⟨?_, ?_⟩) <;> (try with_reducible intro hnil) <;> refine hJ _ _ ?_ <;> clear hJ J <;> simp only [ak, reduceIte] <;> try subst hnil)))))
      exact hK3
    (repeat' (first | refine awp_seq ?_ | refine awp_block ?_ | ((first | refine awp_skip ?_ | refine awp_exit ?_); simp only [ak, reduceIte]) | (refine awp_ret ?_; simp only [ak, reduceIte]; simp [h1]) | (refine awp_cond ?_; simp [h1]; (try with_reducible refine ⟨?_, ?_⟩) <;> (try with_reducible intro hc) <;> try (exfalso; omega)) | ((first | (refine w_e [] ?_; intro J hJ; simp only []) | (refine w_q ?_; intro J hJ) | refine e_go ?_); simp [h1]; (repeat refine ca ?_); (try ((try with_reducible refine ⟨?_, ?_⟩) <;> (try with_reducible intro hnil) <;> refine hJ _ _ ?_ <;> clear hJ J <;> simp only [ak, reduceIte] <;> try subst hnil)))))
    refine callK_ofE (ref_Normal t 0 _ (by unfold small; omega)) (by simp [h1]) ?_; rintro r s4 ⟨rfl, hk4⟩
    have hn4 := hk4.next
    have hG4 := (hk4.H st.next (by omega)).trans hG3
    have hK4 := hK3.trans hk4
    have hnl := nrm_length t
    (repeat' (first | refine awp_seq ?_ | refine awp_block ?_ | ((first | refine awp_skip ?_ | refine awp_exit ?_); simp only [ak, reduceIte]) | (refine awp_ret ?_; simp only [ak, reduceIte]; simp []) | (refine awp_cond ?_; simp []; (try with_reducible refine ⟨?_, ?_⟩) <;> (try with_reducible intro hc) <;> try (exfalso; omega)) | ((first | (refine w_e [] ?_; intro J hJ; simp only []) | (refine w_q ?_; intro J hJ) | refine e_go ?_); simp []; (repeat refine ca ?_); (try ((try with_reducible refine ⟨?_, ?_⟩) <;> (try with_reducible intro hnil) <;> refine hJ _ _ ?_ <;> clear hJ J <;> simp only [ak, reduceIte] <;> try subst hnil)))))
    refine callK_ofE (ref_Same t (nrm t) 0 0 _ (by unfold small; omega)) (by simp [h1, hnl]) ?_; rintro r s5 ⟨rfl, rfl⟩
    by_cases h2 : t = nrm t
    rotate_left
    · have hrc := hbad fun h => h2 (hok1.1 h).2.symm
      (repeat' (first | refine awp_seq ?_ | refine awp_block ?_ | ((first | refine awp_skip ?_ | refine awp_exit ?_); simp only [ak, reduceIte]) | (refine awp_ret ?_; simp only [ak, reduceIte]; simp [h2, hrc]) | (refine awp_cond ?_; simp [h2, hrc]; (try with_reducible refine ⟨?_, ?_⟩) <;> (try with_reducible intro hc) <;> try (exfalso; omega)) | ((first | (refine w_e [] ?_; intro J hJ; simp only []) | (refine w_q ?_; intro J hJ) | refine e_go ?_); simp [h2, hrc]; (repeat refine ca ?_); (try ((try with_reducible refine ⟨?_, ?_⟩) <;> (try with_reducible intro hnil) <;> refine hJ _ _ ?_ <;> clear hJ J <;> simp only [ak, reduceIte] <;> try subst hnil)))))
      exact hK4
    have h2' : decide (t = nrm t) = true := by simpa using h2
    rw [h2']
    (repeat' (first | refine awp_seq ?_ | refine awp_block ?_ | ((first | refine awp_skip ?_ | refine awp_exit ?_); simp only [ak, reduceIte]) | (refine awp_ret ?_; simp only [ak, reduceIte]; simp []) | (refine awp_cond ?_; simp []; (try with_reducible refine ⟨?_, ?_⟩) <;> (try with_reducible intro hc) <;> try (exfalso; omega)) | ((first | (refine w_e [] ?_; intro J hJ; simp only []) | (refine w_q ?_; intro J hJ) | refine e_go ?_); simp []; (repeat refine ca ?_); (try ((try with_reducible refine ⟨?_, ?_⟩) <;> (try with_reducible intro hnil) <;> refine hJ _ _ ?_ <;> clear hJ J <;> simp only [ak, reduceIte] <;> try subst hnil)))))
    refine awp_range 56 55 57 64 (E.length) (fun j fr st2 => fr 1 = .pt st.next 0 ∧ fr 26 = .sl 0 m.g.vs.length (us m.g.vs) ∧ fr 28 = i j0 ∧ fr 27 = i m.g.vs.length ∧ fr 6 = .sl 0 t.length (us t) ∧ fr 54 = .sl te E.length (us E) ∧ st2 = s5 ∧ ∀ k, k < j → E.getD k 0 ∈ t) ?_ ?_ ?_
    · exact ⟨by simp [f1], by simp [f26], by simp [fi], by simp [fn], by simp [h1], by simp, rfl, fun k hk => by omega⟩
    · clear f1 f26 fi fn fr
      rintro k fr st6 hk ⟨f1, f26, f28, f27, f6, f54, rfl, hall⟩ fi fn J2 hJ2
      have hd3 := us_drop_getD E k hk
      have hin : E.getD k 0 ∈ E := by rw [getD_lt _ _ hk]; exact List.getElem_mem _
      generalize hx : E.getD k 0 = x at *
      (repeat' (first | refine awp_seq ?_ | refine awp_block ?_ | ((first | refine awp_skip ?_ | refine awp_exit ?_); simp only [ak, reduceIte]) | (refine awp_ret ?_; simp only [ak, reduceIte]; simp [f54, f6, fi, fn, hd3, hk]) | (refine awp_cond ?_; simp [f54, f6, fi, fn, hd3, hk]; (try with_reducible refine ⟨?_, ?_⟩) <;> (try with_reducible intro hc) <;> try (exfalso; omega)) | ((first | (refine w_e [] ?_; intro J hJ; simp only []) | (refine w_q ?_; intro J hJ) | refine e_go ?_); simp [f54, f6, fi, fn, hd3, hk]; (repeat refine ca ?_); (try ((try with_reducible refine ⟨?_, ?_⟩) <;> (try with_reducible intro hnil) <;> refine hJ _ _ ?_ <;> clear hJ J <;> simp only [ak, reduceIte] <;> try subst hnil)))))
      refine callK_ofE (Find t 0 x _ (by unfold small; omega)) (by simp [h1]) ?_; rintro r s7 ⟨rfl, rfl⟩
      by_cases hxt : x ∈ t
      · have hg := gi_mem hxt
        (repeat' (first | refine awp_seq ?_ | refine awp_block ?_ | ((first | refine awp_skip ?_ | refine awp_exit ?_); simp only [ak, reduceIte]) | (refine awp_ret ?_; simp only [ak, reduceIte]; simp [hg]) | (refine awp_cond ?_; simp [hg]; (try with_reducible refine ⟨?_, ?_⟩) <;> (try with_reducible intro hc) <;> try (exfalso; omega)) | ((first | (refine w_e [] ?_; intro J hJ; simp only []) | (refine w_q ?_; intro J hJ) | refine e_go ?_); simp [hg]; (repeat refine ca ?_); (try ((try with_reducible refine ⟨?_, ?_⟩) <;> (try with_reducible intro hnil) <;> refine hJ _ _ ?_ <;> clear hJ J <;> simp only [ak, reduceIte] <;> try subst hnil)))))
        refine hJ2 _ _ (by simp [fi]) (by simp [fn]) ⟨by simp [f1], by simp [f26], by simp [f28], by simp [f27], by simp [f6], by simp [f54], rfl, fun q hq => ?_⟩
        rcases Nat.lt_or_ge q k with h3 | h3
        · exact hall q h3
        · obtain rfl : q = k := by omega
          rw [hx]; exact hxt
      · have hg := gi_not hxt
        have hrc := hbad fun h => hxt ((hok1.1 h).1.mem_iff.2 hin)
        (repeat' (first | refine awp_seq ?_ | refine awp_block ?_ | ((first | refine awp_skip ?_ | refine awp_exit ?_); simp only [ak, reduceIte]) | (refine awp_ret ?_; simp only [ak, reduceIte]; simp [hg, hrc]) | (refine awp_cond ?_; simp [hg, hrc]; (try with_reducible refine ⟨?_, ?_⟩) <;> (try with_reducible intro hc) <;> try (exfalso; omega)) | ((first | (refine w_e [] ?_; intro J hJ; simp only []) | (refine w_q ?_; intro J hJ) | refine e_go ?_); simp [hg, hrc]; (repeat refine ca ?_); (try ((try with_reducible refine ⟨?_, ?_⟩) <;> (try with_reducible intro hnil) <;> refine hJ _ _ ?_ <;> clear hJ J <;> simp only [ak, reduceIte] <;> try subst hnil)))))
        exact hK4
    · clear f1 f26 fi fn fr
      rintro fr st6 ⟨f1, f26, f28, f27, f6, f54, rfl, hall⟩
      (repeat' (first | refine awp_seq ?_ | refine awp_block ?_ | ((first | refine awp_skip ?_ | refine awp_exit ?_); simp only [ak, reduceIte]) | (refine awp_ret ?_; simp only [ak, reduceIte]; simp []) | (refine awp_cond ?_; simp []; (try with_reducible refine ⟨?_, ?_⟩) <;> (try with_reducible intro hc) <;> try (exfalso; omega)) | ((first | (refine w_e [] ?_; intro J hJ; simp only []) | (refine w_q ?_; intro J hJ) | refine e_go ?_); simp []; (repeat refine ca ?_); (try ((try with_reducible refine ⟨?_, ?_⟩) <;> (try with_reducible intro hnil) <;> refine hJ _ _ ?_ <;> clear hJ J <;> simp only [ak, reduceIte] <;> try subst hnil)))))
      refine hJJ _ _ (by simp [f28]) (by simp [f27]) ⟨by simp [f1], by simp [f26], hG4, hK4, by omega, hnx (hok1.2 ⟨?_, h2.symm⟩)⟩
      refine (perm_of_sub (rise_nodup hrise) (fun x hx => ?_) (by omega)).symm
      obtain ⟨q, hq, rfl⟩ := List.getElem_of_mem hx
      have := hall q hq
      rwa [getD_lt _ _ hq] at this
  · rintro fr st2 ⟨f1, f26, hG, hkp, hsn, hok⟩
    have hrc := rchk_ok hc hl hok
    (repeat' (first | refine awp_seq ?_ | refine awp_block ?_ | ((first | refine awp_skip ?_ | refine awp_exit ?_); simp only [ak, reduceIte]) | (refine awp_ret ?_; simp only [ak, reduceIte]; simp [hrc]) | (refine awp_cond ?_; simp [hrc]; (try with_reducible refine ⟨?_, ?_⟩) <;> (try with_reducible intro hc) <;> try (exfalso; omega)) | ((first | (refine w_e [] ?_; intro J hJ; simp only []) | (refine w_q ?_; intro J hJ) | refine e_go ?_); simp [hrc]; (repeat refine ca ?_); (try ((try with_reducible refine ⟨?_, ?_⟩) <;> (try with_reducible intro hnil) <;> refine hJ _ _ ?_ <;> clear hJ J <;> simp only [ak, reduceIte] <;> try subst hnil)))))
    exact hkp

/-- What Right answers. -/
noncomputable def rright (m : Mp) : Int := if rchk m ≠ 0 then rchk m else if gn m ≠ 0 then 23 else 0

end Go.Proofs.YtaiakdhcajibnaaGreat.Aw

namespace Go.Proofs.YtaiakdhcajibnaaGreat.Aw
open Go Go.RowKit Go.Proofs.YtaiakdhcajibnaaGreat.Pl
set_option linter.unusedSimpArgs false
set_option linter.unusedVariables false

theorem ref_Chk (g : Gr) (st : St) : ACalls Tryz.prog 41 [.ag (grL g)] st fun r st' => r = i (chk g) ∧ Keeps st st' := by
  by_cases h1 : (64 : Int) < (g.vs.length : Int)
  · have : chk g = 6 := by unfold chk; rw [if_pos (by omega)]
    refine acalls_of_body tabOk Tryz.func41 rfl rfl Tryz.ntmps41 (rs := [.tmp 2]) rfl (by simp) ?_
    (repeat' (first | refine awp_seq ?_ | refine awp_block ?_ | ((first | refine awp_skip ?_ | refine awp_exit ?_); simp only [ak, reduceIte]) | (refine awp_ret ?_; simp only [ak, reduceIte]; simp [h1, this]) | (refine awp_cond ?_; simp [h1, this]; (try with_reducible refine ⟨?_, ?_⟩) <;> (try with_reducible intro hc) <;> try (exfalso; omega)) | ((first | (refine w_e [] ?_; intro J hJ; simp only []) | (refine w_q ?_; intro J hJ) | refine e_go ?_); simp [h1, this]; (repeat refine ca ?_); (try ((try with_reducible refine ⟨?_, ?_⟩) <;> (try with_reducible intro hnil) <;> refine hJ _ _ ?_ <;> clear hJ J <;> simp only [ak, reduceIte] <;> try subst hnil)))))
    exact Keeps.new _ _
  by_cases h2 : (160 : Int) < (g.es.length : Int)
  · have : chk g = 6 := by unfold chk; rw [if_pos (by omega)]
    refine acalls_of_body tabOk Tryz.func41 rfl rfl Tryz.ntmps41 (rs := [.tmp 2]) rfl (by simp) ?_
    (repeat' (first | refine awp_seq ?_ | refine awp_block ?_ | ((first | refine awp_skip ?_ | refine awp_exit ?_); simp only [ak, reduceIte]) | (refine awp_ret ?_; simp only [ak, reduceIte]; simp [h1, h2, this]) | (refine awp_cond ?_; simp [h1, h2, this]; (try with_reducible refine ⟨?_, ?_⟩) <;> (try with_reducible intro hc) <;> try (exfalso; omega)) | ((first | (refine w_e [] ?_; intro J hJ; simp only []) | (refine w_q ?_; intro J hJ) | refine e_go ?_); simp [h1, h2, this]; (repeat refine ca ?_); (try ((try with_reducible refine ⟨?_, ?_⟩) <;> (try with_reducible intro hnil) <;> refine hJ _ _ ?_ <;> clear hJ J <;> simp only [ak, reduceIte] <;> try subst hnil)))))
    exact Keeps.new _ _
  exact ref_Check g st (by omega) (by omega)

end Go.Proofs.YtaiakdhcajibnaaGreat.Aw

namespace Go.Proofs.YtaiakdhcajibnaaGreat.Aw
open Go Go.RowKit Go.Proofs.YtaiakdhcajibnaaGreat.Pl Go.Proofs.YtaiakdhcajibnaaGreat.Eu
set_option linter.unusedSimpArgs false
set_option linter.unusedVariables false

noncomputable def lit (m : Mp) : Bool := decide (m.g.es.length ≤ 24) && decide (m.rots.length ≤ 64) && decide (rchk m = 0)
theorem chk_small {m : Mp} (h : rchk m = 0) : m.g.vs.length ≤ 64 := by
  obtain ⟨_, _, h3, _⟩ := chk_good (rchk_zero h).1
  exact h3
theorem ref_rCheckA (m : Mp) (st : St) (hr : m.rots.length ≤ 1000) (he : m.g.es.length ≤ 1000) : ACalls Tryz.prog 65 [.ag (mpL m)] st fun r st' => r = i (rchk m) ∧ Keeps st st' := by
  by_cases hv : m.g.vs.length ≤ 1000
  · exact ref_rCheck m st hv he hr
  · have hc : chk m.g = 6 := by unfold chk; rw [if_pos (by omega)]
    have hrc : rchk m = 6 := by rw [rchk_g (by rw [hc]; decide), hc]
    refine acalls_of_body tabOk Tryz.func65 rfl rfl Tryz.ntmps65 (rs := [.tmp 2]) rfl (by simp) ?_
    (repeat' (first | refine awp_seq ?_ | refine awp_block ?_ | ((first | refine awp_skip ?_ | refine awp_exit ?_); simp only [ak, reduceIte]) | (refine awp_ret ?_; simp only [ak, reduceIte]; simp []) | (refine awp_cond ?_; simp []; (try with_reducible refine ⟨?_, ?_⟩) <;> (try with_reducible intro hc) <;> try (exfalso; omega)) | ((first | (refine w_e [] ?_; intro J hJ; simp only []) | (refine w_q ?_; intro J hJ) | refine e_go ?_); simp []; (repeat refine ca ?_); (try ((try with_reducible refine ⟨?_, ?_⟩) <;> (try with_reducible intro hnil) <;> refine hJ _ _ ?_ <;> clear hJ J <;> simp only [ak, reduceIte] <;> try subst hnil)))))
    refine callK_ofE (ref_Chk m.g _) (by simp) ?_; rintro r s1 ⟨rfl, hk1⟩
    rw [hc]
    (repeat' (first | refine awp_seq ?_ | refine awp_block ?_ | ((first | refine awp_skip ?_ | refine awp_exit ?_); simp only [ak, reduceIte]) | (refine awp_ret ?_; simp only [ak, reduceIte]; simp [hrc]) | (refine awp_cond ?_; simp [hrc]; (try with_reducible refine ⟨?_, ?_⟩) <;> (try with_reducible intro hc) <;> try (exfalso; omega)) | ((first | (refine w_e [] ?_; intro J hJ; simp only []) | (refine w_q ?_; intro J hJ) | refine e_go ?_); simp [hrc]; (repeat refine ca ?_); (try ((try with_reducible refine ⟨?_, ?_⟩) <;> (try with_reducible intro hnil) <;> refine hJ _ _ ?_ <;> clear hJ J <;> simp only [ak, reduceIte] <;> try subst hnil)))))
    exact (Keeps.new _ _).trans hk1
theorem light (m : Mp) (st : St) : ACalls Tryz.prog 15 [.ag (mpL m)] st fun r st' => r = bb (lit m) ∧ Keeps st st' := by
  refine acalls_of_body tabOk Tryz.func15 rfl rfl Tryz.ntmps15 (rs := [.tmp 2]) rfl (by simp) ?_
  by_cases h1 : (m.g.es.length : Int) ≤ 24
  rotate_left
  · have hf : lit m = false := by unfold lit; simp; omega
    (repeat' (first | refine awp_seq ?_ | refine awp_block ?_ | ((first | refine awp_skip ?_ | refine awp_exit ?_); simp only [ak, reduceIte]) | (refine awp_ret ?_; simp only [ak, reduceIte]; simp [h1, hf]) | (refine awp_cond ?_; simp [h1, hf]; (try with_reducible refine ⟨?_, ?_⟩) <;> (try with_reducible intro hc) <;> try (exfalso; omega)) | ((first | (refine w_e [] ?_; intro J hJ; simp only []) | (refine w_q ?_; intro J hJ) | refine e_go ?_); simp [h1, hf]; (repeat refine ca ?_); (try ((try with_reducible refine ⟨?_, ?_⟩) <;> (try with_reducible intro hnil) <;> refine hJ _ _ ?_ <;> clear hJ J <;> simp only [ak, reduceIte] <;> try subst hnil)))))
    exact Keeps.new _ _
  by_cases h2 : (m.rots.length : Int) ≤ 64
  rotate_left
  · have hf : lit m = false := by unfold lit; simp; omega
    (repeat' (first | refine awp_seq ?_ | refine awp_block ?_ | ((first | refine awp_skip ?_ | refine awp_exit ?_); simp only [ak, reduceIte]) | (refine awp_ret ?_; simp only [ak, reduceIte]; simp [h1, h2, hf]) | (refine awp_cond ?_; simp [h1, h2, hf]; (try with_reducible refine ⟨?_, ?_⟩) <;> (try with_reducible intro hc) <;> try (exfalso; omega)) | ((first | (refine w_e [] ?_; intro J hJ; simp only []) | (refine w_q ?_; intro J hJ) | refine e_go ?_); simp [h1, h2, hf]; (repeat refine ca ?_); (try ((try with_reducible refine ⟨?_, ?_⟩) <;> (try with_reducible intro hnil) <;> refine hJ _ _ ?_ <;> clear hJ J <;> simp only [ak, reduceIte] <;> try subst hnil)))))
    exact Keeps.new _ _
  (repeat' (first | refine awp_seq ?_ | refine awp_block ?_ | ((first | refine awp_skip ?_ | refine awp_exit ?_); simp only [ak, reduceIte]) | (refine awp_ret ?_; simp only [ak, reduceIte]; simp [h1, h2]) | (refine awp_cond ?_; simp [h1, h2]; (try with_reducible refine ⟨?_, ?_⟩) <;> (try with_reducible intro hc) <;> try (exfalso; omega)) | ((first | (refine w_e [] ?_; intro J hJ; simp only []) | (refine w_q ?_; intro J hJ) | refine e_go ?_); simp [h1, h2]; (repeat refine ca ?_); (try ((try with_reducible refine ⟨?_, ?_⟩) <;> (try with_reducible intro hnil) <;> refine hJ _ _ ?_ <;> clear hJ J <;> simp only [ak, reduceIte] <;> try subst hnil)))))
  refine callK_ofE (ref_rCheckA m _ (by omega) (by omega)) (by simp) ?_; rintro r s1 ⟨rfl, hk1⟩
  have hf : lit m = decide (rchk m = 0) := by
    unfold lit
    rw [decide_eq_true (by omega), decide_eq_true (by omega)]; rfl
  by_cases hc : rchk m = 0
  · (repeat' (first | refine awp_seq ?_ | refine awp_block ?_ | ((first | refine awp_skip ?_ | refine awp_exit ?_); simp only [ak, reduceIte]) | (refine awp_ret ?_; simp only [ak, reduceIte]; simp [hc, hf]) | (refine awp_cond ?_; simp [hc, hf]; (try with_reducible refine ⟨?_, ?_⟩) <;> (try with_reducible intro hc) <;> try (exfalso; omega)) | ((first | (refine w_e [] ?_; intro J hJ; simp only []) | (refine w_q ?_; intro J hJ) | refine e_go ?_); simp [hc, hf]; (repeat refine ca ?_); (try ((try with_reducible refine ⟨?_, ?_⟩) <;> (try with_reducible intro hnil) <;> refine hJ _ _ ?_ <;> clear hJ J <;> simp only [ak, reduceIte] <;> try subst hnil)))))
    exact (Keeps.new _ _).trans hk1
  · rw [decide_eq_false hc] at hf
    generalize rchk m = x at *
    (repeat' (first | refine awp_seq ?_ | refine awp_block ?_ | ((first | refine awp_skip ?_ | refine awp_exit ?_); simp only [ak, reduceIte]) | (refine awp_ret ?_; simp only [ak, reduceIte]; simp [hc, hf]) | (refine awp_cond ?_; simp [hc, hf]; (try with_reducible refine ⟨?_, ?_⟩) <;> (try with_reducible intro hc) <;> try (exfalso; omega)) | ((first | (refine w_e [] ?_; intro J hJ; simp only []) | (refine w_q ?_; intro J hJ) | refine e_go ?_); simp [hc, hf]; (repeat refine ca ?_); (try ((try with_reducible refine ⟨?_, ?_⟩) <;> (try with_reducible intro hnil) <;> refine hJ _ _ ?_ <;> clear hJ J <;> simp only [ak, reduceIte] <;> try subst hnil)))))
    exact (Keeps.new _ _).trans hk1
theorem lit_of {m : Mp} (h : lit m = true) : m.g.es.length ≤ 24 ∧ m.rots.length ≤ 64 ∧ rchk m = 0 := by
  unfold lit at h; simp at h; exact ⟨h.1.1, h.1.2, h.2⟩

end Go.Proofs.YtaiakdhcajibnaaGreat.Aw
