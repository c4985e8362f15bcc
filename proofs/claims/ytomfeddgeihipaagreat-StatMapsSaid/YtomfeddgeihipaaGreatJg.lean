/- Maps: Faces. Maps, the document's: Faces. Maps: the genus, the program's and the document's. Plain: faces are rings' sizes or more; in the plane there are few enough edges. No program. Tables of counts: what is counted (plain); Sum, Top of a table that is none. Rows of int: Equal. The law StatTables, given what its chapter's example answers. The law StatTables at any argument that is well formed, given what its chapter's example answers. stat.Degrees; what chapter 37's example answers; StatTables. Maps: whether one may be, as the program says it. Maps: whether one may be, as the document says it; whether it lies in the plane. stat.Sizes, stat.Of; counts by keys. tree: root, split, Forest, Rest. The document's Girth and Degree. Whether any graph may be, of whatever size, as the document says it. stat.Of; what is asked of a map ahead; an operation that alone may come next. -/
import Derived.Test.YtomfeddgeihipaaGreatJf
import Derived.Test.YtomfeddgeihipaaGreatAwZ
import Derived.Test.YtomfeddgeihipaaGreatAwRg
import Derived.Test.YtomfeddgeihipaaGreatAwAlt
namespace Go.Proofs.YtomfeddgeihipaaGreat.Aw
open Go Go.RowKit Go.Proofs.YtomfeddgeihipaaGreat.Pl Go.Proofs.YtomfeddgeihipaaGreat.Eu
set_option linter.unusedSimpArgs false
set_option linter.unusedVariables false

def FacesP (m : Mp) (st : St) (r : LV) (st' : St) : Prop := (∃ t R, r = .sl t R.length (rowsL3 R) ∧ Lead (fc m m.g.es) (darts m.g.es) (darts m.g.es).length R) ∧ Keeps st st'
structure FcI (m : Mp) (q4 q5 ms ma : Nat) (es4 : List (List Int × LV)) (st : St) (K : Nat) (fr : Frm) (st2 : St) : Prop where
  f5 : fr 5 = .pt q5 0
  f6 : fr 6 = .fn (.func 147) [.pt q5 0, .pt q4 0]
  h5 : st2.H q5 = .box 40 1 [.mp ms]
  h4 : st2.H q4 = .box 122 1 [.mp ma]
  ha : st2.H ma = .map false [.u32] es4
  hs : ∃ es, st2.H ms = .map false [.u32] es ∧ SeenI es (SeenD (fc m m.g.es) (darts m.g.es) K)
  kp : Keeps st st2
  lt : (q5 < st2.next ∧ q4 < st2.next) ∧ ms < st2.next ∧ ma < st2.next
  lo : (st.next ≤ q5 ∧ st.next ≤ q4) ∧ st.next ≤ ms ∧ st.next ≤ ma
  rows : ∃ t R, fr 3 = .sl t R.length (rowsL3 R) ∧ Lead (fc m m.g.es) (darts m.g.es) K R ∧ (t ≠ 0 ∧ st.next ≤ t ∧ t < st2.next) ∧ st2.H t = .own 35 1 R.length
theorem FcI.fr {m : Mp} {q4 q5 ms ma : Nat} {es4 : List (List Int × LV)} {st : St} {K : Nat} {fr fr' : Frm} {st2 st3 : St} (h : FcI m q4 q5 ms ma es4 st K fr st2) (h3 : fr' 3 = fr 3) (h5 : fr' 5 = fr 5) (h6 : fr' 6 = fr 6) (hk : Keeps st2 st3) : FcI m q4 q5 ms ma es4 st K fr' st3 := by
  obtain ⟨f5, f6, a5, a4, aa, ⟨es, as1, as2⟩, kp, ⟨⟨l1, l2⟩, l3, l4⟩, lo, t, R, f3, hL, ⟨t0, t1, t2⟩, hH⟩ := h
  have := hk.next
  exact ⟨h5.trans f5, h6.trans f6, (hk.H _ l1).trans a5, (hk.H _ l2).trans a4, (hk.H _ l4).trans aa, ⟨es, (hk.H _ l3).trans as1, as2⟩, kp.trans hk, ⟨⟨by omega, by omega⟩, by omega, by omega⟩, lo, t, R, h3.trans f3, hL, ⟨t0, t1, by omega⟩, (hk.H _ t2).trans hH⟩

theorem Faces (m : Mp) (h : MapOk m) (st : St) (hv : m.g.vs.length ≤ 1000) (he : m.g.es.length ≤ 1000) :
    ACalls Tryz.prog 114 [.ag (mpL m)] st (FacesP m st) := by
  have hel := eds_length m.g.es
  have hdl := darts_length m.g.es
  have hP := h.fc_per m.g.es (fun x hx => hx)
  refine acalls_of_body tabOk Tryz.func114 rfl rfl Tryz.ntmps114 (rs := [.tmp 2]) rfl (by simp) ?_
  (repeat' (first | refine awp_seq ?_ | (refine w_e [] ?_; intro J hJ; simp only []; simp []; (try (refine hJ _ _ ?_; clear hJ J; simp only [ak, reduceIte])))))
  refine callK_ofE (behind m h _ hv he) (by simp) ?_; rintro r s1 ⟨ma, es4, rfl, hm1, hm2, hMa, hk1, hB⟩
  have hn1 := hk1.next
  simp only [new_next] at hn1 hm1
  have hG1 : s1.H st.next = .box 85 3 (mpL m) := by rw [hk1.H _ (by simp)]; simp
  have a1 : ¬ st.next = s1.next := by omega
  have a2 : ¬ st.next = s1.next + 1 := by omega
  have a3 : ¬ st.next = s1.next + 1 + 1 := by omega
  have a4 : ¬ ma = s1.next := by omega
  have a5 : ¬ ma = s1.next + 1 := by omega
  have a6 : ¬ ma = s1.next + 1 + 1 := by omega
  have a7 : ¬ ma = s1.next + 1 + 1 + 1 := by omega
  (repeat' (first | refine awp_seq ?_ | refine awp_block ?_ | ((first | (refine w_e [] ?_; intro J hJ; simp only []) | (refine e_go ?_)); simp [hG1, a1, a2, a3]; (refine hJ _ _ ?_; clear hJ J; simp only [ak, reduceIte]))))
  refine awp_posG fun hpos => ?_
  refine awp_own 3 35 1 (by simp) ?_
  refine awp_range 19 18 20 42 (m.g.es.length) (fun j fr st2 => fr 17 = .sl 0 m.g.es.length (eds m.g.es) ∧ FcI m s1.next (s1.next + 1 + 1) (s1.next + 1) ma es4 st (2 * j) fr st2) ?_ ?_ ?_
  · refine ⟨by simp, by simp, by simp, by simp, by simp, by simp [a4, a5, a6, a7, hMa], ⟨[], by simp, fun v => ⟨?_, fun _ => rfl⟩⟩, ?_, by simp; omega, by omega, s1.next + 1 + 1 + 1, [], by simp, .zero, ⟨by omega, by omega, by simp⟩, by simp⟩
    · rintro ⟨y, hy, _⟩; simp at hy
    · (repeat (first | exact Keeps.refl _ | exact (Keeps.new _ _).trans hk1 | (refine Keeps.trans ?_ (Keeps.new _ _)) | (refine Keeps.set ?_ (by omega) _)))
  · rintro j0 fr st2' hlt ⟨f17, hI⟩ fi fn JJ hJJ
    have hd := eds_drop m.g.es j0 hlt
    have hk3 : j0 * 3 < m.g.es.length * 3 := by omega
    have hxin : m.g.es.getD j0 ed0 ∈ m.g.es := by rw [getE_lt _ _ hlt]; exact List.getElem_mem _
    have hpos := h.g.pos _ hxin
    have hg := darts_get m.g.es j0 hlt
    generalize hx : m.g.es.getD j0 ed0 = x at *
    obtain ⟨id, a, b⟩ := x
    simp only at hpos hd hg
    (repeat' (first | refine awp_seq ?_ | refine awp_block ?_ | (refine w_e [] ?_; intro J hJ; simp only []; simp [fi, fn, f17, hd, hel, hk3]; (repeat refine ca ?_); (refine hJ _ _ ?_; clear hJ J; simp only [ak, reduceIte]))))
    refine awp_rangeC 23 24 41 2 (fun j fr st2 => fr 17 = .sl 0 m.g.es.length (eds m.g.es) ∧ fr 19 = i j0 ∧ fr 18 = i m.g.es.length ∧ fr 8 = .pt st2'.next 0 ∧ st2.H st2'.next = .box 43 3 (edL ⟨id, a, b⟩) ∧ st2'.next < st2.next ∧ FcI m s1.next (s1.next + 1 + 1) (s1.next + 1) ma es4 st (2 * j0 + j) fr st2) ?_ ?_ ?_
    · exact ⟨by simp [f17], by simp [fi], by simp [fn], by simp, by simp, by simp, hI.fr (by simp) (by simp) (by simp) (Keeps.new _ _)⟩
    · clear f17 fi fn hI fr
      rintro e fr st2 hle ⟨f17, f19, f18, f8, hX, hXl, hI⟩ fi J2 hJ2
      have hK : 2 * j0 + e < (darts m.g.es).length := by omega
      have hKd : (darts m.g.es).getD (2 * j0 + e) 0 = 2 * id + e := by
        rcases Nat.lt_or_ge e 1 with h1 | h1
        · obtain rfl : e = 0 := by omega
          rw [Nat.add_zero, hg.1]; omega
        · obtain rfl : e = 1 := by omega
          rw [hg.2]; rfl
      have hdin : 2 * id + (e : Int) ∈ darts m.g.es := by rw [← hKd, getD_lt _ _ hK]; exact List.getElem_mem _
      obtain ⟨f5, f6, h5, h4, ha, ⟨es, hM, hSI⟩, hkp, hlt5, hlo5, t, R, f3, hL, ⟨t0, t1, t2⟩, hH⟩ := hI
      (repeat' (first | refine awp_seq ?_ | (refine w_e [] ?_; intro J hJ; simp only []; simp [f8, hX, fi]; (try (refine hJ _ _ ?_; clear hJ J; simp only [ak, reduceIte])))))
      refine callK_ofE (dOf id e _ (by omega) (by omega) (by omega)) (by simp) ?_; rintro r s3 ⟨rfl, rfl⟩
      by_cases hs : SeenD (fc m m.g.es) (darts m.g.es) (2 * j0 + e) (2 * id + e)
      · have hg1 := (hSI _).1 hs
        have hs' := hs
        rw [← hKd] at hs'
        (repeat' (first | refine awp_seq ?_ | (refine awp_skip ?_; simp only [ak, reduceIte]) | (refine awp_cond ?_; simp [f5, h5, hM, hg1]) | ((first | (refine w_e [] ?_; intro J hJ; simp only []) | (refine e_go ?_)); simp [f5, h5, hM, hg1]; (refine hJ _ _ ?_; clear hJ J; simp only [ak, reduceIte]))))
        refine hJ2 _ _ (by simp [fi]) ⟨by simp [f17], by simp [f19], by simp [f18], by simp [f8], hX, hXl, by simp [f5], by simp [f6], h5, h4, ha, ⟨es, hM, hSI.congr fun v => seenD_same hK hs'⟩, hkp, hlt5, hlo5, t, R, by simp [f3], .seen hL hK hs', ⟨t0, t1, t2⟩, hH⟩
      · have hg1 := (hSI _).2 hs
        have hs' := hs
        rw [← hKd] at hs'
        (repeat' (first | refine awp_seq ?_ | (refine awp_cond ?_; simp [f5, h5, hM, hg1, f6, f3]) | ((first | (refine w_e [] ?_; intro J hJ; simp only []) | (refine e_go ?_)); simp [f5, h5, hM, hg1, f6, f3]; (try (refine hJ _ _ ?_; clear hJ J; simp only [ak, reduceIte])))))
        refine callK_ofE (Walk m h (2 * id + e) _ _ _ _ es es4 _ _ he hdin h5 h4 hM ha hlt5 (by omega) hSI hB fun x hx hx2 => ?_) (by simp) ?_
        · obtain ⟨y, hy, hr⟩ := hx2
          exact hs ⟨y, hy, hr.trans (Orb.symm hP hx)⟩
        rintro r s4 ⟨⟨t', L, rfl, hc⟩, hoff, es', hM', hSI'⟩
        have hn4 := hoff.1
        have hLl := (h.cyc_le hdin hc).2
        obtain ⟨Lr, hLr⟩ := IsCyc.head hc
        rw [← hKd] at hc
        have hmn := (cyc_lead hP (darts_rise h.g.ids) (h.fc_dart _) hK hc).1 hs'
        have hnL : nrm L = L := nrm_of_head hLr (hmn.trans hKd)
        have hSn : SeenI es' (SeenD (fc m m.g.es) (darts m.g.es) (2 * j0 + e + 1)) := hSI'.congr fun v => by rw [seenD_succ hK, hKd]
        have hRl := hL.len
        have hL2 := Lead.lead hL hK hs' hc
        obtain ⟨⟨l5, l4⟩, ls, la⟩ := hlt5
        obtain ⟨⟨o5, o4⟩, os, oa⟩ := hlo5
        have n1 : ¬ t = s1.next + 1 := by rintro rfl; rw [hM] at hH; cases hH
        (repeat' (refine e_go ?_; simp [f6, f3]))
        refine callK_ofE (Normal L t' _ (by unfold small; omega)) (by simp) ?_; rintro r s5 ⟨rfl, hk5⟩
        have hn5 := hk5.next
        have g5 := (hk5.H _ (by omega)).trans ((hoff.2 _ (by omega) l5).trans h5)
        have g4 := (hk5.H _ (by omega)).trans ((hoff.2 _ (by omega) l4).trans h4)
        have ga := (hk5.H _ (by omega)).trans ((hoff.2 _ (by omega) la).trans ha)
        have gs := (hk5.H _ (by omega)).trans hM'
        have gt := (hk5.H _ (by omega)).trans ((hoff.2 _ n1 t2).trans hH)
        have n2 : ¬ st2'.next = s1.next + 1 := by intro e; rw [e, hM] at hX; cases hX
        have gX := (hk5.H _ (by omega)).trans ((hoff.2 _ n2 hXl).trans hX)
        have m1 : ¬ t = s5.next := by omega
        have m2 : ¬ t = s1.next := by rintro rfl; rw [h4] at hH; cases hH
        have m3 : ¬ t = s1.next + 1 + 1 := by rintro rfl; rw [h5] at hH; cases hH
        have m4 : ¬ t = ma := by rintro rfl; rw [ha] at hH; cases hH
        have m5 : ¬ st2'.next = t := by rintro rfl; rw [hX] at hH; cases hH
        rw [hnL]
        (repeat' (refine e_go ?_; simp [f3, gt, t0, m1]; (repeat refine ca ?_); (refine hJ _ _ ?_; clear hJ J; simp only [ak, reduceIte])))
        refine hJ2 _ _ (by simp [fi]) ⟨by simp [f17], by simp [f19], by simp [f18], by simp [f8], ?_, by simp; omega, by simp [f5], by simp [f6], ?_, ?_, ?_, ⟨es', ?_, hSn⟩, ?_, by simp; omega, by omega, s5.next + 1, R ++ [L], by simp, hL2, ⟨by omega, by omega, by simp⟩, by simp⟩
        · rw [new_H, if_neg (by simp only [set_next, new_next]; omega), set_H, if_neg (by omega), new_H, if_neg (by omega)]; exact gX
        · rw [new_H, if_neg (by simp only [set_next, new_next]; omega), set_H, if_neg (by omega), new_H, if_neg (by omega)]; exact g5
        · rw [new_H, if_neg (by simp only [set_next, new_next]; omega), set_H, if_neg (by omega), new_H, if_neg (by omega)]; exact g4
        · rw [new_H, if_neg (by simp only [set_next, new_next]; omega), set_H, if_neg (by omega), new_H, if_neg (by omega)]; exact ga
        · rw [new_H, if_neg (by simp only [set_next, new_next]; omega), set_H, if_neg (by omega), new_H, if_neg (by omega)]; exact gs
        · have hK3 : Keeps st s5 := ⟨by have := hkp.next; omega, fun l hl => (hk5.H l (by have := hkp.next; omega)).trans ((hoff.2 l (by omega) (by have := hkp.next; omega)).trans (hkp.H l hl))⟩
          exact ((hK3.trans (Keeps.new _ _)).set t1 _).trans (Keeps.new _ _)
    · clear f17 fi fn hI fr
      rintro fr st2 ⟨f17, f19, f18, f8, hX, hXl, hI⟩
      skip
      exact hJJ _ _ (by simp [f19]) (by simp [f18]) ⟨by simp [f17], hI.fr (by simp) (by simp) (by simp) (Keeps.refl _)⟩
  · rintro fr st2 ⟨f17, hI⟩
    obtain ⟨t, R, f3, hL, _⟩ := hI.rows
    (repeat' (first | refine awp_seq ?_ | (refine awp_ret ?_; simp only [ak, reduceIte]; simp [f3]) | (refine w_e [] ?_; intro J hJ; simp only []; simp [f3]; (refine hJ _ _ ?_; clear hJ J; simp only [ak, reduceIte]))))
    exact ⟨⟨t, R, rfl, by rw [hdl]; exact hL⟩, hI.kp⟩

end Go.Proofs.YtomfeddgeihipaaGreat.Aw

namespace Go.Proofs.YtomfeddgeihipaaGreat.Aw
open Go Go.RowKit Go.Proofs.YtomfeddgeihipaaGreat.Pl Go.Proofs.YtomfeddgeihipaaGreat.Eu
set_option linter.unusedSimpArgs false
set_option linter.unusedVariables false

structure RfI (m : Mp) (st : St) (K : Nat) (fr : Frm) (st2 : St) : Prop where
  f1 : fr 1 = .pt st.next 0
  hG : st2.H st.next = .box 85 3 (mpL m)
  kp : Keeps st st2
  lt : st.next < st2.next
  rows : ∃ t R, fr 3 = .sl t R.length (rowsL3 R) ∧ Lead (fc m m.g.es) (darts m.g.es) K R ∧ (t ≠ 0 ∧ st.next < t ∧ t < st2.next) ∧ st2.H t = .own 35 1 R.length
theorem RfI.fr {m : Mp} {st : St} {K : Nat} {fr fr' : Frm} {st2 st3 : St} (h : RfI m st K fr st2) (h3 : fr' 3 = fr 3) (h1 : fr' 1 = fr 1) (hk : Keeps st2 st3) : RfI m st K fr' st3 := by
  obtain ⟨f1, hG, kp, lt, t, R, f3, hL, ⟨t0, t1, t2⟩, hH⟩ := h
  have := hk.next
  exact ⟨h1.trans f1, (hk.H _ lt).trans hG, kp.trans hk, by omega, t, R, h3.trans f3, hL, ⟨t0, t1, by omega⟩, (hk.H _ t2).trans hH⟩

theorem ref_Faces (m : Mp) (h : MapOk m) (st : St) (hv : m.g.vs.length ≤ 1000) (he : m.g.es.length ≤ 1000) :
    ACalls Tryz.prog 69 [.ag (mpL m)] st (FacesP m st) := by
  have hel := eds_length m.g.es
  have hdl := darts_length m.g.es
  have hP := h.fc_per m.g.es (fun x hx => hx)
  refine acalls_of_body tabOk Tryz.func69 rfl rfl Tryz.ntmps69 (rs := [.tmp 2]) rfl (by simp) ?_
  (repeat' (first | refine awp_seq ?_ | refine awp_block ?_ | (refine w_e [] ?_; intro J hJ; simp only []; simp []; (refine hJ _ _ ?_; clear hJ J; simp only [ak, reduceIte]))))
  refine awp_posG fun hpos => ?_
  refine awp_own 3 35 1 (by simp) ?_
  refine awp_range 12 11 13 39 (m.g.es.length) (fun j fr st2 => fr 10 = .sl 0 m.g.es.length (eds m.g.es) ∧ RfI m st (2 * j) fr st2) ?_ ?_ ?_
  · exact ⟨by simp, by simp, by simp, (Keeps.new _ _).trans (Keeps.new _ _), by simp; omega, st.next + 1, [], by simp, .zero, ⟨by omega, by omega, by simp⟩, by simp⟩
  · rintro j fr s2 hlt ⟨f10, hI⟩ fi fn JJ hJJ
    have hd := eds_drop m.g.es j hlt
    have hk3 : j * 3 < m.g.es.length * 3 := by omega
    have hxin : m.g.es.getD j ed0 ∈ m.g.es := by rw [getE_lt _ _ hlt]; exact List.getElem_mem _
    have hpos := h.g.pos _ hxin
    have hg := darts_get m.g.es j hlt
    generalize hx : m.g.es.getD j ed0 = x at *
    obtain ⟨id, a, b⟩ := x
    simp only at hpos hd hg
    have w1 : IntKind.u32.wrap (2 * id) = 2 * id := wrap_u32' _ (by omega) (by omega)
    have w2 : IntKind.u32.wrap (2 * id + 2) = 2 * id + 2 := wrap_u32' _ (by omega) (by omega)
    (repeat' (first | refine awp_seq ?_ | refine awp_block ?_ | (refine w_e [] ?_; intro J hJ; simp only []; simp [fi, fn, f10, hd, hel, hk3, w1, w2]; (repeat refine ca ?_); (refine hJ _ _ ?_; clear hJ J; simp only [ak, reduceIte]))))
    refine awp_loop (fun n fr st2 => ∃ e : Nat, e ≤ 2 ∧ n = 2 - e ∧ fr 6 = u (2 * id + e) ∧ fr 5 = .pt s2.next 0 ∧ fr 10 = .sl 0 m.g.es.length (eds m.g.es) ∧ fr 12 = i j ∧ fr 11 = i m.g.es.length ∧ st2.H s2.next = .box 43 3 (edL ⟨id, a, b⟩) ∧ s2.next < st2.next ∧ RfI m st (2 * j + e) fr st2) 2 ?_ ?_
    · exact ⟨0, by omega, by omega, by simp, by simp, by simp [f10], by simp [fi], by simp [fn], by simp, by simp, hI.fr (by simp) (by simp) (Keeps.new _ _)⟩
    clear f10 fi fn hI fr
    rintro n fr st2 ⟨e, hle, rfl, f6, f5, f10, f12, f11, hX, hXl, hI⟩ J2 hJ2
    rcases Nat.lt_or_ge e 2 with he2 | he2
    rotate_left
    · clear hJ2
      obtain rfl : e = 2 := by omega
      (repeat' (first | refine awp_seq ?_ | (refine awp_exit ?_; simp only [ak, reduceIte]) | (refine awp_cond ?_; simp [f6, f5, hX, w1, w2]) | (refine w_e [] ?_; intro J hJ; simp only []; simp [f6, f5, hX, w1, w2]; (refine hJ _ _ ?_; clear hJ J; simp only [ak, reduceIte]))))
      exact hJJ _ _ (by simp [f12]) (by simp [f11]) ⟨by simp [f10], hI.fr (by simp) (by simp) (Keeps.refl _)⟩
    clear hJJ
    have hK : 2 * j + e < (darts m.g.es).length := by omega
    have hKd : (darts m.g.es).getD (2 * j + e) 0 = 2 * id + e := by
      rcases Nat.lt_or_ge e 1 with h1 | h1
      · obtain rfl : e = 0 := by omega
        rw [Nat.add_zero, hg.1]; omega
      · obtain rfl : e = 1 := by omega
        rw [hg.2]; rfl
    have hdin : 2 * id + (e : Int) ∈ darts m.g.es := by rw [← hKd, getD_lt _ _ hK]; exact List.getElem_mem _
    have w3 : IntKind.u32.wrap (2 * id + e + 1) = 2 * id + ((e + 1 : Nat) : Int) := by rw [wrap_u32' _ (by omega) (by omega)]; omega
    have hcmp : 2 * id + (e : Int) < 2 * id + 2 := by omega
    obtain ⟨f1, hG, hkp, hlo, t, R, f3, hL, ⟨t0, t1, t2⟩, hH⟩ := hI
    have hRl := hL.len
    (repeat' (first | refine awp_seq ?_ | refine awp_block ?_ | (refine awp_skip ?_; simp only [ak, reduceIte]) | (refine awp_cond ?_; simp [f6, f5, hX, w1, w2, f1, hG, hcmp]) | (refine w_e [] ?_; intro J hJ; simp only []; simp [f6, f5, hX, w1, w2, f1, hG, hcmp]; (try (refine hJ _ _ ?_; clear hJ J; simp only [ak, reduceIte])))))
    refine callK_ofE (ref_Face m h (2 * id + e) _ hv he) (by simp) ?_; rintro r s3 ⟨⟨c, rfl, hc⟩, hk3⟩
    rcases hc with ⟨_, L, hc, rfl⟩ | ⟨hno, _⟩
    rotate_left
    · exact absurd hdin hno
    have hcl := (h.cyc_le hdin hc).2
    obtain ⟨Lr, hLr⟩ := IsCyc.head hc
    obtain ⟨nr, hnr⟩ := nrm_head L hc.ne
    have hnl : (nrm L).length = L.length := nrm_length L
    have hc' := hc
    rw [← hKd] at hc'
    have hld := cyc_lead hP (darts_rise h.g.ids) (h.fc_dart _) hK hc'
    rw [hKd] at hld
    have hL0 : 0 < (nrm L).length := by rw [hnr]; simp
    have hn3 := hk3.next
    have gX := (hk3.H _ hXl).trans hX
    have gH := (hk3.H _ t2).trans hH
    have m1 : ¬ t = s3.next := by omega
    have m5 : ¬ s2.next = t := by rintro rfl; rw [hX] at hH; cases hH
    by_cases hs : SeenD (fc m m.g.es) (darts m.g.es) (2 * j + e) (2 * id + e)
    · have hmn : ¬ mn L = 2 * id + e := fun e1 => (hld.2 e1) hs
      have hL2 := Lead.seen hL hK (by rw [hKd]; exact hs)
      (repeat' (first | refine awp_seq ?_ | (refine awp_skip ?_; simp only [ak, reduceIte]) | (refine awp_cond ?_; simp [f6, hnr, hmn, hL0, w3]) | ((first | (refine w_e [] ?_; intro J hJ; simp only []) | (refine e_go ?_)); simp [f6, hnr, hmn, hL0, w3]; (refine hJ _ _ ?_; clear hJ J; simp only [ak, reduceIte]))))
      exact hJ2 (2 - (e + 1)) _ _ (by omega) ⟨e + 1, by omega, rfl, by simp, by simp [f5], by simp [f10], by simp [f12], by simp [f11], gX, by omega, by simp [f1], (hk3.H _ hlo).trans hG, hkp.trans hk3, by omega, t, R, by simp [f3], hL2, ⟨t0, t1, by omega⟩, gH⟩
    · have hmn := hld.1 hs
      have hnL : nrm L = L := nrm_of_head hLr hmn
      have hL2 := Lead.lead hL hK (by rw [hKd]; exact hs) hc'
      rw [hnL]
      subst hLr
      (repeat' (first | refine awp_seq ?_ | (refine awp_cond ?_; simp [f6, w3, f3, gH, t0, m1]) | ((first | (refine w_e [] ?_; intro J hJ; simp only []) | (refine e_go ?_)); simp [f6, w3, f3, gH, t0, m1]; (repeat refine ca ?_); (refine hJ _ _ ?_; clear hJ J; simp only [ak, reduceIte]))))
      exact hJ2 (2 - (e + 1)) _ _ (by omega) ⟨e + 1, by omega, rfl, by simp, by simp [f5], by simp [f10], by simp [f12], by simp [f11], by rw [new_H, if_neg (by simp only [set_next, new_next]; omega), set_H, if_neg m5, new_H, if_neg (by omega)]; exact gX, by simp; omega, by simp [f1], by rw [new_H, if_neg (by simp only [set_next, new_next]; omega), set_H, if_neg (by omega), new_H, if_neg (by omega)]; exact (hk3.H _ hlo).trans hG, (((hkp.trans hk3).trans (Keeps.new _ _)).set (by omega) _).trans (Keeps.new _ _), by simp; omega, s3.next + 1, R ++ [(2 * id + e) :: Lr], by simp, hL2, ⟨by omega, by omega, by simp⟩, by simp⟩
  · rintro fr st2 ⟨f10, hI⟩
    obtain ⟨t, R, f3, hL, _⟩ := hI.rows
    (repeat' (first | refine awp_seq ?_ | (refine awp_ret ?_; simp only [ak, reduceIte]; simp [f3]) | (refine w_e [] ?_; intro J hJ; simp only []; simp [f3]; (refine hJ _ _ ?_; clear hJ J; simp only [ak, reduceIte]))))
    exact ⟨⟨t, R, rfl, by rw [hdl]; exact hL⟩, hI.kp⟩

end Go.Proofs.YtomfeddgeihipaaGreat.Aw

namespace Go.Proofs.YtomfeddgeihipaaGreat.Aw
open Go Go.RowKit Go.Proofs.YtomfeddgeihipaaGreat.Pl Go.Proofs.YtomfeddgeihipaaGreat.Eu
set_option linter.unusedSimpArgs false
set_option linter.unusedVariables false

/-- A map's genus. -/
noncomputable def gn (m : Mp) : Nat := (2 * ncl (Reach m.g.es) m.g.vs + m.g.es.length - (alone m.g + m.g.vs.length + ncl (Orb (fc m m.g.es)) (darts m.g.es))) / 2
theorem MapOk.gn {m : Mp} (h : MapOk m) : 2 * ncl (Reach m.g.es) m.g.vs + m.g.es.length = 2 * gn m + alone m.g + m.g.vs.length + ncl (Orb (fc m m.g.es)) (darts m.g.es) := by
  obtain ⟨k, hk⟩ := h.euler
  have : Aw.gn m = k := by unfold Aw.gn; omega
  omega

set_option maxHeartbeats 1000000 in
theorem Genus (m : Mp) (h : MapOk m) (st : St) (hv : m.g.vs.length ≤ 1000) (he : m.g.es.length ≤ 1000) :
    ACalls Tryz.prog 115 [.ag (mpL m)] st fun r st' => r = i (gn m) ∧ Keeps st st' := by
  have hP := h.fc_per m.g.es (fun x hx => hx)
  have hgn := h.gn
  have hal : alone m.g ≤ m.g.vs.length := List.countP_le_length
  have hdl := darts_length m.g.es
  refine acalls_of_body tabOk Tryz.func115 rfl rfl Tryz.ntmps115 (rs := [.tmp 2]) rfl (by simp) ?_
  (repeat' (first | refine awp_seq ?_ | (refine w_e [] ?_; intro J hJ; simp only []; simp []; (refine hJ _ _ ?_; clear hJ J; simp only [ak, reduceIte]))))
  (refine w_s [] [st.next] [(0, true), (1, true), (4, true), (5, true), (2, true), (3, true), (6, true), (7, true), (8, true)] ?_; intro J hJ; simp [])
  refine dcallK_ofE (Parts m.g _ h.g.toGood hv he) (by simp) ?_; rintro r s1 ⟨⟨t, R, rfl, hR⟩, hk1⟩
  have hn1 := hk1.next
  simp only [new_next] at hn1
  have hG1 := hk1.H st.next (by simp)
  simp at hG1
  refine ⟨fun _ => by simp [hG1], ?_⟩
  (refine d_go ?_; simp [hG1])
  refine dcallK_ofE (Alone m.g _ hv he) (by simp) ?_; rintro r s2 ⟨rfl, hk2⟩
  have hn2 := hk2.next
  have hG2 := (hk2.H st.next (by omega)).trans hG1
  refine ⟨fun _ => by simp [hG2], ?_⟩
  (refine d_go ?_; simp [hG2]; (refine hJ _ _ ?_; clear hJ J; simp only [ak, reduceIte]))
  have hRn := hR.all
  have hRl := hR.len
  generalize R.length = p at *
  generalize alone m.g = al at *
  refine awp_seq ?_
  (refine w_s [] [st.next] [(0, true), (1, true), (2, true), (3, true), (4, true), (5, true), (6, true), (7, true), (8, true), (9, true), (10, true), (11, true), (12, true), (13, true), (14, true), (15, true), (16, true), (17, true), (18, true), (19, true)] ?_; intro J hJ; simp [hG2])
  refine dcallK_ofE (Faces m h _ hv he) (by simp) ?_; rintro r s3 ⟨⟨t3, F, rfl, hF⟩, hk3⟩
  have hG3 := (hk3.H st.next (by omega)).trans hG2
  refine ⟨fun _ => by simp [hG3, hG2], ?_⟩
  have hFn := hF.all hP
  have hFl := hF.len
  generalize F.length = f at *
  have w1 : IntKind.i64.wrap (2 * (p : Int)) = 2 * p := wrap_i64 _ (by omega) (by omega)
  have w2 : IntKind.i64.wrap (2 * (p : Int) - al) = 2 * p - al := wrap_i64 _ (by omega) (by omega)
  have w3 : IntKind.i64.wrap (2 * (p : Int) - al - m.g.vs.length) = 2 * p - al - m.g.vs.length := wrap_i64 _ (by omega) (by omega)
  have w4 : IntKind.i64.wrap (2 * (p : Int) - al - m.g.vs.length + m.g.es.length) = 2 * p - al - m.g.vs.length + m.g.es.length := wrap_i64 _ (by omega) (by omega)
  have w5 : IntKind.i64.wrap (2 * (p : Int) - al - m.g.vs.length + m.g.es.length - f) = 2 * (gn m : Int) := by rw [wrap_i64 _ (by omega) (by omega)]; omega
  have w6 : IntKind.i64.wrap ((2 * (gn m : Int)).tdiv 2) = (gn m : Int) := by
    rw [Int.mul_comm, Int.mul_tdiv_cancel _ (by omega)]
    exact wrap_i64 _ (by omega) (by omega)
  (refine d_go ?_; simp [hG3, hG2, w1, w2, w3, w4, w5, w6]; (refine hJ _ _ ?_; clear hJ J; simp only [ak, reduceIte]))
  (repeat' (refine awp_ret ?_; simp only [ak, reduceIte]; simp []))
  exact ⟨wrap_i64 _ (by omega) (by omega), (((Keeps.new _ _).trans hk1).trans hk2).trans hk3⟩

theorem ends_len0 (es : List Ed) (v : Int) : (ends es v).length = 0 ↔ nbr es v = [] := by rw [List.length_eq_zero_iff, ends_nil]

set_option maxHeartbeats 1000000 in
theorem Twice (m : Mp) (h : MapOk m) (st : St) (hv : m.g.vs.length ≤ 1000) (he : m.g.es.length ≤ 1000) :
    ACalls Tryz.prog 71 [.ag (mpL m)] st fun r st' => r = i (2 * gn m) ∧ Keeps st st' := by
  have hP := h.fc_per m.g.es (fun x hx => hx)
  have hgn := h.gn
  have hal : alone m.g ≤ m.g.vs.length := List.countP_le_length
  have hdl := darts_length m.g.es
  have hid : idOk m.g.es := fun x hx => by have := h.g.pos x hx; omega
  refine acalls_of_body tabOk Tryz.func71 rfl rfl Tryz.ntmps71 (rs := [.tmp 2]) rfl (by simp) ?_
  (repeat' (first | refine awp_seq ?_ | refine awp_block ?_ | (refine w_e [] ?_; intro J hJ; simp only []; simp []; (refine hJ _ _ ?_; clear hJ J; simp only [ak, reduceIte]))))
  refine awp_range 10 9 11 22 (m.g.vs.length) (fun j fr st2 => fr 1 = .pt st.next 0 ∧ fr 8 = .sl 0 m.g.vs.length (us m.g.vs) ∧ fr 3 = i ((m.g.vs.take j).countP fun v => decide (nbr m.g.es v = []) : Nat) ∧ st2.H st.next = .box 85 3 (mpL m) ∧ Keeps st st2 ∧ st.next < st2.next) ?_ ?_ ?_
  · exact ⟨by simp, by simp, by simp, by simp, Keeps.new _ _, by simp⟩
  · rintro j fr st2 hlt ⟨f1, f8, f3, hG, hkp, hsn⟩ fi fn JJ hJJ
    have hd := us_drop_getD m.g.vs j hlt
    have hct := count_take (fun v => decide (nbr m.g.es v = [])) m.g.vs j hlt
    have hle : (m.g.vs.take j).countP (fun v => decide (nbr m.g.es v = [])) ≤ j := Nat.le_trans List.countP_le_length (by simp; omega)
    generalize m.g.vs.getD j 0 = v at *
    generalize (m.g.vs.take j).countP (fun v => decide (nbr m.g.es v = [])) = c at *
    (repeat' (first | refine awp_seq ?_ | (refine w_e [] ?_; intro J hJ; simp only []; simp [f1, f8, fi, fn, hd, hG, hlt]; (try (refine hJ _ _ ?_; clear hJ J; simp only [ak, reduceIte])))))
    refine callK_ofE (ref_Ends m.g v _ he hid) (by simp) ?_; rintro r s3 ⟨⟨t, rfl⟩, hk3⟩
    have hn3 := hk3.next
    have e0 := ends_len0 m.g.es v
    have hw := nat_add_one c (by omega)
    by_cases h0 : nbr m.g.es v = []
    · have e1 := e0.2 h0
      rw [if_pos (by simpa using h0)] at hct
      (repeat' (first | (refine awp_cond ?_; simp [e1, f3, hw]) | ((first | (refine w_e [] ?_; intro J hJ; simp only []) | (refine e_go ?_)); simp [e1, f3, hw]; (refine hJ _ _ ?_; clear hJ J; simp only [ak, reduceIte]))))
      exact hJJ _ _ (by simp [fi]) (by simp [fn]) ⟨by simp [f1], by simp [f8], by simp [hct], (hk3.H _ hsn).trans hG, hkp.trans hk3, by omega⟩
    · have e1 : ¬ (ends m.g.es v).length = 0 := fun e => h0 (e0.1 e)
      rw [if_neg (by simpa using h0)] at hct
      generalize (ends m.g.es v).length = el at *
      (repeat' (first | (refine awp_skip ?_; simp only [ak, reduceIte]) | (refine awp_cond ?_; simp [e1, f3]) | (refine e_go ?_; simp [e1, f3]; (refine hJ _ _ ?_; clear hJ J; simp only [ak, reduceIte]))))
      exact hJJ _ _ (by simp [fi]) (by simp [fn]) ⟨by simp [f1], by simp [f8], by simp [hct, f3], (hk3.H _ hsn).trans hG, hkp.trans hk3, by omega⟩
  rintro fr st2 ⟨f1, f8, f3, hG, hkp, hsn⟩
  rw [List.take_length] at f3
  have f3' : fr 3 = i (alone m.g) := f3
  clear f3
  (repeat' refine awp_seq ?_)
  (refine w_s [] [st.next] [(0, true), (1, true), (5, true), (7, true), (8, true), (9, true), (10, true), (12, true), (13, true), (14, true), (15, true), (17, true), (2, true), (3, true), (4, true), (6, true), (11, true), (16, true), (18, true), (19, true), (20, true), (21, true)] ?_; intro J hJ; simp [f1, f3', hG])
  refine dcallK_ofE (ref_Parts m.g _ h.g.toGood hv he) (by simp) ?_; rintro r s1 ⟨⟨t, R, rfl, hR⟩, hk1⟩
  have hn1 := hk1.next
  have hG1 := (hk1.H st.next (by omega)).trans hG
  refine ⟨fun _ => by simp [hG1, hG], ?_⟩
  have hRn := hR.all
  have hRl := hR.len
  generalize R.length = p at *
  generalize alone m.g = al at *
  have w1 : IntKind.i64.wrap (2 * (p : Int)) = 2 * p := wrap_i64 _ (by omega) (by omega)
  have w2 : IntKind.i64.wrap (2 * (p : Int) - al) = 2 * p - al := wrap_i64 _ (by omega) (by omega)
  have w3 : IntKind.i64.wrap (2 * (p : Int) - al - m.g.vs.length) = 2 * p - al - m.g.vs.length := wrap_i64 _ (by omega) (by omega)
  have w4 : IntKind.i64.wrap (2 * (p : Int) - al - m.g.vs.length + m.g.es.length) = 2 * p - al - m.g.vs.length + m.g.es.length := wrap_i64 _ (by omega) (by omega)
  (refine d_go ?_; simp [hG1, hG, f1, f3', w1, w2, w3, w4])
  refine dcallK_ofE (ref_Faces m h _ hv he) (by simp) ?_; rintro r s3 ⟨⟨t3, F, rfl, hF⟩, hk3⟩
  have hG3 := (hk3.H st.next (by omega)).trans hG1
  refine ⟨fun _ => by simp [hG3, hG1, hG], ?_⟩
  have hFn := hF.all hP
  have hFl := hF.len
  generalize F.length = f at *
  have w5 : IntKind.i64.wrap (2 * (p : Int) - al - m.g.vs.length + m.g.es.length - f) = 2 * (gn m : Int) := by rw [wrap_i64 _ (by omega) (by omega)]; omega
  (refine d_go ?_; simp [hG3, hG1, hG, w1, w2, w3, w4, w5, f1, f3']; (refine hJ _ _ ?_; clear hJ J; simp only [ak, reduceIte]))
  (repeat' (refine awp_ret ?_; simp only [ak, reduceIte]; simp []))
  exact (hkp.trans hk1).trans hk3

end Go.Proofs.YtomfeddgeihipaaGreat.Aw

namespace Go.Proofs.YtomfeddgeihipaaGreat.Aw
open Go Go.RowKit Go.Proofs.YtomfeddgeihipaaGreat.Pl
set_option linter.unusedSimpArgs false
set_option linter.unusedVariables false
open Eu

theorem Wk.pre {near : Int → List Int} {v w u : Int} {n : Nat} (h : Wk near w n u) (hw : w ∈ near v) : Wk near v (n + 1) u := by
  induction h with
  | nil => exact .snoc .nil hw
  | snoc _ hx ih => exact .snoc ih hx
theorem Wk.symm {near : Int → List Int} (hs : ∀ v w, w ∈ near v → v ∈ near w) {v w : Int} {n : Nat} (h : Wk near v n w) : Wk near w n v := by
  induction h with
  | nil => exact .nil
  | snoc _ hx ih => exact ih.pre (hs _ _ hx)
theorem best1_le (b k : Int) (hb : 0 ≤ b) (hk : 0 ≤ k) : 0 ≤ best1 b k ∧ (0 < b → 0 < best1 b k ∧ best1 b k ≤ b) ∧ (0 < k → 0 < best1 b k ∧ best1 b k ≤ k) ∧ (best1 b k = b ∨ best1 b k = k) := by
  unfold best1
  split <;> omega
theorem best_fold {α : Type} (k : α → Int) (hk : ∀ x, 0 ≤ k x) : ∀ (l : List α) (b : Int), 0 ≤ b → (0 < b → 0 < l.foldl (fun b x => best1 b (k x)) b ∧ l.foldl (fun b x => best1 b (k x)) b ≤ b) ∧ (∀ x ∈ l, 0 < k x → 0 < l.foldl (fun b x => best1 b (k x)) b ∧ l.foldl (fun b x => best1 b (k x)) b ≤ k x) ∧ (l.foldl (fun b x => best1 b (k x)) b = b ∨ ∃ x ∈ l, l.foldl (fun b x => best1 b (k x)) b = k x)
  | [], b, hb => ⟨fun h => ⟨h, Int.le_refl _⟩, fun x hx => by simp at hx, .inl rfl⟩
  | y :: l, b, hb => by
    obtain ⟨a1, a2, a3, a4⟩ := best1_le b (k y) hb (hk y)
    obtain ⟨b1, b2, b3⟩ := best_fold k hk l (best1 b (k y)) a1
    rw [List.foldl_cons]
    refine ⟨fun h => ?_, fun x hx h => ?_, ?_⟩
    · have := a2 h; have := b1 this.1; omega
    · rcases List.mem_cons.1 hx with rfl | hx
      · have := a3 h; have := b1 this.1; omega
      · exact b2 x hx h
    · rcases b3 with b3 | ⟨x, hx, b3⟩
      · rcases a4 with a4 | a4
        · exact .inl (b3.trans a4)
        · exact .inr ⟨y, by simp, b3.trans a4⟩
      · exact .inr ⟨x, List.mem_cons_of_mem _ hx, b3⟩
theorem lays_nn (x : Ed) (es : List Ed) (n : Nat) (w : Int) : 0 ≤ lays x es n w := by
  rcases lays_dst x es n w with ⟨d, _, _, h⟩ | ⟨h, _⟩ <;> omega
section
variable {m : Mp} (h : MapOk m)
include h
abbrev fcm (m : Mp) : Int → Int := fc m m.g.es
theorem MapOk.perF : Per (fcm m) := h.fc_per _ fun _ hx => hx
end
open Classical in
noncomputable def tl (m : Mp) (d : Int) : Int := if h : ∃ v, d ∈ ends m.g.es v then Classical.choose h else 0
def both (c : List Int) : Bool := decide (∀ d ∈ c, tw d ∈ c)
end Go.Proofs.YtomfeddgeihipaaGreat.Aw

namespace Go.Proofs.YtomfeddgeihipaaGreat.Aw
open Go Go.RowKit Go.Proofs.YtomfeddgeihipaaGreat.Pl
set_option linter.unusedSimpArgs false
set_option linter.unusedVariables false

theorem cntM_add (es : List (List Int × LV)) (k x : Int) : cntM (add1 es k) x = if x = k then cntM es k + 1 else cntM es x := by
  unfold add1
  have h := mget_mset es [k] [x] (i (cntM es k + 1))
  have e : cntM (mset es [k] (i (cntM es k + 1))) x = cntOf ([x], (mget (mset es [k] (i (cntM es k + 1))) [x]).getD (i 0)) := rfl
  rw [e, h]
  by_cases hx : x = k
  · subst hx; simp [cntOf]
  · have : ¬ ([x] : List Int) = [k] := by simpa using hx
    rw [if_neg this, if_neg hx]; rfl
end Go.Proofs.YtomfeddgeihipaaGreat.Aw

namespace Go.Proofs.YtomfeddgeihipaaGreat.Aw.I
open Go Go.RowKit Go.Proofs.YtomfeddgeihipaaGreat.Pl
set_option linter.unusedSimpArgs false
set_option linter.unusedVariables false

end Go.Proofs.YtomfeddgeihipaaGreat.Aw.I

namespace Go.Proofs.YtomfeddgeihipaaGreat.Aw
open Go Go.RowKit Go.Proofs.YtomfeddgeihipaaGreat.Pl
set_option linter.unusedSimpArgs false
set_option linter.unusedVariables false

abbrev u16 (n : Int) : LV := .atom (.int .i16 n)
/-- What is counted so far. -/
structure Cnt (l : List Int) (E : List (List Int × LV)) (S top : Int) : Prop where
  tab : TabB (2 * l.length) E
  len : E.length ≤ 1 + 2 * l.length
  sum : sumL E = S ∧ -(80000 * (l.length : Int)) ≤ S ∧ S ≤ 80000 * (l.length : Int)
  mem : ∀ x, cntM E x ≠ 0 ↔ x ∈ l
  top0 : l = [] → top = 0
  top1 : l ≠ [] → top ∈ l ∧ ∀ x ∈ l, x ≤ top
theorem mset_len1 (es : List (List Int × LV)) (a : List Int) (v : LV) : (mset es a v).length ≤ es.length + 1 := by
  induction es with
  | nil => simp [mset]
  | cons q es ih =>
    unfold mset
    split
    · simp
    · simp only [List.length_cons]; omega
theorem add1_len (es : List (List Int × LV)) (k : Int) : (add1 es k).length ≤ es.length + 1 := mset_len1 _ _ _
theorem Cnt.snoc {l : List Int} {E : List (List Int × LV)} {S top : Int} (h : Cnt l E S top) {k : Int} (hk : -40000 ≤ k ∧ k ≤ 40000) :
    Cnt (l ++ [k]) (addAll E [k, k]) (S + 2 * k) (if l = [] ∨ top < k then k else top) := by
  obtain ⟨h1, h2, ⟨h3, h3a, h3b⟩, h4, h5, h6⟩ := h
  have e : addAll E [k, k] = add1 (add1 E k) k := rfl
  have t1 := h1.add (by omega) hk
  have t2 := t1.add (by omega) hk
  rw [e]
  refine ⟨?_, ?_, ⟨?_, ?_, ?_⟩, fun x => ?_, fun h => by simp at h, fun _ => ?_⟩
  · rw [show (2 * ((l ++ [k]).length : Int)) = 2 * (l.length : Int) + 1 + 1 by simp; omega]; exact t2
  · have a1 := add1_len E k
    have a2 := add1_len (add1 E k) k
    simp only [List.length_append, List.length_singleton]; omega
  · rw [sumL_add _ _ (fun p hp => by obtain ⟨a, b, c, _⟩ := t1.kn p hp; exact ⟨a, b, c⟩), sumL_add _ _ (fun p hp => by obtain ⟨a, b, c, _⟩ := h1.kn p hp; exact ⟨a, b, c⟩), h3]; omega
  · simp only [List.length_append, List.length_singleton]; omega
  · simp only [List.length_append, List.length_singleton]; omega
  · rw [cntM_add, cntM_add, cntM_add, List.mem_append, List.mem_singleton]
    have hc := (cntM_get h1 (by omega) k).2.1
    by_cases hx : x = k
    · subst hx; simp; omega
    · simp only [hx, if_false, or_false]; exact h4 x
  · by_cases hl : l = []
    · subst hl; simp
    · obtain ⟨g1, g2⟩ := h6 hl
      by_cases ht : top < k
      · rw [if_pos (.inr ht)]
        refine ⟨by simp, fun x hx => ?_⟩
        rcases List.mem_append.1 hx with h | h
        · have := g2 x h; omega
        · rw [List.mem_singleton] at h; omega
      · rw [if_neg (by rintro (h | h); exact hl h; exact ht h)]
        refine ⟨by simp [g1], fun x hx => ?_⟩
        rcases List.mem_append.1 hx with h | h
        · exact g2 x h
        · rw [List.mem_singleton] at h; omega
end Go.Proofs.YtomfeddgeihipaaGreat.Aw

namespace Go.Proofs.YtomfeddgeihipaaGreat.Aw
open Go Go.RowKit Go.Proofs.YtomfeddgeihipaaGreat.Pl
set_option linter.unusedSimpArgs false
set_option linter.unusedVariables false

end Go.Proofs.YtomfeddgeihipaaGreat.Aw

namespace Go.Proofs.YtomfeddgeihipaaGreat.Aw
open Go Go.RowKit Go.Proofs.YtomfeddgeihipaaGreat.Pl
set_option linter.unusedSimpArgs false
set_option linter.unusedVariables false

def degs (g : Gr) : List Int := g.vs.map fun v => ((ends g.es v).length : Int)
theorem ends_le (es : List Ed) (v : Int) : (ends es v).length ≤ 2 * es.length := flat_len (end1 v) (end1_len v) es

theorem Degrees (g : Gr) (st : St) (hv : g.vs.length ≤ 1000) (he : g.es.length ≤ 1000) (hid : idOk g.es) :
    ACalls Tryz.prog 76 [.ag (grL g)] st fun r st' => ∃ m, r = .mp m ∧ st.next ≤ m ∧ m < st'.next ∧ Keeps st st' ∧ st'.H m = .map false [.i64] (addAll [] (degs g)) ∧ TabB g.vs.length (addAll [] (degs g)) := by
  have hdl : (degs g).length = g.vs.length := by simp [degs]
  refine acalls_of_body tabOk Tryz.func76 rfl rfl Tryz.ntmps76 (rs := [.tmp 2]) rfl (by simp) ?_
  (repeat' (first | refine awp_seq ?_ | refine awp_block ?_ | (refine w_e [] ?_; intro J hJ; simp only []; simp []; (refine hJ _ _ ?_; clear hJ J; simp only [ak, reduceIte]))))
  refine awp_range 10 9 11 21 (g.vs.length) (fun j fr st2 => fr 1 = .pt st.next 0 ∧ fr 3 = .mp (st.next + 1) ∧ fr 8 = .sl 0 g.vs.length (us g.vs) ∧ st2.H st.next = .box 38 2 (grL g) ∧ st.next + 1 < st2.next ∧ Keeps st st2 ∧ st2.H (st.next + 1) = .map false [.i64] (addAll [] ((degs g).take j)) ∧ TabB j (addAll [] ((degs g).take j))) ?_ ?_ ?_
  · exact ⟨by simp, by simp, by simp, by simp, by simp, (Keeps.new _ _).trans (Keeps.new _ _), by simp [addAll], ⟨by simp [addAll], by simp [addAll]⟩⟩
  · rintro j fr s hlt ⟨f1, f3, f8, hG, hsn, hkp, hM, hT⟩ fi fn J hJ
    have hd := us_drop_getD g.vs j hlt
    have htk : (degs g).take (j + 1) = (degs g).take j ++ [((ends g.es (g.vs.getD j 0)).length : Int)] := by
      rw [List.take_succ_eq_append_getElem (by omega)]
      congr 2
      simp [degs, List.getD_eq_getElem?_getD, List.getElem?_eq_getElem hlt]
    generalize g.vs.getD j 0 = v at *
    have hel := ends_le g.es v
    (repeat' (first | refine awp_seq ?_ | (refine w_e [] ?_; intro J hJ; simp only []; simp [f1, f3, f8, fi, fn, hd, hlt, hG]; (try (refine hJ _ _ ?_; clear hJ J; simp only [ak, reduceIte])))))
    refine callK_ofE (Ends g v _ he hid) (by simp) ?_; rintro r s4 ⟨⟨t4, rfl⟩, hk4⟩
    have hn4 := hk4.next
    have hG4 := (hk4.H st.next (by omega)).trans hG
    have hM4 := (hk4.H (st.next + 1) (by omega)).trans hM
    have hAdd := sAdd (st.next + 1) (addAll [] ((degs g).take j)) [((ends g.es v).length : Int)] s4.next (j : Int) (s4.new (.own 3 1 1)) (by rw [new_H, if_neg (by omega)]; exact hM4) (by omega) hT (by simp) (by simp; omega)
    simp only [List.length_cons, List.length_nil, List.map_cons, List.map_nil] at hAdd
    (repeat' (refine e_go ?_; simp []))
    refine callK_ofE hAdd (by simp) ?_; rintro r s5 ⟨rfl, hT5⟩
    have hAA : addAll (addAll [] ((degs g).take j)) [((ends g.es v).length : Int)] = addAll [] ((degs g).take (j + 1)) := by rw [htk]; simp [addAll, List.foldl_append]
    rw [hAA] at hT5 ⊢
    (repeat' (refine e_go ?_; simp []; (refine hJ _ _ ?_; clear hJ J; simp only [ak, reduceIte])))
    refine hJ _ _ (by simp [fi]) (by simp [fn]) ⟨by simp [f1], by simp [f3], by simp [f8], ?_, by simp; omega, ?_, by simp, by simpa using hT5⟩
    · (repeat (first | rw [new_H, if_neg (α := LObj) (by (try simp only [set_next, new_next]); omega)] | rw [set_H, if_neg (α := LObj) (by omega)] | rw [new_H, if_pos (α := LObj) (by (try simp only [set_next, new_next]))] | rw [set_H, if_pos (α := LObj) (by omega)])); exact hG4
    · exact ((hkp.trans hk4).trans (Keeps.new _ _)).set (by omega) _
  · rintro fr s ⟨f1, f3, f8, hG, hsn, hkp, hM, hT⟩
    rw [List.take_of_length_le (by omega)] at hM hT
    (repeat' (first | refine awp_seq ?_ | (refine awp_ret ?_; simp only [ak, reduceIte]; simp [f3]) | (refine w_e [] ?_; intro J hJ; simp only []; simp [f3]; (refine hJ _ _ ?_; clear hJ J; simp only [ak, reduceIte]))))
    exact ⟨hsn, hkp, hM, hT⟩

theorem Awake10 (st : St) : ACalls Tryz.prog 77 [] st fun r st' => r = bb true ∧ st' = st := by
  refine acalls_of_body tabOk Tryz.func77 rfl rfl Tryz.ntmps77 (rs := [.tmp 0]) rfl (by simp) ?_
  (repeat' (first | refine awp_seq ?_ | (refine w_e [] ?_; intro J hJ; simp only []; simp []; (try (refine hJ _ _ ?_; clear hJ J; simp only [ak, reduceIte])))))
  refine callK_ofE (awake10 _) (by simp []) ?_; rintro r st' ⟨rfl, rfl⟩
  (repeat' (first | (refine awp_ret ?_; simp only [ak, reduceIte]; simp []) | (refine e_go ?_; simp []; (refine hJ _ _ ?_; clear hJ J; simp only [ak, reduceIte]))))
theorem Awake13 (st : St) : ACalls Tryz.prog 78 [] st fun r st' => r = bb true ∧ st' = st := by
  refine acalls_of_body tabOk Tryz.func78 rfl rfl Tryz.ntmps78 (rs := [.tmp 0]) rfl (by simp) ?_
  (repeat' (first | refine awp_seq ?_ | (refine w_e [] ?_; intro J hJ; simp only []; simp []; (try (refine hJ _ _ ?_; clear hJ J; simp only [ak, reduceIte])))))
  refine callK_ofE (awake13 _) (by simp []) ?_; rintro r st' ⟨rfl, rfl⟩
  (repeat' (first | (refine awp_ret ?_; simp only [ak, reduceIte]; simp []) | (refine e_go ?_; simp []; (refine hJ _ _ ?_; clear hJ J; simp only [ak, reduceIte]))))

def tri : Gr := ⟨[1, 2, 3], [⟨1, 1, 2⟩, ⟨2, 2, 3⟩, ⟨3, 3, 1⟩]⟩
theorem tri_girth : girthL tri 10 0 tri.es = some 3 := by decide +kernel
theorem tri_degs : addAll [] (degs tri) = [([2], i 3)] := by rfl
theorem awake37 (st : St) : ACalls Tryz.prog 15 [] st fun r st' => r = bb true ∧ st' = st := by
  refine (acalls_frame (R := fun v => v = .bool true) ?_).mono ?_
  rotate_left
  · rintro r st' ⟨⟨v, rfl, rfl⟩, rfl⟩; exact ⟨rfl, rfl⟩
  generalize hst : (⟨1, fun _ => .dead⟩ : St) = st
  have hid : idOk tri.es := by intro x hx; simp [tri] at hx; rcases hx with rfl | rfl | rfl <;> decide
  refine acalls_of_body tabOk Tryz.func15 rfl rfl Tryz.ntmps15 (rs := [.tmp 0]) rfl (by simp) ?_
  (repeat' (first | refine awp_seq ?_ | (refine w_e [] ?_; intro J hJ; simp only []; simp []; (try (refine hJ _ _ ?_; clear hJ J; simp only [ak, reduceIte])))))
  have hG := fun s => Girth tri 10 3 s (by decide) (by decide) (by decide) tri_girth
  have hD := fun s => Degrees tri s (by decide) (by decide) hid
  refine callK_of (acalls_args0 (by simp only [z0L, z0]; exact hG _)) ?_; rintro r s1 ⟨rfl, hk1⟩
  have hn1 := hk1.next
  simp only [new_next, set_next] at hn1
  have hB := hk1.H (st.next + 1 + 1) (by simp)
  simp at hB
  (refine e_go ?_; simp [hB])
  refine callK_of (acalls_args0 (by simp only [z0L, z0]; exact hD _)) ?_; rintro r s2 ⟨m, rfl, m1, m2, hk2, hM, _⟩
  rw [tri_degs] at hM
  (refine e_go ?_; simp [hM, mget])
  refine callK_ofE (Awake10 _) (by simp []) ?_; rintro r st' ⟨rfl, rfl⟩
  (refine e_go ?_; simp [])
  refine callK_ofE (Awake13 _) (by simp []) ?_; rintro r st' ⟨rfl, rfl⟩
  (repeat' (first | (refine awp_ret ?_; simp only [ak, reduceIte]; simp []) | (refine e_go ?_; simp []; (refine hJ _ _ ?_; clear hJ J; simp only [ak, reduceIte]))))

end Go.Proofs.YtomfeddgeihipaaGreat.Aw

namespace Go.Proofs.YtomfeddgeihipaaGreat.Aw
open Go Go.RowKit Go.Proofs.YtomfeddgeihipaaGreat.Pl Go.Proofs.YtomfeddgeihipaaGreat.Eu
set_option linter.unusedSimpArgs false
set_option linter.unusedVariables false

theorem perm_of_sub : ∀ {a b : List Int}, a.Nodup → (∀ x ∈ a, x ∈ b) → b.length ≤ a.length → a.Perm b
  | [], b, _, _, hl => by
    have : b = [] := List.eq_nil_of_length_eq_zero (by simpa using hl)
    rw [this]
  | x :: a, b, hn, hs, hl => by
    rw [List.nodup_cons] at hn
    have hxb : x ∈ b := hs x List.mem_cons_self
    have p1 : b.Perm (x :: b.erase x) := List.perm_cons_erase hxb
    refine List.Perm.trans (List.Perm.cons x (perm_of_sub hn.2 (fun y hy => ?_) ?_)) p1.symm
    · have hne : y ≠ x := by rintro rfl; exact hn.1 hy
      exact (List.mem_erase_of_ne hne).2 (hs y (List.mem_cons_of_mem _ hy))
    · have := p1.length_eq
      simp only [List.length_cons] at this hl
      omega
theorem okTurn.head {es : List Ed} (hi : es.Pairwise (fun x y => x.id < y.id)) {v : Int} {t : List Int} (h : okTurn es v t) : t.getD 0 0 = (ends es v).getD 0 0 := by
  cases he : ends es v with
  | nil => have := h.1; rw [he] at this; rw [this.eq_nil]
  | cons a r =>
    have hr := ends_rise hi v
    rw [he, List.pairwise_cons] at hr
    have hp := h.1
    rw [he] at hp
    have hne : t ≠ [] := by rintro rfl; have := hp.length_eq; simp at this
    obtain ⟨z, hz⟩ := nrm_head t hne
    rw [h.2] at hz
    have hm : mn t = a := by
      refine mn_eq (hp.mem_iff.2 List.mem_cons_self) fun x hx => ?_
      rcases List.mem_cons.1 (hp.mem_iff.1 hx) with rfl | h1
      · exact Int.le_refl _
      · have := hr.1 x h1; omega
    rw [hz, hm]; rfl
def rok (m : Mp) (k : Nat) : Prop := okTurn m.g.es (m.g.vs.getD k 0) (m.rots.getD k [])
/-- What Check answers. -/
noncomputable def rchk (m : Mp) : Int := if chk m.g ≠ 0 then chk m.g else if m.rots.length ≠ m.g.vs.length then 22 else @ite _ (∀ k, k < m.g.vs.length → rok m k) (Classical.propDecidable _) 0 22
theorem rchk_g {m : Mp} (h : chk m.g ≠ 0) : rchk m = chk m.g := by unfold rchk; rw [if_pos h]
theorem rchk_len {m : Mp} (h : chk m.g = 0) (h1 : m.rots.length ≠ m.g.vs.length) : rchk m = 22 := by unfold rchk; rw [if_neg (fun e => e h), if_pos h1]
theorem rchk_bad {m : Mp} (h : chk m.g = 0) {k : Nat} (hk : k < m.g.vs.length) (h1 : ¬ rok m k) : rchk m = 22 := by
  unfold rchk
  rw [if_neg (fun e => e h)]
  split
  · rfl
  · rw [if_neg (fun e => h1 (e k hk))]
theorem rchk_ok {m : Mp} (h : chk m.g = 0) (h1 : m.rots.length = m.g.vs.length) (h2 : ∀ k, k < m.g.vs.length → rok m k) : rchk m = 0 := by
  unfold rchk
  rw [if_neg (fun e => e h), if_neg (fun e => e h1), if_pos h2]
theorem rchk_zero {m : Mp} (h : rchk m = 0) : chk m.g = 0 ∧ MapOk m := by
  by_cases h0 : chk m.g = 0
  · refine ⟨h0, ?_⟩
    by_cases h1 : m.rots.length = m.g.vs.length
    · refine ⟨chk_goodE h0, h1, fun k hk => ?_⟩
      refine Classical.byContradiction fun hn => ?_
      rw [rchk_bad h0 hk hn] at h; cases h
    · rw [rchk_len h0 h1] at h; cases h
  · rw [rchk_g h0] at h; exact absurd h h0

end Go.Proofs.YtomfeddgeihipaaGreat.Aw

namespace Go.Proofs.YtomfeddgeihipaaGreat.Aw
open Go Go.RowKit Go.Proofs.YtomfeddgeihipaaGreat.Pl Go.Proofs.YtomfeddgeihipaaGreat.Eu
set_option linter.unusedSimpArgs false
set_option linter.unusedVariables false

set_option maxHeartbeats 1000000 in
theorem ref_rCheck (m : Mp) (st : St) (hv : m.g.vs.length ≤ 1000) (he : m.g.es.length ≤ 1000) (hr : m.rots.length ≤ 1000) :
    ACalls Tryz.prog 67 [.ag (mpL m)] st fun r st' => r = i (rchk m) ∧ Keeps st st' := by
  refine acalls_of_body tabOk Tryz.func67 rfl rfl Tryz.ntmps67 (rs := [.tmp 2]) rfl (by simp) ?_
  (repeat' (first | refine awp_seq ?_ | (refine w_e [] ?_; intro J hJ; simp only []; simp []; (try (refine hJ _ _ ?_; clear hJ J; simp only [ak, reduceIte])))))
  refine callK_ofE (ref_Check m.g _ hv he) (by simp) ?_; rintro r s1 ⟨rfl, hk1⟩
  have hn1 := hk1.next
  simp only [new_next] at hn1
  have hG1 : s1.H st.next = .box 85 3 (mpL m) := by rw [hk1.H _ (by simp)]; simp
  have hK1 : Keeps st s1 := (Keeps.new _ _).trans hk1
  by_cases hc : chk m.g = 0
  rotate_left
  · have hrc := rchk_g hc
    generalize chk m.g = x at *
    (repeat' (first | refine awp_seq ?_ | (refine awp_ret ?_; simp only [ak, reduceIte]; simp [hc, hrc]) | (refine awp_cond ?_; simp [hc, hrc]) | ((first | (refine w_e [] ?_; intro J hJ; simp only []) | (refine e_go ?_)); simp [hc, hrc]; (refine hJ _ _ ?_; clear hJ J; simp only [ak, reduceIte]))))
    exact hK1
  have hgd := chk_goodE hc
  have hid : idOk m.g.es := fun x hx => by have := hgd.pos x hx; omega
  by_cases hl : m.rots.length = m.g.vs.length
  rotate_left
  · have hrc := rchk_len hc hl
    (repeat' (first | refine awp_seq ?_ | (refine awp_skip ?_; simp only [ak, reduceIte]) | (refine awp_ret ?_; simp only [ak, reduceIte]; simp [hc, hrc, hG1, hl]) | (refine awp_cond ?_; simp [hc, hrc, hG1, hl]; (try with_reducible refine ⟨?_, ?_⟩) <;> (try with_reducible intro hc) <;> try (exfalso; omega)) | ((first | (refine w_e [] ?_; intro J hJ; simp only []) | (refine e_go ?_)); simp [hc, hrc, hG1, hl]; (refine hJ _ _ ?_; clear hJ J; simp only [ak, reduceIte]))))
    exact hK1
  (repeat' (first | refine awp_seq ?_ | refine awp_block ?_ | (refine awp_skip ?_; simp only [ak, reduceIte]) | (refine awp_cond ?_; simp [hc, hG1, hl]) | ((first | (refine w_e [] ?_; intro J hJ; simp only []) | (refine e_go ?_)); simp [hc, hG1, hl]; (refine hJ _ _ ?_; clear hJ J; simp only [ak, reduceIte]))))
  refine awp_range 28 27 29 65 (m.g.vs.length) (fun j fr st2 => fr 1 = .pt st.next 0 ∧ fr 26 = .sl 0 m.g.vs.length (us m.g.vs) ∧ st2.H st.next = .box 85 3 (mpL m) ∧ Keeps st st2 ∧ st.next < st2.next ∧ ∀ k, k < j → rok m k) ?_ ?_ ?_
  · exact ⟨by simp, by simp, hG1, hK1, by omega, fun k hk => by omega⟩
  · rintro j0 fr st2 hlt ⟨f1, f26, hG, hkp, hsn, hok⟩ fi fn JJ hJJ
    have hd := us_drop_getD m.g.vs j0 hlt
    have hd2 := rowsL_drop m.rots j0 (by omega)
    have hRl : j0 < (rowsL m.rots).length := by simp; omega
    have htin : m.rots.getD j0 [] ∈ m.rots := by rw [getR_lt _ _ (by omega)]; exact List.getElem_mem _
    have hbad := fun h => rchk_bad hc hlt h
    have hnx : rok m j0 → ∀ k, k < j0 + 1 → rok m k := fun h k hk => by
      rcases Nat.lt_or_ge k j0 with h1 | h1
      · exact hok k h1
      · obtain rfl : k = j0 := by omega
        exact h
    have hok1 : rok m j0 ↔ (m.rots.getD j0 []).Perm (ends m.g.es (m.g.vs.getD j0 0)) ∧ nrm (m.rots.getD j0 []) = m.rots.getD j0 [] := Iff.rfl
    have hel : (ends m.g.es (m.g.vs.getD j0 0)).length ≤ 2 * m.g.es.length := flat_len _ (end1_len _) _
    have hrise := ends_rise hgd.ids (m.g.vs.getD j0 0)
    generalize rok m j0 = OK at *
    generalize m.rots.getD j0 [] = t at *
    generalize m.g.vs.getD j0 0 = v at *
    (repeat' (first | refine awp_seq ?_ | (refine w_e [] ?_; intro J hJ; simp only []; simp [f1, f26, fi, fn, hd, hlt, hG, hd2, hRl, hl]; (try (refine hJ _ _ ?_; clear hJ J; simp only [ak, reduceIte])))))
    refine callK_ofE (ref_Ends m.g v _ he hid) (by simp) ?_; rintro r s3 ⟨⟨te, rfl⟩, hk3⟩
    have hn3 := hk3.next
    have hG3 := (hk3.H st.next (by omega)).trans hG
    have hK3 := hkp.trans hk3
    generalize ends m.g.es v = E at *
    by_cases h1 : t.length = E.length
    rotate_left
    · have hrc := hbad fun h => h1 (hok1.1 h).1.length_eq
      have h1b : ((t.length : Int) != (E.length : Int)) = true := by simp; omega
      (repeat' (first | refine awp_seq ?_ | (refine awp_ret ?_; simp only [ak, reduceIte]; simp [h1b, h1, hrc]) | (refine awp_cond ?_; simp [h1b, h1, hrc]) | ((first | (refine w_e [] ?_; intro J hJ; simp only []) | (refine e_go ?_)); simp [h1b, h1, hrc]; (refine hJ _ _ ?_; clear hJ J; simp only [ak, reduceIte]))))
      exact hK3
    (repeat' (first | refine awp_seq ?_ | ((first | (refine w_e [] ?_; intro J hJ; simp only []) | (refine e_go ?_)); simp [h1]; (try (refine hJ _ _ ?_; clear hJ J; simp only [ak, reduceIte])))))
    refine callK_ofE (ref_Normal t 0 _ (by unfold small; omega)) (by simp [h1]) ?_; rintro r s4 ⟨rfl, hk4⟩
    have hn4 := hk4.next
    have hG4 := (hk4.H st.next (by omega)).trans hG3
    have hK4 := hK3.trans hk4
    have hnl := nrm_length t
    (repeat' (refine e_go ?_; simp []))
    refine callK_ofE (ref_Same t (nrm t) 0 0 _ (by unfold small; omega)) (by simp [h1, hnl]) ?_; rintro r s5 ⟨rfl, rfl⟩
    by_cases h2 : t = nrm t
    rotate_left
    · have hrc := hbad fun h => h2 (hok1.1 h).2.symm
      (repeat' (first | refine awp_seq ?_ | (refine awp_ret ?_; simp only [ak, reduceIte]; simp [h2, hrc]) | (refine awp_cond ?_; simp [h2, hrc]) | ((first | (refine w_e [] ?_; intro J hJ; simp only []) | (refine e_go ?_)); simp [h2, hrc]; (refine hJ _ _ ?_; clear hJ J; simp only [ak, reduceIte]))))
      exact hK4
    have h2' : decide (t = nrm t) = true := by simpa using h2
    rw [h2']
    (repeat' (first | refine awp_seq ?_ | refine awp_block ?_ | (refine awp_skip ?_; simp only [ak, reduceIte]) | (refine awp_cond ?_; simp []) | ((first | (refine w_e [] ?_; intro J hJ; simp only []) | (refine e_go ?_)); simp []; (refine hJ _ _ ?_; clear hJ J; simp only [ak, reduceIte]))))
    refine awp_range 56 55 57 64 (E.length) (fun j fr st2 => fr 1 = .pt st.next 0 ∧ fr 26 = .sl 0 m.g.vs.length (us m.g.vs) ∧ fr 28 = i j0 ∧ fr 27 = i m.g.vs.length ∧ fr 6 = .sl 0 t.length (us t) ∧ fr 54 = .sl te E.length (us E) ∧ st2 = s5 ∧ ∀ k, k < j → E.getD k 0 ∈ t) ?_ ?_ ?_
    · exact ⟨by simp [f1], by simp [f26], by simp [fi], by simp [fn], by simp [h1], by simp, rfl, fun k hk => by omega⟩
    · clear f1 f26 fi fn fr
      rintro k fr st6 hk ⟨f1, f26, f28, f27, f6, f54, rfl, hall⟩ fi fn J2 hJ2
      have hd3 := us_drop_getD E k hk
      have hin : E.getD k 0 ∈ E := by rw [getD_lt _ _ hk]; exact List.getElem_mem _
      generalize hx : E.getD k 0 = x at *
      (repeat' (first | refine awp_seq ?_ | (refine w_e [] ?_; intro J hJ; simp only []; simp [f54, f6, fi, fn, hd3, hk]; (try (refine hJ _ _ ?_; clear hJ J; simp only [ak, reduceIte])))))
      refine callK_ofE (Find t 0 x _ (by unfold small; omega)) (by simp [h1]) ?_; rintro r s7 ⟨rfl, rfl⟩
      by_cases hxt : x ∈ t
      · have hg := gi_mem hxt
        (repeat' (first | (refine awp_skip ?_; simp only [ak, reduceIte]) | (refine awp_cond ?_; simp [hg]; (try with_reducible refine ⟨?_, ?_⟩) <;> (try with_reducible intro hc) <;> try (exfalso; omega)) | (refine e_go ?_; simp [hg]; (refine hJ _ _ ?_; clear hJ J; simp only [ak, reduceIte]))))
        refine hJ2 _ _ (by simp [fi]) (by simp [fn]) ⟨by simp [f1], by simp [f26], by simp [f28], by simp [f27], by simp [f6], by simp [f54], rfl, fun q hq => ?_⟩
        rcases Nat.lt_or_ge q k with h3 | h3
        · exact hall q h3
        · obtain rfl : q = k := by omega
          rw [hx]; exact hxt
      · have hg := gi_not hxt
        have hrc := hbad fun h => hxt ((hok1.1 h).1.mem_iff.2 hin)
        (repeat' (first | refine awp_seq ?_ | (refine awp_ret ?_; simp only [ak, reduceIte]; simp [hg, hrc]) | (refine awp_cond ?_; simp [hg, hrc]) | ((first | (refine w_e [] ?_; intro J hJ; simp only []) | (refine e_go ?_)); simp [hg, hrc]; (refine hJ _ _ ?_; clear hJ J; simp only [ak, reduceIte]))))
        exact hK4
    · clear f1 f26 fi fn fr
      rintro fr st6 ⟨f1, f26, f28, f27, f6, f54, rfl, hall⟩
      skip
      refine hJJ _ _ (by simp [f28]) (by simp [f27]) ⟨by simp [f1], by simp [f26], hG4, hK4, by omega, hnx (hok1.2 ⟨?_, h2.symm⟩)⟩
      refine (perm_of_sub (rise_nodup hrise) (fun x hx => ?_) (by omega)).symm
      obtain ⟨q, hq, rfl⟩ := List.getElem_of_mem hx
      have := hall q hq
      rwa [getD_lt _ _ hq] at this
  · rintro fr st2 ⟨f1, f26, hG, hkp, hsn, hok⟩
    have hrc := rchk_ok hc hl hok
    (repeat' (first | refine awp_seq ?_ | (refine awp_ret ?_; simp only [ak, reduceIte]; simp [hrc]) | (refine w_e [] ?_; intro J hJ; simp only []; simp [hrc]; (refine hJ _ _ ?_; clear hJ J; simp only [ak, reduceIte]))))
    exact hkp

/-- What Right answers. -/
noncomputable def rright (m : Mp) : Int := if rchk m ≠ 0 then rchk m else if gn m ≠ 0 then 23 else 0

end Go.Proofs.YtomfeddgeihipaaGreat.Aw

namespace Go.Proofs.YtomfeddgeihipaaGreat.Aw
open Go Go.RowKit Go.Proofs.YtomfeddgeihipaaGreat.Pl
set_option linter.unusedSimpArgs false
set_option linter.unusedVariables false
open Eu

theorem rows3_drop (R : List (List Int)) (k : Nat) (hk : k < R.length) : (rowsL3 R).drop k = .sl 0 (R.getD k []).length (us (R.getD k [])) :: rowsL3 (R.drop (k + 1)) := by
  rw [List.getD_eq_getElem?_getD, List.getElem?_eq_getElem hk, rowsL3, rowsL3, ← List.map_drop, List.drop_eq_getElem_cons hk]; rfl
def sizs (R : List (List Int)) : List Int := R.map fun c => (c.length : Int)
theorem cnt_all : ∀ (l : List Int) (es : List (List Int × LV)) (x : Int), cntM (addAll es l) x = cntM es x + (l.countP fun k => decide (k = x) : Nat)
  | [], es, x => by simp [addAll]
  | k :: l, es, x => by
    have ih := cnt_all l (add1 es k) x
    have e : addAll es (k :: l) = addAll (add1 es k) l := rfl
    rw [e, ih, cntM_add, List.countP_cons]
    by_cases h : x = k
    · subst h; simp; omega
    · have h2 : ¬ k = x := fun e => h e.symm
      rw [if_neg h]; simp [h2]
def SizP (m : Mp) (st : St) (r : LV) (st' : St) : Prop := ∃ M R, r = .mp M ∧ st.next ≤ M ∧ M < st'.next ∧ Keeps st st' ∧ st'.H M = .map false [.i64] (addAll [] (sizs R)) ∧ TabB R.length (addAll [] (sizs R)) ∧ Lead (fc m m.g.es) (darts m.g.es) (darts m.g.es).length R
set_option maxHeartbeats 1000000 in
theorem Sizes (m : Mp) (h : MapOk m) (st : St) (hv : m.g.vs.length ≤ 1000) (he : m.g.es.length ≤ 400) :
    ACalls Tryz.prog 74 [.ag (mpL m)] st (SizP m st) := by
  have hdl := darts_length m.g.es
  refine acalls_of_body tabOk Tryz.func74 rfl rfl Tryz.ntmps74 (rs := [.tmp 2]) rfl (by simp) ?_
  (repeat' (first | refine awp_seq ?_ | (refine w_e [] ?_; intro J hJ; simp only []; simp []; (try (refine hJ _ _ ?_; clear hJ J; simp only [ak, reduceIte])))))
  refine callK_ofE (Faces m h _ hv (by omega)) (by simp) ?_; rintro r s1 ⟨⟨t, R, rfl, hR⟩, hk1⟩
  have hn1 := hk1.next
  simp only [new_next] at hn1
  have hM1 : s1.H (st.next + 1) = .map false [.i64] [] := by rw [hk1.H _ (by simp)]; simp
  have k1 : Keeps st s1 := ((Keeps.new _ _).trans (Keeps.new _ _)).trans hk1
  have hRl := hR.len
  have hrow : ∀ c ∈ R, c.length ≤ 800 := fun c hc => by
    have hcnt := Lead.count h.perF (fun x hx => h.fc_dart _ x hx) (rise_nodup (darts_rise h.g.ids)) hR
    have h1 : c.length ≤ R.flatten.length := (List.sublist_flatten_of_mem hc).length_le
    rw [hcnt.length_eq] at h1; omega
  have hsl : (sizs R).length = R.length := by simp [sizs]
  have hrl : (rowsL3 R).length = R.length := by simp [rowsL3]
  (repeat' (first | refine awp_block ?_ | (refine e_go ?_; simp []; (refine hJ _ _ ?_; clear hJ J; simp only [ak, reduceIte]))))
  refine awp_range 10 9 11 19 (R.length) (fun j fr st2 => fr 3 = .mp (st.next + 1) ∧ fr 8 = .sl t R.length (rowsL3 R) ∧ st.next + 1 < st2.next ∧ Keeps st st2 ∧ st2.H (st.next + 1) = .map false [.i64] (addAll [] ((sizs R).take j)) ∧ TabB j (addAll [] ((sizs R).take j))) ?_ ?_ ?_
  · exact ⟨by simp, by simp, by omega, k1, by simpa [addAll] using hM1, ⟨by simp [addAll], by simp [addAll]⟩⟩
  · rintro j fr s hlt ⟨f3, f8, hsn, hkp, hM, hT⟩ fi fn J hJ
    have hd := rows3_drop R j hlt
    have hcin : R.getD j [] ∈ R := by rw [List.getD_eq_getElem?_getD, List.getElem?_eq_getElem hlt]; exact List.getElem_mem _
    have htk : (sizs R).take (j + 1) = (sizs R).take j ++ [((R.getD j []).length : Int)] := by
      rw [List.take_succ_eq_append_getElem (by omega)]
      congr 2
      simp [sizs, List.getD_eq_getElem?_getD, List.getElem?_eq_getElem hlt]
    have hcl := hrow _ hcin
    generalize R.getD j [] = c at *
    have hAdd := sAdd (st.next + 1) (addAll [] ((sizs R).take j)) [(c.length : Int)] s.next (j : Int) (s.new (.own 3 1 1)) (by rw [new_H, if_neg (by omega)]; exact hM) (by omega) hT (by simp) (by simp; omega)
    simp only [List.length_cons, List.length_nil, List.map_cons, List.map_nil] at hAdd
    (repeat' (first | refine awp_seq ?_ | (refine w_e [] ?_; intro J hJ; simp only []; simp [f3, f8, fi, fn, hd, hlt, hrl]; (try (refine hJ _ _ ?_; clear hJ J; simp only [ak, reduceIte])))))
    refine callK_ofE hAdd (by simp) ?_; rintro r s5 ⟨rfl, hT5⟩
    have hAA : addAll (addAll [] ((sizs R).take j)) [(c.length : Int)] = addAll [] ((sizs R).take (j + 1)) := by rw [htk]; simp [addAll, List.foldl_append]
    rw [hAA] at hT5 ⊢
    (repeat' (refine e_go ?_; simp []; (refine hJ _ _ ?_; clear hJ J; simp only [ak, reduceIte])))
    refine hJ _ _ (by simp [fi]) (by simp [fn]) ⟨by simp [f3], by simp [f8], by simp; omega, ?_, by simp, by simpa using hT5⟩
    exact (hkp.trans (Keeps.new _ _)).set (by omega) _
  · rintro fr s ⟨f3, f8, hsn, hkp, hM, hT⟩
    rw [List.take_of_length_le (by omega)] at hM hT
    (repeat' (first | refine awp_seq ?_ | (refine awp_ret ?_; simp only [ak, reduceIte]; simp [f3]) | (refine w_e [] ?_; intro J hJ; simp only []; simp [f3]; (refine hJ _ _ ?_; clear hJ J; simp only [ak, reduceIte]))))
    exact ⟨_, R, rfl, by omega, hsn, hkp, hM, hT, hR⟩

end Go.Proofs.YtomfeddgeihipaaGreat.Aw

namespace Go.Proofs.YtomfeddgeihipaaGreat.Aw
open Go Go.RowKit Go.Proofs.YtomfeddgeihipaaGreat.Pl
set_option linter.unusedSimpArgs false
set_option linter.unusedVariables false

theorem root (m : Nat) (mes : List (List Int × LV)) (vs : List Int) (I : List Ed) (U R : Int → Int) (d : Int → Nat) (v : Int) (st : St) (hM : st.H m = .map false [.u32] mes) (hU : UF vs I U R d) (hmes : ∀ v ∈ vs, mget mes [v] = some (u (U v))) (hv : v ∈ vs) :
    ACalls Tryz.prog 145 [.mp m, u v] st fun r st' => r = u (R v) ∧ st' = st := by
  refine acalls_of_body tabOk Tryz.func145 rfl rfl Tryz.ntmps145 (rs := [.tmp 4]) rfl (by simp) ?_
  (repeat' (first | refine awp_seq ?_ | refine awp_block ?_ | (refine w_e [] ?_; intro J hJ; simp only []; simp []; (refine hJ _ _ ?_; clear hJ J; simp only [ak, reduceIte]))))
  refine awp_loop (fun n fr s => ∃ x, x ∈ vs ∧ R x = R v ∧ n = d x ∧ fr 0 = .mp m ∧ fr 1 = u x ∧ s = st) (d v) ⟨v, hv, rfl, rfl, by simp, by simp, rfl⟩ ?_
  rintro n fr s ⟨x, hx, hxr, rfl, f0, f1, rfl⟩ J hJ
  have hg := hmes x hx
  by_cases hux : U x = x
  · clear hJ
    have h1 := hU.top x hx hux
    have hb : (U x != x) = false := by simpa using hux
    have h2 : x = R v := by rw [← hxr, h1]
    (repeat' (first | refine awp_seq ?_ | (refine awp_exit ?_; simp only [ak, reduceIte]) | (refine awp_ret ?_; simp only [ak, reduceIte]; simp [f0, f1, hM, hg, hb, hux]) | (refine awp_cond ?_; simp [f0, f1, hM, hg, hb, hux]) | (refine w_e [] ?_; intro J hJ; simp only []; simp [f0, f1, hM, hg, hb, hux]; (refine hJ _ _ ?_; clear hJ J; simp only [ak, reduceIte]))))
    exact h2
  · have hb : (U x != x) = true := by simpa using hux
    obtain ⟨g1, g2⟩ := hU.up x hx hux
    (repeat' (first | refine awp_seq ?_ | refine awp_block ?_ | (refine awp_skip ?_; simp only [ak, reduceIte]) | (refine awp_cond ?_; simp [f0, f1, hM, hg, hb]) | (refine w_e [] ?_; intro J hJ; simp only []; simp [f0, f1, hM, hg, hb]; (refine hJ _ _ ?_; clear hJ J; simp only [ak, reduceIte]))))
    exact hJ _ _ _ g2 ⟨U x, hU.inU x hx, by rw [g1]; exact hxr, rfl, by simp [f0], by simp, rfl⟩

def idsL (l : List Ed) : List Int := l.map (·.id)
@[simp] theorem idsL_len (l : List Ed) : (idsL l).length = l.length := by simp [idsL]
def OwnI (t : Nat) (lo : St) (n : Nat) (st : St) : Prop := t ≠ 0 ∧ lo.next ≤ t ∧ t < st.next ∧ st.H t = .own 41 1 n
theorem box_neW {st : St} {a b : Nat} {x y : LObj} (ha : st.H a = x) (hb : st.H b = y) (h : x ≠ y) : ¬ a = b := fun e => h (by rw [← ha, e, hb])
structure SpI (g : Gr) (st : St) (M : Nat) (E I Rs : List Ed) (t2 t3 : Nat) (mes : List (List Int × LV)) (s : St) : Prop where
  hM : s.H M = .map false [.u32] mes
  fo : IsFo E I Rs
  uf : ∃ U R d, UF g.vs I U R d ∧ ∀ v ∈ g.vs, mget mes [v] = some (u (U v))
  o2 : OwnI t2 st I.length s
  o3 : OwnI t3 st Rs.length s
  ne : t2 ≠ t3
  b : st.next ≤ M ∧ M < s.next
  kp : Keeps st s

set_option maxHeartbeats 2000000 in
theorem split (g : Gr) (st : St) (hg : Good g) (hv : g.vs.length ≤ 1000) (he : g.es.length ≤ 1000) (hp : 0 < st.next) :
    ACalls Tryz.prog 108 [.ag (grL g)] st fun r st' => (∃ I Rs, IsFo g.es I Rs ∧ r = .tu [.sl 0 (idsL I).length (us (idsL I)), .sl 0 (idsL Rs).length (us (idsL Rs))]) ∧ Keeps st st' := by
  refine acalls_z0 ?_
  have hel := eds_length g.es
  refine acalls_of_body tabOk Tryz.func108 rfl rfl Tryz.ntmps108 (rs := [.tmp 2, .tmp 3]) rfl (by simp) ?_
  (repeat' (first | refine awp_seq ?_ | refine awp_block ?_ | (refine w_e [] ?_; intro J hJ; simp only []; simp []; (refine hJ _ _ ?_; clear hJ J; simp only [ak, reduceIte]))))
  refine awp_range 15 14 16 22 (g.vs.length) (fun j fr st2 => fr 1 = .pt st.next 0 ∧ fr 2 = .nil ∧ fr 3 = .nil ∧ fr 4 = .mp (st.next + 1) ∧ fr 13 = .sl 0 g.vs.length (us g.vs) ∧ st2.H st.next = .box 38 2 (grL g) ∧ st2.next = st.next + 2 ∧ Keeps st st2 ∧ ∃ mes, st2.H (st.next + 1) = .map false [.u32] mes ∧ ∀ v ∈ g.vs.take j, mget mes [v] = some (u v)) ?_ ?_ ?_
  · exact ⟨by simp, by simp, by simp, by simp, by simp, by simp, by simp, (Keeps.new _ _).trans (Keeps.new _ _), [], by simp, by simp⟩
  · rintro j fr s hlt ⟨f1, f2, f3, f4, f13, hG, hsn, hkp, mes, hM, hmes⟩ fi fn J hJ
    have hd := us_drop_getD g.vs j hlt
    have htk : g.vs.take (j + 1) = g.vs.take j ++ [g.vs.getD j 0] := by
      rw [List.getD_eq_getElem?_getD, List.getElem?_eq_getElem hlt]; exact List.take_succ_eq_append_getElem hlt
    generalize g.vs.getD j 0 = v at *
    (repeat' (first | refine awp_seq ?_ | (refine w_e [] ?_; intro J hJ; simp only []; simp [f4, f13, fi, fn, hd, hlt, hM]; (refine hJ _ _ ?_; clear hJ J; simp only [ak, reduceIte]))))
    refine hJ _ _ (by simp [fi]) (by simp [fn]) ⟨by simp [f1], by simp [f2], by simp [f3], by simp [f4], by simp [f13], by simp [hG], by simp [hsn], hkp.set (by omega) _, mset mes [v] (u v), by simp, fun w hw => ?_⟩
    rw [mget_mset]
    by_cases hwv : w = v
    · subst hwv; simp
    · rw [if_neg (by simpa using hwv)]
      rw [htk, List.mem_append, List.mem_singleton] at hw
      exact hmes w (hw.resolve_right hwv)
  · rintro fr s ⟨f1, f2, f3, f4, f13, hG, hsn, hkp, mes, hM, hmes⟩
    rw [List.take_length] at hmes
    (repeat' (first | refine awp_seq ?_ | refine awp_block ?_ | (refine w_e [] ?_; intro J hJ; simp only []; simp [f1, hG]; (refine hJ _ _ ?_; clear hJ J; simp only [ak, reduceIte]))))
    refine awp_own 2 41 1 (by simp [f2]) ?_
    refine awp_own 3 41 1 (by simp [f3]) ?_
    refine awp_range 26 25 27 54 (g.es.length) (fun j fr st2 => fr 4 = .mp (st.next + 1) ∧ fr 24 = .sl 0 g.es.length (eds g.es) ∧ ∃ mes I Rs t2 t3, fr 2 = .sl t2 I.length (us (idsL I)) ∧ fr 3 = .sl t3 Rs.length (us (idsL Rs)) ∧ SpI g st (st.next + 1) (g.es.take j) I Rs t2 t3 mes st2) ?_ ?_ ?_
    · refine ⟨by simp [f4], by simp, mes, [], [], s.next, s.next + 1, by simp [idsL], by simp [idsL], ?_⟩
      refine ⟨?_, by simpa using IsFo.nil, ⟨id, id, _, UF.start g.vs, hmes⟩, ⟨by omega, by omega, by simp; omega, by simp⟩, ⟨by omega, by omega, by simp, by simp⟩, by omega, ⟨by omega, by simp; omega⟩, (hkp.trans (Keeps.new _ _)).trans (Keeps.new _ _)⟩
      (repeat (first | rw [new_H, if_neg (α := LObj) (by (try simp only [set_next, new_next]); omega)] | rw [set_H, if_neg (α := LObj) (by omega)] | rw [new_H, if_pos (α := LObj) (by (try simp only [set_next, new_next]))] | rw [set_H, if_pos (α := LObj) (by omega)])); exact hM
    · clear f1 f2 f3 f4 f13 hG hsn hkp hM hmes fr s mes
      rintro j fr s hlt ⟨f4, f24, mes, I, Rs, t2, t3, f2, f3, hM, hfo, ⟨U, R, d, hU, hmes⟩, ⟨a1, a2, a3, a4⟩, ⟨b1, b2, b3, b4⟩, hne, ⟨hb1, hb2⟩, hkp⟩ fi fn JO hJO
      generalize hMM : st.next + 1 = M at *
      have hd := eds_drop g.es j hlt
      have hk3 : j * 3 < g.es.length * 3 := by omega
      have htk : g.es.take (j + 1) = g.es.take j ++ [g.es.getD j ed0] := by
        rw [List.getD_eq_getElem?_getD, List.getElem?_eq_getElem hlt]; exact List.take_succ_eq_append_getElem hlt
      have hxin : g.es.getD j ed0 ∈ g.es := by
        rw [List.getD_eq_getElem?_getD, List.getElem?_eq_getElem hlt]; exact List.getElem_mem _
      generalize g.es.getD j ed0 = x at *
      obtain ⟨hxa, hxb⟩ := hg.ends x hxin
      obtain ⟨id, a, b⟩ := x
      simp only at hxa hxb
      have hsub := hfo.sub
      have hIl : I.length ≤ 1000 := by have := hsub.1.length_le; rw [List.length_take] at this; omega
      have hRl : Rs.length ≤ 1000 := by have := hsub.2.1.length_le; rw [List.length_take] at this; omega
      have hIv : ∀ y ∈ I, y.a ∈ g.vs ∧ y.b ∈ g.vs := fun y hy => hg.ends y (List.mem_of_mem_take (hsub.1.subset hy))
      have m0 : ¬ M = s.next := by omega
      have m0' : ¬ s.next = M := by omega
      have m2 : ¬ M = t2 := box_neW hM a4 (by simp)
      have m3 : ¬ M = t3 := box_neW hM b4 (by simp)
      have c2 : ¬ t2 = s.next + 1 := by omega
      have c3 : ¬ t3 = s.next + 1 := by omega
      have c2b : ¬ t2 = s.next := by omega
      have c3b : ¬ t3 = s.next := by omega
      have hM1 : (s.new (.box 43 3 [u id, u a, u b])).H M = .map false [.u32] mes := by rw [new_H, if_neg m0]; exact hM
      (repeat' (first | refine awp_seq ?_ | (refine w_e [] ?_; intro J hJ; simp only []; simp [f24, fi, fn, hd, hel, hk3, hlt]; (refine hJ _ _ ?_; clear hJ J; simp only [ak, reduceIte]))))
      (refine w_s [] [s.next] [(0, true), (1, true), (2, true), (4, true), (5, true), (6, true), (3, true), (7, true), (8, true), (9, true)] ?_; intro J hJ; simp [f4])
      refine dcallK_ofE (root M mes g.vs I U R d a _ hM1 hU hmes hxa) (by simp) ?_; rintro r s5 ⟨rfl, rfl⟩
      refine ⟨fun _ => by simp, ?_⟩
      (refine d_go ?_; simp [f4])
      refine dcallK_ofE (root M mes g.vs I U R d b _ hM1 hU hmes hxb) (by simp) ?_; rintro r s6 ⟨rfl, rfl⟩
      refine ⟨fun _ => by simp, ?_⟩
      (refine d_go ?_; simp []; (refine hJ _ _ ?_; clear hJ J; simp only [ak, reduceIte]))
      by_cases hab : R a = R b
      · have hab2 : (R a == R b) = true := by simpa using hab
        have hre : Reach I a b := (hU.rel a hxa b hxb).1 hab
        (repeat' (first | refine awp_seq ?_ | (refine awp_exit ?_; simp only [ak, reduceIte]) | (refine awp_cond ?_; simp [f3, hab2, b4, b1, c3, c3b]) | (refine w_e [] ?_; intro J hJ; simp only []; simp [f3, hab2, b4, b1, c3, c3b]; (repeat refine ca ?_); (refine hJ _ _ ?_; clear hJ J; simp only [ak, reduceIte]))))
        refine hJO _ _ (by simp [fi]) (by simp [fn]) ⟨by simp [f4], by simp [f24], mes, I, Rs ++ [⟨id, a, b⟩], t2, s.next + 2, by simp [f2], by simp [idsL], ?_⟩
        rw [htk]
        refine ⟨by (repeat (first | rw [new_H, if_neg (α := LObj) (by (try simp only [set_next, new_next]); omega)] | rw [set_H, if_neg (α := LObj) (by omega)] | rw [new_H, if_pos (α := LObj) (by (try simp only [set_next, new_next]))] | rw [set_H, if_pos (α := LObj) (by omega)])); exact hM, .rest hfo hre, ⟨U, R, d, hU, hmes⟩, ⟨a1, a2, by simp; omega, by (repeat (first | rw [new_H, if_neg (α := LObj) (by (try simp only [set_next, new_next]); omega)] | rw [set_H, if_neg (α := LObj) (by omega)] | rw [new_H, if_pos (α := LObj) (by (try simp only [set_next, new_next]))] | rw [set_H, if_pos (α := LObj) (by omega)])); exact a4⟩, ⟨by omega, by omega, by simp, by simp⟩, by omega, ⟨hb1, by simp; omega⟩, ?_⟩
        exact (((hkp.trans (Keeps.new _ _)).trans (Keeps.new _ _)).set (by omega) _).trans (Keeps.new _ _)
      · have hab2 : (R a == R b) = false := by simpa using hab
        have hre : ¬ Reach I a b := fun h => hab ((hU.rel a hxa b hxb).2 h)
        have m2' : ¬ t2 = M := fun e => m2 e.symm
        (repeat' (first | refine awp_seq ?_ | (refine awp_skip ?_; simp only [ak, reduceIte]) | (refine awp_cond ?_; simp [f2, f4, hab2, a4, a1, c2, c2b, hM1, m0, m0', m2', hM]) | (refine w_e [] ?_; intro J hJ; simp only []; simp [f2, f4, hab2, a4, a1, c2, c2b, hM1, m0, m0', m2', hM]; (repeat refine ca ?_); (refine hJ _ _ ?_; clear hJ J; simp only [ak, reduceIte]))))
        refine hJO _ _ (by simp [fi]) (by simp [fn]) ⟨by simp [f4], by simp [f24], mset mes [R a] (u (R b)), I ++ [⟨id, a, b⟩], Rs, s.next + 2, t3, by simp [idsL], by simp [f3], ?_⟩
        rw [htk]
        refine ⟨by (repeat (first | rw [new_H, if_neg (α := LObj) (by (try simp only [set_next, new_next]); omega)] | rw [set_H, if_neg (α := LObj) (by omega)] | rw [new_H, if_pos (α := LObj) (by (try simp only [set_next, new_next]))] | rw [set_H, if_pos (α := LObj) (by omega)])), .join hfo hre, ⟨_, _, _, hU.join (x := ⟨id, a, b⟩) hxa hxb hIv hab, fun v hv => ?_⟩, ⟨by omega, by omega, by simp, by simp⟩, ⟨b1, b2, by simp; omega, by (repeat (first | rw [new_H, if_neg (α := LObj) (by (try simp only [set_next, new_next]); omega)] | rw [set_H, if_neg (α := LObj) (by omega)] | rw [new_H, if_pos (α := LObj) (by (try simp only [set_next, new_next]))] | rw [set_H, if_pos (α := LObj) (by omega)])); exact b4⟩, by omega, ⟨hb1, by simp; omega⟩, ?_⟩
        · rw [mget_mset]
          by_cases e : v = R a
          · simp [e]
          · simp [e, hmes v hv]
        · exact ((((hkp.trans (Keeps.new _ _)).set (by omega) _).trans (Keeps.new _ _)).set (by omega) _).trans (Keeps.new _ _)
    · rintro fr s ⟨f4, f24, mes, I, Rs, t2, t3, f2, f3, hB⟩
      have hfo := hB.fo
      rw [List.take_length] at hfo
      (repeat' (first | refine awp_seq ?_ | (refine awp_ret ?_; simp only [ak, reduceIte]; simp [f2, f3]) | (refine w_e [] ?_; intro J hJ; simp only []; simp [f2, f3]; (refine hJ _ _ ?_; clear hJ J; simp only [ak, reduceIte]))))
      refine ⟨⟨I, Rs, hfo, by simp [z0, z0L]⟩, hB.kp⟩

end Go.Proofs.YtomfeddgeihipaaGreat.Aw

namespace Go.Proofs.YtomfeddgeihipaaGreat.Aw
open Go Go.RowKit Go.Proofs.YtomfeddgeihipaaGreat.Pl
set_option linter.unusedSimpArgs false
set_option linter.unusedVariables false

theorem sum3G (l : List Ed) : (List.map (fun _ : Ed => 3) l).sum = l.length * 3 := by
  induction l with
  | nil => rfl
  | cons x l ih => simp only [List.map_cons, List.sum_cons, List.length_cons, ih]; omega
/-- A map that tells how far each is. -/
def FarAt (es : List (List Int × LV)) (f : Int → Int) : Prop := ∀ v, (mget es [v]).getD (i 0) = i (f v)
theorem FarAt.set {es : List (List Int × LV)} {f : Int → Int} (h : FarAt es f) (w k : Int) : FarAt (mset es [w] (i k)) (far1 f w k) := fun v => by
  rw [mget_mset]
  unfold far1
  by_cases hv : v = w
  · rw [hv]; simp
  · have : ¬ [v] = [w] := by simpa using hv
    rw [if_neg this, if_neg hv]; exact h v
theorem lays_snoc (x : Ed) (es : List Ed) (n : Int) (f : Int → Int) (j : Nat) (hj : j < es.length) : lay x (es.take (j + 1)) n f = layE x n (lay x (es.take j) n f) (es.getD j ed0) := by
  rw [List.take_succ_eq_append_getElem hj, lay_snoc, List.getD_eq_getElem?_getD, List.getElem?_eq_getElem hj]; rfl
/-- What stays all along. -/
def GrI (g : Gr) (st : St) (x : Ed) (b : Int) (xb M k : Nat) (fr : Frm) (s : St) : Prop :=
  fr 1 = .pt st.next 0 ∧ fr 3 = i b ∧ fr 5 = .pt xb 0 ∧ fr 6 = .mp M ∧ fr 7 = i (k + 1 : Nat) ∧ fr 11 = .sl 0 g.es.length (eds g.es) ∧ s.H st.next = .box 38 2 (grL g) ∧ s.H xb = .box 43 3 (edL x) ∧ st.next < xb ∧ xb < M ∧ M < s.next ∧ Keeps st s

set_option maxHeartbeats 4000000 in
theorem ref_Girth (g : Gr) (st : St) (hv : g.vs.length ≤ 1000) (he : g.es.length ≤ 1000) :
    ACalls Tryz.prog 72 [.ag (grL g)] st fun r st' => r = i (refGirth g) ∧ Keeps st st' := by
  have hel := eds_length g.es
  have hsm := sum3G g.es
  refine acalls_of_body tabOk Tryz.func72 rfl rfl Tryz.ntmps72 (rs := [.tmp 2]) rfl (by simp) ?_
  (repeat' (first | refine awp_seq ?_ | refine awp_block ?_ | (refine w_e [] ?_; intro J hJ; simp only []; simp []; (refine hJ _ _ ?_; clear hJ J; simp only [ak, reduceIte]))))
  refine awp_range 13 12 14 98 (g.es.length) (fun j fr st2 => fr 1 = .pt st.next 0 ∧ fr 3 = i ((g.es.take j).foldl (fun b x => best1 b (lays x g.es g.vs.length x.b)) 0) ∧ fr 11 = .sl 0 g.es.length (eds g.es) ∧ st2.H st.next = .box 38 2 (grL g) ∧ st.next < st2.next ∧ Keeps st st2) ?_ ?_ ?_
  · exact ⟨by simp, by simp, by simp, by simp, by simp, Keeps.new _ _⟩
  · rintro j0 fr s hlt ⟨f1, f3, f11, hG, hsn, hkp⟩ hfi hfn JO hJO
    have hd := eds_drop g.es j0 hlt
    have hk3 : j0 * 3 < g.es.length * 3 := by omega
    have htk : (g.es.take (j0 + 1)).foldl (fun b x => best1 b (lays x g.es g.vs.length x.b)) 0 = best1 ((g.es.take j0).foldl (fun b x => best1 b (lays x g.es g.vs.length x.b)) 0) (lays (g.es.getD j0 ed0) g.es g.vs.length (g.es.getD j0 ed0).b) := by
      rw [List.take_succ_eq_append_getElem hlt, List.foldl_append, List.getD_eq_getElem?_getD, List.getElem?_eq_getElem hlt]; rfl
    have hb0 : 0 ≤ (g.es.take j0).foldl (fun b x => best1 b (lays x g.es g.vs.length x.b)) 0 := by
      rcases (best_fold (fun x : Ed => lays x g.es g.vs.length x.b) (fun x => lays_nn _ _ _ _) (g.es.take j0) 0 (by omega)).2.2 with h | ⟨x, _, h⟩
      · rw [h]; exact Int.le_refl _
      · rw [h]; exact lays_nn _ _ _ _
    generalize g.es.getD j0 ed0 = x at *
    generalize (g.es.take j0).foldl (fun b x => best1 b (lays x g.es g.vs.length x.b)) 0 = b at *
    have hx0 : lays x g.es 0 = far1 (fun _ => 0) x.a 1 := rfl
    obtain ⟨xi, xa, xe⟩ := x
    simp only at hx0 hd
    have e1 : ¬ st.next = s.next := by omega
    have e2 : ¬ st.next = s.next + 1 := by omega
    have e3 : ¬ s.next = s.next + 1 := by omega
    (repeat' (first | refine awp_seq ?_ | refine awp_block ?_ | (refine w_e [] ?_; intro J hJ; simp only []; simp [f11, hfi, hfn, hd, hel, hk3, hlt, e1, e2, e3]; (refine hJ _ _ ?_; clear hJ J; simp only [ak, reduceIte]))))
    refine awp_loop (fun z fr s2 => ∃ (k : Nat) (mes : List (List Int × LV)), k ≤ g.vs.length ∧ z = g.vs.length - k ∧ fr 13 = i j0 ∧ fr 12 = i g.es.length ∧ GrI g st ⟨xi, xa, xe⟩ b s.next (s.next + 1) k fr s2 ∧ s2.H (s.next + 1) = .map false [.u32] mes ∧ FarAt mes (lays ⟨xi, xa, xe⟩ g.es k)) g.vs.length ?_ ?_
    · refine ⟨0, [([xa], i 1)], by omega, by omega, by simp [hfi], by simp [hfn], ⟨by simp [f1], by simp [f3], by simp, by simp, by simp, by simp [f11], ?_, ?_, by omega, by omega, by simp, ?_⟩, ?_, ?_⟩
      · (repeat (first | rw [new_H, if_neg (α := LObj) (by (try simp only [set_next, new_next]); omega)] | rw [set_H, if_neg (α := LObj) (by omega)] | rw [new_H, if_pos (α := LObj) (by (try simp only [set_next, new_next]))] | rw [set_H, if_pos (α := LObj) (by omega)])); exact hG
      · (repeat (first | rw [new_H, if_neg (α := LObj) (by (try simp only [set_next, new_next]); omega)] | rw [set_H, if_neg (α := LObj) (by omega)] | rw [new_H, if_pos (α := LObj) (by (try simp only [set_next, new_next]))] | rw [set_H, if_pos (α := LObj) (by omega)])); try rfl
      · exact ((hkp.trans (Keeps.new _ _)).trans (Keeps.new _ _)).set (by omega) _
      · (repeat (first | rw [new_H, if_neg (α := LObj) (by (try simp only [set_next, new_next]); omega)] | rw [set_H, if_neg (α := LObj) (by omega)] | rw [new_H, if_pos (α := LObj) (by (try simp only [set_next, new_next]))] | rw [set_H, if_pos (α := LObj) (by omega)])); try rfl
      · have h0 : FarAt [] (fun _ => 0) := fun v => by simp [mget]
        exact h0.set xa 1
    clear hG hsn hkp f1 f3 f11 hfi hfn e1 e2 e3 fr
    generalize s.next = xb at *
    rintro z fr s2 ⟨k, mes, hk, rfl, gi', gn', ⟨f1, f3, f5, f6, f7, f11, hG, hX, hsx, hxM, hMn, hkp⟩, hM, hfar⟩ J hJ
    have hw := nat_add_one (k + 1) (by omega)
    by_cases hlk : k < g.vs.length
    rotate_left
    · clear hJ
      obtain rfl : k = g.vs.length := by omega
      have hle : ¬ ((g.vs.length : Int) + 1 ≤ g.vs.length) := by omega
      have hB := hfar xe
      have hnn := lays_nn ⟨xi, xa, xe⟩ g.es g.vs.length xe
      simp only at htk
      generalize lays ⟨xi, xa, xe⟩ g.es g.vs.length xe = n at *
      have hfin : ∀ fr', fr' 13 = i j0 → fr' 12 = i g.es.length → fr' 1 = fr 1 → fr' 11 = fr 11 → fr' 3 = i (best1 b n) → JO fr' s2 := fun fr' g1 g2 g3 g4 g5 =>
        hJO _ _ g1 g2 ⟨by simp [g3, f1], by rw [htk]; simp [g5], by simp [g4, f11], hG, by omega, hkp⟩
      by_cases c1 : 0 < n
      · by_cases c2 : b = 0
        · have c2' : (b == 0) = true := by simpa using c2
          have hb : best1 b n = n := by unfold best1; rw [if_pos ⟨c1, .inl c2⟩]
          rw [hb] at hfin
          (repeat' (first | refine awp_seq ?_ | (refine awp_exit ?_; simp only [ak, reduceIte]) | (refine awp_cond ?_; simp [f1, f3, f5, f6, f7, hG, hle, hX, hM, hB, c1, c2']) | (refine w_e [] ?_; intro J hJ; simp only []; simp [f1, f3, f5, f6, f7, hG, hle, hX, hM, hB, c1, c2']; (refine hJ _ _ ?_; clear hJ J; simp only [ak, reduceIte]))))
          exact hfin _ (by simp [gi']) (by simp [gn']) (by simp) (by simp) (by simp)
        · have c2' : (b == 0) = false := by simpa using c2
          by_cases c3 : n < b
          · have hb : best1 b n = n := by unfold best1; rw [if_pos ⟨c1, .inr c3⟩]
            rw [hb] at hfin
            (repeat' (first | refine awp_seq ?_ | (refine awp_exit ?_; simp only [ak, reduceIte]) | (refine awp_cond ?_; simp [f1, f3, f5, f6, f7, hG, hle, hX, hM, hB, c1, c2', c3]) | (refine w_e [] ?_; intro J hJ; simp only []; simp [f1, f3, f5, f6, f7, hG, hle, hX, hM, hB, c1, c2', c3]; (refine hJ _ _ ?_; clear hJ J; simp only [ak, reduceIte]))))
            exact hfin _ (by simp [gi']) (by simp [gn']) (by simp) (by simp) (by simp)
          · have hb : best1 b n = b := by unfold best1; rw [if_neg (by omega)]
            rw [hb] at hfin
            (repeat' (first | refine awp_seq ?_ | (refine awp_skip ?_; simp only [ak, reduceIte]) | (refine awp_exit ?_; simp only [ak, reduceIte]) | (refine awp_cond ?_; simp [f1, f3, f5, f6, f7, hG, hle, hX, hM, hB, c1, c2', c3]) | (refine w_e [] ?_; intro J hJ; simp only []; simp [f1, f3, f5, f6, f7, hG, hle, hX, hM, hB, c1, c2', c3]; (refine hJ _ _ ?_; clear hJ J; simp only [ak, reduceIte]))))
            exact hfin _ (by simp [gi']) (by simp [gn']) (by simp) (by simp) (by simp [f3])
      · have hb : best1 b n = b := by unfold best1; rw [if_neg (by omega)]
        rw [hb] at hfin
        (repeat' (first | refine awp_seq ?_ | (refine awp_skip ?_; simp only [ak, reduceIte]) | (refine awp_exit ?_; simp only [ak, reduceIte]) | (refine awp_cond ?_; simp [f1, f3, f5, f6, f7, hG, hle, hX, hM, hB, c1]) | (refine w_e [] ?_; intro J hJ; simp only []; simp [f1, f3, f5, f6, f7, hG, hle, hX, hM, hB, c1]; (refine hJ _ _ ?_; clear hJ J; simp only [ak, reduceIte]))))
        exact hfin _ (by simp [gi']) (by simp [gn']) (by simp) (by simp) (by simp [f3])
    have hle : (k : Int) + 1 ≤ g.vs.length := by omega
    have hls : lays ⟨xi, xa, xe⟩ g.es (k + 1) = lay ⟨xi, xa, xe⟩ g.es ((k : Int) + 1) (lays ⟨xi, xa, xe⟩ g.es k) := rfl
    generalize lays ⟨xi, xa, xe⟩ g.es k = f at *
    (repeat' (first | refine awp_seq ?_ | refine awp_block ?_ | (refine awp_skip ?_; simp only [ak, reduceIte]) | (refine awp_cond ?_; simp [f1, f7, hG, hle]) | (refine w_e [] ?_; intro J hJ; simp only []; simp [f1, f7, hG, hle]; (refine hJ _ _ ?_; clear hJ J; simp only [ak, reduceIte]))))
    refine awp_range 31 30 32 76 (g.es.length) (fun j fr st2 => fr 13 = i j0 ∧ fr 12 = i g.es.length ∧ fr 29 = .sl 0 g.es.length (eds g.es) ∧ GrI g st ⟨xi, xa, xe⟩ b xb (xb + 1) k fr st2 ∧ ∃ mes, st2.H (xb + 1) = .map false [.u32] mes ∧ FarAt mes (lay ⟨xi, xa, xe⟩ (g.es.take j) ((k : Int) + 1) f)) ?_ ?_ ?_
    · exact ⟨by simp [gi'], by simp [gn'], by simp, ⟨by simp [f1], by simp [f3], by simp [f5], by simp [f6], by simp [f7], by simp [f11], hG, hX, hsx, hxM, hMn, hkp⟩, mes, hM, by simpa [lay] using hfar⟩
    · clear f1 f3 f5 f6 f7 f11 hG hX hxM hMn hkp hM hfar gi' gn' hJ hJO fr s2 mes
      rintro j fr s3 hlj ⟨gi', gn', f29, ⟨f1, f3, f5, f6, f7, f11, hG, hX, _, hxM, hMn, hkp⟩, mes, hM, hfar⟩ fi fn J2 hJ2
      have hdj := eds_drop g.es j hlj
      have hkj : j * 3 < g.es.length * 3 := by omega
      have hsn := lays_snoc ⟨xi, xa, xe⟩ g.es ((k : Int) + 1) f j hlj
      generalize g.es.getD j ed0 = y at *
      generalize lay ⟨xi, xa, xe⟩ (g.es.take j) ((k : Int) + 1) f = F at *
      obtain ⟨yi, ya, yb⟩ := y
      have e1 : ¬ st.next = s3.next := by omega
      have e2 : ¬ xb = s3.next := by omega
      have e3 : ¬ xb + 1 = s3.next := by omega
      have e4 : ¬ st.next = xb + 1 := by omega
      have e5 : ¬ xb = xb + 1 := by omega
      have e6 : ¬ s3.next = xb + 1 := by omega
      have hA := hfar ya
      have hB := hfar yb
      have w1 : IntKind.i64.wrap ((k : Int) + 1 + 1) = (k : Int) + 1 + 1 := wrap_i64 _ (by omega) (by omega)
      have hfin : ∀ fr' es' L, fr' 31 = i j → fr' 30 = i g.es.length → fr' 1 = fr 1 → fr' 3 = fr 3 → fr' 5 = fr 5 → fr' 6 = fr 6 → fr' 7 = fr 7 → fr' 11 = fr 11 → fr' 12 = fr 12 → fr' 13 = fr 13 → fr' 29 = fr 29 → FarAt es' (layE ⟨xi, xa, xe⟩ ((k : Int) + 1) F ⟨yi, ya, yb⟩) → J2 fr' ((s3.new L).set (xb + 1) (.map false [.u32] es')) := by
        intro fr' es' L g1 g2 g3 g4 g5 g6 g7 g8 g9 g10 g11 g12
        refine hJ2 _ _ g1 g2 ⟨by simp [g10, gi'], by simp [g9, gn'], by simp [g11, f29], ⟨by simp [g3, f1], by simp [g4, f3], by simp [g5, f5], by simp [g6, f6], by simp [g7, f7], by simp [g8, f11], ?_, ?_, hsx, hxM, by simp; omega, ?_⟩, es', by simp, by rw [hsn]; exact g12⟩
        · (repeat (first | rw [new_H, if_neg (α := LObj) (by (try simp only [set_next, new_next]); omega)] | rw [set_H, if_neg (α := LObj) (by omega)] | rw [new_H, if_pos (α := LObj) (by (try simp only [set_next, new_next]))] | rw [set_H, if_pos (α := LObj) (by omega)])); exact hG
        · (repeat (first | rw [new_H, if_neg (α := LObj) (by (try simp only [set_next, new_next]); omega)] | rw [set_H, if_neg (α := LObj) (by omega)] | rw [new_H, if_pos (α := LObj) (by (try simp only [set_next, new_next]))] | rw [set_H, if_pos (α := LObj) (by omega)])); exact hX
        · exact (hkp.trans (Keeps.new _ _)).set (by omega) _
      have hself : ∀ L, (s3.new L) = (s3.new L).set (xb + 1) (.map false [.u32] mes) := fun L => St.ext' rfl fun q => by
        by_cases hq : q = xb + 1
        · subst hq; rw [set_H, if_pos rfl, new_H, if_neg e3]; exact hM
        · rw [set_H, if_neg hq]
      have hfin0 : ∀ fr' L, fr' 31 = i j → fr' 30 = i g.es.length → fr' 1 = fr 1 → fr' 3 = fr 3 → fr' 5 = fr 5 → fr' 6 = fr 6 → fr' 7 = fr 7 → fr' 11 = fr 11 → fr' 12 = fr 12 → fr' 13 = fr 13 → fr' 29 = fr 29 → layE ⟨xi, xa, xe⟩ ((k : Int) + 1) F ⟨yi, ya, yb⟩ = F → J2 fr' (s3.new L) := by
        intro fr' L g1 g2 g3 g4 g5 g6 g7 g8 g9 g10 g11 g12
        rw [hself]
        exact hfin _ _ _ g1 g2 g3 g4 g5 g6 g7 g8 g9 g10 g11 (by rw [g12]; exact hfar)
      clear hJ2 hself
      by_cases hid : yi = xi
      · have hid' : (yi == xi) = true := by simpa using hid
        (repeat' (first | refine awp_seq ?_ | (refine awp_exit ?_; simp only [ak, reduceIte]) | (refine awp_cond ?_; simp [f5, f29, fi, fn, hdj, hel, hkj, hlj, e1, e2, e3, e4, e5, e6, hX, hid']) | (refine w_e [] ?_; intro J hJ; simp only []; simp [f5, f29, fi, fn, hdj, hel, hkj, hlj, e1, e2, e3, e4, e5, e6, hX, hid']; (refine hJ _ _ ?_; clear hJ J; simp only [ak, reduceIte]))))
        exact hfin0 _ _ (by simp [fi]) (by simp [fn]) (by simp) (by simp) (by simp) (by simp) (by simp) (by simp) (by simp) (by simp) (by simp) (by simp [layE, hid])
      have hid' : (yi == xi) = false := by simpa using hid
      have hLE : layE ⟨xi, xa, xe⟩ ((k : Int) + 1) F ⟨yi, ya, yb⟩ = stp ((k : Int) + 1) (stp ((k : Int) + 1) F ya yb) yb ya := by unfold layE; rw [if_neg hid]
      rw [hLE] at hfin hfin0
      by_cases c1 : F ya = (k : Int) + 1
      · have c1' : (F ya == (k : Int) + 1) = true := by simpa using c1
        have c4 : ¬ F ya = 0 := by omega
        have c4' : (F ya == 0) = false := by simpa using c4
        by_cases c2 : F yb = 0
        · have c2' : (F yb == 0) = true := by simpa using c2
          have hS : stp ((k : Int) + 1) (stp ((k : Int) + 1) F ya yb) yb ya = far1 F yb ((k : Int) + 1 + 1) := by
            have h1 : stp ((k : Int) + 1) F ya yb = far1 F yb ((k : Int) + 1 + 1) := by unfold stp; rw [if_pos ⟨c1, c2⟩]
            rw [h1]; unfold stp; rw [if_neg]
            rintro ⟨h2, _⟩
            unfold far1 at h2; rw [if_pos rfl] at h2; omega
          rw [hS] at hfin
          have hF2 := hfar.set yb ((k : Int) + 1 + 1)
          have hB2 := hF2 yb
          have hq : (far1 F yb ((k : Int) + 1 + 1) yb == (k : Int) + 1) = false := by unfold far1; rw [if_pos rfl]; simp; omega
          (repeat' (first | refine awp_seq ?_ | (refine awp_skip ?_; simp only [ak, reduceIte]) | (refine awp_cond ?_; simp [f5, f6, f7, f29, fi, fn, hdj, hel, hkj, hlj, e1, e2, e3, e4, e5, e6, hX, hM, hid', hA, hB, c1', c2', w1, hB2, hq]) | (refine w_e [] ?_; intro J hJ; simp only []; simp [f5, f6, f7, f29, fi, fn, hdj, hel, hkj, hlj, e1, e2, e3, e4, e5, e6, hX, hM, hid', hA, hB, c1', c2', w1, hB2, hq]; (refine hJ _ _ ?_; clear hJ J; simp only [ak, reduceIte]))))
          exact hfin _ _ _ (by simp [fi]) (by simp [fn]) (by simp) (by simp) (by simp) (by simp) (by simp) (by simp) (by simp) (by simp) (by simp) hF2
        · have c2' : (F yb == 0) = false := by simpa using c2
          have hS : stp ((k : Int) + 1) (stp ((k : Int) + 1) F ya yb) yb ya = F := by
            have h1 : stp ((k : Int) + 1) F ya yb = F := by unfold stp; rw [if_neg (fun h => c2 h.2)]
            rw [h1]; unfold stp; rw [if_neg (fun h => c4 h.2)]
          rw [hS] at hfin0
          by_cases c3 : F yb = (k : Int) + 1
          · have c3' : (F yb == (k : Int) + 1) = true := by simpa using c3
            (repeat' (first | refine awp_seq ?_ | (refine awp_skip ?_; simp only [ak, reduceIte]) | (refine awp_cond ?_; simp [f5, f6, f7, f29, fi, fn, hdj, hel, hkj, hlj, e1, e2, e3, e4, e5, e6, hX, hM, hid', hA, hB, c1', c2', c3', c4']) | (refine w_e [] ?_; intro J hJ; simp only []; simp [f5, f6, f7, f29, fi, fn, hdj, hel, hkj, hlj, e1, e2, e3, e4, e5, e6, hX, hM, hid', hA, hB, c1', c2', c3', c4']; (refine hJ _ _ ?_; clear hJ J; simp only [ak, reduceIte]))))
            exact hfin0 _ _ (by simp [fi]) (by simp [fn]) (by simp) (by simp) (by simp) (by simp) (by simp) (by simp) (by simp) (by simp) (by simp) rfl
          · have c3' : (F yb == (k : Int) + 1) = false := by simpa using c3
            (repeat' (first | refine awp_seq ?_ | (refine awp_skip ?_; simp only [ak, reduceIte]) | (refine awp_cond ?_; simp [f5, f6, f7, f29, fi, fn, hdj, hel, hkj, hlj, e1, e2, e3, e4, e5, e6, hX, hM, hid', hA, hB, c1', c2', c3']) | (refine w_e [] ?_; intro J hJ; simp only []; simp [f5, f6, f7, f29, fi, fn, hdj, hel, hkj, hlj, e1, e2, e3, e4, e5, e6, hX, hM, hid', hA, hB, c1', c2', c3']; (refine hJ _ _ ?_; clear hJ J; simp only [ak, reduceIte]))))
            exact hfin0 _ _ (by simp [fi]) (by simp [fn]) (by simp) (by simp) (by simp) (by simp) (by simp) (by simp) (by simp) (by simp) (by simp) rfl
      · have c1' : (F ya == (k : Int) + 1) = false := by simpa using c1
        have h1 : stp ((k : Int) + 1) F ya yb = F := by unfold stp; rw [if_neg (fun h => c1 h.1)]
        rw [h1] at hfin hfin0
        by_cases c3 : F yb = (k : Int) + 1
        · have c3' : (F yb == (k : Int) + 1) = true := by simpa using c3
          by_cases c4 : F ya = 0
          · have c4' : (F ya == 0) = true := by simpa using c4
            have hS : stp ((k : Int) + 1) F yb ya = far1 F ya ((k : Int) + 1 + 1) := by unfold stp; rw [if_pos ⟨c3, c4⟩]
            rw [hS] at hfin
            have hF2 := hfar.set ya ((k : Int) + 1 + 1)
            (repeat' (first | refine awp_seq ?_ | (refine awp_skip ?_; simp only [ak, reduceIte]) | (refine awp_cond ?_; simp [f5, f6, f7, f29, fi, fn, hdj, hel, hkj, hlj, e1, e2, e3, e4, e5, e6, hX, hM, hid', hA, hB, c1', c3', c4', w1]) | (refine w_e [] ?_; intro J hJ; simp only []; simp [f5, f6, f7, f29, fi, fn, hdj, hel, hkj, hlj, e1, e2, e3, e4, e5, e6, hX, hM, hid', hA, hB, c1', c3', c4', w1]; (refine hJ _ _ ?_; clear hJ J; simp only [ak, reduceIte]))))
            exact hfin _ _ _ (by simp [fi]) (by simp [fn]) (by simp) (by simp) (by simp) (by simp) (by simp) (by simp) (by simp) (by simp) (by simp) hF2
          · have c4' : (F ya == 0) = false := by simpa using c4
            have hS : stp ((k : Int) + 1) F yb ya = F := by unfold stp; rw [if_neg (fun h => c4 h.2)]
            rw [hS] at hfin0
            (repeat' (first | refine awp_seq ?_ | (refine awp_skip ?_; simp only [ak, reduceIte]) | (refine awp_cond ?_; simp [f5, f6, f7, f29, fi, fn, hdj, hel, hkj, hlj, e1, e2, e3, e4, e5, e6, hX, hM, hid', hA, hB, c1', c3', c4']) | (refine w_e [] ?_; intro J hJ; simp only []; simp [f5, f6, f7, f29, fi, fn, hdj, hel, hkj, hlj, e1, e2, e3, e4, e5, e6, hX, hM, hid', hA, hB, c1', c3', c4']; (refine hJ _ _ ?_; clear hJ J; simp only [ak, reduceIte]))))
            exact hfin0 _ _ (by simp [fi]) (by simp [fn]) (by simp) (by simp) (by simp) (by simp) (by simp) (by simp) (by simp) (by simp) (by simp) rfl
        · have c3' : (F yb == (k : Int) + 1) = false := by simpa using c3
          have hS : stp ((k : Int) + 1) F yb ya = F := by unfold stp; rw [if_neg (fun h => c3 h.1)]
          rw [hS] at hfin0
          (repeat' (first | refine awp_seq ?_ | (refine awp_skip ?_; simp only [ak, reduceIte]) | (refine awp_cond ?_; simp [f5, f6, f7, f29, fi, fn, hdj, hel, hkj, hlj, e1, e2, e3, e4, e5, e6, hX, hM, hid', hA, hB, c1', c3']) | (refine w_e [] ?_; intro J hJ; simp only []; simp [f5, f6, f7, f29, fi, fn, hdj, hel, hkj, hlj, e1, e2, e3, e4, e5, e6, hX, hM, hid', hA, hB, c1', c3']; (refine hJ _ _ ?_; clear hJ J; simp only [ak, reduceIte]))))
          exact hfin0 _ _ (by simp [fi]) (by simp [fn]) (by simp) (by simp) (by simp) (by simp) (by simp) (by simp) (by simp) (by simp) (by simp) rfl
    · clear f1 f3 f5 f6 f7 f11 hG hX hxM hMn hkp hM hfar gi' gn' fr s2 mes
      rintro fr s2 ⟨gi', gn', f29, ⟨f1, f3, f5, f6, f7, f11, hG, hX, _, hxM, hMn, hkp⟩, mes, hM, hfar⟩
      rw [List.take_length, ← hls] at hfar
      have hw2 : IntKind.i64.wrap ((k : Int) + 1 + 1) = (k : Int) + 1 + 1 := wrap_i64 _ (by omega) (by omega)
      (repeat' (refine w_e [] ?_; intro J hJ; simp only []; simp [f7, hw2]; (refine hJ _ _ ?_; clear hJ J; simp only [ak, reduceIte])))
      exact hJ (g.vs.length - (k + 1)) _ _ (by omega) ⟨k + 1, mes, hlk, rfl, by simp [gi'], by simp [gn'], ⟨by simp [f1], by simp [f3], by simp [f5], by simp [f6], by simp, by simp [f11], hG, hX, hsx, hxM, hMn, hkp⟩, hM, hfar⟩
  · rintro fr s ⟨f1, f3, f11, hG, hsn, hkp⟩
    rw [List.take_length] at f3
    (repeat' (first | refine awp_seq ?_ | (refine awp_ret ?_; simp only [ak, reduceIte]; simp [f3]) | (refine w_e [] ?_; intro J hJ; simp only []; simp [f3]; (refine hJ _ _ ?_; clear hJ J; simp only [ak, reduceIte]))))
    exact ⟨rfl, hkp⟩

theorem ref_Degree (g : Gr) (n : Int) (st : St) (hv : g.vs.length ≤ 1000) (he : g.es.length ≤ 1000) (hid : idOk g.es) :
    ACalls Tryz.prog 73 [.ag (grL g), i n] st fun r st' => r = i (g.vs.countP fun v => decide (((ends g.es v).length : Int) = n) : Nat) ∧ Keeps st st' := by
  refine acalls_of_body tabOk Tryz.func73 rfl rfl Tryz.ntmps73 (rs := [.tmp 4]) rfl (by simp) ?_
  (repeat' (first | refine awp_seq ?_ | refine awp_block ?_ | (refine w_e [] ?_; intro J hJ; simp only []; simp []; (refine hJ _ _ ?_; clear hJ J; simp only [ak, reduceIte]))))
  refine awp_range 11 10 12 23 (g.vs.length) (fun j fr st2 => fr 1 = i n ∧ fr 2 = .pt st.next 0 ∧ fr 9 = .sl 0 g.vs.length (us g.vs) ∧ fr 5 = i ((g.vs.take j).countP fun v => decide (((ends g.es v).length : Int) = n) : Nat) ∧ st2.H st.next = .box 38 2 (grL g) ∧ Keeps st st2 ∧ st.next < st2.next) ?_ ?_ ?_
  · exact ⟨by simp, by simp, by simp, by simp, by simp, Keeps.new _ _, by simp⟩
  · rintro j fr st2 hlt ⟨f1, f2, f9, f5, hG, hkp, hsn⟩ fi fn JJ hJJ
    have hd := us_drop_getD g.vs j hlt
    have hct := count_take (fun v => decide (((ends g.es v).length : Int) = n)) g.vs j hlt
    have hle : (g.vs.take j).countP (fun v => decide (((ends g.es v).length : Int) = n)) ≤ j := Nat.le_trans List.countP_le_length (by simp; omega)
    generalize g.vs.getD j 0 = v at *
    generalize (g.vs.take j).countP (fun v => decide (((ends g.es v).length : Int) = n)) = c at *
    (repeat' (first | refine awp_seq ?_ | (refine w_e [] ?_; intro J hJ; simp only []; simp [f2, f9, fi, fn, hd, hG, hlt]; (try (refine hJ _ _ ?_; clear hJ J; simp only [ak, reduceIte])))))
    refine callK_ofE (ref_Ends g v _ he hid) (by simp) ?_; rintro r s3 ⟨⟨t, rfl⟩, hk3⟩
    have hn3 := hk3.next
    have hw := nat_add_one c (by omega)
    by_cases h0 : ((ends g.es v).length : Int) = n
    · have e1 : (((ends g.es v).length : Int) == n) = true := by simpa using h0
      rw [if_pos (by simpa using h0)] at hct
      (repeat' (first | (refine awp_cond ?_; simp [e1, f1, f5, hw]) | ((first | (refine w_e [] ?_; intro J hJ; simp only []) | (refine e_go ?_)); simp [e1, f1, f5, hw]; (refine hJ _ _ ?_; clear hJ J; simp only [ak, reduceIte]))))
      exact hJJ _ _ (by simp [fi]) (by simp [fn]) ⟨by simp [f1], by simp [f2], by simp [f9], by simp [hct], (hk3.H _ hsn).trans hG, hkp.trans hk3, by omega⟩
    · have e1 : (((ends g.es v).length : Int) == n) = false := by simpa using h0
      rw [if_neg (by simpa using h0)] at hct
      (repeat' (first | (refine awp_skip ?_; simp only [ak, reduceIte]) | (refine awp_cond ?_; simp [e1, f1, f5]) | (refine e_go ?_; simp [e1, f1, f5]; (refine hJ _ _ ?_; clear hJ J; simp only [ak, reduceIte]))))
      exact hJJ _ _ (by simp [fi]) (by simp [fn]) ⟨by simp [f1], by simp [f2], by simp [f9], by simp [hct, f5], (hk3.H _ hsn).trans hG, hkp.trans hk3, by omega⟩
  rintro fr st2 ⟨f1, f2, f9, f5, hG, hkp, hsn⟩
  rw [List.take_length] at f5
  (repeat' (first | refine awp_seq ?_ | (refine awp_ret ?_; simp only [ak, reduceIte]; simp [f5]) | (refine w_e [] ?_; intro J hJ; simp only []; simp [f5]; (refine hJ _ _ ?_; clear hJ J; simp only [ak, reduceIte]))))
  exact hkp

end Go.Proofs.YtomfeddgeihipaaGreat.Aw

namespace Go.Proofs.YtomfeddgeihipaaGreat.Aw
open Go Go.RowKit Go.Proofs.YtomfeddgeihipaaGreat.Pl
set_option linter.unusedSimpArgs false
set_option linter.unusedVariables false

theorem ref_Chk (g : Gr) (st : St) : ACalls Tryz.prog 24 [.ag (grL g)] st fun r st' => r = i (chk g) ∧ Keeps st st' := by
  by_cases h1 : (64 : Int) < (g.vs.length : Int)
  · have : chk g = 6 := by unfold chk; rw [if_pos (by omega)]
    refine acalls_of_body tabOk Tryz.func24 rfl rfl Tryz.ntmps24 (rs := [.tmp 2]) rfl (by simp) ?_
    (repeat' (first | refine awp_seq ?_ | (refine awp_ret ?_; simp only [ak, reduceIte]; simp [h1, this]) | (refine awp_cond ?_; simp [h1, this]) | (refine w_e [] ?_; intro J hJ; simp only []; simp [h1, this]; (refine hJ _ _ ?_; clear hJ J; simp only [ak, reduceIte]))))
    exact Keeps.new _ _
  by_cases h2 : (160 : Int) < (g.es.length : Int)
  · have : chk g = 6 := by unfold chk; rw [if_pos (by omega)]
    refine acalls_of_body tabOk Tryz.func24 rfl rfl Tryz.ntmps24 (rs := [.tmp 2]) rfl (by simp) ?_
    (repeat' (first | refine awp_seq ?_ | (refine awp_ret ?_; simp only [ak, reduceIte]; simp [h1, h2, this]) | (refine awp_cond ?_; simp [h1, h2, this]) | (refine w_e [] ?_; intro J hJ; simp only []; simp [h1, h2, this]; (refine hJ _ _ ?_; clear hJ J; simp only [ak, reduceIte]))))
    exact Keeps.new _ _
  exact ref_Check g st (by omega) (by omega)

end Go.Proofs.YtomfeddgeihipaaGreat.Aw

namespace Go.Proofs.YtomfeddgeihipaaGreat.Aw
open Go Go.RowKit Go.Proofs.YtomfeddgeihipaaGreat.Pl
set_option linter.unusedSimpArgs false
set_option linter.unusedVariables false
open Eu

section
variable {P : Program} {T : Tab} {ops : Array Oper} {M B : List Nat} {st0 : St} {J : Frm → St → Prop}
/-- An operation that writes nothing, where it alone may come next. -/
def AOne (T : Tab) (ops : Array Oper) (M : List Nat) (o : Oper) (K : Frm → St → Prop) (fr : Frm) (st : St) : Prop :=
  match wantedL ops fr o.guard with
  | some b => (b = true → match aop T (inM M o.dst) o fr st with
      | some r => r.c ∧ K (updO fr o.dst r.v) st
      | none => False) ∧ (b = false → K (updO fr o.dst (.tu [])) st)
  | none => False
theorem a_one {listed : Array Bool} {fr : Frm} {st : St} {k : Nat} (n i : Nat) {o : Oper} (h : AOne T ops M o (fun fr st => AAny P T ops M (SB B st0) J n (listed.setIfInBounds i true) fr st) fr st) (ho : ops[i]? = some o := by rfl) (hk : k = n + 1 := by rfl) (hq : quietOp o.op = true := by rfl) (hrd : (Region.ready .any ops listed == [i]) = true := by kernel_rfl) : AAny P T ops M (SB B st0) J k listed fr st := by
  subst hk
  rw [beq_iff_eq] at hrd
  refine ⟨fun h0 => (by rw [h0] at hrd; cases hrd), fun j hj => ?_⟩
  rw [hrd] at hj
  obtain rfl : j = i := by simpa using hj
  refine ⟨o, ho, ?_⟩
  have hnc : ∀ x args tys, o.op ≠ .call { callee := .value x, args := args, argTypes := tys } := by
    intro x args tys e
    rw [e] at hq
    simp [quietOp] at hq
  unfold AStep
  unfold AOne at h
  cases hw : wantedL ops fr o.guard with
  | none => rw [hw] at h; exact h
  | some b =>
    rw [hw] at h
    refine ⟨fun hb => ?_, fun hb => ?_⟩
    · have h1 := h.1 hb
      have key : (match aop T (inM M o.dst) o fr st with
        | some r => r.c ∧ Kx ops (SB B st0) j o st r.s ∧ AAny P T ops M (SB B st0) J n (listed.setIfInBounds j true) (updO fr o.dst r.v) r.s
        | none => False) := by
        cases hr : aop T (inM M o.dst) o fr st with
        | none => rw [hr] at h1; exact h1
        | some r =>
          rw [hr] at h1
          have hs := quiet_stable hq (fun l k _ => rfl) hr
          rw [hr] at hs
          injection hs with hs
          have hrs : r.s = st := by rw [hs]
          refine ⟨h1.1, ?_, ?_⟩
          · unfold Kx; rw [if_pos hq]; exact hrs
          · rw [hrs]; exact h1.2
      split
      · rename_i x args tys he
        exact absurd he (hnc _ _ _)
      · exact key
    · refine ⟨?_, h.2 hb⟩
      unfold Kx; rw [if_pos hq]
end

theorem chk_smallS {m : Mp} (h : rchk m = 0) : m.g.vs.length ≤ 64 := by
  obtain ⟨_, _, h3, _⟩ := chk_good (rchk_zero h).1
  exact h3
theorem ref_rCheckS (m : Mp) (st : St) (hr : m.rots.length ≤ 1000) (he : m.g.es.length ≤ 1000) : ACalls Tryz.prog 67 [.ag (mpL m)] st fun r st' => r = i (rchk m) ∧ Keeps st st' := by
  by_cases hv : m.g.vs.length ≤ 1000
  · exact ref_rCheck m st hv he hr
  · have hc : chk m.g = 6 := by unfold chk; rw [if_pos (by omega)]
    have hrc : rchk m = 6 := by rw [rchk_g (by rw [hc]; decide), hc]
    refine acalls_of_body tabOk Tryz.func67 rfl rfl Tryz.ntmps67 (rs := [.tmp 2]) rfl (by simp) ?_
    (repeat' (first | refine awp_seq ?_ | (refine w_e [] ?_; intro J hJ; simp only []; simp []; (try (refine hJ _ _ ?_; clear hJ J; simp only [ak, reduceIte])))))
    refine callK_ofE (ref_Chk m.g _) (by simp) ?_; rintro r s1 ⟨rfl, hk1⟩
    rw [hc]
    (repeat' (first | refine awp_seq ?_ | (refine awp_ret ?_; simp only [ak, reduceIte]; simp [hrc]) | (refine awp_cond ?_; simp [hrc]) | ((first | (refine w_e [] ?_; intro J hJ; simp only []) | (refine e_go ?_)); simp [hrc]; (refine hJ _ _ ?_; clear hJ J; simp only [ak, reduceIte]))))
    exact (Keeps.new _ _).trans hk1

noncomputable def OfC (m : Mp) (M : Nat) (F : Nat) : List LV := [.mp M, i m.g.vs.length, i m.g.es.length, i F, i (ncl (Reach m.g.es) m.g.vs : Nat), i (Aw.gn m : Nat), i (refGirth m.g)]
def OfP (m : Mp) (st : St) (r : LV) (st' : St) : Prop := ∃ M R, r = .ag (OfC m M R.length) ∧ st.next ≤ M ∧ M < st'.next ∧ Keeps st st' ∧ st'.H M = .map false [.i64] (addAll [] (degs m.g)) ∧ TabB m.g.vs.length (addAll [] (degs m.g)) ∧ Lead (fc m m.g.es) (darts m.g.es) (darts m.g.es).length R
set_option maxHeartbeats 2000000 in
theorem sOf (m : Mp) (h : MapOk m) (st : St) (hv : m.g.vs.length ≤ 100) (he : m.g.es.length ≤ 400) :
    ACalls Tryz.prog 68 [.ag (mpL m)] st (OfP m st) := by
  have hid : idOk m.g.es := fun x hx => by have := h.g.pos x hx; omega
  refine acalls_of_body tabOk Tryz.func68 rfl rfl Tryz.ntmps68 (rs := [.cell 2 88]) rfl (by simp) ?_
  have e1 : ¬ st.next = st.next + 1 := by omega
  (repeat' (first | refine awp_seq ?_ | (refine w_e [] ?_; intro J hJ; simp only []; simp []; (refine hJ _ _ ?_; clear hJ J; simp only [ak, reduceIte]))))
  (refine w_s [] [st.next] [(0, true), (1, true), (3, true), (4, true), (5, true), (6, true), (7, true), (8, true), (9, true), (10, true), (11, true), (14, true), (15, true), (18, true), (20, true), (21, true), (2, true), (12, true), (13, true), (16, true), (17, true), (19, true), (22, true), (23, true), (24, false)] ?_; intro J hJ; simp [e1])
  refine dcallK_ofE (Degrees m.g _ (by omega) (by omega) hid) (by simp) ?_; rintro r s1 ⟨M, rfl, hM0, hM1, hk1, hM, hT⟩
  have hn1 := hk1.next
  simp only [new_next] at hn1 hM0
  have hG1 : s1.H st.next = .box 85 3 (mpL m) := by rw [hk1.H _ (by simp; omega)]; simp [e1]
  have hC1 : s1.H (st.next + 1) = .box 88 7 [.atom (.map none), i 0, i 0, i 0, i 0, i 0, i 0] := by rw [hk1.H _ (by simp)]; simp
  refine ⟨fun _ => by simp [hG1, e1], ?_⟩
  (refine d_go ?_; simp [hG1, e1])
  refine dcallK_ofE (Faces m h _ (by omega) (by omega)) (by simp) ?_; rintro r s2 ⟨⟨t, R, rfl, hR⟩, hk2⟩
  have hn2 := hk2.next
  have hG2 := (hk2.H st.next (by omega)).trans hG1
  refine ⟨fun _ => by simp [hG2, e1], ?_⟩
  (refine d_go ?_; simp [hG2, e1])
  refine dcallK_ofE (Parts m.g _ h.g.toGood (by omega) (by omega)) (by simp) ?_; rintro r s3 ⟨⟨t3, R3, rfl, hP⟩, hk3⟩
  have hn3 := hk3.next
  have hG3 := (hk3.H st.next (by omega)).trans hG2
  have l3 := hP.all
  refine ⟨fun _ => by simp [hG3, e1], ?_⟩
  (refine d_go ?_; simp [hG3, e1, l3])
  refine dcallK_ofE (Genus m h _ (by omega) (by omega)) (by simp) ?_; rintro r s4 ⟨rfl, hk4⟩
  have hn4 := hk4.next
  have hG4 := (hk4.H st.next (by omega)).trans hG3
  refine ⟨fun _ => by simp [hG4, e1], ?_⟩
  (refine d_go ?_; simp [hG4, e1, l3])
  refine dcallK_ofE (Girth m.g (m.g.vs.length + 1) (refGirth m.g) _ (by omega) (by omega) (by omega) (girth_same h.g.toGood (by omega) (by omega))) (by simp) ?_; rintro r s5 ⟨rfl, hk5⟩
  have hn5 := hk5.next
  have hG5 := (hk5.H st.next (by omega)).trans hG4
  have hC5 := (hk5.H _ (by omega)).trans ((hk4.H _ (by omega)).trans ((hk3.H _ (by omega)).trans ((hk2.H _ (by omega)).trans hC1)))
  have hM5 := (hk5.H _ (by omega)).trans ((hk4.H _ (by omega)).trans ((hk3.H _ (by omega)).trans ((hk2.H _ (by omega)).trans hM)))
  refine ⟨fun _ => by simp [hG5, e1], ?_⟩
  (refine d_go ?_; simp [hG5, hC5, e1, l3]; (refine hJ _ _ ?_; clear hJ J; simp only [ak, reduceIte]))
  (repeat' (refine awp_ret ?_; simp only [ak, reduceIte]; simp []))
  refine ⟨M, R, rfl, by omega, by simp; omega, ?_, ?_, hT, hR⟩
  · exact ((((((((Keeps.new _ _).trans (Keeps.new _ _)).trans hk1).trans hk2).trans hk3).trans hk4).trans hk5).set (by omega) _)
  · rw [set_H, if_neg (by omega)]; exact hM5

end Go.Proofs.YtomfeddgeihipaaGreat.Aw
