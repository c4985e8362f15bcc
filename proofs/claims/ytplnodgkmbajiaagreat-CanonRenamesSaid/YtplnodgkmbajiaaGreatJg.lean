/- canon: a walker's turn. -/
import Derived.Test.YtplnodgkmbajiaaGreatJf
import Derived.Test.YtplnodgkmbajiaaGreatAwZ
import Derived.Test.YtplnodgkmbajiaaGreatAwFn
import Derived.Test.YtplnodgkmbajiaaGreatAwTd
namespace Go.Proofs.YtplnodgkmbajiaaGreat.Aw
open Go Go.RowKit Go.Proofs.YtplnodgkmbajiaaGreat.Pl
set_option linter.unusedSimpArgs false
set_option linter.unusedVariables false
theorem WkS.keeps {s0 : St} {m : Mp} {q mv me : Nat} {V E F O : List Int} {st st' : St} (h : WkS s0 m q mv me V E F O st) (hk : Keeps st st') : WkS s0 m q mv me V E F O st' := by
  obtain ⟨⟨tf, to, hb, hf, ho, hft, ⟨lf, lo⟩, gf, go⟩, hv, he, hne, ⟨lq, lv, le⟩, g, hkp, hp⟩ := h
  have hn := hk.next
  exact ⟨⟨tf, to, (hk.H _ lq).trans hb, (hk.H _ lf).trans hf, (hk.H _ lo).trans ho, hft, ⟨by omega, by omega⟩, gf, go⟩, (hk.H _ lv).trans hv, (hk.H _ le).trans he, hne, ⟨by omega, by omega, by omega⟩, g, hkp.trans hk, hp⟩
theorem WkS.setE {s0 : St} {m : Mp} {q mv me : Nat} {V E F O : List Int} {st : St} (h : WkS s0 m q mv me V E F O st) (E' : List Int) : WkS s0 m q mv me V E' F O (st.set me (.map false [.u32] (nmL E'))) := by
  obtain ⟨⟨tf, to, hb, hf, ho, hft, hl, gf, go⟩, hv, he, hne, l, ⟨gq, gv, ge⟩, hkp, hp⟩ := h
  have n1 : ¬ q = me := by rintro rfl; rw [hb] at he; cases he
  have n2 : ¬ tf = me := by rintro rfl; rw [hf] at he; cases he
  have n3 : ¬ to = me := by rintro rfl; rw [ho] at he; cases he
  refine ⟨⟨tf, to, ?_, ?_, ?_, hft, hl, gf, go⟩, ?_, ?_, hne, l, ⟨gq, gv, ge⟩, hkp.set ge _, hp⟩
  · rw [set_H, if_neg n1]; exact hb
  · rw [set_H, if_neg n2]; exact hf
  · rw [set_H, if_neg n3]; exact ho
  · rw [set_H, if_neg hne]; exact hv
  · rw [set_H, if_pos rfl]
theorem WkS.setV {s0 : St} {m : Mp} {q mv me : Nat} {V E F O : List Int} {st : St} (h : WkS s0 m q mv me V E F O st) (V' : List Int) : WkS s0 m q mv me V' E F O (st.set mv (.map false [.u32] (nmL V'))) := by
  obtain ⟨⟨tf, to, hb, hf, ho, hft, hl, gf, go⟩, hv, he, hne, l, ⟨gq, gv, ge⟩, hkp, hp⟩ := h
  have n1 : ¬ q = mv := by rintro rfl; rw [hb] at hv; cases hv
  have n2 : ¬ tf = mv := by rintro rfl; rw [hf] at hv; cases hv
  have n3 : ¬ to = mv := by rintro rfl; rw [ho] at hv; cases hv
  refine ⟨⟨tf, to, ?_, ?_, ?_, hft, hl, gf, go⟩, ?_, ?_, hne, l, ⟨gq, gv, ge⟩, hkp.set gv _, hp⟩
  · rw [set_H, if_neg n1]; exact hb
  · rw [set_H, if_neg n2]; exact hf
  · rw [set_H, if_neg n3]; exact ho
  · rw [set_H, if_pos rfl]
  · rw [set_H, if_neg (fun e => hne e.symm)]; exact he
def eN (D : List Int) : List Int := nms [] (D.map fun d => d / 2)
theorem eN_snoc (D : List Int) (x : Int) : eN (D ++ [x]) = enm (eN D) (x / 2) := by unfold eN; rw [List.map_append]; exact nms_snoc _ _ _
theorem tel_snoc (m : Mp) (h : Int) (D : List Int) (x : Int) : tel m h (D ++ [x]) = tel m h D ++ [num (eN (D ++ [x])) (x / 2), num (wV m.g.es h (D ++ [x])) (awy m.g.es x)] := by
  unfold tel eN
  rw [told_snoc, told_stable]
  · exact wV_pre _ _ _ _
  · rw [List.map_append, nms_append]; exact nms_pre _ _
  · exact fun d hd => (mem_nms _).2 (.inr (List.mem_map.2 ⟨d, hd, rfl⟩))
  · exact fun d hd => (mem_nms _).2 (.inr (List.mem_map.2 ⟨d, hd, rfl⟩))
theorem nms_le (xs : List Int) : ∀ L : List Int, (nms L xs).length ≤ L.length + xs.length := by
  induction xs with
  | nil => intro L; exact Nat.le_refl _
  | cons x xs ih =>
    intro L
    have h1 := ih (enm L x)
    have h2 : (enm L x).length ≤ L.length + 1 := by unfold enm; split <;> simp
    show (nms (enm L x) xs).length ≤ _
    rw [List.length_cons]; omega
theorem wF_le (es : List Ed) (h : Int) (F D : List Int) (x : Int) : (wF es h F D x).length ≤ F.length + 1 := by unfold wF; split <;> simp
theorem wFs_le (es : List Ed) (h : Int) : ∀ (r F D : List Int), (wFs es h F D r).length ≤ F.length + r.length
  | [], F, D => by simp [wFs]
  | x :: r, F, D => by
    have h1 := wFs_le es h r (wF es h F D x) (D ++ [x])
    have h2 := wF_le es h F D x
    rw [wFs, List.length_cons]; omega
theorem eN_le (D : List Int) : (eN D).length ≤ D.length := by
  have := nms_le (D.map fun d => d / 2) []
  simpa [eN] using this
theorem wV_le (es : List Ed) (h : Int) (D : List Int) : (wV es h D).length ≤ D.length + 1 := by
  have := nms_le (D.map (awy es)) [h]
  simp only [List.length_map, List.length_singleton] at this
  unfold wV; omega
def WkM (s0 : St) (m : Mp) (q mv me : Nat) (h : Int) (F D : List Int) (st : St) : Prop := WkS s0 m q mv me (wV m.g.es h D) (eN D) F (tel m h D) st
set_option maxHeartbeats 2000000 in
theorem cTurn (s0 : St) (m : Mp) (ho : MapOk m) (q mv me : Nat) (h d : Int) (F D : List Int) (st : St) (hv : m.g.vs.length ≤ 1000) (he : m.g.es.length ≤ 1000) (hd : d ∈ darts m.g.es) (hD : D.length ≤ 10000) (hF : F.length ≤ 10000) (hW : WkM s0 m q mv me h F D st) :
    ACalls Tryz.prog 80 [.pt q 0, u d] st fun _ st' => WkM s0 m q mv me h (wFs m.g.es h F D (trn m d)) (D ++ trn m d) st' := by
  obtain ⟨ht, hdt⟩ := turn_of_dart ho hd
  have hsm : ∀ t ∈ m.rots, small t := fun t ht => by have := ho.row_le ht; unfold small; omega
  have hrl : m.rots.length ≤ 1000 := by rw [ho.len]; exact hv
  have htl := ho.row_le ht
  have hin : ∀ x ∈ turnOf m.rots d, x ∈ darts m.g.es := fun x hx => ho.turn_dart ht hx
  have htr : ∀ j, j < (turnOf m.rots d).length → (trn m d).getD j 0 = (turnOf m.rots d).getD (((turnOf m.rots d).idxOf d + j) % (turnOf m.rots d).length) 0 := fun j hj => rt_get0 _ _ _ (Nat.le_of_lt (List.idxOf_lt_length_of_mem hdt)) hj
  have htrl : (trn m d).length = (turnOf m.rots d).length := rt_length _ _
  have hil := List.idxOf_lt_length_of_mem hdt
  have hgi := gi_mem hdt
  have hst := hsm _ ht
  obtain ⟨⟨tf0, to0, hb0, _⟩, _, _, _, ⟨lq0, _, _⟩, _⟩ := id hW
  refine qO tabOk Tryz.func80 rfl rfl Tryz.ntmps80 (rs := []) rfl (by simp) ?_
  (repeat' (first | refine qS ?_ | (refine w_e [] ?_; intro J hJ; simp only []; simp [hb0])))
  refine qE (rTurn m d _ hrl hsm) (by simp) ?_; rintro r s1 ⟨⟨t1, rfl⟩, hk1⟩
  generalize turnOf m.rots d = t at *
  generalize t.idxOf d = k at *
  generalize trn m d = rr at *
  (repeat' (first | refine qS ?_ | ((first | (refine w_e [] ?_; intro J hJ; simp only []) | (refine e_go ?_)); simp []; (try (refine hJ _ _ ?_; clear hJ J; simp only [ak, reduceIte])))))
  refine qE (Index t t1 d _ hst) (by simp) ?_; rintro r _ ⟨rfl, rfl⟩
  rw [hgi]
  (repeat' (first | refine qS ?_ | refine qB ?_ | ((first | (refine w_e [] ?_; intro J hJ; simp only []) | (refine e_go ?_)); simp []; (refine hJ _ _ ?_; clear hJ J; simp only [ak, reduceIte]))))
  refine awp_range 26 25 27 81 (t.length) (fun j fr st2 => fr 0 = .pt q 0 ∧ fr 4 = .sl t1 t.length (us t) ∧ fr 5 = i k ∧ WkM s0 m q mv me h (wFs m.g.es h F D (rr.take j)) (D ++ rr.take j) st2) ?_ ?_ ?_
  · exact ⟨by simp, by simp, by simp, by simpa [wFs, WkM] using WkS.keeps hW hk1⟩
  · rintro j fr s hlt ⟨f0, f4, f5, hWj⟩ fi fn JJ hJJ
    have hj := htr j hlt
    have htk : rr.take (j + 1) = rr.take j ++ [rr.getD j 0] := by rw [getD_lt _ _ (by omega)]; exact List.take_succ_eq_append_getElem (by omega)
    have hw1 : IntKind.i64.wrap ((k : Int) + (j : Int)) = (k : Int) + (j : Int) := wrap_i64 _ (by omega) (by omega)
    have hmod : ((k : Int) + (j : Int)).tmod (t.length : Int) = (((k + j) % t.length : Nat) : Int) := by rw [Int.tmod_eq_emod_of_nonneg (by omega)]; rfl
    have hml : (k + j) % t.length < t.length := Nat.mod_lt _ (by omega)
    have hdr := qG t _ hml
    have hxin := hin (t.getD ((k + j) % t.length) 0) (getD_mem hml)
    have hpos : ¬ t.length = 0 := by omega
    rw [hj] at htk
    have hsn := wFs_snoc m.g.es h (t.getD ((k + j) % t.length) 0) (rr.take j) F D
    rw [← htk] at hsn
    have hDl : (D ++ rr.take j).length ≤ 12000 := by rw [List.length_append, List.length_take]; omega
    have hFl : (wFs m.g.es h F D (rr.take j)).length ≤ 12000 := by have := wFs_le m.g.es h (rr.take j) F D; rw [List.length_take] at this; omega
    have hDD : D ++ rr.take (j + 1) = (D ++ rr.take j) ++ [t.getD ((k + j) % t.length) 0] := by rw [htk]; simp
    have h1 := dart_range ho hxin
    generalize (k + j) % t.length = kk at *
    generalize t.getD kk 0 = x at *
    simp only [hDD, hsn] at hJJ
    clear hDD hj htk hsn
    generalize D ++ rr.take j = Dj at *
    generalize wFs m.g.es h F D (rr.take j) = Fj at *
    obtain ⟨⟨tf, to, hb, _⟩, _, _, _, ⟨lq, _, _⟩, _⟩ := id hWj
    (repeat' (first | refine qS ?_ | (refine w_e [] ?_; intro J hJ; simp only []; simp [f0, f4, f5, fi, fn, hw1, hmod, hdr, hml, hpos, hlt]; (try (refine hJ _ _ ?_; clear hJ J; simp only [ak, reduceIte])))))
    refine qE (cEnds m q mv me _ _ x _ ho.g.ids he (by omega) lq hb) (by simp) ?_; rintro r s2 ⟨rfl, hk2⟩
    have hW2 := WkS.keeps hWj hk2
    obtain ⟨⟨tf2, to2, hb2, _⟩, _, hme2, _, ⟨lq2, _, _⟩, _⟩ := id hW2
    have q1 : ¬ q = me := by rintro rfl; rw [hb2] at hme2; cases hme2
    have hel := eN_le Dj
    have hvl := wV_le m.g.es h Dj
    (repeat' (first | refine qS ?_ | (refine e_go ?_; simp [hxin, f0]; (refine hJ _ _ ?_; clear hJ J; simp only [ak, reduceIte]))))
    (refine w_s [] [q] [(0, true), (1, true), (2, true), (3, true), (4, true), (5, true), (6, false), (7, true), (8, true), (9, true), (10, true), (11, true)] ?_; intro J hJ; simp [f0, hb2])
    refine qD (Edge x _) (by simp) ?_; rintro r _ ⟨rfl, rfl⟩
    refine ⟨fun h => by first | (cases h; done) | simp [hb2], ?_⟩
    (refine d_go ?_; simp [f0, hb2])
    refine qD (cNamed (eN Dj) (x / 2) me _ (by omega) hme2) (by simp) ?_; rintro r _ ⟨rfl, rfl⟩
    refine ⟨fun h => by first | (cases h; done) | simp [hb2, q1], ?_⟩
    have hW3 := WkS.setE hW2 (enm (eN Dj) (x / 2))
    generalize hs3 : (St.set _ me _ : St) = s3 at *
    obtain ⟨⟨tf3, to3, hb3, _⟩, hmv3, _, _, ⟨lq3, _, _⟩, _⟩ := id hW3
    (refine d_go ?_; simp [f0, hb3]; (refine hJ _ _ ?_; clear hJ J; simp only [ak, reduceIte]))
    (repeat' (first | refine qS ?_ | (refine w_e [] ?_; intro J hJ; simp only []; simp [f0, hb3])))
    refine qE (cNamed (wV m.g.es h Dj) (awy m.g.es x) mv _ (by omega) hmv3) (by simp) ?_; rintro r _ ⟨rfl, rfl⟩
    have hW4 := WkS.setV hW3 (enm (wV m.g.es h Dj) (awy m.g.es x))
    generalize hs4 : (St.set s3 mv _ : St) = s4 at *
    have htel := tel_snoc m h Dj x
    have hO : (tel m h Dj).length ≤ 30000 := by rw [tel_len]; omega
    by_cases hin : awy m.g.es x ∈ wV m.g.es h Dj
    · have ewF : wF m.g.es h Fj Dj x = Fj := by unfold wF; rw [if_pos hin]
      (repeat' (first | refine qS ?_ | (refine qK ?_; simp only [ak, reduceIte]) | (refine qC ?_; simp [hin, f0]) | ((first | (refine w_e [] ?_; intro J hJ; simp only []) | (refine e_go ?_)); simp [hin, f0]; (try (refine hJ _ _ ?_; clear hJ J; simp only [ak, reduceIte])))))
      refine qE (cTell s0 m q mv me _ _ _ _ [num (enm (eN Dj) (x / 2)) (x / 2), num (enm (wV m.g.es h Dj) (awy m.g.es x)) (awy m.g.es x)] s4.next _ (by simp only [List.length_cons, List.length_nil]; omega) (WkS.keeps hW4 (Keeps.new _ _))) (by simp) ?_; rintro r s5 hW5
      rw [← eN_snoc, ← wV_snoc, ← htel] at hW5
      rw [ewF] at hJJ
      (repeat' (refine e_go ?_; simp []; (refine hJ _ _ ?_; clear hJ J; simp only [ak, reduceIte])))
      exact hJJ _ _ (by simp [fi]) (by simp [fn]) ⟨by simp [f0], by simp [f4], by simp [f5], hW5⟩
    · have ewF : wF m.g.es h Fj Dj x = Fj ++ [tw x] := by unfold wF; rw [if_neg hin]
      obtain ⟨⟨tf4, to4, hb4, hf4, ho4, hft, ⟨lf4, lo4⟩, gf4, go4⟩, hv4, he4, hne4, ⟨lq4, lv4, le4⟩, ⟨gq4, gv4, ge4⟩, hk4, hp4⟩ := id hW4
      have c1 : ¬ q = s4.next := by omega
      have c2 : ¬ tf4 = s4.next := by omega
      have c3 : ¬ q = tf4 := by rintro rfl; rw [hb4] at hf4; cases hf4
      have c4 : ¬ tf4 = 0 := by omega
      have c5 : ¬ q = s4.next + 1 := by omega
      (repeat' (first | refine qS ?_ | (refine qC ?_; simp [hin, f0]) | ((first | (refine w_e [] ?_; intro J hJ; simp only []) | (refine e_go ?_)); simp [hin, f0]; (refine hJ _ _ ?_; clear hJ J; simp only [ak, reduceIte]))))
      (refine w_s [] [q] [(0, true), (1, true), (2, true), (3, true), (4, true), (5, true), (6, true), (7, true), (8, false), (9, true), (10, true), (11, false)] ?_; intro J hJ; simp [f0, hb4, hf4, c1, c2, c3, c4, c5])
      refine qD (Twin x _ (by omega) (by omega)) (by simp) ?_; rintro r s5 ⟨rfl, h5⟩
      rw [h5]; clear h5 s5
      refine ⟨fun h => by first | (cases h; done) | simp [hb4, f0], ?_⟩
      (refine d_go ?_; simp [f0, hb4, hf4, c1, c2, c3, c4, c5]; (repeat refine ca ?_); (refine hJ _ _ ?_; clear hJ J; simp only [ak, reduceIte]))
      have e0 : us Fj ++ [LV.atom (Value.int IntKind.u32 (tw x))] = us (Fj ++ [tw x]) := by simp
      rw [e0]
      have c6 : ¬ to4 = tf4 := fun e => hft e.symm
      have c7 : ¬ to4 = q := by rintro rfl; rw [hb4] at ho4; cases ho4
      have c8 : ¬ mv = q := by rintro rfl; rw [hb4] at hv4; cases hv4
      have c9 : ¬ me = q := by rintro rfl; rw [hb4] at he4; cases he4
      have c10 : ¬ mv = tf4 := by rintro rfl; rw [hf4] at hv4; cases hv4
      have c11 : ¬ me = tf4 := by rintro rfl; rw [hf4] at he4; cases he4
      have hW5 : WkS s0 m q mv me (enm (wV m.g.es h Dj) (awy m.g.es x)) (enm (eN Dj) (x / 2)) (Fj ++ [tw x]) (tel m h Dj) ((((s4.new (LObj.own 29 1 1)).set tf4 LObj.dead).new (LObj.own 29 1 (Fj.length + 1))).set q
          (LObj.box 97 7 (wkCells m mv me (.sl (s4.next + 1) (Fj.length + 1) (us (Fj ++ [tw x]))) (.sl to4 (tel m h Dj).length (us (tel m h Dj)))))) := by
        refine ⟨⟨s4.next + 1, to4, by simp, ?_, ?_, by omega, ?_, by omega⟩, ?_, ?_, hne4, ?_, ⟨gq4, gv4, ge4⟩, ?_, hp4⟩
        · simp [show ¬ s4.next + 1 = q by omega]
        · simp [c7, show ¬ to4 = s4.next + 1 by omega, c6, show ¬ to4 = s4.next by omega, ho4]
        · simp; omega
        · simp [c8, show ¬ mv = s4.next + 1 by omega, c10, show ¬ mv = s4.next by omega, hv4]
        · simp [c9, show ¬ me = s4.next + 1 by omega, c11, show ¬ me = s4.next by omega, he4]
        · simp; omega
        · exact (((hk4.trans (Keeps.new _ _)).set (by omega) _).trans (Keeps.new _ _)).set (by omega) _
      simp only [wkCells, grL, List.cons_append, List.nil_append] at hW5
      generalize hs5 : (St.set _ q _ : St) = s5 at *
      (repeat' (refine w_e [] ?_; intro J hJ; simp only []; simp [f0]))
      refine qE (cTell s0 m q mv me _ _ _ _ [num (enm (eN Dj) (x / 2)) (x / 2), num (enm (wV m.g.es h Dj) (awy m.g.es x)) (awy m.g.es x)] s5.next _ (by simp only [List.length_cons, List.length_nil]; omega) (WkS.keeps hW5 (Keeps.new _ _))) (by simp) ?_; rintro r s6 hW6
      rw [← eN_snoc, ← wV_snoc, ← htel, ← ewF] at hW6
      (repeat' (refine e_go ?_; simp []; (refine hJ _ _ ?_; clear hJ J; simp only [ak, reduceIte])))
      exact hJJ _ _ (by simp [fi]) (by simp [fn]) ⟨by simp [f0], by simp [f4], by simp [f5], hW6⟩
  · rintro fr s ⟨f0, f4, f5, hWj⟩
    rw [List.take_of_length_le (by omega)] at hWj
    skip
    exact ⟨trivial, hWj⟩
end Go.Proofs.YtplnodgkmbajiaaGreat.Aw
namespace Go.Proofs.YtplnodgkmbajiaaGreat.Aw
open Go Go.RowKit Go.Proofs.YtplnodgkmbajiaaGreat.Pl Go.Proofs.YtplnodgkmbajiaaGreat.Eu
set_option linter.unusedSimpArgs false
set_option linter.unusedVariables false
def nxt (hs : List Int) (i : Nat) : Nat := if i + 1 < hs.length ∧ hs.getD (i + 1) 0 = hs.getD i 0 then i + 1 else hs.idxOf (hs.getD i 0)
theorem Pat.nxt {xs ys : List Int} (h : Pat xs ys) {i : Nat} (hi : i < xs.length) : Aw.nxt xs i = Aw.nxt ys i := by
  unfold Aw.nxt
  rw [← h.idx hi, ← h.1]
  by_cases h1 : i + 1 < xs.length
  · simp only [h1, true_and, h.2 (i + 1) i h1 hi]
  · simp only [h1, false_and]
theorem getD_app (a b : List Int) (k : Nat) : (a ++ b).getD k 0 = if k < a.length then a.getD k 0 else b.getD (k - a.length) 0 := by
  rw [List.getD_eq_getElem?_getD, List.getElem?_append]
  split <;> rw [List.getD_eq_getElem?_getD]
def Grp (m : Mp) (D : List Int) : Prop := ∀ i, i < D.length → sg m (D.getD i 0) = D.getD (nxt (D.map (hom m.g.es)) i) 0
theorem nxt_lt {hs : List Int} {i : Nat} (hi : i < hs.length) : nxt hs i < hs.length := by
  unfold nxt
  split
  · rename_i h; exact h.1
  · exact List.idxOf_lt_length_of_mem (getD_mem hi)
theorem Grp.turn {m : Mp} (h : MapOk m) {D : List Int} (hg : Grp m D) {v d : Int} (hd : d ∈ ends m.g.es v) (hnew : ∀ z ∈ D, hom m.g.es z ≠ v) : Grp m (D ++ trn m d) := by
  have hc := trn_cyc h (ends_dart hd)
  have hp := trn_perm h hd
  have hv : ∀ y ∈ trn m d, hom m.g.es y = v := fun y hy => hom_of h.g.ids (hp.mem_iff.1 hy)
  obtain ⟨p, hp0, hL, h1, h2⟩ := hc
  have hrl : (trn m d).length = p := by rw [hL]; simp
  have hrg : ∀ k, k < p → (trn m d).getD k 0 = it (sg m) k d := fun k hk => by
    rw [getD_lt _ _ (by omega)]
    simp only [hL, List.getElem_map, List.getElem_range]
  generalize trn m d = r at *
  intro i hi
  rw [List.length_append] at hi
  rw [List.map_append]
  have hml : (D.map (hom m.g.es)).length = D.length := by simp
  have hrm : ∀ k, k < p → (r.map (hom m.g.es)).getD k 0 = v := fun k hk => by rw [getD_map _ _ (by omega)]; exact hv _ (getD_mem (by omega))
  rcases Nat.lt_or_ge i D.length with hiD | hiD
  · have e1 : nxt (D.map (hom m.g.es) ++ r.map (hom m.g.es)) i = nxt (D.map (hom m.g.es)) i := by
      have hin : hom m.g.es (D.getD i 0) ∈ D.map (hom m.g.es) := List.mem_map.2 ⟨_, getD_mem hiD, rfl⟩
      have ei : (D.map (hom m.g.es) ++ r.map (hom m.g.es)).getD i 0 = hom m.g.es (D.getD i 0) := by rw [getD_app, hml, if_pos hiD, getD_map _ _ hiD]
      have ei2 : (D.map (hom m.g.es)).getD i 0 = hom m.g.es (D.getD i 0) := getD_map _ _ hiD
      have eL : (D.map (hom m.g.es) ++ r.map (hom m.g.es)).length = D.length + p := by rw [List.length_append, hml, List.length_map, hrl]
      unfold nxt
      rw [ei, ei2, List.idxOf_append, if_pos hin, eL, hml]
      rcases Nat.lt_or_ge (i + 1) D.length with h3 | h3
      · have e3 : (D.map (hom m.g.es) ++ r.map (hom m.g.es)).getD (i + 1) 0 = (D.map (hom m.g.es)).getD (i + 1) 0 := by rw [getD_app, hml, if_pos h3]
        rw [e3]
        simp only [h3, show i + 1 < D.length + p by omega, true_and]
      · have e3 : (D.map (hom m.g.es) ++ r.map (hom m.g.es)).getD (i + 1) 0 = v := by rw [getD_app, hml, if_neg (by omega), show i + 1 - D.length = 0 by omega, hrm 0 hp0]
        rw [e3, if_neg, if_neg]
        · rintro ⟨h5, _⟩; omega
        · rintro ⟨_, h5⟩; exact hnew _ (getD_mem hiD) h5.symm
    have hlt := nxt_lt (hs := D.map (hom m.g.es)) (i := i) (by simpa using hiD)
    rw [hml] at hlt
    rw [e1, getD_app, getD_app, if_pos hiD, if_pos hlt]
    exact hg i hiD
  · have hk : i - D.length < p := by omega
    generalize hke : i - D.length = k at *
    obtain rfl : i = D.length + k := by omega
    have e0 : (D.map (hom m.g.es) ++ r.map (hom m.g.es)).getD (D.length + k) 0 = v := by
      rw [getD_app, hml, if_neg (by omega), show D.length + k - D.length = k by omega, hrm k hk]
    have hni : v ∉ D.map (hom m.g.es) := fun hm => by
      obtain ⟨z, hz, e⟩ := List.mem_map.1 hm
      exact hnew z hz e
    rw [getD_app, if_neg (by omega), show D.length + k - D.length = k by omega, hrg k hk, ← it_succ (sg m) k d]
    unfold nxt
    rw [e0]
    rcases Nat.lt_or_ge (k + 1) p with h3 | h3
    · rw [if_pos, getD_app, if_neg (by omega), show D.length + k + 1 - D.length = k + 1 by omega, hrg _ h3]
      refine ⟨by rw [List.length_append, hml, List.length_map, hrl]; omega, ?_⟩
      rw [getD_app, hml, if_neg (by omega), show D.length + k + 1 - D.length = k + 1 by omega, hrm _ h3]
    · obtain rfl : k + 1 = p := by omega
      rw [if_neg, List.idxOf_append, if_neg hni, h1]
      · have e2 : (r.map (hom m.g.es)).idxOf v = 0 := by
          have h5 := hrm 0 hp0
          cases hr : r.map (hom m.g.es) with
          | nil => rw [List.map_eq_nil_iff] at hr; rw [hr] at hrl; simp at hrl
          | cons y l =>
            rw [hr] at h5
            simp at h5
            rw [h5]; simp
        rw [e2, hml, getD_app, if_neg (by omega), show 0 + D.length - D.length = 0 by omega, hrg 0 hp0]; rfl
      · rintro ⟨h5, _⟩
        rw [List.length_append, hml, List.length_map, hrl] at h5; omega
theorem WSt.grp {m : Mp} (ho : MapOk m) {h d : Int} (hd : d ∈ ends m.g.es h) {k : Nat} {F D : List Int} (s : WSt m h d k F D) : Grp m D := by
  induction s with
  | start => intro i hi; simp at hi
  | turn s hk ih =>
    rename_i k F D
    have hI := s.inv ho hd
    have hat := hI.at_ k hk
    refine ih.turn ho hat fun z hz e => ?_
    obtain ⟨j, hj, hjl, hz⟩ := (hI.mem z).1 hz
    rw [hom_of ho.g.ids hz] at e
    have hn : (wV m.g.es h D).Nodup := nms_nodup _ (by simp)
    have := nodup_idx hn (by rw [← hI.len]; exact hjl) (by rw [← hI.len]; exact hk) e
    omega
theorem WSt.head {m : Mp} (ho : MapOk m) {h d : Int} (hd : d ∈ ends m.g.es h) {k : Nat} {F D : List Int} (s : WSt m h d k F D) : F.getD 0 0 = d ∧ 0 < F.length ∧ (0 < k → D.getD 0 0 = d ∧ 0 < D.length) := by
  induction s with
  | start => exact ⟨rfl, by simp, fun h => by omega⟩
  | turn s hk ih =>
    rename_i k F D
    obtain ⟨h1, h2, h3⟩ := ih
    obtain ⟨X, hX⟩ := wFs_pre m.g.es h (trn m (F.getD k 0)) F D
    refine ⟨by rw [hX, getD_app, if_pos h2, h1], by rw [hX]; simp; omega, fun _ => ?_⟩
    rcases Nat.eq_zero_or_pos k with h0 | h0
    · subst h0
      cases s
      have hc := trn_cyc ho (ends_dart hd)
      obtain ⟨r, hr⟩ := Aw.IsCyc.head hc
      simp [hr]
    · obtain ⟨h4, h5⟩ := h3 h0
      exact ⟨by rw [getD_app, if_pos h5, h4], by simp; omega⟩
theorem WEnd.head {m : Mp} (ho : MapOk m) {h d : Int} (hd : d ∈ ends m.g.es h) {D : List Int} (e : WEnd m h d D) : D.getD 0 0 = d ∧ 0 < D.length := by
  obtain ⟨k, F, s, hk⟩ := e
  obtain ⟨_, h2, h3⟩ := s.head ho hd
  exact h3 (by omega)
theorem WEnd.grp {m : Mp} (ho : MapOk m) {h d : Int} (hd : d ∈ ends m.g.es h) {D : List Int} (e : WEnd m h d D) : Grp m D := by
  obtain ⟨k, F, s, hk⟩ := e
  exact s.grp ho hd
theorem iso_of_tel {a b : Mp} (ha : MapOk a) (hb : MapOk b) {h h' d d' : Int} (hd : d ∈ ends a.g.es h) (hd' : d' ∈ ends b.g.es h') {D D' : List Int} (e : WEnd a h d D) (e' : WEnd b h' d' D') (ht : tel a h D = tel b h' D') :
    ∃ φ, Iso a b (fun x => x ∈ D) φ ∧ φ d = d' := by
  obtain ⟨hl, hnum⟩ := (told_iff _ _ _ _ _ _ _ _).1 ht
  have hw := e.isWk ha hd
  have hw' := e'.isWk hb hd'
  obtain ⟨h0, hp0⟩ := e.head ha hd
  obtain ⟨h0', _⟩ := e'.head hb hd'
  have hg := e.grp ha hd
  have hg' := e'.grp hb hd'
  have hdart : ∀ x ∈ D, x ∈ darts a.g.es := fun x hx => by
    obtain ⟨v, _, h1⟩ := (hw.all x).1 hx
    exact ends_dart h1
  have hdart' : ∀ x ∈ D', x ∈ darts b.g.es := fun x hx => by
    obtain ⟨v, _, h1⟩ := (hw'.all x).1 hx
    exact ends_dart h1
  have pE : Pat (D.map fun d => d / 2) (D'.map fun d => d / 2) := pat_num (by simpa using hl) fun i hi => by
    rw [List.length_map] at hi
    rw [getD_map (fun d => d / 2) _ hi, getD_map (fun d => d / 2) _ (by omega)]
    exact (hnum i hi).1
  have hA : ∀ i j, i < D.length → j < D.length → (awy a.g.es (D.getD i 0) = awy a.g.es (D.getD j 0) ↔ awy b.g.es (D'.getD i 0) = awy b.g.es (D'.getD j 0)) := fun i j hi hj => by
    have m1 : ∀ i, i < D.length → awy a.g.es (D.getD i 0) ∈ wV a.g.es h D := fun i hi => (mem_nms _).2 (.inr (List.mem_map.2 ⟨_, getD_mem hi, rfl⟩))
    have m2 : ∀ i, i < D'.length → awy b.g.es (D'.getD i 0) ∈ wV b.g.es h' D' := fun i hi => (mem_nms _).2 (.inr (List.mem_map.2 ⟨_, getD_mem hi, rfl⟩))
    constructor
    · intro e; refine num_inj (m2 i (by omega)) (m2 j (by omega)) ?_
      rw [← (hnum i hi).2, ← (hnum j hj).2, e]
    · intro e; refine num_inj (m1 i hi) (m1 j hj) ?_
      rw [(hnum i hi).2, (hnum j hj).2, e]
  have half : ∀ x y : Int, x / 2 = y / 2 ↔ x = y ∨ x = tw y := fun x y => by unfold tw; split <;> omega
  have htwin : ∀ i, i < D.length → ∃ j, j < D.length ∧ tw (D.getD i 0) = D.getD j 0 ∧ tw (D'.getD i 0) = D'.getD j 0 := fun i hi => by
    have hx := getD_mem hi
    obtain ⟨v, hv, h1⟩ := (hw.all _).1 hx
    have hxd := hdart _ hx
    obtain ⟨k1, k2, k3⟩ := dart_ends ha.g.ids hxd
    have htD : tw (D.getD i 0) ∈ D := by
      refine (hw.all _).2 ⟨_, ?_, k2⟩
      rw [at_unique ha.g.ids h1 k1, hw.verts] at hv
      rw [hw.verts]; exact hv.step k3
    obtain ⟨hj, ej⟩ := idx_lt htD
    refine ⟨_, hj, ej.symm, ?_⟩
    have hne : D.idxOf (tw (D.getD i 0)) ≠ i := fun e => by
      rw [e] at ej
      have : tw (D.getD i 0) ≠ D.getD i 0 := by unfold tw; split <;> omega
      exact this ej.symm
    have hh := (pE.2 (D.idxOf (tw (D.getD i 0))) i (by simpa using hj) (by simpa using hi)).1 (by
      rw [getD_map (fun d => d / 2) _ hj, getD_map (fun d => d / 2) _ hi, ej, twHalf])
    rw [getD_map (fun d => d / 2) _ (by omega), getD_map (fun d => d / 2) _ (by omega), half] at hh
    rcases hh with hh | hh
    · exact absurd (nodup_idx hw'.nd (by omega) (by omega) hh) hne
    · exact hh.symm
  have hH : ∀ i j, i < D.length → j < D.length → (hom a.g.es (D.getD i 0) = hom a.g.es (D.getD j 0) ↔ hom b.g.es (D'.getD i 0) = hom b.g.es (D'.getD j 0)) := fun i j hi hj => by
    obtain ⟨i2, hi2, e1, e2⟩ := htwin i hi
    obtain ⟨j2, hj2, e3, e4⟩ := htwin j hj
    rw [← awy_tw ha.g.ids (hdart _ (getD_mem hi)), ← awy_tw ha.g.ids (hdart _ (getD_mem hj)), ← awy_tw hb.g.ids (hdart' _ (getD_mem (by omega))), ← awy_tw hb.g.ids (hdart' _ (getD_mem (by omega))), e1, e2, e3, e4]
    exact hA _ _ hi2 hj2
  have pH : Pat (D.map (hom a.g.es)) (D'.map (hom b.g.es)) := ⟨by simpa using hl, fun i j hi hj => by
    rw [List.length_map] at hi hj
    rw [getD_map _ _ hi, getD_map _ _ hj, getD_map _ _ (by omega), getD_map _ _ (by omega)]
    exact hH i j hi hj⟩
  have hφ : ∀ i, i < D.length → D'.getD (D.idxOf (D.getD i 0)) 0 = D'.getD i 0 := fun i hi => by
    obtain ⟨h1, h2⟩ := idx_lt (getD_mem hi)
    rw [nodup_idx hw.nd h1 hi h2]
  refine ⟨fun x => D'.getD (D.idxOf x) 0, ⟨hdart, fun x hx => ?_, fun x y hx hy e => ?_, fun x hx => ?_, fun x hx => ?_⟩, ?_⟩
  · exact hdart' _ (getD_mem (by have := (idx_lt hx).1; omega))
  · obtain ⟨h1, h2⟩ := idx_lt hx
    obtain ⟨h3, h4⟩ := idx_lt hy
    rw [← h2, ← h4, nodup_idx hw'.nd (by omega) (by omega) e]
  · obtain ⟨h1, h2⟩ := idx_lt hx
    obtain ⟨j, hj, e1, e2⟩ := htwin _ h1
    rw [h2] at e1
    rw [e1, hφ j hj, ← e2]
    exact ⟨getD_mem hj, rfl⟩
  · obtain ⟨h1, h2⟩ := idx_lt hx
    have e1 := hg _ h1
    have e2 := hg' (D.idxOf x) (by omega)
    have hlt := nxt_lt (hs := D.map (hom a.g.es)) (i := D.idxOf x) (by simpa using h1)
    rw [List.length_map] at hlt
    rw [h2] at e1
    rw [← pH.nxt (by simpa using h1)] at e2
    rw [e1, hφ _ hlt, e2]
    exact ⟨getD_mem hlt, rfl⟩
  · have : D.idxOf d = 0 := by
      have h1 := idx_lt (l := D) (x := d) (by rw [← h0]; exact getD_mem hp0)
      exact nodup_idx hw.nd h1.1 hp0 (by rw [h1.2, h0])
    show D'.getD (List.idxOf d D) 0 = d'
    rw [this, h0']
end Go.Proofs.YtplnodgkmbajiaaGreat.Aw
namespace Go.Proofs.YtplnodgkmbajiaaGreat.Aw
open Go Go.RowKit Go.Proofs.YtplnodgkmbajiaaGreat.Pl
set_option linter.unusedSimpArgs false
set_option linter.unusedVariables false
def IsTold (m : Mp) (d : Int) (l : List Int) : Prop := (d ∉ darts m.g.es ∧ l = []) ∨ (d ∈ darts m.g.es ∧ ∃ D, WEnd m (hom m.g.es d) d D ∧ l = tel m (hom m.g.es d) D)
theorem IsTold.unique {m : Mp} {d : Int} {l l' : List Int} (h : IsTold m d l) (k : IsTold m d l') : l = l' := by
  rcases h with ⟨h1, rfl⟩ | ⟨h1, D, h2, rfl⟩ <;> rcases k with ⟨k1, rfl⟩ | ⟨k1, D', k2, rfl⟩
  · rfl
  · exact absurd k1 h1
  · exact absurd h1 k1
  · rw [h2.unique k2]
theorem hom_vs {m : Mp} (ho : MapOk m) {d : Int} (hd : d ∈ darts m.g.es) : hom m.g.es d ∈ m.g.vs := by
  obtain ⟨x, hx, h1⟩ := mem_ends.1 (dart_ends ho.g.ids hd).1
  have := ho.g.ends x hx
  rcases h1 with h1 | h1
  · rw [← h1.1]; exact this.1
  · rw [← h1.1]; exact this.2
open Classical in
noncomputable def walkL (m : Mp) (d : Int) : List Int := if h : ∃ l, IsTold m d l then h.choose else []
theorem walkL_eq {m : Mp} {d : Int} {l : List Int} (h : IsTold m d l) : walkL m d = l := by
  unfold walkL
  rw [dif_pos ⟨l, h⟩]
  exact (Exists.choose_spec (⟨l, h⟩ : ∃ l, IsTold m d l)).unique h
theorem IsWk.le {m : Mp} {h : Int} {D : List Int} (w : IsWk m.g.es h D) : D.length ≤ 2 * m.g.es.length := by
  rw [← darts_length]
  refine List.Nodup.length_le_of_subset w.nd fun x hx => ?_
  obtain ⟨v, _, h1⟩ := (w.all x).1 hx
  exact ends_dart h1
theorem WkI.le {m : Mp} (ho : MapOk m) {h : Int} {k : Nat} {F D : List Int} (w : WkI m.g.es h k F D) (hh : h ∈ m.g.vs) : D.length ≤ 2 * m.g.es.length ∧ F.length ≤ m.g.vs.length := by
  constructor
  · rw [← darts_length]
    refine List.Nodup.length_le_of_subset w.nd fun x hx => ?_
    obtain ⟨j, _, _, h1⟩ := (w.mem x).1 hx
    exact ends_dart h1
  · exact w.toWkN.le ho.g.toGood hh
set_option maxHeartbeats 2000000 in
theorem cWalk (m : Mp) (ho : MapOk m) (d : Int) (st : St) (hv : m.g.vs.length ≤ 1000) (he : m.g.es.length ≤ 1000) (hd0 : 0 ≤ d) :
    ACalls Tryz.prog 55 [.ag (mpL m), u d] st fun r st' => r = .sl 0 (walkL m d).length (us (walkL m d)) ∧ Keeps st st' := by
  refine acalls_z0 ?_
  refine qO tabOk Tryz.func55 rfl rfl Tryz.ntmps55 (rs := [.tmp 4]) rfl (by simp) ?_
  refine awp_posG fun hpos => ?_
  (repeat' (first | refine qS ?_ | (refine w_e [] ?_; intro J hJ; simp only []; simp []; (try (refine hJ _ _ ?_; clear hJ J; simp only [ak, reduceIte])))))
  generalize hs0 : (St.new _ _ : St) = s0
  have hb0 : s0.H (st.next + 1 + 1 + 1) = .box 97 7 (wkCells m (st.next + 1) (st.next + 1 + 1) .nil .nil) := by rw [← hs0]; simp
  have hv0 : s0.H (st.next + 1) = .map false [.u32] [] := by rw [← hs0]; simp
  have he0 : s0.H (st.next + 1 + 1) = .map false [.u32] [] := by rw [← hs0]; simp
  have hk0 : Keeps st s0 := by rw [← hs0]; exact (((Keeps.new _ _).trans (Keeps.new _ _)).trans (Keeps.new _ _)).trans (Keeps.new _ _)
  have hn0 : s0.next = st.next + 4 := by rw [← hs0]; simp
  generalize hq : st.next + 1 + 1 + 1 = q at *
  generalize hme : st.next + 1 + 1 = me at *
  generalize hmv : st.next + 1 = mv at *
  refine qE (cEnds m q mv me .nil .nil d _ ho.g.ids he hd0 (by omega) hb0) (by simp) ?_; rintro r s1 ⟨rfl, hk1⟩
  have hn1 := hk1.next
  have hb1 := (hk1.H q (by omega)).trans hb0
  have hv1 := (hk1.H mv (by omega)).trans hv0
  have he1 := (hk1.H me (by omega)).trans he0
  by_cases hd : d ∈ darts m.g.es
  rotate_left
  · have hl := walkL_eq (m := m) (d := d) (.inl ⟨hd, rfl⟩)
    (repeat' (first | refine qS ?_ | (refine qR ?_; simp only [ak, reduceIte]; simp [hd, hl]) | (refine qC ?_; simp [hd, hl]) | ((first | (refine w_e [] ?_; intro J hJ; simp only []) | (refine e_go ?_)); simp [hd, hl]; (refine hJ _ _ ?_; clear hJ J; simp only [ak, reduceIte]))))
    exact ⟨by simp [z0, z0L], hk0.trans hk1⟩
  have c1 : ¬ q = mv := by omega
  have c2 : ¬ q = s1.next := by omega
  have c3 : ¬ q = s1.next + 1 := by omega
  have c4 : ¬ mv = q := by omega
  have c5 : ¬ me = q := by omega
  have c6 : ¬ me = mv := by omega
  (repeat' (first | refine qS ?_ | (refine qK ?_; simp only [ak, reduceIte]) | (refine qC ?_; simp [hd, hb1]) | ((first | (refine w_e [] ?_; intro J hJ; simp only []) | (refine e_go ?_)); simp [hd, hb1]; (try (refine hJ _ _ ?_; clear hJ J; simp only [ak, reduceIte])))))
  refine qE (cNamed [] (hom m.g.es d) mv _ (by simp) hv1) (by simp) ?_; rintro r _ ⟨rfl, rfl⟩
  (repeat' (first | refine qS ?_ | refine qB ?_ | ((first | (refine w_e [] ?_; intro J hJ; simp only []) | (refine e_go ?_)); simp [hb1, c1, c2, c3]; (repeat refine ca ?_); (refine hJ _ _ ?_; clear hJ J; simp only [ak, reduceIte]))))
  refine awp_cell q 29 1 (e := 97) (s := 7) [.sl 0 m.g.vs.length (us m.g.vs), .sl 0 m.g.es.length (eds m.g.es), .sl 0 m.rots.length (rowsL m.rots), .mp mv, .mp me, .sl (s1.next + 1) 1 [.atom (.int .u32 d)]] [] (by simp) ?_
  generalize hH : hom m.g.es d = h at *
  have hdh : d ∈ ends m.g.es h := by rw [← hH]; exact (dart_ends ho.g.ids hd).1
  have hhv : h ∈ m.g.vs := by rw [← hH]; exact hom_vs ho hd
  have e1 : enm [] h = [h] := rfl
  have hW : WkM st m q mv me h [d] [] ((((((s1.set mv (LObj.map false [IntKind.u32] (nmL (enm [] h)))).new (LObj.own 29 1 1)).new (LObj.own 29 1 1)).set q
      (LObj.box 97 7 [LV.sl 0 m.g.vs.length (us m.g.vs), LV.sl 0 m.g.es.length (eds m.g.es), LV.sl 0 m.rots.length (rowsL m.rots), LV.mp mv, LV.mp me, LV.sl (s1.next + 1) 1 [LV.atom (Value.int IntKind.u32 d)], LV.nil])).new (.own 29 1 0)).set q
      (LObj.box 97 7 (wkCells m mv me (.sl (s1.next + 1) 1 (us [d])) (.sl (s1.next + 1 + 1) 0 (us []))))) := by
    refine ⟨⟨s1.next + 1, s1.next + 1 + 1, by simp [tel, told], ?_, ?_, by omega, ?_, by omega⟩, ?_, ?_, by omega, ?_, by omega, ?_, hpos⟩
    · simp [show ¬ s1.next + 1 = q by omega]
    · simp [show ¬ s1.next + 1 + 1 = q by omega, tel, told]
    · simp
    · simp [c4, show ¬ mv = s1.next + 2 by omega, show ¬ mv = s1.next + 1 by omega, show ¬ mv = s1.next by omega, e1, wV, nms]
    · simp [c5, c6, show ¬ me = s1.next + 2 by omega, show ¬ me = s1.next + 1 by omega, show ¬ me = s1.next by omega, he1, eN, nms, nmL, nmF]
    · simp; omega
    · exact (((((((hk0.trans hk1).set (by omega) _).trans (Keeps.new _ _)).trans (Keeps.new _ _)).set (by omega) _).trans (Keeps.new _ _)).set (by omega) _)
  simp only [wkCells, grL, List.cons_append, List.nil_append, us, List.map_cons, List.map_nil] at hW
  simp only [set_next, new_next, List.cons_append, List.nil_append]
  generalize hs2 : (St.set (St.new _ (.own 29 1 0)) q _ : St) = s2 at *
  refine qL (fun n fr s => ∃ k F D, n = m.g.vs.length - k ∧ WSt m h d k F D ∧ fr 5 = .pt q 0 ∧ fr 9 = i (k : Nat) ∧ WkM st m q mv me h F D s) m.g.vs.length ?_ ?_
  · exact ⟨0, [d], [], by omega, .start, by simp, by simp, hW⟩
  clear hW hs2 s2
  rintro n fr s ⟨k, F, D, rfl, hS, f5, f9, hW⟩ JJ hJJ
  have hI := hS.inv ho hdh
  obtain ⟨b1, b2⟩ := hI.le ho hhv
  obtain ⟨⟨tf, to, hb, _⟩, _, _, _, ⟨lq, _, _⟩, _, hkp, _⟩ := id hW
  by_cases hlt : k < F.length
  · have hdr := qG F k hlt
    have hx := ends_dart (hI.at_ k hlt)
    have hnx := hS.turn hlt
    have hw := qN k (by omega)
    generalize F.getD k 0 = x at *
    (repeat' (first | refine qS ?_ | refine qB ?_ | (refine qK ?_; simp only [ak, reduceIte]) | (refine qC ?_; simp [f5, f9, hb, hlt, hdr]) | (refine w_e [] ?_; intro J hJ; simp only []; simp [f5, f9, hb, hlt, hdr]; (try (refine hJ _ _ ?_; clear hJ J; simp only [ak, reduceIte])))))
    refine qE (cTurn st m ho q mv me h x F D s hv he hx (by omega) (by omega) hW) (by simp) ?_; rintro r s3 hW3
    (repeat' ((first | (refine w_e [] ?_; intro J hJ; simp only []) | (refine e_go ?_)); simp [f9, hw]; (refine hJ _ _ ?_; clear hJ J; simp only [ak, reduceIte])))
    exact hJJ _ _ _ (by omega) ⟨k + 1, _, _, rfl, hnx, by simp [f5], by simp, hW3⟩
  · clear hJJ
    have hl := walkL_eq (m := m) (d := d) (.inr ⟨hd, D, by rw [hH]; exact ⟨k, F, hS, by omega⟩, rfl⟩)
    rw [hH] at hl
    (repeat' (first | refine qS ?_ | (refine qX ?_; simp only [ak, reduceIte]) | (refine qR ?_; simp only [ak, reduceIte]; simp [f5, f9, hb, hlt, hl]) | (refine qC ?_; simp [f5, f9, hb, hlt, hl]) | (refine w_e [] ?_; intro J hJ; simp only []; simp [f5, f9, hb, hlt, hl]; (refine hJ _ _ ?_; clear hJ J; simp only [ak, reduceIte]))))
    exact ⟨by simp [z0, z0L_map], hkp⟩
end Go.Proofs.YtplnodgkmbajiaaGreat.Aw
namespace Go.Proofs.YtplnodgkmbajiaaGreat.Aw
open Go Go.RowKit
set_option linter.unusedSimpArgs false
set_option linter.unusedVariables false
theorem awake33 (st : St) : ACalls Tryz.prog 4 [] st fun r st' => r = bb true ∧ st' = st :=
  acalls_closed tabOk fnsOk prim_ok mixed 1000000 true (by kernel_rfl)
end Go.Proofs.YtplnodgkmbajiaaGreat.Aw
namespace Go.Proofs.YtplnodgkmbajiaaGreat.Aw
open Go Go.RowKit Go.Proofs.YtplnodgkmbajiaaGreat.Pl
set_option linter.unusedSimpArgs false
set_option linter.unusedVariables false
theorem ref_Chk (g : Gr) (st : St) : ACalls Tryz.prog 25 [.ag (grL g)] st fun r st' => r = i (chk g) ∧ Keeps st st' := by
  by_cases h1 : (64 : Int) < (g.vs.length : Int)
  · have : chk g = 6 := by unfold chk; rw [if_pos (by omega)]
    refine qO tabOk Tryz.func25 rfl rfl Tryz.ntmps25 (rs := [.tmp 2]) rfl (by simp) ?_
    (repeat' (first | refine qS ?_ | (refine qR ?_; simp only [ak, reduceIte]; simp [h1, this]) | (refine qC ?_; simp [h1, this]) | (refine w_e [] ?_; intro J hJ; simp only []; simp [h1, this]; (refine hJ _ _ ?_; clear hJ J; simp only [ak, reduceIte]))))
    exact Keeps.new _ _
  by_cases h2 : (160 : Int) < (g.es.length : Int)
  · have : chk g = 6 := by unfold chk; rw [if_pos (by omega)]
    refine qO tabOk Tryz.func25 rfl rfl Tryz.ntmps25 (rs := [.tmp 2]) rfl (by simp) ?_
    (repeat' (first | refine qS ?_ | (refine qR ?_; simp only [ak, reduceIte]; simp [h1, h2, this]) | (refine qC ?_; simp [h1, h2, this]) | (refine w_e [] ?_; intro J hJ; simp only []; simp [h1, h2, this]; (refine hJ _ _ ?_; clear hJ J; simp only [ak, reduceIte]))))
    exact Keeps.new _ _
  exact ref_Check g st (by omega) (by omega)
end Go.Proofs.YtplnodgkmbajiaaGreat.Aw
namespace Go.Proofs.YtplnodgkmbajiaaGreat.Aw
open Go Go.RowKit Go.Proofs.YtplnodgkmbajiaaGreat.Pl Go.Proofs.YtplnodgkmbajiaaGreat.Eu
set_option linter.unusedSimpArgs false
set_option linter.unusedVariables false
theorem perm_of_sub : ∀ {a b : List Int}, a.Nodup → (∀ x ∈ a, x ∈ b) → b.length ≤ a.length → a.Perm b
  | [], b, _, _, hl => by
    have : b = [] := List.eq_nil_of_length_eq_zero (by simpa using hl)
    rw [this]
  | x :: a, b, hn, hs, hl => by
    rw [List.nodup_cons] at hn
    have hxb : x ∈ b := hs x List.mem_cons_self
    have p1 : b.Perm (x :: b.erase x) := List.perm_cons_erase hxb
    refine List.Perm.trans (List.Perm.cons x (perm_of_sub hn.2 (fun y hy => ?_) ?_)) p1.symm
    · have hne : y ≠ x := by rintro rfl; exact hn.1 hy
      exact (List.mem_erase_of_ne hne).2 (hs y (List.mem_cons_of_mem _ hy))
    · have := p1.length_eq
      simp only [List.length_cons] at this hl
      omega
def rok (m : Mp) (k : Nat) : Prop := okTurn m.g.es (m.g.vs.getD k 0) (m.rots.getD k [])
noncomputable def rchk (m : Mp) : Int := if chk m.g ≠ 0 then chk m.g else if m.rots.length ≠ m.g.vs.length then 22 else @ite _ (∀ k, k < m.g.vs.length → rok m k) (Classical.propDecidable _) 0 22
theorem rchk_g {m : Mp} (h : chk m.g ≠ 0) : rchk m = chk m.g := by unfold rchk; rw [if_pos h]
theorem rchk_len {m : Mp} (h : chk m.g = 0) (h1 : m.rots.length ≠ m.g.vs.length) : rchk m = 22 := by unfold rchk; rw [if_neg (fun e => e h), if_pos h1]
theorem rchk_bad {m : Mp} (h : chk m.g = 0) {k : Nat} (hk : k < m.g.vs.length) (h1 : ¬ rok m k) : rchk m = 22 := by
  unfold rchk
  rw [if_neg (fun e => e h)]
  split
  · rfl
  · rw [if_neg (fun e => h1 (e k hk))]
theorem rchk_ok {m : Mp} (h : chk m.g = 0) (h1 : m.rots.length = m.g.vs.length) (h2 : ∀ k, k < m.g.vs.length → rok m k) : rchk m = 0 := by
  unfold rchk
  rw [if_neg (fun e => e h), if_neg (fun e => e h1), if_pos h2]
theorem rchk_zero {m : Mp} (h : rchk m = 0) : chk m.g = 0 ∧ MapOk m := by
  by_cases h0 : chk m.g = 0
  · refine ⟨h0, ?_⟩
    by_cases h1 : m.rots.length = m.g.vs.length
    · refine ⟨chk_goodE h0, h1, fun k hk => ?_⟩
      refine Classical.byContradiction fun hn => ?_
      rw [rchk_bad h0 hk hn] at h; cases h
    · rw [rchk_len h0 h1] at h; cases h
  · rw [rchk_g h0] at h; exact absurd h h0
noncomputable def gn (m : Mp) : Nat := (2 * ncl (Reach m.g.es) m.g.vs + m.g.es.length - (alone m.g + m.g.vs.length + ncl (Orb (fc m m.g.es)) (darts m.g.es))) / 2
theorem MapOk.gn {m : Mp} (h : MapOk m) : 2 * ncl (Reach m.g.es) m.g.vs + m.g.es.length = 2 * gn m + alone m.g + m.g.vs.length + ncl (Orb (fc m m.g.es)) (darts m.g.es) := by
  obtain ⟨k, hk⟩ := h.euler
  have : Aw.gn m = k := by unfold Aw.gn; omega
  omega
theorem ends_len0 (es : List Ed) (v : Int) : (ends es v).length = 0 ↔ nbr es v = [] := by rw [List.length_eq_zero_iff, ends_nil]
set_option maxHeartbeats 1000000 in
theorem Twice (m : Mp) (h : MapOk m) (st : St) (hv : m.g.vs.length ≤ 1000) (he : m.g.es.length ≤ 1000) :
    ACalls Tryz.prog 13 [.ag (mpL m)] st fun r st' => r = i (2 * gn m) ∧ Keeps st st' := by
  have hP := h.fc_per m.g.es (fun x hx => hx)
  have hgn := h.gn
  have hal : alone m.g ≤ m.g.vs.length := List.countP_le_length
  have hdl := darts_length m.g.es
  have hid : idOk m.g.es := fun x hx => by have := h.g.pos x hx; omega
  refine qO tabOk Tryz.func13 rfl rfl Tryz.ntmps13 (rs := [.tmp 2]) rfl (by simp) ?_
  (repeat' (first | refine qS ?_ | refine qB ?_ | (refine w_e [] ?_; intro J hJ; simp only []; simp []; (refine hJ _ _ ?_; clear hJ J; simp only [ak, reduceIte]))))
  refine awp_range 10 9 11 22 (m.g.vs.length) (fun j fr st2 => fr 1 = .pt st.next 0 ∧ fr 8 = .sl 0 m.g.vs.length (us m.g.vs) ∧ fr 3 = i ((m.g.vs.take j).countP fun v => decide (nbr m.g.es v = []) : Nat) ∧ st2.H st.next = .box 28 3 (mpL m) ∧ Keeps st st2 ∧ st.next < st2.next) ?_ ?_ ?_
  · exact ⟨by simp, by simp, by simp, by simp, Keeps.new _ _, by simp⟩
  · rintro j fr st2 hlt ⟨f1, f8, f3, hG, hkp, hsn⟩ fi fn JJ hJJ
    have hd := qG m.g.vs j hlt
    have hct := count_take (fun v => decide (nbr m.g.es v = [])) m.g.vs j hlt
    have hle : (m.g.vs.take j).countP (fun v => decide (nbr m.g.es v = [])) ≤ j := Nat.le_trans List.countP_le_length (by simp; omega)
    generalize m.g.vs.getD j 0 = v at *
    generalize (m.g.vs.take j).countP (fun v => decide (nbr m.g.es v = [])) = c at *
    (repeat' (first | refine qS ?_ | (refine w_e [] ?_; intro J hJ; simp only []; simp [f1, f8, fi, fn, hd, hG, hlt]; (try (refine hJ _ _ ?_; clear hJ J; simp only [ak, reduceIte])))))
    refine qE (ref_Ends m.g v _ he hid) (by simp) ?_; rintro r s3 ⟨⟨t, rfl⟩, hk3⟩
    have hn3 := hk3.next
    have e0 := ends_len0 m.g.es v
    have hw := qN c (by omega)
    by_cases h0 : nbr m.g.es v = []
    · have e1 := e0.2 h0
      rw [if_pos (by simpa using h0)] at hct
      (repeat' (first | (refine qC ?_; simp [e1, f3, hw]) | ((first | (refine w_e [] ?_; intro J hJ; simp only []) | (refine e_go ?_)); simp [e1, f3, hw]; (refine hJ _ _ ?_; clear hJ J; simp only [ak, reduceIte]))))
      exact hJJ _ _ (by simp [fi]) (by simp [fn]) ⟨by simp [f1], by simp [f8], by simp [hct], (hk3.H _ hsn).trans hG, hkp.trans hk3, by omega⟩
    · have e1 : ¬ (ends m.g.es v).length = 0 := fun e => h0 (e0.1 e)
      rw [if_neg (by simpa using h0)] at hct
      generalize (ends m.g.es v).length = el at *
      (repeat' (first | (refine qK ?_; simp only [ak, reduceIte]) | (refine qC ?_; simp [e1, f3]) | (refine e_go ?_; simp [e1, f3]; (refine hJ _ _ ?_; clear hJ J; simp only [ak, reduceIte]))))
      exact hJJ _ _ (by simp [fi]) (by simp [fn]) ⟨by simp [f1], by simp [f8], by simp [hct, f3], (hk3.H _ hsn).trans hG, hkp.trans hk3, by omega⟩
  rintro fr st2 ⟨f1, f8, f3, hG, hkp, hsn⟩
  rw [List.take_length] at f3
  have f3' : fr 3 = i (alone m.g) := f3
  clear f3
  (repeat' refine qS ?_)
  (refine w_s [] [st.next] [(0, true), (1, true), (5, true), (7, true), (8, true), (9, true), (10, true), (12, true), (13, true), (14, true), (15, true), (17, true), (2, true), (3, true), (4, true), (6, true), (11, true), (16, true), (18, true), (19, true), (20, true), (21, true)] ?_; intro J hJ; simp [f1, f3', hG])
  refine qD (ref_Parts m.g _ h.g.toGood hv he) (by simp) ?_; rintro r s1 ⟨⟨t, R, rfl, hR⟩, hk1⟩
  have hn1 := hk1.next
  have hG1 := (hk1.H st.next (by omega)).trans hG
  refine ⟨fun _ => by simp [hG1, hG], ?_⟩
  have hRn := hR.all
  have hRl := hR.len
  generalize R.length = p at *
  generalize alone m.g = al at *
  have w1 : IntKind.i64.wrap (2 * (p : Int)) = 2 * p := wrap_i64 _ (by omega) (by omega)
  have w2 : IntKind.i64.wrap (2 * (p : Int) - al) = 2 * p - al := wrap_i64 _ (by omega) (by omega)
  have w3 : IntKind.i64.wrap (2 * (p : Int) - al - m.g.vs.length) = 2 * p - al - m.g.vs.length := wrap_i64 _ (by omega) (by omega)
  have w4 : IntKind.i64.wrap (2 * (p : Int) - al - m.g.vs.length + m.g.es.length) = 2 * p - al - m.g.vs.length + m.g.es.length := wrap_i64 _ (by omega) (by omega)
  (refine d_go ?_; simp [hG1, hG, f1, f3', w1, w2, w3, w4])
  refine qD (ref_Faces m h _ hv he) (by simp) ?_; rintro r s3 ⟨⟨t3, F, rfl, hF⟩, hk3⟩
  have hG3 := (hk3.H st.next (by omega)).trans hG1
  refine ⟨fun _ => by simp [hG3, hG1, hG], ?_⟩
  have hFn := hF.all hP
  have hFl := hF.len
  generalize F.length = f at *
  have w5 : IntKind.i64.wrap (2 * (p : Int) - al - m.g.vs.length + m.g.es.length - f) = 2 * (gn m : Int) := by rw [wrap_i64 _ (by omega) (by omega)]; omega
  (refine d_go ?_; simp [hG3, hG1, hG, w1, w2, w3, w4, w5, f1, f3']; (refine hJ _ _ ?_; clear hJ J; simp only [ak, reduceIte]))
  (repeat' (refine qR ?_; simp only [ak, reduceIte]; simp []))
  exact (hkp.trans hk1).trans hk3
end Go.Proofs.YtplnodgkmbajiaaGreat.Aw
namespace Go.Proofs.YtplnodgkmbajiaaGreat.Aw
open Go Go.RowKit Go.Proofs.YtplnodgkmbajiaaGreat.Pl Go.Proofs.YtplnodgkmbajiaaGreat.Eu
set_option linter.unusedSimpArgs false
set_option linter.unusedVariables false
set_option maxHeartbeats 1000000 in
theorem ref_rCheck (m : Mp) (st : St) (hv : m.g.vs.length ≤ 1000) (he : m.g.es.length ≤ 1000) (hr : m.rots.length ≤ 1000) :
    ACalls Tryz.prog 10 [.ag (mpL m)] st fun r st' => r = i (rchk m) ∧ Keeps st st' := by
  refine qO tabOk Tryz.func10 rfl rfl Tryz.ntmps10 (rs := [.tmp 2]) rfl (by simp) ?_
  (repeat' (first | refine qS ?_ | (refine w_e [] ?_; intro J hJ; simp only []; simp []; (try (refine hJ _ _ ?_; clear hJ J; simp only [ak, reduceIte])))))
  refine qE (ref_Check m.g _ hv he) (by simp) ?_; rintro r s1 ⟨rfl, hk1⟩
  have hn1 := hk1.next
  simp only [new_next] at hn1
  have hG1 : s1.H st.next = .box 28 3 (mpL m) := by rw [hk1.H _ (by simp)]; simp
  have hK1 : Keeps st s1 := (Keeps.new _ _).trans hk1
  by_cases hc : chk m.g = 0
  rotate_left
  · have hrc := rchk_g hc
    generalize chk m.g = x at *
    (repeat' (first | refine qS ?_ | (refine qR ?_; simp only [ak, reduceIte]; simp [hc, hrc]) | (refine qC ?_; simp [hc, hrc]) | ((first | (refine w_e [] ?_; intro J hJ; simp only []) | (refine e_go ?_)); simp [hc, hrc]; (refine hJ _ _ ?_; clear hJ J; simp only [ak, reduceIte]))))
    exact hK1
  have hgd := chk_goodE hc
  have hid : idOk m.g.es := fun x hx => by have := hgd.pos x hx; omega
  by_cases hl : m.rots.length = m.g.vs.length
  rotate_left
  · have hrc := rchk_len hc hl
    (repeat' (first | refine qS ?_ | (refine qK ?_; simp only [ak, reduceIte]) | (refine qR ?_; simp only [ak, reduceIte]; simp [hc, hrc, hG1, hl]) | (refine qC ?_; simp [hc, hrc, hG1, hl]; (try with_reducible refine ⟨?_, ?_⟩) <;> (try with_reducible intro hc) <;> try (exfalso; omega)) | ((first | (refine w_e [] ?_; intro J hJ; simp only []) | (refine e_go ?_)); simp [hc, hrc, hG1, hl]; (refine hJ _ _ ?_; clear hJ J; simp only [ak, reduceIte]))))
    exact hK1
  (repeat' (first | refine qS ?_ | refine qB ?_ | (refine qK ?_; simp only [ak, reduceIte]) | (refine qC ?_; simp [hc, hG1, hl]) | ((first | (refine w_e [] ?_; intro J hJ; simp only []) | (refine e_go ?_)); simp [hc, hG1, hl]; (refine hJ _ _ ?_; clear hJ J; simp only [ak, reduceIte]))))
  refine awp_range 28 27 29 65 (m.g.vs.length) (fun j fr st2 => fr 1 = .pt st.next 0 ∧ fr 26 = .sl 0 m.g.vs.length (us m.g.vs) ∧ st2.H st.next = .box 28 3 (mpL m) ∧ Keeps st st2 ∧ st.next < st2.next ∧ ∀ k, k < j → rok m k) ?_ ?_ ?_
  · exact ⟨by simp, by simp, hG1, hK1, by omega, fun k hk => by omega⟩
  · rintro j0 fr st2 hlt ⟨f1, f26, hG, hkp, hsn, hok⟩ fi fn JJ hJJ
    have hd := qG m.g.vs j0 hlt
    have hd2 := rowsL_drop m.rots j0 (by omega)
    have hRl : j0 < (rowsL m.rots).length := by simp; omega
    have htin : m.rots.getD j0 [] ∈ m.rots := by rw [getR_lt _ _ (by omega)]; exact List.getElem_mem _
    have hbad := fun h => rchk_bad hc hlt h
    have hnx : rok m j0 → ∀ k, k < j0 + 1 → rok m k := fun h k hk => by
      rcases Nat.lt_or_ge k j0 with h1 | h1
      · exact hok k h1
      · obtain rfl : k = j0 := by omega
        exact h
    have hok1 : rok m j0 ↔ (m.rots.getD j0 []).Perm (ends m.g.es (m.g.vs.getD j0 0)) ∧ nrm (m.rots.getD j0 []) = m.rots.getD j0 [] := Iff.rfl
    have hel : (ends m.g.es (m.g.vs.getD j0 0)).length ≤ 2 * m.g.es.length := flat_len _ (end1_len _) _
    have hrise := ends_rise hgd.ids (m.g.vs.getD j0 0)
    generalize rok m j0 = OK at *
    generalize m.rots.getD j0 [] = t at *
    generalize m.g.vs.getD j0 0 = v at *
    (repeat' (first | refine qS ?_ | (refine w_e [] ?_; intro J hJ; simp only []; simp [f1, f26, fi, fn, hd, hlt, hG, hd2, hRl, hl]; (try (refine hJ _ _ ?_; clear hJ J; simp only [ak, reduceIte])))))
    refine qE (ref_Ends m.g v _ he hid) (by simp) ?_; rintro r s3 ⟨⟨te, rfl⟩, hk3⟩
    have hn3 := hk3.next
    have hG3 := (hk3.H st.next (by omega)).trans hG
    have hK3 := hkp.trans hk3
    generalize ends m.g.es v = E at *
    by_cases h1 : t.length = E.length
    rotate_left
    · have hrc := hbad fun h => h1 (hok1.1 h).1.length_eq
      have h1b : ((t.length : Int) != (E.length : Int)) = true := by simp; omega
      (repeat' (first | refine qS ?_ | (refine qR ?_; simp only [ak, reduceIte]; simp [h1b, h1, hrc]) | (refine qC ?_; simp [h1b, h1, hrc]) | ((first | (refine w_e [] ?_; intro J hJ; simp only []) | (refine e_go ?_)); simp [h1b, h1, hrc]; (refine hJ _ _ ?_; clear hJ J; simp only [ak, reduceIte]))))
      exact hK3
    (repeat' (first | refine qS ?_ | ((first | (refine w_e [] ?_; intro J hJ; simp only []) | (refine e_go ?_)); simp [h1]; (try (refine hJ _ _ ?_; clear hJ J; simp only [ak, reduceIte])))))
    refine qE (ref_Normal t 0 _ (by unfold small; omega)) (by simp [h1]) ?_; rintro r s4 ⟨rfl, hk4⟩
    have hn4 := hk4.next
    have hG4 := (hk4.H st.next (by omega)).trans hG3
    have hK4 := hK3.trans hk4
    have hnl := nrm_length t
    (repeat' (refine e_go ?_; simp []))
    refine qE (ref_Same t (nrm t) 0 0 _ (by unfold small; omega)) (by simp [h1, hnl]) ?_; rintro r s5 ⟨rfl, rfl⟩
    by_cases h2 : t = nrm t
    rotate_left
    · have hrc := hbad fun h => h2 (hok1.1 h).2.symm
      (repeat' (first | refine qS ?_ | (refine qR ?_; simp only [ak, reduceIte]; simp [h2, hrc]) | (refine qC ?_; simp [h2, hrc]) | ((first | (refine w_e [] ?_; intro J hJ; simp only []) | (refine e_go ?_)); simp [h2, hrc]; (refine hJ _ _ ?_; clear hJ J; simp only [ak, reduceIte]))))
      exact hK4
    have h2' : decide (t = nrm t) = true := by simpa using h2
    rw [h2']
    (repeat' (first | refine qS ?_ | refine qB ?_ | (refine qK ?_; simp only [ak, reduceIte]) | (refine qC ?_; simp []) | ((first | (refine w_e [] ?_; intro J hJ; simp only []) | (refine e_go ?_)); simp []; (refine hJ _ _ ?_; clear hJ J; simp only [ak, reduceIte]))))
    refine awp_range 56 55 57 64 (E.length) (fun j fr st2 => fr 1 = .pt st.next 0 ∧ fr 26 = .sl 0 m.g.vs.length (us m.g.vs) ∧ fr 28 = i j0 ∧ fr 27 = i m.g.vs.length ∧ fr 6 = .sl 0 t.length (us t) ∧ fr 54 = .sl te E.length (us E) ∧ st2 = s5 ∧ ∀ k, k < j → E.getD k 0 ∈ t) ?_ ?_ ?_
    · exact ⟨by simp [f1], by simp [f26], by simp [fi], by simp [fn], by simp [h1], by simp, rfl, fun k hk => by omega⟩
    · clear f1 f26 fi fn fr
      rintro k fr st6 hk ⟨f1, f26, f28, f27, f6, f54, rfl, hall⟩ fi fn J2 hJ2
      have hd3 := qG E k hk
      have hin : E.getD k 0 ∈ E := by rw [getD_lt _ _ hk]; exact List.getElem_mem _
      generalize hx : E.getD k 0 = x at *
      (repeat' (first | refine qS ?_ | (refine w_e [] ?_; intro J hJ; simp only []; simp [f54, f6, fi, fn, hd3, hk]; (try (refine hJ _ _ ?_; clear hJ J; simp only [ak, reduceIte])))))
      refine qE (Find t 0 x _ (by unfold small; omega)) (by simp [h1]) ?_; rintro r s7 ⟨rfl, rfl⟩
      by_cases hxt : x ∈ t
      · have hg := gi_mem hxt
        (repeat' (first | (refine qK ?_; simp only [ak, reduceIte]) | (refine qC ?_; simp [hg]; (try with_reducible refine ⟨?_, ?_⟩) <;> (try with_reducible intro hc) <;> try (exfalso; omega)) | (refine e_go ?_; simp [hg]; (refine hJ _ _ ?_; clear hJ J; simp only [ak, reduceIte]))))
        refine hJ2 _ _ (by simp [fi]) (by simp [fn]) ⟨by simp [f1], by simp [f26], by simp [f28], by simp [f27], by simp [f6], by simp [f54], rfl, fun q hq => ?_⟩
        rcases Nat.lt_or_ge q k with h3 | h3
        · exact hall q h3
        · obtain rfl : q = k := by omega
          rw [hx]; exact hxt
      · have hg := gi_not hxt
        have hrc := hbad fun h => hxt ((hok1.1 h).1.mem_iff.2 hin)
        (repeat' (first | refine qS ?_ | (refine qR ?_; simp only [ak, reduceIte]; simp [hg, hrc]) | (refine qC ?_; simp [hg, hrc]) | ((first | (refine w_e [] ?_; intro J hJ; simp only []) | (refine e_go ?_)); simp [hg, hrc]; (refine hJ _ _ ?_; clear hJ J; simp only [ak, reduceIte]))))
        exact hK4
    · clear f1 f26 fi fn fr
      rintro fr st6 ⟨f1, f26, f28, f27, f6, f54, rfl, hall⟩
      skip
      refine hJJ _ _ (by simp [f28]) (by simp [f27]) ⟨by simp [f1], by simp [f26], hG4, hK4, by omega, hnx (hok1.2 ⟨?_, h2.symm⟩)⟩
      refine (perm_of_sub (rise_nodup hrise) (fun x hx => ?_) (by omega)).symm
      obtain ⟨q, hq, rfl⟩ := List.getElem_of_mem hx
      have := hall q hq
      rwa [getD_lt _ _ hq] at this
  · rintro fr st2 ⟨f1, f26, hG, hkp, hsn, hok⟩
    have hrc := rchk_ok hc hl hok
    (repeat' (first | refine qS ?_ | (refine qR ?_; simp only [ak, reduceIte]; simp [hrc]) | (refine w_e [] ?_; intro J hJ; simp only []; simp [hrc]; (refine hJ _ _ ?_; clear hJ J; simp only [ak, reduceIte]))))
    exact hkp
end Go.Proofs.YtplnodgkmbajiaaGreat.Aw
namespace Go.Proofs.YtplnodgkmbajiaaGreat.Aw
open Go Go.RowKit Go.Proofs.YtplnodgkmbajiaaGreat.Pl Go.Proofs.YtplnodgkmbajiaaGreat.Eu
set_option linter.unusedSimpArgs false
set_option linter.unusedVariables false
theorem chk_smallC {m : Mp} (h : rchk m = 0) : m.g.vs.length ≤ 64 := by
  obtain ⟨_, _, h3, _⟩ := chk_good (rchk_zero h).1
  exact h3
theorem ref_rCheckC (m : Mp) (st : St) (hr : m.rots.length ≤ 1000) (he : m.g.es.length ≤ 1000) : ACalls Tryz.prog 10 [.ag (mpL m)] st fun r st' => r = i (rchk m) ∧ Keeps st st' := by
  by_cases hv : m.g.vs.length ≤ 1000
  · exact ref_rCheck m st hv he hr
  · have hc : chk m.g = 6 := by unfold chk; rw [if_pos (by omega)]
    have hrc : rchk m = 6 := by rw [rchk_g (by rw [hc]; decide), hc]
    refine qO tabOk Tryz.func10 rfl rfl Tryz.ntmps10 (rs := [.tmp 2]) rfl (by simp) ?_
    (repeat' (first | refine qS ?_ | (refine w_e [] ?_; intro J hJ; simp only []; simp []; (try (refine hJ _ _ ?_; clear hJ J; simp only [ak, reduceIte])))))
    refine qE (ref_Chk m.g _) (by simp) ?_; rintro r s1 ⟨rfl, hk1⟩
    rw [hc]
    (repeat' (first | refine qS ?_ | (refine qR ?_; simp only [ak, reduceIte]; simp [hrc]) | (refine qC ?_; simp [hrc]) | ((first | (refine w_e [] ?_; intro J hJ; simp only []) | (refine e_go ?_)); simp [hrc]; (refine hJ _ _ ?_; clear hJ J; simp only [ak, reduceIte]))))
    exact (Keeps.new _ _).trans hk1
noncomputable def lit33 (m : Mp) : Bool := decide (m.g.es.length ≤ 16) && decide (m.rots.length ≤ 40) && decide (rchk m = 0)
theorem light33 (m : Mp) (st : St) : ACalls Tryz.prog 5 [.ag (mpL m)] st fun r st' => r = bb (lit33 m) ∧ Keeps st st' := by
  refine qO tabOk Tryz.func5 rfl rfl Tryz.ntmps5 (rs := [.tmp 2]) rfl (by simp) ?_
  by_cases h1 : (m.g.es.length : Int) ≤ 16
  rotate_left
  · have hf : lit33 m = false := by unfold lit33; simp; omega
    (repeat' (first | refine qS ?_ | (refine qR ?_; simp only [ak, reduceIte]; simp [h1, hf]) | (refine w_e [] ?_; intro J hJ; simp only []; simp [h1, hf]; (refine hJ _ _ ?_; clear hJ J; simp only [ak, reduceIte]))))
    exact Keeps.new _ _
  by_cases h2 : (m.rots.length : Int) ≤ 40
  rotate_left
  · have hf : lit33 m = false := by unfold lit33; simp; omega
    (repeat' (first | refine qS ?_ | (refine qR ?_; simp only [ak, reduceIte]; simp [h1, h2, hf]) | (refine w_e [] ?_; intro J hJ; simp only []; simp [h1, h2, hf]; (refine hJ _ _ ?_; clear hJ J; simp only [ak, reduceIte]))))
    exact Keeps.new _ _
  (repeat' (first | refine qS ?_ | (refine w_e [] ?_; intro J hJ; simp only []; simp [h1, h2]; (try (refine hJ _ _ ?_; clear hJ J; simp only [ak, reduceIte])))))
  refine qE (ref_rCheckC m _ (by omega) (by omega)) (by simp) ?_; rintro r s1 ⟨rfl, hk1⟩
  have hf : lit33 m = decide (rchk m = 0) := by
    unfold lit33
    rw [decide_eq_true (by omega), decide_eq_true (by omega)]; rfl
  by_cases hc : rchk m = 0
  · (repeat' (first | (refine qR ?_; simp only [ak, reduceIte]; simp [hc, hf]) | (refine e_go ?_; simp [hc, hf]; (refine hJ _ _ ?_; clear hJ J; simp only [ak, reduceIte]))))
    exact (Keeps.new _ _).trans hk1
  · rw [decide_eq_false hc] at hf
    generalize rchk m = x at *
    (repeat' (first | (refine qR ?_; simp only [ak, reduceIte]; simp [hc, hf]) | (refine e_go ?_; simp [hc, hf]; (refine hJ _ _ ?_; clear hJ J; simp only [ak, reduceIte]))))
    exact (Keeps.new _ _).trans hk1
theorem lit33_of {m : Mp} (h : lit33 m = true) : m.g.es.length ≤ 16 ∧ m.rots.length ≤ 40 ∧ rchk m = 0 := by
  unfold lit33 at h; simp at h; exact ⟨h.1.1, h.1.2, h.2⟩
def endsL (es : List Ed) (c : List Int) : List Int := c.flatMap (ends es)
theorem endsL_nodup {es : List Ed} (hi : es.Pairwise fun x y => x.id < y.id) : ∀ {c : List Int}, c.Nodup → (endsL es c).Nodup
  | [], _ => by simp [endsL]
  | v :: c, h => by
    rw [List.nodup_cons] at h
    have ih := endsL_nodup hi h.2
    unfold endsL at ih ⊢
    rw [List.flatMap_cons, List.nodup_append]
    refine ⟨rise_nodup (ends_rise hi v), ih, fun a ha b hb e => ?_⟩
    subst e
    obtain ⟨w, hw, h1⟩ := List.mem_flatMap.1 hb
    exact h.1 (at_unique hi ha h1 ▸ hw)
theorem IsWk.perm {m : Mp} (ho : MapOk m) {h : Int} {D c : List Int} (w : IsWk m.g.es h D) (hh : h ∈ m.g.vs) (hc : IsPart m.g h c) : D.Perm (endsL m.g.es c) ∧ (wV m.g.es h D).Perm c := by
  have hcn : c.Nodup := hc.1.imp fun h => by omega
  have hV : ∀ v, v ∈ wV m.g.es h D ↔ v ∈ c := fun v => by
    rw [w.verts, hc.2]
    exact ⟨fun hr => ⟨ho.g.toGood.reach hh hr, hr⟩, fun hr => hr.2⟩
  constructor
  · refine (List.perm_ext_iff_of_nodup w.nd (endsL_nodup ho.g.ids hcn)).2 fun x => ?_
    rw [w.all]
    unfold endsL
    rw [List.mem_flatMap]
    exact ⟨fun ⟨v, hv, h1⟩ => ⟨v, (hV v).1 hv, h1⟩, fun ⟨v, hv, h1⟩ => ⟨v, (hV v).2 hv, h1⟩⟩
  · exact (List.perm_ext_iff_of_nodup (nms_nodup _ (by simp)) hcn).2 hV
theorem uCompare (x y : Int) (st : St) : ACalls Tryz.prog 59 [u x, u y] st fun r st' => r = i (if x < y then -1 else if y < x then 1 else 0) ∧ st' = st := by
  refine qO tabOk Tryz.func59 rfl rfl Tryz.ntmps59 (rs := [.tmp 4]) rfl (by simp) ?_
  (repeat' (first | refine qS ?_ | (refine w_e [] ?_; intro J hJ; simp only []; simp []; (try (refine hJ _ _ ?_; clear hJ J; simp only [ak, reduceIte])))))
  refine qF (isNaN x _) ?_; rintro r st' ⟨rfl, rfl⟩
  (repeat' (first | refine qS ?_ | ((first | (refine w_e [] ?_; intro J hJ; simp only []) | (refine e_go ?_)); simp []; (try (refine hJ _ _ ?_; clear hJ J; simp only [ak, reduceIte])))))
  refine qF (isNaN y _) ?_; rintro r st' ⟨rfl, rfl⟩
  by_cases h1 : x < y
  · (repeat' (first | refine qS ?_ | (refine qK ?_; simp only [ak, reduceIte]) | (refine qR ?_; simp only [ak, reduceIte]; simp [h1]) | (refine qC ?_; simp [h1]) | ((first | (refine w_e [] ?_; intro J hJ; simp only []) | (refine e_go ?_)); simp [h1]; (refine hJ _ _ ?_; clear hJ J; simp only [ak, reduceIte]))))
  · by_cases h2 : y < x
    · (repeat' (first | refine qS ?_ | (refine qK ?_; simp only [ak, reduceIte]) | (refine qR ?_; simp only [ak, reduceIte]; simp [h1, h2]) | (refine qC ?_; simp [h1, h2]) | ((first | (refine w_e [] ?_; intro J hJ; simp only []) | (refine e_go ?_)); simp [h1, h2]; (refine hJ _ _ ?_; clear hJ J; simp only [ak, reduceIte]))))
    · (repeat' (first | refine qS ?_ | (refine qK ?_; simp only [ak, reduceIte]) | (refine qR ?_; simp only [ak, reduceIte]; simp [h1, h2]) | (refine qC ?_; simp [h1, h2]) | ((first | (refine w_e [] ?_; intro J hJ; simp only []) | (refine e_go ?_)); simp [h1, h2]; (refine hJ _ _ ?_; clear hJ J; simp only [ak, reduceIte]))))
theorem lcmp_drop (a b : List Int) (j : Nat) (ha : j < a.length) (hb : j < b.length) : lcmp (a.drop j) (b.drop j) = if a.getD j 0 < b.getD j 0 then -1 else if b.getD j 0 < a.getD j 0 then 1 else lcmp (a.drop (j + 1)) (b.drop (j + 1)) := by
  rw [List.drop_eq_getElem_cons ha, List.drop_eq_getElem_cons hb, getD_lt _ _ ha, getD_lt _ _ hb]; rfl
theorem sCompare (a b : List Int) (t t' : Nat) (st : St) (ha : a.length ≤ 1000000) (hb : b.length ≤ 1000000) :
    ACalls Tryz.prog 37 [.sl t a.length (us a), .sl t' b.length (us b)] st fun r st' => r = i (lcmp a b) ∧ st' = st := by
  refine qO tabOk Tryz.func37 rfl rfl Tryz.ntmps37 (rs := [.tmp 4]) rfl (by simp) ?_
  (repeat' (first | refine qS ?_ | refine qB ?_ | (refine w_e [] ?_; intro J hJ; simp only []; simp []; (refine hJ _ _ ?_; clear hJ J; simp only [ak, reduceIte]))))
  refine awp_range 11 10 12 30 (a.length) (fun j fr st2 => fr 0 = .sl t a.length (us a) ∧ fr 1 = .sl t' b.length (us b) ∧ fr 9 = .sl t a.length (us a) ∧ lcmp a b = lcmp (a.drop j) (b.drop j) ∧ j ≤ b.length ∧ st2 = st) ?_ ?_ ?_
  · exact ⟨by simp, by simp, by simp, by simp, by omega, rfl⟩
  · rintro j fr s hlt ⟨f0, f1, f9, hl, hjb, rfl⟩ fi fn J hJ
    have hd := qG a j hlt
    by_cases hb2 : j < b.length
    rotate_left
    · have hge : (b.length : Int) ≤ (j : Int) := by omega
      have hr : lcmp a b = 1 := by
        have e : b.drop j = [] := List.drop_of_length_le (by omega)
        rw [hl, List.drop_eq_getElem_cons hlt, e]; rfl
      (repeat' (first | refine qS ?_ | (refine qR ?_; simp only [ak, reduceIte]; simp [f0, f1, f9, fi, fn, hd, hlt, hge, hr]) | (refine qC ?_; simp [f0, f1, f9, fi, fn, hd, hlt, hge, hr]) | (refine w_e [] ?_; intro J hJ; simp only []; simp [f0, f1, f9, fi, fn, hd, hlt, hge, hr]; (refine hJ _ _ ?_; clear hJ J; simp only [ak, reduceIte]))))
    have hge : ¬ (b.length : Int) ≤ (j : Int) := by omega
    have hd2 := qG b j hb2
    have hs := lcmp_drop a b j hlt hb2
    generalize a.getD j 0 = x at *
    generalize b.getD j 0 = y at *
    (repeat' (first | refine qS ?_ | (refine qK ?_; simp only [ak, reduceIte]) | (refine qC ?_; simp [f0, f1, f9, fi, fn, hd, hd2, hlt, hge, hb2]) | (refine w_e [] ?_; intro J hJ; simp only []; simp [f0, f1, f9, fi, fn, hd, hd2, hlt, hge, hb2]; (try (refine hJ _ _ ?_; clear hJ J; simp only [ak, reduceIte])))))
    refine qE (uCompare x y _) (by simp) ?_; rintro r _ ⟨rfl, rfl⟩
    by_cases h1 : x < y
    · rw [if_pos h1] at hs ⊢
      have hr : lcmp a b = -1 := hl.trans hs
      (repeat' (first | refine qS ?_ | (refine qR ?_; simp only [ak, reduceIte]; simp [hr]) | (refine qC ?_; simp [hr]) | ((first | (refine w_e [] ?_; intro J hJ; simp only []) | (refine e_go ?_)); simp [hr]; (refine hJ _ _ ?_; clear hJ J; simp only [ak, reduceIte]))))
    · rw [if_neg h1] at hs ⊢
      by_cases h2 : y < x
      · rw [if_pos h2] at hs ⊢
        have hr : lcmp a b = 1 := hl.trans hs
        (repeat' (first | refine qS ?_ | (refine qR ?_; simp only [ak, reduceIte]; simp [hr]) | (refine qC ?_; simp [hr]) | ((first | (refine w_e [] ?_; intro J hJ; simp only []) | (refine e_go ?_)); simp [hr]; (refine hJ _ _ ?_; clear hJ J; simp only [ak, reduceIte]))))
      · rw [if_neg h2] at hs ⊢
        (repeat' (first | refine qS ?_ | (refine qK ?_; simp only [ak, reduceIte]) | (refine qC ?_; simp []) | ((first | (refine w_e [] ?_; intro J hJ; simp only []) | (refine e_go ?_)); simp []; (refine hJ _ _ ?_; clear hJ J; simp only [ak, reduceIte]))))
        exact hJ _ _ (by simp [fi]) (by simp [fn]) ⟨by simp [f0], by simp [f1], by simp [f9], hl.trans hs, by omega, rfl⟩
  · rintro fr s ⟨f0, f1, f9, hl, hjb, rfl⟩
    rw [List.drop_of_length_le (Nat.le_refl _)] at hl
    by_cases hlt : a.length < b.length
    · have hr : lcmp a b = -1 := by rw [hl, List.drop_eq_getElem_cons hlt]; rfl
      (repeat' (first | refine qS ?_ | (refine qR ?_; simp only [ak, reduceIte]; simp [f0, f1, hlt, hr]) | (refine qC ?_; simp [f0, f1, hlt, hr]) | (refine w_e [] ?_; intro J hJ; simp only []; simp [f0, f1, hlt, hr]; (refine hJ _ _ ?_; clear hJ J; simp only [ak, reduceIte]))))
    · have hr : lcmp a b = 0 := by rw [hl, List.drop_of_length_le (by omega)]; rfl
      (repeat' (first | refine qS ?_ | (refine qK ?_; simp only [ak, reduceIte]) | (refine qR ?_; simp only [ak, reduceIte]; simp [f0, f1, hlt, hr]) | (refine qC ?_; simp [f0, f1, hlt, hr]) | (refine w_e [] ?_; intro J hJ; simp only []; simp [f0, f1, hlt, hr]; (refine hJ _ _ ?_; clear hJ J; simp only [ak, reduceIte]))))
noncomputable def keyW (m : Mp) (c : List Int) : List Int := match ((endsL m.g.es c).map (walkL m)).foldl lea none with
  | none => [0]
  | some b => b
theorem walkL_len {m : Mp} (ho : MapOk m) {d : Int} (hd : d ∈ darts m.g.es) : 0 < (walkL m d).length ∧ (walkL m d).length ≤ 4 * m.g.es.length := by
  obtain ⟨D, hD⟩ := WSt.fin ho (dart_ends ho.g.ids hd).1 (hom_vs ho hd)
  rw [walkL_eq (.inr ⟨hd, D, hD, rfl⟩), tel_len]
  have h1 := (hD.isWk ho (dart_ends ho.g.ids hd).1).le
  have h2 := (hD.head ho (dart_ends ho.g.ids hd).1).2
  omega
def bestV : Option (List Int) → LV
  | none => .nil
  | some b => .sl 0 b.length (us b)
def BOk (m : Mp) (b : Option (List Int)) : Prop := ∀ l, b = some l → 0 < l.length ∧ l.length ≤ 4 * m.g.es.length
theorem BOk.lea {m : Mp} {b : Option (List Int)} (h : BOk m b) {l : List Int} (hl : 0 < l.length ∧ l.length ≤ 4 * m.g.es.length) : BOk m (Aw.lea b l) := by
  intro x hx
  cases b with
  | none => simp only [Aw.lea, Option.some.injEq] at hx; subst hx; exact hl
  | some b =>
    simp only [Aw.lea] at hx
    split at hx
    · simp only [Option.some.injEq] at hx; subst hx; exact hl
    · simp only [Option.some.injEq] at hx; subst hx; exact h _ rfl
set_option maxHeartbeats 2000000 in
theorem cLeast (m : Mp) (ho : MapOk m) (c : List Int) (t : Nat) (st : St) (hv : m.g.vs.length ≤ 1000) (he : m.g.es.length ≤ 1000) (hc : c.length ≤ 1000) :
    ACalls Tryz.prog 34 [.ag (mpL m), .sl t c.length (us c)] st fun r st' => r = .sl 0 (keyW m c).length (us (keyW m c)) ∧ Keeps st st' := by
  have hid : idOk m.g.es := fun x hx => by have := ho.g.pos x hx; omega
  refine acalls_z0 ?_
  refine qO tabOk Tryz.func34 rfl rfl Tryz.ntmps34 (rs := [.tmp 4]) rfl (by simp) ?_
  (repeat' (first | refine qS ?_ | refine qB ?_ | (refine w_e [] ?_; intro J hJ; simp only []; simp []; (refine hJ _ _ ?_; clear hJ J; simp only [ak, reduceIte]))))
  refine awp_range 13 12 14 39 (c.length) (fun j fr st2 => fr 2 = .pt st.next 0 ∧ fr 11 = .sl t c.length (us c) ∧ st.next < st2.next ∧ st2.H st.next = .box 28 3 (mpL m) ∧ Keeps st st2 ∧ fr 5 = bestV (((endsL m.g.es (c.take j)).map (walkL m)).foldl lea none) ∧ BOk m (((endsL m.g.es (c.take j)).map (walkL m)).foldl lea none)) ?_ ?_ ?_
  · exact ⟨by simp, by simp, by simp, by simp, Keeps.new _ _, by simp [endsL, bestV], fun l h => by simp [endsL] at h⟩
  · rintro jo fr s hlt ⟨f2, f11, hsn, hG, hkp, f5, hB⟩ fi fn JO hJO
    have hd := qG c jo hlt
    have htk : endsL m.g.es (c.take (jo + 1)) = endsL m.g.es (c.take jo) ++ ends m.g.es (c.getD jo 0) := by
      rw [List.take_succ_eq_append_getElem hlt, ← getD_lt _ _ hlt]; simp [endsL, List.flatMap_append]
    have hend : ∀ x ∈ ends m.g.es (c.getD jo 0), x ∈ darts m.g.es := fun x hx => ends_dart hx
    have hlen : (ends m.g.es (c.getD jo 0)).length ≤ 2 * m.g.es.length := by
      rw [← darts_length]
      exact List.Nodup.length_le_of_subset (rise_nodup (ends_rise ho.g.ids _)) fun x hx => hend x hx
    simp only [htk, List.map_append, List.foldl_append] at hJO
    generalize ((endsL m.g.es (c.take jo)).map (walkL m)).foldl lea none = b0 at *
    generalize c.getD jo 0 = v at *
    clear htk
    (repeat' (first | refine qS ?_ | (refine w_e [] ?_; intro J hJ; simp only []; simp [f2, f11, fi, fn, hd, hlt, hG]; (try (refine hJ _ _ ?_; clear hJ J; simp only [ak, reduceIte])))))
    refine qE (Ends m.g v _ (by omega) hid) (by simp) ?_; rintro r s1 ⟨⟨t1, rfl⟩, hk1⟩
    have hn1 := hk1.next
    have hG1 := (hk1.H st.next hsn).trans hG
    generalize ends m.g.es v = E at *
    (repeat' (first | refine qB ?_ | (refine e_go ?_; simp []; (refine hJ _ _ ?_; clear hJ J; simp only [ak, reduceIte]))))
    refine awp_range 22 21 23 38 (E.length) (fun j fr st2 => fr 2 = .pt st.next 0 ∧ fr 11 = .sl t c.length (us c) ∧ fr 12 = i c.length ∧ fr 13 = i (jo : Nat) ∧ fr 20 = .sl t1 E.length (us E) ∧ st.next < st2.next ∧ st2.H st.next = .box 28 3 (mpL m) ∧ Keeps st st2 ∧ fr 5 = bestV (((E.take j).map (walkL m)).foldl lea b0) ∧ BOk m (((E.take j).map (walkL m)).foldl lea b0)) ?_ ?_ ?_
    · exact ⟨by simp [f2], by simp [f11], by simp [fn], by simp [fi], by simp, by omega, hG1, hkp.trans hk1, by simp [f5], by simpa using hB⟩
    · clear f2 f11 fi fn hsn hG hkp f5 hB hn1 hG1 hd hk1 fr s s1
      rintro j fr s hlt2 ⟨f2, f11, f12, f13, f20, hsn, hG, hkp, f5, hB⟩ fi fn JI hJI
      have hd := qG E j hlt2
      have hxd := hend _ (getD_mem hlt2)
      have hxr := dart_range ho hxd
      have htk : (E.take (j + 1)).map (walkL m) = (E.take j).map (walkL m) ++ [walkL m (E.getD j 0)] := by
        rw [List.take_succ_eq_append_getElem hlt2, ← getD_lt _ _ hlt2, List.map_append]; rfl
      have hwl := walkL_len ho hxd
      simp only [htk, List.foldl_append, List.foldl_cons, List.foldl_nil] at hJI
      generalize ((E.take j).map (walkL m)).foldl lea b0 = b1 at *
      generalize E.getD j 0 = x at *
      have hBl := hB.lea hwl
      (repeat' (first | refine qS ?_ | (refine w_e [] ?_; intro J hJ; simp only []; simp [f2, f20, fi, fn, hd, hlt2, hG]; (try (refine hJ _ _ ?_; clear hJ J; simp only [ak, reduceIte])))))
      refine qE (cWalk m ho x _ hv he (by omega)) (by simp) ?_; rintro r s2 ⟨rfl, hk2⟩
      have hn2 := hk2.next
      have hG2 := (hk2.H st.next hsn).trans hG
      generalize walkL m x = l at *
      cases b1 with
      | none =>
        simp only [bestV] at f5
        (repeat' (first | refine qS ?_ | (refine qC ?_; simp [f5]) | ((first | (refine w_e [] ?_; intro J hJ; simp only []) | (refine e_go ?_)); simp [f5]; (refine hJ _ _ ?_; clear hJ J; simp only [ak, reduceIte]))))
        exact hJI _ _ (by simp [fi]) (by simp [fn]) ⟨by simp [f2], by simp [f11], by simp [f12], by simp [f13], by simp [f20], by omega, hG2, hkp.trans hk2, by simp [lea, bestV], hBl⟩
      | some b =>
        have hb := hB b rfl
        simp only [bestV] at f5
        have hb0 : ¬ b.length = 0 := by omega
        have hbn : ¬ b = [] := by rintro rfl; simp at hb0
        (repeat' (first | refine qS ?_ | ((first | (refine w_e [] ?_; intro J hJ; simp only []) | (refine e_go ?_)); simp [f5, hb0, hbn]; (try (refine hJ _ _ ?_; clear hJ J; simp only [ak, reduceIte])))))
        refine qE (sCompare l b 0 0 _ (by omega) (by omega)) (by simp) ?_; rintro r _ ⟨rfl, rfl⟩
        by_cases hlt3 : lcmp l b < 0
        · have hle : lea (some b) l = some l := by simp only [lea]; rw [if_pos hlt3]
          rw [hle] at hJI hBl
          (repeat' (first | (refine qC ?_; simp [hlt3]) | ((first | (refine w_e [] ?_; intro J hJ; simp only []) | (refine e_go ?_)); simp [hlt3]; (refine hJ _ _ ?_; clear hJ J; simp only [ak, reduceIte]))))
          exact hJI _ _ (by simp [fi]) (by simp [fn]) ⟨by simp [f2], by simp [f11], by simp [f12], by simp [f13], by simp [f20], by omega, hG2, hkp.trans hk2, by simp [bestV], hBl⟩
        · have hle : lea (some b) l = some b := by simp only [lea]; rw [if_neg hlt3]
          rw [hle] at hJI hBl
          (repeat' (first | (refine qK ?_; simp only [ak, reduceIte]) | (refine qC ?_; simp [hlt3]) | (refine e_go ?_; simp [hlt3]; (refine hJ _ _ ?_; clear hJ J; simp only [ak, reduceIte]))))
          exact hJI _ _ (by simp [fi]) (by simp [fn]) ⟨by simp [f2], by simp [f11], by simp [f12], by simp [f13], by simp [f20], by omega, hG2, hkp.trans hk2, by simp [f5, bestV], hBl⟩
    · rintro fr s ⟨f2, f11, f12, f13, f20, hsn, hG, hkp, f5, hB⟩
      rw [List.take_length] at f5 hB
      simp only [ak]
      exact hJO _ _ (by simp [f13]) (by simp [f12]) ⟨by simp [f2], by simp [f11], by omega, hG, hkp, by simp [f5], hB⟩
  · rintro fr s ⟨f2, f11, hsn, hG, hkp, f5, hB⟩
    rw [List.take_length] at f5 hB
    have hkey : keyW m c = match ((endsL m.g.es c).map (walkL m)).foldl lea none with | none => [0] | some b => b := rfl
    generalize ((endsL m.g.es c).map (walkL m)).foldl lea none = b0 at *
    cases b0 with
    | none =>
      simp only [bestV] at f5
      (repeat' (first | refine qS ?_ | (refine qR ?_; simp only [ak, reduceIte]; simp [f5, hkey]) | (refine qC ?_; simp [f5, hkey]) | (refine w_e [] ?_; intro J hJ; simp only []; simp [f5, hkey]; (refine hJ _ _ ?_; clear hJ J; simp only [ak, reduceIte]))))
      exact ⟨by simp [z0, z0L], hkp.trans (Keeps.new _ _)⟩
    | some b =>
      have hb := (hB b rfl).1
      have hb0 : ¬ b.length = 0 := by omega
      have hbn : ¬ b = [] := by rintro rfl; simp at hb0
      simp only [bestV] at f5
      (repeat' (first | refine qS ?_ | (refine qK ?_; simp only [ak, reduceIte]) | (refine qR ?_; simp only [ak, reduceIte]; simp [f5, hkey, hb0, hbn]) | (refine qC ?_; simp [f5, hkey, hb0, hbn]) | (refine w_e [] ?_; intro J hJ; simp only []; simp [f5, hkey, hb0, hbn]; (refine hJ _ _ ?_; clear hJ J; simp only [ak, reduceIte]))))
      exact ⟨by simp [z0, z0L_map], hkp⟩
def IsCode (m : Mp) (c : List Int) : Prop := ∃ P S : List (List Int), PartsTo m.g m.g.vs.length P ∧ S.Perm (P.map fun x => withLen (keyW m x)) ∧ S.Pairwise Lle ∧ c = (S.length : Int) :: S.flatten
abbrev tabN (T : List (List Int)) (x : Int) : Nat := (T.getD x.toNat []).length
abbrev tabC (T : List (List Int)) (x : Int) : List LV := us (T.getD x.toNat [])
theorem cmp_table {T : List (List Int)} (hT : T.Pairwise fun a b => lcmp a b < 0) :
    CA.CmpW 37 [] (tabN T) (tabC T) (fun x => (0 ≤ x ∧ x.toNat < T.length) ∧ tabN T x ≤ 1000000) := by
  refine ⟨fun x y st hx hy => ?_⟩
  refine (sCompare (T.getD x.toNat []) (T.getD y.toNat []) 0 0 st hx.2 hy.2).mono ?_
  rintro r st' ⟨rfl, rfl⟩
  refine ⟨⟨_, rfl, ?_⟩, rfl⟩
  rw [table_lt hT hx.1.2 hy.1.2]
  omega
theorem ws_table {T R : List (List Int)} (h : ∀ r ∈ R, r ∈ T) : CA.ws (tabN T) (tabC T) (R.map fun r => (T.idxOf r : Int)) = rowsL3 R := by
  unfold CA.ws rowsL3
  rw [List.map_map]
  refine List.map_congr_left fun r hr => ?_
  have := (table_idx (h r hr)).2
  simp only [Function.comp_apply, tabN, tabC, Int.toNat_natCast]
  rw [this]
def unlab (T : List (List Int)) (c : List Int) : List (List Int) := c.map fun x => T.getD x.toNat []
theorem ws_unlab (T : List (List Int)) (c : List Int) : CA.ws (tabN T) (tabC T) c = rowsL3 (unlab T c) := by
  unfold CA.ws rowsL3 unlab; rw [List.map_map]; rfl
theorem unlab_lab {T R : List (List Int)} (h : ∀ r ∈ R, r ∈ T) : unlab T (R.map fun r => (T.idxOf r : Int)) = R := by
  unfold unlab
  rw [List.map_map]
  conv => rhs; rw [← List.map_id R]
  refine List.map_congr_left fun r hr => ?_
  simp only [Function.comp_apply, Int.toNat_natCast]
  exact (table_idx (h r hr)).2
theorem unlab_sorted {T : List (List Int)} (hT : T.Pairwise fun a b => lcmp a b < 0) {c : List Int} (hc : ∀ x ∈ c, 0 ≤ x ∧ x.toNat < T.length) (hs : c.Pairwise (· ≤ ·)) : (unlab T c).Pairwise Lle := by
  unfold unlab
  rw [List.pairwise_map]
  refine hs.imp_of_mem fun {x y} hx hy h => ?_
  obtain ⟨x1, x2⟩ := hc x hx
  obtain ⟨y1, y2⟩ := hc y hy
  rcases Int.lt_or_eq_of_le h with h | h
  · exact Int.le_of_lt ((table_lt hT x2 y2).2 (by omega))
  · subst h; unfold Lle; rw [lcmp_self]; omega
theorem keyW_len (m : Mp) (ho : MapOk m) (c : List Int) : (keyW m c).length ≤ 4 * m.g.es.length + 1 := by
  unfold keyW
  by_cases h : (endsL m.g.es c).map (walkL m) = []
  · rw [h]; simp
  · obtain ⟨x, h1, h2, _⟩ := lea_least h
    rw [h1]
    obtain ⟨d, hd, rfl⟩ := List.mem_map.1 h2
    obtain ⟨v, _, hd⟩ := List.mem_flatMap.1 hd
    have := (walkL_len ho (ends_dart hd)).2
    simp only; omega
theorem flat_map0 (S : List (List Int)) : flat (S.map fun r => (0, r)) = S.flatten := by simp [flat, List.map_map, Function.comp_def]
theorem rows3_dropA (R : List (List Int)) (k : Nat) (hk : k < R.length) : (rowsL3 R).drop k = .sl 0 (R.getD k []).length (us (R.getD k [])) :: rowsL3 (R.drop (k + 1)) := by
  rw [List.getD_eq_getElem?_getD, List.getElem?_eq_getElem hk, rowsL3, rowsL3, ← List.map_drop, List.drop_eq_getElem_cons hk]; rfl
theorem parts_mem {g : Gr} {k : Nat} {R : List (List Int)} (h : PartsTo g k R) : ∀ c ∈ R, ∃ v ∈ g.vs, IsPart g v c := by
  induction h with
  | zero => intro c hc; simp at hc
  | seen _ _ _ ih => exact ih
  | lead _ hk _ hc ih =>
    intro c hc'
    rcases List.mem_append.1 hc' with h1 | h1
    · exact ih c h1
    · rw [List.mem_singleton] at h1; subst h1
      exact ⟨_, getD_mem hk, hc⟩
theorem part_len {g : Gr} {v : Int} {c : List Int} (h : IsPart g v c) : c.length ≤ g.vs.length :=
  List.Nodup.length_le_of_subset (h.1.imp fun h => by omega) fun w hw => ((h.2 w).1 hw).1
set_option maxHeartbeats 4000000 in
theorem cCode (m : Mp) (ho : MapOk m) (st : St) (hv : m.g.vs.length ≤ 100) (he : m.g.es.length ≤ 100) :
    ACalls Tryz.prog 16 [.ag (mpL m)] st fun r st' => (∃ c, r = .sl 0 c.length (us c) ∧ IsCode m c) ∧ Keeps st st' := by
  refine qO tabOk Tryz.func16 rfl rfl Tryz.ntmps16 (rs := [.tmp 2]) rfl (by simp) ?_
  (repeat (refine qS ?_)); (refine w_e [] ?_; intro J hJ; simp only []; simp []; (refine hJ _ _ ?_; clear hJ J; simp only [ak, reduceIte]))
  (repeat (refine qS ?_)); (refine w_e [] ?_; intro J hJ; simp only []; simp []; (refine hJ _ _ ?_; clear hJ J; simp only [ak, reduceIte]))
  refine awp_ownM 3 22 1 (by simp) ?_
  (repeat' (first | refine qS ?_ | (refine w_e [] ?_; intro J hJ; simp only []; simp [])))
  refine qE (Parts m.g _ ho.g.toGood (by omega) (by omega)) (by simp) ?_; rintro r s1 ⟨⟨t1, P, rfl, hP⟩, hk1⟩
  have hn1 := hk1.next
  simp only [new_next] at hn1
  have hG1 : s1.H st.next = .box 28 3 (mpL m) := by rw [hk1.H _ (by simp; omega)]; simp
  have hq1 : s1.H (st.next + 1) = .box 22 1 [] := by rw [hk1.H _ (by simp)]; simp
  have hPl := hP.len
  have hPr : (rowsL3 P).length = P.length := by simp [rowsL3]
  obtain ⟨R, hR⟩ : ∃ R : List (List Int), R = P.map fun x => withLen (keyW m x) := ⟨_, rfl⟩
  have hRl : R.length = P.length := by rw [hR]; simp
  (repeat' (first | refine qB ?_ | (refine e_go ?_; simp []; (refine hJ _ _ ?_; clear hJ J; simp only [ak, reduceIte]))))
  refine awp_range 11 10 12 28 (P.length) (fun j fr st2 => fr 1 = .pt st.next 0 ∧ fr 9 = .sl t1 P.length (rowsL3 P) ∧ ∃ q, fr 3 = .ms q 0 j ∧ st2.H q = .box 22 1 (rowsL3 (R.take j)) ∧ st.next < q ∧ q < st2.next ∧ st2.H st.next = .box 28 3 (mpL m) ∧ Keeps st st2) ?_ ?_ ?_
  · refine ⟨by simp, by simp, st.next + 1, by simp, by simpa [rowsL3] using hq1, by omega, by omega, hG1, ?_⟩
    exact ((Keeps.new _ _).trans (Keeps.new _ _)).trans hk1
  · rintro j fr s hlt ⟨f1, f9, q, f3, hq, hlo, hhi, hG, hkp⟩ fi fn J hJ
    have hd := rows3_dropA P j hlt
    have hcl : (P.getD j []).length ≤ 100 := by
      obtain ⟨v, _, h1⟩ := parts_mem hP (P.getD j []) (by rw [getR_lt _ _ hlt]; exact List.getElem_mem _)
      have := part_len h1; omega
    have hRt : R.take (j + 1) = R.take j ++ [withLen (keyW m (P.getD j []))] := by
      rw [List.take_succ_eq_append_getElem (by omega)]
      congr 2
      simp only [hR, List.getElem_map]
      rw [getR_lt _ _ hlt]
    have hkl := keyW_len m ho (P.getD j [])
    generalize P.getD j [] = c at *
    (repeat' (first | refine qS ?_ | (refine w_e [] ?_; intro J hJ; simp only []; simp [f1, f9, fi, fn, hd, hlt, hPr, hG]; (try (refine hJ _ _ ?_; clear hJ J; simp only [ak, reduceIte])))))
    refine qE (cLeast m ho c 0 _ (by omega) (by omega) (by omega)) (by simp) ?_; rintro r s2 ⟨rfl, hk2⟩
    generalize keyW m c = key at *
    have w1 : IntKind.u32.wrap (key.length : Int) = (key.length : Int) := wrap_u32' _ (by omega) (by omega)
    have hn2 := hk2.next
    have hq2 := (hk2.H q hhi).trans hq
    (repeat' ((first | (refine w_e [27] ?_; intro J hJ; simp only []) | (refine e_go ?_)); simp [w1, f3]; (try (refine hJ _ _ ?_; clear hJ J; simp only [ak, reduceIte]))))
    refine qE (Concat [(s2.next, [(key.length : Int)]), (0, key)] (s2.next + 1) _ (by simp) (by simp [total]; omega)) (by simp [rows]) ?_; rintro r s3 ⟨rfl, hk3⟩
    have hn3 := hk3.next
    simp only [new_next] at hn3
    have hfl : flat [(s2.next, [(key.length : Int)]), (0, key)] = withLen key := by simp [flat, withLen]
    rw [hfl]
    have hq3 : s3.H q = .box 22 1 (rowsL3 (R.take j)) := by
      rw [hk3.H q (by simp; omega), new_H, if_neg (by simp; omega), new_H, if_neg (by omega)]; exact hq2
    have hrl : (rowsL3 (R.take j)).length = j := by simp [rowsL3]; omega
    have e1 : ¬ q = s3.next := by omega
    have htk : (rowsL3 (R.take j)).take j = rowsL3 (R.take j) := List.take_of_length_le (by omega)
    (repeat' (refine e_go ?_; simp [hq3, e1, hrl, htk]; (repeat refine ca ?_); (refine hJ _ _ ?_; clear hJ J; simp only [ak, reduceIte])))
    refine hJ _ _ (by simp [fi]) (by simp [fn]) ⟨by simp [f1], by simp [f9], s3.next + 1, by simp, ?_, by omega, by simp, ?_, ?_⟩
    · rw [hRt]
      simp [rowsL3, List.take_take]
    · have hG2 := (hk2.H st.next (by omega)).trans hG
      have hG3 : s3.H st.next = .box 28 3 (mpL m) := by rw [hk3.H _ (by simp; omega), new_H, if_neg (by simp; omega), new_H, if_neg (by omega)]; exact hG2
      simp [show ¬ st.next = s3.next + 1 by omega, show ¬ st.next = q by omega, show ¬ st.next = s3.next by omega, hG3]
    · have hkq : Keeps st s3 := (((hkp.trans hk2).trans (Keeps.new _ _)).trans (Keeps.new _ _)).trans hk3
      exact ((hkq.trans (Keeps.new _ _)).set (by omega) _).trans (Keeps.new _ _)
  · rintro fr s ⟨f1, f9, q, f3, hq, hlo, hhi, hG, hkp⟩
    rw [List.take_of_length_le (by omega)] at hq
    obtain ⟨T, hT, hTR⟩ := table_ex R
    have hlab := ws_table hTR
    have hRs : ∀ r ∈ R, r.length ≤ 500 := fun r hr => by
      rw [hR] at hr
      obtain ⟨c, _, rfl⟩ := List.mem_map.1 hr
      have := keyW_len m ho c
      simp only [withLen, List.length_cons]; omega
    rw [← hlab] at hq
    obtain ⟨L, hL⟩ : ∃ L : List Int, L = R.map fun r => (T.idxOf r : Int) := ⟨_, rfl⟩
    rw [← hL] at hq
    have hLl : L.length = P.length := by rw [hL, List.length_map, hRl]
    have hDm : ∀ x ∈ L, (0 ≤ x ∧ x.toNat < T.length) ∧ tabN T x ≤ 1000000 := fun x hx => by
      rw [hL] at hx
      obtain ⟨r, hr, rfl⟩ := List.mem_map.1 hx
      obtain ⟨h1, h2⟩ := table_idx (hTR r hr)
      refine ⟨⟨by omega, by simpa using h1⟩, ?_⟩
      simp only [tabN, Int.toNat_natCast, h2]
      have := hRs r hr; omega
    have hS := CA.SortW (cmp_table hT) L q s hDm (by omega) hhi hq
    rw [hLl] at hS
    (repeat (refine qS ?_)); (refine w_e [] ?_; intro J hJ; simp only []; simp [f3])
    refine qE hS (by simp) ?_; rintro r s2 ⟨c, hq2, hpm, hs, hof⟩
    rw [ws_unlab] at hq2
    have hcd : ∀ x ∈ c, 0 ≤ x ∧ x.toNat < T.length := fun x hx => (hDm x (hpm.mem_iff.1 hx)).1
    have hSs := unlab_sorted hT hcd hs
    have hSp : (unlab T c).Perm R := by
      have h1 : (unlab T c).Perm (unlab T L) := hpm.map _
      rwa [hL, unlab_lab hTR] at h1
    generalize unlab T c = S at *
    have hSl : S.length = P.length := by rw [hSp.length_eq, hRl]
    have hkp2 : Keeps st s2 := ⟨Nat.le_trans hkp.next hof.1, fun l hl => by rw [hof.2 l (by omega) (by have := hkp.next; omega), hkp.H l hl]⟩
    (refine e_go ?_; simp []; (refine hJ _ _ ?_; clear hJ J; simp only [ak, reduceIte]))
    refine awp_freeze 3 (l := q) (n := P.length) (by simp [f3]) hq2 (by simp [rowsL3]; omega) ?_
    have htk : (rowsL3 S).take (P.length * 1) = rowsL3 S := List.take_of_length_le (by simp [rowsL3]; omega)
    rw [htk]
    have w1 : IntKind.u32.wrap (P.length : Int) = (P.length : Int) := wrap_u32' _ (by omega) (by omega)
    have htot : total (S.map fun r => (0, r)) ≤ 4000000 := by
      have : ∀ (S : List (List Int)), (∀ r ∈ S, r.length ≤ 500) → total (S.map fun r => (0, r)) ≤ 500 * S.length := by
        intro S
        induction S with
        | nil => intro _; simp [total]
        | cons r S ih =>
          intro h
          have h1 := ih fun x hx => h x (List.mem_cons_of_mem _ hx)
          have h2 := h r (by simp)
          simp only [total, List.map_cons, List.sum_cons, List.length_cons] at h1 ⊢
          omega
      have := this S fun r hr => hRs r (hSp.mem_iff.1 hr)
      omega
    have hfl := flat_length (S.map fun r => (0, r))
    rw [flat_map0] at hfl
    (repeat' (first | refine qS ?_ | (refine w_e [] ?_; intro J hJ; simp only []; simp [w1])))
    refine qE (Concat (S.map fun r => (0, r)) 0 _ (by simp; omega) (by omega)) (by simp [rows, rowsL3, hSl]) ?_; rintro r s3 ⟨rfl, hk3⟩
    rw [flat_map0]
    have hn3 := hk3.next
    simp only [set_next, new_next] at hn3
    (repeat' (refine e_go ?_; simp []))
    refine qE (Concat [(s2.next, [(P.length : Int)]), (0, S.flatten)] s3.next _ (by simp) (by simp [total] at htot hfl ⊢; omega)) (by simp [rows]) ?_; rintro r s4 ⟨rfl, hk4⟩
    have hfl2 : flat [(s2.next, [(P.length : Int)]), (0, S.flatten)] = (S.length : Int) :: S.flatten := by simp [flat, hSl]
    rw [hfl2]
    (repeat' (first | (refine qR ?_; simp only [ak, reduceIte]; simp []) | (refine e_go ?_; simp []; (refine hJ _ _ ?_; clear hJ J; simp only [ak, reduceIte]))))
    refine ⟨⟨(S.length : Int) :: S.flatten, by simp, P, S, hP, by rw [← hR]; exact hSp, hSs, rfl⟩, ?_⟩
    exact ((((hkp2.set (by omega) _).trans (Keeps.new _ _)).trans hk3).trans (Keeps.new _ _)).trans hk4
def LaidTo (a b : Mp) (x y : Int) : Prop := ∃ P φ, Iso a b P φ ∧ P x ∧ φ x = y
theorem IsPart.at {g : Gr} {v w : Int} {c : List Int} (h : IsPart g v c) (hw : w ∈ c) : IsPart g w c := by
  have hr := ((h.2 w).1 hw).2
  exact ⟨h.1, fun u => by rw [h.2]; exact ⟨fun ⟨h1, h2⟩ => ⟨h1, hr.symm.trans h2⟩, fun ⟨h1, h2⟩ => ⟨h1, hr.trans h2⟩⟩⟩
theorem part_walk {m : Mp} (ho : MapOk m) {v : Int} {c : List Int} (hc : IsPart m.g v c) {d : Int} (hd : d ∈ endsL m.g.es c) : d ∈ darts m.g.es ∧ hom m.g.es d ∈ c ∧ ∃ D, WEnd m (hom m.g.es d) d D ∧ D.Perm (endsL m.g.es c) ∧ (wV m.g.es (hom m.g.es d) D).Perm c ∧ walkL m d = tel m (hom m.g.es d) D := by
  obtain ⟨w, hw, h1⟩ := List.mem_flatMap.1 hd
  have hdd := ends_dart h1
  have hh := hom_of ho.g.ids h1
  obtain ⟨D, hD⟩ := WSt.fin ho (dart_ends ho.g.ids hdd).1 (hom_vs ho hdd)
  have hwk := hD.isWk ho (dart_ends ho.g.ids hdd).1
  obtain ⟨k1, k2⟩ := hwk.perm ho (hom_vs ho hdd) (by rw [hh]; exact hc.at hw)
  exact ⟨hdd, by rw [hh]; exact hw, D, hD, k1, k2, walkL_eq (.inr ⟨hdd, D, hD, rfl⟩)⟩
theorem part_one {m : Mp} (ho : MapOk m) {v : Int} {c : List Int} (hc : IsPart m.g v c) (hv : v ∈ m.g.vs) (h0 : endsL m.g.es c = []) : c = [v] := by
  have hvc : v ∈ c := (hc.2 v).2 ⟨hv, .refl⟩
  have hve : ends m.g.es v = [] := by
    cases h : ends m.g.es v with
    | nil => rfl
    | cons d l =>
      have : d ∈ endsL m.g.es c := List.mem_flatMap.2 ⟨v, hvc, by rw [h]; simp⟩
      rw [h0] at this; simp at this
  have hall : ∀ w ∈ c, w = v := fun w hw => by
    refine ((hc.2 w).1 hw).2.closed (L := fun w => w = v) rfl fun u hu w hw => ?_
    subst hu
    exfalso
    obtain ⟨x, hx, ⟨h1, _⟩ | ⟨h1, _⟩⟩ := mem_nbr.1 hw
    · have : 2 * x.id ∈ ends m.g.es u := mem_ends.2 ⟨x, hx, .inl ⟨h1, rfl⟩⟩
      rw [hve] at this; simp at this
    · have : 2 * x.id + 1 ∈ ends m.g.es u := mem_ends.2 ⟨x, hx, .inr ⟨h1, rfl⟩⟩
      rw [hve] at this; simp at this
  exact rise_unique hc.1 (List.pairwise_singleton _ _) fun w => by
    rw [List.mem_singleton]
    exact ⟨hall w, fun e => e ▸ hvc⟩
section
variable {a b : Mp} (ha : MapOk a) (hb : MapOk b)
include ha hb
theorem Iso.patV {P : Int → Prop} {φ : Int → Int} (h : Iso a b P φ) {d : Int} (hd : P d) {D : List Int} (h3 : ∀ y ∈ D, P y) : (wV a.g.es (Aw.hom a.g.es d) D).length = (wV b.g.es (Aw.hom b.g.es (φ d)) (D.map φ)).length := by
  have p2 : Pat (Aw.hom a.g.es d :: D.map (Aw.awy a.g.es)) (Aw.hom b.g.es (φ d) :: (D.map φ).map (Aw.awy b.g.es)) := by
    have e1 : Aw.hom a.g.es d :: D.map (Aw.awy a.g.es) = (d :: D.map Aw.tw).map (Aw.hom a.g.es) := by
      rw [List.map_cons, List.map_map]
      exact congrArg _ (List.map_congr_left fun x hx => (hom_tw ha.g.ids (h.dart x (h3 x hx))).symm)
    have e2 : Aw.hom b.g.es (φ d) :: (D.map φ).map (Aw.awy b.g.es) = (d :: D.map Aw.tw).map (fun x => Aw.hom b.g.es (φ x)) := by
      rw [List.map_cons, List.map_map, List.map_map]
      refine congrArg _ (List.map_congr_left fun x hx => ?_)
      simp only [Function.comp_apply]
      rw [(h.tw x (h3 x hx)).2, hom_tw hb.g.ids (h.to x (h3 x hx))]
    rw [e1, e2]
    refine pat_of _ _ _ fun x hx y hy => ?_
    have hP : ∀ x ∈ d :: D.map Aw.tw, P x := fun x hx => by
      rcases List.mem_cons.1 hx with rfl | hx
      · exact hd
      · obtain ⟨z, hz, rfl⟩ := List.mem_map.1 hx
        exact (h.tw z (h3 z hz)).1
    exact h.hom ha hb (hP x hx) (hP y hy)
  rw [wV_nms, wV_nms]
  obtain ⟨g, e, hg⟩ := p2.map
  rw [e]
  have := nms_map (g := g) (Aw.hom a.g.es d :: D.map (Aw.awy a.g.es)) [] fun y hy z hz => hg y (by simpa using hy) z (by simpa using hz)
  rw [List.map_nil] at this
  rw [this, List.length_map]
theorem laid_part {P : Int → Prop} {φ : Int → Int} (h : Iso a b P φ) {v w : Int} {x y : List Int} (hx : IsPart a.g v x) (hy : IsPart b.g w y) {p : Int} (hp : P p) (hpx : p ∈ endsL a.g.es x) (hpy : φ p ∈ endsL b.g.es y) :
    (∀ d ∈ endsL a.g.es x, P d ∧ φ d ∈ endsL b.g.es y ∧ walkL a d = walkL b (φ d)) ∧ (∀ d ∈ endsL b.g.es y, ∃ e ∈ endsL a.g.es x, φ e = d) ∧ x.length = y.length ∧ (endsL a.g.es x).length = (endsL b.g.es y).length := by
  obtain ⟨k1, k2, D, hD, q1, q2, q3⟩ := part_walk ha hx hpx
  obtain ⟨l1, l2, D', hD', r1, r2, r3⟩ := part_walk hb hy hpy
  obtain ⟨m1, m2, m3⟩ := h.tel ha hb hp hD
  obtain rfl := hD'.unique m1
  refine ⟨fun d hd => ?_, fun d hd => ?_, ?_, ?_⟩
  · have hdD := q1.mem_iff.2 hd
    have hPd := m2 d hdD
    have hφ : φ d ∈ endsL b.g.es y := r1.mem_iff.1 (List.mem_map.2 ⟨d, hdD, rfl⟩)
    refine ⟨hPd, hφ, ?_⟩
    obtain ⟨_, _, E, hE, _, _, s3⟩ := part_walk ha hx hd
    obtain ⟨n1, _, n3⟩ := h.tel ha hb hPd hE
    rw [s3, walkL_eq (.inr ⟨h.to d hPd, _, n1, rfl⟩), n3]
  · obtain ⟨e, he, rfl⟩ := List.mem_map.1 (r1.mem_iff.2 hd)
    exact ⟨e, q1.mem_iff.1 he, rfl⟩
  · rw [← q2.length_eq, ← r2.length_eq]
    exact h.patV ha hb hp m2
  · rw [← q1.length_eq, ← r1.length_eq, List.length_map]
def PartEq (a b : Mp) (x y : List Int) : Prop := x.length = y.length ∧ (endsL a.g.es x).length = (endsL b.g.es y).length ∧ (endsL a.g.es x = [] ∨ ∃ d ∈ endsL b.g.es y, LaidTo a b ((endsL a.g.es x).getD 0 0) d)
theorem key_part {v w : Int} {x y : List Int} (hv : v ∈ a.g.vs) (hw : w ∈ b.g.vs) (hx : IsPart a.g v x) (hy : IsPart b.g w y) : keyW a x = keyW b y ↔ PartEq a b x y := by
  have hone : ∀ {m : Mp} {c : List Int}, endsL m.g.es c = [] → keyW m c = [0] := fun {m c} h => by unfold keyW; rw [h]; rfl
  have hkey : ∀ {m : Mp} {c : List Int}, endsL m.g.es c ≠ [] → ∃ d ∈ endsL m.g.es c, keyW m c = walkL m d := fun {m c} h => by
    obtain ⟨l, h1, h2, _⟩ := lea_least (W := (endsL m.g.es c).map (walkL m)) (by simpa using h)
    obtain ⟨d, hd, rfl⟩ := List.mem_map.1 h2
    exact ⟨d, hd, by unfold keyW; rw [h1]⟩
  have hne : ∀ {m : Mp} {v : Int} {c : List Int} {d : Int}, MapOk m → IsPart m.g v c → d ∈ endsL m.g.es c → walkL m d ≠ [0] := fun {m v c d} ho hc hd e => by
    obtain ⟨_, _, D, _, _, _, h⟩ := part_walk ho hc hd
    rw [h] at e
    have := congrArg List.length e
    rw [tel_len] at this
    simp at this; omega
  by_cases h0 : endsL a.g.es x = []
  · rw [hone h0]
    by_cases k0 : endsL b.g.es y = []
    · rw [hone k0]
      refine ⟨fun _ => ⟨?_, by rw [h0, k0], .inl h0⟩, fun _ => rfl⟩
      rw [part_one ha hx hv h0, part_one hb hy hw k0, List.length_singleton, List.length_singleton]
    · constructor
      · intro e
        obtain ⟨d, hd, h1⟩ := hkey k0
        exact absurd (h1.symm.trans e.symm) (hne hb hy hd)
      · rintro ⟨_, h1, _⟩
        rw [h0] at h1
        exact absurd (List.eq_nil_of_length_eq_zero h1.symm) k0
  · have hp0 : (endsL a.g.es x).getD 0 0 ∈ endsL a.g.es x := getD_mem (List.length_pos_iff.2 h0)
    constructor
    · intro e
      have k0 : endsL b.g.es y ≠ [] := fun k0 => by
        obtain ⟨d, hd, h1⟩ := hkey h0
        rw [hone k0] at e
        exact hne ha hx hd (h1.symm.trans e)
      obtain ⟨d1, hd1, h1⟩ := hkey h0
      obtain ⟨d2, hd2, h2⟩ := hkey k0
      rw [h1, h2] at e
      obtain ⟨k1, k2, D, hD, q1, q2, q3⟩ := part_walk ha hx hd1
      obtain ⟨l1, l2, D', hD', r1, r2, r3⟩ := part_walk hb hy hd2
      rw [q3, r3] at e
      obtain ⟨φ, hI, hφ⟩ := iso_of_tel ha hb (dart_ends ha.g.ids k1).1 (dart_ends hb.g.ids l1).1 hD hD' e
      obtain ⟨s1, s2, s3, s4⟩ := laid_part ha hb hI hx hy (q1.mem_iff.2 hd1) hd1 (by rw [hφ]; exact hd2)
      refine ⟨s3, s4, .inr ⟨_, (s1 _ hp0).2.1, _, φ, hI, (s1 _ hp0).1, rfl⟩⟩
    · rintro ⟨_, _, h1 | ⟨d, hd, P, φ, hI, hP, rfl⟩⟩
      · exact absurd h1 h0
      · obtain ⟨s1, s2, _, _⟩ := laid_part ha hb hI hx hy hP hp0 hd
        unfold keyW
        rw [lea_same (W' := (endsL b.g.es y).map (walkL b)) fun l => ?_]
        rw [List.mem_map, List.mem_map]
        constructor
        · rintro ⟨e, he, rfl⟩
          exact ⟨φ e, (s1 e he).2.1, (s1 e he).2.2.symm⟩
        · rintro ⟨e, he, rfl⟩
          obtain ⟨z, hz, rfl⟩ := s2 e he
          exact ⟨z, hz, (s1 z hz).2.2⟩
omit ha hb in
theorem withLen_flat {S : List (List Int)} {R : List (List Int)} (h : S.Perm (R.map withLen)) : ∃ S' : List (List Int), S = S'.map withLen ∧ S'.Perm R := by
  have h1 : ∀ s ∈ S, ∃ r, s = withLen r := fun s hs => by
    obtain ⟨r, _, rfl⟩ := List.mem_map.1 (h.mem_iff.1 hs)
    exact ⟨r, rfl⟩
  have h2 : S = (S.map List.tail).map withLen := by
    rw [List.map_map]
    conv => lhs; rw [← List.map_id S]
    refine List.map_congr_left fun s hs => ?_
    obtain ⟨r, rfl⟩ := h1 s hs
    rfl
  refine ⟨S.map List.tail, h2, ?_⟩
  have h3 := h.map List.tail
  rw [List.map_map] at h3
  have : (R.map (List.tail ∘ withLen)) = R := by
    conv => rhs; rw [← List.map_id R]
    exact List.map_congr_left fun r _ => rfl
  rwa [this] at h3
omit ha hb in
theorem code_iff {c c' : List Int} {A B : List (List Int)} (hc : IsCode a c) (hc' : IsCode b c') (hA : PartsTo a.g a.g.vs.length A) (hB : PartsTo b.g b.g.vs.length B) : c = c' ↔ (A.map (keyW a)).Perm (B.map (keyW b)) := by
  obtain ⟨A', S, hA', hS, hs, rfl⟩ := hc
  obtain ⟨B', S', hB', hS', hs', rfl⟩ := hc'
  obtain rfl := hA.unique hA'
  obtain rfl := hB.unique hB'
  rw [show (A.map fun x => withLen (keyW a x)) = (A.map (keyW a)).map withLen by rw [List.map_map]; rfl] at hS
  rw [show (B.map fun x => withLen (keyW b x)) = (B.map (keyW b)).map withLen by rw [List.map_map]; rfl] at hS'
  constructor
  · intro e
    simp only [List.cons.injEq] at e
    obtain ⟨R, rfl, h1⟩ := withLen_flat hS
    obtain ⟨R', rfl, h2⟩ := withLen_flat hS'
    have h3 := flat_inj (A := R) (B := R') (by have := e.1; simp at this; omega) e.2
    subst h3
    exact h1.symm.trans h2
  · intro h
    have : S.Perm S' := hS.trans ((h.map withLen).trans hS'.symm)
    rw [sorted_unique this hs hs']
end
theorem twin33 (d : Int) (st : St) (h0 : 0 ≤ d) (h1 : d < 4294967295) : ACalls Tryz.prog 72 [u d] st fun r st' => r = u (tw d) ∧ st' = st := by
  have hm : d.tmod 2 = d % 2 := Int.tmod_eq_emod_of_nonneg h0
  by_cases hp : d % 2 = 0
  · have ht : tw d = d + 1 := by unfold tw; rw [if_pos hp]
    have hw : IntKind.u32.wrap (d + 1) = d + 1 := wrap_u32' _ (by omega) (by omega)
    refine qO tabOk Tryz.func72 rfl rfl Tryz.ntmps72 (rs := [.tmp 2]) rfl (by simp) ?_
    (repeat' (first | refine qS ?_ | (refine qR ?_; simp only [ak, reduceIte]; simp [hm, hp, ht, hw]) | (refine qC ?_; simp [hm, hp, ht, hw]) | (refine w_e [] ?_; intro J hJ; simp only []; simp [hm, hp, ht, hw]; (refine hJ _ _ ?_; clear hJ J; simp only [ak, reduceIte]))))
  · have ht : tw d = d - 1 := by unfold tw; rw [if_neg hp]
    have hw : IntKind.u32.wrap (d - 1) = d - 1 := wrap_u32' _ (by omega) (by omega)
    refine qO tabOk Tryz.func72 rfl rfl Tryz.ntmps72 (rs := [.tmp 2]) rfl (by simp) ?_
    (repeat' (first | refine qS ?_ | (refine qK ?_; simp only [ak, reduceIte]) | (refine qR ?_; simp only [ak, reduceIte]; simp [hm, hp, ht, hw]) | (refine qC ?_; simp [hm, hp, ht, hw]) | (refine w_e [] ?_; intro J hJ; simp only []; simp [hm, hp, ht, hw]; (refine hJ _ _ ?_; clear hJ J; simp only [ak, reduceIte]))))
theorem next33K (m : Mp) (ho : MapOk m) (d : Int) (st : St) (hv : m.g.vs.length ≤ 1000) (he : m.g.es.length ≤ 1000) (hd : d ∈ darts m.g.es) :
    ACalls Tryz.prog 73 [.ag (mpL m), u d] st fun r st' => r = u (sg m d) ∧ Keeps st st' := by
  have hsm : ∀ t ∈ m.rots, small t := fun t ht => by have := ho.row_le ht; unfold small; omega
  have hrl : m.rots.length ≤ 1000 := by rw [ho.len]; exact hv
  obtain ⟨k, hk, hkt, hdk⟩ := tix_in (ho.turn_of hd)
  have hdr := rowsL_drop m.rots k hk
  have htin : m.rots.getD k [] ∈ m.rots := by rw [getR_lt _ _ hk]; exact List.getElem_mem _
  have hs := sg_at ho htin hdk
  have hst := hsm _ htin
  have hkR : k < (rowsL m.rots).length := by simpa using hk
  generalize m.rots.getD k [] = t at *
  refine qO tabOk Tryz.func73 rfl rfl Tryz.ntmps73 (rs := [.tmp 4]) rfl (by simp) ?_
  (repeat' (first | refine qS ?_ | (refine w_e [] ?_; intro J hJ; simp only []; simp []; (refine hJ _ _ ?_; clear hJ J; simp only [ak, reduceIte]))))
  (refine w_s [] [st.next] [(0, true), (1, true), (2, true), (3, true), (7, true), (4, true), (5, true), (6, true), (8, true), (9, true)] ?_; intro J hJ; simp [])
  refine qD (ref_Turn m d _ hrl hsm) (by simp) ?_; rintro r s2 ⟨rfl, hk2⟩
  have hG2 : s2.H st.next = .box 28 3 (mpL m) := by rw [hk2.H _ (by simp)]; simp
  rw [hkt]
  refine ⟨fun h => by first | (cases h; done) | simp [hG2], ?_⟩
  (refine d_go ?_; simp [hG2, hdr, hkR, hk])
  refine qD (ref_Next t 0 d _ hst) (by simp) ?_; rintro r _ ⟨rfl, rfl⟩
  refine ⟨fun h => by first | (cases h; done) | simp [hG2], ?_⟩
  rw [← hs]
  (refine d_go ?_; simp [hG2]; (refine hJ _ _ ?_; clear hJ J; simp only [ak, reduceIte]))
  (repeat' (refine qR ?_; simp only [ak, reduceIte]; simp []))
  exact (Keeps.new _ _).trans hk2
theorem next33 (m : Mp) (ho : MapOk m) (d : Int) (st : St) (hv : m.g.vs.length ≤ 1000) (he : m.g.es.length ≤ 1000) (hd : d ∈ darts m.g.es) :
    ACalls Tryz.prog 73 [.ag (mpL m), u d] st fun r st' => r = u (sg m d) ∧ st' = st :=
  qT (next33K m ho d st hv he hd) fun r h => by subst h; trivial
structure LaI (a b : Mp) (x y : Int) (F T : List Int) : Prop where
  len : F.length = T.length
  nd : F.Nodup
  nd' : T.Nodup
  dart : ∀ z ∈ F, z ∈ darts a.g.es ∧ Reach a.g.es (hom a.g.es x) (hom a.g.es z)
  dart' : ∀ z ∈ T, z ∈ darts b.g.es
  head : F.getD 0 0 = x ∧ T.getD 0 0 = y ∧ 0 < F.length
  uni : ∀ P φ, Iso a b P φ → P x → φ x = y → (∀ z ∈ F, P z) ∧ T = F.map φ
def At2 (F T : List Int) (w w' : Int) : Prop := ∃ i, i < F.length ∧ F.getD i 0 = w ∧ T.getD i 0 = w'
def LaC (a b : Mp) (F T : List Int) (k : Nat) : Prop := ∀ j, j < k → j < F.length → At2 F T (tw (F.getD j 0)) (tw (T.getD j 0)) ∧ At2 F T (sg a (F.getD j 0)) (sg b (T.getD j 0))
theorem At2.app {F T : List Int} (hl : F.length = T.length) {w w' : Int} (h : At2 F T w w') (A B : List Int) : At2 (F ++ A) (T ++ B) w w' := by
  obtain ⟨i, h1, h2, h3⟩ := h
  exact ⟨i, by simp; omega, by rw [getD_app_lt _ _ h1, h2], by rw [getD_app_lt _ _ (by omega), h3]⟩
theorem LaC.app {a b : Mp} {F T : List Int} {k : Nat} (h : LaC a b F T k) (hl : F.length = T.length) (hk : k ≤ F.length) (A B : List Int) : LaC a b (F ++ A) (T ++ B) k := by
  intro j hj _
  rw [getD_app_lt _ _ (by omega), getD_app_lt _ _ (by omega)]
  have := h j hj (by omega)
  exact ⟨this.1.app hl A B, this.2.app hl A B⟩
theorem LaI.start {a b : Mp} {x y : Int} (hx : x ∈ darts a.g.es) (hy : y ∈ darts b.g.es) : LaI a b x y [x] [y] := by
  refine ⟨rfl, by simp, by simp, fun z hz => ?_, fun z hz => ?_, ⟨rfl, rfl, by simp⟩, fun P φ hI hP hφ => ⟨?_, by simp [hφ]⟩⟩
  · rw [List.mem_singleton] at hz; subst hz; exact ⟨hx, .refl⟩
  · rw [List.mem_singleton] at hz; subst hz; exact hy
  · intro z hz; rw [List.mem_singleton] at hz; subst hz; exact hP
theorem LaI.le {a b : Mp} {x y : Int} {F T : List Int} (h : LaI a b x y F T) : F.length ≤ 2 * a.g.es.length := by
  rw [← darts_length]
  exact List.Nodup.length_le_of_subset h.nd fun z hz => (h.dart z hz).1
structure Nxt2 (a b : Mp) (x y : Int) (w w' : Int) : Prop where
  dart : w ∈ darts a.g.es ∧ Reach a.g.es (hom a.g.es x) (hom a.g.es w)
  dart' : w' ∈ darts b.g.es
  uni : ∀ P φ, Iso a b P φ → P x → φ x = y → P w ∧ φ w = w'
theorem gi_map {P : Int → Prop} {φ : Int → Int} {F : List Int} {w : Int} (hi : ∀ z ∈ F, φ z = φ w → z = w) : gi (F.map φ) (φ w) = gi F w := by
  unfold gi
  by_cases h : w ∈ F
  · rw [if_pos h, if_pos (List.mem_map.2 ⟨w, h, rfl⟩), idxOf_map F hi]
  · rw [if_neg h, if_neg]
    intro hm
    obtain ⟨z, hz, e⟩ := List.mem_map.1 hm
    exact h (hi z hz e ▸ hz)
theorem LaI.fail {a b : Mp} {x y : Int} {F T : List Int} (h : LaI a b x y F T) {w w' : Int} (hn : Nxt2 a b x y w w') (hne : gi F w ≠ gi T w') : ¬ LaidTo a b x y := by
  rintro ⟨P, φ, hI, hP, hφ⟩
  obtain ⟨h1, rfl⟩ := h.uni P φ hI hP hφ
  obtain ⟨h2, rfl⟩ := hn.uni P φ hI hP hφ
  exact hne (gi_map (P := P) fun z hz e => hI.inj z w (h1 z hz) h2 e).symm
theorem LaI.add {a b : Mp} {x y : Int} {F T : List Int} (h : LaI a b x y F T) {w w' : Int} (hn : Nxt2 a b x y w w') (hw : w ∉ F) (hw' : w' ∉ T) : LaI a b x y (F ++ [w]) (T ++ [w']) := by
  have hsnoc : ∀ {L : List Int} {z : Int}, L.Nodup → z ∉ L → (L ++ [z]).Nodup := fun {L z} hL hz => by
    rw [List.nodup_append]
    refine ⟨hL, by simp, fun p hp q hq e => ?_⟩
    rw [List.mem_singleton] at hq; subst hq; subst e; exact hz hp
  refine ⟨by simp [h.len], hsnoc h.nd hw, hsnoc h.nd' hw', fun z hz => ?_, fun z hz => ?_, ?_, fun P φ hI hP hφ => ?_⟩
  · rcases List.mem_append.1 hz with hz | hz
    · exact h.dart z hz
    · rw [List.mem_singleton] at hz; subst hz; exact hn.dart
  · rcases List.mem_append.1 hz with hz | hz
    · exact h.dart' z hz
    · rw [List.mem_singleton] at hz; subst hz; exact hn.dart'
  · obtain ⟨h1, h2, h3⟩ := h.head
    exact ⟨by rw [getD_app_lt _ _ h3, h1], by rw [getD_app_lt _ _ (by rw [← h.len]; exact h3), h2], by rw [List.length_append]; omega⟩
  · obtain ⟨h1, h2⟩ := h.uni P φ hI hP hφ
    obtain ⟨h3, h4⟩ := hn.uni P φ hI hP hφ
    refine ⟨fun z hz => ?_, by rw [List.map_append, ← h2]; simp [h4]⟩
    rcases List.mem_append.1 hz with hz | hz
    · exact h1 z hz
    · rw [List.mem_singleton] at hz; subst hz; exact h3
theorem LaI.nxt {a b : Mp} (ha : MapOk a) (hb : MapOk b) {x y : Int} {F T : List Int} (h : LaI a b x y F T) {j : Nat} (hj : j < F.length) :
    Nxt2 a b x y (tw (F.getD j 0)) (tw (T.getD j 0)) ∧ Nxt2 a b x y (sg a (F.getD j 0)) (sg b (T.getD j 0)) := by
  have hz := h.dart _ (getD_mem hj)
  have hj' : j < T.length := by rw [← h.len]; exact hj
  have hz' := h.dart' _ (getD_mem hj')
  have hTj : ∀ P φ, Iso a b P φ → P x → φ x = y → P (F.getD j 0) ∧ T.getD j 0 = φ (F.getD j 0) := fun P φ hI hP hφ => by
    obtain ⟨h1, h2⟩ := h.uni P φ hI hP hφ
    exact ⟨h1 _ (getD_mem hj), by rw [h2, getD_map _ _ hj]⟩
  refine ⟨⟨⟨tw_dart.2 hz.1, ?_⟩, tw_dart.2 hz', fun P φ hI hP hφ => ?_⟩, ⟨⟨ha.sg_dart hz.1, ?_⟩, hb.sg_dart hz', fun P φ hI hP hφ => ?_⟩⟩
  · rw [hom_tw ha.g.ids hz.1]
    exact hz.2.step (dart_ends ha.g.ids hz.1).2.2
  · obtain ⟨k1, k2⟩ := hTj P φ hI hP hφ
    rw [k2]
    exact hI.tw _ k1
  · have : hom a.g.es (sg a (F.getD j 0)) = hom a.g.es (F.getD j 0) := hom_of ha.g.ids (ha.sg_at_v (dart_ends ha.g.ids hz.1).1)
    rw [this]; exact hz.2
  · obtain ⟨k1, k2⟩ := hTj P φ hI hP hφ
    rw [k2]
    exact hI.sg _ k1
theorem LaI.done {a b : Mp} (ha : MapOk a) {x y : Int} {F T : List Int} (h : LaI a b x y F T) (hC : LaC a b F T F.length) : LaidTo a b x y ∧ ∀ {v : Int} {c : List Int}, IsPart a.g v c → x ∈ endsL a.g.es c → F.length = (endsL a.g.es c).length := by
  have hφ : ∀ i, i < F.length → T.getD (F.idxOf (F.getD i 0)) 0 = T.getD i 0 := fun i hi => by
    obtain ⟨h1, h2⟩ := idx_lt (getD_mem hi)
    rw [nodup_idx h.nd h1 hi h2]
  have hat : ∀ {w w' : Int}, At2 F T w w' → w ∈ F ∧ T.getD (F.idxOf w) 0 = w' := fun {w w'} ⟨i, h1, h2, h3⟩ => by
    subst h2
    exact ⟨getD_mem h1, by rw [hφ i h1, h3]⟩
  have hIso : Iso a b (fun z => z ∈ F) (fun z => T.getD (F.idxOf z) 0) := by
    refine ⟨fun z hz => (h.dart z hz).1, fun z hz => ?_, fun z z' hz hz' e => ?_, fun z hz => ?_, fun z hz => ?_⟩
    · exact h.dart' _ (getD_mem (by rw [← h.len]; exact (idx_lt hz).1))
    · obtain ⟨h1, h2⟩ := idx_lt hz
      obtain ⟨h3, h4⟩ := idx_lt hz'
      rw [← h2, ← h4, nodup_idx h.nd' (by rw [← h.len]; exact h1) (by rw [← h.len]; exact h3) e]
    · obtain ⟨h1, h2⟩ := idx_lt hz
      have := hat (hC _ h1 h1).1
      rw [h2] at this
      exact this
    · obtain ⟨h1, h2⟩ := idx_lt hz
      have := hat (hC _ h1 h1).2
      rw [h2] at this
      exact this
  obtain ⟨h1, h2, h3⟩ := h.head
  have hxF : x ∈ F := by rw [← h1]; exact getD_mem h3
  refine ⟨⟨_, _, hIso, hxF, ?_⟩, fun {v c} hc hxc => ?_⟩
  · have := hφ 0 h3
    rw [h1, h2] at this
    exact this
  · obtain ⟨k1, k2, D, hD, q1, _, _⟩ := part_walk ha hc hxc
    have hwk := hD.isWk ha (dart_ends ha.g.ids k1).1
    refine List.Perm.length_eq (((List.perm_ext_iff_of_nodup h.nd hwk.nd).2 fun z => ⟨fun hz => ?_, fun hz => ?_⟩).trans q1)
    · obtain ⟨z1, z2⟩ := h.dart z hz
      exact (hwk.all z).2 ⟨hom a.g.es z, (hwk.verts _).2 z2, (dart_ends ha.g.ids z1).1⟩
    · have : ∀ {k : Nat} {E G : List Int}, WSt a (hom a.g.es x) x k E G → (∀ z ∈ E, z ∈ F) ∧ ∀ z ∈ G, z ∈ F := by
        intro k E G s
        induction s with
        | start => exact ⟨by simpa using hxF, by simp⟩
        | turn s hk ih =>
          rename_i k E G
          have hE := ih.1 _ (getD_mem hk)
          have htr : ∀ z ∈ trn a (E.getD k 0), z ∈ F := fun z hz => by
            obtain ⟨p, hp, hL, _⟩ := trn_cyc ha (h.dart _ hE).1
            rw [hL] at hz
            obtain ⟨n, hn, rfl⟩ := List.mem_map.1 hz
            clear hz hL hn
            induction n with
            | zero => exact hE
            | succ n ihn => rw [it_succ]; exact (hIso.sg _ ihn).1
          have hfs : ∀ (r E G : List Int), (∀ z ∈ r, z ∈ F) → (∀ z ∈ E, z ∈ F) → ∀ z ∈ wFs a.g.es (hom a.g.es x) E G r, z ∈ F := by
            intro r
            induction r with
            | nil => intro E G _ hE z hz; exact hE z hz
            | cons y r ihr =>
              intro E G hr hE z hz
              refine ihr _ _ (fun z hz => hr z (List.mem_cons_of_mem _ hz)) (fun z hz => ?_) z hz
              unfold wF at hz
              split at hz
              · exact hE z hz
              · rcases List.mem_append.1 hz with hz | hz
                · exact hE z hz
                · rw [List.mem_singleton] at hz; subst hz; exact (hIso.tw _ (hr y (by simp))).1
          refine ⟨hfs _ _ _ htr ih.1, fun z hz => ?_⟩
          rcases List.mem_append.1 hz with hz | hz
          · exact ih.2 z hz
          · exact htr z hz
      obtain ⟨k, E, s, _⟩ := hD
      exact (this s).2 z hz
end Go.Proofs.YtplnodgkmbajiaaGreat.Aw
