/- The document's way: Laid, walked. -/
import Derived.Test.YtplnodgkmbajiaaGreatJg
import Derived.Test.YtplnodgkmbajiaaGreatAwMr5
namespace Go.Proofs.YtplnodgkmbajiaaGreat.Aw
open Go Go.RowKit Go.Proofs.YtplnodgkmbajiaaGreat.Pl Go.Proofs.YtplnodgkmbajiaaGreat.Eu
set_option linter.unusedSimpArgs false
set_option linter.unusedVariables false
def LaidR (a b : Mp) (x y : Int) (r : LV) : Prop := ∃ (n : Nat) (ok : Bool), r = .tu [i n, bb ok] ∧ (ok = true ↔ LaidTo a b x y) ∧ (ok = true → ∀ v c, IsPart a.g v c → x ∈ endsL a.g.es c → n = (endsL a.g.es c).length)
structure LaM (a b : Mp) (x y : Int) (st : St) (F T : List Int) (fr : Frm) (s : St) : Prop where
  la : LaI a b x y F T
  f4 : fr 4 = .pt st.next 0
  f5 : fr 5 = .pt (st.next + 1) 0
  mem : ∃ tF tT, fr 10 = .sl tF F.length (us F) ∧ fr 11 = .sl tT T.length (us T) ∧ s.H tF = .own 29 1 F.length ∧ s.H tT = .own 29 1 T.length ∧ tF ≠ tT ∧ (st.next + 2 ≤ tF ∧ st.next + 2 ≤ tT) ∧ (tF < s.next ∧ tT < s.next)
  ga : s.H st.next = .box 28 3 (mpL a)
  gb : s.H (st.next + 1) = .box 28 3 (mpL b)
  kp : Keeps st s
set_option maxHeartbeats 8000000 in
theorem rLaid (a b : Mp) (ha : MapOk a) (hb : MapOk b) (x y : Int) (st : St) (hva : a.g.vs.length ≤ 1000) (hea : a.g.es.length ≤ 1000) (hvb : b.g.vs.length ≤ 1000) (heb : b.g.es.length ≤ 1000) (hx : x ∈ darts a.g.es) (hy : y ∈ darts b.g.es) :
    ACalls Tryz.prog 48 [.ag (mpL a), .ag (mpL b), u x, u y] st fun r st' => LaidR a b x y r ∧ Keeps st st' := by
  refine qO tabOk Tryz.func48 rfl rfl Tryz.ntmps48 (rs := [.tmp 8, .tmp 9]) rfl (by simp) ?_
  refine awp_posG fun hpos => ?_
  (repeat' (first | refine qS ?_ | refine qB ?_ | (refine w_e [] ?_; intro J hJ; simp only []; simp []; (refine hJ _ _ ?_; clear hJ J; simp only [ak, reduceIte]))))
  refine qL (fun z fr s => ∃ (k : Nat) (F T : List Int), z = 2 * a.g.es.length - k ∧ k ≤ F.length ∧ LaM a b x y st F T fr s ∧ LaC a b F T k ∧ fr 12 = i k) (2 * a.g.es.length) ?_ ?_
  · refine ⟨0, [x], [y], by omega, by simp, ⟨.start hx hy, by simp, by simp, ⟨st.next + 1 + 1, st.next + 1 + 1 + 1, by simp, by simp, by simp, by simp, by omega, by omega, by simp⟩, by simp, by simp, ?_⟩, fun j hj => by omega, by simp⟩
    exact (((Keeps.new _ _).trans (Keeps.new _ _)).trans (Keeps.new _ _)).trans (Keeps.new _ _)
  rintro z fr s ⟨k, F, T, rfl, hkF, hM, hC, f12⟩ JJ hJJ
  obtain ⟨hLa, f4, f5, ⟨tF, tT, f10, f11, hF, hT, hne, hlo, hhi⟩, hga, hgb, hkp⟩ := id hM
  have hFle := hLa.le
  have hlen := hLa.len
  by_cases hlt : k < F.length
  rotate_left
  · clear hJJ
    obtain rfl : k = F.length := by omega
    obtain ⟨hok, hn⟩ := hLa.done ha hC
    (repeat' (first | refine qS ?_ | (refine qX ?_; simp only [ak, reduceIte]) | (refine qR ?_; simp only [ak, reduceIte]; simp [f10, f12]) | (refine qC ?_; simp [f10, f12]) | (refine w_e [] ?_; intro J hJ; simp only []; simp [f10, f12]; (refine hJ _ _ ?_; clear hJ J; simp only [ak, reduceIte]))))
    exact ⟨⟨F.length, true, rfl, ⟨fun _ => hok, fun _ => rfl⟩, fun _ v c hc hxc => hn hc hxc⟩, hkp⟩
  obtain ⟨hn1, hn2⟩ := hLa.nxt ha hb hlt
  have hltT : k < T.length := by omega
  have hxF := (hLa.dart _ (getD_mem hlt)).1
  have hxT := hLa.dart' _ (getD_mem hltT)
  have hd1 := qG F k hlt
  have hd2 := qG T k hltT
  have hCk : ∀ F' T' : List Int, (∃ A B, F' = F ++ A ∧ T' = T ++ B) → LaC a b F' T' k → At2 F' T' (tw (F.getD k 0)) (tw (T.getD k 0)) → At2 F' T' (sg a (F.getD k 0)) (sg b (T.getD k 0)) → LaC a b F' T' (k + 1) := by
    rintro F' T' ⟨A, B, rfl, rfl⟩ h1 h2 h3 j hj hjF
    by_cases e : j = k
    · subst e
      rw [getD_app_lt _ _ hlt, getD_app_lt _ _ hltT]
      exact ⟨h2, h3⟩
    · exact h1 j (by omega) hjF
  generalize F.getD k 0 = p at *
  generalize T.getD k 0 = q at *
  have hp1 := dart_range ha hxF
  have hq1 := dart_range hb hxT
  (repeat' (first | refine qS ?_ | refine qB ?_ | (refine qK ?_; simp only [ak, reduceIte]) | (refine qC ?_; simp [f10, f12, hlt]) | (refine w_e [] ?_; intro J hJ; simp only []; simp [f10, f12, hlt]; (refine hJ _ _ ?_; clear hJ J; simp only [ak, reduceIte]))))
  (refine w_s [] [st.next] [(0, true), (1, true), (2, true), (3, true), (5, true), (6, true), (7, true), (8, true), (9, true), (4, true), (10, true), (11, true), (12, true)] ?_; intro J hJ; simp [f4, f10, f12, hlt, hd1, hga])
  refine qD (twin33 p _ (by omega) (by omega)) (by simp) ?_; rintro r s1 ⟨rfl, h1⟩
  rw [h1]; clear h1 s1
  refine ⟨fun h => by first | (cases h; done) | simp [hga], ?_⟩
  (refine d_go ?_; simp [f4, f10, f12, hlt, hd1, hga])
  refine qD (next33 a ha p _ hva hea hxF) (by simp) ?_; rintro r s1 ⟨rfl, h1⟩
  rw [h1]; clear h1 s1
  refine ⟨fun h => by first | (cases h; done) | simp [hga], ?_⟩
  (refine d_go ?_; simp [hga]; (repeat refine ca ?_); (refine hJ _ _ ?_; clear hJ J; simp only [ak, reduceIte]))
  have e1 : ¬ st.next + 1 = s.next := by omega
  have hgb' : ∀ o, (s.new o).H (st.next + 1) = .box 28 3 (mpL b) := fun o => by rw [new_H, if_neg e1]; exact hgb
  (repeat (refine qS ?_)); (refine w_s [] [st.next + 1] [(0, true), (1, true), (2, true), (3, true), (5, true), (6, true), (7, true), (8, true), (9, true), (4, true), (10, true), (11, true), (12, true)] ?_; intro J hJ; simp [f5, f11, f12, hltT, hd2, hgb, e1])
  refine qD (twin33 q _ (by omega) (by omega)) (by simp) ?_; rintro r s1 ⟨rfl, h1⟩
  rw [h1]; clear h1 s1
  refine ⟨fun h => by first | (cases h; done) | simp [hgb, e1], ?_⟩
  (refine d_go ?_; simp [f5, f11, f12, hltT, hd2, hgb, e1])
  refine qD (next33 b hb q _ hvb heb hxT) (by simp) ?_; rintro r s1 ⟨rfl, h1⟩
  rw [h1]; clear h1 s1
  refine ⟨fun h => by first | (cases h; done) | simp [hgb, e1], ?_⟩
  (refine d_go ?_; simp [hgb, e1]; (repeat refine ca ?_); (refine hJ _ _ ?_; clear hJ J; simp only [ak, reduceIte]))
  (repeat' (first | refine qS ?_ | refine qB ?_ | (refine w_e [] ?_; intro J hJ; simp only []; simp []; (refine hJ _ _ ?_; clear hJ J; simp only [ak, reduceIte]))))
  refine qL (fun z fr s => ∃ (j : Nat) (A B : List Int), z = 2 - j ∧ j ≤ 2 ∧ LaM a b x y st (F ++ A) (T ++ B) fr s ∧ LaC a b (F ++ A) (T ++ B) k ∧ (∀ i, i < j → At2 (F ++ A) (T ++ B) ([tw p, sg a p].getD i 0) ([tw q, sg b q].getD i 0)) ∧ fr 12 = i k ∧ (∃ t13 t14, fr 13 = .sl t13 2 (us [tw p, sg a p]) ∧ fr 14 = .sl t14 2 (us [tw q, sg b q])) ∧ fr 15 = i j) 2 ?_ ?_
  · refine ⟨0, [], [], rfl, by omega, ?_, by simpa using hC, fun i hi => by omega, by simp [f12], ⟨s.next, s.next + 1, by simp, by simp⟩, by simp⟩
    rw [List.append_nil, List.append_nil]
    refine ⟨hLa, by simp [f4], by simp [f5], ⟨tF, tT, by simp [f10], by simp [f11], ?_, ?_, hne, hlo, by simp; omega⟩, ?_, ?_, (hkp.trans (Keeps.new _ _)).trans (Keeps.new _ _)⟩
    · simp [show ¬ tF = s.next by omega, show ¬ tF = s.next + 1 by omega, hF]
    · simp [show ¬ tT = s.next by omega, show ¬ tT = s.next + 1 by omega, hT]
    · simp [show ¬ st.next = s.next by omega, show ¬ st.next = s.next + 1 by omega, hga]
    · simp [e1, show ¬ st.next = s.next by omega, hgb]
  clear hM hga hgb hgb' hkp hF hT hlo hhi f4 f5 f10 f11 f12 hne e1 hd1 hd2 fr s
  have hnW : ∀ i, i < 2 → Nxt2 a b x y ([tw p, sg a p].getD i 0) ([tw q, sg b q].getD i 0) := fun i hi => by
    match i, hi with
    | 0, _ => exact hn1
    | 1, _ => exact hn2
  have hWl : [tw p, sg a p].length = 2 := rfl
  have hWl' : [tw q, sg b q].length = 2 := rfl
  have hdW := fun j hj => qG [tw p, sg a p] j hj
  have hdW' := fun j hj => qG [tw q, sg b q] j hj
  have hlast : ∀ A B : List Int, LaC a b (F ++ A) (T ++ B) k → (∀ i, i < 2 → At2 (F ++ A) (T ++ B) ([tw p, sg a p].getD i 0) ([tw q, sg b q].getD i 0)) → LaC a b (F ++ A) (T ++ B) (k + 1) := fun A B h1 h2 => hCk _ _ ⟨A, B, rfl, rfl⟩ h1 (h2 0 (by omega)) (h2 1 (by omega))
  generalize [tw p, sg a p] = W at *
  generalize [tw q, sg b q] = W' at *
  clear hn1 hn2 hCk
  rintro z fr s ⟨j, A, B, rfl, hj2, hM, hCA, hAt, f12, ⟨t13, t14, f13, f14⟩, f15⟩ JI hJI
  obtain ⟨hLa', f4, f5, ⟨tF, tT, f10, f11, hF, hT, hne, hlo, hhi⟩, hga, hgb, hkp⟩ := id hM
  have hlen' := hLa'.len
  have hle' := hLa'.le
  by_cases hjlt : j < 2
  rotate_left
  · clear hJI
    obtain rfl : j = 2 := by omega
    have hw := qN k (by omega)
    (repeat' (first | refine qS ?_ | (refine qX ?_; simp only [ak, reduceIte]) | (refine qC ?_; simp [f15, f12, hw]) | (refine w_e [] ?_; intro J hJ; simp only []; simp [f15, f12, hw]; (refine hJ _ _ ?_; clear hJ J; simp only [ak, reduceIte]))))
    refine hJJ (2 * a.g.es.length - (k + 1)) _ _ (by omega) ⟨k + 1, F ++ A, T ++ B, rfl, by simp; omega, ?_, hlast A B hCA hAt, by simp⟩
    exact ⟨hLa', by simp [f4], by simp [f5], ⟨tF, tT, by simp [f10], by simp [f11], hF, hT, hne, hlo, hhi⟩, hga, hgb, hkp⟩
  have hn := hnW j hjlt
  have hd1 := hdW j (by omega)
  have hd2 := hdW' j (by omega)
  have hAt2 : ∀ A' B' : List Int, At2 ((F ++ A) ++ A') ((T ++ B) ++ B') (W.getD j 0) (W'.getD j 0) → ∀ i, i < j + 1 → At2 ((F ++ A) ++ A') ((T ++ B) ++ B') (W.getD i 0) (W'.getD i 0) := fun A' B' h i hi => by
    by_cases e : i = j
    · subst e; exact h
    · exact (hAt i (by omega)).app hlen' A' B'
  generalize W.getD j 0 = w at *
  generalize W'.getD j 0 = w' at *
  have hji : (j : Int) < 2 := by omega
  have hj' : j < 2 := hjlt
  have hw := qN j (by omega)
  have hkF' : k ≤ (F ++ A).length := by simp; omega
  have hass := fun A' => List.append_assoc F A A'
  have hass' := fun B' => List.append_assoc T B B'
  generalize hFA : F ++ A = FF at *
  generalize hTB : T ++ B = TT at *
  have hsm1 : small FF := by unfold small; omega
  have hsm2 : small TT := by unfold small; omega
  (repeat' (first | refine qS ?_ | refine qB ?_ | (refine qK ?_; simp only [ak, reduceIte]) | (refine qC ?_; simp [f15, hji]) | (refine w_e [] ?_; intro J hJ; simp only []; simp [f15, hji]; (refine hJ _ _ ?_; clear hJ J; simp only [ak, reduceIte]))))
  (refine w_s [] [] [(0, true), (1, true), (2, true), (3, true), (4, true), (6, true), (7, true), (8, true), (9, true), (10, true), (5, true), (11, true), (12, true), (13, true)] ?_; intro J hJ; simp [f10, f11, f13, f14, f15, hd1, hd2, hj', hWl, hWl']; (repeat refine ca ?_))
  refine qD (Find FF tF w _ hsm1) (by simp) ?_; rintro r s1 ⟨rfl, h1⟩
  rw [h1]; clear h1 s1
  refine ⟨fun h => by first | (cases h; done) | simp, ?_⟩
  (refine d_go ?_; simp [f10, f11, f13, f14, f15, hd1, hd2, hj', hWl, hWl'])
  refine qD (Find TT tT w' _ hsm2) (by simp) ?_; rintro r s1 ⟨rfl, h1⟩
  rw [h1]; clear h1 s1
  refine ⟨fun h => by first | (cases h; done) | simp, ?_⟩
  (refine d_go ?_; simp []; (refine hJ _ _ ?_; clear hJ J; simp only [ak, reduceIte]))
  by_cases hpq : gi FF w = gi TT w'
  rotate_left
  · clear hJI hJJ
    have hno := hLa'.fail hn hpq
    generalize gi FF w = g1 at *
    generalize gi TT w' = g2 at *
    have hpb : (g1 == g2) = false := by simpa using hpq
    (repeat' (first | refine qS ?_ | (refine qR ?_; simp only [ak, reduceIte]; simp [hpq, hpb]) | (refine qC ?_; simp [hpq, hpb]) | (refine w_e [] ?_; intro J hJ; simp only []; simp [hpq, hpb]; (refine hJ _ _ ?_; clear hJ J; simp only [ak, reduceIte]))))
    exact ⟨⟨0, false, rfl, ⟨fun h => absurd h (by simp), fun h => absurd h hno⟩, fun h => absurd h (by simp)⟩, hkp⟩
  by_cases hin : w ∈ FF
  · have hin' : w' ∈ TT := by
      have := (gi_neg FF w)
      have h2 := (gi_neg TT w')
      rw [hpq] at this
      exact Classical.byContradiction fun hc => (this.1 (h2.2 hc)) hin
    have hge : ¬ gi TT w' < 0 := fun h => (gi_neg TT w').1 h hin'
    have hA2 : At2 FF TT w w' := by
      rw [gi_mem hin, gi_mem hin'] at hpq
      obtain ⟨h1, h2⟩ := idx_lt hin
      obtain ⟨h3, h4⟩ := idx_lt hin'
      exact ⟨FF.idxOf w, h1, h2, by rw [show FF.idxOf w = TT.idxOf w' by omega]; exact h4⟩
    have hA3 := hAt2 [] [] (by simpa using hA2)
    rw [List.append_nil, List.append_nil] at hA3
    rw [hpq]
    generalize gi TT w' = g2 at *
    (repeat' (first | refine qS ?_ | (refine qK ?_; simp only [ak, reduceIte]) | (refine qC ?_; simp [hge, f15, hw]) | (refine w_e [] ?_; intro J hJ; simp only []; simp [hge, f15, hw]; (refine hJ _ _ ?_; clear hJ J; simp only [ak, reduceIte]))))
    refine hJI (2 - (j + 1)) _ _ (by omega) ⟨j + 1, A, B, rfl, by omega, ?_, by rw [hFA, hTB]; exact hCA, by rw [hFA, hTB]; exact hA3, by simp [f12], ⟨t13, t14, by simp [f13], by simp [f14]⟩, by simp⟩
    rw [hFA, hTB]
    exact ⟨hLa', by simp [f4], by simp [f5], ⟨tF, tT, by simp [f10], by simp [f11], hF, hT, hne, hlo, hhi⟩, hga, hgb, hkp⟩
  · have hg1 := gi_not hin
    have hin' : w' ∉ TT := fun h => by rw [hg1, gi_mem h] at hpq; omega
    have hg2 := gi_not hin'
    rw [hg1, hg2]
    have hadd := hLa'.add hn hin hin'
    have hA3 := hAt2 [w] [w'] ⟨FF.length, by simp, getD_app_last _ _, by rw [hlen']; exact getD_app_last _ _⟩
    have hCA3 := hCA.app hlen' hkF' [w] [w']
    have c1 : ¬ tF = s.next := by omega
    have c2 : ¬ tF = 0 := by omega
    have c3 : ¬ tT = 0 := by omega
    have c4 : ¬ tT = s.next := by omega
    have c5 : ¬ tT = s.next + 1 := by omega
    have c6 : ¬ tT = s.next + 2 := by omega
    have c7 : ¬ tT = tF := fun e => hne e.symm
    (repeat' (first | refine qS ?_ | (refine qK ?_; simp only [ak, reduceIte]) | (refine qC ?_; simp [f10, f11, f13, f14, f15, hd1, hd2, hj', hF, hT, c1, c2, c3, c4, c5, c6, c7, hw]) | (refine w_e [] ?_; intro J hJ; simp only []; simp [f10, f11, f13, f14, f15, hd1, hd2, hj', hF, hT, c1, c2, c3, c4, c5, c6, c7, hw]; (repeat refine ca ?_); (refine hJ _ _ ?_; clear hJ J; simp only [ak, reduceIte]))))
    refine hJI (2 - (j + 1)) _ _ (by omega) ⟨j + 1, A ++ [w], B ++ [w'], rfl, by omega, ?_, by rw [← hass, ← hass']; exact hCA3, by rw [← hass, ← hass']; exact hA3, by simp [f12], ⟨t13, t14, by simp [f13], by simp [f14]⟩, by simp⟩
    rw [← hass, ← hass']
    refine ⟨hadd, by simp [f4], by simp [f5], ⟨s.next + 1, s.next + 3, by simp, by simp, ?_, ?_, by omega, by omega, by simp⟩, ?_, ?_, ?_⟩
    · simp [c1, c5, show ¬ s.next + 1 = tF by omega, show ¬ s.next + 1 = tT by omega]
    · simp
    · simp [show ¬ st.next = s.next by omega, show ¬ st.next = s.next + 1 by omega, show ¬ st.next = s.next + 2 by omega, show ¬ st.next = s.next + 3 by omega, show ¬ st.next = tF by omega, show ¬ st.next = tT by omega, hga]
    · simp [show ¬ st.next = s.next by omega, show ¬ st.next = s.next + 1 by omega, show ¬ st.next = s.next + 2 by omega, show ¬ st.next + 1 = s.next by omega, show ¬ st.next + 1 = s.next + 1 by omega, show ¬ st.next + 1 = s.next + 2 by omega, show ¬ st.next + 1 = s.next + 3 by omega, show ¬ st.next + 1 = tF by omega, show ¬ st.next + 1 = tT by omega, hgb]
    · (repeat (first | exact hkp | (refine Keeps.trans ?_ (Keeps.new _ _)) | (refine Keeps.set ?_ (by omega) _)))
theorem rDartsK (m : Mp) (ho : MapOk m) (c : List Int) (t : Nat) (st : St) (he : m.g.es.length ≤ 100) (hc : c.length ≤ 100) :
    ACalls Tryz.prog 47 [.ag (mpL m), .sl t c.length (us c)] st fun r st' => r = .sl 0 (endsL m.g.es c).length (us (endsL m.g.es c)) ∧ Keeps st st' := by
  have hid : idOk m.g.es := fun x hx => by have := ho.g.pos x hx; omega
  refine acalls_z0 ?_
  refine qO tabOk Tryz.func47 rfl rfl Tryz.ntmps47 (rs := [.tmp 4]) rfl (by simp) ?_
  refine awp_posG fun hpos => ?_
  (repeat (refine qS ?_)); (refine w_e [] ?_; intro J hJ; simp only []; simp []; (refine hJ _ _ ?_; clear hJ J; simp only [ak, reduceIte]))
  (repeat (refine qS ?_)); (refine w_e [] ?_; intro J hJ; simp only []; simp []; (refine hJ _ _ ?_; clear hJ J; simp only [ak, reduceIte]))
  refine awp_own 5 29 1 (by simp) ?_
  (repeat' (first | refine qS ?_ | refine qB ?_ | (refine w_e [] ?_; intro J hJ; simp only []; simp []; (refine hJ _ _ ?_; clear hJ J; simp only [ak, reduceIte]))))
  refine awp_range 10 9 11 20 (c.length) (fun j fr st2 => fr 2 = .pt st.next 0 ∧ fr 8 = .sl t c.length (us c) ∧ st2.H st.next = .box 28 3 (mpL m) ∧ Keeps st st2 ∧ (endsL m.g.es (c.take j)).length ≤ 200 * j ∧ ∃ tt, fr 5 = .sl tt (endsL m.g.es (c.take j)).length (us (endsL m.g.es (c.take j))) ∧ st2.H tt = .own 29 1 (endsL m.g.es (c.take j)).length ∧ st.next < tt ∧ tt < st2.next) ?_ ?_ ?_
  · exact ⟨by simp, by simp, by simp, (Keeps.new _ _).trans (Keeps.new _ _), by simp [endsL], st.next + 1, by simp [endsL], by simp [endsL], by omega, by simp⟩
  · rintro j fr s hlt ⟨f2, f8, hG, hkp, hle, tt, f5, hO, hlo, hhi⟩ fi fn JO hJO
    have hd := qG c j hlt
    have htk : endsL m.g.es (c.take (j + 1)) = endsL m.g.es (c.take j) ++ ends m.g.es (c.getD j 0) := by
      rw [List.take_succ_eq_append_getElem hlt, ← getD_lt _ _ hlt]; simp [endsL, List.flatMap_append]
    have hlen : (ends m.g.es (c.getD j 0)).length ≤ 2 * m.g.es.length := by
      rw [← darts_length]
      exact List.Nodup.length_le_of_subset (rise_nodup (ends_rise ho.g.ids _)) fun x hx => ends_dart hx
    simp only [htk] at hJO
    generalize endsL m.g.es (c.take j) = E at *
    generalize c.getD j 0 = v at *
    clear htk
    (repeat' (first | refine qS ?_ | (refine w_e [] ?_; intro J hJ; simp only []; simp [f2, f8, fi, fn, hd, hlt, hG]; (try (refine hJ _ _ ?_; clear hJ J; simp only [ak, reduceIte])))))
    refine qE (ref_Ends m.g v _ (by omega) hid) (by simp) ?_; rintro r s1 ⟨⟨t1, rfl⟩, hk1⟩
    have hn1 := hk1.next
    have hO1 := (hk1.H tt hhi).trans hO
    have hG1 := (hk1.H st.next (by omega)).trans hG
    generalize ends m.g.es v = X at *
    have hone := us_one X
    have e1 : ¬ tt = 0 := by omega
    (repeat' (refine e_go ?_; simp [f5, hO1, hone, e1]; (repeat refine ca ?_); (refine hJ _ _ ?_; clear hJ J; simp only [ak, reduceIte])))
    refine hJO _ _ (by simp [fi]) (by simp [fn]) ⟨by simp [f2], by simp [f8], ?_, ?_, by simp; omega, s1.next, by simp, by simp, by omega, by simp⟩
    · simp [show ¬ st.next = s1.next by omega, show ¬ st.next = tt by omega, hG1]
    · exact ((hkp.trans hk1).set (by omega) _).trans (Keeps.new _ _)
  · rintro fr s ⟨f2, f8, hG, hkp, hle, tt, f5, hO, hlo, hhi⟩
    rw [List.take_length] at f5
    (repeat' (first | refine qS ?_ | (refine qR ?_; simp only [ak, reduceIte]; simp [f5]) | (refine w_e [] ?_; intro J hJ; simp only []; simp [f5]; (refine hJ _ _ ?_; clear hJ J; simp only [ak, reduceIte]))))
    exact ⟨by simp [z0, z0L_map], hkp⟩
theorem rDarts (m : Mp) (ho : MapOk m) (c : List Int) (t : Nat) (st : St) (he : m.g.es.length ≤ 100) (hc : c.length ≤ 100) :
    ACalls Tryz.prog 47 [.ag (mpL m), .sl t c.length (us c)] st fun r st' => r = .sl 0 (endsL m.g.es c).length (us (endsL m.g.es c)) ∧ st' = st :=
  qT (rDartsK m ho c t st he hc) fun r h => by
    subst h
    have : ∀ l : List Int, belL st.next (us l) := fun l => by
      induction l with
      | nil => simp only [us, List.map_nil, belL]
      | cons x l ih => simp only [us, List.map_cons, belL]; exact ⟨trivial, ih⟩
    exact ⟨.inl rfl, this _⟩
theorem part_endsL_le {m : Mp} (ho : MapOk m) {v : Int} {c : List Int} (hc : IsPart m.g v c) : (endsL m.g.es c).length ≤ 2 * m.g.es.length := by
  by_cases h : endsL m.g.es c = []
  · rw [h]; simp
  · obtain ⟨k1, k2, D, hD, q1, _, _⟩ := part_walk ho hc (getD_mem (List.length_pos_iff.2 h))
    have hwk := hD.isWk ho (dart_ends ho.g.ids k1).1
    rw [← q1.length_eq, ← darts_length]
    refine List.Nodup.length_le_of_subset hwk.nd fun x hx => ?_
    exact (part_walk ho hc (q1.mem_iff.1 hx)).1
theorem rLaid' (a b : Mp) (ha : MapOk a) (hb : MapOk b) (x y : Int) (st : St) (hva : a.g.vs.length ≤ 1000) (hea : a.g.es.length ≤ 1000) (hvb : b.g.vs.length ≤ 1000) (heb : b.g.es.length ≤ 1000) (hx : x ∈ darts a.g.es) (hy : y ∈ darts b.g.es) :
    ACalls Tryz.prog 48 [.ag (mpL a), .ag (mpL b), u x, u y] st fun r st' => LaidR a b x y r ∧ st' = st :=
  qT (rLaid a b ha hb x y st hva hea hvb heb hx hy) fun r h => by
    obtain ⟨n, ok, rfl, _⟩ := h
    exact ⟨trivial, trivial, trivial⟩
set_option maxHeartbeats 4000000 in
theorem rPartK (a b : Mp) (ha : MapOk a) (hb : MapOk b) (x y : List Int) (t t' : Nat) (st : St) (hva : a.g.vs.length ≤ 100) (hea : a.g.es.length ≤ 100) (hvb : b.g.vs.length ≤ 100) (heb : b.g.es.length ≤ 100) {v w : Int} (hx : IsPart a.g v x) (hy : IsPart b.g w y) :
    ACalls Tryz.prog 30 [.ag (mpL a), .ag (mpL b), .sl t x.length (us x), .sl t' y.length (us y)] st fun r st' => (∃ ok : Bool, r = bb ok ∧ (ok = true ↔ PartEq a b x y)) ∧ Keeps st st' := by
  have hxl := part_len hx
  have hyl := part_len hy
  have hxd : ∀ d ∈ endsL a.g.es x, d ∈ darts a.g.es := fun d hd => (part_walk ha hx hd).1
  have hyd : ∀ d ∈ endsL b.g.es y, d ∈ darts b.g.es := fun d hd => (part_walk hb hy hd).1
  have hln : ∀ {p q : Int} {r : LV}, LaidR a b p q r → p ∈ endsL a.g.es x → ∃ (n : Nat) (ok : Bool), r = .tu [i n, bb ok] ∧ (ok = true ↔ LaidTo a b p q) ∧ (ok = true → n = (endsL a.g.es x).length) := fun {p q r} ⟨n, ok, h1, h2, h3⟩ hp => ⟨n, ok, h1, h2, fun h => h3 h v x hx hp⟩
  have hYl := part_endsL_le hb hy
  unfold PartEq
  refine qO tabOk Tryz.func30 rfl rfl Tryz.ntmps30 (rs := [.tmp 8]) rfl (by simp) ?_
  (repeat' (first | refine qS ?_ | (refine w_e [] ?_; intro J hJ; simp only []; simp []; (refine hJ _ _ ?_; clear hJ J; simp only [ak, reduceIte]))))
  (refine w_s [] [st.next, st.next + 1] [(0, true), (1, true), (3, true), (4, true), (2, true), (5, true), (6, true), (7, true)] ?_; intro J hJ; simp [])
  refine qD (rDarts a ha x t _ hea (by omega)) (by simp) ?_; rintro r s1 ⟨rfl, h1⟩
  rw [h1]; clear h1 s1
  refine ⟨fun h => by first | (cases h; done) | simp, ?_⟩
  (refine d_go ?_; simp [])
  refine qD (rDarts b hb y t' _ heb (by omega)) (by simp) ?_; rintro r s1 ⟨rfl, h1⟩
  rw [h1]; clear h1 s1
  refine ⟨fun h => by first | (cases h; done) | simp, ?_⟩
  (refine d_go ?_; simp []; (refine hJ _ _ ?_; clear hJ J; simp only [ak, reduceIte]))
  generalize endsL a.g.es x = X at *
  generalize endsL b.g.es y = Y at *
  by_cases hl : x.length = y.length ∧ X.length = Y.length
  rotate_left
  · by_cases h1 : x.length = y.length
    · have h2 : ¬ X.length = Y.length := fun h => hl ⟨h1, h⟩
      have h2' : ¬ (X.length : Int) = Y.length := by omega
      have h1' : (x.length : Int) = y.length := by omega
      (repeat' (first | refine qS ?_ | (refine qR ?_; simp only [ak, reduceIte]; simp [h1', h2', h1, h2]) | (refine qC ?_; simp [h1', h2', h1, h2]) | (refine w_e [] ?_; intro J hJ; simp only []; simp [h1', h2', h1, h2]; (refine hJ _ _ ?_; clear hJ J; simp only [ak, reduceIte]))))
      first | exact (Keeps.new _ _).trans (Keeps.new _ _) | exact ⟨⟨false, rfl, fun h => absurd h (by simp), fun h => absurd h.2.1 h2⟩, (Keeps.new _ _).trans (Keeps.new _ _)⟩
    · have h1' : ¬ (x.length : Int) = y.length := by omega
      have hb1 : ((x.length : Int) != y.length) = true := by simpa using h1'
      (repeat' (first | refine qS ?_ | (refine qR ?_; simp only [ak, reduceIte]; simp [h1', h1, hb1]) | (refine qC ?_; simp [h1', h1, hb1]) | (refine w_e [] ?_; intro J hJ; simp only []; simp [h1', h1, hb1]; (refine hJ _ _ ?_; clear hJ J; simp only [ak, reduceIte]))))
      first | exact (Keeps.new _ _).trans (Keeps.new _ _) | exact ⟨⟨false, rfl, fun h => absurd h (by simp), fun h => absurd h.1 h1⟩, (Keeps.new _ _).trans (Keeps.new _ _)⟩
  obtain ⟨h1, h2⟩ := hl
  have h2' : (X.length : Int) = Y.length := by omega
  have h1' : (x.length : Int) = y.length := by omega
  by_cases h0 : X = []
  · subst h0
    have h3 : Y.length = 0 := h2.symm
    (repeat' (first | refine qS ?_ | (refine qK ?_; simp only [ak, reduceIte]) | (refine qR ?_; simp only [ak, reduceIte]; simp [h1', h2', h1, h3]) | (refine qC ?_; simp [h1', h2', h1, h3]) | (refine w_e [] ?_; intro J hJ; simp only []; simp [h1', h2', h1, h3]; (refine hJ _ _ ?_; clear hJ J; simp only [ak, reduceIte]))))
    first | exact (Keeps.new _ _).trans (Keeps.new _ _) | exact ⟨⟨true, rfl, fun _ => ⟨h1, h2, .inl rfl⟩, fun _ => rfl⟩, (Keeps.new _ _).trans (Keeps.new _ _)⟩
  have h0l : 0 < X.length := List.length_pos_iff.2 h0
  have h0' : ¬ (X.length : Int) = 0 := by omega
  have h0'' : ¬ X.length = 0 := by omega
  obtain ⟨p, X', rfl⟩ : ∃ p X', X = p :: X' := by
    cases X with
    | nil => exact absurd rfl h0
    | cons p X' => exact ⟨p, X', rfl⟩
  have hpX : p ∈ p :: X' := by simp
  have hYn : ¬ Y = [] := fun h => by subst h; simp at h2
  have hY0 : ¬ (Y.length : Int) = 0 := by omega
  have hY1 : ¬ Y.length = 0 := by omega
  (repeat' (first | refine qS ?_ | refine qB ?_ | (refine qK ?_; simp only [ak, reduceIte]) | (refine qC ?_; simp [h1', h2', h1, h2, h0', h0, h0'', h0l, hYn, hY0, hY1]) | (refine w_e [] ?_; intro J hJ; simp only []; simp [h1', h2', h1, h2, h0', h0, h0'', h0l, hYn, hY0, hY1]; (refine hJ _ _ ?_; clear hJ J; simp only [ak, reduceIte]))))
  refine awp_range 38 37 39 59 (Y.length) (fun j fr st2 => fr 4 = .pt st.next 0 ∧ fr 5 = .pt (st.next + 1) 0 ∧ fr 9 = .sl 0 (X'.length + 1) (us (p :: X')) ∧ fr 36 = .sl 0 Y.length (us Y) ∧ st2.H st.next = .box 28 3 (mpL a) ∧ st2.H (st.next + 1) = .box 28 3 (mpL b) ∧ Keeps st st2 ∧ ∀ k, k < j → ¬ LaidTo a b p (Y.getD k 0)) ?_ ?_ ?_
  · exact ⟨by simp, by simp, by simp [← h2], by simp, by simp, by simp, (Keeps.new _ _).trans (Keeps.new _ _), fun k hk => by omega⟩
  · rintro j fr s hlt ⟨f4, f5, f9, f36, hG, hG2, hkp, hno⟩ fi fn JO hJO
    have hd := qG Y j hlt
    have hqY := getD_mem hlt
    have hno2 : ¬ LaidTo a b p (Y.getD j 0) → ∀ k, k < j + 1 → ¬ LaidTo a b p (Y.getD k 0) := fun h k hk => by
      by_cases e : k = j
      · subst e; exact h
      · exact hno k (by omega)
    generalize Y.getD j 0 = q at *
    (repeat' (first | refine qS ?_ | (refine w_e [] ?_; intro J hJ; simp only []; simp [f36, fi, fn, hd, hlt]; (refine hJ _ _ ?_; clear hJ J; simp only [ak, reduceIte]))))
    (refine w_s [] [st.next, st.next + 1] [(0, true), (1, true), (2, true), (3, true), (4, true), (5, true), (6, false), (7, true), (8, true), (9, true), (10, true), (11, true)] ?_; intro J hJ; simp [f4, f5, f9, hG, hG2])
    refine qD (rLaid' a b ha hb p q _ (by omega) (by omega) (by omega) (by omega) (hxd _ hpX) (hyd _ hqY)) (by simp) ?_; rintro r s1 ⟨hr, h1⟩
    rw [h1]; clear h1 s1
    obtain ⟨n, ok, rfl, hok, hnn⟩ := hln hr hpX
    refine ⟨fun h => by first | (cases h; done) | simp [hG, hG2], ?_⟩
    (refine d_go ?_; simp [hG, hG2]; (refine hJ _ _ ?_; clear hJ J; simp only [ak, reduceIte]))
    cases ok with
    | true =>
      have hn := hnn rfl
      have hn' : (n : Int) = X'.length + 1 := by simp at hn; omega
      (repeat' (first | refine qS ?_ | (refine qR ?_; simp only [ak, reduceIte]; simp [f9, hn', h2]) | (refine qC ?_; simp [f9, hn', h2]) | (refine w_e [] ?_; intro J hJ; simp only []; simp [f9, hn', h2]; (refine hJ _ _ ?_; clear hJ J; simp only [ak, reduceIte]))))
      exact ⟨⟨q, hqY, hok.1 rfl⟩, hkp⟩
    | false =>
      (repeat' (first | refine qS ?_ | (refine qK ?_; simp only [ak, reduceIte]) | (refine qC ?_; simp []) | (refine w_e [] ?_; intro J hJ; simp only []; simp []; (refine hJ _ _ ?_; clear hJ J; simp only [ak, reduceIte]))))
      exact hJO _ _ (by simp [fi]) (by simp [fn]) ⟨by simp [f4], by simp [f5], by simp [f9], by simp [f36], hG, hG2, hkp, hno2 fun h => absurd (hok.2 h) (by simp)⟩
  · rintro fr s ⟨f4, f5, f9, f36, hG, hG2, hkp, hno⟩
    (repeat' (first | refine qS ?_ | (refine qR ?_; simp only [ak, reduceIte]; simp []) | (refine w_e [] ?_; intro J hJ; simp only []; simp []; (refine hJ _ _ ?_; clear hJ J; simp only [ak, reduceIte]))))
    have hfin : ∀ d ∈ Y, ¬ LaidTo a b p d := fun d hd h => by
      obtain ⟨k1, k2⟩ := idx_lt hd
      exact absurd (by rw [k2]; exact h) (hno _ k1)
    first
      | exact ⟨hfin, hkp⟩
      | trace_state
theorem rPart (a b : Mp) (ha : MapOk a) (hb : MapOk b) (x y : List Int) (t t' : Nat) (st : St) (hva : a.g.vs.length ≤ 100) (hea : a.g.es.length ≤ 100) (hvb : b.g.vs.length ≤ 100) (heb : b.g.es.length ≤ 100) {v w : Int} (hx : IsPart a.g v x) (hy : IsPart b.g w y) :
    ACalls Tryz.prog 30 [.ag (mpL a), .ag (mpL b), .sl t x.length (us x), .sl t' y.length (us y)] st fun r st' => (∃ ok : Bool, r = bb ok ∧ (ok = true ↔ PartEq a b x y)) ∧ st' = st :=
  qT (rPartK a b ha hb x y t t' st hva hea hvb heb hx hy) fun r h => by
    obtain ⟨ok, rfl, _⟩ := h
    trivial
def sel : List (List Int) → List Bool → List (List Int)
  | x :: l, true :: t => x :: sel l t
  | _ :: l, false :: t => sel l t
  | _, _ => []
theorem sel_rep (l : List (List Int)) (n : Nat) : sel l (List.replicate n false) = [] := by
  induction l generalizing n with
  | nil => cases n <;> rfl
  | cons x l ih =>
    cases n with
    | zero => rfl
    | succ n => rw [List.replicate_succ]; exact ih n
theorem sel_sub (l : List (List Int)) (t : List Bool) : (sel l t).Sublist l := by
  induction l generalizing t with
  | nil => cases t <;> exact List.nil_sublist _
  | cons x l ih =>
    match t with
    | [] => exact List.nil_sublist _
    | true :: t => exact (ih t).cons_cons _
    | false :: t => exact (ih t).cons _
theorem sel_set (l : List (List Int)) (t : List Bool) (k : Nat) (hk : k < l.length) (hl : t.length = l.length) (ht : t.getD k true = false) : (sel l (t.set k true)).Perm (l.getD k [] :: sel l t) := by
  induction l generalizing t k with
  | nil => simp at hk
  | cons x l ih =>
    match t, k with
    | [], _ => simp at hl
    | b :: t, 0 =>
      have hb : b = false := by simpa using ht
      subst hb
      exact .refl _
    | true :: t, k + 1 =>
      have := ih t k (by simpa using hk) (by simpa using hl) (by simpa using ht)
      exact (this.cons x).trans (.swap _ _ _)
    | false :: t, k + 1 => exact ih t k (by simpa using hk) (by simpa using hl) (by simpa using ht)
theorem sel_count (l : List (List Int)) (t : List Bool) (x : List Int) (hl : t.length = l.length) (h : ∀ k, k < l.length → t.getD k true = false → l.getD k [] ≠ x) : l.count x ≤ (sel l t).count x := by
  induction l generalizing t with
  | nil => simp
  | cons y l ih =>
    match t with
    | [] => simp at hl
    | true :: t =>
      have := ih t (by simpa using hl) fun k hk h1 => h (k + 1) (by simpa using hk) (by simpa using h1)
      rw [sel, List.count_cons, List.count_cons]; omega
    | false :: t =>
      have := ih t (by simpa using hl) fun k hk h1 => h (k + 1) (by simpa using hk) (by simpa using h1)
      have h0 : y ≠ x := h 0 (by simp) rfl
      rw [sel, List.count_cons, if_neg (by simpa using h0)]; exact this
def PkI (KA KB : List (List Int)) (j k : Nat) (dn : Bool) (tk : List Bool) : Prop :=
  tk.length = KB.length ∧ (dn = true → (KA.take (j + 1)).Perm (sel KB tk)) ∧ (dn = false → (KA.take j).Perm (sel KB tk) ∧ ∀ i, i < k → tk.getD i true = false → KB.getD i [] ≠ KA.getD j [])
theorem take_one {KA : List (List Int)} {j : Nat} (hj : j < KA.length) : KA.take (j + 1) = KA.take j ++ [KA.getD j []] := by
  rw [List.take_succ_eq_append_getElem hj, List.getD_eq_getElem?_getD, List.getElem?_eq_getElem hj]; rfl
theorem PkI.none {KA KB : List (List Int)} {j : Nat} {tk : List Bool} (h : PkI KA KB j KB.length false tk) (hj : j < KA.length) : ¬ KA.Perm KB := fun hp => by
  obtain ⟨h1, _, h2⟩ := h
  obtain ⟨h3, h4⟩ := h2 rfl
  have c1 := sel_count KB tk (KA.getD j []) h1 h4
  have c2 := hp.count_eq (KA.getD j [])
  have c3 := h3.count_eq (KA.getD j [])
  have c4 := (List.take_sublist (j + 1) KA).count_le (KA.getD j [])
  rw [take_one hj, List.count_append, List.count_singleton_self] at c4
  omega
theorem PkI.all {KA KB : List (List Int)} {tk : List Bool} (hl : KA.length = KB.length) (h : (KA.take KA.length).Perm (sel KB tk)) : KA.Perm KB := by
  rw [List.take_length] at h
  have := (sel_sub KB tk).eq_of_length (by rw [← h.length_eq]; exact hl)
  rwa [this] at h
theorem PkI.hit {KA KB : List (List Int)} {j k : Nat} {tk : List Bool} (h : PkI KA KB j k false tk) (hj : j < KA.length) (hk : k < KB.length) (ht : tk.getD k true = false) (e : KB.getD k [] = KA.getD j []) : PkI KA KB j (k + 1) true (tk.set k true) := by
  obtain ⟨h1, _, h2⟩ := h
  refine ⟨by rw [List.length_set]; exact h1, fun _ => ?_, fun h => absurd h (by simp)⟩
  rw [take_one hj, ← e]
  exact ((List.perm_append_singleton _ _).trans ((h2 rfl).1.cons _)).trans (sel_set KB tk k hk h1 ht).symm
theorem PkI.miss {KA KB : List (List Int)} {j k : Nat} {tk : List Bool} (h : PkI KA KB j k false tk) (ht : tk.getD k true = false → KB.getD k [] ≠ KA.getD j []) : PkI KA KB j (k + 1) false tk := by
  obtain ⟨h1, _, h2⟩ := h
  refine ⟨h1, fun h => absurd h (by simp), fun _ => ⟨(h2 rfl).1, fun i hi => ?_⟩⟩
  by_cases ei : i = k
  · subst ei; exact ht
  · exact (h2 rfl).2 i (by omega)
theorem PkI.skip {KA KB : List (List Int)} {j k : Nat} {tk : List Bool} (h : PkI KA KB j k true tk) : PkI KA KB j (k + 1) true tk := ⟨h.1, h.2.1, fun h => absurd h (by simp)⟩
theorem belL_us (n : Nat) : ∀ l : List Int, belL n (us l) := fun l => by
  induction l with
  | nil => simp only [us, List.map_nil, belL]
  | cons x l ih => simp only [us, List.map_cons, belL]; exact ⟨trivial, ih⟩
theorem belL_rows3 (n : Nat) : ∀ R : List (List Int), belL n (rowsL3 R) := fun R => by
  induction R with
  | nil => simp only [rowsL3, List.map_nil, belL]
  | cons x l ih => simp only [rowsL3, List.map_cons, belL]; exact ⟨⟨.inl rfl, belL_us _ _⟩, ih⟩
theorem rParts (g : Gr) (st : St) (hg : Good g) (hv : g.vs.length ≤ 1000) (he : g.es.length ≤ 1000) :
    ACalls Tryz.prog 29 [.ag (grL g)] st fun r st' => (∃ R, r = .sl 0 R.length (rowsL3 R) ∧ PartsTo g g.vs.length R) ∧ st' = st := by
  refine qT (Q := fun r => ∃ R, r = .sl 0 R.length (rowsL3 R) ∧ PartsTo g g.vs.length R) (acalls_z0 ((ref_Parts g st hg hv he).mono ?_)) ?_
  · rintro r s ⟨⟨t, R, rfl, h⟩, hk⟩
    refine ⟨⟨R, ?_, h⟩, hk⟩
    have : z0L (rowsL3 R) = rowsL3 R := by
      clear h
      induction R with
      | nil => rfl
      | cons x l ih => simp [rowsL3, z0, z0L_map]
    simp only [z0, this]
  · rintro r ⟨R, rfl, _⟩
    exact ⟨.inl rfl, belL_rows3 _ _⟩
def bbs (t : List Bool) : List LV := t.map bb
theorem zerosL_bb (n : Nat) : zerosL [bb false] n = bbs (List.replicate n false) := by
  induction n with
  | zero => rfl
  | succ n ih => rw [zerosL, ih, List.replicate_succ]; rfl
theorem bbs_drop (t : List Bool) (k : Nat) (hk : k < t.length) : (bbs t).drop k = bb (t.getD k true) :: bbs (t.drop (k + 1)) := by
  rw [bbs, bbs, ← List.map_drop, List.drop_eq_getElem_cons hk, List.map_cons, List.getD_eq_getElem?_getD, List.getElem?_eq_getElem hk]; rfl
theorem bbs_set (t : List Bool) (k : Nat) (hk : k < t.length) : (bbs t).take k ++ bb true :: (bbs t).drop (k + 1) = bbs (t.set k true) := by
  rw [bbs, bbs, ← List.map_take, ← List.map_drop, List.set_eq_take_append_cons_drop, if_pos hk]; simp
theorem bbs_len (t : List Bool) : (bbs t).length = t.length := by simp [bbs]
set_option maxHeartbeats 8000000 in
theorem rSame (a b : Mp) (ha : MapOk a) (hb : MapOk b) (st : St) (hva : a.g.vs.length ≤ 100) (hea : a.g.es.length ≤ 100) (hvb : b.g.vs.length ≤ 100) (heb : b.g.es.length ≤ 100) {c c' : List Int} (hc : IsCode a c) (hc' : IsCode b c') :
    ACalls Tryz.prog 12 [.ag (mpL a), .ag (mpL b)] st fun r st' => r = bb (decide (c = c')) ∧ Keeps st st' := by
  have hQ : ∀ A B, PartsTo a.g a.g.vs.length A → PartsTo b.g b.g.vs.length B → (c = c' ↔ (A.map (keyW a)).Perm (B.map (keyW b))) := fun A B hA hB => code_iff hc hc' hA hB
  have hT : c = c' → decide (c = c') = true := fun h => by simpa using h
  have hF : ¬ c = c' → decide (c = c') = false := fun h => by simpa using h
  generalize decide (c = c') = dd at *
  generalize (c = c') = PP at *
  clear hc hc'
  refine qO tabOk Tryz.func12 rfl rfl Tryz.ntmps12 (rs := [.tmp 4]) rfl (by simp) ?_
  refine awp_posG fun hpos => ?_
  (repeat' (first | refine qS ?_ | (refine w_e [] ?_; intro J hJ; simp only []; simp []; (refine hJ _ _ ?_; clear hJ J; simp only [ak, reduceIte]))))
  (refine w_s [] [st.next, st.next + 1] [(0, true), (1, true), (3, true), (4, true), (2, true), (5, true), (6, true), (7, true)] ?_; intro J hJ; simp [])
  refine qD (rParts a.g _ ha.g.toGood (by omega) (by omega)) (by simp) ?_; rintro r s1 ⟨⟨A, rfl, hA⟩, h1⟩
  rw [h1]; clear h1 s1
  refine ⟨fun h => by first | (cases h; done) | simp, ?_⟩
  (refine d_go ?_; simp [])
  refine qD (rParts b.g _ hb.g.toGood (by omega) (by omega)) (by simp) ?_; rintro r s1 ⟨⟨B, rfl, hB⟩, h1⟩
  rw [h1]; clear h1 s1
  refine ⟨fun h => by first | (cases h; done) | simp, ?_⟩
  (refine d_go ?_; simp []; (refine hJ _ _ ?_; clear hJ J; simp only [ak, reduceIte]))
  have hQ' := hQ A B hA hB
  have hK1 := (Keeps.new st (.box 28 3 (mpL a))).trans (Keeps.new _ (.box 28 3 (mpL b)))
  have hBl : B.length ≤ b.g.vs.length := hB.len
  by_cases hl : A.length = B.length
  rotate_left
  · have hl' : ¬ (A.length : Int) = B.length := by omega
    have hb1 : ((A.length : Int) != B.length) = true := by simpa using hl'
    obtain rfl := hF fun e => hl (by simpa using ((hQ'.1 e).length_eq))
    (repeat' (first | refine qS ?_ | (refine qR ?_; simp only [ak, reduceIte]; simp [hl', hl, hb1]) | (refine qC ?_; simp [hl', hl, hb1]) | (refine w_e [] ?_; intro J hJ; simp only []; simp [hl', hl, hb1]; (refine hJ _ _ ?_; clear hJ J; simp only [ak, reduceIte]))))
    exact hK1
  have hkey : ∀ j, j < A.length → ∀ k, k < B.length → ((B.map (keyW b)).getD k [] = (A.map (keyW a)).getD j [] ↔ PartEq a b (A.getD j []) (B.getD k [])) := fun j hj k hk => by
    have e1 : (B.map (keyW b)).getD k [] = keyW b (B.getD k []) := by simp [List.getD_eq_getElem?_getD, hk]
    have e2 : (A.map (keyW a)).getD j [] = keyW a (A.getD j []) := by simp [List.getD_eq_getElem?_getD, hj]
    have m1 : A.getD j [] ∈ A := by simp [List.getD_eq_getElem?_getD, hj]
    have m2 : B.getD k [] ∈ B := by simp [List.getD_eq_getElem?_getD, hk]
    obtain ⟨v, hv, hx⟩ := parts_mem hA _ m1
    obtain ⟨w, hw, hy⟩ := parts_mem hB _ m2
    rw [e1, e2, eq_comm]
    exact key_part ha hb hv hw hx hy
  have hpa : ∀ j, j < A.length → ∃ v, IsPart a.g v (A.getD j []) := fun j hj => by
    obtain ⟨v, _, hx⟩ := parts_mem hA (A.getD j []) (by simp [List.getD_eq_getElem?_getD, hj])
    exact ⟨v, hx⟩
  have hpb : ∀ j, j < B.length → ∃ v, IsPart b.g v (B.getD j []) := fun j hj => by
    obtain ⟨v, _, hx⟩ := parts_mem hB (B.getD j []) (by simp [List.getD_eq_getElem?_getD, hj])
    exact ⟨v, hx⟩
  have hKA : (A.map (keyW a)).length = A.length := List.length_map _
  have hKB : (B.map (keyW b)).length = B.length := List.length_map _
  generalize A.map (keyW a) = KA at *
  generalize B.map (keyW b) = KB at *
  have hzz := zerosL_bb B.length
  have hll : (A.length : Int) = B.length := by omega
  clear hQ hA hB
  (repeat' (first | refine qS ?_ | refine qB ?_ | (refine qK ?_; simp only [ak, reduceIte]) | (refine qC ?_; simp [hl, hll, hzz]) | (refine w_e [] ?_; intro J hJ; simp only []; simp [hl, hll, hzz]; (repeat refine ca ?_); (refine hJ _ _ ?_; clear hJ J; simp only [ak, reduceIte]))))
  refine awp_range 29 28 30 62 (B.length) (fun j fr st2 => fr 2 = .pt st.next 0 ∧ fr 3 = .pt (st.next + 1) 0 ∧ fr 6 = .sl 0 B.length (rowsL3 B) ∧ fr 7 = .ms (st.next + 2) 0 B.length ∧ fr 27 = .sl 0 B.length (rowsL3 A) ∧ st2.H st.next = .box 28 3 (mpL a) ∧ st2.H (st.next + 1) = .box 28 3 (mpL b) ∧ st.next + 2 < st2.next ∧ Keeps st st2 ∧ ∃ tk : List Bool, st2.H (st.next + 2) = .box 4 1 (bbs tk) ∧ tk.length = B.length ∧ (KA.take j).Perm (sel KB tk)) ?_ ?_ ?_
  · refine ⟨by simp, by simp, by simp, by simp, by simp [hl], by simp, by simp, by simp, hK1.trans (Keeps.new _ _), List.replicate B.length false, by simp, by simp, ?_⟩
    rw [sel_rep]; simp
  · rintro jo fr s hlt ⟨f2, f3, f6, f7, f27, hG, hG2, hsn, hkp, tk, hH, htl, hpm⟩ fi fn JO hJO
    have hlA : jo < A.length := by omega
    have hd := rows3_dropA A jo hlA
    obtain ⟨v, hx⟩ := hpa jo hlA
    have hky := hkey jo hlA
    have hxlen := part_len hx
    generalize A.getD jo [] = x at *
    (repeat' (first | refine qS ?_ | refine qB ?_ | (refine w_e [] ?_; intro J hJ; simp only []; simp [f27, f6, fi, fn, hd, hlt]; (repeat refine ca ?_); (refine hJ _ _ ?_; clear hJ J; simp only [ak, reduceIte]))))
    refine awp_range 35 34 36 59 (B.length) (fun j fr st2 => fr 2 = .pt st.next 0 ∧ fr 3 = .pt (st.next + 1) 0 ∧ fr 6 = .sl 0 B.length (rowsL3 B) ∧ fr 7 = .ms (st.next + 2) 0 B.length ∧ fr 9 = .sl 0 x.length (us x) ∧ fr 27 = .sl 0 B.length (rowsL3 A) ∧ fr 28 = i B.length ∧ fr 29 = i jo ∧ fr 33 = .sl 0 B.length (rowsL3 B) ∧ st2.H st.next = .box 28 3 (mpL a) ∧ st2.H (st.next + 1) = .box 28 3 (mpL b) ∧ st.next + 2 < st2.next ∧ Keeps st st2 ∧ ∃ (dn : Bool) (tk : List Bool), fr 10 = bb dn ∧ st2.H (st.next + 2) = .box 4 1 (bbs tk) ∧ PkI KA KB jo j dn tk) ?_ ?_ ?_
    · exact ⟨by simp [f2], by simp [f3], by simp [f6], by simp [f7], by simp, by simp [f27], by simp [fn], by simp [fi], by simp [f6], hG, hG2, hsn, hkp, false, tk, by simp, hH, by omega, fun h => absurd h (by simp), fun _ => ⟨hpm, fun i hi => by omega⟩⟩
    · clear f2 f3 f6 f7 f27 fi fn hG hG2 hsn hkp hH htl hpm hd tk
      clear hJO
      rintro k fr s hlk ⟨f2, f3, f6, f7, f9, f27, f28, f29, f33, hG, hG2, hsn, hkp, dn, tk, f10, hH, hI⟩ fi fn JI hJI
      have hd := rows3_dropA B k hlk
      obtain ⟨w, hy⟩ := hpb k hlk
      have hky := hky k hlk
      have hylen := part_len hy
      have htl : tk.length = B.length := hI.1.trans hKB
      have hbl : (bbs tk).length = B.length := (bbs_len tk).trans htl
      have hdt := bbs_drop tk k (by omega)
      have hset := bbs_set tk k (by omega)
      generalize B.getD k [] = y at *
      cases dn with
      | true =>
        (repeat' (first | refine qS ?_ | (refine qK ?_; simp only [ak, reduceIte]) | (refine qC ?_; simp [f33, fi, fn, hd, hlk, f10]) | (refine w_e [] ?_; intro J hJ; simp only []; simp [f33, fi, fn, hd, hlk, f10]; (refine hJ _ _ ?_; clear hJ J; simp only [ak, reduceIte]))))
        exact hJI _ _ (by simp [fi]) (by simp [fn]) ⟨by simp [f2], by simp [f3], by simp [f6], by simp [f7], by simp [f9], by simp [f27], by simp [f28], by simp [f29], by simp [f33], hG, hG2, hsn, hkp, true, tk, by simp [f10], hH, hI.skip⟩
      | false =>
        cases hbt : tk.getD k true with
        | true =>
          rw [hbt] at hdt
          (repeat' (first | refine qS ?_ | (refine qK ?_; simp only [ak, reduceIte]) | (refine qC ?_; simp [f33, fi, fn, hd, hlk, f10, f7, hH, hdt, hbl]) | (refine w_e [] ?_; intro J hJ; simp only []; simp [f33, fi, fn, hd, hlk, f10, f7, hH, hdt, hbl]; (refine hJ _ _ ?_; clear hJ J; simp only [ak, reduceIte]))))
          exact hJI _ _ (by simp [fi]) (by simp [fn]) ⟨by simp [f2], by simp [f3], by simp [f6], by simp [f7], by simp [f9], by simp [f27], by simp [f28], by simp [f29], by simp [f33], hG, hG2, hsn, hkp, false, tk, by simp [f10], hH, hI.miss fun h => absurd (hbt.symm.trans h) (by simp)⟩
        | false =>
          rw [hbt] at hdt
          (repeat' (first | refine qS ?_ | (refine w_e [] ?_; intro J hJ; simp only []; simp [f33, fi, fn, hd, hlk, f10, f7, hH, hdt, hbl, f2, f3, f9, hG, hG2]; (try (refine hJ _ _ ?_; clear hJ J; simp only [ak, reduceIte])))))
          refine qE (rPart a b ha hb x y 0 0 _ (by omega) (by omega) (by omega) (by omega) hx hy) (by simp) ?_; rintro r s1 ⟨⟨ok, rfl, hok⟩, h1⟩
          rw [h1]; clear h1 s1
          cases ok with
          | true =>
            have hky2 := hky.2 (hok.1 rfl)
            (repeat' (first | refine qS ?_ | (refine qC ?_; simp [f7, hH, hbl, hlk, hset]) | ((first | (refine w_e [] ?_; intro J hJ; simp only []) | (refine e_go ?_)); simp [f7, hH, hbl, hlk, hset]; (repeat refine ca ?_); (refine hJ _ _ ?_; clear hJ J; simp only [ak, reduceIte]))))
            exact hJI _ _ (by simp [fi]) (by simp [fn]) ⟨by simp [f2], by simp [f3], by simp [f6], by simp [f7], by simp [f9], by simp [f27], by simp [f28], by simp [f29], by simp [f33], by simp [hG], by simp [hG2], by simpa using hsn, hkp.set (by omega) _, true, tk.set k true, by simp, by simp, hI.hit (by omega) (by omega) hbt hky2⟩
          | false =>
            (repeat' (first | (refine qK ?_; simp only [ak, reduceIte]) | (refine qC ?_; simp [f10]) | (refine e_go ?_; simp [f10]; (refine hJ _ _ ?_; clear hJ J; simp only [ak, reduceIte]))))
            exact hJI _ _ (by simp [fi]) (by simp [fn]) ⟨by simp [f2], by simp [f3], by simp [f6], by simp [f7], by simp [f9], by simp [f27], by simp [f28], by simp [f29], by simp [f33], hG, hG2, hsn, hkp, false, tk, by simp [f10], hH, hI.miss fun _ h => absurd (hok.2 (hky.1 h)) (by simp)⟩
    · clear f2 f3 f6 f7 f27 fi fn hG hG2 hsn hkp hH htl hpm tk
      rintro fr s ⟨f2, f3, f6, f7, f9, f27, f28, f29, f33, hG, hG2, hsn, hkp, dn, tk, f10, hH, hI⟩
      cases dn with
      | true =>
        (repeat' (first | refine qS ?_ | (refine qK ?_; simp only [ak, reduceIte]) | (refine qC ?_; simp [f10]) | (refine w_e [] ?_; intro J hJ; simp only []; simp [f10]; (refine hJ _ _ ?_; clear hJ J; simp only [ak, reduceIte]))))
        exact hJO _ _ (by simp [f29]) (by simp [f28]) ⟨by simp [f2], by simp [f3], by simp [f6], by simp [f7], by simp [f27], hG, hG2, hsn, hkp, tk, hH, hI.1.trans hKB, hI.2.1 rfl⟩
      | false =>
        rw [← hKB] at hI
        obtain rfl := hF fun e => hI.none (by omega) (hQ'.1 e)
        (repeat' (first | refine qS ?_ | (refine qR ?_; simp only [ak, reduceIte]; simp [f10]) | (refine qC ?_; simp [f10]) | (refine w_e [] ?_; intro J hJ; simp only []; simp [f10]; (refine hJ _ _ ?_; clear hJ J; simp only [ak, reduceIte]))))
        exact hkp
  · rintro fr s ⟨f2, f3, f6, f7, f27, hG, hG2, hsn, hkp, tk, hH, htl, hpm⟩
    rw [← hl, ← hKA] at hpm
    obtain rfl := hT (hQ'.2 (PkI.all (by omega) hpm))
    (repeat' (first | refine qS ?_ | (refine qR ?_; simp only [ak, reduceIte]; simp []) | (refine w_e [] ?_; intro J hJ; simp only []; simp []; (refine hJ _ _ ?_; clear hJ J; simp only [ak, reduceIte]))))
    exact hkp
theorem parts_ex (g : Gr) (hg : Good g) : ∀ k, k ≤ g.vs.length → ∃ R, PartsTo g k R := fun k => by
  induction k with
  | zero => exact fun _ => ⟨[], .zero⟩
  | succ k ih =>
    intro hk
    obtain ⟨R, h⟩ := ih (by omega)
    by_cases hs : Seen g k (g.vs.getD k 0)
    · exact ⟨R, h.seen (by omega) hs⟩
    · classical
      refine ⟨R ++ [g.vs.filter fun u => decide (Reach g.es (g.vs.getD k 0) u)], h.lead (by omega) hs ⟨?_, fun u => ?_⟩⟩
      · exact hg.rise.sublist List.filter_sublist
      · rw [List.mem_filter, decide_eq_true_iff]
theorem code_ex (m : Mp) (ho : MapOk m) : ∃ c, IsCode m c := by
  obtain ⟨R, h⟩ := parts_ex m.g ho.g.toGood _ (Nat.le_refl _)
  have hp := List.mergeSort_perm (R.map fun x => withLen (keyW m x)) (fun a b => decide (lcmp a b ≤ 0))
  refine ⟨_, R, _, h, hp, ?_, rfl⟩
  refine (List.pairwise_mergeSort ?_ ?_ (R.map fun x => withLen (keyW m x))).imp fun {a b} h => by simpa [Lle] using h
  · intro a b c h1 h2
    simp only [decide_eq_true_iff] at h1 h2 ⊢
    by_cases e1 : lcmp a b = 0
    · rw [lcmp_eq e1]; exact h2
    · by_cases e2 : lcmp b c = 0
      · rw [← lcmp_eq e2]; exact h1
      · have := lcmp_trans (a := a) (b := b) (c := c) (by omega) (by omega); omega
  · intro a b
    have := lcmp_swap a b
    simp only [Bool.or_eq_true, decide_eq_true_iff]
    omega
theorem code_one {m : Mp} {c c' : List Int} (h : IsCode m c) (h' : IsCode m c') : c = c' := by
  obtain ⟨P, S, h1, h2⟩ := id h
  exact (code_iff h h' h1 h1).2 (.refl _)
theorem cCode' (m : Mp) (ho : MapOk m) (st : St) (hv : m.g.vs.length ≤ 100) (he : m.g.es.length ≤ 100) {c : List Int} (hc : IsCode m c) :
    ACalls Tryz.prog 16 [.ag (mpL m)] st fun r st' => r = .sl 0 c.length (us c) ∧ st' = st :=
  qT (Q := fun r => r = .sl 0 c.length (us c)) ((cCode m ho st hv he).mono fun r s ⟨⟨c', h1, h2⟩, hk⟩ => ⟨by rw [h1, code_one h2 hc], hk⟩) fun r h => by
    subst h
    exact ⟨.inl rfl, belL_us _ _⟩
theorem light33' (m : Mp) (st : St) : ACalls Tryz.prog 5 [.ag (mpL m)] st fun r st' => r = bb (lit33 m) ∧ st' = st :=
  qT (Q := fun r => r = bb (lit33 m)) (light33 m st) fun r h => by subst h; trivial
theorem rSame' (a b : Mp) (ha : MapOk a) (hb : MapOk b) (st : St) (hva : a.g.vs.length ≤ 100) (hea : a.g.es.length ≤ 100) (hvb : b.g.vs.length ≤ 100) (heb : b.g.es.length ≤ 100) {c c' : List Int} (hc : IsCode a c) (hc' : IsCode b c') :
    ACalls Tryz.prog 12 [.ag (mpL a), .ag (mpL b)] st fun r st' => r = bb (decide (c = c')) ∧ st' = st :=
  qT (Q := fun r => r = bb (decide (c = c'))) (rSame a b ha hb st hva hea hvb heb hc hc') fun r h => by subst h; trivial
theorem flat_le {n : Nat} : ∀ S : List (List Int), (∀ s ∈ S, s.length ≤ n) → S.flatten.length ≤ S.length * n
  | [], _ => by simp
  | s :: S, h => by
    have h1 := flat_le S fun t ht => h t (List.mem_cons_of_mem _ ht)
    have h2 := h s (by simp)
    rw [List.flatten_cons, List.length_append, List.length_cons, Nat.succ_mul]; omega
theorem code_len {m : Mp} (ho : MapOk m) (hv : m.g.vs.length ≤ 100) (he : m.g.es.length ≤ 100) {c : List Int} (hc : IsCode m c) : c.length ≤ 100000 := by
  obtain ⟨P, S, h1, h2, _, rfl⟩ := hc
  have h3 := h1.len
  have h4 := h2.length_eq
  rw [List.length_map] at h4
  have h5 := flat_le (n := 402) S fun s hs => by
    obtain ⟨x, hx, rfl⟩ := List.mem_map.1 (h2.mem_iff.1 hs)
    have := keyW_len m ho x
    simp [withLen]; omega
  have h6 : S.length * 402 ≤ 100 * 402 := Nat.mul_le_mul_right _ (by omega)
  rw [List.length_cons]; omega
theorem cSameK (a b : Mp) (ha : MapOk a) (hb : MapOk b) (st : St) (hva : a.g.vs.length ≤ 100) (hea : a.g.es.length ≤ 100) (hvb : b.g.vs.length ≤ 100) (heb : b.g.es.length ≤ 100) {c c' : List Int} (hc : IsCode a c) (hc' : IsCode b c') :
    ACalls Tryz.prog 11 [.ag (mpL a), .ag (mpL b)] st fun r st' => r = bb (decide (c = c')) ∧ Keeps st st' := by
  have hl := code_len ha hva hea hc
  have hsm : small c := by unfold small; omega
  refine qO tabOk Tryz.func11 rfl rfl Tryz.ntmps11 (rs := [.tmp 4]) rfl (by simp) ?_
  (repeat' (first | refine qS ?_ | (refine w_e [] ?_; intro J hJ; simp only []; simp []; (refine hJ _ _ ?_; clear hJ J; simp only [ak, reduceIte]))))
  (refine w_s [] [st.next, st.next + 1] [(0, true), (2, true), (1, true), (3, true), (4, true), (5, true)] ?_; intro J hJ; simp [])
  refine qD (cCode' a ha _ (by omega) (by omega) hc) (by simp) ?_; rintro r s1 ⟨rfl, h1⟩
  rw [h1]; clear h1 s1
  refine ⟨fun h => by first | (cases h; done) | simp, ?_⟩
  (refine d_go ?_; simp [])
  refine qD (cCode' b hb _ (by omega) (by omega) hc') (by simp) ?_; rintro r s1 ⟨rfl, h1⟩
  rw [h1]; clear h1 s1
  refine ⟨fun h => by first | (cases h; done) | simp, ?_⟩
  (refine d_go ?_; simp [])
  refine qD (Equal c c' 0 0 _ hsm) (by simp) ?_; rintro r s1 ⟨rfl, h1⟩
  rw [h1]; clear h1 s1
  refine ⟨fun h => by first | (cases h; done) | simp, ?_⟩
  (refine d_go ?_; simp []; (refine hJ _ _ ?_; clear hJ J; simp only [ak, reduceIte]))
  (repeat' (refine qR ?_; simp only [ak, reduceIte]; simp []))
  exact (Keeps.new _ _).trans (Keeps.new _ _)
theorem cSame (a b : Mp) (ha : MapOk a) (hb : MapOk b) (st : St) (hva : a.g.vs.length ≤ 100) (hea : a.g.es.length ≤ 100) (hvb : b.g.vs.length ≤ 100) (heb : b.g.es.length ≤ 100) {c c' : List Int} (hc : IsCode a c) (hc' : IsCode b c') :
    ACalls Tryz.prog 11 [.ag (mpL a), .ag (mpL b)] st fun r st' => r = bb (decide (c = c')) ∧ st' = st :=
  qT (Q := fun r => r = bb (decide (c = c'))) (cSameK a b ha hb st hva hea hvb heb hc hc') fun r h => by subst h; trivial
theorem belL_eds (n : Nat) : ∀ l : List Ed, belL n (eds l) := fun l => by
  induction l with
  | nil => simp only [eds, List.flatMap_nil, belL]
  | cons x l ih => simp only [eds, List.flatMap_cons] at ih ⊢; exact ⟨trivial, trivial, trivial, ih⟩
theorem bel_grL (n : Nat) (g : Gr) : bel n (.ag (grL g)) := ⟨⟨.inl rfl, belL_us _ _⟩, ⟨.inl rfl, belL_eds _ _⟩, trivial⟩
theorem bel_mpL (n : Nat) (m : Mp) : bel n (.ag (mpL m)) := ⟨⟨.inl rfl, belL_us _ _⟩, ⟨.inl rfl, belL_eds _ _⟩, ⟨.inl rfl, belL_rows3 _ _⟩, trivial⟩
theorem nrm_perm (l : List Int) : (nrm l).Perm l := by
  unfold nrm rt
  exact List.perm_append_comm.trans (by rw [List.take_append_drop])
theorem nrm_nrm (l : List Int) : nrm (nrm l) = nrm l := by
  by_cases h : l = []
  · subst h; rfl
  · obtain ⟨r, hr⟩ := nrm_head l h
    have hm : mn (nrm l) = mn l := mn_eq ((nrm_perm l).mem_iff.2 (mn_mem h)) fun x hx => mn_le ((nrm_perm l).mem_iff.1 hx)
    exact nrm_of_head hr hm
end Go.Proofs.YtplnodgkmbajiaaGreat.Aw
namespace Go.Proofs.YtplnodgkmbajiaaGreat.Aw
open Go Go.RowKit Go.Proofs.YtplnodgkmbajiaaGreat.Pl
set_option linter.unusedSimpArgs false
set_option linter.unusedVariables false
theorem getDE (l : List Ed) (j : Nat) (hj : j < l.length) : l.getD j ed0 = l[j] := by
  rw [List.getD_eq_getElem?_getD, List.getElem?_eq_getElem hj]; rfl
theorem eds_append (a b : List Ed) : eds (a ++ b) = eds a ++ eds b := by simp [eds]
theorem eds_tk (l : List Ed) (k : Nat) : (eds l).take (k * 3) = eds (l.take k) := by
  induction l generalizing k with
  | nil => simp [eds]
  | cons x l ih =>
    cases k with
    | zero => simp [eds]
    | succ k =>
      rw [show (k + 1) * 3 = k * 3 + 1 + 1 + 1 by omega]
      simp only [eds, List.flatMap_cons, edL, List.cons_append, List.nil_append, List.take_succ_cons]
      have := ih k
      simp only [eds, edL] at this
      rw [this]
theorem eds_dr (l : List Ed) (k : Nat) : (eds l).drop (k * 3) = eds (l.drop k) := by
  induction l generalizing k with
  | nil => simp [eds]
  | cons x l ih =>
    cases k with
    | zero => simp [eds]
    | succ k =>
      rw [show (k + 1) * 3 = k * 3 + 1 + 1 + 1 by omega]
      simp only [eds, List.flatMap_cons, edL, List.cons_append, List.nil_append, List.drop_succ_cons]
      have := ih k
      simpa only [eds, edL] using this
theorem eds_set (l : List Ed) (k : Nat) (x : Ed) (hk : k < l.length) : (eds l).take (k * 3) ++ (u x.id :: u x.a :: u x.b :: (eds l).drop (k * 3 + 3)) = eds (l.set k x) := by
  rw [show k * 3 + 3 = (k + 1) * 3 by omega, eds_tk, eds_dr, List.set_eq_take_append_cons_drop, if_pos hk, eds_append]
  rfl
def be (st : St) (q : Nat) (c : List Ed) : St := st.set q (.box 37 3 (eds c))
@[simp] theorem be_next (st : St) (q : Nat) (c : List Ed) : (be st q c).next = st.next := rfl
@[simp] theorem be_H (st : St) (q : Nat) (c : List Ed) : (be st q c).H q = .box 37 3 (eds c) := by simp [be]
theorem set_mid (U : List Ed) (x y : Ed) (W : List Ed) : (U ++ x :: W).set U.length y = U ++ y :: W := by
  rw [List.set_append_right _ _ (Nat.le_refl _)]; simp
theorem getD_mid (U : List Ed) (x : Ed) (W : List Ed) : (U ++ x :: W).getD U.length ed0 = x := by
  rw [List.getD_eq_getElem?_getD, List.getElem?_append_right (Nat.le_refl _)]; simp
theorem wrap_s (n : Int) (h0 : -9223372036854775808 ≤ n) (h1 : n ≤ 9223372036854775807) : IntKind.i64.wrap n = n := by
  simp only [IntKind.wrap, IntKind.signed, IntKind.bits]
  simp
  split <;> omega
def cmpK (x y : Ed) : Int := if x.id < y.id then -1 else if y.id < x.id then 1 else 0
theorem cmpK_neg (x y : Ed) : decide (cmpK x y < 0) = decide (x.id < y.id) := by
  unfold cmpK
  by_cases h : x.id < y.id
  · simp [h]
  · rw [if_neg h]
    by_cases h2 : y.id < x.id <;> simp [h, h2]
structure CmpAt (fid : FuncId) (caps : List LV) (q : Nat) (Pc : St → Prop) : Prop where
  keep : ∀ st st', Pc st → OffS q st st' → Pc st'
  call : ∀ st x y, Pc st → ACalls Tryz.prog fid ([.ag (edL x), .ag (edL y)] ++ caps) st fun r st' => r = i (cmpK x y) ∧ Keeps st st'
def Ris (l : List Ed) : Prop := l.Pairwise fun x y => x.id ≤ y.id
theorem get_at (U : List Ed) (x : Ed) (W : List Ed) {j : Nat} (hj : j = U.length) : (U ++ x :: W).getD j ed0 = x := by subst hj; exact getD_mid _ _ _
theorem set_at (U : List Ed) (x y : Ed) (W : List Ed) {j : Nat} (hj : j = U.length) : (U ++ x :: W).set j y = U ++ y :: W := by subst hj; exact set_mid _ _ _ _
def InsP (P X S : List Ed) (q : Nat) (st : St) (r : LV) (st' : St) : Prop := ∃ Y, Y.Perm X ∧ Ris Y ∧ st'.H q = .box 37 3 (eds (P ++ Y ++ S)) ∧ OffS q st st'
theorem ris_ins {A B : List Ed} {x : Ed} (h : Ris (A ++ B)) (h1 : ∀ y ∈ A, y.id ≤ x.id) (h2 : ∀ y ∈ B, x.id ≤ y.id) : Ris (A ++ x :: B) := by
  unfold Ris at h ⊢
  rw [List.pairwise_append] at h ⊢
  refine ⟨h.1, List.pairwise_cons.2 ⟨h2, h.2.1⟩, fun a ha b hb => ?_⟩
  rcases List.mem_cons.1 hb with rfl | hb
  · exact h1 a ha
  · exact h.2.2 a ha b hb
theorem ris_last {A : List Ed} {y : Ed} (h : Ris (A ++ [y])) : ∀ a ∈ A, a.id ≤ y.id := by
  unfold Ris at h
  rw [List.pairwise_append] at h
  exact fun a ha => h.2.2 a ha y (by simp)
set_option maxHeartbeats 1000000 in
theorem insSort (P X S : List Ed) (q : Nat) (fid : FuncId) (caps : List LV) (Pc : St → Prop) (st : St) (hcmp : CmpAt fid caps q Pc) (hPc : Pc st) (hq : q < st.next) (hl : (P ++ X ++ S).length ≤ 100000) (hH : st.H q = .box 37 3 (eds (P ++ X ++ S))) :
    ACalls Tryz.prog 122 [.ms q 0 (P ++ X ++ S).length, i P.length, i (P.length + X.length : Nat), .fn (.func fid) caps] st (InsP P X S q st) := by
  generalize hL : (P ++ X ++ S).length = L at *
  have hLl : L = P.length + X.length + S.length := by rw [← hL]; simp only [List.length_append]
  generalize hp : P.length = p at *
  have wp : IntKind.i64.wrap ((p : Int) + 1) = ((p + 1 : Nat) : Int) := by rw [wrap_s _ (by omega) (by omega)]; omega
  refine qO tabOk Tryz.func122 rfl rfl Tryz.ntmps122 (rs := []) rfl (by simp) ?_
  (repeat' (first | refine qS ?_ | refine qB ?_ | (refine w_e [] ?_; intro J hJ; simp only []; simp [wp]; (refine hJ _ _ ?_; clear hJ J; simp only [ak, reduceIte]))))
  refine qL (fun z fr st2 => ∃ Y Z : List Ed, Z.length ≤ z ∧ fr 0 = .ms q 0 L ∧ fr 1 = i p ∧ fr 2 = i (p + X.length : Nat) ∧ fr 3 = .fn (.func fid) caps ∧ (X = [] ∧ Y = [] ∧ fr 8 = i (p + 1 : Nat) ∨ Y ≠ [] ∧ fr 8 = i (p + Y.length : Nat)) ∧ (Y ++ Z).Perm X ∧ Ris Y ∧ st2.H q = .box 37 3 (eds (P ++ Y ++ Z ++ S)) ∧ OffS q st st2) X.length ?_ ?_
  · cases X with
    | nil => exact ⟨[], [], by simp, by simp, by simp, by simp, by simp, .inl ⟨rfl, rfl, by simp⟩, .refl _, .nil, by simpa using hH, OffS.refl _ _⟩
    | cons x X => 
      refine ⟨[x], X, by simp, by simp, by simp, by simp, by simp, .inr ⟨by simp, by simp⟩, .refl _, List.pairwise_singleton _ _, ?_, OffS.refl _ _⟩
      rw [hH]; simp
  rintro z fr st2 ⟨Y, Z, hz, f0, f1, f2, f3, f8, hpm, hris, hB, hoff⟩ JJ hJJ
  have hpl := hpm.length_eq
  simp only [List.length_append] at hpl
  cases Z with
  | nil =>
    clear hJJ
    simp only [List.length_nil, Nat.add_zero] at hpl
    rw [List.append_nil] at hpm hB
    have hex : ∃ e : Nat, fr 8 = i e ∧ ¬ ((e : Int) < (p + X.length : Nat)) := by
      rcases f8 with ⟨h1, h2, h3⟩ | ⟨h1, h2⟩
      · exact ⟨p + 1, h3, by rw [h1]; simp; omega⟩
      · exact ⟨p + Y.length, h2, by rw [hpl]; omega⟩
    obtain ⟨e, g8, he⟩ := hex
    (repeat' (first | refine qS ?_ | (refine qX ?_; simp only [ak, reduceIte]) | (refine qC ?_; simp [f2, g8, he]; (try with_reducible refine ⟨?_, ?_⟩) <;> (try with_reducible intro hc) <;> try (exfalso; omega)) | (refine w_e [] ?_; intro J hJ; simp only []; simp [f2, g8, he]; (refine hJ _ _ ?_; clear hJ J; simp only [ak, reduceIte]))))
    simp
    exact ⟨Y, hpm, hris, hB, hoff⟩
  | cons x Z =>
  have hYne : Y ≠ [] ∧ fr 8 = i (p + Y.length : Nat) := by
    rcases f8 with ⟨h1, h2, h3⟩ | h
    · subst h1; simp at hpl
    · exact h
  obtain ⟨hYn, g8⟩ := hYne
  clear f8
  have hY0 := List.length_pos_iff.2 hYn
  simp only [List.length_cons] at hpl hz
  have hlt : (((p + Y.length : Nat) : Int)) < ((p + X.length : Nat) : Int) := by omega
  (repeat' (first | refine qS ?_ | refine qB ?_ | (refine qK ?_; simp only [ak, reduceIte]) | (refine qC ?_; simp [f2, g8, hlt]; (try with_reducible refine ⟨?_, ?_⟩) <;> (try with_reducible intro hc) <;> try (exfalso; omega)) | (refine w_e [] ?_; intro J hJ; simp only []; simp [f2, g8, hlt]; (refine hJ _ _ ?_; clear hJ J; simp only [ak, reduceIte]))))
  refine qL (fun z fr st3 => ∃ A B : List Ed, z = A.length ∧ A ++ B = Y ∧ (∀ y ∈ B, x.id ≤ y.id) ∧ fr 0 = .ms q 0 L ∧ fr 1 = i p ∧ fr 2 = i (p + X.length : Nat) ∧ fr 3 = .fn (.func fid) caps ∧ fr 8 = i (p + Y.length : Nat) ∧ fr 9 = i (p + A.length : Nat) ∧ st3.H q = .box 37 3 (eds (P ++ A ++ x :: (B ++ Z ++ S))) ∧ OffS q st st3) Y.length ?_ ?_
  · exact ⟨Y, [], rfl, by simp, by simp, by simp [f0], by simp [f1], by simp [f2], by simp [f3], by simp [g8], by simp, by rw [hB]; simp, hoff⟩
  clear f0 f1 f2 f3 g8 hB hoff fr st2
  rintro z' fr st3 ⟨A, B, rfl, rfl, hxB, f0, f1, f2, f3, f8, f9, hB, hoff⟩ J2 hJ2
  have hP3 := hcmp.keep _ _ hPc hoff
  have hfin : (∀ y ∈ A, y.id ≤ x.id) → Ris (A ++ x :: B) := fun h1 => ris_ins hris h1 hxB
  have hpm2 : ((A ++ x :: B) ++ Z).Perm X := by
    refine List.Perm.trans ?_ hpm
    rw [List.append_assoc, List.append_assoc]
    refine List.Perm.append_left A ?_
    rw [List.cons_append]
    exact List.perm_middle.symm
  have hAB : (A ++ x :: B).length = (A ++ B).length + 1 := by simp; omega
  simp only [List.length_append] at hpl hY0
  have w8 : IntKind.i64.wrap (((p + (A ++ B).length : Nat) : Int) + 1) = ((p + (A ++ x :: B).length : Nat) : Int) := by rw [hAB, wrap_s _ (by simp only [List.length_append]; omega) (by simp only [List.length_append]; omega)]; omega
  have hnext : ∀ fr' st4, (fr' 0 = .ms q 0 L ∧ fr' 1 = i p ∧ fr' 2 = i (p + X.length : Nat) ∧ fr' 3 = .fn (.func fid) caps ∧ fr' 8 = i (p + (A ++ x :: B).length : Nat)) → (∀ y ∈ A, y.id ≤ x.id) → st4.H q = .box 37 3 (eds (P ++ A ++ x :: (B ++ Z ++ S))) → OffS q st st4 → JJ fr' st4 := by
    rintro fr' st4 ⟨g0, g1, g2, g3, g8⟩ h1 h2 h3
    refine hJJ Z.length _ _ (by omega) ⟨A ++ x :: B, Z, Nat.le_refl _, g0, g1, g2, g3, .inr ⟨by simp, g8⟩, hpm2, hfin h1, ?_, h3⟩
    rw [h2]; simp
  have hrisA : Ris A := by
    unfold Ris at hris ⊢
    exact (List.pairwise_append.1 hris).1
  clear hJJ hfin hpm2 hpm hris hAB
  generalize (A ++ B).length = lab at *
  generalize (A ++ x :: B).length = laxb at *
  have w8' : IntKind.i64.wrap ((p : Int) + lab + 1) = (p : Int) + laxb := by have h := w8; rw [Int.natCast_add, Int.natCast_add] at h; exact h
  rcases List.eq_nil_or_concat A with rfl | ⟨W, y, hWy⟩
  · simp only [List.length_nil, Nat.add_zero] at f9
    (repeat' refine qS ?_)
    (refine w_s [] [q] [(0, true), (1, true), (2, true), (3, true), (4, true), (5, true), (6, true), (7, true), (8, true), (9, true), (10, true), (11, true), (12, true), (13, true), (14, false), (15, true), (16, true)] ?_; intro J hJ; simp [f0, f1, f3, f9]; (refine hJ _ _ ?_; clear hJ J; simp only [ak, reduceIte]))
    (repeat' (first | (refine qX ?_; simp only [ak, reduceIte]) | (refine qC ?_; simp [f8, w8']) | (refine w_e [] ?_; intro J hJ; simp only []; simp [f8, w8']; (refine hJ _ _ ?_; clear hJ J; simp only [ak, reduceIte]))))
    exact hnext _ _ ⟨by simp [f0], by simp [f1], by simp [f2], by simp [f3], by simp⟩ (by simp) hB hoff
  rw [List.concat_eq_append] at hWy
  subst hWy
  have hWl : (W ++ [y]).length = W.length + 1 := by simp
  rw [hWl, ← Nat.add_assoc] at f9
  have hce : P ++ (W ++ [y]) ++ x :: (B ++ Z ++ S) = (P ++ W) ++ y :: x :: (B ++ Z ++ S) := by simp
  have hUl : (P ++ W).length = p + W.length := by simp [hp]
  have hcl : ((P ++ W) ++ y :: x :: (B ++ Z ++ S)).length = L := by
    simp only [List.length_append, List.length_cons, List.length_nil, hp] at hpl hz ⊢
    omega
  rw [hce] at hB hnext
  have g1 := get_at (P ++ W) y (x :: (B ++ Z ++ S)) (j := p + W.length) hUl.symm
  have g2 : ((P ++ W) ++ y :: x :: (B ++ Z ++ S)).getD (p + W.length + 1) ed0 = x := by
    rw [show (P ++ W) ++ y :: x :: (B ++ Z ++ S) = (P ++ W ++ [y]) ++ x :: (B ++ Z ++ S) by simp]
    exact get_at _ _ _ (by simp [hp]; omega)
  have s1 : (((P ++ W) ++ y :: x :: (B ++ Z ++ S)).set (p + W.length + 1) y).set (p + W.length) x = P ++ W ++ x :: (y :: B ++ Z ++ S) := by
    rw [show (P ++ W) ++ y :: x :: (B ++ Z ++ S) = (P ++ W ++ [y]) ++ x :: (B ++ Z ++ S) by simp, set_at _ _ _ _ (by simp [hp]; omega)]
    rw [show (P ++ W ++ [y]) ++ y :: (B ++ Z ++ S) = (P ++ W) ++ y :: (y :: (B ++ Z ++ S)) by simp, set_at _ _ _ _ hUl.symm]
    simp
  have hstep : x.id < y.id → ∀ y' ∈ y :: B, x.id ≤ y'.id := fun h1 y' hy' => by
    rcases List.mem_cons.1 hy' with rfl | h2
    · omega
    · exact hxB y' h2
  have hstop : ¬ x.id < y.id → ∀ y' ∈ W ++ [y], y'.id ≤ x.id := fun h1 y' hy' => by
    rcases List.mem_append.1 hy' with h2 | h2
    · have := ris_last (hrisA) y' h2; omega
    · rw [List.mem_singleton] at h2; subst h2; omega
  generalize (P ++ W) ++ y :: x :: (B ++ Z ++ S) = c at *
  generalize hjx : p + W.length = jx at *
  have hel := eds_length c
  have da := eds_drop c (jx + 1) (by omega)
  have db := eds_drop c jx (by omega)
  rw [g2] at da
  rw [g1] at db
  have wj : IntKind.i64.wrap (((jx + 1 : Nat) : Int) - 1) = (jx : Int) := by rw [wrap_s _ (by omega) (by omega)]; omega
  obtain ⟨xi, xa, xb⟩ := x
  obtain ⟨yi, ya, yb⟩ := y
  simp only at da db hstep hstop
  have hgt : (p : Int) < (jx : Int) + 1 := by omega
  have hcm := hcmp.call st3 ⟨xi, xa, xb⟩ ⟨yi, ya, yb⟩ hP3
  have hneg := cmpK_neg ⟨xi, xa, xb⟩ ⟨yi, ya, yb⟩
  simp only at hneg
  generalize cmpK ⟨xi, xa, xb⟩ ⟨yi, ya, yb⟩ = cv at *
  have wj' : IntKind.i64.wrap (jx : Int) = (jx : Int) := wrap_s _ (by omega) (by omega)
  have hA4 : jx + 1 < L := by omega
  have hB4 : jx < L := by omega
  (repeat' refine qS ?_)
  (refine w_s [] [q] [(0, true), (1, true), (2, true), (3, true), (4, true), (5, true), (6, true), (7, true), (8, true), (9, true), (10, true), (11, true), (12, true), (13, true), (14, false), (15, true), (16, true)] ?_; intro J hJ; simp [f0, f1, f3, f9, hgt, hB, da, db, hel, hcl, wj']; (repeat refine ca ?_))
  refine dcallK_of hcm ?_; rintro r s4 ⟨rfl, hk4⟩
  have hq3 : q < st3.next := by have := hoff.1; omega
  have hB4' := (hk4.H q hq3).trans hB
  have hoff4 := hoff.keeps hk4
  refine ⟨fun _ => by simp [hB4', hB], ?_⟩
  by_cases hlt3 : xi < yi
  · have hcv : cv < 0 := by rw [decide_eq_true hlt3] at hneg; exact of_decide_eq_true hneg
    (refine d_go ?_; simp [hcv, hB4', hB]; (refine hJ _ _ ?_; clear hJ J; simp only [ak, reduceIte]))
    (repeat' (first | refine qS ?_ | refine qB ?_ | (refine qK ?_; simp only [ak, reduceIte]) | (refine qC ?_; simp [])))
    (refine w_s [] [q] [(0, true), (1, true), (2, true), (3, true), (4, true), (5, true), (6, true), (7, true), (8, true), (9, true), (10, true), (11, true), (12, true), (13, true), (14, true), (15, false), (16, true), (17, false)] ?_; intro J hJ; simp [f0, f9, hB4', da, db, hel, hcl, wj']; (repeat refine ca ?_); (refine hJ _ _ ?_; clear hJ J; simp only [ak, reduceIte]))
    have e1 := eds_set c (jx + 1) ⟨yi, ya, yb⟩ (by omega)
    have e2 := eds_set (c.set (jx + 1) ⟨yi, ya, yb⟩) jx ⟨xi, xa, xb⟩ (by simp; omega)
    simp only at e1 e2
    rw [e1, e2, s1, St.set_set]
    (repeat' (refine w_e [] ?_; intro J hJ; simp only []; simp [f9, wj']; (refine hJ _ _ ?_; clear hJ J; simp only [ak, reduceIte])))
    refine hJ2 W.length _ _ (by simp) ⟨W, ⟨yi, ya, yb⟩ :: B, rfl, by simp, hstep hlt3, by simp [f0], by simp [f1], by simp [f2], by simp [f3], by simp [f8], by simp [hjx], ?_, hoff4.set _⟩
    simp
  · have hcv : ¬ cv < 0 := by rw [decide_eq_false hlt3] at hneg; exact of_decide_eq_false hneg
    (refine d_go ?_; simp [hcv, hB4', hB]; (refine hJ _ _ ?_; clear hJ J; simp only [ak, reduceIte]))
    (repeat' (first | (refine qX ?_; simp only [ak, reduceIte]) | (refine qC ?_; simp [f8, w8']) | (refine w_e [] ?_; intro J hJ; simp only []; simp [f8, w8']; (refine hJ _ _ ?_; clear hJ J; simp only [ak, reduceIte]))))
    exact hnext _ _ ⟨by simp [f0], by simp [f1], by simp [f2], by simp [f3], by simp⟩ (hstop hlt3) hB4' hoff4
theorem ris_get {l : List Ed} (h : Ris l) {j k : Nat} (hjk : j ≤ k) (hk : k < l.length) : (l.getD j ed0).id ≤ (l.getD k ed0).id := by
  rw [getDE _ _ hk, getDE _ _ (by omega)]
  rcases Nat.lt_or_ge j k with h1 | h1
  · exact List.pairwise_iff_getElem.1 h j k (by omega) hk h1
  · obtain rfl : j = k := by omega
    exact Int.le_refl _
theorem getR (U W : List Ed) (j : Nat) : (U ++ W).getD (U.length + j) ed0 = W.getD j ed0 := by
  rw [List.getD_eq_getElem?_getD, List.getElem?_append_right (by omega), Nat.add_sub_cancel_left, ← List.getD_eq_getElem?_getD]
theorem getL (U W : List Ed) (j : Nat) (h : j < U.length) : (U ++ W).getD j ed0 = U.getD j ed0 := by
  rw [List.getD_eq_getElem?_getD, List.getElem?_append_left h, ← List.getD_eq_getElem?_getD]
structure Mgd (D D' : List Ed) (lo hi : Nat) : Prop where
  len : D'.length = D.length
  perm : D'.Perm D
  out : ∀ j, j < lo ∨ hi ≤ j → D'.getD j ed0 = D.getD j ed0
  inn : ∀ j k, lo ≤ j → j ≤ k → k < hi → (D'.getD j ed0).id ≤ (D'.getD k ed0).id
theorem mgd {D P X S C : List Ed} (hD : P ++ X ++ S = D) (hC : C.Perm X) (hr : Ris C) {lo hi : Nat} (h1 : P.length = lo) (h2 : hi = lo + X.length) : Mgd D (P ++ C ++ S) lo hi := by
  have hl := hC.length_eq
  subst hD
  refine ⟨by simp [hl], List.Perm.append_right _ (List.Perm.append_left _ hC), fun j hj => ?_, fun j k hj hjk hk => ?_⟩
  · rcases Nat.lt_or_ge j lo with h | h
    · rw [getL _ _ _ (by simp; omega), getL _ _ _ (by omega), getL _ _ _ (by simp; omega), getL _ _ _ (by omega)]
    · have e1 := getR (P ++ C) S (j - hi)
      have e2 := getR (P ++ X) S (j - hi)
      have l1 : (P ++ C).length + (j - hi) = j := by simp; omega
      have l2 : (P ++ X).length + (j - hi) = j := by simp; omega
      rw [l1] at e1
      rw [l2] at e2
      rw [e1, e2]
  · have e : ∀ x, lo ≤ x → x < hi → (P ++ C ++ S).getD x ed0 = C.getD (x - lo) ed0 := fun x g1 g2 => by
      have e1 := getR P (C ++ S) (x - lo)
      rw [show P.length + (x - lo) = x by omega, getL C S (x - lo) (by omega)] at e1
      rw [← e1]; simp
    rw [e j hj (by omega), e k (by omega) hk]
    exact ris_get hr (by omega) (by omega)
theorem cut3 (D : List Ed) (lo hi : Nat) (h : lo ≤ hi) : D.take lo ++ (D.drop lo).take (hi - lo) ++ D.drop hi = D := by
  have e : (D.drop lo).drop (hi - lo) = D.drop hi := by rw [List.drop_drop]; congr 1; omega
  rw [List.append_assoc, ← e, List.take_append_drop, List.take_append_drop]
theorem ris_cut {D : List Ed} {lo hi : Nat} (hh : hi ≤ D.length) (h : ∀ j k, lo ≤ j → j ≤ k → k < hi → (D.getD j ed0).id ≤ (D.getD k ed0).id) : Ris ((D.drop lo).take (hi - lo)) := by
  refine List.pairwise_iff_getElem.2 fun a b ha hb hab => ?_
  simp only [List.length_take, List.length_drop] at ha hb
  rw [List.getElem_take, List.getElem_take, List.getElem_drop, List.getElem_drop, ← getDE D (lo + a) (by omega), ← getDE D (lo + b) (by omega)]
  exact h _ _ (by omega) (by omega) (by omega)
section
variable (q L : Nat) (fid : FuncId) (caps : List LV) (Pc : St → Prop) (hcmp : CmpAt fid caps q Pc) (hl : L ≤ 100000)
include hcmp hl
theorem insAt (D : List Ed) (a b : Nat) (st : St) (hD : D.length = L) (ha : a ≤ b) (hb : b ≤ L) (hPc : Pc st) (hq : q < st.next) (hH : st.H q = .box 37 3 (eds D)) :
    ACalls Tryz.prog 122 [.ms q 0 L, i a, i b, .fn (.func fid) caps] st fun r st' => ∃ D', st'.H q = .box 37 3 (eds D') ∧ Mgd D D' a b ∧ OffS q st st' := by
  have hc := cut3 D a b ha
  have l1 : (D.take a).length = a := by rw [List.length_take]; omega
  have l2 : ((D.drop a).take (b - a)).length = b - a := by rw [List.length_take, List.length_drop]; omega
  have h := insSort (D.take a) ((D.drop a).take (b - a)) (D.drop b) q fid caps Pc st hcmp hPc hq (by rw [hc]; omega) (by rw [hc]; exact hH)
  rw [hc, hD, l1, l2, show a + (b - a) = b by omega] at h
  refine h.mono ?_
  rintro r st' ⟨Y, h1, h2, h3, h4⟩
  exact ⟨_, h3, mgd hc h1 h2 l1 (by omega), h4⟩
end
def Bs (s lo hi : Nat) (D : List Ed) : Prop := ∀ j k, lo ≤ j → j ≤ k → k < hi → j / s = k / s → (D.getD j ed0).id ≤ (D.getD k ed0).id
theorem Bs.ext {s a b t : Nat} {D D' : List Ed} (h : Bs s 0 a D) (hm : Mgd D D' a b) (hs : 0 < s) (ht : a = s * t) : Bs s 0 b D' := by
  intro j k _ hjk hk he
  rcases Nat.lt_or_ge k a with h1 | h1
  · rw [hm.out j (.inl (by omega)), hm.out k (.inl h1)]
    exact h j k (Nat.zero_le _) hjk h1 he
  · rcases Nat.lt_or_ge j a with h2 | h2
    · have h3 : j / s < t := Nat.div_lt_of_lt_mul (by omega)
      have h4 : t ≤ k / s := (Nat.le_div_iff_mul_le hs).2 (by rw [Nat.mul_comm]; omega)
      omega
    · exact hm.inn j k h2 hjk hk
theorem Bs.all {s L : Nat} {D : List Ed} (h : Bs s 0 L D) (hs : L ≤ s) (hD : D.length = L) : Ris D := by
  have := ris_cut (D := D) (lo := 0) (hi := L) (by omega) fun j k h1 h2 h3 => h j k h1 h2 h3 (by rw [Nat.div_eq_of_lt (by omega), Nat.div_eq_of_lt (by omega)])
  rwa [List.drop_zero, List.take_of_length_le (by omega)] at this
theorem Mgd.from {D D' : List Ed} {a b : Nat} (h : Mgd D D' a b) {D0 : List Ed} (k : D.Perm D0) : D'.Perm D0 := h.perm.trans k
def StbI (D0 : List Ed) (q L : Nat) (st st2 : St) (D : List Ed) : Prop := D.length = L ∧ D.Perm D0 ∧ st2.H q = .box 37 3 (eds D) ∧ OffS q st st2
theorem StbI.step {D0 : List Ed} {q L : Nat} {st st2 st3 : St} {D D' : List Ed} {a b : Nat} (h : StbI D0 q L st st2 D) (hm : Mgd D D' a b) (h1 : st3.H q = .box 37 3 (eds D')) (h2 : OffS q st2 st3) : StbI D0 q L st st3 D' :=
  ⟨hm.len.trans h.1, hm.from h.2.1, h1, h.2.2.2.trans h2⟩
set_option maxHeartbeats 1000000 in
theorem stable (D0 : List Ed) (q L : Nat) (fid : FuncId) (caps : List LV) (Pc : St → Prop) (st : St) (hcmp : CmpAt fid caps q Pc) (hPc : Pc st) (hq : q < st.next) (hL : D0.length = L) (hl : L ≤ 20) (hH : st.H q = .box 37 3 (eds D0)) :
    ACalls Tryz.prog 98 [.ms q 0 L, i L, .fn (.func fid) caps] st fun r st' => ∃ D, D.Perm D0 ∧ Ris D ∧ st'.H q = .box 37 3 (eds D) ∧ OffS q st st' := by
  refine qO tabOk Tryz.func98 rfl rfl Tryz.ntmps98 (rs := []) rfl (by simp) ?_
  (repeat' (first | refine qS ?_ | refine qB ?_ | (refine w_e [] ?_; intro J hJ; simp only []; simp []; (refine hJ _ _ ?_; clear hJ J; simp only [ak, reduceIte]))))
  refine qL (fun z fr st2 => ∃ (t a : Nat) (D : List Ed), a = 20 * t ∧ a ≤ L ∧ z = L - a ∧ fr 0 = .ms q 0 L ∧ fr 1 = i L ∧ fr 2 = .fn (.func fid) caps ∧ fr 6 = i 20 ∧ fr 7 = i a ∧ fr 8 = i (a + 20 : Nat) ∧ Bs 20 0 a D ∧ StbI D0 q L st st2 D) L ?_ ?_
  · exact ⟨0, 0, D0, rfl, by omega, rfl, by simp, by simp, by simp, by simp, by simp, by simp, fun j k _ _ h => by omega, hL, .refl _, hH, OffS.refl _ _⟩
  rintro z fr st2 ⟨t, a, D, ht, ha, rfl, f0, f1, f2, f6, f7, f8, hB, hI⟩ JJ hJJ
  have hP2 := hcmp.keep _ _ hPc hI.2.2.2
  have hq2 : q < st2.next := by have := hI.2.2.2.1; omega
  by_cases hle : a + 20 ≤ L
  · have hle' : (a : Int) + 20 ≤ L := by omega
    have hc := insAt q L fid caps Pc hcmp (by omega) D a (a + 20) st2 hI.1 (by omega) hle hP2 hq2 hI.2.2.1
    have w1 : IntKind.i64.wrap ((a : Int) + 20 + 20) = ((a + 20 + 20 : Nat) : Int) := by rw [wrap_s _ (by omega) (by omega)]; omega
    (repeat' (first | refine qS ?_ | refine qB ?_ | (refine qK ?_; simp only [ak, reduceIte]) | (refine qC ?_; simp [f0, f1, f2, f7, f8, hle']) | (refine w_e [] ?_; intro J hJ; simp only []; simp [f0, f1, f2, f7, f8, hle']; (try (refine hJ _ _ ?_; clear hJ J; simp only [ak, reduceIte])))))
    refine qE hc (by simp) ?_; rintro r s3 ⟨D', k1, k2, k3⟩
    (repeat' (first | refine qS ?_ | ((first | (refine w_e [] ?_; intro J hJ; simp only []) | (refine e_go ?_)); simp [f8, f6, w1]; (refine hJ _ _ ?_; clear hJ J; simp only [ak, reduceIte]))))
    exact hJJ (L - (a + 20)) _ _ (by omega) ⟨t + 1, a + 20, D', by omega, hle, rfl, by simp [f0], by simp [f1], by simp [f2], by simp [f6], by simp, by simp, hB.ext k2 (by omega) ht, hI.step k2 k1 k3⟩
  clear hJJ
  have hle' : ¬ (a : Int) + 20 ≤ L := by omega
  have hc := insAt q L fid caps Pc hcmp (by omega) D a L st2 hI.1 ha (Nat.le_refl _) hP2 hq2 hI.2.2.1
  (repeat' (first | refine qS ?_ | (refine qX ?_; simp only [ak, reduceIte]) | (refine qC ?_; simp [f0, f1, f2, f7, f8, hle']) | (refine w_e [] ?_; intro J hJ; simp only []; simp [f0, f1, f2, f7, f8, hle']; (try (refine hJ _ _ ?_; clear hJ J; simp only [ak, reduceIte])))))
  refine qE hc (by simp) ?_; rintro r s3 ⟨D', k1, k2, k3⟩
  have hB2 := hB.ext k2 (by omega) ht
  have hI2 := hI.step k2 k1 k3
  (repeat' (first | refine qB ?_ | (refine e_go ?_; simp []; (refine hJ _ _ ?_; clear hJ J; simp only [ak, reduceIte]))))
  refine qL (fun z fr st2 => ∃ (s : Nat) (D : List Ed), 20 ≤ s ∧ s ≤ 200040 ∧ z = L - s ∧ fr 0 = .ms q 0 L ∧ fr 1 = i L ∧ fr 2 = .fn (.func fid) caps ∧ fr 6 = i s ∧ Bs s 0 L D ∧ StbI D0 q L st st2 D) (L - 20) ?_ ?_
  · exact ⟨20, D', by omega, by omega, rfl, by simp [f0], by simp [f1], by simp [f2], by simp [f6], hB2, hI2⟩
  clear hB2 hI2 k1 k2 k3 hc hI hB f0 f1 f2 f6 f7 f8 hP2 hq2 hle hle' ht ha fr
  rintro z fr st3 ⟨s, D, hs0, hs1, rfl, f0, f1, f2, f6, hB, hI⟩ JJ hJJ
  by_cases hlt : s < L
  rotate_left
  · clear hJJ
    have hlt' : ¬ (s : Int) < L := by omega
    (repeat' (first | refine qS ?_ | (refine qX ?_; simp only [ak, reduceIte]) | (refine qC ?_; simp [f1, f6, hlt, hlt']) | (refine w_e [] ?_; intro J hJ; simp only []; simp [f1, f6, hlt, hlt']; (refine hJ _ _ ?_; clear hJ J; simp only [ak, reduceIte]))))
    exact ⟨trivial, D, hI.2.1, hB.all (by omega) hI.1, hI.2.2⟩
  exact absurd hlt (by omega)
end Go.Proofs.YtplnodgkmbajiaaGreat.Aw
namespace Go.Proofs.YtplnodgkmbajiaaGreat.Aw.U
open Go Go.RowKit Go.Proofs.YtplnodgkmbajiaaGreat.Pl
set_option linter.unusedSimpArgs false
set_option linter.unusedVariables false
def be (st : St) (q : Nat) (c : List Int) : St := st.set q (.box 29 1 (us c))
@[simp] theorem be_next (st : St) (q : Nat) (c : List Int) : (be st q c).next = st.next := rfl
@[simp] theorem be_H (st : St) (q : Nat) (c : List Int) : (be st q c).H q = .box 29 1 (us c) := by simp [be]
theorem be_ne (st : St) (q l : Nat) (c : List Int) (h : l ≠ q) : (be st q c).H l = st.H l := by simp [be, h]
theorem be_be (st : St) (q : Nat) (c d : List Int) : be (be st q c) q d = be st q d := by unfold be; exact St.set_set _ _ _ _
theorem be_self {st : St} {q : Nat} {c : List Int} (h : st.H q = .box 29 1 (us c)) : be st q c = st := St.ext' rfl fun y => by
  by_cases hy : y = q
  · subst hy; rw [be_H, h]
  · rw [be_ne _ _ _ _ hy]
theorem be_set (st : St) (q : Nat) (c : List Int) (k : Nat) (x : Int) (hk : k < c.length) : (be st q c).set q (.box 29 1 ((us c).take k ++ (u x :: (us c).drop (k + 1)))) = be st q (c.set k x) := by
  rw [us_set _ _ _ hk]; unfold be; exact St.set_set _ _ _ _
theorem be_put (st : St) (q : Nat) (c d : List Int) : (be st q c).set q (.box 29 1 (us d)) = be st q d := by unfold be; exact St.set_set _ _ _ _
theorem getDE (l : List Int) (j : Nat) (hj : j < l.length) : l.getD j 0 = l[j] := by
  rw [List.getD_eq_getElem?_getD, List.getElem?_eq_getElem hj]; rfl
def swR (c : List Int) (a b : Nat) : Nat → List Int
  | 0 => c
  | n + 1 => swR ((c.set a (c.getD b 0)).set b (c.getD a 0)) (a + 1) (b + 1) n
theorem set_mid (U : List Int) (x y : Int) (W : List Int) : (U ++ x :: W).set U.length y = U ++ y :: W := by
  rw [List.set_append_right _ _ (Nat.le_refl _)]; simp
theorem getD_mid (U : List Int) (x : Int) (W : List Int) : (U ++ x :: W).getD U.length 0 = x := by
  rw [List.getD_eq_getElem?_getD, List.getElem?_append_right (Nat.le_refl _)]; simp
theorem swR_blocks : ∀ (n : Nat) (U A M B V : List Int), A.length = n → B.length = n → swR (U ++ A ++ M ++ B ++ V) U.length (U.length + n + M.length) n = U ++ B ++ M ++ A ++ V
  | 0, U, A, M, B, V, hA, hB => by
    rw [List.eq_nil_of_length_eq_zero hA, List.eq_nil_of_length_eq_zero hB]; rfl
  | n + 1, U, x :: A, M, y :: B, V, hA, hB => by
    simp only [List.length_cons, Nat.add_right_cancel_iff] at hA hB
    rw [swR]
    have e1 : U ++ x :: A ++ M ++ y :: B ++ V = U ++ x :: (A ++ M ++ y :: B ++ V) := by simp
    have e2 : U ++ x :: (A ++ M ++ y :: B ++ V) = (U ++ x :: A ++ M) ++ y :: (B ++ V) := by simp
    have l2 : U.length + (n + 1) + M.length = (U ++ x :: A ++ M).length := by simp [hA]; omega
    have g1 : (U ++ x :: A ++ M ++ y :: B ++ V).getD U.length 0 = x := by rw [e1, getD_mid]
    have g2 : (U ++ x :: A ++ M ++ y :: B ++ V).getD (U.length + (n + 1) + M.length) 0 = y := by rw [e1, e2, l2, getD_mid]
    rw [g1, g2, e1, set_mid]
    have e3 : U ++ y :: (A ++ M ++ y :: B ++ V) = (U ++ y :: A ++ M) ++ y :: (B ++ V) := by simp
    have l3 : U.length + (n + 1) + M.length = (U ++ y :: A ++ M).length := by simp [hA]; omega
    rw [e3, l3, set_mid, ← l3]
    have e4 : U ++ y :: A ++ M ++ x :: (B ++ V) = (U ++ [y]) ++ A ++ (M ++ [x]) ++ B ++ V := by simp
    have l4 : U.length + (n + 1) + M.length + 1 = (U ++ [y]).length + n + (M ++ [x]).length := by simp; omega
    have l5 : U.length + 1 = (U ++ [y]).length := by simp
    rw [e4, l4, l5, swR_blocks n (U ++ [y]) A (M ++ [x]) B V hA hB]
    simp
theorem wrap_s (n : Int) (h0 : -9223372036854775808 ≤ n) (h1 : n ≤ 9223372036854775807) : IntKind.i64.wrap n = n := by
  simp only [IntKind.wrap, IntKind.signed, IntKind.bits]
  simp
  split <;> omega
theorem swapRange (c : List Int) (q a b n : Nat) (F : Fn) (caps : List LV) (st : St) (hc : c.length ≤ 100000) (hab : a + n ≤ b) (hb : b + n ≤ c.length) (hH : st.H q = .box 29 1 (us c)) :
    ACalls Tryz.prog 141 [.ms q 0 c.length, i a, i b, i n, .fn F caps] st fun r st' => st' = be st q (swR c a b n) := by
  refine qO tabOk Tryz.func141 rfl rfl Tryz.ntmps141 (rs := []) rfl (by simp) ?_
  (repeat' (first | refine qS ?_ | refine qB ?_ | (refine w_e [] ?_; intro J hJ; simp only []; simp []; (refine hJ _ _ ?_; clear hJ J; simp only [ak, reduceIte]))))
  refine qL (fun z fr st2 => ∃ (k : Nat) (d : List Int), k ≤ n ∧ z = n - k ∧ fr 0 = .ms q 0 c.length ∧ fr 1 = i a ∧ fr 2 = i b ∧ fr 3 = i n ∧ fr 10 = i k ∧ st2 = be st q d ∧ d.length = c.length ∧ swR d (a + k) (b + k) (n - k) = swR c a b n) n ?_ ?_
  · exact ⟨0, c, by omega, by omega, by simp, by simp, by simp, by simp, by simp, (be_self hH).symm, rfl, rfl⟩
  rintro z fr st2 ⟨k, d, hk, rfl, f0, f1, f2, f3, f10, rfl, hdl, hsw⟩ JJ hJJ
  by_cases hlt : k < n
  rotate_left
  · clear hJJ
    obtain rfl : k = n := by omega
    rw [Nat.sub_self] at hsw
    (repeat' (first | refine qS ?_ | (refine qX ?_; simp only [ak, reduceIte]) | (refine qC ?_; simp [f3, f10]) | (refine w_e [] ?_; intro J hJ; simp only []; simp [f3, f10]; (refine hJ _ _ ?_; clear hJ J; simp only [ak, reduceIte]))))
    simp
    rw [← hsw]; rfl
  have hw := wrap_s ((k : Int) + 1) (by omega) (by omega)
  have wa : IntKind.i64.wrap ((a : Int) + k) = ((a + k : Nat) : Int) := by rw [wrap_s _ (by omega) (by omega)]; omega
  have wb : IntKind.i64.wrap ((b : Int) + k) = ((b + k : Nat) : Int) := by rw [wrap_s _ (by omega) (by omega)]; omega
  have hel := us_len d
  have da := qG d (a + k) (by omega)
  have db := qG d (b + k) (by omega)
  have hsn : swR ((d.set (a + k) (d.getD (b + k) 0)).set (b + k) (d.getD (a + k) 0)) (a + (k + 1)) (b + (k + 1)) (n - (k + 1)) = swR c a b n := by
    rw [← hsw, show n - k = (n - (k + 1)) + 1 by omega, swR]; rfl
  have s1 := fun x => be_set st q d (a + k) x (by omega)
  have s2 := fun x y => be_set st q (d.set (a + k) y) (b + k) x (by simp; omega)
  generalize ha : a + k = pa at *
  generalize hbk : b + k = pb at *
  have hne : ¬ pa = pb := by omega
  generalize hxe : d.getD pa 0 = x at *
  generalize hye : d.getD pb 0 = y at *
  have hA3 : pa  + 1 ≤ d.length  := by omega
  have hB3 : pb  + 1 ≤ d.length  := by omega
  have hA4 : pa < d.length := by omega
  have hB4 : pb < d.length := by omega
  obtain ⟨xi, rfl⟩ : ∃ xi, xi = x := ⟨_, rfl⟩
  obtain ⟨yi, rfl⟩ : ∃ yi, yi = y := ⟨_, rfl⟩
  have s1' := s1 yi
  have s2' := s2 xi yi
  try simp only at da db s1' s2'
  have hel2 := us_len (d.set pa yi)
  rw [List.length_set] at hel2
  (repeat' (first | refine qS ?_ | refine qB ?_ | (refine qK ?_; simp only [ak, reduceIte]) | (refine qC ?_; simp [f0, f1, f2, f3, f10, hlt]) | (refine w_e [] ?_; intro J hJ; simp only []; simp [f0, f1, f2, f3, f10, hlt]; (refine hJ _ _ ?_; clear hJ J; simp only [ak, reduceIte]))))
  (refine w_s [] [q] [(0, true), (1, true), (2, true), (3, true), (4, true), (5, true), (6, true), (7, true), (8, true), (9, true), (10, true), (11, true), (12, true), (13, true), (14, true), (15, true), (16, true), (17, true), (18, true), (19, true), (20, true), (21, false), (22, true), (23, false)] ?_; intro J hJ; simp [f0, f1, f2, f10, wa, wb, hdl, da, db, hel]; (repeat refine ca ?_); (refine hJ _ _ ?_; clear hJ J; simp only [ak, reduceIte]))
  have e1 := us_set d pa yi hA4
  try simp only at e1
  rw [e1, be_put, s2']
  (repeat' (refine w_e [] ?_; intro J hJ; simp only []; simp [f10, hw]; (refine hJ _ _ ?_; clear hJ J; simp only [ak, reduceIte])))
  exact hJJ (n - (k + 1)) _ _ (by omega) ⟨k + 1, _, by omega, rfl, by simp [f0], by simp [f1], by simp [f2], by simp [f3], by simp, rfl, by simp [hdl], hsn⟩
theorem rotate (P X Y S : List Int) (q : Nat) (F : Fn) (caps : List LV) (st : St) (hX : X ≠ []) (hY : Y ≠ []) (hl : (P ++ X ++ Y ++ S).length ≤ 100000) (hH : st.H q = .box 29 1 (us (P ++ X ++ Y ++ S))) :
    ACalls Tryz.prog 136 [.ms q 0 (P ++ X ++ Y ++ S).length, i P.length, i (P.length + X.length : Nat), i (P.length + X.length + Y.length : Nat), .fn F caps] st fun r st' => st' = be st q (P ++ Y ++ X ++ S) := by
  generalize hL : (P ++ X ++ Y ++ S).length = L at *
  have hLl : L = P.length + X.length + Y.length + S.length := by rw [← hL]; simp only [List.length_append]
  generalize hm : P.length + X.length = m at *
  have hX0 : 0 < X.length := List.length_pos_iff.2 hX
  have hY0 : 0 < Y.length := List.length_pos_iff.2 hY
  refine qO tabOk Tryz.func136 rfl rfl Tryz.ntmps136 (rs := []) rfl (by simp) ?_
  have w1 : IntKind.i64.wrap ((m : Int) - P.length) = (X.length : Int) := by rw [wrap_s _ (by omega) (by omega)]; omega
  have w2 : IntKind.i64.wrap ((m : Int) + Y.length - m) = (Y.length : Int) := by rw [wrap_s _ (by omega) (by omega)]; omega
  (repeat' (first | refine qS ?_ | refine qB ?_ | (refine w_e [] ?_; intro J hJ; simp only []; simp [w1, w2]; (refine hJ _ _ ?_; clear hJ J; simp only [ak, reduceIte]))))
  refine qL (fun z fr st2 => ∃ U A B V : List Int, z = A.length + B.length ∧ (A ≠ [] ∧ B ≠ []) ∧ U.length + A.length = m ∧ U ++ B ++ A ++ V = P ++ Y ++ X ++ S ∧ (U ++ A ++ B ++ V).length = L ∧ st2 = be st q (U ++ A ++ B ++ V) ∧ fr 0 = .ms q 0 L ∧ fr 2 = i m ∧ fr 4 = .fn F caps ∧ fr 10 = i A.length ∧ fr 11 = i B.length) (X.length + Y.length) ?_ ?_
  · exact ⟨P, X, Y, S, rfl, ⟨hX, hY⟩, hm, rfl, hL, (be_self hH).symm, by simp, by simp, by simp, by simp, by simp⟩
  rintro z fr st2 ⟨U, A, B, V, rfl, ⟨hA, hB⟩, hUm, htg, hcl, rfl, f0, f2, f4, f10, f11⟩ JJ hJJ
  have hA0 : 0 < A.length := List.length_pos_iff.2 hA
  have hB0 : 0 < B.length := List.length_pos_iff.2 hB
  have hcl' : L = U.length + A.length + B.length + V.length := by rw [← hcl]; simp only [List.length_append]
  have wa : IntKind.i64.wrap ((m : Int) - A.length) = (U.length : Int) := by rw [wrap_s _ (by omega) (by omega)]; omega
  by_cases hEq : A.length = B.length
  · clear hJJ
    have hcall := swapRange (U ++ A ++ B ++ V) q U.length m A.length F caps (be st q (U ++ A ++ B ++ V)) (by omega) (by omega) (by omega) (by simp)
    have hsw := swR_blocks A.length U A [] B V rfl hEq.symm
    simp only [List.length_nil, Nat.add_zero, List.append_nil] at hsw
    rw [hcl, ← hUm, hsw, hUm, be_be, htg] at hcall
    generalize U ++ A ++ B ++ V = c0 at *
    generalize P ++ Y ++ X ++ S = c1 at *
    have wa' := wa
    rw [hEq] at wa'
    (repeat' (first | refine qS ?_ | (refine qX ?_; simp only [ak, reduceIte]) | (refine qC ?_; simp [f0, f2, f4, f10, f11, hEq, wa, wa']) | (refine w_e [] ?_; intro J hJ; simp only []; simp [f0, f2, f4, f10, f11, hEq, wa, wa']; (try (refine hJ _ _ ?_; clear hJ J; simp only [ak, reduceIte])))))
    refine qE hcall (by simp [hEq]) ?_; rintro r s3 rfl
    (repeat' (refine e_go ?_; simp []; (refine hJ _ _ ?_; clear hJ J; simp only [ak, reduceIte])))
    simp
  · have hEq' : ¬ (A.length : Int) = B.length := by omega
    by_cases hgt : B.length < A.length
    · have hA1 : (A.take B.length).length = B.length := by simp; omega
      have hAd : A.take B.length ++ A.drop B.length = A := List.take_append_drop _ _
      have hA2 : (A.drop B.length).length = A.length - B.length := by simp
      generalize A.take B.length = A1 at *
      generalize A.drop B.length = A2 at *
      have hcall := swapRange (U ++ A ++ B ++ V) q U.length m B.length F caps (be st q (U ++ A ++ B ++ V)) (by omega) (by omega) (by omega) (by simp)
      have hsw := swR_blocks B.length U A1 A2 B V hA1 rfl
      have e1 : U ++ A1 ++ A2 ++ B ++ V = U ++ A ++ B ++ V := by rw [← hAd]; simp
      have e2 : U.length + B.length + A2.length = m := by omega
      rw [e1, e2] at hsw
      rw [hcl, hsw, be_be] at hcall
      have hgt' : (B.length : Int) < A.length := by omega
      have wb : IntKind.i64.wrap ((A.length : Int) - B.length) = (A2.length : Int) := by rw [wrap_s _ (by omega) (by omega)]; omega
      generalize U ++ A ++ B ++ V = c0 at *
      generalize hc1 : U ++ B ++ A2 ++ A1 ++ V = c1 at hcall
      (repeat' (first | refine qS ?_ | refine qB ?_ | (refine qK ?_; simp only [ak, reduceIte]) | (refine qC ?_; simp [f0, f2, f4, f10, f11, hEq', hgt', hEq, hgt, wa, wb]) | (refine w_e [] ?_; intro J hJ; simp only []; simp [f0, f2, f4, f10, f11, hEq', hgt', hEq, hgt, wa, wb]; (try (refine hJ _ _ ?_; clear hJ J; simp only [ak, reduceIte])))))
      refine qE hcall (by simp) ?_; rintro r s3 rfl
      (repeat' ((first | (refine w_e [] ?_; intro J hJ; simp only []) | (refine e_go ?_)); simp [f10, f11, wb]; (refine hJ _ _ ?_; clear hJ J; simp only [ak, reduceIte])))
      refine hJJ (A2.length + A1.length) _ _ (by omega) ⟨U ++ B, A2, A1, V, rfl, ⟨?_, ?_⟩, by simp; omega, ?_, ?_, by rw [hc1], by simp [f0], by simp [f2], by simp [f4], by simp, by simp [f11, hA1]⟩
      · rintro rfl; simp at hA2; omega
      · rintro rfl; simp at hA1; omega
      · rw [← htg, ← hAd]; simp
      · simp only [List.length_append]; omega
    · have hB1 : (B.take (B.length - A.length)).length = B.length - A.length := by simp
      have hBd : B.take (B.length - A.length) ++ B.drop (B.length - A.length) = B := List.take_append_drop _ _
      have hB2 : (B.drop (B.length - A.length)).length = A.length := by simp; omega
      generalize B.take (B.length - A.length) = B1 at *
      generalize B.drop (B.length - A.length) = B2 at *
      have hcall := swapRange (U ++ A ++ B ++ V) q U.length (m + B1.length) A.length F caps (be st q (U ++ A ++ B ++ V)) (by omega) (by omega) (by omega) (by simp)
      have hsw := swR_blocks A.length U A B1 B2 V rfl hB2
      have e1 : U ++ A ++ B1 ++ B2 ++ V = U ++ A ++ B ++ V := by rw [← hBd]; simp
      have e2 : U.length + A.length + B1.length = m + B1.length := by omega
      rw [e1, e2] at hsw
      rw [hcl, hsw, be_be] at hcall
      have hgt' : ¬ (B.length : Int) < A.length := by omega
      have wb : IntKind.i64.wrap ((B.length : Int) - A.length) = (B1.length : Int) := by rw [wrap_s _ (by omega) (by omega)]; omega
      have wc : IntKind.i64.wrap ((m : Int) + B.length) = (m : Int) + B.length := wrap_s _ (by omega) (by omega)
      have wd : IntKind.i64.wrap ((m : Int) + B.length - A.length) = ((m + B1.length : Nat) : Int) := by rw [wrap_s _ (by omega) (by omega)]; omega
      generalize U ++ A ++ B ++ V = c0 at *
      generalize hc1 : U ++ B2 ++ B1 ++ A ++ V = c1 at hcall
      (repeat' (first | refine qS ?_ | refine qB ?_ | (refine qK ?_; simp only [ak, reduceIte]) | (refine qC ?_; simp [f0, f2, f4, f10, f11, hEq', hgt', hEq, hgt, wa, wc, wd]) | (refine w_e [] ?_; intro J hJ; simp only []; simp [f0, f2, f4, f10, f11, hEq', hgt', hEq, hgt, wa, wc, wd]; (try (refine hJ _ _ ?_; clear hJ J; simp only [ak, reduceIte])))))
      refine qE hcall (by simp) ?_; rintro r s3 rfl
      (repeat' ((first | (refine w_e [] ?_; intro J hJ; simp only []) | (refine e_go ?_)); simp [f10, f11, wb]; (refine hJ _ _ ?_; clear hJ J; simp only [ak, reduceIte])))
      refine hJJ (B2.length + B1.length) _ _ (by omega) ⟨U, B2, B1, A ++ V, rfl, ⟨?_, ?_⟩, by omega, ?_, ?_, by rw [← hc1, List.append_assoc _ A V], by simp [f0], by simp [f2], by simp [f4], by simp [f10, hB2], by simp⟩
      · rintro rfl; simp at hB2; omega
      · rintro rfl; simp at hB1; omega
      · rw [← htg, ← hBd]; simp
      · simp only [List.length_append]; omega
def cmpK (x y : Int) : Int := if x < y then -1 else if y < x then 1 else 0
theorem cmpK_neg (x y : Int) : decide (cmpK x y < 0) = decide (x < y) := by
  unfold cmpK
  by_cases h : x < y
  · simp [h]
  · rw [if_neg h]
    by_cases h2 : y < x <;> simp [h, h2]
structure CmpAt (fid : FuncId) (caps : List LV) (q : Nat) (Pc : St → Prop) : Prop where
  keep : ∀ st st', Pc st → OffS q st st' → Pc st'
  call : ∀ st x y, Pc st → ACalls Tryz.prog fid ([u x, u y] ++ caps) st fun r st' => r = i (cmpK x y) ∧ Keeps st st'
def Ris (l : List Int) : Prop := l.Pairwise fun x y => x ≤ y
theorem get_at (U : List Int) (x : Int) (W : List Int) {j : Nat} (hj : j = U.length) : (U ++ x :: W).getD j 0 = x := by subst hj; exact getD_mid _ _ _
theorem set_at (U : List Int) (x y : Int) (W : List Int) {j : Nat} (hj : j = U.length) : (U ++ x :: W).set j y = U ++ y :: W := by subst hj; exact set_mid _ _ _ _
def InsP (P X S : List Int) (q : Nat) (st : St) (r : LV) (st' : St) : Prop := ∃ Y, Y.Perm X ∧ Ris Y ∧ st'.H q = .box 29 1 (us (P ++ Y ++ S)) ∧ OffS q st st'
theorem ris_ins {A B : List Int} {x : Int} (h : Ris (A ++ B)) (h1 : ∀ y ∈ A, y ≤ x) (h2 : ∀ y ∈ B, x ≤ y) : Ris (A ++ x :: B) := by
  unfold Ris at h ⊢
  rw [List.pairwise_append] at h ⊢
  refine ⟨h.1, List.pairwise_cons.2 ⟨h2, h.2.1⟩, fun a ha b hb => ?_⟩
  rcases List.mem_cons.1 hb with rfl | hb
  · exact h1 a ha
  · exact h.2.2 a ha b hb
theorem ris_last {A : List Int} {y : Int} (h : Ris (A ++ [y])) : ∀ a ∈ A, a ≤ y := by
  unfold Ris at h
  rw [List.pairwise_append] at h
  exact fun a ha => h.2.2 a ha y (by simp)
set_option maxHeartbeats 1000000 in
theorem insSort (P X S : List Int) (q : Nat) (fid : FuncId) (caps : List LV) (Pc : St → Prop) (st : St) (hcmp : CmpAt fid caps q Pc) (hPc : Pc st) (hq : q < st.next) (hl : (P ++ X ++ S).length ≤ 100000) (hH : st.H q = .box 29 1 (us (P ++ X ++ S))) :
    ACalls Tryz.prog 120 [.ms q 0 (P ++ X ++ S).length, i P.length, i (P.length + X.length : Nat), .fn (.func fid) caps] st (InsP P X S q st) := by
  generalize hL : (P ++ X ++ S).length = L at *
  have hLl : L = P.length + X.length + S.length := by rw [← hL]; simp only [List.length_append]
  generalize hp : P.length = p at *
  have wp : IntKind.i64.wrap ((p : Int) + 1) = ((p + 1 : Nat) : Int) := by rw [wrap_s _ (by omega) (by omega)]; omega
  refine qO tabOk Tryz.func120 rfl rfl Tryz.ntmps120 (rs := []) rfl (by simp) ?_
  (repeat' (first | refine qS ?_ | refine qB ?_ | (refine w_e [] ?_; intro J hJ; simp only []; simp [wp]; (refine hJ _ _ ?_; clear hJ J; simp only [ak, reduceIte]))))
  refine qL (fun z fr st2 => ∃ Y Z : List Int, Z.length ≤ z ∧ fr 0 = .ms q 0 L ∧ fr 1 = i p ∧ fr 2 = i (p + X.length : Nat) ∧ fr 3 = .fn (.func fid) caps ∧ (X = [] ∧ Y = [] ∧ fr 8 = i (p + 1 : Nat) ∨ Y ≠ [] ∧ fr 8 = i (p + Y.length : Nat)) ∧ (Y ++ Z).Perm X ∧ Ris Y ∧ st2.H q = .box 29 1 (us (P ++ Y ++ Z ++ S)) ∧ OffS q st st2) X.length ?_ ?_
  · cases X with
    | nil => exact ⟨[], [], by simp, by simp, by simp, by simp, by simp, .inl ⟨rfl, rfl, by simp⟩, .refl _, .nil, by simpa using hH, OffS.refl _ _⟩
    | cons x X => 
      refine ⟨[x], X, by simp, by simp, by simp, by simp, by simp, .inr ⟨by simp, by simp⟩, .refl _, List.pairwise_singleton _ _, ?_, OffS.refl _ _⟩
      rw [hH]; simp
  rintro z fr st2 ⟨Y, Z, hz, f0, f1, f2, f3, f8, hpm, hris, hB, hoff⟩ JJ hJJ
  have hpl := hpm.length_eq
  simp only [List.length_append] at hpl
  cases Z with
  | nil =>
    clear hJJ
    simp only [List.length_nil, Nat.add_zero] at hpl
    rw [List.append_nil] at hpm hB
    have hex : ∃ e : Nat, fr 8 = i e ∧ ¬ ((e : Int) < (p + X.length : Nat)) := by
      rcases f8 with ⟨h1, h2, h3⟩ | ⟨h1, h2⟩
      · exact ⟨p + 1, h3, by rw [h1]; simp; omega⟩
      · exact ⟨p + Y.length, h2, by rw [hpl]; omega⟩
    obtain ⟨e, g8, he⟩ := hex
    (repeat' (first | refine qS ?_ | (refine qX ?_; simp only [ak, reduceIte]) | (refine qC ?_; simp [f2, g8, he]; (try with_reducible refine ⟨?_, ?_⟩) <;> (try with_reducible intro hc) <;> try (exfalso; omega)) | (refine w_e [] ?_; intro J hJ; simp only []; simp [f2, g8, he]; (refine hJ _ _ ?_; clear hJ J; simp only [ak, reduceIte]))))
    simp
    exact ⟨Y, hpm, hris, hB, hoff⟩
  | cons x Z =>
  have hYne : Y ≠ [] ∧ fr 8 = i (p + Y.length : Nat) := by
    rcases f8 with ⟨h1, h2, h3⟩ | h
    · subst h1; simp at hpl
    · exact h
  obtain ⟨hYn, g8⟩ := hYne
  clear f8
  have hY0 := List.length_pos_iff.2 hYn
  simp only [List.length_cons] at hpl hz
  have hlt : (((p + Y.length : Nat) : Int)) < ((p + X.length : Nat) : Int) := by omega
  (repeat' (first | refine qS ?_ | refine qB ?_ | (refine qK ?_; simp only [ak, reduceIte]) | (refine qC ?_; simp [f2, g8, hlt]; (try with_reducible refine ⟨?_, ?_⟩) <;> (try with_reducible intro hc) <;> try (exfalso; omega)) | (refine w_e [] ?_; intro J hJ; simp only []; simp [f2, g8, hlt]; (refine hJ _ _ ?_; clear hJ J; simp only [ak, reduceIte]))))
  refine qL (fun z fr st3 => ∃ A B : List Int, z = A.length ∧ A ++ B = Y ∧ (∀ y ∈ B, x ≤ y) ∧ fr 0 = .ms q 0 L ∧ fr 1 = i p ∧ fr 2 = i (p + X.length : Nat) ∧ fr 3 = .fn (.func fid) caps ∧ fr 8 = i (p + Y.length : Nat) ∧ fr 9 = i (p + A.length : Nat) ∧ st3.H q = .box 29 1 (us (P ++ A ++ x :: (B ++ Z ++ S))) ∧ OffS q st st3) Y.length ?_ ?_
  · exact ⟨Y, [], rfl, by simp, by simp, by simp [f0], by simp [f1], by simp [f2], by simp [f3], by simp [g8], by simp, by rw [hB]; simp, hoff⟩
  clear f0 f1 f2 f3 g8 hB hoff fr st2
  rintro z' fr st3 ⟨A, B, rfl, rfl, hxB, f0, f1, f2, f3, f8, f9, hB, hoff⟩ J2 hJ2
  have hP3 := hcmp.keep _ _ hPc hoff
  have hfin : (∀ y ∈ A, y ≤ x) → Ris (A ++ x :: B) := fun h1 => ris_ins hris h1 hxB
  have hpm2 : ((A ++ x :: B) ++ Z).Perm X := by
    refine List.Perm.trans ?_ hpm
    rw [List.append_assoc, List.append_assoc]
    refine List.Perm.append_left A ?_
    rw [List.cons_append]
    exact List.perm_middle.symm
  have hAB : (A ++ x :: B).length = (A ++ B).length + 1 := by simp; omega
  simp only [List.length_append] at hpl hY0
  have w8 : IntKind.i64.wrap (((p + (A ++ B).length : Nat) : Int) + 1) = ((p + (A ++ x :: B).length : Nat) : Int) := by rw [hAB, wrap_s _ (by simp only [List.length_append]; omega) (by simp only [List.length_append]; omega)]; omega
  have hnext : ∀ fr' st4, (fr' 0 = .ms q 0 L ∧ fr' 1 = i p ∧ fr' 2 = i (p + X.length : Nat) ∧ fr' 3 = .fn (.func fid) caps ∧ fr' 8 = i (p + (A ++ x :: B).length : Nat)) → (∀ y ∈ A, y ≤ x) → st4.H q = .box 29 1 (us (P ++ A ++ x :: (B ++ Z ++ S))) → OffS q st st4 → JJ fr' st4 := by
    rintro fr' st4 ⟨g0, g1, g2, g3, g8⟩ h1 h2 h3
    refine hJJ Z.length _ _ (by omega) ⟨A ++ x :: B, Z, Nat.le_refl _, g0, g1, g2, g3, .inr ⟨by simp, g8⟩, hpm2, hfin h1, ?_, h3⟩
    rw [h2]; simp
  have hrisA : Ris A := by
    unfold Ris at hris ⊢
    exact (List.pairwise_append.1 hris).1
  clear hJJ hfin hpm2 hpm hris hAB
  generalize (A ++ B).length = lab at *
  generalize (A ++ x :: B).length = laxb at *
  have w8' : IntKind.i64.wrap ((p : Int) + lab + 1) = (p : Int) + laxb := by have h := w8; rw [Int.natCast_add, Int.natCast_add] at h; exact h
  rcases List.eq_nil_or_concat A with rfl | ⟨W, y, hWy⟩
  · simp only [List.length_nil, Nat.add_zero] at f9
    (repeat' refine qS ?_)
    (refine w_s [] [q] [(0, true), (1, true), (2, true), (3, true), (4, true), (5, true), (6, true), (7, true), (8, true), (9, true), (10, true), (11, true), (12, true), (13, true), (14, false), (15, true), (16, true)] ?_; intro J hJ; simp [f0, f1, f3, f9]; (refine hJ _ _ ?_; clear hJ J; simp only [ak, reduceIte]))
    (repeat' (first | (refine qX ?_; simp only [ak, reduceIte]) | (refine qC ?_; simp [f8, w8']) | (refine w_e [] ?_; intro J hJ; simp only []; simp [f8, w8']; (refine hJ _ _ ?_; clear hJ J; simp only [ak, reduceIte]))))
    exact hnext _ _ ⟨by simp [f0], by simp [f1], by simp [f2], by simp [f3], by simp⟩ (by simp) hB hoff
  rw [List.concat_eq_append] at hWy
  subst hWy
  have hWl : (W ++ [y]).length = W.length + 1 := by simp
  rw [hWl, ← Nat.add_assoc] at f9
  have hce : P ++ (W ++ [y]) ++ x :: (B ++ Z ++ S) = (P ++ W) ++ y :: x :: (B ++ Z ++ S) := by simp
  have hUl : (P ++ W).length = p + W.length := by simp [hp]
  have hcl : ((P ++ W) ++ y :: x :: (B ++ Z ++ S)).length = L := by
    simp only [List.length_append, List.length_cons, List.length_nil, hp] at hpl hz ⊢
    omega
  rw [hce] at hB hnext
  have g1 := get_at (P ++ W) y (x :: (B ++ Z ++ S)) (j := p + W.length) hUl.symm
  have g2 : ((P ++ W) ++ y :: x :: (B ++ Z ++ S)).getD (p + W.length + 1) 0 = x := by
    rw [show (P ++ W) ++ y :: x :: (B ++ Z ++ S) = (P ++ W ++ [y]) ++ x :: (B ++ Z ++ S) by simp]
    exact get_at _ _ _ (by simp [hp]; omega)
  have s1 : (((P ++ W) ++ y :: x :: (B ++ Z ++ S)).set (p + W.length + 1) y).set (p + W.length) x = P ++ W ++ x :: (y :: B ++ Z ++ S) := by
    rw [show (P ++ W) ++ y :: x :: (B ++ Z ++ S) = (P ++ W ++ [y]) ++ x :: (B ++ Z ++ S) by simp, set_at _ _ _ _ (by simp [hp]; omega)]
    rw [show (P ++ W ++ [y]) ++ y :: (B ++ Z ++ S) = (P ++ W) ++ y :: (y :: (B ++ Z ++ S)) by simp, set_at _ _ _ _ hUl.symm]
    simp
  have hstep : x < y → ∀ y' ∈ y :: B, x ≤ y' := fun h1 y' hy' => by
    rcases List.mem_cons.1 hy' with rfl | h2
    · omega
    · exact hxB y' h2
  have hstop : ¬ x < y → ∀ y' ∈ W ++ [y], y' ≤ x := fun h1 y' hy' => by
    rcases List.mem_append.1 hy' with h2 | h2
    · have := ris_last (hrisA) y' h2; omega
    · rw [List.mem_singleton] at h2; subst h2; omega
  generalize (P ++ W) ++ y :: x :: (B ++ Z ++ S) = c at *
  generalize hjx : p + W.length = jx at *
  have hel := us_len c
  have da := qG c (jx + 1) (by omega)
  have db := qG c jx (by omega)
  rw [g2] at da
  rw [g1] at db
  have wj : IntKind.i64.wrap (((jx + 1 : Nat) : Int) - 1) = (jx : Int) := by rw [wrap_s _ (by omega) (by omega)]; omega
  obtain ⟨xi, rfl⟩ : ∃ xi, xi = x := ⟨_, rfl⟩
  obtain ⟨yi, rfl⟩ : ∃ yi, yi = y := ⟨_, rfl⟩
  try simp only at da db hstep hstop
  have hgt : (p : Int) < (jx : Int) + 1 := by omega
  have hcm := hcmp.call st3 xi yi hP3
  have hneg := cmpK_neg xi yi
  try simp only at hneg
  generalize cmpK xi yi = cv at *
  have wj' : IntKind.i64.wrap (jx : Int) = (jx : Int) := wrap_s _ (by omega) (by omega)
  have hA4 : jx + 1 < L := by omega
  have hB4 : jx < L := by omega
  (repeat' refine qS ?_)
  (refine w_s [] [q] [(0, true), (1, true), (2, true), (3, true), (4, true), (5, true), (6, true), (7, true), (8, true), (9, true), (10, true), (11, true), (12, true), (13, true), (14, false), (15, true), (16, true)] ?_; intro J hJ; simp [f0, f1, f3, f9, hgt, hB, da, db, hel, hcl, wj']; (repeat refine ca ?_))
  refine dcallK_of hcm ?_; rintro r s4 ⟨rfl, hk4⟩
  have hq3 : q < st3.next := by have := hoff.1; omega
  have hB4' := (hk4.H q hq3).trans hB
  have hoff4 := hoff.keeps hk4
  refine ⟨fun _ => by simp [hB4', hB], ?_⟩
  by_cases hlt3 : xi < yi
  · have hcv : cv < 0 := by rw [decide_eq_true hlt3] at hneg; exact of_decide_eq_true hneg
    (refine d_go ?_; simp [hcv, hB4', hB]; (refine hJ _ _ ?_; clear hJ J; simp only [ak, reduceIte]))
    (repeat' (first | refine qS ?_ | refine qB ?_ | (refine qK ?_; simp only [ak, reduceIte]) | (refine qC ?_; simp [])))
    (refine w_s [] [q] [(0, true), (1, true), (2, true), (3, true), (4, true), (5, true), (6, true), (7, true), (8, true), (9, true), (10, true), (11, true), (12, true), (13, true), (14, true), (15, false), (16, true), (17, false)] ?_; intro J hJ; simp [f0, f9, hB4', da, db, hel, hcl, wj']; (repeat refine ca ?_); (refine hJ _ _ ?_; clear hJ J; simp only [ak, reduceIte]))
    have e1 := us_set c (jx + 1) yi (by omega)
    have e2 := us_set (c.set (jx + 1) yi) jx xi (by simp; omega)
    try simp only at e1 e2
    rw [e1, e2, s1, St.set_set]
    (repeat' (refine w_e [] ?_; intro J hJ; simp only []; simp [f9, wj']; (refine hJ _ _ ?_; clear hJ J; simp only [ak, reduceIte])))
    refine hJ2 W.length _ _ (by simp) ⟨W, yi :: B, rfl, by simp, hstep hlt3, by simp [f0], by simp [f1], by simp [f2], by simp [f3], by simp [f8], by simp [hjx], ?_, hoff4.set _⟩
    simp
  · have hcv : ¬ cv < 0 := by rw [decide_eq_false hlt3] at hneg; exact of_decide_eq_false hneg
    (refine d_go ?_; simp [hcv, hB4', hB]; (refine hJ _ _ ?_; clear hJ J; simp only [ak, reduceIte]))
    (repeat' (first | (refine qX ?_; simp only [ak, reduceIte]) | (refine qC ?_; simp [f8, w8']) | (refine w_e [] ?_; intro J hJ; simp only []; simp [f8, w8']; (refine hJ _ _ ?_; clear hJ J; simp only [ak, reduceIte]))))
    exact hnext _ _ ⟨by simp [f0], by simp [f1], by simp [f2], by simp [f3], by simp⟩ (hstop hlt3) hB4' hoff4
theorem ris_get {l : List Int} (h : Ris l) {j k : Nat} (hjk : j ≤ k) (hk : k < l.length) : (l.getD j 0) ≤ (l.getD k 0) := by
  rw [getDE _ _ hk, getDE _ _ (by omega)]
  rcases Nat.lt_or_ge j k with h1 | h1
  · exact List.pairwise_iff_getElem.1 h j k (by omega) hk h1
  · obtain rfl : j = k := by omega
    exact Int.le_refl _
structure Cut (A B : List Int) (s e : Nat) : Prop where
  hs : s ≤ A.length
  he : e ≤ B.length
  ab : s = 0 ∨ e = B.length ∨ (A.getD (s - 1) 0) ≤ (B.getD e 0)
  ba : e = 0 ∨ s = A.length ∨ (B.getD (e - 1) 0) ≤ (A.getD s 0)
theorem Cut.le {A B : List Int} (hA : Ris A) (hB : Ris B) {s e : Nat} (h : Cut A B s e) : ∀ x ∈ A.take s ++ B.take e, ∀ y ∈ A.drop s ++ B.drop e, x ≤ y := by
  intro x hx y hy
  obtain ⟨h1, h2, h3, h4⟩ := h
  rw [List.mem_append] at hx hy
  rcases hx with hx | hx <;> rcases hy with hy | hy
  · obtain ⟨j, hj, rfl⟩ := List.getElem_of_mem hx
    obtain ⟨k, hk, rfl⟩ := List.getElem_of_mem hy
    simp only [List.length_take, List.length_drop] at hj hk
    rw [List.getElem_take, List.getElem_drop]
    exact List.pairwise_iff_getElem.1 hA j (s + k) (by omega) (by omega) (by omega)
  · obtain ⟨j, hj, rfl⟩ := List.getElem_of_mem hx
    obtain ⟨k, hk, rfl⟩ := List.getElem_of_mem hy
    simp only [List.length_take, List.length_drop] at hj hk
    rw [List.getElem_take, List.getElem_drop]
    have e1 := ris_get hA (j := j) (k := s - 1) (by omega) (by omega)
    have e2 := ris_get hB (j := e) (k := e + k) (by omega) (by omega)
    rw [getDE A j (by omega)] at e1
    rw [getDE B (e + k) (by omega)] at e2
    omega
  · obtain ⟨j, hj, rfl⟩ := List.getElem_of_mem hx
    obtain ⟨k, hk, rfl⟩ := List.getElem_of_mem hy
    simp only [List.length_take, List.length_drop] at hj hk
    rw [List.getElem_take, List.getElem_drop]
    have e1 := ris_get hB (j := j) (k := e - 1) (by omega) (by omega)
    have e2 := ris_get hA (j := s) (k := s + k) (by omega) (by omega)
    rw [getDE B j (by omega)] at e1
    rw [getDE A (s + k) (by omega)] at e2
    omega
  · obtain ⟨j, hj, rfl⟩ := List.getElem_of_mem hx
    obtain ⟨k, hk, rfl⟩ := List.getElem_of_mem hy
    simp only [List.length_take, List.length_drop] at hj hk
    rw [List.getElem_take, List.getElem_drop]
    exact List.pairwise_iff_getElem.1 hB j (e + k) (by omega) (by omega) (by omega)
theorem Cut.join {A B C D : List Int} (hA : Ris A) (hB : Ris B) {s e : Nat} (h : Cut A B s e) (hC : C.Perm (A.take s ++ B.take e)) (hD : D.Perm (A.drop s ++ B.drop e)) (rC : Ris C) (rD : Ris D) : (C ++ D).Perm (A ++ B) ∧ Ris (C ++ D) := by
  refine ⟨?_, List.pairwise_append.2 ⟨rC, rD, fun x hx y hy => h.le hA hB x (hC.mem_iff.1 hx) y (hD.mem_iff.1 hy)⟩⟩
  refine (hC.append hD).trans ?_
  have e1 : A ++ B = (A.take s ++ A.drop s) ++ (B.take e ++ B.drop e) := by rw [List.take_append_drop, List.take_append_drop]
  rw [e1, List.append_assoc, List.append_assoc]
  refine List.Perm.append_left _ ?_
  rw [← List.append_assoc, ← List.append_assoc]
  exact List.Perm.append_right _ List.perm_append_comm
end Go.Proofs.YtplnodgkmbajiaaGreat.Aw.U
