/- The document's way: Laid, walked. The document's way: darts, Part. The document's way: Same, walked; plain: parts paired off greedily. The law CanonSame. The law CanonLess: a map's mirror, a map's copy. The law CanonLess: the document's Keep of a map. Plain, for the law CanonLess: a kept map, a mirrored map; a map with fewer edges has another code. No program. The law CanonLess. -/
import Derived.Test.YtlnefdmdabhobaaGreatJg
import Derived.Test.YtlnefdmdabhobaaGreatAwMr5
namespace Go.Proofs.YtlnefdmdabhobaaGreat.Aw
open Go Go.RowKit Go.Proofs.YtlnefdmdabhobaaGreat.Pl Go.Proofs.YtlnefdmdabhobaaGreat.Eu
set_option linter.unusedSimpArgs false
set_option linter.unusedVariables false

def LaidR (a b : Mp) (x y : Int) (r : LV) : Prop := ∃ (n : Nat) (ok : Bool), r = .tu [i n, bb ok] ∧ (ok = true ↔ LaidTo a b x y) ∧ (ok = true → ∀ v c, IsPart a.g v c → x ∈ endsL a.g.es c → n = (endsL a.g.es c).length)
/-- What is laid, in memory. -/
structure LaM (a b : Mp) (x y : Int) (st : St) (F T : List Int) (fr : Frm) (s : St) : Prop where
  la : LaI a b x y F T
  f4 : fr 4 = .pt st.next 0
  f5 : fr 5 = .pt (st.next + 1) 0
  mem : ∃ tF tT, fr 10 = .sl tF F.length (us F) ∧ fr 11 = .sl tT T.length (us T) ∧ s.H tF = .own 48 1 F.length ∧ s.H tT = .own 48 1 T.length ∧ tF ≠ tT ∧ (st.next + 2 ≤ tF ∧ st.next + 2 ≤ tT) ∧ (tF < s.next ∧ tT < s.next)
  ga : s.H st.next = .box 28 3 (mpL a)
  gb : s.H (st.next + 1) = .box 28 3 (mpL b)
  kp : Keeps st s

set_option maxHeartbeats 8000000 in
theorem rLaid (a b : Mp) (ha : MapOk a) (hb : MapOk b) (x y : Int) (st : St) (hva : a.g.vs.length ≤ 1000) (hea : a.g.es.length ≤ 1000) (hvb : b.g.vs.length ≤ 1000) (heb : b.g.es.length ≤ 1000) (hx : x ∈ darts a.g.es) (hy : y ∈ darts b.g.es) :
    ACalls Tryz.prog 173 [.ag (mpL a), .ag (mpL b), u x, u y] st fun r st' => LaidR a b x y r ∧ Keeps st st' := by
  refine acalls_of_body tabOk Tryz.func173 rfl rfl Tryz.ntmps173 (rs := [.tmp 8, .tmp 9]) rfl (by simp) ?_
  refine awp_posG fun hpos => ?_
  (repeat' (first | refine awp_seq ?_ | refine awp_block ?_ | (refine w_e [] ?_; intro J hJ; simp only []; simp []; (refine hJ _ _ ?_; clear hJ J; simp only [ak, reduceIte]))))
  refine awp_loop (fun z fr s => ∃ (k : Nat) (F T : List Int), z = 2 * a.g.es.length - k ∧ k ≤ F.length ∧ LaM a b x y st F T fr s ∧ LaC a b F T k ∧ fr 12 = i k) (2 * a.g.es.length) ?_ ?_
  · refine ⟨0, [x], [y], by omega, by simp, ⟨.start hx hy, by simp, by simp, ⟨st.next + 1 + 1, st.next + 1 + 1 + 1, by simp, by simp, by simp, by simp, by omega, by omega, by simp⟩, by simp, by simp, ?_⟩, fun j hj => by omega, by simp⟩
    exact (((Keeps.new _ _).trans (Keeps.new _ _)).trans (Keeps.new _ _)).trans (Keeps.new _ _)
  rintro z fr s ⟨k, F, T, rfl, hkF, hM, hC, f12⟩ JJ hJJ
  obtain ⟨hLa, f4, f5, ⟨tF, tT, f10, f11, hF, hT, hne, hlo, hhi⟩, hga, hgb, hkp⟩ := id hM
  have hFle := hLa.le
  have hlen := hLa.len
  by_cases hlt : k < F.length
  rotate_left
  · clear hJJ
    obtain rfl : k = F.length := by omega
    obtain ⟨hok, hn⟩ := hLa.done ha hC
    (repeat' (first | refine awp_seq ?_ | (refine awp_exit ?_; simp only [ak, reduceIte]) | (refine awp_ret ?_; simp only [ak, reduceIte]; simp [f10, f12]) | (refine awp_cond ?_; simp [f10, f12]) | (refine w_e [] ?_; intro J hJ; simp only []; simp [f10, f12]; (refine hJ _ _ ?_; clear hJ J; simp only [ak, reduceIte]))))
    exact ⟨⟨F.length, true, rfl, ⟨fun _ => hok, fun _ => rfl⟩, fun _ v c hc hxc => hn hc hxc⟩, hkp⟩
  obtain ⟨hn1, hn2⟩ := hLa.nxt ha hb hlt
  have hltT : k < T.length := by omega
  have hxF := (hLa.dart _ (getD_mem hlt)).1
  have hxT := hLa.dart' _ (getD_mem hltT)
  have hd1 := us_drop_getD F k hlt
  have hd2 := us_drop_getD T k hltT
  have hCk : ∀ F' T' : List Int, (∃ A B, F' = F ++ A ∧ T' = T ++ B) → LaC a b F' T' k → At2 F' T' (tw (F.getD k 0)) (tw (T.getD k 0)) → At2 F' T' (sg a (F.getD k 0)) (sg b (T.getD k 0)) → LaC a b F' T' (k + 1) := by
    rintro F' T' ⟨A, B, rfl, rfl⟩ h1 h2 h3 j hj hjF
    by_cases e : j = k
    · subst e
      rw [getD_app_lt _ _ hlt, getD_app_lt _ _ hltT]
      exact ⟨h2, h3⟩
    · exact h1 j (by omega) hjF
  generalize F.getD k 0 = p at *
  generalize T.getD k 0 = q at *
  have hp1 := dart_range ha hxF
  have hq1 := dart_range hb hxT
  (repeat' (first | refine awp_seq ?_ | refine awp_block ?_ | (refine awp_skip ?_; simp only [ak, reduceIte]) | (refine awp_cond ?_; simp [f10, f12, hlt]) | (refine w_e [] ?_; intro J hJ; simp only []; simp [f10, f12, hlt]; (refine hJ _ _ ?_; clear hJ J; simp only [ak, reduceIte]))))
  (refine w_s [] [st.next] [(0, true), (1, true), (2, true), (3, true), (5, true), (6, true), (7, true), (8, true), (9, true), (4, true), (10, true), (11, true), (12, true)] ?_; intro J hJ; simp [f4, f10, f12, hlt, hd1, hga])
  refine dcallK_ofE (twin33 p _ (by omega) (by omega)) (by simp) ?_; rintro r s1 ⟨rfl, h1⟩
  rw [h1]; clear h1 s1
  refine ⟨fun h => by first | (cases h; done) | simp [hga], ?_⟩
  (refine d_go ?_; simp [f4, f10, f12, hlt, hd1, hga])
  refine dcallK_ofE (next33 a ha p _ hva hea hxF) (by simp) ?_; rintro r s1 ⟨rfl, h1⟩
  rw [h1]; clear h1 s1
  refine ⟨fun h => by first | (cases h; done) | simp [hga], ?_⟩
  (refine d_go ?_; simp [hga]; (repeat refine ca ?_); (refine hJ _ _ ?_; clear hJ J; simp only [ak, reduceIte]))
  have e1 : ¬ st.next + 1 = s.next := by omega
  have hgb' : ∀ o, (s.new o).H (st.next + 1) = .box 28 3 (mpL b) := fun o => by rw [new_H, if_neg e1]; exact hgb
  (repeat (refine awp_seq ?_)); (refine w_s [] [st.next + 1] [(0, true), (1, true), (2, true), (3, true), (5, true), (6, true), (7, true), (8, true), (9, true), (4, true), (10, true), (11, true), (12, true)] ?_; intro J hJ; simp [f5, f11, f12, hltT, hd2, hgb, e1])
  refine dcallK_ofE (twin33 q _ (by omega) (by omega)) (by simp) ?_; rintro r s1 ⟨rfl, h1⟩
  rw [h1]; clear h1 s1
  refine ⟨fun h => by first | (cases h; done) | simp [hgb, e1], ?_⟩
  (refine d_go ?_; simp [f5, f11, f12, hltT, hd2, hgb, e1])
  refine dcallK_ofE (next33 b hb q _ hvb heb hxT) (by simp) ?_; rintro r s1 ⟨rfl, h1⟩
  rw [h1]; clear h1 s1
  refine ⟨fun h => by first | (cases h; done) | simp [hgb, e1], ?_⟩
  (refine d_go ?_; simp [hgb, e1]; (repeat refine ca ?_); (refine hJ _ _ ?_; clear hJ J; simp only [ak, reduceIte]))
  (repeat' (first | refine awp_seq ?_ | refine awp_block ?_ | (refine w_e [] ?_; intro J hJ; simp only []; simp []; (refine hJ _ _ ?_; clear hJ J; simp only [ak, reduceIte]))))
  refine awp_loop (fun z fr s => ∃ (j : Nat) (A B : List Int), z = 2 - j ∧ j ≤ 2 ∧ LaM a b x y st (F ++ A) (T ++ B) fr s ∧ LaC a b (F ++ A) (T ++ B) k ∧ (∀ i, i < j → At2 (F ++ A) (T ++ B) ([tw p, sg a p].getD i 0) ([tw q, sg b q].getD i 0)) ∧ fr 12 = i k ∧ (∃ t13 t14, fr 13 = .sl t13 2 (us [tw p, sg a p]) ∧ fr 14 = .sl t14 2 (us [tw q, sg b q])) ∧ fr 15 = i j) 2 ?_ ?_
  · refine ⟨0, [], [], rfl, by omega, ?_, by simpa using hC, fun i hi => by omega, by simp [f12], ⟨s.next, s.next + 1, by simp, by simp⟩, by simp⟩
    rw [List.append_nil, List.append_nil]
    refine ⟨hLa, by simp [f4], by simp [f5], ⟨tF, tT, by simp [f10], by simp [f11], ?_, ?_, hne, hlo, by simp; omega⟩, ?_, ?_, (hkp.trans (Keeps.new _ _)).trans (Keeps.new _ _)⟩
    · simp [show ¬ tF = s.next by omega, show ¬ tF = s.next + 1 by omega, hF]
    · simp [show ¬ tT = s.next by omega, show ¬ tT = s.next + 1 by omega, hT]
    · simp [show ¬ st.next = s.next by omega, show ¬ st.next = s.next + 1 by omega, hga]
    · simp [e1, show ¬ st.next = s.next by omega, hgb]
  clear hM hga hgb hgb' hkp hF hT hlo hhi f4 f5 f10 f11 f12 hne e1 hd1 hd2 fr s
  have hnW : ∀ i, i < 2 → Nxt2 a b x y ([tw p, sg a p].getD i 0) ([tw q, sg b q].getD i 0) := fun i hi => by
    match i, hi with
    | 0, _ => exact hn1
    | 1, _ => exact hn2
  have hWl : [tw p, sg a p].length = 2 := rfl
  have hWl' : [tw q, sg b q].length = 2 := rfl
  have hdW := fun j hj => us_drop_getD [tw p, sg a p] j hj
  have hdW' := fun j hj => us_drop_getD [tw q, sg b q] j hj
  have hlast : ∀ A B : List Int, LaC a b (F ++ A) (T ++ B) k → (∀ i, i < 2 → At2 (F ++ A) (T ++ B) ([tw p, sg a p].getD i 0) ([tw q, sg b q].getD i 0)) → LaC a b (F ++ A) (T ++ B) (k + 1) := fun A B h1 h2 => hCk _ _ ⟨A, B, rfl, rfl⟩ h1 (h2 0 (by omega)) (h2 1 (by omega))
  generalize [tw p, sg a p] = W at *
  generalize [tw q, sg b q] = W' at *
  clear hn1 hn2 hCk
  rintro z fr s ⟨j, A, B, rfl, hj2, hM, hCA, hAt, f12, ⟨t13, t14, f13, f14⟩, f15⟩ JI hJI
  obtain ⟨hLa', f4, f5, ⟨tF, tT, f10, f11, hF, hT, hne, hlo, hhi⟩, hga, hgb, hkp⟩ := id hM
  have hlen' := hLa'.len
  have hle' := hLa'.le
  by_cases hjlt : j < 2
  rotate_left
  · clear hJI
    obtain rfl : j = 2 := by omega
    have hw := nat_add_one k (by omega)
    (repeat' (first | refine awp_seq ?_ | (refine awp_exit ?_; simp only [ak, reduceIte]) | (refine awp_cond ?_; simp [f15, f12, hw]) | (refine w_e [] ?_; intro J hJ; simp only []; simp [f15, f12, hw]; (refine hJ _ _ ?_; clear hJ J; simp only [ak, reduceIte]))))
    refine hJJ (2 * a.g.es.length - (k + 1)) _ _ (by omega) ⟨k + 1, F ++ A, T ++ B, rfl, by simp; omega, ?_, hlast A B hCA hAt, by simp⟩
    exact ⟨hLa', by simp [f4], by simp [f5], ⟨tF, tT, by simp [f10], by simp [f11], hF, hT, hne, hlo, hhi⟩, hga, hgb, hkp⟩
  have hn := hnW j hjlt
  have hd1 := hdW j (by omega)
  have hd2 := hdW' j (by omega)
  have hAt2 : ∀ A' B' : List Int, At2 ((F ++ A) ++ A') ((T ++ B) ++ B') (W.getD j 0) (W'.getD j 0) → ∀ i, i < j + 1 → At2 ((F ++ A) ++ A') ((T ++ B) ++ B') (W.getD i 0) (W'.getD i 0) := fun A' B' h i hi => by
    by_cases e : i = j
    · subst e; exact h
    · exact (hAt i (by omega)).app hlen' A' B'
  generalize W.getD j 0 = w at *
  generalize W'.getD j 0 = w' at *
  have hji : (j : Int) < 2 := by omega
  have hj' : j < 2 := hjlt
  have hw := nat_add_one j (by omega)
  have hkF' : k ≤ (F ++ A).length := by simp; omega
  have hass := fun A' => List.append_assoc F A A'
  have hass' := fun B' => List.append_assoc T B B'
  generalize hFA : F ++ A = FF at *
  generalize hTB : T ++ B = TT at *
  have hsm1 : small FF := by unfold small; omega
  have hsm2 : small TT := by unfold small; omega
  (repeat' (first | refine awp_seq ?_ | refine awp_block ?_ | (refine awp_skip ?_; simp only [ak, reduceIte]) | (refine awp_cond ?_; simp [f15, hji]) | (refine w_e [] ?_; intro J hJ; simp only []; simp [f15, hji]; (refine hJ _ _ ?_; clear hJ J; simp only [ak, reduceIte]))))
  (refine w_s [] [] [(0, true), (1, true), (2, true), (3, true), (4, true), (6, true), (7, true), (8, true), (9, true), (10, true), (5, true), (11, true), (12, true), (13, true)] ?_; intro J hJ; simp [f10, f11, f13, f14, f15, hd1, hd2, hj', hWl, hWl']; (repeat refine ca ?_))
  refine dcallK_ofE (Find FF tF w _ hsm1) (by simp) ?_; rintro r s1 ⟨rfl, h1⟩
  rw [h1]; clear h1 s1
  refine ⟨fun h => by first | (cases h; done) | simp, ?_⟩
  (refine d_go ?_; simp [f10, f11, f13, f14, f15, hd1, hd2, hj', hWl, hWl'])
  refine dcallK_ofE (Find TT tT w' _ hsm2) (by simp) ?_; rintro r s1 ⟨rfl, h1⟩
  rw [h1]; clear h1 s1
  refine ⟨fun h => by first | (cases h; done) | simp, ?_⟩
  (refine d_go ?_; simp []; (refine hJ _ _ ?_; clear hJ J; simp only [ak, reduceIte]))
  by_cases hpq : gi FF w = gi TT w'
  rotate_left
  · clear hJI hJJ
    have hno := hLa'.fail hn hpq
    generalize gi FF w = g1 at *
    generalize gi TT w' = g2 at *
    have hpb : (g1 == g2) = false := by simpa using hpq
    (repeat' (first | refine awp_seq ?_ | (refine awp_ret ?_; simp only [ak, reduceIte]; simp [hpq, hpb]) | (refine awp_cond ?_; simp [hpq, hpb]) | (refine w_e [] ?_; intro J hJ; simp only []; simp [hpq, hpb]; (refine hJ _ _ ?_; clear hJ J; simp only [ak, reduceIte]))))
    exact ⟨⟨0, false, rfl, ⟨fun h => absurd h (by simp), fun h => absurd h hno⟩, fun h => absurd h (by simp)⟩, hkp⟩
  by_cases hin : w ∈ FF
  · have hin' : w' ∈ TT := by
      have := (gi_neg FF w)
      have h2 := (gi_neg TT w')
      rw [hpq] at this
      exact Classical.byContradiction fun hc => (this.1 (h2.2 hc)) hin
    have hge : ¬ gi TT w' < 0 := fun h => (gi_neg TT w').1 h hin'
    have hA2 : At2 FF TT w w' := by
      rw [gi_mem hin, gi_mem hin'] at hpq
      obtain ⟨h1, h2⟩ := idx_lt hin
      obtain ⟨h3, h4⟩ := idx_lt hin'
      exact ⟨FF.idxOf w, h1, h2, by rw [show FF.idxOf w = TT.idxOf w' by omega]; exact h4⟩
    have hA3 := hAt2 [] [] (by simpa using hA2)
    rw [List.append_nil, List.append_nil] at hA3
    rw [hpq]
    generalize gi TT w' = g2 at *
    (repeat' (first | refine awp_seq ?_ | (refine awp_skip ?_; simp only [ak, reduceIte]) | (refine awp_cond ?_; simp [hge, f15, hw]) | (refine w_e [] ?_; intro J hJ; simp only []; simp [hge, f15, hw]; (refine hJ _ _ ?_; clear hJ J; simp only [ak, reduceIte]))))
    refine hJI (2 - (j + 1)) _ _ (by omega) ⟨j + 1, A, B, rfl, by omega, ?_, by rw [hFA, hTB]; exact hCA, by rw [hFA, hTB]; exact hA3, by simp [f12], ⟨t13, t14, by simp [f13], by simp [f14]⟩, by simp⟩
    rw [hFA, hTB]
    exact ⟨hLa', by simp [f4], by simp [f5], ⟨tF, tT, by simp [f10], by simp [f11], hF, hT, hne, hlo, hhi⟩, hga, hgb, hkp⟩
  · have hg1 := gi_not hin
    have hin' : w' ∉ TT := fun h => by rw [hg1, gi_mem h] at hpq; omega
    have hg2 := gi_not hin'
    rw [hg1, hg2]
    have hadd := hLa'.add hn hin hin'
    have hA3 := hAt2 [w] [w'] ⟨FF.length, by simp, getD_app_last _ _, by rw [hlen']; exact getD_app_last _ _⟩
    have hCA3 := hCA.app hlen' hkF' [w] [w']
    have c1 : ¬ tF = s.next := by omega
    have c2 : ¬ tF = 0 := by omega
    have c3 : ¬ tT = 0 := by omega
    have c4 : ¬ tT = s.next := by omega
    have c5 : ¬ tT = s.next + 1 := by omega
    have c6 : ¬ tT = s.next + 2 := by omega
    have c7 : ¬ tT = tF := fun e => hne e.symm
    (repeat' (first | refine awp_seq ?_ | (refine awp_skip ?_; simp only [ak, reduceIte]) | (refine awp_cond ?_; simp [f10, f11, f13, f14, f15, hd1, hd2, hj', hF, hT, c1, c2, c3, c4, c5, c6, c7, hw]) | (refine w_e [] ?_; intro J hJ; simp only []; simp [f10, f11, f13, f14, f15, hd1, hd2, hj', hF, hT, c1, c2, c3, c4, c5, c6, c7, hw]; (repeat refine ca ?_); (refine hJ _ _ ?_; clear hJ J; simp only [ak, reduceIte]))))
    refine hJI (2 - (j + 1)) _ _ (by omega) ⟨j + 1, A ++ [w], B ++ [w'], rfl, by omega, ?_, by rw [← hass, ← hass']; exact hCA3, by rw [← hass, ← hass']; exact hA3, by simp [f12], ⟨t13, t14, by simp [f13], by simp [f14]⟩, by simp⟩
    rw [← hass, ← hass']
    refine ⟨hadd, by simp [f4], by simp [f5], ⟨s.next + 1, s.next + 3, by simp, by simp, ?_, ?_, by omega, by omega, by simp⟩, ?_, ?_, ?_⟩
    · simp [c1, c5, show ¬ s.next + 1 = tF by omega, show ¬ s.next + 1 = tT by omega]
    · simp
    · simp [show ¬ st.next = s.next by omega, show ¬ st.next = s.next + 1 by omega, show ¬ st.next = s.next + 2 by omega, show ¬ st.next = s.next + 3 by omega, show ¬ st.next = tF by omega, show ¬ st.next = tT by omega, hga]
    · simp [show ¬ st.next = s.next by omega, show ¬ st.next = s.next + 1 by omega, show ¬ st.next = s.next + 2 by omega, show ¬ st.next + 1 = s.next by omega, show ¬ st.next + 1 = s.next + 1 by omega, show ¬ st.next + 1 = s.next + 2 by omega, show ¬ st.next + 1 = s.next + 3 by omega, show ¬ st.next + 1 = tF by omega, show ¬ st.next + 1 = tT by omega, hgb]
    · (repeat (first | exact hkp | (refine Keeps.trans ?_ (Keeps.new _ _)) | (refine Keeps.set ?_ (by omega) _)))

end Go.Proofs.YtlnefdmdabhobaaGreat.Aw

namespace Go.Proofs.YtlnefdmdabhobaaGreat.Aw
open Go Go.RowKit Go.Proofs.YtlnefdmdabhobaaGreat.Pl Go.Proofs.YtlnefdmdabhobaaGreat.Eu
set_option linter.unusedSimpArgs false
set_option linter.unusedVariables false

theorem rDartsK (m : Mp) (ho : MapOk m) (c : List Int) (t : Nat) (st : St) (he : m.g.es.length ≤ 100) (hc : c.length ≤ 100) :
    ACalls Tryz.prog 172 [.ag (mpL m), .sl t c.length (us c)] st fun r st' => r = .sl 0 (endsL m.g.es c).length (us (endsL m.g.es c)) ∧ Keeps st st' := by
  have hid : idOk m.g.es := fun x hx => by have := ho.g.pos x hx; omega
  refine acalls_z0 ?_
  refine acalls_of_body tabOk Tryz.func172 rfl rfl Tryz.ntmps172 (rs := [.tmp 4]) rfl (by simp) ?_
  refine awp_posG fun hpos => ?_
  (repeat (refine awp_seq ?_)); (refine w_e [] ?_; intro J hJ; simp only []; simp []; (refine hJ _ _ ?_; clear hJ J; simp only [ak, reduceIte]))
  (repeat (refine awp_seq ?_)); (refine w_e [] ?_; intro J hJ; simp only []; simp []; (refine hJ _ _ ?_; clear hJ J; simp only [ak, reduceIte]))
  refine awp_own 5 48 1 (by simp) ?_
  (repeat' (first | refine awp_seq ?_ | refine awp_block ?_ | (refine w_e [] ?_; intro J hJ; simp only []; simp []; (refine hJ _ _ ?_; clear hJ J; simp only [ak, reduceIte]))))
  refine awp_range 10 9 11 20 (c.length) (fun j fr st2 => fr 2 = .pt st.next 0 ∧ fr 8 = .sl t c.length (us c) ∧ st2.H st.next = .box 28 3 (mpL m) ∧ Keeps st st2 ∧ (endsL m.g.es (c.take j)).length ≤ 200 * j ∧ ∃ tt, fr 5 = .sl tt (endsL m.g.es (c.take j)).length (us (endsL m.g.es (c.take j))) ∧ st2.H tt = .own 48 1 (endsL m.g.es (c.take j)).length ∧ st.next < tt ∧ tt < st2.next) ?_ ?_ ?_
  · exact ⟨by simp, by simp, by simp, (Keeps.new _ _).trans (Keeps.new _ _), by simp [endsL], st.next + 1, by simp [endsL], by simp [endsL], by omega, by simp⟩
  · rintro j fr s hlt ⟨f2, f8, hG, hkp, hle, tt, f5, hO, hlo, hhi⟩ fi fn JO hJO
    have hd := us_drop_getD c j hlt
    have htk : endsL m.g.es (c.take (j + 1)) = endsL m.g.es (c.take j) ++ ends m.g.es (c.getD j 0) := by
      rw [List.take_succ_eq_append_getElem hlt, ← getD_lt _ _ hlt]; simp [endsL, List.flatMap_append]
    have hlen : (ends m.g.es (c.getD j 0)).length ≤ 2 * m.g.es.length := by
      rw [← darts_length]
      exact List.Nodup.length_le_of_subset (rise_nodup (ends_rise ho.g.ids _)) fun x hx => ends_dart hx
    simp only [htk] at hJO
    generalize endsL m.g.es (c.take j) = E at *
    generalize c.getD j 0 = v at *
    clear htk
    (repeat' (first | refine awp_seq ?_ | (refine w_e [] ?_; intro J hJ; simp only []; simp [f2, f8, fi, fn, hd, hlt, hG]; (try (refine hJ _ _ ?_; clear hJ J; simp only [ak, reduceIte])))))
    refine callK_ofE (ref_Ends m.g v _ (by omega) hid) (by simp) ?_; rintro r s1 ⟨⟨t1, rfl⟩, hk1⟩
    have hn1 := hk1.next
    have hO1 := (hk1.H tt hhi).trans hO
    have hG1 := (hk1.H st.next (by omega)).trans hG
    generalize ends m.g.es v = X at *
    have hone := us_one X
    have e1 : ¬ tt = 0 := by omega
    (repeat' (refine e_go ?_; simp [f5, hO1, hone, e1]; (repeat refine ca ?_); (refine hJ _ _ ?_; clear hJ J; simp only [ak, reduceIte])))
    refine hJO _ _ (by simp [fi]) (by simp [fn]) ⟨by simp [f2], by simp [f8], ?_, ?_, by simp; omega, s1.next, by simp, by simp, by omega, by simp⟩
    · simp [show ¬ st.next = s1.next by omega, show ¬ st.next = tt by omega, hG1]
    · exact ((hkp.trans hk1).set (by omega) _).trans (Keeps.new _ _)
  · rintro fr s ⟨f2, f8, hG, hkp, hle, tt, f5, hO, hlo, hhi⟩
    rw [List.take_length] at f5
    (repeat' (first | refine awp_seq ?_ | (refine awp_ret ?_; simp only [ak, reduceIte]; simp [f5]) | (refine w_e [] ?_; intro J hJ; simp only []; simp [f5]; (refine hJ _ _ ?_; clear hJ J; simp only [ak, reduceIte]))))
    exact ⟨by simp [z0, z0L_map], hkp⟩
theorem rDarts (m : Mp) (ho : MapOk m) (c : List Int) (t : Nat) (st : St) (he : m.g.es.length ≤ 100) (hc : c.length ≤ 100) :
    ACalls Tryz.prog 172 [.ag (mpL m), .sl t c.length (us c)] st fun r st' => r = .sl 0 (endsL m.g.es c).length (us (endsL m.g.es c)) ∧ st' = st :=
  acalls_tidy (rDartsK m ho c t st he hc) fun r h => by
    subst h
    have : ∀ l : List Int, belL st.next (us l) := fun l => by
      induction l with
      | nil => simp only [us, List.map_nil, belL]
      | cons x l ih => simp only [us, List.map_cons, belL]; exact ⟨trivial, ih⟩
    exact ⟨.inl rfl, this _⟩

theorem part_endsL_le {m : Mp} (ho : MapOk m) {v : Int} {c : List Int} (hc : IsPart m.g v c) : (endsL m.g.es c).length ≤ 2 * m.g.es.length := by
  by_cases h : endsL m.g.es c = []
  · rw [h]; simp
  · obtain ⟨k1, k2, D, hD, q1, _, _⟩ := part_walk ho hc (getD_mem (List.length_pos_iff.2 h))
    have hwk := hD.isWk ho (dart_ends ho.g.ids k1).1
    rw [← q1.length_eq, ← darts_length]
    refine List.Nodup.length_le_of_subset hwk.nd fun x hx => ?_
    exact (part_walk ho hc (q1.mem_iff.1 hx)).1
theorem rLaid' (a b : Mp) (ha : MapOk a) (hb : MapOk b) (x y : Int) (st : St) (hva : a.g.vs.length ≤ 1000) (hea : a.g.es.length ≤ 1000) (hvb : b.g.vs.length ≤ 1000) (heb : b.g.es.length ≤ 1000) (hx : x ∈ darts a.g.es) (hy : y ∈ darts b.g.es) :
    ACalls Tryz.prog 173 [.ag (mpL a), .ag (mpL b), u x, u y] st fun r st' => LaidR a b x y r ∧ st' = st :=
  acalls_tidy (rLaid a b ha hb x y st hva hea hvb heb hx hy) fun r h => by
    obtain ⟨n, ok, rfl, _⟩ := h
    exact ⟨trivial, trivial, trivial⟩

set_option maxHeartbeats 4000000 in
theorem rPartK (a b : Mp) (ha : MapOk a) (hb : MapOk b) (x y : List Int) (t t' : Nat) (st : St) (hva : a.g.vs.length ≤ 100) (hea : a.g.es.length ≤ 100) (hvb : b.g.vs.length ≤ 100) (heb : b.g.es.length ≤ 100) {v w : Int} (hx : IsPart a.g v x) (hy : IsPart b.g w y) :
    ACalls Tryz.prog 114 [.ag (mpL a), .ag (mpL b), .sl t x.length (us x), .sl t' y.length (us y)] st fun r st' => (∃ ok : Bool, r = bb ok ∧ (ok = true ↔ PartEq a b x y)) ∧ Keeps st st' := by
  have hxl := part_len hx
  have hyl := part_len hy
  have hxd : ∀ d ∈ endsL a.g.es x, d ∈ darts a.g.es := fun d hd => (part_walk ha hx hd).1
  have hyd : ∀ d ∈ endsL b.g.es y, d ∈ darts b.g.es := fun d hd => (part_walk hb hy hd).1
  have hln : ∀ {p q : Int} {r : LV}, LaidR a b p q r → p ∈ endsL a.g.es x → ∃ (n : Nat) (ok : Bool), r = .tu [i n, bb ok] ∧ (ok = true ↔ LaidTo a b p q) ∧ (ok = true → n = (endsL a.g.es x).length) := fun {p q r} ⟨n, ok, h1, h2, h3⟩ hp => ⟨n, ok, h1, h2, fun h => h3 h v x hx hp⟩
  have hYl := part_endsL_le hb hy
  unfold PartEq
  refine acalls_of_body tabOk Tryz.func114 rfl rfl Tryz.ntmps114 (rs := [.tmp 8]) rfl (by simp) ?_
  (repeat' (first | refine awp_seq ?_ | (refine w_e [] ?_; intro J hJ; simp only []; simp []; (refine hJ _ _ ?_; clear hJ J; simp only [ak, reduceIte]))))
  (refine w_s [] [st.next, st.next + 1] [(0, true), (1, true), (3, true), (4, true), (2, true), (5, true), (6, true), (7, true)] ?_; intro J hJ; simp [])
  refine dcallK_ofE (rDarts a ha x t _ hea (by omega)) (by simp) ?_; rintro r s1 ⟨rfl, h1⟩
  rw [h1]; clear h1 s1
  refine ⟨fun h => by first | (cases h; done) | simp, ?_⟩
  (refine d_go ?_; simp [])
  refine dcallK_ofE (rDarts b hb y t' _ heb (by omega)) (by simp) ?_; rintro r s1 ⟨rfl, h1⟩
  rw [h1]; clear h1 s1
  refine ⟨fun h => by first | (cases h; done) | simp, ?_⟩
  (refine d_go ?_; simp []; (refine hJ _ _ ?_; clear hJ J; simp only [ak, reduceIte]))
  generalize endsL a.g.es x = X at *
  generalize endsL b.g.es y = Y at *
  by_cases hl : x.length = y.length ∧ X.length = Y.length
  rotate_left
  · by_cases h1 : x.length = y.length
    · have h2 : ¬ X.length = Y.length := fun h => hl ⟨h1, h⟩
      have h2' : ¬ (X.length : Int) = Y.length := by omega
      have h1' : (x.length : Int) = y.length := by omega
      (repeat' (first | refine awp_seq ?_ | (refine awp_ret ?_; simp only [ak, reduceIte]; simp [h1', h2', h1, h2]) | (refine awp_cond ?_; simp [h1', h2', h1, h2]) | (refine w_e [] ?_; intro J hJ; simp only []; simp [h1', h2', h1, h2]; (refine hJ _ _ ?_; clear hJ J; simp only [ak, reduceIte]))))
      first | exact (Keeps.new _ _).trans (Keeps.new _ _) | exact ⟨⟨false, rfl, fun h => absurd h (by simp), fun h => absurd h.2.1 h2⟩, (Keeps.new _ _).trans (Keeps.new _ _)⟩
    · have h1' : ¬ (x.length : Int) = y.length := by omega
      have hb1 : ((x.length : Int) != y.length) = true := by simpa using h1'
      (repeat' (first | refine awp_seq ?_ | (refine awp_ret ?_; simp only [ak, reduceIte]; simp [h1', h1, hb1]) | (refine awp_cond ?_; simp [h1', h1, hb1]) | (refine w_e [] ?_; intro J hJ; simp only []; simp [h1', h1, hb1]; (refine hJ _ _ ?_; clear hJ J; simp only [ak, reduceIte]))))
      first | exact (Keeps.new _ _).trans (Keeps.new _ _) | exact ⟨⟨false, rfl, fun h => absurd h (by simp), fun h => absurd h.1 h1⟩, (Keeps.new _ _).trans (Keeps.new _ _)⟩
  obtain ⟨h1, h2⟩ := hl
  have h2' : (X.length : Int) = Y.length := by omega
  have h1' : (x.length : Int) = y.length := by omega
  by_cases h0 : X = []
  · subst h0
    have h3 : Y.length = 0 := h2.symm
    (repeat' (first | refine awp_seq ?_ | (refine awp_skip ?_; simp only [ak, reduceIte]) | (refine awp_ret ?_; simp only [ak, reduceIte]; simp [h1', h2', h1, h3]) | (refine awp_cond ?_; simp [h1', h2', h1, h3]) | (refine w_e [] ?_; intro J hJ; simp only []; simp [h1', h2', h1, h3]; (refine hJ _ _ ?_; clear hJ J; simp only [ak, reduceIte]))))
    first | exact (Keeps.new _ _).trans (Keeps.new _ _) | exact ⟨⟨true, rfl, fun _ => ⟨h1, h2, .inl rfl⟩, fun _ => rfl⟩, (Keeps.new _ _).trans (Keeps.new _ _)⟩
  have h0l : 0 < X.length := List.length_pos_iff.2 h0
  have h0' : ¬ (X.length : Int) = 0 := by omega
  have h0'' : ¬ X.length = 0 := by omega
  obtain ⟨p, X', rfl⟩ : ∃ p X', X = p :: X' := by
    cases X with
    | nil => exact absurd rfl h0
    | cons p X' => exact ⟨p, X', rfl⟩
  have hpX : p ∈ p :: X' := by simp
  have hYn : ¬ Y = [] := fun h => by subst h; simp at h2
  have hY0 : ¬ (Y.length : Int) = 0 := by omega
  have hY1 : ¬ Y.length = 0 := by omega
  (repeat' (first | refine awp_seq ?_ | refine awp_block ?_ | (refine awp_skip ?_; simp only [ak, reduceIte]) | (refine awp_cond ?_; simp [h1', h2', h1, h2, h0', h0, h0'', h0l, hYn, hY0, hY1]) | (refine w_e [] ?_; intro J hJ; simp only []; simp [h1', h2', h1, h2, h0', h0, h0'', h0l, hYn, hY0, hY1]; (refine hJ _ _ ?_; clear hJ J; simp only [ak, reduceIte]))))
  refine awp_range 38 37 39 59 (Y.length) (fun j fr st2 => fr 4 = .pt st.next 0 ∧ fr 5 = .pt (st.next + 1) 0 ∧ fr 9 = .sl 0 (X'.length + 1) (us (p :: X')) ∧ fr 36 = .sl 0 Y.length (us Y) ∧ st2.H st.next = .box 28 3 (mpL a) ∧ st2.H (st.next + 1) = .box 28 3 (mpL b) ∧ Keeps st st2 ∧ ∀ k, k < j → ¬ LaidTo a b p (Y.getD k 0)) ?_ ?_ ?_
  · exact ⟨by simp, by simp, by simp [← h2], by simp, by simp, by simp, (Keeps.new _ _).trans (Keeps.new _ _), fun k hk => by omega⟩
  · rintro j fr s hlt ⟨f4, f5, f9, f36, hG, hG2, hkp, hno⟩ fi fn JO hJO
    have hd := us_drop_getD Y j hlt
    have hqY := getD_mem hlt
    have hno2 : ¬ LaidTo a b p (Y.getD j 0) → ∀ k, k < j + 1 → ¬ LaidTo a b p (Y.getD k 0) := fun h k hk => by
      by_cases e : k = j
      · subst e; exact h
      · exact hno k (by omega)
    generalize Y.getD j 0 = q at *
    (repeat' (first | refine awp_seq ?_ | (refine w_e [] ?_; intro J hJ; simp only []; simp [f36, fi, fn, hd, hlt]; (refine hJ _ _ ?_; clear hJ J; simp only [ak, reduceIte]))))
    (refine w_s [] [st.next, st.next + 1] [(0, true), (1, true), (2, true), (3, true), (4, true), (5, true), (6, false), (7, true), (8, true), (9, true), (10, true), (11, true)] ?_; intro J hJ; simp [f4, f5, f9, hG, hG2])
    refine dcallK_ofE (rLaid' a b ha hb p q _ (by omega) (by omega) (by omega) (by omega) (hxd _ hpX) (hyd _ hqY)) (by simp) ?_; rintro r s1 ⟨hr, h1⟩
    rw [h1]; clear h1 s1
    obtain ⟨n, ok, rfl, hok, hnn⟩ := hln hr hpX
    refine ⟨fun h => by first | (cases h; done) | simp [hG, hG2], ?_⟩
    (refine d_go ?_; simp [hG, hG2]; (refine hJ _ _ ?_; clear hJ J; simp only [ak, reduceIte]))
    cases ok with
    | true =>
      have hn := hnn rfl
      have hn' : (n : Int) = X'.length + 1 := by simp at hn; omega
      (repeat' (first | refine awp_seq ?_ | (refine awp_ret ?_; simp only [ak, reduceIte]; simp [f9, hn', h2]) | (refine awp_cond ?_; simp [f9, hn', h2]) | (refine w_e [] ?_; intro J hJ; simp only []; simp [f9, hn', h2]; (refine hJ _ _ ?_; clear hJ J; simp only [ak, reduceIte]))))
      exact ⟨⟨q, hqY, hok.1 rfl⟩, hkp⟩
    | false =>
      (repeat' (first | refine awp_seq ?_ | (refine awp_skip ?_; simp only [ak, reduceIte]) | (refine awp_cond ?_; simp []) | (refine w_e [] ?_; intro J hJ; simp only []; simp []; (refine hJ _ _ ?_; clear hJ J; simp only [ak, reduceIte]))))
      exact hJO _ _ (by simp [fi]) (by simp [fn]) ⟨by simp [f4], by simp [f5], by simp [f9], by simp [f36], hG, hG2, hkp, hno2 fun h => absurd (hok.2 h) (by simp)⟩
  · rintro fr s ⟨f4, f5, f9, f36, hG, hG2, hkp, hno⟩
    (repeat' (first | refine awp_seq ?_ | (refine awp_ret ?_; simp only [ak, reduceIte]; simp []) | (refine w_e [] ?_; intro J hJ; simp only []; simp []; (refine hJ _ _ ?_; clear hJ J; simp only [ak, reduceIte]))))
    have hfin : ∀ d ∈ Y, ¬ LaidTo a b p d := fun d hd h => by
      obtain ⟨k1, k2⟩ := idx_lt hd
      exact absurd (by rw [k2]; exact h) (hno _ k1)
    first
      | exact ⟨hfin, hkp⟩
      | trace_state
theorem rPart (a b : Mp) (ha : MapOk a) (hb : MapOk b) (x y : List Int) (t t' : Nat) (st : St) (hva : a.g.vs.length ≤ 100) (hea : a.g.es.length ≤ 100) (hvb : b.g.vs.length ≤ 100) (heb : b.g.es.length ≤ 100) {v w : Int} (hx : IsPart a.g v x) (hy : IsPart b.g w y) :
    ACalls Tryz.prog 114 [.ag (mpL a), .ag (mpL b), .sl t x.length (us x), .sl t' y.length (us y)] st fun r st' => (∃ ok : Bool, r = bb ok ∧ (ok = true ↔ PartEq a b x y)) ∧ st' = st :=
  acalls_tidy (rPartK a b ha hb x y t t' st hva hea hvb heb hx hy) fun r h => by
    obtain ⟨ok, rfl, _⟩ := h
    trivial

end Go.Proofs.YtlnefdmdabhobaaGreat.Aw

namespace Go.Proofs.YtlnefdmdabhobaaGreat.Aw
open Go Go.RowKit Go.Proofs.YtlnefdmdabhobaaGreat.Pl Go.Proofs.YtlnefdmdabhobaaGreat.Eu
set_option linter.unusedSimpArgs false
set_option linter.unusedVariables false

def sel : List (List Int) → List Bool → List (List Int)
  | x :: l, true :: t => x :: sel l t
  | _ :: l, false :: t => sel l t
  | _, _ => []
theorem sel_rep (l : List (List Int)) (n : Nat) : sel l (List.replicate n false) = [] := by
  induction l generalizing n with
  | nil => cases n <;> rfl
  | cons x l ih =>
    cases n with
    | zero => rfl
    | succ n => rw [List.replicate_succ]; exact ih n
theorem sel_sub (l : List (List Int)) (t : List Bool) : (sel l t).Sublist l := by
  induction l generalizing t with
  | nil => cases t <;> exact List.nil_sublist _
  | cons x l ih =>
    match t with
    | [] => exact List.nil_sublist _
    | true :: t => exact (ih t).cons_cons _
    | false :: t => exact (ih t).cons _
theorem sel_set (l : List (List Int)) (t : List Bool) (k : Nat) (hk : k < l.length) (hl : t.length = l.length) (ht : t.getD k true = false) : (sel l (t.set k true)).Perm (l.getD k [] :: sel l t) := by
  induction l generalizing t k with
  | nil => simp at hk
  | cons x l ih =>
    match t, k with
    | [], _ => simp at hl
    | b :: t, 0 =>
      have hb : b = false := by simpa using ht
      subst hb
      exact .refl _
    | true :: t, k + 1 =>
      have := ih t k (by simpa using hk) (by simpa using hl) (by simpa using ht)
      exact (this.cons x).trans (.swap _ _ _)
    | false :: t, k + 1 => exact ih t k (by simpa using hk) (by simpa using hl) (by simpa using ht)
theorem sel_count (l : List (List Int)) (t : List Bool) (x : List Int) (hl : t.length = l.length) (h : ∀ k, k < l.length → t.getD k true = false → l.getD k [] ≠ x) : l.count x ≤ (sel l t).count x := by
  induction l generalizing t with
  | nil => simp
  | cons y l ih =>
    match t with
    | [] => simp at hl
    | true :: t =>
      have := ih t (by simpa using hl) fun k hk h1 => h (k + 1) (by simpa using hk) (by simpa using h1)
      rw [sel, List.count_cons, List.count_cons]; omega
    | false :: t =>
      have := ih t (by simpa using hl) fun k hk h1 => h (k + 1) (by simpa using hk) (by simpa using h1)
      have h0 : y ≠ x := h 0 (by simp) rfl
      rw [sel, List.count_cons, if_neg (by simpa using h0)]; exact this
/-- After the first j parts are paired; with the next one paired (done), or no partner below k. -/
def PkI (KA KB : List (List Int)) (j k : Nat) (dn : Bool) (tk : List Bool) : Prop :=
  tk.length = KB.length ∧ (dn = true → (KA.take (j + 1)).Perm (sel KB tk)) ∧ (dn = false → (KA.take j).Perm (sel KB tk) ∧ ∀ i, i < k → tk.getD i true = false → KB.getD i [] ≠ KA.getD j [])
theorem take_one {KA : List (List Int)} {j : Nat} (hj : j < KA.length) : KA.take (j + 1) = KA.take j ++ [KA.getD j []] := by
  rw [List.take_succ_eq_append_getElem hj, List.getD_eq_getElem?_getD, List.getElem?_eq_getElem hj]; rfl
theorem PkI.none {KA KB : List (List Int)} {j : Nat} {tk : List Bool} (h : PkI KA KB j KB.length false tk) (hj : j < KA.length) : ¬ KA.Perm KB := fun hp => by
  obtain ⟨h1, _, h2⟩ := h
  obtain ⟨h3, h4⟩ := h2 rfl
  have c1 := sel_count KB tk (KA.getD j []) h1 h4
  have c2 := hp.count_eq (KA.getD j [])
  have c3 := h3.count_eq (KA.getD j [])
  have c4 := (List.take_sublist (j + 1) KA).count_le (KA.getD j [])
  rw [take_one hj, List.count_append, List.count_singleton_self] at c4
  omega
theorem PkI.all {KA KB : List (List Int)} {tk : List Bool} (hl : KA.length = KB.length) (h : (KA.take KA.length).Perm (sel KB tk)) : KA.Perm KB := by
  rw [List.take_length] at h
  have := (sel_sub KB tk).eq_of_length (by rw [← h.length_eq]; exact hl)
  rwa [this] at h
theorem PkI.hit {KA KB : List (List Int)} {j k : Nat} {tk : List Bool} (h : PkI KA KB j k false tk) (hj : j < KA.length) (hk : k < KB.length) (ht : tk.getD k true = false) (e : KB.getD k [] = KA.getD j []) : PkI KA KB j (k + 1) true (tk.set k true) := by
  obtain ⟨h1, _, h2⟩ := h
  refine ⟨by rw [List.length_set]; exact h1, fun _ => ?_, fun h => absurd h (by simp)⟩
  rw [take_one hj, ← e]
  exact ((List.perm_append_singleton _ _).trans ((h2 rfl).1.cons _)).trans (sel_set KB tk k hk h1 ht).symm
theorem PkI.miss {KA KB : List (List Int)} {j k : Nat} {tk : List Bool} (h : PkI KA KB j k false tk) (ht : tk.getD k true = false → KB.getD k [] ≠ KA.getD j []) : PkI KA KB j (k + 1) false tk := by
  obtain ⟨h1, _, h2⟩ := h
  refine ⟨h1, fun h => absurd h (by simp), fun _ => ⟨(h2 rfl).1, fun i hi => ?_⟩⟩
  by_cases ei : i = k
  · subst ei; exact ht
  · exact (h2 rfl).2 i (by omega)
theorem PkI.skip {KA KB : List (List Int)} {j k : Nat} {tk : List Bool} (h : PkI KA KB j k true tk) : PkI KA KB j (k + 1) true tk := ⟨h.1, h.2.1, fun h => absurd h (by simp)⟩

theorem belL_us (n : Nat) : ∀ l : List Int, belL n (us l) := fun l => by
  induction l with
  | nil => simp only [us, List.map_nil, belL]
  | cons x l ih => simp only [us, List.map_cons, belL]; exact ⟨trivial, ih⟩
theorem belL_rows3 (n : Nat) : ∀ R : List (List Int), belL n (rowsL3 R) := fun R => by
  induction R with
  | nil => simp only [rowsL3, List.map_nil, belL]
  | cons x l ih => simp only [rowsL3, List.map_cons, belL]; exact ⟨⟨.inl rfl, belL_us _ _⟩, ih⟩
theorem rParts (g : Gr) (st : St) (hg : Good g) (hv : g.vs.length ≤ 1000) (he : g.es.length ≤ 1000) :
    ACalls Tryz.prog 21 [.ag (grL g)] st fun r st' => (∃ R, r = .sl 0 R.length (rowsL3 R) ∧ PartsTo g g.vs.length R) ∧ st' = st := by
  refine acalls_tidy (Q := fun r => ∃ R, r = .sl 0 R.length (rowsL3 R) ∧ PartsTo g g.vs.length R) (acalls_z0 ((ref_Parts g st hg hv he).mono ?_)) ?_
  · rintro r s ⟨⟨t, R, rfl, h⟩, hk⟩
    refine ⟨⟨R, ?_, h⟩, hk⟩
    have : z0L (rowsL3 R) = rowsL3 R := by
      clear h
      induction R with
      | nil => rfl
      | cons x l ih => simp [rowsL3, z0, z0L_map]
    simp only [z0, this]
  · rintro r ⟨R, rfl, _⟩
    exact ⟨.inl rfl, belL_rows3 _ _⟩

def bbs (t : List Bool) : List LV := t.map bb
theorem zerosL_bb (n : Nat) : zerosL [bb false] n = bbs (List.replicate n false) := by
  induction n with
  | zero => rfl
  | succ n ih => rw [zerosL, ih, List.replicate_succ]; rfl
theorem bbs_drop (t : List Bool) (k : Nat) (hk : k < t.length) : (bbs t).drop k = bb (t.getD k true) :: bbs (t.drop (k + 1)) := by
  rw [bbs, bbs, ← List.map_drop, List.drop_eq_getElem_cons hk, List.map_cons, List.getD_eq_getElem?_getD, List.getElem?_eq_getElem hk]; rfl
theorem bbs_set (t : List Bool) (k : Nat) (hk : k < t.length) : (bbs t).take k ++ bb true :: (bbs t).drop (k + 1) = bbs (t.set k true) := by
  rw [bbs, bbs, ← List.map_take, ← List.map_drop, List.set_eq_take_append_cons_drop, if_pos hk]; simp

theorem bbs_len (t : List Bool) : (bbs t).length = t.length := by simp [bbs]

set_option maxHeartbeats 8000000 in
theorem rSame (a b : Mp) (ha : MapOk a) (hb : MapOk b) (st : St) (hva : a.g.vs.length ≤ 100) (hea : a.g.es.length ≤ 100) (hvb : b.g.vs.length ≤ 100) (heb : b.g.es.length ≤ 100) {c c' : List Int} (hc : IsCode a c) (hc' : IsCode b c') :
    ACalls Tryz.prog 53 [.ag (mpL a), .ag (mpL b)] st fun r st' => r = bb (decide (c = c')) ∧ Keeps st st' := by
  have hQ : ∀ A B, PartsTo a.g a.g.vs.length A → PartsTo b.g b.g.vs.length B → (c = c' ↔ (A.map (keyW a)).Perm (B.map (keyW b))) := fun A B hA hB => code_iff hc hc' hA hB
  have hT : c = c' → decide (c = c') = true := fun h => by simpa using h
  have hF : ¬ c = c' → decide (c = c') = false := fun h => by simpa using h
  generalize decide (c = c') = dd at *
  generalize (c = c') = PP at *
  clear hc hc'
  refine acalls_of_body tabOk Tryz.func53 rfl rfl Tryz.ntmps53 (rs := [.tmp 4]) rfl (by simp) ?_
  refine awp_posG fun hpos => ?_
  (repeat' (first | refine awp_seq ?_ | (refine w_e [] ?_; intro J hJ; simp only []; simp []; (refine hJ _ _ ?_; clear hJ J; simp only [ak, reduceIte]))))
  (refine w_s [] [st.next, st.next + 1] [(0, true), (1, true), (3, true), (4, true), (2, true), (5, true), (6, true), (7, true)] ?_; intro J hJ; simp [])
  refine dcallK_ofE (rParts a.g _ ha.g.toGood (by omega) (by omega)) (by simp) ?_; rintro r s1 ⟨⟨A, rfl, hA⟩, h1⟩
  rw [h1]; clear h1 s1
  refine ⟨fun h => by first | (cases h; done) | simp, ?_⟩
  (refine d_go ?_; simp [])
  refine dcallK_ofE (rParts b.g _ hb.g.toGood (by omega) (by omega)) (by simp) ?_; rintro r s1 ⟨⟨B, rfl, hB⟩, h1⟩
  rw [h1]; clear h1 s1
  refine ⟨fun h => by first | (cases h; done) | simp, ?_⟩
  (refine d_go ?_; simp []; (refine hJ _ _ ?_; clear hJ J; simp only [ak, reduceIte]))
  have hQ' := hQ A B hA hB
  have hK1 := (Keeps.new st (.box 28 3 (mpL a))).trans (Keeps.new _ (.box 28 3 (mpL b)))
  have hBl : B.length ≤ b.g.vs.length := hB.len
  by_cases hl : A.length = B.length
  rotate_left
  · have hl' : ¬ (A.length : Int) = B.length := by omega
    have hb1 : ((A.length : Int) != B.length) = true := by simpa using hl'
    obtain rfl := hF fun e => hl (by simpa using ((hQ'.1 e).length_eq))
    (repeat' (first | refine awp_seq ?_ | (refine awp_ret ?_; simp only [ak, reduceIte]; simp [hl', hl, hb1]) | (refine awp_cond ?_; simp [hl', hl, hb1]) | (refine w_e [] ?_; intro J hJ; simp only []; simp [hl', hl, hb1]; (refine hJ _ _ ?_; clear hJ J; simp only [ak, reduceIte]))))
    exact hK1
  have hkey : ∀ j, j < A.length → ∀ k, k < B.length → ((B.map (keyW b)).getD k [] = (A.map (keyW a)).getD j [] ↔ PartEq a b (A.getD j []) (B.getD k [])) := fun j hj k hk => by
    have e1 : (B.map (keyW b)).getD k [] = keyW b (B.getD k []) := by simp [List.getD_eq_getElem?_getD, hk]
    have e2 : (A.map (keyW a)).getD j [] = keyW a (A.getD j []) := by simp [List.getD_eq_getElem?_getD, hj]
    have m1 : A.getD j [] ∈ A := by simp [List.getD_eq_getElem?_getD, hj]
    have m2 : B.getD k [] ∈ B := by simp [List.getD_eq_getElem?_getD, hk]
    obtain ⟨v, hv, hx⟩ := parts_mem hA _ m1
    obtain ⟨w, hw, hy⟩ := parts_mem hB _ m2
    rw [e1, e2, eq_comm]
    exact key_part ha hb hv hw hx hy
  have hpa : ∀ j, j < A.length → ∃ v, IsPart a.g v (A.getD j []) := fun j hj => by
    obtain ⟨v, _, hx⟩ := parts_mem hA (A.getD j []) (by simp [List.getD_eq_getElem?_getD, hj])
    exact ⟨v, hx⟩
  have hpb : ∀ j, j < B.length → ∃ v, IsPart b.g v (B.getD j []) := fun j hj => by
    obtain ⟨v, _, hx⟩ := parts_mem hB (B.getD j []) (by simp [List.getD_eq_getElem?_getD, hj])
    exact ⟨v, hx⟩
  have hKA : (A.map (keyW a)).length = A.length := List.length_map _
  have hKB : (B.map (keyW b)).length = B.length := List.length_map _
  generalize A.map (keyW a) = KA at *
  generalize B.map (keyW b) = KB at *
  have hzz := zerosL_bb B.length
  have hll : (A.length : Int) = B.length := by omega
  clear hQ hA hB
  (repeat' (first | refine awp_seq ?_ | refine awp_block ?_ | (refine awp_skip ?_; simp only [ak, reduceIte]) | (refine awp_cond ?_; simp [hl, hll, hzz]) | (refine w_e [] ?_; intro J hJ; simp only []; simp [hl, hll, hzz]; (repeat refine ca ?_); (refine hJ _ _ ?_; clear hJ J; simp only [ak, reduceIte]))))
  refine awp_range 29 28 30 62 (B.length) (fun j fr st2 => fr 2 = .pt st.next 0 ∧ fr 3 = .pt (st.next + 1) 0 ∧ fr 6 = .sl 0 B.length (rowsL3 B) ∧ fr 7 = .ms (st.next + 2) 0 B.length ∧ fr 27 = .sl 0 B.length (rowsL3 A) ∧ st2.H st.next = .box 28 3 (mpL a) ∧ st2.H (st.next + 1) = .box 28 3 (mpL b) ∧ st.next + 2 < st2.next ∧ Keeps st st2 ∧ ∃ tk : List Bool, st2.H (st.next + 2) = .box 4 1 (bbs tk) ∧ tk.length = B.length ∧ (KA.take j).Perm (sel KB tk)) ?_ ?_ ?_
  · refine ⟨by simp, by simp, by simp, by simp, by simp [hl], by simp, by simp, by simp, hK1.trans (Keeps.new _ _), List.replicate B.length false, by simp, by simp, ?_⟩
    rw [sel_rep]; simp
  · rintro jo fr s hlt ⟨f2, f3, f6, f7, f27, hG, hG2, hsn, hkp, tk, hH, htl, hpm⟩ fi fn JO hJO
    have hlA : jo < A.length := by omega
    have hd := rows3_dropA A jo hlA
    obtain ⟨v, hx⟩ := hpa jo hlA
    have hky := hkey jo hlA
    have hxlen := part_len hx
    generalize A.getD jo [] = x at *
    (repeat' (first | refine awp_seq ?_ | refine awp_block ?_ | (refine w_e [] ?_; intro J hJ; simp only []; simp [f27, f6, fi, fn, hd, hlt]; (repeat refine ca ?_); (refine hJ _ _ ?_; clear hJ J; simp only [ak, reduceIte]))))
    refine awp_range 35 34 36 59 (B.length) (fun j fr st2 => fr 2 = .pt st.next 0 ∧ fr 3 = .pt (st.next + 1) 0 ∧ fr 6 = .sl 0 B.length (rowsL3 B) ∧ fr 7 = .ms (st.next + 2) 0 B.length ∧ fr 9 = .sl 0 x.length (us x) ∧ fr 27 = .sl 0 B.length (rowsL3 A) ∧ fr 28 = i B.length ∧ fr 29 = i jo ∧ fr 33 = .sl 0 B.length (rowsL3 B) ∧ st2.H st.next = .box 28 3 (mpL a) ∧ st2.H (st.next + 1) = .box 28 3 (mpL b) ∧ st.next + 2 < st2.next ∧ Keeps st st2 ∧ ∃ (dn : Bool) (tk : List Bool), fr 10 = bb dn ∧ st2.H (st.next + 2) = .box 4 1 (bbs tk) ∧ PkI KA KB jo j dn tk) ?_ ?_ ?_
    · exact ⟨by simp [f2], by simp [f3], by simp [f6], by simp [f7], by simp, by simp [f27], by simp [fn], by simp [fi], by simp [f6], hG, hG2, hsn, hkp, false, tk, by simp, hH, by omega, fun h => absurd h (by simp), fun _ => ⟨hpm, fun i hi => by omega⟩⟩
    · clear f2 f3 f6 f7 f27 fi fn hG hG2 hsn hkp hH htl hpm hd tk
      clear hJO
      rintro k fr s hlk ⟨f2, f3, f6, f7, f9, f27, f28, f29, f33, hG, hG2, hsn, hkp, dn, tk, f10, hH, hI⟩ fi fn JI hJI
      have hd := rows3_dropA B k hlk
      obtain ⟨w, hy⟩ := hpb k hlk
      have hky := hky k hlk
      have hylen := part_len hy
      have htl : tk.length = B.length := hI.1.trans hKB
      have hbl : (bbs tk).length = B.length := (bbs_len tk).trans htl
      have hdt := bbs_drop tk k (by omega)
      have hset := bbs_set tk k (by omega)
      generalize B.getD k [] = y at *
      cases dn with
      | true =>
        (repeat' (first | refine awp_seq ?_ | (refine awp_skip ?_; simp only [ak, reduceIte]) | (refine awp_cond ?_; simp [f33, fi, fn, hd, hlk, f10]) | (refine w_e [] ?_; intro J hJ; simp only []; simp [f33, fi, fn, hd, hlk, f10]; (refine hJ _ _ ?_; clear hJ J; simp only [ak, reduceIte]))))
        exact hJI _ _ (by simp [fi]) (by simp [fn]) ⟨by simp [f2], by simp [f3], by simp [f6], by simp [f7], by simp [f9], by simp [f27], by simp [f28], by simp [f29], by simp [f33], hG, hG2, hsn, hkp, true, tk, by simp [f10], hH, hI.skip⟩
      | false =>
        cases hbt : tk.getD k true with
        | true =>
          rw [hbt] at hdt
          (repeat' (first | refine awp_seq ?_ | (refine awp_skip ?_; simp only [ak, reduceIte]) | (refine awp_cond ?_; simp [f33, fi, fn, hd, hlk, f10, f7, hH, hdt, hbl]) | (refine w_e [] ?_; intro J hJ; simp only []; simp [f33, fi, fn, hd, hlk, f10, f7, hH, hdt, hbl]; (refine hJ _ _ ?_; clear hJ J; simp only [ak, reduceIte]))))
          exact hJI _ _ (by simp [fi]) (by simp [fn]) ⟨by simp [f2], by simp [f3], by simp [f6], by simp [f7], by simp [f9], by simp [f27], by simp [f28], by simp [f29], by simp [f33], hG, hG2, hsn, hkp, false, tk, by simp [f10], hH, hI.miss fun h => absurd (hbt.symm.trans h) (by simp)⟩
        | false =>
          rw [hbt] at hdt
          (repeat' (first | refine awp_seq ?_ | (refine w_e [] ?_; intro J hJ; simp only []; simp [f33, fi, fn, hd, hlk, f10, f7, hH, hdt, hbl, f2, f3, f9, hG, hG2]; (try (refine hJ _ _ ?_; clear hJ J; simp only [ak, reduceIte])))))
          refine callK_ofE (rPart a b ha hb x y 0 0 _ (by omega) (by omega) (by omega) (by omega) hx hy) (by simp) ?_; rintro r s1 ⟨⟨ok, rfl, hok⟩, h1⟩
          rw [h1]; clear h1 s1
          cases ok with
          | true =>
            have hky2 := hky.2 (hok.1 rfl)
            (repeat' (first | refine awp_seq ?_ | (refine awp_cond ?_; simp [f7, hH, hbl, hlk, hset]) | ((first | (refine w_e [] ?_; intro J hJ; simp only []) | (refine e_go ?_)); simp [f7, hH, hbl, hlk, hset]; (repeat refine ca ?_); (refine hJ _ _ ?_; clear hJ J; simp only [ak, reduceIte]))))
            exact hJI _ _ (by simp [fi]) (by simp [fn]) ⟨by simp [f2], by simp [f3], by simp [f6], by simp [f7], by simp [f9], by simp [f27], by simp [f28], by simp [f29], by simp [f33], by simp [hG], by simp [hG2], by simpa using hsn, hkp.set (by omega) _, true, tk.set k true, by simp, by simp, hI.hit (by omega) (by omega) hbt hky2⟩
          | false =>
            (repeat' (first | (refine awp_skip ?_; simp only [ak, reduceIte]) | (refine awp_cond ?_; simp [f10]) | (refine e_go ?_; simp [f10]; (refine hJ _ _ ?_; clear hJ J; simp only [ak, reduceIte]))))
            exact hJI _ _ (by simp [fi]) (by simp [fn]) ⟨by simp [f2], by simp [f3], by simp [f6], by simp [f7], by simp [f9], by simp [f27], by simp [f28], by simp [f29], by simp [f33], hG, hG2, hsn, hkp, false, tk, by simp [f10], hH, hI.miss fun _ h => absurd (hok.2 (hky.1 h)) (by simp)⟩
    · clear f2 f3 f6 f7 f27 fi fn hG hG2 hsn hkp hH htl hpm tk
      rintro fr s ⟨f2, f3, f6, f7, f9, f27, f28, f29, f33, hG, hG2, hsn, hkp, dn, tk, f10, hH, hI⟩
      cases dn with
      | true =>
        (repeat' (first | refine awp_seq ?_ | (refine awp_skip ?_; simp only [ak, reduceIte]) | (refine awp_cond ?_; simp [f10]) | (refine w_e [] ?_; intro J hJ; simp only []; simp [f10]; (refine hJ _ _ ?_; clear hJ J; simp only [ak, reduceIte]))))
        exact hJO _ _ (by simp [f29]) (by simp [f28]) ⟨by simp [f2], by simp [f3], by simp [f6], by simp [f7], by simp [f27], hG, hG2, hsn, hkp, tk, hH, hI.1.trans hKB, hI.2.1 rfl⟩
      | false =>
        rw [← hKB] at hI
        obtain rfl := hF fun e => hI.none (by omega) (hQ'.1 e)
        (repeat' (first | refine awp_seq ?_ | (refine awp_ret ?_; simp only [ak, reduceIte]; simp [f10]) | (refine awp_cond ?_; simp [f10]) | (refine w_e [] ?_; intro J hJ; simp only []; simp [f10]; (refine hJ _ _ ?_; clear hJ J; simp only [ak, reduceIte]))))
        exact hkp
  · rintro fr s ⟨f2, f3, f6, f7, f27, hG, hG2, hsn, hkp, tk, hH, htl, hpm⟩
    rw [← hl, ← hKA] at hpm
    obtain rfl := hT (hQ'.2 (PkI.all (by omega) hpm))
    (repeat' (first | refine awp_seq ?_ | (refine awp_ret ?_; simp only [ak, reduceIte]; simp []) | (refine w_e [] ?_; intro J hJ; simp only []; simp []; (refine hJ _ _ ?_; clear hJ J; simp only [ak, reduceIte]))))
    exact hkp

end Go.Proofs.YtlnefdmdabhobaaGreat.Aw

namespace Go.Proofs.YtlnefdmdabhobaaGreat.Aw
open Go Go.RowKit Go.Proofs.YtlnefdmdabhobaaGreat.Pl Go.Proofs.YtlnefdmdabhobaaGreat.Eu
set_option linter.unusedSimpArgs false
set_option linter.unusedVariables false

theorem parts_ex (g : Gr) (hg : Good g) : ∀ k, k ≤ g.vs.length → ∃ R, PartsTo g k R := fun k => by
  induction k with
  | zero => exact fun _ => ⟨[], .zero⟩
  | succ k ih =>
    intro hk
    obtain ⟨R, h⟩ := ih (by omega)
    by_cases hs : Seen g k (g.vs.getD k 0)
    · exact ⟨R, h.seen (by omega) hs⟩
    · classical
      refine ⟨R ++ [g.vs.filter fun u => decide (Reach g.es (g.vs.getD k 0) u)], h.lead (by omega) hs ⟨?_, fun u => ?_⟩⟩
      · exact hg.rise.sublist List.filter_sublist
      · rw [List.mem_filter, decide_eq_true_iff]
theorem code_ex (m : Mp) (ho : MapOk m) : ∃ c, IsCode m c := by
  obtain ⟨R, h⟩ := parts_ex m.g ho.g.toGood _ (Nat.le_refl _)
  have hp := List.mergeSort_perm (R.map fun x => withLen (keyW m x)) (fun a b => decide (lcmp a b ≤ 0))
  refine ⟨_, R, _, h, hp, ?_, rfl⟩
  refine (List.pairwise_mergeSort ?_ ?_ (R.map fun x => withLen (keyW m x))).imp fun {a b} h => by simpa [Lle] using h
  · intro a b c h1 h2
    simp only [decide_eq_true_iff] at h1 h2 ⊢
    by_cases e1 : lcmp a b = 0
    · rw [lcmp_eq e1]; exact h2
    · by_cases e2 : lcmp b c = 0
      · rw [← lcmp_eq e2]; exact h1
      · have := lcmp_trans (a := a) (b := b) (c := c) (by omega) (by omega); omega
  · intro a b
    have := lcmp_swap a b
    simp only [Bool.or_eq_true, decide_eq_true_iff]
    omega
theorem code_one {m : Mp} {c c' : List Int} (h : IsCode m c) (h' : IsCode m c') : c = c' := by
  obtain ⟨P, S, h1, h2⟩ := id h
  exact (code_iff h h' h1 h1).2 (.refl _)
theorem cCode' (m : Mp) (ho : MapOk m) (st : St) (hv : m.g.vs.length ≤ 100) (he : m.g.es.length ≤ 100) {c : List Int} (hc : IsCode m c) :
    ACalls Tryz.prog 56 [.ag (mpL m)] st fun r st' => r = .sl 0 c.length (us c) ∧ st' = st :=
  acalls_tidy (Q := fun r => r = .sl 0 c.length (us c)) ((cCode m ho st hv he).mono fun r s ⟨⟨c', h1, h2⟩, hk⟩ => ⟨by rw [h1, code_one h2 hc], hk⟩) fun r h => by
    subst h
    exact ⟨.inl rfl, belL_us _ _⟩
theorem light33' (m : Mp) (st : St) : ACalls Tryz.prog 48 [.ag (mpL m)] st fun r st' => r = bb (lit33 m) ∧ st' = st :=
  acalls_tidy (Q := fun r => r = bb (lit33 m)) (light33 m st) fun r h => by subst h; trivial
theorem rSame' (a b : Mp) (ha : MapOk a) (hb : MapOk b) (st : St) (hva : a.g.vs.length ≤ 100) (hea : a.g.es.length ≤ 100) (hvb : b.g.vs.length ≤ 100) (heb : b.g.es.length ≤ 100) {c c' : List Int} (hc : IsCode a c) (hc' : IsCode b c') :
    ACalls Tryz.prog 53 [.ag (mpL a), .ag (mpL b)] st fun r st' => r = bb (decide (c = c')) ∧ st' = st :=
  acalls_tidy (Q := fun r => r = bb (decide (c = c'))) (rSame a b ha hb st hva hea hvb heb hc hc') fun r h => by subst h; trivial

theorem flat_le {n : Nat} : ∀ S : List (List Int), (∀ s ∈ S, s.length ≤ n) → S.flatten.length ≤ S.length * n
  | [], _ => by simp
  | s :: S, h => by
    have h1 := flat_le S fun t ht => h t (List.mem_cons_of_mem _ ht)
    have h2 := h s (by simp)
    rw [List.flatten_cons, List.length_append, List.length_cons, Nat.succ_mul]; omega
theorem code_len {m : Mp} (ho : MapOk m) (hv : m.g.vs.length ≤ 100) (he : m.g.es.length ≤ 100) {c : List Int} (hc : IsCode m c) : c.length ≤ 100000 := by
  obtain ⟨P, S, h1, h2, _, rfl⟩ := hc
  have h3 := h1.len
  have h4 := h2.length_eq
  rw [List.length_map] at h4
  have h5 := flat_le (n := 402) S fun s hs => by
    obtain ⟨x, hx, rfl⟩ := List.mem_map.1 (h2.mem_iff.1 hs)
    have := keyW_len m ho x
    simp [withLen]; omega
  have h6 : S.length * 402 ≤ 100 * 402 := Nat.mul_le_mul_right _ (by omega)
  rw [List.length_cons]; omega

theorem cSameK (a b : Mp) (ha : MapOk a) (hb : MapOk b) (st : St) (hva : a.g.vs.length ≤ 100) (hea : a.g.es.length ≤ 100) (hvb : b.g.vs.length ≤ 100) (heb : b.g.es.length ≤ 100) {c c' : List Int} (hc : IsCode a c) (hc' : IsCode b c') :
    ACalls Tryz.prog 54 [.ag (mpL a), .ag (mpL b)] st fun r st' => r = bb (decide (c = c')) ∧ Keeps st st' := by
  have hl := code_len ha hva hea hc
  have hsm : small c := by unfold small; omega
  refine acalls_of_body tabOk Tryz.func54 rfl rfl Tryz.ntmps54 (rs := [.tmp 4]) rfl (by simp) ?_
  (repeat' (first | refine awp_seq ?_ | (refine w_e [] ?_; intro J hJ; simp only []; simp []; (refine hJ _ _ ?_; clear hJ J; simp only [ak, reduceIte]))))
  (refine w_s [] [st.next, st.next + 1] [(0, true), (2, true), (1, true), (3, true), (4, true), (5, true)] ?_; intro J hJ; simp [])
  refine dcallK_ofE (cCode' a ha _ (by omega) (by omega) hc) (by simp) ?_; rintro r s1 ⟨rfl, h1⟩
  rw [h1]; clear h1 s1
  refine ⟨fun h => by first | (cases h; done) | simp, ?_⟩
  (refine d_go ?_; simp [])
  refine dcallK_ofE (cCode' b hb _ (by omega) (by omega) hc') (by simp) ?_; rintro r s1 ⟨rfl, h1⟩
  rw [h1]; clear h1 s1
  refine ⟨fun h => by first | (cases h; done) | simp, ?_⟩
  (refine d_go ?_; simp [])
  refine dcallK_ofE (Equal c c' 0 0 _ hsm) (by simp) ?_; rintro r s1 ⟨rfl, h1⟩
  rw [h1]; clear h1 s1
  refine ⟨fun h => by first | (cases h; done) | simp, ?_⟩
  (refine d_go ?_; simp []; (refine hJ _ _ ?_; clear hJ J; simp only [ak, reduceIte]))
  (repeat' (refine awp_ret ?_; simp only [ak, reduceIte]; simp []))
  exact (Keeps.new _ _).trans (Keeps.new _ _)
theorem cSame (a b : Mp) (ha : MapOk a) (hb : MapOk b) (st : St) (hva : a.g.vs.length ≤ 100) (hea : a.g.es.length ≤ 100) (hvb : b.g.vs.length ≤ 100) (heb : b.g.es.length ≤ 100) {c c' : List Int} (hc : IsCode a c) (hc' : IsCode b c') :
    ACalls Tryz.prog 54 [.ag (mpL a), .ag (mpL b)] st fun r st' => r = bb (decide (c = c')) ∧ st' = st :=
  acalls_tidy (Q := fun r => r = bb (decide (c = c'))) (cSameK a b ha hb st hva hea hvb heb hc hc') fun r h => by subst h; trivial

end Go.Proofs.YtlnefdmdabhobaaGreat.Aw

namespace Go.Proofs.YtlnefdmdabhobaaGreat.Aw
open Go Go.RowKit Go.Proofs.YtlnefdmdabhobaaGreat.Pl Go.Proofs.YtlnefdmdabhobaaGreat.Eu
set_option linter.unusedSimpArgs false
set_option linter.unusedVariables false

theorem belL_eds (n : Nat) : ∀ l : List Ed, belL n (eds l) := fun l => by
  induction l with
  | nil => simp only [eds, List.flatMap_nil, belL]
  | cons x l ih => simp only [eds, List.flatMap_cons] at ih ⊢; exact ⟨trivial, trivial, trivial, ih⟩
theorem bel_grL (n : Nat) (g : Gr) : bel n (.ag (grL g)) := ⟨⟨.inl rfl, belL_us _ _⟩, ⟨.inl rfl, belL_eds _ _⟩, trivial⟩
theorem bel_mpL (n : Nat) (m : Mp) : bel n (.ag (mpL m)) := ⟨⟨.inl rfl, belL_us _ _⟩, ⟨.inl rfl, belL_eds _ _⟩, ⟨.inl rfl, belL_rows3 _ _⟩, trivial⟩
theorem z0L_rowsF (f : List Int → List Int) : ∀ R : List (List Int), z0L (R.map ((fun r => LV.sl 0 r.length (us r)) ∘ f)) = R.map ((fun r => LV.sl 0 r.length (us r)) ∘ f) := fun R => by
  induction R with
  | nil => rfl
  | cons x l ih => simp only [List.map_cons, z0L, z0, Function.comp_apply, z0_us] at ih ⊢; rw [ih]
theorem z0L_edsD (l : List Ed) : z0L (eds l) = eds l := by
  rw [z0L_map]
  induction l with
  | nil => rfl
  | cons e l ih => simp only [eds, List.flatMap_cons, List.map_append] at ih ⊢; rw [ih]; rfl
theorem z0L_rows (R : List (List Int)) : z0L (rowsL R) = rowsL R := z0L_rowsF id R
theorem copied' (g : Gr) (st : St) (hv : g.vs.length ≤ 1048576) (he : g.es.length ≤ 1048576) :
    ACalls Tryz.prog 119 [.ag (grL g)] st fun r st' => r = .ag (grL g) ∧ st' = st :=
  acalls_tidy (Q := fun r => r = .ag (grL g)) (copied g st hv he) fun r h => by subst h; exact bel_grL _ _
theorem dMirror' (l : List Int) (t : Nat) (st : St) (hl : small l) :
    ACalls Tryz.prog 120 [.sl t l.length (us l)] st fun r st' => r = .sl 0 l.length (us (nrm l.reverse)) ∧ st' = st :=
  acalls_tidy (Q := fun r => r = .sl 0 l.length (us (nrm l.reverse))) (Mirror l t st hl) fun r h => by subst h; exact ⟨.inl rfl, belL_us _ _⟩
theorem uClone' (l : List Int) (t : Nat) (st : St) (hl : small l) :
    ACalls Tryz.prog 105 [.sl t l.length (us l)] st fun r st' => r = .sl 0 l.length (us l) ∧ st' = st :=
  acalls_tidy (Q := fun r => r = .sl 0 l.length (us l)) (Clone l t st hl) fun r h => by subst h; exact ⟨.inl rfl, belL_us _ _⟩

theorem rMirrorK (m : Mp) (st : St) (hv : m.g.vs.length ≤ 1000) (he : m.g.es.length ≤ 1000) (hr : m.rots.length ≤ 1000) (hs : ∀ t ∈ m.rots, small t) :
    ACalls Tryz.prog 58 [.ag (mpL m)] st fun r st' => r = .ag (mpL ⟨m.g, m.rots.map fun t => nrm t.reverse⟩) ∧ Keeps st st' := by
  refine acalls_z0 ?_
  refine acalls_of_body tabOk Tryz.func58 rfl rfl Tryz.ntmps58 (rs := [.cell 2 28]) rfl (by simp) ?_
  refine awp_posG fun hpos => ?_
  (repeat' (first | refine awp_seq ?_ | (refine w_e [] ?_; intro J hJ; simp only []; simp []; (try (refine hJ _ _ ?_; clear hJ J; simp only [ak, reduceIte])))))
  refine callK_ofE (copied' m.g _ (by omega) (by omega)) (by simp) ?_; rintro r s1 ⟨rfl, h1⟩
  rw [h1]; clear h1 s1
  (repeat' (first | refine awp_seq ?_ | refine awp_block ?_ | ((first | (refine w_e [] ?_; intro J hJ; simp only []) | (refine e_go ?_)); simp []; (refine hJ _ _ ?_; clear hJ J; simp only [ak, reduceIte]))))
  refine awp_cell (st.next + 2) 22 1 (e := 28) (s := 3) (grL m.g) [] (by simp) ?_
  have hF : ∀ j, j < m.rots.length → rowsL ((m.rots.take (j + 1)).map fun t => nrm t.reverse) = rowsL ((m.rots.take j).map fun t => nrm t.reverse) ++ [.sl 0 (nrm (m.rots.getD j []).reverse).length (us (nrm (m.rots.getD j []).reverse))] := fun j hj => by
    rw [List.take_succ_eq_append_getElem hj, getR_lt _ _ hj]; simp only [rowsL, List.map_append, List.map_cons, List.map_nil]
  refine awp_range 13 12 14 24 (m.rots.length) (fun j fr st2 => fr 2 = .pt (st.next + 1) 0 ∧ fr 3 = .pt (st.next + 2) 0 ∧ fr 11 = .sl 0 m.rots.length (rowsL m.rots) ∧ Keeps st st2 ∧ st2.H (st.next + 1) = .box 28 3 [.nil, .nil, .nil] ∧ st.next + 2 < st2.next ∧ ∃ tt, st2.H (st.next + 2) = .box 28 3 (grL m.g ++ [.sl tt j (rowsL ((m.rots.take j).map fun t => nrm t.reverse))]) ∧ st2.H tt = .own 22 1 j ∧ st.next + 2 < tt ∧ tt < st2.next) ?_ ?_ ?_
  · refine ⟨by simp, by simp, by simp, ?_, by simp, by simp, st.next + 3, by simp, by simp, by omega, by simp⟩
    (repeat (first | exact Keeps.refl _ | (refine Keeps.trans ?_ (Keeps.new _ _)) | (refine Keeps.set ?_ (by first | omega | (simp; done) | (simp; omega)) _)))
  · rintro j fr s hlt ⟨f2, f3, f11, hkp, hR, hsn, tt, hB, hO, hlo, hhi⟩ fi fn JO hJO
    have hd := rowsL_drop m.rots j hlt
    have hFj := hF j hlt
    have hst := hs _ (show m.rots.getD j [] ∈ m.rots by rw [getR_lt _ _ hlt]; exact List.getElem_mem _)
    have hjl : (rowsL ((m.rots.take j).map fun t => nrm t.reverse)).length = j := by simp; omega
    simp only [hFj] at hJO
    generalize m.rots.getD j [] = t at *
    generalize rowsL ((m.rots.take j).map fun t => nrm t.reverse) = R at *
    (repeat' (first | refine awp_seq ?_ | (refine w_e [] ?_; intro J hJ; simp only []; simp [f11, fi, fn, hd, hlt]; (refine hJ _ _ ?_; clear hJ J; simp only [ak, reduceIte]))))
    (refine w_s [] [st.next + 2] [(0, true), (1, true), (2, true), (3, true), (4, true), (5, false), (6, true), (7, false)] ?_; intro J hJ; simp [f3, hB])
    refine dcallK_ofE (dMirror' t 0 _ hst) (by simp) ?_; rintro r s1 ⟨rfl, h1⟩
    rw [h1]; clear h1 s1
    refine ⟨fun h => by first | (cases h; done) | simp [hB], ?_⟩
    have e1 : ¬ tt = 0 := by omega
    have e2 : ¬ tt = s.next := by omega
    have e3 : ¬ st.next + 2 = tt := by omega
    have e4 : ¬ st.next + 2 = s.next := by omega
    have e5 : ¬ st.next + 2 = s.next + 1 := by omega
    (refine d_go ?_; simp [f3, hB, hO, e1, e2, e3, e4, e5, hjl]; (repeat refine ca ?_); (refine hJ _ _ ?_; clear hJ J; simp only [ak, reduceIte]))
    refine hJO _ _ (by simp [fi]) (by simp [fn]) ⟨by simp [f2], by simp [f3], by simp [f11], ?_, ?_, by simp; omega, s.next + 1, by simp [nrm_length], by simp [show ¬ s.next = st.next + 1 by omega], by omega, by simp⟩
    · (repeat (first | exact hkp | (refine Keeps.trans ?_ (Keeps.new _ _)) | (refine Keeps.set ?_ (by omega) _)))
    · simp [show ¬ st.next = s.next by omega, show ¬ st.next + 1 = tt by omega, show ¬ st.next + 1 = s.next by omega, hR]
  · rintro fr s ⟨f2, f3, f11, hkp, hR, hsn, tt, hB, hO, hlo, hhi⟩
    rw [List.take_length] at hB
    (repeat' (first | refine awp_seq ?_ | (refine awp_ret ?_; simp only [ak, reduceIte]; simp [f2, f3, hB, hR]) | (refine w_e [] ?_; intro J hJ; simp only []; simp [f2, f3, hB, hR]; (refine hJ _ _ ?_; clear hJ J; simp only [ak, reduceIte]))))
    refine ⟨?_, hkp.set (by omega) _⟩
    simp only [z0, z0L, z0_us, z0L_edsD]
    first | rw [z0L_rowsF] | rw [z0L_rows]

theorem rCloneK (m : Mp) (st : St) (hv : m.g.vs.length ≤ 1000) (he : m.g.es.length ≤ 1000) (hr : m.rots.length ≤ 1000) (hs : ∀ t ∈ m.rots, small t) :
    ACalls Tryz.prog 60 [.ag (mpL m)] st fun r st' => r = .ag (mpL ⟨m.g, m.rots.map fun t => t⟩) ∧ Keeps st st' := by
  refine acalls_z0 ?_
  refine acalls_of_body tabOk Tryz.func60 rfl rfl Tryz.ntmps60 (rs := [.cell 2 28]) rfl (by simp) ?_
  refine awp_posG fun hpos => ?_
  (repeat' (first | refine awp_seq ?_ | (refine w_e [] ?_; intro J hJ; simp only []; simp []; (try (refine hJ _ _ ?_; clear hJ J; simp only [ak, reduceIte])))))
  refine callK_ofE (copied' m.g _ (by omega) (by omega)) (by simp) ?_; rintro r s1 ⟨rfl, h1⟩
  rw [h1]; clear h1 s1
  (repeat' (first | refine awp_seq ?_ | refine awp_block ?_ | ((first | (refine w_e [] ?_; intro J hJ; simp only []) | (refine e_go ?_)); simp []; (refine hJ _ _ ?_; clear hJ J; simp only [ak, reduceIte]))))
  refine awp_cell (st.next + 2) 22 1 (e := 28) (s := 3) (grL m.g) [] (by simp) ?_
  have hF : ∀ j, j < m.rots.length → rowsL ((m.rots.take (j + 1)).map fun t => t) = rowsL ((m.rots.take j).map fun t => t) ++ [.sl 0 (m.rots.getD j []).length (us (m.rots.getD j []))] := fun j hj => by
    rw [List.take_succ_eq_append_getElem hj, getR_lt _ _ hj]; simp only [rowsL, List.map_append, List.map_cons, List.map_nil]
  refine awp_range 13 12 14 24 (m.rots.length) (fun j fr st2 => fr 2 = .pt (st.next + 1) 0 ∧ fr 3 = .pt (st.next + 2) 0 ∧ fr 11 = .sl 0 m.rots.length (rowsL m.rots) ∧ Keeps st st2 ∧ st2.H (st.next + 1) = .box 28 3 [.nil, .nil, .nil] ∧ st.next + 2 < st2.next ∧ ∃ tt, st2.H (st.next + 2) = .box 28 3 (grL m.g ++ [.sl tt j (rowsL ((m.rots.take j).map fun t => t))]) ∧ st2.H tt = .own 22 1 j ∧ st.next + 2 < tt ∧ tt < st2.next) ?_ ?_ ?_
  · refine ⟨by simp, by simp, by simp, ?_, by simp, by simp, st.next + 3, by simp, by simp, by omega, by simp⟩
    (repeat (first | exact Keeps.refl _ | (refine Keeps.trans ?_ (Keeps.new _ _)) | (refine Keeps.set ?_ (by first | omega | (simp; done) | (simp; omega)) _)))
  · rintro j fr s hlt ⟨f2, f3, f11, hkp, hR, hsn, tt, hB, hO, hlo, hhi⟩ fi fn JO hJO
    have hd := rowsL_drop m.rots j hlt
    have hFj := hF j hlt
    have hst := hs _ (show m.rots.getD j [] ∈ m.rots by rw [getR_lt _ _ hlt]; exact List.getElem_mem _)
    have hjl : (rowsL ((m.rots.take j).map fun t => t)).length = j := by simp; omega
    simp only [hFj] at hJO
    generalize m.rots.getD j [] = t at *
    generalize rowsL ((m.rots.take j).map fun t => t) = R at *
    (repeat' (first | refine awp_seq ?_ | (refine w_e [] ?_; intro J hJ; simp only []; simp [f11, fi, fn, hd, hlt]; (refine hJ _ _ ?_; clear hJ J; simp only [ak, reduceIte]))))
    (refine w_s [] [st.next + 2] [(0, true), (1, true), (2, true), (3, true), (4, true), (5, false), (6, true), (7, false)] ?_; intro J hJ; simp [f3, hB])
    refine dcallK_ofE (uClone' t 0 _ hst) (by simp) ?_; rintro r s1 ⟨rfl, h1⟩
    rw [h1]; clear h1 s1
    refine ⟨fun h => by first | (cases h; done) | simp [hB], ?_⟩
    have e1 : ¬ tt = 0 := by omega
    have e2 : ¬ tt = s.next := by omega
    have e3 : ¬ st.next + 2 = tt := by omega
    have e4 : ¬ st.next + 2 = s.next := by omega
    have e5 : ¬ st.next + 2 = s.next + 1 := by omega
    (refine d_go ?_; simp [f3, hB, hO, e1, e2, e3, e4, e5, hjl]; (repeat refine ca ?_); (refine hJ _ _ ?_; clear hJ J; simp only [ak, reduceIte]))
    refine hJO _ _ (by simp [fi]) (by simp [fn]) ⟨by simp [f2], by simp [f3], by simp [f11], ?_, ?_, by simp; omega, s.next + 1, by simp [nrm_length], by simp [show ¬ s.next = st.next + 1 by omega], by omega, by simp⟩
    · (repeat (first | exact hkp | (refine Keeps.trans ?_ (Keeps.new _ _)) | (refine Keeps.set ?_ (by omega) _)))
    · simp [show ¬ st.next = s.next by omega, show ¬ st.next + 1 = tt by omega, show ¬ st.next + 1 = s.next by omega, hR]
  · rintro fr s ⟨f2, f3, f11, hkp, hR, hsn, tt, hB, hO, hlo, hhi⟩
    rw [List.take_length] at hB
    (repeat' (first | refine awp_seq ?_ | (refine awp_ret ?_; simp only [ak, reduceIte]; simp [f2, f3, hB, hR]) | (refine w_e [] ?_; intro J hJ; simp only []; simp [f2, f3, hB, hR]; (refine hJ _ _ ?_; clear hJ J; simp only [ak, reduceIte]))))
    refine ⟨?_, hkp.set (by omega) _⟩
    simp only [z0, z0L, z0_us, z0L_edsD]
    first | rw [z0L_rowsF] | rw [z0L_rows]
theorem rMirror (m : Mp) (st : St) (hv : m.g.vs.length ≤ 1000) (he : m.g.es.length ≤ 1000) (hr : m.rots.length ≤ 1000) (hs : ∀ t ∈ m.rots, small t) :
    ACalls Tryz.prog 58 [.ag (mpL m)] st fun r st' => r = .ag (mpL ⟨m.g, m.rots.map fun t => nrm t.reverse⟩) ∧ st' = st :=
  acalls_tidy (Q := fun r => r = .ag (mpL ⟨m.g, m.rots.map fun t => nrm t.reverse⟩)) (rMirrorK m st hv he hr hs) fun r h => by subst h; exact bel_mpL _ _
theorem rClone (m : Mp) (st : St) (hv : m.g.vs.length ≤ 1000) (he : m.g.es.length ≤ 1000) (hr : m.rots.length ≤ 1000) (hs : ∀ t ∈ m.rots, small t) :
    ACalls Tryz.prog 60 [.ag (mpL m)] st fun r st' => r = .ag (mpL m) ∧ st' = st :=
  acalls_tidy (Q := fun r => r = .ag (mpL m)) ((rCloneK m st hv he hr hs).mono fun r s h => by simpa using h) fun r h => by subst h; exact bel_mpL _ _

end Go.Proofs.YtlnefdmdabhobaaGreat.Aw

namespace Go.Proofs.YtlnefdmdabhobaaGreat.Aw
open Go Go.RowKit Go.Proofs.YtlnefdmdabhobaaGreat.Pl Go.Proofs.YtlnefdmdabhobaaGreat.Eu
set_option linter.unusedSimpArgs false
set_option linter.unusedVariables false

def keptM (m : Mp) (I : List Int) : Mp := ⟨⟨m.g.vs, m.g.es.filter fun x => decide (x.id ∈ I)⟩, m.rots.map fun t => nrm (t.filter fun d => decide (d / 2 ∈ I))⟩
theorem filter_takeI (l : List Int) (p : Int → Bool) (k : Nat) (hk : k < l.length) : (l.take (k + 1)).filter p = if p (l.getD k 0) = true then (l.take k).filter p ++ [l.getD k 0] else (l.take k).filter p := by
  rw [List.take_succ_eq_append_getElem hk, List.filter_append, List.getD_eq_getElem?_getD, List.getElem?_eq_getElem hk]
  by_cases h : p l[k] = true <;> simp [h]
theorem refNormal' (l : List Int) (t : Nat) (st : St) (hl : small l) :
    ACalls Tryz.prog 76 [.sl t l.length (us l)] st fun r st' => r = .sl 0 l.length (us (nrm l)) ∧ st' = st :=
  acalls_tidy (Q := fun r => r = .sl 0 l.length (us (nrm l))) (ref_Normal l t st hl) fun r h => by subst h; exact ⟨.inl rfl, belL_us _ _⟩

set_option maxHeartbeats 8000000 in
theorem rKeepK (m : Mp) (I : List Int) (ti : Nat) (st : St) (hv : m.g.vs.length ≤ 1000) (he : m.g.es.length ≤ 1000) (hr : m.rots.length ≤ 1000) (hs : ∀ t ∈ m.rots, t.length ≤ 1000) (hI : small I) (hd0 : ∀ t ∈ m.rots, ∀ d ∈ t, 0 ≤ d ∧ d < 4294967296) :
    ACalls Tryz.prog 57 [.ag (mpL m), .sl ti I.length (us I)] st fun r st' => r = .ag (mpL (keptM m I)) ∧ Keeps st st' := by
  refine acalls_z0 ?_
  refine acalls_of_body tabOk Tryz.func57 rfl rfl Tryz.ntmps57 (rs := [.cell 4 28]) rfl (by simp) ?_
  refine awp_posG fun hpos => ?_
  (repeat (refine awp_seq ?_)); (refine w_e [] ?_; intro J hJ; simp only []; simp []; (refine hJ _ _ ?_; clear hJ J; simp only [ak, reduceIte]))
  (repeat (refine awp_seq ?_)); (refine w_e [] ?_; intro J hJ; simp only []; simp []; (refine hJ _ _ ?_; clear hJ J; simp only [ak, reduceIte]))
  refine awp_cell (st.next + 2) 48 1 (e := 28) (s := 3) [] [.nil, .nil] (by simp) ?_
  refine awp_cell (st.next + 2) 50 3 (e := 28) (s := 3) [.sl (st.next + 3) 0 []] [.nil] (by simp) ?_
  refine awp_cell (st.next + 2) 22 1 (e := 28) (s := 3) [.sl (st.next + 3) 0 [], .sl (st.next + 4) 0 []] [] (by simp) ?_
  have g1 : ¬ st.next = st.next + 1 + 1 := by omega
  have g2 : ¬ st.next = st.next + 3 := by omega
  have g3 : ¬ st.next = st.next + 2 := by omega
  have g4 : ¬ st.next = st.next + 1 + 1 + 1 + 1 + 1 + 1 := by omega
  have g5 : ¬ st.next = st.next + 1 + 1 + 1 + 1 + 1 := by omega
  have g6 : ¬ st.next = st.next + 1 + 1 + 1 + 1 := by omega
  have g7 : ¬ st.next = st.next + 1 + 1 + 1 := by omega
  have h1 : ¬ st.next + 1 + 1 = st.next + 3 := by omega
  (repeat' (first | refine awp_seq ?_ | refine awp_block ?_ | (refine w_e [] ?_; intro J hJ; simp only []; simp [g1, g2, g3, g4, g5, g6, g7]; (repeat refine ca ?_); (refine hJ _ _ ?_; clear hJ J; simp only [ak, reduceIte]))))
  refine awp_range 26 25 27 43 (m.g.es.length) (fun j fr st2 => fr 1 = .sl ti I.length (us I) ∧ fr 2 = .pt st.next 0 ∧ fr 4 = .pt (st.next + 1) 0 ∧ fr 5 = .pt (st.next + 2) 0 ∧ fr 24 = .sl 0 m.g.es.length (eds m.g.es) ∧ st2.H st.next = .box 28 3 (mpL m) ∧ st2.H (st.next + 1) = .box 28 3 [.nil, .nil, .nil] ∧ Keeps st st2 ∧ ∃ tv te tr, st2.H (st.next + 2) = .box 28 3 [.sl tv m.g.vs.length (us m.g.vs), .sl te ((m.g.es.take j).filter fun x => decide (x.id ∈ I)).length (eds ((m.g.es.take j).filter fun x => decide (x.id ∈ I))), .sl tr 0 []] ∧ st2.H te = .own 50 3 ((m.g.es.take j).filter fun x => decide (x.id ∈ I)).length ∧ st2.H tr = .own 22 1 0 ∧ te ≠ tr ∧ st.next + 2 < te ∧ st.next + 2 < tr ∧ te < st2.next ∧ tr < st2.next) ?_ ?_ ?_
  · refine ⟨by simp, by simp, by simp, by simp, by simp, by simp [g1, g2, g3, g4, g5, g6, g7], ?_, ?_, st.next + 6, st.next + 4, st.next + 5, by simp [eds], ?_, ?_, by omega, by omega, by omega, by simp, by simp⟩
    · simp
    · (repeat (first | exact Keeps.refl _ | (refine Keeps.trans ?_ (Keeps.new _ _)) | (refine Keeps.set ?_ (by first | omega | (simp; done) | (simp; omega)) _)))
    · simp
    · simp
  · rintro j fr s hlt ⟨f1, f2, f4, f5, f24, hG, hN, hkp, tv, te, tr, hB, hOe, hOr, hne, le, lr, ue, ur⟩ fi fn JO hJO
    have hd := eds_drop m.g.es j hlt
    have hel := eds_length m.g.es
    have hj3 : j * 3 < m.g.es.length * 3 := by omega
    have hst := filter_takeE m.g.es (fun x => decide (x.id ∈ I)) j hlt
    have hle := List.length_filter_le (fun x : Ed => decide (x.id ∈ I)) (m.g.es.take j)
    rw [List.length_take] at hle
    simp only [hst] at hJO
    clear hst
    generalize (m.g.es.take j).filter (fun x => decide (x.id ∈ I)) = F at *
    generalize m.g.es.getD j ed0 = x at *
    obtain ⟨d, a, b⟩ := x
    simp only at hd hJO
    have hFo : (eds F).length = F.length * 3 := eds_length F
    (repeat' (first | refine awp_seq ?_ | (refine w_e [] ?_; intro J hJ; simp only []; simp [f1, f24, fi, fn, hd, hlt, hel]; (try (refine hJ _ _ ?_; clear hJ J; simp only [ak, reduceIte])))))
    refine callK_ofE (Find I ti d _ hI) (by simp) ?_; rintro r s1 ⟨rfl, h1⟩
    rw [h1]; clear h1 s1
    have e1 : ¬ st.next + 2 = s.next := by omega
    have e2 : ¬ te = s.next := by omega
    have e3 : ¬ te = 0 := by omega
    have e4 : ¬ st.next + 2 = s.next + 1 := by omega
    have e5 : ¬ st.next + 2 = te := by omega
    have e6 : ¬ te = s.next + 1 := by omega
    have e7 : ¬ st.next = s.next := by omega
    have e8 : ¬ s.next = s.next + 1 := by omega
    by_cases hin : d ∈ I
    rotate_left
    · have hge : ¬ (0 : Int) ≤ gi I d := by have := (gi_neg I d).2 hin; omega
      have hge' : gi I d < 0 := (gi_neg I d).2 hin
      rw [if_neg (by simpa using hin)] at hJO
      generalize gi I d = gg at *
      (repeat' (first | (refine awp_skip ?_; simp only [ak, reduceIte]) | (refine awp_cond ?_; simp [hge, hge']) | (refine e_go ?_; simp [hge, hge']; (refine hJ _ _ ?_; clear hJ J; simp only [ak, reduceIte]))))
      refine hJO _ _ (by simp [fi]) (by simp [fn]) ⟨by simp [f1], by simp [f2], by simp [f4], by simp [f5], by simp [f24], by simp [e7, hG], by simp [show ¬ st.next + 1 = s.next by omega, hN], hkp.trans (Keeps.new _ _), tv, te, tr, by simp [e1, hB], by simp [e2, hOe], by simp [show ¬ tr = s.next by omega, hOr], hne, le, lr, by simp; omega, by simp; omega⟩
    · have hge : (0 : Int) ≤ gi I d := by have := (gi_neg I d).1; exact Int.not_lt.1 fun h => this h hin
      have hge' : ¬ gi I d < 0 := by omega
      rw [if_pos (by simpa using hin)] at hJO
      generalize gi I d = gg at *
      have hed : eds (F ++ [⟨d, a, b⟩]) = eds F ++ [u d, u a, u b] := by simp [eds]
      (repeat' (first | (refine awp_cond ?_; simp [hge, hge', f5, hB, hOe, e1, e2, e3, e4, e5, e6, e7, e8, hFo]) | ((first | (refine w_e [] ?_; intro J hJ; simp only []) | (refine e_go ?_)); simp [hge, hge', f5, hB, hOe, e1, e2, e3, e4, e5, e6, e7, e8, hFo]; (repeat refine ca ?_); (refine hJ _ _ ?_; clear hJ J; simp only [ak, reduceIte]))))
      refine hJO _ _ (by simp [fi]) (by simp [fn]) ⟨by simp [f1], by simp [f2], by simp [f4], by simp [f5], by simp [f24], by simp [e7, show ¬ st.next = s.next + 1 by omega, show ¬ st.next = s.next + 1 + 1 by omega, show ¬ st.next = te by omega, hG], by simp [show ¬ st.next + 1 = s.next by omega, e7, show ¬ st.next = s.next + 1 by omega, show ¬ st.next + 1 = te by omega, hN], ?_, tv, s.next + 1 + 1, tr, by simp [hed], by simp [show ¬ s.next = st.next by omega], by simp [show ¬ tr = s.next by omega, show ¬ tr = s.next + 1 by omega, show ¬ tr = s.next + 1 + 1 by omega, show ¬ tr = st.next + 2 by omega, show ¬ tr = te by omega, hOr], by omega, by omega, lr, by simp, by simp; omega⟩
      (repeat (first | exact hkp | (refine Keeps.trans ?_ (Keeps.new _ _)) | (refine Keeps.set ?_ (by omega) _)))
  clear g1 g2 g3 g4 g5 g6 g7 h1
  rintro fr s ⟨f1, f2, f4, f5, f24, hG, hN, hkp, tv, te, tr, hB, hOe, hOr, hne, le, lr, ue, ur⟩
  rw [List.take_length] at hB
  clear f24 hOe hne ue
  (repeat' (first | refine awp_seq ?_ | refine awp_block ?_ | (refine w_e [] ?_; intro J hJ; simp only []; simp [f2, hG]; (refine hJ _ _ ?_; clear hJ J; simp only [ak, reduceIte]))))
  have hF2 : ∀ j, j < m.rots.length → rowsL ((m.rots.take (j + 1)).map fun t => nrm (t.filter fun d => decide (d / 2 ∈ I))) = rowsL ((m.rots.take j).map fun t => nrm (t.filter fun d => decide (d / 2 ∈ I))) ++ [.sl 0 (nrm ((m.rots.getD j []).filter fun d => decide (d / 2 ∈ I))).length (us (nrm ((m.rots.getD j []).filter fun d => decide (d / 2 ∈ I))))] := fun j hj => by
    rw [List.take_succ_eq_append_getElem hj, getR_lt _ _ hj]; simp only [rowsL, List.map_append, List.map_cons, List.map_nil]
  refine awp_range 47 46 48 74 (m.rots.length) (fun j fr st2 => fr 1 = .sl ti I.length (us I) ∧ fr 2 = .pt st.next 0 ∧ fr 4 = .pt (st.next + 1) 0 ∧ fr 5 = .pt (st.next + 2) 0 ∧ fr 45 = .sl 0 m.rots.length (rowsL m.rots) ∧ st2.H st.next = .box 28 3 (mpL m) ∧ st2.H (st.next + 1) = .box 28 3 [.nil, .nil, .nil] ∧ Keeps st st2 ∧ ∃ tr, st2.H (st.next + 2) = .box 28 3 [.sl tv m.g.vs.length (us m.g.vs), .sl te (m.g.es.filter fun x => decide (x.id ∈ I)).length (eds (m.g.es.filter fun x => decide (x.id ∈ I))), .sl tr j (rowsL ((m.rots.take j).map fun t => nrm (t.filter fun d => decide (d / 2 ∈ I))))] ∧ st2.H tr = .own 22 1 j ∧ st.next + 2 < tr ∧ tr < st2.next) ?_ ?_ ?_
  · exact ⟨by simp [f1], by simp [f2], by simp [f4], by simp [f5], by simp, hG, hN, hkp, tr, by simpa using hB, hOr, lr, ur⟩
  · clear f1 f2 f4 f5 hG hN hkp hB hOr lr ur tr s fr
    rintro jo fr s hlt ⟨f1, f2, f4, f5, f45, hG, hN, hkp, tr, hB, hOr, lr, ur⟩ fi fn JO hJO
    have hd := rowsL_drop m.rots jo hlt
    have hFj := hF2 jo hlt
    have hmem : m.rots.getD jo [] ∈ m.rots := by rw [getR_lt _ _ hlt]; exact List.getElem_mem _
    have htl := hs _ hmem
    have ht0 := hd0 _ hmem
    have hjl : (rowsL ((m.rots.take jo).map fun t => nrm (t.filter fun d => decide (d / 2 ∈ I)))).length = jo := by simp; omega
    simp only [hFj] at hJO
    generalize m.rots.getD jo [] = t at *
    generalize rowsL ((m.rots.take jo).map fun t => nrm (t.filter fun d => decide (d / 2 ∈ I))) = R at *
    generalize m.g.es.filter (fun x => decide (x.id ∈ I)) = EF at *
    (repeat' (first | refine awp_seq ?_ | refine awp_block ?_ | (refine w_e [] ?_; intro J hJ; simp only []; simp [f45, fi, fn, hd, hlt]; (refine hJ _ _ ?_; clear hJ J; simp only [ak, reduceIte]))))
    refine awp_own 10 48 1 (by simp) ?_
    refine awp_range 53 52 54 66 (t.length) (fun j fr st2 => fr 1 = .sl ti I.length (us I) ∧ fr 2 = .pt st.next 0 ∧ fr 4 = .pt (st.next + 1) 0 ∧ fr 5 = .pt (st.next + 2) 0 ∧ fr 45 = .sl 0 m.rots.length (rowsL m.rots) ∧ fr 46 = i m.rots.length ∧ fr 47 = i jo ∧ fr 51 = .sl 0 t.length (us t) ∧ st2.H st.next = .box 28 3 (mpL m) ∧ st2.H (st.next + 1) = .box 28 3 [.nil, .nil, .nil] ∧ Keeps st st2 ∧ st2.H (st.next + 2) = .box 28 3 [.sl tv m.g.vs.length (us m.g.vs), .sl te EF.length (eds EF), .sl tr jo R] ∧ st2.H tr = .own 22 1 jo ∧ tr < st2.next ∧ ∃ tt, fr 10 = .sl tt ((t.take j).filter fun d => decide (d / 2 ∈ I)).length (us ((t.take j).filter fun d => decide (d / 2 ∈ I))) ∧ st2.H tt = .own 48 1 ((t.take j).filter fun d => decide (d / 2 ∈ I)).length ∧ st.next + 2 < tt ∧ tt < st2.next ∧ tt ≠ tr) ?_ ?_ ?_
    · have hn := hkp.next
      refine ⟨by simp [f1], by simp [f2], by simp [f4], by simp [f5], by simp [f45], by simp [fn], by simp [fi], by simp, by simp [show ¬ st.next = s.next by omega, hG], by simp [show ¬ st.next + 1 = s.next by omega, hN], hkp.trans (Keeps.new _ _), by simp [show ¬ st.next + 2 = s.next by omega, hB], by simp [show ¬ tr = s.next by omega, hOr], by simp; omega, s.next, by simp, by simp, by omega, by simp, by omega⟩
    · clear f1 f2 f4 f5 f45 fi fn hG hN hkp hB hOr ur fr s hJO hd
      rintro k fr s hlk ⟨f1, f2, f4, f5, f45, f46, f47, f51, hG, hN, hkp, hB, hOr, ur, tt, f10, hOt, lt, ut, hne⟩ fi fn JI hJI
      have hd := us_drop_getD t k hlk
      have hst := filter_takeI t (fun d => decide (d / 2 ∈ I)) k hlk
      have hd0' := ht0 _ (getD_mem hlk)
      have hgl := List.length_filter_le (fun d => decide (d / 2 ∈ I)) (t.take k)
      rw [List.length_take] at hgl
      simp only [hst] at hJI
      clear hst
      generalize (t.take k).filter (fun d => decide (d / 2 ∈ I)) = G at *
      generalize t.getD k 0 = d at *
      have hq : d.tdiv 2 = d / 2 := Int.tdiv_eq_ediv_of_nonneg hd0'.1
      have hwr : IntKind.u32.wrap (d / 2) = d / 2 := wrap_u32' _ (by omega) (by omega)
      generalize d / 2 = dd at *
      (repeat' (first | refine awp_seq ?_ | (refine w_e [] ?_; intro J hJ; simp only []; simp [f1, f51, fi, fn, hd, hlk, hq, hwr]; (try (refine hJ _ _ ?_; clear hJ J; simp only [ak, reduceIte])))))
      refine callK_ofE (Find I ti dd _ hI) (by simp [hwr]) ?_; rintro r s1 ⟨rfl, h1⟩
      rw [h1]; clear h1 s1
      by_cases hin : dd ∈ I
      rotate_left
      · have hge' : gi I dd < 0 := (gi_neg I dd).2 hin
        have hge : ¬ (0 : Int) ≤ gi I dd := by omega
        rw [if_neg (by simpa using hin)] at hJI
        generalize gi I dd = gg at *
        (repeat' (first | (refine awp_skip ?_; simp only [ak, reduceIte]) | (refine awp_cond ?_; simp [hge, hge']) | (refine e_go ?_; simp [hge, hge']; (refine hJ _ _ ?_; clear hJ J; simp only [ak, reduceIte]))))
        exact hJI _ _ (by simp [fi]) (by simp [fn]) ⟨by simp [f1], by simp [f2], by simp [f4], by simp [f5], by simp [f45], by simp [f46], by simp [f47], by simp [f51], hG, hN, hkp, hB, hOr, ur, tt, by simp [f10], hOt, lt, ut, hne⟩
      · have hge' : ¬ gi I dd < 0 := fun h => (gi_neg I dd).1 h hin
        have hge : (0 : Int) ≤ gi I dd := by omega
        rw [if_pos (by simpa using hin)] at hJI
        generalize gi I dd = gg at *
        have e1 : ¬ tt = s.next := by omega
        have e2 : ¬ tt = 0 := by omega
        (repeat' (first | (refine awp_cond ?_; simp [hge, hge', f10, hOt, e1, e2]) | ((first | (refine w_e [] ?_; intro J hJ; simp only []) | (refine e_go ?_)); simp [hge, hge', f10, hOt, e1, e2]; (repeat refine ca ?_); (refine hJ _ _ ?_; clear hJ J; simp only [ak, reduceIte]))))
        refine hJI _ _ (by simp [fi]) (by simp [fn]) ⟨by simp [f1], by simp [f2], by simp [f4], by simp [f5], by simp [f45], by simp [f46], by simp [f47], by simp [f51], by simp [show ¬ st.next = s.next by omega, show ¬ st.next = s.next + 1 by omega, show ¬ st.next = tt by omega, hG], by simp [show ¬ st.next = s.next by omega, show ¬ st.next + 1 = s.next by omega, show ¬ st.next + 1 = tt by omega, hN], ?_, by simp [show ¬ st.next + 1 = s.next by omega, show ¬ st.next + 2 = s.next by omega, show ¬ st.next + 2 = tt by omega, hB], by simp [show ¬ tr = s.next by omega, show ¬ tr = s.next + 1 by omega, show ¬ tr = tt by omega, hOr], by simp; omega, s.next + 1, by simp, by simp, by omega, by simp, by omega⟩
        (repeat (first | exact hkp | (refine Keeps.trans ?_ (Keeps.new _ _)) | (refine Keeps.set ?_ (by omega) _)))
    · clear f1 f2 f4 f5 f45 fi fn hG hN hkp hB hOr ur fr s hd
      rintro fr s ⟨f1, f2, f4, f5, f45, f46, f47, f51, hG, hN, hkp, hB, hOr, ur, tt, f10, hOt, lt, ut, hne⟩
      rw [List.take_length] at f10
      have hgl : small (t.filter fun d => decide (d / 2 ∈ I)) := by
        have := List.length_filter_le (fun d => decide (d / 2 ∈ I)) t
        unfold small; omega
      generalize t.filter (fun d => decide (d / 2 ∈ I)) = G at *
      skip
      (refine w_s [] [st.next + 2] [(0, true), (1, true), (2, true), (3, true), (4, true), (5, false), (6, true), (7, false)] ?_; intro J hJ; simp [f5, f10, hB])
      refine dcallK_ofE (refNormal' G tt _ hgl) (by simp) ?_; rintro r s1 ⟨rfl, h1⟩
      rw [h1]; clear h1 s1
      refine ⟨fun h => by first | (cases h; done) | simp [hB], ?_⟩
      have e1 : ¬ tr = 0 := by omega
      have e2 : ¬ tr = s.next := by omega
      have e3 : ¬ st.next + 2 = tr := by omega
      have e4 : ¬ st.next + 2 = s.next := by omega
      have e5 : ¬ st.next + 2 = s.next + 1 := by omega
      (refine d_go ?_; simp [f5, hB, hOr, e1, e2, e3, e4, e5, hjl]; (repeat refine ca ?_); (refine hJ _ _ ?_; clear hJ J; simp only [ak, reduceIte]))
      refine hJO _ _ (by simp [f47]) (by simp [f46]) ⟨by simp [f1], by simp [f2], by simp [f4], by simp [f5], by simp [f45], by simp [show ¬ st.next = s.next by omega, show ¬ st.next = s.next + 1 by omega, show ¬ st.next = tr by omega, hG], by simp [show ¬ st.next = s.next by omega, show ¬ st.next + 1 = s.next by omega, show ¬ st.next + 1 = tr by omega, hN], ?_, s.next + 1, by simp [nrm_length], by simp [show ¬ s.next = st.next + 1 by omega], by omega, by simp⟩
      (repeat (first | exact hkp | (refine Keeps.trans ?_ (Keeps.new _ _)) | (refine Keeps.set ?_ (by omega) _)))
  · clear f1 f2 f4 f5 hG hN hkp hB hOr lr ur tr s fr
    rintro fr s ⟨f1, f2, f4, f5, f45, hG, hN, hkp, tr, hB, hOr, lr, ur⟩
    rw [List.take_length] at hB
    (repeat' (first | refine awp_seq ?_ | (refine awp_ret ?_; simp only [ak, reduceIte]; simp [f4, f5, hB, hN]) | (refine w_e [] ?_; intro J hJ; simp only []; simp [f4, f5, hB, hN]; (refine hJ _ _ ?_; clear hJ J; simp only [ak, reduceIte]))))
    refine ⟨?_, hkp.set (by omega) _⟩
    simp only [z0, z0L, z0_us, z0L_edsD]
    rw [z0L_rowsF]
    simp [keptM]
theorem rKeep (m : Mp) (I : List Int) (ti : Nat) (st : St) (hv : m.g.vs.length ≤ 1000) (he : m.g.es.length ≤ 1000) (hr : m.rots.length ≤ 1000) (hs : ∀ t ∈ m.rots, t.length ≤ 1000) (hI : small I) (hd0 : ∀ t ∈ m.rots, ∀ d ∈ t, 0 ≤ d ∧ d < 4294967296) :
    ACalls Tryz.prog 57 [.ag (mpL m), .sl ti I.length (us I)] st fun r st' => r = .ag (mpL (keptM m I)) ∧ st' = st :=
  acalls_tidy (Q := fun r => r = .ag (mpL (keptM m I))) (rKeepK m I ti st hv he hr hs hI hd0) fun r h => by subst h; exact bel_mpL _ _

end Go.Proofs.YtlnefdmdabhobaaGreat.Aw

namespace Go.Proofs.YtlnefdmdabhobaaGreat.Aw
open Go Go.RowKit Go.Proofs.YtlnefdmdabhobaaGreat.Pl Go.Proofs.YtlnefdmdabhobaaGreat.Eu
set_option linter.unusedSimpArgs false
set_option linter.unusedVariables false

theorem nrm_perm (l : List Int) : (nrm l).Perm l := by
  unfold nrm rt
  exact List.perm_append_comm.trans (by rw [List.take_append_drop])
theorem nrm_nrm (l : List Int) : nrm (nrm l) = nrm l := by
  by_cases h : l = []
  · subst h; rfl
  · obtain ⟨r, hr⟩ := nrm_head l h
    have hm : mn (nrm l) = mn l := mn_eq ((nrm_perm l).mem_iff.2 (mn_mem h)) fun x hx => mn_le ((nrm_perm l).mem_iff.1 hx)
    exact nrm_of_head hr hm
theorem mirror_ok {m : Mp} (ho : MapOk m) : MapOk ⟨m.g, m.rots.map fun t => nrm t.reverse⟩ := by
  refine ⟨ho.g, by simpa using ho.len, fun k hk => ?_⟩
  have hk' : k < m.rots.length := by rw [ho.len]; exact hk
  have e : (m.rots.map fun t => nrm t.reverse).getD k [] = nrm (m.rots.getD k []).reverse := by simp [List.getD_eq_getElem?_getD, hk']
  show okTurn m.g.es _ ((m.rots.map fun t => nrm t.reverse).getD k [])
  rw [e]
  exact ⟨((nrm_perm _).trans (List.reverse_perm _)).trans (ho.ok k hk).1, nrm_nrm _⟩
theorem ends_filter (I : List Int) (v : Int) : ∀ es : List Ed, ends (es.filter fun x => decide (x.id ∈ I)) v = (ends es v).filter fun d => decide (d / 2 ∈ I)
  | [] => rfl
  | x :: es => by
    have ih := ends_filter I v es
    have h1 : (2 * x.id) / 2 = x.id := by omega
    have h2 : (2 * x.id + 1) / 2 = x.id := by omega
    have hx : (end1 v x).filter (fun d => decide (d / 2 ∈ I)) = if x.id ∈ I then end1 v x else [] := by
      unfold end1
      by_cases hi : x.id ∈ I
      · rw [if_pos hi, List.filter_eq_self]
        intro d hd
        have : d = 2 * x.id ∨ d = 2 * x.id + 1 := by
          revert hd; split <;> split <;> simp <;> omega
        rcases this with rfl | rfl
        · rw [h1]; simpa using hi
        · rw [h2]; simpa using hi
      · rw [if_neg hi, List.filter_eq_nil_iff]
        intro d hd
        have : d = 2 * x.id ∨ d = 2 * x.id + 1 := by
          revert hd; split <;> split <;> simp <;> omega
        rcases this with rfl | rfl
        · rw [h1]; simpa using hi
        · rw [h2]; simpa using hi
    unfold ends at ih ⊢
    rw [List.flatMap_cons, List.filter_append, hx, List.filter_cons]
    by_cases hi : x.id ∈ I
    · rw [if_pos (by simpa using hi), if_pos hi, List.flatMap_cons, ih]
    · rw [if_neg (by simpa using hi), if_neg hi, ih, List.nil_append]
theorem kept_ok {m : Mp} (ho : MapOk m) (I : List Int) : MapOk (keptM m I) := by
  refine ⟨⟨⟨ho.g.rise, fun x hx => ho.g.ends x (List.mem_filter.1 hx).1⟩, ho.g.ids.sublist List.filter_sublist, fun x hx => ho.g.pos x (List.mem_filter.1 hx).1, fun x hx => ho.g.ne x (List.mem_filter.1 hx).1⟩, by simpa [keptM] using ho.len, fun k hk => ?_⟩
  have hk' : k < m.rots.length := by rw [ho.len]; exact hk
  have e : (keptM m I).rots.getD k [] = nrm ((m.rots.getD k []).filter fun d => decide (d / 2 ∈ I)) := by simp [keptM, List.getD_eq_getElem?_getD, hk']
  rw [e]
  refine ⟨(nrm_perm _).trans ?_, nrm_nrm _⟩
  show List.Perm _ (ends (m.g.es.filter fun x => decide (x.id ∈ I)) _)
  rw [ends_filter]
  exact (ho.ok k hk).1.filter _

/-- What a key weighs: twice its part's darts. -/
def wgt (k : List Int) : Nat := if k = [0] then 0 else k.length
theorem wgt_key {m : Mp} (ho : MapOk m) {v : Int} {c : List Int} (hc : IsPart m.g v c) : wgt (keyW m c) = 2 * (endsL m.g.es c).length := by
  by_cases h : endsL m.g.es c = []
  · have : keyW m c = [0] := by unfold keyW; rw [h]; rfl
    rw [this, h]; rfl
  · obtain ⟨l, h1, h2, _⟩ := lea_least (W := (endsL m.g.es c).map (walkL m)) (by simpa using h)
    obtain ⟨d, hd, rfl⟩ := List.mem_map.1 h2
    have hk : keyW m c = walkL m d := by unfold keyW; rw [h1]
    obtain ⟨_, _, D, _, q1, _, q3⟩ := part_walk ho hc hd
    have hl : (walkL m d).length = 2 * (endsL m.g.es c).length := by rw [q3, tel_len, q1.length_eq]
    have hp : 0 < (endsL m.g.es c).length := List.length_pos_iff.2 h
    unfold wgt
    rw [hk, if_neg ?_, hl]
    intro e
    rw [e] at hl; simp at hl; omega
theorem sum_wgt {m : Mp} (ho : MapOk m) : ∀ P : List (List Int), (∀ c ∈ P, ∃ v ∈ m.g.vs, IsPart m.g v c) → ((P.map (keyW m)).map wgt).sum = 2 * (endsL m.g.es P.flatten).length
  | [], _ => rfl
  | c :: P, h => by
    obtain ⟨v, _, hc⟩ := h c (by simp)
    have ih := sum_wgt ho P fun c hc => h c (List.mem_cons_of_mem _ hc)
    have : endsL m.g.es (c :: P).flatten = endsL m.g.es c ++ endsL m.g.es P.flatten := by simp [endsL, List.flatMap_append]
    rw [this, List.length_append, List.map_cons, List.map_cons, List.sum_cons, ih, wgt_key ho hc]; omega
theorem all_ends {m : Mp} (ho : MapOk m) {P : List (List Int)} (hP : PartsTo m.g m.g.vs.length P) : (endsL m.g.es P.flatten).length = 2 * m.g.es.length := by
  obtain ⟨h1, h2⟩ := hP.flat ho.g.toGood
  have hin : ∀ w ∈ m.g.vs, w ∈ P.flatten := fun w hw => (h2 w).2 ⟨hw, w, by rw [List.take_length]; exact hw, .refl⟩
  rw [← darts_length]
  refine List.Perm.length_eq ((List.perm_ext_iff_of_nodup (endsL_nodup ho.g.ids h1) (rise_nodup (darts_rise ho.g.ids))).2 fun d => ⟨fun hd => ?_, fun hd => ?_⟩)
  · obtain ⟨w, _, hw⟩ := List.mem_flatMap.1 hd
    exact ends_dart hw
  · exact List.mem_flatMap.2 ⟨hom m.g.es d, hin _ (hom_vs ho hd), (dart_ends ho.g.ids hd).1⟩
theorem code_es {a b : Mp} (ha : MapOk a) (hb : MapOk b) {c : List Int} (hc : IsCode a c) (hc' : IsCode b c) : a.g.es.length = b.g.es.length := by
  obtain ⟨P, S, h1, _⟩ := id hc
  obtain ⟨Q, S', k1, _⟩ := id hc'
  have hp := (code_iff hc hc' h1 k1).1 rfl
  have e := (hp.map wgt).sum_nat
  rw [sum_wgt ha P (parts_mem h1), sum_wgt hb Q (parts_mem k1), all_ends ha h1, all_ends hb k1] at e
  omega
theorem less_len {m : Mp} {e : Ed} (he : e ∈ m.g.es) : (keptM m ((m.g.es.filter fun x => decide (x.id ≠ e.id)).map (·.id))).g.es.length < m.g.es.length := by
  refine List.length_filter_lt_length_iff_exists.2 ⟨e, he, ?_⟩
  simp

end Go.Proofs.YtlnefdmdabhobaaGreat.Aw

namespace Go.Proofs.YtlnefdmdabhobaaGreat.Aw
open Go Go.RowKit Go.Proofs.YtlnefdmdabhobaaGreat.Pl Go.Proofs.YtlnefdmdabhobaaGreat.Eu
set_option linter.unusedSimpArgs false
set_option linter.unusedVariables false

theorem shp_u8C {lvs : List LV} (h : Shp tab 5 lvs) : ∃ n, lvs = [.atom (.int .u8 n)] ∧ (0 ≤ n ∧ n ≤ 255) := by
  obtain ⟨b, rfl, hb⟩ := shp_int rfl rfl h
  simp [Lit.wf, show IntKind.u8.min = 0 from rfl, show IntKind.u8.max = 255 from rfl] at hb
  exact ⟨b, rfl, hb.1, by omega⟩
theorem mapfilter_take (l : List Ed) (p : Ed → Bool) (k : Nat) (hk : k < l.length) : ((l.take (k + 1)).filter p).map (·.id) = if p (l.getD k ed0) = true then ((l.take k).filter p).map (·.id) ++ [(l.getD k ed0).id] else ((l.take k).filter p).map (·.id) := by
  rw [filter_takeE l p k hk]; split <;> simp

theorem row_dartC {m : Mp} (ho : MapOk m) {t : List Int} (ht : t ∈ m.rots) {d : Int} (hd : d ∈ t) : d ∈ darts m.g.es := by
  obtain ⟨k, hk, rfl⟩ := List.mem_iff_getElem.1 ht
  have := (ho.ok k (by rw [← ho.len]; exact hk)).1
  rw [getR_lt _ _ hk] at this
  exact ends_dart (this.mem_iff.1 hd)
set_option maxHeartbeats 8000000 in
theorem CanonLess (m : Mp) (w : Int) (st : St) (hw0 : 0 ≤ w) (hw1 : w ≤ 255) : ACalls Tryz.prog 11 [.ag (mpL m), .atom (.int .u8 w)] st fun r st' => r = bb true := by
  refine acalls_of_body tabOk Tryz.func11 rfl rfl Tryz.ntmps11 (rs := [.tmp 4]) rfl (by simp) ?_
  refine awp_posG fun hpos => ?_
  (repeat' (first | refine awp_seq ?_ | (refine w_e [] ?_; intro J hJ; simp only []; simp []; (try (refine hJ _ _ ?_; clear hJ J; simp only [ak, reduceIte])))))
  refine callK_ofE (awake33 _) (by simp []) ?_; rintro r st' ⟨rfl, rfl⟩
  (repeat' (first | refine awp_seq ?_ | (refine awp_skip ?_; simp only [ak, reduceIte]) | (refine awp_cond ?_; simp []) | ((first | (refine w_e [] ?_; intro J hJ; simp only []) | (refine e_go ?_)); simp []; (try (refine hJ _ _ ?_; clear hJ J; simp only [ak, reduceIte])))))
  refine callK_ofE (light33' m _) (by simp) ?_; rintro r s1 ⟨rfl, h1⟩
  rw [h1]; clear h1 s1
  cases hf : lit33 m
  · (repeat' (first | refine awp_seq ?_ | (refine awp_ret ?_; simp only [ak, reduceIte]; simp []) | (refine awp_cond ?_; simp []) | ((first | (refine w_e [] ?_; intro J hJ; simp only []) | (refine e_go ?_)); simp []; (refine hJ _ _ ?_; clear hJ J; simp only [ak, reduceIte]))))
  obtain ⟨he, hr, hc⟩ := lit33_of hf
  have hv := chk_smallC hc
  have ho := (rchk_zero hc).2
  by_cases h1 : m.g.es.length < 1
  · have h1' : (m.g.es.length : Int) < 1 := by omega
    have h1'' : m.g.es = [] := List.eq_nil_of_length_eq_zero (by omega)
    have h1''' : m.g.es.length = 0 := by omega
    (repeat' (first | refine awp_seq ?_ | (refine awp_ret ?_; simp only [ak, reduceIte]; simp [h1', h1''', h1'']) | (refine awp_cond ?_; simp [h1', h1''', h1'']) | ((first | (refine w_e [] ?_; intro J hJ; simp only []) | (refine e_go ?_)); simp [h1', h1''', h1'']; (refine hJ _ _ ?_; clear hJ J; simp only [ak, reduceIte]))))
  have h1' : ¬ (m.g.es.length : Int) < 1 := by omega
  by_cases h2 : 14 < m.g.es.length
  · have h2' : (14 : Int) < m.g.es.length := by omega
    (repeat' (first | refine awp_seq ?_ | (refine awp_ret ?_; simp only [ak, reduceIte]; simp [h1', h2']) | (refine awp_cond ?_; simp [h1', h2']) | ((first | (refine w_e [] ?_; intro J hJ; simp only []) | (refine e_go ?_)); simp [h1', h2']; (refine hJ _ _ ?_; clear hJ J; simp only [ak, reduceIte]))))
  have h2' : ¬ (14 : Int) < m.g.es.length := by omega
  obtain ⟨k, hk, hkm⟩ : ∃ k : Nat, k < m.g.es.length ∧ w.tmod (m.g.es.length : Int) = (k : Nat) := by
    have e1 := Int.tmod_eq_emod_of_nonneg (b := (m.g.es.length : Int)) hw0
    have e2 := Int.emod_nonneg w (show (m.g.es.length : Int) ≠ 0 by omega)
    have e3 := Int.emod_lt_of_pos w (show 0 < (m.g.es.length : Int) by omega)
    exact ⟨(w % (m.g.es.length : Int)).toNat, by omega, by omega⟩
  have hd := eds_drop m.g.es k hk
  have hel := eds_length m.g.es
  have hk3 : k * 3 < m.g.es.length * 3 := by omega
  have hww : IntKind.i64.wrap w = w := wrap_i64 _ (by omega) (by omega)
  have hn0 : ¬ (m.g.es.length : Int) = 0 := by omega
  have hin : m.g.es.getD k ed0 ∈ m.g.es := by rw [getE_lt _ _ hk]; exact List.getElem_mem _
  have hless := less_len hin
  have hne : ¬ m.g.es = [] := fun h => by rw [h] at hk; simp at hk
  generalize hx : m.g.es.getD k ed0 = x at *
  obtain ⟨d, a, b⟩ := x
  simp only at hd hless
  (repeat' (first | refine awp_seq ?_ | (refine awp_skip ?_; simp only [ak, reduceIte]) | (refine awp_cond ?_; simp [h1', h2']) | (refine e_go ?_; simp [h1', h2']; (refine hJ _ _ ?_; clear hJ J; simp only [ak, reduceIte]))))
  (refine w_s [] [st.next] [(0, true), (1, true), (2, true), (3, true), (4, true), (5, true), (6, true), (7, true), (8, true), (9, true), (10, true), (11, true), (12, true), (13, false)] ?_; intro J hJ; simp [hkm, hd, hel, hk3, hww, hn0, hne]; (repeat refine ca ?_); (refine hJ _ _ ?_; clear hJ J; simp only [ak, reduceIte]))
  (repeat' (first | refine awp_seq ?_ | refine awp_block ?_ | (refine w_e [] ?_; intro J hJ; simp only []; simp []; (refine hJ _ _ ?_; clear hJ J; simp only [ak, reduceIte]))))
  refine awp_own 6 48 1 (by simp) ?_
  refine awp_range 46 45 47 60 (m.g.es.length) (fun j fr st2 => fr 2 = .pt st.next 0 ∧ fr 5 = .pt (st.next + 1) 0 ∧ fr 44 = .sl 0 m.g.es.length (eds m.g.es) ∧ st2.H st.next = .box 28 3 (mpL m) ∧ st2.H (st.next + 1) = .box 50 3 [u d, u a, u b] ∧ ∃ t, fr 6 = .sl t (((m.g.es.take j).filter fun x => decide (x.id ≠ d)).map (·.id)).length (us (((m.g.es.take j).filter fun x => decide (x.id ≠ d)).map (·.id))) ∧ st2.H t = .own 48 1 (((m.g.es.take j).filter fun x => decide (x.id ≠ d)).map (·.id)).length ∧ st.next + 1 < t ∧ t < st2.next) ?_ ?_ ?_
  · exact ⟨by simp, by simp, by simp, by simp, by simp, st.next + 2, by simp, by simp, by omega, by simp⟩
  · clear hd hx hk hkm
    rintro j fr s hlt ⟨f2, f5, f44, hG, hE, t, f6, hO, lt, ut⟩ fi fn JO hJO
    have hd := eds_drop m.g.es j hlt
    have hj3 : j * 3 < m.g.es.length * 3 := by omega
    have hst := mapfilter_take m.g.es (fun x => decide (x.id ≠ d)) j hlt
    have hle := List.length_filter_le (fun x : Ed => decide (x.id ≠ d)) (m.g.es.take j)
    rw [List.length_take] at hle
    have hle' : (((m.g.es.take j).filter fun x => decide (x.id ≠ d)).map (·.id)).length ≤ 100 := by rw [List.length_map]; omega
    simp only [hst] at hJO
    clear hst hle
    generalize ((m.g.es.take j).filter (fun x => decide (x.id ≠ d))).map (·.id) = L at *
    generalize m.g.es.getD j ed0 = y at *
    obtain ⟨d', a', b'⟩ := y
    simp only at hd hJO
    have e1 : ¬ st.next + 1 = s.next := by omega
    have e2 : ¬ t = s.next := by omega
    have e3 : ¬ t = 0 := by omega
    have e4 : ¬ t = s.next + 1 := by omega
    have e5 : ¬ st.next = s.next := by omega
    by_cases hdd : d' = d
    · rw [if_neg (by simpa using hdd)] at hJO
      (repeat' (first | refine awp_seq ?_ | (refine awp_skip ?_; simp only [ak, reduceIte]) | (refine awp_cond ?_; simp [f5, f44, fi, fn, hd, hlt, hel, hj3, hE, e1, hdd]) | (refine w_e [] ?_; intro J hJ; simp only []; simp [f5, f44, fi, fn, hd, hlt, hel, hj3, hE, e1, hdd]; (refine hJ _ _ ?_; clear hJ J; simp only [ak, reduceIte]))))
      exact hJO _ _ (by simp [fi]) (by simp [fn]) ⟨by simp [f2], by simp [f5], by simp [f44], by simp [e5, hG], by simp [e1, hE], t, by simp [f6], by simp [e2, hO], lt, by simp; omega⟩
    · rw [if_pos (by simpa using hdd)] at hJO
      (repeat' (first | refine awp_seq ?_ | (refine awp_cond ?_; simp [f5, f44, fi, fn, hd, hlt, hel, hj3, hE, e1, hdd, f6, hO, e2, e3, e4]) | (refine w_e [] ?_; intro J hJ; simp only []; simp [f5, f44, fi, fn, hd, hlt, hel, hj3, hE, e1, hdd, f6, hO, e2, e3, e4]; (repeat refine ca ?_); (refine hJ _ _ ?_; clear hJ J; simp only [ak, reduceIte]))))
      refine hJO _ _ (by simp [fi]) (by simp [fn]) ⟨by simp [f2], by simp [f5], by simp [f44], by simp [e5, show ¬ st.next = s.next + 1 by omega, show ¬ st.next = s.next + 1 + 1 by omega, show ¬ st.next = t by omega, hG], by simp [e1, e5, show ¬ st.next = s.next + 1 by omega, show ¬ st.next + 1 = t by omega, hE], s.next + 1 + 1, by simp, by simp, by omega, by simp⟩
  clear hd hx hk hkm
  rintro fr s ⟨f2, f5, f44, hG, hE, t, f6, hO, lt, ut⟩
  rw [List.take_length] at f6
  clear hO hE f44 f5
  have hIl : small ((m.g.es.filter fun x => decide (x.id ≠ d)).map (·.id)) := by
    have := List.length_filter_le (fun x : Ed => decide (x.id ≠ d)) m.g.es
    unfold small; rw [List.length_map]; omega
  generalize (m.g.es.filter fun x => decide (x.id ≠ d)).map (·.id) = I at *
  have hk1 := kept_ok ho I
  have hk2 := mirror_ok ho
  have hkv : (keptM m I).g.vs.length = m.g.vs.length := rfl
  obtain ⟨c, hC⟩ := code_ex m ho
  obtain ⟨c1, hC1⟩ := code_ex _ hk1
  obtain ⟨c2, hC2⟩ := code_ex _ hk2
  have hfalse : decide (c = c1) = false := by
    rw [decide_eq_false_iff_not]
    rintro rfl
    have := code_es ho hk1 hC hC1
    omega
  have hsr : ∀ t ∈ m.rots, t.length ≤ 1000 := fun t ht => by have := ho.row_le ht; omega
  have hdr : ∀ t ∈ m.rots, ∀ d ∈ t, 0 ≤ d ∧ d < 4294967296 := fun t ht d hd => by
    have := dart_range ho (row_dartC ho ht hd); omega
  (repeat' (first | refine awp_seq ?_ | (refine w_e [] ?_; intro J hJ; simp only []; simp [f2, hG])))
  refine callK_ofE (rKeep m I t _ (by omega) (by omega) (by omega) hsr hIl hdr) (by simp [f6]) ?_; rintro r s1 ⟨rfl, h1⟩
  rw [h1]; clear h1 s1
  have hks : (keptM m I).g.vs.length ≤ 100 ∧ (keptM m I).g.es.length ≤ 100 := by
    rw [hkv]; omega
  have hns : ¬ st.next = s.next := by omega
  have hv2 : m.g.vs.length ≤ 100 := by omega
  have he2 : m.g.es.length ≤ 100 := by omega
  have hr2 : (m.rots.map fun t => nrm t.reverse).length ≤ 1000 := by rw [List.length_map]; omega
  have hsm : small c2 := by have := code_len hk2 hv2 he2 hC2; unfold small; omega
  have hs2 : ∀ t ∈ (m.rots.map fun t => nrm t.reverse), small t := fun t ht => by
    obtain ⟨x, hx, rfl⟩ := List.mem_map.1 ht
    have := hsr x hx
    unfold small; rw [nrm_length, List.length_reverse]; omega
  have hs3 : ∀ t ∈ m.rots, small t := fun t ht => by have := hsr t ht; unfold small; omega
  generalize keptM m I = m1 at *
  (repeat' (first | refine awp_seq ?_ | ((first | (refine w_e [] ?_; intro J hJ; simp only []) | (refine e_go ?_)); simp [f2, hG, hns]; (try (refine hJ _ _ ?_; clear hJ J; simp only [ak, reduceIte])))))
  refine callK_ofE (rMirror m _ (by omega) (by omega) (by omega) hs3) (by simp) ?_; rintro r s1 ⟨rfl, h1⟩
  rw [h1]; clear h1 s1
  generalize hM2 : (⟨m.g, m.rots.map fun t => nrm t.reverse⟩ : Mp) = m2 at *
  have hvM : m2.g.vs.length ≤ 100 ∧ m2.g.es.length ≤ 100 ∧ m2.rots.length ≤ 1000 ∧ ∀ t ∈ m2.rots, small t := by
    subst hM2; exact ⟨hv2, he2, hr2, hs2⟩
  clear hM2 hr2 hs2
  obtain ⟨hvM, heM, hrM, hsM⟩ := hvM
  (repeat' (first | refine awp_seq ?_ | (refine e_go ?_; simp [hns]; (refine hJ _ _ ?_; clear hJ J; simp only [ak, reduceIte]))))
  have hns2 : ¬ st.next = s.next + 1 := by omega
  (refine w_s [] [st.next, s.next, s.next + 1] [(0, true), (1, true), (2, true), (3, true), (4, true), (5, true), (6, true), (8, true), (9, true), (7, true), (10, true), (11, true), (12, true), (13, true), (14, true), (16, true), (15, true), (17, true), (18, true), (19, true), (20, true), (21, true)] ?_; intro J hJ; simp [f2, hG, hns, hns2])
  refine dcallK_ofE (cSame m _ ho hk1 _ (by omega) (by omega) hks.1 hks.2 hC hC1) (by simp) ?_; rintro r s1 ⟨rfl, h1⟩
  rw [h1]; clear h1 s1
  refine ⟨fun h => by first | (cases h; done) | simp [hG, hns, hns2], ?_⟩
  (refine d_go ?_; simp [f2, hG, hns, hns2, hfalse])
  refine dcallK_ofE (cSame m _ ho hk2 _ (by omega) (by omega) hvM heM hC hC2) (by simp) ?_; rintro r s1 ⟨rfl, h1⟩
  rw [h1]; clear h1 s1
  refine ⟨fun h => by first | (cases h; done) | simp [hG, hns, hns2], ?_⟩
  (refine d_go ?_; simp [f2, hG, hns, hns2, hfalse])
  refine dcallK_ofE (rSame' m _ ho hk2 _ (by omega) (by omega) hvM heM hC hC2) (by simp) ?_; rintro r s1 ⟨rfl, h1⟩
  rw [h1]; clear h1 s1
  refine ⟨fun h => by first | (cases h; done) | simp [hG, hns, hns2], ?_⟩
  (refine d_go ?_; simp [f2, hG, hns, hns2, hfalse])
  refine dcallK_ofE (cCode' _ hk2 _ hvM heM hC2) (by simp) ?_; rintro r s1 ⟨rfl, h1⟩
  rw [h1]; clear h1 s1
  refine ⟨fun h => by first | (cases h; done) | simp [hG, hns, hns2], ?_⟩
  (refine d_go ?_; simp [f2, hG, hns, hns2, hfalse])
  refine dcallK_ofE (rClone _ _ (by omega) (by omega) hrM hsM) (by simp) ?_; rintro r s1 ⟨rfl, h1⟩
  rw [h1]; clear h1 s1
  refine ⟨fun h => by first | (cases h; done) | simp [hG, hns, hns2], ?_⟩
  (refine d_go ?_; simp [f2, hG, hns, hns2, hfalse])
  refine dcallK_ofE (cCode' _ hk2 _ hvM heM hC2) (by simp) ?_; rintro r s1 ⟨rfl, h1⟩
  rw [h1]; clear h1 s1
  refine ⟨fun h => by first | (cases h; done) | simp [hG, hns, hns2], ?_⟩
  (refine d_go ?_; simp [f2, hG, hns, hns2, hfalse])
  refine dcallK_ofE (ref_Same c2 c2 0 0 _ hsm) (by simp) ?_; rintro r s1 ⟨rfl, h1⟩
  rw [h1]; clear h1 s1
  refine ⟨fun h => by first | (cases h; done) | simp [hG, hns, hns2], ?_⟩
  (refine d_go ?_; simp [f2, hG, hns, hns2, hfalse]; (refine hJ _ _ ?_; clear hJ J; simp only [ak, reduceIte]))
  (repeat' (refine awp_ret ?_; simp only [ak, reduceIte]; simp []))

theorem CanonLess_shp (l0 l1 : List LV) (st : St) (h0 : Shp tab 28 l0) (h1 : Shp tab 5 l1) : ACalls Tryz.prog 11 [argT tab 28 l0, argT tab 5 l1] st fun r st' => r = bb true := by
  obtain ⟨m, rfl, _⟩ := shp_mp h0
  obtain ⟨d, rfl, hd⟩ := shp_u8C h1
  exact CanonLess m d st hd.1 hd.2

end Go.Proofs.YtlnefdmdabhobaaGreat.Aw
