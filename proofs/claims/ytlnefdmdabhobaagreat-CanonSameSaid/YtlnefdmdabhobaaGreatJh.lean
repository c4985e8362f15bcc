/- The document's way: Laid, walked. The document's way: darts, Part. The document's way: Same, walked; plain: parts paired off greedily. The law CanonSame. -/
import Derived.Test.YtlnefdmdabhobaaGreatJg
import Derived.Test.YtlnefdmdabhobaaGreatAwMr5
namespace Go.Proofs.YtlnefdmdabhobaaGreat.Aw
open Go Go.RowKit Go.Proofs.YtlnefdmdabhobaaGreat.Pl Go.Proofs.YtlnefdmdabhobaaGreat.Eu
set_option linter.unusedSimpArgs false
set_option linter.unusedVariables false

def LaidR (a b : Mp) (x y : Int) (r : LV) : Prop := ∃ (n : Nat) (ok : Bool), r = .tu [i n, bb ok] ∧ (ok = true ↔ LaidTo a b x y) ∧ (ok = true → ∀ v c, IsPart a.g v c → x ∈ endsL a.g.es c → n = (endsL a.g.es c).length)
/-- What is laid, in memory. -/
structure LaM (a b : Mp) (x y : Int) (st : St) (F T : List Int) (fr : Frm) (s : St) : Prop where
  la : LaI a b x y F T
  f4 : fr 4 = .pt st.next 0
  f5 : fr 5 = .pt (st.next + 1) 0
  mem : ∃ tF tT, fr 10 = .sl tF F.length (us F) ∧ fr 11 = .sl tT T.length (us T) ∧ s.H tF = .own 48 1 F.length ∧ s.H tT = .own 48 1 T.length ∧ tF ≠ tT ∧ (st.next + 2 ≤ tF ∧ st.next + 2 ≤ tT) ∧ (tF < s.next ∧ tT < s.next)
  ga : s.H st.next = .box 28 3 (mpL a)
  gb : s.H (st.next + 1) = .box 28 3 (mpL b)
  kp : Keeps st s

set_option maxHeartbeats 8000000 in
theorem rLaid (a b : Mp) (ha : MapOk a) (hb : MapOk b) (x y : Int) (st : St) (hva : a.g.vs.length ≤ 1000) (hea : a.g.es.length ≤ 1000) (hvb : b.g.vs.length ≤ 1000) (heb : b.g.es.length ≤ 1000) (hx : x ∈ darts a.g.es) (hy : y ∈ darts b.g.es) :
    ACalls Tryz.prog 173 [.ag (mpL a), .ag (mpL b), u x, u y] st fun r st' => LaidR a b x y r ∧ Keeps st st' := by
  refine acalls_of_body tabOk Tryz.func173 rfl rfl Tryz.ntmps173 (rs := [.tmp 8, .tmp 9]) rfl (by simp) ?_
  refine awp_posG fun hpos => ?_
  (repeat' (first | refine awp_seq ?_ | refine awp_block ?_ | (refine w_e [] ?_; intro J hJ; simp only []; simp []; (refine hJ _ _ ?_; clear hJ J; simp only [ak, reduceIte]))))
  refine awp_loop (fun z fr s => ∃ (k : Nat) (F T : List Int), z = 2 * a.g.es.length - k ∧ k ≤ F.length ∧ LaM a b x y st F T fr s ∧ LaC a b F T k ∧ fr 12 = i k) (2 * a.g.es.length) ?_ ?_
  · refine ⟨0, [x], [y], by omega, by simp, ⟨.start hx hy, by simp, by simp, ⟨st.next + 1 + 1, st.next + 1 + 1 + 1, by simp, by simp, by simp, by simp, by omega, by omega, by simp⟩, by simp, by simp, ?_⟩, fun j hj => by omega, by simp⟩
    exact (((Keeps.new _ _).trans (Keeps.new _ _)).trans (Keeps.new _ _)).trans (Keeps.new _ _)
  rintro z fr s ⟨k, F, T, rfl, hkF, hM, hC, f12⟩ JJ hJJ
  obtain ⟨hLa, f4, f5, ⟨tF, tT, f10, f11, hF, hT, hne, hlo, hhi⟩, hga, hgb, hkp⟩ := id hM
  have hFle := hLa.le
  have hlen := hLa.len
  by_cases hlt : k < F.length
  rotate_left
  · clear hJJ
    obtain rfl : k = F.length := by omega
    obtain ⟨hok, hn⟩ := hLa.done ha hC
    (repeat' (first | refine awp_seq ?_ | (refine awp_exit ?_; simp only [ak, reduceIte]) | (refine awp_ret ?_; simp only [ak, reduceIte]; simp [f10, f12]) | (refine awp_cond ?_; simp [f10, f12]) | (refine w_e [] ?_; intro J hJ; simp only []; simp [f10, f12]; (refine hJ _ _ ?_; clear hJ J; simp only [ak, reduceIte]))))
    exact ⟨⟨F.length, true, rfl, ⟨fun _ => hok, fun _ => rfl⟩, fun _ v c hc hxc => hn hc hxc⟩, hkp⟩
  obtain ⟨hn1, hn2⟩ := hLa.nxt ha hb hlt
  have hltT : k < T.length := by omega
  have hxF := (hLa.dart _ (getD_mem hlt)).1
  have hxT := hLa.dart' _ (getD_mem hltT)
  have hd1 := us_drop_getD F k hlt
  have hd2 := us_drop_getD T k hltT
  have hCk : ∀ F' T' : List Int, (∃ A B, F' = F ++ A ∧ T' = T ++ B) → LaC a b F' T' k → At2 F' T' (tw (F.getD k 0)) (tw (T.getD k 0)) → At2 F' T' (sg a (F.getD k 0)) (sg b (T.getD k 0)) → LaC a b F' T' (k + 1) := by
    rintro F' T' ⟨A, B, rfl, rfl⟩ h1 h2 h3 j hj hjF
    by_cases e : j = k
    · subst e
      rw [getD_app_lt _ _ hlt, getD_app_lt _ _ hltT]
      exact ⟨h2, h3⟩
    · exact h1 j (by omega) hjF
  generalize F.getD k 0 = p at *
  generalize T.getD k 0 = q at *
  have hp1 := dart_range ha hxF
  have hq1 := dart_range hb hxT
  (repeat' (first | refine awp_seq ?_ | refine awp_block ?_ | (refine awp_skip ?_; simp only [ak, reduceIte]) | (refine awp_cond ?_; simp [f10, f12, hlt]) | (refine w_e [] ?_; intro J hJ; simp only []; simp [f10, f12, hlt]; (refine hJ _ _ ?_; clear hJ J; simp only [ak, reduceIte]))))
  (refine w_s [] [st.next] [(0, true), (1, true), (2, true), (3, true), (5, true), (6, true), (7, true), (8, true), (9, true), (4, true), (10, true), (11, true), (12, true)] ?_; intro J hJ; simp [f4, f10, f12, hlt, hd1, hga])
  refine dcallK_ofE (twin33 p _ (by omega) (by omega)) (by simp) ?_; rintro r s1 ⟨rfl, h1⟩
  rw [h1]; clear h1 s1
  refine ⟨fun h => by first | (cases h; done) | simp [hga], ?_⟩
  (refine d_go ?_; simp [f4, f10, f12, hlt, hd1, hga])
  refine dcallK_ofE (next33 a ha p _ hva hea hxF) (by simp) ?_; rintro r s1 ⟨rfl, h1⟩
  rw [h1]; clear h1 s1
  refine ⟨fun h => by first | (cases h; done) | simp [hga], ?_⟩
  (refine d_go ?_; simp [hga]; (repeat refine ca ?_); (refine hJ _ _ ?_; clear hJ J; simp only [ak, reduceIte]))
  have e1 : ¬ st.next + 1 = s.next := by omega
  have hgb' : ∀ o, (s.new o).H (st.next + 1) = .box 28 3 (mpL b) := fun o => by rw [new_H, if_neg e1]; exact hgb
  (repeat (refine awp_seq ?_)); (refine w_s [] [st.next + 1] [(0, true), (1, true), (2, true), (3, true), (5, true), (6, true), (7, true), (8, true), (9, true), (4, true), (10, true), (11, true), (12, true)] ?_; intro J hJ; simp [f5, f11, f12, hltT, hd2, hgb, e1])
  refine dcallK_ofE (twin33 q _ (by omega) (by omega)) (by simp) ?_; rintro r s1 ⟨rfl, h1⟩
  rw [h1]; clear h1 s1
  refine ⟨fun h => by first | (cases h; done) | simp [hgb, e1], ?_⟩
  (refine d_go ?_; simp [f5, f11, f12, hltT, hd2, hgb, e1])
  refine dcallK_ofE (next33 b hb q _ hvb heb hxT) (by simp) ?_; rintro r s1 ⟨rfl, h1⟩
  rw [h1]; clear h1 s1
  refine ⟨fun h => by first | (cases h; done) | simp [hgb, e1], ?_⟩
  (refine d_go ?_; simp [hgb, e1]; (repeat refine ca ?_); (refine hJ _ _ ?_; clear hJ J; simp only [ak, reduceIte]))
  (repeat' (first | refine awp_seq ?_ | refine awp_block ?_ | (refine w_e [] ?_; intro J hJ; simp only []; simp []; (refine hJ _ _ ?_; clear hJ J; simp only [ak, reduceIte]))))
  refine awp_loop (fun z fr s => ∃ (j : Nat) (A B : List Int), z = 2 - j ∧ j ≤ 2 ∧ LaM a b x y st (F ++ A) (T ++ B) fr s ∧ LaC a b (F ++ A) (T ++ B) k ∧ (∀ i, i < j → At2 (F ++ A) (T ++ B) ([tw p, sg a p].getD i 0) ([tw q, sg b q].getD i 0)) ∧ fr 12 = i k ∧ (∃ t13 t14, fr 13 = .sl t13 2 (us [tw p, sg a p]) ∧ fr 14 = .sl t14 2 (us [tw q, sg b q])) ∧ fr 15 = i j) 2 ?_ ?_
  · refine ⟨0, [], [], rfl, by omega, ?_, by simpa using hC, fun i hi => by omega, by simp [f12], ⟨s.next, s.next + 1, by simp, by simp⟩, by simp⟩
    rw [List.append_nil, List.append_nil]
    refine ⟨hLa, by simp [f4], by simp [f5], ⟨tF, tT, by simp [f10], by simp [f11], ?_, ?_, hne, hlo, by simp; omega⟩, ?_, ?_, (hkp.trans (Keeps.new _ _)).trans (Keeps.new _ _)⟩
    · simp [show ¬ tF = s.next by omega, show ¬ tF = s.next + 1 by omega, hF]
    · simp [show ¬ tT = s.next by omega, show ¬ tT = s.next + 1 by omega, hT]
    · simp [show ¬ st.next = s.next by omega, show ¬ st.next = s.next + 1 by omega, hga]
    · simp [e1, show ¬ st.next = s.next by omega, hgb]
  clear hM hga hgb hgb' hkp hF hT hlo hhi f4 f5 f10 f11 f12 hne e1 hd1 hd2 fr s
  have hnW : ∀ i, i < 2 → Nxt2 a b x y ([tw p, sg a p].getD i 0) ([tw q, sg b q].getD i 0) := fun i hi => by
    match i, hi with
    | 0, _ => exact hn1
    | 1, _ => exact hn2
  have hWl : [tw p, sg a p].length = 2 := rfl
  have hWl' : [tw q, sg b q].length = 2 := rfl
  have hdW := fun j hj => us_drop_getD [tw p, sg a p] j hj
  have hdW' := fun j hj => us_drop_getD [tw q, sg b q] j hj
  have hlast : ∀ A B : List Int, LaC a b (F ++ A) (T ++ B) k → (∀ i, i < 2 → At2 (F ++ A) (T ++ B) ([tw p, sg a p].getD i 0) ([tw q, sg b q].getD i 0)) → LaC a b (F ++ A) (T ++ B) (k + 1) := fun A B h1 h2 => hCk _ _ ⟨A, B, rfl, rfl⟩ h1 (h2 0 (by omega)) (h2 1 (by omega))
  generalize [tw p, sg a p] = W at *
  generalize [tw q, sg b q] = W' at *
  clear hn1 hn2 hCk
  rintro z fr s ⟨j, A, B, rfl, hj2, hM, hCA, hAt, f12, ⟨t13, t14, f13, f14⟩, f15⟩ JI hJI
  obtain ⟨hLa', f4, f5, ⟨tF, tT, f10, f11, hF, hT, hne, hlo, hhi⟩, hga, hgb, hkp⟩ := id hM
  have hlen' := hLa'.len
  have hle' := hLa'.le
  by_cases hjlt : j < 2
  rotate_left
  · clear hJI
    obtain rfl : j = 2 := by omega
    have hw := nat_add_one k (by omega)
    (repeat' (first | refine awp_seq ?_ | (refine awp_exit ?_; simp only [ak, reduceIte]) | (refine awp_cond ?_; simp [f15, f12, hw]) | (refine w_e [] ?_; intro J hJ; simp only []; simp [f15, f12, hw]; (refine hJ _ _ ?_; clear hJ J; simp only [ak, reduceIte]))))
    refine hJJ (2 * a.g.es.length - (k + 1)) _ _ (by omega) ⟨k + 1, F ++ A, T ++ B, rfl, by simp; omega, ?_, hlast A B hCA hAt, by simp⟩
    exact ⟨hLa', by simp [f4], by simp [f5], ⟨tF, tT, by simp [f10], by simp [f11], hF, hT, hne, hlo, hhi⟩, hga, hgb, hkp⟩
  have hn := hnW j hjlt
  have hd1 := hdW j (by omega)
  have hd2 := hdW' j (by omega)
  have hAt2 : ∀ A' B' : List Int, At2 ((F ++ A) ++ A') ((T ++ B) ++ B') (W.getD j 0) (W'.getD j 0) → ∀ i, i < j + 1 → At2 ((F ++ A) ++ A') ((T ++ B) ++ B') (W.getD i 0) (W'.getD i 0) := fun A' B' h i hi => by
    by_cases e : i = j
    · subst e; exact h
    · exact (hAt i (by omega)).app hlen' A' B'
  generalize W.getD j 0 = w at *
  generalize W'.getD j 0 = w' at *
  have hji : (j : Int) < 2 := by omega
  have hj' : j < 2 := hjlt
  have hw := nat_add_one j (by omega)
  have hkF' : k ≤ (F ++ A).length := by simp; omega
  have hass := fun A' => List.append_assoc F A A'
  have hass' := fun B' => List.append_assoc T B B'
  generalize hFA : F ++ A = FF at *
  generalize hTB : T ++ B = TT at *
  have hsm1 : small FF := by unfold small; omega
  have hsm2 : small TT := by unfold small; omega
  (repeat' (first | refine awp_seq ?_ | refine awp_block ?_ | (refine awp_skip ?_; simp only [ak, reduceIte]) | (refine awp_cond ?_; simp [f15, hji]) | (refine w_e [] ?_; intro J hJ; simp only []; simp [f15, hji]; (refine hJ _ _ ?_; clear hJ J; simp only [ak, reduceIte]))))
  (refine w_s [] [] [(0, true), (1, true), (2, true), (3, true), (4, true), (6, true), (7, true), (8, true), (9, true), (10, true), (5, true), (11, true), (12, true), (13, true)] ?_; intro J hJ; simp [f10, f11, f13, f14, f15, hd1, hd2, hj', hWl, hWl']; (repeat refine ca ?_))
  refine dcallK_ofE (Find FF tF w _ hsm1) (by simp) ?_; rintro r s1 ⟨rfl, h1⟩
  rw [h1]; clear h1 s1
  refine ⟨fun h => by first | (cases h; done) | simp, ?_⟩
  (refine d_go ?_; simp [f10, f11, f13, f14, f15, hd1, hd2, hj', hWl, hWl'])
  refine dcallK_ofE (Find TT tT w' _ hsm2) (by simp) ?_; rintro r s1 ⟨rfl, h1⟩
  rw [h1]; clear h1 s1
  refine ⟨fun h => by first | (cases h; done) | simp, ?_⟩
  (refine d_go ?_; simp []; (refine hJ _ _ ?_; clear hJ J; simp only [ak, reduceIte]))
  by_cases hpq : gi FF w = gi TT w'
  rotate_left
  · clear hJI hJJ
    have hno := hLa'.fail hn hpq
    generalize gi FF w = g1 at *
    generalize gi TT w' = g2 at *
    have hpb : (g1 == g2) = false := by simpa using hpq
    (repeat' (first | refine awp_seq ?_ | (refine awp_ret ?_; simp only [ak, reduceIte]; simp [hpq, hpb]) | (refine awp_cond ?_; simp [hpq, hpb]) | (refine w_e [] ?_; intro J hJ; simp only []; simp [hpq, hpb]; (refine hJ _ _ ?_; clear hJ J; simp only [ak, reduceIte]))))
    exact ⟨⟨0, false, rfl, ⟨fun h => absurd h (by simp), fun h => absurd h hno⟩, fun h => absurd h (by simp)⟩, hkp⟩
  by_cases hin : w ∈ FF
  · have hin' : w' ∈ TT := by
      have := (gi_neg FF w)
      have h2 := (gi_neg TT w')
      rw [hpq] at this
      exact Classical.byContradiction fun hc => (this.1 (h2.2 hc)) hin
    have hge : ¬ gi TT w' < 0 := fun h => (gi_neg TT w').1 h hin'
    have hA2 : At2 FF TT w w' := by
      rw [gi_mem hin, gi_mem hin'] at hpq
      obtain ⟨h1, h2⟩ := idx_lt hin
      obtain ⟨h3, h4⟩ := idx_lt hin'
      exact ⟨FF.idxOf w, h1, h2, by rw [show FF.idxOf w = TT.idxOf w' by omega]; exact h4⟩
    have hA3 := hAt2 [] [] (by simpa using hA2)
    rw [List.append_nil, List.append_nil] at hA3
    rw [hpq]
    generalize gi TT w' = g2 at *
    (repeat' (first | refine awp_seq ?_ | (refine awp_skip ?_; simp only [ak, reduceIte]) | (refine awp_cond ?_; simp [hge, f15, hw]) | (refine w_e [] ?_; intro J hJ; simp only []; simp [hge, f15, hw]; (refine hJ _ _ ?_; clear hJ J; simp only [ak, reduceIte]))))
    refine hJI (2 - (j + 1)) _ _ (by omega) ⟨j + 1, A, B, rfl, by omega, ?_, by rw [hFA, hTB]; exact hCA, by rw [hFA, hTB]; exact hA3, by simp [f12], ⟨t13, t14, by simp [f13], by simp [f14]⟩, by simp⟩
    rw [hFA, hTB]
    exact ⟨hLa', by simp [f4], by simp [f5], ⟨tF, tT, by simp [f10], by simp [f11], hF, hT, hne, hlo, hhi⟩, hga, hgb, hkp⟩
  · have hg1 := gi_not hin
    have hin' : w' ∉ TT := fun h => by rw [hg1, gi_mem h] at hpq; omega
    have hg2 := gi_not hin'
    rw [hg1, hg2]
    have hadd := hLa'.add hn hin hin'
    have hA3 := hAt2 [w] [w'] ⟨FF.length, by simp, getD_app_last _ _, by rw [hlen']; exact getD_app_last _ _⟩
    have hCA3 := hCA.app hlen' hkF' [w] [w']
    have c1 : ¬ tF = s.next := by omega
    have c2 : ¬ tF = 0 := by omega
    have c3 : ¬ tT = 0 := by omega
    have c4 : ¬ tT = s.next := by omega
    have c5 : ¬ tT = s.next + 1 := by omega
    have c6 : ¬ tT = s.next + 2 := by omega
    have c7 : ¬ tT = tF := fun e => hne e.symm
    (repeat' (first | refine awp_seq ?_ | (refine awp_skip ?_; simp only [ak, reduceIte]) | (refine awp_cond ?_; simp [f10, f11, f13, f14, f15, hd1, hd2, hj', hF, hT, c1, c2, c3, c4, c5, c6, c7, hw]) | (refine w_e [] ?_; intro J hJ; simp only []; simp [f10, f11, f13, f14, f15, hd1, hd2, hj', hF, hT, c1, c2, c3, c4, c5, c6, c7, hw]; (repeat refine ca ?_); (refine hJ _ _ ?_; clear hJ J; simp only [ak, reduceIte]))))
    refine hJI (2 - (j + 1)) _ _ (by omega) ⟨j + 1, A ++ [w], B ++ [w'], rfl, by omega, ?_, by rw [← hass, ← hass']; exact hCA3, by rw [← hass, ← hass']; exact hA3, by simp [f12], ⟨t13, t14, by simp [f13], by simp [f14]⟩, by simp⟩
    rw [← hass, ← hass']
    refine ⟨hadd, by simp [f4], by simp [f5], ⟨s.next + 1, s.next + 3, by simp, by simp, ?_, ?_, by omega, by omega, by simp⟩, ?_, ?_, ?_⟩
    · simp [c1, c5, show ¬ s.next + 1 = tF by omega, show ¬ s.next + 1 = tT by omega]
    · simp
    · simp [show ¬ st.next = s.next by omega, show ¬ st.next = s.next + 1 by omega, show ¬ st.next = s.next + 2 by omega, show ¬ st.next = s.next + 3 by omega, show ¬ st.next = tF by omega, show ¬ st.next = tT by omega, hga]
    · simp [show ¬ st.next = s.next by omega, show ¬ st.next = s.next + 1 by omega, show ¬ st.next = s.next + 2 by omega, show ¬ st.next + 1 = s.next by omega, show ¬ st.next + 1 = s.next + 1 by omega, show ¬ st.next + 1 = s.next + 2 by omega, show ¬ st.next + 1 = s.next + 3 by omega, show ¬ st.next + 1 = tF by omega, show ¬ st.next + 1 = tT by omega, hgb]
    · (repeat (first | exact hkp | (refine Keeps.trans ?_ (Keeps.new _ _)) | (refine Keeps.set ?_ (by omega) _)))

end Go.Proofs.YtlnefdmdabhobaaGreat.Aw

namespace Go.Proofs.YtlnefdmdabhobaaGreat.Aw
open Go Go.RowKit Go.Proofs.YtlnefdmdabhobaaGreat.Pl Go.Proofs.YtlnefdmdabhobaaGreat.Eu
set_option linter.unusedSimpArgs false
set_option linter.unusedVariables false

theorem rDartsK (m : Mp) (ho : MapOk m) (c : List Int) (t : Nat) (st : St) (he : m.g.es.length ≤ 100) (hc : c.length ≤ 100) :
    ACalls Tryz.prog 172 [.ag (mpL m), .sl t c.length (us c)] st fun r st' => r = .sl 0 (endsL m.g.es c).length (us (endsL m.g.es c)) ∧ Keeps st st' := by
  have hid : idOk m.g.es := fun x hx => by have := ho.g.pos x hx; omega
  refine acalls_z0 ?_
  refine acalls_of_body tabOk Tryz.func172 rfl rfl Tryz.ntmps172 (rs := [.tmp 4]) rfl (by simp) ?_
  refine awp_posG fun hpos => ?_
  (repeat (refine awp_seq ?_)); (refine w_e [] ?_; intro J hJ; simp only []; simp []; (refine hJ _ _ ?_; clear hJ J; simp only [ak, reduceIte]))
  (repeat (refine awp_seq ?_)); (refine w_e [] ?_; intro J hJ; simp only []; simp []; (refine hJ _ _ ?_; clear hJ J; simp only [ak, reduceIte]))
  refine awp_own 5 48 1 (by simp) ?_
  (repeat' (first | refine awp_seq ?_ | refine awp_block ?_ | (refine w_e [] ?_; intro J hJ; simp only []; simp []; (refine hJ _ _ ?_; clear hJ J; simp only [ak, reduceIte]))))
  refine awp_range 10 9 11 20 (c.length) (fun j fr st2 => fr 2 = .pt st.next 0 ∧ fr 8 = .sl t c.length (us c) ∧ st2.H st.next = .box 28 3 (mpL m) ∧ Keeps st st2 ∧ (endsL m.g.es (c.take j)).length ≤ 200 * j ∧ ∃ tt, fr 5 = .sl tt (endsL m.g.es (c.take j)).length (us (endsL m.g.es (c.take j))) ∧ st2.H tt = .own 48 1 (endsL m.g.es (c.take j)).length ∧ st.next < tt ∧ tt < st2.next) ?_ ?_ ?_
  · exact ⟨by simp, by simp, by simp, (Keeps.new _ _).trans (Keeps.new _ _), by simp [endsL], st.next + 1, by simp [endsL], by simp [endsL], by omega, by simp⟩
  · rintro j fr s hlt ⟨f2, f8, hG, hkp, hle, tt, f5, hO, hlo, hhi⟩ fi fn JO hJO
    have hd := us_drop_getD c j hlt
    have htk : endsL m.g.es (c.take (j + 1)) = endsL m.g.es (c.take j) ++ ends m.g.es (c.getD j 0) := by
      rw [List.take_succ_eq_append_getElem hlt, ← getD_lt _ _ hlt]; simp [endsL, List.flatMap_append]
    have hlen : (ends m.g.es (c.getD j 0)).length ≤ 2 * m.g.es.length := by
      rw [← darts_length]
      exact List.Nodup.length_le_of_subset (rise_nodup (ends_rise ho.g.ids _)) fun x hx => ends_dart hx
    simp only [htk] at hJO
    generalize endsL m.g.es (c.take j) = E at *
    generalize c.getD j 0 = v at *
    clear htk
    (repeat' (first | refine awp_seq ?_ | (refine w_e [] ?_; intro J hJ; simp only []; simp [f2, f8, fi, fn, hd, hlt, hG]; (try (refine hJ _ _ ?_; clear hJ J; simp only [ak, reduceIte])))))
    refine callK_ofE (ref_Ends m.g v _ (by omega) hid) (by simp) ?_; rintro r s1 ⟨⟨t1, rfl⟩, hk1⟩
    have hn1 := hk1.next
    have hO1 := (hk1.H tt hhi).trans hO
    have hG1 := (hk1.H st.next (by omega)).trans hG
    generalize ends m.g.es v = X at *
    have hone := us_one X
    have e1 : ¬ tt = 0 := by omega
    (repeat' (refine e_go ?_; simp [f5, hO1, hone, e1]; (repeat refine ca ?_); (refine hJ _ _ ?_; clear hJ J; simp only [ak, reduceIte])))
    refine hJO _ _ (by simp [fi]) (by simp [fn]) ⟨by simp [f2], by simp [f8], ?_, ?_, by simp; omega, s1.next, by simp, by simp, by omega, by simp⟩
    · simp [show ¬ st.next = s1.next by omega, show ¬ st.next = tt by omega, hG1]
    · exact ((hkp.trans hk1).set (by omega) _).trans (Keeps.new _ _)
  · rintro fr s ⟨f2, f8, hG, hkp, hle, tt, f5, hO, hlo, hhi⟩
    rw [List.take_length] at f5
    (repeat' (first | refine awp_seq ?_ | (refine awp_ret ?_; simp only [ak, reduceIte]; simp [f5]) | (refine w_e [] ?_; intro J hJ; simp only []; simp [f5]; (refine hJ _ _ ?_; clear hJ J; simp only [ak, reduceIte]))))
    exact ⟨by simp [z0, z0L_map], hkp⟩
theorem rDarts (m : Mp) (ho : MapOk m) (c : List Int) (t : Nat) (st : St) (he : m.g.es.length ≤ 100) (hc : c.length ≤ 100) :
    ACalls Tryz.prog 172 [.ag (mpL m), .sl t c.length (us c)] st fun r st' => r = .sl 0 (endsL m.g.es c).length (us (endsL m.g.es c)) ∧ st' = st :=
  acalls_tidy (rDartsK m ho c t st he hc) fun r h => by
    subst h
    have : ∀ l : List Int, belL st.next (us l) := fun l => by
      induction l with
      | nil => simp only [us, List.map_nil, belL]
      | cons x l ih => simp only [us, List.map_cons, belL]; exact ⟨trivial, ih⟩
    exact ⟨.inl rfl, this _⟩

theorem part_endsL_le {m : Mp} (ho : MapOk m) {v : Int} {c : List Int} (hc : IsPart m.g v c) : (endsL m.g.es c).length ≤ 2 * m.g.es.length := by
  by_cases h : endsL m.g.es c = []
  · rw [h]; simp
  · obtain ⟨k1, k2, D, hD, q1, _, _⟩ := part_walk ho hc (getD_mem (List.length_pos_iff.2 h))
    have hwk := hD.isWk ho (dart_ends ho.g.ids k1).1
    rw [← q1.length_eq, ← darts_length]
    refine List.Nodup.length_le_of_subset hwk.nd fun x hx => ?_
    exact (part_walk ho hc (q1.mem_iff.1 hx)).1
theorem rLaid' (a b : Mp) (ha : MapOk a) (hb : MapOk b) (x y : Int) (st : St) (hva : a.g.vs.length ≤ 1000) (hea : a.g.es.length ≤ 1000) (hvb : b.g.vs.length ≤ 1000) (heb : b.g.es.length ≤ 1000) (hx : x ∈ darts a.g.es) (hy : y ∈ darts b.g.es) :
    ACalls Tryz.prog 173 [.ag (mpL a), .ag (mpL b), u x, u y] st fun r st' => LaidR a b x y r ∧ st' = st :=
  acalls_tidy (rLaid a b ha hb x y st hva hea hvb heb hx hy) fun r h => by
    obtain ⟨n, ok, rfl, _⟩ := h
    exact ⟨trivial, trivial, trivial⟩

set_option maxHeartbeats 4000000 in
theorem rPartK (a b : Mp) (ha : MapOk a) (hb : MapOk b) (x y : List Int) (t t' : Nat) (st : St) (hva : a.g.vs.length ≤ 100) (hea : a.g.es.length ≤ 100) (hvb : b.g.vs.length ≤ 100) (heb : b.g.es.length ≤ 100) {v w : Int} (hx : IsPart a.g v x) (hy : IsPart b.g w y) :
    ACalls Tryz.prog 114 [.ag (mpL a), .ag (mpL b), .sl t x.length (us x), .sl t' y.length (us y)] st fun r st' => (∃ ok : Bool, r = bb ok ∧ (ok = true ↔ PartEq a b x y)) ∧ Keeps st st' := by
  have hxl := part_len hx
  have hyl := part_len hy
  have hxd : ∀ d ∈ endsL a.g.es x, d ∈ darts a.g.es := fun d hd => (part_walk ha hx hd).1
  have hyd : ∀ d ∈ endsL b.g.es y, d ∈ darts b.g.es := fun d hd => (part_walk hb hy hd).1
  have hln : ∀ {p q : Int} {r : LV}, LaidR a b p q r → p ∈ endsL a.g.es x → ∃ (n : Nat) (ok : Bool), r = .tu [i n, bb ok] ∧ (ok = true ↔ LaidTo a b p q) ∧ (ok = true → n = (endsL a.g.es x).length) := fun {p q r} ⟨n, ok, h1, h2, h3⟩ hp => ⟨n, ok, h1, h2, fun h => h3 h v x hx hp⟩
  have hYl := part_endsL_le hb hy
  unfold PartEq
  refine acalls_of_body tabOk Tryz.func114 rfl rfl Tryz.ntmps114 (rs := [.tmp 8]) rfl (by simp) ?_
  (repeat' (first | refine awp_seq ?_ | (refine w_e [] ?_; intro J hJ; simp only []; simp []; (refine hJ _ _ ?_; clear hJ J; simp only [ak, reduceIte]))))
  (refine w_s [] [st.next, st.next + 1] [(0, true), (1, true), (3, true), (4, true), (2, true), (5, true), (6, true), (7, true)] ?_; intro J hJ; simp [])
  refine dcallK_ofE (rDarts a ha x t _ hea (by omega)) (by simp) ?_; rintro r s1 ⟨rfl, h1⟩
  rw [h1]; clear h1 s1
  refine ⟨fun h => by first | (cases h; done) | simp, ?_⟩
  (refine d_go ?_; simp [])
  refine dcallK_ofE (rDarts b hb y t' _ heb (by omega)) (by simp) ?_; rintro r s1 ⟨rfl, h1⟩
  rw [h1]; clear h1 s1
  refine ⟨fun h => by first | (cases h; done) | simp, ?_⟩
  (refine d_go ?_; simp []; (refine hJ _ _ ?_; clear hJ J; simp only [ak, reduceIte]))
  generalize endsL a.g.es x = X at *
  generalize endsL b.g.es y = Y at *
  by_cases hl : x.length = y.length ∧ X.length = Y.length
  rotate_left
  · by_cases h1 : x.length = y.length
    · have h2 : ¬ X.length = Y.length := fun h => hl ⟨h1, h⟩
      have h2' : ¬ (X.length : Int) = Y.length := by omega
      have h1' : (x.length : Int) = y.length := by omega
      (repeat' (first | refine awp_seq ?_ | (refine awp_ret ?_; simp only [ak, reduceIte]; simp [h1', h2', h1, h2]) | (refine awp_cond ?_; simp [h1', h2', h1, h2]) | (refine w_e [] ?_; intro J hJ; simp only []; simp [h1', h2', h1, h2]; (refine hJ _ _ ?_; clear hJ J; simp only [ak, reduceIte]))))
      first | exact (Keeps.new _ _).trans (Keeps.new _ _) | exact ⟨⟨false, rfl, fun h => absurd h (by simp), fun h => absurd h.2.1 h2⟩, (Keeps.new _ _).trans (Keeps.new _ _)⟩
    · have h1' : ¬ (x.length : Int) = y.length := by omega
      have hb1 : ((x.length : Int) != y.length) = true := by simpa using h1'
      (repeat' (first | refine awp_seq ?_ | (refine awp_ret ?_; simp only [ak, reduceIte]; simp [h1', h1, hb1]) | (refine awp_cond ?_; simp [h1', h1, hb1]) | (refine w_e [] ?_; intro J hJ; simp only []; simp [h1', h1, hb1]; (refine hJ _ _ ?_; clear hJ J; simp only [ak, reduceIte]))))
      first | exact (Keeps.new _ _).trans (Keeps.new _ _) | exact ⟨⟨false, rfl, fun h => absurd h (by simp), fun h => absurd h.1 h1⟩, (Keeps.new _ _).trans (Keeps.new _ _)⟩
  obtain ⟨h1, h2⟩ := hl
  have h2' : (X.length : Int) = Y.length := by omega
  have h1' : (x.length : Int) = y.length := by omega
  by_cases h0 : X = []
  · subst h0
    have h3 : Y.length = 0 := h2.symm
    (repeat' (first | refine awp_seq ?_ | (refine awp_skip ?_; simp only [ak, reduceIte]) | (refine awp_ret ?_; simp only [ak, reduceIte]; simp [h1', h2', h1, h3]) | (refine awp_cond ?_; simp [h1', h2', h1, h3]) | (refine w_e [] ?_; intro J hJ; simp only []; simp [h1', h2', h1, h3]; (refine hJ _ _ ?_; clear hJ J; simp only [ak, reduceIte]))))
    first | exact (Keeps.new _ _).trans (Keeps.new _ _) | exact ⟨⟨true, rfl, fun _ => ⟨h1, h2, .inl rfl⟩, fun _ => rfl⟩, (Keeps.new _ _).trans (Keeps.new _ _)⟩
  have h0l : 0 < X.length := List.length_pos_iff.2 h0
  have h0' : ¬ (X.length : Int) = 0 := by omega
  have h0'' : ¬ X.length = 0 := by omega
  obtain ⟨p, X', rfl⟩ : ∃ p X', X = p :: X' := by
    cases X with
    | nil => exact absurd rfl h0
    | cons p X' => exact ⟨p, X', rfl⟩
  have hpX : p ∈ p :: X' := by simp
  have hYn : ¬ Y = [] := fun h => by subst h; simp at h2
  have hY0 : ¬ (Y.length : Int) = 0 := by omega
  have hY1 : ¬ Y.length = 0 := by omega
  (repeat' (first | refine awp_seq ?_ | refine awp_block ?_ | (refine awp_skip ?_; simp only [ak, reduceIte]) | (refine awp_cond ?_; simp [h1', h2', h1, h2, h0', h0, h0'', h0l, hYn, hY0, hY1]) | (refine w_e [] ?_; intro J hJ; simp only []; simp [h1', h2', h1, h2, h0', h0, h0'', h0l, hYn, hY0, hY1]; (refine hJ _ _ ?_; clear hJ J; simp only [ak, reduceIte]))))
  refine awp_range 38 37 39 59 (Y.length) (fun j fr st2 => fr 4 = .pt st.next 0 ∧ fr 5 = .pt (st.next + 1) 0 ∧ fr 9 = .sl 0 (X'.length + 1) (us (p :: X')) ∧ fr 36 = .sl 0 Y.length (us Y) ∧ st2.H st.next = .box 28 3 (mpL a) ∧ st2.H (st.next + 1) = .box 28 3 (mpL b) ∧ Keeps st st2 ∧ ∀ k, k < j → ¬ LaidTo a b p (Y.getD k 0)) ?_ ?_ ?_
  · exact ⟨by simp, by simp, by simp [← h2], by simp, by simp, by simp, (Keeps.new _ _).trans (Keeps.new _ _), fun k hk => by omega⟩
  · rintro j fr s hlt ⟨f4, f5, f9, f36, hG, hG2, hkp, hno⟩ fi fn JO hJO
    have hd := us_drop_getD Y j hlt
    have hqY := getD_mem hlt
    have hno2 : ¬ LaidTo a b p (Y.getD j 0) → ∀ k, k < j + 1 → ¬ LaidTo a b p (Y.getD k 0) := fun h k hk => by
      by_cases e : k = j
      · subst e; exact h
      · exact hno k (by omega)
    generalize Y.getD j 0 = q at *
    (repeat' (first | refine awp_seq ?_ | (refine w_e [] ?_; intro J hJ; simp only []; simp [f36, fi, fn, hd, hlt]; (refine hJ _ _ ?_; clear hJ J; simp only [ak, reduceIte]))))
    (refine w_s [] [st.next, st.next + 1] [(0, true), (1, true), (2, true), (3, true), (4, true), (5, true), (6, false), (7, true), (8, true), (9, true), (10, true), (11, true)] ?_; intro J hJ; simp [f4, f5, f9, hG, hG2])
    refine dcallK_ofE (rLaid' a b ha hb p q _ (by omega) (by omega) (by omega) (by omega) (hxd _ hpX) (hyd _ hqY)) (by simp) ?_; rintro r s1 ⟨hr, h1⟩
    rw [h1]; clear h1 s1
    obtain ⟨n, ok, rfl, hok, hnn⟩ := hln hr hpX
    refine ⟨fun h => by first | (cases h; done) | simp [hG, hG2], ?_⟩
    (refine d_go ?_; simp [hG, hG2]; (refine hJ _ _ ?_; clear hJ J; simp only [ak, reduceIte]))
    cases ok with
    | true =>
      have hn := hnn rfl
      have hn' : (n : Int) = X'.length + 1 := by simp at hn; omega
      (repeat' (first | refine awp_seq ?_ | (refine awp_ret ?_; simp only [ak, reduceIte]; simp [f9, hn', h2]) | (refine awp_cond ?_; simp [f9, hn', h2]) | (refine w_e [] ?_; intro J hJ; simp only []; simp [f9, hn', h2]; (refine hJ _ _ ?_; clear hJ J; simp only [ak, reduceIte]))))
      exact ⟨⟨q, hqY, hok.1 rfl⟩, hkp⟩
    | false =>
      (repeat' (first | refine awp_seq ?_ | (refine awp_skip ?_; simp only [ak, reduceIte]) | (refine awp_cond ?_; simp []) | (refine w_e [] ?_; intro J hJ; simp only []; simp []; (refine hJ _ _ ?_; clear hJ J; simp only [ak, reduceIte]))))
      exact hJO _ _ (by simp [fi]) (by simp [fn]) ⟨by simp [f4], by simp [f5], by simp [f9], by simp [f36], hG, hG2, hkp, hno2 fun h => absurd (hok.2 h) (by simp)⟩
  · rintro fr s ⟨f4, f5, f9, f36, hG, hG2, hkp, hno⟩
    (repeat' (first | refine awp_seq ?_ | (refine awp_ret ?_; simp only [ak, reduceIte]; simp []) | (refine w_e [] ?_; intro J hJ; simp only []; simp []; (refine hJ _ _ ?_; clear hJ J; simp only [ak, reduceIte]))))
    have hfin : ∀ d ∈ Y, ¬ LaidTo a b p d := fun d hd h => by
      obtain ⟨k1, k2⟩ := idx_lt hd
      exact absurd (by rw [k2]; exact h) (hno _ k1)
    first
      | exact ⟨hfin, hkp⟩
      | trace_state
theorem rPart (a b : Mp) (ha : MapOk a) (hb : MapOk b) (x y : List Int) (t t' : Nat) (st : St) (hva : a.g.vs.length ≤ 100) (hea : a.g.es.length ≤ 100) (hvb : b.g.vs.length ≤ 100) (heb : b.g.es.length ≤ 100) {v w : Int} (hx : IsPart a.g v x) (hy : IsPart b.g w y) :
    ACalls Tryz.prog 114 [.ag (mpL a), .ag (mpL b), .sl t x.length (us x), .sl t' y.length (us y)] st fun r st' => (∃ ok : Bool, r = bb ok ∧ (ok = true ↔ PartEq a b x y)) ∧ st' = st :=
  acalls_tidy (rPartK a b ha hb x y t t' st hva hea hvb heb hx hy) fun r h => by
    obtain ⟨ok, rfl, _⟩ := h
    trivial

end Go.Proofs.YtlnefdmdabhobaaGreat.Aw

namespace Go.Proofs.YtlnefdmdabhobaaGreat.Aw
open Go Go.RowKit Go.Proofs.YtlnefdmdabhobaaGreat.Pl Go.Proofs.YtlnefdmdabhobaaGreat.Eu
set_option linter.unusedSimpArgs false
set_option linter.unusedVariables false

def sel : List (List Int) → List Bool → List (List Int)
  | x :: l, true :: t => x :: sel l t
  | _ :: l, false :: t => sel l t
  | _, _ => []
theorem sel_rep (l : List (List Int)) (n : Nat) : sel l (List.replicate n false) = [] := by
  induction l generalizing n with
  | nil => cases n <;> rfl
  | cons x l ih =>
    cases n with
    | zero => rfl
    | succ n => rw [List.replicate_succ]; exact ih n
theorem sel_sub (l : List (List Int)) (t : List Bool) : (sel l t).Sublist l := by
  induction l generalizing t with
  | nil => cases t <;> exact List.nil_sublist _
  | cons x l ih =>
    match t with
    | [] => exact List.nil_sublist _
    | true :: t => exact (ih t).cons_cons _
    | false :: t => exact (ih t).cons _
theorem sel_set (l : List (List Int)) (t : List Bool) (k : Nat) (hk : k < l.length) (hl : t.length = l.length) (ht : t.getD k true = false) : (sel l (t.set k true)).Perm (l.getD k [] :: sel l t) := by
  induction l generalizing t k with
  | nil => simp at hk
  | cons x l ih =>
    match t, k with
    | [], _ => simp at hl
    | b :: t, 0 =>
      have hb : b = false := by simpa using ht
      subst hb
      exact .refl _
    | true :: t, k + 1 =>
      have := ih t k (by simpa using hk) (by simpa using hl) (by simpa using ht)
      exact (this.cons x).trans (.swap _ _ _)
    | false :: t, k + 1 => exact ih t k (by simpa using hk) (by simpa using hl) (by simpa using ht)
theorem sel_count (l : List (List Int)) (t : List Bool) (x : List Int) (hl : t.length = l.length) (h : ∀ k, k < l.length → t.getD k true = false → l.getD k [] ≠ x) : l.count x ≤ (sel l t).count x := by
  induction l generalizing t with
  | nil => simp
  | cons y l ih =>
    match t with
    | [] => simp at hl
    | true :: t =>
      have := ih t (by simpa using hl) fun k hk h1 => h (k + 1) (by simpa using hk) (by simpa using h1)
      rw [sel, List.count_cons, List.count_cons]; omega
    | false :: t =>
      have := ih t (by simpa using hl) fun k hk h1 => h (k + 1) (by simpa using hk) (by simpa using h1)
      have h0 : y ≠ x := h 0 (by simp) rfl
      rw [sel, List.count_cons, if_neg (by simpa using h0)]; exact this
/-- After the first j parts are paired; with the next one paired (done), or no partner below k. -/
def PkI (KA KB : List (List Int)) (j k : Nat) (dn : Bool) (tk : List Bool) : Prop :=
  tk.length = KB.length ∧ (dn = true → (KA.take (j + 1)).Perm (sel KB tk)) ∧ (dn = false → (KA.take j).Perm (sel KB tk) ∧ ∀ i, i < k → tk.getD i true = false → KB.getD i [] ≠ KA.getD j [])
theorem take_one {KA : List (List Int)} {j : Nat} (hj : j < KA.length) : KA.take (j + 1) = KA.take j ++ [KA.getD j []] := by
  rw [List.take_succ_eq_append_getElem hj, List.getD_eq_getElem?_getD, List.getElem?_eq_getElem hj]; rfl
theorem PkI.none {KA KB : List (List Int)} {j : Nat} {tk : List Bool} (h : PkI KA KB j KB.length false tk) (hj : j < KA.length) : ¬ KA.Perm KB := fun hp => by
  obtain ⟨h1, _, h2⟩ := h
  obtain ⟨h3, h4⟩ := h2 rfl
  have c1 := sel_count KB tk (KA.getD j []) h1 h4
  have c2 := hp.count_eq (KA.getD j [])
  have c3 := h3.count_eq (KA.getD j [])
  have c4 := (List.take_sublist (j + 1) KA).count_le (KA.getD j [])
  rw [take_one hj, List.count_append, List.count_singleton_self] at c4
  omega
theorem PkI.all {KA KB : List (List Int)} {tk : List Bool} (hl : KA.length = KB.length) (h : (KA.take KA.length).Perm (sel KB tk)) : KA.Perm KB := by
  rw [List.take_length] at h
  have := (sel_sub KB tk).eq_of_length (by rw [← h.length_eq]; exact hl)
  rwa [this] at h
theorem PkI.hit {KA KB : List (List Int)} {j k : Nat} {tk : List Bool} (h : PkI KA KB j k false tk) (hj : j < KA.length) (hk : k < KB.length) (ht : tk.getD k true = false) (e : KB.getD k [] = KA.getD j []) : PkI KA KB j (k + 1) true (tk.set k true) := by
  obtain ⟨h1, _, h2⟩ := h
  refine ⟨by rw [List.length_set]; exact h1, fun _ => ?_, fun h => absurd h (by simp)⟩
  rw [take_one hj, ← e]
  exact ((List.perm_append_singleton _ _).trans ((h2 rfl).1.cons _)).trans (sel_set KB tk k hk h1 ht).symm
theorem PkI.miss {KA KB : List (List Int)} {j k : Nat} {tk : List Bool} (h : PkI KA KB j k false tk) (ht : tk.getD k true = false → KB.getD k [] ≠ KA.getD j []) : PkI KA KB j (k + 1) false tk := by
  obtain ⟨h1, _, h2⟩ := h
  refine ⟨h1, fun h => absurd h (by simp), fun _ => ⟨(h2 rfl).1, fun i hi => ?_⟩⟩
  by_cases ei : i = k
  · subst ei; exact ht
  · exact (h2 rfl).2 i (by omega)
theorem PkI.skip {KA KB : List (List Int)} {j k : Nat} {tk : List Bool} (h : PkI KA KB j k true tk) : PkI KA KB j (k + 1) true tk := ⟨h.1, h.2.1, fun h => absurd h (by simp)⟩

theorem belL_us (n : Nat) : ∀ l : List Int, belL n (us l) := fun l => by
  induction l with
  | nil => simp only [us, List.map_nil, belL]
  | cons x l ih => simp only [us, List.map_cons, belL]; exact ⟨trivial, ih⟩
theorem belL_rows3 (n : Nat) : ∀ R : List (List Int), belL n (rowsL3 R) := fun R => by
  induction R with
  | nil => simp only [rowsL3, List.map_nil, belL]
  | cons x l ih => simp only [rowsL3, List.map_cons, belL]; exact ⟨⟨.inl rfl, belL_us _ _⟩, ih⟩
theorem rParts (g : Gr) (st : St) (hg : Good g) (hv : g.vs.length ≤ 1000) (he : g.es.length ≤ 1000) :
    ACalls Tryz.prog 21 [.ag (grL g)] st fun r st' => (∃ R, r = .sl 0 R.length (rowsL3 R) ∧ PartsTo g g.vs.length R) ∧ st' = st := by
  refine acalls_tidy (Q := fun r => ∃ R, r = .sl 0 R.length (rowsL3 R) ∧ PartsTo g g.vs.length R) (acalls_z0 ((ref_Parts g st hg hv he).mono ?_)) ?_
  · rintro r s ⟨⟨t, R, rfl, h⟩, hk⟩
    refine ⟨⟨R, ?_, h⟩, hk⟩
    have : z0L (rowsL3 R) = rowsL3 R := by
      clear h
      induction R with
      | nil => rfl
      | cons x l ih => simp [rowsL3, z0, z0L_map]
    simp only [z0, this]
  · rintro r ⟨R, rfl, _⟩
    exact ⟨.inl rfl, belL_rows3 _ _⟩

def bbs (t : List Bool) : List LV := t.map bb
theorem zerosL_bb (n : Nat) : zerosL [bb false] n = bbs (List.replicate n false) := by
  induction n with
  | zero => rfl
  | succ n ih => rw [zerosL, ih, List.replicate_succ]; rfl
theorem bbs_drop (t : List Bool) (k : Nat) (hk : k < t.length) : (bbs t).drop k = bb (t.getD k true) :: bbs (t.drop (k + 1)) := by
  rw [bbs, bbs, ← List.map_drop, List.drop_eq_getElem_cons hk, List.map_cons, List.getD_eq_getElem?_getD, List.getElem?_eq_getElem hk]; rfl
theorem bbs_set (t : List Bool) (k : Nat) (hk : k < t.length) : (bbs t).take k ++ bb true :: (bbs t).drop (k + 1) = bbs (t.set k true) := by
  rw [bbs, bbs, ← List.map_take, ← List.map_drop, List.set_eq_take_append_cons_drop, if_pos hk]; simp

theorem bbs_len (t : List Bool) : (bbs t).length = t.length := by simp [bbs]

set_option maxHeartbeats 8000000 in
theorem rSame (a b : Mp) (ha : MapOk a) (hb : MapOk b) (st : St) (hva : a.g.vs.length ≤ 100) (hea : a.g.es.length ≤ 100) (hvb : b.g.vs.length ≤ 100) (heb : b.g.es.length ≤ 100) {c c' : List Int} (hc : IsCode a c) (hc' : IsCode b c') :
    ACalls Tryz.prog 53 [.ag (mpL a), .ag (mpL b)] st fun r st' => r = bb (decide (c = c')) ∧ Keeps st st' := by
  have hQ : ∀ A B, PartsTo a.g a.g.vs.length A → PartsTo b.g b.g.vs.length B → (c = c' ↔ (A.map (keyW a)).Perm (B.map (keyW b))) := fun A B hA hB => code_iff hc hc' hA hB
  have hT : c = c' → decide (c = c') = true := fun h => by simpa using h
  have hF : ¬ c = c' → decide (c = c') = false := fun h => by simpa using h
  generalize decide (c = c') = dd at *
  generalize (c = c') = PP at *
  clear hc hc'
  refine acalls_of_body tabOk Tryz.func53 rfl rfl Tryz.ntmps53 (rs := [.tmp 4]) rfl (by simp) ?_
  refine awp_posG fun hpos => ?_
  (repeat' (first | refine awp_seq ?_ | (refine w_e [] ?_; intro J hJ; simp only []; simp []; (refine hJ _ _ ?_; clear hJ J; simp only [ak, reduceIte]))))
  (refine w_s [] [st.next, st.next + 1] [(0, true), (1, true), (3, true), (4, true), (2, true), (5, true), (6, true), (7, true)] ?_; intro J hJ; simp [])
  refine dcallK_ofE (rParts a.g _ ha.g.toGood (by omega) (by omega)) (by simp) ?_; rintro r s1 ⟨⟨A, rfl, hA⟩, h1⟩
  rw [h1]; clear h1 s1
  refine ⟨fun h => by first | (cases h; done) | simp, ?_⟩
  (refine d_go ?_; simp [])
  refine dcallK_ofE (rParts b.g _ hb.g.toGood (by omega) (by omega)) (by simp) ?_; rintro r s1 ⟨⟨B, rfl, hB⟩, h1⟩
  rw [h1]; clear h1 s1
  refine ⟨fun h => by first | (cases h; done) | simp, ?_⟩
  (refine d_go ?_; simp []; (refine hJ _ _ ?_; clear hJ J; simp only [ak, reduceIte]))
  have hQ' := hQ A B hA hB
  have hK1 := (Keeps.new st (.box 28 3 (mpL a))).trans (Keeps.new _ (.box 28 3 (mpL b)))
  have hBl : B.length ≤ b.g.vs.length := hB.len
  by_cases hl : A.length = B.length
  rotate_left
  · have hl' : ¬ (A.length : Int) = B.length := by omega
    have hb1 : ((A.length : Int) != B.length) = true := by simpa using hl'
    obtain rfl := hF fun e => hl (by simpa using ((hQ'.1 e).length_eq))
    (repeat' (first | refine awp_seq ?_ | (refine awp_ret ?_; simp only [ak, reduceIte]; simp [hl', hl, hb1]) | (refine awp_cond ?_; simp [hl', hl, hb1]) | (refine w_e [] ?_; intro J hJ; simp only []; simp [hl', hl, hb1]; (refine hJ _ _ ?_; clear hJ J; simp only [ak, reduceIte]))))
    exact hK1
  have hkey : ∀ j, j < A.length → ∀ k, k < B.length → ((B.map (keyW b)).getD k [] = (A.map (keyW a)).getD j [] ↔ PartEq a b (A.getD j []) (B.getD k [])) := fun j hj k hk => by
    have e1 : (B.map (keyW b)).getD k [] = keyW b (B.getD k []) := by simp [List.getD_eq_getElem?_getD, hk]
    have e2 : (A.map (keyW a)).getD j [] = keyW a (A.getD j []) := by simp [List.getD_eq_getElem?_getD, hj]
    have m1 : A.getD j [] ∈ A := by simp [List.getD_eq_getElem?_getD, hj]
    have m2 : B.getD k [] ∈ B := by simp [List.getD_eq_getElem?_getD, hk]
    obtain ⟨v, hv, hx⟩ := parts_mem hA _ m1
    obtain ⟨w, hw, hy⟩ := parts_mem hB _ m2
    rw [e1, e2, eq_comm]
    exact key_part ha hb hv hw hx hy
  have hpa : ∀ j, j < A.length → ∃ v, IsPart a.g v (A.getD j []) := fun j hj => by
    obtain ⟨v, _, hx⟩ := parts_mem hA (A.getD j []) (by simp [List.getD_eq_getElem?_getD, hj])
    exact ⟨v, hx⟩
  have hpb : ∀ j, j < B.length → ∃ v, IsPart b.g v (B.getD j []) := fun j hj => by
    obtain ⟨v, _, hx⟩ := parts_mem hB (B.getD j []) (by simp [List.getD_eq_getElem?_getD, hj])
    exact ⟨v, hx⟩
  have hKA : (A.map (keyW a)).length = A.length := List.length_map _
  have hKB : (B.map (keyW b)).length = B.length := List.length_map _
  generalize A.map (keyW a) = KA at *
  generalize B.map (keyW b) = KB at *
  have hzz := zerosL_bb B.length
  have hll : (A.length : Int) = B.length := by omega
  clear hQ hA hB
  (repeat' (first | refine awp_seq ?_ | refine awp_block ?_ | (refine awp_skip ?_; simp only [ak, reduceIte]) | (refine awp_cond ?_; simp [hl, hll, hzz]) | (refine w_e [] ?_; intro J hJ; simp only []; simp [hl, hll, hzz]; (repeat refine ca ?_); (refine hJ _ _ ?_; clear hJ J; simp only [ak, reduceIte]))))
  refine awp_range 29 28 30 62 (B.length) (fun j fr st2 => fr 2 = .pt st.next 0 ∧ fr 3 = .pt (st.next + 1) 0 ∧ fr 6 = .sl 0 B.length (rowsL3 B) ∧ fr 7 = .ms (st.next + 2) 0 B.length ∧ fr 27 = .sl 0 B.length (rowsL3 A) ∧ st2.H st.next = .box 28 3 (mpL a) ∧ st2.H (st.next + 1) = .box 28 3 (mpL b) ∧ st.next + 2 < st2.next ∧ Keeps st st2 ∧ ∃ tk : List Bool, st2.H (st.next + 2) = .box 4 1 (bbs tk) ∧ tk.length = B.length ∧ (KA.take j).Perm (sel KB tk)) ?_ ?_ ?_
  · refine ⟨by simp, by simp, by simp, by simp, by simp [hl], by simp, by simp, by simp, hK1.trans (Keeps.new _ _), List.replicate B.length false, by simp, by simp, ?_⟩
    rw [sel_rep]; simp
  · rintro jo fr s hlt ⟨f2, f3, f6, f7, f27, hG, hG2, hsn, hkp, tk, hH, htl, hpm⟩ fi fn JO hJO
    have hlA : jo < A.length := by omega
    have hd := rows3_dropA A jo hlA
    obtain ⟨v, hx⟩ := hpa jo hlA
    have hky := hkey jo hlA
    have hxlen := part_len hx
    generalize A.getD jo [] = x at *
    (repeat' (first | refine awp_seq ?_ | refine awp_block ?_ | (refine w_e [] ?_; intro J hJ; simp only []; simp [f27, f6, fi, fn, hd, hlt]; (repeat refine ca ?_); (refine hJ _ _ ?_; clear hJ J; simp only [ak, reduceIte]))))
    refine awp_range 35 34 36 59 (B.length) (fun j fr st2 => fr 2 = .pt st.next 0 ∧ fr 3 = .pt (st.next + 1) 0 ∧ fr 6 = .sl 0 B.length (rowsL3 B) ∧ fr 7 = .ms (st.next + 2) 0 B.length ∧ fr 9 = .sl 0 x.length (us x) ∧ fr 27 = .sl 0 B.length (rowsL3 A) ∧ fr 28 = i B.length ∧ fr 29 = i jo ∧ fr 33 = .sl 0 B.length (rowsL3 B) ∧ st2.H st.next = .box 28 3 (mpL a) ∧ st2.H (st.next + 1) = .box 28 3 (mpL b) ∧ st.next + 2 < st2.next ∧ Keeps st st2 ∧ ∃ (dn : Bool) (tk : List Bool), fr 10 = bb dn ∧ st2.H (st.next + 2) = .box 4 1 (bbs tk) ∧ PkI KA KB jo j dn tk) ?_ ?_ ?_
    · exact ⟨by simp [f2], by simp [f3], by simp [f6], by simp [f7], by simp, by simp [f27], by simp [fn], by simp [fi], by simp [f6], hG, hG2, hsn, hkp, false, tk, by simp, hH, by omega, fun h => absurd h (by simp), fun _ => ⟨hpm, fun i hi => by omega⟩⟩
    · clear f2 f3 f6 f7 f27 fi fn hG hG2 hsn hkp hH htl hpm hd tk
      clear hJO
      rintro k fr s hlk ⟨f2, f3, f6, f7, f9, f27, f28, f29, f33, hG, hG2, hsn, hkp, dn, tk, f10, hH, hI⟩ fi fn JI hJI
      have hd := rows3_dropA B k hlk
      obtain ⟨w, hy⟩ := hpb k hlk
      have hky := hky k hlk
      have hylen := part_len hy
      have htl : tk.length = B.length := hI.1.trans hKB
      have hbl : (bbs tk).length = B.length := (bbs_len tk).trans htl
      have hdt := bbs_drop tk k (by omega)
      have hset := bbs_set tk k (by omega)
      generalize B.getD k [] = y at *
      cases dn with
      | true =>
        (repeat' (first | refine awp_seq ?_ | (refine awp_skip ?_; simp only [ak, reduceIte]) | (refine awp_cond ?_; simp [f33, fi, fn, hd, hlk, f10]) | (refine w_e [] ?_; intro J hJ; simp only []; simp [f33, fi, fn, hd, hlk, f10]; (refine hJ _ _ ?_; clear hJ J; simp only [ak, reduceIte]))))
        exact hJI _ _ (by simp [fi]) (by simp [fn]) ⟨by simp [f2], by simp [f3], by simp [f6], by simp [f7], by simp [f9], by simp [f27], by simp [f28], by simp [f29], by simp [f33], hG, hG2, hsn, hkp, true, tk, by simp [f10], hH, hI.skip⟩
      | false =>
        cases hbt : tk.getD k true with
        | true =>
          rw [hbt] at hdt
          (repeat' (first | refine awp_seq ?_ | (refine awp_skip ?_; simp only [ak, reduceIte]) | (refine awp_cond ?_; simp [f33, fi, fn, hd, hlk, f10, f7, hH, hdt, hbl]) | (refine w_e [] ?_; intro J hJ; simp only []; simp [f33, fi, fn, hd, hlk, f10, f7, hH, hdt, hbl]; (refine hJ _ _ ?_; clear hJ J; simp only [ak, reduceIte]))))
          exact hJI _ _ (by simp [fi]) (by simp [fn]) ⟨by simp [f2], by simp [f3], by simp [f6], by simp [f7], by simp [f9], by simp [f27], by simp [f28], by simp [f29], by simp [f33], hG, hG2, hsn, hkp, false, tk, by simp [f10], hH, hI.miss fun h => absurd (hbt.symm.trans h) (by simp)⟩
        | false =>
          rw [hbt] at hdt
          (repeat' (first | refine awp_seq ?_ | (refine w_e [] ?_; intro J hJ; simp only []; simp [f33, fi, fn, hd, hlk, f10, f7, hH, hdt, hbl, f2, f3, f9, hG, hG2]; (try (refine hJ _ _ ?_; clear hJ J; simp only [ak, reduceIte])))))
          refine callK_ofE (rPart a b ha hb x y 0 0 _ (by omega) (by omega) (by omega) (by omega) hx hy) (by simp) ?_; rintro r s1 ⟨⟨ok, rfl, hok⟩, h1⟩
          rw [h1]; clear h1 s1
          cases ok with
          | true =>
            have hky2 := hky.2 (hok.1 rfl)
            (repeat' (first | refine awp_seq ?_ | (refine awp_cond ?_; simp [f7, hH, hbl, hlk, hset]) | ((first | (refine w_e [] ?_; intro J hJ; simp only []) | (refine e_go ?_)); simp [f7, hH, hbl, hlk, hset]; (repeat refine ca ?_); (refine hJ _ _ ?_; clear hJ J; simp only [ak, reduceIte]))))
            exact hJI _ _ (by simp [fi]) (by simp [fn]) ⟨by simp [f2], by simp [f3], by simp [f6], by simp [f7], by simp [f9], by simp [f27], by simp [f28], by simp [f29], by simp [f33], by simp [hG], by simp [hG2], by simpa using hsn, hkp.set (by omega) _, true, tk.set k true, by simp, by simp, hI.hit (by omega) (by omega) hbt hky2⟩
          | false =>
            (repeat' (first | (refine awp_skip ?_; simp only [ak, reduceIte]) | (refine awp_cond ?_; simp [f10]) | (refine e_go ?_; simp [f10]; (refine hJ _ _ ?_; clear hJ J; simp only [ak, reduceIte]))))
            exact hJI _ _ (by simp [fi]) (by simp [fn]) ⟨by simp [f2], by simp [f3], by simp [f6], by simp [f7], by simp [f9], by simp [f27], by simp [f28], by simp [f29], by simp [f33], hG, hG2, hsn, hkp, false, tk, by simp [f10], hH, hI.miss fun _ h => absurd (hok.2 (hky.1 h)) (by simp)⟩
    · clear f2 f3 f6 f7 f27 fi fn hG hG2 hsn hkp hH htl hpm tk
      rintro fr s ⟨f2, f3, f6, f7, f9, f27, f28, f29, f33, hG, hG2, hsn, hkp, dn, tk, f10, hH, hI⟩
      cases dn with
      | true =>
        (repeat' (first | refine awp_seq ?_ | (refine awp_skip ?_; simp only [ak, reduceIte]) | (refine awp_cond ?_; simp [f10]) | (refine w_e [] ?_; intro J hJ; simp only []; simp [f10]; (refine hJ _ _ ?_; clear hJ J; simp only [ak, reduceIte]))))
        exact hJO _ _ (by simp [f29]) (by simp [f28]) ⟨by simp [f2], by simp [f3], by simp [f6], by simp [f7], by simp [f27], hG, hG2, hsn, hkp, tk, hH, hI.1.trans hKB, hI.2.1 rfl⟩
      | false =>
        rw [← hKB] at hI
        obtain rfl := hF fun e => hI.none (by omega) (hQ'.1 e)
        (repeat' (first | refine awp_seq ?_ | (refine awp_ret ?_; simp only [ak, reduceIte]; simp [f10]) | (refine awp_cond ?_; simp [f10]) | (refine w_e [] ?_; intro J hJ; simp only []; simp [f10]; (refine hJ _ _ ?_; clear hJ J; simp only [ak, reduceIte]))))
        exact hkp
  · rintro fr s ⟨f2, f3, f6, f7, f27, hG, hG2, hsn, hkp, tk, hH, htl, hpm⟩
    rw [← hl, ← hKA] at hpm
    obtain rfl := hT (hQ'.2 (PkI.all (by omega) hpm))
    (repeat' (first | refine awp_seq ?_ | (refine awp_ret ?_; simp only [ak, reduceIte]; simp []) | (refine w_e [] ?_; intro J hJ; simp only []; simp []; (refine hJ _ _ ?_; clear hJ J; simp only [ak, reduceIte]))))
    exact hkp

end Go.Proofs.YtlnefdmdabhobaaGreat.Aw

namespace Go.Proofs.YtlnefdmdabhobaaGreat.Aw
open Go Go.RowKit Go.Proofs.YtlnefdmdabhobaaGreat.Pl Go.Proofs.YtlnefdmdabhobaaGreat.Eu
set_option linter.unusedSimpArgs false
set_option linter.unusedVariables false

theorem parts_ex (g : Gr) (hg : Good g) : ∀ k, k ≤ g.vs.length → ∃ R, PartsTo g k R := fun k => by
  induction k with
  | zero => exact fun _ => ⟨[], .zero⟩
  | succ k ih =>
    intro hk
    obtain ⟨R, h⟩ := ih (by omega)
    by_cases hs : Seen g k (g.vs.getD k 0)
    · exact ⟨R, h.seen (by omega) hs⟩
    · classical
      refine ⟨R ++ [g.vs.filter fun u => decide (Reach g.es (g.vs.getD k 0) u)], h.lead (by omega) hs ⟨?_, fun u => ?_⟩⟩
      · exact hg.rise.sublist List.filter_sublist
      · rw [List.mem_filter, decide_eq_true_iff]
theorem code_ex (m : Mp) (ho : MapOk m) : ∃ c, IsCode m c := by
  obtain ⟨R, h⟩ := parts_ex m.g ho.g.toGood _ (Nat.le_refl _)
  have hp := List.mergeSort_perm (R.map fun x => withLen (keyW m x)) (fun a b => decide (lcmp a b ≤ 0))
  refine ⟨_, R, _, h, hp, ?_, rfl⟩
  refine (List.pairwise_mergeSort ?_ ?_ (R.map fun x => withLen (keyW m x))).imp fun {a b} h => by simpa [Lle] using h
  · intro a b c h1 h2
    simp only [decide_eq_true_iff] at h1 h2 ⊢
    by_cases e1 : lcmp a b = 0
    · rw [lcmp_eq e1]; exact h2
    · by_cases e2 : lcmp b c = 0
      · rw [← lcmp_eq e2]; exact h1
      · have := lcmp_trans (a := a) (b := b) (c := c) (by omega) (by omega); omega
  · intro a b
    have := lcmp_swap a b
    simp only [Bool.or_eq_true, decide_eq_true_iff]
    omega
theorem code_one {m : Mp} {c c' : List Int} (h : IsCode m c) (h' : IsCode m c') : c = c' := by
  obtain ⟨P, S, h1, h2⟩ := id h
  exact (code_iff h h' h1 h1).2 (.refl _)
theorem cCode' (m : Mp) (ho : MapOk m) (st : St) (hv : m.g.vs.length ≤ 100) (he : m.g.es.length ≤ 100) {c : List Int} (hc : IsCode m c) :
    ACalls Tryz.prog 56 [.ag (mpL m)] st fun r st' => r = .sl 0 c.length (us c) ∧ st' = st :=
  acalls_tidy (Q := fun r => r = .sl 0 c.length (us c)) ((cCode m ho st hv he).mono fun r s ⟨⟨c', h1, h2⟩, hk⟩ => ⟨by rw [h1, code_one h2 hc], hk⟩) fun r h => by
    subst h
    exact ⟨.inl rfl, belL_us _ _⟩
theorem light33' (m : Mp) (st : St) : ACalls Tryz.prog 48 [.ag (mpL m)] st fun r st' => r = bb (lit33 m) ∧ st' = st :=
  acalls_tidy (Q := fun r => r = bb (lit33 m)) (light33 m st) fun r h => by subst h; trivial
theorem rSame' (a b : Mp) (ha : MapOk a) (hb : MapOk b) (st : St) (hva : a.g.vs.length ≤ 100) (hea : a.g.es.length ≤ 100) (hvb : b.g.vs.length ≤ 100) (heb : b.g.es.length ≤ 100) {c c' : List Int} (hc : IsCode a c) (hc' : IsCode b c') :
    ACalls Tryz.prog 53 [.ag (mpL a), .ag (mpL b)] st fun r st' => r = bb (decide (c = c')) ∧ st' = st :=
  acalls_tidy (Q := fun r => r = bb (decide (c = c'))) (rSame a b ha hb st hva hea hvb heb hc hc') fun r h => by subst h; trivial

theorem flat_le {n : Nat} : ∀ S : List (List Int), (∀ s ∈ S, s.length ≤ n) → S.flatten.length ≤ S.length * n
  | [], _ => by simp
  | s :: S, h => by
    have h1 := flat_le S fun t ht => h t (List.mem_cons_of_mem _ ht)
    have h2 := h s (by simp)
    rw [List.flatten_cons, List.length_append, List.length_cons, Nat.succ_mul]; omega
theorem code_len {m : Mp} (ho : MapOk m) (hv : m.g.vs.length ≤ 100) (he : m.g.es.length ≤ 100) {c : List Int} (hc : IsCode m c) : c.length ≤ 100000 := by
  obtain ⟨P, S, h1, h2, _, rfl⟩ := hc
  have h3 := h1.len
  have h4 := h2.length_eq
  rw [List.length_map] at h4
  have h5 := flat_le (n := 402) S fun s hs => by
    obtain ⟨x, hx, rfl⟩ := List.mem_map.1 (h2.mem_iff.1 hs)
    have := keyW_len m ho x
    simp [withLen]; omega
  have h6 : S.length * 402 ≤ 100 * 402 := Nat.mul_le_mul_right _ (by omega)
  rw [List.length_cons]; omega

theorem cSameK (a b : Mp) (ha : MapOk a) (hb : MapOk b) (st : St) (hva : a.g.vs.length ≤ 100) (hea : a.g.es.length ≤ 100) (hvb : b.g.vs.length ≤ 100) (heb : b.g.es.length ≤ 100) {c c' : List Int} (hc : IsCode a c) (hc' : IsCode b c') :
    ACalls Tryz.prog 54 [.ag (mpL a), .ag (mpL b)] st fun r st' => r = bb (decide (c = c')) ∧ Keeps st st' := by
  have hl := code_len ha hva hea hc
  have hsm : small c := by unfold small; omega
  refine acalls_of_body tabOk Tryz.func54 rfl rfl Tryz.ntmps54 (rs := [.tmp 4]) rfl (by simp) ?_
  (repeat' (first | refine awp_seq ?_ | (refine w_e [] ?_; intro J hJ; simp only []; simp []; (refine hJ _ _ ?_; clear hJ J; simp only [ak, reduceIte]))))
  (refine w_s [] [st.next, st.next + 1] [(0, true), (2, true), (1, true), (3, true), (4, true), (5, true)] ?_; intro J hJ; simp [])
  refine dcallK_ofE (cCode' a ha _ (by omega) (by omega) hc) (by simp) ?_; rintro r s1 ⟨rfl, h1⟩
  rw [h1]; clear h1 s1
  refine ⟨fun h => by first | (cases h; done) | simp, ?_⟩
  (refine d_go ?_; simp [])
  refine dcallK_ofE (cCode' b hb _ (by omega) (by omega) hc') (by simp) ?_; rintro r s1 ⟨rfl, h1⟩
  rw [h1]; clear h1 s1
  refine ⟨fun h => by first | (cases h; done) | simp, ?_⟩
  (refine d_go ?_; simp [])
  refine dcallK_ofE (Equal c c' 0 0 _ hsm) (by simp) ?_; rintro r s1 ⟨rfl, h1⟩
  rw [h1]; clear h1 s1
  refine ⟨fun h => by first | (cases h; done) | simp, ?_⟩
  (refine d_go ?_; simp []; (refine hJ _ _ ?_; clear hJ J; simp only [ak, reduceIte]))
  (repeat' (refine awp_ret ?_; simp only [ak, reduceIte]; simp []))
  exact (Keeps.new _ _).trans (Keeps.new _ _)
theorem cSame (a b : Mp) (ha : MapOk a) (hb : MapOk b) (st : St) (hva : a.g.vs.length ≤ 100) (hea : a.g.es.length ≤ 100) (hvb : b.g.vs.length ≤ 100) (heb : b.g.es.length ≤ 100) {c c' : List Int} (hc : IsCode a c) (hc' : IsCode b c') :
    ACalls Tryz.prog 54 [.ag (mpL a), .ag (mpL b)] st fun r st' => r = bb (decide (c = c')) ∧ st' = st :=
  acalls_tidy (Q := fun r => r = bb (decide (c = c'))) (cSameK a b ha hb st hva hea hvb heb hc hc') fun r h => by subst h; trivial

set_option maxHeartbeats 8000000 in
theorem CanonSame (a b : Mp) (st : St) : ACalls Tryz.prog 10 [.ag (mpL a), .ag (mpL b)] st fun r st' => r = bb true := by
  refine acalls_of_body tabOk Tryz.func10 rfl rfl Tryz.ntmps10 (rs := [.tmp 4]) rfl (by simp) ?_
  refine awp_posG fun hpos => ?_
  (repeat' (first | refine awp_seq ?_ | (refine w_e [] ?_; intro J hJ; simp only []; simp []; (try (refine hJ _ _ ?_; clear hJ J; simp only [ak, reduceIte])))))
  refine callK_ofE (awake33 _) (by simp []) ?_; rintro r st' ⟨rfl, rfl⟩
  (repeat' (first | refine awp_seq ?_ | (refine awp_skip ?_; simp only [ak, reduceIte]) | (refine awp_cond ?_; simp []) | ((first | (refine w_e [] ?_; intro J hJ; simp only []) | (refine e_go ?_)); simp []; (try (refine hJ _ _ ?_; clear hJ J; simp only [ak, reduceIte])))))
  refine callK_ofE (light33' a _) (by simp) ?_; rintro r s1 ⟨rfl, h1⟩
  rw [h1]; clear h1 s1
  cases hf : lit33 a
  · (repeat' (first | refine awp_seq ?_ | (refine awp_ret ?_; simp only [ak, reduceIte]; simp []) | (refine awp_cond ?_; simp []) | ((first | (refine w_e [] ?_; intro J hJ; simp only []) | (refine e_go ?_)); simp []; (refine hJ _ _ ?_; clear hJ J; simp only [ak, reduceIte]))))
  (repeat' (refine e_go ?_; simp []))
  refine callK_ofE (light33' b _) (by simp) ?_; rintro r s1 ⟨rfl, h1⟩
  rw [h1]; clear h1 s1
  cases hf2 : lit33 b
  · (repeat' (first | refine awp_seq ?_ | (refine awp_ret ?_; simp only [ak, reduceIte]; simp []) | (refine awp_cond ?_; simp []) | ((first | (refine w_e [] ?_; intro J hJ; simp only []) | (refine e_go ?_)); simp []; (refine hJ _ _ ?_; clear hJ J; simp only [ak, reduceIte]))))
  obtain ⟨he, hr, hc⟩ := lit33_of hf
  have hv := chk_smallC hc
  have ha := (rchk_zero hc).2
  obtain ⟨he2, hr2, hc2⟩ := lit33_of hf2
  have hv2 := chk_smallC hc2
  have hb := (rchk_zero hc2).2
  obtain ⟨c, hC⟩ := code_ex a ha
  obtain ⟨c', hC'⟩ := code_ex b hb
  have hl := code_len ha (by omega) (by omega) hC
  have hsm : small c := by unfold small; omega
  (repeat' (first | refine awp_seq ?_ | (refine awp_skip ?_; simp only [ak, reduceIte]) | (refine awp_cond ?_; simp []) | ((first | (refine w_e [] ?_; intro J hJ; simp only []) | (refine e_go ?_)); simp []; (try (refine hJ _ _ ?_; clear hJ J; simp only [ak, reduceIte])))))
  refine callK_ofE (rSame' a b ha hb _ (by omega) (by omega) (by omega) (by omega) hC hC') (by simp) ?_; rintro r s1 ⟨rfl, h1⟩
  rw [h1]; clear h1 s1
  have hsym : decide (c' = c) = decide (c = c') := decide_eq_decide.2 ⟨Eq.symm, Eq.symm⟩
  (repeat' (first | refine awp_seq ?_ | (refine e_go ?_; simp []; (refine hJ _ _ ?_; clear hJ J; simp only [ak, reduceIte]))))
  (refine w_s [] [st.next, st.next + 1] [(0, true), (1, true), (3, true), (2, true), (4, true), (5, true), (6, true), (8, true), (11, true), (7, true), (9, true), (10, true), (12, true), (13, true), (14, true), (15, true), (16, true), (18, true), (17, true), (19, true), (20, true), (21, true), (22, true), (23, true), (24, true), (25, true), (26, true)] ?_; intro J hJ; simp [])
  refine dcallK_ofE (cSame a b ha hb _ (by omega) (by omega) (by omega) (by omega) hC hC') (by simp) ?_; rintro r s1 ⟨rfl, h1⟩
  rw [h1]; clear h1 s1
  refine ⟨fun h => by first | (cases h; done) | simp, ?_⟩
  (refine d_go ?_; simp [])
  refine dcallK_ofE (cCode' a ha _ (by omega) (by omega) hC) (by simp) ?_; rintro r s1 ⟨rfl, h1⟩
  rw [h1]; clear h1 s1
  refine ⟨fun h => by first | (cases h; done) | simp, ?_⟩
  (refine d_go ?_; simp [])
  refine dcallK_ofE (cCode' b hb _ (by omega) (by omega) hC') (by simp) ?_; rintro r s1 ⟨rfl, h1⟩
  rw [h1]; clear h1 s1
  refine ⟨fun h => by first | (cases h; done) | simp, ?_⟩
  (refine d_go ?_; simp [])
  refine dcallK_ofE (Equal c c' 0 0 _ hsm) (by simp) ?_; rintro r s1 ⟨rfl, h1⟩
  rw [h1]; clear h1 s1
  refine ⟨fun h => by first | (cases h; done) | simp, ?_⟩
  (refine d_go ?_; simp [])
  refine dcallK_ofE (cSame b a hb ha _ (by omega) (by omega) (by omega) (by omega) hC' hC) (by simp) ?_; rintro r s1 ⟨rfl, h1⟩
  rw [h1]; clear h1 s1
  rw [hsym]
  refine ⟨fun h => by first | (cases h; done) | simp, ?_⟩
  (refine d_go ?_; simp [])
  refine dcallK_ofE (cSame a a ha ha _ (by omega) (by omega) (by omega) (by omega) hC hC) (by simp) ?_; rintro r s1 ⟨rfl, h1⟩
  rw [h1]; clear h1 s1
  refine ⟨fun h => by first | (cases h; done) | simp, ?_⟩
  (refine d_go ?_; simp []; (refine hJ _ _ ?_; clear hJ J; simp only [ak, reduceIte]))
  (repeat' (refine awp_ret ?_; simp only [ak, reduceIte]; simp []))

theorem CanonSame_shp (l0 l1 : List LV) (st : St) (h0 : Shp tab 28 l0) (h1 : Shp tab 28 l1) : ACalls Tryz.prog 10 [argT tab 28 l0, argT tab 28 l1] st fun r st' => r = bb true := by
  obtain ⟨m, rfl, _⟩ := shp_mp h0
  obtain ⟨m', rfl, _⟩ := shp_mp h1
  exact CanonSame m m' st

end Go.Proofs.YtlnefdmdabhobaaGreat.Aw
