/- block.Path: the way from one vertex to another one. tree.Depths: how far each vertex is. Plain: how far each vertex is, by both searches. No program. Plain: the search finds the shortest way, if there is one. No program. Plain: edges that join parts, and the others; a forest of parents. No program. The document's near vertices; edges beside each other. The document's way from one vertex to another one: the walk. A graph that may be, in words. No program. The law BlockPaths. Plain: a forest's edges and parts; ways within it. No program. tree: root, split, Forest, Rest. tree.Forest, Rest; the document's with, Forest. Tables of counts: Sum. Tables of counts: Keys, Top. Tables of counts: Add. stat.Girth, stat.Degrees: contracts. tree.Ring, the document's Ring. The document's Ring. The law of TreeTells. Plain: how far each vertex is: there is an end; how many are reached. No program. -/
import Derived.Test.YtomfeddgeihipaaGreatJd
import Derived.Test.YtomfeddgeihipaaGreatAwZ
import Derived.Test.YtomfeddgeihipaaGreatAwRg
import Derived.Test.YtomfeddgeihipaaGreatAwMr4
import Derived.Test.YtomfeddgeihipaaGreatAwSet
import Derived.Test.YtomfeddgeihipaaGreatAwMr5
import Derived.Test.YtomfeddgeihipaaGreatAwAlt
import Derived.Test.YtomfeddgeihipaaGreatAwShp
namespace Go.Proofs.YtomfeddgeihipaaGreat.Aw
open Go Go.RowKit Go.Proofs.YtomfeddgeihipaaGreat.Pl
set_option linter.unusedSimpArgs false
set_option linter.unusedVariables false

/-- What a function argument answers of a vertex. -/
def MayOk (th : LV) (may : Int → Bool) (st : St) : Prop :=
  (th = .atom .nilFunc ∧ ∀ v, may v = true) ∨ ∃ f caps, th = .fn (.func f) caps ∧ caps.map norm = caps ∧ ∀ v s, Keeps st s → ACalls Tryz.prog f (u v :: caps) s fun r s' => r = bb (may v) ∧ Keeps s s'

structure PaB (st0 : St) (A : Led) (Q : List Int) (Ma Mn tq o : Nat) (es : List (List Int × LV)) (s : St) : Prop where
  ha : s.H Ma = .map false [.u32] (ledL A)
  hn : s.H Mn = .map false [.u32] es
  hq : s.H tq = .que 41 (o + Q.length)
  b : st0.next ≤ Ma ∧ st0.next ≤ Mn ∧ st0.next ≤ tq ∧ Ma < s.next ∧ Mn < s.next ∧ tq < s.next ∧ tq ≠ 0 ∧ ¬ Mn = Ma
  kp : Keeps st0 s

set_option maxHeartbeats 4000000 in
theorem Path (g : Gr) (from' to : Int) (th : LV) (may : Int → Bool) (n : Nat) (l : List Int) (st : St) (hv : g.vs.length ≤ 1048576) (he : g.es.length ≤ 1000) (hn : n ≤ 1000) (hm : MayOk th may st) (hl : pathF g.vs (nearF g.es) may from' to n = some l) :
    ACalls Tryz.prog 44 [.ag (grL g), u from', u to, th] st fun r st' => r = .sl 0 l.length (us l) ∧ Keeps st st' := by
  have hth : norm th = th := by rcases hm with ⟨rfl, _⟩ | ⟨f, c, rfl, _, _⟩ <;> rfl
  refine acalls_z0 ?_
  refine acalls_of_body tabOk Tryz.func44 rfl rfl Tryz.ntmps44 (rs := [.tmp 8]) rfl (by simp) ?_
  refine awp_posG fun hpos => ?_
  (repeat' (first | refine awp_seq ?_ | (refine w_e [] ?_; intro J hJ; simp only []; simp []; (try (refine hJ _ _ ?_; clear hJ J; simp only [ak, reduceIte])))))
  refine callK_ofE (Vert g from' _ hv) (by simp) ?_; rintro r s1 ⟨rfl, hk1⟩
  have hn1 := hk1.next
  simp only [new_next] at hn1
  have hG1 : s1.H st.next = .box 38 2 (grL g) := by rw [hk1.H _ (by simp)]; simp
  have hkp1 : Keeps st s1 := (Keeps.new _ _).trans hk1
  clear hk1
  unfold pathF at hl
  by_cases hf : from' ∈ g.vs
  rotate_left
  · have h0 : gi g.vs from' < 0 := (gi_neg _ _).2 hf
    rw [if_pos (.inl hf)] at hl
    injection hl with hl
    subst hl
    (refine e_go ?_; simp [h0]; (refine hJ _ _ ?_; clear hJ J; simp only [ak, reduceIte]))
    (repeat' (first | refine awp_seq ?_ | (refine awp_ret ?_; simp only [ak, reduceIte]; simp []) | (refine awp_cond ?_; simp []) | (refine w_e [] ?_; intro J hJ; simp only []; simp []; (refine hJ _ _ ?_; clear hJ J; simp only [ak, reduceIte]))))
    exact ⟨rfl, hkp1⟩
  have h0 : ¬ gi g.vs from' < 0 := fun h => (gi_neg _ _).1 h hf
  (refine e_go ?_; simp [h0, hG1])
  refine callK_ofE (Vert g to _ hv) (by simp) ?_; rintro r s2 ⟨rfl, hk2⟩
  have hn2 := hk2.next
  have hG2 := (hk2.H st.next (by omega)).trans hG1
  have hkp2 := hkp1.trans hk2
  clear hk2 hkp1 hG1 h0
  by_cases ht : to ∈ g.vs
  rotate_left
  · have h0 : gi g.vs to < 0 := (gi_neg _ _).2 ht
    rw [if_pos (.inr ht)] at hl
    injection hl with hl
    subst hl
    (refine e_go ?_; simp [h0]; (refine hJ _ _ ?_; clear hJ J; simp only [ak, reduceIte]))
    (repeat' (first | refine awp_seq ?_ | (refine awp_ret ?_; simp only [ak, reduceIte]; simp []) | (refine awp_cond ?_; simp []) | (refine w_e [] ?_; intro J hJ; simp only []; simp []; (refine hJ _ _ ?_; clear hJ J; simp only [ak, reduceIte]))))
    exact ⟨rfl, hkp2⟩
  have h0 : ¬ gi g.vs to < 0 := fun h => (gi_neg _ _).1 h ht
  rw [if_neg (by simp [hf, ht])] at hl
  (refine e_go ?_; simp [h0]; (refine hJ _ _ ?_; clear hJ J; simp only [ak, reduceIte]))
  by_cases hft : from' = to
  · rw [if_pos hft] at hl
    injection hl with hl
    subst hl
    (repeat' (first | refine awp_seq ?_ | (refine awp_skip ?_; simp only [ak, reduceIte]) | (refine awp_ret ?_; simp only [ak, reduceIte]; simp [hft]) | (refine awp_cond ?_; simp [hft]) | (refine w_e [] ?_; intro J hJ; simp only []; simp [hft]; (refine hJ _ _ ?_; clear hJ J; simp only [ak, reduceIte]))))
    refine ⟨by simp [z0, z0L, hft], hkp2.trans (Keeps.new _ _)⟩
  rw [if_neg hft] at hl
  (repeat' (first | refine awp_seq ?_ | (refine awp_skip ?_; simp only [ak, reduceIte]) | (refine awp_cond ?_; simp [hft, hG2]) | (refine w_e [] ?_; intro J hJ; simp only []; simp [hft, hG2]; (try (refine hJ _ _ ?_; clear hJ J; simp only [ak, reduceIte])))))
  refine callK_ofE (nearby g _ hv he (by omega)) (by simp) ?_; rintro r s3 ⟨Mn, es, rfl, m1, m2, hk3, hMn, hes⟩
  have hn3 := hk3.next
  have hkp3 := hkp2.trans hk3
  obtain ⟨R0, hbfs, hR0⟩ : ∃ R0, bfs (nearF g.es) may to n [(from', from')] [from'] = some R0 ∧ ((R0 = none ∧ l = []) ∨ ∃ A l', R0 = some A ∧ backF A from' n to = some l' ∧ l = (to :: l').reverse) := by
    cases hb : bfs (nearF g.es) may to n [(from', from')] [from'] with
    | none => rw [hb] at hl; cases hl
    | some R0 =>
      rw [hb] at hl
      cases R0 with
      | none => injection hl with hl; exact ⟨_, rfl, .inl ⟨rfl, hl.symm⟩⟩
      | some A =>
        simp only [Option.map_eq_some_iff] at hl
        obtain ⟨l', h1, h2⟩ := hl
        exact ⟨_, rfl, .inr ⟨A, l', rfl, h1, h2.symm⟩⟩
  clear hl
  (repeat' (first | refine awp_seq ?_ | refine awp_block ?_ | ((first | (refine w_e [] ?_; intro J hJ; simp only []) | (refine e_go ?_)); simp []; (refine hJ _ _ ?_; clear hJ J; simp only [ak, reduceIte]))))
  refine awp_qu 11 (t := s3.next + 1) (n := 1) (e := 41) (cs := [u from']) (by simp) (by simp) (by omega) (by omega) ?_
  have hc0 : ¬ Mn = s3.next := by omega
  have hc1 : ¬ Mn = s3.next + 1 := by omega
  refine awp_loop (fun k fr s => ∃ (A : Led) (Q : List Int) (tq o : Nat), bfs (nearF g.es) may to k A Q = some R0 ∧ k ≤ n ∧ Q.length + 2000 * k ≤ 2000 * n + 1 ∧ fr 1 = u from' ∧ fr 2 = u to ∧ fr 3 = th ∧ fr 9 = .mp Mn ∧ fr 10 = .mp s3.next ∧ fr 11 = .qu tq o Q.length (us Q) ∧ PaB st A Q s3.next Mn tq o es s) n ?_ ?_
  · refine ⟨_, _, s3.next + 1, 0, hbfs, Nat.le_refl _, by simp; omega, by simp, by simp, by simp, by simp, by simp, by simp, ?_⟩
    refine ⟨by simp [ledL, mset], by simp [hc0, hc1, hMn], by simp, ⟨by omega, by omega, by omega, by simp; omega, by simp; omega, by simp, by omega, hc0⟩, ?_⟩
    exact (((hkp3.trans (Keeps.new _ _)).trans (Keeps.new _ _)).set (q := s3.next + 1) (by omega) _)
  generalize s3.next = Ma at *
  clear hk3 hn3 hkp3 hMn m1 m2 hG2 hkp2 hn2 hn1 hc0 hc1 hbfs
  rintro k fr s ⟨A, Q, tq, o, hb, hk, hQ, f1, f2, f3, f9, f10, f11, hPa, hPn, hPq, ⟨b1, b2, b3, b4, b5, b6, b7, b8⟩, hkp⟩ JJ hJJ
  cases Q with
  | nil =>
    clear hJJ
    have h1 : R0 = none := by cases k <;> (simp only [bfs, Option.some.injEq] at hb; exact hb.symm)
    subst h1
    rcases hR0 with ⟨_, rfl⟩ | ⟨_, _, h, _⟩
    · (repeat' (first | refine awp_seq ?_ | (refine awp_exit ?_; simp only [ak, reduceIte]) | (refine awp_ret ?_; simp only [ak, reduceIte]; simp [f11]) | (refine awp_cond ?_; simp [f11]) | (refine w_e [] ?_; intro J hJ; simp only []; simp [f11]; (refine hJ _ _ ?_; clear hJ J; simp only [ak, reduceIte]))))
      exact ⟨rfl, hkp⟩
    · cases h
  | cons v Q =>
  cases k with
  | zero => simp [bfs] at hb
  | succ k =>
  have hQl : (Q.length : Int) + 1 > 0 := by omega
  have hrow := hes v
  have hrl := nearF_len g.es v
  simp only [bfs] at hb
  generalize hrw : nearF g.es v = row at *
  have hslc : List.take (Q.length + 1 - 1) (us Q) = us Q := List.take_of_length_le (by simp)
  have hbn : ¬ (Q.length : Int) + 1 ≤ 0 := by omega
  (repeat (first | refine awp_seq ?_ | refine awp_block ?_))
  (refine w_e [] ?_; intro J hJ; simp only []; simp [f11, hQl]; (refine hJ _ _ ?_; clear hJ J; simp only [ak, reduceIte]))
  (repeat (first | refine awp_seq ?_ | refine awp_block ?_))
  (refine awp_cond ?_; simp [])
  refine awp_skip ?_; simp only [ak]
  (repeat (first | refine awp_seq ?_ | refine awp_block ?_))
  (refine w_e [] ?_; intro J hJ; simp only []; simp [f11, hQl]; (refine hJ _ _ ?_; clear hJ J; simp only [ak, reduceIte]))
  (repeat (first | refine awp_seq ?_ | refine awp_block ?_))
  (refine w_e [] ?_; intro J hJ; simp only []; simp [f11, hQl, hslc]; (repeat refine ca ?_); (refine hJ _ _ ?_; clear hJ J; simp only [ak, reduceIte]))
  refine awp_seq ?_
  refine awp_cut1 (fun f s' => s' = s ∧ f 1 = u from' ∧ f 2 = u to ∧ f 3 = th ∧ f 9 = .mp Mn ∧ f 10 = .mp Ma ∧ f 11 = .qu tq (o + 1) Q.length (us Q) ∧ f 12 = u v ∧ (f 50 = .nil ∧ row = [] ∨ f 50 = .sl 0 row.length (us row)) ∧ f 51 = i row.length ∧ f 52 = i (0 : Nat)) ?_ ?_
  · clear hJJ
    unfold nbLV at hrow
    rw [hrw] at hrow
    by_cases hr0 : row = []
    · rw [if_pos hr0] at hrow
      (repeat' (refine w_e [] ?_; intro J hJ; simp only []; simp [f9, hPn, hrow]; (refine hJ _ _ ?_; clear hJ J; simp only [ak, reduceIte])))
      simp [f1, f2, f3, f9, f10, hr0]
    · rw [if_neg hr0] at hrow
      (repeat' (refine w_e [] ?_; intro J hJ; simp only []; simp [f9, hPn, hrow]; (refine hJ _ _ ?_; clear hJ J; simp only [ak, reduceIte])))
      simp [f1, f2, f3, f9, f10]
  clear f1 f2 f3 f9 f10 f11 fr hrow
  rintro fr s' ⟨rfl, f1, f2, f3, f9, f10, f11, f12, f50, f51, f52⟩
  refine awp_block ?_
  refine awp_range 52 51 53 84 row.length (fun j fr st2 => fr 1 = u from' ∧ fr 2 = u to ∧ fr 3 = th ∧ fr 9 = .mp Mn ∧ fr 10 = .mp Ma ∧ fr 12 = u v ∧ (fr 50 = .nil ∧ row = [] ∨ fr 50 = .sl 0 row.length (us row)) ∧ (scanL may to v ⟨A, Q, false⟩ (row.take j)).hit = false ∧ ∃ tq o, fr 11 = .qu tq o (scanL may to v ⟨A, Q, false⟩ (row.take j)).Q.length (us (scanL may to v ⟨A, Q, false⟩ (row.take j)).Q) ∧ PaB st (scanL may to v ⟨A, Q, false⟩ (row.take j)).A (scanL may to v ⟨A, Q, false⟩ (row.take j)).Q Ma Mn tq o es st2) ?_ ?_ ?_ (hti := f52) (htn := f51)
  · refine ⟨f1, f2, f3, f9, f10, f12, f50, rfl, tq, o + 1, f11, ⟨hPa, hPn, ?_, ⟨b1, b2, b3, b4, b5, b6, b7, b8⟩, hkp⟩⟩
    rw [hPq]
    simp only [List.take_zero, scanL, List.foldl_nil, List.length_cons]
    congr 1
    omega
  · clear f1 f2 f3 f9 f10 f11 f12 f50 f51 f52 hPa hPn hPq b1 b2 b3 b4 b5 b6 b7 b8 hkp fr hJJ
    rintro j fr s hlt ⟨f1, f2, f3, f9, f10, f12, f50, hh, tq, o, f11, hPa, hPn, hPq, ⟨b1, b2, b3, b4, b5, b6, b7, b8⟩, hkp⟩ fi fn J hJ
    have f50 : fr 50 = .sl 0 row.length (us row) := by
      rcases f50 with ⟨_, h⟩ | h
      · rw [h] at hlt; simp at hlt
      · exact h
    have hd := us_drop_getD row j hlt
    have htk : row.take (j + 1) = row.take j ++ [row.getD j 0] := by
      rw [List.getD_eq_getElem?_getD, List.getElem?_eq_getElem hlt]; exact List.take_succ_eq_append_getElem hlt
    have hsc := scanL_snoc may to v ⟨A, Q, false⟩ (row.take j) (row.getD j 0)
    rw [← htk] at hsc
    have hsl := scanL_len may to v ⟨A, Q, false⟩ (row.take j)
    simp only [List.length_take] at hsl
    have hfull : (scanL may to v ⟨A, Q, false⟩ (row.take (j + 1))).hit = true → scanL may to v ⟨A, Q, false⟩ row = scanL may to v ⟨A, Q, false⟩ (row.take (j + 1)) := by
      intro h
      have : row = row.take (j + 1) ++ row.drop (j + 1) := (List.take_append_drop _ _).symm
      rw [this, scanL, List.foldl_append]
      have h2 := scanL_hit may to v h (row.drop (j + 1))
      simp only [scanL] at h2 ⊢
      rw [h2]
      simp
    generalize row.getD j 0 = x at *
    generalize hS : scanL may to v ⟨A, Q, false⟩ (row.take j) = S at *
    obtain ⟨SA, SQ, Sh⟩ := S
    simp only at hh f11 hPa hPq hsl
    subst hh
    have hmg := mget_led SA x
    have hqa : ¬ tq = Ma := box_ne hPq hPa (by simp)
    have hqn : ¬ tq = Mn := box_ne hPq hPn (by simp)
    have hqa' : ¬ Ma = tq := fun h => hqa h.symm
    have hqn' : ¬ Mn = tq := fun h => hqn h.symm
    by_cases hin : x ∈ SA.map (·.1)
    · obtain ⟨y, hy⟩ := ledBy_some hin
      rw [hy] at hmg
      simp only [Option.map_some] at hmg
      have h1 : scan1 may to v ⟨SA, SQ, false⟩ x = ⟨SA, SQ, false⟩ := by simp [scan1, hin]
      rw [h1] at hsc
      (repeat' (first | refine awp_seq ?_ | (refine awp_exit ?_; simp only [ak, reduceIte]) | (refine awp_cond ?_; simp [f10, f50, fi, fn, hd, hlt, hPa, hmg]) | (refine w_e [] ?_; intro J hJ; simp only []; simp [f10, f50, fi, fn, hd, hlt, hPa, hmg]; (refine hJ _ _ ?_; clear hJ J; simp only [ak, reduceIte]))))
      refine hJ _ _ (by simp [fi]) (by simp [fn]) ⟨by simp [f1], by simp [f2], by simp [f3], by simp [f9], by simp [f10], by simp [f12], .inr (by simp [f50]), by rw [hsc], tq, o, by rw [hsc]; simp [f11], by rw [hsc]; exact ⟨hPa, hPn, hPq, ⟨b1, b2, b3, b4, b5, b6, b7, b8⟩, hkp⟩⟩
    rw [ledBy_none hin] at hmg
    simp only [Option.map_none] at hmg
    have hms : mset (ledL SA) [x] (u v) = ledL (SA ++ [(x, v)]) := mset_led hin
    by_cases hxt : x = to
    · clear hJ
      subst hxt
      have h1 : scan1 may x v ⟨SA, SQ, false⟩ x = ⟨SA ++ [(x, v)], SQ, true⟩ := by unfold scan1; rw [if_neg (by simp), if_neg hin, if_pos rfl]
      rw [h1] at hsc
      have hf2 := hfull (by rw [hsc])
      rw [hf2, hsc] at hb
      simp only [if_true, Option.some.injEq] at hb
      subst hb
      rcases hR0 with ⟨h, _⟩ | ⟨A2, l', h, hbk, rfl⟩
      · cases h
      injection h with h
      subst h
      (repeat' (first | refine awp_seq ?_ | (refine awp_skip ?_; simp only [ak, reduceIte]) | (refine awp_cond ?_; simp [f1, f2, f10, f12, f50, fi, fn, hd, hlt, hPa, hmg, hms]) | (refine w_e [] ?_; intro J hJ; simp only []; simp [f1, f2, f10, f12, f50, fi, fn, hd, hlt, hPa, hmg, hms]; (try (refine hJ _ _ ?_; clear hJ J; simp only [ak, reduceIte])))))
      refine callK_ofE (back (SA ++ [(x, v)]) Ma from' x n l' _ (by omega) hbk (by simp; exact b4) (by simp)) (by simp) ?_; rintro r s4 ⟨rfl, hk4⟩
      (repeat' (first | (refine awp_ret ?_; simp only [ak, reduceIte]; simp []) | (refine e_go ?_; simp []; (refine hJ _ _ ?_; clear hJ J; simp only [ak, reduceIte]))))
      refine ⟨by simp only [z0]; congr 1; have := z0_us (x :: l').reverse; simpa using this, ?_⟩
      exact (hkp.set b1 _).trans hk4
    have h1 : scan1 may to v ⟨SA, SQ, false⟩ x = ⟨SA ++ [(x, v)], if may x = true then SQ ++ [x] else SQ, false⟩ := by unfold scan1; rw [if_neg (by simp), if_neg hin, if_neg hxt]
    rw [h1] at hsc
    have tn0 : ¬ tq = s.next := by omega
    have hQ2 : SQ.length ≤ 3000000 := by simp only [List.length_cons] at hQ; omega
    have hT2 : ∀ m s', s'.H Ma = .map false [.u32] (ledL (SA ++ [(x, v)])) → s'.H Mn = .map false [.u32] es → s'.H m = .que 41 (0 + (SQ ++ [x]).length) → st.next ≤ m → m < s'.next → s.next ≤ s'.next → Keeps st s' → PaB st (SA ++ [(x, v)]) (SQ ++ [x]) Ma Mn m 0 es s' := fun m s' h1 h2 h3 h4 h5 h6 h7 => ⟨h1, h2, h3, ⟨b1, b2, h4, by omega, by omega, h5, by omega, b8⟩, h7⟩
    have hT1 : ∀ s', s'.H Ma = .map false [.u32] (ledL (SA ++ [(x, v)])) → s'.H Mn = .map false [.u32] es → s'.H tq = .que 41 (o + SQ.length) → s.next ≤ s'.next → Keeps st s' → PaB st (SA ++ [(x, v)]) SQ Ma Mn tq o es s' := fun s' h1 h2 h3 h6 h7 => ⟨h1, h2, h3, ⟨b1, b2, b3, by omega, by omega, by omega, b7, b8⟩, h7⟩
    rcases hm with ⟨rfl, hm⟩ | ⟨f, caps, rfl, hcaps, hm⟩
    · rw [if_pos (hm x)] at hsc
      (repeat' (first | refine awp_seq ?_ | (refine awp_skip ?_; simp only [ak, reduceIte]) | (refine awp_cond ?_; simp [f1, f2, f3, f10, f11, f12, f50, fi, fn, hd, hlt, hPa, hmg, hms, hxt, hPq, hqa, hqn, hqa', hqn', tn0]) | (refine w_e [] ?_; intro J hJ; simp only []; simp [f1, f2, f3, f10, f11, f12, f50, fi, fn, hd, hlt, hPa, hmg, hms, hxt, hPq, hqa, hqn, hqa', hqn', tn0]; (repeat refine ca ?_); (refine hJ _ _ ?_; clear hJ J; simp only [ak, reduceIte]))))
      refine hJ _ _ (by simp [fi]) (by simp [fn]) ⟨by simp [f1], by simp [f2], by simp [f3], by simp [f9], by simp [f10], by simp [f12], .inr (by simp [f50]), by rw [hsc], s.next + 1, 0, by rw [hsc]; simp, ?_⟩
      rw [hsc]
      refine hT2 _ _ (by (repeat (first | rw [new_H, if_neg (α := LObj) (by (try simp only [set_next, new_next]); omega)] | rw [set_H, if_neg (α := LObj) (by omega)] | rw [new_H, if_pos (α := LObj) (by (try simp only [set_next, new_next]))] | rw [set_H, if_pos (α := LObj) (by omega)]))) (by (repeat (first | rw [new_H, if_neg (α := LObj) (by (try simp only [set_next, new_next]); omega)] | rw [set_H, if_neg (α := LObj) (by omega)] | rw [new_H, if_pos (α := LObj) (by (try simp only [set_next, new_next]))] | rw [set_H, if_pos (α := LObj) (by omega)])); exact hPn) (by (repeat (first | rw [new_H, if_neg (α := LObj) (by (try simp only [set_next, new_next]); omega)] | rw [set_H, if_neg (α := LObj) (by omega)] | rw [new_H, if_pos (α := LObj) (by (try simp only [set_next, new_next]))] | rw [set_H, if_pos (α := LObj) (by omega)])); simp) (by omega) (by simp) (by simp; omega) ?_
      exact ((((hkp.set b1 _).trans (Keeps.new _ _)).set b3 _).trans (Keeps.new _ _))
    · (repeat' (first | refine awp_seq ?_ | (refine awp_skip ?_; simp only [ak, reduceIte]) | (refine awp_cond ?_; simp [f1, f2, f3, f10, f11, f12, f50, fi, fn, hd, hlt, hPa, hmg, hms, hxt]) | (refine w_e [] ?_; intro J hJ; simp only []; simp [f1, f2, f3, f10, f11, f12, f50, fi, fn, hd, hlt, hPa, hmg, hms, hxt]; (try (refine hJ _ _ ?_; clear hJ J; simp only [ak, reduceIte])))))
      have hkz : Keeps st (s.set Ma (.map false [.u32] (ledL (SA ++ [(x, v)])))) := hkp.set b1 _
      refine callK_ofE (hm x _ hkz) (by simp [hcaps]) ?_; rintro r s4 ⟨rfl, hk4⟩
      have hn4 := hk4.next
      simp only [set_next] at hn4
      have hPa4 : s4.H Ma = .map false [.u32] (ledL (SA ++ [(x, v)])) := by rw [hk4.H Ma (by simp; exact b4)]; simp
      have hPn4 : s4.H Mn = .map false [.u32] es := by rw [hk4.H Mn (by simp; exact b5)]; simp [b8, hPn]
      have hPq4 : s4.H tq = .que 41 (o + SQ.length) := by rw [hk4.H tq (by simp; exact b6)]; simp [hqa, hPq]
      have tn4 : ¬ tq = s4.next := by omega
      cases hmy : may x
      · rw [hmy, if_neg (by simp)] at hsc
        (repeat' (first | (refine awp_skip ?_; simp only [ak, reduceIte]) | (refine awp_cond ?_; simp [f11]) | (refine e_go ?_; simp [f11]; (refine hJ _ _ ?_; clear hJ J; simp only [ak, reduceIte]))))
        refine hJ _ _ (by simp [fi]) (by simp [fn]) ⟨by simp [f1], by simp [f2], by simp [f3], by simp [f9], by simp [f10], by simp [f12], .inr (by simp [f50]), by rw [hsc], tq, o, by rw [hsc]; simp [f11], ?_⟩
        rw [hsc]
        exact hT1 _ hPa4 hPn4 hPq4 hn4 (hkz.trans hk4)
      · rw [hmy, if_pos rfl] at hsc
        (repeat' (first | (refine awp_cond ?_; simp [f11, hPq4, tn4]) | ((first | (refine w_e [] ?_; intro J hJ; simp only []) | (refine e_go ?_)); simp [f11, hPq4, tn4]; (repeat refine ca ?_); (refine hJ _ _ ?_; clear hJ J; simp only [ak, reduceIte]))))
        refine hJ _ _ (by simp [fi]) (by simp [fn]) ⟨by simp [f1], by simp [f2], by simp [f3], by simp [f9], by simp [f10], by simp [f12], .inr (by simp [f50]), by rw [hsc], s4.next + 1, 0, by rw [hsc]; simp, ?_⟩
        rw [hsc]
        refine hT2 _ _ (by (repeat (first | rw [new_H, if_neg (α := LObj) (by (try simp only [set_next, new_next]); omega)] | rw [set_H, if_neg (α := LObj) (by omega)] | rw [new_H, if_pos (α := LObj) (by (try simp only [set_next, new_next]))] | rw [set_H, if_pos (α := LObj) (by omega)])); exact hPa4) (by (repeat (first | rw [new_H, if_neg (α := LObj) (by (try simp only [set_next, new_next]); omega)] | rw [set_H, if_neg (α := LObj) (by omega)] | rw [new_H, if_pos (α := LObj) (by (try simp only [set_next, new_next]))] | rw [set_H, if_pos (α := LObj) (by omega)])); exact hPn4) (by (repeat (first | rw [new_H, if_neg (α := LObj) (by (try simp only [set_next, new_next]); omega)] | rw [set_H, if_neg (α := LObj) (by omega)] | rw [new_H, if_pos (α := LObj) (by (try simp only [set_next, new_next]))] | rw [set_H, if_pos (α := LObj) (by omega)])); simp) (by omega) (by simp) (by simp; omega) ?_
        exact ((((hkz.trans hk4).trans (Keeps.new _ _)).set b3 _).trans (Keeps.new _ _))
  · rintro fr s ⟨f1, f2, f3, f9, f10, f12, f50, hh, tq, o, f11, hB⟩
    rw [List.take_length] at hh f11 hB
    rw [if_neg (by rw [hh]; simp)] at hb
    have hsl := scanL_len may to v ⟨A, Q, false⟩ row
    simp only at hsl
    simp only [ak]
    refine hJJ k _ _ (by omega) ⟨_, _, tq, o, hb, by omega, by simp only [List.length_cons] at hQ; omega, by simp [f1], by simp [f2], by simp [f3], by simp [f9], by simp [f10], by simp [f11], hB⟩

end Go.Proofs.YtomfeddgeihipaaGreat.Aw

namespace Go.Proofs.YtomfeddgeihipaaGreat.Aw
open Go Go.RowKit Go.Proofs.YtomfeddgeihipaaGreat.Pl
set_option linter.unusedSimpArgs false
set_option linter.unusedVariables false

def scanD1 (d : Int) (D : Led) (w : Int) : Led := if w ∈ D.map (·.1) then D else D ++ [(w, d + 1)]
def scanD (d : Int) (D : Led) (row : List Int) : Led := row.foldl (scanD1 d) D
/-- All that is found from the k-th on, with how far it is. -/
def depF (near : Int → List Int) : Nat → Nat → Led → Option Led
  | 0, _, _ => none
  | n + 1, k, D => if k < D.length then depF near n (k + 1) (scanD (D.getD k (0, 0)).2 D (near (D.getD k (0, 0)).1)) else some D

structure DepOk (vs : List Int) (D : Led) : Prop where
  nd : (D.map (·.1)).Nodup
  sub : ∀ x ∈ D.map (·.1), x ∈ vs
  dep : ∀ j, j < D.length → 0 ≤ (D.getD j (0, 0)).2 ∧ (D.getD j (0, 0)).2 ≤ j
theorem DepOk.len {vs : List Int} {D : Led} (h : DepOk vs D) : D.length ≤ vs.length := by
  have := List.Nodup.length_le_of_subset h.nd h.sub
  simpa using this
theorem DepOk.scan1 {vs : List Int} {D : Led} (h : DepOk vs D) {k : Nat} (hk : k < D.length) {w : Int} (hw : w ∈ vs) : DepOk vs (scanD1 (D.getD k (0, 0)).2 D w) := by
  unfold scanD1
  split
  · exact h
  · rename_i hn
    refine ⟨?_, fun x hx => ?_, fun j hj => ?_⟩
    · rw [List.map_append, List.nodup_append]
      refine ⟨h.nd, by simp, fun a ha b hb => ?_⟩
      simp at hb
      rintro rfl
      rw [hb] at ha
      exact hn ha
    · rw [List.map_append] at hx
      rcases List.mem_append.1 hx with hx | hx
      · exact h.sub x hx
      · simp at hx; rw [hx]; exact hw
    · by_cases hjl : j < D.length
      · rw [getD_append_lt _ _ _ hjl]; exact h.dep j hjl
      · have hje : j = D.length := by simp at hj; omega
        subst hje
        have := h.dep k hk
        generalize (D.getD k (0, 0)).2 = d at *
        rw [List.getD_eq_getElem?_getD, List.getElem?_append_right (Nat.le_refl _)]
        simp
        omega
theorem DepOk.scan {vs : List Int} (d : Int) : ∀ (row : List Int) {D : Led}, DepOk vs D → (∃ k, k < D.length ∧ (D.getD k (0, 0)).2 = d) → (∀ w ∈ row, w ∈ vs) → DepOk vs (scanD d D row)
  | [], _, h, _, _ => h
  | w :: row, D, h, ⟨k, hk, hd⟩, hr => by
    have h1 := h.scan1 hk (hr w List.mem_cons_self)
    rw [hd] at h1
    refine DepOk.scan d row h1 ⟨k, ?_, ?_⟩ fun x hx => hr x (List.mem_cons_of_mem _ hx)
    · unfold scanD1; split
      · exact hk
      · simp; omega
    · unfold scanD1; split
      · exact hd
      · rw [getD_append_lt _ _ _ hk]; exact hd

def kD (D : Led) : List Int := D.map (·.1)
def DeI (g : Gr) (st : St) (M : Nat) (D : Led) (tl : Nat) (s : St) : Prop :=
  s.H st.next = .box 38 2 (grL g) ∧ s.H M = .map false [.u32] (clL D) ∧ (tl ≠ 0 ∧ st.next ≤ tl ∧ tl < s.next ∧ s.H tl = .own 41 1 D.length) ∧ M < s.next ∧ Keeps st s

end Go.Proofs.YtomfeddgeihipaaGreat.Aw

namespace Go.Proofs.YtomfeddgeihipaaGreat.Aw
open Go Go.RowKit Go.Proofs.YtomfeddgeihipaaGreat.Pl
set_option linter.unusedSimpArgs false
set_option linter.unusedVariables false

theorem chain_fuel {from' : Int} {F : Fnd} (h : FG from' F) : ∀ (k m : Nat), k < F.length → k ≤ m → chainF F m k = chainF F k k := by
  intro k
  induction k using Nat.strongRecOn with
  | ind k ih =>
    intro m hk hm
    cases m with
    | zero => have : k = 0 := by omega
              subst this; rfl
    | succ m =>
      cases k with
      | zero => simp [chainF]
      | succ k =>
        have hp := (h.par (k + 1) hk).2 (by omega)
        simp only [chainF, if_neg (Nat.succ_ne_zero k)]
        rw [ih _ hp m (by omega) (by omega), ih _ hp k (by omega) (by omega)]
def dLen (F : Fnd) (k : Nat) : Nat := (chainF F k k).length
def dLed (F : Fnd) : Led := (List.range F.length).map fun k => (fAt F k, (dLen F k : Int))
end Go.Proofs.YtomfeddgeihipaaGreat.Aw

namespace Go.Proofs.YtomfeddgeihipaaGreat.Aw
open Go Go.RowKit Go.Proofs.YtomfeddgeihipaaGreat.Pl
set_option linter.unusedSimpArgs false
set_option linter.unusedVariables false

/-- A way of so many steps. -/
inductive Wk (near : Int → List Int) (v : Int) : Nat → Int → Prop
  | nil : Wk near v 0 v
  | snoc {n : Nat} {x w : Int} (h : Wk near v n x) (hw : w ∈ near x) : Wk near v (n + 1) w
/-- So far it is. -/
def Dst (near : Int → List Int) (v w : Int) (n : Nat) : Prop := Wk near v n w ∧ ∀ m, Wk near v m w → n ≤ m
theorem Dst.unique {near : Int → List Int} {v w : Int} {n m : Nat} (h : Dst near v w n) (k : Dst near v w m) : n = m := Nat.le_antisymm (h.2 _ k.1) (k.2 _ h.1)

theorem dLen_pre {from' : Int} {F D : Fnd} (h : FG from' F) {j : Nat} (hj : j < F.length) : dLen (F ++ D) j = dLen F j := by unfold dLen; rw [chain_pre h j j hj]
theorem dLen_par {from' : Int} {F : Fnd} (h : FG from' F) {j : Nat} (hj : j < F.length) (h0 : 0 < j) : dLen F j = dLen F (pAt F j) + 1 := by
  obtain ⟨m, rfl⟩ : ∃ m, j = m + 1 := ⟨j - 1, by omega⟩
  have hp := (h.par _ hj).2 h0
  unfold dLen
  simp only [chainF, if_neg (Nat.succ_ne_zero m), List.length_cons]
  rw [chain_fuel h _ m (by omega) (by omega)]
theorem dLen_last {from' : Int} {F : Fnd} (h : FG from' F) {w : Int} {k : Nat} (hw : w ∉ F.map (·.1)) (hk : k < F.length) : dLen (F ++ [(w, k)]) F.length = dLen F k + 1 := by
  have h2 := h.snoc hw hk
  rw [dLen_par h2 (by simp) h.pos, (at_last F (w, k)).2, dLen_pre h hk]
/-- What is found, while the k-th is looked at. -/
structure BfI (near : Int → List Int) (from' : Int) (k : Nat) (F : Fnd) : Prop where
  g : FG from' F
  mono : ∀ i j, i ≤ j → j < F.length → dLen F i ≤ dLen F j
  top : ∀ j, j < F.length → dLen F j ≤ dLen F k + 1
  way : ∀ j, j < F.length → Wk near from' (dLen F j) (fAt F j)
  adj : ∀ j, 0 < j → j < F.length → fAt F j ∈ near (fAt F (pAt F j))
structure Bf (near : Int → List Int) (from' : Int) (k : Nat) (F : Fnd) : Prop where
  g : FG from' F
  mono : ∀ i j, i ≤ j → j < F.length → dLen F i ≤ dLen F j
  top : k < F.length → ∀ j, j < F.length → dLen F j ≤ dLen F k + 1
  way : ∀ j, j < F.length → Wk near from' (dLen F j) (fAt F j)
  adj : ∀ j, 0 < j → j < F.length → fAt F j ∈ near (fAt F (pAt F j))
  done : ∀ j, j < k → j < F.length → ∀ w ∈ near (fAt F j), ∃ p, p < F.length ∧ fAt F p = w ∧ dLen F p ≤ dLen F j + 1

theorem BfI.snoc {near : Int → List Int} {from' : Int} {k : Nat} {F : Fnd} (h : BfI near from' k F) (hk : k < F.length) {w : Int} (hw : w ∉ F.map (·.1)) (hn : w ∈ near (fAt F k)) : BfI near from' k (F ++ [(w, k)]) := by
  have hl := dLen_last h.g hw hk
  have hp : ∀ j, j < F.length → dLen (F ++ [(w, k)]) j = dLen F j := fun j hj => dLen_pre h.g hj
  have hcase : ∀ j, j < (F ++ [(w, k)]).length → j < F.length ∨ j = F.length := fun j hj => by simp at hj; omega
  refine ⟨h.g.snoc hw hk, fun i j hij hj => ?_, fun j hj => ?_, fun j hj => ?_, fun j h0 hj => ?_⟩
  · rcases hcase j hj with hj | rfl
    · rw [hp j hj, hp i (by omega)]; exact h.mono i j hij hj
    · rw [hl]
      rcases Nat.lt_or_ge i F.length with hi | hi
      · rw [hp i hi]; exact h.top i hi
      · obtain rfl : i = F.length := by omega
        rw [hl]; exact Nat.le_refl _
  · rw [hp k hk]
    rcases hcase j hj with hj | rfl
    · rw [hp j hj]; exact h.top j hj
    · rw [hl]; exact Nat.le_refl _
  · rcases hcase j hj with hj | rfl
    · rw [hp j hj, fAt_append hj]; exact h.way j hj
    · rw [hl, (at_last F (w, k)).1]; exact .snoc (h.way k hk) hn
  · rcases hcase j hj with hj | rfl
    · have := (h.g.par j hj).1
      rw [fAt_append hj, pAt_append hj, fAt_append this]; exact h.adj j h0 hj
    · rw [(at_last F (w, k)).1, (at_last F (w, k)).2, fAt_append hk]; exact hn
theorem BfI.scan {near : Int → List Int} {from' : Int} {k : Nat} : ∀ (row : List Int) (F : Fnd), BfI near from' k F → k < F.length → (∀ w ∈ row, w ∈ near (fAt F k)) →
    ∃ D, scanR k F row = F ++ D ∧ BfI near from' k (F ++ D) ∧ ∀ w ∈ row, ∃ p, p < (F ++ D).length ∧ fAt (F ++ D) p = w ∧ dLen (F ++ D) p ≤ dLen (F ++ D) k + 1
  | [], F, h, _, _ => ⟨[], by simp [scanR], by simpa using h, fun w hw => by simp at hw⟩
  | w :: row, F, h, hk, hr => by
    by_cases hw : w ∈ F.map (·.1)
    · have e1 : scanR k F (w :: row) = scanR k F row := by simp only [scanR, List.foldl_cons]; congr 1; unfold scanR1; rw [if_pos hw]
      obtain ⟨D, d1, d2, d3⟩ := BfI.scan row F h hk fun x hx => hr x (List.mem_cons_of_mem _ hx)
      refine ⟨D, e1.trans d1, d2, fun x hx => ?_⟩
      rcases List.mem_cons.1 hx with rfl | hx
      · obtain ⟨y, hy, e⟩ := List.mem_map.1 hw
        obtain ⟨p, hp, e2, _⟩ := mem_at hy
        refine ⟨p, by simp; omega, ?_, d2.top p (by simp; omega)⟩
        rw [fAt_append hp, e2, e]
      · exact d3 x hx
    · have e1 : scanR k F (w :: row) = scanR k (F ++ [(w, k)]) row := by simp only [scanR, List.foldl_cons]; congr 1; unfold scanR1; rw [if_neg hw]
      obtain ⟨D, d1, d2, d3⟩ := BfI.scan row (F ++ [(w, k)]) (h.snoc hk hw (hr w (by simp))) (by simp; omega) fun x hx => by rw [fAt_append hk]; exact hr x (List.mem_cons_of_mem _ hx)
      have e2 : F ++ [(w, k)] ++ D = F ++ ((w, k) :: D) := by simp
      rw [e2] at d1 d2 d3
      refine ⟨(w, k) :: D, e1.trans d1, d2, fun x hx => ?_⟩
      rcases List.mem_cons.1 hx with rfl | hx
      · have hlt : F.length < (F ++ ((x, k) :: D)).length := by simp
        refine ⟨F.length, hlt, ?_, d2.top _ hlt⟩
        rw [← e2, fAt_append (by simp)]; exact (at_last F (x, k)).1
      · exact d3 x hx
theorem Bf.next {near : Int → List Int} {from' : Int} {k : Nat} {F : Fnd} (h : Bf near from' k F) (hk : k < F.length) : ∃ D, scanR k F (near (fAt F k)) = F ++ D ∧ Bf near from' (k + 1) (F ++ D) := by
  obtain ⟨D, d1, d2, d3⟩ := BfI.scan (near := near) (near (fAt F k)) F ⟨h.g, h.mono, h.top hk, h.way, h.adj⟩ hk fun w hw => hw
  refine ⟨D, d1, d2.g, d2.mono, fun hk1 j hj => ?_, d2.way, d2.adj, fun j hjk hj w hw => ?_⟩
  · have h1 := d2.top j hj
    have h2 := d2.mono k (k + 1) (by omega) hk1
    omega
  · by_cases e : j = k
    · subst e
      rw [fAt_append hk] at hw
      exact d3 w hw
    · have hjF : j < F.length := by omega
      rw [fAt_append hjF] at hw
      obtain ⟨p, p1, p2, p3⟩ := h.done j (by omega) hjF w hw
      exact ⟨p, by simp; omega, by rw [fAt_append p1]; exact p2, by rw [dLen_pre h.g p1, dLen_pre h.g hjF]; exact p3⟩
theorem bf_start (near : Int → List Int) (from' : Int) : Bf near from' 0 [(from', 0)] := by
  refine ⟨⟨by simp, rfl, fun k hk => by simp at hk; subst hk; simp [pAt], by simp⟩, fun i j hij hj => ?_, fun _ j hj => ?_, fun j hj => ?_, fun j h0 hj => ?_, fun j hj => by omega⟩
  · simp at hj; subst hj; obtain rfl : i = 0 := by omega
    exact Nat.le_refl _
  · simp at hj; subst hj; omega
  · simp at hj; subst hj; exact .nil
  · simp at hj; omega
theorem fAt_inj {from' : Int} {F : Fnd} (h : FG from' F) {i j : Nat} (hi : i < F.length) (hj : j < F.length) (e : fAt F i = fAt F j) : i = j := by
  have hn := h.nd
  have h1 : (F.map (·.1))[i]'(by simpa using hi) = (F.map (·.1))[j]'(by simpa using hj) := by
    unfold fAt at e
    rw [List.getD_eq_getElem?_getD, List.getD_eq_getElem?_getD, List.getElem?_eq_getElem hi, List.getElem?_eq_getElem hj] at e
    simpa using e
  have hi' : i < (F.map (·.1)).length := by simpa using hi
  have hj' : j < (F.map (·.1)).length := by simpa using hj
  rcases Nat.lt_trichotomy i j with h | h | h
  · exact absurd h1 (List.pairwise_iff_getElem.1 hn i j hi' hj' h)
  · exact h
  · exact absurd h1.symm (List.pairwise_iff_getElem.1 hn j i hj' hi' h)
/-- What the search finds. -/
theorem run_dst {near : Int → List Int} {from' to : Int} : ∀ (n k : Nat) (F : Fnd) (R : Option (Fnd × Nat)), Bf near from' k F → refRun near (fun _ => true) to n k F = some R → (∀ j, j < k → j < F.length → fAt F j ≠ to) →
    (R = none → ∀ m, ¬ Wk near from' m to) ∧ ∀ G p, R = some (G, p) → Dst near from' to (dLen G p) ∧ fAt G p = to ∧ p < G.length ∧ ∃ q, Bf near from' q G := by
  have key : ∀ (k : Nat) (F : Fnd), Bf near from' k F → F.length ≤ k → (∀ j, j < k → j < F.length → fAt F j ≠ to) → ∀ m, ¬ Wk near from' m to := by
    intro k F h hk hno m hm
    have : ∀ m w, Wk near from' m w → ∃ j, j < F.length ∧ fAt F j = w := by
      intro m w hw
      induction hw with
      | nil => exact ⟨0, h.g.pos, (fAt_zero h.g).1⟩
      | snoc _ hw ih =>
        obtain ⟨j, hj, rfl⟩ := ih
        obtain ⟨p, p1, p2, _⟩ := h.done j (by omega) hj _ hw
        exact ⟨p, p1, p2⟩
    obtain ⟨j, hj, e⟩ := this m to hm
    exact hno j (by omega) hj e
  intro n
  induction n with
  | zero =>
    intro k F R h hr hno
    simp only [refRun] at hr
    split at hr
    · cases hr
    · rename_i hk
      injection hr with hr
      subst hr
      exact ⟨fun _ => key k F h (by omega) hno, fun G p e => by cases e⟩
  | succ n ih =>
    intro k F R h hr hno
    simp only [refRun] at hr
    split at hr
    · rename_i hk
      split at hr
      · rename_i hf
        injection hr with hr
        subst hr
        refine ⟨fun e => (by cases e), fun G p e => ?_⟩
        rw [Option.some.injEq, Prod.mk.injEq] at e
        obtain ⟨e1, e2⟩ := e
        subst e1; subst e2
        refine ⟨⟨hf ▸ h.way k hk, fun m hm => ?_⟩, hf, hk, k, h⟩
        have low : ∀ m w, Wk near from' m w → (∃ j, j < F.length ∧ fAt F j = w ∧ dLen F j ≤ m) ∨ dLen F k ≤ m := by
          intro m w hw
          induction hw with
          | nil => exact .inl ⟨0, h.g.pos, (fAt_zero h.g).1, Nat.zero_le _⟩
          | @snoc m x w _ hw ih =>
            rcases ih with ⟨j, j1, rfl, j3⟩ | ih
            · by_cases hd : dLen F k ≤ m
              · exact .inr (by omega)
              · have hjk : j < k := by
                  rcases Nat.lt_or_ge j k with h1 | h1
                  · exact h1
                  · have := h.mono k j h1 j1; omega
                obtain ⟨p, p1, p2, p3⟩ := h.done j hjk j1 _ hw
                exact .inl ⟨p, p1, p2, by omega⟩
            · exact .inr (by omega)
        rcases low m to hm with ⟨j, j1, j2, j3⟩ | h1
        · have := fAt_inj h.g j1 hk (j2.trans hf.symm)
          rw [← this]; exact j3
        · exact h1
      · rename_i hf
        rw [if_pos (.inr trivial)] at hr
        obtain ⟨D, d1, d2⟩ := h.next hk
        rw [d1] at hr
        refine ih (k + 1) (F ++ D) R d2 hr fun j hj hjl => ?_
        by_cases hjF : j < F.length
        · rw [fAt_append hjF]
          by_cases hjk : j = k
          · rw [hjk]; exact hf
          · exact hno j (by omega) hjF
        · omega
    · rename_i hk
      injection hr with hr
      subst hr
      exact ⟨fun _ => key k F h (by omega) hno, fun G p e => by cases e⟩

/-- Each is near the one ahead of it. -/
def Adj (near : Int → List Int) (l : List Int) : Prop := ∀ j, j + 1 < l.length → l.getD (j + 1) 0 ∈ near (l.getD j 0)
theorem Adj.snoc {near : Int → List Int} {l : List Int} {x w : Int} (h : Adj near (l ++ [x])) (hw : w ∈ near x) : Adj near (l ++ [x] ++ [w]) := by
  intro j hj
  simp at hj
  by_cases e : j = l.length
  · subst e
    have e1 : (l ++ [x] ++ [w]).getD (l.length + 1) 0 = w := by
      rw [List.getD_eq_getElem?_getD, List.getElem?_append_right (by simp)]; simp
    have e2 : (l ++ [x] ++ [w]).getD l.length 0 = x := by
      rw [getD_append_lt _ _ _ (by simp), List.getD_eq_getElem?_getD, List.getElem?_append_right (Nat.le_refl _)]; simp
    rw [e1, e2]; exact hw
  · rw [getD_append_lt (l ++ [x]) [w] 0 (k := j + 1) (by simp; omega), getD_append_lt (l ++ [x]) [w] 0 (k := j) (by simp; omega)]
    exact h j (by simp; omega)
theorem way_adj {near : Int → List Int} {from' : Int} {q : Nat} {F : Fnd} (h : Bf near from' q F) : ∀ k, k < F.length → ∃ l, from' :: (chainF F k k).reverse = l ++ [fAt F k] ∧ Adj near (l ++ [fAt F k]) := by
  intro k
  induction k using Nat.strongRecOn with
  | ind k ih =>
    intro hk
    cases k with
    | zero =>
      refine ⟨[], ?_, fun j hj => by simp at hj⟩
      simp [chainF, (fAt_zero h.g).1]
    | succ k =>
      have hp := (h.g.par _ hk).2 (by omega)
      obtain ⟨l, h1, h2⟩ := ih _ hp (by omega)
      have e : from' :: (chainF F (k + 1) (k + 1)).reverse = (from' :: (chainF F (pAt F (k + 1)) (pAt F (k + 1))).reverse) ++ [fAt F (k + 1)] := by
        simp only [chainF, if_neg (Nat.succ_ne_zero k), List.reverse_cons]
        rw [chain_fuel h.g _ k (by omega) (by omega)]; rfl
      rw [h1] at e
      exact ⟨_, e, h2.snoc (h.adj _ (by omega) hk)⟩

/-- The way: none, or a shortest one. -/
theorem path_dst {vs : List Int} {near : Int → List Int} {from' to : Int} {n : Nat} {l : List Int} (h : refPath vs near (fun _ => true) from' to n = some l) (h1 : from' ∈ vs) (h2 : to ∈ vs) :
    (l = [] ∧ ∀ m, ¬ Wk near from' m to) ∨ (∃ d, l.length = d + 1 ∧ Dst near from' to d ∧ l.getD 0 0 = from' ∧ l.getD d 0 = to ∧ Adj near l) := by
  unfold refPath at h
  rw [if_neg (by simp [h1, h2])] at h
  cases hb : refRun near (fun _ => true) to n 0 [(from', 0)] with
  | none => rw [hb] at h; cases h
  | some R =>
    rw [hb] at h
    obtain ⟨a1, a2⟩ := run_dst _ _ _ R (bf_start near from') hb fun j hj => by omega
    rcases R with _ | ⟨F, k⟩
    · injection h with h
      exact .inl ⟨h.symm, a1 rfl⟩
    · injection h with h
      subst h
      obtain ⟨b1, b2, b3, q, b4⟩ := a2 F k rfl
      obtain ⟨l, c1, c2⟩ := way_adj b4 k b3
      refine .inr ⟨dLen F k, by simp [dLen], b1, by simp, ?_, by rw [c1]; exact c2⟩
      have hl : l.length = dLen F k := by
        have := congrArg List.length c1
        simp at this
        unfold dLen; omega
      rw [c1, ← hl, List.getD_eq_getElem?_getD, List.getElem?_append_right (Nat.le_refl _)]
      simp [b2]

end Go.Proofs.YtomfeddgeihipaaGreat.Aw

namespace Go.Proofs.YtomfeddgeihipaaGreat.Aw
open Go Go.RowKit Go.Proofs.YtomfeddgeihipaaGreat.Pl
set_option linter.unusedSimpArgs false
set_option linter.unusedVariables false

inductive IsFo : List Ed → List Ed → List Ed → Prop
  | nil : IsFo [] [] []
  | rest {l I R : List Ed} {x : Ed} (h : IsFo l I R) (k : Reach I x.a x.b) : IsFo (l ++ [x]) I (R ++ [x])
  | join {l I R : List Ed} {x : Ed} (h : IsFo l I R) (k : ¬ Reach I x.a x.b) : IsFo (l ++ [x]) (I ++ [x]) R
theorem IsFo.unique {l I R : List Ed} (h : IsFo l I R) : ∀ {I' R' : List Ed}, IsFo l I' R' → I = I' ∧ R = R' := by
  have key : ∀ {m I' R' : List Ed} {l : List Ed} {x : Ed}, IsFo m I' R' → m = l ++ [x] → ∃ I0 R0, IsFo l I0 R0 ∧ ((Reach I0 x.a x.b ∧ I' = I0 ∧ R' = R0 ++ [x]) ∨ (¬ Reach I0 x.a x.b ∧ I' = I0 ++ [x] ∧ R' = R0)) := by
    intro m I' R' l x hm e
    cases hm with
    | nil => simp at e
    | rest h k =>
      obtain ⟨rfl, e2⟩ := List.append_inj' e rfl
      simp at e2; subst e2
      exact ⟨_, _, h, .inl ⟨k, rfl, rfl⟩⟩
    | join h k =>
      obtain ⟨rfl, e2⟩ := List.append_inj' e rfl
      simp at e2; subst e2
      exact ⟨_, _, h, .inr ⟨k, rfl, rfl⟩⟩
  induction h with
  | nil =>
    intro I' R' k
    generalize he : ([] : List Ed) = m at k
    cases k with
    | nil => exact ⟨rfl, rfl⟩
    | rest => simp at he
    | join => simp at he
  | rest h k ih =>
    intro I' R' k'
    obtain ⟨I0, R0, h0, h1 | h1⟩ := key k' rfl
    · obtain ⟨rfl, rfl⟩ := ih h0
      exact ⟨h1.2.1.symm, h1.2.2.symm⟩
    · obtain ⟨rfl, rfl⟩ := ih h0
      exact absurd k h1.1
  | join h k ih =>
    intro I' R' k'
    obtain ⟨I0, R0, h0, h1 | h1⟩ := key k' rfl
    · obtain ⟨rfl, rfl⟩ := ih h0
      exact absurd h1.1 k
    · obtain ⟨rfl, rfl⟩ := ih h0
      exact ⟨h1.2.1.symm, h1.2.2.symm⟩
theorem IsFo.sub {l I R : List Ed} (h : IsFo l I R) : I.Sublist l ∧ R.Sublist l ∧ ∀ x, x ∈ l ↔ x ∈ I ∨ x ∈ R := by
  induction h with
  | nil => simp
  | rest h k ih =>
    obtain ⟨a, b, c⟩ := ih
    refine ⟨a.trans (List.sublist_append_left _ _), b.append (.refl _), fun y => ?_⟩
    simp only [List.mem_append, c, List.mem_singleton, or_assoc]
  | join h k ih =>
    obtain ⟨a, b, c⟩ := ih
    refine ⟨a.append (.refl _), b.trans (List.sublist_append_left _ _), fun y => ?_⟩
    simp only [List.mem_append, c, List.mem_singleton]
    constructor
    · rintro ((h | h) | h) <;> simp [h]
    · rintro ((h | h) | h) <;> simp [h]

theorem Reach.monoF {es es' : List Ed} {v w : Int} (h : Reach es v w) (hs : ∀ x ∈ es, x ∈ es') : Reach es' v w := by
  induction h with
  | refl => exact .refl
  | step _ hw ih =>
    refine .step ih ?_
    rw [mem_nbr] at hw ⊢
    obtain ⟨x, hx, h⟩ := hw
    exact ⟨x, hs x hx, h⟩
theorem Reach.edge {es : List Ed} {x : Ed} (h : x ∈ es) : Reach es x.a x.b := .step .refl (mem_nbr.2 ⟨x, h, .inl ⟨rfl, rfl⟩⟩)

/-- A forest of parents, its roots, and how far each is at most from its own. -/
structure UF (vs : List Int) (I : List Ed) (U R : Int → Int) (d : Int → Nat) : Prop where
  inU : ∀ v ∈ vs, U v ∈ vs
  inR : ∀ v ∈ vs, R v ∈ vs
  fix : ∀ v ∈ vs, U (R v) = R v
  top : ∀ v ∈ vs, U v = v → R v = v
  up : ∀ v ∈ vs, U v ≠ v → R (U v) = R v ∧ d (U v) < d v
  rel : ∀ v ∈ vs, ∀ w ∈ vs, R v = R w ↔ Reach I v w
theorem UF.start (vs : List Int) : UF vs [] id id fun _ => 0 := by
  refine ⟨fun _ h => h, fun _ h => h, fun _ _ => rfl, fun _ _ _ => rfl, fun _ _ h => absurd rfl h, fun v hv w hw => ?_⟩
  constructor
  · rintro h; simp only [id] at h; subst h; exact .refl
  · intro h
    refine h.closed (L := fun w => id v = id w) rfl fun u _ w hw => ?_
    rw [mem_nbr] at hw
    obtain ⟨x, hx, _⟩ := hw
    simp at hx
theorem UF.join {vs : List Int} {I : List Ed} {U R : Int → Int} {d : Int → Nat} (h : UF vs I U R d) {x : Ed} (ha : x.a ∈ vs) (hb : x.b ∈ vs) (hI : ∀ y ∈ I, y.a ∈ vs ∧ y.b ∈ vs) (hne : R x.a ≠ R x.b) :
    UF vs (I ++ [x]) (fun v => if v = R x.a then R x.b else U v) (fun v => if R v = R x.a then R x.b else R v) (fun v => if R v = R x.a then d v + d (R x.b) + 1 else d v) := by
  have rr : ∀ v ∈ vs, R (R v) = R v := fun v hv => h.top _ (h.inR v hv) (h.fix v hv)
  refine ⟨fun v hv => ?_, fun v hv => ?_, fun v hv => ?_, fun v hv => ?_, fun v hv => ?_, fun v hv w hw => ?_⟩
  · split
    · exact h.inR _ hb
    · exact h.inU v hv
  · split
    · exact h.inR _ hb
    · exact h.inR v hv
  · skip
    by_cases e : R v = R x.a
    · rw [if_pos e, if_neg (fun e2 => hne e2.symm)]; exact h.fix _ hb
    · rw [if_neg e, if_neg e]; exact h.fix v hv
  · skip
    intro e
    by_cases e1 : v = R x.a
    · rw [if_pos e1] at e
      exact absurd (e1 ▸ e) (fun e2 => hne (by rw [← e1, ← e]))
    · rw [if_neg e1] at e
      have e2 := h.top v hv e
      rw [if_neg (by rw [e2]; exact e1)]
      exact e2
  · skip
    by_cases e1 : v = R x.a
    · subst e1
      intro _
      rw [if_pos rfl, rr _ hb, if_neg (fun e2 => hne e2.symm), rr _ ha, if_pos rfl, if_neg (fun e2 => hne e2.symm), if_pos rfl]
      exact ⟨rfl, by omega⟩
    · rw [if_neg e1]
      intro e
      obtain ⟨g1, g2⟩ := h.up v hv e
      rw [g1]
      refine ⟨rfl, ?_⟩
      split <;> omega
  · skip
    have hx : Reach (I ++ [x]) x.a x.b := .edge (by simp)
    have mono : ∀ {v w}, Reach I v w → Reach (I ++ [x]) v w := fun h => h.monoF fun y hy => List.mem_append_left _ hy
    constructor
    · intro e
      by_cases e1 : R v = R x.a <;> by_cases e2 : R w = R x.a
      · exact mono ((h.rel v hv w hw).1 (e1.trans e2.symm))
      · rw [if_pos e1, if_neg e2] at e
        exact (mono ((h.rel v hv _ ha).1 e1)).trans (hx.trans (mono ((h.rel _ hb w hw).1 e)))
      · rw [if_neg e1, if_pos e2] at e
        exact (mono ((h.rel v hv _ hb).1 e)).trans (hx.symm.trans (mono ((h.rel _ ha w hw).1 e2.symm)))
      · rw [if_neg e1, if_neg e2] at e
        exact mono ((h.rel v hv w hw).1 e)
    · intro hr
      have := hr.closed (L := fun w => w ∈ vs ∧ (if R v = R x.a then R x.b else R v) = if R w = R x.a then R x.b else R w) ⟨hv, rfl⟩ (fun u hu w hw => ?_)
      · exact this.2
      · rw [mem_nbr] at hw
        obtain ⟨y, hy, h1⟩ := hw
        have edge : ∀ p q, (p = y.a ∧ q = y.b ∨ p = y.b ∧ q = y.a) → q ∈ vs ∧ (if R p = R x.a then R x.b else R p) = if R q = R x.a then R x.b else R q := by
          intro p q hpq
          rcases List.mem_append.1 hy with hy | hy
          · have hyv := hI y hy
            have hyr := (h.rel _ hyv.1 _ hyv.2).2 (.edge hy)
            rcases hpq with ⟨rfl, rfl⟩ | ⟨rfl, rfl⟩
            · exact ⟨hyv.2, by rw [hyr]⟩
            · exact ⟨hyv.1, by rw [hyr]⟩
          · rw [List.mem_singleton] at hy
            subst hy
            rcases hpq with ⟨rfl, rfl⟩ | ⟨rfl, rfl⟩
            · refine ⟨hb, ?_⟩
              rw [if_pos rfl, if_neg (fun e => hne e.symm)]
            · refine ⟨ha, ?_⟩
              rw [if_pos rfl, if_neg (fun e => hne e.symm)]
        rcases h1 with ⟨h1, h2⟩ | ⟨h1, h2⟩
        · obtain ⟨g1, g2⟩ := edge u w (.inl ⟨h1.symm, h2.symm⟩)
          exact ⟨g1, hu.2.trans g2⟩
        · obtain ⟨g1, g2⟩ := edge u w (.inr ⟨h1.symm, h2.symm⟩)
          exact ⟨g1, hu.2.trans g2⟩

/-- Of rising numbers, those of a part pick just that part. -/
theorem pick_sub {l I : List Ed} (hi : l.Pairwise fun x y => x.id < y.id) (hs : I.Sublist l) : (l.filter fun x => decide (x.id ∈ I.map (·.id))) = I := by
  induction hs with
  | slnil => rfl
  | cons a hs ih =>
    rw [List.pairwise_cons] at hi
    rw [List.filter_cons_of_neg, ih hi.2]
    simp only [decide_eq_true_eq]
    intro h
    obtain ⟨y, hy, e⟩ := List.mem_map.1 h
    have := hi.1 y (hs.subset hy)
    omega
  | cons_cons a hs ih =>
    rw [List.pairwise_cons] at hi
    rw [List.filter_cons_of_pos (by simp)]
    congr 1
    refine Eq.trans (List.filter_congr fun y hy => ?_) (ih hi.2)
    have := hi.1 y hy
    simp only [List.map_cons, List.mem_cons]
    have hne : ¬ y.id = a.id := by omega
    simp [hne]

end Go.Proofs.YtomfeddgeihipaaGreat.Aw

namespace Go.Proofs.YtomfeddgeihipaaGreat.Aw
open Go Go.RowKit Go.Proofs.YtomfeddgeihipaaGreat.Pl
set_option linter.unusedSimpArgs false
set_option linter.unusedVariables false

def adjB (v w : Int) (x : Ed) : Bool := (x.a == v && x.b == w) || (x.a == w && x.b == v)
def OwnT (t : Nat) (lo : St) (l : List Int) (st : St) : Prop := t ≠ 0 ∧ lo.next ≤ t ∧ t < st.next ∧ st.H t = .own 41 1 l.length

end Go.Proofs.YtomfeddgeihipaaGreat.Aw

namespace Go.Proofs.YtomfeddgeihipaaGreat.Aw
open Go Go.RowKit Go.Proofs.YtomfeddgeihipaaGreat.Pl
set_option linter.unusedSimpArgs false
set_option linter.unusedVariables false

def ns (l : List Nat) : List LV := l.map fun n : Nat => i (n : Int)
theorem ns_len (l : List Nat) : (ns l).length = l.length := by simp [ns]
def fV (F : Fnd) : List Int := F.map (·.1)
def fB (F : Fnd) : List Nat := F.map (·.2)
@[simp] theorem fV_len (F : Fnd) : (fV F).length = F.length := by simp [fV]
@[simp] theorem fB_len (F : Fnd) : (fB F).length = F.length := by simp [fB]
@[simp] theorem ns_len2 (l : List Nat) : (ns l).length = l.length := ns_len l
/-- Rows of the call's own. -/
def OwnN (t e n : Nat) (lo : St) (st : St) : Prop := t ≠ 0 ∧ lo.next ≤ t ∧ t < st.next ∧ st.H t = .own e 1 n

def nearR (g : Gr) (v : Int) : List Int := g.vs.filter fun w => decide (adj g.es v w)
/-- What stays all along. -/
def PF (g : Gr) (from' to : Int) (tt : Nat) (th : List Int) (al : Bool) (st : St) (fr : Frm) (s : St) : Prop :=
  fr 1 = u from' ∧ fr 2 = u to ∧ fr 3 = .sl tt th.length (us th) ∧ fr 4 = bb al ∧ fr 5 = .pt st.next 0 ∧ s.H st.next = .box 38 2 (grL g) ∧ st.next < s.next ∧ Keeps st s
def FB (F : Fnd) (st : St) (fr : Frm) (s : St) : Prop := ∃ tf tb, fr 11 = .sl tf F.length (us (fV F)) ∧ fr 12 = .sl tb F.length (ns (fB F)) ∧ OwnN tf 41 F.length st s ∧ OwnN tb 3 F.length st s
def PI (g : Gr) (from' to : Int) (tt : Nat) (th : List Int) (al : Bool) (st s : St) (k : Nat) (v : Int) (F : Fnd) (m : Bool) (f : Frm) (s' : St) : Prop :=
  s' = s ∧ f 13 = i k ∧ f 14 = u v ∧ f 18 = bb m ∧ PF g from' to tt th al st f s' ∧ FB F st f s'
theorem OwnN.keeps {t e n : Nat} {lo s s' : St} (h : OwnN t e n lo s) (k : Keeps s s') : OwnN t e n lo s' := by
  obtain ⟨h1, h2, h3, h4⟩ := h
  exact ⟨h1, h2, Nat.lt_of_lt_of_le h3 k.next, by rw [k.H t h3]; exact h4⟩

end Go.Proofs.YtomfeddgeihipaaGreat.Aw

namespace Go.Proofs.YtomfeddgeihipaaGreat.Aw
open Go Go.RowKit Go.Proofs.YtomfeddgeihipaaGreat.Pl
set_option linter.unusedSimpArgs false
set_option linter.unusedVariables false

structure GrF (g : Gr) : Prop where
  rise : g.vs.Pairwise (· < ·)
  vpos : ∀ v ∈ g.vs, 1 ≤ v ∧ v ≤ 1048576
  ids : g.es.Pairwise fun x y => x.id < y.id
  pos : ∀ x ∈ g.es, 1 ≤ x.id ∧ x.id ≤ 1048576
  ne : ∀ x ∈ g.es, x.a ≠ x.b
  ends : ∀ x ∈ g.es, x.a ∈ g.vs ∧ x.b ∈ g.vs
  l1 : g.vs.length ≤ 64
  l2 : g.es.length ≤ 160

theorem nz_all {f : Nat → Int} {n : Nat} (h : firstNZ f n = 0) : ∀ j, j < n → f j = 0 := by
  induction n with
  | zero => intro j hj; omega
  | succ n ih =>
    intro j hj
    simp only [firstNZ] at h
    by_cases h0 : firstNZ f n = 0
    · rw [if_neg (by simp [h0])] at h
      rcases Nat.lt_or_ge j n with h1 | h1
      · exact ih h0 j h1
      · obtain rfl : j = n := by omega
        exact h
    · rw [if_pos h0] at h; exact absurd h h0
theorem numb_zero_iff (n a : Int) (b : Bool) : numb n a b = 0 ↔ (1 ≤ n ∧ n ≤ 1048576) ∧ (b = false → a < n) := by
  unfold numb
  by_cases h1 : n < 1 ∨ 1048576 < n
  · rw [if_pos h1]
    constructor
    · intro h; cases h
    · rintro ⟨h, _⟩; omega
  · rw [if_neg h1]
    by_cases h2 : b = false ∧ n ≤ a
    · rw [if_pos h2]
      constructor
      · intro h; cases h
      · rintro ⟨_, h⟩; have := h h2.1; omega
    · rw [if_neg h2]
      refine ⟨fun _ => ⟨by omega, fun hb => ?_⟩, fun _ => rfl⟩
      rcases Int.lt_or_le a n with h3 | h3
      · exact h3
      · exact absurd ⟨hb, h3⟩ h2
theorem rise_step {l : List Int} (h : ∀ j, j < l.length → 0 < j → l.getD (j - 1) 0 < l.getD j 0) : l.Pairwise (· < ·) := by
  have g : ∀ j (hj : j < l.length), l.getD j 0 = l[j] := fun j hj => by rw [List.getD_eq_getElem?_getD, List.getElem?_eq_getElem hj]; rfl
  rw [List.pairwise_iff_getElem]
  intro a b ha hb hab
  induction b with
  | zero => omega
  | succ b ih =>
    have h1 := h (b + 1) hb (by omega)
    rw [Nat.add_sub_cancel, g _ hb, g _ (by omega)] at h1
    rcases Nat.lt_or_ge a b with h2 | h2
    · have := ih (by omega) h2; omega
    · obtain rfl : a = b := by omega
      exact h1
theorem gE (l : List Ed) (j : Nat) (hj : j < l.length) : l.getD j ed0 = l[j] := by
  rw [List.getD_eq_getElem?_getD, List.getElem?_eq_getElem hj]; rfl
theorem badE_zero (g : Gr) (j : Nat) (x : Ed) (hx : g.es.getD j ed0 = x) : badE g j = 0 ↔ ((1 ≤ x.id ∧ x.id ≤ 1048576) ∧ (0 < j → (g.es.getD (j - 1) ed0).id < x.id)) ∧ x.a ≠ x.b ∧ x.a ∈ g.vs ∧ x.b ∈ g.vs := by
  unfold badE
  simp only [hx]
  have h0 := numb_zero_iff x.id (g.es.getD (j - 1) ed0).id (decide (j = 0))
  have hj : (decide (j = 0) = false) ↔ 0 < j := by simp; omega
  rw [hj] at h0
  by_cases h1 : numb x.id (g.es.getD (j - 1) ed0).id (decide (j = 0)) = 0
  · rw [if_neg (fun h => h h1)]
    have h1' := h0.1 h1
    by_cases h2 : x.a = x.b
    · rw [if_pos h2]
      constructor
      · intro h; cases h
      · rintro ⟨_, h, _⟩; exact absurd h2 h
    · rw [if_neg h2]
      by_cases h3 : x.a ∉ g.vs ∨ x.b ∉ g.vs
      · rw [if_pos h3]
        constructor
        · intro h; cases h
        · rintro ⟨_, _, h, h'⟩
          rcases h3 with h3 | h3
          · exact absurd h h3
          · exact absurd h' h3
      · rw [if_neg h3]
        exact ⟨fun _ => ⟨h1', h2, Classical.byContradiction fun h => h3 (.inl h), Classical.byContradiction fun h => h3 (.inr h)⟩, fun _ => rfl⟩
  · rw [if_pos h1]
    constructor
    · intro h; exact absurd h h1
    · rintro ⟨h, _⟩; exact absurd (h0.2 h) h1
theorem chk_full {g : Gr} (h : chk g = 0) : GrF g := by
  unfold chk at h
  by_cases h1 : 64 < g.vs.length ∨ 160 < g.es.length
  · rw [if_pos h1] at h; cases h
  rw [if_neg h1] at h
  by_cases h2 : firstNZ (badV g) g.vs.length = 0
  rotate_left
  · rw [if_pos h2] at h; exact absurd h h2
  rw [if_neg (by simp [h2])] at h
  have gI : ∀ j (hj : j < g.vs.length), g.vs.getD j 0 = g.vs[j] := fun j hj => by rw [List.getD_eq_getElem?_getD, List.getElem?_eq_getElem hj]; rfl
  have hV := fun j hj => (numb_zero_iff _ _ _).1 (nz_all h2 j hj)
  have hE := fun j hj => (badE_zero g j _ rfl).1 (nz_all h j hj)
  have hin : ∀ x ∈ g.es, ∃ j, j < g.es.length ∧ g.es.getD j ed0 = x := fun x hx => by
    obtain ⟨j, hj, rfl⟩ := List.getElem_of_mem hx
    exact ⟨j, hj, gE _ _ hj⟩
  refine ⟨rise_step fun j hj h0 => (hV j hj).2 (by simp; omega), fun v hv => ?_, ?_, fun x hx => ?_, fun x hx => ?_, fun x hx => ?_, by omega, by omega⟩
  · obtain ⟨j, hj, rfl⟩ := List.getElem_of_mem hv
    rw [← gI j hj]; exact (hV j hj).1
  · have := rise_step (l := g.es.map (·.id)) fun j hj h0 => by
      rw [List.length_map] at hj
      have := (hE j hj).1.2 h0
      rw [gE _ _ hj, gE _ _ (by omega)] at this
      rw [List.getD_eq_getElem?_getD, List.getElem?_eq_getElem (by simp; omega), List.getD_eq_getElem?_getD, List.getElem?_eq_getElem (by simp; omega)]
      simpa using this
    rwa [List.pairwise_map] at this
  · obtain ⟨j, hj, rfl⟩ := hin x hx; exact (hE j hj).1.1
  · obtain ⟨j, hj, rfl⟩ := hin x hx; exact (hE j hj).2.1
  · obtain ⟨j, hj, rfl⟩ := hin x hx; exact (hE j hj).2.2
end Go.Proofs.YtomfeddgeihipaaGreat.Aw

namespace Go.Proofs.YtomfeddgeihipaaGreat.Aw
open Go Go.RowKit Go.Proofs.YtomfeddgeihipaaGreat.Pl
set_option linter.unusedSimpArgs false
set_option linter.unusedVariables false

def lightB (g : Gr) : Bool := decide (chk g = 0 ∧ g.vs.length ≤ 16 ∧ g.es.length ≤ 24)
theorem pathF_len2 {vs : List Int} {near : Int → List Int} {may : Int → Bool} {a b : Int} {n : Nat} {l : List Int} (h : pathF vs near may a b n = some l) : l.length ≤ n + 1 := by
  unfold pathF at h
  split at h
  · injection h with h; subst h; simp
  · split at h
    · injection h with h; subst h; simp
    · split at h
      · injection h with h; subst h; simp
      · rw [Option.map_eq_some_iff] at h
        obtain ⟨l', h1, rfl⟩ := h
        have := backF_len h1
        simp only [List.length_reverse, List.length_cons]; omega
      · cases h

end Go.Proofs.YtomfeddgeihipaaGreat.Aw

namespace Go.Proofs.YtomfeddgeihipaaGreat.Aw
open Go Go.RowKit Go.Proofs.YtomfeddgeihipaaGreat.Pl
set_option linter.unusedSimpArgs false
set_option linter.unusedVariables false
open Eu

theorem IsFo.reach {l I R : List Ed} (h : IsFo l I R) (v w : Int) : Reach l v w ↔ Reach I v w := by
  refine ⟨fun hr => ?_, fun hr => hr.monoF fun x hx => h.sub.1.subset hx⟩
  have edge : ∀ x ∈ l, Reach I x.a x.b := by
    clear hr v w
    induction h with
    | nil => intro x hx; simp at hx
    | rest h k ih =>
      intro x hx
      rcases List.mem_append.1 hx with hx | hx
      · exact ih x hx
      · rw [List.mem_singleton] at hx; subst hx; exact k
    | join h k ih =>
      intro x hx
      rcases List.mem_append.1 hx with hx | hx
      · exact (ih x hx).monoF fun y hy => List.mem_append_left _ hy
      · rw [List.mem_singleton] at hx; subst hx; exact .edge (by simp)
  induction hr with
  | refl => exact .refl
  | step _ hw ih =>
    obtain ⟨x, hx, ⟨rfl, rfl⟩ | ⟨rfl, rfl⟩⟩ := mem_nbr.1 hw
    · exact ih.trans (edge x hx)
    · exact ih.trans (edge x hx).symm
theorem IsFo.count {vs : List Int} (hn : vs.Nodup) {l I R : List Ed} (h : IsFo l I R) (hv : ∀ x ∈ l, x.a ∈ vs ∧ x.b ∈ vs) : I.length + ncl (Reach I) vs = vs.length := by
  induction h with
  | nil => simp [ncl_one (R := Reach []) (fun x y h => reach_nil h) hn]
  | rest h k ih => exact ih fun x hx => hv x (List.mem_append_left _ hx)
  | @join l I R x h k ih =>
    have h1 := ih fun x hx => hv x (List.mem_append_left _ hx)
    have h2 := hv x (by simp)
    have h3 := ncl_mg (reach_eqv I) k h2.1 h2.2
    have h4 : ncl (Reach (I ++ [x])) vs = ncl (Mg (Reach I) x.a x.b) vs := ncl_congr fun v _ w _ => reach_snoc I x v w
    rw [h4, List.length_append, List.length_singleton]
    omega
theorem IsFo.len {l I R : List Ed} (h : IsFo l I R) : I.length + R.length = l.length := by
  induction h with
  | nil => rfl
  | rest h k ih => simp; omega
  | join h k ih => simp; omega
theorem IsFo.self {l I R : List Ed} (h : IsFo l I R) : IsFo I I [] := by
  induction h with
  | nil => exact .nil
  | rest h k ih => exact ih
  | join h k ih => exact .join ih k
theorem IsFo.rest_reach {l I R : List Ed} (h : IsFo l I R) : ∀ x ∈ R, Reach I x.a x.b := fun x hx => (h.reach _ _).1 (.edge (h.sub.2.1.subset hx))

theorem near_nbr {es : List Ed} {v w : Int} : w ∈ nearF es v ↔ w ∈ nbr es v := by
  rw [mem_nearF, mem_nbr]
  constructor
  · rintro ⟨x, hx, ⟨h1, h2⟩ | ⟨h1, h2⟩⟩
    · exact ⟨x, hx, .inl ⟨h1, h2⟩⟩
    · exact ⟨x, hx, .inr ⟨h2, h1⟩⟩
  · rintro ⟨x, hx, ⟨h1, h2⟩ | ⟨h1, h2⟩⟩
    · exact ⟨x, hx, .inl ⟨h1, h2⟩⟩
    · exact ⟨x, hx, .inr ⟨h2, h1⟩⟩
theorem reach_wk {es : List Ed} {v w : Int} : Reach es v w ↔ ∃ n, Wk (nearF es) v n w := by
  constructor
  · intro h
    induction h with
    | refl => exact ⟨0, .nil⟩
    | step _ hw ih =>
      obtain ⟨n, hn⟩ := ih
      exact ⟨n + 1, .snoc hn (near_nbr.2 hw)⟩
  · rintro ⟨n, hn⟩
    induction hn with
    | nil => exact .refl
    | snoc _ hw ih => exact ih.step (near_nbr.1 hw)

/-- Is an edge between these, either way round? -/
def hasB (es : List Ed) (v w : Int) : Bool := es.any fun y => decide (y.a = v ∧ y.b = w) || decide (y.b = v ∧ y.a = w)
theorem hasB_near {es : List Ed} {v w : Int} (h : w ∈ nearF es v) : hasB es v w = true := by
  obtain ⟨x, hx, h1⟩ := mem_nbr.1 (near_nbr.1 h)
  refine List.any_eq_true.2 ⟨x, hx, ?_⟩
  rcases h1 with h1 | h1 <;> simp [h1]
/-- The ring of an edge that isn't the forest's: from its one end to its other one, along the forest's edges. -/
theorem ring_way {g : Gr} {I Rs : List Ed} (hfo : IsFo g.es I Rs) {x : Ed} (hx : x ∈ Rs) (hne : x.a ≠ x.b) {l : List Int} {n : Nat} (h : refPath g.vs (nearF I) (fun _ => true) x.a x.b n = some l) (ha : x.a ∈ g.vs) (hb : x.b ∈ g.vs) :
    ∃ d, l.length = d + 1 ∧ 0 < d ∧ l.getD 0 0 = x.a ∧ l.getD d 0 = x.b ∧ ∀ j, j + 1 < l.length → hasB I (l.getD j 0) (l.getD (j + 1) 0) = true := by
  rcases path_dst h ha hb with ⟨_, h2⟩ | ⟨d, h1, h2, h3, h4, h5⟩
  · obtain ⟨m, hm⟩ := reach_wk.1 (hfo.rest_reach x hx)
    exact absurd hm (h2 m)
  · refine ⟨d, h1, ?_, h3, h4, fun j hj => hasB_near (h5 j hj)⟩
    cases d with
    | zero => rw [h3] at h4; exact absurd h4 hne
    | succ d => omega

end Go.Proofs.YtomfeddgeihipaaGreat.Aw

namespace Go.Proofs.YtomfeddgeihipaaGreat.Aw
open Go Go.RowKit Go.Proofs.YtomfeddgeihipaaGreat.Pl
set_option linter.unusedSimpArgs false
set_option linter.unusedVariables false

theorem root (m : Nat) (mes : List (List Int × LV)) (vs : List Int) (I : List Ed) (U R : Int → Int) (d : Int → Nat) (v : Int) (st : St) (hM : st.H m = .map false [.u32] mes) (hU : UF vs I U R d) (hmes : ∀ v ∈ vs, mget mes [v] = some (u (U v))) (hv : v ∈ vs) :
    ACalls Tryz.prog 145 [.mp m, u v] st fun r st' => r = u (R v) ∧ st' = st := by
  refine acalls_of_body tabOk Tryz.func145 rfl rfl Tryz.ntmps145 (rs := [.tmp 4]) rfl (by simp) ?_
  (repeat' (first | refine awp_seq ?_ | refine awp_block ?_ | (refine w_e [] ?_; intro J hJ; simp only []; simp []; (refine hJ _ _ ?_; clear hJ J; simp only [ak, reduceIte]))))
  refine awp_loop (fun n fr s => ∃ x, x ∈ vs ∧ R x = R v ∧ n = d x ∧ fr 0 = .mp m ∧ fr 1 = u x ∧ s = st) (d v) ⟨v, hv, rfl, rfl, by simp, by simp, rfl⟩ ?_
  rintro n fr s ⟨x, hx, hxr, rfl, f0, f1, rfl⟩ J hJ
  have hg := hmes x hx
  by_cases hux : U x = x
  · clear hJ
    have h1 := hU.top x hx hux
    have hb : (U x != x) = false := by simpa using hux
    have h2 : x = R v := by rw [← hxr, h1]
    (repeat' (first | refine awp_seq ?_ | (refine awp_exit ?_; simp only [ak, reduceIte]) | (refine awp_ret ?_; simp only [ak, reduceIte]; simp [f0, f1, hM, hg, hb, hux]) | (refine awp_cond ?_; simp [f0, f1, hM, hg, hb, hux]) | (refine w_e [] ?_; intro J hJ; simp only []; simp [f0, f1, hM, hg, hb, hux]; (refine hJ _ _ ?_; clear hJ J; simp only [ak, reduceIte]))))
    exact h2
  · have hb : (U x != x) = true := by simpa using hux
    obtain ⟨g1, g2⟩ := hU.up x hx hux
    (repeat' (first | refine awp_seq ?_ | refine awp_block ?_ | (refine awp_skip ?_; simp only [ak, reduceIte]) | (refine awp_cond ?_; simp [f0, f1, hM, hg, hb]) | (refine w_e [] ?_; intro J hJ; simp only []; simp [f0, f1, hM, hg, hb]; (refine hJ _ _ ?_; clear hJ J; simp only [ak, reduceIte]))))
    exact hJ _ _ _ g2 ⟨U x, hU.inU x hx, by rw [g1]; exact hxr, rfl, by simp [f0], by simp, rfl⟩

def idsL (l : List Ed) : List Int := l.map (·.id)
@[simp] theorem idsL_len (l : List Ed) : (idsL l).length = l.length := by simp [idsL]
def OwnI (t : Nat) (lo : St) (n : Nat) (st : St) : Prop := t ≠ 0 ∧ lo.next ≤ t ∧ t < st.next ∧ st.H t = .own 41 1 n
theorem box_neW {st : St} {a b : Nat} {x y : LObj} (ha : st.H a = x) (hb : st.H b = y) (h : x ≠ y) : ¬ a = b := fun e => h (by rw [← ha, e, hb])
structure SpI (g : Gr) (st : St) (M : Nat) (E I Rs : List Ed) (t2 t3 : Nat) (mes : List (List Int × LV)) (s : St) : Prop where
  hM : s.H M = .map false [.u32] mes
  fo : IsFo E I Rs
  uf : ∃ U R d, UF g.vs I U R d ∧ ∀ v ∈ g.vs, mget mes [v] = some (u (U v))
  o2 : OwnI t2 st I.length s
  o3 : OwnI t3 st Rs.length s
  ne : t2 ≠ t3
  b : st.next ≤ M ∧ M < s.next
  kp : Keeps st s

set_option maxHeartbeats 2000000 in
theorem split (g : Gr) (st : St) (hg : Good g) (hv : g.vs.length ≤ 1000) (he : g.es.length ≤ 1000) (hp : 0 < st.next) :
    ACalls Tryz.prog 108 [.ag (grL g)] st fun r st' => (∃ I Rs, IsFo g.es I Rs ∧ r = .tu [.sl 0 (idsL I).length (us (idsL I)), .sl 0 (idsL Rs).length (us (idsL Rs))]) ∧ Keeps st st' := by
  refine acalls_z0 ?_
  have hel := eds_length g.es
  refine acalls_of_body tabOk Tryz.func108 rfl rfl Tryz.ntmps108 (rs := [.tmp 2, .tmp 3]) rfl (by simp) ?_
  (repeat' (first | refine awp_seq ?_ | refine awp_block ?_ | (refine w_e [] ?_; intro J hJ; simp only []; simp []; (refine hJ _ _ ?_; clear hJ J; simp only [ak, reduceIte]))))
  refine awp_range 15 14 16 22 (g.vs.length) (fun j fr st2 => fr 1 = .pt st.next 0 ∧ fr 2 = .nil ∧ fr 3 = .nil ∧ fr 4 = .mp (st.next + 1) ∧ fr 13 = .sl 0 g.vs.length (us g.vs) ∧ st2.H st.next = .box 38 2 (grL g) ∧ st2.next = st.next + 2 ∧ Keeps st st2 ∧ ∃ mes, st2.H (st.next + 1) = .map false [.u32] mes ∧ ∀ v ∈ g.vs.take j, mget mes [v] = some (u v)) ?_ ?_ ?_
  · exact ⟨by simp, by simp, by simp, by simp, by simp, by simp, by simp, (Keeps.new _ _).trans (Keeps.new _ _), [], by simp, by simp⟩
  · rintro j fr s hlt ⟨f1, f2, f3, f4, f13, hG, hsn, hkp, mes, hM, hmes⟩ fi fn J hJ
    have hd := us_drop_getD g.vs j hlt
    have htk : g.vs.take (j + 1) = g.vs.take j ++ [g.vs.getD j 0] := by
      rw [List.getD_eq_getElem?_getD, List.getElem?_eq_getElem hlt]; exact List.take_succ_eq_append_getElem hlt
    generalize g.vs.getD j 0 = v at *
    (repeat' (first | refine awp_seq ?_ | (refine w_e [] ?_; intro J hJ; simp only []; simp [f4, f13, fi, fn, hd, hlt, hM]; (refine hJ _ _ ?_; clear hJ J; simp only [ak, reduceIte]))))
    refine hJ _ _ (by simp [fi]) (by simp [fn]) ⟨by simp [f1], by simp [f2], by simp [f3], by simp [f4], by simp [f13], by simp [hG], by simp [hsn], hkp.set (by omega) _, mset mes [v] (u v), by simp, fun w hw => ?_⟩
    rw [mget_mset]
    by_cases hwv : w = v
    · subst hwv; simp
    · rw [if_neg (by simpa using hwv)]
      rw [htk, List.mem_append, List.mem_singleton] at hw
      exact hmes w (hw.resolve_right hwv)
  · rintro fr s ⟨f1, f2, f3, f4, f13, hG, hsn, hkp, mes, hM, hmes⟩
    rw [List.take_length] at hmes
    (repeat' (first | refine awp_seq ?_ | refine awp_block ?_ | (refine w_e [] ?_; intro J hJ; simp only []; simp [f1, hG]; (refine hJ _ _ ?_; clear hJ J; simp only [ak, reduceIte]))))
    refine awp_own 2 41 1 (by simp [f2]) ?_
    refine awp_own 3 41 1 (by simp [f3]) ?_
    refine awp_range 26 25 27 54 (g.es.length) (fun j fr st2 => fr 4 = .mp (st.next + 1) ∧ fr 24 = .sl 0 g.es.length (eds g.es) ∧ ∃ mes I Rs t2 t3, fr 2 = .sl t2 I.length (us (idsL I)) ∧ fr 3 = .sl t3 Rs.length (us (idsL Rs)) ∧ SpI g st (st.next + 1) (g.es.take j) I Rs t2 t3 mes st2) ?_ ?_ ?_
    · refine ⟨by simp [f4], by simp, mes, [], [], s.next, s.next + 1, by simp [idsL], by simp [idsL], ?_⟩
      refine ⟨?_, by simpa using IsFo.nil, ⟨id, id, _, UF.start g.vs, hmes⟩, ⟨by omega, by omega, by simp; omega, by simp⟩, ⟨by omega, by omega, by simp, by simp⟩, by omega, ⟨by omega, by simp; omega⟩, (hkp.trans (Keeps.new _ _)).trans (Keeps.new _ _)⟩
      (repeat (first | rw [new_H, if_neg (α := LObj) (by (try simp only [set_next, new_next]); omega)] | rw [set_H, if_neg (α := LObj) (by omega)] | rw [new_H, if_pos (α := LObj) (by (try simp only [set_next, new_next]))] | rw [set_H, if_pos (α := LObj) (by omega)])); exact hM
    · clear f1 f2 f3 f4 f13 hG hsn hkp hM hmes fr s mes
      rintro j fr s hlt ⟨f4, f24, mes, I, Rs, t2, t3, f2, f3, hM, hfo, ⟨U, R, d, hU, hmes⟩, ⟨a1, a2, a3, a4⟩, ⟨b1, b2, b3, b4⟩, hne, ⟨hb1, hb2⟩, hkp⟩ fi fn JO hJO
      generalize hMM : st.next + 1 = M at *
      have hd := eds_drop g.es j hlt
      have hk3 : j * 3 < g.es.length * 3 := by omega
      have htk : g.es.take (j + 1) = g.es.take j ++ [g.es.getD j ed0] := by
        rw [List.getD_eq_getElem?_getD, List.getElem?_eq_getElem hlt]; exact List.take_succ_eq_append_getElem hlt
      have hxin : g.es.getD j ed0 ∈ g.es := by
        rw [List.getD_eq_getElem?_getD, List.getElem?_eq_getElem hlt]; exact List.getElem_mem _
      generalize g.es.getD j ed0 = x at *
      obtain ⟨hxa, hxb⟩ := hg.ends x hxin
      obtain ⟨id, a, b⟩ := x
      simp only at hxa hxb
      have hsub := hfo.sub
      have hIl : I.length ≤ 1000 := by have := hsub.1.length_le; rw [List.length_take] at this; omega
      have hRl : Rs.length ≤ 1000 := by have := hsub.2.1.length_le; rw [List.length_take] at this; omega
      have hIv : ∀ y ∈ I, y.a ∈ g.vs ∧ y.b ∈ g.vs := fun y hy => hg.ends y (List.mem_of_mem_take (hsub.1.subset hy))
      have m0 : ¬ M = s.next := by omega
      have m0' : ¬ s.next = M := by omega
      have m2 : ¬ M = t2 := box_neW hM a4 (by simp)
      have m3 : ¬ M = t3 := box_neW hM b4 (by simp)
      have c2 : ¬ t2 = s.next + 1 := by omega
      have c3 : ¬ t3 = s.next + 1 := by omega
      have c2b : ¬ t2 = s.next := by omega
      have c3b : ¬ t3 = s.next := by omega
      have hM1 : (s.new (.box 43 3 [u id, u a, u b])).H M = .map false [.u32] mes := by rw [new_H, if_neg m0]; exact hM
      (repeat' (first | refine awp_seq ?_ | (refine w_e [] ?_; intro J hJ; simp only []; simp [f24, fi, fn, hd, hel, hk3, hlt]; (refine hJ _ _ ?_; clear hJ J; simp only [ak, reduceIte]))))
      (refine w_s [] [s.next] [(0, true), (1, true), (2, true), (4, true), (5, true), (6, true), (3, true), (7, true), (8, true), (9, true)] ?_; intro J hJ; simp [f4])
      refine dcallK_ofE (root M mes g.vs I U R d a _ hM1 hU hmes hxa) (by simp) ?_; rintro r s5 ⟨rfl, rfl⟩
      refine ⟨fun _ => by simp, ?_⟩
      (refine d_go ?_; simp [f4])
      refine dcallK_ofE (root M mes g.vs I U R d b _ hM1 hU hmes hxb) (by simp) ?_; rintro r s6 ⟨rfl, rfl⟩
      refine ⟨fun _ => by simp, ?_⟩
      (refine d_go ?_; simp []; (refine hJ _ _ ?_; clear hJ J; simp only [ak, reduceIte]))
      by_cases hab : R a = R b
      · have hab2 : (R a == R b) = true := by simpa using hab
        have hre : Reach I a b := (hU.rel a hxa b hxb).1 hab
        (repeat' (first | refine awp_seq ?_ | (refine awp_exit ?_; simp only [ak, reduceIte]) | (refine awp_cond ?_; simp [f3, hab2, b4, b1, c3, c3b]) | (refine w_e [] ?_; intro J hJ; simp only []; simp [f3, hab2, b4, b1, c3, c3b]; (repeat refine ca ?_); (refine hJ _ _ ?_; clear hJ J; simp only [ak, reduceIte]))))
        refine hJO _ _ (by simp [fi]) (by simp [fn]) ⟨by simp [f4], by simp [f24], mes, I, Rs ++ [⟨id, a, b⟩], t2, s.next + 2, by simp [f2], by simp [idsL], ?_⟩
        rw [htk]
        refine ⟨by (repeat (first | rw [new_H, if_neg (α := LObj) (by (try simp only [set_next, new_next]); omega)] | rw [set_H, if_neg (α := LObj) (by omega)] | rw [new_H, if_pos (α := LObj) (by (try simp only [set_next, new_next]))] | rw [set_H, if_pos (α := LObj) (by omega)])); exact hM, .rest hfo hre, ⟨U, R, d, hU, hmes⟩, ⟨a1, a2, by simp; omega, by (repeat (first | rw [new_H, if_neg (α := LObj) (by (try simp only [set_next, new_next]); omega)] | rw [set_H, if_neg (α := LObj) (by omega)] | rw [new_H, if_pos (α := LObj) (by (try simp only [set_next, new_next]))] | rw [set_H, if_pos (α := LObj) (by omega)])); exact a4⟩, ⟨by omega, by omega, by simp, by simp⟩, by omega, ⟨hb1, by simp; omega⟩, ?_⟩
        exact (((hkp.trans (Keeps.new _ _)).trans (Keeps.new _ _)).set (by omega) _).trans (Keeps.new _ _)
      · have hab2 : (R a == R b) = false := by simpa using hab
        have hre : ¬ Reach I a b := fun h => hab ((hU.rel a hxa b hxb).2 h)
        have m2' : ¬ t2 = M := fun e => m2 e.symm
        (repeat' (first | refine awp_seq ?_ | (refine awp_skip ?_; simp only [ak, reduceIte]) | (refine awp_cond ?_; simp [f2, f4, hab2, a4, a1, c2, c2b, hM1, m0, m0', m2', hM]) | (refine w_e [] ?_; intro J hJ; simp only []; simp [f2, f4, hab2, a4, a1, c2, c2b, hM1, m0, m0', m2', hM]; (repeat refine ca ?_); (refine hJ _ _ ?_; clear hJ J; simp only [ak, reduceIte]))))
        refine hJO _ _ (by simp [fi]) (by simp [fn]) ⟨by simp [f4], by simp [f24], mset mes [R a] (u (R b)), I ++ [⟨id, a, b⟩], Rs, s.next + 2, t3, by simp [idsL], by simp [f3], ?_⟩
        rw [htk]
        refine ⟨by (repeat (first | rw [new_H, if_neg (α := LObj) (by (try simp only [set_next, new_next]); omega)] | rw [set_H, if_neg (α := LObj) (by omega)] | rw [new_H, if_pos (α := LObj) (by (try simp only [set_next, new_next]))] | rw [set_H, if_pos (α := LObj) (by omega)])), .join hfo hre, ⟨_, _, _, hU.join (x := ⟨id, a, b⟩) hxa hxb hIv hab, fun v hv => ?_⟩, ⟨by omega, by omega, by simp, by simp⟩, ⟨b1, b2, by simp; omega, by (repeat (first | rw [new_H, if_neg (α := LObj) (by (try simp only [set_next, new_next]); omega)] | rw [set_H, if_neg (α := LObj) (by omega)] | rw [new_H, if_pos (α := LObj) (by (try simp only [set_next, new_next]))] | rw [set_H, if_pos (α := LObj) (by omega)])); exact b4⟩, by omega, ⟨hb1, by simp; omega⟩, ?_⟩
        · rw [mget_mset]
          by_cases e : v = R a
          · simp [e]
          · simp [e, hmes v hv]
        · exact ((((hkp.trans (Keeps.new _ _)).set (by omega) _).trans (Keeps.new _ _)).set (by omega) _).trans (Keeps.new _ _)
    · rintro fr s ⟨f4, f24, mes, I, Rs, t2, t3, f2, f3, hB⟩
      have hfo := hB.fo
      rw [List.take_length] at hfo
      (repeat' (first | refine awp_seq ?_ | (refine awp_ret ?_; simp only [ak, reduceIte]; simp [f2, f3]) | (refine w_e [] ?_; intro J hJ; simp only []; simp [f2, f3]; (refine hJ _ _ ?_; clear hJ J; simp only [ak, reduceIte]))))
      refine ⟨⟨I, Rs, hfo, by simp [z0, z0L]⟩, hB.kp⟩

end Go.Proofs.YtomfeddgeihipaaGreat.Aw

namespace Go.Proofs.YtomfeddgeihipaaGreat.Aw
open Go Go.RowKit Go.Proofs.YtomfeddgeihipaaGreat.Pl
set_option linter.unusedSimpArgs false
set_option linter.unusedVariables false

def FoR (es : List Ed) (r : LV) : Prop := ∃ I Rs, IsFo es I Rs ∧ r = .sl 0 (idsL I).length (us (idsL I))
def ReR (es : List Ed) (r : LV) : Prop := ∃ I Rs, IsFo es I Rs ∧ r = .sl 0 (idsL Rs).length (us (idsL Rs))
theorem Forest (g : Gr) (st : St) (hg : Good g) (hv : g.vs.length ≤ 1000) (he : g.es.length ≤ 1000) (hp : 0 < st.next) :
    ACalls Tryz.prog 59 [.ag (grL g)] st fun r st' => FoR g.es r ∧ Keeps st st' := by
  refine acalls_of_body tabOk Tryz.func59 rfl rfl Tryz.ntmps59 (rs := [.tmp 2]) rfl (by simp) ?_
  (repeat' (first | refine awp_seq ?_ | (refine w_e [] ?_; intro J hJ; simp only []; simp []; (try (refine hJ _ _ ?_; clear hJ J; simp only [ak, reduceIte])))))
  refine callK_ofE (split g _ hg hv he (by simp)) (by simp) ?_; rintro r s2 ⟨⟨I, Rs, hfo, rfl⟩, hk⟩
  (repeat' (first | refine awp_seq ?_ | (refine awp_ret ?_; simp only [ak, reduceIte]; simp []) | ((first | (refine w_e [] ?_; intro J hJ; simp only []) | (refine e_go ?_)); simp []; (refine hJ _ _ ?_; clear hJ J; simp only [ak, reduceIte]))))
  exact ⟨⟨I, Rs, hfo, by simp⟩, (Keeps.new _ _).trans hk⟩
theorem Rest (g : Gr) (st : St) (hg : Good g) (hv : g.vs.length ≤ 1000) (he : g.es.length ≤ 1000) (hp : 0 < st.next) :
    ACalls Tryz.prog 60 [.ag (grL g)] st fun r st' => ReR g.es r ∧ Keeps st st' := by
  refine acalls_of_body tabOk Tryz.func60 rfl rfl Tryz.ntmps60 (rs := [.tmp 2]) rfl (by simp) ?_
  (repeat' (first | refine awp_seq ?_ | (refine w_e [] ?_; intro J hJ; simp only []; simp []; (try (refine hJ _ _ ?_; clear hJ J; simp only [ak, reduceIte])))))
  refine callK_ofE (split g _ hg hv he (by simp)) (by simp) ?_; rintro r s2 ⟨⟨I, Rs, hfo, rfl⟩, hk⟩
  (repeat' (first | refine awp_seq ?_ | (refine awp_ret ?_; simp only [ak, reduceIte]; simp []) | ((first | (refine w_e [] ?_; intro J hJ; simp only []) | (refine e_go ?_)); simp []; (refine hJ _ _ ?_; clear hJ J; simp only [ak, reduceIte]))))
  exact ⟨⟨I, Rs, hfo, by simp⟩, (Keeps.new _ _).trans hk⟩

theorem gi_ge (l : List Int) (x : Int) : 0 ≤ gi l x ↔ x ∈ l := by
  have h := gi_neg l x
  constructor
  · intro h2
    exact Decidable.by_contra fun h3 => by have := h.2 h3; omega
  · intro h2
    exact Decidable.by_contra fun h3 => (h.1 (by omega)) h2
theorem sum3W (l : List Ed) : (List.map (fun _ : Ed => 3) l).sum = l.length * 3 := by
  induction l with
  | nil => rfl
  | cons x l ih => simp only [List.map_cons, List.sum_cons, List.length_cons, ih]; omega
def wth (es : List Ed) (ids : List Int) : List Ed := es.filter fun x => decide (x.id ∈ ids)
structure RfI (st : St) (E I Rs : List Ed) (t2 t3 : Nat) (s : St) : Prop where
  fo : IsFo E I Rs
  o2 : OwnI t2 st I.length s
  o3 : OwnI t3 st Rs.length s
  ne : t2 ≠ t3
  kp : Keeps st s
theorem Good.sub {g : Gr} (h : Good g) {E : List Ed} (hs : ∀ x ∈ E, x ∈ g.es) : Good ⟨g.vs, E⟩ := ⟨h.rise, fun x hx => h.ends x (hs x hx)⟩

end Go.Proofs.YtomfeddgeihipaaGreat.Aw

namespace Go.Proofs.YtomfeddgeihipaaGreat.Aw
open Go Go.RowKit Go.Proofs.YtomfeddgeihipaaGreat.Pl
set_option linter.unusedSimpArgs false
set_option linter.unusedVariables false

/-- A table's entry: a key, its count. -/
def IsKn (p : List Int × LV) (k n : Int) : Prop := p = ([k], i n) ∧ (-40000 ≤ k ∧ k ≤ 40000) ∧ (0 ≤ n ∧ n ≤ 1000)
def keyOf (p : List Int × LV) : Int := p.1.headD 0
def cntOf (p : List Int × LV) : Int := match p.2 with | .atom (.int _ n) => n | _ => 0
/-- Each key times its count. -/
def sumL : List (List Int × LV) → Int
  | [] => 0
  | p :: L => keyOf p * cntOf p + sumL L
def SumI (st : St) (m : Nat) (es : List (List Int × LV)) (L : List (List Int × LV)) (fr : Frm) (st2 : St) : Prop := (∀ p ∈ L, ∃ k n, IsKn p k n) ∧ L.length ≤ es.length ∧ st2 = st.set m .dead ∧ ∃ s : Int, fr 3 = i s ∧ s + sumL L = sumL es ∧ -(40000000 * ((es.length : Int) - L.length)) ≤ s ∧ s ≤ 40000000 * ((es.length : Int) - L.length)
end Go.Proofs.YtomfeddgeihipaaGreat.Aw

namespace Go.Proofs.YtomfeddgeihipaaGreat.Aw
open Go Go.RowKit Go.Proofs.YtomfeddgeihipaaGreat.Pl
set_option linter.unusedSimpArgs false
set_option linter.unusedVariables false

/-- The keys that are counted. -/
def nzk (L : List (List Int × LV)) : List Int := (L.filter fun p => decide (cntOf p ≠ 0)).map keyOf
structure KeysI (st : St) (m : Nat) (es L : List (List Int × LV)) (fr : Frm) (st2 : St) : Prop where
  kn : ∀ p ∈ L, ∃ k n, IsKn p k n
  len : L.length ≤ es.length
  row : ∃ q A, fr 3 = .ms q 0 A.length ∧ st2.H q = .box 3 1 (I.us A) ∧ (st.next ≤ q ∧ q < st2.next) ∧ (A ++ nzk L).Perm (nzk es) ∧ A.length + L.length ≤ es.length
  hid : st2.H m = .dead ∧ ∀ l, l < st.next → l ≠ m → st2.H l = st.H l
end Go.Proofs.YtomfeddgeihipaaGreat.Aw

namespace Go.Proofs.YtomfeddgeihipaaGreat.Aw
open Go Go.RowKit Go.Proofs.YtomfeddgeihipaaGreat.Pl
set_option linter.unusedSimpArgs false
set_option linter.unusedVariables false

/-- A table whose counts are at most B, no key twice. -/
structure TabB (B : Int) (es : List (List Int × LV)) : Prop where
  kn : ∀ p ∈ es, ∃ k n, p = ([k], i n) ∧ (-40000 ≤ k ∧ k ≤ 40000) ∧ (0 ≤ n ∧ n ≤ B)
  nd : (es.map (·.1)).Nodup
def cntM (es : List (List Int × LV)) (k : Int) : Int := cntOf ([k], (mget es [k]).getD (i 0))
/-- One more of a key. -/
def add1 (es : List (List Int × LV)) (k : Int) : List (List Int × LV) := mset es [k] (i (cntM es k + 1))
theorem cntM_get {B : Int} {es : List (List Int × LV)} (h : TabB B es) (hB : 0 ≤ B) (k : Int) : (mget es [k]).getD (i 0) = i (cntM es k) ∧ 0 ≤ cntM es k ∧ cntM es k ≤ B := by
  have : ∀ es : List (List Int × LV), (∀ p ∈ es, ∃ k n, p = ([k], i n) ∧ (-40000 ≤ k ∧ k ≤ 40000) ∧ (0 ≤ n ∧ n ≤ B)) → mget es [k] = none ∨ ∃ n, mget es [k] = some (i n) ∧ 0 ≤ n ∧ n ≤ B := by
    intro es
    induction es with
    | nil => exact fun _ => .inl rfl
    | cons p es ih =>
      intro h
      obtain ⟨k', n, rfl, _, hn⟩ := h p (by simp)
      unfold mget
      by_cases e : ([k] == [k']) = true
      · simp only [e, if_true]; exact .inr ⟨n, rfl, hn⟩
      · simp only [e, if_false]; exact ih fun q hq => h q (by simp [hq])
  unfold cntM
  rcases this es h.kn with e | ⟨n, e, h1, h2⟩
  · rw [e]; exact ⟨rfl, Int.le_refl _, hB⟩
  · rw [e]; exact ⟨rfl, h1, h2⟩
theorem mset_mem (es : List (List Int × LV)) (a : List Int) (v : LV) (p : List Int × LV) (h : p ∈ mset es a v) : p = (a, v) ∨ p ∈ es := by
  induction es with
  | nil => simp [mset] at h; exact .inl h
  | cons q es ih =>
    unfold mset at h
    split at h
    · rcases List.mem_cons.1 h with h | h
      · exact .inl h
      · exact .inr (by simp [h])
    · rcases List.mem_cons.1 h with h | h
      · exact .inr (by simp [h])
      · rcases ih h with h | h
        · exact .inl h
        · exact .inr (by simp [h])
theorem mset_keys (es : List (List Int × LV)) (a : List Int) (v : LV) (h : (es.map (·.1)).Nodup) : ((mset es a v).map (·.1)).Nodup ∧ ∀ x, x ∈ (mset es a v).map (·.1) → x = a ∨ x ∈ es.map (·.1) := by
  induction es with
  | nil => simp [mset]
  | cons q es ih =>
    simp only [List.map_cons, List.nodup_cons] at h
    obtain ⟨i1, i2⟩ := ih h.2
    unfold mset
    by_cases e : a = q.1
    · rw [if_pos (by simpa using e)]
      subst e
      exact ⟨by simp only [List.map_cons, List.nodup_cons]; exact h, fun x hx => .inr (by simpa using hx)⟩
    · rw [if_neg (by simpa using e)]
      refine ⟨?_, fun x hx => ?_⟩
      · simp only [List.map_cons, List.nodup_cons]
        refine ⟨fun hx => ?_, i1⟩
        rcases i2 _ hx with h1 | h1
        · exact e h1.symm
        · exact h.1 h1
      · rcases List.mem_cons.1 (by simpa using hx : x ∈ q.1 :: (mset es a v).map (·.1)) with h1 | h1
        · exact .inr (by simp [h1])
        · rcases i2 _ h1 with h2 | h2
          · exact .inl h2
          · exact .inr (by simp only [List.map_cons, List.mem_cons]; exact .inr h2)
theorem TabB.add {B : Int} {es : List (List Int × LV)} (h : TabB B es) (hB : 0 ≤ B) {k : Int} (hk : -40000 ≤ k ∧ k ≤ 40000) : TabB (B + 1) (add1 es k) := by
  obtain ⟨_, c1, c2⟩ := cntM_get h hB k
  refine ⟨fun p hp => ?_, (mset_keys es _ _ h.nd).1⟩
  rcases mset_mem _ _ _ _ hp with rfl | hp
  · exact ⟨k, _, rfl, hk, by omega, by omega⟩
  · obtain ⟨k', n, h1, h2, h3⟩ := h.kn p hp
    exact ⟨k', n, h1, h2, h3.1, by omega⟩
def addAll (es : List (List Int × LV)) (l : List Int) : List (List Int × LV) := l.foldl add1 es
end Go.Proofs.YtomfeddgeihipaaGreat.Aw

namespace Go.Proofs.YtomfeddgeihipaaGreat.Aw
open Go Go.RowKit Go.Proofs.YtomfeddgeihipaaGreat.Pl
set_option linter.unusedSimpArgs false
set_option linter.unusedVariables false

theorem KeepZ (g : Gr) (f : FuncId) (caps : List LV) (p : Ed → Bool) (st : St) (hv : g.vs.length ≤ 1000) (he : g.es.length ≤ 1000) (hp : TestE f caps st g.es p) :
    ACalls Tryz.prog 63 [.ag (grL g), .fn (.func f) caps] st fun r st' => r = .ag (grL ⟨g.vs, g.es.filter p⟩) ∧ Keeps st st' := by
  refine acalls_z0 ((Keep g f caps p st hv he hp).mono ?_)
  rintro r st' ⟨⟨X, rfl, hX⟩, hk⟩
  refine ⟨?_, hk⟩
  simp only [z0, z0L, z0_us]
  congr 1
  rcases hX with ⟨rfl, h⟩ | ⟨t, rfl⟩
  · rw [h]; simp [z0]
  · simp only [z0, z0_edsB]

def lessE (es : List Ed) (x : Ed) : List Ed := es.filter fun o => decide (o.id ≠ x.id)
/-- The fewest edges of a ring, by ways around each edge; none: the strength n is too little. -/
def girthL (g : Gr) (n : Nat) : Int → List Ed → Option Int
  | least, [] => some least
  | least, x :: xs => match pathF g.vs (nearF (lessE g.es x)) (fun _ => true) x.a x.b n with
    | some l => girthL g n (if 0 < l.length ∧ (least = 0 ∨ (l.length : Int) < least) then l.length else least) xs
    | none => none
end Go.Proofs.YtomfeddgeihipaaGreat.Aw

namespace Go.Proofs.YtomfeddgeihipaaGreat.Aw
open Go Go.RowKit Go.Proofs.YtomfeddgeihipaaGreat.Pl
set_option linter.unusedSimpArgs false
set_option linter.unusedVariables false

theorem Ring_1 (x : Ed) (q M : Nat) (ids : List Int) (es : List (List Int × LV)) (st : St) (hq : st.H q = .box 130 1 [.mp M]) (hM : st.H M = .map false [.u32] es) (hes : ∀ v, mget es [v] = if v ∈ ids then some (.ag []) else none) (hqn : q < st.next) (hMn : M < st.next) :
    ACalls Tryz.prog 109 [.ag (edL x), .pt q 0] st fun r st' => r = bb (decide (x.id ∈ ids)) ∧ Keeps st st' := by
  obtain ⟨d, a, b⟩ := x
  have a1 : ¬ q = st.next := by omega
  have a2 : ¬ M = st.next := by omega
  have hd := hes d
  refine acalls_of_body tabOk Tryz.func109 rfl rfl Tryz.ntmps109 (rs := [.tmp 3]) rfl (by simp) ?_
  by_cases h : d ∈ ids
  · rw [if_pos h] at hd
    (repeat' (first | refine awp_seq ?_ | (refine awp_ret ?_; simp only [ak, reduceIte]; simp [hq, a1, a2, h, hd, hM]) | (refine w_e [] ?_; intro J hJ; simp only []; simp [hq, a1, a2, h, hd, hM]; (refine hJ _ _ ?_; clear hJ J; simp only [ak, reduceIte]))))
    exact ((Keeps.new _ _).trans (Keeps.new _ _)).set (by omega) _
  · rw [if_neg h] at hd
    (repeat' (first | refine awp_seq ?_ | (refine awp_ret ?_; simp only [ak, reduceIte]; simp [hq, a1, a2, h, hd, hM]) | (refine w_e [] ?_; intro J hJ; simp only []; simp [hq, a1, a2, h, hd, hM]; (refine hJ _ _ ?_; clear hJ J; simp only [ak, reduceIte]))))
    exact ((Keeps.new _ _).trans (Keeps.new _ _)).set (by omega) _

@[simp] def boxM (M : Nat) : LObj := .box 130 1 [.mp M]
def RingR (g : Gr) (id : Int) (I : List Ed) (l : List Int) : Prop := if id ∈ idsL I ∨ fe g.es id < 0 then l = [] else refPath g.vs (nearF I) (fun _ => true) (g.es.getD (fe g.es id).toNat ed0).a (g.es.getD (fe g.es id).toNat ed0).b 100 = some l
def RgR (g : Gr) (id : Int) (r : LV) : Prop := ∀ I Rs, IsFo g.es I Rs → ∃ l, RingR g id I l ∧ r = .sl 0 l.length (us l)
theorem RgR.none {g : Gr} {id : Int} (h : ∀ I Rs, IsFo g.es I Rs → id ∈ idsL I ∨ fe g.es id < 0) : RgR g id (z0 .nil) := fun I Rs hI => ⟨[], by unfold RingR; rw [if_pos (h I Rs hI)], rfl⟩
theorem fe_lt (l : List Ed) (id : Int) (h : ¬ fe l id < 0) : (fe l id).toNat < l.length ∧ fe l id = ((fe l id).toNat : Int) ∧ (l.getD (fe l id).toNat ed0).id = id := by
  unfold fe at h ⊢
  split at h
  · rename_i ha
    rw [if_pos ha]
    simp only [Int.toNat_natCast]
    have hlt : l.findIdx (fun x => decide (x.id = id)) < l.length := by
      rw [List.findIdx_lt_length]
      obtain ⟨x, hx, h⟩ := List.any_eq_true.1 ha
      exact ⟨x, hx, h⟩
    refine ⟨hlt, trivial, ?_⟩
    have := List.findIdx_getElem (w := hlt)
    rw [List.getD_eq_getElem?_getD, List.getElem?_eq_getElem hlt]
    simpa using this
  · omega

set_option maxHeartbeats 2000000 in
theorem Ring (g : Gr) (id : Int) (st : St) (hg : Good g) (hi : g.es.Pairwise fun x y => x.id < y.id) (hv : g.vs.length ≤ 99) (he : g.es.length ≤ 1000) (hp : 0 < st.next) :
    ACalls Tryz.prog 61 [.ag (grL g), u id] st fun r st' => RgR g id r ∧ Keeps st st' := by
  refine acalls_z0 ?_
  have hel := eds_length g.es
  refine acalls_of_body tabOk Tryz.func61 rfl rfl Tryz.ntmps61 (rs := [.tmp 4]) rfl (by simp) ?_
  (repeat' (first | refine awp_seq ?_ | (refine w_e [] ?_; intro J hJ; simp only []; simp []; (try (refine hJ _ _ ?_; clear hJ J; simp only [ak, reduceIte])))))
  refine callK_ofE (gEdge g id _ he) (by simp) ?_; rintro r s1 ⟨rfl, hk1⟩
  have hn1 := hk1.next
  simp only [new_next] at hn1
  have hG1 : s1.H st.next = .box 38 2 (grL g) := by rw [hk1.H _ (by simp)]; simp
  have k1 : Keeps st s1 := (Keeps.new _ _).trans hk1
  clear hk1
  by_cases hfe : fe g.es id < 0
  · have hfe2 : decide (fe g.es id < 0) = true := decide_eq_true hfe
    (repeat' (first | refine awp_seq ?_ | (refine awp_ret ?_; simp only [ak, reduceIte]; simp [hfe, hfe2]) | (refine awp_cond ?_; simp [hfe, hfe2]) | ((first | (refine w_e [] ?_; intro J hJ; simp only []) | (refine e_go ?_)); simp [hfe, hfe2]; (refine hJ _ _ ?_; clear hJ J; simp only [ak, reduceIte]))))
    exact ⟨RgR.none fun _ _ _ => .inr hfe, k1⟩
  have hfe2 : decide (fe g.es id < 0) = false := decide_eq_false hfe
  obtain ⟨f1, f2, f3⟩ := fe_lt _ _ hfe
  have m1 : ¬ st.next = s1.next := by omega
  have m2 : ¬ st.next = s1.next + 1 := by omega
  (repeat' (first | refine awp_seq ?_ | (refine awp_skip ?_; simp only [ak, reduceIte]) | (refine awp_cond ?_; simp [hfe, hfe2, hG1, m1, m2]) | ((first | (refine w_e [] ?_; intro J hJ; simp only []) | (refine e_go ?_)); simp [hfe, hfe2, hG1, m1, m2]; (try (refine hJ _ _ ?_; clear hJ J; simp only [ak, reduceIte])))))
  refine callK_ofE (Forest g _ hg (by omega) he (by simp)) (by simp) ?_; rintro r s2 ⟨⟨I, Rs, hfo, rfl⟩, hk2⟩
  have hn2 := hk2.next
  simp only [new_next, set_next] at hn2
  have hG2 : s2.H st.next = .box 38 2 (grL g) := by rw [hk2.H _ (by simp; omega)]; simp [m1, m2, hG1]
  have hM2 : s2.H s1.next = .map false [.u32] [] := by rw [hk2.H _ (by simp; omega)]; simp
  have hq2 : s2.H (s1.next + 1) = .box 130 1 [.mp s1.next] := by rw [hk2.H _ (by simp)]; simp
  have k2 : Keeps st s2 := (((k1.trans (Keeps.new _ _)).trans (Keeps.new _ _)).set (by omega) _).trans hk2
  clear hk2
  have hIs : I.Sublist g.es := hfo.sub.1
  have hIl : I.length ≤ 1000 := by have := hIs.length_le; omega
  have hwI : wth g.es (idsL I) = I := pick_sub hi hIs
  have hgI : Good ⟨g.vs, I⟩ := hg.sub fun x hx => hIs.subset hx
  have m3 : ¬ s1.next + 1 = s1.next := by omega
  have m4 : ¬ s1.next = s1.next + 1 := by omega
  generalize hM : s1.next = M at *
  generalize hqq : M + 1 = q at *
  (repeat' (first | refine awp_block ?_ | (refine e_go ?_; simp []; (refine hJ _ _ ?_; clear hJ J; simp only [ak, reduceIte]))))
  refine awp_range 21 20 22 28 (I.length) (fun j fr st2 => fr 1 = u id ∧ fr 2 = .pt st.next 0 ∧ fr 4 = .nil ∧ fr 5 = i (fe g.es id) ∧ fr 6 = .pt q 0 ∧ fr 19 = .sl 0 I.length (us (idsL I)) ∧ st2.H st.next = .box 38 2 (grL g) ∧ st2.H q = boxM M ∧ s2.next ≤ st2.next ∧ Keeps st st2 ∧ ∃ es, st2.H M = .map false [.u32] es ∧ ∀ v, mget es [v] = if v ∈ (idsL I).take j then some (.ag []) else none) ?_ ?_ ?_
  · refine ⟨by simp, by simp, by simp, by simp, by simp, by simp, hG2, hq2, Nat.le_refl _, k2, [], hM2, fun v => ?_⟩
    simp [mget]
  · rintro j fr s hlt ⟨g1, g2, g4, g5, g6, g19, hG, hq, hsn, hkp, es, hM, hes⟩ fi fn JO hJO
    have hlt2 : j < (idsL I).length := by simpa using hlt
    have hd := us_drop_getD (idsL I) j hlt2
    have htk : (idsL I).take (j + 1) = (idsL I).take j ++ [(idsL I).getD j 0] := by
      rw [List.getD_eq_getElem?_getD, List.getElem?_eq_getElem hlt2]; exact List.take_succ_eq_append_getElem hlt2
    generalize (idsL I).getD j 0 = v at *
    (repeat' (first | refine awp_seq ?_ | (refine w_e [] ?_; intro J hJ; simp only []; simp [g6, g19, fi, fn, hd, hlt, hq, hM]; (refine hJ _ _ ?_; clear hJ J; simp only [ak, reduceIte]))))
    have e1 : ¬ st.next = M := by omega
    have e2 : ¬ q = M := by omega
    refine hJO _ _ (by simp [fi]) (by simp [fn]) ⟨by simp [g1], by simp [g2], by simp [g4], by simp [g5], by simp [g6], by simp [g19], by simp [e1, hG], by simp [e2, hq], by simp [hsn], hkp.set (by omega) _, _, by simp; rfl, fun w => ?_⟩
    rw [mget_mset, htk]
    by_cases hwv : w = v
    · simp [hwv]
    · simp [hwv, hes]
  · rintro fr s ⟨g1, g2, g4, g5, g6, g19, hG, hq, hsn, hkp, es, hM, hes⟩
    rw [List.take_of_length_le (by simp)] at hes
    have hid := hes id
    by_cases hin : id ∈ idsL I
    · rw [if_pos hin] at hid
      (repeat' (first | refine awp_seq ?_ | (refine awp_ret ?_; simp only [ak, reduceIte]; simp [g1, g6, hq, hM, hid]) | (refine awp_cond ?_; simp [g1, g6, hq, hM, hid]) | (refine w_e [] ?_; intro J hJ; simp only []; simp [g1, g6, hq, hM, hid]; (refine hJ _ _ ?_; clear hJ J; simp only [ak, reduceIte]))))
      exact ⟨RgR.none fun I' Rs' h => .inl ((hfo.unique h).1 ▸ hin), hkp.trans (Keeps.new _ _)⟩
    rw [if_neg hin] at hid
    have e1 : ¬ st.next = s.next := by omega
    have e2 : ¬ q = s.next := by omega
    have e3 : ¬ M = s.next := by omega
    (repeat' (first | refine awp_seq ?_ | (refine awp_skip ?_; simp only [ak, reduceIte]) | (refine awp_cond ?_; simp [g1, g2, g6, hq, hM, hid, hG, e1]) | (refine w_e [] ?_; intro J hJ; simp only []; simp [g1, g2, g6, hq, hM, hid, hG, e1]; (try (refine hJ _ _ ?_; clear hJ J; simp only [ak, reduceIte])))))
    refine callK_ofE (KeepZ g 109 [.pt q 0] (fun x => decide (x.id ∈ idsL I)) _ (by omega) he (fun x hx s' hs' => Ring_1 x q M (idsL I) es s' ?_ ?_ hes ?_ ?_)) (by simp) ?_
    · rw [hs'.H q (by simp; omega), new_H, if_neg e2]; exact hq
    · rw [hs'.H M (by simp; omega), new_H, if_neg e3]; exact hM
    · have := hs'.next; simp only [new_next] at this; omega
    · have := hs'.next; simp only [new_next] at this; omega
    rintro r s4 ⟨rfl, hk4⟩
    have hn4 := hk4.next
    simp only [new_next] at hn4
    have hG4 : s4.H st.next = .box 38 2 (grL g) := by rw [hk4.H _ (by simp; omega), new_H, if_neg e1]; exact hG
    have k4 : Keeps st s4 := (hkp.trans (Keeps.new _ _)).trans hk4
    have hwI' : g.es.filter (fun x => decide (x.id ∈ idsL I)) = I := hwI
    rw [hwI']
    have hnear : ∀ v, ∀ w ∈ nearF I v, w ∈ g.vs := fun v w hw => by
      obtain ⟨x, hx, ⟨_, rfl⟩ | ⟨rfl, _⟩⟩ := mem_nearF.1 hw
      · exact (hgI.ends x hx).2
      · exact (hgI.ends x hx).1
    obtain ⟨l, hl⟩ := refPath_some (vs := g.vs) (near := nearF I) (may := fun _ => true) (from' := (g.es.getD (fe g.es id).toNat ed0).a) (to := (g.es.getD (fe g.es id).toNat ed0).b) hnear (n := 100) (by omega)
    have hl2 := path_same hl (by omega)
    have e5 : ¬ st.next = s4.next := by omega
    (repeat' (first | refine awp_seq ?_ | (refine e_go ?_; simp []; (refine hJ _ _ ?_; clear hJ J; simp only [ak, reduceIte]))))
    have hgo : fe g.es id = ((fe g.es id).toNat : Int) := f2
    rw [hgo] at g5
    have hd0 := eds_drop g.es _ f1
    generalize hkk : (fe g.es id).toNat = k at *
    generalize hx : g.es.getD k ed0 = x at *
    have hd1 : (eds g.es).drop (k * 3 + 1) = u x.a :: u x.b :: eds (g.es.drop (k + 1)) := by rw [← List.drop_drop, hd0]; rfl
    have hd2 : (eds g.es).drop (k * 3 + 2) = u x.b :: eds (g.es.drop (k + 1)) := by rw [← List.drop_drop, hd0]; rfl
    have hsm := sum3W g.es
    have hk3 : k * 3 < g.es.length * 3 := by omega
    have hk4 : 0 < g.es.length * 3 - (k * 3 + 1) := by omega
    have hk5 : 0 < g.es.length * 3 - (k * 3 + 2) := by omega
    have hk6 : k * 3 + 1 < g.es.length * 3 := by omega
    have hk7 : k * 3 + 2 < g.es.length * 3 := by omega
    (refine w_s [] [st.next, s4.next] [(0, true), (1, true), (2, true), (3, true), (4, true), (5, true), (6, true), (7, true), (8, true), (9, true), (10, true), (11, true), (12, true), (13, true), (14, true)] ?_; intro J hJ; simp [g2, g5, hG4, e5, hd0, hd1, hd2, hel, hsm, hk3, hk4, hk5, hk6, hk7, f1])
    have hG5 : (s4.new (.box 38 2 (grL ⟨g.vs, I⟩))).H st.next = .box 38 2 (grL g) := by rw [new_H, if_neg e5]; exact hG4
    have hB5 : (s4.new (.box 38 2 (grL ⟨g.vs, I⟩))).H s4.next = .box 38 2 (grL ⟨g.vs, I⟩) := by rw [new_H, if_pos rfl]
    have hn5 : (s4.new (.box 38 2 (grL ⟨g.vs, I⟩))).next = s4.next + 1 := by simp
    have k5 : Keeps st (s4.new (.box 38 2 (grL ⟨g.vs, I⟩))) := k4.trans (Keeps.new _ _)
    generalize s4.new (.box 38 2 (grL ⟨g.vs, I⟩)) = s5 at *
    refine dcallK_ofE (Path ⟨g.vs, I⟩ x.a x.b (.atom .nilFunc) (fun _ => true) 100 l s5 (by simp only; omega) hIl (by omega) (.inl ⟨rfl, fun _ => rfl⟩) hl2) (by simp) ?_; rintro r s6 ⟨rfl, hk6'⟩
    have hG6 := (hk6'.H st.next (by omega)).trans hG5
    have hB6 := (hk6'.H s4.next (by omega)).trans hB5
    refine ⟨fun _ => by simp [hG5, hB5, hG6, hB6], ?_⟩
    (refine d_go ?_; simp [hG5, hB5, hG6, hB6]; (refine hJ _ _ ?_; clear hJ J; simp only [ak, reduceIte]))
    (repeat' (refine awp_ret ?_; simp only [ak, reduceIte]; simp []))
    refine ⟨fun I' Rs' h => ⟨l, ?_, by simp [z0]⟩, k5.trans hk6'⟩
    have hII := (hfo.unique h).1
    subst hII
    unfold RingR
    rw [if_neg (by rw [not_or]; exact ⟨hin, hfe⟩), hkk, hx]
    exact hl

end Go.Proofs.YtomfeddgeihipaaGreat.Aw

namespace Go.Proofs.YtomfeddgeihipaaGreat.Aw
open Go Go.RowKit Go.Proofs.YtomfeddgeihipaaGreat.Pl
set_option linter.unusedSimpArgs false
set_option linter.unusedVariables false

theorem GrF.sub {g : Gr} (h : GrF g) {I : List Ed} (hs : I.Sublist g.es) : GrF ⟨g.vs, I⟩ :=
  ⟨h.rise, h.vpos, h.ids.sublist hs, fun x hx => h.pos x (hs.subset hx), fun x hx => h.ne x (hs.subset hx), fun x hx => h.ends x (hs.subset hx), h.l1, Nat.le_trans hs.length_le h.l2⟩
theorem GrF.good {g : Gr} (h : GrF g) : Good g := ⟨h.rise, h.ends⟩
theorem ids_in {l : List Ed} (hi : l.Pairwise fun x y => x.id < y.id) {x y : Ed} (hx : x ∈ l) (hy : y ∈ l) (e : x.id = y.id) : x = y := by
  induction l with
  | nil => simp at hx
  | cons z l ih =>
    rw [List.pairwise_cons] at hi
    rcases List.mem_cons.1 hx with hx1 | hx1 <;> rcases List.mem_cons.1 hy with hy1 | hy1
    · rw [hx1, hy1]
    · have := hi.1 y hy1; subst hx1; omega
    · have := hi.1 x hx1; subst hy1; omega
    · exact ih hi.2 hx1 hy1
theorem IsFo.disj {l I R : List Ed} (h : IsFo l I R) (hn : l.Nodup) : ∀ x ∈ I, x ∉ R := by
  induction h with
  | nil => intro x hx; simp at hx
  | rest h k ih =>
    rw [List.nodup_append] at hn
    intro x hx hr
    rcases List.mem_append.1 hr with hr | hr
    · exact ih hn.1 x hx hr
    · exact hn.2.2 x (h.sub.1.subset hx) _ hr rfl
  | join h k ih =>
    rw [List.nodup_append] at hn
    intro x hx hr
    rcases List.mem_append.1 hx with hx | hx
    · exact ih hn.1 x hx hr
    · exact hn.2.2 x (h.sub.2.1.subset hr) _ hx rfl
theorem rest_iff {g : Gr} (hi : g.es.Pairwise fun x y => x.id < y.id) {I Rs : List Ed} (h : IsFo g.es I Rs) (id : Int) : id ∈ idsL Rs ↔ ¬ (id ∈ idsL I ∨ fe g.es id < 0) := by
  have hn : g.es.Nodup := hi.imp fun h e => by subst e; omega
  have hd := h.disj hn
  obtain ⟨s1, s2, s3⟩ := h.sub
  constructor
  · intro hid
    obtain ⟨x, hx, rfl⟩ := List.mem_map.1 hid
    rintro (hi2 | hf)
    · obtain ⟨y, hy, e⟩ := List.mem_map.1 hi2
      have := ids_in hi (s1.subset hy) (s2.subset hx) e
      subst this
      exact hd _ hy hx
    · unfold fe at hf
      rw [if_pos (List.any_eq_true.2 ⟨x, s2.subset hx, by simp⟩)] at hf
      omega
  · intro hno
    rw [not_or] at hno
    obtain ⟨f1, f2, f3⟩ := fe_lt _ _ hno.2
    generalize hx : g.es.getD (fe g.es id).toNat ed0 = x at *
    have hxin : x ∈ g.es := by
      rw [← hx, List.getD_eq_getElem?_getD, List.getElem?_eq_getElem f1]; exact List.getElem_mem _
    rcases (s3 x).1 hxin with h1 | h1
    · exact absurd (List.mem_map.2 ⟨x, h1, f3⟩) hno.1
    · exact List.mem_map.2 ⟨x, h1, f3⟩

end Go.Proofs.YtomfeddgeihipaaGreat.Aw

namespace Go.Proofs.YtomfeddgeihipaaGreat.Aw
open Go Go.RowKit Go.Proofs.YtomfeddgeihipaaGreat.Pl
set_option linter.unusedSimpArgs false
set_option linter.unusedVariables false

theorem awake35 (st : St) : ACalls Tryz.prog 46 [] st fun r st' => r = bb true ∧ st' = st :=
  acalls_closed tabOk fnsOk prim_ok mixed 1000000 true (by kernel_rfl)

def lightT (g : Gr) : Bool := decide (chk g = 0 ∧ g.vs.length ≤ 24 ∧ g.es.length ≤ 40)
theorem LightT (g : Gr) (st : St) : ACalls Tryz.prog 47 [.ag (grL g)] st fun r st' => r = bb (lightT g) ∧ Keeps st st' := by
  refine acalls_of_body tabOk Tryz.func47 rfl rfl Tryz.ntmps47 (rs := [.tmp 2]) rfl (by simp) ?_
  (repeat' (first | refine awp_seq ?_ | (refine w_e [] ?_; intro J hJ; simp only []; simp []; (try (refine hJ _ _ ?_; clear hJ J; simp only [ak, reduceIte])))))
  refine callK_ofE (ref_CheckA g _) (by simp) ?_; rintro r s1 ⟨rfl, hk1⟩
  have hG1 : s1.H st.next = .box 38 2 (grL g) := by rw [hk1.H _ (by simp)]; simp
  have hkp1 : Keeps st s1 := (Keeps.new _ _).trans hk1
  by_cases h1 : chk g = 0
  · have h1' : (chk g == 0) = true := by simpa using h1
    by_cases h2 : g.vs.length ≤ 24
    · have h2' : (g.vs.length : Int) ≤ 24 := by omega
      by_cases h3 : g.es.length ≤ 40
      · have h3' : (g.es.length : Int) ≤ 40 := by omega
        (repeat' (first | (refine awp_ret ?_; simp only [ak, reduceIte]; simp [h1', h2, h2', h3, h3', hG1, h1, lightT]) | (refine e_go ?_; simp [h1', h2, h2', h3, h3', hG1, h1, lightT]; (refine hJ _ _ ?_; clear hJ J; simp only [ak, reduceIte]))))
        exact hkp1
      · have h3' : ¬ (g.es.length : Int) ≤ 40 := by omega
        (repeat' (first | (refine awp_ret ?_; simp only [ak, reduceIte]; simp [h1', h2, h2', h3, h3', hG1, h1, lightT]) | (refine e_go ?_; simp [h1', h2, h2', h3, h3', hG1, h1, lightT]; (refine hJ _ _ ?_; clear hJ J; simp only [ak, reduceIte]))))
        exact hkp1
    · have h2' : ¬ (g.vs.length : Int) ≤ 24 := by omega
      (repeat' (first | (refine awp_ret ?_; simp only [ak, reduceIte]; simp [h1', h2, h2', hG1, h1, lightT]) | (refine e_go ?_; simp [h1', h2, h2', hG1, h1, lightT]; (refine hJ _ _ ?_; clear hJ J; simp only [ak, reduceIte]))))
      exact hkp1
  · have h1' : (chk g == 0) = false := by simpa using h1
    (repeat' (first | (refine awp_ret ?_; simp only [ak, reduceIte]; simp [h1', hG1, h1, lightT]) | (refine e_go ?_; simp [h1', hG1, h1, lightT]; (refine hJ _ _ ?_; clear hJ J; simp only [ak, reduceIte]))))
    exact hkp1

end Go.Proofs.YtomfeddgeihipaaGreat.Aw

namespace Go.Proofs.YtomfeddgeihipaaGreat.Aw
open Go Go.RowKit Go.Proofs.YtomfeddgeihipaaGreat.Pl
set_option linter.unusedSimpArgs false
set_option linter.unusedVariables false

theorem pathF_len3 {vs : List Int} {near : Int → List Int} {may : Int → Bool} {from' to : Int} {n : Nat} {l : List Int} (h : refPath vs near may from' to n = some l) : l.length ≤ n + 2 := by
  rcases Nat.eq_zero_or_pos n with h0 | h0
  · subst h0
    unfold refPath at h
    split at h
    · injection h with h; subst h; simp
    · split at h
      · injection h with h; subst h; simp
      · rename_i F k hr
        simp [refRun] at hr
      · cases h
  · have := pathF_len2 (path_same h h0); omega
/-- How far a vertex is, by the document. -/
def depR (g : Gr) (root v : Int) : Int := if root ∈ g.vs then match refPath g.vs (nearF g.es) (fun _ => true) root v g.vs.length with
  | some l => (l.length : Int) - 1
  | none => -1 else -1
/-- All that is reached from a vertex, and how far it is. -/
structure IsDep (g : Gr) (root : Int) (Dr : Led) : Prop where
  out : root ∉ g.vs → Dr = []
  run : root ∈ g.vs → ∃ n, depF (nearF g.es) n 0 [(root, 0)] = some Dr
  ok : DepOk g.vs Dr
/-- So many are reached. -/
theorem IsDep.count {g : Gr} {root : Int} {Dr : Led} (h : IsDep g root Dr) (hg : Good g) : g.vs.countP (fun v => (ledBy Dr v).isSome) = Dr.length := by
  have h1 : (g.vs.filter fun v => (ledBy Dr v).isSome).Perm (Dr.map (·.1)) := by
    refine (List.perm_ext_iff_of_nodup (hg.nodup.filter _) h.ok.nd).2 fun v => ?_
    rw [List.mem_filter]
    constructor
    · rintro ⟨_, h2⟩
      refine Classical.byContradiction fun hn => ?_
      rw [ledBy_none hn] at h2
      cases h2
    · intro h2
      refine ⟨h.ok.sub v h2, ?_⟩
      obtain ⟨w, hw⟩ := ledBy_some h2
      rw [hw]; rfl
  rw [List.countP_eq_length_filter, h1.length_eq, List.length_map]

end Go.Proofs.YtomfeddgeihipaaGreat.Aw
