/- block.Simple: of each bundle one edge, and the bundles. block.nearby: the near ones of each vertex, rising; Near. Plain: the way from one vertex to another one, as it is sought. No program. color.Greedy. The order by which a graph is colored. Plain. Plain: edges that join parts, and the others; a forest of parents. No program. -/
import Derived.Test.YtomfeddgeihipaaGreatJd
import Derived.Test.YtomfeddgeihipaaGreatAwZ
import Derived.Test.YtomfeddgeihipaaGreatAwFz
import Derived.Test.YtomfeddgeihipaaGreatAwMr4
import Derived.Test.YtomfeddgeihipaaGreatAwRg
namespace Go.Proofs.YtomfeddgeihipaaGreat.Aw
open Go Go.RowKit Go.Proofs.YtomfeddgeihipaaGreat.Pl
set_option linter.unusedSimpArgs false
set_option linter.unusedVariables false

/-- Rows of the call's own: a token, a row. -/
abbrev TR := Nat × List Int
def cellT (p : TR) : LV := .sl p.1 p.2.length (us p.2)
def cellsT (R : List TR) : List LV := R.map cellT
theorem cellsT_len (R : List TR) : (cellsT R).length = R.length := by simp [cellsT]
structure SimB (E : List Ed) (st0 : St) (L2 L4 M te q : Nat) (vs : List Int) (mes : List (List Int × LV)) (R : List TR) (s : St) : Prop where
  h2 : s.H L2 = .box 38 2 [.nil, .nil]
  h4 : s.H L4 = .box 38 2 [.sl 0 vs.length (us vs), .sl te (sE E).length (eds (sE E))]
  ht : s.H te = .own 43 3 (sE E).length
  hM : s.H M = .map true [.u32, .u32] mes
  hq : s.H q = .box 35 1 (cellsT R)
  bn : R.map (·.2) = bnd E
  at' : AtM E mes
  nd : (R.map (·.1)).Nodup
  tk : ∀ p ∈ R, st0.next ≤ p.1 ∧ p.1 < s.next ∧ s.H p.1 = .own 41 1 p.2.length
  b : st0.next ≤ L2 ∧ st0.next ≤ L4 ∧ st0.next ≤ M ∧ st0.next ≤ te ∧ st0.next ≤ q ∧ L2 < s.next ∧ L4 < s.next ∧ M < s.next ∧ te < s.next ∧ q < s.next
  kp : Keeps st0 s
def SimI (g : Gr) (st0 : St) (L2 L4 M k : Nat) (fr : Frm) (s : St) : Prop :=
  fr 2 = .pt L2 0 ∧ fr 4 = .pt L4 0 ∧ fr 6 = .mp M ∧ fr 18 = .sl 0 g.es.length (eds g.es) ∧ fr 19 = i g.es.length ∧ fr 20 = i k ∧
  ∃ te q mes R, fr 5 = .ms q 0 R.length ∧ SimB (g.es.take k) st0 L2 L4 M te q g.vs mes R s

theorem box_ne {st : St} {a b : Nat} {x y : LObj} (ha : st.H a = x) (hb : st.H b = y) (h : x ≠ y) : ¬ a = b := fun e => h (by rw [← ha, e, hb])

theorem z0_edsB (l : List Ed) : z0L (eds l) = eds l := by
  induction l with
  | nil => rfl
  | cons e l ih => simp only [eds, List.flatMap_cons, List.cons_append, List.nil_append, z0L, z0] at ih ⊢; rw [ih]
theorem z0_cellsT (R : List TR) : z0L (cellsT R) = R.map fun p => .sl 0 p.2.length (us p.2) := by
  rw [z0L_map, cellsT, List.map_map]
  refine List.map_congr_left fun p _ => ?_
  simp [cellT, z0]

set_option maxHeartbeats 2000000 in
theorem Simple (g : Gr) (st : St) (hv : g.vs.length ≤ 1048576) (he : g.es.length ≤ 1000) (hp : 0 < st.next) :
    ACalls Tryz.prog 28 [.ag (grL g)] st fun r st' => r = .tu [.ag [.sl 0 g.vs.length (us g.vs), .sl 0 (sE g.es).length (eds (sE g.es))], .sl 0 (bnd g.es).length ((bnd g.es).map fun l => .sl 0 l.length (us l))] ∧ Keeps st st' := by
  refine acalls_z0 ?_
  have hel := eds_length g.es
  refine acalls_of_body tabOk Tryz.func28 rfl rfl Tryz.ntmps28 (rs := [.cell 2 38, .tmp 3]) rfl (by simp) ?_
  (repeat' (first | refine awp_seq ?_ | refine awp_block ?_ | ((first | refine awp_skip ?_ | refine awp_exit ?_); simp only [ak, reduceIte]) | (refine awp_ret ?_; simp only [ak, reduceIte]; simp []) | (refine awp_cond ?_; simp []; (try with_reducible refine ⟨?_, ?_⟩) <;> (try with_reducible intro hc) <;> try (exfalso; omega)) | ((first | (refine w_e [] ?_; intro J hJ; simp only []) | (refine w_q ?_; intro J hJ) | refine e_go ?_); simp []; (repeat refine ca ?_); (try ((try with_reducible refine ⟨?_, ?_⟩) <;> (try with_reducible intro hnil) <;> refine hJ _ _ ?_ <;> clear hJ J <;> simp only [ak, reduceIte] <;> try subst hnil)))))
  refine callK_ofE (Clone g.vs 0 _ hv) (by simp []) ?_; rintro r st' ⟨rfl, hk1⟩
  have hn1 := hk1.next
  simp only [new_next] at hn1
  have hG1 : st'.H st.next = .box 38 2 (grL g) := by rw [hk1.H _ (by simp <;> omega)]; simp
  have hC1 : st'.H (st.next + 1) = .box 38 2 [.nil, .nil] := by rw [hk1.H _ (by simp)]; simp
  have hkp : Keeps st st' := ((Keeps.new _ _).trans (Keeps.new _ _)).trans hk1
  generalize hL : st' = s1 at *
  have e1 : ¬ st.next = s1.next := by omega
  have e2 : ¬ st.next = s1.next + 1 := by omega
  (repeat' (first | refine awp_seq ?_ | refine awp_block ?_ | ((first | refine awp_skip ?_ | refine awp_exit ?_); simp only [ak, reduceIte]) | (refine awp_ret ?_; simp only [ak, reduceIte]; simp [e1, e2, hG1]) | (refine awp_cond ?_; simp [e1, e2, hG1]; (try with_reducible refine ⟨?_, ?_⟩) <;> (try with_reducible intro hc) <;> try (exfalso; omega)) | ((first | (refine w_e [] ?_; intro J hJ; simp only []) | (refine w_q ?_; intro J hJ) | refine e_go ?_); simp [e1, e2, hG1]; (repeat refine ca ?_); (try ((try with_reducible refine ⟨?_, ?_⟩) <;> (try with_reducible intro hnil) <;> refine hJ _ _ ?_ <;> clear hJ J <;> simp only [ak, reduceIte] <;> try subst hnil)))))
  refine awp_cell s1.next 43 3 (e := 38) (s := 2) [.sl 0 g.vs.length (us g.vs)] [] (by simp) ?_
  refine awp_ownM 5 35 1 (by simp) ?_
  refine awp_loop (fun n fr s => ∃ k : Nat, k ≤ g.es.length ∧ n = g.es.length - k ∧ SimI g st (st.next + 1) s1.next (s1.next + 1) k fr s) g.es.length ?_ ?_
  · refine ⟨0, by omega, by omega, by simp, by simp, by simp, by simp, by simp, by simp, s1.next + 2, s1.next + 3, [], [], by simp, ?_⟩
    have h5 : ¬ st.next = s1.next + 2 := by omega
    have h1 : ¬ st.next + 1 = s1.next := by omega
    refine ⟨by simp [h1, h5, e1, e2, hC1], by simp [sE] <;> omega, by simp [sE], by simp, by simp [cellsT], by simp [bnd, sE], AtM.nil, by simp, by simp, ⟨by omega, by omega, by omega, by omega, by omega, by simp <;> omega, by simp <;> omega, by simp, by simp, by simp⟩, ?_⟩
    exact (((((hkp.trans (Keeps.new _ _)).trans (Keeps.new _ _)).trans (Keeps.new _ _)).set (by omega) _).trans (Keeps.new _ _))
  rintro n fr s ⟨k, hk, rfl, f2, f4, f6, f18, f19, f20, te, q, mes, R, f5, hB⟩ JJ hJJ
  obtain ⟨H2, H4, Ht, HM, Hq, hbn, hat, hnd, htk, ⟨b1, b2, b3, b4, b5, b6, b7, b8, b9, b10⟩, hkps⟩ := hB
  have q24 : ¬ q = s1.next := box_ne Hq H4 (by simp)
  by_cases hlt : k < g.es.length
  rotate_left
  · clear hJJ
    have hk' : k = g.es.length := by omega
    rw [hk', List.take_length] at H4 Ht hbn
    have hbl : (bnd g.es).length = R.length := by rw [← hbn, List.length_map]
    have n1 : ¬ st.next + 1 = q := box_ne H2 Hq (by simp)
    have n2 : ¬ s1.next = q := fun h => q24 h.symm
    have n3 : ¬ s1.next = st.next + 1 := by omega
    have hsl := sE_len g.es
    refine awp_freeze 5 f5 Hq (by simp [cellsT_len]) ?_
    have htk2 : (cellsT R).take (R.length * 1) = cellsT R := List.take_of_length_le (by rw [cellsT_len]; omega)
    rw [htk2]
    (repeat' (first | refine awp_seq ?_ | refine awp_block ?_ | ((first | refine awp_skip ?_ | refine awp_exit ?_); simp only [ak, reduceIte]) | (refine awp_ret ?_; simp only [ak, reduceIte]; simp [f2, f4, f19, f20, hlt, H4, H2, n1, n2, n3]) | (refine awp_cond ?_; simp [f2, f4, f19, f20, hlt, H4, H2, n1, n2, n3]; (try with_reducible refine ⟨?_, ?_⟩) <;> (try with_reducible intro hc) <;> try (exfalso; omega)) | ((first | (refine w_e [] ?_; intro J hJ; simp only []) | (refine w_q ?_; intro J hJ) | refine e_go ?_); simp [f2, f4, f19, f20, hlt, H4, H2, n1, n2, n3]; (repeat refine ca ?_); (try ((try with_reducible refine ⟨?_, ?_⟩) <;> (try with_reducible intro hnil) <;> refine hJ _ _ ?_ <;> clear hJ J <;> simp only [ak, reduceIte] <;> try subst hnil)))))
    refine ⟨?_, (hkps.set (by omega) _).set (by omega) _⟩
    rw [hbl, ← hbn]
    simp only [z0, z0L, z0_us, z0_edsB, z0_cellsT, List.map_map]
    rfl
  have hd := eds_drop g.es k hlt
  have hw := nat_add_one k (by omega)
  have hk3 : k * 3 < g.es.length * 3 := by omega
  have htk1 : g.es.take (k + 1) = g.es.take k ++ [g.es.getD k ed0] := by
    rw [List.getD_eq_getElem?_getD, List.getElem?_eq_getElem hlt]; exact List.take_succ_eq_append_getElem hlt
  have hEl : (g.es.take k).length ≤ 1000 := by rw [List.length_take]; omega
  generalize g.es.getD k ed0 = x at *
  generalize hE : g.es.take k = E at *
  obtain ⟨id, a, b⟩ := x
  simp only at hd
  cases hany : (sE E).any (bes ⟨id, a, b⟩)
  · have hm := hat.new ⟨id, a, b⟩ hany
    simp only [kE] at hm
    have hsm : (List.map (fun _ : Ed => 3) (sE E)).sum = (sE E).length * 3 := by
      induction sE E with
      | nil => rfl
      | cons x l ih => simp only [List.map_cons, List.sum_cons, List.length_cons, ih]; omega
    have hsl := sE_len E
    have te0 : ¬ te = 0 := by omega
    have hcl := cellsT_len R
    have hRl : R.length = (sE E).length := by rw [← bnd_len, ← hbn, List.length_map]
    have htR : List.take R.length (cellsT R) = cellsT R := List.take_of_length_le (by omega)
    have hdl : List.drop R.length (cellsT R ++ [LV.nil]) = [.nil] := by rw [← hcl]; exact List.drop_left
    have htl : List.take R.length (cellsT R ++ [LV.nil]) = cellsT R := by rw [← hcl]; exact List.take_left
    have hdl2 : List.drop (R.length + 1) (cellsT R ++ [LV.nil]) = [] := List.drop_eq_nil_of_le (by simp [hcl])
    have hRn : ((R.length : Int)).toNat = R.length := by omega
    have c0 : ¬ s1.next = s.next := by omega
    have c0' : ¬ s.next = s1.next := by omega
    have c1 : ¬ s1.next = s.next + 1 := by omega
    have c1' : ¬ s.next + 1 = s1.next := by omega
    have c2 : ¬ s1.next = s.next + 2 := by omega
    have c2' : ¬ s.next + 2 = s1.next := by omega
    have c3 : ¬ s1.next = s.next + 3 := by omega
    have c3' : ¬ s.next + 3 = s1.next := by omega
    have c4 : ¬ s1.next = s.next + 4 := by omega
    have c4' : ¬ s.next + 4 = s1.next := by omega
    have e0 : ¬ te = s.next := by omega
    have e0' : ¬ s.next = te := by omega
    have e1 : ¬ te = s.next + 1 := by omega
    have e1' : ¬ s.next + 1 = te := by omega
    have e2 : ¬ te = s.next + 2 := by omega
    have e2' : ¬ s.next + 2 = te := by omega
    have e3 : ¬ te = s.next + 3 := by omega
    have e3' : ¬ s.next + 3 = te := by omega
    have e4 : ¬ te = s.next + 4 := by omega
    have e4' : ¬ s.next + 4 = te := by omega
    have d0 : ¬ q = s.next := by omega
    have d0' : ¬ s.next = q := by omega
    have d1 : ¬ q = s.next + 1 := by omega
    have d1' : ¬ s.next + 1 = q := by omega
    have d2 : ¬ q = s.next + 2 := by omega
    have d2' : ¬ s.next + 2 = q := by omega
    have d3 : ¬ q = s.next + 3 := by omega
    have d3' : ¬ s.next + 3 = q := by omega
    have d4 : ¬ q = s.next + 4 := by omega
    have d4' : ¬ s.next + 4 = q := by omega
    have c9 : ¬ s1.next + 1 = s.next := by omega
    have c9' : ¬ s.next = s1.next + 1 := by omega
    have n1 : ¬ te = s1.next := box_ne Ht H4 (by simp)
    have n2 : ¬ te = s1.next + 1 := box_ne Ht HM (by simp)
    have n3 : ¬ q = s1.next + 1 := box_ne Hq HM (by simp)
    have n4 : ¬ q = te := box_ne Hq Ht (by simp)
    have n1' : ¬ s1.next = te := fun h => n1 h.symm
    have n2' : ¬ s1.next + 1 = te := fun h => n2 h.symm
    have n3' : ¬ s1.next + 1 = q := fun h => n3 h.symm
    have n4' : ¬ te = q := fun h => n4 h.symm
    have n5' : ¬ s1.next = q := fun h => q24 h.symm
    have r2 : ¬ s.next = s.next + 1 + 1 := by omega
    have r3 : ¬ s.next = s.next + 1 + 1 + 1 := by omega
    have r4 : ¬ s.next = s.next + 1 + 1 + 1 + 1 := by omega
    have r5 : ¬ s.next = s.next + 1 + 1 + 1 + 1 + 1 := by omega
    have r6 : ¬ s.next = s.next + 1 + 1 + 1 + 1 + 1 + 1 := by omega
    have r7 : ¬ s.next = s.next + 1 + 1 + 1 + 1 + 1 + 1 + 1 := by omega
    have p1 : R.length < R.length + 1 := by omega
    (repeat' (first | refine awp_seq ?_ | refine awp_block ?_ | ((first | refine awp_skip ?_ | refine awp_exit ?_); simp only [ak, reduceIte]) | (refine awp_ret ?_; simp only [ak, reduceIte]; simp [hcl, htR, hsm, te0, c0, c0', c1, c1', c2, c2', c3, c3', c4, c4', e0, e0', e1, e1', e2, e2', e3, e3', e4, e4', d0, d0', d1, d1', d2, d2', d3, d3', d4, d4', c9, c9', n1, n2, n3, n4, n1', n2', n3', n4', n5', Ht, Hq, q24, f4, f5, f6, f18, f19, f20, hlt, hd, hel, hk3, hw, H4, HM, hm]) | (refine awp_cond ?_; simp [hcl, htR, hsm, te0, c0, c0', c1, c1', c2, c2', c3, c3', c4, c4', e0, e0', e1, e1', e2, e2', e3, e3', e4, e4', d0, d0', d1, d1', d2, d2', d3, d3', d4, d4', c9, c9', n1, n2, n3, n4, n1', n2', n3', n4', n5', Ht, Hq, q24, f4, f5, f6, f18, f19, f20, hlt, hd, hel, hk3, hw, H4, HM, hm]; (try with_reducible refine ⟨?_, ?_⟩) <;> (try with_reducible intro hc) <;> try (exfalso; omega)) | ((first | (refine w_e [] ?_; intro J hJ; simp only []) | (refine w_q ?_; intro J hJ) | refine e_go ?_); simp [hcl, htR, hsm, te0, c0, c0', c1, c1', c2, c2', c3, c3', c4, c4', e0, e0', e1, e1', e2, e2', e3, e3', e4, e4', d0, d0', d1, d1', d2, d2', d3, d3', d4, d4', c9, c9', n1, n2, n3, n4, n1', n2', n3', n4', n5', Ht, Hq, q24, f4, f5, f6, f18, f19, f20, hlt, hd, hel, hk3, hw, H4, HM, hm]; (repeat refine ca ?_); (try ((try with_reducible refine ⟨?_, ?_⟩) <;> (try with_reducible intro hnil) <;> refine hJ _ _ ?_ <;> clear hJ J <;> simp only [ak, reduceIte] <;> try subst hnil)))))
    (refine w_s [] [s.next, s.next + 1 + 1 + 1 + 1 + 1] [(0, true), (1, true), (2, true), (3, true), (4, true), (5, true), (6, true), (7, true), (8, true), (9, true), (10, true), (11, false)] ?_; intro J hJ; simp [r2, r3, r4, r5, r6, r7, c0, c0', c1, c1', c2, c2', c3, c3', c4, c4', e0, e0', e1, e1', e2, e2', e3, e3', e4, e4', d0, d0', d1, d1', d2, d2', d3, d3', d4, d4', c9, c9', n1, n2, n3, n4, n1', n2', n3', n4', n5', hcl, htR, hdl, htl, hdl2, p1]; (repeat refine ca ?_); (try ((try with_reducible refine ⟨?_, ?_⟩) <;> (try with_reducible intro hnil) <;> refine hJ _ _ ?_ <;> clear hJ J <;> simp only [ak, reduceIte] <;> try subst hnil)))
    (repeat' (first | refine awp_seq ?_ | refine awp_block ?_ | ((first | refine awp_skip ?_ | refine awp_exit ?_); simp only [ak, reduceIte]) | (refine awp_ret ?_; simp only [ak, reduceIte]; simp [f20, hw]) | (refine awp_cond ?_; simp [f20, hw]; (try with_reducible refine ⟨?_, ?_⟩) <;> (try with_reducible intro hc) <;> try (exfalso; omega)) | ((first | (refine w_e [] ?_; intro J hJ; simp only []) | (refine w_q ?_; intro J hJ) | refine e_go ?_); simp [f20, hw]; (repeat refine ca ?_); (try ((try with_reducible refine ⟨?_, ?_⟩) <;> (try with_reducible intro hnil) <;> refine hJ _ _ ?_ <;> clear hJ J <;> simp only [ak, reduceIte] <;> try subst hnil)))))
    have l1 : ¬ st.next + 1 = te := box_ne H2 Ht (by simp)
    have l2 : ¬ st.next + 1 = q := box_ne H2 Hq (by simp)
    obtain ⟨hs, hb⟩ := bnd_new hany
    refine hJJ (g.es.length - (k + 1)) _ _ (by omega) ⟨k + 1, by omega, rfl, by simp [f2], by simp [f4], by simp [f6], by simp [f18], by simp [f19], by simp, s.next + 3, s.next + 5, mset mes (kE ⟨id, a, b⟩) (i (sE E).length), R ++ [(s.next + 7, [id])], by simp, ?_⟩
    rw [htk1]
    refine ⟨?_, ?_, ?_, ?_, ?_, ?_, hat.add hany, ?_, ?_, ?_, ?_⟩
    · (repeat (first | rw [new_H, if_neg (α := LObj) (by (try simp only [set_next, new_next]); omega)] | rw [set_H, if_neg (α := LObj) (by omega)] | rw [new_H, if_pos (α := LObj) (by (try simp only [set_next, new_next]))] | rw [set_H, if_pos (α := LObj) (by omega)])); exact H2
    · (repeat (first | rw [new_H, if_neg (α := LObj) (by (try simp only [set_next, new_next]); omega)] | rw [set_H, if_neg (α := LObj) (by omega)] | rw [new_H, if_pos (α := LObj) (by (try simp only [set_next, new_next]))] | rw [set_H, if_pos (α := LObj) (by omega)])); rw [hs]; simp [eds]
    · (repeat (first | rw [new_H, if_neg (α := LObj) (by (try simp only [set_next, new_next]); omega)] | rw [set_H, if_neg (α := LObj) (by omega)] | rw [new_H, if_pos (α := LObj) (by (try simp only [set_next, new_next]))] | rw [set_H, if_pos (α := LObj) (by omega)])); rw [hs]; simp
    · (repeat (first | rw [new_H, if_neg (α := LObj) (by (try simp only [set_next, new_next]); omega)] | rw [set_H, if_neg (α := LObj) (by omega)] | rw [new_H, if_pos (α := LObj) (by (try simp only [set_next, new_next]))] | rw [set_H, if_pos (α := LObj) (by omega)])); rw [hRl]; rfl
    · (repeat (first | rw [new_H, if_neg (α := LObj) (by (try simp only [set_next, new_next]); omega)] | rw [set_H, if_neg (α := LObj) (by omega)] | rw [new_H, if_pos (α := LObj) (by (try simp only [set_next, new_next]))] | rw [set_H, if_pos (α := LObj) (by omega)])); simp [cellsT, cellT]
    · rw [List.map_append, hbn, hb]; rfl
    · rw [List.map_append, List.nodup_append]
      refine ⟨hnd, by simp, fun x hx y hy => ?_⟩
      obtain ⟨p, hp, rfl⟩ := List.mem_map.1 hx
      simp at hy
      have := (htk p hp).2.1
      omega
    · intro p hp
      rcases List.mem_append.1 hp with hp | hp
      · obtain ⟨h1, h2, h3⟩ := htk p hp
        have t1 : ¬ p.1 = te := box_ne h3 Ht (by simp)
        have t2 : ¬ p.1 = q := box_ne h3 Hq (by simp)
        have t3 : ¬ p.1 = s1.next := box_ne h3 H4 (by simp)
        have t4 : ¬ p.1 = s1.next + 1 := box_ne h3 HM (by simp)
        refine ⟨h1, by simp <;> omega, ?_⟩
        (repeat (first | rw [new_H, if_neg (α := LObj) (by (try simp only [set_next, new_next]); omega)] | rw [set_H, if_neg (α := LObj) (by omega)] | rw [new_H, if_pos (α := LObj) (by (try simp only [set_next, new_next]))] | rw [set_H, if_pos (α := LObj) (by omega)])); exact h3
      · rw [List.mem_singleton] at hp
        subst hp
        refine ⟨by simp <;> omega, by simp, ?_⟩
        (repeat (first | rw [new_H, if_neg (α := LObj) (by (try simp only [set_next, new_next]); omega)] | rw [set_H, if_neg (α := LObj) (by omega)] | rw [new_H, if_pos (α := LObj) (by (try simp only [set_next, new_next]))] | rw [set_H, if_pos (α := LObj) (by omega)])); rfl
    · simp only [set_next, new_next]; omega
    · refine ⟨by have := hkps.next; simp only [set_next, new_next]; omega, fun l hl => ?_⟩
      (repeat (first | rw [new_H, if_neg (α := LObj) (by (try simp only [set_next, new_next]); omega)] | rw [set_H, if_neg (α := LObj) (by omega)] | rw [new_H, if_pos (α := LObj) (by (try simp only [set_next, new_next]))] | rw [set_H, if_pos (α := LObj) (by omega)])); exact hkps.H l hl
  obtain ⟨hs, L1, y, L2, B1, r, B2, hL, hyb, hB0, hBl, hB1, hrl⟩ := bnd_old hany
  have hm := hat.old ⟨id, a, b⟩ L1 y L2 hL hyb
  simp only [kE] at hm
  rw [hB0] at hbn
  obtain ⟨R1, R', rfl, hR1, hR'⟩ := List.map_eq_append_iff.1 hbn
  obtain ⟨p, R2, rfl, hpr, hR2⟩ := List.map_eq_cons_iff.1 hR'
  obtain ⟨t0, r0⟩ := p
  simp only at hpr
  subst hpr
  obtain ⟨hb1, hb2, hb3⟩ := htk (t0, r0) (by simp)
  simp only at hb1 hb2 hb3
  have hR1l : R1.length = L1.length := by rw [← hBl, ← hR1, List.length_map]
  have hcl : (cellsT (R1 ++ (t0, r0) :: R2)).length = R1.length + (R2.length + 1) := by rw [cellsT_len]; simp
  have hRl : (R1 ++ (t0, r0) :: R2).length = R1.length + (R2.length + 1) := by simp
  have hcs : cellsT (R1 ++ (t0, r0) :: R2) = cellsT R1 ++ .sl t0 r0.length (us r0) :: cellsT R2 := by simp [cellsT, cellT]
  have hc1 : (cellsT R1).length = R1.length := cellsT_len R1
  have hdl : List.drop R1.length (cellsT R1 ++ LV.sl t0 r0.length (us r0) :: cellsT R2) = .sl t0 r0.length (us r0) :: cellsT R2 := by rw [← hc1]; exact List.drop_left
  have htl : List.take R1.length (cellsT R1 ++ LV.sl t0 r0.length (us r0) :: cellsT R2) = cellsT R1 := by rw [← hc1]; exact List.take_left
  have hdl2 : List.drop (R1.length + 1) (cellsT R1 ++ LV.sl t0 r0.length (us r0) :: cellsT R2) = cellsT R2 := by
    rw [← hc1, show cellsT R1 ++ LV.sl t0 r0.length (us r0) :: cellsT R2 = (cellsT R1 ++ [LV.sl t0 r0.length (us r0)]) ++ cellsT R2 by simp]
    rw [show (cellsT R1).length + 1 = (cellsT R1 ++ [LV.sl t0 r0.length (us r0)]).length by simp]
    exact List.drop_left
  rw [hRl] at f5
  rw [hcs] at Hq
  rw [← hR1l] at hm
  have t00 : ¬ t0 = 0 := by omega
  have m1 : ¬ s1.next = s.next := by omega
  have m1' : ¬ s.next = s1.next := by omega
  have m2 : ¬ s1.next + 1 = s.next := by omega
  have m2' : ¬ s.next = s1.next + 1 := by omega
  have m5 : ¬ t0 = s.next := by omega
  have m6 : ¬ t0 = s.next + 1 := by omega
  have m6b : ¬ t0 = s.next + 2 := by omega
  have m5' : ¬ s.next = t0 := by omega
  have m6' : ¬ s.next + 1 = t0 := by omega
  have m6b' : ¬ s.next + 2 = t0 := by omega
  have m7 : ¬ q = s.next := by omega
  have m8 : ¬ q = s.next + 1 := by omega
  have m9 : ¬ q = s.next + 2 := by omega
  have m9b : ¬ q = s.next + 3 := by omega
  have n4 : ¬ q = t0 := box_ne Hq hb3 (by simp)
  have r2 : ¬ s.next = s.next + 1 + 1 := by omega
  have r3 : ¬ s.next = s.next + 1 + 1 + 1 := by omega
  have p1 : R1.length < R1.length + (R2.length + 1) := by omega
  have p2 : (R1.length : Int) < (R1.length : Int) + ((R2.length : Int) + 1) := by omega
  have hr1 : r0.length ≤ 1000 := by omega
  (repeat' (first | refine awp_seq ?_ | refine awp_block ?_ | ((first | refine awp_skip ?_ | refine awp_exit ?_); simp only [ak, reduceIte]) | (refine awp_ret ?_; simp only [ak, reduceIte]; simp [m1, m1', m2, m2', f4, f5, f6, f18, f19, f20, hlt, hd, hel, hk3, hw, HM, hm]) | (refine awp_cond ?_; simp [m1, m1', m2, m2', f4, f5, f6, f18, f19, f20, hlt, hd, hel, hk3, hw, HM, hm]; (try with_reducible refine ⟨?_, ?_⟩) <;> (try with_reducible intro hc) <;> try (exfalso; omega)) | ((first | (refine w_e [] ?_; intro J hJ; simp only []) | (refine w_q ?_; intro J hJ) | refine e_go ?_); simp [m1, m1', m2, m2', f4, f5, f6, f18, f19, f20, hlt, hd, hel, hk3, hw, HM, hm]; (repeat refine ca ?_); (try ((try with_reducible refine ⟨?_, ?_⟩) <;> (try with_reducible intro hnil) <;> refine hJ _ _ ?_ <;> clear hJ J <;> simp only [ak, reduceIte] <;> try subst hnil)))))
  (refine w_s [] [s.next, q] [(0, true), (1, true), (2, true), (3, true), (4, true), (5, true), (6, true), (7, true), (8, true), (9, true), (10, true), (11, false)] ?_; intro J hJ; simp [m1, m1', m2, m2', m5, m6, m6b, m5', m6', m6b', m7, m8, m9, m9b, n4, r2, r3, f5, Hq, hb3, hc1, hdl, htl, hdl2, p1, p2, t00]; (repeat refine ca ?_); (try ((try with_reducible refine ⟨?_, ?_⟩) <;> (try with_reducible intro hnil) <;> refine hJ _ _ ?_ <;> clear hJ J <;> simp only [ak, reduceIte] <;> try subst hnil)))
  (repeat' (first | refine awp_seq ?_ | refine awp_block ?_ | ((first | refine awp_skip ?_ | refine awp_exit ?_); simp only [ak, reduceIte]) | (refine awp_ret ?_; simp only [ak, reduceIte]; simp [f20, hw]) | (refine awp_cond ?_; simp [f20, hw]; (try with_reducible refine ⟨?_, ?_⟩) <;> (try with_reducible intro hc) <;> try (exfalso; omega)) | ((first | (refine w_e [] ?_; intro J hJ; simp only []) | (refine w_q ?_; intro J hJ) | refine e_go ?_); simp [f20, hw]; (repeat refine ca ?_); (try ((try with_reducible refine ⟨?_, ?_⟩) <;> (try with_reducible intro hnil) <;> refine hJ _ _ ?_ <;> clear hJ J <;> simp only [ak, reduceIte] <;> try subst hnil)))))
  have l2 : ¬ st.next + 1 = q := box_ne H2 Hq (by simp)
  have l3 : ¬ st.next + 1 = t0 := box_ne H2 hb3 (by simp)
  have l4 : ¬ s1.next = q := fun h => q24 h.symm
  have l5 : ¬ s1.next = t0 := box_ne H4 hb3 (by simp)
  have l6 : ¬ s1.next + 1 = q := box_ne HM Hq (by simp)
  have l7 : ¬ s1.next + 1 = t0 := box_ne HM hb3 (by simp)
  have l8 : ¬ te = q := box_ne Ht Hq (by simp)
  have l9 : ¬ te = t0 := box_ne Ht hb3 (by simp)
  refine hJJ (g.es.length - (k + 1)) _ _ (by omega) ⟨k + 1, by omega, rfl, by simp [f2], by simp [f4], by simp [f6], by simp [f18], by simp [f19], by simp, te, q, mes, R1 ++ (s.next + 3, r0 ++ [id]) :: R2, by simp [f5], ?_⟩
  rw [htk1]
  have hnd' := hnd
  rw [List.map_append, List.map_cons, List.nodup_append, List.nodup_cons] at hnd'
  obtain ⟨nd1, ⟨nd2, nd3⟩, nd4⟩ := hnd'
  refine ⟨?_, ?_, ?_, ?_, ?_, ?_, hat.keep hs, ?_, ?_, ?_, ?_⟩
  · (repeat (first | rw [new_H, if_neg (α := LObj) (by (try simp only [set_next, new_next]); omega)] | rw [set_H, if_neg (α := LObj) (by omega)] | rw [new_H, if_pos (α := LObj) (by (try simp only [set_next, new_next]))] | rw [set_H, if_pos (α := LObj) (by omega)])); exact H2
  · (repeat (first | rw [new_H, if_neg (α := LObj) (by (try simp only [set_next, new_next]); omega)] | rw [set_H, if_neg (α := LObj) (by omega)] | rw [new_H, if_pos (α := LObj) (by (try simp only [set_next, new_next]))] | rw [set_H, if_pos (α := LObj) (by omega)])); rw [hs]; exact H4
  · (repeat (first | rw [new_H, if_neg (α := LObj) (by (try simp only [set_next, new_next]); omega)] | rw [set_H, if_neg (α := LObj) (by omega)] | rw [new_H, if_pos (α := LObj) (by (try simp only [set_next, new_next]))] | rw [set_H, if_pos (α := LObj) (by omega)])); rw [hs]; exact Ht
  · (repeat (first | rw [new_H, if_neg (α := LObj) (by (try simp only [set_next, new_next]); omega)] | rw [set_H, if_neg (α := LObj) (by omega)] | rw [new_H, if_pos (α := LObj) (by (try simp only [set_next, new_next]))] | rw [set_H, if_pos (α := LObj) (by omega)])); exact HM
  · (repeat (first | rw [new_H, if_neg (α := LObj) (by (try simp only [set_next, new_next]); omega)] | rw [set_H, if_neg (α := LObj) (by omega)] | rw [new_H, if_pos (α := LObj) (by (try simp only [set_next, new_next]))] | rw [set_H, if_pos (α := LObj) (by omega)])); simp [cellsT, cellT]
  · rw [hB1, List.map_append, List.map_cons, hR1, hR2]
  · rw [List.map_append, List.map_cons, List.nodup_append, List.nodup_cons]
    have lt1 : ∀ x ∈ R1.map (·.1), x < s.next := fun x hx => by
      obtain ⟨p, hp, rfl⟩ := List.mem_map.1 hx
      exact (htk p (by simp [hp])).2.1
    have lt2 : ∀ x ∈ R2.map (·.1), x < s.next := fun x hx => by
      obtain ⟨p, hp, rfl⟩ := List.mem_map.1 hx
      exact (htk p (by simp [hp])).2.1
    refine ⟨nd1, ⟨fun h => by have := lt2 _ h; omega, nd3⟩, fun x hx y hy => ?_⟩
    rcases List.mem_cons.1 hy with rfl | hy
    · have := lt1 x hx; simp only; omega
    · exact nd4 x hx y (List.mem_cons_of_mem _ hy)
  · intro p hp
    have old : ∀ p, p ∈ R1 ∨ p ∈ R2 → ¬ p.1 = t0 → st.next ≤ p.1 ∧ p.1 < s.next ∧ s.H p.1 = .own 41 1 p.2.length ∧ ¬ p.1 = t0 ∧ ¬ p.1 = q := by
      intro p hp hne
      obtain ⟨h1, h2, h3⟩ := htk p (by rcases hp with hp | hp <;> simp [hp])
      exact ⟨h1, h2, h3, hne, box_ne h3 Hq (by simp)⟩
    have hp' : (p ∈ R1 ∨ p ∈ R2) ∧ ¬ p.1 = t0 ∨ p = (s.next + 3, r0 ++ [id]) := by
      rcases List.mem_append.1 hp with hp | hp
      · exact .inl ⟨.inl hp, nd4 _ (List.mem_map.2 ⟨p, hp, rfl⟩) t0 (by simp)⟩
      · rcases List.mem_cons.1 hp with hp | hp
        · exact .inr hp
        · exact .inl ⟨.inr hp, fun h => nd2 (by rw [← h]; exact List.mem_map.2 ⟨p, hp, rfl⟩)⟩
    rcases hp' with ⟨hp, hne⟩ | rfl
    · obtain ⟨h1, h2, h3, t1, t2⟩ := old p hp hne
      refine ⟨h1, by simp only [set_next, new_next]; omega, ?_⟩
      (repeat (first | rw [new_H, if_neg (α := LObj) (by (try simp only [set_next, new_next]); omega)] | rw [set_H, if_neg (α := LObj) (by omega)] | rw [new_H, if_pos (α := LObj) (by (try simp only [set_next, new_next]))] | rw [set_H, if_pos (α := LObj) (by omega)])); exact h3
    · refine ⟨by simp only; omega, by simp, ?_⟩
      simp only
      (repeat (first | rw [new_H, if_neg (α := LObj) (by (try simp only [set_next, new_next]); omega)] | rw [set_H, if_neg (α := LObj) (by omega)] | rw [new_H, if_pos (α := LObj) (by (try simp only [set_next, new_next]))] | rw [set_H, if_pos (α := LObj) (by omega)])); simp
  · simp only [set_next, new_next]; omega
  · refine ⟨by have := hkps.next; simp only [set_next, new_next]; omega, fun l hl => ?_⟩
    (repeat (first | rw [new_H, if_neg (α := LObj) (by (try simp only [set_next, new_next]); omega)] | rw [set_H, if_neg (α := LObj) (by omega)] | rw [new_H, if_pos (α := LObj) (by (try simp only [set_next, new_next]))] | rw [set_H, if_pos (α := LObj) (by omega)])); exact hkps.H l hl

end Go.Proofs.YtomfeddgeihipaaGreat.Aw

namespace Go.Proofs.YtomfeddgeihipaaGreat.Aw
open Go Go.RowKit Go.Proofs.YtomfeddgeihipaaGreat.Pl
set_option linter.unusedSimpArgs false
set_option linter.unusedVariables false

/-- A vertex, the box of its row. -/
abbrev VB := Int × Nat
def entM (H : List (Int × Int)) (L : List VB) : List (List Int × LV) := L.map fun p => ([p.1], .ms p.2 0 (nbH p.1 H).length)
structure NbM (H : List (Int × Int)) (lo : Nat) (m : Nat) (L : List VB) (s : St) : Prop where
  hm : s.H m = .map false [.u32] (entM H L)
  bx : ∀ p ∈ L, lo ≤ p.2 ∧ p.2 < s.next ∧ s.H p.2 = .box 41 1 (us (nbH p.1 H))
  nd : (L.map (·.2)).Nodup
  kd : (L.map (·.1)).Nodup
  all : ∀ v, nbH v H ≠ [] ↔ v ∈ L.map (·.1)

theorem entM_none {H : List (Int × Int)} {v : Int} : ∀ {L : List VB}, v ∉ L.map (·.1) → mget (entM H L) [v] = none
  | [], _ => rfl
  | p :: L, h => by
    simp only [List.map_cons, List.mem_cons, not_or] at h
    simp only [entM, List.map_cons, mget]
    rw [if_neg (by simpa using h.1)]
    exact entM_none h.2
theorem entM_some {H : List (Int × Int)} {v : Int} {q : Nat} : ∀ {L1 L2 : List VB}, v ∉ L1.map (·.1) → mget (entM H (L1 ++ (v, q) :: L2)) [v] = some (.ms q 0 (nbH v H).length)
  | [], L2, _ => by simp [entM, mget]
  | p :: L1, L2, h => by
    simp only [List.map_cons, List.mem_cons, not_or] at h
    simp only [List.cons_append, entM, List.map_cons, mget]
    rw [if_neg (by simpa using h.1)]
    exact entM_some h.2
theorem entM_set {H H' : List (Int × Int)} {v : Int} {q q' : Nat} : ∀ {L1 L2 : List VB}, v ∉ L1.map (·.1) → v ∉ L2.map (·.1) → (∀ u, u ≠ v → nbH u H' = nbH u H) → mset (entM H (L1 ++ (v, q) :: L2)) [v] (.ms q' 0 (nbH v H').length) = entM H' (L1 ++ (v, q') :: L2)
  | [], L2, _, h2, hn => by
    simp only [List.nil_append, entM, List.map_cons, mset, beq_self_eq_true, if_true]
    congr 1
    refine List.map_congr_left fun p hp => ?_
    rw [hn p.1 (fun e => h2 (by rw [← e]; exact List.mem_map.2 ⟨p, hp, rfl⟩))]
  | p :: L1, L2, h, h2, hn => by
    simp only [List.map_cons, List.mem_cons, not_or] at h
    have ih := entM_set (H := H) (H' := H') (q := q) (q' := q') (L1 := L1) (L2 := L2) h.2 h2 hn
    simp only [List.cons_append, entM, List.map_cons, mset] at ih ⊢
    rw [if_neg (by simpa using h.1), ih, hn p.1 (fun e => h.1 e.symm)]
theorem entM_add {H H' : List (Int × Int)} {v : Int} {q' : Nat} : ∀ {L : List VB}, v ∉ L.map (·.1) → (∀ u, u ≠ v → nbH u H' = nbH u H) → mset (entM H L) [v] (.ms q' 0 (nbH v H').length) = entM H' (L ++ [(v, q')])
  | [], _, _ => rfl
  | p :: L, h, hn => by
    simp only [List.map_cons, List.mem_cons, not_or] at h
    have ih := entM_add (H := H) (H' := H') (q' := q') (L := L) h.2 hn
    simp only [List.cons_append, entM, List.map_cons, mset] at ih ⊢
    rw [if_neg (by simpa using h.1), ih, hn p.1 (fun e => h.1 e.symm)]
theorem nbH_other {H : List (Int × Int)} {a b u : Int} (h : u ≠ a) : nbH u (H ++ [(a, b)]) = nbH u H := by rw [nbH_snoc, if_neg (fun e => h e.symm), List.append_nil]
theorem nbH_this {H : List (Int × Int)} {a b : Int} : nbH a (H ++ [(a, b)]) = nbH a H ++ [b] := by rw [nbH_snoc, if_pos rfl]

/-- A row of which nothing was yet: the map has it behind a new box. -/
theorem NbM.add {H : List (Int × Int)} {lo m : Nat} {L : List VB} {s : St} (h : NbM H lo m L s) {a b : Int} (ha : a ∉ L.map (·.1)) {q' : Nat} {s' : St} (hq : lo ≤ q' ∧ s.next ≤ q' ∧ q' < s'.next)
    (hm : s'.H m = .map false [.u32] (mset (entM H L) [a] (.ms q' 0 (nbH a H ++ [b]).length))) (hb : s'.H q' = .box 41 1 (us (nbH a H ++ [b]))) (ho : ∀ p ∈ L, s'.H p.2 = s.H p.2) (hn : s.next ≤ s'.next) : NbM (H ++ [(a, b)]) lo m (L ++ [(a, q')]) s' := by
  have hoth : ∀ u, u ≠ a → nbH u (H ++ [(a, b)]) = nbH u H := fun u hu => nbH_other hu
  refine ⟨?_, fun p hp => ?_, ?_, ?_, fun v => ?_⟩
  · rw [hm, ← nbH_this, entM_add ha hoth]
  · rcases List.mem_append.1 hp with hp | hp
    · obtain ⟨h1, h2, h3⟩ := h.bx p hp
      exact ⟨h1, by omega, by rw [ho p hp, h3, hoth p.1 (fun e => ha (by rw [← e]; exact List.mem_map.2 ⟨p, hp, rfl⟩))]⟩
    · rw [List.mem_singleton] at hp
      subst hp
      exact ⟨hq.1, hq.2.2, by rw [hb, nbH_this]⟩
  · rw [List.map_append, List.nodup_append]
    refine ⟨h.nd, by simp, fun x hx y hy => ?_⟩
    obtain ⟨p, hp, rfl⟩ := List.mem_map.1 hx
    simp at hy
    have := (h.bx p hp).2.1
    omega
  · rw [List.map_append, List.nodup_append]
    exact ⟨h.kd, by simp, fun x hx y hy => by simp at hy; subst hy; rintro rfl; exact ha hx⟩
  · rw [List.map_append, List.mem_append]
    by_cases hv : v = a
    · subst hv; rw [nbH_this]; simp
    · rw [hoth v hv, h.all v]
      simp [hv]
/-- A row that was there grows. -/
theorem NbM.put {H : List (Int × Int)} {lo m : Nat} {L1 L2 : List VB} {s : St} {a b : Int} {q : Nat} (h : NbM H lo m (L1 ++ (a, q) :: L2) s) {q' : Nat} {s' : St} (hq : lo ≤ q' ∧ s.next ≤ q' ∧ q' < s'.next)
    (hm : s'.H m = .map false [.u32] (mset (entM H (L1 ++ (a, q) :: L2)) [a] (.ms q' 0 (nbH a H ++ [b]).length))) (hb : s'.H q' = .box 41 1 (us (nbH a H ++ [b]))) (ho : ∀ p, p ∈ L1 ∨ p ∈ L2 → p.2 ≠ q → p.2 < s.next → s'.H p.2 = s.H p.2) (hn : s.next ≤ s'.next) : NbM (H ++ [(a, b)]) lo m (L1 ++ (a, q') :: L2) s' := by
  have hoth : ∀ u, u ≠ a → nbH u (H ++ [(a, b)]) = nbH u H := fun u hu => nbH_other hu
  have kd := h.kd
  have nd := h.nd
  rw [List.map_append, List.map_cons, List.nodup_append, List.nodup_cons] at kd nd
  obtain ⟨kd1, ⟨kd2, kd3⟩, kd4⟩ := kd
  obtain ⟨nd1, ⟨nd2, nd3⟩, nd4⟩ := nd
  have ha1 : a ∉ L1.map (·.1) := fun e => kd4 a e a (by simp) rfl
  have hb1 : ∀ p, p ∈ L1 ∨ p ∈ L2 → p.1 ≠ a ∧ p.2 ≠ q ∧ (lo ≤ p.2 ∧ p.2 < s.next ∧ s.H p.2 = .box 41 1 (us (nbH p.1 H))) := by
    intro p hp
    refine ⟨?_, ?_, h.bx p (by rcases hp with hp | hp <;> simp [hp])⟩
    · rcases hp with hp | hp
      · exact fun e => ha1 (by rw [← e]; exact List.mem_map.2 ⟨p, hp, rfl⟩)
      · exact fun e => kd2 (by rw [← e]; exact List.mem_map.2 ⟨p, hp, rfl⟩)
    · rcases hp with hp | hp
      · exact nd4 _ (List.mem_map.2 ⟨p, hp, rfl⟩) q (by simp)
      · exact fun e => nd2 (by rw [← e]; exact List.mem_map.2 ⟨p, hp, rfl⟩)
  refine ⟨?_, fun p hp => ?_, ?_, ?_, fun v => ?_⟩
  · rw [hm, ← nbH_this, entM_set ha1 kd2 hoth]
  · have hp' : (p ∈ L1 ∨ p ∈ L2) ∨ p = (a, q') := by
      rcases List.mem_append.1 hp with hp | hp
      · exact .inl (.inl hp)
      · rcases List.mem_cons.1 hp with hp | hp
        · exact .inr hp
        · exact .inl (.inr hp)
    rcases hp' with hp | rfl
    · obtain ⟨h1, h2, h3, h4, h5⟩ := hb1 p hp
      exact ⟨h3, by omega, by rw [ho p hp h2 h4, h5, hoth p.1 h1]⟩
    · exact ⟨hq.1, hq.2.2, by rw [hb, nbH_this]⟩
  · rw [List.map_append, List.map_cons, List.nodup_append, List.nodup_cons]
    have lt : ∀ p, p ∈ L1 ∨ p ∈ L2 → p.2 < s.next := fun p hp => (hb1 p hp).2.2.2.1
    refine ⟨nd1, ⟨fun e => ?_, nd3⟩, fun x hx y hy => ?_⟩
    · obtain ⟨p, hp, e⟩ := List.mem_map.1 e
      have := lt p (.inr hp); simp only at e; omega
    · rcases List.mem_cons.1 hy with rfl | hy
      · obtain ⟨p, hp, rfl⟩ := List.mem_map.1 hx
        have := lt p (.inl hp); omega
      · exact nd4 x hx y (List.mem_cons_of_mem _ hy)
  · have := h.kd
    rw [List.map_append, List.map_cons] at this ⊢
    exact this
  · by_cases hv : v = a
    · subst hv; rw [nbH_this]; simp
    · rw [hoth v hv, h.all v, List.map_append, List.map_append, List.map_cons, List.map_cons]

theorem nodup_map_inj {α β : Type} {f : α → β} : ∀ {L : List α}, (L.map f).Nodup → ∀ {x y : α}, x ∈ L → y ∈ L → f x = f y → x = y
  | [], _, _, _, hx, _, _ => by simp at hx
  | z :: L, h, x, y, hx, hy, e => by
    simp only [List.map_cons, List.nodup_cons] at h
    rcases List.mem_cons.1 hx with hx' | hx' <;> rcases List.mem_cons.1 hy with hy' | hy'
    · rw [hx', hy']
    · exact absurd (List.mem_map.2 ⟨y, hy', by rw [← e, hx']⟩) h.1
    · exact absurd (List.mem_map.2 ⟨x, hx', by rw [e, hy']⟩) h.1
    · exact nodup_map_inj h.2 hx' hy' e
theorem awp_cutB {P : Program} {N : Nat} {Q : AQ} {k : List AItem} {fr : Frm} {st : St} {x : Code} (I : Frm → St → Prop) (h1 : AWp P N x (AK P N (fun e f s => e = .normal ∧ I f s) []) fr st) (h2 : ∀ fr st, I fr st → AK P N Q k .normal fr st) :
    AWp P N x (AK P N Q k) fr st := by
  refine awp_mono h1 ?_
  rintro e fr' st' ⟨rfl, hI⟩
  exact h2 _ _ hI
theorem awp_weakB {P : Program} {N : Nat} {Q : AQ} {c : Code} {fr : Frm} {st : St} (I : Frm → St → Prop) (h0 : I fr st) (h : ∀ fr st, I fr st → AWp P N c Q fr st) : AWp P N c Q fr st := h _ _ h0
theorem NbM.keeps {H : List (Int × Int)} {lo m : Nat} {L : List VB} {s s' : St} (h : NbM H lo m L s) (k : Keeps s s') (hm : m < s.next) : NbM H lo m L s' :=
  ⟨by rw [k.H m hm]; exact h.hm, fun p hp => by obtain ⟨h1, h2, h3⟩ := h.bx p hp; exact ⟨h1, Nat.lt_of_lt_of_le h2 k.next, by rw [k.H _ h2]; exact h3⟩, h.nd, h.kd, h.all⟩

def SoI (st0 : St) (H : List (Int × Int)) (M : Nat) (L : List VB) (Lr : List (List Int × LV)) (fr : Frm) (s : St) : Prop :=
  fr 3 = .mp M ∧ (Lr.map (·.1)).Nodup ∧ (∀ e ∈ Lr, ∃ p ∈ L, e = ([p.1], .ms p.2 0 (nbH p.1 H).length)) ∧ s.H M = .dead ∧ M < s.next ∧ Keeps st0 s ∧
  ∀ p ∈ L, p.2 < s.next ∧ ∃ c, s.H p.2 = .box 41 1 (us c) ∧ c.Perm (nbH p.1 H) ∧ ([p.1] ∉ Lr.map (·.1) → c.Pairwise (· ≤ ·))

def NrI (st0 : St) (S : List Ed) (M k : Nat) (H : List (Int × Int)) (fr : Frm) (s : St) : Prop :=
  fr 3 = .mp M ∧ fr 17 = .sl 0 S.length (eds S) ∧ fr 18 = i S.length ∧ fr 19 = i k ∧ st0.next ≤ M ∧ M < s.next ∧ Keeps st0 s ∧ ∃ L, NbM H st0.next M L s

set_option maxHeartbeats 2000000 in
theorem nearbyM (g : Gr) (st : St) (hv : g.vs.length ≤ 1048576) (he : g.es.length ≤ 1000) (hp : 0 < st.next) :
    ACalls Tryz.prog 86 [.ag (grL g)] st fun r st' => ∃ m L, r = .mp m ∧ st.next ≤ m ∧ m < st'.next ∧ Keeps st st' ∧ st'.H m = .map false [.u32] (rowsM L) ∧ (∀ p ∈ L, st.next ≤ p.2.1 ∧ st'.H p.2.1 = .box 41 1 p.2.2) ∧ (L.map fun p => p.2.1).Nodup ∧
      ∃ K : List Int, K.Nodup ∧ (∀ v, nbH v (hfs (sE g.es)) ≠ [] ↔ v ∈ K) ∧ L.map (fun p => (p.1, p.2.2)) = K.map fun v => ([v], us (nearF g.es v)) := by
  have hel := eds_length (sE g.es)
  have hsl := sE_len g.es
  refine acalls_of_body tabOk Tryz.func86 rfl rfl Tryz.ntmps86 (rs := [.tmp 2]) rfl (by simp) ?_
  (repeat' (first | refine awp_seq ?_ | refine awp_block ?_ | ((first | refine awp_skip ?_ | refine awp_exit ?_); simp only [ak, reduceIte]) | (refine awp_ret ?_; simp only [ak, reduceIte]; simp []) | (refine awp_cond ?_; simp []; (try with_reducible refine ⟨?_, ?_⟩) <;> (try with_reducible intro hc) <;> try (exfalso; omega)) | ((first | (refine w_e [] ?_; intro J hJ; simp only []) | (refine w_q ?_; intro J hJ) | refine e_go ?_); simp []; (repeat refine ca ?_); (try ((try with_reducible refine ⟨?_, ?_⟩) <;> (try with_reducible intro hnil) <;> refine hJ _ _ ?_ <;> clear hJ J <;> simp only [ak, reduceIte] <;> try subst hnil)))))
  refine callK_ofE (Simple g _ hv he (by simp)) (by simp) ?_; rintro r s1 ⟨rfl, hk1⟩
  have hn1 := hk1.next
  simp only [new_next] at hn1
  have hkp1 : Keeps st s1 := ((Keeps.new _ _).trans (Keeps.new _ _)).trans hk1
  have hm1 : s1.H (st.next + 1) = .map false [.u32] [] := by rw [hk1.H _ (by simp)]; simp
  have e1 : ¬ st.next + 1 = s1.next := by omega
  generalize hbl : (bnd g.es).length = bl
  generalize hbc : ((bnd g.es).map fun l => LV.sl 0 l.length (us l)) = bc
  (repeat' (first | refine awp_seq ?_ | refine awp_block ?_ | ((first | refine awp_skip ?_ | refine awp_exit ?_); simp only [ak, reduceIte]) | (refine awp_ret ?_; simp only [ak, reduceIte]; simp [hel]) | (refine awp_cond ?_; simp [hel]; (try with_reducible refine ⟨?_, ?_⟩) <;> (try with_reducible intro hc) <;> try (exfalso; omega)) | ((first | (refine w_e [] ?_; intro J hJ; simp only []) | (refine w_q ?_; intro J hJ) | refine e_go ?_); simp [hel]; (repeat refine ca ?_); (try ((try with_reducible refine ⟨?_, ?_⟩) <;> (try with_reducible intro hnil) <;> refine hJ _ _ ?_ <;> clear hJ J <;> simp only [ak, reduceIte] <;> try subst hnil)))))
  refine awp_loop (fun n fr s => ∃ k : Nat, k ≤ (sE g.es).length ∧ n = (sE g.es).length - k ∧ NrI st (sE g.es) (st.next + 1) k (hfs ((sE g.es).take k)) fr s) (sE g.es).length ?_ ?_
  · refine ⟨0, by omega, by omega, by simp, by simp, by simp, by simp, by omega, by simp; omega, (hkp1.trans (Keeps.new _ _)), [], ?_⟩
    exact ⟨by simp [e1, hm1, entM], by simp, by simp, by simp, by simp [hfs, nbH]⟩
  rintro n fr s ⟨k, hk, rfl, f3, f17, f18, f19, hM1, hM2, hkp, L, hNb⟩ JJ hJJ
  generalize hMM : st.next + 1 = M at *
  by_cases hlt : k < (sE g.es).length
  rotate_left
  · clear hJJ
    have hk' : k = (sE g.es).length := by omega
    rw [hk', List.take_length] at hNb
    refine awp_seq ?_
    (refine w_e [] ?_; intro J hJ; simp only []; simp [f18, f19, hlt]; (repeat refine ca ?_); (try ((try with_reducible refine ⟨?_, ?_⟩) <;> (try with_reducible intro hnil) <;> refine hJ _ _ ?_ <;> clear hJ J <;> simp only [ak, reduceIte] <;> try subst hnil)))
    refine awp_seq ?_
    (refine awp_cond ?_; simp []; (try with_reducible refine ⟨?_, ?_⟩) <;> (try with_reducible intro hc) <;> try (exfalso; omega))
    refine awp_exit ?_; simp only [ak, reduceIte]
    have hHl : (hfs (sE g.es)).length ≤ 2000 := by rw [hfs_len]; omega
    generalize hHH : hfs (sE g.es) = H at *
    refine awp_seq ?_
    refine awp_mapRange tabOk [] (SoI st H M L) (by simp [f3]) hNb.hm ?_ ?_ ?_ Tryz.underlying106
    · intro r
      refine ⟨by simp [f3], ?_, ?_, by simp, by simp; omega, hkp.set hM1 _, fun p hp => ?_⟩
      · have := hNb.kd
        rw [entM, List.map_map]
        have e : L.map ((fun x => x.1) ∘ fun p : VB => (([p.1], LV.ms p.2 0 (nbH p.1 H).length) : List Int × LV)) = (L.map (·.1)).map fun v => [v] := by rw [List.map_map]; rfl
        rw [e]
        exact this.map (fun v => [v]) fun a b hab h => hab (by simpa using h)
      · intro e hee
        obtain ⟨p, hp, rfl⟩ := List.mem_map.1 hee
        exact ⟨p, hp, rfl⟩
      · obtain ⟨h1, h2, h3⟩ := hNb.bx p hp
        have h4 : ¬ p.2 = M := box_ne h3 hNb.hm (by simp)
        refine ⟨by simp; exact h2, nbH p.1 H, by rw [set_H, if_neg h4]; exact h3, .refl _, fun h => absurd (List.mem_map.2 ⟨_, List.mem_map.2 ⟨p, hp, rfl⟩, rfl⟩) h⟩
    · rintro r L1 e L2 fr s2 ⟨F3, hnd, hem, hMd, hMl, hK2, hbx⟩ ft J hJ
      obtain ⟨p, hp, rfl⟩ := hem e (by simp)
      obtain ⟨v, q⟩ := p
      obtain ⟨hql, c, hcH, hcp, -⟩ := hbx (v, q) hp
      have hcl : c.length = (nbH v H).length := hcp.length_eq
      have hnl := nbH_len v H
      simp only at hcl hcH hql hcp
      have hsort := SortU c q s2 (by omega) hql hcH
      rw [hcl] at hsort
      refine e_go ?_
      simp [keyV, mkC]
      (repeat' (first | refine awp_seq ?_ | refine awp_block ?_ | ((first | refine awp_skip ?_ | refine awp_exit ?_); simp only [ak, reduceIte]) | (refine awp_ret ?_; simp only [ak, reduceIte]; simp []) | (refine awp_cond ?_; simp []; (try with_reducible refine ⟨?_, ?_⟩) <;> (try with_reducible intro hc) <;> try (exfalso; omega)) | ((first | (refine w_e [] ?_; intro J hJ; simp only []) | (refine w_q ?_; intro J hJ) | refine e_go ?_); simp []; (repeat refine ca ?_); (try ((try with_reducible refine ⟨?_, ?_⟩) <;> (try with_reducible intro hnil) <;> refine hJ _ _ ?_ <;> clear hJ J <;> simp only [ak, reduceIte] <;> try subst hnil)))))
      refine callK_ofE (hsort) (by simp []) ?_; rintro r st' ⟨d, hd1, hd2, hd3, hd4⟩
      (repeat' (first | refine awp_seq ?_ | refine awp_block ?_ | ((first | refine awp_skip ?_ | refine awp_exit ?_); simp only [ak, reduceIte]) | (refine awp_ret ?_; simp only [ak, reduceIte]; simp []) | (refine awp_cond ?_; simp []; (try with_reducible refine ⟨?_, ?_⟩) <;> (try with_reducible intro hc) <;> try (exfalso; omega)) | ((first | (refine w_e [] ?_; intro J hJ; simp only []) | (refine w_q ?_; intro J hJ) | refine e_go ?_); simp []; (repeat refine ca ?_); (try ((try with_reducible refine ⟨?_, ?_⟩) <;> (try with_reducible intro hnil) <;> refine hJ _ _ ?_ <;> clear hJ J <;> simp only [ak, reduceIte] <;> try subst hnil)))))
      rw [List.map_append, List.map_cons, List.nodup_append, List.nodup_cons] at hnd
      obtain ⟨nd1, ⟨nd2, nd3⟩, nd4⟩ := hnd
      have hMq : ¬ M = q := fun h => by rw [h, hcH] at hMd; cases hMd
      refine hJ _ _ ⟨by simp [F3], ?_, fun e he => hem e (by simp only [List.mem_append, List.mem_cons] at he ⊢; rcases he with h | h; exact .inl h; exact .inr (.inr h)), by rw [hd4.2 M hMq hMl]; exact hMd, Nat.lt_of_lt_of_le hMl hd4.1, ?_, fun p hp2 => ?_⟩ (by simp [ft])
      · rw [List.map_append, List.nodup_append]
        exact ⟨nd1, nd3, fun a ha b hb => nd4 a ha b (List.mem_cons_of_mem _ hb)⟩
      · have hq0 : st.next ≤ q := (hNb.bx (v, q) hp).1
        exact ⟨Nat.le_trans hK2.next hd4.1, fun l hl => by rw [hd4.2 l (by omega) (Nat.lt_of_lt_of_le hl hK2.next)]; exact hK2.H l hl⟩
      · obtain ⟨h1, c2, h2, h3, h4⟩ := hbx p hp2
        by_cases hpq : p.2 = q
        · obtain rfl : p = (v, q) := by
            exact nodup_map_inj hNb.nd hp2 hp hpq
          exact ⟨Nat.lt_of_lt_of_le h1 hd4.1, d, hd1, hd2.trans hcp, fun _ => hd3⟩
        · refine ⟨Nat.lt_of_lt_of_le h1 hd4.1, c2, by rw [hd4.2 _ hpq h1]; exact h2, h3, fun hno => h4 fun hin => hno ?_⟩
          rw [List.map_append, List.map_cons, List.mem_append, List.mem_cons] at hin
          rw [List.map_append, List.mem_append]
          rcases hin with h | h | h
          · exact .inl h
          · exfalso
            simp at h
            have e2 := nodup_map_inj hNb.kd hp2 hp h
            exact hpq (by rw [e2])
          · exact .inr h
    · rintro fr s2 ⟨F3, -, -, hMd, hMl, hK2, hbx⟩
      simp only [ak]
      have hnl : ∀ v, (us (nearF g.es v)).length = (nbH v H).length := fun v => by
        rw [List.length_map, ← hHH]; exact (srt_perm _).length_eq
      (repeat' (first | refine awp_seq ?_ | refine awp_block ?_ | ((first | refine awp_skip ?_ | refine awp_exit ?_); simp only [ak, reduceIte]) | (refine awp_ret ?_; simp only [ak, reduceIte]; simp [F3]) | (refine awp_cond ?_; simp [F3]; (try with_reducible refine ⟨?_, ?_⟩) <;> (try with_reducible intro hc) <;> try (exfalso; omega)) | ((first | (refine w_e [] ?_; intro J hJ; simp only []) | (refine w_q ?_; intro J hJ) | refine e_go ?_); simp [F3]; (repeat refine ca ?_); (try ((try with_reducible refine ⟨?_, ?_⟩) <;> (try with_reducible intro hnil) <;> refine hJ _ _ ?_ <;> clear hJ J <;> simp only [ak, reduceIte] <;> try subst hnil)))))
      refine ⟨hM1, by omega, hK2.set hM1 _, L.map fun p => ([p.1], p.2, us (nearF g.es p.1)), ?_, ?_, ?_, L.map (·.1), hNb.kd, ?_, ?_⟩
      · congr 1
        rw [rowsM, List.map_map, entM]
        refine List.map_congr_left fun p _ => ?_
        simp only [Function.comp, hnl]
      · intro a q b hin
        obtain ⟨p, hp, he⟩ := List.mem_map.1 hin
        injection he with e1 e2
        injection e2 with e2 e3
        subst e1 e2 e3
        obtain ⟨h1, c, h2, h3, h4⟩ := hbx p hp
        have h5 : ¬ p.2 = M := fun h => by rw [h, hMd] at h2; cases h2
        rw [if_neg h5]
        refine ⟨(hNb.bx p hp).1, ?_⟩
        rw [h2, srt_of h3 (h4 (by simp)), ← hHH]; rfl
      · have := hNb.nd
        rw [List.map_map]; exact this
      · intro v
        exact hNb.all v
      · rw [List.map_map, List.map_map]; rfl
  have hd := eds_drop (sE g.es) k hlt
  have hw := nat_add_one k (by omega)
  have hk3 : k * 3 < (sE g.es).length * 3 := by omega
  have htk1 : (sE g.es).take (k + 1) = (sE g.es).take k ++ [(sE g.es).getD k ed0] := by
    rw [List.getD_eq_getElem?_getD, List.getElem?_eq_getElem hlt]; exact List.take_succ_eq_append_getElem hlt
  have hEl : (hfs ((sE g.es).take k)).length ≤ 2000 := by rw [hfs_len, List.length_take]; omega
  generalize (sE g.es).getD k ed0 = x at *
  have hH2 : hfs ((sE g.es).take (k + 1)) = hfs ((sE g.es).take k) ++ [(x.a, x.b)] ++ [(x.b, x.a)] := by rw [htk1, hfs_snoc]
  obtain ⟨id, a, b⟩ := x
  simp only at hd hH2
  generalize hfs ((sE g.es).take k) = H at *
  have b0 : ¬ s.next = M := by omega
  (repeat' (first | refine awp_seq ?_ | refine awp_block ?_ | ((first | refine awp_skip ?_ | refine awp_exit ?_); simp only [ak, reduceIte]) | (refine awp_ret ?_; simp only [ak, reduceIte]; simp [f17, f18, f19, hlt, hd, hel, hk3]) | (refine awp_cond ?_; simp [f17, f18, f19, hlt, hd, hel, hk3]; (try with_reducible refine ⟨?_, ?_⟩) <;> (try with_reducible intro hc) <;> try (exfalso; omega)) | ((first | (refine w_e [] ?_; intro J hJ; simp only []) | (refine w_q ?_; intro J hJ) | refine e_go ?_); simp [f17, f18, f19, hlt, hd, hel, hk3]; (repeat refine ca ?_); (try ((try with_reducible refine ⟨?_, ?_⟩) <;> (try with_reducible intro hnil) <;> refine hJ _ _ ?_ <;> clear hJ J <;> simp only [ak, reduceIte] <;> try subst hnil)))))
  refine awp_weakB (fun f s' => NrI st (sE g.es) M k H f s' ∧ f 7 = .pt s.next 0 ∧ s.next < s'.next ∧ s'.H s.next = .box 43 3 [u id, u a, u b]) ?_ ?_
  · exact ⟨⟨by simp [f3], by simp [f17], by simp [f18], by simp [f19], hM1, by simp; omega, hkp.trans (Keeps.new _ _), L, hNb.keeps (Keeps.new _ _) hM2⟩, by simp, by simp, by simp⟩
  generalize s.next = X at *
  clear hNb hkp hM1 hM2 f19 f18 f17 f3 L
  rintro fr s ⟨⟨f3, f17, f18, f19, hM1, hM2, hkp, L, hNb⟩, f7, hXl, hX⟩
  refine awp_cut1 (fun f s' => NrI st (sE g.es) M k (H ++ [(a, b)]) f s' ∧ f 7 = .pt X 0 ∧ X < s'.next ∧ s'.H X = .box 43 3 [u id, u a, u b]) ?_ ?_
  · clear hJJ
    have hMl := hNb.hm
    have x1 : ¬ X = M := box_ne hX hMl (by simp)
    have x2 : ¬ M = X := fun h => x1 h.symm
    have x3 : ¬ X = s.next := by omega
    have x4 : ¬ X = s.next + 1 := by omega
    have y3 : ¬ M = s.next := by omega
    have y4 : ¬ M = s.next + 1 := by omega
    have y5 : ¬ s.next = M := by omega
    have y6 : ¬ s.next + 1 = M := by omega
    have hnl := nbH_len a (H)
    by_cases hin : a ∈ L.map (·.1)
    · obtain ⟨p, hp, rfl⟩ := List.mem_map.1 hin
      obtain ⟨v, q⟩ := p
      obtain ⟨L1, L2, rfl⟩ := List.append_of_mem hp
      have kd := hNb.kd
      rw [List.map_append, List.map_cons, List.nodup_append] at kd
      have hget := entM_some (H := H) (q := q) (L1 := L1) (L2 := L2) (v := v) (fun e => kd.2.2 v e v (by simp) rfl)
      obtain ⟨q1, q2, q3⟩ := hNb.bx (v, q) (by simp)
      simp only at q1 q2 q3 hnl
      have z1 : ¬ q = M := box_ne q3 hMl (by simp)
      have z2 : ¬ q = s.next := by omega
      have z3 : ¬ q = s.next + 1 := by omega
      have z4 : ¬ X = q := box_ne hX q3 (by simp)
      have z5 : ¬ M = q := fun h => z1 h.symm
      have z6 : List.take (nbH v (H)).length (us (nbH v (H))) = us (nbH v (H)) := List.take_of_length_le (by simp)
      have put := hNb.put (b := b) (q' := s.next + 1) (s' := (((s.new (.own 41 1 1)).set q .dead).new (.box 41 1 (us (nbH v (H) ++ [b])))).set M (.map false [.u32] (mset (entM (H) (L1 ++ (v, q) :: L2)) [v] (.ms (s.next + 1) 0 (nbH v (H) ++ [b]).length)))) ⟨by omega, by omega, by simp⟩ (by simp) (by (repeat (first | rw [new_H, if_neg (α := LObj) (by (try simp only [set_next, new_next]); omega)] | rw [set_H, if_neg (α := LObj) (by omega)] | rw [new_H, if_pos (α := LObj) (by (try simp only [set_next, new_next]))] | rw [set_H, if_pos (α := LObj) (by omega)]))) (fun p hp h1 h2 => by
        have := hNb.bx p (by rcases hp with hp | hp <;> simp [hp])
        have h3 : ¬ p.2 = M := box_ne this.2.2 hMl (by simp)
        (repeat (first | rw [new_H, if_neg (α := LObj) (by (try simp only [set_next, new_next]); omega)] | rw [set_H, if_neg (α := LObj) (by omega)] | rw [new_H, if_pos (α := LObj) (by (try simp only [set_next, new_next]))] | rw [set_H, if_pos (α := LObj) (by omega)]))) (by simp; omega)
      generalize hF : nbH v (H) = F at *
      generalize hN : entM (H) (L1 ++ (v, q) :: L2) = EM at *
      (refine w_s [33] [X, M] [(0, true), (1, true), (2, true), (3, true), (4, true), (5, true), (6, true), (7, true), (8, true), (9, true), (10, true), (11, false)] ?_; intro J hJ; simp [f3, f7, hX, hMl, x1, x2, x3, x4, y3, y4, y5, y6, hget, q3, z1, z2, z3, z4, z5, z6]; (repeat refine ca ?_); (try ((try with_reducible refine ⟨?_, ?_⟩) <;> (try with_reducible intro hnil) <;> refine hJ _ _ ?_ <;> clear hJ J <;> simp only [ak, reduceIte] <;> try subst hnil)))
      refine ⟨by trivial, ⟨by simp [f3], by simp [f17], by simp [f18], by simp [f19], hM1, by simp; omega, ?_, L1 ++ (v, s.next + 1) :: L2, ?_⟩, by simp [f7], by simp; omega, ?_⟩
      · refine ⟨by have := hkp.next; simp; omega, fun l hl => ?_⟩
        have := hkp.next
        (repeat (first | rw [new_H, if_neg (α := LObj) (by (try simp only [set_next, new_next]); omega)] | rw [set_H, if_neg (α := LObj) (by omega)] | rw [new_H, if_pos (α := LObj) (by (try simp only [set_next, new_next]))] | rw [set_H, if_pos (α := LObj) (by omega)])); exact hkp.H l hl
      · simpa using put
      · (repeat (first | rw [new_H, if_neg (α := LObj) (by (try simp only [set_next, new_next]); omega)] | rw [set_H, if_neg (α := LObj) (by omega)] | rw [new_H, if_pos (α := LObj) (by (try simp only [set_next, new_next]))] | rw [set_H, if_pos (α := LObj) (by omega)])); exact hX
    · have hget := entM_none (H := H) hin
      have hnil : nbH a (H) = [] := by
        cases hc : nbH a (H) with
        | nil => rfl
        | cons _ _ => exact absurd ((hNb.all _).1 (by rw [hc]; simp)) hin
      have put := hNb.add (a := a) (b := b) (q' := s.next + 1) (s' := ((s.new (.own 41 1 1)).new (.box 41 1 (us (nbH a (H) ++ [b])))).set M (.map false [.u32] (mset (entM (H) L) [a] (.ms (s.next + 1) 0 (nbH a (H) ++ [b]).length)))) hin ⟨by omega, by omega, by simp⟩ (by simp) (by (repeat (first | rw [new_H, if_neg (α := LObj) (by (try simp only [set_next, new_next]); omega)] | rw [set_H, if_neg (α := LObj) (by omega)] | rw [new_H, if_pos (α := LObj) (by (try simp only [set_next, new_next]))] | rw [set_H, if_pos (α := LObj) (by omega)]))) (fun p hp => by
        have := hNb.bx p hp
        have h3 : ¬ p.2 = M := box_ne this.2.2 hMl (by simp)
        (repeat (first | rw [new_H, if_neg (α := LObj) (by (try simp only [set_next, new_next]); omega)] | rw [set_H, if_neg (α := LObj) (by omega)] | rw [new_H, if_pos (α := LObj) (by (try simp only [set_next, new_next]))] | rw [set_H, if_pos (α := LObj) (by omega)]))) (by simp only [set_next, new_next]; omega)
      rw [hnil] at put
      generalize hN : entM (H) L = EM at *
      (refine w_s [33] [X, M] [(0, true), (1, true), (2, true), (3, true), (4, true), (5, true), (6, true), (7, true), (8, true), (9, true), (10, true), (11, false)] ?_; intro J hJ; simp [f3, f7, hX, hMl, x1, x2, x3, x4, y3, y4, y5, y6, hget]; (repeat refine ca ?_); (try ((try with_reducible refine ⟨?_, ?_⟩) <;> (try with_reducible intro hnil) <;> refine hJ _ _ ?_ <;> clear hJ J <;> simp only [ak, reduceIte] <;> try subst hnil)))
      refine ⟨by trivial, ⟨by simp [f3], by simp [f17], by simp [f18], by simp [f19], hM1, by simp; omega, ?_, L ++ [(a, s.next + 1)], ?_⟩, by simp [f7], by simp; omega, ?_⟩
      · refine ⟨by have := hkp.next; simp; omega, fun l hl => ?_⟩
        have := hkp.next
        (repeat (first | rw [new_H, if_neg (α := LObj) (by (try simp only [set_next, new_next]); omega)] | rw [set_H, if_neg (α := LObj) (by omega)] | rw [new_H, if_pos (α := LObj) (by (try simp only [set_next, new_next]))] | rw [set_H, if_pos (α := LObj) (by omega)])); exact hkp.H l hl
      · simpa using put
      · (repeat (first | rw [new_H, if_neg (α := LObj) (by (try simp only [set_next, new_next]); omega)] | rw [set_H, if_neg (α := LObj) (by omega)] | rw [new_H, if_pos (α := LObj) (by (try simp only [set_next, new_next]))] | rw [set_H, if_pos (α := LObj) (by omega)])); exact hX
  clear hNb hkp hM1 hM2 f19 f18 f17 f3 f7 hXl hX L
  rintro fr s ⟨⟨f3, f17, f18, f19, hM1, hM2, hkp, L, hNb⟩, f7, hXl, hX⟩
  have hEl2 : (H ++ [(a, b)]).length ≤ 2001 := by rw [List.length_append]; simp only [List.length_cons, List.length_nil]; omega
  generalize H ++ [(a, b)] = H2 at *
  refine awp_cutB (fun f s' => NrI st (sE g.es) M k (H2 ++ [(b, a)]) f s' ∧ f 7 = .pt X 0 ∧ X < s'.next ∧ s'.H X = .box 43 3 [u id, u a, u b]) ?_ ?_
  · clear hJJ
    have hMl := hNb.hm
    have x1 : ¬ X = M := box_ne hX hMl (by simp)
    have x2 : ¬ M = X := fun h => x1 h.symm
    have x3 : ¬ X = s.next := by omega
    have x4 : ¬ X = s.next + 1 := by omega
    have y3 : ¬ M = s.next := by omega
    have y4 : ¬ M = s.next + 1 := by omega
    have y5 : ¬ s.next = M := by omega
    have y6 : ¬ s.next + 1 = M := by omega
    have hnl := nbH_len b (H2)
    by_cases hin : b ∈ L.map (·.1)
    · obtain ⟨p, hp, rfl⟩ := List.mem_map.1 hin
      obtain ⟨v, q⟩ := p
      obtain ⟨L1, L2, rfl⟩ := List.append_of_mem hp
      have kd := hNb.kd
      rw [List.map_append, List.map_cons, List.nodup_append] at kd
      have hget := entM_some (H := H2) (q := q) (L1 := L1) (L2 := L2) (v := v) (fun e => kd.2.2 v e v (by simp) rfl)
      obtain ⟨q1, q2, q3⟩ := hNb.bx (v, q) (by simp)
      simp only at q1 q2 q3 hnl
      have z1 : ¬ q = M := box_ne q3 hMl (by simp)
      have z2 : ¬ q = s.next := by omega
      have z3 : ¬ q = s.next + 1 := by omega
      have z4 : ¬ X = q := box_ne hX q3 (by simp)
      have z5 : ¬ M = q := fun h => z1 h.symm
      have z6 : List.take (nbH v (H2)).length (us (nbH v (H2))) = us (nbH v (H2)) := List.take_of_length_le (by simp)
      have put := hNb.put (b := a) (q' := s.next + 1) (s' := (((s.new (.own 41 1 1)).set q .dead).new (.box 41 1 (us (nbH v (H2) ++ [a])))).set M (.map false [.u32] (mset (entM (H2) (L1 ++ (v, q) :: L2)) [v] (.ms (s.next + 1) 0 (nbH v (H2) ++ [a]).length)))) ⟨by omega, by omega, by simp⟩ (by simp) (by (repeat (first | rw [new_H, if_neg (α := LObj) (by (try simp only [set_next, new_next]); omega)] | rw [set_H, if_neg (α := LObj) (by omega)] | rw [new_H, if_pos (α := LObj) (by (try simp only [set_next, new_next]))] | rw [set_H, if_pos (α := LObj) (by omega)]))) (fun p hp h1 h2 => by
        have := hNb.bx p (by rcases hp with hp | hp <;> simp [hp])
        have h3 : ¬ p.2 = M := box_ne this.2.2 hMl (by simp)
        (repeat (first | rw [new_H, if_neg (α := LObj) (by (try simp only [set_next, new_next]); omega)] | rw [set_H, if_neg (α := LObj) (by omega)] | rw [new_H, if_pos (α := LObj) (by (try simp only [set_next, new_next]))] | rw [set_H, if_pos (α := LObj) (by omega)]))) (by simp; omega)
      generalize hF : nbH v (H2) = F at *
      generalize hN : entM (H2) (L1 ++ (v, q) :: L2) = EM at *
      (refine w_s [44] [X, M] [(0, true), (1, true), (2, true), (3, true), (4, true), (5, true), (6, true), (7, true), (8, true), (9, true), (10, true), (11, false)] ?_; intro J hJ; simp [f3, f7, hX, hMl, x1, x2, x3, x4, y3, y4, y5, y6, hget, q3, z1, z2, z3, z4, z5, z6]; (repeat refine ca ?_); (try ((try with_reducible refine ⟨?_, ?_⟩) <;> (try with_reducible intro hnil) <;> refine hJ _ _ ?_ <;> clear hJ J <;> simp only [ak, reduceIte] <;> try subst hnil)))
      refine ⟨by trivial, ⟨by simp [f3], by simp [f17], by simp [f18], by simp [f19], hM1, by simp; omega, ?_, L1 ++ (v, s.next + 1) :: L2, ?_⟩, by simp [f7], by simp; omega, ?_⟩
      · refine ⟨by have := hkp.next; simp; omega, fun l hl => ?_⟩
        have := hkp.next
        (repeat (first | rw [new_H, if_neg (α := LObj) (by (try simp only [set_next, new_next]); omega)] | rw [set_H, if_neg (α := LObj) (by omega)] | rw [new_H, if_pos (α := LObj) (by (try simp only [set_next, new_next]))] | rw [set_H, if_pos (α := LObj) (by omega)])); exact hkp.H l hl
      · simpa using put
      · (repeat (first | rw [new_H, if_neg (α := LObj) (by (try simp only [set_next, new_next]); omega)] | rw [set_H, if_neg (α := LObj) (by omega)] | rw [new_H, if_pos (α := LObj) (by (try simp only [set_next, new_next]))] | rw [set_H, if_pos (α := LObj) (by omega)])); exact hX
    · have hget := entM_none (H := H2) hin
      have hnil : nbH b (H2) = [] := by
        cases hc : nbH b (H2) with
        | nil => rfl
        | cons _ _ => exact absurd ((hNb.all _).1 (by rw [hc]; simp)) hin
      have put := hNb.add (a := b) (b := a) (q' := s.next + 1) (s' := ((s.new (.own 41 1 1)).new (.box 41 1 (us (nbH b (H2) ++ [a])))).set M (.map false [.u32] (mset (entM (H2) L) [b] (.ms (s.next + 1) 0 (nbH b (H2) ++ [a]).length)))) hin ⟨by omega, by omega, by simp⟩ (by simp) (by (repeat (first | rw [new_H, if_neg (α := LObj) (by (try simp only [set_next, new_next]); omega)] | rw [set_H, if_neg (α := LObj) (by omega)] | rw [new_H, if_pos (α := LObj) (by (try simp only [set_next, new_next]))] | rw [set_H, if_pos (α := LObj) (by omega)]))) (fun p hp => by
        have := hNb.bx p hp
        have h3 : ¬ p.2 = M := box_ne this.2.2 hMl (by simp)
        (repeat (first | rw [new_H, if_neg (α := LObj) (by (try simp only [set_next, new_next]); omega)] | rw [set_H, if_neg (α := LObj) (by omega)] | rw [new_H, if_pos (α := LObj) (by (try simp only [set_next, new_next]))] | rw [set_H, if_pos (α := LObj) (by omega)]))) (by simp only [set_next, new_next]; omega)
      rw [hnil] at put
      generalize hN : entM (H2) L = EM at *
      (refine w_s [44] [X, M] [(0, true), (1, true), (2, true), (3, true), (4, true), (5, true), (6, true), (7, true), (8, true), (9, true), (10, true), (11, false)] ?_; intro J hJ; simp [f3, f7, hX, hMl, x1, x2, x3, x4, y3, y4, y5, y6, hget]; (repeat refine ca ?_); (try ((try with_reducible refine ⟨?_, ?_⟩) <;> (try with_reducible intro hnil) <;> refine hJ _ _ ?_ <;> clear hJ J <;> simp only [ak, reduceIte] <;> try subst hnil)))
      refine ⟨by trivial, ⟨by simp [f3], by simp [f17], by simp [f18], by simp [f19], hM1, by simp; omega, ?_, L ++ [(b, s.next + 1)], ?_⟩, by simp [f7], by simp; omega, ?_⟩
      · refine ⟨by have := hkp.next; simp; omega, fun l hl => ?_⟩
        have := hkp.next
        (repeat (first | rw [new_H, if_neg (α := LObj) (by (try simp only [set_next, new_next]); omega)] | rw [set_H, if_neg (α := LObj) (by omega)] | rw [new_H, if_pos (α := LObj) (by (try simp only [set_next, new_next]))] | rw [set_H, if_pos (α := LObj) (by omega)])); exact hkp.H l hl
      · simpa using put
      · (repeat (first | rw [new_H, if_neg (α := LObj) (by (try simp only [set_next, new_next]); omega)] | rw [set_H, if_neg (α := LObj) (by omega)] | rw [new_H, if_pos (α := LObj) (by (try simp only [set_next, new_next]))] | rw [set_H, if_pos (α := LObj) (by omega)])); exact hX
  clear hNb hkp hM1 hM2 f19 f18 f17 f3 f7 hXl hX L
  rintro fr s ⟨⟨f3, f17, f18, f19, hM1, hM2, hkp, L, hNb⟩, f7, hXl, hX⟩
  simp only [ak]
  (repeat' (first | refine awp_seq ?_ | refine awp_block ?_ | ((first | refine awp_skip ?_ | refine awp_exit ?_); simp only [ak, reduceIte]) | (refine awp_ret ?_; simp only [ak, reduceIte]; simp [f19, hw]) | (refine awp_cond ?_; simp [f19, hw]; (try with_reducible refine ⟨?_, ?_⟩) <;> (try with_reducible intro hc) <;> try (exfalso; omega)) | ((first | (refine w_e [] ?_; intro J hJ; simp only []) | (refine w_q ?_; intro J hJ) | refine e_go ?_); simp [f19, hw]; (repeat refine ca ?_); (try ((try with_reducible refine ⟨?_, ?_⟩) <;> (try with_reducible intro hnil) <;> refine hJ _ _ ?_ <;> clear hJ J <;> simp only [ak, reduceIte] <;> try subst hnil)))))
  exact hJJ ((sE g.es).length - (k + 1)) _ _ (by omega) ⟨k + 1, by omega, rfl, by simp [f3], by simp [f17], by simp [f18], by simp, hM1, hM2, hkp, L, by rw [hH2]; exact hNb⟩

/-- A row's numbers, or none. -/
def nbLV (es : List Ed) (v : Int) : Option LV := if nearF es v = [] then none else some (.sl 0 (nearF es v).length (us (nearF es v)))
theorem rowsV_get {es : List Ed} (v : Int) : ∀ {K : List Int}, mget (K.map fun v => (([v], .sl 0 (nearF es v).length (us (nearF es v))) : List Int × LV)) [v] = if v ∈ K then some (.sl 0 (nearF es v).length (us (nearF es v))) else none
  | [] => rfl
  | k :: K => by
    simp only [List.map_cons, mget]
    by_cases h : v = k
    · subst h; simp
    · have h' : ¬ ([v] == [k]) = true := by simpa using h
      rw [if_neg h', rowsV_get v (K := K)]
      simp [h]
/-- nearby: a map of the near ones of each vertex that has some. -/
theorem nearby (g : Gr) (st : St) (hv : g.vs.length ≤ 1048576) (he : g.es.length ≤ 1000) (hp : 0 < st.next) :
    ACalls Tryz.prog 86 [.ag (grL g)] st fun r st' => ∃ m es, r = .mp m ∧ st.next ≤ m ∧ m < st'.next ∧ Keeps st st' ∧ st'.H m = .map false [.u32] es ∧ ∀ v, mget es [v] = nbLV g.es v := by
  refine (acalls_mapRows (R := fun L => ∃ K : List Int, K.Nodup ∧ (∀ v, nbH v (hfs (sE g.es)) ≠ [] ↔ v ∈ K) ∧ L.map (fun p => (p.1, p.2.2)) = K.map fun v => ([v], us (nearF g.es v))) (nearbyM g st hv he hp)).mono ?_
  rintro r st' ⟨m, L, rfl, h1, h2, h3, h4, K, hK, hall, hL⟩
  refine ⟨m, _, rfl, h1, h2, h3, h4, fun v => ?_⟩
  have e : rowsV L = K.map fun v => ([v], .sl 0 (nearF g.es v).length (us (nearF g.es v))) := by
    have e1 : rowsV L = (L.map fun p => (p.1, p.2.2)).map fun p => (p.1, LV.sl 0 p.2.length p.2) := by rw [List.map_map]; rfl
    rw [e1, hL, List.map_map]
    refine List.map_congr_left fun v _ => ?_
    simp
  rw [e, rowsV_get]
  unfold nbLV
  have hn : nearF g.es v = [] ↔ nbH v (hfs (sE g.es)) = [] := by
    have := (srt_perm (nbH v (hfs (sE g.es)))).length_eq
    unfold nearF
    constructor
    · intro h; rw [h] at this; exact List.eq_nil_of_length_eq_zero this.symm
    · intro h; rw [h]; rfl
  by_cases hv : v ∈ K
  · rw [if_pos hv, if_neg (fun h => (hall v).2 hv (hn.1 h))]
  · rw [if_neg hv]
    split
    · rfl
    · rename_i h
      exact absurd ((hall v).1 fun h2 => h (hn.2 h2)) hv

theorem Near (g : Gr) (v : Int) (st : St) (hv : g.vs.length ≤ 1048576) (he : g.es.length ≤ 1000) :
    ACalls Tryz.prog 34 [.ag (grL g), u v] st fun r st' => r = .sl 0 (nearF g.es v).length (us (nearF g.es v)) ∧ Keeps st st' := by
  refine acalls_norm ?_
  refine acalls_of_body tabOk Tryz.func34 rfl rfl Tryz.ntmps34 (rs := [.tmp 4]) rfl (by simp) ?_
  refine awp_posG fun hpos => ?_
  (repeat' (first | refine awp_seq ?_ | refine awp_block ?_ | ((first | refine awp_skip ?_ | refine awp_exit ?_); simp only [ak, reduceIte]) | (refine awp_ret ?_; simp only [ak, reduceIte]; simp []) | (refine awp_cond ?_; simp []; (try with_reducible refine ⟨?_, ?_⟩) <;> (try with_reducible intro hc) <;> try (exfalso; omega)) | ((first | (refine w_e [] ?_; intro J hJ; simp only []) | (refine w_q ?_; intro J hJ) | refine e_go ?_); simp []; (repeat refine ca ?_); (try ((try with_reducible refine ⟨?_, ?_⟩) <;> (try with_reducible intro hnil) <;> refine hJ _ _ ?_ <;> clear hJ J <;> simp only [ak, reduceIte] <;> try subst hnil)))))
  refine callK_ofE (nearby g _ hv he (by simp)) (by simp) ?_; rintro r s1 ⟨m, es, rfl, h1, h2, h3, h4, h5⟩
  have h5 := h5 v
  unfold nbLV at h5
  by_cases hn : nearF g.es v = []
  · rw [if_pos hn] at h5
    (repeat' (first | refine awp_seq ?_ | refine awp_block ?_ | ((first | refine awp_skip ?_ | refine awp_exit ?_); simp only [ak, reduceIte]) | (refine awp_ret ?_; simp only [ak, reduceIte]; simp [h4, h5, hn]) | (refine awp_cond ?_; simp [h4, h5, hn]; (try with_reducible refine ⟨?_, ?_⟩) <;> (try with_reducible intro hc) <;> try (exfalso; omega)) | ((first | (refine w_e [] ?_; intro J hJ; simp only []) | (refine w_q ?_; intro J hJ) | refine e_go ?_); simp [h4, h5, hn]; (repeat refine ca ?_); (try ((try with_reducible refine ⟨?_, ?_⟩) <;> (try with_reducible intro hnil) <;> refine hJ _ _ ?_ <;> clear hJ J <;> simp only [ak, reduceIte] <;> try subst hnil)))))
    exact (Keeps.new _ _).trans h3
  · rw [if_neg hn] at h5
    (repeat' (first | refine awp_seq ?_ | refine awp_block ?_ | ((first | refine awp_skip ?_ | refine awp_exit ?_); simp only [ak, reduceIte]) | (refine awp_ret ?_; simp only [ak, reduceIte]; simp [h4, h5]) | (refine awp_cond ?_; simp [h4, h5]; (try with_reducible refine ⟨?_, ?_⟩) <;> (try with_reducible intro hc) <;> try (exfalso; omega)) | ((first | (refine w_e [] ?_; intro J hJ; simp only []) | (refine w_q ?_; intro J hJ) | refine e_go ?_); simp [h4, h5]; (repeat refine ca ?_); (try ((try with_reducible refine ⟨?_, ?_⟩) <;> (try with_reducible intro hnil) <;> refine hJ _ _ ?_ <;> clear hJ J <;> simp only [ak, reduceIte] <;> try subst hnil)))))
    exact (Keeps.new _ _).trans h3

end Go.Proofs.YtomfeddgeihipaaGreat.Aw

namespace Go.Proofs.YtomfeddgeihipaaGreat.Aw
open Go Go.RowKit Go.Proofs.YtomfeddgeihipaaGreat.Pl
set_option linter.unusedSimpArgs false
set_option linter.unusedVariables false

/-- Who led to whom, in order of finding. -/
abbrev Led := List (Int × Int)
def ledBy (A : Led) (v : Int) : Option Int := match A with
  | [] => none
  | p :: A => if v = p.1 then some p.2 else ledBy A v
theorem ledBy_none {v : Int} : ∀ {A : Led}, v ∉ A.map (·.1) → ledBy A v = none
  | [], _ => rfl
  | p :: A, h => by
    simp only [List.map_cons, List.mem_cons, not_or] at h
    simp only [ledBy]
    rw [if_neg h.1, ledBy_none h.2]
theorem ledBy_some {v : Int} : ∀ {A : Led}, v ∈ A.map (·.1) → ∃ w, ledBy A v = some w
  | [], h => by simp at h
  | p :: A, h => by
    simp only [ledBy]
    by_cases e : v = p.1
    · exact ⟨p.2, by rw [if_pos e]⟩
    · rw [if_neg e]
      simp only [List.map_cons, List.mem_cons] at h
      exact ledBy_some (h.resolve_left e)
theorem ledBy_mem {v w : Int} : ∀ {A : Led}, ledBy A v = some w → (v, w) ∈ A
  | [], h => by simp [ledBy] at h
  | p :: A, h => by
    simp only [ledBy] at h
    split at h
    · rename_i e; injection h with h; subst h; rw [e]; simp
    · exact List.mem_cons_of_mem _ (ledBy_mem h)
structure BF where
  A : Led
  Q : List Int
  hit : Bool
/-- One near vertex looked at. -/
def scan1 (may : Int → Bool) (to v : Int) (S : BF) (u : Int) : BF :=
  if S.hit = true then S else if u ∈ S.A.map (·.1) then S else if u = to then ⟨S.A ++ [(u, v)], S.Q, true⟩ else ⟨S.A ++ [(u, v)], if may u = true then S.Q ++ [u] else S.Q, false⟩
def scanL (may : Int → Bool) (to v : Int) (S : BF) (l : List Int) : BF := l.foldl (scan1 may to v) S
/-- The search: what led where, if it was found. -/
def bfs (near : Int → List Int) (may : Int → Bool) (to : Int) : Nat → Led → List Int → Option (Option Led)
  | _, _, [] => some none
  | 0, _, _ :: _ => none
  | n + 1, A, v :: Q => if (scanL may to v ⟨A, Q, false⟩ (near v)).hit = true then some (some (scanL may to v ⟨A, Q, false⟩ (near v)).A) else bfs near may to n (scanL may to v ⟨A, Q, false⟩ (near v)).A (scanL may to v ⟨A, Q, false⟩ (near v)).Q
/-- The way back. -/
def backF (A : Led) (from' : Int) : Nat → Int → Option (List Int)
  | 0, v => if v = from' then some [] else none
  | n + 1, v => if v = from' then some [] else (backF A from' n ((ledBy A v).getD 0)).map fun l => (ledBy A v).getD 0 :: l
/-- The way from one vertex to another one; none: the strength n is too little. -/
def pathF (vs : List Int) (near : Int → List Int) (may : Int → Bool) (from' to : Int) (n : Nat) : Option (List Int) :=
  if from' ∉ vs ∨ to ∉ vs then some [] else if from' = to then some [from'] else match bfs near may to n [(from', from')] [from'] with
    | some none => some []
    | some (some A) => (backF A from' n to).map fun l => (to :: l).reverse
    | none => none

end Go.Proofs.YtomfeddgeihipaaGreat.Aw

namespace Go.Proofs.YtomfeddgeihipaaGreat.Aw
open Go Go.RowKit Go.Proofs.YtomfeddgeihipaaGreat.Pl
set_option linter.unusedSimpArgs false
set_option linter.unusedVariables false

def clL (A : Led) : List (List Int × LV) := A.map fun p => ([p.1], i p.2)
theorem clL_len (A : Led) : (clL A).length = A.length := by simp [clL]
theorem mget_cl (A : Led) (v : Int) : mget (clL A) [v] = (ledBy A v).map i := by
  induction A with
  | nil => rfl
  | cons p A ih =>
    simp only [clL, List.map_cons, mget, ledBy] at ih ⊢
    by_cases h : v = p.1
    · subst h; simp
    · simp [h, ih]
theorem mset_cl {A : Led} {v w : Int} (h : v ∉ A.map (·.1)) : mset (clL A) [v] (i w) = clL (A ++ [(v, w)]) := by
  induction A with
  | nil => rfl
  | cons p A ih =>
    simp only [List.map_cons, List.mem_cons, not_or] at h
    have ih := ih h.2
    simp only [clL, List.map_cons, List.cons_append, mset] at ih ⊢
    rw [if_neg (by simpa using h.1), ih]
def colF (A : Led) (v : Int) : Int := (ledBy A v).getD 0
theorem mget_col (A : Led) (v : Int) : (mget (clL A) [v]).getD (i 0) = i (colF A v) := by
  rw [mget_cl]; unfold colF; cases ledBy A v <;> rfl
theorem free_ex (col : Int → Int) (l : List Int) : ∃ n, IsFree col l n := by
  by_cases h : ∃ n : Nat, 1 ≤ n ∧ ∀ u ∈ l, col u ≠ n
  · obtain ⟨n, hn⟩ := h
    obtain ⟨m, h1, h2⟩ := least_nat (fun n => 1 ≤ n ∧ ∀ u ∈ l, col u ≠ (n : Nat)) n hn
    refine ⟨m, h1.1, h1.2, fun k hk1 hk2 => Classical.byContradiction fun hno => ?_⟩
    have := h2 k ⟨hk1, fun u hu e => hno ⟨u, hu, e⟩⟩
    omega
  · exfalso
    have := taken_le (col := col) (l := l) (k := l.length + 1) fun m h1 _ => Classical.byContradiction fun hno => h ⟨m, h1, fun u hu e => hno ⟨u, hu, e⟩⟩
    omega
noncomputable def fN (col : Int → Int) (l : List Int) : Nat := Classical.choose (free_ex col l)
theorem fN_spec (col : Int → Int) (l : List Int) : IsFree col l (fN col l) := Classical.choose_spec (free_ex col l)
open Classical in
noncomputable def giveS (near : Int → List Int) (vs : List Int) (A : Led) (v : Int) : Led := if v ∈ A.map (·.1) ∨ v ∉ vs then A else A ++ [(v, (fN (colF A) (near v) : Int))]
noncomputable def giveA (near : Int → List Int) (vs : List Int) (A : Led) (l : List Int) : Led := l.foldl (giveS near vs) A
theorem giveA_snoc (near : Int → List Int) (vs : List Int) (A : Led) (l : List Int) (v : Int) : giveA near vs A (l ++ [v]) = giveS near vs (giveA near vs A l) v := by simp [giveA, List.foldl_append]

set_option maxHeartbeats 1000000 in
theorem Greedy_1 (g : Gr) (A : Led) (l : List Int) (t M qc qg : Nat) (st : St) (hv : g.vs.length ≤ 1000) (he : g.es.length ≤ 400) (hl : l.length ≤ 1000) (hqc : st.H qc = .box 40 1 [.mp M]) (hqg : st.H qg = .box 38 2 (grL g)) (hM : st.H M = .map false [.u32] (clL A)) (b1 : qc < st.next) (b2 : qg < st.next) (b3 : M < st.next) :
    ACalls Tryz.prog 103 [.sl t l.length (us l), .pt qc 0, .pt qg 0] st fun _ st' => st'.H M = .map false [.u32] (clL (giveA (nearF g.es) g.vs A l)) ∧ st.next ≤ st'.next ∧ ∀ x, x < st.next → x ≠ M → st'.H x = st.H x := by
  have c1 : ¬ qc = M := box_ne hqc hM (by simp)
  have c2 : ¬ qg = M := box_ne hqg hM (by simp)
  refine acalls_of_body tabOk Tryz.func103 rfl rfl Tryz.ntmps103 (rs := []) rfl (by simp) ?_
  (repeat' (first | refine awp_seq ?_ | refine awp_block ?_ | ((first | refine awp_skip ?_ | refine awp_exit ?_); simp only [ak, reduceIte]) | (refine awp_ret ?_; simp only [ak, reduceIte]; simp []) | (refine awp_cond ?_; simp []; (try with_reducible refine ⟨?_, ?_⟩) <;> (try with_reducible intro hc) <;> try (exfalso; omega)) | ((first | (refine w_e [] ?_; intro J hJ; simp only []) | (refine w_q ?_; intro J hJ) | refine e_go ?_); simp []; (repeat refine ca ?_); (try ((try with_reducible refine ⟨?_, ?_⟩) <;> (try with_reducible intro hnil) <;> refine hJ _ _ ?_ <;> clear hJ J <;> simp only [ak, reduceIte] <;> try subst hnil)))))
  refine awp_range 10 9 11 35 (l.length) (fun j fr st2 => fr 1 = .pt qc 0 ∧ fr 2 = .pt qg 0 ∧ fr 8 = .sl t l.length (us l) ∧ st2.H M = .map false [.u32] (clL (giveA (nearF g.es) g.vs A (l.take j))) ∧ st.next ≤ st2.next ∧ ∀ x, x < st.next → x ≠ M → st2.H x = st.H x) ?_ ?_ ?_
  · exact ⟨by simp, by simp, by simp, by simpa [giveA] using hM, Nat.le_refl _, fun _ _ _ => rfl⟩
  · rintro j fr s hlt ⟨f1, f2, f8, hMs, hsn, hold⟩ fi fn JO hJO
    have hd := us_drop_getD l j hlt
    have htk : l.take (j + 1) = l.take j ++ [l.getD j 0] := by
      rw [List.getD_eq_getElem?_getD, List.getElem?_eq_getElem hlt]; exact List.take_succ_eq_append_getElem hlt
    rw [htk, giveA_snoc] at hJO
    generalize l.getD j 0 = v at *
    generalize giveA (nearF g.es) g.vs A (l.take j) = B at *
    have hqc2 := (hold qc b1 c1).trans hqc
    have hqg2 := (hold qg b2 c2).trans hqg
    have hmg := mget_cl B v
    by_cases hin : v ∈ B.map (·.1)
    · obtain ⟨w, hw⟩ := ledBy_some hin
      rw [hw] at hmg
      simp only [Option.map_some] at hmg
      have hgv : giveS (nearF g.es) g.vs B v = B := by unfold giveS; rw [if_pos (.inl hin)]
      rw [hgv] at hJO
      (repeat' (first | refine awp_seq ?_ | refine awp_block ?_ | ((first | refine awp_skip ?_ | refine awp_exit ?_); simp only [ak, reduceIte]) | (refine awp_ret ?_; simp only [ak, reduceIte]; simp [f1, f2, f8, fi, fn, hd, hlt, hqc2, hqg2, hMs, hmg]) | (refine awp_cond ?_; simp [f1, f2, f8, fi, fn, hd, hlt, hqc2, hqg2, hMs, hmg]; (try with_reducible refine ⟨?_, ?_⟩) <;> (try with_reducible intro hc) <;> try (exfalso; omega)) | ((first | (refine w_e [] ?_; intro J hJ; simp only []) | (refine w_q ?_; intro J hJ) | refine e_go ?_); simp [f1, f2, f8, fi, fn, hd, hlt, hqc2, hqg2, hMs, hmg]; (repeat refine ca ?_); (try ((try with_reducible refine ⟨?_, ?_⟩) <;> (try with_reducible intro hnil) <;> refine hJ _ _ ?_ <;> clear hJ J <;> simp only [ak, reduceIte] <;> try subst hnil)))))
      exact hJO _ _ (by simp [fi]) (by simp [fn]) ⟨by simp [f1], by simp [f2], by simp [f8], hMs, hsn, hold⟩
    rw [ledBy_none hin] at hmg
    simp only [Option.map_none] at hmg
    (repeat' (first | refine awp_seq ?_ | refine awp_block ?_ | ((first | refine awp_skip ?_ | refine awp_exit ?_); simp only [ak, reduceIte]) | (refine awp_ret ?_; simp only [ak, reduceIte]; simp [f1, f2, f8, fi, fn, hd, hlt, hqc2, hqg2, hMs, hmg]) | (refine awp_cond ?_; simp [f1, f2, f8, fi, fn, hd, hlt, hqc2, hqg2, hMs, hmg]; (try with_reducible refine ⟨?_, ?_⟩) <;> (try with_reducible intro hc) <;> try (exfalso; omega)) | ((first | (refine w_e [] ?_; intro J hJ; simp only []) | (refine w_q ?_; intro J hJ) | refine e_go ?_); simp [f1, f2, f8, fi, fn, hd, hlt, hqc2, hqg2, hMs, hmg]; (repeat refine ca ?_); (try ((try with_reducible refine ⟨?_, ?_⟩) <;> (try with_reducible intro hnil) <;> refine hJ _ _ ?_ <;> clear hJ J <;> simp only [ak, reduceIte] <;> try subst hnil)))))
    refine callK_ofE (Vert g v s (by unfold small; omega)) (by simp) ?_; rintro r s2 ⟨rfl, hk2⟩
    have hn2 := hk2.next
    have hM2 := (hk2.H M (by omega)).trans hMs
    have hqc3 := (hk2.H qc (by omega)).trans hqc2
    have hqg3 := (hk2.H qg (by omega)).trans hqg2
    have hold2 : ∀ x, x < st.next → x ≠ M → s2.H x = st.H x := fun x hx hne => (hk2.H x (by omega)).trans (hold x hx hne)
    have hge0 := gi_neg g.vs v
    by_cases hvin : v ∈ g.vs
    rotate_left
    · have hge2 : ¬ 0 ≤ gi g.vs v := by have := hge0.2 hvin; omega
      have hge : decide (0 ≤ gi g.vs v) = false := decide_eq_false hge2
      have hgv : giveS (nearF g.es) g.vs B v = B := by unfold giveS; rw [if_pos (.inr hvin)]
      rw [hgv] at hJO
      (repeat' (first | refine awp_seq ?_ | refine awp_block ?_ | ((first | refine awp_skip ?_ | refine awp_exit ?_); simp only [ak, reduceIte]) | (refine awp_ret ?_; simp only [ak, reduceIte]; simp [hge, hge2]) | (refine awp_cond ?_; simp [hge, hge2]; (try with_reducible refine ⟨?_, ?_⟩) <;> (try with_reducible intro hc) <;> try (exfalso; omega)) | ((first | (refine w_e [] ?_; intro J hJ; simp only []) | (refine w_q ?_; intro J hJ) | refine e_go ?_); simp [hge, hge2]; (repeat refine ca ?_); (try ((try with_reducible refine ⟨?_, ?_⟩) <;> (try with_reducible intro hnil) <;> refine hJ _ _ ?_ <;> clear hJ J <;> simp only [ak, reduceIte] <;> try subst hnil)))))
      exact hJO _ _ (by simp [fi]) (by simp [fn]) ⟨by simp [f1], by simp [f2], by simp [f8], hM2, by omega, hold2⟩
    have hge2 : 0 ≤ gi g.vs v := by
      by_cases h : gi g.vs v < 0
      · exact absurd hvin (hge0.1 h)
      · omega
    have hge : decide (0 ≤ gi g.vs v) = true := decide_eq_true hge2
    have hgv : giveS (nearF g.es) g.vs B v = B ++ [(v, (fN (colF B) (nearF g.es v) : Int))] := by unfold giveS; rw [if_neg (by rw [not_or]; exact ⟨hin, fun h => h hvin⟩)]
    rw [hgv] at hJO
    (repeat' (first | refine awp_seq ?_ | refine awp_block ?_ | ((first | refine awp_skip ?_ | refine awp_exit ?_); simp only [ak, reduceIte]) | (refine awp_ret ?_; simp only [ak, reduceIte]; simp [hge, hge2]) | (refine awp_cond ?_; simp [hge, hge2]; (try with_reducible refine ⟨?_, ?_⟩) <;> (try with_reducible intro hc) <;> try (exfalso; omega)) | ((first | (refine w_e [] ?_; intro J hJ; simp only []) | (refine w_q ?_; intro J hJ) | refine e_go ?_); simp [hge, hge2]; (repeat refine ca ?_); (try ((try with_reducible refine ⟨?_, ?_⟩) <;> (try with_reducible intro hnil) <;> refine hJ _ _ ?_ <;> clear hJ J <;> simp only [ak, reduceIte] <;> try subst hnil)))))
    (refine w_s [M] [qc, qg] [(0, true), (1, true), (2, true), (3, true), (4, true), (5, true), (6, true), (7, false)] ?_; intro J hJ; simp [f1, f2, hqc3, hqg3, hM2]; (repeat refine ca ?_); (try ((try with_reducible refine ⟨?_, ?_⟩) <;> (try with_reducible intro hnil) <;> refine hJ _ _ ?_ <;> clear hJ J <;> simp only [ak, reduceIte] <;> try subst hnil)))
    refine dcallK_ofE (Near g v s2 (by omega) (by omega)) (by simp) ?_; rintro r s4 ⟨rfl, hk4⟩
    have hn4 := hk4.next
    have hM4 := (hk4.H M (by omega)).trans hM2
    have hqc4 := (hk4.H qc (by omega)).trans hqc3
    have hqg4 := (hk4.H qg (by omega)).trans hqg3
    refine ⟨fun _ => by simp [hqc4, hqg4, hqc3, hqg3], ?_⟩
    (refine d_go ?_; simp [hqc4, hqg4, hqc3, hqg3, hM4]; (repeat refine ca ?_); (try ((try with_reducible refine ⟨?_, ?_⟩) <;> (try with_reducible intro hnil) <;> refine hJ _ _ ?_ <;> clear hJ J <;> simp only [ak, reduceIte] <;> try subst hnil)))
    refine dcallK_ofE (free (nearF g.es v) 0 M (clL B) (colF B) s4 ?_ hM4 fun w _ => mget_col B w) (by simp) ?_
    · have := nearF_len g.es v; omega
    rintro r s5 ⟨⟨n, hn, hnl, rfl⟩, rfl⟩
    refine ⟨fun _ => by simp [hqc4, hqg4, hqc3, hqg3], ?_⟩
    have hnf := hn.unique (fN_spec (colF B) (nearF g.es v))
    (refine d_go ?_; simp [hqc4, hqg4, hqc3, hqg3, hM4, hin]; (repeat refine ca ?_); (try ((try with_reducible refine ⟨?_, ?_⟩) <;> (try with_reducible intro hnil) <;> refine hJ _ _ ?_ <;> clear hJ J <;> simp only [ak, reduceIte] <;> try subst hnil)))
    have e1 : ¬ qc = M := c1
    refine hJO _ _ (by simp [fi]) (by simp [fn]) ⟨by simp [f1], by simp [f2], by simp [f8], ?_, by simp; omega, fun x hx hne => ?_⟩
    · rw [set_H, if_pos rfl, mset_cl hin, hnf]
    · rw [set_H, if_neg hne, hk4.H x (by omega)]; exact hold2 x hx hne
  · rintro fr s ⟨f1, f2, f8, hMs, hsn, hold⟩
    rw [List.take_length] at hMs
    (repeat' (first | refine awp_seq ?_ | refine awp_block ?_ | ((first | refine awp_skip ?_ | refine awp_exit ?_); simp only [ak, reduceIte]) | (refine awp_ret ?_; simp only [ak, reduceIte]; simp []) | (refine awp_cond ?_; simp []; (try with_reducible refine ⟨?_, ?_⟩) <;> (try with_reducible intro hc) <;> try (exfalso; omega)) | ((first | (refine w_e [] ?_; intro J hJ; simp only []) | (refine w_q ?_; intro J hJ) | refine e_go ?_); simp []; (repeat refine ca ?_); (try ((try with_reducible refine ⟨?_, ?_⟩) <;> (try with_reducible intro hnil) <;> refine hJ _ _ ?_ <;> clear hJ J <;> simp only [ak, reduceIte] <;> try subst hnil)))))
    exact ⟨trivial, hMs, hsn, hold⟩

/-- A map of colors, new or the caller's. -/
def ColM (st : St) (A : Led) (r : LV) (st' : St) : Prop := ∃ M, r = .mp M ∧ st.next ≤ M ∧ M < st'.next ∧ st'.H M = .map false [.u32] (clL A) ∧ Keeps st st'

set_option maxHeartbeats 1000000 in
theorem Greedy (g : Gr) (l : List Int) (t : Nat) (st : St) (hv : g.vs.length ≤ 1000) (he : g.es.length ≤ 400) (hl : l.length ≤ 1000) :
    ACalls Tryz.prog 54 [.ag (grL g), .sl t l.length (us l)] st (ColM st (giveA (nearF g.es) g.vs (giveA (nearF g.es) g.vs [] l) g.vs)) := by
  refine acalls_of_body tabOk Tryz.func54 rfl rfl Tryz.ntmps54 (rs := [.tmp 4]) rfl (by simp) ?_
  (repeat' (first | refine awp_seq ?_ | refine awp_block ?_ | ((first | refine awp_skip ?_ | refine awp_exit ?_); simp only [ak, reduceIte]) | (refine awp_ret ?_; simp only [ak, reduceIte]; simp []) | (refine awp_cond ?_; simp []; (try with_reducible refine ⟨?_, ?_⟩) <;> (try with_reducible intro hc) <;> try (exfalso; omega)) | ((first | (refine w_e [] ?_; intro J hJ; simp only []) | (refine w_q ?_; intro J hJ) | refine e_go ?_); simp []; (repeat refine ca ?_); (try ((try with_reducible refine ⟨?_, ?_⟩) <;> (try with_reducible intro hnil) <;> refine hJ _ _ ?_ <;> clear hJ J <;> simp only [ak, reduceIte] <;> try subst hnil)))))
  obtain ⟨s1, hs1⟩ : ∃ s1, s1 = (((st.new (.box 38 2 (grL g))).new (.map false [.u32] [])).new (.box 40 1 [.atom (.map none)])).set (st.next + 1 + 1) (.box 40 1 [.mp (st.next + 1)]) := ⟨_, rfl⟩
  rw [← hs1]
  have hn1 : s1.next = st.next + 3 := by rw [hs1]; simp
  have hqc : s1.H (st.next + 1 + 1) = .box 40 1 [.mp (st.next + 1)] := by rw [hs1]; simp
  have hqg : s1.H st.next = .box 38 2 (grL g) := by rw [hs1]; (repeat (first | rw [new_H, if_neg (α := LObj) (by (try simp only [set_next, new_next]); omega)] | rw [set_H, if_neg (α := LObj) (by omega)] | rw [new_H, if_pos (α := LObj) (by (try simp only [set_next, new_next]))] | rw [set_H, if_pos (α := LObj) (by omega)]))
  have hM : s1.H (st.next + 1) = .map false [.u32] (clL []) := by rw [hs1]; (repeat (first | rw [new_H, if_neg (α := LObj) (by (try simp only [set_next, new_next]); omega)] | rw [set_H, if_neg (α := LObj) (by omega)] | rw [new_H, if_pos (α := LObj) (by (try simp only [set_next, new_next]))] | rw [set_H, if_pos (α := LObj) (by omega)])); rfl
  have hk : Keeps st s1 := by rw [hs1]; exact ((((Keeps.new _ _).trans (Keeps.new _ _)).trans (Keeps.new _ _)).set (by omega) _)
  clear hs1
  refine callK_ofE (Greedy_1 g [] l t (st.next + 1) (st.next + 1 + 1) st.next s1 hv he hl hqc hqg hM (by omega) (by omega) (by omega)) (by simp) ?_; rintro r s2 ⟨hM2, hn2, hold2⟩
  have hqc2 := (hold2 (st.next + 1 + 1) (by omega) (by omega)).trans hqc
  have hqg2 := (hold2 st.next (by omega) (by omega)).trans hqg
  generalize giveA (nearF g.es) g.vs [] l = B at *
  (repeat' (first | refine awp_seq ?_ | refine awp_block ?_ | ((first | refine awp_skip ?_ | refine awp_exit ?_); simp only [ak, reduceIte]) | (refine awp_ret ?_; simp only [ak, reduceIte]; simp [hqg2]) | (refine awp_cond ?_; simp [hqg2]; (try with_reducible refine ⟨?_, ?_⟩) <;> (try with_reducible intro hc) <;> try (exfalso; omega)) | ((first | (refine w_e [] ?_; intro J hJ; simp only []) | (refine w_q ?_; intro J hJ) | refine e_go ?_); simp [hqg2]; (repeat refine ca ?_); (try ((try with_reducible refine ⟨?_, ?_⟩) <;> (try with_reducible intro hnil) <;> refine hJ _ _ ?_ <;> clear hJ J <;> simp only [ak, reduceIte] <;> try subst hnil)))))
  refine callK_ofE (Greedy_1 g B g.vs 0 (st.next + 1) (st.next + 1 + 1) st.next s2 hv he (by omega) hqc2 hqg2 hM2 (by omega) (by omega) (by omega)) (by simp) ?_; rintro r2 s3 ⟨hM3, hn3, hold3⟩
  have hqc3 := (hold3 (st.next + 1 + 1) (by omega) (by omega)).trans hqc2
  (repeat' (first | refine awp_seq ?_ | refine awp_block ?_ | ((first | refine awp_skip ?_ | refine awp_exit ?_); simp only [ak, reduceIte]) | (refine awp_ret ?_; simp only [ak, reduceIte]; simp [hqc3]) | (refine awp_cond ?_; simp [hqc3]; (try with_reducible refine ⟨?_, ?_⟩) <;> (try with_reducible intro hc) <;> try (exfalso; omega)) | ((first | (refine w_e [] ?_; intro J hJ; simp only []) | (refine w_q ?_; intro J hJ) | refine e_go ?_); simp [hqc3]; (repeat refine ca ?_); (try ((try with_reducible refine ⟨?_, ?_⟩) <;> (try with_reducible intro hnil) <;> refine hJ _ _ ?_ <;> clear hJ J <;> simp only [ak, reduceIte] <;> try subst hnil)))))
  exact ⟨st.next + 1, rfl, by omega, by omega, hM3, ⟨by omega, fun x hx => by rw [hold3 x (by omega) (by omega), hold2 x (by omega) (by omega)]; exact hk.H x hx⟩⟩

end Go.Proofs.YtomfeddgeihipaaGreat.Aw

namespace Go.Proofs.YtomfeddgeihipaaGreat.Aw
open Go Go.RowKit Go.Proofs.YtomfeddgeihipaaGreat.Pl
set_option linter.unusedSimpArgs false
set_option linter.unusedVariables false

def fewN (near : Int → List Int) (left : List Int) (v : Int) : Nat := ((near v).filter fun w => decide (w ∈ left)).length
def bstS (near : Int → List Int) (left : List Int) (b v : Int) : Int := if b = 0 ∨ fewN near left v ≤ fewN near left b then v else b
def bst (near : Int → List Int) (left l : List Int) (b : Int) : Int := l.foldl (bstS near left) b
theorem bst_snoc (near : Int → List Int) (left l : List Int) (b v : Int) : bst near left (l ++ [v]) b = bstS near left (bst near left l b) v := by simp [bst, List.foldl_append]
theorem bst_mem (near : Int → List Int) (left : List Int) : ∀ (l : List Int) (b : Int), (b = 0 ∨ b ∈ left) → (∀ v ∈ l, v ∈ left) → bst near left l b = 0 ∨ bst near left l b ∈ left
  | [], b, hb, _ => hb
  | v :: l, b, hb, h => by
    refine bst_mem near left l _ ?_ fun w hw => h w (List.mem_cons_of_mem _ hw)
    unfold bstS
    split
    · exact .inr (h v List.mem_cons_self)
    · exact hb
theorem bst_ne (near : Int → List Int) (left : List Int) : ∀ (l : List Int) (b : Int), (b ≠ 0 ∨ l ≠ []) → (∀ v ∈ l, v ≠ 0) → bst near left l b ≠ 0
  | [], b, hb, _ => by
    rcases hb with hb | hb
    · exact hb
    · exact absurd rfl hb
  | v :: l, b, hb, h => by
    refine bst_ne near left l _ (.inl ?_) fun w hw => h w (List.mem_cons_of_mem _ hw)
    unfold bstS
    split
    · exact h v List.mem_cons_self
    · rename_i hn
      rw [not_or] at hn
      exact hn.1
/-- The first one of them laid ahead changes nothing. -/
theorem bst_head (near : Int → List Int) (left : List Int) (v : Int) (l : List Int) : bst near left (v :: l) v = bst near left (v :: l) 0 := by
  simp only [bst, List.foldl_cons]
  congr 1
  unfold bstS
  simp
def ordF (near : Int → List Int) : Nat → List Int → List Int
  | 0, _ => []
  | n + 1, left => if left = [] then [] else bst near left left 0 :: ordF near n (left.erase (bst near left left 0))
theorem ordF_len (near : Int → List Int) : ∀ (n : Nat) (left : List Int), (ordF near n left).length ≤ n
  | 0, _ => Nat.le_refl _
  | n + 1, left => by
    unfold ordF
    split
    · simp
    · have := ordF_len near n (left.erase (bst near left left 0)); simp; omega

def fwL (left : List Int) (val : Int → Int) : List (List Int × LV) := left.map fun v => ([v], i (val v))
theorem fwL_len (left : List Int) (val : Int → Int) : (fwL left val).length = left.length := by simp [fwL]
theorem mget_fw (val : Int → Int) (v : Int) : ∀ left : List Int, mget (fwL left val) [v] = if v ∈ left then some (i (val v)) else none
  | [] => by simp [fwL, mget]
  | w :: left => by
    have ih := mget_fw val v left
    simp only [fwL, List.map_cons, mget] at ih ⊢
    by_cases h : v = w
    · subst h; simp
    · simp [h, ih]
theorem mset_fw_new {val : Int → Int} {v w : Int} : ∀ {left : List Int}, v ∉ left → mset (fwL left val) [v] (i w) = fwL (left ++ [v]) fun x => if x = v then w else val x
  | [], _ => by simp [fwL, mset]
  | x :: left, h => by
    rw [List.mem_cons, not_or] at h
    have ih := mset_fw_new (val := val) (w := w) h.2
    simp only [fwL, List.map_cons, List.cons_append, mset] at ih ⊢
    rw [if_neg (by simpa using h.1), ih, if_neg (fun e => h.1 e.symm)]
theorem fwL_congr {left : List Int} {a b : Int → Int} (h : ∀ v ∈ left, a v = b v) : fwL left a = fwL left b := List.map_congr_left fun v hv => by rw [h v hv]
theorem mset_fw_old {val : Int → Int} {v w : Int} : ∀ {left : List Int}, left.Nodup → v ∈ left → mset (fwL left val) [v] (i w) = fwL left fun x => if x = v then w else val x
  | [], _, h => by simp at h
  | x :: left, hn, h => by
    rw [List.nodup_cons] at hn
    by_cases hx : v = x
    · subst hx
      have : fwL left val = fwL left fun x => if x = v then w else val x := fwL_congr fun y hy => by
        have hne : ¬ y = v := fun e => hn.1 (by rw [← e]; exact hy)
        rw [if_neg hne]
      simp only [fwL, List.map_cons, mset] at this ⊢
      rw [if_pos (by simp), this]; simp
    · have ih := mset_fw_old (val := val) (w := w) hn.2 ((List.mem_cons.1 h).resolve_left hx)
      simp only [fwL, List.map_cons, mset] at ih ⊢
      rw [if_neg (by simpa using hx), ih, if_neg (fun e => hx e.symm)]
theorem mdel_fw (val : Int → Int) (v : Int) : ∀ left : List Int, mdel (fwL left val) [v] = fwL (left.erase v) val
  | [] => rfl
  | x :: left => by
    have ih := mdel_fw val v left
    simp only [fwL, List.map_cons, mdel] at ih ⊢
    by_cases h : v = x
    · subst h; simp
    · rw [if_neg (by simpa using h), ih, List.erase_cons_tail (by simpa using fun e => h e.symm)]; rfl
/-- Once one is gone, those who have an edge with it have one less. -/
theorem fewN_erase {near : Int → List Int} {left : List Int} (hn : left.Nodup) (hd : ∀ v, (near v).Nodup) (hs : ∀ v w, w ∈ near v ↔ v ∈ near w) {b v : Int} (hb : b ∈ left) : fewN near left v = fewN near (left.erase b) v + if v ∈ near b then 1 else 0 := by
  unfold fewN
  have hmem : ∀ w, w ∈ left.erase b ↔ w ≠ b ∧ w ∈ left := fun w => List.Nodup.mem_erase_iff hn
  have key : ∀ l : List Int, l.Nodup → (l.filter fun w => decide (w ∈ left)).length = (l.filter fun w => decide (w ∈ left.erase b)).length + if b ∈ l then 1 else 0 := by
    intro l
    induction l with
    | nil => intro _; simp
    | cons x l ih =>
      intro hl
      rw [List.nodup_cons] at hl
      have ih := ih hl.2
      by_cases hxb : x = b
      · subst hxb
        have h1 : x ∉ left.erase x := fun h => ((hmem x).1 h).1 rfl
        rw [if_neg hl.1] at ih
        simp [hb, h1, ih]
      · have h1 : x ∈ left.erase b ↔ x ∈ left := by rw [hmem]; simp [hxb]
        have h2 : b ∈ x :: l ↔ b ∈ l := by
          rw [List.mem_cons]
          exact ⟨fun h => h.resolve_left fun e => hxb e.symm, .inr⟩
        by_cases hx : x ∈ left
        · rw [List.filter_cons_of_pos (by simpa using hx), List.filter_cons_of_pos (by simpa using h1.2 hx)]
          simp only [List.length_cons, ih, h2]; omega
        · rw [List.filter_cons_of_neg (by simpa using hx), List.filter_cons_of_neg (by simpa using fun h => hx (h1.1 h)), ih]
          simp only [h2]
  rw [key _ (hd v)]
  congr 1
  by_cases h : b ∈ near v
  · rw [if_pos h, if_pos ((hs v b).1 h)]
  · rw [if_neg h, if_neg fun h2 => h ((hs v b).2 h2)]

end Go.Proofs.YtomfeddgeihipaaGreat.Aw

namespace Go.Proofs.YtomfeddgeihipaaGreat.Aw
open Go Go.RowKit Go.Proofs.YtomfeddgeihipaaGreat.Pl
set_option linter.unusedSimpArgs false
set_option linter.unusedVariables false

inductive IsFo : List Ed → List Ed → List Ed → Prop
  | nil : IsFo [] [] []
  | rest {l I R : List Ed} {x : Ed} (h : IsFo l I R) (k : Reach I x.a x.b) : IsFo (l ++ [x]) I (R ++ [x])
  | join {l I R : List Ed} {x : Ed} (h : IsFo l I R) (k : ¬ Reach I x.a x.b) : IsFo (l ++ [x]) (I ++ [x]) R
theorem IsFo.unique {l I R : List Ed} (h : IsFo l I R) : ∀ {I' R' : List Ed}, IsFo l I' R' → I = I' ∧ R = R' := by
  have key : ∀ {m I' R' : List Ed} {l : List Ed} {x : Ed}, IsFo m I' R' → m = l ++ [x] → ∃ I0 R0, IsFo l I0 R0 ∧ ((Reach I0 x.a x.b ∧ I' = I0 ∧ R' = R0 ++ [x]) ∨ (¬ Reach I0 x.a x.b ∧ I' = I0 ++ [x] ∧ R' = R0)) := by
    intro m I' R' l x hm e
    cases hm with
    | nil => simp at e
    | rest h k =>
      obtain ⟨rfl, e2⟩ := List.append_inj' e rfl
      simp at e2; subst e2
      exact ⟨_, _, h, .inl ⟨k, rfl, rfl⟩⟩
    | join h k =>
      obtain ⟨rfl, e2⟩ := List.append_inj' e rfl
      simp at e2; subst e2
      exact ⟨_, _, h, .inr ⟨k, rfl, rfl⟩⟩
  induction h with
  | nil =>
    intro I' R' k
    generalize he : ([] : List Ed) = m at k
    cases k with
    | nil => exact ⟨rfl, rfl⟩
    | rest => simp at he
    | join => simp at he
  | rest h k ih =>
    intro I' R' k'
    obtain ⟨I0, R0, h0, h1 | h1⟩ := key k' rfl
    · obtain ⟨rfl, rfl⟩ := ih h0
      exact ⟨h1.2.1.symm, h1.2.2.symm⟩
    · obtain ⟨rfl, rfl⟩ := ih h0
      exact absurd k h1.1
  | join h k ih =>
    intro I' R' k'
    obtain ⟨I0, R0, h0, h1 | h1⟩ := key k' rfl
    · obtain ⟨rfl, rfl⟩ := ih h0
      exact absurd h1.1 k
    · obtain ⟨rfl, rfl⟩ := ih h0
      exact ⟨h1.2.1.symm, h1.2.2.symm⟩
theorem IsFo.sub {l I R : List Ed} (h : IsFo l I R) : I.Sublist l ∧ R.Sublist l ∧ ∀ x, x ∈ l ↔ x ∈ I ∨ x ∈ R := by
  induction h with
  | nil => simp
  | rest h k ih =>
    obtain ⟨a, b, c⟩ := ih
    refine ⟨a.trans (List.sublist_append_left _ _), b.append (.refl _), fun y => ?_⟩
    simp only [List.mem_append, c, List.mem_singleton, or_assoc]
  | join h k ih =>
    obtain ⟨a, b, c⟩ := ih
    refine ⟨a.append (.refl _), b.trans (List.sublist_append_left _ _), fun y => ?_⟩
    simp only [List.mem_append, c, List.mem_singleton]
    constructor
    · rintro ((h | h) | h) <;> simp [h]
    · rintro ((h | h) | h) <;> simp [h]

theorem Reach.monoF {es es' : List Ed} {v w : Int} (h : Reach es v w) (hs : ∀ x ∈ es, x ∈ es') : Reach es' v w := by
  induction h with
  | refl => exact .refl
  | step _ hw ih =>
    refine .step ih ?_
    rw [mem_nbr] at hw ⊢
    obtain ⟨x, hx, h⟩ := hw
    exact ⟨x, hs x hx, h⟩
theorem Reach.edge {es : List Ed} {x : Ed} (h : x ∈ es) : Reach es x.a x.b := .step .refl (mem_nbr.2 ⟨x, h, .inl ⟨rfl, rfl⟩⟩)

/-- A forest of parents, its roots, and how far each is at most from its own. -/
structure UF (vs : List Int) (I : List Ed) (U R : Int → Int) (d : Int → Nat) : Prop where
  inU : ∀ v ∈ vs, U v ∈ vs
  inR : ∀ v ∈ vs, R v ∈ vs
  fix : ∀ v ∈ vs, U (R v) = R v
  top : ∀ v ∈ vs, U v = v → R v = v
  up : ∀ v ∈ vs, U v ≠ v → R (U v) = R v ∧ d (U v) < d v
  rel : ∀ v ∈ vs, ∀ w ∈ vs, R v = R w ↔ Reach I v w
theorem UF.start (vs : List Int) : UF vs [] id id fun _ => 0 := by
  refine ⟨fun _ h => h, fun _ h => h, fun _ _ => rfl, fun _ _ _ => rfl, fun _ _ h => absurd rfl h, fun v hv w hw => ?_⟩
  constructor
  · rintro h; simp only [id] at h; subst h; exact .refl
  · intro h
    refine h.closed (L := fun w => id v = id w) rfl fun u _ w hw => ?_
    rw [mem_nbr] at hw
    obtain ⟨x, hx, _⟩ := hw
    simp at hx
theorem UF.join {vs : List Int} {I : List Ed} {U R : Int → Int} {d : Int → Nat} (h : UF vs I U R d) {x : Ed} (ha : x.a ∈ vs) (hb : x.b ∈ vs) (hI : ∀ y ∈ I, y.a ∈ vs ∧ y.b ∈ vs) (hne : R x.a ≠ R x.b) :
    UF vs (I ++ [x]) (fun v => if v = R x.a then R x.b else U v) (fun v => if R v = R x.a then R x.b else R v) (fun v => if R v = R x.a then d v + d (R x.b) + 1 else d v) := by
  have rr : ∀ v ∈ vs, R (R v) = R v := fun v hv => h.top _ (h.inR v hv) (h.fix v hv)
  refine ⟨fun v hv => ?_, fun v hv => ?_, fun v hv => ?_, fun v hv => ?_, fun v hv => ?_, fun v hv w hw => ?_⟩
  · split
    · exact h.inR _ hb
    · exact h.inU v hv
  · split
    · exact h.inR _ hb
    · exact h.inR v hv
  · skip
    by_cases e : R v = R x.a
    · rw [if_pos e, if_neg (fun e2 => hne e2.symm)]; exact h.fix _ hb
    · rw [if_neg e, if_neg e]; exact h.fix v hv
  · skip
    intro e
    by_cases e1 : v = R x.a
    · rw [if_pos e1] at e
      exact absurd (e1 ▸ e) (fun e2 => hne (by rw [← e1, ← e]))
    · rw [if_neg e1] at e
      have e2 := h.top v hv e
      rw [if_neg (by rw [e2]; exact e1)]
      exact e2
  · skip
    by_cases e1 : v = R x.a
    · subst e1
      intro _
      rw [if_pos rfl, rr _ hb, if_neg (fun e2 => hne e2.symm), rr _ ha, if_pos rfl, if_neg (fun e2 => hne e2.symm), if_pos rfl]
      exact ⟨rfl, by omega⟩
    · rw [if_neg e1]
      intro e
      obtain ⟨g1, g2⟩ := h.up v hv e
      rw [g1]
      refine ⟨rfl, ?_⟩
      split <;> omega
  · skip
    have hx : Reach (I ++ [x]) x.a x.b := .edge (by simp)
    have mono : ∀ {v w}, Reach I v w → Reach (I ++ [x]) v w := fun h => h.monoF fun y hy => List.mem_append_left _ hy
    constructor
    · intro e
      by_cases e1 : R v = R x.a <;> by_cases e2 : R w = R x.a
      · exact mono ((h.rel v hv w hw).1 (e1.trans e2.symm))
      · rw [if_pos e1, if_neg e2] at e
        exact (mono ((h.rel v hv _ ha).1 e1)).trans (hx.trans (mono ((h.rel _ hb w hw).1 e)))
      · rw [if_neg e1, if_pos e2] at e
        exact (mono ((h.rel v hv _ hb).1 e)).trans (hx.symm.trans (mono ((h.rel _ ha w hw).1 e2.symm)))
      · rw [if_neg e1, if_neg e2] at e
        exact mono ((h.rel v hv w hw).1 e)
    · intro hr
      have := hr.closed (L := fun w => w ∈ vs ∧ (if R v = R x.a then R x.b else R v) = if R w = R x.a then R x.b else R w) ⟨hv, rfl⟩ (fun u hu w hw => ?_)
      · exact this.2
      · rw [mem_nbr] at hw
        obtain ⟨y, hy, h1⟩ := hw
        have edge : ∀ p q, (p = y.a ∧ q = y.b ∨ p = y.b ∧ q = y.a) → q ∈ vs ∧ (if R p = R x.a then R x.b else R p) = if R q = R x.a then R x.b else R q := by
          intro p q hpq
          rcases List.mem_append.1 hy with hy | hy
          · have hyv := hI y hy
            have hyr := (h.rel _ hyv.1 _ hyv.2).2 (.edge hy)
            rcases hpq with ⟨rfl, rfl⟩ | ⟨rfl, rfl⟩
            · exact ⟨hyv.2, by rw [hyr]⟩
            · exact ⟨hyv.1, by rw [hyr]⟩
          · rw [List.mem_singleton] at hy
            subst hy
            rcases hpq with ⟨rfl, rfl⟩ | ⟨rfl, rfl⟩
            · refine ⟨hb, ?_⟩
              rw [if_pos rfl, if_neg (fun e => hne e.symm)]
            · refine ⟨ha, ?_⟩
              rw [if_pos rfl, if_neg (fun e => hne e.symm)]
        rcases h1 with ⟨h1, h2⟩ | ⟨h1, h2⟩
        · obtain ⟨g1, g2⟩ := edge u w (.inl ⟨h1.symm, h2.symm⟩)
          exact ⟨g1, hu.2.trans g2⟩
        · obtain ⟨g1, g2⟩ := edge u w (.inr ⟨h1.symm, h2.symm⟩)
          exact ⟨g1, hu.2.trans g2⟩

end Go.Proofs.YtomfeddgeihipaaGreat.Aw
