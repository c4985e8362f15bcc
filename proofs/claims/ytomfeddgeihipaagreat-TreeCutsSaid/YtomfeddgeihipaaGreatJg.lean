/- block.Simple: of each bundle one edge, and the bundles. block.nearby: the near ones of each vertex, rising; Near. color.Greedy. block.back: the way back. block.Path: the way from one vertex to another one. tree.Depths: how far each vertex is. Plain: how far each vertex is, by both searches. No program. The document's near vertices; edges beside each other. -/
import Derived.Test.YtomfeddgeihipaaGreatJf
import Derived.Test.YtomfeddgeihipaaGreatAwZ
import Derived.Test.YtomfeddgeihipaaGreatAwFz
import Derived.Test.YtomfeddgeihipaaGreatAwMr4
import Derived.Test.YtomfeddgeihipaaGreatAwRg
namespace Go.Proofs.YtomfeddgeihipaaGreat.Aw
open Go Go.RowKit Go.Proofs.YtomfeddgeihipaaGreat.Pl
set_option linter.unusedSimpArgs false
set_option linter.unusedVariables false

/-- Rows of the call's own: a token, a row. -/
abbrev TR := Nat × List Int
def cellT (p : TR) : LV := .sl p.1 p.2.length (us p.2)
def cellsT (R : List TR) : List LV := R.map cellT
theorem cellsT_len (R : List TR) : (cellsT R).length = R.length := by simp [cellsT]
structure SimB (E : List Ed) (st0 : St) (L2 L4 M te q : Nat) (vs : List Int) (mes : List (List Int × LV)) (R : List TR) (s : St) : Prop where
  h2 : s.H L2 = .box 38 2 [.nil, .nil]
  h4 : s.H L4 = .box 38 2 [.sl 0 vs.length (us vs), .sl te (sE E).length (eds (sE E))]
  ht : s.H te = .own 43 3 (sE E).length
  hM : s.H M = .map true [.u32, .u32] mes
  hq : s.H q = .box 35 1 (cellsT R)
  bn : R.map (·.2) = bnd E
  at' : AtM E mes
  nd : (R.map (·.1)).Nodup
  tk : ∀ p ∈ R, st0.next ≤ p.1 ∧ p.1 < s.next ∧ s.H p.1 = .own 41 1 p.2.length
  b : st0.next ≤ L2 ∧ st0.next ≤ L4 ∧ st0.next ≤ M ∧ st0.next ≤ te ∧ st0.next ≤ q ∧ L2 < s.next ∧ L4 < s.next ∧ M < s.next ∧ te < s.next ∧ q < s.next
  kp : Keeps st0 s
def SimI (g : Gr) (st0 : St) (L2 L4 M k : Nat) (fr : Frm) (s : St) : Prop :=
  fr 2 = .pt L2 0 ∧ fr 4 = .pt L4 0 ∧ fr 6 = .mp M ∧ fr 18 = .sl 0 g.es.length (eds g.es) ∧ fr 19 = i g.es.length ∧ fr 20 = i k ∧
  ∃ te q mes R, fr 5 = .ms q 0 R.length ∧ SimB (g.es.take k) st0 L2 L4 M te q g.vs mes R s

theorem box_ne {st : St} {a b : Nat} {x y : LObj} (ha : st.H a = x) (hb : st.H b = y) (h : x ≠ y) : ¬ a = b := fun e => h (by rw [← ha, e, hb])

theorem z0_edsB (l : List Ed) : z0L (eds l) = eds l := by
  induction l with
  | nil => rfl
  | cons e l ih => simp only [eds, List.flatMap_cons, List.cons_append, List.nil_append, z0L, z0] at ih ⊢; rw [ih]
theorem z0_cellsT (R : List TR) : z0L (cellsT R) = R.map fun p => .sl 0 p.2.length (us p.2) := by
  rw [z0L_map, cellsT, List.map_map]
  refine List.map_congr_left fun p _ => ?_
  simp [cellT, z0]

set_option maxHeartbeats 2000000 in
theorem Simple (g : Gr) (st : St) (hv : g.vs.length ≤ 1048576) (he : g.es.length ≤ 1000) (hp : 0 < st.next) :
    ACalls Tryz.prog 28 [.ag (grL g)] st fun r st' => r = .tu [.ag [.sl 0 g.vs.length (us g.vs), .sl 0 (sE g.es).length (eds (sE g.es))], .sl 0 (bnd g.es).length ((bnd g.es).map fun l => .sl 0 l.length (us l))] ∧ Keeps st st' := by
  refine acalls_z0 ?_
  have hel := eds_length g.es
  refine acalls_of_body tabOk Tryz.func28 rfl rfl Tryz.ntmps28 (rs := [.cell 2 38, .tmp 3]) rfl (by simp) ?_
  (repeat' (first | refine awp_seq ?_ | (refine w_e [] ?_; intro J hJ; simp only []; simp []; (try (refine hJ _ _ ?_; clear hJ J; simp only [ak, reduceIte])))))
  refine callK_ofE (Clone g.vs 0 _ hv) (by simp []) ?_; rintro r st' ⟨rfl, hk1⟩
  have hn1 := hk1.next
  simp only [new_next] at hn1
  have hG1 : st'.H st.next = .box 38 2 (grL g) := by rw [hk1.H _ (by simp <;> omega)]; simp
  have hC1 : st'.H (st.next + 1) = .box 38 2 [.nil, .nil] := by rw [hk1.H _ (by simp)]; simp
  have hkp : Keeps st st' := ((Keeps.new _ _).trans (Keeps.new _ _)).trans hk1
  generalize hL : st' = s1 at *
  have e1 : ¬ st.next = s1.next := by omega
  have e2 : ¬ st.next = s1.next + 1 := by omega
  (repeat' (first | refine awp_seq ?_ | refine awp_block ?_ | ((first | (refine w_e [] ?_; intro J hJ; simp only []) | (refine e_go ?_)); simp [e1, e2, hG1]; (refine hJ _ _ ?_; clear hJ J; simp only [ak, reduceIte]))))
  refine awp_cell s1.next 43 3 (e := 38) (s := 2) [.sl 0 g.vs.length (us g.vs)] [] (by simp) ?_
  refine awp_ownM 5 35 1 (by simp) ?_
  refine awp_loop (fun n fr s => ∃ k : Nat, k ≤ g.es.length ∧ n = g.es.length - k ∧ SimI g st (st.next + 1) s1.next (s1.next + 1) k fr s) g.es.length ?_ ?_
  · refine ⟨0, by omega, by omega, by simp, by simp, by simp, by simp, by simp, by simp, s1.next + 2, s1.next + 3, [], [], by simp, ?_⟩
    have h5 : ¬ st.next = s1.next + 2 := by omega
    have h1 : ¬ st.next + 1 = s1.next := by omega
    refine ⟨by simp [h1, h5, e1, e2, hC1], by simp [sE] <;> omega, by simp [sE], by simp, by simp [cellsT], by simp [bnd, sE], AtM.nil, by simp, by simp, ⟨by omega, by omega, by omega, by omega, by omega, by simp <;> omega, by simp <;> omega, by simp, by simp, by simp⟩, ?_⟩
    exact (((((hkp.trans (Keeps.new _ _)).trans (Keeps.new _ _)).trans (Keeps.new _ _)).set (by omega) _).trans (Keeps.new _ _))
  rintro n fr s ⟨k, hk, rfl, f2, f4, f6, f18, f19, f20, te, q, mes, R, f5, hB⟩ JJ hJJ
  obtain ⟨H2, H4, Ht, HM, Hq, hbn, hat, hnd, htk, ⟨b1, b2, b3, b4, b5, b6, b7, b8, b9, b10⟩, hkps⟩ := hB
  have q24 : ¬ q = s1.next := box_ne Hq H4 (by simp)
  by_cases hlt : k < g.es.length
  rotate_left
  · clear hJJ
    have hk' : k = g.es.length := by omega
    rw [hk', List.take_length] at H4 Ht hbn
    have hbl : (bnd g.es).length = R.length := by rw [← hbn, List.length_map]
    have n1 : ¬ st.next + 1 = q := box_ne H2 Hq (by simp)
    have n2 : ¬ s1.next = q := fun h => q24 h.symm
    have n3 : ¬ s1.next = st.next + 1 := by omega
    have hsl := sE_len g.es
    refine awp_freeze 5 f5 Hq (by simp [cellsT_len]) ?_
    have htk2 : (cellsT R).take (R.length * 1) = cellsT R := List.take_of_length_le (by rw [cellsT_len]; omega)
    rw [htk2]
    (repeat' (first | refine awp_seq ?_ | (refine awp_exit ?_; simp only [ak, reduceIte]) | (refine awp_ret ?_; simp only [ak, reduceIte]; simp [f2, f4, f19, f20, hlt, H4, H2, n1, n2, n3]) | (refine awp_cond ?_; simp [f2, f4, f19, f20, hlt, H4, H2, n1, n2, n3]) | (refine w_e [] ?_; intro J hJ; simp only []; simp [f2, f4, f19, f20, hlt, H4, H2, n1, n2, n3]; (refine hJ _ _ ?_; clear hJ J; simp only [ak, reduceIte]))))
    refine ⟨?_, (hkps.set (by omega) _).set (by omega) _⟩
    rw [hbl, ← hbn]
    simp only [z0, z0L, z0_us, z0_edsB, z0_cellsT, List.map_map]
    rfl
  have hd := eds_drop g.es k hlt
  have hw := nat_add_one k (by omega)
  have hk3 : k * 3 < g.es.length * 3 := by omega
  have htk1 : g.es.take (k + 1) = g.es.take k ++ [g.es.getD k ed0] := by
    rw [List.getD_eq_getElem?_getD, List.getElem?_eq_getElem hlt]; exact List.take_succ_eq_append_getElem hlt
  have hEl : (g.es.take k).length ≤ 1000 := by rw [List.length_take]; omega
  generalize g.es.getD k ed0 = x at *
  generalize hE : g.es.take k = E at *
  obtain ⟨id, a, b⟩ := x
  simp only at hd
  cases hany : (sE E).any (bes ⟨id, a, b⟩)
  · have hm := hat.new ⟨id, a, b⟩ hany
    simp only [kE] at hm
    have hsm : (List.map (fun _ : Ed => 3) (sE E)).sum = (sE E).length * 3 := by
      induction sE E with
      | nil => rfl
      | cons x l ih => simp only [List.map_cons, List.sum_cons, List.length_cons, ih]; omega
    have hsl := sE_len E
    have te0 : ¬ te = 0 := by omega
    have hcl := cellsT_len R
    have hRl : R.length = (sE E).length := by rw [← bnd_len, ← hbn, List.length_map]
    have htR : List.take R.length (cellsT R) = cellsT R := List.take_of_length_le (by omega)
    have hdl : List.drop R.length (cellsT R ++ [LV.nil]) = [.nil] := by rw [← hcl]; exact List.drop_left
    have htl : List.take R.length (cellsT R ++ [LV.nil]) = cellsT R := by rw [← hcl]; exact List.take_left
    have hdl2 : List.drop (R.length + 1) (cellsT R ++ [LV.nil]) = [] := List.drop_eq_nil_of_le (by simp [hcl])
    have hRn : ((R.length : Int)).toNat = R.length := by omega
    have c0 : ¬ s1.next = s.next := by omega
    have c0' : ¬ s.next = s1.next := by omega
    have c1 : ¬ s1.next = s.next + 1 := by omega
    have c1' : ¬ s.next + 1 = s1.next := by omega
    have c2 : ¬ s1.next = s.next + 2 := by omega
    have c2' : ¬ s.next + 2 = s1.next := by omega
    have c3 : ¬ s1.next = s.next + 3 := by omega
    have c3' : ¬ s.next + 3 = s1.next := by omega
    have c4 : ¬ s1.next = s.next + 4 := by omega
    have c4' : ¬ s.next + 4 = s1.next := by omega
    have e0 : ¬ te = s.next := by omega
    have e0' : ¬ s.next = te := by omega
    have e1 : ¬ te = s.next + 1 := by omega
    have e1' : ¬ s.next + 1 = te := by omega
    have e2 : ¬ te = s.next + 2 := by omega
    have e2' : ¬ s.next + 2 = te := by omega
    have e3 : ¬ te = s.next + 3 := by omega
    have e3' : ¬ s.next + 3 = te := by omega
    have e4 : ¬ te = s.next + 4 := by omega
    have e4' : ¬ s.next + 4 = te := by omega
    have d0 : ¬ q = s.next := by omega
    have d0' : ¬ s.next = q := by omega
    have d1 : ¬ q = s.next + 1 := by omega
    have d1' : ¬ s.next + 1 = q := by omega
    have d2 : ¬ q = s.next + 2 := by omega
    have d2' : ¬ s.next + 2 = q := by omega
    have d3 : ¬ q = s.next + 3 := by omega
    have d3' : ¬ s.next + 3 = q := by omega
    have d4 : ¬ q = s.next + 4 := by omega
    have d4' : ¬ s.next + 4 = q := by omega
    have c9 : ¬ s1.next + 1 = s.next := by omega
    have c9' : ¬ s.next = s1.next + 1 := by omega
    have n1 : ¬ te = s1.next := box_ne Ht H4 (by simp)
    have n2 : ¬ te = s1.next + 1 := box_ne Ht HM (by simp)
    have n3 : ¬ q = s1.next + 1 := box_ne Hq HM (by simp)
    have n4 : ¬ q = te := box_ne Hq Ht (by simp)
    have n1' : ¬ s1.next = te := fun h => n1 h.symm
    have n2' : ¬ s1.next + 1 = te := fun h => n2 h.symm
    have n3' : ¬ s1.next + 1 = q := fun h => n3 h.symm
    have n4' : ¬ te = q := fun h => n4 h.symm
    have n5' : ¬ s1.next = q := fun h => q24 h.symm
    have r2 : ¬ s.next = s.next + 1 + 1 := by omega
    have r3 : ¬ s.next = s.next + 1 + 1 + 1 := by omega
    have r4 : ¬ s.next = s.next + 1 + 1 + 1 + 1 := by omega
    have r5 : ¬ s.next = s.next + 1 + 1 + 1 + 1 + 1 := by omega
    have r6 : ¬ s.next = s.next + 1 + 1 + 1 + 1 + 1 + 1 := by omega
    have r7 : ¬ s.next = s.next + 1 + 1 + 1 + 1 + 1 + 1 + 1 := by omega
    have p1 : R.length < R.length + 1 := by omega
    (repeat' (first | refine awp_seq ?_ | refine awp_block ?_ | (refine awp_skip ?_; simp only [ak, reduceIte]) | (refine awp_cond ?_; simp [hcl, htR, hsm, te0, c0, c0', c1, c1', c2, c2', c3, c3', c4, c4', e0, e0', e1, e1', e2, e2', e3, e3', e4, e4', d0, d0', d1, d1', d2, d2', d3, d3', d4, d4', c9, c9', n1, n2, n3, n4, n1', n2', n3', n4', n5', Ht, Hq, q24, f4, f5, f6, f18, f19, f20, hlt, hd, hel, hk3, hw, H4, HM, hm]) | (refine w_e [] ?_; intro J hJ; simp only []; simp [hcl, htR, hsm, te0, c0, c0', c1, c1', c2, c2', c3, c3', c4, c4', e0, e0', e1, e1', e2, e2', e3, e3', e4, e4', d0, d0', d1, d1', d2, d2', d3, d3', d4, d4', c9, c9', n1, n2, n3, n4, n1', n2', n3', n4', n5', Ht, Hq, q24, f4, f5, f6, f18, f19, f20, hlt, hd, hel, hk3, hw, H4, HM, hm]; (repeat refine ca ?_); (refine hJ _ _ ?_; clear hJ J; simp only [ak, reduceIte]))))
    (refine w_s [] [s.next, s.next + 1 + 1 + 1 + 1 + 1] [(0, true), (1, true), (2, true), (3, true), (4, true), (5, true), (6, true), (7, true), (8, true), (9, true), (10, true), (11, false)] ?_; intro J hJ; simp [r2, r3, r4, r5, r6, r7, c0, c0', c1, c1', c2, c2', c3, c3', c4, c4', e0, e0', e1, e1', e2, e2', e3, e3', e4, e4', d0, d0', d1, d1', d2, d2', d3, d3', d4, d4', c9, c9', n1, n2, n3, n4, n1', n2', n3', n4', n5', hcl, htR, hdl, htl, hdl2, p1]; (repeat refine ca ?_); (refine hJ _ _ ?_; clear hJ J; simp only [ak, reduceIte]))
    (repeat' (refine w_e [] ?_; intro J hJ; simp only []; simp [f20, hw]; (refine hJ _ _ ?_; clear hJ J; simp only [ak, reduceIte])))
    have l1 : ¬ st.next + 1 = te := box_ne H2 Ht (by simp)
    have l2 : ¬ st.next + 1 = q := box_ne H2 Hq (by simp)
    obtain ⟨hs, hb⟩ := bnd_new hany
    refine hJJ (g.es.length - (k + 1)) _ _ (by omega) ⟨k + 1, by omega, rfl, by simp [f2], by simp [f4], by simp [f6], by simp [f18], by simp [f19], by simp, s.next + 3, s.next + 5, mset mes (kE ⟨id, a, b⟩) (i (sE E).length), R ++ [(s.next + 7, [id])], by simp, ?_⟩
    rw [htk1]
    refine ⟨?_, ?_, ?_, ?_, ?_, ?_, hat.add hany, ?_, ?_, ?_, ?_⟩
    · (repeat (first | rw [new_H, if_neg (α := LObj) (by (try simp only [set_next, new_next]); omega)] | rw [set_H, if_neg (α := LObj) (by omega)] | rw [new_H, if_pos (α := LObj) (by (try simp only [set_next, new_next]))] | rw [set_H, if_pos (α := LObj) (by omega)])); exact H2
    · (repeat (first | rw [new_H, if_neg (α := LObj) (by (try simp only [set_next, new_next]); omega)] | rw [set_H, if_neg (α := LObj) (by omega)] | rw [new_H, if_pos (α := LObj) (by (try simp only [set_next, new_next]))] | rw [set_H, if_pos (α := LObj) (by omega)])); rw [hs]; simp [eds]
    · (repeat (first | rw [new_H, if_neg (α := LObj) (by (try simp only [set_next, new_next]); omega)] | rw [set_H, if_neg (α := LObj) (by omega)] | rw [new_H, if_pos (α := LObj) (by (try simp only [set_next, new_next]))] | rw [set_H, if_pos (α := LObj) (by omega)])); rw [hs]; simp
    · (repeat (first | rw [new_H, if_neg (α := LObj) (by (try simp only [set_next, new_next]); omega)] | rw [set_H, if_neg (α := LObj) (by omega)] | rw [new_H, if_pos (α := LObj) (by (try simp only [set_next, new_next]))] | rw [set_H, if_pos (α := LObj) (by omega)])); rw [hRl]; rfl
    · (repeat (first | rw [new_H, if_neg (α := LObj) (by (try simp only [set_next, new_next]); omega)] | rw [set_H, if_neg (α := LObj) (by omega)] | rw [new_H, if_pos (α := LObj) (by (try simp only [set_next, new_next]))] | rw [set_H, if_pos (α := LObj) (by omega)])); simp [cellsT, cellT]
    · rw [List.map_append, hbn, hb]; rfl
    · rw [List.map_append, List.nodup_append]
      refine ⟨hnd, by simp, fun x hx y hy => ?_⟩
      obtain ⟨p, hp, rfl⟩ := List.mem_map.1 hx
      simp at hy
      have := (htk p hp).2.1
      omega
    · intro p hp
      rcases List.mem_append.1 hp with hp | hp
      · obtain ⟨h1, h2, h3⟩ := htk p hp
        have t1 : ¬ p.1 = te := box_ne h3 Ht (by simp)
        have t2 : ¬ p.1 = q := box_ne h3 Hq (by simp)
        have t3 : ¬ p.1 = s1.next := box_ne h3 H4 (by simp)
        have t4 : ¬ p.1 = s1.next + 1 := box_ne h3 HM (by simp)
        refine ⟨h1, by simp <;> omega, ?_⟩
        (repeat (first | rw [new_H, if_neg (α := LObj) (by (try simp only [set_next, new_next]); omega)] | rw [set_H, if_neg (α := LObj) (by omega)] | rw [new_H, if_pos (α := LObj) (by (try simp only [set_next, new_next]))] | rw [set_H, if_pos (α := LObj) (by omega)])); exact h3
      · rw [List.mem_singleton] at hp
        subst hp
        refine ⟨by simp <;> omega, by simp, ?_⟩
        (repeat (first | rw [new_H, if_neg (α := LObj) (by (try simp only [set_next, new_next]); omega)] | rw [set_H, if_neg (α := LObj) (by omega)] | rw [new_H, if_pos (α := LObj) (by (try simp only [set_next, new_next]))] | rw [set_H, if_pos (α := LObj) (by omega)])); rfl
    · simp only [set_next, new_next]; omega
    · refine ⟨by have := hkps.next; simp only [set_next, new_next]; omega, fun l hl => ?_⟩
      (repeat (first | rw [new_H, if_neg (α := LObj) (by (try simp only [set_next, new_next]); omega)] | rw [set_H, if_neg (α := LObj) (by omega)] | rw [new_H, if_pos (α := LObj) (by (try simp only [set_next, new_next]))] | rw [set_H, if_pos (α := LObj) (by omega)])); exact hkps.H l hl
  obtain ⟨hs, L1, y, L2, B1, r, B2, hL, hyb, hB0, hBl, hB1, hrl⟩ := bnd_old hany
  have hm := hat.old ⟨id, a, b⟩ L1 y L2 hL hyb
  simp only [kE] at hm
  rw [hB0] at hbn
  obtain ⟨R1, R', rfl, hR1, hR'⟩ := List.map_eq_append_iff.1 hbn
  obtain ⟨p, R2, rfl, hpr, hR2⟩ := List.map_eq_cons_iff.1 hR'
  obtain ⟨t0, r0⟩ := p
  simp only at hpr
  subst hpr
  obtain ⟨hb1, hb2, hb3⟩ := htk (t0, r0) (by simp)
  simp only at hb1 hb2 hb3
  have hR1l : R1.length = L1.length := by rw [← hBl, ← hR1, List.length_map]
  have hcl : (cellsT (R1 ++ (t0, r0) :: R2)).length = R1.length + (R2.length + 1) := by rw [cellsT_len]; simp
  have hRl : (R1 ++ (t0, r0) :: R2).length = R1.length + (R2.length + 1) := by simp
  have hcs : cellsT (R1 ++ (t0, r0) :: R2) = cellsT R1 ++ .sl t0 r0.length (us r0) :: cellsT R2 := by simp [cellsT, cellT]
  have hc1 : (cellsT R1).length = R1.length := cellsT_len R1
  have hdl : List.drop R1.length (cellsT R1 ++ LV.sl t0 r0.length (us r0) :: cellsT R2) = .sl t0 r0.length (us r0) :: cellsT R2 := by rw [← hc1]; exact List.drop_left
  have htl : List.take R1.length (cellsT R1 ++ LV.sl t0 r0.length (us r0) :: cellsT R2) = cellsT R1 := by rw [← hc1]; exact List.take_left
  have hdl2 : List.drop (R1.length + 1) (cellsT R1 ++ LV.sl t0 r0.length (us r0) :: cellsT R2) = cellsT R2 := by
    rw [← hc1, show cellsT R1 ++ LV.sl t0 r0.length (us r0) :: cellsT R2 = (cellsT R1 ++ [LV.sl t0 r0.length (us r0)]) ++ cellsT R2 by simp]
    rw [show (cellsT R1).length + 1 = (cellsT R1 ++ [LV.sl t0 r0.length (us r0)]).length by simp]
    exact List.drop_left
  rw [hRl] at f5
  rw [hcs] at Hq
  rw [← hR1l] at hm
  have t00 : ¬ t0 = 0 := by omega
  have m1 : ¬ s1.next = s.next := by omega
  have m1' : ¬ s.next = s1.next := by omega
  have m2 : ¬ s1.next + 1 = s.next := by omega
  have m2' : ¬ s.next = s1.next + 1 := by omega
  have m5 : ¬ t0 = s.next := by omega
  have m6 : ¬ t0 = s.next + 1 := by omega
  have m6b : ¬ t0 = s.next + 2 := by omega
  have m5' : ¬ s.next = t0 := by omega
  have m6' : ¬ s.next + 1 = t0 := by omega
  have m6b' : ¬ s.next + 2 = t0 := by omega
  have m7 : ¬ q = s.next := by omega
  have m8 : ¬ q = s.next + 1 := by omega
  have m9 : ¬ q = s.next + 2 := by omega
  have m9b : ¬ q = s.next + 3 := by omega
  have n4 : ¬ q = t0 := box_ne Hq hb3 (by simp)
  have r2 : ¬ s.next = s.next + 1 + 1 := by omega
  have r3 : ¬ s.next = s.next + 1 + 1 + 1 := by omega
  have p1 : R1.length < R1.length + (R2.length + 1) := by omega
  have p2 : (R1.length : Int) < (R1.length : Int) + ((R2.length : Int) + 1) := by omega
  have hr1 : r0.length ≤ 1000 := by omega
  (repeat' (first | refine awp_seq ?_ | refine awp_block ?_ | (refine awp_skip ?_; simp only [ak, reduceIte]) | (refine awp_cond ?_; simp [m1, m1', m2, m2', f4, f5, f6, f18, f19, f20, hlt, hd, hel, hk3, hw, HM, hm]) | (refine w_e [] ?_; intro J hJ; simp only []; simp [m1, m1', m2, m2', f4, f5, f6, f18, f19, f20, hlt, hd, hel, hk3, hw, HM, hm]; (refine hJ _ _ ?_; clear hJ J; simp only [ak, reduceIte]))))
  (refine w_s [] [s.next, q] [(0, true), (1, true), (2, true), (3, true), (4, true), (5, true), (6, true), (7, true), (8, true), (9, true), (10, true), (11, false)] ?_; intro J hJ; simp [m1, m1', m2, m2', m5, m6, m6b, m5', m6', m6b', m7, m8, m9, m9b, n4, r2, r3, f5, Hq, hb3, hc1, hdl, htl, hdl2, p1, p2, t00]; (repeat refine ca ?_); (refine hJ _ _ ?_; clear hJ J; simp only [ak, reduceIte]))
  (repeat' (refine w_e [] ?_; intro J hJ; simp only []; simp [f20, hw]; (refine hJ _ _ ?_; clear hJ J; simp only [ak, reduceIte])))
  have l2 : ¬ st.next + 1 = q := box_ne H2 Hq (by simp)
  have l3 : ¬ st.next + 1 = t0 := box_ne H2 hb3 (by simp)
  have l4 : ¬ s1.next = q := fun h => q24 h.symm
  have l5 : ¬ s1.next = t0 := box_ne H4 hb3 (by simp)
  have l6 : ¬ s1.next + 1 = q := box_ne HM Hq (by simp)
  have l7 : ¬ s1.next + 1 = t0 := box_ne HM hb3 (by simp)
  have l8 : ¬ te = q := box_ne Ht Hq (by simp)
  have l9 : ¬ te = t0 := box_ne Ht hb3 (by simp)
  refine hJJ (g.es.length - (k + 1)) _ _ (by omega) ⟨k + 1, by omega, rfl, by simp [f2], by simp [f4], by simp [f6], by simp [f18], by simp [f19], by simp, te, q, mes, R1 ++ (s.next + 3, r0 ++ [id]) :: R2, by simp [f5], ?_⟩
  rw [htk1]
  have hnd' := hnd
  rw [List.map_append, List.map_cons, List.nodup_append, List.nodup_cons] at hnd'
  obtain ⟨nd1, ⟨nd2, nd3⟩, nd4⟩ := hnd'
  refine ⟨?_, ?_, ?_, ?_, ?_, ?_, hat.keep hs, ?_, ?_, ?_, ?_⟩
  · (repeat (first | rw [new_H, if_neg (α := LObj) (by (try simp only [set_next, new_next]); omega)] | rw [set_H, if_neg (α := LObj) (by omega)] | rw [new_H, if_pos (α := LObj) (by (try simp only [set_next, new_next]))] | rw [set_H, if_pos (α := LObj) (by omega)])); exact H2
  · (repeat (first | rw [new_H, if_neg (α := LObj) (by (try simp only [set_next, new_next]); omega)] | rw [set_H, if_neg (α := LObj) (by omega)] | rw [new_H, if_pos (α := LObj) (by (try simp only [set_next, new_next]))] | rw [set_H, if_pos (α := LObj) (by omega)])); rw [hs]; exact H4
  · (repeat (first | rw [new_H, if_neg (α := LObj) (by (try simp only [set_next, new_next]); omega)] | rw [set_H, if_neg (α := LObj) (by omega)] | rw [new_H, if_pos (α := LObj) (by (try simp only [set_next, new_next]))] | rw [set_H, if_pos (α := LObj) (by omega)])); rw [hs]; exact Ht
  · (repeat (first | rw [new_H, if_neg (α := LObj) (by (try simp only [set_next, new_next]); omega)] | rw [set_H, if_neg (α := LObj) (by omega)] | rw [new_H, if_pos (α := LObj) (by (try simp only [set_next, new_next]))] | rw [set_H, if_pos (α := LObj) (by omega)])); exact HM
  · (repeat (first | rw [new_H, if_neg (α := LObj) (by (try simp only [set_next, new_next]); omega)] | rw [set_H, if_neg (α := LObj) (by omega)] | rw [new_H, if_pos (α := LObj) (by (try simp only [set_next, new_next]))] | rw [set_H, if_pos (α := LObj) (by omega)])); simp [cellsT, cellT]
  · rw [hB1, List.map_append, List.map_cons, hR1, hR2]
  · rw [List.map_append, List.map_cons, List.nodup_append, List.nodup_cons]
    have lt1 : ∀ x ∈ R1.map (·.1), x < s.next := fun x hx => by
      obtain ⟨p, hp, rfl⟩ := List.mem_map.1 hx
      exact (htk p (by simp [hp])).2.1
    have lt2 : ∀ x ∈ R2.map (·.1), x < s.next := fun x hx => by
      obtain ⟨p, hp, rfl⟩ := List.mem_map.1 hx
      exact (htk p (by simp [hp])).2.1
    refine ⟨nd1, ⟨fun h => by have := lt2 _ h; omega, nd3⟩, fun x hx y hy => ?_⟩
    rcases List.mem_cons.1 hy with rfl | hy
    · have := lt1 x hx; simp only; omega
    · exact nd4 x hx y (List.mem_cons_of_mem _ hy)
  · intro p hp
    have old : ∀ p, p ∈ R1 ∨ p ∈ R2 → ¬ p.1 = t0 → st.next ≤ p.1 ∧ p.1 < s.next ∧ s.H p.1 = .own 41 1 p.2.length ∧ ¬ p.1 = t0 ∧ ¬ p.1 = q := by
      intro p hp hne
      obtain ⟨h1, h2, h3⟩ := htk p (by rcases hp with hp | hp <;> simp [hp])
      exact ⟨h1, h2, h3, hne, box_ne h3 Hq (by simp)⟩
    have hp' : (p ∈ R1 ∨ p ∈ R2) ∧ ¬ p.1 = t0 ∨ p = (s.next + 3, r0 ++ [id]) := by
      rcases List.mem_append.1 hp with hp | hp
      · exact .inl ⟨.inl hp, nd4 _ (List.mem_map.2 ⟨p, hp, rfl⟩) t0 (by simp)⟩
      · rcases List.mem_cons.1 hp with hp | hp
        · exact .inr hp
        · exact .inl ⟨.inr hp, fun h => nd2 (by rw [← h]; exact List.mem_map.2 ⟨p, hp, rfl⟩)⟩
    rcases hp' with ⟨hp, hne⟩ | rfl
    · obtain ⟨h1, h2, h3, t1, t2⟩ := old p hp hne
      refine ⟨h1, by simp only [set_next, new_next]; omega, ?_⟩
      (repeat (first | rw [new_H, if_neg (α := LObj) (by (try simp only [set_next, new_next]); omega)] | rw [set_H, if_neg (α := LObj) (by omega)] | rw [new_H, if_pos (α := LObj) (by (try simp only [set_next, new_next]))] | rw [set_H, if_pos (α := LObj) (by omega)])); exact h3
    · refine ⟨by simp only; omega, by simp, ?_⟩
      simp only
      (repeat (first | rw [new_H, if_neg (α := LObj) (by (try simp only [set_next, new_next]); omega)] | rw [set_H, if_neg (α := LObj) (by omega)] | rw [new_H, if_pos (α := LObj) (by (try simp only [set_next, new_next]))] | rw [set_H, if_pos (α := LObj) (by omega)])); simp
  · simp only [set_next, new_next]; omega
  · refine ⟨by have := hkps.next; simp only [set_next, new_next]; omega, fun l hl => ?_⟩
    (repeat (first | rw [new_H, if_neg (α := LObj) (by (try simp only [set_next, new_next]); omega)] | rw [set_H, if_neg (α := LObj) (by omega)] | rw [new_H, if_pos (α := LObj) (by (try simp only [set_next, new_next]))] | rw [set_H, if_pos (α := LObj) (by omega)])); exact hkps.H l hl

end Go.Proofs.YtomfeddgeihipaaGreat.Aw

namespace Go.Proofs.YtomfeddgeihipaaGreat.Aw
open Go Go.RowKit Go.Proofs.YtomfeddgeihipaaGreat.Pl
set_option linter.unusedSimpArgs false
set_option linter.unusedVariables false

/-- A vertex, the box of its row. -/
abbrev VB := Int × Nat
def entM (H : List (Int × Int)) (L : List VB) : List (List Int × LV) := L.map fun p => ([p.1], .ms p.2 0 (nbH p.1 H).length)
structure NbM (H : List (Int × Int)) (lo : Nat) (m : Nat) (L : List VB) (s : St) : Prop where
  hm : s.H m = .map false [.u32] (entM H L)
  bx : ∀ p ∈ L, lo ≤ p.2 ∧ p.2 < s.next ∧ s.H p.2 = .box 41 1 (us (nbH p.1 H))
  nd : (L.map (·.2)).Nodup
  kd : (L.map (·.1)).Nodup
  all : ∀ v, nbH v H ≠ [] ↔ v ∈ L.map (·.1)

theorem entM_none {H : List (Int × Int)} {v : Int} : ∀ {L : List VB}, v ∉ L.map (·.1) → mget (entM H L) [v] = none
  | [], _ => rfl
  | p :: L, h => by
    simp only [List.map_cons, List.mem_cons, not_or] at h
    simp only [entM, List.map_cons, mget]
    rw [if_neg (by simpa using h.1)]
    exact entM_none h.2
theorem entM_some {H : List (Int × Int)} {v : Int} {q : Nat} : ∀ {L1 L2 : List VB}, v ∉ L1.map (·.1) → mget (entM H (L1 ++ (v, q) :: L2)) [v] = some (.ms q 0 (nbH v H).length)
  | [], L2, _ => by simp [entM, mget]
  | p :: L1, L2, h => by
    simp only [List.map_cons, List.mem_cons, not_or] at h
    simp only [List.cons_append, entM, List.map_cons, mget]
    rw [if_neg (by simpa using h.1)]
    exact entM_some h.2
theorem entM_set {H H' : List (Int × Int)} {v : Int} {q q' : Nat} : ∀ {L1 L2 : List VB}, v ∉ L1.map (·.1) → v ∉ L2.map (·.1) → (∀ u, u ≠ v → nbH u H' = nbH u H) → mset (entM H (L1 ++ (v, q) :: L2)) [v] (.ms q' 0 (nbH v H').length) = entM H' (L1 ++ (v, q') :: L2)
  | [], L2, _, h2, hn => by
    simp only [List.nil_append, entM, List.map_cons, mset, beq_self_eq_true, if_true]
    congr 1
    refine List.map_congr_left fun p hp => ?_
    rw [hn p.1 (fun e => h2 (by rw [← e]; exact List.mem_map.2 ⟨p, hp, rfl⟩))]
  | p :: L1, L2, h, h2, hn => by
    simp only [List.map_cons, List.mem_cons, not_or] at h
    have ih := entM_set (H := H) (H' := H') (q := q) (q' := q') (L1 := L1) (L2 := L2) h.2 h2 hn
    simp only [List.cons_append, entM, List.map_cons, mset] at ih ⊢
    rw [if_neg (by simpa using h.1), ih, hn p.1 (fun e => h.1 e.symm)]
theorem entM_add {H H' : List (Int × Int)} {v : Int} {q' : Nat} : ∀ {L : List VB}, v ∉ L.map (·.1) → (∀ u, u ≠ v → nbH u H' = nbH u H) → mset (entM H L) [v] (.ms q' 0 (nbH v H').length) = entM H' (L ++ [(v, q')])
  | [], _, _ => rfl
  | p :: L, h, hn => by
    simp only [List.map_cons, List.mem_cons, not_or] at h
    have ih := entM_add (H := H) (H' := H') (q' := q') (L := L) h.2 hn
    simp only [List.cons_append, entM, List.map_cons, mset] at ih ⊢
    rw [if_neg (by simpa using h.1), ih, hn p.1 (fun e => h.1 e.symm)]
theorem nbH_other {H : List (Int × Int)} {a b u : Int} (h : u ≠ a) : nbH u (H ++ [(a, b)]) = nbH u H := by rw [nbH_snoc, if_neg (fun e => h e.symm), List.append_nil]
theorem nbH_this {H : List (Int × Int)} {a b : Int} : nbH a (H ++ [(a, b)]) = nbH a H ++ [b] := by rw [nbH_snoc, if_pos rfl]

/-- A row of which nothing was yet: the map has it behind a new box. -/
theorem NbM.add {H : List (Int × Int)} {lo m : Nat} {L : List VB} {s : St} (h : NbM H lo m L s) {a b : Int} (ha : a ∉ L.map (·.1)) {q' : Nat} {s' : St} (hq : lo ≤ q' ∧ s.next ≤ q' ∧ q' < s'.next)
    (hm : s'.H m = .map false [.u32] (mset (entM H L) [a] (.ms q' 0 (nbH a H ++ [b]).length))) (hb : s'.H q' = .box 41 1 (us (nbH a H ++ [b]))) (ho : ∀ p ∈ L, s'.H p.2 = s.H p.2) (hn : s.next ≤ s'.next) : NbM (H ++ [(a, b)]) lo m (L ++ [(a, q')]) s' := by
  have hoth : ∀ u, u ≠ a → nbH u (H ++ [(a, b)]) = nbH u H := fun u hu => nbH_other hu
  refine ⟨?_, fun p hp => ?_, ?_, ?_, fun v => ?_⟩
  · rw [hm, ← nbH_this, entM_add ha hoth]
  · rcases List.mem_append.1 hp with hp | hp
    · obtain ⟨h1, h2, h3⟩ := h.bx p hp
      exact ⟨h1, by omega, by rw [ho p hp, h3, hoth p.1 (fun e => ha (by rw [← e]; exact List.mem_map.2 ⟨p, hp, rfl⟩))]⟩
    · rw [List.mem_singleton] at hp
      subst hp
      exact ⟨hq.1, hq.2.2, by rw [hb, nbH_this]⟩
  · rw [List.map_append, List.nodup_append]
    refine ⟨h.nd, by simp, fun x hx y hy => ?_⟩
    obtain ⟨p, hp, rfl⟩ := List.mem_map.1 hx
    simp at hy
    have := (h.bx p hp).2.1
    omega
  · rw [List.map_append, List.nodup_append]
    exact ⟨h.kd, by simp, fun x hx y hy => by simp at hy; subst hy; rintro rfl; exact ha hx⟩
  · rw [List.map_append, List.mem_append]
    by_cases hv : v = a
    · subst hv; rw [nbH_this]; simp
    · rw [hoth v hv, h.all v]
      simp [hv]
/-- A row that was there grows. -/
theorem NbM.put {H : List (Int × Int)} {lo m : Nat} {L1 L2 : List VB} {s : St} {a b : Int} {q : Nat} (h : NbM H lo m (L1 ++ (a, q) :: L2) s) {q' : Nat} {s' : St} (hq : lo ≤ q' ∧ s.next ≤ q' ∧ q' < s'.next)
    (hm : s'.H m = .map false [.u32] (mset (entM H (L1 ++ (a, q) :: L2)) [a] (.ms q' 0 (nbH a H ++ [b]).length))) (hb : s'.H q' = .box 41 1 (us (nbH a H ++ [b]))) (ho : ∀ p, p ∈ L1 ∨ p ∈ L2 → p.2 ≠ q → p.2 < s.next → s'.H p.2 = s.H p.2) (hn : s.next ≤ s'.next) : NbM (H ++ [(a, b)]) lo m (L1 ++ (a, q') :: L2) s' := by
  have hoth : ∀ u, u ≠ a → nbH u (H ++ [(a, b)]) = nbH u H := fun u hu => nbH_other hu
  have kd := h.kd
  have nd := h.nd
  rw [List.map_append, List.map_cons, List.nodup_append, List.nodup_cons] at kd nd
  obtain ⟨kd1, ⟨kd2, kd3⟩, kd4⟩ := kd
  obtain ⟨nd1, ⟨nd2, nd3⟩, nd4⟩ := nd
  have ha1 : a ∉ L1.map (·.1) := fun e => kd4 a e a (by simp) rfl
  have hb1 : ∀ p, p ∈ L1 ∨ p ∈ L2 → p.1 ≠ a ∧ p.2 ≠ q ∧ (lo ≤ p.2 ∧ p.2 < s.next ∧ s.H p.2 = .box 41 1 (us (nbH p.1 H))) := by
    intro p hp
    refine ⟨?_, ?_, h.bx p (by rcases hp with hp | hp <;> simp [hp])⟩
    · rcases hp with hp | hp
      · exact fun e => ha1 (by rw [← e]; exact List.mem_map.2 ⟨p, hp, rfl⟩)
      · exact fun e => kd2 (by rw [← e]; exact List.mem_map.2 ⟨p, hp, rfl⟩)
    · rcases hp with hp | hp
      · exact nd4 _ (List.mem_map.2 ⟨p, hp, rfl⟩) q (by simp)
      · exact fun e => nd2 (by rw [← e]; exact List.mem_map.2 ⟨p, hp, rfl⟩)
  refine ⟨?_, fun p hp => ?_, ?_, ?_, fun v => ?_⟩
  · rw [hm, ← nbH_this, entM_set ha1 kd2 hoth]
  · have hp' : (p ∈ L1 ∨ p ∈ L2) ∨ p = (a, q') := by
      rcases List.mem_append.1 hp with hp | hp
      · exact .inl (.inl hp)
      · rcases List.mem_cons.1 hp with hp | hp
        · exact .inr hp
        · exact .inl (.inr hp)
    rcases hp' with hp | rfl
    · obtain ⟨h1, h2, h3, h4, h5⟩ := hb1 p hp
      exact ⟨h3, by omega, by rw [ho p hp h2 h4, h5, hoth p.1 h1]⟩
    · exact ⟨hq.1, hq.2.2, by rw [hb, nbH_this]⟩
  · rw [List.map_append, List.map_cons, List.nodup_append, List.nodup_cons]
    have lt : ∀ p, p ∈ L1 ∨ p ∈ L2 → p.2 < s.next := fun p hp => (hb1 p hp).2.2.2.1
    refine ⟨nd1, ⟨fun e => ?_, nd3⟩, fun x hx y hy => ?_⟩
    · obtain ⟨p, hp, e⟩ := List.mem_map.1 e
      have := lt p (.inr hp); simp only at e; omega
    · rcases List.mem_cons.1 hy with rfl | hy
      · obtain ⟨p, hp, rfl⟩ := List.mem_map.1 hx
        have := lt p (.inl hp); omega
      · exact nd4 x hx y (List.mem_cons_of_mem _ hy)
  · have := h.kd
    rw [List.map_append, List.map_cons] at this ⊢
    exact this
  · by_cases hv : v = a
    · subst hv; rw [nbH_this]; simp
    · rw [hoth v hv, h.all v, List.map_append, List.map_append, List.map_cons, List.map_cons]

theorem nodup_map_inj {α β : Type} {f : α → β} : ∀ {L : List α}, (L.map f).Nodup → ∀ {x y : α}, x ∈ L → y ∈ L → f x = f y → x = y
  | [], _, _, _, hx, _, _ => by simp at hx
  | z :: L, h, x, y, hx, hy, e => by
    simp only [List.map_cons, List.nodup_cons] at h
    rcases List.mem_cons.1 hx with hx' | hx' <;> rcases List.mem_cons.1 hy with hy' | hy'
    · rw [hx', hy']
    · exact absurd (List.mem_map.2 ⟨y, hy', by rw [← e, hx']⟩) h.1
    · exact absurd (List.mem_map.2 ⟨x, hx', by rw [e, hy']⟩) h.1
    · exact nodup_map_inj h.2 hx' hy' e
theorem awp_cutB {P : Program} {N : Nat} {Q : AQ} {k : List AItem} {fr : Frm} {st : St} {x : Code} (I : Frm → St → Prop) (h1 : AWp P N x (AK P N (fun e f s => e = .normal ∧ I f s) []) fr st) (h2 : ∀ fr st, I fr st → AK P N Q k .normal fr st) :
    AWp P N x (AK P N Q k) fr st := by
  refine awp_mono h1 ?_
  rintro e fr' st' ⟨rfl, hI⟩
  exact h2 _ _ hI
theorem awp_weakB {P : Program} {N : Nat} {Q : AQ} {c : Code} {fr : Frm} {st : St} (I : Frm → St → Prop) (h0 : I fr st) (h : ∀ fr st, I fr st → AWp P N c Q fr st) : AWp P N c Q fr st := h _ _ h0
theorem NbM.keeps {H : List (Int × Int)} {lo m : Nat} {L : List VB} {s s' : St} (h : NbM H lo m L s) (k : Keeps s s') (hm : m < s.next) : NbM H lo m L s' :=
  ⟨by rw [k.H m hm]; exact h.hm, fun p hp => by obtain ⟨h1, h2, h3⟩ := h.bx p hp; exact ⟨h1, Nat.lt_of_lt_of_le h2 k.next, by rw [k.H _ h2]; exact h3⟩, h.nd, h.kd, h.all⟩

def SoI (st0 : St) (H : List (Int × Int)) (M : Nat) (L : List VB) (Lr : List (List Int × LV)) (fr : Frm) (s : St) : Prop :=
  fr 3 = .mp M ∧ (Lr.map (·.1)).Nodup ∧ (∀ e ∈ Lr, ∃ p ∈ L, e = ([p.1], .ms p.2 0 (nbH p.1 H).length)) ∧ s.H M = .dead ∧ M < s.next ∧ Keeps st0 s ∧
  ∀ p ∈ L, p.2 < s.next ∧ ∃ c, s.H p.2 = .box 41 1 (us c) ∧ c.Perm (nbH p.1 H) ∧ ([p.1] ∉ Lr.map (·.1) → c.Pairwise (· ≤ ·))

def NrI (st0 : St) (S : List Ed) (M k : Nat) (H : List (Int × Int)) (fr : Frm) (s : St) : Prop :=
  fr 3 = .mp M ∧ fr 17 = .sl 0 S.length (eds S) ∧ fr 18 = i S.length ∧ fr 19 = i k ∧ st0.next ≤ M ∧ M < s.next ∧ Keeps st0 s ∧ ∃ L, NbM H st0.next M L s

set_option maxHeartbeats 2000000 in
theorem nearbyM (g : Gr) (st : St) (hv : g.vs.length ≤ 1048576) (he : g.es.length ≤ 1000) (hp : 0 < st.next) :
    ACalls Tryz.prog 86 [.ag (grL g)] st fun r st' => ∃ m L, r = .mp m ∧ st.next ≤ m ∧ m < st'.next ∧ Keeps st st' ∧ st'.H m = .map false [.u32] (rowsM L) ∧ (∀ p ∈ L, st.next ≤ p.2.1 ∧ st'.H p.2.1 = .box 41 1 p.2.2) ∧ (L.map fun p => p.2.1).Nodup ∧
      ∃ K : List Int, K.Nodup ∧ (∀ v, nbH v (hfs (sE g.es)) ≠ [] ↔ v ∈ K) ∧ L.map (fun p => (p.1, p.2.2)) = K.map fun v => ([v], us (nearF g.es v)) := by
  have hel := eds_length (sE g.es)
  have hsl := sE_len g.es
  refine acalls_of_body tabOk Tryz.func86 rfl rfl Tryz.ntmps86 (rs := [.tmp 2]) rfl (by simp) ?_
  (repeat' (first | refine awp_seq ?_ | (refine w_e [] ?_; intro J hJ; simp only []; simp []; (try (refine hJ _ _ ?_; clear hJ J; simp only [ak, reduceIte])))))
  refine callK_ofE (Simple g _ hv he (by simp)) (by simp) ?_; rintro r s1 ⟨rfl, hk1⟩
  have hn1 := hk1.next
  simp only [new_next] at hn1
  have hkp1 : Keeps st s1 := ((Keeps.new _ _).trans (Keeps.new _ _)).trans hk1
  have hm1 : s1.H (st.next + 1) = .map false [.u32] [] := by rw [hk1.H _ (by simp)]; simp
  have e1 : ¬ st.next + 1 = s1.next := by omega
  generalize hbl : (bnd g.es).length = bl
  generalize hbc : ((bnd g.es).map fun l => LV.sl 0 l.length (us l)) = bc
  (repeat' (first | refine awp_seq ?_ | refine awp_block ?_ | ((first | (refine w_e [] ?_; intro J hJ; simp only []) | (refine e_go ?_)); simp [hel]; (refine hJ _ _ ?_; clear hJ J; simp only [ak, reduceIte]))))
  refine awp_loop (fun n fr s => ∃ k : Nat, k ≤ (sE g.es).length ∧ n = (sE g.es).length - k ∧ NrI st (sE g.es) (st.next + 1) k (hfs ((sE g.es).take k)) fr s) (sE g.es).length ?_ ?_
  · refine ⟨0, by omega, by omega, by simp, by simp, by simp, by simp, by omega, by simp; omega, (hkp1.trans (Keeps.new _ _)), [], ?_⟩
    exact ⟨by simp [e1, hm1, entM], by simp, by simp, by simp, by simp [hfs, nbH]⟩
  rintro n fr s ⟨k, hk, rfl, f3, f17, f18, f19, hM1, hM2, hkp, L, hNb⟩ JJ hJJ
  generalize hMM : st.next + 1 = M at *
  by_cases hlt : k < (sE g.es).length
  rotate_left
  · clear hJJ
    have hk' : k = (sE g.es).length := by omega
    rw [hk', List.take_length] at hNb
    refine awp_seq ?_
    (refine w_e [] ?_; intro J hJ; simp only []; simp [f18, f19, hlt]; (refine hJ _ _ ?_; clear hJ J; simp only [ak, reduceIte]))
    refine awp_seq ?_
    (refine awp_cond ?_; simp [])
    refine awp_exit ?_; simp only [ak, reduceIte]
    have hHl : (hfs (sE g.es)).length ≤ 2000 := by rw [hfs_len]; omega
    generalize hHH : hfs (sE g.es) = H at *
    refine awp_seq ?_
    refine awp_mapRange tabOk [] (SoI st H M L) (by simp [f3]) hNb.hm ?_ ?_ ?_ Tryz.underlying106
    · intro r
      refine ⟨by simp [f3], ?_, ?_, by simp, by simp; omega, hkp.set hM1 _, fun p hp => ?_⟩
      · have := hNb.kd
        rw [entM, List.map_map]
        have e : L.map ((fun x => x.1) ∘ fun p : VB => (([p.1], LV.ms p.2 0 (nbH p.1 H).length) : List Int × LV)) = (L.map (·.1)).map fun v => [v] := by rw [List.map_map]; rfl
        rw [e]
        exact this.map (fun v => [v]) fun a b hab h => hab (by simpa using h)
      · intro e hee
        obtain ⟨p, hp, rfl⟩ := List.mem_map.1 hee
        exact ⟨p, hp, rfl⟩
      · obtain ⟨h1, h2, h3⟩ := hNb.bx p hp
        have h4 : ¬ p.2 = M := box_ne h3 hNb.hm (by simp)
        refine ⟨by simp; exact h2, nbH p.1 H, by rw [set_H, if_neg h4]; exact h3, .refl _, fun h => absurd (List.mem_map.2 ⟨_, List.mem_map.2 ⟨p, hp, rfl⟩, rfl⟩) h⟩
    · rintro r L1 e L2 fr s2 ⟨F3, hnd, hem, hMd, hMl, hK2, hbx⟩ ft J hJ
      obtain ⟨p, hp, rfl⟩ := hem e (by simp)
      obtain ⟨v, q⟩ := p
      obtain ⟨hql, c, hcH, hcp, -⟩ := hbx (v, q) hp
      have hcl : c.length = (nbH v H).length := hcp.length_eq
      have hnl := nbH_len v H
      simp only at hcl hcH hql hcp
      have hsort := SortU c q s2 (by omega) hql hcH
      rw [hcl] at hsort
      refine e_go ?_
      simp [keyV, mkC]
      (repeat' (refine w_e [] ?_; intro J hJ; simp only []; simp []))
      refine callK_ofE (hsort) (by simp []) ?_; rintro r st' ⟨d, hd1, hd2, hd3, hd4⟩
      (repeat' (refine e_go ?_; simp []; (refine hJ _ _ ?_; clear hJ J; simp only [ak, reduceIte])))
      rw [List.map_append, List.map_cons, List.nodup_append, List.nodup_cons] at hnd
      obtain ⟨nd1, ⟨nd2, nd3⟩, nd4⟩ := hnd
      have hMq : ¬ M = q := fun h => by rw [h, hcH] at hMd; cases hMd
      refine hJ _ _ ⟨by simp [F3], ?_, fun e he => hem e (by simp only [List.mem_append, List.mem_cons] at he ⊢; rcases he with h | h; exact .inl h; exact .inr (.inr h)), by rw [hd4.2 M hMq hMl]; exact hMd, Nat.lt_of_lt_of_le hMl hd4.1, ?_, fun p hp2 => ?_⟩ (by simp [ft])
      · rw [List.map_append, List.nodup_append]
        exact ⟨nd1, nd3, fun a ha b hb => nd4 a ha b (List.mem_cons_of_mem _ hb)⟩
      · have hq0 : st.next ≤ q := (hNb.bx (v, q) hp).1
        exact ⟨Nat.le_trans hK2.next hd4.1, fun l hl => by rw [hd4.2 l (by omega) (Nat.lt_of_lt_of_le hl hK2.next)]; exact hK2.H l hl⟩
      · obtain ⟨h1, c2, h2, h3, h4⟩ := hbx p hp2
        by_cases hpq : p.2 = q
        · obtain rfl : p = (v, q) := by
            exact nodup_map_inj hNb.nd hp2 hp hpq
          exact ⟨Nat.lt_of_lt_of_le h1 hd4.1, d, hd1, hd2.trans hcp, fun _ => hd3⟩
        · refine ⟨Nat.lt_of_lt_of_le h1 hd4.1, c2, by rw [hd4.2 _ hpq h1]; exact h2, h3, fun hno => h4 fun hin => hno ?_⟩
          rw [List.map_append, List.map_cons, List.mem_append, List.mem_cons] at hin
          rw [List.map_append, List.mem_append]
          rcases hin with h | h | h
          · exact .inl h
          · exfalso
            simp at h
            have e2 := nodup_map_inj hNb.kd hp2 hp h
            exact hpq (by rw [e2])
          · exact .inr h
    · rintro fr s2 ⟨F3, -, -, hMd, hMl, hK2, hbx⟩
      simp only [ak]
      have hnl : ∀ v, (us (nearF g.es v)).length = (nbH v H).length := fun v => by
        rw [List.length_map, ← hHH]; exact (srt_perm _).length_eq
      (repeat' (first | refine awp_seq ?_ | (refine awp_ret ?_; simp only [ak, reduceIte]; simp [F3]) | (refine w_e [] ?_; intro J hJ; simp only []; simp [F3]; (refine hJ _ _ ?_; clear hJ J; simp only [ak, reduceIte]))))
      refine ⟨hM1, by omega, hK2.set hM1 _, L.map fun p => ([p.1], p.2, us (nearF g.es p.1)), ?_, ?_, ?_, L.map (·.1), hNb.kd, ?_, ?_⟩
      · congr 1
        rw [rowsM, List.map_map, entM]
        refine List.map_congr_left fun p _ => ?_
        simp only [Function.comp, hnl]
      · intro a q b hin
        obtain ⟨p, hp, he⟩ := List.mem_map.1 hin
        injection he with e1 e2
        injection e2 with e2 e3
        subst e1 e2 e3
        obtain ⟨h1, c, h2, h3, h4⟩ := hbx p hp
        have h5 : ¬ p.2 = M := fun h => by rw [h, hMd] at h2; cases h2
        rw [if_neg h5]
        refine ⟨(hNb.bx p hp).1, ?_⟩
        rw [h2, srt_of h3 (h4 (by simp)), ← hHH]; rfl
      · have := hNb.nd
        rw [List.map_map]; exact this
      · intro v
        exact hNb.all v
      · rw [List.map_map, List.map_map]; rfl
  have hd := eds_drop (sE g.es) k hlt
  have hw := nat_add_one k (by omega)
  have hk3 : k * 3 < (sE g.es).length * 3 := by omega
  have htk1 : (sE g.es).take (k + 1) = (sE g.es).take k ++ [(sE g.es).getD k ed0] := by
    rw [List.getD_eq_getElem?_getD, List.getElem?_eq_getElem hlt]; exact List.take_succ_eq_append_getElem hlt
  have hEl : (hfs ((sE g.es).take k)).length ≤ 2000 := by rw [hfs_len, List.length_take]; omega
  generalize (sE g.es).getD k ed0 = x at *
  have hH2 : hfs ((sE g.es).take (k + 1)) = hfs ((sE g.es).take k) ++ [(x.a, x.b)] ++ [(x.b, x.a)] := by rw [htk1, hfs_snoc]
  obtain ⟨id, a, b⟩ := x
  simp only at hd hH2
  generalize hfs ((sE g.es).take k) = H at *
  have b0 : ¬ s.next = M := by omega
  (repeat' (first | refine awp_seq ?_ | refine awp_block ?_ | (refine awp_skip ?_; simp only [ak, reduceIte]) | (refine awp_cond ?_; simp [f17, f18, f19, hlt, hd, hel, hk3]) | (refine w_e [] ?_; intro J hJ; simp only []; simp [f17, f18, f19, hlt, hd, hel, hk3]; (refine hJ _ _ ?_; clear hJ J; simp only [ak, reduceIte]))))
  refine awp_weakB (fun f s' => NrI st (sE g.es) M k H f s' ∧ f 7 = .pt s.next 0 ∧ s.next < s'.next ∧ s'.H s.next = .box 43 3 [u id, u a, u b]) ?_ ?_
  · exact ⟨⟨by simp [f3], by simp [f17], by simp [f18], by simp [f19], hM1, by simp; omega, hkp.trans (Keeps.new _ _), L, hNb.keeps (Keeps.new _ _) hM2⟩, by simp, by simp, by simp⟩
  generalize s.next = X at *
  clear hNb hkp hM1 hM2 f19 f18 f17 f3 L
  rintro fr s ⟨⟨f3, f17, f18, f19, hM1, hM2, hkp, L, hNb⟩, f7, hXl, hX⟩
  refine awp_cut1 (fun f s' => NrI st (sE g.es) M k (H ++ [(a, b)]) f s' ∧ f 7 = .pt X 0 ∧ X < s'.next ∧ s'.H X = .box 43 3 [u id, u a, u b]) ?_ ?_
  · clear hJJ
    have hMl := hNb.hm
    have x1 : ¬ X = M := box_ne hX hMl (by simp)
    have x2 : ¬ M = X := fun h => x1 h.symm
    have x3 : ¬ X = s.next := by omega
    have x4 : ¬ X = s.next + 1 := by omega
    have y3 : ¬ M = s.next := by omega
    have y4 : ¬ M = s.next + 1 := by omega
    have y5 : ¬ s.next = M := by omega
    have y6 : ¬ s.next + 1 = M := by omega
    have hnl := nbH_len a (H)
    by_cases hin : a ∈ L.map (·.1)
    · obtain ⟨p, hp, rfl⟩ := List.mem_map.1 hin
      obtain ⟨v, q⟩ := p
      obtain ⟨L1, L2, rfl⟩ := List.append_of_mem hp
      have kd := hNb.kd
      rw [List.map_append, List.map_cons, List.nodup_append] at kd
      have hget := entM_some (H := H) (q := q) (L1 := L1) (L2 := L2) (v := v) (fun e => kd.2.2 v e v (by simp) rfl)
      obtain ⟨q1, q2, q3⟩ := hNb.bx (v, q) (by simp)
      simp only at q1 q2 q3 hnl
      have z1 : ¬ q = M := box_ne q3 hMl (by simp)
      have z2 : ¬ q = s.next := by omega
      have z3 : ¬ q = s.next + 1 := by omega
      have z4 : ¬ X = q := box_ne hX q3 (by simp)
      have z5 : ¬ M = q := fun h => z1 h.symm
      have z6 : List.take (nbH v (H)).length (us (nbH v (H))) = us (nbH v (H)) := List.take_of_length_le (by simp)
      have put := hNb.put (b := b) (q' := s.next + 1) (s' := (((s.new (.own 41 1 1)).set q .dead).new (.box 41 1 (us (nbH v (H) ++ [b])))).set M (.map false [.u32] (mset (entM (H) (L1 ++ (v, q) :: L2)) [v] (.ms (s.next + 1) 0 (nbH v (H) ++ [b]).length)))) ⟨by omega, by omega, by simp⟩ (by simp) (by (repeat (first | rw [new_H, if_neg (α := LObj) (by (try simp only [set_next, new_next]); omega)] | rw [set_H, if_neg (α := LObj) (by omega)] | rw [new_H, if_pos (α := LObj) (by (try simp only [set_next, new_next]))] | rw [set_H, if_pos (α := LObj) (by omega)]))) (fun p hp h1 h2 => by
        have := hNb.bx p (by rcases hp with hp | hp <;> simp [hp])
        have h3 : ¬ p.2 = M := box_ne this.2.2 hMl (by simp)
        (repeat (first | rw [new_H, if_neg (α := LObj) (by (try simp only [set_next, new_next]); omega)] | rw [set_H, if_neg (α := LObj) (by omega)] | rw [new_H, if_pos (α := LObj) (by (try simp only [set_next, new_next]))] | rw [set_H, if_pos (α := LObj) (by omega)]))) (by simp; omega)
      generalize hF : nbH v (H) = F at *
      generalize hN : entM (H) (L1 ++ (v, q) :: L2) = EM at *
      (refine w_s [33] [X, M] [(0, true), (1, true), (2, true), (3, true), (4, true), (5, true), (6, true), (7, true), (8, true), (9, true), (10, true), (11, false)] ?_; intro J hJ; simp [f3, f7, hX, hMl, x1, x2, x3, x4, y3, y4, y5, y6, hget, q3, z1, z2, z3, z4, z5, z6]; (repeat refine ca ?_); (refine hJ _ _ ?_; clear hJ J; simp only [ak, reduceIte]))
      refine ⟨by trivial, ⟨by simp [f3], by simp [f17], by simp [f18], by simp [f19], hM1, by simp; omega, ?_, L1 ++ (v, s.next + 1) :: L2, ?_⟩, by simp [f7], by simp; omega, ?_⟩
      · refine ⟨by have := hkp.next; simp; omega, fun l hl => ?_⟩
        have := hkp.next
        (repeat (first | rw [new_H, if_neg (α := LObj) (by (try simp only [set_next, new_next]); omega)] | rw [set_H, if_neg (α := LObj) (by omega)] | rw [new_H, if_pos (α := LObj) (by (try simp only [set_next, new_next]))] | rw [set_H, if_pos (α := LObj) (by omega)])); exact hkp.H l hl
      · simpa using put
      · (repeat (first | rw [new_H, if_neg (α := LObj) (by (try simp only [set_next, new_next]); omega)] | rw [set_H, if_neg (α := LObj) (by omega)] | rw [new_H, if_pos (α := LObj) (by (try simp only [set_next, new_next]))] | rw [set_H, if_pos (α := LObj) (by omega)])); exact hX
    · have hget := entM_none (H := H) hin
      have hnil : nbH a (H) = [] := by
        cases hc : nbH a (H) with
        | nil => rfl
        | cons _ _ => exact absurd ((hNb.all _).1 (by rw [hc]; simp)) hin
      have put := hNb.add (a := a) (b := b) (q' := s.next + 1) (s' := ((s.new (.own 41 1 1)).new (.box 41 1 (us (nbH a (H) ++ [b])))).set M (.map false [.u32] (mset (entM (H) L) [a] (.ms (s.next + 1) 0 (nbH a (H) ++ [b]).length)))) hin ⟨by omega, by omega, by simp⟩ (by simp) (by (repeat (first | rw [new_H, if_neg (α := LObj) (by (try simp only [set_next, new_next]); omega)] | rw [set_H, if_neg (α := LObj) (by omega)] | rw [new_H, if_pos (α := LObj) (by (try simp only [set_next, new_next]))] | rw [set_H, if_pos (α := LObj) (by omega)]))) (fun p hp => by
        have := hNb.bx p hp
        have h3 : ¬ p.2 = M := box_ne this.2.2 hMl (by simp)
        (repeat (first | rw [new_H, if_neg (α := LObj) (by (try simp only [set_next, new_next]); omega)] | rw [set_H, if_neg (α := LObj) (by omega)] | rw [new_H, if_pos (α := LObj) (by (try simp only [set_next, new_next]))] | rw [set_H, if_pos (α := LObj) (by omega)]))) (by simp only [set_next, new_next]; omega)
      rw [hnil] at put
      generalize hN : entM (H) L = EM at *
      (refine w_s [33] [X, M] [(0, true), (1, true), (2, true), (3, true), (4, true), (5, true), (6, true), (7, true), (8, true), (9, true), (10, true), (11, false)] ?_; intro J hJ; simp [f3, f7, hX, hMl, x1, x2, x3, x4, y3, y4, y5, y6, hget]; (repeat refine ca ?_); (refine hJ _ _ ?_; clear hJ J; simp only [ak, reduceIte]))
      refine ⟨by trivial, ⟨by simp [f3], by simp [f17], by simp [f18], by simp [f19], hM1, by simp; omega, ?_, L ++ [(a, s.next + 1)], ?_⟩, by simp [f7], by simp; omega, ?_⟩
      · refine ⟨by have := hkp.next; simp; omega, fun l hl => ?_⟩
        have := hkp.next
        (repeat (first | rw [new_H, if_neg (α := LObj) (by (try simp only [set_next, new_next]); omega)] | rw [set_H, if_neg (α := LObj) (by omega)] | rw [new_H, if_pos (α := LObj) (by (try simp only [set_next, new_next]))] | rw [set_H, if_pos (α := LObj) (by omega)])); exact hkp.H l hl
      · simpa using put
      · (repeat (first | rw [new_H, if_neg (α := LObj) (by (try simp only [set_next, new_next]); omega)] | rw [set_H, if_neg (α := LObj) (by omega)] | rw [new_H, if_pos (α := LObj) (by (try simp only [set_next, new_next]))] | rw [set_H, if_pos (α := LObj) (by omega)])); exact hX
  clear hNb hkp hM1 hM2 f19 f18 f17 f3 f7 hXl hX L
  rintro fr s ⟨⟨f3, f17, f18, f19, hM1, hM2, hkp, L, hNb⟩, f7, hXl, hX⟩
  have hEl2 : (H ++ [(a, b)]).length ≤ 2001 := by rw [List.length_append]; simp only [List.length_cons, List.length_nil]; omega
  generalize H ++ [(a, b)] = H2 at *
  refine awp_cutB (fun f s' => NrI st (sE g.es) M k (H2 ++ [(b, a)]) f s' ∧ f 7 = .pt X 0 ∧ X < s'.next ∧ s'.H X = .box 43 3 [u id, u a, u b]) ?_ ?_
  · clear hJJ
    have hMl := hNb.hm
    have x1 : ¬ X = M := box_ne hX hMl (by simp)
    have x2 : ¬ M = X := fun h => x1 h.symm
    have x3 : ¬ X = s.next := by omega
    have x4 : ¬ X = s.next + 1 := by omega
    have y3 : ¬ M = s.next := by omega
    have y4 : ¬ M = s.next + 1 := by omega
    have y5 : ¬ s.next = M := by omega
    have y6 : ¬ s.next + 1 = M := by omega
    have hnl := nbH_len b (H2)
    by_cases hin : b ∈ L.map (·.1)
    · obtain ⟨p, hp, rfl⟩ := List.mem_map.1 hin
      obtain ⟨v, q⟩ := p
      obtain ⟨L1, L2, rfl⟩ := List.append_of_mem hp
      have kd := hNb.kd
      rw [List.map_append, List.map_cons, List.nodup_append] at kd
      have hget := entM_some (H := H2) (q := q) (L1 := L1) (L2 := L2) (v := v) (fun e => kd.2.2 v e v (by simp) rfl)
      obtain ⟨q1, q2, q3⟩ := hNb.bx (v, q) (by simp)
      simp only at q1 q2 q3 hnl
      have z1 : ¬ q = M := box_ne q3 hMl (by simp)
      have z2 : ¬ q = s.next := by omega
      have z3 : ¬ q = s.next + 1 := by omega
      have z4 : ¬ X = q := box_ne hX q3 (by simp)
      have z5 : ¬ M = q := fun h => z1 h.symm
      have z6 : List.take (nbH v (H2)).length (us (nbH v (H2))) = us (nbH v (H2)) := List.take_of_length_le (by simp)
      have put := hNb.put (b := a) (q' := s.next + 1) (s' := (((s.new (.own 41 1 1)).set q .dead).new (.box 41 1 (us (nbH v (H2) ++ [a])))).set M (.map false [.u32] (mset (entM (H2) (L1 ++ (v, q) :: L2)) [v] (.ms (s.next + 1) 0 (nbH v (H2) ++ [a]).length)))) ⟨by omega, by omega, by simp⟩ (by simp) (by (repeat (first | rw [new_H, if_neg (α := LObj) (by (try simp only [set_next, new_next]); omega)] | rw [set_H, if_neg (α := LObj) (by omega)] | rw [new_H, if_pos (α := LObj) (by (try simp only [set_next, new_next]))] | rw [set_H, if_pos (α := LObj) (by omega)]))) (fun p hp h1 h2 => by
        have := hNb.bx p (by rcases hp with hp | hp <;> simp [hp])
        have h3 : ¬ p.2 = M := box_ne this.2.2 hMl (by simp)
        (repeat (first | rw [new_H, if_neg (α := LObj) (by (try simp only [set_next, new_next]); omega)] | rw [set_H, if_neg (α := LObj) (by omega)] | rw [new_H, if_pos (α := LObj) (by (try simp only [set_next, new_next]))] | rw [set_H, if_pos (α := LObj) (by omega)]))) (by simp; omega)
      generalize hF : nbH v (H2) = F at *
      generalize hN : entM (H2) (L1 ++ (v, q) :: L2) = EM at *
      (refine w_s [44] [X, M] [(0, true), (1, true), (2, true), (3, true), (4, true), (5, true), (6, true), (7, true), (8, true), (9, true), (10, true), (11, false)] ?_; intro J hJ; simp [f3, f7, hX, hMl, x1, x2, x3, x4, y3, y4, y5, y6, hget, q3, z1, z2, z3, z4, z5, z6]; (repeat refine ca ?_); (refine hJ _ _ ?_; clear hJ J; simp only [ak, reduceIte]))
      refine ⟨by trivial, ⟨by simp [f3], by simp [f17], by simp [f18], by simp [f19], hM1, by simp; omega, ?_, L1 ++ (v, s.next + 1) :: L2, ?_⟩, by simp [f7], by simp; omega, ?_⟩
      · refine ⟨by have := hkp.next; simp; omega, fun l hl => ?_⟩
        have := hkp.next
        (repeat (first | rw [new_H, if_neg (α := LObj) (by (try simp only [set_next, new_next]); omega)] | rw [set_H, if_neg (α := LObj) (by omega)] | rw [new_H, if_pos (α := LObj) (by (try simp only [set_next, new_next]))] | rw [set_H, if_pos (α := LObj) (by omega)])); exact hkp.H l hl
      · simpa using put
      · (repeat (first | rw [new_H, if_neg (α := LObj) (by (try simp only [set_next, new_next]); omega)] | rw [set_H, if_neg (α := LObj) (by omega)] | rw [new_H, if_pos (α := LObj) (by (try simp only [set_next, new_next]))] | rw [set_H, if_pos (α := LObj) (by omega)])); exact hX
    · have hget := entM_none (H := H2) hin
      have hnil : nbH b (H2) = [] := by
        cases hc : nbH b (H2) with
        | nil => rfl
        | cons _ _ => exact absurd ((hNb.all _).1 (by rw [hc]; simp)) hin
      have put := hNb.add (a := b) (b := a) (q' := s.next + 1) (s' := ((s.new (.own 41 1 1)).new (.box 41 1 (us (nbH b (H2) ++ [a])))).set M (.map false [.u32] (mset (entM (H2) L) [b] (.ms (s.next + 1) 0 (nbH b (H2) ++ [a]).length)))) hin ⟨by omega, by omega, by simp⟩ (by simp) (by (repeat (first | rw [new_H, if_neg (α := LObj) (by (try simp only [set_next, new_next]); omega)] | rw [set_H, if_neg (α := LObj) (by omega)] | rw [new_H, if_pos (α := LObj) (by (try simp only [set_next, new_next]))] | rw [set_H, if_pos (α := LObj) (by omega)]))) (fun p hp => by
        have := hNb.bx p hp
        have h3 : ¬ p.2 = M := box_ne this.2.2 hMl (by simp)
        (repeat (first | rw [new_H, if_neg (α := LObj) (by (try simp only [set_next, new_next]); omega)] | rw [set_H, if_neg (α := LObj) (by omega)] | rw [new_H, if_pos (α := LObj) (by (try simp only [set_next, new_next]))] | rw [set_H, if_pos (α := LObj) (by omega)]))) (by simp only [set_next, new_next]; omega)
      rw [hnil] at put
      generalize hN : entM (H2) L = EM at *
      (refine w_s [44] [X, M] [(0, true), (1, true), (2, true), (3, true), (4, true), (5, true), (6, true), (7, true), (8, true), (9, true), (10, true), (11, false)] ?_; intro J hJ; simp [f3, f7, hX, hMl, x1, x2, x3, x4, y3, y4, y5, y6, hget]; (repeat refine ca ?_); (refine hJ _ _ ?_; clear hJ J; simp only [ak, reduceIte]))
      refine ⟨by trivial, ⟨by simp [f3], by simp [f17], by simp [f18], by simp [f19], hM1, by simp; omega, ?_, L ++ [(b, s.next + 1)], ?_⟩, by simp [f7], by simp; omega, ?_⟩
      · refine ⟨by have := hkp.next; simp; omega, fun l hl => ?_⟩
        have := hkp.next
        (repeat (first | rw [new_H, if_neg (α := LObj) (by (try simp only [set_next, new_next]); omega)] | rw [set_H, if_neg (α := LObj) (by omega)] | rw [new_H, if_pos (α := LObj) (by (try simp only [set_next, new_next]))] | rw [set_H, if_pos (α := LObj) (by omega)])); exact hkp.H l hl
      · simpa using put
      · (repeat (first | rw [new_H, if_neg (α := LObj) (by (try simp only [set_next, new_next]); omega)] | rw [set_H, if_neg (α := LObj) (by omega)] | rw [new_H, if_pos (α := LObj) (by (try simp only [set_next, new_next]))] | rw [set_H, if_pos (α := LObj) (by omega)])); exact hX
  clear hNb hkp hM1 hM2 f19 f18 f17 f3 f7 hXl hX L
  rintro fr s ⟨⟨f3, f17, f18, f19, hM1, hM2, hkp, L, hNb⟩, f7, hXl, hX⟩
  simp only [ak]
  (repeat' (refine w_e [] ?_; intro J hJ; simp only []; simp [f19, hw]; (refine hJ _ _ ?_; clear hJ J; simp only [ak, reduceIte])))
  exact hJJ ((sE g.es).length - (k + 1)) _ _ (by omega) ⟨k + 1, by omega, rfl, by simp [f3], by simp [f17], by simp [f18], by simp, hM1, hM2, hkp, L, by rw [hH2]; exact hNb⟩

/-- A row's numbers, or none. -/
def nbLV (es : List Ed) (v : Int) : Option LV := if nearF es v = [] then none else some (.sl 0 (nearF es v).length (us (nearF es v)))
theorem rowsV_get {es : List Ed} (v : Int) : ∀ {K : List Int}, mget (K.map fun v => (([v], .sl 0 (nearF es v).length (us (nearF es v))) : List Int × LV)) [v] = if v ∈ K then some (.sl 0 (nearF es v).length (us (nearF es v))) else none
  | [] => rfl
  | k :: K => by
    simp only [List.map_cons, mget]
    by_cases h : v = k
    · subst h; simp
    · have h' : ¬ ([v] == [k]) = true := by simpa using h
      rw [if_neg h', rowsV_get v (K := K)]
      simp [h]
/-- nearby: a map of the near ones of each vertex that has some. -/
theorem nearby (g : Gr) (st : St) (hv : g.vs.length ≤ 1048576) (he : g.es.length ≤ 1000) (hp : 0 < st.next) :
    ACalls Tryz.prog 86 [.ag (grL g)] st fun r st' => ∃ m es, r = .mp m ∧ st.next ≤ m ∧ m < st'.next ∧ Keeps st st' ∧ st'.H m = .map false [.u32] es ∧ ∀ v, mget es [v] = nbLV g.es v := by
  refine (acalls_mapRows (R := fun L => ∃ K : List Int, K.Nodup ∧ (∀ v, nbH v (hfs (sE g.es)) ≠ [] ↔ v ∈ K) ∧ L.map (fun p => (p.1, p.2.2)) = K.map fun v => ([v], us (nearF g.es v))) (nearbyM g st hv he hp)).mono ?_
  rintro r st' ⟨m, L, rfl, h1, h2, h3, h4, K, hK, hall, hL⟩
  refine ⟨m, _, rfl, h1, h2, h3, h4, fun v => ?_⟩
  have e : rowsV L = K.map fun v => ([v], .sl 0 (nearF g.es v).length (us (nearF g.es v))) := by
    have e1 : rowsV L = (L.map fun p => (p.1, p.2.2)).map fun p => (p.1, LV.sl 0 p.2.length p.2) := by rw [List.map_map]; rfl
    rw [e1, hL, List.map_map]
    refine List.map_congr_left fun v _ => ?_
    simp
  rw [e, rowsV_get]
  unfold nbLV
  have hn : nearF g.es v = [] ↔ nbH v (hfs (sE g.es)) = [] := by
    have := (srt_perm (nbH v (hfs (sE g.es)))).length_eq
    unfold nearF
    constructor
    · intro h; rw [h] at this; exact List.eq_nil_of_length_eq_zero this.symm
    · intro h; rw [h]; rfl
  by_cases hv : v ∈ K
  · rw [if_pos hv, if_neg (fun h => (hall v).2 hv (hn.1 h))]
  · rw [if_neg hv]
    split
    · rfl
    · rename_i h
      exact absurd ((hall v).1 fun h2 => h (hn.2 h2)) hv

theorem Near (g : Gr) (v : Int) (st : St) (hv : g.vs.length ≤ 1048576) (he : g.es.length ≤ 1000) :
    ACalls Tryz.prog 34 [.ag (grL g), u v] st fun r st' => r = .sl 0 (nearF g.es v).length (us (nearF g.es v)) ∧ Keeps st st' := by
  refine acalls_norm ?_
  refine acalls_of_body tabOk Tryz.func34 rfl rfl Tryz.ntmps34 (rs := [.tmp 4]) rfl (by simp) ?_
  refine awp_posG fun hpos => ?_
  (repeat' (first | refine awp_seq ?_ | (refine w_e [] ?_; intro J hJ; simp only []; simp []; (try (refine hJ _ _ ?_; clear hJ J; simp only [ak, reduceIte])))))
  refine callK_ofE (nearby g _ hv he (by simp)) (by simp) ?_; rintro r s1 ⟨m, es, rfl, h1, h2, h3, h4, h5⟩
  have h5 := h5 v
  unfold nbLV at h5
  by_cases hn : nearF g.es v = []
  · rw [if_pos hn] at h5
    (repeat' (first | (refine awp_ret ?_; simp only [ak, reduceIte]; simp [h4, h5, hn]) | (refine e_go ?_; simp [h4, h5, hn]; (refine hJ _ _ ?_; clear hJ J; simp only [ak, reduceIte]))))
    exact (Keeps.new _ _).trans h3
  · rw [if_neg hn] at h5
    (repeat' (first | (refine awp_ret ?_; simp only [ak, reduceIte]; simp [h4, h5]) | (refine e_go ?_; simp [h4, h5]; (refine hJ _ _ ?_; clear hJ J; simp only [ak, reduceIte]))))
    exact (Keeps.new _ _).trans h3

end Go.Proofs.YtomfeddgeihipaaGreat.Aw

namespace Go.Proofs.YtomfeddgeihipaaGreat.Aw
open Go Go.RowKit Go.Proofs.YtomfeddgeihipaaGreat.Pl
set_option linter.unusedSimpArgs false
set_option linter.unusedVariables false

def clL (A : Led) : List (List Int × LV) := A.map fun p => ([p.1], i p.2)
theorem clL_len (A : Led) : (clL A).length = A.length := by simp [clL]
theorem mget_cl (A : Led) (v : Int) : mget (clL A) [v] = (ledBy A v).map i := by
  induction A with
  | nil => rfl
  | cons p A ih =>
    simp only [clL, List.map_cons, mget, ledBy] at ih ⊢
    by_cases h : v = p.1
    · subst h; simp
    · simp [h, ih]
theorem mset_cl {A : Led} {v w : Int} (h : v ∉ A.map (·.1)) : mset (clL A) [v] (i w) = clL (A ++ [(v, w)]) := by
  induction A with
  | nil => rfl
  | cons p A ih =>
    simp only [List.map_cons, List.mem_cons, not_or] at h
    have ih := ih h.2
    simp only [clL, List.map_cons, List.cons_append, mset] at ih ⊢
    rw [if_neg (by simpa using h.1), ih]
def colF (A : Led) (v : Int) : Int := (ledBy A v).getD 0
theorem free_ex (col : Int → Int) (l : List Int) : ∃ n, IsFree col l n := by
  by_cases h : ∃ n : Nat, 1 ≤ n ∧ ∀ u ∈ l, col u ≠ n
  · obtain ⟨n, hn⟩ := h
    obtain ⟨m, h1, h2⟩ := least_nat (fun n => 1 ≤ n ∧ ∀ u ∈ l, col u ≠ (n : Nat)) n hn
    refine ⟨m, h1.1, h1.2, fun k hk1 hk2 => Classical.byContradiction fun hno => ?_⟩
    have := h2 k ⟨hk1, fun u hu e => hno ⟨u, hu, e⟩⟩
    omega
  · exfalso
    have := taken_le (col := col) (l := l) (k := l.length + 1) fun m h1 _ => Classical.byContradiction fun hno => h ⟨m, h1, fun u hu e => hno ⟨u, hu, e⟩⟩
    omega
noncomputable def fN (col : Int → Int) (l : List Int) : Nat := Classical.choose (free_ex col l)
open Classical in
noncomputable def giveS (near : Int → List Int) (vs : List Int) (A : Led) (v : Int) : Led := if v ∈ A.map (·.1) ∨ v ∉ vs then A else A ++ [(v, (fN (colF A) (near v) : Int))]
noncomputable def giveA (near : Int → List Int) (vs : List Int) (A : Led) (l : List Int) : Led := l.foldl (giveS near vs) A
/-- A map of colors, new or the caller's. -/
def ColM (st : St) (A : Led) (r : LV) (st' : St) : Prop := ∃ M, r = .mp M ∧ st.next ≤ M ∧ M < st'.next ∧ st'.H M = .map false [.u32] (clL A) ∧ Keeps st st'

end Go.Proofs.YtomfeddgeihipaaGreat.Aw

namespace Go.Proofs.YtomfeddgeihipaaGreat.Aw
open Go Go.RowKit Go.Proofs.YtomfeddgeihipaaGreat.Pl
set_option linter.unusedSimpArgs false
set_option linter.unusedVariables false

def ledL (A : Led) : List (List Int × LV) := A.map fun p => ([p.1], u p.2)
end Go.Proofs.YtomfeddgeihipaaGreat.Aw

namespace Go.Proofs.YtomfeddgeihipaaGreat.Aw
open Go Go.RowKit Go.Proofs.YtomfeddgeihipaaGreat.Pl
set_option linter.unusedSimpArgs false
set_option linter.unusedVariables false

/-- What a function argument answers of a vertex. -/
def MayOk (th : LV) (may : Int → Bool) (st : St) : Prop :=
  (th = .atom .nilFunc ∧ ∀ v, may v = true) ∨ ∃ f caps, th = .fn (.func f) caps ∧ caps.map norm = caps ∧ ∀ v s, Keeps st s → ACalls Tryz.prog f (u v :: caps) s fun r s' => r = bb (may v) ∧ Keeps s s'

structure PaB (st0 : St) (A : Led) (Q : List Int) (Ma Mn tq o : Nat) (es : List (List Int × LV)) (s : St) : Prop where
  ha : s.H Ma = .map false [.u32] (ledL A)
  hn : s.H Mn = .map false [.u32] es
  hq : s.H tq = .que 41 (o + Q.length)
  b : st0.next ≤ Ma ∧ st0.next ≤ Mn ∧ st0.next ≤ tq ∧ Ma < s.next ∧ Mn < s.next ∧ tq < s.next ∧ tq ≠ 0 ∧ ¬ Mn = Ma
  kp : Keeps st0 s

end Go.Proofs.YtomfeddgeihipaaGreat.Aw

namespace Go.Proofs.YtomfeddgeihipaaGreat.Aw
open Go Go.RowKit Go.Proofs.YtomfeddgeihipaaGreat.Pl
set_option linter.unusedSimpArgs false
set_option linter.unusedVariables false

def scanD1 (d : Int) (D : Led) (w : Int) : Led := if w ∈ D.map (·.1) then D else D ++ [(w, d + 1)]
def scanD (d : Int) (D : Led) (row : List Int) : Led := row.foldl (scanD1 d) D
theorem scanD_snoc (d : Int) (D : Led) (row : List Int) (w : Int) : scanD d D (row ++ [w]) = scanD1 d (scanD d D row) w := by simp [scanD, List.foldl_append]
/-- All that is found from the k-th on, with how far it is. -/
def depF (near : Int → List Int) : Nat → Nat → Led → Option Led
  | 0, _, _ => none
  | n + 1, k, D => if k < D.length then depF near n (k + 1) (scanD (D.getD k (0, 0)).2 D (near (D.getD k (0, 0)).1)) else some D

structure DepOk (vs : List Int) (D : Led) : Prop where
  nd : (D.map (·.1)).Nodup
  sub : ∀ x ∈ D.map (·.1), x ∈ vs
  dep : ∀ j, j < D.length → 0 ≤ (D.getD j (0, 0)).2 ∧ (D.getD j (0, 0)).2 ≤ j
theorem DepOk.len {vs : List Int} {D : Led} (h : DepOk vs D) : D.length ≤ vs.length := by
  have := List.Nodup.length_le_of_subset h.nd h.sub
  simpa using this
theorem DepOk.scan1 {vs : List Int} {D : Led} (h : DepOk vs D) {k : Nat} (hk : k < D.length) {w : Int} (hw : w ∈ vs) : DepOk vs (scanD1 (D.getD k (0, 0)).2 D w) := by
  unfold scanD1
  split
  · exact h
  · rename_i hn
    refine ⟨?_, fun x hx => ?_, fun j hj => ?_⟩
    · rw [List.map_append, List.nodup_append]
      refine ⟨h.nd, by simp, fun a ha b hb => ?_⟩
      simp at hb
      rintro rfl
      rw [hb] at ha
      exact hn ha
    · rw [List.map_append] at hx
      rcases List.mem_append.1 hx with hx | hx
      · exact h.sub x hx
      · simp at hx; rw [hx]; exact hw
    · by_cases hjl : j < D.length
      · rw [getD_append_lt _ _ _ hjl]; exact h.dep j hjl
      · have hje : j = D.length := by simp at hj; omega
        subst hje
        have := h.dep k hk
        generalize (D.getD k (0, 0)).2 = d at *
        rw [List.getD_eq_getElem?_getD, List.getElem?_append_right (Nat.le_refl _)]
        simp
        omega
theorem DepOk.scan {vs : List Int} (d : Int) : ∀ (row : List Int) {D : Led}, DepOk vs D → (∃ k, k < D.length ∧ (D.getD k (0, 0)).2 = d) → (∀ w ∈ row, w ∈ vs) → DepOk vs (scanD d D row)
  | [], _, h, _, _ => h
  | w :: row, D, h, ⟨k, hk, hd⟩, hr => by
    have h1 := h.scan1 hk (hr w List.mem_cons_self)
    rw [hd] at h1
    refine DepOk.scan d row h1 ⟨k, ?_, ?_⟩ fun x hx => hr x (List.mem_cons_of_mem _ hx)
    · unfold scanD1; split
      · exact hk
      · simp; omega
    · unfold scanD1; split
      · exact hd
      · rw [getD_append_lt _ _ _ hk]; exact hd

theorem led_nodup {D : Led} (h : (D.map (·.1)).Nodup) {k : Nat} (hk : k < D.length) : ledBy D (D.getD k (0, 0)).1 = some (D.getD k (0, 0)).2 := by
  induction D generalizing k with
  | nil => simp at hk
  | cons p D ih =>
    rw [List.map_cons, List.nodup_cons] at h
    cases k with
    | zero => simp [ledBy]
    | succ k =>
      have hk' : k < D.length := by simpa using hk
      have hmem : (D.getD k (0, 0)).1 ∈ D.map (·.1) := by
        rw [List.getD_eq_getElem?_getD, List.getElem?_eq_getElem hk']
        exact List.mem_map.2 ⟨_, List.getElem_mem _, rfl⟩
      have hne : ¬ (D.getD k (0, 0)).1 = p.1 := fun e => h.1 (e ▸ hmem)
      rw [List.getD_cons_succ]
      simp only [ledBy, if_neg hne]
      exact ih h.2 hk'

def kD (D : Led) : List Int := D.map (·.1)
def DeI (g : Gr) (st : St) (M : Nat) (D : Led) (tl : Nat) (s : St) : Prop :=
  s.H st.next = .box 38 2 (grL g) ∧ s.H M = .map false [.u32] (clL D) ∧ (tl ≠ 0 ∧ st.next ≤ tl ∧ tl < s.next ∧ s.H tl = .own 41 1 D.length) ∧ M < s.next ∧ Keeps st s

set_option maxHeartbeats 2000000 in
theorem Depths (g : Gr) (root : Int) (n : Nat) (Df Dr : Led) (st : St) (hr1 : root ∈ g.vs → Dr = Df) (hr0 : root ∉ g.vs → Dr = []) (hg : Good g) (hv : g.vs.length ≤ 1000) (he : g.es.length ≤ 400) (hD : depF (nearF g.es) n 0 [(root, 0)] = some Df) :
    ACalls Tryz.prog 48 [.ag (grL g), u root] st (ColM st Dr) := by
  refine acalls_of_body tabOk Tryz.func48 rfl rfl Tryz.ntmps48 (rs := [.tmp 4]) rfl (by simp) ?_
  refine awp_posG fun hpos => ?_
  (repeat' (first | refine awp_seq ?_ | (refine w_e [] ?_; intro J hJ; simp only []; simp []; (try (refine hJ _ _ ?_; clear hJ J; simp only [ak, reduceIte])))))
  obtain ⟨M, hMd⟩ : ∃ M, M = st.next + 1 := ⟨_, rfl⟩
  refine callK_ofE (Vert g root _ (by unfold small; omega)) (by simp) ?_; rintro r s1 ⟨rfl, hk1⟩
  have hn1 := hk1.next
  simp only [new_next] at hn1
  have hG1 : s1.H st.next = .box 38 2 (grL g) := by rw [hk1.H _ (by simp; omega)]; simp
  have hM1 : s1.H M = .map false [.u32] [] := by rw [hMd, hk1.H _ (by simp)]; simp
  have k1 : Keeps st s1 := ((Keeps.new _ _).trans (Keeps.new _ _)).trans hk1
  rw [← hMd]
  have hge := gi_neg g.vs root
  by_cases hr : root ∈ g.vs
  rotate_left
  · have h1 : gi g.vs root < 0 := hge.2 hr
    have h2 : decide (gi g.vs root < 0) = true := decide_eq_true h1
    have hDr := hr0 hr
    subst hDr
    (repeat' (first | refine awp_seq ?_ | (refine awp_ret ?_; simp only [ak, reduceIte]; simp [h1, h2]) | (refine awp_cond ?_; simp [h1, h2]) | ((first | (refine w_e [] ?_; intro J hJ; simp only []) | (refine e_go ?_)); simp [h1, h2]; (refine hJ _ _ ?_; clear hJ J; simp only [ak, reduceIte]))))
    exact ⟨M, rfl, by omega, by omega, hM1, k1⟩
  have h1 : ¬ gi g.vs root < 0 := fun h => hge.1 h hr
  have h2 : decide (gi g.vs root < 0) = false := decide_eq_false h1
  have hDr := hr1 hr
  subst hDr
  have e1 : ¬ st.next = M := by omega
  (repeat' (first | refine awp_seq ?_ | refine awp_block ?_ | (refine awp_skip ?_; simp only [ak, reduceIte]) | (refine awp_cond ?_; simp [h1, h2, hM1]) | ((first | (refine w_e [] ?_; intro J hJ; simp only []) | (refine e_go ?_)); simp [h1, h2, hM1]; (refine hJ _ _ ?_; clear hJ J; simp only [ak, reduceIte]))))
  have hnear : ∀ v, ∀ w ∈ nearF g.es v, w ∈ g.vs := fun v w hw => by
    obtain ⟨x, hx, ⟨_, rfl⟩ | ⟨rfl, _⟩⟩ := mem_nearF.1 hw
    · exact (hg.ends x hx).2
    · exact (hg.ends x hx).1
  refine awp_loop (fun n fr s => ∃ (k : Nat) (D : Led) (tl : Nat), depF (nearF g.es) n k D = some Dr ∧ DepOk g.vs D ∧ k ≤ D.length ∧ fr 2 = .pt st.next 0 ∧ fr 5 = .mp M ∧ fr 6 = .sl tl D.length (us (kD D)) ∧ fr 7 = i k ∧ DeI g st M D tl s) n ?_ ?_
  · refine ⟨0, [(root, 0)], s1.next, hD, ⟨by simp, by simpa using hr, fun j hj => by simp at hj; subst hj; simp⟩, by simp, by simp, by simp, by simp [kD], by simp, ?_⟩
    refine ⟨?_, ?_, ⟨by omega, by omega, by simp, by simp⟩, by simp; omega, ?_⟩
    · (repeat (first | rw [new_H, if_neg (α := LObj) (by (try simp only [set_next, new_next]); omega)] | rw [set_H, if_neg (α := LObj) (by omega)] | rw [new_H, if_pos (α := LObj) (by (try simp only [set_next, new_next]))] | rw [set_H, if_pos (α := LObj) (by omega)])); exact hG1
    · (repeat (first | rw [new_H, if_neg (α := LObj) (by (try simp only [set_next, new_next]); omega)] | rw [set_H, if_neg (α := LObj) (by omega)] | rw [new_H, if_pos (α := LObj) (by (try simp only [set_next, new_next]))] | rw [set_H, if_pos (α := LObj) (by omega)])); rfl
    · exact (k1.set (by omega) _).trans (Keeps.new _ _)
  clear h1 h2 hM1 hG1 hn1 k1
  rintro n fr s ⟨k, D, tl, hd, hok, hk, f2, f5, f6, f7, hG, hM, ⟨t0, t1, t2, t3⟩, hMn, hkp⟩ JJ hJJ
  have hDl := hok.len
  have hml : (kD D).length = D.length := by simp [kD]
  by_cases hlt : k < D.length
  rotate_left
  · clear hJJ
    have hDr2 : D = Dr := by
      cases n with
      | zero => simp [depF] at hd
      | succ n => simp only [depF, if_neg hlt] at hd; injection hd
    subst hDr2
    (repeat' (first | refine awp_seq ?_ | (refine awp_exit ?_; simp only [ak, reduceIte]) | (refine awp_ret ?_; simp only [ak, reduceIte]; simp [f5, f6, f7, hlt, hml]) | (refine awp_cond ?_; simp [f5, f6, f7, hlt, hml]) | (refine w_e [] ?_; intro J hJ; simp only []; simp [f5, f6, f7, hlt, hml]; (refine hJ _ _ ?_; clear hJ J; simp only [ak, reduceIte]))))
    exact ⟨M, rfl, by omega, hMn, hM, hkp⟩
  cases n with
  | zero => simp [depF] at hd
  | succ n =>
  simp only [depF, if_pos hlt] at hd
  have hdv := us_drop_getD (kD D) k (by rw [hml]; exact hlt)
  have hkd : (kD D).getD k 0 = (D.getD k (0, 0)).1 := by
    unfold kD
    rw [List.getD_eq_getElem?_getD, List.getD_eq_getElem?_getD, List.getElem?_map, List.getElem?_eq_getElem hlt]; rfl
  rw [hkd] at hdv
  have hlb := led_nodup hok.nd hlt
  have hdp := hok.dep k hlt
  generalize hp : D.getD k (0, 0) = p at *
  obtain ⟨v, d⟩ := p
  simp only at hlb hdp hd hdv hkd
  (repeat' (first | refine awp_seq ?_ | refine awp_block ?_ | (refine awp_skip ?_; simp only [ak, reduceIte]) | (refine awp_cond ?_; simp [f2, f6, f7, hlt, hml, hdv, hG]) | (refine w_e [] ?_; intro J hJ; simp only []; simp [f2, f6, f7, hlt, hml, hdv, hG]; (try (refine hJ _ _ ?_; clear hJ J; simp only [ak, reduceIte])))))
  refine callK_ofE (Near g v s (by omega) (by omega)) (by simp) ?_; rintro r s2 ⟨rfl, hk2⟩
  have hn2 := hk2.next
  have hnv := hnear v
  have hNl := nearF_len g.es v
  generalize nearF g.es v = N at *
  (repeat' (first | refine awp_block ?_ | (refine e_go ?_; simp []; (refine hJ _ _ ?_; clear hJ J; simp only [ak, reduceIte]))))
  refine awp_range 37 36 38 59 (N.length) (fun j fr st2 => fr 2 = .pt st.next 0 ∧ fr 5 = .mp M ∧ fr 7 = i k ∧ fr 8 = u v ∧ fr 35 = .sl 0 N.length (us N) ∧ ∃ tl, fr 6 = .sl tl (scanD d D (N.take j)).length (us (kD (scanD d D (N.take j)))) ∧ DepOk g.vs (scanD d D (N.take j)) ∧ (scanD d D (N.take j)).getD k (0, 0) = (v, d) ∧ k < (scanD d D (N.take j)).length ∧ DeI g st M (scanD d D (N.take j)) tl st2) ?_ ?_ ?_
  · refine ⟨by simp [f2], by simp [f5], by simp [f7], by simp, by simp, tl, by simp [scanD, f6], by simpa [scanD] using hok, by simpa only [List.take_zero, scanD, List.foldl_nil] using hp, by simpa [scanD] using hlt, ?_⟩
    simp only [List.take_zero, scanD, List.foldl_nil]
    exact ⟨(hk2.H _ (by omega)).trans hG, (hk2.H _ hMn).trans hM, ⟨t0, t1, by omega, (hk2.H _ t2).trans t3⟩, by omega, hkp.trans hk2⟩
  · clear f2 f5 f6 f7 hG hM t0 t1 t2 t3 hMn hkp hk2 hn2 tl
    rintro j fr s hlt2 ⟨f2, f5, f7, f8, f35, tl, f6, hok2, hget, hk2, hG, hM, ⟨t0, t1, t2, t3⟩, hMn, hkp⟩ fi fn JO hJO
    have hd2 := us_drop_getD N j hlt2
    have htk : N.take (j + 1) = N.take j ++ [N.getD j 0] := by
      rw [List.getD_eq_getElem?_getD, List.getElem?_eq_getElem hlt2]; exact List.take_succ_eq_append_getElem hlt2
    rw [htk, scanD_snoc] at hJO
    have hwin : N.getD j 0 ∈ g.vs := by
      refine hnv _ ?_
      rw [List.getD_eq_getElem?_getD, List.getElem?_eq_getElem hlt2]; exact List.getElem_mem _
    generalize N.getD j 0 = w at *
    generalize scanD d D (N.take j) = E at *
    have hEl := hok2.len
    have hlb2 := led_nodup hok2.nd hk2
    rw [hget] at hlb2
    simp only at hlb2
    have hmw := mget_cl E w
    by_cases hin : w ∈ E.map (·.1)
    · obtain ⟨y, hy⟩ := ledBy_some hin
      rw [hy] at hmw
      have hs1 : scanD1 d E w = E := by unfold scanD1; rw [if_pos hin]
      rw [hs1] at hJO
      simp only [Option.map_some] at hmw
      (repeat' (first | refine awp_seq ?_ | (refine awp_skip ?_; simp only [ak, reduceIte]) | (refine awp_cond ?_; simp [f5, f35, fi, fn, hd2, hlt2, hM, hmw]) | (refine w_e [] ?_; intro J hJ; simp only []; simp [f5, f35, fi, fn, hd2, hlt2, hM, hmw]; (refine hJ _ _ ?_; clear hJ J; simp only [ak, reduceIte]))))
      exact hJO _ _ (by simp [fi]) (by simp [fn]) ⟨by simp [f2], by simp [f5], by simp [f7], by simp [f8], by simp [f35], tl, by simp [f6], hok2, hget, hk2, hG, hM, ⟨t0, t1, t2, t3⟩, hMn, hkp⟩
    · rw [ledBy_none hin] at hmw
      have hs1 : scanD1 d E w = E ++ [(w, d + 1)] := by unfold scanD1; rw [if_neg hin]
      rw [hs1] at hJO
      simp only [Option.map_none] at hmw
      have hmv := mget_cl E v
      rw [hlb2] at hmv
      simp only [Option.map_some] at hmv
      have hok3 := hok2.scan1 hk2 hwin
      rw [hget] at hok3
      simp only [hs1] at hok3
      have hdk := hok2.dep k hk2
      rw [hget] at hdk
      simp only at hdk
      have hkl : (kD E).length = E.length := by simp [kD]
      have hwr : IntKind.i64.wrap (d + 1) = d + 1 := wrap_i64 _ (by omega) (by omega)
      have hms := mset_cl (A := E) (v := w) (w := d + 1) hin
      have c1 : ¬ tl = s.next := by omega
      have c2 : ¬ tl = M := fun e => by rw [e, hM] at t3; cases t3
      have c2' : ¬ M = tl := fun e => c2 e.symm
      have c3 : ¬ M = s.next := by omega
      have hEl1 : E.length ≤ 1000 := by omega
      (repeat' (first | refine awp_seq ?_ | (refine awp_cond ?_; simp [f5, f6, f8, f35, fi, fn, hd2, hlt2, hM, hmw, hmv, hwr, hms, t0, t3, c1, c2, hkl]) | (refine w_e [] ?_; intro J hJ; simp only []; simp [f5, f6, f8, f35, fi, fn, hd2, hlt2, hM, hmw, hmv, hwr, hms, t0, t3, c1, c2, hkl]; (repeat refine ca ?_); (refine hJ _ _ ?_; clear hJ J; simp only [ak, reduceIte]))))
      refine hJO _ _ (by simp [fi]) (by simp [fn]) ⟨by simp [f2], by simp [f5], by simp [f7], by simp [f8], by simp [f35], s.next + 1, by simp [kD], hok3, by rw [getD_append_lt _ _ _ hk2]; exact hget, by simp; omega, ?_⟩
      have e4 : ¬ st.next = M := fun e => by rw [e, hM] at hG; cases hG
      have e5 : ¬ st.next = tl := fun e => by rw [e, t3] at hG; cases hG
      refine ⟨by (repeat (first | rw [new_H, if_neg (α := LObj) (by (try simp only [set_next, new_next]); omega)] | rw [set_H, if_neg (α := LObj) (by omega)] | rw [new_H, if_pos (α := LObj) (by (try simp only [set_next, new_next]))] | rw [set_H, if_pos (α := LObj) (by omega)])); exact hG, by (repeat (first | rw [new_H, if_neg (α := LObj) (by (try simp only [set_next, new_next]); omega)] | rw [set_H, if_neg (α := LObj) (by omega)] | rw [new_H, if_pos (α := LObj) (by (try simp only [set_next, new_next]))] | rw [set_H, if_pos (α := LObj) (by omega)])), ⟨by omega, by omega, by simp, by simp⟩, by simp; omega, ?_⟩
      exact (((hkp.set (by omega) _).trans (Keeps.new _ _)).set (by omega) _).trans (Keeps.new _ _)
  · clear f2 f5 f6 f7 hG hM t0 t1 t2 t3 hMn hkp hk2 hn2 tl
    rintro fr s ⟨f2, f5, f7, f8, f35, tl, f6, hok2, hlb2, hk2, hDe⟩
    rw [List.take_length] at f6 hok2 hlb2 hk2 hDe
    have hl2 := hok2.len
    have hw := nat_add_one k (by omega)
    (repeat' (refine w_e [] ?_; intro J hJ; simp only []; simp [f7, hw]; (refine hJ _ _ ?_; clear hJ J; simp only [ak, reduceIte])))
    exact hJJ n _ _ (by omega) ⟨k + 1, _, tl, hd, hok2, by omega, by simp [f2], by simp [f5], by simp [f6], by simp, hDe⟩

end Go.Proofs.YtomfeddgeihipaaGreat.Aw

namespace Go.Proofs.YtomfeddgeihipaaGreat.Aw
open Go Go.RowKit Go.Proofs.YtomfeddgeihipaaGreat.Pl
set_option linter.unusedSimpArgs false
set_option linter.unusedVariables false

theorem chain_fuel {from' : Int} {F : Fnd} (h : FG from' F) : ∀ (k m : Nat), k < F.length → k ≤ m → chainF F m k = chainF F k k := by
  intro k
  induction k using Nat.strongRecOn with
  | ind k ih =>
    intro m hk hm
    cases m with
    | zero => have : k = 0 := by omega
              subst this; rfl
    | succ m =>
      cases k with
      | zero => simp [chainF]
      | succ k =>
        have hp := (h.par (k + 1) hk).2 (by omega)
        simp only [chainF, if_neg (Nat.succ_ne_zero k)]
        rw [ih _ hp m (by omega) (by omega), ih _ hp k (by omega) (by omega)]
def dLen (F : Fnd) (k : Nat) : Nat := (chainF F k k).length
def dLed (F : Fnd) : Led := (List.range F.length).map fun k => (fAt F k, (dLen F k : Int))
theorem dLed_len (F : Fnd) : (dLed F).length = F.length := by simp [dLed]
theorem dLed_get (F : Fnd) (k : Nat) (hk : k < F.length) : (dLed F).getD k (0, 0) = (fAt F k, (dLen F k : Int)) := by
  rw [List.getD_eq_getElem?_getD, List.getElem?_eq_getElem (by rw [dLed_len]; exact hk)]
  simp [dLed]
theorem dLed_keys (F : Fnd) : (dLed F).map (·.1) = F.map (·.1) := by
  refine List.ext_getElem (by simp [dLed_len]) fun k h1 h2 => ?_
  have hk : k < F.length := by simpa using h2
  simp only [dLed, List.getElem_map, List.getElem_range]
  unfold fAt
  rw [List.getD_eq_getElem?_getD, List.getElem?_eq_getElem hk]; rfl
theorem dLed_snoc {from' : Int} {F : Fnd} (h : FG from' F) {w : Int} {k : Nat} (hw : w ∉ F.map (·.1)) (hk : k < F.length) : dLed (F ++ [(w, k)]) = dLed F ++ [(w, (dLen F k : Int) + 1)] := by
  have h2 := h.snoc hw hk
  have hpos := h.pos
  unfold dLed
  rw [List.length_append, List.length_singleton, List.range_succ, List.map_append]
  congr 1
  · refine List.map_congr_left fun j hj => ?_
    rw [List.mem_range] at hj
    rw [fAt_append hj]
    unfold dLen
    rw [chain_pre h j j hj]
  · have e : dLen (F ++ [(w, k)]) F.length = dLen F k + 1 := by
      unfold dLen
      obtain ⟨m, hm⟩ : ∃ m, F.length = m + 1 := ⟨F.length - 1, by omega⟩
      rw [hm]
      simp only [chainF, if_neg (Nat.succ_ne_zero m)]
      rw [← hm, (at_last F (w, k)).2, chain_pre h m k hk, chain_fuel h k m hk (by omega)]
      simp
    simp [(at_last F (w, k)).1, e]
theorem scanD_eq {from' : Int} {k : Nat} : ∀ (row : List Int) (F : Fnd), FG from' F → k < F.length → ∃ D, scanR k F row = F ++ D ∧ FG from' (F ++ D) ∧ scanD (dLen F k) (dLed F) row = dLed (F ++ D)
  | [], F, h, _ => ⟨[], by simp [scanR], by simpa using h, by simp [scanD]⟩
  | w :: row, F, h, hk => by
    by_cases hw : w ∈ F.map (·.1)
    · have e1 : scanR k F (w :: row) = scanR k F row := by simp only [scanR, List.foldl_cons]; congr 1; unfold scanR1; rw [if_pos hw]
      have e2 : scanD (dLen F k) (dLed F) (w :: row) = scanD (dLen F k) (dLed F) row := by simp only [scanD, List.foldl_cons]; congr 1; unfold scanD1; rw [if_pos (by rw [dLed_keys]; exact hw)]
      rw [e1, e2]
      exact scanD_eq row F h hk
    · have e1 : scanR k F (w :: row) = scanR k (F ++ [(w, k)]) row := by simp only [scanR, List.foldl_cons]; congr 1; unfold scanR1; rw [if_neg hw]
      have e2 : scanD (dLen F k) (dLed F) (w :: row) = scanD (dLen F k) (dLed (F ++ [(w, k)])) row := by
        simp only [scanD, List.foldl_cons]; congr 1; unfold scanD1; rw [if_neg (by rw [dLed_keys]; exact hw), dLed_snoc h hw hk]
      have e3 : dLen (F ++ [(w, k)]) k = dLen F k := by unfold dLen; rw [chain_pre h k k hk]
      obtain ⟨D, d1, d2, d3⟩ := scanD_eq (k := k) row (F ++ [(w, k)]) (h.snoc hw hk) (by simp; omega)
      rw [e3] at d3
      exact ⟨(w, k) :: D, by rw [e1, d1]; simp, by simpa using d2, by rw [e2, d3]; simp⟩

theorem scanD_pre (d : Int) (D : Led) (row : List Int) : ∃ E, scanD d D row = D ++ E := by
  induction row generalizing D with
  | nil => exact ⟨[], by simp [scanD]⟩
  | cons w row ih =>
    obtain ⟨E, hE⟩ := ih (scanD1 d D w)
    simp only [scanD, List.foldl_cons] at hE ⊢
    unfold scanD1 at hE ⊢
    split at hE
    · rename_i h; rw [if_pos h]; exact ⟨E, hE⟩
    · rename_i h; rw [if_neg h]; exact ⟨_, by rw [hE, List.append_assoc]⟩
theorem depF_pre {near : Int → List Int} : ∀ (m k : Nat) (D Dr : Led), depF near m k D = some Dr → ∃ E, Dr = D ++ E
  | 0, _, _, _, h => by simp [depF] at h
  | m + 1, k, D, Dr, h => by
    simp only [depF] at h
    split at h
    · obtain ⟨E, hE⟩ := scanD_pre (D.getD k (0, 0)).2 D (near (D.getD k (0, 0)).1)
      rw [hE] at h
      obtain ⟨E2, rfl⟩ := depF_pre m _ _ _ h
      exact ⟨E ++ E2, by simp⟩
    · injection h with h; exact ⟨[], by rw [← h]; simp⟩
theorem run_dep {near : Int → List Int} {from' to : Int} : ∀ (n k : Nat) (F : Fnd) (R : Option (Fnd × Nat)) (m : Nat) (Dr : Led), FG from' F → refRun near (fun _ => true) to n k F = some R → (∀ j, j < k → j < F.length → fAt F j ≠ to) → depF near m k (dLed F) = some Dr →
    (R = none → ledBy Dr to = none) ∧ ∀ G p, R = some (G, p) → ledBy Dr to = some (dLen G p : Int) := by
  intro n
  induction n with
  | zero =>
    intro k F R m Dr h hr hno hd
    simp only [refRun] at hr
    split at hr
    · cases hr
    · rename_i hk
      injection hr with hr
      subst hr
      refine ⟨fun _ => ?_, fun G p e => by cases e⟩
      cases m with
      | zero => simp [depF] at hd
      | succ m =>
        simp only [depF, dLed_len, if_neg hk] at hd
        injection hd with hd
        subst hd
        refine ledBy_none fun hin => ?_
        rw [dLed_keys] at hin
        obtain ⟨x, hx, e⟩ := List.mem_map.1 hin
        obtain ⟨j, hj, e1, _⟩ := mem_at hx
        exact hno j (by omega) hj (e1.trans e)
  | succ n ih =>
    intro k F R m Dr h hr hno hd
    simp only [refRun] at hr
    split at hr
    · rename_i hk
      split at hr
      · rename_i hf
        injection hr with hr
        subst hr
        refine ⟨fun e => (by cases e), fun G p e => ?_⟩
        rw [Option.some.injEq, Prod.mk.injEq] at e
        obtain ⟨e1, e2⟩ := e
        subst e1; subst e2
        obtain ⟨E, rfl⟩ := depF_pre m k _ _ hd
        have h1 : ledBy (dLed F) to = some (dLen F k : Int) := by
          have := led_nodup (D := dLed F) (by rw [dLed_keys]; exact h.nd) (k := k) (by rw [dLed_len]; exact hk)
          rw [dLed_get F k hk, hf] at this
          exact this
        rw [ledBy_append (by rw [dLed_keys, ← hf]; exact at_mem hk)]
        exact h1
      · rename_i hf
        rw [if_pos (.inr trivial)] at hr
        cases m with
        | zero => simp [depF] at hd
        | succ m =>
          simp only [depF, dLed_len, if_pos hk, dLed_get F k hk] at hd
          obtain ⟨D, d1, d2, d3⟩ := scanD_eq (k := k) (near (fAt F k)) F h hk
          rw [d3] at hd
          rw [d1] at hr
          refine ih (k + 1) (F ++ D) R m Dr d2 hr (fun j hj hjl => ?_) hd
          by_cases hjF : j < F.length
          · rw [fAt_append hjF]
            by_cases hjk : j = k
            · rw [hjk]; exact hf
            · exact hno j (by omega) hjF
          · omega
    · rename_i hk
      injection hr with hr
      subst hr
      refine ⟨fun _ => ?_, fun G p e => by cases e⟩
      cases m with
      | zero => simp [depF] at hd
      | succ m =>
        simp only [depF, dLed_len, if_neg hk] at hd
        injection hd with hd
        subst hd
        refine ledBy_none fun hin => ?_
        rw [dLed_keys] at hin
        obtain ⟨x, hx, e⟩ := List.mem_map.1 hin
        obtain ⟨j, hj, e1, _⟩ := mem_at hx
        exact hno j (by omega) hj (e1.trans e)

end Go.Proofs.YtomfeddgeihipaaGreat.Aw

namespace Go.Proofs.YtomfeddgeihipaaGreat.Aw
open Go Go.RowKit Go.Proofs.YtomfeddgeihipaaGreat.Pl
set_option linter.unusedSimpArgs false
set_option linter.unusedVariables false

def adjB (v w : Int) (x : Ed) : Bool := (x.a == v && x.b == w) || (x.a == w && x.b == v)
theorem adjB_any (es : List Ed) (v w : Int) : es.any (adjB v w) = decide (adj es v w) := by
  rw [Bool.eq_iff_iff, List.any_eq_true, decide_eq_true_eq]
  unfold adj adjB
  constructor
  · rintro ⟨x, hx, h⟩
    exact ⟨x, hx, by simpa using h⟩
  · rintro ⟨x, hx, h⟩
    exact ⟨x, hx, by simpa using h⟩
theorem any_takeE (l : List Ed) (p : Ed → Bool) (k : Nat) (hk : k < l.length) : (l.take (k + 1)).any p = ((l.take k).any p || p (l.getD k ed0)) := by
  rw [List.take_succ_eq_append_getElem hk, List.any_append, List.getD_eq_getElem?_getD, List.getElem?_eq_getElem hk]
  simp
theorem filter_takeI (l : List Int) (p : Int → Bool) (k : Nat) (hk : k < l.length) : (l.take (k + 1)).filter p = (l.take k).filter p ++ if p (l.getD k 0) = true then [l.getD k 0] else [] := by
  rw [List.take_succ_eq_append_getElem hk, List.filter_append, List.getD_eq_getElem?_getD, List.getElem?_eq_getElem hk]
  by_cases h : p l[k] = true <;> simp [h]

theorem box_neT {st : St} {a b : Nat} {x y : LObj} (ha : st.H a = x) (hb : st.H b = y) (h : x ≠ y) : ¬ a = b := fun e => h (by rw [← ha, e, hb])
def OwnT (t : Nat) (lo : St) (l : List Int) (st : St) : Prop := t ≠ 0 ∧ lo.next ≤ t ∧ t < st.next ∧ st.H t = .own 41 1 l.length

set_option maxHeartbeats 2000000 in
theorem ref_nNear (g : Gr) (v : Int) (st : St) (hv : g.vs.length ≤ 1000) (he : g.es.length ≤ 1000) :
    ACalls Tryz.prog 35 [.ag (grL g), u v] st fun r st' => r = .sl 0 (g.vs.filter fun w => decide (adj g.es v w)).length (us (g.vs.filter fun w => decide (adj g.es v w))) ∧ Keeps st st' := by
  have hel := eds_length g.es
  refine acalls_z0 ?_
  refine acalls_of_body tabOk Tryz.func35 rfl rfl Tryz.ntmps35 (rs := [.tmp 4]) rfl (by simp) ?_
  refine awp_posG fun hpos => ?_
  (repeat' (first | refine awp_seq ?_ | refine awp_block ?_ | (refine w_e [] ?_; intro J hJ; simp only []; simp []; (refine hJ _ _ ?_; clear hJ J; simp only [ak, reduceIte]))))
  refine awp_own 5 41 1 (by simp) ?_
  refine awp_range 14 13 15 53 (g.vs.length) (fun j fr st2 => fr 1 = u v ∧ fr 2 = .pt st.next 0 ∧ fr 12 = .sl 0 g.vs.length (us g.vs) ∧ st2.H st.next = .box 38 2 (grL g) ∧ st.next < st2.next ∧ Keeps st st2 ∧ ∃ t, fr 5 = .sl t ((g.vs.take j).filter fun w => g.es.any (adjB v w)).length (us ((g.vs.take j).filter fun w => g.es.any (adjB v w))) ∧ OwnT t st ((g.vs.take j).filter fun w => g.es.any (adjB v w)) st2) ?_ ?_ ?_
  · exact ⟨by simp, by simp, by simp, by simp, by simp; omega, (Keeps.new _ _).trans (Keeps.new _ _), st.next + 1, by simp, by omega, by omega, by simp, by simp⟩
  · rintro j0 fr s hlt ⟨f1, f2, f12, hG, hsn, hkp, t, f5, t1, t2, t3, t4⟩ fi fn JO hJO
    have hd := us_drop_getD g.vs j0 hlt
    have htk := filter_takeI g.vs (fun w => g.es.any (adjB v w)) j0 hlt
    have hfl := List.length_filter_le (fun w => g.es.any (adjB v w)) (g.vs.take j0)
    rw [List.length_take] at hfl
    generalize g.vs.getD j0 0 = w at *
    generalize hF : (g.vs.take j0).filter (fun w => g.es.any (adjB v w)) = F at *
    (repeat' (first | refine awp_seq ?_ | refine awp_block ?_ | (refine w_e [] ?_; intro J hJ; simp only []; simp [f1, f2, f12, fi, fn, hd, hlt, hG]; (refine hJ _ _ ?_; clear hJ J; simp only [ak, reduceIte]))))
    refine awp_range 21 20 22 47 (g.es.length) (fun j fr st2 => fr 14 = i j0 ∧ fr 13 = i g.vs.length ∧ fr 1 = u v ∧ fr 2 = .pt st.next 0 ∧ fr 12 = .sl 0 g.vs.length (us g.vs) ∧ fr 5 = .sl t F.length (us F) ∧ fr 7 = u w ∧ fr 8 = bb ((g.es.take j).any (adjB v w)) ∧ fr 19 = .sl 0 g.es.length (eds g.es) ∧ Keeps s st2) ?_ ?_ ?_
    · exact ⟨by simp [fi], by simp [fn], by simp [f1], by simp [f2], by simp [f12], by simp [f5], by simp, by simp, by simp, Keeps.refl _⟩
    · rintro k fr s2 hlt2 ⟨F14, F13, F1, F2, F12, F5, F7, F8, F19, hk2⟩ Fi Fn J hJ
      have hd2 := eds_drop g.es k hlt2
      have hk3 : k * 3 < g.es.length * 3 := by omega
      have han := any_takeE g.es (adjB v w) k hlt2
      generalize g.es.getD k ed0 = x at *
      obtain ⟨id, a, b⟩ := x
      generalize (g.es.take k).any (adjB v w) = is at *
      simp only [adjB] at han
      have fin : ∀ (fr : Frm) (is' : Bool) (s' : St), fr 21 = i k → fr 20 = i g.es.length → fr 14 = i j0 → fr 13 = i g.vs.length → fr 1 = u v → fr 2 = .pt st.next 0 → fr 12 = .sl 0 g.vs.length (us g.vs) → fr 5 = .sl t F.length (us F) → fr 7 = u w → fr 8 = bb is' → fr 19 = .sl 0 g.es.length (eds g.es) → Keeps s s' → is' = (g.es.take (k + 1)).any (adjB v w) → J fr s' :=
        fun fr is' s' g1 g2 g3 g4 g5 g6 g7 g8 g9 g10 g11 g12 g13 => hJ _ _ g1 g2 ⟨by simp [g3], by simp [g4], by simp [g5], by simp [g6], by simp [g7], by simp [g8], by simp [g9], by simp [g10, g13], by simp [g11], g12⟩
      cases e1 : (a == v) <;> cases e2 : (b == w) <;> cases e3 : (a == w) <;> cases e4 : (b == v)
      all_goals
        rw [e1, e2, e3, e4] at han
        (repeat' (first | refine awp_seq ?_ | (refine awp_skip ?_; simp only [ak, reduceIte]) | (refine awp_cond ?_; simp [F1, F7, F19, Fi, Fn, hd2, hel, hk3, hlt2, e1, e2, e3, e4]) | (refine w_e [] ?_; intro J hJ; simp only []; simp [F1, F7, F19, Fi, Fn, hd2, hel, hk3, hlt2, e1, e2, e3, e4]; (refine hJ _ _ ?_; clear hJ J; simp only [ak, reduceIte]))))
        refine fin _ _ _ (by simp [Fi]) (by simp [Fn]) (by simp [F14]) (by simp [F13]) (by simp [F1]) (by simp [F2]) (by simp [F12]) (by simp [F5]) (by simp [F7]) (by first | exact F8 | simp [F8]; rfl | simp; rfl) (by simp [F19]) (hk2.trans (Keeps.new _ _)) (by rw [han]; simp)
    · rintro fr s2 ⟨F14, F13, F1, F2, F12, F5, F7, F8, F19, hk2⟩
      rw [List.take_length] at F8
      have hn2 := hk2.next
      have hG2 := (hk2.H st.next hsn).trans hG
      have t42 := (hk2.H t t3).trans t4
      have q1 : ¬ t = s2.next := by omega
      cases his : g.es.any (adjB v w)
      · rw [his, if_neg (by simp), List.append_nil] at htk
        rw [his] at F8
        (repeat' (first | refine awp_seq ?_ | (refine awp_skip ?_; simp only [ak, reduceIte]) | (refine awp_cond ?_; simp [F8]) | (refine w_e [] ?_; intro J hJ; simp only []; simp [F8]; (refine hJ _ _ ?_; clear hJ J; simp only [ak, reduceIte]))))
        exact hJO _ _ (by simp [F14]) (by simp [F13]) ⟨by simp [F1], by simp [F2], by simp [F12], hG2, by omega, hkp.trans hk2, t, by rw [htk]; simp [F5], t1, t2, by omega, by rw [htk]; exact t42⟩
      · rw [his, if_pos rfl] at htk
        rw [his] at F8
        (repeat' (first | refine awp_seq ?_ | (refine awp_cond ?_; simp [F8, F5, F7, t42, q1, t1]) | (refine w_e [] ?_; intro J hJ; simp only []; simp [F8, F5, F7, t42, q1, t1]; (repeat refine ca ?_); (refine hJ _ _ ?_; clear hJ J; simp only [ak, reduceIte]))))
        refine hJO _ _ (by simp [F14]) (by simp [F13]) ⟨by simp [F1], by simp [F2], by simp [F12], ?_, by simp; omega, ?_, s2.next + 1, by rw [htk]; simp, by omega, by omega, by simp, by rw [htk]; simp⟩
        · have q2 : ¬ st.next = t := box_neT hG (t4) (by simp)
          (repeat (first | rw [new_H, if_neg (α := LObj) (by (try simp only [set_next, new_next]); omega)] | rw [set_H, if_neg (α := LObj) (by omega)] | rw [new_H, if_pos (α := LObj) (by (try simp only [set_next, new_next]))] | rw [set_H, if_pos (α := LObj) (by omega)])); exact hG2
        · exact ((((hkp.trans hk2).trans (Keeps.new _ _)).set t2 _).trans (Keeps.new _ _))
  · rintro fr s ⟨f1, f2, f12, hG, hsn, hkp, t, f5, t1, t2, t3, t4⟩
    rw [List.take_length] at f5
    (repeat' (first | refine awp_seq ?_ | (refine awp_ret ?_; simp only [ak, reduceIte]; simp [f5]) | (refine w_e [] ?_; intro J hJ; simp only []; simp [f5]; (refine hJ _ _ ?_; clear hJ J; simp only [ak, reduceIte]))))
    refine ⟨?_, hkp⟩
    simp only [z0, z0_us]
    have e : (g.vs.filter fun w => g.es.any (adjB v w)) = g.vs.filter fun w => decide (adj g.es v w) := List.filter_congr fun w _ => adjB_any g.es v w
    rw [e]

end Go.Proofs.YtomfeddgeihipaaGreat.Aw
