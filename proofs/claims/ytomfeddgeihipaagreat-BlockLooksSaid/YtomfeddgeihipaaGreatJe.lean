/- Edges beside each other, bundles by the document; edges held against themselves. block.Bare: without vertices that have no edges. block.nearby: the near ones of each vertex, rising; Near. A graph that may be, in words. No program. The law BlockLooks. -/
import Derived.Test.YtomfeddgeihipaaGreatJd
import Derived.Test.YtomfeddgeihipaaGreatAwFz
import Derived.Test.YtomfeddgeihipaaGreatAwMr4
import Derived.Test.YtomfeddgeihipaaGreatAwRg
namespace Go.Proofs.YtomfeddgeihipaaGreat.Aw
open Go Go.RowKit Go.Proofs.YtomfeddgeihipaaGreat.Pl
set_option linter.unusedSimpArgs false
set_option linter.unusedVariables false

theorem Beside (x y : Ed) (st : St) : ACalls Tryz.prog 84 [.ag (edL x), .ag (edL y)] st fun r st' => r = bb (bes x y) ∧ Keeps st st' := by
  obtain ⟨d, a, b⟩ := x
  obtain ⟨d', a', b'⟩ := y
  refine acalls_of_body tabOk Tryz.func84 rfl rfl Tryz.ntmps84 (rs := [.tmp 4]) rfl (by simp) ?_
  have hb : bes ⟨d, a, b⟩ ⟨d', a', b'⟩ = ((a == a' && b == b') || (a == b' && b == a')) := by
    unfold bes
    rw [Bool.eq_iff_iff]
    simp
  rw [hb]
  have e1 : ¬ st.next = st.next + 1 := by omega
  cases h1 : (a == a') <;> cases h2 : (b == b') <;> cases h3 : (a == b') <;> cases h4 : (b == a')
  all_goals
    (repeat' (first | refine awp_seq ?_ | refine awp_block ?_ | ((first | refine awp_skip ?_ | refine awp_exit ?_); simp only [ak, reduceIte]) | (refine awp_ret ?_; simp only [ak, reduceIte]; simp [h1, h2, h3, h4]) | (refine awp_cond ?_; simp [h1, h2, h3, h4]; (try with_reducible refine ⟨?_, ?_⟩) <;> (try with_reducible intro hc) <;> try (exfalso; omega)) | ((first | (refine w_e [] ?_; intro J hJ; simp only []) | (refine w_q ?_; intro J hJ) | refine e_go ?_); simp [h1, h2, h3, h4]; (repeat refine ca ?_); (try ((try with_reducible refine ⟨?_, ?_⟩) <;> (try with_reducible intro hnil) <;> refine hJ _ _ ?_ <;> clear hJ J <;> simp only [ak, reduceIte] <;> try subst hnil)))))
    exact (Keeps.new _ _).trans (Keeps.new _ _)

theorem EqualE (l : List Ed) (t t' : Nat) (st : St) (hl : l.length ≤ 1048576) :
    ACalls Tryz.prog 36 [.sl t l.length (eds l), .sl t' l.length (eds l)] st fun r st' => r = bb true ∧ st' = st := by
  have hel := eds_length l
  refine acalls_of_body tabOk Tryz.func36 rfl rfl Tryz.ntmps36 (rs := [.tmp 4]) rfl (by simp) ?_
  (repeat' (first | refine awp_seq ?_ | refine awp_block ?_ | ((first | refine awp_skip ?_ | refine awp_exit ?_); simp only [ak, reduceIte]) | (refine awp_ret ?_; simp only [ak, reduceIte]; simp []) | (refine awp_cond ?_; simp []; (try with_reducible refine ⟨?_, ?_⟩) <;> (try with_reducible intro hc) <;> try (exfalso; omega)) | ((first | (refine w_e [] ?_; intro J hJ; simp only []) | (refine w_q ?_; intro J hJ) | refine e_go ?_); simp []; (repeat refine ca ?_); (try ((try with_reducible refine ⟨?_, ?_⟩) <;> (try with_reducible intro hnil) <;> refine hJ _ _ ?_ <;> clear hJ J <;> simp only [ak, reduceIte] <;> try subst hnil)))))
  refine awp_range 13 12 14 25 (l.length) (fun j fr st2 => fr 0 = .sl t l.length (eds l) ∧ fr 1 = .sl t' l.length (eds l) ∧ st2 = st) ?_ ?_ ?_
  · exact ⟨by simp, by simp, rfl⟩
  · rintro j fr s hlt ⟨f0, f1, rfl⟩ fi fn J hJ
    have hd := eds_drop l j hlt
    have hk3 : j * 3 < l.length * 3 := by omega
    (repeat' (first | refine awp_seq ?_ | refine awp_block ?_ | ((first | refine awp_skip ?_ | refine awp_exit ?_); simp only [ak, reduceIte]) | (refine awp_ret ?_; simp only [ak, reduceIte]; simp [fi, f0, f1, hlt, hd, hel, hk3]) | (refine awp_cond ?_; simp [fi, f0, f1, hlt, hd, hel, hk3]; (try with_reducible refine ⟨?_, ?_⟩) <;> (try with_reducible intro hc) <;> try (exfalso; omega)) | ((first | (refine w_e [] ?_; intro J hJ; simp only []) | (refine w_q ?_; intro J hJ) | refine e_go ?_); simp [fi, f0, f1, hlt, hd, hel, hk3]; (repeat refine ca ?_); (try ((try with_reducible refine ⟨?_, ?_⟩) <;> (try with_reducible intro hnil) <;> refine hJ _ _ ?_ <;> clear hJ J <;> simp only [ak, reduceIte] <;> try subst hnil)))))
    exact hJ _ _ (by simp [fi]) (by simp [fn]) ⟨by simp [f0], by simp [f1], rfl⟩
  · rintro fr s ⟨f0, f1, rfl⟩
    (repeat' (first | refine awp_seq ?_ | refine awp_block ?_ | ((first | refine awp_skip ?_ | refine awp_exit ?_); simp only [ak, reduceIte]) | (refine awp_ret ?_; simp only [ak, reduceIte]; simp []) | (refine awp_cond ?_; simp []; (try with_reducible refine ⟨?_, ?_⟩) <;> (try with_reducible intro hc) <;> try (exfalso; omega)) | ((first | (refine w_e [] ?_; intro J hJ; simp only []) | (refine w_q ?_; intro J hJ) | refine e_go ?_); simp []; (repeat refine ca ?_); (try ((try with_reducible refine ⟨?_, ?_⟩) <;> (try with_reducible intro hnil) <;> refine hJ _ _ ?_ <;> clear hJ J <;> simp only [ak, reduceIte] <;> try subst hnil)))))

theorem sum3 (l : List Ed) : (List.map (fun _ : Ed => 3) l).sum = l.length * 3 := by
  induction l with
  | nil => rfl
  | cons x l ih => simp only [List.map_cons, List.sum_cons, List.length_cons, ih]; omega
theorem awp_weakF {P : Program} {N : Nat} {Q : AQ} {c : Code} {fr : Frm} {st : St} (I : Frm → St → Prop) (h0 : I fr st) (h : ∀ fr st, I fr st → AWp P N c Q fr st) : AWp P N c Q fr st := h _ _ h0
/-- A bundle's numbers, of all edges. -/
def idsOf (es : List Ed) (x : Ed) : List Int := (es.filter fun y => bes x y).map (·.id)
theorem any_sE (l : List Ed) (x : Ed) : (sE l).any (bes x) = l.any (bes x) := by
  rw [Bool.eq_iff_iff, List.any_eq_true, List.any_eq_true]
  constructor
  · rintro ⟨y, hy, h⟩; exact ⟨y, sE_sub l y hy, h⟩
  · rintro ⟨y, hy, h⟩
    obtain ⟨z, hz, h2⟩ := sE_has l y hy
    exact ⟨z, hz, bes_trans h h2⟩
theorem idsOf_take (es : List Ed) (x : Ed) (k : Nat) (hk : k < es.length) : idsOf (es.take (k + 1)) x = idsOf (es.take k) x ++ if bes x (es.getD k ed0) = true then [(es.getD k ed0).id] else [] := by
  unfold idsOf
  rw [List.take_succ_eq_append_getElem hk, List.filter_append, List.map_append, List.getD_eq_getElem?_getD, List.getElem?_eq_getElem hk]
  by_cases h : bes x es[k] = true <;> simp [h]
theorem idsOf_len (es : List Ed) (x : Ed) : (idsOf es x).length ≤ es.length := by
  unfold idsOf; rw [List.length_map]; exact List.length_filter_le _ _

/-- Rows as values. -/
def cellV (l : List Int) : LV := .sl 0 l.length (us l)
def cellsV (R : List (List Int)) : List LV := R.map cellV
@[simp] theorem cellsV_len (R : List (List Int)) : (cellsV R).length = R.length := by simp [cellsV]
def RSe (g : Gr) (st0 : St) (L4 : Nat) (E : List Ed) (fr : Frm) (s : St) : Prop :=
  ∃ te tr, s.H L4 = .box 38 2 [.sl 0 g.vs.length (us g.vs), .sl te E.length (eds E)] ∧ te ≠ 0 ∧ st0.next ≤ te ∧ te < s.next ∧ s.H te = .own 43 3 E.length ∧
    (∃ C : List LV, fr 5 = .sl tr E.length C ∧ z0L C = cellsV (E.map (idsOf g.es)) ∧ C.all oneL = true ∧ C.length = E.length) ∧ tr ≠ 0 ∧ st0.next ≤ tr ∧ tr < s.next ∧ s.H tr = .own 35 1 E.length

set_option maxHeartbeats 4000000 in
theorem ref_Simple (g : Gr) (st : St) (hv : g.vs.length ≤ 1000) (he : g.es.length ≤ 1000) (hp : 0 < st.next) :
    ACalls Tryz.prog 29 [.ag (grL g)] st fun r st' => r = .tu [.ag [.sl 0 g.vs.length (us g.vs), .sl 0 (sE g.es).length (eds (sE g.es))], .sl 0 (bnd g.es).length (cellsV (bnd g.es))] ∧ Keeps st st' := by
  refine acalls_z0 ?_
  have hel := eds_length g.es
  have hn4 : ¬ st.next = st.next + 1 + 1 := by omega
  refine acalls_of_body tabOk Tryz.func29 rfl rfl Tryz.ntmps29 (rs := [.cell 2 38, .tmp 3]) rfl (by simp) ?_
  (repeat' (first | refine awp_seq ?_ | refine awp_block ?_ | ((first | refine awp_skip ?_ | refine awp_exit ?_); simp only [ak, reduceIte]) | (refine awp_ret ?_; simp only [ak, reduceIte]; simp [hn4]) | (refine awp_cond ?_; simp [hn4]; (try with_reducible refine ⟨?_, ?_⟩) <;> (try with_reducible intro hc) <;> try (exfalso; omega)) | ((first | (refine w_e [] ?_; intro J hJ; simp only []) | (refine w_q ?_; intro J hJ) | refine e_go ?_); simp [hn4]; (repeat refine ca ?_); (try ((try with_reducible refine ⟨?_, ?_⟩) <;> (try with_reducible intro hnil) <;> refine hJ _ _ ?_ <;> clear hJ J <;> simp only [ak, reduceIte] <;> try subst hnil)))))
  refine awp_cell (st.next + 2) 43 3 (e := 38) (s := 2) [.sl 0 g.vs.length (us g.vs)] [] (by simp) ?_
  refine awp_own 5 35 1 (by simp) ?_
  refine awp_range 20 19 21 66 (g.es.length) (fun j fr st2 => fr 1 = .pt st.next 0 ∧ fr 2 = .pt (st.next + 1) 0 ∧ fr 4 = .pt (st.next + 2) 0 ∧ fr 18 = .sl 0 g.es.length (eds g.es) ∧ st2.H st.next = .box 38 2 (grL g) ∧ st2.H (st.next + 1) = .box 38 2 [.nil, .nil] ∧ st.next + 2 < st2.next ∧ Keeps st st2 ∧ RSe g st (st.next + 2) (sE (g.es.take j)) fr st2) ?_ ?_ ?_
  · refine ⟨by simp, by simp, by simp, by simp, by simp [hn4], by simp, by simp, ?_, st.next + 3, st.next + 4, by simp [sE], by omega, by omega, by simp, by simp [sE], ⟨[], by simp [sE], by simp [sE, cellsV, z0L], by simp, by simp [sE]⟩, by omega, by omega, by simp, by simp [sE]⟩
    refine ⟨by simp; omega, fun l hl => ?_⟩
    (repeat (first | rw [new_H, if_neg (α := LObj) (by (try simp only [set_next, new_next]); omega)] | rw [set_H, if_neg (α := LObj) (by omega)] | rw [new_H, if_pos (α := LObj) (by (try simp only [set_next, new_next]))] | rw [set_H, if_pos (α := LObj) (by omega)]))
  · rintro j0 fr s hlt ⟨f1, f2, f4, f18, hG, h2, hsn, hkp, te, tr, h4, te0, te1, te2, hte, ⟨C, f5, hC1, hC2, hC3⟩, tr0, tr1, tr2, htr⟩ fi fn JO hJO
    have hd := eds_drop g.es j0 hlt
    have hk3 : j0 * 3 < g.es.length * 3 := by omega
    have hany := any_sE (g.es.take j0) (g.es.getD j0 ed0)
    have htk1 : g.es.take (j0 + 1) = g.es.take j0 ++ [g.es.getD j0 ed0] := by
      rw [List.getD_eq_getElem?_getD, List.getElem?_eq_getElem hlt]; exact List.take_succ_eq_append_getElem hlt
    generalize g.es.getD j0 ed0 = x at *
    have hEl : (sE (g.es.take j0)).length ≤ 1000 := by have := sE_len (g.es.take j0); rw [List.length_take] at this; omega
    generalize hE : sE (g.es.take j0) = E at *
    have hle : (j0 : Int) ≤ g.es.length := by omega
    have e1 : ¬ st.next = s.next := by omega
    have hsl : List.take (j0 * 3) (eds g.es) = eds (g.es.take j0) := by
      have : ∀ (l : List Ed) (k : Nat), (eds l).take (k * 3) = eds (l.take k) := by
        intro l
        induction l with
        | nil => intro k; simp [eds]
        | cons y l ih =>
          intro k
          cases k with
          | zero => simp [eds]
          | succ k =>
            rw [show (k + 1) * 3 = k * 3 + 1 + 1 + 1 by omega]
            simp only [eds, List.flatMap_cons, edL, List.cons_append, List.nil_append, List.take_succ_cons] at ih ⊢
            rw [ih k]
      exact this _ _
    have hTl : (g.es.take j0).length = j0 := by rw [List.length_take]; omega
    have hpl := eds_length (g.es.take j0)
    generalize g.es.take j0 = T at *
    have hany2 : ∀ (k : Nat), k < T.length → ((T.take (k + 1)).any (bes x)) = ((T.take k).any (bes x) || bes x (T.getD k ed0)) := fun k hk => any_takeE T (bes x) k hk
    (repeat' (first | refine awp_seq ?_ | refine awp_block ?_ | ((first | refine awp_skip ?_ | refine awp_exit ?_); simp only [ak, reduceIte]) | (refine awp_ret ?_; simp only [ak, reduceIte]; simp [f1, f18, fi, fn, hd, hel, hk3, hlt, hG, e1, hle, hsl]) | (refine awp_cond ?_; simp [f1, f18, fi, fn, hd, hel, hk3, hlt, hG, e1, hle, hsl]; (try with_reducible refine ⟨?_, ?_⟩) <;> (try with_reducible intro hc) <;> try (exfalso; omega)) | ((first | (refine w_e [] ?_; intro J hJ; simp only []) | (refine w_q ?_; intro J hJ) | refine e_go ?_); simp [f1, f18, fi, fn, hd, hel, hk3, hlt, hG, e1, hle, hsl]; (repeat refine ca ?_); (try ((try with_reducible refine ⟨?_, ?_⟩) <;> (try with_reducible intro hnil) <;> refine hJ _ _ ?_ <;> clear hJ J <;> simp only [ak, reduceIte] <;> try subst hnil)))))
    refine awp_range 30 29 31 37 (j0) (fun j fr st2 => fr 1 = .pt st.next 0 ∧ fr 2 = .pt (st.next + 1) 0 ∧ fr 4 = .pt (st.next + 2) 0 ∧ fr 18 = .sl 0 g.es.length (eds g.es) ∧ fr 20 = i j0 ∧ fr 19 = i g.es.length ∧ fr 7 = .pt s.next 0 ∧ fr 5 = .sl tr E.length C ∧ fr 28 = .sl 0 j0 (eds T) ∧ fr 8 = bb (!(T.take j).any (bes x)) ∧ s.next < st2.next ∧ Keeps (s.new (.box 43 3 (edL x))) st2) ?_ ?_ ?_
    · exact ⟨by simp [f1], by simp [f2], by simp [f4], by simp [f18], by simp [fi], by simp [fn], by simp, by simp [f5], by simp, by simp, by simp, Keeps.refl _⟩
    · rintro k fr s2 hlt2 ⟨F1, F2, F4, F18, F20, F19, F7, F5, F28, F8, hs2, hk2⟩ Fi Fn J hJ
      have hlt3 : k < T.length := by omega
      have hd2 := eds_drop T k hlt3
      have hk4 : k * 3 < T.length * 3 := by omega
      have ha := hany2 k hlt3
      generalize T.getD k ed0 = y at *
      have hX2 := hk2.H s.next (by simp)
      simp only [new_H, if_pos] at hX2
      have e2 : ¬ s.next = s2.next := by omega
      have fin : ∀ (f : Frm) (b : Bool) (s' : St), f 30 = i k → f 29 = i j0 → f 1 = .pt st.next 0 → f 2 = .pt (st.next + 1) 0 → f 4 = .pt (st.next + 2) 0 → f 18 = .sl 0 g.es.length (eds g.es) → f 20 = i j0 → f 19 = i g.es.length → f 7 = .pt s.next 0 → f 5 = .sl tr E.length C → f 28 = .sl 0 j0 (eds T) → f 8 = bb b → Keeps s2 s' → b = (!(T.take (k + 1)).any (bes x)) → J f s' :=
        fun f b s' g1 g2 g3 g4 g5 g6 g7 g8 g9 g10 g11 g12 g13 g14 => hJ _ _ g1 g2 ⟨by simp [g3], by simp [g4], by simp [g5], by simp [g6], by simp [g7], by simp [g8], by simp [g9], by simp [g10], by simp [g11], by simp [g12, g14], Nat.lt_of_lt_of_le hs2 g13.next, hk2.trans g13⟩
      (repeat' (first | refine awp_seq ?_ | refine awp_block ?_ | ((first | refine awp_skip ?_ | refine awp_exit ?_); simp only [ak, reduceIte]) | (refine awp_ret ?_; simp only [ak, reduceIte]; simp [F28, F7, Fi, Fn, hd2, hpl, hk4, hlt2, hlt3, hX2, e2]) | (refine awp_cond ?_; simp [F28, F7, Fi, Fn, hd2, hpl, hk4, hlt2, hlt3, hX2, e2]; (try with_reducible refine ⟨?_, ?_⟩) <;> (try with_reducible intro hc) <;> try (exfalso; omega)) | ((first | (refine w_e [] ?_; intro J hJ; simp only []) | (refine w_q ?_; intro J hJ) | refine e_go ?_); simp [F28, F7, Fi, Fn, hd2, hpl, hk4, hlt2, hlt3, hX2, e2]; (repeat refine ca ?_); (try ((try with_reducible refine ⟨?_, ?_⟩) <;> (try with_reducible intro hnil) <;> refine hJ _ _ ?_ <;> clear hJ J <;> simp only [ak, reduceIte] <;> try subst hnil)))))
      refine callK_ofE (Beside x y _) (by simp) ?_; rintro r s3 ⟨rfl, hk3⟩
      have hk23 : Keeps s2 s3 := (Keeps.new _ _).trans hk3
      cases hbx : bes x y
      · rw [hbx, Bool.or_false] at ha
        (repeat' (first | refine awp_seq ?_ | refine awp_block ?_ | ((first | refine awp_skip ?_ | refine awp_exit ?_); simp only [ak, reduceIte]) | (refine awp_ret ?_; simp only [ak, reduceIte]; simp []) | (refine awp_cond ?_; simp []; (try with_reducible refine ⟨?_, ?_⟩) <;> (try with_reducible intro hc) <;> try (exfalso; omega)) | ((first | (refine w_e [] ?_; intro J hJ; simp only []) | (refine w_q ?_; intro J hJ) | refine e_go ?_); simp []; (repeat refine ca ?_); (try ((try with_reducible refine ⟨?_, ?_⟩) <;> (try with_reducible intro hnil) <;> refine hJ _ _ ?_ <;> clear hJ J <;> simp only [ak, reduceIte] <;> try subst hnil)))))
        exact fin _ _ _ (by simp [Fi]) (by simp [Fn]) (by simp [F1]) (by simp [F2]) (by simp [F4]) (by simp [F18]) (by simp [F20]) (by simp [F19]) (by simp [F7]) (by simp [F5]) (by simp [F28]) (by simp; exact F8) hk23 (by rw [ha])
      · rw [hbx, Bool.or_true] at ha
        (repeat' (first | refine awp_seq ?_ | refine awp_block ?_ | ((first | refine awp_skip ?_ | refine awp_exit ?_); simp only [ak, reduceIte]) | (refine awp_ret ?_; simp only [ak, reduceIte]; simp []) | (refine awp_cond ?_; simp []; (try with_reducible refine ⟨?_, ?_⟩) <;> (try with_reducible intro hc) <;> try (exfalso; omega)) | ((first | (refine w_e [] ?_; intro J hJ; simp only []) | (refine w_q ?_; intro J hJ) | refine e_go ?_); simp []; (repeat refine ca ?_); (try ((try with_reducible refine ⟨?_, ?_⟩) <;> (try with_reducible intro hnil) <;> refine hJ _ _ ?_ <;> clear hJ J <;> simp only [ak, reduceIte] <;> try subst hnil)))))
        exact fin _ false _ (by simp [Fi]) (by simp [Fn]) (by simp [F1]) (by simp [F2]) (by simp [F4]) (by simp [F18]) (by simp [F20]) (by simp [F19]) (by simp [F7]) (by simp [F5]) (by simp [F28]) (by simp) hk23 (by rw [ha]; rfl)
    · rintro fr s2 ⟨F1, F2, F4, F18, F20, F19, F7, F5, F28, F8, hs2, hk2⟩
      rw [List.take_of_length_le (by omega), ← hany] at F8
      simp only [ak]
      have hK2 : Keeps st s2 := (hkp.trans (Keeps.new _ _)).trans hk2
      have old : ∀ l, l < s.next → s2.H l = s.H l := fun l hl => by
        rw [hk2.H l (by simp; omega)]; rw [new_H, if_neg (by omega)]
      have hG2 := (old _ (by omega)).trans hG
      have h22 := (old _ (by omega)).trans h2
      have h42 := (old _ (by omega)).trans h4
      have hte2 := (old _ te2).trans hte
      have htr2 := (old _ tr2).trans htr
      have hX2 := hk2.H s.next (by simp)
      simp only [new_H, if_pos] at hX2
      cases hA : E.any (bes x)
      rotate_left
      · have hsn := sE_snoc T x
        rw [hE, hA, if_pos rfl] at hsn
        rw [hA] at F8
        (repeat' (first | refine awp_seq ?_ | refine awp_block ?_ | ((first | refine awp_skip ?_ | refine awp_exit ?_); simp only [ak, reduceIte]) | (refine awp_ret ?_; simp only [ak, reduceIte]; simp [F8]) | (refine awp_cond ?_; simp [F8]; (try with_reducible refine ⟨?_, ?_⟩) <;> (try with_reducible intro hc) <;> try (exfalso; omega)) | ((first | (refine w_e [] ?_; intro J hJ; simp only []) | (refine w_q ?_; intro J hJ) | refine e_go ?_); simp [F8]; (repeat refine ca ?_); (try ((try with_reducible refine ⟨?_, ?_⟩) <;> (try with_reducible intro hnil) <;> refine hJ _ _ ?_ <;> clear hJ J <;> simp only [ak, reduceIte] <;> try subst hnil)))))
        refine hJO _ _ (by simp [F20]) (by simp [F19]) ⟨by simp [F1], by simp [F2], by simp [F4], by simp [F18], hG2, h22, by omega, hK2, ?_⟩
        rw [htk1, hsn]
        exact ⟨te, tr, h42, te0, te1, by omega, hte2, ⟨C, by simp [F5], hC1, hC2, hC3⟩, tr0, tr1, by omega, htr2⟩
      · have hsn := sE_snoc T x
        rw [hE, hA, if_neg (by simp)] at hsn
        rw [hA] at F8
        have c0 : ¬ te = s2.next := by omega
        have c1 : ¬ st.next + 2 = s2.next := by omega
        have c2 : ¬ st.next + 2 = s2.next + 1 := by omega
        have c2b : ¬ st.next = s2.next := by omega
        have c2c : ¬ st.next = s2.next + 1 := by omega
        have c3 : ¬ st.next + 2 = te := box_neT h42 hte2 (by simp)
        have c4 : ¬ st.next = te := box_neT hG2 hte2 (by simp)
        have c5 : ¬ st.next = st.next + 2 := by omega
        have c6 : ¬ s.next = te := by omega
        have c7 : ¬ s.next = s2.next := by omega
        have c8 : ¬ s.next = s2.next + 1 := by omega
        have c9 : ¬ s.next = st.next + 2 := by omega
        have hsm := sum3 E
        (repeat' (first | refine awp_seq ?_ | refine awp_block ?_ | ((first | refine awp_skip ?_ | refine awp_exit ?_); simp only [ak, reduceIte]) | (refine awp_ret ?_; simp only [ak, reduceIte]; simp [F8, F4, F7, F1, h42, hte2, hX2, hG2, te0, hsm, c0, c1, c2, c2b, c2c, c3, c4, c5, c6, c7, c8, c9]) | (refine awp_cond ?_; simp [F8, F4, F7, F1, h42, hte2, hX2, hG2, te0, hsm, c0, c1, c2, c2b, c2c, c3, c4, c5, c6, c7, c8, c9]; (try with_reducible refine ⟨?_, ?_⟩) <;> (try with_reducible intro hc) <;> try (exfalso; omega)) | ((first | (refine w_e [] ?_; intro J hJ; simp only []) | (refine w_q ?_; intro J hJ) | refine e_go ?_); simp [F8, F4, F7, F1, h42, hte2, hX2, hG2, te0, hsm, c0, c1, c2, c2b, c2c, c3, c4, c5, c6, c7, c8, c9]; (repeat refine ca ?_); (try ((try with_reducible refine ⟨?_, ?_⟩) <;> (try with_reducible intro hnil) <;> refine hJ _ _ ?_ <;> clear hJ J <;> simp only [ak, reduceIte] <;> try subst hnil)))))
        refine awp_own 11 41 1 (by simp) ?_
        refine awp_weakF (fun f s5 => f 1 = .pt st.next 0 ∧ f 2 = .pt (st.next + 1) 0 ∧ f 4 = .pt (st.next + 2) 0 ∧ f 18 = .sl 0 g.es.length (eds g.es) ∧ f 20 = i j0 ∧ f 19 = i g.es.length ∧ f 7 = .pt s.next 0 ∧ f 5 = .sl tr E.length C ∧ f 47 = .sl 0 g.es.length (eds g.es) ∧ f 48 = i g.es.length ∧ f 49 = i (0 : Nat) ∧ s5.H st.next = .box 38 2 (grL g) ∧ s5.H (st.next + 1) = .box 38 2 [.nil, .nil] ∧ s5.H s.next = .box 43 3 (edL x) ∧ s5.H tr = .own 35 1 E.length ∧ s2.next + 1 < s5.next ∧ Keeps st s5 ∧ s5.H (s2.next + 1) = .own 43 3 (E ++ [x]).length ∧ s5.H (st.next + 2) = .box 38 2 [.sl 0 g.vs.length (us g.vs), .sl (s2.next + 1) (E ++ [x]).length (eds (E ++ [x]))] ∧ OwnT (s2.next + 2) st [] s5 ∧ f 11 = .sl (s2.next + 2) 0 []) ?_ ?_
        · have d1 : ¬ tr = te := box_neT htr2 hte2 (by simp)
          have d2 : ¬ tr = st.next + 2 := box_neT htr2 h42 (by simp)
          refine ⟨by simp [F1], by simp [F2], by simp [F4], by simp [F18], by simp [F20], by simp [F19], by simp [F7], by simp [F5], by simp, by simp, by simp, ?_, ?_, ?_, ?_, by simp, ?_, ?_, ?_, ⟨by omega, by omega, by simp, by simp⟩, by simp⟩
          · have d3 : ¬ st.next = te := c4
            (repeat (first | rw [new_H, if_neg (α := LObj) (by (try simp only [set_next, new_next]); omega)] | rw [set_H, if_neg (α := LObj) (by omega)] | rw [new_H, if_pos (α := LObj) (by (try simp only [set_next, new_next]))] | rw [set_H, if_pos (α := LObj) (by omega)])); exact hG2
          · have d3 : ¬ st.next + 1 = te := box_neT h22 hte2 (by simp)
            (repeat (first | rw [new_H, if_neg (α := LObj) (by (try simp only [set_next, new_next]); omega)] | rw [set_H, if_neg (α := LObj) (by omega)] | rw [new_H, if_pos (α := LObj) (by (try simp only [set_next, new_next]))] | rw [set_H, if_pos (α := LObj) (by omega)])); exact h22
          · (repeat (first | rw [new_H, if_neg (α := LObj) (by (try simp only [set_next, new_next]); omega)] | rw [set_H, if_neg (α := LObj) (by omega)] | rw [new_H, if_pos (α := LObj) (by (try simp only [set_next, new_next]))] | rw [set_H, if_pos (α := LObj) (by omega)])); exact hX2
          · (repeat (first | rw [new_H, if_neg (α := LObj) (by (try simp only [set_next, new_next]); omega)] | rw [set_H, if_neg (α := LObj) (by omega)] | rw [new_H, if_pos (α := LObj) (by (try simp only [set_next, new_next]))] | rw [set_H, if_pos (α := LObj) (by omega)])); exact htr2
          · refine ⟨by have := hK2.next; simp; omega, fun l hl => ?_⟩
            (repeat (first | rw [new_H, if_neg (α := LObj) (by (try simp only [set_next, new_next]); omega)] | rw [set_H, if_neg (α := LObj) (by omega)] | rw [new_H, if_pos (α := LObj) (by (try simp only [set_next, new_next]))] | rw [set_H, if_pos (α := LObj) (by omega)])); exact hK2.H l hl
          · (repeat (first | rw [new_H, if_neg (α := LObj) (by (try simp only [set_next, new_next]); omega)] | rw [set_H, if_neg (α := LObj) (by omega)] | rw [new_H, if_pos (α := LObj) (by (try simp only [set_next, new_next]))] | rw [set_H, if_pos (α := LObj) (by omega)])); simp
          · (repeat (first | rw [new_H, if_neg (α := LObj) (by (try simp only [set_next, new_next]); omega)] | rw [set_H, if_neg (α := LObj) (by omega)] | rw [new_H, if_pos (α := LObj) (by (try simp only [set_next, new_next]))] | rw [set_H, if_pos (α := LObj) (by omega)])); simp [eds]
        clear F1 F2 F4 F18 F20 F19 F7 F5 F28 F8 hK2 old hG2 h22 h42 hte2 htr2 hX2 c0 c1 c2 c2b c2c c3 c4 c5 c6 c7 c8 c9 fr
        rintro fr s5 ⟨F1, F2, F4, F18, F20, F19, F7, F5, F47, F48, F49, hG5, h25, hX5, htr5, hs5, hK5, hte5, h45, hid0, F11⟩
        refine awp_range 49 48 50 61 g.es.length (fun j fr st2 => fr 1 = .pt st.next 0 ∧ fr 2 = .pt (st.next + 1) 0 ∧ fr 4 = .pt (st.next + 2) 0 ∧ fr 18 = .sl 0 g.es.length (eds g.es) ∧ fr 20 = i j0 ∧ fr 19 = i g.es.length ∧ fr 7 = .pt s.next 0 ∧ fr 5 = .sl tr E.length C ∧ fr 47 = .sl 0 g.es.length (eds g.es) ∧ s5.next ≤ st2.next ∧ (∀ l, l < s5.next → l ≠ s2.next + 2 → st2.H l = s5.H l) ∧ ∃ t, fr 11 = .sl t (idsOf (g.es.take j) x).length (us (idsOf (g.es.take j) x)) ∧ OwnT t st (idsOf (g.es.take j) x) st2 ∧ (t = s2.next + 2 ∨ s5.next ≤ t)) ?_ ?_ ?_ (hti := F49) (htn := F48)
        · exact ⟨F1, F2, F4, F18, F20, F19, F7, F5, F47, Nat.le_refl _, fun _ _ _ => rfl, s2.next + 2, by rw [F11]; simp [idsOf], by simpa [idsOf] using hid0, .inl rfl⟩
        · clear F1 F2 F4 F18 F20 F19 F7 F5 F47 F48 F49 F11 hid0 fr
          rintro k fr s6 hlt6 ⟨F1, F2, F4, F18, F20, F19, F7, F5, F47, hs6, hold6, t, F11, ⟨t1, t2, t3, t4⟩, t5⟩ Fi Fn J hJ
          have hd6 := eds_drop g.es k hlt6
          have hk6 : k * 3 < g.es.length * 3 := by omega
          have hit := idsOf_take g.es x k hlt6
          have hil := idsOf_len (g.es.take k) x
          rw [List.length_take] at hil
          generalize g.es.getD k ed0 = y at *
          generalize hI : idsOf (g.es.take k) x = I0 at *
          have hX6 := (hold6 s.next (by omega) (by omega)).trans hX5
          have g1 : ¬ s.next = s6.next := by omega
          have fin : ∀ (f : Frm) (s' : St), f 49 = i k → f 48 = i g.es.length → f 1 = .pt st.next 0 → f 2 = .pt (st.next + 1) 0 → f 4 = .pt (st.next + 2) 0 → f 18 = .sl 0 g.es.length (eds g.es) → f 20 = i j0 → f 19 = i g.es.length → f 7 = .pt s.next 0 → f 5 = .sl tr E.length C → f 47 = .sl 0 g.es.length (eds g.es) → s5.next ≤ s'.next → (∀ l, l < s5.next → l ≠ s2.next + 2 → s'.H l = s5.H l) → (∃ t, f 11 = .sl t (idsOf (g.es.take (k + 1)) x).length (us (idsOf (g.es.take (k + 1)) x)) ∧ OwnT t st (idsOf (g.es.take (k + 1)) x) s' ∧ (t = s2.next + 2 ∨ s5.next ≤ t)) → J f s' :=
            fun f s' a1 a2 a3 a4 a5 a6 a7 a8 a9 a10 a11 a12 a13 ⟨t, b1, b2, b3⟩ => hJ _ _ a1 a2 ⟨by simp [a3], by simp [a4], by simp [a5], by simp [a6], by simp [a7], by simp [a8], by simp [a9], by simp [a10], by simp [a11], a12, a13, t, by simp [b1], b2, b3⟩
          (repeat' (first | refine awp_seq ?_ | refine awp_block ?_ | ((first | refine awp_skip ?_ | refine awp_exit ?_); simp only [ak, reduceIte]) | (refine awp_ret ?_; simp only [ak, reduceIte]; simp [F47, F7, Fi, Fn, hd6, hel, hk6, hlt6, hX6, g1]) | (refine awp_cond ?_; simp [F47, F7, Fi, Fn, hd6, hel, hk6, hlt6, hX6, g1]; (try with_reducible refine ⟨?_, ?_⟩) <;> (try with_reducible intro hc) <;> try (exfalso; omega)) | ((first | (refine w_e [] ?_; intro J hJ; simp only []) | (refine w_q ?_; intro J hJ) | refine e_go ?_); simp [F47, F7, Fi, Fn, hd6, hel, hk6, hlt6, hX6, g1]; (repeat refine ca ?_); (try ((try with_reducible refine ⟨?_, ?_⟩) <;> (try with_reducible intro hnil) <;> refine hJ _ _ ?_ <;> clear hJ J <;> simp only [ak, reduceIte] <;> try subst hnil)))))
          refine callK_ofE (Beside x y _) (by simp) ?_; rintro r s7 ⟨rfl, hk7⟩
          have hn7 := hk7.next
          simp only [new_next] at hn7
          have hY7 : s7.H s6.next = .box 43 3 (edL y) := by rw [hk7.H _ (by simp)]; simp
          have t47 : s7.H t = .own 41 1 I0.length := by rw [hk7.H _ (by simp; omega), new_H, if_neg (by omega)]; exact t4
          have hold7 : ∀ l, l < s5.next → l ≠ s2.next + 2 → s7.H l = s5.H l := fun l hl hne => by rw [hk7.H _ (by simp; omega), new_H, if_neg (by omega)]; exact hold6 l hl hne
          cases hbx : bes x y
          · rw [hbx, if_neg (by simp), List.append_nil] at hit
            (repeat' (first | refine awp_seq ?_ | refine awp_block ?_ | ((first | refine awp_skip ?_ | refine awp_exit ?_); simp only [ak, reduceIte]) | (refine awp_ret ?_; simp only [ak, reduceIte]; simp []) | (refine awp_cond ?_; simp []; (try with_reducible refine ⟨?_, ?_⟩) <;> (try with_reducible intro hc) <;> try (exfalso; omega)) | ((first | (refine w_e [] ?_; intro J hJ; simp only []) | (refine w_q ?_; intro J hJ) | refine e_go ?_); simp []; (repeat refine ca ?_); (try ((try with_reducible refine ⟨?_, ?_⟩) <;> (try with_reducible intro hnil) <;> refine hJ _ _ ?_ <;> clear hJ J <;> simp only [ak, reduceIte] <;> try subst hnil)))))
            exact fin _ _ (by simp [Fi]) (by simp [Fn]) (by simp [F1]) (by simp [F2]) (by simp [F4]) (by simp [F18]) (by simp [F20]) (by simp [F19]) (by simp [F7]) (by simp [F5]) (by simp [F47]) (by omega) hold7 ⟨t, by rw [hit]; simp [F11], by rw [hit]; exact ⟨t1, t2, by omega, t47⟩, t5⟩
          · rw [hbx, if_pos rfl] at hit
            have q1 : ¬ t = s7.next := by omega
            have q2 : ¬ s6.next = s7.next := by omega
            (repeat' (first | refine awp_seq ?_ | refine awp_block ?_ | ((first | refine awp_skip ?_ | refine awp_exit ?_); simp only [ak, reduceIte]) | (refine awp_ret ?_; simp only [ak, reduceIte]; simp [F11, hY7, t47, q1, q2, t1]) | (refine awp_cond ?_; simp [F11, hY7, t47, q1, q2, t1]; (try with_reducible refine ⟨?_, ?_⟩) <;> (try with_reducible intro hc) <;> try (exfalso; omega)) | ((first | (refine w_e [] ?_; intro J hJ; simp only []) | (refine w_q ?_; intro J hJ) | refine e_go ?_); simp [F11, hY7, t47, q1, q2, t1]; (repeat refine ca ?_); (try ((try with_reducible refine ⟨?_, ?_⟩) <;> (try with_reducible intro hnil) <;> refine hJ _ _ ?_ <;> clear hJ J <;> simp only [ak, reduceIte] <;> try subst hnil)))))
            refine fin _ _ (by simp [Fi]) (by simp [Fn]) (by simp [F1]) (by simp [F2]) (by simp [F4]) (by simp [F18]) (by simp [F20]) (by simp [F19]) (by simp [F7]) (by simp [F5]) (by simp [F47]) (by simp; omega) (fun l hl hne => ?_) ⟨s7.next + 1, by rw [hit]; simp, by rw [hit]; exact ⟨by omega, by omega, by simp, by simp⟩, .inr (by omega)⟩
            by_cases hlt' : l = t
            · omega
            · (repeat (first | rw [new_H, if_neg (α := LObj) (by (try simp only [set_next, new_next]); omega)] | rw [set_H, if_neg (α := LObj) (by omega)] | rw [new_H, if_pos (α := LObj) (by (try simp only [set_next, new_next]))] | rw [set_H, if_pos (α := LObj) (by omega)])); exact hold7 l hl hne
        · rintro fr s6 ⟨F1, F2, F4, F18, F20, F19, F7, F5, F47, hs6, hold6, t, F11, ⟨t1, t2, t3, t4⟩, t5⟩
          rw [List.take_length] at F11 t4
          simp only [ak]
          have t41 : ¬ st.next = s2.next + 2 := by omega
          have t42 : ¬ st.next + 1 = s2.next + 2 := by omega
          have t43 : ¬ st.next + 2 = s2.next + 2 := by omega
          have hG6 := (hold6 st.next (by omega) t41).trans hG5
          have h26 := (hold6 (st.next + 1) (by omega) t42).trans h25
          have h46 := (hold6 (st.next + 2) (by omega) t43).trans h45
          have hte6 := (hold6 (s2.next + 1) (by omega) (by omega)).trans hte5
          have htr6 := (hold6 tr (by omega) (by omega)).trans htr5
          have hil := idsOf_len g.es x
          have q1 : ¬ tr = s6.next := by omega
          have q2 : ¬ tr = t := by omega
          (repeat' (first | refine awp_seq ?_ | refine awp_block ?_ | ((first | refine awp_skip ?_ | refine awp_exit ?_); simp only [ak, reduceIte]) | (refine awp_ret ?_; simp only [ak, reduceIte]; simp [F5, F11, htr6, q1, hC3, tr0]) | (refine awp_cond ?_; simp [F5, F11, htr6, q1, hC3, tr0]; (try with_reducible refine ⟨?_, ?_⟩) <;> (try with_reducible intro hc) <;> try (exfalso; omega)) | ((first | (refine w_e [] ?_; intro J hJ; simp only []) | (refine w_q ?_; intro J hJ) | refine e_go ?_); simp [F5, F11, htr6, q1, hC3, tr0]; (repeat refine ca ?_); (try ((try with_reducible refine ⟨?_, ?_⟩) <;> (try with_reducible intro hnil) <;> refine hJ _ _ ?_ <;> clear hJ J <;> simp only [ak, reduceIte] <;> try subst hnil)))))
          refine hJO _ _ (by simp [F20]) (by simp [F19]) ⟨by simp [F1], by simp [F2], by simp [F4], by simp [F18], ?_, ?_, by simp; omega, ?_, ?_⟩
          · have : ¬ st.next = tr := box_neT hG6 htr6 (by simp)
            (repeat (first | rw [new_H, if_neg (α := LObj) (by (try simp only [set_next, new_next]); omega)] | rw [set_H, if_neg (α := LObj) (by omega)] | rw [new_H, if_pos (α := LObj) (by (try simp only [set_next, new_next]))] | rw [set_H, if_pos (α := LObj) (by omega)])); exact hG6
          · have : ¬ st.next + 1 = tr := box_neT h26 htr6 (by simp)
            (repeat (first | rw [new_H, if_neg (α := LObj) (by (try simp only [set_next, new_next]); omega)] | rw [set_H, if_neg (α := LObj) (by omega)] | rw [new_H, if_pos (α := LObj) (by (try simp only [set_next, new_next]))] | rw [set_H, if_pos (α := LObj) (by omega)])); exact h26
          · refine ⟨by have := hK5.next; simp; omega, fun l hl => ?_⟩
            have := hK5.next
            (repeat (first | rw [new_H, if_neg (α := LObj) (by (try simp only [set_next, new_next]); omega)] | rw [set_H, if_neg (α := LObj) (by omega)] | rw [new_H, if_pos (α := LObj) (by (try simp only [set_next, new_next]))] | rw [set_H, if_pos (α := LObj) (by omega)])); rw [hold6 l (by omega) (by omega)]; exact hK5.H l hl
          · rw [htk1, hsn]
            have u1 : ¬ st.next + 2 = tr := box_neT h46 htr6 (by simp)
            have u2 : ¬ s2.next + 1 = tr := box_neT hte6 htr6 (by simp)
            refine ⟨s2.next + 1, s6.next + 1, ?_, by omega, by omega, by simp; omega, ?_, ⟨C ++ [.sl t (idsOf g.es x).length (us (idsOf g.es x))], by simp, ?_, ?_, by simp [hC3]⟩, by omega, by omega, by simp, ?_⟩
            · (repeat (first | rw [new_H, if_neg (α := LObj) (by (try simp only [set_next, new_next]); omega)] | rw [set_H, if_neg (α := LObj) (by omega)] | rw [new_H, if_pos (α := LObj) (by (try simp only [set_next, new_next]))] | rw [set_H, if_pos (α := LObj) (by omega)])); exact h46
            · (repeat (first | rw [new_H, if_neg (α := LObj) (by (try simp only [set_next, new_next]); omega)] | rw [set_H, if_neg (α := LObj) (by omega)] | rw [new_H, if_pos (α := LObj) (by (try simp only [set_next, new_next]))] | rw [set_H, if_pos (α := LObj) (by omega)])); exact hte6
            · rw [z0L_append, hC1, List.map_append]
              simp [cellsV, cellV, z0L, z0]
            · simp [hC2, List.all_append, oneL]
            · (repeat (first | rw [new_H, if_neg (α := LObj) (by (try simp only [set_next, new_next]); omega)] | rw [set_H, if_neg (α := LObj) (by omega)] | rw [new_H, if_pos (α := LObj) (by (try simp only [set_next, new_next]))] | rw [set_H, if_pos (α := LObj) (by omega)])); simp
  · rintro fr s ⟨f1, f2, f4, f18, hG, h2, hsn, hkp, te, tr, h4, te0, te1, te2, hte, ⟨C, f5, hC1, hC2, hC3⟩, tr0, tr1, tr2, htr⟩
    rw [List.take_length] at h4 hC1 f5 hC3
    have c1 : ¬ st.next + 1 = st.next + 2 := by omega
    (repeat' (first | refine awp_seq ?_ | refine awp_block ?_ | ((first | refine awp_skip ?_ | refine awp_exit ?_); simp only [ak, reduceIte]) | (refine awp_ret ?_; simp only [ak, reduceIte]; simp [f2, f4, f5, h4, h2]) | (refine awp_cond ?_; simp [f2, f4, f5, h4, h2]; (try with_reducible refine ⟨?_, ?_⟩) <;> (try with_reducible intro hc) <;> try (exfalso; omega)) | ((first | (refine w_e [] ?_; intro J hJ; simp only []) | (refine w_q ?_; intro J hJ) | refine e_go ?_); simp [f2, f4, f5, h4, h2]; (repeat refine ca ?_); (try ((try with_reducible refine ⟨?_, ?_⟩) <;> (try with_reducible intro hnil) <;> refine hJ _ _ ?_ <;> clear hJ J <;> simp only [ak, reduceIte] <;> try subst hnil)))))
    refine ⟨?_, hkp.set (by omega) _⟩
    have hbl := bnd_len g.es
    have hbe : bnd g.es = (sE g.es).map (idsOf g.es) := rfl
    simp only [z0, z0L, z0_us, z0_edsB, hC1, hbe, List.length_map]

end Go.Proofs.YtomfeddgeihipaaGreat.Aw

namespace Go.Proofs.YtomfeddgeihipaaGreat.Aw
open Go Go.RowKit Go.Proofs.YtomfeddgeihipaaGreat.Pl
set_option linter.unusedSimpArgs false
set_option linter.unusedVariables false

def touch (v : Int) (x : Ed) : Bool := x.a == v || x.b == v
/-- Counts by vertices. -/
def CU (p : Int → Bool) (B : Int) (mes : List (List Int × LV)) : Prop := ∀ v, ∃ c : Int, (mget mes [v]).getD (i 0) = i c ∧ 0 ≤ c ∧ c ≤ B ∧ (0 < c ↔ p v = true)
theorem CU.one {p : Int → Bool} {B : Int} {mes : List (List Int × LV)} (h : CU p B mes) (a : Int) {c : Int} (hc : (mget mes [a]).getD (i 0) = i c) : CU (fun v => p v || v == a) (B + 1) (mset mes [a] (i (c + 1))) := by
  intro v
  obtain ⟨c0, h1, h2, h3, h4⟩ := h v
  rw [mget_mset]
  by_cases hv : v = a
  · subst hv
    rw [hc] at h1
    have hcc : c = c0 := by injection h1 with h1; injection h1
    subst hcc
    exact ⟨c + 1, by simp, by omega, by omega, by simp; omega⟩
  · rw [if_neg (by simpa using hv)]
    refine ⟨c0, h1, h2, by omega, ?_⟩
    simp [hv, h4]

set_option maxHeartbeats 1000000 in
theorem Bare (g : Gr) (st : St) (hv : g.vs.length ≤ 1000) (he : g.es.length ≤ 1000) (hp : 0 < st.next) :
    ACalls Tryz.prog 32 [.ag (grL g)] st fun r st' => r = .ag (grL ⟨g.vs.filter fun v => g.es.any (touch v), g.es⟩) ∧ Keeps st st' := by
  refine acalls_z0 ?_
  have hel := eds_length g.es
  refine acalls_of_body tabOk Tryz.func32 rfl rfl Tryz.ntmps32 (rs := [.cell 2 38]) rfl (by simp) ?_
  (repeat' (first | refine awp_seq ?_ | refine awp_block ?_ | ((first | refine awp_skip ?_ | refine awp_exit ?_); simp only [ak, reduceIte]) | (refine awp_ret ?_; simp only [ak, reduceIte]; simp []) | (refine awp_cond ?_; simp []; (try with_reducible refine ⟨?_, ?_⟩) <;> (try with_reducible intro hc) <;> try (exfalso; omega)) | ((first | (refine w_e [] ?_; intro J hJ; simp only []) | (refine w_q ?_; intro J hJ) | refine e_go ?_); simp []; (repeat refine ca ?_); (try ((try with_reducible refine ⟨?_, ?_⟩) <;> (try with_reducible intro hnil) <;> refine hJ _ _ ?_ <;> clear hJ J <;> simp only [ak, reduceIte] <;> try subst hnil)))))
  refine awp_range 13 12 14 27 (g.es.length) (fun j fr st2 => fr 1 = .pt st.next 0 ∧ fr 2 = .pt (st.next + 1) 0 ∧ fr 3 = .mp (st.next + 2) ∧ fr 11 = .sl 0 g.es.length (eds g.es) ∧ st2.H st.next = .box 38 2 (grL g) ∧ st2.H (st.next + 1) = .box 38 2 [.nil, .nil] ∧ st.next + 2 < st2.next ∧ Keeps st st2 ∧ ∃ mes, st2.H (st.next + 2) = .map false [.u32] mes ∧ CU (fun v => (g.es.take j).any (touch v)) (2 * j) mes) ?_ ?_ ?_
  · have e1 : ¬ st.next = st.next + 1 + 1 := by omega
    refine ⟨by simp, by simp, by simp, by simp, by simp [e1], by simp, by simp, ((Keeps.new _ _).trans (Keeps.new _ _)).trans (Keeps.new _ _), [], by simp, fun v => ⟨0, by simp [mget], by omega, by omega, by simp⟩⟩
  · rintro j fr s hlt ⟨f1, f2, f3, f11, hG, h2, hsn, hkp, mes, hM, hC⟩ fi fn J hJ
    have hd := eds_drop g.es j hlt
    have hk3 : j * 3 < g.es.length * 3 := by omega
    have han := fun v => any_takeE g.es (touch v) j hlt
    generalize g.es.getD j ed0 = x at *
    obtain ⟨d, a, b⟩ := x
    obtain ⟨c, c1, c2, c3, -⟩ := hC a
    have hC2 := hC.one a c1
    obtain ⟨c', c1', c2', c3', -⟩ := hC2 b
    have hC3 := hC2.one b c1'
    have w1 : IntKind.i64.wrap (c + 1) = c + 1 := wrap_i64 _ (by omega) (by omega)
    have w2 : IntKind.i64.wrap (c' + 1) = c' + 1 := wrap_i64 _ (by omega) (by omega)
    have e1 : ¬ st.next + 2 = s.next := by omega
    have e2 : ¬ s.next = st.next + 2 := by omega
    (repeat' (first | refine awp_seq ?_ | refine awp_block ?_ | ((first | refine awp_skip ?_ | refine awp_exit ?_); simp only [ak, reduceIte]) | (refine awp_ret ?_; simp only [ak, reduceIte]; simp [f1, f3, f11, fi, fn, hd, hel, hk3, hlt, hM, c1, c1', w1, w2, e1, e2]) | (refine awp_cond ?_; simp [f1, f3, f11, fi, fn, hd, hel, hk3, hlt, hM, c1, c1', w1, w2, e1, e2]; (try with_reducible refine ⟨?_, ?_⟩) <;> (try with_reducible intro hc) <;> try (exfalso; omega)) | ((first | (refine w_e [] ?_; intro J hJ; simp only []) | (refine w_q ?_; intro J hJ) | refine e_go ?_); simp [f1, f3, f11, fi, fn, hd, hel, hk3, hlt, hM, c1, c1', w1, w2, e1, e2]; (repeat refine ca ?_); (try ((try with_reducible refine ⟨?_, ?_⟩) <;> (try with_reducible intro hnil) <;> refine hJ _ _ ?_ <;> clear hJ J <;> simp only [ak, reduceIte] <;> try subst hnil)))))
    refine hJ _ _ (by simp [fi]) (by simp [fn]) ⟨by simp [f1], by simp [f2], by simp [f3], by simp [f11], ?_, ?_, by simp; omega, ?_, mset (mset mes [a] (i (c + 1))) [b] (i (c' + 1)), by simp, fun v => ?_⟩
    · (repeat (first | rw [new_H, if_neg (α := LObj) (by (try simp only [set_next, new_next]); omega)] | rw [set_H, if_neg (α := LObj) (by omega)] | rw [new_H, if_pos (α := LObj) (by (try simp only [set_next, new_next]))] | rw [set_H, if_pos (α := LObj) (by omega)])); exact hG
    · (repeat (first | rw [new_H, if_neg (α := LObj) (by (try simp only [set_next, new_next]); omega)] | rw [set_H, if_neg (α := LObj) (by omega)] | rw [new_H, if_pos (α := LObj) (by (try simp only [set_next, new_next]))] | rw [set_H, if_pos (α := LObj) (by omega)])); exact h2
    · refine ⟨by have := hkp.next; simp; omega, fun l hl => ?_⟩
      (repeat (first | rw [new_H, if_neg (α := LObj) (by (try simp only [set_next, new_next]); omega)] | rw [set_H, if_neg (α := LObj) (by omega)] | rw [new_H, if_pos (α := LObj) (by (try simp only [set_next, new_next]))] | rw [set_H, if_pos (α := LObj) (by omega)])); exact hkp.H l hl
    · obtain ⟨cv, k1, k2, k3, k4⟩ := hC3 v
      refine ⟨cv, k1, k2, by omega, ?_⟩
      rw [k4]
      dsimp only
      rw [han v]
      simp only [touch, Bool.or_assoc]
      rw [show (v == a) = (a == v) from by rw [Bool.eq_iff_iff]; simp; exact eq_comm, show (v == b) = (b == v) from by rw [Bool.eq_iff_iff]; simp; exact eq_comm]
  · rintro fr s ⟨f1, f2, f3, f11, hG, h2, hsn, hkp, mes, hM, hC⟩
    rw [List.take_length] at hC
    (repeat' (first | refine awp_seq ?_ | refine awp_block ?_ | ((first | refine awp_skip ?_ | refine awp_exit ?_); simp only [ak, reduceIte]) | (refine awp_ret ?_; simp only [ak, reduceIte]; simp [f1, hG]) | (refine awp_cond ?_; simp [f1, hG]; (try with_reducible refine ⟨?_, ?_⟩) <;> (try with_reducible intro hc) <;> try (exfalso; omega)) | ((first | (refine w_e [] ?_; intro J hJ; simp only []) | (refine w_q ?_; intro J hJ) | refine e_go ?_); simp [f1, hG]; (repeat refine ca ?_); (try ((try with_reducible refine ⟨?_, ?_⟩) <;> (try with_reducible intro hnil) <;> refine hJ _ _ ?_ <;> clear hJ J <;> simp only [ak, reduceIte] <;> try subst hnil)))))
    refine callK_ofE (CloneE g.es 0 _ (by omega)) (by simp) ?_; rintro r s1 ⟨rfl, hk1⟩
    have hn1 := hk1.next
    have hG1 := (hk1.H st.next (by omega)).trans hG
    have h21 := (hk1.H (st.next + 1) (by omega)).trans h2
    have hM1 := (hk1.H (st.next + 2) (by omega)).trans hM
    have hs1 : st.next + 2 < s1.next := by omega
    have e1 : ¬ st.next = s1.next := by omega
    have e2 : ¬ st.next + 1 = s1.next := by omega
    have e3 : ¬ st.next + 2 = s1.next := by omega
    have e4 : ¬ st.next = s1.next + 1 := by omega
    (repeat' (first | refine awp_seq ?_ | refine awp_block ?_ | ((first | refine awp_skip ?_ | refine awp_exit ?_); simp only [ak, reduceIte]) | (refine awp_ret ?_; simp only [ak, reduceIte]; simp [hG1, e1, f1]) | (refine awp_cond ?_; simp [hG1, e1, f1]; (try with_reducible refine ⟨?_, ?_⟩) <;> (try with_reducible intro hc) <;> try (exfalso; omega)) | ((first | (refine w_e [] ?_; intro J hJ; simp only []) | (refine w_q ?_; intro J hJ) | refine e_go ?_); simp [hG1, e1, f1]; (repeat refine ca ?_); (try ((try with_reducible refine ⟨?_, ?_⟩) <;> (try with_reducible intro hnil) <;> refine hJ _ _ ?_ <;> clear hJ J <;> simp only [ak, reduceIte] <;> try subst hnil)))))
    refine awp_cell s1.next 41 1 (e := 38) (s := 2) [] [.sl 0 g.es.length (eds g.es)] (by simp) ?_
    refine awp_range 35 34 36 49 (g.vs.length) (fun j fr st2 => fr 2 = .pt (st.next + 1) 0 ∧ fr 3 = .mp (st.next + 2) ∧ fr 6 = .pt s1.next 0 ∧ fr 33 = .sl 0 g.vs.length (us g.vs) ∧ st2.H (st.next + 1) = .box 38 2 [.nil, .nil] ∧ st2.H (st.next + 2) = .map false [.u32] mes ∧ s1.next < st2.next ∧ Keeps st st2 ∧ ∃ t, st2.H s1.next = .box 38 2 [.sl t ((g.vs.take j).filter fun v => g.es.any (touch v)).length (us ((g.vs.take j).filter fun v => g.es.any (touch v))), .sl 0 g.es.length (eds g.es)] ∧ OwnT t st ((g.vs.take j).filter fun v => g.es.any (touch v)) st2) ?_ ?_ ?_
    · refine ⟨by simp [f2], by simp [f3], by simp, by simp, ?_, ?_, by simp; omega, ?_, s1.next + 1, by simp, ⟨by omega, by omega, by simp, by simp⟩⟩
      · (repeat (first | rw [new_H, if_neg (α := LObj) (by (try simp only [set_next, new_next]); omega)] | rw [set_H, if_neg (α := LObj) (by omega)] | rw [new_H, if_pos (α := LObj) (by (try simp only [set_next, new_next]))] | rw [set_H, if_pos (α := LObj) (by omega)])); exact h21
      · (repeat (first | rw [new_H, if_neg (α := LObj) (by (try simp only [set_next, new_next]); omega)] | rw [set_H, if_neg (α := LObj) (by omega)] | rw [new_H, if_pos (α := LObj) (by (try simp only [set_next, new_next]))] | rw [set_H, if_pos (α := LObj) (by omega)])); exact hM1
      · refine ⟨by have := hkp.next; simp; omega, fun l hl => ?_⟩
        have := hkp.next
        (repeat (first | rw [new_H, if_neg (α := LObj) (by (try simp only [set_next, new_next]); omega)] | rw [set_H, if_neg (α := LObj) (by omega)] | rw [new_H, if_pos (α := LObj) (by (try simp only [set_next, new_next]))] | rw [set_H, if_pos (α := LObj) (by omega)])); rw [hk1.H l (by omega)]; exact hkp.H l hl
    · clear f1 f2 f3 f11 hG h2 hsn hkp hM fr
      rintro j fr s2 hlt ⟨f2, f3, f6, f33, h22, hM2, hs2, hkp, t, hB, t1, t2, t3, t4⟩ fi fn J hJ
      have hd := us_drop_getD g.vs j hlt
      have htk := filter_takeI g.vs (fun v => g.es.any (touch v)) j hlt
      have hfl := List.length_filter_le (fun v => g.es.any (touch v)) (g.vs.take j)
      rw [List.length_take] at hfl
      generalize g.vs.getD j 0 = v at *
      generalize (g.vs.take j).filter (fun v => g.es.any (touch v)) = F at *
      obtain ⟨c, c1, c2, c3, c4⟩ := hC v
      cases hany : g.es.any (touch v)
      · have hc : ¬ 0 < c := fun h => by have h2 := c4.1 h; simp only [hany] at h2; cases h2
        rw [hany, if_neg (by simp), List.append_nil] at htk
        (repeat' (first | refine awp_seq ?_ | refine awp_block ?_ | ((first | refine awp_skip ?_ | refine awp_exit ?_); simp only [ak, reduceIte]) | (refine awp_ret ?_; simp only [ak, reduceIte]; simp [f3, f33, fi, fn, hd, hlt, hM2, c1, hc]) | (refine awp_cond ?_; simp [f3, f33, fi, fn, hd, hlt, hM2, c1, hc]; (try with_reducible refine ⟨?_, ?_⟩) <;> (try with_reducible intro hc) <;> try (exfalso; omega)) | ((first | (refine w_e [] ?_; intro J hJ; simp only []) | (refine w_q ?_; intro J hJ) | refine e_go ?_); simp [f3, f33, fi, fn, hd, hlt, hM2, c1, hc]; (repeat refine ca ?_); (try ((try with_reducible refine ⟨?_, ?_⟩) <;> (try with_reducible intro hnil) <;> refine hJ _ _ ?_ <;> clear hJ J <;> simp only [ak, reduceIte] <;> try subst hnil)))))
        exact hJ _ _ (by simp [fi]) (by simp [fn]) ⟨by simp [f2], by simp [f3], by simp [f6], by simp [f33], h22, hM2, hs2, hkp, t, by rw [htk]; exact hB, by rw [htk]; exact ⟨t1, t2, t3, t4⟩⟩
      · have hc : 0 < c := c4.2 hany
        rw [hany, if_pos rfl] at htk
        have q1 : ¬ t = s2.next := by omega
        have q2 : ¬ s1.next = s2.next := by omega
        have q3 : ¬ s1.next = s2.next + 1 := by omega
        have q4 : ¬ s1.next = t := box_neT hB t4 (by simp)
        have q5 : ¬ st.next + 1 = t := box_neT h22 t4 (by simp)
        have q6 : ¬ st.next + 2 = t := box_neT hM2 t4 (by simp)
        (repeat' (first | refine awp_seq ?_ | refine awp_block ?_ | ((first | refine awp_skip ?_ | refine awp_exit ?_); simp only [ak, reduceIte]) | (refine awp_ret ?_; simp only [ak, reduceIte]; simp [f3, f6, f33, fi, fn, hd, hlt, hM2, c1, hc, hB, t4, q1, q2, q3, q4, t1]) | (refine awp_cond ?_; simp [f3, f6, f33, fi, fn, hd, hlt, hM2, c1, hc, hB, t4, q1, q2, q3, q4, t1]; (try with_reducible refine ⟨?_, ?_⟩) <;> (try with_reducible intro hc) <;> try (exfalso; omega)) | ((first | (refine w_e [] ?_; intro J hJ; simp only []) | (refine w_q ?_; intro J hJ) | refine e_go ?_); simp [f3, f6, f33, fi, fn, hd, hlt, hM2, c1, hc, hB, t4, q1, q2, q3, q4, t1]; (repeat refine ca ?_); (try ((try with_reducible refine ⟨?_, ?_⟩) <;> (try with_reducible intro hnil) <;> refine hJ _ _ ?_ <;> clear hJ J <;> simp only [ak, reduceIte] <;> try subst hnil)))))
        refine hJ _ _ (by simp [fi]) (by simp [fn]) ⟨by simp [f2], by simp [f3], by simp [f6], by simp [f33], ?_, ?_, by simp; omega, ?_, s2.next + 1, by rw [htk]; simp, by rw [htk]; exact ⟨by omega, by omega, by simp, by (repeat (first | rw [new_H, if_neg (α := LObj) (by (try simp only [set_next, new_next]); omega)] | rw [set_H, if_neg (α := LObj) (by omega)] | rw [new_H, if_pos (α := LObj) (by (try simp only [set_next, new_next]))] | rw [set_H, if_pos (α := LObj) (by omega)])); simp⟩⟩
        · (repeat (first | rw [new_H, if_neg (α := LObj) (by (try simp only [set_next, new_next]); omega)] | rw [set_H, if_neg (α := LObj) (by omega)] | rw [new_H, if_pos (α := LObj) (by (try simp only [set_next, new_next]))] | rw [set_H, if_pos (α := LObj) (by omega)])); exact h22
        · (repeat (first | rw [new_H, if_neg (α := LObj) (by (try simp only [set_next, new_next]); omega)] | rw [set_H, if_neg (α := LObj) (by omega)] | rw [new_H, if_pos (α := LObj) (by (try simp only [set_next, new_next]))] | rw [set_H, if_pos (α := LObj) (by omega)])); exact hM2
        · refine ⟨by have := hkp.next; simp; omega, fun l hl => ?_⟩
          have := hkp.next
          (repeat (first | rw [new_H, if_neg (α := LObj) (by (try simp only [set_next, new_next]); omega)] | rw [set_H, if_neg (α := LObj) (by omega)] | rw [new_H, if_pos (α := LObj) (by (try simp only [set_next, new_next]))] | rw [set_H, if_pos (α := LObj) (by omega)])); exact hkp.H l hl
    · clear f1 f2 f3 f11 hG h2 hsn hkp hM fr
      rintro fr s2 ⟨f2, f3, f6, f33, h22, hM2, hs2, hkp, t, hB, t1, t2, t3, t4⟩
      rw [List.take_length] at hB
      (repeat' (first | refine awp_seq ?_ | refine awp_block ?_ | ((first | refine awp_skip ?_ | refine awp_exit ?_); simp only [ak, reduceIte]) | (refine awp_ret ?_; simp only [ak, reduceIte]; simp [f2, f6, h22, hB, e2]) | (refine awp_cond ?_; simp [f2, f6, h22, hB, e2]; (try with_reducible refine ⟨?_, ?_⟩) <;> (try with_reducible intro hc) <;> try (exfalso; omega)) | ((first | (refine w_e [] ?_; intro J hJ; simp only []) | (refine w_q ?_; intro J hJ) | refine e_go ?_); simp [f2, f6, h22, hB, e2]; (repeat refine ca ?_); (try ((try with_reducible refine ⟨?_, ?_⟩) <;> (try with_reducible intro hnil) <;> refine hJ _ _ ?_ <;> clear hJ J <;> simp only [ak, reduceIte] <;> try subst hnil)))))
      refine ⟨?_, hkp.set (by omega) _⟩
      simp only [z0, z0L, z0_us, z0_edsB]

end Go.Proofs.YtomfeddgeihipaaGreat.Aw

namespace Go.Proofs.YtomfeddgeihipaaGreat.Aw
open Go Go.RowKit Go.Proofs.YtomfeddgeihipaaGreat.Pl
set_option linter.unusedSimpArgs false
set_option linter.unusedVariables false

/-- A vertex, the box of its row. -/
abbrev VB := Int × Nat
def entM (H : List (Int × Int)) (L : List VB) : List (List Int × LV) := L.map fun p => ([p.1], .ms p.2 0 (nbH p.1 H).length)
structure NbM (H : List (Int × Int)) (lo : Nat) (m : Nat) (L : List VB) (s : St) : Prop where
  hm : s.H m = .map false [.u32] (entM H L)
  bx : ∀ p ∈ L, lo ≤ p.2 ∧ p.2 < s.next ∧ s.H p.2 = .box 41 1 (us (nbH p.1 H))
  nd : (L.map (·.2)).Nodup
  kd : (L.map (·.1)).Nodup
  all : ∀ v, nbH v H ≠ [] ↔ v ∈ L.map (·.1)

theorem entM_none {H : List (Int × Int)} {v : Int} : ∀ {L : List VB}, v ∉ L.map (·.1) → mget (entM H L) [v] = none
  | [], _ => rfl
  | p :: L, h => by
    simp only [List.map_cons, List.mem_cons, not_or] at h
    simp only [entM, List.map_cons, mget]
    rw [if_neg (by simpa using h.1)]
    exact entM_none h.2
theorem entM_some {H : List (Int × Int)} {v : Int} {q : Nat} : ∀ {L1 L2 : List VB}, v ∉ L1.map (·.1) → mget (entM H (L1 ++ (v, q) :: L2)) [v] = some (.ms q 0 (nbH v H).length)
  | [], L2, _ => by simp [entM, mget]
  | p :: L1, L2, h => by
    simp only [List.map_cons, List.mem_cons, not_or] at h
    simp only [List.cons_append, entM, List.map_cons, mget]
    rw [if_neg (by simpa using h.1)]
    exact entM_some h.2
theorem entM_set {H H' : List (Int × Int)} {v : Int} {q q' : Nat} : ∀ {L1 L2 : List VB}, v ∉ L1.map (·.1) → v ∉ L2.map (·.1) → (∀ u, u ≠ v → nbH u H' = nbH u H) → mset (entM H (L1 ++ (v, q) :: L2)) [v] (.ms q' 0 (nbH v H').length) = entM H' (L1 ++ (v, q') :: L2)
  | [], L2, _, h2, hn => by
    simp only [List.nil_append, entM, List.map_cons, mset, beq_self_eq_true, if_true]
    congr 1
    refine List.map_congr_left fun p hp => ?_
    rw [hn p.1 (fun e => h2 (by rw [← e]; exact List.mem_map.2 ⟨p, hp, rfl⟩))]
  | p :: L1, L2, h, h2, hn => by
    simp only [List.map_cons, List.mem_cons, not_or] at h
    have ih := entM_set (H := H) (H' := H') (q := q) (q' := q') (L1 := L1) (L2 := L2) h.2 h2 hn
    simp only [List.cons_append, entM, List.map_cons, mset] at ih ⊢
    rw [if_neg (by simpa using h.1), ih, hn p.1 (fun e => h.1 e.symm)]
theorem entM_add {H H' : List (Int × Int)} {v : Int} {q' : Nat} : ∀ {L : List VB}, v ∉ L.map (·.1) → (∀ u, u ≠ v → nbH u H' = nbH u H) → mset (entM H L) [v] (.ms q' 0 (nbH v H').length) = entM H' (L ++ [(v, q')])
  | [], _, _ => rfl
  | p :: L, h, hn => by
    simp only [List.map_cons, List.mem_cons, not_or] at h
    have ih := entM_add (H := H) (H' := H') (q' := q') (L := L) h.2 hn
    simp only [List.cons_append, entM, List.map_cons, mset] at ih ⊢
    rw [if_neg (by simpa using h.1), ih, hn p.1 (fun e => h.1 e.symm)]
theorem nbH_other {H : List (Int × Int)} {a b u : Int} (h : u ≠ a) : nbH u (H ++ [(a, b)]) = nbH u H := by rw [nbH_snoc, if_neg (fun e => h e.symm), List.append_nil]
theorem nbH_this {H : List (Int × Int)} {a b : Int} : nbH a (H ++ [(a, b)]) = nbH a H ++ [b] := by rw [nbH_snoc, if_pos rfl]

/-- A row of which nothing was yet: the map has it behind a new box. -/
theorem NbM.add {H : List (Int × Int)} {lo m : Nat} {L : List VB} {s : St} (h : NbM H lo m L s) {a b : Int} (ha : a ∉ L.map (·.1)) {q' : Nat} {s' : St} (hq : lo ≤ q' ∧ s.next ≤ q' ∧ q' < s'.next)
    (hm : s'.H m = .map false [.u32] (mset (entM H L) [a] (.ms q' 0 (nbH a H ++ [b]).length))) (hb : s'.H q' = .box 41 1 (us (nbH a H ++ [b]))) (ho : ∀ p ∈ L, s'.H p.2 = s.H p.2) (hn : s.next ≤ s'.next) : NbM (H ++ [(a, b)]) lo m (L ++ [(a, q')]) s' := by
  have hoth : ∀ u, u ≠ a → nbH u (H ++ [(a, b)]) = nbH u H := fun u hu => nbH_other hu
  refine ⟨?_, fun p hp => ?_, ?_, ?_, fun v => ?_⟩
  · rw [hm, ← nbH_this, entM_add ha hoth]
  · rcases List.mem_append.1 hp with hp | hp
    · obtain ⟨h1, h2, h3⟩ := h.bx p hp
      exact ⟨h1, by omega, by rw [ho p hp, h3, hoth p.1 (fun e => ha (by rw [← e]; exact List.mem_map.2 ⟨p, hp, rfl⟩))]⟩
    · rw [List.mem_singleton] at hp
      subst hp
      exact ⟨hq.1, hq.2.2, by rw [hb, nbH_this]⟩
  · rw [List.map_append, List.nodup_append]
    refine ⟨h.nd, by simp, fun x hx y hy => ?_⟩
    obtain ⟨p, hp, rfl⟩ := List.mem_map.1 hx
    simp at hy
    have := (h.bx p hp).2.1
    omega
  · rw [List.map_append, List.nodup_append]
    exact ⟨h.kd, by simp, fun x hx y hy => by simp at hy; subst hy; rintro rfl; exact ha hx⟩
  · rw [List.map_append, List.mem_append]
    by_cases hv : v = a
    · subst hv; rw [nbH_this]; simp
    · rw [hoth v hv, h.all v]
      simp [hv]
/-- A row that was there grows. -/
theorem NbM.put {H : List (Int × Int)} {lo m : Nat} {L1 L2 : List VB} {s : St} {a b : Int} {q : Nat} (h : NbM H lo m (L1 ++ (a, q) :: L2) s) {q' : Nat} {s' : St} (hq : lo ≤ q' ∧ s.next ≤ q' ∧ q' < s'.next)
    (hm : s'.H m = .map false [.u32] (mset (entM H (L1 ++ (a, q) :: L2)) [a] (.ms q' 0 (nbH a H ++ [b]).length))) (hb : s'.H q' = .box 41 1 (us (nbH a H ++ [b]))) (ho : ∀ p, p ∈ L1 ∨ p ∈ L2 → p.2 ≠ q → p.2 < s.next → s'.H p.2 = s.H p.2) (hn : s.next ≤ s'.next) : NbM (H ++ [(a, b)]) lo m (L1 ++ (a, q') :: L2) s' := by
  have hoth : ∀ u, u ≠ a → nbH u (H ++ [(a, b)]) = nbH u H := fun u hu => nbH_other hu
  have kd := h.kd
  have nd := h.nd
  rw [List.map_append, List.map_cons, List.nodup_append, List.nodup_cons] at kd nd
  obtain ⟨kd1, ⟨kd2, kd3⟩, kd4⟩ := kd
  obtain ⟨nd1, ⟨nd2, nd3⟩, nd4⟩ := nd
  have ha1 : a ∉ L1.map (·.1) := fun e => kd4 a e a (by simp) rfl
  have hb1 : ∀ p, p ∈ L1 ∨ p ∈ L2 → p.1 ≠ a ∧ p.2 ≠ q ∧ (lo ≤ p.2 ∧ p.2 < s.next ∧ s.H p.2 = .box 41 1 (us (nbH p.1 H))) := by
    intro p hp
    refine ⟨?_, ?_, h.bx p (by rcases hp with hp | hp <;> simp [hp])⟩
    · rcases hp with hp | hp
      · exact fun e => ha1 (by rw [← e]; exact List.mem_map.2 ⟨p, hp, rfl⟩)
      · exact fun e => kd2 (by rw [← e]; exact List.mem_map.2 ⟨p, hp, rfl⟩)
    · rcases hp with hp | hp
      · exact nd4 _ (List.mem_map.2 ⟨p, hp, rfl⟩) q (by simp)
      · exact fun e => nd2 (by rw [← e]; exact List.mem_map.2 ⟨p, hp, rfl⟩)
  refine ⟨?_, fun p hp => ?_, ?_, ?_, fun v => ?_⟩
  · rw [hm, ← nbH_this, entM_set ha1 kd2 hoth]
  · have hp' : (p ∈ L1 ∨ p ∈ L2) ∨ p = (a, q') := by
      rcases List.mem_append.1 hp with hp | hp
      · exact .inl (.inl hp)
      · rcases List.mem_cons.1 hp with hp | hp
        · exact .inr hp
        · exact .inl (.inr hp)
    rcases hp' with hp | rfl
    · obtain ⟨h1, h2, h3, h4, h5⟩ := hb1 p hp
      exact ⟨h3, by omega, by rw [ho p hp h2 h4, h5, hoth p.1 h1]⟩
    · exact ⟨hq.1, hq.2.2, by rw [hb, nbH_this]⟩
  · rw [List.map_append, List.map_cons, List.nodup_append, List.nodup_cons]
    have lt : ∀ p, p ∈ L1 ∨ p ∈ L2 → p.2 < s.next := fun p hp => (hb1 p hp).2.2.2.1
    refine ⟨nd1, ⟨fun e => ?_, nd3⟩, fun x hx y hy => ?_⟩
    · obtain ⟨p, hp, e⟩ := List.mem_map.1 e
      have := lt p (.inr hp); simp only at e; omega
    · rcases List.mem_cons.1 hy with rfl | hy
      · obtain ⟨p, hp, rfl⟩ := List.mem_map.1 hx
        have := lt p (.inl hp); omega
      · exact nd4 x hx y (List.mem_cons_of_mem _ hy)
  · have := h.kd
    rw [List.map_append, List.map_cons] at this ⊢
    exact this
  · by_cases hv : v = a
    · subst hv; rw [nbH_this]; simp
    · rw [hoth v hv, h.all v, List.map_append, List.map_append, List.map_cons, List.map_cons]

theorem nodup_map_inj {α β : Type} {f : α → β} : ∀ {L : List α}, (L.map f).Nodup → ∀ {x y : α}, x ∈ L → y ∈ L → f x = f y → x = y
  | [], _, _, _, hx, _, _ => by simp at hx
  | z :: L, h, x, y, hx, hy, e => by
    simp only [List.map_cons, List.nodup_cons] at h
    rcases List.mem_cons.1 hx with hx' | hx' <;> rcases List.mem_cons.1 hy with hy' | hy'
    · rw [hx', hy']
    · exact absurd (List.mem_map.2 ⟨y, hy', by rw [← e, hx']⟩) h.1
    · exact absurd (List.mem_map.2 ⟨x, hx', by rw [e, hy']⟩) h.1
    · exact nodup_map_inj h.2 hx' hy' e
theorem awp_cutB {P : Program} {N : Nat} {Q : AQ} {k : List AItem} {fr : Frm} {st : St} {x : Code} (I : Frm → St → Prop) (h1 : AWp P N x (AK P N (fun e f s => e = .normal ∧ I f s) []) fr st) (h2 : ∀ fr st, I fr st → AK P N Q k .normal fr st) :
    AWp P N x (AK P N Q k) fr st := by
  refine awp_mono h1 ?_
  rintro e fr' st' ⟨rfl, hI⟩
  exact h2 _ _ hI
theorem awp_weakB {P : Program} {N : Nat} {Q : AQ} {c : Code} {fr : Frm} {st : St} (I : Frm → St → Prop) (h0 : I fr st) (h : ∀ fr st, I fr st → AWp P N c Q fr st) : AWp P N c Q fr st := h _ _ h0
theorem NbM.keeps {H : List (Int × Int)} {lo m : Nat} {L : List VB} {s s' : St} (h : NbM H lo m L s) (k : Keeps s s') (hm : m < s.next) : NbM H lo m L s' :=
  ⟨by rw [k.H m hm]; exact h.hm, fun p hp => by obtain ⟨h1, h2, h3⟩ := h.bx p hp; exact ⟨h1, Nat.lt_of_lt_of_le h2 k.next, by rw [k.H _ h2]; exact h3⟩, h.nd, h.kd, h.all⟩

def SoI (st0 : St) (H : List (Int × Int)) (M : Nat) (L : List VB) (Lr : List (List Int × LV)) (fr : Frm) (s : St) : Prop :=
  fr 3 = .mp M ∧ (Lr.map (·.1)).Nodup ∧ (∀ e ∈ Lr, ∃ p ∈ L, e = ([p.1], .ms p.2 0 (nbH p.1 H).length)) ∧ s.H M = .dead ∧ M < s.next ∧ Keeps st0 s ∧
  ∀ p ∈ L, p.2 < s.next ∧ ∃ c, s.H p.2 = .box 41 1 (us c) ∧ c.Perm (nbH p.1 H) ∧ ([p.1] ∉ Lr.map (·.1) → c.Pairwise (· ≤ ·))

def NrI (st0 : St) (S : List Ed) (M k : Nat) (H : List (Int × Int)) (fr : Frm) (s : St) : Prop :=
  fr 3 = .mp M ∧ fr 17 = .sl 0 S.length (eds S) ∧ fr 18 = i S.length ∧ fr 19 = i k ∧ st0.next ≤ M ∧ M < s.next ∧ Keeps st0 s ∧ ∃ L, NbM H st0.next M L s

set_option maxHeartbeats 2000000 in
theorem nearbyM (g : Gr) (st : St) (hv : g.vs.length ≤ 1048576) (he : g.es.length ≤ 1000) (hp : 0 < st.next) :
    ACalls Tryz.prog 86 [.ag (grL g)] st fun r st' => ∃ m L, r = .mp m ∧ st.next ≤ m ∧ m < st'.next ∧ Keeps st st' ∧ st'.H m = .map false [.u32] (rowsM L) ∧ (∀ p ∈ L, st.next ≤ p.2.1 ∧ st'.H p.2.1 = .box 41 1 p.2.2) ∧ (L.map fun p => p.2.1).Nodup ∧
      ∃ K : List Int, K.Nodup ∧ (∀ v, nbH v (hfs (sE g.es)) ≠ [] ↔ v ∈ K) ∧ L.map (fun p => (p.1, p.2.2)) = K.map fun v => ([v], us (nearF g.es v)) := by
  have hel := eds_length (sE g.es)
  have hsl := sE_len g.es
  refine acalls_of_body tabOk Tryz.func86 rfl rfl Tryz.ntmps86 (rs := [.tmp 2]) rfl (by simp) ?_
  (repeat' (first | refine awp_seq ?_ | refine awp_block ?_ | ((first | refine awp_skip ?_ | refine awp_exit ?_); simp only [ak, reduceIte]) | (refine awp_ret ?_; simp only [ak, reduceIte]; simp []) | (refine awp_cond ?_; simp []; (try with_reducible refine ⟨?_, ?_⟩) <;> (try with_reducible intro hc) <;> try (exfalso; omega)) | ((first | (refine w_e [] ?_; intro J hJ; simp only []) | (refine w_q ?_; intro J hJ) | refine e_go ?_); simp []; (repeat refine ca ?_); (try ((try with_reducible refine ⟨?_, ?_⟩) <;> (try with_reducible intro hnil) <;> refine hJ _ _ ?_ <;> clear hJ J <;> simp only [ak, reduceIte] <;> try subst hnil)))))
  refine callK_ofE (Simple g _ hv he (by simp)) (by simp) ?_; rintro r s1 ⟨rfl, hk1⟩
  have hn1 := hk1.next
  simp only [new_next] at hn1
  have hkp1 : Keeps st s1 := ((Keeps.new _ _).trans (Keeps.new _ _)).trans hk1
  have hm1 : s1.H (st.next + 1) = .map false [.u32] [] := by rw [hk1.H _ (by simp)]; simp
  have e1 : ¬ st.next + 1 = s1.next := by omega
  generalize hbl : (bnd g.es).length = bl
  generalize hbc : ((bnd g.es).map fun l => LV.sl 0 l.length (us l)) = bc
  (repeat' (first | refine awp_seq ?_ | refine awp_block ?_ | ((first | refine awp_skip ?_ | refine awp_exit ?_); simp only [ak, reduceIte]) | (refine awp_ret ?_; simp only [ak, reduceIte]; simp [hel]) | (refine awp_cond ?_; simp [hel]; (try with_reducible refine ⟨?_, ?_⟩) <;> (try with_reducible intro hc) <;> try (exfalso; omega)) | ((first | (refine w_e [] ?_; intro J hJ; simp only []) | (refine w_q ?_; intro J hJ) | refine e_go ?_); simp [hel]; (repeat refine ca ?_); (try ((try with_reducible refine ⟨?_, ?_⟩) <;> (try with_reducible intro hnil) <;> refine hJ _ _ ?_ <;> clear hJ J <;> simp only [ak, reduceIte] <;> try subst hnil)))))
  refine awp_loop (fun n fr s => ∃ k : Nat, k ≤ (sE g.es).length ∧ n = (sE g.es).length - k ∧ NrI st (sE g.es) (st.next + 1) k (hfs ((sE g.es).take k)) fr s) (sE g.es).length ?_ ?_
  · refine ⟨0, by omega, by omega, by simp, by simp, by simp, by simp, by omega, by simp; omega, (hkp1.trans (Keeps.new _ _)), [], ?_⟩
    exact ⟨by simp [e1, hm1, entM], by simp, by simp, by simp, by simp [hfs, nbH]⟩
  rintro n fr s ⟨k, hk, rfl, f3, f17, f18, f19, hM1, hM2, hkp, L, hNb⟩ JJ hJJ
  generalize hMM : st.next + 1 = M at *
  by_cases hlt : k < (sE g.es).length
  rotate_left
  · clear hJJ
    have hk' : k = (sE g.es).length := by omega
    rw [hk', List.take_length] at hNb
    refine awp_seq ?_
    (refine w_e [] ?_; intro J hJ; simp only []; simp [f18, f19, hlt]; (repeat refine ca ?_); (try ((try with_reducible refine ⟨?_, ?_⟩) <;> (try with_reducible intro hnil) <;> refine hJ _ _ ?_ <;> clear hJ J <;> simp only [ak, reduceIte] <;> try subst hnil)))
    refine awp_seq ?_
    (refine awp_cond ?_; simp []; (try with_reducible refine ⟨?_, ?_⟩) <;> (try with_reducible intro hc) <;> try (exfalso; omega))
    refine awp_exit ?_; simp only [ak, reduceIte]
    have hHl : (hfs (sE g.es)).length ≤ 2000 := by rw [hfs_len]; omega
    generalize hHH : hfs (sE g.es) = H at *
    refine awp_seq ?_
    refine awp_mapRange tabOk [] (SoI st H M L) (by simp [f3]) hNb.hm ?_ ?_ ?_ Tryz.underlying106
    · intro r
      refine ⟨by simp [f3], ?_, ?_, by simp, by simp; omega, hkp.set hM1 _, fun p hp => ?_⟩
      · have := hNb.kd
        rw [entM, List.map_map]
        have e : L.map ((fun x => x.1) ∘ fun p : VB => (([p.1], LV.ms p.2 0 (nbH p.1 H).length) : List Int × LV)) = (L.map (·.1)).map fun v => [v] := by rw [List.map_map]; rfl
        rw [e]
        exact this.map (fun v => [v]) fun a b hab h => hab (by simpa using h)
      · intro e hee
        obtain ⟨p, hp, rfl⟩ := List.mem_map.1 hee
        exact ⟨p, hp, rfl⟩
      · obtain ⟨h1, h2, h3⟩ := hNb.bx p hp
        have h4 : ¬ p.2 = M := box_ne h3 hNb.hm (by simp)
        refine ⟨by simp; exact h2, nbH p.1 H, by rw [set_H, if_neg h4]; exact h3, .refl _, fun h => absurd (List.mem_map.2 ⟨_, List.mem_map.2 ⟨p, hp, rfl⟩, rfl⟩) h⟩
    · rintro r L1 e L2 fr s2 ⟨F3, hnd, hem, hMd, hMl, hK2, hbx⟩ ft J hJ
      obtain ⟨p, hp, rfl⟩ := hem e (by simp)
      obtain ⟨v, q⟩ := p
      obtain ⟨hql, c, hcH, hcp, -⟩ := hbx (v, q) hp
      have hcl : c.length = (nbH v H).length := hcp.length_eq
      have hnl := nbH_len v H
      simp only at hcl hcH hql hcp
      have hsort := SortU c q s2 (by omega) hql hcH
      rw [hcl] at hsort
      refine e_go ?_
      simp [keyV, mkC]
      (repeat' (first | refine awp_seq ?_ | refine awp_block ?_ | ((first | refine awp_skip ?_ | refine awp_exit ?_); simp only [ak, reduceIte]) | (refine awp_ret ?_; simp only [ak, reduceIte]; simp []) | (refine awp_cond ?_; simp []; (try with_reducible refine ⟨?_, ?_⟩) <;> (try with_reducible intro hc) <;> try (exfalso; omega)) | ((first | (refine w_e [] ?_; intro J hJ; simp only []) | (refine w_q ?_; intro J hJ) | refine e_go ?_); simp []; (repeat refine ca ?_); (try ((try with_reducible refine ⟨?_, ?_⟩) <;> (try with_reducible intro hnil) <;> refine hJ _ _ ?_ <;> clear hJ J <;> simp only [ak, reduceIte] <;> try subst hnil)))))
      refine callK_ofE (hsort) (by simp []) ?_; rintro r st' ⟨d, hd1, hd2, hd3, hd4⟩
      (repeat' (first | refine awp_seq ?_ | refine awp_block ?_ | ((first | refine awp_skip ?_ | refine awp_exit ?_); simp only [ak, reduceIte]) | (refine awp_ret ?_; simp only [ak, reduceIte]; simp []) | (refine awp_cond ?_; simp []; (try with_reducible refine ⟨?_, ?_⟩) <;> (try with_reducible intro hc) <;> try (exfalso; omega)) | ((first | (refine w_e [] ?_; intro J hJ; simp only []) | (refine w_q ?_; intro J hJ) | refine e_go ?_); simp []; (repeat refine ca ?_); (try ((try with_reducible refine ⟨?_, ?_⟩) <;> (try with_reducible intro hnil) <;> refine hJ _ _ ?_ <;> clear hJ J <;> simp only [ak, reduceIte] <;> try subst hnil)))))
      rw [List.map_append, List.map_cons, List.nodup_append, List.nodup_cons] at hnd
      obtain ⟨nd1, ⟨nd2, nd3⟩, nd4⟩ := hnd
      have hMq : ¬ M = q := fun h => by rw [h, hcH] at hMd; cases hMd
      refine hJ _ _ ⟨by simp [F3], ?_, fun e he => hem e (by simp only [List.mem_append, List.mem_cons] at he ⊢; rcases he with h | h; exact .inl h; exact .inr (.inr h)), by rw [hd4.2 M hMq hMl]; exact hMd, Nat.lt_of_lt_of_le hMl hd4.1, ?_, fun p hp2 => ?_⟩ (by simp [ft])
      · rw [List.map_append, List.nodup_append]
        exact ⟨nd1, nd3, fun a ha b hb => nd4 a ha b (List.mem_cons_of_mem _ hb)⟩
      · have hq0 : st.next ≤ q := (hNb.bx (v, q) hp).1
        exact ⟨Nat.le_trans hK2.next hd4.1, fun l hl => by rw [hd4.2 l (by omega) (Nat.lt_of_lt_of_le hl hK2.next)]; exact hK2.H l hl⟩
      · obtain ⟨h1, c2, h2, h3, h4⟩ := hbx p hp2
        by_cases hpq : p.2 = q
        · obtain rfl : p = (v, q) := by
            exact nodup_map_inj hNb.nd hp2 hp hpq
          exact ⟨Nat.lt_of_lt_of_le h1 hd4.1, d, hd1, hd2.trans hcp, fun _ => hd3⟩
        · refine ⟨Nat.lt_of_lt_of_le h1 hd4.1, c2, by rw [hd4.2 _ hpq h1]; exact h2, h3, fun hno => h4 fun hin => hno ?_⟩
          rw [List.map_append, List.map_cons, List.mem_append, List.mem_cons] at hin
          rw [List.map_append, List.mem_append]
          rcases hin with h | h | h
          · exact .inl h
          · exfalso
            simp at h
            have e2 := nodup_map_inj hNb.kd hp2 hp h
            exact hpq (by rw [e2])
          · exact .inr h
    · rintro fr s2 ⟨F3, -, -, hMd, hMl, hK2, hbx⟩
      simp only [ak]
      have hnl : ∀ v, (us (nearF g.es v)).length = (nbH v H).length := fun v => by
        rw [List.length_map, ← hHH]; exact (srt_perm _).length_eq
      (repeat' (first | refine awp_seq ?_ | refine awp_block ?_ | ((first | refine awp_skip ?_ | refine awp_exit ?_); simp only [ak, reduceIte]) | (refine awp_ret ?_; simp only [ak, reduceIte]; simp [F3]) | (refine awp_cond ?_; simp [F3]; (try with_reducible refine ⟨?_, ?_⟩) <;> (try with_reducible intro hc) <;> try (exfalso; omega)) | ((first | (refine w_e [] ?_; intro J hJ; simp only []) | (refine w_q ?_; intro J hJ) | refine e_go ?_); simp [F3]; (repeat refine ca ?_); (try ((try with_reducible refine ⟨?_, ?_⟩) <;> (try with_reducible intro hnil) <;> refine hJ _ _ ?_ <;> clear hJ J <;> simp only [ak, reduceIte] <;> try subst hnil)))))
      refine ⟨hM1, by omega, hK2.set hM1 _, L.map fun p => ([p.1], p.2, us (nearF g.es p.1)), ?_, ?_, ?_, L.map (·.1), hNb.kd, ?_, ?_⟩
      · congr 1
        rw [rowsM, List.map_map, entM]
        refine List.map_congr_left fun p _ => ?_
        simp only [Function.comp, hnl]
      · intro a q b hin
        obtain ⟨p, hp, he⟩ := List.mem_map.1 hin
        injection he with e1 e2
        injection e2 with e2 e3
        subst e1 e2 e3
        obtain ⟨h1, c, h2, h3, h4⟩ := hbx p hp
        have h5 : ¬ p.2 = M := fun h => by rw [h, hMd] at h2; cases h2
        rw [if_neg h5]
        refine ⟨(hNb.bx p hp).1, ?_⟩
        rw [h2, srt_of h3 (h4 (by simp)), ← hHH]; rfl
      · have := hNb.nd
        rw [List.map_map]; exact this
      · intro v
        exact hNb.all v
      · rw [List.map_map, List.map_map]; rfl
  have hd := eds_drop (sE g.es) k hlt
  have hw := nat_add_one k (by omega)
  have hk3 : k * 3 < (sE g.es).length * 3 := by omega
  have htk1 : (sE g.es).take (k + 1) = (sE g.es).take k ++ [(sE g.es).getD k ed0] := by
    rw [List.getD_eq_getElem?_getD, List.getElem?_eq_getElem hlt]; exact List.take_succ_eq_append_getElem hlt
  have hEl : (hfs ((sE g.es).take k)).length ≤ 2000 := by rw [hfs_len, List.length_take]; omega
  generalize (sE g.es).getD k ed0 = x at *
  have hH2 : hfs ((sE g.es).take (k + 1)) = hfs ((sE g.es).take k) ++ [(x.a, x.b)] ++ [(x.b, x.a)] := by rw [htk1, hfs_snoc]
  obtain ⟨id, a, b⟩ := x
  simp only at hd hH2
  generalize hfs ((sE g.es).take k) = H at *
  have b0 : ¬ s.next = M := by omega
  (repeat' (first | refine awp_seq ?_ | refine awp_block ?_ | ((first | refine awp_skip ?_ | refine awp_exit ?_); simp only [ak, reduceIte]) | (refine awp_ret ?_; simp only [ak, reduceIte]; simp [f17, f18, f19, hlt, hd, hel, hk3]) | (refine awp_cond ?_; simp [f17, f18, f19, hlt, hd, hel, hk3]; (try with_reducible refine ⟨?_, ?_⟩) <;> (try with_reducible intro hc) <;> try (exfalso; omega)) | ((first | (refine w_e [] ?_; intro J hJ; simp only []) | (refine w_q ?_; intro J hJ) | refine e_go ?_); simp [f17, f18, f19, hlt, hd, hel, hk3]; (repeat refine ca ?_); (try ((try with_reducible refine ⟨?_, ?_⟩) <;> (try with_reducible intro hnil) <;> refine hJ _ _ ?_ <;> clear hJ J <;> simp only [ak, reduceIte] <;> try subst hnil)))))
  refine awp_weakB (fun f s' => NrI st (sE g.es) M k H f s' ∧ f 7 = .pt s.next 0 ∧ s.next < s'.next ∧ s'.H s.next = .box 43 3 [u id, u a, u b]) ?_ ?_
  · exact ⟨⟨by simp [f3], by simp [f17], by simp [f18], by simp [f19], hM1, by simp; omega, hkp.trans (Keeps.new _ _), L, hNb.keeps (Keeps.new _ _) hM2⟩, by simp, by simp, by simp⟩
  generalize s.next = X at *
  clear hNb hkp hM1 hM2 f19 f18 f17 f3 L
  rintro fr s ⟨⟨f3, f17, f18, f19, hM1, hM2, hkp, L, hNb⟩, f7, hXl, hX⟩
  refine awp_cut1 (fun f s' => NrI st (sE g.es) M k (H ++ [(a, b)]) f s' ∧ f 7 = .pt X 0 ∧ X < s'.next ∧ s'.H X = .box 43 3 [u id, u a, u b]) ?_ ?_
  · clear hJJ
    have hMl := hNb.hm
    have x1 : ¬ X = M := box_ne hX hMl (by simp)
    have x2 : ¬ M = X := fun h => x1 h.symm
    have x3 : ¬ X = s.next := by omega
    have x4 : ¬ X = s.next + 1 := by omega
    have y3 : ¬ M = s.next := by omega
    have y4 : ¬ M = s.next + 1 := by omega
    have y5 : ¬ s.next = M := by omega
    have y6 : ¬ s.next + 1 = M := by omega
    have hnl := nbH_len a (H)
    by_cases hin : a ∈ L.map (·.1)
    · obtain ⟨p, hp, rfl⟩ := List.mem_map.1 hin
      obtain ⟨v, q⟩ := p
      obtain ⟨L1, L2, rfl⟩ := List.append_of_mem hp
      have kd := hNb.kd
      rw [List.map_append, List.map_cons, List.nodup_append] at kd
      have hget := entM_some (H := H) (q := q) (L1 := L1) (L2 := L2) (v := v) (fun e => kd.2.2 v e v (by simp) rfl)
      obtain ⟨q1, q2, q3⟩ := hNb.bx (v, q) (by simp)
      simp only at q1 q2 q3 hnl
      have z1 : ¬ q = M := box_ne q3 hMl (by simp)
      have z2 : ¬ q = s.next := by omega
      have z3 : ¬ q = s.next + 1 := by omega
      have z4 : ¬ X = q := box_ne hX q3 (by simp)
      have z5 : ¬ M = q := fun h => z1 h.symm
      have z6 : List.take (nbH v (H)).length (us (nbH v (H))) = us (nbH v (H)) := List.take_of_length_le (by simp)
      have put := hNb.put (b := b) (q' := s.next + 1) (s' := (((s.new (.own 41 1 1)).set q .dead).new (.box 41 1 (us (nbH v (H) ++ [b])))).set M (.map false [.u32] (mset (entM (H) (L1 ++ (v, q) :: L2)) [v] (.ms (s.next + 1) 0 (nbH v (H) ++ [b]).length)))) ⟨by omega, by omega, by simp⟩ (by simp) (by (repeat (first | rw [new_H, if_neg (α := LObj) (by (try simp only [set_next, new_next]); omega)] | rw [set_H, if_neg (α := LObj) (by omega)] | rw [new_H, if_pos (α := LObj) (by (try simp only [set_next, new_next]))] | rw [set_H, if_pos (α := LObj) (by omega)]))) (fun p hp h1 h2 => by
        have := hNb.bx p (by rcases hp with hp | hp <;> simp [hp])
        have h3 : ¬ p.2 = M := box_ne this.2.2 hMl (by simp)
        (repeat (first | rw [new_H, if_neg (α := LObj) (by (try simp only [set_next, new_next]); omega)] | rw [set_H, if_neg (α := LObj) (by omega)] | rw [new_H, if_pos (α := LObj) (by (try simp only [set_next, new_next]))] | rw [set_H, if_pos (α := LObj) (by omega)]))) (by simp; omega)
      generalize hF : nbH v (H) = F at *
      generalize hN : entM (H) (L1 ++ (v, q) :: L2) = EM at *
      (refine w_s [33] [X, M] [(0, true), (1, true), (2, true), (3, true), (4, true), (5, true), (6, true), (7, true), (8, true), (9, true), (10, true), (11, false)] ?_; intro J hJ; simp [f3, f7, hX, hMl, x1, x2, x3, x4, y3, y4, y5, y6, hget, q3, z1, z2, z3, z4, z5, z6]; (repeat refine ca ?_); (try ((try with_reducible refine ⟨?_, ?_⟩) <;> (try with_reducible intro hnil) <;> refine hJ _ _ ?_ <;> clear hJ J <;> simp only [ak, reduceIte] <;> try subst hnil)))
      refine ⟨by trivial, ⟨by simp [f3], by simp [f17], by simp [f18], by simp [f19], hM1, by simp; omega, ?_, L1 ++ (v, s.next + 1) :: L2, ?_⟩, by simp [f7], by simp; omega, ?_⟩
      · refine ⟨by have := hkp.next; simp; omega, fun l hl => ?_⟩
        have := hkp.next
        (repeat (first | rw [new_H, if_neg (α := LObj) (by (try simp only [set_next, new_next]); omega)] | rw [set_H, if_neg (α := LObj) (by omega)] | rw [new_H, if_pos (α := LObj) (by (try simp only [set_next, new_next]))] | rw [set_H, if_pos (α := LObj) (by omega)])); exact hkp.H l hl
      · simpa using put
      · (repeat (first | rw [new_H, if_neg (α := LObj) (by (try simp only [set_next, new_next]); omega)] | rw [set_H, if_neg (α := LObj) (by omega)] | rw [new_H, if_pos (α := LObj) (by (try simp only [set_next, new_next]))] | rw [set_H, if_pos (α := LObj) (by omega)])); exact hX
    · have hget := entM_none (H := H) hin
      have hnil : nbH a (H) = [] := by
        cases hc : nbH a (H) with
        | nil => rfl
        | cons _ _ => exact absurd ((hNb.all _).1 (by rw [hc]; simp)) hin
      have put := hNb.add (a := a) (b := b) (q' := s.next + 1) (s' := ((s.new (.own 41 1 1)).new (.box 41 1 (us (nbH a (H) ++ [b])))).set M (.map false [.u32] (mset (entM (H) L) [a] (.ms (s.next + 1) 0 (nbH a (H) ++ [b]).length)))) hin ⟨by omega, by omega, by simp⟩ (by simp) (by (repeat (first | rw [new_H, if_neg (α := LObj) (by (try simp only [set_next, new_next]); omega)] | rw [set_H, if_neg (α := LObj) (by omega)] | rw [new_H, if_pos (α := LObj) (by (try simp only [set_next, new_next]))] | rw [set_H, if_pos (α := LObj) (by omega)]))) (fun p hp => by
        have := hNb.bx p hp
        have h3 : ¬ p.2 = M := box_ne this.2.2 hMl (by simp)
        (repeat (first | rw [new_H, if_neg (α := LObj) (by (try simp only [set_next, new_next]); omega)] | rw [set_H, if_neg (α := LObj) (by omega)] | rw [new_H, if_pos (α := LObj) (by (try simp only [set_next, new_next]))] | rw [set_H, if_pos (α := LObj) (by omega)]))) (by simp only [set_next, new_next]; omega)
      rw [hnil] at put
      generalize hN : entM (H) L = EM at *
      (refine w_s [33] [X, M] [(0, true), (1, true), (2, true), (3, true), (4, true), (5, true), (6, true), (7, true), (8, true), (9, true), (10, true), (11, false)] ?_; intro J hJ; simp [f3, f7, hX, hMl, x1, x2, x3, x4, y3, y4, y5, y6, hget]; (repeat refine ca ?_); (try ((try with_reducible refine ⟨?_, ?_⟩) <;> (try with_reducible intro hnil) <;> refine hJ _ _ ?_ <;> clear hJ J <;> simp only [ak, reduceIte] <;> try subst hnil)))
      refine ⟨by trivial, ⟨by simp [f3], by simp [f17], by simp [f18], by simp [f19], hM1, by simp; omega, ?_, L ++ [(a, s.next + 1)], ?_⟩, by simp [f7], by simp; omega, ?_⟩
      · refine ⟨by have := hkp.next; simp; omega, fun l hl => ?_⟩
        have := hkp.next
        (repeat (first | rw [new_H, if_neg (α := LObj) (by (try simp only [set_next, new_next]); omega)] | rw [set_H, if_neg (α := LObj) (by omega)] | rw [new_H, if_pos (α := LObj) (by (try simp only [set_next, new_next]))] | rw [set_H, if_pos (α := LObj) (by omega)])); exact hkp.H l hl
      · simpa using put
      · (repeat (first | rw [new_H, if_neg (α := LObj) (by (try simp only [set_next, new_next]); omega)] | rw [set_H, if_neg (α := LObj) (by omega)] | rw [new_H, if_pos (α := LObj) (by (try simp only [set_next, new_next]))] | rw [set_H, if_pos (α := LObj) (by omega)])); exact hX
  clear hNb hkp hM1 hM2 f19 f18 f17 f3 f7 hXl hX L
  rintro fr s ⟨⟨f3, f17, f18, f19, hM1, hM2, hkp, L, hNb⟩, f7, hXl, hX⟩
  have hEl2 : (H ++ [(a, b)]).length ≤ 2001 := by rw [List.length_append]; simp only [List.length_cons, List.length_nil]; omega
  generalize H ++ [(a, b)] = H2 at *
  refine awp_cutB (fun f s' => NrI st (sE g.es) M k (H2 ++ [(b, a)]) f s' ∧ f 7 = .pt X 0 ∧ X < s'.next ∧ s'.H X = .box 43 3 [u id, u a, u b]) ?_ ?_
  · clear hJJ
    have hMl := hNb.hm
    have x1 : ¬ X = M := box_ne hX hMl (by simp)
    have x2 : ¬ M = X := fun h => x1 h.symm
    have x3 : ¬ X = s.next := by omega
    have x4 : ¬ X = s.next + 1 := by omega
    have y3 : ¬ M = s.next := by omega
    have y4 : ¬ M = s.next + 1 := by omega
    have y5 : ¬ s.next = M := by omega
    have y6 : ¬ s.next + 1 = M := by omega
    have hnl := nbH_len b (H2)
    by_cases hin : b ∈ L.map (·.1)
    · obtain ⟨p, hp, rfl⟩ := List.mem_map.1 hin
      obtain ⟨v, q⟩ := p
      obtain ⟨L1, L2, rfl⟩ := List.append_of_mem hp
      have kd := hNb.kd
      rw [List.map_append, List.map_cons, List.nodup_append] at kd
      have hget := entM_some (H := H2) (q := q) (L1 := L1) (L2 := L2) (v := v) (fun e => kd.2.2 v e v (by simp) rfl)
      obtain ⟨q1, q2, q3⟩ := hNb.bx (v, q) (by simp)
      simp only at q1 q2 q3 hnl
      have z1 : ¬ q = M := box_ne q3 hMl (by simp)
      have z2 : ¬ q = s.next := by omega
      have z3 : ¬ q = s.next + 1 := by omega
      have z4 : ¬ X = q := box_ne hX q3 (by simp)
      have z5 : ¬ M = q := fun h => z1 h.symm
      have z6 : List.take (nbH v (H2)).length (us (nbH v (H2))) = us (nbH v (H2)) := List.take_of_length_le (by simp)
      have put := hNb.put (b := a) (q' := s.next + 1) (s' := (((s.new (.own 41 1 1)).set q .dead).new (.box 41 1 (us (nbH v (H2) ++ [a])))).set M (.map false [.u32] (mset (entM (H2) (L1 ++ (v, q) :: L2)) [v] (.ms (s.next + 1) 0 (nbH v (H2) ++ [a]).length)))) ⟨by omega, by omega, by simp⟩ (by simp) (by (repeat (first | rw [new_H, if_neg (α := LObj) (by (try simp only [set_next, new_next]); omega)] | rw [set_H, if_neg (α := LObj) (by omega)] | rw [new_H, if_pos (α := LObj) (by (try simp only [set_next, new_next]))] | rw [set_H, if_pos (α := LObj) (by omega)]))) (fun p hp h1 h2 => by
        have := hNb.bx p (by rcases hp with hp | hp <;> simp [hp])
        have h3 : ¬ p.2 = M := box_ne this.2.2 hMl (by simp)
        (repeat (first | rw [new_H, if_neg (α := LObj) (by (try simp only [set_next, new_next]); omega)] | rw [set_H, if_neg (α := LObj) (by omega)] | rw [new_H, if_pos (α := LObj) (by (try simp only [set_next, new_next]))] | rw [set_H, if_pos (α := LObj) (by omega)]))) (by simp; omega)
      generalize hF : nbH v (H2) = F at *
      generalize hN : entM (H2) (L1 ++ (v, q) :: L2) = EM at *
      (refine w_s [44] [X, M] [(0, true), (1, true), (2, true), (3, true), (4, true), (5, true), (6, true), (7, true), (8, true), (9, true), (10, true), (11, false)] ?_; intro J hJ; simp [f3, f7, hX, hMl, x1, x2, x3, x4, y3, y4, y5, y6, hget, q3, z1, z2, z3, z4, z5, z6]; (repeat refine ca ?_); (try ((try with_reducible refine ⟨?_, ?_⟩) <;> (try with_reducible intro hnil) <;> refine hJ _ _ ?_ <;> clear hJ J <;> simp only [ak, reduceIte] <;> try subst hnil)))
      refine ⟨by trivial, ⟨by simp [f3], by simp [f17], by simp [f18], by simp [f19], hM1, by simp; omega, ?_, L1 ++ (v, s.next + 1) :: L2, ?_⟩, by simp [f7], by simp; omega, ?_⟩
      · refine ⟨by have := hkp.next; simp; omega, fun l hl => ?_⟩
        have := hkp.next
        (repeat (first | rw [new_H, if_neg (α := LObj) (by (try simp only [set_next, new_next]); omega)] | rw [set_H, if_neg (α := LObj) (by omega)] | rw [new_H, if_pos (α := LObj) (by (try simp only [set_next, new_next]))] | rw [set_H, if_pos (α := LObj) (by omega)])); exact hkp.H l hl
      · simpa using put
      · (repeat (first | rw [new_H, if_neg (α := LObj) (by (try simp only [set_next, new_next]); omega)] | rw [set_H, if_neg (α := LObj) (by omega)] | rw [new_H, if_pos (α := LObj) (by (try simp only [set_next, new_next]))] | rw [set_H, if_pos (α := LObj) (by omega)])); exact hX
    · have hget := entM_none (H := H2) hin
      have hnil : nbH b (H2) = [] := by
        cases hc : nbH b (H2) with
        | nil => rfl
        | cons _ _ => exact absurd ((hNb.all _).1 (by rw [hc]; simp)) hin
      have put := hNb.add (a := b) (b := a) (q' := s.next + 1) (s' := ((s.new (.own 41 1 1)).new (.box 41 1 (us (nbH b (H2) ++ [a])))).set M (.map false [.u32] (mset (entM (H2) L) [b] (.ms (s.next + 1) 0 (nbH b (H2) ++ [a]).length)))) hin ⟨by omega, by omega, by simp⟩ (by simp) (by (repeat (first | rw [new_H, if_neg (α := LObj) (by (try simp only [set_next, new_next]); omega)] | rw [set_H, if_neg (α := LObj) (by omega)] | rw [new_H, if_pos (α := LObj) (by (try simp only [set_next, new_next]))] | rw [set_H, if_pos (α := LObj) (by omega)]))) (fun p hp => by
        have := hNb.bx p hp
        have h3 : ¬ p.2 = M := box_ne this.2.2 hMl (by simp)
        (repeat (first | rw [new_H, if_neg (α := LObj) (by (try simp only [set_next, new_next]); omega)] | rw [set_H, if_neg (α := LObj) (by omega)] | rw [new_H, if_pos (α := LObj) (by (try simp only [set_next, new_next]))] | rw [set_H, if_pos (α := LObj) (by omega)]))) (by simp only [set_next, new_next]; omega)
      rw [hnil] at put
      generalize hN : entM (H2) L = EM at *
      (refine w_s [44] [X, M] [(0, true), (1, true), (2, true), (3, true), (4, true), (5, true), (6, true), (7, true), (8, true), (9, true), (10, true), (11, false)] ?_; intro J hJ; simp [f3, f7, hX, hMl, x1, x2, x3, x4, y3, y4, y5, y6, hget]; (repeat refine ca ?_); (try ((try with_reducible refine ⟨?_, ?_⟩) <;> (try with_reducible intro hnil) <;> refine hJ _ _ ?_ <;> clear hJ J <;> simp only [ak, reduceIte] <;> try subst hnil)))
      refine ⟨by trivial, ⟨by simp [f3], by simp [f17], by simp [f18], by simp [f19], hM1, by simp; omega, ?_, L ++ [(b, s.next + 1)], ?_⟩, by simp [f7], by simp; omega, ?_⟩
      · refine ⟨by have := hkp.next; simp; omega, fun l hl => ?_⟩
        have := hkp.next
        (repeat (first | rw [new_H, if_neg (α := LObj) (by (try simp only [set_next, new_next]); omega)] | rw [set_H, if_neg (α := LObj) (by omega)] | rw [new_H, if_pos (α := LObj) (by (try simp only [set_next, new_next]))] | rw [set_H, if_pos (α := LObj) (by omega)])); exact hkp.H l hl
      · simpa using put
      · (repeat (first | rw [new_H, if_neg (α := LObj) (by (try simp only [set_next, new_next]); omega)] | rw [set_H, if_neg (α := LObj) (by omega)] | rw [new_H, if_pos (α := LObj) (by (try simp only [set_next, new_next]))] | rw [set_H, if_pos (α := LObj) (by omega)])); exact hX
  clear hNb hkp hM1 hM2 f19 f18 f17 f3 f7 hXl hX L
  rintro fr s ⟨⟨f3, f17, f18, f19, hM1, hM2, hkp, L, hNb⟩, f7, hXl, hX⟩
  simp only [ak]
  (repeat' (first | refine awp_seq ?_ | refine awp_block ?_ | ((first | refine awp_skip ?_ | refine awp_exit ?_); simp only [ak, reduceIte]) | (refine awp_ret ?_; simp only [ak, reduceIte]; simp [f19, hw]) | (refine awp_cond ?_; simp [f19, hw]; (try with_reducible refine ⟨?_, ?_⟩) <;> (try with_reducible intro hc) <;> try (exfalso; omega)) | ((first | (refine w_e [] ?_; intro J hJ; simp only []) | (refine w_q ?_; intro J hJ) | refine e_go ?_); simp [f19, hw]; (repeat refine ca ?_); (try ((try with_reducible refine ⟨?_, ?_⟩) <;> (try with_reducible intro hnil) <;> refine hJ _ _ ?_ <;> clear hJ J <;> simp only [ak, reduceIte] <;> try subst hnil)))))
  exact hJJ ((sE g.es).length - (k + 1)) _ _ (by omega) ⟨k + 1, by omega, rfl, by simp [f3], by simp [f17], by simp [f18], by simp, hM1, hM2, hkp, L, by rw [hH2]; exact hNb⟩

/-- A row's numbers, or none. -/
def nbLV (es : List Ed) (v : Int) : Option LV := if nearF es v = [] then none else some (.sl 0 (nearF es v).length (us (nearF es v)))
theorem rowsV_get {es : List Ed} (v : Int) : ∀ {K : List Int}, mget (K.map fun v => (([v], .sl 0 (nearF es v).length (us (nearF es v))) : List Int × LV)) [v] = if v ∈ K then some (.sl 0 (nearF es v).length (us (nearF es v))) else none
  | [] => rfl
  | k :: K => by
    simp only [List.map_cons, mget]
    by_cases h : v = k
    · subst h; simp
    · have h' : ¬ ([v] == [k]) = true := by simpa using h
      rw [if_neg h', rowsV_get v (K := K)]
      simp [h]
/-- nearby: a map of the near ones of each vertex that has some. -/
theorem nearby (g : Gr) (st : St) (hv : g.vs.length ≤ 1048576) (he : g.es.length ≤ 1000) (hp : 0 < st.next) :
    ACalls Tryz.prog 86 [.ag (grL g)] st fun r st' => ∃ m es, r = .mp m ∧ st.next ≤ m ∧ m < st'.next ∧ Keeps st st' ∧ st'.H m = .map false [.u32] es ∧ ∀ v, mget es [v] = nbLV g.es v := by
  refine (acalls_mapRows (R := fun L => ∃ K : List Int, K.Nodup ∧ (∀ v, nbH v (hfs (sE g.es)) ≠ [] ↔ v ∈ K) ∧ L.map (fun p => (p.1, p.2.2)) = K.map fun v => ([v], us (nearF g.es v))) (nearbyM g st hv he hp)).mono ?_
  rintro r st' ⟨m, L, rfl, h1, h2, h3, h4, K, hK, hall, hL⟩
  refine ⟨m, _, rfl, h1, h2, h3, h4, fun v => ?_⟩
  have e : rowsV L = K.map fun v => ([v], .sl 0 (nearF g.es v).length (us (nearF g.es v))) := by
    have e1 : rowsV L = (L.map fun p => (p.1, p.2.2)).map fun p => (p.1, LV.sl 0 p.2.length p.2) := by rw [List.map_map]; rfl
    rw [e1, hL, List.map_map]
    refine List.map_congr_left fun v _ => ?_
    simp
  rw [e, rowsV_get]
  unfold nbLV
  have hn : nearF g.es v = [] ↔ nbH v (hfs (sE g.es)) = [] := by
    have := (srt_perm (nbH v (hfs (sE g.es)))).length_eq
    unfold nearF
    constructor
    · intro h; rw [h] at this; exact List.eq_nil_of_length_eq_zero this.symm
    · intro h; rw [h]; rfl
  by_cases hv : v ∈ K
  · rw [if_pos hv, if_neg (fun h => (hall v).2 hv (hn.1 h))]
  · rw [if_neg hv]
    split
    · rfl
    · rename_i h
      exact absurd ((hall v).1 fun h2 => h (hn.2 h2)) hv

theorem Near (g : Gr) (v : Int) (st : St) (hv : g.vs.length ≤ 1048576) (he : g.es.length ≤ 1000) :
    ACalls Tryz.prog 34 [.ag (grL g), u v] st fun r st' => r = .sl 0 (nearF g.es v).length (us (nearF g.es v)) ∧ Keeps st st' := by
  refine acalls_norm ?_
  refine acalls_of_body tabOk Tryz.func34 rfl rfl Tryz.ntmps34 (rs := [.tmp 4]) rfl (by simp) ?_
  refine awp_posG fun hpos => ?_
  (repeat' (first | refine awp_seq ?_ | refine awp_block ?_ | ((first | refine awp_skip ?_ | refine awp_exit ?_); simp only [ak, reduceIte]) | (refine awp_ret ?_; simp only [ak, reduceIte]; simp []) | (refine awp_cond ?_; simp []; (try with_reducible refine ⟨?_, ?_⟩) <;> (try with_reducible intro hc) <;> try (exfalso; omega)) | ((first | (refine w_e [] ?_; intro J hJ; simp only []) | (refine w_q ?_; intro J hJ) | refine e_go ?_); simp []; (repeat refine ca ?_); (try ((try with_reducible refine ⟨?_, ?_⟩) <;> (try with_reducible intro hnil) <;> refine hJ _ _ ?_ <;> clear hJ J <;> simp only [ak, reduceIte] <;> try subst hnil)))))
  refine callK_ofE (nearby g _ hv he (by simp)) (by simp) ?_; rintro r s1 ⟨m, es, rfl, h1, h2, h3, h4, h5⟩
  have h5 := h5 v
  unfold nbLV at h5
  by_cases hn : nearF g.es v = []
  · rw [if_pos hn] at h5
    (repeat' (first | refine awp_seq ?_ | refine awp_block ?_ | ((first | refine awp_skip ?_ | refine awp_exit ?_); simp only [ak, reduceIte]) | (refine awp_ret ?_; simp only [ak, reduceIte]; simp [h4, h5, hn]) | (refine awp_cond ?_; simp [h4, h5, hn]; (try with_reducible refine ⟨?_, ?_⟩) <;> (try with_reducible intro hc) <;> try (exfalso; omega)) | ((first | (refine w_e [] ?_; intro J hJ; simp only []) | (refine w_q ?_; intro J hJ) | refine e_go ?_); simp [h4, h5, hn]; (repeat refine ca ?_); (try ((try with_reducible refine ⟨?_, ?_⟩) <;> (try with_reducible intro hnil) <;> refine hJ _ _ ?_ <;> clear hJ J <;> simp only [ak, reduceIte] <;> try subst hnil)))))
    exact (Keeps.new _ _).trans h3
  · rw [if_neg hn] at h5
    (repeat' (first | refine awp_seq ?_ | refine awp_block ?_ | ((first | refine awp_skip ?_ | refine awp_exit ?_); simp only [ak, reduceIte]) | (refine awp_ret ?_; simp only [ak, reduceIte]; simp [h4, h5]) | (refine awp_cond ?_; simp [h4, h5]; (try with_reducible refine ⟨?_, ?_⟩) <;> (try with_reducible intro hc) <;> try (exfalso; omega)) | ((first | (refine w_e [] ?_; intro J hJ; simp only []) | (refine w_q ?_; intro J hJ) | refine e_go ?_); simp [h4, h5]; (repeat refine ca ?_); (try ((try with_reducible refine ⟨?_, ?_⟩) <;> (try with_reducible intro hnil) <;> refine hJ _ _ ?_ <;> clear hJ J <;> simp only [ak, reduceIte] <;> try subst hnil)))))
    exact (Keeps.new _ _).trans h3

end Go.Proofs.YtomfeddgeihipaaGreat.Aw

namespace Go.Proofs.YtomfeddgeihipaaGreat.Aw
open Go Go.RowKit Go.Proofs.YtomfeddgeihipaaGreat.Pl
set_option linter.unusedSimpArgs false
set_option linter.unusedVariables false

structure GrF (g : Gr) : Prop where
  rise : g.vs.Pairwise (· < ·)
  vpos : ∀ v ∈ g.vs, 1 ≤ v ∧ v ≤ 1048576
  ids : g.es.Pairwise fun x y => x.id < y.id
  pos : ∀ x ∈ g.es, 1 ≤ x.id ∧ x.id ≤ 1048576
  ne : ∀ x ∈ g.es, x.a ≠ x.b
  ends : ∀ x ∈ g.es, x.a ∈ g.vs ∧ x.b ∈ g.vs
  l1 : g.vs.length ≤ 64
  l2 : g.es.length ≤ 160

theorem nz_all {f : Nat → Int} {n : Nat} (h : firstNZ f n = 0) : ∀ j, j < n → f j = 0 := by
  induction n with
  | zero => intro j hj; omega
  | succ n ih =>
    intro j hj
    simp only [firstNZ] at h
    by_cases h0 : firstNZ f n = 0
    · rw [if_neg (by simp [h0])] at h
      rcases Nat.lt_or_ge j n with h1 | h1
      · exact ih h0 j h1
      · obtain rfl : j = n := by omega
        exact h
    · rw [if_pos h0] at h; exact absurd h h0
theorem numb_zero_iff (n a : Int) (b : Bool) : numb n a b = 0 ↔ (1 ≤ n ∧ n ≤ 1048576) ∧ (b = false → a < n) := by
  unfold numb
  by_cases h1 : n < 1 ∨ 1048576 < n
  · rw [if_pos h1]
    constructor
    · intro h; cases h
    · rintro ⟨h, _⟩; omega
  · rw [if_neg h1]
    by_cases h2 : b = false ∧ n ≤ a
    · rw [if_pos h2]
      constructor
      · intro h; cases h
      · rintro ⟨_, h⟩; have := h h2.1; omega
    · rw [if_neg h2]
      refine ⟨fun _ => ⟨by omega, fun hb => ?_⟩, fun _ => rfl⟩
      rcases Int.lt_or_le a n with h3 | h3
      · exact h3
      · exact absurd ⟨hb, h3⟩ h2
theorem rise_step {l : List Int} (h : ∀ j, j < l.length → 0 < j → l.getD (j - 1) 0 < l.getD j 0) : l.Pairwise (· < ·) := by
  have g : ∀ j (hj : j < l.length), l.getD j 0 = l[j] := fun j hj => by rw [List.getD_eq_getElem?_getD, List.getElem?_eq_getElem hj]; rfl
  rw [List.pairwise_iff_getElem]
  intro a b ha hb hab
  induction b with
  | zero => omega
  | succ b ih =>
    have h1 := h (b + 1) hb (by omega)
    rw [Nat.add_sub_cancel, g _ hb, g _ (by omega)] at h1
    rcases Nat.lt_or_ge a b with h2 | h2
    · have := ih (by omega) h2; omega
    · obtain rfl : a = b := by omega
      exact h1
theorem gE (l : List Ed) (j : Nat) (hj : j < l.length) : l.getD j ed0 = l[j] := by
  rw [List.getD_eq_getElem?_getD, List.getElem?_eq_getElem hj]; rfl
theorem badE_zero (g : Gr) (j : Nat) (x : Ed) (hx : g.es.getD j ed0 = x) : badE g j = 0 ↔ ((1 ≤ x.id ∧ x.id ≤ 1048576) ∧ (0 < j → (g.es.getD (j - 1) ed0).id < x.id)) ∧ x.a ≠ x.b ∧ x.a ∈ g.vs ∧ x.b ∈ g.vs := by
  unfold badE
  simp only [hx]
  have h0 := numb_zero_iff x.id (g.es.getD (j - 1) ed0).id (decide (j = 0))
  have hj : (decide (j = 0) = false) ↔ 0 < j := by simp; omega
  rw [hj] at h0
  by_cases h1 : numb x.id (g.es.getD (j - 1) ed0).id (decide (j = 0)) = 0
  · rw [if_neg (fun h => h h1)]
    have h1' := h0.1 h1
    by_cases h2 : x.a = x.b
    · rw [if_pos h2]
      constructor
      · intro h; cases h
      · rintro ⟨_, h, _⟩; exact absurd h2 h
    · rw [if_neg h2]
      by_cases h3 : x.a ∉ g.vs ∨ x.b ∉ g.vs
      · rw [if_pos h3]
        constructor
        · intro h; cases h
        · rintro ⟨_, _, h, h'⟩
          rcases h3 with h3 | h3
          · exact absurd h h3
          · exact absurd h' h3
      · rw [if_neg h3]
        exact ⟨fun _ => ⟨h1', h2, Classical.byContradiction fun h => h3 (.inl h), Classical.byContradiction fun h => h3 (.inr h)⟩, fun _ => rfl⟩
  · rw [if_pos h1]
    constructor
    · intro h; exact absurd h h1
    · rintro ⟨h, _⟩; exact absurd (h0.2 h) h1
theorem chk_full {g : Gr} (h : chk g = 0) : GrF g := by
  unfold chk at h
  by_cases h1 : 64 < g.vs.length ∨ 160 < g.es.length
  · rw [if_pos h1] at h; cases h
  rw [if_neg h1] at h
  by_cases h2 : firstNZ (badV g) g.vs.length = 0
  rotate_left
  · rw [if_pos h2] at h; exact absurd h h2
  rw [if_neg (by simp [h2])] at h
  have gI : ∀ j (hj : j < g.vs.length), g.vs.getD j 0 = g.vs[j] := fun j hj => by rw [List.getD_eq_getElem?_getD, List.getElem?_eq_getElem hj]; rfl
  have hV := fun j hj => (numb_zero_iff _ _ _).1 (nz_all h2 j hj)
  have hE := fun j hj => (badE_zero g j _ rfl).1 (nz_all h j hj)
  have hin : ∀ x ∈ g.es, ∃ j, j < g.es.length ∧ g.es.getD j ed0 = x := fun x hx => by
    obtain ⟨j, hj, rfl⟩ := List.getElem_of_mem hx
    exact ⟨j, hj, gE _ _ hj⟩
  refine ⟨rise_step fun j hj h0 => (hV j hj).2 (by simp; omega), fun v hv => ?_, ?_, fun x hx => ?_, fun x hx => ?_, fun x hx => ?_, by omega, by omega⟩
  · obtain ⟨j, hj, rfl⟩ := List.getElem_of_mem hv
    rw [← gI j hj]; exact (hV j hj).1
  · have := rise_step (l := g.es.map (·.id)) fun j hj h0 => by
      rw [List.length_map] at hj
      have := (hE j hj).1.2 h0
      rw [gE _ _ hj, gE _ _ (by omega)] at this
      rw [List.getD_eq_getElem?_getD, List.getElem?_eq_getElem (by simp; omega), List.getD_eq_getElem?_getD, List.getElem?_eq_getElem (by simp; omega)]
      simpa using this
    rwa [List.pairwise_map] at this
  · obtain ⟨j, hj, rfl⟩ := hin x hx; exact (hE j hj).1.1
  · obtain ⟨j, hj, rfl⟩ := hin x hx; exact (hE j hj).2.1
  · obtain ⟨j, hj, rfl⟩ := hin x hx; exact (hE j hj).2.2
end Go.Proofs.YtomfeddgeihipaaGreat.Aw

namespace Go.Proofs.YtomfeddgeihipaaGreat.Aw
open Go Go.RowKit Go.Proofs.YtomfeddgeihipaaGreat.Pl
set_option linter.unusedSimpArgs false
set_option linter.unusedVariables false

theorem ends_any (es : List Ed) (v : Int) : es.any (touch v) = decide (0 < (ends es v).length) := by
  rw [Bool.eq_iff_iff, List.any_eq_true, decide_eq_true_eq, List.length_pos_iff_exists_mem]
  unfold ends
  constructor
  · rintro ⟨x, hx, h⟩
    simp only [touch, Bool.or_eq_true, beq_iff_eq] at h
    rcases h with h | h
    · exact ⟨2 * x.id, List.mem_flatMap.2 ⟨x, hx, by simp [end1, h]⟩⟩
    · exact ⟨2 * x.id + 1, List.mem_flatMap.2 ⟨x, hx, by simp [end1, h]⟩⟩
  · rintro ⟨y, hy⟩
    obtain ⟨x, hx, h⟩ := List.mem_flatMap.1 hy
    refine ⟨x, hx, ?_⟩
    simp only [touch, Bool.or_eq_true, beq_iff_eq]
    unfold end1 at h
    rcases List.mem_append.1 h with h | h
    · split at h
      · rename_i e; exact .inl e
      · simp at h
    · split at h
      · rename_i e; exact .inr e
      · simp at h
theorem cellsV_drop (R : List (List Int)) (k : Nat) (hk : k < R.length) : (cellsV R).drop k = cellV (R.getD k []) :: cellsV (R.drop (k + 1)) := by
  rw [List.getD_eq_getElem?_getD, List.getElem?_eq_getElem hk, cellsV, ← List.map_drop, List.drop_eq_getElem_cons hk]; rfl
theorem bnd_small (es : List Ed) : ∀ r ∈ bnd es, r.length ≤ es.length := by
  intro r hr
  obtain ⟨y, _, rfl⟩ := List.mem_map.1 hr
  rw [List.length_map]; exact List.length_filter_le _ _

set_option maxHeartbeats 2000000 in
theorem BlockLooks (g : Gr) (v : Int) (st : St) :
    ACalls Tryz.prog 5 [.ag (grL g), u v] st fun r st' => r = bb true := by
  refine acalls_of_body tabOk Tryz.func5 rfl rfl Tryz.ntmps5 (rs := [.tmp 4]) rfl (by simp) ?_
  refine awp_posG fun hpos => ?_
  (repeat' (first | refine awp_seq ?_ | refine awp_block ?_ | ((first | refine awp_skip ?_ | refine awp_exit ?_); simp only [ak, reduceIte]) | (refine awp_ret ?_; simp only [ak, reduceIte]; simp []) | (refine awp_cond ?_; simp []; (try with_reducible refine ⟨?_, ?_⟩) <;> (try with_reducible intro hc) <;> try (exfalso; omega)) | ((first | (refine w_e [] ?_; intro J hJ; simp only []) | (refine w_q ?_; intro J hJ) | refine e_go ?_); simp []; (repeat refine ca ?_); (try ((try with_reducible refine ⟨?_, ?_⟩) <;> (try with_reducible intro hnil) <;> refine hJ _ _ ?_ <;> clear hJ J <;> simp only [ak, reduceIte] <;> try subst hnil)))))
  refine callK_ofE (awake13 _) (by simp []) ?_; rintro r st' ⟨rfl, rfl⟩
  (repeat' (first | refine awp_seq ?_ | refine awp_block ?_ | ((first | refine awp_skip ?_ | refine awp_exit ?_); simp only [ak, reduceIte]) | (refine awp_ret ?_; simp only [ak, reduceIte]; simp []) | (refine awp_cond ?_; simp []; (try with_reducible refine ⟨?_, ?_⟩) <;> (try with_reducible intro hc) <;> try (exfalso; omega)) | ((first | (refine w_e [] ?_; intro J hJ; simp only []) | (refine w_q ?_; intro J hJ) | refine e_go ?_); simp []; (repeat refine ca ?_); (try ((try with_reducible refine ⟨?_, ?_⟩) <;> (try with_reducible intro hnil) <;> refine hJ _ _ ?_ <;> clear hJ J <;> simp only [ak, reduceIte] <;> try subst hnil)))))
  refine callK_ofE (ref_CheckA g _) (by simp) ?_; rintro r s1 ⟨rfl, hk1⟩
  have hn1 := hk1.next
  simp only [new_next] at hn1
  have hG1 : s1.H st.next = .box 38 2 (grL g) := by rw [hk1.H _ (by simp)]; simp
  by_cases hc : chk g = 0
  rotate_left
  · have hc2 : (chk g != 0) = true := by simpa using hc
    (repeat' (first | refine awp_seq ?_ | refine awp_block ?_ | ((first | refine awp_skip ?_ | refine awp_exit ?_); simp only [ak, reduceIte]) | (refine awp_ret ?_; simp only [ak, reduceIte]; simp [hc2]) | (refine awp_cond ?_; simp [hc2]; (try with_reducible refine ⟨?_, ?_⟩) <;> (try with_reducible intro hc) <;> try (exfalso; omega)) | ((first | (refine w_e [] ?_; intro J hJ; simp only []) | (refine w_q ?_; intro J hJ) | refine e_go ?_); simp [hc2]; (repeat refine ca ?_); (try ((try with_reducible refine ⟨?_, ?_⟩) <;> (try with_reducible intro hnil) <;> refine hJ _ _ ?_ <;> clear hJ J <;> simp only [ak, reduceIte] <;> try subst hnil)))))
  have hc2 : (chk g != 0) = false := by simpa using hc
  by_cases he : 60 < g.es.length
  · have he' : (60 : Int) < g.es.length := by omega
    (repeat' (first | refine awp_seq ?_ | refine awp_block ?_ | ((first | refine awp_skip ?_ | refine awp_exit ?_); simp only [ak, reduceIte]) | (refine awp_ret ?_; simp only [ak, reduceIte]; simp [hc2, he, he', hG1]) | (refine awp_cond ?_; simp [hc2, he, he', hG1]; (try with_reducible refine ⟨?_, ?_⟩) <;> (try with_reducible intro hc) <;> try (exfalso; omega)) | ((first | (refine w_e [] ?_; intro J hJ; simp only []) | (refine w_q ?_; intro J hJ) | refine e_go ?_); simp [hc2, he, he', hG1]; (repeat refine ca ?_); (try ((try with_reducible refine ⟨?_, ?_⟩) <;> (try with_reducible intro hnil) <;> refine hJ _ _ ?_ <;> clear hJ J <;> simp only [ak, reduceIte] <;> try subst hnil)))))
  have he' : ¬ (60 : Int) < g.es.length := by omega
  have hF := chk_full hc
  obtain ⟨-, hid, hv, -⟩ := chk_good hc
  have hsl := sE_len g.es
  have hsv : small g.vs := by unfold small; omega
  have hbl := bnd_len g.es
  have hse := eds_length g.es
  clear hk1
  (repeat' (first | refine awp_seq ?_ | refine awp_block ?_ | ((first | refine awp_skip ?_ | refine awp_exit ?_); simp only [ak, reduceIte]) | (refine awp_ret ?_; simp only [ak, reduceIte]; simp [hc2, he, he', hG1]) | (refine awp_cond ?_; simp [hc2, he, he', hG1]; (try with_reducible refine ⟨?_, ?_⟩) <;> (try with_reducible intro hc) <;> try (exfalso; omega)) | ((first | (refine w_e [] ?_; intro J hJ; simp only []) | (refine w_q ?_; intro J hJ) | refine e_go ?_); simp [hc2, he, he', hG1]; (repeat refine ca ?_); (try ((try with_reducible refine ⟨?_, ?_⟩) <;> (try with_reducible intro hnil) <;> refine hJ _ _ ?_ <;> clear hJ J <;> simp only [ak, reduceIte] <;> try subst hnil)))))
  refine callK_ofE (Simple g _ (by omega) (by omega) (by omega)) (by simp) ?_; rintro r s2 ⟨rfl, hk2⟩
  have hn2 := hk2.next
  have hG2 := (hk2.H st.next (by omega)).trans hG1
  have e2 : ¬ st.next = s2.next := by omega
  have hcv : ((bnd g.es).map fun l => LV.sl 0 l.length (us l)) = cellsV (bnd g.es) := rfl
  rw [hcv]
  (repeat' (first | refine awp_seq ?_ | refine awp_block ?_ | ((first | refine awp_skip ?_ | refine awp_exit ?_); simp only [ak, reduceIte]) | (refine awp_ret ?_; simp only [ak, reduceIte]; simp [hG2, e2]) | (refine awp_cond ?_; simp [hG2, e2]; (try with_reducible refine ⟨?_, ?_⟩) <;> (try with_reducible intro hc) <;> try (exfalso; omega)) | ((first | (refine w_e [] ?_; intro J hJ; simp only []) | (refine w_q ?_; intro J hJ) | refine e_go ?_); simp [hG2, e2]; (repeat refine ca ?_); (try ((try with_reducible refine ⟨?_, ?_⟩) <;> (try with_reducible intro hnil) <;> refine hJ _ _ ?_ <;> clear hJ J <;> simp only [ak, reduceIte] <;> try subst hnil)))))
  refine callK_ofE (ref_Simple g _ (by omega) (by omega) (by simp)) (by simp) ?_; rintro r s3 ⟨rfl, hk3⟩
  have hn3 := hk3.next
  simp only [new_next] at hn3
  have hG3 : s3.H st.next = .box 38 2 (grL g) := by rw [hk3.H _ (by simp; omega)]; simp [e2, hG2]
  have hA3 : s3.H s2.next = .box 38 2 (grL ⟨g.vs, sE g.es⟩) := by rw [hk3.H _ (by simp)]; simp
  have e3 : ¬ st.next = s3.next := by omega
  have e4 : ¬ s2.next = s3.next := by omega
  (repeat' (first | refine awp_seq ?_ | refine awp_block ?_ | ((first | refine awp_skip ?_ | refine awp_exit ?_); simp only [ak, reduceIte]) | (refine awp_ret ?_; simp only [ak, reduceIte]; simp [hA3, e3, e4]) | (refine awp_cond ?_; simp [hA3, e3, e4]; (try with_reducible refine ⟨?_, ?_⟩) <;> (try with_reducible intro hc) <;> try (exfalso; omega)) | ((first | (refine w_e [] ?_; intro J hJ; simp only []) | (refine w_q ?_; intro J hJ) | refine e_go ?_); simp [hA3, e3, e4]; (repeat refine ca ?_); (try ((try with_reducible refine ⟨?_, ?_⟩) <;> (try with_reducible intro hnil) <;> refine hJ _ _ ?_ <;> clear hJ J <;> simp only [ak, reduceIte] <;> try subst hnil)))))
  refine callK_ofE (ref_SameG ⟨g.vs, sE g.es⟩ ⟨g.vs, sE g.es⟩ _ (by simp only; omega) (by simp only; omega)) (by simp) ?_; rintro r s4 ⟨rfl, hk4⟩
  have hn4 := hk4.next
  simp only [new_next] at hn4
  have hG4 : s4.H st.next = .box 38 2 (grL g) := by rw [hk4.H _ (by simp; omega)]; simp [e3, hG3]
  clear hk2 hk3 hk4 hA3
  generalize hB : bnd g.es = B at *
  have hBs : ∀ r ∈ B, r.length ≤ g.es.length := by rw [← hB]; exact bnd_small g.es
  (repeat' (first | refine awp_seq ?_ | refine awp_block ?_ | ((first | refine awp_skip ?_ | refine awp_exit ?_); simp only [ak, reduceIte]) | (refine awp_ret ?_; simp only [ak, reduceIte]; simp []) | (refine awp_cond ?_; simp []; (try with_reducible refine ⟨?_, ?_⟩) <;> (try with_reducible intro hc) <;> try (exfalso; omega)) | ((first | (refine w_e [] ?_; intro J hJ; simp only []) | (refine w_q ?_; intro J hJ) | refine e_go ?_); simp []; (repeat refine ca ?_); (try ((try with_reducible refine ⟨?_, ?_⟩) <;> (try with_reducible intro hnil) <;> refine hJ _ _ ?_ <;> clear hJ J <;> simp only [ak, reduceIte] <;> try subst hnil)))))
  refine awp_range 48 47 49 61 (B.length) (fun j fr st2 => fr 1 = u v ∧ fr 2 = .pt st.next 0 ∧ fr 6 = .sl 0 B.length (cellsV B) ∧ fr 8 = .sl 0 B.length (cellsV B) ∧ st2 = s4) ?_ ?_ ?_
  · exact ⟨by simp, by simp, by simp, by simp, rfl⟩
  · rintro j fr s hlt ⟨f1, f2, f6, f8, rfl⟩ fi fn JO hJO
    have hd := cellsV_drop B j hlt
    have hrm : B.getD j [] ∈ B := by rw [List.getD_eq_getElem?_getD, List.getElem?_eq_getElem hlt]; exact List.getElem_mem _
    have hrs := hBs _ hrm
    generalize B.getD j [] = r at *
    have hrsm : small r := by unfold small; omega
    simp only [cellV] at hd
    (repeat' (first | refine awp_seq ?_ | refine awp_block ?_ | ((first | refine awp_skip ?_ | refine awp_exit ?_); simp only [ak, reduceIte]) | (refine awp_ret ?_; simp only [ak, reduceIte]; simp [fi]) | (refine awp_cond ?_; simp [fi]; (try with_reducible refine ⟨?_, ?_⟩) <;> (try with_reducible intro hc) <;> try (exfalso; omega)) | ((first | (refine w_e [] ?_; intro J hJ; simp only []) | (refine w_q ?_; intro J hJ) | refine e_go ?_); simp [fi]; (repeat refine ca ?_); (try ((try with_reducible refine ⟨?_, ?_⟩) <;> (try with_reducible intro hnil) <;> refine hJ _ _ ?_ <;> clear hJ J <;> simp only [ak, reduceIte] <;> try subst hnil)))))
    (refine w_s [] [] [(0, true), (1, true), (2, true), (3, true), (4, true), (5, true), (6, true), (7, true), (8, false), (9, true)] ?_; intro J hJ; simp [f6, f8, fi, hlt, hd]; (repeat refine ca ?_); (try ((try with_reducible refine ⟨?_, ?_⟩) <;> (try with_reducible intro hnil) <;> refine hJ _ _ ?_ <;> clear hJ J <;> simp only [ak, reduceIte] <;> try subst hnil)))
    refine dcallK_ofE (ref_Same r r 0 0 _ hrsm) (by simp) ?_; rintro r' s5 ⟨rfl, rfl⟩
    refine ⟨fun _ => by simp, ?_⟩
    (refine d_go ?_; simp []; (repeat refine ca ?_); (try ((try with_reducible refine ⟨?_, ?_⟩) <;> (try with_reducible intro hnil) <;> refine hJ _ _ ?_ <;> clear hJ J <;> simp only [ak, reduceIte] <;> try subst hnil)))
    (repeat' (first | refine awp_seq ?_ | refine awp_block ?_ | ((first | refine awp_skip ?_ | refine awp_exit ?_); simp only [ak, reduceIte]) | (refine awp_ret ?_; simp only [ak, reduceIte]; simp []) | (refine awp_cond ?_; simp []; (try with_reducible refine ⟨?_, ?_⟩) <;> (try with_reducible intro hc) <;> try (exfalso; omega)) | ((first | (refine w_e [] ?_; intro J hJ; simp only []) | (refine w_q ?_; intro J hJ) | refine e_go ?_); simp []; (repeat refine ca ?_); (try ((try with_reducible refine ⟨?_, ?_⟩) <;> (try with_reducible intro hnil) <;> refine hJ _ _ ?_ <;> clear hJ J <;> simp only [ak, reduceIte] <;> try subst hnil)))))
    exact hJO _ _ (by simp [fi]) (by simp [fn]) ⟨by simp [f1], by simp [f2], by simp [f6], by simp [f8], rfl⟩
  · rintro fr s ⟨f1, f2, f6, f8, rfl⟩
    (repeat' (first | refine awp_seq ?_ | refine awp_block ?_ | ((first | refine awp_skip ?_ | refine awp_exit ?_); simp only [ak, reduceIte]) | (refine awp_ret ?_; simp only [ak, reduceIte]; simp [f2, hG4]) | (refine awp_cond ?_; simp [f2, hG4]; (try with_reducible refine ⟨?_, ?_⟩) <;> (try with_reducible intro hc) <;> try (exfalso; omega)) | ((first | (refine w_e [] ?_; intro J hJ; simp only []) | (refine w_q ?_; intro J hJ) | refine e_go ?_); simp [f2, hG4]; (repeat refine ca ?_); (try ((try with_reducible refine ⟨?_, ?_⟩) <;> (try with_reducible intro hnil) <;> refine hJ _ _ ?_ <;> clear hJ J <;> simp only [ak, reduceIte] <;> try subst hnil)))))
    refine callK_ofE (Bare g _ (by omega) (by omega) (by omega)) (by simp) ?_; rintro r s5 ⟨rfl, hk5⟩
    have hn5 := hk5.next
    have hG5 := (hk5.H st.next (by omega)).trans hG4
    have e5 : ¬ st.next = s5.next := by omega
    have hfl := List.length_filter_le (fun w => g.es.any (touch w)) g.vs
    (repeat' (first | refine awp_seq ?_ | refine awp_block ?_ | ((first | refine awp_skip ?_ | refine awp_exit ?_); simp only [ak, reduceIte]) | (refine awp_ret ?_; simp only [ak, reduceIte]; simp [f2, hG5, e5]) | (refine awp_cond ?_; simp [f2, hG5, e5]; (try with_reducible refine ⟨?_, ?_⟩) <;> (try with_reducible intro hc) <;> try (exfalso; omega)) | ((first | (refine w_e [] ?_; intro J hJ; simp only []) | (refine w_q ?_; intro J hJ) | refine e_go ?_); simp [f2, hG5, e5]; (repeat refine ca ?_); (try ((try with_reducible refine ⟨?_, ?_⟩) <;> (try with_reducible intro hnil) <;> refine hJ _ _ ?_ <;> clear hJ J <;> simp only [ak, reduceIte] <;> try subst hnil)))))
    refine awp_range 67 66 68 92 (g.vs.length) (fun j fr st2 => fr 1 = u v ∧ fr 2 = .pt st.next 0 ∧ fr 10 = .pt s5.next 0 ∧ fr 65 = .sl 0 g.vs.length (us g.vs) ∧ fr 11 = i ((g.vs.take j).filter fun w => g.es.any (touch w)).length ∧ st2.H st.next = .box 38 2 (grL g) ∧ st2.H s5.next = .box 38 2 (grL ⟨g.vs.filter fun w => g.es.any (touch w), g.es⟩) ∧ s5.next < st2.next) ?_ ?_ ?_
    · exact ⟨by simp [f1], by simp [f2], by simp, by simp, by simp, by simp [e5, hG5], by simp, by simp⟩
    · clear f1 f2 f6 f8 fr
      rintro j fr s6 hlt ⟨f1, f2, f10, f65, f11, hG6, hB6, hs6⟩ fi fn J hJ
      have hd := us_drop_getD g.vs j hlt
      have htk := filter_takeI g.vs (fun w => g.es.any (touch w)) j hlt
      have hsp : g.vs.filter (fun w => g.es.any (touch w)) = (g.vs.take (j + 1)).filter (fun w => g.es.any (touch w)) ++ (g.vs.drop (j + 1)).filter (fun w => g.es.any (touch w)) := by
        rw [← List.filter_append, List.take_append_drop]
      generalize g.vs.getD j 0 = w at *
      generalize hFV : g.vs.filter (fun w => g.es.any (touch w)) = FV at *
      generalize (g.vs.take j).filter (fun w => g.es.any (touch w)) = F at *
      generalize (g.vs.drop (j + 1)).filter (fun w => g.es.any (touch w)) = F2 at *
      (repeat' (first | refine awp_seq ?_ | refine awp_block ?_ | ((first | refine awp_skip ?_ | refine awp_exit ?_); simp only [ak, reduceIte]) | (refine awp_ret ?_; simp only [ak, reduceIte]; simp [f2, f65, fi, fn, hd, hlt, hG6]) | (refine awp_cond ?_; simp [f2, f65, fi, fn, hd, hlt, hG6]; (try with_reducible refine ⟨?_, ?_⟩) <;> (try with_reducible intro hc) <;> try (exfalso; omega)) | ((first | (refine w_e [] ?_; intro J hJ; simp only []) | (refine w_q ?_; intro J hJ) | refine e_go ?_); simp [f2, f65, fi, fn, hd, hlt, hG6]; (repeat refine ca ?_); (try ((try with_reducible refine ⟨?_, ?_⟩) <;> (try with_reducible intro hnil) <;> refine hJ _ _ ?_ <;> clear hJ J <;> simp only [ak, reduceIte] <;> try subst hnil)))))
      refine callK_ofE (ref_Ends g w _ (by omega) hid) (by simp) ?_; rintro r s7 ⟨⟨t, rfl⟩, hk7⟩
      have hn7 := hk7.next
      have hG7 := (hk7.H st.next (by omega)).trans hG6
      have hB7 := (hk7.H s5.next (by omega)).trans hB6
      have han := ends_any g.es w
      generalize ends g.es w = E at *
      by_cases hE : 0 < E.length
      · have hE' : (0 : Int) < E.length := by omega
        rw [decide_eq_true hE] at han
        rw [han, if_pos rfl] at htk
        rw [htk] at hsp
        have hFl : F.length < FV.length := by rw [hsp]; simp
        have hFl' : ¬ FV.length ≤ F.length := by omega
        have hFl2 : ¬ (FV.length : Int) ≤ F.length := by omega
        have hdF : (us FV).drop F.length = u w :: us F2 := by
          rw [hsp, List.append_assoc]
          have : (us (F ++ ([w] ++ F2))) = us F ++ us ([w] ++ F2) := by simp
          rw [this]
          have h2 : F.length = (us F).length := by simp
          rw [h2, List.drop_left]
          rfl
        have w1 := nat_add_one F.length (by omega)
        (repeat' (first | refine awp_seq ?_ | refine awp_block ?_ | ((first | refine awp_skip ?_ | refine awp_exit ?_); simp only [ak, reduceIte]) | (refine awp_ret ?_; simp only [ak, reduceIte]; simp [hE, hE', f10, f11, hB7, hFl, hFl', hFl2, hdF, w1]) | (refine awp_cond ?_; simp [hE, hE', f10, f11, hB7, hFl, hFl', hFl2, hdF, w1]; (try with_reducible refine ⟨?_, ?_⟩) <;> (try with_reducible intro hc) <;> try (exfalso; omega)) | ((first | (refine w_e [] ?_; intro J hJ; simp only []) | (refine w_q ?_; intro J hJ) | refine e_go ?_); simp [hE, hE', f10, f11, hB7, hFl, hFl', hFl2, hdF, w1]; (repeat refine ca ?_); (try ((try with_reducible refine ⟨?_, ?_⟩) <;> (try with_reducible intro hnil) <;> refine hJ _ _ ?_ <;> clear hJ J <;> simp only [ak, reduceIte] <;> try subst hnil)))))
        exact hJ _ _ (by simp [fi]) (by simp [fn]) ⟨by simp [f1], by simp [f2], by simp [f10], by simp [f65], by rw [htk]; simp, hG7, hB7, by omega⟩
      · have hE' : ¬ (0 : Int) < E.length := by omega
        rw [decide_eq_false hE] at han
        rw [han, if_neg (by simp), List.append_nil] at htk
        (repeat' (first | refine awp_seq ?_ | refine awp_block ?_ | ((first | refine awp_skip ?_ | refine awp_exit ?_); simp only [ak, reduceIte]) | (refine awp_ret ?_; simp only [ak, reduceIte]; simp [hE, hE']) | (refine awp_cond ?_; simp [hE, hE']; (try with_reducible refine ⟨?_, ?_⟩) <;> (try with_reducible intro hc) <;> try (exfalso; omega)) | ((first | (refine w_e [] ?_; intro J hJ; simp only []) | (refine w_q ?_; intro J hJ) | refine e_go ?_); simp [hE, hE']; (repeat refine ca ?_); (try ((try with_reducible refine ⟨?_, ?_⟩) <;> (try with_reducible intro hnil) <;> refine hJ _ _ ?_ <;> clear hJ J <;> simp only [ak, reduceIte] <;> try subst hnil)))))
        exact hJ _ _ (by simp [fi]) (by simp [fn]) ⟨by simp [f1], by simp [f2], by simp [f10], by simp [f65], by rw [htk]; simp [f11], hG7, hB7, by omega⟩
    · clear f1 f2 f6 f8 fr
      rintro fr s6 ⟨f1, f2, f10, f65, f11, hG6, hB6, hs6⟩
      rw [List.take_length] at f11
      have hne := nearF_eq hF.ne hF.rise hF.ends v
      have hnl := nearF_len g.es v
      have hnsm : small (nearF g.es v) := by unfold small; omega
      generalize hFV : g.vs.filter (fun w => g.es.any (touch w)) = FV at *
      (repeat' (first | refine awp_seq ?_ | refine awp_block ?_ | ((first | refine awp_skip ?_ | refine awp_exit ?_); simp only [ak, reduceIte]) | (refine awp_ret ?_; simp only [ak, reduceIte]; simp []) | (refine awp_cond ?_; simp []; (try with_reducible refine ⟨?_, ?_⟩) <;> (try with_reducible intro hc) <;> try (exfalso; omega)) | ((first | (refine w_e [] ?_; intro J hJ; simp only []) | (refine w_q ?_; intro J hJ) | refine e_go ?_); simp []; (repeat refine ca ?_); (try ((try with_reducible refine ⟨?_, ?_⟩) <;> (try with_reducible intro hnil) <;> refine hJ _ _ ?_ <;> clear hJ J <;> simp only [ak, reduceIte] <;> try subst hnil)))))
      (refine w_s [] [st.next, s5.next] [(0, true), (1, true), (3, true), (4, true), (2, true), (5, true), (6, true), (7, true), (8, true), (9, true), (10, true), (11, true), (12, true), (13, true), (14, true), (15, true), (16, true), (17, true), (18, true), (19, true), (20, true), (21, true)] ?_; intro J hJ; simp [f1, f2, hG6, hB6]; (repeat refine ca ?_); (try ((try with_reducible refine ⟨?_, ?_⟩) <;> (try with_reducible intro hnil) <;> refine hJ _ _ ?_ <;> clear hJ J <;> simp only [ak, reduceIte] <;> try subst hnil)))
      refine dcallK_ofE (Near g v _ (by omega) (by omega)) (by simp) ?_; rintro r s7 ⟨rfl, hk7⟩
      have hG7 := (hk7.H st.next (by omega)).trans hG6
      have hB7 := (hk7.H s5.next (by omega)).trans hB6
      have hn7 := hk7.next
      refine ⟨fun _ => by simp [hG7, hB7, hG6, hB6], ?_⟩
      (refine d_go ?_; simp [f1, f2, hG6, hB6, hG7, hB7]; (repeat refine ca ?_); (try ((try with_reducible refine ⟨?_, ?_⟩) <;> (try with_reducible intro hnil) <;> refine hJ _ _ ?_ <;> clear hJ J <;> simp only [ak, reduceIte] <;> try subst hnil)))
      refine dcallK_ofE (ref_nNear g v _ (by omega) (by omega)) (by simp) ?_; rintro r s8 ⟨rfl, hk8⟩
      have hG8 := (hk8.H st.next (by omega)).trans hG7
      have hB8 := (hk8.H s5.next (by omega)).trans hB7
      refine ⟨fun _ => by simp [hG8, hB8, hG6, hB6], ?_⟩
      rw [← hne]
      (refine d_go ?_; simp [f1, f2, hG6, hB6, hG8, hB8]; (repeat refine ca ?_); (try ((try with_reducible refine ⟨?_, ?_⟩) <;> (try with_reducible intro hnil) <;> refine hJ _ _ ?_ <;> clear hJ J <;> simp only [ak, reduceIte] <;> try subst hnil)))
      refine dcallK_ofE (ref_Same (nearF g.es v) (nearF g.es v) 0 0 _ hnsm) (by simp) ?_; rintro r s9 ⟨rfl, rfl⟩
      refine ⟨fun _ => by simp [hG8, hB8, hG6, hB6], ?_⟩
      (refine d_go ?_; simp [f1, f2, f10, f11, hG6, hB6, hG8, hB8]; (repeat refine ca ?_); (try ((try with_reducible refine ⟨?_, ?_⟩) <;> (try with_reducible intro hnil) <;> refine hJ _ _ ?_ <;> clear hJ J <;> simp only [ak, reduceIte] <;> try subst hnil)))
      refine dcallK_ofE (EqualE g.es 0 0 _ (by omega)) (by simp) ?_; rintro r s10 ⟨rfl, rfl⟩
      refine ⟨fun _ => by simp [hG8, hB8, hG6, hB6], ?_⟩
      (refine d_go ?_; simp [hG6, hB6, hG8, hB8]; (repeat refine ca ?_); (try ((try with_reducible refine ⟨?_, ?_⟩) <;> (try with_reducible intro hnil) <;> refine hJ _ _ ?_ <;> clear hJ J <;> simp only [ak, reduceIte] <;> try subst hnil)))
      (repeat' (first | refine awp_seq ?_ | refine awp_block ?_ | ((first | refine awp_skip ?_ | refine awp_exit ?_); simp only [ak, reduceIte]) | (refine awp_ret ?_; simp only [ak, reduceIte]; simp []) | (refine awp_cond ?_; simp []; (try with_reducible refine ⟨?_, ?_⟩) <;> (try with_reducible intro hc) <;> try (exfalso; omega)) | ((first | (refine w_e [] ?_; intro J hJ; simp only []) | (refine w_q ?_; intro J hJ) | refine e_go ?_); simp []; (repeat refine ca ?_); (try ((try with_reducible refine ⟨?_, ?_⟩) <;> (try with_reducible intro hnil) <;> refine hJ _ _ ?_ <;> clear hJ J <;> simp only [ak, reduceIte] <;> try subst hnil)))))

theorem BlockLooks_shp (l0 l1 : List LV) (st : St) (h0 : Shp tab 38 l0) (h1 : Shp tab 41 l1) : ACalls Tryz.prog 5 [argT tab 38 l0, argT tab 41 l1] st fun r st' => r = bb true := by
  obtain ⟨g, rfl, _⟩ := shp_gr h0
  obtain ⟨a, rfl, _⟩ := shp_u h1
  exact BlockLooks g a st

end Go.Proofs.YtomfeddgeihipaaGreat.Aw
