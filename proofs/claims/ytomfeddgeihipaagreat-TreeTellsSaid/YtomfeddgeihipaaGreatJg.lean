/- The document's near vertices; edges beside each other. The document's way from one vertex to another one: the walk. A graph that may be, in words. No program. The law BlockPaths. tree.Ring, the document's Ring. The document's Ring. The law of TreeTells. -/
import Derived.Test.YtomfeddgeihipaaGreatJf
import Derived.Test.YtomfeddgeihipaaGreatAwZ
import Derived.Test.YtomfeddgeihipaaGreatAwRg
import Derived.Test.YtomfeddgeihipaaGreatAwAlt
import Derived.Test.YtomfeddgeihipaaGreatAwShp
namespace Go.Proofs.YtomfeddgeihipaaGreat.Aw
open Go Go.RowKit Go.Proofs.YtomfeddgeihipaaGreat.Pl
set_option linter.unusedSimpArgs false
set_option linter.unusedVariables false

def adjB (v w : Int) (x : Ed) : Bool := (x.a == v && x.b == w) || (x.a == w && x.b == v)
theorem adjB_any (es : List Ed) (v w : Int) : es.any (adjB v w) = decide (adj es v w) := by
  rw [Bool.eq_iff_iff, List.any_eq_true, decide_eq_true_eq]
  unfold adj adjB
  constructor
  · rintro ⟨x, hx, h⟩
    exact ⟨x, hx, by simpa using h⟩
  · rintro ⟨x, hx, h⟩
    exact ⟨x, hx, by simpa using h⟩
theorem any_takeE (l : List Ed) (p : Ed → Bool) (k : Nat) (hk : k < l.length) : (l.take (k + 1)).any p = ((l.take k).any p || p (l.getD k ed0)) := by
  rw [List.take_succ_eq_append_getElem hk, List.any_append, List.getD_eq_getElem?_getD, List.getElem?_eq_getElem hk]
  simp
theorem filter_takeI (l : List Int) (p : Int → Bool) (k : Nat) (hk : k < l.length) : (l.take (k + 1)).filter p = (l.take k).filter p ++ if p (l.getD k 0) = true then [l.getD k 0] else [] := by
  rw [List.take_succ_eq_append_getElem hk, List.filter_append, List.getD_eq_getElem?_getD, List.getElem?_eq_getElem hk]
  by_cases h : p l[k] = true <;> simp [h]

theorem box_neT {st : St} {a b : Nat} {x y : LObj} (ha : st.H a = x) (hb : st.H b = y) (h : x ≠ y) : ¬ a = b := fun e => h (by rw [← ha, e, hb])
def OwnT (t : Nat) (lo : St) (l : List Int) (st : St) : Prop := t ≠ 0 ∧ lo.next ≤ t ∧ t < st.next ∧ st.H t = .own 41 1 l.length

set_option maxHeartbeats 2000000 in
theorem ref_nNear (g : Gr) (v : Int) (st : St) (hv : g.vs.length ≤ 1000) (he : g.es.length ≤ 1000) :
    ACalls Tryz.prog 35 [.ag (grL g), u v] st fun r st' => r = .sl 0 (g.vs.filter fun w => decide (adj g.es v w)).length (us (g.vs.filter fun w => decide (adj g.es v w))) ∧ Keeps st st' := by
  have hel := eds_length g.es
  refine acalls_z0 ?_
  refine acalls_of_body tabOk Tryz.func35 rfl rfl Tryz.ntmps35 (rs := [.tmp 4]) rfl (by simp) ?_
  refine awp_posG fun hpos => ?_
  (repeat' (first | refine awp_seq ?_ | refine awp_block ?_ | ((first | refine awp_skip ?_ | refine awp_exit ?_); simp only [ak, reduceIte]) | (refine awp_ret ?_; simp only [ak, reduceIte]; simp []) | (refine awp_cond ?_; simp []; (try with_reducible refine ⟨?_, ?_⟩) <;> (try with_reducible intro hc) <;> try (exfalso; omega)) | ((first | (refine w_e [] ?_; intro J hJ; simp only []) | (refine w_q ?_; intro J hJ) | refine e_go ?_); simp []; (repeat refine ca ?_); (try ((try with_reducible refine ⟨?_, ?_⟩) <;> (try with_reducible intro hnil) <;> refine hJ _ _ ?_ <;> clear hJ J <;> simp only [ak, reduceIte] <;> try subst hnil)))))
  refine awp_own 5 41 1 (by simp) ?_
  refine awp_range 14 13 15 53 (g.vs.length) (fun j fr st2 => fr 1 = u v ∧ fr 2 = .pt st.next 0 ∧ fr 12 = .sl 0 g.vs.length (us g.vs) ∧ st2.H st.next = .box 38 2 (grL g) ∧ st.next < st2.next ∧ Keeps st st2 ∧ ∃ t, fr 5 = .sl t ((g.vs.take j).filter fun w => g.es.any (adjB v w)).length (us ((g.vs.take j).filter fun w => g.es.any (adjB v w))) ∧ OwnT t st ((g.vs.take j).filter fun w => g.es.any (adjB v w)) st2) ?_ ?_ ?_
  · exact ⟨by simp, by simp, by simp, by simp, by simp; omega, (Keeps.new _ _).trans (Keeps.new _ _), st.next + 1, by simp, by omega, by omega, by simp, by simp⟩
  · rintro j0 fr s hlt ⟨f1, f2, f12, hG, hsn, hkp, t, f5, t1, t2, t3, t4⟩ fi fn JO hJO
    have hd := us_drop_getD g.vs j0 hlt
    have htk := filter_takeI g.vs (fun w => g.es.any (adjB v w)) j0 hlt
    have hfl := List.length_filter_le (fun w => g.es.any (adjB v w)) (g.vs.take j0)
    rw [List.length_take] at hfl
    generalize g.vs.getD j0 0 = w at *
    generalize hF : (g.vs.take j0).filter (fun w => g.es.any (adjB v w)) = F at *
    (repeat' (first | refine awp_seq ?_ | refine awp_block ?_ | ((first | refine awp_skip ?_ | refine awp_exit ?_); simp only [ak, reduceIte]) | (refine awp_ret ?_; simp only [ak, reduceIte]; simp [f1, f2, f12, fi, fn, hd, hlt, hG]) | (refine awp_cond ?_; simp [f1, f2, f12, fi, fn, hd, hlt, hG]; (try with_reducible refine ⟨?_, ?_⟩) <;> (try with_reducible intro hc) <;> try (exfalso; omega)) | ((first | (refine w_e [] ?_; intro J hJ; simp only []) | (refine w_q ?_; intro J hJ) | refine e_go ?_); simp [f1, f2, f12, fi, fn, hd, hlt, hG]; (repeat refine ca ?_); (try ((try with_reducible refine ⟨?_, ?_⟩) <;> (try with_reducible intro hnil) <;> refine hJ _ _ ?_ <;> clear hJ J <;> simp only [ak, reduceIte] <;> try subst hnil)))))
    refine awp_range 21 20 22 47 (g.es.length) (fun j fr st2 => fr 14 = i j0 ∧ fr 13 = i g.vs.length ∧ fr 1 = u v ∧ fr 2 = .pt st.next 0 ∧ fr 12 = .sl 0 g.vs.length (us g.vs) ∧ fr 5 = .sl t F.length (us F) ∧ fr 7 = u w ∧ fr 8 = bb ((g.es.take j).any (adjB v w)) ∧ fr 19 = .sl 0 g.es.length (eds g.es) ∧ Keeps s st2) ?_ ?_ ?_
    · exact ⟨by simp [fi], by simp [fn], by simp [f1], by simp [f2], by simp [f12], by simp [f5], by simp, by simp, by simp, Keeps.refl _⟩
    · rintro k fr s2 hlt2 ⟨F14, F13, F1, F2, F12, F5, F7, F8, F19, hk2⟩ Fi Fn J hJ
      have hd2 := eds_drop g.es k hlt2
      have hk3 : k * 3 < g.es.length * 3 := by omega
      have han := any_takeE g.es (adjB v w) k hlt2
      generalize g.es.getD k ed0 = x at *
      obtain ⟨id, a, b⟩ := x
      generalize (g.es.take k).any (adjB v w) = is at *
      simp only [adjB] at han
      have fin : ∀ (fr : Frm) (is' : Bool) (s' : St), fr 21 = i k → fr 20 = i g.es.length → fr 14 = i j0 → fr 13 = i g.vs.length → fr 1 = u v → fr 2 = .pt st.next 0 → fr 12 = .sl 0 g.vs.length (us g.vs) → fr 5 = .sl t F.length (us F) → fr 7 = u w → fr 8 = bb is' → fr 19 = .sl 0 g.es.length (eds g.es) → Keeps s s' → is' = (g.es.take (k + 1)).any (adjB v w) → J fr s' :=
        fun fr is' s' g1 g2 g3 g4 g5 g6 g7 g8 g9 g10 g11 g12 g13 => hJ _ _ g1 g2 ⟨by simp [g3], by simp [g4], by simp [g5], by simp [g6], by simp [g7], by simp [g8], by simp [g9], by simp [g10, g13], by simp [g11], g12⟩
      cases e1 : (a == v) <;> cases e2 : (b == w) <;> cases e3 : (a == w) <;> cases e4 : (b == v)
      all_goals
        rw [e1, e2, e3, e4] at han
        (repeat' (first | refine awp_seq ?_ | refine awp_block ?_ | ((first | refine awp_skip ?_ | refine awp_exit ?_); simp only [ak, reduceIte]) | (refine awp_ret ?_; simp only [ak, reduceIte]; simp [F1, F7, F19, Fi, Fn, hd2, hel, hk3, hlt2, e1, e2, e3, e4]) | (refine awp_cond ?_; simp [F1, F7, F19, Fi, Fn, hd2, hel, hk3, hlt2, e1, e2, e3, e4]; (try with_reducible refine ⟨?_, ?_⟩) <;> (try with_reducible intro hc) <;> try (exfalso; omega)) | ((first | (refine w_e [] ?_; intro J hJ; simp only []) | (refine w_q ?_; intro J hJ) | refine e_go ?_); simp [F1, F7, F19, Fi, Fn, hd2, hel, hk3, hlt2, e1, e2, e3, e4]; (repeat refine ca ?_); (try ((try with_reducible refine ⟨?_, ?_⟩) <;> (try with_reducible intro hnil) <;> refine hJ _ _ ?_ <;> clear hJ J <;> simp only [ak, reduceIte] <;> try subst hnil)))))
        refine fin _ _ _ (by simp [Fi]) (by simp [Fn]) (by simp [F14]) (by simp [F13]) (by simp [F1]) (by simp [F2]) (by simp [F12]) (by simp [F5]) (by simp [F7]) (by first | exact F8 | simp [F8]; rfl | simp; rfl) (by simp [F19]) (hk2.trans (Keeps.new _ _)) (by rw [han]; simp)
    · rintro fr s2 ⟨F14, F13, F1, F2, F12, F5, F7, F8, F19, hk2⟩
      rw [List.take_length] at F8
      have hn2 := hk2.next
      have hG2 := (hk2.H st.next hsn).trans hG
      have t42 := (hk2.H t t3).trans t4
      have q1 : ¬ t = s2.next := by omega
      cases his : g.es.any (adjB v w)
      · rw [his, if_neg (by simp), List.append_nil] at htk
        rw [his] at F8
        (repeat' (first | refine awp_seq ?_ | refine awp_block ?_ | ((first | refine awp_skip ?_ | refine awp_exit ?_); simp only [ak, reduceIte]) | (refine awp_ret ?_; simp only [ak, reduceIte]; simp [F8]) | (refine awp_cond ?_; simp [F8]; (try with_reducible refine ⟨?_, ?_⟩) <;> (try with_reducible intro hc) <;> try (exfalso; omega)) | ((first | (refine w_e [] ?_; intro J hJ; simp only []) | (refine w_q ?_; intro J hJ) | refine e_go ?_); simp [F8]; (repeat refine ca ?_); (try ((try with_reducible refine ⟨?_, ?_⟩) <;> (try with_reducible intro hnil) <;> refine hJ _ _ ?_ <;> clear hJ J <;> simp only [ak, reduceIte] <;> try subst hnil)))))
        exact hJO _ _ (by simp [F14]) (by simp [F13]) ⟨by simp [F1], by simp [F2], by simp [F12], hG2, by omega, hkp.trans hk2, t, by rw [htk]; simp [F5], t1, t2, by omega, by rw [htk]; exact t42⟩
      · rw [his, if_pos rfl] at htk
        rw [his] at F8
        (repeat' (first | refine awp_seq ?_ | refine awp_block ?_ | ((first | refine awp_skip ?_ | refine awp_exit ?_); simp only [ak, reduceIte]) | (refine awp_ret ?_; simp only [ak, reduceIte]; simp [F8, F5, F7, t42, q1, t1]) | (refine awp_cond ?_; simp [F8, F5, F7, t42, q1, t1]; (try with_reducible refine ⟨?_, ?_⟩) <;> (try with_reducible intro hc) <;> try (exfalso; omega)) | ((first | (refine w_e [] ?_; intro J hJ; simp only []) | (refine w_q ?_; intro J hJ) | refine e_go ?_); simp [F8, F5, F7, t42, q1, t1]; (repeat refine ca ?_); (try ((try with_reducible refine ⟨?_, ?_⟩) <;> (try with_reducible intro hnil) <;> refine hJ _ _ ?_ <;> clear hJ J <;> simp only [ak, reduceIte] <;> try subst hnil)))))
        refine hJO _ _ (by simp [F14]) (by simp [F13]) ⟨by simp [F1], by simp [F2], by simp [F12], ?_, by simp; omega, ?_, s2.next + 1, by rw [htk]; simp, by omega, by omega, by simp, by rw [htk]; simp⟩
        · have q2 : ¬ st.next = t := box_neT hG (t4) (by simp)
          (repeat (first | rw [new_H, if_neg (α := LObj) (by (try simp only [set_next, new_next]); omega)] | rw [set_H, if_neg (α := LObj) (by omega)] | rw [new_H, if_pos (α := LObj) (by (try simp only [set_next, new_next]))] | rw [set_H, if_pos (α := LObj) (by omega)])); exact hG2
        · exact ((((hkp.trans hk2).trans (Keeps.new _ _)).set t2 _).trans (Keeps.new _ _))
  · rintro fr s ⟨f1, f2, f12, hG, hsn, hkp, t, f5, t1, t2, t3, t4⟩
    rw [List.take_length] at f5
    (repeat' (first | refine awp_seq ?_ | refine awp_block ?_ | ((first | refine awp_skip ?_ | refine awp_exit ?_); simp only [ak, reduceIte]) | (refine awp_ret ?_; simp only [ak, reduceIte]; simp [f5]) | (refine awp_cond ?_; simp [f5]; (try with_reducible refine ⟨?_, ?_⟩) <;> (try with_reducible intro hc) <;> try (exfalso; omega)) | ((first | (refine w_e [] ?_; intro J hJ; simp only []) | (refine w_q ?_; intro J hJ) | refine e_go ?_); simp [f5]; (repeat refine ca ?_); (try ((try with_reducible refine ⟨?_, ?_⟩) <;> (try with_reducible intro hnil) <;> refine hJ _ _ ?_ <;> clear hJ J <;> simp only [ak, reduceIte] <;> try subst hnil)))))
    refine ⟨?_, hkp⟩
    simp only [z0, z0_us]
    have e : (g.vs.filter fun w => g.es.any (adjB v w)) = g.vs.filter fun w => decide (adj g.es v w) := List.filter_congr fun w _ => adjB_any g.es v w
    rw [e]

end Go.Proofs.YtomfeddgeihipaaGreat.Aw

namespace Go.Proofs.YtomfeddgeihipaaGreat.Aw
open Go Go.RowKit Go.Proofs.YtomfeddgeihipaaGreat.Pl
set_option linter.unusedSimpArgs false
set_option linter.unusedVariables false

def ns (l : List Nat) : List LV := l.map fun n : Nat => i (n : Int)
theorem ns_len (l : List Nat) : (ns l).length = l.length := by simp [ns]
theorem ns_drop (l : List Nat) (k : Nat) (hk : k < l.length) : (ns l).drop k = i (l.getD k 0 : Nat) :: ns (l.drop (k + 1)) := by
  rw [List.getD_eq_getElem?_getD, List.getElem?_eq_getElem hk, ns, ← List.map_drop, List.drop_eq_getElem_cons hk]; rfl
def fV (F : Fnd) : List Int := F.map (·.1)
def fB (F : Fnd) : List Nat := F.map (·.2)
@[simp] theorem fV_len (F : Fnd) : (fV F).length = F.length := by simp [fV]
@[simp] theorem fB_len (F : Fnd) : (fB F).length = F.length := by simp [fB]
@[simp] theorem ns_len2 (l : List Nat) : (ns l).length = l.length := ns_len l
theorem fV_at (F : Fnd) (k : Nat) (hk : k < F.length) : (us (fV F)).drop k = u (fAt F k) :: us ((fV F).drop (k + 1)) := by
  have := us_drop_getD (fV F) k (by simpa using hk)
  rw [this]
  congr 2
  simp [fV, fAt, List.getD_eq_getElem?_getD, List.getElem?_eq_getElem hk]
theorem fB_at (F : Fnd) (k : Nat) (hk : k < F.length) : (ns (fB F)).drop k = i (pAt F k : Nat) :: ns ((fB F).drop (k + 1)) := by
  have := ns_drop (fB F) k (by simpa using hk)
  rw [this]
  congr 3
  simp [fB, pAt, List.getD_eq_getElem?_getD, List.getElem?_eq_getElem hk]

/-- Rows of the call's own. -/
def OwnN (t e n : Nat) (lo : St) (st : St) : Prop := t ≠ 0 ∧ lo.next ≤ t ∧ t < st.next ∧ st.H t = .own e 1 n

def nearR (g : Gr) (v : Int) : List Int := g.vs.filter fun w => decide (adj g.es v w)
theorem nearR_len (g : Gr) (v : Int) : (nearR g v).length ≤ g.vs.length := List.length_filter_le _ _

theorem awp_cut1B {P : Program} {N : Nat} {Q : AQ} {k : List AItem} {fr : Frm} {st : St} {x y : Code} (I : Frm → St → Prop) (h1 : AWp P N x (AK P N (fun e f s => e = .normal ∧ I f s) []) fr st) (h2 : ∀ fr st, I fr st → AWp P N y (AK P N Q k) fr st) :
    AWp P N x (AK P N Q (.code y :: k)) fr st := by
  refine awp_mono h1 ?_
  rintro e fr' st' ⟨rfl, hI⟩
  rw [ak_code]
  exact h2 _ _ hI
/-- What stays all along. -/
def PF (g : Gr) (from' to : Int) (tt : Nat) (th : List Int) (al : Bool) (st : St) (fr : Frm) (s : St) : Prop :=
  fr 1 = u from' ∧ fr 2 = u to ∧ fr 3 = .sl tt th.length (us th) ∧ fr 4 = bb al ∧ fr 5 = .pt st.next 0 ∧ s.H st.next = .box 38 2 (grL g) ∧ st.next < s.next ∧ Keeps st s
def FB (F : Fnd) (st : St) (fr : Frm) (s : St) : Prop := ∃ tf tb, fr 11 = .sl tf F.length (us (fV F)) ∧ fr 12 = .sl tb F.length (ns (fB F)) ∧ OwnN tf 41 F.length st s ∧ OwnN tb 3 F.length st s
def PI (g : Gr) (from' to : Int) (tt : Nat) (th : List Int) (al : Bool) (st s : St) (k : Nat) (v : Int) (F : Fnd) (m : Bool) (f : Frm) (s' : St) : Prop :=
  s' = s ∧ f 13 = i k ∧ f 14 = u v ∧ f 18 = bb m ∧ PF g from' to tt th al st f s' ∧ FB F st f s'
theorem OwnN.keeps {t e n : Nat} {lo s s' : St} (h : OwnN t e n lo s) (k : Keeps s s') : OwnN t e n lo s' := by
  obtain ⟨h1, h2, h3, h4⟩ := h
  exact ⟨h1, h2, Nat.lt_of_lt_of_le h3 k.next, by rw [k.H t h3]; exact h4⟩

set_option maxHeartbeats 4000000 in
theorem ref_nPath (g : Gr) (from' to : Int) (th : List Int) (tt : Nat) (al : Bool) (n : Nat) (l : List Int) (st : St) (hv : g.vs.length ≤ 1000) (he : g.es.length ≤ 1000) (hth : th.length ≤ 1000) (hn : n ≤ 1000)
    (hl : refPath g.vs (nearR g) (fun v => al || decide (v ∈ th)) from' to n = some l) :
    ACalls Tryz.prog 45 [.ag (grL g), u from', u to, .sl tt th.length (us th), bb al] st fun r st' => r = .sl 0 l.length (us l) ∧ Keeps st st' := by
  have hsm : small g.vs := by unfold small; omega
  refine acalls_z0 ?_
  refine acalls_of_body tabOk Tryz.func45 rfl rfl Tryz.ntmps45 (rs := [.tmp 10]) rfl (by simp) ?_
  refine awp_posG fun hpos => ?_
  (repeat' (first | refine awp_seq ?_ | refine awp_block ?_ | ((first | refine awp_skip ?_ | refine awp_exit ?_); simp only [ak, reduceIte]) | (refine awp_ret ?_; simp only [ak, reduceIte]; simp []) | (refine awp_cond ?_; simp []; (try with_reducible refine ⟨?_, ?_⟩) <;> (try with_reducible intro hc) <;> try (exfalso; omega)) | ((first | (refine w_e [] ?_; intro J hJ; simp only []) | (refine w_q ?_; intro J hJ) | refine e_go ?_); simp []; (repeat refine ca ?_); (try ((try with_reducible refine ⟨?_, ?_⟩) <;> (try with_reducible intro hnil) <;> refine hJ _ _ ?_ <;> clear hJ J <;> simp only [ak, reduceIte] <;> try subst hnil)))))
  refine callK_ofE (Has g from' _ hsm) (by simp) ?_; rintro r s1 ⟨rfl, hk1⟩
  have hn1 := hk1.next
  simp only [new_next] at hn1
  have hG1 : s1.H st.next = .box 38 2 (grL g) := by rw [hk1.H _ (by simp)]; simp
  have hkp1 : Keeps st s1 := (Keeps.new _ _).trans hk1
  clear hk1
  unfold refPath at hl
  by_cases hf : from' ∈ g.vs
  rotate_left
  · rw [if_pos (.inl hf)] at hl
    injection hl with hl
    subst hl
    (refine e_go ?_; simp [hf]; (repeat refine ca ?_); (try ((try with_reducible refine ⟨?_, ?_⟩) <;> (try with_reducible intro hnil) <;> refine hJ _ _ ?_ <;> clear hJ J <;> simp only [ak, reduceIte] <;> try subst hnil)))
    (repeat' (first | refine awp_seq ?_ | refine awp_block ?_ | ((first | refine awp_skip ?_ | refine awp_exit ?_); simp only [ak, reduceIte]) | (refine awp_ret ?_; simp only [ak, reduceIte]; simp []) | (refine awp_cond ?_; simp []; (try with_reducible refine ⟨?_, ?_⟩) <;> (try with_reducible intro hc) <;> try (exfalso; omega)) | ((first | (refine w_e [] ?_; intro J hJ; simp only []) | (refine w_q ?_; intro J hJ) | refine e_go ?_); simp []; (repeat refine ca ?_); (try ((try with_reducible refine ⟨?_, ?_⟩) <;> (try with_reducible intro hnil) <;> refine hJ _ _ ?_ <;> clear hJ J <;> simp only [ak, reduceIte] <;> try subst hnil)))))
    exact ⟨rfl, hkp1⟩
  (refine e_go ?_; simp [hf, hG1]; (repeat refine ca ?_); (try ((try with_reducible refine ⟨?_, ?_⟩) <;> (try with_reducible intro hnil) <;> refine hJ _ _ ?_ <;> clear hJ J <;> simp only [ak, reduceIte] <;> try subst hnil)))
  refine callK_ofE (Has g to _ hsm) (by simp) ?_; rintro r s2 ⟨rfl, hk2⟩
  have hn2 := hk2.next
  have hG2 := (hk2.H st.next (by omega)).trans hG1
  have hkp2 := hkp1.trans hk2
  clear hk2 hkp1 hG1
  by_cases ht : to ∈ g.vs
  rotate_left
  · rw [if_pos (.inr ht)] at hl
    injection hl with hl
    subst hl
    (refine e_go ?_; simp [ht]; (repeat refine ca ?_); (try ((try with_reducible refine ⟨?_, ?_⟩) <;> (try with_reducible intro hnil) <;> refine hJ _ _ ?_ <;> clear hJ J <;> simp only [ak, reduceIte] <;> try subst hnil)))
    (repeat' (first | refine awp_seq ?_ | refine awp_block ?_ | ((first | refine awp_skip ?_ | refine awp_exit ?_); simp only [ak, reduceIte]) | (refine awp_ret ?_; simp only [ak, reduceIte]; simp []) | (refine awp_cond ?_; simp []; (try with_reducible refine ⟨?_, ?_⟩) <;> (try with_reducible intro hc) <;> try (exfalso; omega)) | ((first | (refine w_e [] ?_; intro J hJ; simp only []) | (refine w_q ?_; intro J hJ) | refine e_go ?_); simp []; (repeat refine ca ?_); (try ((try with_reducible refine ⟨?_, ?_⟩) <;> (try with_reducible intro hnil) <;> refine hJ _ _ ?_ <;> clear hJ J <;> simp only [ak, reduceIte] <;> try subst hnil)))))
    exact ⟨rfl, hkp2⟩
  rw [if_neg (by simp [hf, ht])] at hl
  (refine e_go ?_; simp [ht]; (repeat refine ca ?_); (try ((try with_reducible refine ⟨?_, ?_⟩) <;> (try with_reducible intro hnil) <;> refine hJ _ _ ?_ <;> clear hJ J <;> simp only [ak, reduceIte] <;> try subst hnil)))
  obtain ⟨R0, hrun, hR0⟩ : ∃ R0, refRun (nearR g) (fun v => al || decide (v ∈ th)) to n 0 [(from', 0)] = some R0 ∧ ((R0 = none ∧ l = []) ∨ ∃ F k, R0 = some (F, k) ∧ l = from' :: (chainF F k k).reverse) := by
    cases hb : refRun (nearR g) (fun v => al || decide (v ∈ th)) to n 0 [(from', 0)] with
    | none => rw [hb] at hl; cases hl
    | some R0 =>
      rw [hb] at hl
      rcases R0 with _ | ⟨F, k⟩
      · injection hl with hl; exact ⟨_, rfl, .inl ⟨rfl, hl.symm⟩⟩
      · injection hl with hl; exact ⟨_, rfl, .inr ⟨F, k, rfl, hl.symm⟩⟩
  clear hl
  (repeat' (first | refine awp_seq ?_ | refine awp_block ?_ | ((first | refine awp_skip ?_ | refine awp_exit ?_); simp only [ak, reduceIte]) | (refine awp_ret ?_; simp only [ak, reduceIte]; simp []) | (refine awp_cond ?_; simp []; (try with_reducible refine ⟨?_, ?_⟩) <;> (try with_reducible intro hc) <;> try (exfalso; omega)) | ((first | (refine w_e [] ?_; intro J hJ; simp only []) | (refine w_q ?_; intro J hJ) | refine e_go ?_); simp []; (repeat refine ca ?_); (try ((try with_reducible refine ⟨?_, ?_⟩) <;> (try with_reducible intro hnil) <;> refine hJ _ _ ?_ <;> clear hJ J <;> simp only [ak, reduceIte] <;> try subst hnil)))))
  refine awp_loop (fun m fr s => ∃ (k : Nat) (F : Fnd), refRun (nearR g) (fun v => al || decide (v ∈ th)) to m k F = some R0 ∧ m ≤ n ∧ F.length + 1000 * m ≤ 1000 * n + 1 ∧ Par F ∧ 0 < F.length ∧ k ≤ F.length ∧ fr 13 = i k ∧ PF g from' to tt th al st fr s ∧ FB F st fr s) n ?_ ?_
  · refine ⟨0, _, hrun, Nat.le_refl _, by simp; omega, fun k h0 h1 => by simp at h1; omega, by simp, by simp, by simp, ?_, s2.next, s2.next + 1, by simp [fV], by simp [ns, fB], ⟨by omega, by omega, by simp; omega, by simp⟩, ⟨by omega, by omega, by simp, by simp⟩⟩
    have e1 : ¬ st.next = s2.next := by omega
    have e2 : ¬ st.next = s2.next + 1 := by omega
    exact ⟨by simp, by simp, by simp, by simp, by simp, by simp [e1, e2, hG2], by simp; omega, (hkp2.trans (Keeps.new _ _)).trans (Keeps.new _ _)⟩
  clear hrun hG2 hkp2 hn2 hn1
  rintro m fr s ⟨k, F, hrun, hm, hFm, hpar, hF0, hkF, f13, ⟨f1, f2, f3, f4, f5, hG, hsn, hkp⟩, tf, tb, f11, f12, hof, hob⟩ JJ hJJ
  by_cases hlt : k < F.length
  rotate_left
  · clear hJJ
    have h1 : R0 = none := by cases m <;> (simp only [refRun, if_neg hlt, Option.some.injEq] at hrun; exact hrun.symm)
    subst h1
    rcases hR0 with ⟨_, rfl⟩ | ⟨_, _, h, _⟩
    · (repeat' (first | refine awp_seq ?_ | refine awp_block ?_ | ((first | refine awp_skip ?_ | refine awp_exit ?_); simp only [ak, reduceIte]) | (refine awp_ret ?_; simp only [ak, reduceIte]; simp [f13, f11, hlt]) | (refine awp_cond ?_; simp [f13, f11, hlt]; (try with_reducible refine ⟨?_, ?_⟩) <;> (try with_reducible intro hc) <;> try (exfalso; omega)) | ((first | (refine w_e [] ?_; intro J hJ; simp only []) | (refine w_q ?_; intro J hJ) | refine e_go ?_); simp [f13, f11, hlt]; (repeat refine ca ?_); (try ((try with_reducible refine ⟨?_, ?_⟩) <;> (try with_reducible intro hnil) <;> refine hJ _ _ ?_ <;> clear hJ J <;> simp only [ak, reduceIte] <;> try subst hnil)))))
      exact ⟨rfl, hkp⟩
    · cases h
  cases m with
  | zero => simp [refRun, hlt] at hrun
  | succ m =>
  have hFl : F.length ≤ 1000001 := by omega
  simp only [refRun, if_pos hlt] at hrun
  have hfa := fV_at F k hlt
  have hw := nat_add_one k (by omega)
  generalize hv0 : fAt F k = v at *
  by_cases hvt : v = to
  · clear hJJ
    rw [if_pos hvt] at hrun
    injection hrun with hrun
    subst hrun
    rcases hR0 with ⟨h, _⟩ | ⟨F2, k2, h, rfl⟩
    · cases h
    injection h with h
    injection h with h1 h2
    subst h1 h2
    subst hvt
    (repeat (first | refine awp_seq ?_ | refine awp_block ?_))
    (repeat' (first | refine awp_seq ?_ | refine awp_block ?_ | ((first | refine awp_skip ?_ | refine awp_exit ?_); simp only [ak, reduceIte]) | (refine awp_ret ?_; simp only [ak, reduceIte]; simp [f13, f11, f2, hlt, hfa]) | (refine awp_cond ?_; simp [f13, f11, f2, hlt, hfa]; (try with_reducible refine ⟨?_, ?_⟩) <;> (try with_reducible intro hc) <;> try (exfalso; omega)) | ((first | (refine w_e [] ?_; intro J hJ; simp only []) | (refine w_q ?_; intro J hJ) | refine e_go ?_); simp [f13, f11, f2, hlt, hfa]; (repeat refine ca ?_); (try ((try with_reducible refine ⟨?_, ?_⟩) <;> (try with_reducible intro hnil) <;> refine hJ _ _ ?_ <;> clear hJ J <;> simp only [ak, reduceIte] <;> try subst hnil)))))
    refine awp_own 15 41 1 (by simp) ?_
    obtain ⟨of1, of2, of3, of4⟩ := hof
    obtain ⟨ob1, ob2, ob3, ob4⟩ := hob
    refine awp_loop (fun z fr s2 => ∃ (j : Nat) (B : List Int), chainF F k k = B ++ chainF F z j ∧ j ≤ z ∧ z ≤ k ∧ j < F.length ∧ B.length + z = k ∧ fr 1 = u from' ∧ fr 11 = .sl tf F.length (us (fV F)) ∧ fr 12 = .sl tb F.length (ns (fB F)) ∧ fr 13 = i j ∧ s.next ≤ s2.next ∧ Keeps st s2 ∧ ∃ t, fr 15 = .sl t B.length (us B) ∧ OwnN t 41 B.length st s2) k ?_ ?_
    · exact ⟨k, [], rfl, Nat.le_refl _, Nat.le_refl _, hlt, by simp, by simp [f1], by simp [f11], by simp [f12], by simp [f13], by simp, hkp.trans (Keeps.new _ _), s.next, by simp, by omega, by omega, by simp, by simp⟩
    clear f1 f2 f3 f4 f5 f11 f12 f13 hG hsn hkp of1 of2 of3 of4 ob1 ob2 ob3 ob4 hfa fr
    rintro z fr s2 ⟨j, B, hch, hjz, hzk, hjF, hBl, f1, f11, f12, f13, hs2, hkp, t, f15, t1, t2, t3, t4⟩ J3 hJ3
    by_cases hj : j = 0
    · clear hJ3
      have hB : chainF F k k = B := by
        rw [hch]
        cases z <;> simp [chainF, hj]
      rw [hB]
      have hBB : B.length ≤ 1000001 := by omega
      clear hch hjz hzk hBl hB
      have hj2 : ¬ (0 : Int) < j := by omega
      have w1 : IntKind.i64.wrap ((B.length : Int) - 1) = (B.length : Int) - 1 := wrap_i64 _ (by omega) (by omega)
      subst hj
      (repeat' (first | refine awp_seq ?_ | refine awp_block ?_ | ((first | refine awp_skip ?_ | refine awp_exit ?_); simp only [ak, reduceIte]) | (refine awp_ret ?_; simp only [ak, reduceIte]; simp [f1, f13, f15, w1]) | (refine awp_cond ?_; simp [f1, f13, f15, w1]; (try with_reducible refine ⟨?_, ?_⟩) <;> (try with_reducible intro hc) <;> try (exfalso; omega)) | ((first | (refine w_e [] ?_; intro J hJ; simp only []) | (refine w_q ?_; intro J hJ) | refine e_go ?_); simp [f1, f13, f15, w1]; (repeat refine ca ?_); (try ((try with_reducible refine ⟨?_, ?_⟩) <;> (try with_reducible intro hnil) <;> refine hJ _ _ ?_ <;> clear hJ J <;> simp only [ak, reduceIte] <;> try subst hnil)))))
      refine awp_loop (fun z fr s3 => z ≤ B.length ∧ fr 15 = .sl t B.length (us B) ∧ fr 17 = i ((z : Int) - 1) ∧ Keeps st s3 ∧ ∃ t2, fr 16 = .sl t2 (from' :: (B.drop z).reverse).length (us (from' :: (B.drop z).reverse)) ∧ OwnN t2 41 (from' :: (B.drop z).reverse).length st s3) B.length ?_ ?_
      · exact ⟨Nat.le_refl _, by simp [f15], by simp, hkp.trans (Keeps.new _ _), s2.next, by simp, by omega, by omega, by simp, by simp⟩
      clear f1 f11 f12 f13 f15 hkp t1 t2 t3 t4 hs2 fr
      rintro z fr s3 ⟨hz, f15, f17, hkp, t2, f16, a1, a2, a3, a4⟩ J4 hJ4
      cases z with
      | zero =>
        clear hJ4
        have h0 : ¬ (0 : Int) ≤ (0 : Int) - 1 := by omega
        (repeat' (first | refine awp_seq ?_ | refine awp_block ?_ | ((first | refine awp_skip ?_ | refine awp_exit ?_); simp only [ak, reduceIte]) | (refine awp_ret ?_; simp only [ak, reduceIte]; simp [f16, f17, h0]) | (refine awp_cond ?_; simp [f16, f17, h0]; (try with_reducible refine ⟨?_, ?_⟩) <;> (try with_reducible intro hc) <;> try (exfalso; omega)) | ((first | (refine w_e [] ?_; intro J hJ; simp only []) | (refine w_q ?_; intro J hJ) | refine e_go ?_); simp [f16, f17, h0]; (repeat refine ca ?_); (try ((try with_reducible refine ⟨?_, ?_⟩) <;> (try with_reducible intro hnil) <;> refine hJ _ _ ?_ <;> clear hJ J <;> simp only [ak, reduceIte] <;> try subst hnil)))))
        refine ⟨?_, hkp⟩
        simp only [z0]
        congr 1
        have h := z0_us (from' :: B.reverse)
        simpa using h
      | succ z =>
        have h0 : (0 : Int) ≤ ((z + 1 : Nat) : Int) - 1 := by omega
        have hz1 : ((z + 1 : Nat) : Int) - 1 = z := by omega
        rw [hz1] at f17
        have hzl : z < B.length := by omega
        have hBd := us_drop_getD B z hzl
        have hdr : B.drop z = B.getD z 0 :: B.drop (z + 1) := by
          rw [List.getD_eq_getElem?_getD, List.getElem?_eq_getElem hzl]; exact List.drop_eq_getElem_cons hzl
        have w2 : IntKind.i64.wrap ((z : Int) - 1) = (z : Int) - 1 := wrap_i64 _ (by omega) (by omega)
        generalize B.getD z 0 = x at *
        have hdl : (B.drop (z + 1)).length ≤ 1000001 := by rw [List.length_drop]; omega
        have hrv : from' :: (B.drop z).reverse = (from' :: (B.drop (z + 1)).reverse) ++ [x] := by rw [hdr]; simp
        generalize hO : from' :: (B.drop (z + 1)).reverse = O at *
        have hOl : O.length ≤ 1000002 := by rw [← hO]; simp only [List.length_cons, List.length_reverse]; omega
        have q1 : ¬ t2 = s3.next := by omega
        (repeat' (first | refine awp_seq ?_ | refine awp_block ?_ | ((first | refine awp_skip ?_ | refine awp_exit ?_); simp only [ak, reduceIte]) | (refine awp_ret ?_; simp only [ak, reduceIte]; simp [f15, f16, f17, hzl, hBd, w2, a4, q1, a1]) | (refine awp_cond ?_; simp [f15, f16, f17, hzl, hBd, w2, a4, q1, a1]; (try with_reducible refine ⟨?_, ?_⟩) <;> (try with_reducible intro hc) <;> try (exfalso; omega)) | ((first | (refine w_e [] ?_; intro J hJ; simp only []) | (refine w_q ?_; intro J hJ) | refine e_go ?_); simp [f15, f16, f17, hzl, hBd, w2, a4, q1, a1]; (repeat refine ca ?_); (try ((try with_reducible refine ⟨?_, ?_⟩) <;> (try with_reducible intro hnil) <;> refine hJ _ _ ?_ <;> clear hJ J <;> simp only [ak, reduceIte] <;> try subst hnil)))))
        refine hJ4 z _ _ (by omega) ⟨by omega, by simp [f15], by simp, ?_, s3.next + 1, by rw [hrv]; simp, by omega, by omega, by simp, by rw [hrv]; simp⟩
        exact (((hkp.trans (Keeps.new _ _)).set a2 _).trans (Keeps.new _ _))
    · cases z with
      | zero => omega
      | succ z =>
      simp only [chainF, if_neg hj] at hch
      have hj2 : (0 : Int) < j := by omega
      have hj3 : 0 < j := by omega
      have hpj := hpar j hj3 hjF
      have hfa := fV_at F j hjF
      have hfb := fB_at F j hjF
      have q1 : ¬ t = s2.next := by omega
      have hBB : B.length ≤ 1000001 := by omega
      (repeat' (first | refine awp_seq ?_ | refine awp_block ?_ | ((first | refine awp_skip ?_ | refine awp_exit ?_); simp only [ak, reduceIte]) | (refine awp_ret ?_; simp only [ak, reduceIte]; simp [f11, f12, f13, f15, hj2, hj3, hjF, hfa, hfb, t4, q1, t1]) | (refine awp_cond ?_; simp [f11, f12, f13, f15, hj2, hj3, hjF, hfa, hfb, t4, q1, t1]; (try with_reducible refine ⟨?_, ?_⟩) <;> (try with_reducible intro hc) <;> try (exfalso; omega)) | ((first | (refine w_e [] ?_; intro J hJ; simp only []) | (refine w_q ?_; intro J hJ) | refine e_go ?_); simp [f11, f12, f13, f15, hj2, hj3, hjF, hfa, hfb, t4, q1, t1]; (repeat refine ca ?_); (try ((try with_reducible refine ⟨?_, ?_⟩) <;> (try with_reducible intro hnil) <;> refine hJ _ _ ?_ <;> clear hJ J <;> simp only [ak, reduceIte] <;> try subst hnil)))))
      refine hJ3 z _ _ (by omega) ⟨pAt F j, B ++ [fAt F j], by rw [hch]; simp, by omega, by omega, by omega, by simp; omega, by simp [f1], by simp [f11], by simp [f12], by simp, by simp; omega, ?_, s2.next + 1, by simp, by omega, by omega, by simp, by simp⟩
      exact (((hkp.trans (Keeps.new _ _)).set t2 _).trans (Keeps.new _ _))
  rw [if_neg hvt] at hrun
  have hvt2 : (v == to) = false := by simpa using hvt
  (repeat (first | refine awp_seq ?_ | refine awp_block ?_))
  have hk0 : ((k : Int) == 0) = decide (k = 0) := by
    by_cases h : k = 0
    · simp [h]
    · have : ¬ (k : Int) = 0 := by omega
      simp [h]
  (refine w_e [] ?_; intro J hJ; simp only []; simp [f13, f11, hlt]; (repeat refine ca ?_); (try ((try with_reducible refine ⟨?_, ?_⟩) <;> (try with_reducible intro hnil) <;> refine hJ _ _ ?_ <;> clear hJ J <;> simp only [ak, reduceIte] <;> try subst hnil)))
  (repeat (first | refine awp_seq ?_ | refine awp_block ?_))
  (refine awp_cond ?_; simp []; (try with_reducible refine ⟨?_, ?_⟩) <;> (try with_reducible intro hc) <;> try (exfalso; omega))
  refine awp_skip ?_; simp only [ak]
  (repeat (first | refine awp_seq ?_ | refine awp_block ?_))
  (refine w_e [] ?_; intro J hJ; simp only []; simp [f13, f11, hlt, hfa]; (repeat refine ca ?_); (try ((try with_reducible refine ⟨?_, ?_⟩) <;> (try with_reducible intro hnil) <;> refine hJ _ _ ?_ <;> clear hJ J <;> simp only [ak, reduceIte] <;> try subst hnil)))
  (repeat (first | refine awp_seq ?_ | refine awp_block ?_))
  (refine w_e [] ?_; intro J hJ; simp only []; simp [f2, hvt2]; (repeat refine ca ?_); (try ((try with_reducible refine ⟨?_, ?_⟩) <;> (try with_reducible intro hnil) <;> refine hJ _ _ ?_ <;> clear hJ J <;> simp only [ak, reduceIte] <;> try subst hnil)))
  (repeat (first | refine awp_seq ?_ | refine awp_block ?_))
  (refine awp_cond ?_; simp [hvt, hvt2]; (try with_reducible refine ⟨?_, ?_⟩) <;> (try with_reducible intro hc) <;> try (exfalso; omega))
  refine awp_skip ?_; simp only [ak]
  refine awp_seq ?_
  refine awp_cut1B (PI g from' to tt th al st s k v F (al || decide (k = 0))) ?_ ?_
  · clear hJJ
    have fin : ∀ (f : Frm), f 13 = i k → f 14 = u v → f 18 = bb (al || decide (k = 0)) → f 1 = u from' → f 2 = u to → f 3 = .sl tt th.length (us th) → f 4 = bb al → f 5 = .pt st.next 0 → f 11 = .sl tf F.length (us (fV F)) → f 12 = .sl tb F.length (ns (fB F)) → PI g from' to tt th al st s k v F (al || decide (k = 0)) f s :=
      fun f g1 g2 g3 g4 g5 g6 g7 g8 g9 g10 => ⟨rfl, g1, g2, g3, ⟨g4, g5, g6, g7, g8, hG, hsn, hkp⟩, tf, tb, g9, g10, hof, hob⟩
    cases al
    · by_cases h0 : k = 0
      · have h1 : ((k : Int) == 0) = true := by rw [hk0]; simp [h0]
        (repeat' (first | refine awp_seq ?_ | refine awp_block ?_ | ((first | refine awp_skip ?_ | refine awp_exit ?_); simp only [ak, reduceIte]) | (refine awp_ret ?_; simp only [ak, reduceIte]; simp [f4, f13, h1]) | (refine awp_cond ?_; simp [f4, f13, h1]; (try with_reducible refine ⟨?_, ?_⟩) <;> (try with_reducible intro hc) <;> try (exfalso; omega)) | ((first | (refine w_e [] ?_; intro J hJ; simp only []) | (refine w_q ?_; intro J hJ) | refine e_go ?_); simp [f4, f13, h1]; (repeat refine ca ?_); (try ((try with_reducible refine ⟨?_, ?_⟩) <;> (try with_reducible intro hnil) <;> refine hJ _ _ ?_ <;> clear hJ J <;> simp only [ak, reduceIte] <;> try subst hnil)))))
        exact ⟨by trivial, fin _ (by simp [f13]) (by simp) (by simp [h0]) (by simp [f1]) (by simp [f2]) (by simp [f3]) (by simp [f4]) (by simp [f5]) (by simp [f11]) (by simp [f12])⟩
      · have h1 : ((k : Int) == 0) = false := by rw [hk0]; simp [h0]
        (repeat' (first | refine awp_seq ?_ | refine awp_block ?_ | ((first | refine awp_skip ?_ | refine awp_exit ?_); simp only [ak, reduceIte]) | (refine awp_ret ?_; simp only [ak, reduceIte]; simp [f4, f13, h1]) | (refine awp_cond ?_; simp [f4, f13, h1]; (try with_reducible refine ⟨?_, ?_⟩) <;> (try with_reducible intro hc) <;> try (exfalso; omega)) | ((first | (refine w_e [] ?_; intro J hJ; simp only []) | (refine w_q ?_; intro J hJ) | refine e_go ?_); simp [f4, f13, h1]; (repeat refine ca ?_); (try ((try with_reducible refine ⟨?_, ?_⟩) <;> (try with_reducible intro hnil) <;> refine hJ _ _ ?_ <;> clear hJ J <;> simp only [ak, reduceIte] <;> try subst hnil)))))
        exact ⟨by trivial, fin _ (by simp [f13]) (by simp) (by simp [h0]) (by simp [f1]) (by simp [f2]) (by simp [f3]) (by simp [f4]) (by simp [f5]) (by simp [f11]) (by simp [f12])⟩
    · (repeat' (first | refine awp_seq ?_ | refine awp_block ?_ | ((first | refine awp_skip ?_ | refine awp_exit ?_); simp only [ak, reduceIte]) | (refine awp_ret ?_; simp only [ak, reduceIte]; simp [f4, f13]) | (refine awp_cond ?_; simp [f4, f13]; (try with_reducible refine ⟨?_, ?_⟩) <;> (try with_reducible intro hc) <;> try (exfalso; omega)) | ((first | (refine w_e [] ?_; intro J hJ; simp only []) | (refine w_q ?_; intro J hJ) | refine e_go ?_); simp [f4, f13]; (repeat refine ca ?_); (try ((try with_reducible refine ⟨?_, ?_⟩) <;> (try with_reducible intro hnil) <;> refine hJ _ _ ?_ <;> clear hJ J <;> simp only [ak, reduceIte] <;> try subst hnil)))))
      exact ⟨by trivial, fin _ (by simp [f13]) (by simp) (by simp) (by simp [f1]) (by simp [f2]) (by simp [f3]) (by simp [f4]) (by simp [f5]) (by simp [f11]) (by simp [f12])⟩
  clear f1 f2 f3 f4 f5 f11 f12 f13 hG hsn hkp hof hob hfa tf tb fr
  rintro fr s' ⟨rfl, f13, f14, f18, ⟨f1, f2, f3, f4, f5, hG, hsn, hkp⟩, tf, tb, f11, f12, hof, hob⟩
  (repeat' (first | refine awp_seq ?_ | refine awp_block ?_ | ((first | refine awp_skip ?_ | refine awp_exit ?_); simp only [ak, reduceIte]) | (refine awp_ret ?_; simp only [ak, reduceIte]; simp [f3]) | (refine awp_cond ?_; simp [f3]; (try with_reducible refine ⟨?_, ?_⟩) <;> (try with_reducible intro hc) <;> try (exfalso; omega)) | ((first | (refine w_e [] ?_; intro J hJ; simp only []) | (refine w_q ?_; intro J hJ) | refine e_go ?_); simp [f3]; (repeat refine ca ?_); (try ((try with_reducible refine ⟨?_, ?_⟩) <;> (try with_reducible intro hnil) <;> refine hJ _ _ ?_ <;> clear hJ J <;> simp only [ak, reduceIte] <;> try subst hnil)))))
  refine awp_range 89 88 90 96 (th.length) (fun j fr st2 => fr 87 = .sl tt th.length (us th) ∧ PI g from' to tt th al st s' k v F ((al || decide (k = 0)) || decide (v ∈ th.take j)) fr st2) ?_ ?_ ?_
  · exact ⟨by simp, rfl, by simp [f13], by simp [f14], by simp [f18], ⟨by simp [f1], by simp [f2], by simp [f3], by simp [f4], by simp [f5], hG, hsn, hkp⟩, tf, tb, by simp [f11], by simp [f12], hof, hob⟩
  · clear f1 f2 f3 f4 f5 f11 f12 f13 f14 f18 hG hsn hkp hof hob tf tb hJJ fr
    rintro j fr s hlj ⟨f87, rfl, f13, f14, f18, ⟨f1, f2, f3, f4, f5, hG, hsn, hkp⟩, tf, tb, f11, f12, hof, hob⟩ fi fn J hJ
    have hdj := us_drop_getD th j hlj
    have htj : th.take (j + 1) = th.take j ++ [th.getD j 0] := by
      rw [List.getD_eq_getElem?_getD, List.getElem?_eq_getElem hlj]; exact List.take_succ_eq_append_getElem hlj
    generalize th.getD j 0 = y at *
    have fin : ∀ (f : Frm) (b : Bool), f 89 = i j → f 88 = i th.length → f 87 = .sl tt th.length (us th) → f 13 = i k → f 14 = u v → f 18 = bb b → f 1 = u from' → f 2 = u to → f 3 = .sl tt th.length (us th) → f 4 = bb al → f 5 = .pt st.next 0 → f 11 = .sl tf F.length (us (fV F)) → f 12 = .sl tb F.length (ns (fB F)) → b = ((al || decide (k = 0)) || decide (v ∈ th.take (j + 1))) → J f s :=
      fun f b g1 g2 g3 g4 g5 g6 g7 g8 g9 g10 g11 g12 g13 g14 => hJ _ _ g1 g2 ⟨by simp [g3], rfl, by simp [g4], by simp [g5], by simp [g6, g14], ⟨by simp [g7], by simp [g8], by simp [g9], by simp [g10], by simp [g11], hG, hsn, hkp⟩, tf, tb, by simp [g12], by simp [g13], hof, hob⟩
    by_cases hy : y = v
    · have hy2 : (y == v) = true := by simpa using hy
      (repeat' (first | refine awp_seq ?_ | refine awp_block ?_ | ((first | refine awp_skip ?_ | refine awp_exit ?_); simp only [ak, reduceIte]) | (refine awp_ret ?_; simp only [ak, reduceIte]; simp [f87, f14, fi, fn, hdj, hlj, hy2]) | (refine awp_cond ?_; simp [f87, f14, fi, fn, hdj, hlj, hy2]; (try with_reducible refine ⟨?_, ?_⟩) <;> (try with_reducible intro hc) <;> try (exfalso; omega)) | ((first | (refine w_e [] ?_; intro J hJ; simp only []) | (refine w_q ?_; intro J hJ) | refine e_go ?_); simp [f87, f14, fi, fn, hdj, hlj, hy2]; (repeat refine ca ?_); (try ((try with_reducible refine ⟨?_, ?_⟩) <;> (try with_reducible intro hnil) <;> refine hJ _ _ ?_ <;> clear hJ J <;> simp only [ak, reduceIte] <;> try subst hnil)))))
      exact fin _ true (by simp [fi]) (by simp [fn]) (by simp [f87]) (by simp [f13]) (by simp [f14]) (by simp) (by simp [f1]) (by simp [f2]) (by simp [f3]) (by simp [f4]) (by simp [f5]) (by simp [f11]) (by simp [f12]) (by rw [htj]; simp [hy])
    · have hy2 : (y == v) = false := by simpa using hy
      have hy3 : ¬ v = y := fun h => hy h.symm
      (repeat' (first | refine awp_seq ?_ | refine awp_block ?_ | ((first | refine awp_skip ?_ | refine awp_exit ?_); simp only [ak, reduceIte]) | (refine awp_ret ?_; simp only [ak, reduceIte]; simp [f87, f14, fi, fn, hdj, hlj, hy2]) | (refine awp_cond ?_; simp [f87, f14, fi, fn, hdj, hlj, hy2]; (try with_reducible refine ⟨?_, ?_⟩) <;> (try with_reducible intro hc) <;> try (exfalso; omega)) | ((first | (refine w_e [] ?_; intro J hJ; simp only []) | (refine w_q ?_; intro J hJ) | refine e_go ?_); simp [f87, f14, fi, fn, hdj, hlj, hy2]; (repeat refine ca ?_); (try ((try with_reducible refine ⟨?_, ?_⟩) <;> (try with_reducible intro hnil) <;> refine hJ _ _ ?_ <;> clear hJ J <;> simp only [ak, reduceIte] <;> try subst hnil)))))
      exact fin _ _ (by simp [fi]) (by simp [fn]) (by simp [f87]) (by simp [f13]) (by simp [f14]) (by simp; exact f18) (by simp [f1]) (by simp [f2]) (by simp [f3]) (by simp [f4]) (by simp [f5]) (by simp [f11]) (by simp [f12]) (by rw [htj]; simp [hy3])
  clear f1 f2 f3 f4 f5 f11 f12 f13 f14 f18 hG hsn hkp hof hob tf tb fr
  rintro fr s ⟨f87, rfl, f13, f14, f18, ⟨f1, f2, f3, f4, f5, hG, hsn, hkp⟩, tf, tb, f11, f12, hof, hob⟩
  rw [List.take_length] at f18
  have hmayE : ((al || decide (k = 0)) || decide (v ∈ th)) = decide (k = 0 ∨ (al || decide (v ∈ th)) = true) := by
    cases al <;> by_cases h1 : k = 0 <;> by_cases h2 : v ∈ th <;> simp [h1, h2]
  rw [hmayE] at f18
  by_cases hmay : k = 0 ∨ (al || decide (v ∈ th)) = true
  rotate_left
  · rw [decide_eq_false hmay] at f18
    rw [if_neg hmay] at hrun
    (repeat' (first | refine awp_seq ?_ | refine awp_block ?_ | ((first | refine awp_skip ?_ | refine awp_exit ?_); simp only [ak, reduceIte]) | (refine awp_ret ?_; simp only [ak, reduceIte]; simp [f18, f13, hw]) | (refine awp_cond ?_; simp [f18, f13, hw]; (try with_reducible refine ⟨?_, ?_⟩) <;> (try with_reducible intro hc) <;> try (exfalso; omega)) | ((first | (refine w_e [] ?_; intro J hJ; simp only []) | (refine w_q ?_; intro J hJ) | refine e_go ?_); simp [f18, f13, hw]; (repeat refine ca ?_); (try ((try with_reducible refine ⟨?_, ?_⟩) <;> (try with_reducible intro hnil) <;> refine hJ _ _ ?_ <;> clear hJ J <;> simp only [ak, reduceIte] <;> try subst hnil)))))
    exact hJJ m _ _ (by omega) ⟨k + 1, F, hrun, by omega, by omega, hpar, hF0, by omega, by simp, ⟨by simp [f1], by simp [f2], by simp [f3], by simp [f4], by simp [f5], hG, hsn, hkp⟩, tf, tb, by simp [f11], by simp [f12], hof, hob⟩
  rw [decide_eq_true hmay] at f18
  rw [if_pos hmay] at hrun
  (repeat' (first | refine awp_seq ?_ | refine awp_block ?_ | ((first | refine awp_skip ?_ | refine awp_exit ?_); simp only [ak, reduceIte]) | (refine awp_ret ?_; simp only [ak, reduceIte]; simp [f18, f5, f14, hG]) | (refine awp_cond ?_; simp [f18, f5, f14, hG]; (try with_reducible refine ⟨?_, ?_⟩) <;> (try with_reducible intro hc) <;> try (exfalso; omega)) | ((first | (refine w_e [] ?_; intro J hJ; simp only []) | (refine w_q ?_; intro J hJ) | refine e_go ?_); simp [f18, f5, f14, hG]; (repeat refine ca ?_); (try ((try with_reducible refine ⟨?_, ?_⟩) <;> (try with_reducible intro hnil) <;> refine hJ _ _ ?_ <;> clear hJ J <;> simp only [ak, reduceIte] <;> try subst hnil)))))
  refine callK_ofE (ref_nNear g v _ hv he) (by simp) ?_; rintro r s2 ⟨rfl, hk2⟩
  have hn2 := hk2.next
  have hG2 := (hk2.H st.next (by omega)).trans hG
  have hrl := nearR_len g v
  have hrow : (g.vs.filter fun w => decide (adj g.es v w)) = nearR g v := rfl
  rw [hrow]
  generalize nearR g v = row at *
  (repeat' (first | refine awp_seq ?_ | refine awp_block ?_ | ((first | refine awp_skip ?_ | refine awp_exit ?_); simp only [ak, reduceIte]) | (refine awp_ret ?_; simp only [ak, reduceIte]; simp []) | (refine awp_cond ?_; simp []; (try with_reducible refine ⟨?_, ?_⟩) <;> (try with_reducible intro hc) <;> try (exfalso; omega)) | ((first | (refine w_e [] ?_; intro J hJ; simp only []) | (refine w_q ?_; intro J hJ) | refine e_go ?_); simp []; (repeat refine ca ?_); (try ((try with_reducible refine ⟨?_, ?_⟩) <;> (try with_reducible intro hnil) <;> refine hJ _ _ ?_ <;> clear hJ J <;> simp only [ak, reduceIte] <;> try subst hnil)))))
  refine awp_range 103 102 104 127 (row.length) (fun j fr st2 => fr 101 = .sl 0 row.length (us row) ∧ fr 13 = i k ∧ PF g from' to tt th al st fr st2 ∧ FB (scanR k F (row.take j)) st fr st2) ?_ ?_ ?_
  · exact ⟨by simp, by simp [f13], ⟨by simp [f1], by simp [f2], by simp [f3], by simp [f4], by simp [f5], hG2, by omega, hkp.trans hk2⟩, tf, tb, by simp [scanR, f11], by simp [scanR, f12], hof.keeps hk2, hob.keeps hk2⟩
  · clear f1 f2 f3 f4 f5 f11 f12 f13 f14 f18 f87 hG hsn hkp hof hob tf tb fr hG2 hn2 hk2 hJJ
    rintro j0 fr s3 hlj ⟨f101, f13, ⟨f1, f2, f3, f4, f5, hG, hsn, hkp⟩, tf, tb, f11, f12, hof, hob⟩ fi fn JO hJO
    have hdj := us_drop_getD row j0 hlj
    have htj : row.take (j0 + 1) = row.take j0 ++ [row.getD j0 0] := by
      rw [List.getD_eq_getElem?_getD, List.getElem?_eq_getElem hlj]; exact List.take_succ_eq_append_getElem hlj
    have hsc := scanR_snoc k F (row.take j0) (row.getD j0 0)
    rw [← htj] at hsc
    have hgl := (scanR_len k F (row.take j0)).2
    rw [List.length_take] at hgl
    generalize row.getD j0 0 = x at *
    generalize scanR k F (row.take j0) = G at *
    have hGl : G.length ≤ 1002001 := by omega
    (repeat' (first | refine awp_seq ?_ | refine awp_block ?_ | ((first | refine awp_skip ?_ | refine awp_exit ?_); simp only [ak, reduceIte]) | (refine awp_ret ?_; simp only [ak, reduceIte]; simp [f11, f101, fi, fn, hdj, hlj]) | (refine awp_cond ?_; simp [f11, f101, fi, fn, hdj, hlj]; (try with_reducible refine ⟨?_, ?_⟩) <;> (try with_reducible intro hc) <;> try (exfalso; omega)) | ((first | (refine w_e [] ?_; intro J hJ; simp only []) | (refine w_q ?_; intro J hJ) | refine e_go ?_); simp [f11, f101, fi, fn, hdj, hlj]; (repeat refine ca ?_); (try ((try with_reducible refine ⟨?_, ?_⟩) <;> (try with_reducible intro hnil) <;> refine hJ _ _ ?_ <;> clear hJ J <;> simp only [ak, reduceIte] <;> try subst hnil)))))
    refine awp_range 109 108 110 116 (G.length) (fun j fr st2 => st2 = s3 ∧ fr 107 = .sl tf G.length (us (fV G)) ∧ fr 23 = bb (decide (x ∈ (fV G).take j)) ∧ fr 103 = i j0 ∧ fr 102 = i row.length ∧ fr 101 = .sl 0 row.length (us row) ∧ fr 22 = u x ∧ fr 13 = i k ∧ fr 1 = u from' ∧ fr 2 = u to ∧ fr 3 = .sl tt th.length (us th) ∧ fr 4 = bb al ∧ fr 5 = .pt st.next 0 ∧ fr 11 = .sl tf G.length (us (fV G)) ∧ fr 12 = .sl tb G.length (ns (fB G))) ?_ ?_ ?_
    · exact ⟨rfl, by simp, by simp, by simp [fi], by simp [fn], by simp [f101], by simp, by simp [f13], by simp [f1], by simp [f2], by simp [f3], by simp [f4], by simp [f5], by simp [f11], by simp [f12]⟩
    · clear f1 f2 f3 f4 f5 f11 f12 f13 f101 fi fn hJO fr
      rintro j fr s4 hlj2 ⟨rfl, f107, f23, f103, f102, f101, f22, f13, f1, f2, f3, f4, f5, f11, f12⟩ fi fn J hJ
      have hd2 := us_drop_getD (fV G) j (by simpa using hlj2)
      have ht2 : (fV G).take (j + 1) = (fV G).take j ++ [(fV G).getD j 0] := by
        rw [List.getD_eq_getElem?_getD, List.getElem?_eq_getElem (by simpa using hlj2)]; exact List.take_succ_eq_append_getElem (by simpa using hlj2)
      generalize (fV G).getD j 0 = y at *
      have fin : ∀ (f : Frm) (b : Bool), f 109 = i j → f 108 = i G.length → f 107 = .sl tf G.length (us (fV G)) → f 23 = bb b → f 103 = i j0 → f 102 = i row.length → f 101 = .sl 0 row.length (us row) → f 22 = u x → f 13 = i k → f 1 = u from' → f 2 = u to → f 3 = .sl tt th.length (us th) → f 4 = bb al → f 5 = .pt st.next 0 → f 11 = .sl tf G.length (us (fV G)) → f 12 = .sl tb G.length (ns (fB G)) → b = decide (x ∈ (fV G).take (j + 1)) → J f s4 :=
        fun f b g1 g2 g3 g4 g5 g6 g7 g8 g9 g10 g11 g12 g13 g14 g15 g16 g17 => hJ _ _ g1 g2 ⟨rfl, by simp [g3], by simp [g4, g17], by simp [g5], by simp [g6], by simp [g7], by simp [g8], by simp [g9], by simp [g10], by simp [g11], by simp [g12], by simp [g13], by simp [g14], by simp [g15], by simp [g16]⟩
      by_cases hy : y = x
      · have hy2 : (y == x) = true := by simpa using hy
        (repeat' (first | refine awp_seq ?_ | refine awp_block ?_ | ((first | refine awp_skip ?_ | refine awp_exit ?_); simp only [ak, reduceIte]) | (refine awp_ret ?_; simp only [ak, reduceIte]; simp [f107, f22, fi, fn, hd2, hlj2, hy2]) | (refine awp_cond ?_; simp [f107, f22, fi, fn, hd2, hlj2, hy2]; (try with_reducible refine ⟨?_, ?_⟩) <;> (try with_reducible intro hc) <;> try (exfalso; omega)) | ((first | (refine w_e [] ?_; intro J hJ; simp only []) | (refine w_q ?_; intro J hJ) | refine e_go ?_); simp [f107, f22, fi, fn, hd2, hlj2, hy2]; (repeat refine ca ?_); (try ((try with_reducible refine ⟨?_, ?_⟩) <;> (try with_reducible intro hnil) <;> refine hJ _ _ ?_ <;> clear hJ J <;> simp only [ak, reduceIte] <;> try subst hnil)))))
        exact fin _ true (by simp [fi]) (by simp [fn]) (by simp [f107]) (by simp) (by simp [f103]) (by simp [f102]) (by simp [f101]) (by simp [f22]) (by simp [f13]) (by simp [f1]) (by simp [f2]) (by simp [f3]) (by simp [f4]) (by simp [f5]) (by simp [f11]) (by simp [f12]) (by rw [ht2]; simp [hy])
      · have hy2 : (y == x) = false := by simpa using hy
        have hy3 : ¬ x = y := fun h => hy h.symm
        (repeat' (first | refine awp_seq ?_ | refine awp_block ?_ | ((first | refine awp_skip ?_ | refine awp_exit ?_); simp only [ak, reduceIte]) | (refine awp_ret ?_; simp only [ak, reduceIte]; simp [f107, f22, fi, fn, hd2, hlj2, hy2]) | (refine awp_cond ?_; simp [f107, f22, fi, fn, hd2, hlj2, hy2]; (try with_reducible refine ⟨?_, ?_⟩) <;> (try with_reducible intro hc) <;> try (exfalso; omega)) | ((first | (refine w_e [] ?_; intro J hJ; simp only []) | (refine w_q ?_; intro J hJ) | refine e_go ?_); simp [f107, f22, fi, fn, hd2, hlj2, hy2]; (repeat refine ca ?_); (try ((try with_reducible refine ⟨?_, ?_⟩) <;> (try with_reducible intro hnil) <;> refine hJ _ _ ?_ <;> clear hJ J <;> simp only [ak, reduceIte] <;> try subst hnil)))))
        exact fin _ _ (by simp [fi]) (by simp [fn]) (by simp [f107]) (by simp; exact f23) (by simp [f103]) (by simp [f102]) (by simp [f101]) (by simp [f22]) (by simp [f13]) (by simp [f1]) (by simp [f2]) (by simp [f3]) (by simp [f4]) (by simp [f5]) (by simp [f11]) (by simp [f12]) (by rw [ht2]; simp [hy3])
    · clear f1 f2 f3 f4 f5 f11 f12 f13 f101 fi fn fr
      rintro fr s4 ⟨rfl, f107, f23, f103, f102, f101, f22, f13, f1, f2, f3, f4, f5, f11, f12⟩
      rw [List.take_of_length_le (by simp)] at f23
      by_cases hin : x ∈ fV G
      · have h1 : scanR1 k G x = G := by unfold scanR1; exact if_pos hin
        rw [h1] at hsc
        rw [decide_eq_true hin] at f23
        (repeat' (first | refine awp_seq ?_ | refine awp_block ?_ | ((first | refine awp_skip ?_ | refine awp_exit ?_); simp only [ak, reduceIte]) | (refine awp_ret ?_; simp only [ak, reduceIte]; simp [f23]) | (refine awp_cond ?_; simp [f23]; (try with_reducible refine ⟨?_, ?_⟩) <;> (try with_reducible intro hc) <;> try (exfalso; omega)) | ((first | (refine w_e [] ?_; intro J hJ; simp only []) | (refine w_q ?_; intro J hJ) | refine e_go ?_); simp [f23]; (repeat refine ca ?_); (try ((try with_reducible refine ⟨?_, ?_⟩) <;> (try with_reducible intro hnil) <;> refine hJ _ _ ?_ <;> clear hJ J <;> simp only [ak, reduceIte] <;> try subst hnil)))))
        exact hJO _ _ (by simp [f103]) (by simp [f102]) ⟨by simp [f101], by simp [f13], ⟨by simp [f1], by simp [f2], by simp [f3], by simp [f4], by simp [f5], hG, hsn, hkp⟩, tf, tb, by rw [hsc]; simp [f11], by rw [hsc]; simp [f12], by rw [hsc]; exact hof, by rw [hsc]; exact hob⟩
      · have h1 : scanR1 k G x = G ++ [(x, k)] := by unfold scanR1; exact if_neg hin
        rw [h1] at hsc
        rw [decide_eq_false hin] at f23
        obtain ⟨of1, of2, of3, of4⟩ := hof
        obtain ⟨ob1, ob2, ob3, ob4⟩ := hob
        have q1 : ¬ tf = s4.next := by omega
        have q2 : ¬ tb = s4.next := by omega
        have q3 : ¬ tb = s4.next + 1 := by omega
        have q4 : ¬ tb = s4.next + 2 := by omega
        have q5 : ¬ tb = tf := box_neT ob4 of4 (by simp)
        have q6 : ¬ st.next = tf := box_neT hG of4 (by simp)
        have q7 : ¬ st.next = tb := box_neT hG ob4 (by simp)
        (repeat' (first | refine awp_seq ?_ | refine awp_block ?_ | ((first | refine awp_skip ?_ | refine awp_exit ?_); simp only [ak, reduceIte]) | (refine awp_ret ?_; simp only [ak, reduceIte]; simp [f23, f22, f11, f12, f13, of4, ob4, q1, q2, q3, q4, q5, of1, ob1]) | (refine awp_cond ?_; simp [f23, f22, f11, f12, f13, of4, ob4, q1, q2, q3, q4, q5, of1, ob1]; (try with_reducible refine ⟨?_, ?_⟩) <;> (try with_reducible intro hc) <;> try (exfalso; omega)) | ((first | (refine w_e [] ?_; intro J hJ; simp only []) | (refine w_q ?_; intro J hJ) | refine e_go ?_); simp [f23, f22, f11, f12, f13, of4, ob4, q1, q2, q3, q4, q5, of1, ob1]; (repeat refine ca ?_); (try ((try with_reducible refine ⟨?_, ?_⟩) <;> (try with_reducible intro hnil) <;> refine hJ _ _ ?_ <;> clear hJ J <;> simp only [ak, reduceIte] <;> try subst hnil)))))
        refine hJO _ _ (by simp [f103]) (by simp [f102]) ⟨by simp [f101], by simp [f13], ⟨by simp [f1], by simp [f2], by simp [f3], by simp [f4], by simp [f5], ?_, by simp; omega, ?_⟩, s4.next + 1, s4.next + 3, by rw [hsc]; simp [fV], by rw [hsc]; simp [fB, ns], ⟨by omega, by omega, by simp, ?_⟩, by omega, by omega, by simp, ?_⟩
        · (repeat (first | rw [new_H, if_neg (α := LObj) (by (try simp only [set_next, new_next]); omega)] | rw [set_H, if_neg (α := LObj) (by omega)] | rw [new_H, if_pos (α := LObj) (by (try simp only [set_next, new_next]))] | rw [set_H, if_pos (α := LObj) (by omega)])); exact hG
        · exact ((((((hkp.trans (Keeps.new _ _)).set of2 _).trans (Keeps.new _ _)).trans (Keeps.new _ _)).set ob2 _).trans (Keeps.new _ _))
        · (repeat (first | rw [new_H, if_neg (α := LObj) (by (try simp only [set_next, new_next]); omega)] | rw [set_H, if_neg (α := LObj) (by omega)] | rw [new_H, if_pos (α := LObj) (by (try simp only [set_next, new_next]))] | rw [set_H, if_pos (α := LObj) (by omega)])); rw [hsc]; simp
        · (repeat (first | rw [new_H, if_neg (α := LObj) (by (try simp only [set_next, new_next]); omega)] | rw [set_H, if_neg (α := LObj) (by omega)] | rw [new_H, if_pos (α := LObj) (by (try simp only [set_next, new_next]))] | rw [set_H, if_pos (α := LObj) (by omega)])); rw [hsc]; simp
  · clear f1 f2 f3 f4 f5 f11 f12 f13 f14 f18 f87 hG hsn hkp hof hob tf tb fr hG2 hn2 hk2
    rintro fr s3 ⟨f101, f13, ⟨f1, f2, f3, f4, f5, hG, hsn, hkp⟩, tf, tb, f11, f12, hof, hob⟩
    rw [List.take_length] at f11 f12 hof hob
    have hsl := scanR_len k F row
    (repeat' (first | refine awp_seq ?_ | refine awp_block ?_ | ((first | refine awp_skip ?_ | refine awp_exit ?_); simp only [ak, reduceIte]) | (refine awp_ret ?_; simp only [ak, reduceIte]; simp [f13, hw]) | (refine awp_cond ?_; simp [f13, hw]; (try with_reducible refine ⟨?_, ?_⟩) <;> (try with_reducible intro hc) <;> try (exfalso; omega)) | ((first | (refine w_e [] ?_; intro J hJ; simp only []) | (refine w_q ?_; intro J hJ) | refine e_go ?_); simp [f13, hw]; (repeat refine ca ?_); (try ((try with_reducible refine ⟨?_, ?_⟩) <;> (try with_reducible intro hnil) <;> refine hJ _ _ ?_ <;> clear hJ J <;> simp only [ak, reduceIte] <;> try subst hnil)))))
    exact hJJ m _ _ (by omega) ⟨k + 1, _, hrun, by omega, by omega, hpar.scan hlt row, by omega, by omega, by simp, ⟨by simp [f1], by simp [f2], by simp [f3], by simp [f4], by simp [f5], hG, hsn, hkp⟩, tf, tb, by simp [f11], by simp [f12], hof, hob⟩

end Go.Proofs.YtomfeddgeihipaaGreat.Aw

namespace Go.Proofs.YtomfeddgeihipaaGreat.Aw
open Go Go.RowKit Go.Proofs.YtomfeddgeihipaaGreat.Pl
set_option linter.unusedSimpArgs false
set_option linter.unusedVariables false

structure GrF (g : Gr) : Prop where
  rise : g.vs.Pairwise (· < ·)
  vpos : ∀ v ∈ g.vs, 1 ≤ v ∧ v ≤ 1048576
  ids : g.es.Pairwise fun x y => x.id < y.id
  pos : ∀ x ∈ g.es, 1 ≤ x.id ∧ x.id ≤ 1048576
  ne : ∀ x ∈ g.es, x.a ≠ x.b
  ends : ∀ x ∈ g.es, x.a ∈ g.vs ∧ x.b ∈ g.vs
  l1 : g.vs.length ≤ 64
  l2 : g.es.length ≤ 160

theorem nz_all {f : Nat → Int} {n : Nat} (h : firstNZ f n = 0) : ∀ j, j < n → f j = 0 := by
  induction n with
  | zero => intro j hj; omega
  | succ n ih =>
    intro j hj
    simp only [firstNZ] at h
    by_cases h0 : firstNZ f n = 0
    · rw [if_neg (by simp [h0])] at h
      rcases Nat.lt_or_ge j n with h1 | h1
      · exact ih h0 j h1
      · obtain rfl : j = n := by omega
        exact h
    · rw [if_pos h0] at h; exact absurd h h0
theorem numb_zero_iff (n a : Int) (b : Bool) : numb n a b = 0 ↔ (1 ≤ n ∧ n ≤ 1048576) ∧ (b = false → a < n) := by
  unfold numb
  by_cases h1 : n < 1 ∨ 1048576 < n
  · rw [if_pos h1]
    constructor
    · intro h; cases h
    · rintro ⟨h, _⟩; omega
  · rw [if_neg h1]
    by_cases h2 : b = false ∧ n ≤ a
    · rw [if_pos h2]
      constructor
      · intro h; cases h
      · rintro ⟨_, h⟩; have := h h2.1; omega
    · rw [if_neg h2]
      refine ⟨fun _ => ⟨by omega, fun hb => ?_⟩, fun _ => rfl⟩
      rcases Int.lt_or_le a n with h3 | h3
      · exact h3
      · exact absurd ⟨hb, h3⟩ h2
theorem rise_step {l : List Int} (h : ∀ j, j < l.length → 0 < j → l.getD (j - 1) 0 < l.getD j 0) : l.Pairwise (· < ·) := by
  have g : ∀ j (hj : j < l.length), l.getD j 0 = l[j] := fun j hj => by rw [List.getD_eq_getElem?_getD, List.getElem?_eq_getElem hj]; rfl
  rw [List.pairwise_iff_getElem]
  intro a b ha hb hab
  induction b with
  | zero => omega
  | succ b ih =>
    have h1 := h (b + 1) hb (by omega)
    rw [Nat.add_sub_cancel, g _ hb, g _ (by omega)] at h1
    rcases Nat.lt_or_ge a b with h2 | h2
    · have := ih (by omega) h2; omega
    · obtain rfl : a = b := by omega
      exact h1
theorem gE (l : List Ed) (j : Nat) (hj : j < l.length) : l.getD j ed0 = l[j] := by
  rw [List.getD_eq_getElem?_getD, List.getElem?_eq_getElem hj]; rfl
theorem badE_zero (g : Gr) (j : Nat) (x : Ed) (hx : g.es.getD j ed0 = x) : badE g j = 0 ↔ ((1 ≤ x.id ∧ x.id ≤ 1048576) ∧ (0 < j → (g.es.getD (j - 1) ed0).id < x.id)) ∧ x.a ≠ x.b ∧ x.a ∈ g.vs ∧ x.b ∈ g.vs := by
  unfold badE
  simp only [hx]
  have h0 := numb_zero_iff x.id (g.es.getD (j - 1) ed0).id (decide (j = 0))
  have hj : (decide (j = 0) = false) ↔ 0 < j := by simp; omega
  rw [hj] at h0
  by_cases h1 : numb x.id (g.es.getD (j - 1) ed0).id (decide (j = 0)) = 0
  · rw [if_neg (fun h => h h1)]
    have h1' := h0.1 h1
    by_cases h2 : x.a = x.b
    · rw [if_pos h2]
      constructor
      · intro h; cases h
      · rintro ⟨_, h, _⟩; exact absurd h2 h
    · rw [if_neg h2]
      by_cases h3 : x.a ∉ g.vs ∨ x.b ∉ g.vs
      · rw [if_pos h3]
        constructor
        · intro h; cases h
        · rintro ⟨_, _, h, h'⟩
          rcases h3 with h3 | h3
          · exact absurd h h3
          · exact absurd h' h3
      · rw [if_neg h3]
        exact ⟨fun _ => ⟨h1', h2, Classical.byContradiction fun h => h3 (.inl h), Classical.byContradiction fun h => h3 (.inr h)⟩, fun _ => rfl⟩
  · rw [if_pos h1]
    constructor
    · intro h; exact absurd h h1
    · rintro ⟨h, _⟩; exact absurd (h0.2 h) h1
theorem chk_full {g : Gr} (h : chk g = 0) : GrF g := by
  unfold chk at h
  by_cases h1 : 64 < g.vs.length ∨ 160 < g.es.length
  · rw [if_pos h1] at h; cases h
  rw [if_neg h1] at h
  by_cases h2 : firstNZ (badV g) g.vs.length = 0
  rotate_left
  · rw [if_pos h2] at h; exact absurd h h2
  rw [if_neg (by simp [h2])] at h
  have gI : ∀ j (hj : j < g.vs.length), g.vs.getD j 0 = g.vs[j] := fun j hj => by rw [List.getD_eq_getElem?_getD, List.getElem?_eq_getElem hj]; rfl
  have hV := fun j hj => (numb_zero_iff _ _ _).1 (nz_all h2 j hj)
  have hE := fun j hj => (badE_zero g j _ rfl).1 (nz_all h j hj)
  have hin : ∀ x ∈ g.es, ∃ j, j < g.es.length ∧ g.es.getD j ed0 = x := fun x hx => by
    obtain ⟨j, hj, rfl⟩ := List.getElem_of_mem hx
    exact ⟨j, hj, gE _ _ hj⟩
  refine ⟨rise_step fun j hj h0 => (hV j hj).2 (by simp; omega), fun v hv => ?_, ?_, fun x hx => ?_, fun x hx => ?_, fun x hx => ?_, by omega, by omega⟩
  · obtain ⟨j, hj, rfl⟩ := List.getElem_of_mem hv
    rw [← gI j hj]; exact (hV j hj).1
  · have := rise_step (l := g.es.map (·.id)) fun j hj h0 => by
      rw [List.length_map] at hj
      have := (hE j hj).1.2 h0
      rw [gE _ _ hj, gE _ _ (by omega)] at this
      rw [List.getD_eq_getElem?_getD, List.getElem?_eq_getElem (by simp; omega), List.getD_eq_getElem?_getD, List.getElem?_eq_getElem (by simp; omega)]
      simpa using this
    rwa [List.pairwise_map] at this
  · obtain ⟨j, hj, rfl⟩ := hin x hx; exact (hE j hj).1.1
  · obtain ⟨j, hj, rfl⟩ := hin x hx; exact (hE j hj).2.1
  · obtain ⟨j, hj, rfl⟩ := hin x hx; exact (hE j hj).2.2
end Go.Proofs.YtomfeddgeihipaaGreat.Aw

namespace Go.Proofs.YtomfeddgeihipaaGreat.Aw
open Go Go.RowKit Go.Proofs.YtomfeddgeihipaaGreat.Pl
set_option linter.unusedSimpArgs false
set_option linter.unusedVariables false

def lightB (g : Gr) : Bool := decide (chk g = 0 ∧ g.vs.length ≤ 16 ∧ g.es.length ≤ 24)
theorem nearR_eq {g : Gr} (h : GrF g) : nearR g = nearF g.es := by
  funext v
  exact (nearF_eq h.ne h.rise h.ends v).symm

theorem pathF_len2 {vs : List Int} {near : Int → List Int} {may : Int → Bool} {a b : Int} {n : Nat} {l : List Int} (h : pathF vs near may a b n = some l) : l.length ≤ n + 1 := by
  unfold pathF at h
  split at h
  · injection h with h; subst h; simp
  · split at h
    · injection h with h; subst h; simp
    · split at h
      · injection h with h; subst h; simp
      · rw [Option.map_eq_some_iff] at h
        obtain ⟨l', h1, rfl⟩ := h
        have := backF_len h1
        simp only [List.length_reverse, List.length_cons]; omega
      · cases h

end Go.Proofs.YtomfeddgeihipaaGreat.Aw

namespace Go.Proofs.YtomfeddgeihipaaGreat.Aw
open Go Go.RowKit Go.Proofs.YtomfeddgeihipaaGreat.Pl
set_option linter.unusedSimpArgs false
set_option linter.unusedVariables false

theorem Ring_1 (x : Ed) (q M : Nat) (ids : List Int) (es : List (List Int × LV)) (st : St) (hq : st.H q = .box 130 1 [.mp M]) (hM : st.H M = .map false [.u32] es) (hes : ∀ v, mget es [v] = if v ∈ ids then some (.ag []) else none) (hqn : q < st.next) (hMn : M < st.next) :
    ACalls Tryz.prog 109 [.ag (edL x), .pt q 0] st fun r st' => r = bb (decide (x.id ∈ ids)) ∧ Keeps st st' := by
  obtain ⟨d, a, b⟩ := x
  have a1 : ¬ q = st.next := by omega
  have a2 : ¬ M = st.next := by omega
  have hd := hes d
  refine acalls_of_body tabOk Tryz.func109 rfl rfl Tryz.ntmps109 (rs := [.tmp 3]) rfl (by simp) ?_
  by_cases h : d ∈ ids
  · rw [if_pos h] at hd
    (repeat' (first | refine awp_seq ?_ | refine awp_block ?_ | ((first | refine awp_skip ?_ | refine awp_exit ?_); simp only [ak, reduceIte]) | (refine awp_ret ?_; simp only [ak, reduceIte]; simp [hq, a1, a2, h, hd, hM]) | (refine awp_cond ?_; simp [hq, a1, a2, h, hd, hM]; (try with_reducible refine ⟨?_, ?_⟩) <;> (try with_reducible intro hc) <;> try (exfalso; omega)) | ((first | (refine w_e [] ?_; intro J hJ; simp only []) | (refine w_q ?_; intro J hJ) | refine e_go ?_); simp [hq, a1, a2, h, hd, hM]; (repeat refine ca ?_); (try ((try with_reducible refine ⟨?_, ?_⟩) <;> (try with_reducible intro hnil) <;> refine hJ _ _ ?_ <;> clear hJ J <;> simp only [ak, reduceIte] <;> try subst hnil)))))
    exact ((Keeps.new _ _).trans (Keeps.new _ _)).set (by omega) _
  · rw [if_neg h] at hd
    (repeat' (first | refine awp_seq ?_ | refine awp_block ?_ | ((first | refine awp_skip ?_ | refine awp_exit ?_); simp only [ak, reduceIte]) | (refine awp_ret ?_; simp only [ak, reduceIte]; simp [hq, a1, a2, h, hd, hM]) | (refine awp_cond ?_; simp [hq, a1, a2, h, hd, hM]; (try with_reducible refine ⟨?_, ?_⟩) <;> (try with_reducible intro hc) <;> try (exfalso; omega)) | ((first | (refine w_e [] ?_; intro J hJ; simp only []) | (refine w_q ?_; intro J hJ) | refine e_go ?_); simp [hq, a1, a2, h, hd, hM]; (repeat refine ca ?_); (try ((try with_reducible refine ⟨?_, ?_⟩) <;> (try with_reducible intro hnil) <;> refine hJ _ _ ?_ <;> clear hJ J <;> simp only [ak, reduceIte] <;> try subst hnil)))))
    exact ((Keeps.new _ _).trans (Keeps.new _ _)).set (by omega) _

@[simp] def boxM (M : Nat) : LObj := .box 130 1 [.mp M]
def RingR (g : Gr) (id : Int) (I : List Ed) (l : List Int) : Prop := if id ∈ idsL I ∨ fe g.es id < 0 then l = [] else refPath g.vs (nearF I) (fun _ => true) (g.es.getD (fe g.es id).toNat ed0).a (g.es.getD (fe g.es id).toNat ed0).b 100 = some l
def RgR (g : Gr) (id : Int) (r : LV) : Prop := ∀ I Rs, IsFo g.es I Rs → ∃ l, RingR g id I l ∧ r = .sl 0 l.length (us l)
theorem RgR.none {g : Gr} {id : Int} (h : ∀ I Rs, IsFo g.es I Rs → id ∈ idsL I ∨ fe g.es id < 0) : RgR g id (z0 .nil) := fun I Rs hI => ⟨[], by unfold RingR; rw [if_pos (h I Rs hI)], rfl⟩
theorem fe_lt (l : List Ed) (id : Int) (h : ¬ fe l id < 0) : (fe l id).toNat < l.length ∧ fe l id = ((fe l id).toNat : Int) ∧ (l.getD (fe l id).toNat ed0).id = id := by
  unfold fe at h ⊢
  split at h
  · rename_i ha
    rw [if_pos ha]
    simp only [Int.toNat_natCast]
    have hlt : l.findIdx (fun x => decide (x.id = id)) < l.length := by
      rw [List.findIdx_lt_length]
      obtain ⟨x, hx, h⟩ := List.any_eq_true.1 ha
      exact ⟨x, hx, h⟩
    refine ⟨hlt, trivial, ?_⟩
    have := List.findIdx_getElem (w := hlt)
    rw [List.getD_eq_getElem?_getD, List.getElem?_eq_getElem hlt]
    simpa using this
  · omega

set_option maxHeartbeats 2000000 in
theorem Ring (g : Gr) (id : Int) (st : St) (hg : Good g) (hi : g.es.Pairwise fun x y => x.id < y.id) (hv : g.vs.length ≤ 99) (he : g.es.length ≤ 1000) (hp : 0 < st.next) :
    ACalls Tryz.prog 61 [.ag (grL g), u id] st fun r st' => RgR g id r ∧ Keeps st st' := by
  refine acalls_z0 ?_
  have hel := eds_length g.es
  refine acalls_of_body tabOk Tryz.func61 rfl rfl Tryz.ntmps61 (rs := [.tmp 4]) rfl (by simp) ?_
  (repeat' (first | refine awp_seq ?_ | refine awp_block ?_ | ((first | refine awp_skip ?_ | refine awp_exit ?_); simp only [ak, reduceIte]) | (refine awp_ret ?_; simp only [ak, reduceIte]; simp []) | (refine awp_cond ?_; simp []; (try with_reducible refine ⟨?_, ?_⟩) <;> (try with_reducible intro hc) <;> try (exfalso; omega)) | ((first | (refine w_e [] ?_; intro J hJ; simp only []) | (refine w_q ?_; intro J hJ) | refine e_go ?_); simp []; (repeat refine ca ?_); (try ((try with_reducible refine ⟨?_, ?_⟩) <;> (try with_reducible intro hnil) <;> refine hJ _ _ ?_ <;> clear hJ J <;> simp only [ak, reduceIte] <;> try subst hnil)))))
  refine callK_ofE (gEdge g id _ he) (by simp) ?_; rintro r s1 ⟨rfl, hk1⟩
  have hn1 := hk1.next
  simp only [new_next] at hn1
  have hG1 : s1.H st.next = .box 38 2 (grL g) := by rw [hk1.H _ (by simp)]; simp
  have k1 : Keeps st s1 := (Keeps.new _ _).trans hk1
  clear hk1
  by_cases hfe : fe g.es id < 0
  · have hfe2 : decide (fe g.es id < 0) = true := decide_eq_true hfe
    (repeat' (first | refine awp_seq ?_ | refine awp_block ?_ | ((first | refine awp_skip ?_ | refine awp_exit ?_); simp only [ak, reduceIte]) | (refine awp_ret ?_; simp only [ak, reduceIte]; simp [hfe, hfe2]) | (refine awp_cond ?_; simp [hfe, hfe2]; (try with_reducible refine ⟨?_, ?_⟩) <;> (try with_reducible intro hc) <;> try (exfalso; omega)) | ((first | (refine w_e [] ?_; intro J hJ; simp only []) | (refine w_q ?_; intro J hJ) | refine e_go ?_); simp [hfe, hfe2]; (repeat refine ca ?_); (try ((try with_reducible refine ⟨?_, ?_⟩) <;> (try with_reducible intro hnil) <;> refine hJ _ _ ?_ <;> clear hJ J <;> simp only [ak, reduceIte] <;> try subst hnil)))))
    exact ⟨RgR.none fun _ _ _ => .inr hfe, k1⟩
  have hfe2 : decide (fe g.es id < 0) = false := decide_eq_false hfe
  obtain ⟨f1, f2, f3⟩ := fe_lt _ _ hfe
  have m1 : ¬ st.next = s1.next := by omega
  have m2 : ¬ st.next = s1.next + 1 := by omega
  (repeat' (first | refine awp_seq ?_ | refine awp_block ?_ | ((first | refine awp_skip ?_ | refine awp_exit ?_); simp only [ak, reduceIte]) | (refine awp_ret ?_; simp only [ak, reduceIte]; simp [hfe, hfe2, hG1, m1, m2]) | (refine awp_cond ?_; simp [hfe, hfe2, hG1, m1, m2]; (try with_reducible refine ⟨?_, ?_⟩) <;> (try with_reducible intro hc) <;> try (exfalso; omega)) | ((first | (refine w_e [] ?_; intro J hJ; simp only []) | (refine w_q ?_; intro J hJ) | refine e_go ?_); simp [hfe, hfe2, hG1, m1, m2]; (repeat refine ca ?_); (try ((try with_reducible refine ⟨?_, ?_⟩) <;> (try with_reducible intro hnil) <;> refine hJ _ _ ?_ <;> clear hJ J <;> simp only [ak, reduceIte] <;> try subst hnil)))))
  refine callK_ofE (Forest g _ hg (by omega) he (by simp)) (by simp) ?_; rintro r s2 ⟨⟨I, Rs, hfo, rfl⟩, hk2⟩
  have hn2 := hk2.next
  simp only [new_next, set_next] at hn2
  have hG2 : s2.H st.next = .box 38 2 (grL g) := by rw [hk2.H _ (by simp; omega)]; simp [m1, m2, hG1]
  have hM2 : s2.H s1.next = .map false [.u32] [] := by rw [hk2.H _ (by simp; omega)]; simp
  have hq2 : s2.H (s1.next + 1) = .box 130 1 [.mp s1.next] := by rw [hk2.H _ (by simp)]; simp
  have k2 : Keeps st s2 := (((k1.trans (Keeps.new _ _)).trans (Keeps.new _ _)).set (by omega) _).trans hk2
  clear hk2
  have hIs : I.Sublist g.es := hfo.sub.1
  have hIl : I.length ≤ 1000 := by have := hIs.length_le; omega
  have hwI : wth g.es (idsL I) = I := pick_sub hi hIs
  have hgI : Good ⟨g.vs, I⟩ := hg.sub fun x hx => hIs.subset hx
  have m3 : ¬ s1.next + 1 = s1.next := by omega
  have m4 : ¬ s1.next = s1.next + 1 := by omega
  generalize hM : s1.next = M at *
  generalize hqq : M + 1 = q at *
  (repeat' (first | refine awp_seq ?_ | refine awp_block ?_ | ((first | refine awp_skip ?_ | refine awp_exit ?_); simp only [ak, reduceIte]) | (refine awp_ret ?_; simp only [ak, reduceIte]; simp []) | (refine awp_cond ?_; simp []; (try with_reducible refine ⟨?_, ?_⟩) <;> (try with_reducible intro hc) <;> try (exfalso; omega)) | ((first | (refine w_e [] ?_; intro J hJ; simp only []) | (refine w_q ?_; intro J hJ) | refine e_go ?_); simp []; (repeat refine ca ?_); (try ((try with_reducible refine ⟨?_, ?_⟩) <;> (try with_reducible intro hnil) <;> refine hJ _ _ ?_ <;> clear hJ J <;> simp only [ak, reduceIte] <;> try subst hnil)))))
  refine awp_range 21 20 22 28 (I.length) (fun j fr st2 => fr 1 = u id ∧ fr 2 = .pt st.next 0 ∧ fr 4 = .nil ∧ fr 5 = i (fe g.es id) ∧ fr 6 = .pt q 0 ∧ fr 19 = .sl 0 I.length (us (idsL I)) ∧ st2.H st.next = .box 38 2 (grL g) ∧ st2.H q = boxM M ∧ s2.next ≤ st2.next ∧ Keeps st st2 ∧ ∃ es, st2.H M = .map false [.u32] es ∧ ∀ v, mget es [v] = if v ∈ (idsL I).take j then some (.ag []) else none) ?_ ?_ ?_
  · refine ⟨by simp, by simp, by simp, by simp, by simp, by simp, hG2, hq2, Nat.le_refl _, k2, [], hM2, fun v => ?_⟩
    simp [mget]
  · rintro j fr s hlt ⟨g1, g2, g4, g5, g6, g19, hG, hq, hsn, hkp, es, hM, hes⟩ fi fn JO hJO
    have hlt2 : j < (idsL I).length := by simpa using hlt
    have hd := us_drop_getD (idsL I) j hlt2
    have htk : (idsL I).take (j + 1) = (idsL I).take j ++ [(idsL I).getD j 0] := by
      rw [List.getD_eq_getElem?_getD, List.getElem?_eq_getElem hlt2]; exact List.take_succ_eq_append_getElem hlt2
    generalize (idsL I).getD j 0 = v at *
    (repeat' (first | refine awp_seq ?_ | refine awp_block ?_ | ((first | refine awp_skip ?_ | refine awp_exit ?_); simp only [ak, reduceIte]) | (refine awp_ret ?_; simp only [ak, reduceIte]; simp [g6, g19, fi, fn, hd, hlt, hq, hM]) | (refine awp_cond ?_; simp [g6, g19, fi, fn, hd, hlt, hq, hM]; (try with_reducible refine ⟨?_, ?_⟩) <;> (try with_reducible intro hc) <;> try (exfalso; omega)) | ((first | (refine w_e [] ?_; intro J hJ; simp only []) | (refine w_q ?_; intro J hJ) | refine e_go ?_); simp [g6, g19, fi, fn, hd, hlt, hq, hM]; (repeat refine ca ?_); (try ((try with_reducible refine ⟨?_, ?_⟩) <;> (try with_reducible intro hnil) <;> refine hJ _ _ ?_ <;> clear hJ J <;> simp only [ak, reduceIte] <;> try subst hnil)))))
    have e1 : ¬ st.next = M := by omega
    have e2 : ¬ q = M := by omega
    refine hJO _ _ (by simp [fi]) (by simp [fn]) ⟨by simp [g1], by simp [g2], by simp [g4], by simp [g5], by simp [g6], by simp [g19], by simp [e1, hG], by simp [e2, hq], by simp [hsn], hkp.set (by omega) _, _, by simp; rfl, fun w => ?_⟩
    rw [mget_mset, htk]
    by_cases hwv : w = v
    · simp [hwv]
    · simp [hwv, hes]
  · rintro fr s ⟨g1, g2, g4, g5, g6, g19, hG, hq, hsn, hkp, es, hM, hes⟩
    rw [List.take_of_length_le (by simp)] at hes
    have hid := hes id
    by_cases hin : id ∈ idsL I
    · rw [if_pos hin] at hid
      (repeat' (first | refine awp_seq ?_ | refine awp_block ?_ | ((first | refine awp_skip ?_ | refine awp_exit ?_); simp only [ak, reduceIte]) | (refine awp_ret ?_; simp only [ak, reduceIte]; simp [g1, g6, hq, hM, hid]) | (refine awp_cond ?_; simp [g1, g6, hq, hM, hid]; (try with_reducible refine ⟨?_, ?_⟩) <;> (try with_reducible intro hc) <;> try (exfalso; omega)) | ((first | (refine w_e [] ?_; intro J hJ; simp only []) | (refine w_q ?_; intro J hJ) | refine e_go ?_); simp [g1, g6, hq, hM, hid]; (repeat refine ca ?_); (try ((try with_reducible refine ⟨?_, ?_⟩) <;> (try with_reducible intro hnil) <;> refine hJ _ _ ?_ <;> clear hJ J <;> simp only [ak, reduceIte] <;> try subst hnil)))))
      exact ⟨RgR.none fun I' Rs' h => .inl ((hfo.unique h).1 ▸ hin), hkp.trans (Keeps.new _ _)⟩
    rw [if_neg hin] at hid
    have e1 : ¬ st.next = s.next := by omega
    have e2 : ¬ q = s.next := by omega
    have e3 : ¬ M = s.next := by omega
    (repeat' (first | refine awp_seq ?_ | refine awp_block ?_ | ((first | refine awp_skip ?_ | refine awp_exit ?_); simp only [ak, reduceIte]) | (refine awp_ret ?_; simp only [ak, reduceIte]; simp [g1, g2, g6, hq, hM, hid, hG, e1]) | (refine awp_cond ?_; simp [g1, g2, g6, hq, hM, hid, hG, e1]; (try with_reducible refine ⟨?_, ?_⟩) <;> (try with_reducible intro hc) <;> try (exfalso; omega)) | ((first | (refine w_e [] ?_; intro J hJ; simp only []) | (refine w_q ?_; intro J hJ) | refine e_go ?_); simp [g1, g2, g6, hq, hM, hid, hG, e1]; (repeat refine ca ?_); (try ((try with_reducible refine ⟨?_, ?_⟩) <;> (try with_reducible intro hnil) <;> refine hJ _ _ ?_ <;> clear hJ J <;> simp only [ak, reduceIte] <;> try subst hnil)))))
    refine callK_ofE (KeepZ g 109 [.pt q 0] (fun x => decide (x.id ∈ idsL I)) _ (by omega) he (fun x hx s' hs' => Ring_1 x q M (idsL I) es s' ?_ ?_ hes ?_ ?_)) (by simp) ?_
    · rw [hs'.H q (by simp; omega), new_H, if_neg e2]; exact hq
    · rw [hs'.H M (by simp; omega), new_H, if_neg e3]; exact hM
    · have := hs'.next; simp only [new_next] at this; omega
    · have := hs'.next; simp only [new_next] at this; omega
    rintro r s4 ⟨rfl, hk4⟩
    have hn4 := hk4.next
    simp only [new_next] at hn4
    have hG4 : s4.H st.next = .box 38 2 (grL g) := by rw [hk4.H _ (by simp; omega), new_H, if_neg e1]; exact hG
    have k4 : Keeps st s4 := (hkp.trans (Keeps.new _ _)).trans hk4
    have hwI' : g.es.filter (fun x => decide (x.id ∈ idsL I)) = I := hwI
    rw [hwI']
    have hnear : ∀ v, ∀ w ∈ nearF I v, w ∈ g.vs := fun v w hw => by
      obtain ⟨x, hx, ⟨_, rfl⟩ | ⟨rfl, _⟩⟩ := mem_nearF.1 hw
      · exact (hgI.ends x hx).2
      · exact (hgI.ends x hx).1
    obtain ⟨l, hl⟩ := refPath_some (vs := g.vs) (near := nearF I) (may := fun _ => true) (from' := (g.es.getD (fe g.es id).toNat ed0).a) (to := (g.es.getD (fe g.es id).toNat ed0).b) hnear (n := 100) (by omega)
    have hl2 := path_same hl (by omega)
    have e5 : ¬ st.next = s4.next := by omega
    (repeat' (first | refine awp_seq ?_ | refine awp_block ?_ | ((first | refine awp_skip ?_ | refine awp_exit ?_); simp only [ak, reduceIte]) | (refine awp_ret ?_; simp only [ak, reduceIte]; simp []) | (refine awp_cond ?_; simp []; (try with_reducible refine ⟨?_, ?_⟩) <;> (try with_reducible intro hc) <;> try (exfalso; omega)) | ((first | (refine w_e [] ?_; intro J hJ; simp only []) | (refine w_q ?_; intro J hJ) | refine e_go ?_); simp []; (repeat refine ca ?_); (try ((try with_reducible refine ⟨?_, ?_⟩) <;> (try with_reducible intro hnil) <;> refine hJ _ _ ?_ <;> clear hJ J <;> simp only [ak, reduceIte] <;> try subst hnil)))))
    have hgo : fe g.es id = ((fe g.es id).toNat : Int) := f2
    rw [hgo] at g5
    have hd0 := eds_drop g.es _ f1
    generalize hkk : (fe g.es id).toNat = k at *
    generalize hx : g.es.getD k ed0 = x at *
    have hd1 : (eds g.es).drop (k * 3 + 1) = u x.a :: u x.b :: eds (g.es.drop (k + 1)) := by rw [← List.drop_drop, hd0]; rfl
    have hd2 : (eds g.es).drop (k * 3 + 2) = u x.b :: eds (g.es.drop (k + 1)) := by rw [← List.drop_drop, hd0]; rfl
    have hsm := sum3W g.es
    have hk3 : k * 3 < g.es.length * 3 := by omega
    have hk4 : 0 < g.es.length * 3 - (k * 3 + 1) := by omega
    have hk5 : 0 < g.es.length * 3 - (k * 3 + 2) := by omega
    have hk6 : k * 3 + 1 < g.es.length * 3 := by omega
    have hk7 : k * 3 + 2 < g.es.length * 3 := by omega
    (refine w_s [] [st.next, s4.next] [(0, true), (1, true), (2, true), (3, true), (4, true), (5, true), (6, true), (7, true), (8, true), (9, true), (10, true), (11, true), (12, true), (13, true), (14, true)] ?_; intro J hJ; simp [g2, g5, hG4, e5, hd0, hd1, hd2, hel, hsm, hk3, hk4, hk5, hk6, hk7, f1]; (repeat refine ca ?_); (try ((try with_reducible refine ⟨?_, ?_⟩) <;> (try with_reducible intro hnil) <;> refine hJ _ _ ?_ <;> clear hJ J <;> simp only [ak, reduceIte] <;> try subst hnil)))
    have hG5 : (s4.new (.box 38 2 (grL ⟨g.vs, I⟩))).H st.next = .box 38 2 (grL g) := by rw [new_H, if_neg e5]; exact hG4
    have hB5 : (s4.new (.box 38 2 (grL ⟨g.vs, I⟩))).H s4.next = .box 38 2 (grL ⟨g.vs, I⟩) := by rw [new_H, if_pos rfl]
    have hn5 : (s4.new (.box 38 2 (grL ⟨g.vs, I⟩))).next = s4.next + 1 := by simp
    have k5 : Keeps st (s4.new (.box 38 2 (grL ⟨g.vs, I⟩))) := k4.trans (Keeps.new _ _)
    generalize s4.new (.box 38 2 (grL ⟨g.vs, I⟩)) = s5 at *
    refine dcallK_ofE (Path ⟨g.vs, I⟩ x.a x.b (.atom .nilFunc) (fun _ => true) 100 l s5 (by simp only; omega) hIl (by omega) (.inl ⟨rfl, fun _ => rfl⟩) hl2) (by simp) ?_; rintro r s6 ⟨rfl, hk6'⟩
    have hG6 := (hk6'.H st.next (by omega)).trans hG5
    have hB6 := (hk6'.H s4.next (by omega)).trans hB5
    refine ⟨fun _ => by simp [hG5, hB5, hG6, hB6], ?_⟩
    (refine d_go ?_; simp [hG5, hB5, hG6, hB6]; (repeat refine ca ?_); (try ((try with_reducible refine ⟨?_, ?_⟩) <;> (try with_reducible intro hnil) <;> refine hJ _ _ ?_ <;> clear hJ J <;> simp only [ak, reduceIte] <;> try subst hnil)))
    (repeat' (first | refine awp_seq ?_ | refine awp_block ?_ | ((first | refine awp_skip ?_ | refine awp_exit ?_); simp only [ak, reduceIte]) | (refine awp_ret ?_; simp only [ak, reduceIte]; simp []) | (refine awp_cond ?_; simp []; (try with_reducible refine ⟨?_, ?_⟩) <;> (try with_reducible intro hc) <;> try (exfalso; omega)) | ((first | (refine w_e [] ?_; intro J hJ; simp only []) | (refine w_q ?_; intro J hJ) | refine e_go ?_); simp []; (repeat refine ca ?_); (try ((try with_reducible refine ⟨?_, ?_⟩) <;> (try with_reducible intro hnil) <;> refine hJ _ _ ?_ <;> clear hJ J <;> simp only [ak, reduceIte] <;> try subst hnil)))))
    refine ⟨fun I' Rs' h => ⟨l, ?_, by simp [z0]⟩, k5.trans hk6'⟩
    have hII := (hfo.unique h).1
    subst hII
    unfold RingR
    rw [if_neg (by rw [not_or]; exact ⟨hin, hfe⟩), hkk, hx]
    exact hl

end Go.Proofs.YtomfeddgeihipaaGreat.Aw

namespace Go.Proofs.YtomfeddgeihipaaGreat.Aw
open Go Go.RowKit Go.Proofs.YtomfeddgeihipaaGreat.Pl
set_option linter.unusedSimpArgs false
set_option linter.unusedVariables false

theorem GrF.sub {g : Gr} (h : GrF g) {I : List Ed} (hs : I.Sublist g.es) : GrF ⟨g.vs, I⟩ :=
  ⟨h.rise, h.vpos, h.ids.sublist hs, fun x hx => h.pos x (hs.subset hx), fun x hx => h.ne x (hs.subset hx), fun x hx => h.ends x (hs.subset hx), h.l1, Nat.le_trans hs.length_le h.l2⟩
theorem GrF.good {g : Gr} (h : GrF g) : Good g := ⟨h.rise, h.ends⟩
theorem ids_in {l : List Ed} (hi : l.Pairwise fun x y => x.id < y.id) {x y : Ed} (hx : x ∈ l) (hy : y ∈ l) (e : x.id = y.id) : x = y := by
  induction l with
  | nil => simp at hx
  | cons z l ih =>
    rw [List.pairwise_cons] at hi
    rcases List.mem_cons.1 hx with hx1 | hx1 <;> rcases List.mem_cons.1 hy with hy1 | hy1
    · rw [hx1, hy1]
    · have := hi.1 y hy1; subst hx1; omega
    · have := hi.1 x hx1; subst hy1; omega
    · exact ih hi.2 hx1 hy1
theorem IsFo.disj {l I R : List Ed} (h : IsFo l I R) (hn : l.Nodup) : ∀ x ∈ I, x ∉ R := by
  induction h with
  | nil => intro x hx; simp at hx
  | rest h k ih =>
    rw [List.nodup_append] at hn
    intro x hx hr
    rcases List.mem_append.1 hr with hr | hr
    · exact ih hn.1 x hx hr
    · exact hn.2.2 x (h.sub.1.subset hx) _ hr rfl
  | join h k ih =>
    rw [List.nodup_append] at hn
    intro x hx hr
    rcases List.mem_append.1 hx with hx | hx
    · exact ih hn.1 x hx hr
    · exact hn.2.2 x (h.sub.2.1.subset hr) _ hx rfl
theorem rest_iff {g : Gr} (hi : g.es.Pairwise fun x y => x.id < y.id) {I Rs : List Ed} (h : IsFo g.es I Rs) (id : Int) : id ∈ idsL Rs ↔ ¬ (id ∈ idsL I ∨ fe g.es id < 0) := by
  have hn : g.es.Nodup := hi.imp fun h e => by subst e; omega
  have hd := h.disj hn
  obtain ⟨s1, s2, s3⟩ := h.sub
  constructor
  · intro hid
    obtain ⟨x, hx, rfl⟩ := List.mem_map.1 hid
    rintro (hi2 | hf)
    · obtain ⟨y, hy, e⟩ := List.mem_map.1 hi2
      have := ids_in hi (s1.subset hy) (s2.subset hx) e
      subst this
      exact hd _ hy hx
    · unfold fe at hf
      rw [if_pos (List.any_eq_true.2 ⟨x, s2.subset hx, by simp⟩)] at hf
      omega
  · intro hno
    rw [not_or] at hno
    obtain ⟨f1, f2, f3⟩ := fe_lt _ _ hno.2
    generalize hx : g.es.getD (fe g.es id).toNat ed0 = x at *
    have hxin : x ∈ g.es := by
      rw [← hx, List.getD_eq_getElem?_getD, List.getElem?_eq_getElem f1]; exact List.getElem_mem _
    rcases (s3 x).1 hxin with h1 | h1
    · exact absurd (List.mem_map.2 ⟨x, h1, f3⟩) hno.1
    · exact List.mem_map.2 ⟨x, h1, f3⟩

set_option maxHeartbeats 2000000 in
theorem ref_Ring (g : Gr) (id : Int) (st : St) (hF : GrF g) (hp : 0 < st.next) :
    ACalls Tryz.prog 62 [.ag (grL g), u id] st fun r st' => RgR g id r ∧ Keeps st st' := by
  refine acalls_z0 ?_
  have hel := eds_length g.es
  have hg := hF.good
  have hi := hF.ids
  have hv := hF.l1
  have he := hF.l2
  refine acalls_of_body tabOk Tryz.func62 rfl rfl Tryz.ntmps62 (rs := [.tmp 4]) rfl (by simp) ?_
  (repeat' (first | refine awp_seq ?_ | refine awp_block ?_ | ((first | refine awp_skip ?_ | refine awp_exit ?_); simp only [ak, reduceIte]) | (refine awp_ret ?_; simp only [ak, reduceIte]; simp []) | (refine awp_cond ?_; simp []; (try with_reducible refine ⟨?_, ?_⟩) <;> (try with_reducible intro hc) <;> try (exfalso; omega)) | ((first | (refine w_e [] ?_; intro J hJ; simp only []) | (refine w_q ?_; intro J hJ) | refine e_go ?_); simp []; (repeat refine ca ?_); (try ((try with_reducible refine ⟨?_, ?_⟩) <;> (try with_reducible intro hnil) <;> refine hJ _ _ ?_ <;> clear hJ J <;> simp only [ak, reduceIte] <;> try subst hnil)))))
  refine callK_ofE (ref_Forest g _ hg hi (by omega) (by omega) (by simp)) (by simp) ?_; rintro r s2 ⟨⟨I, Rs, hfo, rfl⟩, hk2⟩
  have hn2 := hk2.next
  simp only [new_next] at hn2
  have hG2 : s2.H st.next = .box 38 2 (grL g) := by rw [hk2.H _ (by simp)]; simp
  have k2 : Keeps st s2 := (Keeps.new _ _).trans hk2
  have hIs : I.Sublist g.es := hfo.sub.1
  have hRs : Rs.Sublist g.es := hfo.sub.2.1
  have hIl : I.length ≤ 1000 := by have := hIs.length_le; omega
  have hRl : Rs.length ≤ 1000 := by have := hRs.length_le; omega
  have hwI : wth g.es (idsL I) = I := pick_sub hi hIs
  (repeat' (first | refine awp_seq ?_ | refine awp_block ?_ | ((first | refine awp_skip ?_ | refine awp_exit ?_); simp only [ak, reduceIte]) | (refine awp_ret ?_; simp only [ak, reduceIte]; simp []) | (refine awp_cond ?_; simp []; (try with_reducible refine ⟨?_, ?_⟩) <;> (try with_reducible intro hc) <;> try (exfalso; omega)) | ((first | (refine w_e [] ?_; intro J hJ; simp only []) | (refine w_q ?_; intro J hJ) | refine e_go ?_); simp []; (repeat refine ca ?_); (try ((try with_reducible refine ⟨?_, ?_⟩) <;> (try with_reducible intro hnil) <;> refine hJ _ _ ?_ <;> clear hJ J <;> simp only [ak, reduceIte] <;> try subst hnil)))))
  refine callK_ofE (Find (idsL Rs) 0 id _ (by unfold small; simp; omega)) (by simp) ?_; rintro r s3 ⟨rfl, rfl⟩
  have hge := gi_neg (idsL Rs) id
  have hri := rest_iff hi hfo id
  by_cases hin : id ∈ idsL Rs
  rotate_left
  · have hge2 := hge.2 hin
    have hge3 : decide (gi (idsL Rs) id < 0) = true := decide_eq_true hge2
    (repeat' (first | refine awp_seq ?_ | refine awp_block ?_ | ((first | refine awp_skip ?_ | refine awp_exit ?_); simp only [ak, reduceIte]) | (refine awp_ret ?_; simp only [ak, reduceIte]; simp [hge2, hge3]) | (refine awp_cond ?_; simp [hge2, hge3]; (try with_reducible refine ⟨?_, ?_⟩) <;> (try with_reducible intro hc) <;> try (exfalso; omega)) | ((first | (refine w_e [] ?_; intro J hJ; simp only []) | (refine w_q ?_; intro J hJ) | refine e_go ?_); simp [hge2, hge3]; (repeat refine ca ?_); (try ((try with_reducible refine ⟨?_, ?_⟩) <;> (try with_reducible intro hnil) <;> refine hJ _ _ ?_ <;> clear hJ J <;> simp only [ak, reduceIte] <;> try subst hnil)))))
    refine ⟨RgR.none fun I' Rs' h => ?_, k2⟩
    have hII := (hfo.unique h).1
    subst hII
    exact Decidable.by_contra fun h => hin (hri.2 h)
  have hge2 : ¬ gi (idsL Rs) id < 0 := fun h => hge.1 h hin
  have hge3 : decide (gi (idsL Rs) id < 0) = false := decide_eq_false hge2
  have hno := hri.1 hin
  obtain ⟨f1, f2, f3⟩ := fe_lt _ _ (fun h => hno (.inr h))
  have hFI := hF.sub hIs
  have hnear : ∀ v, ∀ w ∈ nearR ⟨g.vs, I⟩ v, w ∈ g.vs := fun v w hw => (List.mem_filter.1 hw).1
  obtain ⟨l, hl⟩ := refPath_some (vs := g.vs) (near := nearR ⟨g.vs, I⟩) (may := fun v => true || decide (v ∈ ([] : List Int))) (from' := (g.es.getD (fe g.es id).toNat ed0).a) (to := (g.es.getD (fe g.es id).toNat ed0).b) hnear (n := 100) (by omega)
  (repeat' (first | refine awp_seq ?_ | refine awp_block ?_ | ((first | refine awp_skip ?_ | refine awp_exit ?_); simp only [ak, reduceIte]) | (refine awp_ret ?_; simp only [ak, reduceIte]; simp [hge2, hge3]) | (refine awp_cond ?_; simp [hge2, hge3]; (try with_reducible refine ⟨?_, ?_⟩) <;> (try with_reducible intro hc) <;> try (exfalso; omega)) | ((first | (refine w_e [] ?_; intro J hJ; simp only []) | (refine w_q ?_; intro J hJ) | refine e_go ?_); simp [hge2, hge3]; (repeat refine ca ?_); (try ((try with_reducible refine ⟨?_, ?_⟩) <;> (try with_reducible intro hnil) <;> refine hJ _ _ ?_ <;> clear hJ J <;> simp only [ak, reduceIte] <;> try subst hnil)))))
  have hgo : fe g.es id = ((fe g.es id).toNat : Int) := f2
  have hd0 := eds_drop g.es _ f1
  generalize hkk : (fe g.es id).toNat = k at *
  generalize hx : g.es.getD k ed0 = x at *
  have hsm := sum3W g.es
  have hk3 : k * 3 < g.es.length * 3 := by omega
  refine awp_cut1 (fun fr s => fr 2 = .pt st.next 0 ∧ fr 4 = .nil ∧ fr 5 = .sl 0 I.length (us (idsL I)) ∧ ∃ b, fr 7 = .pt b 0 ∧ s.H b = .box 43 3 (edL x) ∧ st.next < b ∧ b < s.next ∧ s.H st.next = .box 38 2 (grL g) ∧ Keeps st s) ?_ ?_
  · refine w_a [] [st.next] ?_; intro J hJ
    refine a_pre 5 [(0, true), (1, true), (2, true), (3, true)] ?_
    simp [hG2]
    refine a_alt2 4 (4, true) (7, true) ?_ ?_
    · simp
      refine dcallK_ofE (ref_Find g id s3 (by omega)) (by simp) ?_; rintro r s4 ⟨rfl, hk4⟩
      have hn4 := hk4.next
      have hG4 := (hk4.H st.next (by omega)).trans hG2
      refine ⟨fun _ => by simp [hG4, hG2], ?_⟩
      simp
      refine a_pre 0 [(5, true), (6, true), (7, true), (8, true)] ?_
      simp [hG4, hG2, hgo, hel, hd0, hk3, f1, hsm]
      refine ⟨by omega, aany_end (hJ _ _ ?_)⟩
      simp only [ak]
      exact ⟨trivial, by simp, by simp, by simp, s4.next, by simp, by simp [edL], by omega, by simp, by rw [new_H, if_neg (by omega)]; exact hG4, (k2.trans hk4).trans (Keeps.new _ _)⟩
    · have e1 : ¬ st.next = s3.next := by omega
      simp [e1]
      refine a_pre 0 [(4, true), (5, true), (6, true), (8, true)] ?_
      simp [hG2]
      refine dcallK_ofE (ref_Find g id _ (by omega)) (by simp) ?_; rintro r s4 ⟨rfl, hk4⟩
      have hn4 := hk4.next
      simp only [new_next] at hn4
      have hG4 : s4.H st.next = .box 38 2 (grL g) := by rw [hk4.H st.next (by simp; omega), new_H, if_neg e1]; exact hG2
      have hB4 : s4.H s3.next = .box 43 3 [.atom (.int .u32 0), .atom (.int .u32 0), .atom (.int .u32 0)] := by rw [hk4.H s3.next (by simp)]; simp
      refine ⟨fun _ => by simp [hG4, hG2], ?_⟩
      simp [hG4, hG2, hgo, hel, hd0, hk3, f1, hsm, hB4, e1]
      refine aany_end (hJ _ _ ?_)
      simp only [ak]
      exact ⟨trivial, by simp, by simp, by simp, s3.next, by simp, by simp [edL], by omega, by simp; omega, by rw [set_H, if_neg (by omega)]; exact hG4, ((k2.trans (Keeps.new _ _)).trans hk4).set (by omega) _⟩
  rintro fr s ⟨f2, f4, f5, b, f7, hX, hb1, hb2, hG, hkp⟩
  (repeat (refine awp_seq ?_)); (refine w_s [] [st.next, b] [(0, true), (1, true), (3, true), (4, true), (5, true), (6, true), (2, true), (7, true), (8, true)] ?_; intro J hJ; simp [f2, f5, f7, hX, hG]; (repeat refine ca ?_); (try ((try with_reducible refine ⟨?_, ?_⟩) <;> (try with_reducible intro hnil) <;> refine hJ _ _ ?_ <;> clear hJ J <;> simp only [ak, reduceIte] <;> try subst hnil)))
  refine dcallK_ofE (withR g (idsL I) 0 s (by omega) (by omega) (by simp; omega) (by omega)) (by simp) ?_; rintro r s5 ⟨rfl, hk5⟩
  have hn5 := hk5.next
  have hG5 := (hk5.H st.next (by omega)).trans hG
  have hX5 := (hk5.H b (by omega)).trans hX
  refine ⟨fun _ => by simp [hG5, hX5, hG, hX], ?_⟩
  rw [hwI]
  (refine d_go ?_; simp [hG5, hX5, hG, hX]; (repeat refine ca ?_); (try ((try with_reducible refine ⟨?_, ?_⟩) <;> (try with_reducible intro hnil) <;> refine hJ _ _ ?_ <;> clear hJ J <;> simp only [ak, reduceIte] <;> try subst hnil)))
  refine dcallK_of0 (ref_nPath ⟨g.vs, I⟩ x.a x.b [] 0 true 100 l s5 (by simp only; omega) (by simp only; omega) (by simp) (by omega) hl) (by simp [z0, z0L, z0_edsW, us]) ?_; rintro r s6 ⟨rfl, hk6⟩
  have hG6 := (hk6.H st.next (by omega)).trans hG5
  have hX6 := (hk6.H b (by omega)).trans hX5
  refine ⟨fun _ => by simp [hG6, hX6, hG, hX], ?_⟩
  (refine d_go ?_; simp [hG6, hX6, hG, hX]; (repeat refine ca ?_); (try ((try with_reducible refine ⟨?_, ?_⟩) <;> (try with_reducible intro hnil) <;> refine hJ _ _ ?_ <;> clear hJ J <;> simp only [ak, reduceIte] <;> try subst hnil)))
  (repeat' (first | refine awp_seq ?_ | refine awp_block ?_ | ((first | refine awp_skip ?_ | refine awp_exit ?_); simp only [ak, reduceIte]) | (refine awp_ret ?_; simp only [ak, reduceIte]; simp []) | (refine awp_cond ?_; simp []; (try with_reducible refine ⟨?_, ?_⟩) <;> (try with_reducible intro hc) <;> try (exfalso; omega)) | ((first | (refine w_e [] ?_; intro J hJ; simp only []) | (refine w_q ?_; intro J hJ) | refine e_go ?_); simp []; (repeat refine ca ?_); (try ((try with_reducible refine ⟨?_, ?_⟩) <;> (try with_reducible intro hnil) <;> refine hJ _ _ ?_ <;> clear hJ J <;> simp only [ak, reduceIte] <;> try subst hnil)))))
  refine ⟨fun I' Rs' h => ⟨l, ?_, by simp [z0]⟩, (hkp.trans hk5).trans hk6⟩
  have hII := (hfo.unique h).1
  subst hII
  unfold RingR
  rw [if_neg hno, hkk, hx]
  rw [nearR_eq hFI] at hl
  simpa using hl

end Go.Proofs.YtomfeddgeihipaaGreat.Aw

namespace Go.Proofs.YtomfeddgeihipaaGreat.Aw
open Go Go.RowKit Go.Proofs.YtomfeddgeihipaaGreat.Pl
set_option linter.unusedSimpArgs false
set_option linter.unusedVariables false

theorem awake35 (st : St) : ACalls Tryz.prog 46 [] st fun r st' => r = bb true ∧ st' = st :=
  acalls_closed tabOk fnsOk prim_ok mixed 1000000 true (by kernel_rfl)

theorem RingR.same {g : Gr} {id : Int} {I : List Ed} {l l' : List Int} (h : RingR g id I l) (h' : RingR g id I l') : l = l' ∧ l.length ≤ 1000 := by
  unfold RingR at h h'
  split at h
  · rename_i h0
    rw [if_pos h0] at h'
    subst h; subst h'
    simp
  · rename_i h0
    rw [if_neg h0, h] at h'
    injection h' with h'
    refine ⟨h', ?_⟩
    have := pathF_len2 (path_same h (by omega))
    omega
def lightT (g : Gr) : Bool := decide (chk g = 0 ∧ g.vs.length ≤ 24 ∧ g.es.length ≤ 40)
theorem LightT (g : Gr) (st : St) : ACalls Tryz.prog 47 [.ag (grL g)] st fun r st' => r = bb (lightT g) ∧ Keeps st st' := by
  refine acalls_of_body tabOk Tryz.func47 rfl rfl Tryz.ntmps47 (rs := [.tmp 2]) rfl (by simp) ?_
  (repeat' (first | refine awp_seq ?_ | refine awp_block ?_ | ((first | refine awp_skip ?_ | refine awp_exit ?_); simp only [ak, reduceIte]) | (refine awp_ret ?_; simp only [ak, reduceIte]; simp []) | (refine awp_cond ?_; simp []; (try with_reducible refine ⟨?_, ?_⟩) <;> (try with_reducible intro hc) <;> try (exfalso; omega)) | ((first | (refine w_e [] ?_; intro J hJ; simp only []) | (refine w_q ?_; intro J hJ) | refine e_go ?_); simp []; (repeat refine ca ?_); (try ((try with_reducible refine ⟨?_, ?_⟩) <;> (try with_reducible intro hnil) <;> refine hJ _ _ ?_ <;> clear hJ J <;> simp only [ak, reduceIte] <;> try subst hnil)))))
  refine callK_ofE (ref_CheckA g _) (by simp) ?_; rintro r s1 ⟨rfl, hk1⟩
  have hG1 : s1.H st.next = .box 38 2 (grL g) := by rw [hk1.H _ (by simp)]; simp
  have hkp1 : Keeps st s1 := (Keeps.new _ _).trans hk1
  by_cases h1 : chk g = 0
  · have h1' : (chk g == 0) = true := by simpa using h1
    by_cases h2 : g.vs.length ≤ 24
    · have h2' : (g.vs.length : Int) ≤ 24 := by omega
      by_cases h3 : g.es.length ≤ 40
      · have h3' : (g.es.length : Int) ≤ 40 := by omega
        (repeat' (first | refine awp_seq ?_ | refine awp_block ?_ | ((first | refine awp_skip ?_ | refine awp_exit ?_); simp only [ak, reduceIte]) | (refine awp_ret ?_; simp only [ak, reduceIte]; simp [h1', h2, h2', h3, h3', hG1, h1, lightT]) | (refine awp_cond ?_; simp [h1', h2, h2', h3, h3', hG1, h1, lightT]; (try with_reducible refine ⟨?_, ?_⟩) <;> (try with_reducible intro hc) <;> try (exfalso; omega)) | ((first | (refine w_e [] ?_; intro J hJ; simp only []) | (refine w_q ?_; intro J hJ) | refine e_go ?_); simp [h1', h2, h2', h3, h3', hG1, h1, lightT]; (repeat refine ca ?_); (try ((try with_reducible refine ⟨?_, ?_⟩) <;> (try with_reducible intro hnil) <;> refine hJ _ _ ?_ <;> clear hJ J <;> simp only [ak, reduceIte] <;> try subst hnil)))))
        exact hkp1
      · have h3' : ¬ (g.es.length : Int) ≤ 40 := by omega
        (repeat' (first | refine awp_seq ?_ | refine awp_block ?_ | ((first | refine awp_skip ?_ | refine awp_exit ?_); simp only [ak, reduceIte]) | (refine awp_ret ?_; simp only [ak, reduceIte]; simp [h1', h2, h2', h3, h3', hG1, h1, lightT]) | (refine awp_cond ?_; simp [h1', h2, h2', h3, h3', hG1, h1, lightT]; (try with_reducible refine ⟨?_, ?_⟩) <;> (try with_reducible intro hc) <;> try (exfalso; omega)) | ((first | (refine w_e [] ?_; intro J hJ; simp only []) | (refine w_q ?_; intro J hJ) | refine e_go ?_); simp [h1', h2, h2', h3, h3', hG1, h1, lightT]; (repeat refine ca ?_); (try ((try with_reducible refine ⟨?_, ?_⟩) <;> (try with_reducible intro hnil) <;> refine hJ _ _ ?_ <;> clear hJ J <;> simp only [ak, reduceIte] <;> try subst hnil)))))
        exact hkp1
    · have h2' : ¬ (g.vs.length : Int) ≤ 24 := by omega
      (repeat' (first | refine awp_seq ?_ | refine awp_block ?_ | ((first | refine awp_skip ?_ | refine awp_exit ?_); simp only [ak, reduceIte]) | (refine awp_ret ?_; simp only [ak, reduceIte]; simp [h1', h2, h2', hG1, h1, lightT]) | (refine awp_cond ?_; simp [h1', h2, h2', hG1, h1, lightT]; (try with_reducible refine ⟨?_, ?_⟩) <;> (try with_reducible intro hc) <;> try (exfalso; omega)) | ((first | (refine w_e [] ?_; intro J hJ; simp only []) | (refine w_q ?_; intro J hJ) | refine e_go ?_); simp [h1', h2, h2', hG1, h1, lightT]; (repeat refine ca ?_); (try ((try with_reducible refine ⟨?_, ?_⟩) <;> (try with_reducible intro hnil) <;> refine hJ _ _ ?_ <;> clear hJ J <;> simp only [ak, reduceIte] <;> try subst hnil)))))
      exact hkp1
  · have h1' : (chk g == 0) = false := by simpa using h1
    (repeat' (first | refine awp_seq ?_ | refine awp_block ?_ | ((first | refine awp_skip ?_ | refine awp_exit ?_); simp only [ak, reduceIte]) | (refine awp_ret ?_; simp only [ak, reduceIte]; simp [h1', hG1, h1, lightT]) | (refine awp_cond ?_; simp [h1', hG1, h1, lightT]; (try with_reducible refine ⟨?_, ?_⟩) <;> (try with_reducible intro hc) <;> try (exfalso; omega)) | ((first | (refine w_e [] ?_; intro J hJ; simp only []) | (refine w_q ?_; intro J hJ) | refine e_go ?_); simp [h1', hG1, h1, lightT]; (repeat refine ca ?_); (try ((try with_reducible refine ⟨?_, ?_⟩) <;> (try with_reducible intro hnil) <;> refine hJ _ _ ?_ <;> clear hJ J <;> simp only [ak, reduceIte] <;> try subst hnil)))))
    exact hkp1

set_option maxHeartbeats 1000000 in
theorem TreeTells (g : Gr) (id : Int) (st : St) :
    ACalls Tryz.prog 11 [.ag (grL g), u id] st fun r st' => r = bb true := by
  refine acalls_of_body tabOk Tryz.func11 rfl rfl Tryz.ntmps11 (rs := [.tmp 4]) rfl (by simp) ?_
  refine awp_posG fun hpos => ?_
  (repeat' (first | refine awp_seq ?_ | refine awp_block ?_ | ((first | refine awp_skip ?_ | refine awp_exit ?_); simp only [ak, reduceIte]) | (refine awp_ret ?_; simp only [ak, reduceIte]; simp []) | (refine awp_cond ?_; simp []; (try with_reducible refine ⟨?_, ?_⟩) <;> (try with_reducible intro hc) <;> try (exfalso; omega)) | ((first | (refine w_e [] ?_; intro J hJ; simp only []) | (refine w_q ?_; intro J hJ) | refine e_go ?_); simp []; (repeat refine ca ?_); (try ((try with_reducible refine ⟨?_, ?_⟩) <;> (try with_reducible intro hnil) <;> refine hJ _ _ ?_ <;> clear hJ J <;> simp only [ak, reduceIte] <;> try subst hnil)))))
  refine callK_ofE (awake35 _) (by simp []) ?_; rintro r st' ⟨rfl, rfl⟩
  (repeat' (first | refine awp_seq ?_ | refine awp_block ?_ | ((first | refine awp_skip ?_ | refine awp_exit ?_); simp only [ak, reduceIte]) | (refine awp_ret ?_; simp only [ak, reduceIte]; simp []) | (refine awp_cond ?_; simp []; (try with_reducible refine ⟨?_, ?_⟩) <;> (try with_reducible intro hc) <;> try (exfalso; omega)) | ((first | (refine w_e [] ?_; intro J hJ; simp only []) | (refine w_q ?_; intro J hJ) | refine e_go ?_); simp []; (repeat refine ca ?_); (try ((try with_reducible refine ⟨?_, ?_⟩) <;> (try with_reducible intro hnil) <;> refine hJ _ _ ?_ <;> clear hJ J <;> simp only [ak, reduceIte] <;> try subst hnil)))))
  refine callK_ofE (LightT g _) (by simp) ?_; rintro r s1 ⟨rfl, hk1⟩
  have hn1 := hk1.next
  simp only [new_next] at hn1
  have hG1 : s1.H st.next = .box 38 2 (grL g) := by rw [hk1.H _ (by simp)]; simp
  cases hL : lightT g
  · (repeat' (first | refine awp_seq ?_ | refine awp_block ?_ | ((first | refine awp_skip ?_ | refine awp_exit ?_); simp only [ak, reduceIte]) | (refine awp_ret ?_; simp only [ak, reduceIte]; simp []) | (refine awp_cond ?_; simp []; (try with_reducible refine ⟨?_, ?_⟩) <;> (try with_reducible intro hc) <;> try (exfalso; omega)) | ((first | (refine w_e [] ?_; intro J hJ; simp only []) | (refine w_q ?_; intro J hJ) | refine e_go ?_); simp []; (repeat refine ca ?_); (try ((try with_reducible refine ⟨?_, ?_⟩) <;> (try with_reducible intro hnil) <;> refine hJ _ _ ?_ <;> clear hJ J <;> simp only [ak, reduceIte] <;> try subst hnil)))))
  simp only [lightT, decide_eq_true_eq] at hL
  obtain ⟨hc, hv, he⟩ := hL
  have hF := chk_full hc
  have hg := hF.good
  have hi := hF.ids
  (repeat' (first | refine awp_seq ?_ | refine awp_block ?_ | ((first | refine awp_skip ?_ | refine awp_exit ?_); simp only [ak, reduceIte]) | (refine awp_ret ?_; simp only [ak, reduceIte]; simp [hG1]) | (refine awp_cond ?_; simp [hG1]; (try with_reducible refine ⟨?_, ?_⟩) <;> (try with_reducible intro hc) <;> try (exfalso; omega)) | ((first | (refine w_e [] ?_; intro J hJ; simp only []) | (refine w_q ?_; intro J hJ) | refine e_go ?_); simp [hG1]; (repeat refine ca ?_); (try ((try with_reducible refine ⟨?_, ?_⟩) <;> (try with_reducible intro hnil) <;> refine hJ _ _ ?_ <;> clear hJ J <;> simp only [ak, reduceIte] <;> try subst hnil)))))
  refine callK_ofE (ref_Forest g _ hg hi (by omega) (by omega) (by omega)) (by simp) ?_; rintro r s2 ⟨⟨I, Rs, hfo, rfl⟩, hk2⟩
  have hn2 := hk2.next
  have hG2 := (hk2.H st.next (by omega)).trans hG1
  have hIl := hfo.sub.1.length_le
  have hRl := hfo.sub.2.1.length_le
  (repeat' (first | refine awp_seq ?_ | refine awp_block ?_ | ((first | refine awp_skip ?_ | refine awp_exit ?_); simp only [ak, reduceIte]) | (refine awp_ret ?_; simp only [ak, reduceIte]; simp []) | (refine awp_cond ?_; simp []; (try with_reducible refine ⟨?_, ?_⟩) <;> (try with_reducible intro hc) <;> try (exfalso; omega)) | ((first | (refine w_e [] ?_; intro J hJ; simp only []) | (refine w_q ?_; intro J hJ) | refine e_go ?_); simp []; (repeat refine ca ?_); (try ((try with_reducible refine ⟨?_, ?_⟩) <;> (try with_reducible intro hnil) <;> refine hJ _ _ ?_ <;> clear hJ J <;> simp only [ak, reduceIte] <;> try subst hnil)))))
  (refine w_s [] [st.next] [(0, true), (2, true), (1, true), (3, true), (4, true), (5, true), (7, true), (6, true), (8, true), (9, true), (10, true), (11, true), (12, true), (14, true), (15, true), (13, true), (16, true), (17, true), (18, true), (19, true)] ?_; intro J hJ; simp [hG2]; (repeat refine ca ?_); (try ((try with_reducible refine ⟨?_, ?_⟩) <;> (try with_reducible intro hnil) <;> refine hJ _ _ ?_ <;> clear hJ J <;> simp only [ak, reduceIte] <;> try subst hnil)))
  refine dcallK_ofE (Forest g _ hg (by omega) (by omega) (by omega)) (by simp) ?_; rintro r s3 ⟨⟨I1, Rs1, hfo1, rfl⟩, hk3⟩
  obtain ⟨rfl, rfl⟩ := hfo1.unique hfo
  have hn3 := hk3.next
  have hG3 := (hk3.H st.next (by omega)).trans hG2
  refine ⟨fun _ => by simp [hG3, hG2], ?_⟩
  (refine d_go ?_; simp [hG3, hG2]; (repeat refine ca ?_); (try ((try with_reducible refine ⟨?_, ?_⟩) <;> (try with_reducible intro hnil) <;> refine hJ _ _ ?_ <;> clear hJ J <;> simp only [ak, reduceIte] <;> try subst hnil)))
  refine dcallK_ofE (ref_Same (idsL I1) (idsL I1) 0 0 _ (by unfold small; simp; omega)) (by simp) ?_; rintro r s4 ⟨rfl, rfl⟩
  refine ⟨fun _ => by simp [hG3, hG2], ?_⟩
  (refine d_go ?_; simp [hG3, hG2]; (repeat refine ca ?_); (try ((try with_reducible refine ⟨?_, ?_⟩) <;> (try with_reducible intro hnil) <;> refine hJ _ _ ?_ <;> clear hJ J <;> simp only [ak, reduceIte] <;> try subst hnil)))
  refine dcallK_ofE (Rest g _ hg (by omega) (by omega) (by omega)) (by simp) ?_; rintro r s5 ⟨⟨I2, Rs2, hfo2, rfl⟩, hk5⟩
  obtain ⟨rfl, rfl⟩ := hfo2.unique hfo
  have hn5 := hk5.next
  have hG5 := (hk5.H st.next (by omega)).trans hG3
  refine ⟨fun _ => by simp [hG5, hG2], ?_⟩
  (refine d_go ?_; simp [hG5, hG2]; (repeat refine ca ?_); (try ((try with_reducible refine ⟨?_, ?_⟩) <;> (try with_reducible intro hnil) <;> refine hJ _ _ ?_ <;> clear hJ J <;> simp only [ak, reduceIte] <;> try subst hnil)))
  refine dcallK_ofE (ref_Same (idsL Rs2) (idsL Rs2) 0 0 _ (by unfold small; simp; omega)) (by simp) ?_; rintro r s6 ⟨rfl, rfl⟩
  refine ⟨fun _ => by simp [hG5, hG2], ?_⟩
  (refine d_go ?_; simp [hG5, hG2]; (repeat refine ca ?_); (try ((try with_reducible refine ⟨?_, ?_⟩) <;> (try with_reducible intro hnil) <;> refine hJ _ _ ?_ <;> clear hJ J <;> simp only [ak, reduceIte] <;> try subst hnil)))
  refine dcallK_ofE (Ring g id _ hg hi (by omega) (by omega) (by omega)) (by simp) ?_; rintro r s7 ⟨hr7, hk7⟩
  obtain ⟨l, hl, rfl⟩ := hr7 _ _ hfo
  have hn7 := hk7.next
  have hG7 := (hk7.H st.next (by omega)).trans hG5
  refine ⟨fun _ => by simp [hG7, hG2], ?_⟩
  (refine d_go ?_; simp [hG7, hG2]; (repeat refine ca ?_); (try ((try with_reducible refine ⟨?_, ?_⟩) <;> (try with_reducible intro hnil) <;> refine hJ _ _ ?_ <;> clear hJ J <;> simp only [ak, reduceIte] <;> try subst hnil)))
  refine dcallK_ofE (ref_Ring g id _ hF (by omega)) (by simp) ?_; rintro r s8 ⟨hr8, hk8⟩
  obtain ⟨l', hl', rfl⟩ := hr8 _ _ hfo
  have hll := hl.same hl'
  obtain ⟨rfl, hlen⟩ := hll
  have hn8 := hk8.next
  have hG8 := (hk8.H st.next (by omega)).trans hG7
  refine ⟨fun _ => by simp [hG8, hG2], ?_⟩
  (refine d_go ?_; simp [hG8, hG2]; (repeat refine ca ?_); (try ((try with_reducible refine ⟨?_, ?_⟩) <;> (try with_reducible intro hnil) <;> refine hJ _ _ ?_ <;> clear hJ J <;> simp only [ak, reduceIte] <;> try subst hnil)))
  refine dcallK_ofE (ref_Same l l 0 0 _ (by unfold small; omega)) (by simp) ?_; rintro r s9 ⟨rfl, rfl⟩
  refine ⟨fun _ => by simp [hG8, hG2], ?_⟩
  (refine d_go ?_; simp [hG8, hG2]; (repeat refine ca ?_); (try ((try with_reducible refine ⟨?_, ?_⟩) <;> (try with_reducible intro hnil) <;> refine hJ _ _ ?_ <;> clear hJ J <;> simp only [ak, reduceIte] <;> try subst hnil)))
  (repeat' (first | refine awp_seq ?_ | refine awp_block ?_ | ((first | refine awp_skip ?_ | refine awp_exit ?_); simp only [ak, reduceIte]) | (refine awp_ret ?_; simp only [ak, reduceIte]; simp []) | (refine awp_cond ?_; simp []; (try with_reducible refine ⟨?_, ?_⟩) <;> (try with_reducible intro hc) <;> try (exfalso; omega)) | ((first | (refine w_e [] ?_; intro J hJ; simp only []) | (refine w_q ?_; intro J hJ) | refine e_go ?_); simp []; (repeat refine ca ?_); (try ((try with_reducible refine ⟨?_, ?_⟩) <;> (try with_reducible intro hnil) <;> refine hJ _ _ ?_ <;> clear hJ J <;> simp only [ak, reduceIte] <;> try subst hnil)))))

theorem TreeTells_shp (l0 l1 : List LV) (st : St) (h0 : Shp tab 38 l0) (h1 : Shp tab 41 l1) :
    ACalls Tryz.prog 11 [argT tab 38 l0, argT tab 41 l1] st fun r st' => r = bb true := by
  obtain ⟨g, rfl, _⟩ := shp_gr h0
  obtain ⟨a, rfl, _⟩ := shp_u h1
  exact TreeTells g a st

end Go.Proofs.YtomfeddgeihipaaGreat.Aw
