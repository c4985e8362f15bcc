/- tree: root, split, Forest, Rest. tree.Forest, Rest; the document's with, Forest. tree.without. tree.Cuts, the document's Cuts. The document's Cuts. Plain: edges beside each other, of each bundle one, rows of near vertices. No program. Plain: the way from one vertex to another one, as it is sought. No program. Plain: the document's way from one vertex to another one. No program. Plain: both ways from one vertex to another one are the same. No program. Plain: both ways from one vertex to another one are the same: the searches. No program. color.free: the least color that none of some vertices has. Plain: bundles. No program. -/
import Derived.Test.YtomfeddgeihipaaGreatJe
import Derived.Test.YtomfeddgeihipaaGreatAwZ
import Derived.Test.YtomfeddgeihipaaGreatAwRg
import Derived.Test.YtomfeddgeihipaaGreatAwAlt
import Derived.Test.YtomfeddgeihipaaGreatAwShp
import Derived.Test.YtomfeddgeihipaaGreatAwGo
namespace Go.Proofs.YtomfeddgeihipaaGreat.Aw
open Go Go.RowKit Go.Proofs.YtomfeddgeihipaaGreat.Pl
set_option linter.unusedSimpArgs false
set_option linter.unusedVariables false

theorem root (m : Nat) (mes : List (List Int × LV)) (vs : List Int) (I : List Ed) (U R : Int → Int) (d : Int → Nat) (v : Int) (st : St) (hM : st.H m = .map false [.u32] mes) (hU : UF vs I U R d) (hmes : ∀ v ∈ vs, mget mes [v] = some (u (U v))) (hv : v ∈ vs) :
    ACalls Tryz.prog 145 [.mp m, u v] st fun r st' => r = u (R v) ∧ st' = st := by
  refine acalls_of_body tabOk Tryz.func145 rfl rfl Tryz.ntmps145 (rs := [.tmp 4]) rfl (by simp) ?_
  (repeat' (first | refine awp_seq ?_ | refine awp_block ?_ | (refine w_e [] ?_; intro J hJ; simp only []; simp []; (refine hJ _ _ ?_; clear hJ J; simp only [ak, reduceIte]))))
  refine awp_loop (fun n fr s => ∃ x, x ∈ vs ∧ R x = R v ∧ n = d x ∧ fr 0 = .mp m ∧ fr 1 = u x ∧ s = st) (d v) ⟨v, hv, rfl, rfl, by simp, by simp, rfl⟩ ?_
  rintro n fr s ⟨x, hx, hxr, rfl, f0, f1, rfl⟩ J hJ
  have hg := hmes x hx
  by_cases hux : U x = x
  · clear hJ
    have h1 := hU.top x hx hux
    have hb : (U x != x) = false := by simpa using hux
    have h2 : x = R v := by rw [← hxr, h1]
    (repeat' (first | refine awp_seq ?_ | (refine awp_exit ?_; simp only [ak, reduceIte]) | (refine awp_ret ?_; simp only [ak, reduceIte]; simp [f0, f1, hM, hg, hb, hux]) | (refine awp_cond ?_; simp [f0, f1, hM, hg, hb, hux]) | (refine w_e [] ?_; intro J hJ; simp only []; simp [f0, f1, hM, hg, hb, hux]; (refine hJ _ _ ?_; clear hJ J; simp only [ak, reduceIte]))))
    exact h2
  · have hb : (U x != x) = true := by simpa using hux
    obtain ⟨g1, g2⟩ := hU.up x hx hux
    (repeat' (first | refine awp_seq ?_ | refine awp_block ?_ | (refine awp_skip ?_; simp only [ak, reduceIte]) | (refine awp_cond ?_; simp [f0, f1, hM, hg, hb]) | (refine w_e [] ?_; intro J hJ; simp only []; simp [f0, f1, hM, hg, hb]; (refine hJ _ _ ?_; clear hJ J; simp only [ak, reduceIte]))))
    exact hJ _ _ _ g2 ⟨U x, hU.inU x hx, by rw [g1]; exact hxr, rfl, by simp [f0], by simp, rfl⟩

def idsL (l : List Ed) : List Int := l.map (·.id)
@[simp] theorem idsL_len (l : List Ed) : (idsL l).length = l.length := by simp [idsL]
def OwnI (t : Nat) (lo : St) (n : Nat) (st : St) : Prop := t ≠ 0 ∧ lo.next ≤ t ∧ t < st.next ∧ st.H t = .own 41 1 n
theorem box_neW {st : St} {a b : Nat} {x y : LObj} (ha : st.H a = x) (hb : st.H b = y) (h : x ≠ y) : ¬ a = b := fun e => h (by rw [← ha, e, hb])
structure SpI (g : Gr) (st : St) (M : Nat) (E I Rs : List Ed) (t2 t3 : Nat) (mes : List (List Int × LV)) (s : St) : Prop where
  hM : s.H M = .map false [.u32] mes
  fo : IsFo E I Rs
  uf : ∃ U R d, UF g.vs I U R d ∧ ∀ v ∈ g.vs, mget mes [v] = some (u (U v))
  o2 : OwnI t2 st I.length s
  o3 : OwnI t3 st Rs.length s
  ne : t2 ≠ t3
  b : st.next ≤ M ∧ M < s.next
  kp : Keeps st s

set_option maxHeartbeats 2000000 in
theorem split (g : Gr) (st : St) (hg : Good g) (hv : g.vs.length ≤ 1000) (he : g.es.length ≤ 1000) (hp : 0 < st.next) :
    ACalls Tryz.prog 108 [.ag (grL g)] st fun r st' => (∃ I Rs, IsFo g.es I Rs ∧ r = .tu [.sl 0 (idsL I).length (us (idsL I)), .sl 0 (idsL Rs).length (us (idsL Rs))]) ∧ Keeps st st' := by
  refine acalls_z0 ?_
  have hel := eds_length g.es
  refine acalls_of_body tabOk Tryz.func108 rfl rfl Tryz.ntmps108 (rs := [.tmp 2, .tmp 3]) rfl (by simp) ?_
  (repeat' (first | refine awp_seq ?_ | refine awp_block ?_ | (refine w_e [] ?_; intro J hJ; simp only []; simp []; (refine hJ _ _ ?_; clear hJ J; simp only [ak, reduceIte]))))
  refine awp_range 15 14 16 22 (g.vs.length) (fun j fr st2 => fr 1 = .pt st.next 0 ∧ fr 2 = .nil ∧ fr 3 = .nil ∧ fr 4 = .mp (st.next + 1) ∧ fr 13 = .sl 0 g.vs.length (us g.vs) ∧ st2.H st.next = .box 38 2 (grL g) ∧ st2.next = st.next + 2 ∧ Keeps st st2 ∧ ∃ mes, st2.H (st.next + 1) = .map false [.u32] mes ∧ ∀ v ∈ g.vs.take j, mget mes [v] = some (u v)) ?_ ?_ ?_
  · exact ⟨by simp, by simp, by simp, by simp, by simp, by simp, by simp, (Keeps.new _ _).trans (Keeps.new _ _), [], by simp, by simp⟩
  · rintro j fr s hlt ⟨f1, f2, f3, f4, f13, hG, hsn, hkp, mes, hM, hmes⟩ fi fn J hJ
    have hd := us_drop_getD g.vs j hlt
    have htk : g.vs.take (j + 1) = g.vs.take j ++ [g.vs.getD j 0] := by
      rw [List.getD_eq_getElem?_getD, List.getElem?_eq_getElem hlt]; exact List.take_succ_eq_append_getElem hlt
    generalize g.vs.getD j 0 = v at *
    (repeat' (first | refine awp_seq ?_ | (refine w_e [] ?_; intro J hJ; simp only []; simp [f4, f13, fi, fn, hd, hlt, hM]; (refine hJ _ _ ?_; clear hJ J; simp only [ak, reduceIte]))))
    refine hJ _ _ (by simp [fi]) (by simp [fn]) ⟨by simp [f1], by simp [f2], by simp [f3], by simp [f4], by simp [f13], by simp [hG], by simp [hsn], hkp.set (by omega) _, mset mes [v] (u v), by simp, fun w hw => ?_⟩
    rw [mget_mset]
    by_cases hwv : w = v
    · subst hwv; simp
    · rw [if_neg (by simpa using hwv)]
      rw [htk, List.mem_append, List.mem_singleton] at hw
      exact hmes w (hw.resolve_right hwv)
  · rintro fr s ⟨f1, f2, f3, f4, f13, hG, hsn, hkp, mes, hM, hmes⟩
    rw [List.take_length] at hmes
    (repeat' (first | refine awp_seq ?_ | refine awp_block ?_ | (refine w_e [] ?_; intro J hJ; simp only []; simp [f1, hG]; (refine hJ _ _ ?_; clear hJ J; simp only [ak, reduceIte]))))
    refine awp_own 2 41 1 (by simp [f2]) ?_
    refine awp_own 3 41 1 (by simp [f3]) ?_
    refine awp_range 26 25 27 54 (g.es.length) (fun j fr st2 => fr 4 = .mp (st.next + 1) ∧ fr 24 = .sl 0 g.es.length (eds g.es) ∧ ∃ mes I Rs t2 t3, fr 2 = .sl t2 I.length (us (idsL I)) ∧ fr 3 = .sl t3 Rs.length (us (idsL Rs)) ∧ SpI g st (st.next + 1) (g.es.take j) I Rs t2 t3 mes st2) ?_ ?_ ?_
    · refine ⟨by simp [f4], by simp, mes, [], [], s.next, s.next + 1, by simp [idsL], by simp [idsL], ?_⟩
      refine ⟨?_, by simpa using IsFo.nil, ⟨id, id, _, UF.start g.vs, hmes⟩, ⟨by omega, by omega, by simp; omega, by simp⟩, ⟨by omega, by omega, by simp, by simp⟩, by omega, ⟨by omega, by simp; omega⟩, (hkp.trans (Keeps.new _ _)).trans (Keeps.new _ _)⟩
      (repeat (first | rw [new_H, if_neg (α := LObj) (by (try simp only [set_next, new_next]); omega)] | rw [set_H, if_neg (α := LObj) (by omega)] | rw [new_H, if_pos (α := LObj) (by (try simp only [set_next, new_next]))] | rw [set_H, if_pos (α := LObj) (by omega)])); exact hM
    · clear f1 f2 f3 f4 f13 hG hsn hkp hM hmes fr s mes
      rintro j fr s hlt ⟨f4, f24, mes, I, Rs, t2, t3, f2, f3, hM, hfo, ⟨U, R, d, hU, hmes⟩, ⟨a1, a2, a3, a4⟩, ⟨b1, b2, b3, b4⟩, hne, ⟨hb1, hb2⟩, hkp⟩ fi fn JO hJO
      generalize hMM : st.next + 1 = M at *
      have hd := eds_drop g.es j hlt
      have hk3 : j * 3 < g.es.length * 3 := by omega
      have htk : g.es.take (j + 1) = g.es.take j ++ [g.es.getD j ed0] := by
        rw [List.getD_eq_getElem?_getD, List.getElem?_eq_getElem hlt]; exact List.take_succ_eq_append_getElem hlt
      have hxin : g.es.getD j ed0 ∈ g.es := by
        rw [List.getD_eq_getElem?_getD, List.getElem?_eq_getElem hlt]; exact List.getElem_mem _
      generalize g.es.getD j ed0 = x at *
      obtain ⟨hxa, hxb⟩ := hg.ends x hxin
      obtain ⟨id, a, b⟩ := x
      simp only at hxa hxb
      have hsub := hfo.sub
      have hIl : I.length ≤ 1000 := by have := hsub.1.length_le; rw [List.length_take] at this; omega
      have hRl : Rs.length ≤ 1000 := by have := hsub.2.1.length_le; rw [List.length_take] at this; omega
      have hIv : ∀ y ∈ I, y.a ∈ g.vs ∧ y.b ∈ g.vs := fun y hy => hg.ends y (List.mem_of_mem_take (hsub.1.subset hy))
      have m0 : ¬ M = s.next := by omega
      have m0' : ¬ s.next = M := by omega
      have m2 : ¬ M = t2 := box_neW hM a4 (by simp)
      have m3 : ¬ M = t3 := box_neW hM b4 (by simp)
      have c2 : ¬ t2 = s.next + 1 := by omega
      have c3 : ¬ t3 = s.next + 1 := by omega
      have c2b : ¬ t2 = s.next := by omega
      have c3b : ¬ t3 = s.next := by omega
      have hM1 : (s.new (.box 43 3 [u id, u a, u b])).H M = .map false [.u32] mes := by rw [new_H, if_neg m0]; exact hM
      (repeat' (first | refine awp_seq ?_ | (refine w_e [] ?_; intro J hJ; simp only []; simp [f24, fi, fn, hd, hel, hk3, hlt]; (refine hJ _ _ ?_; clear hJ J; simp only [ak, reduceIte]))))
      (refine w_s [] [s.next] [(0, true), (1, true), (2, true), (4, true), (5, true), (6, true), (3, true), (7, true), (8, true), (9, true)] ?_; intro J hJ; simp [f4])
      refine dcallK_ofE (root M mes g.vs I U R d a _ hM1 hU hmes hxa) (by simp) ?_; rintro r s5 ⟨rfl, rfl⟩
      refine ⟨fun _ => by simp, ?_⟩
      (refine d_go ?_; simp [f4])
      refine dcallK_ofE (root M mes g.vs I U R d b _ hM1 hU hmes hxb) (by simp) ?_; rintro r s6 ⟨rfl, rfl⟩
      refine ⟨fun _ => by simp, ?_⟩
      (refine d_go ?_; simp []; (refine hJ _ _ ?_; clear hJ J; simp only [ak, reduceIte]))
      by_cases hab : R a = R b
      · have hab2 : (R a == R b) = true := by simpa using hab
        have hre : Reach I a b := (hU.rel a hxa b hxb).1 hab
        (repeat' (first | refine awp_seq ?_ | (refine awp_exit ?_; simp only [ak, reduceIte]) | (refine awp_cond ?_; simp [f3, hab2, b4, b1, c3, c3b]) | (refine w_e [] ?_; intro J hJ; simp only []; simp [f3, hab2, b4, b1, c3, c3b]; (repeat refine ca ?_); (refine hJ _ _ ?_; clear hJ J; simp only [ak, reduceIte]))))
        refine hJO _ _ (by simp [fi]) (by simp [fn]) ⟨by simp [f4], by simp [f24], mes, I, Rs ++ [⟨id, a, b⟩], t2, s.next + 2, by simp [f2], by simp [idsL], ?_⟩
        rw [htk]
        refine ⟨by (repeat (first | rw [new_H, if_neg (α := LObj) (by (try simp only [set_next, new_next]); omega)] | rw [set_H, if_neg (α := LObj) (by omega)] | rw [new_H, if_pos (α := LObj) (by (try simp only [set_next, new_next]))] | rw [set_H, if_pos (α := LObj) (by omega)])); exact hM, .rest hfo hre, ⟨U, R, d, hU, hmes⟩, ⟨a1, a2, by simp; omega, by (repeat (first | rw [new_H, if_neg (α := LObj) (by (try simp only [set_next, new_next]); omega)] | rw [set_H, if_neg (α := LObj) (by omega)] | rw [new_H, if_pos (α := LObj) (by (try simp only [set_next, new_next]))] | rw [set_H, if_pos (α := LObj) (by omega)])); exact a4⟩, ⟨by omega, by omega, by simp, by simp⟩, by omega, ⟨hb1, by simp; omega⟩, ?_⟩
        exact (((hkp.trans (Keeps.new _ _)).trans (Keeps.new _ _)).set (by omega) _).trans (Keeps.new _ _)
      · have hab2 : (R a == R b) = false := by simpa using hab
        have hre : ¬ Reach I a b := fun h => hab ((hU.rel a hxa b hxb).2 h)
        have m2' : ¬ t2 = M := fun e => m2 e.symm
        (repeat' (first | refine awp_seq ?_ | (refine awp_skip ?_; simp only [ak, reduceIte]) | (refine awp_cond ?_; simp [f2, f4, hab2, a4, a1, c2, c2b, hM1, m0, m0', m2', hM]) | (refine w_e [] ?_; intro J hJ; simp only []; simp [f2, f4, hab2, a4, a1, c2, c2b, hM1, m0, m0', m2', hM]; (repeat refine ca ?_); (refine hJ _ _ ?_; clear hJ J; simp only [ak, reduceIte]))))
        refine hJO _ _ (by simp [fi]) (by simp [fn]) ⟨by simp [f4], by simp [f24], mset mes [R a] (u (R b)), I ++ [⟨id, a, b⟩], Rs, s.next + 2, t3, by simp [idsL], by simp [f3], ?_⟩
        rw [htk]
        refine ⟨by (repeat (first | rw [new_H, if_neg (α := LObj) (by (try simp only [set_next, new_next]); omega)] | rw [set_H, if_neg (α := LObj) (by omega)] | rw [new_H, if_pos (α := LObj) (by (try simp only [set_next, new_next]))] | rw [set_H, if_pos (α := LObj) (by omega)])), .join hfo hre, ⟨_, _, _, hU.join (x := ⟨id, a, b⟩) hxa hxb hIv hab, fun v hv => ?_⟩, ⟨by omega, by omega, by simp, by simp⟩, ⟨b1, b2, by simp; omega, by (repeat (first | rw [new_H, if_neg (α := LObj) (by (try simp only [set_next, new_next]); omega)] | rw [set_H, if_neg (α := LObj) (by omega)] | rw [new_H, if_pos (α := LObj) (by (try simp only [set_next, new_next]))] | rw [set_H, if_pos (α := LObj) (by omega)])); exact b4⟩, by omega, ⟨hb1, by simp; omega⟩, ?_⟩
        · rw [mget_mset]
          by_cases e : v = R a
          · simp [e]
          · simp [e, hmes v hv]
        · exact ((((hkp.trans (Keeps.new _ _)).set (by omega) _).trans (Keeps.new _ _)).set (by omega) _).trans (Keeps.new _ _)
    · rintro fr s ⟨f4, f24, mes, I, Rs, t2, t3, f2, f3, hB⟩
      have hfo := hB.fo
      rw [List.take_length] at hfo
      (repeat' (first | refine awp_seq ?_ | (refine awp_ret ?_; simp only [ak, reduceIte]; simp [f2, f3]) | (refine w_e [] ?_; intro J hJ; simp only []; simp [f2, f3]; (refine hJ _ _ ?_; clear hJ J; simp only [ak, reduceIte]))))
      refine ⟨⟨I, Rs, hfo, by simp [z0, z0L]⟩, hB.kp⟩

end Go.Proofs.YtomfeddgeihipaaGreat.Aw

namespace Go.Proofs.YtomfeddgeihipaaGreat.Aw
open Go Go.RowKit Go.Proofs.YtomfeddgeihipaaGreat.Pl
set_option linter.unusedSimpArgs false
set_option linter.unusedVariables false

def FoR (es : List Ed) (r : LV) : Prop := ∃ I Rs, IsFo es I Rs ∧ r = .sl 0 (idsL I).length (us (idsL I))
def ReR (es : List Ed) (r : LV) : Prop := ∃ I Rs, IsFo es I Rs ∧ r = .sl 0 (idsL Rs).length (us (idsL Rs))
theorem sum3W (l : List Ed) : (List.map (fun _ : Ed => 3) l).sum = l.length * 3 := by
  induction l with
  | nil => rfl
  | cons x l ih => simp only [List.map_cons, List.sum_cons, List.length_cons, ih]; omega
theorem z0_edsW (l : List Ed) : z0L (eds l) = eds l := by
  induction l with
  | nil => rfl
  | cons e l ih => simp only [eds, List.flatMap_cons, List.cons_append, List.nil_append, z0L, z0] at ih ⊢; rw [ih]
def wth (es : List Ed) (ids : List Int) : List Ed := es.filter fun x => decide (x.id ∈ ids)
structure RfI (st : St) (E I Rs : List Ed) (t2 t3 : Nat) (s : St) : Prop where
  fo : IsFo E I Rs
  o2 : OwnI t2 st I.length s
  o3 : OwnI t3 st Rs.length s
  ne : t2 ≠ t3
  kp : Keeps st s
theorem Good.sub {g : Gr} (h : Good g) {E : List Ed} (hs : ∀ x ∈ E, x ∈ g.es) : Good ⟨g.vs, E⟩ := ⟨h.rise, fun x hx => h.ends x (hs x hx)⟩

end Go.Proofs.YtomfeddgeihipaaGreat.Aw

namespace Go.Proofs.YtomfeddgeihipaaGreat.Aw
open Go Go.RowKit Go.Proofs.YtomfeddgeihipaaGreat.Pl
set_option linter.unusedSimpArgs false
set_option linter.unusedVariables false

def wov (vs : List Int) (v : Int) : List Int := vs.filter fun w => decide (w ≠ v)
def woe (es : List Ed) (v : Int) : List Ed := es.filter fun x => decide (x.a ≠ v ∧ x.b ≠ v)
/-- A graph without a vertex. -/
def wog (g : Gr) (v : Int) : Gr := ⟨wov g.vs v, woe g.es v⟩
theorem wov_snoc (vs : List Int) (v : Int) (j : Nat) (hj : j < vs.length) : wov (vs.take (j + 1)) v = wov (vs.take j) v ++ if vs.getD j 0 ≠ v then [vs.getD j 0] else [] := by
  unfold wov
  rw [List.take_succ_eq_append_getElem hj, List.filter_append, getD_lt _ _ hj]
  by_cases h : vs[j] = v <;> simp [h]
theorem woe_snoc (es : List Ed) (v : Int) (j : Nat) (hj : j < es.length) : woe (es.take (j + 1)) v = woe (es.take j) v ++ if (es.getD j ed0).a ≠ v ∧ (es.getD j ed0).b ≠ v then [es.getD j ed0] else [] := by
  unfold woe
  rw [List.take_succ_eq_append_getElem hj, List.filter_append, List.getD_eq_getElem?_getD, List.getElem?_eq_getElem hj]
  by_cases h : es[j].a ≠ v ∧ es[j].b ≠ v <;> simp [h]
theorem wov_le (vs : List Int) (v : Int) (j : Nat) : (wov (vs.take j) v).length ≤ vs.length := by
  have := List.length_filter_le (fun w : Int => decide (w ≠ v)) (vs.take j)
  rw [List.length_take] at this
  unfold wov; omega
theorem woe_le (es : List Ed) (v : Int) (j : Nat) : (woe (es.take j) v).length ≤ es.length := by
  have := List.length_filter_le (fun x : Ed => decide (x.a ≠ v ∧ x.b ≠ v)) (es.take j)
  rw [List.length_take] at this
  unfold woe; omega
def OwnV (t e s n : Nat) (lo : St) (st : St) : Prop := t ≠ 0 ∧ lo.next ≤ t ∧ t < st.next ∧ st.H t = .own e s n

set_option maxHeartbeats 2000000 in
theorem without (g : Gr) (v : Int) (st : St) (hv : g.vs.length ≤ 1000) (he : g.es.length ≤ 1000) (hr : g.vs.Pairwise (· < ·)) (hi : g.es.Pairwise fun x y => x.id < y.id) :
    ACalls Tryz.prog 101 [.ag (grL g), u v] st fun r st' => r = .ag (grL (wog g v)) ∧ Keeps st st' := by
  have hel := eds_length g.es
  refine acalls_of_body tabOk Tryz.func101 rfl rfl Tryz.ntmps101 (rs := [.cell 4 38]) rfl (by simp) ?_
  refine awp_posG fun hpos => ?_
  (repeat' (first | refine awp_seq ?_ | refine awp_block ?_ | (refine w_e [] ?_; intro J hJ; simp only []; simp []; (refine hJ _ _ ?_; clear hJ J; simp only [ak, reduceIte]))))
  refine awp_own 5 41 1 (by simp) ?_
  have e0 : ¬ st.next = st.next + 1 := by omega
  refine awp_range 14 13 15 25 (g.vs.length) (fun j fr st2 => fr 1 = u v ∧ fr 2 = .pt st.next 0 ∧ fr 4 = .pt (st.next + 1) 0 ∧ fr 12 = .sl 0 g.vs.length (us g.vs) ∧ st2.H st.next = .box 38 2 (grL g) ∧ st2.H (st.next + 1) = .box 38 2 [.nil, .nil] ∧ st.next + 1 < st2.next ∧ Keeps st st2 ∧ ∃ t, fr 5 = .sl t (wov (g.vs.take j) v).length (us (wov (g.vs.take j) v)) ∧ OwnV t 41 1 (wov (g.vs.take j) v).length st st2) ?_ ?_ ?_
  · refine ⟨by simp, by simp, by simp, by simp, by simp [e0], by simp, by simp, ?_, st.next + 2, by simp [wov], by omega, by omega, by simp, by simp [wov]⟩
    exact ((Keeps.new _ _).trans (Keeps.new _ _)).trans (Keeps.new _ _)
  · rintro j fr s hlt ⟨f1, f2, f4, f12, hG, hC, hsn, hkp, t, f5, a1, a2, a3, a4⟩ fi fn JO hJO
    have hd := us_drop_getD g.vs j hlt
    have htk := wov_snoc g.vs v j hlt
    have hFl := wov_le g.vs v j
    generalize g.vs.getD j 0 = x at *
    generalize wov (g.vs.take j) v = F at *
    have c1 : ¬ t = s.next := by omega
    have c2 : ¬ st.next = t := box_neW hG a4 (by simp)
    have c3 : ¬ st.next + 1 = t := box_neW hC a4 (by simp)
    by_cases hx : x = v
    · rw [if_neg (by simpa using hx), List.append_nil] at htk
      have hx2 : (x != v) = false := by simpa using hx
      (repeat' (first | refine awp_seq ?_ | (refine awp_skip ?_; simp only [ak, reduceIte]) | (refine awp_cond ?_; simp [f1, f12, fi, fn, hd, hlt, hx2]) | (refine w_e [] ?_; intro J hJ; simp only []; simp [f1, f12, fi, fn, hd, hlt, hx2]; (refine hJ _ _ ?_; clear hJ J; simp only [ak, reduceIte]))))
      exact hJO _ _ (by simp [fi]) (by simp [fn]) ⟨by simp [f1], by simp [f2], by simp [f4], by simp [f12], hG, hC, hsn, hkp, t, by rw [htk]; simp [f5], a1, a2, a3, by rw [htk]; exact a4⟩
    · rw [if_pos hx] at htk
      have hx2 : (x != v) = true := by simpa using hx
      (repeat' (first | refine awp_seq ?_ | (refine awp_cond ?_; simp [f1, f5, f12, fi, fn, hd, hlt, hx2, a4, a1, c1]) | (refine w_e [] ?_; intro J hJ; simp only []; simp [f1, f5, f12, fi, fn, hd, hlt, hx2, a4, a1, c1]; (repeat refine ca ?_); (refine hJ _ _ ?_; clear hJ J; simp only [ak, reduceIte]))))
      refine hJO _ _ (by simp [fi]) (by simp [fn]) ⟨by simp [f1], by simp [f2], by simp [f4], by simp [f12], ?_, ?_, by simp; omega, ?_, s.next + 1, by rw [htk]; simp, by omega, by omega, by simp, by rw [htk]; simp⟩
      · (repeat (first | rw [new_H, if_neg (α := LObj) (by (try simp only [set_next, new_next]); omega)] | rw [set_H, if_neg (α := LObj) (by omega)] | rw [new_H, if_pos (α := LObj) (by (try simp only [set_next, new_next]))] | rw [set_H, if_pos (α := LObj) (by omega)])); exact hG
      · (repeat (first | rw [new_H, if_neg (α := LObj) (by (try simp only [set_next, new_next]); omega)] | rw [set_H, if_neg (α := LObj) (by omega)] | rw [new_H, if_pos (α := LObj) (by (try simp only [set_next, new_next]))] | rw [set_H, if_pos (α := LObj) (by omega)])); exact hC
      · exact (((hkp.trans (Keeps.new _ _)).set a2 _).trans (Keeps.new _ _))
  · rintro fr s ⟨f1, f2, f4, f12, hG, hC, hsn, hkp, t, f5, a1, a2, a3, a4⟩
    rw [List.take_length] at f5 a4
    have hVl := wov_le g.vs v g.vs.length
    rw [List.take_length] at hVl
    generalize hV : wov g.vs v = V at *
    (repeat' (first | refine awp_seq ?_ | refine awp_block ?_ | (refine w_e [] ?_; intro J hJ; simp only []; simp [f2, hG]; (refine hJ _ _ ?_; clear hJ J; simp only [ak, reduceIte]))))
    refine awp_own 8 43 3 (by simp) ?_
    refine awp_range 29 28 30 47 (g.es.length) (fun j fr st2 => fr 1 = u v ∧ fr 4 = .pt (st.next + 1) 0 ∧ fr 5 = .sl t V.length (us V) ∧ fr 27 = .sl 0 g.es.length (eds g.es) ∧ st2.H (st.next + 1) = .box 38 2 [.nil, .nil] ∧ st.next + 1 < st2.next ∧ Keeps st st2 ∧ ∃ t2, fr 8 = .sl t2 (woe (g.es.take j) v).length (eds (woe (g.es.take j) v)) ∧ OwnV t2 43 3 (woe (g.es.take j) v).length st st2) ?_ ?_ ?_
    · refine ⟨by simp [f1], by simp [f4], by simp [f5], by simp, ?_, by simp; omega, hkp.trans (Keeps.new _ _), s.next, by simp [woe], by omega, by omega, by simp, by simp [woe]⟩
      (repeat (first | rw [new_H, if_neg (α := LObj) (by (try simp only [set_next, new_next]); omega)] | rw [set_H, if_neg (α := LObj) (by omega)] | rw [new_H, if_pos (α := LObj) (by (try simp only [set_next, new_next]))] | rw [set_H, if_pos (α := LObj) (by omega)])); exact hC
    · clear f1 f2 f4 f5 f12 hG hC hsn hkp a1 a2 a3 a4 fr s
      rintro j fr s hlt ⟨f1, f4, f5, f27, hC, hsn, hkp, t2, f8, a1, a2, a3, a4⟩ fi fn JO hJO
      have hd := eds_drop g.es j hlt
      have hk3 : j * 3 < g.es.length * 3 := by omega
      have htk := woe_snoc g.es v j hlt
      have hFl := woe_le g.es v j
      generalize g.es.getD j ed0 = x at *
      generalize woe (g.es.take j) v = F at *
      obtain ⟨d, a, b⟩ := x
      simp only at htk
      have c1 : ¬ t2 = s.next := by omega
      have c1b : ¬ t2 = s.next + 1 := by omega
      have c3 : ¬ st.next + 1 = t2 := box_neW hC a4 (by simp)
      have c4 : ¬ s.next = t2 := by omega
      have c5 : ¬ s.next + 1 = t2 := by omega
      have hsm := sum3W F
      by_cases h1 : a = v
      · rw [if_neg (by simp [h1]), List.append_nil] at htk
        have h12 : (a != v) = false := by simpa using h1
        (repeat' (first | refine awp_seq ?_ | (refine awp_skip ?_; simp only [ak, reduceIte]) | (refine awp_cond ?_; simp [f1, f27, fi, fn, hd, hel, hk3, hlt, h12]) | (refine w_e [] ?_; intro J hJ; simp only []; simp [f1, f27, fi, fn, hd, hel, hk3, hlt, h12]; (refine hJ _ _ ?_; clear hJ J; simp only [ak, reduceIte]))))
        refine hJO _ _ (by simp [fi]) (by simp [fn]) ⟨by simp [f1], by simp [f4], by simp [f5], by simp [f27], ?_, by simp; omega, hkp.trans (Keeps.new _ _), t2, by rw [htk]; simp [f8], a1, a2, by simp; omega, ?_⟩
        · (repeat (first | rw [new_H, if_neg (α := LObj) (by (try simp only [set_next, new_next]); omega)] | rw [set_H, if_neg (α := LObj) (by omega)] | rw [new_H, if_pos (α := LObj) (by (try simp only [set_next, new_next]))] | rw [set_H, if_pos (α := LObj) (by omega)])); exact hC
        · rw [htk]; (repeat (first | rw [new_H, if_neg (α := LObj) (by (try simp only [set_next, new_next]); omega)] | rw [set_H, if_neg (α := LObj) (by omega)] | rw [new_H, if_pos (α := LObj) (by (try simp only [set_next, new_next]))] | rw [set_H, if_pos (α := LObj) (by omega)])); exact a4
      · have h12 : (a != v) = true := by simpa using h1
        by_cases h2 : b = v
        · rw [if_neg (by simp [h2]), List.append_nil] at htk
          have h22 : (b != v) = false := by simpa using h2
          (repeat' (first | refine awp_seq ?_ | (refine awp_skip ?_; simp only [ak, reduceIte]) | (refine awp_cond ?_; simp [f1, f27, fi, fn, hd, hel, hk3, hlt, h12, h22]) | (refine w_e [] ?_; intro J hJ; simp only []; simp [f1, f27, fi, fn, hd, hel, hk3, hlt, h12, h22]; (refine hJ _ _ ?_; clear hJ J; simp only [ak, reduceIte]))))
          refine hJO _ _ (by simp [fi]) (by simp [fn]) ⟨by simp [f1], by simp [f4], by simp [f5], by simp [f27], ?_, by simp; omega, hkp.trans (Keeps.new _ _), t2, by rw [htk]; simp [f8], a1, a2, by simp; omega, ?_⟩
          · (repeat (first | rw [new_H, if_neg (α := LObj) (by (try simp only [set_next, new_next]); omega)] | rw [set_H, if_neg (α := LObj) (by omega)] | rw [new_H, if_pos (α := LObj) (by (try simp only [set_next, new_next]))] | rw [set_H, if_pos (α := LObj) (by omega)])); exact hC
          · rw [htk]; (repeat (first | rw [new_H, if_neg (α := LObj) (by (try simp only [set_next, new_next]); omega)] | rw [set_H, if_neg (α := LObj) (by omega)] | rw [new_H, if_pos (α := LObj) (by (try simp only [set_next, new_next]))] | rw [set_H, if_pos (α := LObj) (by omega)])); exact a4
        · rw [if_pos ⟨h1, h2⟩] at htk
          have h22 : (b != v) = true := by simpa using h2
          have e3 : eds F ++ [u d, u a, u b] = eds (F ++ [⟨d, a, b⟩]) := by simp [eds, edL]
          (repeat' (first | refine awp_seq ?_ | (refine awp_cond ?_; simp [f1, f8, f27, fi, fn, hd, hel, hk3, hlt, h12, h22, a4, a1, c1, c1b, c4, c5, hsm]) | (refine w_e [] ?_; intro J hJ; simp only []; simp [f1, f8, f27, fi, fn, hd, hel, hk3, hlt, h12, h22, a4, a1, c1, c1b, c4, c5, hsm]; (repeat refine ca ?_); (refine hJ _ _ ?_; clear hJ J; simp only [ak, reduceIte]))))
          refine hJO _ _ (by simp [fi]) (by simp [fn]) ⟨by simp [f1], by simp [f4], by simp [f5], by simp [f27], ?_, by simp; omega, ?_, s.next + 2, by rw [htk, ← e3]; simp, by omega, by omega, by simp, by rw [htk]; simp⟩
          · (repeat (first | rw [new_H, if_neg (α := LObj) (by (try simp only [set_next, new_next]); omega)] | rw [set_H, if_neg (α := LObj) (by omega)] | rw [new_H, if_pos (α := LObj) (by (try simp only [set_next, new_next]))] | rw [set_H, if_pos (α := LObj) (by omega)])); exact hC
          · exact (((hkp.trans (Keeps.new _ _)).trans (Keeps.new _ _)).set a2 _).trans (Keeps.new _ _)
    · clear f1 f2 f4 f5 f12 hG hC hsn hkp a1 a2 a3 a4 fr s
      rintro fr s ⟨f1, f4, f5, f27, hC, hsn, hkp, t2, f8, a1, a2, a3, a4⟩
      rw [List.take_length] at f8 a4
      have hEl := woe_le g.es v g.es.length
      rw [List.take_length] at hEl
      have hrV : V.Pairwise (· < ·) := by rw [← hV]; exact hr.filter _
      have hrE : (woe g.es v).Pairwise fun x y => x.id < y.id := hi.filter _
      have hw : wog g v = ⟨V, woe g.es v⟩ := by unfold wog; rw [hV]
      rw [hw]
      generalize woe g.es v = E at *
      (repeat' (first | refine awp_seq ?_ | (refine w_e [] ?_; intro J hJ; simp only []; simp [f5, f8])))
      refine callK_ofE (MakeR V E t t2 s (by omega) (by omega) hrV hrE) (by simp) ?_; rintro r s1 ⟨rfl, hk1⟩
      have hC1 := (hk1.H (st.next + 1) hsn).trans hC
      have hn1 := hk1.next
      (repeat' (first | (refine awp_ret ?_; simp only [ak, reduceIte]; simp [f4, hC1]) | (refine e_go ?_; simp [f4, hC1]; (refine hJ _ _ ?_; clear hJ J; simp only [ak, reduceIte]))))
      exact (hkp.trans hk1).set (by omega) _

end Go.Proofs.YtomfeddgeihipaaGreat.Aw

namespace Go.Proofs.YtomfeddgeihipaaGreat.Aw
open Go Go.RowKit Go.Proofs.YtomfeddgeihipaaGreat.Pl
set_option linter.unusedSimpArgs false
set_option linter.unusedVariables false

theorem wog_good {g : Gr} (h : Good g) (v : Int) : Good (wog g v) := by
  refine ⟨h.rise.filter _, fun x hx => ?_⟩
  obtain ⟨h1, h2⟩ := List.mem_filter.1 hx
  simp only [decide_eq_true_eq] at h2
  obtain ⟨h3, h4⟩ := h.ends x h1
  exact ⟨List.mem_filter.2 ⟨h3, by simpa using h2.1⟩, List.mem_filter.2 ⟨h4, by simpa using h2.2⟩⟩
noncomputable def nPt (g : Gr) : Nat := Eu.ncl (Reach g.es) g.vs
/-- The vertices that hold a graph together. -/
noncomputable def cuts (g : Gr) (vs : List Int) : List Int := vs.filter fun v => decide (nPt g < nPt (wog g v))
theorem cuts_snoc (g : Gr) (vs : List Int) (j : Nat) (hj : j < vs.length) : cuts g (vs.take (j + 1)) = cuts g (vs.take j) ++ if nPt g < nPt (wog g (vs.getD j 0)) then [vs.getD j 0] else [] := by
  unfold cuts
  rw [List.take_succ_eq_append_getElem hj, List.filter_append, getD_lt _ _ hj]
  by_cases h : nPt g < nPt (wog g vs[j]) <;> simp [h]
theorem cuts_le (g : Gr) (vs : List Int) (j : Nat) : (cuts g (vs.take j)).length ≤ vs.length := by
  have := List.length_filter_le (fun v => decide (nPt g < nPt (wog g v))) (vs.take j)
  rw [List.length_take] at this
  unfold cuts; omega
theorem nPt_le (g : Gr) : nPt g ≤ g.vs.length := Eu.ncl_le _ _

set_option maxHeartbeats 2000000 in
theorem Cuts (g : Gr) (st : St) (hg : Good g) (hi : g.es.Pairwise fun x y => x.id < y.id) (hv : g.vs.length ≤ 1000) (he : g.es.length ≤ 1000) :
    ACalls Tryz.prog 50 [.ag (grL g)] st fun r st' => r = .sl 0 (cuts g g.vs).length (us (cuts g g.vs)) ∧ Keeps st st' := by
  refine acalls_z0 ?_
  refine acalls_of_body tabOk Tryz.func50 rfl rfl Tryz.ntmps50 (rs := [.tmp 2]) rfl (by simp) ?_
  refine awp_posG fun hpos => ?_
  (repeat' (first | refine awp_seq ?_ | (refine w_e [] ?_; intro J hJ; simp only []; simp []; (try (refine hJ _ _ ?_; clear hJ J; simp only [ak, reduceIte])))))
  refine callK_ofE (Parts g _ hg hv he) (by simp) ?_; rintro r s1 ⟨⟨t1, R1, rfl, hP1⟩, hk1⟩
  have hn1 := hk1.next
  simp only [new_next] at hn1
  have hG1 : s1.H st.next = .box 38 2 (grL g) := by rw [hk1.H _ (by simp)]; simp
  have k1 : Keeps st s1 := (Keeps.new _ _).trans hk1
  have hR1 : R1.length = nPt g := hP1.all
  have hRl := nPt_le g
  rw [hR1]
  generalize hN : nPt g = N at *
  (repeat' (first | refine awp_seq ?_ | refine awp_block ?_ | ((first | (refine w_e [] ?_; intro J hJ; simp only []) | (refine e_go ?_)); simp [hG1]; (refine hJ _ _ ?_; clear hJ J; simp only [ak, reduceIte]))))
  refine awp_own 4 41 1 (by simp) ?_
  refine awp_range 13 12 14 28 (g.vs.length) (fun j fr st2 => fr 1 = .pt st.next 0 ∧ fr 3 = i N ∧ fr 11 = .sl 0 g.vs.length (us g.vs) ∧ st2.H st.next = .box 38 2 (grL g) ∧ st.next < st2.next ∧ Keeps st st2 ∧ ∃ t, fr 4 = .sl t (cuts g (g.vs.take j)).length (us (cuts g (g.vs.take j))) ∧ OwnV t 41 1 (cuts g (g.vs.take j)).length st st2) ?_ ?_ ?_
  · refine ⟨by simp, by simp, by simp, ?_, by simp; omega, k1.trans (Keeps.new _ _), s1.next, by simp [cuts], by omega, by omega, by simp, by simp [cuts]⟩
    (repeat (first | rw [new_H, if_neg (α := LObj) (by (try simp only [set_next, new_next]); omega)] | rw [set_H, if_neg (α := LObj) (by omega)] | rw [new_H, if_pos (α := LObj) (by (try simp only [set_next, new_next]))] | rw [set_H, if_pos (α := LObj) (by omega)])); exact hG1
  · rintro j fr s hlt ⟨f1, f3, f11, hG, hsn, hkp, t, f4, a1, a2, a3, a4⟩ fi fn JO hJO
    have hd := us_drop_getD g.vs j hlt
    have htk := cuts_snoc g g.vs j hlt
    have hFl := cuts_le g g.vs j
    rw [hN] at htk
    generalize g.vs.getD j 0 = x at *
    generalize cuts g (g.vs.take j) = F at *
    have hwl : (wog g x).vs.length ≤ 1000 := by have := List.length_filter_le (fun w : Int => decide (w ≠ x)) g.vs; show (g.vs.filter _).length ≤ 1000; omega
    have hwe : (wog g x).es.length ≤ 1000 := by have := List.length_filter_le (fun y : Ed => decide (y.a ≠ x ∧ y.b ≠ x)) g.es; show (g.es.filter _).length ≤ 1000; omega
    (repeat' (first | refine awp_seq ?_ | (refine w_e [] ?_; intro J hJ; simp only []; simp [f1, f11, fi, fn, hd, hlt, hG]; (try (refine hJ _ _ ?_; clear hJ J; simp only [ak, reduceIte])))))
    refine callK_ofE (without g x s hv he hg.rise hi) (by simp) ?_; rintro r s2 ⟨rfl, hk2⟩
    have hn2 := hk2.next
    (repeat' (refine e_go ?_; simp []))
    refine callK_ofE (Parts (wog g x) s2 (wog_good hg x) hwl hwe) (by simp) ?_; rintro r s3 ⟨⟨t3, R3, rfl, hP3⟩, hk3⟩
    have hn3 := hk3.next
    have hR3 : R3.length = nPt (wog g x) := hP3.all
    rw [hR3]
    have hG3 := (hk3.H st.next (by omega)).trans ((hk2.H st.next hsn).trans hG)
    have a4' := (hk3.H t (by omega)).trans ((hk2.H t a3).trans a4)
    have k3 := (hkp.trans hk2).trans hk3
    have c1 : ¬ t = s3.next := by omega
    by_cases hx : N < nPt (wog g x)
    · rw [if_pos hx] at htk
      have hx2 : (N : Int) < nPt (wog g x) := by omega
      (repeat' (first | (refine awp_cond ?_; simp [f3, f4, hx, hx2, a4', a1, c1]) | ((first | (refine w_e [] ?_; intro J hJ; simp only []) | (refine e_go ?_)); simp [f3, f4, hx, hx2, a4', a1, c1]; (repeat refine ca ?_); (refine hJ _ _ ?_; clear hJ J; simp only [ak, reduceIte]))))
      have c2 : ¬ st.next = t := box_neW hG3 a4' (by simp)
      refine hJO _ _ (by simp [fi]) (by simp [fn]) ⟨by simp [f1], by simp [f3], by simp [f11], ?_, by simp; omega, (((k3.trans (Keeps.new _ _)).set a2 _).trans (Keeps.new _ _)), s3.next + 1, by rw [htk]; simp, by omega, by omega, by simp, by rw [htk]; simp⟩
      (repeat (first | rw [new_H, if_neg (α := LObj) (by (try simp only [set_next, new_next]); omega)] | rw [set_H, if_neg (α := LObj) (by omega)] | rw [new_H, if_pos (α := LObj) (by (try simp only [set_next, new_next]))] | rw [set_H, if_pos (α := LObj) (by omega)])); exact hG3
    · rw [if_neg hx, List.append_nil] at htk
      have hx2 : ¬ (N : Int) < nPt (wog g x) := by omega
      (repeat' (first | (refine awp_skip ?_; simp only [ak, reduceIte]) | (refine awp_cond ?_; simp [f3, hx, hx2]) | (refine e_go ?_; simp [f3, hx, hx2]; (refine hJ _ _ ?_; clear hJ J; simp only [ak, reduceIte]))))
      exact hJO _ _ (by simp [fi]) (by simp [fn]) ⟨by simp [f1], by simp [f3], by simp [f11], hG3, by omega, k3, t, by rw [htk]; simp [f4], a1, a2, by omega, by rw [htk]; exact a4'⟩
  · rintro fr s ⟨f1, f3, f11, hG, hsn, hkp, t, f4, a1, a2, a3, a4⟩
    rw [List.take_length] at f4
    (repeat' (first | refine awp_seq ?_ | (refine awp_ret ?_; simp only [ak, reduceIte]; simp [f4]) | (refine w_e [] ?_; intro J hJ; simp only []; simp [f4]; (refine hJ _ _ ?_; clear hJ J; simp only [ak, reduceIte]))))
    exact ⟨by simp [z0, z0L], hkp⟩

end Go.Proofs.YtomfeddgeihipaaGreat.Aw

namespace Go.Proofs.YtomfeddgeihipaaGreat.Aw
open Go Go.RowKit Go.Proofs.YtomfeddgeihipaaGreat.Pl
set_option linter.unusedSimpArgs false
set_option linter.unusedVariables false

/-- What stays all along. -/
def CtF (g : Gr) (st : St) (F : List Int) (v : Int) (t b : Nat) (fr : Frm) (s : St) : Prop :=
  fr 1 = .pt st.next 0 ∧ fr 3 = .sl t F.length (us F) ∧ fr 5 = u v ∧ fr 6 = .pt b 0 ∧ fr 12 = .sl 0 g.vs.length (us g.vs) ∧ s.H st.next = .box 38 2 (grL g) ∧ st.next < b ∧ b < s.next ∧ Keeps st s ∧ t < b ∧ OwnV t 41 1 F.length st s
set_option maxHeartbeats 4000000 in
theorem ref_Cuts (g : Gr) (st : St) (hg : Good g) (hv : g.vs.length ≤ 1000) (he : g.es.length ≤ 1000) :
    ACalls Tryz.prog 51 [.ag (grL g)] st fun r st' => r = .sl 0 (cuts g g.vs).length (us (cuts g g.vs)) ∧ Keeps st st' := by
  refine acalls_z0 ?_
  have hel := eds_length g.es
  refine acalls_of_body tabOk Tryz.func51 rfl rfl Tryz.ntmps51 (rs := [.tmp 2]) rfl (by simp) ?_
  refine awp_posG fun hpos => ?_
  (repeat' (first | refine awp_seq ?_ | refine awp_block ?_ | (refine w_e [] ?_; intro J hJ; simp only []; simp []; (refine hJ _ _ ?_; clear hJ J; simp only [ak, reduceIte]))))
  refine awp_own 3 41 1 (by simp) ?_
  have e0 : ¬ st.next = st.next + 1 := by omega
  refine awp_range 14 13 15 70 (g.vs.length) (fun j fr st2 => fr 1 = .pt st.next 0 ∧ fr 12 = .sl 0 g.vs.length (us g.vs) ∧ st2.H st.next = .box 38 2 (grL g) ∧ st.next < st2.next ∧ Keeps st st2 ∧ ∃ t, fr 3 = .sl t (cuts g (g.vs.take j)).length (us (cuts g (g.vs.take j))) ∧ OwnV t 41 1 (cuts g (g.vs.take j)).length st st2) ?_ ?_ ?_
  · exact ⟨by simp, by simp, by simp [e0], by simp; omega, (Keeps.new _ _).trans (Keeps.new _ _), st.next + 1, by simp [cuts], by omega, by omega, by simp, by simp [cuts]⟩
  · rintro j0 fr s hlt ⟨f1, f12, hG, hsn, hkp, t, f3, a1, a2, a3, a4⟩ fi fn JO hJO
    have hd := us_drop_getD g.vs j0 hlt
    have htk := cuts_snoc g g.vs j0 hlt
    have hFl := cuts_le g g.vs j0
    generalize g.vs.getD j0 0 = v at *
    generalize cuts g (g.vs.take j0) = F at *
    obtain ⟨b, hb⟩ : ∃ b, b = s.next := ⟨_, rfl⟩
    have m1 : ¬ st.next = s.next := by omega
    (repeat' (first | refine awp_seq ?_ | refine awp_block ?_ | (refine w_e [] ?_; intro J hJ; simp only []; simp [f1, f12, fi, fn, hd, hlt, hG, m1]; (refine hJ _ _ ?_; clear hJ J; simp only [ak, reduceIte]))))
    rw [← hb]
    refine awp_cell b 41 1 (e := 38) (s := 2) [] [.nil] (by simp [hb]) ?_
    refine awp_range 21 20 22 34 (g.vs.length) (fun j fr st2 => fr 14 = i j0 ∧ fr 13 = i g.vs.length ∧ fr 19 = .sl 0 g.vs.length (us g.vs) ∧ CtF g st F v t b fr st2 ∧ ∃ tv, st2.H b = .box 38 2 [.sl tv (wov (g.vs.take j) v).length (us (wov (g.vs.take j) v)), .nil] ∧ b < tv ∧ OwnV tv 41 1 (wov (g.vs.take j) v).length st st2) ?_ ?_ ?_
    · refine ⟨by simp [fi], by simp [fn], by simp, ⟨by simp [f1], by simp [f3], by simp, by simp, by simp [f12], ?_, by omega, by simp; omega, ?_, by omega, a1, a2, by simp; omega, ?_⟩, s.next + 1, by simp [wov], by omega, by omega, by omega, by simp, ?_⟩
      · (repeat (first | rw [new_H, if_neg (α := LObj) (by (try simp only [set_next, new_next]); omega)] | rw [set_H, if_neg (α := LObj) (by omega)] | rw [new_H, if_pos (α := LObj) (by (try simp only [set_next, new_next]))] | rw [set_H, if_pos (α := LObj) (by omega)])); exact hG
      · exact ((hkp.trans (Keeps.new _ _)).trans (Keeps.new _ _)).set (by omega) _
      · (repeat (first | rw [new_H, if_neg (α := LObj) (by (try simp only [set_next, new_next]); omega)] | rw [set_H, if_neg (α := LObj) (by omega)] | rw [new_H, if_pos (α := LObj) (by (try simp only [set_next, new_next]))] | rw [set_H, if_pos (α := LObj) (by omega)])); exact a4
      · (repeat (first | rw [new_H, if_neg (α := LObj) (by (try simp only [set_next, new_next]); omega)] | rw [set_H, if_neg (α := LObj) (by omega)] | rw [new_H, if_pos (α := LObj) (by (try simp only [set_next, new_next]))] | rw [set_H, if_pos (α := LObj) (by omega)])); simp [wov]
    · clear f1 f3 f12 hG hsn hkp a1 a2 a3 a4 hJO fi fn hb m1 fr s
      rintro j fr s hlj ⟨f14, f13, f19, ⟨f1, f3, f5, f6, f12, hG, hsb, hbn, hkp, htb, a1, a2, a3, a4⟩, tv, hB, hbv, b1, b2, b3, b4⟩ fi fn J hJ
      have hdj := us_drop_getD g.vs j hlj
      have htj := wov_snoc g.vs v j hlj
      have hWl := wov_le g.vs v j
      generalize g.vs.getD j 0 = w at *
      generalize wov (g.vs.take j) v = W at *
      have c1 : ¬ tv = s.next := by omega
      have c2 : ¬ b = s.next := by omega
      have c3 : ¬ b = s.next + 1 := by omega
      have c4 : ¬ b = tv := by omega
      have c5 : ¬ tv = b := by omega
      have c6 : ¬ s.next = b := by omega
      have c7 : ¬ s.next + 1 = b := by omega
      by_cases hx : w = v
      · rw [if_neg (by simpa using hx), List.append_nil] at htj
        have hx2 : (w != v) = false := by simpa using hx
        (repeat' (first | refine awp_seq ?_ | (refine awp_skip ?_; simp only [ak, reduceIte]) | (refine awp_cond ?_; simp [f5, f19, fi, fn, hdj, hlj, hx2]) | (refine w_e [] ?_; intro J hJ; simp only []; simp [f5, f19, fi, fn, hdj, hlj, hx2]; (refine hJ _ _ ?_; clear hJ J; simp only [ak, reduceIte]))))
        exact hJ _ _ (by simp [fi]) (by simp [fn]) ⟨by simp [f14], by simp [f13], by simp [f19], ⟨by simp [f1], by simp [f3], by simp [f5], by simp [f6], by simp [f12], hG, hsb, hbn, hkp, htb, a1, a2, a3, a4⟩, tv, by rw [htj]; exact hB, hbv, b1, b2, b3, by rw [htj]; exact b4⟩
      · rw [if_pos hx] at htj
        have hx2 : (w != v) = true := by simpa using hx
        (repeat' (first | refine awp_seq ?_ | (refine awp_cond ?_; simp [f5, f6, f19, fi, fn, hdj, hlj, hx2, hB, b4, b1, c1, c2, c3, c4, c5, c6, c7]) | (refine w_e [] ?_; intro J hJ; simp only []; simp [f5, f6, f19, fi, fn, hdj, hlj, hx2, hB, b4, b1, c1, c2, c3, c4, c5, c6, c7]; (repeat refine ca ?_); (refine hJ _ _ ?_; clear hJ J; simp only [ak, reduceIte]))))
        refine hJ _ _ (by simp [fi]) (by simp [fn]) ⟨by simp [f14], by simp [f13], by simp [f19], ⟨by simp [f1], by simp [f3], by simp [f5], by simp [f6], by simp [f12], ?_, hsb, by simp; omega, ?_, htb, a1, a2, by simp; omega, ?_⟩, s.next + 1, ?_, by omega, by omega, by omega, by simp, ?_⟩
        · (repeat (first | rw [new_H, if_neg (α := LObj) (by (try simp only [set_next, new_next]); omega)] | rw [set_H, if_neg (α := LObj) (by omega)] | rw [new_H, if_pos (α := LObj) (by (try simp only [set_next, new_next]))] | rw [set_H, if_pos (α := LObj) (by omega)])); exact hG
        · refine ⟨by have := hkp.next; simp; omega, fun l hl => ?_⟩
          (repeat (first | rw [new_H, if_neg (α := LObj) (by (try simp only [set_next, new_next]); omega)] | rw [set_H, if_neg (α := LObj) (by omega)] | rw [new_H, if_pos (α := LObj) (by (try simp only [set_next, new_next]))] | rw [set_H, if_pos (α := LObj) (by omega)])); exact hkp.H l hl
        · (repeat (first | rw [new_H, if_neg (α := LObj) (by (try simp only [set_next, new_next]); omega)] | rw [set_H, if_neg (α := LObj) (by omega)] | rw [new_H, if_pos (α := LObj) (by (try simp only [set_next, new_next]))] | rw [set_H, if_pos (α := LObj) (by omega)])); exact a4
        · rw [htj]; (repeat (first | rw [new_H, if_neg (α := LObj) (by (try simp only [set_next, new_next]); omega)] | rw [set_H, if_neg (α := LObj) (by omega)] | rw [new_H, if_pos (α := LObj) (by (try simp only [set_next, new_next]))] | rw [set_H, if_pos (α := LObj) (by omega)])); simp
        · rw [htj]; (repeat (first | rw [new_H, if_neg (α := LObj) (by (try simp only [set_next, new_next]); omega)] | rw [set_H, if_neg (α := LObj) (by omega)] | rw [new_H, if_pos (α := LObj) (by (try simp only [set_next, new_next]))] | rw [set_H, if_pos (α := LObj) (by omega)])); simp
    · clear f1 f3 f12 hG hsn hkp a1 a2 a3 a4 fi fn hb m1 fr s
      rintro fr s ⟨f14, f13, f19, ⟨f1, f3, f5, f6, f12, hG, hsb, hbn, hkp, htb, a1, a2, a3, a4⟩, tv, hB, hbv, b1, b2, b3, b4⟩
      rw [List.take_length] at hB
      have hVl := wov_le g.vs v g.vs.length
      rw [List.take_length] at hVl
      have hwg : wog g v = ⟨wov g.vs v, woe g.es v⟩ := rfl
      have hgw := wog_good hg v
      rw [hwg] at hgw htk
      generalize wov g.vs v = V at *
      (repeat' (first | refine awp_seq ?_ | refine awp_block ?_ | (refine w_e [] ?_; intro J hJ; simp only []; simp [f1, hG]; (refine hJ _ _ ?_; clear hJ J; simp only [ak, reduceIte]))))
      refine awp_cell b 43 3 (e := 38) (s := 2) [.sl tv V.length (us V)] [] (by simpa using hB) ?_
      refine awp_range 38 37 39 58 (g.es.length) (fun j fr st2 => fr 14 = i j0 ∧ fr 13 = i g.vs.length ∧ fr 36 = .sl 0 g.es.length (eds g.es) ∧ CtF g st F v t b fr st2 ∧ ∃ te, st2.H b = .box 38 2 [.sl tv V.length (us V), .sl te (woe (g.es.take j) v).length (eds (woe (g.es.take j) v))] ∧ b < te ∧ OwnV te 43 3 (woe (g.es.take j) v).length st st2) ?_ ?_ ?_
      · refine ⟨by simp [f14], by simp [f13], by simp, ⟨by simp [f1], by simp [f3], by simp [f5], by simp [f6], by simp [f12], ?_, by omega, by simp; omega, ?_, by omega, a1, a2, by simp; omega, ?_⟩, s.next, by simp [woe], by omega, by omega, by omega, by simp, ?_⟩
        · (repeat (first | rw [new_H, if_neg (α := LObj) (by (try simp only [set_next, new_next]); omega)] | rw [set_H, if_neg (α := LObj) (by omega)] | rw [new_H, if_pos (α := LObj) (by (try simp only [set_next, new_next]))] | rw [set_H, if_pos (α := LObj) (by omega)])); exact hG
        · exact (hkp.trans (Keeps.new _ _)).set (by omega) _
        · (repeat (first | rw [new_H, if_neg (α := LObj) (by (try simp only [set_next, new_next]); omega)] | rw [set_H, if_neg (α := LObj) (by omega)] | rw [new_H, if_pos (α := LObj) (by (try simp only [set_next, new_next]))] | rw [set_H, if_pos (α := LObj) (by omega)])); exact a4
        · (repeat (first | rw [new_H, if_neg (α := LObj) (by (try simp only [set_next, new_next]); omega)] | rw [set_H, if_neg (α := LObj) (by omega)] | rw [new_H, if_pos (α := LObj) (by (try simp only [set_next, new_next]))] | rw [set_H, if_pos (α := LObj) (by omega)])); simp [woe]
      · clear f1 f3 f5 f6 f12 f13 f14 f19 hG hsb hbn hkp a1 a2 a3 a4 htb hB hbv b1 b2 b3 b4 hJO fr s
        rintro j fr s hlj ⟨f14, f13, f36, ⟨f1, f3, f5, f6, f12, hG, hsb, hbn, hkp, htb, a1, a2, a3, a4⟩, te, hB, hbe, b1, b2, b3, b4⟩ fi fn J hJ
        have hdj := eds_drop g.es j hlj
        have hk3 : j * 3 < g.es.length * 3 := by omega
        have htj := woe_snoc g.es v j hlj
        have hWl := woe_le g.es v j
        generalize g.es.getD j ed0 = x at *
        generalize woe (g.es.take j) v = W at *
        obtain ⟨d, a, c⟩ := x
        simp only at htj
        have c1 : ¬ te = s.next := by omega
        have c1b : ¬ te = s.next + 1 := by omega
        have c2 : ¬ b = s.next := by omega
        have c3 : ¬ b = s.next + 1 := by omega
        have c3b : ¬ b = s.next + 2 := by omega
        have c4 : ¬ b = te := by omega
        have c5 : ¬ te = b := by omega
        have c6 : ¬ s.next = b := by omega
        have c7 : ¬ s.next + 1 = b := by omega
        have c8 : ¬ s.next = te := by omega
        have c9 : ¬ s.next + 1 = te := by omega
        have hsm := sum3W W
        by_cases h1 : a = v
        · rw [if_neg (by simp [h1]), List.append_nil] at htj
          have h12 : (a != v) = false := by simpa using h1
          (repeat' (first | refine awp_seq ?_ | (refine awp_skip ?_; simp only [ak, reduceIte]) | (refine awp_cond ?_; simp [f5, f36, fi, fn, hdj, hel, hk3, hlj, h12]) | (refine w_e [] ?_; intro J hJ; simp only []; simp [f5, f36, fi, fn, hdj, hel, hk3, hlj, h12]; (refine hJ _ _ ?_; clear hJ J; simp only [ak, reduceIte]))))
          refine hJ _ _ (by simp [fi]) (by simp [fn]) ⟨by simp [f14], by simp [f13], by simp [f36], ⟨by simp [f1], by simp [f3], by simp [f5], by simp [f6], by simp [f12], ?_, hsb, by simp; omega, hkp.trans (Keeps.new _ _), htb, a1, a2, by simp; omega, ?_⟩, te, ?_, hbe, b1, b2, by simp; omega, ?_⟩
          · (repeat (first | rw [new_H, if_neg (α := LObj) (by (try simp only [set_next, new_next]); omega)] | rw [set_H, if_neg (α := LObj) (by omega)] | rw [new_H, if_pos (α := LObj) (by (try simp only [set_next, new_next]))] | rw [set_H, if_pos (α := LObj) (by omega)])); exact hG
          · (repeat (first | rw [new_H, if_neg (α := LObj) (by (try simp only [set_next, new_next]); omega)] | rw [set_H, if_neg (α := LObj) (by omega)] | rw [new_H, if_pos (α := LObj) (by (try simp only [set_next, new_next]))] | rw [set_H, if_pos (α := LObj) (by omega)])); exact a4
          · rw [htj]; (repeat (first | rw [new_H, if_neg (α := LObj) (by (try simp only [set_next, new_next]); omega)] | rw [set_H, if_neg (α := LObj) (by omega)] | rw [new_H, if_pos (α := LObj) (by (try simp only [set_next, new_next]))] | rw [set_H, if_pos (α := LObj) (by omega)])); exact hB
          · rw [htj]; (repeat (first | rw [new_H, if_neg (α := LObj) (by (try simp only [set_next, new_next]); omega)] | rw [set_H, if_neg (α := LObj) (by omega)] | rw [new_H, if_pos (α := LObj) (by (try simp only [set_next, new_next]))] | rw [set_H, if_pos (α := LObj) (by omega)])); exact b4
        · have h12 : (a != v) = true := by simpa using h1
          by_cases h2 : c = v
          · rw [if_neg (by simp [h2]), List.append_nil] at htj
            have h22 : (c != v) = false := by simpa using h2
            (repeat' (first | refine awp_seq ?_ | (refine awp_skip ?_; simp only [ak, reduceIte]) | (refine awp_cond ?_; simp [f5, f36, fi, fn, hdj, hel, hk3, hlj, h12, h22]) | (refine w_e [] ?_; intro J hJ; simp only []; simp [f5, f36, fi, fn, hdj, hel, hk3, hlj, h12, h22]; (refine hJ _ _ ?_; clear hJ J; simp only [ak, reduceIte]))))
            refine hJ _ _ (by simp [fi]) (by simp [fn]) ⟨by simp [f14], by simp [f13], by simp [f36], ⟨by simp [f1], by simp [f3], by simp [f5], by simp [f6], by simp [f12], ?_, hsb, by simp; omega, hkp.trans (Keeps.new _ _), htb, a1, a2, by simp; omega, ?_⟩, te, ?_, hbe, b1, b2, by simp; omega, ?_⟩
            · (repeat (first | rw [new_H, if_neg (α := LObj) (by (try simp only [set_next, new_next]); omega)] | rw [set_H, if_neg (α := LObj) (by omega)] | rw [new_H, if_pos (α := LObj) (by (try simp only [set_next, new_next]))] | rw [set_H, if_pos (α := LObj) (by omega)])); exact hG
            · (repeat (first | rw [new_H, if_neg (α := LObj) (by (try simp only [set_next, new_next]); omega)] | rw [set_H, if_neg (α := LObj) (by omega)] | rw [new_H, if_pos (α := LObj) (by (try simp only [set_next, new_next]))] | rw [set_H, if_pos (α := LObj) (by omega)])); exact a4
            · rw [htj]; (repeat (first | rw [new_H, if_neg (α := LObj) (by (try simp only [set_next, new_next]); omega)] | rw [set_H, if_neg (α := LObj) (by omega)] | rw [new_H, if_pos (α := LObj) (by (try simp only [set_next, new_next]))] | rw [set_H, if_pos (α := LObj) (by omega)])); exact hB
            · rw [htj]; (repeat (first | rw [new_H, if_neg (α := LObj) (by (try simp only [set_next, new_next]); omega)] | rw [set_H, if_neg (α := LObj) (by omega)] | rw [new_H, if_pos (α := LObj) (by (try simp only [set_next, new_next]))] | rw [set_H, if_pos (α := LObj) (by omega)])); exact b4
          · rw [if_pos ⟨h1, h2⟩] at htj
            have h22 : (c != v) = true := by simpa using h2
            have e3 : eds W ++ [u d, u a, u c] = eds (W ++ [⟨d, a, c⟩]) := by simp [eds, edL]
            (repeat' (first | refine awp_seq ?_ | (refine awp_cond ?_; simp [f5, f6, f36, fi, fn, hdj, hel, hk3, hlj, h12, h22, hB, b4, b1, c1, c1b, c2, c3, c3b, c4, c5, c6, c7, c8, c9, hsm]) | (refine w_e [] ?_; intro J hJ; simp only []; simp [f5, f6, f36, fi, fn, hdj, hel, hk3, hlj, h12, h22, hB, b4, b1, c1, c1b, c2, c3, c3b, c4, c5, c6, c7, c8, c9, hsm]; (repeat refine ca ?_); (refine hJ _ _ ?_; clear hJ J; simp only [ak, reduceIte]))))
            refine hJ _ _ (by simp [fi]) (by simp [fn]) ⟨by simp [f14], by simp [f13], by simp [f36], ⟨by simp [f1], by simp [f3], by simp [f5], by simp [f6], by simp [f12], ?_, hsb, by simp; omega, ?_, htb, a1, a2, by simp; omega, ?_⟩, s.next + 2, ?_, by omega, by omega, by omega, by simp, ?_⟩
            · (repeat (first | rw [new_H, if_neg (α := LObj) (by (try simp only [set_next, new_next]); omega)] | rw [set_H, if_neg (α := LObj) (by omega)] | rw [new_H, if_pos (α := LObj) (by (try simp only [set_next, new_next]))] | rw [set_H, if_pos (α := LObj) (by omega)])); exact hG
            · refine ⟨by have := hkp.next; simp; omega, fun l hl => ?_⟩
              (repeat (first | rw [new_H, if_neg (α := LObj) (by (try simp only [set_next, new_next]); omega)] | rw [set_H, if_neg (α := LObj) (by omega)] | rw [new_H, if_pos (α := LObj) (by (try simp only [set_next, new_next]))] | rw [set_H, if_pos (α := LObj) (by omega)])); exact hkp.H l hl
            · (repeat (first | rw [new_H, if_neg (α := LObj) (by (try simp only [set_next, new_next]); omega)] | rw [set_H, if_neg (α := LObj) (by omega)] | rw [new_H, if_pos (α := LObj) (by (try simp only [set_next, new_next]))] | rw [set_H, if_pos (α := LObj) (by omega)])); exact a4
            · rw [htj, ← e3]; (repeat (first | rw [new_H, if_neg (α := LObj) (by (try simp only [set_next, new_next]); omega)] | rw [set_H, if_neg (α := LObj) (by omega)] | rw [new_H, if_pos (α := LObj) (by (try simp only [set_next, new_next]))] | rw [set_H, if_pos (α := LObj) (by omega)])); simp
            · rw [htj]; (repeat (first | rw [new_H, if_neg (α := LObj) (by (try simp only [set_next, new_next]); omega)] | rw [set_H, if_neg (α := LObj) (by omega)] | rw [new_H, if_pos (α := LObj) (by (try simp only [set_next, new_next]))] | rw [set_H, if_pos (α := LObj) (by omega)])); simp
      · clear f1 f3 f5 f6 f12 f13 f14 f19 hG hsb hbn hkp a1 a2 a3 a4 htb hB hbv b1 b2 b3 b4 fr s
        rintro fr s ⟨f14, f13, f36, ⟨f1, f3, f5, f6, f12, hG, hsb, hbn, hkp, htb, a1, a2, a3, a4⟩, te, hB, hbe, b1, b2, b3, b4⟩
        rw [List.take_length] at hB
        have hEl := woe_le g.es v g.es.length
        rw [List.take_length] at hEl
        generalize woe g.es v = E at *
        have hR1 := nPt_le g
        have hR2 : nPt ⟨V, E⟩ ≤ V.length := nPt_le _
        (repeat' refine awp_seq ?_)
        (refine w_s [] [st.next, b] [(0, true), (3, true), (1, true), (2, true), (4, true), (5, true), (6, true)] ?_; intro J hJ; simp [f1, f6, hB, hG])
        refine dcallK_of0 (ref_Parts ⟨V, E⟩ s hgw (by simp only; omega) (by simp only; omega)) (by simp [z0, z0L, z0_us, z0_edsW]) ?_; rintro r s1 ⟨⟨t1, R1, rfl, hP1⟩, hk1⟩
        have hn1 := hk1.next
        have hB1 := (hk1.H b hbn).trans hB
        have hG1 := (hk1.H st.next (by omega)).trans hG
        have l1 : R1.length = nPt ⟨V, E⟩ := hP1.all
        refine ⟨fun _ => by simp [hB1, hB, hG1, hG], ?_⟩
        (refine d_go ?_; simp [hB1, hB, hG1, hG, l1])
        refine dcallK_ofE (ref_Parts g s1 hg hv he) (by simp) ?_; rintro r s2 ⟨⟨t2, R2, rfl, hP2⟩, hk2⟩
        have hn2 := hk2.next
        have hB2 := (hk2.H b (by omega)).trans hB1
        have hG2 := (hk2.H st.next (by omega)).trans hG1
        have l2 : R2.length = nPt g := hP2.all
        have a4' := (hk2.H t (by omega)).trans ((hk1.H t a3).trans a4)
        have k2 := (hkp.trans hk1).trans hk2
        refine ⟨fun _ => by simp [hB2, hB, hG2, hG], ?_⟩
        (refine d_go ?_; simp [hB2, hB, hG2, hG, l2]; (refine hJ _ _ ?_; clear hJ J; simp only [ak, reduceIte]))
        generalize nPt ⟨V, E⟩ = N1 at *
        generalize nPt g = N2 at *
        have c1 : ¬ t = s2.next := by omega
        by_cases hx : N2 < N1
        · rw [if_pos hx] at htk
          have hx2 : (N2 : Int) < N1 := by omega
          have c2 : ¬ st.next = t := box_neW hG2 a4' (by simp)
          (repeat' (first | (refine awp_cond ?_; simp [f3, f5, hx, hx2, a4', a1, c1]) | (refine w_e [] ?_; intro J hJ; simp only []; simp [f3, f5, hx, hx2, a4', a1, c1]; (repeat refine ca ?_); (refine hJ _ _ ?_; clear hJ J; simp only [ak, reduceIte]))))
          refine hJO _ _ (by simp [f14]) (by simp [f13]) ⟨by simp [f1], by simp [f12], ?_, by simp; omega, (((k2.trans (Keeps.new _ _)).set a2 _).trans (Keeps.new _ _)), s2.next + 1, by rw [htk]; simp, by omega, by omega, by simp, by rw [htk]; simp⟩
          (repeat (first | rw [new_H, if_neg (α := LObj) (by (try simp only [set_next, new_next]); omega)] | rw [set_H, if_neg (α := LObj) (by omega)] | rw [new_H, if_pos (α := LObj) (by (try simp only [set_next, new_next]))] | rw [set_H, if_pos (α := LObj) (by omega)])); exact hG2
        · rw [if_neg hx, List.append_nil] at htk
          have hx2 : ¬ (N2 : Int) < N1 := by omega
          (repeat' (first | (refine awp_skip ?_; simp only [ak, reduceIte]) | (refine awp_cond ?_; simp [f3, hx, hx2])))
          exact hJO _ _ (by simp [f14]) (by simp [f13]) ⟨by simp [f1], by simp [f12], hG2, by omega, k2, t, by rw [htk]; simp [f3], a1, a2, by omega, by rw [htk]; exact a4'⟩
  · rintro fr s ⟨f1, f12, hG, hsn, hkp, t, f3, a1, a2, a3, a4⟩
    rw [List.take_length] at f3
    (repeat' (first | refine awp_seq ?_ | (refine awp_ret ?_; simp only [ak, reduceIte]; simp [f3]) | (refine w_e [] ?_; intro J hJ; simp only []; simp [f3]; (refine hJ _ _ ?_; clear hJ J; simp only [ak, reduceIte]))))
    exact ⟨by simp [z0, z0L], hkp⟩

end Go.Proofs.YtomfeddgeihipaaGreat.Aw

namespace Go.Proofs.YtomfeddgeihipaaGreat.Aw
open Go Go.RowKit Go.Proofs.YtomfeddgeihipaaGreat.Pl
set_option linter.unusedSimpArgs false
set_option linter.unusedVariables false

theorem snocI {α : Type} {P : List α → Prop} (h0 : P []) (h1 : ∀ l x, P l → P (l ++ [x])) (l : List α) : P l := by
  rw [← List.reverse_reverse l]
  generalize l.reverse = r
  induction r with
  | nil => exact h0
  | cons x r ih => rw [List.reverse_cons]; exact h1 _ _ ih

def bes (x y : Ed) : Bool := decide (x.a = y.a ∧ x.b = y.b ∨ x.a = y.b ∧ x.b = y.a)
theorem bes_iff {x y : Ed} : bes x y = true ↔ (x.a = y.a ∧ x.b = y.b ∨ x.a = y.b ∧ x.b = y.a) := by simp [bes]
theorem bes_symm {x y : Ed} (h : bes x y = true) : bes y x = true := by
  rw [bes_iff] at h ⊢
  rcases h with ⟨h1, h2⟩ | ⟨h1, h2⟩
  · exact .inl ⟨h1.symm, h2.symm⟩
  · exact .inr ⟨h2.symm, h1.symm⟩
theorem bes_refl (x : Ed) : bes x x = true := by rw [bes_iff]; exact .inl ⟨rfl, rfl⟩
theorem bes_trans {x y z : Ed} (h : bes x y = true) (k : bes y z = true) : bes x z = true := by
  rw [bes_iff] at h k ⊢
  rcases h with ⟨h1, h2⟩ | ⟨h1, h2⟩ <;> rcases k with ⟨k1, k2⟩ | ⟨k1, k2⟩
  · exact .inl ⟨h1.trans k1, h2.trans k2⟩
  · exact .inr ⟨h1.trans k1, h2.trans k2⟩
  · exact .inr ⟨h1.trans k2, h2.trans k1⟩
  · exact .inl ⟨h1.trans k2, h2.trans k1⟩

/-- Of each bundle the first. -/
def sE (l : List Ed) : List Ed := l.foldl (fun acc x => if acc.any (bes x) then acc else acc ++ [x]) []
theorem sE_snoc (l : List Ed) (x : Ed) : sE (l ++ [x]) = if (sE l).any (bes x) then sE l else sE l ++ [x] := by
  simp [sE, List.foldl_append]
theorem sE_sub (l : List Ed) : ∀ x ∈ sE l, x ∈ l := by
  induction l using snocI with
  | h0 => simp [sE]
  | h1 l x ih =>
    intro y hy
    rw [sE_snoc] at hy
    split at hy
    · exact List.mem_append_left _ (ih y hy)
    · rcases List.mem_append.1 hy with h | h
      · exact List.mem_append_left _ (ih y h)
      · exact List.mem_append_right _ h
theorem sE_has (l : List Ed) : ∀ x ∈ l, ∃ y ∈ sE l, bes x y = true := by
  induction l using snocI with
  | h0 => simp
  | h1 l x ih =>
    intro y hy
    rw [sE_snoc]
    rcases List.mem_append.1 hy with h | h
    · obtain ⟨z, h1, h2⟩ := ih y h
      split
      · exact ⟨z, h1, h2⟩
      · exact ⟨z, List.mem_append_left _ h1, h2⟩
    · rw [List.mem_singleton] at h
      subst h
      split
      · rename_i ha
        rw [List.any_eq_true] at ha
        obtain ⟨z, h1, h2⟩ := ha
        exact ⟨z, h1, h2⟩
      · exact ⟨y, List.mem_append_right _ (by simp), bes_refl y⟩
theorem sE_len (l : List Ed) : (sE l).length ≤ l.length := by
  induction l using snocI with
  | h0 => simp [sE]
  | h1 l x ih =>
    rw [sE_snoc]
    split
    · rw [List.length_append]; omega
    · rw [List.length_append, List.length_append]; simp only [List.length_cons, List.length_nil]; omega
theorem sE_apart (l : List Ed) : (sE l).Pairwise fun x y => bes x y = false := by
  induction l using snocI with
  | h0 => simp [sE]
  | h1 l x ih =>
    rw [sE_snoc]
    split
    · exact ih
    · rename_i ha
      rw [List.pairwise_append]
      refine ⟨ih, List.pairwise_singleton _ _, fun y hy z hz => ?_⟩
      rw [List.mem_singleton] at hz
      subst hz
      cases hb : bes y z with
      | false => rfl
      | true => exact absurd (List.any_eq_true.2 ⟨y, hy, bes_symm hb⟩) ha

/-- An edge's two halves. -/
abbrev hf (x : Ed) : List (Int × Int) := [(x.a, x.b), (x.b, x.a)]
def hfs (l : List Ed) : List (Int × Int) := l.flatMap hf
theorem hfs_snoc (l : List Ed) (x : Ed) : hfs (l ++ [x]) = hfs l ++ [(x.a, x.b)] ++ [(x.b, x.a)] := by simp [hfs]
theorem hfs_len (l : List Ed) : (hfs l).length = 2 * l.length := by
  induction l with
  | nil => rfl
  | cons x l ih => simp only [hfs, List.flatMap_cons, List.length_append, List.length_cons, List.length_nil] at ih ⊢; omega
theorem mem_hfs {l : List Ed} {p : Int × Int} : p ∈ hfs l ↔ ∃ x ∈ l, (x.a = p.1 ∧ x.b = p.2) ∨ (x.b = p.1 ∧ x.a = p.2) := by
  obtain ⟨p1, p2⟩ := p
  simp only [hfs, List.mem_flatMap, List.mem_cons, List.not_mem_nil, or_false, Prod.mk.injEq]
  constructor
  · rintro ⟨x, hx, ⟨rfl, rfl⟩ | ⟨rfl, rfl⟩⟩
    · exact ⟨x, hx, .inl ⟨rfl, rfl⟩⟩
    · exact ⟨x, hx, .inr ⟨rfl, rfl⟩⟩
  · rintro ⟨x, hx, ⟨rfl, rfl⟩ | ⟨rfl, rfl⟩⟩
    · exact ⟨x, hx, .inl ⟨rfl, rfl⟩⟩
    · exact ⟨x, hx, .inr ⟨rfl, rfl⟩⟩

/-- What stands beside a number. -/
def nbH (v : Int) (H : List (Int × Int)) : List Int := (H.filter fun p => decide (p.1 = v)).map (·.2)
theorem nbH_snoc (v : Int) (H : List (Int × Int)) (p : Int × Int) : nbH v (H ++ [p]) = nbH v H ++ if p.1 = v then [p.2] else [] := by
  unfold nbH
  rw [List.filter_append, List.map_append]
  by_cases h : p.1 = v
  · simp [h]
  · simp [h]
theorem nbH_len (v : Int) (H : List (Int × Int)) : (nbH v H).length ≤ H.length := by
  unfold nbH
  rw [List.length_map]
  exact List.length_filter_le _ _
theorem mem_nbH {v w : Int} {H : List (Int × Int)} : w ∈ nbH v H ↔ (v, w) ∈ H := by
  unfold nbH
  simp only [List.mem_map, List.mem_filter, decide_eq_true_eq]
  constructor
  · rintro ⟨p, ⟨h1, h2⟩, h3⟩
    subst h2 h3
    exact h1
  · intro h
    exact ⟨(v, w), ⟨h, rfl⟩, rfl⟩

/-- A row put in order. -/
def insI (x : Int) : List Int → List Int
  | [] => [x]
  | y :: l => if x ≤ y then x :: y :: l else y :: insI x l
def srt : List Int → List Int
  | [] => []
  | x :: l => insI x (srt l)
theorem insI_perm (x : Int) (l : List Int) : (insI x l).Perm (x :: l) := by
  induction l with
  | nil => exact .refl _
  | cons y l ih =>
    unfold insI
    split
    · exact .refl _
    · exact (ih.cons y).trans (.swap x y l)
theorem srt_perm (l : List Int) : (srt l).Perm l := by
  induction l with
  | nil => exact .refl _
  | cons x l ih => exact (insI_perm x _).trans (ih.cons x)
theorem insI_sorted (x : Int) {l : List Int} (h : l.Pairwise (· ≤ ·)) : (insI x l).Pairwise (· ≤ ·) := by
  induction l with
  | nil => exact List.pairwise_singleton _ _
  | cons y l ih =>
    have h' := List.pairwise_cons.1 h
    unfold insI
    split
    · rename_i hxy
      refine List.pairwise_cons.2 ⟨fun z hz => ?_, h⟩
      rcases List.mem_cons.1 hz with rfl | hz
      · exact hxy
      · have := h'.1 z hz; omega
    · rename_i hxy
      refine List.pairwise_cons.2 ⟨fun z hz => ?_, ih h'.2⟩
      rcases List.mem_cons.1 ((insI_perm x l).mem_iff.1 hz) with rfl | hz
      · omega
      · exact h'.1 z hz
theorem srt_sorted (l : List Int) : (srt l).Pairwise (· ≤ ·) := by
  induction l with
  | nil => exact .nil
  | cons x l ih => exact insI_sorted x ih
theorem sorted_unique : ∀ {a b : List Int}, a.Pairwise (· ≤ ·) → b.Pairwise (· ≤ ·) → a.Perm b → a = b
  | [], b, _, _, h => by rw [h.nil_eq]
  | x :: a, [], _, _, h => absurd h.symm.nil_eq (by simp)
  | x :: a, y :: b, ha, hb, h => by
    obtain ⟨a1, a2⟩ := List.pairwise_cons.1 ha
    obtain ⟨b1, b2⟩ := List.pairwise_cons.1 hb
    have hxy : x = y := by
      have h1 : x ∈ y :: b := h.mem_iff.1 (by simp)
      have h2 : y ∈ x :: a := h.mem_iff.2 (by simp)
      rcases List.mem_cons.1 h1 with h1 | h1
      · exact h1
      · rcases List.mem_cons.1 h2 with h2 | h2
        · exact h2.symm
        · have := b1 x h1
          have := a1 y h2
          omega
    subst hxy
    rw [sorted_unique a2 b2 ((List.perm_cons x).1 h)]
theorem srt_of {c l : List Int} (h : c.Perm l) (hs : c.Pairwise (· ≤ ·)) : c = srt l := sorted_unique hs (srt_sorted l) (h.trans (srt_perm l).symm)

/-- Who has an edge with a vertex, rising. -/
def nearF (es : List Ed) (v : Int) : List Int := srt (nbH v (hfs (sE es)))
def adj (es : List Ed) (v w : Int) : Prop := ∃ x ∈ es, (x.a = v ∧ x.b = w) ∨ (x.a = w ∧ x.b = v)
theorem mem_nearF {es : List Ed} {v w : Int} : w ∈ nearF es v ↔ adj es v w := by
  unfold nearF
  rw [(srt_perm _).mem_iff, mem_nbH, mem_hfs]
  constructor
  · rintro ⟨x, hx, h⟩
    refine ⟨x, sE_sub _ _ hx, ?_⟩
    rcases h with ⟨h1, h2⟩ | ⟨h1, h2⟩
    · exact .inl ⟨h1, h2⟩
    · exact .inr ⟨h2, h1⟩
  · rintro ⟨x, hx, h⟩
    obtain ⟨y, hy, hb⟩ := sE_has _ _ hx
    refine ⟨y, hy, ?_⟩
    rw [bes_iff] at hb
    rcases h with ⟨h1, h2⟩ | ⟨h1, h2⟩ <;> rcases hb with ⟨b1, b2⟩ | ⟨b1, b2⟩
    · exact .inl ⟨b1.symm.trans h1, b2.symm.trans h2⟩
    · exact .inr ⟨b1.symm.trans h1, b2.symm.trans h2⟩
    · exact .inr ⟨b2.symm.trans h2, b1.symm.trans h1⟩
    · exact .inl ⟨b2.symm.trans h2, b1.symm.trans h1⟩
theorem nbH_nodup {l : List Ed} (hne : ∀ x ∈ l, x.a ≠ x.b) (v : Int) : (nbH v (hfs (sE l))).Nodup := by
  induction l using snocI with
  | h0 => simp [sE, hfs, nbH]
  | h1 l x ih =>
    have ih := ih fun y hy => hne y (List.mem_append_left _ hy)
    have hx := hne x (by simp)
    rw [sE_snoc]
    split
    · exact ih
    · rename_i ha
      have hno : ∀ w, (x.a = v ∧ x.b = w) ∨ (x.b = v ∧ x.a = w) → w ∉ nbH v (hfs (sE l)) := by
        intro w hw hin
        rw [mem_nbH, mem_hfs] at hin
        obtain ⟨y, hy, h⟩ := hin
        refine ha (List.any_eq_true.2 ⟨y, hy, bes_iff.2 ?_⟩)
        simp only at h
        rcases hw with ⟨rfl, rfl⟩ | ⟨rfl, rfl⟩ <;> rcases h with ⟨h1, h2⟩ | ⟨h1, h2⟩
        · exact .inl ⟨h1.symm, h2.symm⟩
        · exact .inr ⟨h1.symm, h2.symm⟩
        · exact .inr ⟨h2.symm, h1.symm⟩
        · exact .inl ⟨h2.symm, h1.symm⟩
      rw [hfs_snoc, nbH_snoc, nbH_snoc]
      simp only
      by_cases h1 : x.a = v
      · have h2 : ¬ x.b = v := fun h => hx (h1.trans h.symm)
        rw [if_pos h1, if_neg h2, List.append_nil, List.nodup_append]
        exact ⟨ih, by simp, fun a ha b hb => by rw [List.mem_singleton] at hb; subst hb; rintro rfl; exact hno _ (.inl ⟨h1, rfl⟩) ha⟩
      · rw [if_neg h1, List.append_nil]
        by_cases h2 : x.b = v
        · rw [if_pos h2, List.nodup_append]
          exact ⟨ih, by simp, fun a ha b hb => by rw [List.mem_singleton] at hb; subst hb; rintro rfl; exact hno _ (.inr ⟨h2, rfl⟩) ha⟩
        · rw [if_neg h2, List.append_nil]; exact ih
theorem nearF_lt {es : List Ed} (hne : ∀ x ∈ es, x.a ≠ x.b) (v : Int) : (nearF es v).Pairwise (· < ·) := by
  have h1 := srt_sorted (nbH v (hfs (sE es)))
  have h2 : (nearF es v).Nodup := (srt_perm _).nodup_iff.2 (nbH_nodup hne v)
  exact (h1.and h2).imp fun ⟨a, b⟩ => by omega
instance (es : List Ed) (v w : Int) : Decidable (adj es v w) := by unfold adj; exact inferInstance
theorem nearF_eq {es : List Ed} {vs : List Int} (hne : ∀ x ∈ es, x.a ≠ x.b) (hr : vs.Pairwise (· < ·)) (hin : ∀ x ∈ es, x.a ∈ vs ∧ x.b ∈ vs) (v : Int) : nearF es v = vs.filter fun w => decide (adj es v w) := by
  refine rise_eq id (by simpa using nearF_lt hne v) (by simpa using hr.filter _) fun w => ?_
  rw [mem_nearF, List.mem_filter, decide_eq_true_eq]
  constructor
  · intro h
    refine ⟨?_, h⟩
    obtain ⟨x, hx, ⟨_, h2⟩ | ⟨h1, _⟩⟩ := h
    · rw [← h2]; exact (hin x hx).2
    · rw [← h1]; exact (hin x hx).1
  · exact fun h => h.2
theorem nearF_len (es : List Ed) (v : Int) : (nearF es v).length ≤ 2 * es.length := by
  have h1 := (srt_perm (nbH v (hfs (sE es)))).length_eq
  have h2 := nbH_len v (hfs (sE es))
  have h3 := hfs_len (sE es)
  have h4 := sE_len es
  unfold nearF
  omega

end Go.Proofs.YtomfeddgeihipaaGreat.Aw

namespace Go.Proofs.YtomfeddgeihipaaGreat.Aw
open Go Go.RowKit Go.Proofs.YtomfeddgeihipaaGreat.Pl
set_option linter.unusedSimpArgs false
set_option linter.unusedVariables false

/-- Who led to whom, in order of finding. -/
abbrev Led := List (Int × Int)
def ledBy (A : Led) (v : Int) : Option Int := match A with
  | [] => none
  | p :: A => if v = p.1 then some p.2 else ledBy A v
theorem ledBy_none {v : Int} : ∀ {A : Led}, v ∉ A.map (·.1) → ledBy A v = none
  | [], _ => rfl
  | p :: A, h => by
    simp only [List.map_cons, List.mem_cons, not_or] at h
    simp only [ledBy]
    rw [if_neg h.1, ledBy_none h.2]
theorem ledBy_some {v : Int} : ∀ {A : Led}, v ∈ A.map (·.1) → ∃ w, ledBy A v = some w
  | [], h => by simp at h
  | p :: A, h => by
    simp only [ledBy]
    by_cases e : v = p.1
    · exact ⟨p.2, by rw [if_pos e]⟩
    · rw [if_neg e]
      simp only [List.map_cons, List.mem_cons] at h
      exact ledBy_some (h.resolve_left e)
theorem ledBy_mem {v w : Int} : ∀ {A : Led}, ledBy A v = some w → (v, w) ∈ A
  | [], h => by simp [ledBy] at h
  | p :: A, h => by
    simp only [ledBy] at h
    split at h
    · rename_i e; injection h with h; subst h; rw [e]; simp
    · exact List.mem_cons_of_mem _ (ledBy_mem h)
theorem ledBy_append {v : Int} {A B : Led} (h : v ∈ A.map (·.1)) : ledBy (A ++ B) v = ledBy A v := by
  induction A with
  | nil => simp at h
  | cons p A ih =>
    simp only [List.cons_append, ledBy]
    by_cases e : v = p.1
    · rw [if_pos e, if_pos e]
    · rw [if_neg e, if_neg e]
      simp only [List.map_cons, List.mem_cons] at h
      exact ih (h.resolve_left e)

structure BF where
  A : Led
  Q : List Int
  hit : Bool
/-- One near vertex looked at. -/
def scan1 (may : Int → Bool) (to v : Int) (S : BF) (u : Int) : BF :=
  if S.hit = true then S else if u ∈ S.A.map (·.1) then S else if u = to then ⟨S.A ++ [(u, v)], S.Q, true⟩ else ⟨S.A ++ [(u, v)], if may u = true then S.Q ++ [u] else S.Q, false⟩
def scanL (may : Int → Bool) (to v : Int) (S : BF) (l : List Int) : BF := l.foldl (scan1 may to v) S
theorem scanL_hit (may : Int → Bool) (to v : Int) {S : BF} (h : S.hit = true) (l : List Int) : scanL may to v S l = S := by
  induction l with
  | nil => rfl
  | cons u l ih => simp only [scanL, List.foldl_cons] at ih ⊢; rw [scan1, if_pos h]; exact ih
/-- The search: what led where, if it was found. -/
def bfs (near : Int → List Int) (may : Int → Bool) (to : Int) : Nat → Led → List Int → Option (Option Led)
  | _, _, [] => some none
  | 0, _, _ :: _ => none
  | n + 1, A, v :: Q => if (scanL may to v ⟨A, Q, false⟩ (near v)).hit = true then some (some (scanL may to v ⟨A, Q, false⟩ (near v)).A) else bfs near may to n (scanL may to v ⟨A, Q, false⟩ (near v)).A (scanL may to v ⟨A, Q, false⟩ (near v)).Q
/-- The way back. -/
def backF (A : Led) (from' : Int) : Nat → Int → Option (List Int)
  | 0, v => if v = from' then some [] else none
  | n + 1, v => if v = from' then some [] else (backF A from' n ((ledBy A v).getD 0)).map fun l => (ledBy A v).getD 0 :: l
theorem backF_len {A : Led} {from' : Int} : ∀ {n : Nat} {v : Int} {l : List Int}, backF A from' n v = some l → l.length ≤ n
  | 0, v, l, h => by
    simp only [backF] at h
    split at h
    · injection h with h; subst h; simp
    · cases h
  | n + 1, v, l, h => by
    simp only [backF] at h
    split at h
    · injection h with h; subst h; simp
    · rw [Option.map_eq_some_iff] at h
      obtain ⟨l', h1, rfl⟩ := h
      have := backF_len h1
      simp only [List.length_cons]; omega
/-- The way from one vertex to another one; none: the strength n is too little. -/
def pathF (vs : List Int) (near : Int → List Int) (may : Int → Bool) (from' to : Int) (n : Nat) : Option (List Int) :=
  if from' ∉ vs ∨ to ∉ vs then some [] else if from' = to then some [from'] else match bfs near may to n [(from', from')] [from'] with
    | some none => some []
    | some (some A) => (backF A from' n to).map fun l => (to :: l).reverse
    | none => none

end Go.Proofs.YtomfeddgeihipaaGreat.Aw

namespace Go.Proofs.YtomfeddgeihipaaGreat.Aw
open Go Go.RowKit Go.Proofs.YtomfeddgeihipaaGreat.Pl
set_option linter.unusedSimpArgs false
set_option linter.unusedVariables false

/-- Found ones, and at which place the one stands that led there. -/
abbrev Fnd := List (Int × Nat)
def scanR1 (k : Nat) (F : Fnd) (w : Int) : Fnd := if w ∈ F.map (·.1) then F else F ++ [(w, k)]
def scanR (k : Nat) (F : Fnd) (row : List Int) : Fnd := row.foldl (scanR1 k) F
theorem scanR_snoc (k : Nat) (F : Fnd) (row : List Int) (w : Int) : scanR k F (row ++ [w]) = scanR1 k (scanR k F row) w := by simp [scanR, List.foldl_append]
theorem scanR1_len (k : Nat) (F : Fnd) (w : Int) : F.length ≤ (scanR1 k F w).length ∧ (scanR1 k F w).length ≤ F.length + 1 := by
  unfold scanR1; split <;> simp
theorem scanR_len (k : Nat) (F : Fnd) (row : List Int) : F.length ≤ (scanR k F row).length ∧ (scanR k F row).length ≤ F.length + row.length := by
  induction row generalizing F with
  | nil => simp [scanR]
  | cons w row ih =>
    have h1 := scanR1_len k F w
    have h2 := ih (scanR1 k F w)
    simp only [scanR, List.foldl_cons, List.length_cons] at h2 ⊢
    omega
def fAt (F : Fnd) (k : Nat) : Int := (F.getD k (0, 0)).1
def pAt (F : Fnd) (k : Nat) : Nat := (F.getD k (0, 0)).2
/-- Who led there stands ahead. -/
def Par (F : Fnd) : Prop := ∀ k, 0 < k → k < F.length → pAt F k < k
theorem getD_append_lt {α : Type} (a b : List α) (d : α) {k : Nat} (h : k < a.length) : (a ++ b).getD k d = a.getD k d := by
  rw [List.getD_eq_getElem?_getD, List.getD_eq_getElem?_getD, List.getElem?_append_left h]
theorem Par.scan1 {F : Fnd} (h : Par F) {k : Nat} (hk : k < F.length) (w : Int) : Par (scanR1 k F w) := by
  unfold scanR1
  split
  · exact h
  · intro j h0 hj
    rw [List.length_append, List.length_singleton] at hj
    by_cases hj2 : j < F.length
    · unfold pAt; rw [getD_append_lt _ _ _ hj2]; exact h j h0 hj2
    · have : j = F.length := by omega
      subst this
      unfold pAt
      simp
      exact hk
theorem Par.scan {F : Fnd} (h : Par F) {k : Nat} (hk : k < F.length) (row : List Int) : Par (scanR k F row) := by
  induction row generalizing F with
  | nil => exact h
  | cons w row ih =>
    exact ih (h.scan1 hk w) (Nat.lt_of_lt_of_le hk (scanR1_len k F w).1)

def refRun (near : Int → List Int) (may : Int → Bool) (to : Int) : Nat → Nat → Fnd → Option (Option (Fnd × Nat))
  | 0, k, F => if k < F.length then none else some none
  | n + 1, k, F => if k < F.length then
      if fAt F k = to then some (some (F, k)) else if k = 0 ∨ may (fAt F k) = true then refRun near may to n (k + 1) (scanR k F (near (fAt F k))) else refRun near may to n (k + 1) F
    else some none
/-- From a place back to the first one. -/
def chainF (F : Fnd) : Nat → Nat → List Int
  | 0, _ => []
  | m + 1, k => if k = 0 then [] else fAt F k :: chainF F m (pAt F k)
def refPath (vs : List Int) (near : Int → List Int) (may : Int → Bool) (from' to : Int) (n : Nat) : Option (List Int) :=
  if from' ∉ vs ∨ to ∉ vs then some [] else match refRun near may to n 0 [(from', 0)] with
    | some none => some []
    | some (some (F, k)) => some (from' :: (chainF F k k).reverse)
    | none => none

end Go.Proofs.YtomfeddgeihipaaGreat.Aw

namespace Go.Proofs.YtomfeddgeihipaaGreat.Aw
open Go Go.RowKit Go.Proofs.YtomfeddgeihipaaGreat.Pl
set_option linter.unusedSimpArgs false
set_option linter.unusedVariables false

structure FG (from' : Int) (F : Fnd) : Prop where
  pos : 0 < F.length
  hd : F.getD 0 (0, 0) = (from', 0)
  par : ∀ k, k < F.length → pAt F k < F.length ∧ (0 < k → pAt F k < k)
  nd : (F.map (·.1)).Nodup
def led (F : Fnd) : Led := F.map fun p => (p.1, fAt F p.2)
theorem led_keys (F : Fnd) : (led F).map (·.1) = F.map (·.1) := by simp [led, List.map_map]
theorem fAt_append {F D : Fnd} {k : Nat} (h : k < F.length) : fAt (F ++ D) k = fAt F k := by unfold fAt; rw [getD_append_lt _ _ _ h]
theorem pAt_append {F D : Fnd} {k : Nat} (h : k < F.length) : pAt (F ++ D) k = pAt F k := by unfold pAt; rw [getD_append_lt _ _ _ h]
theorem at_last (F : Fnd) (p : Int × Nat) : fAt (F ++ [p]) F.length = p.1 ∧ pAt (F ++ [p]) F.length = p.2 := by
  unfold fAt pAt; simp
theorem mem_at {F : Fnd} {p : Int × Nat} (h : p ∈ F) : ∃ k, k < F.length ∧ fAt F k = p.1 ∧ pAt F k = p.2 := by
  obtain ⟨k, hk, e⟩ := List.getElem_of_mem h
  refine ⟨k, hk, ?_, ?_⟩
  · unfold fAt; rw [List.getD_eq_getElem?_getD, List.getElem?_eq_getElem hk, e]; rfl
  · unfold pAt; rw [List.getD_eq_getElem?_getD, List.getElem?_eq_getElem hk, e]; rfl
theorem at_mem {F : Fnd} {k : Nat} (h : k < F.length) : fAt F k ∈ F.map (·.1) := by
  unfold fAt
  rw [List.getD_eq_getElem?_getD, List.getElem?_eq_getElem h]
  exact List.mem_map.2 ⟨F[k], List.getElem_mem _, rfl⟩
theorem FG.snoc {from' : Int} {F : Fnd} (h : FG from' F) {w : Int} {k : Nat} (hw : w ∉ F.map (·.1)) (hk : k < F.length) : FG from' (F ++ [(w, k)]) := by
  refine ⟨by simp, by rw [getD_append_lt _ _ _ h.pos]; exact h.hd, fun j hj => ?_, ?_⟩
  · rw [List.length_append, List.length_singleton] at hj ⊢
    by_cases hj2 : j < F.length
    · rw [pAt_append hj2]; have := h.par j hj2; exact ⟨by omega, this.2⟩
    · obtain rfl : j = F.length := by omega
      rw [(at_last F (w, k)).2]; simp only; omega
  · rw [List.map_append, List.nodup_append]
    exact ⟨h.nd, by simp, fun a ha b hb => by simp at hb; subst hb; rintro rfl; exact hw ha⟩
theorem led_snoc {from' : Int} {F : Fnd} (h : FG from' F) {w : Int} {k : Nat} (hk : k < F.length) : led (F ++ [(w, k)]) = led F ++ [(w, fAt F k)] := by
  unfold led
  rw [List.map_append]
  congr 1
  · refine List.map_congr_left fun p hp => ?_
    obtain ⟨j, hj, e1, e2⟩ := mem_at hp
    have := (h.par j hj).1
    rw [e2] at this
    rw [fAt_append this]
  · simp [fAt_append hk]
theorem scanR_pre (k : Nat) (F : Fnd) (row : List Int) : ∃ D, scanR k F row = F ++ D := by
  induction row generalizing F with
  | nil => exact ⟨[], by simp [scanR]⟩
  | cons w row ih =>
    obtain ⟨D, hD⟩ := ih (scanR1 k F w)
    simp only [scanR, List.foldl_cons] at hD ⊢
    unfold scanR1 at hD ⊢
    split at hD
    · rename_i h; rw [if_pos h]; exact ⟨D, hD⟩
    · rename_i h; rw [if_neg h]; exact ⟨(w, k) :: D, by rw [hD]; simp⟩

theorem scan_rel {from' to v : Int} {may : Int → Bool} {k : Nat} (row : List Int) : ∀ (F : Fnd) (Q : List Int), FG from' F → k < F.length → fAt F k = v → to ∉ F.map (·.1) →
    ∃ D, scanR k F row = F ++ D ∧ FG from' (F ++ D) ∧ (∀ p ∈ D, p.1 ∈ row) ∧
      (to ∉ row → scanL may to v ⟨led F, Q, false⟩ row = ⟨led (F ++ D), Q ++ (D.map (·.1)).filter may, false⟩) ∧
      (to ∈ row → (scanL may to v ⟨led F, Q, false⟩ row).hit = true ∧ ∃ D1 D2, D = D1 ++ D2 ∧ (scanL may to v ⟨led F, Q, false⟩ row).A = led (F ++ D1) ∧ to ∈ D1.map (·.1) ∧ FG from' (F ++ D1)) := by
  induction row with
  | nil => intro F Q h hk hv ht; exact ⟨[], by simp [scanR], by simpa using h, by simp, fun _ => by simp [scanL], fun h => by simp at h⟩
  | cons w row ih =>
    intro F Q h hk hv ht
    by_cases hw : w ∈ F.map (·.1)
    · obtain ⟨D, h1, h2, h3, h4, h5⟩ := ih F Q h hk hv ht
      have hwt : ¬ w = to := fun e => ht (e ▸ hw)
      have e1 : scanR k F (w :: row) = scanR k F row := by simp only [scanR, List.foldl_cons]; congr 1; unfold scanR1; rw [if_pos hw]
      have e2 : scanL may to v ⟨led F, Q, false⟩ (w :: row) = scanL may to v ⟨led F, Q, false⟩ row := by
        simp only [scanL, List.foldl_cons]; congr 1; unfold scan1; rw [if_neg (by simp), if_pos (by rw [led_keys]; exact hw)]
      refine ⟨D, by rw [e1]; exact h1, h2, fun p hp => List.mem_cons_of_mem _ (h3 p hp), fun hno => ?_, fun hin => ?_⟩
      · rw [e2]; exact h4 fun h => hno (List.mem_cons_of_mem _ h)
      · rw [e2]
        rcases List.mem_cons.1 hin with e | hin
        · exact absurd e.symm hwt
        · exact h5 hin
    · have e1 : scanR k F (w :: row) = scanR k (F ++ [(w, k)]) row := by simp only [scanR, List.foldl_cons]; congr 1; unfold scanR1; rw [if_neg hw]
      have hls : led F ++ [(w, v)] = led (F ++ [(w, k)]) := by rw [led_snoc h hk, hv]
      have hg := h.snoc hw hk
      by_cases hwt : w = to
      · subst hwt
        have e2 : scanL may w v ⟨led F, Q, false⟩ (w :: row) = ⟨led (F ++ [(w, k)]), Q, true⟩ := by
          have : scan1 may w v ⟨led F, Q, false⟩ w = ⟨led (F ++ [(w, k)]), Q, true⟩ := by unfold scan1; rw [if_neg (by simp), if_neg (by rw [led_keys]; exact hw), if_pos rfl, hls]
          have h2 := scanL_hit may w v (S := ⟨led (F ++ [(w, k)]), Q, true⟩) rfl row
          simp only [scanL, List.foldl_cons] at h2 ⊢
          rw [this]; exact h2
        obtain ⟨D, hD⟩ := scanR_pre k (F ++ [(w, k)]) row
        have hall : FG from' (F ++ [(w, k)] ++ D) ∧ ∀ p ∈ D, p.1 ∈ row := by
          rw [← hD]
          clear e1 e2 hls hv
          have : ∀ (row : List Int) (G : Fnd), FG from' G → k < G.length → FG from' (scanR k G row) ∧ ∀ D, scanR k G row = G ++ D → ∀ p ∈ D, p.1 ∈ row := by
            intro row
            induction row with
            | nil => intro G h1 h2; exact ⟨h1, fun D hD p hp => by simp [scanR] at hD; subst hD; simp at hp⟩
            | cons x row ih2 =>
              intro G h1 h2
              by_cases hx : x ∈ G.map (·.1)
              · have e : scanR k G (x :: row) = scanR k G row := by simp only [scanR, List.foldl_cons]; congr 1; unfold scanR1; rw [if_pos hx]
                rw [e]
                obtain ⟨a1, a2⟩ := ih2 G h1 h2
                exact ⟨a1, fun D hD p hp => List.mem_cons_of_mem _ (a2 D hD p hp)⟩
              · have e : scanR k G (x :: row) = scanR k (G ++ [(x, k)]) row := by simp only [scanR, List.foldl_cons]; congr 1; unfold scanR1; rw [if_neg hx]
                rw [e]
                obtain ⟨a1, a2⟩ := ih2 (G ++ [(x, k)]) (h1.snoc hx h2) (by simp; omega)
                refine ⟨a1, fun D hD p hp => ?_⟩
                obtain ⟨D', hD'⟩ := scanR_pre k (G ++ [(x, k)]) row
                rw [hD', List.append_assoc] at hD
                have := List.append_cancel_left hD
                subst this
                rcases List.mem_append.1 hp with hp | hp
                · rw [List.mem_singleton] at hp; subst hp; simp
                · exact List.mem_cons_of_mem _ (a2 D' hD' p hp)
          obtain ⟨a1, a2⟩ := this row _ hg (by simp; omega)
          exact ⟨a1, a2 D hD⟩
        refine ⟨(w, k) :: D, by rw [e1, hD]; simp, by have := hall.1; simpa using this, fun p hp => ?_, fun hno => absurd (by simp) hno, fun _ => ⟨by rw [e2], [(w, k)], D, rfl, by rw [e2], by simp, hg⟩⟩
        rcases List.mem_cons.1 hp with rfl | hp
        · simp
        · exact List.mem_cons_of_mem _ (hall.2 p hp)
      · have e2 : scanL may to v ⟨led F, Q, false⟩ (w :: row) = scanL may to v ⟨led (F ++ [(w, k)]), Q ++ [w].filter may, false⟩ row := by
          have : scan1 may to v ⟨led F, Q, false⟩ w = ⟨led (F ++ [(w, k)]), Q ++ [w].filter may, false⟩ := by
            unfold scan1
            rw [if_neg (by simp), if_neg (by rw [led_keys]; exact hw), if_neg hwt, hls]
            by_cases hm : may w = true <;> simp [hm]
          simp only [scanL, List.foldl_cons]
          rw [this]
        obtain ⟨D, h1, h2, h3, h4, h5⟩ := ih (F ++ [(w, k)]) (Q ++ [w].filter may) hg (by simp; omega) (by rw [fAt_append hk]; exact hv) (by
          rw [List.map_append, List.mem_append]; rintro (h | h)
          · exact ht h
          · simp at h; exact hwt h.symm)
        refine ⟨(w, k) :: D, by rw [e1, h1]; simp, by simpa using h2, fun p hp => ?_, fun hno => ?_, fun hin => ?_⟩
        · rcases List.mem_cons.1 hp with rfl | hp
          · simp
          · exact List.mem_cons_of_mem _ (h3 p hp)
        · rw [e2, h4 fun h => hno (List.mem_cons_of_mem _ h)]
          have e3 : ((w, k) :: D).map (·.1) = [w] ++ D.map (·.1) := rfl
          rw [e3, List.filter_append, List.append_assoc, List.append_assoc]
          rfl
        · rw [e2]
          obtain ⟨k1, D1, D2, k2, k3, k4, k5⟩ := h5 (by rcases List.mem_cons.1 hin with e | hin; exact absurd e.symm hwt; exact hin)
          exact ⟨k1, (w, k) :: D1, D2, by rw [k2]; rfl, by rw [k3]; simp, by simp only [List.map_cons, List.mem_cons]; exact .inr k4, by simpa using k5⟩

end Go.Proofs.YtomfeddgeihipaaGreat.Aw

namespace Go.Proofs.YtomfeddgeihipaaGreat.Aw
open Go Go.RowKit Go.Proofs.YtomfeddgeihipaaGreat.Pl
set_option linter.unusedSimpArgs false
set_option linter.unusedVariables false

theorem bfs_up {near : Int → List Int} {may : Int → Bool} {to : Int} : ∀ {n : Nat} {A : Led} {Q : List Int} {r : Option Led}, bfs near may to n A Q = some r → bfs near may to (n + 1) A Q = some r
  | n, A, [], r, h => by
    cases n <;> (simp only [bfs] at h ⊢; exact h)
  | 0, A, v :: Q, r, h => by simp [bfs] at h
  | n + 1, A, v :: Q, r, h => by
    rw [bfs] at h ⊢
    split at h
    · rename_i hh; rw [if_pos hh]; exact h
    · rename_i hh; rw [if_neg hh]; exact bfs_up h

/-- The one sought stands among the found ones: it is come to. -/
theorem found_rel {near : Int → List Int} {may : Int → Bool} {from' to : Int} {p : Nat} : ∀ (n k : Nat) (F : Fnd) (R : Option (Fnd × Nat)), FG from' F → k ≤ p → p < F.length → fAt F p = to → refRun near may to n k F = some R →
    ∃ D, R = some (F ++ D, p) ∧ FG from' (F ++ D) ∧ p + 1 ≤ k + n := by
  intro n
  induction n with
  | zero => intro k F R h hk hp hf hr; simp only [refRun, if_pos (show k < F.length by omega)] at hr; cases hr
  | succ n ih =>
    intro k F R h hk hp hf hr
    simp only [refRun, if_pos (show k < F.length by omega)] at hr
    by_cases hkp : k = p
    · subst hkp
      rw [if_pos hf] at hr
      injection hr with hr
      subst hr
      exact ⟨[], by simp, by simpa using h, by omega⟩
    · have hne : ¬ fAt F k = to := by
        intro e
        have hnd := h.nd
        have h1 : (F.map (·.1))[k]'(by simp; omega) = (F.map (·.1))[p]'(by simp; omega) := by
          have e1 : fAt F k = F[k].1 := by unfold fAt; rw [List.getD_eq_getElem?_getD, List.getElem?_eq_getElem (by omega)]; rfl
          have e2 : fAt F p = F[p].1 := by unfold fAt; rw [List.getD_eq_getElem?_getD, List.getElem?_eq_getElem (by omega)]; rfl
          rw [List.getElem_map, List.getElem_map, ← e1, ← e2, e, hf]
        have := (List.pairwise_iff_getElem.1 hnd) k p (by simp; omega) (by simp; omega) (by omega)
        exact this h1
      rw [if_neg hne] at hr
      split at hr
      · have hkl : k < F.length := by omega
        obtain ⟨D, h1, h2⟩ := (show ∃ D, scanR k F (near (fAt F k)) = F ++ D ∧ FG from' (F ++ D) by
          have : ∀ (row : List Int) (G : Fnd), FG from' G → k < G.length → ∃ D, scanR k G row = G ++ D ∧ FG from' (G ++ D) := by
            intro row
            induction row with
            | nil => intro G h1 h2; exact ⟨[], by simp [scanR], by simpa using h1⟩
            | cons x row ih2 =>
              intro G h1 h2
              by_cases hx : x ∈ G.map (·.1)
              · have e : scanR k G (x :: row) = scanR k G row := by simp only [scanR, List.foldl_cons]; congr 1; unfold scanR1; rw [if_pos hx]
                rw [e]; exact ih2 G h1 h2
              · have e : scanR k G (x :: row) = scanR k (G ++ [(x, k)]) row := by simp only [scanR, List.foldl_cons]; congr 1; unfold scanR1; rw [if_neg hx]
                rw [e]
                obtain ⟨D, a1, a2⟩ := ih2 (G ++ [(x, k)]) (h1.snoc hx h2) (by simp; omega)
                exact ⟨(x, k) :: D, by rw [a1]; simp, by simpa using a2⟩
          exact this _ F h hkl)
        rw [h1] at hr
        obtain ⟨D2, k1, k2, k3⟩ := ih (k + 1) (F ++ D) R h2 (by omega) (by simp; omega) (by rw [fAt_append hp]; exact hf) hr
        exact ⟨D ++ D2, by rw [k1]; simp, by simpa using k2, by omega⟩
      · obtain ⟨D2, k1, k2, k3⟩ := ih (k + 1) F R h (by omega) hp hf hr
        exact ⟨D2, k1, k2, by omega⟩

/-- What both searches have come to. -/
def SamePQ (from' to : Int) (n : Nat) (R : Option (Fnd × Nat)) (R' : Option Led) : Prop :=
  (R = none ∧ R' = none) ∨ ∃ F1 D p, R = some (F1 ++ D, p) ∧ R' = some (led F1) ∧ FG from' F1 ∧ p < F1.length ∧ fAt F1 p = to ∧ p + 1 ≤ n

theorem run_rel {near : Int → List Int} {may : Int → Bool} {from' to : Int} : ∀ (n k : Nat) (F : Fnd) (R : Option (Fnd × Nat)), FG from' F → 0 < k → k ≤ F.length → to ∉ F.map (·.1) → refRun near may to n k F = some R →
    ∃ R', bfs near may to n (led F) (((F.drop k).map (·.1)).filter may) = some R' ∧ SamePQ from' to (k + n) R R' := by
  intro n
  induction n with
  | zero =>
    intro k F R h hk hkF ht hr
    simp only [refRun] at hr
    split at hr
    · cases hr
    · have : F.drop k = [] := List.drop_eq_nil_of_le (by omega)
      rw [this]
      injection hr with hr
      exact ⟨none, by simp [bfs], .inl ⟨hr.symm, rfl⟩⟩
  | succ n ih =>
    intro k F R h hk hkF ht hr
    by_cases hlt : k < F.length
    rotate_left
    · simp only [refRun, if_neg hlt, Option.some.injEq] at hr
      have : F.drop k = [] := List.drop_eq_nil_of_le (by omega)
      rw [this]
      exact ⟨none, by simp [bfs], .inl ⟨hr.symm, rfl⟩⟩
    simp only [refRun, if_pos hlt] at hr
    have hne : ¬ fAt F k = to := fun e => ht (e ▸ at_mem hlt)
    rw [if_neg hne] at hr
    have hdr : (F.drop k).map (·.1) = fAt F k :: (F.drop (k + 1)).map (·.1) := by
      rw [List.drop_eq_getElem_cons hlt, List.map_cons]
      congr 1
      unfold fAt; rw [List.getD_eq_getElem?_getD, List.getElem?_eq_getElem hlt]; rfl
    by_cases hm : may (fAt F k) = true
    rotate_left
    · rw [if_neg (by rintro (h1 | h1); omega; exact hm h1)] at hr
      obtain ⟨R', h1, h2⟩ := ih (k + 1) F R h (by omega) (by omega) ht hr
      rw [hdr, List.filter_cons_of_neg (by simpa using hm)]
      exact ⟨R', bfs_up h1, by rw [show k + (n + 1) = k + 1 + n by omega]; exact h2⟩
    · rw [if_pos (.inr hm)] at hr
      rw [hdr, List.filter_cons_of_pos (by simpa using hm), bfs]
      obtain ⟨D, h1, h2, h3, h4, h5⟩ := scan_rel (may := may) (near (fAt F k)) F (((F.drop (k + 1)).map (·.1)).filter may) h hlt rfl ht
      by_cases hin : to ∈ near (fAt F k)
      · obtain ⟨g1, D1, D2, g2, g3, g4, g5⟩ := h5 hin
        rw [if_pos g1, g3]
        refine ⟨_, rfl, ?_⟩
        rw [h1, g2, ← List.append_assoc] at hr
        obtain ⟨x, hx, hx1⟩ := List.mem_map.1 g4
        obtain ⟨p, hp, e1, _⟩ := mem_at (F := F ++ D1) (p := x) (List.mem_append_right _ hx)
        have hpk : k + 1 ≤ p := by
          rcases Nat.lt_or_ge p (k + 1) with h' | h'
          · exfalso
            rw [fAt_append (by omega)] at e1
            exact ht (by rw [← hx1, ← e1]; exact at_mem (by omega))
          · exact h'
        have h2' : FG from' (F ++ D1 ++ D2) := by rw [List.append_assoc, ← g2]; exact h2
        obtain ⟨D3, k1, k2, k3⟩ := found_rel n (k + 1) (F ++ D1 ++ D2) R h2' hpk (by rw [List.length_append]; omega) (by rw [fAt_append hp, e1, hx1]) hr
        exact .inr ⟨F ++ D1, D2 ++ D3, p, by rw [k1, List.append_assoc], rfl, g5, hp, by rw [e1, hx1], by omega⟩
      · have e := h4 hin
        rw [e]
        simp only [Bool.false_eq_true, if_false]
        rw [h1] at hr
        have ht2 : to ∉ (F ++ D).map (·.1) := by
          rw [List.map_append, List.mem_append]
          rintro (h | h)
          · exact ht h
          · obtain ⟨p, hp, rfl⟩ := List.mem_map.1 h; exact hin (h3 p hp)
        obtain ⟨R', k1, k2⟩ := ih (k + 1) (F ++ D) R h2 (by omega) (by rw [List.length_append]; omega) ht2 hr
        refine ⟨R', ?_, by rw [show k + (n + 1) = k + 1 + n by omega]; exact k2⟩
        rw [← k1, List.drop_append_of_le_length (by omega), List.map_append, List.filter_append]

theorem led_at {from' : Int} {F : Fnd} (h : FG from' F) {k : Nat} (hk : k < F.length) : ledBy (led F) (fAt F k) = some (fAt F (pAt F k)) := by
  obtain ⟨w, hw⟩ := ledBy_some (A := led F) (v := fAt F k) (by rw [led_keys]; exact at_mem hk)
  rw [hw]
  have hm := ledBy_mem hw
  obtain ⟨p, hp, e⟩ := List.mem_map.1 hm
  injection e with e1 e2
  obtain ⟨j, hj, a1, a2⟩ := mem_at hp
  have : j = k := by
    have g1 : (F.map (·.1))[j]'(by simpa using hj) = (F.map (·.1))[k]'(by simpa using hk) := by
      have b1 : fAt F k = F[k].1 := by unfold fAt; rw [List.getD_eq_getElem?_getD, List.getElem?_eq_getElem hk]; rfl
      have b2 : fAt F j = F[j].1 := by unfold fAt; rw [List.getD_eq_getElem?_getD, List.getElem?_eq_getElem hj]; rfl
      rw [List.getElem_map, List.getElem_map, ← b1, ← b2, a1, e1]
    exact (List.getElem_inj h.nd).1 g1
  subst this
  rw [← e2, a2]
theorem fAt_zero {from' : Int} {F : Fnd} (h : FG from' F) : fAt F 0 = from' ∧ pAt F 0 = 0 := by
  unfold fAt pAt; rw [h.hd]; exact ⟨rfl, rfl⟩
/-- The way back by the vertices is the way back by the places. -/
theorem back_rel {from' : Int} {F : Fnd} (h : FG from' F) : ∀ (m k n j : Nat), k ≤ m → k ≤ n → k ≤ j → k < F.length → ∃ l, backF (led F) from' n (fAt F k) = some l ∧ fAt F k :: l = chainF F j k ++ [from'] := by
  intro m
  induction m with
  | zero =>
    intro k n j hm hn hj hk
    obtain rfl : k = 0 := by omega
    have := (fAt_zero h).1
    refine ⟨[], ?_, ?_⟩
    · cases n <;> simp [backF, this]
    · cases j <;> simp [chainF, this]
  | succ m ih =>
    intro k n j hm hn hj hk
    by_cases hk0 : k = 0
    · exact ih k n j (by omega) hn hj hk
    cases n with
    | zero => omega
    | succ n =>
    cases j with
    | zero => omega
    | succ j =>
    have hp := (h.par k hk).2 (by omega)
    obtain ⟨l, h1, h2⟩ := ih (pAt F k) n j (by omega) (by omega) (by omega) (by omega)
    have hne : ¬ fAt F k = from' := by
      intro e
      have hz := (fAt_zero h).1
      have g1 : (F.map (·.1))[0]'(by simpa using h.pos) = (F.map (·.1))[k]'(by simpa using hk) := by
        have b1 : fAt F k = F[k].1 := by unfold fAt; rw [List.getD_eq_getElem?_getD, List.getElem?_eq_getElem hk]; rfl
        have b2 : fAt F 0 = (F[0]'h.pos).1 := by unfold fAt; rw [List.getD_eq_getElem?_getD, List.getElem?_eq_getElem h.pos]; rfl
        rw [List.getElem_map, List.getElem_map, ← b1, ← b2, e, hz]
      have := (List.getElem_inj h.nd).1 g1
      omega
    refine ⟨fAt F (pAt F k) :: l, ?_, ?_⟩
    · simp only [backF, if_neg hne, led_at h hk, Option.getD_some]
      rw [h1]; rfl
    · simp only [chainF, if_neg hk0, List.cons_append]
      rw [← h2]
theorem chain_pre {from' : Int} {F D : Fnd} (h : FG from' F) : ∀ (j k : Nat), k < F.length → chainF (F ++ D) j k = chainF F j k
  | 0, _, _ => rfl
  | j + 1, k, hk => by
    simp only [chainF]
    rw [fAt_append hk, pAt_append hk, chain_pre h j _ (h.par k hk).1]

theorem path_same {vs : List Int} {near : Int → List Int} {may : Int → Bool} {from' to : Int} {n : Nat} {l : List Int} (h : refPath vs near may from' to n = some l) (hn : 0 < n) : pathF vs near may from' to n = some l := by
  unfold refPath at h
  unfold pathF
  split
  · rename_i hv
    rw [if_pos hv] at h; exact h
  · rename_i hv
    rw [if_neg hv] at h
    have h0 : FG from' [(from', 0)] := ⟨by simp, rfl, fun k hk => by simp at hk; subst hk; simp [pAt], by simp⟩
    obtain ⟨n, rfl⟩ : ∃ m, n = m + 1 := ⟨n - 1, by omega⟩
    by_cases hft : from' = to
    · rw [if_pos hft]
      have : refRun near may to (n + 1) 0 [(from', 0)] = some (some ([(from', 0)], 0)) := by
        simp [refRun, fAt, hft]
      rw [this] at h
      simpa [chainF] using h
    · rw [if_neg hft]
      have h1 : refRun near may to (n + 1) 0 [(from', 0)] = refRun near may to n 1 (scanR 0 [(from', 0)] (near from')) := by
        simp [refRun, fAt, hft]
      have h2 : led [(from', 0)] = [(from', from')] := by simp [led, fAt]
      have hto : to ∉ ([(from', 0)] : Fnd).map (·.1) := by simpa using fun e : to = from' => hft e.symm
      obtain ⟨D, g1, g2, g3, g4, g5⟩ := scan_rel (may := may) (k := 0) (v := from') (to := to) (near from') [(from', 0)] [] h0 (by simp) rfl hto
      rw [h2] at g4 g5
      have fin : ∀ (F1 D : Fnd) (p : Nat), FG from' F1 → p < F1.length → fAt F1 p = to → p ≤ n + 1 → ∃ l', backF (led F1) from' (n + 1) to = some l' ∧ (to :: l').reverse = from' :: (chainF (F1 ++ D) p p).reverse := by
        intro F1 D p f1 f2 f3 f4
        obtain ⟨l', e1, e2⟩ := back_rel f1 p p (n + 1) p (Nat.le_refl _) f4 (Nat.le_refl _) f2
        rw [f3] at e1 e2
        exact ⟨l', e1, by rw [e2, chain_pre f1 p p f2]; simp⟩
      cases hr : refRun near may to (n + 1) 0 [(from', 0)] with
      | none => rw [hr] at h; cases h
      | some R =>
      rw [hr] at h
      rw [h1, g1] at hr
      rw [bfs]
      by_cases hin : to ∈ near from'
      · obtain ⟨k1, D1, D2, k2, k3, k4, k5⟩ := g5 hin
        rw [if_pos k1, k3]
        obtain ⟨x, hx, hx1⟩ := List.mem_map.1 k4
        obtain ⟨p, hp, e1, _⟩ := mem_at (F := [(from', 0)] ++ D1) (p := x) (List.mem_append_right _ hx)
        have hp1 : 1 ≤ p := by
          rcases Nat.eq_zero_or_pos p with h' | h'
          · subst h'; rw [(fAt_zero k5).1, hx1] at e1; exact absurd e1 hft
          · exact h'
        rw [k2, ← List.append_assoc] at hr
        have g2' : FG from' ([(from', 0)] ++ D1 ++ D2) := by rw [List.append_assoc, ← k2]; exact g2
        obtain ⟨D3, m1, m2, m3⟩ := found_rel n 1 _ R g2' hp1 (by rw [List.length_append]; omega) (by rw [fAt_append hp, e1, hx1]) hr
        subst m1
        simp only [Option.some.injEq] at h
        obtain ⟨l', a1, a2⟩ := fin _ (D2 ++ D3) p k5 hp (by rw [e1, hx1]) (by omega)
        simp only [a1, Option.map_some]
        rw [a2, ← h]
        simp only [List.append_assoc]
      · have e := g4 hin
        rw [e]
        simp only [Bool.false_eq_true, if_false]
        have ht2 : to ∉ ([(from', 0)] ++ D : Fnd).map (·.1) := by
          rw [List.map_append, List.mem_append]
          rintro (h | h)
          · exact hto h
          · obtain ⟨p, hp, rfl⟩ := List.mem_map.1 h; exact hin (g3 p hp)
        obtain ⟨R', m1, m2⟩ := run_rel n 1 _ R g2 (by omega) (by simp) ht2 hr
        have hd : ([(from', 0)] ++ D).drop 1 = D := rfl
        rw [hd] at m1
        rw [List.nil_append, m1]
        rcases m2 with ⟨rfl, rfl⟩ | ⟨F1, D', p, rfl, rfl, f1, f2, f3, f4⟩
        · exact h
        · simp only [Option.some.injEq] at h
          obtain ⟨l', a1, a2⟩ := fin F1 D' p f1 f2 f3 (by omega)
          simp only [a1, Option.map_some]
          rw [a2, ← h]

theorem refRun_some {vs : List Int} {near : Int → List Int} {may : Int → Bool} {from' to : Int} (hnear : ∀ v, ∀ w ∈ near v, w ∈ vs) : ∀ (n k : Nat) (F : Fnd), FG from' F → (∀ x ∈ F.map (·.1), x ∈ vs) → vs.length ≤ k + n → ∃ R, refRun near may to n k F = some R := by
  intro n
  induction n with
  | zero =>
    intro k F h hs hl
    have := List.Nodup.length_le_of_subset h.nd hs
    rw [List.length_map] at this
    exact ⟨none, by simp only [refRun]; rw [if_neg (by omega)]⟩
  | succ n ih =>
    intro k F h hs hl
    by_cases hlt : k < F.length
    · simp only [refRun, if_pos hlt]
      by_cases h1 : fAt F k = to
      · rw [if_pos h1]; exact ⟨_, rfl⟩
      · rw [if_neg h1]
        split
        · obtain ⟨D, g1, g2, g3⟩ := (show ∃ D : Fnd, scanR k F (near (fAt F k)) = F ++ D ∧ FG from' (F ++ D) ∧ ∀ p ∈ D, p.1 ∈ near (fAt F k) by
            have : ∀ (row : List Int) (G : Fnd), FG from' G → k < G.length → ∃ D : Fnd, scanR k G row = G ++ D ∧ FG from' (G ++ D) ∧ ∀ p ∈ D, p.1 ∈ row := by
              intro row
              induction row with
              | nil => intro G h1 h2; exact ⟨[], by simp [scanR], by simpa using h1, by simp⟩
              | cons x row ih2 =>
                intro G h1 h2
                by_cases hx : x ∈ G.map (·.1)
                · have e : scanR k G (x :: row) = scanR k G row := by simp only [scanR, List.foldl_cons]; congr 1; unfold scanR1; rw [if_pos hx]
                  rw [e]
                  obtain ⟨D, a1, a2, a3⟩ := ih2 G h1 h2
                  exact ⟨D, a1, a2, fun p hp => List.mem_cons_of_mem _ (a3 p hp)⟩
                · have e : scanR k G (x :: row) = scanR k (G ++ [(x, k)]) row := by simp only [scanR, List.foldl_cons]; congr 1; unfold scanR1; rw [if_neg hx]
                  rw [e]
                  obtain ⟨D, a1, a2, a3⟩ := ih2 (G ++ [(x, k)]) (h1.snoc hx h2) (by simp; omega)
                  refine ⟨(x, k) :: D, by rw [a1]; simp, by simpa using a2, fun p hp => ?_⟩
                  rcases List.mem_cons.1 hp with rfl | hp
                  · simp
                  · exact List.mem_cons_of_mem _ (a3 p hp)
            exact this _ F h hlt)
          rw [g1]
          refine ih (k + 1) (F ++ D) g2 (fun x hx => ?_) (by omega)
          rw [List.map_append, List.mem_append] at hx
          rcases hx with hx | hx
          · exact hs x hx
          · obtain ⟨p, hp, rfl⟩ := List.mem_map.1 hx; exact hnear _ _ (g3 p hp)
        · exact ih (k + 1) F h hs (by omega)
    · simp only [refRun, if_neg hlt]; exact ⟨_, rfl⟩
theorem refPath_some {vs : List Int} {near : Int → List Int} {may : Int → Bool} {from' to : Int} (hnear : ∀ v, ∀ w ∈ near v, w ∈ vs) {n : Nat} (hn : vs.length ≤ n) : ∃ l, refPath vs near may from' to n = some l := by
  unfold refPath
  split
  · exact ⟨_, rfl⟩
  · rename_i hv
    have hf : from' ∈ vs := by
      by_cases h : from' ∈ vs
      · exact h
      · exact absurd (.inl h) hv
    have h0 : FG from' [(from', 0)] := ⟨by simp, rfl, fun k hk => by simp at hk; subst hk; simp [pAt], by simp⟩
    obtain ⟨R, hR⟩ := refRun_some (may := may) (to := to) hnear n 0 [(from', 0)] h0 (by simpa using hf) (by omega)
    rw [hR]
    rcases R with _ | ⟨F, k⟩
    · exact ⟨_, rfl⟩
    · exact ⟨_, rfl⟩

end Go.Proofs.YtomfeddgeihipaaGreat.Aw

namespace Go.Proofs.YtomfeddgeihipaaGreat.Aw
open Go Go.RowKit Go.Proofs.YtomfeddgeihipaaGreat.Pl
set_option linter.unusedSimpArgs false
set_option linter.unusedVariables false

/-- None of these has it, and each less one is taken. -/
def IsFree (col : Int → Int) (l : List Int) (n : Nat) : Prop := 1 ≤ n ∧ (∀ u ∈ l, col u ≠ n) ∧ ∀ m : Nat, 1 ≤ m → m < n → ∃ u ∈ l, col u = m
theorem taken_le {col : Int → Int} {l : List Int} {k : Nat} (h : ∀ m : Nat, 1 ≤ m → m ≤ k → ∃ u ∈ l, col u = m) : k ≤ l.length := by
  have h1 : ((List.range k).map fun m : Nat => ((m + 1 : Nat) : Int)).Nodup := by
    rw [List.nodup_iff_pairwise_ne, List.pairwise_map]
    exact List.nodup_range.imp fun h e => h (by omega)
  have := List.Nodup.length_le_of_subset h1 (l₂ := l.map col) fun y hy => by
    obtain ⟨m, hm, rfl⟩ := List.mem_map.1 hy
    rw [List.mem_range] at hm
    obtain ⟨u, hu, e⟩ := h (m + 1) (by omega) (by omega)
    exact List.mem_map.2 ⟨u, hu, e⟩
  simpa using this

def FrI (l : List Int) (col : Int → Int) (M t k : Nat) (st : St) (fr : Frm) (s : St) : Prop :=
  fr 0 = .mp M ∧ fr 1 = .sl t l.length (us l) ∧ fr 5 = i k ∧ s = st ∧ ∀ m : Nat, 1 ≤ m → m ≤ k → ∃ u ∈ l, col u = m

attribute [simp] gq_goto gq_ret gq_normal gq_exit ak_code_goto ak_blk_goto ak_head_goto
theorem awp_weakG {P : Program} {N : Nat} {Q : AQ} {c : Code} {fr : Frm} {st : St} (I : Frm → St → Prop) (h0 : I fr st) (h : ∀ fr st, I fr st → AWp P N c Q fr st) : AWp P N c Q fr st := h _ _ h0


theorem free (l : List Int) (t M : Nat) (es : List (List Int × LV)) (col : Int → Int) (st : St) (hl : l.length ≤ 1000) (hM : st.H M = .map false [.u32] es) (hcol : ∀ u ∈ l, (mget es [u]).getD (i 0) = i (col u)) :
    ACalls Tryz.prog 104 [.mp M, .sl t l.length (us l)] st fun r st' => (∃ n, IsFree col l n ∧ n ≤ l.length + 1 ∧ r = i n) ∧ st' = st := by
  refine acalls_of_body tabOk Tryz.func104 rfl rfl Tryz.ntmps104 (rs := [.tmp 4]) rfl (by simp) ?_
  (repeat' (first | refine awp_seq ?_ | (refine w_e [] ?_; intro J hJ; simp only []; simp []; (refine hJ _ _ ?_; clear hJ J; simp only [ak, reduceIte]))))
  refine awp_scope_goto _ 0 (fun n fr s => ∃ k : Nat, n = l.length - k ∧ FrI l col M t k st fr s) rfl ?_ ?_
  · (repeat' (first | refine awp_seq ?_ | (refine w_e [] ?_; intro J hJ; simp only []; simp []; (refine hJ _ _ ?_; clear hJ J; simp only [ak, reduceIte]))))
    refine awp_label ?_
    simp only [ak]
    refine awp_weakG (FrI l col M t 0 st) ⟨by simp, by simp, by simp, rfl, fun m h1 h2 => by omega⟩ ?_
    rintro fr s ⟨f0, f1, f5, rfl, htk⟩
    obtain ⟨k, hk0⟩ : ∃ k : Nat, k = 0 := ⟨0, rfl⟩
    rw [← hk0] at f5 htk
    have hJG : ∀ (m : Nat) (fr' : Frm) (st' : St), (∃ k', m = l.length - k' ∧ k < k' ∧ FrI l col M t k' s fr' st') → ∃ n k', n = l.length - k' ∧ FrI l col M t k' s fr' st' := fun m _ _ ⟨k', h1, _, h3⟩ => ⟨m, k', h1, h3⟩
    have hkl : k ≤ l.length := taken_le htk
    have hw := nat_add_one k (by omega)
    (repeat' (first | refine awp_seq ?_ | refine awp_block ?_ | (refine w_e [] ?_; intro J hJ; simp only []; simp [f0, f1, f5, hw]; (refine hJ _ _ ?_; clear hJ J; simp only [ak, reduceIte]))))
    refine awp_range 12 11 13 21 (l.length) (fun j fr st2 => fr 0 = .mp M ∧ fr 1 = .sl t l.length (us l) ∧ fr 5 = i (k + 1 : Nat) ∧ fr 10 = .sl t l.length (us l) ∧ st2 = s ∧ ∀ u ∈ l.take j, col u ≠ (k + 1 : Nat)) ?_ ?_ ?_
    · exact ⟨by simp [f0], by simp [f1], by simp, by simp, rfl, by simp⟩
    · rintro j fr s hlt ⟨g0, g1, g5, g10, rfl, hno⟩ fi fn JO hJO
      have hd := us_drop_getD l j hlt
      have htk2 : l.take (j + 1) = l.take j ++ [l.getD j 0] := by
        rw [List.getD_eq_getElem?_getD, List.getElem?_eq_getElem hlt]; exact List.take_succ_eq_append_getElem hlt
      have hin : l.getD j 0 ∈ l := by
        rw [List.getD_eq_getElem?_getD, List.getElem?_eq_getElem hlt]; exact List.getElem_mem _
      generalize l.getD j 0 = v at *
      have hcv := hcol v hin
      by_cases hck : col v = (k + 1 : Nat)
      · have hck2 : (col v == ((k + 1 : Nat) : Int)) = true := by simpa using hck
        (repeat' (first | refine awp_seq ?_ | (refine awp_cond ?_; simp [g0, g10, g5, fi, fn, hd, hlt, hM, hcv, hck2, hck]) | (refine w_e [] ?_; intro J hJ; simp only []; simp [g0, g10, g5, fi, fn, hd, hlt, hM, hcv, hck2, hck]; (refine hJ _ _ ?_; clear hJ J; simp only [ak, reduceIte]))))
        refine awp_goto ?_
        simp only [ak, ak_head_goto, ak_blk_goto, ak_code_goto, gq_goto]
        have hnx : FrI l col M t (k + 1) s (upd (upd (upd (upd (upd (upd (upd (upd (upd fr 13 (bb true)) 14 (.ep (u v :: List.drop (j + 1) (List.map u l)))) 15 (u v)) 7 (u v)) 16 (.mp M)) 17 (u v)) 18 (i ((k : Int) + 1))) 19 (i ((k : Int) + 1))) 20 (bb true)) s := by
          refine ⟨by simp [g0], by simp [g1], by simp [g5], rfl, fun m h1 h2 => ?_⟩
          by_cases hm : m = k + 1
          · subst hm; exact ⟨v, hin, hck⟩
          · exact htk m h1 (by omega)
        exact hJG _ _ _ ⟨k + 1, rfl, by omega, hnx⟩
      · have hck2 : (col v == ((k + 1 : Nat) : Int)) = false := by simpa using hck
        have hck3 : (col v == (k : Int) + 1) = false := by simpa using hck
        have hck4 : ¬ col v = (k : Int) + 1 := by simpa using hck
        (repeat' (first | refine awp_seq ?_ | (refine awp_skip ?_; simp only [ak, reduceIte]) | (refine awp_cond ?_; simp [g0, g10, g5, fi, fn, hd, hlt, hM, hcv, hck2, hck, hck3, hck4]) | (refine w_e [] ?_; intro J hJ; simp only []; simp [g0, g10, g5, fi, fn, hd, hlt, hM, hcv, hck2, hck, hck3, hck4]; (refine hJ _ _ ?_; clear hJ J; simp only [ak, reduceIte]))))
        refine hJO _ _ (by simp [fi]) (by simp [fn]) ⟨by simp [g0], by simp [g1], by simp [g5], by simp [g10], rfl, fun w hw' => ?_⟩
        rw [htk2, List.mem_append, List.mem_singleton] at hw'
        rcases hw' with hw' | rfl
        · exact hno w hw'
        · exact hck
    · rintro fr s ⟨g0, g1, g5, g10, rfl, hno⟩
      rw [List.take_length] at hno
      (repeat' (first | refine awp_seq ?_ | (refine awp_ret ?_; simp only [ak, reduceIte]; simp [g5]) | (refine w_e [] ?_; intro J hJ; simp only []; simp [g5]; (refine hJ _ _ ?_; clear hJ J; simp only [ak, reduceIte]))))
      exact ⟨k + 1, ⟨by omega, hno, fun m h1 h2 => htk m h1 (by omega)⟩, by omega, by simp⟩
  · rintro n fr s ⟨k, rfl, f0, f1, f5, rfl, htk⟩ JG hJG0
    have hkl : k ≤ l.length := taken_le htk
    have hJG : ∀ (m : Nat) (fr' : Frm) (st' : St), (∃ k', m = l.length - k' ∧ k < k' ∧ FrI l col M t k' s fr' st') → JG fr' st' := fun m fr' st' ⟨k', h1, h2, h3⟩ => hJG0 m fr' st' (by have := taken_le h3.2.2.2.2; omega) ⟨k', h1, h3⟩
    have hkl : k ≤ l.length := taken_le htk
    have hw := nat_add_one k (by omega)
    (repeat' (first | refine awp_seq ?_ | refine awp_block ?_ | (refine awp_skip ?_; simp only [ak, reduceIte]) | (refine w_e [] ?_; intro J hJ; simp only []; simp [f0, f1, f5, hw]; (refine hJ _ _ ?_; clear hJ J; simp only [ak, reduceIte]))))
    refine awp_range 12 11 13 21 (l.length) (fun j fr st2 => fr 0 = .mp M ∧ fr 1 = .sl t l.length (us l) ∧ fr 5 = i (k + 1 : Nat) ∧ fr 10 = .sl t l.length (us l) ∧ st2 = s ∧ ∀ u ∈ l.take j, col u ≠ (k + 1 : Nat)) ?_ ?_ ?_
    · exact ⟨by simp [f0], by simp [f1], by simp, by simp, rfl, by simp⟩
    · rintro j fr s hlt ⟨g0, g1, g5, g10, rfl, hno⟩ fi fn JO hJO
      have hd := us_drop_getD l j hlt
      have htk2 : l.take (j + 1) = l.take j ++ [l.getD j 0] := by
        rw [List.getD_eq_getElem?_getD, List.getElem?_eq_getElem hlt]; exact List.take_succ_eq_append_getElem hlt
      have hin : l.getD j 0 ∈ l := by
        rw [List.getD_eq_getElem?_getD, List.getElem?_eq_getElem hlt]; exact List.getElem_mem _
      generalize l.getD j 0 = v at *
      have hcv := hcol v hin
      by_cases hck : col v = (k + 1 : Nat)
      · have hck2 : (col v == ((k + 1 : Nat) : Int)) = true := by simpa using hck
        (repeat' (first | refine awp_seq ?_ | (refine awp_cond ?_; simp [g0, g10, g5, fi, fn, hd, hlt, hM, hcv, hck2, hck]) | (refine w_e [] ?_; intro J hJ; simp only []; simp [g0, g10, g5, fi, fn, hd, hlt, hM, hcv, hck2, hck]; (refine hJ _ _ ?_; clear hJ J; simp only [ak, reduceIte]))))
        refine awp_goto ?_
        simp only [ak, ak_head_goto, ak_blk_goto, ak_code_goto, gq_goto]
        have hnx : FrI l col M t (k + 1) s (upd (upd (upd (upd (upd (upd (upd (upd (upd fr 13 (bb true)) 14 (.ep (u v :: List.drop (j + 1) (List.map u l)))) 15 (u v)) 7 (u v)) 16 (.mp M)) 17 (u v)) 18 (i ((k : Int) + 1))) 19 (i ((k : Int) + 1))) 20 (bb true)) s := by
          refine ⟨by simp [g0], by simp [g1], by simp [g5], rfl, fun m h1 h2 => ?_⟩
          by_cases hm : m = k + 1
          · subst hm; exact ⟨v, hin, hck⟩
          · exact htk m h1 (by omega)
        exact hJG _ _ _ ⟨k + 1, rfl, by omega, hnx⟩
      · have hck2 : (col v == ((k + 1 : Nat) : Int)) = false := by simpa using hck
        have hck3 : (col v == (k : Int) + 1) = false := by simpa using hck
        have hck4 : ¬ col v = (k : Int) + 1 := by simpa using hck
        (repeat' (first | refine awp_seq ?_ | (refine awp_skip ?_; simp only [ak, reduceIte]) | (refine awp_cond ?_; simp [g0, g10, g5, fi, fn, hd, hlt, hM, hcv, hck2, hck, hck3, hck4]) | (refine w_e [] ?_; intro J hJ; simp only []; simp [g0, g10, g5, fi, fn, hd, hlt, hM, hcv, hck2, hck, hck3, hck4]; (refine hJ _ _ ?_; clear hJ J; simp only [ak, reduceIte]))))
        refine hJO _ _ (by simp [fi]) (by simp [fn]) ⟨by simp [g0], by simp [g1], by simp [g5], by simp [g10], rfl, fun w hw' => ?_⟩
        rw [htk2, List.mem_append, List.mem_singleton] at hw'
        rcases hw' with hw' | rfl
        · exact hno w hw'
        · exact hck
    · rintro fr s ⟨g0, g1, g5, g10, rfl, hno⟩
      rw [List.take_length] at hno
      (repeat' (first | refine awp_seq ?_ | (refine awp_ret ?_; simp only [ak, reduceIte]; simp [g5]) | (refine w_e [] ?_; intro J hJ; simp only []; simp [g5]; (refine hJ _ _ ?_; clear hJ J; simp only [ak, reduceIte]))))
      exact ⟨k + 1, ⟨by omega, hno, fun m h1 h2 => htk m h1 (by omega)⟩, by omega, by simp⟩

end Go.Proofs.YtomfeddgeihipaaGreat.Aw

namespace Go.Proofs.YtomfeddgeihipaaGreat.Aw
open Go Go.RowKit Go.Proofs.YtomfeddgeihipaaGreat.Pl
set_option linter.unusedSimpArgs false
set_option linter.unusedVariables false

/-- A pair of ends as a map's key. -/
def kE (x : Ed) : List Int := [if x.b < x.a then x.b else x.a, if x.a < x.b then x.b else x.a]
theorem kE_iff (x y : Ed) : kE x = kE y ↔ bes x y = true := by
  rw [bes_iff]
  unfold kE
  simp only [List.cons.injEq, and_true]
  constructor
  · rintro ⟨h1, h2⟩
    split at h1 <;> split at h1 <;> split at h2 <;> split at h2 <;> omega
  · rintro (⟨h1, h2⟩ | ⟨h1, h2⟩)
    · rw [h1, h2]; exact ⟨rfl, rfl⟩
    · rw [h1, h2]
      constructor
      · split <;> split <;> omega
      · split <;> split <;> omega

def bnd (l : List Ed) : List (List Int) := (sE l).map fun y => (l.filter fun x => bes y x).map (·.id)
theorem bnd_len (l : List Ed) : (bnd l).length = (sE l).length := by simp [bnd]
theorem bnd_new {l : List Ed} {x : Ed} (h : (sE l).any (bes x) = false) : sE (l ++ [x]) = sE l ++ [x] ∧ bnd (l ++ [x]) = bnd l ++ [[x.id]] := by
  have h' : ∀ y ∈ sE l, bes x y = false := fun y hy => by
    cases hb : bes x y with
    | false => rfl
    | true => rw [List.any_eq_true.2 ⟨y, hy, hb⟩] at h; cases h
  have hs : sE (l ++ [x]) = sE l ++ [x] := by rw [sE_snoc, h]; rfl
  refine ⟨hs, ?_⟩
  unfold bnd
  rw [hs, List.map_append]
  congr 1
  · refine List.map_congr_left fun y hy => ?_
    have : bes y x = false := by
      cases hb : bes y x with
      | false => rfl
      | true => have := h' y hy; rw [bes_symm hb] at this; cases this
    rw [List.filter_append]
    simp [this]
  · have : l.filter (fun z => bes x z) = [] := by
      rw [List.filter_eq_nil_iff]
      intro z hz hb
      obtain ⟨y, hy, h2⟩ := sE_has l z hz
      have := h' y hy
      rw [bes_trans hb h2] at this; cases this
    simp [List.filter_append, this, bes_refl]
theorem bnd_old {l : List Ed} {x : Ed} (h : (sE l).any (bes x) = true) : sE (l ++ [x]) = sE l ∧ ∃ L1 y L2 B1 r B2, sE l = L1 ++ y :: L2 ∧ bes x y = true ∧ bnd l = B1 ++ r :: B2 ∧ B1.length = L1.length ∧ bnd (l ++ [x]) = B1 ++ (r ++ [x.id]) :: B2 ∧ r.length ≤ l.length := by
  have hs : sE (l ++ [x]) = sE l := by rw [sE_snoc, h]; rfl
  refine ⟨hs, ?_⟩
  obtain ⟨y, hy, hb⟩ := List.any_eq_true.1 h
  obtain ⟨L1, L2, hL⟩ := List.append_of_mem hy
  have hap := sE_apart l
  rw [hL, List.pairwise_append, List.pairwise_cons] at hap
  obtain ⟨_, ⟨p2, _⟩, p3⟩ := hap
  have hno : ∀ z, (z ∈ L1 ∨ z ∈ L2) → bes z x = false := by
    intro z hz
    cases hzx : bes z x with
    | false => rfl
    | true =>
      have hzy := bes_trans hzx hb
      rcases hz with hz | hz
      · have := p3 z hz y (by simp); rw [hzy] at this; cases this
      · have := p2 z hz; rw [bes_symm hzy] at this; cases this
  refine ⟨L1, y, L2, _, _, _, hL, hb, by unfold bnd; rw [hL, List.map_append, List.map_cons], by simp, ?_, ?_⟩
  · unfold bnd
    rw [hs, hL, List.map_append, List.map_cons]
    have e : ∀ L : List Ed, (∀ z ∈ L, bes z x = false) → L.map (fun y => ((l ++ [x]).filter fun x => bes y x).map (·.id)) = L.map fun y => (l.filter fun x => bes y x).map (·.id) := by
      intro L hL
      refine List.map_congr_left fun z hz => ?_
      rw [List.filter_append]
      simp [hL z hz]
    rw [e L1 fun z hz => hno z (.inl hz), e L2 fun z hz => hno z (.inr hz)]
    congr 2
    rw [List.filter_append]
    simp [bes_symm hb]
  · rw [List.length_map]; exact List.length_filter_le _ _

/-- The map of the bundles' places. -/
structure AtM (l : List Ed) (es : List (List Int × LV)) : Prop where
  old : ∀ x L1 y L2, sE l = L1 ++ y :: L2 → bes x y = true → mget es (kE x) = some (i L1.length)
  new : ∀ x, (sE l).any (bes x) = false → mget es (kE x) = none
theorem AtM.nil : AtM [] [] := ⟨fun x L1 y L2 h _ => by simp [sE] at h, fun x _ => rfl⟩
theorem AtM.keep {l : List Ed} {es : List (List Int × LV)} (h : AtM l es) {x : Ed} (hx : sE (l ++ [x]) = sE l) : AtM (l ++ [x]) es :=
  ⟨by rw [hx]; exact h.old, by rw [hx]; exact h.new⟩
theorem AtM.add {l : List Ed} {es : List (List Int × LV)} (h : AtM l es) {x : Ed} (hx : (sE l).any (bes x) = false) : AtM (l ++ [x]) (mset es (kE x) (i (sE l).length)) := by
  have hs := (bnd_new hx).1
  constructor
  · intro z L1 y L2 hL hb
    rw [hs] at hL
    rw [mget_mset]
    rcases List.eq_nil_or_concat L2 with rfl | ⟨L2', y', rfl⟩
    · have := List.append_inj' hL rfl
      obtain ⟨h1, h2⟩ := this
      simp only [List.cons.injEq, and_true] at h2
      subst h1 h2
      rw [if_pos ((kE_iff _ _).2 hb)]
    · rw [List.concat_eq_append, show L1 ++ y :: (L2' ++ [y']) = (L1 ++ y :: L2') ++ [y'] by simp] at hL
      obtain ⟨h1, h2⟩ := List.append_inj' hL rfl
      rw [if_neg, h.old z L1 y L2' h1 hb]
      intro hk
      have hxy := bes_trans (bes_symm ((kE_iff _ _).1 hk)) hb
      rw [List.any_eq_true.2 ⟨y, by rw [h1]; simp, hxy⟩] at hx
      cases hx
  · intro z hz
    rw [hs, List.any_append, Bool.or_eq_false_iff] at hz
    rw [mget_mset, if_neg, h.new z hz.1]
    intro hk
    have := (kE_iff _ _).1 hk
    simp [this] at hz

end Go.Proofs.YtomfeddgeihipaaGreat.Aw
