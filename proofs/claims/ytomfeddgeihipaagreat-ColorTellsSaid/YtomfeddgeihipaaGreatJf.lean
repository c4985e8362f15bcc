/- tree: root, split, Forest, Rest. tree.Forest, Rest; the document's with, Forest. block.back: the way back. block.Path: the way from one vertex to another one. Tables of counts: Sum. Tables of counts: Keys, Top. Tables of counts: Add. stat.Girth, stat.Degrees: contracts. Plain: the document's way from one vertex to another one. No program. Plain: both ways from one vertex to another one are the same. No program. Plain: both ways from one vertex to another one are the same: the searches. No program. The document's near vertices; edges beside each other. The document's way from one vertex to another one: the walk. A graph that may be, in words. No program. The law BlockPaths. tree.Ring, the document's Ring. The document's Ring. color.Order. color.Color, Count, Right. color.Right, Color; the law's same. The coloring chapter's example. The law ColorRight. -/
import Derived.Test.YtomfeddgeihipaaGreatJe
import Derived.Test.YtomfeddgeihipaaGreatAwZ
import Derived.Test.YtomfeddgeihipaaGreatAwRg
import Derived.Test.YtomfeddgeihipaaGreatAwMr4
import Derived.Test.YtomfeddgeihipaaGreatAwSet
import Derived.Test.YtomfeddgeihipaaGreatAwMr5
import Derived.Test.YtomfeddgeihipaaGreatAwAlt
import Derived.Test.YtomfeddgeihipaaGreatAwFz
import Derived.Test.YtomfeddgeihipaaGreatAwShp
namespace Go.Proofs.YtomfeddgeihipaaGreat.Aw
open Go Go.RowKit Go.Proofs.YtomfeddgeihipaaGreat.Pl
set_option linter.unusedSimpArgs false
set_option linter.unusedVariables false

theorem root (m : Nat) (mes : List (List Int × LV)) (vs : List Int) (I : List Ed) (U R : Int → Int) (d : Int → Nat) (v : Int) (st : St) (hM : st.H m = .map false [.u32] mes) (hU : UF vs I U R d) (hmes : ∀ v ∈ vs, mget mes [v] = some (u (U v))) (hv : v ∈ vs) :
    ACalls Tryz.prog 145 [.mp m, u v] st fun r st' => r = u (R v) ∧ st' = st := by
  refine acalls_of_body tabOk Tryz.func145 rfl rfl Tryz.ntmps145 (rs := [.tmp 4]) rfl (by simp) ?_
  (repeat' (first | refine awp_seq ?_ | refine awp_block ?_ | ((first | refine awp_skip ?_ | refine awp_exit ?_); simp only [ak, reduceIte]) | (refine awp_ret ?_; simp only [ak, reduceIte]; simp []) | (refine awp_cond ?_; simp []; (try with_reducible refine ⟨?_, ?_⟩) <;> (try with_reducible intro hc) <;> try (exfalso; omega)) | ((first | (refine w_e [] ?_; intro J hJ; simp only []) | (refine w_q ?_; intro J hJ) | refine e_go ?_); simp []; (repeat refine ca ?_); (try ((try with_reducible refine ⟨?_, ?_⟩) <;> (try with_reducible intro hnil) <;> refine hJ _ _ ?_ <;> clear hJ J <;> simp only [ak, reduceIte] <;> try subst hnil)))))
  refine awp_loop (fun n fr s => ∃ x, x ∈ vs ∧ R x = R v ∧ n = d x ∧ fr 0 = .mp m ∧ fr 1 = u x ∧ s = st) (d v) ⟨v, hv, rfl, rfl, by simp, by simp, rfl⟩ ?_
  rintro n fr s ⟨x, hx, hxr, rfl, f0, f1, rfl⟩ J hJ
  have hg := hmes x hx
  by_cases hux : U x = x
  · clear hJ
    have h1 := hU.top x hx hux
    have hb : (U x != x) = false := by simpa using hux
    have h2 : x = R v := by rw [← hxr, h1]
    (repeat' (first | refine awp_seq ?_ | refine awp_block ?_ | ((first | refine awp_skip ?_ | refine awp_exit ?_); simp only [ak, reduceIte]) | (refine awp_ret ?_; simp only [ak, reduceIte]; simp [f0, f1, hM, hg, hb, hux]) | (refine awp_cond ?_; simp [f0, f1, hM, hg, hb, hux]; (try with_reducible refine ⟨?_, ?_⟩) <;> (try with_reducible intro hc) <;> try (exfalso; omega)) | ((first | (refine w_e [] ?_; intro J hJ; simp only []) | (refine w_q ?_; intro J hJ) | refine e_go ?_); simp [f0, f1, hM, hg, hb, hux]; (repeat refine ca ?_); (try ((try with_reducible refine ⟨?_, ?_⟩) <;> (try with_reducible intro hnil) <;> refine hJ _ _ ?_ <;> clear hJ J <;> simp only [ak, reduceIte] <;> try subst hnil)))))
    exact h2
  · have hb : (U x != x) = true := by simpa using hux
    obtain ⟨g1, g2⟩ := hU.up x hx hux
    (repeat' (first | refine awp_seq ?_ | refine awp_block ?_ | ((first | refine awp_skip ?_ | refine awp_exit ?_); simp only [ak, reduceIte]) | (refine awp_ret ?_; simp only [ak, reduceIte]; simp [f0, f1, hM, hg, hb]) | (refine awp_cond ?_; simp [f0, f1, hM, hg, hb]; (try with_reducible refine ⟨?_, ?_⟩) <;> (try with_reducible intro hc) <;> try (exfalso; omega)) | ((first | (refine w_e [] ?_; intro J hJ; simp only []) | (refine w_q ?_; intro J hJ) | refine e_go ?_); simp [f0, f1, hM, hg, hb]; (repeat refine ca ?_); (try ((try with_reducible refine ⟨?_, ?_⟩) <;> (try with_reducible intro hnil) <;> refine hJ _ _ ?_ <;> clear hJ J <;> simp only [ak, reduceIte] <;> try subst hnil)))))
    exact hJ _ _ _ g2 ⟨U x, hU.inU x hx, by rw [g1]; exact hxr, rfl, by simp [f0], by simp, rfl⟩

def idsL (l : List Ed) : List Int := l.map (·.id)
@[simp] theorem idsL_len (l : List Ed) : (idsL l).length = l.length := by simp [idsL]
def OwnI (t : Nat) (lo : St) (n : Nat) (st : St) : Prop := t ≠ 0 ∧ lo.next ≤ t ∧ t < st.next ∧ st.H t = .own 41 1 n
theorem box_neW {st : St} {a b : Nat} {x y : LObj} (ha : st.H a = x) (hb : st.H b = y) (h : x ≠ y) : ¬ a = b := fun e => h (by rw [← ha, e, hb])
structure SpI (g : Gr) (st : St) (M : Nat) (E I Rs : List Ed) (t2 t3 : Nat) (mes : List (List Int × LV)) (s : St) : Prop where
  hM : s.H M = .map false [.u32] mes
  fo : IsFo E I Rs
  uf : ∃ U R d, UF g.vs I U R d ∧ ∀ v ∈ g.vs, mget mes [v] = some (u (U v))
  o2 : OwnI t2 st I.length s
  o3 : OwnI t3 st Rs.length s
  ne : t2 ≠ t3
  b : st.next ≤ M ∧ M < s.next
  kp : Keeps st s

set_option maxHeartbeats 2000000 in
theorem split (g : Gr) (st : St) (hg : Good g) (hv : g.vs.length ≤ 1000) (he : g.es.length ≤ 1000) (hp : 0 < st.next) :
    ACalls Tryz.prog 108 [.ag (grL g)] st fun r st' => (∃ I Rs, IsFo g.es I Rs ∧ r = .tu [.sl 0 (idsL I).length (us (idsL I)), .sl 0 (idsL Rs).length (us (idsL Rs))]) ∧ Keeps st st' := by
  refine acalls_z0 ?_
  have hel := eds_length g.es
  refine acalls_of_body tabOk Tryz.func108 rfl rfl Tryz.ntmps108 (rs := [.tmp 2, .tmp 3]) rfl (by simp) ?_
  (repeat' (first | refine awp_seq ?_ | refine awp_block ?_ | ((first | refine awp_skip ?_ | refine awp_exit ?_); simp only [ak, reduceIte]) | (refine awp_ret ?_; simp only [ak, reduceIte]; simp []) | (refine awp_cond ?_; simp []; (try with_reducible refine ⟨?_, ?_⟩) <;> (try with_reducible intro hc) <;> try (exfalso; omega)) | ((first | (refine w_e [] ?_; intro J hJ; simp only []) | (refine w_q ?_; intro J hJ) | refine e_go ?_); simp []; (repeat refine ca ?_); (try ((try with_reducible refine ⟨?_, ?_⟩) <;> (try with_reducible intro hnil) <;> refine hJ _ _ ?_ <;> clear hJ J <;> simp only [ak, reduceIte] <;> try subst hnil)))))
  refine awp_range 15 14 16 22 (g.vs.length) (fun j fr st2 => fr 1 = .pt st.next 0 ∧ fr 2 = .nil ∧ fr 3 = .nil ∧ fr 4 = .mp (st.next + 1) ∧ fr 13 = .sl 0 g.vs.length (us g.vs) ∧ st2.H st.next = .box 38 2 (grL g) ∧ st2.next = st.next + 2 ∧ Keeps st st2 ∧ ∃ mes, st2.H (st.next + 1) = .map false [.u32] mes ∧ ∀ v ∈ g.vs.take j, mget mes [v] = some (u v)) ?_ ?_ ?_
  · exact ⟨by simp, by simp, by simp, by simp, by simp, by simp, by simp, (Keeps.new _ _).trans (Keeps.new _ _), [], by simp, by simp⟩
  · rintro j fr s hlt ⟨f1, f2, f3, f4, f13, hG, hsn, hkp, mes, hM, hmes⟩ fi fn J hJ
    have hd := us_drop_getD g.vs j hlt
    have htk : g.vs.take (j + 1) = g.vs.take j ++ [g.vs.getD j 0] := by
      rw [List.getD_eq_getElem?_getD, List.getElem?_eq_getElem hlt]; exact List.take_succ_eq_append_getElem hlt
    generalize g.vs.getD j 0 = v at *
    (repeat' (first | refine awp_seq ?_ | refine awp_block ?_ | ((first | refine awp_skip ?_ | refine awp_exit ?_); simp only [ak, reduceIte]) | (refine awp_ret ?_; simp only [ak, reduceIte]; simp [f4, f13, fi, fn, hd, hlt, hM]) | (refine awp_cond ?_; simp [f4, f13, fi, fn, hd, hlt, hM]; (try with_reducible refine ⟨?_, ?_⟩) <;> (try with_reducible intro hc) <;> try (exfalso; omega)) | ((first | (refine w_e [] ?_; intro J hJ; simp only []) | (refine w_q ?_; intro J hJ) | refine e_go ?_); simp [f4, f13, fi, fn, hd, hlt, hM]; (repeat refine ca ?_); (try ((try with_reducible refine ⟨?_, ?_⟩) <;> (try with_reducible intro hnil) <;> refine hJ _ _ ?_ <;> clear hJ J <;> simp only [ak, reduceIte] <;> try subst hnil)))))
    refine hJ _ _ (by simp [fi]) (by simp [fn]) ⟨by simp [f1], by simp [f2], by simp [f3], by simp [f4], by simp [f13], by simp [hG], by simp [hsn], hkp.set (by omega) _, mset mes [v] (u v), by simp, fun w hw => ?_⟩
    rw [mget_mset]
    by_cases hwv : w = v
    · subst hwv; simp
    · rw [if_neg (by simpa using hwv)]
      rw [htk, List.mem_append, List.mem_singleton] at hw
      exact hmes w (hw.resolve_right hwv)
  · rintro fr s ⟨f1, f2, f3, f4, f13, hG, hsn, hkp, mes, hM, hmes⟩
    rw [List.take_length] at hmes
    (repeat' (first | refine awp_seq ?_ | refine awp_block ?_ | ((first | refine awp_skip ?_ | refine awp_exit ?_); simp only [ak, reduceIte]) | (refine awp_ret ?_; simp only [ak, reduceIte]; simp [f1, hG]) | (refine awp_cond ?_; simp [f1, hG]; (try with_reducible refine ⟨?_, ?_⟩) <;> (try with_reducible intro hc) <;> try (exfalso; omega)) | ((first | (refine w_e [] ?_; intro J hJ; simp only []) | (refine w_q ?_; intro J hJ) | refine e_go ?_); simp [f1, hG]; (repeat refine ca ?_); (try ((try with_reducible refine ⟨?_, ?_⟩) <;> (try with_reducible intro hnil) <;> refine hJ _ _ ?_ <;> clear hJ J <;> simp only [ak, reduceIte] <;> try subst hnil)))))
    refine awp_own 2 41 1 (by simp [f2]) ?_
    refine awp_own 3 41 1 (by simp [f3]) ?_
    refine awp_range 26 25 27 54 (g.es.length) (fun j fr st2 => fr 4 = .mp (st.next + 1) ∧ fr 24 = .sl 0 g.es.length (eds g.es) ∧ ∃ mes I Rs t2 t3, fr 2 = .sl t2 I.length (us (idsL I)) ∧ fr 3 = .sl t3 Rs.length (us (idsL Rs)) ∧ SpI g st (st.next + 1) (g.es.take j) I Rs t2 t3 mes st2) ?_ ?_ ?_
    · refine ⟨by simp [f4], by simp, mes, [], [], s.next, s.next + 1, by simp [idsL], by simp [idsL], ?_⟩
      refine ⟨?_, by simpa using IsFo.nil, ⟨id, id, _, UF.start g.vs, hmes⟩, ⟨by omega, by omega, by simp; omega, by simp⟩, ⟨by omega, by omega, by simp, by simp⟩, by omega, ⟨by omega, by simp; omega⟩, (hkp.trans (Keeps.new _ _)).trans (Keeps.new _ _)⟩
      (repeat (first | rw [new_H, if_neg (α := LObj) (by (try simp only [set_next, new_next]); omega)] | rw [set_H, if_neg (α := LObj) (by omega)] | rw [new_H, if_pos (α := LObj) (by (try simp only [set_next, new_next]))] | rw [set_H, if_pos (α := LObj) (by omega)])); exact hM
    · clear f1 f2 f3 f4 f13 hG hsn hkp hM hmes fr s mes
      rintro j fr s hlt ⟨f4, f24, mes, I, Rs, t2, t3, f2, f3, hM, hfo, ⟨U, R, d, hU, hmes⟩, ⟨a1, a2, a3, a4⟩, ⟨b1, b2, b3, b4⟩, hne, ⟨hb1, hb2⟩, hkp⟩ fi fn JO hJO
      generalize hMM : st.next + 1 = M at *
      have hd := eds_drop g.es j hlt
      have hk3 : j * 3 < g.es.length * 3 := by omega
      have htk : g.es.take (j + 1) = g.es.take j ++ [g.es.getD j ed0] := by
        rw [List.getD_eq_getElem?_getD, List.getElem?_eq_getElem hlt]; exact List.take_succ_eq_append_getElem hlt
      have hxin : g.es.getD j ed0 ∈ g.es := by
        rw [List.getD_eq_getElem?_getD, List.getElem?_eq_getElem hlt]; exact List.getElem_mem _
      generalize g.es.getD j ed0 = x at *
      obtain ⟨hxa, hxb⟩ := hg.ends x hxin
      obtain ⟨id, a, b⟩ := x
      simp only at hxa hxb
      have hsub := hfo.sub
      have hIl : I.length ≤ 1000 := by have := hsub.1.length_le; rw [List.length_take] at this; omega
      have hRl : Rs.length ≤ 1000 := by have := hsub.2.1.length_le; rw [List.length_take] at this; omega
      have hIv : ∀ y ∈ I, y.a ∈ g.vs ∧ y.b ∈ g.vs := fun y hy => hg.ends y (List.mem_of_mem_take (hsub.1.subset hy))
      have m0 : ¬ M = s.next := by omega
      have m0' : ¬ s.next = M := by omega
      have m2 : ¬ M = t2 := box_neW hM a4 (by simp)
      have m3 : ¬ M = t3 := box_neW hM b4 (by simp)
      have c2 : ¬ t2 = s.next + 1 := by omega
      have c3 : ¬ t3 = s.next + 1 := by omega
      have c2b : ¬ t2 = s.next := by omega
      have c3b : ¬ t3 = s.next := by omega
      have hM1 : (s.new (.box 43 3 [u id, u a, u b])).H M = .map false [.u32] mes := by rw [new_H, if_neg m0]; exact hM
      (repeat' (first | refine awp_seq ?_ | refine awp_block ?_ | ((first | refine awp_skip ?_ | refine awp_exit ?_); simp only [ak, reduceIte]) | (refine awp_ret ?_; simp only [ak, reduceIte]; simp [f24, fi, fn, hd, hel, hk3, hlt]) | (refine awp_cond ?_; simp [f24, fi, fn, hd, hel, hk3, hlt]; (try with_reducible refine ⟨?_, ?_⟩) <;> (try with_reducible intro hc) <;> try (exfalso; omega)) | ((first | (refine w_e [] ?_; intro J hJ; simp only []) | (refine w_q ?_; intro J hJ) | refine e_go ?_); simp [f24, fi, fn, hd, hel, hk3, hlt]; (repeat refine ca ?_); (try ((try with_reducible refine ⟨?_, ?_⟩) <;> (try with_reducible intro hnil) <;> refine hJ _ _ ?_ <;> clear hJ J <;> simp only [ak, reduceIte] <;> try subst hnil)))))
      (refine w_s [] [s.next] [(0, true), (1, true), (2, true), (4, true), (5, true), (6, true), (3, true), (7, true), (8, true), (9, true)] ?_; intro J hJ; simp [f4]; (repeat refine ca ?_); (try ((try with_reducible refine ⟨?_, ?_⟩) <;> (try with_reducible intro hnil) <;> refine hJ _ _ ?_ <;> clear hJ J <;> simp only [ak, reduceIte] <;> try subst hnil)))
      refine dcallK_ofE (root M mes g.vs I U R d a _ hM1 hU hmes hxa) (by simp) ?_; rintro r s5 ⟨rfl, rfl⟩
      refine ⟨fun _ => by simp, ?_⟩
      (refine d_go ?_; simp [f4]; (repeat refine ca ?_); (try ((try with_reducible refine ⟨?_, ?_⟩) <;> (try with_reducible intro hnil) <;> refine hJ _ _ ?_ <;> clear hJ J <;> simp only [ak, reduceIte] <;> try subst hnil)))
      refine dcallK_ofE (root M mes g.vs I U R d b _ hM1 hU hmes hxb) (by simp) ?_; rintro r s6 ⟨rfl, rfl⟩
      refine ⟨fun _ => by simp, ?_⟩
      (refine d_go ?_; simp []; (repeat refine ca ?_); (try ((try with_reducible refine ⟨?_, ?_⟩) <;> (try with_reducible intro hnil) <;> refine hJ _ _ ?_ <;> clear hJ J <;> simp only [ak, reduceIte] <;> try subst hnil)))
      by_cases hab : R a = R b
      · have hab2 : (R a == R b) = true := by simpa using hab
        have hre : Reach I a b := (hU.rel a hxa b hxb).1 hab
        (repeat' (first | refine awp_seq ?_ | refine awp_block ?_ | ((first | refine awp_skip ?_ | refine awp_exit ?_); simp only [ak, reduceIte]) | (refine awp_ret ?_; simp only [ak, reduceIte]; simp [f3, hab2, b4, b1, c3, c3b]) | (refine awp_cond ?_; simp [f3, hab2, b4, b1, c3, c3b]; (try with_reducible refine ⟨?_, ?_⟩) <;> (try with_reducible intro hc) <;> try (exfalso; omega)) | ((first | (refine w_e [] ?_; intro J hJ; simp only []) | (refine w_q ?_; intro J hJ) | refine e_go ?_); simp [f3, hab2, b4, b1, c3, c3b]; (repeat refine ca ?_); (try ((try with_reducible refine ⟨?_, ?_⟩) <;> (try with_reducible intro hnil) <;> refine hJ _ _ ?_ <;> clear hJ J <;> simp only [ak, reduceIte] <;> try subst hnil)))))
        refine hJO _ _ (by simp [fi]) (by simp [fn]) ⟨by simp [f4], by simp [f24], mes, I, Rs ++ [⟨id, a, b⟩], t2, s.next + 2, by simp [f2], by simp [idsL], ?_⟩
        rw [htk]
        refine ⟨by (repeat (first | rw [new_H, if_neg (α := LObj) (by (try simp only [set_next, new_next]); omega)] | rw [set_H, if_neg (α := LObj) (by omega)] | rw [new_H, if_pos (α := LObj) (by (try simp only [set_next, new_next]))] | rw [set_H, if_pos (α := LObj) (by omega)])); exact hM, .rest hfo hre, ⟨U, R, d, hU, hmes⟩, ⟨a1, a2, by simp; omega, by (repeat (first | rw [new_H, if_neg (α := LObj) (by (try simp only [set_next, new_next]); omega)] | rw [set_H, if_neg (α := LObj) (by omega)] | rw [new_H, if_pos (α := LObj) (by (try simp only [set_next, new_next]))] | rw [set_H, if_pos (α := LObj) (by omega)])); exact a4⟩, ⟨by omega, by omega, by simp, by simp⟩, by omega, ⟨hb1, by simp; omega⟩, ?_⟩
        exact (((hkp.trans (Keeps.new _ _)).trans (Keeps.new _ _)).set (by omega) _).trans (Keeps.new _ _)
      · have hab2 : (R a == R b) = false := by simpa using hab
        have hre : ¬ Reach I a b := fun h => hab ((hU.rel a hxa b hxb).2 h)
        have m2' : ¬ t2 = M := fun e => m2 e.symm
        (repeat' (first | refine awp_seq ?_ | refine awp_block ?_ | ((first | refine awp_skip ?_ | refine awp_exit ?_); simp only [ak, reduceIte]) | (refine awp_ret ?_; simp only [ak, reduceIte]; simp [f2, f4, hab2, a4, a1, c2, c2b, hM1, m0, m0', m2', hM]) | (refine awp_cond ?_; simp [f2, f4, hab2, a4, a1, c2, c2b, hM1, m0, m0', m2', hM]; (try with_reducible refine ⟨?_, ?_⟩) <;> (try with_reducible intro hc) <;> try (exfalso; omega)) | ((first | (refine w_e [] ?_; intro J hJ; simp only []) | (refine w_q ?_; intro J hJ) | refine e_go ?_); simp [f2, f4, hab2, a4, a1, c2, c2b, hM1, m0, m0', m2', hM]; (repeat refine ca ?_); (try ((try with_reducible refine ⟨?_, ?_⟩) <;> (try with_reducible intro hnil) <;> refine hJ _ _ ?_ <;> clear hJ J <;> simp only [ak, reduceIte] <;> try subst hnil)))))
        refine hJO _ _ (by simp [fi]) (by simp [fn]) ⟨by simp [f4], by simp [f24], mset mes [R a] (u (R b)), I ++ [⟨id, a, b⟩], Rs, s.next + 2, t3, by simp [idsL], by simp [f3], ?_⟩
        rw [htk]
        refine ⟨by (repeat (first | rw [new_H, if_neg (α := LObj) (by (try simp only [set_next, new_next]); omega)] | rw [set_H, if_neg (α := LObj) (by omega)] | rw [new_H, if_pos (α := LObj) (by (try simp only [set_next, new_next]))] | rw [set_H, if_pos (α := LObj) (by omega)])), .join hfo hre, ⟨_, _, _, hU.join (x := ⟨id, a, b⟩) hxa hxb hIv hab, fun v hv => ?_⟩, ⟨by omega, by omega, by simp, by simp⟩, ⟨b1, b2, by simp; omega, by (repeat (first | rw [new_H, if_neg (α := LObj) (by (try simp only [set_next, new_next]); omega)] | rw [set_H, if_neg (α := LObj) (by omega)] | rw [new_H, if_pos (α := LObj) (by (try simp only [set_next, new_next]))] | rw [set_H, if_pos (α := LObj) (by omega)])); exact b4⟩, by omega, ⟨hb1, by simp; omega⟩, ?_⟩
        · rw [mget_mset]
          by_cases e : v = R a
          · simp [e]
          · simp [e, hmes v hv]
        · exact ((((hkp.trans (Keeps.new _ _)).set (by omega) _).trans (Keeps.new _ _)).set (by omega) _).trans (Keeps.new _ _)
    · rintro fr s ⟨f4, f24, mes, I, Rs, t2, t3, f2, f3, hB⟩
      have hfo := hB.fo
      rw [List.take_length] at hfo
      (repeat' (first | refine awp_seq ?_ | refine awp_block ?_ | ((first | refine awp_skip ?_ | refine awp_exit ?_); simp only [ak, reduceIte]) | (refine awp_ret ?_; simp only [ak, reduceIte]; simp [f2, f3]) | (refine awp_cond ?_; simp [f2, f3]; (try with_reducible refine ⟨?_, ?_⟩) <;> (try with_reducible intro hc) <;> try (exfalso; omega)) | ((first | (refine w_e [] ?_; intro J hJ; simp only []) | (refine w_q ?_; intro J hJ) | refine e_go ?_); simp [f2, f3]; (repeat refine ca ?_); (try ((try with_reducible refine ⟨?_, ?_⟩) <;> (try with_reducible intro hnil) <;> refine hJ _ _ ?_ <;> clear hJ J <;> simp only [ak, reduceIte] <;> try subst hnil)))))
      refine ⟨⟨I, Rs, hfo, by simp [z0, z0L]⟩, hB.kp⟩

end Go.Proofs.YtomfeddgeihipaaGreat.Aw

namespace Go.Proofs.YtomfeddgeihipaaGreat.Aw
open Go Go.RowKit Go.Proofs.YtomfeddgeihipaaGreat.Pl
set_option linter.unusedSimpArgs false
set_option linter.unusedVariables false

def FoR (es : List Ed) (r : LV) : Prop := ∃ I Rs, IsFo es I Rs ∧ r = .sl 0 (idsL I).length (us (idsL I))
def ReR (es : List Ed) (r : LV) : Prop := ∃ I Rs, IsFo es I Rs ∧ r = .sl 0 (idsL Rs).length (us (idsL Rs))
theorem gi_ge (l : List Int) (x : Int) : 0 ≤ gi l x ↔ x ∈ l := by
  have h := gi_neg l x
  constructor
  · intro h2
    exact Decidable.by_contra fun h3 => by have := h.2 h3; omega
  · intro h2
    exact Decidable.by_contra fun h3 => (h.1 (by omega)) h2
def wth (es : List Ed) (ids : List Int) : List Ed := es.filter fun x => decide (x.id ∈ ids)
structure RfI (st : St) (E I Rs : List Ed) (t2 t3 : Nat) (s : St) : Prop where
  fo : IsFo E I Rs
  o2 : OwnI t2 st I.length s
  o3 : OwnI t3 st Rs.length s
  ne : t2 ≠ t3
  kp : Keeps st s
theorem Good.sub {g : Gr} (h : Good g) {E : List Ed} (hs : ∀ x ∈ E, x ∈ g.es) : Good ⟨g.vs, E⟩ := ⟨h.rise, fun x hx => h.ends x (hs x hx)⟩

end Go.Proofs.YtomfeddgeihipaaGreat.Aw

namespace Go.Proofs.YtomfeddgeihipaaGreat.Aw
open Go Go.RowKit Go.Proofs.YtomfeddgeihipaaGreat.Pl
set_option linter.unusedSimpArgs false
set_option linter.unusedVariables false

def ledL (A : Led) : List (List Int × LV) := A.map fun p => ([p.1], u p.2)
end Go.Proofs.YtomfeddgeihipaaGreat.Aw

namespace Go.Proofs.YtomfeddgeihipaaGreat.Aw
open Go Go.RowKit Go.Proofs.YtomfeddgeihipaaGreat.Pl
set_option linter.unusedSimpArgs false
set_option linter.unusedVariables false

/-- What a function argument answers of a vertex. -/
def MayOk (th : LV) (may : Int → Bool) (st : St) : Prop :=
  (th = .atom .nilFunc ∧ ∀ v, may v = true) ∨ ∃ f caps, th = .fn (.func f) caps ∧ caps.map norm = caps ∧ ∀ v s, Keeps st s → ACalls Tryz.prog f (u v :: caps) s fun r s' => r = bb (may v) ∧ Keeps s s'

structure PaB (st0 : St) (A : Led) (Q : List Int) (Ma Mn tq o : Nat) (es : List (List Int × LV)) (s : St) : Prop where
  ha : s.H Ma = .map false [.u32] (ledL A)
  hn : s.H Mn = .map false [.u32] es
  hq : s.H tq = .que 41 (o + Q.length)
  b : st0.next ≤ Ma ∧ st0.next ≤ Mn ∧ st0.next ≤ tq ∧ Ma < s.next ∧ Mn < s.next ∧ tq < s.next ∧ tq ≠ 0 ∧ ¬ Mn = Ma
  kp : Keeps st0 s

end Go.Proofs.YtomfeddgeihipaaGreat.Aw

namespace Go.Proofs.YtomfeddgeihipaaGreat.Aw
open Go Go.RowKit Go.Proofs.YtomfeddgeihipaaGreat.Pl
set_option linter.unusedSimpArgs false
set_option linter.unusedVariables false

/-- A table's entry: a key, its count. -/
def IsKn (p : List Int × LV) (k n : Int) : Prop := p = ([k], i n) ∧ (-40000 ≤ k ∧ k ≤ 40000) ∧ (0 ≤ n ∧ n ≤ 1000)
def keyOf (p : List Int × LV) : Int := p.1.headD 0
def cntOf (p : List Int × LV) : Int := match p.2 with | .atom (.int _ n) => n | _ => 0
/-- Each key times its count. -/
def sumL : List (List Int × LV) → Int
  | [] => 0
  | p :: L => keyOf p * cntOf p + sumL L
def SumI (st : St) (m : Nat) (es : List (List Int × LV)) (L : List (List Int × LV)) (fr : Frm) (st2 : St) : Prop := (∀ p ∈ L, ∃ k n, IsKn p k n) ∧ L.length ≤ es.length ∧ st2 = st.set m .dead ∧ ∃ s : Int, fr 3 = i s ∧ s + sumL L = sumL es ∧ -(40000000 * ((es.length : Int) - L.length)) ≤ s ∧ s ≤ 40000000 * ((es.length : Int) - L.length)
end Go.Proofs.YtomfeddgeihipaaGreat.Aw

namespace Go.Proofs.YtomfeddgeihipaaGreat.Aw
open Go Go.RowKit Go.Proofs.YtomfeddgeihipaaGreat.Pl
set_option linter.unusedSimpArgs false
set_option linter.unusedVariables false

/-- The keys that are counted. -/
def nzk (L : List (List Int × LV)) : List Int := (L.filter fun p => decide (cntOf p ≠ 0)).map keyOf
structure KeysI (st : St) (m : Nat) (es L : List (List Int × LV)) (fr : Frm) (st2 : St) : Prop where
  kn : ∀ p ∈ L, ∃ k n, IsKn p k n
  len : L.length ≤ es.length
  row : ∃ q A, fr 3 = .ms q 0 A.length ∧ st2.H q = .box 3 1 (I.us A) ∧ (st.next ≤ q ∧ q < st2.next) ∧ (A ++ nzk L).Perm (nzk es) ∧ A.length + L.length ≤ es.length
  hid : st2.H m = .dead ∧ ∀ l, l < st.next → l ≠ m → st2.H l = st.H l
end Go.Proofs.YtomfeddgeihipaaGreat.Aw

namespace Go.Proofs.YtomfeddgeihipaaGreat.Aw
open Go Go.RowKit Go.Proofs.YtomfeddgeihipaaGreat.Pl
set_option linter.unusedSimpArgs false
set_option linter.unusedVariables false

/-- A table whose counts are at most B, no key twice. -/
structure TabB (B : Int) (es : List (List Int × LV)) : Prop where
  kn : ∀ p ∈ es, ∃ k n, p = ([k], i n) ∧ (-40000 ≤ k ∧ k ≤ 40000) ∧ (0 ≤ n ∧ n ≤ B)
  nd : (es.map (·.1)).Nodup
def cntM (es : List (List Int × LV)) (k : Int) : Int := cntOf ([k], (mget es [k]).getD (i 0))
/-- One more of a key. -/
def add1 (es : List (List Int × LV)) (k : Int) : List (List Int × LV) := mset es [k] (i (cntM es k + 1))
theorem cntM_get {B : Int} {es : List (List Int × LV)} (h : TabB B es) (hB : 0 ≤ B) (k : Int) : (mget es [k]).getD (i 0) = i (cntM es k) ∧ 0 ≤ cntM es k ∧ cntM es k ≤ B := by
  have : ∀ es : List (List Int × LV), (∀ p ∈ es, ∃ k n, p = ([k], i n) ∧ (-40000 ≤ k ∧ k ≤ 40000) ∧ (0 ≤ n ∧ n ≤ B)) → mget es [k] = none ∨ ∃ n, mget es [k] = some (i n) ∧ 0 ≤ n ∧ n ≤ B := by
    intro es
    induction es with
    | nil => exact fun _ => .inl rfl
    | cons p es ih =>
      intro h
      obtain ⟨k', n, rfl, _, hn⟩ := h p (by simp)
      unfold mget
      by_cases e : ([k] == [k']) = true
      · simp only [e, if_true]; exact .inr ⟨n, rfl, hn⟩
      · simp only [e, if_false]; exact ih fun q hq => h q (by simp [hq])
  unfold cntM
  rcases this es h.kn with e | ⟨n, e, h1, h2⟩
  · rw [e]; exact ⟨rfl, Int.le_refl _, hB⟩
  · rw [e]; exact ⟨rfl, h1, h2⟩
theorem mset_mem (es : List (List Int × LV)) (a : List Int) (v : LV) (p : List Int × LV) (h : p ∈ mset es a v) : p = (a, v) ∨ p ∈ es := by
  induction es with
  | nil => simp [mset] at h; exact .inl h
  | cons q es ih =>
    unfold mset at h
    split at h
    · rcases List.mem_cons.1 h with h | h
      · exact .inl h
      · exact .inr (by simp [h])
    · rcases List.mem_cons.1 h with h | h
      · exact .inr (by simp [h])
      · rcases ih h with h | h
        · exact .inl h
        · exact .inr (by simp [h])
theorem mset_keys (es : List (List Int × LV)) (a : List Int) (v : LV) (h : (es.map (·.1)).Nodup) : ((mset es a v).map (·.1)).Nodup ∧ ∀ x, x ∈ (mset es a v).map (·.1) → x = a ∨ x ∈ es.map (·.1) := by
  induction es with
  | nil => simp [mset]
  | cons q es ih =>
    simp only [List.map_cons, List.nodup_cons] at h
    obtain ⟨i1, i2⟩ := ih h.2
    unfold mset
    by_cases e : a = q.1
    · rw [if_pos (by simpa using e)]
      subst e
      exact ⟨by simp only [List.map_cons, List.nodup_cons]; exact h, fun x hx => .inr (by simpa using hx)⟩
    · rw [if_neg (by simpa using e)]
      refine ⟨?_, fun x hx => ?_⟩
      · simp only [List.map_cons, List.nodup_cons]
        refine ⟨fun hx => ?_, i1⟩
        rcases i2 _ hx with h1 | h1
        · exact e h1.symm
        · exact h.1 h1
      · rcases List.mem_cons.1 (by simpa using hx : x ∈ q.1 :: (mset es a v).map (·.1)) with h1 | h1
        · exact .inr (by simp [h1])
        · rcases i2 _ h1 with h2 | h2
          · exact .inl h2
          · exact .inr (by simp only [List.map_cons, List.mem_cons]; exact .inr h2)
theorem TabB.add {B : Int} {es : List (List Int × LV)} (h : TabB B es) (hB : 0 ≤ B) {k : Int} (hk : -40000 ≤ k ∧ k ≤ 40000) : TabB (B + 1) (add1 es k) := by
  obtain ⟨_, c1, c2⟩ := cntM_get h hB k
  refine ⟨fun p hp => ?_, (mset_keys es _ _ h.nd).1⟩
  rcases mset_mem _ _ _ _ hp with rfl | hp
  · exact ⟨k, _, rfl, hk, by omega, by omega⟩
  · obtain ⟨k', n, h1, h2, h3⟩ := h.kn p hp
    exact ⟨k', n, h1, h2, h3.1, by omega⟩
def addAll (es : List (List Int × LV)) (l : List Int) : List (List Int × LV) := l.foldl add1 es
end Go.Proofs.YtomfeddgeihipaaGreat.Aw

namespace Go.Proofs.YtomfeddgeihipaaGreat.Aw
open Go Go.RowKit Go.Proofs.YtomfeddgeihipaaGreat.Pl
set_option linter.unusedSimpArgs false
set_option linter.unusedVariables false

def lessE (es : List Ed) (x : Ed) : List Ed := es.filter fun o => decide (o.id ≠ x.id)
/-- The fewest edges of a ring, by ways around each edge; none: the strength n is too little. -/
def girthL (g : Gr) (n : Nat) : Int → List Ed → Option Int
  | least, [] => some least
  | least, x :: xs => match pathF g.vs (nearF (lessE g.es x)) (fun _ => true) x.a x.b n with
    | some l => girthL g n (if 0 < l.length ∧ (least = 0 ∨ (l.length : Int) < least) then l.length else least) xs
    | none => none
end Go.Proofs.YtomfeddgeihipaaGreat.Aw

namespace Go.Proofs.YtomfeddgeihipaaGreat.Aw
open Go Go.RowKit Go.Proofs.YtomfeddgeihipaaGreat.Pl
set_option linter.unusedSimpArgs false
set_option linter.unusedVariables false

/-- Found ones, and at which place the one stands that led there. -/
abbrev Fnd := List (Int × Nat)
def scanR1 (k : Nat) (F : Fnd) (w : Int) : Fnd := if w ∈ F.map (·.1) then F else F ++ [(w, k)]
def scanR (k : Nat) (F : Fnd) (row : List Int) : Fnd := row.foldl (scanR1 k) F
def fAt (F : Fnd) (k : Nat) : Int := (F.getD k (0, 0)).1
def pAt (F : Fnd) (k : Nat) : Nat := (F.getD k (0, 0)).2
/-- Who led there stands ahead. -/
def Par (F : Fnd) : Prop := ∀ k, 0 < k → k < F.length → pAt F k < k
theorem getD_append_lt {α : Type} (a b : List α) (d : α) {k : Nat} (h : k < a.length) : (a ++ b).getD k d = a.getD k d := by
  rw [List.getD_eq_getElem?_getD, List.getD_eq_getElem?_getD, List.getElem?_append_left h]
theorem Par.scan1 {F : Fnd} (h : Par F) {k : Nat} (hk : k < F.length) (w : Int) : Par (scanR1 k F w) := by
  unfold scanR1
  split
  · exact h
  · intro j h0 hj
    rw [List.length_append, List.length_singleton] at hj
    by_cases hj2 : j < F.length
    · unfold pAt; rw [getD_append_lt _ _ _ hj2]; exact h j h0 hj2
    · have : j = F.length := by omega
      subst this
      unfold pAt
      simp
      exact hk
def refRun (near : Int → List Int) (may : Int → Bool) (to : Int) : Nat → Nat → Fnd → Option (Option (Fnd × Nat))
  | 0, k, F => if k < F.length then none else some none
  | n + 1, k, F => if k < F.length then
      if fAt F k = to then some (some (F, k)) else if k = 0 ∨ may (fAt F k) = true then refRun near may to n (k + 1) (scanR k F (near (fAt F k))) else refRun near may to n (k + 1) F
    else some none
/-- From a place back to the first one. -/
def chainF (F : Fnd) : Nat → Nat → List Int
  | 0, _ => []
  | m + 1, k => if k = 0 then [] else fAt F k :: chainF F m (pAt F k)
def refPath (vs : List Int) (near : Int → List Int) (may : Int → Bool) (from' to : Int) (n : Nat) : Option (List Int) :=
  if from' ∉ vs ∨ to ∉ vs then some [] else match refRun near may to n 0 [(from', 0)] with
    | some none => some []
    | some (some (F, k)) => some (from' :: (chainF F k k).reverse)
    | none => none

end Go.Proofs.YtomfeddgeihipaaGreat.Aw

namespace Go.Proofs.YtomfeddgeihipaaGreat.Aw
open Go Go.RowKit Go.Proofs.YtomfeddgeihipaaGreat.Pl
set_option linter.unusedSimpArgs false
set_option linter.unusedVariables false

structure FG (from' : Int) (F : Fnd) : Prop where
  pos : 0 < F.length
  hd : F.getD 0 (0, 0) = (from', 0)
  par : ∀ k, k < F.length → pAt F k < F.length ∧ (0 < k → pAt F k < k)
  nd : (F.map (·.1)).Nodup
def led (F : Fnd) : Led := F.map fun p => (p.1, fAt F p.2)
end Go.Proofs.YtomfeddgeihipaaGreat.Aw

namespace Go.Proofs.YtomfeddgeihipaaGreat.Aw
open Go Go.RowKit Go.Proofs.YtomfeddgeihipaaGreat.Pl
set_option linter.unusedSimpArgs false
set_option linter.unusedVariables false

/-- What both searches have come to. -/
def SamePQ (from' to : Int) (n : Nat) (R : Option (Fnd × Nat)) (R' : Option Led) : Prop :=
  (R = none ∧ R' = none) ∨ ∃ F1 D p, R = some (F1 ++ D, p) ∧ R' = some (led F1) ∧ FG from' F1 ∧ p < F1.length ∧ fAt F1 p = to ∧ p + 1 ≤ n

end Go.Proofs.YtomfeddgeihipaaGreat.Aw

namespace Go.Proofs.YtomfeddgeihipaaGreat.Aw
open Go Go.RowKit Go.Proofs.YtomfeddgeihipaaGreat.Pl
set_option linter.unusedSimpArgs false
set_option linter.unusedVariables false

def adjB (v w : Int) (x : Ed) : Bool := (x.a == v && x.b == w) || (x.a == w && x.b == v)
theorem adjB_any (es : List Ed) (v w : Int) : es.any (adjB v w) = decide (adj es v w) := by
  rw [Bool.eq_iff_iff, List.any_eq_true, decide_eq_true_eq]
  unfold adj adjB
  constructor
  · rintro ⟨x, hx, h⟩
    exact ⟨x, hx, by simpa using h⟩
  · rintro ⟨x, hx, h⟩
    exact ⟨x, hx, by simpa using h⟩
theorem any_takeE (l : List Ed) (p : Ed → Bool) (k : Nat) (hk : k < l.length) : (l.take (k + 1)).any p = ((l.take k).any p || p (l.getD k ed0)) := by
  rw [List.take_succ_eq_append_getElem hk, List.any_append, List.getD_eq_getElem?_getD, List.getElem?_eq_getElem hk]
  simp
theorem filter_takeI (l : List Int) (p : Int → Bool) (k : Nat) (hk : k < l.length) : (l.take (k + 1)).filter p = (l.take k).filter p ++ if p (l.getD k 0) = true then [l.getD k 0] else [] := by
  rw [List.take_succ_eq_append_getElem hk, List.filter_append, List.getD_eq_getElem?_getD, List.getElem?_eq_getElem hk]
  by_cases h : p l[k] = true <;> simp [h]

theorem box_neT {st : St} {a b : Nat} {x y : LObj} (ha : st.H a = x) (hb : st.H b = y) (h : x ≠ y) : ¬ a = b := fun e => h (by rw [← ha, e, hb])
def OwnT (t : Nat) (lo : St) (l : List Int) (st : St) : Prop := t ≠ 0 ∧ lo.next ≤ t ∧ t < st.next ∧ st.H t = .own 41 1 l.length

set_option maxHeartbeats 2000000 in
theorem ref_nNear (g : Gr) (v : Int) (st : St) (hv : g.vs.length ≤ 1000) (he : g.es.length ≤ 1000) :
    ACalls Tryz.prog 35 [.ag (grL g), u v] st fun r st' => r = .sl 0 (g.vs.filter fun w => decide (adj g.es v w)).length (us (g.vs.filter fun w => decide (adj g.es v w))) ∧ Keeps st st' := by
  have hel := eds_length g.es
  refine acalls_z0 ?_
  refine acalls_of_body tabOk Tryz.func35 rfl rfl Tryz.ntmps35 (rs := [.tmp 4]) rfl (by simp) ?_
  refine awp_posG fun hpos => ?_
  (repeat' (first | refine awp_seq ?_ | refine awp_block ?_ | ((first | refine awp_skip ?_ | refine awp_exit ?_); simp only [ak, reduceIte]) | (refine awp_ret ?_; simp only [ak, reduceIte]; simp []) | (refine awp_cond ?_; simp []; (try with_reducible refine ⟨?_, ?_⟩) <;> (try with_reducible intro hc) <;> try (exfalso; omega)) | ((first | (refine w_e [] ?_; intro J hJ; simp only []) | (refine w_q ?_; intro J hJ) | refine e_go ?_); simp []; (repeat refine ca ?_); (try ((try with_reducible refine ⟨?_, ?_⟩) <;> (try with_reducible intro hnil) <;> refine hJ _ _ ?_ <;> clear hJ J <;> simp only [ak, reduceIte] <;> try subst hnil)))))
  refine awp_own 5 41 1 (by simp) ?_
  refine awp_range 14 13 15 53 (g.vs.length) (fun j fr st2 => fr 1 = u v ∧ fr 2 = .pt st.next 0 ∧ fr 12 = .sl 0 g.vs.length (us g.vs) ∧ st2.H st.next = .box 38 2 (grL g) ∧ st.next < st2.next ∧ Keeps st st2 ∧ ∃ t, fr 5 = .sl t ((g.vs.take j).filter fun w => g.es.any (adjB v w)).length (us ((g.vs.take j).filter fun w => g.es.any (adjB v w))) ∧ OwnT t st ((g.vs.take j).filter fun w => g.es.any (adjB v w)) st2) ?_ ?_ ?_
  · exact ⟨by simp, by simp, by simp, by simp, by simp; omega, (Keeps.new _ _).trans (Keeps.new _ _), st.next + 1, by simp, by omega, by omega, by simp, by simp⟩
  · rintro j0 fr s hlt ⟨f1, f2, f12, hG, hsn, hkp, t, f5, t1, t2, t3, t4⟩ fi fn JO hJO
    have hd := us_drop_getD g.vs j0 hlt
    have htk := filter_takeI g.vs (fun w => g.es.any (adjB v w)) j0 hlt
    have hfl := List.length_filter_le (fun w => g.es.any (adjB v w)) (g.vs.take j0)
    rw [List.length_take] at hfl
    generalize g.vs.getD j0 0 = w at *
    generalize hF : (g.vs.take j0).filter (fun w => g.es.any (adjB v w)) = F at *
    (repeat' (first | refine awp_seq ?_ | refine awp_block ?_ | ((first | refine awp_skip ?_ | refine awp_exit ?_); simp only [ak, reduceIte]) | (refine awp_ret ?_; simp only [ak, reduceIte]; simp [f1, f2, f12, fi, fn, hd, hlt, hG]) | (refine awp_cond ?_; simp [f1, f2, f12, fi, fn, hd, hlt, hG]; (try with_reducible refine ⟨?_, ?_⟩) <;> (try with_reducible intro hc) <;> try (exfalso; omega)) | ((first | (refine w_e [] ?_; intro J hJ; simp only []) | (refine w_q ?_; intro J hJ) | refine e_go ?_); simp [f1, f2, f12, fi, fn, hd, hlt, hG]; (repeat refine ca ?_); (try ((try with_reducible refine ⟨?_, ?_⟩) <;> (try with_reducible intro hnil) <;> refine hJ _ _ ?_ <;> clear hJ J <;> simp only [ak, reduceIte] <;> try subst hnil)))))
    refine awp_range 21 20 22 47 (g.es.length) (fun j fr st2 => fr 14 = i j0 ∧ fr 13 = i g.vs.length ∧ fr 1 = u v ∧ fr 2 = .pt st.next 0 ∧ fr 12 = .sl 0 g.vs.length (us g.vs) ∧ fr 5 = .sl t F.length (us F) ∧ fr 7 = u w ∧ fr 8 = bb ((g.es.take j).any (adjB v w)) ∧ fr 19 = .sl 0 g.es.length (eds g.es) ∧ Keeps s st2) ?_ ?_ ?_
    · exact ⟨by simp [fi], by simp [fn], by simp [f1], by simp [f2], by simp [f12], by simp [f5], by simp, by simp, by simp, Keeps.refl _⟩
    · rintro k fr s2 hlt2 ⟨F14, F13, F1, F2, F12, F5, F7, F8, F19, hk2⟩ Fi Fn J hJ
      have hd2 := eds_drop g.es k hlt2
      have hk3 : k * 3 < g.es.length * 3 := by omega
      have han := any_takeE g.es (adjB v w) k hlt2
      generalize g.es.getD k ed0 = x at *
      obtain ⟨id, a, b⟩ := x
      generalize (g.es.take k).any (adjB v w) = is at *
      simp only [adjB] at han
      have fin : ∀ (fr : Frm) (is' : Bool) (s' : St), fr 21 = i k → fr 20 = i g.es.length → fr 14 = i j0 → fr 13 = i g.vs.length → fr 1 = u v → fr 2 = .pt st.next 0 → fr 12 = .sl 0 g.vs.length (us g.vs) → fr 5 = .sl t F.length (us F) → fr 7 = u w → fr 8 = bb is' → fr 19 = .sl 0 g.es.length (eds g.es) → Keeps s s' → is' = (g.es.take (k + 1)).any (adjB v w) → J fr s' :=
        fun fr is' s' g1 g2 g3 g4 g5 g6 g7 g8 g9 g10 g11 g12 g13 => hJ _ _ g1 g2 ⟨by simp [g3], by simp [g4], by simp [g5], by simp [g6], by simp [g7], by simp [g8], by simp [g9], by simp [g10, g13], by simp [g11], g12⟩
      cases e1 : (a == v) <;> cases e2 : (b == w) <;> cases e3 : (a == w) <;> cases e4 : (b == v)
      all_goals
        rw [e1, e2, e3, e4] at han
        (repeat' (first | refine awp_seq ?_ | refine awp_block ?_ | ((first | refine awp_skip ?_ | refine awp_exit ?_); simp only [ak, reduceIte]) | (refine awp_ret ?_; simp only [ak, reduceIte]; simp [F1, F7, F19, Fi, Fn, hd2, hel, hk3, hlt2, e1, e2, e3, e4]) | (refine awp_cond ?_; simp [F1, F7, F19, Fi, Fn, hd2, hel, hk3, hlt2, e1, e2, e3, e4]; (try with_reducible refine ⟨?_, ?_⟩) <;> (try with_reducible intro hc) <;> try (exfalso; omega)) | ((first | (refine w_e [] ?_; intro J hJ; simp only []) | (refine w_q ?_; intro J hJ) | refine e_go ?_); simp [F1, F7, F19, Fi, Fn, hd2, hel, hk3, hlt2, e1, e2, e3, e4]; (repeat refine ca ?_); (try ((try with_reducible refine ⟨?_, ?_⟩) <;> (try with_reducible intro hnil) <;> refine hJ _ _ ?_ <;> clear hJ J <;> simp only [ak, reduceIte] <;> try subst hnil)))))
        refine fin _ _ _ (by simp [Fi]) (by simp [Fn]) (by simp [F14]) (by simp [F13]) (by simp [F1]) (by simp [F2]) (by simp [F12]) (by simp [F5]) (by simp [F7]) (by first | exact F8 | simp [F8]; rfl | simp; rfl) (by simp [F19]) (hk2.trans (Keeps.new _ _)) (by rw [han]; simp)
    · rintro fr s2 ⟨F14, F13, F1, F2, F12, F5, F7, F8, F19, hk2⟩
      rw [List.take_length] at F8
      have hn2 := hk2.next
      have hG2 := (hk2.H st.next hsn).trans hG
      have t42 := (hk2.H t t3).trans t4
      have q1 : ¬ t = s2.next := by omega
      cases his : g.es.any (adjB v w)
      · rw [his, if_neg (by simp), List.append_nil] at htk
        rw [his] at F8
        (repeat' (first | refine awp_seq ?_ | refine awp_block ?_ | ((first | refine awp_skip ?_ | refine awp_exit ?_); simp only [ak, reduceIte]) | (refine awp_ret ?_; simp only [ak, reduceIte]; simp [F8]) | (refine awp_cond ?_; simp [F8]; (try with_reducible refine ⟨?_, ?_⟩) <;> (try with_reducible intro hc) <;> try (exfalso; omega)) | ((first | (refine w_e [] ?_; intro J hJ; simp only []) | (refine w_q ?_; intro J hJ) | refine e_go ?_); simp [F8]; (repeat refine ca ?_); (try ((try with_reducible refine ⟨?_, ?_⟩) <;> (try with_reducible intro hnil) <;> refine hJ _ _ ?_ <;> clear hJ J <;> simp only [ak, reduceIte] <;> try subst hnil)))))
        exact hJO _ _ (by simp [F14]) (by simp [F13]) ⟨by simp [F1], by simp [F2], by simp [F12], hG2, by omega, hkp.trans hk2, t, by rw [htk]; simp [F5], t1, t2, by omega, by rw [htk]; exact t42⟩
      · rw [his, if_pos rfl] at htk
        rw [his] at F8
        (repeat' (first | refine awp_seq ?_ | refine awp_block ?_ | ((first | refine awp_skip ?_ | refine awp_exit ?_); simp only [ak, reduceIte]) | (refine awp_ret ?_; simp only [ak, reduceIte]; simp [F8, F5, F7, t42, q1, t1]) | (refine awp_cond ?_; simp [F8, F5, F7, t42, q1, t1]; (try with_reducible refine ⟨?_, ?_⟩) <;> (try with_reducible intro hc) <;> try (exfalso; omega)) | ((first | (refine w_e [] ?_; intro J hJ; simp only []) | (refine w_q ?_; intro J hJ) | refine e_go ?_); simp [F8, F5, F7, t42, q1, t1]; (repeat refine ca ?_); (try ((try with_reducible refine ⟨?_, ?_⟩) <;> (try with_reducible intro hnil) <;> refine hJ _ _ ?_ <;> clear hJ J <;> simp only [ak, reduceIte] <;> try subst hnil)))))
        refine hJO _ _ (by simp [F14]) (by simp [F13]) ⟨by simp [F1], by simp [F2], by simp [F12], ?_, by simp; omega, ?_, s2.next + 1, by rw [htk]; simp, by omega, by omega, by simp, by rw [htk]; simp⟩
        · have q2 : ¬ st.next = t := box_neT hG (t4) (by simp)
          (repeat (first | rw [new_H, if_neg (α := LObj) (by (try simp only [set_next, new_next]); omega)] | rw [set_H, if_neg (α := LObj) (by omega)] | rw [new_H, if_pos (α := LObj) (by (try simp only [set_next, new_next]))] | rw [set_H, if_pos (α := LObj) (by omega)])); exact hG2
        · exact ((((hkp.trans hk2).trans (Keeps.new _ _)).set t2 _).trans (Keeps.new _ _))
  · rintro fr s ⟨f1, f2, f12, hG, hsn, hkp, t, f5, t1, t2, t3, t4⟩
    rw [List.take_length] at f5
    (repeat' (first | refine awp_seq ?_ | refine awp_block ?_ | ((first | refine awp_skip ?_ | refine awp_exit ?_); simp only [ak, reduceIte]) | (refine awp_ret ?_; simp only [ak, reduceIte]; simp [f5]) | (refine awp_cond ?_; simp [f5]; (try with_reducible refine ⟨?_, ?_⟩) <;> (try with_reducible intro hc) <;> try (exfalso; omega)) | ((first | (refine w_e [] ?_; intro J hJ; simp only []) | (refine w_q ?_; intro J hJ) | refine e_go ?_); simp [f5]; (repeat refine ca ?_); (try ((try with_reducible refine ⟨?_, ?_⟩) <;> (try with_reducible intro hnil) <;> refine hJ _ _ ?_ <;> clear hJ J <;> simp only [ak, reduceIte] <;> try subst hnil)))))
    refine ⟨?_, hkp⟩
    simp only [z0, z0_us]
    have e : (g.vs.filter fun w => g.es.any (adjB v w)) = g.vs.filter fun w => decide (adj g.es v w) := List.filter_congr fun w _ => adjB_any g.es v w
    rw [e]

end Go.Proofs.YtomfeddgeihipaaGreat.Aw

namespace Go.Proofs.YtomfeddgeihipaaGreat.Aw
open Go Go.RowKit Go.Proofs.YtomfeddgeihipaaGreat.Pl
set_option linter.unusedSimpArgs false
set_option linter.unusedVariables false

def ns (l : List Nat) : List LV := l.map fun n : Nat => i (n : Int)
theorem ns_len (l : List Nat) : (ns l).length = l.length := by simp [ns]
def fV (F : Fnd) : List Int := F.map (·.1)
def fB (F : Fnd) : List Nat := F.map (·.2)
@[simp] theorem fV_len (F : Fnd) : (fV F).length = F.length := by simp [fV]
@[simp] theorem fB_len (F : Fnd) : (fB F).length = F.length := by simp [fB]
@[simp] theorem ns_len2 (l : List Nat) : (ns l).length = l.length := ns_len l
/-- Rows of the call's own. -/
def OwnN (t e n : Nat) (lo : St) (st : St) : Prop := t ≠ 0 ∧ lo.next ≤ t ∧ t < st.next ∧ st.H t = .own e 1 n

def nearR (g : Gr) (v : Int) : List Int := g.vs.filter fun w => decide (adj g.es v w)
/-- What stays all along. -/
def PF (g : Gr) (from' to : Int) (tt : Nat) (th : List Int) (al : Bool) (st : St) (fr : Frm) (s : St) : Prop :=
  fr 1 = u from' ∧ fr 2 = u to ∧ fr 3 = .sl tt th.length (us th) ∧ fr 4 = bb al ∧ fr 5 = .pt st.next 0 ∧ s.H st.next = .box 38 2 (grL g) ∧ st.next < s.next ∧ Keeps st s
def FB (F : Fnd) (st : St) (fr : Frm) (s : St) : Prop := ∃ tf tb, fr 11 = .sl tf F.length (us (fV F)) ∧ fr 12 = .sl tb F.length (ns (fB F)) ∧ OwnN tf 41 F.length st s ∧ OwnN tb 3 F.length st s
def PI (g : Gr) (from' to : Int) (tt : Nat) (th : List Int) (al : Bool) (st s : St) (k : Nat) (v : Int) (F : Fnd) (m : Bool) (f : Frm) (s' : St) : Prop :=
  s' = s ∧ f 13 = i k ∧ f 14 = u v ∧ f 18 = bb m ∧ PF g from' to tt th al st f s' ∧ FB F st f s'
theorem OwnN.keeps {t e n : Nat} {lo s s' : St} (h : OwnN t e n lo s) (k : Keeps s s') : OwnN t e n lo s' := by
  obtain ⟨h1, h2, h3, h4⟩ := h
  exact ⟨h1, h2, Nat.lt_of_lt_of_le h3 k.next, by rw [k.H t h3]; exact h4⟩

end Go.Proofs.YtomfeddgeihipaaGreat.Aw

namespace Go.Proofs.YtomfeddgeihipaaGreat.Aw
open Go Go.RowKit Go.Proofs.YtomfeddgeihipaaGreat.Pl
set_option linter.unusedSimpArgs false
set_option linter.unusedVariables false

structure GrF (g : Gr) : Prop where
  rise : g.vs.Pairwise (· < ·)
  vpos : ∀ v ∈ g.vs, 1 ≤ v ∧ v ≤ 1048576
  ids : g.es.Pairwise fun x y => x.id < y.id
  pos : ∀ x ∈ g.es, 1 ≤ x.id ∧ x.id ≤ 1048576
  ne : ∀ x ∈ g.es, x.a ≠ x.b
  ends : ∀ x ∈ g.es, x.a ∈ g.vs ∧ x.b ∈ g.vs
  l1 : g.vs.length ≤ 64
  l2 : g.es.length ≤ 160

theorem nz_all {f : Nat → Int} {n : Nat} (h : firstNZ f n = 0) : ∀ j, j < n → f j = 0 := by
  induction n with
  | zero => intro j hj; omega
  | succ n ih =>
    intro j hj
    simp only [firstNZ] at h
    by_cases h0 : firstNZ f n = 0
    · rw [if_neg (by simp [h0])] at h
      rcases Nat.lt_or_ge j n with h1 | h1
      · exact ih h0 j h1
      · obtain rfl : j = n := by omega
        exact h
    · rw [if_pos h0] at h; exact absurd h h0
theorem numb_zero_iff (n a : Int) (b : Bool) : numb n a b = 0 ↔ (1 ≤ n ∧ n ≤ 1048576) ∧ (b = false → a < n) := by
  unfold numb
  by_cases h1 : n < 1 ∨ 1048576 < n
  · rw [if_pos h1]
    constructor
    · intro h; cases h
    · rintro ⟨h, _⟩; omega
  · rw [if_neg h1]
    by_cases h2 : b = false ∧ n ≤ a
    · rw [if_pos h2]
      constructor
      · intro h; cases h
      · rintro ⟨_, h⟩; have := h h2.1; omega
    · rw [if_neg h2]
      refine ⟨fun _ => ⟨by omega, fun hb => ?_⟩, fun _ => rfl⟩
      rcases Int.lt_or_le a n with h3 | h3
      · exact h3
      · exact absurd ⟨hb, h3⟩ h2
theorem rise_step {l : List Int} (h : ∀ j, j < l.length → 0 < j → l.getD (j - 1) 0 < l.getD j 0) : l.Pairwise (· < ·) := by
  have g : ∀ j (hj : j < l.length), l.getD j 0 = l[j] := fun j hj => by rw [List.getD_eq_getElem?_getD, List.getElem?_eq_getElem hj]; rfl
  rw [List.pairwise_iff_getElem]
  intro a b ha hb hab
  induction b with
  | zero => omega
  | succ b ih =>
    have h1 := h (b + 1) hb (by omega)
    rw [Nat.add_sub_cancel, g _ hb, g _ (by omega)] at h1
    rcases Nat.lt_or_ge a b with h2 | h2
    · have := ih (by omega) h2; omega
    · obtain rfl : a = b := by omega
      exact h1
theorem gE (l : List Ed) (j : Nat) (hj : j < l.length) : l.getD j ed0 = l[j] := by
  rw [List.getD_eq_getElem?_getD, List.getElem?_eq_getElem hj]; rfl
theorem badE_zero (g : Gr) (j : Nat) (x : Ed) (hx : g.es.getD j ed0 = x) : badE g j = 0 ↔ ((1 ≤ x.id ∧ x.id ≤ 1048576) ∧ (0 < j → (g.es.getD (j - 1) ed0).id < x.id)) ∧ x.a ≠ x.b ∧ x.a ∈ g.vs ∧ x.b ∈ g.vs := by
  unfold badE
  simp only [hx]
  have h0 := numb_zero_iff x.id (g.es.getD (j - 1) ed0).id (decide (j = 0))
  have hj : (decide (j = 0) = false) ↔ 0 < j := by simp; omega
  rw [hj] at h0
  by_cases h1 : numb x.id (g.es.getD (j - 1) ed0).id (decide (j = 0)) = 0
  · rw [if_neg (fun h => h h1)]
    have h1' := h0.1 h1
    by_cases h2 : x.a = x.b
    · rw [if_pos h2]
      constructor
      · intro h; cases h
      · rintro ⟨_, h, _⟩; exact absurd h2 h
    · rw [if_neg h2]
      by_cases h3 : x.a ∉ g.vs ∨ x.b ∉ g.vs
      · rw [if_pos h3]
        constructor
        · intro h; cases h
        · rintro ⟨_, _, h, h'⟩
          rcases h3 with h3 | h3
          · exact absurd h h3
          · exact absurd h' h3
      · rw [if_neg h3]
        exact ⟨fun _ => ⟨h1', h2, Classical.byContradiction fun h => h3 (.inl h), Classical.byContradiction fun h => h3 (.inr h)⟩, fun _ => rfl⟩
  · rw [if_pos h1]
    constructor
    · intro h; exact absurd h h1
    · rintro ⟨h, _⟩; exact absurd (h0.2 h) h1
theorem chk_full {g : Gr} (h : chk g = 0) : GrF g := by
  unfold chk at h
  by_cases h1 : 64 < g.vs.length ∨ 160 < g.es.length
  · rw [if_pos h1] at h; cases h
  rw [if_neg h1] at h
  by_cases h2 : firstNZ (badV g) g.vs.length = 0
  rotate_left
  · rw [if_pos h2] at h; exact absurd h h2
  rw [if_neg (by simp [h2])] at h
  have gI : ∀ j (hj : j < g.vs.length), g.vs.getD j 0 = g.vs[j] := fun j hj => by rw [List.getD_eq_getElem?_getD, List.getElem?_eq_getElem hj]; rfl
  have hV := fun j hj => (numb_zero_iff _ _ _).1 (nz_all h2 j hj)
  have hE := fun j hj => (badE_zero g j _ rfl).1 (nz_all h j hj)
  have hin : ∀ x ∈ g.es, ∃ j, j < g.es.length ∧ g.es.getD j ed0 = x := fun x hx => by
    obtain ⟨j, hj, rfl⟩ := List.getElem_of_mem hx
    exact ⟨j, hj, gE _ _ hj⟩
  refine ⟨rise_step fun j hj h0 => (hV j hj).2 (by simp; omega), fun v hv => ?_, ?_, fun x hx => ?_, fun x hx => ?_, fun x hx => ?_, by omega, by omega⟩
  · obtain ⟨j, hj, rfl⟩ := List.getElem_of_mem hv
    rw [← gI j hj]; exact (hV j hj).1
  · have := rise_step (l := g.es.map (·.id)) fun j hj h0 => by
      rw [List.length_map] at hj
      have := (hE j hj).1.2 h0
      rw [gE _ _ hj, gE _ _ (by omega)] at this
      rw [List.getD_eq_getElem?_getD, List.getElem?_eq_getElem (by simp; omega), List.getD_eq_getElem?_getD, List.getElem?_eq_getElem (by simp; omega)]
      simpa using this
    rwa [List.pairwise_map] at this
  · obtain ⟨j, hj, rfl⟩ := hin x hx; exact (hE j hj).1.1
  · obtain ⟨j, hj, rfl⟩ := hin x hx; exact (hE j hj).2.1
  · obtain ⟨j, hj, rfl⟩ := hin x hx; exact (hE j hj).2.2
end Go.Proofs.YtomfeddgeihipaaGreat.Aw

namespace Go.Proofs.YtomfeddgeihipaaGreat.Aw
open Go Go.RowKit Go.Proofs.YtomfeddgeihipaaGreat.Pl
set_option linter.unusedSimpArgs false
set_option linter.unusedVariables false

def lightB (g : Gr) : Bool := decide (chk g = 0 ∧ g.vs.length ≤ 16 ∧ g.es.length ≤ 24)
theorem nearR_eq {g : Gr} (h : GrF g) : nearR g = nearF g.es := by
  funext v
  exact (nearF_eq h.ne h.rise h.ends v).symm

end Go.Proofs.YtomfeddgeihipaaGreat.Aw

namespace Go.Proofs.YtomfeddgeihipaaGreat.Aw
open Go Go.RowKit Go.Proofs.YtomfeddgeihipaaGreat.Pl
set_option linter.unusedSimpArgs false
set_option linter.unusedVariables false

@[simp] def boxM (M : Nat) : LObj := .box 130 1 [.mp M]
def RingR (g : Gr) (id : Int) (I : List Ed) (l : List Int) : Prop := if id ∈ idsL I ∨ fe g.es id < 0 then l = [] else refPath g.vs (nearF I) (fun _ => true) (g.es.getD (fe g.es id).toNat ed0).a (g.es.getD (fe g.es id).toNat ed0).b 100 = some l
def RgR (g : Gr) (id : Int) (r : LV) : Prop := ∀ I Rs, IsFo g.es I Rs → ∃ l, RingR g id I l ∧ r = .sl 0 l.length (us l)
theorem RgR.none {g : Gr} {id : Int} (h : ∀ I Rs, IsFo g.es I Rs → id ∈ idsL I ∨ fe g.es id < 0) : RgR g id (z0 .nil) := fun I Rs hI => ⟨[], by unfold RingR; rw [if_pos (h I Rs hI)], rfl⟩
end Go.Proofs.YtomfeddgeihipaaGreat.Aw

namespace Go.Proofs.YtomfeddgeihipaaGreat.Aw
open Go Go.RowKit Go.Proofs.YtomfeddgeihipaaGreat.Pl
set_option linter.unusedSimpArgs false
set_option linter.unusedVariables false

theorem GrF.sub {g : Gr} (h : GrF g) {I : List Ed} (hs : I.Sublist g.es) : GrF ⟨g.vs, I⟩ :=
  ⟨h.rise, h.vpos, h.ids.sublist hs, fun x hx => h.pos x (hs.subset hx), fun x hx => h.ne x (hs.subset hx), fun x hx => h.ends x (hs.subset hx), h.l1, Nat.le_trans hs.length_le h.l2⟩
end Go.Proofs.YtomfeddgeihipaaGreat.Aw

namespace Go.Proofs.YtomfeddgeihipaaGreat.Aw
open Go Go.RowKit Go.Proofs.YtomfeddgeihipaaGreat.Pl
set_option linter.unusedSimpArgs false
set_option linter.unusedVariables false

theorem nearF_nodup {es : List Ed} (hne : ∀ x ∈ es, x.a ≠ x.b) (v : Int) : (nearF es v).Nodup := (nearF_lt hne v).imp fun h => by omega
theorem nearF_symm (es : List Ed) (v w : Int) : w ∈ nearF es v ↔ v ∈ nearF es w := by
  rw [mem_nearF, mem_nearF]; exact ⟨adj_symm, adj_symm⟩

/-- The state ahead of each round. -/
structure OrI (g : Gr) (st : St) (M : Nat) (left W : List Int) (q : Nat) (s : St) : Prop where
  hM : s.H M = .map false [.u32] (fwL left fun v => (fewN (nearF g.es) left v : Int))
  hG : s.H st.next = .box 38 2 (grL g)
  hq : s.H q = .box 41 1 (us W)
  out : ordF (nearF g.es) g.vs.length g.vs = W ++ ordF (nearF g.es) left.length left
  sub : left.Sublist g.vs
  len : W.length + left.length = g.vs.length
  b : st.next < M ∧ M < q ∧ q < s.next
  kp : Keeps st s

set_option maxHeartbeats 2000000 in
theorem Order (g : Gr) (st : St) (hF : GrF g) :
    ACalls Tryz.prog 56 [.ag (grL g)] st fun r st' => r = .sl 0 (ordF (nearF g.es) g.vs.length g.vs).reverse.length (us (ordF (nearF g.es) g.vs.length g.vs).reverse) ∧ Keeps st st' := by
  have hv := hF.l1
  have he := hF.l2
  have hnd : g.vs.Nodup := hF.rise.imp fun h => by omega
  refine acalls_freeze ?_
  refine acalls_of_body tabOk Tryz.func56 rfl rfl Tryz.ntmps56 (rs := [.tmp 2]) rfl (by simp) ?_
  (repeat' (first | refine awp_seq ?_ | refine awp_block ?_ | ((first | refine awp_skip ?_ | refine awp_exit ?_); simp only [ak, reduceIte]) | (refine awp_ret ?_; simp only [ak, reduceIte]; simp []) | (refine awp_cond ?_; simp []; (try with_reducible refine ⟨?_, ?_⟩) <;> (try with_reducible intro hc) <;> try (exfalso; omega)) | ((first | (refine w_e [] ?_; intro J hJ; simp only []) | (refine w_q ?_; intro J hJ) | refine e_go ?_); simp []; (repeat refine ca ?_); (try ((try with_reducible refine ⟨?_, ?_⟩) <;> (try with_reducible intro hnil) <;> refine hJ _ _ ?_ <;> clear hJ J <;> simp only [ak, reduceIte] <;> try subst hnil)))))
  refine awp_range 20 19 21 30 (g.vs.length) (fun j fr st2 => fr 1 = .pt st.next 0 ∧ fr 2 = .nil ∧ fr 3 = .mp (st.next + 1) ∧ fr 18 = .sl 0 g.vs.length (us g.vs) ∧ st2.H st.next = .box 38 2 (grL g) ∧ st.next + 1 < st2.next ∧ st2.H (st.next + 1) = .map false [.u32] (fwL (g.vs.take j) fun v => ((nearF g.es v).length : Int)) ∧ Keeps st st2) ?_ ?_ ?_
  · refine ⟨by simp, by simp, by simp, by simp, by simp, by simp, by simp [fwL], ?_⟩
    exact (Keeps.new _ _).trans (Keeps.new _ _)
  · rintro j fr s hlt ⟨f1, f2, f3, f18, hG, hsn, hM, hkp⟩ fi fn JO hJO
    have hd := us_drop_getD g.vs j hlt
    have htk : g.vs.take (j + 1) = g.vs.take j ++ [g.vs.getD j 0] := by
      rw [List.getD_eq_getElem?_getD, List.getElem?_eq_getElem hlt]; exact List.take_succ_eq_append_getElem hlt
    have hni : g.vs.getD j 0 ∉ g.vs.take j := fun h => by
      have := hnd.sublist (List.take_sublist (j + 1) _)
      rw [htk, List.nodup_append] at this
      exact this.2.2 _ h _ (List.mem_singleton.2 rfl) rfl
    generalize g.vs.getD j 0 = v at *
    (repeat' (first | refine awp_seq ?_ | refine awp_block ?_ | ((first | refine awp_skip ?_ | refine awp_exit ?_); simp only [ak, reduceIte]) | (refine awp_ret ?_; simp only [ak, reduceIte]; simp [f1, f3, f18, fi, fn, hd, hlt, hG]) | (refine awp_cond ?_; simp [f1, f3, f18, fi, fn, hd, hlt, hG]; (try with_reducible refine ⟨?_, ?_⟩) <;> (try with_reducible intro hc) <;> try (exfalso; omega)) | ((first | (refine w_e [] ?_; intro J hJ; simp only []) | (refine w_q ?_; intro J hJ) | refine e_go ?_); simp [f1, f3, f18, fi, fn, hd, hlt, hG]; (repeat refine ca ?_); (try ((try with_reducible refine ⟨?_, ?_⟩) <;> (try with_reducible intro hnil) <;> refine hJ _ _ ?_ <;> clear hJ J <;> simp only [ak, reduceIte] <;> try subst hnil)))))
    refine callK_ofE (Near g v s (by omega) (by omega)) (by simp) ?_; rintro r s2 ⟨rfl, hk2⟩
    have hn2 := hk2.next
    have hM2 := (hk2.H (st.next + 1) hsn).trans hM
    have hG2 := (hk2.H st.next (by omega)).trans hG
    have hms := mset_fw_new (val := fun v => ((nearF g.es v).length : Int)) (w := ((nearF g.es v).length : Int)) hni
    (repeat' (first | refine awp_seq ?_ | refine awp_block ?_ | ((first | refine awp_skip ?_ | refine awp_exit ?_); simp only [ak, reduceIte]) | (refine awp_ret ?_; simp only [ak, reduceIte]; simp [hM2]) | (refine awp_cond ?_; simp [hM2]; (try with_reducible refine ⟨?_, ?_⟩) <;> (try with_reducible intro hc) <;> try (exfalso; omega)) | ((first | (refine w_e [] ?_; intro J hJ; simp only []) | (refine w_q ?_; intro J hJ) | refine e_go ?_); simp [hM2]; (repeat refine ca ?_); (try ((try with_reducible refine ⟨?_, ?_⟩) <;> (try with_reducible intro hnil) <;> refine hJ _ _ ?_ <;> clear hJ J <;> simp only [ak, reduceIte] <;> try subst hnil)))))
    refine hJO _ _ (by simp [fi]) (by simp [fn]) ⟨by simp [f1], by simp [f2], by simp [f3], by simp [f18], by (repeat (first | rw [new_H, if_neg (α := LObj) (by (try simp only [set_next, new_next]); omega)] | rw [set_H, if_neg (α := LObj) (by omega)] | rw [new_H, if_pos (α := LObj) (by (try simp only [set_next, new_next]))] | rw [set_H, if_pos (α := LObj) (by omega)])); exact hG2, by simp; omega, ?_, (hkp.trans hk2).set (by omega) _⟩
    rw [set_H, if_pos rfl, hms, htk]
    congr 1
    exact fwL_congr fun w _ => by
      by_cases hw : w = v
      · rw [if_pos hw, hw]
      · rw [if_neg hw]
  rintro fr s ⟨f1, f2, f3, f18, hG, hsn, hM, hkp⟩
  rw [List.take_length] at hM
  (repeat' (first | refine awp_seq ?_ | refine awp_block ?_ | ((first | refine awp_skip ?_ | refine awp_exit ?_); simp only [ak, reduceIte]) | (refine awp_ret ?_; simp only [ak, reduceIte]; simp []) | (refine awp_cond ?_; simp []; (try with_reducible refine ⟨?_, ?_⟩) <;> (try with_reducible intro hc) <;> try (exfalso; omega)) | ((first | (refine w_e [] ?_; intro J hJ; simp only []) | (refine w_q ?_; intro J hJ) | refine e_go ?_); simp []; (repeat refine ca ?_); (try ((try with_reducible refine ⟨?_, ?_⟩) <;> (try with_reducible intro hnil) <;> refine hJ _ _ ?_ <;> clear hJ J <;> simp only [ak, reduceIte] <;> try subst hnil)))))
  refine awp_ownM 6 41 1 (by simp) ?_
  refine awp_loop (fun n fr s => ∃ left W q, n = left.length ∧ fr 1 = .pt st.next 0 ∧ fr 2 = .nil ∧ fr 3 = .mp (st.next + 1) ∧ fr 6 = .ms q 0 W.length ∧ OrI g st (st.next + 1) left W q s) g.vs.length ?_ ?_
  · refine ⟨g.vs, [], s.next, rfl, by simp [f1], by simp [f2], by simp [f3], by simp, ?_⟩
    have e1 : ¬ st.next + 1 = s.next := by omega
    have e2 : ¬ st.next = s.next := by omega
    refine ⟨?_, by rw [new_H, if_neg e2]; exact hG, by simp, rfl, .refl _, by simp, ⟨by omega, by omega, by simp⟩, hkp.trans (Keeps.new _ _)⟩
    rw [new_H, if_neg e1, hM]
    congr 1
    exact fwL_congr fun w _ => by
      unfold fewN
      rw [List.filter_eq_self.2]
      intro x hx
      rw [decide_eq_true_eq]
      obtain ⟨y, hy, ⟨_, rfl⟩ | ⟨rfl, _⟩⟩ := mem_nearF.1 hx
      · exact (hF.ends y hy).2
      · exact (hF.ends y hy).1
  clear f1 f2 f3 f18 hG hsn hM hkp fr s
  rintro n fr s ⟨left, W, q, rfl, f1, f2, f3, f6, hI⟩ JJ hJJ
  obtain ⟨hM, hG, hq, hout, hsub, hlen, ⟨hb1, hb2, hb3⟩, hkp⟩ := hI
  generalize hMM : st.next + 1 = M at *
  have hfl := fwL_len left fun v => (fewN (nearF g.es) left v : Int)
  by_cases hl0 : left = []
  · clear hJJ
    subst hl0
    have hfl' : decide ((0 : Int) < ((fwL [] fun v => (fewN (nearF g.es) [] v : Int)).length : Int)) = false := by simp [fwL]
    have hWo : ordF (nearF g.es) g.vs.length g.vs = W := by rw [hout]; simp [ordF]
    (repeat' (first | refine awp_seq ?_ | refine awp_block ?_ | ((first | refine awp_skip ?_ | refine awp_exit ?_); simp only [ak, reduceIte]) | (refine awp_ret ?_; simp only [ak, reduceIte]; simp [f3, hM, hfl, hfl', f6]) | (refine awp_cond ?_; simp [f3, hM, hfl, hfl', f6]; (try with_reducible refine ⟨?_, ?_⟩) <;> (try with_reducible intro hc) <;> try (exfalso; omega)) | ((first | (refine w_e [] ?_; intro J hJ; simp only []) | (refine w_q ?_; intro J hJ) | refine e_go ?_); simp [f3, hM, hfl, hfl', f6]; (repeat refine ca ?_); (try ((try with_reducible refine ⟨?_, ?_⟩) <;> (try with_reducible intro hnil) <;> refine hJ _ _ ?_ <;> clear hJ J <;> simp only [ak, reduceIte] <;> try subst hnil)))))
    refine callK_ofE (Reverse W q s (by unfold small; simp at hlen; omega) hq) (by simp []) ?_; rintro r st' rfl
    (repeat' (first | refine awp_seq ?_ | refine awp_block ?_ | ((first | refine awp_skip ?_ | refine awp_exit ?_); simp only [ak, reduceIte]) | (refine awp_ret ?_; simp only [ak, reduceIte]; simp [f6]) | (refine awp_cond ?_; simp [f6]; (try with_reducible refine ⟨?_, ?_⟩) <;> (try with_reducible intro hc) <;> try (exfalso; omega)) | ((first | (refine w_e [] ?_; intro J hJ; simp only []) | (refine w_q ?_; intro J hJ) | refine e_go ?_); simp [f6]; (repeat refine ca ?_); (try ((try with_reducible refine ⟨?_, ?_⟩) <;> (try with_reducible intro hnil) <;> refine hJ _ _ ?_ <;> clear hJ J <;> simp only [ak, reduceIte] <;> try subst hnil)))))
    rw [hWo]
    exact ⟨q, W.length, ⟨rfl, rfl⟩, 41, 1, us W.reverse, by simp, by simp, by simp, (hkp.set (by omega) _).set (by omega) _⟩
  have hpos : 0 < left.length := List.length_pos_iff.2 hl0
  have hpos2 : (0 : Int) < left.length := by omega
  have hnl : left.Nodup := hnd.sublist hsub
  have hmz : ∀ v ∈ g.vs, v ≠ 0 := fun v hv => by have := hF.vpos v hv; omega
  (repeat' (first | refine awp_seq ?_ | refine awp_block ?_ | ((first | refine awp_skip ?_ | refine awp_exit ?_); simp only [ak, reduceIte]) | (refine awp_ret ?_; simp only [ak, reduceIte]; simp [f3, f1, hM, hfl, hpos, hpos2, hG]) | (refine awp_cond ?_; simp [f3, f1, hM, hfl, hpos, hpos2, hG]; (try with_reducible refine ⟨?_, ?_⟩) <;> (try with_reducible intro hc) <;> try (exfalso; omega)) | ((first | (refine w_e [] ?_; intro J hJ; simp only []) | (refine w_q ?_; intro J hJ) | refine e_go ?_); simp [f3, f1, hM, hfl, hpos, hpos2, hG]; (repeat refine ca ?_); (try ((try with_reducible refine ⟨?_, ?_⟩) <;> (try with_reducible intro hnil) <;> refine hJ _ _ ?_ <;> clear hJ J <;> simp only [ak, reduceIte] <;> try subst hnil)))))
  refine awp_range 37 36 38 60 (g.vs.length) (fun j fr st2 => fr 1 = .pt st.next 0 ∧ fr 2 = .nil ∧ fr 3 = .mp M ∧ fr 6 = .ms q 0 W.length ∧ fr 35 = .sl 0 g.vs.length (us g.vs) ∧ st2 = s ∧ fr 7 = u (bst (nearF g.es) left ((g.vs.take j).filter fun w => decide (w ∈ left)) 0)) ?_ ?_ ?_
  · exact ⟨by simp [f1], by simp [f2], by simp [f3], by simp [f6], by simp, rfl, by simp [bst]⟩
  · rintro j fr s2 hlt ⟨g1, g2, g3, g6, g35, rfl, g7⟩ fi fn JO hJO
    have hd := us_drop_getD g.vs j hlt
    have htk : (g.vs.take (j + 1)).filter (fun w => decide (w ∈ left)) = (g.vs.take j).filter (fun w => decide (w ∈ left)) ++ if g.vs.getD j 0 ∈ left then [g.vs.getD j 0] else [] := by
      rw [List.take_succ_eq_append_getElem hlt, List.filter_append, List.getD_eq_getElem?_getD, List.getElem?_eq_getElem hlt]
      by_cases h : g.vs[j] ∈ left <;> simp [h]
    rw [htk] at hJO
    have hbm := bst_mem (nearF g.es) left ((g.vs.take j).filter fun w => decide (w ∈ left)) 0 (.inl rfl) (fun v hv => by simpa using (List.mem_filter.1 hv).2)
    have hmg := mget_fw (fun v => (fewN (nearF g.es) left v : Int)) (g.vs.getD j 0) left
    have hbs := fun v => bst_snoc (nearF g.es) left ((g.vs.take j).filter fun w => decide (w ∈ left)) 0 v
    generalize g.vs.getD j 0 = v at *
    generalize (g.vs.take j).filter (fun w => decide (w ∈ left)) = T at *
    generalize hB : bst (nearF g.es) left T 0 = b at *
    have hmb := mget_fw (fun v => (fewN (nearF g.es) left v : Int)) b left
    by_cases hvl : v ∈ left
    rotate_left
    · rw [if_neg hvl] at hmg hJO
      rw [List.append_nil, hB] at hJO
      (repeat' (first | refine awp_seq ?_ | refine awp_block ?_ | ((first | refine awp_skip ?_ | refine awp_exit ?_); simp only [ak, reduceIte]) | (refine awp_ret ?_; simp only [ak, reduceIte]; simp [g3, g35, fi, fn, hd, hlt, hM, hmg]) | (refine awp_cond ?_; simp [g3, g35, fi, fn, hd, hlt, hM, hmg]; (try with_reducible refine ⟨?_, ?_⟩) <;> (try with_reducible intro hc) <;> try (exfalso; omega)) | ((first | (refine w_e [] ?_; intro J hJ; simp only []) | (refine w_q ?_; intro J hJ) | refine e_go ?_); simp [g3, g35, fi, fn, hd, hlt, hM, hmg]; (repeat refine ca ?_); (try ((try with_reducible refine ⟨?_, ?_⟩) <;> (try with_reducible intro hnil) <;> refine hJ _ _ ?_ <;> clear hJ J <;> simp only [ak, reduceIte] <;> try subst hnil)))))
      exact hJO _ _ (by simp [fi]) (by simp [fn]) ⟨by simp [g1], by simp [g2], by simp [g3], by simp [g6], by simp [g35], rfl, by simp [g7]⟩
    rw [if_pos hvl] at hmg hJO
    rw [hbs] at hJO
    unfold bstS at hJO
    by_cases hb0 : b = 0
    · rw [if_pos (.inl hb0)] at hJO
      have hb0' : (b == 0) = true := by simpa using hb0
      (repeat' (first | refine awp_seq ?_ | refine awp_block ?_ | ((first | refine awp_skip ?_ | refine awp_exit ?_); simp only [ak, reduceIte]) | (refine awp_ret ?_; simp only [ak, reduceIte]; simp [g3, g35, fi, fn, hd, hlt, hM, hmg, g7, hb0, hb0']) | (refine awp_cond ?_; simp [g3, g35, fi, fn, hd, hlt, hM, hmg, g7, hb0, hb0']; (try with_reducible refine ⟨?_, ?_⟩) <;> (try with_reducible intro hc) <;> try (exfalso; omega)) | ((first | (refine w_e [] ?_; intro J hJ; simp only []) | (refine w_q ?_; intro J hJ) | refine e_go ?_); simp [g3, g35, fi, fn, hd, hlt, hM, hmg, g7, hb0, hb0']; (repeat refine ca ?_); (try ((try with_reducible refine ⟨?_, ?_⟩) <;> (try with_reducible intro hnil) <;> refine hJ _ _ ?_ <;> clear hJ J <;> simp only [ak, reduceIte] <;> try subst hnil)))))
      exact hJO _ _ (by simp [fi]) (by simp [fn]) ⟨by simp [g1], by simp [g2], by simp [g3], by simp [g6], by simp [g35], rfl, by simp⟩
    have hb0' : (b == 0) = false := by simpa using hb0
    rw [if_pos (hbm.resolve_left hb0)] at hmb
    by_cases hle : fewN (nearF g.es) left v ≤ fewN (nearF g.es) left b
    · rw [if_pos (.inr hle)] at hJO
      have hle' : decide ((fewN (nearF g.es) left v : Int) ≤ (fewN (nearF g.es) left b : Int)) = true := decide_eq_true (by omega)
      (repeat' (first | refine awp_seq ?_ | refine awp_block ?_ | ((first | refine awp_skip ?_ | refine awp_exit ?_); simp only [ak, reduceIte]) | (refine awp_ret ?_; simp only [ak, reduceIte]; simp [g3, g35, fi, fn, hd, hlt, hM, hmg, g7, hb0, hb0', hmb, hle, hle']) | (refine awp_cond ?_; simp [g3, g35, fi, fn, hd, hlt, hM, hmg, g7, hb0, hb0', hmb, hle, hle']; (try with_reducible refine ⟨?_, ?_⟩) <;> (try with_reducible intro hc) <;> try (exfalso; omega)) | ((first | (refine w_e [] ?_; intro J hJ; simp only []) | (refine w_q ?_; intro J hJ) | refine e_go ?_); simp [g3, g35, fi, fn, hd, hlt, hM, hmg, g7, hb0, hb0', hmb, hle, hle']; (repeat refine ca ?_); (try ((try with_reducible refine ⟨?_, ?_⟩) <;> (try with_reducible intro hnil) <;> refine hJ _ _ ?_ <;> clear hJ J <;> simp only [ak, reduceIte] <;> try subst hnil)))))
      exact hJO _ _ (by simp [fi]) (by simp [fn]) ⟨by simp [g1], by simp [g2], by simp [g3], by simp [g6], by simp [g35], rfl, by simp⟩
    · rw [if_neg (by rw [not_or]; exact ⟨hb0, hle⟩)] at hJO
      have hle' : decide ((fewN (nearF g.es) left v : Int) ≤ (fewN (nearF g.es) left b : Int)) = false := decide_eq_false (by omega)
      (repeat' (first | refine awp_seq ?_ | refine awp_block ?_ | ((first | refine awp_skip ?_ | refine awp_exit ?_); simp only [ak, reduceIte]) | (refine awp_ret ?_; simp only [ak, reduceIte]; simp [g3, g35, fi, fn, hd, hlt, hM, hmg, g7, hb0, hb0', hmb, hle, hle']) | (refine awp_cond ?_; simp [g3, g35, fi, fn, hd, hlt, hM, hmg, g7, hb0, hb0', hmb, hle, hle']; (try with_reducible refine ⟨?_, ?_⟩) <;> (try with_reducible intro hc) <;> try (exfalso; omega)) | ((first | (refine w_e [] ?_; intro J hJ; simp only []) | (refine w_q ?_; intro J hJ) | refine e_go ?_); simp [g3, g35, fi, fn, hd, hlt, hM, hmg, g7, hb0, hb0', hmb, hle, hle']; (repeat refine ca ?_); (try ((try with_reducible refine ⟨?_, ?_⟩) <;> (try with_reducible intro hnil) <;> refine hJ _ _ ?_ <;> clear hJ J <;> simp only [ak, reduceIte] <;> try subst hnil)))))
      exact hJO _ _ (by simp [fi]) (by simp [fn]) ⟨by simp [g1], by simp [g2], by simp [g3], by simp [g6], by simp [g35], rfl, by simp [g7]⟩
  rintro fr s2 ⟨g1, g2, g3, g6, g35, rfl, g7⟩
  have hvl : g.vs.filter (fun w => decide (w ∈ left)) = left := rise_unique (hF.rise.sublist List.filter_sublist) (hF.rise.sublist hsub) fun w => by
    rw [List.mem_filter, decide_eq_true_eq]
    exact ⟨fun h => h.2, fun h => ⟨hsub.subset h, h⟩⟩
  rw [List.take_length, hvl] at g7
  have hbm : bst (nearF g.es) left left 0 ∈ left := (bst_mem (nearF g.es) left left 0 (.inl rfl) fun _ h => h).resolve_left (bst_ne _ _ _ _ (.inr hl0) fun v hv => hmz v (hsub.subset hv))
  have hoF : ordF (nearF g.es) left.length left = bst (nearF g.es) left left 0 :: ordF (nearF g.es) (left.erase (bst (nearF g.es) left left 0)).length (left.erase (bst (nearF g.es) left left 0)) := by
    obtain ⟨m, hm⟩ : ∃ m, left.length = m + 1 := ⟨left.length - 1, by omega⟩
    rw [List.length_erase_of_mem hbm, hm]
    simp only [ordF, if_neg hl0, Nat.add_sub_cancel]
  generalize bst (nearF g.es) left left 0 = b at *
  have hml := mdel_fw (fun v => (fewN (nearF g.es) left v : Int)) b left
  have c0 : ¬ st.next = M := by omega
  have c0' : ¬ q = M := by omega
  (repeat' (first | refine awp_seq ?_ | refine awp_block ?_ | ((first | refine awp_skip ?_ | refine awp_exit ?_); simp only [ak, reduceIte]) | (refine awp_ret ?_; simp only [ak, reduceIte]; simp [g1, g3, g7, hM, hml, hG, c0]) | (refine awp_cond ?_; simp [g1, g3, g7, hM, hml, hG, c0]; (try with_reducible refine ⟨?_, ?_⟩) <;> (try with_reducible intro hc) <;> try (exfalso; omega)) | ((first | (refine w_e [] ?_; intro J hJ; simp only []) | (refine w_q ?_; intro J hJ) | refine e_go ?_); simp [g1, g3, g7, hM, hml, hG, c0]; (repeat refine ca ?_); (try ((try with_reducible refine ⟨?_, ?_⟩) <;> (try with_reducible intro hnil) <;> refine hJ _ _ ?_ <;> clear hJ J <;> simp only [ak, reduceIte] <;> try subst hnil)))))
  generalize hs3 : s2.set M (.map false [.u32] (fwL (left.erase b) fun v => (fewN (nearF g.es) left v : Int))) = s3 at *
  have hM3 : s3.H M = .map false [.u32] (fwL (left.erase b) fun v => (fewN (nearF g.es) left v : Int)) := by rw [← hs3, set_H, if_pos rfl]
  have hG3 : s3.H st.next = .box 38 2 (grL g) := by rw [← hs3, set_H, if_neg c0]; exact hG
  have hq3 : s3.H q = .box 41 1 (us W) := by rw [← hs3, set_H, if_neg c0']; exact hq
  have n3 : s3.next = s2.next := by rw [← hs3]; simp
  have k3 : Keeps st s3 := by rw [← hs3]; exact hkp.set (by omega) _
  refine callK_ofE (Near g b s3 (by omega) (by omega)) (by simp) ?_; rintro r s4 ⟨rfl, hk4⟩
  have hn4 := hk4.next
  have hM4 := (hk4.H M (by omega)).trans hM3
  have hG4 := (hk4.H st.next (by omega)).trans hG3
  have hq4 := (hk4.H q (by omega)).trans hq3
  have hnb := nearF_nodup hF.ne b
  have hNl := nearF_len g.es b
  have hsy := nearF_symm g.es b
  have hne := hnl.erase b
  generalize hN : nearF g.es b = N at *
  (repeat' (first | refine awp_seq ?_ | refine awp_block ?_ | ((first | refine awp_skip ?_ | refine awp_exit ?_); simp only [ak, reduceIte]) | (refine awp_ret ?_; simp only [ak, reduceIte]; simp []) | (refine awp_cond ?_; simp []; (try with_reducible refine ⟨?_, ?_⟩) <;> (try with_reducible intro hc) <;> try (exfalso; omega)) | ((first | (refine w_e [] ?_; intro J hJ; simp only []) | (refine w_q ?_; intro J hJ) | refine e_go ?_); simp []; (repeat refine ca ?_); (try ((try with_reducible refine ⟨?_, ?_⟩) <;> (try with_reducible intro hnil) <;> refine hJ _ _ ?_ <;> clear hJ J <;> simp only [ak, reduceIte] <;> try subst hnil)))))
  refine awp_range 67 66 68 82 (N.length) (fun j fr st2 => fr 1 = .pt st.next 0 ∧ fr 2 = .nil ∧ fr 3 = .mp M ∧ fr 6 = .ms q 0 W.length ∧ fr 7 = u b ∧ fr 65 = .sl 0 N.length (us N) ∧ st2.next = s4.next ∧ (∀ x, x ≠ M → st2.H x = s4.H x) ∧ st2.H M = .map false [.u32] (fwL (left.erase b) fun v => (fewN (nearF g.es) left v : Int) - if v ∈ N.take j then 1 else 0)) ?_ ?_ ?_
  · exact ⟨by simp [g1], by simp [g2], by simp [g3], by simp [g6], by simp [g7], by simp, rfl, fun _ _ => rfl, by simpa using hM4⟩
  · rintro j fr s5 hlt ⟨r1, r2, r3, r6, r7, r65, hn5, hold5, hM5⟩ fi fn JO hJO
    have hd := us_drop_getD N j hlt
    have htk : N.take (j + 1) = N.take j ++ [N.getD j 0] := by
      rw [List.getD_eq_getElem?_getD, List.getElem?_eq_getElem hlt]; exact List.take_succ_eq_append_getElem hlt
    have hni : N.getD j 0 ∉ N.take j := fun h => by
      have := hnb.sublist (List.take_sublist (j + 1) _)
      rw [htk, List.nodup_append] at this
      exact this.2.2 _ h _ (List.mem_singleton.2 rfl) rfl
    rw [htk] at hJO
    generalize N.getD j 0 = v at *
    have hmg := mget_fw (fun v => (fewN (nearF g.es) left v : Int) - if v ∈ N.take j then 1 else 0) v (left.erase b)
    have hmo := fun w => mset_fw_old (val := fun v => (fewN (nearF g.es) left v : Int) - if v ∈ N.take j then 1 else 0) (v := v) (w := w) hne
    generalize N.take j = T at *
    by_cases hvl : v ∈ left.erase b
    · rw [if_pos hvl, if_neg hni] at hmg
      have hfl2 : fewN (nearF g.es) left v ≤ 1000 := by
        have h1 := nearF_len g.es v
        have h2 := List.length_filter_le (fun w => decide (w ∈ left)) (nearF g.es v)
        unfold fewN; omega
      have hwr : IntKind.i64.wrap ((fewN (nearF g.es) left v : Int) - 1) = (fewN (nearF g.es) left v : Int) - 1 := wrap_i64 _ (by omega) (by omega)
      (repeat' (first | refine awp_seq ?_ | refine awp_block ?_ | ((first | refine awp_skip ?_ | refine awp_exit ?_); simp only [ak, reduceIte]) | (refine awp_ret ?_; simp only [ak, reduceIte]; simp [r3, r65, fi, fn, hd, hlt, hM5, hmg, hwr]) | (refine awp_cond ?_; simp [r3, r65, fi, fn, hd, hlt, hM5, hmg, hwr]; (try with_reducible refine ⟨?_, ?_⟩) <;> (try with_reducible intro hc) <;> try (exfalso; omega)) | ((first | (refine w_e [] ?_; intro J hJ; simp only []) | (refine w_q ?_; intro J hJ) | refine e_go ?_); simp [r3, r65, fi, fn, hd, hlt, hM5, hmg, hwr]; (repeat refine ca ?_); (try ((try with_reducible refine ⟨?_, ?_⟩) <;> (try with_reducible intro hnil) <;> refine hJ _ _ ?_ <;> clear hJ J <;> simp only [ak, reduceIte] <;> try subst hnil)))))
      refine hJO _ _ (by simp [fi]) (by simp [fn]) ⟨by simp [r1], by simp [r2], by simp [r3], by simp [r6], by simp [r7], by simp [r65], by simp [hn5], fun x hx => by rw [set_H, if_neg hx]; exact hold5 x hx, ?_⟩
      rw [set_H, if_pos rfl, hmo _ hvl]
      congr 1
      refine fwL_congr fun w _ => ?_
      by_cases hw : w = v
      · rw [if_pos hw, if_pos (by simp [hw]), hw]
      · rw [if_neg hw]; simp [hw]
    · rw [if_neg hvl] at hmg
      (repeat' (first | refine awp_seq ?_ | refine awp_block ?_ | ((first | refine awp_skip ?_ | refine awp_exit ?_); simp only [ak, reduceIte]) | (refine awp_ret ?_; simp only [ak, reduceIte]; simp [r3, r65, fi, fn, hd, hlt, hM5, hmg]) | (refine awp_cond ?_; simp [r3, r65, fi, fn, hd, hlt, hM5, hmg]; (try with_reducible refine ⟨?_, ?_⟩) <;> (try with_reducible intro hc) <;> try (exfalso; omega)) | ((first | (refine w_e [] ?_; intro J hJ; simp only []) | (refine w_q ?_; intro J hJ) | refine e_go ?_); simp [r3, r65, fi, fn, hd, hlt, hM5, hmg]; (repeat refine ca ?_); (try ((try with_reducible refine ⟨?_, ?_⟩) <;> (try with_reducible intro hnil) <;> refine hJ _ _ ?_ <;> clear hJ J <;> simp only [ak, reduceIte] <;> try subst hnil)))))
      refine hJO _ _ (by simp [fi]) (by simp [fn]) ⟨by simp [r1], by simp [r2], by simp [r3], by simp [r6], by simp [r7], by simp [r65], hn5, hold5, ?_⟩
      rw [hM5]
      congr 1
      refine fwL_congr fun w hw => ?_
      have hwv : ¬ w = v := fun e => hvl (e ▸ hw)
      simp [hwv]
  rintro fr s5 ⟨r1, r2, r3, r6, r7, r65, hn5, hold5, hM5⟩
  rw [List.take_length] at hM5
  have hq5 := (hold5 q c0').trans hq4
  have hG5 := (hold5 st.next c0).trans hG4
  have q1 : ¬ q = s5.next := by omega
  have htkW : List.take W.length (us W) = us W := List.take_of_length_le (by simp)
  have hWl : W.length ≤ 1000 := by omega
  (repeat' (first | refine awp_seq ?_ | refine awp_block ?_ | ((first | refine awp_skip ?_ | refine awp_exit ?_); simp only [ak, reduceIte]) | (refine awp_ret ?_; simp only [ak, reduceIte]; simp [r6, r7, hq5, q1, htkW]) | (refine awp_cond ?_; simp [r6, r7, hq5, q1, htkW]; (try with_reducible refine ⟨?_, ?_⟩) <;> (try with_reducible intro hc) <;> try (exfalso; omega)) | ((first | (refine w_e [] ?_; intro J hJ; simp only []) | (refine w_q ?_; intro J hJ) | refine e_go ?_); simp [r6, r7, hq5, q1, htkW]; (repeat refine ca ?_); (try ((try with_reducible refine ⟨?_, ?_⟩) <;> (try with_reducible intro hnil) <;> refine hJ _ _ ?_ <;> clear hJ J <;> simp only [ak, reduceIte] <;> try subst hnil)))))
  have hlb := List.length_erase_of_mem hbm
  refine hJJ (left.erase b).length _ _ (by omega) ⟨left.erase b, W ++ [b], s5.next + 1, rfl, by simp [r1], by simp [r2], by simp [r3], by simp, ?_⟩
  have d1 : ¬ M = q := by omega
  have d2 : ¬ st.next = q := by omega
  have k5 : Keeps st s5 := ⟨by have := k3.next; omega, fun x hx => by rw [hold5 x (by omega)]; exact (k3.trans hk4).H x hx⟩
  refine ⟨?_, by (repeat (first | rw [new_H, if_neg (α := LObj) (by (try simp only [set_next, new_next]); omega)] | rw [set_H, if_neg (α := LObj) (by omega)] | rw [new_H, if_pos (α := LObj) (by (try simp only [set_next, new_next]))] | rw [set_H, if_pos (α := LObj) (by omega)])); exact hG5, by (repeat (first | rw [new_H, if_neg (α := LObj) (by (try simp only [set_next, new_next]); omega)] | rw [set_H, if_neg (α := LObj) (by omega)] | rw [new_H, if_pos (α := LObj) (by (try simp only [set_next, new_next]))] | rw [set_H, if_pos (α := LObj) (by omega)])); simp, by rw [hout, hoF]; simp, List.erase_sublist.trans hsub, by simp; omega, ⟨by omega, by omega, by simp⟩, ((k5.trans (Keeps.new _ _)).set (by omega) _).trans (Keeps.new _ _)⟩
  rw [new_H, if_neg (α := LObj) (by simp; omega), set_H, if_neg (α := LObj) d1, new_H, if_neg (α := LObj) (by omega), hM5]
  congr 1
  refine fwL_congr fun w _ => ?_
  have hfe := fewN_erase (near := nearF g.es) hnl (nearF_nodup hF.ne) (nearF_symm g.es) (v := w) hbm
  rw [hN] at hfe
  rw [hfe]
  split <;> simp

end Go.Proofs.YtomfeddgeihipaaGreat.Aw

namespace Go.Proofs.YtomfeddgeihipaaGreat.Aw
open Go Go.RowKit Go.Proofs.YtomfeddgeihipaaGreat.Pl
set_option linter.unusedSimpArgs false
set_option linter.unusedVariables false

def setM (X : LV) (K : List Int) : List (List Int × LV) := K.map fun n => ([n], X)
theorem setM_len (X : LV) (K : List Int) : (setM X K).length = K.length := by simp [setM]
theorem mset_setM (X : LV) (n : Int) : ∀ K : List Int, mset (setM X K) [n] X = setM X (if n ∈ K then K else K ++ [n])
  | [] => rfl
  | k :: K => by
    have ih := mset_setM X n K
    simp only [setM, List.map_cons, mset] at ih ⊢
    by_cases h : n = k
    · subst h; simp
    · rw [if_neg (by simpa using h), ih]
      by_cases h2 : n ∈ K
      · simp [h, h2]
      · simp [h, h2]
/-- Unlike numbers above zero. -/
def IsPos (l K : List Int) : Prop := K.Nodup ∧ ∀ n, n ∈ K ↔ n ∈ l ∧ 0 < n
theorem IsPos.len {l l' K K' : List Int} (h : IsPos l K) (h' : IsPos l' K') (hl : ∀ n, n ∈ l ↔ n ∈ l') : K.length = K'.length :=
  ((List.perm_ext_iff_of_nodup h.1 h'.1).2 fun n => by rw [h.2, h'.2, hl]).length_eq
theorem IsPos.add {l K : List Int} (h : IsPos l K) (n : Int) (l' : List Int) (hl : ∀ x, x ∈ l' ↔ x = n ∨ x ∈ l) : IsPos l' (if 0 < n then (if n ∈ K then K else K ++ [n]) else K) := by
  obtain ⟨h1, h2⟩ := h
  by_cases hn : 0 < n
  · rw [if_pos hn]
    by_cases hk : n ∈ K
    · rw [if_pos hk]
      refine ⟨h1, fun x => ?_⟩
      rw [h2, hl]
      constructor
      · exact fun h => ⟨.inr h.1, h.2⟩
      · rintro ⟨rfl | h, h3⟩
        · exact (h2 _).1 hk
        · exact ⟨h, h3⟩
    · rw [if_neg hk]
      refine ⟨?_, fun x => ?_⟩
      · rw [List.nodup_append]
        refine ⟨h1, by simp, fun a ha b hb => ?_⟩
        rw [List.mem_singleton] at hb
        subst hb
        rintro rfl
        exact hk ha
      · rw [List.mem_append, List.mem_singleton, h2, hl]
        constructor
        · rintro (h | rfl)
          · exact ⟨.inr h.1, h.2⟩
          · exact ⟨.inl rfl, hn⟩
        · rintro ⟨rfl | h, h3⟩
          · exact .inr rfl
          · exact .inl ⟨h, h3⟩
  · rw [if_neg hn]
    refine ⟨h1, fun x => ?_⟩
    rw [h2, hl]
    constructor
    · exact fun h => ⟨.inr h.1, h.2⟩
    · rintro ⟨rfl | h, h3⟩
      · exact absurd h3 hn
      · exact ⟨h, h3⟩

theorem clL_split {B : Led} {L1 L2 : List (List Int × LV)} {p : List Int × LV} (h : clL B = L1 ++ p :: L2) : ∃ (B1 B2 : Led) (v n : Int), B = B1 ++ (v, n) :: B2 ∧ L1 = clL B1 ∧ L2 = clL B2 ∧ p = ([v], i n) := by
  obtain ⟨B1, B', rfl, h1, h2⟩ := List.map_eq_append_iff.1 h
  obtain ⟨⟨v, n⟩, B2, rfl, h3, h4⟩ := List.map_eq_cons_iff.1 h2
  exact ⟨B1, B2, v, n, rfl, h1.symm, h4.symm, h3.symm⟩
theorem clL_app (A B : Led) : clL A ++ clL B = clL (A ++ B) := by simp [clL]
structure CntI (st : St) (m q : Nat) (X : LV) (ag : Bool) (A : Led) (L : List (List Int × LV)) (s : St) : Prop where
  row : ∃ B D : Led, L = clL B ∧ (A.map (·.2)).Perm ((B.map (·.2)) ++ D.map (·.2)) ∧ ∃ K, IsPos (D.map (·.2)) K ∧ K.length ≤ D.length ∧ s.H q = .map false [.i64] (setM X K)
  hid : s.H m = .dead ∧ ∀ l, l < st.next → l ≠ m → s.H l = st.H l
  b : st.next ≤ q ∧ q < s.next

set_option maxHeartbeats 1000000 in
theorem Count (m : Nat) (A : Led) (st : St) (hm : st.H m = .map false [.u32] (clL A)) (hml : m < st.next) (hl : A.length ≤ 1000) :
    ACalls Tryz.prog 26 [.mp m] st fun r st' => (∃ K, IsPos (A.map (·.2)) K ∧ r = i K.length) ∧ Keeps st st' := by
  have hmn : m ≠ st.next := by omega
  refine acalls_of_body tabOk Tryz.func26 rfl rfl Tryz.ntmps26 (rs := [.tmp 2]) rfl (by simp) ?_
  refine awp_seq ?_
  (refine w_e [] ?_; intro J hJ; simp only []; simp []; (repeat refine ca ?_); (try ((try with_reducible refine ⟨?_, ?_⟩) <;> (try with_reducible intro hnil) <;> refine hJ _ _ ?_ <;> clear hJ J <;> simp only [ak, reduceIte] <;> try subst hnil)))
  refine awp_seq ?_
  (refine w_e [] ?_; intro J hJ; simp only []; simp []; (repeat refine ca ?_); (try ((try with_reducible refine ⟨?_, ?_⟩) <;> (try with_reducible intro hnil) <;> refine hJ _ _ ?_ <;> clear hJ J <;> simp only [ak, reduceIte] <;> try subst hnil)))
  refine awp_seq ?_
  refine awp_mapRange tabOk [] (fun L fr s => fr 3 = .mp st.next ∧ CntI st m st.next (.ag []) false A L s) (m := m) (ag := false) (ks := [.u32]) (es := clL A) (by simp) (by rw [new_H, if_neg hmn]; exact hm) ?_ ?_ ?_ Tryz.underlying40
  · intro r
    refine ⟨by simp, ⟨⟨A, [], rfl, by simp, [], ⟨by simp, by simp⟩, by simp, ?_⟩, ⟨by simp, fun l h1 h2 => by rw [set_H, if_neg h2, new_H, if_neg (by omega)]⟩, ⟨Nat.le_refl _, by simp⟩⟩⟩
    rw [set_H, if_neg (fun e => hmn e.symm), new_H, if_pos rfl]; rfl
  · rintro r L1 p L2 fr s ⟨f3, ⟨⟨B, D, hB, hpm, K, hK, hKl, hq⟩, ⟨hd1, hd2⟩, ⟨b1, b2⟩⟩⟩ ft J hJ
    obtain ⟨B1, B2, v, n, rfl, rfl, rfl, rfl⟩ := clL_split hB.symm
    have hpm2 : (A.map (·.2)).Perm ((B1 ++ B2).map (·.2) ++ ((v, n) :: D).map (·.2)) := by
      refine hpm.trans ?_
      simp only [List.map_append, List.map_cons]
      rw [List.append_assoc, List.append_assoc]
      refine List.Perm.append_left _ ?_
      exact List.perm_middle.symm
    have hK2 := hK.add n (((v, n) :: D).map (·.2)) (by simp)
    have hK2l : (if 0 < n then (if n ∈ K then K else K ++ [n]) else K).length ≤ ((v, n) :: D).length := by
      split
      · split <;> simp <;> omega
      · simp; omega
    have hms := mset_setM (.ag []) n K
    have hmq : ¬ m = st.next := hmn
    refine e_go ?_
    simp [keyV, mkC]
    by_cases h0 : 0 < n
    · have h0b : decide (0 < n) = true := decide_eq_true h0
      (repeat' (first | refine awp_seq ?_ | refine awp_block ?_ | ((first | refine awp_skip ?_ | refine awp_exit ?_); simp only [ak, reduceIte]) | (refine awp_ret ?_; simp only [ak, reduceIte]; simp [h0, h0b, f3, hq, hms]) | (refine awp_cond ?_; simp [h0, h0b, f3, hq, hms]; (try with_reducible refine ⟨?_, ?_⟩) <;> (try with_reducible intro hc) <;> try (exfalso; omega)) | ((first | (refine w_e [] ?_; intro J hJ; simp only []) | (refine w_q ?_; intro J hJ) | refine e_go ?_); simp [h0, h0b, f3, hq, hms]; (repeat refine ca ?_); (try ((try with_reducible refine ⟨?_, ?_⟩) <;> (try with_reducible intro hnil) <;> refine hJ _ _ ?_ <;> clear hJ J <;> simp only [ak, reduceIte] <;> try subst hnil)))))
      refine hJ _ _ ⟨by simp [f3], ⟨B1 ++ B2, (v, n) :: D, clL_app _ _, hpm2, _, hK2, hK2l, ?_⟩, ⟨?_, fun l h1 h2 => ?_⟩, ⟨b1, by simpa using b2⟩⟩ (by simp [ft])
      · rw [set_H, if_pos rfl, if_pos h0]
      · rw [set_H, if_neg hmq]; exact hd1
      · rw [set_H, if_neg (by omega)]; exact hd2 l h1 h2
    · have h0b : decide (0 < n) = false := decide_eq_false h0
      rw [if_neg h0] at hK2 hK2l
      (repeat' (first | refine awp_seq ?_ | refine awp_block ?_ | ((first | refine awp_skip ?_ | refine awp_exit ?_); simp only [ak, reduceIte]) | (refine awp_ret ?_; simp only [ak, reduceIte]; simp [h0, h0b, f3]) | (refine awp_cond ?_; simp [h0, h0b, f3]; (try with_reducible refine ⟨?_, ?_⟩) <;> (try with_reducible intro hc) <;> try (exfalso; omega)) | ((first | (refine w_e [] ?_; intro J hJ; simp only []) | (refine w_q ?_; intro J hJ) | refine e_go ?_); simp [h0, h0b, f3]; (repeat refine ca ?_); (try ((try with_reducible refine ⟨?_, ?_⟩) <;> (try with_reducible intro hnil) <;> refine hJ _ _ ?_ <;> clear hJ J <;> simp only [ak, reduceIte] <;> try subst hnil)))))
      exact hJ _ _ ⟨by simp [f3], ⟨B1 ++ B2, (v, n) :: D, clL_app _ _, hpm2, _, hK2, hK2l, hq⟩, ⟨hd1, hd2⟩, ⟨b1, b2⟩⟩ (by simp [ft])
  · rintro fr s ⟨f3, ⟨⟨B, D, hB, hpm, K, hK, hKl, hq⟩, ⟨hd1, hd2⟩, ⟨b1, b2⟩⟩⟩
    simp only [ak]
    have hB0 : B = [] := by
      cases B with
      | nil => rfl
      | cons x B => simp [clL] at hB
    subst hB0
    have hmq : ¬ st.next = m := fun e => hmn e.symm
    have hDl : D.length = A.length := by have := hpm.length_eq; simpa using this.symm
    have hKA : IsPos (A.map (·.2)) K := ⟨hK.1, fun x => by
      rw [hK.2]
      have := hpm.mem_iff (a := x)
      simp only [List.map_nil, List.nil_append] at this
      rw [this]⟩
    have hsl := setM_len (.ag []) K
    have hKl2 : K.length ≤ 1000 := by omega
    (repeat' (first | refine awp_seq ?_ | refine awp_block ?_ | ((first | refine awp_skip ?_ | refine awp_exit ?_); simp only [ak, reduceIte]) | (refine awp_ret ?_; simp only [ak, reduceIte]; simp [f3, hq, hmq, hsl]) | (refine awp_cond ?_; simp [f3, hq, hmq, hsl]; (try with_reducible refine ⟨?_, ?_⟩) <;> (try with_reducible intro hc) <;> try (exfalso; omega)) | ((first | (refine w_e [] ?_; intro J hJ; simp only []) | (refine w_q ?_; intro J hJ) | refine e_go ?_); simp [f3, hq, hmq, hsl]; (repeat refine ca ?_); (try ((try with_reducible refine ⟨?_, ?_⟩) <;> (try with_reducible intro hnil) <;> refine hJ _ _ ?_ <;> clear hJ J <;> simp only [ak, reduceIte] <;> try subst hnil)))))
    refine ⟨⟨K, hKA, rfl⟩, ⟨by rw [set_next]; omega, fun l h1 => ?_⟩⟩
    by_cases e : l = m
    · subst e; rw [set_H, if_pos rfl]; exact hm.symm
    · rw [set_H, if_neg e]; exact hd2 l h1 e

end Go.Proofs.YtomfeddgeihipaaGreat.Aw

namespace Go.Proofs.YtomfeddgeihipaaGreat.Aw
open Go Go.RowKit Go.Proofs.YtomfeddgeihipaaGreat.Pl
set_option linter.unusedSimpArgs false
set_option linter.unusedVariables false

def rightB (g : Gr) (col : Int → Int) : Bool := g.vs.all (fun v => decide (0 < col v)) && g.es.all fun x => decide (col x.a ≠ col x.b)

set_option maxHeartbeats 1000000 in
theorem Right (g : Gr) (m : Nat) (es : List (List Int × LV)) (col : Int → Int) (st : St) (hv : g.vs.length ≤ 1000) (he : g.es.length ≤ 1000) (hm : st.H m = .map false [.u32] es) (hml : m < st.next) (hcol : ∀ v, (mget es [v]).getD (i 0) = i (col v)) :
    ACalls Tryz.prog 25 [.ag (grL g), .mp m] st fun r st' => r = bb (rightB g col) ∧ Keeps st st' := by
  have hel := eds_length g.es
  have e1 : ¬ m = st.next := by omega
  refine acalls_of_body tabOk Tryz.func25 rfl rfl Tryz.ntmps25 (rs := [.tmp 4]) rfl (by simp) ?_
  (repeat' (first | refine awp_seq ?_ | refine awp_block ?_ | ((first | refine awp_skip ?_ | refine awp_exit ?_); simp only [ak, reduceIte]) | (refine awp_ret ?_; simp only [ak, reduceIte]; simp []) | (refine awp_cond ?_; simp []; (try with_reducible refine ⟨?_, ?_⟩) <;> (try with_reducible intro hc) <;> try (exfalso; omega)) | ((first | (refine w_e [] ?_; intro J hJ; simp only []) | (refine w_q ?_; intro J hJ) | refine e_go ?_); simp []; (repeat refine ca ?_); (try ((try with_reducible refine ⟨?_, ?_⟩) <;> (try with_reducible intro hnil) <;> refine hJ _ _ ?_ <;> clear hJ J <;> simp only [ak, reduceIte] <;> try subst hnil)))))
  refine awp_range 12 11 13 20 (g.vs.length) (fun j fr st2 => fr 1 = .mp m ∧ fr 2 = .pt st.next 0 ∧ fr 10 = .sl 0 g.vs.length (us g.vs) ∧ st2.H st.next = .box 38 2 (grL g) ∧ st2.H m = .map false [.u32] es ∧ st.next < st2.next ∧ Keeps st st2 ∧ ∀ v ∈ g.vs.take j, 0 < col v) ?_ ?_ ?_
  · exact ⟨by simp, by simp, by simp, by simp, by simp [e1, hm], by simp, Keeps.new _ _, by simp⟩
  · rintro j fr s hlt ⟨f1, f2, f10, hG, hM, hsn, hkp, hall⟩ fi fn JO hJO
    have hd := us_drop_getD g.vs j hlt
    have htk : g.vs.take (j + 1) = g.vs.take j ++ [g.vs.getD j 0] := by
      rw [List.getD_eq_getElem?_getD, List.getElem?_eq_getElem hlt]; exact List.take_succ_eq_append_getElem hlt
    have hin : g.vs.getD j 0 ∈ g.vs := by
      rw [List.getD_eq_getElem?_getD, List.getElem?_eq_getElem hlt]; exact List.getElem_mem _
    generalize g.vs.getD j 0 = v at *
    have hc := hcol v
    by_cases h0 : col v ≤ 0
    · have h0b : decide (col v ≤ 0) = true := decide_eq_true h0
      have hr : rightB g col = false := by
        unfold rightB
        rw [Bool.and_eq_false_iff]
        refine .inl ?_
        rw [List.all_eq_false]
        exact ⟨v, hin, by simpa using h0⟩
      (repeat' (first | refine awp_seq ?_ | refine awp_block ?_ | ((first | refine awp_skip ?_ | refine awp_exit ?_); simp only [ak, reduceIte]) | (refine awp_ret ?_; simp only [ak, reduceIte]; simp [f1, f10, fi, fn, hd, hlt, hM, hc, h0, h0b, hr]) | (refine awp_cond ?_; simp [f1, f10, fi, fn, hd, hlt, hM, hc, h0, h0b, hr]; (try with_reducible refine ⟨?_, ?_⟩) <;> (try with_reducible intro hc) <;> try (exfalso; omega)) | ((first | (refine w_e [] ?_; intro J hJ; simp only []) | (refine w_q ?_; intro J hJ) | refine e_go ?_); simp [f1, f10, fi, fn, hd, hlt, hM, hc, h0, h0b, hr]; (repeat refine ca ?_); (try ((try with_reducible refine ⟨?_, ?_⟩) <;> (try with_reducible intro hnil) <;> refine hJ _ _ ?_ <;> clear hJ J <;> simp only [ak, reduceIte] <;> try subst hnil)))))
      exact hkp
    · have h0b : decide (col v ≤ 0) = false := decide_eq_false h0
      (repeat' (first | refine awp_seq ?_ | refine awp_block ?_ | ((first | refine awp_skip ?_ | refine awp_exit ?_); simp only [ak, reduceIte]) | (refine awp_ret ?_; simp only [ak, reduceIte]; simp [f1, f10, fi, fn, hd, hlt, hM, hc, h0, h0b]) | (refine awp_cond ?_; simp [f1, f10, fi, fn, hd, hlt, hM, hc, h0, h0b]; (try with_reducible refine ⟨?_, ?_⟩) <;> (try with_reducible intro hc) <;> try (exfalso; omega)) | ((first | (refine w_e [] ?_; intro J hJ; simp only []) | (refine w_q ?_; intro J hJ) | refine e_go ?_); simp [f1, f10, fi, fn, hd, hlt, hM, hc, h0, h0b]; (repeat refine ca ?_); (try ((try with_reducible refine ⟨?_, ?_⟩) <;> (try with_reducible intro hnil) <;> refine hJ _ _ ?_ <;> clear hJ J <;> simp only [ak, reduceIte] <;> try subst hnil)))))
      refine hJO _ _ (by simp [fi]) (by simp [fn]) ⟨by simp [f1], by simp [f2], by simp [f10], hG, hM, hsn, hkp, fun w hw => ?_⟩
      rw [htk, List.mem_append, List.mem_singleton] at hw
      rcases hw with hw | rfl
      · exact hall w hw
      · omega
  rintro fr s ⟨f1, f2, f10, hG, hM, hsn, hkp, hall⟩
  rw [List.take_length] at hall
  (repeat' (first | refine awp_seq ?_ | refine awp_block ?_ | ((first | refine awp_skip ?_ | refine awp_exit ?_); simp only [ak, reduceIte]) | (refine awp_ret ?_; simp only [ak, reduceIte]; simp [f1, f2, hG]) | (refine awp_cond ?_; simp [f1, f2, hG]; (try with_reducible refine ⟨?_, ?_⟩) <;> (try with_reducible intro hc) <;> try (exfalso; omega)) | ((first | (refine w_e [] ?_; intro J hJ; simp only []) | (refine w_q ?_; intro J hJ) | refine e_go ?_); simp [f1, f2, hG]; (repeat refine ca ?_); (try ((try with_reducible refine ⟨?_, ?_⟩) <;> (try with_reducible intro hnil) <;> refine hJ _ _ ?_ <;> clear hJ J <;> simp only [ak, reduceIte] <;> try subst hnil)))))
  refine awp_range 24 23 25 37 (g.es.length) (fun j fr st2 => fr 1 = .mp m ∧ fr 22 = .sl 0 g.es.length (eds g.es) ∧ st2.H m = .map false [.u32] es ∧ m < st2.next ∧ Keeps st st2 ∧ ∀ x ∈ g.es.take j, col x.a ≠ col x.b) ?_ ?_ ?_
  · exact ⟨by simp [f1], by simp, hM, by omega, hkp, by simp⟩
  · clear f1 f2 f10 hG hM hsn hkp fr s
    rintro j fr s hlt ⟨f1, f22, hM, hsn, hkp, hal2⟩ fi fn JO hJO
    have hd := eds_drop g.es j hlt
    have hk3 : j * 3 < g.es.length * 3 := by omega
    have htk : g.es.take (j + 1) = g.es.take j ++ [g.es.getD j ed0] := by
      rw [List.getD_eq_getElem?_getD, List.getElem?_eq_getElem hlt]; exact List.take_succ_eq_append_getElem hlt
    have hxin : g.es.getD j ed0 ∈ g.es := by
      rw [List.getD_eq_getElem?_getD, List.getElem?_eq_getElem hlt]; exact List.getElem_mem _
    generalize g.es.getD j ed0 = x at *
    obtain ⟨d, a, b⟩ := x
    have hca := hcol a
    have hcb := hcol b
    have e2 : ¬ m = s.next := by omega
    by_cases h0 : col a = col b
    · have h0b : (col a == col b) = true := by simpa using h0
      have hr : rightB g col = false := by
        unfold rightB
        rw [Bool.and_eq_false_iff]
        refine .inr ?_
        rw [List.all_eq_false]
        exact ⟨_, hxin, by simpa using h0⟩
      (repeat' (first | refine awp_seq ?_ | refine awp_block ?_ | ((first | refine awp_skip ?_ | refine awp_exit ?_); simp only [ak, reduceIte]) | (refine awp_ret ?_; simp only [ak, reduceIte]; simp [f1, f22, fi, fn, hd, hel, hk3, hlt, hM, hca, hcb, h0, h0b, hr, e2]) | (refine awp_cond ?_; simp [f1, f22, fi, fn, hd, hel, hk3, hlt, hM, hca, hcb, h0, h0b, hr, e2]; (try with_reducible refine ⟨?_, ?_⟩) <;> (try with_reducible intro hc) <;> try (exfalso; omega)) | ((first | (refine w_e [] ?_; intro J hJ; simp only []) | (refine w_q ?_; intro J hJ) | refine e_go ?_); simp [f1, f22, fi, fn, hd, hel, hk3, hlt, hM, hca, hcb, h0, h0b, hr, e2]; (repeat refine ca ?_); (try ((try with_reducible refine ⟨?_, ?_⟩) <;> (try with_reducible intro hnil) <;> refine hJ _ _ ?_ <;> clear hJ J <;> simp only [ak, reduceIte] <;> try subst hnil)))))
      first | exact hkp.trans (Keeps.new _ _) | exact (0 : Nat)
    · have h0b : (col a == col b) = false := by simpa using h0
      (repeat' (first | refine awp_seq ?_ | refine awp_block ?_ | ((first | refine awp_skip ?_ | refine awp_exit ?_); simp only [ak, reduceIte]) | (refine awp_ret ?_; simp only [ak, reduceIte]; simp [f1, f22, fi, fn, hd, hel, hk3, hlt, hM, hca, hcb, h0, h0b, e2]) | (refine awp_cond ?_; simp [f1, f22, fi, fn, hd, hel, hk3, hlt, hM, hca, hcb, h0, h0b, e2]; (try with_reducible refine ⟨?_, ?_⟩) <;> (try with_reducible intro hc) <;> try (exfalso; omega)) | ((first | (refine w_e [] ?_; intro J hJ; simp only []) | (refine w_q ?_; intro J hJ) | refine e_go ?_); simp [f1, f22, fi, fn, hd, hel, hk3, hlt, hM, hca, hcb, h0, h0b, e2]; (repeat refine ca ?_); (try ((try with_reducible refine ⟨?_, ?_⟩) <;> (try with_reducible intro hnil) <;> refine hJ _ _ ?_ <;> clear hJ J <;> simp only [ak, reduceIte] <;> try subst hnil)))))
      refine hJO _ _ (by simp [fi]) (by simp [fn]) ⟨by simp [f1], by simp [f22], by simp [e2, hM], by simp; omega, hkp.trans (Keeps.new _ _), fun w hw => ?_⟩
      rw [htk, List.mem_append, List.mem_singleton] at hw
      rcases hw with hw | rfl
      · exact hal2 w hw
      · exact h0
  rintro fr s ⟨f1, f22, hM2, hsn2, hkp2, hal2⟩
  rw [List.take_length] at hal2
  have hr : rightB g col = true := by
    unfold rightB
    rw [Bool.and_eq_true, List.all_eq_true, List.all_eq_true]
    exact ⟨fun v hv => by simpa using hall v hv, fun x hx => by simpa using hal2 x hx⟩
  (repeat' (first | refine awp_seq ?_ | refine awp_block ?_ | ((first | refine awp_skip ?_ | refine awp_exit ?_); simp only [ak, reduceIte]) | (refine awp_ret ?_; simp only [ak, reduceIte]; simp [hr]) | (refine awp_cond ?_; simp [hr]; (try with_reducible refine ⟨?_, ?_⟩) <;> (try with_reducible intro hc) <;> try (exfalso; omega)) | ((first | (refine w_e [] ?_; intro J hJ; simp only []) | (refine w_q ?_; intro J hJ) | refine e_go ?_); simp [hr]; (repeat refine ca ?_); (try ((try with_reducible refine ⟨?_, ?_⟩) <;> (try with_reducible intro hnil) <;> refine hJ _ _ ?_ <;> clear hJ J <;> simp only [ak, reduceIte] <;> try subst hnil)))))
  exact hkp2

/-- What a graph's coloring answers. -/
noncomputable def colA (g : Gr) (l : List Int) : Led := giveA (nearF g.es) g.vs (giveA (nearF g.es) g.vs [] l) g.vs
def ordA (g : Gr) : List Int := (ordF (nearF g.es) g.vs.length g.vs).reverse
theorem ordA_len (g : Gr) : (ordA g).length ≤ g.vs.length := by unfold ordA; rw [List.length_reverse]; exact ordF_len _ _ _
theorem Color (g : Gr) (st : St) (hF : GrF g) : ACalls Tryz.prog 57 [.ag (grL g)] st (ColM st (colA g (ordA g))) := by
  have hol := ordA_len g
  have hv := hF.l1
  have he := hF.l2
  refine acalls_of_body tabOk Tryz.func57 rfl rfl Tryz.ntmps57 (rs := [.tmp 2]) rfl (by simp) ?_
  (repeat' (first | refine awp_seq ?_ | refine awp_block ?_ | ((first | refine awp_skip ?_ | refine awp_exit ?_); simp only [ak, reduceIte]) | (refine awp_ret ?_; simp only [ak, reduceIte]; simp []) | (refine awp_cond ?_; simp []; (try with_reducible refine ⟨?_, ?_⟩) <;> (try with_reducible intro hc) <;> try (exfalso; omega)) | ((first | (refine w_e [] ?_; intro J hJ; simp only []) | (refine w_q ?_; intro J hJ) | refine e_go ?_); simp []; (repeat refine ca ?_); (try ((try with_reducible refine ⟨?_, ?_⟩) <;> (try with_reducible intro hnil) <;> refine hJ _ _ ?_ <;> clear hJ J <;> simp only [ak, reduceIte] <;> try subst hnil)))))
  (refine w_s [] [st.next] [(0, true), (1, true), (2, true), (3, true), (4, true)] ?_; intro J hJ; simp []; (repeat refine ca ?_); (try ((try with_reducible refine ⟨?_, ?_⟩) <;> (try with_reducible intro hnil) <;> refine hJ _ _ ?_ <;> clear hJ J <;> simp only [ak, reduceIte] <;> try subst hnil)))
  refine dcallK_ofE (Order g _ hF) (by simp) ?_; rintro r s2 ⟨rfl, hk2⟩
  have hn2 := hk2.next
  simp only [new_next] at hn2
  have hG1 : (st.new (.box 38 2 (grL g))).H st.next = .box 38 2 (grL g) := by simp
  have hG2 := (hk2.H st.next (by simp)).trans hG1
  refine ⟨fun _ => by simp [hG2], ?_⟩
  (refine d_go ?_; simp [hG2]; (repeat refine ca ?_); (try ((try with_reducible refine ⟨?_, ?_⟩) <;> (try with_reducible intro hnil) <;> refine hJ _ _ ?_ <;> clear hJ J <;> simp only [ak, reduceIte] <;> try subst hnil)))
  refine dcallK_ofE (Greedy g (ordA g) 0 s2 (by omega) (by omega) (by omega)) (by simp [ordA]) ?_; rintro r s3 ⟨M, rfl, h1, h2, h3, h4⟩
  have hG3 := (h4.H st.next (by omega)).trans hG2
  refine ⟨fun _ => by simp [hG3], ?_⟩
  (refine d_go ?_; simp [hG3]; (repeat refine ca ?_); (try ((try with_reducible refine ⟨?_, ?_⟩) <;> (try with_reducible intro hnil) <;> refine hJ _ _ ?_ <;> clear hJ J <;> simp only [ak, reduceIte] <;> try subst hnil)))
  (repeat' (first | refine awp_seq ?_ | refine awp_block ?_ | ((first | refine awp_skip ?_ | refine awp_exit ?_); simp only [ak, reduceIte]) | (refine awp_ret ?_; simp only [ak, reduceIte]; simp []) | (refine awp_cond ?_; simp []; (try with_reducible refine ⟨?_, ?_⟩) <;> (try with_reducible intro hc) <;> try (exfalso; omega)) | ((first | (refine w_e [] ?_; intro J hJ; simp only []) | (refine w_q ?_; intro J hJ) | refine e_go ?_); simp []; (repeat refine ca ?_); (try ((try with_reducible refine ⟨?_, ?_⟩) <;> (try with_reducible intro hnil) <;> refine hJ _ _ ?_ <;> clear hJ J <;> simp only [ak, reduceIte] <;> try subst hnil)))))
  exact ⟨M, rfl, by omega, h2, h3, ((Keeps.new _ _).trans hk2).trans h4⟩

end Go.Proofs.YtomfeddgeihipaaGreat.Aw

namespace Go.Proofs.YtomfeddgeihipaaGreat.Aw
open Go Go.RowKit Go.Proofs.YtomfeddgeihipaaGreat.Pl
set_option linter.unusedSimpArgs false
set_option linter.unusedVariables false

theorem Awake13H (st : St) : ACalls Tryz.prog 78 [] st fun r st' => r = bb true ∧ st' = st := by
  refine acalls_of_body tabOk Tryz.func78 rfl rfl Tryz.ntmps78 (rs := [.tmp 0]) rfl (by simp) ?_
  (repeat' (first | refine awp_seq ?_ | refine awp_block ?_ | ((first | refine awp_skip ?_ | refine awp_exit ?_); simp only [ak, reduceIte]) | (refine awp_ret ?_; simp only [ak, reduceIte]; simp []) | (refine awp_cond ?_; simp []; (try with_reducible refine ⟨?_, ?_⟩) <;> (try with_reducible intro hc) <;> try (exfalso; omega)) | ((first | (refine w_e [] ?_; intro J hJ; simp only []) | (refine w_q ?_; intro J hJ) | refine e_go ?_); simp []; (repeat refine ca ?_); (try ((try with_reducible refine ⟨?_, ?_⟩) <;> (try with_reducible intro hnil) <;> refine hJ _ _ ?_ <;> clear hJ J <;> simp only [ak, reduceIte] <;> try subst hnil)))))
  refine callK_ofE (awake13 _) (by simp []) ?_; rintro r st' ⟨rfl, rfl⟩
  (repeat' (first | refine awp_seq ?_ | refine awp_block ?_ | ((first | refine awp_skip ?_ | refine awp_exit ?_); simp only [ak, reduceIte]) | (refine awp_ret ?_; simp only [ak, reduceIte]; simp []) | (refine awp_cond ?_; simp []; (try with_reducible refine ⟨?_, ?_⟩) <;> (try with_reducible intro hc) <;> try (exfalso; omega)) | ((first | (refine w_e [] ?_; intro J hJ; simp only []) | (refine w_q ?_; intro J hJ) | refine e_go ?_); simp []; (repeat refine ca ?_); (try ((try with_reducible refine ⟨?_, ?_⟩) <;> (try with_reducible intro hnil) <;> refine hJ _ _ ?_ <;> clear hJ J <;> simp only [ak, reduceIte] <;> try subst hnil)))))

def triH : Gr := ⟨[1, 2, 3], [⟨1, 1, 2⟩, ⟨2, 2, 3⟩, ⟨3, 3, 1⟩]⟩
theorem triH_ok : GrF triH := ⟨by decide, by decide, by decide, by decide, by decide, by decide, by decide, by decide⟩
theorem triH_near : nearF triH.es 1 = [2, 3] ∧ nearF triH.es 2 = [1, 3] ∧ nearF triH.es 3 = [1, 2] := by decide +kernel
theorem triH_ord : ordA triH = [1, 2, 3] := by decide +kernel
theorem fN_eq {col : Int → Int} {l : List Int} {n : Nat} (h : IsFree col l n) : fN col l = n := (fN_spec col l).unique h
theorem triH_col : colA triH [1, 2, 3] = [(1, 1), (2, 2), (3, 3)] := by
  obtain ⟨n1, n2, n3⟩ := triH_near
  have f1 : fN (colF []) [2, 3] = 1 := fN_eq ⟨by decide, by decide, fun m h1 h2 => by omega⟩
  have f2 : fN (colF [(1, 1)]) [1, 3] = 2 := fN_eq ⟨by decide, by decide, fun m h1 h2 => ⟨1, by decide, by
    have : m = 1 := by omega
    subst this; rfl⟩⟩
  have f3 : fN (colF [(1, 1), (2, 2)]) [1, 2] = 3 := fN_eq ⟨by decide, by decide, fun m h1 h2 => by
    rcases (by omega : m = 1 ∨ m = 2) with rfl | rfl
    · exact ⟨1, by decide, rfl⟩
    · exact ⟨2, by decide, rfl⟩⟩
  have g1 : giveS (nearF triH.es) triH.vs [] 1 = [(1, 1)] := by unfold giveS; rw [if_neg (by decide), n1, f1]; rfl
  have g2 : giveS (nearF triH.es) triH.vs [(1, 1)] 2 = [(1, 1), (2, 2)] := by unfold giveS; rw [if_neg (by decide), n2, f2]; rfl
  have g3 : giveS (nearF triH.es) triH.vs [(1, 1), (2, 2)] 3 = [(1, 1), (2, 2), (3, 3)] := by unfold giveS; rw [if_neg (by decide), n3, f3]; rfl
  have g4 : ∀ v ∈ [(1 : Int), 2, 3], giveS (nearF triH.es) triH.vs [(1, 1), (2, 2), (3, 3)] v = [(1, 1), (2, 2), (3, 3)] := fun v hv => by unfold giveS; rw [if_pos (.inl (by simpa using hv))]
  have hvs : triH.vs = [1, 2, 3] := rfl
  unfold colA giveA
  rw [hvs] at g1 g2 g3 g4 ⊢
  simp only [List.foldl_cons, List.foldl_nil, g1, g2, g3, g4 1 (by decide), g4 2 (by decide), g4 3 (by decide)]

theorem awake34 (st : St) : ACalls Tryz.prog 23 [] st fun r st' => r = bb true ∧ st' = st := by
  refine (acalls_frame (R := fun v => v = .bool true) ?_).mono ?_
  rotate_left
  · rintro r st' ⟨⟨v, rfl, rfl⟩, rfl⟩; exact ⟨rfl, rfl⟩
  generalize hst : (⟨1, fun _ => .dead⟩ : St) = st
  refine acalls_of_body tabOk Tryz.func23 rfl rfl Tryz.ntmps23 (rs := [.tmp 0]) rfl (by simp) ?_
  (repeat' (first | refine awp_seq ?_ | refine awp_block ?_ | ((first | refine awp_skip ?_ | refine awp_exit ?_); simp only [ak, reduceIte]) | (refine awp_ret ?_; simp only [ak, reduceIte]; simp []) | (refine awp_cond ?_; simp []; (try with_reducible refine ⟨?_, ?_⟩) <;> (try with_reducible intro hc) <;> try (exfalso; omega)) | ((first | (refine w_e [] ?_; intro J hJ; simp only []) | (refine w_q ?_; intro J hJ) | refine e_go ?_); simp []; (repeat refine ca ?_); (try ((try with_reducible refine ⟨?_, ?_⟩) <;> (try with_reducible intro hnil) <;> refine hJ _ _ ?_ <;> clear hJ J <;> simp only [ak, reduceIte] <;> try subst hnil)))))
  have hC := fun s => Color triH s triH_ok
  rw [triH_ord, triH_col] at hC
  refine callK_of (acalls_args0 (by simp only [z0L, z0]; exact hC _)) ?_; rintro r s1 ⟨M, rfl, m1, m2, hM, hk1⟩
  have hn1 := hk1.next
  simp only [new_next, set_next] at hn1
  have hB := hk1.H (st.next + 1 + 1) (by simp)
  simp at hB
  (repeat' (first | refine awp_seq ?_ | refine awp_block ?_ | ((first | refine awp_skip ?_ | refine awp_exit ?_); simp only [ak, reduceIte]) | (refine awp_ret ?_; simp only [ak, reduceIte]; simp [hB]) | (refine awp_cond ?_; simp [hB]; (try with_reducible refine ⟨?_, ?_⟩) <;> (try with_reducible intro hc) <;> try (exfalso; omega)) | ((first | (refine w_e [] ?_; intro J hJ; simp only []) | (refine w_q ?_; intro J hJ) | refine e_go ?_); simp [hB]; (repeat refine ca ?_); (try ((try with_reducible refine ⟨?_, ?_⟩) <;> (try with_reducible intro hnil) <;> refine hJ _ _ ?_ <;> clear hJ J <;> simp only [ak, reduceIte] <;> try subst hnil)))))
  refine callK_ofE (Count M [(1, 1), (2, 2), (3, 3)] s1 hM m2 (by decide)) (by simp) ?_; rintro r s2 ⟨⟨K, hK, rfl⟩, hk2⟩
  have hKl : K.length = 3 := hK.len (l' := [1, 2, 3]) (K' := [1, 2, 3]) ⟨by decide, fun n => by simp; omega⟩ (by simp)
  have hB2 := (hk2.H (st.next + 1 + 1) (by omega)).trans hB
  have hM2 := (hk2.H M m2).trans hM
  rw [hKl]
  have hR := fun s h1 h2 => Right triH M (clL [(1, 1), (2, 2), (3, 3)]) (colF [(1, 1), (2, 2), (3, 3)]) s (by decide) (by decide) h1 h2 (mget_col _)
  have hrb : rightB triH (colF [(1, 1), (2, 2), (3, 3)]) = true := by decide +kernel
  rw [hrb] at hR
  (refine e_go ?_; simp [hB2]; (repeat refine ca ?_); (try ((try with_reducible refine ⟨?_, ?_⟩) <;> (try with_reducible intro hnil) <;> refine hJ _ _ ?_ <;> clear hJ J <;> simp only [ak, reduceIte] <;> try subst hnil)))
  refine callK_of (acalls_args0 (by simp only [z0L, z0]; exact hR s2 hM2 (by have := hk2.next; omega))) ?_; rintro r s3 ⟨rfl, hk3⟩
  (refine e_go ?_; simp []; (repeat refine ca ?_); (try ((try with_reducible refine ⟨?_, ?_⟩) <;> (try with_reducible intro hnil) <;> refine hJ _ _ ?_ <;> clear hJ J <;> simp only [ak, reduceIte] <;> try subst hnil)))
  refine callK_ofE (Awake13H _) (by simp []) ?_; rintro r st' ⟨rfl, rfl⟩
  (repeat' (first | refine awp_seq ?_ | refine awp_block ?_ | ((first | refine awp_skip ?_ | refine awp_exit ?_); simp only [ak, reduceIte]) | (refine awp_ret ?_; simp only [ak, reduceIte]; simp []) | (refine awp_cond ?_; simp []; (try with_reducible refine ⟨?_, ?_⟩) <;> (try with_reducible intro hc) <;> try (exfalso; omega)) | ((first | (refine w_e [] ?_; intro J hJ; simp only []) | (refine w_q ?_; intro J hJ) | refine e_go ?_); simp []; (repeat refine ca ?_); (try ((try with_reducible refine ⟨?_, ?_⟩) <;> (try with_reducible intro hnil) <;> refine hJ _ _ ?_ <;> clear hJ J <;> simp only [ak, reduceIte] <;> try subst hnil)))))

end Go.Proofs.YtomfeddgeihipaaGreat.Aw

namespace Go.Proofs.YtomfeddgeihipaaGreat.Aw
open Go Go.RowKit Go.Proofs.YtomfeddgeihipaaGreat.Pl
set_option linter.unusedSimpArgs false
set_option linter.unusedVariables false

/-- A row of ints as values. -/
def is (l : List Int) : List LV := l.map i
theorem is_drop (l : List Int) (k : Nat) (hk : k < l.length) : (is l).drop k = i (l.getD k 0) :: is (l.drop (k + 1)) := by
  rw [is, ← List.map_drop, List.drop_eq_getElem_cons hk, List.map_cons, List.getD_eq_getElem?_getD, List.getElem?_eq_getElem hk]; rfl
def setC : Led → Int → Int → Led
  | [], v, w => [(v, w)]
  | (x, y) :: A, v, w => if v = x then (x, w) :: A else (x, y) :: setC A v w
end Go.Proofs.YtomfeddgeihipaaGreat.Aw
