/- tree: root, split, Forest, Rest. tree.Forest, Rest; the document's with, Forest. What three graphs come to. No program. Plain: edges beside each other, of each bundle one, rows of near vertices. No program. Plain: the way from one vertex to another one, as it is sought. No program. Plain: bundles. No program. block.Simple: of each bundle one edge, and the bundles. -/
import Derived.Test.YtomfeddgeihipaaGreatJd
import Derived.Test.YtomfeddgeihipaaGreatAwZ
import Derived.Test.YtomfeddgeihipaaGreatAwRg
import Derived.Test.YtomfeddgeihipaaGreatAwShp
namespace Go.Proofs.YtomfeddgeihipaaGreat.Aw
open Go Go.RowKit Go.Proofs.YtomfeddgeihipaaGreat.Pl
set_option linter.unusedSimpArgs false
set_option linter.unusedVariables false

theorem root (m : Nat) (mes : List (List Int × LV)) (vs : List Int) (I : List Ed) (U R : Int → Int) (d : Int → Nat) (v : Int) (st : St) (hM : st.H m = .map false [.u32] mes) (hU : UF vs I U R d) (hmes : ∀ v ∈ vs, mget mes [v] = some (u (U v))) (hv : v ∈ vs) :
    ACalls Tryz.prog 145 [.mp m, u v] st fun r st' => r = u (R v) ∧ st' = st := by
  refine acalls_of_body tabOk Tryz.func145 rfl rfl Tryz.ntmps145 (rs := [.tmp 4]) rfl (by simp) ?_
  (repeat' (first | refine awp_seq ?_ | refine awp_block ?_ | ((first | refine awp_skip ?_ | refine awp_exit ?_); simp only [ak, reduceIte]) | (refine awp_ret ?_; simp only [ak, reduceIte]; simp []) | (refine awp_cond ?_; simp []; (try with_reducible refine ⟨?_, ?_⟩) <;> (try with_reducible intro hc) <;> try (exfalso; omega)) | ((first | (refine w_e [] ?_; intro J hJ; simp only []) | (refine w_q ?_; intro J hJ) | refine e_go ?_); simp []; (repeat refine ca ?_); (try ((try with_reducible refine ⟨?_, ?_⟩) <;> (try with_reducible intro hnil) <;> refine hJ _ _ ?_ <;> clear hJ J <;> simp only [ak, reduceIte] <;> try subst hnil)))))
  refine awp_loop (fun n fr s => ∃ x, x ∈ vs ∧ R x = R v ∧ n = d x ∧ fr 0 = .mp m ∧ fr 1 = u x ∧ s = st) (d v) ⟨v, hv, rfl, rfl, by simp, by simp, rfl⟩ ?_
  rintro n fr s ⟨x, hx, hxr, rfl, f0, f1, rfl⟩ J hJ
  have hg := hmes x hx
  by_cases hux : U x = x
  · clear hJ
    have h1 := hU.top x hx hux
    have hb : (U x != x) = false := by simpa using hux
    have h2 : x = R v := by rw [← hxr, h1]
    (repeat' (first | refine awp_seq ?_ | refine awp_block ?_ | ((first | refine awp_skip ?_ | refine awp_exit ?_); simp only [ak, reduceIte]) | (refine awp_ret ?_; simp only [ak, reduceIte]; simp [f0, f1, hM, hg, hb, hux]) | (refine awp_cond ?_; simp [f0, f1, hM, hg, hb, hux]; (try with_reducible refine ⟨?_, ?_⟩) <;> (try with_reducible intro hc) <;> try (exfalso; omega)) | ((first | (refine w_e [] ?_; intro J hJ; simp only []) | (refine w_q ?_; intro J hJ) | refine e_go ?_); simp [f0, f1, hM, hg, hb, hux]; (repeat refine ca ?_); (try ((try with_reducible refine ⟨?_, ?_⟩) <;> (try with_reducible intro hnil) <;> refine hJ _ _ ?_ <;> clear hJ J <;> simp only [ak, reduceIte] <;> try subst hnil)))))
    exact h2
  · have hb : (U x != x) = true := by simpa using hux
    obtain ⟨g1, g2⟩ := hU.up x hx hux
    (repeat' (first | refine awp_seq ?_ | refine awp_block ?_ | ((first | refine awp_skip ?_ | refine awp_exit ?_); simp only [ak, reduceIte]) | (refine awp_ret ?_; simp only [ak, reduceIte]; simp [f0, f1, hM, hg, hb]) | (refine awp_cond ?_; simp [f0, f1, hM, hg, hb]; (try with_reducible refine ⟨?_, ?_⟩) <;> (try with_reducible intro hc) <;> try (exfalso; omega)) | ((first | (refine w_e [] ?_; intro J hJ; simp only []) | (refine w_q ?_; intro J hJ) | refine e_go ?_); simp [f0, f1, hM, hg, hb]; (repeat refine ca ?_); (try ((try with_reducible refine ⟨?_, ?_⟩) <;> (try with_reducible intro hnil) <;> refine hJ _ _ ?_ <;> clear hJ J <;> simp only [ak, reduceIte] <;> try subst hnil)))))
    exact hJ _ _ _ g2 ⟨U x, hU.inU x hx, by rw [g1]; exact hxr, rfl, by simp [f0], by simp, rfl⟩

def idsL (l : List Ed) : List Int := l.map (·.id)
@[simp] theorem idsL_len (l : List Ed) : (idsL l).length = l.length := by simp [idsL]
def OwnI (t : Nat) (lo : St) (n : Nat) (st : St) : Prop := t ≠ 0 ∧ lo.next ≤ t ∧ t < st.next ∧ st.H t = .own 41 1 n
theorem box_neW {st : St} {a b : Nat} {x y : LObj} (ha : st.H a = x) (hb : st.H b = y) (h : x ≠ y) : ¬ a = b := fun e => h (by rw [← ha, e, hb])
structure SpI (g : Gr) (st : St) (M : Nat) (E I Rs : List Ed) (t2 t3 : Nat) (mes : List (List Int × LV)) (s : St) : Prop where
  hM : s.H M = .map false [.u32] mes
  fo : IsFo E I Rs
  uf : ∃ U R d, UF g.vs I U R d ∧ ∀ v ∈ g.vs, mget mes [v] = some (u (U v))
  o2 : OwnI t2 st I.length s
  o3 : OwnI t3 st Rs.length s
  ne : t2 ≠ t3
  b : st.next ≤ M ∧ M < s.next
  kp : Keeps st s

set_option maxHeartbeats 2000000 in
theorem split (g : Gr) (st : St) (hg : Good g) (hv : g.vs.length ≤ 1000) (he : g.es.length ≤ 1000) (hp : 0 < st.next) :
    ACalls Tryz.prog 108 [.ag (grL g)] st fun r st' => (∃ I Rs, IsFo g.es I Rs ∧ r = .tu [.sl 0 (idsL I).length (us (idsL I)), .sl 0 (idsL Rs).length (us (idsL Rs))]) ∧ Keeps st st' := by
  refine acalls_z0 ?_
  have hel := eds_length g.es
  refine acalls_of_body tabOk Tryz.func108 rfl rfl Tryz.ntmps108 (rs := [.tmp 2, .tmp 3]) rfl (by simp) ?_
  (repeat' (first | refine awp_seq ?_ | refine awp_block ?_ | ((first | refine awp_skip ?_ | refine awp_exit ?_); simp only [ak, reduceIte]) | (refine awp_ret ?_; simp only [ak, reduceIte]; simp []) | (refine awp_cond ?_; simp []; (try with_reducible refine ⟨?_, ?_⟩) <;> (try with_reducible intro hc) <;> try (exfalso; omega)) | ((first | (refine w_e [] ?_; intro J hJ; simp only []) | (refine w_q ?_; intro J hJ) | refine e_go ?_); simp []; (repeat refine ca ?_); (try ((try with_reducible refine ⟨?_, ?_⟩) <;> (try with_reducible intro hnil) <;> refine hJ _ _ ?_ <;> clear hJ J <;> simp only [ak, reduceIte] <;> try subst hnil)))))
  refine awp_range 15 14 16 22 (g.vs.length) (fun j fr st2 => fr 1 = .pt st.next 0 ∧ fr 2 = .nil ∧ fr 3 = .nil ∧ fr 4 = .mp (st.next + 1) ∧ fr 13 = .sl 0 g.vs.length (us g.vs) ∧ st2.H st.next = .box 38 2 (grL g) ∧ st2.next = st.next + 2 ∧ Keeps st st2 ∧ ∃ mes, st2.H (st.next + 1) = .map false [.u32] mes ∧ ∀ v ∈ g.vs.take j, mget mes [v] = some (u v)) ?_ ?_ ?_
  · exact ⟨by simp, by simp, by simp, by simp, by simp, by simp, by simp, (Keeps.new _ _).trans (Keeps.new _ _), [], by simp, by simp⟩
  · rintro j fr s hlt ⟨f1, f2, f3, f4, f13, hG, hsn, hkp, mes, hM, hmes⟩ fi fn J hJ
    have hd := us_drop_getD g.vs j hlt
    have htk : g.vs.take (j + 1) = g.vs.take j ++ [g.vs.getD j 0] := by
      rw [List.getD_eq_getElem?_getD, List.getElem?_eq_getElem hlt]; exact List.take_succ_eq_append_getElem hlt
    generalize g.vs.getD j 0 = v at *
    (repeat' (first | refine awp_seq ?_ | refine awp_block ?_ | ((first | refine awp_skip ?_ | refine awp_exit ?_); simp only [ak, reduceIte]) | (refine awp_ret ?_; simp only [ak, reduceIte]; simp [f4, f13, fi, fn, hd, hlt, hM]) | (refine awp_cond ?_; simp [f4, f13, fi, fn, hd, hlt, hM]; (try with_reducible refine ⟨?_, ?_⟩) <;> (try with_reducible intro hc) <;> try (exfalso; omega)) | ((first | (refine w_e [] ?_; intro J hJ; simp only []) | (refine w_q ?_; intro J hJ) | refine e_go ?_); simp [f4, f13, fi, fn, hd, hlt, hM]; (repeat refine ca ?_); (try ((try with_reducible refine ⟨?_, ?_⟩) <;> (try with_reducible intro hnil) <;> refine hJ _ _ ?_ <;> clear hJ J <;> simp only [ak, reduceIte] <;> try subst hnil)))))
    refine hJ _ _ (by simp [fi]) (by simp [fn]) ⟨by simp [f1], by simp [f2], by simp [f3], by simp [f4], by simp [f13], by simp [hG], by simp [hsn], hkp.set (by omega) _, mset mes [v] (u v), by simp, fun w hw => ?_⟩
    rw [mget_mset]
    by_cases hwv : w = v
    · subst hwv; simp
    · rw [if_neg (by simpa using hwv)]
      rw [htk, List.mem_append, List.mem_singleton] at hw
      exact hmes w (hw.resolve_right hwv)
  · rintro fr s ⟨f1, f2, f3, f4, f13, hG, hsn, hkp, mes, hM, hmes⟩
    rw [List.take_length] at hmes
    (repeat' (first | refine awp_seq ?_ | refine awp_block ?_ | ((first | refine awp_skip ?_ | refine awp_exit ?_); simp only [ak, reduceIte]) | (refine awp_ret ?_; simp only [ak, reduceIte]; simp [f1, hG]) | (refine awp_cond ?_; simp [f1, hG]; (try with_reducible refine ⟨?_, ?_⟩) <;> (try with_reducible intro hc) <;> try (exfalso; omega)) | ((first | (refine w_e [] ?_; intro J hJ; simp only []) | (refine w_q ?_; intro J hJ) | refine e_go ?_); simp [f1, hG]; (repeat refine ca ?_); (try ((try with_reducible refine ⟨?_, ?_⟩) <;> (try with_reducible intro hnil) <;> refine hJ _ _ ?_ <;> clear hJ J <;> simp only [ak, reduceIte] <;> try subst hnil)))))
    refine awp_own 2 41 1 (by simp [f2]) ?_
    refine awp_own 3 41 1 (by simp [f3]) ?_
    refine awp_range 26 25 27 54 (g.es.length) (fun j fr st2 => fr 4 = .mp (st.next + 1) ∧ fr 24 = .sl 0 g.es.length (eds g.es) ∧ ∃ mes I Rs t2 t3, fr 2 = .sl t2 I.length (us (idsL I)) ∧ fr 3 = .sl t3 Rs.length (us (idsL Rs)) ∧ SpI g st (st.next + 1) (g.es.take j) I Rs t2 t3 mes st2) ?_ ?_ ?_
    · refine ⟨by simp [f4], by simp, mes, [], [], s.next, s.next + 1, by simp [idsL], by simp [idsL], ?_⟩
      refine ⟨?_, by simpa using IsFo.nil, ⟨id, id, _, UF.start g.vs, hmes⟩, ⟨by omega, by omega, by simp; omega, by simp⟩, ⟨by omega, by omega, by simp, by simp⟩, by omega, ⟨by omega, by simp; omega⟩, (hkp.trans (Keeps.new _ _)).trans (Keeps.new _ _)⟩
      (repeat (first | rw [new_H, if_neg (α := LObj) (by (try simp only [set_next, new_next]); omega)] | rw [set_H, if_neg (α := LObj) (by omega)] | rw [new_H, if_pos (α := LObj) (by (try simp only [set_next, new_next]))] | rw [set_H, if_pos (α := LObj) (by omega)])); exact hM
    · clear f1 f2 f3 f4 f13 hG hsn hkp hM hmes fr s mes
      rintro j fr s hlt ⟨f4, f24, mes, I, Rs, t2, t3, f2, f3, hM, hfo, ⟨U, R, d, hU, hmes⟩, ⟨a1, a2, a3, a4⟩, ⟨b1, b2, b3, b4⟩, hne, ⟨hb1, hb2⟩, hkp⟩ fi fn JO hJO
      generalize hMM : st.next + 1 = M at *
      have hd := eds_drop g.es j hlt
      have hk3 : j * 3 < g.es.length * 3 := by omega
      have htk : g.es.take (j + 1) = g.es.take j ++ [g.es.getD j ed0] := by
        rw [List.getD_eq_getElem?_getD, List.getElem?_eq_getElem hlt]; exact List.take_succ_eq_append_getElem hlt
      have hxin : g.es.getD j ed0 ∈ g.es := by
        rw [List.getD_eq_getElem?_getD, List.getElem?_eq_getElem hlt]; exact List.getElem_mem _
      generalize g.es.getD j ed0 = x at *
      obtain ⟨hxa, hxb⟩ := hg.ends x hxin
      obtain ⟨id, a, b⟩ := x
      simp only at hxa hxb
      have hsub := hfo.sub
      have hIl : I.length ≤ 1000 := by have := hsub.1.length_le; rw [List.length_take] at this; omega
      have hRl : Rs.length ≤ 1000 := by have := hsub.2.1.length_le; rw [List.length_take] at this; omega
      have hIv : ∀ y ∈ I, y.a ∈ g.vs ∧ y.b ∈ g.vs := fun y hy => hg.ends y (List.mem_of_mem_take (hsub.1.subset hy))
      have m0 : ¬ M = s.next := by omega
      have m0' : ¬ s.next = M := by omega
      have m2 : ¬ M = t2 := box_neW hM a4 (by simp)
      have m3 : ¬ M = t3 := box_neW hM b4 (by simp)
      have c2 : ¬ t2 = s.next + 1 := by omega
      have c3 : ¬ t3 = s.next + 1 := by omega
      have c2b : ¬ t2 = s.next := by omega
      have c3b : ¬ t3 = s.next := by omega
      have hM1 : (s.new (.box 43 3 [u id, u a, u b])).H M = .map false [.u32] mes := by rw [new_H, if_neg m0]; exact hM
      (repeat' (first | refine awp_seq ?_ | refine awp_block ?_ | ((first | refine awp_skip ?_ | refine awp_exit ?_); simp only [ak, reduceIte]) | (refine awp_ret ?_; simp only [ak, reduceIte]; simp [f24, fi, fn, hd, hel, hk3, hlt]) | (refine awp_cond ?_; simp [f24, fi, fn, hd, hel, hk3, hlt]; (try with_reducible refine ⟨?_, ?_⟩) <;> (try with_reducible intro hc) <;> try (exfalso; omega)) | ((first | (refine w_e [] ?_; intro J hJ; simp only []) | (refine w_q ?_; intro J hJ) | refine e_go ?_); simp [f24, fi, fn, hd, hel, hk3, hlt]; (repeat refine ca ?_); (try ((try with_reducible refine ⟨?_, ?_⟩) <;> (try with_reducible intro hnil) <;> refine hJ _ _ ?_ <;> clear hJ J <;> simp only [ak, reduceIte] <;> try subst hnil)))))
      (refine w_s [] [s.next] [(0, true), (1, true), (2, true), (4, true), (5, true), (6, true), (3, true), (7, true), (8, true), (9, true)] ?_; intro J hJ; simp [f4]; (repeat refine ca ?_); (try ((try with_reducible refine ⟨?_, ?_⟩) <;> (try with_reducible intro hnil) <;> refine hJ _ _ ?_ <;> clear hJ J <;> simp only [ak, reduceIte] <;> try subst hnil)))
      refine dcallK_ofE (root M mes g.vs I U R d a _ hM1 hU hmes hxa) (by simp) ?_; rintro r s5 ⟨rfl, rfl⟩
      refine ⟨fun _ => by simp, ?_⟩
      (refine d_go ?_; simp [f4]; (repeat refine ca ?_); (try ((try with_reducible refine ⟨?_, ?_⟩) <;> (try with_reducible intro hnil) <;> refine hJ _ _ ?_ <;> clear hJ J <;> simp only [ak, reduceIte] <;> try subst hnil)))
      refine dcallK_ofE (root M mes g.vs I U R d b _ hM1 hU hmes hxb) (by simp) ?_; rintro r s6 ⟨rfl, rfl⟩
      refine ⟨fun _ => by simp, ?_⟩
      (refine d_go ?_; simp []; (repeat refine ca ?_); (try ((try with_reducible refine ⟨?_, ?_⟩) <;> (try with_reducible intro hnil) <;> refine hJ _ _ ?_ <;> clear hJ J <;> simp only [ak, reduceIte] <;> try subst hnil)))
      by_cases hab : R a = R b
      · have hab2 : (R a == R b) = true := by simpa using hab
        have hre : Reach I a b := (hU.rel a hxa b hxb).1 hab
        (repeat' (first | refine awp_seq ?_ | refine awp_block ?_ | ((first | refine awp_skip ?_ | refine awp_exit ?_); simp only [ak, reduceIte]) | (refine awp_ret ?_; simp only [ak, reduceIte]; simp [f3, hab2, b4, b1, c3, c3b]) | (refine awp_cond ?_; simp [f3, hab2, b4, b1, c3, c3b]; (try with_reducible refine ⟨?_, ?_⟩) <;> (try with_reducible intro hc) <;> try (exfalso; omega)) | ((first | (refine w_e [] ?_; intro J hJ; simp only []) | (refine w_q ?_; intro J hJ) | refine e_go ?_); simp [f3, hab2, b4, b1, c3, c3b]; (repeat refine ca ?_); (try ((try with_reducible refine ⟨?_, ?_⟩) <;> (try with_reducible intro hnil) <;> refine hJ _ _ ?_ <;> clear hJ J <;> simp only [ak, reduceIte] <;> try subst hnil)))))
        refine hJO _ _ (by simp [fi]) (by simp [fn]) ⟨by simp [f4], by simp [f24], mes, I, Rs ++ [⟨id, a, b⟩], t2, s.next + 2, by simp [f2], by simp [idsL], ?_⟩
        rw [htk]
        refine ⟨by (repeat (first | rw [new_H, if_neg (α := LObj) (by (try simp only [set_next, new_next]); omega)] | rw [set_H, if_neg (α := LObj) (by omega)] | rw [new_H, if_pos (α := LObj) (by (try simp only [set_next, new_next]))] | rw [set_H, if_pos (α := LObj) (by omega)])); exact hM, .rest hfo hre, ⟨U, R, d, hU, hmes⟩, ⟨a1, a2, by simp; omega, by (repeat (first | rw [new_H, if_neg (α := LObj) (by (try simp only [set_next, new_next]); omega)] | rw [set_H, if_neg (α := LObj) (by omega)] | rw [new_H, if_pos (α := LObj) (by (try simp only [set_next, new_next]))] | rw [set_H, if_pos (α := LObj) (by omega)])); exact a4⟩, ⟨by omega, by omega, by simp, by simp⟩, by omega, ⟨hb1, by simp; omega⟩, ?_⟩
        exact (((hkp.trans (Keeps.new _ _)).trans (Keeps.new _ _)).set (by omega) _).trans (Keeps.new _ _)
      · have hab2 : (R a == R b) = false := by simpa using hab
        have hre : ¬ Reach I a b := fun h => hab ((hU.rel a hxa b hxb).2 h)
        have m2' : ¬ t2 = M := fun e => m2 e.symm
        (repeat' (first | refine awp_seq ?_ | refine awp_block ?_ | ((first | refine awp_skip ?_ | refine awp_exit ?_); simp only [ak, reduceIte]) | (refine awp_ret ?_; simp only [ak, reduceIte]; simp [f2, f4, hab2, a4, a1, c2, c2b, hM1, m0, m0', m2', hM]) | (refine awp_cond ?_; simp [f2, f4, hab2, a4, a1, c2, c2b, hM1, m0, m0', m2', hM]; (try with_reducible refine ⟨?_, ?_⟩) <;> (try with_reducible intro hc) <;> try (exfalso; omega)) | ((first | (refine w_e [] ?_; intro J hJ; simp only []) | (refine w_q ?_; intro J hJ) | refine e_go ?_); simp [f2, f4, hab2, a4, a1, c2, c2b, hM1, m0, m0', m2', hM]; (repeat refine ca ?_); (try ((try with_reducible refine ⟨?_, ?_⟩) <;> (try with_reducible intro hnil) <;> refine hJ _ _ ?_ <;> clear hJ J <;> simp only [ak, reduceIte] <;> try subst hnil)))))
        refine hJO _ _ (by simp [fi]) (by simp [fn]) ⟨by simp [f4], by simp [f24], mset mes [R a] (u (R b)), I ++ [⟨id, a, b⟩], Rs, s.next + 2, t3, by simp [idsL], by simp [f3], ?_⟩
        rw [htk]
        refine ⟨by (repeat (first | rw [new_H, if_neg (α := LObj) (by (try simp only [set_next, new_next]); omega)] | rw [set_H, if_neg (α := LObj) (by omega)] | rw [new_H, if_pos (α := LObj) (by (try simp only [set_next, new_next]))] | rw [set_H, if_pos (α := LObj) (by omega)])), .join hfo hre, ⟨_, _, _, hU.join (x := ⟨id, a, b⟩) hxa hxb hIv hab, fun v hv => ?_⟩, ⟨by omega, by omega, by simp, by simp⟩, ⟨b1, b2, by simp; omega, by (repeat (first | rw [new_H, if_neg (α := LObj) (by (try simp only [set_next, new_next]); omega)] | rw [set_H, if_neg (α := LObj) (by omega)] | rw [new_H, if_pos (α := LObj) (by (try simp only [set_next, new_next]))] | rw [set_H, if_pos (α := LObj) (by omega)])); exact b4⟩, by omega, ⟨hb1, by simp; omega⟩, ?_⟩
        · rw [mget_mset]
          by_cases e : v = R a
          · simp [e]
          · simp [e, hmes v hv]
        · exact ((((hkp.trans (Keeps.new _ _)).set (by omega) _).trans (Keeps.new _ _)).set (by omega) _).trans (Keeps.new _ _)
    · rintro fr s ⟨f4, f24, mes, I, Rs, t2, t3, f2, f3, hB⟩
      have hfo := hB.fo
      rw [List.take_length] at hfo
      (repeat' (first | refine awp_seq ?_ | refine awp_block ?_ | ((first | refine awp_skip ?_ | refine awp_exit ?_); simp only [ak, reduceIte]) | (refine awp_ret ?_; simp only [ak, reduceIte]; simp [f2, f3]) | (refine awp_cond ?_; simp [f2, f3]; (try with_reducible refine ⟨?_, ?_⟩) <;> (try with_reducible intro hc) <;> try (exfalso; omega)) | ((first | (refine w_e [] ?_; intro J hJ; simp only []) | (refine w_q ?_; intro J hJ) | refine e_go ?_); simp [f2, f3]; (repeat refine ca ?_); (try ((try with_reducible refine ⟨?_, ?_⟩) <;> (try with_reducible intro hnil) <;> refine hJ _ _ ?_ <;> clear hJ J <;> simp only [ak, reduceIte] <;> try subst hnil)))))
      refine ⟨⟨I, Rs, hfo, by simp [z0, z0L]⟩, hB.kp⟩

end Go.Proofs.YtomfeddgeihipaaGreat.Aw

namespace Go.Proofs.YtomfeddgeihipaaGreat.Aw
open Go Go.RowKit Go.Proofs.YtomfeddgeihipaaGreat.Pl
set_option linter.unusedSimpArgs false
set_option linter.unusedVariables false

def FoR (es : List Ed) (r : LV) : Prop := ∃ I Rs, IsFo es I Rs ∧ r = .sl 0 (idsL I).length (us (idsL I))
def ReR (es : List Ed) (r : LV) : Prop := ∃ I Rs, IsFo es I Rs ∧ r = .sl 0 (idsL Rs).length (us (idsL Rs))
theorem Forest (g : Gr) (st : St) (hg : Good g) (hv : g.vs.length ≤ 1000) (he : g.es.length ≤ 1000) (hp : 0 < st.next) :
    ACalls Tryz.prog 59 [.ag (grL g)] st fun r st' => FoR g.es r ∧ Keeps st st' := by
  refine acalls_of_body tabOk Tryz.func59 rfl rfl Tryz.ntmps59 (rs := [.tmp 2]) rfl (by simp) ?_
  (repeat' (first | refine awp_seq ?_ | refine awp_block ?_ | ((first | refine awp_skip ?_ | refine awp_exit ?_); simp only [ak, reduceIte]) | (refine awp_ret ?_; simp only [ak, reduceIte]; simp []) | (refine awp_cond ?_; simp []; (try with_reducible refine ⟨?_, ?_⟩) <;> (try with_reducible intro hc) <;> try (exfalso; omega)) | ((first | (refine w_e [] ?_; intro J hJ; simp only []) | (refine w_q ?_; intro J hJ) | refine e_go ?_); simp []; (repeat refine ca ?_); (try ((try with_reducible refine ⟨?_, ?_⟩) <;> (try with_reducible intro hnil) <;> refine hJ _ _ ?_ <;> clear hJ J <;> simp only [ak, reduceIte] <;> try subst hnil)))))
  refine callK_ofE (split g _ hg hv he (by simp)) (by simp) ?_; rintro r s2 ⟨⟨I, Rs, hfo, rfl⟩, hk⟩
  (repeat' (first | refine awp_seq ?_ | refine awp_block ?_ | ((first | refine awp_skip ?_ | refine awp_exit ?_); simp only [ak, reduceIte]) | (refine awp_ret ?_; simp only [ak, reduceIte]; simp []) | (refine awp_cond ?_; simp []; (try with_reducible refine ⟨?_, ?_⟩) <;> (try with_reducible intro hc) <;> try (exfalso; omega)) | ((first | (refine w_e [] ?_; intro J hJ; simp only []) | (refine w_q ?_; intro J hJ) | refine e_go ?_); simp []; (repeat refine ca ?_); (try ((try with_reducible refine ⟨?_, ?_⟩) <;> (try with_reducible intro hnil) <;> refine hJ _ _ ?_ <;> clear hJ J <;> simp only [ak, reduceIte] <;> try subst hnil)))))
  exact ⟨⟨I, Rs, hfo, by simp⟩, (Keeps.new _ _).trans hk⟩
theorem Rest (g : Gr) (st : St) (hg : Good g) (hv : g.vs.length ≤ 1000) (he : g.es.length ≤ 1000) (hp : 0 < st.next) :
    ACalls Tryz.prog 60 [.ag (grL g)] st fun r st' => ReR g.es r ∧ Keeps st st' := by
  refine acalls_of_body tabOk Tryz.func60 rfl rfl Tryz.ntmps60 (rs := [.tmp 2]) rfl (by simp) ?_
  (repeat' (first | refine awp_seq ?_ | refine awp_block ?_ | ((first | refine awp_skip ?_ | refine awp_exit ?_); simp only [ak, reduceIte]) | (refine awp_ret ?_; simp only [ak, reduceIte]; simp []) | (refine awp_cond ?_; simp []; (try with_reducible refine ⟨?_, ?_⟩) <;> (try with_reducible intro hc) <;> try (exfalso; omega)) | ((first | (refine w_e [] ?_; intro J hJ; simp only []) | (refine w_q ?_; intro J hJ) | refine e_go ?_); simp []; (repeat refine ca ?_); (try ((try with_reducible refine ⟨?_, ?_⟩) <;> (try with_reducible intro hnil) <;> refine hJ _ _ ?_ <;> clear hJ J <;> simp only [ak, reduceIte] <;> try subst hnil)))))
  refine callK_ofE (split g _ hg hv he (by simp)) (by simp) ?_; rintro r s2 ⟨⟨I, Rs, hfo, rfl⟩, hk⟩
  (repeat' (first | refine awp_seq ?_ | refine awp_block ?_ | ((first | refine awp_skip ?_ | refine awp_exit ?_); simp only [ak, reduceIte]) | (refine awp_ret ?_; simp only [ak, reduceIte]; simp []) | (refine awp_cond ?_; simp []; (try with_reducible refine ⟨?_, ?_⟩) <;> (try with_reducible intro hc) <;> try (exfalso; omega)) | ((first | (refine w_e [] ?_; intro J hJ; simp only []) | (refine w_q ?_; intro J hJ) | refine e_go ?_); simp []; (repeat refine ca ?_); (try ((try with_reducible refine ⟨?_, ?_⟩) <;> (try with_reducible intro hnil) <;> refine hJ _ _ ?_ <;> clear hJ J <;> simp only [ak, reduceIte] <;> try subst hnil)))))
  exact ⟨⟨I, Rs, hfo, by simp⟩, (Keeps.new _ _).trans hk⟩

theorem gi_ge (l : List Int) (x : Int) : 0 ≤ gi l x ↔ x ∈ l := by
  have h := gi_neg l x
  constructor
  · intro h2
    exact Decidable.by_contra fun h3 => by have := h.2 h3; omega
  · intro h2
    exact Decidable.by_contra fun h3 => (h.1 (by omega)) h2
theorem sum3W (l : List Ed) : (List.map (fun _ : Ed => 3) l).sum = l.length * 3 := by
  induction l with
  | nil => rfl
  | cons x l ih => simp only [List.map_cons, List.sum_cons, List.length_cons, ih]; omega
theorem z0_edsW (l : List Ed) : z0L (eds l) = eds l := by
  induction l with
  | nil => rfl
  | cons e l ih => simp only [eds, List.flatMap_cons, List.cons_append, List.nil_append, z0L, z0] at ih ⊢; rw [ih]
def wth (es : List Ed) (ids : List Int) : List Ed := es.filter fun x => decide (x.id ∈ ids)
theorem withR (g : Gr) (ids : List Int) (t : Nat) (st : St) (hv : g.vs.length ≤ 1000) (he : g.es.length ≤ 1000) (hi : ids.length ≤ 1000) (hp : 0 < st.next) :
    ACalls Tryz.prog 107 [.ag (grL g), .sl t ids.length (us ids)] st fun r st' => r = .ag (grL ⟨g.vs, wth g.es ids⟩) ∧ Keeps st st' := by
  refine acalls_z0 ?_
  have hel := eds_length g.es
  refine acalls_of_body tabOk Tryz.func107 rfl rfl Tryz.ntmps107 (rs := [.cell 4 38]) rfl (by simp) ?_
  (repeat' (first | refine awp_seq ?_ | refine awp_block ?_ | ((first | refine awp_skip ?_ | refine awp_exit ?_); simp only [ak, reduceIte]) | (refine awp_ret ?_; simp only [ak, reduceIte]; simp []) | (refine awp_cond ?_; simp []; (try with_reducible refine ⟨?_, ?_⟩) <;> (try with_reducible intro hc) <;> try (exfalso; omega)) | ((first | (refine w_e [] ?_; intro J hJ; simp only []) | (refine w_q ?_; intro J hJ) | refine e_go ?_); simp []; (repeat refine ca ?_); (try ((try with_reducible refine ⟨?_, ?_⟩) <;> (try with_reducible intro hnil) <;> refine hJ _ _ ?_ <;> clear hJ J <;> simp only [ak, reduceIte] <;> try subst hnil)))))
  refine awp_cell (st.next + 2) 43 3 (e := 38) (s := 2) [.sl 0 g.vs.length (us g.vs)] [] (by simp) ?_
  refine awp_range 14 13 15 29 (g.es.length) (fun j fr st2 => fr 1 = .sl t ids.length (us ids) ∧ fr 4 = .pt (st.next + 1) 0 ∧ fr 5 = .pt (st.next + 2) 0 ∧ fr 12 = .sl 0 g.es.length (eds g.es) ∧ st2.H (st.next + 1) = .box 38 2 [.nil, .nil] ∧ st.next + 2 < st2.next ∧ Keeps st st2 ∧ ∃ te, st2.H (st.next + 2) = .box 38 2 [.sl 0 g.vs.length (us g.vs), .sl te (wth (g.es.take j) ids).length (eds (wth (g.es.take j) ids))] ∧ te ≠ 0 ∧ st.next ≤ te ∧ te < st2.next ∧ st2.H te = .own 43 3 (wth (g.es.take j) ids).length) ?_ ?_ ?_
  · refine ⟨by simp, by simp, by simp, by simp, by simp, by simp, ?_, st.next + 3, by simp [wth], by omega, by omega, by simp, by simp [wth]⟩
    refine ⟨by simp; omega, fun l hl => ?_⟩
    (repeat (first | rw [new_H, if_neg (α := LObj) (by (try simp only [set_next, new_next]); omega)] | rw [set_H, if_neg (α := LObj) (by omega)] | rw [new_H, if_pos (α := LObj) (by (try simp only [set_next, new_next]))] | rw [set_H, if_pos (α := LObj) (by omega)]))
  · rintro j fr s hlt ⟨f1, f4, f5, f12, h1, hsn, hkp, te, h4, te0, te1, te2, hte⟩ fi fn JO hJO
    have hd := eds_drop g.es j hlt
    have hk3 : j * 3 < g.es.length * 3 := by omega
    have htk : wth (g.es.take (j + 1)) ids = wth (g.es.take j) ids ++ if (g.es.getD j ed0).id ∈ ids then [g.es.getD j ed0] else [] := by
      unfold wth
      rw [List.take_succ_eq_append_getElem hlt, List.filter_append, List.getD_eq_getElem?_getD, List.getElem?_eq_getElem hlt]
      by_cases h : g.es[j].id ∈ ids <;> simp [h]
    have hEl : (wth (g.es.take j) ids).length ≤ 1000 := by
      have := List.length_filter_le (fun x : Ed => decide (x.id ∈ ids)) (g.es.take j)
      rw [List.length_take] at this
      unfold wth; omega
    generalize g.es.getD j ed0 = x at *
    generalize wth (g.es.take j) ids = E at *
    obtain ⟨d, a, b⟩ := x
    simp only at htk
    (repeat' (first | refine awp_seq ?_ | refine awp_block ?_ | ((first | refine awp_skip ?_ | refine awp_exit ?_); simp only [ak, reduceIte]) | (refine awp_ret ?_; simp only [ak, reduceIte]; simp [f12, fi, fn, hd, hel, hk3, hlt]) | (refine awp_cond ?_; simp [f12, fi, fn, hd, hel, hk3, hlt]; (try with_reducible refine ⟨?_, ?_⟩) <;> (try with_reducible intro hc) <;> try (exfalso; omega)) | ((first | (refine w_e [] ?_; intro J hJ; simp only []) | (refine w_q ?_; intro J hJ) | refine e_go ?_); simp [f12, fi, fn, hd, hel, hk3, hlt]; (repeat refine ca ?_); (try ((try with_reducible refine ⟨?_, ?_⟩) <;> (try with_reducible intro hnil) <;> refine hJ _ _ ?_ <;> clear hJ J <;> simp only [ak, reduceIte] <;> try subst hnil)))))
    refine callK_ofE (Find ids t d _ (by unfold small; omega)) (by simp [f1]) ?_; rintro r s2 ⟨rfl, rfl⟩
    have c1 : ¬ te = s.next := by omega
    have c10 : ¬ st.next = s.next := by omega
    have c1b : ¬ te = s.next + 1 := by omega
    have c3b : ¬ st.next + 2 = s.next + 1 := by omega
    have c8 : ¬ s.next = te := by omega
    have c9 : ¬ s.next + 1 = te := by omega
    have c2 : ¬ st.next + 1 = s.next := by omega
    have c3 : ¬ st.next + 2 = s.next := by omega
    have c4 : ¬ s.next = st.next + 2 := by omega
    have c5 : ¬ st.next + 2 = te := box_neW h4 hte (by simp)
    have c6 : ¬ st.next + 1 = te := box_neW h1 hte (by simp)
    by_cases hdi : d ∈ ids
    · have hge : decide (0 ≤ gi ids d) = true := decide_eq_true ((gi_ge ids d).2 hdi)
      have hge2 := (gi_ge ids d).2 hdi
      rw [if_pos hdi] at htk
      have hsm := sum3W E
      (repeat' (first | refine awp_seq ?_ | refine awp_block ?_ | ((first | refine awp_skip ?_ | refine awp_exit ?_); simp only [ak, reduceIte]) | (refine awp_ret ?_; simp only [ak, reduceIte]; simp [f5, h4, hte, te0, hge, hge2, hsm, c1, c1b, c3, c3b, c4, c5, c8, c9, c10]) | (refine awp_cond ?_; simp [f5, h4, hte, te0, hge, hge2, hsm, c1, c1b, c3, c3b, c4, c5, c8, c9, c10]; (try with_reducible refine ⟨?_, ?_⟩) <;> (try with_reducible intro hc) <;> try (exfalso; omega)) | ((first | (refine w_e [] ?_; intro J hJ; simp only []) | (refine w_q ?_; intro J hJ) | refine e_go ?_); simp [f5, h4, hte, te0, hge, hge2, hsm, c1, c1b, c3, c3b, c4, c5, c8, c9, c10]; (repeat refine ca ?_); (try ((try with_reducible refine ⟨?_, ?_⟩) <;> (try with_reducible intro hnil) <;> refine hJ _ _ ?_ <;> clear hJ J <;> simp only [ak, reduceIte] <;> try subst hnil)))))
      have e3 : eds E ++ [u d, u a, u b] = eds (E ++ [⟨d, a, b⟩]) := by simp [eds, edL]
      refine hJO _ _ (by simp [fi]) (by simp [fn]) ⟨by simp [f1], by simp [f4], by simp [f5], by simp [f12], ?_, by simp; omega, ?_, s.next + 2, ?_, by omega, by omega, by simp, ?_⟩
      · (repeat (first | rw [new_H, if_neg (α := LObj) (by (try simp only [set_next, new_next]); omega)] | rw [set_H, if_neg (α := LObj) (by omega)] | rw [new_H, if_pos (α := LObj) (by (try simp only [set_next, new_next]))] | rw [set_H, if_pos (α := LObj) (by omega)])); exact h1
      · refine ⟨by have := hkp.next; simp; omega, fun l hl => ?_⟩
        (repeat (first | rw [new_H, if_neg (α := LObj) (by (try simp only [set_next, new_next]); omega)] | rw [set_H, if_neg (α := LObj) (by omega)] | rw [new_H, if_pos (α := LObj) (by (try simp only [set_next, new_next]))] | rw [set_H, if_pos (α := LObj) (by omega)])); exact hkp.H l hl
      · rw [htk, ← e3]; (repeat (first | rw [new_H, if_neg (α := LObj) (by (try simp only [set_next, new_next]); omega)] | rw [set_H, if_neg (α := LObj) (by omega)] | rw [new_H, if_pos (α := LObj) (by (try simp only [set_next, new_next]))] | rw [set_H, if_pos (α := LObj) (by omega)])); simp
      · rw [htk]; (repeat (first | rw [new_H, if_neg (α := LObj) (by (try simp only [set_next, new_next]); omega)] | rw [set_H, if_neg (α := LObj) (by omega)] | rw [new_H, if_pos (α := LObj) (by (try simp only [set_next, new_next]))] | rw [set_H, if_pos (α := LObj) (by omega)])); simp
    · have hge : decide (0 ≤ gi ids d) = false := decide_eq_false (fun h => hdi ((gi_ge ids d).1 h))
      have hge2 : ¬ 0 ≤ gi ids d := fun h => hdi ((gi_ge ids d).1 h)
      rw [if_neg hdi, List.append_nil] at htk
      (repeat' (first | refine awp_seq ?_ | refine awp_block ?_ | ((first | refine awp_skip ?_ | refine awp_exit ?_); simp only [ak, reduceIte]) | (refine awp_ret ?_; simp only [ak, reduceIte]; simp [hge, hge2]) | (refine awp_cond ?_; simp [hge, hge2]; (try with_reducible refine ⟨?_, ?_⟩) <;> (try with_reducible intro hc) <;> try (exfalso; omega)) | ((first | (refine w_e [] ?_; intro J hJ; simp only []) | (refine w_q ?_; intro J hJ) | refine e_go ?_); simp [hge, hge2]; (repeat refine ca ?_); (try ((try with_reducible refine ⟨?_, ?_⟩) <;> (try with_reducible intro hnil) <;> refine hJ _ _ ?_ <;> clear hJ J <;> simp only [ak, reduceIte] <;> try subst hnil)))))
      refine hJO _ _ (by simp [fi]) (by simp [fn]) ⟨by simp [f1], by simp [f4], by simp [f5], by simp [f12], by simp [c2, h1], by simp; omega, hkp.trans (Keeps.new _ _), te, by rw [htk]; simp [c3, h4], te0, te1, by simp; omega, by rw [htk]; simp [c1, hte]⟩
  · rintro fr s ⟨f1, f4, f5, f12, h1, hsn, hkp, te, h4, te0, te1, te2, hte⟩
    rw [List.take_length] at h4
    (repeat' (first | refine awp_seq ?_ | refine awp_block ?_ | ((first | refine awp_skip ?_ | refine awp_exit ?_); simp only [ak, reduceIte]) | (refine awp_ret ?_; simp only [ak, reduceIte]; simp [f5, f4, h4, h1]) | (refine awp_cond ?_; simp [f5, f4, h4, h1]; (try with_reducible refine ⟨?_, ?_⟩) <;> (try with_reducible intro hc) <;> try (exfalso; omega)) | ((first | (refine w_e [] ?_; intro J hJ; simp only []) | (refine w_q ?_; intro J hJ) | refine e_go ?_); simp [f5, f4, h4, h1]; (repeat refine ca ?_); (try ((try with_reducible refine ⟨?_, ?_⟩) <;> (try with_reducible intro hnil) <;> refine hJ _ _ ?_ <;> clear hJ J <;> simp only [ak, reduceIte] <;> try subst hnil)))))
    exact ⟨by simp [z0, z0L, grL, z0_edsW], hkp.set (by omega) _⟩

structure RfI (st : St) (E I Rs : List Ed) (t2 t3 : Nat) (s : St) : Prop where
  fo : IsFo E I Rs
  o2 : OwnI t2 st I.length s
  o3 : OwnI t3 st Rs.length s
  ne : t2 ≠ t3
  kp : Keeps st s
theorem Good.sub {g : Gr} (h : Good g) {E : List Ed} (hs : ∀ x ∈ E, x ∈ g.es) : Good ⟨g.vs, E⟩ := ⟨h.rise, fun x hx => h.ends x (hs x hx)⟩

set_option maxHeartbeats 2000000 in
theorem ref_Forest (g : Gr) (st : St) (hg : Good g) (hi : g.es.Pairwise fun x y => x.id < y.id) (hv : g.vs.length ≤ 1000) (he : g.es.length ≤ 1000) (hp : 0 < st.next) :
    ACalls Tryz.prog 58 [.ag (grL g)] st fun r st' => (∃ I Rs, IsFo g.es I Rs ∧ r = .tu [.sl 0 (idsL I).length (us (idsL I)), .sl 0 (idsL Rs).length (us (idsL Rs))]) ∧ Keeps st st' := by
  refine acalls_z0 ?_
  have hel := eds_length g.es
  refine acalls_of_body tabOk Tryz.func58 rfl rfl Tryz.ntmps58 (rs := [.tmp 2, .tmp 3]) rfl (by simp) ?_
  (repeat' (first | refine awp_seq ?_ | refine awp_block ?_ | ((first | refine awp_skip ?_ | refine awp_exit ?_); simp only [ak, reduceIte]) | (refine awp_ret ?_; simp only [ak, reduceIte]; simp []) | (refine awp_cond ?_; simp []; (try with_reducible refine ⟨?_, ?_⟩) <;> (try with_reducible intro hc) <;> try (exfalso; omega)) | ((first | (refine w_e [] ?_; intro J hJ; simp only []) | (refine w_q ?_; intro J hJ) | refine e_go ?_); simp []; (repeat refine ca ?_); (try ((try with_reducible refine ⟨?_, ?_⟩) <;> (try with_reducible intro hnil) <;> refine hJ _ _ ?_ <;> clear hJ J <;> simp only [ak, reduceIte] <;> try subst hnil)))))
  refine awp_own 4 41 1 (by simp) ?_
  refine awp_own 5 41 1 (by simp) ?_
  refine awp_range 11 10 12 35 (g.es.length) (fun j fr st2 => fr 1 = .pt st.next 0 ∧ fr 9 = .sl 0 g.es.length (eds g.es) ∧ st.next < st2.next ∧ st2.H st.next = .box 38 2 (grL g) ∧ ∃ I Rs t2 t3, fr 4 = .sl t2 I.length (us (idsL I)) ∧ fr 5 = .sl t3 Rs.length (us (idsL Rs)) ∧ RfI st (g.es.take j) I Rs t2 t3 st2) ?_ ?_ ?_
  · refine ⟨by simp, by simp, by simp; omega, by simp, [], [], st.next + 1, st.next + 2, by simp [idsL], by simp [idsL], by simpa using IsFo.nil, ⟨by omega, by omega, by simp, by simp⟩, ⟨by omega, by omega, by simp, by simp⟩, by omega, ?_⟩
    exact ((Keeps.new _ _).trans (Keeps.new _ _)).trans (Keeps.new _ _)
  · rintro j fr s hlt ⟨f1, f9, hsn, hG, I, Rs, t2, t3, f4, f5, hfo, ⟨a1, a2, a3, a4⟩, ⟨b1, b2, b3, b4⟩, hne, hkp⟩ fi fn JO hJO
    have hd := eds_drop g.es j hlt
    have hk3 : j * 3 < g.es.length * 3 := by omega
    have htk : g.es.take (j + 1) = g.es.take j ++ [g.es.getD j ed0] := by
      rw [List.getD_eq_getElem?_getD, List.getElem?_eq_getElem hlt]; exact List.take_succ_eq_append_getElem hlt
    have hxin : g.es.getD j ed0 ∈ g.es := by
      rw [List.getD_eq_getElem?_getD, List.getElem?_eq_getElem hlt]; exact List.getElem_mem _
    generalize g.es.getD j ed0 = x at *
    obtain ⟨hxa, hxb⟩ := hg.ends x hxin
    obtain ⟨id, a, b⟩ := x
    simp only at hxa hxb
    have hsub := hfo.sub
    have hIs : I.Sublist g.es := hsub.1.trans (List.take_sublist _ _)
    have hIl : I.length ≤ 1000 := by have := hIs.length_le; omega
    have hRl : Rs.length ≤ 1000 := by have := hsub.2.1.length_le; rw [List.length_take] at this; omega
    have hgI : Good ⟨g.vs, I⟩ := hg.sub fun x hx => hIs.subset hx
    have hwI : wth g.es (idsL I) = I := pick_sub hi hIs
    have m0 : ¬ st.next = s.next := by omega
    (repeat' (first | refine awp_seq ?_ | refine awp_block ?_ | ((first | refine awp_skip ?_ | refine awp_exit ?_); simp only [ak, reduceIte]) | (refine awp_ret ?_; simp only [ak, reduceIte]; simp [f9, fi, fn, hd, hel, hk3, hlt]) | (refine awp_cond ?_; simp [f9, fi, fn, hd, hel, hk3, hlt]; (try with_reducible refine ⟨?_, ?_⟩) <;> (try with_reducible intro hc) <;> try (exfalso; omega)) | ((first | (refine w_e [] ?_; intro J hJ; simp only []) | (refine w_q ?_; intro J hJ) | refine e_go ?_); simp [f9, fi, fn, hd, hel, hk3, hlt]; (repeat refine ca ?_); (try ((try with_reducible refine ⟨?_, ?_⟩) <;> (try with_reducible intro hnil) <;> refine hJ _ _ ?_ <;> clear hJ J <;> simp only [ak, reduceIte] <;> try subst hnil)))))
    (refine w_s [] [st.next, s.next] [(0, true), (1, true), (3, true), (4, true), (6, true), (7, true), (2, true), (5, true), (8, true), (9, true)] ?_; intro J hJ; simp [f1, f4, hG, m0]; (repeat refine ca ?_); (try ((try with_reducible refine ⟨?_, ?_⟩) <;> (try with_reducible intro hnil) <;> refine hJ _ _ ?_ <;> clear hJ J <;> simp only [ak, reduceIte] <;> try subst hnil)))
    generalize hs1 : s.new (.box 43 3 [u id, u a, u b]) = s1 at *
    have hG1 : s1.H st.next = .box 38 2 (grL g) := by rw [← hs1, new_H, if_neg m0]; exact hG
    have hX1 : s1.H s.next = .box 43 3 [u id, u a, u b] := by rw [← hs1, new_H, if_pos rfl]
    have n1 : s.next < s1.next := by rw [← hs1]; simp
    have k1 : Keeps st s1 := by rw [← hs1]; exact hkp.trans (Keeps.new _ _)
    have a41 : s1.H t2 = .own 41 1 I.length := by rw [← hs1, new_H, if_neg (by omega)]; exact a4
    have b41 : s1.H t3 = .own 41 1 Rs.length := by rw [← hs1, new_H, if_neg (by omega)]; exact b4
    refine dcallK_ofE (withR g (idsL I) t2 _ hv he (by simp; omega) (by omega)) (by simp) ?_; rintro r s5 ⟨rfl, hk5⟩
    have hn5 := hk5.next
    have hG5 := (hk5.H st.next (by omega)).trans hG1
    have hX5 := (hk5.H s.next (by omega)).trans hX1
    refine ⟨fun _ => by simp [hG5, hX5, hG1, hX1], ?_⟩
    rw [hwI]
    (refine d_go ?_; simp [hG1, hX1, hG5, hX5]; (repeat refine ca ?_); (try ((try with_reducible refine ⟨?_, ?_⟩) <;> (try with_reducible intro hnil) <;> refine hJ _ _ ?_ <;> clear hJ J <;> simp only [ak, reduceIte] <;> try subst hnil)))
    refine dcallK_ofE (ref_Part ⟨g.vs, I⟩ a s5 hgI hv hIl hxa) (by simp) ?_; rintro r s6 ⟨⟨c, rfl, hc⟩, hk6⟩
    have hn6 := hk6.next
    have hG6 := (hk6.H st.next (by omega)).trans hG5
    have hX6 := (hk6.H s.next (by omega)).trans hX5
    refine ⟨fun _ => by simp [hG6, hX6, hG1, hX1], ?_⟩
    (refine d_go ?_; simp [hG1, hX1, hG6, hX6]; (repeat refine ca ?_); (try ((try with_reducible refine ⟨?_, ?_⟩) <;> (try with_reducible intro hnil) <;> refine hJ _ _ ?_ <;> clear hJ J <;> simp only [ak, reduceIte] <;> try subst hnil)))
    have hcl : small c := by
      have : c.length ≤ g.vs.length := List.Nodup.length_le_of_subset (hc.1.imp fun h => by omega) fun w hw => ((hc.2 w).1 hw).1
      unfold small; omega
    refine dcallK_ofE (Find c 0 b _ hcl) (by simp) ?_; rintro r s7 ⟨rfl, rfl⟩
    refine ⟨fun _ => by simp [hG6, hX6, hG1, hX1], ?_⟩
    have hbc : b ∈ c ↔ Reach I a b := by rw [hc.2]; exact ⟨fun h => h.2, fun h => ⟨hxb, h⟩⟩
    have hge0 := gi_ge c b
    have a46 := (hk6.H t2 (by omega)).trans ((hk5.H t2 (by omega)).trans a41)
    have b46 := (hk6.H t3 (by omega)).trans ((hk5.H t3 (by omega)).trans b41)
    have k6 : Keeps st s7 := (k1.trans hk5).trans hk6
    have c2 : ¬ t2 = s7.next := by omega
    have c3 : ¬ t3 = s7.next := by omega
    have d1 : ¬ s.next = s7.next := by omega
    have d2 : ¬ st.next = s7.next := by omega
    have d3 : ¬ st.next = t2 := box_neW hG6 a46 (by simp)
    have d4 : ¬ st.next = t3 := box_neW hG6 b46 (by simp)
    by_cases hre : Reach I a b
    · have hge2 := hge0.2 (hbc.2 hre)
      have hge : decide (0 ≤ gi c b) = true := decide_eq_true hge2
      (refine d_go ?_; simp [hge, hge2]; (repeat refine ca ?_); (try ((try with_reducible refine ⟨?_, ?_⟩) <;> (try with_reducible intro hnil) <;> refine hJ _ _ ?_ <;> clear hJ J <;> simp only [ak, reduceIte] <;> try subst hnil)))
      (repeat' (first | refine awp_seq ?_ | refine awp_block ?_ | ((first | refine awp_skip ?_ | refine awp_exit ?_); simp only [ak, reduceIte]) | (refine awp_ret ?_; simp only [ak, reduceIte]; simp [f5, hX6, b46, b1, c3, d1]) | (refine awp_cond ?_; simp [f5, hX6, b46, b1, c3, d1]; (try with_reducible refine ⟨?_, ?_⟩) <;> (try with_reducible intro hc) <;> try (exfalso; omega)) | ((first | (refine w_e [] ?_; intro J hJ; simp only []) | (refine w_q ?_; intro J hJ) | refine e_go ?_); simp [f5, hX6, b46, b1, c3, d1]; (repeat refine ca ?_); (try ((try with_reducible refine ⟨?_, ?_⟩) <;> (try with_reducible intro hnil) <;> refine hJ _ _ ?_ <;> clear hJ J <;> simp only [ak, reduceIte] <;> try subst hnil)))))
      refine hJO _ _ (by simp [fi]) (by simp [fn]) ⟨by simp [f1], by simp [f9], by simp; omega, by (repeat (first | rw [new_H, if_neg (α := LObj) (by (try simp only [set_next, new_next]); omega)] | rw [set_H, if_neg (α := LObj) (by omega)] | rw [new_H, if_pos (α := LObj) (by (try simp only [set_next, new_next]))] | rw [set_H, if_pos (α := LObj) (by omega)])); exact hG6, I, Rs ++ [⟨id, a, b⟩], t2, s7.next + 1, by simp [f4], by simp [idsL], ?_⟩
      rw [htk]
      refine ⟨.rest hfo hre, ⟨a1, a2, by simp; omega, by (repeat (first | rw [new_H, if_neg (α := LObj) (by (try simp only [set_next, new_next]); omega)] | rw [set_H, if_neg (α := LObj) (by omega)] | rw [new_H, if_pos (α := LObj) (by (try simp only [set_next, new_next]))] | rw [set_H, if_pos (α := LObj) (by omega)])); exact a46⟩, ⟨by omega, by omega, by simp, by simp⟩, by omega, ?_⟩
      exact ((k6.trans (Keeps.new _ _)).set (by omega) _).trans (Keeps.new _ _)
    · have hge2 : ¬ 0 ≤ gi c b := fun h => hre (hbc.1 (hge0.1 h))
      have hge : decide (0 ≤ gi c b) = false := decide_eq_false hge2
      (refine d_go ?_; simp [hge, hge2]; (repeat refine ca ?_); (try ((try with_reducible refine ⟨?_, ?_⟩) <;> (try with_reducible intro hnil) <;> refine hJ _ _ ?_ <;> clear hJ J <;> simp only [ak, reduceIte] <;> try subst hnil)))
      (repeat' (first | refine awp_seq ?_ | refine awp_block ?_ | ((first | refine awp_skip ?_ | refine awp_exit ?_); simp only [ak, reduceIte]) | (refine awp_ret ?_; simp only [ak, reduceIte]; simp [f4, hX6, a46, a1, c2, d1]) | (refine awp_cond ?_; simp [f4, hX6, a46, a1, c2, d1]; (try with_reducible refine ⟨?_, ?_⟩) <;> (try with_reducible intro hc) <;> try (exfalso; omega)) | ((first | (refine w_e [] ?_; intro J hJ; simp only []) | (refine w_q ?_; intro J hJ) | refine e_go ?_); simp [f4, hX6, a46, a1, c2, d1]; (repeat refine ca ?_); (try ((try with_reducible refine ⟨?_, ?_⟩) <;> (try with_reducible intro hnil) <;> refine hJ _ _ ?_ <;> clear hJ J <;> simp only [ak, reduceIte] <;> try subst hnil)))))
      refine hJO _ _ (by simp [fi]) (by simp [fn]) ⟨by simp [f1], by simp [f9], by simp; omega, by (repeat (first | rw [new_H, if_neg (α := LObj) (by (try simp only [set_next, new_next]); omega)] | rw [set_H, if_neg (α := LObj) (by omega)] | rw [new_H, if_pos (α := LObj) (by (try simp only [set_next, new_next]))] | rw [set_H, if_pos (α := LObj) (by omega)])); exact hG6, I ++ [⟨id, a, b⟩], Rs, s7.next + 1, t3, by simp [idsL], by simp [f5], ?_⟩
      rw [htk]
      refine ⟨.join hfo hre, ⟨by omega, by omega, by simp, by simp⟩, ⟨b1, b2, by simp; omega, by (repeat (first | rw [new_H, if_neg (α := LObj) (by (try simp only [set_next, new_next]); omega)] | rw [set_H, if_neg (α := LObj) (by omega)] | rw [new_H, if_pos (α := LObj) (by (try simp only [set_next, new_next]))] | rw [set_H, if_pos (α := LObj) (by omega)])); exact b46⟩, by omega, ?_⟩
      exact ((k6.trans (Keeps.new _ _)).set (by omega) _).trans (Keeps.new _ _)
  · rintro fr s ⟨f1, f9, hsn, hG, I, Rs, t2, t3, f4, f5, hfo, h2, h3, hne, hkp⟩
    rw [List.take_length] at hfo
    (repeat' (first | refine awp_seq ?_ | refine awp_block ?_ | ((first | refine awp_skip ?_ | refine awp_exit ?_); simp only [ak, reduceIte]) | (refine awp_ret ?_; simp only [ak, reduceIte]; simp [f4, f5]) | (refine awp_cond ?_; simp [f4, f5]; (try with_reducible refine ⟨?_, ?_⟩) <;> (try with_reducible intro hc) <;> try (exfalso; omega)) | ((first | (refine w_e [] ?_; intro J hJ; simp only []) | (refine w_q ?_; intro J hJ) | refine e_go ?_); simp [f4, f5]; (repeat refine ca ?_); (try ((try with_reducible refine ⟨?_, ?_⟩) <;> (try with_reducible intro hnil) <;> refine hJ _ _ ?_ <;> clear hJ J <;> simp only [ak, reduceIte] <;> try subst hnil)))))
    exact ⟨⟨I, Rs, hfo, by simp [z0, z0L]⟩, hkp⟩

end Go.Proofs.YtomfeddgeihipaaGreat.Aw

namespace Go.Proofs.YtomfeddgeihipaaGreat.Aw
open Go Go.RowKit Go.Proofs.YtomfeddgeihipaaGreat.Pl
set_option linter.unusedSimpArgs false
set_option linter.unusedVariables false

/-! ### the least number that stands twice -/
/-- b is the least number that stands twice; 0: there is none. -/
def MinDup (c : List Int) (b : Int) : Prop := (b = 0 ∧ ∀ d, c.count d ≤ 1) ∨ (b ≠ 0 ∧ 2 ≤ c.count b ∧ ∀ d, 2 ≤ c.count d → b ≤ d)
theorem MinDup.unique {c : List Int} {a b : Int} (h : MinDup c a) (k : MinDup c b) : a = b := by
  rcases h with ⟨h1, h2⟩ | ⟨h1, h2, h3⟩ <;> rcases k with ⟨k1, k2⟩ | ⟨k1, k2, k3⟩
  · omega
  · have := h2 b; omega
  · have := k2 a; omega
  · have := h3 b k2; have := k3 a h2; omega
theorem MinDup.perm {c d : List Int} {b : Int} (h : MinDup c b) (p : c.Perm d) : MinDup d b := by
  have e : ∀ x, d.count x = c.count x := fun x => (p.count_eq x).symm
  rcases h with ⟨h1, h2⟩ | ⟨h1, h2, h3⟩
  · exact .inl ⟨h1, fun x => by rw [e]; exact h2 x⟩
  · exact .inr ⟨h1, by rw [e]; exact h2, fun x hx => h3 x (by rw [← e]; exact hx)⟩
theorem MinDup.nil : MinDup [] 0 := .inl ⟨rfl, fun _ => by simp⟩
theorem count_snoc (c : List Int) (x d : Int) : (c ++ [x]).count d = c.count d + if x = d then 1 else 0 := by
  rw [List.count_append, List.count_cons, List.count_nil]
  by_cases h : x = d <;> simp [h]
theorem MinDup.snoc {c : List Int} {b x : Int} (h : MinDup c b) (hx : 0 < x) (hc : ∀ y ∈ c, 0 < y) : MinDup (c ++ [x]) (if x ∈ c ∧ (b = 0 ∨ x < b) then x else b) := by
  have e := count_snoc c x
  have hcx : x ∈ c ↔ 1 ≤ c.count x := by rw [← List.count_pos_iff]; exact Iff.rfl
  by_cases hm : x ∈ c
  · have h1 := hcx.1 hm
    rcases h with ⟨h2, h3⟩ | ⟨h2, h3, h4⟩
    · rw [if_pos ⟨hm, .inl h2⟩]
      refine .inr ⟨by omega, by rw [e, if_pos rfl]; omega, fun d hd => ?_⟩
      rw [e] at hd
      by_cases hxd : x = d
      · omega
      · rw [if_neg hxd] at hd; have := h3 d; omega
    · by_cases hlt : x < b
      · rw [if_pos ⟨hm, .inr hlt⟩]
        refine .inr ⟨by omega, by rw [e, if_pos rfl]; omega, fun d hd => ?_⟩
        rw [e] at hd
        by_cases hxd : x = d
        · omega
        · rw [if_neg hxd] at hd; have := h4 d (by omega); omega
      · rw [if_neg (by rintro ⟨_, g | g⟩ <;> omega)]
        refine .inr ⟨h2, by rw [e]; split <;> omega, fun d hd => ?_⟩
        rw [e] at hd
        by_cases hxd : x = d
        · omega
        · rw [if_neg hxd] at hd; exact h4 d (by omega)
  · have h1 : c.count x = 0 := by have := mt hcx.2 hm; omega
    rw [if_neg (fun g => hm g.1)]
    rcases h with ⟨h2, h3⟩ | ⟨h2, h3, h4⟩
    · refine .inl ⟨h2, fun d => ?_⟩
      rw [e]
      by_cases hxd : x = d
      · subst hxd; rw [if_pos rfl]; omega
      · rw [if_neg hxd]; exact h3 d
    · refine .inr ⟨h2, by rw [e]; split <;> omega, fun d hd => ?_⟩
      rw [e] at hd
      by_cases hxd : x = d
      · subst hxd; rw [if_pos rfl] at hd; omega
      · rw [if_neg hxd] at hd; exact h4 d (by omega)
/-! ### rising rows are told by what is in them -/
theorem rise_eq {α : Type} (f : α → Int) : ∀ {a b : List α}, (a.map f).Pairwise (· < ·) → (b.map f).Pairwise (· < ·) → (∀ x, x ∈ a ↔ x ∈ b) → a = b
  | [], [], _, _, _ => rfl
  | [], y :: b, _, _, h => by have := (h y).2 (by simp); simp at this
  | x :: a, [], _, _, h => by have := (h x).1 (by simp); simp at this
  | x :: a, y :: b, ha, hb, h => by
    simp only [List.map_cons, List.pairwise_cons, List.mem_map, forall_exists_index, and_imp, forall_apply_eq_imp_iff₂] at ha hb
    have hxy : x = y := by
      rcases List.mem_cons.1 ((h x).1 (by simp)) with h1 | h1
      · exact h1
      · rcases List.mem_cons.1 ((h y).2 (by simp)) with h2 | h2
        · exact h2.symm
        · have := ha.1 y h2; have := hb.1 x h1; omega
    subst hxy
    congr 1
    refine rise_eq f ha.2 hb.2 fun z => ?_
    have hz := h z
    rw [List.mem_cons, List.mem_cons] at hz
    constructor
    · intro hza
      rcases hz.1 (.inr hza) with h1 | h1
      · subst h1; have := ha.1 z hza; omega
      · exact h1
    · intro hzb
      rcases hz.2 (.inr hzb) with h1 | h1
      · subst h1; have := hb.1 z hzb; omega
      · exact h1

/-! ### a thing laid into a rising row -/
section
variable {α : Type} (f : α → Int)
def ins1 (v : α) : List α → List α
  | [] => [v]
  | x :: t => if f v < f x then v :: x :: t else x :: ins1 v t
def insU (v : α) (l : List α) : List α := if l.any fun x => decide (f x = f v) then l else ins1 f v l
/-- All of a row, laid one by one. -/
def insAll (l : List α) : List α := l.foldl (fun c v => insU f v c) []
end

end Go.Proofs.YtomfeddgeihipaaGreat.Aw

namespace Go.Proofs.YtomfeddgeihipaaGreat.Aw
open Go Go.RowKit Go.Proofs.YtomfeddgeihipaaGreat.Pl
set_option linter.unusedSimpArgs false
set_option linter.unusedVariables false

theorem snocI {α : Type} {P : List α → Prop} (h0 : P []) (h1 : ∀ l x, P l → P (l ++ [x])) (l : List α) : P l := by
  rw [← List.reverse_reverse l]
  generalize l.reverse = r
  induction r with
  | nil => exact h0
  | cons x r ih => rw [List.reverse_cons]; exact h1 _ _ ih

def bes (x y : Ed) : Bool := decide (x.a = y.a ∧ x.b = y.b ∨ x.a = y.b ∧ x.b = y.a)
theorem bes_iff {x y : Ed} : bes x y = true ↔ (x.a = y.a ∧ x.b = y.b ∨ x.a = y.b ∧ x.b = y.a) := by simp [bes]
theorem bes_symm {x y : Ed} (h : bes x y = true) : bes y x = true := by
  rw [bes_iff] at h ⊢
  rcases h with ⟨h1, h2⟩ | ⟨h1, h2⟩
  · exact .inl ⟨h1.symm, h2.symm⟩
  · exact .inr ⟨h2.symm, h1.symm⟩
theorem bes_refl (x : Ed) : bes x x = true := by rw [bes_iff]; exact .inl ⟨rfl, rfl⟩
theorem bes_trans {x y z : Ed} (h : bes x y = true) (k : bes y z = true) : bes x z = true := by
  rw [bes_iff] at h k ⊢
  rcases h with ⟨h1, h2⟩ | ⟨h1, h2⟩ <;> rcases k with ⟨k1, k2⟩ | ⟨k1, k2⟩
  · exact .inl ⟨h1.trans k1, h2.trans k2⟩
  · exact .inr ⟨h1.trans k1, h2.trans k2⟩
  · exact .inr ⟨h1.trans k2, h2.trans k1⟩
  · exact .inl ⟨h1.trans k2, h2.trans k1⟩

/-- Of each bundle the first. -/
def sE (l : List Ed) : List Ed := l.foldl (fun acc x => if acc.any (bes x) then acc else acc ++ [x]) []
theorem sE_snoc (l : List Ed) (x : Ed) : sE (l ++ [x]) = if (sE l).any (bes x) then sE l else sE l ++ [x] := by
  simp [sE, List.foldl_append]
theorem sE_sub (l : List Ed) : ∀ x ∈ sE l, x ∈ l := by
  induction l using snocI with
  | h0 => simp [sE]
  | h1 l x ih =>
    intro y hy
    rw [sE_snoc] at hy
    split at hy
    · exact List.mem_append_left _ (ih y hy)
    · rcases List.mem_append.1 hy with h | h
      · exact List.mem_append_left _ (ih y h)
      · exact List.mem_append_right _ h
theorem sE_has (l : List Ed) : ∀ x ∈ l, ∃ y ∈ sE l, bes x y = true := by
  induction l using snocI with
  | h0 => simp
  | h1 l x ih =>
    intro y hy
    rw [sE_snoc]
    rcases List.mem_append.1 hy with h | h
    · obtain ⟨z, h1, h2⟩ := ih y h
      split
      · exact ⟨z, h1, h2⟩
      · exact ⟨z, List.mem_append_left _ h1, h2⟩
    · rw [List.mem_singleton] at h
      subst h
      split
      · rename_i ha
        rw [List.any_eq_true] at ha
        obtain ⟨z, h1, h2⟩ := ha
        exact ⟨z, h1, h2⟩
      · exact ⟨y, List.mem_append_right _ (by simp), bes_refl y⟩
theorem sE_len (l : List Ed) : (sE l).length ≤ l.length := by
  induction l using snocI with
  | h0 => simp [sE]
  | h1 l x ih =>
    rw [sE_snoc]
    split
    · rw [List.length_append]; omega
    · rw [List.length_append, List.length_append]; simp only [List.length_cons, List.length_nil]; omega
theorem sE_apart (l : List Ed) : (sE l).Pairwise fun x y => bes x y = false := by
  induction l using snocI with
  | h0 => simp [sE]
  | h1 l x ih =>
    rw [sE_snoc]
    split
    · exact ih
    · rename_i ha
      rw [List.pairwise_append]
      refine ⟨ih, List.pairwise_singleton _ _, fun y hy z hz => ?_⟩
      rw [List.mem_singleton] at hz
      subst hz
      cases hb : bes y z with
      | false => rfl
      | true => exact absurd (List.any_eq_true.2 ⟨y, hy, bes_symm hb⟩) ha

/-- An edge's two halves. -/
abbrev hf (x : Ed) : List (Int × Int) := [(x.a, x.b), (x.b, x.a)]
def hfs (l : List Ed) : List (Int × Int) := l.flatMap hf
theorem hfs_snoc (l : List Ed) (x : Ed) : hfs (l ++ [x]) = hfs l ++ [(x.a, x.b)] ++ [(x.b, x.a)] := by simp [hfs]
theorem hfs_len (l : List Ed) : (hfs l).length = 2 * l.length := by
  induction l with
  | nil => rfl
  | cons x l ih => simp only [hfs, List.flatMap_cons, List.length_append, List.length_cons, List.length_nil] at ih ⊢; omega
theorem mem_hfs {l : List Ed} {p : Int × Int} : p ∈ hfs l ↔ ∃ x ∈ l, (x.a = p.1 ∧ x.b = p.2) ∨ (x.b = p.1 ∧ x.a = p.2) := by
  obtain ⟨p1, p2⟩ := p
  simp only [hfs, List.mem_flatMap, List.mem_cons, List.not_mem_nil, or_false, Prod.mk.injEq]
  constructor
  · rintro ⟨x, hx, ⟨rfl, rfl⟩ | ⟨rfl, rfl⟩⟩
    · exact ⟨x, hx, .inl ⟨rfl, rfl⟩⟩
    · exact ⟨x, hx, .inr ⟨rfl, rfl⟩⟩
  · rintro ⟨x, hx, ⟨rfl, rfl⟩ | ⟨rfl, rfl⟩⟩
    · exact ⟨x, hx, .inl ⟨rfl, rfl⟩⟩
    · exact ⟨x, hx, .inr ⟨rfl, rfl⟩⟩

/-- What stands beside a number. -/
def nbH (v : Int) (H : List (Int × Int)) : List Int := (H.filter fun p => decide (p.1 = v)).map (·.2)
theorem nbH_snoc (v : Int) (H : List (Int × Int)) (p : Int × Int) : nbH v (H ++ [p]) = nbH v H ++ if p.1 = v then [p.2] else [] := by
  unfold nbH
  rw [List.filter_append, List.map_append]
  by_cases h : p.1 = v
  · simp [h]
  · simp [h]
theorem nbH_len (v : Int) (H : List (Int × Int)) : (nbH v H).length ≤ H.length := by
  unfold nbH
  rw [List.length_map]
  exact List.length_filter_le _ _
theorem mem_nbH {v w : Int} {H : List (Int × Int)} : w ∈ nbH v H ↔ (v, w) ∈ H := by
  unfold nbH
  simp only [List.mem_map, List.mem_filter, decide_eq_true_eq]
  constructor
  · rintro ⟨p, ⟨h1, h2⟩, h3⟩
    subst h2 h3
    exact h1
  · intro h
    exact ⟨(v, w), ⟨h, rfl⟩, rfl⟩

/-- A row put in order. -/
def insI (x : Int) : List Int → List Int
  | [] => [x]
  | y :: l => if x ≤ y then x :: y :: l else y :: insI x l
def srt : List Int → List Int
  | [] => []
  | x :: l => insI x (srt l)
theorem insI_perm (x : Int) (l : List Int) : (insI x l).Perm (x :: l) := by
  induction l with
  | nil => exact .refl _
  | cons y l ih =>
    unfold insI
    split
    · exact .refl _
    · exact (ih.cons y).trans (.swap x y l)
theorem srt_perm (l : List Int) : (srt l).Perm l := by
  induction l with
  | nil => exact .refl _
  | cons x l ih => exact (insI_perm x _).trans (ih.cons x)
theorem insI_sorted (x : Int) {l : List Int} (h : l.Pairwise (· ≤ ·)) : (insI x l).Pairwise (· ≤ ·) := by
  induction l with
  | nil => exact List.pairwise_singleton _ _
  | cons y l ih =>
    have h' := List.pairwise_cons.1 h
    unfold insI
    split
    · rename_i hxy
      refine List.pairwise_cons.2 ⟨fun z hz => ?_, h⟩
      rcases List.mem_cons.1 hz with rfl | hz
      · exact hxy
      · have := h'.1 z hz; omega
    · rename_i hxy
      refine List.pairwise_cons.2 ⟨fun z hz => ?_, ih h'.2⟩
      rcases List.mem_cons.1 ((insI_perm x l).mem_iff.1 hz) with rfl | hz
      · omega
      · exact h'.1 z hz
theorem srt_sorted (l : List Int) : (srt l).Pairwise (· ≤ ·) := by
  induction l with
  | nil => exact .nil
  | cons x l ih => exact insI_sorted x ih
theorem sorted_unique : ∀ {a b : List Int}, a.Pairwise (· ≤ ·) → b.Pairwise (· ≤ ·) → a.Perm b → a = b
  | [], b, _, _, h => by rw [h.nil_eq]
  | x :: a, [], _, _, h => absurd h.symm.nil_eq (by simp)
  | x :: a, y :: b, ha, hb, h => by
    obtain ⟨a1, a2⟩ := List.pairwise_cons.1 ha
    obtain ⟨b1, b2⟩ := List.pairwise_cons.1 hb
    have hxy : x = y := by
      have h1 : x ∈ y :: b := h.mem_iff.1 (by simp)
      have h2 : y ∈ x :: a := h.mem_iff.2 (by simp)
      rcases List.mem_cons.1 h1 with h1 | h1
      · exact h1
      · rcases List.mem_cons.1 h2 with h2 | h2
        · exact h2.symm
        · have := b1 x h1
          have := a1 y h2
          omega
    subst hxy
    rw [sorted_unique a2 b2 ((List.perm_cons x).1 h)]
theorem srt_of {c l : List Int} (h : c.Perm l) (hs : c.Pairwise (· ≤ ·)) : c = srt l := sorted_unique hs (srt_sorted l) (h.trans (srt_perm l).symm)

/-- Who has an edge with a vertex, rising. -/
def nearF (es : List Ed) (v : Int) : List Int := srt (nbH v (hfs (sE es)))
def adj (es : List Ed) (v w : Int) : Prop := ∃ x ∈ es, (x.a = v ∧ x.b = w) ∨ (x.a = w ∧ x.b = v)
theorem mem_nearF {es : List Ed} {v w : Int} : w ∈ nearF es v ↔ adj es v w := by
  unfold nearF
  rw [(srt_perm _).mem_iff, mem_nbH, mem_hfs]
  constructor
  · rintro ⟨x, hx, h⟩
    refine ⟨x, sE_sub _ _ hx, ?_⟩
    rcases h with ⟨h1, h2⟩ | ⟨h1, h2⟩
    · exact .inl ⟨h1, h2⟩
    · exact .inr ⟨h2, h1⟩
  · rintro ⟨x, hx, h⟩
    obtain ⟨y, hy, hb⟩ := sE_has _ _ hx
    refine ⟨y, hy, ?_⟩
    rw [bes_iff] at hb
    rcases h with ⟨h1, h2⟩ | ⟨h1, h2⟩ <;> rcases hb with ⟨b1, b2⟩ | ⟨b1, b2⟩
    · exact .inl ⟨b1.symm.trans h1, b2.symm.trans h2⟩
    · exact .inr ⟨b1.symm.trans h1, b2.symm.trans h2⟩
    · exact .inr ⟨b2.symm.trans h2, b1.symm.trans h1⟩
    · exact .inl ⟨b2.symm.trans h2, b1.symm.trans h1⟩
theorem nbH_nodup {l : List Ed} (hne : ∀ x ∈ l, x.a ≠ x.b) (v : Int) : (nbH v (hfs (sE l))).Nodup := by
  induction l using snocI with
  | h0 => simp [sE, hfs, nbH]
  | h1 l x ih =>
    have ih := ih fun y hy => hne y (List.mem_append_left _ hy)
    have hx := hne x (by simp)
    rw [sE_snoc]
    split
    · exact ih
    · rename_i ha
      have hno : ∀ w, (x.a = v ∧ x.b = w) ∨ (x.b = v ∧ x.a = w) → w ∉ nbH v (hfs (sE l)) := by
        intro w hw hin
        rw [mem_nbH, mem_hfs] at hin
        obtain ⟨y, hy, h⟩ := hin
        refine ha (List.any_eq_true.2 ⟨y, hy, bes_iff.2 ?_⟩)
        simp only at h
        rcases hw with ⟨rfl, rfl⟩ | ⟨rfl, rfl⟩ <;> rcases h with ⟨h1, h2⟩ | ⟨h1, h2⟩
        · exact .inl ⟨h1.symm, h2.symm⟩
        · exact .inr ⟨h1.symm, h2.symm⟩
        · exact .inr ⟨h2.symm, h1.symm⟩
        · exact .inl ⟨h2.symm, h1.symm⟩
      rw [hfs_snoc, nbH_snoc, nbH_snoc]
      simp only
      by_cases h1 : x.a = v
      · have h2 : ¬ x.b = v := fun h => hx (h1.trans h.symm)
        rw [if_pos h1, if_neg h2, List.append_nil, List.nodup_append]
        exact ⟨ih, by simp, fun a ha b hb => by rw [List.mem_singleton] at hb; subst hb; rintro rfl; exact hno _ (.inl ⟨h1, rfl⟩) ha⟩
      · rw [if_neg h1, List.append_nil]
        by_cases h2 : x.b = v
        · rw [if_pos h2, List.nodup_append]
          exact ⟨ih, by simp, fun a ha b hb => by rw [List.mem_singleton] at hb; subst hb; rintro rfl; exact hno _ (.inr ⟨h2, rfl⟩) ha⟩
        · rw [if_neg h2, List.append_nil]; exact ih
theorem nearF_lt {es : List Ed} (hne : ∀ x ∈ es, x.a ≠ x.b) (v : Int) : (nearF es v).Pairwise (· < ·) := by
  have h1 := srt_sorted (nbH v (hfs (sE es)))
  have h2 : (nearF es v).Nodup := (srt_perm _).nodup_iff.2 (nbH_nodup hne v)
  exact (h1.and h2).imp fun ⟨a, b⟩ => by omega
instance (es : List Ed) (v w : Int) : Decidable (adj es v w) := by unfold adj; exact inferInstance
theorem nearF_eq {es : List Ed} {vs : List Int} (hne : ∀ x ∈ es, x.a ≠ x.b) (hr : vs.Pairwise (· < ·)) (hin : ∀ x ∈ es, x.a ∈ vs ∧ x.b ∈ vs) (v : Int) : nearF es v = vs.filter fun w => decide (adj es v w) := by
  refine rise_eq id (by simpa using nearF_lt hne v) (by simpa using hr.filter _) fun w => ?_
  rw [mem_nearF, List.mem_filter, decide_eq_true_eq]
  constructor
  · intro h
    refine ⟨?_, h⟩
    obtain ⟨x, hx, ⟨_, h2⟩ | ⟨h1, _⟩⟩ := h
    · rw [← h2]; exact (hin x hx).2
    · rw [← h1]; exact (hin x hx).1
  · exact fun h => h.2
theorem nearF_len (es : List Ed) (v : Int) : (nearF es v).length ≤ 2 * es.length := by
  have h1 := (srt_perm (nbH v (hfs (sE es)))).length_eq
  have h2 := nbH_len v (hfs (sE es))
  have h3 := hfs_len (sE es)
  have h4 := sE_len es
  unfold nearF
  omega

end Go.Proofs.YtomfeddgeihipaaGreat.Aw

namespace Go.Proofs.YtomfeddgeihipaaGreat.Aw
open Go Go.RowKit Go.Proofs.YtomfeddgeihipaaGreat.Pl
set_option linter.unusedSimpArgs false
set_option linter.unusedVariables false

/-- Who led to whom, in order of finding. -/
abbrev Led := List (Int × Int)
def ledBy (A : Led) (v : Int) : Option Int := match A with
  | [] => none
  | p :: A => if v = p.1 then some p.2 else ledBy A v
theorem ledBy_none {v : Int} : ∀ {A : Led}, v ∉ A.map (·.1) → ledBy A v = none
  | [], _ => rfl
  | p :: A, h => by
    simp only [List.map_cons, List.mem_cons, not_or] at h
    simp only [ledBy]
    rw [if_neg h.1, ledBy_none h.2]
theorem ledBy_some {v : Int} : ∀ {A : Led}, v ∈ A.map (·.1) → ∃ w, ledBy A v = some w
  | [], h => by simp at h
  | p :: A, h => by
    simp only [ledBy]
    by_cases e : v = p.1
    · exact ⟨p.2, by rw [if_pos e]⟩
    · rw [if_neg e]
      simp only [List.map_cons, List.mem_cons] at h
      exact ledBy_some (h.resolve_left e)
theorem ledBy_mem {v w : Int} : ∀ {A : Led}, ledBy A v = some w → (v, w) ∈ A
  | [], h => by simp [ledBy] at h
  | p :: A, h => by
    simp only [ledBy] at h
    split at h
    · rename_i e; injection h with h; subst h; rw [e]; simp
    · exact List.mem_cons_of_mem _ (ledBy_mem h)
structure BF where
  A : Led
  Q : List Int
  hit : Bool
/-- One near vertex looked at. -/
def scan1 (may : Int → Bool) (to v : Int) (S : BF) (u : Int) : BF :=
  if S.hit = true then S else if u ∈ S.A.map (·.1) then S else if u = to then ⟨S.A ++ [(u, v)], S.Q, true⟩ else ⟨S.A ++ [(u, v)], if may u = true then S.Q ++ [u] else S.Q, false⟩
def scanL (may : Int → Bool) (to v : Int) (S : BF) (l : List Int) : BF := l.foldl (scan1 may to v) S
theorem scanL_hit (may : Int → Bool) (to v : Int) {S : BF} (h : S.hit = true) (l : List Int) : scanL may to v S l = S := by
  induction l with
  | nil => rfl
  | cons u l ih => simp only [scanL, List.foldl_cons] at ih ⊢; rw [scan1, if_pos h]; exact ih
theorem scanL_snoc (may : Int → Bool) (to v : Int) (S : BF) (l : List Int) (u : Int) : scanL may to v S (l ++ [u]) = scan1 may to v (scanL may to v S l) u := by simp [scanL, List.foldl_append]
theorem scanL_len (may : Int → Bool) (to v : Int) (S : BF) (l : List Int) : (scanL may to v S l).Q.length ≤ S.Q.length + l.length ∧ (scanL may to v S l).A.length ≤ S.A.length + l.length := by
  induction l generalizing S with
  | nil => simp [scanL]
  | cons u l ih =>
    have := ih (scan1 may to v S u)
    have h1 : (scan1 may to v S u).Q.length ≤ S.Q.length + 1 ∧ (scan1 may to v S u).A.length ≤ S.A.length + 1 := by
      unfold scan1
      split
      · omega
      · split
        · omega
        · split
          · simp
          · constructor
            · simp only; split <;> simp
            · simp
    simp only [scanL, List.foldl_cons, List.length_cons] at this ⊢
    omega

/-- The search: what led where, if it was found. -/
def bfs (near : Int → List Int) (may : Int → Bool) (to : Int) : Nat → Led → List Int → Option (Option Led)
  | _, _, [] => some none
  | 0, _, _ :: _ => none
  | n + 1, A, v :: Q => if (scanL may to v ⟨A, Q, false⟩ (near v)).hit = true then some (some (scanL may to v ⟨A, Q, false⟩ (near v)).A) else bfs near may to n (scanL may to v ⟨A, Q, false⟩ (near v)).A (scanL may to v ⟨A, Q, false⟩ (near v)).Q
/-- The way back. -/
def backF (A : Led) (from' : Int) : Nat → Int → Option (List Int)
  | 0, v => if v = from' then some [] else none
  | n + 1, v => if v = from' then some [] else (backF A from' n ((ledBy A v).getD 0)).map fun l => (ledBy A v).getD 0 :: l
theorem backF_len {A : Led} {from' : Int} : ∀ {n : Nat} {v : Int} {l : List Int}, backF A from' n v = some l → l.length ≤ n
  | 0, v, l, h => by
    simp only [backF] at h
    split at h
    · injection h with h; subst h; simp
    · cases h
  | n + 1, v, l, h => by
    simp only [backF] at h
    split at h
    · injection h with h; subst h; simp
    · rw [Option.map_eq_some_iff] at h
      obtain ⟨l', h1, rfl⟩ := h
      have := backF_len h1
      simp only [List.length_cons]; omega
/-- The way from one vertex to another one; none: the strength n is too little. -/
def pathF (vs : List Int) (near : Int → List Int) (may : Int → Bool) (from' to : Int) (n : Nat) : Option (List Int) :=
  if from' ∉ vs ∨ to ∉ vs then some [] else if from' = to then some [from'] else match bfs near may to n [(from', from')] [from'] with
    | some none => some []
    | some (some A) => (backF A from' n to).map fun l => (to :: l).reverse
    | none => none

end Go.Proofs.YtomfeddgeihipaaGreat.Aw

namespace Go.Proofs.YtomfeddgeihipaaGreat.Aw
open Go Go.RowKit Go.Proofs.YtomfeddgeihipaaGreat.Pl
set_option linter.unusedSimpArgs false
set_option linter.unusedVariables false

/-- A pair of ends as a map's key. -/
def kE (x : Ed) : List Int := [if x.b < x.a then x.b else x.a, if x.a < x.b then x.b else x.a]
theorem kE_iff (x y : Ed) : kE x = kE y ↔ bes x y = true := by
  rw [bes_iff]
  unfold kE
  simp only [List.cons.injEq, and_true]
  constructor
  · rintro ⟨h1, h2⟩
    split at h1 <;> split at h1 <;> split at h2 <;> split at h2 <;> omega
  · rintro (⟨h1, h2⟩ | ⟨h1, h2⟩)
    · rw [h1, h2]; exact ⟨rfl, rfl⟩
    · rw [h1, h2]
      constructor
      · split <;> split <;> omega
      · split <;> split <;> omega

def bnd (l : List Ed) : List (List Int) := (sE l).map fun y => (l.filter fun x => bes y x).map (·.id)
theorem bnd_len (l : List Ed) : (bnd l).length = (sE l).length := by simp [bnd]
theorem bnd_new {l : List Ed} {x : Ed} (h : (sE l).any (bes x) = false) : sE (l ++ [x]) = sE l ++ [x] ∧ bnd (l ++ [x]) = bnd l ++ [[x.id]] := by
  have h' : ∀ y ∈ sE l, bes x y = false := fun y hy => by
    cases hb : bes x y with
    | false => rfl
    | true => rw [List.any_eq_true.2 ⟨y, hy, hb⟩] at h; cases h
  have hs : sE (l ++ [x]) = sE l ++ [x] := by rw [sE_snoc, h]; rfl
  refine ⟨hs, ?_⟩
  unfold bnd
  rw [hs, List.map_append]
  congr 1
  · refine List.map_congr_left fun y hy => ?_
    have : bes y x = false := by
      cases hb : bes y x with
      | false => rfl
      | true => have := h' y hy; rw [bes_symm hb] at this; cases this
    rw [List.filter_append]
    simp [this]
  · have : l.filter (fun z => bes x z) = [] := by
      rw [List.filter_eq_nil_iff]
      intro z hz hb
      obtain ⟨y, hy, h2⟩ := sE_has l z hz
      have := h' y hy
      rw [bes_trans hb h2] at this; cases this
    simp [List.filter_append, this, bes_refl]
theorem bnd_old {l : List Ed} {x : Ed} (h : (sE l).any (bes x) = true) : sE (l ++ [x]) = sE l ∧ ∃ L1 y L2 B1 r B2, sE l = L1 ++ y :: L2 ∧ bes x y = true ∧ bnd l = B1 ++ r :: B2 ∧ B1.length = L1.length ∧ bnd (l ++ [x]) = B1 ++ (r ++ [x.id]) :: B2 ∧ r.length ≤ l.length := by
  have hs : sE (l ++ [x]) = sE l := by rw [sE_snoc, h]; rfl
  refine ⟨hs, ?_⟩
  obtain ⟨y, hy, hb⟩ := List.any_eq_true.1 h
  obtain ⟨L1, L2, hL⟩ := List.append_of_mem hy
  have hap := sE_apart l
  rw [hL, List.pairwise_append, List.pairwise_cons] at hap
  obtain ⟨_, ⟨p2, _⟩, p3⟩ := hap
  have hno : ∀ z, (z ∈ L1 ∨ z ∈ L2) → bes z x = false := by
    intro z hz
    cases hzx : bes z x with
    | false => rfl
    | true =>
      have hzy := bes_trans hzx hb
      rcases hz with hz | hz
      · have := p3 z hz y (by simp); rw [hzy] at this; cases this
      · have := p2 z hz; rw [bes_symm hzy] at this; cases this
  refine ⟨L1, y, L2, _, _, _, hL, hb, by unfold bnd; rw [hL, List.map_append, List.map_cons], by simp, ?_, ?_⟩
  · unfold bnd
    rw [hs, hL, List.map_append, List.map_cons]
    have e : ∀ L : List Ed, (∀ z ∈ L, bes z x = false) → L.map (fun y => ((l ++ [x]).filter fun x => bes y x).map (·.id)) = L.map fun y => (l.filter fun x => bes y x).map (·.id) := by
      intro L hL
      refine List.map_congr_left fun z hz => ?_
      rw [List.filter_append]
      simp [hL z hz]
    rw [e L1 fun z hz => hno z (.inl hz), e L2 fun z hz => hno z (.inr hz)]
    congr 2
    rw [List.filter_append]
    simp [bes_symm hb]
  · rw [List.length_map]; exact List.length_filter_le _ _

/-- The map of the bundles' places. -/
structure AtM (l : List Ed) (es : List (List Int × LV)) : Prop where
  old : ∀ x L1 y L2, sE l = L1 ++ y :: L2 → bes x y = true → mget es (kE x) = some (i L1.length)
  new : ∀ x, (sE l).any (bes x) = false → mget es (kE x) = none
theorem AtM.nil : AtM [] [] := ⟨fun x L1 y L2 h _ => by simp [sE] at h, fun x _ => rfl⟩
theorem AtM.keep {l : List Ed} {es : List (List Int × LV)} (h : AtM l es) {x : Ed} (hx : sE (l ++ [x]) = sE l) : AtM (l ++ [x]) es :=
  ⟨by rw [hx]; exact h.old, by rw [hx]; exact h.new⟩
theorem AtM.add {l : List Ed} {es : List (List Int × LV)} (h : AtM l es) {x : Ed} (hx : (sE l).any (bes x) = false) : AtM (l ++ [x]) (mset es (kE x) (i (sE l).length)) := by
  have hs := (bnd_new hx).1
  constructor
  · intro z L1 y L2 hL hb
    rw [hs] at hL
    rw [mget_mset]
    rcases List.eq_nil_or_concat L2 with rfl | ⟨L2', y', rfl⟩
    · have := List.append_inj' hL rfl
      obtain ⟨h1, h2⟩ := this
      simp only [List.cons.injEq, and_true] at h2
      subst h1 h2
      rw [if_pos ((kE_iff _ _).2 hb)]
    · rw [List.concat_eq_append, show L1 ++ y :: (L2' ++ [y']) = (L1 ++ y :: L2') ++ [y'] by simp] at hL
      obtain ⟨h1, h2⟩ := List.append_inj' hL rfl
      rw [if_neg, h.old z L1 y L2' h1 hb]
      intro hk
      have hxy := bes_trans (bes_symm ((kE_iff _ _).1 hk)) hb
      rw [List.any_eq_true.2 ⟨y, by rw [h1]; simp, hxy⟩] at hx
      cases hx
  · intro z hz
    rw [hs, List.any_append, Bool.or_eq_false_iff] at hz
    rw [mget_mset, if_neg, h.new z hz.1]
    intro hk
    have := (kE_iff _ _).1 hk
    simp [this] at hz

end Go.Proofs.YtomfeddgeihipaaGreat.Aw

namespace Go.Proofs.YtomfeddgeihipaaGreat.Aw
open Go Go.RowKit Go.Proofs.YtomfeddgeihipaaGreat.Pl
set_option linter.unusedSimpArgs false
set_option linter.unusedVariables false

/-- Rows of the call's own: a token, a row. -/
abbrev TR := Nat × List Int
def cellT (p : TR) : LV := .sl p.1 p.2.length (us p.2)
def cellsT (R : List TR) : List LV := R.map cellT
theorem cellsT_len (R : List TR) : (cellsT R).length = R.length := by simp [cellsT]
structure SimB (E : List Ed) (st0 : St) (L2 L4 M te q : Nat) (vs : List Int) (mes : List (List Int × LV)) (R : List TR) (s : St) : Prop where
  h2 : s.H L2 = .box 38 2 [.nil, .nil]
  h4 : s.H L4 = .box 38 2 [.sl 0 vs.length (us vs), .sl te (sE E).length (eds (sE E))]
  ht : s.H te = .own 43 3 (sE E).length
  hM : s.H M = .map true [.u32, .u32] mes
  hq : s.H q = .box 35 1 (cellsT R)
  bn : R.map (·.2) = bnd E
  at' : AtM E mes
  nd : (R.map (·.1)).Nodup
  tk : ∀ p ∈ R, st0.next ≤ p.1 ∧ p.1 < s.next ∧ s.H p.1 = .own 41 1 p.2.length
  b : st0.next ≤ L2 ∧ st0.next ≤ L4 ∧ st0.next ≤ M ∧ st0.next ≤ te ∧ st0.next ≤ q ∧ L2 < s.next ∧ L4 < s.next ∧ M < s.next ∧ te < s.next ∧ q < s.next
  kp : Keeps st0 s
def SimI (g : Gr) (st0 : St) (L2 L4 M k : Nat) (fr : Frm) (s : St) : Prop :=
  fr 2 = .pt L2 0 ∧ fr 4 = .pt L4 0 ∧ fr 6 = .mp M ∧ fr 18 = .sl 0 g.es.length (eds g.es) ∧ fr 19 = i g.es.length ∧ fr 20 = i k ∧
  ∃ te q mes R, fr 5 = .ms q 0 R.length ∧ SimB (g.es.take k) st0 L2 L4 M te q g.vs mes R s

theorem box_ne {st : St} {a b : Nat} {x y : LObj} (ha : st.H a = x) (hb : st.H b = y) (h : x ≠ y) : ¬ a = b := fun e => h (by rw [← ha, e, hb])

theorem z0_edsB (l : List Ed) : z0L (eds l) = eds l := by
  induction l with
  | nil => rfl
  | cons e l ih => simp only [eds, List.flatMap_cons, List.cons_append, List.nil_append, z0L, z0] at ih ⊢; rw [ih]
theorem z0_cellsT (R : List TR) : z0L (cellsT R) = R.map fun p => .sl 0 p.2.length (us p.2) := by
  rw [z0L_map, cellsT, List.map_map]
  refine List.map_congr_left fun p _ => ?_
  simp [cellT, z0]

set_option maxHeartbeats 2000000 in
theorem Simple (g : Gr) (st : St) (hv : g.vs.length ≤ 1048576) (he : g.es.length ≤ 1000) (hp : 0 < st.next) :
    ACalls Tryz.prog 28 [.ag (grL g)] st fun r st' => r = .tu [.ag [.sl 0 g.vs.length (us g.vs), .sl 0 (sE g.es).length (eds (sE g.es))], .sl 0 (bnd g.es).length ((bnd g.es).map fun l => .sl 0 l.length (us l))] ∧ Keeps st st' := by
  refine acalls_z0 ?_
  have hel := eds_length g.es
  refine acalls_of_body tabOk Tryz.func28 rfl rfl Tryz.ntmps28 (rs := [.cell 2 38, .tmp 3]) rfl (by simp) ?_
  (repeat' (first | refine awp_seq ?_ | refine awp_block ?_ | ((first | refine awp_skip ?_ | refine awp_exit ?_); simp only [ak, reduceIte]) | (refine awp_ret ?_; simp only [ak, reduceIte]; simp []) | (refine awp_cond ?_; simp []; (try with_reducible refine ⟨?_, ?_⟩) <;> (try with_reducible intro hc) <;> try (exfalso; omega)) | ((first | (refine w_e [] ?_; intro J hJ; simp only []) | (refine w_q ?_; intro J hJ) | refine e_go ?_); simp []; (repeat refine ca ?_); (try ((try with_reducible refine ⟨?_, ?_⟩) <;> (try with_reducible intro hnil) <;> refine hJ _ _ ?_ <;> clear hJ J <;> simp only [ak, reduceIte] <;> try subst hnil)))))
  refine callK_ofE (Clone g.vs 0 _ hv) (by simp []) ?_; rintro r st' ⟨rfl, hk1⟩
  have hn1 := hk1.next
  simp only [new_next] at hn1
  have hG1 : st'.H st.next = .box 38 2 (grL g) := by rw [hk1.H _ (by simp <;> omega)]; simp
  have hC1 : st'.H (st.next + 1) = .box 38 2 [.nil, .nil] := by rw [hk1.H _ (by simp)]; simp
  have hkp : Keeps st st' := ((Keeps.new _ _).trans (Keeps.new _ _)).trans hk1
  generalize hL : st' = s1 at *
  have e1 : ¬ st.next = s1.next := by omega
  have e2 : ¬ st.next = s1.next + 1 := by omega
  (repeat' (first | refine awp_seq ?_ | refine awp_block ?_ | ((first | refine awp_skip ?_ | refine awp_exit ?_); simp only [ak, reduceIte]) | (refine awp_ret ?_; simp only [ak, reduceIte]; simp [e1, e2, hG1]) | (refine awp_cond ?_; simp [e1, e2, hG1]; (try with_reducible refine ⟨?_, ?_⟩) <;> (try with_reducible intro hc) <;> try (exfalso; omega)) | ((first | (refine w_e [] ?_; intro J hJ; simp only []) | (refine w_q ?_; intro J hJ) | refine e_go ?_); simp [e1, e2, hG1]; (repeat refine ca ?_); (try ((try with_reducible refine ⟨?_, ?_⟩) <;> (try with_reducible intro hnil) <;> refine hJ _ _ ?_ <;> clear hJ J <;> simp only [ak, reduceIte] <;> try subst hnil)))))
  refine awp_cell s1.next 43 3 (e := 38) (s := 2) [.sl 0 g.vs.length (us g.vs)] [] (by simp) ?_
  refine awp_ownM 5 35 1 (by simp) ?_
  refine awp_loop (fun n fr s => ∃ k : Nat, k ≤ g.es.length ∧ n = g.es.length - k ∧ SimI g st (st.next + 1) s1.next (s1.next + 1) k fr s) g.es.length ?_ ?_
  · refine ⟨0, by omega, by omega, by simp, by simp, by simp, by simp, by simp, by simp, s1.next + 2, s1.next + 3, [], [], by simp, ?_⟩
    have h5 : ¬ st.next = s1.next + 2 := by omega
    have h1 : ¬ st.next + 1 = s1.next := by omega
    refine ⟨by simp [h1, h5, e1, e2, hC1], by simp [sE] <;> omega, by simp [sE], by simp, by simp [cellsT], by simp [bnd, sE], AtM.nil, by simp, by simp, ⟨by omega, by omega, by omega, by omega, by omega, by simp <;> omega, by simp <;> omega, by simp, by simp, by simp⟩, ?_⟩
    exact (((((hkp.trans (Keeps.new _ _)).trans (Keeps.new _ _)).trans (Keeps.new _ _)).set (by omega) _).trans (Keeps.new _ _))
  rintro n fr s ⟨k, hk, rfl, f2, f4, f6, f18, f19, f20, te, q, mes, R, f5, hB⟩ JJ hJJ
  obtain ⟨H2, H4, Ht, HM, Hq, hbn, hat, hnd, htk, ⟨b1, b2, b3, b4, b5, b6, b7, b8, b9, b10⟩, hkps⟩ := hB
  have q24 : ¬ q = s1.next := box_ne Hq H4 (by simp)
  by_cases hlt : k < g.es.length
  rotate_left
  · clear hJJ
    have hk' : k = g.es.length := by omega
    rw [hk', List.take_length] at H4 Ht hbn
    have hbl : (bnd g.es).length = R.length := by rw [← hbn, List.length_map]
    have n1 : ¬ st.next + 1 = q := box_ne H2 Hq (by simp)
    have n2 : ¬ s1.next = q := fun h => q24 h.symm
    have n3 : ¬ s1.next = st.next + 1 := by omega
    have hsl := sE_len g.es
    refine awp_freeze 5 f5 Hq (by simp [cellsT_len]) ?_
    have htk2 : (cellsT R).take (R.length * 1) = cellsT R := List.take_of_length_le (by rw [cellsT_len]; omega)
    rw [htk2]
    (repeat' (first | refine awp_seq ?_ | refine awp_block ?_ | ((first | refine awp_skip ?_ | refine awp_exit ?_); simp only [ak, reduceIte]) | (refine awp_ret ?_; simp only [ak, reduceIte]; simp [f2, f4, f19, f20, hlt, H4, H2, n1, n2, n3]) | (refine awp_cond ?_; simp [f2, f4, f19, f20, hlt, H4, H2, n1, n2, n3]; (try with_reducible refine ⟨?_, ?_⟩) <;> (try with_reducible intro hc) <;> try (exfalso; omega)) | ((first | (refine w_e [] ?_; intro J hJ; simp only []) | (refine w_q ?_; intro J hJ) | refine e_go ?_); simp [f2, f4, f19, f20, hlt, H4, H2, n1, n2, n3]; (repeat refine ca ?_); (try ((try with_reducible refine ⟨?_, ?_⟩) <;> (try with_reducible intro hnil) <;> refine hJ _ _ ?_ <;> clear hJ J <;> simp only [ak, reduceIte] <;> try subst hnil)))))
    refine ⟨?_, (hkps.set (by omega) _).set (by omega) _⟩
    rw [hbl, ← hbn]
    simp only [z0, z0L, z0_us, z0_edsB, z0_cellsT, List.map_map]
    rfl
  have hd := eds_drop g.es k hlt
  have hw := nat_add_one k (by omega)
  have hk3 : k * 3 < g.es.length * 3 := by omega
  have htk1 : g.es.take (k + 1) = g.es.take k ++ [g.es.getD k ed0] := by
    rw [List.getD_eq_getElem?_getD, List.getElem?_eq_getElem hlt]; exact List.take_succ_eq_append_getElem hlt
  have hEl : (g.es.take k).length ≤ 1000 := by rw [List.length_take]; omega
  generalize g.es.getD k ed0 = x at *
  generalize hE : g.es.take k = E at *
  obtain ⟨id, a, b⟩ := x
  simp only at hd
  cases hany : (sE E).any (bes ⟨id, a, b⟩)
  · have hm := hat.new ⟨id, a, b⟩ hany
    simp only [kE] at hm
    have hsm : (List.map (fun _ : Ed => 3) (sE E)).sum = (sE E).length * 3 := by
      induction sE E with
      | nil => rfl
      | cons x l ih => simp only [List.map_cons, List.sum_cons, List.length_cons, ih]; omega
    have hsl := sE_len E
    have te0 : ¬ te = 0 := by omega
    have hcl := cellsT_len R
    have hRl : R.length = (sE E).length := by rw [← bnd_len, ← hbn, List.length_map]
    have htR : List.take R.length (cellsT R) = cellsT R := List.take_of_length_le (by omega)
    have hdl : List.drop R.length (cellsT R ++ [LV.nil]) = [.nil] := by rw [← hcl]; exact List.drop_left
    have htl : List.take R.length (cellsT R ++ [LV.nil]) = cellsT R := by rw [← hcl]; exact List.take_left
    have hdl2 : List.drop (R.length + 1) (cellsT R ++ [LV.nil]) = [] := List.drop_eq_nil_of_le (by simp [hcl])
    have hRn : ((R.length : Int)).toNat = R.length := by omega
    have c0 : ¬ s1.next = s.next := by omega
    have c0' : ¬ s.next = s1.next := by omega
    have c1 : ¬ s1.next = s.next + 1 := by omega
    have c1' : ¬ s.next + 1 = s1.next := by omega
    have c2 : ¬ s1.next = s.next + 2 := by omega
    have c2' : ¬ s.next + 2 = s1.next := by omega
    have c3 : ¬ s1.next = s.next + 3 := by omega
    have c3' : ¬ s.next + 3 = s1.next := by omega
    have c4 : ¬ s1.next = s.next + 4 := by omega
    have c4' : ¬ s.next + 4 = s1.next := by omega
    have e0 : ¬ te = s.next := by omega
    have e0' : ¬ s.next = te := by omega
    have e1 : ¬ te = s.next + 1 := by omega
    have e1' : ¬ s.next + 1 = te := by omega
    have e2 : ¬ te = s.next + 2 := by omega
    have e2' : ¬ s.next + 2 = te := by omega
    have e3 : ¬ te = s.next + 3 := by omega
    have e3' : ¬ s.next + 3 = te := by omega
    have e4 : ¬ te = s.next + 4 := by omega
    have e4' : ¬ s.next + 4 = te := by omega
    have d0 : ¬ q = s.next := by omega
    have d0' : ¬ s.next = q := by omega
    have d1 : ¬ q = s.next + 1 := by omega
    have d1' : ¬ s.next + 1 = q := by omega
    have d2 : ¬ q = s.next + 2 := by omega
    have d2' : ¬ s.next + 2 = q := by omega
    have d3 : ¬ q = s.next + 3 := by omega
    have d3' : ¬ s.next + 3 = q := by omega
    have d4 : ¬ q = s.next + 4 := by omega
    have d4' : ¬ s.next + 4 = q := by omega
    have c9 : ¬ s1.next + 1 = s.next := by omega
    have c9' : ¬ s.next = s1.next + 1 := by omega
    have n1 : ¬ te = s1.next := box_ne Ht H4 (by simp)
    have n2 : ¬ te = s1.next + 1 := box_ne Ht HM (by simp)
    have n3 : ¬ q = s1.next + 1 := box_ne Hq HM (by simp)
    have n4 : ¬ q = te := box_ne Hq Ht (by simp)
    have n1' : ¬ s1.next = te := fun h => n1 h.symm
    have n2' : ¬ s1.next + 1 = te := fun h => n2 h.symm
    have n3' : ¬ s1.next + 1 = q := fun h => n3 h.symm
    have n4' : ¬ te = q := fun h => n4 h.symm
    have n5' : ¬ s1.next = q := fun h => q24 h.symm
    have r2 : ¬ s.next = s.next + 1 + 1 := by omega
    have r3 : ¬ s.next = s.next + 1 + 1 + 1 := by omega
    have r4 : ¬ s.next = s.next + 1 + 1 + 1 + 1 := by omega
    have r5 : ¬ s.next = s.next + 1 + 1 + 1 + 1 + 1 := by omega
    have r6 : ¬ s.next = s.next + 1 + 1 + 1 + 1 + 1 + 1 := by omega
    have r7 : ¬ s.next = s.next + 1 + 1 + 1 + 1 + 1 + 1 + 1 := by omega
    have p1 : R.length < R.length + 1 := by omega
    (repeat' (first | refine awp_seq ?_ | refine awp_block ?_ | ((first | refine awp_skip ?_ | refine awp_exit ?_); simp only [ak, reduceIte]) | (refine awp_ret ?_; simp only [ak, reduceIte]; simp [hcl, htR, hsm, te0, c0, c0', c1, c1', c2, c2', c3, c3', c4, c4', e0, e0', e1, e1', e2, e2', e3, e3', e4, e4', d0, d0', d1, d1', d2, d2', d3, d3', d4, d4', c9, c9', n1, n2, n3, n4, n1', n2', n3', n4', n5', Ht, Hq, q24, f4, f5, f6, f18, f19, f20, hlt, hd, hel, hk3, hw, H4, HM, hm]) | (refine awp_cond ?_; simp [hcl, htR, hsm, te0, c0, c0', c1, c1', c2, c2', c3, c3', c4, c4', e0, e0', e1, e1', e2, e2', e3, e3', e4, e4', d0, d0', d1, d1', d2, d2', d3, d3', d4, d4', c9, c9', n1, n2, n3, n4, n1', n2', n3', n4', n5', Ht, Hq, q24, f4, f5, f6, f18, f19, f20, hlt, hd, hel, hk3, hw, H4, HM, hm]; (try with_reducible refine ⟨?_, ?_⟩) <;> (try with_reducible intro hc) <;> try (exfalso; omega)) | ((first | (refine w_e [] ?_; intro J hJ; simp only []) | (refine w_q ?_; intro J hJ) | refine e_go ?_); simp [hcl, htR, hsm, te0, c0, c0', c1, c1', c2, c2', c3, c3', c4, c4', e0, e0', e1, e1', e2, e2', e3, e3', e4, e4', d0, d0', d1, d1', d2, d2', d3, d3', d4, d4', c9, c9', n1, n2, n3, n4, n1', n2', n3', n4', n5', Ht, Hq, q24, f4, f5, f6, f18, f19, f20, hlt, hd, hel, hk3, hw, H4, HM, hm]; (repeat refine ca ?_); (try ((try with_reducible refine ⟨?_, ?_⟩) <;> (try with_reducible intro hnil) <;> refine hJ _ _ ?_ <;> clear hJ J <;> simp only [ak, reduceIte] <;> try subst hnil)))))
    (refine w_s [] [s.next, s.next + 1 + 1 + 1 + 1 + 1] [(0, true), (1, true), (2, true), (3, true), (4, true), (5, true), (6, true), (7, true), (8, true), (9, true), (10, true), (11, false)] ?_; intro J hJ; simp [r2, r3, r4, r5, r6, r7, c0, c0', c1, c1', c2, c2', c3, c3', c4, c4', e0, e0', e1, e1', e2, e2', e3, e3', e4, e4', d0, d0', d1, d1', d2, d2', d3, d3', d4, d4', c9, c9', n1, n2, n3, n4, n1', n2', n3', n4', n5', hcl, htR, hdl, htl, hdl2, p1]; (repeat refine ca ?_); (try ((try with_reducible refine ⟨?_, ?_⟩) <;> (try with_reducible intro hnil) <;> refine hJ _ _ ?_ <;> clear hJ J <;> simp only [ak, reduceIte] <;> try subst hnil)))
    (repeat' (first | refine awp_seq ?_ | refine awp_block ?_ | ((first | refine awp_skip ?_ | refine awp_exit ?_); simp only [ak, reduceIte]) | (refine awp_ret ?_; simp only [ak, reduceIte]; simp [f20, hw]) | (refine awp_cond ?_; simp [f20, hw]; (try with_reducible refine ⟨?_, ?_⟩) <;> (try with_reducible intro hc) <;> try (exfalso; omega)) | ((first | (refine w_e [] ?_; intro J hJ; simp only []) | (refine w_q ?_; intro J hJ) | refine e_go ?_); simp [f20, hw]; (repeat refine ca ?_); (try ((try with_reducible refine ⟨?_, ?_⟩) <;> (try with_reducible intro hnil) <;> refine hJ _ _ ?_ <;> clear hJ J <;> simp only [ak, reduceIte] <;> try subst hnil)))))
    have l1 : ¬ st.next + 1 = te := box_ne H2 Ht (by simp)
    have l2 : ¬ st.next + 1 = q := box_ne H2 Hq (by simp)
    obtain ⟨hs, hb⟩ := bnd_new hany
    refine hJJ (g.es.length - (k + 1)) _ _ (by omega) ⟨k + 1, by omega, rfl, by simp [f2], by simp [f4], by simp [f6], by simp [f18], by simp [f19], by simp, s.next + 3, s.next + 5, mset mes (kE ⟨id, a, b⟩) (i (sE E).length), R ++ [(s.next + 7, [id])], by simp, ?_⟩
    rw [htk1]
    refine ⟨?_, ?_, ?_, ?_, ?_, ?_, hat.add hany, ?_, ?_, ?_, ?_⟩
    · (repeat (first | rw [new_H, if_neg (α := LObj) (by (try simp only [set_next, new_next]); omega)] | rw [set_H, if_neg (α := LObj) (by omega)] | rw [new_H, if_pos (α := LObj) (by (try simp only [set_next, new_next]))] | rw [set_H, if_pos (α := LObj) (by omega)])); exact H2
    · (repeat (first | rw [new_H, if_neg (α := LObj) (by (try simp only [set_next, new_next]); omega)] | rw [set_H, if_neg (α := LObj) (by omega)] | rw [new_H, if_pos (α := LObj) (by (try simp only [set_next, new_next]))] | rw [set_H, if_pos (α := LObj) (by omega)])); rw [hs]; simp [eds]
    · (repeat (first | rw [new_H, if_neg (α := LObj) (by (try simp only [set_next, new_next]); omega)] | rw [set_H, if_neg (α := LObj) (by omega)] | rw [new_H, if_pos (α := LObj) (by (try simp only [set_next, new_next]))] | rw [set_H, if_pos (α := LObj) (by omega)])); rw [hs]; simp
    · (repeat (first | rw [new_H, if_neg (α := LObj) (by (try simp only [set_next, new_next]); omega)] | rw [set_H, if_neg (α := LObj) (by omega)] | rw [new_H, if_pos (α := LObj) (by (try simp only [set_next, new_next]))] | rw [set_H, if_pos (α := LObj) (by omega)])); rw [hRl]; rfl
    · (repeat (first | rw [new_H, if_neg (α := LObj) (by (try simp only [set_next, new_next]); omega)] | rw [set_H, if_neg (α := LObj) (by omega)] | rw [new_H, if_pos (α := LObj) (by (try simp only [set_next, new_next]))] | rw [set_H, if_pos (α := LObj) (by omega)])); simp [cellsT, cellT]
    · rw [List.map_append, hbn, hb]; rfl
    · rw [List.map_append, List.nodup_append]
      refine ⟨hnd, by simp, fun x hx y hy => ?_⟩
      obtain ⟨p, hp, rfl⟩ := List.mem_map.1 hx
      simp at hy
      have := (htk p hp).2.1
      omega
    · intro p hp
      rcases List.mem_append.1 hp with hp | hp
      · obtain ⟨h1, h2, h3⟩ := htk p hp
        have t1 : ¬ p.1 = te := box_ne h3 Ht (by simp)
        have t2 : ¬ p.1 = q := box_ne h3 Hq (by simp)
        have t3 : ¬ p.1 = s1.next := box_ne h3 H4 (by simp)
        have t4 : ¬ p.1 = s1.next + 1 := box_ne h3 HM (by simp)
        refine ⟨h1, by simp <;> omega, ?_⟩
        (repeat (first | rw [new_H, if_neg (α := LObj) (by (try simp only [set_next, new_next]); omega)] | rw [set_H, if_neg (α := LObj) (by omega)] | rw [new_H, if_pos (α := LObj) (by (try simp only [set_next, new_next]))] | rw [set_H, if_pos (α := LObj) (by omega)])); exact h3
      · rw [List.mem_singleton] at hp
        subst hp
        refine ⟨by simp <;> omega, by simp, ?_⟩
        (repeat (first | rw [new_H, if_neg (α := LObj) (by (try simp only [set_next, new_next]); omega)] | rw [set_H, if_neg (α := LObj) (by omega)] | rw [new_H, if_pos (α := LObj) (by (try simp only [set_next, new_next]))] | rw [set_H, if_pos (α := LObj) (by omega)])); rfl
    · simp only [set_next, new_next]; omega
    · refine ⟨by have := hkps.next; simp only [set_next, new_next]; omega, fun l hl => ?_⟩
      (repeat (first | rw [new_H, if_neg (α := LObj) (by (try simp only [set_next, new_next]); omega)] | rw [set_H, if_neg (α := LObj) (by omega)] | rw [new_H, if_pos (α := LObj) (by (try simp only [set_next, new_next]))] | rw [set_H, if_pos (α := LObj) (by omega)])); exact hkps.H l hl
  obtain ⟨hs, L1, y, L2, B1, r, B2, hL, hyb, hB0, hBl, hB1, hrl⟩ := bnd_old hany
  have hm := hat.old ⟨id, a, b⟩ L1 y L2 hL hyb
  simp only [kE] at hm
  rw [hB0] at hbn
  obtain ⟨R1, R', rfl, hR1, hR'⟩ := List.map_eq_append_iff.1 hbn
  obtain ⟨p, R2, rfl, hpr, hR2⟩ := List.map_eq_cons_iff.1 hR'
  obtain ⟨t0, r0⟩ := p
  simp only at hpr
  subst hpr
  obtain ⟨hb1, hb2, hb3⟩ := htk (t0, r0) (by simp)
  simp only at hb1 hb2 hb3
  have hR1l : R1.length = L1.length := by rw [← hBl, ← hR1, List.length_map]
  have hcl : (cellsT (R1 ++ (t0, r0) :: R2)).length = R1.length + (R2.length + 1) := by rw [cellsT_len]; simp
  have hRl : (R1 ++ (t0, r0) :: R2).length = R1.length + (R2.length + 1) := by simp
  have hcs : cellsT (R1 ++ (t0, r0) :: R2) = cellsT R1 ++ .sl t0 r0.length (us r0) :: cellsT R2 := by simp [cellsT, cellT]
  have hc1 : (cellsT R1).length = R1.length := cellsT_len R1
  have hdl : List.drop R1.length (cellsT R1 ++ LV.sl t0 r0.length (us r0) :: cellsT R2) = .sl t0 r0.length (us r0) :: cellsT R2 := by rw [← hc1]; exact List.drop_left
  have htl : List.take R1.length (cellsT R1 ++ LV.sl t0 r0.length (us r0) :: cellsT R2) = cellsT R1 := by rw [← hc1]; exact List.take_left
  have hdl2 : List.drop (R1.length + 1) (cellsT R1 ++ LV.sl t0 r0.length (us r0) :: cellsT R2) = cellsT R2 := by
    rw [← hc1, show cellsT R1 ++ LV.sl t0 r0.length (us r0) :: cellsT R2 = (cellsT R1 ++ [LV.sl t0 r0.length (us r0)]) ++ cellsT R2 by simp]
    rw [show (cellsT R1).length + 1 = (cellsT R1 ++ [LV.sl t0 r0.length (us r0)]).length by simp]
    exact List.drop_left
  rw [hRl] at f5
  rw [hcs] at Hq
  rw [← hR1l] at hm
  have t00 : ¬ t0 = 0 := by omega
  have m1 : ¬ s1.next = s.next := by omega
  have m1' : ¬ s.next = s1.next := by omega
  have m2 : ¬ s1.next + 1 = s.next := by omega
  have m2' : ¬ s.next = s1.next + 1 := by omega
  have m5 : ¬ t0 = s.next := by omega
  have m6 : ¬ t0 = s.next + 1 := by omega
  have m6b : ¬ t0 = s.next + 2 := by omega
  have m5' : ¬ s.next = t0 := by omega
  have m6' : ¬ s.next + 1 = t0 := by omega
  have m6b' : ¬ s.next + 2 = t0 := by omega
  have m7 : ¬ q = s.next := by omega
  have m8 : ¬ q = s.next + 1 := by omega
  have m9 : ¬ q = s.next + 2 := by omega
  have m9b : ¬ q = s.next + 3 := by omega
  have n4 : ¬ q = t0 := box_ne Hq hb3 (by simp)
  have r2 : ¬ s.next = s.next + 1 + 1 := by omega
  have r3 : ¬ s.next = s.next + 1 + 1 + 1 := by omega
  have p1 : R1.length < R1.length + (R2.length + 1) := by omega
  have p2 : (R1.length : Int) < (R1.length : Int) + ((R2.length : Int) + 1) := by omega
  have hr1 : r0.length ≤ 1000 := by omega
  (repeat' (first | refine awp_seq ?_ | refine awp_block ?_ | ((first | refine awp_skip ?_ | refine awp_exit ?_); simp only [ak, reduceIte]) | (refine awp_ret ?_; simp only [ak, reduceIte]; simp [m1, m1', m2, m2', f4, f5, f6, f18, f19, f20, hlt, hd, hel, hk3, hw, HM, hm]) | (refine awp_cond ?_; simp [m1, m1', m2, m2', f4, f5, f6, f18, f19, f20, hlt, hd, hel, hk3, hw, HM, hm]; (try with_reducible refine ⟨?_, ?_⟩) <;> (try with_reducible intro hc) <;> try (exfalso; omega)) | ((first | (refine w_e [] ?_; intro J hJ; simp only []) | (refine w_q ?_; intro J hJ) | refine e_go ?_); simp [m1, m1', m2, m2', f4, f5, f6, f18, f19, f20, hlt, hd, hel, hk3, hw, HM, hm]; (repeat refine ca ?_); (try ((try with_reducible refine ⟨?_, ?_⟩) <;> (try with_reducible intro hnil) <;> refine hJ _ _ ?_ <;> clear hJ J <;> simp only [ak, reduceIte] <;> try subst hnil)))))
  (refine w_s [] [s.next, q] [(0, true), (1, true), (2, true), (3, true), (4, true), (5, true), (6, true), (7, true), (8, true), (9, true), (10, true), (11, false)] ?_; intro J hJ; simp [m1, m1', m2, m2', m5, m6, m6b, m5', m6', m6b', m7, m8, m9, m9b, n4, r2, r3, f5, Hq, hb3, hc1, hdl, htl, hdl2, p1, p2, t00]; (repeat refine ca ?_); (try ((try with_reducible refine ⟨?_, ?_⟩) <;> (try with_reducible intro hnil) <;> refine hJ _ _ ?_ <;> clear hJ J <;> simp only [ak, reduceIte] <;> try subst hnil)))
  (repeat' (first | refine awp_seq ?_ | refine awp_block ?_ | ((first | refine awp_skip ?_ | refine awp_exit ?_); simp only [ak, reduceIte]) | (refine awp_ret ?_; simp only [ak, reduceIte]; simp [f20, hw]) | (refine awp_cond ?_; simp [f20, hw]; (try with_reducible refine ⟨?_, ?_⟩) <;> (try with_reducible intro hc) <;> try (exfalso; omega)) | ((first | (refine w_e [] ?_; intro J hJ; simp only []) | (refine w_q ?_; intro J hJ) | refine e_go ?_); simp [f20, hw]; (repeat refine ca ?_); (try ((try with_reducible refine ⟨?_, ?_⟩) <;> (try with_reducible intro hnil) <;> refine hJ _ _ ?_ <;> clear hJ J <;> simp only [ak, reduceIte] <;> try subst hnil)))))
  have l2 : ¬ st.next + 1 = q := box_ne H2 Hq (by simp)
  have l3 : ¬ st.next + 1 = t0 := box_ne H2 hb3 (by simp)
  have l4 : ¬ s1.next = q := fun h => q24 h.symm
  have l5 : ¬ s1.next = t0 := box_ne H4 hb3 (by simp)
  have l6 : ¬ s1.next + 1 = q := box_ne HM Hq (by simp)
  have l7 : ¬ s1.next + 1 = t0 := box_ne HM hb3 (by simp)
  have l8 : ¬ te = q := box_ne Ht Hq (by simp)
  have l9 : ¬ te = t0 := box_ne Ht hb3 (by simp)
  refine hJJ (g.es.length - (k + 1)) _ _ (by omega) ⟨k + 1, by omega, rfl, by simp [f2], by simp [f4], by simp [f6], by simp [f18], by simp [f19], by simp, te, q, mes, R1 ++ (s.next + 3, r0 ++ [id]) :: R2, by simp [f5], ?_⟩
  rw [htk1]
  have hnd' := hnd
  rw [List.map_append, List.map_cons, List.nodup_append, List.nodup_cons] at hnd'
  obtain ⟨nd1, ⟨nd2, nd3⟩, nd4⟩ := hnd'
  refine ⟨?_, ?_, ?_, ?_, ?_, ?_, hat.keep hs, ?_, ?_, ?_, ?_⟩
  · (repeat (first | rw [new_H, if_neg (α := LObj) (by (try simp only [set_next, new_next]); omega)] | rw [set_H, if_neg (α := LObj) (by omega)] | rw [new_H, if_pos (α := LObj) (by (try simp only [set_next, new_next]))] | rw [set_H, if_pos (α := LObj) (by omega)])); exact H2
  · (repeat (first | rw [new_H, if_neg (α := LObj) (by (try simp only [set_next, new_next]); omega)] | rw [set_H, if_neg (α := LObj) (by omega)] | rw [new_H, if_pos (α := LObj) (by (try simp only [set_next, new_next]))] | rw [set_H, if_pos (α := LObj) (by omega)])); rw [hs]; exact H4
  · (repeat (first | rw [new_H, if_neg (α := LObj) (by (try simp only [set_next, new_next]); omega)] | rw [set_H, if_neg (α := LObj) (by omega)] | rw [new_H, if_pos (α := LObj) (by (try simp only [set_next, new_next]))] | rw [set_H, if_pos (α := LObj) (by omega)])); rw [hs]; exact Ht
  · (repeat (first | rw [new_H, if_neg (α := LObj) (by (try simp only [set_next, new_next]); omega)] | rw [set_H, if_neg (α := LObj) (by omega)] | rw [new_H, if_pos (α := LObj) (by (try simp only [set_next, new_next]))] | rw [set_H, if_pos (α := LObj) (by omega)])); exact HM
  · (repeat (first | rw [new_H, if_neg (α := LObj) (by (try simp only [set_next, new_next]); omega)] | rw [set_H, if_neg (α := LObj) (by omega)] | rw [new_H, if_pos (α := LObj) (by (try simp only [set_next, new_next]))] | rw [set_H, if_pos (α := LObj) (by omega)])); simp [cellsT, cellT]
  · rw [hB1, List.map_append, List.map_cons, hR1, hR2]
  · rw [List.map_append, List.map_cons, List.nodup_append, List.nodup_cons]
    have lt1 : ∀ x ∈ R1.map (·.1), x < s.next := fun x hx => by
      obtain ⟨p, hp, rfl⟩ := List.mem_map.1 hx
      exact (htk p (by simp [hp])).2.1
    have lt2 : ∀ x ∈ R2.map (·.1), x < s.next := fun x hx => by
      obtain ⟨p, hp, rfl⟩ := List.mem_map.1 hx
      exact (htk p (by simp [hp])).2.1
    refine ⟨nd1, ⟨fun h => by have := lt2 _ h; omega, nd3⟩, fun x hx y hy => ?_⟩
    rcases List.mem_cons.1 hy with rfl | hy
    · have := lt1 x hx; simp only; omega
    · exact nd4 x hx y (List.mem_cons_of_mem _ hy)
  · intro p hp
    have old : ∀ p, p ∈ R1 ∨ p ∈ R2 → ¬ p.1 = t0 → st.next ≤ p.1 ∧ p.1 < s.next ∧ s.H p.1 = .own 41 1 p.2.length ∧ ¬ p.1 = t0 ∧ ¬ p.1 = q := by
      intro p hp hne
      obtain ⟨h1, h2, h3⟩ := htk p (by rcases hp with hp | hp <;> simp [hp])
      exact ⟨h1, h2, h3, hne, box_ne h3 Hq (by simp)⟩
    have hp' : (p ∈ R1 ∨ p ∈ R2) ∧ ¬ p.1 = t0 ∨ p = (s.next + 3, r0 ++ [id]) := by
      rcases List.mem_append.1 hp with hp | hp
      · exact .inl ⟨.inl hp, nd4 _ (List.mem_map.2 ⟨p, hp, rfl⟩) t0 (by simp)⟩
      · rcases List.mem_cons.1 hp with hp | hp
        · exact .inr hp
        · exact .inl ⟨.inr hp, fun h => nd2 (by rw [← h]; exact List.mem_map.2 ⟨p, hp, rfl⟩)⟩
    rcases hp' with ⟨hp, hne⟩ | rfl
    · obtain ⟨h1, h2, h3, t1, t2⟩ := old p hp hne
      refine ⟨h1, by simp only [set_next, new_next]; omega, ?_⟩
      (repeat (first | rw [new_H, if_neg (α := LObj) (by (try simp only [set_next, new_next]); omega)] | rw [set_H, if_neg (α := LObj) (by omega)] | rw [new_H, if_pos (α := LObj) (by (try simp only [set_next, new_next]))] | rw [set_H, if_pos (α := LObj) (by omega)])); exact h3
    · refine ⟨by simp only; omega, by simp, ?_⟩
      simp only
      (repeat (first | rw [new_H, if_neg (α := LObj) (by (try simp only [set_next, new_next]); omega)] | rw [set_H, if_neg (α := LObj) (by omega)] | rw [new_H, if_pos (α := LObj) (by (try simp only [set_next, new_next]))] | rw [set_H, if_pos (α := LObj) (by omega)])); simp
  · simp only [set_next, new_next]; omega
  · refine ⟨by have := hkps.next; simp only [set_next, new_next]; omega, fun l hl => ?_⟩
    (repeat (first | rw [new_H, if_neg (α := LObj) (by (try simp only [set_next, new_next]); omega)] | rw [set_H, if_neg (α := LObj) (by omega)] | rw [new_H, if_pos (α := LObj) (by (try simp only [set_next, new_next]))] | rw [set_H, if_pos (α := LObj) (by omega)])); exact hkps.H l hl

end Go.Proofs.YtomfeddgeihipaaGreat.Aw
