/- The law TreeCounts. -/
import Derived.Test.YtomfeddgeihipaaGreatJe
import Derived.Test.YtomfeddgeihipaaGreatAwAlt
namespace Go.Proofs.YtomfeddgeihipaaGreat.Aw
open Go Go.RowKit Go.Proofs.YtomfeddgeihipaaGreat.Pl
set_option linter.unusedSimpArgs false
set_option linter.unusedVariables false

theorem TreeCounts_1 (x : Ed) (q t : Nat) (ids : List Int) (st : St) (hq : st.H q = .box 35 1 [.sl t ids.length (us ids)]) (hl : ids.length ≤ 1000) (hqn : q < st.next) :
    ACalls Tryz.prog 64 [.ag (edL x), .pt q 0] st fun r st' => r = bb (decide (x.id ∈ ids)) ∧ Keeps st st' := by
  obtain ⟨d, a, b⟩ := x
  have a1 : ¬ q = st.next := by omega
  have hge := gi_ge ids d
  have hb : decide (0 ≤ gi ids d) = decide (d ∈ ids) := by by_cases h : d ∈ ids <;> simp [h, hge]
  refine acalls_of_body tabOk Tryz.func64 rfl rfl Tryz.ntmps64 (rs := [.tmp 3]) rfl (by simp) ?_
  (repeat' (first | refine awp_seq ?_ | (refine w_e [] ?_; intro J hJ; simp only []; simp [hq, a1]; (try (refine hJ _ _ ?_; clear hJ J; simp only [ak, reduceIte])))))
  refine callK_ofE (Find ids t d _ (by unfold small; omega)) (by simp) ?_; rintro r s2 ⟨rfl, rfl⟩
  (repeat' (first | (refine awp_ret ?_; simp only [ak, reduceIte]; simp [hb]) | (refine e_go ?_; simp [hb]; (refine hJ _ _ ?_; clear hJ J; simp only [ak, reduceIte]))))
  exact Keeps.new _ _

@[simp] def boxS (l : List Int) : LObj := .box 35 1 [.sl 0 l.length (us l)]
def TcI (g : Gr) (I Rs : List Ed) (b c : Nat) (st : St) (fr : Frm) (s : St) : Prop :=
  fr 1 = .pt st.next 0 ∧ fr 3 = .pt b 0 ∧ fr 4 = .sl 0 Rs.length (us (idsL Rs)) ∧ s.H st.next = .box 38 2 (grL g) ∧ s.H b = boxS (idsL I) ∧ st.next < b ∧ b < s.next ∧ c = b
theorem hasB_snoc (es : List Ed) (y : Ed) (v w : Int) : hasB (es ++ [y]) v w = (hasB es v w || (decide (y.a = v ∧ y.b = w) || decide (y.b = v ∧ y.a = w))) := by simp [hasB]
/-- What stays all along. -/
def TlI (g : Gr) (I Rs : List Ed) (c : Nat) (st : St) (fr : Frm) (s : St) : Prop :=
  fr 1 = .pt st.next 0 ∧ fr 5 = .pt c 0 ∧ fr 62 = .sl 0 Rs.length (us (idsL Rs)) ∧ s.H st.next = .box 38 2 (grL g) ∧ s.H c = .box 38 2 (grL ⟨g.vs, I⟩) ∧ st.next < c ∧ c < s.next
theorem nclF {g : Gr} {I Rs : List Ed} (hfo : IsFo g.es I Rs) : Eu.ncl (Reach I) g.vs = Eu.ncl (Reach g.es) g.vs := Eu.ncl_congr fun v _ w _ => (hfo.reach v w).symm

set_option maxHeartbeats 4000000 in
theorem TreeCounts (g : Gr) (st : St) :
    ACalls Tryz.prog 12 [.ag (grL g)] st fun r st' => r = bb true := by
  have hel := eds_length g.es
  refine acalls_of_body tabOk Tryz.func12 rfl rfl Tryz.ntmps12 (rs := [.tmp 2]) rfl (by simp) ?_
  refine awp_posG fun hpos => ?_
  (repeat' (first | refine awp_seq ?_ | (refine w_e [] ?_; intro J hJ; simp only []; simp []; (try (refine hJ _ _ ?_; clear hJ J; simp only [ak, reduceIte])))))
  refine callK_ofE (awake35 _) (by simp []) ?_; rintro r st' ⟨rfl, rfl⟩
  (repeat' (first | refine awp_seq ?_ | (refine awp_skip ?_; simp only [ak, reduceIte]) | (refine awp_cond ?_; simp []) | ((first | (refine w_e [] ?_; intro J hJ; simp only []) | (refine e_go ?_)); simp []; (try (refine hJ _ _ ?_; clear hJ J; simp only [ak, reduceIte])))))
  refine callK_ofE (LightT g _) (by simp) ?_; rintro r s1 ⟨rfl, hk1⟩
  have hn1 := hk1.next
  simp only [new_next] at hn1
  have hG1 : s1.H st.next = .box 38 2 (grL g) := by rw [hk1.H _ (by simp)]; simp
  cases hL : lightT g
  · (repeat' (first | refine awp_seq ?_ | (refine awp_ret ?_; simp only [ak, reduceIte]; simp []) | (refine awp_cond ?_; simp []) | ((first | (refine w_e [] ?_; intro J hJ; simp only []) | (refine e_go ?_)); simp []; (refine hJ _ _ ?_; clear hJ J; simp only [ak, reduceIte]))))
  simp only [lightT, decide_eq_true_eq] at hL
  obtain ⟨hc, hv, he⟩ := hL
  have hF := chk_full hc
  have hg := hF.good
  have hi := hF.ids
  (repeat' (first | refine awp_seq ?_ | (refine awp_skip ?_; simp only [ak, reduceIte]) | (refine awp_cond ?_; simp []) | (refine e_go ?_; simp []; (refine hJ _ _ ?_; clear hJ J; simp only [ak, reduceIte]))))
  refine awp_cut1 (fun fr s => ∃ I Rs b, IsFo g.es I Rs ∧ TcI g I Rs b b st fr s) ?_ ?_
  · refine w_a [] [st.next] ?_; intro J hJ
    refine a_pre 5 [(0, true), (2, true)] ?_
    simp [hG1]
    refine a_alt2 4 (1, true) (4, true) ?_ ?_
    · simp
      refine dcallK_ofE (Forest g s1 hg (by omega) (by omega) (by omega)) (by simp) ?_; rintro r s2 ⟨⟨I, Rs, hfo, rfl⟩, hk2⟩
      have hn2 := hk2.next
      have hG2 := (hk2.H st.next (by omega)).trans hG1
      refine ⟨fun _ => by simp [hG2, hG1], ?_⟩
      simp
      refine a_alt2 3 (3, true) (4, true) ?_ ?_
      · simp
        refine dcallK_ofE (Rest g s2 hg (by omega) (by omega) (by omega)) (by simp) ?_; rintro r s3 ⟨⟨I', Rs', hfo', rfl⟩, hk3⟩
        obtain ⟨rfl, rfl⟩ := hfo'.unique hfo
        have hn3 := hk3.next
        have hG3 := (hk3.H st.next (by omega)).trans hG2
        refine ⟨fun _ => by simp [hG3, hG2, hG1], ?_⟩
        simp
        refine a_pre 0 [(4, true), (5, true), (6, true)] ?_
        have e1 : ¬ st.next = s3.next := by omega
        simp [e1, hG3, hG1]
        refine aany_end (hJ _ _ ?_)
        simp only [ak]
        exact ⟨trivial, _, _, s3.next, hfo', ⟨by simp, by simp, by simp, by simp [e1, hG3], by simp, by omega, by simp, rfl⟩⟩
      · have e1 : ¬ st.next = s2.next := by omega
        have e2 : ¬ s2.next = st.next := by omega
        simp [e1, hG2, hG1]
        refine a_pre 0 [(3, true), (5, true), (6, true)] ?_
        simp
        refine dcallK_ofE (Rest g _ hg (by omega) (by omega) (by simp)) (by simp) ?_; rintro r s3 ⟨⟨I', Rs', hfo', rfl⟩, hk3⟩
        obtain ⟨rfl, rfl⟩ := hfo'.unique hfo
        have hn3 := hk3.next
        simp only [new_next] at hn3
        have hG3 : s3.H st.next = .box 38 2 (grL g) := by rw [hk3.H _ (by simp; omega), new_H, if_neg e1]; exact hG2
        have hb3 : s3.H s2.next = .box 35 1 [.nil] := by rw [hk3.H _ (by simp)]; simp
        refine ⟨fun _ => by simp [hG3, hG1], ?_⟩
        simp [hb3, hG3, hG1, e1, e2]
        refine aany_end (hJ _ _ ?_)
        simp only [ak]
        exact ⟨trivial, _, _, s2.next, hfo', ⟨by simp, by simp, by simp, by simp [e1, hG3], by simp, by omega, by simp; omega, rfl⟩⟩
    · have e1 : ¬ st.next = s1.next := by omega
      have e2 : ¬ s1.next = st.next := by omega
      simp [e1]
      refine a_pre 0 [(1, true), (3, true), (5, true), (6, true)] ?_
      simp
      refine dcallK_ofE (Forest g _ hg (by omega) (by omega) (by simp)) (by simp) ?_; rintro r s2 ⟨⟨I, Rs, hfo, rfl⟩, hk2⟩
      have hn2 := hk2.next
      simp only [new_next] at hn2
      have hG2 : s2.H st.next = .box 38 2 (grL g) := by rw [hk2.H _ (by simp; omega), new_H, if_neg e1]; exact hG1
      have hb2 : s2.H s1.next = .box 35 1 [.nil] := by rw [hk2.H _ (by simp)]; simp
      refine ⟨fun _ => by simp [hG2, hG1], ?_⟩
      simp
      refine dcallK_ofE (Rest g s2 hg (by omega) (by omega) (by omega)) (by simp) ?_; rintro r s3 ⟨⟨I', Rs', hfo', rfl⟩, hk3⟩
      obtain ⟨rfl, rfl⟩ := hfo'.unique hfo
      have hn3 := hk3.next
      have hG3 := (hk3.H st.next (by omega)).trans hG2
      have hb3 := (hk3.H s1.next (by omega)).trans hb2
      refine ⟨fun _ => by simp [hG3, hG1], ?_⟩
      simp [hb3, hG3, hG1, e1, e2]
      refine aany_end (hJ _ _ ?_)
      simp only [ak]
      exact ⟨trivial, _, _, s1.next, hfo', ⟨by simp, by simp, by simp, by simp [e1, hG3], by simp, by omega, by simp; omega, rfl⟩⟩
  clear hG1 hk1 hn1
  clear s1
  rintro fr s ⟨I, Rs, b, hfo, f1, f3, f4, hG, hb, hb1, hb2, _⟩
  simp only [boxS] at hb
  have hIs : I.Sublist g.es := hfo.sub.1
  have hRs : Rs.Sublist g.es := hfo.sub.2.1
  have hIl : I.length ≤ 40 := by have := hIs.length_le; omega
  have hRl : Rs.length ≤ 40 := by have := hRs.length_le; omega
  have hpick : (g.es.filter fun x => decide (x.id ∈ idsL I)) = I := pick_sub hi hIs
  have hgI : Good ⟨g.vs, I⟩ := hg.sub fun x hx => hIs.subset hx
  (repeat' (first | refine awp_seq ?_ | (refine w_e [] ?_; intro J hJ; simp only []; simp [f1, f3, hG])))
  refine callK_ofE (KeepZ g 64 [.pt b 0] (fun x => decide (x.id ∈ idsL I)) s (by omega) (by omega) fun x _ st2 hk => TreeCounts_1 x b 0 (idsL I) st2 ((hk.H b hb2).trans (by rw [hb])) (by simp; omega) (by have := hk.next; omega)) (by simp) ?_; rintro r s1 ⟨rfl, hk1⟩
  rw [hpick]
  have hn1 := hk1.next
  have hG1 := (hk1.H st.next (by omega)).trans hG
  have hb1' := (hk1.H b hb2).trans hb
  (repeat' (first | refine awp_seq ?_ | (refine e_go ?_; simp []; (refine hJ _ _ ?_; clear hJ J; simp only [ak, reduceIte]))))
  have e1 : ¬ st.next = s1.next := by omega
  have e2 : ¬ b = s1.next := by omega
  have hcnt := hfo.count hg.nodup hg.ends
  have hnF := nclF hfo
  rw [hnF] at hcnt
  have hlen := hfo.len
  have hself := hfo.self
  have hgen : ∃ np, np = Eu.ncl (Reach g.es) g.vs := ⟨_, rfl⟩
  obtain ⟨np, hnp⟩ := hgen
  rw [← hnp] at hcnt hnF
  have w1 : IntKind.i64.wrap ((g.vs.length : Int) - np) = I.length := by rw [wrap_i64 _ (by omega) (by omega)]; omega
  have w2 : IntKind.i64.wrap ((I.length : Int) + Rs.length) = g.es.length := by rw [wrap_i64 _ (by omega) (by omega)]; omega
  (repeat (refine awp_seq ?_)); (refine w_s [] [st.next, b, s1.next] [(0, true), (1, true), (2, true), (3, true), (4, true), (5, true), (6, true), (7, true), (8, true), (9, true), (10, true), (11, true), (12, true), (13, true), (14, true), (15, true), (16, true), (17, true), (18, true), (19, true), (20, true), (21, true), (22, true), (25, true), (23, true), (24, true), (26, true), (27, true), (28, true), (29, true), (30, true), (31, true), (32, true), (33, true), (34, true), (35, true)] ?_; intro J hJ; simp [f1, f3, f4, hb1', hG1, e1, e2])
  refine dcallK_ofE (Parts g _ hg (by omega) (by omega)) (by simp) ?_; rintro r s2 ⟨⟨t2, R2, rfl, hP2⟩, hk2⟩
  have hn2 := hk2.next
  simp only [new_next] at hn2
  have hG2 : s2.H st.next = .box 38 2 (grL g) := by rw [hk2.H _ (by simp; omega), new_H, if_neg e1]; exact hG1
  have hb2' : s2.H b = .box 35 1 [.sl 0 I.length (us (idsL I))] := by rw [hk2.H _ (by simp; omega), new_H, if_neg e2]; simpa using hb1'
  have hc2 : s2.H s1.next = .box 38 2 (grL ⟨g.vs, I⟩) := by rw [hk2.H _ (by simp)]; simp
  have l2 : R2.length = np := hnp ▸ hP2.all
  refine ⟨fun _ => by simp [hG2, hG1, hb2', hb1', hc2, e1, e2], ?_⟩
  (refine d_go ?_; simp [hG2, hb2', hc2, l2, w1, w2, f1, f3, f4, e1, e2, hG1, hb1', hlen])
  refine dcallK_ofE (Parts ⟨g.vs, I⟩ s2 hgI (by simp only; omega) (by simp only; omega)) (by simp) ?_; rintro r s3 ⟨⟨t3, R3, rfl, hP3⟩, hk3⟩
  have hn3 := hk3.next
  have hG3 := (hk3.H st.next (by omega)).trans hG2
  have hb3 := (hk3.H b (by omega)).trans hb2'
  have hc3 := (hk3.H s1.next (by omega)).trans hc2
  have l3 : R3.length = np := hnF ▸ hP3.all
  refine ⟨fun _ => by simp [hG3, hG1, hb3, hb1', hc3, e1, e2], ?_⟩
  (refine d_go ?_; simp [hG3, hb3, hc3, l3, f1, f3, f4, e1, e2, hG1, hb1'])
  refine dcallK_ofE (Parts g s3 hg (by omega) (by omega)) (by simp) ?_; rintro r s4 ⟨⟨t4, R4, rfl, hP4⟩, hk4⟩
  have hn4 := hk4.next
  have hG4 := (hk4.H st.next (by omega)).trans hG3
  have hb4 := (hk4.H b (by omega)).trans hb3
  have hc4 := (hk4.H s1.next (by omega)).trans hc3
  have l4 : R4.length = np := hnp ▸ hP4.all
  refine ⟨fun _ => by simp [hG4, hG1, hb4, hb1', hc4, e1, e2], ?_⟩
  (refine d_go ?_; simp [hG4, hb4, hc4, l4, f1, f3, f4, e1, e2, hG1, hb1'])
  refine dcallK_ofE (Rest ⟨g.vs, I⟩ s4 hgI (by simp only; omega) (by simp only; omega) (by omega)) (by simp) ?_; rintro r s5 ⟨⟨I', Rs', hfo', rfl⟩, hk5⟩
  obtain ⟨rfl, rfl⟩ := hself.unique hfo'
  have hn5 := hk5.next
  have hG5 := (hk5.H st.next (by omega)).trans hG4
  have hb5 := (hk5.H b (by omega)).trans hb4
  have hc5 := (hk5.H s1.next (by omega)).trans hc4
  refine ⟨fun _ => by simp [hG5, hG1, hb5, hb1', hc5, e1, e2], ?_⟩
  (refine d_go ?_; simp [hG5, hb5, hc5, f1, f3, f4, e1, e2, hG1, hb1']; (refine hJ _ _ ?_; clear hJ J; simp only [ak, reduceIte]))
  (repeat' (first | refine awp_seq ?_ | refine awp_block ?_ | (refine awp_skip ?_; simp only [ak, reduceIte]) | (refine awp_cond ?_; simp [f4]) | (refine w_e [] ?_; intro J hJ; simp only []; simp [f4]; (refine hJ _ _ ?_; clear hJ J; simp only [ak, reduceIte]))))
  refine awp_range 64 63 65 155 (Rs.length) (fun j fr st2 => TlI g I Rs s1.next st fr st2) ?_ ?_ ?_
  · exact ⟨by simp [f1], by simp, by simp, hG5, hc5, by omega, by omega⟩
  · clear f1 f3 f4 hG hb hb1 hb2 hk1 hn1 hG1 hb1' e1 e2 hk2 hn2 hG2 hb2' hc2 hk3 hn3 hG3 hb3 hc3 hk4 hn4 hG4 hb4 hc4 hk5 hn5 hG5 hb5 hc5 fr
    generalize s1.next = c at *
    clear hP2 hP3 hP4 l2 l3 l4 s5 s4 s3 s2 s1 s
    rintro j0 fr s hlt ⟨f1, f5, f62, hG, hC, hsc, hcn⟩ fi fn JO hJO
    have hd := us_drop_getD (idsL Rs) j0 (by simpa using hlt)
    have hx0 : (idsL Rs).getD j0 0 = (Rs.getD j0 ed0).id := by
      unfold idsL
      rw [List.getD_eq_getElem?_getD, List.getD_eq_getElem?_getD, List.getElem?_map, List.getElem?_eq_getElem hlt]; rfl
    have hxR : Rs.getD j0 ed0 ∈ Rs := by rw [List.getD_eq_getElem?_getD, List.getElem?_eq_getElem hlt]; exact List.getElem_mem _
    rw [hx0] at hd
    generalize Rs.getD j0 ed0 = x at *
    clear hx0
    have hxin := hRs.subset hxR
    have hno := (rest_iff hi hfo x.id).1 (List.mem_map.2 ⟨x, hxR, rfl⟩)
    obtain ⟨g1, g2, g3⟩ := fe_lt _ _ (fun h => hno (.inr h))
    have hxk : g.es.getD (fe g.es x.id).toNat ed0 = x := by
      refine ids_in hi ?_ hxin g3
      rw [List.getD_eq_getElem?_getD, List.getElem?_eq_getElem g1]; exact List.getElem_mem _
    have hd0 := eds_drop g.es _ g1
    rw [hxk] at hd0
    generalize (fe g.es x.id).toNat = k at *
    have hk3 : k * 3 < g.es.length * 3 := by omega
    have hsm := sum3W g.es
    have hxe := hg.ends x hxin
    have hxn := hF.ne x hxin
    have hrw := fun l => ring_way (n := 100) (l := l) hfo hxR hxn
    have hRR : ∀ l, RingR g x.id I l → refPath g.vs (nearF I) (fun _ => true) x.a x.b 100 = some l := fun l h => by
      unfold RingR at h
      rw [if_neg hno, g2] at h
      simp only [Int.toNat_natCast] at h
      rw [hxk] at h
      exact h
    have hgo : fe g.es x.id = (k : Int) := g2
    obtain ⟨xi, xa, xb⟩ := x
    simp only at hd hd0 hgo hxe hxn hrw hRR
    (repeat' (first | refine awp_seq ?_ | (refine w_e [] ?_; intro J hJ; simp only []; simp [f62, fi, fn, hd, hlt]; (refine hJ _ _ ?_; clear hJ J; simp only [ak, reduceIte]))))
    (repeat (refine awp_seq ?_))
    refine awp_cut1 (fun fr s => ∃ e, TlI g I Rs c st fr s ∧ fr 64 = i j0 ∧ fr 63 = i Rs.length ∧ fr 7 = u xi ∧ fr 8 = .pt e 0 ∧ s.H e = .box 43 3 [u xi, u xa, u xb] ∧ c < e ∧ e < s.next) ?_ ?_
    · refine w_a [] [st.next] ?_; intro J hJ
      refine a_pre 5 [(0, true), (1, true), (2, true), (3, true)] ?_
      simp [hG, f1]
      refine a_alt2 4 (4, true) (7, true) ?_ ?_
      · simp
        refine dcallK_ofE (gEdge g xi s (by omega)) (by simp) ?_; rintro r s4 ⟨rfl, hk4⟩
        have hn4 := hk4.next
        have hG4 := (hk4.H st.next (by omega)).trans hG
        have hC4 := (hk4.H c hcn).trans hC
        refine ⟨fun _ => by simp [hG4, hG], ?_⟩
        simp
        refine a_pre 0 [(5, true), (6, true), (7, true), (8, true)] ?_
        simp [hG4, hG, hgo, hel, hd0, hk3, g1, hsm]
        refine ⟨by omega, aany_end (hJ _ _ ?_)⟩
        simp only [ak]
        refine ⟨trivial, s4.next, ⟨by simp [f1], by simp [f5], by simp [f62], ?_, ?_, hsc, by simp; omega⟩, by simp [fi], by simp [fn], by simp, by simp, by simp, by omega, by simp⟩
        · (repeat (first | rw [new_H, if_neg (α := LObj) (by (try simp only [set_next, new_next]); omega)] | rw [set_H, if_neg (α := LObj) (by omega)] | rw [new_H, if_pos (α := LObj) (by (try simp only [set_next, new_next]))] | rw [set_H, if_pos (α := LObj) (by omega)])); exact hG4
        · (repeat (first | rw [new_H, if_neg (α := LObj) (by (try simp only [set_next, new_next]); omega)] | rw [set_H, if_neg (α := LObj) (by omega)] | rw [new_H, if_pos (α := LObj) (by (try simp only [set_next, new_next]))] | rw [set_H, if_pos (α := LObj) (by omega)])); exact hC4
      · have e1 : ¬ st.next = s.next := by omega
        have e2 : ¬ s.next = st.next := by omega
        simp [e1]
        refine a_pre 0 [(4, true), (5, true), (6, true), (8, true)] ?_
        simp
        refine dcallK_ofE (gEdge g xi _ (by omega)) (by simp) ?_; rintro r s4 ⟨rfl, hk4⟩
        have hn4 := hk4.next
        simp only [new_next] at hn4
        have hG4 : s4.H st.next = .box 38 2 (grL g) := by rw [hk4.H st.next (by simp; omega), new_H, if_neg e1]; exact hG
        have hC4 : s4.H c = .box 38 2 (grL ⟨g.vs, I⟩) := by rw [hk4.H c (by simp; omega), new_H, if_neg (by omega)]; exact hC
        have hB4 : s4.H s.next = .box 43 3 [.atom (.int .u32 0), .atom (.int .u32 0), .atom (.int .u32 0)] := by rw [hk4.H s.next (by simp)]; simp
        refine ⟨fun _ => by simp [hG4, hG], ?_⟩
        simp [hG4, hG, hgo, hel, hd0, hk3, g1, hsm, hB4, e1, e2]
        refine aany_end (hJ _ _ ?_)
        simp only [ak]
        refine ⟨trivial, s.next, ⟨by simp [f1], by simp [f5], by simp [f62], ?_, ?_, hsc, by simp; omega⟩, by simp [fi], by simp [fn], by simp, by simp, by simp, by omega, by simp; omega⟩
        · (repeat (first | rw [new_H, if_neg (α := LObj) (by (try simp only [set_next, new_next]); omega)] | rw [set_H, if_neg (α := LObj) (by omega)] | rw [new_H, if_pos (α := LObj) (by (try simp only [set_next, new_next]))] | rw [set_H, if_pos (α := LObj) (by omega)])); exact hG4
        · (repeat (first | rw [new_H, if_neg (α := LObj) (by (try simp only [set_next, new_next]); omega)] | rw [set_H, if_neg (α := LObj) (by omega)] | rw [new_H, if_pos (α := LObj) (by (try simp only [set_next, new_next]))] | rw [set_H, if_pos (α := LObj) (by omega)])); exact hC4
    · clear f1 f5 f62 hG hC hsc hcn fi fn fr s
      rintro fr s ⟨e, ⟨f1, f5, f62, hG, hC, hsc, hcn⟩, fi, fn, f7, f8, hE, hce, hen⟩
      (repeat' (first | refine awp_seq ?_ | (refine w_e [] ?_; intro J hJ; simp only []; simp [f1, f7, hG])))
      refine callK_ofE (Ring g xi s hg hi (by omega) (by omega) (by omega)) (by simp) ?_; rintro r s1 ⟨hr, hk1⟩
      obtain ⟨l, hl, rfl⟩ := hr I Rs hfo
      obtain ⟨d, d1, d2, d3, d4, d5⟩ := hrw l (hRR l hl) hxe.1 hxe.2
      have hll : l.length ≤ 102 := pathF_len3 (hRR l hl)
      have hn1 := hk1.next
      have hG1 := (hk1.H st.next (by omega)).trans hG
      have hC1 := (hk1.H c (by omega)).trans hC
      have hE1 := (hk1.H e (by omega)).trans hE
      have hh0 : hdL (us l) = u xa := by
        have := us_drop_getD l 0 (by omega)
        rw [d3] at this
        simp only [List.drop_zero] at this
        rw [this]; rfl
      have hld := us_drop_getD l d (by omega)
      rw [d4] at hld
      have w1 : IntKind.i64.wrap (d : Int) = (d : Int) := wrap_i64 _ (by omega) (by omega)
      have hdl : d < l.length := by omega
      have hl2 : ¬ (l.length : Int) < 2 := by omega
      have hl3 : ¬ l.length < 2 := by omega
      have hl1 : 0 < l.length := by omega
      have w2 : IntKind.i64.wrap ((l.length : Int) - 1) = (d : Int) := by rw [wrap_i64 _ (by omega) (by omega)]; omega
      (repeat' (first | refine awp_seq ?_ | refine awp_block ?_ | (refine awp_skip ?_; simp only [ak, reduceIte]) | (refine awp_cond ?_; simp [f8, hE1, hh0, hld, w1, w2, hdl, hl1, hl2, hl3]) | ((first | (refine w_e [] ?_; intro J hJ; simp only []) | (refine w_q ?_; intro J hJ) | (refine e_go ?_)); simp [f8, hE1, hh0, hld, w1, w2, hdl, hl1, hl2, hl3]; (refine hJ _ _ ?_; clear hJ J; simp only [ak, reduceIte]))))
      refine awp_loop (fun z fr s => ∃ p : Nat, p + 1 ≤ l.length ∧ z = l.length - (p + 1) ∧ TlI g I Rs c st fr s ∧ fr 64 = i j0 ∧ fr 63 = i Rs.length ∧ fr 9 = .sl 0 l.length (us l) ∧ fr 10 = i (p + 1 : Nat)) (l.length - 1) ?_ ?_
      · exact ⟨0, by omega, by omega, ⟨by simp [f1], by simp [f5], by simp [f62], hG1, hC1, hsc, by omega⟩, by simp [fi], by simp [fn], by simp, by simp⟩
      clear f1 f5 f62 hG hC hsc hcn fi fn f7 f8 hE hce hen hk1 hn1 hG1 hC1 hE1 hld hh0 hl2 hl3 w1 w2 fr
      clear s1 s
      rintro z fr s ⟨p, hpl, rfl, ⟨f1, f5, f62, hG, hC, hsc, hcn⟩, gi', gn', f9, f10⟩ J hJ
      by_cases hlp : p + 1 < l.length
      rotate_left
      · clear hJ
        have hlp' : ¬ (p : Int) + 1 < l.length := by omega
        (repeat' (first | refine awp_seq ?_ | (refine awp_exit ?_; simp only [ak, reduceIte]) | (refine awp_cond ?_; simp [f9, f10, hlp, hlp']) | (refine w_e [] ?_; intro J hJ; simp only []; simp [f9, f10, hlp, hlp']; (refine hJ _ _ ?_; clear hJ J; simp only [ak, reduceIte]))))
        exact hJO _ _ (by simp [gi']) (by simp [gn']) ⟨by simp [f1], by simp [f5], by simp [f62], hG, hC, hsc, hcn⟩
      have hlp' : (p : Int) + 1 < l.length := by omega
      have hd1 := us_drop_getD l p (by omega)
      have hd2 := us_drop_getD l (p + 1) hlp
      have hB := d5 p hlp
      have hpl1 : p < l.length := by omega
      have w1 : IntKind.i64.wrap (p : Int) = (p : Int) := wrap_i64 _ (by omega) (by omega)
      have w2 : IntKind.i64.wrap ((p : Int) + 1 + 1) = (p : Int) + 1 + 1 := wrap_i64 _ (by omega) (by omega)
      generalize l.getD p 0 = q at *
      generalize l.getD (p + 1) 0 = w at *
      have hIe := eds_length I
      (repeat' (first | refine awp_seq ?_ | refine awp_block ?_ | (refine awp_skip ?_; simp only [ak, reduceIte]) | (refine awp_cond ?_; simp [f5, f9, f10, hlp, hlp', hC]) | (refine w_e [] ?_; intro J hJ; simp only []; simp [f5, f9, f10, hlp, hlp', hC]; (refine hJ _ _ ?_; clear hJ J; simp only [ak, reduceIte]))))
      refine awp_range 109 108 110 152 (I.length) (fun j fr st2 => TlI g I Rs c st fr st2 ∧ fr 64 = i j0 ∧ fr 63 = i Rs.length ∧ fr 9 = .sl 0 l.length (us l) ∧ fr 10 = i (p + 1 : Nat) ∧ fr 107 = .sl 0 I.length (eds I) ∧ fr 11 = bb (hasB (I.take j) q w)) ?_ ?_ ?_
      · exact ⟨⟨by simp [f1], by simp [f5], by simp [f62], hG, hC, hsc, hcn⟩, by simp [gi'], by simp [gn'], by simp [f9], by simp [f10], by simp, by simp [hasB]⟩
      · clear f1 f5 f62 hG hC hsc hcn gi' gn' f9 f10 hJ hJO fr s
        rintro j fr s hlj ⟨⟨f1, f5, f62, hG, hC, hsc, hcn⟩, gi', gn', f9, f10, f107, f11⟩ fi fn J2 hJ2
        have hdj := eds_drop I j hlj
        have hkj : j * 3 < I.length * 3 := by omega
        have htj : I.take (j + 1) = I.take j ++ [I.getD j ed0] := by
          rw [List.getD_eq_getElem?_getD, List.getElem?_eq_getElem hlj]; exact List.take_succ_eq_append_getElem hlj
        have hsn := hasB_snoc (I.take j) (I.getD j ed0) q w
        rw [← htj] at hsn
        generalize I.getD j ed0 = y at *
        generalize hasB (I.take j) q w = ok at *
        obtain ⟨yi, ya, yb⟩ := y
        simp only at hsn
        have hfin : ∀ fr' b, fr' 109 = i j → fr' 108 = i I.length → fr' 1 = fr 1 → fr' 5 = fr 5 → fr' 62 = fr 62 → fr' 64 = fr 64 → fr' 63 = fr 63 → fr' 9 = fr 9 → fr' 10 = fr 10 → fr' 107 = fr 107 → fr' 11 = bb b → b = hasB (I.take (j + 1)) q w → J2 fr' (s.new (.box 43 3 [u yi, u ya, u yb])) := by
          intro fr' b g1 g2 g3 g4 g5 g6 g7 g8 g9 g10 g11 g12
          refine hJ2 _ _ g1 g2 ⟨⟨by simp [g3, f1], by simp [g4, f5], by simp [g5, f62], ?_, ?_, hsc, by simp; omega⟩, by simp [g6, gi'], by simp [g7, gn'], by simp [g8, f9], by simp [g9, f10], by simp [g10, f107], by simp [g11, g12]⟩
          · (repeat (first | rw [new_H, if_neg (α := LObj) (by (try simp only [set_next, new_next]); omega)] | rw [set_H, if_neg (α := LObj) (by omega)] | rw [new_H, if_pos (α := LObj) (by (try simp only [set_next, new_next]))] | rw [set_H, if_pos (α := LObj) (by omega)])); exact hG
          · (repeat (first | rw [new_H, if_neg (α := LObj) (by (try simp only [set_next, new_next]); omega)] | rw [set_H, if_neg (α := LObj) (by omega)] | rw [new_H, if_pos (α := LObj) (by (try simp only [set_next, new_next]))] | rw [set_H, if_pos (α := LObj) (by omega)])); exact hC
        clear hJ2
        cases ok with
        | true =>
          (repeat' (first | refine awp_seq ?_ | ((first | (refine w_e [] ?_; intro J hJ; simp only []) | (refine w_q ?_; intro J hJ)); simp [f107, fi, fn, hdj, hIe, hkj, hlj, f11]; (refine hJ _ _ ?_; clear hJ J; simp only [ak, reduceIte]))))
          exact hfin _ true (by simp [fi]) (by simp [fn]) (by simp) (by simp) (by simp) (by simp) (by simp) (by simp) (by simp) (by simp) (by simp) (by simp [hsn])
        | false =>
          by_cases c1 : ya = q
          · have c1' : (ya == q) = true := by simpa using c1
            by_cases c2 : yb = w
            · have c2' : (yb == w) = true := by simpa using c2
              (repeat' (first | refine awp_seq ?_ | ((first | (refine w_e [] ?_; intro J hJ; simp only []) | (refine w_q ?_; intro J hJ)); simp [f107, fi, fn, hdj, hIe, hkj, hlj, f11, f9, f10, hlp, hlp', hd1, hd2, hpl1, w1, c1', c2']; (repeat refine ca ?_); (refine hJ _ _ ?_; clear hJ J; simp only [ak, reduceIte]))))
              exact hfin _ true (by simp [fi]) (by simp [fn]) (by simp) (by simp) (by simp) (by simp) (by simp) (by simp) (by simp) (by simp) (by simp) (by simp [hsn, c1, c2])
            · have c2' : (yb == w) = false := by simpa using c2
              by_cases c3 : yb = q
              · have c3' : (yb == q) = true := by simpa using c3
                by_cases c4 : ya = w
                · have c4' : (ya == w) = true := by simpa using c4
                  (repeat' (first | refine awp_seq ?_ | ((first | (refine w_e [] ?_; intro J hJ; simp only []) | (refine w_q ?_; intro J hJ)); simp [f107, fi, fn, hdj, hIe, hkj, hlj, f11, f9, f10, hlp, hlp', hd1, hd2, hpl1, w1, c1', c2', c3', c4']; (repeat refine ca ?_); (refine hJ _ _ ?_; clear hJ J; simp only [ak, reduceIte]))))
                  exact hfin _ true (by simp [fi]) (by simp [fn]) (by simp) (by simp) (by simp) (by simp) (by simp) (by simp) (by simp) (by simp) (by simp) (by simp [hsn, c3, c4])
                · have c4' : (ya == w) = false := by simpa using c4
                  (repeat' (first | refine awp_seq ?_ | ((first | (refine w_e [] ?_; intro J hJ; simp only []) | (refine w_q ?_; intro J hJ)); simp [f107, fi, fn, hdj, hIe, hkj, hlj, f11, f9, f10, hlp, hlp', hd1, hd2, hpl1, w1, c1', c2', c3', c4']; (repeat refine ca ?_); (refine hJ _ _ ?_; clear hJ J; simp only [ak, reduceIte]))))
                  exact hfin _ false (by simp [fi]) (by simp [fn]) (by simp) (by simp) (by simp) (by simp) (by simp) (by simp) (by simp) (by simp) (by simp) (by simp [hsn, c2, c4])
              · have c3' : (yb == q) = false := by simpa using c3
                (repeat' (first | refine awp_seq ?_ | ((first | (refine w_e [] ?_; intro J hJ; simp only []) | (refine w_q ?_; intro J hJ)); simp [f107, fi, fn, hdj, hIe, hkj, hlj, f11, f9, f10, hlp, hlp', hd1, hd2, hpl1, w1, c1', c2', c3']; (repeat refine ca ?_); (refine hJ _ _ ?_; clear hJ J; simp only [ak, reduceIte]))))
                exact hfin _ false (by simp [fi]) (by simp [fn]) (by simp) (by simp) (by simp) (by simp) (by simp) (by simp) (by simp) (by simp) (by simp) (by simp [hsn, c2, c3])
          · have c1' : (ya == q) = false := by simpa using c1
            by_cases c3 : yb = q
            · have c3' : (yb == q) = true := by simpa using c3
              by_cases c4 : ya = w
              · have c4' : (ya == w) = true := by simpa using c4
                (repeat' (first | refine awp_seq ?_ | ((first | (refine w_e [] ?_; intro J hJ; simp only []) | (refine w_q ?_; intro J hJ)); simp [f107, fi, fn, hdj, hIe, hkj, hlj, f11, f9, f10, hlp, hlp', hd1, hd2, hpl1, w1, c1', c3', c4']; (repeat refine ca ?_); (refine hJ _ _ ?_; clear hJ J; simp only [ak, reduceIte]))))
                exact hfin _ true (by simp [fi]) (by simp [fn]) (by simp) (by simp) (by simp) (by simp) (by simp) (by simp) (by simp) (by simp) (by simp) (by simp [hsn, c3, c4])
              · have c4' : (ya == w) = false := by simpa using c4
                (repeat' (first | refine awp_seq ?_ | ((first | (refine w_e [] ?_; intro J hJ; simp only []) | (refine w_q ?_; intro J hJ)); simp [f107, fi, fn, hdj, hIe, hkj, hlj, f11, f9, f10, hlp, hlp', hd1, hd2, hpl1, w1, c1', c3', c4']; (repeat refine ca ?_); (refine hJ _ _ ?_; clear hJ J; simp only [ak, reduceIte]))))
                exact hfin _ false (by simp [fi]) (by simp [fn]) (by simp) (by simp) (by simp) (by simp) (by simp) (by simp) (by simp) (by simp) (by simp) (by simp [hsn, c1, c4])
            · have c3' : (yb == q) = false := by simpa using c3
              (repeat' (first | refine awp_seq ?_ | ((first | (refine w_e [] ?_; intro J hJ; simp only []) | (refine w_q ?_; intro J hJ)); simp [f107, fi, fn, hdj, hIe, hkj, hlj, f11, f9, f10, hlp, hlp', hd1, hd2, hpl1, w1, c1', c3']; (refine hJ _ _ ?_; clear hJ J; simp only [ak, reduceIte]))))
              exact hfin _ false (by simp [fi]) (by simp [fn]) (by simp) (by simp) (by simp) (by simp) (by simp) (by simp) (by simp) (by simp) (by simp) (by simp [hsn, c1, c3])
      · clear f1 f5 f62 hG hC hsc hcn gi' gn' f9 f10 fr s
        rintro fr s ⟨⟨f1, f5, f62, hG, hC, hsc, hcn⟩, gi', gn', f9, f10, f107, f11⟩
        rw [List.take_length, hB] at f11
        (repeat' (first | refine awp_seq ?_ | (refine awp_skip ?_; simp only [ak, reduceIte]) | (refine awp_cond ?_; simp [f10, f11, w2]) | (refine w_e [] ?_; intro J hJ; simp only []; simp [f10, f11, w2]; (refine hJ _ _ ?_; clear hJ J; simp only [ak, reduceIte]))))
        exact hJ (l.length - (p + 1 + 1)) _ _ (by omega) ⟨p + 1, by omega, rfl, ⟨by simp [f1], by simp [f5], by simp [f62], hG, hC, hsc, hcn⟩, by simp [gi'], by simp [gn'], by simp [f9], by simp⟩
  · rintro fr s _
    (repeat' (first | refine awp_seq ?_ | (refine awp_ret ?_; simp only [ak, reduceIte]; simp []) | (refine w_e [] ?_; intro J hJ; simp only []; simp []; (refine hJ _ _ ?_; clear hJ J; simp only [ak, reduceIte]))))

theorem TreeCounts_shp (l0 : List LV) (st : St) (h0 : Shp tab 38 l0) :
    ACalls Tryz.prog 12 [argT tab 38 l0] st fun r st' => r = bb true := by
  obtain ⟨g, rfl, _⟩ := shp_gr h0
  exact TreeCounts g st

end Go.Proofs.YtomfeddgeihipaaGreat.Aw
