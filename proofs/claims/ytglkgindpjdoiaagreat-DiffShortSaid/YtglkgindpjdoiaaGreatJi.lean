/- Plain: a step on a map that is drawn on: what is behind it is a map again, in the plane again. -/
import Derived.Test.YtglkgindpjdoiaaGreatJh
import Derived.Test.YtglkgindpjdoiaaGreatAwShp
import Derived.Test.YtglkgindpjdoiaaGreatAwAlt
namespace Go.Proofs.YtglkgindpjdoiaaGreat.Aw
open Go Go.RowKit Go.Proofs.YtglkgindpjdoiaaGreat.Pl Go.Proofs.YtglkgindpjdoiaaGreat.Eu
set_option linter.unusedSimpArgs false
set_option linter.unusedVariables false
structure Drw (m : Mp) : Prop where
  ok : MapOk m
  vp : ∀ v ∈ m.g.vs, 1 ≤ v ∧ v ≤ 1048576
  v : m.g.vs.length ≤ 64
  e : m.g.es.length ≤ 160
theorem drw_right {m : Mp} : rright m = 0 ↔ Drw m ∧ gn m = 0 := by
  constructor
  · intro h
    unfold rright at h
    by_cases h1 : rchk m = 0
    · rw [if_neg (fun k => k h1)] at h
      obtain ⟨h2, h3⟩ := rchk_zero h1
      refine ⟨⟨h3, (chk_full h2).vpos, (chk_good h2).2.2.1, (chk_good h2).2.2.2⟩, ?_⟩
      by_cases h4 : gn m = 0
      · exact h4
      · rw [if_pos h4] at h; cases h
    · rw [if_pos h1] at h; exact absurd h h1
  · rintro ⟨h, hg⟩
    have hc := chk_of h.ok.g h.vp h.v h.e
    have := rchk_ok hc h.ok.len h.ok.ok
    unfold rright
    rw [if_neg (fun k => k this), if_neg (fun k => k hg)]
theorem Drw.ord {m : Mp} (h : Drw m) : Ord m := ⟨h.ok.g.rise, h.ok.len, by have := h.v; omega, by have := h.e; omega⟩
theorem Drw.sm {m : Mp} (h : Drw m) : ∀ t ∈ m.rots, small t := fun t ht => by have := h.ok.row_le ht; have := h.e; unfold small; omega
theorem lss_split {l : List Int} (v : Int) (h : l.Pairwise (· < ·)) : (∀ y ∈ l.take (lss l v), y < v) ∧ (∀ y ∈ l.drop (lss l v), v ≤ y) := by
  induction l with
  | nil => simp
  | cons x l ih =>
    rw [List.pairwise_cons] at h
    by_cases hx : x < v
    · have e : lss (x :: l) v = lss l v + 1 := by unfold lss; rw [List.filter_cons, if_pos (by simpa using hx)]; rfl
      rw [e, List.take_succ_cons, List.drop_succ_cons]
      refine ⟨fun y hy => ?_, (ih h.2).2⟩
      rw [List.mem_cons] at hy
      rcases hy with rfl | hy
      · exact hx
      · exact (ih h.2).1 y hy
    · have e : lss (x :: l) v = 0 := by
        unfold lss
        rw [List.length_eq_zero_iff, List.filter_eq_nil_iff]
        intro y hy
        rw [List.mem_cons] at hy
        rcases hy with rfl | hy
        · simpa using hx
        · have := h.1 y hy; simp; omega
      rw [e]
      refine ⟨by simp, fun y hy => ?_⟩
      rw [List.drop_zero, List.mem_cons] at hy
      rcases hy with rfl | hy
      · omega
      · have := h.1 y hy; omega
theorem ins_rise {l : List Int} {v : Int} (h : l.Pairwise (· < ·)) (hv : v ∉ l) : (l.take (lss l v) ++ v :: l.drop (lss l v)).Pairwise (· < ·) := by
  obtain ⟨h1, h2⟩ := lss_split v h
  have h3 := h
  have hd := List.take_append_drop (lss l v) l
  rw [← hd, List.pairwise_append] at h3
  rw [List.pairwise_append]
  refine ⟨h3.1, List.pairwise_cons.2 ⟨fun y hy => ?_, h3.2.1⟩, fun a ha b hb => ?_⟩
  · have := h2 y hy
    have hne : y ≠ v := fun e => hv (e ▸ List.mem_of_mem_drop hy)
    omega
  · rw [List.mem_cons] at hb
    rcases hb with rfl | hb
    · exact h1 a ha
    · exact h3.2.2 a ha b hb
theorem mid_perm (l : List Int) (k : Nat) (v : Int) : (l.take k ++ v :: l.drop k).Perm (v :: l) := by
  have := @List.perm_middle _ v (l.take k) (l.drop k)
  rwa [List.take_append_drop] at this
theorem ok_zip {es : List Ed} {vs : List Int} {rs : List (List Int)} (hl : rs.length = vs.length) : (∀ k, k < vs.length → okTurn es (vs.getD k 0) (rs.getD k [])) ↔ ∀ p ∈ vs.zip rs, okTurn es p.1 p.2 := by
  constructor
  · intro h p hp
    obtain ⟨k, hk, rfl⟩ := List.getElem_of_mem hp
    rw [List.length_zip] at hk
    have := h k (by omega)
    rw [getD_lt _ _ (by omega), getR_lt _ _ (by omega)] at this
    rw [List.getElem_zip]
    exact this
  · intro h k hk
    rw [getD_lt _ _ hk, getR_lt _ _ (by omega)]
    have := h ((vs.zip rs)[k]'(by rw [List.length_zip]; omega)) (List.getElem_mem _)
    rw [List.getElem_zip] at this
    exact this
theorem zip_mid {a b : List Int} {c d : List (List Int)} (v : Int) (t : List Int) (h : a.length = c.length) : (a ++ v :: b).zip (c ++ t :: d) = a.zip c ++ (v, t) :: b.zip d := by
  rw [List.zip_append h, List.zip_cons_cons]
theorem zip_two {a b : List Int} {c d : List (List Int)} (h : a.length = c.length) : (a ++ b).zip (c ++ d) = a.zip c ++ b.zip d := List.zip_append h
theorem sg_mid (g g' : Gr) (a b : List (List Int)) (d : Int) : sg ⟨g, a ++ [] :: b⟩ d = sg ⟨g', a ++ b⟩ d := by
  unfold sg
  simp only [List.find?_append, List.find?_cons, List.not_mem_nil, decide_false]
theorem gn_more {m m' : Mp} (h : MapOk m) (h' : MapOk m') {v : Int} (he : m'.g.es = m.g.es) (hs : ∀ d, sg m' d = sg m d) (hp : m'.g.vs.Perm (v :: m.g.vs)) (hv : v ∉ m.g.vs) (hn : nbr m.g.es v = []) : gn m' = gn m := by
  have g1 := h.gn
  have g2 := h'.gn
  have hf : fc m' m.g.es = fc m m.g.es := funext fun d => hs _
  rw [he, hf] at g2
  have hc : ncl (Reach m.g.es) m'.g.vs = ncl (Reach m.g.es) m.g.vs + 1 := by
    rw [ncl_perm (reach_eqv _) hp, ncl_cons_new]
    rintro ⟨y, hy, hr⟩
    exact hv (reach_alone hn hr.symm ▸ hy)
  have ha : alone m'.g = alone m.g + 1 := by
    unfold alone
    rw [he, hp.countP_eq, List.countP_cons, if_pos (by simpa using hn)]
  have hl := hp.length_eq
  rw [List.length_cons] at hl
  omega
section
variable {m : Mp} (h : Drw m) {v : Int}
include h
theorem alone_out {v : Int} (hv : v ∉ m.g.vs) : ends m.g.es v = [] := by
  rw [List.eq_nil_iff_forall_not_mem]
  intro d hd
  obtain ⟨x, hx, k⟩ := mem_ends.1 hd
  have := h.ok.g.ends x hx
  rcases k with ⟨rfl, _⟩ | ⟨rfl, _⟩
  · exact hv this.1
  · exact hv this.2
theorem addV_ok (hv : v ∉ m.g.vs) : MapOk (addV m v) := by
  have hlen := h.ok.len
  have hk := lss_le m.g.vs v
  have hp := mid_perm m.g.vs (lss m.g.vs v) v
  have hl : (addV m v).rots.length = (addV m v).g.vs.length := by simp only [addV, List.length_append, List.length_cons, List.length_take, List.length_drop]; omega
  refine ⟨⟨⟨ins_rise h.ok.g.rise hv, fun x hx => ?_⟩, h.ok.g.ids, h.ok.g.pos, h.ok.g.ne⟩, hl, (ok_zip hl).2 ?_⟩
  · have := h.ok.g.ends x hx
    exact ⟨hp.mem_iff.2 (List.mem_cons_of_mem _ this.1), hp.mem_iff.2 (List.mem_cons_of_mem _ this.2)⟩
  · have h0 := (ok_zip hlen).1 h.ok.ok
    have e1 := zip_two (a := m.g.vs.take (lss m.g.vs v)) (b := m.g.vs.drop (lss m.g.vs v)) (c := m.rots.take (lss m.g.vs v)) (d := m.rots.drop (lss m.g.vs v)) (by simp only [List.length_take]; omega)
    rw [List.take_append_drop, List.take_append_drop] at e1
    rw [e1] at h0
    unfold addV
    simp only
    rw [zip_mid _ _ (by simp only [List.length_take]; omega)]
    intro p hp2
    rw [List.mem_append, List.mem_cons] at hp2
    rcases hp2 with k | rfl | k
    · exact h0 p (List.mem_append_left _ k)
    · refine ⟨?_, rfl⟩
      simp only
      rw [alone_out h hv]
    · exact h0 p (List.mem_append_right _ k)
theorem addV_sg (d : Int) : sg (addV m v) d = sg m d := by
  have _ := h
  unfold addV
  have e := sg_mid ⟨m.g.vs.take (lss m.g.vs v) ++ v :: m.g.vs.drop (lss m.g.vs v), m.g.es⟩ m.g (m.rots.take (lss m.g.vs v)) (m.rots.drop (lss m.g.vs v)) d
  rw [List.take_append_drop] at e
  exact e
theorem addV_drw (hv : v ∉ m.g.vs) (hn : 1 ≤ v ∧ v ≤ 1048576) (h64 : m.g.vs.length < 64) : Drw (addV m v) ∧ gn (addV m v) = gn m := by
  have hp := mid_perm m.g.vs (lss m.g.vs v) v
  have ho := addV_ok h hv
  refine ⟨⟨ho, fun w hw => ?_, ?_, h.e⟩, gn_more h.ok ho rfl (addV_sg h) hp hv ((ends_nil _ _).1 (alone_out h hv))⟩
  · have := hp.mem_iff.1 hw
    rw [List.mem_cons] at this
    rcases this with rfl | k
    · exact hn
    · exact h.vp w k
  · have := hp.length_eq
    rw [List.length_cons] at this
    show (m.g.vs.take _ ++ v :: m.g.vs.drop _).length ≤ 64
    omega
variable (hv : v ∈ m.g.vs) (h0 : m.rots.getD (m.g.vs.idxOf v) [] = [])
include hv h0
theorem del_split : m.g.vs = m.g.vs.take (m.g.vs.idxOf v) ++ v :: m.g.vs.drop (m.g.vs.idxOf v + 1) ∧ m.rots = m.rots.take (m.g.vs.idxOf v) ++ [] :: m.rots.drop (m.g.vs.idxOf v + 1) := by
  have hi := List.idxOf_lt_length_of_mem hv
  have hlen := h.ok.len
  constructor
  · have h1 := List.drop_eq_getElem_cons hi
    rw [List.getElem_idxOf] at h1
    rw [← h1, List.take_append_drop]
  · have hi2 : m.g.vs.idxOf v < m.rots.length := by omega
    have h1 := List.drop_eq_getElem_cons hi2
    rw [getR_lt _ _ hi2] at h0
    rw [h0] at h1
    rw [← h1, List.take_append_drop]
theorem del_alone : ends m.g.es v = [] := by
  have hi := List.idxOf_lt_length_of_mem hv
  have := (h.ok.ok _ hi).1
  rw [h0, getD_lt _ _ hi, List.getElem_idxOf] at this
  exact this.symm.eq_nil
theorem del_perm : m.g.vs.Perm (v :: (delV m v).g.vs) := by
  have h1 := (del_split h hv h0).1
  have := @List.perm_middle _ v (m.g.vs.take (m.g.vs.idxOf v)) (m.g.vs.drop (m.g.vs.idxOf v + 1))
  rw [← h1] at this
  exact this
theorem del_out : v ∉ (delV m v).g.vs := by
  have h1 := (del_perm h hv h0).nodup_iff.1 (rise_nodup h.ok.g.rise)
  exact (List.nodup_cons.1 h1).1
theorem delV_sg (d : Int) : sg m d = sg (delV m v) d := by
  have h1 := (del_split h hv h0).2
  have e := sg_mid m.g (delV m v).g (m.rots.take (m.g.vs.idxOf v)) (m.rots.drop (m.g.vs.idxOf v + 1)) d
  rw [← h1] at e
  exact e
theorem delV_ok : MapOk (delV m v) := by
  obtain ⟨e1, e2⟩ := del_split h hv h0
  have hlen := h.ok.len
  have hi := List.idxOf_lt_length_of_mem hv
  have hl : (delV m v).rots.length = (delV m v).g.vs.length := by simp only [delV, List.length_append, List.length_take, List.length_drop]; omega
  have hp := del_perm h hv h0
  have ha := del_alone h hv h0
  have hend : ∀ w, w ∈ m.g.vs → w ≠ v → w ∈ (delV m v).g.vs := fun w hw hne => by
    have := hp.mem_iff.1 hw
    rw [List.mem_cons] at this
    rcases this with k | k
    · exact absurd k hne
    · exact k
  refine ⟨⟨⟨?_, fun x hx => ?_⟩, h.ok.g.ids, h.ok.g.pos, h.ok.g.ne⟩, hl, (ok_zip hl).2 ?_⟩
  · have h3 := h.ok.g.rise
    rw [e1, List.pairwise_append] at h3
    show (m.g.vs.take _ ++ m.g.vs.drop _).Pairwise (· < ·)
    rw [List.pairwise_append]
    exact ⟨h3.1, (List.pairwise_cons.1 h3.2.1).2, fun a ha b hb => h3.2.2 a ha b (List.mem_cons_of_mem _ hb)⟩
  · have := h.ok.g.ends x hx
    refine ⟨hend _ this.1 fun e => ?_, hend _ this.2 fun e => ?_⟩
    · have : 2 * x.id ∈ ends m.g.es v := mem_ends.2 ⟨x, hx, .inl ⟨e, rfl⟩⟩
      rw [ha] at this; simp at this
    · have : 2 * x.id + 1 ∈ ends m.g.es v := mem_ends.2 ⟨x, hx, .inr ⟨e, rfl⟩⟩
      rw [ha] at this; simp at this
  · have h2 := (ok_zip hlen).1 h.ok.ok
    have e3 : m.g.vs.zip m.rots = (m.g.vs.take (m.g.vs.idxOf v) ++ v :: m.g.vs.drop (m.g.vs.idxOf v + 1)).zip (m.rots.take (m.g.vs.idxOf v) ++ [] :: m.rots.drop (m.g.vs.idxOf v + 1)) := by rw [← e1, ← e2]
    rw [zip_mid _ _ (by simp only [List.length_take]; omega)] at e3
    rw [e3] at h2
    unfold delV
    simp only
    rw [zip_two (by simp only [List.length_take]; omega)]
    intro p hp2
    rw [List.mem_append] at hp2
    rcases hp2 with k | k
    · exact h2 p (List.mem_append_left _ k)
    · exact h2 p (List.mem_append_right _ (List.mem_cons_of_mem _ k))
theorem delV_drw : Drw (delV m v) ∧ gn (delV m v) = gn m := by
  have hp := del_perm h hv h0
  have ho := delV_ok h hv h0
  refine ⟨⟨ho, fun w hw => h.vp w (hp.mem_iff.2 (List.mem_cons_of_mem _ hw)), ?_, h.e⟩, (gn_more ho h.ok rfl (delV_sg h hv h0) hp (del_out h hv h0) ((ends_nil _ _).1 (del_alone h hv h0))).symm⟩
  have := hp.length_eq
  rw [List.length_cons] at this
  have := h.v
  omega
end
theorem insE_len (l : List Ed) (x : Ed) : (insE l x).length = l.length + 1 := by rw [(insE_perm l x).length_eq]; simp
theorem lessM_drw {m : Mp} (h : Drw m) (id : Int) : Drw (lessM m id) := ⟨less_ok h.ok id, h.vp, h.v, Nat.le_trans (List.length_filter_le _ _) h.e⟩
theorem less_none {m : Mp} (h : MapOk m) {id : Int} (hn : ∀ x ∈ m.g.es, x.id ≠ id) : lessM m id = m := by
  obtain ⟨⟨vs, es⟩, rs⟩ := m
  unfold lessM
  congr 1
  · congr 1
    exact List.filter_eq_self.2 fun x hx => by simpa using hn x hx
  · conv => rhs; rw [← List.map_id rs]
    refine List.map_congr_left fun t ht => ?_
    rw [wo_half, List.filter_eq_self.2 fun d hd => ?_]
    · obtain ⟨k, hk, rfl, ho⟩ := h.turn ht
      exact ho.2
    · obtain ⟨x, hx, e⟩ := darts_half.1 (h.turn_dart ht hd)
      have := hn x hx
      simp; omega
theorem less_plane {m : Mp} (h : MapOk m) (hg : gn m = 0) (id : Int) : gn (lessM m id) = 0 := by
  by_cases hx : ∃ x ∈ m.g.es, x.id = id
  · obtain ⟨x, hx, rfl⟩ := hx
    obtain ⟨A, B, hA⟩ := h.ahd hx
    have := h.less_gn hx hA
    omega
  · rw [less_none h fun x hx' e => hx ⟨x, hx', e⟩]; exact hg
theorem linkW_zero {m : Mp} (h : Drw m) {s : Sp} (hid : 1 ≤ s.id ∧ s.id ≤ 1048576) (h0 : linkW m s = 0) : LinkOk m ⟨s.id, s.a, s.b⟩ s.pa s.pb ∧ m.g.es.length < 160 ∧ (Reach m.g.es s.a s.b → Orb (fc m m.g.es) (nx (m.rots.getD (m.g.vs.idxOf s.a) []) s.pa) (nx (m.rots.getD (m.g.vs.idxOf s.b) []) s.pb)) := by
  unfold linkW at h0
  by_cases h1 : fe m.g.es s.id < 0
  rotate_left
  · rw [if_pos h1] at h0; cases h0
  rw [if_neg (fun k => k h1)] at h0
  by_cases h2 : 160 ≤ m.g.es.length
  · rw [if_pos h2] at h0; cases h0
  rw [if_neg h2] at h0
  by_cases h3 : s.a = s.b
  · rw [if_pos h3] at h0; cases h0
  rw [if_neg h3] at h0
  by_cases h4 : s.a ∉ m.g.vs ∨ s.b ∉ m.g.vs
  · rw [if_pos h4] at h0; cases h0
  rw [if_neg h4] at h0
  by_cases h5 : ¬ standsW (m.rots.getD (m.g.vs.idxOf s.a) []) s.pa ∨ ¬ standsW (m.rots.getD (m.g.vs.idxOf s.b) []) s.pb
  · rw [if_pos h5] at h0; cases h0
  rw [if_neg h5] at h0
  have ha : s.a ∈ m.g.vs := Classical.byContradiction fun k => h4 (.inl k)
  have hb : s.b ∈ m.g.vs := Classical.byContradiction fun k => h4 (.inr k)
  have sa : standsW (m.rots.getD (m.g.vs.idxOf s.a) []) s.pa := Classical.byContradiction fun k => h5 (.inl k)
  have sb : standsW (m.rots.getD (m.g.vs.idxOf s.b) []) s.pb := Classical.byContradiction fun k => h5 (.inr k)
  refine ⟨⟨ha, hb, h3, fe_neg.1 h1, hid, sa, sb⟩, by omega, fun hr => Classical.byContradiction fun hno => ?_⟩
  rw [if_pos ⟨cdec_t hr, cdec_f hno⟩] at h0
  cases h0
section
variable {m : Mp} (h : MapOk m) {x : Ed} {pa pb : Int} (hl : LinkOk m x pa pb)
include h hl
theorem link_row_at {v p : Int} (hv : v ∈ m.g.vs) (hp : p ∈ m.rots.getD (m.g.vs.idxOf v) []) : sg m p = nx (m.rots.getD (m.g.vs.idxOf v) []) p := by
  have _ := hl
  have hi := List.idxOf_lt_length_of_mem hv
  have hlen := h.len
  exact sg_at h (by rw [getR_lt _ _ (by omega)]; exact List.getElem_mem _) hp
theorem link_gn (hf : Reach m.g.es x.a x.b → Orb (fc m m.g.es) (nx (m.rots.getD (m.g.vs.idxOf x.a) []) pa) (nx (m.rots.getD (m.g.vs.idxOf x.b) []) pb)) : gn (linkM m x pa pb) = gn m := by
  have ho := link_ok h hl
  have hin := link_in h hl
  have hA := link_ahd h hl
  have hg := ho.less_gn hin hA
  have hp := fun k => ho.less_part hin hA k
  rw [link_less h hl] at hg hp
  by_cases hr : Reach m.g.es x.a x.b
  · obtain ⟨p1, p2⟩ := hp hr
    have na : m.rots.getD (m.g.vs.idxOf x.a) [] ≠ [] := fun e => p1 (by rw [if_pos e])
    have nb : m.rots.getD (m.g.vs.idxOf x.b) [] ≠ [] := fun e => p2 (by rw [if_pos e])
    rw [if_neg na, if_neg nb] at hg
    have ma : pa ∈ m.rots.getD (m.g.vs.idxOf x.a) [] := by rcases hl.sa with k | k; exact absurd k.1 na; exact k
    have mb : pb ∈ m.rots.getD (m.g.vs.idxOf x.b) [] := by rcases hl.sb with k | k; exact absurd k.1 nb; exact k
    rw [link_row_at h hl hl.a ma, link_row_at h hl hl.b mb, if_neg (fun k => k.2 (hf hr))] at hg
    exact hg
  · rw [if_neg (fun k => hr k.1)] at hg
    exact hg
end
noncomputable def stpW (m : Mp) (s : Sp) : Int := if formW s ≠ 0 then formW s else if s.k = 1 then vertexW m s.id else if s.k = 2 then noVertexW m s.id else if s.k = 3 then linkW m s else noLinkW m s.id
def stpM (m : Mp) (s : Sp) : Mp := if s.k = 1 then addV m s.id else if s.k = 2 then delV m s.id else if s.k = 3 then linkM m ⟨s.id, s.a, s.b⟩ s.pa s.pb else lessM m s.id
theorem formW_id {s : Sp} (h : formW s = 0) : 1 ≤ s.id ∧ s.id ≤ 1048576 := by
  unfold formW at h
  split at h
  · cases h
  split at h
  · cases h
  split at h
  · cases h
  · rename_i k
    exact Classical.byContradiction fun hn => k (.inl hn)
theorem vertexW_zero {m : Mp} {v : Int} (h : vertexW m v = 0) : v ∉ m.g.vs ∧ m.g.vs.length < 64 := by
  unfold vertexW at h
  split at h
  · cases h
  · split at h
    · cases h
    · rename_i h1 h2; exact ⟨h1, by omega⟩
theorem noVertexW_zero {m : Mp} {v : Int} (h : noVertexW m v = 0) : v ∈ m.g.vs ∧ m.rots.getD (m.g.vs.idxOf v) [] = [] := by
  unfold noVertexW at h
  by_cases h1 : v ∈ m.g.vs
  · rw [if_neg (fun k => k h1)] at h
    by_cases h2 : m.rots.getD (m.g.vs.idxOf v) [] = []
    · exact ⟨h1, h2⟩
    · rw [if_pos h2] at h; cases h
  · rw [if_pos h1] at h; cases h
theorem step_drw {m : Mp} (h : Drw m) {s : Sp} (h0 : stpW m s = 0) : Drw (stpM m s) ∧ (gn m = 0 → gn (stpM m s) = 0) := by
  unfold stpW at h0
  by_cases hf : formW s = 0
  rotate_left
  · rw [if_pos hf] at h0; exact absurd h0 hf
  rw [if_neg (fun k => k hf)] at h0
  have hid := formW_id hf
  unfold stpM
  by_cases h1 : s.k = 1
  · rw [if_pos h1] at h0 ⊢
    obtain ⟨k1, k2⟩ := vertexW_zero h0
    have := addV_drw h k1 hid k2
    exact ⟨this.1, fun k => by rw [this.2, k]⟩
  rw [if_neg h1] at h0 ⊢
  by_cases h2 : s.k = 2
  · rw [if_pos h2] at h0 ⊢
    obtain ⟨k1, k2⟩ := noVertexW_zero h0
    have := delV_drw h k1 k2
    exact ⟨this.1, fun k => by rw [this.2, k]⟩
  rw [if_neg h2] at h0 ⊢
  by_cases h3 : s.k = 3
  · rw [if_pos h3] at h0 ⊢
    obtain ⟨hl, h160, hr⟩ := linkW_zero h hid h0
    refine ⟨⟨link_ok h.ok hl, h.vp, h.v, ?_⟩, fun k => by rw [link_gn h.ok hl hr, k]⟩
    show (insE _ _).length ≤ 160
    rw [insE_len]; omega
  · rw [if_neg h3] at h0 ⊢
    exact ⟨lessM_drw h _, fun k => less_plane h.ok k _⟩
end Go.Proofs.YtglkgindpjdoiaaGreat.Aw
namespace Go.Proofs.YtglkgindpjdoiaaGreat.Aw
open Go Go.RowKit Go.Proofs.YtglkgindpjdoiaaGreat.Pl Go.Proofs.YtglkgindpjdoiaaGreat.Eu
set_option linter.unusedSimpArgs false
set_option linter.unusedVariables false
set_option maxHeartbeats 2000000 in
theorem stepS (B D : Nat) (m : Mp) (s : Sp) (st : St) (h : DrB B D m st) (hB : B ≤ st.next) (hm : Drw m) :
    ACalls Tryz.prog 30 [.pt D 0, .ag (spL s)] st fun r st' => r = i (stpW m s) ∧ (stpW m s = 0 → DrB B D (stpM m s) st') ∧ KB B st st' := by
  have ho := hm.ord
  have hsm := hm.sm
  have hq : ∀ c : LObj, DrB B D m (st.new c) := fun c => by
    obtain ⟨⟨lv, le, lr, ⟨h1, h2, h3⟩, b1, b2, b3⟩, hB0⟩ := h
    have n1 := h2.v0
    have n2 := h2.e0
    have n3 := h2.r0
    exact ⟨⟨lv, le, lr, ⟨by simp [show ¬ D = st.next by omega, h1], ⟨by simp [show ¬ lv = st.next by omega, h2.v], by simp [show ¬ le = st.next by omega, h2.e], by simp [show ¬ lr = st.next by omega, h2.r], by simp; omega, by simp; omega, by simp; omega⟩, by simp; omega⟩, b1, b2, b3⟩, hB0⟩
  have hk0 : ∀ c : LObj, KB B st (st.new c) := fun c => (Keeps.new st c).kb hB
  obtain ⟨y, hy⟩ : ∃ y, y = stpW m s := ⟨_, rfl⟩
  obtain ⟨m', hm'⟩ : ∃ m', m' = stpM m s := ⟨_, rfl⟩
  rw [← hy, ← hm']
  unfold stpW at hy
  unfold stpM at hm'
  have hform := fun st => form s st
  have hlink := fun st h hid => linkS B D m s st h ho hm.ok hsm hid
  have hfid := fun h => formW_id (s := s) h
  obtain ⟨k, id, sa, sb, pa, pb⟩ := s
  simp only [spL] at *
  refine qO tabOk Tryz.func30 rfl rfl Tryz.ntmps30 (rs := [.tmp 4]) rfl (by simp) ?_
  refine awp_posG fun hpos => ?_
  (repeat' (first | refine qS ?_ | (refine w_e [] ?_; intro J hJ; simp only []; simp []; (try (refine hJ _ _ ?_; clear hJ J; simp only [ak, reduceIte])))))
  refine qE (hform _) (by simp) ?_; rintro r s1 ⟨rfl, h1⟩
  rw [h1]; clear h1 s1
  by_cases hf : formW ⟨k, id, sa, sb, pa, pb⟩ = 0
  rotate_left
  · rw [if_pos hf] at hy
    rw [← hy] at hf ⊢
    have hfb : (y != 0) = true := by simpa using hf
    (repeat' (first | refine qS ?_ | (refine qR ?_; simp only [ak, reduceIte]; simp [hf, hfb]) | (refine qC ?_; simp [hf, hfb]) | ((first | (refine w_e [] ?_; intro J hJ; simp only []) | (refine e_go ?_)); simp [hf, hfb]; (refine hJ _ _ ?_; clear hJ J; simp only [ak, reduceIte]))))
    exact hk0 _
  rw [if_neg (fun k => k hf)] at hy
  have hid := hfid hf
  rw [hf]
  clear hform
  by_cases h1 : k = 1
  · subst h1
    rw [if_pos rfl] at hy hm'
    subst hm'
    (repeat' (first | refine qS ?_ | refine qB ?_ | (refine qK ?_; simp only [ak, reduceIte]) | (refine qC ?_; simp []) | ((first | (refine w_e [] ?_; intro J hJ; simp only []) | (refine e_go ?_)); simp []; (try (refine hJ _ _ ?_; clear hJ J; simp only [ak, reduceIte])))))
    refine qE (vertexS B D m id _ (hq _) ho) (by simp) ?_; rintro r s1 ⟨rfl, h2, h3⟩
    rw [← hy] at h2 ⊢
    (repeat' (first | (refine qR ?_; simp only [ak, reduceIte]; simp []) | (refine e_go ?_; simp []; (refine hJ _ _ ?_; clear hJ J; simp only [ak, reduceIte]))))
    exact ⟨h2, (hk0 _).trans h3⟩
  rw [if_neg h1] at hy hm'
  have h1b : (k == 1) = false := by simpa using h1
  by_cases h2 : k = 2
  · subst h2
    rw [if_pos rfl] at hy hm'
    subst hm'
    (repeat' (first | refine qS ?_ | refine qB ?_ | (refine qK ?_; simp only [ak, reduceIte]) | (refine qC ?_; simp []) | ((first | (refine w_e [] ?_; intro J hJ; simp only []) | (refine e_go ?_)); simp []; (try (refine hJ _ _ ?_; clear hJ J; simp only [ak, reduceIte])))))
    refine qE (noVertexS B D m id _ (hq _) ho) (by simp) ?_; rintro r s1 ⟨rfl, h2, h3⟩
    rw [← hy] at h2 ⊢
    (repeat' (first | (refine qR ?_; simp only [ak, reduceIte]; simp []) | (refine e_go ?_; simp []; (refine hJ _ _ ?_; clear hJ J; simp only [ak, reduceIte]))))
    exact ⟨h2, (hk0 _).trans h3⟩
  rw [if_neg h2] at hy hm'
  have h2b : (k == 2) = false := by simpa using h2
  by_cases h3 : k = 3
  · subst h3
    rw [if_pos rfl] at hy hm'
    subst hm'
    (repeat' (first | refine qS ?_ | refine qB ?_ | (refine qK ?_; simp only [ak, reduceIte]) | (refine qC ?_; simp []) | ((first | (refine w_e [] ?_; intro J hJ; simp only []) | (refine e_go ?_)); simp []; (try (refine hJ _ _ ?_; clear hJ J; simp only [ak, reduceIte])))))
    refine qE (hlink _ (hq _) hid) (by simp) ?_; rintro r s1 ⟨rfl, h2, h3⟩
    rw [← hy] at h2 ⊢
    (repeat' (first | (refine qR ?_; simp only [ak, reduceIte]; simp []) | (refine e_go ?_; simp []; (refine hJ _ _ ?_; clear hJ J; simp only [ak, reduceIte]))))
    exact ⟨h2, (hk0 _).trans h3⟩
  rw [if_neg h3] at hy hm'
  have h3b : (k == 3) = false := by simpa using h3
  subst hm'
  (repeat' (first | refine qS ?_ | refine qB ?_ | (refine qK ?_; simp only [ak, reduceIte]) | (refine qC ?_; simp [h1, h2, h3, h1b, h2b, h3b]) | ((first | (refine w_e [] ?_; intro J hJ; simp only []) | (refine e_go ?_)); simp [h1, h2, h3, h1b, h2b, h3b]; (try (refine hJ _ _ ?_; clear hJ J; simp only [ak, reduceIte])))))
  refine qE (noLinkS B D m id _ (hq _) ho hsm hm.ok.g.pos) (by simp) ?_; rintro r s1 ⟨rfl, h2, h3⟩
  rw [keptP_less hm.ok] at h2
  rw [← hy] at h2 ⊢
  (repeat' (first | (refine qR ?_; simp only [ak, reduceIte]; simp []) | (refine e_go ?_; simp []; (refine hJ _ _ ?_; clear hJ J; simp only [ak, reduceIte]))))
  exact ⟨h2, (hk0 _).trans h3⟩
end Go.Proofs.YtglkgindpjdoiaaGreat.Aw
namespace Go.Proofs.YtglkgindpjdoiaaGreat.Aw
open Go Go.RowKit Go.Proofs.YtglkgindpjdoiaaGreat.Pl Go.Proofs.YtglkgindpjdoiaaGreat.Eu
set_option linter.unusedSimpArgs false
set_option linter.unusedVariables false
def aft (m : Mp) (l : List Sp) : Mp := l.foldl stpM m
def nilMp : Mp := ⟨⟨[], []⟩, []⟩
def DoTo (m : Mp) (l : List Sp) (j : Nat) : Prop := ∀ i, i < j → stpW (aft m (l.take i)) (l.getD i sp0) = 0
theorem aft_take {m : Mp} {l : List Sp} {j : Nat} (hj : j < l.length) : aft m (l.take (j + 1)) = stpM (aft m (l.take j)) (l.getD j sp0) := by
  unfold aft
  rw [List.take_succ_eq_append_getElem hj, List.foldl_append, List.getD_eq_getElem?_getD, List.getElem?_eq_getElem hj]
  rfl
theorem DoTo.drw {m : Mp} {l : List Sp} (hm : Drw m) : ∀ j, j ≤ l.length → DoTo m l j → Drw (aft m (l.take j)) ∧ (gn m = 0 → gn (aft m (l.take j)) = 0)
  | 0, _, _ => ⟨hm, fun h => h⟩
  | j + 1, hj, h => by
    obtain ⟨h1, h2⟩ := DoTo.drw hm j (by omega) fun i hi => h i (by omega)
    obtain ⟨k1, k2⟩ := step_drw h1 (h j (by omega))
    rw [aft_take (by omega)]
    exact ⟨k1, fun hg => k2 (h2 hg)⟩
theorem DoTo.succ {m : Mp} {l : List Sp} {j : Nat} (h : DoTo m l j) (k : stpW (aft m (l.take j)) (l.getD j sp0) = 0) : DoTo m l (j + 1) := fun i hi => by
  rcases Nat.lt_or_ge i j with h1 | h1
  · exact h i h1
  · obtain rfl : i = j := by omega
    exact k
theorem frz_norm (st : St) (x : LV) : Frz st st x (norm x) := fun w g _ hi hr => ⟨g, hi, rep_norm hr, Ext.refl w g⟩
theorem DrB.keeps {B D : Nat} {m : Mp} {st st' : St} (h : DrB B D m st) (hk : Keeps st st') : DrB B D m st' := by
  obtain ⟨⟨lv, le, lr, ⟨h1, h2, h3⟩, b⟩, hB0⟩ := h
  have hn := hk.next
  exact ⟨⟨lv, le, lr, ⟨by rw [hk.H _ h3]; exact h1, ⟨by rw [hk.H _ h2.v0]; exact h2.v, by rw [hk.H _ h2.e0]; exact h2.e, by rw [hk.H _ h2.r0]; exact h2.r, Nat.lt_of_lt_of_le h2.v0 hn, Nat.lt_of_lt_of_le h2.e0 hn, Nat.lt_of_lt_of_le h2.r0 hn⟩, Nat.lt_of_lt_of_le h3 hn⟩, b⟩, hB0⟩
def DoQ (m : Mp) (l : List Sp) (r : LV) : Prop := (DoTo m l l.length ∧ r = .tu [.ag (mpL (aft m l)), i l.length, i 0]) ∨ ∃ j, j < l.length ∧ DoTo m l j ∧ stpW (aft m (l.take j)) (l.getD j sp0) ≠ 0 ∧ r = .tu [.ag (mpL nilMp), i j, i (stpW (aft m (l.take j)) (l.getD j sp0))]
set_option maxHeartbeats 4000000 in
theorem DoK (m : Mp) (l : List Sp) (t : Nat) (st : St) (hm : Drw m) (hl : l.length ≤ 100000) :
    ACalls Tryz.prog 10 [.ag (mpL m), .sl t l.length (sps l)] st fun r st' => DoQ m l r ∧ Keeps st st' := by
  have hv := hm.v
  have he := hm.e
  have hsl := sps_length l
  have hr : m.rots.length ≤ 1000 := by rw [hm.ok.len]; omega
  refine acalls_frzR ?_
  refine qO tabOk Tryz.func10 rfl rfl Tryz.ntmps10 (rs := [.cell 4 28, .tmp 5, .tmp 6]) rfl (by simp) ?_
  refine awp_posG fun hpos => ?_
  (repeat' (first | refine qS ?_ | (refine w_e [] ?_; intro J hJ; simp only []; simp []; (try (refine hJ _ _ ?_; clear hJ J; simp only [ak, reduceIte])))))
  refine qE (rCloneM m _ (by omega) (by omega) hr hm.sm) (by simp) ?_; rintro r s1 ⟨lv, le, lr, rfl, hat, l1, l2, l3, hk1⟩
  simp only [new_next] at l1 l2 l3
  have hn1 := hk1.next
  simp only [new_next] at hn1
  have hR1 : s1.H (st.next + 1) = .box 28 3 [.nil, .nil, .nil] := by rw [hk1.H _ (by simp)]; simp
  have hkp1 : Keeps st s1 := ((Keeps.new _ _).trans (Keeps.new _ _)).trans hk1
  have h1 := hat.v0
  have h2 := hat.e0
  have h3 := hat.r0
  have hdr : DrB (st.next + 2) s1.next m (s1.new (.box 61 3 (mpM lv le lr m))) := ⟨⟨lv, le, lr, ⟨by simp, ⟨by simp [show ¬ lv = s1.next by omega, hat.v], by simp [show ¬ le = s1.next by omega, hat.e], by simp [show ¬ lr = s1.next by omega, hat.r], by simp; omega, by simp; omega, by simp; omega⟩, by simp⟩, by omega, by omega, by omega⟩, by omega⟩
  have hk2 : KB (st.next + 2) s1 (s1.new (.box 61 3 (mpM lv le lr m))) := (Keeps.new _ _).kb (by omega)
  obtain ⟨D, hD⟩ : ∃ D, D = s1.next := ⟨_, rfl⟩
  obtain ⟨s2, hs2⟩ : ∃ s2, s2 = s1.new (.box 61 3 (mpM lv le lr m)) := ⟨_, rfl⟩
  rw [← hs2, ← hD] at hdr
  rw [← hs2] at hk2
  have hn2 : s2.next = D + 1 := by rw [hs2, hD]; rfl
  unfold mpM at hs2 ⊢
  (repeat' (first | refine qS ?_ | refine qB ?_ | ((first | (refine w_e [] ?_; intro J hJ; simp only []) | (refine e_go ?_)); simp []; (refine hJ _ _ ?_; clear hJ J; simp only [ak, reduceIte]))))
  rw [← hs2, ← hD]
  have hR2 : s2.H (st.next + 1) = .box 28 3 [.nil, .nil, .nil] := by rw [hk2.H _ (by omega)]; exact hR1
  have hk3 : Keeps st s2 := ⟨Nat.le_trans hkp1.next hk2.next, fun x hx => (hk2.H x (by omega)).trans (hkp1.H x hx)⟩
  clear hs2 hk2 hR1 hkp1 hn1 hk1 hat h1 h2 h3 l1 l2 l3
  refine awp_range 17 16 18 30 (l.length) (fun j fr st2 => fr 4 = .pt (st.next + 1) 0 ∧ fr 7 = .pt D 0 ∧ fr 1 = .sl t l.length (sps l) ∧ fr 15 = .sl t l.length (sps l) ∧ DrB (st.next + 2) D (aft m (l.take j)) st2 ∧ DoTo m l j ∧ st2.H (st.next + 1) = .box 28 3 [.nil, .nil, .nil] ∧ Keeps st st2 ∧ D < st2.next) ?_ ?_ ?_
  · exact ⟨by simp, by simp, by simp, by simp, hdr, fun i hi => by omega, hR2, hk3, by omega⟩
  · clear hR2 hk3 hdr
    rintro j fr s hlt ⟨f4, f7, f1, f15, hdr, hto, hR, hkp, hDn⟩ fi fn JO hJO
    have hd := sps_drop l j hlt
    have hj6 : j * 6 < l.length * 6 := by omega
    have hdw := (hto.drw hm j (by omega)).1
    have hax := aft_take (m := m) hlt
    have hsc := hto.succ (j := j)
    have hB0 := hdr.B0
    have hstp := fun st' h hB => stepS (st.next + 2) D (aft m (l.take j)) (l.getD j sp0) st' h hB hdw
    have herr : stpW (aft m (l.take j)) (l.getD j sp0) ≠ 0 → DoQ m l (.tu [.ag (mpL nilMp), i j, i (stpW (aft m (l.take j)) (l.getD j sp0))]) := fun hne => .inr ⟨j, hlt, hto, hne, rfl⟩
    rw [hax] at hJO
    generalize l.getD j sp0 = y at *
    generalize hmj : aft m (l.take j) = mj at *
    obtain ⟨y1, y2, y3, y4, y5, y6⟩ := y
    simp only [spL] at hd hstp
    (repeat' (first | refine qS ?_ | (refine w_e [] ?_; intro J hJ; simp only []; simp [f4, f7, f1, f15, fi, fn, hd, hj6, hlt, hsl]; (try (refine hJ _ _ ?_; clear hJ J; simp only [ak, reduceIte])))))
    refine qE (hstp _ (hdr.keeps (Keeps.new _ _)) (by simp; omega)) (by simp) ?_; rintro r s3 ⟨rfl, k1, k2⟩
    have hn3 := k2.next
    simp only [new_next] at hn3
    have hR3 : s3.H (st.next + 1) = .box 28 3 [.nil, .nil, .nil] := by rw [k2.H _ (by omega)]; simp [show ¬ st.next + 1 = s.next by omega, hR]
    have hkp3 : Keeps st s3 := ⟨by have := hkp.next; omega, fun x hx => by rw [k2.H x (by omega), new_H, if_neg (by have := hkp.next; omega)]; exact hkp.H x hx⟩
    by_cases hz : stpW mj ⟨y1, y2, y3, y4, y5, y6⟩ = 0
    · have h1 := k1 hz
      have h2 := hsc hz
      rw [hz]
      (repeat' (first | refine qS ?_ | (refine qK ?_; simp only [ak, reduceIte]) | (refine qC ?_; simp []) | ((first | (refine w_e [] ?_; intro J hJ; simp only []) | (refine e_go ?_)); simp []; (refine hJ _ _ ?_; clear hJ J; simp only [ak, reduceIte]))))
      exact hJO _ _ (by simp [fi]) (by simp [fn]) ⟨by simp [f4], by simp [f7], by simp [f1], by simp [f15], h1, h2, hR3, hkp3, by omega⟩
    · have hE := herr hz
      generalize stpW mj ⟨y1, y2, y3, y4, y5, y6⟩ = e at *
      have hzb : (e != 0) = true := by simpa using hz
      (repeat' (first | refine qS ?_ | (refine qR ?_; simp only [ak, reduceIte]; simp [hz, hzb, f4, hR3]) | (refine qC ?_; simp [hz, hzb, f4, hR3]) | ((first | (refine w_e [] ?_; intro J hJ; simp only []) | (refine e_go ?_)); simp [hz, hzb, f4, hR3]; (refine hJ _ _ ?_; clear hJ J; simp only [ak, reduceIte]))))
      exact ⟨_, _, frz_tu (frzL_cons (frz_ag (frzL_cons (frz_norm _ _) (frzL_cons (frz_norm _ _) (frzL_cons (frz_norm _ _) (frzL_same _ _))))) (frzL_same _ _)), hE, hkp3.set (by omega) _⟩
  · clear hR2 hk3 hdr
    rintro fr s ⟨f4, f7, f1, f15, ⟨⟨lv', le', lr', hI, b⟩, hB0⟩, hto, hR, hkp, hDn⟩
    rw [List.take_length] at hI
    have hne := hI.ne
    have hD1 := hI.d
    unfold mpM at hD1
    obtain ⟨d1, d2, d3, d4, d5, d6⟩ := hne
    have hat := hI.at'
    have n1 := hat.v0
    have n2 := hat.e0
    have n3 := hat.r0
    (repeat' (first | refine qS ?_ | (refine qR ?_; simp only [ak, reduceIte]; simp [f1, f4, f7, hD1, hR]) | (refine w_e [] ?_; intro J hJ; simp only []; simp [f1, f4, f7, hD1, hR]; (refine hJ _ _ ?_; clear hJ J; simp only [ak, reduceIte]))))
    refine ⟨_, _, frz_tu (frzL_cons (frz_mp (m := aft m l) ⟨?_, ?_, ?_, ?_, ?_, ?_⟩ d4 d5 d6) (frzL_same _ _)), .inl ⟨hto, rfl⟩, ⟨?_, fun x hx => ?_⟩⟩
    · rw [set_H, if_neg (by omega)]; exact hat.v
    · rw [set_H, if_neg (by omega)]; exact hat.e
    · rw [set_H, if_neg (by omega)]; exact hat.r
    · simpa using n1
    · simpa using n2
    · simpa using n3
    · simp only [set_next]; exact hkp.next
    · rw [set_H, if_neg (by omega), set_H, if_neg (by omega), set_H, if_neg (by omega), set_H, if_neg (by omega)]
      exact hkp.H x hx
theorem Do (m : Mp) (l : List Sp) (t : Nat) (st : St) (hm : Drw m) (hl : l.length ≤ 100000) :
    ACalls Tryz.prog 10 [.ag (mpL m), .sl t l.length (sps l)] st fun r st' => DoQ m l r ∧ st' = st :=
  qT (Q := DoQ m l) (DoK m l t st hm hl) fun r h => by
    rcases h with ⟨_, rfl⟩ | ⟨j, _, _, _, rfl⟩
    · exact ⟨bel_mpL _ _, trivial, trivial, trivial⟩
    · exact ⟨bel_mpL _ _, trivial, trivial, trivial⟩
end Go.Proofs.YtglkgindpjdoiaaGreat.Aw
namespace Go.Proofs.YtglkgindpjdoiaaGreat.Aw
open Go Go.RowKit Go.Proofs.YtglkgindpjdoiaaGreat.Pl
set_option linter.unusedSimpArgs false
set_option linter.unusedVariables false
theorem awake17 (st : St) : ACalls Tryz.prog 19 [] st fun r st' => r = bb true ∧ st' = st :=
  acalls_closed tabOk fnsOk prim_ok mixed 1000000 true (by kernel_rfl)
theorem ref_rRightC (m : Mp) (st : St) (hr : m.rots.length ≤ 1000) (he : m.g.es.length ≤ 1000) : ACalls Tryz.prog 9 [.ag (mpL m)] st fun r st' => r = i (rright m) ∧ Keeps st st' := by
  by_cases hv : m.g.vs.length ≤ 1000
  · exact ref_rRight m st hv he hr
  · have hc : rchk m ≠ 0 := fun h => hv (Nat.le_trans (chk_smallC h) (by omega))
    have hrc : rright m = rchk m := by unfold rright; rw [if_pos hc]
    refine qO tabOk Tryz.func9 rfl rfl Tryz.ntmps9 (rs := [.tmp 2]) rfl (by simp) ?_
    (repeat' (first | refine qS ?_ | (refine w_e [] ?_; intro J hJ; simp only []; simp []; (try (refine hJ _ _ ?_; clear hJ J; simp only [ak, reduceIte])))))
    refine qE (ref_rCheckC m _ hr he) (by simp) ?_; rintro r s1 ⟨rfl, hk1⟩
    generalize rchk m = x at *
    have hcb : (x == 0) = false := by simpa using hc
    (repeat' (first | refine qS ?_ | (refine qK ?_; simp only [ak, reduceIte]) | (refine qR ?_; simp only [ak, reduceIte]; simp [hcb, hc, hrc]) | (refine qC ?_; simp [hcb, hc, hrc]) | ((first | (refine w_e [] ?_; intro J hJ; simp only []) | (refine e_go ?_)); simp [hcb, hc, hrc]; (refine hJ _ _ ?_; clear hJ J; simp only [ak, reduceIte]))))
    exact (Keeps.new _ _).trans hk1
theorem rRightC' (m : Mp) (st : St) (hr : m.rots.length ≤ 1000) (he : m.g.es.length ≤ 1000) :
    ACalls Tryz.prog 9 [.ag (mpL m)] st fun r st' => r = i (rright m) ∧ st' = st :=
  qT (Q := fun r => r = i (rright m)) (ref_rRightC m st hr he) fun r h => by subst h; trivial
theorem light17K (m : Mp) (st : St) : ACalls Tryz.prog 20 [.ag (mpL m)] st fun r st' => r = bb (lit17 m) ∧ Keeps st st' := by
  refine qO tabOk Tryz.func20 rfl rfl Tryz.ntmps20 (rs := [.tmp 2]) rfl (by simp) ?_
  by_cases h1 : (m.g.es.length : Int) ≤ 30
  rotate_left
  · have hf : lit17 m = false := by unfold lit17; simp; omega
    (repeat' (first | refine qS ?_ | (refine qR ?_; simp only [ak, reduceIte]; simp [h1, hf]) | (refine w_e [] ?_; intro J hJ; simp only []; simp [h1, hf]; (refine hJ _ _ ?_; clear hJ J; simp only [ak, reduceIte]))))
    exact Keeps.new _ _
  by_cases h2 : (m.rots.length : Int) ≤ 64
  rotate_left
  · have hf : lit17 m = false := by unfold lit17; simp; omega
    (repeat' (first | refine qS ?_ | (refine qR ?_; simp only [ak, reduceIte]; simp [h1, h2, hf]) | (refine w_e [] ?_; intro J hJ; simp only []; simp [h1, h2, hf]; (refine hJ _ _ ?_; clear hJ J; simp only [ak, reduceIte]))))
    exact Keeps.new _ _
  (repeat' (first | refine qS ?_ | (refine w_e [] ?_; intro J hJ; simp only []; simp [h1, h2]; (try (refine hJ _ _ ?_; clear hJ J; simp only [ak, reduceIte])))))
  refine qE (rRightC' m _ (by omega) (by omega)) (by simp) ?_; rintro r s1 ⟨rfl, h1⟩
  rw [h1]; clear h1 s1
  have hf : lit17 m = decide (rright m = 0) := by
    unfold lit17
    rw [decide_eq_true (by omega), decide_eq_true (by omega)]; rfl
  by_cases hc : rright m = 0
  · (repeat' (first | (refine qR ?_; simp only [ak, reduceIte]; simp [hc, hf]) | (refine e_go ?_; simp [hc, hf]; (refine hJ _ _ ?_; clear hJ J; simp only [ak, reduceIte]))))
    exact Keeps.new _ _
  · rw [decide_eq_false hc] at hf
    generalize rright m = x at *
    have hcb : (x == 0) = false := by simpa using hc
    (repeat' (first | (refine qR ?_; simp only [ak, reduceIte]; simp [hcb, hc, hf]) | (refine e_go ?_; simp [hcb, hc, hf]; (refine hJ _ _ ?_; clear hJ J; simp only [ak, reduceIte]))))
    exact Keeps.new _ _
theorem light17 (m : Mp) (st : St) : ACalls Tryz.prog 20 [.ag (mpL m)] st fun r st' => r = bb (lit17 m) ∧ st' = st :=
  qT (Q := fun r => r = bb (lit17 m)) (light17K m st) fun r h => by subst h; trivial
theorem lit17_of {m : Mp} (h : lit17 m = true) : m.g.es.length ≤ 30 ∧ m.rots.length ≤ 64 ∧ rchk m = 0 ∧ gn m = 0 := by
  unfold lit17 at h
  simp only [Bool.and_eq_true, decide_eq_true_eq] at h
  obtain ⟨⟨h1, h2⟩, h3⟩ := h
  unfold rright at h3
  by_cases hc : rchk m = 0
  · rw [if_neg (fun e => e hc)] at h3
    by_cases hg : gn m = 0
    · exact ⟨h1, h2, hc, hg⟩
    · rw [if_pos hg] at h3; cases h3
  · rw [if_pos hc] at h3; exact absurd h3 hc
end Go.Proofs.YtglkgindpjdoiaaGreat.Aw
namespace Go.Proofs.YtglkgindpjdoiaaGreat.Aw
open Go Go.RowKit Go.Proofs.YtglkgindpjdoiaaGreat.Pl Go.Proofs.YtglkgindpjdoiaaGreat.Eu
set_option linter.unusedSimpArgs false
set_option linter.unusedVariables false
section
variable {m : Mp} (h : MapOk m) {x : Ed} {pa pb : Int} (hl : LinkOk m x pa pb)
include h hl
end
theorem do_one {m : Mp} {s : Sp} {r : LV} (h : DoQ m [s] r) : (stpW m s = 0 ∧ r = .tu [.ag (mpL (stpM m s)), i 1, i 0]) ∨ (stpW m s ≠ 0 ∧ r = .tu [.ag (mpL nilMp), i 0, i (stpW m s)]) := by
  rcases h with ⟨h1, rfl⟩ | ⟨j, hj, h1, h2, rfl⟩
  · exact .inl ⟨h1 0 (by simp), rfl⟩
  · obtain rfl : j = 0 := by simpa using hj
    exact .inr ⟨h2, rfl⟩
theorem noLinkW_zero {m : Mp} {id : Int} (h : noLinkW m id = 0) : (fe m.g.es id).toNat < m.g.es.length ∧ (m.g.es.getD (fe m.g.es id).toNat ed0).id = id := by
  unfold noLinkW at h
  split at h
  · cases h
  · rename_i k
    obtain ⟨h1, _, h2⟩ := fe_lt m.g.es id k
    exact ⟨h1, h2⟩
theorem cyc_filter {a b : List Int} (h : Cyc a b) (p : Int → Bool) : Cyc (a.filter p) (b.filter p) := by
  obtain ⟨k, hk, rfl⟩ := h
  refine ⟨((a.take k).filter p).length, ?_, ?_⟩
  · have := List.take_append_drop k a
    conv => rhs; rw [← this, List.filter_append, List.length_append]
    omega
  · unfold rt
    have e : a.filter p = (a.take k).filter p ++ (a.drop k).filter p := by rw [← List.filter_append, List.take_append_drop]
    rw [List.filter_append, e, List.drop_left, List.take_left]
theorem keptR_facts (a b : Mp) : (∀ i ∈ keptR a b, ∃ x ∈ a.g.es, x ∈ b.g.es ∧ x.id = i) ∧ ∀ v, sameW a b (keptR a b) v = true := by
  have key : ∀ (l : List Ed) (K : List Int), (∀ x ∈ l, x ∈ a.g.es) → (∀ i ∈ K, ∃ x ∈ a.g.es, x ∈ b.g.es ∧ x.id = i) → (∀ v, sameW a b K v = true) →
      (∀ i ∈ l.foldl (keepR a b) K, ∃ x ∈ a.g.es, x ∈ b.g.es ∧ x.id = i) ∧ ∀ v, sameW a b (l.foldl (keepR a b) K) v = true := by
    intro l
    induction l with
    | nil => intro K _ h1 h2; exact ⟨h1, h2⟩
    | cons x l ih =>
      intro K hl h1 h2
      rw [List.foldl_cons]
      have hl2 := fun y hy => hl y (List.mem_cons_of_mem x hy)
      by_cases hc : x ∈ b.g.es ∧ alikeW a b (K ++ [x.id]) = true
      · have e : keepR a b K x = K ++ [x.id] := by unfold keepR; rw [if_pos hc]
        rw [e]
        refine ih _ hl2 (fun i hi => ?_) (alike_all.1 hc.2)
        rw [List.mem_append, List.mem_singleton] at hi
        rcases hi with hi | rfl
        · exact h1 i hi
        · exact ⟨x, hl x (by simp), hc.1, rfl⟩
      · have e : keepR a b K x = K := by unfold keepR; rw [if_neg hc]
        rw [e]
        exact ih _ hl2 h1 h2
  exact key a.g.es [] (fun x hx => hx) (by simp) fun v => by
    have e : ∀ m : Mp, tnW m v [] = [] := fun m => by unfold tnW; rw [List.filter_eq_nil_iff]; intro d _; simp
    unfold sameW; rw [e, e]; simp
section
variable {a b : Mp} (ha : Drw a) (hb : Drw b)
include ha hb
end
def lkW (b : Mp) (K : List Int) : List Int → List Ed → List Sp
  | _, [] => []
  | T, x :: l => if x.id ∈ K then lkW b K T l else ⟨3, x.id, x.a, x.b, aheadW b x.a (2 * x.id) (T ++ [x.id]), aheadW b x.b (2 * x.id + 1) (T ++ [x.id])⟩ :: lkW b K (T ++ [x.id]) l
theorem lkW_cons (b : Mp) (K T : List Int) (x : Ed) (l : List Ed) : lkW b K T (x :: l) = if x.id ∈ K then lkW b K T l else ⟨3, x.id, x.a, x.b, aheadW b x.a (2 * x.id) (T ++ [x.id]), aheadW b x.b (2 * x.id + 1) (T ++ [x.id])⟩ :: lkW b K (T ++ [x.id]) l := rfl
theorem lk_out (b : Mp) (K : List Int) : ∀ (l : List Ed) (S : Lk), (l.foldl (link1 b K) S).out = S.out ++ lkW b K S.T l
  | [], S => by simp [lkW]
  | x :: l, S => by
    rw [List.foldl_cons, lk_out b K l, lkW_cons]
    unfold link1
    by_cases h : x.id ∈ K
    · rw [if_pos h, if_pos h]
    · rw [if_neg h, if_neg h]
      simp
theorem row_in {m : Mp} (h : MapOk m) {v : Int} (h0 : rowW m v ≠ []) : v ∈ m.g.vs ∧ rowW m v ∈ m.rots ∧ nrm (rowW m v) = rowW m v := by
  unfold rowW at h0 ⊢
  by_cases hv : v ∈ m.g.vs
  · rw [if_pos hv]
    have hi := List.idxOf_lt_length_of_mem hv
    refine ⟨hv, ?_, (h.ok _ hi).2⟩
    rw [getR_lt _ _ (by rw [h.len]; exact hi)]
    exact List.getElem_mem _
  · rw [if_neg hv] at h0; exact absurd rfl h0
theorem row_same {a m : Mp} (h : MapOk a) (h' : MapOk m) (he : m.g.es = a.g.es) (hs : ∀ d, sg m d = sg a d) (v : Int) : rowW a v = rowW m v := by
  have hm : ∀ x, x ∈ rowW a v ↔ x ∈ rowW m v := fun x => by rw [row_ends h, row_ends h', he]
  by_cases h0 : rowW a v = []
  · rw [h0]
    symm
    rw [List.eq_nil_iff_forall_not_mem]
    intro x hx
    have := (hm x).2 hx
    rw [h0] at this; simp at this
  have h0' : rowW m v ≠ [] := fun e => by
    have := (hm _).1 (mn_mem h0)
    rw [e] at this; simp at this
  obtain ⟨_, i1, n1⟩ := row_in h h0
  obtain ⟨_, i2, n2⟩ := row_in h' h0'
  obtain ⟨r, hr⟩ := head_mn n1 h0
  obtain ⟨r', hr'⟩ := head_mn n2 h0'
  have c1 := h.turn_cyc i1 hr
  have c2 := h'.turn_cyc i2 hr'
  rw [← mn_same hm h0, show sg m = sg a from funext hs] at c2
  exact c1.unique c2
theorem same_less {n : Mp} (h : MapOk n) {id : Int} {K : List Int} (hK : id ∉ K) (v : Int) : nrm (tnW (lessM n id) v K) = nrm (tnW n v K) := by
  unfold tnW rowW
  by_cases hv : v ∈ n.g.vs
  · have hi := List.idxOf_lt_length_of_mem hv
    have hlen := h.len
    rw [if_pos hv, if_pos (show v ∈ (lessM n id).g.vs from hv)]
    have e : (lessM n id).rots.getD ((lessM n id).g.vs.idxOf v) [] = nrm (wo (n.rots.getD (n.g.vs.idxOf v) []) [2 * id, 2 * id + 1]) := by
      show (n.rots.map _).getD (n.g.vs.idxOf v) [] = _
      simp [List.getD_eq_getElem?_getD, show n.g.vs.idxOf v < n.rots.length by omega]
    rw [e]
    have hn := h.nodup (show n.rots.getD (n.g.vs.idxOf v) [] ∈ n.rots by rw [getR_lt _ _ (by omega)]; exact List.getElem_mem _)
    generalize n.rots.getD (n.g.vs.idxOf v) [] = t at *
    have hc := cyc_filter (cyc_nrm (wo t [2 * id, 2 * id + 1])) fun d => decide (d / 2 ∈ K)
    have hw : (wo t [2 * id, 2 * id + 1]).filter (fun d => decide (d / 2 ∈ K)) = t.filter fun d => decide (d / 2 ∈ K) := by
      rw [wo_half, List.filter_filter]
      refine List.filter_congr fun d _ => ?_
      rw [Bool.eq_iff_iff]
      simp only [Bool.and_eq_true, decide_eq_true_eq]
      exact ⟨fun q => q.1, fun q => ⟨q, fun e => hK (e ▸ q)⟩⟩
    rw [hw] at hc
    rw [nrm_cyc hc (hn.filter _)]
  · rw [if_neg hv, if_neg (show v ∉ (lessM n id).g.vs from hv)]
theorem kept_full {a m : Mp} (hs : ∀ K : List Int, (∀ i ∈ K, ∃ x ∈ a.g.es, x ∈ m.g.es ∧ x.id = i) → ∀ v, sameW a m K v = true) : keptR a m = (a.g.es.filter fun x => decide (x ∈ m.g.es)).map (·.id) := by
  have key : ∀ (l : List Ed) (K : List Int), (∀ x ∈ l, x ∈ a.g.es) → (∀ i ∈ K, ∃ x ∈ a.g.es, x ∈ m.g.es ∧ x.id = i) → l.foldl (keepR a m) K = K ++ (l.filter fun x => decide (x ∈ m.g.es)).map (·.id) := by
    intro l
    induction l with
    | nil => intro K _ _; simp
    | cons x l ih =>
      intro K hl hK
      have hl2 := fun y hy => hl y (List.mem_cons_of_mem x hy)
      rw [List.foldl_cons]
      by_cases hx : x ∈ m.g.es
      · have hK2 : ∀ i ∈ K ++ [x.id], ∃ y ∈ a.g.es, y ∈ m.g.es ∧ y.id = i := fun i hi => by
          rw [List.mem_append, List.mem_singleton] at hi
          rcases hi with hi | rfl
          · exact hK i hi
          · exact ⟨x, hl x (by simp), hx, rfl⟩
        have e : keepR a m K x = K ++ [x.id] := by unfold keepR; rw [if_pos ⟨hx, alike_all.2 (hs _ hK2)⟩]
        rw [e, ih _ hl2 hK2, List.filter_cons, if_pos (by simpa using hx)]
        simp
      · have e : keepR a m K x = K := by unfold keepR; rw [if_neg fun q => hx q.1]
        rw [e, ih _ hl2 hK, List.filter_cons, if_neg (by simpa using hx)]
  have := key a.g.es [] (fun x hx => hx) (by simp)
  simpa [keptR] using this
theorem lk_skip {b : Mp} {K : List Int} : ∀ (l : List Ed) (T : List Int) (r : List Ed), (∀ y ∈ l, y.id ∈ K) → lkW b K T (l ++ r) = lkW b K T r
  | [], _, _, _ => rfl
  | y :: l, T, r, h => by
    rw [List.cons_append, lkW_cons, if_pos (h y (by simp))]
    exact lk_skip l T r fun z hz => h z (List.mem_cons_of_mem _ hz)
theorem lk_none {b : Mp} {K : List Int} {l : List Ed} (T : List Int) (h : ∀ y ∈ l, y.id ∈ K) : lkW b K T l = [] := by
  have := lk_skip (b := b) l T [] h
  rwa [List.append_nil] at this
theorem links_eq (b : Mp) (K : List Int) (l : List Ed) : (links b K l).out = lkW b K K l := by
  have := lk_out b K l ⟨K, []⟩
  simpa [links] using this
theorem filter_one {l : List Int} (hn : l.Nodup) {v : Int} (hv : v ∈ l) {p : Int → Bool} (hp : ∀ w ∈ l, p w = true ↔ w = v) : l.filter p = [v] := by
  have h1 : (l.filter p).Perm [v] := (List.perm_ext_iff_of_nodup (hn.filter _) (by simp)).2 fun w => by
    rw [List.mem_filter, List.mem_singleton]
    exact ⟨fun q => (hp w q.1).1 q.2, fun q => ⟨q ▸ hv, (hp w (q ▸ hv)).2 q⟩⟩
  exact List.perm_singleton.1 h1
theorem diff_short {a : Mp} (ha : Drw a) {s : Sp} (h0 : stpW a s = 0) : ∃ s', diffW a (stpM a s) (keptR a (stpM a s)) = [s'] ∧ s'.k = s.k ∧ s'.id = s.id := by
  have hmd := (step_drw ha h0).1
  unfold stpW at h0
  by_cases hf : formW s = 0
  rotate_left
  · rw [if_pos hf] at h0; exact absurd h0 hf
  rw [if_neg (fun k => k hf)] at h0
  have hid := formW_id hf
  have allK : ∀ {m : Mp}, m.g.es = a.g.es → keptR a m = (a.g.es.filter fun x => decide (x ∈ m.g.es)).map (·.id) → ∀ y ∈ a.g.es, y.id ∈ keptR a m := fun he hk y hy => by
    rw [hk]
    exact List.mem_map_of_mem (List.mem_filter.2 ⟨hy, by rw [he]; simpa using hy⟩)
  have gone0 : ∀ {K : List Int}, (∀ y ∈ a.g.es, y.id ∈ K) → gone a K = [] := fun h => by
    unfold gone
    rw [List.filter_eq_nil_iff.2 fun x hx => by simpa using h x hx]
    rfl
  by_cases h1 : s.k = 1
  · rw [if_pos h1] at h0
    have e1 : stpM a s = addV a s.id := by unfold stpM; rw [if_pos h1]
    rw [e1] at hmd ⊢
    obtain ⟨k1, k2⟩ := vertexW_zero h0
    have hp := mid_perm a.g.vs (lss a.g.vs s.id) s.id
    have hkf := kept_full (a := a) (m := addV a s.id) fun K _ v => by
      unfold sameW tnW
      rw [row_same ha.ok hmd.ok rfl (addV_sg ha) v]
      simp
    have hall := allK (m := addV a s.id) rfl hkf
    have hl : lessV a (addV a s.id) = [] := by
      unfold lessV
      rw [List.filter_eq_nil_iff.2 fun x hx => by
        have : x ∈ (addV a s.id).g.vs := hp.mem_iff.2 (List.mem_cons_of_mem _ hx)
        simpa using this]
      rfl
    have hm : moreV a (addV a s.id) = [⟨1, s.id, 0, 0, 0, 0⟩] := by
      unfold moreV
      rw [filter_one (rise_nodup hmd.ok.g.rise) (v := s.id) (hp.mem_iff.2 (by simp)) fun w hw => by
        have := hp.mem_iff.1 hw
        rw [List.mem_cons] at this
        rw [decide_eq_true_eq]
        constructor
        · intro q
          rcases this with e | e
          · exact e
          · exact absurd e q
        · rintro rfl; exact k1]
      rfl
    have hk : lkW (addV a s.id) (keptR a (addV a s.id)) (keptR a (addV a s.id)) (addV a s.id).g.es = [] := lk_none _ hall
    refine ⟨⟨1, s.id, 0, 0, 0, 0⟩, ?_, h1.symm, rfl⟩
    unfold diffW
    rw [gone0 hall, hl, hm, links_eq, hk]
    rfl
  rw [if_neg h1] at h0
  by_cases h2 : s.k = 2
  · rw [if_pos h2] at h0
    have e1 : stpM a s = delV a s.id := by unfold stpM; rw [if_neg h1, if_pos h2]
    rw [e1] at hmd ⊢
    obtain ⟨k1, k2⟩ := noVertexW_zero h0
    have hp := del_perm ha k1 k2
    have hout := del_out ha k1 k2
    have hkf := kept_full (a := a) (m := delV a s.id) fun K _ v => by
      unfold sameW tnW
      rw [row_same ha.ok hmd.ok rfl (fun d => (delV_sg ha k1 k2 d).symm) v]
      simp
    have hall := allK (m := delV a s.id) rfl hkf
    have hm : moreV a (delV a s.id) = [] := by
      unfold moreV
      rw [List.filter_eq_nil_iff.2 fun x hx => by
        have : x ∈ a.g.vs := hp.mem_iff.2 (List.mem_cons_of_mem _ hx)
        simpa using this]
      rfl
    have hl : lessV a (delV a s.id) = [⟨2, s.id, 0, 0, 0, 0⟩] := by
      unfold lessV
      rw [filter_one (rise_nodup ha.ok.g.rise) (v := s.id) k1 fun w hw => by
        have := hp.mem_iff.1 hw
        rw [List.mem_cons] at this
        rw [decide_eq_true_eq]
        constructor
        · intro q
          rcases this with e | e
          · exact e
          · exact absurd e q
        · rintro rfl; exact hout]
      rfl
    have hk : lkW (delV a s.id) (keptR a (delV a s.id)) (keptR a (delV a s.id)) (delV a s.id).g.es = [] := lk_none _ hall
    refine ⟨⟨2, s.id, 0, 0, 0, 0⟩, ?_, h2.symm, rfl⟩
    unfold diffW
    rw [gone0 hall, hl, hm, links_eq, hk]
    rfl
  rw [if_neg h2] at h0
  have vs0 : ∀ {m : Mp}, m.g.vs = a.g.vs → lessV a m = [] ∧ moreV a m = [] := fun he => by
    unfold lessV moreV
    rw [he]
    constructor
    · rw [List.filter_eq_nil_iff.2 fun x hx => by simpa using hx]; rfl
    · rw [List.filter_eq_nil_iff.2 fun x hx => by simpa using hx]; rfl
  by_cases h3 : s.k = 3
  · rw [if_pos h3] at h0
    have e1 : stpM a s = linkM a ⟨s.id, s.a, s.b⟩ s.pa s.pb := by unfold stpM; rw [if_neg h1, if_neg h2, if_pos h3]
    rw [e1] at hmd ⊢
    obtain ⟨hl, _, _⟩ := linkW_zero ha hid h0
    have hless := link_less ha.ok hl
    have hin := link_in ha.ok hl
    have hpe := insE_perm a.g.es ⟨s.id, s.a, s.b⟩
    simp only at hless
    have hv := vs0 (m := linkM a ⟨s.id, s.a, s.b⟩ s.pa s.pb) rfl
    have hkf := kept_full (a := a) (m := linkM a ⟨s.id, s.a, s.b⟩ s.pa s.pb) fun K hK v => by
      unfold sameW
      have hni : s.id ∉ K := fun hi => by
        obtain ⟨y, hy, _, e⟩ := hK _ hi
        exact hl.new y hy e
      have := same_less hmd.ok hni v
      rw [hless] at this
      rw [this]; simp
    have hall : ∀ y ∈ a.g.es, y.id ∈ keptR a (linkM a ⟨s.id, s.a, s.b⟩ s.pa s.pb) := fun y hy => by
      rw [hkf]
      refine List.mem_map_of_mem (List.mem_filter.2 ⟨hy, ?_⟩)
      have : y ∈ (linkM a ⟨s.id, s.a, s.b⟩ s.pa s.pb).g.es := hpe.mem_iff.2 (List.mem_append_left _ hy)
      simpa using this
    have hnk : s.id ∉ keptR a (linkM a ⟨s.id, s.a, s.b⟩ s.pa s.pb) := fun hi => by
      obtain ⟨y, hy, _, e⟩ := (keptR_facts _ _).1 _ hi
      exact hl.new y hy e
    have hes : (linkM a ⟨s.id, s.a, s.b⟩ s.pa s.pb).g.es = a.g.es.take (plE a.g.es s.id) ++ ⟨s.id, s.a, s.b⟩ :: a.g.es.drop (plE a.g.es s.id) := rfl
    generalize linkM a ⟨s.id, s.a, s.b⟩ s.pa s.pb = m at *
    unfold diffW
    rw [gone0 hall, hv.1, hv.2, links_eq, hes, lk_skip _ _ _ fun y hy => hall y (List.mem_of_mem_take hy), lkW_cons, if_neg hnk, lk_none _ fun y hy => hall y (List.mem_of_mem_drop hy)]
    exact ⟨_, rfl, h3.symm, rfl⟩
  rw [if_neg h3] at h0
  have h4 : s.k = 4 := by
    unfold formW at hf
    split at hf
    · cases hf
    · rename_i q; omega
  have e1 : stpM a s = lessM a s.id := by unfold stpM; rw [if_neg h1, if_neg h2, if_neg h3]
  rw [e1] at hmd ⊢
  obtain ⟨k1, k2⟩ := noLinkW_zero h0
  have hx : a.g.es.getD (fe a.g.es s.id).toNat ed0 ∈ a.g.es := by rw [getE_lt _ _ k1]; exact List.getElem_mem _
  generalize a.g.es.getD (fe a.g.es s.id).toNat ed0 = x at *
  have hv := vs0 (m := lessM a s.id) rfl
  have hmem : ∀ y, y ∈ (lessM a s.id).g.es ↔ y ∈ a.g.es ∧ y.id ≠ s.id := fun y => by
    show y ∈ a.g.es.filter _ ↔ _
    rw [List.mem_filter]; simp
  have hkf := kept_full (a := a) (m := lessM a s.id) fun K hK v => by
    unfold sameW
    have hni : s.id ∉ K := fun hi => by
      obtain ⟨y, hy, hy2, e⟩ := hK _ hi
      exact ((hmem y).1 hy2).2 e
    have := same_less ha.ok hni v
    rw [this]; simp
  have hkm : ∀ y ∈ a.g.es, (y.id ∈ keptR a (lessM a s.id) ↔ y.id ≠ s.id) := fun y hy => by
    rw [hkf, List.mem_map]
    constructor
    · rintro ⟨z, hz, e⟩
      have := (hmem z).1 (by simpa using (List.mem_filter.1 hz).2)
      rw [← e]; exact this.2
    · intro hne
      exact ⟨y, List.mem_filter.2 ⟨hy, by simpa using (hmem y).2 ⟨hy, hne⟩⟩, rfl⟩
  have hg : gone a (keptR a (lessM a s.id)) = [⟨4, s.id, 0, 0, 0, 0⟩] := by
    unfold gone
    have e : (a.g.es.filter fun y => decide (y.id ∉ keptR a (lessM a s.id))) = [x] := by
      have hp : (a.g.es.filter fun y => decide (y.id ∉ keptR a (lessM a s.id))).Pairwise (fun x y => x.id < y.id) := ha.ok.g.ids.sublist List.filter_sublist
      refine es_ext hp (by simp) fun y => ?_
      rw [List.mem_filter, List.mem_singleton, decide_eq_true_eq]
      constructor
      · rintro ⟨hy, hk⟩
        rw [hkm y hy] at hk
        exact id_eq ha.ok.g.ids hy hx (by rw [k2]; exact Classical.not_not.1 hk)
      · rintro rfl
        refine ⟨hx, fun hk => ?_⟩
        rw [hkm _ hx] at hk
        exact hk k2
    rw [e]
    simp [k2]
  have hk : lkW (lessM a s.id) (keptR a (lessM a s.id)) (keptR a (lessM a s.id)) (lessM a s.id).g.es = [] := lk_none _ fun y hy => (hkm y ((hmem y).1 hy).1).2 ((hmem y).1 hy).2
  unfold diffW
  rw [hg, hv.1, hv.2, links_eq, hk]
  exact ⟨_, rfl, h4.symm, rfl⟩
theorem awp_weakS {P : Program} {N : Nat} {Q : AQ} {c : Code} {fr : Frm} {st : St} (I : Frm → St → Prop) (h0 : I fr st) (h : ∀ fr st, I fr st → AWp P N c Q fr st) : AWp P N c Q fr st := h _ _ h0
theorem shp_sp {lvs : List LV} (h : Shp tab 38 lvs) : ∃ s : Sp, lvs = spL s := by
  obtain ⟨ps, rfl, h1, h2⟩ := shp_struct rfl rfl h
  match ps, h1 with
  | [p0, p1, p2, p3, p4, p5], _ =>
    obtain ⟨k, rfl, _⟩ := shp_int rfl rfl (h2 0 _ p0 rfl rfl)
    obtain ⟨n, rfl, _⟩ := shp_u (h2 1 _ p1 rfl rfl)
    obtain ⟨a, rfl, _⟩ := shp_u (h2 2 _ p2 rfl rfl)
    obtain ⟨b, rfl, _⟩ := shp_u (h2 3 _ p3 rfl rfl)
    obtain ⟨c, rfl, _⟩ := shp_u (h2 4 _ p4 rfl rfl)
    obtain ⟨d, rfl, _⟩ := shp_u (h2 5 _ p5 rfl rfl)
    exact ⟨⟨k, n, a, b, c, d⟩, rfl⟩
theorem rRightP (m : Mp) (h : Drw m) (st : St) : ACalls Tryz.prog 25 [.ag (mpL m)] st fun r st' => r = i (rright m) ∧ st' = st :=
  qT (Q := fun r => r = i (rright m)) (rRight m st (by have := h.v; omega) (by have := h.e; omega) (by have := h.v; rw [h.ok.len]; omega) fun t ht => by have := h.ok.row_le ht; have := h.e; omega) fun r h => by subst h; trivial
theorem doQ_bel {m : Mp} {l : List Sp} {n : Nat} {r : LV} (h : DoQ m l r) : bel n r := by
  rcases h with ⟨_, rfl⟩ | ⟨j, _, _, _, rfl⟩
  · exact ⟨bel_mpL _ _, trivial, trivial, trivial⟩
  · exact ⟨bel_mpL _ _, trivial, trivial, trivial⟩
theorem doQ_tu {m : Mp} {l : List Sp} {r : LV} (h : DoQ m l r) : ∃ n k e, r = .tu [.ag (mpL n), i k, i e] := by
  rcases h with ⟨_, rfl⟩ | ⟨j, _, _, _, rfl⟩
  · exact ⟨_, _, _, rfl⟩
  · exact ⟨_, _, _, rfl⟩
theorem sPatch (m : Mp) (l : List Sp) (t : Nat) (st : St) (hm : Drw m) (hg : gn m = 0) (hl : l.length ≤ 100000) :
    ACalls Tryz.prog 22 [.ag (mpL m), .sl t l.length (sps l)] st fun r st' => DoQ m l r ∧ st' = st := by
  refine qT (Q := DoQ m l) ?_ fun r h => doQ_bel h
  have hr : rright m = 0 := drw_right.2 ⟨hm, hg⟩
  have hsl := sps_length l
  refine qO tabOk Tryz.func22 rfl rfl Tryz.ntmps22 (rs := [.cell 4 28, .tmp 5, .tmp 6]) rfl (by simp) ?_
  refine awp_posG fun hpos => ?_
  have e1 : ¬ st.next + 1 = st.next := by omega
  (repeat' (first | refine qS ?_ | (refine w_e [] ?_; intro J hJ; simp only []; simp [e1]; (try (refine hJ _ _ ?_; clear hJ J; simp only [ak, reduceIte])))))
  refine qE (rRightP m hm _) (by simp) ?_; rintro r s1 ⟨rfl, h7⟩
  rw [h7, hr]; clear h7 s1
  (repeat' (first | refine qS ?_ | (refine qK ?_; simp only [ak, reduceIte]) | (refine qC ?_; simp [e1]) | ((first | (refine w_e [] ?_; intro J hJ; simp only []) | (refine e_go ?_)); simp [e1]; (try (refine hJ _ _ ?_; clear hJ J; simp only [ak, reduceIte])))))
  refine qE (Do m l t _ hm hl) (by simp) ?_; rintro r s1 ⟨hq, h7⟩
  rw [h7]; clear h7 s1
  obtain ⟨n, k, e, rfl⟩ := doQ_tu hq
  (repeat' (first | (refine qR ?_; simp only [ak, reduceIte]; simp [e1]) | (refine e_go ?_; simp [e1]; (refine hJ _ _ ?_; clear hJ J; simp only [ak, reduceIte]))))
  exact ⟨hq, ((Keeps.new _ _).trans (Keeps.new _ _)).set (by omega) _⟩
theorem lit_drw {m : Mp} (h : lit17 m = true) : Drw m ∧ gn m = 0 ∧ m.g.es.length ≤ 30 := by
  obtain ⟨h1, h2, h3, h4⟩ := lit17_of h
  have h0 : rright m = 0 := by unfold rright; rw [if_neg (fun k => k h3), if_neg (fun k => k h4)]
  exact ⟨(drw_right.1 h0).1, h4, h1⟩
theorem diff_len (a b : Mp) (K : List Int) : (diffW a b K).length ≤ a.g.es.length + a.g.vs.length + b.g.vs.length + b.g.es.length := by
  have h1 : ∀ (l : List Ed) (S : Lk), (l.foldl (link1 b K) S).out.length ≤ S.out.length + l.length := by
    intro l
    induction l with
    | nil => intro S; simp
    | cons x l ih =>
      intro S
      rw [List.foldl_cons]
      refine Nat.le_trans (ih _) ?_
      unfold link1
      split <;> simp <;> omega
  have h2 := h1 b.g.es ⟨K, []⟩
  have h3 := List.length_filter_le (fun x : Ed => decide (x.id ∉ K)) a.g.es
  have h4 := List.length_filter_le (fun v => decide (v ∉ b.g.vs)) a.g.vs
  have h5 := List.length_filter_le (fun v => decide (v ∉ a.g.vs)) b.g.vs
  unfold diffW gone lessV moreV links
  simp only [List.length_append, List.length_map, List.length_nil] at h2 ⊢
  omega
theorem step_es (a : Mp) (s : Sp) : (stpM a s).g.es.length ≤ a.g.es.length + 1 := by
  unfold stpM
  split
  · exact Nat.le_succ _
  split
  · exact Nat.le_succ _
  split
  · show (insE _ _).length ≤ _
    rw [insE_len]; exact Nat.le_refl _
  · exact Nat.le_trans (List.length_filter_le _ _) (Nat.le_succ _)
theorem patch_ex (a : Mp) (s : Sp) (ha : Drw a) (hg : gn a = 0) : ∃ n k e, (∀ t st, ACalls Tryz.prog 22 [.ag (mpL a), .sl t 1 (sps [s])] st fun r st' => r = .tu [.ag (mpL n), i k, i e] ∧ st' = st) ∧ ((e = 0 ∧ stpW a s = 0 ∧ n = stpM a s) ∨ e ≠ 0) := by
  by_cases h : stpW a s = 0
  · refine ⟨stpM a s, 1, 0, fun t st => (sPatch a [s] t st ha hg (by simp)).mono ?_, .inl ⟨rfl, h, rfl⟩⟩
    rintro r s' ⟨hq, h2⟩
    rcases do_one hq with ⟨_, hr⟩ | ⟨hn, _⟩
    · exact ⟨hr, h2⟩
    · exact absurd h hn
  · refine ⟨nilMp, 0, stpW a s, fun t st => (sPatch a [s] t st ha hg (by simp)).mono ?_, .inr h⟩
    rintro r s' ⟨hq, h2⟩
    rcases do_one hq with ⟨hn, _⟩ | ⟨_, hr⟩
    · exact absurd hn h
    · exact ⟨hr, h2⟩
set_option maxHeartbeats 8000000 in
theorem DiffShort (a b : Mp) (s : Sp) (st : St) : ACalls Tryz.prog 6 [.ag (mpL a), .ag (mpL b), .ag (spL s)] st fun r st' => r = bb true := by
  refine qO tabOk Tryz.func6 rfl rfl Tryz.ntmps6 (rs := [.tmp 6]) rfl (by simp) ?_
  refine awp_posG fun hpos => ?_
  have x1 : ¬ st.next = st.next + 1 := by omega
  have x2 : ¬ st.next = st.next + 1 + 1 := by omega
  have x3 : ¬ st.next + 1 = st.next + 1 + 1 := by omega
  (repeat' (first | refine qS ?_ | (refine w_e [] ?_; intro J hJ; simp only []; simp []; (try (refine hJ _ _ ?_; clear hJ J; simp only [ak, reduceIte])))))
  refine qE (awake17 _) (by simp []) ?_; rintro r st' ⟨rfl, rfl⟩
  (repeat' (first | refine qS ?_ | (refine qK ?_; simp only [ak, reduceIte]) | (refine qC ?_; simp [x1, x2, x3]) | ((first | (refine w_e [] ?_; intro J hJ; simp only []) | (refine e_go ?_)); simp [x1, x2, x3]; (try (refine hJ _ _ ?_; clear hJ J; simp only [ak, reduceIte])))))
  refine qE (light17 a _) (by simp) ?_; rintro r s1 ⟨rfl, h1⟩
  rw [h1]; clear h1 s1
  cases hf : lit17 a
  · (repeat' (first | refine qS ?_ | (refine qR ?_; simp only [ak, reduceIte]; simp []) | (refine qC ?_; simp []) | ((first | (refine w_e [] ?_; intro J hJ; simp only []) | (refine e_go ?_)); simp []; (refine hJ _ _ ?_; clear hJ J; simp only [ak, reduceIte]))))
  (repeat' (refine e_go ?_; simp [x1, x2, x3]))
  refine qE (light17 b _) (by simp) ?_; rintro r s1 ⟨rfl, h1⟩
  rw [h1]; clear h1 s1
  cases hf2 : lit17 b
  · (repeat' (first | refine qS ?_ | (refine qR ?_; simp only [ak, reduceIte]; simp []) | (refine qC ?_; simp []) | ((first | (refine w_e [] ?_; intro J hJ; simp only []) | (refine e_go ?_)); simp []; (refine hJ _ _ ?_; clear hJ J; simp only [ak, reduceIte]))))
  obtain ⟨ha, hga, la⟩ := lit_drw hf
  obtain ⟨hb, hgb, lb⟩ := lit_drw hf2
  have va := ha.v
  have vb := hb.v
  clear hf hf2
  obtain ⟨p, hp⟩ : ∃ p, p = st.next := ⟨_, rfl⟩
  (repeat' (first | refine qS ?_ | (refine qK ?_; simp only [ak, reduceIte]) | (refine qC ?_; simp []) | (refine e_go ?_; simp []; (refine hJ _ _ ?_; clear hJ J; simp only [ak, reduceIte]))))
  refine awp_weakS (fun f S => f 3 = .pt p 0 ∧ f 4 = .pt (p + 1) 0 ∧ f 5 = .pt (p + 2) 0 ∧ S.H p = .box 28 3 (mpL a) ∧ S.H (p + 1) = .box 28 3 (mpL b) ∧ S.H (p + 2) = .box 38 6 (spL s) ∧ S.next = p + 3) ?_ ?_
  · subst hp
    exact ⟨by simp, by simp, by simp, by simp [x1, x2, x3], by simp [x1, x2, x3], by simp [x1, x2, x3, spL], by simp⟩
  clear x1 x2 x3
  rintro fr S ⟨f3, f4, f5, hA, hB, hC, hn⟩
  have D1 := fun st => dDiff a b ha.ok hb.ok st (by omega) (by omega) (by omega) (by omega)
  rw [kept_same ha.ok hb.ok] at D1
  have L1 := diff_len a b (keptR a b)
  generalize diffW a b (keptR a b) = l1 at *
  have w1 : IntKind.i64.wrap ((a.g.es.length : Int) + (b.g.es.length : Int)) = (a.g.es.length : Int) + (b.g.es.length : Int) := wrap_i64 _ (by omega) (by omega)
  have w2 : IntKind.i64.wrap ((a.g.es.length : Int) + (b.g.es.length : Int) + (a.g.vs.length : Int)) = (a.g.es.length : Int) + (b.g.es.length : Int) + (a.g.vs.length : Int) := wrap_i64 _ (by omega) (by omega)
  have w3 : IntKind.i64.wrap ((a.g.es.length : Int) + (b.g.es.length : Int) + (a.g.vs.length : Int) + (b.g.vs.length : Int)) = (a.g.es.length : Int) + (b.g.es.length : Int) + (a.g.vs.length : Int) + (b.g.vs.length : Int) := wrap_i64 _ (by omega) (by omega)
  have w4 : ¬ (a.g.es.length : Int) + (b.g.es.length : Int) + (a.g.vs.length : Int) + (b.g.vs.length : Int) < (l1.length : Int) := by omega
  (refine w_s [] [p, p + 1] [(0, true), (1, true), (4, true), (5, true), (6, true), (7, true), (8, true), (9, true), (10, true), (11, true), (12, true), (13, true), (14, true), (15, true), (16, true), (17, true), (18, true), (19, true), (20, true), (21, true), (22, true), (2, true), (3, true), (23, true)] ?_; intro J hJ; simp [f3, f4, f5, hA, hB, hC])
  refine qD (D1 _) (by simp) ?_; rintro r s1 ⟨rfl, h1⟩
  rw [h1]; clear h1 s1
  refine ⟨fun h => by first | (cases h; done) | simp, ?_⟩
  (refine d_go ?_; simp [f3, f4, f5, hA, hB, hC, w1, w2, w3, w4]; (refine hJ _ _ ?_; clear hJ J; simp only [ak, reduceIte]))
  obtain ⟨n, k, e, hP, hPe⟩ := patch_ex a s ha hga
  have hsn := step_es a s
  have hds := fun h0 => diff_short ha (s := s) h0
  have hsd := fun h0 => step_drw ha (s := s) h0
  obtain ⟨y1, y2, y3, y4, y5, y6⟩ := s
  simp only [sps, spL, List.flatMap_cons, List.flatMap_nil, List.append_nil] at hP hC
  have e1 : ¬ p = S.next := by omega
  have e2 : ¬ p + 1 = S.next := by omega
  have e3 : ¬ p + 2 = S.next := by omega
  have e4 : ¬ p = S.next + 1 := by omega
  have e5 : ¬ p + 1 = S.next + 1 := by omega
  have e6 : ¬ p + 2 = S.next + 1 := by omega
  (repeat' (first | refine qS ?_ | (refine qK ?_; simp only [ak, reduceIte]) | (refine qC ?_; simp [f3, f4, f5, hA, hB, hC, w4, e1, e2, e3]) | (refine w_e [] ?_; intro J hJ; simp only []; simp [f3, f4, f5, hA, hB, hC, w4, e1, e2, e3])))
  refine qE (hP (S.next) _) (by simp) ?_; rintro r s1 ⟨rfl, h1⟩
  rw [h1]; clear h1 s1
  (refine e_go ?_; simp [f3, f4, f5, hA, hB, hC]; (refine hJ _ _ ?_; clear hJ J; simp only [ak, reduceIte]))
  rcases hPe with ⟨rfl, h0, rfl⟩ | h0
  rotate_left
  · have h0b : (e != 0) = true := by simpa using h0
    (repeat' (first | refine qS ?_ | (refine qR ?_; simp only [ak, reduceIte]; simp [h0, h0b]) | (refine qC ?_; simp [h0, h0b]) | (refine w_e [] ?_; intro J hJ; simp only []; simp [h0, h0b]; (refine hJ _ _ ?_; clear hJ J; simp only [ak, reduceIte]))))
  obtain ⟨s', hs1, hs2, hs3⟩ := hds h0
  have hm := (hsd h0).1
  simp only at hs2 hs3
  generalize stpM a ⟨y1, y2, y3, y4, y5, y6⟩ = m at *
  have vm := hm.v
  have D2 := fun st => dDiff a m ha.ok hm.ok st (by omega) (by omega) (by omega) (by omega)
  rw [kept_same ha.ok hm.ok, hs1] at D2
  obtain ⟨z1, z2, z3, z4, z5, z6⟩ := s'
  simp only at hs2 hs3
  subst hs2 hs3
  simp only [sps, spL, List.flatMap_cons, List.flatMap_nil, List.append_nil, List.length_cons, List.length_nil] at D2
  (repeat' (first | refine qS ?_ | (refine qK ?_; simp only [ak, reduceIte]) | (refine qC ?_; simp [f3, f4, f5, hA, hB, hC, e1, e2, e3, e4, e5, e6]) | (refine w_e [] ?_; intro J hJ; simp only []; simp [f3, f4, f5, hA, hB, hC, e1, e2, e3, e4, e5, e6]; (try (refine hJ _ _ ?_; clear hJ J; simp only [ak, reduceIte])))))
  refine qE (D2 _) (by simp) ?_; rintro r s1 ⟨rfl, h1⟩
  rw [h1]; clear h1 s1
  (refine e_go ?_; simp []; (refine hJ _ _ ?_; clear hJ J; simp only [ak, reduceIte]))
  refine qS ?_
  (refine w_s [] [p + 2] [(0, true), (1, true), (2, true), (3, true), (4, true), (5, true), (6, true), (7, true), (8, true), (9, true), (10, true), (11, true), (12, true), (13, true), (14, true), (15, true), (16, true), (17, true), (18, true), (19, true), (20, true), (21, true)] ?_; intro J hJ; simp [f3, f4, f5, hA, hB, hC, e1, e2, e3, e4, e5, e6]; (refine hJ _ _ ?_; clear hJ J; simp only [ak, reduceIte]))
  (repeat' (refine qR ?_; simp only [ak, reduceIte]; simp []))
theorem DiffShort_shp (l0 l1 l2 : List LV) (st : St) (h0 : Shp tab 28 l0) (h1 : Shp tab 28 l1) (h2 : Shp tab 38 l2) : ACalls Tryz.prog 6 [argT tab 28 l0, argT tab 28 l1, argT tab 38 l2] st fun r st' => r = bb true := by
  obtain ⟨a, rfl, _⟩ := shp_mp h0
  obtain ⟨b, rfl, _⟩ := shp_mp h1
  obtain ⟨s, rfl⟩ := shp_sp h2
  exact DiffShort a b s st
end Go.Proofs.YtglkgindpjdoiaaGreat.Aw
