/- Plain: a step on a map that is drawn on: what is behind it is a map again, in the plane again. -/
import Derived.Test.YtglkgindpjdoiaaGreatJh
import Derived.Test.YtglkgindpjdoiaaGreatAwShp
import Derived.Test.YtglkgindpjdoiaaGreatAwAlt
namespace Go.Proofs.YtglkgindpjdoiaaGreat.Aw
open Go Go.RowKit Go.Proofs.YtglkgindpjdoiaaGreat.Pl Go.Proofs.YtglkgindpjdoiaaGreat.Eu
set_option linter.unusedSimpArgs false
set_option linter.unusedVariables false
structure Drw (m : Mp) : Prop where
  ok : MapOk m
  vp : ∀ v ∈ m.g.vs, 1 ≤ v ∧ v ≤ 1048576
  v : m.g.vs.length ≤ 64
  e : m.g.es.length ≤ 160
theorem drw_right {m : Mp} : rright m = 0 ↔ Drw m ∧ gn m = 0 := by
  constructor
  · intro h
    unfold rright at h
    by_cases h1 : rchk m = 0
    · rw [if_neg (fun k => k h1)] at h
      obtain ⟨h2, h3⟩ := rchk_zero h1
      refine ⟨⟨h3, (chk_full h2).vpos, (chk_good h2).2.2.1, (chk_good h2).2.2.2⟩, ?_⟩
      by_cases h4 : gn m = 0
      · exact h4
      · rw [if_pos h4] at h; cases h
    · rw [if_pos h1] at h; exact absurd h h1
  · rintro ⟨h, hg⟩
    have hc := chk_of h.ok.g h.vp h.v h.e
    have := rchk_ok hc h.ok.len h.ok.ok
    unfold rright
    rw [if_neg (fun k => k this), if_neg (fun k => k hg)]
theorem Drw.ord {m : Mp} (h : Drw m) : Ord m := ⟨h.ok.g.rise, h.ok.len, by have := h.v; omega, by have := h.e; omega⟩
theorem Drw.sm {m : Mp} (h : Drw m) : ∀ t ∈ m.rots, small t := fun t ht => by have := h.ok.row_le ht; have := h.e; unfold small; omega
theorem lss_split {l : List Int} (v : Int) (h : l.Pairwise (· < ·)) : (∀ y ∈ l.take (lss l v), y < v) ∧ (∀ y ∈ l.drop (lss l v), v ≤ y) := by
  induction l with
  | nil => simp
  | cons x l ih =>
    rw [List.pairwise_cons] at h
    by_cases hx : x < v
    · have e : lss (x :: l) v = lss l v + 1 := by unfold lss; rw [List.filter_cons, if_pos (by simpa using hx)]; rfl
      rw [e, List.take_succ_cons, List.drop_succ_cons]
      refine ⟨fun y hy => ?_, (ih h.2).2⟩
      rw [List.mem_cons] at hy
      rcases hy with rfl | hy
      · exact hx
      · exact (ih h.2).1 y hy
    · have e : lss (x :: l) v = 0 := by
        unfold lss
        rw [List.length_eq_zero_iff, List.filter_eq_nil_iff]
        intro y hy
        rw [List.mem_cons] at hy
        rcases hy with rfl | hy
        · simpa using hx
        · have := h.1 y hy; simp; omega
      rw [e]
      refine ⟨by simp, fun y hy => ?_⟩
      rw [List.drop_zero, List.mem_cons] at hy
      rcases hy with rfl | hy
      · omega
      · have := h.1 y hy; omega
theorem ins_rise {l : List Int} {v : Int} (h : l.Pairwise (· < ·)) (hv : v ∉ l) : (l.take (lss l v) ++ v :: l.drop (lss l v)).Pairwise (· < ·) := by
  obtain ⟨h1, h2⟩ := lss_split v h
  have h3 := h
  have hd := List.take_append_drop (lss l v) l
  rw [← hd, List.pairwise_append] at h3
  rw [List.pairwise_append]
  refine ⟨h3.1, List.pairwise_cons.2 ⟨fun y hy => ?_, h3.2.1⟩, fun a ha b hb => ?_⟩
  · have := h2 y hy
    have hne : y ≠ v := fun e => hv (e ▸ List.mem_of_mem_drop hy)
    omega
  · rw [List.mem_cons] at hb
    rcases hb with rfl | hb
    · exact h1 a ha
    · exact h3.2.2 a ha b hb
theorem mid_perm (l : List Int) (k : Nat) (v : Int) : (l.take k ++ v :: l.drop k).Perm (v :: l) := by
  have := @List.perm_middle _ v (l.take k) (l.drop k)
  rwa [List.take_append_drop] at this
theorem ok_zip {es : List Ed} {vs : List Int} {rs : List (List Int)} (hl : rs.length = vs.length) : (∀ k, k < vs.length → okTurn es (vs.getD k 0) (rs.getD k [])) ↔ ∀ p ∈ vs.zip rs, okTurn es p.1 p.2 := by
  constructor
  · intro h p hp
    obtain ⟨k, hk, rfl⟩ := List.getElem_of_mem hp
    rw [List.length_zip] at hk
    have := h k (by omega)
    rw [getD_lt _ _ (by omega), getR_lt _ _ (by omega)] at this
    rw [List.getElem_zip]
    exact this
  · intro h k hk
    rw [getD_lt _ _ hk, getR_lt _ _ (by omega)]
    have := h ((vs.zip rs)[k]'(by rw [List.length_zip]; omega)) (List.getElem_mem _)
    rw [List.getElem_zip] at this
    exact this
theorem zip_mid {a b : List Int} {c d : List (List Int)} (v : Int) (t : List Int) (h : a.length = c.length) : (a ++ v :: b).zip (c ++ t :: d) = a.zip c ++ (v, t) :: b.zip d := by
  rw [List.zip_append h, List.zip_cons_cons]
theorem zip_two {a b : List Int} {c d : List (List Int)} (h : a.length = c.length) : (a ++ b).zip (c ++ d) = a.zip c ++ b.zip d := List.zip_append h
theorem sg_mid (g g' : Gr) (a b : List (List Int)) (d : Int) : sg ⟨g, a ++ [] :: b⟩ d = sg ⟨g', a ++ b⟩ d := by
  unfold sg
  simp only [List.find?_append, List.find?_cons, List.not_mem_nil, decide_false]
theorem gn_more {m m' : Mp} (h : MapOk m) (h' : MapOk m') {v : Int} (he : m'.g.es = m.g.es) (hs : ∀ d, sg m' d = sg m d) (hp : m'.g.vs.Perm (v :: m.g.vs)) (hv : v ∉ m.g.vs) (hn : nbr m.g.es v = []) : gn m' = gn m := by
  have g1 := h.gn
  have g2 := h'.gn
  have hf : fc m' m.g.es = fc m m.g.es := funext fun d => hs _
  rw [he, hf] at g2
  have hc : ncl (Reach m.g.es) m'.g.vs = ncl (Reach m.g.es) m.g.vs + 1 := by
    rw [ncl_perm (reach_eqv _) hp, ncl_cons_new]
    rintro ⟨y, hy, hr⟩
    exact hv (reach_alone hn hr.symm ▸ hy)
  have ha : alone m'.g = alone m.g + 1 := by
    unfold alone
    rw [he, hp.countP_eq, List.countP_cons, if_pos (by simpa using hn)]
  have hl := hp.length_eq
  rw [List.length_cons] at hl
  omega
section
variable {m : Mp} (h : Drw m) {v : Int}
include h
theorem alone_out {v : Int} (hv : v ∉ m.g.vs) : ends m.g.es v = [] := by
  rw [List.eq_nil_iff_forall_not_mem]
  intro d hd
  obtain ⟨x, hx, k⟩ := mem_ends.1 hd
  have := h.ok.g.ends x hx
  rcases k with ⟨rfl, _⟩ | ⟨rfl, _⟩
  · exact hv this.1
  · exact hv this.2
theorem addV_ok (hv : v ∉ m.g.vs) : MapOk (addV m v) := by
  have hlen := h.ok.len
  have hk := lss_le m.g.vs v
  have hp := mid_perm m.g.vs (lss m.g.vs v) v
  have hl : (addV m v).rots.length = (addV m v).g.vs.length := by simp only [addV, List.length_append, List.length_cons, List.length_take, List.length_drop]; omega
  refine ⟨⟨⟨ins_rise h.ok.g.rise hv, fun x hx => ?_⟩, h.ok.g.ids, h.ok.g.pos, h.ok.g.ne⟩, hl, (ok_zip hl).2 ?_⟩
  · have := h.ok.g.ends x hx
    exact ⟨hp.mem_iff.2 (List.mem_cons_of_mem _ this.1), hp.mem_iff.2 (List.mem_cons_of_mem _ this.2)⟩
  · have h0 := (ok_zip hlen).1 h.ok.ok
    have e1 := zip_two (a := m.g.vs.take (lss m.g.vs v)) (b := m.g.vs.drop (lss m.g.vs v)) (c := m.rots.take (lss m.g.vs v)) (d := m.rots.drop (lss m.g.vs v)) (by simp only [List.length_take]; omega)
    rw [List.take_append_drop, List.take_append_drop] at e1
    rw [e1] at h0
    unfold addV
    simp only
    rw [zip_mid _ _ (by simp only [List.length_take]; omega)]
    intro p hp2
    rw [List.mem_append, List.mem_cons] at hp2
    rcases hp2 with k | rfl | k
    · exact h0 p (List.mem_append_left _ k)
    · refine ⟨?_, rfl⟩
      simp only
      rw [alone_out h hv]
    · exact h0 p (List.mem_append_right _ k)
theorem addV_sg (d : Int) : sg (addV m v) d = sg m d := by
  have _ := h
  unfold addV
  have e := sg_mid ⟨m.g.vs.take (lss m.g.vs v) ++ v :: m.g.vs.drop (lss m.g.vs v), m.g.es⟩ m.g (m.rots.take (lss m.g.vs v)) (m.rots.drop (lss m.g.vs v)) d
  rw [List.take_append_drop] at e
  exact e
theorem addV_drw (hv : v ∉ m.g.vs) (hn : 1 ≤ v ∧ v ≤ 1048576) (h64 : m.g.vs.length < 64) : Drw (addV m v) ∧ gn (addV m v) = gn m := by
  have hp := mid_perm m.g.vs (lss m.g.vs v) v
  have ho := addV_ok h hv
  refine ⟨⟨ho, fun w hw => ?_, ?_, h.e⟩, gn_more h.ok ho rfl (addV_sg h) hp hv ((ends_nil _ _).1 (alone_out h hv))⟩
  · have := hp.mem_iff.1 hw
    rw [List.mem_cons] at this
    rcases this with rfl | k
    · exact hn
    · exact h.vp w k
  · have := hp.length_eq
    rw [List.length_cons] at this
    show (m.g.vs.take _ ++ v :: m.g.vs.drop _).length ≤ 64
    omega
variable (hv : v ∈ m.g.vs) (h0 : m.rots.getD (m.g.vs.idxOf v) [] = [])
include hv h0
theorem del_split : m.g.vs = m.g.vs.take (m.g.vs.idxOf v) ++ v :: m.g.vs.drop (m.g.vs.idxOf v + 1) ∧ m.rots = m.rots.take (m.g.vs.idxOf v) ++ [] :: m.rots.drop (m.g.vs.idxOf v + 1) := by
  have hi := List.idxOf_lt_length_of_mem hv
  have hlen := h.ok.len
  constructor
  · have h1 := List.drop_eq_getElem_cons hi
    rw [List.getElem_idxOf] at h1
    rw [← h1, List.take_append_drop]
  · have hi2 : m.g.vs.idxOf v < m.rots.length := by omega
    have h1 := List.drop_eq_getElem_cons hi2
    rw [getR_lt _ _ hi2] at h0
    rw [h0] at h1
    rw [← h1, List.take_append_drop]
theorem del_alone : ends m.g.es v = [] := by
  have hi := List.idxOf_lt_length_of_mem hv
  have := (h.ok.ok _ hi).1
  rw [h0, getD_lt _ _ hi, List.getElem_idxOf] at this
  exact this.symm.eq_nil
theorem del_perm : m.g.vs.Perm (v :: (delV m v).g.vs) := by
  have h1 := (del_split h hv h0).1
  have := @List.perm_middle _ v (m.g.vs.take (m.g.vs.idxOf v)) (m.g.vs.drop (m.g.vs.idxOf v + 1))
  rw [← h1] at this
  exact this
theorem del_out : v ∉ (delV m v).g.vs := by
  have h1 := (del_perm h hv h0).nodup_iff.1 (rise_nodup h.ok.g.rise)
  exact (List.nodup_cons.1 h1).1
theorem delV_sg (d : Int) : sg m d = sg (delV m v) d := by
  have h1 := (del_split h hv h0).2
  have e := sg_mid m.g (delV m v).g (m.rots.take (m.g.vs.idxOf v)) (m.rots.drop (m.g.vs.idxOf v + 1)) d
  rw [← h1] at e
  exact e
theorem delV_ok : MapOk (delV m v) := by
  obtain ⟨e1, e2⟩ := del_split h hv h0
  have hlen := h.ok.len
  have hi := List.idxOf_lt_length_of_mem hv
  have hl : (delV m v).rots.length = (delV m v).g.vs.length := by simp only [delV, List.length_append, List.length_take, List.length_drop]; omega
  have hp := del_perm h hv h0
  have ha := del_alone h hv h0
  have hend : ∀ w, w ∈ m.g.vs → w ≠ v → w ∈ (delV m v).g.vs := fun w hw hne => by
    have := hp.mem_iff.1 hw
    rw [List.mem_cons] at this
    rcases this with k | k
    · exact absurd k hne
    · exact k
  refine ⟨⟨⟨?_, fun x hx => ?_⟩, h.ok.g.ids, h.ok.g.pos, h.ok.g.ne⟩, hl, (ok_zip hl).2 ?_⟩
  · have h3 := h.ok.g.rise
    rw [e1, List.pairwise_append] at h3
    show (m.g.vs.take _ ++ m.g.vs.drop _).Pairwise (· < ·)
    rw [List.pairwise_append]
    exact ⟨h3.1, (List.pairwise_cons.1 h3.2.1).2, fun a ha b hb => h3.2.2 a ha b (List.mem_cons_of_mem _ hb)⟩
  · have := h.ok.g.ends x hx
    refine ⟨hend _ this.1 fun e => ?_, hend _ this.2 fun e => ?_⟩
    · have : 2 * x.id ∈ ends m.g.es v := mem_ends.2 ⟨x, hx, .inl ⟨e, rfl⟩⟩
      rw [ha] at this; simp at this
    · have : 2 * x.id + 1 ∈ ends m.g.es v := mem_ends.2 ⟨x, hx, .inr ⟨e, rfl⟩⟩
      rw [ha] at this; simp at this
  · have h2 := (ok_zip hlen).1 h.ok.ok
    have e3 : m.g.vs.zip m.rots = (m.g.vs.take (m.g.vs.idxOf v) ++ v :: m.g.vs.drop (m.g.vs.idxOf v + 1)).zip (m.rots.take (m.g.vs.idxOf v) ++ [] :: m.rots.drop (m.g.vs.idxOf v + 1)) := by rw [← e1, ← e2]
    rw [zip_mid _ _ (by simp only [List.length_take]; omega)] at e3
    rw [e3] at h2
    unfold delV
    simp only
    rw [zip_two (by simp only [List.length_take]; omega)]
    intro p hp2
    rw [List.mem_append] at hp2
    rcases hp2 with k | k
    · exact h2 p (List.mem_append_left _ k)
    · exact h2 p (List.mem_append_right _ (List.mem_cons_of_mem _ k))
theorem delV_drw : Drw (delV m v) ∧ gn (delV m v) = gn m := by
  have hp := del_perm h hv h0
  have ho := delV_ok h hv h0
  refine ⟨⟨ho, fun w hw => h.vp w (hp.mem_iff.2 (List.mem_cons_of_mem _ hw)), ?_, h.e⟩, (gn_more ho h.ok rfl (delV_sg h hv h0) hp (del_out h hv h0) ((ends_nil _ _).1 (del_alone h hv h0))).symm⟩
  have := hp.length_eq
  rw [List.length_cons] at this
  have := h.v
  omega
end
theorem insE_len (l : List Ed) (x : Ed) : (insE l x).length = l.length + 1 := by rw [(insE_perm l x).length_eq]; simp
theorem lessM_drw {m : Mp} (h : Drw m) (id : Int) : Drw (lessM m id) := ⟨less_ok h.ok id, h.vp, h.v, Nat.le_trans (List.length_filter_le _ _) h.e⟩
theorem less_none {m : Mp} (h : MapOk m) {id : Int} (hn : ∀ x ∈ m.g.es, x.id ≠ id) : lessM m id = m := by
  obtain ⟨⟨vs, es⟩, rs⟩ := m
  unfold lessM
  congr 1
  · congr 1
    exact List.filter_eq_self.2 fun x hx => by simpa using hn x hx
  · conv => rhs; rw [← List.map_id rs]
    refine List.map_congr_left fun t ht => ?_
    rw [wo_half, List.filter_eq_self.2 fun d hd => ?_]
    · obtain ⟨k, hk, rfl, ho⟩ := h.turn ht
      exact ho.2
    · obtain ⟨x, hx, e⟩ := darts_half.1 (h.turn_dart ht hd)
      have := hn x hx
      simp; omega
theorem less_plane {m : Mp} (h : MapOk m) (hg : gn m = 0) (id : Int) : gn (lessM m id) = 0 := by
  by_cases hx : ∃ x ∈ m.g.es, x.id = id
  · obtain ⟨x, hx, rfl⟩ := hx
    obtain ⟨A, B, hA⟩ := h.ahd hx
    have := h.less_gn hx hA
    omega
  · rw [less_none h fun x hx' e => hx ⟨x, hx', e⟩]; exact hg
theorem linkW_zero {m : Mp} (h : Drw m) {s : Sp} (hid : 1 ≤ s.id ∧ s.id ≤ 1048576) (h0 : linkW m s = 0) : LinkOk m ⟨s.id, s.a, s.b⟩ s.pa s.pb ∧ m.g.es.length < 160 ∧ (Reach m.g.es s.a s.b → Orb (fc m m.g.es) (nx (m.rots.getD (m.g.vs.idxOf s.a) []) s.pa) (nx (m.rots.getD (m.g.vs.idxOf s.b) []) s.pb)) := by
  unfold linkW at h0
  by_cases h1 : fe m.g.es s.id < 0
  rotate_left
  · rw [if_pos h1] at h0; cases h0
  rw [if_neg (fun k => k h1)] at h0
  by_cases h2 : 160 ≤ m.g.es.length
  · rw [if_pos h2] at h0; cases h0
  rw [if_neg h2] at h0
  by_cases h3 : s.a = s.b
  · rw [if_pos h3] at h0; cases h0
  rw [if_neg h3] at h0
  by_cases h4 : s.a ∉ m.g.vs ∨ s.b ∉ m.g.vs
  · rw [if_pos h4] at h0; cases h0
  rw [if_neg h4] at h0
  by_cases h5 : ¬ standsW (m.rots.getD (m.g.vs.idxOf s.a) []) s.pa ∨ ¬ standsW (m.rots.getD (m.g.vs.idxOf s.b) []) s.pb
  · rw [if_pos h5] at h0; cases h0
  rw [if_neg h5] at h0
  have ha : s.a ∈ m.g.vs := Classical.byContradiction fun k => h4 (.inl k)
  have hb : s.b ∈ m.g.vs := Classical.byContradiction fun k => h4 (.inr k)
  have sa : standsW (m.rots.getD (m.g.vs.idxOf s.a) []) s.pa := Classical.byContradiction fun k => h5 (.inl k)
  have sb : standsW (m.rots.getD (m.g.vs.idxOf s.b) []) s.pb := Classical.byContradiction fun k => h5 (.inr k)
  refine ⟨⟨ha, hb, h3, fe_neg.1 h1, hid, sa, sb⟩, by omega, fun hr => Classical.byContradiction fun hno => ?_⟩
  rw [if_pos ⟨cdec_t hr, cdec_f hno⟩] at h0
  cases h0
theorem linkW_mk {m : Mp} {s : Sp} (hl : LinkOk m ⟨s.id, s.a, s.b⟩ s.pa s.pb) (h160 : m.g.es.length < 160) (hf : Reach m.g.es s.a s.b → Orb (fc m m.g.es) (nx (m.rots.getD (m.g.vs.idxOf s.a) []) s.pa) (nx (m.rots.getD (m.g.vs.idxOf s.b) []) s.pb)) : linkW m s = 0 := by
  unfold linkW
  have ha := hl.a
  have hb := hl.b
  simp only at ha hb
  rw [if_neg (fun k => k (fe_neg.2 hl.new)), if_neg (by omega), if_neg hl.ne, if_neg (by rintro (k | k) <;> contradiction), if_neg (by
    rintro (k | k)
    · exact k hl.sa
    · exact k hl.sb), if_neg]
  rintro ⟨k1, k2⟩
  have hr : Reach m.g.es s.a s.b := Classical.byContradiction fun k => by rw [cdec_f k] at k1; cases k1
  rw [cdec_t (hf hr)] at k2
  cases k2
section
variable {m : Mp} (h : MapOk m) {x : Ed} {pa pb : Int} (hl : LinkOk m x pa pb)
include h hl
theorem link_row_at {v p : Int} (hv : v ∈ m.g.vs) (hp : p ∈ m.rots.getD (m.g.vs.idxOf v) []) : sg m p = nx (m.rots.getD (m.g.vs.idxOf v) []) p := by
  have _ := hl
  have hi := List.idxOf_lt_length_of_mem hv
  have hlen := h.len
  exact sg_at h (by rw [getR_lt _ _ (by omega)]; exact List.getElem_mem _) hp
theorem link_gn (hf : Reach m.g.es x.a x.b → Orb (fc m m.g.es) (nx (m.rots.getD (m.g.vs.idxOf x.a) []) pa) (nx (m.rots.getD (m.g.vs.idxOf x.b) []) pb)) : gn (linkM m x pa pb) = gn m := by
  have ho := link_ok h hl
  have hin := link_in h hl
  have hA := link_ahd h hl
  have hg := ho.less_gn hin hA
  have hp := fun k => ho.less_part hin hA k
  rw [link_less h hl] at hg hp
  by_cases hr : Reach m.g.es x.a x.b
  · obtain ⟨p1, p2⟩ := hp hr
    have na : m.rots.getD (m.g.vs.idxOf x.a) [] ≠ [] := fun e => p1 (by rw [if_pos e])
    have nb : m.rots.getD (m.g.vs.idxOf x.b) [] ≠ [] := fun e => p2 (by rw [if_pos e])
    rw [if_neg na, if_neg nb] at hg
    have ma : pa ∈ m.rots.getD (m.g.vs.idxOf x.a) [] := by rcases hl.sa with k | k; exact absurd k.1 na; exact k
    have mb : pb ∈ m.rots.getD (m.g.vs.idxOf x.b) [] := by rcases hl.sb with k | k; exact absurd k.1 nb; exact k
    rw [link_row_at h hl hl.a ma, link_row_at h hl hl.b mb, if_neg (fun k => k.2 (hf hr))] at hg
    exact hg
  · rw [if_neg (fun k => hr k.1)] at hg
    exact hg
end
noncomputable def stpW (m : Mp) (s : Sp) : Int := if formW s ≠ 0 then formW s else if s.k = 1 then vertexW m s.id else if s.k = 2 then noVertexW m s.id else if s.k = 3 then linkW m s else noLinkW m s.id
def stpM (m : Mp) (s : Sp) : Mp := if s.k = 1 then addV m s.id else if s.k = 2 then delV m s.id else if s.k = 3 then linkM m ⟨s.id, s.a, s.b⟩ s.pa s.pb else lessM m s.id
theorem formW_id {s : Sp} (h : formW s = 0) : 1 ≤ s.id ∧ s.id ≤ 1048576 := by
  unfold formW at h
  split at h
  · cases h
  split at h
  · cases h
  split at h
  · cases h
  · rename_i k
    exact Classical.byContradiction fun hn => k (.inl hn)
theorem vertexW_zero {m : Mp} {v : Int} (h : vertexW m v = 0) : v ∉ m.g.vs ∧ m.g.vs.length < 64 := by
  unfold vertexW at h
  split at h
  · cases h
  · split at h
    · cases h
    · rename_i h1 h2; exact ⟨h1, by omega⟩
theorem noVertexW_zero {m : Mp} {v : Int} (h : noVertexW m v = 0) : v ∈ m.g.vs ∧ m.rots.getD (m.g.vs.idxOf v) [] = [] := by
  unfold noVertexW at h
  by_cases h1 : v ∈ m.g.vs
  · rw [if_neg (fun k => k h1)] at h
    by_cases h2 : m.rots.getD (m.g.vs.idxOf v) [] = []
    · exact ⟨h1, h2⟩
    · rw [if_pos h2] at h; cases h
  · rw [if_pos h1] at h; cases h
theorem step_drw {m : Mp} (h : Drw m) {s : Sp} (h0 : stpW m s = 0) : Drw (stpM m s) ∧ (gn m = 0 → gn (stpM m s) = 0) := by
  unfold stpW at h0
  by_cases hf : formW s = 0
  rotate_left
  · rw [if_pos hf] at h0; exact absurd h0 hf
  rw [if_neg (fun k => k hf)] at h0
  have hid := formW_id hf
  unfold stpM
  by_cases h1 : s.k = 1
  · rw [if_pos h1] at h0 ⊢
    obtain ⟨k1, k2⟩ := vertexW_zero h0
    have := addV_drw h k1 hid k2
    exact ⟨this.1, fun k => by rw [this.2, k]⟩
  rw [if_neg h1] at h0 ⊢
  by_cases h2 : s.k = 2
  · rw [if_pos h2] at h0 ⊢
    obtain ⟨k1, k2⟩ := noVertexW_zero h0
    have := delV_drw h k1 k2
    exact ⟨this.1, fun k => by rw [this.2, k]⟩
  rw [if_neg h2] at h0 ⊢
  by_cases h3 : s.k = 3
  · rw [if_pos h3] at h0 ⊢
    obtain ⟨hl, h160, hr⟩ := linkW_zero h hid h0
    refine ⟨⟨link_ok h.ok hl, h.vp, h.v, ?_⟩, fun k => by rw [link_gn h.ok hl hr, k]⟩
    show (insE _ _).length ≤ 160
    rw [insE_len]; omega
  · rw [if_neg h3] at h0 ⊢
    exact ⟨lessM_drw h _, fun k => less_plane h.ok k _⟩
end Go.Proofs.YtglkgindpjdoiaaGreat.Aw
namespace Go.Proofs.YtglkgindpjdoiaaGreat.Aw
open Go Go.RowKit Go.Proofs.YtglkgindpjdoiaaGreat.Pl Go.Proofs.YtglkgindpjdoiaaGreat.Eu
set_option linter.unusedSimpArgs false
set_option linter.unusedVariables false
set_option maxHeartbeats 2000000 in
theorem stepS (B D : Nat) (m : Mp) (s : Sp) (st : St) (h : DrB B D m st) (hB : B ≤ st.next) (hm : Drw m) :
    ACalls Tryz.prog 30 [.pt D 0, .ag (spL s)] st fun r st' => r = i (stpW m s) ∧ (stpW m s = 0 → DrB B D (stpM m s) st') ∧ KB B st st' := by
  have ho := hm.ord
  have hsm := hm.sm
  have hq : ∀ c : LObj, DrB B D m (st.new c) := fun c => by
    obtain ⟨⟨lv, le, lr, ⟨h1, h2, h3⟩, b1, b2, b3⟩, hB0⟩ := h
    have n1 := h2.v0
    have n2 := h2.e0
    have n3 := h2.r0
    exact ⟨⟨lv, le, lr, ⟨by simp [show ¬ D = st.next by omega, h1], ⟨by simp [show ¬ lv = st.next by omega, h2.v], by simp [show ¬ le = st.next by omega, h2.e], by simp [show ¬ lr = st.next by omega, h2.r], by simp; omega, by simp; omega, by simp; omega⟩, by simp; omega⟩, b1, b2, b3⟩, hB0⟩
  have hk0 : ∀ c : LObj, KB B st (st.new c) := fun c => (Keeps.new st c).kb hB
  obtain ⟨y, hy⟩ : ∃ y, y = stpW m s := ⟨_, rfl⟩
  obtain ⟨m', hm'⟩ : ∃ m', m' = stpM m s := ⟨_, rfl⟩
  rw [← hy, ← hm']
  unfold stpW at hy
  unfold stpM at hm'
  have hform := fun st => form s st
  have hlink := fun st h hid => linkS B D m s st h ho hm.ok hsm hid
  have hfid := fun h => formW_id (s := s) h
  obtain ⟨k, id, sa, sb, pa, pb⟩ := s
  simp only [spL] at *
  refine qO tabOk Tryz.func30 rfl rfl Tryz.ntmps30 (rs := [.tmp 4]) rfl (by simp) ?_
  refine awp_posG fun hpos => ?_
  (repeat' (first | refine qS ?_ | (refine w_e [] ?_; intro J hJ; simp only []; simp []; (try (refine hJ _ _ ?_; clear hJ J; simp only [ak, reduceIte])))))
  refine qE (hform _) (by simp) ?_; rintro r s1 ⟨rfl, h1⟩
  rw [h1]; clear h1 s1
  by_cases hf : formW ⟨k, id, sa, sb, pa, pb⟩ = 0
  rotate_left
  · rw [if_pos hf] at hy
    rw [← hy] at hf ⊢
    have hfb : (y != 0) = true := by simpa using hf
    (repeat' (first | refine qS ?_ | (refine qR ?_; simp only [ak, reduceIte]; simp [hf, hfb]) | (refine qC ?_; simp [hf, hfb]) | ((first | (refine w_e [] ?_; intro J hJ; simp only []) | (refine e_go ?_)); simp [hf, hfb]; (refine hJ _ _ ?_; clear hJ J; simp only [ak, reduceIte]))))
    exact hk0 _
  rw [if_neg (fun k => k hf)] at hy
  have hid := hfid hf
  rw [hf]
  clear hform
  by_cases h1 : k = 1
  · subst h1
    rw [if_pos rfl] at hy hm'
    subst hm'
    (repeat' (first | refine qS ?_ | refine qB ?_ | (refine qK ?_; simp only [ak, reduceIte]) | (refine qC ?_; simp []) | ((first | (refine w_e [] ?_; intro J hJ; simp only []) | (refine e_go ?_)); simp []; (try (refine hJ _ _ ?_; clear hJ J; simp only [ak, reduceIte])))))
    refine qE (vertexS B D m id _ (hq _) ho) (by simp) ?_; rintro r s1 ⟨rfl, h2, h3⟩
    rw [← hy] at h2 ⊢
    (repeat' (first | (refine qR ?_; simp only [ak, reduceIte]; simp []) | (refine e_go ?_; simp []; (refine hJ _ _ ?_; clear hJ J; simp only [ak, reduceIte]))))
    exact ⟨h2, (hk0 _).trans h3⟩
  rw [if_neg h1] at hy hm'
  have h1b : (k == 1) = false := by simpa using h1
  by_cases h2 : k = 2
  · subst h2
    rw [if_pos rfl] at hy hm'
    subst hm'
    (repeat' (first | refine qS ?_ | refine qB ?_ | (refine qK ?_; simp only [ak, reduceIte]) | (refine qC ?_; simp []) | ((first | (refine w_e [] ?_; intro J hJ; simp only []) | (refine e_go ?_)); simp []; (try (refine hJ _ _ ?_; clear hJ J; simp only [ak, reduceIte])))))
    refine qE (noVertexS B D m id _ (hq _) ho) (by simp) ?_; rintro r s1 ⟨rfl, h2, h3⟩
    rw [← hy] at h2 ⊢
    (repeat' (first | (refine qR ?_; simp only [ak, reduceIte]; simp []) | (refine e_go ?_; simp []; (refine hJ _ _ ?_; clear hJ J; simp only [ak, reduceIte]))))
    exact ⟨h2, (hk0 _).trans h3⟩
  rw [if_neg h2] at hy hm'
  have h2b : (k == 2) = false := by simpa using h2
  by_cases h3 : k = 3
  · subst h3
    rw [if_pos rfl] at hy hm'
    subst hm'
    (repeat' (first | refine qS ?_ | refine qB ?_ | (refine qK ?_; simp only [ak, reduceIte]) | (refine qC ?_; simp []) | ((first | (refine w_e [] ?_; intro J hJ; simp only []) | (refine e_go ?_)); simp []; (try (refine hJ _ _ ?_; clear hJ J; simp only [ak, reduceIte])))))
    refine qE (hlink _ (hq _) hid) (by simp) ?_; rintro r s1 ⟨rfl, h2, h3⟩
    rw [← hy] at h2 ⊢
    (repeat' (first | (refine qR ?_; simp only [ak, reduceIte]; simp []) | (refine e_go ?_; simp []; (refine hJ _ _ ?_; clear hJ J; simp only [ak, reduceIte]))))
    exact ⟨h2, (hk0 _).trans h3⟩
  rw [if_neg h3] at hy hm'
  have h3b : (k == 3) = false := by simpa using h3
  subst hm'
  (repeat' (first | refine qS ?_ | refine qB ?_ | (refine qK ?_; simp only [ak, reduceIte]) | (refine qC ?_; simp [h1, h2, h3, h1b, h2b, h3b]) | ((first | (refine w_e [] ?_; intro J hJ; simp only []) | (refine e_go ?_)); simp [h1, h2, h3, h1b, h2b, h3b]; (try (refine hJ _ _ ?_; clear hJ J; simp only [ak, reduceIte])))))
  refine qE (noLinkS B D m id _ (hq _) ho hsm hm.ok.g.pos) (by simp) ?_; rintro r s1 ⟨rfl, h2, h3⟩
  rw [keptP_less hm.ok] at h2
  rw [← hy] at h2 ⊢
  (repeat' (first | (refine qR ?_; simp only [ak, reduceIte]; simp []) | (refine e_go ?_; simp []; (refine hJ _ _ ?_; clear hJ J; simp only [ak, reduceIte]))))
  exact ⟨h2, (hk0 _).trans h3⟩
end Go.Proofs.YtglkgindpjdoiaaGreat.Aw
namespace Go.Proofs.YtglkgindpjdoiaaGreat.Aw
open Go Go.RowKit Go.Proofs.YtglkgindpjdoiaaGreat.Pl Go.Proofs.YtglkgindpjdoiaaGreat.Eu
set_option linter.unusedSimpArgs false
set_option linter.unusedVariables false
def aft (m : Mp) (l : List Sp) : Mp := l.foldl stpM m
def nilMp : Mp := ⟨⟨[], []⟩, []⟩
def DoTo (m : Mp) (l : List Sp) (j : Nat) : Prop := ∀ i, i < j → stpW (aft m (l.take i)) (l.getD i sp0) = 0
theorem aft_take {m : Mp} {l : List Sp} {j : Nat} (hj : j < l.length) : aft m (l.take (j + 1)) = stpM (aft m (l.take j)) (l.getD j sp0) := by
  unfold aft
  rw [List.take_succ_eq_append_getElem hj, List.foldl_append, List.getD_eq_getElem?_getD, List.getElem?_eq_getElem hj]
  rfl
theorem DoTo.drw {m : Mp} {l : List Sp} (hm : Drw m) : ∀ j, j ≤ l.length → DoTo m l j → Drw (aft m (l.take j)) ∧ (gn m = 0 → gn (aft m (l.take j)) = 0)
  | 0, _, _ => ⟨hm, fun h => h⟩
  | j + 1, hj, h => by
    obtain ⟨h1, h2⟩ := DoTo.drw hm j (by omega) fun i hi => h i (by omega)
    obtain ⟨k1, k2⟩ := step_drw h1 (h j (by omega))
    rw [aft_take (by omega)]
    exact ⟨k1, fun hg => k2 (h2 hg)⟩
theorem DoTo.succ {m : Mp} {l : List Sp} {j : Nat} (h : DoTo m l j) (k : stpW (aft m (l.take j)) (l.getD j sp0) = 0) : DoTo m l (j + 1) := fun i hi => by
  rcases Nat.lt_or_ge i j with h1 | h1
  · exact h i h1
  · obtain rfl : i = j := by omega
    exact k
theorem frz_norm (st : St) (x : LV) : Frz st st x (norm x) := fun w g _ hi hr => ⟨g, hi, rep_norm hr, Ext.refl w g⟩
theorem DrB.keeps {B D : Nat} {m : Mp} {st st' : St} (h : DrB B D m st) (hk : Keeps st st') : DrB B D m st' := by
  obtain ⟨⟨lv, le, lr, ⟨h1, h2, h3⟩, b⟩, hB0⟩ := h
  have hn := hk.next
  exact ⟨⟨lv, le, lr, ⟨by rw [hk.H _ h3]; exact h1, ⟨by rw [hk.H _ h2.v0]; exact h2.v, by rw [hk.H _ h2.e0]; exact h2.e, by rw [hk.H _ h2.r0]; exact h2.r, Nat.lt_of_lt_of_le h2.v0 hn, Nat.lt_of_lt_of_le h2.e0 hn, Nat.lt_of_lt_of_le h2.r0 hn⟩, Nat.lt_of_lt_of_le h3 hn⟩, b⟩, hB0⟩
def DoQ (m : Mp) (l : List Sp) (r : LV) : Prop := (DoTo m l l.length ∧ r = .tu [.ag (mpL (aft m l)), i l.length, i 0]) ∨ ∃ j, j < l.length ∧ DoTo m l j ∧ stpW (aft m (l.take j)) (l.getD j sp0) ≠ 0 ∧ r = .tu [.ag (mpL nilMp), i j, i (stpW (aft m (l.take j)) (l.getD j sp0))]
set_option maxHeartbeats 4000000 in
theorem DoK (m : Mp) (l : List Sp) (t : Nat) (st : St) (hm : Drw m) (hl : l.length ≤ 100000) :
    ACalls Tryz.prog 10 [.ag (mpL m), .sl t l.length (sps l)] st fun r st' => DoQ m l r ∧ Keeps st st' := by
  have hv := hm.v
  have he := hm.e
  have hsl := sps_length l
  have hr : m.rots.length ≤ 1000 := by rw [hm.ok.len]; omega
  refine acalls_frzR ?_
  refine qO tabOk Tryz.func10 rfl rfl Tryz.ntmps10 (rs := [.cell 4 28, .tmp 5, .tmp 6]) rfl (by simp) ?_
  refine awp_posG fun hpos => ?_
  (repeat' (first | refine qS ?_ | (refine w_e [] ?_; intro J hJ; simp only []; simp []; (try (refine hJ _ _ ?_; clear hJ J; simp only [ak, reduceIte])))))
  refine qE (rCloneM m _ (by omega) (by omega) hr hm.sm) (by simp) ?_; rintro r s1 ⟨lv, le, lr, rfl, hat, l1, l2, l3, hk1⟩
  simp only [new_next] at l1 l2 l3
  have hn1 := hk1.next
  simp only [new_next] at hn1
  have hR1 : s1.H (st.next + 1) = .box 28 3 [.nil, .nil, .nil] := by rw [hk1.H _ (by simp)]; simp
  have hkp1 : Keeps st s1 := ((Keeps.new _ _).trans (Keeps.new _ _)).trans hk1
  have h1 := hat.v0
  have h2 := hat.e0
  have h3 := hat.r0
  have hdr : DrB (st.next + 2) s1.next m (s1.new (.box 61 3 (mpM lv le lr m))) := ⟨⟨lv, le, lr, ⟨by simp, ⟨by simp [show ¬ lv = s1.next by omega, hat.v], by simp [show ¬ le = s1.next by omega, hat.e], by simp [show ¬ lr = s1.next by omega, hat.r], by simp; omega, by simp; omega, by simp; omega⟩, by simp⟩, by omega, by omega, by omega⟩, by omega⟩
  have hk2 : KB (st.next + 2) s1 (s1.new (.box 61 3 (mpM lv le lr m))) := (Keeps.new _ _).kb (by omega)
  obtain ⟨D, hD⟩ : ∃ D, D = s1.next := ⟨_, rfl⟩
  obtain ⟨s2, hs2⟩ : ∃ s2, s2 = s1.new (.box 61 3 (mpM lv le lr m)) := ⟨_, rfl⟩
  rw [← hs2, ← hD] at hdr
  rw [← hs2] at hk2
  have hn2 : s2.next = D + 1 := by rw [hs2, hD]; rfl
  unfold mpM at hs2 ⊢
  (repeat' (first | refine qS ?_ | refine qB ?_ | ((first | (refine w_e [] ?_; intro J hJ; simp only []) | (refine e_go ?_)); simp []; (refine hJ _ _ ?_; clear hJ J; simp only [ak, reduceIte]))))
  rw [← hs2, ← hD]
  have hR2 : s2.H (st.next + 1) = .box 28 3 [.nil, .nil, .nil] := by rw [hk2.H _ (by omega)]; exact hR1
  have hk3 : Keeps st s2 := ⟨Nat.le_trans hkp1.next hk2.next, fun x hx => (hk2.H x (by omega)).trans (hkp1.H x hx)⟩
  clear hs2 hk2 hR1 hkp1 hn1 hk1 hat h1 h2 h3 l1 l2 l3
  refine awp_range 17 16 18 30 (l.length) (fun j fr st2 => fr 4 = .pt (st.next + 1) 0 ∧ fr 7 = .pt D 0 ∧ fr 1 = .sl t l.length (sps l) ∧ fr 15 = .sl t l.length (sps l) ∧ DrB (st.next + 2) D (aft m (l.take j)) st2 ∧ DoTo m l j ∧ st2.H (st.next + 1) = .box 28 3 [.nil, .nil, .nil] ∧ Keeps st st2 ∧ D < st2.next) ?_ ?_ ?_
  · exact ⟨by simp, by simp, by simp, by simp, hdr, fun i hi => by omega, hR2, hk3, by omega⟩
  · clear hR2 hk3 hdr
    rintro j fr s hlt ⟨f4, f7, f1, f15, hdr, hto, hR, hkp, hDn⟩ fi fn JO hJO
    have hd := sps_drop l j hlt
    have hj6 : j * 6 < l.length * 6 := by omega
    have hdw := (hto.drw hm j (by omega)).1
    have hax := aft_take (m := m) hlt
    have hsc := hto.succ (j := j)
    have hB0 := hdr.B0
    have hstp := fun st' h hB => stepS (st.next + 2) D (aft m (l.take j)) (l.getD j sp0) st' h hB hdw
    have herr : stpW (aft m (l.take j)) (l.getD j sp0) ≠ 0 → DoQ m l (.tu [.ag (mpL nilMp), i j, i (stpW (aft m (l.take j)) (l.getD j sp0))]) := fun hne => .inr ⟨j, hlt, hto, hne, rfl⟩
    rw [hax] at hJO
    generalize l.getD j sp0 = y at *
    generalize hmj : aft m (l.take j) = mj at *
    obtain ⟨y1, y2, y3, y4, y5, y6⟩ := y
    simp only [spL] at hd hstp
    (repeat' (first | refine qS ?_ | (refine w_e [] ?_; intro J hJ; simp only []; simp [f4, f7, f1, f15, fi, fn, hd, hj6, hlt, hsl]; (try (refine hJ _ _ ?_; clear hJ J; simp only [ak, reduceIte])))))
    refine qE (hstp _ (hdr.keeps (Keeps.new _ _)) (by simp; omega)) (by simp) ?_; rintro r s3 ⟨rfl, k1, k2⟩
    have hn3 := k2.next
    simp only [new_next] at hn3
    have hR3 : s3.H (st.next + 1) = .box 28 3 [.nil, .nil, .nil] := by rw [k2.H _ (by omega)]; simp [show ¬ st.next + 1 = s.next by omega, hR]
    have hkp3 : Keeps st s3 := ⟨by have := hkp.next; omega, fun x hx => by rw [k2.H x (by omega), new_H, if_neg (by have := hkp.next; omega)]; exact hkp.H x hx⟩
    by_cases hz : stpW mj ⟨y1, y2, y3, y4, y5, y6⟩ = 0
    · have h1 := k1 hz
      have h2 := hsc hz
      rw [hz]
      (repeat' (first | refine qS ?_ | (refine qK ?_; simp only [ak, reduceIte]) | (refine qC ?_; simp []) | ((first | (refine w_e [] ?_; intro J hJ; simp only []) | (refine e_go ?_)); simp []; (refine hJ _ _ ?_; clear hJ J; simp only [ak, reduceIte]))))
      exact hJO _ _ (by simp [fi]) (by simp [fn]) ⟨by simp [f4], by simp [f7], by simp [f1], by simp [f15], h1, h2, hR3, hkp3, by omega⟩
    · have hE := herr hz
      generalize stpW mj ⟨y1, y2, y3, y4, y5, y6⟩ = e at *
      have hzb : (e != 0) = true := by simpa using hz
      (repeat' (first | refine qS ?_ | (refine qR ?_; simp only [ak, reduceIte]; simp [hz, hzb, f4, hR3]) | (refine qC ?_; simp [hz, hzb, f4, hR3]) | ((first | (refine w_e [] ?_; intro J hJ; simp only []) | (refine e_go ?_)); simp [hz, hzb, f4, hR3]; (refine hJ _ _ ?_; clear hJ J; simp only [ak, reduceIte]))))
      exact ⟨_, _, frz_tu (frzL_cons (frz_ag (frzL_cons (frz_norm _ _) (frzL_cons (frz_norm _ _) (frzL_cons (frz_norm _ _) (frzL_same _ _))))) (frzL_same _ _)), hE, hkp3.set (by omega) _⟩
  · clear hR2 hk3 hdr
    rintro fr s ⟨f4, f7, f1, f15, ⟨⟨lv', le', lr', hI, b⟩, hB0⟩, hto, hR, hkp, hDn⟩
    rw [List.take_length] at hI
    have hne := hI.ne
    have hD1 := hI.d
    unfold mpM at hD1
    obtain ⟨d1, d2, d3, d4, d5, d6⟩ := hne
    have hat := hI.at'
    have n1 := hat.v0
    have n2 := hat.e0
    have n3 := hat.r0
    (repeat' (first | refine qS ?_ | (refine qR ?_; simp only [ak, reduceIte]; simp [f1, f4, f7, hD1, hR]) | (refine w_e [] ?_; intro J hJ; simp only []; simp [f1, f4, f7, hD1, hR]; (refine hJ _ _ ?_; clear hJ J; simp only [ak, reduceIte]))))
    refine ⟨_, _, frz_tu (frzL_cons (frz_mp (m := aft m l) ⟨?_, ?_, ?_, ?_, ?_, ?_⟩ d4 d5 d6) (frzL_same _ _)), .inl ⟨hto, rfl⟩, ⟨?_, fun x hx => ?_⟩⟩
    · rw [set_H, if_neg (by omega)]; exact hat.v
    · rw [set_H, if_neg (by omega)]; exact hat.e
    · rw [set_H, if_neg (by omega)]; exact hat.r
    · simpa using n1
    · simpa using n2
    · simpa using n3
    · simp only [set_next]; exact hkp.next
    · rw [set_H, if_neg (by omega), set_H, if_neg (by omega), set_H, if_neg (by omega), set_H, if_neg (by omega)]
      exact hkp.H x hx
theorem Do (m : Mp) (l : List Sp) (t : Nat) (st : St) (hm : Drw m) (hl : l.length ≤ 100000) :
    ACalls Tryz.prog 10 [.ag (mpL m), .sl t l.length (sps l)] st fun r st' => DoQ m l r ∧ st' = st :=
  qT (Q := DoQ m l) (DoK m l t st hm hl) fun r h => by
    rcases h with ⟨_, rfl⟩ | ⟨j, _, _, _, rfl⟩
    · exact ⟨bel_mpL _ _, trivial, trivial, trivial⟩
    · exact ⟨bel_mpL _ _, trivial, trivial, trivial⟩
end Go.Proofs.YtglkgindpjdoiaaGreat.Aw
namespace Go.Proofs.YtglkgindpjdoiaaGreat.Aw
open Go Go.RowKit Go.Proofs.YtglkgindpjdoiaaGreat.Pl
set_option linter.unusedSimpArgs false
set_option linter.unusedVariables false
theorem awake17 (st : St) : ACalls Tryz.prog 19 [] st fun r st' => r = bb true ∧ st' = st :=
  acalls_closed tabOk fnsOk prim_ok mixed 1000000 true (by kernel_rfl)
theorem ref_rRightC (m : Mp) (st : St) (hr : m.rots.length ≤ 1000) (he : m.g.es.length ≤ 1000) : ACalls Tryz.prog 9 [.ag (mpL m)] st fun r st' => r = i (rright m) ∧ Keeps st st' := by
  by_cases hv : m.g.vs.length ≤ 1000
  · exact ref_rRight m st hv he hr
  · have hc : rchk m ≠ 0 := fun h => hv (Nat.le_trans (chk_smallC h) (by omega))
    have hrc : rright m = rchk m := by unfold rright; rw [if_pos hc]
    refine qO tabOk Tryz.func9 rfl rfl Tryz.ntmps9 (rs := [.tmp 2]) rfl (by simp) ?_
    (repeat' (first | refine qS ?_ | (refine w_e [] ?_; intro J hJ; simp only []; simp []; (try (refine hJ _ _ ?_; clear hJ J; simp only [ak, reduceIte])))))
    refine qE (ref_rCheckC m _ hr he) (by simp) ?_; rintro r s1 ⟨rfl, hk1⟩
    generalize rchk m = x at *
    have hcb : (x == 0) = false := by simpa using hc
    (repeat' (first | refine qS ?_ | (refine qK ?_; simp only [ak, reduceIte]) | (refine qR ?_; simp only [ak, reduceIte]; simp [hcb, hc, hrc]) | (refine qC ?_; simp [hcb, hc, hrc]) | ((first | (refine w_e [] ?_; intro J hJ; simp only []) | (refine e_go ?_)); simp [hcb, hc, hrc]; (refine hJ _ _ ?_; clear hJ J; simp only [ak, reduceIte]))))
    exact (Keeps.new _ _).trans hk1
theorem rRightC' (m : Mp) (st : St) (hr : m.rots.length ≤ 1000) (he : m.g.es.length ≤ 1000) :
    ACalls Tryz.prog 9 [.ag (mpL m)] st fun r st' => r = i (rright m) ∧ st' = st :=
  qT (Q := fun r => r = i (rright m)) (ref_rRightC m st hr he) fun r h => by subst h; trivial
theorem light17K (m : Mp) (st : St) : ACalls Tryz.prog 20 [.ag (mpL m)] st fun r st' => r = bb (lit17 m) ∧ Keeps st st' := by
  refine qO tabOk Tryz.func20 rfl rfl Tryz.ntmps20 (rs := [.tmp 2]) rfl (by simp) ?_
  by_cases h1 : (m.g.es.length : Int) ≤ 30
  rotate_left
  · have hf : lit17 m = false := by unfold lit17; simp; omega
    (repeat' (first | refine qS ?_ | (refine qR ?_; simp only [ak, reduceIte]; simp [h1, hf]) | (refine w_e [] ?_; intro J hJ; simp only []; simp [h1, hf]; (refine hJ _ _ ?_; clear hJ J; simp only [ak, reduceIte]))))
    exact Keeps.new _ _
  by_cases h2 : (m.rots.length : Int) ≤ 64
  rotate_left
  · have hf : lit17 m = false := by unfold lit17; simp; omega
    (repeat' (first | refine qS ?_ | (refine qR ?_; simp only [ak, reduceIte]; simp [h1, h2, hf]) | (refine w_e [] ?_; intro J hJ; simp only []; simp [h1, h2, hf]; (refine hJ _ _ ?_; clear hJ J; simp only [ak, reduceIte]))))
    exact Keeps.new _ _
  (repeat' (first | refine qS ?_ | (refine w_e [] ?_; intro J hJ; simp only []; simp [h1, h2]; (try (refine hJ _ _ ?_; clear hJ J; simp only [ak, reduceIte])))))
  refine qE (rRightC' m _ (by omega) (by omega)) (by simp) ?_; rintro r s1 ⟨rfl, h1⟩
  rw [h1]; clear h1 s1
  have hf : lit17 m = decide (rright m = 0) := by
    unfold lit17
    rw [decide_eq_true (by omega), decide_eq_true (by omega)]; rfl
  by_cases hc : rright m = 0
  · (repeat' (first | (refine qR ?_; simp only [ak, reduceIte]; simp [hc, hf]) | (refine e_go ?_; simp [hc, hf]; (refine hJ _ _ ?_; clear hJ J; simp only [ak, reduceIte]))))
    exact Keeps.new _ _
  · rw [decide_eq_false hc] at hf
    generalize rright m = x at *
    have hcb : (x == 0) = false := by simpa using hc
    (repeat' (first | (refine qR ?_; simp only [ak, reduceIte]; simp [hcb, hc, hf]) | (refine e_go ?_; simp [hcb, hc, hf]; (refine hJ _ _ ?_; clear hJ J; simp only [ak, reduceIte]))))
    exact Keeps.new _ _
theorem light17 (m : Mp) (st : St) : ACalls Tryz.prog 20 [.ag (mpL m)] st fun r st' => r = bb (lit17 m) ∧ st' = st :=
  qT (Q := fun r => r = bb (lit17 m)) (light17K m st) fun r h => by subst h; trivial
theorem lit17_of {m : Mp} (h : lit17 m = true) : m.g.es.length ≤ 30 ∧ m.rots.length ≤ 64 ∧ rchk m = 0 ∧ gn m = 0 := by
  unfold lit17 at h
  simp only [Bool.and_eq_true, decide_eq_true_eq] at h
  obtain ⟨⟨h1, h2⟩, h3⟩ := h
  unfold rright at h3
  by_cases hc : rchk m = 0
  · rw [if_neg (fun e => e hc)] at h3
    by_cases hg : gn m = 0
    · exact ⟨h1, h2, hc, hg⟩
    · rw [if_pos hg] at h3; cases h3
  · rw [if_pos hc] at h3; exact absurd h3 hc
end Go.Proofs.YtglkgindpjdoiaaGreat.Aw
namespace Go.Proofs.YtglkgindpjdoiaaGreat.Aw
open Go Go.RowKit Go.Proofs.YtglkgindpjdoiaaGreat.Pl Go.Proofs.YtglkgindpjdoiaaGreat.Eu
set_option linter.unusedSimpArgs false
set_option linter.unusedVariables false
section
variable {m : Mp} (h : MapOk m) {x : Ed} {pa pb : Int} (hl : LinkOk m x pa pb)
include h hl
end
def ahdW (n : Mp) (d : Int) : Int := if pv (turnOf n.rots d) d = d then 0 else pv (turnOf n.rots d) d
theorem ahd_pv {n : Mp} (h : MapOk n) {x : Ed} (hx : x ∈ n.g.es) {A B : Int} (hA : Ahd n x A B) : pv (turnOf n.rots (2 * x.id)) (2 * x.id) = A ∧ pv (turnOf n.rots (2 * x.id + 1)) (2 * x.id + 1) = B := by
  obtain ⟨d0, d1⟩ := h.dart0 hx
  obtain ⟨t1, t2⟩ := turn_of_dart h d0
  obtain ⟨t3, t4⟩ := turn_of_dart h d1
  have a3 := (h.less_end hx (.inl ⟨rfl, rfl⟩) t1 t2).2.2.1
  have b3 := (h.less_end hx (.inr ⟨rfl, rfl⟩) t3 t4).2.2.1
  exact ⟨h.sg_inj (a3.trans hA.a.symm), h.sg_inj (b3.trans hA.b.symm)⟩
theorem ahd_eq {n : Mp} (h : MapOk n) {x : Ed} (hx : x ∈ n.g.es) {A B : Int} (hA : Ahd n x A B) : ahdW n (2 * x.id) = (if A = 2 * x.id then 0 else A) ∧ ahdW n (2 * x.id + 1) = (if B = 2 * x.id + 1 then 0 else B) := by
  obtain ⟨e1, e2⟩ := ahd_pv h hx hA
  unfold ahdW
  rw [e1, e2]
  exact ⟨rfl, rfl⟩
theorem form3 {s : Sp} (hk : s.k = 3) (h1 : numI s.id) (h2 : numI s.a) (h3 : numI s.b) : formW s = 0 := by
  unfold formW
  rw [if_neg (by omega), if_neg (fun k => k.1 hk), if_neg]
  rintro (k | ⟨_, k | k⟩)
  · exact k h1
  · exact k h2
  · exact k h3
theorem form0 {k id : Int} (hk : k = 1 ∨ k = 2 ∨ k = 4) (h1 : numI id) : formW ⟨k, id, 0, 0, 0, 0⟩ = 0 := by
  unfold formW
  simp only
  rw [if_neg (by omega), if_neg (by simp), if_neg]
  rintro (q | ⟨q, _⟩)
  · exact q h1
  · omega
theorem back_ok {n : Mp} (h : Drw n) (hg : gn n = 0) {x : Ed} (hx : x ∈ n.g.es) : stpW (lessM n x.id) ⟨3, x.id, x.a, x.b, ahdW n (2 * x.id), ahdW n (2 * x.id + 1)⟩ = 0 ∧ stpM (lessM n x.id) ⟨3, x.id, x.a, x.b, ahdW n (2 * x.id), ahdW n (2 * x.id + 1)⟩ = n := by
  obtain ⟨A, B, hA⟩ := h.ok.ahd hx
  obtain ⟨e1, e2⟩ := ahd_eq h.ok hx hA
  rw [e1, e2]
  have hl := less_linkOk h.ok hx hA
  have ho := less_ok h.ok x.id
  obtain ⟨va, vb, vab⟩ := h.ok.edge_vs hx
  constructor
  · unfold stpW
    have hf : formW ⟨3, x.id, x.a, x.b, if A = 2 * x.id then 0 else A, if B = 2 * x.id + 1 then 0 else B⟩ = 0 := form3 rfl (h.ok.g.pos x hx) (h.vp _ va) (h.vp _ vb)
    rw [if_neg (fun k => k hf), if_neg (show ¬ (3 : Int) = 1 by decide), if_neg (show ¬ (3 : Int) = 2 by decide), if_pos rfl]
    refine linkW_mk hl ?_ fun hr => ?_
    · have := h.ok.len_less hx
      have := h.e
      omega
    · simp only at hr ⊢
      obtain ⟨na, nb⟩ := h.ok.less_part hx hA hr
      have hgn := h.ok.less_gn hx hA
      rw [hg] at hgn
      have hS : Orb (fc (lessM n x.id) (lessM n x.id).g.es) (sg (lessM n x.id) A) (sg (lessM n x.id) B) := Classical.byContradiction fun hS => by
        rw [if_pos ⟨hr, hS⟩] at hgn
        omega
      have sa := hl.sa
      have sb := hl.sb
      rw [if_neg na] at sa ⊢
      rw [if_neg nb] at sb ⊢
      obtain ⟨l0, l1⟩ := less_nil h.ok hx hA
      have ma : A ∈ (lessM n x.id).rots.getD ((lessM n x.id).g.vs.idxOf x.a) [] := by rcases sa with k | k; exact absurd (l0.1 k.1) na; exact k
      have mb : B ∈ (lessM n x.id).rots.getD ((lessM n x.id).g.vs.idxOf x.b) [] := by rcases sb with k | k; exact absurd (l1.1 k.1) nb; exact k
      rw [← link_row_at ho hl hl.a ma, ← link_row_at ho hl hl.b mb]
      exact hS
  · unfold stpM
    rw [if_neg (show ¬ (3 : Int) = 1 by decide), if_neg (show ¬ (3 : Int) = 2 by decide), if_pos rfl]
    exact less_back h.ok hx hA
theorem noLinkW_mk {m : Mp} {x : Ed} (hx : x ∈ m.g.es) : noLinkW m x.id = 0 := by
  unfold noLinkW
  rw [if_neg]
  intro k
  exact fe_neg.1 k x hx rfl
def DoAll : Mp → List Sp → Prop
  | _, [] => True
  | m, s :: l => stpW m s = 0 ∧ DoAll (stpM m s) l
theorem aft_cons (m : Mp) (s : Sp) (l : List Sp) : aft m (s :: l) = aft (stpM m s) l := rfl
theorem aft_append (m : Mp) (l l' : List Sp) : aft m (l ++ l') = aft (aft m l) l' := by unfold aft; rw [List.foldl_append]
theorem doAll_append : ∀ (m : Mp) (l l' : List Sp), DoAll m (l ++ l') ↔ DoAll m l ∧ DoAll (aft m l) l'
  | m, [], l' => by simp [DoAll, aft]
  | m, s :: l, l' => by
    rw [List.cons_append]
    simp only [DoAll]
    rw [doAll_append (stpM m s) l l', aft_cons, and_assoc]
theorem doAll_to : ∀ (m : Mp) (l : List Sp), DoTo m l l.length ↔ DoAll m l
  | m, [] => ⟨fun _ => trivial, fun _ i hi => by simp at hi⟩
  | m, s :: l => by
    simp only [DoAll]
    rw [← doAll_to (stpM m s) l]
    constructor
    · intro h
      refine ⟨h 0 (by simp), fun i hi => ?_⟩
      have := h (i + 1) (by simpa using hi)
      rw [List.take_succ_cons, aft_cons, List.getD_cons_succ] at this
      exact this
    · rintro ⟨h1, h2⟩ i hi
      cases i with
      | zero => exact h1
      | succ i =>
        rw [List.take_succ_cons, aft_cons, List.getD_cons_succ]
        exact h2 i (by simpa using hi)
theorem doAll_drw : ∀ {m : Mp} {l : List Sp}, Drw m → DoAll m l → Drw (aft m l) ∧ (gn m = 0 → gn (aft m l) = 0)
  | m, [], h, _ => ⟨h, fun k => k⟩
  | m, s :: l, h, hd => by
    obtain ⟨k1, k2⟩ := step_drw h hd.1
    obtain ⟨q1, q2⟩ := doAll_drw k1 hd.2
    rw [aft_cons]
    exact ⟨q1, fun hg => q2 (k2 hg)⟩
theorem cyc_filter {a b : List Int} (h : Cyc a b) (p : Int → Bool) : Cyc (a.filter p) (b.filter p) := by
  obtain ⟨k, hk, rfl⟩ := h
  refine ⟨((a.take k).filter p).length, ?_, ?_⟩
  · have := List.take_append_drop k a
    conv => rhs; rw [← this, List.filter_append, List.length_append]
    omega
  · unfold rt
    have e : a.filter p = (a.take k).filter p ++ (a.drop k).filter p := by rw [← List.filter_append, List.take_append_drop]
    rw [List.filter_append, e, List.drop_left, List.take_left]
theorem kept_congr {m : Mp} (h : MapOk m) {I J : List Int} (hIJ : ∀ x ∈ m.g.es, (x.id ∈ I ↔ x.id ∈ J)) : keptM m I = keptM m J := by
  unfold keptM
  congr 1
  · congr 1
    exact List.filter_congr fun x hx => decide_eq_decide.2 (hIJ x hx)
  · refine List.map_congr_left fun t ht => ?_
    congr 1
    refine List.filter_congr fun d hd => ?_
    obtain ⟨x, hx, e⟩ := darts_half.1 (h.turn_dart ht hd)
    rw [← e]
    exact decide_eq_decide.2 (hIJ x hx)
theorem kept_all {m : Mp} (h : MapOk m) {I : List Int} (hI : ∀ x ∈ m.g.es, x.id ∈ I) : keptM m I = m := by
  obtain ⟨⟨vs, es⟩, rs⟩ := m
  unfold keptM
  congr 1
  · congr 1
    exact List.filter_eq_self.2 fun x hx => by simpa using hI x hx
  · conv => rhs; rw [← List.map_id rs]
    refine List.map_congr_left fun t ht => ?_
    rw [List.filter_eq_self.2 fun d hd => ?_]
    · obtain ⟨k, hk, rfl, ho⟩ := h.turn ht
      exact ho.2
    · obtain ⟨x, hx, e⟩ := darts_half.1 (h.turn_dart ht hd)
      rw [← e]
      simpa using hI x hx
theorem less_kept2 {m : Mp} (h : MapOk m) (I : List Int) (id : Int) : lessM (keptM m I) id = keptM m (I.filter fun y => decide (y ≠ id)) := by
  unfold lessM keptM
  simp only [List.map_map]
  congr 1
  · congr 1
    rw [List.filter_filter]
    refine List.filter_congr fun x _ => ?_
    rw [Bool.eq_iff_iff]
    simp only [Bool.and_eq_true, decide_eq_true_eq, List.mem_filter]
    exact and_comm
  · refine List.map_congr_left fun t ht => ?_
    simp only [Function.comp]
    rw [wo_half]
    have hc := cyc_filter (cyc_nrm (t.filter fun d => decide (d / 2 ∈ I))) fun d => decide (d / 2 ≠ id)
    rw [nrm_cyc hc (((h.nodup ht).filter _).filter _), List.filter_filter]
    congr 1
    refine List.filter_congr fun d _ => ?_
    rw [Bool.eq_iff_iff]
    simp only [Bool.and_eq_true, decide_eq_true_eq, List.mem_filter]
    exact and_comm
theorem gone_all {m : Mp} (h : MapOk m) : ∀ (L : List Ed) (I : List Int), (∀ x ∈ L, x ∈ m.g.es ∧ x.id ∈ I) → L.Pairwise (fun x y => x.id ≠ y.id) →
    DoAll (keptM m I) (L.map fun x => ⟨4, x.id, 0, 0, 0, 0⟩) ∧ aft (keptM m I) (L.map fun x => ⟨4, x.id, 0, 0, 0, 0⟩) = keptM m (I.filter fun y => decide (y ∉ L.map (·.id)))
  | [], I, _, _ => ⟨trivial, by
    show keptM m I = _
    congr 1
    exact (List.filter_eq_self.2 fun y _ => by simp).symm⟩
  | x :: L, I, hL, hn => by
    rw [List.pairwise_cons] at hn
    obtain ⟨hx, hxI⟩ := hL x (by simp)
    have hin : x ∈ (keptM m I).g.es := List.mem_filter.2 ⟨hx, by simpa using hxI⟩
    have e1 : stpM (keptM m I) ⟨4, x.id, 0, 0, 0, 0⟩ = keptM m (I.filter fun y => decide (y ≠ x.id)) := by
      rw [← less_kept2 h]
      unfold stpM
      rw [if_neg (show ¬ (4 : Int) = 1 by decide), if_neg (show ¬ (4 : Int) = 2 by decide), if_neg (show ¬ (4 : Int) = 3 by decide)]
    have e2 : stpW (keptM m I) ⟨4, x.id, 0, 0, 0, 0⟩ = 0 := by
      unfold stpW
      rw [if_neg (fun k => k (form0 (.inr (.inr rfl)) (h.g.pos x hx))), if_neg (show ¬ (4 : Int) = 1 by decide), if_neg (show ¬ (4 : Int) = 2 by decide), if_neg (show ¬ (4 : Int) = 3 by decide)]
      exact noLinkW_mk hin
    obtain ⟨k1, k2⟩ := gone_all h L (I.filter fun y => decide (y ≠ x.id)) (fun y hy => ⟨(hL y (List.mem_cons_of_mem _ hy)).1, List.mem_filter.2 ⟨(hL y (List.mem_cons_of_mem _ hy)).2, by simpa using Ne.symm (hn.1 y hy)⟩⟩) hn.2
    rw [List.map_cons]
    simp only [DoAll]
    rw [aft_cons, e1, e2, k2, List.filter_filter]
    refine ⟨⟨rfl, k1⟩, kept_congr h fun y _ => ?_⟩
    simp only [List.mem_filter, List.map_cons, List.mem_cons, not_or, Bool.and_eq_true, decide_eq_true_eq]
    constructor
    · rintro ⟨q1, q2, q3⟩; exact ⟨q1, q3, q2⟩
    · rintro ⟨q1, q2, q3⟩; exact ⟨q1, q3, q2⟩
theorem ids_ne {es : List Ed} (h : es.Pairwise fun x y => x.id < y.id) : es.Pairwise fun x y => x.id ≠ y.id := h.imp fun k => by omega
theorem kept_drw {m : Mp} (h : Drw m) (I : List Int) : Drw (keptM m I) ∧ (gn m = 0 → gn (keptM m I) = 0) := by
  have hg := gone_all h.ok (m.g.es.filter fun x => decide (x.id ∉ I)) (m.g.es.map (·.id)) (fun x hx => ⟨(List.mem_filter.1 hx).1, List.mem_map_of_mem (List.mem_filter.1 hx).1⟩) ((ids_ne h.ok.g.ids).sublist List.filter_sublist)
  rw [kept_all h.ok fun x hx => List.mem_map_of_mem hx] at hg
  have e : keptM m ((m.g.es.map (·.id)).filter fun y => decide (y ∉ (m.g.es.filter fun x => decide (x.id ∉ I)).map (·.id))) = keptM m I := kept_congr h.ok fun x hx => by
    simp only [List.mem_filter, List.mem_map, decide_eq_true_eq, not_exists, not_and]
    constructor
    · rintro ⟨_, k⟩
      exact Classical.byContradiction fun hn => k x ⟨hx, hn⟩ rfl
    · intro hI
      refine ⟨⟨x, hx, rfl⟩, fun y hy hyx => hy.2 (by rw [hyx]; exact hI)⟩
  rw [e] at hg
  have := doAll_drw h hg.1
  rw [hg.2] at this
  exact this
theorem less_vs : ∀ (L : List Int) {m : Mp}, Drw m → L.Nodup → (∀ v ∈ L, v ∈ m.g.vs ∧ ends m.g.es v = []) →
    DoAll m (L.map fun v => ⟨2, v, 0, 0, 0, 0⟩) ∧ (aft m (L.map fun v => ⟨2, v, 0, 0, 0, 0⟩)).g.es = m.g.es ∧ (∀ d, sg (aft m (L.map fun v => ⟨2, v, 0, 0, 0, 0⟩)) d = sg m d) ∧ ∀ w, w ∈ (aft m (L.map fun v => ⟨2, v, 0, 0, 0, 0⟩)).g.vs ↔ w ∈ m.g.vs ∧ w ∉ L
  | [], m, _, _, _ => ⟨trivial, rfl, fun _ => rfl, fun w => by simp [aft]⟩
  | v :: L, m, h, hn, hL => by
    rw [List.nodup_cons] at hn
    obtain ⟨hv, he⟩ := hL v (by simp)
    have h0 : m.rots.getD (m.g.vs.idxOf v) [] = [] := by
      have hi := List.idxOf_lt_length_of_mem hv
      have := (h.ok.ok _ hi).1
      rw [getD_lt _ _ hi, List.getElem_idxOf hi, he] at this
      exact this.eq_nil
    have e1 : stpM m ⟨2, v, 0, 0, 0, 0⟩ = delV m v := by
      unfold stpM
      rw [if_neg (show ¬ (2 : Int) = 1 by decide), if_pos rfl]
    have e2 : stpW m ⟨2, v, 0, 0, 0, 0⟩ = 0 := by
      unfold stpW
      rw [if_neg (fun k => k (form0 (.inr (.inl rfl)) (h.vp v hv))), if_neg (show ¬ (2 : Int) = 1 by decide), if_pos rfl]
      unfold noVertexW
      rw [if_neg (fun k => k hv), if_neg (fun k => k h0)]
    have hp := del_perm h hv h0
    have hout := del_out h hv h0
    obtain ⟨k1, k2, k3, k4⟩ := less_vs L (delV_drw h hv h0).1 hn.2 fun w hw => by
      obtain ⟨q1, q2⟩ := hL w (List.mem_cons_of_mem _ hw)
      have := hp.mem_iff.1 q1
      rw [List.mem_cons] at this
      rcases this with rfl | k
      · exact absurd hw hn.1
      · exact ⟨k, q2⟩
    rw [List.map_cons]
    simp only [DoAll]
    rw [aft_cons, e1, e2]
    refine ⟨⟨rfl, k1⟩, k2, fun d => by rw [k3, delV_sg h hv h0], fun w => ?_⟩
    rw [k4, hp.mem_iff, List.mem_cons, List.mem_cons, not_or]
    constructor
    · rintro ⟨q1, q2⟩
      exact ⟨.inr q1, fun e => hout (e ▸ q1), q2⟩
    · rintro ⟨q1 | q1, q2, q3⟩
      · exact absurd q1 q2
      · exact ⟨q1, q3⟩
theorem more_vs : ∀ (L : List Int) {m : Mp}, Drw m → L.Nodup → (∀ v ∈ L, v ∉ m.g.vs ∧ 1 ≤ v ∧ v ≤ 1048576) → m.g.vs.length + L.length ≤ 64 →
    DoAll m (L.map fun v => ⟨1, v, 0, 0, 0, 0⟩) ∧ (aft m (L.map fun v => ⟨1, v, 0, 0, 0, 0⟩)).g.es = m.g.es ∧ (∀ d, sg (aft m (L.map fun v => ⟨1, v, 0, 0, 0, 0⟩)) d = sg m d) ∧ ∀ w, w ∈ (aft m (L.map fun v => ⟨1, v, 0, 0, 0, 0⟩)).g.vs ↔ w ∈ m.g.vs ∨ w ∈ L
  | [], m, _, _, _, _ => ⟨trivial, rfl, fun _ => rfl, fun w => by simp [aft]⟩
  | v :: L, m, h, hn, hL, h64 => by
    rw [List.nodup_cons] at hn
    rw [List.length_cons] at h64
    obtain ⟨hv, hr⟩ := hL v (by simp)
    have e1 : stpM m ⟨1, v, 0, 0, 0, 0⟩ = addV m v := by
      unfold stpM
      rw [if_pos rfl]
    have e2 : stpW m ⟨1, v, 0, 0, 0, 0⟩ = 0 := by
      unfold stpW
      rw [if_neg (fun k => k (form0 (.inl rfl) hr)), if_pos rfl]
      unfold vertexW
      rw [if_neg hv, if_neg (by omega)]
    have hp := mid_perm m.g.vs (lss m.g.vs v) v
    have hpl := hp.length_eq
    rw [List.length_cons] at hpl
    obtain ⟨k1, k2, k3, k4⟩ := more_vs L (addV_drw h hv hr (by omega)).1 hn.2 (fun w hw => by
      obtain ⟨q1, q2⟩ := hL w (List.mem_cons_of_mem _ hw)
      refine ⟨fun k => ?_, q2⟩
      have := hp.mem_iff.1 k
      rw [List.mem_cons] at this
      rcases this with rfl | k
      · exact hn.1 hw
      · exact q1 k) (by show (m.g.vs.take _ ++ v :: m.g.vs.drop _).length + _ ≤ 64; omega)
    rw [List.map_cons]
    simp only [DoAll]
    rw [aft_cons, e1, e2]
    refine ⟨⟨rfl, k1⟩, k2, fun d => by rw [k3, addV_sg h], fun w => ?_⟩
    rw [k4, show (w ∈ (addV m v).g.vs ↔ w ∈ v :: m.g.vs) from hp.mem_iff, List.mem_cons, List.mem_cons]
    constructor
    · rintro ((q | q) | q)
      · exact .inr (.inl q)
      · exact .inl q
      · exact .inr (.inr q)
    · rintro (q | q | q)
      · exact .inl (.inr q)
      · exact .inl (.inl q)
      · exact .inr q
theorem keptR_facts (a b : Mp) : (∀ i ∈ keptR a b, ∃ x ∈ a.g.es, x ∈ b.g.es ∧ x.id = i) ∧ ∀ v, sameW a b (keptR a b) v = true := by
  have key : ∀ (l : List Ed) (K : List Int), (∀ x ∈ l, x ∈ a.g.es) → (∀ i ∈ K, ∃ x ∈ a.g.es, x ∈ b.g.es ∧ x.id = i) → (∀ v, sameW a b K v = true) →
      (∀ i ∈ l.foldl (keepR a b) K, ∃ x ∈ a.g.es, x ∈ b.g.es ∧ x.id = i) ∧ ∀ v, sameW a b (l.foldl (keepR a b) K) v = true := by
    intro l
    induction l with
    | nil => intro K _ h1 h2; exact ⟨h1, h2⟩
    | cons x l ih =>
      intro K hl h1 h2
      rw [List.foldl_cons]
      have hl2 := fun y hy => hl y (List.mem_cons_of_mem x hy)
      by_cases hc : x ∈ b.g.es ∧ alikeW a b (K ++ [x.id]) = true
      · have e : keepR a b K x = K ++ [x.id] := by unfold keepR; rw [if_pos hc]
        rw [e]
        refine ih _ hl2 (fun i hi => ?_) (alike_all.1 hc.2)
        rw [List.mem_append, List.mem_singleton] at hi
        rcases hi with hi | rfl
        · exact h1 i hi
        · exact ⟨x, hl x (by simp), hc.1, rfl⟩
      · have e : keepR a b K x = K := by unfold keepR; rw [if_neg hc]
        rw [e]
        exact ih _ hl2 h1 h2
  exact key a.g.es [] (fun x hx => hx) (by simp) fun v => by
    have e : ∀ m : Mp, tnW m v [] = [] := fun m => by unfold tnW; rw [List.filter_eq_nil_iff]; intro d _; simp
    unfold sameW; rw [e, e]; simp
theorem sg_kept {m : Mp} (h : MapOk m) {K : List Int} {v d : Int} (hd : d ∈ tnW m v K) : sg (keptM m K) d = nx (nrm (tnW m v K)) d ∧ turnOf (keptM m K).rots d = nrm (tnW m v K) := by
  have hr : d ∈ rowW m v := (List.mem_filter.1 hd).1
  have hv : v ∈ m.g.vs := by
    unfold rowW at hr
    split at hr
    · assumption
    · simp at hr
  have hi := List.idxOf_lt_length_of_mem hv
  have hlen := h.len
  have hrow : rowW m v = m.rots.getD (m.g.vs.idxOf v) [] := by unfold rowW; rw [if_pos hv]
  have hin : nrm (tnW m v K) ∈ (keptM m K).rots := by
    unfold keptM tnW
    rw [hrow]
    exact List.mem_map.2 ⟨_, by rw [getR_lt _ _ (by omega)]; exact List.getElem_mem _, rfl⟩
  have ho := kept_ok h K
  have hdn : d ∈ nrm (tnW m v K) := (nrm_mem _ _).2 hd
  refine ⟨sg_at ho hin hdn, ?_⟩
  obtain ⟨h1, h2⟩ := turn_of_dart ho (ho.turn_dart hin hdn)
  exact ho.same h1 hin h2 hdn
theorem dart_tn {m : Mp} (h : MapOk m) {K : List Int} {d : Int} (hd : d ∈ darts (keptM m K).g.es) : ∃ v, d ∈ tnW m v K := by
  obtain ⟨x, hx, e⟩ := darts_half.1 hd
  obtain ⟨hx1, hx2⟩ := List.mem_filter.1 hx
  obtain ⟨v, hv, _⟩ := dart_at (darts_half.2 ⟨x, hx1, e⟩)
  refine ⟨v, List.mem_filter.2 ⟨(row_ends h).2 hv, ?_⟩⟩
  rw [← e]; simpa using hx2
section
variable {a b : Mp} (ha : Drw a) (hb : Drw b)
include ha hb
theorem kept_es : (keptM a (keptR a b)).g.es = (keptM b (keptR a b)).g.es := by
  obtain ⟨k1, _⟩ := keptR_facts a b
  refine es_ext (kept_ok ha.ok _).g.ids (kept_ok hb.ok _).g.ids fun y => ?_
  show y ∈ a.g.es.filter _ ↔ y ∈ b.g.es.filter _
  rw [List.mem_filter, List.mem_filter]
  constructor
  · rintro ⟨h1, h2⟩
    obtain ⟨x, hx, hx2, e⟩ := k1 y.id (by simpa using h2)
    have := id_eq ha.ok.g.ids h1 hx e.symm
    exact ⟨this ▸ hx2, h2⟩
  · rintro ⟨h1, h2⟩
    obtain ⟨x, hx, hx2, e⟩ := k1 y.id (by simpa using h2)
    have := id_eq hb.ok.g.ids h1 hx2 e.symm
    exact ⟨this ▸ hx, h2⟩
theorem kept_sg (d : Int) : sg (keptM a (keptR a b)) d = sg (keptM b (keptR a b)) d := by
  obtain ⟨_, k2⟩ := keptR_facts a b
  have he := kept_es ha hb
  by_cases hd : d ∈ darts (keptM a (keptR a b)).g.es
  · obtain ⟨v, hv⟩ := dart_tn ha.ok hd
    have hs : nrm (tnW a v (keptR a b)) = nrm (tnW b v (keptR a b)) := by have := k2 v; unfold sameW at this; simpa using this
    have hv2 : d ∈ tnW b v (keptR a b) := (nrm_mem _ _).1 (hs ▸ (nrm_mem _ _).2 hv)
    rw [(sg_kept ha.ok hv).1, (sg_kept hb.ok hv2).1, hs]
  · rw [(kept_ok ha.ok _).sg_id hd, (kept_ok hb.ok _).sg_id (he ▸ hd)]
theorem diff_mid : DoAll a (gone a (keptR a b) ++ lessV a b ++ moreV a b) ∧ aft a (gone a (keptR a b) ++ lessV a b ++ moreV a b) = keptM b (keptR a b) := by
  obtain ⟨k1, k2⟩ := keptR_facts a b
  have hg := gone_all ha.ok (a.g.es.filter fun x => decide (x.id ∉ keptR a b)) (a.g.es.map (·.id)) (fun x hx => ⟨(List.mem_filter.1 hx).1, List.mem_map_of_mem (List.mem_filter.1 hx).1⟩) ((ids_ne ha.ok.g.ids).sublist List.filter_sublist)
  rw [kept_all ha.ok fun x hx => List.mem_map_of_mem hx] at hg
  have e : keptM a ((a.g.es.map (·.id)).filter fun y => decide (y ∉ (a.g.es.filter fun x => decide (x.id ∉ keptR a b)).map (·.id))) = keptM a (keptR a b) := kept_congr ha.ok fun x hx => by
    simp only [List.mem_filter, List.mem_map, decide_eq_true_eq, not_exists, not_and]
    constructor
    · rintro ⟨_, k⟩
      exact Classical.byContradiction fun hn => k x ⟨hx, hn⟩ rfl
    · intro hI
      refine ⟨⟨x, hx, rfl⟩, fun y hy hyx => hy.2 (by rw [hyx]; exact hI)⟩
  rw [e] at hg
  obtain ⟨g1, g2⟩ := hg
  have hk := (kept_drw ha (keptR a b)).1
  have hes := kept_es ha hb
  obtain ⟨l1, l2, l3, l4⟩ := less_vs (a.g.vs.filter fun v => decide (v ∉ b.g.vs)) hk ((rise_nodup ha.ok.g.rise).filter _) fun v hv => by
    obtain ⟨q1, q2⟩ := List.mem_filter.1 hv
    have q2' : v ∉ b.g.vs := by simpa using q2
    refine ⟨q1, ?_⟩
    rw [hes]
    exact alone_out (kept_drw hb (keptR a b)).1 q2'
  have hm2 := (doAll_drw hk l1).1
  generalize hM2 : aft (keptM a (keptR a b)) ((a.g.vs.filter fun v => decide (v ∉ b.g.vs)).map fun v => ⟨2, v, 0, 0, 0, 0⟩) = m2 at *
  have hmem : ∀ w, w ∈ m2.g.vs ↔ w ∈ a.g.vs ∧ w ∈ b.g.vs := fun w => by
    rw [l4, List.mem_filter]
    show w ∈ a.g.vs ∧ ¬ (w ∈ a.g.vs ∧ _) ↔ _
    simp only [decide_eq_true_eq, not_and, Classical.not_not]
    constructor
    · rintro ⟨q1, q2⟩; exact ⟨q1, q2 q1⟩
    · rintro ⟨q1, q2⟩; exact ⟨q1, fun _ => q2⟩
  have hlen : m2.g.vs.length + (b.g.vs.filter fun v => decide (v ∉ a.g.vs)).length ≤ 64 := by
    have hp : (m2.g.vs ++ b.g.vs.filter fun v => decide (v ∉ a.g.vs)).Perm b.g.vs := by
      refine (List.perm_ext_iff_of_nodup ?_ (rise_nodup hb.ok.g.rise)).2 fun w => ?_
      · rw [List.nodup_append]
        refine ⟨rise_nodup hm2.ok.g.rise, (rise_nodup hb.ok.g.rise).filter _, fun x hx y hy e => ?_⟩
        have := (List.mem_filter.1 hy).2
        simp only [decide_eq_true_eq] at this
        exact this (e ▸ ((hmem x).1 hx).1)
      · rw [List.mem_append, hmem, List.mem_filter]
        simp only [decide_eq_true_eq]
        constructor
        · rintro (q | q)
          · exact q.2
          · exact q.1
        · intro q
          by_cases qa : w ∈ a.g.vs
          · exact .inl ⟨qa, q⟩
          · exact .inr ⟨q, qa⟩
    have := hp.length_eq
    rw [List.length_append] at this
    have := hb.v
    omega
  obtain ⟨n1, n2, n3, n4⟩ := more_vs (b.g.vs.filter fun v => decide (v ∉ a.g.vs)) hm2 ((rise_nodup hb.ok.g.rise).filter _) (fun v hv => by
    obtain ⟨q1, q2⟩ := List.mem_filter.1 hv
    have q2' : v ∉ a.g.vs := by simpa using q2
    exact ⟨fun k => q2' ((hmem v).1 k).1, hb.vp v q1⟩) hlen
  have hm3 := (doAll_drw hm2 n1).1
  have e2 : aft m2 ((b.g.vs.filter fun v => decide (v ∉ a.g.vs)).map fun v => ⟨1, v, 0, 0, 0, 0⟩) = keptM b (keptR a b) := by
    refine map_ext hm3.ok (kept_ok hb.ok _) (rise_unique hm3.ok.g.rise hb.ok.g.rise fun w => ?_) ?_ fun d => ?_
    · rw [n4, hmem, List.mem_filter]
      simp only [decide_eq_true_eq]
      constructor
      · rintro (q | q)
        · exact q.2
        · exact q.1
      · intro q
        by_cases qa : w ∈ a.g.vs
        · exact .inl ⟨qa, q⟩
        · exact .inr ⟨q, qa⟩
    · rw [n2, l2, hes]
    · rw [n3, l3, kept_sg ha hb]
  have g1' : DoAll a (gone a (keptR a b)) := g1
  have g2' : aft a (gone a (keptR a b)) = keptM a (keptR a b) := g2
  have l1' : DoAll (keptM a (keptR a b)) (lessV a b) := l1
  have hM2' : aft (keptM a (keptR a b)) (lessV a b) = m2 := hM2
  have n1' : DoAll m2 (moreV a b) := n1
  have e2' : aft m2 (moreV a b) = keptM b (keptR a b) := e2
  rw [doAll_append, doAll_append, aft_append a (gone a (keptR a b) ++ lessV a b), aft_append a (gone a (keptR a b)), g2', hM2', e2']
  exact ⟨⟨⟨g1', l1'⟩, n1'⟩, rfl⟩
end
theorem pv_self {l : List Int} (hn : l.Nodup) {d : Int} (hd : d ∈ l) : pv l d = d ↔ l.length = 1 := by
  have hi := List.idxOf_lt_length_of_mem hd
  have hj := Nat.mod_lt (l.idxOf d + (l.length - 1)) (show 0 < l.length by omega)
  have e1 : pv l d = l[(l.idxOf d + (l.length - 1)) % l.length] := by unfold pv; rw [if_pos hd, getD_lt _ _ hj]
  rw [e1]
  constructor
  · intro h
    have h2 : l.idxOf l[(l.idxOf d + (l.length - 1)) % l.length] = l.idxOf d := by rw [h]
    rw [idx_get hn hj] at h2
    rcases Nat.eq_zero_or_pos (l.idxOf d) with h0 | h0
    · rw [h0, Nat.zero_add, Nat.mod_eq_of_lt (by omega)] at h2; omega
    · rw [show l.idxOf d + (l.length - 1) = (l.idxOf d - 1) + l.length by omega, Nat.add_mod_right, Nat.mod_eq_of_lt (by omega)] at h2; omega
  · intro h
    have h0 : l.idxOf d = 0 := by omega
    have : (l.idxOf d + (l.length - 1)) % l.length = l.idxOf d := by rw [h0, h]
    have h3 := List.getElem_idxOf hi
    simp only [this]
    exact h3
theorem ahead_kept {b : Mp} (hb : MapOk b) {T : List Int} {v d : Int} (hd : d ∈ tnW b v T) : ahdW (keptM b T) d = aheadW b v d T := by
  have hn := tn_nodup hb v T
  have ht := (sg_kept hb hd).2
  unfold ahdW aheadW
  rw [ht, cyc_pv (cyc_nrm _) hn]
  by_cases h1 : (tnW b v T).length = 1
  · rw [if_pos h1, if_pos ((pv_self hn hd).2 h1)]
  · rw [if_neg h1, if_neg fun k => h1 ((pv_self hn hd).1 k)]
def lkW (b : Mp) (K : List Int) : List Int → List Ed → List Sp
  | _, [] => []
  | T, x :: l => if x.id ∈ K then lkW b K T l else ⟨3, x.id, x.a, x.b, aheadW b x.a (2 * x.id) (T ++ [x.id]), aheadW b x.b (2 * x.id + 1) (T ++ [x.id])⟩ :: lkW b K (T ++ [x.id]) l
theorem lkW_cons (b : Mp) (K T : List Int) (x : Ed) (l : List Ed) : lkW b K T (x :: l) = if x.id ∈ K then lkW b K T l else ⟨3, x.id, x.a, x.b, aheadW b x.a (2 * x.id) (T ++ [x.id]), aheadW b x.b (2 * x.id + 1) (T ++ [x.id])⟩ :: lkW b K (T ++ [x.id]) l := rfl
theorem lk_out (b : Mp) (K : List Int) : ∀ (l : List Ed) (S : Lk), (l.foldl (link1 b K) S).out = S.out ++ lkW b K S.T l
  | [], S => by simp [lkW]
  | x :: l, S => by
    rw [List.foldl_cons, lk_out b K l, lkW_cons]
    unfold link1
    by_cases h : x.id ∈ K
    · rw [if_pos h, if_pos h]
    · rw [if_neg h, if_neg h]
      simp
theorem lk_all {b : Mp} (hb : Drw b) (hg : gn b = 0) (K : List Int) : ∀ (l : List Ed) (T : List Int), (∀ x ∈ l, x ∈ b.g.es) → l.Pairwise (fun x y => x.id ≠ y.id) → (∀ x ∈ l, x.id ∈ K ∧ x.id ∈ T ∨ x.id ∉ K ∧ x.id ∉ T) →
    DoAll (keptM b T) (lkW b K T l) ∧ ∃ T', aft (keptM b T) (lkW b K T l) = keptM b T' ∧ (∀ i ∈ T, i ∈ T') ∧ ∀ x ∈ l, x.id ∈ T'
  | [], T, _, _, _ => ⟨trivial, T, rfl, fun i h => h, by simp⟩
  | x :: l, T, hl, hn, hK => by
    rw [List.pairwise_cons] at hn
    have hx := hl x (by simp)
    have hl2 := fun y hy => hl y (List.mem_cons_of_mem x hy)
    rw [lkW_cons]
    rcases hK x (by simp) with ⟨k1, k2⟩ | ⟨k1, k2⟩
    · rw [if_pos k1]
      obtain ⟨q1, T', q2, q3, q4⟩ := lk_all hb hg K l T hl2 hn.2 fun y hy => hK y (List.mem_cons_of_mem _ hy)
      refine ⟨q1, T', q2, q3, fun y hy => ?_⟩
      rw [List.mem_cons] at hy
      rcases hy with rfl | hy
      · exact q3 _ k2
      · exact q4 y hy
    · rw [if_neg k1]
      obtain ⟨q1, T', q2, q3, q4⟩ := lk_all hb hg K l (T ++ [x.id]) hl2 hn.2 fun y hy => by
        have hne := hn.1 y hy
        rcases hK y (List.mem_cons_of_mem _ hy) with ⟨h1, h2⟩ | ⟨h1, h2⟩
        · exact .inl ⟨h1, List.mem_append_left _ h2⟩
        · refine .inr ⟨h1, fun h => ?_⟩
          rw [List.mem_append, List.mem_singleton] at h
          rcases h with h | h
          · exact h2 h
          · exact hne h.symm
      obtain ⟨hnd, hng⟩ := kept_drw hb (T ++ [x.id])
      have hin : x ∈ (keptM b (T ++ [x.id])).g.es := List.mem_filter.2 ⟨hx, by simp⟩
      obtain ⟨b1, b2⟩ := back_ok hnd (hng hg) hin
      obtain ⟨t1, t2⟩ := tn_dart hb.ok hx (T := T ++ [x.id]) (by simp)
      rw [ahead_kept hb.ok t1, ahead_kept hb.ok t2] at b1 b2
      have e : lessM (keptM b (T ++ [x.id])) x.id = keptM b T := by
        rw [less_kept2 hb.ok]
        refine kept_congr hb.ok fun y hy => ?_
        simp only [List.mem_filter, List.mem_append, List.mem_singleton, decide_eq_true_eq]
        constructor
        · rintro ⟨h | h, h2⟩
          · exact h
          · exact absurd h h2
        · intro h
          exact ⟨.inl h, fun h2 => k2 (h2 ▸ h)⟩
      rw [e] at b1 b2
      simp only [DoAll]
      rw [aft_cons, b1, b2]
      refine ⟨⟨rfl, q1⟩, T', q2, fun i hi => q3 i (List.mem_append_left _ hi), fun y hy => ?_⟩
      rw [List.mem_cons] at hy
      rcases hy with rfl | hy
      · exact q3 _ (by simp)
      · exact q4 y hy
theorem diff_all {a b : Mp} (ha : Drw a) (hb : Drw b) (hg : gn b = 0) : DoAll a (diffW a b (keptR a b)) ∧ aft a (diffW a b (keptR a b)) = b := by
  obtain ⟨m1, m2⟩ := diff_mid ha hb
  have ho := lk_out b (keptR a b) b.g.es ⟨keptR a b, []⟩
  simp only [List.nil_append] at ho
  obtain ⟨l1, T', l2, l3, l4⟩ := lk_all hb hg (keptR a b) b.g.es (keptR a b) (fun x hx => hx) (ids_ne hb.ok.g.ids) fun x _ => by
    by_cases h : x.id ∈ keptR a b
    · exact .inl ⟨h, h⟩
    · exact .inr ⟨h, h⟩
  unfold diffW links
  rw [ho, doAll_append, aft_append a (gone a (keptR a b) ++ lessV a b ++ moreV a b), m2, l2, kept_all hb.ok l4]
  exact ⟨⟨m1, l1⟩, rfl⟩
theorem awp_weakS {P : Program} {N : Nat} {Q : AQ} {c : Code} {fr : Frm} {st : St} (I : Frm → St → Prop) (h0 : I fr st) (h : ∀ fr st, I fr st → AWp P N c Q fr st) : AWp P N c Q fr st := h _ _ h0
theorem sps_append (a b : List Sp) : sps (a ++ b) = sps a ++ sps b := by simp [sps]
theorem rSame10K (a : Mp) (st : St) (hv : a.g.vs.length ≤ 1000) (he : a.g.es.length ≤ 1000) (hr : a.rots.length ≤ 1000) (hs : ∀ t ∈ a.rots, small t) :
    ACalls Tryz.prog 18 [.ag (mpL a), .ag (mpL a)] st fun r st' => r = bb true ∧ Keeps st st' := by
  refine qO tabOk Tryz.func18 rfl rfl Tryz.ntmps18 (rs := [.tmp 4]) rfl (by simp) ?_
  (repeat' (first | refine qS ?_ | (refine w_e [] ?_; intro J hJ; simp only []; simp []; (try (refine hJ _ _ ?_; clear hJ J; simp only [ak, reduceIte])))))
  refine qE (ref_SameG a.g a.g _ (by omega) (by omega)) (by simp) ?_; rintro r s1 ⟨rfl, hk1⟩
  have hn1 := hk1.next
  simp only [new_next] at hn1
  have hA1 : s1.H st.next = .box 28 3 (mpL a) := by rw [hk1.H _ (by simp; omega)]; simp
  have hB1 : s1.H (st.next + 1) = .box 28 3 (mpL a) := by rw [hk1.H _ (by simp)]; simp
  have hK1 : Keeps st s1 := ((Keeps.new _ _).trans (Keeps.new _ _)).trans hk1
  (repeat' (first | refine qS ?_ | refine qB ?_ | (refine qK ?_; simp only [ak, reduceIte]) | (refine qC ?_; simp [hA1, hB1]) | ((first | (refine w_e [] ?_; intro J hJ; simp only []) | (refine e_go ?_)); simp [hA1, hB1]; (refine hJ _ _ ?_; clear hJ J; simp only [ak, reduceIte]))))
  refine awp_range 24 23 25 39 (a.rots.length) (fun j fr st2 => fr 2 = .pt st.next 0 ∧ fr 3 = .pt (st.next + 1) 0 ∧ st2 = s1) ?_ ?_ ?_
  · exact ⟨by simp, by simp, rfl⟩
  · rintro j fr s2 hlt ⟨f2, f3, rfl⟩ fi fn JJ hJJ
    have hd := rowsL_drop a.rots j hlt
    have hRl2 : j < (rowsL a.rots).length := by simpa using hlt
    have hsk := hs (a.rots.getD j []) (by rw [getR_lt _ _ hlt]; exact List.getElem_mem _)
    generalize a.rots.getD j [] = c at *
    (repeat' (first | refine qS ?_ | (refine w_e [] ?_; intro J hJ; simp only []; simp [fi, fn]; (refine hJ _ _ ?_; clear hJ J; simp only [ak, reduceIte]))))
    (refine w_s [] [st.next, st.next + 1] [(0, true), (1, true), (2, true), (3, true), (4, true), (5, true), (6, true), (7, true), (8, true), (9, true), (10, true), (11, true)] ?_; intro J hJ; simp [f2, f3, hA1, hB1, hd, hRl2, hlt])
    refine qD (ref_Same c c 0 0 _ hsk) (by simp) ?_; rintro r s3 ⟨rfl, rfl⟩
    refine ⟨fun _ => by simp, ?_⟩
    (refine d_go ?_; simp []; (refine hJ _ _ ?_; clear hJ J; simp only [ak, reduceIte]))
    (repeat' (first | (refine qK ?_; simp only [ak, reduceIte]) | (refine qC ?_; simp [])))
    exact hJJ _ _ (by simp [fi]) (by simp [fn]) ⟨by simp [f2], by simp [f3], rfl⟩
  · rintro fr s2 ⟨f2, f3, rfl⟩
    (repeat' (first | refine qS ?_ | (refine qR ?_; simp only [ak, reduceIte]; simp []) | (refine w_e [] ?_; intro J hJ; simp only []; simp []; (refine hJ _ _ ?_; clear hJ J; simp only [ak, reduceIte]))))
    exact hK1
theorem rSame10 (a : Mp) (st : St) (h : Drw a) : ACalls Tryz.prog 18 [.ag (mpL a), .ag (mpL a)] st fun r st' => r = bb true ∧ st' = st :=
  qT (Q := fun r => r = bb true) (rSame10K a st (by have := h.v; omega) (by have := h.e; omega) (by have := h.v; rw [h.ok.len]; omega) h.sm) fun r h => by subst h; trivial
theorem rRightP (m : Mp) (h : Drw m) (st : St) : ACalls Tryz.prog 25 [.ag (mpL m)] st fun r st' => r = i (rright m) ∧ st' = st :=
  qT (Q := fun r => r = i (rright m)) (rRight m st (by have := h.v; omega) (by have := h.e; omega) (by have := h.v; rw [h.ok.len]; omega) fun t ht => by have := h.ok.row_le ht; have := h.e; omega) fun r h => by subst h; trivial
theorem doQ_bel {m : Mp} {l : List Sp} {n : Nat} {r : LV} (h : DoQ m l r) : bel n r := by
  rcases h with ⟨_, rfl⟩ | ⟨j, _, _, _, rfl⟩
  · exact ⟨bel_mpL _ _, trivial, trivial, trivial⟩
  · exact ⟨bel_mpL _ _, trivial, trivial, trivial⟩
theorem doQ_tu {m : Mp} {l : List Sp} {r : LV} (h : DoQ m l r) : ∃ n k e, r = .tu [.ag (mpL n), i k, i e] := by
  rcases h with ⟨_, rfl⟩ | ⟨j, _, _, _, rfl⟩
  · exact ⟨_, _, _, rfl⟩
  · exact ⟨_, _, _, rfl⟩
theorem sPatch (m : Mp) (l : List Sp) (t : Nat) (st : St) (hm : Drw m) (hg : gn m = 0) (hl : l.length ≤ 100000) :
    ACalls Tryz.prog 22 [.ag (mpL m), .sl t l.length (sps l)] st fun r st' => DoQ m l r ∧ st' = st := by
  refine qT (Q := DoQ m l) ?_ fun r h => doQ_bel h
  have hr : rright m = 0 := drw_right.2 ⟨hm, hg⟩
  have hsl := sps_length l
  refine qO tabOk Tryz.func22 rfl rfl Tryz.ntmps22 (rs := [.cell 4 28, .tmp 5, .tmp 6]) rfl (by simp) ?_
  refine awp_posG fun hpos => ?_
  have e1 : ¬ st.next + 1 = st.next := by omega
  (repeat' (first | refine qS ?_ | (refine w_e [] ?_; intro J hJ; simp only []; simp [e1]; (try (refine hJ _ _ ?_; clear hJ J; simp only [ak, reduceIte])))))
  refine qE (rRightP m hm _) (by simp) ?_; rintro r s1 ⟨rfl, h7⟩
  rw [h7, hr]; clear h7 s1
  (repeat' (first | refine qS ?_ | (refine qK ?_; simp only [ak, reduceIte]) | (refine qC ?_; simp [e1]) | ((first | (refine w_e [] ?_; intro J hJ; simp only []) | (refine e_go ?_)); simp [e1]; (try (refine hJ _ _ ?_; clear hJ J; simp only [ak, reduceIte])))))
  refine qE (Do m l t _ hm hl) (by simp) ?_; rintro r s1 ⟨hq, h7⟩
  rw [h7]; clear h7 s1
  obtain ⟨n, k, e, rfl⟩ := doQ_tu hq
  (repeat' (first | (refine qR ?_; simp only [ak, reduceIte]; simp [e1]) | (refine e_go ?_; simp [e1]; (refine hJ _ _ ?_; clear hJ J; simp only [ak, reduceIte]))))
  exact ⟨hq, ((Keeps.new _ _).trans (Keeps.new _ _)).set (by omega) _⟩
def TwI (p : Nat) (a b c : Mp) (f : Frm) (s : St) : Prop := ∃ q, f 3 = .pt p 0 ∧ f 4 = .pt (p + 1) 0 ∧ f 5 = .pt (p + 2) 0 ∧ f 7 = .pt q 0 ∧ f 9 = i 0 ∧ s.H p = .box 28 3 (mpL a) ∧ s.H (p + 1) = .box 28 3 (mpL b) ∧ s.H (p + 2) = .box 28 3 (mpL c) ∧ s.H q = .box 28 3 (mpL c) ∧ p + 3 ≤ s.next ∧ q < s.next
def TwJ (p : Nat) (c : Mp) (f : Frm) (s : St) : Prop := ∃ q q', f 5 = .pt (p + 2) 0 ∧ f 7 = .pt q 0 ∧ f 9 = i 0 ∧ f 10 = .pt q' 0 ∧ f 12 = i 0 ∧ s.H q = .box 28 3 (mpL c) ∧ s.H (p + 2) = .box 28 3 (mpL c) ∧ s.H q' = .box 28 3 (mpL c)
theorem lit_drw {m : Mp} (h : lit17 m = true) : Drw m ∧ gn m = 0 ∧ m.g.es.length ≤ 30 := by
  obtain ⟨h1, h2, h3, h4⟩ := lit17_of h
  have h0 : rright m = 0 := by unfold rright; rw [if_neg (fun k => k h3), if_neg (fun k => k h4)]
  exact ⟨(drw_right.1 h0).1, h4, h1⟩
theorem diff_len (a b : Mp) (K : List Int) : (diffW a b K).length ≤ a.g.es.length + a.g.vs.length + b.g.vs.length + b.g.es.length := by
  have h1 : ∀ (l : List Ed) (S : Lk), (l.foldl (link1 b K) S).out.length ≤ S.out.length + l.length := by
    intro l
    induction l with
    | nil => intro S; simp
    | cons x l ih =>
      intro S
      rw [List.foldl_cons]
      refine Nat.le_trans (ih _) ?_
      unfold link1
      split <;> simp <;> omega
  have h2 := h1 b.g.es ⟨K, []⟩
  have h3 := List.length_filter_le (fun x : Ed => decide (x.id ∉ K)) a.g.es
  have h4 := List.length_filter_le (fun v => decide (v ∉ b.g.vs)) a.g.vs
  have h5 := List.length_filter_le (fun v => decide (v ∉ a.g.vs)) b.g.vs
  unfold diffW gone lessV moreV links
  simp only [List.length_append, List.length_map, List.length_nil] at h2 ⊢
  omega
theorem sps_one (l : List Sp) : (sps l).all oneL = true := by
  induction l with
  | nil => rfl
  | cons s l ih => simp only [sps, List.flatMap_cons, List.all_append] at ih ⊢; rw [ih]; rfl
theorem patch_to {a c : Mp} (ha : Drw a) (hg : gn a = 0) {l : List Sp} (h1 : DoAll a l) (h2 : aft a l = c) (hl : l.length ≤ 100000) (t : Nat) (st : St) :
    ACalls Tryz.prog 22 [.ag (mpL a), .sl t l.length (sps l)] st fun r st' => r = .tu [.ag (mpL c), i l.length, i 0] ∧ st' = st :=
  (sPatch a l t st ha hg hl).mono fun r s h => by
    obtain ⟨hq, h7⟩ := h
    refine ⟨?_, h7⟩
    rcases hq with ⟨_, rfl⟩ | ⟨j, hj, _, hne, _⟩
    · rw [h2]
    · exact absurd ((doAll_to a l).2 h1 j hj) hne
set_option maxHeartbeats 8000000 in
theorem DiffTwice (a b c : Mp) (st : St) : ACalls Tryz.prog 7 [.ag (mpL a), .ag (mpL b), .ag (mpL c)] st fun r st' => r = bb true := by
  refine qO tabOk Tryz.func7 rfl rfl Tryz.ntmps7 (rs := [.tmp 6]) rfl (by simp) ?_
  refine awp_posG fun hpos => ?_
  have x1 : ¬ st.next = st.next + 1 := by omega
  have x2 : ¬ st.next = st.next + 1 + 1 := by omega
  have x3 : ¬ st.next + 1 = st.next + 1 + 1 := by omega
  (repeat' (first | refine qS ?_ | (refine w_e [] ?_; intro J hJ; simp only []; simp []; (try (refine hJ _ _ ?_; clear hJ J; simp only [ak, reduceIte])))))
  refine qE (awake17 _) (by simp []) ?_; rintro r st' ⟨rfl, rfl⟩
  (repeat' (first | refine qS ?_ | (refine qK ?_; simp only [ak, reduceIte]) | (refine qC ?_; simp [x1, x2, x3]) | ((first | (refine w_e [] ?_; intro J hJ; simp only []) | (refine e_go ?_)); simp [x1, x2, x3]; (try (refine hJ _ _ ?_; clear hJ J; simp only [ak, reduceIte])))))
  refine qE (light17 a _) (by simp) ?_; rintro r s1 ⟨rfl, h1⟩
  rw [h1]; clear h1 s1
  cases hf : lit17 a
  · (repeat' (first | refine qS ?_ | (refine qR ?_; simp only [ak, reduceIte]; simp []) | (refine qC ?_; simp []) | ((first | (refine w_e [] ?_; intro J hJ; simp only []) | (refine e_go ?_)); simp []; (refine hJ _ _ ?_; clear hJ J; simp only [ak, reduceIte]))))
  (repeat' (refine e_go ?_; simp [x1, x2, x3]))
  refine qE (light17 b _) (by simp) ?_; rintro r s1 ⟨rfl, h1⟩
  rw [h1]; clear h1 s1
  cases hf2 : lit17 b
  · (repeat' (first | refine qS ?_ | (refine qR ?_; simp only [ak, reduceIte]; simp []) | (refine qC ?_; simp []) | ((first | (refine w_e [] ?_; intro J hJ; simp only []) | (refine e_go ?_)); simp []; (refine hJ _ _ ?_; clear hJ J; simp only [ak, reduceIte]))))
  (repeat' (refine e_go ?_; simp [x1, x2, x3]))
  refine qE (light17 c _) (by simp) ?_; rintro r s1 ⟨rfl, h1⟩
  rw [h1]; clear h1 s1
  cases hf3 : lit17 c
  · (repeat' (first | refine qS ?_ | (refine qR ?_; simp only [ak, reduceIte]; simp []) | (refine qC ?_; simp []) | ((first | (refine w_e [] ?_; intro J hJ; simp only []) | (refine e_go ?_)); simp []; (refine hJ _ _ ?_; clear hJ J; simp only [ak, reduceIte]))))
  obtain ⟨ha, hga, la⟩ := lit_drw hf
  obtain ⟨hb, hgb, lb⟩ := lit_drw hf2
  obtain ⟨hc, hgc, lc⟩ := lit_drw hf3
  have va := ha.v
  have vb := hb.v
  have vc := hc.v
  clear hf hf2 hf3
  have D1 := fun st => dDiffT a b ha.ok hb.ok st (by omega) (by omega) (by omega) (by omega)
  have D2 := fun st => dDiffT b c hb.ok hc.ok st (by omega) (by omega) (by omega) (by omega)
  have D3 := fun st => dDiff a c ha.ok hc.ok st (by omega) (by omega) (by omega) (by omega)
  rw [kept_same ha.ok hb.ok] at D1
  rw [kept_same hb.ok hc.ok] at D2
  rw [kept_same ha.ok hc.ok] at D3
  have L1 := diff_len a b (keptR a b)
  have L2 := diff_len b c (keptR b c)
  have L3 := diff_len a c (keptR a c)
  obtain ⟨w1, w2⟩ := diff_all ha hb hgb
  obtain ⟨w3, w4⟩ := diff_all hb hc hgc
  obtain ⟨w5, w6⟩ := diff_all ha hc hgc
  generalize diffW a b (keptR a b) = l1 at *
  generalize diffW b c (keptR b c) = l2 at *
  generalize diffW a c (keptR a c) = l3 at *
  have hP := fun t st => patch_to ha hga (l := l1 ++ l2) (c := c) ((doAll_append a l1 l2).2 ⟨w1, by rw [w2]; exact w3⟩) (by rw [aft_append, w2, w4]) (by rw [List.length_append]; omega) t st
  have hP3 := fun t st => patch_to ha hga w5 w6 (by omega) t st
  rw [sps_append, List.length_append] at hP
  have hL1 := sps_length l1
  have hL2 := sps_length l2
  have hone2 := sps_one l2
  have hD1 : ∀ st, ACalls Tryz.prog 21 [.ag (mpL a), .ag (mpL b)] st fun r st' => ∃ t, r = .sl t l1.length (sps l1) ∧ st'.H t = .own 38 6 l1.length ∧ t ≠ 0 ∧ st.next ≤ t ∧ t < st'.next ∧ Keeps st st' := D1
  have hD2 : ∀ st, ACalls Tryz.prog 21 [.ag (mpL b), .ag (mpL c)] st fun r st' => ∃ t, r = .sl t l2.length (sps l2) ∧ st'.H t = .own 38 6 l2.length ∧ t ≠ 0 ∧ st.next ≤ t ∧ t < st'.next ∧ Keeps st st' := D2
  clear D1 D2 w1 w2 w3 w4 w5 w6
  obtain ⟨p, hp⟩ : ∃ p, p = st.next := ⟨_, rfl⟩
  (repeat' (first | refine qS ?_ | (refine qK ?_; simp only [ak, reduceIte]) | (refine qC ?_; simp []) | (refine e_go ?_; simp []; (refine hJ _ _ ?_; clear hJ J; simp only [ak, reduceIte]))))
  refine awp_weakS (fun f s => f 3 = .pt p 0 ∧ f 4 = .pt (p + 1) 0 ∧ f 5 = .pt (p + 2) 0 ∧ s.H p = .box 28 3 (mpL a) ∧ s.H (p + 1) = .box 28 3 (mpL b) ∧ s.H (p + 2) = .box 28 3 (mpL c) ∧ s.next = p + 3) ?_ ?_
  · subst hp
    exact ⟨by simp, by simp, by simp, by simp [x1, x2, x3], by simp [x1, x2, x3], by simp [x1, x2, x3], by simp⟩
  clear x1 x2 x3
  rintro fr S0 ⟨f3, f4, f5, hA0, hB0, hC0, hn0⟩
  have e1 : ¬ p = S0.next := by omega
  have e2 : ¬ p + 1 = S0.next := by omega
  have e3 : ¬ p + 2 = S0.next := by omega
  refine awp_cutN (TwI p a b c) ?_ ?_
  · refine w_a [] [p, p + 1, p + 2] ?_; intro J hJ
    refine a_pre 12 [(0, true), (1, true), (2, true), (4, true), (5, true)] ?_
    simp [f3, f4, f5, hA0, hB0, hC0, e1, e2, e3]
    refine a_alt2 11 (3, true) (13, true) ?_ ?_
    · simp [hA0, hB0, hC0, e1, e2, e3]
      refine qD (hD1 _) (by simp) ?_; rintro r s1 ⟨t1, rfl, hO1, t10, tl1, tu1, hk1⟩
      have hA1 : s1.H p = .box 28 3 (mpL a) := by rw [hk1.H p (by omega)]; exact hA0
      have hB1 : s1.H (p + 1) = .box 28 3 (mpL b) := by rw [hk1.H (p + 1) (by omega)]; exact hB0
      have hC1 : s1.H (p + 2) = .box 28 3 (mpL c) := by rw [hk1.H (p + 2) (by omega)]; exact hC0
      have hn1 := hk1.next
      (try simp only [new_next] at hn1 tl1)
      refine ⟨fun _ => by simp [hA1, hB1, hC1, hA0, hB0, hC0, e1, e2, e3], ?_⟩
      have e4 : ¬ p = s1.next := by omega
      have e5 : ¬ p + 1 = s1.next := by omega
      have e6 : ¬ p + 2 = s1.next := by omega
      try simp [hA0, hB0, hC0, e1, e2, e3]
      refine a_alt2 10 (6, true) (13, true) ?_ ?_
      · simp [hA0, hB0, hC0, e1, e2, e3, hA1, hB1, hC1]
        refine qD (hD2 _) (by simp) ?_; rintro r s2 ⟨t2, rfl, hO2, t20, tl2, tu2, hk2⟩
        have hA2 : s2.H p = .box 28 3 (mpL a) := by rw [hk2.H p (by omega)]; exact hA1
        have hB2 : s2.H (p + 1) = .box 28 3 (mpL b) := by rw [hk2.H (p + 1) (by omega)]; exact hB1
        have hC2 : s2.H (p + 2) = .box 28 3 (mpL c) := by rw [hk2.H (p + 2) (by omega)]; exact hC1
        have hO12 : s2.H t1 = .own 38 6 l1.length := by rw [hk2.H t1 (by omega)]; exact hO1
        have hn2 := hk2.next
        (try simp only [new_next] at hn2 tl2)
        refine ⟨fun _ => by simp [hA2, hB2, hC2, hA0, hB0, hC0, e1, e2, e3], ?_⟩
        have g0 : ¬ p = t1 := by omega
        have g1 : ¬ p + 1 = t1 := by omega
        have g2 : ¬ p + 2 = t1 := by omega
        have g3 : ¬ t1 = s2.next := by omega
        have g4 : ¬ p = s2.next := by omega
        have g5 : ¬ p + 1 = s2.next := by omega
        have g6 : ¬ p + 2 = s2.next := by omega
        have g7 : ¬ p = s2.next + 1 := by omega
        have g8 : ¬ p + 1 = s2.next + 1 := by omega
        have g9 : ¬ p + 2 = s2.next + 1 := by omega
        have g10 : ¬ t1 = s2.next + 1 := by omega
        have g11 : ¬ s2.next = t1 := by omega
        have g12 : ¬ s2.next + 1 = t1 := by omega
        try simp [hA0, hB0, hC0, e1, e2, e3]
        refine a_alt2 9 (7, true) (13, true) ?_ ?_
        · simp [hA0, hB0, hC0, hA2, hB2, hC2, hO12, t10, hL1, hL2, hone2, hA1, hB1, hC1, e1, e2, e3, e4, e5, e6, g0, g1, g2, g3, g4, g5, g6, g7, g8, g9, g10, g11, g12]
          (repeat (refine ⟨⟨by omega, by simp only [maxLen]; omega⟩, ?_⟩))
          refine a_alt2 8 (8, true) (13, true) ?_ ?_
          · simp [hA0, hB0, hC0, hA2, hB2, hC2, hO12, t10, hL1, hL2, hone2, hA1, hB1, hC1, e1, e2, e3, e4, e5, e6, g0, g1, g2, g3, g4, g5, g6, g7, g8, g9, g10, g11, g12]
            refine qD (hP (s2.next) _) (by simp) ?_; rintro r s3 ⟨rfl, h7⟩
            rw [h7]; clear h7 s3
            refine ⟨fun h => by first | (cases h; done) | simp [hA0, hB0, hC0, hA2, hB2, hC2, hO12, t10, hL1, hL2, hone2, hA1, hB1, hC1, e1, e2, e3, e4, e5, e6, g0, g1, g2, g3, g4, g5, g6, g7, g8, g9, g10, g11, g12], ?_⟩
            try simp [hA0, hB0, hC0, hA2, hB2, hC2, hO12, t10, hL1, hL2, hone2, hA1, hB1, hC1, e1, e2, e3, e4, e5, e6, g0, g1, g2, g3, g4, g5, g6, g7, g8, g9, g10, g11, g12]
            refine a_pre 0 [(9, true), (10, true), (11, true), (12, true), (13, true), (14, true), (15, true), (16, true)] ?_
            simp [hA0, hB0, hC0, hA2, hB2, hC2, hO12, t10, hL1, hL2, hone2, hA1, hB1, hC1, e1, e2, e3, e4, e5, e6, g0, g1, g2, g3, g4, g5, g6, g7, g8, g9, g10, g11, g12]
            refine aany_end (hJ _ _ ?_)
            simp only [ak]
            refine ⟨by trivial, s2.next + 1, by simp [f3], by simp [f4], by simp [f5], by simp, by simp, by simp [hA0, hB0, hC0, hA2, hB2, hC2, hO12, t10, hL1, hL2, hone2, hA1, hB1, hC1, e1, e2, e3, e4, e5, e6, g0, g1, g2, g3, g4, g5, g6, g7, g8, g9, g10, g11, g12], by simp [hA0, hB0, hC0, hA2, hB2, hC2, hO12, t10, hL1, hL2, hone2, hA1, hB1, hC1, e1, e2, e3, e4, e5, e6, g0, g1, g2, g3, g4, g5, g6, g7, g8, g9, g10, g11, g12], by simp [hA0, hB0, hC0, hA2, hB2, hC2, hO12, t10, hL1, hL2, hone2, hA1, hB1, hC1, e1, e2, e3, e4, e5, e6, g0, g1, g2, g3, g4, g5, g6, g7, g8, g9, g10, g11, g12], by simp [hA0, hB0, hC0, hA2, hB2, hC2, hO12, t10, hL1, hL2, hone2, hA1, hB1, hC1, e1, e2, e3, e4, e5, e6, g0, g1, g2, g3, g4, g5, g6, g7, g8, g9, g10, g11, g12], by first | (simp; done) | (simp; omega), by first | (simp; done) | (simp; omega)⟩
          · simp [hA0, hB0, hC0, hA2, hB2, hC2, hO12, t10, hL1, hL2, hone2, hA1, hB1, hC1, e1, e2, e3, e4, e5, e6, g0, g1, g2, g3, g4, g5, g6, g7, g8, g9, g10, g11, g12]
            refine a_pre 0 [(8, true), (9, true), (10, true), (11, true), (12, true), (14, true), (15, true), (16, true)] ?_
            simp [hA0, hB0, hC0, hA2, hB2, hC2, hO12, t10, hL1, hL2, hone2, hA1, hB1, hC1, e1, e2, e3, e4, e5, e6, g0, g1, g2, g3, g4, g5, g6, g7, g8, g9, g10, g11, g12]
            refine qD (hP (s2.next) _) (by simp) ?_; rintro r s3 ⟨rfl, h7⟩
            rw [h7]; clear h7 s3
            refine ⟨fun h => by first | (cases h; done) | simp [hA0, hB0, hC0, hA2, hB2, hC2, hO12, t10, hL1, hL2, hone2, hA1, hB1, hC1, e1, e2, e3, e4, e5, e6, g0, g1, g2, g3, g4, g5, g6, g7, g8, g9, g10, g11, g12], ?_⟩
            try simp [hA0, hB0, hC0, hA2, hB2, hC2, hO12, t10, hL1, hL2, hone2, hA1, hB1, hC1, e1, e2, e3, e4, e5, e6, g0, g1, g2, g3, g4, g5, g6, g7, g8, g9, g10, g11, g12]
            refine aany_end (hJ _ _ ?_)
            simp only [ak]
            refine ⟨by trivial, s2.next + 1, by simp [f3], by simp [f4], by simp [f5], by simp, by simp, by simp [hA0, hB0, hC0, hA2, hB2, hC2, hO12, t10, hL1, hL2, hone2, hA1, hB1, hC1, e1, e2, e3, e4, e5, e6, g0, g1, g2, g3, g4, g5, g6, g7, g8, g9, g10, g11, g12], by simp [hA0, hB0, hC0, hA2, hB2, hC2, hO12, t10, hL1, hL2, hone2, hA1, hB1, hC1, e1, e2, e3, e4, e5, e6, g0, g1, g2, g3, g4, g5, g6, g7, g8, g9, g10, g11, g12], by simp [hA0, hB0, hC0, hA2, hB2, hC2, hO12, t10, hL1, hL2, hone2, hA1, hB1, hC1, e1, e2, e3, e4, e5, e6, g0, g1, g2, g3, g4, g5, g6, g7, g8, g9, g10, g11, g12], by simp [hA0, hB0, hC0, hA2, hB2, hC2, hO12, t10, hL1, hL2, hone2, hA1, hB1, hC1, e1, e2, e3, e4, e5, e6, g0, g1, g2, g3, g4, g5, g6, g7, g8, g9, g10, g11, g12], by first | (simp; done) | (simp; omega), by first | (simp; done) | (simp; omega)⟩
        · simp [hA0, hB0, hC0, hA2, hB2, hC2, hO12, t10, hL1, hL2, hone2, hA1, hB1, hC1, e1, e2, e3, e4, e5, e6, g0, g1, g2, g3, g4, g5, g6, g7, g8, g9, g10, g11, g12]
          refine a_pre 0 [(7, true), (8, true), (9, true), (10, true), (11, true), (12, true), (14, true), (15, true), (16, true)] ?_
          simp [hA0, hB0, hC0, hA2, hB2, hC2, hO12, t10, hL1, hL2, hone2, hA1, hB1, hC1, e1, e2, e3, e4, e5, e6, g0, g1, g2, g3, g4, g5, g6, g7, g8, g9, g10, g11, g12]
          (repeat (refine ⟨⟨by omega, by simp only [maxLen]; omega⟩, ?_⟩))
          refine qD (hP (s2.next + 1) _) (by simp) ?_; rintro r s3 ⟨rfl, h7⟩
          rw [h7]; clear h7 s3
          refine ⟨fun h => by first | (cases h; done) | simp [hA0, hB0, hC0, hA2, hB2, hC2, hO12, t10, hL1, hL2, hone2, hA1, hB1, hC1, e1, e2, e3, e4, e5, e6, g0, g1, g2, g3, g4, g5, g6, g7, g8, g9, g10, g11, g12], ?_⟩
          try simp [hA0, hB0, hC0, hA2, hB2, hC2, hO12, t10, hL1, hL2, hone2, hA1, hB1, hC1, e1, e2, e3, e4, e5, e6, g0, g1, g2, g3, g4, g5, g6, g7, g8, g9, g10, g11, g12]
          refine aany_end (hJ _ _ ?_)
          simp only [ak]
          refine ⟨by trivial, s2.next, by simp [f3], by simp [f4], by simp [f5], by simp, by simp, by simp [hA0, hB0, hC0, hA2, hB2, hC2, hO12, t10, hL1, hL2, hone2, hA1, hB1, hC1, e1, e2, e3, e4, e5, e6, g0, g1, g2, g3, g4, g5, g6, g7, g8, g9, g10, g11, g12], by simp [hA0, hB0, hC0, hA2, hB2, hC2, hO12, t10, hL1, hL2, hone2, hA1, hB1, hC1, e1, e2, e3, e4, e5, e6, g0, g1, g2, g3, g4, g5, g6, g7, g8, g9, g10, g11, g12], by simp [hA0, hB0, hC0, hA2, hB2, hC2, hO12, t10, hL1, hL2, hone2, hA1, hB1, hC1, e1, e2, e3, e4, e5, e6, g0, g1, g2, g3, g4, g5, g6, g7, g8, g9, g10, g11, g12], by simp [hA0, hB0, hC0, hA2, hB2, hC2, hO12, t10, hL1, hL2, hone2, hA1, hB1, hC1, e1, e2, e3, e4, e5, e6, g0, g1, g2, g3, g4, g5, g6, g7, g8, g9, g10, g11, g12], by first | (simp; done) | (simp; omega), by first | (simp; done) | (simp; omega)⟩
      · simp [hA0, hB0, hC0, e1, e2, e3, hA1, hB1, hC1, e4, e5, e6]
        refine a_pre 0 [(6, true), (7, true), (8, true), (9, true), (10, true), (11, true), (12, true), (14, true), (15, true), (16, true)] ?_
        simp [hA0, hB0, hC0, e1, e2, e3, hA1, hB1, hC1, e4, e5, e6]
        refine qD (hD2 _) (by simp) ?_; rintro r s2 ⟨t2, rfl, hO2, t20, tl2, tu2, hk2⟩
        have hA2 : s2.H p = .box 28 3 (mpL a) := by rw [hk2.H p (by simp; omega)]; rw [new_H, if_neg (by omega)]; exact hA1
        have hB2 : s2.H (p + 1) = .box 28 3 (mpL b) := by rw [hk2.H (p + 1) (by simp; omega)]; rw [new_H, if_neg (by omega)]; exact hB1
        have hC2 : s2.H (p + 2) = .box 28 3 (mpL c) := by rw [hk2.H (p + 2) (by simp; omega)]; rw [new_H, if_neg (by omega)]; exact hC1
        have hO12 : s2.H t1 = .own 38 6 l1.length := by rw [hk2.H t1 (by simp; omega)]; rw [new_H, if_neg (by omega)]; exact hO1
        have hN2 : s2.H s1.next = .box 28 3 [.nil, .nil, .nil] := by rw [hk2.H s1.next (by simp)]; simp
        have hn2 := hk2.next
        (try simp only [new_next] at hn2 tl2)
        refine ⟨fun _ => by simp [hA2, hB2, hC2, hA0, hB0, hC0, e1, e2, e3], ?_⟩
        have g0 : ¬ p = t1 := by omega
        have g1 : ¬ p + 1 = t1 := by omega
        have g2 : ¬ p + 2 = t1 := by omega
        have g3 : ¬ t1 = s2.next := by omega
        have g4 : ¬ p = s2.next := by omega
        have g5 : ¬ p + 1 = s2.next := by omega
        have g6 : ¬ p + 2 = s2.next := by omega
        have g7 : ¬ p = s2.next + 1 := by omega
        have g8 : ¬ p + 1 = s2.next + 1 := by omega
        have g9 : ¬ p + 2 = s2.next + 1 := by omega
        have g10 : ¬ t1 = s2.next + 1 := by omega
        have g11 : ¬ s2.next = t1 := by omega
        have g12 : ¬ s2.next + 1 = t1 := by omega
        have g20 : ¬ s1.next = t1 := by omega
        have g21 : ¬ s1.next = s2.next := by omega
        have g22 : ¬ t1 = s1.next := by omega
        try simp [hA0, hB0, hC0, hA2, hB2, hC2, hO12, t10, hL1, hL2, hone2, hA1, hB1, hC1, e1, e2, e3, e4, e5, e6, g0, g1, g2, g3, g4, g5, g6, g7, g8, g9, g10, g11, g12, hN2, g20, g21, g22]
        (repeat (refine ⟨⟨by omega, by simp only [maxLen]; omega⟩, ?_⟩))
        refine qD (hP (s2.next) _) (by simp) ?_; rintro r s3 ⟨rfl, h7⟩
        rw [h7]; clear h7 s3
        refine ⟨fun h => by first | (cases h; done) | simp [hA0, hB0, hC0, hA2, hB2, hC2, hO12, t10, hL1, hL2, hone2, hA1, hB1, hC1, e1, e2, e3, e4, e5, e6, g0, g1, g2, g3, g4, g5, g6, g7, g8, g9, g10, g11, g12, hN2, g20, g21, g22], ?_⟩
        simp [hA0, hB0, hC0, hA2, hB2, hC2, hO12, t10, hL1, hL2, hone2, hA1, hB1, hC1, e1, e2, e3, e4, e5, e6, g0, g1, g2, g3, g4, g5, g6, g7, g8, g9, g10, g11, g12, hN2, g20, g21, g22]
        refine aany_end (hJ _ _ ?_)
        simp only [ak]
        refine ⟨by trivial, s1.next, by simp [f3], by simp [f4], by simp [f5], by simp, by simp, by simp [hA0, hB0, hC0, hA2, hB2, hC2, hO12, t10, hL1, hL2, hone2, hA1, hB1, hC1, e1, e2, e3, e4, e5, e6, g0, g1, g2, g3, g4, g5, g6, g7, g8, g9, g10, g11, g12, hN2, g20, g21, g22], by simp [hA0, hB0, hC0, hA2, hB2, hC2, hO12, t10, hL1, hL2, hone2, hA1, hB1, hC1, e1, e2, e3, e4, e5, e6, g0, g1, g2, g3, g4, g5, g6, g7, g8, g9, g10, g11, g12, hN2, g20, g21, g22], by simp [hA0, hB0, hC0, hA2, hB2, hC2, hO12, t10, hL1, hL2, hone2, hA1, hB1, hC1, e1, e2, e3, e4, e5, e6, g0, g1, g2, g3, g4, g5, g6, g7, g8, g9, g10, g11, g12, hN2, g20, g21, g22], by simp [hA0, hB0, hC0, hA2, hB2, hC2, hO12, t10, hL1, hL2, hone2, hA1, hB1, hC1, e1, e2, e3, e4, e5, e6, g0, g1, g2, g3, g4, g5, g6, g7, g8, g9, g10, g11, g12, hN2, g20, g21, g22], by first | (simp; done) | (simp; omega), by first | (simp; done) | (simp; omega)⟩
    · simp [hA0, hB0, hC0, e1, e2, e3]
      refine a_pre 0 [(3, true), (6, true), (7, true), (8, true), (9, true), (10, true), (11, true), (12, true), (14, true), (15, true), (16, true)] ?_
      simp [hA0, hB0, hC0, e1, e2, e3]
      refine qD (hD1 _) (by simp) ?_; rintro r s1 ⟨t1, rfl, hO1, t10, tl1, tu1, hk1⟩
      have hA1 : s1.H p = .box 28 3 (mpL a) := by rw [hk1.H p (by simp; omega)]; rw [new_H, if_neg (by omega)]; exact hA0
      have hB1 : s1.H (p + 1) = .box 28 3 (mpL b) := by rw [hk1.H (p + 1) (by simp; omega)]; rw [new_H, if_neg (by omega)]; exact hB0
      have hC1 : s1.H (p + 2) = .box 28 3 (mpL c) := by rw [hk1.H (p + 2) (by simp; omega)]; rw [new_H, if_neg (by omega)]; exact hC0
      have hN1 : s1.H S0.next = .box 28 3 [.nil, .nil, .nil] := by rw [hk1.H S0.next (by simp)]; simp
      have hn1 := hk1.next
      (try simp only [new_next] at hn1 tl1)
      refine ⟨fun _ => by simp [hA1, hB1, hC1, hA0, hB0, hC0, e1, e2, e3], ?_⟩
      have e4 : ¬ p = s1.next := by omega
      have e5 : ¬ p + 1 = s1.next := by omega
      have e6 : ¬ p + 2 = s1.next := by omega
      try simp [hA0, hB0, hC0, e1, e2, e3]
      refine qD (hD2 _) (by simp) ?_; rintro r s2 ⟨t2, rfl, hO2, t20, tl2, tu2, hk2⟩
      have hA2 : s2.H p = .box 28 3 (mpL a) := by rw [hk2.H p (by omega)]; exact hA1
      have hB2 : s2.H (p + 1) = .box 28 3 (mpL b) := by rw [hk2.H (p + 1) (by omega)]; exact hB1
      have hC2 : s2.H (p + 2) = .box 28 3 (mpL c) := by rw [hk2.H (p + 2) (by omega)]; exact hC1
      have hO12 : s2.H t1 = .own 38 6 l1.length := by rw [hk2.H t1 (by omega)]; exact hO1
      have hN2 : s2.H S0.next = .box 28 3 [.nil, .nil, .nil] := by rw [hk2.H S0.next (by omega)]; exact hN1
      have hn2 := hk2.next
      (try simp only [new_next] at hn2 tl2)
      refine ⟨fun _ => by simp [hA2, hB2, hC2, hA0, hB0, hC0, e1, e2, e3], ?_⟩
      have g0 : ¬ p = t1 := by omega
      have g1 : ¬ p + 1 = t1 := by omega
      have g2 : ¬ p + 2 = t1 := by omega
      have g3 : ¬ t1 = s2.next := by omega
      have g4 : ¬ p = s2.next := by omega
      have g5 : ¬ p + 1 = s2.next := by omega
      have g6 : ¬ p + 2 = s2.next := by omega
      have g7 : ¬ p = s2.next + 1 := by omega
      have g8 : ¬ p + 1 = s2.next + 1 := by omega
      have g9 : ¬ p + 2 = s2.next + 1 := by omega
      have g10 : ¬ t1 = s2.next + 1 := by omega
      have g11 : ¬ s2.next = t1 := by omega
      have g12 : ¬ s2.next + 1 = t1 := by omega
      have g20 : ¬ S0.next = t1 := by omega
      have g21 : ¬ S0.next = s2.next := by omega
      have g22 : ¬ t1 = S0.next := by omega
      simp [hA0, hB0, hC0, hA2, hB2, hC2, hO12, t10, hL1, hL2, hone2, hA1, hB1, hC1, e1, e2, e3, e4, e5, e6, g0, g1, g2, g3, g4, g5, g6, g7, g8, g9, g10, g11, g12, hN2, g20, g21, g22]
      (repeat (refine ⟨⟨by omega, by simp only [maxLen]; omega⟩, ?_⟩))
      refine qD (hP (s2.next) _) (by simp) ?_; rintro r s3 ⟨rfl, h7⟩
      rw [h7]; clear h7 s3
      refine ⟨fun h => by first | (cases h; done) | simp [hA0, hB0, hC0, hA2, hB2, hC2, hO12, t10, hL1, hL2, hone2, hA1, hB1, hC1, e1, e2, e3, e4, e5, e6, g0, g1, g2, g3, g4, g5, g6, g7, g8, g9, g10, g11, g12, hN2, g20, g21, g22], ?_⟩
      simp [hA0, hB0, hC0, hA2, hB2, hC2, hO12, t10, hL1, hL2, hone2, hA1, hB1, hC1, e1, e2, e3, e4, e5, e6, g0, g1, g2, g3, g4, g5, g6, g7, g8, g9, g10, g11, g12, hN2, g20, g21, g22]
      refine aany_end (hJ _ _ ?_)
      simp only [ak]
      refine ⟨by trivial, S0.next, by simp [f3], by simp [f4], by simp [f5], by simp, by simp, by simp [hA0, hB0, hC0, hA2, hB2, hC2, hO12, t10, hL1, hL2, hone2, hA1, hB1, hC1, e1, e2, e3, e4, e5, e6, g0, g1, g2, g3, g4, g5, g6, g7, g8, g9, g10, g11, g12, hN2, g20, g21, g22], by simp [hA0, hB0, hC0, hA2, hB2, hC2, hO12, t10, hL1, hL2, hone2, hA1, hB1, hC1, e1, e2, e3, e4, e5, e6, g0, g1, g2, g3, g4, g5, g6, g7, g8, g9, g10, g11, g12, hN2, g20, g21, g22], by simp [hA0, hB0, hC0, hA2, hB2, hC2, hO12, t10, hL1, hL2, hone2, hA1, hB1, hC1, e1, e2, e3, e4, e5, e6, g0, g1, g2, g3, g4, g5, g6, g7, g8, g9, g10, g11, g12, hN2, g20, g21, g22], by simp [hA0, hB0, hC0, hA2, hB2, hC2, hO12, t10, hL1, hL2, hone2, hA1, hB1, hC1, e1, e2, e3, e4, e5, e6, g0, g1, g2, g3, g4, g5, g6, g7, g8, g9, g10, g11, g12, hN2, g20, g21, g22], by first | (simp; done) | (simp; omega), by first | (simp; done) | (simp; omega)⟩
  clear f3 f4 f5 hA0 hB0 hC0 hn0 e1 e2 e3 S0 fr
  rintro fr S ⟨q, f3, f4, f5, f7, f9, hA, hB, hC, hQ, n1, n2⟩
  have e1 : ¬ p = S.next := by omega
  have e2 : ¬ p + 1 = S.next := by omega
  have e3 : ¬ p + 2 = S.next := by omega
  have e4 : ¬ q = S.next := by omega
  refine qS ?_
  refine awp_cutN (TwJ p c) ?_ ?_
  · refine w_a [] [p, p + 2] ?_; intro J hJ
    refine a_pre 10 [(0, true), (1, true), (2, true)] ?_
    simp [hA, hB, hC, hQ, e1, e2, e3, e4, f3, f4, f5, f7]
    refine a_alt2 9 (3, true) (9, true) ?_ ?_
    · simp [hA, hB, hC, hQ, e1, e2, e3, e4, f3, f4, f5, f7]
      refine qD (D3 _) (by simp) ?_; rintro r s3 ⟨rfl, h7⟩
      rw [h7]; clear h7 s3
      refine ⟨fun h => by first | (cases h; done) | simp [hA, hB, hC, hQ, e1, e2, e3, e4, f3, f4, f5, f7], ?_⟩
      try simp [hA, hB, hC, hQ, e1, e2, e3, e4, f3, f4, f5, f7]
      refine a_alt2 8 (4, true) (9, true) ?_ ?_
      · simp [hA, hB, hC, hQ, e1, e2, e3, e4, f3, f4, f5, f7]
        refine qD (hP3 0 _) (by simp) ?_; rintro r s3 ⟨rfl, h7⟩
        rw [h7]; clear h7 s3
        refine ⟨fun h => by first | (cases h; done) | simp [hA, hB, hC, hQ, e1, e2, e3, e4, f3, f4, f5, f7], ?_⟩
        try simp [hA, hB, hC, hQ, e1, e2, e3, e4, f3, f4, f5, f7]
        refine a_pre 0 [(5, true), (6, true), (7, true), (8, true), (9, true), (10, true), (11, true), (12, true)] ?_
        simp [hA, hB, hC, hQ, e1, e2, e3, e4, f3, f4, f5, f7]
        refine aany_end (hJ _ _ ?_)
        simp only [ak]
        refine ⟨by trivial, q, S.next, by simp [f5], by simp [f7], by simp [f9], by simp, by simp, by simp [hA, hB, hC, hQ, e1, e2, e3, e4, f3, f4, f5, f7], by simp [hA, hB, hC, hQ, e1, e2, e3, e4, f3, f4, f5, f7], by simp⟩
      · simp [hA, hB, hC, hQ, e1, e2, e3, e4, f3, f4, f5, f7]
        refine a_pre 0 [(4, true), (5, true), (6, true), (7, true), (8, true), (10, true), (11, true), (12, true)] ?_
        simp [hA, hB, hC, hQ, e1, e2, e3, e4, f3, f4, f5, f7]
        refine qD (hP3 0 _) (by simp) ?_; rintro r s3 ⟨rfl, h7⟩
        rw [h7]; clear h7 s3
        refine ⟨fun h => by first | (cases h; done) | simp [hA, hB, hC, hQ, e1, e2, e3, e4, f3, f4, f5, f7], ?_⟩
        try simp [hA, hB, hC, hQ, e1, e2, e3, e4, f3, f4, f5, f7]
        refine aany_end (hJ _ _ ?_)
        simp only [ak]
        refine ⟨by trivial, q, S.next, by simp [f5], by simp [f7], by simp [f9], by simp, by simp, by simp [hA, hB, hC, hQ, e1, e2, e3, e4, f3, f4, f5, f7], by simp [hA, hB, hC, hQ, e1, e2, e3, e4, f3, f4, f5, f7], by simp⟩
    · simp [hA, hB, hC, hQ, e1, e2, e3, e4, f3, f4, f5, f7]
      refine a_pre 0 [(3, true), (4, true), (5, true), (6, true), (7, true), (8, true), (10, true), (11, true), (12, true)] ?_
      simp [hA, hB, hC, hQ, e1, e2, e3, e4, f3, f4, f5, f7]
      refine qD (D3 _) (by simp) ?_; rintro r s3 ⟨rfl, h7⟩
      rw [h7]; clear h7 s3
      refine ⟨fun h => by first | (cases h; done) | simp [hA, hB, hC, hQ, e1, e2, e3, e4, f3, f4, f5, f7], ?_⟩
      try simp [hA, hB, hC, hQ, e1, e2, e3, e4, f3, f4, f5, f7]
      refine qD (hP3 0 _) (by simp) ?_; rintro r s3 ⟨rfl, h7⟩
      rw [h7]; clear h7 s3
      refine ⟨fun h => by first | (cases h; done) | simp [hA, hB, hC, hQ, e1, e2, e3, e4, f3, f4, f5, f7], ?_⟩
      try simp [hA, hB, hC, hQ, e1, e2, e3, e4, f3, f4, f5, f7]
      refine aany_end (hJ _ _ ?_)
      simp only [ak]
      refine ⟨by trivial, q, S.next, by simp [f5], by simp [f7], by simp [f9], by simp, by simp, by simp [hA, hB, hC, hQ, e1, e2, e3, e4, f3, f4, f5, f7], by simp [hA, hB, hC, hQ, e1, e2, e3, e4, f3, f4, f5, f7], by simp⟩
  clear f3 f4 f5 f7 f9 hA hB hC hQ n1 n2 e1 e2 e3 e4 q S fr
  rintro fr S ⟨q, q', f5, f7, f9, f10, f12, hQ, hC, hQ'⟩
  (repeat' (first | refine qS ?_ | (refine w_e [] ?_; intro J hJ; simp only []; simp [f5, f7, f9, f10, f12, hQ, hQ', hC])))
  refine qE (rSame10 c _ hc) (by simp) ?_; rintro r s1 ⟨rfl, h7⟩
  rw [h7]; clear h7 s1
  (repeat' (refine e_go ?_; simp [f5, f7, f9, f10, f12, hQ, hQ', hC]))
  refine qE (rSame10 c _ hc) (by simp) ?_; rintro r s1 ⟨rfl, h7⟩
  rw [h7]; clear h7 s1
  (repeat' (first | (refine qR ?_; simp only [ak, reduceIte]; simp []) | (refine e_go ?_; simp []; (refine hJ _ _ ?_; clear hJ J; simp only [ak, reduceIte]))))
theorem DiffTwice_shp (l0 l1 l2 : List LV) (st : St) (h0 : Shp tab 28 l0) (h1 : Shp tab 28 l1) (h2 : Shp tab 28 l2) : ACalls Tryz.prog 7 [argT tab 28 l0, argT tab 28 l1, argT tab 28 l2] st fun r st' => r = bb true := by
  obtain ⟨a, rfl, _⟩ := shp_mp h0
  obtain ⟨b, rfl, _⟩ := shp_mp h1
  obtain ⟨c, rfl, _⟩ := shp_mp h2
  exact DiffTwice a b c st
end Go.Proofs.YtglkgindpjdoiaaGreat.Aw
