/- The law CanonRenames: other names, walked. -/
import Derived.Test.YtplnodgkmbajiaaGreatJi
namespace Go.Proofs.YtplnodgkmbajiaaGreat.Aw
open Go Go.RowKit Go.Proofs.YtplnodgkmbajiaaGreat.Pl Go.Proofs.YtplnodgkmbajiaaGreat.Eu
set_option linter.unusedSimpArgs false
set_option linter.unusedVariables false
def oth (b v : Int) : Int := (v + b) % 1048576 + 1
def flp (b id : Int) : Bool := gand .u32 (gshr .u32 id (b % 4)) 1 == 1
def rens (b : Int) (x : Ed) : Ed := if flp b x.id = true then ⟨oth b x.id, oth b x.b, oth b x.a⟩ else ⟨oth b x.id, oth b x.a, oth b x.b⟩
def rend (b d : Int) : Int := if flp b (d / 2) = true then tw (2 * oth b (d / 2) + d % 2) else 2 * oth b (d / 2) + d % 2
theorem oth_inj {b v w : Int} (hv : 1 ≤ v ∧ v ≤ 1048576) (hw : 1 ≤ w ∧ w ≤ 1048576) (h : oth b v = oth b w) : v = w := by unfold oth at h; omega
theorem oth_range (b v : Int) : 1 ≤ oth b v ∧ oth b v ≤ 1048576 := by unfold oth; omega
theorem other33 (b v : Int) (st : St) (hv : 0 ≤ v ∧ v < 4294967296) (hb : 0 ≤ b ∧ b < 4294967296) :
    ACalls Tryz.prog 18 [u v, u b] st fun r st' => r = u (oth b v) ∧ st' = st := by
  have h1 : IntKind.u64.wrap v = v := wrap_u64 _ (by omega) (by omega)
  have h2 : IntKind.u64.wrap b = b := wrap_u64 _ (by omega) (by omega)
  have h3 : IntKind.u64.wrap (v + b) = v + b := wrap_u64 _ (by omega) (by omega)
  have h4 : (v + b).tmod 1048576 = (v + b) % 1048576 := Int.tmod_eq_emod_of_nonneg (by omega)
  have h5 : IntKind.u32.wrap ((v + b) % 1048576) = (v + b) % 1048576 := wrap_u32' _ (by omega) (by omega)
  have h6 : IntKind.u32.wrap ((v + b) % 1048576 + 1) = (v + b) % 1048576 + 1 := wrap_u32' _ (by omega) (by omega)
  have h7 : IntKind.u64.wrap ((v + b) % 1048576) = (v + b) % 1048576 := wrap_u64 _ (by omega) (by omega)
  unfold oth
  refine qO tabOk Tryz.func18 rfl rfl Tryz.ntmps18 (rs := [.tmp 4]) rfl (by simp) ?_
  (repeat' (first | refine qS ?_ | (refine qR ?_; simp only [ak, reduceIte]; simp [h1, h2, h3, h4, h5, h6, h7]) | (refine w_e [] ?_; intro J hJ; simp only []; simp [h1, h2, h3, h4, h5, h6, h7]; (refine hJ _ _ ?_; clear hJ J; simp only [ak, reduceIte]))))
theorem Renamed_1 (b id : Int) (q : Nat) (st : St) (hq : st.H q = .box 29 1 [u b]) (hb : 0 ≤ b ∧ b < 4294967296) :
    ACalls Tryz.prog 19 [u id, .pt q 0] st fun r st' => r = bb (flp b id) ∧ st' = st := by
  have h1 : b.tmod 4 = b % 4 := Int.tmod_eq_emod_of_nonneg hb.1
  have h2 : 0 ≤ b % 4 := by omega
  unfold flp
  refine qO tabOk Tryz.func19 rfl rfl Tryz.ntmps19 (rs := [.tmp 3]) rfl (by simp) ?_
  (repeat' (first | refine qS ?_ | (refine qR ?_; simp only [ak, reduceIte]; simp [hq, h1, h2]) | (refine w_e [] ?_; intro J hJ; simp only []; simp [hq, h1, h2]; (refine hJ _ _ ?_; clear hJ J; simp only [ak, reduceIte]))))
theorem us_map_take (l : List Int) (f : Int → Int) (k : Nat) (hk : k < l.length) : (l.take (k + 1)).map f = (l.take k).map f ++ [f (l.getD k 0)] := by
  rw [List.take_succ_eq_append_getElem hk, List.map_append, getD_lt _ _ hk]; rfl
theorem eds_map_take (l : List Ed) (f : Ed → Ed) (k : Nat) (hk : k < l.length) : (l.take (k + 1)).map f = (l.take k).map f ++ [f (l.getD k ed0)] := by
  rw [List.take_succ_eq_append_getElem hk, List.map_append, getE_lt _ _ hk]; rfl
theorem dNormal' (l : List Int) (t : Nat) (st : St) (hl : small l) :
    ACalls Tryz.prog 23 [.sl t l.length (us l)] st fun r st' => r = .sl 0 l.length (us (nrm l)) ∧ st' = st :=
  qT (Q := fun r => r = .sl 0 l.length (us (nrm l))) (Normal l t st hl) fun r h => by subst h; exact ⟨.inl rfl, belL_us _ _⟩
theorem oth_nodup (b : Int) {l : List Int} (h : l.Pairwise (· < ·)) (hr : ∀ v ∈ l, 1 ≤ v ∧ v ≤ 1048576) : (l.map (oth b)).Nodup :=
  List.pairwise_map.2 (h.imp_of_mem fun hx hy h e => by have := oth_inj (hr _ hx) (hr _ hy) e; omega)
theorem rens_id (b : Int) (x : Ed) : (rens b x).id = oth b x.id := by unfold rens; split <;> rfl
theorem rens_nodup {b : Int} {l : List Ed} (h : l.Pairwise fun x y => x.id < y.id) (hr : ∀ x ∈ l, 1 ≤ x.id ∧ x.id ≤ 1048576) : ((l.map (rens b)).map (·.id)).Nodup := by
  rw [List.map_map]
  refine List.pairwise_map.2 (h.imp_of_mem fun {x y} hx hy h e => ?_)
  simp only [Function.comp_apply, rens_id] at e
  have := oth_inj (hr _ hx) (hr _ hy) e; omega
theorem Make' (vs : List Int) (es : List Ed) (t1 t2 : Nat) (st : St) (hv : vs.length ≤ 1000) (he : es.length ≤ 20) (hvn : vs.Nodup) (hen : (es.map (·.id)).Nodup) :
    ACalls Tryz.prog 24 [.sl t1 vs.length (us vs), .sl t2 es.length (eds es)] st fun r st' => MakeP vs es r ∧ st' = st :=
  qT (Make vs es t1 t2 st hv he hvn hen) fun r h => by
    obtain ⟨V, E, _, _, _, _, rfl⟩ := h
    exact bel_grL _ _
theorem Of' (g : Gr) (q : Nat) (es : List (List Int × LV)) (tf : Int → List Int) (st : St) (hv : g.vs.length ≤ 1000) (he : g.es.length ≤ 1000) (hq : q < st.next) (hM : st.H q = .map false [.u32] es)
    (ht : ∀ v ∈ g.vs, ∃ x t, (mget es [v]).getD .nil = x ∧ norm x = .sl t (tf v).length (us (tf v)) ∧ (tf v).length ≤ 1000) :
    ACalls Tryz.prog 14 [.ag (grL g), .mp q] st fun r st' => r = .ag (mpL ⟨g, g.vs.map fun v => nrm (tf v)⟩) ∧ st' = st :=
  qT (Q := fun r => r = .ag (mpL ⟨g, g.vs.map fun v => nrm (tf v)⟩)) (rot_Of g q es tf st hv he hq hM ht) fun r h => by subst h; exact bel_mpL _ _
structure RenP (m : Mp) (b : Int) (mm : Mp) : Prop where
  vp : mm.g.vs.Perm (m.g.vs.map (oth b))
  vr : mm.g.vs.Pairwise (· < ·)
  ep : mm.g.es.Perm (m.g.es.map (rens b))
  er : (mm.g.es.map (·.id)).Pairwise (· < ·)
  rl : mm.rots.length = mm.g.vs.length
  rt : ∀ j, j < m.g.vs.length → ∀ k, k < mm.g.vs.length → mm.g.vs.getD k 0 = oth b (m.g.vs.getD j 0) → mm.rots.getD k [] = nrm (nrm ((m.rots.getD j []).map (rend b)))
set_option maxHeartbeats 8000000 in
theorem RenamedK (m : Mp) (b : Int) (st : St) (ho : MapOk m) (hb : 0 ≤ b ∧ b < 4294967296) (hv : m.g.vs.length ≤ 100) (he : m.g.es.length ≤ 20) (hvr : ∀ v ∈ m.g.vs, 1 ≤ v ∧ v ≤ 1048576) :
    ACalls Tryz.prog 6 [.ag (mpL m), u b] st fun r st' => (∃ mm, RenP m b mm ∧ r = .ag (mpL mm)) ∧ Keeps st st' := by
  refine qO tabOk Tryz.func6 rfl rfl Tryz.ntmps6 (rs := [.cell 4 28]) rfl (by simp) ?_
  refine awp_posG fun hpos => ?_
  (repeat' (first | refine qS ?_ | refine qB ?_ | (refine w_e [] ?_; intro J hJ; simp only []; simp []; (refine hJ _ _ ?_; clear hJ J; simp only [ak, reduceIte]))))
  refine awp_own 5 29 1 (by simp) ?_
  refine awp_range 26 25 27 36 (m.g.vs.length) (fun j fr st2 => fr 2 = .pt st.next 0 ∧ fr 3 = .pt (st.next + 1) 0 ∧ fr 4 = .pt (st.next + 2) 0 ∧ fr 24 = .sl 0 m.g.vs.length (us m.g.vs) ∧ st2.H st.next = .box 28 3 (mpL m) ∧ st2.H (st.next + 1) = .box 29 1 [u b] ∧ st2.H (st.next + 2) = .box 28 3 [.nil, .nil, .nil] ∧ Keeps st st2 ∧ ∃ t, fr 5 = .sl t j (us ((m.g.vs.take j).map (oth b))) ∧ st2.H t = .own 29 1 j ∧ st.next + 2 < t ∧ t < st2.next) ?_ ?_ ?_
  · refine ⟨by simp, by simp, by simp, by simp, by simp, by simp, by simp, ?_, st.next + 3, by simp, by simp, by omega, by simp⟩
    (repeat (first | exact Keeps.refl _ | (refine Keeps.trans ?_ (Keeps.new _ _))))
  · rintro j fr s hlt ⟨f2, f3, f4, f24, hG, hB, hN, hkp, t, f5, hO, lt, ut⟩ fi fn JO hJO
    have hd := qG m.g.vs j hlt
    have hst := us_map_take m.g.vs (oth b) j hlt
    have hr1 := hvr _ (getD_mem hlt)
    have hjl : (us ((m.g.vs.take j).map (oth b))).length = j := by simp; omega
    simp only [hst] at hJO
    have hsp : us ((m.g.vs.take j).map (oth b) ++ [oth b (m.g.vs.getD j 0)]) = us ((m.g.vs.take j).map (oth b)) ++ [u (oth b (m.g.vs.getD j 0))] := by simp [us]
    simp only [hsp] at hJO
    clear hst hsp
    generalize us ((m.g.vs.take j).map (oth b)) = L at *
    generalize m.g.vs.getD j 0 = v at *
    (repeat' (first | refine qS ?_ | (refine w_e [] ?_; intro J hJ; simp only []; simp [f3, f24, fi, fn, hd, hlt, hB]; (try (refine hJ _ _ ?_; clear hJ J; simp only [ak, reduceIte])))))
    refine qE (other33 b v _ (by omega) hb) (by simp) ?_; rintro r s1 ⟨rfl, h1⟩
    rw [h1]; clear h1 s1
    generalize oth b v = v' at *
    have e1 : ¬ t = s.next := by omega
    have e2 : ¬ t = 0 := by omega
    (repeat' (refine e_go ?_; simp [f5, hO, e1, e2, hjl]; (repeat refine ca ?_); (refine hJ _ _ ?_; clear hJ J; simp only [ak, reduceIte])))
    refine hJO _ _ (by simp [fi]) (by simp [fn]) ⟨by simp [f2], by simp [f3], by simp [f4], by simp [f24], by simp [show ¬ st.next = s.next by omega, show ¬ st.next = s.next + 1 by omega, show ¬ st.next = t by omega, hG], by simp [show ¬ st.next = s.next by omega, show ¬ st.next + 1 = s.next by omega, show ¬ st.next + 1 = t by omega, hB], by simp [show ¬ st.next + 1 = s.next by omega, show ¬ st.next + 2 = s.next by omega, show ¬ st.next + 2 = t by omega, hN], ?_, s.next + 1, by simp, by simp, by omega, by simp⟩
    (repeat (first | exact hkp | (refine Keeps.trans ?_ (Keeps.new _ _)) | (refine Keeps.set ?_ (by omega) _)))
  rintro fr s ⟨f2, f3, f4, f24, hG, hB, hN, hkp, t, f5, hO, lt, ut⟩
  rw [List.take_length] at f5
  have hsn : st.next + 2 < s.next := by omega
  clear hO lt ut f24
  obtain ⟨OV, hOV⟩ : ∃ OV, OV = m.g.vs.map (oth b) := ⟨_, rfl⟩
  rw [← hOV] at f5
  have hOVl : OV.length = m.g.vs.length := by rw [hOV, List.length_map]
  (repeat' (first | refine qS ?_ | refine qB ?_ | (refine w_e [] ?_; intro J hJ; simp only []; simp [f2, hG]; (refine hJ _ _ ?_; clear hJ J; simp only [ak, reduceIte]))))
  refine awp_own 9 37 3 (by simp) ?_
  obtain ⟨t5, ht5⟩ : ∃ t5, t5 = t := ⟨_, rfl⟩
  rw [← ht5] at f5
  clear ht5
  refine awp_range 42 41 43 70 (m.g.es.length) (fun j fr st2 => fr 2 = .pt st.next 0 ∧ fr 3 = .pt (st.next + 1) 0 ∧ fr 4 = .pt (st.next + 2) 0 ∧ fr 40 = .sl 0 m.g.es.length (eds m.g.es) ∧ fr 5 = .sl t5 m.g.vs.length (us OV) ∧ fr 8 = .fn (.func 19) [.pt (st.next + 1) 0] ∧ st2.H st.next = .box 28 3 (mpL m) ∧ st2.H (st.next + 1) = .box 29 1 [u b] ∧ st2.H (st.next + 2) = .box 28 3 [.nil, .nil, .nil] ∧ Keeps st st2 ∧ ∃ t, fr 9 = .sl t j (eds ((m.g.es.take j).map (rens b))) ∧ st2.H t = .own 37 3 j ∧ st.next + 2 < t ∧ t < st2.next) ?_ ?_ ?_
  · exact ⟨by simp [f2], by simp [f3], by simp [f4], by simp, by simp [f5], by simp [f3], by simp [show ¬ st.next = s.next by omega, hG], by simp [show ¬ st.next + 1 = s.next by omega, hB], by simp [show ¬ st.next + 2 = s.next by omega, hN], hkp.trans (Keeps.new _ _), s.next, by simp [eds], by simp, by omega, by simp⟩
  · clear f2 f3 f4 f5 hG hB hN hkp hsn fr s
    rintro j fr s hlt ⟨f2, f3, f4, f40, f5, f8, hG, hB, hN, hkp, t, f9, hO, lt, ut⟩ fi fn JO hJO
    have hd := eds_drop m.g.es j hlt
    have hel := eds_length m.g.es
    have hj3 : j * 3 < m.g.es.length * 3 := by omega
    have hst := eds_map_take m.g.es (rens b) j hlt
    have hxin : m.g.es.getD j ed0 ∈ m.g.es := by rw [getE_lt _ _ hlt]; exact List.getElem_mem hlt
    have hx1 := ho.g.pos _ hxin
    have hx2 := ho.g.ends _ hxin
    have hjl : (eds ((m.g.es.take j).map (rens b))).length = j * 3 := by rw [eds_length]; simp; omega
    simp only [hst] at hJO
    have hsp : eds ((m.g.es.take j).map (rens b) ++ [rens b (m.g.es.getD j ed0)]) = eds ((m.g.es.take j).map (rens b)) ++ edL (rens b (m.g.es.getD j ed0)) := by simp [eds]
    simp only [hsp] at hJO
    clear hst hsp
    generalize eds ((m.g.es.take j).map (rens b)) = L at *
    generalize m.g.es.getD j ed0 = x at *
    obtain ⟨d, p, q⟩ := x
    have hp1 := hvr _ hx2.1
    have hq1 := hvr _ hx2.2
    simp only at hd hx1 hp1 hq1
    have e1 : ¬ st.next + 1 = s.next := by omega
    have e2 : ¬ t = s.next := by omega
    have e3 : ¬ t = 0 := by omega
    have e4 : ¬ t = s.next + 1 := by omega
    have e5 : ¬ st.next = s.next := by omega
    have hB1 : ∀ o, (s.new o).H (st.next + 1) = .box 29 1 [u b] := fun o => by rw [new_H, if_neg e1]; exact hB
    (repeat' (first | refine qS ?_ | (refine w_e [] ?_; intro J hJ; simp only []; simp [f3, f40, fi, fn, hd, hlt, hel]; (refine hJ _ _ ?_; clear hJ J; simp only [ak, reduceIte]))))
    (refine w_s [] [st.next + 1, s.next] [(0, true), (1, true), (2, true), (4, true), (5, true), (6, true), (3, true), (7, true), (8, true), (9, true)] ?_; intro J hJ; simp [f3, hB, e1])
    refine qD (other33 b p _ (by omega) hb) (by simp) ?_; rintro r s1 ⟨rfl, h1⟩
    rw [h1]; clear h1 s1
    refine ⟨fun h => by first | (cases h; done) | simp [hB, e1], ?_⟩
    (refine d_go ?_; simp [f3, hB, e1])
    refine qD (other33 b q _ (by omega) hb) (by simp) ?_; rintro r s1 ⟨rfl, h1⟩
    rw [h1]; clear h1 s1
    refine ⟨fun h => by first | (cases h; done) | simp [hB, e1], ?_⟩
    (refine d_go ?_; simp [f3, hB, e1]; (refine hJ _ _ ?_; clear hJ J; simp only [ak, reduceIte]))
    (repeat' (first | refine qS ?_ | (refine w_e [] ?_; intro J hJ; simp only []; simp [f8])))
    refine qE (Renamed_1 b d (st.next + 1) _ (hB1 _) hb) (by simp) ?_; rintro r s1 ⟨rfl, h1⟩
    rw [h1]; clear h1 s1
    cases hfl : flp b d with
    | true =>
      have hrn : rens b ⟨d, p, q⟩ = ⟨oth b d, oth b q, oth b p⟩ := by unfold rens; rw [if_pos hfl]
      rw [hrn] at hJO
      (repeat' (first | (refine qC ?_; simp [f3, hB, e1]) | ((first | (refine w_e [] ?_; intro J hJ; simp only []) | (refine e_go ?_)); simp [f3, hB, e1]; (try (refine hJ _ _ ?_; clear hJ J; simp only [ak, reduceIte])))))
      refine qE (other33 b d _ (by omega) hb) (by simp) ?_; rintro r s1 ⟨rfl, h1⟩
      rw [h1]; clear h1 s1
      (repeat' (refine e_go ?_; simp [f9, hO, e2, e3, e4, hjl]; (repeat refine ca ?_); (refine hJ _ _ ?_; clear hJ J; simp only [ak, reduceIte])))
      refine hJO _ _ (by simp [fi]) (by simp [fn]) ⟨by simp [f2], by simp [f3], by simp [f4], by simp [f40], by simp [f5], by simp [f8], by simp [e5, show ¬ st.next = s.next + 1 by omega, show ¬ st.next = s.next + 1 + 1 by omega, show ¬ st.next = t by omega, hG], by simp [e1, e5, show ¬ st.next = s.next + 1 by omega, show ¬ st.next + 1 = t by omega, hB], by simp [e1, e5, show ¬ st.next + 2 = s.next by omega, show ¬ st.next + 2 = t by omega, hN], ?_, s.next + 1 + 1, by simp [edL], by simp, by omega, by simp⟩
      (repeat (first | exact hkp | (refine Keeps.trans ?_ (Keeps.new _ _)) | (refine Keeps.set ?_ (by omega) _)))
    | false =>
      have hrn : rens b ⟨d, p, q⟩ = ⟨oth b d, oth b p, oth b q⟩ := by unfold rens; rw [if_neg (by simp [hfl])]
      rw [hrn] at hJO
      (repeat' (first | (refine qK ?_; simp only [ak, reduceIte]) | (refine qC ?_; simp [f3, hB, e1]) | ((first | (refine w_e [] ?_; intro J hJ; simp only []) | (refine e_go ?_)); simp [f3, hB, e1]; (try (refine hJ _ _ ?_; clear hJ J; simp only [ak, reduceIte])))))
      refine qE (other33 b d _ (by omega) hb) (by simp) ?_; rintro r s1 ⟨rfl, h1⟩
      rw [h1]; clear h1 s1
      (repeat' (refine e_go ?_; simp [f9, hO, e2, e3, e4, hjl]; (repeat refine ca ?_); (refine hJ _ _ ?_; clear hJ J; simp only [ak, reduceIte])))
      refine hJO _ _ (by simp [fi]) (by simp [fn]) ⟨by simp [f2], by simp [f3], by simp [f4], by simp [f40], by simp [f5], by simp [f8], by simp [e5, show ¬ st.next = s.next + 1 by omega, show ¬ st.next = s.next + 1 + 1 by omega, show ¬ st.next = t by omega, hG], by simp [e1, e5, show ¬ st.next = s.next + 1 by omega, show ¬ st.next + 1 = t by omega, hB], by simp [e1, e5, show ¬ st.next + 2 = s.next by omega, show ¬ st.next + 2 = t by omega, hN], ?_, s.next + 1 + 1, by simp [edL], by simp, by omega, by simp⟩
      (repeat (first | exact hkp | (refine Keeps.trans ?_ (Keeps.new _ _)) | (refine Keeps.set ?_ (by omega) _)))
  clear f2 f3 f4 f5 hG hB hN hkp hsn fr s
  rintro fr s ⟨f2, f3, f4, f40, f5, f8, hG, hB, hN, hkp, t, f9, hO, lt, ut⟩
  rw [List.take_length] at f9
  have hsn : st.next + 2 < s.next := by omega
  clear hO lt ut f40
  obtain ⟨t9, ht9⟩ : ∃ t9, t9 = t := ⟨_, rfl⟩
  rw [← ht9] at f9
  clear ht9
  have e0 : ¬ st.next = s.next := by omega
  (repeat' (first | refine qS ?_ | refine qB ?_ | (refine w_e [] ?_; intro J hJ; simp only []; simp [f2, hG, e0]; (refine hJ _ _ ?_; clear hJ J; simp only [ak, reduceIte]))))
  obtain ⟨q14, hq14⟩ : ∃ q, q = s.next := ⟨_, rfl⟩
  have hlq : st.next + 2 < q14 := by omega
  have hrl := ho.len
  refine awp_range 75 74 76 112 (m.rots.length) (fun j fr st2 => fr 2 = .pt st.next 0 ∧ fr 3 = .pt (st.next + 1) 0 ∧ fr 4 = .pt (st.next + 2) 0 ∧ fr 5 = .sl t5 m.g.vs.length (us OV) ∧ fr 8 = .fn (.func 19) [.pt (st.next + 1) 0] ∧ fr 9 = .sl t9 m.g.es.length (eds (m.g.es.map (rens b))) ∧ fr 14 = .mp q14 ∧ fr 73 = .sl 0 m.rots.length (rowsL m.rots) ∧ st2.H st.next = .box 28 3 (mpL m) ∧ st2.H (st.next + 1) = .box 29 1 [u b] ∧ st2.H (st.next + 2) = .box 28 3 [.nil, .nil, .nil] ∧ Keeps st st2 ∧ q14 < st2.next ∧ ∃ MM, st2.H q14 = .map false [.u32] MM ∧ ∀ i, i < j → mget MM [oth b (m.g.vs.getD i 0)] = some (.sl 0 (m.rots.getD i []).length (us (nrm ((m.rots.getD i []).map (rend b)))))) ?_ ?_ ?_
  · exact ⟨by simp [f2], by simp [f3], by simp [f4], by simp [f5], by simp [f8], by simp [f9], by simp [hq14], by simp, by simp [e0, hG], by simp [show ¬ st.next + 1 = s.next by omega, hB], by simp [show ¬ st.next + 2 = s.next by omega, hN], hkp.trans (Keeps.new _ _), by simp [hq14], [], by simp [hq14], fun i hi => by omega⟩
  · clear f2 f3 f4 f5 f8 f9 hG hB hN hkp hsn e0 hq14 fr s
    rintro jo fr s hlt ⟨f2, f3, f4, f5, f8, f9, f14, f73, hG, hB, hN, hkp, uq, MM, hM, hMg⟩ fi fn JO hJO
    have hjv : jo < m.g.vs.length := by rw [← ho.len]; exact hlt
    have hd := rowsL_drop m.rots jo hlt
    have hmem : m.rots.getD jo [] ∈ m.rots := by rw [getR_lt _ _ hlt]; exact List.getElem_mem _
    have htl : (m.rots.getD jo []).length ≤ 200 := by have := ho.row_le hmem; omega
    have htd : ∀ d ∈ m.rots.getD jo [], 2 ≤ d ∧ d ≤ 2097153 := fun d hd => dart_range ho (ho.turn_dart hmem hd)
    have hvd : (us OV).drop jo = u (oth b (m.g.vs.getD jo 0)) :: us (OV.drop (jo + 1)) := by
      rw [qG OV jo (by omega)]
      congr 2
      rw [hOV]
      simp [List.getD_eq_getElem?_getD, hjv]
    have hMj : ∀ x, (∀ i, i < jo + 1 → mget (mset MM [oth b (m.g.vs.getD jo 0)] x) [oth b (m.g.vs.getD i 0)] = some (if i = jo then x else .sl 0 (m.rots.getD i []).length (us (nrm ((m.rots.getD i []).map (rend b)))))) := fun x i hi => by
      rw [mget_mset]
      by_cases e : i = jo
      · subst e; rw [if_pos rfl, if_pos rfl]
      · rw [if_neg e, if_neg ?_]
        · exact hMg i (by omega)
        · intro h
          have h1 : oth b (m.g.vs.getD i 0) = oth b (m.g.vs.getD jo 0) := by simpa using h
          have hiv : i < m.g.vs.length := by omega
          have h2 := oth_inj (hvr _ (getD_mem hiv)) (hvr _ (getD_mem hjv)) h1
          exact e (nodup_idx (rise_nodup ho.g.rise) hiv hjv h2)
    have hfin : ∀ st' : St, (∃ MM, st'.H q14 = .map false [.u32] MM ∧ ∀ i, i < jo + 1 → mget MM [oth b (m.g.vs.getD i 0)] = some (if i = jo then .sl 0 (m.rots.getD jo []).length (us (nrm ((m.rots.getD jo []).map (rend b)))) else .sl 0 (m.rots.getD i []).length (us (nrm ((m.rots.getD i []).map (rend b)))))) → ∃ MM, st'.H q14 = .map false [.u32] MM ∧ ∀ i, i < jo + 1 → mget MM [oth b (m.g.vs.getD i 0)] = some (.sl 0 (m.rots.getD i []).length (us (nrm ((m.rots.getD i []).map (rend b))))) := by
      rintro st' ⟨MM, h1, h2⟩
      refine ⟨MM, h1, fun i hi => ?_⟩
      rw [h2 i hi]
      by_cases e : i = jo
      · subst e; rw [if_pos rfl]
      · rw [if_neg e]
    have hjlV : jo < OV.length := by omega
    clear hMg
    generalize oth b (m.g.vs.getD jo 0) = ov at *
    generalize m.rots.getD jo [] = t at *
    (repeat' (first | refine qS ?_ | refine qB ?_ | (refine w_e [] ?_; intro J hJ; simp only []; simp [f73, fi, fn, hd, hlt]; (refine hJ _ _ ?_; clear hJ J; simp only [ak, reduceIte]))))
    refine awp_own 17 29 1 (by simp) ?_
    refine awp_range 82 81 83 104 (t.length) (fun j fr st2 => fr 2 = .pt st.next 0 ∧ fr 3 = .pt (st.next + 1) 0 ∧ fr 4 = .pt (st.next + 2) 0 ∧ fr 5 = .sl t5 m.g.vs.length (us OV) ∧ fr 8 = .fn (.func 19) [.pt (st.next + 1) 0] ∧ fr 9 = .sl t9 m.g.es.length (eds (m.g.es.map (rens b))) ∧ fr 14 = .mp q14 ∧ fr 73 = .sl 0 m.rots.length (rowsL m.rots) ∧ fr 74 = i m.rots.length ∧ fr 75 = i jo ∧ fr 15 = i jo ∧ fr 80 = .sl 0 t.length (us t) ∧ st2.H st.next = .box 28 3 (mpL m) ∧ st2.H (st.next + 1) = .box 29 1 [u b] ∧ st2.H (st.next + 2) = .box 28 3 [.nil, .nil, .nil] ∧ Keeps st st2 ∧ q14 < st2.next ∧ st2.H q14 = .map false [.u32] MM ∧ ∃ tt, fr 17 = .sl tt j (us ((t.take j).map (rend b))) ∧ st2.H tt = .own 29 1 j ∧ st.next + 2 < tt ∧ tt < st2.next ∧ tt ≠ q14) ?_ ?_ ?_
    · have hn := hkp.next
      exact ⟨by simp [f2], by simp [f3], by simp [f4], by simp [f5], by simp [f8], by simp [f9], by simp [f14], by simp [f73], by simp [fn], by simp [fi], by simp, by simp, by simp [show ¬ st.next = s.next by omega, hG], by simp [show ¬ st.next + 1 = s.next by omega, hB], by simp [show ¬ st.next + 2 = s.next by omega, hN], hkp.trans (Keeps.new _ _), by simp; omega, by simp [show ¬ q14 = s.next by omega, hM], s.next, by simp, by simp, by omega, by simp, by omega⟩
    · clear f2 f3 f4 f5 f8 f9 f14 f73 fi fn hG hB hN hkp uq hM hJO hd hMj hfin hvd fr s
      rintro k fr s hlk ⟨f2, f3, f4, f5, f8, f9, f14, f73, f74, f75, f15, f80, hG, hB, hN, hkp, uq, hM, tt, f17, hO, lt, ut, hne⟩ fi fn JI hJI
      have hd := qG t k hlk
      have hst := us_map_take t (rend b) k hlk
      have hdr := htd _ (getD_mem hlk)
      have hjl : (us ((t.take k).map (rend b))).length = k := by simp; omega
      simp only [hst] at hJI
      have hsp : us ((t.take k).map (rend b) ++ [rend b (t.getD k 0)]) = us ((t.take k).map (rend b)) ++ [u (rend b (t.getD k 0))] := by simp [us]
      simp only [hsp] at hJI
      clear hst hsp
      generalize us ((t.take k).map (rend b)) = L at *
      generalize t.getD k 0 = d at *
      have hq : d.tmod 2 = d % 2 := Int.tmod_eq_emod_of_nonneg (by omega)
      have hwr : IntKind.i64.wrap (d % 2) = d % 2 := wrap_i64 _ (by omega) (by omega)
      have hwr2 : IntKind.u32.wrap (d % 2) = d % 2 := wrap_u32' _ (by omega) (by omega)
      have hor := oth_range b (d / 2)
      (repeat' (first | refine qS ?_ | (refine w_e [] ?_; intro J hJ; simp only []; simp [f80, fi, fn, hd, hlk]; (try (refine hJ _ _ ?_; clear hJ J; simp only [ak, reduceIte])))))
      refine qE (Edge d _) (by simp) ?_; rintro r s1 ⟨rfl, h1⟩
      rw [h1]; clear h1 s1
      (repeat' (first | refine qS ?_ | ((first | (refine w_e [] ?_; intro J hJ; simp only []) | (refine e_go ?_)); simp [f3, hB]; (try (refine hJ _ _ ?_; clear hJ J; simp only [ak, reduceIte])))))
      refine qE (other33 b (d / 2) _ (by omega) hb) (by simp) ?_; rintro r s1 ⟨rfl, h1⟩
      rw [h1]; clear h1 s1
      (repeat' (refine e_go ?_; simp [hq, hwr, hwr2]))
      refine qE (dOf (oth b (d / 2)) (d % 2) _ (by omega) (by omega) (by omega)) (by simp) ?_; rintro r s1 ⟨rfl, h1⟩
      rw [h1]; clear h1 s1
      (repeat' (first | refine qS ?_ | ((first | (refine w_e [] ?_; intro J hJ; simp only []) | (refine e_go ?_)); simp [f8]; (try (refine hJ _ _ ?_; clear hJ J; simp only [ak, reduceIte])))))
      refine qE (Renamed_1 b (d / 2) (st.next + 1) _ hB hb) (by simp) ?_; rintro r s1 ⟨rfl, h1⟩
      rw [h1]; clear h1 s1
      have e1 : ¬ tt = s.next := by omega
      have e2 : ¬ tt = 0 := by omega
      cases hfl : flp b (d / 2) with
      | true =>
        have hrn : rend b d = tw (2 * oth b (d / 2) + d % 2) := by unfold rend; rw [if_pos hfl]
        rw [hrn] at hJI
        (repeat' (first | (refine qC ?_; simp []) | ((first | (refine w_e [] ?_; intro J hJ; simp only []) | (refine e_go ?_)); simp []; (try (refine hJ _ _ ?_; clear hJ J; simp only [ak, reduceIte])))))
        refine qE (Twin (2 * oth b (d / 2) + d % 2) _ (by omega) (by omega)) (by simp) ?_; rintro r s1 ⟨rfl, h1⟩
        rw [h1]; clear h1 s1
        generalize tw (2 * oth b (d / 2) + d % 2) = d' at *
        (repeat' ((first | (refine w_e [] ?_; intro J hJ; simp only []) | (refine e_go ?_)); simp [f17, hO, e1, e2, hjl]; (repeat refine ca ?_); (refine hJ _ _ ?_; clear hJ J; simp only [ak, reduceIte])))
        refine hJI _ _ (by simp [fi]) (by simp [fn]) ⟨by simp [f2], by simp [f3], by simp [f4], by simp [f5], by simp [f8], by simp [f9], by simp [f14], by simp [f73], by simp [f74], by simp [f75], by simp [f15], by simp [f80], by simp [show ¬ st.next = s.next by omega, show ¬ st.next = s.next + 1 by omega, show ¬ st.next = tt by omega, hG], by simp [show ¬ st.next = s.next by omega, show ¬ st.next + 1 = s.next by omega, show ¬ st.next + 1 = tt by omega, hB], by simp [show ¬ st.next + 1 = s.next by omega, show ¬ st.next + 2 = s.next by omega, show ¬ st.next + 2 = tt by omega, hN], ?_, by simp; omega, by simp [show ¬ q14 = s.next by omega, show ¬ q14 = s.next + 1 by omega, show ¬ q14 = tt by omega, hM], s.next + 1, by simp, by simp, by omega, by simp, by omega⟩
        (repeat (first | exact hkp | (refine Keeps.trans ?_ (Keeps.new _ _)) | (refine Keeps.set ?_ (by omega) _)))
      | false =>
        have hrn : rend b d = 2 * oth b (d / 2) + d % 2 := by unfold rend; rw [if_neg (by simp [hfl])]
        rw [hrn] at hJI
        generalize 2 * oth b (d / 2) + d % 2 = d' at *
        (repeat' (first | (refine qK ?_; simp only [ak, reduceIte]) | (refine qC ?_; simp [f17, hO, e1, e2, hjl]) | ((first | (refine w_e [] ?_; intro J hJ; simp only []) | (refine e_go ?_)); simp [f17, hO, e1, e2, hjl]; (repeat refine ca ?_); (refine hJ _ _ ?_; clear hJ J; simp only [ak, reduceIte]))))
        refine hJI _ _ (by simp [fi]) (by simp [fn]) ⟨by simp [f2], by simp [f3], by simp [f4], by simp [f5], by simp [f8], by simp [f9], by simp [f14], by simp [f73], by simp [f74], by simp [f75], by simp [f15], by simp [f80], by simp [show ¬ st.next = s.next by omega, show ¬ st.next = s.next + 1 by omega, show ¬ st.next = tt by omega, hG], by simp [show ¬ st.next = s.next by omega, show ¬ st.next + 1 = s.next by omega, show ¬ st.next + 1 = tt by omega, hB], by simp [show ¬ st.next + 1 = s.next by omega, show ¬ st.next + 2 = s.next by omega, show ¬ st.next + 2 = tt by omega, hN], ?_, by simp; omega, by simp [show ¬ q14 = s.next by omega, show ¬ q14 = s.next + 1 by omega, show ¬ q14 = tt by omega, hM], s.next + 1, by simp, by simp, by omega, by simp, by omega⟩
        (repeat (first | exact hkp | (refine Keeps.trans ?_ (Keeps.new _ _)) | (refine Keeps.set ?_ (by omega) _)))
    · clear f2 f3 f4 f5 f8 f9 f14 f73 fi fn hG hB hN hkp uq hM hd fr s
      rintro fr s ⟨f2, f3, f4, f5, f8, f9, f14, f73, f74, f75, f15, f80, hG, hB, hN, hkp, uq, hM, tt, f17, hO, lt, ut, hne⟩
      rw [List.take_length] at f17
      have hXl : (t.map (rend b)).length = t.length := List.length_map _
      have hXs : small (t.map (rend b)) := by unfold small; omega
      have hMj' := hMj (.sl 0 t.length (us (nrm (t.map (rend b)))))
      clear hMj
      generalize t.map (rend b) = X at *
      rw [← hXl] at f17 hMj' hfin
      skip
      (refine w_s [] [q14] [(0, true), (1, true), (2, true), (3, true), (4, true), (5, true), (6, true), (7, false)] ?_; intro J hJ; simp [f5, f14, f15, f17, hvd, hM, hjv, hjlV, hOVl])
      refine qD (dNormal' X tt _ hXs) (by simp) ?_; rintro r s1 ⟨rfl, h1⟩
      rw [h1]; clear h1 s1
      refine ⟨fun h => by first | (cases h; done) | simp [hM], ?_⟩
      (refine d_go ?_; simp [f14, hM]; (refine hJ _ _ ?_; clear hJ J; simp only [ak, reduceIte]))
      exact hJO _ _ (by simp [f75]) (by simp [f74]) ⟨by simp [f2], by simp [f3], by simp [f4], by simp [f5], by simp [f8], by simp [f9], by simp [f14], by simp [f73], by simp [show ¬ st.next = q14 by omega, hG], by simp [show ¬ st.next + 1 = q14 by omega, hB], by simp [show ¬ st.next + 2 = q14 by omega, hN], hkp.set (by omega) _, by simpa using uq, hfin _ ⟨_, by simp, hMj'⟩⟩
  · clear f2 f3 f4 f5 f8 f9 hG hB hN hkp hsn e0 hq14 fr s
    rintro fr s ⟨f2, f3, f4, f5, f8, f9, f14, f73, hG, hB, hN, hkp, uq, MM, hM, hMg⟩
    have hvn : OV.Nodup := by rw [hOV]; exact oth_nodup b ho.g.rise hvr
    have hen : ((m.g.es.map (rens b)).map (·.id)).Nodup := rens_nodup ho.g.ids ho.g.pos
    (repeat' (first | refine qS ?_ | (refine w_e [] ?_; intro J hJ; simp only []; simp [f5, f9])))
    refine qE (Make' OV (m.g.es.map (rens b)) t5 t9 _ (by omega) (by simpa using by omega) hvn hen) (by simp [hOVl]) ?_; rintro r s1 ⟨⟨V, E, hV1, hV2, hE1, hE2, rfl⟩, h1⟩
    rw [h1]; clear h1 s1
    have hVl : V.length = m.g.vs.length := by rw [hV1.length_eq, hOVl]
    have hEl : E.length = m.g.es.length := by rw [hE1.length_eq, List.length_map]
    have hof : ∀ j, j < m.g.vs.length → OV.idxOf (oth b (m.g.vs.getD j 0)) = j := fun j hj => by
      have e : OV.getD j 0 = oth b (m.g.vs.getD j 0) := by rw [hOV]; simp [List.getD_eq_getElem?_getD, hj]
      have hm : oth b (m.g.vs.getD j 0) ∈ OV := by rw [← e]; exact getD_mem (by omega)
      obtain ⟨k1, k2⟩ := idx_lt hm
      exact nodup_idx hvn k1 (by omega) (by rw [k2, e])
    have htf : ∀ v ∈ V, ∃ x t, (mget MM [v]).getD .nil = x ∧ norm x = .sl t (nrm ((m.rots.getD (OV.idxOf v) []).map (rend b))).length (us (nrm ((m.rots.getD (OV.idxOf v) []).map (rend b)))) ∧ (nrm ((m.rots.getD (OV.idxOf v) []).map (rend b))).length ≤ 1000 := fun v hv => by
      have hv2 := hV1.mem_iff.1 hv
      rw [hOV] at hv2
      obtain ⟨w, hw, rfl⟩ := List.mem_map.1 hv2
      obtain ⟨k1, k2⟩ := idx_lt hw
      have h3 := hMg (m.g.vs.idxOf w) (by omega)
      rw [← k2, hof _ k1, h3]
      refine ⟨_, 0, rfl, ?_, ?_⟩
      · rw [nrm_length, List.length_map]; rfl
      · rw [nrm_length, List.length_map]
        have hmem : m.rots.getD (m.g.vs.idxOf w) [] ∈ m.rots := by rw [getR_lt _ _ (by omega)]; exact List.getElem_mem _
        have := ho.row_le hmem; omega
    (repeat' (refine e_go ?_; simp [f14]))
    refine qE (Of' ⟨V, E⟩ q14 MM (fun v => nrm ((m.rots.getD (OV.idxOf v) []).map (rend b))) _ (by simp; omega) (by simp; omega) uq hM htf) (by simp) ?_; rintro r s1 ⟨rfl, h1⟩
    rw [h1]; clear h1 s1
    (repeat' (first | (refine qR ?_; simp only [ak, reduceIte]; simp [f4, hN]) | (refine e_go ?_; simp [f4, hN]; (refine hJ _ _ ?_; clear hJ J; simp only [ak, reduceIte]))))
    refine ⟨⟨⟨⟨V, E⟩, V.map fun v => nrm (nrm ((m.rots.getD (OV.idxOf v) []).map (rend b)))⟩, ⟨by rw [← hOV]; exact hV1, hV2, hE1, hE2, by simp, fun j hj k hk e => ?_⟩, by simp⟩, hkp.set (by omega) _⟩
    simp only at hk e ⊢
    have h4 : (V.map fun v => nrm (nrm ((m.rots.getD (OV.idxOf v) []).map (rend b)))).getD k [] = nrm (nrm ((m.rots.getD (OV.idxOf (V.getD k 0)) []).map (rend b))) := by
      simp [List.getD_eq_getElem?_getD, hk]
    rw [h4, e, hof j hj]
theorem bel_RenP {m : Mp} {b : Int} {n : Nat} {r : LV} (h : ∃ mm, RenP m b mm ∧ r = .ag (mpL mm)) : bel n r := by
  obtain ⟨mm, _, rfl⟩ := h
  exact bel_mpL _ _
theorem Renamed (m : Mp) (b : Int) (st : St) (ho : MapOk m) (hb : 0 ≤ b ∧ b < 4294967296) (hv : m.g.vs.length ≤ 100) (he : m.g.es.length ≤ 20) (hvr : ∀ v ∈ m.g.vs, 1 ≤ v ∧ v ≤ 1048576) :
    ACalls Tryz.prog 6 [.ag (mpL m), u b] st fun r st' => (∃ mm, RenP m b mm ∧ r = .ag (mpL mm)) ∧ st' = st :=
  qT (Q := fun r => ∃ mm, RenP m b mm ∧ r = .ag (mpL mm)) (RenamedK m b st ho hb hv he hvr) fun r h => bel_RenP h
theorem rend_half (b d : Int) : rend b d / 2 = oth b (d / 2) := by
  unfold rend tw
  split
  · split <;> omega
  · omega
theorem rend_mod (b d : Int) : rend b d % 2 = if flp b (d / 2) = true then 1 - d % 2 else d % 2 := by
  unfold rend tw
  split
  · split <;> omega
  · omega
theorem rend_eq (b d : Int) : rend b d = 2 * oth b (d / 2) + if flp b (d / 2) = true then 1 - d % 2 else d % 2 := by
  have h1 := rend_half b d
  have h2 := rend_mod b d
  omega
theorem rend_inj {b d e : Int} (hd : 2 ≤ d ∧ d ≤ 2097153) (he : 2 ≤ e ∧ e ≤ 2097153) (h : rend b d = rend b e) : d = e := by
  have h1 : d / 2 = e / 2 := oth_inj (b := b) (by omega) (by omega) (by rw [← rend_half, ← rend_half, h])
  have h2 : rend b d % 2 = rend b e % 2 := by rw [h]
  rw [rend_mod, rend_mod, h1] at h2
  split at h2 <;> omega
theorem rend_tw (b d : Int) : rend b (tw d) = tw (rend b d) := by
  have h0 : tw d / 2 = d / 2 := by unfold tw; split <;> omega
  have h1 : tw d % 2 = 1 - d % 2 := by unfold tw; split <;> omega
  rw [rend_eq, rend_eq, h0, h1]
  unfold tw
  split <;> split <;> omega
theorem end1_ren (b : Int) (x : Ed) {v : Int} (hv : 1 ≤ v ∧ v ≤ 1048576) (ha : 1 ≤ x.a ∧ x.a ≤ 1048576) (hb : 1 ≤ x.b ∧ x.b ≤ 1048576) : (end1 (oth b v) (rens b x)).Perm ((end1 v x).map (rend b)) := by
  have e1 : (oth b x.a = oth b v) = (x.a = v) := propext ⟨oth_inj ha hv, fun h => by rw [h]⟩
  have e2 : (oth b x.b = oth b v) = (x.b = v) := propext ⟨oth_inj hb hv, fun h => by rw [h]⟩
  have m0 : (2 * x.id) / 2 = x.id := by omega
  have m1 : (2 * x.id + 1) / 2 = x.id := by omega
  have r0 : rend b (2 * x.id) = 2 * oth b x.id + if flp b x.id = true then 1 else 0 := by
    rw [rend_eq, m0]; split <;> omega
  have r1 : rend b (2 * x.id + 1) = 2 * oth b x.id + if flp b x.id = true then 0 else 1 := by
    rw [rend_eq, m1]; split <;> omega
  unfold end1 rens
  by_cases hf : flp b x.id = true
  · rw [if_pos hf] at r0 r1 ⊢
    simp only [e1, e2, List.map_append]
    refine List.perm_append_comm.trans (List.Perm.append ?_ ?_)
    · split <;> simp [r0]
    · split <;> simp [r1]
  · rw [if_neg hf] at r0 r1 ⊢
    simp only [e1, e2, List.map_append]
    refine List.Perm.append ?_ ?_
    · split <;> simp [r0]
    · split <;> simp [r1]
theorem ends_ren (b : Int) {v : Int} (hv : 1 ≤ v ∧ v ≤ 1048576) : ∀ es : List Ed, (∀ x ∈ es, (1 ≤ x.a ∧ x.a ≤ 1048576) ∧ 1 ≤ x.b ∧ x.b ≤ 1048576) → (ends (es.map (rens b)) (oth b v)).Perm ((ends es v).map (rend b))
  | [], _ => .refl _
  | x :: es, h => by
    have ih := ends_ren b hv es fun y hy => h y (List.mem_cons_of_mem _ hy)
    have hx := h x (by simp)
    unfold ends at ih ⊢
    rw [List.map_cons, List.flatMap_cons, List.flatMap_cons, List.map_append]
    exact (end1_ren b x hv hx.1 hx.2).append ih
theorem darts_ren (b : Int) : ∀ es : List Ed, (darts (es.map (rens b))).Perm ((darts es).map (rend b))
  | [] => .refl _
  | x :: es => by
    have ih := darts_ren b es
    unfold darts at ih ⊢
    rw [List.map_cons, List.flatMap_cons, List.flatMap_cons, List.map_append]
    refine List.Perm.append ?_ ih
    have m0 : (2 * x.id) / 2 = x.id := by omega
    have m1 : (2 * x.id + 1) / 2 = x.id := by omega
    have r0 : rend b (2 * x.id) = 2 * oth b x.id + if flp b x.id = true then 1 else 0 := by
      rw [rend_eq, m0]; split <;> omega
    have r1 : rend b (2 * x.id + 1) = 2 * oth b x.id + if flp b x.id = true then 0 else 1 := by
      rw [rend_eq, m1]; split <;> omega
    rw [rens_id, List.map_cons, List.map_cons, List.map_nil, r0, r1]
    by_cases hf : flp b x.id = true
    · rw [if_pos hf, if_pos hf]; simp; exact .swap _ _ _
    · rw [if_neg hf, if_neg hf]; simp
section
variable {m : Mp} {b : Int} {mm : Mp} (ho : MapOk m) (hvr : ∀ v ∈ m.g.vs, 1 ≤ v ∧ v ≤ 1048576) (h : RenP m b mm)
include ho hvr h
theorem RenP.ends {v : Int} (hv : v ∈ m.g.vs) : (ends mm.g.es (oth b v)).Perm ((Aw.ends m.g.es v).map (rend b)) := by
  refine List.Perm.trans ?_ (ends_ren b (hvr v hv) m.g.es fun x hx => ⟨hvr _ (ho.g.ends x hx).1, hvr _ (ho.g.ends x hx).2⟩)
  exact h.ep.flatMap_right _
omit ho hvr in
theorem RenP.darts : (darts mm.g.es).Perm ((Aw.darts m.g.es).map (rend b)) := (h.ep.flatMap_right _).trans (darts_ren b _)
theorem RenP.goodE : GoodE mm.g := by
  have hx : ∀ y ∈ mm.g.es, ∃ x ∈ m.g.es, y = rens b x := fun y hy => by
    obtain ⟨x, hx, rfl⟩ := List.mem_map.1 (h.ep.mem_iff.1 hy)
    exact ⟨x, hx, rfl⟩
  have hin : ∀ v ∈ m.g.vs, oth b v ∈ mm.g.vs := fun v hv => h.vp.mem_iff.2 (List.mem_map.2 ⟨v, hv, rfl⟩)
  refine ⟨⟨h.vr, fun y hy => ?_⟩, List.pairwise_map.1 h.er, fun y hy => ?_, fun y hy => ?_⟩
  · obtain ⟨x, hx, rfl⟩ := hx y hy
    have := ho.g.ends x hx
    unfold rens; split
    · exact ⟨hin _ this.2, hin _ this.1⟩
    · exact ⟨hin _ this.1, hin _ this.2⟩
  · obtain ⟨x, hx, rfl⟩ := hx y hy
    rw [rens_id]; exact oth_range _ _
  · obtain ⟨x, hx, rfl⟩ := hx y hy
    have h1 := ho.g.ends x hx
    have h2 := ho.g.ne x hx
    unfold rens; split
    · exact fun e => h2 (oth_inj (hvr _ h1.1) (hvr _ h1.2) e.symm)
    · exact fun e => h2 (oth_inj (hvr _ h1.1) (hvr _ h1.2) e)
omit ho hvr in
theorem RenP.at {k : Nat} (hk : k < mm.g.vs.length) : ∃ j, j < m.g.vs.length ∧ mm.g.vs.getD k 0 = oth b (m.g.vs.getD j 0) := by
  have hm := h.vp.mem_iff.1 (getD_mem hk)
  obtain ⟨w, hw, e⟩ := List.mem_map.1 hm
  obtain ⟨k1, k2⟩ := idx_lt hw
  exact ⟨_, k1, by rw [← e, k2]⟩
theorem RenP.ok : MapOk mm := by
  refine ⟨h.goodE ho hvr, h.rl, fun k hk => ?_⟩
  obtain ⟨j, hj, e⟩ := h.at hk
  rw [h.rt j hj k hk e, e]
  refine ⟨((nrm_perm _).trans (nrm_perm _)).trans ?_, nrm_nrm _⟩
  exact ((ho.ok j hj).1.map _).trans (h.ends ho hvr (getD_mem hj)).symm
end
theorem nx_map {t : List Int} (hn : t.Nodup) {f : Int → Int} (hi : ∀ x ∈ t, ∀ y ∈ t, f x = f y → x = y) {d : Int} (hd : d ∈ t) : nx (t.map f) (f d) = f (nx t d) := by
  obtain ⟨j, hj, rfl⟩ := List.getElem_of_mem hd
  have hn' : (t.map f).Nodup := List.pairwise_map.2 (hn.imp_of_mem fun hx hy h e => h (hi _ hx _ hy e))
  have h1 := nx_get hn' (j := j) (by simpa using hj)
  rw [List.getElem_map] at h1
  rw [h1, nx_get hn hj, List.getElem_map]
  simp only [List.length_map]
section
variable {m : Mp} {b : Int} {mm : Mp} (ho : MapOk m) (hvr : ∀ v ∈ m.g.vs, 1 ≤ v ∧ v ≤ 1048576) (h : RenP m b mm)
include ho hvr h
theorem RenP.iso : Iso m mm (fun d => d ∈ Aw.darts m.g.es) (rend b) := by
  refine ⟨fun x hx => hx, fun x hx => h.darts.mem_iff.2 (List.mem_map.2 ⟨x, hx, rfl⟩), fun x y hx hy e => rend_inj (dart_range ho hx) (dart_range ho hy) e, fun x hx => ⟨tw_dart.2 hx, rend_tw _ _⟩, fun x hx => ⟨ho.sg_dart hx, ?_⟩⟩
  obtain ⟨t, ht, hxt⟩ := ho.turn_of hx
  obtain ⟨j, hj, e, _⟩ := ho.turn ht
  have hov : oth b (m.g.vs.getD j 0) ∈ mm.g.vs := h.vp.mem_iff.2 (List.mem_map.2 ⟨_, getD_mem hj, rfl⟩)
  obtain ⟨k1, k2⟩ := idx_lt hov
  have hr := h.rt j hj _ k1 k2
  rw [← e] at hr
  have hin : nrm (nrm (t.map (rend b))) ∈ mm.rots := by
    rw [← hr, getR_lt _ _ (by rw [h.rl]; exact k1)]; exact List.getElem_mem _
  have htn := ho.nodup ht
  have hinj : ∀ x ∈ t, ∀ y ∈ t, rend b x = rend b y → x = y := fun x hx y hy e => rend_inj (dart_range ho (ho.turn_dart ht hx)) (dart_range ho (ho.turn_dart ht hy)) e
  have hn' : (t.map (rend b)).Nodup := List.pairwise_map.2 (htn.imp_of_mem fun hx hy h e => h (hinj _ hx _ hy e))
  have hn2 : (nrm (t.map (rend b))).Nodup := (nrm_perm _).nodup_iff.2 hn'
  have hmem : rend b x ∈ nrm (nrm (t.map (rend b))) := by
    rw [nrm_mem, nrm_mem]; exact List.mem_map.2 ⟨x, hxt, rfl⟩
  rw [sg_at ho ht hxt, sg_at (h.ok ho hvr) hin hmem, cyc_nx (cyc_nrm _) hn2, cyc_nx (cyc_nrm _) hn', nx_map htn hinj hxt]
theorem RenP.nbr {v w : Int} (hv : v ∈ m.g.vs) (hw : w ∈ m.g.vs) : w ∈ Aw.nbr m.g.es v ↔ oth b w ∈ Aw.nbr mm.g.es (oth b v) := by
  rw [mem_nbr, mem_nbr]
  constructor
  · rintro ⟨x, hx, h1⟩
    refine ⟨rens b x, h.ep.mem_iff.2 (List.mem_map.2 ⟨x, hx, rfl⟩), ?_⟩
    unfold rens
    split
    · rcases h1 with ⟨rfl, rfl⟩ | ⟨rfl, rfl⟩
      · exact .inr ⟨rfl, rfl⟩
      · exact .inl ⟨rfl, rfl⟩
    · rcases h1 with ⟨rfl, rfl⟩ | ⟨rfl, rfl⟩
      · exact .inl ⟨rfl, rfl⟩
      · exact .inr ⟨rfl, rfl⟩
  · rintro ⟨y, hy, h1⟩
    obtain ⟨x, hx, rfl⟩ := List.mem_map.1 (h.ep.mem_iff.1 hy)
    have hx2 := ho.g.ends x hx
    refine ⟨x, hx, ?_⟩
    have i1 := fun e => oth_inj (b := b) (hvr _ hx2.1) (hvr _ hv) e
    have i2 := fun e => oth_inj (b := b) (hvr _ hx2.2) (hvr _ hv) e
    have i3 := fun e => oth_inj (b := b) (hvr _ hx2.1) (hvr _ hw) e
    have i4 := fun e => oth_inj (b := b) (hvr _ hx2.2) (hvr _ hw) e
    unfold rens at h1
    split at h1
    · rcases h1 with ⟨h2, h3⟩ | ⟨h2, h3⟩
      · exact .inr ⟨i2 h2, i3 h3⟩
      · exact .inl ⟨i1 h2, i4 h3⟩
    · rcases h1 with ⟨h2, h3⟩ | ⟨h2, h3⟩
      · exact .inl ⟨i1 h2, i4 h3⟩
      · exact .inr ⟨i2 h2, i3 h3⟩
theorem RenP.reach {v w : Int} (hv : v ∈ m.g.vs) (hw : w ∈ m.g.vs) : Reach m.g.es v w ↔ Reach mm.g.es (oth b v) (oth b w) := by
  constructor
  · intro hr
    have : w ∈ m.g.vs ∧ Reach mm.g.es (oth b v) (oth b w) := hr.closed (L := fun w => w ∈ m.g.vs ∧ Reach mm.g.es (oth b v) (oth b w)) ⟨hv, .refl⟩ fun u ⟨hu, h1⟩ z hz => by
      have hzv := ho.g.toGood.nbr hz
      exact ⟨hzv, h1.step ((h.nbr ho hvr hu hzv).1 hz)⟩
    exact this.2
  · intro hr
    have hk : ∃ z, z ∈ m.g.vs ∧ oth b z = oth b w ∧ Reach m.g.es v z := hr.closed (L := fun y => ∃ z, z ∈ m.g.vs ∧ oth b z = y ∧ Reach m.g.es v z) ⟨v, hv, rfl, .refl⟩ fun y ⟨u, hu, e, h1⟩ z hz => by
      subst e
      have hz2 := (h.goodE ho hvr).toGood.nbr hz
      obtain ⟨z', hz', rfl⟩ := List.mem_map.1 (h.vp.mem_iff.1 hz2)
      exact ⟨z', hz', rfl, h1.step ((h.nbr ho hvr hu hz').2 hz)⟩
    obtain ⟨z, hz, e, h1⟩ := hk
    rw [← oth_inj (hvr _ hz) (hvr _ hw) e]; exact h1
end
theorem parts_cover {g : Gr} (hg : Good g) {A : List (List Int)} (hA : PartsTo g g.vs.length A) {v : Int} (hv : v ∈ g.vs) : ∃ c ∈ A, v ∈ c := by
  have h1 : v ∈ A.flatten := ((hA.flat hg).2 v).2 ⟨hv, v, by rw [List.take_length]; exact hv, .refl⟩
  obtain ⟨c, hc, h2⟩ := List.mem_flatten.1 h1
  exact ⟨c, hc, h2⟩
theorem IsPart.self {g : Gr} {v : Int} {c : List Int} (h : IsPart g v c) (hv : v ∈ g.vs) : v ∈ c := (h.2 v).2 ⟨hv, .refl⟩
theorem parts_nodup {g : Gr} (hg : Good g) {A : List (List Int)} (hA : PartsTo g g.vs.length A) : A.Nodup := by
  have h1 := (hA.flat hg).1
  unfold List.Nodup at h1
  rw [List.pairwise_flatten] at h1
  refine h1.2.imp_of_mem fun {c c'} hc _ h e => ?_
  subst e
  obtain ⟨v, hv, hp⟩ := parts_mem hA c hc
  exact h v (hp.self hv) v (hp.self hv) rfl
theorem parts_same {g : Gr} {A : List (List Int)} {k : Nat} (hA : PartsTo g k A) {c c' : List Int} (hc : c ∈ A) (hc' : c' ∈ A) {v : Int} (h : v ∈ c) (h' : v ∈ c') : c = c' := by
  obtain ⟨u, _, hp⟩ := parts_mem hA c hc
  obtain ⟨u', _, hp'⟩ := parts_mem hA c' hc'
  exact (hp.at h).unique (hp'.at h')
section
variable {m : Mp} {b : Int} {mm : Mp} (ho : MapOk m) (hvr : ∀ v ∈ m.g.vs, 1 ≤ v ∧ v ≤ 1048576) (h : RenP m b mm)
include ho hvr h
theorem RenP.part {v : Int} {c d : List Int} (hv : v ∈ m.g.vs) (hc : IsPart m.g v c) (hd : IsPart mm.g (oth b v) d) : d.Perm (c.map (oth b)) := by
  have hcv : ∀ w ∈ c, w ∈ m.g.vs := fun w hw => ((hc.2 w).1 hw).1
  refine (List.perm_ext_iff_of_nodup (rise_nodup hd.1) (oth_nodup b hc.1 fun w hw => hvr w (hcv w hw))).2 fun y => ?_
  rw [hd.2, List.mem_map]
  constructor
  · rintro ⟨h1, h2⟩
    obtain ⟨z, hz, rfl⟩ := List.mem_map.1 (h.vp.mem_iff.1 h1)
    exact ⟨z, (hc.2 z).2 ⟨hz, (h.reach ho hvr hv hz).2 h2⟩, rfl⟩
  · rintro ⟨z, hz, rfl⟩
    obtain ⟨h1, h2⟩ := (hc.2 z).1 hz
    exact ⟨h.vp.mem_iff.2 (List.mem_map.2 ⟨z, h1, rfl⟩), (h.reach ho hvr hv h1).1 h2⟩
theorem RenP.endsL : ∀ c : List Int, (∀ w ∈ c, w ∈ m.g.vs) → (Aw.endsL mm.g.es (c.map (oth b))).Perm ((Aw.endsL m.g.es c).map (rend b))
  | [], _ => .refl _
  | v :: c, hc => by
    have ih := RenP.endsL c fun w hw => hc w (List.mem_cons_of_mem _ hw)
    unfold Aw.endsL at ih ⊢
    rw [List.map_cons, List.flatMap_cons, List.flatMap_cons, List.map_append]
    exact (h.ends ho hvr (hc v (by simp))).append ih
theorem RenP.key {v : Int} {c d : List Int} (hv : v ∈ m.g.vs) (hc : IsPart m.g v c) (hd : IsPart mm.g (oth b v) d) : keyW mm d = keyW m c := by
  have hp := h.part ho hvr hv hc hd
  have hcv : ∀ w ∈ c, w ∈ m.g.vs := fun w hw => ((hc.2 w).1 hw).1
  have hE : (Aw.endsL mm.g.es d).Perm ((Aw.endsL m.g.es c).map (rend b)) := (hp.flatMap_right _).trans (h.endsL ho hvr c hcv)
  refine ((key_part ho (h.ok ho hvr) hv (h.vp.mem_iff.2 (List.mem_map.2 ⟨v, hv, rfl⟩)) hc hd).2 ⟨?_, ?_, ?_⟩).symm
  · rw [hp.length_eq, List.length_map]
  · rw [hE.length_eq, List.length_map]
  · by_cases h0 : Aw.endsL m.g.es c = []
    · exact .inl h0
    · right
      have hm := getD_mem (List.length_pos_iff.2 h0)
      exact ⟨rend b _, hE.mem_iff.2 (List.mem_map.2 ⟨_, hm, rfl⟩), _, _, h.iso ho hvr, (part_walk ho hc hm).1, rfl⟩
theorem RenP.parts {A B : List (List Int)} (hA : PartsTo m.g m.g.vs.length A) (hB : PartsTo mm.g mm.g.vs.length B) : ∃ F : List Int → List Int, B.Perm (A.map F) ∧ ∀ c ∈ A, ∃ v ∈ m.g.vs, IsPart m.g v c ∧ IsPart mm.g (oth b v) (F c) := by
  have hok := h.ok ho hvr
  have hov : ∀ v ∈ m.g.vs, oth b v ∈ mm.g.vs := fun v hv => h.vp.mem_iff.2 (List.mem_map.2 ⟨v, hv, rfl⟩)
  have hex : ∀ c ∈ A, ∃ d ∈ B, ∃ v ∈ m.g.vs, IsPart m.g v c ∧ IsPart mm.g (oth b v) d := fun c hc => by
    obtain ⟨v, hv, hp⟩ := parts_mem hA c hc
    obtain ⟨d, hd, h1⟩ := parts_cover hok.g.toGood hB (hov v hv)
    obtain ⟨u, _, hq⟩ := parts_mem hB d hd
    exact ⟨d, hd, v, hv, hp, hq.at h1⟩
  classical
  let F : List Int → List Int := fun c => if hc : c ∈ A then Classical.choose (hex c hc) else []
  have hF : ∀ c (hc : c ∈ A), F c ∈ B ∧ ∃ v ∈ m.g.vs, IsPart m.g v c ∧ IsPart mm.g (oth b v) (F c) := fun c hc => by
    have := Classical.choose_spec (hex c hc)
    simp only [F, dif_pos hc]
    exact this
  refine ⟨F, ?_, fun c hc => (hF c hc).2⟩
  refine (List.perm_ext_iff_of_nodup (parts_nodup hok.g.toGood hB) (List.pairwise_map.2 ((parts_nodup ho.g.toGood hA).imp_of_mem fun {c c'} hc hc' hne e => hne ?_))).2 fun d => ⟨fun hd => ?_, fun hd => ?_⟩
  · obtain ⟨y, hy, hp⟩ := parts_mem hB d hd
    obtain ⟨v, hv, rfl⟩ := List.mem_map.1 (h.vp.mem_iff.1 hy)
    obtain ⟨c, hc, hvc⟩ := parts_cover ho.g.toGood hA hv
    obtain ⟨h0, w, hw, k1, k2⟩ := hF c hc
    refine List.mem_map.2 ⟨c, hc, ?_⟩
    have e1 := h.part ho hvr hw k1 k2
    exact parts_same hB h0 hd (e1.mem_iff.2 (List.mem_map.2 ⟨v, hvc, rfl⟩)) (hp.self hy)
  · obtain ⟨c, hc, rfl⟩ := List.mem_map.1 hd
    exact (hF c hc).1
  · obtain ⟨_, v, hv, h1, h2⟩ := hF c hc
    obtain ⟨_, w, hw, k1, k2⟩ := hF c' hc'
    rw [← e] at k2
    have e1 := h.part ho hvr hv h1 h2
    have e2 := h.part ho hvr hw k1 k2
    have hm : oth b v ∈ c'.map (oth b) := e2.mem_iff.1 (e1.mem_iff.2 (List.mem_map.2 ⟨v, h1.self hv, rfl⟩))
    obtain ⟨z, hz, e3⟩ := List.mem_map.1 hm
    have hzv := ((k1.2 z).1 hz).1
    have := oth_inj (hvr _ hzv) (hvr _ hv) e3
    subst this
    exact parts_same hA hc hc' (h1.self hv) hz
theorem RenP.code {c c' : List Int} (hc : IsCode m c) (hc' : IsCode mm c') : c = c' := by
  obtain ⟨A, _, hA, _⟩ := id hc
  obtain ⟨B, _, hB, _⟩ := id hc'
  obtain ⟨F, h1, h2⟩ := h.parts ho hvr hA hB
  refine (code_iff hc hc' hA hB).2 ?_
  refine List.Perm.trans ?_ (h1.map (keyW mm)).symm
  rw [List.map_map]
  rw [List.map_congr_left fun c hc => ?_]
  obtain ⟨v, hv, k1, k2⟩ := h2 c hc
  exact (h.key ho hvr hv k1 k2).symm
theorem RenP.nparts : ncl (Reach mm.g.es) mm.g.vs = ncl (Reach m.g.es) m.g.vs := by
  obtain ⟨A, hA⟩ := parts_ex m.g ho.g.toGood _ (Nat.le_refl _)
  obtain ⟨B, hB⟩ := parts_ex mm.g (h.goodE ho hvr).toGood _ (Nat.le_refl _)
  obtain ⟨F, h1, _⟩ := h.parts ho hvr hA hB
  rw [← hA.all, ← hB.all, h1.length_eq, List.length_map]
end
theorem ncl_map {R S : Int → Int → Prop} {f : Int → Int} : ∀ l : List Int, (∀ x ∈ l, ∀ y ∈ l, (R x y ↔ S (f x) (f y))) → ncl S (l.map f) = ncl R l
  | [], _ => rfl
  | x :: l, h => by
    have ih := ncl_map l fun a ha b hb => h a (List.mem_cons_of_mem _ ha) b (List.mem_cons_of_mem _ hb)
    rw [List.map_cons]
    by_cases hx : ∃ y ∈ l, R y x
    · obtain ⟨y, hy, hr⟩ := id hx
      rw [ncl_cons_in hx, ncl_cons_in ⟨f y, List.mem_map.2 ⟨y, hy, rfl⟩, (h y (List.mem_cons_of_mem _ hy) x List.mem_cons_self).1 hr⟩, ih]
    · rw [ncl_cons_new hx, ncl_cons_new, ih]
      rintro ⟨z, hz, hr⟩
      obtain ⟨y, hy, rfl⟩ := List.mem_map.1 hz
      exact hx ⟨y, hy, (h y (List.mem_cons_of_mem _ hy) x List.mem_cons_self).2 hr⟩
theorem numb_pos {n a : Int} {f : Bool} (h : numb n a f = 0) : 1 ≤ n ∧ n ≤ 1048576 := by
  unfold numb at h
  by_cases h1 : n < 1 ∨ 1048576 < n
  · rw [if_pos h1] at h; cases h
  · omega
theorem chk_vr {g : Gr} (h : chk g = 0) : ∀ v ∈ g.vs, 1 ≤ v ∧ v ≤ 1048576 := fun v hv => by
  unfold chk at h
  by_cases h1 : 64 < g.vs.length ∨ 160 < g.es.length
  · rw [if_pos h1] at h; cases h
  · rw [if_neg h1] at h
    by_cases h2 : firstNZ (badV g) g.vs.length = 0
    · obtain ⟨k1, k2⟩ := idx_lt hv
      have := firstNZ_all h2 _ k1
      unfold badV at this
      rw [k2] at this
      exact numb_pos this
    · rw [if_pos h2] at h; exact absurd h h2
theorem numb_ok {n a : Int} {f : Bool} (h : 1 ≤ n ∧ n ≤ 1048576) (k : f = false → a < n) : numb n a f = 0 := by
  unfold numb
  rw [if_neg (by omega), if_neg]
  rintro ⟨h1, h2⟩
  have := k h1; omega
section
variable {m : Mp} {b : Int} {mm : Mp} (ho : MapOk m) (hvr : ∀ v ∈ m.g.vs, 1 ≤ v ∧ v ≤ 1048576) (h : RenP m b mm)
include ho hvr h
theorem RenP.chk (hv : m.g.vs.length ≤ 64) (he : m.g.es.length ≤ 160) : Aw.chk mm.g = 0 := by
  have hg := h.goodE ho hvr
  have hvl : mm.g.vs.length = m.g.vs.length := by rw [h.vp.length_eq, List.length_map]
  have hel : mm.g.es.length = m.g.es.length := by rw [h.ep.length_eq, List.length_map]
  have hV : firstNZ (badV mm.g) mm.g.vs.length = 0 := firstNZ_zero fun j hj => by
    unfold badV
    refine numb_ok ?_ fun hf => ?_
    · obtain ⟨k, _, e⟩ := h.at hj
      rw [e]; exact oth_range _ _
    · have hj0 : ¬ j = 0 := by simpa using hf
      have := List.pairwise_iff_getElem.1 h.vr (j - 1) j (by omega) hj (by omega)
      rw [getD_lt _ _ hj, getD_lt _ _ (by omega : j - 1 < mm.g.vs.length)]; exact this
  unfold Aw.chk
  rw [if_neg (by omega), hV, if_neg (by simp)]
  refine firstNZ_zero fun j hj => ?_
  have hin : mm.g.es.getD j ed0 ∈ mm.g.es := by rw [getE_lt _ _ hj]; exact List.getElem_mem _
  have hn : numb (mm.g.es.getD j ed0).id (mm.g.es.getD (j - 1) ed0).id (decide (j = 0)) = 0 := by
    refine numb_ok (hg.pos _ hin) fun hf => ?_
    have hj0 : ¬ j = 0 := by simpa using hf
    have := List.pairwise_iff_getElem.1 hg.ids (j - 1) j (by omega) hj (by omega)
    rw [getE_lt _ _ hj, getE_lt _ _ (by omega : j - 1 < mm.g.es.length)]; exact this
  have h1 := hg.ends _ hin
  have h2 := hg.ne _ hin
  unfold badE
  simp only [hn]
  rw [if_neg (by simp), if_neg h2, if_neg]
  rintro (h3 | h3)
  · exact h3 h1.1
  · exact h3 h1.2
theorem RenP.rchk (hv : m.g.vs.length ≤ 64) (he : m.g.es.length ≤ 160) : Aw.rchk mm = 0 :=
  rchk_ok (h.chk ho hvr hv he) h.rl fun k hk => (h.ok ho hvr).ok k hk
theorem RenP.fc {x : Int} (hx : x ∈ Aw.darts m.g.es) : Aw.fc mm mm.g.es (rend b x) = rend b (Aw.fc m m.g.es x) := by
  have hi := h.iso ho hvr
  unfold Aw.fc
  rw [al_in hx, al_in (hi.to x hx), ← (hi.tw x hx).2, ← (hi.sg _ (hi.tw x hx).1).2]
theorem RenP.fcit (n : Nat) {x : Int} (hx : x ∈ Aw.darts m.g.es) : it (Aw.fc m m.g.es) n x ∈ Aw.darts m.g.es ∧ it (Aw.fc mm mm.g.es) n (rend b x) = rend b (it (Aw.fc m m.g.es) n x) := by
  induction n with
  | zero => exact ⟨hx, rfl⟩
  | succ n ih =>
    rw [it_succ, it_succ, ih.2]
    exact ⟨ho.fc_dart _ _ ih.1, h.fc ho hvr ih.1⟩
theorem RenP.faces : ncl (Orb (Aw.fc mm mm.g.es)) (Aw.darts mm.g.es) = ncl (Orb (Aw.fc m m.g.es)) (Aw.darts m.g.es) := by
  rw [ncl_perm ((h.ok ho hvr).fc_per _ fun _ hx => hx).eqv h.darts]
  refine ncl_map _ fun x hx y hy => ⟨?_, ?_⟩
  · rintro ⟨n, rfl⟩
    exact ⟨n, (h.fcit ho hvr n hx).2⟩
  · rintro ⟨n, e⟩
    obtain ⟨k1, k2⟩ := h.fcit ho hvr n hx
    rw [k2] at e
    exact ⟨n, rend_inj (dart_range ho k1) (dart_range ho hy) e⟩
theorem RenP.alone : Aw.alone mm.g = Aw.alone m.g := by
  unfold Aw.alone
  rw [h.vp.countP_eq, List.countP_map]
  refine List.countP_congr fun v hv => ?_
  simp only [Function.comp_apply, decide_eq_true_iff]
  rw [← ends_nil, ← ends_nil]
  have := (h.ends ho hvr hv).length_eq
  rw [List.length_map] at this
  constructor
  · intro e
    rw [e] at this
    exact List.eq_nil_of_length_eq_zero this.symm
  · intro e
    rw [e] at this
    exact List.eq_nil_of_length_eq_zero this
theorem RenP.gn : Aw.gn mm = Aw.gn m := by
  have hvl : mm.g.vs.length = m.g.vs.length := by rw [h.vp.length_eq, List.length_map]
  have hel : mm.g.es.length = m.g.es.length := by rw [h.ep.length_eq, List.length_map]
  unfold Aw.gn
  rw [h.nparts ho hvr, h.faces ho hvr, h.alone ho hvr, hvl, hel]
omit hvr in
theorem RenP.find {x : Ed} (hx : x ∈ m.g.es) {j : Nat} (hj : j < mm.g.es.length) (e : (mm.g.es.getD j ed0).id = oth b x.id) : mm.g.es.getD j ed0 = rens b x := by
  have hin : mm.g.es.getD j ed0 ∈ mm.g.es := by rw [getE_lt _ _ hj]; exact List.getElem_mem _
  obtain ⟨y, hy, e2⟩ := List.mem_map.1 (h.ep.mem_iff.1 hin)
  rw [← e2, rens_id] at e
  have h1 := oth_inj (ho.g.pos _ hy) (ho.g.pos _ hx) e
  have := id_eq ho.g.ids hy hx h1
  rw [← e2, this]
omit h in
theorem ren_flip (b : Int) {x : Ed} (hx : x ∈ m.g.es) : decide ((rens b x).b = oth b x.a) = flp b x.id := by
  have h1 := ho.g.ends x hx
  have h2 := ho.g.ne x hx
  unfold rens
  cases hf : flp b x.id
  · rw [if_neg (by simp)]
    exact decide_eq_false fun e => h2 (oth_inj (hvr _ h1.2) (hvr _ h1.1) e).symm
  · rw [if_pos rfl]
    exact decide_eq_true rfl
end
theorem refEnds' (g : Gr) (v : Int) (st : St) (he : g.es.length ≤ 1000) (hid : idOk g.es) :
    ACalls Tryz.prog 8 [.ag (grL g), u v] st fun r st' => r = .sl 0 (ends g.es v).length (us (ends g.es v)) ∧ st' = st := by
  refine qT (Q := fun r => r = .sl 0 (ends g.es v).length (us (ends g.es v))) (acalls_z0 ((ref_Ends g v st he hid).mono ?_)) fun r h => by subst h; exact ⟨.inl rfl, belL_us _ _⟩
  rintro r s ⟨⟨t, rfl⟩, hk⟩
  exact ⟨by simp only [z0, z0_us], hk⟩
theorem refHas' (g : Gr) (v : Int) (st : St) (hl : small g.vs) :
    ACalls Tryz.prog 7 [.ag (grL g), u v] st fun r st' => r = bb (decide (v ∈ g.vs)) ∧ st' = st :=
  qT (Q := fun r => r = bb (decide (v ∈ g.vs))) (Has g v st hl) fun r h => by subst h; trivial
theorem refFind' (g : Gr) (id : Int) (st : St) (he : g.es.length ≤ 1000) :
    ACalls Tryz.prog 9 [.ag (grL g), u id] st fun r st' => r = i (fe g.es id) ∧ st' = st :=
  qT (Q := fun r => r = i (fe g.es id)) (ref_Find g id st he) fun r h => by subst h; trivial
theorem refCheck' (m : Mp) (st : St) (hv : m.g.vs.length ≤ 1000) (he : m.g.es.length ≤ 1000) (hr : m.rots.length ≤ 1000) :
    ACalls Tryz.prog 10 [.ag (mpL m)] st fun r st' => r = i (rchk m) ∧ st' = st :=
  qT (Q := fun r => r = i (rchk m)) (ref_rCheck m st hv he hr) fun r h => by subst h; trivial
theorem refTwice' (m : Mp) (h : MapOk m) (st : St) (hv : m.g.vs.length ≤ 1000) (he : m.g.es.length ≤ 1000) :
    ACalls Tryz.prog 13 [.ag (mpL m)] st fun r st' => r = i (2 * gn m) ∧ st' = st :=
  qT (Q := fun r => r = i (2 * gn m)) (Twice m h st hv he) fun r h => by subst h; trivial
theorem oth_facts (b v : Int) (hv : 0 ≤ v ∧ v < 4294967296) (hb : 0 ≤ b ∧ b < 4294967296) :
    IntKind.u64.wrap v = v ∧ IntKind.u64.wrap b = b ∧ IntKind.u64.wrap (v + b) = v + b ∧ (v + b).tmod 1048576 = (v + b) % 1048576 ∧ IntKind.u32.wrap ((v + b) % 1048576) = (v + b) % 1048576 ∧ IntKind.u32.wrap ((v + b) % 1048576 + 1) = oth b v ∧ IntKind.u64.wrap ((v + b) % 1048576) = (v + b) % 1048576 :=
  ⟨wrap_u64 _ (by omega) (by omega), wrap_u64 _ (by omega) (by omega), wrap_u64 _ (by omega) (by omega), Int.tmod_eq_emod_of_nonneg (by omega), wrap_u32' _ (by omega) (by omega), wrap_u32' _ (by omega) (by omega), wrap_u64 _ (by omega) (by omega)⟩
set_option maxHeartbeats 8000000 in
theorem CanonRenames (m : Mp) (b : Int) (st : St) (hb : 0 ≤ b ∧ b < 4294967296) : ACalls Tryz.prog 3 [.ag (mpL m), u b] st fun r st' => r = bb true := by
  refine qO tabOk Tryz.func3 rfl rfl Tryz.ntmps3 (rs := [.tmp 4]) rfl (by simp) ?_
  refine awp_posG fun hpos => ?_
  (repeat' (first | refine qS ?_ | (refine w_e [] ?_; intro J hJ; simp only []; simp []; (try (refine hJ _ _ ?_; clear hJ J; simp only [ak, reduceIte])))))
  refine qE (awake33 _) (by simp []) ?_; rintro r st' ⟨rfl, rfl⟩
  (repeat' (first | refine qS ?_ | (refine qK ?_; simp only [ak, reduceIte]) | (refine qC ?_; simp []) | ((first | (refine w_e [] ?_; intro J hJ; simp only []) | (refine e_go ?_)); simp []; (try (refine hJ _ _ ?_; clear hJ J; simp only [ak, reduceIte])))))
  refine qE (light33' m _) (by simp) ?_; rintro r s1 ⟨rfl, h1⟩
  rw [h1]; clear h1 s1
  cases hf : lit33 m
  · (repeat' (first | refine qS ?_ | (refine qR ?_; simp only [ak, reduceIte]; simp []) | (refine qC ?_; simp []) | ((first | (refine w_e [] ?_; intro J hJ; simp only []) | (refine e_go ?_)); simp []; (refine hJ _ _ ?_; clear hJ J; simp only [ak, reduceIte]))))
  obtain ⟨he, hr, hc⟩ := lit33_of hf
  have hv := chk_smallC hc
  obtain ⟨hck, ho⟩ := rchk_zero hc
  have hvr := chk_vr hck
  (repeat' (first | refine qS ?_ | (refine qK ?_; simp only [ak, reduceIte]) | (refine qC ?_; simp []) | ((first | (refine w_e [] ?_; intro J hJ; simp only []) | (refine e_go ?_)); simp []; (try (refine hJ _ _ ?_; clear hJ J; simp only [ak, reduceIte])))))
  refine qE (Renamed m b _ ho hb (by omega) (by omega) hvr) (by simp) ?_; rintro r s1 ⟨⟨mm, hR, rfl⟩, h1⟩
  rw [h1]; clear h1 s1
  have hok := hR.ok ho hvr
  have hvl : mm.g.vs.length = m.g.vs.length := by rw [hR.vp.length_eq, List.length_map]
  have hel : mm.g.es.length = m.g.es.length := by rw [hR.ep.length_eq, List.length_map]
  have hrl : mm.rots.length = m.g.vs.length := by rw [hR.rl, hvl]
  have hid : idOk m.g.es := fun x hx => by have := ho.g.pos x hx; omega
  have hid2 : idOk mm.g.es := fun x hx => by have := hok.g.pos x hx; omega
  have hsm : small mm.g.vs := by unfold small; omega
  (repeat' (first | refine qS ?_ | refine qB ?_ | ((first | (refine w_e [] ?_; intro J hJ; simp only []) | (refine e_go ?_)); simp []; (refine hJ _ _ ?_; clear hJ J; simp only [ak, reduceIte]))))
  refine awp_range 26 25 27 56 (m.g.vs.length) (fun j fr st2 => fr 1 = u b ∧ fr 2 = .pt st.next 0 ∧ fr 5 = .pt (st.next + 1) 0 ∧ fr 24 = .sl 0 m.g.vs.length (us m.g.vs) ∧ st2.H st.next = .box 28 3 (mpL m) ∧ st2.H (st.next + 1) = .box 28 3 (mpL mm) ∧ st.next + 1 < st2.next) ?_ ?_ ?_
  · exact ⟨by simp, by simp, by simp, by simp, by simp, by simp, by simp⟩
  · rintro j fr s hlt ⟨f1, f2, f5, f24, hG, hG2, hsn⟩ fi fn JO hJO
    have hd := qG m.g.vs j hlt
    have hvin := getD_mem hlt
    generalize m.g.vs.getD j 0 = v at *
    have hv1 := hvr v hvin
    obtain ⟨w1, w2, w3, w4, w5, w6, w7⟩ := oth_facts b v (by omega) hb
    have hhas : decide (oth b v ∈ mm.g.vs) = true := decide_eq_true (hR.vp.mem_iff.2 (List.mem_map.2 ⟨v, hvin, rfl⟩))
    have hen : (ends mm.g.es (oth b v)).length = (ends m.g.es v).length := by rw [(hR.ends ho hvr hvin).length_eq, List.length_map]
    (repeat' (first | refine qS ?_ | (refine w_e [] ?_; intro J hJ; simp only []; simp [f1, f24, fi, fn, hd, hlt, w1, w2, w3, w4, w5, w6, w7]; (refine hJ _ _ ?_; clear hJ J; simp only [ak, reduceIte]))))
    (refine w_s [] [st.next, st.next + 1] [(0, true), (1, true), (2, true), (3, true), (4, true), (5, true), (6, true), (7, true), (8, true), (11, true), (12, true), (13, true), (9, true), (10, true), (14, true), (15, true), (16, true), (17, true)] ?_; intro J hJ; simp [f2, f5, hG, hG2])
    refine qD (refHas' mm.g (oth b v) _ hsm) (by simp) ?_; rintro r s1 ⟨rfl, h1⟩
    rw [h1]; clear h1 s1
    rw [hhas]
    refine ⟨fun h => by first | (cases h; done) | simp [hG, hG2], ?_⟩
    (refine d_go ?_; simp [f2, f5, hG, hG2])
    refine qD (refEnds' mm.g (oth b v) _ (by omega) hid2) (by simp) ?_; rintro r s1 ⟨rfl, h1⟩
    rw [h1]; clear h1 s1
    refine ⟨fun h => by first | (cases h; done) | simp [hG, hG2], ?_⟩
    (refine d_go ?_; simp [f2, f5, hG, hG2])
    refine qD (refEnds' m.g v _ (by omega) hid) (by simp) ?_; rintro r s1 ⟨rfl, h1⟩
    rw [h1]; clear h1 s1
    rw [hen]
    refine ⟨fun h => by first | (cases h; done) | simp [hG, hG2], ?_⟩
    (refine d_go ?_; simp [f2, f5, hG, hG2]; (refine hJ _ _ ?_; clear hJ J; simp only [ak, reduceIte]))
    (repeat' (first | (refine qK ?_; simp only [ak, reduceIte]) | (refine qC ?_; simp [])))
    exact hJO _ _ (by simp [fi]) (by simp [fn]) ⟨by simp [f1], by simp [f2], by simp [f5], by simp [f24], hG, hG2, hsn⟩
  rintro fr s ⟨f1, f2, f5, f24, hG, hG2, hsn⟩
  clear f24
  (repeat' (first | refine qS ?_ | refine qB ?_ | (refine w_e [] ?_; intro J hJ; simp only []; simp [f2, hG]; (refine hJ _ _ ?_; clear hJ J; simp only [ak, reduceIte]))))
  refine awp_range 61 60 62 106 (m.g.es.length) (fun j fr st2 => fr 1 = u b ∧ fr 2 = .pt st.next 0 ∧ fr 5 = .pt (st.next + 1) 0 ∧ fr 59 = .sl 0 m.g.es.length (eds m.g.es) ∧ st2.H st.next = .box 28 3 (mpL m) ∧ st2.H (st.next + 1) = .box 28 3 (mpL mm) ∧ st.next + 1 < st2.next) ?_ ?_ ?_
  · exact ⟨by simp [f1], by simp [f2], by simp [f5], by simp, hG, hG2, hsn⟩
  · clear f1 f2 f5 hG hG2 hsn fr s
    rintro j fr s hlt ⟨f1, f2, f5, f59, hG, hG2, hsn⟩ fi fn JO hJO
    have hd := eds_drop m.g.es j hlt
    have heL := eds_length m.g.es
    have hj3 : j * 3 < m.g.es.length * 3 := by omega
    have hxin : m.g.es.getD j ed0 ∈ m.g.es := by rw [getE_lt _ _ hlt]; exact List.getElem_mem hlt
    generalize m.g.es.getD j ed0 = x at *
    have hx1 := ho.g.pos _ hxin
    have hx2 := hvr _ (ho.g.ends _ hxin).1
    have hfl := ren_flip ho hvr b hxin
    obtain ⟨k, hk, hke, hkr⟩ : ∃ k : Nat, k < mm.g.es.length ∧ fe mm.g.es (oth b x.id) = (k : Int) ∧ mm.g.es.getD k ed0 = rens b x := by
      have hne : ¬ fe mm.g.es (oth b x.id) < 0 := fun h => by
        have hin : rens b x ∈ mm.g.es := hR.ep.mem_iff.2 (List.mem_map.2 ⟨x, hxin, rfl⟩)
        unfold fe at h
        rw [if_pos (List.any_eq_true.2 ⟨_, hin, by rw [rens_id]; simp⟩)] at h
        omega
      obtain ⟨k1, k2, k3⟩ := fe_lt _ _ hne
      exact ⟨_, k1, k2, hR.find ho hxin k1 k3⟩
    have hd2 := eds_drop mm.g.es k hk
    have heL2 := eds_length mm.g.es
    have hk3 : k * 3 < mm.g.es.length * 3 := by omega
    rw [hkr] at hd2
    obtain ⟨d, p, q⟩ := x
    simp only at hd hx1 hx2 hfl hke
    generalize rens b ⟨d, p, q⟩ = y at *
    obtain ⟨d', p', q'⟩ := y
    simp only at hd2 hfl
    obtain ⟨w1, w2, w3, w4, w5, w6, w7⟩ := oth_facts b d (by omega) hb
    obtain ⟨x1, x2, x3, x4, x5, x6, x7⟩ := oth_facts b p (by omega) hb
    have y1 : b.tmod 4 = b % 4 := Int.tmod_eq_emod_of_nonneg hb.1
    have y2 : 0 ≤ b % 4 := by omega
    have hfl2 : (gand .u32 (gshr .u32 d (b % 4)) 1 == 1) = flp b d := rfl
    have hfl3 : (q' == oth b p) = flp b d := by rw [← hfl]; rfl
    have e1 : ¬ st.next + 1 = s.next := by omega
    have e2 : ¬ st.next = s.next := by omega
    (repeat' (first | refine qS ?_ | (refine w_e [] ?_; intro J hJ; simp only []; simp [f1, f5, f59, fi, fn, hd, hlt, heL, hj3, hG2, e1, w1, w2, w3, w4, w5, w6, w7]; (try (refine hJ _ _ ?_; clear hJ J; simp only [ak, reduceIte])))))
    refine qE (refFind' mm.g (oth b d) _ (by omega)) (by simp) ?_; rintro r s1 ⟨rfl, h1⟩
    rw [h1]; clear h1 s1
    rw [hke]
    generalize flp b d = fl at *
    have hk0 : ¬ (k : Int) < 0 := by omega
    (repeat' (first | refine qS ?_ | (refine qK ?_; simp only [ak, reduceIte]) | (refine qC ?_; simp [f1, f5, hG2, e1, x1, x2, x3, x4, x5, x6, x7, y1, y2, hfl2, hfl3, hd2, heL2, hk3, hk, hk0]) | ((first | (refine w_e [] ?_; intro J hJ; simp only []) | (refine e_go ?_)); simp [f1, f5, hG2, e1, x1, x2, x3, x4, x5, x6, x7, y1, y2, hfl2, hfl3, hd2, heL2, hk3, hk, hk0]; (refine hJ _ _ ?_; clear hJ J; simp only [ak, reduceIte]))))
    exact hJO _ _ (by simp [fi]) (by simp [fn]) ⟨by simp [f1], by simp [f2], by simp [f5], by simp [f59], by simp [e2, hG], by simp [e1, hG2], by simp <;> omega⟩
  clear f1 f2 f5 hG hG2 hsn fr s
  rintro fr s ⟨f1, f2, f5, f59, hG, hG2, hsn⟩
  clear f59 f1
  obtain ⟨c, hC⟩ := code_ex m ho
  obtain ⟨c2, hC2⟩ := code_ex mm hok
  obtain rfl := hR.code ho hvr hC hC2
  have hrz := hR.rchk ho hvr hv (by omega)
  have hgn := hR.gn ho hvr
  (repeat' refine qS ?_)
  (refine w_s [] [st.next, st.next + 1] [(0, true), (1, true), (2, true), (3, true), (4, true), (5, true), (6, true), (7, true), (8, true), (9, true), (10, true), (11, true), (12, true), (13, true), (14, true), (16, true), (15, true), (17, true), (18, true), (19, true), (20, true)] ?_; intro J hJ; simp [f2, f5, hG, hG2])
  refine qD (refCheck' mm _ (by omega) (by omega) (by omega)) (by simp) ?_; rintro r s1 ⟨rfl, h1⟩
  rw [h1]; clear h1 s1
  rw [hrz]
  refine ⟨fun h => by first | (cases h; done) | simp [hG, hG2], ?_⟩
  (refine d_go ?_; simp [f2, f5, hG, hG2])
  refine qD (cSame m mm ho hok _ (by omega) (by omega) (by omega) (by omega) hC hC2) (by simp) ?_; rintro r s1 ⟨rfl, h1⟩
  rw [h1]; clear h1 s1
  refine ⟨fun h => by first | (cases h; done) | simp [hG, hG2], ?_⟩
  (refine d_go ?_; simp [f2, f5, hG, hG2])
  refine qD (rSame' m mm ho hok _ (by omega) (by omega) (by omega) (by omega) hC hC2) (by simp) ?_; rintro r s1 ⟨rfl, h1⟩
  rw [h1]; clear h1 s1
  refine ⟨fun h => by first | (cases h; done) | simp [hG, hG2], ?_⟩
  (refine d_go ?_; simp [f2, f5, hG, hG2])
  refine qD (refTwice' mm hok _ (by omega) (by omega)) (by simp) ?_; rintro r s1 ⟨rfl, h1⟩
  rw [h1]; clear h1 s1
  rw [hgn]
  refine ⟨fun h => by first | (cases h; done) | simp [hG, hG2], ?_⟩
  (refine d_go ?_; simp [f2, f5, hG, hG2])
  refine qD (refTwice' m ho _ (by omega) (by omega)) (by simp) ?_; rintro r s1 ⟨rfl, h1⟩
  rw [h1]; clear h1 s1
  refine ⟨fun h => by first | (cases h; done) | simp [hG, hG2], ?_⟩
  (refine d_go ?_; simp [f2, f5, hG, hG2]; (refine hJ _ _ ?_; clear hJ J; simp only [ak, reduceIte]))
  (repeat' (refine qR ?_; simp only [ak, reduceIte]; simp []))
theorem CanonRenames_shp (l0 l1 : List LV) (st : St) (h0 : Shp tab 28 l0) (h1 : Shp tab 29 l1) : ACalls Tryz.prog 3 [argT tab 28 l0, argT tab 29 l1] st fun r st' => r = bb true := by
  obtain ⟨m, rfl, _⟩ := shp_mp h0
  obtain ⟨d, rfl, hd⟩ := shp_u h1
  exact CanonRenames m d st ⟨hd.1, by have := hd.2; omega⟩
end Go.Proofs.YtplnodgkmbajiaaGreat.Aw
