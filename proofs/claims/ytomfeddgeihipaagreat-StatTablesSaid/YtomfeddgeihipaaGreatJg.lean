/- block.nearby: the near ones of each vertex, rising; Near. block.back: the way back. block.Path: the way from one vertex to another one. Tables of counts: Sum. Tables of counts: Keys, Top. Tables of counts: Add. stat.Girth, stat.Degrees: contracts. -/
import Derived.Test.YtomfeddgeihipaaGreatJf
import Derived.Test.YtomfeddgeihipaaGreatAwFz
import Derived.Test.YtomfeddgeihipaaGreatAwMr4
import Derived.Test.YtomfeddgeihipaaGreatAwRg
import Derived.Test.YtomfeddgeihipaaGreatAwSet
import Derived.Test.YtomfeddgeihipaaGreatAwMr5
namespace Go.Proofs.YtomfeddgeihipaaGreat.Aw
open Go Go.RowKit Go.Proofs.YtomfeddgeihipaaGreat.Pl
set_option linter.unusedSimpArgs false
set_option linter.unusedVariables false

/-- A vertex, the box of its row. -/
abbrev VB := Int × Nat
def entM (H : List (Int × Int)) (L : List VB) : List (List Int × LV) := L.map fun p => ([p.1], .ms p.2 0 (nbH p.1 H).length)
structure NbM (H : List (Int × Int)) (lo : Nat) (m : Nat) (L : List VB) (s : St) : Prop where
  hm : s.H m = .map false [.u32] (entM H L)
  bx : ∀ p ∈ L, lo ≤ p.2 ∧ p.2 < s.next ∧ s.H p.2 = .box 41 1 (us (nbH p.1 H))
  nd : (L.map (·.2)).Nodup
  kd : (L.map (·.1)).Nodup
  all : ∀ v, nbH v H ≠ [] ↔ v ∈ L.map (·.1)

theorem entM_none {H : List (Int × Int)} {v : Int} : ∀ {L : List VB}, v ∉ L.map (·.1) → mget (entM H L) [v] = none
  | [], _ => rfl
  | p :: L, h => by
    simp only [List.map_cons, List.mem_cons, not_or] at h
    simp only [entM, List.map_cons, mget]
    rw [if_neg (by simpa using h.1)]
    exact entM_none h.2
theorem entM_some {H : List (Int × Int)} {v : Int} {q : Nat} : ∀ {L1 L2 : List VB}, v ∉ L1.map (·.1) → mget (entM H (L1 ++ (v, q) :: L2)) [v] = some (.ms q 0 (nbH v H).length)
  | [], L2, _ => by simp [entM, mget]
  | p :: L1, L2, h => by
    simp only [List.map_cons, List.mem_cons, not_or] at h
    simp only [List.cons_append, entM, List.map_cons, mget]
    rw [if_neg (by simpa using h.1)]
    exact entM_some h.2
theorem entM_set {H H' : List (Int × Int)} {v : Int} {q q' : Nat} : ∀ {L1 L2 : List VB}, v ∉ L1.map (·.1) → v ∉ L2.map (·.1) → (∀ u, u ≠ v → nbH u H' = nbH u H) → mset (entM H (L1 ++ (v, q) :: L2)) [v] (.ms q' 0 (nbH v H').length) = entM H' (L1 ++ (v, q') :: L2)
  | [], L2, _, h2, hn => by
    simp only [List.nil_append, entM, List.map_cons, mset, beq_self_eq_true, if_true]
    congr 1
    refine List.map_congr_left fun p hp => ?_
    rw [hn p.1 (fun e => h2 (by rw [← e]; exact List.mem_map.2 ⟨p, hp, rfl⟩))]
  | p :: L1, L2, h, h2, hn => by
    simp only [List.map_cons, List.mem_cons, not_or] at h
    have ih := entM_set (H := H) (H' := H') (q := q) (q' := q') (L1 := L1) (L2 := L2) h.2 h2 hn
    simp only [List.cons_append, entM, List.map_cons, mset] at ih ⊢
    rw [if_neg (by simpa using h.1), ih, hn p.1 (fun e => h.1 e.symm)]
theorem entM_add {H H' : List (Int × Int)} {v : Int} {q' : Nat} : ∀ {L : List VB}, v ∉ L.map (·.1) → (∀ u, u ≠ v → nbH u H' = nbH u H) → mset (entM H L) [v] (.ms q' 0 (nbH v H').length) = entM H' (L ++ [(v, q')])
  | [], _, _ => rfl
  | p :: L, h, hn => by
    simp only [List.map_cons, List.mem_cons, not_or] at h
    have ih := entM_add (H := H) (H' := H') (q' := q') (L := L) h.2 hn
    simp only [List.cons_append, entM, List.map_cons, mset] at ih ⊢
    rw [if_neg (by simpa using h.1), ih, hn p.1 (fun e => h.1 e.symm)]
theorem nbH_other {H : List (Int × Int)} {a b u : Int} (h : u ≠ a) : nbH u (H ++ [(a, b)]) = nbH u H := by rw [nbH_snoc, if_neg (fun e => h e.symm), List.append_nil]
theorem nbH_this {H : List (Int × Int)} {a b : Int} : nbH a (H ++ [(a, b)]) = nbH a H ++ [b] := by rw [nbH_snoc, if_pos rfl]

/-- A row of which nothing was yet: the map has it behind a new box. -/
theorem NbM.add {H : List (Int × Int)} {lo m : Nat} {L : List VB} {s : St} (h : NbM H lo m L s) {a b : Int} (ha : a ∉ L.map (·.1)) {q' : Nat} {s' : St} (hq : lo ≤ q' ∧ s.next ≤ q' ∧ q' < s'.next)
    (hm : s'.H m = .map false [.u32] (mset (entM H L) [a] (.ms q' 0 (nbH a H ++ [b]).length))) (hb : s'.H q' = .box 41 1 (us (nbH a H ++ [b]))) (ho : ∀ p ∈ L, s'.H p.2 = s.H p.2) (hn : s.next ≤ s'.next) : NbM (H ++ [(a, b)]) lo m (L ++ [(a, q')]) s' := by
  have hoth : ∀ u, u ≠ a → nbH u (H ++ [(a, b)]) = nbH u H := fun u hu => nbH_other hu
  refine ⟨?_, fun p hp => ?_, ?_, ?_, fun v => ?_⟩
  · rw [hm, ← nbH_this, entM_add ha hoth]
  · rcases List.mem_append.1 hp with hp | hp
    · obtain ⟨h1, h2, h3⟩ := h.bx p hp
      exact ⟨h1, by omega, by rw [ho p hp, h3, hoth p.1 (fun e => ha (by rw [← e]; exact List.mem_map.2 ⟨p, hp, rfl⟩))]⟩
    · rw [List.mem_singleton] at hp
      subst hp
      exact ⟨hq.1, hq.2.2, by rw [hb, nbH_this]⟩
  · rw [List.map_append, List.nodup_append]
    refine ⟨h.nd, by simp, fun x hx y hy => ?_⟩
    obtain ⟨p, hp, rfl⟩ := List.mem_map.1 hx
    simp at hy
    have := (h.bx p hp).2.1
    omega
  · rw [List.map_append, List.nodup_append]
    exact ⟨h.kd, by simp, fun x hx y hy => by simp at hy; subst hy; rintro rfl; exact ha hx⟩
  · rw [List.map_append, List.mem_append]
    by_cases hv : v = a
    · subst hv; rw [nbH_this]; simp
    · rw [hoth v hv, h.all v]
      simp [hv]
/-- A row that was there grows. -/
theorem NbM.put {H : List (Int × Int)} {lo m : Nat} {L1 L2 : List VB} {s : St} {a b : Int} {q : Nat} (h : NbM H lo m (L1 ++ (a, q) :: L2) s) {q' : Nat} {s' : St} (hq : lo ≤ q' ∧ s.next ≤ q' ∧ q' < s'.next)
    (hm : s'.H m = .map false [.u32] (mset (entM H (L1 ++ (a, q) :: L2)) [a] (.ms q' 0 (nbH a H ++ [b]).length))) (hb : s'.H q' = .box 41 1 (us (nbH a H ++ [b]))) (ho : ∀ p, p ∈ L1 ∨ p ∈ L2 → p.2 ≠ q → p.2 < s.next → s'.H p.2 = s.H p.2) (hn : s.next ≤ s'.next) : NbM (H ++ [(a, b)]) lo m (L1 ++ (a, q') :: L2) s' := by
  have hoth : ∀ u, u ≠ a → nbH u (H ++ [(a, b)]) = nbH u H := fun u hu => nbH_other hu
  have kd := h.kd
  have nd := h.nd
  rw [List.map_append, List.map_cons, List.nodup_append, List.nodup_cons] at kd nd
  obtain ⟨kd1, ⟨kd2, kd3⟩, kd4⟩ := kd
  obtain ⟨nd1, ⟨nd2, nd3⟩, nd4⟩ := nd
  have ha1 : a ∉ L1.map (·.1) := fun e => kd4 a e a (by simp) rfl
  have hb1 : ∀ p, p ∈ L1 ∨ p ∈ L2 → p.1 ≠ a ∧ p.2 ≠ q ∧ (lo ≤ p.2 ∧ p.2 < s.next ∧ s.H p.2 = .box 41 1 (us (nbH p.1 H))) := by
    intro p hp
    refine ⟨?_, ?_, h.bx p (by rcases hp with hp | hp <;> simp [hp])⟩
    · rcases hp with hp | hp
      · exact fun e => ha1 (by rw [← e]; exact List.mem_map.2 ⟨p, hp, rfl⟩)
      · exact fun e => kd2 (by rw [← e]; exact List.mem_map.2 ⟨p, hp, rfl⟩)
    · rcases hp with hp | hp
      · exact nd4 _ (List.mem_map.2 ⟨p, hp, rfl⟩) q (by simp)
      · exact fun e => nd2 (by rw [← e]; exact List.mem_map.2 ⟨p, hp, rfl⟩)
  refine ⟨?_, fun p hp => ?_, ?_, ?_, fun v => ?_⟩
  · rw [hm, ← nbH_this, entM_set ha1 kd2 hoth]
  · have hp' : (p ∈ L1 ∨ p ∈ L2) ∨ p = (a, q') := by
      rcases List.mem_append.1 hp with hp | hp
      · exact .inl (.inl hp)
      · rcases List.mem_cons.1 hp with hp | hp
        · exact .inr hp
        · exact .inl (.inr hp)
    rcases hp' with hp | rfl
    · obtain ⟨h1, h2, h3, h4, h5⟩ := hb1 p hp
      exact ⟨h3, by omega, by rw [ho p hp h2 h4, h5, hoth p.1 h1]⟩
    · exact ⟨hq.1, hq.2.2, by rw [hb, nbH_this]⟩
  · rw [List.map_append, List.map_cons, List.nodup_append, List.nodup_cons]
    have lt : ∀ p, p ∈ L1 ∨ p ∈ L2 → p.2 < s.next := fun p hp => (hb1 p hp).2.2.2.1
    refine ⟨nd1, ⟨fun e => ?_, nd3⟩, fun x hx y hy => ?_⟩
    · obtain ⟨p, hp, e⟩ := List.mem_map.1 e
      have := lt p (.inr hp); simp only at e; omega
    · rcases List.mem_cons.1 hy with rfl | hy
      · obtain ⟨p, hp, rfl⟩ := List.mem_map.1 hx
        have := lt p (.inl hp); omega
      · exact nd4 x hx y (List.mem_cons_of_mem _ hy)
  · have := h.kd
    rw [List.map_append, List.map_cons] at this ⊢
    exact this
  · by_cases hv : v = a
    · subst hv; rw [nbH_this]; simp
    · rw [hoth v hv, h.all v, List.map_append, List.map_append, List.map_cons, List.map_cons]

theorem nodup_map_inj {α β : Type} {f : α → β} : ∀ {L : List α}, (L.map f).Nodup → ∀ {x y : α}, x ∈ L → y ∈ L → f x = f y → x = y
  | [], _, _, _, hx, _, _ => by simp at hx
  | z :: L, h, x, y, hx, hy, e => by
    simp only [List.map_cons, List.nodup_cons] at h
    rcases List.mem_cons.1 hx with hx' | hx' <;> rcases List.mem_cons.1 hy with hy' | hy'
    · rw [hx', hy']
    · exact absurd (List.mem_map.2 ⟨y, hy', by rw [← e, hx']⟩) h.1
    · exact absurd (List.mem_map.2 ⟨x, hx', by rw [e, hy']⟩) h.1
    · exact nodup_map_inj h.2 hx' hy' e
theorem awp_cutB {P : Program} {N : Nat} {Q : AQ} {k : List AItem} {fr : Frm} {st : St} {x : Code} (I : Frm → St → Prop) (h1 : AWp P N x (AK P N (fun e f s => e = .normal ∧ I f s) []) fr st) (h2 : ∀ fr st, I fr st → AK P N Q k .normal fr st) :
    AWp P N x (AK P N Q k) fr st := by
  refine awp_mono h1 ?_
  rintro e fr' st' ⟨rfl, hI⟩
  exact h2 _ _ hI
theorem awp_weakB {P : Program} {N : Nat} {Q : AQ} {c : Code} {fr : Frm} {st : St} (I : Frm → St → Prop) (h0 : I fr st) (h : ∀ fr st, I fr st → AWp P N c Q fr st) : AWp P N c Q fr st := h _ _ h0
theorem NbM.keeps {H : List (Int × Int)} {lo m : Nat} {L : List VB} {s s' : St} (h : NbM H lo m L s) (k : Keeps s s') (hm : m < s.next) : NbM H lo m L s' :=
  ⟨by rw [k.H m hm]; exact h.hm, fun p hp => by obtain ⟨h1, h2, h3⟩ := h.bx p hp; exact ⟨h1, Nat.lt_of_lt_of_le h2 k.next, by rw [k.H _ h2]; exact h3⟩, h.nd, h.kd, h.all⟩

def SoI (st0 : St) (H : List (Int × Int)) (M : Nat) (L : List VB) (Lr : List (List Int × LV)) (fr : Frm) (s : St) : Prop :=
  fr 3 = .mp M ∧ (Lr.map (·.1)).Nodup ∧ (∀ e ∈ Lr, ∃ p ∈ L, e = ([p.1], .ms p.2 0 (nbH p.1 H).length)) ∧ s.H M = .dead ∧ M < s.next ∧ Keeps st0 s ∧
  ∀ p ∈ L, p.2 < s.next ∧ ∃ c, s.H p.2 = .box 41 1 (us c) ∧ c.Perm (nbH p.1 H) ∧ ([p.1] ∉ Lr.map (·.1) → c.Pairwise (· ≤ ·))

def NrI (st0 : St) (S : List Ed) (M k : Nat) (H : List (Int × Int)) (fr : Frm) (s : St) : Prop :=
  fr 3 = .mp M ∧ fr 17 = .sl 0 S.length (eds S) ∧ fr 18 = i S.length ∧ fr 19 = i k ∧ st0.next ≤ M ∧ M < s.next ∧ Keeps st0 s ∧ ∃ L, NbM H st0.next M L s

set_option maxHeartbeats 2000000 in
theorem nearbyM (g : Gr) (st : St) (hv : g.vs.length ≤ 1048576) (he : g.es.length ≤ 1000) (hp : 0 < st.next) :
    ACalls Tryz.prog 86 [.ag (grL g)] st fun r st' => ∃ m L, r = .mp m ∧ st.next ≤ m ∧ m < st'.next ∧ Keeps st st' ∧ st'.H m = .map false [.u32] (rowsM L) ∧ (∀ p ∈ L, st.next ≤ p.2.1 ∧ st'.H p.2.1 = .box 41 1 p.2.2) ∧ (L.map fun p => p.2.1).Nodup ∧
      ∃ K : List Int, K.Nodup ∧ (∀ v, nbH v (hfs (sE g.es)) ≠ [] ↔ v ∈ K) ∧ L.map (fun p => (p.1, p.2.2)) = K.map fun v => ([v], us (nearF g.es v)) := by
  have hel := eds_length (sE g.es)
  have hsl := sE_len g.es
  refine acalls_of_body tabOk Tryz.func86 rfl rfl Tryz.ntmps86 (rs := [.tmp 2]) rfl (by simp) ?_
  (repeat' (first | refine awp_seq ?_ | refine awp_block ?_ | ((first | refine awp_skip ?_ | refine awp_exit ?_); simp only [ak, reduceIte]) | (refine awp_ret ?_; simp only [ak, reduceIte]; simp []) | (refine awp_cond ?_; simp []; (try with_reducible refine ⟨?_, ?_⟩) <;> (try with_reducible intro hc) <;> try (exfalso; omega)) | ((first | (refine w_e [] ?_; intro J hJ; simp only []) | (refine w_q ?_; intro J hJ) | refine e_go ?_); simp []; (repeat refine ca ?_); (try ((try with_reducible refine ⟨?_, ?_⟩) <;> (try with_reducible intro hnil) <;> refine hJ _ _ ?_ <;> clear hJ J <;> simp only [ak, reduceIte] <;> try subst hnil)))))
  refine callK_ofE (Simple g _ hv he (by simp)) (by simp) ?_; rintro r s1 ⟨rfl, hk1⟩
  have hn1 := hk1.next
  simp only [new_next] at hn1
  have hkp1 : Keeps st s1 := ((Keeps.new _ _).trans (Keeps.new _ _)).trans hk1
  have hm1 : s1.H (st.next + 1) = .map false [.u32] [] := by rw [hk1.H _ (by simp)]; simp
  have e1 : ¬ st.next + 1 = s1.next := by omega
  generalize hbl : (bnd g.es).length = bl
  generalize hbc : ((bnd g.es).map fun l => LV.sl 0 l.length (us l)) = bc
  (repeat' (first | refine awp_seq ?_ | refine awp_block ?_ | ((first | refine awp_skip ?_ | refine awp_exit ?_); simp only [ak, reduceIte]) | (refine awp_ret ?_; simp only [ak, reduceIte]; simp [hel]) | (refine awp_cond ?_; simp [hel]; (try with_reducible refine ⟨?_, ?_⟩) <;> (try with_reducible intro hc) <;> try (exfalso; omega)) | ((first | (refine w_e [] ?_; intro J hJ; simp only []) | (refine w_q ?_; intro J hJ) | refine e_go ?_); simp [hel]; (repeat refine ca ?_); (try ((try with_reducible refine ⟨?_, ?_⟩) <;> (try with_reducible intro hnil) <;> refine hJ _ _ ?_ <;> clear hJ J <;> simp only [ak, reduceIte] <;> try subst hnil)))))
  refine awp_loop (fun n fr s => ∃ k : Nat, k ≤ (sE g.es).length ∧ n = (sE g.es).length - k ∧ NrI st (sE g.es) (st.next + 1) k (hfs ((sE g.es).take k)) fr s) (sE g.es).length ?_ ?_
  · refine ⟨0, by omega, by omega, by simp, by simp, by simp, by simp, by omega, by simp; omega, (hkp1.trans (Keeps.new _ _)), [], ?_⟩
    exact ⟨by simp [e1, hm1, entM], by simp, by simp, by simp, by simp [hfs, nbH]⟩
  rintro n fr s ⟨k, hk, rfl, f3, f17, f18, f19, hM1, hM2, hkp, L, hNb⟩ JJ hJJ
  generalize hMM : st.next + 1 = M at *
  by_cases hlt : k < (sE g.es).length
  rotate_left
  · clear hJJ
    have hk' : k = (sE g.es).length := by omega
    rw [hk', List.take_length] at hNb
    refine awp_seq ?_
    (refine w_e [] ?_; intro J hJ; simp only []; simp [f18, f19, hlt]; (repeat refine ca ?_); (try ((try with_reducible refine ⟨?_, ?_⟩) <;> (try with_reducible intro hnil) <;> refine hJ _ _ ?_ <;> clear hJ J <;> simp only [ak, reduceIte] <;> try subst hnil)))
    refine awp_seq ?_
    (refine awp_cond ?_; simp []; (try with_reducible refine ⟨?_, ?_⟩) <;> (try with_reducible intro hc) <;> try (exfalso; omega))
    refine awp_exit ?_; simp only [ak, reduceIte]
    have hHl : (hfs (sE g.es)).length ≤ 2000 := by rw [hfs_len]; omega
    generalize hHH : hfs (sE g.es) = H at *
    refine awp_seq ?_
    refine awp_mapRange tabOk [] (SoI st H M L) (by simp [f3]) hNb.hm ?_ ?_ ?_ Tryz.underlying106
    · intro r
      refine ⟨by simp [f3], ?_, ?_, by simp, by simp; omega, hkp.set hM1 _, fun p hp => ?_⟩
      · have := hNb.kd
        rw [entM, List.map_map]
        have e : L.map ((fun x => x.1) ∘ fun p : VB => (([p.1], LV.ms p.2 0 (nbH p.1 H).length) : List Int × LV)) = (L.map (·.1)).map fun v => [v] := by rw [List.map_map]; rfl
        rw [e]
        exact this.map (fun v => [v]) fun a b hab h => hab (by simpa using h)
      · intro e hee
        obtain ⟨p, hp, rfl⟩ := List.mem_map.1 hee
        exact ⟨p, hp, rfl⟩
      · obtain ⟨h1, h2, h3⟩ := hNb.bx p hp
        have h4 : ¬ p.2 = M := box_ne h3 hNb.hm (by simp)
        refine ⟨by simp; exact h2, nbH p.1 H, by rw [set_H, if_neg h4]; exact h3, .refl _, fun h => absurd (List.mem_map.2 ⟨_, List.mem_map.2 ⟨p, hp, rfl⟩, rfl⟩) h⟩
    · rintro r L1 e L2 fr s2 ⟨F3, hnd, hem, hMd, hMl, hK2, hbx⟩ ft J hJ
      obtain ⟨p, hp, rfl⟩ := hem e (by simp)
      obtain ⟨v, q⟩ := p
      obtain ⟨hql, c, hcH, hcp, -⟩ := hbx (v, q) hp
      have hcl : c.length = (nbH v H).length := hcp.length_eq
      have hnl := nbH_len v H
      simp only at hcl hcH hql hcp
      have hsort := SortU c q s2 (by omega) hql hcH
      rw [hcl] at hsort
      refine e_go ?_
      simp [keyV, mkC]
      (repeat' (first | refine awp_seq ?_ | refine awp_block ?_ | ((first | refine awp_skip ?_ | refine awp_exit ?_); simp only [ak, reduceIte]) | (refine awp_ret ?_; simp only [ak, reduceIte]; simp []) | (refine awp_cond ?_; simp []; (try with_reducible refine ⟨?_, ?_⟩) <;> (try with_reducible intro hc) <;> try (exfalso; omega)) | ((first | (refine w_e [] ?_; intro J hJ; simp only []) | (refine w_q ?_; intro J hJ) | refine e_go ?_); simp []; (repeat refine ca ?_); (try ((try with_reducible refine ⟨?_, ?_⟩) <;> (try with_reducible intro hnil) <;> refine hJ _ _ ?_ <;> clear hJ J <;> simp only [ak, reduceIte] <;> try subst hnil)))))
      refine callK_ofE (hsort) (by simp []) ?_; rintro r st' ⟨d, hd1, hd2, hd3, hd4⟩
      (repeat' (first | refine awp_seq ?_ | refine awp_block ?_ | ((first | refine awp_skip ?_ | refine awp_exit ?_); simp only [ak, reduceIte]) | (refine awp_ret ?_; simp only [ak, reduceIte]; simp []) | (refine awp_cond ?_; simp []; (try with_reducible refine ⟨?_, ?_⟩) <;> (try with_reducible intro hc) <;> try (exfalso; omega)) | ((first | (refine w_e [] ?_; intro J hJ; simp only []) | (refine w_q ?_; intro J hJ) | refine e_go ?_); simp []; (repeat refine ca ?_); (try ((try with_reducible refine ⟨?_, ?_⟩) <;> (try with_reducible intro hnil) <;> refine hJ _ _ ?_ <;> clear hJ J <;> simp only [ak, reduceIte] <;> try subst hnil)))))
      rw [List.map_append, List.map_cons, List.nodup_append, List.nodup_cons] at hnd
      obtain ⟨nd1, ⟨nd2, nd3⟩, nd4⟩ := hnd
      have hMq : ¬ M = q := fun h => by rw [h, hcH] at hMd; cases hMd
      refine hJ _ _ ⟨by simp [F3], ?_, fun e he => hem e (by simp only [List.mem_append, List.mem_cons] at he ⊢; rcases he with h | h; exact .inl h; exact .inr (.inr h)), by rw [hd4.2 M hMq hMl]; exact hMd, Nat.lt_of_lt_of_le hMl hd4.1, ?_, fun p hp2 => ?_⟩ (by simp [ft])
      · rw [List.map_append, List.nodup_append]
        exact ⟨nd1, nd3, fun a ha b hb => nd4 a ha b (List.mem_cons_of_mem _ hb)⟩
      · have hq0 : st.next ≤ q := (hNb.bx (v, q) hp).1
        exact ⟨Nat.le_trans hK2.next hd4.1, fun l hl => by rw [hd4.2 l (by omega) (Nat.lt_of_lt_of_le hl hK2.next)]; exact hK2.H l hl⟩
      · obtain ⟨h1, c2, h2, h3, h4⟩ := hbx p hp2
        by_cases hpq : p.2 = q
        · obtain rfl : p = (v, q) := by
            exact nodup_map_inj hNb.nd hp2 hp hpq
          exact ⟨Nat.lt_of_lt_of_le h1 hd4.1, d, hd1, hd2.trans hcp, fun _ => hd3⟩
        · refine ⟨Nat.lt_of_lt_of_le h1 hd4.1, c2, by rw [hd4.2 _ hpq h1]; exact h2, h3, fun hno => h4 fun hin => hno ?_⟩
          rw [List.map_append, List.map_cons, List.mem_append, List.mem_cons] at hin
          rw [List.map_append, List.mem_append]
          rcases hin with h | h | h
          · exact .inl h
          · exfalso
            simp at h
            have e2 := nodup_map_inj hNb.kd hp2 hp h
            exact hpq (by rw [e2])
          · exact .inr h
    · rintro fr s2 ⟨F3, -, -, hMd, hMl, hK2, hbx⟩
      simp only [ak]
      have hnl : ∀ v, (us (nearF g.es v)).length = (nbH v H).length := fun v => by
        rw [List.length_map, ← hHH]; exact (srt_perm _).length_eq
      (repeat' (first | refine awp_seq ?_ | refine awp_block ?_ | ((first | refine awp_skip ?_ | refine awp_exit ?_); simp only [ak, reduceIte]) | (refine awp_ret ?_; simp only [ak, reduceIte]; simp [F3]) | (refine awp_cond ?_; simp [F3]; (try with_reducible refine ⟨?_, ?_⟩) <;> (try with_reducible intro hc) <;> try (exfalso; omega)) | ((first | (refine w_e [] ?_; intro J hJ; simp only []) | (refine w_q ?_; intro J hJ) | refine e_go ?_); simp [F3]; (repeat refine ca ?_); (try ((try with_reducible refine ⟨?_, ?_⟩) <;> (try with_reducible intro hnil) <;> refine hJ _ _ ?_ <;> clear hJ J <;> simp only [ak, reduceIte] <;> try subst hnil)))))
      refine ⟨hM1, by omega, hK2.set hM1 _, L.map fun p => ([p.1], p.2, us (nearF g.es p.1)), ?_, ?_, ?_, L.map (·.1), hNb.kd, ?_, ?_⟩
      · congr 1
        rw [rowsM, List.map_map, entM]
        refine List.map_congr_left fun p _ => ?_
        simp only [Function.comp, hnl]
      · intro a q b hin
        obtain ⟨p, hp, he⟩ := List.mem_map.1 hin
        injection he with e1 e2
        injection e2 with e2 e3
        subst e1 e2 e3
        obtain ⟨h1, c, h2, h3, h4⟩ := hbx p hp
        have h5 : ¬ p.2 = M := fun h => by rw [h, hMd] at h2; cases h2
        rw [if_neg h5]
        refine ⟨(hNb.bx p hp).1, ?_⟩
        rw [h2, srt_of h3 (h4 (by simp)), ← hHH]; rfl
      · have := hNb.nd
        rw [List.map_map]; exact this
      · intro v
        exact hNb.all v
      · rw [List.map_map, List.map_map]; rfl
  have hd := eds_drop (sE g.es) k hlt
  have hw := nat_add_one k (by omega)
  have hk3 : k * 3 < (sE g.es).length * 3 := by omega
  have htk1 : (sE g.es).take (k + 1) = (sE g.es).take k ++ [(sE g.es).getD k ed0] := by
    rw [List.getD_eq_getElem?_getD, List.getElem?_eq_getElem hlt]; exact List.take_succ_eq_append_getElem hlt
  have hEl : (hfs ((sE g.es).take k)).length ≤ 2000 := by rw [hfs_len, List.length_take]; omega
  generalize (sE g.es).getD k ed0 = x at *
  have hH2 : hfs ((sE g.es).take (k + 1)) = hfs ((sE g.es).take k) ++ [(x.a, x.b)] ++ [(x.b, x.a)] := by rw [htk1, hfs_snoc]
  obtain ⟨id, a, b⟩ := x
  simp only at hd hH2
  generalize hfs ((sE g.es).take k) = H at *
  have b0 : ¬ s.next = M := by omega
  (repeat' (first | refine awp_seq ?_ | refine awp_block ?_ | ((first | refine awp_skip ?_ | refine awp_exit ?_); simp only [ak, reduceIte]) | (refine awp_ret ?_; simp only [ak, reduceIte]; simp [f17, f18, f19, hlt, hd, hel, hk3]) | (refine awp_cond ?_; simp [f17, f18, f19, hlt, hd, hel, hk3]; (try with_reducible refine ⟨?_, ?_⟩) <;> (try with_reducible intro hc) <;> try (exfalso; omega)) | ((first | (refine w_e [] ?_; intro J hJ; simp only []) | (refine w_q ?_; intro J hJ) | refine e_go ?_); simp [f17, f18, f19, hlt, hd, hel, hk3]; (repeat refine ca ?_); (try ((try with_reducible refine ⟨?_, ?_⟩) <;> (try with_reducible intro hnil) <;> refine hJ _ _ ?_ <;> clear hJ J <;> simp only [ak, reduceIte] <;> try subst hnil)))))
  refine awp_weakB (fun f s' => NrI st (sE g.es) M k H f s' ∧ f 7 = .pt s.next 0 ∧ s.next < s'.next ∧ s'.H s.next = .box 43 3 [u id, u a, u b]) ?_ ?_
  · exact ⟨⟨by simp [f3], by simp [f17], by simp [f18], by simp [f19], hM1, by simp; omega, hkp.trans (Keeps.new _ _), L, hNb.keeps (Keeps.new _ _) hM2⟩, by simp, by simp, by simp⟩
  generalize s.next = X at *
  clear hNb hkp hM1 hM2 f19 f18 f17 f3 L
  rintro fr s ⟨⟨f3, f17, f18, f19, hM1, hM2, hkp, L, hNb⟩, f7, hXl, hX⟩
  refine awp_cut1 (fun f s' => NrI st (sE g.es) M k (H ++ [(a, b)]) f s' ∧ f 7 = .pt X 0 ∧ X < s'.next ∧ s'.H X = .box 43 3 [u id, u a, u b]) ?_ ?_
  · clear hJJ
    have hMl := hNb.hm
    have x1 : ¬ X = M := box_ne hX hMl (by simp)
    have x2 : ¬ M = X := fun h => x1 h.symm
    have x3 : ¬ X = s.next := by omega
    have x4 : ¬ X = s.next + 1 := by omega
    have y3 : ¬ M = s.next := by omega
    have y4 : ¬ M = s.next + 1 := by omega
    have y5 : ¬ s.next = M := by omega
    have y6 : ¬ s.next + 1 = M := by omega
    have hnl := nbH_len a (H)
    by_cases hin : a ∈ L.map (·.1)
    · obtain ⟨p, hp, rfl⟩ := List.mem_map.1 hin
      obtain ⟨v, q⟩ := p
      obtain ⟨L1, L2, rfl⟩ := List.append_of_mem hp
      have kd := hNb.kd
      rw [List.map_append, List.map_cons, List.nodup_append] at kd
      have hget := entM_some (H := H) (q := q) (L1 := L1) (L2 := L2) (v := v) (fun e => kd.2.2 v e v (by simp) rfl)
      obtain ⟨q1, q2, q3⟩ := hNb.bx (v, q) (by simp)
      simp only at q1 q2 q3 hnl
      have z1 : ¬ q = M := box_ne q3 hMl (by simp)
      have z2 : ¬ q = s.next := by omega
      have z3 : ¬ q = s.next + 1 := by omega
      have z4 : ¬ X = q := box_ne hX q3 (by simp)
      have z5 : ¬ M = q := fun h => z1 h.symm
      have z6 : List.take (nbH v (H)).length (us (nbH v (H))) = us (nbH v (H)) := List.take_of_length_le (by simp)
      have put := hNb.put (b := b) (q' := s.next + 1) (s' := (((s.new (.own 41 1 1)).set q .dead).new (.box 41 1 (us (nbH v (H) ++ [b])))).set M (.map false [.u32] (mset (entM (H) (L1 ++ (v, q) :: L2)) [v] (.ms (s.next + 1) 0 (nbH v (H) ++ [b]).length)))) ⟨by omega, by omega, by simp⟩ (by simp) (by (repeat (first | rw [new_H, if_neg (α := LObj) (by (try simp only [set_next, new_next]); omega)] | rw [set_H, if_neg (α := LObj) (by omega)] | rw [new_H, if_pos (α := LObj) (by (try simp only [set_next, new_next]))] | rw [set_H, if_pos (α := LObj) (by omega)]))) (fun p hp h1 h2 => by
        have := hNb.bx p (by rcases hp with hp | hp <;> simp [hp])
        have h3 : ¬ p.2 = M := box_ne this.2.2 hMl (by simp)
        (repeat (first | rw [new_H, if_neg (α := LObj) (by (try simp only [set_next, new_next]); omega)] | rw [set_H, if_neg (α := LObj) (by omega)] | rw [new_H, if_pos (α := LObj) (by (try simp only [set_next, new_next]))] | rw [set_H, if_pos (α := LObj) (by omega)]))) (by simp; omega)
      generalize hF : nbH v (H) = F at *
      generalize hN : entM (H) (L1 ++ (v, q) :: L2) = EM at *
      (refine w_s [33] [X, M] [(0, true), (1, true), (2, true), (3, true), (4, true), (5, true), (6, true), (7, true), (8, true), (9, true), (10, true), (11, false)] ?_; intro J hJ; simp [f3, f7, hX, hMl, x1, x2, x3, x4, y3, y4, y5, y6, hget, q3, z1, z2, z3, z4, z5, z6]; (repeat refine ca ?_); (try ((try with_reducible refine ⟨?_, ?_⟩) <;> (try with_reducible intro hnil) <;> refine hJ _ _ ?_ <;> clear hJ J <;> simp only [ak, reduceIte] <;> try subst hnil)))
      refine ⟨by trivial, ⟨by simp [f3], by simp [f17], by simp [f18], by simp [f19], hM1, by simp; omega, ?_, L1 ++ (v, s.next + 1) :: L2, ?_⟩, by simp [f7], by simp; omega, ?_⟩
      · refine ⟨by have := hkp.next; simp; omega, fun l hl => ?_⟩
        have := hkp.next
        (repeat (first | rw [new_H, if_neg (α := LObj) (by (try simp only [set_next, new_next]); omega)] | rw [set_H, if_neg (α := LObj) (by omega)] | rw [new_H, if_pos (α := LObj) (by (try simp only [set_next, new_next]))] | rw [set_H, if_pos (α := LObj) (by omega)])); exact hkp.H l hl
      · simpa using put
      · (repeat (first | rw [new_H, if_neg (α := LObj) (by (try simp only [set_next, new_next]); omega)] | rw [set_H, if_neg (α := LObj) (by omega)] | rw [new_H, if_pos (α := LObj) (by (try simp only [set_next, new_next]))] | rw [set_H, if_pos (α := LObj) (by omega)])); exact hX
    · have hget := entM_none (H := H) hin
      have hnil : nbH a (H) = [] := by
        cases hc : nbH a (H) with
        | nil => rfl
        | cons _ _ => exact absurd ((hNb.all _).1 (by rw [hc]; simp)) hin
      have put := hNb.add (a := a) (b := b) (q' := s.next + 1) (s' := ((s.new (.own 41 1 1)).new (.box 41 1 (us (nbH a (H) ++ [b])))).set M (.map false [.u32] (mset (entM (H) L) [a] (.ms (s.next + 1) 0 (nbH a (H) ++ [b]).length)))) hin ⟨by omega, by omega, by simp⟩ (by simp) (by (repeat (first | rw [new_H, if_neg (α := LObj) (by (try simp only [set_next, new_next]); omega)] | rw [set_H, if_neg (α := LObj) (by omega)] | rw [new_H, if_pos (α := LObj) (by (try simp only [set_next, new_next]))] | rw [set_H, if_pos (α := LObj) (by omega)]))) (fun p hp => by
        have := hNb.bx p hp
        have h3 : ¬ p.2 = M := box_ne this.2.2 hMl (by simp)
        (repeat (first | rw [new_H, if_neg (α := LObj) (by (try simp only [set_next, new_next]); omega)] | rw [set_H, if_neg (α := LObj) (by omega)] | rw [new_H, if_pos (α := LObj) (by (try simp only [set_next, new_next]))] | rw [set_H, if_pos (α := LObj) (by omega)]))) (by simp only [set_next, new_next]; omega)
      rw [hnil] at put
      generalize hN : entM (H) L = EM at *
      (refine w_s [33] [X, M] [(0, true), (1, true), (2, true), (3, true), (4, true), (5, true), (6, true), (7, true), (8, true), (9, true), (10, true), (11, false)] ?_; intro J hJ; simp [f3, f7, hX, hMl, x1, x2, x3, x4, y3, y4, y5, y6, hget]; (repeat refine ca ?_); (try ((try with_reducible refine ⟨?_, ?_⟩) <;> (try with_reducible intro hnil) <;> refine hJ _ _ ?_ <;> clear hJ J <;> simp only [ak, reduceIte] <;> try subst hnil)))
      refine ⟨by trivial, ⟨by simp [f3], by simp [f17], by simp [f18], by simp [f19], hM1, by simp; omega, ?_, L ++ [(a, s.next + 1)], ?_⟩, by simp [f7], by simp; omega, ?_⟩
      · refine ⟨by have := hkp.next; simp; omega, fun l hl => ?_⟩
        have := hkp.next
        (repeat (first | rw [new_H, if_neg (α := LObj) (by (try simp only [set_next, new_next]); omega)] | rw [set_H, if_neg (α := LObj) (by omega)] | rw [new_H, if_pos (α := LObj) (by (try simp only [set_next, new_next]))] | rw [set_H, if_pos (α := LObj) (by omega)])); exact hkp.H l hl
      · simpa using put
      · (repeat (first | rw [new_H, if_neg (α := LObj) (by (try simp only [set_next, new_next]); omega)] | rw [set_H, if_neg (α := LObj) (by omega)] | rw [new_H, if_pos (α := LObj) (by (try simp only [set_next, new_next]))] | rw [set_H, if_pos (α := LObj) (by omega)])); exact hX
  clear hNb hkp hM1 hM2 f19 f18 f17 f3 f7 hXl hX L
  rintro fr s ⟨⟨f3, f17, f18, f19, hM1, hM2, hkp, L, hNb⟩, f7, hXl, hX⟩
  have hEl2 : (H ++ [(a, b)]).length ≤ 2001 := by rw [List.length_append]; simp only [List.length_cons, List.length_nil]; omega
  generalize H ++ [(a, b)] = H2 at *
  refine awp_cutB (fun f s' => NrI st (sE g.es) M k (H2 ++ [(b, a)]) f s' ∧ f 7 = .pt X 0 ∧ X < s'.next ∧ s'.H X = .box 43 3 [u id, u a, u b]) ?_ ?_
  · clear hJJ
    have hMl := hNb.hm
    have x1 : ¬ X = M := box_ne hX hMl (by simp)
    have x2 : ¬ M = X := fun h => x1 h.symm
    have x3 : ¬ X = s.next := by omega
    have x4 : ¬ X = s.next + 1 := by omega
    have y3 : ¬ M = s.next := by omega
    have y4 : ¬ M = s.next + 1 := by omega
    have y5 : ¬ s.next = M := by omega
    have y6 : ¬ s.next + 1 = M := by omega
    have hnl := nbH_len b (H2)
    by_cases hin : b ∈ L.map (·.1)
    · obtain ⟨p, hp, rfl⟩ := List.mem_map.1 hin
      obtain ⟨v, q⟩ := p
      obtain ⟨L1, L2, rfl⟩ := List.append_of_mem hp
      have kd := hNb.kd
      rw [List.map_append, List.map_cons, List.nodup_append] at kd
      have hget := entM_some (H := H2) (q := q) (L1 := L1) (L2 := L2) (v := v) (fun e => kd.2.2 v e v (by simp) rfl)
      obtain ⟨q1, q2, q3⟩ := hNb.bx (v, q) (by simp)
      simp only at q1 q2 q3 hnl
      have z1 : ¬ q = M := box_ne q3 hMl (by simp)
      have z2 : ¬ q = s.next := by omega
      have z3 : ¬ q = s.next + 1 := by omega
      have z4 : ¬ X = q := box_ne hX q3 (by simp)
      have z5 : ¬ M = q := fun h => z1 h.symm
      have z6 : List.take (nbH v (H2)).length (us (nbH v (H2))) = us (nbH v (H2)) := List.take_of_length_le (by simp)
      have put := hNb.put (b := a) (q' := s.next + 1) (s' := (((s.new (.own 41 1 1)).set q .dead).new (.box 41 1 (us (nbH v (H2) ++ [a])))).set M (.map false [.u32] (mset (entM (H2) (L1 ++ (v, q) :: L2)) [v] (.ms (s.next + 1) 0 (nbH v (H2) ++ [a]).length)))) ⟨by omega, by omega, by simp⟩ (by simp) (by (repeat (first | rw [new_H, if_neg (α := LObj) (by (try simp only [set_next, new_next]); omega)] | rw [set_H, if_neg (α := LObj) (by omega)] | rw [new_H, if_pos (α := LObj) (by (try simp only [set_next, new_next]))] | rw [set_H, if_pos (α := LObj) (by omega)]))) (fun p hp h1 h2 => by
        have := hNb.bx p (by rcases hp with hp | hp <;> simp [hp])
        have h3 : ¬ p.2 = M := box_ne this.2.2 hMl (by simp)
        (repeat (first | rw [new_H, if_neg (α := LObj) (by (try simp only [set_next, new_next]); omega)] | rw [set_H, if_neg (α := LObj) (by omega)] | rw [new_H, if_pos (α := LObj) (by (try simp only [set_next, new_next]))] | rw [set_H, if_pos (α := LObj) (by omega)]))) (by simp; omega)
      generalize hF : nbH v (H2) = F at *
      generalize hN : entM (H2) (L1 ++ (v, q) :: L2) = EM at *
      (refine w_s [44] [X, M] [(0, true), (1, true), (2, true), (3, true), (4, true), (5, true), (6, true), (7, true), (8, true), (9, true), (10, true), (11, false)] ?_; intro J hJ; simp [f3, f7, hX, hMl, x1, x2, x3, x4, y3, y4, y5, y6, hget, q3, z1, z2, z3, z4, z5, z6]; (repeat refine ca ?_); (try ((try with_reducible refine ⟨?_, ?_⟩) <;> (try with_reducible intro hnil) <;> refine hJ _ _ ?_ <;> clear hJ J <;> simp only [ak, reduceIte] <;> try subst hnil)))
      refine ⟨by trivial, ⟨by simp [f3], by simp [f17], by simp [f18], by simp [f19], hM1, by simp; omega, ?_, L1 ++ (v, s.next + 1) :: L2, ?_⟩, by simp [f7], by simp; omega, ?_⟩
      · refine ⟨by have := hkp.next; simp; omega, fun l hl => ?_⟩
        have := hkp.next
        (repeat (first | rw [new_H, if_neg (α := LObj) (by (try simp only [set_next, new_next]); omega)] | rw [set_H, if_neg (α := LObj) (by omega)] | rw [new_H, if_pos (α := LObj) (by (try simp only [set_next, new_next]))] | rw [set_H, if_pos (α := LObj) (by omega)])); exact hkp.H l hl
      · simpa using put
      · (repeat (first | rw [new_H, if_neg (α := LObj) (by (try simp only [set_next, new_next]); omega)] | rw [set_H, if_neg (α := LObj) (by omega)] | rw [new_H, if_pos (α := LObj) (by (try simp only [set_next, new_next]))] | rw [set_H, if_pos (α := LObj) (by omega)])); exact hX
    · have hget := entM_none (H := H2) hin
      have hnil : nbH b (H2) = [] := by
        cases hc : nbH b (H2) with
        | nil => rfl
        | cons _ _ => exact absurd ((hNb.all _).1 (by rw [hc]; simp)) hin
      have put := hNb.add (a := b) (b := a) (q' := s.next + 1) (s' := ((s.new (.own 41 1 1)).new (.box 41 1 (us (nbH b (H2) ++ [a])))).set M (.map false [.u32] (mset (entM (H2) L) [b] (.ms (s.next + 1) 0 (nbH b (H2) ++ [a]).length)))) hin ⟨by omega, by omega, by simp⟩ (by simp) (by (repeat (first | rw [new_H, if_neg (α := LObj) (by (try simp only [set_next, new_next]); omega)] | rw [set_H, if_neg (α := LObj) (by omega)] | rw [new_H, if_pos (α := LObj) (by (try simp only [set_next, new_next]))] | rw [set_H, if_pos (α := LObj) (by omega)]))) (fun p hp => by
        have := hNb.bx p hp
        have h3 : ¬ p.2 = M := box_ne this.2.2 hMl (by simp)
        (repeat (first | rw [new_H, if_neg (α := LObj) (by (try simp only [set_next, new_next]); omega)] | rw [set_H, if_neg (α := LObj) (by omega)] | rw [new_H, if_pos (α := LObj) (by (try simp only [set_next, new_next]))] | rw [set_H, if_pos (α := LObj) (by omega)]))) (by simp only [set_next, new_next]; omega)
      rw [hnil] at put
      generalize hN : entM (H2) L = EM at *
      (refine w_s [44] [X, M] [(0, true), (1, true), (2, true), (3, true), (4, true), (5, true), (6, true), (7, true), (8, true), (9, true), (10, true), (11, false)] ?_; intro J hJ; simp [f3, f7, hX, hMl, x1, x2, x3, x4, y3, y4, y5, y6, hget]; (repeat refine ca ?_); (try ((try with_reducible refine ⟨?_, ?_⟩) <;> (try with_reducible intro hnil) <;> refine hJ _ _ ?_ <;> clear hJ J <;> simp only [ak, reduceIte] <;> try subst hnil)))
      refine ⟨by trivial, ⟨by simp [f3], by simp [f17], by simp [f18], by simp [f19], hM1, by simp; omega, ?_, L ++ [(b, s.next + 1)], ?_⟩, by simp [f7], by simp; omega, ?_⟩
      · refine ⟨by have := hkp.next; simp; omega, fun l hl => ?_⟩
        have := hkp.next
        (repeat (first | rw [new_H, if_neg (α := LObj) (by (try simp only [set_next, new_next]); omega)] | rw [set_H, if_neg (α := LObj) (by omega)] | rw [new_H, if_pos (α := LObj) (by (try simp only [set_next, new_next]))] | rw [set_H, if_pos (α := LObj) (by omega)])); exact hkp.H l hl
      · simpa using put
      · (repeat (first | rw [new_H, if_neg (α := LObj) (by (try simp only [set_next, new_next]); omega)] | rw [set_H, if_neg (α := LObj) (by omega)] | rw [new_H, if_pos (α := LObj) (by (try simp only [set_next, new_next]))] | rw [set_H, if_pos (α := LObj) (by omega)])); exact hX
  clear hNb hkp hM1 hM2 f19 f18 f17 f3 f7 hXl hX L
  rintro fr s ⟨⟨f3, f17, f18, f19, hM1, hM2, hkp, L, hNb⟩, f7, hXl, hX⟩
  simp only [ak]
  (repeat' (first | refine awp_seq ?_ | refine awp_block ?_ | ((first | refine awp_skip ?_ | refine awp_exit ?_); simp only [ak, reduceIte]) | (refine awp_ret ?_; simp only [ak, reduceIte]; simp [f19, hw]) | (refine awp_cond ?_; simp [f19, hw]; (try with_reducible refine ⟨?_, ?_⟩) <;> (try with_reducible intro hc) <;> try (exfalso; omega)) | ((first | (refine w_e [] ?_; intro J hJ; simp only []) | (refine w_q ?_; intro J hJ) | refine e_go ?_); simp [f19, hw]; (repeat refine ca ?_); (try ((try with_reducible refine ⟨?_, ?_⟩) <;> (try with_reducible intro hnil) <;> refine hJ _ _ ?_ <;> clear hJ J <;> simp only [ak, reduceIte] <;> try subst hnil)))))
  exact hJJ ((sE g.es).length - (k + 1)) _ _ (by omega) ⟨k + 1, by omega, rfl, by simp [f3], by simp [f17], by simp [f18], by simp, hM1, hM2, hkp, L, by rw [hH2]; exact hNb⟩

/-- A row's numbers, or none. -/
def nbLV (es : List Ed) (v : Int) : Option LV := if nearF es v = [] then none else some (.sl 0 (nearF es v).length (us (nearF es v)))
theorem rowsV_get {es : List Ed} (v : Int) : ∀ {K : List Int}, mget (K.map fun v => (([v], .sl 0 (nearF es v).length (us (nearF es v))) : List Int × LV)) [v] = if v ∈ K then some (.sl 0 (nearF es v).length (us (nearF es v))) else none
  | [] => rfl
  | k :: K => by
    simp only [List.map_cons, mget]
    by_cases h : v = k
    · subst h; simp
    · have h' : ¬ ([v] == [k]) = true := by simpa using h
      rw [if_neg h', rowsV_get v (K := K)]
      simp [h]
/-- nearby: a map of the near ones of each vertex that has some. -/
theorem nearby (g : Gr) (st : St) (hv : g.vs.length ≤ 1048576) (he : g.es.length ≤ 1000) (hp : 0 < st.next) :
    ACalls Tryz.prog 86 [.ag (grL g)] st fun r st' => ∃ m es, r = .mp m ∧ st.next ≤ m ∧ m < st'.next ∧ Keeps st st' ∧ st'.H m = .map false [.u32] es ∧ ∀ v, mget es [v] = nbLV g.es v := by
  refine (acalls_mapRows (R := fun L => ∃ K : List Int, K.Nodup ∧ (∀ v, nbH v (hfs (sE g.es)) ≠ [] ↔ v ∈ K) ∧ L.map (fun p => (p.1, p.2.2)) = K.map fun v => ([v], us (nearF g.es v))) (nearbyM g st hv he hp)).mono ?_
  rintro r st' ⟨m, L, rfl, h1, h2, h3, h4, K, hK, hall, hL⟩
  refine ⟨m, _, rfl, h1, h2, h3, h4, fun v => ?_⟩
  have e : rowsV L = K.map fun v => ([v], .sl 0 (nearF g.es v).length (us (nearF g.es v))) := by
    have e1 : rowsV L = (L.map fun p => (p.1, p.2.2)).map fun p => (p.1, LV.sl 0 p.2.length p.2) := by rw [List.map_map]; rfl
    rw [e1, hL, List.map_map]
    refine List.map_congr_left fun v _ => ?_
    simp
  rw [e, rowsV_get]
  unfold nbLV
  have hn : nearF g.es v = [] ↔ nbH v (hfs (sE g.es)) = [] := by
    have := (srt_perm (nbH v (hfs (sE g.es)))).length_eq
    unfold nearF
    constructor
    · intro h; rw [h] at this; exact List.eq_nil_of_length_eq_zero this.symm
    · intro h; rw [h]; rfl
  by_cases hv : v ∈ K
  · rw [if_pos hv, if_neg (fun h => (hall v).2 hv (hn.1 h))]
  · rw [if_neg hv]
    split
    · rfl
    · rename_i h
      exact absurd ((hall v).1 fun h2 => h (hn.2 h2)) hv

end Go.Proofs.YtomfeddgeihipaaGreat.Aw

namespace Go.Proofs.YtomfeddgeihipaaGreat.Aw
open Go Go.RowKit Go.Proofs.YtomfeddgeihipaaGreat.Pl
set_option linter.unusedSimpArgs false
set_option linter.unusedVariables false

def ledL (A : Led) : List (List Int × LV) := A.map fun p => ([p.1], u p.2)
theorem mget_led (A : Led) (v : Int) : mget (ledL A) [v] = (ledBy A v).map u := by
  induction A with
  | nil => rfl
  | cons p A ih =>
    simp only [ledL, List.map_cons, mget, ledBy] at ih ⊢
    by_cases h : v = p.1
    · subst h; simp
    · rw [if_neg (by simpa using h), if_neg h]; exact ih
theorem mset_led {A : Led} {v w : Int} (h : v ∉ A.map (·.1)) : mset (ledL A) [v] (u w) = ledL (A ++ [(v, w)]) := by
  induction A with
  | nil => rfl
  | cons p A ih =>
    simp only [List.map_cons, List.mem_cons, not_or] at h
    have ih := ih h.2
    simp only [ledL, List.map_cons, List.cons_append, mset] at ih ⊢
    rw [if_neg (by simpa using h.1), ih]

theorem back (A : Led) (ma : Nat) (from' to : Int) (n : Nat) (l : List Int) (st : St) (hn : n ≤ 100000) (hl : backF A from' n to = some l) (hm : ma < st.next) (hH : st.H ma = .map false [.u32] (ledL A)) :
    ACalls Tryz.prog 100 [.mp ma, u from', u to] st fun r st' => r = .sl 0 (to :: l).reverse.length (us (to :: l).reverse) ∧ Keeps st st' := by
  have hll := backF_len hl
  refine acalls_freeze ?_
  refine acalls_of_body tabOk Tryz.func100 rfl rfl Tryz.ntmps100 (rs := [.tmp 6]) rfl (by simp) ?_
  (repeat' (first | refine awp_seq ?_ | refine awp_block ?_ | ((first | refine awp_skip ?_ | refine awp_exit ?_); simp only [ak, reduceIte]) | (refine awp_ret ?_; simp only [ak, reduceIte]; simp []) | (refine awp_cond ?_; simp []; (try with_reducible refine ⟨?_, ?_⟩) <;> (try with_reducible intro hc) <;> try (exfalso; omega)) | ((first | (refine w_e [10] ?_; intro J hJ; simp only []) | (refine w_q ?_; intro J hJ) | refine e_go ?_); simp []; (repeat refine ca ?_); (try ((try with_reducible refine ⟨?_, ?_⟩) <;> (try with_reducible intro hnil) <;> refine hJ _ _ ?_ <;> clear hJ J <;> simp only [ak, reduceIte] <;> try subst hnil)))))
  refine awp_loop (fun k fr s => ∃ (v : Int) (W R : List Int), backF A from' k v = some R ∧ to :: l = W ++ R ∧ k ≤ n ∧ W.length + k ≤ n + 1 ∧ fr 0 = .mp ma ∧ fr 1 = u from' ∧ fr 8 = u v ∧ ∃ q, fr 7 = .ms q 0 W.length ∧ s.H q = .box 41 1 (us W) ∧ st.next ≤ q ∧ q < s.next ∧ Keeps st s) n ?_ ?_
  · exact ⟨to, [to], l, hl, rfl, by omega, by simp; omega, by simp, by simp, by simp, st.next, by simp, by simp, Nat.le_refl _, by simp, Keeps.new _ _⟩
  rintro k fr s ⟨v, W, R, hb, hW, hk, hWk, f0, f1, f8, q, f7, hq, hq0, hql, hkp⟩ JJ hJJ
  have hHs : s.H ma = .map false [.u32] (ledL A) := by rw [hkp.H ma hm]; exact hH
  have hg := mget_led A v
  by_cases hv : v = from'
  · clear hJJ
    have hR : R = [] := by
      cases k <;> (simp only [backF, if_pos hv, Option.some.injEq] at hb; exact hb.symm)
    subst hR
    rw [List.append_nil] at hW
    have hv2 : (v != from') = false := by simpa using hv
    (repeat' (first | refine awp_seq ?_ | refine awp_block ?_ | ((first | refine awp_skip ?_ | refine awp_exit ?_); simp only [ak, reduceIte]) | (refine awp_ret ?_; simp only [ak, reduceIte]; simp [f1, f8, hv, hv2, f7]) | (refine awp_cond ?_; simp [f1, f8, hv, hv2, f7]; (try with_reducible refine ⟨?_, ?_⟩) <;> (try with_reducible intro hc) <;> try (exfalso; omega)) | ((first | (refine w_e [] ?_; intro J hJ; simp only []) | (refine w_q ?_; intro J hJ) | refine e_go ?_); simp [f1, f8, hv, hv2, f7]; (repeat refine ca ?_); (try ((try with_reducible refine ⟨?_, ?_⟩) <;> (try with_reducible intro hnil) <;> refine hJ _ _ ?_ <;> clear hJ J <;> simp only [ak, reduceIte] <;> try subst hnil)))))
    refine callK_ofE (Reverse W q s (by unfold small; omega) hq) (by simp []) ?_; rintro r st' rfl
    (repeat' (first | refine awp_seq ?_ | refine awp_block ?_ | ((first | refine awp_skip ?_ | refine awp_exit ?_); simp only [ak, reduceIte]) | (refine awp_ret ?_; simp only [ak, reduceIte]; simp [f7]) | (refine awp_cond ?_; simp [f7]; (try with_reducible refine ⟨?_, ?_⟩) <;> (try with_reducible intro hc) <;> try (exfalso; omega)) | ((first | (refine w_e [] ?_; intro J hJ; simp only []) | (refine w_q ?_; intro J hJ) | refine e_go ?_); simp [f7]; (repeat refine ca ?_); (try ((try with_reducible refine ⟨?_, ?_⟩) <;> (try with_reducible intro hnil) <;> refine hJ _ _ ?_ <;> clear hJ J <;> simp only [ak, reduceIte] <;> try subst hnil)))))
    exact ⟨q, W.length, ⟨rfl, rfl⟩, 41, 1, us W.reverse, by simp, by simp, by subst hW; simp, (hkp.set hq0 _).set hq0 _⟩
  · cases k with
    | zero => simp only [backF, if_neg hv] at hb; cases hb
    | succ k =>
      simp only [backF, if_neg hv, Option.map_eq_some_iff] at hb
      obtain ⟨R', hb, rfl⟩ := hb
      have hv2 : (v != from') = true := by simpa using hv
      have hg2 : ((mget (ledL A) [v]).getD (u 0)) = u ((ledBy A v).getD 0) := by rw [hg]; cases ledBy A v <;> rfl
      generalize (ledBy A v).getD 0 = x at *
      have q1 : ¬ q = s.next := by omega
      have htk : List.take W.length (us W) = us W := List.take_of_length_le (by simp)
      (repeat' (first | refine awp_seq ?_ | refine awp_block ?_ | ((first | refine awp_skip ?_ | refine awp_exit ?_); simp only [ak, reduceIte]) | (refine awp_ret ?_; simp only [ak, reduceIte]; simp [f0, f1, f8, hv, hv2, f7, hHs, hg2, q1, hq, htk]) | (refine awp_cond ?_; simp [f0, f1, f8, hv, hv2, f7, hHs, hg2, q1, hq, htk]; (try with_reducible refine ⟨?_, ?_⟩) <;> (try with_reducible intro hc) <;> try (exfalso; omega)) | ((first | (refine w_e [] ?_; intro J hJ; simp only []) | (refine w_q ?_; intro J hJ) | refine e_go ?_); simp [f0, f1, f8, hv, hv2, f7, hHs, hg2, q1, hq, htk]; (repeat refine ca ?_); (try ((try with_reducible refine ⟨?_, ?_⟩) <;> (try with_reducible intro hnil) <;> refine hJ _ _ ?_ <;> clear hJ J <;> simp only [ak, reduceIte] <;> try subst hnil)))))
      refine hJJ k _ _ (by omega) ⟨x, W ++ [x], R', hb, by rw [hW]; simp, by omega, by simp; omega, by simp [f0], by simp [f1], by simp, s.next + 1, by simp, by simp, by have := hkp.next; omega, by simp, ?_⟩
      exact (((hkp.trans (Keeps.new _ _)).set hq0 _).trans (Keeps.new _ _))

end Go.Proofs.YtomfeddgeihipaaGreat.Aw

namespace Go.Proofs.YtomfeddgeihipaaGreat.Aw
open Go Go.RowKit Go.Proofs.YtomfeddgeihipaaGreat.Pl
set_option linter.unusedSimpArgs false
set_option linter.unusedVariables false

/-- What a function argument answers of a vertex. -/
def MayOk (th : LV) (may : Int → Bool) (st : St) : Prop :=
  (th = .atom .nilFunc ∧ ∀ v, may v = true) ∨ ∃ f caps, th = .fn (.func f) caps ∧ caps.map norm = caps ∧ ∀ v s, Keeps st s → ACalls Tryz.prog f (u v :: caps) s fun r s' => r = bb (may v) ∧ Keeps s s'

structure PaB (st0 : St) (A : Led) (Q : List Int) (Ma Mn tq o : Nat) (es : List (List Int × LV)) (s : St) : Prop where
  ha : s.H Ma = .map false [.u32] (ledL A)
  hn : s.H Mn = .map false [.u32] es
  hq : s.H tq = .que 41 (o + Q.length)
  b : st0.next ≤ Ma ∧ st0.next ≤ Mn ∧ st0.next ≤ tq ∧ Ma < s.next ∧ Mn < s.next ∧ tq < s.next ∧ tq ≠ 0 ∧ ¬ Mn = Ma
  kp : Keeps st0 s

set_option maxHeartbeats 4000000 in
theorem Path (g : Gr) (from' to : Int) (th : LV) (may : Int → Bool) (n : Nat) (l : List Int) (st : St) (hv : g.vs.length ≤ 1048576) (he : g.es.length ≤ 1000) (hn : n ≤ 1000) (hm : MayOk th may st) (hl : pathF g.vs (nearF g.es) may from' to n = some l) :
    ACalls Tryz.prog 44 [.ag (grL g), u from', u to, th] st fun r st' => r = .sl 0 l.length (us l) ∧ Keeps st st' := by
  have hth : norm th = th := by rcases hm with ⟨rfl, _⟩ | ⟨f, c, rfl, _, _⟩ <;> rfl
  refine acalls_z0 ?_
  refine acalls_of_body tabOk Tryz.func44 rfl rfl Tryz.ntmps44 (rs := [.tmp 8]) rfl (by simp) ?_
  refine awp_posG fun hpos => ?_
  (repeat' (first | refine awp_seq ?_ | refine awp_block ?_ | ((first | refine awp_skip ?_ | refine awp_exit ?_); simp only [ak, reduceIte]) | (refine awp_ret ?_; simp only [ak, reduceIte]; simp []) | (refine awp_cond ?_; simp []; (try with_reducible refine ⟨?_, ?_⟩) <;> (try with_reducible intro hc) <;> try (exfalso; omega)) | ((first | (refine w_e [] ?_; intro J hJ; simp only []) | (refine w_q ?_; intro J hJ) | refine e_go ?_); simp []; (repeat refine ca ?_); (try ((try with_reducible refine ⟨?_, ?_⟩) <;> (try with_reducible intro hnil) <;> refine hJ _ _ ?_ <;> clear hJ J <;> simp only [ak, reduceIte] <;> try subst hnil)))))
  refine callK_ofE (Vert g from' _ hv) (by simp) ?_; rintro r s1 ⟨rfl, hk1⟩
  have hn1 := hk1.next
  simp only [new_next] at hn1
  have hG1 : s1.H st.next = .box 38 2 (grL g) := by rw [hk1.H _ (by simp)]; simp
  have hkp1 : Keeps st s1 := (Keeps.new _ _).trans hk1
  clear hk1
  unfold pathF at hl
  by_cases hf : from' ∈ g.vs
  rotate_left
  · have h0 : gi g.vs from' < 0 := (gi_neg _ _).2 hf
    rw [if_pos (.inl hf)] at hl
    injection hl with hl
    subst hl
    (refine e_go ?_; simp [h0]; (repeat refine ca ?_); (try ((try with_reducible refine ⟨?_, ?_⟩) <;> (try with_reducible intro hnil) <;> refine hJ _ _ ?_ <;> clear hJ J <;> simp only [ak, reduceIte] <;> try subst hnil)))
    (repeat' (first | refine awp_seq ?_ | refine awp_block ?_ | ((first | refine awp_skip ?_ | refine awp_exit ?_); simp only [ak, reduceIte]) | (refine awp_ret ?_; simp only [ak, reduceIte]; simp []) | (refine awp_cond ?_; simp []; (try with_reducible refine ⟨?_, ?_⟩) <;> (try with_reducible intro hc) <;> try (exfalso; omega)) | ((first | (refine w_e [] ?_; intro J hJ; simp only []) | (refine w_q ?_; intro J hJ) | refine e_go ?_); simp []; (repeat refine ca ?_); (try ((try with_reducible refine ⟨?_, ?_⟩) <;> (try with_reducible intro hnil) <;> refine hJ _ _ ?_ <;> clear hJ J <;> simp only [ak, reduceIte] <;> try subst hnil)))))
    exact ⟨rfl, hkp1⟩
  have h0 : ¬ gi g.vs from' < 0 := fun h => (gi_neg _ _).1 h hf
  (refine e_go ?_; simp [h0, hG1]; (repeat refine ca ?_); (try ((try with_reducible refine ⟨?_, ?_⟩) <;> (try with_reducible intro hnil) <;> refine hJ _ _ ?_ <;> clear hJ J <;> simp only [ak, reduceIte] <;> try subst hnil)))
  refine callK_ofE (Vert g to _ hv) (by simp) ?_; rintro r s2 ⟨rfl, hk2⟩
  have hn2 := hk2.next
  have hG2 := (hk2.H st.next (by omega)).trans hG1
  have hkp2 := hkp1.trans hk2
  clear hk2 hkp1 hG1 h0
  by_cases ht : to ∈ g.vs
  rotate_left
  · have h0 : gi g.vs to < 0 := (gi_neg _ _).2 ht
    rw [if_pos (.inr ht)] at hl
    injection hl with hl
    subst hl
    (refine e_go ?_; simp [h0]; (repeat refine ca ?_); (try ((try with_reducible refine ⟨?_, ?_⟩) <;> (try with_reducible intro hnil) <;> refine hJ _ _ ?_ <;> clear hJ J <;> simp only [ak, reduceIte] <;> try subst hnil)))
    (repeat' (first | refine awp_seq ?_ | refine awp_block ?_ | ((first | refine awp_skip ?_ | refine awp_exit ?_); simp only [ak, reduceIte]) | (refine awp_ret ?_; simp only [ak, reduceIte]; simp []) | (refine awp_cond ?_; simp []; (try with_reducible refine ⟨?_, ?_⟩) <;> (try with_reducible intro hc) <;> try (exfalso; omega)) | ((first | (refine w_e [] ?_; intro J hJ; simp only []) | (refine w_q ?_; intro J hJ) | refine e_go ?_); simp []; (repeat refine ca ?_); (try ((try with_reducible refine ⟨?_, ?_⟩) <;> (try with_reducible intro hnil) <;> refine hJ _ _ ?_ <;> clear hJ J <;> simp only [ak, reduceIte] <;> try subst hnil)))))
    exact ⟨rfl, hkp2⟩
  have h0 : ¬ gi g.vs to < 0 := fun h => (gi_neg _ _).1 h ht
  rw [if_neg (by simp [hf, ht])] at hl
  (refine e_go ?_; simp [h0]; (repeat refine ca ?_); (try ((try with_reducible refine ⟨?_, ?_⟩) <;> (try with_reducible intro hnil) <;> refine hJ _ _ ?_ <;> clear hJ J <;> simp only [ak, reduceIte] <;> try subst hnil)))
  by_cases hft : from' = to
  · rw [if_pos hft] at hl
    injection hl with hl
    subst hl
    (repeat' (first | refine awp_seq ?_ | refine awp_block ?_ | ((first | refine awp_skip ?_ | refine awp_exit ?_); simp only [ak, reduceIte]) | (refine awp_ret ?_; simp only [ak, reduceIte]; simp [hft]) | (refine awp_cond ?_; simp [hft]; (try with_reducible refine ⟨?_, ?_⟩) <;> (try with_reducible intro hc) <;> try (exfalso; omega)) | ((first | (refine w_e [] ?_; intro J hJ; simp only []) | (refine w_q ?_; intro J hJ) | refine e_go ?_); simp [hft]; (repeat refine ca ?_); (try ((try with_reducible refine ⟨?_, ?_⟩) <;> (try with_reducible intro hnil) <;> refine hJ _ _ ?_ <;> clear hJ J <;> simp only [ak, reduceIte] <;> try subst hnil)))))
    refine ⟨by simp [z0, z0L, hft], hkp2.trans (Keeps.new _ _)⟩
  rw [if_neg hft] at hl
  (repeat' (first | refine awp_seq ?_ | refine awp_block ?_ | ((first | refine awp_skip ?_ | refine awp_exit ?_); simp only [ak, reduceIte]) | (refine awp_ret ?_; simp only [ak, reduceIte]; simp [hft, hG2]) | (refine awp_cond ?_; simp [hft, hG2]; (try with_reducible refine ⟨?_, ?_⟩) <;> (try with_reducible intro hc) <;> try (exfalso; omega)) | ((first | (refine w_e [] ?_; intro J hJ; simp only []) | (refine w_q ?_; intro J hJ) | refine e_go ?_); simp [hft, hG2]; (repeat refine ca ?_); (try ((try with_reducible refine ⟨?_, ?_⟩) <;> (try with_reducible intro hnil) <;> refine hJ _ _ ?_ <;> clear hJ J <;> simp only [ak, reduceIte] <;> try subst hnil)))))
  refine callK_ofE (nearby g _ hv he (by omega)) (by simp) ?_; rintro r s3 ⟨Mn, es, rfl, m1, m2, hk3, hMn, hes⟩
  have hn3 := hk3.next
  have hkp3 := hkp2.trans hk3
  obtain ⟨R0, hbfs, hR0⟩ : ∃ R0, bfs (nearF g.es) may to n [(from', from')] [from'] = some R0 ∧ ((R0 = none ∧ l = []) ∨ ∃ A l', R0 = some A ∧ backF A from' n to = some l' ∧ l = (to :: l').reverse) := by
    cases hb : bfs (nearF g.es) may to n [(from', from')] [from'] with
    | none => rw [hb] at hl; cases hl
    | some R0 =>
      rw [hb] at hl
      cases R0 with
      | none => injection hl with hl; exact ⟨_, rfl, .inl ⟨rfl, hl.symm⟩⟩
      | some A =>
        simp only [Option.map_eq_some_iff] at hl
        obtain ⟨l', h1, h2⟩ := hl
        exact ⟨_, rfl, .inr ⟨A, l', rfl, h1, h2.symm⟩⟩
  clear hl
  (repeat' (first | refine awp_seq ?_ | refine awp_block ?_ | ((first | refine awp_skip ?_ | refine awp_exit ?_); simp only [ak, reduceIte]) | (refine awp_ret ?_; simp only [ak, reduceIte]; simp []) | (refine awp_cond ?_; simp []; (try with_reducible refine ⟨?_, ?_⟩) <;> (try with_reducible intro hc) <;> try (exfalso; omega)) | ((first | (refine w_e [] ?_; intro J hJ; simp only []) | (refine w_q ?_; intro J hJ) | refine e_go ?_); simp []; (repeat refine ca ?_); (try ((try with_reducible refine ⟨?_, ?_⟩) <;> (try with_reducible intro hnil) <;> refine hJ _ _ ?_ <;> clear hJ J <;> simp only [ak, reduceIte] <;> try subst hnil)))))
  refine awp_qu 11 (t := s3.next + 1) (n := 1) (e := 41) (cs := [u from']) (by simp) (by simp) (by omega) (by omega) ?_
  have hc0 : ¬ Mn = s3.next := by omega
  have hc1 : ¬ Mn = s3.next + 1 := by omega
  refine awp_loop (fun k fr s => ∃ (A : Led) (Q : List Int) (tq o : Nat), bfs (nearF g.es) may to k A Q = some R0 ∧ k ≤ n ∧ Q.length + 2000 * k ≤ 2000 * n + 1 ∧ fr 1 = u from' ∧ fr 2 = u to ∧ fr 3 = th ∧ fr 9 = .mp Mn ∧ fr 10 = .mp s3.next ∧ fr 11 = .qu tq o Q.length (us Q) ∧ PaB st A Q s3.next Mn tq o es s) n ?_ ?_
  · refine ⟨_, _, s3.next + 1, 0, hbfs, Nat.le_refl _, by simp; omega, by simp, by simp, by simp, by simp, by simp, by simp, ?_⟩
    refine ⟨by simp [ledL, mset], by simp [hc0, hc1, hMn], by simp, ⟨by omega, by omega, by omega, by simp; omega, by simp; omega, by simp, by omega, hc0⟩, ?_⟩
    exact (((hkp3.trans (Keeps.new _ _)).trans (Keeps.new _ _)).set (q := s3.next + 1) (by omega) _)
  generalize s3.next = Ma at *
  clear hk3 hn3 hkp3 hMn m1 m2 hG2 hkp2 hn2 hn1 hc0 hc1 hbfs
  rintro k fr s ⟨A, Q, tq, o, hb, hk, hQ, f1, f2, f3, f9, f10, f11, hPa, hPn, hPq, ⟨b1, b2, b3, b4, b5, b6, b7, b8⟩, hkp⟩ JJ hJJ
  cases Q with
  | nil =>
    clear hJJ
    have h1 : R0 = none := by cases k <;> (simp only [bfs, Option.some.injEq] at hb; exact hb.symm)
    subst h1
    rcases hR0 with ⟨_, rfl⟩ | ⟨_, _, h, _⟩
    · (repeat' (first | refine awp_seq ?_ | refine awp_block ?_ | ((first | refine awp_skip ?_ | refine awp_exit ?_); simp only [ak, reduceIte]) | (refine awp_ret ?_; simp only [ak, reduceIte]; simp [f11]) | (refine awp_cond ?_; simp [f11]; (try with_reducible refine ⟨?_, ?_⟩) <;> (try with_reducible intro hc) <;> try (exfalso; omega)) | ((first | (refine w_e [] ?_; intro J hJ; simp only []) | (refine w_q ?_; intro J hJ) | refine e_go ?_); simp [f11]; (repeat refine ca ?_); (try ((try with_reducible refine ⟨?_, ?_⟩) <;> (try with_reducible intro hnil) <;> refine hJ _ _ ?_ <;> clear hJ J <;> simp only [ak, reduceIte] <;> try subst hnil)))))
      exact ⟨rfl, hkp⟩
    · cases h
  | cons v Q =>
  cases k with
  | zero => simp [bfs] at hb
  | succ k =>
  have hQl : (Q.length : Int) + 1 > 0 := by omega
  have hrow := hes v
  have hrl := nearF_len g.es v
  simp only [bfs] at hb
  generalize hrw : nearF g.es v = row at *
  have hslc : List.take (Q.length + 1 - 1) (us Q) = us Q := List.take_of_length_le (by simp)
  have hbn : ¬ (Q.length : Int) + 1 ≤ 0 := by omega
  (repeat (first | refine awp_seq ?_ | refine awp_block ?_))
  (refine w_e [] ?_; intro J hJ; simp only []; simp [f11, hQl]; (repeat refine ca ?_); (try ((try with_reducible refine ⟨?_, ?_⟩) <;> (try with_reducible intro hnil) <;> refine hJ _ _ ?_ <;> clear hJ J <;> simp only [ak, reduceIte] <;> try subst hnil)))
  (repeat (first | refine awp_seq ?_ | refine awp_block ?_))
  (refine awp_cond ?_; simp []; (try with_reducible refine ⟨?_, ?_⟩) <;> (try with_reducible intro hc) <;> try (exfalso; omega))
  refine awp_skip ?_; simp only [ak]
  (repeat (first | refine awp_seq ?_ | refine awp_block ?_))
  (refine w_e [] ?_; intro J hJ; simp only []; simp [f11, hQl]; (repeat refine ca ?_); (try ((try with_reducible refine ⟨?_, ?_⟩) <;> (try with_reducible intro hnil) <;> refine hJ _ _ ?_ <;> clear hJ J <;> simp only [ak, reduceIte] <;> try subst hnil)))
  (repeat (first | refine awp_seq ?_ | refine awp_block ?_))
  (refine w_e [] ?_; intro J hJ; simp only []; simp [f11, hQl, hslc]; (repeat refine ca ?_); (try ((try with_reducible refine ⟨?_, ?_⟩) <;> (try with_reducible intro hnil) <;> refine hJ _ _ ?_ <;> clear hJ J <;> simp only [ak, reduceIte] <;> try subst hnil)))
  refine awp_seq ?_
  refine awp_cut1 (fun f s' => s' = s ∧ f 1 = u from' ∧ f 2 = u to ∧ f 3 = th ∧ f 9 = .mp Mn ∧ f 10 = .mp Ma ∧ f 11 = .qu tq (o + 1) Q.length (us Q) ∧ f 12 = u v ∧ (f 50 = .nil ∧ row = [] ∨ f 50 = .sl 0 row.length (us row)) ∧ f 51 = i row.length ∧ f 52 = i (0 : Nat)) ?_ ?_
  · clear hJJ
    unfold nbLV at hrow
    rw [hrw] at hrow
    by_cases hr0 : row = []
    · rw [if_pos hr0] at hrow
      (repeat' (first | refine awp_seq ?_ | refine awp_block ?_ | ((first | refine awp_skip ?_ | refine awp_exit ?_); simp only [ak, reduceIte]) | (refine awp_ret ?_; simp only [ak, reduceIte]; simp [f9, hPn, hrow]) | (refine awp_cond ?_; simp [f9, hPn, hrow]; (try with_reducible refine ⟨?_, ?_⟩) <;> (try with_reducible intro hc) <;> try (exfalso; omega)) | ((first | (refine w_e [] ?_; intro J hJ; simp only []) | (refine w_q ?_; intro J hJ) | refine e_go ?_); simp [f9, hPn, hrow]; (repeat refine ca ?_); (try ((try with_reducible refine ⟨?_, ?_⟩) <;> (try with_reducible intro hnil) <;> refine hJ _ _ ?_ <;> clear hJ J <;> simp only [ak, reduceIte] <;> try subst hnil)))))
      simp [f1, f2, f3, f9, f10, hr0]
    · rw [if_neg hr0] at hrow
      (repeat' (first | refine awp_seq ?_ | refine awp_block ?_ | ((first | refine awp_skip ?_ | refine awp_exit ?_); simp only [ak, reduceIte]) | (refine awp_ret ?_; simp only [ak, reduceIte]; simp [f9, hPn, hrow]) | (refine awp_cond ?_; simp [f9, hPn, hrow]; (try with_reducible refine ⟨?_, ?_⟩) <;> (try with_reducible intro hc) <;> try (exfalso; omega)) | ((first | (refine w_e [] ?_; intro J hJ; simp only []) | (refine w_q ?_; intro J hJ) | refine e_go ?_); simp [f9, hPn, hrow]; (repeat refine ca ?_); (try ((try with_reducible refine ⟨?_, ?_⟩) <;> (try with_reducible intro hnil) <;> refine hJ _ _ ?_ <;> clear hJ J <;> simp only [ak, reduceIte] <;> try subst hnil)))))
      simp [f1, f2, f3, f9, f10]
  clear f1 f2 f3 f9 f10 f11 fr hrow
  rintro fr s' ⟨rfl, f1, f2, f3, f9, f10, f11, f12, f50, f51, f52⟩
  refine awp_block ?_
  refine awp_range 52 51 53 84 row.length (fun j fr st2 => fr 1 = u from' ∧ fr 2 = u to ∧ fr 3 = th ∧ fr 9 = .mp Mn ∧ fr 10 = .mp Ma ∧ fr 12 = u v ∧ (fr 50 = .nil ∧ row = [] ∨ fr 50 = .sl 0 row.length (us row)) ∧ (scanL may to v ⟨A, Q, false⟩ (row.take j)).hit = false ∧ ∃ tq o, fr 11 = .qu tq o (scanL may to v ⟨A, Q, false⟩ (row.take j)).Q.length (us (scanL may to v ⟨A, Q, false⟩ (row.take j)).Q) ∧ PaB st (scanL may to v ⟨A, Q, false⟩ (row.take j)).A (scanL may to v ⟨A, Q, false⟩ (row.take j)).Q Ma Mn tq o es st2) ?_ ?_ ?_ (hti := f52) (htn := f51)
  · refine ⟨f1, f2, f3, f9, f10, f12, f50, rfl, tq, o + 1, f11, ⟨hPa, hPn, ?_, ⟨b1, b2, b3, b4, b5, b6, b7, b8⟩, hkp⟩⟩
    rw [hPq]
    simp only [List.take_zero, scanL, List.foldl_nil, List.length_cons]
    congr 1
    omega
  · clear f1 f2 f3 f9 f10 f11 f12 f50 f51 f52 hPa hPn hPq b1 b2 b3 b4 b5 b6 b7 b8 hkp fr hJJ
    rintro j fr s hlt ⟨f1, f2, f3, f9, f10, f12, f50, hh, tq, o, f11, hPa, hPn, hPq, ⟨b1, b2, b3, b4, b5, b6, b7, b8⟩, hkp⟩ fi fn J hJ
    have f50 : fr 50 = .sl 0 row.length (us row) := by
      rcases f50 with ⟨_, h⟩ | h
      · rw [h] at hlt; simp at hlt
      · exact h
    have hd := us_drop_getD row j hlt
    have htk : row.take (j + 1) = row.take j ++ [row.getD j 0] := by
      rw [List.getD_eq_getElem?_getD, List.getElem?_eq_getElem hlt]; exact List.take_succ_eq_append_getElem hlt
    have hsc := scanL_snoc may to v ⟨A, Q, false⟩ (row.take j) (row.getD j 0)
    rw [← htk] at hsc
    have hsl := scanL_len may to v ⟨A, Q, false⟩ (row.take j)
    simp only [List.length_take] at hsl
    have hfull : (scanL may to v ⟨A, Q, false⟩ (row.take (j + 1))).hit = true → scanL may to v ⟨A, Q, false⟩ row = scanL may to v ⟨A, Q, false⟩ (row.take (j + 1)) := by
      intro h
      have : row = row.take (j + 1) ++ row.drop (j + 1) := (List.take_append_drop _ _).symm
      rw [this, scanL, List.foldl_append]
      have h2 := scanL_hit may to v h (row.drop (j + 1))
      simp only [scanL] at h2 ⊢
      rw [h2]
      simp
    generalize row.getD j 0 = x at *
    generalize hS : scanL may to v ⟨A, Q, false⟩ (row.take j) = S at *
    obtain ⟨SA, SQ, Sh⟩ := S
    simp only at hh f11 hPa hPq hsl
    subst hh
    have hmg := mget_led SA x
    have hqa : ¬ tq = Ma := box_ne hPq hPa (by simp)
    have hqn : ¬ tq = Mn := box_ne hPq hPn (by simp)
    have hqa' : ¬ Ma = tq := fun h => hqa h.symm
    have hqn' : ¬ Mn = tq := fun h => hqn h.symm
    by_cases hin : x ∈ SA.map (·.1)
    · obtain ⟨y, hy⟩ := ledBy_some hin
      rw [hy] at hmg
      simp only [Option.map_some] at hmg
      have h1 : scan1 may to v ⟨SA, SQ, false⟩ x = ⟨SA, SQ, false⟩ := by simp [scan1, hin]
      rw [h1] at hsc
      (repeat' (first | refine awp_seq ?_ | refine awp_block ?_ | ((first | refine awp_skip ?_ | refine awp_exit ?_); simp only [ak, reduceIte]) | (refine awp_ret ?_; simp only [ak, reduceIte]; simp [f10, f50, fi, fn, hd, hlt, hPa, hmg]) | (refine awp_cond ?_; simp [f10, f50, fi, fn, hd, hlt, hPa, hmg]; (try with_reducible refine ⟨?_, ?_⟩) <;> (try with_reducible intro hc) <;> try (exfalso; omega)) | ((first | (refine w_e [] ?_; intro J hJ; simp only []) | (refine w_q ?_; intro J hJ) | refine e_go ?_); simp [f10, f50, fi, fn, hd, hlt, hPa, hmg]; (repeat refine ca ?_); (try ((try with_reducible refine ⟨?_, ?_⟩) <;> (try with_reducible intro hnil) <;> refine hJ _ _ ?_ <;> clear hJ J <;> simp only [ak, reduceIte] <;> try subst hnil)))))
      refine hJ _ _ (by simp [fi]) (by simp [fn]) ⟨by simp [f1], by simp [f2], by simp [f3], by simp [f9], by simp [f10], by simp [f12], .inr (by simp [f50]), by rw [hsc], tq, o, by rw [hsc]; simp [f11], by rw [hsc]; exact ⟨hPa, hPn, hPq, ⟨b1, b2, b3, b4, b5, b6, b7, b8⟩, hkp⟩⟩
    rw [ledBy_none hin] at hmg
    simp only [Option.map_none] at hmg
    have hms : mset (ledL SA) [x] (u v) = ledL (SA ++ [(x, v)]) := mset_led hin
    by_cases hxt : x = to
    · clear hJ
      subst hxt
      have h1 : scan1 may x v ⟨SA, SQ, false⟩ x = ⟨SA ++ [(x, v)], SQ, true⟩ := by unfold scan1; rw [if_neg (by simp), if_neg hin, if_pos rfl]
      rw [h1] at hsc
      have hf2 := hfull (by rw [hsc])
      rw [hf2, hsc] at hb
      simp only [if_true, Option.some.injEq] at hb
      subst hb
      rcases hR0 with ⟨h, _⟩ | ⟨A2, l', h, hbk, rfl⟩
      · cases h
      injection h with h
      subst h
      (repeat' (first | refine awp_seq ?_ | refine awp_block ?_ | ((first | refine awp_skip ?_ | refine awp_exit ?_); simp only [ak, reduceIte]) | (refine awp_ret ?_; simp only [ak, reduceIte]; simp [f1, f2, f10, f12, f50, fi, fn, hd, hlt, hPa, hmg, hms]) | (refine awp_cond ?_; simp [f1, f2, f10, f12, f50, fi, fn, hd, hlt, hPa, hmg, hms]; (try with_reducible refine ⟨?_, ?_⟩) <;> (try with_reducible intro hc) <;> try (exfalso; omega)) | ((first | (refine w_e [] ?_; intro J hJ; simp only []) | (refine w_q ?_; intro J hJ) | refine e_go ?_); simp [f1, f2, f10, f12, f50, fi, fn, hd, hlt, hPa, hmg, hms]; (repeat refine ca ?_); (try ((try with_reducible refine ⟨?_, ?_⟩) <;> (try with_reducible intro hnil) <;> refine hJ _ _ ?_ <;> clear hJ J <;> simp only [ak, reduceIte] <;> try subst hnil)))))
      refine callK_ofE (back (SA ++ [(x, v)]) Ma from' x n l' _ (by omega) hbk (by simp; exact b4) (by simp)) (by simp) ?_; rintro r s4 ⟨rfl, hk4⟩
      (repeat' (first | refine awp_seq ?_ | refine awp_block ?_ | ((first | refine awp_skip ?_ | refine awp_exit ?_); simp only [ak, reduceIte]) | (refine awp_ret ?_; simp only [ak, reduceIte]; simp []) | (refine awp_cond ?_; simp []; (try with_reducible refine ⟨?_, ?_⟩) <;> (try with_reducible intro hc) <;> try (exfalso; omega)) | ((first | (refine w_e [] ?_; intro J hJ; simp only []) | (refine w_q ?_; intro J hJ) | refine e_go ?_); simp []; (repeat refine ca ?_); (try ((try with_reducible refine ⟨?_, ?_⟩) <;> (try with_reducible intro hnil) <;> refine hJ _ _ ?_ <;> clear hJ J <;> simp only [ak, reduceIte] <;> try subst hnil)))))
      refine ⟨by simp only [z0]; congr 1; have := z0_us (x :: l').reverse; simpa using this, ?_⟩
      exact (hkp.set b1 _).trans hk4
    have h1 : scan1 may to v ⟨SA, SQ, false⟩ x = ⟨SA ++ [(x, v)], if may x = true then SQ ++ [x] else SQ, false⟩ := by unfold scan1; rw [if_neg (by simp), if_neg hin, if_neg hxt]
    rw [h1] at hsc
    have tn0 : ¬ tq = s.next := by omega
    have hQ2 : SQ.length ≤ 3000000 := by simp only [List.length_cons] at hQ; omega
    have hT2 : ∀ m s', s'.H Ma = .map false [.u32] (ledL (SA ++ [(x, v)])) → s'.H Mn = .map false [.u32] es → s'.H m = .que 41 (0 + (SQ ++ [x]).length) → st.next ≤ m → m < s'.next → s.next ≤ s'.next → Keeps st s' → PaB st (SA ++ [(x, v)]) (SQ ++ [x]) Ma Mn m 0 es s' := fun m s' h1 h2 h3 h4 h5 h6 h7 => ⟨h1, h2, h3, ⟨b1, b2, h4, by omega, by omega, h5, by omega, b8⟩, h7⟩
    have hT1 : ∀ s', s'.H Ma = .map false [.u32] (ledL (SA ++ [(x, v)])) → s'.H Mn = .map false [.u32] es → s'.H tq = .que 41 (o + SQ.length) → s.next ≤ s'.next → Keeps st s' → PaB st (SA ++ [(x, v)]) SQ Ma Mn tq o es s' := fun s' h1 h2 h3 h6 h7 => ⟨h1, h2, h3, ⟨b1, b2, b3, by omega, by omega, by omega, b7, b8⟩, h7⟩
    rcases hm with ⟨rfl, hm⟩ | ⟨f, caps, rfl, hcaps, hm⟩
    · rw [if_pos (hm x)] at hsc
      (repeat' (first | refine awp_seq ?_ | refine awp_block ?_ | ((first | refine awp_skip ?_ | refine awp_exit ?_); simp only [ak, reduceIte]) | (refine awp_ret ?_; simp only [ak, reduceIte]; simp [f1, f2, f3, f10, f11, f12, f50, fi, fn, hd, hlt, hPa, hmg, hms, hxt, hPq, hqa, hqn, hqa', hqn', tn0]) | (refine awp_cond ?_; simp [f1, f2, f3, f10, f11, f12, f50, fi, fn, hd, hlt, hPa, hmg, hms, hxt, hPq, hqa, hqn, hqa', hqn', tn0]; (try with_reducible refine ⟨?_, ?_⟩) <;> (try with_reducible intro hc) <;> try (exfalso; omega)) | ((first | (refine w_e [] ?_; intro J hJ; simp only []) | (refine w_q ?_; intro J hJ) | refine e_go ?_); simp [f1, f2, f3, f10, f11, f12, f50, fi, fn, hd, hlt, hPa, hmg, hms, hxt, hPq, hqa, hqn, hqa', hqn', tn0]; (repeat refine ca ?_); (try ((try with_reducible refine ⟨?_, ?_⟩) <;> (try with_reducible intro hnil) <;> refine hJ _ _ ?_ <;> clear hJ J <;> simp only [ak, reduceIte] <;> try subst hnil)))))
      refine hJ _ _ (by simp [fi]) (by simp [fn]) ⟨by simp [f1], by simp [f2], by simp [f3], by simp [f9], by simp [f10], by simp [f12], .inr (by simp [f50]), by rw [hsc], s.next + 1, 0, by rw [hsc]; simp, ?_⟩
      rw [hsc]
      refine hT2 _ _ (by (repeat (first | rw [new_H, if_neg (α := LObj) (by (try simp only [set_next, new_next]); omega)] | rw [set_H, if_neg (α := LObj) (by omega)] | rw [new_H, if_pos (α := LObj) (by (try simp only [set_next, new_next]))] | rw [set_H, if_pos (α := LObj) (by omega)]))) (by (repeat (first | rw [new_H, if_neg (α := LObj) (by (try simp only [set_next, new_next]); omega)] | rw [set_H, if_neg (α := LObj) (by omega)] | rw [new_H, if_pos (α := LObj) (by (try simp only [set_next, new_next]))] | rw [set_H, if_pos (α := LObj) (by omega)])); exact hPn) (by (repeat (first | rw [new_H, if_neg (α := LObj) (by (try simp only [set_next, new_next]); omega)] | rw [set_H, if_neg (α := LObj) (by omega)] | rw [new_H, if_pos (α := LObj) (by (try simp only [set_next, new_next]))] | rw [set_H, if_pos (α := LObj) (by omega)])); simp) (by omega) (by simp) (by simp; omega) ?_
      exact ((((hkp.set b1 _).trans (Keeps.new _ _)).set b3 _).trans (Keeps.new _ _))
    · (repeat' (first | refine awp_seq ?_ | refine awp_block ?_ | ((first | refine awp_skip ?_ | refine awp_exit ?_); simp only [ak, reduceIte]) | (refine awp_ret ?_; simp only [ak, reduceIte]; simp [f1, f2, f3, f10, f11, f12, f50, fi, fn, hd, hlt, hPa, hmg, hms, hxt]) | (refine awp_cond ?_; simp [f1, f2, f3, f10, f11, f12, f50, fi, fn, hd, hlt, hPa, hmg, hms, hxt]; (try with_reducible refine ⟨?_, ?_⟩) <;> (try with_reducible intro hc) <;> try (exfalso; omega)) | ((first | (refine w_e [] ?_; intro J hJ; simp only []) | (refine w_q ?_; intro J hJ) | refine e_go ?_); simp [f1, f2, f3, f10, f11, f12, f50, fi, fn, hd, hlt, hPa, hmg, hms, hxt]; (repeat refine ca ?_); (try ((try with_reducible refine ⟨?_, ?_⟩) <;> (try with_reducible intro hnil) <;> refine hJ _ _ ?_ <;> clear hJ J <;> simp only [ak, reduceIte] <;> try subst hnil)))))
      have hkz : Keeps st (s.set Ma (.map false [.u32] (ledL (SA ++ [(x, v)])))) := hkp.set b1 _
      refine callK_ofE (hm x _ hkz) (by simp [hcaps]) ?_; rintro r s4 ⟨rfl, hk4⟩
      have hn4 := hk4.next
      simp only [set_next] at hn4
      have hPa4 : s4.H Ma = .map false [.u32] (ledL (SA ++ [(x, v)])) := by rw [hk4.H Ma (by simp; exact b4)]; simp
      have hPn4 : s4.H Mn = .map false [.u32] es := by rw [hk4.H Mn (by simp; exact b5)]; simp [b8, hPn]
      have hPq4 : s4.H tq = .que 41 (o + SQ.length) := by rw [hk4.H tq (by simp; exact b6)]; simp [hqa, hPq]
      have tn4 : ¬ tq = s4.next := by omega
      cases hmy : may x
      · rw [hmy, if_neg (by simp)] at hsc
        (repeat' (first | refine awp_seq ?_ | refine awp_block ?_ | ((first | refine awp_skip ?_ | refine awp_exit ?_); simp only [ak, reduceIte]) | (refine awp_ret ?_; simp only [ak, reduceIte]; simp [f11]) | (refine awp_cond ?_; simp [f11]; (try with_reducible refine ⟨?_, ?_⟩) <;> (try with_reducible intro hc) <;> try (exfalso; omega)) | ((first | (refine w_e [] ?_; intro J hJ; simp only []) | (refine w_q ?_; intro J hJ) | refine e_go ?_); simp [f11]; (repeat refine ca ?_); (try ((try with_reducible refine ⟨?_, ?_⟩) <;> (try with_reducible intro hnil) <;> refine hJ _ _ ?_ <;> clear hJ J <;> simp only [ak, reduceIte] <;> try subst hnil)))))
        refine hJ _ _ (by simp [fi]) (by simp [fn]) ⟨by simp [f1], by simp [f2], by simp [f3], by simp [f9], by simp [f10], by simp [f12], .inr (by simp [f50]), by rw [hsc], tq, o, by rw [hsc]; simp [f11], ?_⟩
        rw [hsc]
        exact hT1 _ hPa4 hPn4 hPq4 hn4 (hkz.trans hk4)
      · rw [hmy, if_pos rfl] at hsc
        (repeat' (first | refine awp_seq ?_ | refine awp_block ?_ | ((first | refine awp_skip ?_ | refine awp_exit ?_); simp only [ak, reduceIte]) | (refine awp_ret ?_; simp only [ak, reduceIte]; simp [f11, hPq4, tn4]) | (refine awp_cond ?_; simp [f11, hPq4, tn4]; (try with_reducible refine ⟨?_, ?_⟩) <;> (try with_reducible intro hc) <;> try (exfalso; omega)) | ((first | (refine w_e [] ?_; intro J hJ; simp only []) | (refine w_q ?_; intro J hJ) | refine e_go ?_); simp [f11, hPq4, tn4]; (repeat refine ca ?_); (try ((try with_reducible refine ⟨?_, ?_⟩) <;> (try with_reducible intro hnil) <;> refine hJ _ _ ?_ <;> clear hJ J <;> simp only [ak, reduceIte] <;> try subst hnil)))))
        refine hJ _ _ (by simp [fi]) (by simp [fn]) ⟨by simp [f1], by simp [f2], by simp [f3], by simp [f9], by simp [f10], by simp [f12], .inr (by simp [f50]), by rw [hsc], s4.next + 1, 0, by rw [hsc]; simp, ?_⟩
        rw [hsc]
        refine hT2 _ _ (by (repeat (first | rw [new_H, if_neg (α := LObj) (by (try simp only [set_next, new_next]); omega)] | rw [set_H, if_neg (α := LObj) (by omega)] | rw [new_H, if_pos (α := LObj) (by (try simp only [set_next, new_next]))] | rw [set_H, if_pos (α := LObj) (by omega)])); exact hPa4) (by (repeat (first | rw [new_H, if_neg (α := LObj) (by (try simp only [set_next, new_next]); omega)] | rw [set_H, if_neg (α := LObj) (by omega)] | rw [new_H, if_pos (α := LObj) (by (try simp only [set_next, new_next]))] | rw [set_H, if_pos (α := LObj) (by omega)])); exact hPn4) (by (repeat (first | rw [new_H, if_neg (α := LObj) (by (try simp only [set_next, new_next]); omega)] | rw [set_H, if_neg (α := LObj) (by omega)] | rw [new_H, if_pos (α := LObj) (by (try simp only [set_next, new_next]))] | rw [set_H, if_pos (α := LObj) (by omega)])); simp) (by omega) (by simp) (by simp; omega) ?_
        exact ((((hkz.trans hk4).trans (Keeps.new _ _)).set b3 _).trans (Keeps.new _ _))
  · rintro fr s ⟨f1, f2, f3, f9, f10, f12, f50, hh, tq, o, f11, hB⟩
    rw [List.take_length] at hh f11 hB
    rw [if_neg (by rw [hh]; simp)] at hb
    have hsl := scanL_len may to v ⟨A, Q, false⟩ row
    simp only at hsl
    simp only [ak]
    refine hJJ k _ _ (by omega) ⟨_, _, tq, o, hb, by omega, by simp only [List.length_cons] at hQ; omega, by simp [f1], by simp [f2], by simp [f3], by simp [f9], by simp [f10], by simp [f11], hB⟩

end Go.Proofs.YtomfeddgeihipaaGreat.Aw

namespace Go.Proofs.YtomfeddgeihipaaGreat.Aw
open Go Go.RowKit Go.Proofs.YtomfeddgeihipaaGreat.Pl
set_option linter.unusedSimpArgs false
set_option linter.unusedVariables false

/-- A table's entry: a key, its count. -/
def IsKn (p : List Int × LV) (k n : Int) : Prop := p = ([k], i n) ∧ (-40000 ≤ k ∧ k ≤ 40000) ∧ (0 ≤ n ∧ n ≤ 1000)
def keyOf (p : List Int × LV) : Int := p.1.headD 0
def cntOf (p : List Int × LV) : Int := match p.2 with | .atom (.int _ n) => n | _ => 0
theorem IsKn.eqs {p : List Int × LV} {k n : Int} (h : IsKn p k n) : keyOf p = k ∧ cntOf p = n := by
  obtain ⟨rfl, _⟩ := h; exact ⟨rfl, rfl⟩
/-- Each key times its count. -/
def sumL : List (List Int × LV) → Int
  | [] => 0
  | p :: L => keyOf p * cntOf p + sumL L
theorem sumL_mid (L1 : List (List Int × LV)) (p : List Int × LV) (L2 : List (List Int × LV)) : sumL (L1 ++ p :: L2) = keyOf p * cntOf p + sumL (L1 ++ L2) := by
  induction L1 with
  | nil => rfl
  | cons q L1 ih => simp only [List.cons_append, sumL, ih]; omega
theorem wrap_si (n : Int) (h0 : -9223372036854775808 ≤ n) (h1 : n ≤ 9223372036854775807) : IntKind.i64.wrap n = n := by
  simp only [IntKind.wrap, IntKind.signed, IntKind.bits]
  simp
  split <;> omega
theorem kn_mul {k n : Int} (hk : -40000 ≤ k ∧ k ≤ 40000) (hn : 0 ≤ n ∧ n ≤ 1000) : -40000000 ≤ k * n ∧ k * n ≤ 40000000 := by
  have h1 : k * n ≤ 40000 * n := Int.mul_le_mul_of_nonneg_right hk.2 hn.1
  have h2 : -40000 * n ≤ k * n := Int.mul_le_mul_of_nonneg_right hk.1 hn.1
  omega

def SumI (st : St) (m : Nat) (es : List (List Int × LV)) (L : List (List Int × LV)) (fr : Frm) (st2 : St) : Prop := (∀ p ∈ L, ∃ k n, IsKn p k n) ∧ L.length ≤ es.length ∧ st2 = st.set m .dead ∧ ∃ s : Int, fr 3 = i s ∧ s + sumL L = sumL es ∧ -(40000000 * ((es.length : Int) - L.length)) ≤ s ∧ s ≤ 40000000 * ((es.length : Int) - L.length)
theorem sSum (m : Nat) (es : List (List Int × LV)) (st : St) (hm : st.H m = .map false [.i64] es) (hes : ∀ p ∈ es, ∃ k n, IsKn p k n) (hl : es.length ≤ 1000) :
    ACalls Tryz.prog 19 [.mp m] st fun r st' => r = i (sumL es) ∧ st' = st := by
  have hst : (st.set m .dead).set m (.map false [.i64] es) = st := St.ext' rfl fun y => by by_cases hy : y = m <;> simp [hy, hm]
  refine acalls_of_body tabOk Tryz.func19 rfl rfl Tryz.ntmps19 (rs := [.tmp 2]) rfl (by simp) ?_
  refine awp_seq ?_
  (refine w_e [] ?_; intro J hJ; simp only []; simp []; (repeat refine ca ?_); (try ((try with_reducible refine ⟨?_, ?_⟩) <;> (try with_reducible intro hnil) <;> refine hJ _ _ ?_ <;> clear hJ J <;> simp only [ak, reduceIte] <;> try subst hnil)))
  refine awp_seq ?_
  (refine w_e [] ?_; intro J hJ; simp only []; simp []; (repeat refine ca ?_); (try ((try with_reducible refine ⟨?_, ?_⟩) <;> (try with_reducible intro hnil) <;> refine hJ _ _ ?_ <;> clear hJ J <;> simp only [ak, reduceIte] <;> try subst hnil)))
  refine awp_seq ?_
  refine awp_mapRange tabOk [] (SumI st m es) (by simp) hm ?_ ?_ ?_ Tryz.underlying25
  · intro r
    exact ⟨hes, Nat.le_refl _, rfl, 0, by simp, by omega, by omega, by omega⟩
  · rintro r L1 p L2 fr st2 ⟨hp, hL, rfl, s, f3, hs, hb1, hb2⟩ ft J hJ
    obtain ⟨k, n, hkn⟩ := hp p (by simp)
    have hmid := sumL_mid L1 p L2
    obtain ⟨e1, e2⟩ := hkn.eqs
    rw [e1, e2] at hmid
    obtain ⟨rfl, hk, hn⟩ := hkn
    have hkn2 := kn_mul hk hn
    have w1 : IntKind.i64.wrap (k * n) = k * n := wrap_si _ (by omega) (by omega)
    simp only [List.length_append, List.length_cons] at hL hb1 hb2
    have w2 : IntKind.i64.wrap (s + k * n) = s + k * n := wrap_si _ (by omega) (by omega)
    have hJ2 : ∀ fr', fr' 3 = i (s + k * n) → fr' 7 = itr r → J fr' (st.set m .dead) := fun fr' g1 g2 => hJ _ _ ⟨fun q hq => hp q (by simp only [List.mem_append, List.mem_cons] at hq ⊢; rcases hq with h | h; exact .inl h; exact .inr (.inr h)), by simp only [List.length_append]; omega, rfl, s + k * n, g1, by rw [hmid] at hs; omega, by simp only [List.length_append]; omega, by simp only [List.length_append]; omega⟩ g2
    refine e_go ?_
    simp [keyV, mkC]
    (repeat' (first | refine awp_seq ?_ | refine awp_block ?_ | ((first | refine awp_skip ?_ | refine awp_exit ?_); simp only [ak, reduceIte]) | (refine awp_ret ?_; simp only [ak, reduceIte]; simp [f3, w1, w2]) | (refine awp_cond ?_; simp [f3, w1, w2]; (try with_reducible refine ⟨?_, ?_⟩) <;> (try with_reducible intro hc) <;> try (exfalso; omega)) | ((first | (refine w_e [] ?_; intro J hJ; simp only []) | (refine w_q ?_; intro J hJ) | refine e_go ?_); simp [f3, w1, w2]; (repeat refine ca ?_); (try ((try with_reducible refine ⟨?_, ?_⟩) <;> (try with_reducible intro hnil) <;> refine hJ _ _ ?_ <;> clear hJ J <;> simp only [ak, reduceIte] <;> try subst hnil)))))
    exact hJ2 _ (by simp) (by simp [ft])
  · rintro fr st2 ⟨-, -, rfl, s, f3, hs, -, -⟩
    rw [hst]
    have hs : s = sumL es := by simpa [sumL] using hs
    subst hs
    simp only [ak]
    (repeat' (first | refine awp_seq ?_ | refine awp_block ?_ | ((first | refine awp_skip ?_ | refine awp_exit ?_); simp only [ak, reduceIte]) | (refine awp_ret ?_; simp only [ak, reduceIte]; simp [f3]) | (refine awp_cond ?_; simp [f3]; (try with_reducible refine ⟨?_, ?_⟩) <;> (try with_reducible intro hc) <;> try (exfalso; omega)) | ((first | (refine w_e [] ?_; intro J hJ; simp only []) | (refine w_q ?_; intro J hJ) | refine e_go ?_); simp [f3]; (repeat refine ca ?_); (try ((try with_reducible refine ⟨?_, ?_⟩) <;> (try with_reducible intro hnil) <;> refine hJ _ _ ?_ <;> clear hJ J <;> simp only [ak, reduceIte] <;> try subst hnil)))))

end Go.Proofs.YtomfeddgeihipaaGreat.Aw

namespace Go.Proofs.YtomfeddgeihipaaGreat.Aw
open Go Go.RowKit Go.Proofs.YtomfeddgeihipaaGreat.Pl
set_option linter.unusedSimpArgs false
set_option linter.unusedVariables false

/-- The keys that are counted. -/
def nzk (L : List (List Int × LV)) : List Int := (L.filter fun p => decide (cntOf p ≠ 0)).map keyOf
theorem nzk_len (L : List (List Int × LV)) : (nzk L).length ≤ L.length := by unfold nzk; rw [List.length_map]; exact List.length_filter_le _ _
theorem nzk_mid (L1 : List (List Int × LV)) (p : List Int × LV) (L2 : List (List Int × LV)) : (nzk (L1 ++ p :: L2)).Perm ((if cntOf p ≠ 0 then [keyOf p] else []) ++ nzk (L1 ++ L2)) := by
  unfold nzk
  rw [List.filter_append, List.filter_cons, List.filter_append]
  by_cases h : cntOf p ≠ 0
  · rw [if_pos h, if_pos (by simpa using h)]
    simp only [List.map_append, List.map_cons, List.cons_append, List.nil_append]
    exact List.perm_middle
  · rw [if_neg h, if_neg (by simpa using h)]
    simp

structure KeysI (st : St) (m : Nat) (es L : List (List Int × LV)) (fr : Frm) (st2 : St) : Prop where
  kn : ∀ p ∈ L, ∃ k n, IsKn p k n
  len : L.length ≤ es.length
  row : ∃ q A, fr 3 = .ms q 0 A.length ∧ st2.H q = .box 3 1 (I.us A) ∧ (st.next ≤ q ∧ q < st2.next) ∧ (A ++ nzk L).Perm (nzk es) ∧ A.length + L.length ≤ es.length
  hid : st2.H m = .dead ∧ ∀ l, l < st.next → l ≠ m → st2.H l = st.H l
theorem sKeys (m : Nat) (es : List (List Int × LV)) (st : St) (hm : st.H m = .map false [.i64] es) (hml : m < st.next) (hes : ∀ p ∈ es, ∃ k n, IsKn p k n) (hl : es.length ≤ 1000) :
    ACalls Tryz.prog 22 [.mp m] st fun r st' => (∃ c : List Int, r = .sl 0 c.length (I.us c) ∧ c.Pairwise (· ≤ ·) ∧ c.Perm (nzk es)) ∧ Keeps st st' := by
  have hmn : m ≠ st.next := by omega
  have hnk := nzk_len es
  refine acalls_freeze ?_
  refine acalls_of_body tabOk Tryz.func22 rfl rfl Tryz.ntmps22 (rs := [.tmp 2]) rfl (by simp) ?_
  refine awp_seq ?_
  (refine w_e [] ?_; intro J hJ; simp only []; simp []; (repeat refine ca ?_); (try ((try with_reducible refine ⟨?_, ?_⟩) <;> (try with_reducible intro hnil) <;> refine hJ _ _ ?_ <;> clear hJ J <;> simp only [ak, reduceIte] <;> try subst hnil)))
  refine awp_seq ?_
  (refine w_e [] ?_; intro J hJ; simp only []; simp []; (repeat refine ca ?_); (try ((try with_reducible refine ⟨?_, ?_⟩) <;> (try with_reducible intro hnil) <;> refine hJ _ _ ?_ <;> clear hJ J <;> simp only [ak, reduceIte] <;> try subst hnil)))
  refine awp_seq ?_
  refine awp_ownM 3 3 1 (by simp) ?_
  refine awp_mapRange tabOk [] (KeysI st m es) (m := m) (ag := false) (ks := [.i64]) (es := es) (by simp) (by rw [new_H, if_neg hmn]; exact hm) ?_ ?_ ?_ Tryz.underlying25
  · intro r
    refine ⟨hes, Nat.le_refl _, ⟨st.next, [], by simp, by simp [hmn.symm], ⟨Nat.le_refl _, by simp⟩, by simp, by simp⟩, by simp, fun l h1 h2 => by rw [set_H, if_neg h2, new_H, if_neg (by omega)]⟩
  · rintro r L1 p L2 fr st2 ⟨hp, hL, ⟨q, A, f3, hq, ⟨hq1, hq2⟩, hpm, hlen⟩, hd1, hd2⟩ ft J hJ
    obtain ⟨k, n, hkn⟩ := hp p (by simp)
    have hmid := nzk_mid L1 p L2
    obtain ⟨e1, e2⟩ := hkn.eqs
    rw [e1, e2] at hmid
    obtain ⟨rfl, hk, hn⟩ := hkn
    have hp' : ∀ q ∈ L1 ++ L2, ∃ k n, IsKn q k n := fun q hq => hp q (by simp only [List.mem_append, List.mem_cons] at hq ⊢; rcases hq with h | h; exact .inl h; exact .inr (.inr h))
    simp only [List.length_append, List.length_cons] at hL hlen
    have hqm : m ≠ q := by rintro rfl; rw [hd1] at hq; cases hq
    refine e_go ?_
    simp [keyV, mkC]
    by_cases h0 : n = 0
    · have hJ2 : ∀ fr', fr' 3 = fr 3 → fr' 7 = itr r → J fr' st2 := fun fr' g1 g2 => hJ _ _ ⟨hp', by simp only [List.length_append]; omega, ⟨q, A, g1.trans f3, hq, ⟨hq1, hq2⟩, by rw [if_neg (by simpa using h0)] at hmid; exact (List.Perm.append_left A hmid).symm.trans hpm, by simp only [List.length_append]; omega⟩, hd1, hd2⟩ g2
      (repeat' (first | refine awp_seq ?_ | refine awp_block ?_ | ((first | refine awp_skip ?_ | refine awp_exit ?_); simp only [ak, reduceIte]) | (refine awp_ret ?_; simp only [ak, reduceIte]; simp [h0]) | (refine awp_cond ?_; simp [h0]; (try with_reducible refine ⟨?_, ?_⟩) <;> (try with_reducible intro hc) <;> try (exfalso; omega)) | ((first | (refine w_e [] ?_; intro J hJ; simp only []) | (refine w_q ?_; intro J hJ) | refine e_go ?_); simp [h0]; (repeat refine ca ?_); (try ((try with_reducible refine ⟨?_, ?_⟩) <;> (try with_reducible intro hnil) <;> refine hJ _ _ ?_ <;> clear hJ J <;> simp only [ak, reduceIte] <;> try subst hnil)))))
      exact hJ2 _ (by simp) (by simp [ft])
    · have h0b : (n != 0) = true := by simpa using h0
      have hqn : ¬ q = st2.next := by omega
      have hJ2 : ∀ fr' st', fr' 3 = .ms (st2.next + 1) 0 (A ++ [k]).length → st'.H (st2.next + 1) = .box 3 1 (I.us (A ++ [k])) → st2.next + 1 < st'.next → st'.H m = .dead → (∀ l, l < st.next → l ≠ m → st'.H l = st.H l) → fr' 7 = itr r → J fr' st' := fun fr' st' g1 g2 g3 g4 g5 g6 => hJ _ _ ⟨hp', by simp only [List.length_append]; omega, ⟨_, _, g1, g2, ⟨by omega, g3⟩, by rw [if_pos h0] at hmid; rw [List.append_assoc]; exact (List.Perm.append_left A hmid).symm.trans hpm, by simp only [List.length_append, List.length_singleton]; omega⟩, g4, g5⟩ g6
      (repeat' (first | refine awp_seq ?_ | refine awp_block ?_ | ((first | refine awp_skip ?_ | refine awp_exit ?_); simp only [ak, reduceIte]) | (refine awp_ret ?_; simp only [ak, reduceIte]; simp [h0b, f3, hq, hqn]) | (refine awp_cond ?_; simp [h0b, f3, hq, hqn]; (try with_reducible refine ⟨?_, ?_⟩) <;> (try with_reducible intro hc) <;> try (exfalso; omega)) | ((first | (refine w_e [] ?_; intro J hJ; simp only []) | (refine w_q ?_; intro J hJ) | refine e_go ?_); simp [h0b, f3, hq, hqn]; (repeat refine ca ?_); (try ((try with_reducible refine ⟨?_, ?_⟩) <;> (try with_reducible intro hnil) <;> refine hJ _ _ ?_ <;> clear hJ J <;> simp only [ak, reduceIte] <;> try subst hnil)))))
      refine hJ2 _ _ (by simp) (by simp) (by simp) ?_ ?_ (by simp [ft])
      · rw [new_H, if_neg (by simp only [set_next, new_next]; omega), set_H, if_neg hqm, new_H, if_neg (by omega)]; exact hd1
      · intro l h1 h2
        rw [new_H, if_neg (by simp only [set_next, new_next]; omega), set_H, if_neg (by omega), new_H, if_neg (by omega)]; exact hd2 l h1 h2
  · rintro fr st2 ⟨-, -, ⟨q, A, f3, hq, ⟨hq1, hq2⟩, hpm, hlen⟩, hd1, hd2⟩
    simp only [ak]
    have hpm : A.Perm (nzk es) := by simpa [nzk] using hpm
    have hAl := hpm.length_eq
    have hqm : q ≠ m := by omega
    have hK : Keeps st (st2.set m (.map false [.i64] es)) := ⟨by rw [set_next]; omega, fun l h1 => by
      by_cases e : l = m
      · subst e; rw [set_H, if_pos rfl]; exact hm.symm
      · rw [set_H, if_neg e]; exact hd2 l h1 e⟩
    have hq' : (st2.set m (.map false [.i64] es)).H q = .box 3 1 (I.us A) := by rw [set_H, if_neg hqm]; exact hq
    have hqn : q < (st2.set m (.map false [.i64] es)).next := by rw [set_next]; exact hq2
    generalize st2.set m (.map false [.i64] es) = s2 at *
    (repeat' (first | refine awp_seq ?_ | refine awp_block ?_ | ((first | refine awp_skip ?_ | refine awp_exit ?_); simp only [ak, reduceIte]) | (refine awp_ret ?_; simp only [ak, reduceIte]; simp [f3]) | (refine awp_cond ?_; simp [f3]; (try with_reducible refine ⟨?_, ?_⟩) <;> (try with_reducible intro hc) <;> try (exfalso; omega)) | ((first | (refine w_e [] ?_; intro J hJ; simp only []) | (refine w_q ?_; intro J hJ) | refine e_go ?_); simp [f3]; (repeat refine ca ?_); (try ((try with_reducible refine ⟨?_, ?_⟩) <;> (try with_reducible intro hnil) <;> refine hJ _ _ ?_ <;> clear hJ J <;> simp only [ak, reduceIte] <;> try subst hnil)))))
    refine callK_ofE (I.SortU A q s2 (by omega) hqn hq') (by simp) ?_; rintro r s3 ⟨c, hc, hcp, hcs, hof⟩
    have hcl := hcp.length_eq
    (repeat' (first | refine awp_seq ?_ | refine awp_block ?_ | ((first | refine awp_skip ?_ | refine awp_exit ?_); simp only [ak, reduceIte]) | (refine awp_ret ?_; simp only [ak, reduceIte]; simp [f3]) | (refine awp_cond ?_; simp [f3]; (try with_reducible refine ⟨?_, ?_⟩) <;> (try with_reducible intro hc) <;> try (exfalso; omega)) | ((first | (refine w_e [] ?_; intro J hJ; simp only []) | (refine w_q ?_; intro J hJ) | refine e_go ?_); simp [f3]; (repeat refine ca ?_); (try ((try with_reducible refine ⟨?_, ?_⟩) <;> (try with_reducible intro hnil) <;> refine hJ _ _ ?_ <;> clear hJ J <;> simp only [ak, reduceIte] <;> try subst hnil)))))
    refine ⟨q, _, ⟨rfl, rfl⟩, _, _, _, hc, by simp [hcl], ⟨c, ?_, hcs, hcp.trans hpm⟩, ?_⟩
    · rw [List.take_of_length_le (by simp [hcl]), hcl]
      exact ⟨rfl, rfl⟩
    · have hK3 : Keeps st s3 := ⟨by have := hof.1; have := hK.next; omega, fun l hl => (hof.2 l (by omega) (by have := hK.next; omega)).trans (hK.H l hl)⟩
      exact hK3.set hq1 _

theorem sTop (m : Nat) (es : List (List Int × LV)) (st : St) (hm : st.H m = .map false [.i64] es) (hml : m < st.next) (hes : ∀ p ∈ es, ∃ k n, IsKn p k n) (hl : es.length ≤ 1000) :
    ACalls Tryz.prog 20 [.mp m] st fun r st' => (∃ c : List Int, r = i (c.getLast?.getD 0) ∧ c.Pairwise (· ≤ ·) ∧ c.Perm (nzk es)) ∧ Keeps st st' := by
  have hnk := nzk_len es
  refine acalls_of_body tabOk Tryz.func20 rfl rfl Tryz.ntmps20 (rs := [.tmp 2]) rfl (by simp) ?_
  (repeat' (first | refine awp_seq ?_ | refine awp_block ?_ | ((first | refine awp_skip ?_ | refine awp_exit ?_); simp only [ak, reduceIte]) | (refine awp_ret ?_; simp only [ak, reduceIte]; simp []) | (refine awp_cond ?_; simp []; (try with_reducible refine ⟨?_, ?_⟩) <;> (try with_reducible intro hc) <;> try (exfalso; omega)) | ((first | (refine w_e [] ?_; intro J hJ; simp only []) | (refine w_q ?_; intro J hJ) | refine e_go ?_); simp []; (repeat refine ca ?_); (try ((try with_reducible refine ⟨?_, ?_⟩) <;> (try with_reducible intro hnil) <;> refine hJ _ _ ?_ <;> clear hJ J <;> simp only [ak, reduceIte] <;> try subst hnil)))))
  refine callK_ofE (sKeys m es st hm hml hes hl) (by simp) ?_; rintro r s1 ⟨⟨c, rfl, hcs, hcp⟩, hk1⟩
  have hcl := hcp.length_eq
  rcases List.eq_nil_or_concat c with rfl | ⟨d, x, rfl⟩
  · (repeat' (first | refine awp_seq ?_ | refine awp_block ?_ | ((first | refine awp_skip ?_ | refine awp_exit ?_); simp only [ak, reduceIte]) | (refine awp_ret ?_; simp only [ak, reduceIte]; simp []) | (refine awp_cond ?_; simp []; (try with_reducible refine ⟨?_, ?_⟩) <;> (try with_reducible intro hc) <;> try (exfalso; omega)) | ((first | (refine w_e [] ?_; intro J hJ; simp only []) | (refine w_q ?_; intro J hJ) | refine e_go ?_); simp []; (repeat refine ca ?_); (try ((try with_reducible refine ⟨?_, ?_⟩) <;> (try with_reducible intro hnil) <;> refine hJ _ _ ?_ <;> clear hJ J <;> simp only [ak, reduceIte] <;> try subst hnil)))))
    exact ⟨⟨[], rfl, hcs, hcp⟩, hk1⟩
  · rw [List.concat_eq_append] at *
    have hdl : (I.us (d ++ [x])).drop d.length = [I.u x] := by simp [I.us]
    have hll : (d ++ [x]).length = d.length + 1 := by simp
    have w1 : IntKind.i64.wrap (d.length : Int) = (d.length : Int) := wrap_si _ (by omega) (by omega)
    have hlast : ((d ++ [x]).getLast?.getD 0) = x := by simp
    rw [hll]
    (repeat' (first | refine awp_seq ?_ | refine awp_block ?_ | ((first | refine awp_skip ?_ | refine awp_exit ?_); simp only [ak, reduceIte]) | (refine awp_ret ?_; simp only [ak, reduceIte]; simp [w1, hdl]) | (refine awp_cond ?_; simp [w1, hdl]; (try with_reducible refine ⟨?_, ?_⟩) <;> (try with_reducible intro hc) <;> try (exfalso; omega)) | ((first | (refine w_e [] ?_; intro J hJ; simp only []) | (refine w_q ?_; intro J hJ) | refine e_go ?_); simp [w1, hdl]; (repeat refine ca ?_); (try ((try with_reducible refine ⟨?_, ?_⟩) <;> (try with_reducible intro hnil) <;> refine hJ _ _ ?_ <;> clear hJ J <;> simp only [ak, reduceIte] <;> try subst hnil)))))
    exact ⟨⟨d ++ [x], by rw [hlast], hcs, hcp⟩, hk1⟩

end Go.Proofs.YtomfeddgeihipaaGreat.Aw

namespace Go.Proofs.YtomfeddgeihipaaGreat.Aw
open Go Go.RowKit Go.Proofs.YtomfeddgeihipaaGreat.Pl
set_option linter.unusedSimpArgs false
set_option linter.unusedVariables false

/-- A table whose counts are at most B, no key twice. -/
structure TabB (B : Int) (es : List (List Int × LV)) : Prop where
  kn : ∀ p ∈ es, ∃ k n, p = ([k], i n) ∧ (-40000 ≤ k ∧ k ≤ 40000) ∧ (0 ≤ n ∧ n ≤ B)
  nd : (es.map (·.1)).Nodup
theorem TabB.isKn {B : Int} {es : List (List Int × LV)} (h : TabB B es) (hB : B ≤ 1000) : ∀ p ∈ es, ∃ k n, IsKn p k n := fun p hp => by
  obtain ⟨k, n, h1, h2, h3⟩ := h.kn p hp
  exact ⟨k, n, h1, h2, h3.1, by omega⟩
def cntM (es : List (List Int × LV)) (k : Int) : Int := cntOf ([k], (mget es [k]).getD (i 0))
/-- One more of a key. -/
def add1 (es : List (List Int × LV)) (k : Int) : List (List Int × LV) := mset es [k] (i (cntM es k + 1))
theorem cntM_get {B : Int} {es : List (List Int × LV)} (h : TabB B es) (hB : 0 ≤ B) (k : Int) : (mget es [k]).getD (i 0) = i (cntM es k) ∧ 0 ≤ cntM es k ∧ cntM es k ≤ B := by
  have : ∀ es : List (List Int × LV), (∀ p ∈ es, ∃ k n, p = ([k], i n) ∧ (-40000 ≤ k ∧ k ≤ 40000) ∧ (0 ≤ n ∧ n ≤ B)) → mget es [k] = none ∨ ∃ n, mget es [k] = some (i n) ∧ 0 ≤ n ∧ n ≤ B := by
    intro es
    induction es with
    | nil => exact fun _ => .inl rfl
    | cons p es ih =>
      intro h
      obtain ⟨k', n, rfl, _, hn⟩ := h p (by simp)
      unfold mget
      by_cases e : ([k] == [k']) = true
      · simp only [e, if_true]; exact .inr ⟨n, rfl, hn⟩
      · simp only [e, if_false]; exact ih fun q hq => h q (by simp [hq])
  unfold cntM
  rcases this es h.kn with e | ⟨n, e, h1, h2⟩
  · rw [e]; exact ⟨rfl, Int.le_refl _, hB⟩
  · rw [e]; exact ⟨rfl, h1, h2⟩
theorem mset_mem (es : List (List Int × LV)) (a : List Int) (v : LV) (p : List Int × LV) (h : p ∈ mset es a v) : p = (a, v) ∨ p ∈ es := by
  induction es with
  | nil => simp [mset] at h; exact .inl h
  | cons q es ih =>
    unfold mset at h
    split at h
    · rcases List.mem_cons.1 h with h | h
      · exact .inl h
      · exact .inr (by simp [h])
    · rcases List.mem_cons.1 h with h | h
      · exact .inr (by simp [h])
      · rcases ih h with h | h
        · exact .inl h
        · exact .inr (by simp [h])
theorem mset_keys (es : List (List Int × LV)) (a : List Int) (v : LV) (h : (es.map (·.1)).Nodup) : ((mset es a v).map (·.1)).Nodup ∧ ∀ x, x ∈ (mset es a v).map (·.1) → x = a ∨ x ∈ es.map (·.1) := by
  induction es with
  | nil => simp [mset]
  | cons q es ih =>
    simp only [List.map_cons, List.nodup_cons] at h
    obtain ⟨i1, i2⟩ := ih h.2
    unfold mset
    by_cases e : a = q.1
    · rw [if_pos (by simpa using e)]
      subst e
      exact ⟨by simp only [List.map_cons, List.nodup_cons]; exact h, fun x hx => .inr (by simpa using hx)⟩
    · rw [if_neg (by simpa using e)]
      refine ⟨?_, fun x hx => ?_⟩
      · simp only [List.map_cons, List.nodup_cons]
        refine ⟨fun hx => ?_, i1⟩
        rcases i2 _ hx with h1 | h1
        · exact e h1.symm
        · exact h.1 h1
      · rcases List.mem_cons.1 (by simpa using hx : x ∈ q.1 :: (mset es a v).map (·.1)) with h1 | h1
        · exact .inr (by simp [h1])
        · rcases i2 _ h1 with h2 | h2
          · exact .inl h2
          · exact .inr (by simp only [List.map_cons, List.mem_cons]; exact .inr h2)
theorem TabB.add {B : Int} {es : List (List Int × LV)} (h : TabB B es) (hB : 0 ≤ B) {k : Int} (hk : -40000 ≤ k ∧ k ≤ 40000) : TabB (B + 1) (add1 es k) := by
  obtain ⟨_, c1, c2⟩ := cntM_get h hB k
  refine ⟨fun p hp => ?_, (mset_keys es _ _ h.nd).1⟩
  rcases mset_mem _ _ _ _ hp with rfl | hp
  · exact ⟨k, _, rfl, hk, by omega, by omega⟩
  · obtain ⟨k', n, h1, h2, h3⟩ := h.kn p hp
    exact ⟨k', n, h1, h2, h3.1, by omega⟩
theorem sumL_add (es : List (List Int × LV)) (k : Int) (hkn : ∀ p ∈ es, ∃ k n, p = (([k] : List Int), i n)) : sumL (add1 es k) = sumL es + k := by
  unfold add1
  have : ∀ es : List (List Int × LV), (∀ p ∈ es, ∃ k n, p = (([k] : List Int), i n)) → sumL (mset es [k] (i (cntM es k + 1))) = sumL es + k := by
    intro es
    induction es with
    | nil =>
      intro _
      simp [mset, sumL, keyOf, cntOf, cntM, mget]
    | cons p es ih =>
      intro h
      obtain ⟨k', n, rfl⟩ := h p (by simp)
      unfold mset
      by_cases e : k = k'
      · subst e
        simp only [beq_self_eq_true, if_true, sumL]
        have hc : cntM (([k], i n) :: es) k = n := by simp [cntM, mget, cntOf]
        rw [hc]
        have e1 : keyOf ([k], i (n + 1)) = k := rfl
        have e2 : cntOf ([k], i (n + 1)) = n + 1 := rfl
        have e3 : keyOf ([k], i n) = k := rfl
        have e4 : cntOf ([k], i n) = n := rfl
        rw [e1, e2, e3, e4, Int.mul_add]; omega
      · have hb : ([k] == [k']) = false := by simpa using e
        have hc : cntM (([k'], i n) :: es) k = cntM es k := by simp only [cntM, mget, hb, Bool.false_eq_true, if_false]
        simp only [hb, Bool.false_eq_true, if_false, sumL]
        rw [hc, ih fun q hq => h q (by simp [hq])]
        omega
  exact this es hkn

def addAll (es : List (List Int × LV)) (l : List Int) : List (List Int × LV) := l.foldl add1 es
theorem sAdd (m : Nat) (es : List (List Int × LV)) (l : List Int) (t : Nat) (B : Int) (st : St) (hm : st.H m = .map false [.i64] es) (hB : 0 ≤ B ∧ B ≤ 1000000) (hT : TabB B es) (hl : l.length ≤ 1000) (hk : ∀ k ∈ l, -40000 ≤ k ∧ k ≤ 40000) :
    ACalls Tryz.prog 16 [.mp m, .sl t l.length (I.us l)] st fun r st' => st' = st.set m (.map false [.i64] (addAll es l)) ∧ TabB (B + l.length) (addAll es l) := by
  have hself : st = st.set m (.map false [.i64] es) := St.ext' rfl fun y => by by_cases hy : y = m <;> simp [hy, hm]
  refine acalls_of_body tabOk Tryz.func16 rfl rfl Tryz.ntmps16 (rs := []) rfl (by simp) ?_
  (repeat (refine awp_seq ?_))
  refine awp_mapNil (.mp m) false (by simp) (mp_notNil m) Tryz.underlying25 ?_
  simp only [ak]
  (repeat' (first | refine awp_seq ?_ | refine awp_block ?_ | ((first | refine awp_skip ?_ | refine awp_exit ?_); simp only [ak, reduceIte]) | (refine awp_ret ?_; simp only [ak, reduceIte]; simp []) | (refine awp_cond ?_; simp []; (try with_reducible refine ⟨?_, ?_⟩) <;> (try with_reducible intro hc) <;> try (exfalso; omega)) | ((first | (refine w_e [] ?_; intro J hJ; simp only []) | (refine w_q ?_; intro J hJ) | refine e_go ?_); simp []; (repeat refine ca ?_); (try ((try with_reducible refine ⟨?_, ?_⟩) <;> (try with_reducible intro hnil) <;> refine hJ _ _ ?_ <;> clear hJ J <;> simp only [ak, reduceIte] <;> try subst hnil)))))
  refine awp_range 10 9 11 18 (l.length) (fun j fr st2 => fr 0 = .mp m ∧ fr 8 = .sl t l.length (I.us l) ∧ st2 = st.set m (.map false [.i64] (addAll es (l.take j))) ∧ TabB (B + j) (addAll es (l.take j))) ?_ ?_ ?_
  · exact ⟨by simp, by simp, by simpa [addAll] using hself, by simpa [addAll] using hT⟩
  · rintro j fr s hlt ⟨f0, f8, rfl, hT⟩ fi fn JJ hJJ
    have hd := I.us_drop_getD l j hlt
    have hkj := hk (l.getD j 0) (by rw [List.getD_eq_getElem?_getD, List.getElem?_eq_getElem hlt]; exact List.getElem_mem _)
    have htk : addAll es (l.take (j + 1)) = add1 (addAll es (l.take j)) (l.getD j 0) := by
      unfold addAll
      rw [show l.take (j + 1) = l.take j ++ [l.getD j 0] by rw [List.getD_eq_getElem?_getD, List.getElem?_eq_getElem hlt]; exact List.take_succ_eq_append_getElem hlt, List.foldl_append]; rfl
    have hT2 := hT.add (by omega) hkj
    rw [← htk] at hT2
    have hcg := cntM_get hT (by omega) (l.getD j 0)
    generalize l.getD j 0 = x at *
    have ha1 : add1 (addAll es (l.take j)) x = mset (addAll es (l.take j)) [x] (i (cntM (addAll es (l.take j)) x + 1)) := rfl
    generalize addAll es (l.take j) = E at *
    obtain ⟨g1, g2, g3⟩ := hcg
    generalize cntM E x = cx at *
    have w1 : IntKind.i64.wrap (cx + 1) = cx + 1 := wrap_si _ (by omega) (by omega)
    (repeat' (first | refine awp_seq ?_ | refine awp_block ?_ | ((first | refine awp_skip ?_ | refine awp_exit ?_); simp only [ak, reduceIte]) | (refine awp_ret ?_; simp only [ak, reduceIte]; simp [f0, f8, fi, fn, hlt, hd, g1, w1]) | (refine awp_cond ?_; simp [f0, f8, fi, fn, hlt, hd, g1, w1]; (try with_reducible refine ⟨?_, ?_⟩) <;> (try with_reducible intro hc) <;> try (exfalso; omega)) | ((first | (refine w_e [] ?_; intro J hJ; simp only []) | (refine w_q ?_; intro J hJ) | refine e_go ?_); simp [f0, f8, fi, fn, hlt, hd, g1, w1]; (repeat refine ca ?_); (try ((try with_reducible refine ⟨?_, ?_⟩) <;> (try with_reducible intro hnil) <;> refine hJ _ _ ?_ <;> clear hJ J <;> simp only [ak, reduceIte] <;> try subst hnil)))))
    refine hJJ _ _ (by simp [fi]) (by simp [fn]) ⟨by simp [f0], by simp [f8], ?_, by rw [show B + ((j + 1 : Nat) : Int) = B + j + 1 by omega]; exact hT2⟩
    rw [St.set_set, htk, ha1]
  · rintro fr s ⟨f0, f8, rfl, hT⟩
    rw [List.take_length] at hT ⊢
    (repeat' (first | refine awp_seq ?_ | refine awp_block ?_ | ((first | refine awp_skip ?_ | refine awp_exit ?_); simp only [ak, reduceIte]) | (refine awp_ret ?_; simp only [ak, reduceIte]; simp []) | (refine awp_cond ?_; simp []; (try with_reducible refine ⟨?_, ?_⟩) <;> (try with_reducible intro hc) <;> try (exfalso; omega)) | ((first | (refine w_e [] ?_; intro J hJ; simp only []) | (refine w_q ?_; intro J hJ) | refine e_go ?_); simp []; (repeat refine ca ?_); (try ((try with_reducible refine ⟨?_, ?_⟩) <;> (try with_reducible intro hnil) <;> refine hJ _ _ ?_ <;> clear hJ J <;> simp only [ak, reduceIte] <;> try subst hnil)))))
    exact ⟨trivial, rfl, hT⟩

end Go.Proofs.YtomfeddgeihipaaGreat.Aw

namespace Go.Proofs.YtomfeddgeihipaaGreat.Aw
open Go Go.RowKit Go.Proofs.YtomfeddgeihipaaGreat.Pl
set_option linter.unusedSimpArgs false
set_option linter.unusedVariables false

theorem KeepZ (g : Gr) (f : FuncId) (caps : List LV) (p : Ed → Bool) (st : St) (hv : g.vs.length ≤ 1000) (he : g.es.length ≤ 1000) (hp : TestE f caps st g.es p) :
    ACalls Tryz.prog 63 [.ag (grL g), .fn (.func f) caps] st fun r st' => r = .ag (grL ⟨g.vs, g.es.filter p⟩) ∧ Keeps st st' := by
  refine acalls_z0 ((Keep g f caps p st hv he hp).mono ?_)
  rintro r st' ⟨⟨X, rfl, hX⟩, hk⟩
  refine ⟨?_, hk⟩
  simp only [z0, z0L, z0_us]
  congr 1
  rcases hX with ⟨rfl, h⟩ | ⟨t, rfl⟩
  · rw [h]; simp [z0]
  · simp only [z0, z0_edsB]

theorem Girth_1 (x o : Ed) (q : Nat) (st : St) (hq : st.H q = .box 43 3 (edL x)) (hqn : q < st.next) :
    ACalls Tryz.prog 117 [.ag (edL o), .pt q 0] st fun r st' => r = bb (decide (o.id ≠ x.id)) ∧ Keeps st st' := by
  obtain ⟨d, a, b⟩ := x
  obtain ⟨d', a', b'⟩ := o
  have a1 : ¬ q = st.next := by omega
  refine acalls_of_body tabOk Tryz.func117 rfl rfl Tryz.ntmps117 (rs := [.tmp 3]) rfl (by simp) ?_
  by_cases h : d' = d
  · (repeat' (first | refine awp_seq ?_ | refine awp_block ?_ | ((first | refine awp_skip ?_ | refine awp_exit ?_); simp only [ak, reduceIte]) | (refine awp_ret ?_; simp only [ak, reduceIte]; simp [hq, a1, h]) | (refine awp_cond ?_; simp [hq, a1, h]; (try with_reducible refine ⟨?_, ?_⟩) <;> (try with_reducible intro hc) <;> try (exfalso; omega)) | ((first | (refine w_e [] ?_; intro J hJ; simp only []) | (refine w_q ?_; intro J hJ) | refine e_go ?_); simp [hq, a1, h]; (repeat refine ca ?_); (try ((try with_reducible refine ⟨?_, ?_⟩) <;> (try with_reducible intro hnil) <;> refine hJ _ _ ?_ <;> clear hJ J <;> simp only [ak, reduceIte] <;> try subst hnil)))))
    exact Keeps.new _ _
  · (repeat' (first | refine awp_seq ?_ | refine awp_block ?_ | ((first | refine awp_skip ?_ | refine awp_exit ?_); simp only [ak, reduceIte]) | (refine awp_ret ?_; simp only [ak, reduceIte]; simp [hq, a1, h]) | (refine awp_cond ?_; simp [hq, a1, h]; (try with_reducible refine ⟨?_, ?_⟩) <;> (try with_reducible intro hc) <;> try (exfalso; omega)) | ((first | (refine w_e [] ?_; intro J hJ; simp only []) | (refine w_q ?_; intro J hJ) | refine e_go ?_); simp [hq, a1, h]; (repeat refine ca ?_); (try ((try with_reducible refine ⟨?_, ?_⟩) <;> (try with_reducible intro hnil) <;> refine hJ _ _ ?_ <;> clear hJ J <;> simp only [ak, reduceIte] <;> try subst hnil)))))
    exact Keeps.new _ _

def lessE (es : List Ed) (x : Ed) : List Ed := es.filter fun o => decide (o.id ≠ x.id)
/-- The fewest edges of a ring, by ways around each edge; none: the strength n is too little. -/
def girthL (g : Gr) (n : Nat) : Int → List Ed → Option Int
  | least, [] => some least
  | least, x :: xs => match pathF g.vs (nearF (lessE g.es x)) (fun _ => true) x.a x.b n with
    | some l => girthL g n (if 0 < l.length ∧ (least = 0 ∨ (l.length : Int) < least) then l.length else least) xs
    | none => none
theorem pathF_len {vs : List Int} {near : Int → List Int} {may : Int → Bool} {a b : Int} {n : Nat} {l : List Int} (h : pathF vs near may a b n = some l) : l.length ≤ n + 1 := by
  unfold pathF at h
  split at h
  · injection h with h; subst h; simp
  · split at h
    · injection h with h; subst h; simp
    · split at h
      · injection h with h; subst h; simp
      · rw [Option.map_eq_some_iff] at h
        obtain ⟨l', h1, rfl⟩ := h
        have := backF_len h1
        simp only [List.length_reverse, List.length_cons]; omega
      · cases h

set_option maxHeartbeats 1000000 in
theorem Girth (g : Gr) (n : Nat) (r : Int) (st : St) (hv : g.vs.length ≤ 1000) (he : g.es.length ≤ 1000) (hn : n ≤ 1000) (hg : girthL g n 0 g.es = some r) :
    ACalls Tryz.prog 75 [.ag (grL g)] st fun r' st' => r' = i r ∧ Keeps st st' := by
  have hel := eds_length g.es
  refine acalls_of_body tabOk Tryz.func75 rfl rfl Tryz.ntmps75 (rs := [.tmp 2]) rfl (by simp) ?_
  (repeat' (first | refine awp_seq ?_ | refine awp_block ?_ | ((first | refine awp_skip ?_ | refine awp_exit ?_); simp only [ak, reduceIte]) | (refine awp_ret ?_; simp only [ak, reduceIte]; simp []) | (refine awp_cond ?_; simp []; (try with_reducible refine ⟨?_, ?_⟩) <;> (try with_reducible intro hc) <;> try (exfalso; omega)) | ((first | (refine w_e [] ?_; intro J hJ; simp only []) | (refine w_q ?_; intro J hJ) | refine e_go ?_); simp []; (repeat refine ca ?_); (try ((try with_reducible refine ⟨?_, ?_⟩) <;> (try with_reducible intro hnil) <;> refine hJ _ _ ?_ <;> clear hJ J <;> simp only [ak, reduceIte] <;> try subst hnil)))))
  refine awp_range 11 10 12 37 (g.es.length) (fun j fr st2 => fr 1 = .pt st.next 0 ∧ fr 9 = .sl 0 g.es.length (eds g.es) ∧ st2.H st.next = .box 38 2 (grL g) ∧ st.next < st2.next ∧ Keeps st st2 ∧ ∃ least : Int, fr 3 = i least ∧ girthL g n least (g.es.drop j) = some r ∧ 0 ≤ least ∧ least ≤ 2000) ?_ ?_ ?_
  · exact ⟨by simp, by simp, by simp, by simp, Keeps.new _ _, 0, by simp, hg, by omega, by omega⟩
  · rintro j fr s hlt ⟨f1, f9, hG, hsn, hkp, least, f3, hgl, hl0, hl1⟩ fi fn JO hJO
    have hd := eds_drop g.es j hlt
    have hdr : g.es.drop j = g.es.getD j ed0 :: g.es.drop (j + 1) := by
      rw [List.getD_eq_getElem?_getD, List.getElem?_eq_getElem hlt]; exact List.drop_eq_getElem_cons hlt
    rw [hdr] at hgl
    have hk3 : j * 3 < g.es.length * 3 := by omega
    generalize g.es.getD j ed0 = x at *
    simp only [girthL] at hgl
    cases hp : pathF g.vs (nearF (lessE g.es x)) (fun _ => true) x.a x.b n with
    | none => rw [hp] at hgl; cases hgl
    | some l =>
    rw [hp] at hgl
    simp only at hgl
    have hll := pathF_len hp
    have e1 : ¬ st.next = s.next := by omega
    (repeat' (first | refine awp_seq ?_ | refine awp_block ?_ | ((first | refine awp_skip ?_ | refine awp_exit ?_); simp only [ak, reduceIte]) | (refine awp_ret ?_; simp only [ak, reduceIte]; simp [f1, f9, fi, fn, hd, hel, hlt, hk3, hG, e1]) | (refine awp_cond ?_; simp [f1, f9, fi, fn, hd, hel, hlt, hk3, hG, e1]; (try with_reducible refine ⟨?_, ?_⟩) <;> (try with_reducible intro hc) <;> try (exfalso; omega)) | ((first | (refine w_e [] ?_; intro J hJ; simp only []) | (refine w_q ?_; intro J hJ) | refine e_go ?_); simp [f1, f9, fi, fn, hd, hel, hlt, hk3, hG, e1]; (repeat refine ca ?_); (try ((try with_reducible refine ⟨?_, ?_⟩) <;> (try with_reducible intro hnil) <;> refine hJ _ _ ?_ <;> clear hJ J <;> simp only [ak, reduceIte] <;> try subst hnil)))))
    refine callK_ofE (KeepZ g _ _ (fun o => decide (o.id ≠ x.id)) _ hv he (fun o ho s2 hs2 => Girth_1 x o s.next s2 (by rw [hs2.H _ (by simp)]; simp) (by have := hs2.next; simp at this; omega))) (by simp) ?_; rintro r s3 ⟨rfl, hk3⟩
    have hn3 := hk3.next
    simp only [new_next] at hn3
    have hG3 : s3.H st.next = .box 38 2 (grL g) := by rw [hk3.H _ (by simp; omega)]; simp [e1, hG]
    have hX3 : s3.H s.next = .box 43 3 (edL x) := by rw [hk3.H _ (by simp)]; simp
    have hkp3 : Keeps st s3 := (hkp.trans (Keeps.new _ _)).trans hk3
    have e2 : ¬ s.next = s3.next := by omega
    have e3 : ¬ st.next = s3.next := by omega
    have hfl := List.length_filter_le (fun o : Ed => decide (o.id ≠ x.id)) g.es
    (repeat' (first | refine awp_seq ?_ | refine awp_block ?_ | ((first | refine awp_skip ?_ | refine awp_exit ?_); simp only [ak, reduceIte]) | (refine awp_ret ?_; simp only [ak, reduceIte]; simp [hX3, e2, e3]) | (refine awp_cond ?_; simp [hX3, e2, e3]; (try with_reducible refine ⟨?_, ?_⟩) <;> (try with_reducible intro hc) <;> try (exfalso; omega)) | ((first | (refine w_e [] ?_; intro J hJ; simp only []) | (refine w_q ?_; intro J hJ) | refine e_go ?_); simp [hX3, e2, e3]; (repeat refine ca ?_); (try ((try with_reducible refine ⟨?_, ?_⟩) <;> (try with_reducible intro hnil) <;> refine hJ _ _ ?_ <;> clear hJ J <;> simp only [ak, reduceIte] <;> try subst hnil)))))
    refine callK_ofE (Path ⟨g.vs, lessE g.es x⟩ x.a x.b (.atom .nilFunc) (fun _ => true) n l _ (by simp only; omega) (by simp only [lessE]; omega) hn (.inl ⟨rfl, fun _ => rfl⟩) hp) (by simp [lessE]) ?_; rintro r s4 ⟨rfl, hk4⟩
    have hn4 := hk4.next
    simp only [new_next] at hn4
    have hG4 : s4.H st.next = .box 38 2 (grL g) := by rw [hk4.H _ (by simp; omega)]; simp [e3, hG3]
    have hkp4 : Keeps st s4 := (hkp3.trans (Keeps.new _ _)).trans hk4
    have fin : ∀ (fr : Frm) (least' : Int), fr 11 = i j → fr 10 = i g.es.length → fr 1 = .pt st.next 0 → fr 9 = .sl 0 g.es.length (eds g.es) → fr 3 = i least' → (if 0 < l.length ∧ (least = 0 ∨ (l.length : Int) < least) then (l.length : Int) else least) = least' → JO fr s4 := by
      intro fr least' g1 g2 g3 g4 g5 g6
      rw [g6] at hgl
      refine hJO _ _ g1 g2 ⟨by simp [g3], by simp [g4], hG4, by omega, hkp4, least', by simp [g5], hgl, ?_, ?_⟩
      · rw [← g6]; split <;> omega
      · rw [← g6]; split <;> omega
    by_cases h1 : (0 : Int) < l.length
    · have h1' : 0 < l.length := by omega
      by_cases h2 : least = 0
      · subst h2
        (repeat' (first | refine awp_seq ?_ | refine awp_block ?_ | ((first | refine awp_skip ?_ | refine awp_exit ?_); simp only [ak, reduceIte]) | (refine awp_ret ?_; simp only [ak, reduceIte]; simp [f3, h1, h1']) | (refine awp_cond ?_; simp [f3, h1, h1']; (try with_reducible refine ⟨?_, ?_⟩) <;> (try with_reducible intro hc) <;> try (exfalso; omega)) | ((first | (refine w_e [] ?_; intro J hJ; simp only []) | (refine w_q ?_; intro J hJ) | refine e_go ?_); simp [f3, h1, h1']; (repeat refine ca ?_); (try ((try with_reducible refine ⟨?_, ?_⟩) <;> (try with_reducible intro hnil) <;> refine hJ _ _ ?_ <;> clear hJ J <;> simp only [ak, reduceIte] <;> try subst hnil)))))
        exact fin _ l.length (by simp [fi]) (by simp [fn]) (by simp [f1]) (by simp [f9]) (by simp) (if_pos ⟨h1', .inl rfl⟩)
      · have h2' : (least == 0) = false := by simpa using h2
        by_cases h3 : (l.length : Int) < least
        · (repeat' (first | refine awp_seq ?_ | refine awp_block ?_ | ((first | refine awp_skip ?_ | refine awp_exit ?_); simp only [ak, reduceIte]) | (refine awp_ret ?_; simp only [ak, reduceIte]; simp [f3, h1, h1', h2', h3]) | (refine awp_cond ?_; simp [f3, h1, h1', h2', h3]; (try with_reducible refine ⟨?_, ?_⟩) <;> (try with_reducible intro hc) <;> try (exfalso; omega)) | ((first | (refine w_e [] ?_; intro J hJ; simp only []) | (refine w_q ?_; intro J hJ) | refine e_go ?_); simp [f3, h1, h1', h2', h3]; (repeat refine ca ?_); (try ((try with_reducible refine ⟨?_, ?_⟩) <;> (try with_reducible intro hnil) <;> refine hJ _ _ ?_ <;> clear hJ J <;> simp only [ak, reduceIte] <;> try subst hnil)))))
          exact fin _ l.length (by simp [fi]) (by simp [fn]) (by simp [f1]) (by simp [f9]) (by simp) (if_pos ⟨h1', .inr h3⟩)
        · (repeat' (first | refine awp_seq ?_ | refine awp_block ?_ | ((first | refine awp_skip ?_ | refine awp_exit ?_); simp only [ak, reduceIte]) | (refine awp_ret ?_; simp only [ak, reduceIte]; simp [f3, h1, h1', h2', h3]) | (refine awp_cond ?_; simp [f3, h1, h1', h2', h3]; (try with_reducible refine ⟨?_, ?_⟩) <;> (try with_reducible intro hc) <;> try (exfalso; omega)) | ((first | (refine w_e [] ?_; intro J hJ; simp only []) | (refine w_q ?_; intro J hJ) | refine e_go ?_); simp [f3, h1, h1', h2', h3]; (repeat refine ca ?_); (try ((try with_reducible refine ⟨?_, ?_⟩) <;> (try with_reducible intro hnil) <;> refine hJ _ _ ?_ <;> clear hJ J <;> simp only [ak, reduceIte] <;> try subst hnil)))))
          refine fin _ least (by simp [fi]) (by simp [fn]) (by simp [f1]) (by simp [f9]) (by simp [f3]) (if_neg (by rintro ⟨_, h | h⟩ <;> first | exact h2 h | exact h3 h))
    · have h1' : ¬ 0 < l.length := by omega
      (repeat' (first | refine awp_seq ?_ | refine awp_block ?_ | ((first | refine awp_skip ?_ | refine awp_exit ?_); simp only [ak, reduceIte]) | (refine awp_ret ?_; simp only [ak, reduceIte]; simp [f3, h1, h1']) | (refine awp_cond ?_; simp [f3, h1, h1']; (try with_reducible refine ⟨?_, ?_⟩) <;> (try with_reducible intro hc) <;> try (exfalso; omega)) | ((first | (refine w_e [] ?_; intro J hJ; simp only []) | (refine w_q ?_; intro J hJ) | refine e_go ?_); simp [f3, h1, h1']; (repeat refine ca ?_); (try ((try with_reducible refine ⟨?_, ?_⟩) <;> (try with_reducible intro hnil) <;> refine hJ _ _ ?_ <;> clear hJ J <;> simp only [ak, reduceIte] <;> try subst hnil)))))
      exact fin _ least (by simp [fi]) (by simp [fn]) (by simp [f1]) (by simp [f9]) (by simp [f3]) (if_neg (by rintro ⟨h, _⟩; omega))
  · rintro fr s ⟨f1, f9, hG, hsn, hkp, least, f3, hgl, hl0, hl1⟩
    rw [List.drop_length] at hgl
    simp only [girthL, Option.some.injEq] at hgl
    subst hgl
    (repeat' (first | refine awp_seq ?_ | refine awp_block ?_ | ((first | refine awp_skip ?_ | refine awp_exit ?_); simp only [ak, reduceIte]) | (refine awp_ret ?_; simp only [ak, reduceIte]; simp [f3]) | (refine awp_cond ?_; simp [f3]; (try with_reducible refine ⟨?_, ?_⟩) <;> (try with_reducible intro hc) <;> try (exfalso; omega)) | ((first | (refine w_e [] ?_; intro J hJ; simp only []) | (refine w_q ?_; intro J hJ) | refine e_go ?_); simp [f3]; (repeat refine ca ?_); (try ((try with_reducible refine ⟨?_, ?_⟩) <;> (try with_reducible intro hnil) <;> refine hJ _ _ ?_ <;> clear hJ J <;> simp only [ak, reduceIte] <;> try subst hnil)))))
    exact hkp

end Go.Proofs.YtomfeddgeihipaaGreat.Aw
