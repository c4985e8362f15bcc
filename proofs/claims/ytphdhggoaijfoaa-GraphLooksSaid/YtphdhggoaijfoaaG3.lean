/- Graphs: Parts. -/
import Derived.Test.YtphdhggoaijfoaaPt
namespace Go.Proofs.Ytphdhggoaijfoaa.Aw
open Go Go.RowKit Go.Proofs.Ytphdhggoaijfoaa.Pl
set_option linter.unusedSimpArgs false
set_option linter.unusedVariables false

abbrev rowsL3 (rs : List (List Int)) : List LV := rs.map fun r => .sl 0 r.length (us r)

structure SrchI (g : Gr) (v : Int) (L : List Int) (k : Nat) (x : Int) (j : Nat) : Prop where
  nodup : L.Nodup
  reach : ∀ w ∈ L, Reach g.es v w
  mem : v ∈ L
  done : ∀ u ∈ L.take k, ∀ w ∈ nbr g.es u, w ∈ L
  lt : k < L.length
  at' : L.getD k 0 = x
  some : ∀ w ∈ (nbr g.es x).take j, w ∈ L
theorem Srch.start {g : Gr} {n : Nat} {v : Int} {L : List Int} {k : Nat} (h : Srch g n v L k) (hk : k < L.length) : SrchI g v L k (L.getD k 0) 0 :=
  ⟨h.nodup, h.reach, h.mem, h.done, hk, rfl, fun w hw => by simp at hw⟩
theorem SrchI.skip {g : Gr} {v : Int} {L : List Int} {k : Nat} {x : Int} {j : Nat} (h : SrchI g v L k x j) (hj : j < (nbr g.es x).length) (hw : (nbr g.es x).getD j 0 ∈ L) : SrchI g v L k x (j + 1) := by
  refine ⟨h.nodup, h.reach, h.mem, h.done, h.lt, h.at', fun w hw2 => ?_⟩
  rw [List.take_succ_eq_append_getElem hj, List.mem_append, List.mem_singleton] at hw2
  rcases hw2 with hw2 | rfl
  · exact h.some w hw2
  · rwa [getD_lt _ _ hj] at hw
theorem SrchI.push {g : Gr} {v : Int} {L : List Int} {k : Nat} {x : Int} {j : Nat} (h : SrchI g v L k x j) (hj : j < (nbr g.es x).length) (hw : (nbr g.es x).getD j 0 ∉ L) : SrchI g v (L ++ [(nbr g.es x).getD j 0]) k x (j + 1) := by
  have hx : x ∈ L := by rw [← h.at', getD_lt _ _ h.lt]; exact List.getElem_mem _
  refine ⟨?_, fun w hw2 => ?_, List.mem_append_left _ h.mem, fun u hu w hw2 => ?_, ?_, ?_, fun w hw2 => ?_⟩
  · rw [List.nodup_append]
    refine ⟨h.nodup, by simp, fun a ha b hb => ?_⟩
    rw [List.mem_singleton] at hb
    rintro rfl
    exact hw (hb ▸ ha)
  · rw [List.mem_append, List.mem_singleton] at hw2
    rcases hw2 with hw2 | rfl
    · exact h.reach w hw2
    · exact .step (h.reach x hx) (by rw [getD_lt _ _ hj]; exact List.getElem_mem _)
  · rw [List.take_append_of_le_length (by have := h.lt; omega)] at hu
    exact List.mem_append_left _ (h.done u hu w hw2)
  · have := h.lt; simp; omega
  · rw [← h.at']
    have := h.lt
    simp [List.getD_eq_getElem?_getD, List.getElem?_append_left this]
  · rw [List.take_succ_eq_append_getElem hj, List.mem_append, List.mem_singleton] at hw2
    rw [getD_lt _ _ hj]
    rcases hw2 with hw2 | rfl
    · exact List.mem_append_left _ (h.some w hw2)
    · exact List.mem_append_right _ (List.mem_singleton.2 rfl)
theorem SrchI.finish {g : Gr} {n : Nat} {v : Int} {L : List Int} {k : Nat} {x : Int} {j : Nat} (h : SrchI g v L k x j) (hj : (nbr g.es x).length ≤ j) : Srch g n v L (k + 1) := by
  refine ⟨h.nodup, h.reach, h.mem, fun u hu w hw => ?_⟩
  rw [List.take_succ_eq_append_getElem h.lt, List.mem_append, List.mem_singleton] at hu
  rcases hu with hu | rfl
  · exact h.done u hu w hw
  · have hx : L[k]'h.lt = x := (getD_lt _ _ h.lt).symm.trans h.at'
    rw [hx] at hw
    exact h.some w (by rw [List.take_of_length_le hj]; exact hw)
theorem SrchI.len {g : Gr} (hg : Good g) {v : Int} {L : List Int} {k : Nat} {x : Int} {j : Nat} (h : SrchI g v L k x j) (hv : v ∈ g.vs) : L.length ≤ g.vs.length :=
  List.Nodup.length_le_of_subset h.nodup fun w hw => hg.reach hv (h.reach w hw)

/-- Which numbers a map of 1's has. -/
def SeenI (es : List (List Int × LV)) (P : Int → Prop) : Prop := ∀ v, (P v → (mget es [v]).getD (i 0) = i 1) ∧ (¬ P v → (mget es [v]).getD (i 0) = i 0)
theorem SeenI.step {es : List (List Int × LV)} {P P' : Int → Prop} (h : SeenI es P) (w : Int) (hp : ∀ v, P' v ↔ P v ∨ v = w) : SeenI (mset es [w] (i 1)) P' := by
  intro v
  rw [mget_mset]
  by_cases hv : v = w
  · subst hv
    simp only [if_true, Option.getD_some]
    exact ⟨fun _ => by trivial, fun h1 => absurd ((hp v).2 (.inr rfl)) h1⟩
  · rw [if_neg (by simpa using hv), hp]
    exact ⟨fun h1 => (h v).1 (h1.resolve_right hv), fun h1 => (h v).2 fun h2 => h1 (.inl h2)⟩
theorem SeenI.congr {es : List (List Int × LV)} {P P' : Int → Prop} (h : SeenI es P) (hp : ∀ v, P' v ↔ P v) : SeenI es P' := fun v => by rw [hp]; exact h v

def PtF (m ms : Nat) (es : List (List Int × LV)) (n : Nat) (g : Gr) (st : St) (j : Nat) (P : Int → Prop) (fr : Frm) (st2 : St) : Prop :=
  fr 4 = .mp m ∧ fr 5 = .mp ms ∧ fr 16 = .sl 0 g.vs.length (us g.vs) ∧ fr 17 = i g.vs.length ∧ fr 18 = i j ∧ (m < ms ∧ ms < st2.next ∧ st.next ≤ m) ∧ st2.H m = .map false [.u32] es ∧ Keeps st st2 ∧ (∃ es2, st2.H ms = .map false [.u32] es2 ∧ SeenI es2 P) ∧
    ∃ t R, fr 3 = .sl t R.length (rowsL3 R) ∧ PartsTo g j R ∧ t ≠ 0 ∧ st.next ≤ t ∧ t < st2.next ∧ st2.H t = .own 27 1 R.length
def PtL (m ms : Nat) (es : List (List Int × LV)) (n : Nat) (g : Gr) (st : St) (j : Nat) (v : Int) (L : List Int) (fr : Frm) (st2 : St) : Prop :=
  PtF m ms es n g st j (fun w => Seen g j w ∨ w ∈ L) fr st2 ∧ ∃ q, fr 8 = .ms q 0 L.length ∧ st2.H q = .box 22 1 (us L) ∧ st.next ≤ q ∧ q < st2.next

theorem PtL.fr {m ms : Nat} {es : List (List Int × LV)} {n : Nat} {g : Gr} {st : St} {j : Nat} {v : Int} {L : List Int} {fr fr' : Frm} {st2 : St} (h : PtL m ms es n g st j v L fr st2) (h3 : fr' 3 = fr 3) (h4 : fr' 4 = fr 4) (h5 : fr' 5 = fr 5) (h8 : fr' 8 = fr 8) (h16 : fr' 16 = fr 16) (h17 : fr' 17 = fr 17) (h18 : fr' 18 = fr 18) : PtL m ms es n g st j v L fr' st2 := by
  obtain ⟨⟨f4, f5, f16, f17, f18, a, b, c, d, t, R, f3, r⟩, q, f8, r2⟩ := h
  exact ⟨⟨h4.trans f4, h5.trans f5, h16.trans f16, h17.trans f17, h18.trans f18, a, b, c, d, t, R, h3.trans f3, r⟩, q, h8.trans f8, r2⟩

set_option maxHeartbeats 2000000 in
theorem Parts (g : Gr) (st : St) (hg : Good g) (hv : g.vs.length ≤ 1000) (he : g.es.length ≤ 1000) :
    ACalls Try.prog 34 [.ag (grL g)] st fun r st' => (∃ t R, r = .sl t R.length (rowsL3 R) ∧ PartsTo g g.vs.length R) ∧ Keeps st st' := by
  refine acalls_of_body tabOk Try.func34 rfl rfl Try.ntmps34 (rs := [.tmp 2]) rfl (by simp) ?_
  (repeat' (first | (refine awp_seq ?_) | (refine awp_block ?_) | (refine awp_skip ?_; simp only [ak, reduceIte]) | (refine awp_exit ?_; simp only [ak, reduceIte]) | (refine awp_ret ?_; simp only [ak, reduceIte]; simp []) | (refine awp_cond ?_; simp []; (try (with_reducible refine ⟨?_, ?_⟩)) <;> (try (with_reducible intro hc)) <;> (try (exfalso; omega))) | (refine awp_regionE tabOk [] rfl ?_; intro J hJ; simp only []; simp []; (repeat (refine And.intro (by first | omega | assumption | (simp only [maxLen]; omega) | decide) ?_)); (try (first | (refine hJ _ _ ?_; clear hJ J; simp only [ak, reduceIte]) | (with_reducible refine ⟨?_, ?_⟩ <;> (first | (refine hJ _ _ ?_; clear hJ J; simp only [ak, reduceIte]) | (with_reducible intro hnil; refine hJ _ _ ?_; clear hJ J; simp only [ak, reduceIte]; (try subst hnil))))))) | (refine awp_drawQ tabOk (by kernel_rfl) (by kernel_rfl) rfl rfl ?_; intro J hJ; simp []; (repeat (refine And.intro (by first | omega | assumption | (simp only [maxLen]; omega) | decide) ?_)); (try (first | (refine hJ _ _ ?_; clear hJ J; simp only [ak, reduceIte]) | (with_reducible refine ⟨?_, ?_⟩ <;> (first | (refine hJ _ _ ?_; clear hJ J; simp only [ak, reduceIte]) | (with_reducible intro hnil; refine hJ _ _ ?_; clear hJ J; simp only [ak, reduceIte]; (try subst hnil))))))) | (refine e_go ?_; simp []; (repeat (refine And.intro (by first | omega | assumption | (simp only [maxLen]; omega) | decide) ?_)); (try (first | (refine hJ _ _ ?_; clear hJ J; simp only [ak, reduceIte]) | (with_reducible refine ⟨?_, ?_⟩ <;> (first | (refine hJ _ _ ?_; clear hJ J; simp only [ak, reduceIte]) | (with_reducible intro hnil; refine hJ _ _ ?_; clear hJ J; simp only [ak, reduceIte]; (try subst hnil)))))))))
  refine callK_ofE (near g _ he) (by simp) ?_; rintro r s1 ⟨m, es, rfl, hm1, hm2, hM, hk1, hR⟩
  have hn1 := hk1.next
  simp only [new_next] at hn1 hm1
  have hG1 : s1.H st.next = .box 41 2 (grL g) := by rw [hk1.H _ (by simp)]; simp
  have hms : ¬ st.next = s1.next := by omega
  (repeat' (first | (refine awp_seq ?_) | (refine awp_block ?_) | (refine awp_skip ?_; simp only [ak, reduceIte]) | (refine awp_exit ?_; simp only [ak, reduceIte]) | (refine awp_ret ?_; simp only [ak, reduceIte]; simp [hG1, hms]) | (refine awp_cond ?_; simp [hG1, hms]; (try (with_reducible refine ⟨?_, ?_⟩)) <;> (try (with_reducible intro hc)) <;> (try (exfalso; omega))) | (refine awp_regionE tabOk [] rfl ?_; intro J hJ; simp only []; simp [hG1, hms]; (repeat (refine And.intro (by first | omega | assumption | (simp only [maxLen]; omega) | decide) ?_)); (try (first | (refine hJ _ _ ?_; clear hJ J; simp only [ak, reduceIte]) | (with_reducible refine ⟨?_, ?_⟩ <;> (first | (refine hJ _ _ ?_; clear hJ J; simp only [ak, reduceIte]) | (with_reducible intro hnil; refine hJ _ _ ?_; clear hJ J; simp only [ak, reduceIte]; (try subst hnil))))))) | (refine awp_drawQ tabOk (by kernel_rfl) (by kernel_rfl) rfl rfl ?_; intro J hJ; simp [hG1, hms]; (repeat (refine And.intro (by first | omega | assumption | (simp only [maxLen]; omega) | decide) ?_)); (try (first | (refine hJ _ _ ?_; clear hJ J; simp only [ak, reduceIte]) | (with_reducible refine ⟨?_, ?_⟩ <;> (first | (refine hJ _ _ ?_; clear hJ J; simp only [ak, reduceIte]) | (with_reducible intro hnil; refine hJ _ _ ?_; clear hJ J; simp only [ak, reduceIte]; (try subst hnil))))))) | (refine e_go ?_; simp [hG1, hms]; (repeat (refine And.intro (by first | omega | assumption | (simp only [maxLen]; omega) | decide) ?_)); (try (first | (refine hJ _ _ ?_; clear hJ J; simp only [ak, reduceIte]) | (with_reducible refine ⟨?_, ?_⟩ <;> (first | (refine hJ _ _ ?_; clear hJ J; simp only [ak, reduceIte]) | (with_reducible intro hnil; refine hJ _ _ ?_; clear hJ J; simp only [ak, reduceIte]; (try subst hnil)))))))))
  obtain ⟨ms, hmse⟩ : ∃ ms, ms = s1.next := ⟨_, rfl⟩
  refine awp_posG fun hpos => ?_
  refine awp_own 3 27 1 (by simp) ?_
  refine awp_loop (fun z fr st2 => ∃ j : Nat, j ≤ g.vs.length ∧ z = g.vs.length - j ∧ PtF m ms es 0 g st j (Seen g j) fr st2) g.vs.length ?_ ?_
  · refine ⟨0, by omega, by omega, by simp, by simp [hmse], by simp, by simp, by simp, ⟨by omega, by simp; omega, by omega⟩, ?_, ?_, ⟨[], by simp [hmse], fun v => ⟨fun h => ?_, fun _ => rfl⟩⟩, s1.next + 1, [], by simp, .zero, by omega, by omega, by simp, by simp⟩
    · have a1 : ¬ m = s1.next + 1 := by omega
      have a2 : ¬ m = s1.next := by omega
      simp [a1, a2, hM]
    · exact (((Keeps.new _ _).trans hk1).trans (Keeps.new _ _)).trans (Keeps.new _ _)
    · obtain ⟨u, hu, _⟩ := h; simp at hu
  rintro z fr st2 ⟨j, hj, rfl, f4, f5, f16, f17, f18, ⟨hmm, hmn, hml⟩, hM2, hkp, ⟨es2, hS, hSI⟩, t, R, f3, hPT, ht0, htl, htn, htH⟩ JJ hJJ
  by_cases hlt : j < g.vs.length
  rotate_left
  · clear hJJ
    have hj' : j = g.vs.length := by omega
    rw [hj'] at hPT
    (repeat' (first | (refine awp_seq ?_) | (refine awp_block ?_) | (refine awp_skip ?_; simp only [ak, reduceIte]) | (refine awp_exit ?_; simp only [ak, reduceIte]) | (refine awp_ret ?_; simp only [ak, reduceIte]; simp [f3, f17, f18, hlt]) | (refine awp_cond ?_; simp [f3, f17, f18, hlt]; (try (with_reducible refine ⟨?_, ?_⟩)) <;> (try (with_reducible intro hc)) <;> (try (exfalso; omega))) | (refine awp_regionE tabOk [] rfl ?_; intro J hJ; simp only []; simp [f3, f17, f18, hlt]; (repeat (refine And.intro (by first | omega | assumption | (simp only [maxLen]; omega) | decide) ?_)); (try (first | (refine hJ _ _ ?_; clear hJ J; simp only [ak, reduceIte]) | (with_reducible refine ⟨?_, ?_⟩ <;> (first | (refine hJ _ _ ?_; clear hJ J; simp only [ak, reduceIte]) | (with_reducible intro hnil; refine hJ _ _ ?_; clear hJ J; simp only [ak, reduceIte]; (try subst hnil))))))) | (refine awp_drawQ tabOk (by kernel_rfl) (by kernel_rfl) rfl rfl ?_; intro J hJ; simp [f3, f17, f18, hlt]; (repeat (refine And.intro (by first | omega | assumption | (simp only [maxLen]; omega) | decide) ?_)); (try (first | (refine hJ _ _ ?_; clear hJ J; simp only [ak, reduceIte]) | (with_reducible refine ⟨?_, ?_⟩ <;> (first | (refine hJ _ _ ?_; clear hJ J; simp only [ak, reduceIte]) | (with_reducible intro hnil; refine hJ _ _ ?_; clear hJ J; simp only [ak, reduceIte]; (try subst hnil))))))) | (refine e_go ?_; simp [f3, f17, f18, hlt]; (repeat (refine And.intro (by first | omega | assumption | (simp only [maxLen]; omega) | decide) ?_)); (try (first | (refine hJ _ _ ?_; clear hJ J; simp only [ak, reduceIte]) | (with_reducible refine ⟨?_, ?_⟩ <;> (first | (refine hJ _ _ ?_; clear hJ J; simp only [ak, reduceIte]) | (with_reducible intro hnil; refine hJ _ _ ?_; clear hJ J; simp only [ak, reduceIte]; (try subst hnil)))))))))
    exact ⟨⟨t, R, ⟨rfl, rfl, rfl⟩, hPT⟩, hkp⟩
  have hd := us_drop_getD g.vs j hlt
  have hw := nat_add_one j (by omega)
  have hvin : g.vs.getD j 0 ∈ g.vs := by rw [getD_lt _ _ hlt]; exact List.getElem_mem hlt
  have hsame := @seen_same g j hlt
  have hsucc := @seen_succ g j hlt
  have hps := fun hs => PartsTo.seen hPT hlt hs
  have hpl := fun (c : List Int) hs hc => PartsTo.lead (c := c) hPT hlt hs hc
  generalize hx : g.vs.getD j 0 = v at *
  by_cases hs : Seen g j v
  · have hg1 := (hSI v).1 hs
    (repeat' (first | (refine awp_seq ?_) | (refine awp_block ?_) | (refine awp_skip ?_; simp only [ak, reduceIte]) | (refine awp_exit ?_; simp only [ak, reduceIte]) | (refine awp_ret ?_; simp only [ak, reduceIte]; simp [f5, f16, f17, f18, hlt, hd, hw, hS, hg1]) | (refine awp_cond ?_; simp [f5, f16, f17, f18, hlt, hd, hw, hS, hg1]; (try (with_reducible refine ⟨?_, ?_⟩)) <;> (try (with_reducible intro hc)) <;> (try (exfalso; omega))) | (refine awp_regionE tabOk [] rfl ?_; intro J hJ; simp only []; simp [f5, f16, f17, f18, hlt, hd, hw, hS, hg1]; (repeat (refine And.intro (by first | omega | assumption | (simp only [maxLen]; omega) | decide) ?_)); (try (first | (refine hJ _ _ ?_; clear hJ J; simp only [ak, reduceIte]) | (with_reducible refine ⟨?_, ?_⟩ <;> (first | (refine hJ _ _ ?_; clear hJ J; simp only [ak, reduceIte]) | (with_reducible intro hnil; refine hJ _ _ ?_; clear hJ J; simp only [ak, reduceIte]; (try subst hnil))))))) | (refine awp_drawQ tabOk (by kernel_rfl) (by kernel_rfl) rfl rfl ?_; intro J hJ; simp [f5, f16, f17, f18, hlt, hd, hw, hS, hg1]; (repeat (refine And.intro (by first | omega | assumption | (simp only [maxLen]; omega) | decide) ?_)); (try (first | (refine hJ _ _ ?_; clear hJ J; simp only [ak, reduceIte]) | (with_reducible refine ⟨?_, ?_⟩ <;> (first | (refine hJ _ _ ?_; clear hJ J; simp only [ak, reduceIte]) | (with_reducible intro hnil; refine hJ _ _ ?_; clear hJ J; simp only [ak, reduceIte]; (try subst hnil))))))) | (refine e_go ?_; simp [f5, f16, f17, f18, hlt, hd, hw, hS, hg1]; (repeat (refine And.intro (by first | omega | assumption | (simp only [maxLen]; omega) | decide) ?_)); (try (first | (refine hJ _ _ ?_; clear hJ J; simp only [ak, reduceIte]) | (with_reducible refine ⟨?_, ?_⟩ <;> (first | (refine hJ _ _ ?_; clear hJ J; simp only [ak, reduceIte]) | (with_reducible intro hnil; refine hJ _ _ ?_; clear hJ J; simp only [ak, reduceIte]; (try subst hnil)))))))))
    exact hJJ (g.vs.length - (j + 1)) _ _ (by omega) ⟨j + 1, by omega, rfl, by simp [f4], by simp [f5], by simp [f16], by simp [f17], by simp, ⟨hmm, hmn, hml⟩, hM2, hkp, ⟨es2, hS, hSI.congr fun w => hsame hs⟩, t, R, by simp [f3], hps hs, ht0, htl, htn, htH⟩
  have hg1 := (hSI v).2 hs
  (repeat' (first | (refine awp_seq ?_) | (refine awp_block ?_) | (refine awp_skip ?_; simp only [ak, reduceIte]) | (refine awp_exit ?_; simp only [ak, reduceIte]) | (refine awp_ret ?_; simp only [ak, reduceIte]; simp [f5, f16, f17, f18, hlt, hd, hw, hS, hg1]) | (refine awp_regionE tabOk [] rfl ?_; intro J hJ; simp only []; simp [f5, f16, f17, f18, hlt, hd, hw, hS, hg1]; (repeat (refine And.intro (by first | omega | assumption | (simp only [maxLen]; omega) | decide) ?_)); (try (first | (refine hJ _ _ ?_; clear hJ J; simp only [ak, reduceIte]) | (with_reducible refine ⟨?_, ?_⟩ <;> (first | (refine hJ _ _ ?_; clear hJ J; simp only [ak, reduceIte]) | (with_reducible intro hnil; refine hJ _ _ ?_; clear hJ J; simp only [ak, reduceIte]; (try subst hnil))))))) | (refine awp_drawQ tabOk (by kernel_rfl) (by kernel_rfl) rfl rfl ?_; intro J hJ; simp [f5, f16, f17, f18, hlt, hd, hw, hS, hg1]; (repeat (refine And.intro (by first | omega | assumption | (simp only [maxLen]; omega) | decide) ?_)); (try (first | (refine hJ _ _ ?_; clear hJ J; simp only [ak, reduceIte]) | (with_reducible refine ⟨?_, ?_⟩ <;> (first | (refine hJ _ _ ?_; clear hJ J; simp only [ak, reduceIte]) | (with_reducible intro hnil; refine hJ _ _ ?_; clear hJ J; simp only [ak, reduceIte]; (try subst hnil))))))) | (refine e_go ?_; simp [f5, f16, f17, f18, hlt, hd, hw, hS, hg1]; (repeat (refine And.intro (by first | omega | assumption | (simp only [maxLen]; omega) | decide) ?_)); (try (first | (refine hJ _ _ ?_; clear hJ J; simp only [ak, reduceIte]) | (with_reducible refine ⟨?_, ?_⟩ <;> (first | (refine hJ _ _ ?_; clear hJ J; simp only [ak, reduceIte]) | (with_reducible intro hnil; refine hJ _ _ ?_; clear hJ J; simp only [ak, reduceIte]; (try subst hnil)))))))))
  refine awp_cond ?_; simp [hlt]
  (repeat' (first | (refine awp_seq ?_) | (refine awp_block ?_) | (refine awp_skip ?_; simp only [ak, reduceIte]) | (refine awp_exit ?_; simp only [ak, reduceIte]) | (refine awp_ret ?_; simp only [ak, reduceIte]; simp [f5, f16, f17, f18, hlt, hd, hw, hS, hg1]) | (refine awp_regionE tabOk [] rfl ?_; intro J hJ; simp only []; simp [f5, f16, f17, f18, hlt, hd, hw, hS, hg1]; (repeat (refine And.intro (by first | omega | assumption | (simp only [maxLen]; omega) | decide) ?_)); (try (first | (refine hJ _ _ ?_; clear hJ J; simp only [ak, reduceIte]) | (with_reducible refine ⟨?_, ?_⟩ <;> (first | (refine hJ _ _ ?_; clear hJ J; simp only [ak, reduceIte]) | (with_reducible intro hnil; refine hJ _ _ ?_; clear hJ J; simp only [ak, reduceIte]; (try subst hnil))))))) | (refine awp_drawQ tabOk (by kernel_rfl) (by kernel_rfl) rfl rfl ?_; intro J hJ; simp [f5, f16, f17, f18, hlt, hd, hw, hS, hg1]; (repeat (refine And.intro (by first | omega | assumption | (simp only [maxLen]; omega) | decide) ?_)); (try (first | (refine hJ _ _ ?_; clear hJ J; simp only [ak, reduceIte]) | (with_reducible refine ⟨?_, ?_⟩ <;> (first | (refine hJ _ _ ?_; clear hJ J; simp only [ak, reduceIte]) | (with_reducible intro hnil; refine hJ _ _ ?_; clear hJ J; simp only [ak, reduceIte]; (try subst hnil))))))) | (refine e_go ?_; simp [f5, f16, f17, f18, hlt, hd, hw, hS, hg1]; (repeat (refine And.intro (by first | omega | assumption | (simp only [maxLen]; omega) | decide) ?_)); (try (first | (refine hJ _ _ ?_; clear hJ J; simp only [ak, reduceIte]) | (with_reducible refine ⟨?_, ?_⟩ <;> (first | (refine hJ _ _ ?_; clear hJ J; simp only [ak, reduceIte]) | (with_reducible intro hnil; refine hJ _ _ ?_; clear hJ J; simp only [ak, reduceIte]; (try subst hnil)))))))))
  refine awp_cond ?_; simp
  refine awp_skip ?_; simp only [ak, reduceIte]
  have hne1 : ¬ m = ms := by omega
  have hne2 : ¬ t = ms := fun h => by rw [h, hS] at htH; cases htH
  refine awp_seq ?_; (refine awp_regionE tabOk [] rfl ?_; intro J hJ; simp only []; simp [f5, hS]; (repeat (refine And.intro (by first | omega | assumption | (simp only [maxLen]; omega) | decide) ?_)); (try (first | (refine hJ _ _ ?_; clear hJ J; simp only [ak, reduceIte]) | (with_reducible refine ⟨?_, ?_⟩ <;> (first | (refine hJ _ _ ?_; clear hJ J; simp only [ak, reduceIte]) | (with_reducible intro hnil; refine hJ _ _ ?_; clear hJ J; simp only [ak, reduceIte]; (try subst hnil)))))))
  refine awp_seq ?_; (refine awp_regionE tabOk [29] rfl ?_; intro J hJ; simp only []; simp []; (repeat (refine And.intro (by first | omega | assumption | (simp only [maxLen]; omega) | decide) ?_)); (try (first | (refine hJ _ _ ?_; clear hJ J; simp only [ak, reduceIte]) | (with_reducible refine ⟨?_, ?_⟩ <;> (first | (refine hJ _ _ ?_; clear hJ J; simp only [ak, reduceIte]) | (with_reducible intro hnil; refine hJ _ _ ?_; clear hJ J; simp only [ak, reduceIte]; (try subst hnil)))))))
  refine awp_seq ?_
  refine awp_cut1 (fun fr st2 => ∃ L, Srch g j v L L.length ∧ PtL m ms es 0 g st j v L fr st2) ?_ ?_
  · clear hJJ
    (repeat' (first | (refine awp_seq ?_) | (refine awp_block ?_) | (refine awp_skip ?_; simp only [ak, reduceIte]) | (refine awp_exit ?_; simp only [ak, reduceIte]) | (refine awp_ret ?_; simp only [ak, reduceIte]; simp []) | (refine awp_regionE tabOk [] rfl ?_; intro J hJ; simp only []; simp []; (repeat (refine And.intro (by first | omega | assumption | (simp only [maxLen]; omega) | decide) ?_)); (try (first | (refine hJ _ _ ?_; clear hJ J; simp only [ak, reduceIte]) | (with_reducible refine ⟨?_, ?_⟩ <;> (first | (refine hJ _ _ ?_; clear hJ J; simp only [ak, reduceIte]) | (with_reducible intro hnil; refine hJ _ _ ?_; clear hJ J; simp only [ak, reduceIte]; (try subst hnil))))))) | (refine awp_drawQ tabOk (by kernel_rfl) (by kernel_rfl) rfl rfl ?_; intro J hJ; simp []; (repeat (refine And.intro (by first | omega | assumption | (simp only [maxLen]; omega) | decide) ?_)); (try (first | (refine hJ _ _ ?_; clear hJ J; simp only [ak, reduceIte]) | (with_reducible refine ⟨?_, ?_⟩ <;> (first | (refine hJ _ _ ?_; clear hJ J; simp only [ak, reduceIte]) | (with_reducible intro hnil; refine hJ _ _ ?_; clear hJ J; simp only [ak, reduceIte]; (try subst hnil))))))) | (refine e_go ?_; simp []; (repeat (refine And.intro (by first | omega | assumption | (simp only [maxLen]; omega) | decide) ?_)); (try (first | (refine hJ _ _ ?_; clear hJ J; simp only [ak, reduceIte]) | (with_reducible refine ⟨?_, ?_⟩ <;> (first | (refine hJ _ _ ?_; clear hJ J; simp only [ak, reduceIte]) | (with_reducible intro hnil; refine hJ _ _ ?_; clear hJ J; simp only [ak, reduceIte]; (try subst hnil)))))))))
    refine awp_loop (fun z fr st2 => ∃ k L, k ≤ L.length ∧ z = g.vs.length - k ∧ fr 9 = i (k : Nat) ∧ Srch g j v L k ∧ PtL m ms es 0 g st j v L fr st2) g.vs.length ?_ ?_
    · refine ⟨0, [v], by simp, by simp, by simp, ⟨by simp, fun w hw => ?_, by simp, fun u hu => by simp at hu⟩, ⟨by simp [f4], by simp [f5], by simp [f16], by simp [f17], by simp [f18], ⟨hmm, by simp; omega, hml⟩, ?_, (by repeat (first | exact hkp | (refine Keeps.trans ?_ (Keeps.new _ _)) | (refine Keeps.set ?_ (by have := hkp.next; omega) _))), ⟨_, ?_, hSI.step v fun w => ?_⟩, t, R, by simp [f3], hPT, ht0, htl, by simp; omega, ?_⟩, st2.next, by simp, by simp, by have := hkp.next; omega, by simp⟩
      · rw [List.mem_singleton] at hw; subst hw; exact .refl
      · have a2 : ¬ m = st2.next := by omega
        simp [a2, hne1, hM2]
      · have a2 : ¬ ms = st2.next := by omega
        simp [a2]
      · rw [List.mem_singleton]
      · have a2 : ¬ t = st2.next := by omega
        simp [a2, hne2, htH]
    clear f3 f4 f5 f16 f17 f18 hmn hM2 hkp hS hSI hg1 htn htH hne2 ht0 htl hPT hps hpl t R es2 st2 fr
    rintro z fr st2 ⟨k, L, hkL, rfl, f9, hSr, hP⟩ J2 hJ2
    obtain ⟨⟨f4, f5, f16, f17, f18, ⟨-, hmn, -⟩, hM2, hkp, ⟨es2, hS, hSI⟩, t, R, f3, hPT, ht0, htl, htn, htH⟩, q, f8, hq, hql, hqn⟩ := id hP
    have hLl := hSr.sub hg hvin
    by_cases hkl : k < L.length
    rotate_left
    · clear hJ2
      have hk' : k = L.length := by omega
      rw [hk'] at hSr
      (repeat' (first | (refine awp_seq ?_) | (refine awp_block ?_) | (refine awp_skip ?_; simp only [ak, reduceIte]) | (refine awp_exit ?_; simp only [ak, reduceIte]) | (refine awp_ret ?_; simp only [ak, reduceIte]; simp [f8, f9, hkl]) | (refine awp_cond ?_; simp [f8, f9, hkl]; (try (with_reducible refine ⟨?_, ?_⟩)) <;> (try (with_reducible intro hc)) <;> (try (exfalso; omega))) | (refine awp_regionE tabOk [] rfl ?_; intro J hJ; simp only []; simp [f8, f9, hkl]; (repeat (refine And.intro (by first | omega | assumption | (simp only [maxLen]; omega) | decide) ?_)); (try (first | (refine hJ _ _ ?_; clear hJ J; simp only [ak, reduceIte]) | (with_reducible refine ⟨?_, ?_⟩ <;> (first | (refine hJ _ _ ?_; clear hJ J; simp only [ak, reduceIte]) | (with_reducible intro hnil; refine hJ _ _ ?_; clear hJ J; simp only [ak, reduceIte]; (try subst hnil))))))) | (refine awp_drawQ tabOk (by kernel_rfl) (by kernel_rfl) rfl rfl ?_; intro J hJ; simp [f8, f9, hkl]; (repeat (refine And.intro (by first | omega | assumption | (simp only [maxLen]; omega) | decide) ?_)); (try (first | (refine hJ _ _ ?_; clear hJ J; simp only [ak, reduceIte]) | (with_reducible refine ⟨?_, ?_⟩ <;> (first | (refine hJ _ _ ?_; clear hJ J; simp only [ak, reduceIte]) | (with_reducible intro hnil; refine hJ _ _ ?_; clear hJ J; simp only [ak, reduceIte]; (try subst hnil))))))) | (refine e_go ?_; simp [f8, f9, hkl]; (repeat (refine And.intro (by first | omega | assumption | (simp only [maxLen]; omega) | decide) ?_)); (try (first | (refine hJ _ _ ?_; clear hJ J; simp only [ak, reduceIte]) | (with_reducible refine ⟨?_, ?_⟩ <;> (first | (refine hJ _ _ ?_; clear hJ J; simp only [ak, reduceIte]) | (with_reducible intro hnil; refine hJ _ _ ?_; clear hJ J; simp only [ak, reduceIte]; (try subst hnil)))))))))
      exact ⟨by trivial, L, hSr, ⟨by simp [f4], by simp [f5], by simp [f16], by simp [f17], by simp [f18], ⟨hmm, hmn, hml⟩, hM2, hkp, ⟨es2, hS, hSI⟩, t, R, by simp [f3], hPT, ht0, htl, htn, htH⟩, q, by simp [f8], hq, hql, hqn⟩
    have hdL := us_drop_getD L k hkl
    have hst := hSr.start hkl
    have hwk := nat_add_one k (by omega)
    generalize hxx : L.getD k 0 = x at *
    have hyl : (nbr g.es x).length ≤ 2 * g.es.length := flat_len (nbr1 x) (nbr1_len x) g.es
    obtain ⟨X, hX, hXl⟩ : ∃ X, (mget es [x]).getD .nil = X ∧ ((X = .nil ∧ nbr g.es x = []) ∨ ∃ t', X = .sl t' (nbr g.es x).length (us (nbr g.es x))) := by
      rcases hR.cases x with ⟨h1, h2⟩ | ⟨t', h1⟩
      · exact ⟨_, h1, .inl ⟨rfl, h2⟩⟩
      · exact ⟨_, h1, .inr ⟨t', rfl⟩⟩
    (repeat (refine awp_seq ?_)); (refine awp_regionE tabOk [] rfl ?_; intro J hJ; simp only []; simp [f8, f9, hkl]; (repeat (refine And.intro (by first | omega | assumption | (simp only [maxLen]; omega) | decide) ?_)); (try (first | (refine hJ _ _ ?_; clear hJ J; simp only [ak, reduceIte]) | (with_reducible refine ⟨?_, ?_⟩ <;> (first | (refine hJ _ _ ?_; clear hJ J; simp only [ak, reduceIte]) | (with_reducible intro hnil; refine hJ _ _ ?_; clear hJ J; simp only [ak, reduceIte]; (try subst hnil)))))))
    refine awp_cond ?_; simp [hkl]
    refine awp_skip ?_; simp only [ak, reduceIte]
    refine awp_seq ?_; refine awp_block ?_; refine awp_seq ?_
    refine awp_cut1 (fun fr st2 => fr 9 = i k ∧ fr 41 = X ∧ fr 42 = i (nbr g.es x).length ∧ fr 43 = i (0 : Nat) ∧ PtL m ms es 0 g st j v L fr st2) ?_ ?_
    · clear hJ2
      rcases hXl with ⟨rfl, hy⟩ | ⟨t', rfl⟩
      · (repeat' (first | (refine awp_seq ?_) | (refine awp_block ?_) | (refine awp_skip ?_; simp only [ak, reduceIte]) | (refine awp_exit ?_; simp only [ak, reduceIte]) | (refine awp_ret ?_; simp only [ak, reduceIte]; simp [f4, f8, f9, hkl, hdL, hq, hM2, hX]) | (refine awp_cond ?_; simp [f4, f8, f9, hkl, hdL, hq, hM2, hX]; (try (with_reducible refine ⟨?_, ?_⟩)) <;> (try (with_reducible intro hc)) <;> (try (exfalso; omega))) | (refine awp_regionE tabOk [] rfl ?_; intro J hJ; simp only []; simp [f4, f8, f9, hkl, hdL, hq, hM2, hX]; (repeat (refine And.intro (by first | omega | assumption | (simp only [maxLen]; omega) | decide) ?_)); (try (first | (refine hJ _ _ ?_; clear hJ J; simp only [ak, reduceIte]) | (with_reducible refine ⟨?_, ?_⟩ <;> (first | (refine hJ _ _ ?_; clear hJ J; simp only [ak, reduceIte]) | (with_reducible intro hnil; refine hJ _ _ ?_; clear hJ J; simp only [ak, reduceIte]; (try subst hnil))))))) | (refine awp_drawQ tabOk (by kernel_rfl) (by kernel_rfl) rfl rfl ?_; intro J hJ; simp [f4, f8, f9, hkl, hdL, hq, hM2, hX]; (repeat (refine And.intro (by first | omega | assumption | (simp only [maxLen]; omega) | decide) ?_)); (try (first | (refine hJ _ _ ?_; clear hJ J; simp only [ak, reduceIte]) | (with_reducible refine ⟨?_, ?_⟩ <;> (first | (refine hJ _ _ ?_; clear hJ J; simp only [ak, reduceIte]) | (with_reducible intro hnil; refine hJ _ _ ?_; clear hJ J; simp only [ak, reduceIte]; (try subst hnil))))))) | (refine e_go ?_; simp [f4, f8, f9, hkl, hdL, hq, hM2, hX]; (repeat (refine And.intro (by first | omega | assumption | (simp only [maxLen]; omega) | decide) ?_)); (try (first | (refine hJ _ _ ?_; clear hJ J; simp only [ak, reduceIte]) | (with_reducible refine ⟨?_, ?_⟩ <;> (first | (refine hJ _ _ ?_; clear hJ J; simp only [ak, reduceIte]) | (with_reducible intro hnil; refine hJ _ _ ?_; clear hJ J; simp only [ak, reduceIte]; (try subst hnil)))))))))
        exact ⟨by trivial, by simp [f9], by simp, by simp [hy], by simp, hP.fr (by simp) (by simp) (by simp) (by simp) (by simp) (by simp) (by simp)⟩
      · (repeat' (first | (refine awp_seq ?_) | (refine awp_block ?_) | (refine awp_skip ?_; simp only [ak, reduceIte]) | (refine awp_exit ?_; simp only [ak, reduceIte]) | (refine awp_ret ?_; simp only [ak, reduceIte]; simp [f4, f8, f9, hkl, hdL, hq, hM2, hX]) | (refine awp_cond ?_; simp [f4, f8, f9, hkl, hdL, hq, hM2, hX]; (try (with_reducible refine ⟨?_, ?_⟩)) <;> (try (with_reducible intro hc)) <;> (try (exfalso; omega))) | (refine awp_regionE tabOk [] rfl ?_; intro J hJ; simp only []; simp [f4, f8, f9, hkl, hdL, hq, hM2, hX]; (repeat (refine And.intro (by first | omega | assumption | (simp only [maxLen]; omega) | decide) ?_)); (try (first | (refine hJ _ _ ?_; clear hJ J; simp only [ak, reduceIte]) | (with_reducible refine ⟨?_, ?_⟩ <;> (first | (refine hJ _ _ ?_; clear hJ J; simp only [ak, reduceIte]) | (with_reducible intro hnil; refine hJ _ _ ?_; clear hJ J; simp only [ak, reduceIte]; (try subst hnil))))))) | (refine awp_drawQ tabOk (by kernel_rfl) (by kernel_rfl) rfl rfl ?_; intro J hJ; simp [f4, f8, f9, hkl, hdL, hq, hM2, hX]; (repeat (refine And.intro (by first | omega | assumption | (simp only [maxLen]; omega) | decide) ?_)); (try (first | (refine hJ _ _ ?_; clear hJ J; simp only [ak, reduceIte]) | (with_reducible refine ⟨?_, ?_⟩ <;> (first | (refine hJ _ _ ?_; clear hJ J; simp only [ak, reduceIte]) | (with_reducible intro hnil; refine hJ _ _ ?_; clear hJ J; simp only [ak, reduceIte]; (try subst hnil))))))) | (refine e_go ?_; simp [f4, f8, f9, hkl, hdL, hq, hM2, hX]; (repeat (refine And.intro (by first | omega | assumption | (simp only [maxLen]; omega) | decide) ?_)); (try (first | (refine hJ _ _ ?_; clear hJ J; simp only [ak, reduceIte]) | (with_reducible refine ⟨?_, ?_⟩ <;> (first | (refine hJ _ _ ?_; clear hJ J; simp only [ak, reduceIte]) | (with_reducible intro hnil; refine hJ _ _ ?_; clear hJ J; simp only [ak, reduceIte]; (try subst hnil)))))))))
        exact ⟨by trivial, by simp [f9], by simp, by simp, by simp, hP.fr (by simp) (by simp) (by simp) (by simp) (by simp) (by simp) (by simp)⟩
    clear f3 f4 f5 f8 f9 f16 f17 f18 hmn hM2 hkp hS hSI htn htH ht0 htl hPT hP hq hql hqn q t R es2 st2 fr
    rintro fr st2 ⟨f9, f41, f42, f43, hP⟩
    refine awp_block ?_
    refine awp_loop (fun z fr st2 => ∃ jj L, jj ≤ (nbr g.es x).length ∧ z = (nbr g.es x).length - jj ∧ fr 9 = i k ∧ fr 41 = X ∧ fr 42 = i (nbr g.es x).length ∧ fr 43 = i (jj : Nat) ∧ SrchI g v L k x jj ∧ PtL m ms es 0 g st j v L fr st2) (nbr g.es x).length ?_ ?_
    · exact ⟨0, L, by omega, by omega, f9, f41, f42, f43, hst, hP⟩
    clear f9 f41 f42 f43 hP hst hSr hkL hkl hLl hdL hxx L fr st2
    rintro z fr st2 ⟨jj, L, hjj, rfl, f9, f41, f42, f43, hSr, hP⟩ J3 hJ3
    obtain ⟨⟨f4, f5, f16, f17, f18, ⟨-, hmn, -⟩, hM2, hkp, ⟨es2, hS, hSI⟩, t, R, f3, hPT, ht0, htl, htn, htH⟩, q, f8, hq, hql, hqn⟩ := id hP
    have hLl := hSr.len hg hvin
    by_cases hjl : jj < (nbr g.es x).length
    rotate_left
    · clear hJ3
      have hkl := hSr.lt
      (repeat' (first | (refine awp_seq ?_) | (refine awp_block ?_) | (refine awp_skip ?_; simp only [ak, reduceIte]) | (refine awp_exit ?_; simp only [ak, reduceIte]) | (refine awp_ret ?_; simp only [ak, reduceIte]; simp [f42, f43, hjl, f9, hwk]) | (refine awp_cond ?_; simp [f42, f43, hjl, f9, hwk]; (try (with_reducible refine ⟨?_, ?_⟩)) <;> (try (with_reducible intro hc)) <;> (try (exfalso; omega))) | (refine awp_regionE tabOk [] rfl ?_; intro J hJ; simp only []; simp [f42, f43, hjl, f9, hwk]; (repeat (refine And.intro (by first | omega | assumption | (simp only [maxLen]; omega) | decide) ?_)); (try (first | (refine hJ _ _ ?_; clear hJ J; simp only [ak, reduceIte]) | (with_reducible refine ⟨?_, ?_⟩ <;> (first | (refine hJ _ _ ?_; clear hJ J; simp only [ak, reduceIte]) | (with_reducible intro hnil; refine hJ _ _ ?_; clear hJ J; simp only [ak, reduceIte]; (try subst hnil))))))) | (refine awp_drawQ tabOk (by kernel_rfl) (by kernel_rfl) rfl rfl ?_; intro J hJ; simp [f42, f43, hjl, f9, hwk]; (repeat (refine And.intro (by first | omega | assumption | (simp only [maxLen]; omega) | decide) ?_)); (try (first | (refine hJ _ _ ?_; clear hJ J; simp only [ak, reduceIte]) | (with_reducible refine ⟨?_, ?_⟩ <;> (first | (refine hJ _ _ ?_; clear hJ J; simp only [ak, reduceIte]) | (with_reducible intro hnil; refine hJ _ _ ?_; clear hJ J; simp only [ak, reduceIte]; (try subst hnil))))))) | (refine e_go ?_; simp [f42, f43, hjl, f9, hwk]; (repeat (refine And.intro (by first | omega | assumption | (simp only [maxLen]; omega) | decide) ?_)); (try (first | (refine hJ _ _ ?_; clear hJ J; simp only [ak, reduceIte]) | (with_reducible refine ⟨?_, ?_⟩ <;> (first | (refine hJ _ _ ?_; clear hJ J; simp only [ak, reduceIte]) | (with_reducible intro hnil; refine hJ _ _ ?_; clear hJ J; simp only [ak, reduceIte]; (try subst hnil)))))))))
      exact hJ2 (g.vs.length - (k + 1)) _ _ (by omega) ⟨k + 1, L, by omega, rfl, by simp, hSr.finish (by omega), hP.fr (by simp) (by simp) (by simp) (by simp) (by simp) (by simp) (by simp)⟩
    clear hJ2
    have hdy := us_drop_getD (nbr g.es x) jj hjl
    have hwj := nat_add_one jj (by omega)
    have hXs : ∃ t', X = .sl t' (nbr g.es x).length (us (nbr g.es x)) := by
      rcases hXl with ⟨_, hy⟩ | h
      · rw [hy] at hjl; simp at hjl
      · exact h
    obtain ⟨t', hXe⟩ := hXs
    rw [hXe] at f41
    have hskip := hSr.skip hjl
    have hpush := hSr.push hjl
    have hwm : (nbr g.es x).getD jj 0 ∈ nbr g.es x := by rw [getD_lt _ _ hjl]; exact List.getElem_mem _
    generalize hwx : (nbr g.es x).getD jj 0 = w at *
    by_cases hwL : w ∈ L
    · have hg2 := (hSI w).1 (.inr hwL)
      (repeat' (first | (refine awp_seq ?_) | (refine awp_block ?_) | (refine awp_skip ?_; simp only [ak, reduceIte]) | (refine awp_exit ?_; simp only [ak, reduceIte]) | (refine awp_ret ?_; simp only [ak, reduceIte]; simp [f5, f41, f42, f43, hjl, hdy, hS, hg2, hwj]) | (refine awp_cond ?_; simp [f5, f41, f42, f43, hjl, hdy, hS, hg2, hwj]; (try (with_reducible refine ⟨?_, ?_⟩)) <;> (try (with_reducible intro hc)) <;> (try (exfalso; omega))) | (refine awp_regionE tabOk [] rfl ?_; intro J hJ; simp only []; simp [f5, f41, f42, f43, hjl, hdy, hS, hg2, hwj]; (repeat (refine And.intro (by first | omega | assumption | (simp only [maxLen]; omega) | decide) ?_)); (try (first | (refine hJ _ _ ?_; clear hJ J; simp only [ak, reduceIte]) | (with_reducible refine ⟨?_, ?_⟩ <;> (first | (refine hJ _ _ ?_; clear hJ J; simp only [ak, reduceIte]) | (with_reducible intro hnil; refine hJ _ _ ?_; clear hJ J; simp only [ak, reduceIte]; (try subst hnil))))))) | (refine awp_drawQ tabOk (by kernel_rfl) (by kernel_rfl) rfl rfl ?_; intro J hJ; simp [f5, f41, f42, f43, hjl, hdy, hS, hg2, hwj]; (repeat (refine And.intro (by first | omega | assumption | (simp only [maxLen]; omega) | decide) ?_)); (try (first | (refine hJ _ _ ?_; clear hJ J; simp only [ak, reduceIte]) | (with_reducible refine ⟨?_, ?_⟩ <;> (first | (refine hJ _ _ ?_; clear hJ J; simp only [ak, reduceIte]) | (with_reducible intro hnil; refine hJ _ _ ?_; clear hJ J; simp only [ak, reduceIte]; (try subst hnil))))))) | (refine e_go ?_; simp [f5, f41, f42, f43, hjl, hdy, hS, hg2, hwj]; (repeat (refine And.intro (by first | omega | assumption | (simp only [maxLen]; omega) | decide) ?_)); (try (first | (refine hJ _ _ ?_; clear hJ J; simp only [ak, reduceIte]) | (with_reducible refine ⟨?_, ?_⟩ <;> (first | (refine hJ _ _ ?_; clear hJ J; simp only [ak, reduceIte]) | (with_reducible intro hnil; refine hJ _ _ ?_; clear hJ J; simp only [ak, reduceIte]; (try subst hnil)))))))))
      exact hJ3 ((nbr g.es x).length - (jj + 1)) _ _ (by omega) ⟨jj + 1, L, by omega, rfl, by simp [f9], by simp [f41, hXe], by simp [f42], by simp, hskip hwL, hP.fr (by simp) (by simp) (by simp) (by simp) (by simp) (by simp) (by simp)⟩
    have hns : ¬ (Seen g j w ∨ w ∈ L) := by
      rintro (h | h)
      · have hxL : x ∈ L := by rw [← hSr.at', getD_lt _ _ hSr.lt]; exact List.getElem_mem _
        exact hs (h.reach ((Reach.step .refl (nbr_symm hwm)).trans (hSr.reach x hxL).symm))
      · exact hwL h
    have hg2 := (hSI w).2 hns
    have b1 : ¬ q = ms := fun h => by rw [h, hS] at hq; cases hq
    have b2 : ¬ q = st2.next := by omega
    (repeat' (first | (refine awp_seq ?_) | (refine awp_block ?_) | (refine awp_skip ?_; simp only [ak, reduceIte]) | (refine awp_exit ?_; simp only [ak, reduceIte]) | (refine awp_ret ?_; simp only [ak, reduceIte]; simp [f5, f8, f41, f42, f43, hjl, hdy, hS, hg2, hwj, hq, b1, b2]) | (refine awp_cond ?_; simp [f5, f8, f41, f42, f43, hjl, hdy, hS, hg2, hwj, hq, b1, b2]; (try (with_reducible refine ⟨?_, ?_⟩)) <;> (try (with_reducible intro hc)) <;> (try (exfalso; omega))) | (refine awp_regionE tabOk [] rfl ?_; intro J hJ; simp only []; simp [f5, f8, f41, f42, f43, hjl, hdy, hS, hg2, hwj, hq, b1, b2]; (repeat (refine And.intro (by first | omega | assumption | (simp only [maxLen]; omega) | decide) ?_)); (try (first | (refine hJ _ _ ?_; clear hJ J; simp only [ak, reduceIte]) | (with_reducible refine ⟨?_, ?_⟩ <;> (first | (refine hJ _ _ ?_; clear hJ J; simp only [ak, reduceIte]) | (with_reducible intro hnil; refine hJ _ _ ?_; clear hJ J; simp only [ak, reduceIte]; (try subst hnil))))))) | (refine awp_drawQ tabOk (by kernel_rfl) (by kernel_rfl) rfl rfl ?_; intro J hJ; simp [f5, f8, f41, f42, f43, hjl, hdy, hS, hg2, hwj, hq, b1, b2]; (repeat (refine And.intro (by first | omega | assumption | (simp only [maxLen]; omega) | decide) ?_)); (try (first | (refine hJ _ _ ?_; clear hJ J; simp only [ak, reduceIte]) | (with_reducible refine ⟨?_, ?_⟩ <;> (first | (refine hJ _ _ ?_; clear hJ J; simp only [ak, reduceIte]) | (with_reducible intro hnil; refine hJ _ _ ?_; clear hJ J; simp only [ak, reduceIte]; (try subst hnil))))))) | (refine e_go ?_; simp [f5, f8, f41, f42, f43, hjl, hdy, hS, hg2, hwj, hq, b1, b2]; (repeat (refine And.intro (by first | omega | assumption | (simp only [maxLen]; omega) | decide) ?_)); (try (first | (refine hJ _ _ ?_; clear hJ J; simp only [ak, reduceIte]) | (with_reducible refine ⟨?_, ?_⟩ <;> (first | (refine hJ _ _ ?_; clear hJ J; simp only [ak, reduceIte]) | (with_reducible intro hnil; refine hJ _ _ ?_; clear hJ J; simp only [ak, reduceIte]; (try subst hnil)))))))))
    have b3 : ¬ m = q := fun h => by rw [← h, hM2] at hq; cases hq
    have b4 : ¬ m = st2.next := by omega
    have b5 : ¬ m = st2.next + 1 := by omega
    have b6 : ¬ ms = q := fun h => b1 h.symm
    have b7 : ¬ ms = st2.next := by omega
    have b8 : ¬ ms = st2.next + 1 := by omega
    have b9 : ¬ t = ms := fun h => by rw [h, hS] at htH; cases htH
    have c1 : ¬ t = q := fun h => by rw [h, hq] at htH; cases htH
    have c2 : ¬ t = st2.next := by omega
    have c3 : ¬ t = st2.next + 1 := by omega
    refine hJ3 ((nbr g.es x).length - (jj + 1)) _ _ (by omega) ⟨jj + 1, L ++ [w], by omega, rfl, by simp [f9], by simp [f41, hXe], by simp [f42], by simp, hpush hwL, ⟨by simp [f4], by simp [f5], by simp [f16], by simp [f17], by simp [f18], ⟨hmm, by simp; omega, hml⟩, by simp [hne1, b3, b4, b5, hM2], (by repeat (first | exact hkp | (refine Keeps.trans ?_ (Keeps.new _ _)) | (refine Keeps.set ?_ (by have := hkp.next; omega) _))), ⟨_, by simp [b6, b7, b8], hSI.step w fun z => ?_⟩, t, R, by simp [f3], hPT, ht0, htl, by simp; omega, by simp [b9, c1, c2, c3, htH]⟩, st2.next + 1, by simp, by simp, by have := hkp.next; omega, by simp⟩
    rw [List.mem_append, List.mem_singleton]
    exact or_assoc.symm
  clear f3 f4 f5 f16 f17 f18 hmn hM2 hkp hS hSI hg1 htn htH hne2 ht0 htl hPT hps hpl t R es2 st2 fr
  rintro fr st2 ⟨L, hSr, ⟨f4, f5, f16, f17, f18, ⟨-, hmn, -⟩, hM2, hkp, ⟨es2, hS, hSI⟩, t, R, f3, hPT, ht0, htl, htn, htH⟩, q, f8, hq, hql, hqn⟩
  have hpl := fun (c : List Int) hs hc => PartsTo.lead (c := c) hPT hlt hs hc
  rw [hx] at hpl
  have hLl := hSr.sub hg hvin
  have hRl := hPT.len
  have b1 : ¬ q = ms := fun h => by rw [h, hS] at hq; cases hq
  have b3 : ¬ m = q := fun h => by rw [← h, hM2] at hq; cases hq
  have b6 : ¬ ms = q := fun h => b1 h.symm
  have c1 : ¬ t = q := fun h => by rw [h, hq] at htH; cases htH
  (repeat' (first | (refine awp_seq ?_) | (refine awp_block ?_) | (refine awp_skip ?_; simp only [ak, reduceIte]) | (refine awp_exit ?_; simp only [ak, reduceIte]) | (refine awp_ret ?_; simp only [ak, reduceIte]; simp [f8]) | (refine awp_regionE tabOk [] rfl ?_; intro J hJ; simp only []; simp [f8]; (repeat (refine And.intro (by first | omega | assumption | (simp only [maxLen]; omega) | decide) ?_)); (try (first | (refine hJ _ _ ?_; clear hJ J; simp only [ak, reduceIte]) | (with_reducible refine ⟨?_, ?_⟩ <;> (first | (refine hJ _ _ ?_; clear hJ J; simp only [ak, reduceIte]) | (with_reducible intro hnil; refine hJ _ _ ?_; clear hJ J; simp only [ak, reduceIte]; (try subst hnil))))))) | (refine awp_drawQ tabOk (by kernel_rfl) (by kernel_rfl) rfl rfl ?_; intro J hJ; simp [f8]; (repeat (refine And.intro (by first | omega | assumption | (simp only [maxLen]; omega) | decide) ?_)); (try (first | (refine hJ _ _ ?_; clear hJ J; simp only [ak, reduceIte]) | (with_reducible refine ⟨?_, ?_⟩ <;> (first | (refine hJ _ _ ?_; clear hJ J; simp only [ak, reduceIte]) | (with_reducible intro hnil; refine hJ _ _ ?_; clear hJ J; simp only [ak, reduceIte]; (try subst hnil))))))) | (refine e_go ?_; simp [f8]; (repeat (refine And.intro (by first | omega | assumption | (simp only [maxLen]; omega) | decide) ?_)); (try (first | (refine hJ _ _ ?_; clear hJ J; simp only [ak, reduceIte]) | (with_reducible refine ⟨?_, ?_⟩ <;> (first | (refine hJ _ _ ?_; clear hJ J; simp only [ak, reduceIte]) | (with_reducible intro hnil; refine hJ _ _ ?_; clear hJ J; simp only [ak, reduceIte]; (try subst hnil)))))))))
  refine callK_ofE (SortU L q st2 (by omega) hqn hq) (by simp [f8]) ?_; rintro r st' ⟨c, hc, hcp, hcs, hof⟩
  have hcl := hcp.length_eq
  have hnx := hof.1
  have hM3 := (hof.2 m b3 (by omega)).trans hM2
  have hS3 := (hof.2 ms b6 (by omega)).trans hS
  have htH3 := (hof.2 t c1 htn).trans htH
  have hkp3 : Keeps st st' := ⟨Nat.le_trans hkp.next hnx, fun l hl => (hof.2 l (by omega) (by have := hkp.next; omega)).trans (hkp.H l hl)⟩
  (refine e_go ?_; simp []; (repeat (refine And.intro (by first | omega | assumption | (simp only [maxLen]; omega) | decide) ?_)); (try (first | (refine hJ _ _ ?_; clear hJ J; simp only [ak, reduceIte]) | (with_reducible refine ⟨?_, ?_⟩ <;> (first | (refine hJ _ _ ?_; clear hJ J; simp only [ak, reduceIte]) | (with_reducible intro hnil; refine hJ _ _ ?_; clear hJ J; simp only [ak, reduceIte]; (try subst hnil)))))))
  refine awp_freeze 8 (l := q) (n := L.length) (by simp [f8]) hc (by simp [hcl]) ?_
  have htk : (us c).take (L.length * 1) = us c := by rw [List.take_of_length_le (by simp [hcl])]
  rw [htk]
  have d1 : ¬ t = st'.next := by omega
  have d2 : ¬ t = st'.next + 1 := by omega
  have d3 : ¬ m = st'.next := by omega
  have d4 : ¬ m = st'.next + 1 := by omega
  have d5 : ¬ ms = st'.next := by omega
  have d6 : ¬ ms = st'.next + 1 := by omega
  have hmt : ¬ m = t := fun h => by rw [h, htH3] at hM3; cases hM3
  have hmst : ¬ ms = t := fun h => by rw [h, htH3] at hS3; cases hS3
  (repeat' (first | (refine awp_seq ?_) | (refine awp_block ?_) | (refine awp_skip ?_; simp only [ak, reduceIte]) | (refine awp_exit ?_; simp only [ak, reduceIte]) | (refine awp_ret ?_; simp only [ak, reduceIte]; simp [f3, f18, hw, htH3, ht0, c1, d1, d2]) | (refine awp_cond ?_; simp [f3, f18, hw, htH3, ht0, c1, d1, d2]; (try (with_reducible refine ⟨?_, ?_⟩)) <;> (try (with_reducible intro hc)) <;> (try (exfalso; omega))) | (refine awp_regionE tabOk [] rfl ?_; intro J hJ; simp only []; simp [f3, f18, hw, htH3, ht0, c1, d1, d2]; (repeat (refine And.intro (by first | omega | assumption | (simp only [maxLen]; omega) | decide) ?_)); (try (first | (refine hJ _ _ ?_; clear hJ J; simp only [ak, reduceIte]) | (with_reducible refine ⟨?_, ?_⟩ <;> (first | (refine hJ _ _ ?_; clear hJ J; simp only [ak, reduceIte]) | (with_reducible intro hnil; refine hJ _ _ ?_; clear hJ J; simp only [ak, reduceIte]; (try subst hnil))))))) | (refine awp_drawQ tabOk (by kernel_rfl) (by kernel_rfl) rfl rfl ?_; intro J hJ; simp [f3, f18, hw, htH3, ht0, c1, d1, d2]; (repeat (refine And.intro (by first | omega | assumption | (simp only [maxLen]; omega) | decide) ?_)); (try (first | (refine hJ _ _ ?_; clear hJ J; simp only [ak, reduceIte]) | (with_reducible refine ⟨?_, ?_⟩ <;> (first | (refine hJ _ _ ?_; clear hJ J; simp only [ak, reduceIte]) | (with_reducible intro hnil; refine hJ _ _ ?_; clear hJ J; simp only [ak, reduceIte]; (try subst hnil))))))) | (refine e_go ?_; simp [f3, f18, hw, htH3, ht0, c1, d1, d2]; (repeat (refine And.intro (by first | omega | assumption | (simp only [maxLen]; omega) | decide) ?_)); (try (first | (refine hJ _ _ ?_; clear hJ J; simp only [ak, reduceIte]) | (with_reducible refine ⟨?_, ?_⟩ <;> (first | (refine hJ _ _ ?_; clear hJ J; simp only [ak, reduceIte]) | (with_reducible intro hnil; refine hJ _ _ ?_; clear hJ J; simp only [ak, reduceIte]; (try subst hnil)))))))))
  refine hJJ (g.vs.length - (j + 1)) _ _ (by omega) ⟨j + 1, by omega, rfl, by simp [f4], by simp [f5], by simp [f16], by simp [f17], by simp, ⟨hmm, by simp; omega, hml⟩, by simp [hmt, b3, d3, d4, hM3], ?_, ⟨es2, by simp [hmst, b6, d5, d6, hS3], hSI.congr fun w => ?_⟩, st'.next + 1, R ++ [c], by simp [hcl], hpl c hs (part_of hg hvin hSr.nodup hSr.all hcp hcs), by omega, by omega, by simp, by simp⟩
  · (repeat (first | exact hkp3 | (refine Keeps.trans ?_ (Keeps.new _ _)) | (refine Keeps.set ?_ (by have := hkp.next; omega) _)))
  · rw [hsucc, hSr.all]

end Go.Proofs.Ytphdhggoaijfoaa.Aw
