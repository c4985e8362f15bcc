/- Graphs: the document's parts. -/
import Derived.Test.YtphdhggoaijfoaaPt
namespace Go.Proofs.Ytphdhggoaijfoaa.Aw
open Go Go.RowKit Go.Proofs.Ytphdhggoaijfoaa.Pl
set_option linter.unusedSimpArgs false
set_option linter.unusedVariables false

theorem acalls_sl0 {P : Program} {f : FuncId} {args : List LV} {st : St} {Q : LV → St → Prop} (h : ACalls P f args st fun r st' => ∃ t n cs, r = .sl t n cs ∧ Q (.sl 0 n cs) st') : ACalls P f args st Q := by
  refine ⟨h.1, fun w g vs hi hr => (h.2 w g vs hi hr).mono ?_⟩
  rintro x w' ⟨v, r, st', g', rfl, ⟨t, n, cs, rfl, hq⟩, hrep, hi', he⟩
  refine ⟨v, _, st', g', rfl, hq, ?_, hi', he⟩
  simp only [Rep] at hrep ⊢
  obtain ⟨A, cap, h1, h2, h3, h4, h5⟩ := hrep
  exact ⟨A, cap, h1, h2, h3, fun h => absurd rfl h, h5⟩

/-- Which numbers a map of truths has. -/
def InI (es : List (List Int × LV)) (S : List Int) : Prop := ∀ v, (mget es [v]).getD (bb false) = bb (decide (v ∈ S))
theorem InI.step {es : List (List Int × LV)} {S : List Int} (h : InI es S) (w : Int) : InI (mset es [w] (bb true)) (S ++ [w]) := by
  intro v
  rw [mget_mset]
  by_cases hv : v = w
  · subst hv; simp
  · rw [if_neg (by simpa using hv), h v]; simp [hv]
theorem InI.congr {es : List (List Int × LV)} {S S' : List Int} (h : InI es S) (hs : ∀ v, v ∈ S' ↔ v ∈ S) : InI es S' := fun v => by
  rw [h v, show decide (v ∈ S') = decide (v ∈ S) from decide_eq_decide.2 (hs v)]

structure Flood (g : Gr) (v : Int) (S : List Int) : Prop where
  nodup : S.Nodup
  mem : v ∈ S
  reach : ∀ w ∈ S, Reach g.es v w
theorem Flood.len {g : Gr} (hg : Good g) {v : Int} (hv : v ∈ g.vs) {S : List Int} (h : Flood g v S) : S.length ≤ g.vs.length :=
  List.Nodup.length_le_of_subset h.nodup fun w hw => hg.reach hv (h.reach w hw)
theorem Flood.push {g : Gr} {v : Int} {S : List Int} (h : Flood g v S) {x : Ed} (hx : x ∈ g.es) {u w : Int} (hu : u ∈ S) (hw : w ∉ S) (hxw : (x.a = u ∧ x.b = w) ∨ (x.b = u ∧ x.a = w)) : Flood g v (S ++ [w]) := by
  refine ⟨?_, List.mem_append_left _ h.mem, fun z hz => ?_⟩
  · rw [List.nodup_append]
    refine ⟨h.nodup, by simp, fun a ha b hb => ?_⟩
    rw [List.mem_singleton] at hb
    rintro rfl
    exact hw (hb ▸ ha)
  · rw [List.mem_append, List.mem_singleton] at hz
    rcases hz with hz | rfl
    · exact h.reach z hz
    · exact .step (h.reach u hu) (mem_nbr.2 ⟨x, hx, hxw⟩)
def Even (es : List Ed) (S : List Int) : Prop := ∀ x ∈ es, (x.a ∈ S ↔ x.b ∈ S)
theorem Flood.part {g : Gr} (hg : Good g) {v : Int} {S : List Int} (h : Flood g v S) (he : Even g.es S) : IsPart g v (g.vs.filter fun w => decide (w ∈ S)) := by
  refine ⟨hg.rise.filter _, fun w => ?_⟩
  rw [List.mem_filter, decide_eq_true_eq]
  refine ⟨fun hw => ⟨hw.1, h.reach w hw.2⟩, fun hw => ⟨hw.1, ?_⟩⟩
  refine hw.2.closed (L := fun w => w ∈ S) h.mem fun u hu w hw => ?_
  obtain ⟨x, hx, ⟨rfl, rfl⟩ | ⟨rfl, rfl⟩⟩ := mem_nbr.1 hw
  · exact (he x hx).1 hu
  · exact (he x hx).2 hu

def RpI (ms : Nat) (g : Gr) (st : St) (S : List Int) (fr : Frm) (st2 : St) : Prop :=
  fr 2 = .pt st.next 0 ∧ fr 5 = .mp ms ∧ st.next < ms ∧ ms < st2.next ∧ Keeps st st2 ∧ st2.H st.next = .box 41 2 (grL g) ∧ ∃ es, st2.H ms = .map false [.u32] es ∧ InI es S
theorem RpI.fr {ms : Nat} {g : Gr} {st : St} {S : List Int} {fr fr' : Frm} {st2 : St} (h : RpI ms g st S fr st2) (h2 : fr' 2 = fr 2) (h5 : fr' 5 = fr 5) : RpI ms g st S fr' st2 :=
  ⟨h2.trans h.1, h5.trans h.2.1, h.2.2⟩

theorem ref_Part (g : Gr) (v : Int) (st : St) (hg : Good g) (hv : g.vs.length ≤ 1000) (he : g.es.length ≤ 1000) (hvin : v ∈ g.vs) :
    ACalls Try.prog 76 [.ag (grL g), u v] st fun r st' => (∃ c, r = .sl 0 c.length (us c) ∧ IsPart g v c) ∧ Keeps st st' := by
  refine acalls_sl0 ?_
  have hel := eds_length g.es
  refine acalls_of_body tabOk Try.func76 rfl rfl Try.ntmps76 (rs := [.tmp 4]) rfl (by simp) ?_
  (repeat' (first | (refine awp_seq ?_) | (refine awp_block ?_) | (refine awp_skip ?_; simp only [ak, reduceIte]) | (refine awp_exit ?_; simp only [ak, reduceIte]) | (refine awp_ret ?_; simp only [ak, reduceIte]; simp []) | (refine awp_cond ?_; simp []; (try (with_reducible refine ⟨?_, ?_⟩)) <;> (try (with_reducible intro hc)) <;> (try (exfalso; omega))) | (refine awp_regionE tabOk [] rfl ?_; intro J hJ; simp only []; simp []; (repeat (refine And.intro (by first | omega | assumption | (simp only [maxLen]; omega) | decide) ?_)); (try (first | (refine hJ _ _ ?_; clear hJ J; simp only [ak, reduceIte]) | (with_reducible refine ⟨?_, ?_⟩ <;> (first | (refine hJ _ _ ?_; clear hJ J; simp only [ak, reduceIte]) | (with_reducible intro hnil; refine hJ _ _ ?_; clear hJ J; simp only [ak, reduceIte]; (try subst hnil))))))) | (refine awp_drawQ tabOk (by kernel_rfl) (by kernel_rfl) rfl rfl ?_; intro J hJ; simp []; (repeat (refine And.intro (by first | omega | assumption | (simp only [maxLen]; omega) | decide) ?_)); (try (first | (refine hJ _ _ ?_; clear hJ J; simp only [ak, reduceIte]) | (with_reducible refine ⟨?_, ?_⟩ <;> (first | (refine hJ _ _ ?_; clear hJ J; simp only [ak, reduceIte]) | (with_reducible intro hnil; refine hJ _ _ ?_; clear hJ J; simp only [ak, reduceIte]; (try subst hnil))))))) | (refine e_go ?_; simp []; (repeat (refine And.intro (by first | omega | assumption | (simp only [maxLen]; omega) | decide) ?_)); (try (first | (refine hJ _ _ ?_; clear hJ J; simp only [ak, reduceIte]) | (with_reducible refine ⟨?_, ?_⟩ <;> (first | (refine hJ _ _ ?_; clear hJ J; simp only [ak, reduceIte]) | (with_reducible intro hnil; refine hJ _ _ ?_; clear hJ J; simp only [ak, reduceIte]; (try subst hnil)))))))))
  obtain ⟨ms, hms⟩ : ∃ ms, ms = st.next + 1 := ⟨_, rfl⟩
  refine awp_loop (fun z fr st2 => ∃ (gr : Bool) (S : List Int), z = (if gr = true then g.vs.length + 1 - S.length else 0) ∧ fr 6 = bb gr ∧ Flood g v S ∧ (gr = false → Even g.es S) ∧ RpI ms g st S fr st2) g.vs.length ?_ ?_
  · refine ⟨true, [v], by simp, by simp, ⟨by simp, by simp, fun w hw => ?_⟩, fun h => absurd h (by simp), by simp, by simp [hms], by omega, by simp [hms], ?_, by simp, _, by simp [hms]; rfl, fun w => ?_⟩
    · rw [List.mem_singleton] at hw; subst hw; exact .refl
    · (repeat (first | exact Keeps.refl _ | (refine Keeps.trans ?_ (Keeps.new _ _)) | (refine Keeps.set ?_ (by omega) _)))
    · by_cases hw : w = v
      · subst hw; simp [mset, mget]
      · simp [mset, mget, hw]
  rintro z fr st2 ⟨gr, S, rfl, f6, hF, hE, hI⟩ JJ hJJ
  cases gr
  · clear hJJ
    obtain ⟨f2, f5, hm1, hm2, hkp, hG, es, hM, hIn⟩ := hI
    have hpt := hF.part hg (hE rfl)
    (repeat' (first | (refine awp_seq ?_) | (refine awp_block ?_) | (refine awp_skip ?_; simp only [ak, reduceIte]) | (refine awp_exit ?_; simp only [ak, reduceIte]) | (refine awp_ret ?_; simp only [ak, reduceIte]; simp [f6, f2, hG]) | (refine awp_cond ?_; simp [f6, f2, hG]; (try (with_reducible refine ⟨?_, ?_⟩)) <;> (try (with_reducible intro hc)) <;> (try (exfalso; omega))) | (refine awp_regionE tabOk [] rfl ?_; intro J hJ; simp only []; simp [f6, f2, hG]; (repeat (refine And.intro (by first | omega | assumption | (simp only [maxLen]; omega) | decide) ?_)); (try (first | (refine hJ _ _ ?_; clear hJ J; simp only [ak, reduceIte]) | (with_reducible refine ⟨?_, ?_⟩ <;> (first | (refine hJ _ _ ?_; clear hJ J; simp only [ak, reduceIte]) | (with_reducible intro hnil; refine hJ _ _ ?_; clear hJ J; simp only [ak, reduceIte]; (try subst hnil))))))) | (refine awp_drawQ tabOk (by kernel_rfl) (by kernel_rfl) rfl rfl ?_; intro J hJ; simp [f6, f2, hG]; (repeat (refine And.intro (by first | omega | assumption | (simp only [maxLen]; omega) | decide) ?_)); (try (first | (refine hJ _ _ ?_; clear hJ J; simp only [ak, reduceIte]) | (with_reducible refine ⟨?_, ?_⟩ <;> (first | (refine hJ _ _ ?_; clear hJ J; simp only [ak, reduceIte]) | (with_reducible intro hnil; refine hJ _ _ ?_; clear hJ J; simp only [ak, reduceIte]; (try subst hnil))))))) | (refine e_go ?_; simp [f6, f2, hG]; (repeat (refine And.intro (by first | omega | assumption | (simp only [maxLen]; omega) | decide) ?_)); (try (first | (refine hJ _ _ ?_; clear hJ J; simp only [ak, reduceIte]) | (with_reducible refine ⟨?_, ?_⟩ <;> (first | (refine hJ _ _ ?_; clear hJ J; simp only [ak, reduceIte]) | (with_reducible intro hnil; refine hJ _ _ ?_; clear hJ J; simp only [ak, reduceIte]; (try subst hnil)))))))))
    refine awp_own 9 22 1 (by simp) ?_
    have hqq : ∀ k, (g.vs.take (k + 1)).filter (fun w => decide (w ∈ S)) = if k < g.vs.length then (if g.vs.getD k 0 ∈ S then (g.vs.take k).filter (fun w => decide (w ∈ S)) ++ [g.vs.getD k 0] else (g.vs.take k).filter (fun w => decide (w ∈ S))) else g.vs.filter (fun w => decide (w ∈ S)) := by
      intro k
      by_cases hk : k < g.vs.length
      · rw [if_pos hk, List.take_succ_eq_append_getElem hk, List.filter_append, getD_lt _ _ hk]
        by_cases h : g.vs[k] ∈ S <;> simp [h]
      · rw [if_neg hk, List.take_of_length_le (by omega)]
    refine awp_loop (fun z fr st3 => ∃ k : Nat, k ≤ g.vs.length ∧ z = g.vs.length - k ∧ fr 5 = .mp ms ∧ fr 40 = .sl 0 g.vs.length (us g.vs) ∧ fr 41 = i g.vs.length ∧ fr 42 = i k ∧ st3.H ms = .map false [.u32] es ∧ ms < st3.next ∧ ∃ t, fr 9 = .sl t ((g.vs.take k).filter fun w => decide (w ∈ S)).length (us ((g.vs.take k).filter fun w => decide (w ∈ S))) ∧ OwnAt t st ((g.vs.take k).filter fun w => decide (w ∈ S)) st3) g.vs.length ?_ ?_
    · have a1 : ¬ ms = st2.next := by omega
      exact ⟨0, by omega, by omega, by simp [f5], by simp, by simp, by simp, by simp [a1, hM], by simp; omega, st2.next, by simp, by omega, by have := hkp.next; omega, by simp, by simp, hkp.trans (Keeps.new _ _)⟩
    clear f2 f5 f6 hM hkp hG fr
    rintro z fr st3 ⟨k, hk, rfl, f5, f40, f41, f42, hM, hm3, t, f9, ht0, htl, htn, htH, hkp⟩ JJ hJJ
    by_cases hlt : k < g.vs.length
    rotate_left
    · clear hJJ
      have hk' : k = g.vs.length := by omega
      rw [hk', List.take_length] at f9
      (repeat' (first | (refine awp_seq ?_) | (refine awp_block ?_) | (refine awp_skip ?_; simp only [ak, reduceIte]) | (refine awp_exit ?_; simp only [ak, reduceIte]) | (refine awp_ret ?_; simp only [ak, reduceIte]; simp [f9, f41, f42, hlt]) | (refine awp_cond ?_; simp [f9, f41, f42, hlt]; (try (with_reducible refine ⟨?_, ?_⟩)) <;> (try (with_reducible intro hc)) <;> (try (exfalso; omega))) | (refine awp_regionE tabOk [] rfl ?_; intro J hJ; simp only []; simp [f9, f41, f42, hlt]; (repeat (refine And.intro (by first | omega | assumption | (simp only [maxLen]; omega) | decide) ?_)); (try (first | (refine hJ _ _ ?_; clear hJ J; simp only [ak, reduceIte]) | (with_reducible refine ⟨?_, ?_⟩ <;> (first | (refine hJ _ _ ?_; clear hJ J; simp only [ak, reduceIte]) | (with_reducible intro hnil; refine hJ _ _ ?_; clear hJ J; simp only [ak, reduceIte]; (try subst hnil))))))) | (refine awp_drawQ tabOk (by kernel_rfl) (by kernel_rfl) rfl rfl ?_; intro J hJ; simp [f9, f41, f42, hlt]; (repeat (refine And.intro (by first | omega | assumption | (simp only [maxLen]; omega) | decide) ?_)); (try (first | (refine hJ _ _ ?_; clear hJ J; simp only [ak, reduceIte]) | (with_reducible refine ⟨?_, ?_⟩ <;> (first | (refine hJ _ _ ?_; clear hJ J; simp only [ak, reduceIte]) | (with_reducible intro hnil; refine hJ _ _ ?_; clear hJ J; simp only [ak, reduceIte]; (try subst hnil))))))) | (refine e_go ?_; simp [f9, f41, f42, hlt]; (repeat (refine And.intro (by first | omega | assumption | (simp only [maxLen]; omega) | decide) ?_)); (try (first | (refine hJ _ _ ?_; clear hJ J; simp only [ak, reduceIte]) | (with_reducible refine ⟨?_, ?_⟩ <;> (first | (refine hJ _ _ ?_; clear hJ J; simp only [ak, reduceIte]) | (with_reducible intro hnil; refine hJ _ _ ?_; clear hJ J; simp only [ak, reduceIte]; (try subst hnil)))))))))
      exact ⟨t, _, _, ⟨rfl, rfl, rfl⟩, ⟨_, ⟨rfl, rfl⟩, hpt⟩, hkp⟩
    have hd := us_drop_getD g.vs k hlt
    have hw := nat_add_one k (by omega)
    have hst := hqq k
    rw [if_pos hlt] at hst
    have hle := List.length_filter_le (fun w => decide (w ∈ S)) (g.vs.take k)
    rw [List.length_take] at hle
    generalize hx : g.vs.getD k 0 = x at *
    generalize hFF : (g.vs.take k).filter (fun w => decide (w ∈ S)) = F at *
    have hIx := hIn x
    have ht2 : ¬ t = st3.next := by omega
    by_cases hxS : x ∈ S
    · rw [if_pos hxS] at hst
      rw [decide_eq_true hxS] at hIx
      (repeat' (first | (refine awp_seq ?_) | (refine awp_block ?_) | (refine awp_skip ?_; simp only [ak, reduceIte]) | (refine awp_exit ?_; simp only [ak, reduceIte]) | (refine awp_ret ?_; simp only [ak, reduceIte]; simp [f5, f9, f40, f41, f42, hlt, hd, hw, hM, hIx, htH, ht0, ht2]) | (refine awp_cond ?_; simp [f5, f9, f40, f41, f42, hlt, hd, hw, hM, hIx, htH, ht0, ht2]; (try (with_reducible refine ⟨?_, ?_⟩)) <;> (try (with_reducible intro hc)) <;> (try (exfalso; omega))) | (refine awp_regionE tabOk [] rfl ?_; intro J hJ; simp only []; simp [f5, f9, f40, f41, f42, hlt, hd, hw, hM, hIx, htH, ht0, ht2]; (repeat (refine And.intro (by first | omega | assumption | (simp only [maxLen]; omega) | decide) ?_)); (try (first | (refine hJ _ _ ?_; clear hJ J; simp only [ak, reduceIte]) | (with_reducible refine ⟨?_, ?_⟩ <;> (first | (refine hJ _ _ ?_; clear hJ J; simp only [ak, reduceIte]) | (with_reducible intro hnil; refine hJ _ _ ?_; clear hJ J; simp only [ak, reduceIte]; (try subst hnil))))))) | (refine awp_drawQ tabOk (by kernel_rfl) (by kernel_rfl) rfl rfl ?_; intro J hJ; simp [f5, f9, f40, f41, f42, hlt, hd, hw, hM, hIx, htH, ht0, ht2]; (repeat (refine And.intro (by first | omega | assumption | (simp only [maxLen]; omega) | decide) ?_)); (try (first | (refine hJ _ _ ?_; clear hJ J; simp only [ak, reduceIte]) | (with_reducible refine ⟨?_, ?_⟩ <;> (first | (refine hJ _ _ ?_; clear hJ J; simp only [ak, reduceIte]) | (with_reducible intro hnil; refine hJ _ _ ?_; clear hJ J; simp only [ak, reduceIte]; (try subst hnil))))))) | (refine e_go ?_; simp [f5, f9, f40, f41, f42, hlt, hd, hw, hM, hIx, htH, ht0, ht2]; (repeat (refine And.intro (by first | omega | assumption | (simp only [maxLen]; omega) | decide) ?_)); (try (first | (refine hJ _ _ ?_; clear hJ J; simp only [ak, reduceIte]) | (with_reducible refine ⟨?_, ?_⟩ <;> (first | (refine hJ _ _ ?_; clear hJ J; simp only [ak, reduceIte]) | (with_reducible intro hnil; refine hJ _ _ ?_; clear hJ J; simp only [ak, reduceIte]; (try subst hnil)))))))))
      have a1 : ¬ ms = st3.next := by omega
      have a2 : ¬ ms = st3.next + 1 := by omega
      have a3 : ¬ ms = t := fun h => by rw [h, htH] at hM; cases hM
      exact hJJ (g.vs.length - (k + 1)) _ _ (by omega) ⟨k + 1, by omega, rfl, by simp [f5], by simp [f40], by simp [f41], by simp, by simp [a1, a2, a3, hM], by simp; omega, st3.next + 1, by rw [hst]; simp, by omega, by omega, by simp, by rw [hst]; simp, (by repeat (first | exact hkp | (refine Keeps.trans ?_ (Keeps.new _ _)) | (refine Keeps.set ?_ (by have := hkp.next; omega) _)))⟩
    · rw [if_neg hxS] at hst
      rw [decide_eq_false hxS] at hIx
      (repeat' (first | (refine awp_seq ?_) | (refine awp_block ?_) | (refine awp_skip ?_; simp only [ak, reduceIte]) | (refine awp_exit ?_; simp only [ak, reduceIte]) | (refine awp_ret ?_; simp only [ak, reduceIte]; simp [f5, f9, f40, f41, f42, hlt, hd, hw, hM, hIx]) | (refine awp_cond ?_; simp [f5, f9, f40, f41, f42, hlt, hd, hw, hM, hIx]; (try (with_reducible refine ⟨?_, ?_⟩)) <;> (try (with_reducible intro hc)) <;> (try (exfalso; omega))) | (refine awp_regionE tabOk [] rfl ?_; intro J hJ; simp only []; simp [f5, f9, f40, f41, f42, hlt, hd, hw, hM, hIx]; (repeat (refine And.intro (by first | omega | assumption | (simp only [maxLen]; omega) | decide) ?_)); (try (first | (refine hJ _ _ ?_; clear hJ J; simp only [ak, reduceIte]) | (with_reducible refine ⟨?_, ?_⟩ <;> (first | (refine hJ _ _ ?_; clear hJ J; simp only [ak, reduceIte]) | (with_reducible intro hnil; refine hJ _ _ ?_; clear hJ J; simp only [ak, reduceIte]; (try subst hnil))))))) | (refine awp_drawQ tabOk (by kernel_rfl) (by kernel_rfl) rfl rfl ?_; intro J hJ; simp [f5, f9, f40, f41, f42, hlt, hd, hw, hM, hIx]; (repeat (refine And.intro (by first | omega | assumption | (simp only [maxLen]; omega) | decide) ?_)); (try (first | (refine hJ _ _ ?_; clear hJ J; simp only [ak, reduceIte]) | (with_reducible refine ⟨?_, ?_⟩ <;> (first | (refine hJ _ _ ?_; clear hJ J; simp only [ak, reduceIte]) | (with_reducible intro hnil; refine hJ _ _ ?_; clear hJ J; simp only [ak, reduceIte]; (try subst hnil))))))) | (refine e_go ?_; simp [f5, f9, f40, f41, f42, hlt, hd, hw, hM, hIx]; (repeat (refine And.intro (by first | omega | assumption | (simp only [maxLen]; omega) | decide) ?_)); (try (first | (refine hJ _ _ ?_; clear hJ J; simp only [ak, reduceIte]) | (with_reducible refine ⟨?_, ?_⟩ <;> (first | (refine hJ _ _ ?_; clear hJ J; simp only [ak, reduceIte]) | (with_reducible intro hnil; refine hJ _ _ ?_; clear hJ J; simp only [ak, reduceIte]; (try subst hnil)))))))))
      exact hJJ (g.vs.length - (k + 1)) _ _ (by omega) ⟨k + 1, by omega, rfl, by simp [f5], by simp [f40], by simp [f41], by simp, hM, hm3, t, by rw [hst]; simp [f9], ht0, htl, htn, by rw [hst]; exact htH, hkp⟩
  have hSl := hF.len hg hvin
  obtain ⟨f2, f5, hm1, hm2, hkp, hG, es, hM, hIn⟩ := id hI
  (repeat' (first | (refine awp_seq ?_) | (refine awp_block ?_) | (refine awp_skip ?_; simp only [ak, reduceIte]) | (refine awp_exit ?_; simp only [ak, reduceIte]) | (refine awp_ret ?_; simp only [ak, reduceIte]; simp [f6, f2, hG]) | (refine awp_cond ?_; simp [f6, f2, hG]; (try (with_reducible refine ⟨?_, ?_⟩)) <;> (try (with_reducible intro hc)) <;> (try (exfalso; omega))) | (refine awp_regionE tabOk [] rfl ?_; intro J hJ; simp only []; simp [f6, f2, hG]; (repeat (refine And.intro (by first | omega | assumption | (simp only [maxLen]; omega) | decide) ?_)); (try (first | (refine hJ _ _ ?_; clear hJ J; simp only [ak, reduceIte]) | (with_reducible refine ⟨?_, ?_⟩ <;> (first | (refine hJ _ _ ?_; clear hJ J; simp only [ak, reduceIte]) | (with_reducible intro hnil; refine hJ _ _ ?_; clear hJ J; simp only [ak, reduceIte]; (try subst hnil))))))) | (refine awp_drawQ tabOk (by kernel_rfl) (by kernel_rfl) rfl rfl ?_; intro J hJ; simp [f6, f2, hG]; (repeat (refine And.intro (by first | omega | assumption | (simp only [maxLen]; omega) | decide) ?_)); (try (first | (refine hJ _ _ ?_; clear hJ J; simp only [ak, reduceIte]) | (with_reducible refine ⟨?_, ?_⟩ <;> (first | (refine hJ _ _ ?_; clear hJ J; simp only [ak, reduceIte]) | (with_reducible intro hnil; refine hJ _ _ ?_; clear hJ J; simp only [ak, reduceIte]; (try subst hnil))))))) | (refine e_go ?_; simp [f6, f2, hG]; (repeat (refine And.intro (by first | omega | assumption | (simp only [maxLen]; omega) | decide) ?_)); (try (first | (refine hJ _ _ ?_; clear hJ J; simp only [ak, reduceIte]) | (with_reducible refine ⟨?_, ?_⟩ <;> (first | (refine hJ _ _ ?_; clear hJ J; simp only [ak, reduceIte]) | (with_reducible intro hnil; refine hJ _ _ ?_; clear hJ J; simp only [ak, reduceIte]; (try subst hnil)))))))))
  refine awp_loop (fun z fr st2 => ∃ (k : Nat) (gr : Bool) (S' : List Int), k ≤ g.es.length ∧ z = g.es.length - k ∧ fr 6 = bb gr ∧ fr 17 = .sl 0 g.es.length (eds g.es) ∧ fr 18 = i g.es.length ∧ fr 19 = i k ∧ Flood g v S' ∧ (gr = false → Even (g.es.take k) S') ∧ (gr = true → S.length < S'.length) ∧ S.length ≤ S'.length ∧ RpI ms g st S' fr st2) g.es.length ?_ ?_
  · exact ⟨0, false, S, by omega, by omega, by simp, by simp, by simp, by simp, hF, fun _ x hx => by simp at hx, fun h => absurd h (by simp), Nat.le_refl _, hI.fr (by simp) (by simp)⟩
  clear f2 f5 f6 hI hE hF hm1 hm2 hkp hG hM hIn es fr st2
  rintro z fr st2 ⟨k, gr, S', hk, rfl, f6, f17, f18, f19, hF, hE, hG2, hSS, hI⟩ J2 hJ2
  have hSl2 := hF.len hg hvin
  obtain ⟨f2, f5, hm1, hm2, hkp, hG, es, hM, hIn⟩ := id hI
  by_cases hlt : k < g.es.length
  rotate_left
  · clear hJ2
    have hk' : k = g.es.length := by omega
    rw [hk', List.take_length] at hE
    (repeat' (first | (refine awp_seq ?_) | (refine awp_block ?_) | (refine awp_skip ?_; simp only [ak, reduceIte]) | (refine awp_exit ?_; simp only [ak, reduceIte]) | (refine awp_ret ?_; simp only [ak, reduceIte]; simp [f18, f19, hlt]) | (refine awp_cond ?_; simp [f18, f19, hlt]; (try (with_reducible refine ⟨?_, ?_⟩)) <;> (try (with_reducible intro hc)) <;> (try (exfalso; omega))) | (refine awp_regionE tabOk [] rfl ?_; intro J hJ; simp only []; simp [f18, f19, hlt]; (repeat (refine And.intro (by first | omega | assumption | (simp only [maxLen]; omega) | decide) ?_)); (try (first | (refine hJ _ _ ?_; clear hJ J; simp only [ak, reduceIte]) | (with_reducible refine ⟨?_, ?_⟩ <;> (first | (refine hJ _ _ ?_; clear hJ J; simp only [ak, reduceIte]) | (with_reducible intro hnil; refine hJ _ _ ?_; clear hJ J; simp only [ak, reduceIte]; (try subst hnil))))))) | (refine awp_drawQ tabOk (by kernel_rfl) (by kernel_rfl) rfl rfl ?_; intro J hJ; simp [f18, f19, hlt]; (repeat (refine And.intro (by first | omega | assumption | (simp only [maxLen]; omega) | decide) ?_)); (try (first | (refine hJ _ _ ?_; clear hJ J; simp only [ak, reduceIte]) | (with_reducible refine ⟨?_, ?_⟩ <;> (first | (refine hJ _ _ ?_; clear hJ J; simp only [ak, reduceIte]) | (with_reducible intro hnil; refine hJ _ _ ?_; clear hJ J; simp only [ak, reduceIte]; (try subst hnil))))))) | (refine e_go ?_; simp [f18, f19, hlt]; (repeat (refine And.intro (by first | omega | assumption | (simp only [maxLen]; omega) | decide) ?_)); (try (first | (refine hJ _ _ ?_; clear hJ J; simp only [ak, reduceIte]) | (with_reducible refine ⟨?_, ?_⟩ <;> (first | (refine hJ _ _ ?_; clear hJ J; simp only [ak, reduceIte]) | (with_reducible intro hnil; refine hJ _ _ ?_; clear hJ J; simp only [ak, reduceIte]; (try subst hnil)))))))))
    refine hJJ (if gr = true then g.vs.length + 1 - S'.length else 0) _ _ ?_ ⟨gr, S', rfl, by simp [f6], hF, hE, hI.fr (by simp) (by simp)⟩
    cases gr
    · simp; omega
    · have := hG2 rfl; simp; omega
  clear hJJ
  have hd := eds_drop g.es k hlt
  have hw := nat_add_one k (by omega)
  have hk3 : k * 3 < g.es.length * 3 := by omega
  have hxin : g.es.getD k ed0 ∈ g.es := by rw [List.getD_eq_getElem?_getD, List.getElem?_eq_getElem hlt]; exact List.getElem_mem hlt
  have hEn : (gr = false → Even (g.es.take k) S') → ((g.es.getD k ed0).a ∈ S' ↔ (g.es.getD k ed0).b ∈ S') → (gr = false → Even (g.es.take (k + 1)) S') := by
    intro h1 h2 h3 y hy
    rw [List.take_succ_eq_append_getElem hlt, List.mem_append, List.mem_singleton] at hy
    rcases hy with hy | rfl
    · exact h1 h3 y hy
    · rw [List.getD_eq_getElem?_getD, List.getElem?_eq_getElem hlt] at h2; exact h2
  generalize hx : g.es.getD k ed0 = x at *
  obtain ⟨id, a, b⟩ := x
  simp only at hd hEn
  have hIa := hIn a
  have hIb := hIn b
  have a1 : ¬ ms = st2.next := by omega
  have a2 : ¬ st2.next = ms := by omega
  have a3 : ¬ st.next = st2.next := by omega
  have a4 : ¬ st.next = ms := by omega
  by_cases hab : (a ∈ S' ↔ b ∈ S')
  · have hdd : decide (a ∈ S') = decide (b ∈ S') := decide_eq_decide.2 hab
    rw [hdd] at hIa
    (repeat' (first | (refine awp_seq ?_) | (refine awp_block ?_) | (refine awp_skip ?_; simp only [ak, reduceIte]) | (refine awp_exit ?_; simp only [ak, reduceIte]) | (refine awp_ret ?_; simp only [ak, reduceIte]; simp [f5, f17, f18, f19, hlt, hd, hel, hw, hM, hIa, hIb, a1, a2]) | (refine awp_cond ?_; simp [f5, f17, f18, f19, hlt, hd, hel, hw, hM, hIa, hIb, a1, a2]; (try (with_reducible refine ⟨?_, ?_⟩)) <;> (try (with_reducible intro hc)) <;> (try (exfalso; omega))) | (refine awp_regionE tabOk [] rfl ?_; intro J hJ; simp only []; simp [f5, f17, f18, f19, hlt, hd, hel, hw, hM, hIa, hIb, a1, a2]; (repeat (refine And.intro (by first | omega | assumption | (simp only [maxLen]; omega) | decide) ?_)); (try (first | (refine hJ _ _ ?_; clear hJ J; simp only [ak, reduceIte]) | (with_reducible refine ⟨?_, ?_⟩ <;> (first | (refine hJ _ _ ?_; clear hJ J; simp only [ak, reduceIte]) | (with_reducible intro hnil; refine hJ _ _ ?_; clear hJ J; simp only [ak, reduceIte]; (try subst hnil))))))) | (refine awp_drawQ tabOk (by kernel_rfl) (by kernel_rfl) rfl rfl ?_; intro J hJ; simp [f5, f17, f18, f19, hlt, hd, hel, hw, hM, hIa, hIb, a1, a2]; (repeat (refine And.intro (by first | omega | assumption | (simp only [maxLen]; omega) | decide) ?_)); (try (first | (refine hJ _ _ ?_; clear hJ J; simp only [ak, reduceIte]) | (with_reducible refine ⟨?_, ?_⟩ <;> (first | (refine hJ _ _ ?_; clear hJ J; simp only [ak, reduceIte]) | (with_reducible intro hnil; refine hJ _ _ ?_; clear hJ J; simp only [ak, reduceIte]; (try subst hnil))))))) | (refine e_go ?_; simp [f5, f17, f18, f19, hlt, hd, hel, hw, hM, hIa, hIb, a1, a2]; (repeat (refine And.intro (by first | omega | assumption | (simp only [maxLen]; omega) | decide) ?_)); (try (first | (refine hJ _ _ ?_; clear hJ J; simp only [ak, reduceIte]) | (with_reducible refine ⟨?_, ?_⟩ <;> (first | (refine hJ _ _ ?_; clear hJ J; simp only [ak, reduceIte]) | (with_reducible intro hnil; refine hJ _ _ ?_; clear hJ J; simp only [ak, reduceIte]; (try subst hnil)))))))))
    exact hJ2 (g.es.length - (k + 1)) _ _ (by omega) ⟨k + 1, gr, S', by omega, rfl, by simp [f6], by simp [f17], by simp [f18], by simp, hF, hEn hE hab, hG2, hSS, by simp [f2], by simp [f5], hm1, by simp; omega, (by repeat (first | exact hkp | (refine Keeps.trans ?_ (Keeps.new _ _)) | (refine Keeps.set ?_ (by have := hkp.next; omega) _))), by simp [a3, hG], es, by simp [a1, hM], hIn⟩
  · have hdd : ¬ decide (a ∈ S') = decide (b ∈ S') := fun h => hab (decide_eq_decide.1 h)
    have hIn2 := (hIn.step a).step b
    obtain ⟨S2, hS2, hF2, hl2⟩ : ∃ S2, (∀ z, z ∈ S2 ↔ z ∈ S' ++ [a] ++ [b]) ∧ Flood g v S2 ∧ S'.length < S2.length := by
      by_cases ha : a ∈ S'
      · have hb : b ∉ S' := fun h => hab ⟨fun _ => h, fun _ => ha⟩
        refine ⟨S' ++ [b], fun z => ?_, hF.push hxin ha hb (.inl ⟨rfl, rfl⟩), by simp⟩
        simp only [List.mem_append, List.mem_singleton]
        exact ⟨fun h => h.elim (fun h => .inl (.inl h)) .inr, fun h => h.elim (fun h => h.elim .inl (fun h => .inl (h ▸ ha))) .inr⟩
      · have hb : b ∈ S' := Classical.byContradiction fun h => hab ⟨fun h1 => absurd h1 ha, fun h1 => absurd h1 h⟩
        refine ⟨S' ++ [a], fun z => ?_, hF.push hxin hb ha (.inr ⟨rfl, rfl⟩), by simp⟩
        simp only [List.mem_append, List.mem_singleton]
        exact ⟨fun h => h.elim (fun h => .inl (.inl h)) (fun h => .inl (.inr h)), fun h => h.elim (fun h => h.elim .inl .inr) (fun h => .inl (h ▸ hb))⟩
    have hIn3 := hIn2.congr hS2
    (repeat' (first | (refine awp_seq ?_) | (refine awp_block ?_) | (refine awp_skip ?_; simp only [ak, reduceIte]) | (refine awp_exit ?_; simp only [ak, reduceIte]) | (refine awp_ret ?_; simp only [ak, reduceIte]; simp [f5, f17, f18, f19, hlt, hd, hel, hw, hM, hIa, hIb, hdd, a1, a2]) | (refine awp_cond ?_; simp [f5, f17, f18, f19, hlt, hd, hel, hw, hM, hIa, hIb, hdd, a1, a2]; (try (with_reducible refine ⟨?_, ?_⟩)) <;> (try (with_reducible intro hc)) <;> (try (exfalso; omega))) | (refine awp_regionE tabOk [] rfl ?_; intro J hJ; simp only []; simp [f5, f17, f18, f19, hlt, hd, hel, hw, hM, hIa, hIb, hdd, a1, a2]; (repeat (refine And.intro (by first | omega | assumption | (simp only [maxLen]; omega) | decide) ?_)); (try (first | (refine hJ _ _ ?_; clear hJ J; simp only [ak, reduceIte]) | (with_reducible refine ⟨?_, ?_⟩ <;> (first | (refine hJ _ _ ?_; clear hJ J; simp only [ak, reduceIte]) | (with_reducible intro hnil; refine hJ _ _ ?_; clear hJ J; simp only [ak, reduceIte]; (try subst hnil))))))) | (refine awp_drawQ tabOk (by kernel_rfl) (by kernel_rfl) rfl rfl ?_; intro J hJ; simp [f5, f17, f18, f19, hlt, hd, hel, hw, hM, hIa, hIb, hdd, a1, a2]; (repeat (refine And.intro (by first | omega | assumption | (simp only [maxLen]; omega) | decide) ?_)); (try (first | (refine hJ _ _ ?_; clear hJ J; simp only [ak, reduceIte]) | (with_reducible refine ⟨?_, ?_⟩ <;> (first | (refine hJ _ _ ?_; clear hJ J; simp only [ak, reduceIte]) | (with_reducible intro hnil; refine hJ _ _ ?_; clear hJ J; simp only [ak, reduceIte]; (try subst hnil))))))) | (refine e_go ?_; simp [f5, f17, f18, f19, hlt, hd, hel, hw, hM, hIa, hIb, hdd, a1, a2]; (repeat (refine And.intro (by first | omega | assumption | (simp only [maxLen]; omega) | decide) ?_)); (try (first | (refine hJ _ _ ?_; clear hJ J; simp only [ak, reduceIte]) | (with_reducible refine ⟨?_, ?_⟩ <;> (first | (refine hJ _ _ ?_; clear hJ J; simp only [ak, reduceIte]) | (with_reducible intro hnil; refine hJ _ _ ?_; clear hJ J; simp only [ak, reduceIte]; (try subst hnil)))))))))
    exact hJ2 (g.es.length - (k + 1)) _ _ (by omega) ⟨k + 1, true, S2, by omega, rfl, by simp, by simp [f17], by simp [f18], by simp, hF2, fun h => absurd h (by simp), fun _ => by omega, by omega, by simp [f2], by simp [f5], hm1, by simp; omega, (by repeat (first | exact hkp | (refine Keeps.trans ?_ (Keeps.new _ _)) | (refine Keeps.set ?_ (by have := hkp.next; omega) _))), by simp [a3, a4, hG], _, by simp, hIn3⟩

end Go.Proofs.Ytphdhggoaijfoaa.Aw
