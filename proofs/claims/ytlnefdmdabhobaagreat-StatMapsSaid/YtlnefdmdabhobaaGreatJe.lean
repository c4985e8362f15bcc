/- Plain: both ways from one vertex to another one are the same. No program. Plain: both ways from one vertex to another one are the same: the searches. No program. color.free: the least color that none of some vertices has. Plain: bundles. No program. block.Simple: of each bundle one edge, and the bundles. block.nearby: the near ones of each vertex, rising; Near. color.Greedy. block.back: the way back. block.Path: the way from one vertex to another one. -/
import Derived.Test.YtlnefdmdabhobaaGreatJd
import Derived.Test.YtlnefdmdabhobaaGreatAwGo
import Derived.Test.YtlnefdmdabhobaaGreatAwRg
import Derived.Test.YtlnefdmdabhobaaGreatAwZ
import Derived.Test.YtlnefdmdabhobaaGreatAwFz
import Derived.Test.YtlnefdmdabhobaaGreatAwMr4
namespace Go.Proofs.YtlnefdmdabhobaaGreat.Aw
open Go Go.RowKit Go.Proofs.YtlnefdmdabhobaaGreat.Pl
set_option linter.unusedSimpArgs false
set_option linter.unusedVariables false

structure FG (from' : Int) (F : Fnd) : Prop where
  pos : 0 < F.length
  hd : F.getD 0 (0, 0) = (from', 0)
  par : ∀ k, k < F.length → pAt F k < F.length ∧ (0 < k → pAt F k < k)
  nd : (F.map (·.1)).Nodup
def led (F : Fnd) : Led := F.map fun p => (p.1, fAt F p.2)
theorem led_keys (F : Fnd) : (led F).map (·.1) = F.map (·.1) := by simp [led, List.map_map]
theorem fAt_append {F D : Fnd} {k : Nat} (h : k < F.length) : fAt (F ++ D) k = fAt F k := by unfold fAt; rw [getD_append_lt _ _ _ h]
theorem pAt_append {F D : Fnd} {k : Nat} (h : k < F.length) : pAt (F ++ D) k = pAt F k := by unfold pAt; rw [getD_append_lt _ _ _ h]
theorem at_last (F : Fnd) (p : Int × Nat) : fAt (F ++ [p]) F.length = p.1 ∧ pAt (F ++ [p]) F.length = p.2 := by
  unfold fAt pAt; simp
theorem mem_at {F : Fnd} {p : Int × Nat} (h : p ∈ F) : ∃ k, k < F.length ∧ fAt F k = p.1 ∧ pAt F k = p.2 := by
  obtain ⟨k, hk, e⟩ := List.getElem_of_mem h
  refine ⟨k, hk, ?_, ?_⟩
  · unfold fAt; rw [List.getD_eq_getElem?_getD, List.getElem?_eq_getElem hk, e]; rfl
  · unfold pAt; rw [List.getD_eq_getElem?_getD, List.getElem?_eq_getElem hk, e]; rfl
theorem at_mem {F : Fnd} {k : Nat} (h : k < F.length) : fAt F k ∈ F.map (·.1) := by
  unfold fAt
  rw [List.getD_eq_getElem?_getD, List.getElem?_eq_getElem h]
  exact List.mem_map.2 ⟨F[k], List.getElem_mem _, rfl⟩
theorem FG.snoc {from' : Int} {F : Fnd} (h : FG from' F) {w : Int} {k : Nat} (hw : w ∉ F.map (·.1)) (hk : k < F.length) : FG from' (F ++ [(w, k)]) := by
  refine ⟨by simp, by rw [getD_append_lt _ _ _ h.pos]; exact h.hd, fun j hj => ?_, ?_⟩
  · rw [List.length_append, List.length_singleton] at hj ⊢
    by_cases hj2 : j < F.length
    · rw [pAt_append hj2]; have := h.par j hj2; exact ⟨by omega, this.2⟩
    · obtain rfl : j = F.length := by omega
      rw [(at_last F (w, k)).2]; simp only; omega
  · rw [List.map_append, List.nodup_append]
    exact ⟨h.nd, by simp, fun a ha b hb => by simp at hb; subst hb; rintro rfl; exact hw ha⟩
theorem led_snoc {from' : Int} {F : Fnd} (h : FG from' F) {w : Int} {k : Nat} (hk : k < F.length) : led (F ++ [(w, k)]) = led F ++ [(w, fAt F k)] := by
  unfold led
  rw [List.map_append]
  congr 1
  · refine List.map_congr_left fun p hp => ?_
    obtain ⟨j, hj, e1, e2⟩ := mem_at hp
    have := (h.par j hj).1
    rw [e2] at this
    rw [fAt_append this]
  · simp [fAt_append hk]
theorem scanR_pre (k : Nat) (F : Fnd) (row : List Int) : ∃ D, scanR k F row = F ++ D := by
  induction row generalizing F with
  | nil => exact ⟨[], by simp [scanR]⟩
  | cons w row ih =>
    obtain ⟨D, hD⟩ := ih (scanR1 k F w)
    simp only [scanR, List.foldl_cons] at hD ⊢
    unfold scanR1 at hD ⊢
    split at hD
    · rename_i h; rw [if_pos h]; exact ⟨D, hD⟩
    · rename_i h; rw [if_neg h]; exact ⟨(w, k) :: D, by rw [hD]; simp⟩

theorem scan_rel {from' to v : Int} {may : Int → Bool} {k : Nat} (row : List Int) : ∀ (F : Fnd) (Q : List Int), FG from' F → k < F.length → fAt F k = v → to ∉ F.map (·.1) →
    ∃ D, scanR k F row = F ++ D ∧ FG from' (F ++ D) ∧ (∀ p ∈ D, p.1 ∈ row) ∧
      (to ∉ row → scanL may to v ⟨led F, Q, false⟩ row = ⟨led (F ++ D), Q ++ (D.map (·.1)).filter may, false⟩) ∧
      (to ∈ row → (scanL may to v ⟨led F, Q, false⟩ row).hit = true ∧ ∃ D1 D2, D = D1 ++ D2 ∧ (scanL may to v ⟨led F, Q, false⟩ row).A = led (F ++ D1) ∧ to ∈ D1.map (·.1) ∧ FG from' (F ++ D1)) := by
  induction row with
  | nil => intro F Q h hk hv ht; exact ⟨[], by simp [scanR], by simpa using h, by simp, fun _ => by simp [scanL], fun h => by simp at h⟩
  | cons w row ih =>
    intro F Q h hk hv ht
    by_cases hw : w ∈ F.map (·.1)
    · obtain ⟨D, h1, h2, h3, h4, h5⟩ := ih F Q h hk hv ht
      have hwt : ¬ w = to := fun e => ht (e ▸ hw)
      have e1 : scanR k F (w :: row) = scanR k F row := by simp only [scanR, List.foldl_cons]; congr 1; unfold scanR1; rw [if_pos hw]
      have e2 : scanL may to v ⟨led F, Q, false⟩ (w :: row) = scanL may to v ⟨led F, Q, false⟩ row := by
        simp only [scanL, List.foldl_cons]; congr 1; unfold scan1; rw [if_neg (by simp), if_pos (by rw [led_keys]; exact hw)]
      refine ⟨D, by rw [e1]; exact h1, h2, fun p hp => List.mem_cons_of_mem _ (h3 p hp), fun hno => ?_, fun hin => ?_⟩
      · rw [e2]; exact h4 fun h => hno (List.mem_cons_of_mem _ h)
      · rw [e2]
        rcases List.mem_cons.1 hin with e | hin
        · exact absurd e.symm hwt
        · exact h5 hin
    · have e1 : scanR k F (w :: row) = scanR k (F ++ [(w, k)]) row := by simp only [scanR, List.foldl_cons]; congr 1; unfold scanR1; rw [if_neg hw]
      have hls : led F ++ [(w, v)] = led (F ++ [(w, k)]) := by rw [led_snoc h hk, hv]
      have hg := h.snoc hw hk
      by_cases hwt : w = to
      · subst hwt
        have e2 : scanL may w v ⟨led F, Q, false⟩ (w :: row) = ⟨led (F ++ [(w, k)]), Q, true⟩ := by
          have : scan1 may w v ⟨led F, Q, false⟩ w = ⟨led (F ++ [(w, k)]), Q, true⟩ := by unfold scan1; rw [if_neg (by simp), if_neg (by rw [led_keys]; exact hw), if_pos rfl, hls]
          have h2 := scanL_hit may w v (S := ⟨led (F ++ [(w, k)]), Q, true⟩) rfl row
          simp only [scanL, List.foldl_cons] at h2 ⊢
          rw [this]; exact h2
        obtain ⟨D, hD⟩ := scanR_pre k (F ++ [(w, k)]) row
        have hall : FG from' (F ++ [(w, k)] ++ D) ∧ ∀ p ∈ D, p.1 ∈ row := by
          rw [← hD]
          clear e1 e2 hls hv
          have : ∀ (row : List Int) (G : Fnd), FG from' G → k < G.length → FG from' (scanR k G row) ∧ ∀ D, scanR k G row = G ++ D → ∀ p ∈ D, p.1 ∈ row := by
            intro row
            induction row with
            | nil => intro G h1 h2; exact ⟨h1, fun D hD p hp => by simp [scanR] at hD; subst hD; simp at hp⟩
            | cons x row ih2 =>
              intro G h1 h2
              by_cases hx : x ∈ G.map (·.1)
              · have e : scanR k G (x :: row) = scanR k G row := by simp only [scanR, List.foldl_cons]; congr 1; unfold scanR1; rw [if_pos hx]
                rw [e]
                obtain ⟨a1, a2⟩ := ih2 G h1 h2
                exact ⟨a1, fun D hD p hp => List.mem_cons_of_mem _ (a2 D hD p hp)⟩
              · have e : scanR k G (x :: row) = scanR k (G ++ [(x, k)]) row := by simp only [scanR, List.foldl_cons]; congr 1; unfold scanR1; rw [if_neg hx]
                rw [e]
                obtain ⟨a1, a2⟩ := ih2 (G ++ [(x, k)]) (h1.snoc hx h2) (by simp; omega)
                refine ⟨a1, fun D hD p hp => ?_⟩
                obtain ⟨D', hD'⟩ := scanR_pre k (G ++ [(x, k)]) row
                rw [hD', List.append_assoc] at hD
                have := List.append_cancel_left hD
                subst this
                rcases List.mem_append.1 hp with hp | hp
                · rw [List.mem_singleton] at hp; subst hp; simp
                · exact List.mem_cons_of_mem _ (a2 D' hD' p hp)
          obtain ⟨a1, a2⟩ := this row _ hg (by simp; omega)
          exact ⟨a1, a2 D hD⟩
        refine ⟨(w, k) :: D, by rw [e1, hD]; simp, by have := hall.1; simpa using this, fun p hp => ?_, fun hno => absurd (by simp) hno, fun _ => ⟨by rw [e2], [(w, k)], D, rfl, by rw [e2], by simp, hg⟩⟩
        rcases List.mem_cons.1 hp with rfl | hp
        · simp
        · exact List.mem_cons_of_mem _ (hall.2 p hp)
      · have e2 : scanL may to v ⟨led F, Q, false⟩ (w :: row) = scanL may to v ⟨led (F ++ [(w, k)]), Q ++ [w].filter may, false⟩ row := by
          have : scan1 may to v ⟨led F, Q, false⟩ w = ⟨led (F ++ [(w, k)]), Q ++ [w].filter may, false⟩ := by
            unfold scan1
            rw [if_neg (by simp), if_neg (by rw [led_keys]; exact hw), if_neg hwt, hls]
            by_cases hm : may w = true <;> simp [hm]
          simp only [scanL, List.foldl_cons]
          rw [this]
        obtain ⟨D, h1, h2, h3, h4, h5⟩ := ih (F ++ [(w, k)]) (Q ++ [w].filter may) hg (by simp; omega) (by rw [fAt_append hk]; exact hv) (by
          rw [List.map_append, List.mem_append]; rintro (h | h)
          · exact ht h
          · simp at h; exact hwt h.symm)
        refine ⟨(w, k) :: D, by rw [e1, h1]; simp, by simpa using h2, fun p hp => ?_, fun hno => ?_, fun hin => ?_⟩
        · rcases List.mem_cons.1 hp with rfl | hp
          · simp
          · exact List.mem_cons_of_mem _ (h3 p hp)
        · rw [e2, h4 fun h => hno (List.mem_cons_of_mem _ h)]
          have e3 : ((w, k) :: D).map (·.1) = [w] ++ D.map (·.1) := rfl
          rw [e3, List.filter_append, List.append_assoc, List.append_assoc]
          rfl
        · rw [e2]
          obtain ⟨k1, D1, D2, k2, k3, k4, k5⟩ := h5 (by rcases List.mem_cons.1 hin with e | hin; exact absurd e.symm hwt; exact hin)
          exact ⟨k1, (w, k) :: D1, D2, by rw [k2]; rfl, by rw [k3]; simp, by simp only [List.map_cons, List.mem_cons]; exact .inr k4, by simpa using k5⟩

end Go.Proofs.YtlnefdmdabhobaaGreat.Aw

namespace Go.Proofs.YtlnefdmdabhobaaGreat.Aw
open Go Go.RowKit Go.Proofs.YtlnefdmdabhobaaGreat.Pl
set_option linter.unusedSimpArgs false
set_option linter.unusedVariables false

theorem bfs_up {near : Int → List Int} {may : Int → Bool} {to : Int} : ∀ {n : Nat} {A : Led} {Q : List Int} {r : Option Led}, bfs near may to n A Q = some r → bfs near may to (n + 1) A Q = some r
  | n, A, [], r, h => by
    cases n <;> (simp only [bfs] at h ⊢; exact h)
  | 0, A, v :: Q, r, h => by simp [bfs] at h
  | n + 1, A, v :: Q, r, h => by
    rw [bfs] at h ⊢
    split at h
    · rename_i hh; rw [if_pos hh]; exact h
    · rename_i hh; rw [if_neg hh]; exact bfs_up h

/-- The one sought stands among the found ones: it is come to. -/
theorem found_rel {near : Int → List Int} {may : Int → Bool} {from' to : Int} {p : Nat} : ∀ (n k : Nat) (F : Fnd) (R : Option (Fnd × Nat)), FG from' F → k ≤ p → p < F.length → fAt F p = to → refRun near may to n k F = some R →
    ∃ D, R = some (F ++ D, p) ∧ FG from' (F ++ D) ∧ p + 1 ≤ k + n := by
  intro n
  induction n with
  | zero => intro k F R h hk hp hf hr; simp only [refRun, if_pos (show k < F.length by omega)] at hr; cases hr
  | succ n ih =>
    intro k F R h hk hp hf hr
    simp only [refRun, if_pos (show k < F.length by omega)] at hr
    by_cases hkp : k = p
    · subst hkp
      rw [if_pos hf] at hr
      injection hr with hr
      subst hr
      exact ⟨[], by simp, by simpa using h, by omega⟩
    · have hne : ¬ fAt F k = to := by
        intro e
        have hnd := h.nd
        have h1 : (F.map (·.1))[k]'(by simp; omega) = (F.map (·.1))[p]'(by simp; omega) := by
          have e1 : fAt F k = F[k].1 := by unfold fAt; rw [List.getD_eq_getElem?_getD, List.getElem?_eq_getElem (by omega)]; rfl
          have e2 : fAt F p = F[p].1 := by unfold fAt; rw [List.getD_eq_getElem?_getD, List.getElem?_eq_getElem (by omega)]; rfl
          rw [List.getElem_map, List.getElem_map, ← e1, ← e2, e, hf]
        have := (List.pairwise_iff_getElem.1 hnd) k p (by simp; omega) (by simp; omega) (by omega)
        exact this h1
      rw [if_neg hne] at hr
      split at hr
      · have hkl : k < F.length := by omega
        obtain ⟨D, h1, h2⟩ := (show ∃ D, scanR k F (near (fAt F k)) = F ++ D ∧ FG from' (F ++ D) by
          have : ∀ (row : List Int) (G : Fnd), FG from' G → k < G.length → ∃ D, scanR k G row = G ++ D ∧ FG from' (G ++ D) := by
            intro row
            induction row with
            | nil => intro G h1 h2; exact ⟨[], by simp [scanR], by simpa using h1⟩
            | cons x row ih2 =>
              intro G h1 h2
              by_cases hx : x ∈ G.map (·.1)
              · have e : scanR k G (x :: row) = scanR k G row := by simp only [scanR, List.foldl_cons]; congr 1; unfold scanR1; rw [if_pos hx]
                rw [e]; exact ih2 G h1 h2
              · have e : scanR k G (x :: row) = scanR k (G ++ [(x, k)]) row := by simp only [scanR, List.foldl_cons]; congr 1; unfold scanR1; rw [if_neg hx]
                rw [e]
                obtain ⟨D, a1, a2⟩ := ih2 (G ++ [(x, k)]) (h1.snoc hx h2) (by simp; omega)
                exact ⟨(x, k) :: D, by rw [a1]; simp, by simpa using a2⟩
          exact this _ F h hkl)
        rw [h1] at hr
        obtain ⟨D2, k1, k2, k3⟩ := ih (k + 1) (F ++ D) R h2 (by omega) (by simp; omega) (by rw [fAt_append hp]; exact hf) hr
        exact ⟨D ++ D2, by rw [k1]; simp, by simpa using k2, by omega⟩
      · obtain ⟨D2, k1, k2, k3⟩ := ih (k + 1) F R h (by omega) hp hf hr
        exact ⟨D2, k1, k2, by omega⟩

/-- What both searches have come to. -/
def SamePQ (from' to : Int) (n : Nat) (R : Option (Fnd × Nat)) (R' : Option Led) : Prop :=
  (R = none ∧ R' = none) ∨ ∃ F1 D p, R = some (F1 ++ D, p) ∧ R' = some (led F1) ∧ FG from' F1 ∧ p < F1.length ∧ fAt F1 p = to ∧ p + 1 ≤ n

theorem run_rel {near : Int → List Int} {may : Int → Bool} {from' to : Int} : ∀ (n k : Nat) (F : Fnd) (R : Option (Fnd × Nat)), FG from' F → 0 < k → k ≤ F.length → to ∉ F.map (·.1) → refRun near may to n k F = some R →
    ∃ R', bfs near may to n (led F) (((F.drop k).map (·.1)).filter may) = some R' ∧ SamePQ from' to (k + n) R R' := by
  intro n
  induction n with
  | zero =>
    intro k F R h hk hkF ht hr
    simp only [refRun] at hr
    split at hr
    · cases hr
    · have : F.drop k = [] := List.drop_eq_nil_of_le (by omega)
      rw [this]
      injection hr with hr
      exact ⟨none, by simp [bfs], .inl ⟨hr.symm, rfl⟩⟩
  | succ n ih =>
    intro k F R h hk hkF ht hr
    by_cases hlt : k < F.length
    rotate_left
    · simp only [refRun, if_neg hlt, Option.some.injEq] at hr
      have : F.drop k = [] := List.drop_eq_nil_of_le (by omega)
      rw [this]
      exact ⟨none, by simp [bfs], .inl ⟨hr.symm, rfl⟩⟩
    simp only [refRun, if_pos hlt] at hr
    have hne : ¬ fAt F k = to := fun e => ht (e ▸ at_mem hlt)
    rw [if_neg hne] at hr
    have hdr : (F.drop k).map (·.1) = fAt F k :: (F.drop (k + 1)).map (·.1) := by
      rw [List.drop_eq_getElem_cons hlt, List.map_cons]
      congr 1
      unfold fAt; rw [List.getD_eq_getElem?_getD, List.getElem?_eq_getElem hlt]; rfl
    by_cases hm : may (fAt F k) = true
    rotate_left
    · rw [if_neg (by rintro (h1 | h1); omega; exact hm h1)] at hr
      obtain ⟨R', h1, h2⟩ := ih (k + 1) F R h (by omega) (by omega) ht hr
      rw [hdr, List.filter_cons_of_neg (by simpa using hm)]
      exact ⟨R', bfs_up h1, by rw [show k + (n + 1) = k + 1 + n by omega]; exact h2⟩
    · rw [if_pos (.inr hm)] at hr
      rw [hdr, List.filter_cons_of_pos (by simpa using hm), bfs]
      obtain ⟨D, h1, h2, h3, h4, h5⟩ := scan_rel (may := may) (near (fAt F k)) F (((F.drop (k + 1)).map (·.1)).filter may) h hlt rfl ht
      by_cases hin : to ∈ near (fAt F k)
      · obtain ⟨g1, D1, D2, g2, g3, g4, g5⟩ := h5 hin
        rw [if_pos g1, g3]
        refine ⟨_, rfl, ?_⟩
        rw [h1, g2, ← List.append_assoc] at hr
        obtain ⟨x, hx, hx1⟩ := List.mem_map.1 g4
        obtain ⟨p, hp, e1, _⟩ := mem_at (F := F ++ D1) (p := x) (List.mem_append_right _ hx)
        have hpk : k + 1 ≤ p := by
          rcases Nat.lt_or_ge p (k + 1) with h' | h'
          · exfalso
            rw [fAt_append (by omega)] at e1
            exact ht (by rw [← hx1, ← e1]; exact at_mem (by omega))
          · exact h'
        have h2' : FG from' (F ++ D1 ++ D2) := by rw [List.append_assoc, ← g2]; exact h2
        obtain ⟨D3, k1, k2, k3⟩ := found_rel n (k + 1) (F ++ D1 ++ D2) R h2' hpk (by rw [List.length_append]; omega) (by rw [fAt_append hp, e1, hx1]) hr
        exact .inr ⟨F ++ D1, D2 ++ D3, p, by rw [k1, List.append_assoc], rfl, g5, hp, by rw [e1, hx1], by omega⟩
      · have e := h4 hin
        rw [e]
        simp only [Bool.false_eq_true, if_false]
        rw [h1] at hr
        have ht2 : to ∉ (F ++ D).map (·.1) := by
          rw [List.map_append, List.mem_append]
          rintro (h | h)
          · exact ht h
          · obtain ⟨p, hp, rfl⟩ := List.mem_map.1 h; exact hin (h3 p hp)
        obtain ⟨R', k1, k2⟩ := ih (k + 1) (F ++ D) R h2 (by omega) (by rw [List.length_append]; omega) ht2 hr
        refine ⟨R', ?_, by rw [show k + (n + 1) = k + 1 + n by omega]; exact k2⟩
        rw [← k1, List.drop_append_of_le_length (by omega), List.map_append, List.filter_append]

theorem led_at {from' : Int} {F : Fnd} (h : FG from' F) {k : Nat} (hk : k < F.length) : ledBy (led F) (fAt F k) = some (fAt F (pAt F k)) := by
  obtain ⟨w, hw⟩ := ledBy_some (A := led F) (v := fAt F k) (by rw [led_keys]; exact at_mem hk)
  rw [hw]
  have hm := ledBy_mem hw
  obtain ⟨p, hp, e⟩ := List.mem_map.1 hm
  injection e with e1 e2
  obtain ⟨j, hj, a1, a2⟩ := mem_at hp
  have : j = k := by
    have g1 : (F.map (·.1))[j]'(by simpa using hj) = (F.map (·.1))[k]'(by simpa using hk) := by
      have b1 : fAt F k = F[k].1 := by unfold fAt; rw [List.getD_eq_getElem?_getD, List.getElem?_eq_getElem hk]; rfl
      have b2 : fAt F j = F[j].1 := by unfold fAt; rw [List.getD_eq_getElem?_getD, List.getElem?_eq_getElem hj]; rfl
      rw [List.getElem_map, List.getElem_map, ← b1, ← b2, a1, e1]
    exact (List.getElem_inj h.nd).1 g1
  subst this
  rw [← e2, a2]
theorem fAt_zero {from' : Int} {F : Fnd} (h : FG from' F) : fAt F 0 = from' ∧ pAt F 0 = 0 := by
  unfold fAt pAt; rw [h.hd]; exact ⟨rfl, rfl⟩
/-- The way back by the vertices is the way back by the places. -/
theorem back_rel {from' : Int} {F : Fnd} (h : FG from' F) : ∀ (m k n j : Nat), k ≤ m → k ≤ n → k ≤ j → k < F.length → ∃ l, backF (led F) from' n (fAt F k) = some l ∧ fAt F k :: l = chainF F j k ++ [from'] := by
  intro m
  induction m with
  | zero =>
    intro k n j hm hn hj hk
    obtain rfl : k = 0 := by omega
    have := (fAt_zero h).1
    refine ⟨[], ?_, ?_⟩
    · cases n <;> simp [backF, this]
    · cases j <;> simp [chainF, this]
  | succ m ih =>
    intro k n j hm hn hj hk
    by_cases hk0 : k = 0
    · exact ih k n j (by omega) hn hj hk
    cases n with
    | zero => omega
    | succ n =>
    cases j with
    | zero => omega
    | succ j =>
    have hp := (h.par k hk).2 (by omega)
    obtain ⟨l, h1, h2⟩ := ih (pAt F k) n j (by omega) (by omega) (by omega) (by omega)
    have hne : ¬ fAt F k = from' := by
      intro e
      have hz := (fAt_zero h).1
      have g1 : (F.map (·.1))[0]'(by simpa using h.pos) = (F.map (·.1))[k]'(by simpa using hk) := by
        have b1 : fAt F k = F[k].1 := by unfold fAt; rw [List.getD_eq_getElem?_getD, List.getElem?_eq_getElem hk]; rfl
        have b2 : fAt F 0 = (F[0]'h.pos).1 := by unfold fAt; rw [List.getD_eq_getElem?_getD, List.getElem?_eq_getElem h.pos]; rfl
        rw [List.getElem_map, List.getElem_map, ← b1, ← b2, e, hz]
      have := (List.getElem_inj h.nd).1 g1
      omega
    refine ⟨fAt F (pAt F k) :: l, ?_, ?_⟩
    · simp only [backF, if_neg hne, led_at h hk, Option.getD_some]
      rw [h1]; rfl
    · simp only [chainF, if_neg hk0, List.cons_append]
      rw [← h2]
theorem chain_pre {from' : Int} {F D : Fnd} (h : FG from' F) : ∀ (j k : Nat), k < F.length → chainF (F ++ D) j k = chainF F j k
  | 0, _, _ => rfl
  | j + 1, k, hk => by
    simp only [chainF]
    rw [fAt_append hk, pAt_append hk, chain_pre h j _ (h.par k hk).1]

theorem path_same {vs : List Int} {near : Int → List Int} {may : Int → Bool} {from' to : Int} {n : Nat} {l : List Int} (h : refPath vs near may from' to n = some l) (hn : 0 < n) : pathF vs near may from' to n = some l := by
  unfold refPath at h
  unfold pathF
  split
  · rename_i hv
    rw [if_pos hv] at h; exact h
  · rename_i hv
    rw [if_neg hv] at h
    have h0 : FG from' [(from', 0)] := ⟨by simp, rfl, fun k hk => by simp at hk; subst hk; simp [pAt], by simp⟩
    obtain ⟨n, rfl⟩ : ∃ m, n = m + 1 := ⟨n - 1, by omega⟩
    by_cases hft : from' = to
    · rw [if_pos hft]
      have : refRun near may to (n + 1) 0 [(from', 0)] = some (some ([(from', 0)], 0)) := by
        simp [refRun, fAt, hft]
      rw [this] at h
      simpa [chainF] using h
    · rw [if_neg hft]
      have h1 : refRun near may to (n + 1) 0 [(from', 0)] = refRun near may to n 1 (scanR 0 [(from', 0)] (near from')) := by
        simp [refRun, fAt, hft]
      have h2 : led [(from', 0)] = [(from', from')] := by simp [led, fAt]
      have hto : to ∉ ([(from', 0)] : Fnd).map (·.1) := by simpa using fun e : to = from' => hft e.symm
      obtain ⟨D, g1, g2, g3, g4, g5⟩ := scan_rel (may := may) (k := 0) (v := from') (to := to) (near from') [(from', 0)] [] h0 (by simp) rfl hto
      rw [h2] at g4 g5
      have fin : ∀ (F1 D : Fnd) (p : Nat), FG from' F1 → p < F1.length → fAt F1 p = to → p ≤ n + 1 → ∃ l', backF (led F1) from' (n + 1) to = some l' ∧ (to :: l').reverse = from' :: (chainF (F1 ++ D) p p).reverse := by
        intro F1 D p f1 f2 f3 f4
        obtain ⟨l', e1, e2⟩ := back_rel f1 p p (n + 1) p (Nat.le_refl _) f4 (Nat.le_refl _) f2
        rw [f3] at e1 e2
        exact ⟨l', e1, by rw [e2, chain_pre f1 p p f2]; simp⟩
      cases hr : refRun near may to (n + 1) 0 [(from', 0)] with
      | none => rw [hr] at h; cases h
      | some R =>
      rw [hr] at h
      rw [h1, g1] at hr
      rw [bfs]
      by_cases hin : to ∈ near from'
      · obtain ⟨k1, D1, D2, k2, k3, k4, k5⟩ := g5 hin
        rw [if_pos k1, k3]
        obtain ⟨x, hx, hx1⟩ := List.mem_map.1 k4
        obtain ⟨p, hp, e1, _⟩ := mem_at (F := [(from', 0)] ++ D1) (p := x) (List.mem_append_right _ hx)
        have hp1 : 1 ≤ p := by
          rcases Nat.eq_zero_or_pos p with h' | h'
          · subst h'; rw [(fAt_zero k5).1, hx1] at e1; exact absurd e1 hft
          · exact h'
        rw [k2, ← List.append_assoc] at hr
        have g2' : FG from' ([(from', 0)] ++ D1 ++ D2) := by rw [List.append_assoc, ← k2]; exact g2
        obtain ⟨D3, m1, m2, m3⟩ := found_rel n 1 _ R g2' hp1 (by rw [List.length_append]; omega) (by rw [fAt_append hp, e1, hx1]) hr
        subst m1
        simp only [Option.some.injEq] at h
        obtain ⟨l', a1, a2⟩ := fin _ (D2 ++ D3) p k5 hp (by rw [e1, hx1]) (by omega)
        simp only [a1, Option.map_some]
        rw [a2, ← h]
        simp only [List.append_assoc]
      · have e := g4 hin
        rw [e]
        simp only [Bool.false_eq_true, if_false]
        have ht2 : to ∉ ([(from', 0)] ++ D : Fnd).map (·.1) := by
          rw [List.map_append, List.mem_append]
          rintro (h | h)
          · exact hto h
          · obtain ⟨p, hp, rfl⟩ := List.mem_map.1 h; exact hin (g3 p hp)
        obtain ⟨R', m1, m2⟩ := run_rel n 1 _ R g2 (by omega) (by simp) ht2 hr
        have hd : ([(from', 0)] ++ D).drop 1 = D := rfl
        rw [hd] at m1
        rw [List.nil_append, m1]
        rcases m2 with ⟨rfl, rfl⟩ | ⟨F1, D', p, rfl, rfl, f1, f2, f3, f4⟩
        · exact h
        · simp only [Option.some.injEq] at h
          obtain ⟨l', a1, a2⟩ := fin F1 D' p f1 f2 f3 (by omega)
          simp only [a1, Option.map_some]
          rw [a2, ← h]

theorem refRun_some {vs : List Int} {near : Int → List Int} {may : Int → Bool} {from' to : Int} (hnear : ∀ v, ∀ w ∈ near v, w ∈ vs) : ∀ (n k : Nat) (F : Fnd), FG from' F → (∀ x ∈ F.map (·.1), x ∈ vs) → vs.length ≤ k + n → ∃ R, refRun near may to n k F = some R := by
  intro n
  induction n with
  | zero =>
    intro k F h hs hl
    have := List.Nodup.length_le_of_subset h.nd hs
    rw [List.length_map] at this
    exact ⟨none, by simp only [refRun]; rw [if_neg (by omega)]⟩
  | succ n ih =>
    intro k F h hs hl
    by_cases hlt : k < F.length
    · simp only [refRun, if_pos hlt]
      by_cases h1 : fAt F k = to
      · rw [if_pos h1]; exact ⟨_, rfl⟩
      · rw [if_neg h1]
        split
        · obtain ⟨D, g1, g2, g3⟩ := (show ∃ D : Fnd, scanR k F (near (fAt F k)) = F ++ D ∧ FG from' (F ++ D) ∧ ∀ p ∈ D, p.1 ∈ near (fAt F k) by
            have : ∀ (row : List Int) (G : Fnd), FG from' G → k < G.length → ∃ D : Fnd, scanR k G row = G ++ D ∧ FG from' (G ++ D) ∧ ∀ p ∈ D, p.1 ∈ row := by
              intro row
              induction row with
              | nil => intro G h1 h2; exact ⟨[], by simp [scanR], by simpa using h1, by simp⟩
              | cons x row ih2 =>
                intro G h1 h2
                by_cases hx : x ∈ G.map (·.1)
                · have e : scanR k G (x :: row) = scanR k G row := by simp only [scanR, List.foldl_cons]; congr 1; unfold scanR1; rw [if_pos hx]
                  rw [e]
                  obtain ⟨D, a1, a2, a3⟩ := ih2 G h1 h2
                  exact ⟨D, a1, a2, fun p hp => List.mem_cons_of_mem _ (a3 p hp)⟩
                · have e : scanR k G (x :: row) = scanR k (G ++ [(x, k)]) row := by simp only [scanR, List.foldl_cons]; congr 1; unfold scanR1; rw [if_neg hx]
                  rw [e]
                  obtain ⟨D, a1, a2, a3⟩ := ih2 (G ++ [(x, k)]) (h1.snoc hx h2) (by simp; omega)
                  refine ⟨(x, k) :: D, by rw [a1]; simp, by simpa using a2, fun p hp => ?_⟩
                  rcases List.mem_cons.1 hp with rfl | hp
                  · simp
                  · exact List.mem_cons_of_mem _ (a3 p hp)
            exact this _ F h hlt)
          rw [g1]
          refine ih (k + 1) (F ++ D) g2 (fun x hx => ?_) (by omega)
          rw [List.map_append, List.mem_append] at hx
          rcases hx with hx | hx
          · exact hs x hx
          · obtain ⟨p, hp, rfl⟩ := List.mem_map.1 hx; exact hnear _ _ (g3 p hp)
        · exact ih (k + 1) F h hs (by omega)
    · simp only [refRun, if_neg hlt]; exact ⟨_, rfl⟩
theorem refPath_some {vs : List Int} {near : Int → List Int} {may : Int → Bool} {from' to : Int} (hnear : ∀ v, ∀ w ∈ near v, w ∈ vs) {n : Nat} (hn : vs.length ≤ n) : ∃ l, refPath vs near may from' to n = some l := by
  unfold refPath
  split
  · exact ⟨_, rfl⟩
  · rename_i hv
    have hf : from' ∈ vs := by
      by_cases h : from' ∈ vs
      · exact h
      · exact absurd (.inl h) hv
    have h0 : FG from' [(from', 0)] := ⟨by simp, rfl, fun k hk => by simp at hk; subst hk; simp [pAt], by simp⟩
    obtain ⟨R, hR⟩ := refRun_some (may := may) (to := to) hnear n 0 [(from', 0)] h0 (by simpa using hf) (by omega)
    rw [hR]
    rcases R with _ | ⟨F, k⟩
    · exact ⟨_, rfl⟩
    · exact ⟨_, rfl⟩

end Go.Proofs.YtlnefdmdabhobaaGreat.Aw

namespace Go.Proofs.YtlnefdmdabhobaaGreat.Aw
open Go Go.RowKit Go.Proofs.YtlnefdmdabhobaaGreat.Pl
set_option linter.unusedSimpArgs false
set_option linter.unusedVariables false

/-- None of these has it, and each less one is taken. -/
def IsFree (col : Int → Int) (l : List Int) (n : Nat) : Prop := 1 ≤ n ∧ (∀ u ∈ l, col u ≠ n) ∧ ∀ m : Nat, 1 ≤ m → m < n → ∃ u ∈ l, col u = m
theorem IsFree.unique {col : Int → Int} {l : List Int} {n m : Nat} (h : IsFree col l n) (k : IsFree col l m) : n = m := by
  rcases Nat.lt_trichotomy n m with hlt | he | hlt
  · obtain ⟨u, hu, e⟩ := k.2.2 n h.1 hlt
    exact absurd e (h.2.1 u hu)
  · exact he
  · obtain ⟨u, hu, e⟩ := h.2.2 m k.1 hlt
    exact absurd e (k.2.1 u hu)
theorem taken_le {col : Int → Int} {l : List Int} {k : Nat} (h : ∀ m : Nat, 1 ≤ m → m ≤ k → ∃ u ∈ l, col u = m) : k ≤ l.length := by
  have h1 : ((List.range k).map fun m : Nat => ((m + 1 : Nat) : Int)).Nodup := by
    rw [List.nodup_iff_pairwise_ne, List.pairwise_map]
    exact List.nodup_range.imp fun h e => h (by omega)
  have := List.Nodup.length_le_of_subset h1 (l₂ := l.map col) fun y hy => by
    obtain ⟨m, hm, rfl⟩ := List.mem_map.1 hy
    rw [List.mem_range] at hm
    obtain ⟨u, hu, e⟩ := h (m + 1) (by omega) (by omega)
    exact List.mem_map.2 ⟨u, hu, e⟩
  simpa using this

def FrI (l : List Int) (col : Int → Int) (M t k : Nat) (st : St) (fr : Frm) (s : St) : Prop :=
  fr 0 = .mp M ∧ fr 1 = .sl t l.length (us l) ∧ fr 5 = i k ∧ s = st ∧ ∀ m : Nat, 1 ≤ m → m ≤ k → ∃ u ∈ l, col u = m

attribute [simp] gq_goto gq_ret gq_normal gq_exit ak_code_goto ak_blk_goto ak_head_goto
end Go.Proofs.YtlnefdmdabhobaaGreat.Aw

namespace Go.Proofs.YtlnefdmdabhobaaGreat.Aw
open Go Go.RowKit Go.Proofs.YtlnefdmdabhobaaGreat.Pl
set_option linter.unusedSimpArgs false
set_option linter.unusedVariables false

/-- A pair of ends as a map's key. -/
def kE (x : Ed) : List Int := [if x.b < x.a then x.b else x.a, if x.a < x.b then x.b else x.a]
theorem kE_iff (x y : Ed) : kE x = kE y ↔ bes x y = true := by
  rw [bes_iff]
  unfold kE
  simp only [List.cons.injEq, and_true]
  constructor
  · rintro ⟨h1, h2⟩
    split at h1 <;> split at h1 <;> split at h2 <;> split at h2 <;> omega
  · rintro (⟨h1, h2⟩ | ⟨h1, h2⟩)
    · rw [h1, h2]; exact ⟨rfl, rfl⟩
    · rw [h1, h2]
      constructor
      · split <;> split <;> omega
      · split <;> split <;> omega

def bnd (l : List Ed) : List (List Int) := (sE l).map fun y => (l.filter fun x => bes y x).map (·.id)
theorem bnd_len (l : List Ed) : (bnd l).length = (sE l).length := by simp [bnd]
theorem bnd_new {l : List Ed} {x : Ed} (h : (sE l).any (bes x) = false) : sE (l ++ [x]) = sE l ++ [x] ∧ bnd (l ++ [x]) = bnd l ++ [[x.id]] := by
  have h' : ∀ y ∈ sE l, bes x y = false := fun y hy => by
    cases hb : bes x y with
    | false => rfl
    | true => rw [List.any_eq_true.2 ⟨y, hy, hb⟩] at h; cases h
  have hs : sE (l ++ [x]) = sE l ++ [x] := by rw [sE_snoc, h]; rfl
  refine ⟨hs, ?_⟩
  unfold bnd
  rw [hs, List.map_append]
  congr 1
  · refine List.map_congr_left fun y hy => ?_
    have : bes y x = false := by
      cases hb : bes y x with
      | false => rfl
      | true => have := h' y hy; rw [bes_symm hb] at this; cases this
    rw [List.filter_append]
    simp [this]
  · have : l.filter (fun z => bes x z) = [] := by
      rw [List.filter_eq_nil_iff]
      intro z hz hb
      obtain ⟨y, hy, h2⟩ := sE_has l z hz
      have := h' y hy
      rw [bes_trans hb h2] at this; cases this
    simp [List.filter_append, this, bes_refl]
theorem bnd_old {l : List Ed} {x : Ed} (h : (sE l).any (bes x) = true) : sE (l ++ [x]) = sE l ∧ ∃ L1 y L2 B1 r B2, sE l = L1 ++ y :: L2 ∧ bes x y = true ∧ bnd l = B1 ++ r :: B2 ∧ B1.length = L1.length ∧ bnd (l ++ [x]) = B1 ++ (r ++ [x.id]) :: B2 ∧ r.length ≤ l.length := by
  have hs : sE (l ++ [x]) = sE l := by rw [sE_snoc, h]; rfl
  refine ⟨hs, ?_⟩
  obtain ⟨y, hy, hb⟩ := List.any_eq_true.1 h
  obtain ⟨L1, L2, hL⟩ := List.append_of_mem hy
  have hap := sE_apart l
  rw [hL, List.pairwise_append, List.pairwise_cons] at hap
  obtain ⟨_, ⟨p2, _⟩, p3⟩ := hap
  have hno : ∀ z, (z ∈ L1 ∨ z ∈ L2) → bes z x = false := by
    intro z hz
    cases hzx : bes z x with
    | false => rfl
    | true =>
      have hzy := bes_trans hzx hb
      rcases hz with hz | hz
      · have := p3 z hz y (by simp); rw [hzy] at this; cases this
      · have := p2 z hz; rw [bes_symm hzy] at this; cases this
  refine ⟨L1, y, L2, _, _, _, hL, hb, by unfold bnd; rw [hL, List.map_append, List.map_cons], by simp, ?_, ?_⟩
  · unfold bnd
    rw [hs, hL, List.map_append, List.map_cons]
    have e : ∀ L : List Ed, (∀ z ∈ L, bes z x = false) → L.map (fun y => ((l ++ [x]).filter fun x => bes y x).map (·.id)) = L.map fun y => (l.filter fun x => bes y x).map (·.id) := by
      intro L hL
      refine List.map_congr_left fun z hz => ?_
      rw [List.filter_append]
      simp [hL z hz]
    rw [e L1 fun z hz => hno z (.inl hz), e L2 fun z hz => hno z (.inr hz)]
    congr 2
    rw [List.filter_append]
    simp [bes_symm hb]
  · rw [List.length_map]; exact List.length_filter_le _ _

/-- The map of the bundles' places. -/
structure AtM (l : List Ed) (es : List (List Int × LV)) : Prop where
  old : ∀ x L1 y L2, sE l = L1 ++ y :: L2 → bes x y = true → mget es (kE x) = some (i L1.length)
  new : ∀ x, (sE l).any (bes x) = false → mget es (kE x) = none
theorem AtM.nil : AtM [] [] := ⟨fun x L1 y L2 h _ => by simp [sE] at h, fun x _ => rfl⟩
theorem AtM.keep {l : List Ed} {es : List (List Int × LV)} (h : AtM l es) {x : Ed} (hx : sE (l ++ [x]) = sE l) : AtM (l ++ [x]) es :=
  ⟨by rw [hx]; exact h.old, by rw [hx]; exact h.new⟩
theorem AtM.add {l : List Ed} {es : List (List Int × LV)} (h : AtM l es) {x : Ed} (hx : (sE l).any (bes x) = false) : AtM (l ++ [x]) (mset es (kE x) (i (sE l).length)) := by
  have hs := (bnd_new hx).1
  constructor
  · intro z L1 y L2 hL hb
    rw [hs] at hL
    rw [mget_mset]
    rcases List.eq_nil_or_concat L2 with rfl | ⟨L2', y', rfl⟩
    · have := List.append_inj' hL rfl
      obtain ⟨h1, h2⟩ := this
      simp only [List.cons.injEq, and_true] at h2
      subst h1 h2
      rw [if_pos ((kE_iff _ _).2 hb)]
    · rw [List.concat_eq_append, show L1 ++ y :: (L2' ++ [y']) = (L1 ++ y :: L2') ++ [y'] by simp] at hL
      obtain ⟨h1, h2⟩ := List.append_inj' hL rfl
      rw [if_neg, h.old z L1 y L2' h1 hb]
      intro hk
      have hxy := bes_trans (bes_symm ((kE_iff _ _).1 hk)) hb
      rw [List.any_eq_true.2 ⟨y, by rw [h1]; simp, hxy⟩] at hx
      cases hx
  · intro z hz
    rw [hs, List.any_append, Bool.or_eq_false_iff] at hz
    rw [mget_mset, if_neg, h.new z hz.1]
    intro hk
    have := (kE_iff _ _).1 hk
    simp [this] at hz

end Go.Proofs.YtlnefdmdabhobaaGreat.Aw

namespace Go.Proofs.YtlnefdmdabhobaaGreat.Aw
open Go Go.RowKit Go.Proofs.YtlnefdmdabhobaaGreat.Pl
set_option linter.unusedSimpArgs false
set_option linter.unusedVariables false

/-- Rows of the call's own: a token, a row. -/
abbrev TR := Nat × List Int
def cellT (p : TR) : LV := .sl p.1 p.2.length (us p.2)
def cellsT (R : List TR) : List LV := R.map cellT
theorem cellsT_len (R : List TR) : (cellsT R).length = R.length := by simp [cellsT]
structure SimB (E : List Ed) (st0 : St) (L2 L4 M te q : Nat) (vs : List Int) (mes : List (List Int × LV)) (R : List TR) (s : St) : Prop where
  h2 : s.H L2 = .box 25 2 [.nil, .nil]
  h4 : s.H L4 = .box 25 2 [.sl 0 vs.length (us vs), .sl te (sE E).length (eds (sE E))]
  ht : s.H te = .own 50 3 (sE E).length
  hM : s.H M = .map true [.u32, .u32] mes
  hq : s.H q = .box 22 1 (cellsT R)
  bn : R.map (·.2) = bnd E
  at' : AtM E mes
  nd : (R.map (·.1)).Nodup
  tk : ∀ p ∈ R, st0.next ≤ p.1 ∧ p.1 < s.next ∧ s.H p.1 = .own 48 1 p.2.length
  b : st0.next ≤ L2 ∧ st0.next ≤ L4 ∧ st0.next ≤ M ∧ st0.next ≤ te ∧ st0.next ≤ q ∧ L2 < s.next ∧ L4 < s.next ∧ M < s.next ∧ te < s.next ∧ q < s.next
  kp : Keeps st0 s
def SimI (g : Gr) (st0 : St) (L2 L4 M k : Nat) (fr : Frm) (s : St) : Prop :=
  fr 2 = .pt L2 0 ∧ fr 4 = .pt L4 0 ∧ fr 6 = .mp M ∧ fr 18 = .sl 0 g.es.length (eds g.es) ∧ fr 19 = i g.es.length ∧ fr 20 = i k ∧
  ∃ te q mes R, fr 5 = .ms q 0 R.length ∧ SimB (g.es.take k) st0 L2 L4 M te q g.vs mes R s

theorem box_ne {st : St} {a b : Nat} {x y : LObj} (ha : st.H a = x) (hb : st.H b = y) (h : x ≠ y) : ¬ a = b := fun e => h (by rw [← ha, e, hb])

theorem z0_edsB (l : List Ed) : z0L (eds l) = eds l := by
  induction l with
  | nil => rfl
  | cons e l ih => simp only [eds, List.flatMap_cons, List.cons_append, List.nil_append, z0L, z0] at ih ⊢; rw [ih]
theorem z0_cellsT (R : List TR) : z0L (cellsT R) = R.map fun p => .sl 0 p.2.length (us p.2) := by
  rw [z0L_map, cellsT, List.map_map]
  refine List.map_congr_left fun p _ => ?_
  simp [cellT, z0]

set_option maxHeartbeats 2000000 in
theorem Simple (g : Gr) (st : St) (hv : g.vs.length ≤ 1048576) (he : g.es.length ≤ 1000) (hp : 0 < st.next) :
    ACalls Tryz.prog 184 [.ag (grL g)] st fun r st' => r = .tu [.ag [.sl 0 g.vs.length (us g.vs), .sl 0 (sE g.es).length (eds (sE g.es))], .sl 0 (bnd g.es).length ((bnd g.es).map fun l => .sl 0 l.length (us l))] ∧ Keeps st st' := by
  refine acalls_z0 ?_
  have hel := eds_length g.es
  refine acalls_of_body tabOk Tryz.func184 rfl rfl Tryz.ntmps184 (rs := [.cell 2 25, .tmp 3]) rfl (by simp) ?_
  (repeat' (first | refine awp_seq ?_ | (refine w_e [] ?_; intro J hJ; simp only []; simp []; (try (refine hJ _ _ ?_; clear hJ J; simp only [ak, reduceIte])))))
  refine callK_ofE (Clone g.vs 0 _ hv) (by simp []) ?_; rintro r st' ⟨rfl, hk1⟩
  have hn1 := hk1.next
  simp only [new_next] at hn1
  have hG1 : st'.H st.next = .box 25 2 (grL g) := by rw [hk1.H _ (by simp <;> omega)]; simp
  have hC1 : st'.H (st.next + 1) = .box 25 2 [.nil, .nil] := by rw [hk1.H _ (by simp)]; simp
  have hkp : Keeps st st' := ((Keeps.new _ _).trans (Keeps.new _ _)).trans hk1
  generalize hL : st' = s1 at *
  have e1 : ¬ st.next = s1.next := by omega
  have e2 : ¬ st.next = s1.next + 1 := by omega
  (repeat' (first | refine awp_seq ?_ | refine awp_block ?_ | ((first | (refine w_e [] ?_; intro J hJ; simp only []) | (refine e_go ?_)); simp [e1, e2, hG1]; (refine hJ _ _ ?_; clear hJ J; simp only [ak, reduceIte]))))
  refine awp_cell s1.next 50 3 (e := 25) (s := 2) [.sl 0 g.vs.length (us g.vs)] [] (by simp) ?_
  refine awp_ownM 5 22 1 (by simp) ?_
  refine awp_loop (fun n fr s => ∃ k : Nat, k ≤ g.es.length ∧ n = g.es.length - k ∧ SimI g st (st.next + 1) s1.next (s1.next + 1) k fr s) g.es.length ?_ ?_
  · refine ⟨0, by omega, by omega, by simp, by simp, by simp, by simp, by simp, by simp, s1.next + 2, s1.next + 3, [], [], by simp, ?_⟩
    have h5 : ¬ st.next = s1.next + 2 := by omega
    have h1 : ¬ st.next + 1 = s1.next := by omega
    refine ⟨by simp [h1, h5, e1, e2, hC1], by simp [sE] <;> omega, by simp [sE], by simp, by simp [cellsT], by simp [bnd, sE], AtM.nil, by simp, by simp, ⟨by omega, by omega, by omega, by omega, by omega, by simp <;> omega, by simp <;> omega, by simp, by simp, by simp⟩, ?_⟩
    exact (((((hkp.trans (Keeps.new _ _)).trans (Keeps.new _ _)).trans (Keeps.new _ _)).set (by omega) _).trans (Keeps.new _ _))
  rintro n fr s ⟨k, hk, rfl, f2, f4, f6, f18, f19, f20, te, q, mes, R, f5, hB⟩ JJ hJJ
  obtain ⟨H2, H4, Ht, HM, Hq, hbn, hat, hnd, htk, ⟨b1, b2, b3, b4, b5, b6, b7, b8, b9, b10⟩, hkps⟩ := hB
  have q24 : ¬ q = s1.next := box_ne Hq H4 (by simp)
  by_cases hlt : k < g.es.length
  rotate_left
  · clear hJJ
    have hk' : k = g.es.length := by omega
    rw [hk', List.take_length] at H4 Ht hbn
    have hbl : (bnd g.es).length = R.length := by rw [← hbn, List.length_map]
    have n1 : ¬ st.next + 1 = q := box_ne H2 Hq (by simp)
    have n2 : ¬ s1.next = q := fun h => q24 h.symm
    have n3 : ¬ s1.next = st.next + 1 := by omega
    have hsl := sE_len g.es
    refine awp_freeze 5 f5 Hq (by simp [cellsT_len]) ?_
    have htk2 : (cellsT R).take (R.length * 1) = cellsT R := List.take_of_length_le (by rw [cellsT_len]; omega)
    rw [htk2]
    (repeat' (first | refine awp_seq ?_ | (refine awp_exit ?_; simp only [ak, reduceIte]) | (refine awp_ret ?_; simp only [ak, reduceIte]; simp [f2, f4, f19, f20, hlt, H4, H2, n1, n2, n3]) | (refine awp_cond ?_; simp [f2, f4, f19, f20, hlt, H4, H2, n1, n2, n3]) | (refine w_e [] ?_; intro J hJ; simp only []; simp [f2, f4, f19, f20, hlt, H4, H2, n1, n2, n3]; (refine hJ _ _ ?_; clear hJ J; simp only [ak, reduceIte]))))
    refine ⟨?_, (hkps.set (by omega) _).set (by omega) _⟩
    rw [hbl, ← hbn]
    simp only [z0, z0L, z0_us, z0_edsB, z0_cellsT, List.map_map]
    rfl
  have hd := eds_drop g.es k hlt
  have hw := nat_add_one k (by omega)
  have hk3 : k * 3 < g.es.length * 3 := by omega
  have htk1 : g.es.take (k + 1) = g.es.take k ++ [g.es.getD k ed0] := by
    rw [List.getD_eq_getElem?_getD, List.getElem?_eq_getElem hlt]; exact List.take_succ_eq_append_getElem hlt
  have hEl : (g.es.take k).length ≤ 1000 := by rw [List.length_take]; omega
  generalize g.es.getD k ed0 = x at *
  generalize hE : g.es.take k = E at *
  obtain ⟨id, a, b⟩ := x
  simp only at hd
  cases hany : (sE E).any (bes ⟨id, a, b⟩)
  · have hm := hat.new ⟨id, a, b⟩ hany
    simp only [kE] at hm
    have hsm : (List.map (fun _ : Ed => 3) (sE E)).sum = (sE E).length * 3 := by
      induction sE E with
      | nil => rfl
      | cons x l ih => simp only [List.map_cons, List.sum_cons, List.length_cons, ih]; omega
    have hsl := sE_len E
    have te0 : ¬ te = 0 := by omega
    have hcl := cellsT_len R
    have hRl : R.length = (sE E).length := by rw [← bnd_len, ← hbn, List.length_map]
    have htR : List.take R.length (cellsT R) = cellsT R := List.take_of_length_le (by omega)
    have hdl : List.drop R.length (cellsT R ++ [LV.nil]) = [.nil] := by rw [← hcl]; exact List.drop_left
    have htl : List.take R.length (cellsT R ++ [LV.nil]) = cellsT R := by rw [← hcl]; exact List.take_left
    have hdl2 : List.drop (R.length + 1) (cellsT R ++ [LV.nil]) = [] := List.drop_eq_nil_of_le (by simp [hcl])
    have hRn : ((R.length : Int)).toNat = R.length := by omega
    have c0 : ¬ s1.next = s.next := by omega
    have c0' : ¬ s.next = s1.next := by omega
    have c1 : ¬ s1.next = s.next + 1 := by omega
    have c1' : ¬ s.next + 1 = s1.next := by omega
    have c2 : ¬ s1.next = s.next + 2 := by omega
    have c2' : ¬ s.next + 2 = s1.next := by omega
    have c3 : ¬ s1.next = s.next + 3 := by omega
    have c3' : ¬ s.next + 3 = s1.next := by omega
    have c4 : ¬ s1.next = s.next + 4 := by omega
    have c4' : ¬ s.next + 4 = s1.next := by omega
    have e0 : ¬ te = s.next := by omega
    have e0' : ¬ s.next = te := by omega
    have e1 : ¬ te = s.next + 1 := by omega
    have e1' : ¬ s.next + 1 = te := by omega
    have e2 : ¬ te = s.next + 2 := by omega
    have e2' : ¬ s.next + 2 = te := by omega
    have e3 : ¬ te = s.next + 3 := by omega
    have e3' : ¬ s.next + 3 = te := by omega
    have e4 : ¬ te = s.next + 4 := by omega
    have e4' : ¬ s.next + 4 = te := by omega
    have d0 : ¬ q = s.next := by omega
    have d0' : ¬ s.next = q := by omega
    have d1 : ¬ q = s.next + 1 := by omega
    have d1' : ¬ s.next + 1 = q := by omega
    have d2 : ¬ q = s.next + 2 := by omega
    have d2' : ¬ s.next + 2 = q := by omega
    have d3 : ¬ q = s.next + 3 := by omega
    have d3' : ¬ s.next + 3 = q := by omega
    have d4 : ¬ q = s.next + 4 := by omega
    have d4' : ¬ s.next + 4 = q := by omega
    have c9 : ¬ s1.next + 1 = s.next := by omega
    have c9' : ¬ s.next = s1.next + 1 := by omega
    have n1 : ¬ te = s1.next := box_ne Ht H4 (by simp)
    have n2 : ¬ te = s1.next + 1 := box_ne Ht HM (by simp)
    have n3 : ¬ q = s1.next + 1 := box_ne Hq HM (by simp)
    have n4 : ¬ q = te := box_ne Hq Ht (by simp)
    have n1' : ¬ s1.next = te := fun h => n1 h.symm
    have n2' : ¬ s1.next + 1 = te := fun h => n2 h.symm
    have n3' : ¬ s1.next + 1 = q := fun h => n3 h.symm
    have n4' : ¬ te = q := fun h => n4 h.symm
    have n5' : ¬ s1.next = q := fun h => q24 h.symm
    have r2 : ¬ s.next = s.next + 1 + 1 := by omega
    have r3 : ¬ s.next = s.next + 1 + 1 + 1 := by omega
    have r4 : ¬ s.next = s.next + 1 + 1 + 1 + 1 := by omega
    have r5 : ¬ s.next = s.next + 1 + 1 + 1 + 1 + 1 := by omega
    have r6 : ¬ s.next = s.next + 1 + 1 + 1 + 1 + 1 + 1 := by omega
    have r7 : ¬ s.next = s.next + 1 + 1 + 1 + 1 + 1 + 1 + 1 := by omega
    have p1 : R.length < R.length + 1 := by omega
    (repeat' (first | refine awp_seq ?_ | refine awp_block ?_ | (refine awp_skip ?_; simp only [ak, reduceIte]) | (refine awp_cond ?_; simp [hcl, htR, hsm, te0, c0, c0', c1, c1', c2, c2', c3, c3', c4, c4', e0, e0', e1, e1', e2, e2', e3, e3', e4, e4', d0, d0', d1, d1', d2, d2', d3, d3', d4, d4', c9, c9', n1, n2, n3, n4, n1', n2', n3', n4', n5', Ht, Hq, q24, f4, f5, f6, f18, f19, f20, hlt, hd, hel, hk3, hw, H4, HM, hm]) | (refine w_e [] ?_; intro J hJ; simp only []; simp [hcl, htR, hsm, te0, c0, c0', c1, c1', c2, c2', c3, c3', c4, c4', e0, e0', e1, e1', e2, e2', e3, e3', e4, e4', d0, d0', d1, d1', d2, d2', d3, d3', d4, d4', c9, c9', n1, n2, n3, n4, n1', n2', n3', n4', n5', Ht, Hq, q24, f4, f5, f6, f18, f19, f20, hlt, hd, hel, hk3, hw, H4, HM, hm]; (repeat refine ca ?_); (refine hJ _ _ ?_; clear hJ J; simp only [ak, reduceIte]))))
    (refine w_s [] [s.next, s.next + 1 + 1 + 1 + 1 + 1] [(0, true), (1, true), (2, true), (3, true), (4, true), (5, true), (6, true), (7, true), (8, true), (9, true), (10, true), (11, false)] ?_; intro J hJ; simp [r2, r3, r4, r5, r6, r7, c0, c0', c1, c1', c2, c2', c3, c3', c4, c4', e0, e0', e1, e1', e2, e2', e3, e3', e4, e4', d0, d0', d1, d1', d2, d2', d3, d3', d4, d4', c9, c9', n1, n2, n3, n4, n1', n2', n3', n4', n5', hcl, htR, hdl, htl, hdl2, p1]; (repeat refine ca ?_); (refine hJ _ _ ?_; clear hJ J; simp only [ak, reduceIte]))
    (repeat' (refine w_e [] ?_; intro J hJ; simp only []; simp [f20, hw]; (refine hJ _ _ ?_; clear hJ J; simp only [ak, reduceIte])))
    have l1 : ¬ st.next + 1 = te := box_ne H2 Ht (by simp)
    have l2 : ¬ st.next + 1 = q := box_ne H2 Hq (by simp)
    obtain ⟨hs, hb⟩ := bnd_new hany
    refine hJJ (g.es.length - (k + 1)) _ _ (by omega) ⟨k + 1, by omega, rfl, by simp [f2], by simp [f4], by simp [f6], by simp [f18], by simp [f19], by simp, s.next + 3, s.next + 5, mset mes (kE ⟨id, a, b⟩) (i (sE E).length), R ++ [(s.next + 7, [id])], by simp, ?_⟩
    rw [htk1]
    refine ⟨?_, ?_, ?_, ?_, ?_, ?_, hat.add hany, ?_, ?_, ?_, ?_⟩
    · (repeat (first | rw [new_H, if_neg (α := LObj) (by (try simp only [set_next, new_next]); omega)] | rw [set_H, if_neg (α := LObj) (by omega)] | rw [new_H, if_pos (α := LObj) (by (try simp only [set_next, new_next]))] | rw [set_H, if_pos (α := LObj) (by omega)])); exact H2
    · (repeat (first | rw [new_H, if_neg (α := LObj) (by (try simp only [set_next, new_next]); omega)] | rw [set_H, if_neg (α := LObj) (by omega)] | rw [new_H, if_pos (α := LObj) (by (try simp only [set_next, new_next]))] | rw [set_H, if_pos (α := LObj) (by omega)])); rw [hs]; simp [eds]
    · (repeat (first | rw [new_H, if_neg (α := LObj) (by (try simp only [set_next, new_next]); omega)] | rw [set_H, if_neg (α := LObj) (by omega)] | rw [new_H, if_pos (α := LObj) (by (try simp only [set_next, new_next]))] | rw [set_H, if_pos (α := LObj) (by omega)])); rw [hs]; simp
    · (repeat (first | rw [new_H, if_neg (α := LObj) (by (try simp only [set_next, new_next]); omega)] | rw [set_H, if_neg (α := LObj) (by omega)] | rw [new_H, if_pos (α := LObj) (by (try simp only [set_next, new_next]))] | rw [set_H, if_pos (α := LObj) (by omega)])); rw [hRl]; rfl
    · (repeat (first | rw [new_H, if_neg (α := LObj) (by (try simp only [set_next, new_next]); omega)] | rw [set_H, if_neg (α := LObj) (by omega)] | rw [new_H, if_pos (α := LObj) (by (try simp only [set_next, new_next]))] | rw [set_H, if_pos (α := LObj) (by omega)])); simp [cellsT, cellT]
    · rw [List.map_append, hbn, hb]; rfl
    · rw [List.map_append, List.nodup_append]
      refine ⟨hnd, by simp, fun x hx y hy => ?_⟩
      obtain ⟨p, hp, rfl⟩ := List.mem_map.1 hx
      simp at hy
      have := (htk p hp).2.1
      omega
    · intro p hp
      rcases List.mem_append.1 hp with hp | hp
      · obtain ⟨h1, h2, h3⟩ := htk p hp
        have t1 : ¬ p.1 = te := box_ne h3 Ht (by simp)
        have t2 : ¬ p.1 = q := box_ne h3 Hq (by simp)
        have t3 : ¬ p.1 = s1.next := box_ne h3 H4 (by simp)
        have t4 : ¬ p.1 = s1.next + 1 := box_ne h3 HM (by simp)
        refine ⟨h1, by simp <;> omega, ?_⟩
        (repeat (first | rw [new_H, if_neg (α := LObj) (by (try simp only [set_next, new_next]); omega)] | rw [set_H, if_neg (α := LObj) (by omega)] | rw [new_H, if_pos (α := LObj) (by (try simp only [set_next, new_next]))] | rw [set_H, if_pos (α := LObj) (by omega)])); exact h3
      · rw [List.mem_singleton] at hp
        subst hp
        refine ⟨by simp <;> omega, by simp, ?_⟩
        (repeat (first | rw [new_H, if_neg (α := LObj) (by (try simp only [set_next, new_next]); omega)] | rw [set_H, if_neg (α := LObj) (by omega)] | rw [new_H, if_pos (α := LObj) (by (try simp only [set_next, new_next]))] | rw [set_H, if_pos (α := LObj) (by omega)])); rfl
    · simp only [set_next, new_next]; omega
    · refine ⟨by have := hkps.next; simp only [set_next, new_next]; omega, fun l hl => ?_⟩
      (repeat (first | rw [new_H, if_neg (α := LObj) (by (try simp only [set_next, new_next]); omega)] | rw [set_H, if_neg (α := LObj) (by omega)] | rw [new_H, if_pos (α := LObj) (by (try simp only [set_next, new_next]))] | rw [set_H, if_pos (α := LObj) (by omega)])); exact hkps.H l hl
  obtain ⟨hs, L1, y, L2, B1, r, B2, hL, hyb, hB0, hBl, hB1, hrl⟩ := bnd_old hany
  have hm := hat.old ⟨id, a, b⟩ L1 y L2 hL hyb
  simp only [kE] at hm
  rw [hB0] at hbn
  obtain ⟨R1, R', rfl, hR1, hR'⟩ := List.map_eq_append_iff.1 hbn
  obtain ⟨p, R2, rfl, hpr, hR2⟩ := List.map_eq_cons_iff.1 hR'
  obtain ⟨t0, r0⟩ := p
  simp only at hpr
  subst hpr
  obtain ⟨hb1, hb2, hb3⟩ := htk (t0, r0) (by simp)
  simp only at hb1 hb2 hb3
  have hR1l : R1.length = L1.length := by rw [← hBl, ← hR1, List.length_map]
  have hcl : (cellsT (R1 ++ (t0, r0) :: R2)).length = R1.length + (R2.length + 1) := by rw [cellsT_len]; simp
  have hRl : (R1 ++ (t0, r0) :: R2).length = R1.length + (R2.length + 1) := by simp
  have hcs : cellsT (R1 ++ (t0, r0) :: R2) = cellsT R1 ++ .sl t0 r0.length (us r0) :: cellsT R2 := by simp [cellsT, cellT]
  have hc1 : (cellsT R1).length = R1.length := cellsT_len R1
  have hdl : List.drop R1.length (cellsT R1 ++ LV.sl t0 r0.length (us r0) :: cellsT R2) = .sl t0 r0.length (us r0) :: cellsT R2 := by rw [← hc1]; exact List.drop_left
  have htl : List.take R1.length (cellsT R1 ++ LV.sl t0 r0.length (us r0) :: cellsT R2) = cellsT R1 := by rw [← hc1]; exact List.take_left
  have hdl2 : List.drop (R1.length + 1) (cellsT R1 ++ LV.sl t0 r0.length (us r0) :: cellsT R2) = cellsT R2 := by
    rw [← hc1, show cellsT R1 ++ LV.sl t0 r0.length (us r0) :: cellsT R2 = (cellsT R1 ++ [LV.sl t0 r0.length (us r0)]) ++ cellsT R2 by simp]
    rw [show (cellsT R1).length + 1 = (cellsT R1 ++ [LV.sl t0 r0.length (us r0)]).length by simp]
    exact List.drop_left
  rw [hRl] at f5
  rw [hcs] at Hq
  rw [← hR1l] at hm
  have t00 : ¬ t0 = 0 := by omega
  have m1 : ¬ s1.next = s.next := by omega
  have m1' : ¬ s.next = s1.next := by omega
  have m2 : ¬ s1.next + 1 = s.next := by omega
  have m2' : ¬ s.next = s1.next + 1 := by omega
  have m5 : ¬ t0 = s.next := by omega
  have m6 : ¬ t0 = s.next + 1 := by omega
  have m6b : ¬ t0 = s.next + 2 := by omega
  have m5' : ¬ s.next = t0 := by omega
  have m6' : ¬ s.next + 1 = t0 := by omega
  have m6b' : ¬ s.next + 2 = t0 := by omega
  have m7 : ¬ q = s.next := by omega
  have m8 : ¬ q = s.next + 1 := by omega
  have m9 : ¬ q = s.next + 2 := by omega
  have m9b : ¬ q = s.next + 3 := by omega
  have n4 : ¬ q = t0 := box_ne Hq hb3 (by simp)
  have r2 : ¬ s.next = s.next + 1 + 1 := by omega
  have r3 : ¬ s.next = s.next + 1 + 1 + 1 := by omega
  have p1 : R1.length < R1.length + (R2.length + 1) := by omega
  have p2 : (R1.length : Int) < (R1.length : Int) + ((R2.length : Int) + 1) := by omega
  have hr1 : r0.length ≤ 1000 := by omega
  (repeat' (first | refine awp_seq ?_ | refine awp_block ?_ | (refine awp_skip ?_; simp only [ak, reduceIte]) | (refine awp_cond ?_; simp [m1, m1', m2, m2', f4, f5, f6, f18, f19, f20, hlt, hd, hel, hk3, hw, HM, hm]) | (refine w_e [] ?_; intro J hJ; simp only []; simp [m1, m1', m2, m2', f4, f5, f6, f18, f19, f20, hlt, hd, hel, hk3, hw, HM, hm]; (refine hJ _ _ ?_; clear hJ J; simp only [ak, reduceIte]))))
  (refine w_s [] [s.next, q] [(0, true), (1, true), (2, true), (3, true), (4, true), (5, true), (6, true), (7, true), (8, true), (9, true), (10, true), (11, false)] ?_; intro J hJ; simp [m1, m1', m2, m2', m5, m6, m6b, m5', m6', m6b', m7, m8, m9, m9b, n4, r2, r3, f5, Hq, hb3, hc1, hdl, htl, hdl2, p1, p2, t00]; (repeat refine ca ?_); (refine hJ _ _ ?_; clear hJ J; simp only [ak, reduceIte]))
  (repeat' (refine w_e [] ?_; intro J hJ; simp only []; simp [f20, hw]; (refine hJ _ _ ?_; clear hJ J; simp only [ak, reduceIte])))
  have l2 : ¬ st.next + 1 = q := box_ne H2 Hq (by simp)
  have l3 : ¬ st.next + 1 = t0 := box_ne H2 hb3 (by simp)
  have l4 : ¬ s1.next = q := fun h => q24 h.symm
  have l5 : ¬ s1.next = t0 := box_ne H4 hb3 (by simp)
  have l6 : ¬ s1.next + 1 = q := box_ne HM Hq (by simp)
  have l7 : ¬ s1.next + 1 = t0 := box_ne HM hb3 (by simp)
  have l8 : ¬ te = q := box_ne Ht Hq (by simp)
  have l9 : ¬ te = t0 := box_ne Ht hb3 (by simp)
  refine hJJ (g.es.length - (k + 1)) _ _ (by omega) ⟨k + 1, by omega, rfl, by simp [f2], by simp [f4], by simp [f6], by simp [f18], by simp [f19], by simp, te, q, mes, R1 ++ (s.next + 3, r0 ++ [id]) :: R2, by simp [f5], ?_⟩
  rw [htk1]
  have hnd' := hnd
  rw [List.map_append, List.map_cons, List.nodup_append, List.nodup_cons] at hnd'
  obtain ⟨nd1, ⟨nd2, nd3⟩, nd4⟩ := hnd'
  refine ⟨?_, ?_, ?_, ?_, ?_, ?_, hat.keep hs, ?_, ?_, ?_, ?_⟩
  · (repeat (first | rw [new_H, if_neg (α := LObj) (by (try simp only [set_next, new_next]); omega)] | rw [set_H, if_neg (α := LObj) (by omega)] | rw [new_H, if_pos (α := LObj) (by (try simp only [set_next, new_next]))] | rw [set_H, if_pos (α := LObj) (by omega)])); exact H2
  · (repeat (first | rw [new_H, if_neg (α := LObj) (by (try simp only [set_next, new_next]); omega)] | rw [set_H, if_neg (α := LObj) (by omega)] | rw [new_H, if_pos (α := LObj) (by (try simp only [set_next, new_next]))] | rw [set_H, if_pos (α := LObj) (by omega)])); rw [hs]; exact H4
  · (repeat (first | rw [new_H, if_neg (α := LObj) (by (try simp only [set_next, new_next]); omega)] | rw [set_H, if_neg (α := LObj) (by omega)] | rw [new_H, if_pos (α := LObj) (by (try simp only [set_next, new_next]))] | rw [set_H, if_pos (α := LObj) (by omega)])); rw [hs]; exact Ht
  · (repeat (first | rw [new_H, if_neg (α := LObj) (by (try simp only [set_next, new_next]); omega)] | rw [set_H, if_neg (α := LObj) (by omega)] | rw [new_H, if_pos (α := LObj) (by (try simp only [set_next, new_next]))] | rw [set_H, if_pos (α := LObj) (by omega)])); exact HM
  · (repeat (first | rw [new_H, if_neg (α := LObj) (by (try simp only [set_next, new_next]); omega)] | rw [set_H, if_neg (α := LObj) (by omega)] | rw [new_H, if_pos (α := LObj) (by (try simp only [set_next, new_next]))] | rw [set_H, if_pos (α := LObj) (by omega)])); simp [cellsT, cellT]
  · rw [hB1, List.map_append, List.map_cons, hR1, hR2]
  · rw [List.map_append, List.map_cons, List.nodup_append, List.nodup_cons]
    have lt1 : ∀ x ∈ R1.map (·.1), x < s.next := fun x hx => by
      obtain ⟨p, hp, rfl⟩ := List.mem_map.1 hx
      exact (htk p (by simp [hp])).2.1
    have lt2 : ∀ x ∈ R2.map (·.1), x < s.next := fun x hx => by
      obtain ⟨p, hp, rfl⟩ := List.mem_map.1 hx
      exact (htk p (by simp [hp])).2.1
    refine ⟨nd1, ⟨fun h => by have := lt2 _ h; omega, nd3⟩, fun x hx y hy => ?_⟩
    rcases List.mem_cons.1 hy with rfl | hy
    · have := lt1 x hx; simp only; omega
    · exact nd4 x hx y (List.mem_cons_of_mem _ hy)
  · intro p hp
    have old : ∀ p, p ∈ R1 ∨ p ∈ R2 → ¬ p.1 = t0 → st.next ≤ p.1 ∧ p.1 < s.next ∧ s.H p.1 = .own 48 1 p.2.length ∧ ¬ p.1 = t0 ∧ ¬ p.1 = q := by
      intro p hp hne
      obtain ⟨h1, h2, h3⟩ := htk p (by rcases hp with hp | hp <;> simp [hp])
      exact ⟨h1, h2, h3, hne, box_ne h3 Hq (by simp)⟩
    have hp' : (p ∈ R1 ∨ p ∈ R2) ∧ ¬ p.1 = t0 ∨ p = (s.next + 3, r0 ++ [id]) := by
      rcases List.mem_append.1 hp with hp | hp
      · exact .inl ⟨.inl hp, nd4 _ (List.mem_map.2 ⟨p, hp, rfl⟩) t0 (by simp)⟩
      · rcases List.mem_cons.1 hp with hp | hp
        · exact .inr hp
        · exact .inl ⟨.inr hp, fun h => nd2 (by rw [← h]; exact List.mem_map.2 ⟨p, hp, rfl⟩)⟩
    rcases hp' with ⟨hp, hne⟩ | rfl
    · obtain ⟨h1, h2, h3, t1, t2⟩ := old p hp hne
      refine ⟨h1, by simp only [set_next, new_next]; omega, ?_⟩
      (repeat (first | rw [new_H, if_neg (α := LObj) (by (try simp only [set_next, new_next]); omega)] | rw [set_H, if_neg (α := LObj) (by omega)] | rw [new_H, if_pos (α := LObj) (by (try simp only [set_next, new_next]))] | rw [set_H, if_pos (α := LObj) (by omega)])); exact h3
    · refine ⟨by simp only; omega, by simp, ?_⟩
      simp only
      (repeat (first | rw [new_H, if_neg (α := LObj) (by (try simp only [set_next, new_next]); omega)] | rw [set_H, if_neg (α := LObj) (by omega)] | rw [new_H, if_pos (α := LObj) (by (try simp only [set_next, new_next]))] | rw [set_H, if_pos (α := LObj) (by omega)])); simp
  · simp only [set_next, new_next]; omega
  · refine ⟨by have := hkps.next; simp only [set_next, new_next]; omega, fun l hl => ?_⟩
    (repeat (first | rw [new_H, if_neg (α := LObj) (by (try simp only [set_next, new_next]); omega)] | rw [set_H, if_neg (α := LObj) (by omega)] | rw [new_H, if_pos (α := LObj) (by (try simp only [set_next, new_next]))] | rw [set_H, if_pos (α := LObj) (by omega)])); exact hkps.H l hl

end Go.Proofs.YtlnefdmdabhobaaGreat.Aw

namespace Go.Proofs.YtlnefdmdabhobaaGreat.Aw
open Go Go.RowKit Go.Proofs.YtlnefdmdabhobaaGreat.Pl
set_option linter.unusedSimpArgs false
set_option linter.unusedVariables false

/-- A vertex, the box of its row. -/
abbrev VB := Int × Nat
def entM (H : List (Int × Int)) (L : List VB) : List (List Int × LV) := L.map fun p => ([p.1], .ms p.2 0 (nbH p.1 H).length)
structure NbM (H : List (Int × Int)) (lo : Nat) (m : Nat) (L : List VB) (s : St) : Prop where
  hm : s.H m = .map false [.u32] (entM H L)
  bx : ∀ p ∈ L, lo ≤ p.2 ∧ p.2 < s.next ∧ s.H p.2 = .box 48 1 (us (nbH p.1 H))
  nd : (L.map (·.2)).Nodup
  kd : (L.map (·.1)).Nodup
  all : ∀ v, nbH v H ≠ [] ↔ v ∈ L.map (·.1)

theorem entM_none {H : List (Int × Int)} {v : Int} : ∀ {L : List VB}, v ∉ L.map (·.1) → mget (entM H L) [v] = none
  | [], _ => rfl
  | p :: L, h => by
    simp only [List.map_cons, List.mem_cons, not_or] at h
    simp only [entM, List.map_cons, mget]
    rw [if_neg (by simpa using h.1)]
    exact entM_none h.2
theorem entM_some {H : List (Int × Int)} {v : Int} {q : Nat} : ∀ {L1 L2 : List VB}, v ∉ L1.map (·.1) → mget (entM H (L1 ++ (v, q) :: L2)) [v] = some (.ms q 0 (nbH v H).length)
  | [], L2, _ => by simp [entM, mget]
  | p :: L1, L2, h => by
    simp only [List.map_cons, List.mem_cons, not_or] at h
    simp only [List.cons_append, entM, List.map_cons, mget]
    rw [if_neg (by simpa using h.1)]
    exact entM_some h.2
theorem entM_set {H H' : List (Int × Int)} {v : Int} {q q' : Nat} : ∀ {L1 L2 : List VB}, v ∉ L1.map (·.1) → v ∉ L2.map (·.1) → (∀ u, u ≠ v → nbH u H' = nbH u H) → mset (entM H (L1 ++ (v, q) :: L2)) [v] (.ms q' 0 (nbH v H').length) = entM H' (L1 ++ (v, q') :: L2)
  | [], L2, _, h2, hn => by
    simp only [List.nil_append, entM, List.map_cons, mset, beq_self_eq_true, if_true]
    congr 1
    refine List.map_congr_left fun p hp => ?_
    rw [hn p.1 (fun e => h2 (by rw [← e]; exact List.mem_map.2 ⟨p, hp, rfl⟩))]
  | p :: L1, L2, h, h2, hn => by
    simp only [List.map_cons, List.mem_cons, not_or] at h
    have ih := entM_set (H := H) (H' := H') (q := q) (q' := q') (L1 := L1) (L2 := L2) h.2 h2 hn
    simp only [List.cons_append, entM, List.map_cons, mset] at ih ⊢
    rw [if_neg (by simpa using h.1), ih, hn p.1 (fun e => h.1 e.symm)]
theorem entM_add {H H' : List (Int × Int)} {v : Int} {q' : Nat} : ∀ {L : List VB}, v ∉ L.map (·.1) → (∀ u, u ≠ v → nbH u H' = nbH u H) → mset (entM H L) [v] (.ms q' 0 (nbH v H').length) = entM H' (L ++ [(v, q')])
  | [], _, _ => rfl
  | p :: L, h, hn => by
    simp only [List.map_cons, List.mem_cons, not_or] at h
    have ih := entM_add (H := H) (H' := H') (q' := q') (L := L) h.2 hn
    simp only [List.cons_append, entM, List.map_cons, mset] at ih ⊢
    rw [if_neg (by simpa using h.1), ih, hn p.1 (fun e => h.1 e.symm)]
theorem nbH_other {H : List (Int × Int)} {a b u : Int} (h : u ≠ a) : nbH u (H ++ [(a, b)]) = nbH u H := by rw [nbH_snoc, if_neg (fun e => h e.symm), List.append_nil]
theorem nbH_this {H : List (Int × Int)} {a b : Int} : nbH a (H ++ [(a, b)]) = nbH a H ++ [b] := by rw [nbH_snoc, if_pos rfl]

/-- A row of which nothing was yet: the map has it behind a new box. -/
theorem NbM.add {H : List (Int × Int)} {lo m : Nat} {L : List VB} {s : St} (h : NbM H lo m L s) {a b : Int} (ha : a ∉ L.map (·.1)) {q' : Nat} {s' : St} (hq : lo ≤ q' ∧ s.next ≤ q' ∧ q' < s'.next)
    (hm : s'.H m = .map false [.u32] (mset (entM H L) [a] (.ms q' 0 (nbH a H ++ [b]).length))) (hb : s'.H q' = .box 48 1 (us (nbH a H ++ [b]))) (ho : ∀ p ∈ L, s'.H p.2 = s.H p.2) (hn : s.next ≤ s'.next) : NbM (H ++ [(a, b)]) lo m (L ++ [(a, q')]) s' := by
  have hoth : ∀ u, u ≠ a → nbH u (H ++ [(a, b)]) = nbH u H := fun u hu => nbH_other hu
  refine ⟨?_, fun p hp => ?_, ?_, ?_, fun v => ?_⟩
  · rw [hm, ← nbH_this, entM_add ha hoth]
  · rcases List.mem_append.1 hp with hp | hp
    · obtain ⟨h1, h2, h3⟩ := h.bx p hp
      exact ⟨h1, by omega, by rw [ho p hp, h3, hoth p.1 (fun e => ha (by rw [← e]; exact List.mem_map.2 ⟨p, hp, rfl⟩))]⟩
    · rw [List.mem_singleton] at hp
      subst hp
      exact ⟨hq.1, hq.2.2, by rw [hb, nbH_this]⟩
  · rw [List.map_append, List.nodup_append]
    refine ⟨h.nd, by simp, fun x hx y hy => ?_⟩
    obtain ⟨p, hp, rfl⟩ := List.mem_map.1 hx
    simp at hy
    have := (h.bx p hp).2.1
    omega
  · rw [List.map_append, List.nodup_append]
    exact ⟨h.kd, by simp, fun x hx y hy => by simp at hy; subst hy; rintro rfl; exact ha hx⟩
  · rw [List.map_append, List.mem_append]
    by_cases hv : v = a
    · subst hv; rw [nbH_this]; simp
    · rw [hoth v hv, h.all v]
      simp [hv]
/-- A row that was there grows. -/
theorem NbM.put {H : List (Int × Int)} {lo m : Nat} {L1 L2 : List VB} {s : St} {a b : Int} {q : Nat} (h : NbM H lo m (L1 ++ (a, q) :: L2) s) {q' : Nat} {s' : St} (hq : lo ≤ q' ∧ s.next ≤ q' ∧ q' < s'.next)
    (hm : s'.H m = .map false [.u32] (mset (entM H (L1 ++ (a, q) :: L2)) [a] (.ms q' 0 (nbH a H ++ [b]).length))) (hb : s'.H q' = .box 48 1 (us (nbH a H ++ [b]))) (ho : ∀ p, p ∈ L1 ∨ p ∈ L2 → p.2 ≠ q → p.2 < s.next → s'.H p.2 = s.H p.2) (hn : s.next ≤ s'.next) : NbM (H ++ [(a, b)]) lo m (L1 ++ (a, q') :: L2) s' := by
  have hoth : ∀ u, u ≠ a → nbH u (H ++ [(a, b)]) = nbH u H := fun u hu => nbH_other hu
  have kd := h.kd
  have nd := h.nd
  rw [List.map_append, List.map_cons, List.nodup_append, List.nodup_cons] at kd nd
  obtain ⟨kd1, ⟨kd2, kd3⟩, kd4⟩ := kd
  obtain ⟨nd1, ⟨nd2, nd3⟩, nd4⟩ := nd
  have ha1 : a ∉ L1.map (·.1) := fun e => kd4 a e a (by simp) rfl
  have hb1 : ∀ p, p ∈ L1 ∨ p ∈ L2 → p.1 ≠ a ∧ p.2 ≠ q ∧ (lo ≤ p.2 ∧ p.2 < s.next ∧ s.H p.2 = .box 48 1 (us (nbH p.1 H))) := by
    intro p hp
    refine ⟨?_, ?_, h.bx p (by rcases hp with hp | hp <;> simp [hp])⟩
    · rcases hp with hp | hp
      · exact fun e => ha1 (by rw [← e]; exact List.mem_map.2 ⟨p, hp, rfl⟩)
      · exact fun e => kd2 (by rw [← e]; exact List.mem_map.2 ⟨p, hp, rfl⟩)
    · rcases hp with hp | hp
      · exact nd4 _ (List.mem_map.2 ⟨p, hp, rfl⟩) q (by simp)
      · exact fun e => nd2 (by rw [← e]; exact List.mem_map.2 ⟨p, hp, rfl⟩)
  refine ⟨?_, fun p hp => ?_, ?_, ?_, fun v => ?_⟩
  · rw [hm, ← nbH_this, entM_set ha1 kd2 hoth]
  · have hp' : (p ∈ L1 ∨ p ∈ L2) ∨ p = (a, q') := by
      rcases List.mem_append.1 hp with hp | hp
      · exact .inl (.inl hp)
      · rcases List.mem_cons.1 hp with hp | hp
        · exact .inr hp
        · exact .inl (.inr hp)
    rcases hp' with hp | rfl
    · obtain ⟨h1, h2, h3, h4, h5⟩ := hb1 p hp
      exact ⟨h3, by omega, by rw [ho p hp h2 h4, h5, hoth p.1 h1]⟩
    · exact ⟨hq.1, hq.2.2, by rw [hb, nbH_this]⟩
  · rw [List.map_append, List.map_cons, List.nodup_append, List.nodup_cons]
    have lt : ∀ p, p ∈ L1 ∨ p ∈ L2 → p.2 < s.next := fun p hp => (hb1 p hp).2.2.2.1
    refine ⟨nd1, ⟨fun e => ?_, nd3⟩, fun x hx y hy => ?_⟩
    · obtain ⟨p, hp, e⟩ := List.mem_map.1 e
      have := lt p (.inr hp); simp only at e; omega
    · rcases List.mem_cons.1 hy with rfl | hy
      · obtain ⟨p, hp, rfl⟩ := List.mem_map.1 hx
        have := lt p (.inl hp); omega
      · exact nd4 x hx y (List.mem_cons_of_mem _ hy)
  · have := h.kd
    rw [List.map_append, List.map_cons] at this ⊢
    exact this
  · by_cases hv : v = a
    · subst hv; rw [nbH_this]; simp
    · rw [hoth v hv, h.all v, List.map_append, List.map_append, List.map_cons, List.map_cons]

theorem nodup_map_inj {α β : Type} {f : α → β} : ∀ {L : List α}, (L.map f).Nodup → ∀ {x y : α}, x ∈ L → y ∈ L → f x = f y → x = y
  | [], _, _, _, hx, _, _ => by simp at hx
  | z :: L, h, x, y, hx, hy, e => by
    simp only [List.map_cons, List.nodup_cons] at h
    rcases List.mem_cons.1 hx with hx' | hx' <;> rcases List.mem_cons.1 hy with hy' | hy'
    · rw [hx', hy']
    · exact absurd (List.mem_map.2 ⟨y, hy', by rw [← e, hx']⟩) h.1
    · exact absurd (List.mem_map.2 ⟨x, hx', by rw [e, hy']⟩) h.1
    · exact nodup_map_inj h.2 hx' hy' e
theorem awp_cutB {P : Program} {N : Nat} {Q : AQ} {k : List AItem} {fr : Frm} {st : St} {x : Code} (I : Frm → St → Prop) (h1 : AWp P N x (AK P N (fun e f s => e = .normal ∧ I f s) []) fr st) (h2 : ∀ fr st, I fr st → AK P N Q k .normal fr st) :
    AWp P N x (AK P N Q k) fr st := by
  refine awp_mono h1 ?_
  rintro e fr' st' ⟨rfl, hI⟩
  exact h2 _ _ hI
theorem awp_weakB {P : Program} {N : Nat} {Q : AQ} {c : Code} {fr : Frm} {st : St} (I : Frm → St → Prop) (h0 : I fr st) (h : ∀ fr st, I fr st → AWp P N c Q fr st) : AWp P N c Q fr st := h _ _ h0
theorem NbM.keeps {H : List (Int × Int)} {lo m : Nat} {L : List VB} {s s' : St} (h : NbM H lo m L s) (k : Keeps s s') (hm : m < s.next) : NbM H lo m L s' :=
  ⟨by rw [k.H m hm]; exact h.hm, fun p hp => by obtain ⟨h1, h2, h3⟩ := h.bx p hp; exact ⟨h1, Nat.lt_of_lt_of_le h2 k.next, by rw [k.H _ h2]; exact h3⟩, h.nd, h.kd, h.all⟩

def SoI (st0 : St) (H : List (Int × Int)) (M : Nat) (L : List VB) (Lr : List (List Int × LV)) (fr : Frm) (s : St) : Prop :=
  fr 3 = .mp M ∧ (Lr.map (·.1)).Nodup ∧ (∀ e ∈ Lr, ∃ p ∈ L, e = ([p.1], .ms p.2 0 (nbH p.1 H).length)) ∧ s.H M = .dead ∧ M < s.next ∧ Keeps st0 s ∧
  ∀ p ∈ L, p.2 < s.next ∧ ∃ c, s.H p.2 = .box 48 1 (us c) ∧ c.Perm (nbH p.1 H) ∧ ([p.1] ∉ Lr.map (·.1) → c.Pairwise (· ≤ ·))

def NrI (st0 : St) (S : List Ed) (M k : Nat) (H : List (Int × Int)) (fr : Frm) (s : St) : Prop :=
  fr 3 = .mp M ∧ fr 17 = .sl 0 S.length (eds S) ∧ fr 18 = i S.length ∧ fr 19 = i k ∧ st0.next ≤ M ∧ M < s.next ∧ Keeps st0 s ∧ ∃ L, NbM H st0.next M L s

set_option maxHeartbeats 2000000 in
theorem nearbyM (g : Gr) (st : St) (hv : g.vs.length ≤ 1048576) (he : g.es.length ≤ 1000) (hp : 0 < st.next) :
    ACalls Tryz.prog 143 [.ag (grL g)] st fun r st' => ∃ m L, r = .mp m ∧ st.next ≤ m ∧ m < st'.next ∧ Keeps st st' ∧ st'.H m = .map false [.u32] (rowsM L) ∧ (∀ p ∈ L, st.next ≤ p.2.1 ∧ st'.H p.2.1 = .box 48 1 p.2.2) ∧ (L.map fun p => p.2.1).Nodup ∧
      ∃ K : List Int, K.Nodup ∧ (∀ v, nbH v (hfs (sE g.es)) ≠ [] ↔ v ∈ K) ∧ L.map (fun p => (p.1, p.2.2)) = K.map fun v => ([v], us (nearF g.es v)) := by
  have hel := eds_length (sE g.es)
  have hsl := sE_len g.es
  refine acalls_of_body tabOk Tryz.func143 rfl rfl Tryz.ntmps143 (rs := [.tmp 2]) rfl (by simp) ?_
  (repeat' (first | refine awp_seq ?_ | (refine w_e [] ?_; intro J hJ; simp only []; simp []; (try (refine hJ _ _ ?_; clear hJ J; simp only [ak, reduceIte])))))
  refine callK_ofE (Simple g _ hv he (by simp)) (by simp) ?_; rintro r s1 ⟨rfl, hk1⟩
  have hn1 := hk1.next
  simp only [new_next] at hn1
  have hkp1 : Keeps st s1 := ((Keeps.new _ _).trans (Keeps.new _ _)).trans hk1
  have hm1 : s1.H (st.next + 1) = .map false [.u32] [] := by rw [hk1.H _ (by simp)]; simp
  have e1 : ¬ st.next + 1 = s1.next := by omega
  generalize hbl : (bnd g.es).length = bl
  generalize hbc : ((bnd g.es).map fun l => LV.sl 0 l.length (us l)) = bc
  (repeat' (first | refine awp_seq ?_ | refine awp_block ?_ | ((first | (refine w_e [] ?_; intro J hJ; simp only []) | (refine e_go ?_)); simp [hel]; (refine hJ _ _ ?_; clear hJ J; simp only [ak, reduceIte]))))
  refine awp_loop (fun n fr s => ∃ k : Nat, k ≤ (sE g.es).length ∧ n = (sE g.es).length - k ∧ NrI st (sE g.es) (st.next + 1) k (hfs ((sE g.es).take k)) fr s) (sE g.es).length ?_ ?_
  · refine ⟨0, by omega, by omega, by simp, by simp, by simp, by simp, by omega, by simp; omega, (hkp1.trans (Keeps.new _ _)), [], ?_⟩
    exact ⟨by simp [e1, hm1, entM], by simp, by simp, by simp, by simp [hfs, nbH]⟩
  rintro n fr s ⟨k, hk, rfl, f3, f17, f18, f19, hM1, hM2, hkp, L, hNb⟩ JJ hJJ
  generalize hMM : st.next + 1 = M at *
  by_cases hlt : k < (sE g.es).length
  rotate_left
  · clear hJJ
    have hk' : k = (sE g.es).length := by omega
    rw [hk', List.take_length] at hNb
    refine awp_seq ?_
    (refine w_e [] ?_; intro J hJ; simp only []; simp [f18, f19, hlt]; (refine hJ _ _ ?_; clear hJ J; simp only [ak, reduceIte]))
    refine awp_seq ?_
    (refine awp_cond ?_; simp [])
    refine awp_exit ?_; simp only [ak, reduceIte]
    have hHl : (hfs (sE g.es)).length ≤ 2000 := by rw [hfs_len]; omega
    generalize hHH : hfs (sE g.es) = H at *
    refine awp_seq ?_
    refine awp_mapRange tabOk [] (SoI st H M L) (by simp [f3]) hNb.hm ?_ ?_ ?_ Tryz.underlying110
    · intro r
      refine ⟨by simp [f3], ?_, ?_, by simp, by simp; omega, hkp.set hM1 _, fun p hp => ?_⟩
      · have := hNb.kd
        rw [entM, List.map_map]
        have e : L.map ((fun x => x.1) ∘ fun p : VB => (([p.1], LV.ms p.2 0 (nbH p.1 H).length) : List Int × LV)) = (L.map (·.1)).map fun v => [v] := by rw [List.map_map]; rfl
        rw [e]
        exact this.map (fun v => [v]) fun a b hab h => hab (by simpa using h)
      · intro e hee
        obtain ⟨p, hp, rfl⟩ := List.mem_map.1 hee
        exact ⟨p, hp, rfl⟩
      · obtain ⟨h1, h2, h3⟩ := hNb.bx p hp
        have h4 : ¬ p.2 = M := box_ne h3 hNb.hm (by simp)
        refine ⟨by simp; exact h2, nbH p.1 H, by rw [set_H, if_neg h4]; exact h3, .refl _, fun h => absurd (List.mem_map.2 ⟨_, List.mem_map.2 ⟨p, hp, rfl⟩, rfl⟩) h⟩
    · rintro r L1 e L2 fr s2 ⟨F3, hnd, hem, hMd, hMl, hK2, hbx⟩ ft J hJ
      obtain ⟨p, hp, rfl⟩ := hem e (by simp)
      obtain ⟨v, q⟩ := p
      obtain ⟨hql, c, hcH, hcp, -⟩ := hbx (v, q) hp
      have hcl : c.length = (nbH v H).length := hcp.length_eq
      have hnl := nbH_len v H
      simp only at hcl hcH hql hcp
      have hsort := SortU c q s2 (by omega) hql hcH
      rw [hcl] at hsort
      refine e_go ?_
      simp [keyV, mkC]
      (repeat' (refine w_e [] ?_; intro J hJ; simp only []; simp []))
      refine callK_ofE (hsort) (by simp []) ?_; rintro r st' ⟨d, hd1, hd2, hd3, hd4⟩
      (repeat' (refine e_go ?_; simp []; (refine hJ _ _ ?_; clear hJ J; simp only [ak, reduceIte])))
      rw [List.map_append, List.map_cons, List.nodup_append, List.nodup_cons] at hnd
      obtain ⟨nd1, ⟨nd2, nd3⟩, nd4⟩ := hnd
      have hMq : ¬ M = q := fun h => by rw [h, hcH] at hMd; cases hMd
      refine hJ _ _ ⟨by simp [F3], ?_, fun e he => hem e (by simp only [List.mem_append, List.mem_cons] at he ⊢; rcases he with h | h; exact .inl h; exact .inr (.inr h)), by rw [hd4.2 M hMq hMl]; exact hMd, Nat.lt_of_lt_of_le hMl hd4.1, ?_, fun p hp2 => ?_⟩ (by simp [ft])
      · rw [List.map_append, List.nodup_append]
        exact ⟨nd1, nd3, fun a ha b hb => nd4 a ha b (List.mem_cons_of_mem _ hb)⟩
      · have hq0 : st.next ≤ q := (hNb.bx (v, q) hp).1
        exact ⟨Nat.le_trans hK2.next hd4.1, fun l hl => by rw [hd4.2 l (by omega) (Nat.lt_of_lt_of_le hl hK2.next)]; exact hK2.H l hl⟩
      · obtain ⟨h1, c2, h2, h3, h4⟩ := hbx p hp2
        by_cases hpq : p.2 = q
        · obtain rfl : p = (v, q) := by
            exact nodup_map_inj hNb.nd hp2 hp hpq
          exact ⟨Nat.lt_of_lt_of_le h1 hd4.1, d, hd1, hd2.trans hcp, fun _ => hd3⟩
        · refine ⟨Nat.lt_of_lt_of_le h1 hd4.1, c2, by rw [hd4.2 _ hpq h1]; exact h2, h3, fun hno => h4 fun hin => hno ?_⟩
          rw [List.map_append, List.map_cons, List.mem_append, List.mem_cons] at hin
          rw [List.map_append, List.mem_append]
          rcases hin with h | h | h
          · exact .inl h
          · exfalso
            simp at h
            have e2 := nodup_map_inj hNb.kd hp2 hp h
            exact hpq (by rw [e2])
          · exact .inr h
    · rintro fr s2 ⟨F3, -, -, hMd, hMl, hK2, hbx⟩
      simp only [ak]
      have hnl : ∀ v, (us (nearF g.es v)).length = (nbH v H).length := fun v => by
        rw [List.length_map, ← hHH]; exact (srt_perm _).length_eq
      (repeat' (first | refine awp_seq ?_ | (refine awp_ret ?_; simp only [ak, reduceIte]; simp [F3]) | (refine w_e [] ?_; intro J hJ; simp only []; simp [F3]; (refine hJ _ _ ?_; clear hJ J; simp only [ak, reduceIte]))))
      refine ⟨hM1, by omega, hK2.set hM1 _, L.map fun p => ([p.1], p.2, us (nearF g.es p.1)), ?_, ?_, ?_, L.map (·.1), hNb.kd, ?_, ?_⟩
      · congr 1
        rw [rowsM, List.map_map, entM]
        refine List.map_congr_left fun p _ => ?_
        simp only [Function.comp, hnl]
      · intro a q b hin
        obtain ⟨p, hp, he⟩ := List.mem_map.1 hin
        injection he with e1 e2
        injection e2 with e2 e3
        subst e1 e2 e3
        obtain ⟨h1, c, h2, h3, h4⟩ := hbx p hp
        have h5 : ¬ p.2 = M := fun h => by rw [h, hMd] at h2; cases h2
        rw [if_neg h5]
        refine ⟨(hNb.bx p hp).1, ?_⟩
        rw [h2, srt_of h3 (h4 (by simp)), ← hHH]; rfl
      · have := hNb.nd
        rw [List.map_map]; exact this
      · intro v
        exact hNb.all v
      · rw [List.map_map, List.map_map]; rfl
  have hd := eds_drop (sE g.es) k hlt
  have hw := nat_add_one k (by omega)
  have hk3 : k * 3 < (sE g.es).length * 3 := by omega
  have htk1 : (sE g.es).take (k + 1) = (sE g.es).take k ++ [(sE g.es).getD k ed0] := by
    rw [List.getD_eq_getElem?_getD, List.getElem?_eq_getElem hlt]; exact List.take_succ_eq_append_getElem hlt
  have hEl : (hfs ((sE g.es).take k)).length ≤ 2000 := by rw [hfs_len, List.length_take]; omega
  generalize (sE g.es).getD k ed0 = x at *
  have hH2 : hfs ((sE g.es).take (k + 1)) = hfs ((sE g.es).take k) ++ [(x.a, x.b)] ++ [(x.b, x.a)] := by rw [htk1, hfs_snoc]
  obtain ⟨id, a, b⟩ := x
  simp only at hd hH2
  generalize hfs ((sE g.es).take k) = H at *
  have b0 : ¬ s.next = M := by omega
  (repeat' (first | refine awp_seq ?_ | refine awp_block ?_ | (refine awp_skip ?_; simp only [ak, reduceIte]) | (refine awp_cond ?_; simp [f17, f18, f19, hlt, hd, hel, hk3]) | (refine w_e [] ?_; intro J hJ; simp only []; simp [f17, f18, f19, hlt, hd, hel, hk3]; (refine hJ _ _ ?_; clear hJ J; simp only [ak, reduceIte]))))
  refine awp_weakB (fun f s' => NrI st (sE g.es) M k H f s' ∧ f 7 = .pt s.next 0 ∧ s.next < s'.next ∧ s'.H s.next = .box 50 3 [u id, u a, u b]) ?_ ?_
  · exact ⟨⟨by simp [f3], by simp [f17], by simp [f18], by simp [f19], hM1, by simp; omega, hkp.trans (Keeps.new _ _), L, hNb.keeps (Keeps.new _ _) hM2⟩, by simp, by simp, by simp⟩
  generalize s.next = X at *
  clear hNb hkp hM1 hM2 f19 f18 f17 f3 L
  rintro fr s ⟨⟨f3, f17, f18, f19, hM1, hM2, hkp, L, hNb⟩, f7, hXl, hX⟩
  refine awp_cut1 (fun f s' => NrI st (sE g.es) M k (H ++ [(a, b)]) f s' ∧ f 7 = .pt X 0 ∧ X < s'.next ∧ s'.H X = .box 50 3 [u id, u a, u b]) ?_ ?_
  · clear hJJ
    have hMl := hNb.hm
    have x1 : ¬ X = M := box_ne hX hMl (by simp)
    have x2 : ¬ M = X := fun h => x1 h.symm
    have x3 : ¬ X = s.next := by omega
    have x4 : ¬ X = s.next + 1 := by omega
    have y3 : ¬ M = s.next := by omega
    have y4 : ¬ M = s.next + 1 := by omega
    have y5 : ¬ s.next = M := by omega
    have y6 : ¬ s.next + 1 = M := by omega
    have hnl := nbH_len a (H)
    by_cases hin : a ∈ L.map (·.1)
    · obtain ⟨p, hp, rfl⟩ := List.mem_map.1 hin
      obtain ⟨v, q⟩ := p
      obtain ⟨L1, L2, rfl⟩ := List.append_of_mem hp
      have kd := hNb.kd
      rw [List.map_append, List.map_cons, List.nodup_append] at kd
      have hget := entM_some (H := H) (q := q) (L1 := L1) (L2 := L2) (v := v) (fun e => kd.2.2 v e v (by simp) rfl)
      obtain ⟨q1, q2, q3⟩ := hNb.bx (v, q) (by simp)
      simp only at q1 q2 q3 hnl
      have z1 : ¬ q = M := box_ne q3 hMl (by simp)
      have z2 : ¬ q = s.next := by omega
      have z3 : ¬ q = s.next + 1 := by omega
      have z4 : ¬ X = q := box_ne hX q3 (by simp)
      have z5 : ¬ M = q := fun h => z1 h.symm
      have z6 : List.take (nbH v (H)).length (us (nbH v (H))) = us (nbH v (H)) := List.take_of_length_le (by simp)
      have put := hNb.put (b := b) (q' := s.next + 1) (s' := (((s.new (.own 48 1 1)).set q .dead).new (.box 48 1 (us (nbH v (H) ++ [b])))).set M (.map false [.u32] (mset (entM (H) (L1 ++ (v, q) :: L2)) [v] (.ms (s.next + 1) 0 (nbH v (H) ++ [b]).length)))) ⟨by omega, by omega, by simp⟩ (by simp) (by (repeat (first | rw [new_H, if_neg (α := LObj) (by (try simp only [set_next, new_next]); omega)] | rw [set_H, if_neg (α := LObj) (by omega)] | rw [new_H, if_pos (α := LObj) (by (try simp only [set_next, new_next]))] | rw [set_H, if_pos (α := LObj) (by omega)]))) (fun p hp h1 h2 => by
        have := hNb.bx p (by rcases hp with hp | hp <;> simp [hp])
        have h3 : ¬ p.2 = M := box_ne this.2.2 hMl (by simp)
        (repeat (first | rw [new_H, if_neg (α := LObj) (by (try simp only [set_next, new_next]); omega)] | rw [set_H, if_neg (α := LObj) (by omega)] | rw [new_H, if_pos (α := LObj) (by (try simp only [set_next, new_next]))] | rw [set_H, if_pos (α := LObj) (by omega)]))) (by simp; omega)
      generalize hF : nbH v (H) = F at *
      generalize hN : entM (H) (L1 ++ (v, q) :: L2) = EM at *
      (refine w_s [33] [X, M] [(0, true), (1, true), (2, true), (3, true), (4, true), (5, true), (6, true), (7, true), (8, true), (9, true), (10, true), (11, false)] ?_; intro J hJ; simp [f3, f7, hX, hMl, x1, x2, x3, x4, y3, y4, y5, y6, hget, q3, z1, z2, z3, z4, z5, z6]; (repeat refine ca ?_); (refine hJ _ _ ?_; clear hJ J; simp only [ak, reduceIte]))
      refine ⟨by trivial, ⟨by simp [f3], by simp [f17], by simp [f18], by simp [f19], hM1, by simp; omega, ?_, L1 ++ (v, s.next + 1) :: L2, ?_⟩, by simp [f7], by simp; omega, ?_⟩
      · refine ⟨by have := hkp.next; simp; omega, fun l hl => ?_⟩
        have := hkp.next
        (repeat (first | rw [new_H, if_neg (α := LObj) (by (try simp only [set_next, new_next]); omega)] | rw [set_H, if_neg (α := LObj) (by omega)] | rw [new_H, if_pos (α := LObj) (by (try simp only [set_next, new_next]))] | rw [set_H, if_pos (α := LObj) (by omega)])); exact hkp.H l hl
      · simpa using put
      · (repeat (first | rw [new_H, if_neg (α := LObj) (by (try simp only [set_next, new_next]); omega)] | rw [set_H, if_neg (α := LObj) (by omega)] | rw [new_H, if_pos (α := LObj) (by (try simp only [set_next, new_next]))] | rw [set_H, if_pos (α := LObj) (by omega)])); exact hX
    · have hget := entM_none (H := H) hin
      have hnil : nbH a (H) = [] := by
        cases hc : nbH a (H) with
        | nil => rfl
        | cons _ _ => exact absurd ((hNb.all _).1 (by rw [hc]; simp)) hin
      have put := hNb.add (a := a) (b := b) (q' := s.next + 1) (s' := ((s.new (.own 48 1 1)).new (.box 48 1 (us (nbH a (H) ++ [b])))).set M (.map false [.u32] (mset (entM (H) L) [a] (.ms (s.next + 1) 0 (nbH a (H) ++ [b]).length)))) hin ⟨by omega, by omega, by simp⟩ (by simp) (by (repeat (first | rw [new_H, if_neg (α := LObj) (by (try simp only [set_next, new_next]); omega)] | rw [set_H, if_neg (α := LObj) (by omega)] | rw [new_H, if_pos (α := LObj) (by (try simp only [set_next, new_next]))] | rw [set_H, if_pos (α := LObj) (by omega)]))) (fun p hp => by
        have := hNb.bx p hp
        have h3 : ¬ p.2 = M := box_ne this.2.2 hMl (by simp)
        (repeat (first | rw [new_H, if_neg (α := LObj) (by (try simp only [set_next, new_next]); omega)] | rw [set_H, if_neg (α := LObj) (by omega)] | rw [new_H, if_pos (α := LObj) (by (try simp only [set_next, new_next]))] | rw [set_H, if_pos (α := LObj) (by omega)]))) (by simp only [set_next, new_next]; omega)
      rw [hnil] at put
      generalize hN : entM (H) L = EM at *
      (refine w_s [33] [X, M] [(0, true), (1, true), (2, true), (3, true), (4, true), (5, true), (6, true), (7, true), (8, true), (9, true), (10, true), (11, false)] ?_; intro J hJ; simp [f3, f7, hX, hMl, x1, x2, x3, x4, y3, y4, y5, y6, hget]; (repeat refine ca ?_); (refine hJ _ _ ?_; clear hJ J; simp only [ak, reduceIte]))
      refine ⟨by trivial, ⟨by simp [f3], by simp [f17], by simp [f18], by simp [f19], hM1, by simp; omega, ?_, L ++ [(a, s.next + 1)], ?_⟩, by simp [f7], by simp; omega, ?_⟩
      · refine ⟨by have := hkp.next; simp; omega, fun l hl => ?_⟩
        have := hkp.next
        (repeat (first | rw [new_H, if_neg (α := LObj) (by (try simp only [set_next, new_next]); omega)] | rw [set_H, if_neg (α := LObj) (by omega)] | rw [new_H, if_pos (α := LObj) (by (try simp only [set_next, new_next]))] | rw [set_H, if_pos (α := LObj) (by omega)])); exact hkp.H l hl
      · simpa using put
      · (repeat (first | rw [new_H, if_neg (α := LObj) (by (try simp only [set_next, new_next]); omega)] | rw [set_H, if_neg (α := LObj) (by omega)] | rw [new_H, if_pos (α := LObj) (by (try simp only [set_next, new_next]))] | rw [set_H, if_pos (α := LObj) (by omega)])); exact hX
  clear hNb hkp hM1 hM2 f19 f18 f17 f3 f7 hXl hX L
  rintro fr s ⟨⟨f3, f17, f18, f19, hM1, hM2, hkp, L, hNb⟩, f7, hXl, hX⟩
  have hEl2 : (H ++ [(a, b)]).length ≤ 2001 := by rw [List.length_append]; simp only [List.length_cons, List.length_nil]; omega
  generalize H ++ [(a, b)] = H2 at *
  refine awp_cutB (fun f s' => NrI st (sE g.es) M k (H2 ++ [(b, a)]) f s' ∧ f 7 = .pt X 0 ∧ X < s'.next ∧ s'.H X = .box 50 3 [u id, u a, u b]) ?_ ?_
  · clear hJJ
    have hMl := hNb.hm
    have x1 : ¬ X = M := box_ne hX hMl (by simp)
    have x2 : ¬ M = X := fun h => x1 h.symm
    have x3 : ¬ X = s.next := by omega
    have x4 : ¬ X = s.next + 1 := by omega
    have y3 : ¬ M = s.next := by omega
    have y4 : ¬ M = s.next + 1 := by omega
    have y5 : ¬ s.next = M := by omega
    have y6 : ¬ s.next + 1 = M := by omega
    have hnl := nbH_len b (H2)
    by_cases hin : b ∈ L.map (·.1)
    · obtain ⟨p, hp, rfl⟩ := List.mem_map.1 hin
      obtain ⟨v, q⟩ := p
      obtain ⟨L1, L2, rfl⟩ := List.append_of_mem hp
      have kd := hNb.kd
      rw [List.map_append, List.map_cons, List.nodup_append] at kd
      have hget := entM_some (H := H2) (q := q) (L1 := L1) (L2 := L2) (v := v) (fun e => kd.2.2 v e v (by simp) rfl)
      obtain ⟨q1, q2, q3⟩ := hNb.bx (v, q) (by simp)
      simp only at q1 q2 q3 hnl
      have z1 : ¬ q = M := box_ne q3 hMl (by simp)
      have z2 : ¬ q = s.next := by omega
      have z3 : ¬ q = s.next + 1 := by omega
      have z4 : ¬ X = q := box_ne hX q3 (by simp)
      have z5 : ¬ M = q := fun h => z1 h.symm
      have z6 : List.take (nbH v (H2)).length (us (nbH v (H2))) = us (nbH v (H2)) := List.take_of_length_le (by simp)
      have put := hNb.put (b := a) (q' := s.next + 1) (s' := (((s.new (.own 48 1 1)).set q .dead).new (.box 48 1 (us (nbH v (H2) ++ [a])))).set M (.map false [.u32] (mset (entM (H2) (L1 ++ (v, q) :: L2)) [v] (.ms (s.next + 1) 0 (nbH v (H2) ++ [a]).length)))) ⟨by omega, by omega, by simp⟩ (by simp) (by (repeat (first | rw [new_H, if_neg (α := LObj) (by (try simp only [set_next, new_next]); omega)] | rw [set_H, if_neg (α := LObj) (by omega)] | rw [new_H, if_pos (α := LObj) (by (try simp only [set_next, new_next]))] | rw [set_H, if_pos (α := LObj) (by omega)]))) (fun p hp h1 h2 => by
        have := hNb.bx p (by rcases hp with hp | hp <;> simp [hp])
        have h3 : ¬ p.2 = M := box_ne this.2.2 hMl (by simp)
        (repeat (first | rw [new_H, if_neg (α := LObj) (by (try simp only [set_next, new_next]); omega)] | rw [set_H, if_neg (α := LObj) (by omega)] | rw [new_H, if_pos (α := LObj) (by (try simp only [set_next, new_next]))] | rw [set_H, if_pos (α := LObj) (by omega)]))) (by simp; omega)
      generalize hF : nbH v (H2) = F at *
      generalize hN : entM (H2) (L1 ++ (v, q) :: L2) = EM at *
      (refine w_s [44] [X, M] [(0, true), (1, true), (2, true), (3, true), (4, true), (5, true), (6, true), (7, true), (8, true), (9, true), (10, true), (11, false)] ?_; intro J hJ; simp [f3, f7, hX, hMl, x1, x2, x3, x4, y3, y4, y5, y6, hget, q3, z1, z2, z3, z4, z5, z6]; (repeat refine ca ?_); (refine hJ _ _ ?_; clear hJ J; simp only [ak, reduceIte]))
      refine ⟨by trivial, ⟨by simp [f3], by simp [f17], by simp [f18], by simp [f19], hM1, by simp; omega, ?_, L1 ++ (v, s.next + 1) :: L2, ?_⟩, by simp [f7], by simp; omega, ?_⟩
      · refine ⟨by have := hkp.next; simp; omega, fun l hl => ?_⟩
        have := hkp.next
        (repeat (first | rw [new_H, if_neg (α := LObj) (by (try simp only [set_next, new_next]); omega)] | rw [set_H, if_neg (α := LObj) (by omega)] | rw [new_H, if_pos (α := LObj) (by (try simp only [set_next, new_next]))] | rw [set_H, if_pos (α := LObj) (by omega)])); exact hkp.H l hl
      · simpa using put
      · (repeat (first | rw [new_H, if_neg (α := LObj) (by (try simp only [set_next, new_next]); omega)] | rw [set_H, if_neg (α := LObj) (by omega)] | rw [new_H, if_pos (α := LObj) (by (try simp only [set_next, new_next]))] | rw [set_H, if_pos (α := LObj) (by omega)])); exact hX
    · have hget := entM_none (H := H2) hin
      have hnil : nbH b (H2) = [] := by
        cases hc : nbH b (H2) with
        | nil => rfl
        | cons _ _ => exact absurd ((hNb.all _).1 (by rw [hc]; simp)) hin
      have put := hNb.add (a := b) (b := a) (q' := s.next + 1) (s' := ((s.new (.own 48 1 1)).new (.box 48 1 (us (nbH b (H2) ++ [a])))).set M (.map false [.u32] (mset (entM (H2) L) [b] (.ms (s.next + 1) 0 (nbH b (H2) ++ [a]).length)))) hin ⟨by omega, by omega, by simp⟩ (by simp) (by (repeat (first | rw [new_H, if_neg (α := LObj) (by (try simp only [set_next, new_next]); omega)] | rw [set_H, if_neg (α := LObj) (by omega)] | rw [new_H, if_pos (α := LObj) (by (try simp only [set_next, new_next]))] | rw [set_H, if_pos (α := LObj) (by omega)]))) (fun p hp => by
        have := hNb.bx p hp
        have h3 : ¬ p.2 = M := box_ne this.2.2 hMl (by simp)
        (repeat (first | rw [new_H, if_neg (α := LObj) (by (try simp only [set_next, new_next]); omega)] | rw [set_H, if_neg (α := LObj) (by omega)] | rw [new_H, if_pos (α := LObj) (by (try simp only [set_next, new_next]))] | rw [set_H, if_pos (α := LObj) (by omega)]))) (by simp only [set_next, new_next]; omega)
      rw [hnil] at put
      generalize hN : entM (H2) L = EM at *
      (refine w_s [44] [X, M] [(0, true), (1, true), (2, true), (3, true), (4, true), (5, true), (6, true), (7, true), (8, true), (9, true), (10, true), (11, false)] ?_; intro J hJ; simp [f3, f7, hX, hMl, x1, x2, x3, x4, y3, y4, y5, y6, hget]; (repeat refine ca ?_); (refine hJ _ _ ?_; clear hJ J; simp only [ak, reduceIte]))
      refine ⟨by trivial, ⟨by simp [f3], by simp [f17], by simp [f18], by simp [f19], hM1, by simp; omega, ?_, L ++ [(b, s.next + 1)], ?_⟩, by simp [f7], by simp; omega, ?_⟩
      · refine ⟨by have := hkp.next; simp; omega, fun l hl => ?_⟩
        have := hkp.next
        (repeat (first | rw [new_H, if_neg (α := LObj) (by (try simp only [set_next, new_next]); omega)] | rw [set_H, if_neg (α := LObj) (by omega)] | rw [new_H, if_pos (α := LObj) (by (try simp only [set_next, new_next]))] | rw [set_H, if_pos (α := LObj) (by omega)])); exact hkp.H l hl
      · simpa using put
      · (repeat (first | rw [new_H, if_neg (α := LObj) (by (try simp only [set_next, new_next]); omega)] | rw [set_H, if_neg (α := LObj) (by omega)] | rw [new_H, if_pos (α := LObj) (by (try simp only [set_next, new_next]))] | rw [set_H, if_pos (α := LObj) (by omega)])); exact hX
  clear hNb hkp hM1 hM2 f19 f18 f17 f3 f7 hXl hX L
  rintro fr s ⟨⟨f3, f17, f18, f19, hM1, hM2, hkp, L, hNb⟩, f7, hXl, hX⟩
  simp only [ak]
  (repeat' (refine w_e [] ?_; intro J hJ; simp only []; simp [f19, hw]; (refine hJ _ _ ?_; clear hJ J; simp only [ak, reduceIte])))
  exact hJJ ((sE g.es).length - (k + 1)) _ _ (by omega) ⟨k + 1, by omega, rfl, by simp [f3], by simp [f17], by simp [f18], by simp, hM1, hM2, hkp, L, by rw [hH2]; exact hNb⟩

/-- A row's numbers, or none. -/
def nbLV (es : List Ed) (v : Int) : Option LV := if nearF es v = [] then none else some (.sl 0 (nearF es v).length (us (nearF es v)))
theorem rowsV_get {es : List Ed} (v : Int) : ∀ {K : List Int}, mget (K.map fun v => (([v], .sl 0 (nearF es v).length (us (nearF es v))) : List Int × LV)) [v] = if v ∈ K then some (.sl 0 (nearF es v).length (us (nearF es v))) else none
  | [] => rfl
  | k :: K => by
    simp only [List.map_cons, mget]
    by_cases h : v = k
    · subst h; simp
    · have h' : ¬ ([v] == [k]) = true := by simpa using h
      rw [if_neg h', rowsV_get v (K := K)]
      simp [h]
/-- nearby: a map of the near ones of each vertex that has some. -/
theorem nearby (g : Gr) (st : St) (hv : g.vs.length ≤ 1048576) (he : g.es.length ≤ 1000) (hp : 0 < st.next) :
    ACalls Tryz.prog 143 [.ag (grL g)] st fun r st' => ∃ m es, r = .mp m ∧ st.next ≤ m ∧ m < st'.next ∧ Keeps st st' ∧ st'.H m = .map false [.u32] es ∧ ∀ v, mget es [v] = nbLV g.es v := by
  refine (acalls_mapRows (R := fun L => ∃ K : List Int, K.Nodup ∧ (∀ v, nbH v (hfs (sE g.es)) ≠ [] ↔ v ∈ K) ∧ L.map (fun p => (p.1, p.2.2)) = K.map fun v => ([v], us (nearF g.es v))) (nearbyM g st hv he hp)).mono ?_
  rintro r st' ⟨m, L, rfl, h1, h2, h3, h4, K, hK, hall, hL⟩
  refine ⟨m, _, rfl, h1, h2, h3, h4, fun v => ?_⟩
  have e : rowsV L = K.map fun v => ([v], .sl 0 (nearF g.es v).length (us (nearF g.es v))) := by
    have e1 : rowsV L = (L.map fun p => (p.1, p.2.2)).map fun p => (p.1, LV.sl 0 p.2.length p.2) := by rw [List.map_map]; rfl
    rw [e1, hL, List.map_map]
    refine List.map_congr_left fun v _ => ?_
    simp
  rw [e, rowsV_get]
  unfold nbLV
  have hn : nearF g.es v = [] ↔ nbH v (hfs (sE g.es)) = [] := by
    have := (srt_perm (nbH v (hfs (sE g.es)))).length_eq
    unfold nearF
    constructor
    · intro h; rw [h] at this; exact List.eq_nil_of_length_eq_zero this.symm
    · intro h; rw [h]; rfl
  by_cases hv : v ∈ K
  · rw [if_pos hv, if_neg (fun h => (hall v).2 hv (hn.1 h))]
  · rw [if_neg hv]
    split
    · rfl
    · rename_i h
      exact absurd ((hall v).1 fun h2 => h (hn.2 h2)) hv

end Go.Proofs.YtlnefdmdabhobaaGreat.Aw

namespace Go.Proofs.YtlnefdmdabhobaaGreat.Aw
open Go Go.RowKit Go.Proofs.YtlnefdmdabhobaaGreat.Pl
set_option linter.unusedSimpArgs false
set_option linter.unusedVariables false

def clL (A : Led) : List (List Int × LV) := A.map fun p => ([p.1], i p.2)
def colF (A : Led) (v : Int) : Int := (ledBy A v).getD 0
theorem free_ex (col : Int → Int) (l : List Int) : ∃ n, IsFree col l n := by
  by_cases h : ∃ n : Nat, 1 ≤ n ∧ ∀ u ∈ l, col u ≠ n
  · obtain ⟨n, hn⟩ := h
    obtain ⟨m, h1, h2⟩ := least_nat (fun n => 1 ≤ n ∧ ∀ u ∈ l, col u ≠ (n : Nat)) n hn
    refine ⟨m, h1.1, h1.2, fun k hk1 hk2 => Classical.byContradiction fun hno => ?_⟩
    have := h2 k ⟨hk1, fun u hu e => hno ⟨u, hu, e⟩⟩
    omega
  · exfalso
    have := taken_le (col := col) (l := l) (k := l.length + 1) fun m h1 _ => Classical.byContradiction fun hno => h ⟨m, h1, fun u hu e => hno ⟨u, hu, e⟩⟩
    omega
noncomputable def fN (col : Int → Int) (l : List Int) : Nat := Classical.choose (free_ex col l)
open Classical in
noncomputable def giveS (near : Int → List Int) (vs : List Int) (A : Led) (v : Int) : Led := if v ∈ A.map (·.1) ∨ v ∉ vs then A else A ++ [(v, (fN (colF A) (near v) : Int))]
noncomputable def giveA (near : Int → List Int) (vs : List Int) (A : Led) (l : List Int) : Led := l.foldl (giveS near vs) A
/-- A map of colors, new or the caller's. -/
def ColM (st : St) (A : Led) (r : LV) (st' : St) : Prop := ∃ M, r = .mp M ∧ st.next ≤ M ∧ M < st'.next ∧ st'.H M = .map false [.u32] (clL A) ∧ Keeps st st'

end Go.Proofs.YtlnefdmdabhobaaGreat.Aw

namespace Go.Proofs.YtlnefdmdabhobaaGreat.Aw
open Go Go.RowKit Go.Proofs.YtlnefdmdabhobaaGreat.Pl
set_option linter.unusedSimpArgs false
set_option linter.unusedVariables false

def ledL (A : Led) : List (List Int × LV) := A.map fun p => ([p.1], u p.2)
theorem mget_led (A : Led) (v : Int) : mget (ledL A) [v] = (ledBy A v).map u := by
  induction A with
  | nil => rfl
  | cons p A ih =>
    simp only [ledL, List.map_cons, mget, ledBy] at ih ⊢
    by_cases h : v = p.1
    · subst h; simp
    · rw [if_neg (by simpa using h), if_neg h]; exact ih
theorem mset_led {A : Led} {v w : Int} (h : v ∉ A.map (·.1)) : mset (ledL A) [v] (u w) = ledL (A ++ [(v, w)]) := by
  induction A with
  | nil => rfl
  | cons p A ih =>
    simp only [List.map_cons, List.mem_cons, not_or] at h
    have ih := ih h.2
    simp only [ledL, List.map_cons, List.cons_append, mset] at ih ⊢
    rw [if_neg (by simpa using h.1), ih]

theorem back (A : Led) (ma : Nat) (from' to : Int) (n : Nat) (l : List Int) (st : St) (hn : n ≤ 100000) (hl : backF A from' n to = some l) (hm : ma < st.next) (hH : st.H ma = .map false [.u32] (ledL A)) :
    ACalls Tryz.prog 144 [.mp ma, u from', u to] st fun r st' => r = .sl 0 (to :: l).reverse.length (us (to :: l).reverse) ∧ Keeps st st' := by
  have hll := backF_len hl
  refine acalls_freeze ?_
  refine acalls_of_body tabOk Tryz.func144 rfl rfl Tryz.ntmps144 (rs := [.tmp 6]) rfl (by simp) ?_
  (repeat' (first | refine awp_seq ?_ | refine awp_block ?_ | (refine w_e [10] ?_; intro J hJ; simp only []; simp []; (refine hJ _ _ ?_; clear hJ J; simp only [ak, reduceIte]))))
  refine awp_loop (fun k fr s => ∃ (v : Int) (W R : List Int), backF A from' k v = some R ∧ to :: l = W ++ R ∧ k ≤ n ∧ W.length + k ≤ n + 1 ∧ fr 0 = .mp ma ∧ fr 1 = u from' ∧ fr 8 = u v ∧ ∃ q, fr 7 = .ms q 0 W.length ∧ s.H q = .box 48 1 (us W) ∧ st.next ≤ q ∧ q < s.next ∧ Keeps st s) n ?_ ?_
  · exact ⟨to, [to], l, hl, rfl, by omega, by simp; omega, by simp, by simp, by simp, st.next, by simp, by simp, Nat.le_refl _, by simp, Keeps.new _ _⟩
  rintro k fr s ⟨v, W, R, hb, hW, hk, hWk, f0, f1, f8, q, f7, hq, hq0, hql, hkp⟩ JJ hJJ
  have hHs : s.H ma = .map false [.u32] (ledL A) := by rw [hkp.H ma hm]; exact hH
  have hg := mget_led A v
  by_cases hv : v = from'
  · clear hJJ
    have hR : R = [] := by
      cases k <;> (simp only [backF, if_pos hv, Option.some.injEq] at hb; exact hb.symm)
    subst hR
    rw [List.append_nil] at hW
    have hv2 : (v != from') = false := by simpa using hv
    (repeat' (first | refine awp_seq ?_ | (refine awp_exit ?_; simp only [ak, reduceIte]) | (refine awp_cond ?_; simp [f1, f8, hv, hv2, f7]) | (refine w_e [] ?_; intro J hJ; simp only []; simp [f1, f8, hv, hv2, f7]; (try (refine hJ _ _ ?_; clear hJ J; simp only [ak, reduceIte])))))
    refine callK_ofE (Reverse W q s (by unfold small; omega) hq) (by simp []) ?_; rintro r st' rfl
    (repeat' (first | refine awp_seq ?_ | (refine awp_ret ?_; simp only [ak, reduceIte]; simp [f7]) | ((first | (refine w_e [] ?_; intro J hJ; simp only []) | (refine e_go ?_)); simp [f7]; (refine hJ _ _ ?_; clear hJ J; simp only [ak, reduceIte]))))
    exact ⟨q, W.length, ⟨rfl, rfl⟩, 48, 1, us W.reverse, by simp, by simp, by subst hW; simp, (hkp.set hq0 _).set hq0 _⟩
  · cases k with
    | zero => simp only [backF, if_neg hv] at hb; cases hb
    | succ k =>
      simp only [backF, if_neg hv, Option.map_eq_some_iff] at hb
      obtain ⟨R', hb, rfl⟩ := hb
      have hv2 : (v != from') = true := by simpa using hv
      have hg2 : ((mget (ledL A) [v]).getD (u 0)) = u ((ledBy A v).getD 0) := by rw [hg]; cases ledBy A v <;> rfl
      generalize (ledBy A v).getD 0 = x at *
      have q1 : ¬ q = s.next := by omega
      have htk : List.take W.length (us W) = us W := List.take_of_length_le (by simp)
      (repeat' (first | refine awp_seq ?_ | refine awp_block ?_ | (refine awp_skip ?_; simp only [ak, reduceIte]) | (refine awp_cond ?_; simp [f0, f1, f8, hv, hv2, f7, hHs, hg2, q1, hq, htk]) | (refine w_e [] ?_; intro J hJ; simp only []; simp [f0, f1, f8, hv, hv2, f7, hHs, hg2, q1, hq, htk]; (repeat refine ca ?_); (refine hJ _ _ ?_; clear hJ J; simp only [ak, reduceIte]))))
      refine hJJ k _ _ (by omega) ⟨x, W ++ [x], R', hb, by rw [hW]; simp, by omega, by simp; omega, by simp [f0], by simp [f1], by simp, s.next + 1, by simp, by simp, by have := hkp.next; omega, by simp, ?_⟩
      exact (((hkp.trans (Keeps.new _ _)).set hq0 _).trans (Keeps.new _ _))

end Go.Proofs.YtlnefdmdabhobaaGreat.Aw

namespace Go.Proofs.YtlnefdmdabhobaaGreat.Aw
open Go Go.RowKit Go.Proofs.YtlnefdmdabhobaaGreat.Pl
set_option linter.unusedSimpArgs false
set_option linter.unusedVariables false

/-- What a function argument answers of a vertex. -/
def MayOk (th : LV) (may : Int → Bool) (st : St) : Prop :=
  (th = .atom .nilFunc ∧ ∀ v, may v = true) ∨ ∃ f caps, th = .fn (.func f) caps ∧ caps.map norm = caps ∧ ∀ v s, Keeps st s → ACalls Tryz.prog f (u v :: caps) s fun r s' => r = bb (may v) ∧ Keeps s s'

structure PaB (st0 : St) (A : Led) (Q : List Int) (Ma Mn tq o : Nat) (es : List (List Int × LV)) (s : St) : Prop where
  ha : s.H Ma = .map false [.u32] (ledL A)
  hn : s.H Mn = .map false [.u32] es
  hq : s.H tq = .que 48 (o + Q.length)
  b : st0.next ≤ Ma ∧ st0.next ≤ Mn ∧ st0.next ≤ tq ∧ Ma < s.next ∧ Mn < s.next ∧ tq < s.next ∧ tq ≠ 0 ∧ ¬ Mn = Ma
  kp : Keeps st0 s

set_option maxHeartbeats 4000000 in
theorem Path (g : Gr) (from' to : Int) (th : LV) (may : Int → Bool) (n : Nat) (l : List Int) (st : St) (hv : g.vs.length ≤ 1048576) (he : g.es.length ≤ 1000) (hn : n ≤ 1000) (hm : MayOk th may st) (hl : pathF g.vs (nearF g.es) may from' to n = some l) :
    ACalls Tryz.prog 83 [.ag (grL g), u from', u to, th] st fun r st' => r = .sl 0 l.length (us l) ∧ Keeps st st' := by
  have hth : norm th = th := by rcases hm with ⟨rfl, _⟩ | ⟨f, c, rfl, _, _⟩ <;> rfl
  refine acalls_z0 ?_
  refine acalls_of_body tabOk Tryz.func83 rfl rfl Tryz.ntmps83 (rs := [.tmp 8]) rfl (by simp) ?_
  refine awp_posG fun hpos => ?_
  (repeat' (first | refine awp_seq ?_ | (refine w_e [] ?_; intro J hJ; simp only []; simp []; (try (refine hJ _ _ ?_; clear hJ J; simp only [ak, reduceIte])))))
  refine callK_ofE (Vert g from' _ hv) (by simp) ?_; rintro r s1 ⟨rfl, hk1⟩
  have hn1 := hk1.next
  simp only [new_next] at hn1
  have hG1 : s1.H st.next = .box 25 2 (grL g) := by rw [hk1.H _ (by simp)]; simp
  have hkp1 : Keeps st s1 := (Keeps.new _ _).trans hk1
  clear hk1
  unfold pathF at hl
  by_cases hf : from' ∈ g.vs
  rotate_left
  · have h0 : gi g.vs from' < 0 := (gi_neg _ _).2 hf
    rw [if_pos (.inl hf)] at hl
    injection hl with hl
    subst hl
    (refine e_go ?_; simp [h0]; (refine hJ _ _ ?_; clear hJ J; simp only [ak, reduceIte]))
    (repeat' (first | refine awp_seq ?_ | (refine awp_ret ?_; simp only [ak, reduceIte]; simp []) | (refine awp_cond ?_; simp []) | (refine w_e [] ?_; intro J hJ; simp only []; simp []; (refine hJ _ _ ?_; clear hJ J; simp only [ak, reduceIte]))))
    exact ⟨rfl, hkp1⟩
  have h0 : ¬ gi g.vs from' < 0 := fun h => (gi_neg _ _).1 h hf
  (refine e_go ?_; simp [h0, hG1])
  refine callK_ofE (Vert g to _ hv) (by simp) ?_; rintro r s2 ⟨rfl, hk2⟩
  have hn2 := hk2.next
  have hG2 := (hk2.H st.next (by omega)).trans hG1
  have hkp2 := hkp1.trans hk2
  clear hk2 hkp1 hG1 h0
  by_cases ht : to ∈ g.vs
  rotate_left
  · have h0 : gi g.vs to < 0 := (gi_neg _ _).2 ht
    rw [if_pos (.inr ht)] at hl
    injection hl with hl
    subst hl
    (refine e_go ?_; simp [h0]; (refine hJ _ _ ?_; clear hJ J; simp only [ak, reduceIte]))
    (repeat' (first | refine awp_seq ?_ | (refine awp_ret ?_; simp only [ak, reduceIte]; simp []) | (refine awp_cond ?_; simp []) | (refine w_e [] ?_; intro J hJ; simp only []; simp []; (refine hJ _ _ ?_; clear hJ J; simp only [ak, reduceIte]))))
    exact ⟨rfl, hkp2⟩
  have h0 : ¬ gi g.vs to < 0 := fun h => (gi_neg _ _).1 h ht
  rw [if_neg (by simp [hf, ht])] at hl
  (refine e_go ?_; simp [h0]; (refine hJ _ _ ?_; clear hJ J; simp only [ak, reduceIte]))
  by_cases hft : from' = to
  · rw [if_pos hft] at hl
    injection hl with hl
    subst hl
    (repeat' (first | refine awp_seq ?_ | (refine awp_skip ?_; simp only [ak, reduceIte]) | (refine awp_ret ?_; simp only [ak, reduceIte]; simp [hft]) | (refine awp_cond ?_; simp [hft]) | (refine w_e [] ?_; intro J hJ; simp only []; simp [hft]; (refine hJ _ _ ?_; clear hJ J; simp only [ak, reduceIte]))))
    refine ⟨by simp [z0, z0L, hft], hkp2.trans (Keeps.new _ _)⟩
  rw [if_neg hft] at hl
  (repeat' (first | refine awp_seq ?_ | (refine awp_skip ?_; simp only [ak, reduceIte]) | (refine awp_cond ?_; simp [hft, hG2]) | (refine w_e [] ?_; intro J hJ; simp only []; simp [hft, hG2]; (try (refine hJ _ _ ?_; clear hJ J; simp only [ak, reduceIte])))))
  refine callK_ofE (nearby g _ hv he (by omega)) (by simp) ?_; rintro r s3 ⟨Mn, es, rfl, m1, m2, hk3, hMn, hes⟩
  have hn3 := hk3.next
  have hkp3 := hkp2.trans hk3
  obtain ⟨R0, hbfs, hR0⟩ : ∃ R0, bfs (nearF g.es) may to n [(from', from')] [from'] = some R0 ∧ ((R0 = none ∧ l = []) ∨ ∃ A l', R0 = some A ∧ backF A from' n to = some l' ∧ l = (to :: l').reverse) := by
    cases hb : bfs (nearF g.es) may to n [(from', from')] [from'] with
    | none => rw [hb] at hl; cases hl
    | some R0 =>
      rw [hb] at hl
      cases R0 with
      | none => injection hl with hl; exact ⟨_, rfl, .inl ⟨rfl, hl.symm⟩⟩
      | some A =>
        simp only [Option.map_eq_some_iff] at hl
        obtain ⟨l', h1, h2⟩ := hl
        exact ⟨_, rfl, .inr ⟨A, l', rfl, h1, h2.symm⟩⟩
  clear hl
  (repeat' (first | refine awp_seq ?_ | refine awp_block ?_ | ((first | (refine w_e [] ?_; intro J hJ; simp only []) | (refine e_go ?_)); simp []; (refine hJ _ _ ?_; clear hJ J; simp only [ak, reduceIte]))))
  refine awp_qu 11 (t := s3.next + 1) (n := 1) (e := 48) (cs := [u from']) (by simp) (by simp) (by omega) (by omega) ?_
  have hc0 : ¬ Mn = s3.next := by omega
  have hc1 : ¬ Mn = s3.next + 1 := by omega
  refine awp_loop (fun k fr s => ∃ (A : Led) (Q : List Int) (tq o : Nat), bfs (nearF g.es) may to k A Q = some R0 ∧ k ≤ n ∧ Q.length + 2000 * k ≤ 2000 * n + 1 ∧ fr 1 = u from' ∧ fr 2 = u to ∧ fr 3 = th ∧ fr 9 = .mp Mn ∧ fr 10 = .mp s3.next ∧ fr 11 = .qu tq o Q.length (us Q) ∧ PaB st A Q s3.next Mn tq o es s) n ?_ ?_
  · refine ⟨_, _, s3.next + 1, 0, hbfs, Nat.le_refl _, by simp; omega, by simp, by simp, by simp, by simp, by simp, by simp, ?_⟩
    refine ⟨by simp [ledL, mset], by simp [hc0, hc1, hMn], by simp, ⟨by omega, by omega, by omega, by simp; omega, by simp; omega, by simp, by omega, hc0⟩, ?_⟩
    exact (((hkp3.trans (Keeps.new _ _)).trans (Keeps.new _ _)).set (q := s3.next + 1) (by omega) _)
  generalize s3.next = Ma at *
  clear hk3 hn3 hkp3 hMn m1 m2 hG2 hkp2 hn2 hn1 hc0 hc1 hbfs
  rintro k fr s ⟨A, Q, tq, o, hb, hk, hQ, f1, f2, f3, f9, f10, f11, hPa, hPn, hPq, ⟨b1, b2, b3, b4, b5, b6, b7, b8⟩, hkp⟩ JJ hJJ
  cases Q with
  | nil =>
    clear hJJ
    have h1 : R0 = none := by cases k <;> (simp only [bfs, Option.some.injEq] at hb; exact hb.symm)
    subst h1
    rcases hR0 with ⟨_, rfl⟩ | ⟨_, _, h, _⟩
    · (repeat' (first | refine awp_seq ?_ | (refine awp_exit ?_; simp only [ak, reduceIte]) | (refine awp_ret ?_; simp only [ak, reduceIte]; simp [f11]) | (refine awp_cond ?_; simp [f11]) | (refine w_e [] ?_; intro J hJ; simp only []; simp [f11]; (refine hJ _ _ ?_; clear hJ J; simp only [ak, reduceIte]))))
      exact ⟨rfl, hkp⟩
    · cases h
  | cons v Q =>
  cases k with
  | zero => simp [bfs] at hb
  | succ k =>
  have hQl : (Q.length : Int) + 1 > 0 := by omega
  have hrow := hes v
  have hrl := nearF_len g.es v
  simp only [bfs] at hb
  generalize hrw : nearF g.es v = row at *
  have hslc : List.take (Q.length + 1 - 1) (us Q) = us Q := List.take_of_length_le (by simp)
  have hbn : ¬ (Q.length : Int) + 1 ≤ 0 := by omega
  (repeat (first | refine awp_seq ?_ | refine awp_block ?_))
  (refine w_e [] ?_; intro J hJ; simp only []; simp [f11, hQl]; (refine hJ _ _ ?_; clear hJ J; simp only [ak, reduceIte]))
  (repeat (first | refine awp_seq ?_ | refine awp_block ?_))
  (refine awp_cond ?_; simp [])
  refine awp_skip ?_; simp only [ak]
  (repeat (first | refine awp_seq ?_ | refine awp_block ?_))
  (refine w_e [] ?_; intro J hJ; simp only []; simp [f11, hQl]; (refine hJ _ _ ?_; clear hJ J; simp only [ak, reduceIte]))
  (repeat (first | refine awp_seq ?_ | refine awp_block ?_))
  (refine w_e [] ?_; intro J hJ; simp only []; simp [f11, hQl, hslc]; (repeat refine ca ?_); (refine hJ _ _ ?_; clear hJ J; simp only [ak, reduceIte]))
  refine awp_seq ?_
  refine awp_cut1 (fun f s' => s' = s ∧ f 1 = u from' ∧ f 2 = u to ∧ f 3 = th ∧ f 9 = .mp Mn ∧ f 10 = .mp Ma ∧ f 11 = .qu tq (o + 1) Q.length (us Q) ∧ f 12 = u v ∧ (f 50 = .nil ∧ row = [] ∨ f 50 = .sl 0 row.length (us row)) ∧ f 51 = i row.length ∧ f 52 = i (0 : Nat)) ?_ ?_
  · clear hJJ
    unfold nbLV at hrow
    rw [hrw] at hrow
    by_cases hr0 : row = []
    · rw [if_pos hr0] at hrow
      (repeat' (refine w_e [] ?_; intro J hJ; simp only []; simp [f9, hPn, hrow]; (refine hJ _ _ ?_; clear hJ J; simp only [ak, reduceIte])))
      simp [f1, f2, f3, f9, f10, hr0]
    · rw [if_neg hr0] at hrow
      (repeat' (refine w_e [] ?_; intro J hJ; simp only []; simp [f9, hPn, hrow]; (refine hJ _ _ ?_; clear hJ J; simp only [ak, reduceIte])))
      simp [f1, f2, f3, f9, f10]
  clear f1 f2 f3 f9 f10 f11 fr hrow
  rintro fr s' ⟨rfl, f1, f2, f3, f9, f10, f11, f12, f50, f51, f52⟩
  refine awp_block ?_
  refine awp_range 52 51 53 84 row.length (fun j fr st2 => fr 1 = u from' ∧ fr 2 = u to ∧ fr 3 = th ∧ fr 9 = .mp Mn ∧ fr 10 = .mp Ma ∧ fr 12 = u v ∧ (fr 50 = .nil ∧ row = [] ∨ fr 50 = .sl 0 row.length (us row)) ∧ (scanL may to v ⟨A, Q, false⟩ (row.take j)).hit = false ∧ ∃ tq o, fr 11 = .qu tq o (scanL may to v ⟨A, Q, false⟩ (row.take j)).Q.length (us (scanL may to v ⟨A, Q, false⟩ (row.take j)).Q) ∧ PaB st (scanL may to v ⟨A, Q, false⟩ (row.take j)).A (scanL may to v ⟨A, Q, false⟩ (row.take j)).Q Ma Mn tq o es st2) ?_ ?_ ?_ (hti := f52) (htn := f51)
  · refine ⟨f1, f2, f3, f9, f10, f12, f50, rfl, tq, o + 1, f11, ⟨hPa, hPn, ?_, ⟨b1, b2, b3, b4, b5, b6, b7, b8⟩, hkp⟩⟩
    rw [hPq]
    simp only [List.take_zero, scanL, List.foldl_nil, List.length_cons]
    congr 1
    omega
  · clear f1 f2 f3 f9 f10 f11 f12 f50 f51 f52 hPa hPn hPq b1 b2 b3 b4 b5 b6 b7 b8 hkp fr hJJ
    rintro j fr s hlt ⟨f1, f2, f3, f9, f10, f12, f50, hh, tq, o, f11, hPa, hPn, hPq, ⟨b1, b2, b3, b4, b5, b6, b7, b8⟩, hkp⟩ fi fn J hJ
    have f50 : fr 50 = .sl 0 row.length (us row) := by
      rcases f50 with ⟨_, h⟩ | h
      · rw [h] at hlt; simp at hlt
      · exact h
    have hd := us_drop_getD row j hlt
    have htk : row.take (j + 1) = row.take j ++ [row.getD j 0] := by
      rw [List.getD_eq_getElem?_getD, List.getElem?_eq_getElem hlt]; exact List.take_succ_eq_append_getElem hlt
    have hsc := scanL_snoc may to v ⟨A, Q, false⟩ (row.take j) (row.getD j 0)
    rw [← htk] at hsc
    have hsl := scanL_len may to v ⟨A, Q, false⟩ (row.take j)
    simp only [List.length_take] at hsl
    have hfull : (scanL may to v ⟨A, Q, false⟩ (row.take (j + 1))).hit = true → scanL may to v ⟨A, Q, false⟩ row = scanL may to v ⟨A, Q, false⟩ (row.take (j + 1)) := by
      intro h
      have : row = row.take (j + 1) ++ row.drop (j + 1) := (List.take_append_drop _ _).symm
      rw [this, scanL, List.foldl_append]
      have h2 := scanL_hit may to v h (row.drop (j + 1))
      simp only [scanL] at h2 ⊢
      rw [h2]
      simp
    generalize row.getD j 0 = x at *
    generalize hS : scanL may to v ⟨A, Q, false⟩ (row.take j) = S at *
    obtain ⟨SA, SQ, Sh⟩ := S
    simp only at hh f11 hPa hPq hsl
    subst hh
    have hmg := mget_led SA x
    have hqa : ¬ tq = Ma := box_ne hPq hPa (by simp)
    have hqn : ¬ tq = Mn := box_ne hPq hPn (by simp)
    have hqa' : ¬ Ma = tq := fun h => hqa h.symm
    have hqn' : ¬ Mn = tq := fun h => hqn h.symm
    by_cases hin : x ∈ SA.map (·.1)
    · obtain ⟨y, hy⟩ := ledBy_some hin
      rw [hy] at hmg
      simp only [Option.map_some] at hmg
      have h1 : scan1 may to v ⟨SA, SQ, false⟩ x = ⟨SA, SQ, false⟩ := by simp [scan1, hin]
      rw [h1] at hsc
      (repeat' (first | refine awp_seq ?_ | (refine awp_exit ?_; simp only [ak, reduceIte]) | (refine awp_cond ?_; simp [f10, f50, fi, fn, hd, hlt, hPa, hmg]) | (refine w_e [] ?_; intro J hJ; simp only []; simp [f10, f50, fi, fn, hd, hlt, hPa, hmg]; (refine hJ _ _ ?_; clear hJ J; simp only [ak, reduceIte]))))
      refine hJ _ _ (by simp [fi]) (by simp [fn]) ⟨by simp [f1], by simp [f2], by simp [f3], by simp [f9], by simp [f10], by simp [f12], .inr (by simp [f50]), by rw [hsc], tq, o, by rw [hsc]; simp [f11], by rw [hsc]; exact ⟨hPa, hPn, hPq, ⟨b1, b2, b3, b4, b5, b6, b7, b8⟩, hkp⟩⟩
    rw [ledBy_none hin] at hmg
    simp only [Option.map_none] at hmg
    have hms : mset (ledL SA) [x] (u v) = ledL (SA ++ [(x, v)]) := mset_led hin
    by_cases hxt : x = to
    · clear hJ
      subst hxt
      have h1 : scan1 may x v ⟨SA, SQ, false⟩ x = ⟨SA ++ [(x, v)], SQ, true⟩ := by unfold scan1; rw [if_neg (by simp), if_neg hin, if_pos rfl]
      rw [h1] at hsc
      have hf2 := hfull (by rw [hsc])
      rw [hf2, hsc] at hb
      simp only [if_true, Option.some.injEq] at hb
      subst hb
      rcases hR0 with ⟨h, _⟩ | ⟨A2, l', h, hbk, rfl⟩
      · cases h
      injection h with h
      subst h
      (repeat' (first | refine awp_seq ?_ | (refine awp_skip ?_; simp only [ak, reduceIte]) | (refine awp_cond ?_; simp [f1, f2, f10, f12, f50, fi, fn, hd, hlt, hPa, hmg, hms]) | (refine w_e [] ?_; intro J hJ; simp only []; simp [f1, f2, f10, f12, f50, fi, fn, hd, hlt, hPa, hmg, hms]; (try (refine hJ _ _ ?_; clear hJ J; simp only [ak, reduceIte])))))
      refine callK_ofE (back (SA ++ [(x, v)]) Ma from' x n l' _ (by omega) hbk (by simp; exact b4) (by simp)) (by simp) ?_; rintro r s4 ⟨rfl, hk4⟩
      (repeat' (first | (refine awp_ret ?_; simp only [ak, reduceIte]; simp []) | (refine e_go ?_; simp []; (refine hJ _ _ ?_; clear hJ J; simp only [ak, reduceIte]))))
      refine ⟨by simp only [z0]; congr 1; have := z0_us (x :: l').reverse; simpa using this, ?_⟩
      exact (hkp.set b1 _).trans hk4
    have h1 : scan1 may to v ⟨SA, SQ, false⟩ x = ⟨SA ++ [(x, v)], if may x = true then SQ ++ [x] else SQ, false⟩ := by unfold scan1; rw [if_neg (by simp), if_neg hin, if_neg hxt]
    rw [h1] at hsc
    have tn0 : ¬ tq = s.next := by omega
    have hQ2 : SQ.length ≤ 3000000 := by simp only [List.length_cons] at hQ; omega
    have hT2 : ∀ m s', s'.H Ma = .map false [.u32] (ledL (SA ++ [(x, v)])) → s'.H Mn = .map false [.u32] es → s'.H m = .que 48 (0 + (SQ ++ [x]).length) → st.next ≤ m → m < s'.next → s.next ≤ s'.next → Keeps st s' → PaB st (SA ++ [(x, v)]) (SQ ++ [x]) Ma Mn m 0 es s' := fun m s' h1 h2 h3 h4 h5 h6 h7 => ⟨h1, h2, h3, ⟨b1, b2, h4, by omega, by omega, h5, by omega, b8⟩, h7⟩
    have hT1 : ∀ s', s'.H Ma = .map false [.u32] (ledL (SA ++ [(x, v)])) → s'.H Mn = .map false [.u32] es → s'.H tq = .que 48 (o + SQ.length) → s.next ≤ s'.next → Keeps st s' → PaB st (SA ++ [(x, v)]) SQ Ma Mn tq o es s' := fun s' h1 h2 h3 h6 h7 => ⟨h1, h2, h3, ⟨b1, b2, b3, by omega, by omega, by omega, b7, b8⟩, h7⟩
    rcases hm with ⟨rfl, hm⟩ | ⟨f, caps, rfl, hcaps, hm⟩
    · rw [if_pos (hm x)] at hsc
      (repeat' (first | refine awp_seq ?_ | (refine awp_skip ?_; simp only [ak, reduceIte]) | (refine awp_cond ?_; simp [f1, f2, f3, f10, f11, f12, f50, fi, fn, hd, hlt, hPa, hmg, hms, hxt, hPq, hqa, hqn, hqa', hqn', tn0]) | (refine w_e [] ?_; intro J hJ; simp only []; simp [f1, f2, f3, f10, f11, f12, f50, fi, fn, hd, hlt, hPa, hmg, hms, hxt, hPq, hqa, hqn, hqa', hqn', tn0]; (repeat refine ca ?_); (refine hJ _ _ ?_; clear hJ J; simp only [ak, reduceIte]))))
      refine hJ _ _ (by simp [fi]) (by simp [fn]) ⟨by simp [f1], by simp [f2], by simp [f3], by simp [f9], by simp [f10], by simp [f12], .inr (by simp [f50]), by rw [hsc], s.next + 1, 0, by rw [hsc]; simp, ?_⟩
      rw [hsc]
      refine hT2 _ _ (by (repeat (first | rw [new_H, if_neg (α := LObj) (by (try simp only [set_next, new_next]); omega)] | rw [set_H, if_neg (α := LObj) (by omega)] | rw [new_H, if_pos (α := LObj) (by (try simp only [set_next, new_next]))] | rw [set_H, if_pos (α := LObj) (by omega)]))) (by (repeat (first | rw [new_H, if_neg (α := LObj) (by (try simp only [set_next, new_next]); omega)] | rw [set_H, if_neg (α := LObj) (by omega)] | rw [new_H, if_pos (α := LObj) (by (try simp only [set_next, new_next]))] | rw [set_H, if_pos (α := LObj) (by omega)])); exact hPn) (by (repeat (first | rw [new_H, if_neg (α := LObj) (by (try simp only [set_next, new_next]); omega)] | rw [set_H, if_neg (α := LObj) (by omega)] | rw [new_H, if_pos (α := LObj) (by (try simp only [set_next, new_next]))] | rw [set_H, if_pos (α := LObj) (by omega)])); simp) (by omega) (by simp) (by simp; omega) ?_
      exact ((((hkp.set b1 _).trans (Keeps.new _ _)).set b3 _).trans (Keeps.new _ _))
    · (repeat' (first | refine awp_seq ?_ | (refine awp_skip ?_; simp only [ak, reduceIte]) | (refine awp_cond ?_; simp [f1, f2, f3, f10, f11, f12, f50, fi, fn, hd, hlt, hPa, hmg, hms, hxt]) | (refine w_e [] ?_; intro J hJ; simp only []; simp [f1, f2, f3, f10, f11, f12, f50, fi, fn, hd, hlt, hPa, hmg, hms, hxt]; (try (refine hJ _ _ ?_; clear hJ J; simp only [ak, reduceIte])))))
      have hkz : Keeps st (s.set Ma (.map false [.u32] (ledL (SA ++ [(x, v)])))) := hkp.set b1 _
      refine callK_ofE (hm x _ hkz) (by simp [hcaps]) ?_; rintro r s4 ⟨rfl, hk4⟩
      have hn4 := hk4.next
      simp only [set_next] at hn4
      have hPa4 : s4.H Ma = .map false [.u32] (ledL (SA ++ [(x, v)])) := by rw [hk4.H Ma (by simp; exact b4)]; simp
      have hPn4 : s4.H Mn = .map false [.u32] es := by rw [hk4.H Mn (by simp; exact b5)]; simp [b8, hPn]
      have hPq4 : s4.H tq = .que 48 (o + SQ.length) := by rw [hk4.H tq (by simp; exact b6)]; simp [hqa, hPq]
      have tn4 : ¬ tq = s4.next := by omega
      cases hmy : may x
      · rw [hmy, if_neg (by simp)] at hsc
        (repeat' (first | (refine awp_skip ?_; simp only [ak, reduceIte]) | (refine awp_cond ?_; simp [f11]) | (refine e_go ?_; simp [f11]; (refine hJ _ _ ?_; clear hJ J; simp only [ak, reduceIte]))))
        refine hJ _ _ (by simp [fi]) (by simp [fn]) ⟨by simp [f1], by simp [f2], by simp [f3], by simp [f9], by simp [f10], by simp [f12], .inr (by simp [f50]), by rw [hsc], tq, o, by rw [hsc]; simp [f11], ?_⟩
        rw [hsc]
        exact hT1 _ hPa4 hPn4 hPq4 hn4 (hkz.trans hk4)
      · rw [hmy, if_pos rfl] at hsc
        (repeat' (first | (refine awp_cond ?_; simp [f11, hPq4, tn4]) | ((first | (refine w_e [] ?_; intro J hJ; simp only []) | (refine e_go ?_)); simp [f11, hPq4, tn4]; (repeat refine ca ?_); (refine hJ _ _ ?_; clear hJ J; simp only [ak, reduceIte]))))
        refine hJ _ _ (by simp [fi]) (by simp [fn]) ⟨by simp [f1], by simp [f2], by simp [f3], by simp [f9], by simp [f10], by simp [f12], .inr (by simp [f50]), by rw [hsc], s4.next + 1, 0, by rw [hsc]; simp, ?_⟩
        rw [hsc]
        refine hT2 _ _ (by (repeat (first | rw [new_H, if_neg (α := LObj) (by (try simp only [set_next, new_next]); omega)] | rw [set_H, if_neg (α := LObj) (by omega)] | rw [new_H, if_pos (α := LObj) (by (try simp only [set_next, new_next]))] | rw [set_H, if_pos (α := LObj) (by omega)])); exact hPa4) (by (repeat (first | rw [new_H, if_neg (α := LObj) (by (try simp only [set_next, new_next]); omega)] | rw [set_H, if_neg (α := LObj) (by omega)] | rw [new_H, if_pos (α := LObj) (by (try simp only [set_next, new_next]))] | rw [set_H, if_pos (α := LObj) (by omega)])); exact hPn4) (by (repeat (first | rw [new_H, if_neg (α := LObj) (by (try simp only [set_next, new_next]); omega)] | rw [set_H, if_neg (α := LObj) (by omega)] | rw [new_H, if_pos (α := LObj) (by (try simp only [set_next, new_next]))] | rw [set_H, if_pos (α := LObj) (by omega)])); simp) (by omega) (by simp) (by simp; omega) ?_
        exact ((((hkz.trans hk4).trans (Keeps.new _ _)).set b3 _).trans (Keeps.new _ _))
  · rintro fr s ⟨f1, f2, f3, f9, f10, f12, f50, hh, tq, o, f11, hB⟩
    rw [List.take_length] at hh f11 hB
    rw [if_neg (by rw [hh]; simp)] at hb
    have hsl := scanL_len may to v ⟨A, Q, false⟩ row
    simp only at hsl
    simp only [ak]
    refine hJJ k _ _ (by omega) ⟨_, _, tq, o, hb, by omega, by simp only [List.length_cons] at hQ; omega, by simp [f1], by simp [f2], by simp [f3], by simp [f9], by simp [f10], by simp [f11], hB⟩

end Go.Proofs.YtlnefdmdabhobaaGreat.Aw
