/- Turns: what doesn't hang on where a turn of unlike darts is told to begin. Plain lists; no program. -/
import Derived.Test.YtphdhggoaijfoaaD12
namespace Go.Proofs.Ytphdhggoaijfoaa.Aw
open Go.Proofs.Ytphdhggoaijfoaa.Pl
set_option linter.unusedSimpArgs false
set_option linter.unusedVariables false

theorem rt_zero (l : List Int) : rt l 0 = l := by simp [rt]
theorem rt_all (l : List Int) : rt l l.length = l := by simp [rt]
theorem rt_nodup {l : List Int} (h : l.Nodup) (k : Nat) : (rt l k).Nodup := by
  unfold rt
  have : (l.take k ++ l.drop k).Nodup := by rw [List.take_append_drop]; exact h
  rw [List.nodup_append] at this ⊢
  exact ⟨this.2.1, this.1, fun a ha b hb => fun e => this.2.2 b hb a ha e.symm⟩

/-- Turned on twice. -/
theorem rt_rt (l : List Int) (a b : Nat) (ha : a ≤ l.length) (hb : b ≤ l.length) : rt (rt l a) b = if a + b ≤ l.length then rt l (a + b) else rt l (a + b - l.length) := by
  unfold rt
  split
  · rename_i h
    rw [List.drop_append_of_le_length (by rw [List.length_drop]; omega), List.take_append_of_le_length (by rw [List.length_drop]; omega), List.drop_drop]
    rw [List.append_assoc]
    congr 1
    rw [Nat.add_comm a b, Nat.add_comm b a, List.take_add]
  · rename_i h
    rw [List.drop_append, List.drop_of_length_le (l := l.drop a) (by rw [List.length_drop]; omega), List.take_append, List.take_of_length_le (l := l.drop a) (by rw [List.length_drop]; omega)]
    rw [List.length_drop, List.nil_append]
    have e1 : b - (l.length - a) = a + b - l.length := by omega
    rw [e1]
    generalize hc : a + b - l.length = c
    have hca : c ≤ a := by omega
    rw [← List.append_assoc]
    congr 1
    · conv => rhs; rw [← List.take_append_drop (a - c) (l.drop c)]
      rw [List.drop_drop, show c + (a - c) = a by omega]
      congr 1
      rw [List.drop_take]
    · rw [List.take_take]; congr 1; omega

/-- One turn, told from two places. -/
def Cyc (a b : List Int) : Prop := ∃ k, k ≤ a.length ∧ b = rt a k
theorem Cyc.refl (a : List Int) : Cyc a a := ⟨0, Nat.zero_le _, (rt_zero a).symm⟩
theorem Cyc.symm {a b : List Int} (h : Cyc a b) : Cyc b a := by
  obtain ⟨k, hk, rfl⟩ := h
  refine ⟨a.length - k, by rw [rt_length]; omega, ?_⟩
  rw [rt_rt a k _ hk (by omega), if_pos (by omega), show k + (a.length - k) = a.length by omega, rt_all]
theorem Cyc.trans {a b c : List Int} (h : Cyc a b) (h' : Cyc b c) : Cyc a c := by
  obtain ⟨k, hk, rfl⟩ := h
  obtain ⟨j, hj, rfl⟩ := h'
  rw [rt_length] at hj
  rw [rt_rt a k j hk hj]
  split
  · exact ⟨k + j, by assumption, rfl⟩
  · exact ⟨k + j - a.length, by omega, rfl⟩
theorem Cyc.length {a b : List Int} (h : Cyc a b) : b.length = a.length := by obtain ⟨k, _, rfl⟩ := h; exact rt_length _ _
theorem Cyc.mem {a b : List Int} (h : Cyc a b) (x : Int) : x ∈ b ↔ x ∈ a := by obtain ⟨k, _, rfl⟩ := h; exact rt_mem _ _ _
theorem Cyc.nodup {a b : List Int} (h : Cyc a b) (hn : a.Nodup) : b.Nodup := by obtain ⟨k, _, rfl⟩ := h; exact rt_nodup hn k
theorem cyc_nrm (a : List Int) : Cyc a (nrm a) := ⟨_, List.idxOf_le_length, rfl⟩

theorem idx_get {l : List Int} (hn : l.Nodup) {j : Nat} (hj : j < l.length) : l.idxOf l[j] = j := hn.idxOf_getElem j hj

theorem idx_rt {l : List Int} (hn : l.Nodup) {k : Nat} (hk : k ≤ l.length) {d : Int} (hd : d ∈ l) : (rt l k).idxOf d = (l.idxOf d + (l.length - k)) % l.length := by
  have hi := List.idxOf_lt_length_of_mem hd
  generalize hj : (l.idxOf d + (l.length - k)) % l.length = j
  have hjl : j < l.length := by rw [← hj]; exact Nat.mod_lt _ (by omega)
  have hg := rt_get l k j hk hjl
  have hx : (k + j) % l.length = l.idxOf d := by
    rw [← hj, Nat.add_mod, Nat.mod_mod, ← Nat.add_mod]
    rw [show k + (l.idxOf d + (l.length - k)) = l.idxOf d + l.length by omega, Nat.add_mod_right, Nat.mod_eq_of_lt hi]
  have hd' : (rt l k)[j]'(by rw [rt_length]; exact hjl) = d := by
    rw [hg]
    simp only [hx]
    exact List.getElem_idxOf hi
  have := idx_get (rt_nodup hn k) (j := j) (by rw [rt_length]; exact hjl)
  rw [hd'] at this
  exact this

theorem rt_get0 (l : List Int) (k j : Nat) (hk : k ≤ l.length) (hj : j < l.length) : (rt l k).getD j 0 = l.getD ((k + j) % l.length) 0 := by
  have h := rt_get l k j hk hj
  rw [List.getD_eq_getElem?_getD, List.getElem?_eq_getElem (by rw [rt_length]; exact hj), h, List.getD_eq_getElem?_getD, List.getElem?_eq_getElem (Nat.mod_lt _ (by omega))]

theorem cyc_step {a b : List Int} (h : Cyc a b) (hn : a.Nodup) {d : Int} (hd : d ∈ a) (s : Nat) : b.getD ((b.idxOf d + s) % b.length) 0 = a.getD ((a.idxOf d + s) % a.length) 0 := by
  obtain ⟨k, hk, rfl⟩ := h
  have hi := List.idxOf_lt_length_of_mem hd
  rw [idx_rt hn hk hd, rt_length, rt_get0 a k _ hk (Nat.mod_lt _ (by omega))]
  congr 1
  rw [Nat.mod_add_mod, Nat.add_mod_mod]
  rw [show k + (a.idxOf d + (a.length - k) + s) = a.idxOf d + s + a.length by omega, Nat.add_mod_right]

theorem cyc_nx {a b : List Int} (h : Cyc a b) (hn : a.Nodup) (d : Int) : nx b d = nx a d := by
  unfold nx
  by_cases hd : d ∈ a
  · rw [if_pos hd, if_pos ((h.mem d).2 hd), cyc_step h hn hd 1]
  · rw [if_neg hd, if_neg (fun hh => hd ((h.mem d).1 hh))]
theorem cyc_pv {a b : List Int} (h : Cyc a b) (hn : a.Nodup) (d : Int) : pv b d = pv a d := by
  unfold pv
  by_cases hd : d ∈ a
  · rw [if_pos hd, if_pos ((h.mem d).2 hd), h.length]
    have := cyc_step h hn hd (a.length - 1)
    rw [h.length] at this
    exact this
  · rw [if_neg hd, if_neg (fun hh => hd ((h.mem d).1 hh))]

theorem mn_cyc {a b : List Int} (h : Cyc a b) : mn b = mn a := by
  by_cases ha : a = []
  · subst ha; obtain ⟨k, _, rfl⟩ := h; simp [rt]
  · exact mn_eq ((h.mem _).2 (mn_mem ha)) (fun x hx => mn_le ((h.mem x).1 hx))

theorem rt_idx {a : List Int} (hn : a.Nodup) {k : Nat} (hk : k ≤ a.length) {d : Int} (hd : d ∈ a) : rt (rt a k) ((rt a k).idxOf d) = rt a (a.idxOf d) := by
  have hi := List.idxOf_lt_length_of_mem hd
  rw [idx_rt hn hk hd]
  have hj := Nat.mod_lt (a.idxOf d + (a.length - k)) (show 0 < a.length by omega)
  rw [rt_rt a k _ hk (by omega)]
  rcases Nat.lt_or_ge (a.idxOf d) k with h | h
  · rw [Nat.mod_eq_of_lt (by omega)]
    split
    · have : a.idxOf d = 0 := by omega
      rw [show k + (a.idxOf d + (a.length - k)) = a.length by omega, rt_all, this, rt_zero]
    · congr 1; omega
  · have : (a.idxOf d + (a.length - k)) % a.length = a.idxOf d - k := by
      rw [show a.idxOf d + (a.length - k) = (a.idxOf d - k) + a.length by omega, Nat.add_mod_right, Nat.mod_eq_of_lt (by omega)]
    rw [this, if_pos (by omega), show k + (a.idxOf d - k) = a.idxOf d by omega]

theorem nrm_cyc {a b : List Int} (h : Cyc a b) (hn : a.Nodup) : nrm b = nrm a := by
  by_cases ha : a = []
  · subst ha; obtain ⟨k, _, rfl⟩ := h; simp [rt]
  · unfold nrm
    rw [mn_cyc h]
    obtain ⟨k, hk, rfl⟩ := h
    exact rt_idx hn hk (mn_mem ha)

theorem cyc_reverse {a b : List Int} (h : Cyc a b) : Cyc a.reverse b.reverse := by
  obtain ⟨k, hk, rfl⟩ := h
  refine ⟨a.length - k, by simp, ?_⟩
  unfold rt
  rw [List.reverse_append, List.reverse_take, List.reverse_drop]

/-- Something put in behind d. -/
theorem cyc_ins {a : List Int} (m : List Int) {d : Int} (hd : d ∈ a) : Cyc (m ++ rt a (a.idxOf d + 1)) (ins a d m) := by
  have hi := List.idxOf_lt_length_of_mem hd
  have hT : (a.take (a.idxOf d + 1)).length = a.idxOf d + 1 := by rw [List.length_take]; omega
  refine Cyc.symm ⟨a.idxOf d + 1, by unfold ins; rw [if_pos hd]; simp; omega, ?_⟩
  unfold ins
  rw [if_pos hd, List.append_assoc]
  show m ++ (a.drop (a.idxOf d + 1) ++ a.take (a.idxOf d + 1)) = _
  generalize a.take (a.idxOf d + 1) = T at *
  generalize a.drop (a.idxOf d + 1) = D at *
  unfold rt
  rw [← hT, List.drop_left, List.take_left]
  simp

theorem rt_idx1 {a : List Int} (hn : a.Nodup) {k : Nat} (hk : k ≤ a.length) {d : Int} (hd : d ∈ a) : rt (rt a k) ((rt a k).idxOf d + 1) = rt a (a.idxOf d + 1) := by
  have hi := List.idxOf_lt_length_of_mem hd
  have hi' := List.idxOf_lt_length_of_mem ((rt_mem a k d).2 hd)
  have e : ∀ l : List Int, l.idxOf d < l.length → rt l (l.idxOf d + 1) = rt (rt l (l.idxOf d)) 1 := by
    intro l hl
    rw [rt_rt l _ 1 (by omega) (by omega), if_pos (by omega)]
  rw [e _ hi', e _ hi, rt_idx hn hk hd]

theorem ins_cyc {a b : List Int} (h : Cyc a b) (hn : a.Nodup) {d : Int} (hd : d ∈ a) (m : List Int) : Cyc (ins a d m) (ins b d m) := by
  have h1 := cyc_ins m hd
  have h2 := cyc_ins m ((h.mem d).2 hd)
  obtain ⟨k, hk, rfl⟩ := h
  rw [rt_idx1 hn hk hd] at h2
  exact h1.symm.trans h2

theorem ins_nodup {a : List Int} (hn : a.Nodup) {d x : Int} (hx : x ∉ a) : (ins a d [x]).Nodup := by
  unfold ins
  split
  · have : (a.take (a.idxOf d + 1) ++ a.drop (a.idxOf d + 1)).Nodup := by rw [List.take_append_drop]; exact hn
    rw [List.append_assoc, List.nodup_append] 
    rw [List.nodup_append] at this
    refine ⟨this.1, ?_, ?_⟩
    · rw [List.singleton_append, List.nodup_cons]
      exact ⟨fun h => hx (List.mem_of_mem_drop h), this.2.1⟩
    · intro p hp q hq
      rcases List.mem_cons.1 hq with rfl | hq
      · exact fun e => hx (e ▸ List.mem_of_mem_take hp)
      · exact this.2.2 p hp q (by simpa using hq)
  · rw [List.nodup_append]
    refine ⟨hn, by simp, ?_⟩
    intro p hp q hq e
    simp at hq
    subst hq
    exact hx (e ▸ hp)

theorem wo_append (a b m : List Int) : wo (a ++ b) m = wo a m ++ wo b m := by unfold wo; rw [List.filter_append]
theorem wo_cyc {a b : List Int} (h : Cyc a b) (m : List Int) : Cyc (wo a m) (wo b m) := by
  obtain ⟨k, hk, rfl⟩ := h
  refine ⟨(wo (a.take k) m).length, ?_, ?_⟩
  · conv => rhs; rw [← List.take_append_drop k a]
    rw [wo_append, List.length_append]; omega
  · unfold rt
    rw [wo_append]
    have : wo a m = wo (a.take k) m ++ wo (a.drop k) m := by rw [← wo_append, List.take_append_drop]
    rw [this, List.drop_left, List.take_left]
theorem wo_ins {a : List Int} {d x : Int} (hx : x ∉ a) : wo (ins a d [x]) [x] = a := by
  have hw : ∀ l : List Int, x ∉ l → wo l [x] = l := by
    intro l hl
    unfold wo
    rw [List.filter_eq_self]
    intro y hy
    simp
    rintro rfl; exact hl hy
  have h1 : wo [x] [x] = [] := by simp [wo]
  unfold ins
  split
  · rw [wo_append, wo_append, h1, hw _ (fun h => hx (List.mem_of_mem_take h)), hw _ (fun h => hx (List.mem_of_mem_drop h)), List.append_nil, List.take_append_drop]
  · rw [wo_append, h1, hw _ hx, List.append_nil]

theorem getD_lt (l : List Int) (j : Nat) (hj : j < l.length) : l.getD j 0 = l[j] := by
  rw [List.getD_eq_getElem?_getD, List.getElem?_eq_getElem hj]; rfl
theorem pv_nx {a : List Int} (hn : a.Nodup) {d : Int} (hd : d ∈ a) : pv a (nx a d) = d := by
  have hi := List.idxOf_lt_length_of_mem hd
  have hj := Nat.mod_lt (a.idxOf d + 1) (show 0 < a.length by omega)
  have e1 : nx a d = a[(a.idxOf d + 1) % a.length] := by unfold nx; rw [if_pos hd, getD_lt _ _ hj]
  rw [e1]
  unfold pv
  rw [if_pos (List.getElem_mem hj), idx_get hn hj, Nat.mod_add_mod]
  rw [show a.idxOf d + 1 + (a.length - 1) = a.idxOf d + a.length by omega, Nat.add_mod_right, Nat.mod_eq_of_lt hi, getD_lt _ _ hi]
  exact List.getElem_idxOf hi
theorem nx_ins {a : List Int} (hn : a.Nodup) {d x : Int} (hd : d ∈ a) (hx : x ∉ a) : nx (ins a d [x]) d = x := by
  have hi := List.idxOf_lt_length_of_mem hd
  have hlen : (ins a d [x]).length = a.length + 1 := by rw [ins_length]; rfl
  have hmem : d ∈ ins a d [x] := by
    unfold ins; rw [if_pos hd]
    have : d ∈ a.take (a.idxOf d + 1) ++ a.drop (a.idxOf d + 1) := by rw [List.take_append_drop]; exact hd
    simp only [List.mem_append] at this ⊢
    rcases this with h | h
    · exact .inl (.inl h)
    · exact .inr h
  have hget : ∀ j (hj : j < a.length), j ≤ a.idxOf d → (ins a d [x])[j]'(by omega) = a[j] := by
    intro j hj hle
    simp only [ins, if_pos hd]
    rw [List.getElem_append_left (by simp; omega), List.getElem_append_left (by simp; omega), List.getElem_take]
  have hidx : (ins a d [x]).idxOf d = a.idxOf d := by
    have h1 := hget _ hi (Nat.le_refl _)
    rw [List.getElem_idxOf hi] at h1
    have := idx_get (ins_nodup hn (d := d) hx) (j := a.idxOf d) (by omega)
    rw [h1] at this
    exact this
  unfold nx
  rw [if_pos hmem, hidx, hlen, Nat.mod_eq_of_lt (by omega), getD_lt _ _ (by omega)]
  simp only [ins, if_pos hd]
  rw [List.getElem_append_left (by simp; omega), List.getElem_append_right (by simp; omega)]
  simp

end Go.Proofs.Ytphdhggoaijfoaa.Aw
