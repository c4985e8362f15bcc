/- Short words for logical values; the rules by which a walk is simplified. -/
import Derived.Test.YtjkmgimedkomkaaGreatAwTab
namespace Go.Proofs.YtjkmgimedkomkaaGreat.Aw
open Go Go.RowKit
set_option linter.unusedSimpArgs false
set_option linter.unusedVariables false

abbrev u (n : Int) : LV := .atom (.int .u32 n)
abbrev i (n : Int) : LV := .atom (.int .i64 n)
abbrev bb (b : Bool) : LV := .atom (.bool b)
abbrev us (l : List Int) : List LV := l.map u

theorem upd_at (fr : Frm) (i j : Nat) (v : LV) : upd fr i v j = if j = i then v else fr j := rfl
theorem new_H (st : St) (o : LObj) (l : Nat) : (st.new o).H l = if l = st.next then o else st.H l := rfl
theorem new_next (st : St) (o : LObj) : (st.new o).next = st.next + 1 := rfl
theorem set_H (st : St) (q : Nat) (o : LObj) (l : Nat) : (st.set q o).H l = if l = q then o else st.H l := rfl
theorem set_next (st : St) (q : Nat) (o : LObj) : (st.set q o).next = st.next := rfl

/-- What was there is as it was. -/
structure Keeps (st st' : St) : Prop where
  next : st.next ≤ st'.next
  H : ∀ l, l < st.next → st'.H l = st.H l
theorem Keeps.refl (st : St) : Keeps st st := ⟨Nat.le_refl _, fun _ _ => rfl⟩
theorem Keeps.trans {a b c : St} (h : Keeps a b) (k : Keeps b c) : Keeps a c := ⟨Nat.le_trans h.next k.next, fun l hl => (k.H l (Nat.lt_of_lt_of_le hl h.next)).trans (h.H l hl)⟩
theorem Keeps.new (st : St) (o : LObj) : Keeps st (st.new o) := ⟨Nat.le_succ _, fun l hl => by rw [new_H, if_neg (by omega)]⟩
theorem Keeps.set {a b : St} (h : Keeps a b) {q : Nat} (hq : a.next ≤ q) (o : LObj) : Keeps a (b.set q o) := ⟨h.next, fun l hl => by rw [set_H, if_neg (by omega)]; exact h.H l hl⟩

section
variable {P : Program} {T : Tab} {N : Nat} {ops : Array Oper} {M B : List Nat} {J : Frm → St → Prop} {rest : List Oper} {d : Option Nat} {fr : Frm} {st st0 : St} {π : List (Nat × Bool × Oper)} {nd : Bool}
theorem callK_ofE {f : FuncId} {args args' : List LV} {R : LV → St → Prop} (h : ACalls P f args' st R) (ha : args.map norm = args') (hk : ∀ r st', R r st' → AOpsE P T N ops M J rest (updO fr d r) st') : CallK P T N ops M J rest d fr st f args := by
  subst ha; exact callK_ofN h hk
theorem dcallK_ofE {f : FuncId} {args args' : List LV} {R : LV → St → Prop} (h : ACalls P f args' st R) (ha : args.map norm = args') (hk : ∀ r st', R r st' → (nd = true → SB B st0 st') ∧ ADyn P T ops M B st0 J π (updO fr d r) st') : DCallK P T ops M B st0 J π nd d fr st f args := by
  subst ha; exact dcallK_of h.of_norm hk
end

theorem repL_mid {w : World} {g : G} {x : LV} {post : List LV} : ∀ (pre : List LV) (vs : List Value), RepL w g (pre ++ x :: post) vs → ∃ v, Rep w g x v ∧ ∀ g' y, Ext w g w g' → Rep w g' y v → RepL w g' (pre ++ y :: post) vs
  | [], vs, h => by
    simp only [List.nil_append, RepL] at h ⊢
    obtain ⟨v, vs', rfl, h1, h2⟩ := h
    exact ⟨v, h1, fun g' y he hy => ⟨v, vs', rfl, hy, RepL.mono he _ _ h2⟩⟩
  | c :: pre, vs, h => by
    simp only [List.cons_append, RepL] at h ⊢
    obtain ⟨v, vs', rfl, h1, h2⟩ := h
    obtain ⟨u, k1, k2⟩ := repL_mid pre vs' h2
    exact ⟨u, k1, fun g' y he hy => ⟨v, vs', rfl, Rep.mono he _ _ h1, k2 g' y he hy⟩⟩

/-- A row that was written to is handed on as a value. -/
theorem acalls_freezeArg {P : Program} {f : FuncId} {pre post : List LV} {st : St} {Q : LV → St → Prop} {l n e s : Nat} {cs : List LV} (hl : st.H l = .box e s cs) (hn : n * s ≤ cs.length) (h : ACalls P f (pre ++ .sl 0 n (cs.take (n * s)) :: post) (st.set l .dead) Q) : ACalls P f (pre ++ .ms l 0 n :: post) st Q := by
  refine ⟨h.1, fun w g vs hi hr => ?_⟩
  obtain ⟨v, h1, h2⟩ := repL_mid pre vs hr
  obtain ⟨g', k1, k2, k3⟩ := ghost_freeze (fr := upd (fun _ => .dead) 0 (.ms l 0 n)) 0 rfl hl hn { tmps := #[v], defers := [] } w g hi (by
    intro j
    unfold upd
    by_cases hj : j = 0
    · subst hj; rw [if_pos rfl]; exact h1
    · rw [if_neg hj]; simp only [Rep])
  refine (h.2 w g' vs k1 (h2 g' _ k3 (k2 0))).mono ?_
  rintro x w' ⟨v, r, st', g2, rfl, hq, hrep, hi', he⟩
  exact ⟨v, r, st', g2, rfl, hq, hrep, hi', k3.trans he⟩

/-- What a walk's continuations come to, in one. -/
theorem ak : (∀ (P : Program) (N : Nat) (Q : AQ) (e : Exit) (fr : Frm) (st : St), AK P N Q [] e fr st = Q e fr st) ∧
    (∀ (P : Program) (N : Nat) (Q : AQ) (k : List AItem) (c : Code) (fr : Frm) (st : St), AK P N Q (.code c :: k) .normal fr st = AWp P N c (AK P N Q k) fr st ∧ (∀ i, AK P N Q (.code c :: k) (.exit i) fr st = AK P N Q k (.exit i) fr st) ∧ AK P N Q (.code c :: k) .ret fr st = AK P N Q k .ret fr st) ∧
    (∀ (P : Program) (N : Nat) (Q : AQ) (k : List AItem) (id : Nat) (fr : Frm) (st : St), AK P N Q (.blk id :: k) .normal fr st = AK P N Q k .normal fr st ∧ AK P N Q (.blk id :: k) .ret fr st = AK P N Q k .ret fr st ∧ ∀ i, AK P N Q (.blk id :: k) (.exit i) fr st = if i = id then AK P N Q k .normal fr st else AK P N Q k (.exit i) fr st) ∧
    (∀ (P : Program) (N : Nat) (Q : AQ) (k : List AItem) (J : Frm → St → Prop) (fr : Frm) (st : St), AK P N Q (.head J :: k) .normal fr st = J fr st ∧ (∀ i, AK P N Q (.head J :: k) (.exit i) fr st = AK P N Q k (.exit i) fr st) ∧ AK P N Q (.head J :: k) .ret fr st = AK P N Q k .ret fr st) ∧
    (∀ (T : Tab) (rs : List ResultVar) (Q : LV → St → Prop) (fr : Frm) (st : St), Body T rs Q .ret fr st = resK T Q fr st rs ∧ Body T rs Q .normal fr st = resK T Q fr st rs) :=
  ⟨fun _ _ _ _ _ _ => rfl, fun _ _ _ _ _ _ _ => ⟨rfl, fun _ => rfl, rfl⟩, fun _ _ _ _ _ _ _ => ⟨rfl, rfl, fun _ => rfl⟩, fun _ _ _ _ _ _ _ => ⟨rfl, fun _ => rfl, rfl⟩, fun _ _ _ _ _ => ⟨rfl, rfl⟩⟩

attribute [simp] e_cons e_nil wantedL e_true e_false e_plain e_nilcmp nilCmp nilFlag nilLen stepR aop e_some e_call updO upd_at evalL constL constC abinL abin aunL loadL ptrCells idxL slOf fieldAddrL fieldL optInt sliceL boxL isFn nilFn mapDelL arrE cellsL allocL storeL fillL placesL buildL zerosL buildSliceL lenL minL maxL appendL capL appendZ clearL callL sliceE structF intK isBoolT frame0 norm calleeL inM oneL
attribute [simp] d_nil d_cons d_quiet d_loud d_qt d_qf d_a d_lt d_lf d_l d_call dynR quietOp heldOp heldAt ptIn pick_cons pick_nil SB_nil SB_cons
attribute [simp] List.take_of_length_le
attribute [simp] sameBox appendIn copyL makeSliceL nilMap isMapT nilPtr isPtr indexL isStr srcT mapKE lookupL mapUpdL makeMapL lenM keyL intsL zeroL mpAt
attribute [simp] aop0 sameZ strL strBin strSlice strConv strCopy strLen bytesL
attribute [simp] q_nil q_cons q_true q_false q_some
attribute [simp] ak_nil ak_code ak_code_exit ak_code_ret ak_blk ak_blk_ret ak_blk_exit ak_head ak_head_exit ak_head_ret condL_bool body_ret body_normal resK resLs resOne one
@[simp] theorem hd_cons (c : LV) (cs : List LV) : hdL (c :: cs) = c := rfl
attribute [simp] new_H new_next set_H set_next

/-! ### a walk's rules in short words -/
section
variable {N : Nat} {Q : AQ} {fr : Frm} {st : St} {id : Nat}
theorem ca {a b : Prop} (hb : b) (ha : a := by first | omega | assumption | (simp only [maxLen]; omega) | decide) : a ∧ b := ⟨ha, hb⟩
theorem w_e {ops : Array Oper} (M : List Nat) (h : ∀ J : Frm → St → Prop, (∀ fr st, Q .normal fr st → J fr st) → AOpsE Tryz.prog tab N ops M J ops.toList fr st) (hk : regOk N ops ops.toList = true := by exact rfl) : AWp Tryz.prog N (.region id ops false) Q fr st := awp_regionE tabOk M hk h
theorem w_q {l : List Oper} (h : ∀ J : Frm → St → Prop, (∀ fr st, Q .normal fr st → J fr st) → AStill tab l.toArray J l fr st) (hm : Tryz.prog.follows .mixedOrders = true := by kernel_rfl) (hB : Region.lexB .any l.toArray = true := by kernel_rfl) (hk : regOk N l.toArray l = true := by exact rfl) (hq : l.all (fun o => quietOp o.op) = true := by exact rfl) : AWp Tryz.prog N (.region id l.toArray true) Q fr st := awp_drawQ tabOk hm hB hk hq h
theorem w_s {ops : Array Oper} (M B : List Nat) (π : List (Nat × Bool)) (h : ∀ J : Frm → St → Prop, (∀ fr st, Q .normal fr st → J fr st) → ADyn Tryz.prog tab ops M B st J (pick ops π) fr st) (hm : Tryz.prog.follows .mixedOrders = true := by kernel_rfl) (hk : regOk N ops ops.toList = true := by exact rfl)
    (hπ : (schedOk ops ((pick ops π).map (·.1)) (Array.replicate ops.size false) && ((pick ops π).length == ops.size) && (π.all fun p => !needS ops p.1 || p.2)) = true := by kernel_rfl) : AWp Tryz.prog N (.region id ops true) Q fr st := awp_drawS tabOk M B π hm hk hπ h
end

end Go.Proofs.YtjkmgimedkomkaaGreat.Aw
