/- The abstract program logic: code over frames of logical values. No program is named here. -/
import Derived.Test.YtjkmgimedkomkaaGreatAwCore
import Derived.Tactics
import Derived.LoopN
import Derived.Scope
import Derived.Shelf.Abstract
namespace Go.Proofs.YtjkmgimedkomkaaGreat.Aw
open Go Go.RowKit
set_option linter.unusedSimpArgs false
set_option linter.unusedVariables false

abbrev AQ := Exit → Frm → St → Prop

def APost (N : Nat) (Q : AQ) (w : World) (g : G) (e : Exit) (a' : Act) (w' : World) : Prop :=
  ∃ fr' st' g', Q e fr' st' ∧ Inv w' g' st' ∧ RepF w' g' a' fr' ∧ a'.tmps.size = N ∧ a'.defers = [] ∧ Ext w g w' g'

theorem APost.pre {N : Nat} {Q : AQ} {w w1 : World} {g g1 : G} (h : Ext w g w1 g1) {e : Exit} {a' : Act} {w' : World} (p : APost N Q w1 g1 e a' w') : APost N Q w g e a' w' := by
  obtain ⟨fr', st', g', hq, hi, hr, hs, hd, he⟩ := p
  exact ⟨fr', st', g', hq, hi, hr, hs, hd, h.trans he⟩

theorem APost.mono {N : Nat} {Q Q' : AQ} {w : World} {g : G} {e e' : Exit} {a' : Act} {w' : World} (p : APost N Q w g e a' w') (h : ∀ fr st, Q e fr st → Q' e' fr st) : APost N Q' w g e' a' w' := by
  obtain ⟨fr', st', g', hq, r⟩ := p
  exact ⟨fr', st', g', h _ _ hq, r⟩

def AWp (P : Program) (N : Nat) (c : Code) (Q : AQ) (fr : Frm) (st : St) : Prop :=
  ∀ (a : Act) (w : World) (g : G), Inv w g st → RepF w g a fr → a.tmps.size = N → a.defers = [] → c.wp P (APost N Q w g) a w

inductive AItem where
  | code (c : Code)
  | blk (id : Nat)
  | head (J : Frm → St → Prop)

def AK (P : Program) (N : Nat) (Q : AQ) : List AItem → AQ
  | [], e, fr, st => Q e fr st
  | .code c :: k, e, fr, st => match e with | .normal => AWp P N c (AK P N Q k) fr st | e => AK P N Q k e fr st
  | .blk id :: k, e, fr, st => match e with | .exit i => if i = id then AK P N Q k .normal fr st else AK P N Q k (.exit i) fr st | e => AK P N Q k e fr st
  | .head J :: k, e, fr, st => match e with | .normal => J fr st | e => AK P N Q k e fr st

section
variable {P : Program} {N : Nat} {Q : AQ} {k : List AItem} {fr : Frm} {st : St}

theorem ak_nil (e : Exit) : AK P N Q [] e fr st = Q e fr st := rfl
theorem ak_code (c : Code) : AK P N Q (.code c :: k) .normal fr st = AWp P N c (AK P N Q k) fr st := rfl
theorem ak_code_exit (c : Code) (i : Nat) : AK P N Q (.code c :: k) (.exit i) fr st = AK P N Q k (.exit i) fr st := rfl
theorem ak_code_ret (c : Code) : AK P N Q (.code c :: k) .ret fr st = AK P N Q k .ret fr st := rfl
theorem ak_blk (id : Nat) : AK P N Q (.blk id :: k) .normal fr st = AK P N Q k .normal fr st := rfl
theorem ak_blk_ret (id : Nat) : AK P N Q (.blk id :: k) .ret fr st = AK P N Q k .ret fr st := rfl
theorem ak_blk_exit (id i : Nat) : AK P N Q (.blk id :: k) (.exit i) fr st = if i = id then AK P N Q k .normal fr st else AK P N Q k (.exit i) fr st := rfl
theorem ak_head (J : Frm → St → Prop) : AK P N Q (.head J :: k) .normal fr st = J fr st := rfl
theorem ak_head_exit (J : Frm → St → Prop) (i : Nat) : AK P N Q (.head J :: k) (.exit i) fr st = AK P N Q k (.exit i) fr st := rfl
theorem ak_head_ret (J : Frm → St → Prop) : AK P N Q (.head J :: k) .ret fr st = AK P N Q k .ret fr st := rfl

theorem awp_mono {c : Code} {Q' : AQ} (h : AWp P N c Q fr st) (hq : ∀ e fr st, Q e fr st → Q' e fr st) : AWp P N c Q' fr st :=
  fun a w g hi hr hs hd => Code.wp_mono (fun _ _ _ p => p.mono (hq _)) (h a w g hi hr hs hd)

theorem awp_skip (h : AK P N Q k .normal fr st) : AWp P N .skip (AK P N Q k) fr st :=
  fun _ w g hi hr hs hd => wp_skip ⟨fr, st, g, h, hi, hr, hs, hd, Ext.refl w g⟩
theorem awp_exit {id : Nat} (h : AK P N Q k (.exit id) fr st) : AWp P N (.exit id) (AK P N Q k) fr st :=
  fun _ w g hi hr hs hd => wp_exit ⟨fr, st, g, h, hi, hr, hs, hd, Ext.refl w g⟩
theorem awp_ret (h : AK P N Q k .ret fr st) : AWp P N .ret (AK P N Q k) fr st :=
  fun _ w g hi hr hs hd => wp_ret ⟨fr, st, g, h, hi, hr, hs, hd, Ext.refl w g⟩
theorem awp_label {l : Nat} (h : AK P N Q k .normal fr st) : AWp P N (.label l) (AK P N Q k) fr st :=
  fun _ w g hi hr hs hd => wp_label ⟨fr, st, g, h, hi, hr, hs, hd, Ext.refl w g⟩

theorem awp_seq {x y : Code} (h : AWp P N x (AK P N Q (.code y :: k)) fr st) : AWp P N (.seq x y) (AK P N Q k) fr st := by
  intro a w g hi hr hs hd
  refine wp_seq (Code.wp_mono (fun e a' w' p => ?_) (h a w g hi hr hs hd))
  cases e with
  | normal =>
    obtain ⟨fr', st', g', hq, hi', hr', hs', hd', he⟩ := p
    exact Code.wp_mono (fun _ _ _ p' => p'.pre he) (hq a' w' g' hi' hr' hs' hd')
  | _ => exact p

theorem awp_block {id : Nat} {c : Code} (h : AWp P N c (AK P N Q (.blk id :: k)) fr st) : AWp P N (.block id c) (AK P N Q k) fr st := by
  intro a w g hi hr hs hd
  refine wp_block (Code.wp_mono (fun e a' w' p => ?_) (h a w g hi hr hs hd))
  cases e with
  | exit i =>
    simp only [Exit.inBlock]
    by_cases h0 : i = id
    · subst h0
      rw [if_pos rfl]
      exact p.mono (fun fr st hq => by rw [ak_blk_exit, if_pos rfl] at hq; exact hq)
    · rw [if_neg h0]
      exact p.mono (fun fr st hq => by rw [ak_blk_exit, if_neg h0] at hq; exact hq)
  | _ => exact p

theorem awp_scope {c : Code} (h : AWp P N c (AK P N Q k) fr st) (hg : ∀ l fr st, ¬ AK P N Q k (.goto l) fr st) : AWp P N (.scope c) (AK P N Q k) fr st := by
  intro a w g hi hr hs hd
  refine wp_scope_straight (Code.wp_mono (fun e a' w' p => ?_) (h a w g hi hr hs hd))
  cases e with
  | goto l => obtain ⟨fr', st', g', hq, _⟩ := p; exact (hg l fr' st' hq).elim
  | _ => exact p

def constC : Value → LV
  | .slice none 0 0 => .nil
  | v => .atom v
def constL : Value → LV
  | .agg cs => .ag (cs.toList.map constC)
  | v => constC v
def evalL (fr : Frm) : Operand → LV
  | .tmp t => fr t
  | .const v => constL v
  | .func f => .fn (.func f) []
  | .global _ => .dead

theorem rep_constC (w : World) (g : G) (v : Value) : Rep w g (constC v) v := by
  unfold constC
  split
  · simp only [Rep]
  · simp only [Rep]
theorem repL_constC (w : World) (g : G) : ∀ vs : List Value, RepL w g (vs.map constC) vs
  | [] => by simp only [List.map_nil, RepL]
  | v :: vs => by simp only [List.map_cons, RepL]; exact ⟨v, vs, rfl, rep_constC w g v, repL_constC w g vs⟩
theorem rep_constL (w : World) (g : G) (v : Value) : Rep w g (constL v) v := by
  unfold constL
  split
  · rename_i cs
    simp only [Rep]
    exact ⟨cs.toList, by simp, repL_constC w g _⟩
  · exact rep_constC w g _

theorem rep_eval {w : World} {g : G} {a : Act} (h : RepF w g a fr) (x : Operand) : Rep w g (evalL fr x) (a.eval x) := by
  cases x with
  | tmp t => exact h t
  | const v => exact rep_constL w g v
  | func f => simp only [evalL, Act.eval, Rep, RepL]; exact ⟨[], rfl, rfl⟩
  | global b => simp only [evalL, Rep]

def condL (P : Program) (N : Nat) (Q : AQ) (k : List AItem) (fr : Frm) (st : St) (x y : Code) : LV → Prop
  | .atom (.bool b) => (b = true → AWp P N x (AK P N Q k) fr st) ∧ (b = false → AWp P N y (AK P N Q k) fr st)
  | _ => False
theorem condL_bool (b : Bool) (x y : Code) : condL P N Q k fr st x y (.atom (.bool b)) = ((b = true → AWp P N x (AK P N Q k) fr st) ∧ (b = false → AWp P N y (AK P N Q k) fr st)) := rfl

theorem awp_cond {c : Operand} {x y : Code} (h : condL P N Q k fr st x y (evalL fr c)) : AWp P N (.cond c x y) (AK P N Q k) fr st := by
  intro a w g hi hr hs hd
  have hc := rep_eval hr c
  revert h hc
  cases evalL fr c with
  | atom v =>
    cases v with
    | bool b =>
      intro h hc
      simp only [Rep] at hc
      rw [condL_bool] at h
      exact wp_cond_split hc (fun hb => h.1 hb a w g hi hr hs hd) (fun hb => h.2 hb a w g hi hr hs hd)
    | _ => intro h; exact h.elim
  | _ => intro h; exact h.elim

theorem rounds_mono {c : Code} {R : Exit → Act → World → Prop} : ∀ (n m : Nat), n ≤ m → ∀ a w, Code.rounds P c R n a w → Code.rounds P c R m a w := by
  intro n
  induction n with
  | zero => intro m _ a w h; exact h.elim
  | succ n ih =>
    intro m hm a w h
    cases m with
    | zero => omega
    | succ m =>
      rw [rounds_succ] at h ⊢
      refine Code.wp_mono (fun e a' w' p => ?_) h
      cases e with
      | normal => exact ih m (by omega) a' w' p
      | _ => exact p

theorem awp_loop {c : Code} (I : Nat → Frm → St → Prop) (n : Nat) (h0 : I n fr st)
    (h : ∀ n fr st, I n fr st → ∀ J : Frm → St → Prop, (∀ m fr' st', m < n → I m fr' st' → J fr' st') → AWp P N c (AK P N Q (.head J :: k)) fr st) :
    AWp P N (.loop c) (AK P N Q k) fr st := by
  intro a w g hi hr hs hd
  have key : ∀ n fr st a w g, I n fr st → Inv w g st → RepF w g a fr → a.tmps.size = N → a.defers = [] → ∀ w0 g0, Ext w0 g0 w g → Code.rounds P c (APost N (AK P N Q k) w0 g0) (n + 1) a w := by
    intro n
    induction n using Nat.strongRecOn with
    | ind n ih =>
      intro fr st a w g hI hi hr hs hd w0 g0 he0
      rw [rounds_succ]
      refine Code.wp_mono (fun e a' w' p => ?_) (h n fr st hI (fun fr' st' => ∃ m, m < n ∧ I m fr' st') (fun m fr' st' hm hI' => ⟨m, hm, hI'⟩) a w g hi hr hs hd)
      cases e with
      | normal =>
        obtain ⟨fr', st', g', ⟨m, hm, hI'⟩, hi', hr', hs', hd', he⟩ := p
        exact rounds_mono (m + 1) n (by omega) a' w' (ih m hm fr' st' a' w' g' hI' hi' hr' hs' hd' w0 g0 (he0.trans he))
      | _ => exact APost.pre he0 p
  exact wp_loop_rounds (n + 1) (key n fr st a w g h0 hi hr hs hd w g (Ext.refl w g))

/-- A ghost step: another abstract state that the same memory represents. -/
theorem awp_ghost {c : Code} {fr' : Frm} {st' : St} (hgh : ∀ (a : Act) (w : World) (g : G), Inv w g st → RepF w g a fr → a.tmps.size = N → ∃ g', Inv w g' st' ∧ RepF w g' a fr' ∧ Ext w g w g')
    (h : AWp P N c Q fr' st') : AWp P N c Q fr st := by
  intro a w g hi hr hs hd
  obtain ⟨g', hi', hr', he⟩ := hgh a w g hi hr hs
  exact Code.wp_mono (fun _ _ _ p => p.pre he) (h a w g' hi' hr' hs hd)

end

/-! ### operations -/
def updO (fr : Frm) (d : Option Nat) (v : LV) : Frm := match d with | some d => upd fr d v | none => fr

def AOps (P : Program) (N : Nat) (ops : Array Oper) (rest : List Oper) (Q : AQ) (fr : Frm) (st : St) : Prop :=
  ∀ (a : Act) (w : World) (g : G), Inv w g st → RepF w g a fr → a.tmps.size = N → a.defers = [] → wpList P ops (APost N Q w g) rest a w

section
variable {P : Program} {N : Nat} {Q : AQ} {k : List AItem} {fr : Frm} {st : St} {ops : Array Oper} {rest : List Oper} {o : Oper}

theorem wpList_mono {R R' : Exit → Act → World → Prop} (hR : ∀ e a w, R e a w → R' e a w) : ∀ (rest : List Oper) (a : Act) (w : World), wpList P ops R rest a w → wpList P ops R' rest a w
  | [], a, w, h => hR _ _ _ h
  | o :: rest, a, w, h => by
    simp only [wpList] at h ⊢
    split
    · rename_i hw
      rw [if_pos hw] at h
      rcases h with h | h
      · left
        unfold Oper.wp at h ⊢
        revert h
        cases (execOp a.eval o).run P w with
        | halt x w1 => cases x <;> simp only [Oper.upon] <;> first | exact fun h => h.elim | exact fun h => hR _ _ _ h
        | ok x w1 =>
          cases x <;> simp only [Oper.upon] <;> first
            | exact fun h => h.elim
            | exact fun h => wpList_mono hR rest _ _ h
            | (intro h; refine Calls.mono h ?_; intro e w2 h2; cases e <;> first | exact wpList_mono hR rest _ _ h2 | exact hR _ _ _ h2 | exact ⟨h2.choose, h2.choose_spec.choose, hR _ _ _ h2.choose_spec.choose_spec⟩)
            | (intro h; refine Rows.mono h ?_; intro e w2 h2; exact wpList_mono hR rest _ _ h2)
      · right
        exact ⟨h.1, h.2.choose, h.2.choose_spec.choose, hR _ _ _ h.2.choose_spec.choose_spec⟩
    · rename_i hw
      rw [if_neg hw] at h
      exact wpList_mono hR rest _ _ h

theorem awp_region {id : Nat} (h : AOps P N ops ops.toList Q fr st) : AWp P N (.region id ops false) Q fr st :=
  fun a w g hi hr hs hd => wp_region_list (h a w g hi hr hs hd)

theorem aops_nil (h : Q .normal fr st) : AOps P N ops [] Q fr st :=
  fun _ w g hi hr hs hd => wpList_nil ⟨fr, st, g, h, hi, hr, hs, hd, Ext.refl w g⟩

/-- What one operation does: a value, and memory as it comes to be. -/
def Op1 (P : Program) (N : Nat) (q : Bool) (o : Oper) (fr : Frm) (st : St) (lv : LV) (st' : St) : Prop :=
  ∀ (a : Act) (w : World) (g : G), Inv w g st → RepF w g a fr → a.tmps.size = N →
    ∃ x w' g', (execOp a.eval o).run P w = .ok x w' ∧ ((∃ v, x = .value v ∧ Rep w' g' lv v) ∨ (x = .skip ∧ lv = .dead)) ∧ Inv w' g' st' ∧ Ext w g w' g' ∧ (q = true → w = w' ∧ g = g' ∧ st' = st ∧ ∃ v, x = .value v)

def dstOk (N : Nat) : Option Nat → Bool
  | some d => decide (d < N)
  | none => true

theorem repF_putO {w : World} {g : G} {a : Act} (h : RepF w g a fr) {d : Option Nat} (hd : dstOk a.tmps.size d = true) {v : Value} {lv : LV} (hv : Rep w g lv v) :
    RepF w g (a.put d v) (updO fr d lv) := by
  cases d with
  | none => exact h
  | some d => exact h.put (by simpa [dstOk] using hd) hv

/-- The guard of an operation, told by the frame: wanted or not. -/
def wantedL (ops : Array Oper) (fr : Frm) (gd : Option (Nat × Bool)) : Option Bool :=
  match gd with
  | none => some true
  | some (j, want) => match (ops[j]?).bind (·.dst) with
    | some d => match fr d with
      | .atom (.bool b) => some (b == want)
      | .tu [] => some false
      | _ => none
    | none => none

theorem wantedL_sound {w : World} {g : G} {a : Act} (h : RepF w g a fr) {b : Bool} (hw : wantedL ops fr o.guard = some b) (hlt : ∀ j want d, o.guard = some (j, want) → (ops[j]?).bind (·.dst) = some d → d < a.tmps.size) :
    Region.wanted o (yielded ops a.tmps) = b := by
  unfold wantedL at hw
  unfold Region.wanted
  cases hg : o.guard with
  | none => simp only [hg] at hw ⊢; exact (Option.some.inj hw)
  | some p =>
    obtain ⟨j, want⟩ := p
    simp only [hg] at hw ⊢
    unfold yielded
    cases hd : (ops[j]?).bind (·.dst) with
    | none => simp [hd] at hw
    | some d =>
      simp only [hd] at hw
      have hdl := hlt j want d hg hd
      have hr := h d
      revert hw hr
      cases fr d with
      | tu vs =>
        cases vs with
        | nil =>
          intro hw hr
          simp only [Rep, RepL] at hr
          obtain ⟨us, hu, rfl⟩ := hr
          have hw' := Option.some.inj hw
          have : a.tmps[d]? = some (.tuple #[]) := by
            rw [Array.getD_eq_getD_getElem?, Array.getElem?_eq_getElem hdl] at hu
            rw [Array.getElem?_eq_getElem hdl]
            simpa using hu
          simp only [Option.bind_some, this]
          rw [← hw']
          rfl
        | cons _ _ => intro hw; simp at hw
      | atom v =>
        cases v with
        | bool b' =>
          intro hw hr
          simp only [Rep] at hr
          have hw' := Option.some.inj hw
          have : a.tmps[d]? = some (.bool b') := by
            rw [Array.getD_eq_getD_getElem?, Array.getElem?_eq_getElem hdl] at hr
            rw [Array.getElem?_eq_getElem hdl]
            simpa using hr
          simp only [Option.bind_some, this]
          rw [← hw']
          cases b' <;> cases want <;> rfl
        | _ => intro hw; simp at hw
      | _ => intro hw; simp at hw

/-- Is the place of the guard's bool in the frame? -/
def guardOk (N : Nat) (ops : Array Oper) (gd : Option (Nat × Bool)) : Bool :=
  match gd with
  | none => true
  | some (j, _) => match (ops[j]?).bind (·.dst) with | some d => decide (d < N) | none => true

theorem guardOk_lt (h : guardOk N ops o.guard = true) : ∀ j want d, o.guard = some (j, want) → (ops[j]?).bind (·.dst) = some d → d < N := by
  intro j want d hg hd
  rw [hg] at h
  simp only [guardOk, hd] at h
  simpa using h

theorem rep_undef {w : World} {g : G} : Rep w g (.tu []) undef := by
  simp only [Rep, RepL]
  exact ⟨[], rfl, rfl⟩

theorem aops_skip (hw : wantedL ops fr o.guard = some false) (hk : guardOk N ops o.guard = true) (hd : dstOk N o.dst = true) (h : AOps P N ops rest Q (updO fr o.dst (.tu [])) st) : AOps P N ops (o :: rest) Q fr st := by
  intro a w g hi hr hs hdf
  have h1 : Region.wanted o (yielded ops a.tmps) = false := wantedL_sound hr hw (by rw [hs]; exact guardOk_lt hk)
  simp only [wpList, h1]
  exact h _ w g hi (repF_putO hr (by rw [hs]; exact hd) rep_undef) (by rw [put_size]; exact hs) (by rw [put_defers]; exact hdf)

theorem aops_op {q : Bool} {lv : LV} {st' : St} (hw : wantedL ops fr o.guard = some true) (hk : guardOk N ops o.guard = true) (hd : dstOk N o.dst = true) (h1 : Op1 P N q o fr st lv st')
    (h : AOps P N ops rest Q (updO fr o.dst lv) st') : AOps P N ops (o :: rest) Q fr st := by
  intro a w g hi hr hs hdf
  have hwt : Region.wanted o (yielded ops a.tmps) = true := wantedL_sound hr hw (by rw [hs]; exact guardOk_lt hk)
  simp only [wpList, hwt, if_true]
  left
  obtain ⟨x, w', g', hrun, hx, hi', he, _⟩ := h1 a w g hi hr hs
  unfold Oper.wp
  rw [hrun]
  have hr' := hr.mono he
  rcases hx with ⟨v, rfl, hv⟩ | ⟨rfl, rfl⟩
  · rw [Oper.upon_value]
    exact wpList_mono (fun _ _ _ p => p.pre he) _ _ _ (h _ w' g' hi' (repF_putO hr' (by rw [hs]; exact hd) hv) (by rw [put_size]; exact hs) (by rw [put_defers]; exact hdf))
  · rw [Oper.upon_skip]
    exact wpList_mono (fun _ _ _ p => p.pre he) _ _ _ (h _ w' g' hi' (repF_putO hr' (by rw [hs]; exact hd) (by simp only [Rep])) (by rw [put_size]; exact hs) (by rw [put_defers]; exact hdf))

/-! ### calls -/
def ACalls (P : Program) (f : FuncId) (args : List LV) (st : St) (Q : LV → St → Prop) : Prop :=
  Enters P f ∧ ∀ (w : World) (g : G) (vs : List Value), Inv w g st → RepL w g args vs →
    Calls P f vs.toArray w fun e w' => ∃ v r st' g', e = .returned v ∧ Q r st' ∧ Rep w' g' r v ∧ Inv w' g' st' ∧ Ext w g w' g'

theorem ACalls.mono {f : FuncId} {args : List LV} {R R' : LV → St → Prop} (h : ACalls P f args st R) (hR : ∀ r st', R r st' → R' r st') : ACalls P f args st R' :=
  ⟨h.1, fun w g vs hi hr => (h.2 w g vs hi hr).mono fun _ _ ⟨v, r, st', g', he, hq, rest⟩ => ⟨v, r, st', g', he, hR _ _ hq, rest⟩⟩

/-- nil as an argument: an empty slice. -/
def norm : LV → LV
  | .nil => .sl 0 0 []
  | lv => lv

theorem rep_norm {w : World} {g : G} {lv : LV} {v : Value} (h : Rep w g lv v) : Rep w g (norm lv) v := by
  cases lv with
  | nil =>
    simp only [Rep] at h
    simp only [norm, Rep]
    exact ⟨none, 0, h, Nat.le_refl _, ⟨Nat.zero_le _, fun _ => rfl⟩, fun h => absurd rfl h, fun h => absurd rfl h⟩
  | _ => exact h

theorem repL_map {w : World} {g : G} {a : Act} (h : RepF w g a fr) : ∀ (xs : List Operand), RepL w g (xs.map (evalL fr)) (xs.map a.eval)
  | [] => by simp only [List.map_nil, RepL]
  | x :: xs => by
    simp only [List.map_cons, RepL]
    exact ⟨_, _, rfl, rep_eval h x, repL_map h xs⟩

theorem repL_append {w : World} {g : G} : ∀ (xs : List LV) (vs : List Value) (bs : List LV) (us : List Value), RepL w g xs vs → RepL w g bs us → RepL w g (xs ++ bs) (vs ++ us)
  | [], vs, bs, us, h, h' => by simp only [RepL] at h; subst h; exact h'
  | x :: xs, vs, bs, us, h, h' => by
    simp only [RepL] at h
    obtain ⟨v, vs', rfl, h1, h2⟩ := h
    simp only [List.cons_append, RepL]
    exact ⟨v, vs' ++ us, rfl, h1, repL_append xs vs' bs us h2 h'⟩

/-- The function that is called, and what it captured. -/
def calleeL : LV → Option (FuncId × List LV)
  | .fn (.func f) caps => some (f, caps)
  | _ => none

theorem aops_call {x : Operand} {args : Array Operand} {tys : Array TypeId} {f : FuncId} {caps : List LV} {R : LV → St → Prop} (hop : o.op = .call { callee := .value x, args := args, argTypes := tys })
    (hw : wantedL ops fr o.guard = some true) (hk : guardOk N ops o.guard = true) (hd : dstOk N o.dst = true)
    (hf : calleeL (evalL fr x) = some (f, caps)) (hc : ACalls P f ((args.toList.map (evalL fr)) ++ caps) st R)
    (h : ∀ r st', R r st' → AOps P N ops rest Q (updO fr o.dst r) st') : AOps P N ops (o :: rest) Q fr st := by
  intro a w g hi hr hs hdf
  have hwt : Region.wanted o (yielded ops a.tmps) = true := wantedL_sound hr hw (by rw [hs]; exact guardOk_lt hk)
  simp only [wpList, hwt, if_true]
  left
  have hx := rep_eval hr x
  revert hf hx
  cases hev : evalL fr x with
  | fn f' caps' =>
    cases f' with
    | func f' =>
      intro hf hx
      simp only [calleeL, Option.some.injEq, Prod.mk.injEq] at hf
      obtain ⟨rfl, rfl⟩ := hf
      simp only [Rep] at hx
      obtain ⟨us, hx, hus⟩ := hx
      have hrun : (execOp a.eval o).run P w = .ok (.enter f' ((args.toList.map a.eval ++ us).toArray)) w := by
        unfold execOp
        simp only [hop, resolve, invoke, hx, Deferred.ofValue, Sem.run_bind, Sem.run_pure, Result.andThen_ok]
        simp only [Array.empty_append]
        rw [hc.1]
        simp
      unfold Oper.wp
      rw [hrun, Oper.upon_enter]
      refine (hc.2 w g _ hi (repL_append _ _ _ _ (repL_map hr args.toList) hus)).mono ?_
      rintro e w' ⟨v, r, st', g', rfl, hq, hv, hi', he⟩
      exact wpList_mono (fun _ _ _ p => p.pre he) _ _ _ (h r st' hq _ w' g' hi' (repF_putO (hr.mono he) (by rw [hs]; exact hd) hv) (by rw [put_size]; exact hs) (by rw [put_defers]; exact hdf))
    | _ => intro hf; simp [calleeL] at hf
  | _ => intro hf; simp [calleeL] at hf

end
end Go.Proofs.YtjkmgimedkomkaaGreat.Aw
