/- An evaluator of calls whose arguments are written out; what it finds is so. No program is named here. -/
import Derived.Test.YtphdhggoaijfoaaAwDraw
import Derived.Tactics
namespace Go.Proofs.Ytphdhggoaijfoaa.Aw
open Go Go.RowKit
set_option linter.unusedSimpArgs false
set_option linter.unusedVariables false

mutual
def lvEq : LV → LV → Bool
  | .dead, .dead => true
  | .nil, .nil => true
  | .atom (.int k a), .atom (.int k' b) => k == k' && a == b
  | .atom (.bool a), .atom (.bool b) => a == b
  | .sl t n cs, .sl t' n' cs' => t == t' && n == n' && lvsEq cs cs'
  | .ms l o n, .ms l' o' n' => l == l' && o == o' && n == n'
  | .ag cs, .ag cs' => lvsEq cs cs'
  | .pt l o, .pt l' o' => l == l' && o == o'
  | .ep cs, .ep cs' => lvsEq cs cs'
  | .mp l, .mp l' => l == l'
  | .fn (.func f) cs, .fn (.func f') cs' => f == f' && lvsEq cs cs'
  | .tu cs, .tu cs' => lvsEq cs cs'
  | _, _ => false
def lvsEq : List LV → List LV → Bool
  | [], [] => true
  | a :: as1, b :: bs => lvEq a b && lvsEq as1 bs
  | _, _ => false
end
mutual
theorem lvEq_sound : ∀ (a b : LV), lvEq a b = true → a = b
  | a, b, h => by
    unfold lvEq at h
    split at h
    · rfl
    · rfl
    · simp at h; obtain ⟨rfl, rfl⟩ := h; rfl
    · simp at h; subst h; rfl
    · simp at h; obtain ⟨⟨rfl, rfl⟩, h⟩ := h; rw [lvsEq_sound _ _ h]
    · simp at h; obtain ⟨⟨rfl, rfl⟩, rfl⟩ := h; rfl
    · rw [lvsEq_sound _ _ h]
    · simp at h; obtain ⟨rfl, rfl⟩ := h; rfl
    · rw [lvsEq_sound _ _ h]
    · simp at h; subst h; rfl
    · simp at h; obtain ⟨rfl, h⟩ := h; rw [lvsEq_sound _ _ h]
    · rw [lvsEq_sound _ _ h]
    · cases h
theorem lvsEq_sound : ∀ (a b : List LV), lvsEq a b = true → a = b
  | a, b, h => by
    unfold lvsEq at h
    split at h
    · rfl
    · simp at h; rw [lvEq_sound _ _ h.1, lvsEq_sound _ _ h.2]
    · cases h
end
def mapEq : List (List Int × LV) → List (List Int × LV) → Bool
  | [], [] => true
  | p :: a, q :: b => p.1 == q.1 && lvEq p.2 q.2 && mapEq a b
  | _, _ => false
theorem mapEq_sound : ∀ a b, mapEq a b = true → a = b
  | [], [], _ => rfl
  | p :: a, q :: b, h => by
    simp only [mapEq, Bool.and_eq_true, beq_iff_eq] at h
    rw [mapEq_sound a b h.2]
    congr 1
    exact Prod.ext h.1.1 (lvEq_sound _ _ h.1.2)
  | [], _ :: _, h => by simp [mapEq] at h
  | _ :: _, [], h => by simp [mapEq] at h
def lobjEq : LObj → LObj → Bool
  | .dead, .dead => true
  | .own e s n, .own e' s' n' => e == e' && s == s' && n == n'
  | .box e s cs, .box e' s' cs' => e == e' && s == s' && lvsEq cs cs'
  | .map ag ks es, .map ag' ks' es' => ag == ag' && decide (ks = ks') && mapEq es es'
  | _, _ => false
theorem lobjEq_sound (a b : LObj) (h : lobjEq a b = true) : a = b := by
  unfold lobjEq at h
  split at h
  · rfl
  · simp at h; obtain ⟨⟨rfl, rfl⟩, rfl⟩ := h; rfl
  · simp at h; obtain ⟨⟨rfl, rfl⟩, h⟩ := h; rw [lvsEq_sound _ _ h]
  · simp at h; obtain ⟨⟨rfl, rfl⟩, h⟩ := h; rw [mapEq_sound _ _ h]
  · cases h

abbrev XCall := FuncId → List LV → St → Option (LV × St)

def xaop (T : Tab) (o : Oper) (fr : Frm) (st : St) : Option (LV × St) :=
  match aop T o.dst.isSome o fr st with
  | some r => if @decide r.c r.d then some (r.v, r.s) else none
  | none => none
theorem xaop_sound {T : Tab} {o : Oper} {fr : Frm} {st st' : St} {v : LV} (h : xaop T o fr st = some (v, st')) : ∃ r, aop T o.dst.isSome o fr st = some r ∧ r.c ∧ r.v = v ∧ r.s = st' := by
  unfold xaop at h
  split at h
  · rename_i r hr
    split at h
    · rename_i hc
      simp only [Option.some.injEq, Prod.mk.injEq] at h
      exact ⟨r, hr, @of_decide_eq_true _ r.d hc, h.1, h.2⟩
    · cases h
  · cases h

def xcal (call : XCall) (x : Operand) (args : Array Operand) (fr : Frm) (st : St) : Option (LV × St) :=
  match calleeL (evalL fr x) with
  | some (f, caps) => call f ((args.toList.map (evalL fr)) ++ caps) st
  | none => none

def xstep (T : Tab) (call : XCall) (o : Oper) (fr : Frm) (st : St) : Option (LV × St) :=
  match o.op with
  | .call { callee := .value x, args := args, argTypes := _ } => xcal call x args fr st
  | _ => match nilCmp T o fr with
    | some (ng, n) => if n = 0 then none else some (.atom (.bool (false != ng)), st)
    | none => xaop T o fr st

def xops (T : Tab) (call : XCall) (ops : Array Oper) : List Oper → Frm → St → Option (Frm × St)
  | [], fr, st => some (fr, st)
  | o :: rest, fr, st => match wantedL ops fr o.guard with
    | some true => match xstep T call o fr st with
      | some (v, st') => xops T call ops rest (updO fr o.dst v) st'
      | none => none
    | some false => xops T call ops rest (updO fr o.dst .dead) st
    | none => none

def CallOk (P : Program) (call : XCall) : Prop := ∀ f args st r st', call f args st = some (r, st') → ACalls P f args st fun r1 st1 => r1 = r ∧ st1 = st'

theorem inM_range {N : Nat} {d : Option Nat} (h : dstOk N d = true) : inM (List.range N) d = d.isSome := by
  cases d with
  | none => rfl
  | some d => simp [dstOk] at h; simp [inM, h]

theorem stepR_call {P : Program} {T : Tab} {N : Nat} {ops : Array Oper} {M : List Nat} {J : Frm → St → Prop} {rest : List Oper} {o : Oper} {fr : Frm} {st : St} {x : Operand} {args : Array Operand} {tys : Array TypeId} (hop : o.op = .call { callee := .value x, args := args, argTypes := tys }) :
    stepR P T N ops M J rest o fr st = callS P T N ops M J rest o.dst fr st (args.toList.map (evalL fr)) (calleeL (evalL fr x)) := by
  unfold stepR; rw [hop]
theorem stepR_else {P : Program} {T : Tab} {N : Nat} {ops : Array Oper} {M : List Nat} {J : Frm → St → Prop} {rest : List Oper} {o : Oper} {fr : Frm} {st : St} (hne : ∀ (x : Operand) (args : Array Operand) (tys : Array TypeId), o.op = .call { callee := .value x, args := args, argTypes := tys } → False) :
    stepR P T N ops M J rest o fr st = stepN P T N ops M J rest o fr st (nilCmp T o fr) := by
  unfold stepR
  split
  · rename_i hop; exact (hne _ _ _ hop).elim
  · rfl

theorem xops_sound {P : Program} {T : Tab} {call : XCall} {ops : Array Oper} {N : Nat} (hc : CallOk P call) {fr' : Frm} {st' : St} : ∀ (rest : List Oper) (fr : Frm) (st : St), regOk N ops rest = true → xops T call ops rest fr st = some (fr', st') →
    AOpsE P T N ops (List.range N) (fun f s => f = fr' ∧ s = st') rest fr st
  | [], fr, st, _, h => by
    simp only [xops, Option.some.injEq, Prod.mk.injEq] at h
    exact h
  | o :: rest, fr, st, hk, h => by
    simp only [regOk, List.all_cons, Bool.and_eq_true] at hk
    obtain ⟨⟨hd, _⟩, hk⟩ := hk
    have ih := xops_sound (T := T) (ops := ops) (N := N) hc (fr' := fr') (st' := st') rest
    have hk' : regOk N ops rest = true := hk
    rw [e_cons]
    simp only [xops] at h
    split at h
    · rename_i hw
      rw [hw, e_true]
      split at h
      · rename_i v st1 hx
        have ih' := ih _ _ hk' h
        unfold xstep at hx
        split at hx
        · rename_i x args tys hop
          rw [stepR_call hop]
          unfold xcal at hx
          split at hx
          · rename_i f caps hf
            rw [hf]
            exact ⟨_, hc _ _ _ _ _ hx, fun r st2 hr => by obtain ⟨rfl, rfl⟩ := hr; exact ih'⟩
          · cases hx
        · rename_i hne
          rw [stepR_else hne]
          split at hx
          · rename_i ng n hn
            rw [hn]
            split at hx
            · cases hx
            · rename_i hn0
              simp only [Option.some.injEq, Prod.mk.injEq] at hx
              obtain ⟨rfl, rfl⟩ := hx
              intro b hb
              cases b with
              | true => exact absurd (hb rfl) hn0
              | false => exact ih'
          · rename_i hn
            rw [hn]
            obtain ⟨r, h1, h2, rfl, rfl⟩ := xaop_sound hx
            simp only [stepN, inM_range hd, h1]
            exact ⟨h2, ih'⟩
      · cases h
    · rename_i hw
      rw [hw, e_false]
      exact ih _ _ hk' h
    · cases h

/-! ### regions whose order is open -/
def sbB (B : List Nat) (st0 st : St) : Bool := B.all fun l => lobjEq (st.H l) (st0.H l)
theorem sbB_sound {B : List Nat} {st0 st : St} (h : sbB B st0 st = true) : SB B st0 st := by
  intro l hl
  unfold sbB at h
  rw [List.all_eq_true] at h
  exact lobjEq_sound _ _ (h l hl)
def ptInB (B : List Nat) : LV → Bool
  | .pt l _ => B.contains l
  | .ep _ => true
  | _ => false
theorem ptInB_sound {B : List Nat} {x : LV} (h : ptInB B x = true) : ptIn B x := by
  unfold ptInB at h
  split at h
  · simpa [ptIn] using h
  · simp [ptIn]
  · cases h

def xloud (T : Tab) (call : XCall) (o : Oper) (fr : Frm) (st : St) : Option (LV × St) :=
  match o.op with
  | .call { callee := .value x, args := args, argTypes := _ } => xcal call x args fr st
  | _ => xaop T o fr st

def xdyn (T : Tab) (call : XCall) (ops : Array Oper) (B : List Nat) (st0 : St) : List (Nat × Bool × Oper) → Frm → St → Option (Frm × St)
  | [], fr, st => some (fr, st)
  | (_, nd, o) :: π, fr, st => match quietOp o.op with
    | true => if heldOp o.op && !sbB B st0 st then none else match wantedL ops fr o.guard with
      | some true => if ptInB B (heldAt fr o.op) then match xaop T o fr st with
          | some (v, _) => xdyn T call ops B st0 π (updO fr o.dst v) st
          | none => none
        else none
      | some false => xdyn T call ops B st0 π (updO fr o.dst .dead) st
      | none => none
    | false => match wantedL ops fr o.guard with
      | some true => match xloud T call o fr st with
        | some (v, st') => if nd && !sbB B st0 st' then none else xdyn T call ops B st0 π (updO fr o.dst v) st'
        | none => none
      | some false => if nd && !sbB B st0 st then none else xdyn T call ops B st0 π (updO fr o.dst .dead) st
      | none => none

theorem not_and_not {a b : Bool} (h : ¬ (a && !b) = true) (ha : a = true) : b = true := by
  subst ha; simpa using h

theorem xdyn_sound {P : Program} {T : Tab} {call : XCall} {ops : Array Oper} {N : Nat} (hc : CallOk P call) {B : List Nat} {st0 : St} {fr' : Frm} {st' : St} : ∀ (π : List (Nat × Bool × Oper)) (fr : Frm) (st : St), (∀ p ∈ π, dstOk N p.2.2.dst = true) → xdyn T call ops B st0 π fr st = some (fr', st') →
    ADyn P T ops (List.range N) B st0 (fun f s => f = fr' ∧ s = st') π fr st
  | [], fr, st, _, h => by
    simp only [xdyn, Option.some.injEq, Prod.mk.injEq] at h
    exact h
  | (i, nd, o) :: π, fr, st, hk, h => by
    have hd : dstOk N o.dst = true := hk (i, nd, o) (by simp)
    have hm := inM_range hd
    have ih := fun fr st => xdyn_sound (T := T) (ops := ops) (N := N) hc (B := B) (st0 := st0) (fr' := fr') (st' := st') π fr st (fun p hp => hk p (by simp [hp]))
    unfold ADyn
    unfold xdyn at h
    cases hq : quietOp o.op with
    | true =>
      simp only [hq] at h ⊢
      split at h
      · cases h
      · rename_i hs
        have hS : heldOp o.op = true → SB B st0 st := fun hh => sbB_sound (not_and_not hs hh)
        split at h
        · rename_i hw
          rw [hw]
          refine ⟨fun _ => ?_, (fun hb => by cases hb)⟩
          split at h
          · rename_i hp
            split at h
            · rename_i v st1 hx
              obtain ⟨r, h1, h2, rfl, rfl⟩ := xaop_sound hx
              rw [hm, h1]
              exact ⟨hS, ptInB_sound hp, h2, ih _ _ h⟩
            · cases h
          · cases h
        · rename_i hw
          rw [hw]
          exact ⟨(fun hb => by cases hb), fun _ => ⟨hS, ih _ _ h⟩⟩
        · cases h
    | false =>
      simp only [hq] at h ⊢
      unfold AStep
      split at h
      · rename_i hw
        rw [hw]
        refine ⟨fun _ => ?_, (fun hb => by cases hb)⟩
        split at h
        · rename_i v st1 hx
          split at h
          · cases h
          · rename_i hs
            have hS : nd = true → SB B st0 st1 := fun hh => sbB_sound (not_and_not hs hh)
            unfold xloud at hx
            split at hx
            · rename_i x args tys hop
              unfold xcal at hx
              split at hx
              · rename_i f caps hf
                rw [hop]
                simp only [hf]
                exact ⟨_, hc _ _ _ _ _ hx, fun r st2 hr => by obtain ⟨rfl, rfl⟩ := hr; exact ⟨hS, ih _ _ h⟩⟩
              · cases hx
            · rename_i hne
              obtain ⟨r, h1, h2, rfl, rfl⟩ := xaop_sound hx
              split
              · rename_i hop; exact (hne _ _ _ hop).elim
              · rw [hm, h1]
                exact ⟨h2, hS, ih _ _ h⟩
        · cases h
      · rename_i hw
        rw [hw]
        refine ⟨(fun hb => by cases hb), fun _ => ?_⟩
        split at h
        · cases h
        · rename_i hs
          exact ⟨fun hh => sbB_sound (not_and_not hs hh), ih _ _ h⟩
      · cases h

/-- An order in which a region's operations may be taken. -/
def xsched (ops : Array Oper) : Nat → Array Bool → List (Nat × Bool)
  | 0, _ => []
  | n + 1, listed =>
    let rd := Region.ready .any ops listed
    match rd.find? (fun i => (match ops[i]? with | some o => quietOp o.op | none => false) && Region.free .any ops listed i) with
    | some i => (i, true) :: xsched ops n (listed.setIfInBounds i true)
    | none => match rd with
      | i :: _ => (i, needS ops i) :: xsched ops n (listed.setIfInBounds i true)
      | [] => []

def schedB (ops : Array Oper) (π : List (Nat × Bool)) : Bool := schedOk ops ((pick ops π).map (·.1)) (Array.replicate ops.size false) && ((pick ops π).length == ops.size) && (π.all fun p => !needS ops p.1 || p.2)

/-! ### code -/
def resX (T : Tab) (fr : Frm) (st : St) : List ResultVar → Option (List LV)
  | [] => some []
  | r :: rs => match resOne T fr st r, resX T fr st rs with
    | some x, some l => if @decide x.c x.d then some (x.v :: l) else none
    | _, _ => none
theorem resX_sound {T : Tab} {fr : Frm} {st : St} : ∀ (rs : List ResultVar) (l : List LV), resX T fr st rs = some l → ∃ c, resLs T fr st rs = some (c, l) ∧ c
  | [], l, h => by simp only [resX, Option.some.injEq] at h; subst h; exact ⟨True, rfl, trivial⟩
  | r :: rs, l, h => by
    simp only [resX] at h
    split at h
    · rename_i x l' hx hl
      split at h
      · rename_i hc
        simp only [Option.some.injEq] at h
        subst h
        obtain ⟨c, h1, h2⟩ := resX_sound rs l' hl
        exact ⟨x.c ∧ c, by simp only [resLs, hx, h1], @of_decide_eq_true _ x.d hc, h2⟩
      · cases h
    · cases h

abbrev XRes := Option (Exit × Frm × St)

def xret (T : Tab) (rs : List ResultVar) : XRes → Option (LV × St)
  | some (.ret, fr, st) => match resX T fr st rs with
    | some l => some (one l, st)
    | none => none
  | some (.normal, fr, st) => match resX T fr st rs with
    | some l => some (one l, st)
    | none => none
  | _ => none

def xreg (T : Tab) (call : XCall) (N : Nat) (ops : Array Oper) (dr : Bool) (fr : Frm) (st : St) : Option (Frm × St) :=
  if regOk N ops ops.toList then
    match dr with
    | false => xops T call ops ops.toList fr st
    | true => if schedB ops (xsched ops ops.size (Array.replicate ops.size false)) then xdyn T call ops (List.range st.next) st (pick ops (xsched ops ops.size (Array.replicate ops.size false))) fr st else none
  else none

def xrun (T : Tab) (fns : FuncId → Option Func) : Nat → Nat → Code → Frm → St → XRes
  | 0, _, _, _, _ => none
  | n + 1, N, c, fr, st => match c with
    | .skip => some (.normal, fr, st)
    | .label _ => some (.normal, fr, st)
    | .exit i => some (.exit i, fr, st)
    | .ret => some (.ret, fr, st)
    | .seq a b => match xrun T fns n N a fr st with
      | some (.normal, fr', st') => xrun T fns n N b fr' st'
      | r => r
    | .block id c => match xrun T fns n N c fr st with
      | some (.exit i, fr', st') => if i = id then some (.normal, fr', st') else some (.exit i, fr', st')
      | r => r
    | .scope c => match xrun T fns n N c fr st with
      | some (.goto _, _, _) => none
      | r => r
    | .cond x a b => match evalL fr x with
      | .atom (.bool true) => xrun T fns n N a fr st
      | .atom (.bool false) => xrun T fns n N b fr st
      | _ => none
    | .loop c => match xrun T fns n N c fr st with
      | some (.normal, fr', st') => xrun T fns n N (.loop c) fr' st'
      | r => r
    | .region _ ops dr => match xreg T (fun f args st => match fns f with
        | some fn => match fn.body with
          | some c => if args.length ≤ fn.ntmps then xret T fn.results.toList (xrun T fns n fn.ntmps c (frame0 args) st) else none
          | none => none
        | none => none) N ops dr fr st with
      | some (fr', st') => some (.normal, fr', st')
      | none => none
    | _ => none

def xcall (T : Tab) (fns : FuncId → Option Func) (n : Nat) : XCall := fun f args st => match fns f with
  | some fn => match fn.body with
    | some c => if args.length ≤ fn.ntmps then xret T fn.results.toList (xrun T fns n fn.ntmps c (frame0 args) st) else none
    | none => none
  | none => none

def FnsOk (P : Program) (fns : FuncId → Option Func) : Prop := ∀ f fn, fns f = some fn → P.funcs[f]? = some fn ∧ (fn.name == "runtime.NumGoroutine") = false

section
variable {P : Program} {T : Tab} {fns : FuncId → Option Func}

/-- What is told of a run: just this end. -/
def just (e : Exit) (fr : Frm) (st : St) : AQ := fun e1 f1 s1 => e1 = e ∧ f1 = fr ∧ s1 = st

theorem xcall_sound (hT : TabOk P T) (hf : FnsOk P fns) {n : Nat} (ih : ∀ N c fr st e fr' st', xrun T fns n N c fr st = some (e, fr', st') → AWp P N c (just e fr' st') fr st) : CallOk P (xcall T fns n) := by
  intro f args st r st' h
  unfold xcall at h
  split at h
  · rename_i fn hfn
    obtain ⟨h1, h2⟩ := hf f fn hfn
    split at h
    · rename_i c hb
      split at h
      · rename_i hlen
        unfold xret at h
        have key : ∀ e fr1 st1, (e = .ret ∨ e = .normal) → xrun T fns n fn.ntmps c (frame0 args) st = some (e, fr1, st1) → (match resX T fr1 st1 fn.results.toList with | some l => some (one l, st1) | none => none) = some (r, st') → ACalls P f args st fun r1 st2 => r1 = r ∧ st2 = st' := by
          intro e fr1 st1 he hx hres
          refine acalls_of_body hT h1 hb h2 rfl rfl hlen (awp_mono (ih _ _ _ _ _ _ _ hx) ?_)
          rintro e2 fr2 st2 ⟨rfl, rfl, rfl⟩
          rw [ak_nil]
          cases hr : resX T fr2 st2 fn.results.toList with
          | none => simp [hr] at hres
          | some l =>
            simp only [hr, Option.some.injEq, Prod.mk.injEq] at hres
            obtain ⟨cc, k1, k2⟩ := resX_sound _ _ hr
            have : resK T (fun r1 st3 => r1 = r ∧ st3 = st') fr2 st2 fn.results.toList := by
              unfold resK
              rw [k1]
              exact ⟨k2, hres.1, hres.2⟩
            rcases he with rfl | rfl <;> exact this
        split at h
        · rename_i fr1 st1 hx; exact key _ _ _ (.inl rfl) hx h
        · rename_i fr1 st1 hx; exact key _ _ _ (.inr rfl) hx h
        · cases h
      · cases h
    · cases h
  · cases h

theorem xrun_sound (hT : TabOk P T) (hf : FnsOk P fns) (hm : P.follows .mixedOrders = true) : ∀ (n N : Nat) (c : Code) (fr : Frm) (st : St) (e : Exit) (fr' : Frm) (st' : St), xrun T fns n N c fr st = some (e, fr', st') → AWp P N c (just e fr' st') fr st := by
  intro n
  induction n using Nat.strongRecOn with
  | ind n ihs =>
    intro N c fr st e fr' st' h
    cases n with
    | zero => simp [xrun] at h
    | succ n =>
    have ih := ihs n (Nat.lt_succ_self n)
    cases c with
    | skip => simp only [xrun, Option.some.injEq, Prod.mk.injEq] at h; exact awp_skip (Q := just e fr' st') (k := []) ⟨h.1, h.2.1, h.2.2⟩
    | label l => simp only [xrun, Option.some.injEq, Prod.mk.injEq] at h; exact awp_label (Q := just e fr' st') (k := []) ⟨h.1, h.2.1, h.2.2⟩
    | exit i => simp only [xrun, Option.some.injEq, Prod.mk.injEq] at h; exact awp_exit (Q := just e fr' st') (k := []) ⟨h.1, h.2.1, h.2.2⟩
    | ret => simp only [xrun, Option.some.injEq, Prod.mk.injEq] at h; exact awp_ret (Q := just e fr' st') (k := []) ⟨h.1, h.2.1, h.2.2⟩
    | seq x y =>
      refine awp_seq (Q := just e fr' st') (k := []) ?_
      simp only [xrun] at h
      split at h
      · rename_i fr1 st1 hx
        refine awp_mono (ih _ _ _ _ _ _ _ hx) ?_
        rintro e2 fr2 st2 ⟨rfl, rfl, rfl⟩
        rw [ak_code]
        exact ih _ _ _ _ _ _ _ h
      · rename_i hne
        refine awp_mono (ih _ _ _ _ _ _ _ h) ?_
        rintro e2 fr2 st2 ⟨rfl, rfl, rfl⟩
        cases e2 with
        | normal => exact absurd h (hne _ _)
        | _ => exact ⟨rfl, rfl, rfl⟩
    | block id x =>
      refine awp_block (Q := just e fr' st') (k := []) ?_
      simp only [xrun] at h
      split at h
      · rename_i i fr1 st1 hx
        refine awp_mono (ih _ _ _ _ _ _ _ hx) ?_
        rintro e2 fr2 st2 ⟨rfl, rfl, rfl⟩
        rw [ak_blk_exit]
        split at h
        · rename_i hi
          rw [if_pos hi]
          simp only [Option.some.injEq, Prod.mk.injEq] at h
          exact ⟨h.1, h.2.1, h.2.2⟩
        · rename_i hi
          rw [if_neg hi]
          simp only [Option.some.injEq, Prod.mk.injEq] at h
          exact ⟨h.1, h.2.1, h.2.2⟩
      · rename_i hne
        refine awp_mono (ih _ _ _ _ _ _ _ h) ?_
        rintro e2 fr2 st2 ⟨rfl, rfl, rfl⟩
        cases e2 with
        | exit i => exact absurd h (hne _ _ _)
        | _ => exact ⟨rfl, rfl, rfl⟩
    | scope x =>
      simp only [xrun] at h
      split at h
      · cases h
      · rename_i hne
        refine awp_scope (Q := just e fr' st') (k := []) (ih _ _ _ _ _ _ _ h) ?_
        rintro l fr2 st2 ⟨h1, _, _⟩
        subst h1
        exact hne _ _ _ h
    | cond x a b =>
      refine awp_cond (Q := just e fr' st') (k := []) ?_
      simp only [xrun] at h
      split at h
      · rename_i hx
        rw [hx, condL_bool]
        exact ⟨fun _ => ih _ _ _ _ _ _ _ h, (fun hb => by cases hb)⟩
      · rename_i hx
        rw [hx, condL_bool]
        exact ⟨(fun hb => by cases hb), fun _ => ih _ _ _ _ _ _ _ h⟩
      · cases h
    | loop x =>
      refine awp_loop (Q := just e fr' st') (k := []) (fun m fr st => m ≤ n + 1 ∧ xrun T fns m N (.loop x) fr st = some (e, fr', st')) (n + 1) ⟨Nat.le_refl _, h⟩ ?_
      rintro m fr1 st1 ⟨hle, hI⟩ J hJ
      cases m with
      | zero => simp [xrun] at hI
      | succ m =>
        have ihm := ihs m (by omega)
        simp only [xrun] at hI
        split at hI
        · rename_i fr2 st2 hx
          refine awp_mono (ihm _ _ _ _ _ _ _ hx) ?_
          rintro e2 fr3 st3 ⟨rfl, rfl, rfl⟩
          rw [ak_head]
          exact hJ m _ _ (Nat.lt_succ_self m) ⟨by omega, hI⟩
        · rename_i hne
          refine awp_mono (ihm _ _ _ _ _ _ _ hI) ?_
          rintro e2 fr2 st2 ⟨rfl, rfl, rfl⟩
          cases e2 with
          | normal => exact absurd hI (hne _ _)
          | _ => exact ⟨rfl, rfl, rfl⟩
    | region id ops dr =>
      simp only [xrun] at h
      have hcall : CallOk P (xcall T fns n) := xcall_sound hT hf (fun N c fr st e fr' st' hx => ih N c fr st e fr' st' hx)
      split at h
      · rename_i fr1 st1 hx
        simp only [Option.some.injEq, Prod.mk.injEq] at h
        obtain ⟨rfl, rfl, rfl⟩ := h
        have hx' : xreg T (xcall T fns n) N ops dr fr st = some (fr1, st1) := hx
        unfold xreg at hx'
        split at hx'
        · rename_i hk
          cases dr with
          | false =>
            simp only at hx'
            refine awp_regionE hT (List.range N) hk fun J hJ => ?_
            have := xops_sound (N := N) hcall _ _ _ hk hx'
            have hmono : ∀ (rest : List Oper) (fr : Frm) (st : St), AOpsE P T N ops (List.range N) (fun f s => f = fr1 ∧ s = st1) rest fr st → AOpsE P T N ops (List.range N) J rest fr st := by
              intro rest
              induction rest with
              | nil => rintro fr st ⟨rfl, rfl⟩; exact hJ _ _ ⟨rfl, rfl, rfl⟩
              | cons o rest ihr =>
                intro fr st hh
                rw [e_cons] at hh ⊢
                unfold stepW at hh ⊢
                split at hh
                · refine ⟨fun hb => ?_, fun hb => ihr _ _ (hh.2 hb)⟩
                  have h1 := hh.1 hb
                  unfold stepR at h1 ⊢
                  split at h1
                  · unfold callS at h1 ⊢
                    split at h1
                    · obtain ⟨R, k1, k2⟩ := h1
                      exact ⟨R, k1, fun r st' hr => ihr _ _ (k2 r st' hr)⟩
                    · exact h1
                  · unfold stepN at h1 ⊢
                    split at h1
                    · exact fun b hb => ihr _ _ (h1 b hb)
                    · unfold stepA at h1 ⊢
                      split at h1
                      · exact ⟨h1.1, ihr _ _ h1.2⟩
                      · exact h1
                · exact hh
            exact hmono _ _ _ this
          | true =>
            simp only at hx'
            split at hx'
            · rename_i hs
              refine awp_drawS hT (List.range N) (List.range st.next) (xsched ops ops.size (Array.replicate ops.size false)) hm hk hs fun J hJ => ?_
              have hds : ∀ p ∈ pick ops (xsched ops ops.size (Array.replicate ops.size false)), dstOk N p.2.2.dst = true := by
                intro p hp
                unfold pick at hp
                simp only [List.mem_filterMap, Option.map_eq_some_iff] at hp
                obtain ⟨q, _, o, ho, rfl⟩ := hp
                unfold regOk at hk
                rw [List.all_eq_true] at hk
                have := hk o (Array.mem_toList_iff.2 (Array.mem_of_getElem? ho))
                simp only [Bool.and_eq_true] at this
                exact this.1
              have := xdyn_sound (N := N) hcall _ _ _ hds hx'
              have hmono : ∀ (π : List (Nat × Bool × Oper)) (fr : Frm) (st' : St), ADyn P T ops (List.range N) (List.range st.next) st (fun f s => f = fr1 ∧ s = st1) π fr st' → ADyn P T ops (List.range N) (List.range st.next) st J π fr st' := by
                intro π
                induction π with
                | nil => rintro fr st ⟨rfl, rfl⟩; exact hJ _ _ ⟨rfl, rfl, rfl⟩
                | cons p π ihr =>
                  obtain ⟨i, nd, o⟩ := p
                  intro fr st2 hh
                  unfold ADyn at hh ⊢
                  cases hq : quietOp o.op with
                  | true =>
                    simp only [hq] at hh ⊢
                    split at hh
                    · refine ⟨fun hb => ?_, fun hb => ⟨(hh.2 hb).1, ihr _ _ (hh.2 hb).2⟩⟩
                      obtain ⟨k1, k2, k3⟩ := hh.1 hb
                      refine ⟨k1, k2, ?_⟩
                      split at k3
                      · exact ⟨k3.1, ihr _ _ k3.2⟩
                      · exact k3
                    · exact hh
                  | false =>
                    simp only [hq] at hh ⊢
                    exact hh.mono fun fr st hk => ⟨hk.1, ihr _ _ hk.2⟩
              exact hmono _ _ _ this
            · cases hx'
        · cases hx'
      · cases h
    | _ => simp [xrun] at h

end

def lookF : List (Nat × Func) → FuncId → Option Func
  | [], _ => none
  | p :: l, f => if f = p.1 then some p.2 else lookF l f
def AllF (P : Program) : List (Nat × Func) → Prop
  | [] => True
  | p :: l => (P.funcs[p.1]? = some p.2 ∧ (p.2.name == "runtime.NumGoroutine") = false) ∧ AllF P l
theorem fnsOk_of {P : Program} : ∀ (l : List (Nat × Func)), AllF P l → FnsOk P (lookF l)
  | [], _, f, fn, h => by simp [lookF] at h
  | p :: l, ha, f, fn, h => by
    simp only [lookF] at h
    split at h
    · rename_i hf
      injection h with h
      subst hf h
      exact ha.1
    · exact fnsOk_of l ha.2 f fn h

/-- A call that is told nothing of memory leaves memory as it was. -/
theorem acalls_frame {P : Program} {f : FuncId} {st : St} {R : Value → Prop} (h : ACalls P f [] ⟨1, fun _ => .dead⟩ fun r _ => ∃ v, r = .atom v ∧ R v) : ACalls P f [] st fun r st' => (∃ v, r = .atom v ∧ R v) ∧ st' = st := by
  refine ⟨h.1, fun w g vs hi hr => ?_⟩
  have hi0 : Inv w ⟨1, fun _ => none, fun _ => 0, fun _ => 0, fun _ => false⟩ ⟨1, fun _ => .dead⟩ := by
    refine ⟨rfl, by decide, fun _ _ => rfl, fun l hl => hl.elim, fun l l' hl => hl.elim, fun l e s n hl => (by cases hl), fun l e s cs hl => (by cases hl), fun l ag ks es hl => (by cases hl)⟩
  refine (h.2 w _ vs hi0 (by simp only [RepL] at hr ⊢; exact hr)).mono ?_
  rintro e w' ⟨v, r, st', g', rfl, ⟨v', rfl, hv'⟩, hrep, _, he⟩
  have hold : ∀ b, b < w.heap.size → w'.heap[b]? = w.heap[b]? := fun b hb => (he.still b hb rfl).2
  have he' : Ext w g w' g := by
    refine ⟨he.os, he.tape, he.output, he.size, Nat.le_refl _, fun _ _ => rfl, fun _ _ => rfl, fun _ _ => rfl, fun b hb hn => ⟨hn, hold b hb⟩, fun b k hb hk => ⟨k, hk, Nat.le_refl _, fun o _ => World.cell?_of_block (w := w) (hold b hb)⟩⟩
  refine ⟨v, _, st, g, rfl, ⟨⟨v', rfl, hv'⟩, rfl⟩, hrep, ?_, he'⟩
  refine ⟨hi.next, hi.pos, hi.fresh, fun l hl => Nat.lt_of_lt_of_le (hi.lt l hl) he.size, hi.inj, ?_, ?_, ?_⟩
  · intro l e s n hl
    obtain ⟨h1, h2, h3, h4⟩ := hi.own l e s n hl
    refine ⟨h1, h2, h3, fun hnl => ?_⟩
    obtain ⟨cur, k1, k2, k3⟩ := h4 hnl
    exact ⟨cur, by rw [hold _ (Array.getElem?_eq_some_iff.1 k1).1]; exact k1, k2, k3⟩
  · intro l e s cs hl
    obtain ⟨h1, h2, h3⟩ := hi.box l e s cs hl
    refine ⟨h1, h2, fun hnl => ?_⟩
    obtain ⟨cur, k1, k2, k3, k4, k5⟩ := h3 hnl
    exact ⟨cur, by rw [hold _ (Array.getElem?_eq_some_iff.1 k1).1]; exact k1, k2, k3, RepL.mono he' _ _ k4, k5⟩
  · intro l ag ks es hl
    have hm := hi.mp l ag ks es hl
    exact hm.keep he' (hi.map_lt hl) (hold _ hm.blk_lt) rfl

def xBool (r : Option (LV × St)) (b : Bool) : Bool := match r with
  | some (.atom (.bool c), _) => c == b
  | _ => false

/-- A closed call that answers a bool. -/
theorem acalls_closed {P : Program} {T : Tab} {fns : FuncId → Option Func} (hT : TabOk P T) (hf : FnsOk P fns) (hm : P.follows .mixedOrders = true) (n : Nat) {f : FuncId} (b : Bool) {st : St}
    (h : xBool (xcall T fns n f [] ⟨1, fun _ => .dead⟩) b = true) : ACalls P f [] st fun r st' => r = .atom (.bool b) ∧ st' = st := by
  cases hx : xcall T fns n f [] ⟨1, fun _ => .dead⟩ with
  | none => rw [hx] at h; simp [xBool] at h
  | some p =>
    obtain ⟨r, st'⟩ := p
    rw [hx] at h
    have hr : r = .atom (.bool b) := by
      unfold xBool at h
      split at h
      · rename_i c _ hc
        simp only [Option.some.injEq, Prod.mk.injEq] at hc
        rw [hc.1]
        simp at h
        rw [h]
      · cases h
    have := xcall_sound hT hf (fun N c fr st e fr' st' hx => xrun_sound hT hf hm n N c fr st e fr' st' hx) f [] _ r st' hx
    refine (acalls_frame (R := fun v => v = .bool b) (this.mono ?_)).mono ?_
    · rintro r1 st1 ⟨rfl, rfl⟩; exact ⟨_, hr, rfl⟩
    · rintro r1 st1 ⟨⟨v, rfl, rfl⟩, rfl⟩; exact ⟨rfl, rfl⟩

end Go.Proofs.Ytphdhggoaijfoaa.Aw
