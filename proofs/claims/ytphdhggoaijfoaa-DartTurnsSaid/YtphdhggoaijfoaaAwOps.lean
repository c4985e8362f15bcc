/- What each operation does to logical values; that memory follows it. No program is named here: types come in by a table. -/
import Derived.Test.YtphdhggoaijfoaaAwMem
import Derived.Laws.IdiomCopy
namespace Go.Proofs.Ytphdhggoaijfoaa.Aw
open Go Go.RowKit
set_option linter.unusedSimpArgs false
set_option linter.unusedVariables false

inductive TD where
  | int (k : IntKind)
  | bool
  | str
  | slice (e : Nat)
  | struct (fs : List (Nat × Nat))
  | map (k e : Nat)
  | ptr (e : Nat)
  | arr (n e : Nat)
  | other

structure TRow where
  agg : Bool
  size : Nat
  bytes : Nat
  zero : List Value
  d : TD

def TRow.zeroV (r : TRow) : Value := if r.agg then .agg r.zero.toArray else r.zero.headD undef

def DescOk (P : Program) (t : Nat) : TD → Prop
  | .int k => P.underlying t = some (.int k)
  | .bool => P.underlying t = some .bool
  | .str => P.underlying t = some .string
  | .slice e => P.underlying t = some (.slice e)
  | .struct fs => ∃ F : Array Field, P.underlying t = some (.struct F) ∧ F.toList.map (fun f => (f.offset, f.type)) = fs
  | .map k e => P.underlying t = some (.map k e)
  | .ptr e => P.underlying t = some (.pointer e)
  | .arr n e => P.underlying t = some (.array n e)
  | .other => True

structure RowOk (P : Program) (t : Nat) (r : TRow) : Prop where
  agg : ∀ w, (isAgg t).run P w = .ok r.agg w
  info : ∃ i, P.info? t = some i ∧ i.size = r.size ∧ i.bytes = r.bytes ∧ i.zero = some r.zeroV
  zl : r.zero.length = r.size
  one : r.agg = false → r.size = 1
  zone : r.zero.all Value.oneCell' = true
  desc : DescOk P t r.d

abbrev Tab := Nat → Option TRow
def TabOk (P : Program) (T : Tab) : Prop := ∀ t r, T t = some r → RowOk P t r

theorem RowOk.sizeOf {P : Program} {t : Nat} {r : TRow} (h : RowOk P t r) (w : World) : (Go.sizeOf t).run P w = .ok r.size w := by
  obtain ⟨i, hi, hs, _, _⟩ := h.info
  simp [Go.sizeOf, typeInfo, hi, hs]
theorem RowOk.zeroValue {P : Program} {t : Nat} {r : TRow} (h : RowOk P t r) (w : World) : (Go.zeroValue t).run P w = .ok r.zeroV w := by
  obtain ⟨i, hi, _, _, hz⟩ := h.info
  simp [Go.zeroValue, typeInfo, hi, hz]

def sliceE (T : Tab) (t : Nat) : Option Nat := match T t with
  | some r => match r.d with | .slice e => some e | _ => none
  | none => none
def structF (T : Tab) (t : Nat) : Option (List (Nat × Nat)) := match T t with
  | some r => match r.d with | .struct fs => some fs | _ => none
  | none => none
def intK (T : Tab) (t : Nat) : Option IntKind := match T t with
  | some r => match r.d with | .int k => some k | _ => none
  | none => none
def isBoolT (T : Tab) (t : Nat) : Bool := match T t with
  | some r => match r.d with | .bool => true | _ => false
  | none => false
theorem sliceE_ok {P : Program} {T : Tab} (hT : TabOk P T) {t e : Nat} (h : sliceE T t = some e) : P.underlying t = some (.slice e) := by
  unfold sliceE at h
  cases ht : T t with
  | none => simp [ht] at h
  | some r =>
    simp only [ht] at h
    have := (hT t r ht).desc
    revert h this
    cases r.d <;> simp [DescOk]
    rintro rfl h; exact h
theorem structF_ok {P : Program} {T : Tab} (hT : TabOk P T) {t : Nat} {fs : List (Nat × Nat)} (h : structF T t = some fs) : ∃ F : Array Field, P.underlying t = some (.struct F) ∧ F.toList.map (fun f => (f.offset, f.type)) = fs := by
  unfold structF at h
  cases ht : T t with
  | none => simp [ht] at h
  | some r =>
    simp only [ht] at h
    have := (hT t r ht).desc
    revert h this
    cases r.d <;> simp [DescOk]
    rintro rfl F h1 h2; exact ⟨F, h1, h2⟩
theorem intK_ok {P : Program} {T : Tab} (hT : TabOk P T) {t : Nat} {k : IntKind} (h : intK T t = some k) : P.underlying t = some (.int k) := by
  unfold intK at h
  cases ht : T t with
  | none => simp [ht] at h
  | some r =>
    simp only [ht] at h
    have := (hT t r ht).desc
    revert h this
    cases r.d <;> simp [DescOk]
    rintro rfl h; exact h
theorem isBoolT_ok {P : Program} {T : Tab} (hT : TabOk P T) {t : Nat} (h : isBoolT T t = true) : P.underlying t = some .bool := by
  unfold isBoolT at h
  cases ht : T t with
  | none => simp [ht] at h
  | some r =>
    simp only [ht] at h
    have := (hT t r ht).desc
    revert h this
    cases r.d <;> simp [DescOk]

structure ARes where
  c : Prop
  v : LV
  s : St

def slOf : LV → Option (Nat × Nat × List LV)
  | .sl t n cs => some (t, n, cs)
  | .nil => some (0, 0, [])
  | _ => none

/-- The cells that a pointer leads to. -/
def ptrCells (st : St) : LV → Option (List LV)
  | .ep cs => some cs
  | .pt l o => match st.H l with | .box _ _ cs => some (cs.drop o) | _ => none
  | _ => none

def hdL : List LV → LV
  | [] => .dead
  | c :: _ => c

def cellsL : LV → Option (List LV)
  | .ag cs => some cs
  | .dead => none
  | .tu _ => none
  | .atom (.agg _) => none
  | .atom (.tuple _) => none
  | lv => some [lv]

def oneL : LV → Bool
  | .ag _ | .dead | .tu _ | .atom (.agg _) | .atom (.tuple _) => false
  | _ => true

/-! ### arithmetic -/
def gand (k : IntKind) (a b : Int) : Int := k.wrap (BitVec.ofInt k.bits a &&& BitVec.ofInt k.bits b).toNat
def gor (k : IntKind) (a b : Int) : Int := k.wrap (BitVec.ofInt k.bits a ||| BitVec.ofInt k.bits b).toNat
def gxor (k : IntKind) (a b : Int) : Int := k.wrap (BitVec.ofInt k.bits a ^^^ BitVec.ofInt k.bits b).toNat
def gandNot (k : IntKind) (a b : Int) : Int := k.wrap (BitVec.ofInt k.bits a &&& ~~~BitVec.ofInt k.bits b).toNat
def gshl (k : IntKind) (a b : Int) : Int := k.wrap (a * 2 ^ (min b.toNat k.bits))
def gshr (k : IntKind) (a b : Int) : Int := a.fdiv (2 ^ (min b.toNat k.bits))

def abin (op : BinOp) (k : IntKind) (a : Int) (k' : IntKind) (b : Int) : Option (Prop × Value) :=
  match op with
  | .add => some (k = k', .int k (k.wrap (a + b)))
  | .sub => some (k = k', .int k (k.wrap (a - b)))
  | .mul => some (k = k', .int k (k.wrap (a * b)))
  | .quo => some (k = k' ∧ b ≠ 0, .int k (k.wrap (a.tdiv b)))
  | .rem => some (k = k' ∧ b ≠ 0, .int k (a.tmod b))
  | .shl => some (0 ≤ b, .int k (gshl k a b))
  | .shr => some (0 ≤ b, .int k (gshr k a b))
  | .eql => some (k = k', .bool (a == b))
  | .neq => some (k = k', .bool (a != b))
  | .lss => some (k = k', .bool (decide (a < b)))
  | .leq => some (k = k', .bool (decide (a ≤ b)))
  | .gtr => some (k = k', .bool (decide (a > b)))
  | .geq => some (k = k', .bool (decide (a ≥ b)))
  | .and => some (k = k', .int k (gand k a b))
  | .or => some (k = k', .int k (gor k a b))
  | .xor => some (k = k', .int k (gxor k a b))
  | .andNot => some (k = k', .int k (gandNot k a b))

theorem abin_sound {P : Program} {w : World} {op : BinOp} {k k' : IntKind} {a b : Int} {t : TypeId} {c : Prop} {v : Value} (h : abin op k a k' b = some (c, v)) (hc : c) :
    (binOp op t (.int k a) (.int k' b)).run P w = .ok v w := by
  cases op <;> simp only [abin, Option.some.injEq, Prod.mk.injEq] at h <;> obtain ⟨rfl, rfl⟩ := h <;>
    first
    | (obtain rfl := hc; simp [binOp, Op.intArith, Op.intBits, Op.intCmp, gand, gor, gxor, gandNot])
    | (obtain ⟨rfl, hb⟩ := hc; simp [binOp, Op.intDiv, hb])
    | (have : ¬ b < 0 := by omega
       simp [binOp, Op.shift, this, gshl, gshr])

theorem eqGuard_int {P : Program} {w : World} (op : BinOp) (t : TypeId) (x y : Operand) (k k' : IntKind) (a b : Int) : (eqGuard op t x y (.int k a) (.int k' b)).run P w = .ok () w := by
  unfold eqGuard
  split <;> simp
theorem eqGuard_bool {P : Program} {w : World} (op : BinOp) (t : TypeId) (x y : Operand) (a b : Bool) : (eqGuard op t x y (.bool a) (.bool b)).run P w = .ok () w := by
  unfold eqGuard
  split <;> simp

def abinL (T : Tab) (op : BinOp) (t : TypeId) (x y : LV) (st : St) : Option ARes :=
  match x, y with
  | .atom (.int k a), .atom (.int k' b) => (abin op k a k' b).map fun r => ⟨r.1, .atom r.2, st⟩
  | .atom (.bool a), .atom (.bool b) => match op with
    | .eql => some ⟨isBoolT T t = true, .atom (.bool (a == b)), st⟩
    | .neq => some ⟨isBoolT T t = true, .atom (.bool (!(a == b))), st⟩
    | _ => none
  | _, _ => none

def aunL (op : UnOp) (x : LV) (st : St) : Option ARes :=
  match op, x with
  | .not, .atom (.bool b) => some ⟨True, .atom (.bool !b), st⟩
  | .neg, .atom (.int k n) => some ⟨True, .atom (.int k (k.wrap (0 - n))), st⟩
  | _, _ => none

/-! ### loads, addresses -/
def loadL (T : Tab) (t : TypeId) (x : LV) (st : St) : Option ARes :=
  match T t, ptrCells st x with
  | some r, some cs => if r.agg then some ⟨r.size ≤ cs.length, .ag (cs.take r.size), st⟩ else some ⟨0 < cs.length, hdL cs, st⟩
  | _, _ => none

def idxL (T : Tab) (t : TypeId) (x i : LV) (st : St) : Option ARes :=
  match sliceE T t, i with
  | some e, .atom (.int _ i) => match T e with
    | some r => match x with
      | .ms l o n => some ⟨0 ≤ i ∧ i < n, .pt l (o + i.toNat * r.size), st⟩
      | x => match slOf x with
        | some (_, n, cs) => some ⟨0 ≤ i ∧ i < n ∧ i.toNat * r.size < cs.length, .ep (cs.drop (i.toNat * r.size)), st⟩
        | none => none
    | _ => none
  | _, _ => none

def fieldAddrL (T : Tab) (t : TypeId) (x : LV) (f : Nat) (st : St) : Option ARes :=
  match structF T t with
  | some fs => match fs[f]? with
    | some (off, ty) => match T ty with
      | some r => match x with
        | .pt l o => some ⟨r.size ≠ 0, .pt l (o + off), st⟩
        | .ep cs => some ⟨r.size ≠ 0, .ep (cs.drop off), st⟩
        | _ => none
      | none => none
    | none => none
  | _ => none

def fieldL (T : Tab) (t : TypeId) (x : LV) (f : Nat) (st : St) : Option ARes :=
  match structF T t, x with
  | some fs, .ag cs => match fs[f]? with
    | some (off, ty) => match T ty with
      | some r => if r.agg then some ⟨True, .ag ((cs.drop off).take r.size), st⟩ else some ⟨off < cs.length, hdL (cs.drop off), st⟩
      | none => none
    | none => none
  | _, _ => none

def optInt : Option LV → Nat → Option Int
  | none, d => some d
  | some (.atom (.int _ i)), _ => some i
  | _, _ => none

def sliceL (T : Tab) (t : TypeId) (x : LV) (lo hi mx : Option LV) (st : St) : Option ARes :=
  match sliceE T t with
  | some e => match T e with
    | some r => match mx with
      | none => match x with
        | .ms b o n => match optInt lo 0, optInt hi n with
          | some l, some h => some ⟨0 ≤ l ∧ l ≤ h ∧ h ≤ n ∧ 0 < r.size, .ms b (o + l.toNat * r.size) (h.toNat - l.toNat), st⟩
          | _, _ => none
        | .nil => match optInt lo 0, optInt hi 0 with
          | some l, some h => some ⟨l = 0 ∧ h = 0, .nil, st⟩
          | _, _ => none
        | x => match slOf x with
          | some (_, n, cs) => match optInt lo 0, optInt hi n with
            | some l, some h => some ⟨0 ≤ l ∧ l ≤ h ∧ h ≤ n, .sl 0 (h.toNat - l.toNat) ((cs.drop (l.toNat * r.size)).take ((h.toNat - l.toNat) * r.size)), st⟩
            | _, _ => none
          | none => none
      | some (.atom (.int _ m)) => match lo, hi, slOf x with
        | none, some (.atom (.int _ h)), some _ => some ⟨m = 0 ∧ h = 0, .nil, st⟩
        | _, _, _ => none
      | _ => none
    | none => none
  | none => none

def boxL (t : TypeId) (x : LV) (st : St) : Option ARes :=
  match cellsL x with
  | some cs => some ⟨True, .pt st.next 0, st.new (.box t cs.length cs)⟩
  | none => none

def allocL (T : Tab) (t : TypeId) (st : St) : Option ARes :=
  match T t with
  | some r => some ⟨True, .pt st.next 0, st.new (.box t r.size (r.zero.map constC))⟩
  | none => none

def storeL (T : Tab) (t : TypeId) (x v : LV) (st : St) : Option ARes :=
  match T t, x, cellsL v with
  | some r, .pt l o, some ds => match st.H l with
    | .box e s cs => some ⟨ds.length = r.size ∧ o + ds.length ≤ cs.length ∧ ds.all oneL = true, .dead, st.set l (.box e s (cs.take o ++ ds ++ cs.drop (o + ds.length)))⟩
    | _ => none
  | _, _, _ => none

def fillL (place : Nat → Option (Nat × Nat)) (cells : List LV) : List (Nat × LV) → Option (List LV)
  | [] => some cells
  | (i, v) :: rest =>
    match place i, cellsL v with
    | some (off, size), some ds => if ds.length = size ∧ off + ds.length ≤ cells.length then fillL place (cells.take off ++ ds ++ cells.drop (off + ds.length)) rest else none
    | _, _ => none

def placesL (T : Tab) : List (Nat × Nat) → Option (List (Nat × Nat))
  | [] => some []
  | (off, ty) :: r => match T ty, placesL T r with
    | some q, some l => some ((off, q.size) :: l)
    | _, _ => none

def buildL (T : Tab) (t : TypeId) (parts : List (Nat × LV)) (st : St) : Option ARes :=
  match structF T t, T t with
  | some fs, some r => match placesL T fs with
    | some ps => match fillL (fun i => ps[i]?) (r.zero.map constC) parts with
      | some cs => some ⟨r.agg = true, .ag cs, st⟩
      | none => none
    | none => none
  | _, _ => none

def zerosL (z : List LV) : Nat → List LV
  | 0 => []
  | n + 1 => z ++ zerosL z n

def buildSliceL (T : Tab) (m : Bool) (t : TypeId) (len : Nat) (parts : List (Nat × LV)) (st : St) : Option ARes :=
  match sliceE T t with
  | some e => match T e with
    | some r => match fillL (fun i => some (i * r.size, r.size)) (zerosL (r.zero.map constC) len) parts with
      | some cs => if m then some ⟨len * r.size ≤ 16777216 ∧ 0 < r.size, .ms st.next 0 len, st.new (.box e r.size cs)⟩
        else some ⟨len * r.size ≤ 16777216 ∧ 0 < r.size, .sl st.next len cs, st.new (.own e r.size len)⟩
      | none => none
    | none => none
  | _ => none

def lenL (T : Tab) (t : TypeId) (x : LV) (st : St) : Option ARes :=
  match sliceE T t with
  | some _ => match x with
    | .ms _ _ n => some ⟨True, .atom (.int .i64 n), st⟩
    | x => match slOf x with
      | some (_, n, _) => some ⟨True, .atom (.int .i64 n), st⟩
      | none => none
  | none => none

def minL (x y : LV) (st : St) : Option ARes :=
  match x, y with
  | .atom (.int k a), .atom (.int _ b) => some ⟨True, .atom (.int k (if b < a then b else a)), st⟩
  | _, _ => none
def maxL (x y : LV) (st : St) : Option ARes :=
  match x, y with
  | .atom (.int k a), .atom (.int _ b) => some ⟨True, .atom (.int k (if a < b then b else a)), st⟩
  | _, _ => none

def appendL (T : Tab) (md : Bool) (t : TypeId) (s x : LV) (st : St) : Option ARes :=
  match sliceE T t, slOf x with
  | some e, some (_, m, ds) => match T e with
    | some r => match s with
      | .nil => if md then some ⟨ds.length = m * r.size ∧ ds.all oneL = true ∧ m * r.bytes ≤ 140737488355328 ∧ m ≤ maxLen ∧ 0 < r.size, .ms st.next 0 m, st.new (.box e r.size ds)⟩
        else some ⟨ds.length = m * r.size ∧ ds.all oneL = true ∧ m * r.bytes ≤ 140737488355328 ∧ m ≤ maxLen ∧ 0 < r.size, .sl st.next m ds, st.new (.own e r.size m)⟩
      | .sl q n cs => match st.H q with
        | .own e' s' n' => some ⟨e' = e ∧ s' = r.size ∧ n' = n ∧ cs.length = n * r.size ∧ q ≠ 0 ∧ ds.length = m * r.size ∧ ds.all oneL = true ∧ (n + m) * r.bytes ≤ 140737488355328 ∧ n + m ≤ maxLen ∧ 0 < r.size,
            .sl st.next (n + m) (cs ++ ds), (st.set q .dead).new (.own e r.size (n + m))⟩
        | _ => none
      | .ms l o n => match st.H l with
        | .box e' s' cs => some ⟨o = 0 ∧ e' = e ∧ s' = r.size ∧ cs.length = n * r.size ∧ ds.length = m * r.size ∧ ds.all oneL = true ∧ (n + m) * r.bytes ≤ 140737488355328 ∧ n + m ≤ maxLen ∧ 0 < r.size,
            .ms st.next 0 (n + m), (st.set l .dead).new (.box e r.size (cs ++ ds))⟩
        | _ => none
      | _ => none
    | none => none
  | _, _ => none

def capL (T : Tab) (t : TypeId) (x : LV) (st : St) : Option ARes :=
  match sliceE T t, x with
  | some _, .nil => some ⟨True, .atom (.int .i64 0), st⟩
  | _, _ => none

/-- 'append(nil, make([]T, n)...)', to be written to. -/
def appendZ (T : Tab) (t t' : TypeId) (s x : LV) (st : St) : Option ARes :=
  match sliceE T t, intK T t' with
  | some e, some _ => match T e with
    | some r => match s, x with
      | .nil, .atom (.int _ n) => some ⟨0 < n ∧ n * r.bytes ≤ 140737488355328 ∧ n ≤ 9223372036854775807 ∧ 0 < r.size, .ms st.next 0 n.toNat, st.new (.box e r.size (zerosL (r.zero.map constC) n.toNat))⟩
      | _, _ => none
    | none => none
  | _, _ => none

def clearL (T : Tab) (t : TypeId) (x : LV) (st : St) : Option ARes :=
  match sliceE T t, x with
  | some e, .ms l o n => match T e, st.H l with
    | some r, .box e' s cs => some ⟨o + n * r.size ≤ cs.length ∧ 0 < r.size, .tu [], st.set l (.box e' s (cs.take o ++ zerosL (r.zero.map constC) n ++ cs.drop (o + n * r.size)))⟩
    | _, _ => none
  | _, _ => none

def callL (T : Tab) (m : Bool) (c : Call) (fr : Frm) (st : St) : Option ARes :=
  match c.callee, c.args.toList, c.argTypes.toList with
  | .builtin .len, [x], t :: _ => lenL T t (evalL fr x) st
  | .builtin .min, [x, y], _ => minL (evalL fr x) (evalL fr y) st
  | .builtin .max, [x, y], _ => maxL (evalL fr x) (evalL fr y) st
  | .builtin .append, [s, x], [t, t'] => if t = t' then appendL T m t (evalL fr s) (evalL fr x) st else appendZ T t t' (evalL fr s) (evalL fr x) st
  | .builtin .cap, [x], t :: _ => capL T t (evalL fr x) st
  | .builtin .clear, [x], [t] => clearL T t (evalL fr x) st
  | _, _, _ => none

def aop (T : Tab) (m : Bool) (o : Oper) (fr : Frm) (st : St) : Option ARes :=
  match o.op with
  | .move x | .assign x => some ⟨True, evalL fr x, st⟩
  | .pick c a b => match evalL fr c with
    | .atom (.bool t) => some ⟨True, if t then evalL fr a else evalL fr b, st⟩
    | _ => none
  | .binOp op t x y _ => abinL T op t (evalL fr x) (evalL fr y) st
  | .unOp op _ x => aunL op (evalL fr x) st
  | .convert s d x => match intK T s, intK T d, evalL fr x with
    | some _, some k, .atom (.int _ n) => some ⟨True, .atom (.int k (k.wrap n)), st⟩
    | _, _, _ => none
  | .load t x => loadL T t (evalL fr x) st
  | .store t x v => storeL T t (evalL fr x) (evalL fr v) st
  | .indexAddr t x i => idxL T t (evalL fr x) (evalL fr i) st
  | .fieldAddr t x f => fieldAddrL T t (evalL fr x) f st
  | .field t x f => fieldL T t (evalL fr x) f st
  | .slice t x lo hi mx => sliceL T t (evalL fr x) (lo.map (evalL fr)) (hi.map (evalL fr)) (mx.map (evalL fr)) st
  | .box t x => boxL t (evalL fr x) st
  | .alloc t => allocL T t st
  | .build t ps => buildL T t (ps.toList.map fun p => (p.1, evalL fr p.2)) st
  | .buildSlice t n ps => buildSliceL T m t n (ps.toList.map fun p => (p.1, evalL fr p.2)) st
  | .makeFunc f first caps => if first.isEmpty then some ⟨True, .fn f (caps.toList.map (evalL fr)), st⟩ else none
  | .extract x i => match evalL fr x with
    | .tu vs => match vs[i]? with | some v => some ⟨True, v, st⟩ | none => none
    | _ => none
  | .nilCheck x => match evalL fr x with
    | .pt l o => some ⟨True, .pt l o, st⟩
    | _ => none
  | .call c => callL T m c fr st
  | _ => none

/-- Operations that leave memory alone. -/
def quietOp : Op → Bool
  | .move _ | .assign _ | .pick .. | .binOp .. | .unOp .. | .convert .. | .load .. | .indexAddr .. | .fieldAddr .. | .field .. | .slice .. | .extract .. | .nilCheck _ | .makeFunc .. => true
  | .call { callee := .builtin .len, .. } | .call { callee := .builtin .min, .. } | .call { callee := .builtin .max, .. } => true
  | _ => false

end Go.Proofs.Ytphdhggoaijfoaa.Aw
