/- What each operation does to logical values; that memory follows it. No program is named here: types come in by a table. -/
import Derived.Test.YtjkmgimedkomkaaGreatAwMem
import Derived.Laws.IdiomCopy
import Derived.Laws.BytesString
import Derived.Laws.Slices
namespace Go.Proofs.YtjkmgimedkomkaaGreat.Aw
open Go Go.RowKit
set_option linter.unusedSimpArgs false
set_option linter.unusedVariables false

inductive TD where
  | int (k : IntKind)
  | bool
  | str
  | slice (e : Nat)
  | struct (fs : List (Nat × Nat))
  | map (k e : Nat)
  | ptr (e : Nat)
  | arr (n e : Nat)
  | func
  | other

structure TRow where
  agg : Bool
  size : Nat
  bytes : Nat
  zero : List Value
  d : TD
  ck : Option (List IntKind) := none
  zz : Bool := false

def TRow.zeroV (r : TRow) : Value := if r.agg then .agg r.zero.toArray else r.zero.headD undef

def DescOk (P : Program) (t : Nat) : TD → Prop
  | .int k => P.underlying t = some (.int k)
  | .bool => P.underlying t = some .bool
  | .str => P.underlying t = some .string
  | .slice e => P.underlying t = some (.slice e)
  | .struct fs => ∃ F : Array Field, P.underlying t = some (.struct F) ∧ F.toList.map (fun f => (f.offset, f.type)) = fs
  | .map k e => P.underlying t = some (.map k e)
  | .ptr e => P.underlying t = some (.pointer e)
  | .arr n e => P.underlying t = some (.array n e)
  | .func => ∃ a b c, P.underlying t = some (.func a b c)
  | .other => True

/-- Values of this type are told apart by their cells' numbers. -/
structure EqOk (P : Program) (t : Nat) (ag : Bool) (ks : List IntKind) : Prop where
  eq : ∀ (w : World) (xs1 bs : List Int), xs1.length = ks.length → bs.length = ks.length → (Op.equal t (mkV ag ks xs1) (mkV ag ks bs)).run P w = .ok (xs1 == bs) w
  chk : ∀ (w : World) (em : Bool) (xs1 : List Int), xs1.length = ks.length → (Instr.checkKey em 10000 t (mkV ag ks xs1)).run P w = .ok () w
  guard : ag = true → P.eqGuardType P.depth t = false
  one : ag = false → ks.length = 1
  now : ∃ d, P.underlying t = some d ∧ ((∀ xs1 bs : List Int, xs1.length = ks.length → bs.length = ks.length → Instr.sameNow d (mkV ag ks xs1) (mkV ag ks bs) = some (xs1 == bs)) ∨
    (∀ xs1 bs : List Int, xs1.length = ks.length → bs.length = ks.length → Instr.sameNow d (mkV ag ks xs1) (mkV ag ks bs) = none))

structure RowOk (P : Program) (t : Nat) (r : TRow) : Prop where
  agg : ∀ w, (isAgg t).run P w = .ok r.agg w
  info : ∃ i, P.info? t = some i ∧ i.size = r.size ∧ i.bytes = r.bytes ∧ i.zero = some r.zeroV
  zl : r.zero.length = r.size
  one : r.agg = false → r.size = 1
  zone : r.zero.all Value.oneCell' = true
  desc : DescOk P t r.d
  eqk : ∀ ks, r.ck = some ks → EqOk P t r.agg ks
  zzk : r.zz = true → r.agg = true ∧ P.eqGuardType P.depth t = false ∧ ∀ w, (Op.equal t (.agg r.zero.toArray) (.agg r.zero.toArray)).run P w = .ok true w

abbrev Tab := Nat → Option TRow
def TabOk (P : Program) (T : Tab) : Prop := ∀ t r, T t = some r → RowOk P t r

def lookT : List (Nat × TRow) → Tab
  | [], _ => none
  | p :: l, t => if t = p.1 then some p.2 else lookT l t
def AllT (P : Program) : List (Nat × TRow) → Prop
  | [] => True
  | p :: l => RowOk P p.1 p.2 ∧ AllT P l
theorem tabOk_of {P : Program} : ∀ (l : List (Nat × TRow)), AllT P l → TabOk P (lookT l)
  | [], _, t, r, h => by simp [lookT] at h
  | p :: l, ha, t, r, h => by
    simp only [lookT] at h
    split at h
    · rename_i hf
      injection h with h
      subst hf h
      exact ha.1
    · exact tabOk_of l ha.2 t r h

theorem RowOk.sizeOf {P : Program} {t : Nat} {r : TRow} (h : RowOk P t r) (w : World) : (Go.sizeOf t).run P w = .ok r.size w := by
  obtain ⟨i, hi, hs, _, _⟩ := h.info
  simp [Go.sizeOf, typeInfo, hi, hs]
theorem RowOk.zeroValue {P : Program} {t : Nat} {r : TRow} (h : RowOk P t r) (w : World) : (Go.zeroValue t).run P w = .ok r.zeroV w := by
  obtain ⟨i, hi, _, _, hz⟩ := h.info
  simp [Go.zeroValue, typeInfo, hi, hz]

def sliceE (T : Tab) (t : Nat) : Option Nat := match T t with
  | some r => match r.d with | .slice e => some e | _ => none
  | none => none
def structF (T : Tab) (t : Nat) : Option (List (Nat × Nat)) := match T t with
  | some r => match r.d with | .struct fs => some fs | _ => none
  | none => none
def intK (T : Tab) (t : Nat) : Option IntKind := match T t with
  | some r => match r.d with | .int k => some k | _ => none
  | none => none
def isBoolT (T : Tab) (t : Nat) : Bool := match T t with
  | some r => match r.d with | .bool => true | _ => false
  | none => false
theorem sliceE_ok {P : Program} {T : Tab} (hT : TabOk P T) {t e : Nat} (h : sliceE T t = some e) : P.underlying t = some (.slice e) := by
  unfold sliceE at h
  cases ht : T t with
  | none => simp [ht] at h
  | some r =>
    simp only [ht] at h
    have := (hT t r ht).desc
    revert h this
    cases r.d <;> simp [DescOk]
    rintro rfl h; exact h
theorem structF_ok {P : Program} {T : Tab} (hT : TabOk P T) {t : Nat} {fs : List (Nat × Nat)} (h : structF T t = some fs) : ∃ F : Array Field, P.underlying t = some (.struct F) ∧ F.toList.map (fun f => (f.offset, f.type)) = fs := by
  unfold structF at h
  cases ht : T t with
  | none => simp [ht] at h
  | some r =>
    simp only [ht] at h
    have := (hT t r ht).desc
    revert h this
    cases r.d <;> simp [DescOk]
    rintro rfl F h1 h2; exact ⟨F, h1, h2⟩
theorem intK_ok {P : Program} {T : Tab} (hT : TabOk P T) {t : Nat} {k : IntKind} (h : intK T t = some k) : P.underlying t = some (.int k) := by
  unfold intK at h
  cases ht : T t with
  | none => simp [ht] at h
  | some r =>
    simp only [ht] at h
    have := (hT t r ht).desc
    revert h this
    cases r.d <;> simp [DescOk]
    rintro rfl h; exact h
theorem isBoolT_ok {P : Program} {T : Tab} (hT : TabOk P T) {t : Nat} (h : isBoolT T t = true) : P.underlying t = some .bool := by
  unfold isBoolT at h
  cases ht : T t with
  | none => simp [ht] at h
  | some r =>
    simp only [ht] at h
    have := (hT t r ht).desc
    revert h this
    cases r.d <;> simp [DescOk]

structure ARes where
  c : Prop
  v : LV
  s : St
  [d : Decidable c]

structure AB where
  c : Prop
  v : Value
  [d : Decidable c]

def slOf : LV → Option (Nat × Nat × List LV)
  | .sl t n cs => some (t, n, cs)
  | .nil => some (0, 0, [])
  | .emp => some (0, 0, [])
  | .qu _ _ n cs => some (0, n, cs)
  | _ => none

/-- The cells that a pointer leads to. -/
def ptrCells (st : St) : LV → Option (List LV)
  | .ep cs => some cs
  | .pe _ cs => some cs
  | .pt l o => match st.H l with | .box _ _ cs => some (cs.drop o) | _ => none
  | _ => none

def hdL : List LV → LV
  | [] => .dead
  | c :: _ => c

def cellsL : LV → Option (List LV)
  | .ag cs => some cs
  | .dead => none
  | .tu _ => none
  | .atom (.agg _) => none
  | .atom (.tuple _) => none
  | lv => some [lv]

def oneL : LV → Bool
  | .ag _ | .dead | .tu _ | .atom (.agg _) | .atom (.tuple _) => false
  | _ => true

def mapKE (T : Tab) (t : Nat) : Option (Nat × Nat) := match T t with
  | some r => match r.d with | .map k e => some (k, e) | _ => none
  | none => none
theorem mapKE_ok {P : Program} {T : Tab} (hT : TabOk P T) {t k e : Nat} (h : mapKE T t = some (k, e)) : P.underlying t = some (.map k e) := by
  unfold mapKE at h
  cases ht : T t with
  | none => simp [ht] at h
  | some r =>
    simp only [ht] at h
    have := (hT t r ht).desc
    revert h this
    cases r.d <;> simp [DescOk]
    rintro rfl rfl h; exact h

/-- A list of cells that are numbers. -/
def intsL : List LV → Option (List IntKind × List Int)
  | [] => some ([], [])
  | .atom (.int k n) :: cs => match intsL cs with
    | some (ks, ns) => some (k :: ks, n :: ns)
    | none => none
  | _ => none
/-- A key. -/
def keyL : LV → Option (Bool × List IntKind × List Int)
  | .atom (.int k n) => some (false, [k], [n])
  | .ag cs => match intsL cs with
    | some (ks, ns) => some (true, ks, ns)
    | none => none
  | _ => none
def mget (es : List (List Int × LV)) (xs1 : List Int) : Option LV := match es with
  | [] => none
  | p :: es => if xs1 == p.1 then some p.2 else mget es xs1
def mset (es : List (List Int × LV)) (xs1 : List Int) (v : LV) : List (List Int × LV) := match es with
  | [] => [(xs1, v)]
  | p :: es => if xs1 == p.1 then (xs1, v) :: es else p :: mset es xs1 v
def zeroL (r : TRow) : LV := if r.agg then .ag (r.zero.map constC) else hdL (r.zero.map constC)

/-! ### arithmetic -/
def gand (k : IntKind) (a b : Int) : Int := k.wrap (BitVec.ofInt k.bits a &&& BitVec.ofInt k.bits b).toNat
def gor (k : IntKind) (a b : Int) : Int := k.wrap (BitVec.ofInt k.bits a ||| BitVec.ofInt k.bits b).toNat
def gxor (k : IntKind) (a b : Int) : Int := k.wrap (BitVec.ofInt k.bits a ^^^ BitVec.ofInt k.bits b).toNat
def gandNot (k : IntKind) (a b : Int) : Int := k.wrap (BitVec.ofInt k.bits a &&& ~~~BitVec.ofInt k.bits b).toNat
def gshl (k : IntKind) (a b : Int) : Int := k.wrap (a * 2 ^ (min b.toNat k.bits))
def gshr (k : IntKind) (a b : Int) : Int := a.fdiv (2 ^ (min b.toNat k.bits))

def abin (op : BinOp) (k : IntKind) (a : Int) (k' : IntKind) (b : Int) : Option AB :=
  match op with
  | .add => some ⟨k = k', .int k (k.wrap (a + b))⟩
  | .sub => some ⟨k = k', .int k (k.wrap (a - b))⟩
  | .mul => some ⟨k = k', .int k (k.wrap (a * b))⟩
  | .quo => some ⟨k = k' ∧ b ≠ 0, .int k (k.wrap (a.tdiv b))⟩
  | .rem => some ⟨k = k' ∧ b ≠ 0, .int k (a.tmod b)⟩
  | .shl => some ⟨0 ≤ b, .int k (gshl k a b)⟩
  | .shr => some ⟨0 ≤ b, .int k (gshr k a b)⟩
  | .eql => some ⟨k = k', .bool (a == b)⟩
  | .neq => some ⟨k = k', .bool (a != b)⟩
  | .lss => some ⟨k = k', .bool (decide (a < b))⟩
  | .leq => some ⟨k = k', .bool (decide (a ≤ b))⟩
  | .gtr => some ⟨k = k', .bool (decide (a > b))⟩
  | .geq => some ⟨k = k', .bool (decide (a ≥ b))⟩
  | .and => some ⟨k = k', .int k (gand k a b)⟩
  | .or => some ⟨k = k', .int k (gor k a b)⟩
  | .xor => some ⟨k = k', .int k (gxor k a b)⟩
  | .andNot => some ⟨k = k', .int k (gandNot k a b)⟩

theorem abin_sound {P : Program} {w : World} {op : BinOp} {k k' : IntKind} {a b : Int} {t : TypeId} {r : AB} (h : abin op k a k' b = some r) (hc : r.c) :
    (binOp op t (.int k a) (.int k' b)).run P w = .ok r.v w := by
  cases op <;> simp only [abin, Option.some.injEq] at h <;> subst h <;>
    first
    | (obtain rfl := hc; simp [binOp, Op.intArith, Op.intBits, Op.intCmp, gand, gor, gxor, gandNot])
    | (obtain ⟨rfl, hb⟩ := hc; simp [binOp, Op.intDiv, hb])
    | (have : ¬ b < 0 := by simp only at hc; omega
       simp [binOp, Op.shift, this, gshl, gshr])

theorem eqGuard_int {P : Program} {w : World} (op : BinOp) (t : TypeId) (x y : Operand) (k k' : IntKind) (a b : Int) : (eqGuard op t x y (.int k a) (.int k' b)).run P w = .ok () w := by
  unfold eqGuard
  split <;> simp
theorem eqGuard_bool {P : Program} {w : World} (op : BinOp) (t : TypeId) (x y : Operand) (a b : Bool) : (eqGuard op t x y (.bool a) (.bool b)).run P w = .ok () w := by
  unfold eqGuard
  split <;> simp

def isPtr (T : Tab) (t : TypeId) : Bool := match T t with
  | some r => match r.d with | .ptr _ => true | _ => false
  | none => false
theorem isPtr_ok {P : Program} {T : Tab} (hT : TabOk P T) {t : Nat} (h : isPtr T t = true) : ∃ e, P.underlying t = some (.pointer e) := by
  unfold isPtr at h
  cases ht : T t with
  | none => simp [ht] at h
  | some r =>
    simp only [ht] at h
    have := (hT t r ht).desc
    revert h this
    cases r.d <;> simp [DescOk]
    exact fun h => ⟨_, h⟩
def isFn (T : Tab) (t : TypeId) : Bool := match T t with
  | some r => match r.d with | .func => true | _ => false
  | none => false
theorem isFn_ok {P : Program} {T : Tab} (hT : TabOk P T) {t : Nat} (h : isFn T t = true) : ∃ a b c, P.underlying t = some (.func a b c) := by
  unfold isFn at h
  cases ht : T t with
  | none => simp [ht] at h
  | some r =>
    simp only [ht] at h
    have := (hT t r ht).desc
    revert h this
    cases r.d <;> simp [DescOk]
def isMapT (T : Tab) (t : TypeId) : Bool := match T t with
  | some r => match r.d with | .map _ _ => true | _ => false
  | none => false
theorem isMapT_ok {P : Program} {T : Tab} (hT : TabOk P T) {t : Nat} (h : isMapT T t = true) : ∃ k e, P.underlying t = some (.map k e) := by
  unfold isMapT at h
  cases ht : T t with
  | none => simp [ht] at h
  | some r =>
    simp only [ht] at h
    have := (hT t r ht).desc
    revert h this
    cases r.d <;> simp [DescOk]
    exact fun h => ⟨_, _, h⟩
/-- A function held against nil: is it nil? -/
def nilFn : LV → Option Bool
  | .fn _ _ => some false
  | .atom .nilFunc => some true
  | _ => none
/-- A map held against nil: is it nil? -/
def nilMap : LV → Option Bool
  | .mp _ => some false
  | .atom (.map none) => some true
  | _ => none
/-- A pointer held against nil: is it nil? -/
def nilPtr : LV → Option Bool
  | .pt _ _ => some false
  | .ep _ => some false
  | .pe _ _ => some false
  | .atom (.pointer none) => some true
  | _ => none

def abinL (T : Tab) (op : BinOp) (t : TypeId) (x y : LV) (st : St) : Option ARes :=
  match x, y with
  | .atom (.int k a), .atom (.int k' b) => (abin op k a k' b).map fun r => @ARes.mk r.c (.atom r.v) st r.d
  | .atom (.bool a), .atom (.bool b) => match op with
    | .eql => some ⟨isBoolT T t = true, .atom (.bool (a == b)), st⟩
    | .neq => some ⟨isBoolT T t = true, .atom (.bool (!(a == b))), st⟩
    | _ => none
  | .ag xs, .ag ys => match T t, intsL xs, intsL ys with
    | some r, some (ks, xs1), some (ks', bs) => match op with
      | .eql => some ⟨r.ck = some ks ∧ ks' = ks ∧ r.agg = true, .atom (.bool (xs1 == bs)), st⟩
      | .neq => some ⟨r.ck = some ks ∧ ks' = ks ∧ r.agg = true, .atom (.bool (!(xs1 == bs))), st⟩
      | _ => none
    | _, _, _ => none
  | .nil, .nil => match op with
    | .eql => some ⟨(sliceE T t).isSome = true, .atom (.bool true), st⟩
    | .neq => some ⟨(sliceE T t).isSome = true, .atom (.bool false), st⟩
    | _ => none
  | x, .atom (.map none) => match nilMap x, op with
    | some b, .eql => some ⟨isMapT T t = true, .atom (.bool b), st⟩
    | some b, .neq => some ⟨isMapT T t = true, .atom (.bool (!b)), st⟩
    | _, _ => none
  | x, .atom (.pointer none) => match nilPtr x, op with
    | some b, .eql => some ⟨isPtr T t = true, .atom (.bool b), st⟩
    | some b, .neq => some ⟨isPtr T t = true, .atom (.bool (!b)), st⟩
    | _, _ => none
  | x, .atom .nilFunc => match nilFn x, op with
    | some b, .eql => some ⟨isFn T t = true, .atom (.bool b), st⟩
    | some b, .neq => some ⟨isFn T t = true, .atom (.bool (!b)), st⟩
    | _, _ => none
  | _, _ => none

def aunL (op : UnOp) (x : LV) (st : St) : Option ARes :=
  match op, x with
  | .not, .atom (.bool b) => some ⟨True, .atom (.bool !b), st⟩
  | .neg, .atom (.int k n) => some ⟨True, .atom (.int k (k.wrap (0 - n))), st⟩
  | _, _ => none

/-! ### loads, addresses -/
def loadL (T : Tab) (t : TypeId) (x : LV) (st : St) : Option ARes :=
  match T t, ptrCells st x with
  | some r, some cs => if r.agg then some ⟨r.size ≤ cs.length, .ag (cs.take r.size), st⟩ else some ⟨0 < cs.length, hdL cs, st⟩
  | _, _ => none

def idxL (T : Tab) (t : TypeId) (x i : LV) (st : St) : Option ARes :=
  match sliceE T t, i with
  | some e, .atom (.int _ i) => match T e with
    | some r => match x with
      | .ms l o n => some ⟨0 ≤ i ∧ i < n, .pt l (o + i.toNat * r.size), st⟩
      | x => match slOf x with
        | some (_, n, cs) => some ⟨0 ≤ i ∧ i < n ∧ i.toNat * r.size < cs.length, .ep (cs.drop (i.toNat * r.size)), st⟩
        | none => none
    | _ => none
  | _, _ => none

def fieldAddrL (T : Tab) (t : TypeId) (x : LV) (f : Nat) (st : St) : Option ARes :=
  match structF T t with
  | some fs => match fs[f]? with
    | some (off, ty) => match T ty with
      | some r => match x with
        | .pt l o => some ⟨r.size ≠ 0, .pt l (o + off), st⟩
        | .ep cs => some ⟨r.size ≠ 0, .ep (cs.drop off), st⟩
        | .pe _ cs => some ⟨r.size ≠ 0, .ep (cs.drop off), st⟩
        | _ => none
      | none => none
    | none => none
  | _ => none

def fieldL (T : Tab) (t : TypeId) (x : LV) (f : Nat) (st : St) : Option ARes :=
  match structF T t, x with
  | some fs, .ag cs => match fs[f]? with
    | some (off, ty) => match T ty with
      | some r => if r.agg then some ⟨True, .ag ((cs.drop off).take r.size), st⟩ else some ⟨off < cs.length, hdL (cs.drop off), st⟩
      | none => none
    | none => none
  | _, _ => none

def optInt : Option LV → Nat → Option Int
  | none, d => some d
  | some (.atom (.int _ i)), _ => some i
  | _, _ => none

def sliceL (T : Tab) (t : TypeId) (x : LV) (lo hi mx : Option LV) (st : St) : Option ARes :=
  match sliceE T t with
  | some e => match T e with
    | some r => match mx with
      | none => match x with
        | .ms b o n => match optInt lo 0, optInt hi n with
          | some l, some h => some ⟨0 ≤ l ∧ l ≤ h ∧ h ≤ n ∧ 0 < r.size, .ms b (o + l.toNat * r.size) (h.toNat - l.toNat), st⟩
          | _, _ => none
        | .kap b n c => match optInt lo 0, optInt hi n with
          | some l, some h => some ⟨0 ≤ l ∧ l ≤ h ∧ h ≤ c ∧ 0 < r.size, if lo.isNone then .kap b h.toNat c else .ms b (l.toNat * r.size) (h.toNat - l.toNat), st⟩
          | _, _ => none
        | .nil => match optInt lo 0, optInt hi 0 with
          | some l, some h => some ⟨l = 0 ∧ h = 0, .nil, st⟩
          | _, _ => none
        | .qu t o n cs => match optInt lo 0, optInt hi n with
          | some l, some h => some ⟨0 ≤ l ∧ l ≤ h ∧ h ≤ n ∧ r.size = 1, .qu t (o + l.toNat) (h.toNat - l.toNat) ((cs.drop l.toNat).take (h.toNat - l.toNat)), st⟩
          | _, _ => none
        | x => match slOf x with
          | some (_, n, cs) => match optInt lo 0, optInt hi n with
            | some l, some h => some ⟨0 ≤ l ∧ l ≤ h ∧ h ≤ n, .sl 0 (h.toNat - l.toNat) ((cs.drop (l.toNat * r.size)).take ((h.toNat - l.toNat) * r.size)), st⟩
            | _, _ => none
          | none => none
      | some (.atom (.int _ m)) => match lo, hi, slOf x with
        | none, some (.atom (.int _ h)), some _ => some ⟨m = 0 ∧ h = 0, .emp, st⟩
        | some (.atom (.int _ l)), some (.atom (.int _ h)), none => match x with
          | .ms _ _ n => some ⟨0 ≤ l ∧ l ≤ h ∧ h ≤ m ∧ m ≤ n, .dead, st⟩
          | .kap _ _ c => some ⟨0 ≤ l ∧ l ≤ h ∧ h ≤ m ∧ m ≤ c, .dead, st⟩
          | _ => none
        | _, _, _ => none
      | _ => none
    | none => none
  | none => none

def boxL (t : TypeId) (x : LV) (st : St) : Option ARes :=
  match cellsL x with
  | some cs => some ⟨True, .pt st.next 0, st.new (.box t cs.length cs)⟩
  | none => none

def allocL (T : Tab) (t : TypeId) (st : St) : Option ARes :=
  match T t with
  | some r => some ⟨True, .pt st.next 0, st.new (.box t r.size (r.zero.map constC))⟩
  | none => none

def storeL (T : Tab) (t : TypeId) (x v : LV) (st : St) : Option ARes :=
  match T t, x, cellsL v with
  | some r, .pt l o, some ds => match st.H l with
    | .box e s cs => some ⟨ds.length = r.size ∧ o + ds.length ≤ cs.length ∧ ds.all oneL = true, .dead, st.set l (.box e s (cs.take o ++ ds ++ cs.drop (o + ds.length)))⟩
    | _ => none
  | _, _, _ => none

def fillL (place : Nat → Option (Nat × Nat)) (cells : List LV) : List (Nat × LV) → Option (List LV)
  | [] => some cells
  | (i, v) :: rest =>
    match place i, cellsL v with
    | some (off, size), some ds => if ds.length = size ∧ off + ds.length ≤ cells.length then fillL place (cells.take off ++ ds ++ cells.drop (off + ds.length)) rest else none
    | _, _ => none

def placesL (T : Tab) : List (Nat × Nat) → Option (List (Nat × Nat))
  | [] => some []
  | (off, ty) :: r => match T ty, placesL T r with
    | some q, some l => some ((off, q.size) :: l)
    | _, _ => none

def arrE (T : Tab) (t : Nat) : Option Nat := match T t with
  | some r => match r.d with | .arr _ e => some e | _ => none
  | none => none
theorem arrE_ok {P : Program} {T : Tab} (hT : TabOk P T) {t e : Nat} (h : arrE T t = some e) : ∃ n, P.underlying t = some (.array n e) := by
  unfold arrE at h
  cases ht : T t with
  | none => simp [ht] at h
  | some r =>
    simp only [ht] at h
    have := (hT t r ht).desc
    revert h this
    cases r.d <;> simp [DescOk]
    rintro rfl h; exact ⟨_, h⟩

def buildL (T : Tab) (t : TypeId) (parts : List (Nat × LV)) (st : St) : Option ARes :=
  match structF T t, T t with
  | some fs, some r => match placesL T fs with
    | some ps => match fillL (fun i => ps[i]?) (r.zero.map constC) parts with
      | some cs => some ⟨r.agg = true, .ag cs, st⟩
      | none => none
    | none => none
  | none, some r => match arrE T t with
    | some e => match T e with
      | some re => match fillL (fun i => some (i * re.size, re.size)) (r.zero.map constC) parts with
        | some cs => some ⟨r.agg = true, .ag cs, st⟩
        | none => none
      | none => none
    | none => none
  | _, _ => none

def zerosL (z : List LV) : Nat → List LV
  | 0 => []
  | n + 1 => z ++ zerosL z n

def buildSliceL (T : Tab) (m : Bool) (t : TypeId) (len : Nat) (parts : List (Nat × LV)) (st : St) : Option ARes :=
  match sliceE T t with
  | some e => match T e with
    | some r => match fillL (fun i => some (i * r.size, r.size)) (zerosL (r.zero.map constC) len) parts with
      | some cs => if m then some ⟨len * r.size ≤ 16777216 ∧ 0 < r.size, .ms st.next 0 len, st.new (.box e r.size cs)⟩
        else some ⟨len * r.size ≤ 16777216 ∧ 0 < r.size, .sl st.next len cs, st.new (.own e r.size len)⟩
      | none => none
    | none => none
  | _ => none

def isStr (T : Tab) (t : TypeId) : Bool := match T t with
  | some r => match r.d with | .str => true | _ => false
  | none => false
theorem isStr_ok {P : Program} {T : Tab} (hT : TabOk P T) {t : Nat} (h : isStr T t = true) : P.underlying t = some .string := by
  unfold isStr at h
  cases ht : T t with
  | none => simp [ht] at h
  | some r =>
    simp only [ht] at h
    have := (hT t r ht).desc
    revert h this
    cases r.d <;> simp [DescOk]
def indexL (T : Tab) (t : TypeId) (x i : LV) (st : St) : Option ARes :=
  match x, i with
  | .atom (.string s), .atom (.int _ i) => some ⟨isStr T t = true ∧ 0 ≤ i ∧ (s[i.toNat]?).isSome = true, .atom (.int .u8 ((s[i.toNat]?).getD 0).toNat), st⟩
  | _, _ => none

def lookupL (T : Tab) (t : TypeId) (x i : LV) (ok : Bool) (st : St) : Option ARes :=
  match mapKE T t with
  | some (k, e) => match T k, T e, keyL i with
    | some rk, some re, some (ag, ks, xs1) => match x with
      | .mp l => match st.H l with
        | .map ag' ks' es => some ⟨rk.ck = some ks ∧ rk.agg = ag ∧ ag' = ag ∧ ks' = ks, if ok then .tu [(mget es xs1).getD (zeroL re), .atom (.bool (mget es xs1).isSome)] else (mget es xs1).getD (zeroL re), st⟩
        | _ => none
      | .atom (.map none) => some ⟨rk.ck = some ks ∧ rk.agg = ag, if ok then .tu [zeroL re, .atom (.bool false)] else zeroL re, st⟩
      | _ => none
    | _, _, _ => none
  | none => none

def mapUpdL (T : Tab) (t : TypeId) (x i v : LV) (st : St) : Option ARes :=
  match mapKE T t with
  | some (k, _) => match T k, keyL i with
    | some rk, some (ag, ks, xs1) => match x with
      | .mp l => match st.H l with
        | .map ag' ks' es => some ⟨rk.ck = some ks ∧ rk.agg = ag ∧ ag' = ag ∧ ks' = ks, .dead, st.set l (.map ag ks (mset es xs1 v))⟩
        | _ => none
      | _ => none
    | _, _ => none
  | none => none

def makeMapL (T : Tab) (t : TypeId) (rs : Option LV) (st : St) : Option ARes :=
  match mapKE T t with
  | some (k, _) => match T k with
    | some rk => match rk.ck with
      | some ks => match rs with
        | none => some ⟨True, .mp st.next, st.new (.map rk.agg ks [])⟩
        | some (.atom (.int _ _)) => some ⟨True, .mp st.next, st.new (.map rk.agg ks [])⟩
        | _ => none
      | none => none
    | none => none
  | none => none

def lenL (T : Tab) (t : TypeId) (x : LV) (st : St) : Option ARes :=
  match sliceE T t with
  | some _ => match x with
    | .ms _ _ n => some ⟨True, .atom (.int .i64 n), st⟩
    | .kap _ n _ => some ⟨True, .atom (.int .i64 n), st⟩
    | x => match slOf x with
      | some (_, n, _) => some ⟨True, .atom (.int .i64 n), st⟩
      | none => none
  | none => none

def lenM (T : Tab) (t : TypeId) (x : LV) (st : St) : Option ARes :=
  match mapKE T t, x with
  | some _, .mp l => match st.H l with
    | .map _ _ es => some ⟨True, .atom (.int .i64 es.length), st⟩
    | _ => none
  | _, _ => none

def minL (x y : LV) (st : St) : Option ARes :=
  match x, y with
  | .atom (.int k a), .atom (.int _ b) => some ⟨True, .atom (.int k (if b < a then b else a)), st⟩
  | _, _ => none
def maxL (x y : LV) (st : St) : Option ARes :=
  match x, y with
  | .atom (.int k a), .atom (.int _ b) => some ⟨True, .atom (.int k (if a < b then b else a)), st⟩
  | _, _ => none

/-- What is read of a slice that is appended. -/
def srcT (T : Tab) (t : TypeId) (st : St) (x : LV) : Option (Nat × List LV) :=
  match x with
  | .ms l o n => match sliceE T t with
    | some e => match T e with
      | some r => match st.H l with
        | .box _ _ cs => some (n, (cs.drop o).take (n * r.size))
        | _ => none
      | none => none
    | none => none
  | x => (slOf x).map fun p => (p.2.1, p.2.2)

def appendL (T : Tab) (md : Bool) (t : TypeId) (s x : LV) (st : St) : Option ARes :=
  match sliceE T t, srcT T t st x with
  | some e, some (m, ds) => match T e with
    | some r => match s with
      | .nil => if md then some ⟨ds.length = m * r.size ∧ ds.all oneL = true ∧ m * r.bytes ≤ 140737488355328 ∧ m ≤ maxLen ∧ 0 < r.size, .ms st.next 0 m, st.new (.box e r.size ds)⟩
        else some ⟨ds.length = m * r.size ∧ ds.all oneL = true ∧ m * r.bytes ≤ 140737488355328 ∧ m ≤ maxLen ∧ 0 < r.size, .sl st.next m ds, st.new (.own e r.size m)⟩
      | .emp => if md then some ⟨ds.length = m * r.size ∧ ds.all oneL = true ∧ m * r.bytes ≤ 140737488355328 ∧ m ≤ maxLen ∧ 0 < r.size, .ms st.next 0 m, st.new (.box e r.size ds)⟩
        else some ⟨ds.length = m * r.size ∧ ds.all oneL = true ∧ m * r.bytes ≤ 140737488355328 ∧ m ≤ maxLen ∧ 0 < r.size, .sl st.next m ds, st.new (.own e r.size m)⟩
      | .sl q n cs => match st.H q with
        | .own e' s' n' => some ⟨e' = e ∧ s' = r.size ∧ n' = n ∧ cs.length = n * r.size ∧ q ≠ 0 ∧ ds.length = m * r.size ∧ ds.all oneL = true ∧ (n + m) * r.bytes ≤ 140737488355328 ∧ n + m ≤ maxLen ∧ 0 < r.size,
            .sl st.next (n + m) (cs ++ ds), (st.set q .dead).new (.own e r.size (n + m))⟩
        | _ => none
      | .kap l n _ => match st.H l with
        | .box e' s' cs => some ⟨e' = e ∧ s' = r.size ∧ n * r.size ≤ cs.length ∧ ds.length = m * r.size ∧ ds.all oneL = true ∧ (n + m) * r.bytes ≤ 140737488355328 ∧ n + m ≤ maxLen ∧ 0 < r.size,
            .ms st.next 0 (n + m), (st.set l .dead).new (.box e r.size (cs.take (n * r.size) ++ ds))⟩
        | _ => none
      | .ms l o n => match st.H l with
        | .box e' s' cs => some ⟨o = 0 ∧ e' = e ∧ s' = r.size ∧ n * r.size ≤ cs.length ∧ ds.length = m * r.size ∧ ds.all oneL = true ∧ (n + m) * r.bytes ≤ 140737488355328 ∧ n + m ≤ maxLen ∧ 0 < r.size,
            .ms st.next 0 (n + m), (st.set l .dead).new (.box e r.size (cs.take (n * r.size) ++ ds))⟩
        | _ => none
      | .qu q o n cs => match st.H q with
        | .que e' n' => some ⟨e' = e ∧ r.size = 1 ∧ o + n = n' ∧ cs.length = n ∧ ds.length = m ∧ ds.all oneL = true ∧ (n + m) * r.bytes ≤ 140737488355328 ∧ n + m ≤ maxLen,
            .qu st.next 0 (n + m) (cs ++ ds), (st.set q .dead).new (.que e (n + m))⟩
        | _ => none
      | _ => none
    | none => none
  | _, _ => none

def capL (T : Tab) (t : TypeId) (x : LV) (st : St) : Option ARes :=
  match sliceE T t, x with
  | some _, .nil => some ⟨True, .atom (.int .i64 0), st⟩
  | some _, .kap _ _ c => some ⟨True, .atom (.int .i64 c), st⟩
  | _, _ => none

/-- 'append(nil, make([]T, n)...)', to be written to. -/
def appendZ (T : Tab) (t t' : TypeId) (s x : LV) (st : St) : Option ARes :=
  match sliceE T t, intK T t' with
  | some e, some _ => match T e with
    | some r => match s, x with
      | .nil, .atom (.int _ n) => some ⟨0 < n ∧ n * r.bytes ≤ 140737488355328 ∧ n ≤ 9223372036854775807 ∧ 0 < r.size, .ms st.next 0 n.toNat, st.new (.box e r.size (zerosL (r.zero.map constC) n.toNat))⟩
      | .kap l n c, .atom (.int _ z) => match st.H l with
        | .box e' s' cs => some ⟨e' = e ∧ s' = r.size ∧ n * r.size ≤ cs.length ∧ 0 < z ∧ (c : Int) < n + z ∧ (n + z) * r.bytes ≤ 140737488355328 ∧ n + z ≤ 9223372036854775807 ∧ 0 < r.size,
            .ms st.next 0 (n + z.toNat), st.new (.box e r.size (cs.take (n * r.size) ++ zerosL (r.zero.map constC) z.toNat))⟩
        | _ => none
      | _, _ => none
    | none => none
  | _, _ => none

/-- 'make([]T, n)', to be written to. -/
def makeSliceL (T : Tab) (t : TypeId) (l c : LV) (st : St) : Option ARes :=
  match sliceE T t with
  | some e => match T e with
    | some r => match l, c with
      | .atom (.int _ n), .atom (.int _ n') => some ⟨n = n' ∧ 0 ≤ n ∧ n * r.bytes ≤ 140737488355328 ∧ n ≤ 9223372036854775807 ∧ 0 < r.size, .ms st.next 0 n.toNat, st.new (.box e r.size (zerosL (r.zero.map constC) n.toNat))⟩
      | _, _ => none
    | none => none
  | none => none

def clearL (T : Tab) (t : TypeId) (x : LV) (st : St) : Option ARes :=
  match sliceE T t, x with
  | some e, .ms l o n => match T e, st.H l with
    | some r, .box e' s cs => some ⟨o + n * r.size ≤ cs.length ∧ 0 < r.size, .tu [], st.set l (.box e' s (cs.take o ++ zerosL (r.zero.map constC) n ++ cs.drop (o + n * r.size)))⟩
    | _, _ => none
  | _, _ => none

/-- 'append(s[:i], s[j:]...)', both of one row that may be written to, in place. -/
def sameBox : Bool → LV → LV → Bool
  | true, .kap l _ _, .ms l' _ _ => decide (l = l')
  | _, _, _ => false
def appendIn (T : Tab) (t : TypeId) (s x : LV) (st : St) : Option ARes :=
  match sliceE T t, s, x with
  | some e, .kap l n c, .ms l' o' m => match T e, st.H l with
    | some r, .box e' s' cs => some ⟨l' = l ∧ n + m ≤ c ∧ e' = e ∧ s' = r.size ∧ (n + m) * r.size ≤ cs.length ∧ o' + m * r.size ≤ cs.length ∧ ((cs.drop o').take (m * r.size)).all oneL = true ∧ 0 < r.size ∧ (n + m) * r.bytes ≤ 140737488355328 ∧ n + m ≤ maxLen,
        .kap l (n + m) c, st.set l (.box e' s' (cs.take (n * r.size) ++ (cs.drop o').take (m * r.size) ++ cs.drop ((n + m) * r.size)))⟩
    | _, _ => none
  | _, _, _ => none

/-- 'copy(d, s)'. -/
def copyL (T : Tab) (t t' : TypeId) (x y : LV) (st : St) : Option ARes :=
  match sliceE T t, srcT T t' st y with
  | some e, some (m, ds) => match T e, x with
    | some r, .ms l o n => match st.H l with
      | .box e' s cs => some ⟨t' = t ∧ ds.length = m * r.size ∧ o + n * r.size ≤ cs.length ∧ (ds.take (min n m * r.size)).all oneL = true ∧ 0 < r.size, .atom (.int .i64 ((min n m : Nat) : Int)),
          st.set l (.box e' s (cs.take o ++ ds.take (min n m * r.size) ++ cs.drop (o + min n m * r.size)))⟩
      | _ => none
    | _, _ => none
  | _, _ => none

def mdel (es : List (List Int × LV)) (xs1 : List Int) : List (List Int × LV) := match es with
  | [] => []
  | p :: es => if xs1 == p.1 then es else p :: mdel es xs1
def mapDelL (T : Tab) (t : TypeId) (x i : LV) (st : St) : Option ARes :=
  match mapKE T t with
  | some (k, _) => match T k, keyL i with
    | some rk, some (ag, ks, xs1) => match x with
      | .mp l => match st.H l with
        | .map ag' ks' es => some ⟨rk.ck = some ks ∧ rk.agg = ag ∧ ag' = ag ∧ ks' = ks, .tu [], st.set l (.map ag ks (mdel es xs1))⟩
        | _ => none
      | _ => none
    | _, _ => none
  | none => none

def callL (T : Tab) (m : Bool) (c : Call) (fr : Frm) (st : St) : Option ARes :=
  match c.callee, c.args.toList, c.argTypes.toList with
  | .builtin .len, [x], t :: _ => match mapKE T t with
    | none => lenL T t (evalL fr x) st
    | some _ => lenM T t (evalL fr x) st
  | .builtin .min, [x, y], _ => minL (evalL fr x) (evalL fr y) st
  | .builtin .max, [x, y], _ => maxL (evalL fr x) (evalL fr y) st
  | .builtin .append, [s, x], [t, t'] => if t = t' then (if sameBox m (evalL fr s) (evalL fr x) = true then appendIn T t (evalL fr s) (evalL fr x) st else appendL T m t (evalL fr s) (evalL fr x) st) else appendZ T t t' (evalL fr s) (evalL fr x) st
  | .builtin .cap, [x], t :: _ => capL T t (evalL fr x) st
  | .builtin .clear, [x], [t] => clearL T t (evalL fr x) st
  | .builtin .copy, [x, y], [t, t'] => copyL T t t' (evalL fr x) (evalL fr y) st
  | .builtin .delete, [x, i], [t, _] => mapDelL T t (evalL fr x) (evalL fr i) st
  | _, _, _ => none

/-- A row of bytes. -/
def bytesL : List LV → Option (List UInt8)
  | [] => some []
  | .atom (.int .u8 n) :: cs => match bytesL cs with
    | some bs => some (UInt8.ofNat n.toNat :: bs)
    | none => none
  | _ => none
/-- A text. -/
abbrev strV (l : List UInt8) : Value := .string ⟨l.toArray⟩
def sameZ (r : TRow) (xs : List LV) : Bool := match intsL xs, intsL (r.zero.map constC) with
  | some a, some b => decide (a = b)
  | _, _ => false
structure AS where
  c : Prop
  v : LV
  [d : Decidable c]
def strBin (T : Tab) (op : BinOp) (t : TypeId) (x y : LV) : Option AS :=
  match x, y with
  | .ag xs, .ag ys => match op, T t with
    | .eql, some r => if r.zz = true then (if sameZ r xs = true ∧ sameZ r ys = true then some ⟨True, .atom (.bool true)⟩ else none) else none
    | _, _ => none
  | .atom (.string a), .atom (.string b) => match op with
    | .add => some ⟨a.data.toList.length + b.data.toList.length ≤ 9223372036854775807, .atom (strV (a.data.toList ++ b.data.toList))⟩
    | .eql => some ⟨isStr T t = true, .atom (.bool (a.data.toList == b.data.toList))⟩
    | .neq => some ⟨isStr T t = true, .atom (.bool (!(a.data.toList == b.data.toList)))⟩
    | _ => none
  | _, _ => none
def strSlice (T : Tab) (t : TypeId) (x : LV) (lo hi : Option LV) : Option AS :=
  match x with
  | .atom (.string a) => match optInt lo 0, optInt hi a.data.toList.length with
    | some l, some h => some ⟨isStr T t = true ∧ 0 ≤ l ∧ l ≤ h ∧ h ≤ a.data.toList.length, .atom (strV ((a.data.toList.take h.toNat).drop l.toNat))⟩
    | _, _ => none
  | .pt _ _ => match lo, hi, T t with
    | none, none, some r => match r.d with
      | .arr n e => match T e with
        | some _ => some ⟨n ≤ maxLen, .sl 0 n []⟩
        | none => none
      | _ => none
    | _, _, _ => none
  | _ => none
/-- 'copy(b, "")'. -/
def strCopy (T : Tab) (t : TypeId) (x y : LV) : Option AS :=
  match y with
  | .atom (.string a) => match x, sliceE T t with
    | .sl _ _ [], some e => match T e with
      | some _ => some ⟨a.data.toList = [], .atom (.int .i64 0)⟩
      | none => none
    | _, _ => none
  | _ => none
def strConv (T : Tab) (s d : TypeId) (x : LV) : Option AS :=
  match x with
  | .sl _ n cs => match bytesL cs, sliceE T s with
    | some bs, some e => some ⟨intK T e = some .u8 ∧ isStr T d = true ∧ bs.length = n ∧ 0 < n, .atom (strV bs)⟩
    | _, _ => none
  | _ => none
def strLen (T : Tab) (t : TypeId) (x : LV) : Option AS :=
  match x with
  | .atom (.string a) => some ⟨isStr T t = true, .atom (.int .i64 (a.data.toList.length : Int))⟩
  | _ => none
/-- Operations on texts. -/
def strL (T : Tab) (o : Op) (fr : Frm) : Option AS := match o with
  | .binOp op t x y _ => strBin T op t (evalL fr x) (evalL fr y)
  | .slice t x lo hi none => strSlice T t (evalL fr x) (lo.map (evalL fr)) (hi.map (evalL fr))
  | .convert s d x => strConv T s d (evalL fr x)
  | .call c => match c.callee, c.args.toList, c.argTypes.toList with
    | .builtin .len, [x], [t] => strLen T t (evalL fr x)
    | .builtin .copy, [x, y], [t, _] => strCopy T t (evalL fr x) (evalL fr y)
    | _, _, _ => none
  | _ => none

def aop0 (T : Tab) (m : Bool) (o : Oper) (fr : Frm) (st : St) : Option ARes :=
  match o.op with
  | .move x | .assign x => some ⟨True, evalL fr x, st⟩
  | .pick c a b => match evalL fr c with
    | .atom (.bool t) => some ⟨True, if t then evalL fr a else evalL fr b, st⟩
    | _ => none
  | .binOp op t x y _ => abinL T op t (evalL fr x) (evalL fr y) st
  | .unOp op _ x => aunL op (evalL fr x) st
  | .convert s d x => match intK T s, intK T d, evalL fr x with
    | some _, some k, .atom (.int _ n) => some ⟨True, .atom (.int k (k.wrap n)), st⟩
    | _, _, _ => none
  | .load t x => loadL T t (evalL fr x) st
  | .store t x v => storeL T t (evalL fr x) (evalL fr v) st
  | .indexAddr t x i => idxL T t (evalL fr x) (evalL fr i) st
  | .fieldAddr t x f => fieldAddrL T t (evalL fr x) f st
  | .field t x f => fieldL T t (evalL fr x) f st
  | .slice t x lo hi mx => sliceL T t (evalL fr x) (lo.map (evalL fr)) (hi.map (evalL fr)) (mx.map (evalL fr)) st
  | .box t x => boxL t (evalL fr x) st
  | .alloc t => allocL T t st
  | .build t ps => buildL T t (ps.toList.map fun p => (p.1, evalL fr p.2)) st
  | .buildSlice t n ps => buildSliceL T m t n (ps.toList.map fun p => (p.1, evalL fr p.2)) st
  | .makeFunc f first caps => if first.isEmpty then some ⟨True, .fn f (caps.toList.map (evalL fr)), st⟩ else none
  | .extract x i => match evalL fr x with
    | .tu vs => match vs[i]? with | some v => some ⟨True, v, st⟩ | none => none
    | _ => none
  | .nilCheck x => match evalL fr x with
    | .pt l o => some ⟨True, .pt l o, st⟩
    | .pe l cs => some ⟨True, .pe l cs, st⟩
    | _ => none
  | .call c => callL T m c fr st
  | .index t x i => indexL T t (evalL fr x) (evalL fr i) st
  | .lookup t x i ok => lookupL T t (evalL fr x) (evalL fr i) ok st
  | .mapUpdate t x i v => mapUpdL T t (evalL fr x) (evalL fr i) (evalL fr v) st
  | .insert t x i v => mapUpdL T t (evalL fr x) (evalL fr i) (evalL fr v) st
  | .makeMap t r => makeMapL T t (r.map (evalL fr)) st
  | .makeSlice t l c => makeSliceL T t (evalL fr l) (evalL fr c) st
  | _ => none

def aop (T : Tab) (m : Bool) (o : Oper) (fr : Frm) (st : St) : Option ARes := match strL T o.op fr with
  | some r => some (@ARes.mk r.c r.v st r.d)
  | none => aop0 T m o fr st

/-- Operations that leave memory alone. -/
def quietOp : Op → Bool
  | .move _ | .assign _ | .pick .. | .binOp .. | .unOp .. | .convert .. | .load .. | .indexAddr .. | .fieldAddr .. | .field .. | .slice .. | .extract .. | .nilCheck _ | .makeFunc .. | .lookup .. | .index .. | .build .. => true
  | .call { callee := .builtin .len, .. } | .call { callee := .builtin .min, .. } | .call { callee := .builtin .max, .. } => true
  | _ => false

end Go.Proofs.YtjkmgimedkomkaaGreat.Aw
