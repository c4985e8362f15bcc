/- The types of this seat's translation, as a table, and that the loaded program has them so. Written by a program (gentab.py). -/
import Derived.Test.YtplnodgkmbajiaaGreatAwDraw
import Derived.Test.YtplnodgkmbajiaaGreatAwArr
import Derived.Test.YtplnodgkmbajiaaGreatProg
import Derived.KernelRfl
import Derived.Tactics
import Derived.Laws.StructEq
namespace Go.Proofs.YtplnodgkmbajiaaGreat.Aw
open Go Go.RowKit
set_option linter.unusedSimpArgs false
set_option linter.unusedVariables false
def R3 : TRow := { agg := false, size := 1, bytes := 8, zero := [.int .i64 0], d := .int .i64, ck := some [.i64] }
def R4 : TRow := { agg := false, size := 1, bytes := 1, zero := [.bool false], d := .bool }
def R5 : TRow := { agg := false, size := 1, bytes := 1, zero := [.int .u8 0], d := .int .u8, ck := some [.u8] }
def R9 : TRow := { agg := false, size := 1, bytes := 16, zero := [.string ⟨#[]⟩], d := .str }
def R22 : TRow := { agg := false, size := 1, bytes := 24, zero := [.slice none 0 0], d := .slice 29 }
def R23 : TRow := { agg := false, size := 1, bytes := 24, zero := [.slice none 0 0], d := .slice 37 }
def R24 : TRow := { agg := true, size := 2, bytes := 48, zero := [.slice none 0 0, .slice none 0 0], d := .struct [(0, 22), (1, 23)] }
def R25 : TRow := { agg := true, size := 2, bytes := 48, zero := [.slice none 0 0, .slice none 0 0], d := .struct [(0, 22), (1, 23)] }
def R26 : TRow := { agg := false, size := 1, bytes := 24, zero := [.slice none 0 0], d := .slice 22 }
def R27 : TRow := { agg := true, size := 3, bytes := 72, zero := [.slice none 0 0, .slice none 0 0, .slice none 0 0], d := .struct [(0, 25), (2, 26)] }
def R28 : TRow := { agg := true, size := 3, bytes := 72, zero := [.slice none 0 0, .slice none 0 0, .slice none 0 0], d := .struct [(0, 25), (2, 26)] }
def R29 : TRow := { agg := false, size := 1, bytes := 4, zero := [.int .u32 0], d := .int .u32, ck := some [.u32] }
def R33 : TRow := { agg := false, size := 1, bytes := 8, zero := [.int .u64 0], d := .int .u64, ck := some [.u64] }
def R36 : TRow := { agg := true, size := 3, bytes := 12, zero := [.int .u32 0, .int .u32 0, .int .u32 0], d := .struct [(0, 29), (1, 29), (2, 29)], ck := some [.u32, .u32, .u32] }
def R37 : TRow := { agg := true, size := 3, bytes := 12, zero := [.int .u32 0, .int .u32 0, .int .u32 0], d := .struct [(0, 29), (1, 29), (2, 29)], ck := some [.u32, .u32, .u32] }
def R43 : TRow := { agg := false, size := 1, bytes := 8, zero := [.map none], d := .map 29 22 }
def R48 : TRow := { agg := false, size := 1, bytes := 8, zero := [.nilFunc], d := .func }
def R56 : TRow := { agg := false, size := 1, bytes := 24, zero := [.slice none 0 0], d := .slice 4 }
def R64 : TRow := { agg := false, size := 1, bytes := 8, zero := [.int .u64 0], d := .int .u64, ck := some [.u64] }
def R69 : TRow := { agg := false, size := 1, bytes := 8, zero := [.nilFunc], d := .func }
def R75 : TRow := { agg := false, size := 1, bytes := 8, zero := [.map none], d := .map 29 3 }
def R80 : TRow := { agg := false, size := 1, bytes := 8, zero := [.int .i64 0], d := .int .i64, ck := some [.i64] }
def R89 : TRow := { agg := false, size := 1, bytes := 8, zero := [.map none], d := .map 29 4 }
def R94 : TRow := { agg := false, size := 1, bytes := 8, zero := [.pointer none], d := .ptr 97 }
def R95 : TRow := { agg := false, size := 1, bytes := 8, zero := [.map none], d := .map 29 29 }
def R96 : TRow := { agg := true, size := 7, bytes := 136, zero := [.slice none 0 0, .slice none 0 0, .slice none 0 0, .map none, .map none, .slice none 0 0, .slice none 0 0], d := .struct [(0, 28), (3, 95), (4, 95), (5, 22), (6, 22)] }
def R97 : TRow := { agg := true, size := 7, bytes := 136, zero := [.slice none 0 0, .slice none 0 0, .slice none 0 0, .map none, .map none, .slice none 0 0, .slice none 0 0], d := .struct [(0, 28), (3, 95), (4, 95), (5, 22), (6, 22)] }
def R104 : TRow := { agg := false, size := 1, bytes := 8, zero := [.int .i64 0], d := .int .i64, ck := some [.i64] }
def R122 : TRow := { agg := false, size := 1, bytes := 8, zero := [.int .u64 0], d := .int .u64, ck := some [.u64] }
def R126 : TRow := { agg := false, size := 1, bytes := 8, zero := [.pointer none], d := .ptr 3 }
def R142 : TRow := { agg := false, size := 1, bytes := 8, zero := [.pointer none], d := .ptr 122 }
def tabL : List (Nat × TRow) := [(3, R3), (4, R4), (5, R5), (9, R9), (22, R22), (23, R23), (24, R24), (25, R25), (26, R26), (27, R27), (28, R28), (29, R29), (33, R33), (36, R36), (37, R37), (43, R43), (48, R48), (56, R56), (64, R64), (69, R69), (75, R75), (80, R80), (89, R89), (94, R94), (95, R95), (96, R96), (97, R97), (104, R104), (122, R122), (126, R126), (142, R142)]
def tab : Tab := lookT tabL
@[simp] theorem tab_3 : tab 3 = some { agg := false, size := 1, bytes := 8, zero := [.int .i64 0], d := .int .i64, ck := some [.i64] } := rfl
@[simp] theorem tab_4 : tab 4 = some { agg := false, size := 1, bytes := 1, zero := [.bool false], d := .bool } := rfl
@[simp] theorem tab_5 : tab 5 = some { agg := false, size := 1, bytes := 1, zero := [.int .u8 0], d := .int .u8, ck := some [.u8] } := rfl
@[simp] theorem tab_9 : tab 9 = some { agg := false, size := 1, bytes := 16, zero := [.string ⟨#[]⟩], d := .str } := rfl
@[simp] theorem tab_22 : tab 22 = some { agg := false, size := 1, bytes := 24, zero := [.slice none 0 0], d := .slice 29 } := rfl
@[simp] theorem tab_23 : tab 23 = some { agg := false, size := 1, bytes := 24, zero := [.slice none 0 0], d := .slice 37 } := rfl
@[simp] theorem tab_24 : tab 24 = some { agg := true, size := 2, bytes := 48, zero := [.slice none 0 0, .slice none 0 0], d := .struct [(0, 22), (1, 23)] } := rfl
@[simp] theorem tab_25 : tab 25 = some { agg := true, size := 2, bytes := 48, zero := [.slice none 0 0, .slice none 0 0], d := .struct [(0, 22), (1, 23)] } := rfl
@[simp] theorem tab_26 : tab 26 = some { agg := false, size := 1, bytes := 24, zero := [.slice none 0 0], d := .slice 22 } := rfl
@[simp] theorem tab_27 : tab 27 = some { agg := true, size := 3, bytes := 72, zero := [.slice none 0 0, .slice none 0 0, .slice none 0 0], d := .struct [(0, 25), (2, 26)] } := rfl
@[simp] theorem tab_28 : tab 28 = some { agg := true, size := 3, bytes := 72, zero := [.slice none 0 0, .slice none 0 0, .slice none 0 0], d := .struct [(0, 25), (2, 26)] } := rfl
@[simp] theorem tab_29 : tab 29 = some { agg := false, size := 1, bytes := 4, zero := [.int .u32 0], d := .int .u32, ck := some [.u32] } := rfl
@[simp] theorem tab_33 : tab 33 = some { agg := false, size := 1, bytes := 8, zero := [.int .u64 0], d := .int .u64, ck := some [.u64] } := rfl
@[simp] theorem tab_36 : tab 36 = some { agg := true, size := 3, bytes := 12, zero := [.int .u32 0, .int .u32 0, .int .u32 0], d := .struct [(0, 29), (1, 29), (2, 29)], ck := some [.u32, .u32, .u32] } := rfl
@[simp] theorem tab_37 : tab 37 = some { agg := true, size := 3, bytes := 12, zero := [.int .u32 0, .int .u32 0, .int .u32 0], d := .struct [(0, 29), (1, 29), (2, 29)], ck := some [.u32, .u32, .u32] } := rfl
@[simp] theorem tab_43 : tab 43 = some { agg := false, size := 1, bytes := 8, zero := [.map none], d := .map 29 22 } := rfl
@[simp] theorem tab_48 : tab 48 = some { agg := false, size := 1, bytes := 8, zero := [.nilFunc], d := .func } := rfl
@[simp] theorem tab_56 : tab 56 = some { agg := false, size := 1, bytes := 24, zero := [.slice none 0 0], d := .slice 4 } := rfl
@[simp] theorem tab_64 : tab 64 = some { agg := false, size := 1, bytes := 8, zero := [.int .u64 0], d := .int .u64, ck := some [.u64] } := rfl
@[simp] theorem tab_69 : tab 69 = some { agg := false, size := 1, bytes := 8, zero := [.nilFunc], d := .func } := rfl
@[simp] theorem tab_75 : tab 75 = some { agg := false, size := 1, bytes := 8, zero := [.map none], d := .map 29 3 } := rfl
@[simp] theorem tab_80 : tab 80 = some { agg := false, size := 1, bytes := 8, zero := [.int .i64 0], d := .int .i64, ck := some [.i64] } := rfl
@[simp] theorem tab_89 : tab 89 = some { agg := false, size := 1, bytes := 8, zero := [.map none], d := .map 29 4 } := rfl
@[simp] theorem tab_94 : tab 94 = some { agg := false, size := 1, bytes := 8, zero := [.pointer none], d := .ptr 97 } := rfl
@[simp] theorem tab_95 : tab 95 = some { agg := false, size := 1, bytes := 8, zero := [.map none], d := .map 29 29 } := rfl
@[simp] theorem tab_96 : tab 96 = some { agg := true, size := 7, bytes := 136, zero := [.slice none 0 0, .slice none 0 0, .slice none 0 0, .map none, .map none, .slice none 0 0, .slice none 0 0], d := .struct [(0, 28), (3, 95), (4, 95), (5, 22), (6, 22)] } := rfl
@[simp] theorem tab_97 : tab 97 = some { agg := true, size := 7, bytes := 136, zero := [.slice none 0 0, .slice none 0 0, .slice none 0 0, .map none, .map none, .slice none 0 0, .slice none 0 0], d := .struct [(0, 28), (3, 95), (4, 95), (5, 22), (6, 22)] } := rfl
@[simp] theorem tab_104 : tab 104 = some { agg := false, size := 1, bytes := 8, zero := [.int .i64 0], d := .int .i64, ck := some [.i64] } := rfl
@[simp] theorem tab_122 : tab 122 = some { agg := false, size := 1, bytes := 8, zero := [.int .u64 0], d := .int .u64, ck := some [.u64] } := rfl
@[simp] theorem tab_126 : tab 126 = some { agg := false, size := 1, bytes := 8, zero := [.pointer none], d := .ptr 3 } := rfl
@[simp] theorem tab_142 : tab 142 = some { agg := false, size := 1, bytes := 8, zero := [.pointer none], d := .ptr 122 } := rfl
theorem info_of {P : Program} {t size bytes : Nat} {z : Value} (h : (P.info? t).map (fun i => (i.size, i.bytes, i.zero)) = some (size, bytes, some z)) : ∃ i, P.info? t = some i ∧ i.size = size ∧ i.bytes = bytes ∧ i.zero = some z := by
  cases hi : P.info? t with
  | none => simp [hi] at h
  | some i =>
    simp only [hi, Option.map_some, Option.some.injEq, Prod.mk.injEq] at h
    exact ⟨i, rfl, h.1, h.2.1, h.2.2⟩
theorem eqOk_36 : EqOk Tryz.prog 36 true [.u32, .u32, .u32] := by
  have u29 := Tryz.underlying29
  have a29 := Tryz.isAgg29
  have z29 := Tryz.sizeOf29
  have hp : Tryz.prog.stoodInHeld 36 = false := by kernel_rfl
  refine ⟨fun w as1 bs1 h1 h2 => ?_, fun w em as1 h1 => ?_, fun _ => by kernel_rfl, (fun h => by cases h), _, Tryz.underlying36, .inr fun as1 bs1 h1 h2 => by simp [mkV, Instr.sameNow]⟩
  · match as1, bs1, h1, h2 with
    | [x0, x1, x2], [y0, y1, y2], _, _ =>
      have hS : Tryz.prog.underlying 36 = some (.struct (Tryz.prog.fieldsOf 36)) := by kernel_rfl
      simp only [mkV, mkC, if_true]
      unfold Op.equal Op.maxDepth
      rw [show (10000 : Nat) = 9999 + 1 from rfl, run_equalIn_agg w 9999 36 _ _ hS hp]
      simp only [Program.fieldsOf, Tryz.underlying36]
      go_simp
      by_cases e0 : x0 = y0 <;> by_cases e1 : x1 = y1 <;> by_cases e2 : x2 = y2 <;> simp [e0, e1, e2]
  · match as1, h1 with
    | [x0, x1, x2], _ =>
      simp only [mkV, mkC, if_true]
      unfold Instr.checkKey
      simp only [Sem.run_bind, run_underlying Tryz.underlying36, Result.andThen_ok]
      go_simp
      (try simp [chk_int u29])
theorem eqOk_37 : EqOk Tryz.prog 37 true [.u32, .u32, .u32] := by
  have u29 := Tryz.underlying29
  have a29 := Tryz.isAgg29
  have z29 := Tryz.sizeOf29
  have hp : Tryz.prog.stoodInHeld 37 = false := by kernel_rfl
  refine ⟨fun w as1 bs1 h1 h2 => ?_, fun w em as1 h1 => ?_, fun _ => by kernel_rfl, (fun h => by cases h), _, Tryz.underlying37, .inr fun as1 bs1 h1 h2 => by simp [mkV, Instr.sameNow]⟩
  · match as1, bs1, h1, h2 with
    | [x0, x1, x2], [y0, y1, y2], _, _ =>
      have hS : Tryz.prog.underlying 37 = some (.struct (Tryz.prog.fieldsOf 37)) := by kernel_rfl
      simp only [mkV, mkC, if_true]
      unfold Op.equal Op.maxDepth
      rw [show (10000 : Nat) = 9999 + 1 from rfl, run_equalIn_agg w 9999 37 _ _ hS hp]
      simp only [Program.fieldsOf, Tryz.underlying37]
      go_simp
      by_cases e0 : x0 = y0 <;> by_cases e1 : x1 = y1 <;> by_cases e2 : x2 = y2 <;> simp [e0, e1, e2]
  · match as1, h1 with
    | [x0, x1, x2], _ =>
      simp only [mkV, mkC, if_true]
      unfold Instr.checkKey
      simp only [Sem.run_bind, run_underlying Tryz.underlying37, Result.andThen_ok]
      go_simp
      (try simp [chk_int u29])
theorem rowOk_3 : RowOk Tryz.prog 3 R3 := ⟨Tryz.isAgg3, info_of (z := .int .i64 0) (by kernel_rfl), rfl, fun _ => rfl, rfl, Tryz.underlying3, (fun ks h => by injection h with h; subst h; exact eqOk_int Tryz.underlying3)⟩
theorem rowOk_4 : RowOk Tryz.prog 4 R4 := ⟨Tryz.isAgg4, info_of (z := .bool false) (by kernel_rfl), rfl, fun _ => rfl, rfl, Tryz.underlying4, (fun ks h => by cases h)⟩
theorem rowOk_5 : RowOk Tryz.prog 5 R5 := ⟨Tryz.isAgg5, info_of (z := .int .u8 0) (by kernel_rfl), rfl, fun _ => rfl, rfl, Tryz.underlying5, (fun ks h => by injection h with h; subst h; exact eqOk_int Tryz.underlying5)⟩
theorem rowOk_9 : RowOk Tryz.prog 9 R9 := ⟨Tryz.isAgg9, info_of (z := .string ⟨#[]⟩) (by kernel_rfl), rfl, fun _ => rfl, rfl, Tryz.underlying9, (fun ks h => by cases h)⟩
theorem rowOk_22 : RowOk Tryz.prog 22 R22 := ⟨Tryz.isAgg22, info_of (z := .slice none 0 0) (by kernel_rfl), rfl, fun _ => rfl, rfl, Tryz.underlying22, (fun ks h => by cases h)⟩
theorem rowOk_23 : RowOk Tryz.prog 23 R23 := ⟨Tryz.isAgg23, info_of (z := .slice none 0 0) (by kernel_rfl), rfl, fun _ => rfl, rfl, Tryz.underlying23, (fun ks h => by cases h)⟩
theorem rowOk_24 : RowOk Tryz.prog 24 R24 := ⟨Tryz.isAgg24, info_of (z := .agg #[.slice none 0 0, .slice none 0 0]) (by kernel_rfl), rfl, (fun h => by cases h), rfl, ⟨_, Tryz.underlying24, rfl⟩, (fun ks h => by cases h)⟩
theorem rowOk_25 : RowOk Tryz.prog 25 R25 := ⟨Tryz.isAgg25, info_of (z := .agg #[.slice none 0 0, .slice none 0 0]) (by kernel_rfl), rfl, (fun h => by cases h), rfl, ⟨_, Tryz.underlying25, rfl⟩, (fun ks h => by cases h)⟩
theorem rowOk_26 : RowOk Tryz.prog 26 R26 := ⟨Tryz.isAgg26, info_of (z := .slice none 0 0) (by kernel_rfl), rfl, fun _ => rfl, rfl, Tryz.underlying26, (fun ks h => by cases h)⟩
theorem rowOk_27 : RowOk Tryz.prog 27 R27 := ⟨Tryz.isAgg27, info_of (z := .agg #[.slice none 0 0, .slice none 0 0, .slice none 0 0]) (by kernel_rfl), rfl, (fun h => by cases h), rfl, ⟨_, Tryz.underlying27, rfl⟩, (fun ks h => by cases h)⟩
theorem rowOk_28 : RowOk Tryz.prog 28 R28 := ⟨Tryz.isAgg28, info_of (z := .agg #[.slice none 0 0, .slice none 0 0, .slice none 0 0]) (by kernel_rfl), rfl, (fun h => by cases h), rfl, ⟨_, Tryz.underlying28, rfl⟩, (fun ks h => by cases h)⟩
theorem rowOk_29 : RowOk Tryz.prog 29 R29 := ⟨Tryz.isAgg29, info_of (z := .int .u32 0) (by kernel_rfl), rfl, fun _ => rfl, rfl, Tryz.underlying29, (fun ks h => by injection h with h; subst h; exact eqOk_int Tryz.underlying29)⟩
theorem rowOk_33 : RowOk Tryz.prog 33 R33 := ⟨Tryz.isAgg33, info_of (z := .int .u64 0) (by kernel_rfl), rfl, fun _ => rfl, rfl, Tryz.underlying33, (fun ks h => by injection h with h; subst h; exact eqOk_int Tryz.underlying33)⟩
theorem rowOk_36 : RowOk Tryz.prog 36 R36 := ⟨Tryz.isAgg36, info_of (z := .agg #[.int .u32 0, .int .u32 0, .int .u32 0]) (by kernel_rfl), rfl, (fun h => by cases h), rfl, ⟨_, Tryz.underlying36, rfl⟩, (fun ks h => by injection h with h; subst h; exact eqOk_36)⟩
theorem rowOk_37 : RowOk Tryz.prog 37 R37 := ⟨Tryz.isAgg37, info_of (z := .agg #[.int .u32 0, .int .u32 0, .int .u32 0]) (by kernel_rfl), rfl, (fun h => by cases h), rfl, ⟨_, Tryz.underlying37, rfl⟩, (fun ks h => by injection h with h; subst h; exact eqOk_37)⟩
theorem rowOk_43 : RowOk Tryz.prog 43 R43 := ⟨Tryz.isAgg43, info_of (z := .map none) (by kernel_rfl), rfl, fun _ => rfl, rfl, Tryz.underlying43, (fun ks h => by cases h)⟩
theorem rowOk_48 : RowOk Tryz.prog 48 R48 := ⟨Tryz.isAgg48, info_of (z := .nilFunc) (by kernel_rfl), rfl, fun _ => rfl, rfl, ⟨_, _, _, Tryz.underlying48⟩, (fun ks h => by cases h)⟩
theorem rowOk_56 : RowOk Tryz.prog 56 R56 := ⟨Tryz.isAgg56, info_of (z := .slice none 0 0) (by kernel_rfl), rfl, fun _ => rfl, rfl, Tryz.underlying56, (fun ks h => by cases h)⟩
theorem rowOk_64 : RowOk Tryz.prog 64 R64 := ⟨Tryz.isAgg64, info_of (z := .int .u64 0) (by kernel_rfl), rfl, fun _ => rfl, rfl, Tryz.underlying64, (fun ks h => by injection h with h; subst h; exact eqOk_int Tryz.underlying64)⟩
theorem rowOk_69 : RowOk Tryz.prog 69 R69 := ⟨Tryz.isAgg69, info_of (z := .nilFunc) (by kernel_rfl), rfl, fun _ => rfl, rfl, ⟨_, _, _, Tryz.underlying69⟩, (fun ks h => by cases h)⟩
theorem rowOk_75 : RowOk Tryz.prog 75 R75 := ⟨Tryz.isAgg75, info_of (z := .map none) (by kernel_rfl), rfl, fun _ => rfl, rfl, Tryz.underlying75, (fun ks h => by cases h)⟩
theorem rowOk_80 : RowOk Tryz.prog 80 R80 := ⟨Tryz.isAgg80, info_of (z := .int .i64 0) (by kernel_rfl), rfl, fun _ => rfl, rfl, Tryz.underlying80, (fun ks h => by injection h with h; subst h; exact eqOk_int Tryz.underlying80)⟩
theorem rowOk_89 : RowOk Tryz.prog 89 R89 := ⟨Tryz.isAgg89, info_of (z := .map none) (by kernel_rfl), rfl, fun _ => rfl, rfl, Tryz.underlying89, (fun ks h => by cases h)⟩
theorem rowOk_94 : RowOk Tryz.prog 94 R94 := ⟨Tryz.isAgg94, info_of (z := .pointer none) (by kernel_rfl), rfl, fun _ => rfl, rfl, Tryz.underlying94, (fun ks h => by cases h)⟩
theorem rowOk_95 : RowOk Tryz.prog 95 R95 := ⟨Tryz.isAgg95, info_of (z := .map none) (by kernel_rfl), rfl, fun _ => rfl, rfl, Tryz.underlying95, (fun ks h => by cases h)⟩
theorem rowOk_96 : RowOk Tryz.prog 96 R96 := ⟨Tryz.isAgg96, info_of (z := .agg #[.slice none 0 0, .slice none 0 0, .slice none 0 0, .map none, .map none, .slice none 0 0, .slice none 0 0]) (by kernel_rfl), rfl, (fun h => by cases h), rfl, ⟨_, Tryz.underlying96, rfl⟩, (fun ks h => by cases h)⟩
theorem rowOk_97 : RowOk Tryz.prog 97 R97 := ⟨Tryz.isAgg97, info_of (z := .agg #[.slice none 0 0, .slice none 0 0, .slice none 0 0, .map none, .map none, .slice none 0 0, .slice none 0 0]) (by kernel_rfl), rfl, (fun h => by cases h), rfl, ⟨_, Tryz.underlying97, rfl⟩, (fun ks h => by cases h)⟩
theorem rowOk_104 : RowOk Tryz.prog 104 R104 := ⟨Tryz.isAgg104, info_of (z := .int .i64 0) (by kernel_rfl), rfl, fun _ => rfl, rfl, Tryz.underlying104, (fun ks h => by injection h with h; subst h; exact eqOk_int Tryz.underlying104)⟩
theorem rowOk_122 : RowOk Tryz.prog 122 R122 := ⟨Tryz.isAgg122, info_of (z := .int .u64 0) (by kernel_rfl), rfl, fun _ => rfl, rfl, Tryz.underlying122, (fun ks h => by injection h with h; subst h; exact eqOk_int Tryz.underlying122)⟩
theorem rowOk_126 : RowOk Tryz.prog 126 R126 := ⟨Tryz.isAgg126, info_of (z := .pointer none) (by kernel_rfl), rfl, fun _ => rfl, rfl, Tryz.underlying126, (fun ks h => by cases h)⟩
theorem rowOk_142 : RowOk Tryz.prog 142 R142 := ⟨Tryz.isAgg142, info_of (z := .pointer none) (by kernel_rfl), rfl, fun _ => rfl, rfl, Tryz.underlying142, (fun ks h => by cases h)⟩
theorem tabOk : TabOk Tryz.prog tab := tabOk_of tabL ⟨rowOk_3, rowOk_4, rowOk_5, rowOk_9, rowOk_22, rowOk_23, rowOk_24, rowOk_25, rowOk_26, rowOk_27, rowOk_28, rowOk_29, rowOk_33, rowOk_36, rowOk_37, rowOk_43, rowOk_48, rowOk_56, rowOk_64, rowOk_69, rowOk_75, rowOk_80, rowOk_89, rowOk_94, rowOk_95, rowOk_96, rowOk_97, rowOk_104, rowOk_122, rowOk_126, rowOk_142, trivial⟩
end Go.Proofs.YtplnodgkmbajiaaGreat.Aw
