/- The types of this seat's translation, as a table, and that the loaded program has them so. Written by a program (gentab.py). -/
import Derived.Test.YtphdhggoaijfoaaGreatAwDraw
import Derived.Test.YtphdhggoaijfoaaGreatProg
import Derived.KernelRfl
import Derived.Tactics
import Derived.Laws.StructEq
namespace Go.Proofs.YtphdhggoaijfoaaGreat.Aw
open Go Go.RowKit
set_option linter.unusedSimpArgs false
set_option linter.unusedVariables false
def tabL : List (Nat × TRow) := [
  (2, { agg := false, size := 1, bytes := 8, zero := [.int .i64 0], d := .int .i64, ck := some [.i64] }),
  (3, { agg := false, size := 1, bytes := 8, zero := [.int .i64 0], d := .int .i64, ck := some [.i64] }),
  (4, { agg := false, size := 1, bytes := 1, zero := [.bool false], d := .bool }),
  (5, { agg := false, size := 1, bytes := 1, zero := [.int .u8 0], d := .int .u8, ck := some [.u8] }),
  (6, { agg := false, size := 1, bytes := 1, zero := [.int .u8 0], d := .int .u8, ck := some [.u8] }),
  (7, { agg := true, size := 4, bytes := 24, zero := [.int .i64 0, .int .i64 0, .bool false, .int .u8 0], d := .struct [(0, 2), (1, 3), (2, 4), (3, 6)] }),
  (8, { agg := true, size := 4, bytes := 24, zero := [.int .i64 0, .int .i64 0, .bool false, .int .u8 0], d := .struct [(0, 2), (1, 3), (2, 4), (3, 6)] }),
  (9, { agg := false, size := 1, bytes := 16, zero := [.string ⟨#[]⟩], d := .str }),
  (10, { agg := false, size := 1, bytes := 16, zero := [.string ⟨#[]⟩], d := .str }),
  (11, { agg := false, size := 1, bytes := 16, zero := [.string ⟨#[]⟩], d := .str }),
  (12, { agg := false, size := 1, bytes := 8, zero := [.int .u64 0], d := .int .u64, ck := some [.u64] }),
  (13, { agg := true, size := 2, bytes := 24, zero := [.string ⟨#[]⟩, .int .u64 0], d := .struct [(0, 9), (1, 12)] }),
  (14, { agg := true, size := 2, bytes := 24, zero := [.string ⟨#[]⟩, .int .u64 0], d := .struct [(0, 9), (1, 12)] }),
  (15, { agg := false, size := 1, bytes := 8, zero := [.pointer none], d := .ptr 155 }),
  (16, { agg := false, size := 1, bytes := 8, zero := [.pointer none], d := .ptr 158 }),
  (17, { agg := false, size := 1, bytes := 8, zero := [.pointer none], d := .ptr 166 }),
  (18, { agg := true, size := 1, bytes := 8, zero := [.pointer none], d := .struct [(0, 17)] }),
  (19, { agg := true, size := 1, bytes := 8, zero := [.pointer none], d := .struct [(0, 17)] }),
  (21, { agg := false, size := 1, bytes := 4, zero := [.int .i32 0], d := .int .i32, ck := some [.i32] }),
  (22, { agg := false, size := 1, bytes := 24, zero := [.slice none 0 0], d := .slice 29 }),
  (23, { agg := false, size := 1, bytes := 24, zero := [.slice none 0 0], d := .slice 55 }),
  (24, { agg := true, size := 2, bytes := 48, zero := [.slice none 0 0, .slice none 0 0], d := .struct [(0, 22), (1, 23)] }),
  (25, { agg := true, size := 2, bytes := 48, zero := [.slice none 0 0, .slice none 0 0], d := .struct [(0, 22), (1, 23)] }),
  (26, { agg := false, size := 1, bytes := 24, zero := [.slice none 0 0], d := .slice 22 }),
  (27, { agg := true, size := 3, bytes := 72, zero := [.slice none 0 0, .slice none 0 0, .slice none 0 0], d := .struct [(0, 25), (2, 26)] }),
  (28, { agg := true, size := 3, bytes := 72, zero := [.slice none 0 0, .slice none 0 0, .slice none 0 0], d := .struct [(0, 25), (2, 26)] }),
  (29, { agg := false, size := 1, bytes := 4, zero := [.int .u32 0], d := .int .u32, ck := some [.u32] }),
  (38, { agg := false, size := 1, bytes := 8, zero := [.int .i64 0], d := .int .i64, ck := some [.i64] }),
  (40, { agg := false, size := 1, bytes := 8, zero := [.pointer none], d := .ptr 78 }),
  (49, { agg := false, size := 1, bytes := 24, zero := [.slice none 0 0], d := .slice 57 }),
  (54, { agg := true, size := 3, bytes := 12, zero := [.int .u32 0, .int .u32 0, .int .u32 0], d := .struct [(0, 29), (1, 29), (2, 29)], ck := some [.u32, .u32, .u32] }),
  (55, { agg := true, size := 3, bytes := 12, zero := [.int .u32 0, .int .u32 0, .int .u32 0], d := .struct [(0, 29), (1, 29), (2, 29)], ck := some [.u32, .u32, .u32] }),
  (56, { agg := true, size := 3, bytes := 24, zero := [.int .u32 0, .int .i64 0, .int .i64 0], d := .struct [(0, 29), (1, 3), (2, 3)], ck := some [.u32, .i64, .i64] }),
  (57, { agg := true, size := 3, bytes := 24, zero := [.int .u32 0, .int .i64 0, .int .i64 0], d := .struct [(0, 29), (1, 3), (2, 3)], ck := some [.u32, .i64, .i64] }),
  (58, { agg := false, size := 1, bytes := 24, zero := [.slice none 0 0], d := .slice 3 }),
  (63, { agg := false, size := 1, bytes := 8, zero := [.map none], d := .map 29 22 }),
  (67, { agg := false, size := 1, bytes := 8, zero := [.map none], d := .map 29 29 }),
  (69, { agg := false, size := 1, bytes := 8, zero := [.map none], d := .map 29 3 }),
  (70, { agg := false, size := 1, bytes := 8, zero := [.nilFunc], d := .other }),
  (77, { agg := true, size := 3, bytes := 56, zero := [.slice none 0 0, .slice none 0 0, .map none], d := .struct [(0, 23), (1, 26), (2, 69)] }),
  (78, { agg := true, size := 3, bytes := 56, zero := [.slice none 0 0, .slice none 0 0, .map none], d := .struct [(0, 23), (1, 26), (2, 69)] }),
  (85, { agg := false, size := 1, bytes := 8, zero := [.int .u64 0], d := .int .u64, ck := some [.u64] }),
  (101, { agg := false, size := 1, bytes := 8, zero := [.map none], d := .map 29 4 }),
  (106, { agg := false, size := 1, bytes := 8, zero := [.int .i64 0], d := .int .i64, ck := some [.i64] }),
  (115, { agg := false, size := 1, bytes := 8, zero := [.int .u64 0], d := .int .u64, ck := some [.u64] }),
  (118, { agg := false, size := 1, bytes := 8, zero := [.nilFunc], d := .other }),
  (126, { agg := false, size := 1, bytes := 8, zero := [.int .u64 0], d := .int .u64, ck := some [.u64] }),
  (130, { agg := false, size := 1, bytes := 8, zero := [.pointer none], d := .ptr 3 }),
  (143, { agg := false, size := 1, bytes := 8, zero := [.pointer none], d := .ptr 126 }),
  (154, { agg := true, size := 4, bytes := 40, zero := [.pointer none, .pointer none, .pointer none, .string ⟨#[]⟩], d := .struct [(0, 17), (1, 17), (2, 17), (3, 9)] }),
  (155, { agg := true, size := 4, bytes := 40, zero := [.pointer none, .pointer none, .pointer none, .string ⟨#[]⟩], d := .struct [(0, 17), (1, 17), (2, 17), (3, 9)] }),
  (156, { agg := true, size := 0, bytes := 0, zero := [], d := .arr 0 16 }),
  (157, { agg := true, size := 0, bytes := 0, zero := [], d := .struct [(0, 156)] }),
  (158, { agg := true, size := 0, bytes := 0, zero := [], d := .struct [(0, 156)] }),
  (159, { agg := false, size := 1, bytes := 1, zero := [.int .u8 0], d := .int .u8, ck := some [.u8] }),
  (160, { agg := false, size := 1, bytes := 1, zero := [.int .u8 0], d := .int .u8, ck := some [.u8] }),
  (162, { agg := false, size := 1, bytes := 8, zero := [.pointer none], d := .ptr 5 }),
  (163, { agg := false, size := 1, bytes := 4, zero := [.int .i32 0], d := .int .i32, ck := some [.i32] }),
  (164, { agg := false, size := 1, bytes := 4, zero := [.int .i32 0], d := .int .i32, ck := some [.i32] }),
  (165, { agg := true, size := 11, bytes := 48, zero := [.int .u64 0, .int .u64 0, .int .u32 0, .int .u8 0, .int .u8 0, .int .u8 0, .int .u8 0, .nilFunc, .pointer none, .int .i32 0, .int .i32 0], d := .struct [(0, 12), (1, 12), (2, 29), (3, 159), (4, 5), (5, 5), (6, 160), (7, 161), (8, 162), (9, 163), (10, 164)] }),
  (166, { agg := true, size := 11, bytes := 48, zero := [.int .u64 0, .int .u64 0, .int .u32 0, .int .u8 0, .int .u8 0, .int .u8 0, .int .u8 0, .nilFunc, .pointer none, .int .i32 0, .int .i32 0], d := .struct [(0, 12), (1, 12), (2, 29), (3, 159), (4, 5), (5, 5), (6, 160), (7, 161), (8, 162), (9, 163), (10, 164)] })]
def tab : Tab := lookT tabL
@[simp] theorem tab_2 : tab 2 = some { agg := false, size := 1, bytes := 8, zero := [.int .i64 0], d := .int .i64, ck := some [.i64] } := rfl
@[simp] theorem tab_3 : tab 3 = some { agg := false, size := 1, bytes := 8, zero := [.int .i64 0], d := .int .i64, ck := some [.i64] } := rfl
@[simp] theorem tab_4 : tab 4 = some { agg := false, size := 1, bytes := 1, zero := [.bool false], d := .bool } := rfl
@[simp] theorem tab_5 : tab 5 = some { agg := false, size := 1, bytes := 1, zero := [.int .u8 0], d := .int .u8, ck := some [.u8] } := rfl
@[simp] theorem tab_6 : tab 6 = some { agg := false, size := 1, bytes := 1, zero := [.int .u8 0], d := .int .u8, ck := some [.u8] } := rfl
@[simp] theorem tab_7 : tab 7 = some { agg := true, size := 4, bytes := 24, zero := [.int .i64 0, .int .i64 0, .bool false, .int .u8 0], d := .struct [(0, 2), (1, 3), (2, 4), (3, 6)] } := rfl
@[simp] theorem tab_8 : tab 8 = some { agg := true, size := 4, bytes := 24, zero := [.int .i64 0, .int .i64 0, .bool false, .int .u8 0], d := .struct [(0, 2), (1, 3), (2, 4), (3, 6)] } := rfl
@[simp] theorem tab_9 : tab 9 = some { agg := false, size := 1, bytes := 16, zero := [.string ⟨#[]⟩], d := .str } := rfl
@[simp] theorem tab_10 : tab 10 = some { agg := false, size := 1, bytes := 16, zero := [.string ⟨#[]⟩], d := .str } := rfl
@[simp] theorem tab_11 : tab 11 = some { agg := false, size := 1, bytes := 16, zero := [.string ⟨#[]⟩], d := .str } := rfl
@[simp] theorem tab_12 : tab 12 = some { agg := false, size := 1, bytes := 8, zero := [.int .u64 0], d := .int .u64, ck := some [.u64] } := rfl
@[simp] theorem tab_13 : tab 13 = some { agg := true, size := 2, bytes := 24, zero := [.string ⟨#[]⟩, .int .u64 0], d := .struct [(0, 9), (1, 12)] } := rfl
@[simp] theorem tab_14 : tab 14 = some { agg := true, size := 2, bytes := 24, zero := [.string ⟨#[]⟩, .int .u64 0], d := .struct [(0, 9), (1, 12)] } := rfl
@[simp] theorem tab_15 : tab 15 = some { agg := false, size := 1, bytes := 8, zero := [.pointer none], d := .ptr 155 } := rfl
@[simp] theorem tab_16 : tab 16 = some { agg := false, size := 1, bytes := 8, zero := [.pointer none], d := .ptr 158 } := rfl
@[simp] theorem tab_17 : tab 17 = some { agg := false, size := 1, bytes := 8, zero := [.pointer none], d := .ptr 166 } := rfl
@[simp] theorem tab_18 : tab 18 = some { agg := true, size := 1, bytes := 8, zero := [.pointer none], d := .struct [(0, 17)] } := rfl
@[simp] theorem tab_19 : tab 19 = some { agg := true, size := 1, bytes := 8, zero := [.pointer none], d := .struct [(0, 17)] } := rfl
@[simp] theorem tab_21 : tab 21 = some { agg := false, size := 1, bytes := 4, zero := [.int .i32 0], d := .int .i32, ck := some [.i32] } := rfl
@[simp] theorem tab_22 : tab 22 = some { agg := false, size := 1, bytes := 24, zero := [.slice none 0 0], d := .slice 29 } := rfl
@[simp] theorem tab_23 : tab 23 = some { agg := false, size := 1, bytes := 24, zero := [.slice none 0 0], d := .slice 55 } := rfl
@[simp] theorem tab_24 : tab 24 = some { agg := true, size := 2, bytes := 48, zero := [.slice none 0 0, .slice none 0 0], d := .struct [(0, 22), (1, 23)] } := rfl
@[simp] theorem tab_25 : tab 25 = some { agg := true, size := 2, bytes := 48, zero := [.slice none 0 0, .slice none 0 0], d := .struct [(0, 22), (1, 23)] } := rfl
@[simp] theorem tab_26 : tab 26 = some { agg := false, size := 1, bytes := 24, zero := [.slice none 0 0], d := .slice 22 } := rfl
@[simp] theorem tab_27 : tab 27 = some { agg := true, size := 3, bytes := 72, zero := [.slice none 0 0, .slice none 0 0, .slice none 0 0], d := .struct [(0, 25), (2, 26)] } := rfl
@[simp] theorem tab_28 : tab 28 = some { agg := true, size := 3, bytes := 72, zero := [.slice none 0 0, .slice none 0 0, .slice none 0 0], d := .struct [(0, 25), (2, 26)] } := rfl
@[simp] theorem tab_29 : tab 29 = some { agg := false, size := 1, bytes := 4, zero := [.int .u32 0], d := .int .u32, ck := some [.u32] } := rfl
@[simp] theorem tab_38 : tab 38 = some { agg := false, size := 1, bytes := 8, zero := [.int .i64 0], d := .int .i64, ck := some [.i64] } := rfl
@[simp] theorem tab_40 : tab 40 = some { agg := false, size := 1, bytes := 8, zero := [.pointer none], d := .ptr 78 } := rfl
@[simp] theorem tab_49 : tab 49 = some { agg := false, size := 1, bytes := 24, zero := [.slice none 0 0], d := .slice 57 } := rfl
@[simp] theorem tab_54 : tab 54 = some { agg := true, size := 3, bytes := 12, zero := [.int .u32 0, .int .u32 0, .int .u32 0], d := .struct [(0, 29), (1, 29), (2, 29)], ck := some [.u32, .u32, .u32] } := rfl
@[simp] theorem tab_55 : tab 55 = some { agg := true, size := 3, bytes := 12, zero := [.int .u32 0, .int .u32 0, .int .u32 0], d := .struct [(0, 29), (1, 29), (2, 29)], ck := some [.u32, .u32, .u32] } := rfl
@[simp] theorem tab_56 : tab 56 = some { agg := true, size := 3, bytes := 24, zero := [.int .u32 0, .int .i64 0, .int .i64 0], d := .struct [(0, 29), (1, 3), (2, 3)], ck := some [.u32, .i64, .i64] } := rfl
@[simp] theorem tab_57 : tab 57 = some { agg := true, size := 3, bytes := 24, zero := [.int .u32 0, .int .i64 0, .int .i64 0], d := .struct [(0, 29), (1, 3), (2, 3)], ck := some [.u32, .i64, .i64] } := rfl
@[simp] theorem tab_58 : tab 58 = some { agg := false, size := 1, bytes := 24, zero := [.slice none 0 0], d := .slice 3 } := rfl
@[simp] theorem tab_63 : tab 63 = some { agg := false, size := 1, bytes := 8, zero := [.map none], d := .map 29 22 } := rfl
@[simp] theorem tab_67 : tab 67 = some { agg := false, size := 1, bytes := 8, zero := [.map none], d := .map 29 29 } := rfl
@[simp] theorem tab_69 : tab 69 = some { agg := false, size := 1, bytes := 8, zero := [.map none], d := .map 29 3 } := rfl
@[simp] theorem tab_70 : tab 70 = some { agg := false, size := 1, bytes := 8, zero := [.nilFunc], d := .other } := rfl
@[simp] theorem tab_77 : tab 77 = some { agg := true, size := 3, bytes := 56, zero := [.slice none 0 0, .slice none 0 0, .map none], d := .struct [(0, 23), (1, 26), (2, 69)] } := rfl
@[simp] theorem tab_78 : tab 78 = some { agg := true, size := 3, bytes := 56, zero := [.slice none 0 0, .slice none 0 0, .map none], d := .struct [(0, 23), (1, 26), (2, 69)] } := rfl
@[simp] theorem tab_85 : tab 85 = some { agg := false, size := 1, bytes := 8, zero := [.int .u64 0], d := .int .u64, ck := some [.u64] } := rfl
@[simp] theorem tab_101 : tab 101 = some { agg := false, size := 1, bytes := 8, zero := [.map none], d := .map 29 4 } := rfl
@[simp] theorem tab_106 : tab 106 = some { agg := false, size := 1, bytes := 8, zero := [.int .i64 0], d := .int .i64, ck := some [.i64] } := rfl
@[simp] theorem tab_115 : tab 115 = some { agg := false, size := 1, bytes := 8, zero := [.int .u64 0], d := .int .u64, ck := some [.u64] } := rfl
@[simp] theorem tab_118 : tab 118 = some { agg := false, size := 1, bytes := 8, zero := [.nilFunc], d := .other } := rfl
@[simp] theorem tab_126 : tab 126 = some { agg := false, size := 1, bytes := 8, zero := [.int .u64 0], d := .int .u64, ck := some [.u64] } := rfl
@[simp] theorem tab_130 : tab 130 = some { agg := false, size := 1, bytes := 8, zero := [.pointer none], d := .ptr 3 } := rfl
@[simp] theorem tab_143 : tab 143 = some { agg := false, size := 1, bytes := 8, zero := [.pointer none], d := .ptr 126 } := rfl
@[simp] theorem tab_154 : tab 154 = some { agg := true, size := 4, bytes := 40, zero := [.pointer none, .pointer none, .pointer none, .string ⟨#[]⟩], d := .struct [(0, 17), (1, 17), (2, 17), (3, 9)] } := rfl
@[simp] theorem tab_155 : tab 155 = some { agg := true, size := 4, bytes := 40, zero := [.pointer none, .pointer none, .pointer none, .string ⟨#[]⟩], d := .struct [(0, 17), (1, 17), (2, 17), (3, 9)] } := rfl
@[simp] theorem tab_156 : tab 156 = some { agg := true, size := 0, bytes := 0, zero := [], d := .arr 0 16 } := rfl
@[simp] theorem tab_157 : tab 157 = some { agg := true, size := 0, bytes := 0, zero := [], d := .struct [(0, 156)] } := rfl
@[simp] theorem tab_158 : tab 158 = some { agg := true, size := 0, bytes := 0, zero := [], d := .struct [(0, 156)] } := rfl
@[simp] theorem tab_159 : tab 159 = some { agg := false, size := 1, bytes := 1, zero := [.int .u8 0], d := .int .u8, ck := some [.u8] } := rfl
@[simp] theorem tab_160 : tab 160 = some { agg := false, size := 1, bytes := 1, zero := [.int .u8 0], d := .int .u8, ck := some [.u8] } := rfl
@[simp] theorem tab_162 : tab 162 = some { agg := false, size := 1, bytes := 8, zero := [.pointer none], d := .ptr 5 } := rfl
@[simp] theorem tab_163 : tab 163 = some { agg := false, size := 1, bytes := 4, zero := [.int .i32 0], d := .int .i32, ck := some [.i32] } := rfl
@[simp] theorem tab_164 : tab 164 = some { agg := false, size := 1, bytes := 4, zero := [.int .i32 0], d := .int .i32, ck := some [.i32] } := rfl
@[simp] theorem tab_165 : tab 165 = some { agg := true, size := 11, bytes := 48, zero := [.int .u64 0, .int .u64 0, .int .u32 0, .int .u8 0, .int .u8 0, .int .u8 0, .int .u8 0, .nilFunc, .pointer none, .int .i32 0, .int .i32 0], d := .struct [(0, 12), (1, 12), (2, 29), (3, 159), (4, 5), (5, 5), (6, 160), (7, 161), (8, 162), (9, 163), (10, 164)] } := rfl
@[simp] theorem tab_166 : tab 166 = some { agg := true, size := 11, bytes := 48, zero := [.int .u64 0, .int .u64 0, .int .u32 0, .int .u8 0, .int .u8 0, .int .u8 0, .int .u8 0, .nilFunc, .pointer none, .int .i32 0, .int .i32 0], d := .struct [(0, 12), (1, 12), (2, 29), (3, 159), (4, 5), (5, 5), (6, 160), (7, 161), (8, 162), (9, 163), (10, 164)] } := rfl
theorem info_of {P : Program} {t size bytes : Nat} {z : Value} (h : (P.info? t).map (fun i => (i.size, i.bytes, i.zero)) = some (size, bytes, some z)) : ∃ i, P.info? t = some i ∧ i.size = size ∧ i.bytes = bytes ∧ i.zero = some z := by
  cases hi : P.info? t with
  | none => simp [hi] at h
  | some i =>
    simp only [hi, Option.map_some, Option.some.injEq, Prod.mk.injEq] at h
    exact ⟨i, rfl, h.1, h.2.1, h.2.2⟩
theorem eqOk_54 : EqOk Tryz.prog 54 true [.u32, .u32, .u32] := by
  have u29 := Tryz.underlying29
  have a29 := Tryz.isAgg29
  have z29 := Tryz.sizeOf29
  have hp : Tryz.prog.stoodInHeld 54 = false := by kernel_rfl
  refine ⟨fun w as1 bs1 h1 h2 => ?_, fun w em as1 h1 => ?_, fun _ => by kernel_rfl, (fun h => by cases h), _, Tryz.underlying54, .inr fun as1 bs1 h1 h2 => by simp [mkV, Instr.sameNow]⟩
  · match as1, bs1, h1, h2 with
    | [x0, x1, x2], [y0, y1, y2], _, _ =>
      have hS : Tryz.prog.underlying 54 = some (.struct (Tryz.prog.fieldsOf 54)) := by kernel_rfl
      simp only [mkV, mkC, if_true]
      unfold Op.equal Op.maxDepth
      rw [show (10000 : Nat) = 9999 + 1 from rfl, run_equalIn_agg w 9999 54 _ _ hS hp]
      simp only [Program.fieldsOf, Tryz.underlying54]
      go_simp
      by_cases e0 : x0 = y0 <;> by_cases e1 : x1 = y1 <;> by_cases e2 : x2 = y2 <;> simp [e0, e1, e2]
  · match as1, h1 with
    | [x0, x1, x2], _ =>
      simp only [mkV, mkC, if_true]
      unfold Instr.checkKey
      simp only [Sem.run_bind, run_underlying Tryz.underlying54, Result.andThen_ok]
      go_simp
      (try simp [chk_int u29])
theorem eqOk_55 : EqOk Tryz.prog 55 true [.u32, .u32, .u32] := by
  have u29 := Tryz.underlying29
  have a29 := Tryz.isAgg29
  have z29 := Tryz.sizeOf29
  have hp : Tryz.prog.stoodInHeld 55 = false := by kernel_rfl
  refine ⟨fun w as1 bs1 h1 h2 => ?_, fun w em as1 h1 => ?_, fun _ => by kernel_rfl, (fun h => by cases h), _, Tryz.underlying55, .inr fun as1 bs1 h1 h2 => by simp [mkV, Instr.sameNow]⟩
  · match as1, bs1, h1, h2 with
    | [x0, x1, x2], [y0, y1, y2], _, _ =>
      have hS : Tryz.prog.underlying 55 = some (.struct (Tryz.prog.fieldsOf 55)) := by kernel_rfl
      simp only [mkV, mkC, if_true]
      unfold Op.equal Op.maxDepth
      rw [show (10000 : Nat) = 9999 + 1 from rfl, run_equalIn_agg w 9999 55 _ _ hS hp]
      simp only [Program.fieldsOf, Tryz.underlying55]
      go_simp
      by_cases e0 : x0 = y0 <;> by_cases e1 : x1 = y1 <;> by_cases e2 : x2 = y2 <;> simp [e0, e1, e2]
  · match as1, h1 with
    | [x0, x1, x2], _ =>
      simp only [mkV, mkC, if_true]
      unfold Instr.checkKey
      simp only [Sem.run_bind, run_underlying Tryz.underlying55, Result.andThen_ok]
      go_simp
      (try simp [chk_int u29])
theorem eqOk_56 : EqOk Tryz.prog 56 true [.u32, .i64, .i64] := by
  have u3 := Tryz.underlying3
  have a3 := Tryz.isAgg3
  have z3 := Tryz.sizeOf3
  have u29 := Tryz.underlying29
  have a29 := Tryz.isAgg29
  have z29 := Tryz.sizeOf29
  have hp : Tryz.prog.stoodInHeld 56 = false := by kernel_rfl
  refine ⟨fun w as1 bs1 h1 h2 => ?_, fun w em as1 h1 => ?_, fun _ => by kernel_rfl, (fun h => by cases h), _, Tryz.underlying56, .inr fun as1 bs1 h1 h2 => by simp [mkV, Instr.sameNow]⟩
  · match as1, bs1, h1, h2 with
    | [x0, x1, x2], [y0, y1, y2], _, _ =>
      have hS : Tryz.prog.underlying 56 = some (.struct (Tryz.prog.fieldsOf 56)) := by kernel_rfl
      simp only [mkV, mkC, if_true]
      unfold Op.equal Op.maxDepth
      rw [show (10000 : Nat) = 9999 + 1 from rfl, run_equalIn_agg w 9999 56 _ _ hS hp]
      simp only [Program.fieldsOf, Tryz.underlying56]
      go_simp
      by_cases e0 : x0 = y0 <;> by_cases e1 : x1 = y1 <;> by_cases e2 : x2 = y2 <;> simp [e0, e1, e2]
  · match as1, h1 with
    | [x0, x1, x2], _ =>
      simp only [mkV, mkC, if_true]
      unfold Instr.checkKey
      simp only [Sem.run_bind, run_underlying Tryz.underlying56, Result.andThen_ok]
      go_simp
      (try simp [chk_int u3, chk_int u29])
theorem eqOk_57 : EqOk Tryz.prog 57 true [.u32, .i64, .i64] := by
  have u3 := Tryz.underlying3
  have a3 := Tryz.isAgg3
  have z3 := Tryz.sizeOf3
  have u29 := Tryz.underlying29
  have a29 := Tryz.isAgg29
  have z29 := Tryz.sizeOf29
  have hp : Tryz.prog.stoodInHeld 57 = false := by kernel_rfl
  refine ⟨fun w as1 bs1 h1 h2 => ?_, fun w em as1 h1 => ?_, fun _ => by kernel_rfl, (fun h => by cases h), _, Tryz.underlying57, .inr fun as1 bs1 h1 h2 => by simp [mkV, Instr.sameNow]⟩
  · match as1, bs1, h1, h2 with
    | [x0, x1, x2], [y0, y1, y2], _, _ =>
      have hS : Tryz.prog.underlying 57 = some (.struct (Tryz.prog.fieldsOf 57)) := by kernel_rfl
      simp only [mkV, mkC, if_true]
      unfold Op.equal Op.maxDepth
      rw [show (10000 : Nat) = 9999 + 1 from rfl, run_equalIn_agg w 9999 57 _ _ hS hp]
      simp only [Program.fieldsOf, Tryz.underlying57]
      go_simp
      by_cases e0 : x0 = y0 <;> by_cases e1 : x1 = y1 <;> by_cases e2 : x2 = y2 <;> simp [e0, e1, e2]
  · match as1, h1 with
    | [x0, x1, x2], _ =>
      simp only [mkV, mkC, if_true]
      unfold Instr.checkKey
      simp only [Sem.run_bind, run_underlying Tryz.underlying57, Result.andThen_ok]
      go_simp
      (try simp [chk_int u3, chk_int u29])
theorem rowOk_2 : RowOk Tryz.prog 2 { agg := false, size := 1, bytes := 8, zero := [.int .i64 0], d := .int .i64, ck := some [.i64] } :=
  ⟨Tryz.isAgg2, info_of (z := .int .i64 0) (by kernel_rfl), rfl, fun _ => rfl, rfl, Tryz.underlying2, (fun ks h => by injection h with h; subst h; exact eqOk_int Tryz.underlying2)⟩
theorem rowOk_3 : RowOk Tryz.prog 3 { agg := false, size := 1, bytes := 8, zero := [.int .i64 0], d := .int .i64, ck := some [.i64] } :=
  ⟨Tryz.isAgg3, info_of (z := .int .i64 0) (by kernel_rfl), rfl, fun _ => rfl, rfl, Tryz.underlying3, (fun ks h => by injection h with h; subst h; exact eqOk_int Tryz.underlying3)⟩
theorem rowOk_4 : RowOk Tryz.prog 4 { agg := false, size := 1, bytes := 1, zero := [.bool false], d := .bool } :=
  ⟨Tryz.isAgg4, info_of (z := .bool false) (by kernel_rfl), rfl, fun _ => rfl, rfl, Tryz.underlying4, (fun ks h => by cases h)⟩
theorem rowOk_5 : RowOk Tryz.prog 5 { agg := false, size := 1, bytes := 1, zero := [.int .u8 0], d := .int .u8, ck := some [.u8] } :=
  ⟨Tryz.isAgg5, info_of (z := .int .u8 0) (by kernel_rfl), rfl, fun _ => rfl, rfl, Tryz.underlying5, (fun ks h => by injection h with h; subst h; exact eqOk_int Tryz.underlying5)⟩
theorem rowOk_6 : RowOk Tryz.prog 6 { agg := false, size := 1, bytes := 1, zero := [.int .u8 0], d := .int .u8, ck := some [.u8] } :=
  ⟨Tryz.isAgg6, info_of (z := .int .u8 0) (by kernel_rfl), rfl, fun _ => rfl, rfl, Tryz.underlying6, (fun ks h => by injection h with h; subst h; exact eqOk_int Tryz.underlying6)⟩
theorem rowOk_7 : RowOk Tryz.prog 7 { agg := true, size := 4, bytes := 24, zero := [.int .i64 0, .int .i64 0, .bool false, .int .u8 0], d := .struct [(0, 2), (1, 3), (2, 4), (3, 6)] } :=
  ⟨Tryz.isAgg7, info_of (z := .agg #[.int .i64 0, .int .i64 0, .bool false, .int .u8 0]) (by kernel_rfl), rfl, (fun h => by cases h), rfl, ⟨_, Tryz.underlying7, rfl⟩, (fun ks h => by cases h)⟩
theorem rowOk_8 : RowOk Tryz.prog 8 { agg := true, size := 4, bytes := 24, zero := [.int .i64 0, .int .i64 0, .bool false, .int .u8 0], d := .struct [(0, 2), (1, 3), (2, 4), (3, 6)] } :=
  ⟨Tryz.isAgg8, info_of (z := .agg #[.int .i64 0, .int .i64 0, .bool false, .int .u8 0]) (by kernel_rfl), rfl, (fun h => by cases h), rfl, ⟨_, Tryz.underlying8, rfl⟩, (fun ks h => by cases h)⟩
theorem rowOk_9 : RowOk Tryz.prog 9 { agg := false, size := 1, bytes := 16, zero := [.string ⟨#[]⟩], d := .str } :=
  ⟨Tryz.isAgg9, info_of (z := .string ⟨#[]⟩) (by kernel_rfl), rfl, fun _ => rfl, rfl, Tryz.underlying9, (fun ks h => by cases h)⟩
theorem rowOk_10 : RowOk Tryz.prog 10 { agg := false, size := 1, bytes := 16, zero := [.string ⟨#[]⟩], d := .str } :=
  ⟨Tryz.isAgg10, info_of (z := .string ⟨#[]⟩) (by kernel_rfl), rfl, fun _ => rfl, rfl, Tryz.underlying10, (fun ks h => by cases h)⟩
theorem rowOk_11 : RowOk Tryz.prog 11 { agg := false, size := 1, bytes := 16, zero := [.string ⟨#[]⟩], d := .str } :=
  ⟨Tryz.isAgg11, info_of (z := .string ⟨#[]⟩) (by kernel_rfl), rfl, fun _ => rfl, rfl, Tryz.underlying11, (fun ks h => by cases h)⟩
theorem rowOk_12 : RowOk Tryz.prog 12 { agg := false, size := 1, bytes := 8, zero := [.int .u64 0], d := .int .u64, ck := some [.u64] } :=
  ⟨Tryz.isAgg12, info_of (z := .int .u64 0) (by kernel_rfl), rfl, fun _ => rfl, rfl, Tryz.underlying12, (fun ks h => by injection h with h; subst h; exact eqOk_int Tryz.underlying12)⟩
theorem rowOk_13 : RowOk Tryz.prog 13 { agg := true, size := 2, bytes := 24, zero := [.string ⟨#[]⟩, .int .u64 0], d := .struct [(0, 9), (1, 12)] } :=
  ⟨Tryz.isAgg13, info_of (z := .agg #[.string ⟨#[]⟩, .int .u64 0]) (by kernel_rfl), rfl, (fun h => by cases h), rfl, ⟨_, Tryz.underlying13, rfl⟩, (fun ks h => by cases h)⟩
theorem rowOk_14 : RowOk Tryz.prog 14 { agg := true, size := 2, bytes := 24, zero := [.string ⟨#[]⟩, .int .u64 0], d := .struct [(0, 9), (1, 12)] } :=
  ⟨Tryz.isAgg14, info_of (z := .agg #[.string ⟨#[]⟩, .int .u64 0]) (by kernel_rfl), rfl, (fun h => by cases h), rfl, ⟨_, Tryz.underlying14, rfl⟩, (fun ks h => by cases h)⟩
theorem rowOk_15 : RowOk Tryz.prog 15 { agg := false, size := 1, bytes := 8, zero := [.pointer none], d := .ptr 155 } :=
  ⟨Tryz.isAgg15, info_of (z := .pointer none) (by kernel_rfl), rfl, fun _ => rfl, rfl, Tryz.underlying15, (fun ks h => by cases h)⟩
theorem rowOk_16 : RowOk Tryz.prog 16 { agg := false, size := 1, bytes := 8, zero := [.pointer none], d := .ptr 158 } :=
  ⟨Tryz.isAgg16, info_of (z := .pointer none) (by kernel_rfl), rfl, fun _ => rfl, rfl, Tryz.underlying16, (fun ks h => by cases h)⟩
theorem rowOk_17 : RowOk Tryz.prog 17 { agg := false, size := 1, bytes := 8, zero := [.pointer none], d := .ptr 166 } :=
  ⟨Tryz.isAgg17, info_of (z := .pointer none) (by kernel_rfl), rfl, fun _ => rfl, rfl, Tryz.underlying17, (fun ks h => by cases h)⟩
theorem rowOk_18 : RowOk Tryz.prog 18 { agg := true, size := 1, bytes := 8, zero := [.pointer none], d := .struct [(0, 17)] } :=
  ⟨Tryz.isAgg18, info_of (z := .agg #[.pointer none]) (by kernel_rfl), rfl, (fun h => by cases h), rfl, ⟨_, Tryz.underlying18, rfl⟩, (fun ks h => by cases h)⟩
theorem rowOk_19 : RowOk Tryz.prog 19 { agg := true, size := 1, bytes := 8, zero := [.pointer none], d := .struct [(0, 17)] } :=
  ⟨Tryz.isAgg19, info_of (z := .agg #[.pointer none]) (by kernel_rfl), rfl, (fun h => by cases h), rfl, ⟨_, Tryz.underlying19, rfl⟩, (fun ks h => by cases h)⟩
theorem rowOk_21 : RowOk Tryz.prog 21 { agg := false, size := 1, bytes := 4, zero := [.int .i32 0], d := .int .i32, ck := some [.i32] } :=
  ⟨Tryz.isAgg21, info_of (z := .int .i32 0) (by kernel_rfl), rfl, fun _ => rfl, rfl, Tryz.underlying21, (fun ks h => by injection h with h; subst h; exact eqOk_int Tryz.underlying21)⟩
theorem rowOk_22 : RowOk Tryz.prog 22 { agg := false, size := 1, bytes := 24, zero := [.slice none 0 0], d := .slice 29 } :=
  ⟨Tryz.isAgg22, info_of (z := .slice none 0 0) (by kernel_rfl), rfl, fun _ => rfl, rfl, Tryz.underlying22, (fun ks h => by cases h)⟩
theorem rowOk_23 : RowOk Tryz.prog 23 { agg := false, size := 1, bytes := 24, zero := [.slice none 0 0], d := .slice 55 } :=
  ⟨Tryz.isAgg23, info_of (z := .slice none 0 0) (by kernel_rfl), rfl, fun _ => rfl, rfl, Tryz.underlying23, (fun ks h => by cases h)⟩
theorem rowOk_24 : RowOk Tryz.prog 24 { agg := true, size := 2, bytes := 48, zero := [.slice none 0 0, .slice none 0 0], d := .struct [(0, 22), (1, 23)] } :=
  ⟨Tryz.isAgg24, info_of (z := .agg #[.slice none 0 0, .slice none 0 0]) (by kernel_rfl), rfl, (fun h => by cases h), rfl, ⟨_, Tryz.underlying24, rfl⟩, (fun ks h => by cases h)⟩
theorem rowOk_25 : RowOk Tryz.prog 25 { agg := true, size := 2, bytes := 48, zero := [.slice none 0 0, .slice none 0 0], d := .struct [(0, 22), (1, 23)] } :=
  ⟨Tryz.isAgg25, info_of (z := .agg #[.slice none 0 0, .slice none 0 0]) (by kernel_rfl), rfl, (fun h => by cases h), rfl, ⟨_, Tryz.underlying25, rfl⟩, (fun ks h => by cases h)⟩
theorem rowOk_26 : RowOk Tryz.prog 26 { agg := false, size := 1, bytes := 24, zero := [.slice none 0 0], d := .slice 22 } :=
  ⟨Tryz.isAgg26, info_of (z := .slice none 0 0) (by kernel_rfl), rfl, fun _ => rfl, rfl, Tryz.underlying26, (fun ks h => by cases h)⟩
theorem rowOk_27 : RowOk Tryz.prog 27 { agg := true, size := 3, bytes := 72, zero := [.slice none 0 0, .slice none 0 0, .slice none 0 0], d := .struct [(0, 25), (2, 26)] } :=
  ⟨Tryz.isAgg27, info_of (z := .agg #[.slice none 0 0, .slice none 0 0, .slice none 0 0]) (by kernel_rfl), rfl, (fun h => by cases h), rfl, ⟨_, Tryz.underlying27, rfl⟩, (fun ks h => by cases h)⟩
theorem rowOk_28 : RowOk Tryz.prog 28 { agg := true, size := 3, bytes := 72, zero := [.slice none 0 0, .slice none 0 0, .slice none 0 0], d := .struct [(0, 25), (2, 26)] } :=
  ⟨Tryz.isAgg28, info_of (z := .agg #[.slice none 0 0, .slice none 0 0, .slice none 0 0]) (by kernel_rfl), rfl, (fun h => by cases h), rfl, ⟨_, Tryz.underlying28, rfl⟩, (fun ks h => by cases h)⟩
theorem rowOk_29 : RowOk Tryz.prog 29 { agg := false, size := 1, bytes := 4, zero := [.int .u32 0], d := .int .u32, ck := some [.u32] } :=
  ⟨Tryz.isAgg29, info_of (z := .int .u32 0) (by kernel_rfl), rfl, fun _ => rfl, rfl, Tryz.underlying29, (fun ks h => by injection h with h; subst h; exact eqOk_int Tryz.underlying29)⟩
theorem rowOk_38 : RowOk Tryz.prog 38 { agg := false, size := 1, bytes := 8, zero := [.int .i64 0], d := .int .i64, ck := some [.i64] } :=
  ⟨Tryz.isAgg38, info_of (z := .int .i64 0) (by kernel_rfl), rfl, fun _ => rfl, rfl, Tryz.underlying38, (fun ks h => by injection h with h; subst h; exact eqOk_int Tryz.underlying38)⟩
theorem rowOk_40 : RowOk Tryz.prog 40 { agg := false, size := 1, bytes := 8, zero := [.pointer none], d := .ptr 78 } :=
  ⟨Tryz.isAgg40, info_of (z := .pointer none) (by kernel_rfl), rfl, fun _ => rfl, rfl, Tryz.underlying40, (fun ks h => by cases h)⟩
theorem rowOk_49 : RowOk Tryz.prog 49 { agg := false, size := 1, bytes := 24, zero := [.slice none 0 0], d := .slice 57 } :=
  ⟨Tryz.isAgg49, info_of (z := .slice none 0 0) (by kernel_rfl), rfl, fun _ => rfl, rfl, Tryz.underlying49, (fun ks h => by cases h)⟩
theorem rowOk_54 : RowOk Tryz.prog 54 { agg := true, size := 3, bytes := 12, zero := [.int .u32 0, .int .u32 0, .int .u32 0], d := .struct [(0, 29), (1, 29), (2, 29)], ck := some [.u32, .u32, .u32] } :=
  ⟨Tryz.isAgg54, info_of (z := .agg #[.int .u32 0, .int .u32 0, .int .u32 0]) (by kernel_rfl), rfl, (fun h => by cases h), rfl, ⟨_, Tryz.underlying54, rfl⟩, (fun ks h => by injection h with h; subst h; exact eqOk_54)⟩
theorem rowOk_55 : RowOk Tryz.prog 55 { agg := true, size := 3, bytes := 12, zero := [.int .u32 0, .int .u32 0, .int .u32 0], d := .struct [(0, 29), (1, 29), (2, 29)], ck := some [.u32, .u32, .u32] } :=
  ⟨Tryz.isAgg55, info_of (z := .agg #[.int .u32 0, .int .u32 0, .int .u32 0]) (by kernel_rfl), rfl, (fun h => by cases h), rfl, ⟨_, Tryz.underlying55, rfl⟩, (fun ks h => by injection h with h; subst h; exact eqOk_55)⟩
theorem rowOk_56 : RowOk Tryz.prog 56 { agg := true, size := 3, bytes := 24, zero := [.int .u32 0, .int .i64 0, .int .i64 0], d := .struct [(0, 29), (1, 3), (2, 3)], ck := some [.u32, .i64, .i64] } :=
  ⟨Tryz.isAgg56, info_of (z := .agg #[.int .u32 0, .int .i64 0, .int .i64 0]) (by kernel_rfl), rfl, (fun h => by cases h), rfl, ⟨_, Tryz.underlying56, rfl⟩, (fun ks h => by injection h with h; subst h; exact eqOk_56)⟩
theorem rowOk_57 : RowOk Tryz.prog 57 { agg := true, size := 3, bytes := 24, zero := [.int .u32 0, .int .i64 0, .int .i64 0], d := .struct [(0, 29), (1, 3), (2, 3)], ck := some [.u32, .i64, .i64] } :=
  ⟨Tryz.isAgg57, info_of (z := .agg #[.int .u32 0, .int .i64 0, .int .i64 0]) (by kernel_rfl), rfl, (fun h => by cases h), rfl, ⟨_, Tryz.underlying57, rfl⟩, (fun ks h => by injection h with h; subst h; exact eqOk_57)⟩
theorem rowOk_58 : RowOk Tryz.prog 58 { agg := false, size := 1, bytes := 24, zero := [.slice none 0 0], d := .slice 3 } :=
  ⟨Tryz.isAgg58, info_of (z := .slice none 0 0) (by kernel_rfl), rfl, fun _ => rfl, rfl, Tryz.underlying58, (fun ks h => by cases h)⟩
theorem rowOk_63 : RowOk Tryz.prog 63 { agg := false, size := 1, bytes := 8, zero := [.map none], d := .map 29 22 } :=
  ⟨Tryz.isAgg63, info_of (z := .map none) (by kernel_rfl), rfl, fun _ => rfl, rfl, Tryz.underlying63, (fun ks h => by cases h)⟩
theorem rowOk_67 : RowOk Tryz.prog 67 { agg := false, size := 1, bytes := 8, zero := [.map none], d := .map 29 29 } :=
  ⟨Tryz.isAgg67, info_of (z := .map none) (by kernel_rfl), rfl, fun _ => rfl, rfl, Tryz.underlying67, (fun ks h => by cases h)⟩
theorem rowOk_69 : RowOk Tryz.prog 69 { agg := false, size := 1, bytes := 8, zero := [.map none], d := .map 29 3 } :=
  ⟨Tryz.isAgg69, info_of (z := .map none) (by kernel_rfl), rfl, fun _ => rfl, rfl, Tryz.underlying69, (fun ks h => by cases h)⟩
theorem rowOk_70 : RowOk Tryz.prog 70 { agg := false, size := 1, bytes := 8, zero := [.nilFunc], d := .other } :=
  ⟨Tryz.isAgg70, info_of (z := .nilFunc) (by kernel_rfl), rfl, fun _ => rfl, rfl, trivial, (fun ks h => by cases h)⟩
theorem rowOk_77 : RowOk Tryz.prog 77 { agg := true, size := 3, bytes := 56, zero := [.slice none 0 0, .slice none 0 0, .map none], d := .struct [(0, 23), (1, 26), (2, 69)] } :=
  ⟨Tryz.isAgg77, info_of (z := .agg #[.slice none 0 0, .slice none 0 0, .map none]) (by kernel_rfl), rfl, (fun h => by cases h), rfl, ⟨_, Tryz.underlying77, rfl⟩, (fun ks h => by cases h)⟩
theorem rowOk_78 : RowOk Tryz.prog 78 { agg := true, size := 3, bytes := 56, zero := [.slice none 0 0, .slice none 0 0, .map none], d := .struct [(0, 23), (1, 26), (2, 69)] } :=
  ⟨Tryz.isAgg78, info_of (z := .agg #[.slice none 0 0, .slice none 0 0, .map none]) (by kernel_rfl), rfl, (fun h => by cases h), rfl, ⟨_, Tryz.underlying78, rfl⟩, (fun ks h => by cases h)⟩
theorem rowOk_85 : RowOk Tryz.prog 85 { agg := false, size := 1, bytes := 8, zero := [.int .u64 0], d := .int .u64, ck := some [.u64] } :=
  ⟨Tryz.isAgg85, info_of (z := .int .u64 0) (by kernel_rfl), rfl, fun _ => rfl, rfl, Tryz.underlying85, (fun ks h => by injection h with h; subst h; exact eqOk_int Tryz.underlying85)⟩
theorem rowOk_101 : RowOk Tryz.prog 101 { agg := false, size := 1, bytes := 8, zero := [.map none], d := .map 29 4 } :=
  ⟨Tryz.isAgg101, info_of (z := .map none) (by kernel_rfl), rfl, fun _ => rfl, rfl, Tryz.underlying101, (fun ks h => by cases h)⟩
theorem rowOk_106 : RowOk Tryz.prog 106 { agg := false, size := 1, bytes := 8, zero := [.int .i64 0], d := .int .i64, ck := some [.i64] } :=
  ⟨Tryz.isAgg106, info_of (z := .int .i64 0) (by kernel_rfl), rfl, fun _ => rfl, rfl, Tryz.underlying106, (fun ks h => by injection h with h; subst h; exact eqOk_int Tryz.underlying106)⟩
theorem rowOk_115 : RowOk Tryz.prog 115 { agg := false, size := 1, bytes := 8, zero := [.int .u64 0], d := .int .u64, ck := some [.u64] } :=
  ⟨Tryz.isAgg115, info_of (z := .int .u64 0) (by kernel_rfl), rfl, fun _ => rfl, rfl, Tryz.underlying115, (fun ks h => by injection h with h; subst h; exact eqOk_int Tryz.underlying115)⟩
theorem rowOk_118 : RowOk Tryz.prog 118 { agg := false, size := 1, bytes := 8, zero := [.nilFunc], d := .other } :=
  ⟨Tryz.isAgg118, info_of (z := .nilFunc) (by kernel_rfl), rfl, fun _ => rfl, rfl, trivial, (fun ks h => by cases h)⟩
theorem rowOk_126 : RowOk Tryz.prog 126 { agg := false, size := 1, bytes := 8, zero := [.int .u64 0], d := .int .u64, ck := some [.u64] } :=
  ⟨Tryz.isAgg126, info_of (z := .int .u64 0) (by kernel_rfl), rfl, fun _ => rfl, rfl, Tryz.underlying126, (fun ks h => by injection h with h; subst h; exact eqOk_int Tryz.underlying126)⟩
theorem rowOk_130 : RowOk Tryz.prog 130 { agg := false, size := 1, bytes := 8, zero := [.pointer none], d := .ptr 3 } :=
  ⟨Tryz.isAgg130, info_of (z := .pointer none) (by kernel_rfl), rfl, fun _ => rfl, rfl, Tryz.underlying130, (fun ks h => by cases h)⟩
theorem rowOk_143 : RowOk Tryz.prog 143 { agg := false, size := 1, bytes := 8, zero := [.pointer none], d := .ptr 126 } :=
  ⟨Tryz.isAgg143, info_of (z := .pointer none) (by kernel_rfl), rfl, fun _ => rfl, rfl, Tryz.underlying143, (fun ks h => by cases h)⟩
theorem rowOk_154 : RowOk Tryz.prog 154 { agg := true, size := 4, bytes := 40, zero := [.pointer none, .pointer none, .pointer none, .string ⟨#[]⟩], d := .struct [(0, 17), (1, 17), (2, 17), (3, 9)] } :=
  ⟨Tryz.isAgg154, info_of (z := .agg #[.pointer none, .pointer none, .pointer none, .string ⟨#[]⟩]) (by kernel_rfl), rfl, (fun h => by cases h), rfl, ⟨_, Tryz.underlying154, rfl⟩, (fun ks h => by cases h)⟩
theorem rowOk_155 : RowOk Tryz.prog 155 { agg := true, size := 4, bytes := 40, zero := [.pointer none, .pointer none, .pointer none, .string ⟨#[]⟩], d := .struct [(0, 17), (1, 17), (2, 17), (3, 9)] } :=
  ⟨Tryz.isAgg155, info_of (z := .agg #[.pointer none, .pointer none, .pointer none, .string ⟨#[]⟩]) (by kernel_rfl), rfl, (fun h => by cases h), rfl, ⟨_, Tryz.underlying155, rfl⟩, (fun ks h => by cases h)⟩
theorem rowOk_156 : RowOk Tryz.prog 156 { agg := true, size := 0, bytes := 0, zero := [], d := .arr 0 16 } :=
  ⟨Tryz.isAgg156, info_of (z := .agg #[]) (by kernel_rfl), rfl, (fun h => by cases h), rfl, Tryz.underlying156, (fun ks h => by cases h)⟩
theorem rowOk_157 : RowOk Tryz.prog 157 { agg := true, size := 0, bytes := 0, zero := [], d := .struct [(0, 156)] } :=
  ⟨Tryz.isAgg157, info_of (z := .agg #[]) (by kernel_rfl), rfl, (fun h => by cases h), rfl, ⟨_, Tryz.underlying157, rfl⟩, (fun ks h => by cases h)⟩
theorem rowOk_158 : RowOk Tryz.prog 158 { agg := true, size := 0, bytes := 0, zero := [], d := .struct [(0, 156)] } :=
  ⟨Tryz.isAgg158, info_of (z := .agg #[]) (by kernel_rfl), rfl, (fun h => by cases h), rfl, ⟨_, Tryz.underlying158, rfl⟩, (fun ks h => by cases h)⟩
theorem rowOk_159 : RowOk Tryz.prog 159 { agg := false, size := 1, bytes := 1, zero := [.int .u8 0], d := .int .u8, ck := some [.u8] } :=
  ⟨Tryz.isAgg159, info_of (z := .int .u8 0) (by kernel_rfl), rfl, fun _ => rfl, rfl, Tryz.underlying159, (fun ks h => by injection h with h; subst h; exact eqOk_int Tryz.underlying159)⟩
theorem rowOk_160 : RowOk Tryz.prog 160 { agg := false, size := 1, bytes := 1, zero := [.int .u8 0], d := .int .u8, ck := some [.u8] } :=
  ⟨Tryz.isAgg160, info_of (z := .int .u8 0) (by kernel_rfl), rfl, fun _ => rfl, rfl, Tryz.underlying160, (fun ks h => by injection h with h; subst h; exact eqOk_int Tryz.underlying160)⟩
theorem rowOk_162 : RowOk Tryz.prog 162 { agg := false, size := 1, bytes := 8, zero := [.pointer none], d := .ptr 5 } :=
  ⟨Tryz.isAgg162, info_of (z := .pointer none) (by kernel_rfl), rfl, fun _ => rfl, rfl, Tryz.underlying162, (fun ks h => by cases h)⟩
theorem rowOk_163 : RowOk Tryz.prog 163 { agg := false, size := 1, bytes := 4, zero := [.int .i32 0], d := .int .i32, ck := some [.i32] } :=
  ⟨Tryz.isAgg163, info_of (z := .int .i32 0) (by kernel_rfl), rfl, fun _ => rfl, rfl, Tryz.underlying163, (fun ks h => by injection h with h; subst h; exact eqOk_int Tryz.underlying163)⟩
theorem rowOk_164 : RowOk Tryz.prog 164 { agg := false, size := 1, bytes := 4, zero := [.int .i32 0], d := .int .i32, ck := some [.i32] } :=
  ⟨Tryz.isAgg164, info_of (z := .int .i32 0) (by kernel_rfl), rfl, fun _ => rfl, rfl, Tryz.underlying164, (fun ks h => by injection h with h; subst h; exact eqOk_int Tryz.underlying164)⟩
theorem rowOk_165 : RowOk Tryz.prog 165 { agg := true, size := 11, bytes := 48, zero := [.int .u64 0, .int .u64 0, .int .u32 0, .int .u8 0, .int .u8 0, .int .u8 0, .int .u8 0, .nilFunc, .pointer none, .int .i32 0, .int .i32 0], d := .struct [(0, 12), (1, 12), (2, 29), (3, 159), (4, 5), (5, 5), (6, 160), (7, 161), (8, 162), (9, 163), (10, 164)] } :=
  ⟨Tryz.isAgg165, info_of (z := .agg #[.int .u64 0, .int .u64 0, .int .u32 0, .int .u8 0, .int .u8 0, .int .u8 0, .int .u8 0, .nilFunc, .pointer none, .int .i32 0, .int .i32 0]) (by kernel_rfl), rfl, (fun h => by cases h), rfl, ⟨_, Tryz.underlying165, rfl⟩, (fun ks h => by cases h)⟩
theorem rowOk_166 : RowOk Tryz.prog 166 { agg := true, size := 11, bytes := 48, zero := [.int .u64 0, .int .u64 0, .int .u32 0, .int .u8 0, .int .u8 0, .int .u8 0, .int .u8 0, .nilFunc, .pointer none, .int .i32 0, .int .i32 0], d := .struct [(0, 12), (1, 12), (2, 29), (3, 159), (4, 5), (5, 5), (6, 160), (7, 161), (8, 162), (9, 163), (10, 164)] } :=
  ⟨Tryz.isAgg166, info_of (z := .agg #[.int .u64 0, .int .u64 0, .int .u32 0, .int .u8 0, .int .u8 0, .int .u8 0, .int .u8 0, .nilFunc, .pointer none, .int .i32 0, .int .i32 0]) (by kernel_rfl), rfl, (fun h => by cases h), rfl, ⟨_, Tryz.underlying166, rfl⟩, (fun ks h => by cases h)⟩
theorem tabOk : TabOk Tryz.prog tab := tabOk_of tabL ⟨rowOk_2, rowOk_3, rowOk_4, rowOk_5, rowOk_6, rowOk_7, rowOk_8, rowOk_9, rowOk_10, rowOk_11, rowOk_12, rowOk_13, rowOk_14, rowOk_15, rowOk_16, rowOk_17, rowOk_18, rowOk_19, rowOk_21, rowOk_22, rowOk_23, rowOk_24, rowOk_25, rowOk_26, rowOk_27, rowOk_28, rowOk_29, rowOk_38, rowOk_40, rowOk_49, rowOk_54, rowOk_55, rowOk_56, rowOk_57, rowOk_58, rowOk_63, rowOk_67, rowOk_69, rowOk_70, rowOk_77, rowOk_78, rowOk_85, rowOk_101, rowOk_106, rowOk_115, rowOk_118, rowOk_126, rowOk_130, rowOk_143, rowOk_154, rowOk_155, rowOk_156, rowOk_157, rowOk_158, rowOk_159, rowOk_160, rowOk_162, rowOk_163, rowOk_164, rowOk_165, rowOk_166, trivial⟩
end Go.Proofs.YtphdhggoaijfoaaGreat.Aw
