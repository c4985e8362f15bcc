/- The types of this seat's translation, as a table, and that the loaded program has them so. Written by a program (gentab.py). -/
import Derived.Test.YtaiakdhcajibnaaAwDraw
import Derived.Test.YtaiakdhcajibnaaProg
import Derived.KernelRfl
import Derived.Tactics
import Derived.Laws.StructEq
namespace Go.Proofs.Ytaiakdhcajibnaa.Aw
open Go Go.RowKit
set_option linter.unusedSimpArgs false
set_option linter.unusedVariables false
def tabL : List (Nat × TRow) := [
  (2, { agg := false, size := 1, bytes := 8, zero := [.int .i64 0], d := .int .i64, ck := some [.i64] }),
  (3, { agg := false, size := 1, bytes := 8, zero := [.int .i64 0], d := .int .i64, ck := some [.i64] }),
  (4, { agg := false, size := 1, bytes := 1, zero := [.bool false], d := .bool }),
  (5, { agg := false, size := 1, bytes := 1, zero := [.int .u8 0], d := .int .u8, ck := some [.u8] }),
  (6, { agg := false, size := 1, bytes := 1, zero := [.int .u8 0], d := .int .u8, ck := some [.u8] }),
  (7, { agg := true, size := 4, bytes := 24, zero := [.int .i64 0, .int .i64 0, .bool false, .int .u8 0], d := .struct [(0, 2), (1, 3), (2, 4), (3, 6)] }),
  (8, { agg := true, size := 4, bytes := 24, zero := [.int .i64 0, .int .i64 0, .bool false, .int .u8 0], d := .struct [(0, 2), (1, 3), (2, 4), (3, 6)] }),
  (9, { agg := false, size := 1, bytes := 16, zero := [.string ⟨#[]⟩], d := .str }),
  (10, { agg := false, size := 1, bytes := 16, zero := [.string ⟨#[]⟩], d := .str }),
  (11, { agg := false, size := 1, bytes := 16, zero := [.string ⟨#[]⟩], d := .str }),
  (12, { agg := false, size := 1, bytes := 8, zero := [.int .u64 0], d := .int .u64, ck := some [.u64] }),
  (13, { agg := true, size := 2, bytes := 24, zero := [.string ⟨#[]⟩, .int .u64 0], d := .struct [(0, 9), (1, 12)] }),
  (14, { agg := true, size := 2, bytes := 24, zero := [.string ⟨#[]⟩, .int .u64 0], d := .struct [(0, 9), (1, 12)] }),
  (15, { agg := false, size := 1, bytes := 8, zero := [.pointer none], d := .ptr 126 }),
  (16, { agg := false, size := 1, bytes := 8, zero := [.pointer none], d := .ptr 129 }),
  (17, { agg := false, size := 1, bytes := 8, zero := [.pointer none], d := .ptr 138 }),
  (18, { agg := true, size := 1, bytes := 8, zero := [.pointer none], d := .struct [(0, 17)] }),
  (19, { agg := true, size := 1, bytes := 8, zero := [.pointer none], d := .struct [(0, 17)] }),
  (21, { agg := false, size := 1, bytes := 4, zero := [.int .i32 0], d := .int .i32, ck := some [.i32] }),
  (22, { agg := false, size := 1, bytes := 24, zero := [.slice none 0 0], d := .slice 29 }),
  (23, { agg := false, size := 1, bytes := 24, zero := [.slice none 0 0], d := .slice 40 }),
  (24, { agg := true, size := 2, bytes := 48, zero := [.slice none 0 0, .slice none 0 0], d := .struct [(0, 22), (1, 23)] }),
  (25, { agg := true, size := 2, bytes := 48, zero := [.slice none 0 0, .slice none 0 0], d := .struct [(0, 22), (1, 23)] }),
  (27, { agg := false, size := 1, bytes := 24, zero := [.slice none 0 0], d := .slice 25 }),
  (29, { agg := false, size := 1, bytes := 4, zero := [.int .u32 0], d := .int .u32, ck := some [.u32] }),
  (30, { agg := false, size := 1, bytes := 8, zero := [.int .i64 0], d := .int .i64, ck := some [.i64] }),
  (39, { agg := true, size := 3, bytes := 12, zero := [.int .u32 0, .int .u32 0, .int .u32 0], d := .struct [(0, 29), (1, 29), (2, 29)], ck := some [.u32, .u32, .u32] }),
  (40, { agg := true, size := 3, bytes := 12, zero := [.int .u32 0, .int .u32 0, .int .u32 0], d := .struct [(0, 29), (1, 29), (2, 29)], ck := some [.u32, .u32, .u32] }),
  (42, { agg := true, size := 3, bytes := 72, zero := [.slice none 0 0, .slice none 0 0, .slice none 0 0], d := .struct [(0, 22), (1, 22), (2, 22)] }),
  (43, { agg := true, size := 3, bytes := 72, zero := [.slice none 0 0, .slice none 0 0, .slice none 0 0], d := .struct [(0, 22), (1, 22), (2, 22)] }),
  (44, { agg := true, size := 3, bytes := 72, zero := [.slice none 0 0, .slice none 0 0, .slice none 0 0], d := .struct [(0, 43)] }),
  (45, { agg := true, size := 3, bytes := 72, zero := [.slice none 0 0, .slice none 0 0, .slice none 0 0], d := .struct [(0, 43)] }),
  (46, { agg := true, size := 3, bytes := 72, zero := [.slice none 0 0, .slice none 0 0, .slice none 0 0], d := .struct [(0, 23), (1, 23), (2, 23)] }),
  (47, { agg := true, size := 3, bytes := 72, zero := [.slice none 0 0, .slice none 0 0, .slice none 0 0], d := .struct [(0, 23), (1, 23), (2, 23)] }),
  (48, { agg := true, size := 3, bytes := 72, zero := [.slice none 0 0, .slice none 0 0, .slice none 0 0], d := .struct [(0, 47)] }),
  (49, { agg := true, size := 3, bytes := 72, zero := [.slice none 0 0, .slice none 0 0, .slice none 0 0], d := .struct [(0, 47)] }),
  (64, { agg := false, size := 1, bytes := 8, zero := [.int .u64 0], d := .int .u64, ck := some [.u64] }),
  (66, { agg := false, size := 1, bytes := 8, zero := [.map none], d := .map 29 67 }),
  (67, { agg := true, size := 0, bytes := 0, zero := [], d := .struct [] }),
  (73, { agg := false, size := 1, bytes := 24, zero := [.slice none 0 0], d := .slice 22 }),
  (78, { agg := false, size := 1, bytes := 8, zero := [.int .i64 0], d := .int .i64, ck := some [.i64] }),
  (88, { agg := false, size := 1, bytes := 8, zero := [.int .u64 0], d := .int .u64, ck := some [.u64] }),
  (92, { agg := false, size := 1, bytes := 8, zero := [.nilFunc], d := .other }),
  (94, { agg := false, size := 1, bytes := 8, zero := [.nilFunc], d := .other }),
  (96, { agg := false, size := 1, bytes := 8, zero := [.map none], d := .map 29 22 }),
  (98, { agg := false, size := 1, bytes := 8, zero := [.map none], d := .map 29 3 }),
  (99, { agg := false, size := 1, bytes := 8, zero := [.map none], d := .map 40 67 }),
  (100, { agg := false, size := 1, bytes := 8, zero := [.int .u64 0], d := .int .u64, ck := some [.u64] }),
  (104, { agg := false, size := 1, bytes := 8, zero := [.pointer none], d := .ptr 3 }),
  (114, { agg := false, size := 1, bytes := 8, zero := [.pointer none], d := .ptr 100 }),
  (125, { agg := true, size := 4, bytes := 40, zero := [.pointer none, .pointer none, .pointer none, .string ⟨#[]⟩], d := .struct [(0, 17), (1, 17), (2, 17), (3, 9)] }),
  (126, { agg := true, size := 4, bytes := 40, zero := [.pointer none, .pointer none, .pointer none, .string ⟨#[]⟩], d := .struct [(0, 17), (1, 17), (2, 17), (3, 9)] }),
  (127, { agg := true, size := 0, bytes := 0, zero := [], d := .arr 0 16 }),
  (128, { agg := true, size := 0, bytes := 0, zero := [], d := .struct [(0, 127)] }),
  (129, { agg := true, size := 0, bytes := 0, zero := [], d := .struct [(0, 127)] }),
  (131, { agg := false, size := 1, bytes := 1, zero := [.int .u8 0], d := .int .u8, ck := some [.u8] }),
  (132, { agg := false, size := 1, bytes := 1, zero := [.int .u8 0], d := .int .u8, ck := some [.u8] }),
  (134, { agg := false, size := 1, bytes := 8, zero := [.pointer none], d := .ptr 5 }),
  (135, { agg := false, size := 1, bytes := 4, zero := [.int .i32 0], d := .int .i32, ck := some [.i32] }),
  (136, { agg := false, size := 1, bytes := 4, zero := [.int .i32 0], d := .int .i32, ck := some [.i32] }),
  (137, { agg := true, size := 11, bytes := 48, zero := [.int .u64 0, .int .u64 0, .int .u32 0, .int .u8 0, .int .u8 0, .int .u8 0, .int .u8 0, .nilFunc, .pointer none, .int .i32 0, .int .i32 0], d := .struct [(0, 12), (1, 12), (2, 29), (3, 131), (4, 5), (5, 5), (6, 132), (7, 133), (8, 134), (9, 135), (10, 136)] }),
  (138, { agg := true, size := 11, bytes := 48, zero := [.int .u64 0, .int .u64 0, .int .u32 0, .int .u8 0, .int .u8 0, .int .u8 0, .int .u8 0, .nilFunc, .pointer none, .int .i32 0, .int .i32 0], d := .struct [(0, 12), (1, 12), (2, 29), (3, 131), (4, 5), (5, 5), (6, 132), (7, 133), (8, 134), (9, 135), (10, 136)] })]
def tab : Tab := lookT tabL
@[simp] theorem tab_2 : tab 2 = some { agg := false, size := 1, bytes := 8, zero := [.int .i64 0], d := .int .i64, ck := some [.i64] } := rfl
@[simp] theorem tab_3 : tab 3 = some { agg := false, size := 1, bytes := 8, zero := [.int .i64 0], d := .int .i64, ck := some [.i64] } := rfl
@[simp] theorem tab_4 : tab 4 = some { agg := false, size := 1, bytes := 1, zero := [.bool false], d := .bool } := rfl
@[simp] theorem tab_5 : tab 5 = some { agg := false, size := 1, bytes := 1, zero := [.int .u8 0], d := .int .u8, ck := some [.u8] } := rfl
@[simp] theorem tab_6 : tab 6 = some { agg := false, size := 1, bytes := 1, zero := [.int .u8 0], d := .int .u8, ck := some [.u8] } := rfl
@[simp] theorem tab_7 : tab 7 = some { agg := true, size := 4, bytes := 24, zero := [.int .i64 0, .int .i64 0, .bool false, .int .u8 0], d := .struct [(0, 2), (1, 3), (2, 4), (3, 6)] } := rfl
@[simp] theorem tab_8 : tab 8 = some { agg := true, size := 4, bytes := 24, zero := [.int .i64 0, .int .i64 0, .bool false, .int .u8 0], d := .struct [(0, 2), (1, 3), (2, 4), (3, 6)] } := rfl
@[simp] theorem tab_9 : tab 9 = some { agg := false, size := 1, bytes := 16, zero := [.string ⟨#[]⟩], d := .str } := rfl
@[simp] theorem tab_10 : tab 10 = some { agg := false, size := 1, bytes := 16, zero := [.string ⟨#[]⟩], d := .str } := rfl
@[simp] theorem tab_11 : tab 11 = some { agg := false, size := 1, bytes := 16, zero := [.string ⟨#[]⟩], d := .str } := rfl
@[simp] theorem tab_12 : tab 12 = some { agg := false, size := 1, bytes := 8, zero := [.int .u64 0], d := .int .u64, ck := some [.u64] } := rfl
@[simp] theorem tab_13 : tab 13 = some { agg := true, size := 2, bytes := 24, zero := [.string ⟨#[]⟩, .int .u64 0], d := .struct [(0, 9), (1, 12)] } := rfl
@[simp] theorem tab_14 : tab 14 = some { agg := true, size := 2, bytes := 24, zero := [.string ⟨#[]⟩, .int .u64 0], d := .struct [(0, 9), (1, 12)] } := rfl
@[simp] theorem tab_15 : tab 15 = some { agg := false, size := 1, bytes := 8, zero := [.pointer none], d := .ptr 126 } := rfl
@[simp] theorem tab_16 : tab 16 = some { agg := false, size := 1, bytes := 8, zero := [.pointer none], d := .ptr 129 } := rfl
@[simp] theorem tab_17 : tab 17 = some { agg := false, size := 1, bytes := 8, zero := [.pointer none], d := .ptr 138 } := rfl
@[simp] theorem tab_18 : tab 18 = some { agg := true, size := 1, bytes := 8, zero := [.pointer none], d := .struct [(0, 17)] } := rfl
@[simp] theorem tab_19 : tab 19 = some { agg := true, size := 1, bytes := 8, zero := [.pointer none], d := .struct [(0, 17)] } := rfl
@[simp] theorem tab_21 : tab 21 = some { agg := false, size := 1, bytes := 4, zero := [.int .i32 0], d := .int .i32, ck := some [.i32] } := rfl
@[simp] theorem tab_22 : tab 22 = some { agg := false, size := 1, bytes := 24, zero := [.slice none 0 0], d := .slice 29 } := rfl
@[simp] theorem tab_23 : tab 23 = some { agg := false, size := 1, bytes := 24, zero := [.slice none 0 0], d := .slice 40 } := rfl
@[simp] theorem tab_24 : tab 24 = some { agg := true, size := 2, bytes := 48, zero := [.slice none 0 0, .slice none 0 0], d := .struct [(0, 22), (1, 23)] } := rfl
@[simp] theorem tab_25 : tab 25 = some { agg := true, size := 2, bytes := 48, zero := [.slice none 0 0, .slice none 0 0], d := .struct [(0, 22), (1, 23)] } := rfl
@[simp] theorem tab_27 : tab 27 = some { agg := false, size := 1, bytes := 24, zero := [.slice none 0 0], d := .slice 25 } := rfl
@[simp] theorem tab_29 : tab 29 = some { agg := false, size := 1, bytes := 4, zero := [.int .u32 0], d := .int .u32, ck := some [.u32] } := rfl
@[simp] theorem tab_30 : tab 30 = some { agg := false, size := 1, bytes := 8, zero := [.int .i64 0], d := .int .i64, ck := some [.i64] } := rfl
@[simp] theorem tab_39 : tab 39 = some { agg := true, size := 3, bytes := 12, zero := [.int .u32 0, .int .u32 0, .int .u32 0], d := .struct [(0, 29), (1, 29), (2, 29)], ck := some [.u32, .u32, .u32] } := rfl
@[simp] theorem tab_40 : tab 40 = some { agg := true, size := 3, bytes := 12, zero := [.int .u32 0, .int .u32 0, .int .u32 0], d := .struct [(0, 29), (1, 29), (2, 29)], ck := some [.u32, .u32, .u32] } := rfl
@[simp] theorem tab_42 : tab 42 = some { agg := true, size := 3, bytes := 72, zero := [.slice none 0 0, .slice none 0 0, .slice none 0 0], d := .struct [(0, 22), (1, 22), (2, 22)] } := rfl
@[simp] theorem tab_43 : tab 43 = some { agg := true, size := 3, bytes := 72, zero := [.slice none 0 0, .slice none 0 0, .slice none 0 0], d := .struct [(0, 22), (1, 22), (2, 22)] } := rfl
@[simp] theorem tab_44 : tab 44 = some { agg := true, size := 3, bytes := 72, zero := [.slice none 0 0, .slice none 0 0, .slice none 0 0], d := .struct [(0, 43)] } := rfl
@[simp] theorem tab_45 : tab 45 = some { agg := true, size := 3, bytes := 72, zero := [.slice none 0 0, .slice none 0 0, .slice none 0 0], d := .struct [(0, 43)] } := rfl
@[simp] theorem tab_46 : tab 46 = some { agg := true, size := 3, bytes := 72, zero := [.slice none 0 0, .slice none 0 0, .slice none 0 0], d := .struct [(0, 23), (1, 23), (2, 23)] } := rfl
@[simp] theorem tab_47 : tab 47 = some { agg := true, size := 3, bytes := 72, zero := [.slice none 0 0, .slice none 0 0, .slice none 0 0], d := .struct [(0, 23), (1, 23), (2, 23)] } := rfl
@[simp] theorem tab_48 : tab 48 = some { agg := true, size := 3, bytes := 72, zero := [.slice none 0 0, .slice none 0 0, .slice none 0 0], d := .struct [(0, 47)] } := rfl
@[simp] theorem tab_49 : tab 49 = some { agg := true, size := 3, bytes := 72, zero := [.slice none 0 0, .slice none 0 0, .slice none 0 0], d := .struct [(0, 47)] } := rfl
@[simp] theorem tab_64 : tab 64 = some { agg := false, size := 1, bytes := 8, zero := [.int .u64 0], d := .int .u64, ck := some [.u64] } := rfl
@[simp] theorem tab_66 : tab 66 = some { agg := false, size := 1, bytes := 8, zero := [.map none], d := .map 29 67 } := rfl
@[simp] theorem tab_67 : tab 67 = some { agg := true, size := 0, bytes := 0, zero := [], d := .struct [] } := rfl
@[simp] theorem tab_73 : tab 73 = some { agg := false, size := 1, bytes := 24, zero := [.slice none 0 0], d := .slice 22 } := rfl
@[simp] theorem tab_78 : tab 78 = some { agg := false, size := 1, bytes := 8, zero := [.int .i64 0], d := .int .i64, ck := some [.i64] } := rfl
@[simp] theorem tab_88 : tab 88 = some { agg := false, size := 1, bytes := 8, zero := [.int .u64 0], d := .int .u64, ck := some [.u64] } := rfl
@[simp] theorem tab_92 : tab 92 = some { agg := false, size := 1, bytes := 8, zero := [.nilFunc], d := .other } := rfl
@[simp] theorem tab_94 : tab 94 = some { agg := false, size := 1, bytes := 8, zero := [.nilFunc], d := .other } := rfl
@[simp] theorem tab_96 : tab 96 = some { agg := false, size := 1, bytes := 8, zero := [.map none], d := .map 29 22 } := rfl
@[simp] theorem tab_98 : tab 98 = some { agg := false, size := 1, bytes := 8, zero := [.map none], d := .map 29 3 } := rfl
@[simp] theorem tab_99 : tab 99 = some { agg := false, size := 1, bytes := 8, zero := [.map none], d := .map 40 67 } := rfl
@[simp] theorem tab_100 : tab 100 = some { agg := false, size := 1, bytes := 8, zero := [.int .u64 0], d := .int .u64, ck := some [.u64] } := rfl
@[simp] theorem tab_104 : tab 104 = some { agg := false, size := 1, bytes := 8, zero := [.pointer none], d := .ptr 3 } := rfl
@[simp] theorem tab_114 : tab 114 = some { agg := false, size := 1, bytes := 8, zero := [.pointer none], d := .ptr 100 } := rfl
@[simp] theorem tab_125 : tab 125 = some { agg := true, size := 4, bytes := 40, zero := [.pointer none, .pointer none, .pointer none, .string ⟨#[]⟩], d := .struct [(0, 17), (1, 17), (2, 17), (3, 9)] } := rfl
@[simp] theorem tab_126 : tab 126 = some { agg := true, size := 4, bytes := 40, zero := [.pointer none, .pointer none, .pointer none, .string ⟨#[]⟩], d := .struct [(0, 17), (1, 17), (2, 17), (3, 9)] } := rfl
@[simp] theorem tab_127 : tab 127 = some { agg := true, size := 0, bytes := 0, zero := [], d := .arr 0 16 } := rfl
@[simp] theorem tab_128 : tab 128 = some { agg := true, size := 0, bytes := 0, zero := [], d := .struct [(0, 127)] } := rfl
@[simp] theorem tab_129 : tab 129 = some { agg := true, size := 0, bytes := 0, zero := [], d := .struct [(0, 127)] } := rfl
@[simp] theorem tab_131 : tab 131 = some { agg := false, size := 1, bytes := 1, zero := [.int .u8 0], d := .int .u8, ck := some [.u8] } := rfl
@[simp] theorem tab_132 : tab 132 = some { agg := false, size := 1, bytes := 1, zero := [.int .u8 0], d := .int .u8, ck := some [.u8] } := rfl
@[simp] theorem tab_134 : tab 134 = some { agg := false, size := 1, bytes := 8, zero := [.pointer none], d := .ptr 5 } := rfl
@[simp] theorem tab_135 : tab 135 = some { agg := false, size := 1, bytes := 4, zero := [.int .i32 0], d := .int .i32, ck := some [.i32] } := rfl
@[simp] theorem tab_136 : tab 136 = some { agg := false, size := 1, bytes := 4, zero := [.int .i32 0], d := .int .i32, ck := some [.i32] } := rfl
@[simp] theorem tab_137 : tab 137 = some { agg := true, size := 11, bytes := 48, zero := [.int .u64 0, .int .u64 0, .int .u32 0, .int .u8 0, .int .u8 0, .int .u8 0, .int .u8 0, .nilFunc, .pointer none, .int .i32 0, .int .i32 0], d := .struct [(0, 12), (1, 12), (2, 29), (3, 131), (4, 5), (5, 5), (6, 132), (7, 133), (8, 134), (9, 135), (10, 136)] } := rfl
@[simp] theorem tab_138 : tab 138 = some { agg := true, size := 11, bytes := 48, zero := [.int .u64 0, .int .u64 0, .int .u32 0, .int .u8 0, .int .u8 0, .int .u8 0, .int .u8 0, .nilFunc, .pointer none, .int .i32 0, .int .i32 0], d := .struct [(0, 12), (1, 12), (2, 29), (3, 131), (4, 5), (5, 5), (6, 132), (7, 133), (8, 134), (9, 135), (10, 136)] } := rfl
theorem info_of {P : Program} {t size bytes : Nat} {z : Value} (h : (P.info? t).map (fun i => (i.size, i.bytes, i.zero)) = some (size, bytes, some z)) : ∃ i, P.info? t = some i ∧ i.size = size ∧ i.bytes = bytes ∧ i.zero = some z := by
  cases hi : P.info? t with
  | none => simp [hi] at h
  | some i =>
    simp only [hi, Option.map_some, Option.some.injEq, Prod.mk.injEq] at h
    exact ⟨i, rfl, h.1, h.2.1, h.2.2⟩
theorem eqOk_39 : EqOk Try.prog 39 true [.u32, .u32, .u32] := by
  have u29 := Try.underlying29
  have a29 := Try.isAgg29
  have z29 := Try.sizeOf29
  have hp : Try.prog.stoodInHeld 39 = false := by kernel_rfl
  refine ⟨fun w as1 bs1 h1 h2 => ?_, fun w em as1 h1 => ?_, fun _ => by kernel_rfl, (fun h => by cases h), _, Try.underlying39, .inr fun as1 bs1 h1 h2 => by simp [mkV, Instr.sameNow]⟩
  · match as1, bs1, h1, h2 with
    | [x0, x1, x2], [y0, y1, y2], _, _ =>
      have hS : Try.prog.underlying 39 = some (.struct (Try.prog.fieldsOf 39)) := by kernel_rfl
      simp only [mkV, mkC, if_true]
      unfold Op.equal Op.maxDepth
      rw [show (10000 : Nat) = 9999 + 1 from rfl, run_equalIn_agg w 9999 39 _ _ hS hp]
      simp only [Program.fieldsOf, Try.underlying39]
      go_simp
      by_cases e0 : x0 = y0 <;> by_cases e1 : x1 = y1 <;> by_cases e2 : x2 = y2 <;> simp [e0, e1, e2]
  · match as1, h1 with
    | [x0, x1, x2], _ =>
      simp only [mkV, mkC, if_true]
      unfold Instr.checkKey
      simp only [Sem.run_bind, run_underlying Try.underlying39, Result.andThen_ok]
      go_simp
      (try simp [chk_int u29])
theorem eqOk_40 : EqOk Try.prog 40 true [.u32, .u32, .u32] := by
  have u29 := Try.underlying29
  have a29 := Try.isAgg29
  have z29 := Try.sizeOf29
  have hp : Try.prog.stoodInHeld 40 = false := by kernel_rfl
  refine ⟨fun w as1 bs1 h1 h2 => ?_, fun w em as1 h1 => ?_, fun _ => by kernel_rfl, (fun h => by cases h), _, Try.underlying40, .inr fun as1 bs1 h1 h2 => by simp [mkV, Instr.sameNow]⟩
  · match as1, bs1, h1, h2 with
    | [x0, x1, x2], [y0, y1, y2], _, _ =>
      have hS : Try.prog.underlying 40 = some (.struct (Try.prog.fieldsOf 40)) := by kernel_rfl
      simp only [mkV, mkC, if_true]
      unfold Op.equal Op.maxDepth
      rw [show (10000 : Nat) = 9999 + 1 from rfl, run_equalIn_agg w 9999 40 _ _ hS hp]
      simp only [Program.fieldsOf, Try.underlying40]
      go_simp
      by_cases e0 : x0 = y0 <;> by_cases e1 : x1 = y1 <;> by_cases e2 : x2 = y2 <;> simp [e0, e1, e2]
  · match as1, h1 with
    | [x0, x1, x2], _ =>
      simp only [mkV, mkC, if_true]
      unfold Instr.checkKey
      simp only [Sem.run_bind, run_underlying Try.underlying40, Result.andThen_ok]
      go_simp
      (try simp [chk_int u29])
theorem rowOk_2 : RowOk Try.prog 2 { agg := false, size := 1, bytes := 8, zero := [.int .i64 0], d := .int .i64, ck := some [.i64] } :=
  ⟨Try.isAgg2, info_of (z := .int .i64 0) (by kernel_rfl), rfl, fun _ => rfl, rfl, Try.underlying2, (fun ks h => by injection h with h; subst h; exact eqOk_int Try.underlying2)⟩
theorem rowOk_3 : RowOk Try.prog 3 { agg := false, size := 1, bytes := 8, zero := [.int .i64 0], d := .int .i64, ck := some [.i64] } :=
  ⟨Try.isAgg3, info_of (z := .int .i64 0) (by kernel_rfl), rfl, fun _ => rfl, rfl, Try.underlying3, (fun ks h => by injection h with h; subst h; exact eqOk_int Try.underlying3)⟩
theorem rowOk_4 : RowOk Try.prog 4 { agg := false, size := 1, bytes := 1, zero := [.bool false], d := .bool } :=
  ⟨Try.isAgg4, info_of (z := .bool false) (by kernel_rfl), rfl, fun _ => rfl, rfl, Try.underlying4, (fun ks h => by cases h)⟩
theorem rowOk_5 : RowOk Try.prog 5 { agg := false, size := 1, bytes := 1, zero := [.int .u8 0], d := .int .u8, ck := some [.u8] } :=
  ⟨Try.isAgg5, info_of (z := .int .u8 0) (by kernel_rfl), rfl, fun _ => rfl, rfl, Try.underlying5, (fun ks h => by injection h with h; subst h; exact eqOk_int Try.underlying5)⟩
theorem rowOk_6 : RowOk Try.prog 6 { agg := false, size := 1, bytes := 1, zero := [.int .u8 0], d := .int .u8, ck := some [.u8] } :=
  ⟨Try.isAgg6, info_of (z := .int .u8 0) (by kernel_rfl), rfl, fun _ => rfl, rfl, Try.underlying6, (fun ks h => by injection h with h; subst h; exact eqOk_int Try.underlying6)⟩
theorem rowOk_7 : RowOk Try.prog 7 { agg := true, size := 4, bytes := 24, zero := [.int .i64 0, .int .i64 0, .bool false, .int .u8 0], d := .struct [(0, 2), (1, 3), (2, 4), (3, 6)] } :=
  ⟨Try.isAgg7, info_of (z := .agg #[.int .i64 0, .int .i64 0, .bool false, .int .u8 0]) (by kernel_rfl), rfl, (fun h => by cases h), rfl, ⟨_, Try.underlying7, rfl⟩, (fun ks h => by cases h)⟩
theorem rowOk_8 : RowOk Try.prog 8 { agg := true, size := 4, bytes := 24, zero := [.int .i64 0, .int .i64 0, .bool false, .int .u8 0], d := .struct [(0, 2), (1, 3), (2, 4), (3, 6)] } :=
  ⟨Try.isAgg8, info_of (z := .agg #[.int .i64 0, .int .i64 0, .bool false, .int .u8 0]) (by kernel_rfl), rfl, (fun h => by cases h), rfl, ⟨_, Try.underlying8, rfl⟩, (fun ks h => by cases h)⟩
theorem rowOk_9 : RowOk Try.prog 9 { agg := false, size := 1, bytes := 16, zero := [.string ⟨#[]⟩], d := .str } :=
  ⟨Try.isAgg9, info_of (z := .string ⟨#[]⟩) (by kernel_rfl), rfl, fun _ => rfl, rfl, Try.underlying9, (fun ks h => by cases h)⟩
theorem rowOk_10 : RowOk Try.prog 10 { agg := false, size := 1, bytes := 16, zero := [.string ⟨#[]⟩], d := .str } :=
  ⟨Try.isAgg10, info_of (z := .string ⟨#[]⟩) (by kernel_rfl), rfl, fun _ => rfl, rfl, Try.underlying10, (fun ks h => by cases h)⟩
theorem rowOk_11 : RowOk Try.prog 11 { agg := false, size := 1, bytes := 16, zero := [.string ⟨#[]⟩], d := .str } :=
  ⟨Try.isAgg11, info_of (z := .string ⟨#[]⟩) (by kernel_rfl), rfl, fun _ => rfl, rfl, Try.underlying11, (fun ks h => by cases h)⟩
theorem rowOk_12 : RowOk Try.prog 12 { agg := false, size := 1, bytes := 8, zero := [.int .u64 0], d := .int .u64, ck := some [.u64] } :=
  ⟨Try.isAgg12, info_of (z := .int .u64 0) (by kernel_rfl), rfl, fun _ => rfl, rfl, Try.underlying12, (fun ks h => by injection h with h; subst h; exact eqOk_int Try.underlying12)⟩
theorem rowOk_13 : RowOk Try.prog 13 { agg := true, size := 2, bytes := 24, zero := [.string ⟨#[]⟩, .int .u64 0], d := .struct [(0, 9), (1, 12)] } :=
  ⟨Try.isAgg13, info_of (z := .agg #[.string ⟨#[]⟩, .int .u64 0]) (by kernel_rfl), rfl, (fun h => by cases h), rfl, ⟨_, Try.underlying13, rfl⟩, (fun ks h => by cases h)⟩
theorem rowOk_14 : RowOk Try.prog 14 { agg := true, size := 2, bytes := 24, zero := [.string ⟨#[]⟩, .int .u64 0], d := .struct [(0, 9), (1, 12)] } :=
  ⟨Try.isAgg14, info_of (z := .agg #[.string ⟨#[]⟩, .int .u64 0]) (by kernel_rfl), rfl, (fun h => by cases h), rfl, ⟨_, Try.underlying14, rfl⟩, (fun ks h => by cases h)⟩
theorem rowOk_15 : RowOk Try.prog 15 { agg := false, size := 1, bytes := 8, zero := [.pointer none], d := .ptr 126 } :=
  ⟨Try.isAgg15, info_of (z := .pointer none) (by kernel_rfl), rfl, fun _ => rfl, rfl, Try.underlying15, (fun ks h => by cases h)⟩
theorem rowOk_16 : RowOk Try.prog 16 { agg := false, size := 1, bytes := 8, zero := [.pointer none], d := .ptr 129 } :=
  ⟨Try.isAgg16, info_of (z := .pointer none) (by kernel_rfl), rfl, fun _ => rfl, rfl, Try.underlying16, (fun ks h => by cases h)⟩
theorem rowOk_17 : RowOk Try.prog 17 { agg := false, size := 1, bytes := 8, zero := [.pointer none], d := .ptr 138 } :=
  ⟨Try.isAgg17, info_of (z := .pointer none) (by kernel_rfl), rfl, fun _ => rfl, rfl, Try.underlying17, (fun ks h => by cases h)⟩
theorem rowOk_18 : RowOk Try.prog 18 { agg := true, size := 1, bytes := 8, zero := [.pointer none], d := .struct [(0, 17)] } :=
  ⟨Try.isAgg18, info_of (z := .agg #[.pointer none]) (by kernel_rfl), rfl, (fun h => by cases h), rfl, ⟨_, Try.underlying18, rfl⟩, (fun ks h => by cases h)⟩
theorem rowOk_19 : RowOk Try.prog 19 { agg := true, size := 1, bytes := 8, zero := [.pointer none], d := .struct [(0, 17)] } :=
  ⟨Try.isAgg19, info_of (z := .agg #[.pointer none]) (by kernel_rfl), rfl, (fun h => by cases h), rfl, ⟨_, Try.underlying19, rfl⟩, (fun ks h => by cases h)⟩
theorem rowOk_21 : RowOk Try.prog 21 { agg := false, size := 1, bytes := 4, zero := [.int .i32 0], d := .int .i32, ck := some [.i32] } :=
  ⟨Try.isAgg21, info_of (z := .int .i32 0) (by kernel_rfl), rfl, fun _ => rfl, rfl, Try.underlying21, (fun ks h => by injection h with h; subst h; exact eqOk_int Try.underlying21)⟩
theorem rowOk_22 : RowOk Try.prog 22 { agg := false, size := 1, bytes := 24, zero := [.slice none 0 0], d := .slice 29 } :=
  ⟨Try.isAgg22, info_of (z := .slice none 0 0) (by kernel_rfl), rfl, fun _ => rfl, rfl, Try.underlying22, (fun ks h => by cases h)⟩
theorem rowOk_23 : RowOk Try.prog 23 { agg := false, size := 1, bytes := 24, zero := [.slice none 0 0], d := .slice 40 } :=
  ⟨Try.isAgg23, info_of (z := .slice none 0 0) (by kernel_rfl), rfl, fun _ => rfl, rfl, Try.underlying23, (fun ks h => by cases h)⟩
theorem rowOk_24 : RowOk Try.prog 24 { agg := true, size := 2, bytes := 48, zero := [.slice none 0 0, .slice none 0 0], d := .struct [(0, 22), (1, 23)] } :=
  ⟨Try.isAgg24, info_of (z := .agg #[.slice none 0 0, .slice none 0 0]) (by kernel_rfl), rfl, (fun h => by cases h), rfl, ⟨_, Try.underlying24, rfl⟩, (fun ks h => by cases h)⟩
theorem rowOk_25 : RowOk Try.prog 25 { agg := true, size := 2, bytes := 48, zero := [.slice none 0 0, .slice none 0 0], d := .struct [(0, 22), (1, 23)] } :=
  ⟨Try.isAgg25, info_of (z := .agg #[.slice none 0 0, .slice none 0 0]) (by kernel_rfl), rfl, (fun h => by cases h), rfl, ⟨_, Try.underlying25, rfl⟩, (fun ks h => by cases h)⟩
theorem rowOk_27 : RowOk Try.prog 27 { agg := false, size := 1, bytes := 24, zero := [.slice none 0 0], d := .slice 25 } :=
  ⟨Try.isAgg27, info_of (z := .slice none 0 0) (by kernel_rfl), rfl, fun _ => rfl, rfl, Try.underlying27, (fun ks h => by cases h)⟩
theorem rowOk_29 : RowOk Try.prog 29 { agg := false, size := 1, bytes := 4, zero := [.int .u32 0], d := .int .u32, ck := some [.u32] } :=
  ⟨Try.isAgg29, info_of (z := .int .u32 0) (by kernel_rfl), rfl, fun _ => rfl, rfl, Try.underlying29, (fun ks h => by injection h with h; subst h; exact eqOk_int Try.underlying29)⟩
theorem rowOk_30 : RowOk Try.prog 30 { agg := false, size := 1, bytes := 8, zero := [.int .i64 0], d := .int .i64, ck := some [.i64] } :=
  ⟨Try.isAgg30, info_of (z := .int .i64 0) (by kernel_rfl), rfl, fun _ => rfl, rfl, Try.underlying30, (fun ks h => by injection h with h; subst h; exact eqOk_int Try.underlying30)⟩
theorem rowOk_39 : RowOk Try.prog 39 { agg := true, size := 3, bytes := 12, zero := [.int .u32 0, .int .u32 0, .int .u32 0], d := .struct [(0, 29), (1, 29), (2, 29)], ck := some [.u32, .u32, .u32] } :=
  ⟨Try.isAgg39, info_of (z := .agg #[.int .u32 0, .int .u32 0, .int .u32 0]) (by kernel_rfl), rfl, (fun h => by cases h), rfl, ⟨_, Try.underlying39, rfl⟩, (fun ks h => by injection h with h; subst h; exact eqOk_39)⟩
theorem rowOk_40 : RowOk Try.prog 40 { agg := true, size := 3, bytes := 12, zero := [.int .u32 0, .int .u32 0, .int .u32 0], d := .struct [(0, 29), (1, 29), (2, 29)], ck := some [.u32, .u32, .u32] } :=
  ⟨Try.isAgg40, info_of (z := .agg #[.int .u32 0, .int .u32 0, .int .u32 0]) (by kernel_rfl), rfl, (fun h => by cases h), rfl, ⟨_, Try.underlying40, rfl⟩, (fun ks h => by injection h with h; subst h; exact eqOk_40)⟩
theorem rowOk_42 : RowOk Try.prog 42 { agg := true, size := 3, bytes := 72, zero := [.slice none 0 0, .slice none 0 0, .slice none 0 0], d := .struct [(0, 22), (1, 22), (2, 22)] } :=
  ⟨Try.isAgg42, info_of (z := .agg #[.slice none 0 0, .slice none 0 0, .slice none 0 0]) (by kernel_rfl), rfl, (fun h => by cases h), rfl, ⟨_, Try.underlying42, rfl⟩, (fun ks h => by cases h)⟩
theorem rowOk_43 : RowOk Try.prog 43 { agg := true, size := 3, bytes := 72, zero := [.slice none 0 0, .slice none 0 0, .slice none 0 0], d := .struct [(0, 22), (1, 22), (2, 22)] } :=
  ⟨Try.isAgg43, info_of (z := .agg #[.slice none 0 0, .slice none 0 0, .slice none 0 0]) (by kernel_rfl), rfl, (fun h => by cases h), rfl, ⟨_, Try.underlying43, rfl⟩, (fun ks h => by cases h)⟩
theorem rowOk_44 : RowOk Try.prog 44 { agg := true, size := 3, bytes := 72, zero := [.slice none 0 0, .slice none 0 0, .slice none 0 0], d := .struct [(0, 43)] } :=
  ⟨Try.isAgg44, info_of (z := .agg #[.slice none 0 0, .slice none 0 0, .slice none 0 0]) (by kernel_rfl), rfl, (fun h => by cases h), rfl, ⟨_, Try.underlying44, rfl⟩, (fun ks h => by cases h)⟩
theorem rowOk_45 : RowOk Try.prog 45 { agg := true, size := 3, bytes := 72, zero := [.slice none 0 0, .slice none 0 0, .slice none 0 0], d := .struct [(0, 43)] } :=
  ⟨Try.isAgg45, info_of (z := .agg #[.slice none 0 0, .slice none 0 0, .slice none 0 0]) (by kernel_rfl), rfl, (fun h => by cases h), rfl, ⟨_, Try.underlying45, rfl⟩, (fun ks h => by cases h)⟩
theorem rowOk_46 : RowOk Try.prog 46 { agg := true, size := 3, bytes := 72, zero := [.slice none 0 0, .slice none 0 0, .slice none 0 0], d := .struct [(0, 23), (1, 23), (2, 23)] } :=
  ⟨Try.isAgg46, info_of (z := .agg #[.slice none 0 0, .slice none 0 0, .slice none 0 0]) (by kernel_rfl), rfl, (fun h => by cases h), rfl, ⟨_, Try.underlying46, rfl⟩, (fun ks h => by cases h)⟩
theorem rowOk_47 : RowOk Try.prog 47 { agg := true, size := 3, bytes := 72, zero := [.slice none 0 0, .slice none 0 0, .slice none 0 0], d := .struct [(0, 23), (1, 23), (2, 23)] } :=
  ⟨Try.isAgg47, info_of (z := .agg #[.slice none 0 0, .slice none 0 0, .slice none 0 0]) (by kernel_rfl), rfl, (fun h => by cases h), rfl, ⟨_, Try.underlying47, rfl⟩, (fun ks h => by cases h)⟩
theorem rowOk_48 : RowOk Try.prog 48 { agg := true, size := 3, bytes := 72, zero := [.slice none 0 0, .slice none 0 0, .slice none 0 0], d := .struct [(0, 47)] } :=
  ⟨Try.isAgg48, info_of (z := .agg #[.slice none 0 0, .slice none 0 0, .slice none 0 0]) (by kernel_rfl), rfl, (fun h => by cases h), rfl, ⟨_, Try.underlying48, rfl⟩, (fun ks h => by cases h)⟩
theorem rowOk_49 : RowOk Try.prog 49 { agg := true, size := 3, bytes := 72, zero := [.slice none 0 0, .slice none 0 0, .slice none 0 0], d := .struct [(0, 47)] } :=
  ⟨Try.isAgg49, info_of (z := .agg #[.slice none 0 0, .slice none 0 0, .slice none 0 0]) (by kernel_rfl), rfl, (fun h => by cases h), rfl, ⟨_, Try.underlying49, rfl⟩, (fun ks h => by cases h)⟩
theorem rowOk_64 : RowOk Try.prog 64 { agg := false, size := 1, bytes := 8, zero := [.int .u64 0], d := .int .u64, ck := some [.u64] } :=
  ⟨Try.isAgg64, info_of (z := .int .u64 0) (by kernel_rfl), rfl, fun _ => rfl, rfl, Try.underlying64, (fun ks h => by injection h with h; subst h; exact eqOk_int Try.underlying64)⟩
theorem rowOk_66 : RowOk Try.prog 66 { agg := false, size := 1, bytes := 8, zero := [.map none], d := .map 29 67 } :=
  ⟨Try.isAgg66, info_of (z := .map none) (by kernel_rfl), rfl, fun _ => rfl, rfl, Try.underlying66, (fun ks h => by cases h)⟩
theorem rowOk_67 : RowOk Try.prog 67 { agg := true, size := 0, bytes := 0, zero := [], d := .struct [] } :=
  ⟨Try.isAgg67, info_of (z := .agg #[]) (by kernel_rfl), rfl, (fun h => by cases h), rfl, ⟨_, Try.underlying67, rfl⟩, (fun ks h => by cases h)⟩
theorem rowOk_73 : RowOk Try.prog 73 { agg := false, size := 1, bytes := 24, zero := [.slice none 0 0], d := .slice 22 } :=
  ⟨Try.isAgg73, info_of (z := .slice none 0 0) (by kernel_rfl), rfl, fun _ => rfl, rfl, Try.underlying73, (fun ks h => by cases h)⟩
theorem rowOk_78 : RowOk Try.prog 78 { agg := false, size := 1, bytes := 8, zero := [.int .i64 0], d := .int .i64, ck := some [.i64] } :=
  ⟨Try.isAgg78, info_of (z := .int .i64 0) (by kernel_rfl), rfl, fun _ => rfl, rfl, Try.underlying78, (fun ks h => by injection h with h; subst h; exact eqOk_int Try.underlying78)⟩
theorem rowOk_88 : RowOk Try.prog 88 { agg := false, size := 1, bytes := 8, zero := [.int .u64 0], d := .int .u64, ck := some [.u64] } :=
  ⟨Try.isAgg88, info_of (z := .int .u64 0) (by kernel_rfl), rfl, fun _ => rfl, rfl, Try.underlying88, (fun ks h => by injection h with h; subst h; exact eqOk_int Try.underlying88)⟩
theorem rowOk_92 : RowOk Try.prog 92 { agg := false, size := 1, bytes := 8, zero := [.nilFunc], d := .other } :=
  ⟨Try.isAgg92, info_of (z := .nilFunc) (by kernel_rfl), rfl, fun _ => rfl, rfl, trivial, (fun ks h => by cases h)⟩
theorem rowOk_94 : RowOk Try.prog 94 { agg := false, size := 1, bytes := 8, zero := [.nilFunc], d := .other } :=
  ⟨Try.isAgg94, info_of (z := .nilFunc) (by kernel_rfl), rfl, fun _ => rfl, rfl, trivial, (fun ks h => by cases h)⟩
theorem rowOk_96 : RowOk Try.prog 96 { agg := false, size := 1, bytes := 8, zero := [.map none], d := .map 29 22 } :=
  ⟨Try.isAgg96, info_of (z := .map none) (by kernel_rfl), rfl, fun _ => rfl, rfl, Try.underlying96, (fun ks h => by cases h)⟩
theorem rowOk_98 : RowOk Try.prog 98 { agg := false, size := 1, bytes := 8, zero := [.map none], d := .map 29 3 } :=
  ⟨Try.isAgg98, info_of (z := .map none) (by kernel_rfl), rfl, fun _ => rfl, rfl, Try.underlying98, (fun ks h => by cases h)⟩
theorem rowOk_99 : RowOk Try.prog 99 { agg := false, size := 1, bytes := 8, zero := [.map none], d := .map 40 67 } :=
  ⟨Try.isAgg99, info_of (z := .map none) (by kernel_rfl), rfl, fun _ => rfl, rfl, Try.underlying99, (fun ks h => by cases h)⟩
theorem rowOk_100 : RowOk Try.prog 100 { agg := false, size := 1, bytes := 8, zero := [.int .u64 0], d := .int .u64, ck := some [.u64] } :=
  ⟨Try.isAgg100, info_of (z := .int .u64 0) (by kernel_rfl), rfl, fun _ => rfl, rfl, Try.underlying100, (fun ks h => by injection h with h; subst h; exact eqOk_int Try.underlying100)⟩
theorem rowOk_104 : RowOk Try.prog 104 { agg := false, size := 1, bytes := 8, zero := [.pointer none], d := .ptr 3 } :=
  ⟨Try.isAgg104, info_of (z := .pointer none) (by kernel_rfl), rfl, fun _ => rfl, rfl, Try.underlying104, (fun ks h => by cases h)⟩
theorem rowOk_114 : RowOk Try.prog 114 { agg := false, size := 1, bytes := 8, zero := [.pointer none], d := .ptr 100 } :=
  ⟨Try.isAgg114, info_of (z := .pointer none) (by kernel_rfl), rfl, fun _ => rfl, rfl, Try.underlying114, (fun ks h => by cases h)⟩
theorem rowOk_125 : RowOk Try.prog 125 { agg := true, size := 4, bytes := 40, zero := [.pointer none, .pointer none, .pointer none, .string ⟨#[]⟩], d := .struct [(0, 17), (1, 17), (2, 17), (3, 9)] } :=
  ⟨Try.isAgg125, info_of (z := .agg #[.pointer none, .pointer none, .pointer none, .string ⟨#[]⟩]) (by kernel_rfl), rfl, (fun h => by cases h), rfl, ⟨_, Try.underlying125, rfl⟩, (fun ks h => by cases h)⟩
theorem rowOk_126 : RowOk Try.prog 126 { agg := true, size := 4, bytes := 40, zero := [.pointer none, .pointer none, .pointer none, .string ⟨#[]⟩], d := .struct [(0, 17), (1, 17), (2, 17), (3, 9)] } :=
  ⟨Try.isAgg126, info_of (z := .agg #[.pointer none, .pointer none, .pointer none, .string ⟨#[]⟩]) (by kernel_rfl), rfl, (fun h => by cases h), rfl, ⟨_, Try.underlying126, rfl⟩, (fun ks h => by cases h)⟩
theorem rowOk_127 : RowOk Try.prog 127 { agg := true, size := 0, bytes := 0, zero := [], d := .arr 0 16 } :=
  ⟨Try.isAgg127, info_of (z := .agg #[]) (by kernel_rfl), rfl, (fun h => by cases h), rfl, Try.underlying127, (fun ks h => by cases h)⟩
theorem rowOk_128 : RowOk Try.prog 128 { agg := true, size := 0, bytes := 0, zero := [], d := .struct [(0, 127)] } :=
  ⟨Try.isAgg128, info_of (z := .agg #[]) (by kernel_rfl), rfl, (fun h => by cases h), rfl, ⟨_, Try.underlying128, rfl⟩, (fun ks h => by cases h)⟩
theorem rowOk_129 : RowOk Try.prog 129 { agg := true, size := 0, bytes := 0, zero := [], d := .struct [(0, 127)] } :=
  ⟨Try.isAgg129, info_of (z := .agg #[]) (by kernel_rfl), rfl, (fun h => by cases h), rfl, ⟨_, Try.underlying129, rfl⟩, (fun ks h => by cases h)⟩
theorem rowOk_131 : RowOk Try.prog 131 { agg := false, size := 1, bytes := 1, zero := [.int .u8 0], d := .int .u8, ck := some [.u8] } :=
  ⟨Try.isAgg131, info_of (z := .int .u8 0) (by kernel_rfl), rfl, fun _ => rfl, rfl, Try.underlying131, (fun ks h => by injection h with h; subst h; exact eqOk_int Try.underlying131)⟩
theorem rowOk_132 : RowOk Try.prog 132 { agg := false, size := 1, bytes := 1, zero := [.int .u8 0], d := .int .u8, ck := some [.u8] } :=
  ⟨Try.isAgg132, info_of (z := .int .u8 0) (by kernel_rfl), rfl, fun _ => rfl, rfl, Try.underlying132, (fun ks h => by injection h with h; subst h; exact eqOk_int Try.underlying132)⟩
theorem rowOk_134 : RowOk Try.prog 134 { agg := false, size := 1, bytes := 8, zero := [.pointer none], d := .ptr 5 } :=
  ⟨Try.isAgg134, info_of (z := .pointer none) (by kernel_rfl), rfl, fun _ => rfl, rfl, Try.underlying134, (fun ks h => by cases h)⟩
theorem rowOk_135 : RowOk Try.prog 135 { agg := false, size := 1, bytes := 4, zero := [.int .i32 0], d := .int .i32, ck := some [.i32] } :=
  ⟨Try.isAgg135, info_of (z := .int .i32 0) (by kernel_rfl), rfl, fun _ => rfl, rfl, Try.underlying135, (fun ks h => by injection h with h; subst h; exact eqOk_int Try.underlying135)⟩
theorem rowOk_136 : RowOk Try.prog 136 { agg := false, size := 1, bytes := 4, zero := [.int .i32 0], d := .int .i32, ck := some [.i32] } :=
  ⟨Try.isAgg136, info_of (z := .int .i32 0) (by kernel_rfl), rfl, fun _ => rfl, rfl, Try.underlying136, (fun ks h => by injection h with h; subst h; exact eqOk_int Try.underlying136)⟩
theorem rowOk_137 : RowOk Try.prog 137 { agg := true, size := 11, bytes := 48, zero := [.int .u64 0, .int .u64 0, .int .u32 0, .int .u8 0, .int .u8 0, .int .u8 0, .int .u8 0, .nilFunc, .pointer none, .int .i32 0, .int .i32 0], d := .struct [(0, 12), (1, 12), (2, 29), (3, 131), (4, 5), (5, 5), (6, 132), (7, 133), (8, 134), (9, 135), (10, 136)] } :=
  ⟨Try.isAgg137, info_of (z := .agg #[.int .u64 0, .int .u64 0, .int .u32 0, .int .u8 0, .int .u8 0, .int .u8 0, .int .u8 0, .nilFunc, .pointer none, .int .i32 0, .int .i32 0]) (by kernel_rfl), rfl, (fun h => by cases h), rfl, ⟨_, Try.underlying137, rfl⟩, (fun ks h => by cases h)⟩
theorem rowOk_138 : RowOk Try.prog 138 { agg := true, size := 11, bytes := 48, zero := [.int .u64 0, .int .u64 0, .int .u32 0, .int .u8 0, .int .u8 0, .int .u8 0, .int .u8 0, .nilFunc, .pointer none, .int .i32 0, .int .i32 0], d := .struct [(0, 12), (1, 12), (2, 29), (3, 131), (4, 5), (5, 5), (6, 132), (7, 133), (8, 134), (9, 135), (10, 136)] } :=
  ⟨Try.isAgg138, info_of (z := .agg #[.int .u64 0, .int .u64 0, .int .u32 0, .int .u8 0, .int .u8 0, .int .u8 0, .int .u8 0, .nilFunc, .pointer none, .int .i32 0, .int .i32 0]) (by kernel_rfl), rfl, (fun h => by cases h), rfl, ⟨_, Try.underlying138, rfl⟩, (fun ks h => by cases h)⟩
theorem tabOk : TabOk Try.prog tab := tabOk_of tabL ⟨rowOk_2, rowOk_3, rowOk_4, rowOk_5, rowOk_6, rowOk_7, rowOk_8, rowOk_9, rowOk_10, rowOk_11, rowOk_12, rowOk_13, rowOk_14, rowOk_15, rowOk_16, rowOk_17, rowOk_18, rowOk_19, rowOk_21, rowOk_22, rowOk_23, rowOk_24, rowOk_25, rowOk_27, rowOk_29, rowOk_30, rowOk_39, rowOk_40, rowOk_42, rowOk_43, rowOk_44, rowOk_45, rowOk_46, rowOk_47, rowOk_48, rowOk_49, rowOk_64, rowOk_66, rowOk_67, rowOk_73, rowOk_78, rowOk_88, rowOk_92, rowOk_94, rowOk_96, rowOk_98, rowOk_99, rowOk_100, rowOk_104, rowOk_114, rowOk_125, rowOk_126, rowOk_127, rowOk_128, rowOk_129, rowOk_131, rowOk_132, rowOk_134, rowOk_135, rowOk_136, rowOk_137, rowOk_138, trivial⟩
end Go.Proofs.Ytaiakdhcajibnaa.Aw
