/- The types of this seat's translation, as a table, and that the loaded program has them so. Written by a program (gentab.py). -/
import Derived.Test.YtphdhggoaijfoaaAwDraw
import Derived.Test.YtphdhggoaijfoaaProg
import Derived.KernelRfl
import Derived.Tactics
import Derived.Laws.StructEq
namespace Go.Proofs.Ytphdhggoaijfoaa.Aw
open Go Go.RowKit
set_option linter.unusedSimpArgs false
set_option linter.unusedVariables false
def tabL : List (Nat × TRow) := [
  (2, { agg := false, size := 1, bytes := 8, zero := [.int .i64 0], d := .int .i64, ck := some [.i64] }),
  (3, { agg := false, size := 1, bytes := 8, zero := [.int .i64 0], d := .int .i64, ck := some [.i64] }),
  (4, { agg := false, size := 1, bytes := 1, zero := [.bool false], d := .bool }),
  (5, { agg := false, size := 1, bytes := 1, zero := [.int .u8 0], d := .int .u8, ck := some [.u8] }),
  (6, { agg := false, size := 1, bytes := 1, zero := [.int .u8 0], d := .int .u8, ck := some [.u8] }),
  (7, { agg := true, size := 4, bytes := 24, zero := [.int .i64 0, .int .i64 0, .bool false, .int .u8 0], d := .struct [(0, 2), (1, 3), (2, 4), (3, 6)] }),
  (8, { agg := true, size := 4, bytes := 24, zero := [.int .i64 0, .int .i64 0, .bool false, .int .u8 0], d := .struct [(0, 2), (1, 3), (2, 4), (3, 6)] }),
  (9, { agg := false, size := 1, bytes := 16, zero := [.string ⟨#[]⟩], d := .str }),
  (10, { agg := false, size := 1, bytes := 16, zero := [.string ⟨#[]⟩], d := .str }),
  (11, { agg := false, size := 1, bytes := 16, zero := [.string ⟨#[]⟩], d := .str }),
  (12, { agg := false, size := 1, bytes := 8, zero := [.int .u64 0], d := .int .u64, ck := some [.u64] }),
  (13, { agg := true, size := 2, bytes := 24, zero := [.string ⟨#[]⟩, .int .u64 0], d := .struct [(0, 9), (1, 12)] }),
  (14, { agg := true, size := 2, bytes := 24, zero := [.string ⟨#[]⟩, .int .u64 0], d := .struct [(0, 9), (1, 12)] }),
  (15, { agg := false, size := 1, bytes := 8, zero := [.pointer none], d := .ptr 163 }),
  (16, { agg := false, size := 1, bytes := 8, zero := [.pointer none], d := .ptr 166 }),
  (17, { agg := false, size := 1, bytes := 8, zero := [.pointer none], d := .ptr 175 }),
  (18, { agg := true, size := 1, bytes := 8, zero := [.pointer none], d := .struct [(0, 17)] }),
  (19, { agg := true, size := 1, bytes := 8, zero := [.pointer none], d := .struct [(0, 17)] }),
  (21, { agg := false, size := 1, bytes := 4, zero := [.int .i32 0], d := .int .i32, ck := some [.i32] }),
  (22, { agg := false, size := 1, bytes := 4, zero := [.int .u32 0], d := .int .u32, ck := some [.u32] }),
  (25, { agg := false, size := 1, bytes := 8, zero := [.nilFunc], d := .other }),
  (27, { agg := false, size := 1, bytes := 24, zero := [.slice none 0 0], d := .slice 22 }),
  (37, { agg := false, size := 1, bytes := 8, zero := [.map none], d := .map 22 4 }),
  (39, { agg := false, size := 1, bytes := 24, zero := [.slice none 0 0], d := .slice 52 }),
  (40, { agg := true, size := 2, bytes := 48, zero := [.slice none 0 0, .slice none 0 0], d := .struct [(0, 27), (1, 39)] }),
  (41, { agg := true, size := 2, bytes := 48, zero := [.slice none 0 0, .slice none 0 0], d := .struct [(0, 27), (1, 39)] }),
  (42, { agg := false, size := 1, bytes := 8, zero := [.int .i64 0], d := .int .i64, ck := some [.i64] }),
  (47, { agg := false, size := 1, bytes := 24, zero := [.slice none 0 0], d := .slice 27 }),
  (51, { agg := true, size := 3, bytes := 12, zero := [.int .u32 0, .int .u32 0, .int .u32 0], d := .struct [(0, 22), (1, 22), (2, 22)], ck := some [.u32, .u32, .u32] }),
  (52, { agg := true, size := 3, bytes := 12, zero := [.int .u32 0, .int .u32 0, .int .u32 0], d := .struct [(0, 22), (1, 22), (2, 22)], ck := some [.u32, .u32, .u32] }),
  (55, { agg := false, size := 1, bytes := 24, zero := [.slice none 0 0], d := .slice 41 }),
  (65, { agg := true, size := 3, bytes := 72, zero := [.slice none 0 0, .slice none 0 0, .slice none 0 0], d := .struct [(0, 27), (1, 27), (2, 27)] }),
  (66, { agg := true, size := 3, bytes := 72, zero := [.slice none 0 0, .slice none 0 0, .slice none 0 0], d := .struct [(0, 27), (1, 27), (2, 27)] }),
  (70, { agg := true, size := 3, bytes := 72, zero := [.slice none 0 0, .slice none 0 0, .slice none 0 0], d := .struct [(0, 41), (2, 47)] }),
  (71, { agg := true, size := 3, bytes := 72, zero := [.slice none 0 0, .slice none 0 0, .slice none 0 0], d := .struct [(0, 41), (2, 47)] }),
  (75, { agg := false, size := 1, bytes := 8, zero := [.map none], d := .map 22 27 }),
  (78, { agg := false, size := 1, bytes := 8, zero := [.int .u64 0], d := .int .u64, ck := some [.u64] }),
  (83, { agg := false, size := 1, bytes := 8, zero := [.nilFunc], d := .other }),
  (89, { agg := false, size := 1, bytes := 8, zero := [.map none], d := .map 22 3 }),
  (91, { agg := true, size := 3, bytes := 72, zero := [.slice none 0 0, .slice none 0 0, .slice none 0 0], d := .struct [(0, 66)] }),
  (92, { agg := true, size := 3, bytes := 72, zero := [.slice none 0 0, .slice none 0 0, .slice none 0 0], d := .struct [(0, 66)] }),
  (93, { agg := true, size := 3, bytes := 72, zero := [.slice none 0 0, .slice none 0 0, .slice none 0 0], d := .struct [(0, 39), (1, 39), (2, 39)] }),
  (94, { agg := true, size := 3, bytes := 72, zero := [.slice none 0 0, .slice none 0 0, .slice none 0 0], d := .struct [(0, 39), (1, 39), (2, 39)] }),
  (95, { agg := true, size := 3, bytes := 72, zero := [.slice none 0 0, .slice none 0 0, .slice none 0 0], d := .struct [(0, 94)] }),
  (96, { agg := true, size := 3, bytes := 72, zero := [.slice none 0 0, .slice none 0 0, .slice none 0 0], d := .struct [(0, 94)] }),
  (114, { agg := false, size := 1, bytes := 8, zero := [.nilFunc], d := .other }),
  (119, { agg := false, size := 1, bytes := 8, zero := [.map none], d := .map 22 120 }),
  (120, { agg := true, size := 0, bytes := 0, zero := [], d := .struct [] }),
  (122, { agg := false, size := 1, bytes := 8, zero := [.map none], d := .map 22 22 }),
  (132, { agg := false, size := 1, bytes := 8, zero := [.int .i64 0], d := .int .i64, ck := some [.i64] }),
  (141, { agg := false, size := 1, bytes := 8, zero := [.int .u64 0], d := .int .u64, ck := some [.u64] }),
  (148, { agg := false, size := 1, bytes := 8, zero := [.int .u64 0], d := .int .u64, ck := some [.u64] }),
  (152, { agg := false, size := 1, bytes := 8, zero := [.pointer none], d := .ptr 3 }),
  (154, { agg := false, size := 1, bytes := 8, zero := [.map none], d := .map 52 120 }),
  (158, { agg := false, size := 1, bytes := 8, zero := [.pointer none], d := .ptr 148 }),
  (162, { agg := true, size := 4, bytes := 40, zero := [.pointer none, .pointer none, .pointer none, .string ⟨#[]⟩], d := .struct [(0, 17), (1, 17), (2, 17), (3, 9)] }),
  (163, { agg := true, size := 4, bytes := 40, zero := [.pointer none, .pointer none, .pointer none, .string ⟨#[]⟩], d := .struct [(0, 17), (1, 17), (2, 17), (3, 9)] }),
  (164, { agg := true, size := 0, bytes := 0, zero := [], d := .arr 0 16 }),
  (165, { agg := true, size := 0, bytes := 0, zero := [], d := .struct [(0, 164)] }),
  (166, { agg := true, size := 0, bytes := 0, zero := [], d := .struct [(0, 164)] }),
  (168, { agg := false, size := 1, bytes := 1, zero := [.int .u8 0], d := .int .u8, ck := some [.u8] }),
  (169, { agg := false, size := 1, bytes := 1, zero := [.int .u8 0], d := .int .u8, ck := some [.u8] }),
  (171, { agg := false, size := 1, bytes := 8, zero := [.pointer none], d := .ptr 5 }),
  (172, { agg := false, size := 1, bytes := 4, zero := [.int .i32 0], d := .int .i32, ck := some [.i32] }),
  (173, { agg := false, size := 1, bytes := 4, zero := [.int .i32 0], d := .int .i32, ck := some [.i32] }),
  (174, { agg := true, size := 11, bytes := 48, zero := [.int .u64 0, .int .u64 0, .int .u32 0, .int .u8 0, .int .u8 0, .int .u8 0, .int .u8 0, .nilFunc, .pointer none, .int .i32 0, .int .i32 0], d := .struct [(0, 12), (1, 12), (2, 22), (3, 168), (4, 5), (5, 5), (6, 169), (7, 170), (8, 171), (9, 172), (10, 173)] }),
  (175, { agg := true, size := 11, bytes := 48, zero := [.int .u64 0, .int .u64 0, .int .u32 0, .int .u8 0, .int .u8 0, .int .u8 0, .int .u8 0, .nilFunc, .pointer none, .int .i32 0, .int .i32 0], d := .struct [(0, 12), (1, 12), (2, 22), (3, 168), (4, 5), (5, 5), (6, 169), (7, 170), (8, 171), (9, 172), (10, 173)] })]
def tab : Tab := lookT tabL
@[simp] theorem tab_2 : tab 2 = some { agg := false, size := 1, bytes := 8, zero := [.int .i64 0], d := .int .i64, ck := some [.i64] } := rfl
@[simp] theorem tab_3 : tab 3 = some { agg := false, size := 1, bytes := 8, zero := [.int .i64 0], d := .int .i64, ck := some [.i64] } := rfl
@[simp] theorem tab_4 : tab 4 = some { agg := false, size := 1, bytes := 1, zero := [.bool false], d := .bool } := rfl
@[simp] theorem tab_5 : tab 5 = some { agg := false, size := 1, bytes := 1, zero := [.int .u8 0], d := .int .u8, ck := some [.u8] } := rfl
@[simp] theorem tab_6 : tab 6 = some { agg := false, size := 1, bytes := 1, zero := [.int .u8 0], d := .int .u8, ck := some [.u8] } := rfl
@[simp] theorem tab_7 : tab 7 = some { agg := true, size := 4, bytes := 24, zero := [.int .i64 0, .int .i64 0, .bool false, .int .u8 0], d := .struct [(0, 2), (1, 3), (2, 4), (3, 6)] } := rfl
@[simp] theorem tab_8 : tab 8 = some { agg := true, size := 4, bytes := 24, zero := [.int .i64 0, .int .i64 0, .bool false, .int .u8 0], d := .struct [(0, 2), (1, 3), (2, 4), (3, 6)] } := rfl
@[simp] theorem tab_9 : tab 9 = some { agg := false, size := 1, bytes := 16, zero := [.string ⟨#[]⟩], d := .str } := rfl
@[simp] theorem tab_10 : tab 10 = some { agg := false, size := 1, bytes := 16, zero := [.string ⟨#[]⟩], d := .str } := rfl
@[simp] theorem tab_11 : tab 11 = some { agg := false, size := 1, bytes := 16, zero := [.string ⟨#[]⟩], d := .str } := rfl
@[simp] theorem tab_12 : tab 12 = some { agg := false, size := 1, bytes := 8, zero := [.int .u64 0], d := .int .u64, ck := some [.u64] } := rfl
@[simp] theorem tab_13 : tab 13 = some { agg := true, size := 2, bytes := 24, zero := [.string ⟨#[]⟩, .int .u64 0], d := .struct [(0, 9), (1, 12)] } := rfl
@[simp] theorem tab_14 : tab 14 = some { agg := true, size := 2, bytes := 24, zero := [.string ⟨#[]⟩, .int .u64 0], d := .struct [(0, 9), (1, 12)] } := rfl
@[simp] theorem tab_15 : tab 15 = some { agg := false, size := 1, bytes := 8, zero := [.pointer none], d := .ptr 163 } := rfl
@[simp] theorem tab_16 : tab 16 = some { agg := false, size := 1, bytes := 8, zero := [.pointer none], d := .ptr 166 } := rfl
@[simp] theorem tab_17 : tab 17 = some { agg := false, size := 1, bytes := 8, zero := [.pointer none], d := .ptr 175 } := rfl
@[simp] theorem tab_18 : tab 18 = some { agg := true, size := 1, bytes := 8, zero := [.pointer none], d := .struct [(0, 17)] } := rfl
@[simp] theorem tab_19 : tab 19 = some { agg := true, size := 1, bytes := 8, zero := [.pointer none], d := .struct [(0, 17)] } := rfl
@[simp] theorem tab_21 : tab 21 = some { agg := false, size := 1, bytes := 4, zero := [.int .i32 0], d := .int .i32, ck := some [.i32] } := rfl
@[simp] theorem tab_22 : tab 22 = some { agg := false, size := 1, bytes := 4, zero := [.int .u32 0], d := .int .u32, ck := some [.u32] } := rfl
@[simp] theorem tab_25 : tab 25 = some { agg := false, size := 1, bytes := 8, zero := [.nilFunc], d := .other } := rfl
@[simp] theorem tab_27 : tab 27 = some { agg := false, size := 1, bytes := 24, zero := [.slice none 0 0], d := .slice 22 } := rfl
@[simp] theorem tab_37 : tab 37 = some { agg := false, size := 1, bytes := 8, zero := [.map none], d := .map 22 4 } := rfl
@[simp] theorem tab_39 : tab 39 = some { agg := false, size := 1, bytes := 24, zero := [.slice none 0 0], d := .slice 52 } := rfl
@[simp] theorem tab_40 : tab 40 = some { agg := true, size := 2, bytes := 48, zero := [.slice none 0 0, .slice none 0 0], d := .struct [(0, 27), (1, 39)] } := rfl
@[simp] theorem tab_41 : tab 41 = some { agg := true, size := 2, bytes := 48, zero := [.slice none 0 0, .slice none 0 0], d := .struct [(0, 27), (1, 39)] } := rfl
@[simp] theorem tab_42 : tab 42 = some { agg := false, size := 1, bytes := 8, zero := [.int .i64 0], d := .int .i64, ck := some [.i64] } := rfl
@[simp] theorem tab_47 : tab 47 = some { agg := false, size := 1, bytes := 24, zero := [.slice none 0 0], d := .slice 27 } := rfl
@[simp] theorem tab_51 : tab 51 = some { agg := true, size := 3, bytes := 12, zero := [.int .u32 0, .int .u32 0, .int .u32 0], d := .struct [(0, 22), (1, 22), (2, 22)], ck := some [.u32, .u32, .u32] } := rfl
@[simp] theorem tab_52 : tab 52 = some { agg := true, size := 3, bytes := 12, zero := [.int .u32 0, .int .u32 0, .int .u32 0], d := .struct [(0, 22), (1, 22), (2, 22)], ck := some [.u32, .u32, .u32] } := rfl
@[simp] theorem tab_55 : tab 55 = some { agg := false, size := 1, bytes := 24, zero := [.slice none 0 0], d := .slice 41 } := rfl
@[simp] theorem tab_65 : tab 65 = some { agg := true, size := 3, bytes := 72, zero := [.slice none 0 0, .slice none 0 0, .slice none 0 0], d := .struct [(0, 27), (1, 27), (2, 27)] } := rfl
@[simp] theorem tab_66 : tab 66 = some { agg := true, size := 3, bytes := 72, zero := [.slice none 0 0, .slice none 0 0, .slice none 0 0], d := .struct [(0, 27), (1, 27), (2, 27)] } := rfl
@[simp] theorem tab_70 : tab 70 = some { agg := true, size := 3, bytes := 72, zero := [.slice none 0 0, .slice none 0 0, .slice none 0 0], d := .struct [(0, 41), (2, 47)] } := rfl
@[simp] theorem tab_71 : tab 71 = some { agg := true, size := 3, bytes := 72, zero := [.slice none 0 0, .slice none 0 0, .slice none 0 0], d := .struct [(0, 41), (2, 47)] } := rfl
@[simp] theorem tab_75 : tab 75 = some { agg := false, size := 1, bytes := 8, zero := [.map none], d := .map 22 27 } := rfl
@[simp] theorem tab_78 : tab 78 = some { agg := false, size := 1, bytes := 8, zero := [.int .u64 0], d := .int .u64, ck := some [.u64] } := rfl
@[simp] theorem tab_83 : tab 83 = some { agg := false, size := 1, bytes := 8, zero := [.nilFunc], d := .other } := rfl
@[simp] theorem tab_89 : tab 89 = some { agg := false, size := 1, bytes := 8, zero := [.map none], d := .map 22 3 } := rfl
@[simp] theorem tab_91 : tab 91 = some { agg := true, size := 3, bytes := 72, zero := [.slice none 0 0, .slice none 0 0, .slice none 0 0], d := .struct [(0, 66)] } := rfl
@[simp] theorem tab_92 : tab 92 = some { agg := true, size := 3, bytes := 72, zero := [.slice none 0 0, .slice none 0 0, .slice none 0 0], d := .struct [(0, 66)] } := rfl
@[simp] theorem tab_93 : tab 93 = some { agg := true, size := 3, bytes := 72, zero := [.slice none 0 0, .slice none 0 0, .slice none 0 0], d := .struct [(0, 39), (1, 39), (2, 39)] } := rfl
@[simp] theorem tab_94 : tab 94 = some { agg := true, size := 3, bytes := 72, zero := [.slice none 0 0, .slice none 0 0, .slice none 0 0], d := .struct [(0, 39), (1, 39), (2, 39)] } := rfl
@[simp] theorem tab_95 : tab 95 = some { agg := true, size := 3, bytes := 72, zero := [.slice none 0 0, .slice none 0 0, .slice none 0 0], d := .struct [(0, 94)] } := rfl
@[simp] theorem tab_96 : tab 96 = some { agg := true, size := 3, bytes := 72, zero := [.slice none 0 0, .slice none 0 0, .slice none 0 0], d := .struct [(0, 94)] } := rfl
@[simp] theorem tab_114 : tab 114 = some { agg := false, size := 1, bytes := 8, zero := [.nilFunc], d := .other } := rfl
@[simp] theorem tab_119 : tab 119 = some { agg := false, size := 1, bytes := 8, zero := [.map none], d := .map 22 120 } := rfl
@[simp] theorem tab_120 : tab 120 = some { agg := true, size := 0, bytes := 0, zero := [], d := .struct [] } := rfl
@[simp] theorem tab_122 : tab 122 = some { agg := false, size := 1, bytes := 8, zero := [.map none], d := .map 22 22 } := rfl
@[simp] theorem tab_132 : tab 132 = some { agg := false, size := 1, bytes := 8, zero := [.int .i64 0], d := .int .i64, ck := some [.i64] } := rfl
@[simp] theorem tab_141 : tab 141 = some { agg := false, size := 1, bytes := 8, zero := [.int .u64 0], d := .int .u64, ck := some [.u64] } := rfl
@[simp] theorem tab_148 : tab 148 = some { agg := false, size := 1, bytes := 8, zero := [.int .u64 0], d := .int .u64, ck := some [.u64] } := rfl
@[simp] theorem tab_152 : tab 152 = some { agg := false, size := 1, bytes := 8, zero := [.pointer none], d := .ptr 3 } := rfl
@[simp] theorem tab_154 : tab 154 = some { agg := false, size := 1, bytes := 8, zero := [.map none], d := .map 52 120 } := rfl
@[simp] theorem tab_158 : tab 158 = some { agg := false, size := 1, bytes := 8, zero := [.pointer none], d := .ptr 148 } := rfl
@[simp] theorem tab_162 : tab 162 = some { agg := true, size := 4, bytes := 40, zero := [.pointer none, .pointer none, .pointer none, .string ⟨#[]⟩], d := .struct [(0, 17), (1, 17), (2, 17), (3, 9)] } := rfl
@[simp] theorem tab_163 : tab 163 = some { agg := true, size := 4, bytes := 40, zero := [.pointer none, .pointer none, .pointer none, .string ⟨#[]⟩], d := .struct [(0, 17), (1, 17), (2, 17), (3, 9)] } := rfl
@[simp] theorem tab_164 : tab 164 = some { agg := true, size := 0, bytes := 0, zero := [], d := .arr 0 16 } := rfl
@[simp] theorem tab_165 : tab 165 = some { agg := true, size := 0, bytes := 0, zero := [], d := .struct [(0, 164)] } := rfl
@[simp] theorem tab_166 : tab 166 = some { agg := true, size := 0, bytes := 0, zero := [], d := .struct [(0, 164)] } := rfl
@[simp] theorem tab_168 : tab 168 = some { agg := false, size := 1, bytes := 1, zero := [.int .u8 0], d := .int .u8, ck := some [.u8] } := rfl
@[simp] theorem tab_169 : tab 169 = some { agg := false, size := 1, bytes := 1, zero := [.int .u8 0], d := .int .u8, ck := some [.u8] } := rfl
@[simp] theorem tab_171 : tab 171 = some { agg := false, size := 1, bytes := 8, zero := [.pointer none], d := .ptr 5 } := rfl
@[simp] theorem tab_172 : tab 172 = some { agg := false, size := 1, bytes := 4, zero := [.int .i32 0], d := .int .i32, ck := some [.i32] } := rfl
@[simp] theorem tab_173 : tab 173 = some { agg := false, size := 1, bytes := 4, zero := [.int .i32 0], d := .int .i32, ck := some [.i32] } := rfl
@[simp] theorem tab_174 : tab 174 = some { agg := true, size := 11, bytes := 48, zero := [.int .u64 0, .int .u64 0, .int .u32 0, .int .u8 0, .int .u8 0, .int .u8 0, .int .u8 0, .nilFunc, .pointer none, .int .i32 0, .int .i32 0], d := .struct [(0, 12), (1, 12), (2, 22), (3, 168), (4, 5), (5, 5), (6, 169), (7, 170), (8, 171), (9, 172), (10, 173)] } := rfl
@[simp] theorem tab_175 : tab 175 = some { agg := true, size := 11, bytes := 48, zero := [.int .u64 0, .int .u64 0, .int .u32 0, .int .u8 0, .int .u8 0, .int .u8 0, .int .u8 0, .nilFunc, .pointer none, .int .i32 0, .int .i32 0], d := .struct [(0, 12), (1, 12), (2, 22), (3, 168), (4, 5), (5, 5), (6, 169), (7, 170), (8, 171), (9, 172), (10, 173)] } := rfl
theorem info_of {P : Program} {t size bytes : Nat} {z : Value} (h : (P.info? t).map (fun i => (i.size, i.bytes, i.zero)) = some (size, bytes, some z)) : ∃ i, P.info? t = some i ∧ i.size = size ∧ i.bytes = bytes ∧ i.zero = some z := by
  cases hi : P.info? t with
  | none => simp [hi] at h
  | some i =>
    simp only [hi, Option.map_some, Option.some.injEq, Prod.mk.injEq] at h
    exact ⟨i, rfl, h.1, h.2.1, h.2.2⟩
theorem eqOk_51 : EqOk Try.prog 51 true [.u32, .u32, .u32] := by
  have u22 := Try.underlying22
  have a22 := Try.isAgg22
  have z22 := Try.sizeOf22
  have hp : Try.prog.stoodInHeld 51 = false := by kernel_rfl
  refine ⟨fun w as1 bs1 h1 h2 => ?_, fun w em as1 h1 => ?_, fun _ => by kernel_rfl, (fun h => by cases h), _, Try.underlying51, .inr fun as1 bs1 h1 h2 => by simp [mkV, Instr.sameNow]⟩
  · match as1, bs1, h1, h2 with
    | [x0, x1, x2], [y0, y1, y2], _, _ =>
      have hS : Try.prog.underlying 51 = some (.struct (Try.prog.fieldsOf 51)) := by kernel_rfl
      simp only [mkV, mkC, if_true]
      unfold Op.equal Op.maxDepth
      rw [show (10000 : Nat) = 9999 + 1 from rfl, run_equalIn_agg w 9999 51 _ _ hS hp]
      simp only [Program.fieldsOf, Try.underlying51]
      go_simp
      by_cases e0 : x0 = y0 <;> by_cases e1 : x1 = y1 <;> by_cases e2 : x2 = y2 <;> simp [e0, e1, e2]
  · match as1, h1 with
    | [x0, x1, x2], _ =>
      simp only [mkV, mkC, if_true]
      unfold Instr.checkKey
      simp only [Sem.run_bind, run_underlying Try.underlying51, Result.andThen_ok]
      go_simp
      (try simp [chk_int u22])
theorem eqOk_52 : EqOk Try.prog 52 true [.u32, .u32, .u32] := by
  have u22 := Try.underlying22
  have a22 := Try.isAgg22
  have z22 := Try.sizeOf22
  have hp : Try.prog.stoodInHeld 52 = false := by kernel_rfl
  refine ⟨fun w as1 bs1 h1 h2 => ?_, fun w em as1 h1 => ?_, fun _ => by kernel_rfl, (fun h => by cases h), _, Try.underlying52, .inr fun as1 bs1 h1 h2 => by simp [mkV, Instr.sameNow]⟩
  · match as1, bs1, h1, h2 with
    | [x0, x1, x2], [y0, y1, y2], _, _ =>
      have hS : Try.prog.underlying 52 = some (.struct (Try.prog.fieldsOf 52)) := by kernel_rfl
      simp only [mkV, mkC, if_true]
      unfold Op.equal Op.maxDepth
      rw [show (10000 : Nat) = 9999 + 1 from rfl, run_equalIn_agg w 9999 52 _ _ hS hp]
      simp only [Program.fieldsOf, Try.underlying52]
      go_simp
      by_cases e0 : x0 = y0 <;> by_cases e1 : x1 = y1 <;> by_cases e2 : x2 = y2 <;> simp [e0, e1, e2]
  · match as1, h1 with
    | [x0, x1, x2], _ =>
      simp only [mkV, mkC, if_true]
      unfold Instr.checkKey
      simp only [Sem.run_bind, run_underlying Try.underlying52, Result.andThen_ok]
      go_simp
      (try simp [chk_int u22])
theorem rowOk_2 : RowOk Try.prog 2 { agg := false, size := 1, bytes := 8, zero := [.int .i64 0], d := .int .i64, ck := some [.i64] } :=
  ⟨Try.isAgg2, info_of (z := .int .i64 0) (by kernel_rfl), rfl, fun _ => rfl, rfl, Try.underlying2, (fun ks h => by injection h with h; subst h; exact eqOk_int Try.underlying2)⟩
theorem rowOk_3 : RowOk Try.prog 3 { agg := false, size := 1, bytes := 8, zero := [.int .i64 0], d := .int .i64, ck := some [.i64] } :=
  ⟨Try.isAgg3, info_of (z := .int .i64 0) (by kernel_rfl), rfl, fun _ => rfl, rfl, Try.underlying3, (fun ks h => by injection h with h; subst h; exact eqOk_int Try.underlying3)⟩
theorem rowOk_4 : RowOk Try.prog 4 { agg := false, size := 1, bytes := 1, zero := [.bool false], d := .bool } :=
  ⟨Try.isAgg4, info_of (z := .bool false) (by kernel_rfl), rfl, fun _ => rfl, rfl, Try.underlying4, (fun ks h => by cases h)⟩
theorem rowOk_5 : RowOk Try.prog 5 { agg := false, size := 1, bytes := 1, zero := [.int .u8 0], d := .int .u8, ck := some [.u8] } :=
  ⟨Try.isAgg5, info_of (z := .int .u8 0) (by kernel_rfl), rfl, fun _ => rfl, rfl, Try.underlying5, (fun ks h => by injection h with h; subst h; exact eqOk_int Try.underlying5)⟩
theorem rowOk_6 : RowOk Try.prog 6 { agg := false, size := 1, bytes := 1, zero := [.int .u8 0], d := .int .u8, ck := some [.u8] } :=
  ⟨Try.isAgg6, info_of (z := .int .u8 0) (by kernel_rfl), rfl, fun _ => rfl, rfl, Try.underlying6, (fun ks h => by injection h with h; subst h; exact eqOk_int Try.underlying6)⟩
theorem rowOk_7 : RowOk Try.prog 7 { agg := true, size := 4, bytes := 24, zero := [.int .i64 0, .int .i64 0, .bool false, .int .u8 0], d := .struct [(0, 2), (1, 3), (2, 4), (3, 6)] } :=
  ⟨Try.isAgg7, info_of (z := .agg #[.int .i64 0, .int .i64 0, .bool false, .int .u8 0]) (by kernel_rfl), rfl, (fun h => by cases h), rfl, ⟨_, Try.underlying7, rfl⟩, (fun ks h => by cases h)⟩
theorem rowOk_8 : RowOk Try.prog 8 { agg := true, size := 4, bytes := 24, zero := [.int .i64 0, .int .i64 0, .bool false, .int .u8 0], d := .struct [(0, 2), (1, 3), (2, 4), (3, 6)] } :=
  ⟨Try.isAgg8, info_of (z := .agg #[.int .i64 0, .int .i64 0, .bool false, .int .u8 0]) (by kernel_rfl), rfl, (fun h => by cases h), rfl, ⟨_, Try.underlying8, rfl⟩, (fun ks h => by cases h)⟩
theorem rowOk_9 : RowOk Try.prog 9 { agg := false, size := 1, bytes := 16, zero := [.string ⟨#[]⟩], d := .str } :=
  ⟨Try.isAgg9, info_of (z := .string ⟨#[]⟩) (by kernel_rfl), rfl, fun _ => rfl, rfl, Try.underlying9, (fun ks h => by cases h)⟩
theorem rowOk_10 : RowOk Try.prog 10 { agg := false, size := 1, bytes := 16, zero := [.string ⟨#[]⟩], d := .str } :=
  ⟨Try.isAgg10, info_of (z := .string ⟨#[]⟩) (by kernel_rfl), rfl, fun _ => rfl, rfl, Try.underlying10, (fun ks h => by cases h)⟩
theorem rowOk_11 : RowOk Try.prog 11 { agg := false, size := 1, bytes := 16, zero := [.string ⟨#[]⟩], d := .str } :=
  ⟨Try.isAgg11, info_of (z := .string ⟨#[]⟩) (by kernel_rfl), rfl, fun _ => rfl, rfl, Try.underlying11, (fun ks h => by cases h)⟩
theorem rowOk_12 : RowOk Try.prog 12 { agg := false, size := 1, bytes := 8, zero := [.int .u64 0], d := .int .u64, ck := some [.u64] } :=
  ⟨Try.isAgg12, info_of (z := .int .u64 0) (by kernel_rfl), rfl, fun _ => rfl, rfl, Try.underlying12, (fun ks h => by injection h with h; subst h; exact eqOk_int Try.underlying12)⟩
theorem rowOk_13 : RowOk Try.prog 13 { agg := true, size := 2, bytes := 24, zero := [.string ⟨#[]⟩, .int .u64 0], d := .struct [(0, 9), (1, 12)] } :=
  ⟨Try.isAgg13, info_of (z := .agg #[.string ⟨#[]⟩, .int .u64 0]) (by kernel_rfl), rfl, (fun h => by cases h), rfl, ⟨_, Try.underlying13, rfl⟩, (fun ks h => by cases h)⟩
theorem rowOk_14 : RowOk Try.prog 14 { agg := true, size := 2, bytes := 24, zero := [.string ⟨#[]⟩, .int .u64 0], d := .struct [(0, 9), (1, 12)] } :=
  ⟨Try.isAgg14, info_of (z := .agg #[.string ⟨#[]⟩, .int .u64 0]) (by kernel_rfl), rfl, (fun h => by cases h), rfl, ⟨_, Try.underlying14, rfl⟩, (fun ks h => by cases h)⟩
theorem rowOk_15 : RowOk Try.prog 15 { agg := false, size := 1, bytes := 8, zero := [.pointer none], d := .ptr 163 } :=
  ⟨Try.isAgg15, info_of (z := .pointer none) (by kernel_rfl), rfl, fun _ => rfl, rfl, Try.underlying15, (fun ks h => by cases h)⟩
theorem rowOk_16 : RowOk Try.prog 16 { agg := false, size := 1, bytes := 8, zero := [.pointer none], d := .ptr 166 } :=
  ⟨Try.isAgg16, info_of (z := .pointer none) (by kernel_rfl), rfl, fun _ => rfl, rfl, Try.underlying16, (fun ks h => by cases h)⟩
theorem rowOk_17 : RowOk Try.prog 17 { agg := false, size := 1, bytes := 8, zero := [.pointer none], d := .ptr 175 } :=
  ⟨Try.isAgg17, info_of (z := .pointer none) (by kernel_rfl), rfl, fun _ => rfl, rfl, Try.underlying17, (fun ks h => by cases h)⟩
theorem rowOk_18 : RowOk Try.prog 18 { agg := true, size := 1, bytes := 8, zero := [.pointer none], d := .struct [(0, 17)] } :=
  ⟨Try.isAgg18, info_of (z := .agg #[.pointer none]) (by kernel_rfl), rfl, (fun h => by cases h), rfl, ⟨_, Try.underlying18, rfl⟩, (fun ks h => by cases h)⟩
theorem rowOk_19 : RowOk Try.prog 19 { agg := true, size := 1, bytes := 8, zero := [.pointer none], d := .struct [(0, 17)] } :=
  ⟨Try.isAgg19, info_of (z := .agg #[.pointer none]) (by kernel_rfl), rfl, (fun h => by cases h), rfl, ⟨_, Try.underlying19, rfl⟩, (fun ks h => by cases h)⟩
theorem rowOk_21 : RowOk Try.prog 21 { agg := false, size := 1, bytes := 4, zero := [.int .i32 0], d := .int .i32, ck := some [.i32] } :=
  ⟨Try.isAgg21, info_of (z := .int .i32 0) (by kernel_rfl), rfl, fun _ => rfl, rfl, Try.underlying21, (fun ks h => by injection h with h; subst h; exact eqOk_int Try.underlying21)⟩
theorem rowOk_22 : RowOk Try.prog 22 { agg := false, size := 1, bytes := 4, zero := [.int .u32 0], d := .int .u32, ck := some [.u32] } :=
  ⟨Try.isAgg22, info_of (z := .int .u32 0) (by kernel_rfl), rfl, fun _ => rfl, rfl, Try.underlying22, (fun ks h => by injection h with h; subst h; exact eqOk_int Try.underlying22)⟩
theorem rowOk_25 : RowOk Try.prog 25 { agg := false, size := 1, bytes := 8, zero := [.nilFunc], d := .other } :=
  ⟨Try.isAgg25, info_of (z := .nilFunc) (by kernel_rfl), rfl, fun _ => rfl, rfl, trivial, (fun ks h => by cases h)⟩
theorem rowOk_27 : RowOk Try.prog 27 { agg := false, size := 1, bytes := 24, zero := [.slice none 0 0], d := .slice 22 } :=
  ⟨Try.isAgg27, info_of (z := .slice none 0 0) (by kernel_rfl), rfl, fun _ => rfl, rfl, Try.underlying27, (fun ks h => by cases h)⟩
theorem rowOk_37 : RowOk Try.prog 37 { agg := false, size := 1, bytes := 8, zero := [.map none], d := .map 22 4 } :=
  ⟨Try.isAgg37, info_of (z := .map none) (by kernel_rfl), rfl, fun _ => rfl, rfl, Try.underlying37, (fun ks h => by cases h)⟩
theorem rowOk_39 : RowOk Try.prog 39 { agg := false, size := 1, bytes := 24, zero := [.slice none 0 0], d := .slice 52 } :=
  ⟨Try.isAgg39, info_of (z := .slice none 0 0) (by kernel_rfl), rfl, fun _ => rfl, rfl, Try.underlying39, (fun ks h => by cases h)⟩
theorem rowOk_40 : RowOk Try.prog 40 { agg := true, size := 2, bytes := 48, zero := [.slice none 0 0, .slice none 0 0], d := .struct [(0, 27), (1, 39)] } :=
  ⟨Try.isAgg40, info_of (z := .agg #[.slice none 0 0, .slice none 0 0]) (by kernel_rfl), rfl, (fun h => by cases h), rfl, ⟨_, Try.underlying40, rfl⟩, (fun ks h => by cases h)⟩
theorem rowOk_41 : RowOk Try.prog 41 { agg := true, size := 2, bytes := 48, zero := [.slice none 0 0, .slice none 0 0], d := .struct [(0, 27), (1, 39)] } :=
  ⟨Try.isAgg41, info_of (z := .agg #[.slice none 0 0, .slice none 0 0]) (by kernel_rfl), rfl, (fun h => by cases h), rfl, ⟨_, Try.underlying41, rfl⟩, (fun ks h => by cases h)⟩
theorem rowOk_42 : RowOk Try.prog 42 { agg := false, size := 1, bytes := 8, zero := [.int .i64 0], d := .int .i64, ck := some [.i64] } :=
  ⟨Try.isAgg42, info_of (z := .int .i64 0) (by kernel_rfl), rfl, fun _ => rfl, rfl, Try.underlying42, (fun ks h => by injection h with h; subst h; exact eqOk_int Try.underlying42)⟩
theorem rowOk_47 : RowOk Try.prog 47 { agg := false, size := 1, bytes := 24, zero := [.slice none 0 0], d := .slice 27 } :=
  ⟨Try.isAgg47, info_of (z := .slice none 0 0) (by kernel_rfl), rfl, fun _ => rfl, rfl, Try.underlying47, (fun ks h => by cases h)⟩
theorem rowOk_51 : RowOk Try.prog 51 { agg := true, size := 3, bytes := 12, zero := [.int .u32 0, .int .u32 0, .int .u32 0], d := .struct [(0, 22), (1, 22), (2, 22)], ck := some [.u32, .u32, .u32] } :=
  ⟨Try.isAgg51, info_of (z := .agg #[.int .u32 0, .int .u32 0, .int .u32 0]) (by kernel_rfl), rfl, (fun h => by cases h), rfl, ⟨_, Try.underlying51, rfl⟩, (fun ks h => by injection h with h; subst h; exact eqOk_51)⟩
theorem rowOk_52 : RowOk Try.prog 52 { agg := true, size := 3, bytes := 12, zero := [.int .u32 0, .int .u32 0, .int .u32 0], d := .struct [(0, 22), (1, 22), (2, 22)], ck := some [.u32, .u32, .u32] } :=
  ⟨Try.isAgg52, info_of (z := .agg #[.int .u32 0, .int .u32 0, .int .u32 0]) (by kernel_rfl), rfl, (fun h => by cases h), rfl, ⟨_, Try.underlying52, rfl⟩, (fun ks h => by injection h with h; subst h; exact eqOk_52)⟩
theorem rowOk_55 : RowOk Try.prog 55 { agg := false, size := 1, bytes := 24, zero := [.slice none 0 0], d := .slice 41 } :=
  ⟨Try.isAgg55, info_of (z := .slice none 0 0) (by kernel_rfl), rfl, fun _ => rfl, rfl, Try.underlying55, (fun ks h => by cases h)⟩
theorem rowOk_65 : RowOk Try.prog 65 { agg := true, size := 3, bytes := 72, zero := [.slice none 0 0, .slice none 0 0, .slice none 0 0], d := .struct [(0, 27), (1, 27), (2, 27)] } :=
  ⟨Try.isAgg65, info_of (z := .agg #[.slice none 0 0, .slice none 0 0, .slice none 0 0]) (by kernel_rfl), rfl, (fun h => by cases h), rfl, ⟨_, Try.underlying65, rfl⟩, (fun ks h => by cases h)⟩
theorem rowOk_66 : RowOk Try.prog 66 { agg := true, size := 3, bytes := 72, zero := [.slice none 0 0, .slice none 0 0, .slice none 0 0], d := .struct [(0, 27), (1, 27), (2, 27)] } :=
  ⟨Try.isAgg66, info_of (z := .agg #[.slice none 0 0, .slice none 0 0, .slice none 0 0]) (by kernel_rfl), rfl, (fun h => by cases h), rfl, ⟨_, Try.underlying66, rfl⟩, (fun ks h => by cases h)⟩
theorem rowOk_70 : RowOk Try.prog 70 { agg := true, size := 3, bytes := 72, zero := [.slice none 0 0, .slice none 0 0, .slice none 0 0], d := .struct [(0, 41), (2, 47)] } :=
  ⟨Try.isAgg70, info_of (z := .agg #[.slice none 0 0, .slice none 0 0, .slice none 0 0]) (by kernel_rfl), rfl, (fun h => by cases h), rfl, ⟨_, Try.underlying70, rfl⟩, (fun ks h => by cases h)⟩
theorem rowOk_71 : RowOk Try.prog 71 { agg := true, size := 3, bytes := 72, zero := [.slice none 0 0, .slice none 0 0, .slice none 0 0], d := .struct [(0, 41), (2, 47)] } :=
  ⟨Try.isAgg71, info_of (z := .agg #[.slice none 0 0, .slice none 0 0, .slice none 0 0]) (by kernel_rfl), rfl, (fun h => by cases h), rfl, ⟨_, Try.underlying71, rfl⟩, (fun ks h => by cases h)⟩
theorem rowOk_75 : RowOk Try.prog 75 { agg := false, size := 1, bytes := 8, zero := [.map none], d := .map 22 27 } :=
  ⟨Try.isAgg75, info_of (z := .map none) (by kernel_rfl), rfl, fun _ => rfl, rfl, Try.underlying75, (fun ks h => by cases h)⟩
theorem rowOk_78 : RowOk Try.prog 78 { agg := false, size := 1, bytes := 8, zero := [.int .u64 0], d := .int .u64, ck := some [.u64] } :=
  ⟨Try.isAgg78, info_of (z := .int .u64 0) (by kernel_rfl), rfl, fun _ => rfl, rfl, Try.underlying78, (fun ks h => by injection h with h; subst h; exact eqOk_int Try.underlying78)⟩
theorem rowOk_83 : RowOk Try.prog 83 { agg := false, size := 1, bytes := 8, zero := [.nilFunc], d := .other } :=
  ⟨Try.isAgg83, info_of (z := .nilFunc) (by kernel_rfl), rfl, fun _ => rfl, rfl, trivial, (fun ks h => by cases h)⟩
theorem rowOk_89 : RowOk Try.prog 89 { agg := false, size := 1, bytes := 8, zero := [.map none], d := .map 22 3 } :=
  ⟨Try.isAgg89, info_of (z := .map none) (by kernel_rfl), rfl, fun _ => rfl, rfl, Try.underlying89, (fun ks h => by cases h)⟩
theorem rowOk_91 : RowOk Try.prog 91 { agg := true, size := 3, bytes := 72, zero := [.slice none 0 0, .slice none 0 0, .slice none 0 0], d := .struct [(0, 66)] } :=
  ⟨Try.isAgg91, info_of (z := .agg #[.slice none 0 0, .slice none 0 0, .slice none 0 0]) (by kernel_rfl), rfl, (fun h => by cases h), rfl, ⟨_, Try.underlying91, rfl⟩, (fun ks h => by cases h)⟩
theorem rowOk_92 : RowOk Try.prog 92 { agg := true, size := 3, bytes := 72, zero := [.slice none 0 0, .slice none 0 0, .slice none 0 0], d := .struct [(0, 66)] } :=
  ⟨Try.isAgg92, info_of (z := .agg #[.slice none 0 0, .slice none 0 0, .slice none 0 0]) (by kernel_rfl), rfl, (fun h => by cases h), rfl, ⟨_, Try.underlying92, rfl⟩, (fun ks h => by cases h)⟩
theorem rowOk_93 : RowOk Try.prog 93 { agg := true, size := 3, bytes := 72, zero := [.slice none 0 0, .slice none 0 0, .slice none 0 0], d := .struct [(0, 39), (1, 39), (2, 39)] } :=
  ⟨Try.isAgg93, info_of (z := .agg #[.slice none 0 0, .slice none 0 0, .slice none 0 0]) (by kernel_rfl), rfl, (fun h => by cases h), rfl, ⟨_, Try.underlying93, rfl⟩, (fun ks h => by cases h)⟩
theorem rowOk_94 : RowOk Try.prog 94 { agg := true, size := 3, bytes := 72, zero := [.slice none 0 0, .slice none 0 0, .slice none 0 0], d := .struct [(0, 39), (1, 39), (2, 39)] } :=
  ⟨Try.isAgg94, info_of (z := .agg #[.slice none 0 0, .slice none 0 0, .slice none 0 0]) (by kernel_rfl), rfl, (fun h => by cases h), rfl, ⟨_, Try.underlying94, rfl⟩, (fun ks h => by cases h)⟩
theorem rowOk_95 : RowOk Try.prog 95 { agg := true, size := 3, bytes := 72, zero := [.slice none 0 0, .slice none 0 0, .slice none 0 0], d := .struct [(0, 94)] } :=
  ⟨Try.isAgg95, info_of (z := .agg #[.slice none 0 0, .slice none 0 0, .slice none 0 0]) (by kernel_rfl), rfl, (fun h => by cases h), rfl, ⟨_, Try.underlying95, rfl⟩, (fun ks h => by cases h)⟩
theorem rowOk_96 : RowOk Try.prog 96 { agg := true, size := 3, bytes := 72, zero := [.slice none 0 0, .slice none 0 0, .slice none 0 0], d := .struct [(0, 94)] } :=
  ⟨Try.isAgg96, info_of (z := .agg #[.slice none 0 0, .slice none 0 0, .slice none 0 0]) (by kernel_rfl), rfl, (fun h => by cases h), rfl, ⟨_, Try.underlying96, rfl⟩, (fun ks h => by cases h)⟩
theorem rowOk_114 : RowOk Try.prog 114 { agg := false, size := 1, bytes := 8, zero := [.nilFunc], d := .other } :=
  ⟨Try.isAgg114, info_of (z := .nilFunc) (by kernel_rfl), rfl, fun _ => rfl, rfl, trivial, (fun ks h => by cases h)⟩
theorem rowOk_119 : RowOk Try.prog 119 { agg := false, size := 1, bytes := 8, zero := [.map none], d := .map 22 120 } :=
  ⟨Try.isAgg119, info_of (z := .map none) (by kernel_rfl), rfl, fun _ => rfl, rfl, Try.underlying119, (fun ks h => by cases h)⟩
theorem rowOk_120 : RowOk Try.prog 120 { agg := true, size := 0, bytes := 0, zero := [], d := .struct [] } :=
  ⟨Try.isAgg120, info_of (z := .agg #[]) (by kernel_rfl), rfl, (fun h => by cases h), rfl, ⟨_, Try.underlying120, rfl⟩, (fun ks h => by cases h)⟩
theorem rowOk_122 : RowOk Try.prog 122 { agg := false, size := 1, bytes := 8, zero := [.map none], d := .map 22 22 } :=
  ⟨Try.isAgg122, info_of (z := .map none) (by kernel_rfl), rfl, fun _ => rfl, rfl, Try.underlying122, (fun ks h => by cases h)⟩
theorem rowOk_132 : RowOk Try.prog 132 { agg := false, size := 1, bytes := 8, zero := [.int .i64 0], d := .int .i64, ck := some [.i64] } :=
  ⟨Try.isAgg132, info_of (z := .int .i64 0) (by kernel_rfl), rfl, fun _ => rfl, rfl, Try.underlying132, (fun ks h => by injection h with h; subst h; exact eqOk_int Try.underlying132)⟩
theorem rowOk_141 : RowOk Try.prog 141 { agg := false, size := 1, bytes := 8, zero := [.int .u64 0], d := .int .u64, ck := some [.u64] } :=
  ⟨Try.isAgg141, info_of (z := .int .u64 0) (by kernel_rfl), rfl, fun _ => rfl, rfl, Try.underlying141, (fun ks h => by injection h with h; subst h; exact eqOk_int Try.underlying141)⟩
theorem rowOk_148 : RowOk Try.prog 148 { agg := false, size := 1, bytes := 8, zero := [.int .u64 0], d := .int .u64, ck := some [.u64] } :=
  ⟨Try.isAgg148, info_of (z := .int .u64 0) (by kernel_rfl), rfl, fun _ => rfl, rfl, Try.underlying148, (fun ks h => by injection h with h; subst h; exact eqOk_int Try.underlying148)⟩
theorem rowOk_152 : RowOk Try.prog 152 { agg := false, size := 1, bytes := 8, zero := [.pointer none], d := .ptr 3 } :=
  ⟨Try.isAgg152, info_of (z := .pointer none) (by kernel_rfl), rfl, fun _ => rfl, rfl, Try.underlying152, (fun ks h => by cases h)⟩
theorem rowOk_154 : RowOk Try.prog 154 { agg := false, size := 1, bytes := 8, zero := [.map none], d := .map 52 120 } :=
  ⟨Try.isAgg154, info_of (z := .map none) (by kernel_rfl), rfl, fun _ => rfl, rfl, Try.underlying154, (fun ks h => by cases h)⟩
theorem rowOk_158 : RowOk Try.prog 158 { agg := false, size := 1, bytes := 8, zero := [.pointer none], d := .ptr 148 } :=
  ⟨Try.isAgg158, info_of (z := .pointer none) (by kernel_rfl), rfl, fun _ => rfl, rfl, Try.underlying158, (fun ks h => by cases h)⟩
theorem rowOk_162 : RowOk Try.prog 162 { agg := true, size := 4, bytes := 40, zero := [.pointer none, .pointer none, .pointer none, .string ⟨#[]⟩], d := .struct [(0, 17), (1, 17), (2, 17), (3, 9)] } :=
  ⟨Try.isAgg162, info_of (z := .agg #[.pointer none, .pointer none, .pointer none, .string ⟨#[]⟩]) (by kernel_rfl), rfl, (fun h => by cases h), rfl, ⟨_, Try.underlying162, rfl⟩, (fun ks h => by cases h)⟩
theorem rowOk_163 : RowOk Try.prog 163 { agg := true, size := 4, bytes := 40, zero := [.pointer none, .pointer none, .pointer none, .string ⟨#[]⟩], d := .struct [(0, 17), (1, 17), (2, 17), (3, 9)] } :=
  ⟨Try.isAgg163, info_of (z := .agg #[.pointer none, .pointer none, .pointer none, .string ⟨#[]⟩]) (by kernel_rfl), rfl, (fun h => by cases h), rfl, ⟨_, Try.underlying163, rfl⟩, (fun ks h => by cases h)⟩
theorem rowOk_164 : RowOk Try.prog 164 { agg := true, size := 0, bytes := 0, zero := [], d := .arr 0 16 } :=
  ⟨Try.isAgg164, info_of (z := .agg #[]) (by kernel_rfl), rfl, (fun h => by cases h), rfl, Try.underlying164, (fun ks h => by cases h)⟩
theorem rowOk_165 : RowOk Try.prog 165 { agg := true, size := 0, bytes := 0, zero := [], d := .struct [(0, 164)] } :=
  ⟨Try.isAgg165, info_of (z := .agg #[]) (by kernel_rfl), rfl, (fun h => by cases h), rfl, ⟨_, Try.underlying165, rfl⟩, (fun ks h => by cases h)⟩
theorem rowOk_166 : RowOk Try.prog 166 { agg := true, size := 0, bytes := 0, zero := [], d := .struct [(0, 164)] } :=
  ⟨Try.isAgg166, info_of (z := .agg #[]) (by kernel_rfl), rfl, (fun h => by cases h), rfl, ⟨_, Try.underlying166, rfl⟩, (fun ks h => by cases h)⟩
theorem rowOk_168 : RowOk Try.prog 168 { agg := false, size := 1, bytes := 1, zero := [.int .u8 0], d := .int .u8, ck := some [.u8] } :=
  ⟨Try.isAgg168, info_of (z := .int .u8 0) (by kernel_rfl), rfl, fun _ => rfl, rfl, Try.underlying168, (fun ks h => by injection h with h; subst h; exact eqOk_int Try.underlying168)⟩
theorem rowOk_169 : RowOk Try.prog 169 { agg := false, size := 1, bytes := 1, zero := [.int .u8 0], d := .int .u8, ck := some [.u8] } :=
  ⟨Try.isAgg169, info_of (z := .int .u8 0) (by kernel_rfl), rfl, fun _ => rfl, rfl, Try.underlying169, (fun ks h => by injection h with h; subst h; exact eqOk_int Try.underlying169)⟩
theorem rowOk_171 : RowOk Try.prog 171 { agg := false, size := 1, bytes := 8, zero := [.pointer none], d := .ptr 5 } :=
  ⟨Try.isAgg171, info_of (z := .pointer none) (by kernel_rfl), rfl, fun _ => rfl, rfl, Try.underlying171, (fun ks h => by cases h)⟩
theorem rowOk_172 : RowOk Try.prog 172 { agg := false, size := 1, bytes := 4, zero := [.int .i32 0], d := .int .i32, ck := some [.i32] } :=
  ⟨Try.isAgg172, info_of (z := .int .i32 0) (by kernel_rfl), rfl, fun _ => rfl, rfl, Try.underlying172, (fun ks h => by injection h with h; subst h; exact eqOk_int Try.underlying172)⟩
theorem rowOk_173 : RowOk Try.prog 173 { agg := false, size := 1, bytes := 4, zero := [.int .i32 0], d := .int .i32, ck := some [.i32] } :=
  ⟨Try.isAgg173, info_of (z := .int .i32 0) (by kernel_rfl), rfl, fun _ => rfl, rfl, Try.underlying173, (fun ks h => by injection h with h; subst h; exact eqOk_int Try.underlying173)⟩
theorem rowOk_174 : RowOk Try.prog 174 { agg := true, size := 11, bytes := 48, zero := [.int .u64 0, .int .u64 0, .int .u32 0, .int .u8 0, .int .u8 0, .int .u8 0, .int .u8 0, .nilFunc, .pointer none, .int .i32 0, .int .i32 0], d := .struct [(0, 12), (1, 12), (2, 22), (3, 168), (4, 5), (5, 5), (6, 169), (7, 170), (8, 171), (9, 172), (10, 173)] } :=
  ⟨Try.isAgg174, info_of (z := .agg #[.int .u64 0, .int .u64 0, .int .u32 0, .int .u8 0, .int .u8 0, .int .u8 0, .int .u8 0, .nilFunc, .pointer none, .int .i32 0, .int .i32 0]) (by kernel_rfl), rfl, (fun h => by cases h), rfl, ⟨_, Try.underlying174, rfl⟩, (fun ks h => by cases h)⟩
theorem rowOk_175 : RowOk Try.prog 175 { agg := true, size := 11, bytes := 48, zero := [.int .u64 0, .int .u64 0, .int .u32 0, .int .u8 0, .int .u8 0, .int .u8 0, .int .u8 0, .nilFunc, .pointer none, .int .i32 0, .int .i32 0], d := .struct [(0, 12), (1, 12), (2, 22), (3, 168), (4, 5), (5, 5), (6, 169), (7, 170), (8, 171), (9, 172), (10, 173)] } :=
  ⟨Try.isAgg175, info_of (z := .agg #[.int .u64 0, .int .u64 0, .int .u32 0, .int .u8 0, .int .u8 0, .int .u8 0, .int .u8 0, .nilFunc, .pointer none, .int .i32 0, .int .i32 0]) (by kernel_rfl), rfl, (fun h => by cases h), rfl, ⟨_, Try.underlying175, rfl⟩, (fun ks h => by cases h)⟩
theorem tabOk : TabOk Try.prog tab := tabOk_of tabL ⟨rowOk_2, rowOk_3, rowOk_4, rowOk_5, rowOk_6, rowOk_7, rowOk_8, rowOk_9, rowOk_10, rowOk_11, rowOk_12, rowOk_13, rowOk_14, rowOk_15, rowOk_16, rowOk_17, rowOk_18, rowOk_19, rowOk_21, rowOk_22, rowOk_25, rowOk_27, rowOk_37, rowOk_39, rowOk_40, rowOk_41, rowOk_42, rowOk_47, rowOk_51, rowOk_52, rowOk_55, rowOk_65, rowOk_66, rowOk_70, rowOk_71, rowOk_75, rowOk_78, rowOk_83, rowOk_89, rowOk_91, rowOk_92, rowOk_93, rowOk_94, rowOk_95, rowOk_96, rowOk_114, rowOk_119, rowOk_120, rowOk_122, rowOk_132, rowOk_141, rowOk_148, rowOk_152, rowOk_154, rowOk_158, rowOk_162, rowOk_163, rowOk_164, rowOk_165, rowOk_166, rowOk_168, rowOk_169, rowOk_171, rowOk_172, rowOk_173, rowOk_174, rowOk_175, trivial⟩
end Go.Proofs.Ytphdhggoaijfoaa.Aw
