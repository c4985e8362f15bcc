/- The types of this seat's translation, as a table, and that the loaded program has them so. Written by a program (gentab.py). -/
import Derived.Test.YtlnefdmdabhobaaGreatAwDraw
import Derived.Test.YtlnefdmdabhobaaGreatAwArr
import Derived.Test.YtlnefdmdabhobaaGreatProg
import Derived.KernelRfl
import Derived.Tactics
import Derived.Laws.StructEq
namespace Go.Proofs.YtlnefdmdabhobaaGreat.Aw
open Go Go.RowKit
set_option linter.unusedSimpArgs false
set_option linter.unusedVariables false
def tabL : List (Nat × TRow) := [
  (2, { agg := false, size := 1, bytes := 8, zero := [.int .i64 0], d := .int .i64, ck := some [.i64] }),
  (3, { agg := false, size := 1, bytes := 8, zero := [.int .i64 0], d := .int .i64, ck := some [.i64] }),
  (4, { agg := false, size := 1, bytes := 1, zero := [.bool false], d := .bool }),
  (5, { agg := false, size := 1, bytes := 1, zero := [.int .u8 0], d := .int .u8, ck := some [.u8] }),
  (6, { agg := false, size := 1, bytes := 1, zero := [.int .u8 0], d := .int .u8, ck := some [.u8] }),
  (7, { agg := true, size := 4, bytes := 24, zero := [.int .i64 0, .int .i64 0, .bool false, .int .u8 0], d := .struct [(0, 2), (1, 3), (2, 4), (3, 6)] }),
  (8, { agg := true, size := 4, bytes := 24, zero := [.int .i64 0, .int .i64 0, .bool false, .int .u8 0], d := .struct [(0, 2), (1, 3), (2, 4), (3, 6)] }),
  (9, { agg := false, size := 1, bytes := 16, zero := [.string ⟨#[]⟩], d := .str }),
  (10, { agg := false, size := 1, bytes := 16, zero := [.string ⟨#[]⟩], d := .str }),
  (11, { agg := false, size := 1, bytes := 16, zero := [.string ⟨#[]⟩], d := .str }),
  (12, { agg := false, size := 1, bytes := 8, zero := [.int .u64 0], d := .int .u64, ck := some [.u64] }),
  (13, { agg := true, size := 2, bytes := 24, zero := [.string ⟨#[]⟩, .int .u64 0], d := .struct [(0, 9), (1, 12)] }),
  (14, { agg := true, size := 2, bytes := 24, zero := [.string ⟨#[]⟩, .int .u64 0], d := .struct [(0, 9), (1, 12)] }),
  (15, { agg := false, size := 1, bytes := 8, zero := [.pointer none], d := .ptr 259 }),
  (16, { agg := false, size := 1, bytes := 8, zero := [.pointer none], d := .ptr 262 }),
  (17, { agg := false, size := 1, bytes := 8, zero := [.pointer none], d := .ptr 270 }),
  (18, { agg := true, size := 1, bytes := 8, zero := [.pointer none], d := .struct [(0, 17)] }),
  (19, { agg := true, size := 1, bytes := 8, zero := [.pointer none], d := .struct [(0, 17)] }),
  (21, { agg := false, size := 1, bytes := 4, zero := [.int .i32 0], d := .int .i32, ck := some [.i32] }),
  (22, { agg := false, size := 1, bytes := 24, zero := [.slice none 0 0], d := .slice 48 }),
  (23, { agg := false, size := 1, bytes := 24, zero := [.slice none 0 0], d := .slice 50 }),
  (24, { agg := true, size := 2, bytes := 48, zero := [.slice none 0 0, .slice none 0 0], d := .struct [(0, 22), (1, 23)] }),
  (25, { agg := true, size := 2, bytes := 48, zero := [.slice none 0 0, .slice none 0 0], d := .struct [(0, 22), (1, 23)] }),
  (26, { agg := false, size := 1, bytes := 24, zero := [.slice none 0 0], d := .slice 22 }),
  (27, { agg := true, size := 3, bytes := 72, zero := [.slice none 0 0, .slice none 0 0, .slice none 0 0], d := .struct [(0, 25), (2, 26)] }),
  (28, { agg := true, size := 3, bytes := 72, zero := [.slice none 0 0, .slice none 0 0, .slice none 0 0], d := .struct [(0, 25), (2, 26)] }),
  (31, { agg := false, size := 1, bytes := 8, zero := [.map none], d := .map 3 3 }),
  (32, { agg := false, size := 1, bytes := 8, zero := [.map none], d := .map 3 3 }),
  (33, { agg := true, size := 7, bytes := 56, zero := [.map none, .int .i64 0, .int .i64 0, .int .i64 0, .int .i64 0, .int .i64 0, .int .i64 0], d := .struct [(0, 32), (1, 3), (2, 3), (3, 3), (4, 3), (5, 3), (6, 3)] }),
  (34, { agg := true, size := 7, bytes := 56, zero := [.map none, .int .i64 0, .int .i64 0, .int .i64 0, .int .i64 0, .int .i64 0, .int .i64 0], d := .struct [(0, 32), (1, 3), (2, 3), (3, 3), (4, 3), (5, 3), (6, 3)] }),
  (45, { agg := false, size := 1, bytes := 24, zero := [.slice none 0 0], d := .slice 23 }),
  (48, { agg := false, size := 1, bytes := 4, zero := [.int .u32 0], d := .int .u32, ck := some [.u32] }),
  (49, { agg := true, size := 3, bytes := 12, zero := [.int .u32 0, .int .u32 0, .int .u32 0], d := .struct [(0, 48), (1, 48), (2, 48)], ck := some [.u32, .u32, .u32] }),
  (50, { agg := true, size := 3, bytes := 12, zero := [.int .u32 0, .int .u32 0, .int .u32 0], d := .struct [(0, 48), (1, 48), (2, 48)], ck := some [.u32, .u32, .u32] }),
  (51, { agg := false, size := 1, bytes := 24, zero := [.slice none 0 0], d := .slice 52 }),
  (52, { agg := false, size := 1, bytes := 8, zero := [.map none], d := .map 48 4 }),
  (54, { agg := false, size := 1, bytes := 8, zero := [.int .i64 0], d := .int .i64, ck := some [.i64] }),
  (57, { agg := true, size := 6, bytes := 32, zero := [.int .i64 0, .int .u32 0, .int .u32 0, .int .u32 0, .int .u32 0, .int .u32 0], d := .struct [(0, 3), (1, 48), (2, 48), (3, 48), (4, 48), (5, 48)], ck := some [.i64, .u32, .u32, .u32, .u32, .u32] }),
  (58, { agg := true, size := 6, bytes := 32, zero := [.int .i64 0, .int .u32 0, .int .u32 0, .int .u32 0, .int .u32 0, .int .u32 0], d := .struct [(0, 3), (1, 48), (2, 48), (3, 48), (4, 48), (5, 48)], ck := some [.i64, .u32, .u32, .u32, .u32, .u32] }),
  (64, { agg := false, size := 1, bytes := 24, zero := [.slice none 0 0], d := .slice 58 }),
  (71, { agg := false, size := 1, bytes := 8, zero := [.map none], d := .map 48 3 }),
  (79, { agg := false, size := 1, bytes := 8, zero := [.int .u64 0], d := .int .u64, ck := some [.u64] }),
  (96, { agg := false, size := 1, bytes := 8, zero := [.pointer none], d := .ptr 100 }),
  (97, { agg := false, size := 1, bytes := 8, zero := [.map none], d := .map 48 98 }),
  (98, { agg := false, size := 1, bytes := 24, zero := [.slice none 0 0], d := .slice 3 }),
  (99, { agg := true, size := 6, bytes := 96, zero := [.slice none 0 0, .map none, .map none, .map none, .slice none 0 0, .slice none 0 0], d := .struct [(0, 23), (1, 97), (2, 71), (3, 71), (4, 98), (5, 45)] }),
  (100, { agg := true, size := 6, bytes := 96, zero := [.slice none 0 0, .map none, .map none, .map none, .slice none 0 0, .slice none 0 0], d := .struct [(0, 23), (1, 97), (2, 71), (3, 71), (4, 98), (5, 45)] }),
  (107, { agg := false, size := 1, bytes := 8, zero := [.nilFunc], d := .func }),
  (109, { agg := false, size := 1, bytes := 8, zero := [.nilFunc], d := .func }),
  (110, { agg := false, size := 1, bytes := 8, zero := [.map none], d := .map 48 22 }),
  (115, { agg := false, size := 1, bytes := 8, zero := [.pointer none], d := .ptr 117 }),
  (116, { agg := true, size := 3, bytes := 72, zero := [.slice none 0 0, .slice none 0 0, .slice none 0 0], d := .struct [(0, 28)] }),
  (117, { agg := true, size := 3, bytes := 72, zero := [.slice none 0 0, .slice none 0 0, .slice none 0 0], d := .struct [(0, 28)] }),
  (119, { agg := false, size := 1, bytes := 8, zero := [.map none], d := .map 48 48 }),
  (128, { agg := false, size := 1, bytes := 8, zero := [.pointer none], d := .ptr 130 }),
  (129, { agg := true, size := 7, bytes := 136, zero := [.slice none 0 0, .slice none 0 0, .slice none 0 0, .map none, .map none, .slice none 0 0, .slice none 0 0], d := .struct [(0, 28), (3, 119), (4, 119), (5, 22), (6, 22)] }),
  (130, { agg := true, size := 7, bytes := 136, zero := [.slice none 0 0, .slice none 0 0, .slice none 0 0, .map none, .map none, .slice none 0 0, .slice none 0 0], d := .struct [(0, 28), (3, 119), (4, 119), (5, 22), (6, 22)] }),
  (136, { agg := false, size := 1, bytes := 24, zero := [.slice none 0 0], d := .slice 4 }),
  (144, { agg := false, size := 1, bytes := 8, zero := [.nilFunc], d := .func }),
  (155, { agg := false, size := 1, bytes := 8, zero := [.int .u64 0], d := .int .u64, ck := some [.u64] }),
  (180, { agg := false, size := 1, bytes := 8, zero := [.int .i64 0], d := .int .i64, ck := some [.i64] }),
  (215, { agg := false, size := 1, bytes := 8, zero := [.map none], d := .map 216 3 }),
  (216, { agg := true, size := 2, bytes := 8, zero := [.int .u32 0, .int .u32 0], d := .arr 2 48, ck := some [.u32, .u32] }),
  (219, { agg := false, size := 1, bytes := 8, zero := [.int .u64 0], d := .int .u64, ck := some [.u64] }),
  (223, { agg := false, size := 1, bytes := 8, zero := [.pointer none], d := .ptr 3 }),
  (243, { agg := false, size := 1, bytes := 8, zero := [.pointer none], d := .ptr 219 }),
  (258, { agg := true, size := 4, bytes := 40, zero := [.pointer none, .pointer none, .pointer none, .string ⟨#[]⟩], d := .struct [(0, 17), (1, 17), (2, 17), (3, 9)] }),
  (259, { agg := true, size := 4, bytes := 40, zero := [.pointer none, .pointer none, .pointer none, .string ⟨#[]⟩], d := .struct [(0, 17), (1, 17), (2, 17), (3, 9)] }),
  (260, { agg := true, size := 0, bytes := 0, zero := [], d := .arr 0 16 }),
  (261, { agg := true, size := 0, bytes := 0, zero := [], d := .struct [(0, 260)] }),
  (262, { agg := true, size := 0, bytes := 0, zero := [], d := .struct [(0, 260)] }),
  (263, { agg := false, size := 1, bytes := 1, zero := [.int .u8 0], d := .int .u8, ck := some [.u8] }),
  (264, { agg := false, size := 1, bytes := 1, zero := [.int .u8 0], d := .int .u8, ck := some [.u8] }),
  (266, { agg := false, size := 1, bytes := 8, zero := [.pointer none], d := .ptr 5 }),
  (267, { agg := false, size := 1, bytes := 4, zero := [.int .i32 0], d := .int .i32, ck := some [.i32] }),
  (268, { agg := false, size := 1, bytes := 4, zero := [.int .i32 0], d := .int .i32, ck := some [.i32] }),
  (269, { agg := true, size := 11, bytes := 48, zero := [.int .u64 0, .int .u64 0, .int .u32 0, .int .u8 0, .int .u8 0, .int .u8 0, .int .u8 0, .nilFunc, .pointer none, .int .i32 0, .int .i32 0], d := .struct [(0, 12), (1, 12), (2, 48), (3, 263), (4, 5), (5, 5), (6, 264), (7, 265), (8, 266), (9, 267), (10, 268)] }),
  (270, { agg := true, size := 11, bytes := 48, zero := [.int .u64 0, .int .u64 0, .int .u32 0, .int .u8 0, .int .u8 0, .int .u8 0, .int .u8 0, .nilFunc, .pointer none, .int .i32 0, .int .i32 0], d := .struct [(0, 12), (1, 12), (2, 48), (3, 263), (4, 5), (5, 5), (6, 264), (7, 265), (8, 266), (9, 267), (10, 268)] })]
def tab : Tab := lookT tabL
@[simp] theorem tab_2 : tab 2 = some { agg := false, size := 1, bytes := 8, zero := [.int .i64 0], d := .int .i64, ck := some [.i64] } := rfl
@[simp] theorem tab_3 : tab 3 = some { agg := false, size := 1, bytes := 8, zero := [.int .i64 0], d := .int .i64, ck := some [.i64] } := rfl
@[simp] theorem tab_4 : tab 4 = some { agg := false, size := 1, bytes := 1, zero := [.bool false], d := .bool } := rfl
@[simp] theorem tab_5 : tab 5 = some { agg := false, size := 1, bytes := 1, zero := [.int .u8 0], d := .int .u8, ck := some [.u8] } := rfl
@[simp] theorem tab_6 : tab 6 = some { agg := false, size := 1, bytes := 1, zero := [.int .u8 0], d := .int .u8, ck := some [.u8] } := rfl
@[simp] theorem tab_7 : tab 7 = some { agg := true, size := 4, bytes := 24, zero := [.int .i64 0, .int .i64 0, .bool false, .int .u8 0], d := .struct [(0, 2), (1, 3), (2, 4), (3, 6)] } := rfl
@[simp] theorem tab_8 : tab 8 = some { agg := true, size := 4, bytes := 24, zero := [.int .i64 0, .int .i64 0, .bool false, .int .u8 0], d := .struct [(0, 2), (1, 3), (2, 4), (3, 6)] } := rfl
@[simp] theorem tab_9 : tab 9 = some { agg := false, size := 1, bytes := 16, zero := [.string ⟨#[]⟩], d := .str } := rfl
@[simp] theorem tab_10 : tab 10 = some { agg := false, size := 1, bytes := 16, zero := [.string ⟨#[]⟩], d := .str } := rfl
@[simp] theorem tab_11 : tab 11 = some { agg := false, size := 1, bytes := 16, zero := [.string ⟨#[]⟩], d := .str } := rfl
@[simp] theorem tab_12 : tab 12 = some { agg := false, size := 1, bytes := 8, zero := [.int .u64 0], d := .int .u64, ck := some [.u64] } := rfl
@[simp] theorem tab_13 : tab 13 = some { agg := true, size := 2, bytes := 24, zero := [.string ⟨#[]⟩, .int .u64 0], d := .struct [(0, 9), (1, 12)] } := rfl
@[simp] theorem tab_14 : tab 14 = some { agg := true, size := 2, bytes := 24, zero := [.string ⟨#[]⟩, .int .u64 0], d := .struct [(0, 9), (1, 12)] } := rfl
@[simp] theorem tab_15 : tab 15 = some { agg := false, size := 1, bytes := 8, zero := [.pointer none], d := .ptr 259 } := rfl
@[simp] theorem tab_16 : tab 16 = some { agg := false, size := 1, bytes := 8, zero := [.pointer none], d := .ptr 262 } := rfl
@[simp] theorem tab_17 : tab 17 = some { agg := false, size := 1, bytes := 8, zero := [.pointer none], d := .ptr 270 } := rfl
@[simp] theorem tab_18 : tab 18 = some { agg := true, size := 1, bytes := 8, zero := [.pointer none], d := .struct [(0, 17)] } := rfl
@[simp] theorem tab_19 : tab 19 = some { agg := true, size := 1, bytes := 8, zero := [.pointer none], d := .struct [(0, 17)] } := rfl
@[simp] theorem tab_21 : tab 21 = some { agg := false, size := 1, bytes := 4, zero := [.int .i32 0], d := .int .i32, ck := some [.i32] } := rfl
@[simp] theorem tab_22 : tab 22 = some { agg := false, size := 1, bytes := 24, zero := [.slice none 0 0], d := .slice 48 } := rfl
@[simp] theorem tab_23 : tab 23 = some { agg := false, size := 1, bytes := 24, zero := [.slice none 0 0], d := .slice 50 } := rfl
@[simp] theorem tab_24 : tab 24 = some { agg := true, size := 2, bytes := 48, zero := [.slice none 0 0, .slice none 0 0], d := .struct [(0, 22), (1, 23)] } := rfl
@[simp] theorem tab_25 : tab 25 = some { agg := true, size := 2, bytes := 48, zero := [.slice none 0 0, .slice none 0 0], d := .struct [(0, 22), (1, 23)] } := rfl
@[simp] theorem tab_26 : tab 26 = some { agg := false, size := 1, bytes := 24, zero := [.slice none 0 0], d := .slice 22 } := rfl
@[simp] theorem tab_27 : tab 27 = some { agg := true, size := 3, bytes := 72, zero := [.slice none 0 0, .slice none 0 0, .slice none 0 0], d := .struct [(0, 25), (2, 26)] } := rfl
@[simp] theorem tab_28 : tab 28 = some { agg := true, size := 3, bytes := 72, zero := [.slice none 0 0, .slice none 0 0, .slice none 0 0], d := .struct [(0, 25), (2, 26)] } := rfl
@[simp] theorem tab_31 : tab 31 = some { agg := false, size := 1, bytes := 8, zero := [.map none], d := .map 3 3 } := rfl
@[simp] theorem tab_32 : tab 32 = some { agg := false, size := 1, bytes := 8, zero := [.map none], d := .map 3 3 } := rfl
@[simp] theorem tab_33 : tab 33 = some { agg := true, size := 7, bytes := 56, zero := [.map none, .int .i64 0, .int .i64 0, .int .i64 0, .int .i64 0, .int .i64 0, .int .i64 0], d := .struct [(0, 32), (1, 3), (2, 3), (3, 3), (4, 3), (5, 3), (6, 3)] } := rfl
@[simp] theorem tab_34 : tab 34 = some { agg := true, size := 7, bytes := 56, zero := [.map none, .int .i64 0, .int .i64 0, .int .i64 0, .int .i64 0, .int .i64 0, .int .i64 0], d := .struct [(0, 32), (1, 3), (2, 3), (3, 3), (4, 3), (5, 3), (6, 3)] } := rfl
@[simp] theorem tab_45 : tab 45 = some { agg := false, size := 1, bytes := 24, zero := [.slice none 0 0], d := .slice 23 } := rfl
@[simp] theorem tab_48 : tab 48 = some { agg := false, size := 1, bytes := 4, zero := [.int .u32 0], d := .int .u32, ck := some [.u32] } := rfl
@[simp] theorem tab_49 : tab 49 = some { agg := true, size := 3, bytes := 12, zero := [.int .u32 0, .int .u32 0, .int .u32 0], d := .struct [(0, 48), (1, 48), (2, 48)], ck := some [.u32, .u32, .u32] } := rfl
@[simp] theorem tab_50 : tab 50 = some { agg := true, size := 3, bytes := 12, zero := [.int .u32 0, .int .u32 0, .int .u32 0], d := .struct [(0, 48), (1, 48), (2, 48)], ck := some [.u32, .u32, .u32] } := rfl
@[simp] theorem tab_51 : tab 51 = some { agg := false, size := 1, bytes := 24, zero := [.slice none 0 0], d := .slice 52 } := rfl
@[simp] theorem tab_52 : tab 52 = some { agg := false, size := 1, bytes := 8, zero := [.map none], d := .map 48 4 } := rfl
@[simp] theorem tab_54 : tab 54 = some { agg := false, size := 1, bytes := 8, zero := [.int .i64 0], d := .int .i64, ck := some [.i64] } := rfl
@[simp] theorem tab_57 : tab 57 = some { agg := true, size := 6, bytes := 32, zero := [.int .i64 0, .int .u32 0, .int .u32 0, .int .u32 0, .int .u32 0, .int .u32 0], d := .struct [(0, 3), (1, 48), (2, 48), (3, 48), (4, 48), (5, 48)], ck := some [.i64, .u32, .u32, .u32, .u32, .u32] } := rfl
@[simp] theorem tab_58 : tab 58 = some { agg := true, size := 6, bytes := 32, zero := [.int .i64 0, .int .u32 0, .int .u32 0, .int .u32 0, .int .u32 0, .int .u32 0], d := .struct [(0, 3), (1, 48), (2, 48), (3, 48), (4, 48), (5, 48)], ck := some [.i64, .u32, .u32, .u32, .u32, .u32] } := rfl
@[simp] theorem tab_64 : tab 64 = some { agg := false, size := 1, bytes := 24, zero := [.slice none 0 0], d := .slice 58 } := rfl
@[simp] theorem tab_71 : tab 71 = some { agg := false, size := 1, bytes := 8, zero := [.map none], d := .map 48 3 } := rfl
@[simp] theorem tab_79 : tab 79 = some { agg := false, size := 1, bytes := 8, zero := [.int .u64 0], d := .int .u64, ck := some [.u64] } := rfl
@[simp] theorem tab_96 : tab 96 = some { agg := false, size := 1, bytes := 8, zero := [.pointer none], d := .ptr 100 } := rfl
@[simp] theorem tab_97 : tab 97 = some { agg := false, size := 1, bytes := 8, zero := [.map none], d := .map 48 98 } := rfl
@[simp] theorem tab_98 : tab 98 = some { agg := false, size := 1, bytes := 24, zero := [.slice none 0 0], d := .slice 3 } := rfl
@[simp] theorem tab_99 : tab 99 = some { agg := true, size := 6, bytes := 96, zero := [.slice none 0 0, .map none, .map none, .map none, .slice none 0 0, .slice none 0 0], d := .struct [(0, 23), (1, 97), (2, 71), (3, 71), (4, 98), (5, 45)] } := rfl
@[simp] theorem tab_100 : tab 100 = some { agg := true, size := 6, bytes := 96, zero := [.slice none 0 0, .map none, .map none, .map none, .slice none 0 0, .slice none 0 0], d := .struct [(0, 23), (1, 97), (2, 71), (3, 71), (4, 98), (5, 45)] } := rfl
@[simp] theorem tab_107 : tab 107 = some { agg := false, size := 1, bytes := 8, zero := [.nilFunc], d := .func } := rfl
@[simp] theorem tab_109 : tab 109 = some { agg := false, size := 1, bytes := 8, zero := [.nilFunc], d := .func } := rfl
@[simp] theorem tab_110 : tab 110 = some { agg := false, size := 1, bytes := 8, zero := [.map none], d := .map 48 22 } := rfl
@[simp] theorem tab_115 : tab 115 = some { agg := false, size := 1, bytes := 8, zero := [.pointer none], d := .ptr 117 } := rfl
@[simp] theorem tab_116 : tab 116 = some { agg := true, size := 3, bytes := 72, zero := [.slice none 0 0, .slice none 0 0, .slice none 0 0], d := .struct [(0, 28)] } := rfl
@[simp] theorem tab_117 : tab 117 = some { agg := true, size := 3, bytes := 72, zero := [.slice none 0 0, .slice none 0 0, .slice none 0 0], d := .struct [(0, 28)] } := rfl
@[simp] theorem tab_119 : tab 119 = some { agg := false, size := 1, bytes := 8, zero := [.map none], d := .map 48 48 } := rfl
@[simp] theorem tab_128 : tab 128 = some { agg := false, size := 1, bytes := 8, zero := [.pointer none], d := .ptr 130 } := rfl
@[simp] theorem tab_129 : tab 129 = some { agg := true, size := 7, bytes := 136, zero := [.slice none 0 0, .slice none 0 0, .slice none 0 0, .map none, .map none, .slice none 0 0, .slice none 0 0], d := .struct [(0, 28), (3, 119), (4, 119), (5, 22), (6, 22)] } := rfl
@[simp] theorem tab_130 : tab 130 = some { agg := true, size := 7, bytes := 136, zero := [.slice none 0 0, .slice none 0 0, .slice none 0 0, .map none, .map none, .slice none 0 0, .slice none 0 0], d := .struct [(0, 28), (3, 119), (4, 119), (5, 22), (6, 22)] } := rfl
@[simp] theorem tab_136 : tab 136 = some { agg := false, size := 1, bytes := 24, zero := [.slice none 0 0], d := .slice 4 } := rfl
@[simp] theorem tab_144 : tab 144 = some { agg := false, size := 1, bytes := 8, zero := [.nilFunc], d := .func } := rfl
@[simp] theorem tab_155 : tab 155 = some { agg := false, size := 1, bytes := 8, zero := [.int .u64 0], d := .int .u64, ck := some [.u64] } := rfl
@[simp] theorem tab_180 : tab 180 = some { agg := false, size := 1, bytes := 8, zero := [.int .i64 0], d := .int .i64, ck := some [.i64] } := rfl
@[simp] theorem tab_215 : tab 215 = some { agg := false, size := 1, bytes := 8, zero := [.map none], d := .map 216 3 } := rfl
@[simp] theorem tab_216 : tab 216 = some { agg := true, size := 2, bytes := 8, zero := [.int .u32 0, .int .u32 0], d := .arr 2 48, ck := some [.u32, .u32] } := rfl
@[simp] theorem tab_219 : tab 219 = some { agg := false, size := 1, bytes := 8, zero := [.int .u64 0], d := .int .u64, ck := some [.u64] } := rfl
@[simp] theorem tab_223 : tab 223 = some { agg := false, size := 1, bytes := 8, zero := [.pointer none], d := .ptr 3 } := rfl
@[simp] theorem tab_243 : tab 243 = some { agg := false, size := 1, bytes := 8, zero := [.pointer none], d := .ptr 219 } := rfl
@[simp] theorem tab_258 : tab 258 = some { agg := true, size := 4, bytes := 40, zero := [.pointer none, .pointer none, .pointer none, .string ⟨#[]⟩], d := .struct [(0, 17), (1, 17), (2, 17), (3, 9)] } := rfl
@[simp] theorem tab_259 : tab 259 = some { agg := true, size := 4, bytes := 40, zero := [.pointer none, .pointer none, .pointer none, .string ⟨#[]⟩], d := .struct [(0, 17), (1, 17), (2, 17), (3, 9)] } := rfl
@[simp] theorem tab_260 : tab 260 = some { agg := true, size := 0, bytes := 0, zero := [], d := .arr 0 16 } := rfl
@[simp] theorem tab_261 : tab 261 = some { agg := true, size := 0, bytes := 0, zero := [], d := .struct [(0, 260)] } := rfl
@[simp] theorem tab_262 : tab 262 = some { agg := true, size := 0, bytes := 0, zero := [], d := .struct [(0, 260)] } := rfl
@[simp] theorem tab_263 : tab 263 = some { agg := false, size := 1, bytes := 1, zero := [.int .u8 0], d := .int .u8, ck := some [.u8] } := rfl
@[simp] theorem tab_264 : tab 264 = some { agg := false, size := 1, bytes := 1, zero := [.int .u8 0], d := .int .u8, ck := some [.u8] } := rfl
@[simp] theorem tab_266 : tab 266 = some { agg := false, size := 1, bytes := 8, zero := [.pointer none], d := .ptr 5 } := rfl
@[simp] theorem tab_267 : tab 267 = some { agg := false, size := 1, bytes := 4, zero := [.int .i32 0], d := .int .i32, ck := some [.i32] } := rfl
@[simp] theorem tab_268 : tab 268 = some { agg := false, size := 1, bytes := 4, zero := [.int .i32 0], d := .int .i32, ck := some [.i32] } := rfl
@[simp] theorem tab_269 : tab 269 = some { agg := true, size := 11, bytes := 48, zero := [.int .u64 0, .int .u64 0, .int .u32 0, .int .u8 0, .int .u8 0, .int .u8 0, .int .u8 0, .nilFunc, .pointer none, .int .i32 0, .int .i32 0], d := .struct [(0, 12), (1, 12), (2, 48), (3, 263), (4, 5), (5, 5), (6, 264), (7, 265), (8, 266), (9, 267), (10, 268)] } := rfl
@[simp] theorem tab_270 : tab 270 = some { agg := true, size := 11, bytes := 48, zero := [.int .u64 0, .int .u64 0, .int .u32 0, .int .u8 0, .int .u8 0, .int .u8 0, .int .u8 0, .nilFunc, .pointer none, .int .i32 0, .int .i32 0], d := .struct [(0, 12), (1, 12), (2, 48), (3, 263), (4, 5), (5, 5), (6, 264), (7, 265), (8, 266), (9, 267), (10, 268)] } := rfl
theorem info_of {P : Program} {t size bytes : Nat} {z : Value} (h : (P.info? t).map (fun i => (i.size, i.bytes, i.zero)) = some (size, bytes, some z)) : ∃ i, P.info? t = some i ∧ i.size = size ∧ i.bytes = bytes ∧ i.zero = some z := by
  cases hi : P.info? t with
  | none => simp [hi] at h
  | some i =>
    simp only [hi, Option.map_some, Option.some.injEq, Prod.mk.injEq] at h
    exact ⟨i, rfl, h.1, h.2.1, h.2.2⟩
theorem eqOk_49 : EqOk Tryz.prog 49 true [.u32, .u32, .u32] := by
  have u48 := Tryz.underlying48
  have a48 := Tryz.isAgg48
  have z48 := Tryz.sizeOf48
  have hp : Tryz.prog.stoodInHeld 49 = false := by kernel_rfl
  refine ⟨fun w as1 bs1 h1 h2 => ?_, fun w em as1 h1 => ?_, fun _ => by kernel_rfl, (fun h => by cases h), _, Tryz.underlying49, .inr fun as1 bs1 h1 h2 => by simp [mkV, Instr.sameNow]⟩
  · match as1, bs1, h1, h2 with
    | [x0, x1, x2], [y0, y1, y2], _, _ =>
      have hS : Tryz.prog.underlying 49 = some (.struct (Tryz.prog.fieldsOf 49)) := by kernel_rfl
      simp only [mkV, mkC, if_true]
      unfold Op.equal Op.maxDepth
      rw [show (10000 : Nat) = 9999 + 1 from rfl, run_equalIn_agg w 9999 49 _ _ hS hp]
      simp only [Program.fieldsOf, Tryz.underlying49]
      go_simp
      by_cases e0 : x0 = y0 <;> by_cases e1 : x1 = y1 <;> by_cases e2 : x2 = y2 <;> simp [e0, e1, e2]
  · match as1, h1 with
    | [x0, x1, x2], _ =>
      simp only [mkV, mkC, if_true]
      unfold Instr.checkKey
      simp only [Sem.run_bind, run_underlying Tryz.underlying49, Result.andThen_ok]
      go_simp
      (try simp [chk_int u48])
theorem eqOk_50 : EqOk Tryz.prog 50 true [.u32, .u32, .u32] := by
  have u48 := Tryz.underlying48
  have a48 := Tryz.isAgg48
  have z48 := Tryz.sizeOf48
  have hp : Tryz.prog.stoodInHeld 50 = false := by kernel_rfl
  refine ⟨fun w as1 bs1 h1 h2 => ?_, fun w em as1 h1 => ?_, fun _ => by kernel_rfl, (fun h => by cases h), _, Tryz.underlying50, .inr fun as1 bs1 h1 h2 => by simp [mkV, Instr.sameNow]⟩
  · match as1, bs1, h1, h2 with
    | [x0, x1, x2], [y0, y1, y2], _, _ =>
      have hS : Tryz.prog.underlying 50 = some (.struct (Tryz.prog.fieldsOf 50)) := by kernel_rfl
      simp only [mkV, mkC, if_true]
      unfold Op.equal Op.maxDepth
      rw [show (10000 : Nat) = 9999 + 1 from rfl, run_equalIn_agg w 9999 50 _ _ hS hp]
      simp only [Program.fieldsOf, Tryz.underlying50]
      go_simp
      by_cases e0 : x0 = y0 <;> by_cases e1 : x1 = y1 <;> by_cases e2 : x2 = y2 <;> simp [e0, e1, e2]
  · match as1, h1 with
    | [x0, x1, x2], _ =>
      simp only [mkV, mkC, if_true]
      unfold Instr.checkKey
      simp only [Sem.run_bind, run_underlying Tryz.underlying50, Result.andThen_ok]
      go_simp
      (try simp [chk_int u48])
theorem eqOk_57 : EqOk Tryz.prog 57 true [.i64, .u32, .u32, .u32, .u32, .u32] := by
  have u3 := Tryz.underlying3
  have a3 := Tryz.isAgg3
  have z3 := Tryz.sizeOf3
  have u48 := Tryz.underlying48
  have a48 := Tryz.isAgg48
  have z48 := Tryz.sizeOf48
  have hp : Tryz.prog.stoodInHeld 57 = false := by kernel_rfl
  refine ⟨fun w as1 bs1 h1 h2 => ?_, fun w em as1 h1 => ?_, fun _ => by kernel_rfl, (fun h => by cases h), _, Tryz.underlying57, .inr fun as1 bs1 h1 h2 => by simp [mkV, Instr.sameNow]⟩
  · match as1, bs1, h1, h2 with
    | [x0, x1, x2, x3, x4, x5], [y0, y1, y2, y3, y4, y5], _, _ =>
      have hS : Tryz.prog.underlying 57 = some (.struct (Tryz.prog.fieldsOf 57)) := by kernel_rfl
      simp only [mkV, mkC, if_true]
      unfold Op.equal Op.maxDepth
      rw [show (10000 : Nat) = 9999 + 1 from rfl, run_equalIn_agg w 9999 57 _ _ hS hp]
      simp only [Program.fieldsOf, Tryz.underlying57]
      go_simp
      by_cases e0 : x0 = y0 <;> by_cases e1 : x1 = y1 <;> by_cases e2 : x2 = y2 <;> by_cases e3 : x3 = y3 <;> by_cases e4 : x4 = y4 <;> by_cases e5 : x5 = y5 <;> simp [e0, e1, e2, e3, e4, e5]
  · match as1, h1 with
    | [x0, x1, x2, x3, x4, x5], _ =>
      simp only [mkV, mkC, if_true]
      unfold Instr.checkKey
      simp only [Sem.run_bind, run_underlying Tryz.underlying57, Result.andThen_ok]
      go_simp
      (try simp [chk_int u3, chk_int u48])
theorem eqOk_58 : EqOk Tryz.prog 58 true [.i64, .u32, .u32, .u32, .u32, .u32] := by
  have u3 := Tryz.underlying3
  have a3 := Tryz.isAgg3
  have z3 := Tryz.sizeOf3
  have u48 := Tryz.underlying48
  have a48 := Tryz.isAgg48
  have z48 := Tryz.sizeOf48
  have hp : Tryz.prog.stoodInHeld 58 = false := by kernel_rfl
  refine ⟨fun w as1 bs1 h1 h2 => ?_, fun w em as1 h1 => ?_, fun _ => by kernel_rfl, (fun h => by cases h), _, Tryz.underlying58, .inr fun as1 bs1 h1 h2 => by simp [mkV, Instr.sameNow]⟩
  · match as1, bs1, h1, h2 with
    | [x0, x1, x2, x3, x4, x5], [y0, y1, y2, y3, y4, y5], _, _ =>
      have hS : Tryz.prog.underlying 58 = some (.struct (Tryz.prog.fieldsOf 58)) := by kernel_rfl
      simp only [mkV, mkC, if_true]
      unfold Op.equal Op.maxDepth
      rw [show (10000 : Nat) = 9999 + 1 from rfl, run_equalIn_agg w 9999 58 _ _ hS hp]
      simp only [Program.fieldsOf, Tryz.underlying58]
      go_simp
      by_cases e0 : x0 = y0 <;> by_cases e1 : x1 = y1 <;> by_cases e2 : x2 = y2 <;> by_cases e3 : x3 = y3 <;> by_cases e4 : x4 = y4 <;> by_cases e5 : x5 = y5 <;> simp [e0, e1, e2, e3, e4, e5]
  · match as1, h1 with
    | [x0, x1, x2, x3, x4, x5], _ =>
      simp only [mkV, mkC, if_true]
      unfold Instr.checkKey
      simp only [Sem.run_bind, run_underlying Tryz.underlying58, Result.andThen_ok]
      go_simp
      (try simp [chk_int u3, chk_int u48])
theorem eqOk_216 : EqOk Tryz.prog 216 true [.u32, .u32] := eqOk_arr2 Tryz.underlying216 Tryz.underlying48 Tryz.isAgg48 Tryz.sizeOf48 (by kernel_rfl) (by kernel_rfl)
theorem rowOk_2 : RowOk Tryz.prog 2 { agg := false, size := 1, bytes := 8, zero := [.int .i64 0], d := .int .i64, ck := some [.i64] } :=
  ⟨Tryz.isAgg2, info_of (z := .int .i64 0) (by kernel_rfl), rfl, fun _ => rfl, rfl, Tryz.underlying2, (fun ks h => by injection h with h; subst h; exact eqOk_int Tryz.underlying2)⟩
theorem rowOk_3 : RowOk Tryz.prog 3 { agg := false, size := 1, bytes := 8, zero := [.int .i64 0], d := .int .i64, ck := some [.i64] } :=
  ⟨Tryz.isAgg3, info_of (z := .int .i64 0) (by kernel_rfl), rfl, fun _ => rfl, rfl, Tryz.underlying3, (fun ks h => by injection h with h; subst h; exact eqOk_int Tryz.underlying3)⟩
theorem rowOk_4 : RowOk Tryz.prog 4 { agg := false, size := 1, bytes := 1, zero := [.bool false], d := .bool } :=
  ⟨Tryz.isAgg4, info_of (z := .bool false) (by kernel_rfl), rfl, fun _ => rfl, rfl, Tryz.underlying4, (fun ks h => by cases h)⟩
theorem rowOk_5 : RowOk Tryz.prog 5 { agg := false, size := 1, bytes := 1, zero := [.int .u8 0], d := .int .u8, ck := some [.u8] } :=
  ⟨Tryz.isAgg5, info_of (z := .int .u8 0) (by kernel_rfl), rfl, fun _ => rfl, rfl, Tryz.underlying5, (fun ks h => by injection h with h; subst h; exact eqOk_int Tryz.underlying5)⟩
theorem rowOk_6 : RowOk Tryz.prog 6 { agg := false, size := 1, bytes := 1, zero := [.int .u8 0], d := .int .u8, ck := some [.u8] } :=
  ⟨Tryz.isAgg6, info_of (z := .int .u8 0) (by kernel_rfl), rfl, fun _ => rfl, rfl, Tryz.underlying6, (fun ks h => by injection h with h; subst h; exact eqOk_int Tryz.underlying6)⟩
theorem rowOk_7 : RowOk Tryz.prog 7 { agg := true, size := 4, bytes := 24, zero := [.int .i64 0, .int .i64 0, .bool false, .int .u8 0], d := .struct [(0, 2), (1, 3), (2, 4), (3, 6)] } :=
  ⟨Tryz.isAgg7, info_of (z := .agg #[.int .i64 0, .int .i64 0, .bool false, .int .u8 0]) (by kernel_rfl), rfl, (fun h => by cases h), rfl, ⟨_, Tryz.underlying7, rfl⟩, (fun ks h => by cases h)⟩
theorem rowOk_8 : RowOk Tryz.prog 8 { agg := true, size := 4, bytes := 24, zero := [.int .i64 0, .int .i64 0, .bool false, .int .u8 0], d := .struct [(0, 2), (1, 3), (2, 4), (3, 6)] } :=
  ⟨Tryz.isAgg8, info_of (z := .agg #[.int .i64 0, .int .i64 0, .bool false, .int .u8 0]) (by kernel_rfl), rfl, (fun h => by cases h), rfl, ⟨_, Tryz.underlying8, rfl⟩, (fun ks h => by cases h)⟩
theorem rowOk_9 : RowOk Tryz.prog 9 { agg := false, size := 1, bytes := 16, zero := [.string ⟨#[]⟩], d := .str } :=
  ⟨Tryz.isAgg9, info_of (z := .string ⟨#[]⟩) (by kernel_rfl), rfl, fun _ => rfl, rfl, Tryz.underlying9, (fun ks h => by cases h)⟩
theorem rowOk_10 : RowOk Tryz.prog 10 { agg := false, size := 1, bytes := 16, zero := [.string ⟨#[]⟩], d := .str } :=
  ⟨Tryz.isAgg10, info_of (z := .string ⟨#[]⟩) (by kernel_rfl), rfl, fun _ => rfl, rfl, Tryz.underlying10, (fun ks h => by cases h)⟩
theorem rowOk_11 : RowOk Tryz.prog 11 { agg := false, size := 1, bytes := 16, zero := [.string ⟨#[]⟩], d := .str } :=
  ⟨Tryz.isAgg11, info_of (z := .string ⟨#[]⟩) (by kernel_rfl), rfl, fun _ => rfl, rfl, Tryz.underlying11, (fun ks h => by cases h)⟩
theorem rowOk_12 : RowOk Tryz.prog 12 { agg := false, size := 1, bytes := 8, zero := [.int .u64 0], d := .int .u64, ck := some [.u64] } :=
  ⟨Tryz.isAgg12, info_of (z := .int .u64 0) (by kernel_rfl), rfl, fun _ => rfl, rfl, Tryz.underlying12, (fun ks h => by injection h with h; subst h; exact eqOk_int Tryz.underlying12)⟩
theorem rowOk_13 : RowOk Tryz.prog 13 { agg := true, size := 2, bytes := 24, zero := [.string ⟨#[]⟩, .int .u64 0], d := .struct [(0, 9), (1, 12)] } :=
  ⟨Tryz.isAgg13, info_of (z := .agg #[.string ⟨#[]⟩, .int .u64 0]) (by kernel_rfl), rfl, (fun h => by cases h), rfl, ⟨_, Tryz.underlying13, rfl⟩, (fun ks h => by cases h)⟩
theorem rowOk_14 : RowOk Tryz.prog 14 { agg := true, size := 2, bytes := 24, zero := [.string ⟨#[]⟩, .int .u64 0], d := .struct [(0, 9), (1, 12)] } :=
  ⟨Tryz.isAgg14, info_of (z := .agg #[.string ⟨#[]⟩, .int .u64 0]) (by kernel_rfl), rfl, (fun h => by cases h), rfl, ⟨_, Tryz.underlying14, rfl⟩, (fun ks h => by cases h)⟩
theorem rowOk_15 : RowOk Tryz.prog 15 { agg := false, size := 1, bytes := 8, zero := [.pointer none], d := .ptr 259 } :=
  ⟨Tryz.isAgg15, info_of (z := .pointer none) (by kernel_rfl), rfl, fun _ => rfl, rfl, Tryz.underlying15, (fun ks h => by cases h)⟩
theorem rowOk_16 : RowOk Tryz.prog 16 { agg := false, size := 1, bytes := 8, zero := [.pointer none], d := .ptr 262 } :=
  ⟨Tryz.isAgg16, info_of (z := .pointer none) (by kernel_rfl), rfl, fun _ => rfl, rfl, Tryz.underlying16, (fun ks h => by cases h)⟩
theorem rowOk_17 : RowOk Tryz.prog 17 { agg := false, size := 1, bytes := 8, zero := [.pointer none], d := .ptr 270 } :=
  ⟨Tryz.isAgg17, info_of (z := .pointer none) (by kernel_rfl), rfl, fun _ => rfl, rfl, Tryz.underlying17, (fun ks h => by cases h)⟩
theorem rowOk_18 : RowOk Tryz.prog 18 { agg := true, size := 1, bytes := 8, zero := [.pointer none], d := .struct [(0, 17)] } :=
  ⟨Tryz.isAgg18, info_of (z := .agg #[.pointer none]) (by kernel_rfl), rfl, (fun h => by cases h), rfl, ⟨_, Tryz.underlying18, rfl⟩, (fun ks h => by cases h)⟩
theorem rowOk_19 : RowOk Tryz.prog 19 { agg := true, size := 1, bytes := 8, zero := [.pointer none], d := .struct [(0, 17)] } :=
  ⟨Tryz.isAgg19, info_of (z := .agg #[.pointer none]) (by kernel_rfl), rfl, (fun h => by cases h), rfl, ⟨_, Tryz.underlying19, rfl⟩, (fun ks h => by cases h)⟩
theorem rowOk_21 : RowOk Tryz.prog 21 { agg := false, size := 1, bytes := 4, zero := [.int .i32 0], d := .int .i32, ck := some [.i32] } :=
  ⟨Tryz.isAgg21, info_of (z := .int .i32 0) (by kernel_rfl), rfl, fun _ => rfl, rfl, Tryz.underlying21, (fun ks h => by injection h with h; subst h; exact eqOk_int Tryz.underlying21)⟩
theorem rowOk_22 : RowOk Tryz.prog 22 { agg := false, size := 1, bytes := 24, zero := [.slice none 0 0], d := .slice 48 } :=
  ⟨Tryz.isAgg22, info_of (z := .slice none 0 0) (by kernel_rfl), rfl, fun _ => rfl, rfl, Tryz.underlying22, (fun ks h => by cases h)⟩
theorem rowOk_23 : RowOk Tryz.prog 23 { agg := false, size := 1, bytes := 24, zero := [.slice none 0 0], d := .slice 50 } :=
  ⟨Tryz.isAgg23, info_of (z := .slice none 0 0) (by kernel_rfl), rfl, fun _ => rfl, rfl, Tryz.underlying23, (fun ks h => by cases h)⟩
theorem rowOk_24 : RowOk Tryz.prog 24 { agg := true, size := 2, bytes := 48, zero := [.slice none 0 0, .slice none 0 0], d := .struct [(0, 22), (1, 23)] } :=
  ⟨Tryz.isAgg24, info_of (z := .agg #[.slice none 0 0, .slice none 0 0]) (by kernel_rfl), rfl, (fun h => by cases h), rfl, ⟨_, Tryz.underlying24, rfl⟩, (fun ks h => by cases h)⟩
theorem rowOk_25 : RowOk Tryz.prog 25 { agg := true, size := 2, bytes := 48, zero := [.slice none 0 0, .slice none 0 0], d := .struct [(0, 22), (1, 23)] } :=
  ⟨Tryz.isAgg25, info_of (z := .agg #[.slice none 0 0, .slice none 0 0]) (by kernel_rfl), rfl, (fun h => by cases h), rfl, ⟨_, Tryz.underlying25, rfl⟩, (fun ks h => by cases h)⟩
theorem rowOk_26 : RowOk Tryz.prog 26 { agg := false, size := 1, bytes := 24, zero := [.slice none 0 0], d := .slice 22 } :=
  ⟨Tryz.isAgg26, info_of (z := .slice none 0 0) (by kernel_rfl), rfl, fun _ => rfl, rfl, Tryz.underlying26, (fun ks h => by cases h)⟩
theorem rowOk_27 : RowOk Tryz.prog 27 { agg := true, size := 3, bytes := 72, zero := [.slice none 0 0, .slice none 0 0, .slice none 0 0], d := .struct [(0, 25), (2, 26)] } :=
  ⟨Tryz.isAgg27, info_of (z := .agg #[.slice none 0 0, .slice none 0 0, .slice none 0 0]) (by kernel_rfl), rfl, (fun h => by cases h), rfl, ⟨_, Tryz.underlying27, rfl⟩, (fun ks h => by cases h)⟩
theorem rowOk_28 : RowOk Tryz.prog 28 { agg := true, size := 3, bytes := 72, zero := [.slice none 0 0, .slice none 0 0, .slice none 0 0], d := .struct [(0, 25), (2, 26)] } :=
  ⟨Tryz.isAgg28, info_of (z := .agg #[.slice none 0 0, .slice none 0 0, .slice none 0 0]) (by kernel_rfl), rfl, (fun h => by cases h), rfl, ⟨_, Tryz.underlying28, rfl⟩, (fun ks h => by cases h)⟩
theorem rowOk_31 : RowOk Tryz.prog 31 { agg := false, size := 1, bytes := 8, zero := [.map none], d := .map 3 3 } :=
  ⟨Tryz.isAgg31, info_of (z := .map none) (by kernel_rfl), rfl, fun _ => rfl, rfl, Tryz.underlying31, (fun ks h => by cases h)⟩
theorem rowOk_32 : RowOk Tryz.prog 32 { agg := false, size := 1, bytes := 8, zero := [.map none], d := .map 3 3 } :=
  ⟨Tryz.isAgg32, info_of (z := .map none) (by kernel_rfl), rfl, fun _ => rfl, rfl, Tryz.underlying32, (fun ks h => by cases h)⟩
theorem rowOk_33 : RowOk Tryz.prog 33 { agg := true, size := 7, bytes := 56, zero := [.map none, .int .i64 0, .int .i64 0, .int .i64 0, .int .i64 0, .int .i64 0, .int .i64 0], d := .struct [(0, 32), (1, 3), (2, 3), (3, 3), (4, 3), (5, 3), (6, 3)] } :=
  ⟨Tryz.isAgg33, info_of (z := .agg #[.map none, .int .i64 0, .int .i64 0, .int .i64 0, .int .i64 0, .int .i64 0, .int .i64 0]) (by kernel_rfl), rfl, (fun h => by cases h), rfl, ⟨_, Tryz.underlying33, rfl⟩, (fun ks h => by cases h)⟩
theorem rowOk_34 : RowOk Tryz.prog 34 { agg := true, size := 7, bytes := 56, zero := [.map none, .int .i64 0, .int .i64 0, .int .i64 0, .int .i64 0, .int .i64 0, .int .i64 0], d := .struct [(0, 32), (1, 3), (2, 3), (3, 3), (4, 3), (5, 3), (6, 3)] } :=
  ⟨Tryz.isAgg34, info_of (z := .agg #[.map none, .int .i64 0, .int .i64 0, .int .i64 0, .int .i64 0, .int .i64 0, .int .i64 0]) (by kernel_rfl), rfl, (fun h => by cases h), rfl, ⟨_, Tryz.underlying34, rfl⟩, (fun ks h => by cases h)⟩
theorem rowOk_45 : RowOk Tryz.prog 45 { agg := false, size := 1, bytes := 24, zero := [.slice none 0 0], d := .slice 23 } :=
  ⟨Tryz.isAgg45, info_of (z := .slice none 0 0) (by kernel_rfl), rfl, fun _ => rfl, rfl, Tryz.underlying45, (fun ks h => by cases h)⟩
theorem rowOk_48 : RowOk Tryz.prog 48 { agg := false, size := 1, bytes := 4, zero := [.int .u32 0], d := .int .u32, ck := some [.u32] } :=
  ⟨Tryz.isAgg48, info_of (z := .int .u32 0) (by kernel_rfl), rfl, fun _ => rfl, rfl, Tryz.underlying48, (fun ks h => by injection h with h; subst h; exact eqOk_int Tryz.underlying48)⟩
theorem rowOk_49 : RowOk Tryz.prog 49 { agg := true, size := 3, bytes := 12, zero := [.int .u32 0, .int .u32 0, .int .u32 0], d := .struct [(0, 48), (1, 48), (2, 48)], ck := some [.u32, .u32, .u32] } :=
  ⟨Tryz.isAgg49, info_of (z := .agg #[.int .u32 0, .int .u32 0, .int .u32 0]) (by kernel_rfl), rfl, (fun h => by cases h), rfl, ⟨_, Tryz.underlying49, rfl⟩, (fun ks h => by injection h with h; subst h; exact eqOk_49)⟩
theorem rowOk_50 : RowOk Tryz.prog 50 { agg := true, size := 3, bytes := 12, zero := [.int .u32 0, .int .u32 0, .int .u32 0], d := .struct [(0, 48), (1, 48), (2, 48)], ck := some [.u32, .u32, .u32] } :=
  ⟨Tryz.isAgg50, info_of (z := .agg #[.int .u32 0, .int .u32 0, .int .u32 0]) (by kernel_rfl), rfl, (fun h => by cases h), rfl, ⟨_, Tryz.underlying50, rfl⟩, (fun ks h => by injection h with h; subst h; exact eqOk_50)⟩
theorem rowOk_51 : RowOk Tryz.prog 51 { agg := false, size := 1, bytes := 24, zero := [.slice none 0 0], d := .slice 52 } :=
  ⟨Tryz.isAgg51, info_of (z := .slice none 0 0) (by kernel_rfl), rfl, fun _ => rfl, rfl, Tryz.underlying51, (fun ks h => by cases h)⟩
theorem rowOk_52 : RowOk Tryz.prog 52 { agg := false, size := 1, bytes := 8, zero := [.map none], d := .map 48 4 } :=
  ⟨Tryz.isAgg52, info_of (z := .map none) (by kernel_rfl), rfl, fun _ => rfl, rfl, Tryz.underlying52, (fun ks h => by cases h)⟩
theorem rowOk_54 : RowOk Tryz.prog 54 { agg := false, size := 1, bytes := 8, zero := [.int .i64 0], d := .int .i64, ck := some [.i64] } :=
  ⟨Tryz.isAgg54, info_of (z := .int .i64 0) (by kernel_rfl), rfl, fun _ => rfl, rfl, Tryz.underlying54, (fun ks h => by injection h with h; subst h; exact eqOk_int Tryz.underlying54)⟩
theorem rowOk_57 : RowOk Tryz.prog 57 { agg := true, size := 6, bytes := 32, zero := [.int .i64 0, .int .u32 0, .int .u32 0, .int .u32 0, .int .u32 0, .int .u32 0], d := .struct [(0, 3), (1, 48), (2, 48), (3, 48), (4, 48), (5, 48)], ck := some [.i64, .u32, .u32, .u32, .u32, .u32] } :=
  ⟨Tryz.isAgg57, info_of (z := .agg #[.int .i64 0, .int .u32 0, .int .u32 0, .int .u32 0, .int .u32 0, .int .u32 0]) (by kernel_rfl), rfl, (fun h => by cases h), rfl, ⟨_, Tryz.underlying57, rfl⟩, (fun ks h => by injection h with h; subst h; exact eqOk_57)⟩
theorem rowOk_58 : RowOk Tryz.prog 58 { agg := true, size := 6, bytes := 32, zero := [.int .i64 0, .int .u32 0, .int .u32 0, .int .u32 0, .int .u32 0, .int .u32 0], d := .struct [(0, 3), (1, 48), (2, 48), (3, 48), (4, 48), (5, 48)], ck := some [.i64, .u32, .u32, .u32, .u32, .u32] } :=
  ⟨Tryz.isAgg58, info_of (z := .agg #[.int .i64 0, .int .u32 0, .int .u32 0, .int .u32 0, .int .u32 0, .int .u32 0]) (by kernel_rfl), rfl, (fun h => by cases h), rfl, ⟨_, Tryz.underlying58, rfl⟩, (fun ks h => by injection h with h; subst h; exact eqOk_58)⟩
theorem rowOk_64 : RowOk Tryz.prog 64 { agg := false, size := 1, bytes := 24, zero := [.slice none 0 0], d := .slice 58 } :=
  ⟨Tryz.isAgg64, info_of (z := .slice none 0 0) (by kernel_rfl), rfl, fun _ => rfl, rfl, Tryz.underlying64, (fun ks h => by cases h)⟩
theorem rowOk_71 : RowOk Tryz.prog 71 { agg := false, size := 1, bytes := 8, zero := [.map none], d := .map 48 3 } :=
  ⟨Tryz.isAgg71, info_of (z := .map none) (by kernel_rfl), rfl, fun _ => rfl, rfl, Tryz.underlying71, (fun ks h => by cases h)⟩
theorem rowOk_79 : RowOk Tryz.prog 79 { agg := false, size := 1, bytes := 8, zero := [.int .u64 0], d := .int .u64, ck := some [.u64] } :=
  ⟨Tryz.isAgg79, info_of (z := .int .u64 0) (by kernel_rfl), rfl, fun _ => rfl, rfl, Tryz.underlying79, (fun ks h => by injection h with h; subst h; exact eqOk_int Tryz.underlying79)⟩
theorem rowOk_96 : RowOk Tryz.prog 96 { agg := false, size := 1, bytes := 8, zero := [.pointer none], d := .ptr 100 } :=
  ⟨Tryz.isAgg96, info_of (z := .pointer none) (by kernel_rfl), rfl, fun _ => rfl, rfl, Tryz.underlying96, (fun ks h => by cases h)⟩
theorem rowOk_97 : RowOk Tryz.prog 97 { agg := false, size := 1, bytes := 8, zero := [.map none], d := .map 48 98 } :=
  ⟨Tryz.isAgg97, info_of (z := .map none) (by kernel_rfl), rfl, fun _ => rfl, rfl, Tryz.underlying97, (fun ks h => by cases h)⟩
theorem rowOk_98 : RowOk Tryz.prog 98 { agg := false, size := 1, bytes := 24, zero := [.slice none 0 0], d := .slice 3 } :=
  ⟨Tryz.isAgg98, info_of (z := .slice none 0 0) (by kernel_rfl), rfl, fun _ => rfl, rfl, Tryz.underlying98, (fun ks h => by cases h)⟩
theorem rowOk_99 : RowOk Tryz.prog 99 { agg := true, size := 6, bytes := 96, zero := [.slice none 0 0, .map none, .map none, .map none, .slice none 0 0, .slice none 0 0], d := .struct [(0, 23), (1, 97), (2, 71), (3, 71), (4, 98), (5, 45)] } :=
  ⟨Tryz.isAgg99, info_of (z := .agg #[.slice none 0 0, .map none, .map none, .map none, .slice none 0 0, .slice none 0 0]) (by kernel_rfl), rfl, (fun h => by cases h), rfl, ⟨_, Tryz.underlying99, rfl⟩, (fun ks h => by cases h)⟩
theorem rowOk_100 : RowOk Tryz.prog 100 { agg := true, size := 6, bytes := 96, zero := [.slice none 0 0, .map none, .map none, .map none, .slice none 0 0, .slice none 0 0], d := .struct [(0, 23), (1, 97), (2, 71), (3, 71), (4, 98), (5, 45)] } :=
  ⟨Tryz.isAgg100, info_of (z := .agg #[.slice none 0 0, .map none, .map none, .map none, .slice none 0 0, .slice none 0 0]) (by kernel_rfl), rfl, (fun h => by cases h), rfl, ⟨_, Tryz.underlying100, rfl⟩, (fun ks h => by cases h)⟩
theorem rowOk_107 : RowOk Tryz.prog 107 { agg := false, size := 1, bytes := 8, zero := [.nilFunc], d := .func } :=
  ⟨Tryz.isAgg107, info_of (z := .nilFunc) (by kernel_rfl), rfl, fun _ => rfl, rfl, ⟨_, _, _, Tryz.underlying107⟩, (fun ks h => by cases h)⟩
theorem rowOk_109 : RowOk Tryz.prog 109 { agg := false, size := 1, bytes := 8, zero := [.nilFunc], d := .func } :=
  ⟨Tryz.isAgg109, info_of (z := .nilFunc) (by kernel_rfl), rfl, fun _ => rfl, rfl, ⟨_, _, _, Tryz.underlying109⟩, (fun ks h => by cases h)⟩
theorem rowOk_110 : RowOk Tryz.prog 110 { agg := false, size := 1, bytes := 8, zero := [.map none], d := .map 48 22 } :=
  ⟨Tryz.isAgg110, info_of (z := .map none) (by kernel_rfl), rfl, fun _ => rfl, rfl, Tryz.underlying110, (fun ks h => by cases h)⟩
theorem rowOk_115 : RowOk Tryz.prog 115 { agg := false, size := 1, bytes := 8, zero := [.pointer none], d := .ptr 117 } :=
  ⟨Tryz.isAgg115, info_of (z := .pointer none) (by kernel_rfl), rfl, fun _ => rfl, rfl, Tryz.underlying115, (fun ks h => by cases h)⟩
theorem rowOk_116 : RowOk Tryz.prog 116 { agg := true, size := 3, bytes := 72, zero := [.slice none 0 0, .slice none 0 0, .slice none 0 0], d := .struct [(0, 28)] } :=
  ⟨Tryz.isAgg116, info_of (z := .agg #[.slice none 0 0, .slice none 0 0, .slice none 0 0]) (by kernel_rfl), rfl, (fun h => by cases h), rfl, ⟨_, Tryz.underlying116, rfl⟩, (fun ks h => by cases h)⟩
theorem rowOk_117 : RowOk Tryz.prog 117 { agg := true, size := 3, bytes := 72, zero := [.slice none 0 0, .slice none 0 0, .slice none 0 0], d := .struct [(0, 28)] } :=
  ⟨Tryz.isAgg117, info_of (z := .agg #[.slice none 0 0, .slice none 0 0, .slice none 0 0]) (by kernel_rfl), rfl, (fun h => by cases h), rfl, ⟨_, Tryz.underlying117, rfl⟩, (fun ks h => by cases h)⟩
theorem rowOk_119 : RowOk Tryz.prog 119 { agg := false, size := 1, bytes := 8, zero := [.map none], d := .map 48 48 } :=
  ⟨Tryz.isAgg119, info_of (z := .map none) (by kernel_rfl), rfl, fun _ => rfl, rfl, Tryz.underlying119, (fun ks h => by cases h)⟩
theorem rowOk_128 : RowOk Tryz.prog 128 { agg := false, size := 1, bytes := 8, zero := [.pointer none], d := .ptr 130 } :=
  ⟨Tryz.isAgg128, info_of (z := .pointer none) (by kernel_rfl), rfl, fun _ => rfl, rfl, Tryz.underlying128, (fun ks h => by cases h)⟩
theorem rowOk_129 : RowOk Tryz.prog 129 { agg := true, size := 7, bytes := 136, zero := [.slice none 0 0, .slice none 0 0, .slice none 0 0, .map none, .map none, .slice none 0 0, .slice none 0 0], d := .struct [(0, 28), (3, 119), (4, 119), (5, 22), (6, 22)] } :=
  ⟨Tryz.isAgg129, info_of (z := .agg #[.slice none 0 0, .slice none 0 0, .slice none 0 0, .map none, .map none, .slice none 0 0, .slice none 0 0]) (by kernel_rfl), rfl, (fun h => by cases h), rfl, ⟨_, Tryz.underlying129, rfl⟩, (fun ks h => by cases h)⟩
theorem rowOk_130 : RowOk Tryz.prog 130 { agg := true, size := 7, bytes := 136, zero := [.slice none 0 0, .slice none 0 0, .slice none 0 0, .map none, .map none, .slice none 0 0, .slice none 0 0], d := .struct [(0, 28), (3, 119), (4, 119), (5, 22), (6, 22)] } :=
  ⟨Tryz.isAgg130, info_of (z := .agg #[.slice none 0 0, .slice none 0 0, .slice none 0 0, .map none, .map none, .slice none 0 0, .slice none 0 0]) (by kernel_rfl), rfl, (fun h => by cases h), rfl, ⟨_, Tryz.underlying130, rfl⟩, (fun ks h => by cases h)⟩
theorem rowOk_136 : RowOk Tryz.prog 136 { agg := false, size := 1, bytes := 24, zero := [.slice none 0 0], d := .slice 4 } :=
  ⟨Tryz.isAgg136, info_of (z := .slice none 0 0) (by kernel_rfl), rfl, fun _ => rfl, rfl, Tryz.underlying136, (fun ks h => by cases h)⟩
theorem rowOk_144 : RowOk Tryz.prog 144 { agg := false, size := 1, bytes := 8, zero := [.nilFunc], d := .func } :=
  ⟨Tryz.isAgg144, info_of (z := .nilFunc) (by kernel_rfl), rfl, fun _ => rfl, rfl, ⟨_, _, _, Tryz.underlying144⟩, (fun ks h => by cases h)⟩
theorem rowOk_155 : RowOk Tryz.prog 155 { agg := false, size := 1, bytes := 8, zero := [.int .u64 0], d := .int .u64, ck := some [.u64] } :=
  ⟨Tryz.isAgg155, info_of (z := .int .u64 0) (by kernel_rfl), rfl, fun _ => rfl, rfl, Tryz.underlying155, (fun ks h => by injection h with h; subst h; exact eqOk_int Tryz.underlying155)⟩
theorem rowOk_180 : RowOk Tryz.prog 180 { agg := false, size := 1, bytes := 8, zero := [.int .i64 0], d := .int .i64, ck := some [.i64] } :=
  ⟨Tryz.isAgg180, info_of (z := .int .i64 0) (by kernel_rfl), rfl, fun _ => rfl, rfl, Tryz.underlying180, (fun ks h => by injection h with h; subst h; exact eqOk_int Tryz.underlying180)⟩
theorem rowOk_215 : RowOk Tryz.prog 215 { agg := false, size := 1, bytes := 8, zero := [.map none], d := .map 216 3 } :=
  ⟨Tryz.isAgg215, info_of (z := .map none) (by kernel_rfl), rfl, fun _ => rfl, rfl, Tryz.underlying215, (fun ks h => by cases h)⟩
theorem rowOk_216 : RowOk Tryz.prog 216 { agg := true, size := 2, bytes := 8, zero := [.int .u32 0, .int .u32 0], d := .arr 2 48, ck := some [.u32, .u32] } :=
  ⟨Tryz.isAgg216, info_of (z := .agg #[.int .u32 0, .int .u32 0]) (by kernel_rfl), rfl, (fun h => by cases h), rfl, Tryz.underlying216, (fun ks h => by injection h with h; subst h; exact eqOk_216)⟩
theorem rowOk_219 : RowOk Tryz.prog 219 { agg := false, size := 1, bytes := 8, zero := [.int .u64 0], d := .int .u64, ck := some [.u64] } :=
  ⟨Tryz.isAgg219, info_of (z := .int .u64 0) (by kernel_rfl), rfl, fun _ => rfl, rfl, Tryz.underlying219, (fun ks h => by injection h with h; subst h; exact eqOk_int Tryz.underlying219)⟩
theorem rowOk_223 : RowOk Tryz.prog 223 { agg := false, size := 1, bytes := 8, zero := [.pointer none], d := .ptr 3 } :=
  ⟨Tryz.isAgg223, info_of (z := .pointer none) (by kernel_rfl), rfl, fun _ => rfl, rfl, Tryz.underlying223, (fun ks h => by cases h)⟩
theorem rowOk_243 : RowOk Tryz.prog 243 { agg := false, size := 1, bytes := 8, zero := [.pointer none], d := .ptr 219 } :=
  ⟨Tryz.isAgg243, info_of (z := .pointer none) (by kernel_rfl), rfl, fun _ => rfl, rfl, Tryz.underlying243, (fun ks h => by cases h)⟩
theorem rowOk_258 : RowOk Tryz.prog 258 { agg := true, size := 4, bytes := 40, zero := [.pointer none, .pointer none, .pointer none, .string ⟨#[]⟩], d := .struct [(0, 17), (1, 17), (2, 17), (3, 9)] } :=
  ⟨Tryz.isAgg258, info_of (z := .agg #[.pointer none, .pointer none, .pointer none, .string ⟨#[]⟩]) (by kernel_rfl), rfl, (fun h => by cases h), rfl, ⟨_, Tryz.underlying258, rfl⟩, (fun ks h => by cases h)⟩
theorem rowOk_259 : RowOk Tryz.prog 259 { agg := true, size := 4, bytes := 40, zero := [.pointer none, .pointer none, .pointer none, .string ⟨#[]⟩], d := .struct [(0, 17), (1, 17), (2, 17), (3, 9)] } :=
  ⟨Tryz.isAgg259, info_of (z := .agg #[.pointer none, .pointer none, .pointer none, .string ⟨#[]⟩]) (by kernel_rfl), rfl, (fun h => by cases h), rfl, ⟨_, Tryz.underlying259, rfl⟩, (fun ks h => by cases h)⟩
theorem rowOk_260 : RowOk Tryz.prog 260 { agg := true, size := 0, bytes := 0, zero := [], d := .arr 0 16 } :=
  ⟨Tryz.isAgg260, info_of (z := .agg #[]) (by kernel_rfl), rfl, (fun h => by cases h), rfl, Tryz.underlying260, (fun ks h => by cases h)⟩
theorem rowOk_261 : RowOk Tryz.prog 261 { agg := true, size := 0, bytes := 0, zero := [], d := .struct [(0, 260)] } :=
  ⟨Tryz.isAgg261, info_of (z := .agg #[]) (by kernel_rfl), rfl, (fun h => by cases h), rfl, ⟨_, Tryz.underlying261, rfl⟩, (fun ks h => by cases h)⟩
theorem rowOk_262 : RowOk Tryz.prog 262 { agg := true, size := 0, bytes := 0, zero := [], d := .struct [(0, 260)] } :=
  ⟨Tryz.isAgg262, info_of (z := .agg #[]) (by kernel_rfl), rfl, (fun h => by cases h), rfl, ⟨_, Tryz.underlying262, rfl⟩, (fun ks h => by cases h)⟩
theorem rowOk_263 : RowOk Tryz.prog 263 { agg := false, size := 1, bytes := 1, zero := [.int .u8 0], d := .int .u8, ck := some [.u8] } :=
  ⟨Tryz.isAgg263, info_of (z := .int .u8 0) (by kernel_rfl), rfl, fun _ => rfl, rfl, Tryz.underlying263, (fun ks h => by injection h with h; subst h; exact eqOk_int Tryz.underlying263)⟩
theorem rowOk_264 : RowOk Tryz.prog 264 { agg := false, size := 1, bytes := 1, zero := [.int .u8 0], d := .int .u8, ck := some [.u8] } :=
  ⟨Tryz.isAgg264, info_of (z := .int .u8 0) (by kernel_rfl), rfl, fun _ => rfl, rfl, Tryz.underlying264, (fun ks h => by injection h with h; subst h; exact eqOk_int Tryz.underlying264)⟩
theorem rowOk_266 : RowOk Tryz.prog 266 { agg := false, size := 1, bytes := 8, zero := [.pointer none], d := .ptr 5 } :=
  ⟨Tryz.isAgg266, info_of (z := .pointer none) (by kernel_rfl), rfl, fun _ => rfl, rfl, Tryz.underlying266, (fun ks h => by cases h)⟩
theorem rowOk_267 : RowOk Tryz.prog 267 { agg := false, size := 1, bytes := 4, zero := [.int .i32 0], d := .int .i32, ck := some [.i32] } :=
  ⟨Tryz.isAgg267, info_of (z := .int .i32 0) (by kernel_rfl), rfl, fun _ => rfl, rfl, Tryz.underlying267, (fun ks h => by injection h with h; subst h; exact eqOk_int Tryz.underlying267)⟩
theorem rowOk_268 : RowOk Tryz.prog 268 { agg := false, size := 1, bytes := 4, zero := [.int .i32 0], d := .int .i32, ck := some [.i32] } :=
  ⟨Tryz.isAgg268, info_of (z := .int .i32 0) (by kernel_rfl), rfl, fun _ => rfl, rfl, Tryz.underlying268, (fun ks h => by injection h with h; subst h; exact eqOk_int Tryz.underlying268)⟩
theorem rowOk_269 : RowOk Tryz.prog 269 { agg := true, size := 11, bytes := 48, zero := [.int .u64 0, .int .u64 0, .int .u32 0, .int .u8 0, .int .u8 0, .int .u8 0, .int .u8 0, .nilFunc, .pointer none, .int .i32 0, .int .i32 0], d := .struct [(0, 12), (1, 12), (2, 48), (3, 263), (4, 5), (5, 5), (6, 264), (7, 265), (8, 266), (9, 267), (10, 268)] } :=
  ⟨Tryz.isAgg269, info_of (z := .agg #[.int .u64 0, .int .u64 0, .int .u32 0, .int .u8 0, .int .u8 0, .int .u8 0, .int .u8 0, .nilFunc, .pointer none, .int .i32 0, .int .i32 0]) (by kernel_rfl), rfl, (fun h => by cases h), rfl, ⟨_, Tryz.underlying269, rfl⟩, (fun ks h => by cases h)⟩
theorem rowOk_270 : RowOk Tryz.prog 270 { agg := true, size := 11, bytes := 48, zero := [.int .u64 0, .int .u64 0, .int .u32 0, .int .u8 0, .int .u8 0, .int .u8 0, .int .u8 0, .nilFunc, .pointer none, .int .i32 0, .int .i32 0], d := .struct [(0, 12), (1, 12), (2, 48), (3, 263), (4, 5), (5, 5), (6, 264), (7, 265), (8, 266), (9, 267), (10, 268)] } :=
  ⟨Tryz.isAgg270, info_of (z := .agg #[.int .u64 0, .int .u64 0, .int .u32 0, .int .u8 0, .int .u8 0, .int .u8 0, .int .u8 0, .nilFunc, .pointer none, .int .i32 0, .int .i32 0]) (by kernel_rfl), rfl, (fun h => by cases h), rfl, ⟨_, Tryz.underlying270, rfl⟩, (fun ks h => by cases h)⟩
theorem tabOk : TabOk Tryz.prog tab := tabOk_of tabL ⟨rowOk_2, rowOk_3, rowOk_4, rowOk_5, rowOk_6, rowOk_7, rowOk_8, rowOk_9, rowOk_10, rowOk_11, rowOk_12, rowOk_13, rowOk_14, rowOk_15, rowOk_16, rowOk_17, rowOk_18, rowOk_19, rowOk_21, rowOk_22, rowOk_23, rowOk_24, rowOk_25, rowOk_26, rowOk_27, rowOk_28, rowOk_31, rowOk_32, rowOk_33, rowOk_34, rowOk_45, rowOk_48, rowOk_49, rowOk_50, rowOk_51, rowOk_52, rowOk_54, rowOk_57, rowOk_58, rowOk_64, rowOk_71, rowOk_79, rowOk_96, rowOk_97, rowOk_98, rowOk_99, rowOk_100, rowOk_107, rowOk_109, rowOk_110, rowOk_115, rowOk_116, rowOk_117, rowOk_119, rowOk_128, rowOk_129, rowOk_130, rowOk_136, rowOk_144, rowOk_155, rowOk_180, rowOk_215, rowOk_216, rowOk_219, rowOk_223, rowOk_243, rowOk_258, rowOk_259, rowOk_260, rowOk_261, rowOk_262, rowOk_263, rowOk_264, rowOk_266, rowOk_267, rowOk_268, rowOk_269, rowOk_270, trivial⟩
end Go.Proofs.YtlnefdmdabhobaaGreat.Aw
