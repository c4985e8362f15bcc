/- The types of this seat's translation, as a table, and that the loaded program has them so. Written by a program (gentab.py). -/
import Derived.Test.YtaiakdhcajibnaaGreatAwDraw
import Derived.Test.YtaiakdhcajibnaaGreatProg
import Derived.KernelRfl
import Derived.Tactics
import Derived.Laws.StructEq
namespace Go.Proofs.YtaiakdhcajibnaaGreat.Aw
open Go Go.RowKit
set_option linter.unusedSimpArgs false
set_option linter.unusedVariables false
def tabL : List (Nat × TRow) := [
  (2, { agg := false, size := 1, bytes := 8, zero := [.int .i64 0], d := .int .i64, ck := some [.i64] }),
  (3, { agg := false, size := 1, bytes := 8, zero := [.int .i64 0], d := .int .i64, ck := some [.i64] }),
  (4, { agg := false, size := 1, bytes := 1, zero := [.bool false], d := .bool }),
  (5, { agg := false, size := 1, bytes := 1, zero := [.int .u8 0], d := .int .u8, ck := some [.u8] }),
  (6, { agg := false, size := 1, bytes := 1, zero := [.int .u8 0], d := .int .u8, ck := some [.u8] }),
  (7, { agg := true, size := 4, bytes := 24, zero := [.int .i64 0, .int .i64 0, .bool false, .int .u8 0], d := .struct [(0, 2), (1, 3), (2, 4), (3, 6)] }),
  (8, { agg := true, size := 4, bytes := 24, zero := [.int .i64 0, .int .i64 0, .bool false, .int .u8 0], d := .struct [(0, 2), (1, 3), (2, 4), (3, 6)] }),
  (9, { agg := false, size := 1, bytes := 16, zero := [.string ⟨#[]⟩], d := .str }),
  (10, { agg := false, size := 1, bytes := 16, zero := [.string ⟨#[]⟩], d := .str }),
  (11, { agg := false, size := 1, bytes := 16, zero := [.string ⟨#[]⟩], d := .str }),
  (12, { agg := false, size := 1, bytes := 8, zero := [.int .u64 0], d := .int .u64, ck := some [.u64] }),
  (13, { agg := true, size := 2, bytes := 24, zero := [.string ⟨#[]⟩, .int .u64 0], d := .struct [(0, 9), (1, 12)] }),
  (14, { agg := true, size := 2, bytes := 24, zero := [.string ⟨#[]⟩, .int .u64 0], d := .struct [(0, 9), (1, 12)] }),
  (15, { agg := false, size := 1, bytes := 8, zero := [.pointer none], d := .ptr 261 }),
  (16, { agg := false, size := 1, bytes := 8, zero := [.pointer none], d := .ptr 264 }),
  (17, { agg := false, size := 1, bytes := 8, zero := [.pointer none], d := .ptr 272 }),
  (18, { agg := true, size := 1, bytes := 8, zero := [.pointer none], d := .struct [(0, 17)] }),
  (19, { agg := true, size := 1, bytes := 8, zero := [.pointer none], d := .struct [(0, 17)] }),
  (21, { agg := false, size := 1, bytes := 4, zero := [.int .i32 0], d := .int .i32, ck := some [.i32] }),
  (22, { agg := false, size := 1, bytes := 24, zero := [.slice none 0 0], d := .slice 29 }),
  (23, { agg := false, size := 1, bytes := 24, zero := [.slice none 0 0], d := .slice 44 }),
  (24, { agg := true, size := 2, bytes := 48, zero := [.slice none 0 0, .slice none 0 0], d := .struct [(0, 22), (1, 23)] }),
  (25, { agg := true, size := 2, bytes := 48, zero := [.slice none 0 0, .slice none 0 0], d := .struct [(0, 22), (1, 23)] }),
  (26, { agg := false, size := 1, bytes := 24, zero := [.slice none 0 0], d := .slice 22 }),
  (27, { agg := true, size := 3, bytes := 72, zero := [.slice none 0 0, .slice none 0 0, .slice none 0 0], d := .struct [(0, 25), (2, 26)] }),
  (28, { agg := true, size := 3, bytes := 72, zero := [.slice none 0 0, .slice none 0 0, .slice none 0 0], d := .struct [(0, 25), (2, 26)] }),
  (29, { agg := false, size := 1, bytes := 4, zero := [.int .u32 0], d := .int .u32, ck := some [.u32] }),
  (32, { agg := false, size := 1, bytes := 8, zero := [.pointer none], d := .ptr 111 }),
  (34, { agg := false, size := 1, bytes := 24, zero := [.slice none 0 0], d := .slice 46 }),
  (43, { agg := true, size := 3, bytes := 12, zero := [.int .u32 0, .int .u32 0, .int .u32 0], d := .struct [(0, 29), (1, 29), (2, 29)], ck := some [.u32, .u32, .u32] }),
  (44, { agg := true, size := 3, bytes := 12, zero := [.int .u32 0, .int .u32 0, .int .u32 0], d := .struct [(0, 29), (1, 29), (2, 29)], ck := some [.u32, .u32, .u32] }),
  (45, { agg := true, size := 3, bytes := 24, zero := [.int .u32 0, .int .i64 0, .int .i64 0], d := .struct [(0, 29), (1, 3), (2, 3)], ck := some [.u32, .i64, .i64] }),
  (46, { agg := true, size := 3, bytes := 24, zero := [.int .u32 0, .int .i64 0, .int .i64 0], d := .struct [(0, 29), (1, 3), (2, 3)], ck := some [.u32, .i64, .i64] }),
  (47, { agg := false, size := 1, bytes := 24, zero := [.slice none 0 0], d := .slice 3 }),
  (51, { agg := true, size := 6, bytes := 32, zero := [.int .i64 0, .int .u32 0, .int .u32 0, .int .u32 0, .int .u32 0, .int .u32 0], d := .struct [(0, 3), (1, 29), (2, 29), (3, 29), (4, 29), (5, 29)], ck := some [.i64, .u32, .u32, .u32, .u32, .u32] }),
  (52, { agg := true, size := 6, bytes := 32, zero := [.int .i64 0, .int .u32 0, .int .u32 0, .int .u32 0, .int .u32 0, .int .u32 0], d := .struct [(0, 3), (1, 29), (2, 29), (3, 29), (4, 29), (5, 29)], ck := some [.i64, .u32, .u32, .u32, .u32, .u32] }),
  (56, { agg := false, size := 1, bytes := 24, zero := [.slice none 0 0], d := .slice 59 }),
  (57, { agg := false, size := 1, bytes := 8, zero := [.map none], d := .map 3 3 }),
  (58, { agg := false, size := 1, bytes := 8, zero := [.map none], d := .map 3 3 }),
  (59, { agg := false, size := 1, bytes := 2, zero := [.int .i16 0], d := .int .i16, ck := some [.i16] }),
  (67, { agg := false, size := 1, bytes := 8, zero := [.map none], d := .map 29 3 }),
  (68, { agg := false, size := 1, bytes := 8, zero := [.map none], d := .map 3 4 }),
  (89, { agg := true, size := 7, bytes := 56, zero := [.map none, .int .i64 0, .int .i64 0, .int .i64 0, .int .i64 0, .int .i64 0, .int .i64 0], d := .struct [(0, 58), (1, 3), (2, 3), (3, 3), (4, 3), (5, 3), (6, 3)] }),
  (90, { agg := true, size := 7, bytes := 56, zero := [.map none, .int .i64 0, .int .i64 0, .int .i64 0, .int .i64 0, .int .i64 0, .int .i64 0], d := .struct [(0, 58), (1, 3), (2, 3), (3, 3), (4, 3), (5, 3), (6, 3)] }),
  (103, { agg := false, size := 1, bytes := 24, zero := [.slice none 0 0], d := .slice 23 }),
  (105, { agg := false, size := 1, bytes := 24, zero := [.slice none 0 0], d := .slice 106 }),
  (106, { agg := false, size := 1, bytes := 8, zero := [.map none], d := .map 29 4 }),
  (109, { agg := false, size := 1, bytes := 8, zero := [.map none], d := .map 29 22 }),
  (110, { agg := true, size := 3, bytes := 56, zero := [.slice none 0 0, .slice none 0 0, .map none], d := .struct [(0, 23), (1, 26), (2, 67)] }),
  (111, { agg := true, size := 3, bytes := 56, zero := [.slice none 0 0, .slice none 0 0, .map none], d := .struct [(0, 23), (1, 26), (2, 67)] }),
  (114, { agg := false, size := 1, bytes := 8, zero := [.nilFunc], d := .other }),
  (116, { agg := false, size := 1, bytes := 8, zero := [.int .i64 0], d := .int .i64, ck := some [.i64] }),
  (123, { agg := false, size := 1, bytes := 8, zero := [.int .u64 0], d := .int .u64, ck := some [.u64] }),
  (124, { agg := false, size := 1, bytes := 8, zero := [.map none], d := .map 3 125 }),
  (125, { agg := true, size := 0, bytes := 0, zero := [], d := .struct [] }),
  (127, { agg := false, size := 1, bytes := 8, zero := [.map none], d := .map 128 3 }),
  (128, { agg := true, size := 2, bytes := 8, zero := [.int .u32 0, .int .u32 0], d := .arr 2 29 }),
  (133, { agg := false, size := 1, bytes := 8, zero := [.map none], d := .map 29 125 }),
  (143, { agg := false, size := 1, bytes := 8, zero := [.pointer none], d := .ptr 146 }),
  (144, { agg := false, size := 1, bytes := 8, zero := [.map none], d := .map 29 47 }),
  (145, { agg := true, size := 6, bytes := 96, zero := [.slice none 0 0, .map none, .map none, .map none, .slice none 0 0, .slice none 0 0], d := .struct [(0, 23), (1, 144), (2, 67), (3, 67), (4, 47), (5, 103)] }),
  (146, { agg := true, size := 6, bytes := 96, zero := [.slice none 0 0, .map none, .map none, .map none, .slice none 0 0, .slice none 0 0], d := .struct [(0, 23), (1, 144), (2, 67), (3, 67), (4, 47), (5, 103)] }),
  (153, { agg := false, size := 1, bytes := 8, zero := [.nilFunc], d := .other }),
  (155, { agg := false, size := 1, bytes := 8, zero := [.map none], d := .map 29 29 }),
  (159, { agg := false, size := 1, bytes := 24, zero := [.slice none 0 0], d := .slice 52 }),
  (160, { agg := false, size := 1, bytes := 8, zero := [.pointer none], d := .ptr 163 }),
  (162, { agg := true, size := 3, bytes := 72, zero := [.slice none 0 0, .slice none 0 0, .slice none 0 0], d := .struct [(0, 28)] }),
  (163, { agg := true, size := 3, bytes := 72, zero := [.slice none 0 0, .slice none 0 0, .slice none 0 0], d := .struct [(0, 28)] }),
  (166, { agg := false, size := 1, bytes := 8, zero := [.int .i64 0], d := .int .i64, ck := some [.i64] }),
  (174, { agg := false, size := 1, bytes := 8, zero := [.int .u64 0], d := .int .u64, ck := some [.u64] }),
  (196, { agg := false, size := 1, bytes := 8, zero := [.int .u64 0], d := .int .u64, ck := some [.u64] }),
  (200, { agg := false, size := 1, bytes := 8, zero := [.pointer none], d := .ptr 3 }),
  (226, { agg := false, size := 1, bytes := 8, zero := [.pointer none], d := .ptr 196 }),
  (260, { agg := true, size := 4, bytes := 40, zero := [.pointer none, .pointer none, .pointer none, .string ⟨#[]⟩], d := .struct [(0, 17), (1, 17), (2, 17), (3, 9)] }),
  (261, { agg := true, size := 4, bytes := 40, zero := [.pointer none, .pointer none, .pointer none, .string ⟨#[]⟩], d := .struct [(0, 17), (1, 17), (2, 17), (3, 9)] }),
  (262, { agg := true, size := 0, bytes := 0, zero := [], d := .arr 0 16 }),
  (263, { agg := true, size := 0, bytes := 0, zero := [], d := .struct [(0, 262)] }),
  (264, { agg := true, size := 0, bytes := 0, zero := [], d := .struct [(0, 262)] }),
  (265, { agg := false, size := 1, bytes := 1, zero := [.int .u8 0], d := .int .u8, ck := some [.u8] }),
  (266, { agg := false, size := 1, bytes := 1, zero := [.int .u8 0], d := .int .u8, ck := some [.u8] }),
  (268, { agg := false, size := 1, bytes := 8, zero := [.pointer none], d := .ptr 5 }),
  (269, { agg := false, size := 1, bytes := 4, zero := [.int .i32 0], d := .int .i32, ck := some [.i32] }),
  (270, { agg := false, size := 1, bytes := 4, zero := [.int .i32 0], d := .int .i32, ck := some [.i32] }),
  (271, { agg := true, size := 11, bytes := 48, zero := [.int .u64 0, .int .u64 0, .int .u32 0, .int .u8 0, .int .u8 0, .int .u8 0, .int .u8 0, .nilFunc, .pointer none, .int .i32 0, .int .i32 0], d := .struct [(0, 12), (1, 12), (2, 29), (3, 265), (4, 5), (5, 5), (6, 266), (7, 267), (8, 268), (9, 269), (10, 270)] }),
  (272, { agg := true, size := 11, bytes := 48, zero := [.int .u64 0, .int .u64 0, .int .u32 0, .int .u8 0, .int .u8 0, .int .u8 0, .int .u8 0, .nilFunc, .pointer none, .int .i32 0, .int .i32 0], d := .struct [(0, 12), (1, 12), (2, 29), (3, 265), (4, 5), (5, 5), (6, 266), (7, 267), (8, 268), (9, 269), (10, 270)] })]
def tab : Tab := lookT tabL
@[simp] theorem tab_2 : tab 2 = some { agg := false, size := 1, bytes := 8, zero := [.int .i64 0], d := .int .i64, ck := some [.i64] } := rfl
@[simp] theorem tab_3 : tab 3 = some { agg := false, size := 1, bytes := 8, zero := [.int .i64 0], d := .int .i64, ck := some [.i64] } := rfl
@[simp] theorem tab_4 : tab 4 = some { agg := false, size := 1, bytes := 1, zero := [.bool false], d := .bool } := rfl
@[simp] theorem tab_5 : tab 5 = some { agg := false, size := 1, bytes := 1, zero := [.int .u8 0], d := .int .u8, ck := some [.u8] } := rfl
@[simp] theorem tab_6 : tab 6 = some { agg := false, size := 1, bytes := 1, zero := [.int .u8 0], d := .int .u8, ck := some [.u8] } := rfl
@[simp] theorem tab_7 : tab 7 = some { agg := true, size := 4, bytes := 24, zero := [.int .i64 0, .int .i64 0, .bool false, .int .u8 0], d := .struct [(0, 2), (1, 3), (2, 4), (3, 6)] } := rfl
@[simp] theorem tab_8 : tab 8 = some { agg := true, size := 4, bytes := 24, zero := [.int .i64 0, .int .i64 0, .bool false, .int .u8 0], d := .struct [(0, 2), (1, 3), (2, 4), (3, 6)] } := rfl
@[simp] theorem tab_9 : tab 9 = some { agg := false, size := 1, bytes := 16, zero := [.string ⟨#[]⟩], d := .str } := rfl
@[simp] theorem tab_10 : tab 10 = some { agg := false, size := 1, bytes := 16, zero := [.string ⟨#[]⟩], d := .str } := rfl
@[simp] theorem tab_11 : tab 11 = some { agg := false, size := 1, bytes := 16, zero := [.string ⟨#[]⟩], d := .str } := rfl
@[simp] theorem tab_12 : tab 12 = some { agg := false, size := 1, bytes := 8, zero := [.int .u64 0], d := .int .u64, ck := some [.u64] } := rfl
@[simp] theorem tab_13 : tab 13 = some { agg := true, size := 2, bytes := 24, zero := [.string ⟨#[]⟩, .int .u64 0], d := .struct [(0, 9), (1, 12)] } := rfl
@[simp] theorem tab_14 : tab 14 = some { agg := true, size := 2, bytes := 24, zero := [.string ⟨#[]⟩, .int .u64 0], d := .struct [(0, 9), (1, 12)] } := rfl
@[simp] theorem tab_15 : tab 15 = some { agg := false, size := 1, bytes := 8, zero := [.pointer none], d := .ptr 261 } := rfl
@[simp] theorem tab_16 : tab 16 = some { agg := false, size := 1, bytes := 8, zero := [.pointer none], d := .ptr 264 } := rfl
@[simp] theorem tab_17 : tab 17 = some { agg := false, size := 1, bytes := 8, zero := [.pointer none], d := .ptr 272 } := rfl
@[simp] theorem tab_18 : tab 18 = some { agg := true, size := 1, bytes := 8, zero := [.pointer none], d := .struct [(0, 17)] } := rfl
@[simp] theorem tab_19 : tab 19 = some { agg := true, size := 1, bytes := 8, zero := [.pointer none], d := .struct [(0, 17)] } := rfl
@[simp] theorem tab_21 : tab 21 = some { agg := false, size := 1, bytes := 4, zero := [.int .i32 0], d := .int .i32, ck := some [.i32] } := rfl
@[simp] theorem tab_22 : tab 22 = some { agg := false, size := 1, bytes := 24, zero := [.slice none 0 0], d := .slice 29 } := rfl
@[simp] theorem tab_23 : tab 23 = some { agg := false, size := 1, bytes := 24, zero := [.slice none 0 0], d := .slice 44 } := rfl
@[simp] theorem tab_24 : tab 24 = some { agg := true, size := 2, bytes := 48, zero := [.slice none 0 0, .slice none 0 0], d := .struct [(0, 22), (1, 23)] } := rfl
@[simp] theorem tab_25 : tab 25 = some { agg := true, size := 2, bytes := 48, zero := [.slice none 0 0, .slice none 0 0], d := .struct [(0, 22), (1, 23)] } := rfl
@[simp] theorem tab_26 : tab 26 = some { agg := false, size := 1, bytes := 24, zero := [.slice none 0 0], d := .slice 22 } := rfl
@[simp] theorem tab_27 : tab 27 = some { agg := true, size := 3, bytes := 72, zero := [.slice none 0 0, .slice none 0 0, .slice none 0 0], d := .struct [(0, 25), (2, 26)] } := rfl
@[simp] theorem tab_28 : tab 28 = some { agg := true, size := 3, bytes := 72, zero := [.slice none 0 0, .slice none 0 0, .slice none 0 0], d := .struct [(0, 25), (2, 26)] } := rfl
@[simp] theorem tab_29 : tab 29 = some { agg := false, size := 1, bytes := 4, zero := [.int .u32 0], d := .int .u32, ck := some [.u32] } := rfl
@[simp] theorem tab_32 : tab 32 = some { agg := false, size := 1, bytes := 8, zero := [.pointer none], d := .ptr 111 } := rfl
@[simp] theorem tab_34 : tab 34 = some { agg := false, size := 1, bytes := 24, zero := [.slice none 0 0], d := .slice 46 } := rfl
@[simp] theorem tab_43 : tab 43 = some { agg := true, size := 3, bytes := 12, zero := [.int .u32 0, .int .u32 0, .int .u32 0], d := .struct [(0, 29), (1, 29), (2, 29)], ck := some [.u32, .u32, .u32] } := rfl
@[simp] theorem tab_44 : tab 44 = some { agg := true, size := 3, bytes := 12, zero := [.int .u32 0, .int .u32 0, .int .u32 0], d := .struct [(0, 29), (1, 29), (2, 29)], ck := some [.u32, .u32, .u32] } := rfl
@[simp] theorem tab_45 : tab 45 = some { agg := true, size := 3, bytes := 24, zero := [.int .u32 0, .int .i64 0, .int .i64 0], d := .struct [(0, 29), (1, 3), (2, 3)], ck := some [.u32, .i64, .i64] } := rfl
@[simp] theorem tab_46 : tab 46 = some { agg := true, size := 3, bytes := 24, zero := [.int .u32 0, .int .i64 0, .int .i64 0], d := .struct [(0, 29), (1, 3), (2, 3)], ck := some [.u32, .i64, .i64] } := rfl
@[simp] theorem tab_47 : tab 47 = some { agg := false, size := 1, bytes := 24, zero := [.slice none 0 0], d := .slice 3 } := rfl
@[simp] theorem tab_51 : tab 51 = some { agg := true, size := 6, bytes := 32, zero := [.int .i64 0, .int .u32 0, .int .u32 0, .int .u32 0, .int .u32 0, .int .u32 0], d := .struct [(0, 3), (1, 29), (2, 29), (3, 29), (4, 29), (5, 29)], ck := some [.i64, .u32, .u32, .u32, .u32, .u32] } := rfl
@[simp] theorem tab_52 : tab 52 = some { agg := true, size := 6, bytes := 32, zero := [.int .i64 0, .int .u32 0, .int .u32 0, .int .u32 0, .int .u32 0, .int .u32 0], d := .struct [(0, 3), (1, 29), (2, 29), (3, 29), (4, 29), (5, 29)], ck := some [.i64, .u32, .u32, .u32, .u32, .u32] } := rfl
@[simp] theorem tab_56 : tab 56 = some { agg := false, size := 1, bytes := 24, zero := [.slice none 0 0], d := .slice 59 } := rfl
@[simp] theorem tab_57 : tab 57 = some { agg := false, size := 1, bytes := 8, zero := [.map none], d := .map 3 3 } := rfl
@[simp] theorem tab_58 : tab 58 = some { agg := false, size := 1, bytes := 8, zero := [.map none], d := .map 3 3 } := rfl
@[simp] theorem tab_59 : tab 59 = some { agg := false, size := 1, bytes := 2, zero := [.int .i16 0], d := .int .i16, ck := some [.i16] } := rfl
@[simp] theorem tab_67 : tab 67 = some { agg := false, size := 1, bytes := 8, zero := [.map none], d := .map 29 3 } := rfl
@[simp] theorem tab_68 : tab 68 = some { agg := false, size := 1, bytes := 8, zero := [.map none], d := .map 3 4 } := rfl
@[simp] theorem tab_89 : tab 89 = some { agg := true, size := 7, bytes := 56, zero := [.map none, .int .i64 0, .int .i64 0, .int .i64 0, .int .i64 0, .int .i64 0, .int .i64 0], d := .struct [(0, 58), (1, 3), (2, 3), (3, 3), (4, 3), (5, 3), (6, 3)] } := rfl
@[simp] theorem tab_90 : tab 90 = some { agg := true, size := 7, bytes := 56, zero := [.map none, .int .i64 0, .int .i64 0, .int .i64 0, .int .i64 0, .int .i64 0, .int .i64 0], d := .struct [(0, 58), (1, 3), (2, 3), (3, 3), (4, 3), (5, 3), (6, 3)] } := rfl
@[simp] theorem tab_103 : tab 103 = some { agg := false, size := 1, bytes := 24, zero := [.slice none 0 0], d := .slice 23 } := rfl
@[simp] theorem tab_105 : tab 105 = some { agg := false, size := 1, bytes := 24, zero := [.slice none 0 0], d := .slice 106 } := rfl
@[simp] theorem tab_106 : tab 106 = some { agg := false, size := 1, bytes := 8, zero := [.map none], d := .map 29 4 } := rfl
@[simp] theorem tab_109 : tab 109 = some { agg := false, size := 1, bytes := 8, zero := [.map none], d := .map 29 22 } := rfl
@[simp] theorem tab_110 : tab 110 = some { agg := true, size := 3, bytes := 56, zero := [.slice none 0 0, .slice none 0 0, .map none], d := .struct [(0, 23), (1, 26), (2, 67)] } := rfl
@[simp] theorem tab_111 : tab 111 = some { agg := true, size := 3, bytes := 56, zero := [.slice none 0 0, .slice none 0 0, .map none], d := .struct [(0, 23), (1, 26), (2, 67)] } := rfl
@[simp] theorem tab_114 : tab 114 = some { agg := false, size := 1, bytes := 8, zero := [.nilFunc], d := .other } := rfl
@[simp] theorem tab_116 : tab 116 = some { agg := false, size := 1, bytes := 8, zero := [.int .i64 0], d := .int .i64, ck := some [.i64] } := rfl
@[simp] theorem tab_123 : tab 123 = some { agg := false, size := 1, bytes := 8, zero := [.int .u64 0], d := .int .u64, ck := some [.u64] } := rfl
@[simp] theorem tab_124 : tab 124 = some { agg := false, size := 1, bytes := 8, zero := [.map none], d := .map 3 125 } := rfl
@[simp] theorem tab_125 : tab 125 = some { agg := true, size := 0, bytes := 0, zero := [], d := .struct [] } := rfl
@[simp] theorem tab_127 : tab 127 = some { agg := false, size := 1, bytes := 8, zero := [.map none], d := .map 128 3 } := rfl
@[simp] theorem tab_128 : tab 128 = some { agg := true, size := 2, bytes := 8, zero := [.int .u32 0, .int .u32 0], d := .arr 2 29 } := rfl
@[simp] theorem tab_133 : tab 133 = some { agg := false, size := 1, bytes := 8, zero := [.map none], d := .map 29 125 } := rfl
@[simp] theorem tab_143 : tab 143 = some { agg := false, size := 1, bytes := 8, zero := [.pointer none], d := .ptr 146 } := rfl
@[simp] theorem tab_144 : tab 144 = some { agg := false, size := 1, bytes := 8, zero := [.map none], d := .map 29 47 } := rfl
@[simp] theorem tab_145 : tab 145 = some { agg := true, size := 6, bytes := 96, zero := [.slice none 0 0, .map none, .map none, .map none, .slice none 0 0, .slice none 0 0], d := .struct [(0, 23), (1, 144), (2, 67), (3, 67), (4, 47), (5, 103)] } := rfl
@[simp] theorem tab_146 : tab 146 = some { agg := true, size := 6, bytes := 96, zero := [.slice none 0 0, .map none, .map none, .map none, .slice none 0 0, .slice none 0 0], d := .struct [(0, 23), (1, 144), (2, 67), (3, 67), (4, 47), (5, 103)] } := rfl
@[simp] theorem tab_153 : tab 153 = some { agg := false, size := 1, bytes := 8, zero := [.nilFunc], d := .other } := rfl
@[simp] theorem tab_155 : tab 155 = some { agg := false, size := 1, bytes := 8, zero := [.map none], d := .map 29 29 } := rfl
@[simp] theorem tab_159 : tab 159 = some { agg := false, size := 1, bytes := 24, zero := [.slice none 0 0], d := .slice 52 } := rfl
@[simp] theorem tab_160 : tab 160 = some { agg := false, size := 1, bytes := 8, zero := [.pointer none], d := .ptr 163 } := rfl
@[simp] theorem tab_162 : tab 162 = some { agg := true, size := 3, bytes := 72, zero := [.slice none 0 0, .slice none 0 0, .slice none 0 0], d := .struct [(0, 28)] } := rfl
@[simp] theorem tab_163 : tab 163 = some { agg := true, size := 3, bytes := 72, zero := [.slice none 0 0, .slice none 0 0, .slice none 0 0], d := .struct [(0, 28)] } := rfl
@[simp] theorem tab_166 : tab 166 = some { agg := false, size := 1, bytes := 8, zero := [.int .i64 0], d := .int .i64, ck := some [.i64] } := rfl
@[simp] theorem tab_174 : tab 174 = some { agg := false, size := 1, bytes := 8, zero := [.int .u64 0], d := .int .u64, ck := some [.u64] } := rfl
@[simp] theorem tab_196 : tab 196 = some { agg := false, size := 1, bytes := 8, zero := [.int .u64 0], d := .int .u64, ck := some [.u64] } := rfl
@[simp] theorem tab_200 : tab 200 = some { agg := false, size := 1, bytes := 8, zero := [.pointer none], d := .ptr 3 } := rfl
@[simp] theorem tab_226 : tab 226 = some { agg := false, size := 1, bytes := 8, zero := [.pointer none], d := .ptr 196 } := rfl
@[simp] theorem tab_260 : tab 260 = some { agg := true, size := 4, bytes := 40, zero := [.pointer none, .pointer none, .pointer none, .string ⟨#[]⟩], d := .struct [(0, 17), (1, 17), (2, 17), (3, 9)] } := rfl
@[simp] theorem tab_261 : tab 261 = some { agg := true, size := 4, bytes := 40, zero := [.pointer none, .pointer none, .pointer none, .string ⟨#[]⟩], d := .struct [(0, 17), (1, 17), (2, 17), (3, 9)] } := rfl
@[simp] theorem tab_262 : tab 262 = some { agg := true, size := 0, bytes := 0, zero := [], d := .arr 0 16 } := rfl
@[simp] theorem tab_263 : tab 263 = some { agg := true, size := 0, bytes := 0, zero := [], d := .struct [(0, 262)] } := rfl
@[simp] theorem tab_264 : tab 264 = some { agg := true, size := 0, bytes := 0, zero := [], d := .struct [(0, 262)] } := rfl
@[simp] theorem tab_265 : tab 265 = some { agg := false, size := 1, bytes := 1, zero := [.int .u8 0], d := .int .u8, ck := some [.u8] } := rfl
@[simp] theorem tab_266 : tab 266 = some { agg := false, size := 1, bytes := 1, zero := [.int .u8 0], d := .int .u8, ck := some [.u8] } := rfl
@[simp] theorem tab_268 : tab 268 = some { agg := false, size := 1, bytes := 8, zero := [.pointer none], d := .ptr 5 } := rfl
@[simp] theorem tab_269 : tab 269 = some { agg := false, size := 1, bytes := 4, zero := [.int .i32 0], d := .int .i32, ck := some [.i32] } := rfl
@[simp] theorem tab_270 : tab 270 = some { agg := false, size := 1, bytes := 4, zero := [.int .i32 0], d := .int .i32, ck := some [.i32] } := rfl
@[simp] theorem tab_271 : tab 271 = some { agg := true, size := 11, bytes := 48, zero := [.int .u64 0, .int .u64 0, .int .u32 0, .int .u8 0, .int .u8 0, .int .u8 0, .int .u8 0, .nilFunc, .pointer none, .int .i32 0, .int .i32 0], d := .struct [(0, 12), (1, 12), (2, 29), (3, 265), (4, 5), (5, 5), (6, 266), (7, 267), (8, 268), (9, 269), (10, 270)] } := rfl
@[simp] theorem tab_272 : tab 272 = some { agg := true, size := 11, bytes := 48, zero := [.int .u64 0, .int .u64 0, .int .u32 0, .int .u8 0, .int .u8 0, .int .u8 0, .int .u8 0, .nilFunc, .pointer none, .int .i32 0, .int .i32 0], d := .struct [(0, 12), (1, 12), (2, 29), (3, 265), (4, 5), (5, 5), (6, 266), (7, 267), (8, 268), (9, 269), (10, 270)] } := rfl
theorem info_of {P : Program} {t size bytes : Nat} {z : Value} (h : (P.info? t).map (fun i => (i.size, i.bytes, i.zero)) = some (size, bytes, some z)) : ∃ i, P.info? t = some i ∧ i.size = size ∧ i.bytes = bytes ∧ i.zero = some z := by
  cases hi : P.info? t with
  | none => simp [hi] at h
  | some i =>
    simp only [hi, Option.map_some, Option.some.injEq, Prod.mk.injEq] at h
    exact ⟨i, rfl, h.1, h.2.1, h.2.2⟩
theorem eqOk_43 : EqOk Tryz.prog 43 true [.u32, .u32, .u32] := by
  have u29 := Tryz.underlying29
  have a29 := Tryz.isAgg29
  have z29 := Tryz.sizeOf29
  have hp : Tryz.prog.stoodInHeld 43 = false := by kernel_rfl
  refine ⟨fun w as1 bs1 h1 h2 => ?_, fun w em as1 h1 => ?_, fun _ => by kernel_rfl, (fun h => by cases h), _, Tryz.underlying43, .inr fun as1 bs1 h1 h2 => by simp [mkV, Instr.sameNow]⟩
  · match as1, bs1, h1, h2 with
    | [x0, x1, x2], [y0, y1, y2], _, _ =>
      have hS : Tryz.prog.underlying 43 = some (.struct (Tryz.prog.fieldsOf 43)) := by kernel_rfl
      simp only [mkV, mkC, if_true]
      unfold Op.equal Op.maxDepth
      rw [show (10000 : Nat) = 9999 + 1 from rfl, run_equalIn_agg w 9999 43 _ _ hS hp]
      simp only [Program.fieldsOf, Tryz.underlying43]
      go_simp
      by_cases e0 : x0 = y0 <;> by_cases e1 : x1 = y1 <;> by_cases e2 : x2 = y2 <;> simp [e0, e1, e2]
  · match as1, h1 with
    | [x0, x1, x2], _ =>
      simp only [mkV, mkC, if_true]
      unfold Instr.checkKey
      simp only [Sem.run_bind, run_underlying Tryz.underlying43, Result.andThen_ok]
      go_simp
      (try simp [chk_int u29])
theorem eqOk_44 : EqOk Tryz.prog 44 true [.u32, .u32, .u32] := by
  have u29 := Tryz.underlying29
  have a29 := Tryz.isAgg29
  have z29 := Tryz.sizeOf29
  have hp : Tryz.prog.stoodInHeld 44 = false := by kernel_rfl
  refine ⟨fun w as1 bs1 h1 h2 => ?_, fun w em as1 h1 => ?_, fun _ => by kernel_rfl, (fun h => by cases h), _, Tryz.underlying44, .inr fun as1 bs1 h1 h2 => by simp [mkV, Instr.sameNow]⟩
  · match as1, bs1, h1, h2 with
    | [x0, x1, x2], [y0, y1, y2], _, _ =>
      have hS : Tryz.prog.underlying 44 = some (.struct (Tryz.prog.fieldsOf 44)) := by kernel_rfl
      simp only [mkV, mkC, if_true]
      unfold Op.equal Op.maxDepth
      rw [show (10000 : Nat) = 9999 + 1 from rfl, run_equalIn_agg w 9999 44 _ _ hS hp]
      simp only [Program.fieldsOf, Tryz.underlying44]
      go_simp
      by_cases e0 : x0 = y0 <;> by_cases e1 : x1 = y1 <;> by_cases e2 : x2 = y2 <;> simp [e0, e1, e2]
  · match as1, h1 with
    | [x0, x1, x2], _ =>
      simp only [mkV, mkC, if_true]
      unfold Instr.checkKey
      simp only [Sem.run_bind, run_underlying Tryz.underlying44, Result.andThen_ok]
      go_simp
      (try simp [chk_int u29])
theorem eqOk_45 : EqOk Tryz.prog 45 true [.u32, .i64, .i64] := by
  have u3 := Tryz.underlying3
  have a3 := Tryz.isAgg3
  have z3 := Tryz.sizeOf3
  have u29 := Tryz.underlying29
  have a29 := Tryz.isAgg29
  have z29 := Tryz.sizeOf29
  have hp : Tryz.prog.stoodInHeld 45 = false := by kernel_rfl
  refine ⟨fun w as1 bs1 h1 h2 => ?_, fun w em as1 h1 => ?_, fun _ => by kernel_rfl, (fun h => by cases h), _, Tryz.underlying45, .inr fun as1 bs1 h1 h2 => by simp [mkV, Instr.sameNow]⟩
  · match as1, bs1, h1, h2 with
    | [x0, x1, x2], [y0, y1, y2], _, _ =>
      have hS : Tryz.prog.underlying 45 = some (.struct (Tryz.prog.fieldsOf 45)) := by kernel_rfl
      simp only [mkV, mkC, if_true]
      unfold Op.equal Op.maxDepth
      rw [show (10000 : Nat) = 9999 + 1 from rfl, run_equalIn_agg w 9999 45 _ _ hS hp]
      simp only [Program.fieldsOf, Tryz.underlying45]
      go_simp
      by_cases e0 : x0 = y0 <;> by_cases e1 : x1 = y1 <;> by_cases e2 : x2 = y2 <;> simp [e0, e1, e2]
  · match as1, h1 with
    | [x0, x1, x2], _ =>
      simp only [mkV, mkC, if_true]
      unfold Instr.checkKey
      simp only [Sem.run_bind, run_underlying Tryz.underlying45, Result.andThen_ok]
      go_simp
      (try simp [chk_int u3, chk_int u29])
theorem eqOk_46 : EqOk Tryz.prog 46 true [.u32, .i64, .i64] := by
  have u3 := Tryz.underlying3
  have a3 := Tryz.isAgg3
  have z3 := Tryz.sizeOf3
  have u29 := Tryz.underlying29
  have a29 := Tryz.isAgg29
  have z29 := Tryz.sizeOf29
  have hp : Tryz.prog.stoodInHeld 46 = false := by kernel_rfl
  refine ⟨fun w as1 bs1 h1 h2 => ?_, fun w em as1 h1 => ?_, fun _ => by kernel_rfl, (fun h => by cases h), _, Tryz.underlying46, .inr fun as1 bs1 h1 h2 => by simp [mkV, Instr.sameNow]⟩
  · match as1, bs1, h1, h2 with
    | [x0, x1, x2], [y0, y1, y2], _, _ =>
      have hS : Tryz.prog.underlying 46 = some (.struct (Tryz.prog.fieldsOf 46)) := by kernel_rfl
      simp only [mkV, mkC, if_true]
      unfold Op.equal Op.maxDepth
      rw [show (10000 : Nat) = 9999 + 1 from rfl, run_equalIn_agg w 9999 46 _ _ hS hp]
      simp only [Program.fieldsOf, Tryz.underlying46]
      go_simp
      by_cases e0 : x0 = y0 <;> by_cases e1 : x1 = y1 <;> by_cases e2 : x2 = y2 <;> simp [e0, e1, e2]
  · match as1, h1 with
    | [x0, x1, x2], _ =>
      simp only [mkV, mkC, if_true]
      unfold Instr.checkKey
      simp only [Sem.run_bind, run_underlying Tryz.underlying46, Result.andThen_ok]
      go_simp
      (try simp [chk_int u3, chk_int u29])
theorem eqOk_51 : EqOk Tryz.prog 51 true [.i64, .u32, .u32, .u32, .u32, .u32] := by
  have u3 := Tryz.underlying3
  have a3 := Tryz.isAgg3
  have z3 := Tryz.sizeOf3
  have u29 := Tryz.underlying29
  have a29 := Tryz.isAgg29
  have z29 := Tryz.sizeOf29
  have hp : Tryz.prog.stoodInHeld 51 = false := by kernel_rfl
  refine ⟨fun w as1 bs1 h1 h2 => ?_, fun w em as1 h1 => ?_, fun _ => by kernel_rfl, (fun h => by cases h), _, Tryz.underlying51, .inr fun as1 bs1 h1 h2 => by simp [mkV, Instr.sameNow]⟩
  · match as1, bs1, h1, h2 with
    | [x0, x1, x2, x3, x4, x5], [y0, y1, y2, y3, y4, y5], _, _ =>
      have hS : Tryz.prog.underlying 51 = some (.struct (Tryz.prog.fieldsOf 51)) := by kernel_rfl
      simp only [mkV, mkC, if_true]
      unfold Op.equal Op.maxDepth
      rw [show (10000 : Nat) = 9999 + 1 from rfl, run_equalIn_agg w 9999 51 _ _ hS hp]
      simp only [Program.fieldsOf, Tryz.underlying51]
      go_simp
      by_cases e0 : x0 = y0 <;> by_cases e1 : x1 = y1 <;> by_cases e2 : x2 = y2 <;> by_cases e3 : x3 = y3 <;> by_cases e4 : x4 = y4 <;> by_cases e5 : x5 = y5 <;> simp [e0, e1, e2, e3, e4, e5]
  · match as1, h1 with
    | [x0, x1, x2, x3, x4, x5], _ =>
      simp only [mkV, mkC, if_true]
      unfold Instr.checkKey
      simp only [Sem.run_bind, run_underlying Tryz.underlying51, Result.andThen_ok]
      go_simp
      (try simp [chk_int u3, chk_int u29])
theorem eqOk_52 : EqOk Tryz.prog 52 true [.i64, .u32, .u32, .u32, .u32, .u32] := by
  have u3 := Tryz.underlying3
  have a3 := Tryz.isAgg3
  have z3 := Tryz.sizeOf3
  have u29 := Tryz.underlying29
  have a29 := Tryz.isAgg29
  have z29 := Tryz.sizeOf29
  have hp : Tryz.prog.stoodInHeld 52 = false := by kernel_rfl
  refine ⟨fun w as1 bs1 h1 h2 => ?_, fun w em as1 h1 => ?_, fun _ => by kernel_rfl, (fun h => by cases h), _, Tryz.underlying52, .inr fun as1 bs1 h1 h2 => by simp [mkV, Instr.sameNow]⟩
  · match as1, bs1, h1, h2 with
    | [x0, x1, x2, x3, x4, x5], [y0, y1, y2, y3, y4, y5], _, _ =>
      have hS : Tryz.prog.underlying 52 = some (.struct (Tryz.prog.fieldsOf 52)) := by kernel_rfl
      simp only [mkV, mkC, if_true]
      unfold Op.equal Op.maxDepth
      rw [show (10000 : Nat) = 9999 + 1 from rfl, run_equalIn_agg w 9999 52 _ _ hS hp]
      simp only [Program.fieldsOf, Tryz.underlying52]
      go_simp
      by_cases e0 : x0 = y0 <;> by_cases e1 : x1 = y1 <;> by_cases e2 : x2 = y2 <;> by_cases e3 : x3 = y3 <;> by_cases e4 : x4 = y4 <;> by_cases e5 : x5 = y5 <;> simp [e0, e1, e2, e3, e4, e5]
  · match as1, h1 with
    | [x0, x1, x2, x3, x4, x5], _ =>
      simp only [mkV, mkC, if_true]
      unfold Instr.checkKey
      simp only [Sem.run_bind, run_underlying Tryz.underlying52, Result.andThen_ok]
      go_simp
      (try simp [chk_int u3, chk_int u29])
theorem rowOk_2 : RowOk Tryz.prog 2 { agg := false, size := 1, bytes := 8, zero := [.int .i64 0], d := .int .i64, ck := some [.i64] } :=
  ⟨Tryz.isAgg2, info_of (z := .int .i64 0) (by kernel_rfl), rfl, fun _ => rfl, rfl, Tryz.underlying2, (fun ks h => by injection h with h; subst h; exact eqOk_int Tryz.underlying2)⟩
theorem rowOk_3 : RowOk Tryz.prog 3 { agg := false, size := 1, bytes := 8, zero := [.int .i64 0], d := .int .i64, ck := some [.i64] } :=
  ⟨Tryz.isAgg3, info_of (z := .int .i64 0) (by kernel_rfl), rfl, fun _ => rfl, rfl, Tryz.underlying3, (fun ks h => by injection h with h; subst h; exact eqOk_int Tryz.underlying3)⟩
theorem rowOk_4 : RowOk Tryz.prog 4 { agg := false, size := 1, bytes := 1, zero := [.bool false], d := .bool } :=
  ⟨Tryz.isAgg4, info_of (z := .bool false) (by kernel_rfl), rfl, fun _ => rfl, rfl, Tryz.underlying4, (fun ks h => by cases h)⟩
theorem rowOk_5 : RowOk Tryz.prog 5 { agg := false, size := 1, bytes := 1, zero := [.int .u8 0], d := .int .u8, ck := some [.u8] } :=
  ⟨Tryz.isAgg5, info_of (z := .int .u8 0) (by kernel_rfl), rfl, fun _ => rfl, rfl, Tryz.underlying5, (fun ks h => by injection h with h; subst h; exact eqOk_int Tryz.underlying5)⟩
theorem rowOk_6 : RowOk Tryz.prog 6 { agg := false, size := 1, bytes := 1, zero := [.int .u8 0], d := .int .u8, ck := some [.u8] } :=
  ⟨Tryz.isAgg6, info_of (z := .int .u8 0) (by kernel_rfl), rfl, fun _ => rfl, rfl, Tryz.underlying6, (fun ks h => by injection h with h; subst h; exact eqOk_int Tryz.underlying6)⟩
theorem rowOk_7 : RowOk Tryz.prog 7 { agg := true, size := 4, bytes := 24, zero := [.int .i64 0, .int .i64 0, .bool false, .int .u8 0], d := .struct [(0, 2), (1, 3), (2, 4), (3, 6)] } :=
  ⟨Tryz.isAgg7, info_of (z := .agg #[.int .i64 0, .int .i64 0, .bool false, .int .u8 0]) (by kernel_rfl), rfl, (fun h => by cases h), rfl, ⟨_, Tryz.underlying7, rfl⟩, (fun ks h => by cases h)⟩
theorem rowOk_8 : RowOk Tryz.prog 8 { agg := true, size := 4, bytes := 24, zero := [.int .i64 0, .int .i64 0, .bool false, .int .u8 0], d := .struct [(0, 2), (1, 3), (2, 4), (3, 6)] } :=
  ⟨Tryz.isAgg8, info_of (z := .agg #[.int .i64 0, .int .i64 0, .bool false, .int .u8 0]) (by kernel_rfl), rfl, (fun h => by cases h), rfl, ⟨_, Tryz.underlying8, rfl⟩, (fun ks h => by cases h)⟩
theorem rowOk_9 : RowOk Tryz.prog 9 { agg := false, size := 1, bytes := 16, zero := [.string ⟨#[]⟩], d := .str } :=
  ⟨Tryz.isAgg9, info_of (z := .string ⟨#[]⟩) (by kernel_rfl), rfl, fun _ => rfl, rfl, Tryz.underlying9, (fun ks h => by cases h)⟩
theorem rowOk_10 : RowOk Tryz.prog 10 { agg := false, size := 1, bytes := 16, zero := [.string ⟨#[]⟩], d := .str } :=
  ⟨Tryz.isAgg10, info_of (z := .string ⟨#[]⟩) (by kernel_rfl), rfl, fun _ => rfl, rfl, Tryz.underlying10, (fun ks h => by cases h)⟩
theorem rowOk_11 : RowOk Tryz.prog 11 { agg := false, size := 1, bytes := 16, zero := [.string ⟨#[]⟩], d := .str } :=
  ⟨Tryz.isAgg11, info_of (z := .string ⟨#[]⟩) (by kernel_rfl), rfl, fun _ => rfl, rfl, Tryz.underlying11, (fun ks h => by cases h)⟩
theorem rowOk_12 : RowOk Tryz.prog 12 { agg := false, size := 1, bytes := 8, zero := [.int .u64 0], d := .int .u64, ck := some [.u64] } :=
  ⟨Tryz.isAgg12, info_of (z := .int .u64 0) (by kernel_rfl), rfl, fun _ => rfl, rfl, Tryz.underlying12, (fun ks h => by injection h with h; subst h; exact eqOk_int Tryz.underlying12)⟩
theorem rowOk_13 : RowOk Tryz.prog 13 { agg := true, size := 2, bytes := 24, zero := [.string ⟨#[]⟩, .int .u64 0], d := .struct [(0, 9), (1, 12)] } :=
  ⟨Tryz.isAgg13, info_of (z := .agg #[.string ⟨#[]⟩, .int .u64 0]) (by kernel_rfl), rfl, (fun h => by cases h), rfl, ⟨_, Tryz.underlying13, rfl⟩, (fun ks h => by cases h)⟩
theorem rowOk_14 : RowOk Tryz.prog 14 { agg := true, size := 2, bytes := 24, zero := [.string ⟨#[]⟩, .int .u64 0], d := .struct [(0, 9), (1, 12)] } :=
  ⟨Tryz.isAgg14, info_of (z := .agg #[.string ⟨#[]⟩, .int .u64 0]) (by kernel_rfl), rfl, (fun h => by cases h), rfl, ⟨_, Tryz.underlying14, rfl⟩, (fun ks h => by cases h)⟩
theorem rowOk_15 : RowOk Tryz.prog 15 { agg := false, size := 1, bytes := 8, zero := [.pointer none], d := .ptr 261 } :=
  ⟨Tryz.isAgg15, info_of (z := .pointer none) (by kernel_rfl), rfl, fun _ => rfl, rfl, Tryz.underlying15, (fun ks h => by cases h)⟩
theorem rowOk_16 : RowOk Tryz.prog 16 { agg := false, size := 1, bytes := 8, zero := [.pointer none], d := .ptr 264 } :=
  ⟨Tryz.isAgg16, info_of (z := .pointer none) (by kernel_rfl), rfl, fun _ => rfl, rfl, Tryz.underlying16, (fun ks h => by cases h)⟩
theorem rowOk_17 : RowOk Tryz.prog 17 { agg := false, size := 1, bytes := 8, zero := [.pointer none], d := .ptr 272 } :=
  ⟨Tryz.isAgg17, info_of (z := .pointer none) (by kernel_rfl), rfl, fun _ => rfl, rfl, Tryz.underlying17, (fun ks h => by cases h)⟩
theorem rowOk_18 : RowOk Tryz.prog 18 { agg := true, size := 1, bytes := 8, zero := [.pointer none], d := .struct [(0, 17)] } :=
  ⟨Tryz.isAgg18, info_of (z := .agg #[.pointer none]) (by kernel_rfl), rfl, (fun h => by cases h), rfl, ⟨_, Tryz.underlying18, rfl⟩, (fun ks h => by cases h)⟩
theorem rowOk_19 : RowOk Tryz.prog 19 { agg := true, size := 1, bytes := 8, zero := [.pointer none], d := .struct [(0, 17)] } :=
  ⟨Tryz.isAgg19, info_of (z := .agg #[.pointer none]) (by kernel_rfl), rfl, (fun h => by cases h), rfl, ⟨_, Tryz.underlying19, rfl⟩, (fun ks h => by cases h)⟩
theorem rowOk_21 : RowOk Tryz.prog 21 { agg := false, size := 1, bytes := 4, zero := [.int .i32 0], d := .int .i32, ck := some [.i32] } :=
  ⟨Tryz.isAgg21, info_of (z := .int .i32 0) (by kernel_rfl), rfl, fun _ => rfl, rfl, Tryz.underlying21, (fun ks h => by injection h with h; subst h; exact eqOk_int Tryz.underlying21)⟩
theorem rowOk_22 : RowOk Tryz.prog 22 { agg := false, size := 1, bytes := 24, zero := [.slice none 0 0], d := .slice 29 } :=
  ⟨Tryz.isAgg22, info_of (z := .slice none 0 0) (by kernel_rfl), rfl, fun _ => rfl, rfl, Tryz.underlying22, (fun ks h => by cases h)⟩
theorem rowOk_23 : RowOk Tryz.prog 23 { agg := false, size := 1, bytes := 24, zero := [.slice none 0 0], d := .slice 44 } :=
  ⟨Tryz.isAgg23, info_of (z := .slice none 0 0) (by kernel_rfl), rfl, fun _ => rfl, rfl, Tryz.underlying23, (fun ks h => by cases h)⟩
theorem rowOk_24 : RowOk Tryz.prog 24 { agg := true, size := 2, bytes := 48, zero := [.slice none 0 0, .slice none 0 0], d := .struct [(0, 22), (1, 23)] } :=
  ⟨Tryz.isAgg24, info_of (z := .agg #[.slice none 0 0, .slice none 0 0]) (by kernel_rfl), rfl, (fun h => by cases h), rfl, ⟨_, Tryz.underlying24, rfl⟩, (fun ks h => by cases h)⟩
theorem rowOk_25 : RowOk Tryz.prog 25 { agg := true, size := 2, bytes := 48, zero := [.slice none 0 0, .slice none 0 0], d := .struct [(0, 22), (1, 23)] } :=
  ⟨Tryz.isAgg25, info_of (z := .agg #[.slice none 0 0, .slice none 0 0]) (by kernel_rfl), rfl, (fun h => by cases h), rfl, ⟨_, Tryz.underlying25, rfl⟩, (fun ks h => by cases h)⟩
theorem rowOk_26 : RowOk Tryz.prog 26 { agg := false, size := 1, bytes := 24, zero := [.slice none 0 0], d := .slice 22 } :=
  ⟨Tryz.isAgg26, info_of (z := .slice none 0 0) (by kernel_rfl), rfl, fun _ => rfl, rfl, Tryz.underlying26, (fun ks h => by cases h)⟩
theorem rowOk_27 : RowOk Tryz.prog 27 { agg := true, size := 3, bytes := 72, zero := [.slice none 0 0, .slice none 0 0, .slice none 0 0], d := .struct [(0, 25), (2, 26)] } :=
  ⟨Tryz.isAgg27, info_of (z := .agg #[.slice none 0 0, .slice none 0 0, .slice none 0 0]) (by kernel_rfl), rfl, (fun h => by cases h), rfl, ⟨_, Tryz.underlying27, rfl⟩, (fun ks h => by cases h)⟩
theorem rowOk_28 : RowOk Tryz.prog 28 { agg := true, size := 3, bytes := 72, zero := [.slice none 0 0, .slice none 0 0, .slice none 0 0], d := .struct [(0, 25), (2, 26)] } :=
  ⟨Tryz.isAgg28, info_of (z := .agg #[.slice none 0 0, .slice none 0 0, .slice none 0 0]) (by kernel_rfl), rfl, (fun h => by cases h), rfl, ⟨_, Tryz.underlying28, rfl⟩, (fun ks h => by cases h)⟩
theorem rowOk_29 : RowOk Tryz.prog 29 { agg := false, size := 1, bytes := 4, zero := [.int .u32 0], d := .int .u32, ck := some [.u32] } :=
  ⟨Tryz.isAgg29, info_of (z := .int .u32 0) (by kernel_rfl), rfl, fun _ => rfl, rfl, Tryz.underlying29, (fun ks h => by injection h with h; subst h; exact eqOk_int Tryz.underlying29)⟩
theorem rowOk_32 : RowOk Tryz.prog 32 { agg := false, size := 1, bytes := 8, zero := [.pointer none], d := .ptr 111 } :=
  ⟨Tryz.isAgg32, info_of (z := .pointer none) (by kernel_rfl), rfl, fun _ => rfl, rfl, Tryz.underlying32, (fun ks h => by cases h)⟩
theorem rowOk_34 : RowOk Tryz.prog 34 { agg := false, size := 1, bytes := 24, zero := [.slice none 0 0], d := .slice 46 } :=
  ⟨Tryz.isAgg34, info_of (z := .slice none 0 0) (by kernel_rfl), rfl, fun _ => rfl, rfl, Tryz.underlying34, (fun ks h => by cases h)⟩
theorem rowOk_43 : RowOk Tryz.prog 43 { agg := true, size := 3, bytes := 12, zero := [.int .u32 0, .int .u32 0, .int .u32 0], d := .struct [(0, 29), (1, 29), (2, 29)], ck := some [.u32, .u32, .u32] } :=
  ⟨Tryz.isAgg43, info_of (z := .agg #[.int .u32 0, .int .u32 0, .int .u32 0]) (by kernel_rfl), rfl, (fun h => by cases h), rfl, ⟨_, Tryz.underlying43, rfl⟩, (fun ks h => by injection h with h; subst h; exact eqOk_43)⟩
theorem rowOk_44 : RowOk Tryz.prog 44 { agg := true, size := 3, bytes := 12, zero := [.int .u32 0, .int .u32 0, .int .u32 0], d := .struct [(0, 29), (1, 29), (2, 29)], ck := some [.u32, .u32, .u32] } :=
  ⟨Tryz.isAgg44, info_of (z := .agg #[.int .u32 0, .int .u32 0, .int .u32 0]) (by kernel_rfl), rfl, (fun h => by cases h), rfl, ⟨_, Tryz.underlying44, rfl⟩, (fun ks h => by injection h with h; subst h; exact eqOk_44)⟩
theorem rowOk_45 : RowOk Tryz.prog 45 { agg := true, size := 3, bytes := 24, zero := [.int .u32 0, .int .i64 0, .int .i64 0], d := .struct [(0, 29), (1, 3), (2, 3)], ck := some [.u32, .i64, .i64] } :=
  ⟨Tryz.isAgg45, info_of (z := .agg #[.int .u32 0, .int .i64 0, .int .i64 0]) (by kernel_rfl), rfl, (fun h => by cases h), rfl, ⟨_, Tryz.underlying45, rfl⟩, (fun ks h => by injection h with h; subst h; exact eqOk_45)⟩
theorem rowOk_46 : RowOk Tryz.prog 46 { agg := true, size := 3, bytes := 24, zero := [.int .u32 0, .int .i64 0, .int .i64 0], d := .struct [(0, 29), (1, 3), (2, 3)], ck := some [.u32, .i64, .i64] } :=
  ⟨Tryz.isAgg46, info_of (z := .agg #[.int .u32 0, .int .i64 0, .int .i64 0]) (by kernel_rfl), rfl, (fun h => by cases h), rfl, ⟨_, Tryz.underlying46, rfl⟩, (fun ks h => by injection h with h; subst h; exact eqOk_46)⟩
theorem rowOk_47 : RowOk Tryz.prog 47 { agg := false, size := 1, bytes := 24, zero := [.slice none 0 0], d := .slice 3 } :=
  ⟨Tryz.isAgg47, info_of (z := .slice none 0 0) (by kernel_rfl), rfl, fun _ => rfl, rfl, Tryz.underlying47, (fun ks h => by cases h)⟩
theorem rowOk_51 : RowOk Tryz.prog 51 { agg := true, size := 6, bytes := 32, zero := [.int .i64 0, .int .u32 0, .int .u32 0, .int .u32 0, .int .u32 0, .int .u32 0], d := .struct [(0, 3), (1, 29), (2, 29), (3, 29), (4, 29), (5, 29)], ck := some [.i64, .u32, .u32, .u32, .u32, .u32] } :=
  ⟨Tryz.isAgg51, info_of (z := .agg #[.int .i64 0, .int .u32 0, .int .u32 0, .int .u32 0, .int .u32 0, .int .u32 0]) (by kernel_rfl), rfl, (fun h => by cases h), rfl, ⟨_, Tryz.underlying51, rfl⟩, (fun ks h => by injection h with h; subst h; exact eqOk_51)⟩
theorem rowOk_52 : RowOk Tryz.prog 52 { agg := true, size := 6, bytes := 32, zero := [.int .i64 0, .int .u32 0, .int .u32 0, .int .u32 0, .int .u32 0, .int .u32 0], d := .struct [(0, 3), (1, 29), (2, 29), (3, 29), (4, 29), (5, 29)], ck := some [.i64, .u32, .u32, .u32, .u32, .u32] } :=
  ⟨Tryz.isAgg52, info_of (z := .agg #[.int .i64 0, .int .u32 0, .int .u32 0, .int .u32 0, .int .u32 0, .int .u32 0]) (by kernel_rfl), rfl, (fun h => by cases h), rfl, ⟨_, Tryz.underlying52, rfl⟩, (fun ks h => by injection h with h; subst h; exact eqOk_52)⟩
theorem rowOk_56 : RowOk Tryz.prog 56 { agg := false, size := 1, bytes := 24, zero := [.slice none 0 0], d := .slice 59 } :=
  ⟨Tryz.isAgg56, info_of (z := .slice none 0 0) (by kernel_rfl), rfl, fun _ => rfl, rfl, Tryz.underlying56, (fun ks h => by cases h)⟩
theorem rowOk_57 : RowOk Tryz.prog 57 { agg := false, size := 1, bytes := 8, zero := [.map none], d := .map 3 3 } :=
  ⟨Tryz.isAgg57, info_of (z := .map none) (by kernel_rfl), rfl, fun _ => rfl, rfl, Tryz.underlying57, (fun ks h => by cases h)⟩
theorem rowOk_58 : RowOk Tryz.prog 58 { agg := false, size := 1, bytes := 8, zero := [.map none], d := .map 3 3 } :=
  ⟨Tryz.isAgg58, info_of (z := .map none) (by kernel_rfl), rfl, fun _ => rfl, rfl, Tryz.underlying58, (fun ks h => by cases h)⟩
theorem rowOk_59 : RowOk Tryz.prog 59 { agg := false, size := 1, bytes := 2, zero := [.int .i16 0], d := .int .i16, ck := some [.i16] } :=
  ⟨Tryz.isAgg59, info_of (z := .int .i16 0) (by kernel_rfl), rfl, fun _ => rfl, rfl, Tryz.underlying59, (fun ks h => by injection h with h; subst h; exact eqOk_int Tryz.underlying59)⟩
theorem rowOk_67 : RowOk Tryz.prog 67 { agg := false, size := 1, bytes := 8, zero := [.map none], d := .map 29 3 } :=
  ⟨Tryz.isAgg67, info_of (z := .map none) (by kernel_rfl), rfl, fun _ => rfl, rfl, Tryz.underlying67, (fun ks h => by cases h)⟩
theorem rowOk_68 : RowOk Tryz.prog 68 { agg := false, size := 1, bytes := 8, zero := [.map none], d := .map 3 4 } :=
  ⟨Tryz.isAgg68, info_of (z := .map none) (by kernel_rfl), rfl, fun _ => rfl, rfl, Tryz.underlying68, (fun ks h => by cases h)⟩
theorem rowOk_89 : RowOk Tryz.prog 89 { agg := true, size := 7, bytes := 56, zero := [.map none, .int .i64 0, .int .i64 0, .int .i64 0, .int .i64 0, .int .i64 0, .int .i64 0], d := .struct [(0, 58), (1, 3), (2, 3), (3, 3), (4, 3), (5, 3), (6, 3)] } :=
  ⟨Tryz.isAgg89, info_of (z := .agg #[.map none, .int .i64 0, .int .i64 0, .int .i64 0, .int .i64 0, .int .i64 0, .int .i64 0]) (by kernel_rfl), rfl, (fun h => by cases h), rfl, ⟨_, Tryz.underlying89, rfl⟩, (fun ks h => by cases h)⟩
theorem rowOk_90 : RowOk Tryz.prog 90 { agg := true, size := 7, bytes := 56, zero := [.map none, .int .i64 0, .int .i64 0, .int .i64 0, .int .i64 0, .int .i64 0, .int .i64 0], d := .struct [(0, 58), (1, 3), (2, 3), (3, 3), (4, 3), (5, 3), (6, 3)] } :=
  ⟨Tryz.isAgg90, info_of (z := .agg #[.map none, .int .i64 0, .int .i64 0, .int .i64 0, .int .i64 0, .int .i64 0, .int .i64 0]) (by kernel_rfl), rfl, (fun h => by cases h), rfl, ⟨_, Tryz.underlying90, rfl⟩, (fun ks h => by cases h)⟩
theorem rowOk_103 : RowOk Tryz.prog 103 { agg := false, size := 1, bytes := 24, zero := [.slice none 0 0], d := .slice 23 } :=
  ⟨Tryz.isAgg103, info_of (z := .slice none 0 0) (by kernel_rfl), rfl, fun _ => rfl, rfl, Tryz.underlying103, (fun ks h => by cases h)⟩
theorem rowOk_105 : RowOk Tryz.prog 105 { agg := false, size := 1, bytes := 24, zero := [.slice none 0 0], d := .slice 106 } :=
  ⟨Tryz.isAgg105, info_of (z := .slice none 0 0) (by kernel_rfl), rfl, fun _ => rfl, rfl, Tryz.underlying105, (fun ks h => by cases h)⟩
theorem rowOk_106 : RowOk Tryz.prog 106 { agg := false, size := 1, bytes := 8, zero := [.map none], d := .map 29 4 } :=
  ⟨Tryz.isAgg106, info_of (z := .map none) (by kernel_rfl), rfl, fun _ => rfl, rfl, Tryz.underlying106, (fun ks h => by cases h)⟩
theorem rowOk_109 : RowOk Tryz.prog 109 { agg := false, size := 1, bytes := 8, zero := [.map none], d := .map 29 22 } :=
  ⟨Tryz.isAgg109, info_of (z := .map none) (by kernel_rfl), rfl, fun _ => rfl, rfl, Tryz.underlying109, (fun ks h => by cases h)⟩
theorem rowOk_110 : RowOk Tryz.prog 110 { agg := true, size := 3, bytes := 56, zero := [.slice none 0 0, .slice none 0 0, .map none], d := .struct [(0, 23), (1, 26), (2, 67)] } :=
  ⟨Tryz.isAgg110, info_of (z := .agg #[.slice none 0 0, .slice none 0 0, .map none]) (by kernel_rfl), rfl, (fun h => by cases h), rfl, ⟨_, Tryz.underlying110, rfl⟩, (fun ks h => by cases h)⟩
theorem rowOk_111 : RowOk Tryz.prog 111 { agg := true, size := 3, bytes := 56, zero := [.slice none 0 0, .slice none 0 0, .map none], d := .struct [(0, 23), (1, 26), (2, 67)] } :=
  ⟨Tryz.isAgg111, info_of (z := .agg #[.slice none 0 0, .slice none 0 0, .map none]) (by kernel_rfl), rfl, (fun h => by cases h), rfl, ⟨_, Tryz.underlying111, rfl⟩, (fun ks h => by cases h)⟩
theorem rowOk_114 : RowOk Tryz.prog 114 { agg := false, size := 1, bytes := 8, zero := [.nilFunc], d := .other } :=
  ⟨Tryz.isAgg114, info_of (z := .nilFunc) (by kernel_rfl), rfl, fun _ => rfl, rfl, trivial, (fun ks h => by cases h)⟩
theorem rowOk_116 : RowOk Tryz.prog 116 { agg := false, size := 1, bytes := 8, zero := [.int .i64 0], d := .int .i64, ck := some [.i64] } :=
  ⟨Tryz.isAgg116, info_of (z := .int .i64 0) (by kernel_rfl), rfl, fun _ => rfl, rfl, Tryz.underlying116, (fun ks h => by injection h with h; subst h; exact eqOk_int Tryz.underlying116)⟩
theorem rowOk_123 : RowOk Tryz.prog 123 { agg := false, size := 1, bytes := 8, zero := [.int .u64 0], d := .int .u64, ck := some [.u64] } :=
  ⟨Tryz.isAgg123, info_of (z := .int .u64 0) (by kernel_rfl), rfl, fun _ => rfl, rfl, Tryz.underlying123, (fun ks h => by injection h with h; subst h; exact eqOk_int Tryz.underlying123)⟩
theorem rowOk_124 : RowOk Tryz.prog 124 { agg := false, size := 1, bytes := 8, zero := [.map none], d := .map 3 125 } :=
  ⟨Tryz.isAgg124, info_of (z := .map none) (by kernel_rfl), rfl, fun _ => rfl, rfl, Tryz.underlying124, (fun ks h => by cases h)⟩
theorem rowOk_125 : RowOk Tryz.prog 125 { agg := true, size := 0, bytes := 0, zero := [], d := .struct [] } :=
  ⟨Tryz.isAgg125, info_of (z := .agg #[]) (by kernel_rfl), rfl, (fun h => by cases h), rfl, ⟨_, Tryz.underlying125, rfl⟩, (fun ks h => by cases h)⟩
theorem rowOk_127 : RowOk Tryz.prog 127 { agg := false, size := 1, bytes := 8, zero := [.map none], d := .map 128 3 } :=
  ⟨Tryz.isAgg127, info_of (z := .map none) (by kernel_rfl), rfl, fun _ => rfl, rfl, Tryz.underlying127, (fun ks h => by cases h)⟩
theorem rowOk_128 : RowOk Tryz.prog 128 { agg := true, size := 2, bytes := 8, zero := [.int .u32 0, .int .u32 0], d := .arr 2 29 } :=
  ⟨Tryz.isAgg128, info_of (z := .agg #[.int .u32 0, .int .u32 0]) (by kernel_rfl), rfl, (fun h => by cases h), rfl, Tryz.underlying128, (fun ks h => by cases h)⟩
theorem rowOk_133 : RowOk Tryz.prog 133 { agg := false, size := 1, bytes := 8, zero := [.map none], d := .map 29 125 } :=
  ⟨Tryz.isAgg133, info_of (z := .map none) (by kernel_rfl), rfl, fun _ => rfl, rfl, Tryz.underlying133, (fun ks h => by cases h)⟩
theorem rowOk_143 : RowOk Tryz.prog 143 { agg := false, size := 1, bytes := 8, zero := [.pointer none], d := .ptr 146 } :=
  ⟨Tryz.isAgg143, info_of (z := .pointer none) (by kernel_rfl), rfl, fun _ => rfl, rfl, Tryz.underlying143, (fun ks h => by cases h)⟩
theorem rowOk_144 : RowOk Tryz.prog 144 { agg := false, size := 1, bytes := 8, zero := [.map none], d := .map 29 47 } :=
  ⟨Tryz.isAgg144, info_of (z := .map none) (by kernel_rfl), rfl, fun _ => rfl, rfl, Tryz.underlying144, (fun ks h => by cases h)⟩
theorem rowOk_145 : RowOk Tryz.prog 145 { agg := true, size := 6, bytes := 96, zero := [.slice none 0 0, .map none, .map none, .map none, .slice none 0 0, .slice none 0 0], d := .struct [(0, 23), (1, 144), (2, 67), (3, 67), (4, 47), (5, 103)] } :=
  ⟨Tryz.isAgg145, info_of (z := .agg #[.slice none 0 0, .map none, .map none, .map none, .slice none 0 0, .slice none 0 0]) (by kernel_rfl), rfl, (fun h => by cases h), rfl, ⟨_, Tryz.underlying145, rfl⟩, (fun ks h => by cases h)⟩
theorem rowOk_146 : RowOk Tryz.prog 146 { agg := true, size := 6, bytes := 96, zero := [.slice none 0 0, .map none, .map none, .map none, .slice none 0 0, .slice none 0 0], d := .struct [(0, 23), (1, 144), (2, 67), (3, 67), (4, 47), (5, 103)] } :=
  ⟨Tryz.isAgg146, info_of (z := .agg #[.slice none 0 0, .map none, .map none, .map none, .slice none 0 0, .slice none 0 0]) (by kernel_rfl), rfl, (fun h => by cases h), rfl, ⟨_, Tryz.underlying146, rfl⟩, (fun ks h => by cases h)⟩
theorem rowOk_153 : RowOk Tryz.prog 153 { agg := false, size := 1, bytes := 8, zero := [.nilFunc], d := .other } :=
  ⟨Tryz.isAgg153, info_of (z := .nilFunc) (by kernel_rfl), rfl, fun _ => rfl, rfl, trivial, (fun ks h => by cases h)⟩
theorem rowOk_155 : RowOk Tryz.prog 155 { agg := false, size := 1, bytes := 8, zero := [.map none], d := .map 29 29 } :=
  ⟨Tryz.isAgg155, info_of (z := .map none) (by kernel_rfl), rfl, fun _ => rfl, rfl, Tryz.underlying155, (fun ks h => by cases h)⟩
theorem rowOk_159 : RowOk Tryz.prog 159 { agg := false, size := 1, bytes := 24, zero := [.slice none 0 0], d := .slice 52 } :=
  ⟨Tryz.isAgg159, info_of (z := .slice none 0 0) (by kernel_rfl), rfl, fun _ => rfl, rfl, Tryz.underlying159, (fun ks h => by cases h)⟩
theorem rowOk_160 : RowOk Tryz.prog 160 { agg := false, size := 1, bytes := 8, zero := [.pointer none], d := .ptr 163 } :=
  ⟨Tryz.isAgg160, info_of (z := .pointer none) (by kernel_rfl), rfl, fun _ => rfl, rfl, Tryz.underlying160, (fun ks h => by cases h)⟩
theorem rowOk_162 : RowOk Tryz.prog 162 { agg := true, size := 3, bytes := 72, zero := [.slice none 0 0, .slice none 0 0, .slice none 0 0], d := .struct [(0, 28)] } :=
  ⟨Tryz.isAgg162, info_of (z := .agg #[.slice none 0 0, .slice none 0 0, .slice none 0 0]) (by kernel_rfl), rfl, (fun h => by cases h), rfl, ⟨_, Tryz.underlying162, rfl⟩, (fun ks h => by cases h)⟩
theorem rowOk_163 : RowOk Tryz.prog 163 { agg := true, size := 3, bytes := 72, zero := [.slice none 0 0, .slice none 0 0, .slice none 0 0], d := .struct [(0, 28)] } :=
  ⟨Tryz.isAgg163, info_of (z := .agg #[.slice none 0 0, .slice none 0 0, .slice none 0 0]) (by kernel_rfl), rfl, (fun h => by cases h), rfl, ⟨_, Tryz.underlying163, rfl⟩, (fun ks h => by cases h)⟩
theorem rowOk_166 : RowOk Tryz.prog 166 { agg := false, size := 1, bytes := 8, zero := [.int .i64 0], d := .int .i64, ck := some [.i64] } :=
  ⟨Tryz.isAgg166, info_of (z := .int .i64 0) (by kernel_rfl), rfl, fun _ => rfl, rfl, Tryz.underlying166, (fun ks h => by injection h with h; subst h; exact eqOk_int Tryz.underlying166)⟩
theorem rowOk_174 : RowOk Tryz.prog 174 { agg := false, size := 1, bytes := 8, zero := [.int .u64 0], d := .int .u64, ck := some [.u64] } :=
  ⟨Tryz.isAgg174, info_of (z := .int .u64 0) (by kernel_rfl), rfl, fun _ => rfl, rfl, Tryz.underlying174, (fun ks h => by injection h with h; subst h; exact eqOk_int Tryz.underlying174)⟩
theorem rowOk_196 : RowOk Tryz.prog 196 { agg := false, size := 1, bytes := 8, zero := [.int .u64 0], d := .int .u64, ck := some [.u64] } :=
  ⟨Tryz.isAgg196, info_of (z := .int .u64 0) (by kernel_rfl), rfl, fun _ => rfl, rfl, Tryz.underlying196, (fun ks h => by injection h with h; subst h; exact eqOk_int Tryz.underlying196)⟩
theorem rowOk_200 : RowOk Tryz.prog 200 { agg := false, size := 1, bytes := 8, zero := [.pointer none], d := .ptr 3 } :=
  ⟨Tryz.isAgg200, info_of (z := .pointer none) (by kernel_rfl), rfl, fun _ => rfl, rfl, Tryz.underlying200, (fun ks h => by cases h)⟩
theorem rowOk_226 : RowOk Tryz.prog 226 { agg := false, size := 1, bytes := 8, zero := [.pointer none], d := .ptr 196 } :=
  ⟨Tryz.isAgg226, info_of (z := .pointer none) (by kernel_rfl), rfl, fun _ => rfl, rfl, Tryz.underlying226, (fun ks h => by cases h)⟩
theorem rowOk_260 : RowOk Tryz.prog 260 { agg := true, size := 4, bytes := 40, zero := [.pointer none, .pointer none, .pointer none, .string ⟨#[]⟩], d := .struct [(0, 17), (1, 17), (2, 17), (3, 9)] } :=
  ⟨Tryz.isAgg260, info_of (z := .agg #[.pointer none, .pointer none, .pointer none, .string ⟨#[]⟩]) (by kernel_rfl), rfl, (fun h => by cases h), rfl, ⟨_, Tryz.underlying260, rfl⟩, (fun ks h => by cases h)⟩
theorem rowOk_261 : RowOk Tryz.prog 261 { agg := true, size := 4, bytes := 40, zero := [.pointer none, .pointer none, .pointer none, .string ⟨#[]⟩], d := .struct [(0, 17), (1, 17), (2, 17), (3, 9)] } :=
  ⟨Tryz.isAgg261, info_of (z := .agg #[.pointer none, .pointer none, .pointer none, .string ⟨#[]⟩]) (by kernel_rfl), rfl, (fun h => by cases h), rfl, ⟨_, Tryz.underlying261, rfl⟩, (fun ks h => by cases h)⟩
theorem rowOk_262 : RowOk Tryz.prog 262 { agg := true, size := 0, bytes := 0, zero := [], d := .arr 0 16 } :=
  ⟨Tryz.isAgg262, info_of (z := .agg #[]) (by kernel_rfl), rfl, (fun h => by cases h), rfl, Tryz.underlying262, (fun ks h => by cases h)⟩
theorem rowOk_263 : RowOk Tryz.prog 263 { agg := true, size := 0, bytes := 0, zero := [], d := .struct [(0, 262)] } :=
  ⟨Tryz.isAgg263, info_of (z := .agg #[]) (by kernel_rfl), rfl, (fun h => by cases h), rfl, ⟨_, Tryz.underlying263, rfl⟩, (fun ks h => by cases h)⟩
theorem rowOk_264 : RowOk Tryz.prog 264 { agg := true, size := 0, bytes := 0, zero := [], d := .struct [(0, 262)] } :=
  ⟨Tryz.isAgg264, info_of (z := .agg #[]) (by kernel_rfl), rfl, (fun h => by cases h), rfl, ⟨_, Tryz.underlying264, rfl⟩, (fun ks h => by cases h)⟩
theorem rowOk_265 : RowOk Tryz.prog 265 { agg := false, size := 1, bytes := 1, zero := [.int .u8 0], d := .int .u8, ck := some [.u8] } :=
  ⟨Tryz.isAgg265, info_of (z := .int .u8 0) (by kernel_rfl), rfl, fun _ => rfl, rfl, Tryz.underlying265, (fun ks h => by injection h with h; subst h; exact eqOk_int Tryz.underlying265)⟩
theorem rowOk_266 : RowOk Tryz.prog 266 { agg := false, size := 1, bytes := 1, zero := [.int .u8 0], d := .int .u8, ck := some [.u8] } :=
  ⟨Tryz.isAgg266, info_of (z := .int .u8 0) (by kernel_rfl), rfl, fun _ => rfl, rfl, Tryz.underlying266, (fun ks h => by injection h with h; subst h; exact eqOk_int Tryz.underlying266)⟩
theorem rowOk_268 : RowOk Tryz.prog 268 { agg := false, size := 1, bytes := 8, zero := [.pointer none], d := .ptr 5 } :=
  ⟨Tryz.isAgg268, info_of (z := .pointer none) (by kernel_rfl), rfl, fun _ => rfl, rfl, Tryz.underlying268, (fun ks h => by cases h)⟩
theorem rowOk_269 : RowOk Tryz.prog 269 { agg := false, size := 1, bytes := 4, zero := [.int .i32 0], d := .int .i32, ck := some [.i32] } :=
  ⟨Tryz.isAgg269, info_of (z := .int .i32 0) (by kernel_rfl), rfl, fun _ => rfl, rfl, Tryz.underlying269, (fun ks h => by injection h with h; subst h; exact eqOk_int Tryz.underlying269)⟩
theorem rowOk_270 : RowOk Tryz.prog 270 { agg := false, size := 1, bytes := 4, zero := [.int .i32 0], d := .int .i32, ck := some [.i32] } :=
  ⟨Tryz.isAgg270, info_of (z := .int .i32 0) (by kernel_rfl), rfl, fun _ => rfl, rfl, Tryz.underlying270, (fun ks h => by injection h with h; subst h; exact eqOk_int Tryz.underlying270)⟩
theorem rowOk_271 : RowOk Tryz.prog 271 { agg := true, size := 11, bytes := 48, zero := [.int .u64 0, .int .u64 0, .int .u32 0, .int .u8 0, .int .u8 0, .int .u8 0, .int .u8 0, .nilFunc, .pointer none, .int .i32 0, .int .i32 0], d := .struct [(0, 12), (1, 12), (2, 29), (3, 265), (4, 5), (5, 5), (6, 266), (7, 267), (8, 268), (9, 269), (10, 270)] } :=
  ⟨Tryz.isAgg271, info_of (z := .agg #[.int .u64 0, .int .u64 0, .int .u32 0, .int .u8 0, .int .u8 0, .int .u8 0, .int .u8 0, .nilFunc, .pointer none, .int .i32 0, .int .i32 0]) (by kernel_rfl), rfl, (fun h => by cases h), rfl, ⟨_, Tryz.underlying271, rfl⟩, (fun ks h => by cases h)⟩
theorem rowOk_272 : RowOk Tryz.prog 272 { agg := true, size := 11, bytes := 48, zero := [.int .u64 0, .int .u64 0, .int .u32 0, .int .u8 0, .int .u8 0, .int .u8 0, .int .u8 0, .nilFunc, .pointer none, .int .i32 0, .int .i32 0], d := .struct [(0, 12), (1, 12), (2, 29), (3, 265), (4, 5), (5, 5), (6, 266), (7, 267), (8, 268), (9, 269), (10, 270)] } :=
  ⟨Tryz.isAgg272, info_of (z := .agg #[.int .u64 0, .int .u64 0, .int .u32 0, .int .u8 0, .int .u8 0, .int .u8 0, .int .u8 0, .nilFunc, .pointer none, .int .i32 0, .int .i32 0]) (by kernel_rfl), rfl, (fun h => by cases h), rfl, ⟨_, Tryz.underlying272, rfl⟩, (fun ks h => by cases h)⟩
theorem tabOk : TabOk Tryz.prog tab := tabOk_of tabL ⟨rowOk_2, rowOk_3, rowOk_4, rowOk_5, rowOk_6, rowOk_7, rowOk_8, rowOk_9, rowOk_10, rowOk_11, rowOk_12, rowOk_13, rowOk_14, rowOk_15, rowOk_16, rowOk_17, rowOk_18, rowOk_19, rowOk_21, rowOk_22, rowOk_23, rowOk_24, rowOk_25, rowOk_26, rowOk_27, rowOk_28, rowOk_29, rowOk_32, rowOk_34, rowOk_43, rowOk_44, rowOk_45, rowOk_46, rowOk_47, rowOk_51, rowOk_52, rowOk_56, rowOk_57, rowOk_58, rowOk_59, rowOk_67, rowOk_68, rowOk_89, rowOk_90, rowOk_103, rowOk_105, rowOk_106, rowOk_109, rowOk_110, rowOk_111, rowOk_114, rowOk_116, rowOk_123, rowOk_124, rowOk_125, rowOk_127, rowOk_128, rowOk_133, rowOk_143, rowOk_144, rowOk_145, rowOk_146, rowOk_153, rowOk_155, rowOk_159, rowOk_160, rowOk_162, rowOk_163, rowOk_166, rowOk_174, rowOk_196, rowOk_200, rowOk_226, rowOk_260, rowOk_261, rowOk_262, rowOk_263, rowOk_264, rowOk_265, rowOk_266, rowOk_268, rowOk_269, rowOk_270, rowOk_271, rowOk_272, trivial⟩
end Go.Proofs.YtaiakdhcajibnaaGreat.Aw
