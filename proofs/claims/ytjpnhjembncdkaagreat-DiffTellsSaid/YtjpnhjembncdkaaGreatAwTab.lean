/- The types of this seat's translation, as a table, and that the loaded program has them so. Written by a program (gentab.py). -/
import Derived.Test.YtjpnhjembncdkaaGreatAwDraw
import Derived.Test.YtjpnhjembncdkaaGreatAwArr
import Derived.Test.YtjpnhjembncdkaaGreatProg
import Derived.KernelRfl
import Derived.Tactics
import Derived.Laws.StructEq
namespace Go.Proofs.YtjpnhjembncdkaaGreat.Aw
open Go Go.RowKit
set_option linter.unusedSimpArgs false
set_option linter.unusedVariables false
def tabL : List (Nat × TRow) := [
  (2, { agg := false, size := 1, bytes := 8, zero := [.int .i64 0], d := .int .i64, ck := some [.i64] }),
  (3, { agg := false, size := 1, bytes := 8, zero := [.int .i64 0], d := .int .i64, ck := some [.i64] }),
  (4, { agg := false, size := 1, bytes := 1, zero := [.bool false], d := .bool }),
  (5, { agg := false, size := 1, bytes := 1, zero := [.int .u8 0], d := .int .u8, ck := some [.u8] }),
  (6, { agg := false, size := 1, bytes := 1, zero := [.int .u8 0], d := .int .u8, ck := some [.u8] }),
  (7, { agg := true, size := 4, bytes := 24, zero := [.int .i64 0, .int .i64 0, .bool false, .int .u8 0], d := .struct [(0, 2), (1, 3), (2, 4), (3, 6)] }),
  (8, { agg := true, size := 4, bytes := 24, zero := [.int .i64 0, .int .i64 0, .bool false, .int .u8 0], d := .struct [(0, 2), (1, 3), (2, 4), (3, 6)] }),
  (9, { agg := false, size := 1, bytes := 16, zero := [.string ⟨#[]⟩], d := .str }),
  (10, { agg := false, size := 1, bytes := 16, zero := [.string ⟨#[]⟩], d := .str }),
  (11, { agg := false, size := 1, bytes := 16, zero := [.string ⟨#[]⟩], d := .str }),
  (12, { agg := false, size := 1, bytes := 8, zero := [.int .u64 0], d := .int .u64, ck := some [.u64] }),
  (13, { agg := true, size := 2, bytes := 24, zero := [.string ⟨#[]⟩, .int .u64 0], d := .struct [(0, 9), (1, 12)] }),
  (14, { agg := true, size := 2, bytes := 24, zero := [.string ⟨#[]⟩, .int .u64 0], d := .struct [(0, 9), (1, 12)] }),
  (15, { agg := false, size := 1, bytes := 8, zero := [.pointer none], d := .ptr 295 }),
  (16, { agg := false, size := 1, bytes := 8, zero := [.pointer none], d := .ptr 298 }),
  (17, { agg := false, size := 1, bytes := 8, zero := [.pointer none], d := .ptr 305 }),
  (18, { agg := true, size := 1, bytes := 8, zero := [.pointer none], d := .struct [(0, 17)] }),
  (19, { agg := true, size := 1, bytes := 8, zero := [.pointer none], d := .struct [(0, 17)] }),
  (21, { agg := false, size := 1, bytes := 4, zero := [.int .i32 0], d := .int .i32, ck := some [.i32] }),
  (22, { agg := false, size := 1, bytes := 24, zero := [.slice none 0 0], d := .slice 32 }),
  (23, { agg := false, size := 1, bytes := 24, zero := [.slice none 0 0], d := .slice 34 }),
  (24, { agg := true, size := 2, bytes := 48, zero := [.slice none 0 0, .slice none 0 0], d := .struct [(0, 22), (1, 23)] }),
  (25, { agg := true, size := 2, bytes := 48, zero := [.slice none 0 0, .slice none 0 0], d := .struct [(0, 22), (1, 23)] }),
  (28, { agg := false, size := 1, bytes := 24, zero := [.slice none 0 0], d := .slice 23 }),
  (30, { agg := false, size := 1, bytes := 24, zero := [.slice none 0 0], d := .slice 31 }),
  (31, { agg := false, size := 1, bytes := 8, zero := [.map none], d := .map 32 4 }),
  (32, { agg := false, size := 1, bytes := 4, zero := [.int .u32 0], d := .int .u32, ck := some [.u32] }),
  (33, { agg := true, size := 3, bytes := 12, zero := [.int .u32 0, .int .u32 0, .int .u32 0], d := .struct [(0, 32), (1, 32), (2, 32)], ck := some [.u32, .u32, .u32] }),
  (34, { agg := true, size := 3, bytes := 12, zero := [.int .u32 0, .int .u32 0, .int .u32 0], d := .struct [(0, 32), (1, 32), (2, 32)], ck := some [.u32, .u32, .u32] }),
  (36, { agg := false, size := 1, bytes := 24, zero := [.slice none 0 0], d := .slice 22 }),
  (40, { agg := true, size := 3, bytes := 72, zero := [.slice none 0 0, .slice none 0 0, .slice none 0 0], d := .struct [(0, 25), (2, 36)] }),
  (41, { agg := true, size := 3, bytes := 72, zero := [.slice none 0 0, .slice none 0 0, .slice none 0 0], d := .struct [(0, 25), (2, 36)] }),
  (43, { agg := false, size := 1, bytes := 8, zero := [.int .i64 0], d := .int .i64, ck := some [.i64] }),
  (46, { agg := true, size := 6, bytes := 32, zero := [.int .i64 0, .int .u32 0, .int .u32 0, .int .u32 0, .int .u32 0, .int .u32 0], d := .struct [(0, 3), (1, 32), (2, 32), (3, 32), (4, 32), (5, 32)], ck := some [.i64, .u32, .u32, .u32, .u32, .u32] }),
  (47, { agg := true, size := 6, bytes := 32, zero := [.int .i64 0, .int .u32 0, .int .u32 0, .int .u32 0, .int .u32 0, .int .u32 0], d := .struct [(0, 3), (1, 32), (2, 32), (3, 32), (4, 32), (5, 32)], ck := some [.i64, .u32, .u32, .u32, .u32, .u32] }),
  (54, { agg := false, size := 1, bytes := 24, zero := [.slice none 0 0], d := .slice 47 }),
  (69, { agg := false, size := 1, bytes := 8, zero := [.int .u64 0], d := .int .u64, ck := some [.u64] }),
  (74, { agg := true, size := 1, bytes := 16, zero := [.string ⟨#[]⟩], d := .struct [(0, 9)] }),
  (75, { agg := true, size := 1, bytes := 16, zero := [.string ⟨#[]⟩], d := .struct [(0, 9)] }),
  (78, { agg := false, size := 1, bytes := 8, zero := [.pointer none], d := .ptr 152 }),
  (80, { agg := false, size := 1, bytes := 8, zero := [.pointer none], d := .ptr 82 }),
  (81, { agg := true, size := 2, bytes := 24, zero := [.string ⟨#[]⟩, .int .i64 0], d := .struct [(0, 9), (1, 3)] }),
  (82, { agg := true, size := 2, bytes := 24, zero := [.string ⟨#[]⟩, .int .i64 0], d := .struct [(0, 9), (1, 3)] }),
  (89, { agg := false, size := 1, bytes := 8, zero := [.pointer none], d := .ptr 94 }),
  (90, { agg := false, size := 1, bytes := 8, zero := [.map none], d := .map 32 92 }),
  (91, { agg := false, size := 1, bytes := 8, zero := [.map none], d := .map 32 3 }),
  (92, { agg := false, size := 1, bytes := 24, zero := [.slice none 0 0], d := .slice 3 }),
  (93, { agg := true, size := 6, bytes := 96, zero := [.slice none 0 0, .map none, .map none, .map none, .slice none 0 0, .slice none 0 0], d := .struct [(0, 23), (1, 90), (2, 91), (3, 91), (4, 92), (5, 28)] }),
  (94, { agg := true, size := 6, bytes := 96, zero := [.slice none 0 0, .map none, .map none, .map none, .slice none 0 0, .slice none 0 0], d := .struct [(0, 23), (1, 90), (2, 91), (3, 91), (4, 92), (5, 28)] }),
  (100, { agg := false, size := 1, bytes := 8, zero := [.nilFunc], d := .func }),
  (102, { agg := false, size := 1, bytes := 8, zero := [.nilFunc], d := .func }),
  (103, { agg := false, size := 1, bytes := 8, zero := [.map none], d := .map 32 22 }),
  (109, { agg := false, size := 1, bytes := 8, zero := [.pointer none], d := .ptr 112 }),
  (111, { agg := true, size := 3, bytes := 72, zero := [.slice none 0 0, .slice none 0 0, .slice none 0 0], d := .struct [(0, 41)] }),
  (112, { agg := true, size := 3, bytes := 72, zero := [.slice none 0 0, .slice none 0 0, .slice none 0 0], d := .struct [(0, 41)] }),
  (114, { agg := false, size := 1, bytes := 8, zero := [.map none], d := .map 32 32 }),
  (134, { agg := false, size := 1, bytes := 24, zero := [.slice none 0 0], d := .slice 4 }),
  (141, { agg := true, size := 32, bytes := 32, zero := [.int .u8 0, .int .u8 0, .int .u8 0, .int .u8 0, .int .u8 0, .int .u8 0, .int .u8 0, .int .u8 0, .int .u8 0, .int .u8 0, .int .u8 0, .int .u8 0, .int .u8 0, .int .u8 0, .int .u8 0, .int .u8 0, .int .u8 0, .int .u8 0, .int .u8 0, .int .u8 0, .int .u8 0, .int .u8 0, .int .u8 0, .int .u8 0, .int .u8 0, .int .u8 0, .int .u8 0, .int .u8 0, .int .u8 0, .int .u8 0, .int .u8 0, .int .u8 0], d := .arr 32 5 }),
  (142, { agg := true, size := 32, bytes := 32, zero := [.int .u8 0, .int .u8 0, .int .u8 0, .int .u8 0, .int .u8 0, .int .u8 0, .int .u8 0, .int .u8 0, .int .u8 0, .int .u8 0, .int .u8 0, .int .u8 0, .int .u8 0, .int .u8 0, .int .u8 0, .int .u8 0, .int .u8 0, .int .u8 0, .int .u8 0, .int .u8 0, .int .u8 0, .int .u8 0, .int .u8 0, .int .u8 0, .int .u8 0, .int .u8 0, .int .u8 0, .int .u8 0, .int .u8 0, .int .u8 0, .int .u8 0, .int .u8 0], d := .arr 32 5 }),
  (149, { agg := true, size := 1, bytes := 8, zero := [.int .i64 0], d := .struct [(0, 43)], ck := some [.i64] }),
  (150, { agg := true, size := 1, bytes := 8, zero := [.int .i64 0], d := .struct [(0, 43)], ck := some [.i64] }),
  (151, { agg := true, size := 2, bytes := 24, zero := [.int .i64 0, .string ⟨#[]⟩], d := .struct [(0, 150), (1, 9)] }),
  (152, { agg := true, size := 2, bytes := 24, zero := [.int .i64 0, .string ⟨#[]⟩], d := .struct [(0, 150), (1, 9)] }),
  (160, { agg := false, size := 1, bytes := 8, zero := [.int .u64 0], d := .int .u64, ck := some [.u64] }),
  (189, { agg := false, size := 1, bytes := 24, zero := [.slice none 0 0], d := .slice 5 }),
  (190, { agg := false, size := 1, bytes := 8, zero := [.pointer none], d := .ptr 192 }),
  (191, { agg := true, size := 2, bytes := 32, zero := [.pointer none, .slice none 0 0], d := .struct [(0, 190), (1, 189)] }),
  (192, { agg := true, size := 2, bytes := 32, zero := [.pointer none, .slice none 0 0], d := .struct [(0, 190), (1, 189)] }),
  (198, { agg := false, size := 1, bytes := 8, zero := [.pointer none], d := .ptr 32 }),
  (199, { agg := false, size := 1, bytes := 24, zero := [.slice none 0 0], d := .slice 198 }),
  (202, { agg := false, size := 1, bytes := 8, zero := [.int .i64 0], d := .int .i64, ck := some [.i64] }),
  (234, { agg := false, size := 1, bytes := 8, zero := [.pointer none], d := .ptr 150 }),
  (235, { agg := false, size := 1, bytes := 24, zero := [.slice none 0 0], d := .slice 9 }),
  (236, { agg := true, size := 8, bytes := 8, zero := [.int .u8 0, .int .u8 0, .int .u8 0, .int .u8 0, .int .u8 0, .int .u8 0, .int .u8 0, .int .u8 0], d := .arr 8 5 }),
  (237, { agg := false, size := 1, bytes := 8, zero := [.pointer none], d := .ptr 5 }),
  (240, { agg := false, size := 1, bytes := 8, zero := [.int .u64 0], d := .int .u64, ck := some [.u64] }),
  (243, { agg := false, size := 1, bytes := 8, zero := [.pointer none], d := .ptr 3 }),
  (258, { agg := false, size := 1, bytes := 8, zero := [.pointer none], d := .ptr 260 }),
  (259, { agg := true, size := 7, bytes := 136, zero := [.slice none 0 0, .slice none 0 0, .slice none 0 0, .map none, .map none, .slice none 0 0, .slice none 0 0], d := .struct [(0, 41), (3, 114), (4, 114), (5, 22), (6, 22)] }),
  (260, { agg := true, size := 7, bytes := 136, zero := [.slice none 0 0, .slice none 0 0, .slice none 0 0, .map none, .map none, .slice none 0 0, .slice none 0 0], d := .struct [(0, 41), (3, 114), (4, 114), (5, 22), (6, 22)] }),
  (277, { agg := false, size := 1, bytes := 8, zero := [.pointer none], d := .ptr 240 }),
  (294, { agg := true, size := 4, bytes := 40, zero := [.pointer none, .pointer none, .pointer none, .string ⟨#[]⟩], d := .struct [(0, 17), (1, 17), (2, 17), (3, 9)] }),
  (295, { agg := true, size := 4, bytes := 40, zero := [.pointer none, .pointer none, .pointer none, .string ⟨#[]⟩], d := .struct [(0, 17), (1, 17), (2, 17), (3, 9)] }),
  (296, { agg := true, size := 0, bytes := 0, zero := [], d := .arr 0 16 }),
  (297, { agg := true, size := 0, bytes := 0, zero := [], d := .struct [(0, 296)] }),
  (298, { agg := true, size := 0, bytes := 0, zero := [], d := .struct [(0, 296)] }),
  (299, { agg := false, size := 1, bytes := 1, zero := [.int .u8 0], d := .int .u8, ck := some [.u8] }),
  (300, { agg := false, size := 1, bytes := 1, zero := [.int .u8 0], d := .int .u8, ck := some [.u8] }),
  (302, { agg := false, size := 1, bytes := 4, zero := [.int .i32 0], d := .int .i32, ck := some [.i32] }),
  (303, { agg := false, size := 1, bytes := 4, zero := [.int .i32 0], d := .int .i32, ck := some [.i32] }),
  (304, { agg := true, size := 11, bytes := 48, zero := [.int .u64 0, .int .u64 0, .int .u32 0, .int .u8 0, .int .u8 0, .int .u8 0, .int .u8 0, .nilFunc, .pointer none, .int .i32 0, .int .i32 0], d := .struct [(0, 12), (1, 12), (2, 32), (3, 299), (4, 5), (5, 5), (6, 300), (7, 301), (8, 237), (9, 302), (10, 303)] }),
  (305, { agg := true, size := 11, bytes := 48, zero := [.int .u64 0, .int .u64 0, .int .u32 0, .int .u8 0, .int .u8 0, .int .u8 0, .int .u8 0, .nilFunc, .pointer none, .int .i32 0, .int .i32 0], d := .struct [(0, 12), (1, 12), (2, 32), (3, 299), (4, 5), (5, 5), (6, 300), (7, 301), (8, 237), (9, 302), (10, 303)] })]
def tab : Tab := lookT tabL
@[simp] theorem tab_2 : tab 2 = some { agg := false, size := 1, bytes := 8, zero := [.int .i64 0], d := .int .i64, ck := some [.i64] } := rfl
@[simp] theorem tab_3 : tab 3 = some { agg := false, size := 1, bytes := 8, zero := [.int .i64 0], d := .int .i64, ck := some [.i64] } := rfl
@[simp] theorem tab_4 : tab 4 = some { agg := false, size := 1, bytes := 1, zero := [.bool false], d := .bool } := rfl
@[simp] theorem tab_5 : tab 5 = some { agg := false, size := 1, bytes := 1, zero := [.int .u8 0], d := .int .u8, ck := some [.u8] } := rfl
@[simp] theorem tab_6 : tab 6 = some { agg := false, size := 1, bytes := 1, zero := [.int .u8 0], d := .int .u8, ck := some [.u8] } := rfl
@[simp] theorem tab_7 : tab 7 = some { agg := true, size := 4, bytes := 24, zero := [.int .i64 0, .int .i64 0, .bool false, .int .u8 0], d := .struct [(0, 2), (1, 3), (2, 4), (3, 6)] } := rfl
@[simp] theorem tab_8 : tab 8 = some { agg := true, size := 4, bytes := 24, zero := [.int .i64 0, .int .i64 0, .bool false, .int .u8 0], d := .struct [(0, 2), (1, 3), (2, 4), (3, 6)] } := rfl
@[simp] theorem tab_9 : tab 9 = some { agg := false, size := 1, bytes := 16, zero := [.string ⟨#[]⟩], d := .str } := rfl
@[simp] theorem tab_10 : tab 10 = some { agg := false, size := 1, bytes := 16, zero := [.string ⟨#[]⟩], d := .str } := rfl
@[simp] theorem tab_11 : tab 11 = some { agg := false, size := 1, bytes := 16, zero := [.string ⟨#[]⟩], d := .str } := rfl
@[simp] theorem tab_12 : tab 12 = some { agg := false, size := 1, bytes := 8, zero := [.int .u64 0], d := .int .u64, ck := some [.u64] } := rfl
@[simp] theorem tab_13 : tab 13 = some { agg := true, size := 2, bytes := 24, zero := [.string ⟨#[]⟩, .int .u64 0], d := .struct [(0, 9), (1, 12)] } := rfl
@[simp] theorem tab_14 : tab 14 = some { agg := true, size := 2, bytes := 24, zero := [.string ⟨#[]⟩, .int .u64 0], d := .struct [(0, 9), (1, 12)] } := rfl
@[simp] theorem tab_15 : tab 15 = some { agg := false, size := 1, bytes := 8, zero := [.pointer none], d := .ptr 295 } := rfl
@[simp] theorem tab_16 : tab 16 = some { agg := false, size := 1, bytes := 8, zero := [.pointer none], d := .ptr 298 } := rfl
@[simp] theorem tab_17 : tab 17 = some { agg := false, size := 1, bytes := 8, zero := [.pointer none], d := .ptr 305 } := rfl
@[simp] theorem tab_18 : tab 18 = some { agg := true, size := 1, bytes := 8, zero := [.pointer none], d := .struct [(0, 17)] } := rfl
@[simp] theorem tab_19 : tab 19 = some { agg := true, size := 1, bytes := 8, zero := [.pointer none], d := .struct [(0, 17)] } := rfl
@[simp] theorem tab_21 : tab 21 = some { agg := false, size := 1, bytes := 4, zero := [.int .i32 0], d := .int .i32, ck := some [.i32] } := rfl
@[simp] theorem tab_22 : tab 22 = some { agg := false, size := 1, bytes := 24, zero := [.slice none 0 0], d := .slice 32 } := rfl
@[simp] theorem tab_23 : tab 23 = some { agg := false, size := 1, bytes := 24, zero := [.slice none 0 0], d := .slice 34 } := rfl
@[simp] theorem tab_24 : tab 24 = some { agg := true, size := 2, bytes := 48, zero := [.slice none 0 0, .slice none 0 0], d := .struct [(0, 22), (1, 23)] } := rfl
@[simp] theorem tab_25 : tab 25 = some { agg := true, size := 2, bytes := 48, zero := [.slice none 0 0, .slice none 0 0], d := .struct [(0, 22), (1, 23)] } := rfl
@[simp] theorem tab_28 : tab 28 = some { agg := false, size := 1, bytes := 24, zero := [.slice none 0 0], d := .slice 23 } := rfl
@[simp] theorem tab_30 : tab 30 = some { agg := false, size := 1, bytes := 24, zero := [.slice none 0 0], d := .slice 31 } := rfl
@[simp] theorem tab_31 : tab 31 = some { agg := false, size := 1, bytes := 8, zero := [.map none], d := .map 32 4 } := rfl
@[simp] theorem tab_32 : tab 32 = some { agg := false, size := 1, bytes := 4, zero := [.int .u32 0], d := .int .u32, ck := some [.u32] } := rfl
@[simp] theorem tab_33 : tab 33 = some { agg := true, size := 3, bytes := 12, zero := [.int .u32 0, .int .u32 0, .int .u32 0], d := .struct [(0, 32), (1, 32), (2, 32)], ck := some [.u32, .u32, .u32] } := rfl
@[simp] theorem tab_34 : tab 34 = some { agg := true, size := 3, bytes := 12, zero := [.int .u32 0, .int .u32 0, .int .u32 0], d := .struct [(0, 32), (1, 32), (2, 32)], ck := some [.u32, .u32, .u32] } := rfl
@[simp] theorem tab_36 : tab 36 = some { agg := false, size := 1, bytes := 24, zero := [.slice none 0 0], d := .slice 22 } := rfl
@[simp] theorem tab_40 : tab 40 = some { agg := true, size := 3, bytes := 72, zero := [.slice none 0 0, .slice none 0 0, .slice none 0 0], d := .struct [(0, 25), (2, 36)] } := rfl
@[simp] theorem tab_41 : tab 41 = some { agg := true, size := 3, bytes := 72, zero := [.slice none 0 0, .slice none 0 0, .slice none 0 0], d := .struct [(0, 25), (2, 36)] } := rfl
@[simp] theorem tab_43 : tab 43 = some { agg := false, size := 1, bytes := 8, zero := [.int .i64 0], d := .int .i64, ck := some [.i64] } := rfl
@[simp] theorem tab_46 : tab 46 = some { agg := true, size := 6, bytes := 32, zero := [.int .i64 0, .int .u32 0, .int .u32 0, .int .u32 0, .int .u32 0, .int .u32 0], d := .struct [(0, 3), (1, 32), (2, 32), (3, 32), (4, 32), (5, 32)], ck := some [.i64, .u32, .u32, .u32, .u32, .u32] } := rfl
@[simp] theorem tab_47 : tab 47 = some { agg := true, size := 6, bytes := 32, zero := [.int .i64 0, .int .u32 0, .int .u32 0, .int .u32 0, .int .u32 0, .int .u32 0], d := .struct [(0, 3), (1, 32), (2, 32), (3, 32), (4, 32), (5, 32)], ck := some [.i64, .u32, .u32, .u32, .u32, .u32] } := rfl
@[simp] theorem tab_54 : tab 54 = some { agg := false, size := 1, bytes := 24, zero := [.slice none 0 0], d := .slice 47 } := rfl
@[simp] theorem tab_69 : tab 69 = some { agg := false, size := 1, bytes := 8, zero := [.int .u64 0], d := .int .u64, ck := some [.u64] } := rfl
@[simp] theorem tab_74 : tab 74 = some { agg := true, size := 1, bytes := 16, zero := [.string ⟨#[]⟩], d := .struct [(0, 9)] } := rfl
@[simp] theorem tab_75 : tab 75 = some { agg := true, size := 1, bytes := 16, zero := [.string ⟨#[]⟩], d := .struct [(0, 9)] } := rfl
@[simp] theorem tab_78 : tab 78 = some { agg := false, size := 1, bytes := 8, zero := [.pointer none], d := .ptr 152 } := rfl
@[simp] theorem tab_80 : tab 80 = some { agg := false, size := 1, bytes := 8, zero := [.pointer none], d := .ptr 82 } := rfl
@[simp] theorem tab_81 : tab 81 = some { agg := true, size := 2, bytes := 24, zero := [.string ⟨#[]⟩, .int .i64 0], d := .struct [(0, 9), (1, 3)] } := rfl
@[simp] theorem tab_82 : tab 82 = some { agg := true, size := 2, bytes := 24, zero := [.string ⟨#[]⟩, .int .i64 0], d := .struct [(0, 9), (1, 3)] } := rfl
@[simp] theorem tab_89 : tab 89 = some { agg := false, size := 1, bytes := 8, zero := [.pointer none], d := .ptr 94 } := rfl
@[simp] theorem tab_90 : tab 90 = some { agg := false, size := 1, bytes := 8, zero := [.map none], d := .map 32 92 } := rfl
@[simp] theorem tab_91 : tab 91 = some { agg := false, size := 1, bytes := 8, zero := [.map none], d := .map 32 3 } := rfl
@[simp] theorem tab_92 : tab 92 = some { agg := false, size := 1, bytes := 24, zero := [.slice none 0 0], d := .slice 3 } := rfl
@[simp] theorem tab_93 : tab 93 = some { agg := true, size := 6, bytes := 96, zero := [.slice none 0 0, .map none, .map none, .map none, .slice none 0 0, .slice none 0 0], d := .struct [(0, 23), (1, 90), (2, 91), (3, 91), (4, 92), (5, 28)] } := rfl
@[simp] theorem tab_94 : tab 94 = some { agg := true, size := 6, bytes := 96, zero := [.slice none 0 0, .map none, .map none, .map none, .slice none 0 0, .slice none 0 0], d := .struct [(0, 23), (1, 90), (2, 91), (3, 91), (4, 92), (5, 28)] } := rfl
@[simp] theorem tab_100 : tab 100 = some { agg := false, size := 1, bytes := 8, zero := [.nilFunc], d := .func } := rfl
@[simp] theorem tab_102 : tab 102 = some { agg := false, size := 1, bytes := 8, zero := [.nilFunc], d := .func } := rfl
@[simp] theorem tab_103 : tab 103 = some { agg := false, size := 1, bytes := 8, zero := [.map none], d := .map 32 22 } := rfl
@[simp] theorem tab_109 : tab 109 = some { agg := false, size := 1, bytes := 8, zero := [.pointer none], d := .ptr 112 } := rfl
@[simp] theorem tab_111 : tab 111 = some { agg := true, size := 3, bytes := 72, zero := [.slice none 0 0, .slice none 0 0, .slice none 0 0], d := .struct [(0, 41)] } := rfl
@[simp] theorem tab_112 : tab 112 = some { agg := true, size := 3, bytes := 72, zero := [.slice none 0 0, .slice none 0 0, .slice none 0 0], d := .struct [(0, 41)] } := rfl
@[simp] theorem tab_114 : tab 114 = some { agg := false, size := 1, bytes := 8, zero := [.map none], d := .map 32 32 } := rfl
@[simp] theorem tab_134 : tab 134 = some { agg := false, size := 1, bytes := 24, zero := [.slice none 0 0], d := .slice 4 } := rfl
@[simp] theorem tab_141 : tab 141 = some { agg := true, size := 32, bytes := 32, zero := [.int .u8 0, .int .u8 0, .int .u8 0, .int .u8 0, .int .u8 0, .int .u8 0, .int .u8 0, .int .u8 0, .int .u8 0, .int .u8 0, .int .u8 0, .int .u8 0, .int .u8 0, .int .u8 0, .int .u8 0, .int .u8 0, .int .u8 0, .int .u8 0, .int .u8 0, .int .u8 0, .int .u8 0, .int .u8 0, .int .u8 0, .int .u8 0, .int .u8 0, .int .u8 0, .int .u8 0, .int .u8 0, .int .u8 0, .int .u8 0, .int .u8 0, .int .u8 0], d := .arr 32 5 } := rfl
@[simp] theorem tab_142 : tab 142 = some { agg := true, size := 32, bytes := 32, zero := [.int .u8 0, .int .u8 0, .int .u8 0, .int .u8 0, .int .u8 0, .int .u8 0, .int .u8 0, .int .u8 0, .int .u8 0, .int .u8 0, .int .u8 0, .int .u8 0, .int .u8 0, .int .u8 0, .int .u8 0, .int .u8 0, .int .u8 0, .int .u8 0, .int .u8 0, .int .u8 0, .int .u8 0, .int .u8 0, .int .u8 0, .int .u8 0, .int .u8 0, .int .u8 0, .int .u8 0, .int .u8 0, .int .u8 0, .int .u8 0, .int .u8 0, .int .u8 0], d := .arr 32 5 } := rfl
@[simp] theorem tab_149 : tab 149 = some { agg := true, size := 1, bytes := 8, zero := [.int .i64 0], d := .struct [(0, 43)], ck := some [.i64] } := rfl
@[simp] theorem tab_150 : tab 150 = some { agg := true, size := 1, bytes := 8, zero := [.int .i64 0], d := .struct [(0, 43)], ck := some [.i64] } := rfl
@[simp] theorem tab_151 : tab 151 = some { agg := true, size := 2, bytes := 24, zero := [.int .i64 0, .string ⟨#[]⟩], d := .struct [(0, 150), (1, 9)] } := rfl
@[simp] theorem tab_152 : tab 152 = some { agg := true, size := 2, bytes := 24, zero := [.int .i64 0, .string ⟨#[]⟩], d := .struct [(0, 150), (1, 9)] } := rfl
@[simp] theorem tab_160 : tab 160 = some { agg := false, size := 1, bytes := 8, zero := [.int .u64 0], d := .int .u64, ck := some [.u64] } := rfl
@[simp] theorem tab_189 : tab 189 = some { agg := false, size := 1, bytes := 24, zero := [.slice none 0 0], d := .slice 5 } := rfl
@[simp] theorem tab_190 : tab 190 = some { agg := false, size := 1, bytes := 8, zero := [.pointer none], d := .ptr 192 } := rfl
@[simp] theorem tab_191 : tab 191 = some { agg := true, size := 2, bytes := 32, zero := [.pointer none, .slice none 0 0], d := .struct [(0, 190), (1, 189)] } := rfl
@[simp] theorem tab_192 : tab 192 = some { agg := true, size := 2, bytes := 32, zero := [.pointer none, .slice none 0 0], d := .struct [(0, 190), (1, 189)] } := rfl
@[simp] theorem tab_198 : tab 198 = some { agg := false, size := 1, bytes := 8, zero := [.pointer none], d := .ptr 32 } := rfl
@[simp] theorem tab_199 : tab 199 = some { agg := false, size := 1, bytes := 24, zero := [.slice none 0 0], d := .slice 198 } := rfl
@[simp] theorem tab_202 : tab 202 = some { agg := false, size := 1, bytes := 8, zero := [.int .i64 0], d := .int .i64, ck := some [.i64] } := rfl
@[simp] theorem tab_234 : tab 234 = some { agg := false, size := 1, bytes := 8, zero := [.pointer none], d := .ptr 150 } := rfl
@[simp] theorem tab_235 : tab 235 = some { agg := false, size := 1, bytes := 24, zero := [.slice none 0 0], d := .slice 9 } := rfl
@[simp] theorem tab_236 : tab 236 = some { agg := true, size := 8, bytes := 8, zero := [.int .u8 0, .int .u8 0, .int .u8 0, .int .u8 0, .int .u8 0, .int .u8 0, .int .u8 0, .int .u8 0], d := .arr 8 5 } := rfl
@[simp] theorem tab_237 : tab 237 = some { agg := false, size := 1, bytes := 8, zero := [.pointer none], d := .ptr 5 } := rfl
@[simp] theorem tab_240 : tab 240 = some { agg := false, size := 1, bytes := 8, zero := [.int .u64 0], d := .int .u64, ck := some [.u64] } := rfl
@[simp] theorem tab_243 : tab 243 = some { agg := false, size := 1, bytes := 8, zero := [.pointer none], d := .ptr 3 } := rfl
@[simp] theorem tab_258 : tab 258 = some { agg := false, size := 1, bytes := 8, zero := [.pointer none], d := .ptr 260 } := rfl
@[simp] theorem tab_259 : tab 259 = some { agg := true, size := 7, bytes := 136, zero := [.slice none 0 0, .slice none 0 0, .slice none 0 0, .map none, .map none, .slice none 0 0, .slice none 0 0], d := .struct [(0, 41), (3, 114), (4, 114), (5, 22), (6, 22)] } := rfl
@[simp] theorem tab_260 : tab 260 = some { agg := true, size := 7, bytes := 136, zero := [.slice none 0 0, .slice none 0 0, .slice none 0 0, .map none, .map none, .slice none 0 0, .slice none 0 0], d := .struct [(0, 41), (3, 114), (4, 114), (5, 22), (6, 22)] } := rfl
@[simp] theorem tab_277 : tab 277 = some { agg := false, size := 1, bytes := 8, zero := [.pointer none], d := .ptr 240 } := rfl
@[simp] theorem tab_294 : tab 294 = some { agg := true, size := 4, bytes := 40, zero := [.pointer none, .pointer none, .pointer none, .string ⟨#[]⟩], d := .struct [(0, 17), (1, 17), (2, 17), (3, 9)] } := rfl
@[simp] theorem tab_295 : tab 295 = some { agg := true, size := 4, bytes := 40, zero := [.pointer none, .pointer none, .pointer none, .string ⟨#[]⟩], d := .struct [(0, 17), (1, 17), (2, 17), (3, 9)] } := rfl
@[simp] theorem tab_296 : tab 296 = some { agg := true, size := 0, bytes := 0, zero := [], d := .arr 0 16 } := rfl
@[simp] theorem tab_297 : tab 297 = some { agg := true, size := 0, bytes := 0, zero := [], d := .struct [(0, 296)] } := rfl
@[simp] theorem tab_298 : tab 298 = some { agg := true, size := 0, bytes := 0, zero := [], d := .struct [(0, 296)] } := rfl
@[simp] theorem tab_299 : tab 299 = some { agg := false, size := 1, bytes := 1, zero := [.int .u8 0], d := .int .u8, ck := some [.u8] } := rfl
@[simp] theorem tab_300 : tab 300 = some { agg := false, size := 1, bytes := 1, zero := [.int .u8 0], d := .int .u8, ck := some [.u8] } := rfl
@[simp] theorem tab_302 : tab 302 = some { agg := false, size := 1, bytes := 4, zero := [.int .i32 0], d := .int .i32, ck := some [.i32] } := rfl
@[simp] theorem tab_303 : tab 303 = some { agg := false, size := 1, bytes := 4, zero := [.int .i32 0], d := .int .i32, ck := some [.i32] } := rfl
@[simp] theorem tab_304 : tab 304 = some { agg := true, size := 11, bytes := 48, zero := [.int .u64 0, .int .u64 0, .int .u32 0, .int .u8 0, .int .u8 0, .int .u8 0, .int .u8 0, .nilFunc, .pointer none, .int .i32 0, .int .i32 0], d := .struct [(0, 12), (1, 12), (2, 32), (3, 299), (4, 5), (5, 5), (6, 300), (7, 301), (8, 237), (9, 302), (10, 303)] } := rfl
@[simp] theorem tab_305 : tab 305 = some { agg := true, size := 11, bytes := 48, zero := [.int .u64 0, .int .u64 0, .int .u32 0, .int .u8 0, .int .u8 0, .int .u8 0, .int .u8 0, .nilFunc, .pointer none, .int .i32 0, .int .i32 0], d := .struct [(0, 12), (1, 12), (2, 32), (3, 299), (4, 5), (5, 5), (6, 300), (7, 301), (8, 237), (9, 302), (10, 303)] } := rfl
theorem info_of {P : Program} {t size bytes : Nat} {z : Value} (h : (P.info? t).map (fun i => (i.size, i.bytes, i.zero)) = some (size, bytes, some z)) : ∃ i, P.info? t = some i ∧ i.size = size ∧ i.bytes = bytes ∧ i.zero = some z := by
  cases hi : P.info? t with
  | none => simp [hi] at h
  | some i =>
    simp only [hi, Option.map_some, Option.some.injEq, Prod.mk.injEq] at h
    exact ⟨i, rfl, h.1, h.2.1, h.2.2⟩
theorem eqOk_33 : EqOk Tryz.prog 33 true [.u32, .u32, .u32] := by
  have u32 := Tryz.underlying32
  have a32 := Tryz.isAgg32
  have z32 := Tryz.sizeOf32
  have hp : Tryz.prog.stoodInHeld 33 = false := by kernel_rfl
  refine ⟨fun w as1 bs1 h1 h2 => ?_, fun w em as1 h1 => ?_, fun _ => by kernel_rfl, (fun h => by cases h), _, Tryz.underlying33, .inr fun as1 bs1 h1 h2 => by simp [mkV, Instr.sameNow]⟩
  · match as1, bs1, h1, h2 with
    | [x0, x1, x2], [y0, y1, y2], _, _ =>
      have hS : Tryz.prog.underlying 33 = some (.struct (Tryz.prog.fieldsOf 33)) := by kernel_rfl
      simp only [mkV, mkC, if_true]
      unfold Op.equal Op.maxDepth
      rw [show (10000 : Nat) = 9999 + 1 from rfl, run_equalIn_agg w 9999 33 _ _ hS hp]
      simp only [Program.fieldsOf, Tryz.underlying33]
      go_simp
      by_cases e0 : x0 = y0 <;> by_cases e1 : x1 = y1 <;> by_cases e2 : x2 = y2 <;> simp [e0, e1, e2]
  · match as1, h1 with
    | [x0, x1, x2], _ =>
      simp only [mkV, mkC, if_true]
      unfold Instr.checkKey
      simp only [Sem.run_bind, run_underlying Tryz.underlying33, Result.andThen_ok]
      go_simp
      (try simp [chk_int u32])
theorem eqOk_34 : EqOk Tryz.prog 34 true [.u32, .u32, .u32] := by
  have u32 := Tryz.underlying32
  have a32 := Tryz.isAgg32
  have z32 := Tryz.sizeOf32
  have hp : Tryz.prog.stoodInHeld 34 = false := by kernel_rfl
  refine ⟨fun w as1 bs1 h1 h2 => ?_, fun w em as1 h1 => ?_, fun _ => by kernel_rfl, (fun h => by cases h), _, Tryz.underlying34, .inr fun as1 bs1 h1 h2 => by simp [mkV, Instr.sameNow]⟩
  · match as1, bs1, h1, h2 with
    | [x0, x1, x2], [y0, y1, y2], _, _ =>
      have hS : Tryz.prog.underlying 34 = some (.struct (Tryz.prog.fieldsOf 34)) := by kernel_rfl
      simp only [mkV, mkC, if_true]
      unfold Op.equal Op.maxDepth
      rw [show (10000 : Nat) = 9999 + 1 from rfl, run_equalIn_agg w 9999 34 _ _ hS hp]
      simp only [Program.fieldsOf, Tryz.underlying34]
      go_simp
      by_cases e0 : x0 = y0 <;> by_cases e1 : x1 = y1 <;> by_cases e2 : x2 = y2 <;> simp [e0, e1, e2]
  · match as1, h1 with
    | [x0, x1, x2], _ =>
      simp only [mkV, mkC, if_true]
      unfold Instr.checkKey
      simp only [Sem.run_bind, run_underlying Tryz.underlying34, Result.andThen_ok]
      go_simp
      (try simp [chk_int u32])
theorem eqOk_46 : EqOk Tryz.prog 46 true [.i64, .u32, .u32, .u32, .u32, .u32] := by
  have u3 := Tryz.underlying3
  have a3 := Tryz.isAgg3
  have z3 := Tryz.sizeOf3
  have u32 := Tryz.underlying32
  have a32 := Tryz.isAgg32
  have z32 := Tryz.sizeOf32
  have hp : Tryz.prog.stoodInHeld 46 = false := by kernel_rfl
  refine ⟨fun w as1 bs1 h1 h2 => ?_, fun w em as1 h1 => ?_, fun _ => by kernel_rfl, (fun h => by cases h), _, Tryz.underlying46, .inr fun as1 bs1 h1 h2 => by simp [mkV, Instr.sameNow]⟩
  · match as1, bs1, h1, h2 with
    | [x0, x1, x2, x3, x4, x5], [y0, y1, y2, y3, y4, y5], _, _ =>
      have hS : Tryz.prog.underlying 46 = some (.struct (Tryz.prog.fieldsOf 46)) := by kernel_rfl
      simp only [mkV, mkC, if_true]
      unfold Op.equal Op.maxDepth
      rw [show (10000 : Nat) = 9999 + 1 from rfl, run_equalIn_agg w 9999 46 _ _ hS hp]
      simp only [Program.fieldsOf, Tryz.underlying46]
      go_simp
      by_cases e0 : x0 = y0 <;> by_cases e1 : x1 = y1 <;> by_cases e2 : x2 = y2 <;> by_cases e3 : x3 = y3 <;> by_cases e4 : x4 = y4 <;> by_cases e5 : x5 = y5 <;> simp [e0, e1, e2, e3, e4, e5]
  · match as1, h1 with
    | [x0, x1, x2, x3, x4, x5], _ =>
      simp only [mkV, mkC, if_true]
      unfold Instr.checkKey
      simp only [Sem.run_bind, run_underlying Tryz.underlying46, Result.andThen_ok]
      go_simp
      (try simp [chk_int u3, chk_int u32])
theorem eqOk_47 : EqOk Tryz.prog 47 true [.i64, .u32, .u32, .u32, .u32, .u32] := by
  have u3 := Tryz.underlying3
  have a3 := Tryz.isAgg3
  have z3 := Tryz.sizeOf3
  have u32 := Tryz.underlying32
  have a32 := Tryz.isAgg32
  have z32 := Tryz.sizeOf32
  have hp : Tryz.prog.stoodInHeld 47 = false := by kernel_rfl
  refine ⟨fun w as1 bs1 h1 h2 => ?_, fun w em as1 h1 => ?_, fun _ => by kernel_rfl, (fun h => by cases h), _, Tryz.underlying47, .inr fun as1 bs1 h1 h2 => by simp [mkV, Instr.sameNow]⟩
  · match as1, bs1, h1, h2 with
    | [x0, x1, x2, x3, x4, x5], [y0, y1, y2, y3, y4, y5], _, _ =>
      have hS : Tryz.prog.underlying 47 = some (.struct (Tryz.prog.fieldsOf 47)) := by kernel_rfl
      simp only [mkV, mkC, if_true]
      unfold Op.equal Op.maxDepth
      rw [show (10000 : Nat) = 9999 + 1 from rfl, run_equalIn_agg w 9999 47 _ _ hS hp]
      simp only [Program.fieldsOf, Tryz.underlying47]
      go_simp
      by_cases e0 : x0 = y0 <;> by_cases e1 : x1 = y1 <;> by_cases e2 : x2 = y2 <;> by_cases e3 : x3 = y3 <;> by_cases e4 : x4 = y4 <;> by_cases e5 : x5 = y5 <;> simp [e0, e1, e2, e3, e4, e5]
  · match as1, h1 with
    | [x0, x1, x2, x3, x4, x5], _ =>
      simp only [mkV, mkC, if_true]
      unfold Instr.checkKey
      simp only [Sem.run_bind, run_underlying Tryz.underlying47, Result.andThen_ok]
      go_simp
      (try simp [chk_int u3, chk_int u32])
theorem eqOk_149 : EqOk Tryz.prog 149 true [.i64] := by
  have u43 := Tryz.underlying43
  have a43 := Tryz.isAgg43
  have z43 := Tryz.sizeOf43
  have hp : Tryz.prog.stoodInHeld 149 = false := by kernel_rfl
  refine ⟨fun w as1 bs1 h1 h2 => ?_, fun w em as1 h1 => ?_, fun _ => by kernel_rfl, (fun h => by cases h), _, Tryz.underlying149, .inr fun as1 bs1 h1 h2 => by simp [mkV, Instr.sameNow]⟩
  · match as1, bs1, h1, h2 with
    | [x0], [y0], _, _ =>
      have hS : Tryz.prog.underlying 149 = some (.struct (Tryz.prog.fieldsOf 149)) := by kernel_rfl
      simp only [mkV, mkC, if_true]
      unfold Op.equal Op.maxDepth
      rw [show (10000 : Nat) = 9999 + 1 from rfl, run_equalIn_agg w 9999 149 _ _ hS hp]
      simp only [Program.fieldsOf, Tryz.underlying149]
      go_simp
      by_cases e0 : x0 = y0 <;> simp [e0]
  · match as1, h1 with
    | [x0], _ =>
      simp only [mkV, mkC, if_true]
      unfold Instr.checkKey
      simp only [Sem.run_bind, run_underlying Tryz.underlying149, Result.andThen_ok]
      go_simp
      (try simp [chk_int u43])
theorem eqOk_150 : EqOk Tryz.prog 150 true [.i64] := by
  have u43 := Tryz.underlying43
  have a43 := Tryz.isAgg43
  have z43 := Tryz.sizeOf43
  have hp : Tryz.prog.stoodInHeld 150 = false := by kernel_rfl
  refine ⟨fun w as1 bs1 h1 h2 => ?_, fun w em as1 h1 => ?_, fun _ => by kernel_rfl, (fun h => by cases h), _, Tryz.underlying150, .inr fun as1 bs1 h1 h2 => by simp [mkV, Instr.sameNow]⟩
  · match as1, bs1, h1, h2 with
    | [x0], [y0], _, _ =>
      have hS : Tryz.prog.underlying 150 = some (.struct (Tryz.prog.fieldsOf 150)) := by kernel_rfl
      simp only [mkV, mkC, if_true]
      unfold Op.equal Op.maxDepth
      rw [show (10000 : Nat) = 9999 + 1 from rfl, run_equalIn_agg w 9999 150 _ _ hS hp]
      simp only [Program.fieldsOf, Tryz.underlying150]
      go_simp
      by_cases e0 : x0 = y0 <;> simp [e0]
  · match as1, h1 with
    | [x0], _ =>
      simp only [mkV, mkC, if_true]
      unfold Instr.checkKey
      simp only [Sem.run_bind, run_underlying Tryz.underlying150, Result.andThen_ok]
      go_simp
      (try simp [chk_int u43])
theorem rowOk_2 : RowOk Tryz.prog 2 { agg := false, size := 1, bytes := 8, zero := [.int .i64 0], d := .int .i64, ck := some [.i64] } :=
  ⟨Tryz.isAgg2, info_of (z := .int .i64 0) (by kernel_rfl), rfl, fun _ => rfl, rfl, Tryz.underlying2, (fun ks h => by injection h with h; subst h; exact eqOk_int Tryz.underlying2)⟩
theorem rowOk_3 : RowOk Tryz.prog 3 { agg := false, size := 1, bytes := 8, zero := [.int .i64 0], d := .int .i64, ck := some [.i64] } :=
  ⟨Tryz.isAgg3, info_of (z := .int .i64 0) (by kernel_rfl), rfl, fun _ => rfl, rfl, Tryz.underlying3, (fun ks h => by injection h with h; subst h; exact eqOk_int Tryz.underlying3)⟩
theorem rowOk_4 : RowOk Tryz.prog 4 { agg := false, size := 1, bytes := 1, zero := [.bool false], d := .bool } :=
  ⟨Tryz.isAgg4, info_of (z := .bool false) (by kernel_rfl), rfl, fun _ => rfl, rfl, Tryz.underlying4, (fun ks h => by cases h)⟩
theorem rowOk_5 : RowOk Tryz.prog 5 { agg := false, size := 1, bytes := 1, zero := [.int .u8 0], d := .int .u8, ck := some [.u8] } :=
  ⟨Tryz.isAgg5, info_of (z := .int .u8 0) (by kernel_rfl), rfl, fun _ => rfl, rfl, Tryz.underlying5, (fun ks h => by injection h with h; subst h; exact eqOk_int Tryz.underlying5)⟩
theorem rowOk_6 : RowOk Tryz.prog 6 { agg := false, size := 1, bytes := 1, zero := [.int .u8 0], d := .int .u8, ck := some [.u8] } :=
  ⟨Tryz.isAgg6, info_of (z := .int .u8 0) (by kernel_rfl), rfl, fun _ => rfl, rfl, Tryz.underlying6, (fun ks h => by injection h with h; subst h; exact eqOk_int Tryz.underlying6)⟩
theorem rowOk_7 : RowOk Tryz.prog 7 { agg := true, size := 4, bytes := 24, zero := [.int .i64 0, .int .i64 0, .bool false, .int .u8 0], d := .struct [(0, 2), (1, 3), (2, 4), (3, 6)] } :=
  ⟨Tryz.isAgg7, info_of (z := .agg #[.int .i64 0, .int .i64 0, .bool false, .int .u8 0]) (by kernel_rfl), rfl, (fun h => by cases h), rfl, ⟨_, Tryz.underlying7, rfl⟩, (fun ks h => by cases h)⟩
theorem rowOk_8 : RowOk Tryz.prog 8 { agg := true, size := 4, bytes := 24, zero := [.int .i64 0, .int .i64 0, .bool false, .int .u8 0], d := .struct [(0, 2), (1, 3), (2, 4), (3, 6)] } :=
  ⟨Tryz.isAgg8, info_of (z := .agg #[.int .i64 0, .int .i64 0, .bool false, .int .u8 0]) (by kernel_rfl), rfl, (fun h => by cases h), rfl, ⟨_, Tryz.underlying8, rfl⟩, (fun ks h => by cases h)⟩
theorem rowOk_9 : RowOk Tryz.prog 9 { agg := false, size := 1, bytes := 16, zero := [.string ⟨#[]⟩], d := .str } :=
  ⟨Tryz.isAgg9, info_of (z := .string ⟨#[]⟩) (by kernel_rfl), rfl, fun _ => rfl, rfl, Tryz.underlying9, (fun ks h => by cases h)⟩
theorem rowOk_10 : RowOk Tryz.prog 10 { agg := false, size := 1, bytes := 16, zero := [.string ⟨#[]⟩], d := .str } :=
  ⟨Tryz.isAgg10, info_of (z := .string ⟨#[]⟩) (by kernel_rfl), rfl, fun _ => rfl, rfl, Tryz.underlying10, (fun ks h => by cases h)⟩
theorem rowOk_11 : RowOk Tryz.prog 11 { agg := false, size := 1, bytes := 16, zero := [.string ⟨#[]⟩], d := .str } :=
  ⟨Tryz.isAgg11, info_of (z := .string ⟨#[]⟩) (by kernel_rfl), rfl, fun _ => rfl, rfl, Tryz.underlying11, (fun ks h => by cases h)⟩
theorem rowOk_12 : RowOk Tryz.prog 12 { agg := false, size := 1, bytes := 8, zero := [.int .u64 0], d := .int .u64, ck := some [.u64] } :=
  ⟨Tryz.isAgg12, info_of (z := .int .u64 0) (by kernel_rfl), rfl, fun _ => rfl, rfl, Tryz.underlying12, (fun ks h => by injection h with h; subst h; exact eqOk_int Tryz.underlying12)⟩
theorem rowOk_13 : RowOk Tryz.prog 13 { agg := true, size := 2, bytes := 24, zero := [.string ⟨#[]⟩, .int .u64 0], d := .struct [(0, 9), (1, 12)] } :=
  ⟨Tryz.isAgg13, info_of (z := .agg #[.string ⟨#[]⟩, .int .u64 0]) (by kernel_rfl), rfl, (fun h => by cases h), rfl, ⟨_, Tryz.underlying13, rfl⟩, (fun ks h => by cases h)⟩
theorem rowOk_14 : RowOk Tryz.prog 14 { agg := true, size := 2, bytes := 24, zero := [.string ⟨#[]⟩, .int .u64 0], d := .struct [(0, 9), (1, 12)] } :=
  ⟨Tryz.isAgg14, info_of (z := .agg #[.string ⟨#[]⟩, .int .u64 0]) (by kernel_rfl), rfl, (fun h => by cases h), rfl, ⟨_, Tryz.underlying14, rfl⟩, (fun ks h => by cases h)⟩
theorem rowOk_15 : RowOk Tryz.prog 15 { agg := false, size := 1, bytes := 8, zero := [.pointer none], d := .ptr 295 } :=
  ⟨Tryz.isAgg15, info_of (z := .pointer none) (by kernel_rfl), rfl, fun _ => rfl, rfl, Tryz.underlying15, (fun ks h => by cases h)⟩
theorem rowOk_16 : RowOk Tryz.prog 16 { agg := false, size := 1, bytes := 8, zero := [.pointer none], d := .ptr 298 } :=
  ⟨Tryz.isAgg16, info_of (z := .pointer none) (by kernel_rfl), rfl, fun _ => rfl, rfl, Tryz.underlying16, (fun ks h => by cases h)⟩
theorem rowOk_17 : RowOk Tryz.prog 17 { agg := false, size := 1, bytes := 8, zero := [.pointer none], d := .ptr 305 } :=
  ⟨Tryz.isAgg17, info_of (z := .pointer none) (by kernel_rfl), rfl, fun _ => rfl, rfl, Tryz.underlying17, (fun ks h => by cases h)⟩
theorem rowOk_18 : RowOk Tryz.prog 18 { agg := true, size := 1, bytes := 8, zero := [.pointer none], d := .struct [(0, 17)] } :=
  ⟨Tryz.isAgg18, info_of (z := .agg #[.pointer none]) (by kernel_rfl), rfl, (fun h => by cases h), rfl, ⟨_, Tryz.underlying18, rfl⟩, (fun ks h => by cases h)⟩
theorem rowOk_19 : RowOk Tryz.prog 19 { agg := true, size := 1, bytes := 8, zero := [.pointer none], d := .struct [(0, 17)] } :=
  ⟨Tryz.isAgg19, info_of (z := .agg #[.pointer none]) (by kernel_rfl), rfl, (fun h => by cases h), rfl, ⟨_, Tryz.underlying19, rfl⟩, (fun ks h => by cases h)⟩
theorem rowOk_21 : RowOk Tryz.prog 21 { agg := false, size := 1, bytes := 4, zero := [.int .i32 0], d := .int .i32, ck := some [.i32] } :=
  ⟨Tryz.isAgg21, info_of (z := .int .i32 0) (by kernel_rfl), rfl, fun _ => rfl, rfl, Tryz.underlying21, (fun ks h => by injection h with h; subst h; exact eqOk_int Tryz.underlying21)⟩
theorem rowOk_22 : RowOk Tryz.prog 22 { agg := false, size := 1, bytes := 24, zero := [.slice none 0 0], d := .slice 32 } :=
  ⟨Tryz.isAgg22, info_of (z := .slice none 0 0) (by kernel_rfl), rfl, fun _ => rfl, rfl, Tryz.underlying22, (fun ks h => by cases h)⟩
theorem rowOk_23 : RowOk Tryz.prog 23 { agg := false, size := 1, bytes := 24, zero := [.slice none 0 0], d := .slice 34 } :=
  ⟨Tryz.isAgg23, info_of (z := .slice none 0 0) (by kernel_rfl), rfl, fun _ => rfl, rfl, Tryz.underlying23, (fun ks h => by cases h)⟩
theorem rowOk_24 : RowOk Tryz.prog 24 { agg := true, size := 2, bytes := 48, zero := [.slice none 0 0, .slice none 0 0], d := .struct [(0, 22), (1, 23)] } :=
  ⟨Tryz.isAgg24, info_of (z := .agg #[.slice none 0 0, .slice none 0 0]) (by kernel_rfl), rfl, (fun h => by cases h), rfl, ⟨_, Tryz.underlying24, rfl⟩, (fun ks h => by cases h)⟩
theorem rowOk_25 : RowOk Tryz.prog 25 { agg := true, size := 2, bytes := 48, zero := [.slice none 0 0, .slice none 0 0], d := .struct [(0, 22), (1, 23)] } :=
  ⟨Tryz.isAgg25, info_of (z := .agg #[.slice none 0 0, .slice none 0 0]) (by kernel_rfl), rfl, (fun h => by cases h), rfl, ⟨_, Tryz.underlying25, rfl⟩, (fun ks h => by cases h)⟩
theorem rowOk_28 : RowOk Tryz.prog 28 { agg := false, size := 1, bytes := 24, zero := [.slice none 0 0], d := .slice 23 } :=
  ⟨Tryz.isAgg28, info_of (z := .slice none 0 0) (by kernel_rfl), rfl, fun _ => rfl, rfl, Tryz.underlying28, (fun ks h => by cases h)⟩
theorem rowOk_30 : RowOk Tryz.prog 30 { agg := false, size := 1, bytes := 24, zero := [.slice none 0 0], d := .slice 31 } :=
  ⟨Tryz.isAgg30, info_of (z := .slice none 0 0) (by kernel_rfl), rfl, fun _ => rfl, rfl, Tryz.underlying30, (fun ks h => by cases h)⟩
theorem rowOk_31 : RowOk Tryz.prog 31 { agg := false, size := 1, bytes := 8, zero := [.map none], d := .map 32 4 } :=
  ⟨Tryz.isAgg31, info_of (z := .map none) (by kernel_rfl), rfl, fun _ => rfl, rfl, Tryz.underlying31, (fun ks h => by cases h)⟩
theorem rowOk_32 : RowOk Tryz.prog 32 { agg := false, size := 1, bytes := 4, zero := [.int .u32 0], d := .int .u32, ck := some [.u32] } :=
  ⟨Tryz.isAgg32, info_of (z := .int .u32 0) (by kernel_rfl), rfl, fun _ => rfl, rfl, Tryz.underlying32, (fun ks h => by injection h with h; subst h; exact eqOk_int Tryz.underlying32)⟩
theorem rowOk_33 : RowOk Tryz.prog 33 { agg := true, size := 3, bytes := 12, zero := [.int .u32 0, .int .u32 0, .int .u32 0], d := .struct [(0, 32), (1, 32), (2, 32)], ck := some [.u32, .u32, .u32] } :=
  ⟨Tryz.isAgg33, info_of (z := .agg #[.int .u32 0, .int .u32 0, .int .u32 0]) (by kernel_rfl), rfl, (fun h => by cases h), rfl, ⟨_, Tryz.underlying33, rfl⟩, (fun ks h => by injection h with h; subst h; exact eqOk_33)⟩
theorem rowOk_34 : RowOk Tryz.prog 34 { agg := true, size := 3, bytes := 12, zero := [.int .u32 0, .int .u32 0, .int .u32 0], d := .struct [(0, 32), (1, 32), (2, 32)], ck := some [.u32, .u32, .u32] } :=
  ⟨Tryz.isAgg34, info_of (z := .agg #[.int .u32 0, .int .u32 0, .int .u32 0]) (by kernel_rfl), rfl, (fun h => by cases h), rfl, ⟨_, Tryz.underlying34, rfl⟩, (fun ks h => by injection h with h; subst h; exact eqOk_34)⟩
theorem rowOk_36 : RowOk Tryz.prog 36 { agg := false, size := 1, bytes := 24, zero := [.slice none 0 0], d := .slice 22 } :=
  ⟨Tryz.isAgg36, info_of (z := .slice none 0 0) (by kernel_rfl), rfl, fun _ => rfl, rfl, Tryz.underlying36, (fun ks h => by cases h)⟩
theorem rowOk_40 : RowOk Tryz.prog 40 { agg := true, size := 3, bytes := 72, zero := [.slice none 0 0, .slice none 0 0, .slice none 0 0], d := .struct [(0, 25), (2, 36)] } :=
  ⟨Tryz.isAgg40, info_of (z := .agg #[.slice none 0 0, .slice none 0 0, .slice none 0 0]) (by kernel_rfl), rfl, (fun h => by cases h), rfl, ⟨_, Tryz.underlying40, rfl⟩, (fun ks h => by cases h)⟩
theorem rowOk_41 : RowOk Tryz.prog 41 { agg := true, size := 3, bytes := 72, zero := [.slice none 0 0, .slice none 0 0, .slice none 0 0], d := .struct [(0, 25), (2, 36)] } :=
  ⟨Tryz.isAgg41, info_of (z := .agg #[.slice none 0 0, .slice none 0 0, .slice none 0 0]) (by kernel_rfl), rfl, (fun h => by cases h), rfl, ⟨_, Tryz.underlying41, rfl⟩, (fun ks h => by cases h)⟩
theorem rowOk_43 : RowOk Tryz.prog 43 { agg := false, size := 1, bytes := 8, zero := [.int .i64 0], d := .int .i64, ck := some [.i64] } :=
  ⟨Tryz.isAgg43, info_of (z := .int .i64 0) (by kernel_rfl), rfl, fun _ => rfl, rfl, Tryz.underlying43, (fun ks h => by injection h with h; subst h; exact eqOk_int Tryz.underlying43)⟩
theorem rowOk_46 : RowOk Tryz.prog 46 { agg := true, size := 6, bytes := 32, zero := [.int .i64 0, .int .u32 0, .int .u32 0, .int .u32 0, .int .u32 0, .int .u32 0], d := .struct [(0, 3), (1, 32), (2, 32), (3, 32), (4, 32), (5, 32)], ck := some [.i64, .u32, .u32, .u32, .u32, .u32] } :=
  ⟨Tryz.isAgg46, info_of (z := .agg #[.int .i64 0, .int .u32 0, .int .u32 0, .int .u32 0, .int .u32 0, .int .u32 0]) (by kernel_rfl), rfl, (fun h => by cases h), rfl, ⟨_, Tryz.underlying46, rfl⟩, (fun ks h => by injection h with h; subst h; exact eqOk_46)⟩
theorem rowOk_47 : RowOk Tryz.prog 47 { agg := true, size := 6, bytes := 32, zero := [.int .i64 0, .int .u32 0, .int .u32 0, .int .u32 0, .int .u32 0, .int .u32 0], d := .struct [(0, 3), (1, 32), (2, 32), (3, 32), (4, 32), (5, 32)], ck := some [.i64, .u32, .u32, .u32, .u32, .u32] } :=
  ⟨Tryz.isAgg47, info_of (z := .agg #[.int .i64 0, .int .u32 0, .int .u32 0, .int .u32 0, .int .u32 0, .int .u32 0]) (by kernel_rfl), rfl, (fun h => by cases h), rfl, ⟨_, Tryz.underlying47, rfl⟩, (fun ks h => by injection h with h; subst h; exact eqOk_47)⟩
theorem rowOk_54 : RowOk Tryz.prog 54 { agg := false, size := 1, bytes := 24, zero := [.slice none 0 0], d := .slice 47 } :=
  ⟨Tryz.isAgg54, info_of (z := .slice none 0 0) (by kernel_rfl), rfl, fun _ => rfl, rfl, Tryz.underlying54, (fun ks h => by cases h)⟩
theorem rowOk_69 : RowOk Tryz.prog 69 { agg := false, size := 1, bytes := 8, zero := [.int .u64 0], d := .int .u64, ck := some [.u64] } :=
  ⟨Tryz.isAgg69, info_of (z := .int .u64 0) (by kernel_rfl), rfl, fun _ => rfl, rfl, Tryz.underlying69, (fun ks h => by injection h with h; subst h; exact eqOk_int Tryz.underlying69)⟩
theorem rowOk_74 : RowOk Tryz.prog 74 { agg := true, size := 1, bytes := 16, zero := [.string ⟨#[]⟩], d := .struct [(0, 9)] } :=
  ⟨Tryz.isAgg74, info_of (z := .agg #[.string ⟨#[]⟩]) (by kernel_rfl), rfl, (fun h => by cases h), rfl, ⟨_, Tryz.underlying74, rfl⟩, (fun ks h => by cases h)⟩
theorem rowOk_75 : RowOk Tryz.prog 75 { agg := true, size := 1, bytes := 16, zero := [.string ⟨#[]⟩], d := .struct [(0, 9)] } :=
  ⟨Tryz.isAgg75, info_of (z := .agg #[.string ⟨#[]⟩]) (by kernel_rfl), rfl, (fun h => by cases h), rfl, ⟨_, Tryz.underlying75, rfl⟩, (fun ks h => by cases h)⟩
theorem rowOk_78 : RowOk Tryz.prog 78 { agg := false, size := 1, bytes := 8, zero := [.pointer none], d := .ptr 152 } :=
  ⟨Tryz.isAgg78, info_of (z := .pointer none) (by kernel_rfl), rfl, fun _ => rfl, rfl, Tryz.underlying78, (fun ks h => by cases h)⟩
theorem rowOk_80 : RowOk Tryz.prog 80 { agg := false, size := 1, bytes := 8, zero := [.pointer none], d := .ptr 82 } :=
  ⟨Tryz.isAgg80, info_of (z := .pointer none) (by kernel_rfl), rfl, fun _ => rfl, rfl, Tryz.underlying80, (fun ks h => by cases h)⟩
theorem rowOk_81 : RowOk Tryz.prog 81 { agg := true, size := 2, bytes := 24, zero := [.string ⟨#[]⟩, .int .i64 0], d := .struct [(0, 9), (1, 3)] } :=
  ⟨Tryz.isAgg81, info_of (z := .agg #[.string ⟨#[]⟩, .int .i64 0]) (by kernel_rfl), rfl, (fun h => by cases h), rfl, ⟨_, Tryz.underlying81, rfl⟩, (fun ks h => by cases h)⟩
theorem rowOk_82 : RowOk Tryz.prog 82 { agg := true, size := 2, bytes := 24, zero := [.string ⟨#[]⟩, .int .i64 0], d := .struct [(0, 9), (1, 3)] } :=
  ⟨Tryz.isAgg82, info_of (z := .agg #[.string ⟨#[]⟩, .int .i64 0]) (by kernel_rfl), rfl, (fun h => by cases h), rfl, ⟨_, Tryz.underlying82, rfl⟩, (fun ks h => by cases h)⟩
theorem rowOk_89 : RowOk Tryz.prog 89 { agg := false, size := 1, bytes := 8, zero := [.pointer none], d := .ptr 94 } :=
  ⟨Tryz.isAgg89, info_of (z := .pointer none) (by kernel_rfl), rfl, fun _ => rfl, rfl, Tryz.underlying89, (fun ks h => by cases h)⟩
theorem rowOk_90 : RowOk Tryz.prog 90 { agg := false, size := 1, bytes := 8, zero := [.map none], d := .map 32 92 } :=
  ⟨Tryz.isAgg90, info_of (z := .map none) (by kernel_rfl), rfl, fun _ => rfl, rfl, Tryz.underlying90, (fun ks h => by cases h)⟩
theorem rowOk_91 : RowOk Tryz.prog 91 { agg := false, size := 1, bytes := 8, zero := [.map none], d := .map 32 3 } :=
  ⟨Tryz.isAgg91, info_of (z := .map none) (by kernel_rfl), rfl, fun _ => rfl, rfl, Tryz.underlying91, (fun ks h => by cases h)⟩
theorem rowOk_92 : RowOk Tryz.prog 92 { agg := false, size := 1, bytes := 24, zero := [.slice none 0 0], d := .slice 3 } :=
  ⟨Tryz.isAgg92, info_of (z := .slice none 0 0) (by kernel_rfl), rfl, fun _ => rfl, rfl, Tryz.underlying92, (fun ks h => by cases h)⟩
theorem rowOk_93 : RowOk Tryz.prog 93 { agg := true, size := 6, bytes := 96, zero := [.slice none 0 0, .map none, .map none, .map none, .slice none 0 0, .slice none 0 0], d := .struct [(0, 23), (1, 90), (2, 91), (3, 91), (4, 92), (5, 28)] } :=
  ⟨Tryz.isAgg93, info_of (z := .agg #[.slice none 0 0, .map none, .map none, .map none, .slice none 0 0, .slice none 0 0]) (by kernel_rfl), rfl, (fun h => by cases h), rfl, ⟨_, Tryz.underlying93, rfl⟩, (fun ks h => by cases h)⟩
theorem rowOk_94 : RowOk Tryz.prog 94 { agg := true, size := 6, bytes := 96, zero := [.slice none 0 0, .map none, .map none, .map none, .slice none 0 0, .slice none 0 0], d := .struct [(0, 23), (1, 90), (2, 91), (3, 91), (4, 92), (5, 28)] } :=
  ⟨Tryz.isAgg94, info_of (z := .agg #[.slice none 0 0, .map none, .map none, .map none, .slice none 0 0, .slice none 0 0]) (by kernel_rfl), rfl, (fun h => by cases h), rfl, ⟨_, Tryz.underlying94, rfl⟩, (fun ks h => by cases h)⟩
theorem rowOk_100 : RowOk Tryz.prog 100 { agg := false, size := 1, bytes := 8, zero := [.nilFunc], d := .func } :=
  ⟨Tryz.isAgg100, info_of (z := .nilFunc) (by kernel_rfl), rfl, fun _ => rfl, rfl, ⟨_, _, _, Tryz.underlying100⟩, (fun ks h => by cases h)⟩
theorem rowOk_102 : RowOk Tryz.prog 102 { agg := false, size := 1, bytes := 8, zero := [.nilFunc], d := .func } :=
  ⟨Tryz.isAgg102, info_of (z := .nilFunc) (by kernel_rfl), rfl, fun _ => rfl, rfl, ⟨_, _, _, Tryz.underlying102⟩, (fun ks h => by cases h)⟩
theorem rowOk_103 : RowOk Tryz.prog 103 { agg := false, size := 1, bytes := 8, zero := [.map none], d := .map 32 22 } :=
  ⟨Tryz.isAgg103, info_of (z := .map none) (by kernel_rfl), rfl, fun _ => rfl, rfl, Tryz.underlying103, (fun ks h => by cases h)⟩
theorem rowOk_109 : RowOk Tryz.prog 109 { agg := false, size := 1, bytes := 8, zero := [.pointer none], d := .ptr 112 } :=
  ⟨Tryz.isAgg109, info_of (z := .pointer none) (by kernel_rfl), rfl, fun _ => rfl, rfl, Tryz.underlying109, (fun ks h => by cases h)⟩
theorem rowOk_111 : RowOk Tryz.prog 111 { agg := true, size := 3, bytes := 72, zero := [.slice none 0 0, .slice none 0 0, .slice none 0 0], d := .struct [(0, 41)] } :=
  ⟨Tryz.isAgg111, info_of (z := .agg #[.slice none 0 0, .slice none 0 0, .slice none 0 0]) (by kernel_rfl), rfl, (fun h => by cases h), rfl, ⟨_, Tryz.underlying111, rfl⟩, (fun ks h => by cases h)⟩
theorem rowOk_112 : RowOk Tryz.prog 112 { agg := true, size := 3, bytes := 72, zero := [.slice none 0 0, .slice none 0 0, .slice none 0 0], d := .struct [(0, 41)] } :=
  ⟨Tryz.isAgg112, info_of (z := .agg #[.slice none 0 0, .slice none 0 0, .slice none 0 0]) (by kernel_rfl), rfl, (fun h => by cases h), rfl, ⟨_, Tryz.underlying112, rfl⟩, (fun ks h => by cases h)⟩
theorem rowOk_114 : RowOk Tryz.prog 114 { agg := false, size := 1, bytes := 8, zero := [.map none], d := .map 32 32 } :=
  ⟨Tryz.isAgg114, info_of (z := .map none) (by kernel_rfl), rfl, fun _ => rfl, rfl, Tryz.underlying114, (fun ks h => by cases h)⟩
theorem rowOk_134 : RowOk Tryz.prog 134 { agg := false, size := 1, bytes := 24, zero := [.slice none 0 0], d := .slice 4 } :=
  ⟨Tryz.isAgg134, info_of (z := .slice none 0 0) (by kernel_rfl), rfl, fun _ => rfl, rfl, Tryz.underlying134, (fun ks h => by cases h)⟩
theorem rowOk_141 : RowOk Tryz.prog 141 { agg := true, size := 32, bytes := 32, zero := [.int .u8 0, .int .u8 0, .int .u8 0, .int .u8 0, .int .u8 0, .int .u8 0, .int .u8 0, .int .u8 0, .int .u8 0, .int .u8 0, .int .u8 0, .int .u8 0, .int .u8 0, .int .u8 0, .int .u8 0, .int .u8 0, .int .u8 0, .int .u8 0, .int .u8 0, .int .u8 0, .int .u8 0, .int .u8 0, .int .u8 0, .int .u8 0, .int .u8 0, .int .u8 0, .int .u8 0, .int .u8 0, .int .u8 0, .int .u8 0, .int .u8 0, .int .u8 0], d := .arr 32 5 } :=
  ⟨Tryz.isAgg141, info_of (z := .agg #[.int .u8 0, .int .u8 0, .int .u8 0, .int .u8 0, .int .u8 0, .int .u8 0, .int .u8 0, .int .u8 0, .int .u8 0, .int .u8 0, .int .u8 0, .int .u8 0, .int .u8 0, .int .u8 0, .int .u8 0, .int .u8 0, .int .u8 0, .int .u8 0, .int .u8 0, .int .u8 0, .int .u8 0, .int .u8 0, .int .u8 0, .int .u8 0, .int .u8 0, .int .u8 0, .int .u8 0, .int .u8 0, .int .u8 0, .int .u8 0, .int .u8 0, .int .u8 0]) (by kernel_rfl), rfl, (fun h => by cases h), rfl, Tryz.underlying141, (fun ks h => by cases h)⟩
theorem rowOk_142 : RowOk Tryz.prog 142 { agg := true, size := 32, bytes := 32, zero := [.int .u8 0, .int .u8 0, .int .u8 0, .int .u8 0, .int .u8 0, .int .u8 0, .int .u8 0, .int .u8 0, .int .u8 0, .int .u8 0, .int .u8 0, .int .u8 0, .int .u8 0, .int .u8 0, .int .u8 0, .int .u8 0, .int .u8 0, .int .u8 0, .int .u8 0, .int .u8 0, .int .u8 0, .int .u8 0, .int .u8 0, .int .u8 0, .int .u8 0, .int .u8 0, .int .u8 0, .int .u8 0, .int .u8 0, .int .u8 0, .int .u8 0, .int .u8 0], d := .arr 32 5 } :=
  ⟨Tryz.isAgg142, info_of (z := .agg #[.int .u8 0, .int .u8 0, .int .u8 0, .int .u8 0, .int .u8 0, .int .u8 0, .int .u8 0, .int .u8 0, .int .u8 0, .int .u8 0, .int .u8 0, .int .u8 0, .int .u8 0, .int .u8 0, .int .u8 0, .int .u8 0, .int .u8 0, .int .u8 0, .int .u8 0, .int .u8 0, .int .u8 0, .int .u8 0, .int .u8 0, .int .u8 0, .int .u8 0, .int .u8 0, .int .u8 0, .int .u8 0, .int .u8 0, .int .u8 0, .int .u8 0, .int .u8 0]) (by kernel_rfl), rfl, (fun h => by cases h), rfl, Tryz.underlying142, (fun ks h => by cases h)⟩
theorem rowOk_149 : RowOk Tryz.prog 149 { agg := true, size := 1, bytes := 8, zero := [.int .i64 0], d := .struct [(0, 43)], ck := some [.i64] } :=
  ⟨Tryz.isAgg149, info_of (z := .agg #[.int .i64 0]) (by kernel_rfl), rfl, (fun h => by cases h), rfl, ⟨_, Tryz.underlying149, rfl⟩, (fun ks h => by injection h with h; subst h; exact eqOk_149)⟩
theorem rowOk_150 : RowOk Tryz.prog 150 { agg := true, size := 1, bytes := 8, zero := [.int .i64 0], d := .struct [(0, 43)], ck := some [.i64] } :=
  ⟨Tryz.isAgg150, info_of (z := .agg #[.int .i64 0]) (by kernel_rfl), rfl, (fun h => by cases h), rfl, ⟨_, Tryz.underlying150, rfl⟩, (fun ks h => by injection h with h; subst h; exact eqOk_150)⟩
theorem rowOk_151 : RowOk Tryz.prog 151 { agg := true, size := 2, bytes := 24, zero := [.int .i64 0, .string ⟨#[]⟩], d := .struct [(0, 150), (1, 9)] } :=
  ⟨Tryz.isAgg151, info_of (z := .agg #[.int .i64 0, .string ⟨#[]⟩]) (by kernel_rfl), rfl, (fun h => by cases h), rfl, ⟨_, Tryz.underlying151, rfl⟩, (fun ks h => by cases h)⟩
theorem rowOk_152 : RowOk Tryz.prog 152 { agg := true, size := 2, bytes := 24, zero := [.int .i64 0, .string ⟨#[]⟩], d := .struct [(0, 150), (1, 9)] } :=
  ⟨Tryz.isAgg152, info_of (z := .agg #[.int .i64 0, .string ⟨#[]⟩]) (by kernel_rfl), rfl, (fun h => by cases h), rfl, ⟨_, Tryz.underlying152, rfl⟩, (fun ks h => by cases h)⟩
theorem rowOk_160 : RowOk Tryz.prog 160 { agg := false, size := 1, bytes := 8, zero := [.int .u64 0], d := .int .u64, ck := some [.u64] } :=
  ⟨Tryz.isAgg160, info_of (z := .int .u64 0) (by kernel_rfl), rfl, fun _ => rfl, rfl, Tryz.underlying160, (fun ks h => by injection h with h; subst h; exact eqOk_int Tryz.underlying160)⟩
theorem rowOk_189 : RowOk Tryz.prog 189 { agg := false, size := 1, bytes := 24, zero := [.slice none 0 0], d := .slice 5 } :=
  ⟨Tryz.isAgg189, info_of (z := .slice none 0 0) (by kernel_rfl), rfl, fun _ => rfl, rfl, Tryz.underlying189, (fun ks h => by cases h)⟩
theorem rowOk_190 : RowOk Tryz.prog 190 { agg := false, size := 1, bytes := 8, zero := [.pointer none], d := .ptr 192 } :=
  ⟨Tryz.isAgg190, info_of (z := .pointer none) (by kernel_rfl), rfl, fun _ => rfl, rfl, Tryz.underlying190, (fun ks h => by cases h)⟩
theorem rowOk_191 : RowOk Tryz.prog 191 { agg := true, size := 2, bytes := 32, zero := [.pointer none, .slice none 0 0], d := .struct [(0, 190), (1, 189)] } :=
  ⟨Tryz.isAgg191, info_of (z := .agg #[.pointer none, .slice none 0 0]) (by kernel_rfl), rfl, (fun h => by cases h), rfl, ⟨_, Tryz.underlying191, rfl⟩, (fun ks h => by cases h)⟩
theorem rowOk_192 : RowOk Tryz.prog 192 { agg := true, size := 2, bytes := 32, zero := [.pointer none, .slice none 0 0], d := .struct [(0, 190), (1, 189)] } :=
  ⟨Tryz.isAgg192, info_of (z := .agg #[.pointer none, .slice none 0 0]) (by kernel_rfl), rfl, (fun h => by cases h), rfl, ⟨_, Tryz.underlying192, rfl⟩, (fun ks h => by cases h)⟩
theorem rowOk_198 : RowOk Tryz.prog 198 { agg := false, size := 1, bytes := 8, zero := [.pointer none], d := .ptr 32 } :=
  ⟨Tryz.isAgg198, info_of (z := .pointer none) (by kernel_rfl), rfl, fun _ => rfl, rfl, Tryz.underlying198, (fun ks h => by cases h)⟩
theorem rowOk_199 : RowOk Tryz.prog 199 { agg := false, size := 1, bytes := 24, zero := [.slice none 0 0], d := .slice 198 } :=
  ⟨Tryz.isAgg199, info_of (z := .slice none 0 0) (by kernel_rfl), rfl, fun _ => rfl, rfl, Tryz.underlying199, (fun ks h => by cases h)⟩
theorem rowOk_202 : RowOk Tryz.prog 202 { agg := false, size := 1, bytes := 8, zero := [.int .i64 0], d := .int .i64, ck := some [.i64] } :=
  ⟨Tryz.isAgg202, info_of (z := .int .i64 0) (by kernel_rfl), rfl, fun _ => rfl, rfl, Tryz.underlying202, (fun ks h => by injection h with h; subst h; exact eqOk_int Tryz.underlying202)⟩
theorem rowOk_234 : RowOk Tryz.prog 234 { agg := false, size := 1, bytes := 8, zero := [.pointer none], d := .ptr 150 } :=
  ⟨Tryz.isAgg234, info_of (z := .pointer none) (by kernel_rfl), rfl, fun _ => rfl, rfl, Tryz.underlying234, (fun ks h => by cases h)⟩
theorem rowOk_235 : RowOk Tryz.prog 235 { agg := false, size := 1, bytes := 24, zero := [.slice none 0 0], d := .slice 9 } :=
  ⟨Tryz.isAgg235, info_of (z := .slice none 0 0) (by kernel_rfl), rfl, fun _ => rfl, rfl, Tryz.underlying235, (fun ks h => by cases h)⟩
theorem rowOk_236 : RowOk Tryz.prog 236 { agg := true, size := 8, bytes := 8, zero := [.int .u8 0, .int .u8 0, .int .u8 0, .int .u8 0, .int .u8 0, .int .u8 0, .int .u8 0, .int .u8 0], d := .arr 8 5 } :=
  ⟨Tryz.isAgg236, info_of (z := .agg #[.int .u8 0, .int .u8 0, .int .u8 0, .int .u8 0, .int .u8 0, .int .u8 0, .int .u8 0, .int .u8 0]) (by kernel_rfl), rfl, (fun h => by cases h), rfl, Tryz.underlying236, (fun ks h => by cases h)⟩
theorem rowOk_237 : RowOk Tryz.prog 237 { agg := false, size := 1, bytes := 8, zero := [.pointer none], d := .ptr 5 } :=
  ⟨Tryz.isAgg237, info_of (z := .pointer none) (by kernel_rfl), rfl, fun _ => rfl, rfl, Tryz.underlying237, (fun ks h => by cases h)⟩
theorem rowOk_240 : RowOk Tryz.prog 240 { agg := false, size := 1, bytes := 8, zero := [.int .u64 0], d := .int .u64, ck := some [.u64] } :=
  ⟨Tryz.isAgg240, info_of (z := .int .u64 0) (by kernel_rfl), rfl, fun _ => rfl, rfl, Tryz.underlying240, (fun ks h => by injection h with h; subst h; exact eqOk_int Tryz.underlying240)⟩
theorem rowOk_243 : RowOk Tryz.prog 243 { agg := false, size := 1, bytes := 8, zero := [.pointer none], d := .ptr 3 } :=
  ⟨Tryz.isAgg243, info_of (z := .pointer none) (by kernel_rfl), rfl, fun _ => rfl, rfl, Tryz.underlying243, (fun ks h => by cases h)⟩
theorem rowOk_258 : RowOk Tryz.prog 258 { agg := false, size := 1, bytes := 8, zero := [.pointer none], d := .ptr 260 } :=
  ⟨Tryz.isAgg258, info_of (z := .pointer none) (by kernel_rfl), rfl, fun _ => rfl, rfl, Tryz.underlying258, (fun ks h => by cases h)⟩
theorem rowOk_259 : RowOk Tryz.prog 259 { agg := true, size := 7, bytes := 136, zero := [.slice none 0 0, .slice none 0 0, .slice none 0 0, .map none, .map none, .slice none 0 0, .slice none 0 0], d := .struct [(0, 41), (3, 114), (4, 114), (5, 22), (6, 22)] } :=
  ⟨Tryz.isAgg259, info_of (z := .agg #[.slice none 0 0, .slice none 0 0, .slice none 0 0, .map none, .map none, .slice none 0 0, .slice none 0 0]) (by kernel_rfl), rfl, (fun h => by cases h), rfl, ⟨_, Tryz.underlying259, rfl⟩, (fun ks h => by cases h)⟩
theorem rowOk_260 : RowOk Tryz.prog 260 { agg := true, size := 7, bytes := 136, zero := [.slice none 0 0, .slice none 0 0, .slice none 0 0, .map none, .map none, .slice none 0 0, .slice none 0 0], d := .struct [(0, 41), (3, 114), (4, 114), (5, 22), (6, 22)] } :=
  ⟨Tryz.isAgg260, info_of (z := .agg #[.slice none 0 0, .slice none 0 0, .slice none 0 0, .map none, .map none, .slice none 0 0, .slice none 0 0]) (by kernel_rfl), rfl, (fun h => by cases h), rfl, ⟨_, Tryz.underlying260, rfl⟩, (fun ks h => by cases h)⟩
theorem rowOk_277 : RowOk Tryz.prog 277 { agg := false, size := 1, bytes := 8, zero := [.pointer none], d := .ptr 240 } :=
  ⟨Tryz.isAgg277, info_of (z := .pointer none) (by kernel_rfl), rfl, fun _ => rfl, rfl, Tryz.underlying277, (fun ks h => by cases h)⟩
theorem rowOk_294 : RowOk Tryz.prog 294 { agg := true, size := 4, bytes := 40, zero := [.pointer none, .pointer none, .pointer none, .string ⟨#[]⟩], d := .struct [(0, 17), (1, 17), (2, 17), (3, 9)] } :=
  ⟨Tryz.isAgg294, info_of (z := .agg #[.pointer none, .pointer none, .pointer none, .string ⟨#[]⟩]) (by kernel_rfl), rfl, (fun h => by cases h), rfl, ⟨_, Tryz.underlying294, rfl⟩, (fun ks h => by cases h)⟩
theorem rowOk_295 : RowOk Tryz.prog 295 { agg := true, size := 4, bytes := 40, zero := [.pointer none, .pointer none, .pointer none, .string ⟨#[]⟩], d := .struct [(0, 17), (1, 17), (2, 17), (3, 9)] } :=
  ⟨Tryz.isAgg295, info_of (z := .agg #[.pointer none, .pointer none, .pointer none, .string ⟨#[]⟩]) (by kernel_rfl), rfl, (fun h => by cases h), rfl, ⟨_, Tryz.underlying295, rfl⟩, (fun ks h => by cases h)⟩
theorem rowOk_296 : RowOk Tryz.prog 296 { agg := true, size := 0, bytes := 0, zero := [], d := .arr 0 16 } :=
  ⟨Tryz.isAgg296, info_of (z := .agg #[]) (by kernel_rfl), rfl, (fun h => by cases h), rfl, Tryz.underlying296, (fun ks h => by cases h)⟩
theorem rowOk_297 : RowOk Tryz.prog 297 { agg := true, size := 0, bytes := 0, zero := [], d := .struct [(0, 296)] } :=
  ⟨Tryz.isAgg297, info_of (z := .agg #[]) (by kernel_rfl), rfl, (fun h => by cases h), rfl, ⟨_, Tryz.underlying297, rfl⟩, (fun ks h => by cases h)⟩
theorem rowOk_298 : RowOk Tryz.prog 298 { agg := true, size := 0, bytes := 0, zero := [], d := .struct [(0, 296)] } :=
  ⟨Tryz.isAgg298, info_of (z := .agg #[]) (by kernel_rfl), rfl, (fun h => by cases h), rfl, ⟨_, Tryz.underlying298, rfl⟩, (fun ks h => by cases h)⟩
theorem rowOk_299 : RowOk Tryz.prog 299 { agg := false, size := 1, bytes := 1, zero := [.int .u8 0], d := .int .u8, ck := some [.u8] } :=
  ⟨Tryz.isAgg299, info_of (z := .int .u8 0) (by kernel_rfl), rfl, fun _ => rfl, rfl, Tryz.underlying299, (fun ks h => by injection h with h; subst h; exact eqOk_int Tryz.underlying299)⟩
theorem rowOk_300 : RowOk Tryz.prog 300 { agg := false, size := 1, bytes := 1, zero := [.int .u8 0], d := .int .u8, ck := some [.u8] } :=
  ⟨Tryz.isAgg300, info_of (z := .int .u8 0) (by kernel_rfl), rfl, fun _ => rfl, rfl, Tryz.underlying300, (fun ks h => by injection h with h; subst h; exact eqOk_int Tryz.underlying300)⟩
theorem rowOk_302 : RowOk Tryz.prog 302 { agg := false, size := 1, bytes := 4, zero := [.int .i32 0], d := .int .i32, ck := some [.i32] } :=
  ⟨Tryz.isAgg302, info_of (z := .int .i32 0) (by kernel_rfl), rfl, fun _ => rfl, rfl, Tryz.underlying302, (fun ks h => by injection h with h; subst h; exact eqOk_int Tryz.underlying302)⟩
theorem rowOk_303 : RowOk Tryz.prog 303 { agg := false, size := 1, bytes := 4, zero := [.int .i32 0], d := .int .i32, ck := some [.i32] } :=
  ⟨Tryz.isAgg303, info_of (z := .int .i32 0) (by kernel_rfl), rfl, fun _ => rfl, rfl, Tryz.underlying303, (fun ks h => by injection h with h; subst h; exact eqOk_int Tryz.underlying303)⟩
theorem rowOk_304 : RowOk Tryz.prog 304 { agg := true, size := 11, bytes := 48, zero := [.int .u64 0, .int .u64 0, .int .u32 0, .int .u8 0, .int .u8 0, .int .u8 0, .int .u8 0, .nilFunc, .pointer none, .int .i32 0, .int .i32 0], d := .struct [(0, 12), (1, 12), (2, 32), (3, 299), (4, 5), (5, 5), (6, 300), (7, 301), (8, 237), (9, 302), (10, 303)] } :=
  ⟨Tryz.isAgg304, info_of (z := .agg #[.int .u64 0, .int .u64 0, .int .u32 0, .int .u8 0, .int .u8 0, .int .u8 0, .int .u8 0, .nilFunc, .pointer none, .int .i32 0, .int .i32 0]) (by kernel_rfl), rfl, (fun h => by cases h), rfl, ⟨_, Tryz.underlying304, rfl⟩, (fun ks h => by cases h)⟩
theorem rowOk_305 : RowOk Tryz.prog 305 { agg := true, size := 11, bytes := 48, zero := [.int .u64 0, .int .u64 0, .int .u32 0, .int .u8 0, .int .u8 0, .int .u8 0, .int .u8 0, .nilFunc, .pointer none, .int .i32 0, .int .i32 0], d := .struct [(0, 12), (1, 12), (2, 32), (3, 299), (4, 5), (5, 5), (6, 300), (7, 301), (8, 237), (9, 302), (10, 303)] } :=
  ⟨Tryz.isAgg305, info_of (z := .agg #[.int .u64 0, .int .u64 0, .int .u32 0, .int .u8 0, .int .u8 0, .int .u8 0, .int .u8 0, .nilFunc, .pointer none, .int .i32 0, .int .i32 0]) (by kernel_rfl), rfl, (fun h => by cases h), rfl, ⟨_, Tryz.underlying305, rfl⟩, (fun ks h => by cases h)⟩
theorem tabOk : TabOk Tryz.prog tab := tabOk_of tabL ⟨rowOk_2, rowOk_3, rowOk_4, rowOk_5, rowOk_6, rowOk_7, rowOk_8, rowOk_9, rowOk_10, rowOk_11, rowOk_12, rowOk_13, rowOk_14, rowOk_15, rowOk_16, rowOk_17, rowOk_18, rowOk_19, rowOk_21, rowOk_22, rowOk_23, rowOk_24, rowOk_25, rowOk_28, rowOk_30, rowOk_31, rowOk_32, rowOk_33, rowOk_34, rowOk_36, rowOk_40, rowOk_41, rowOk_43, rowOk_46, rowOk_47, rowOk_54, rowOk_69, rowOk_74, rowOk_75, rowOk_78, rowOk_80, rowOk_81, rowOk_82, rowOk_89, rowOk_90, rowOk_91, rowOk_92, rowOk_93, rowOk_94, rowOk_100, rowOk_102, rowOk_103, rowOk_109, rowOk_111, rowOk_112, rowOk_114, rowOk_134, rowOk_141, rowOk_142, rowOk_149, rowOk_150, rowOk_151, rowOk_152, rowOk_160, rowOk_189, rowOk_190, rowOk_191, rowOk_192, rowOk_198, rowOk_199, rowOk_202, rowOk_234, rowOk_235, rowOk_236, rowOk_237, rowOk_240, rowOk_243, rowOk_258, rowOk_259, rowOk_260, rowOk_277, rowOk_294, rowOk_295, rowOk_296, rowOk_297, rowOk_298, rowOk_299, rowOk_300, rowOk_302, rowOk_303, rowOk_304, rowOk_305, trivial⟩
end Go.Proofs.YtjpnhjembncdkaaGreat.Aw
