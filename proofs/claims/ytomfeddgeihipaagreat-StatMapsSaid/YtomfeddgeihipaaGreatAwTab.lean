/- The types of this seat's translation, as a table, and that the loaded program has them so. Written by a program (gentab.py). -/
import Derived.Test.YtomfeddgeihipaaGreatAwDraw
import Derived.Test.YtomfeddgeihipaaGreatAwArr
import Derived.Test.YtomfeddgeihipaaGreatProg
import Derived.KernelRfl
import Derived.Tactics
import Derived.Laws.StructEq
namespace Go.Proofs.YtomfeddgeihipaaGreat.Aw
open Go Go.RowKit
set_option linter.unusedSimpArgs false
set_option linter.unusedVariables false
def tabL : List (Nat × TRow) := [
  (2, { agg := false, size := 1, bytes := 8, zero := [.int .i64 0], d := .int .i64, ck := some [.i64] }),
  (3, { agg := false, size := 1, bytes := 8, zero := [.int .i64 0], d := .int .i64, ck := some [.i64] }),
  (4, { agg := false, size := 1, bytes := 1, zero := [.bool false], d := .bool }),
  (5, { agg := false, size := 1, bytes := 1, zero := [.int .u8 0], d := .int .u8, ck := some [.u8] }),
  (6, { agg := false, size := 1, bytes := 1, zero := [.int .u8 0], d := .int .u8, ck := some [.u8] }),
  (7, { agg := true, size := 4, bytes := 24, zero := [.int .i64 0, .int .i64 0, .bool false, .int .u8 0], d := .struct [(0, 2), (1, 3), (2, 4), (3, 6)] }),
  (8, { agg := true, size := 4, bytes := 24, zero := [.int .i64 0, .int .i64 0, .bool false, .int .u8 0], d := .struct [(0, 2), (1, 3), (2, 4), (3, 6)] }),
  (9, { agg := false, size := 1, bytes := 16, zero := [.string ⟨#[]⟩], d := .str }),
  (10, { agg := false, size := 1, bytes := 16, zero := [.string ⟨#[]⟩], d := .str }),
  (11, { agg := false, size := 1, bytes := 16, zero := [.string ⟨#[]⟩], d := .str }),
  (12, { agg := false, size := 1, bytes := 8, zero := [.int .u64 0], d := .int .u64, ck := some [.u64] }),
  (13, { agg := true, size := 2, bytes := 24, zero := [.string ⟨#[]⟩, .int .u64 0], d := .struct [(0, 9), (1, 12)] }),
  (14, { agg := true, size := 2, bytes := 24, zero := [.string ⟨#[]⟩, .int .u64 0], d := .struct [(0, 9), (1, 12)] }),
  (15, { agg := false, size := 1, bytes := 8, zero := [.pointer none], d := .ptr 217 }),
  (16, { agg := false, size := 1, bytes := 8, zero := [.pointer none], d := .ptr 220 }),
  (17, { agg := false, size := 1, bytes := 8, zero := [.pointer none], d := .ptr 228 }),
  (18, { agg := true, size := 1, bytes := 8, zero := [.pointer none], d := .struct [(0, 17)] }),
  (19, { agg := true, size := 1, bytes := 8, zero := [.pointer none], d := .struct [(0, 17)] }),
  (21, { agg := false, size := 1, bytes := 4, zero := [.int .i32 0], d := .int .i32, ck := some [.i32] }),
  (22, { agg := false, size := 1, bytes := 24, zero := [.slice none 0 0], d := .slice 27 }),
  (24, { agg := false, size := 1, bytes := 8, zero := [.map none], d := .map 3 3 }),
  (25, { agg := false, size := 1, bytes := 8, zero := [.map none], d := .map 3 3 }),
  (26, { agg := false, size := 1, bytes := 24, zero := [.slice none 0 0], d := .slice 3 }),
  (27, { agg := false, size := 1, bytes := 2, zero := [.int .i16 0], d := .int .i16, ck := some [.i16] }),
  (35, { agg := false, size := 1, bytes := 24, zero := [.slice none 0 0], d := .slice 41 }),
  (36, { agg := false, size := 1, bytes := 24, zero := [.slice none 0 0], d := .slice 43 }),
  (37, { agg := true, size := 2, bytes := 48, zero := [.slice none 0 0, .slice none 0 0], d := .struct [(0, 35), (1, 36)] }),
  (38, { agg := true, size := 2, bytes := 48, zero := [.slice none 0 0, .slice none 0 0], d := .struct [(0, 35), (1, 36)] }),
  (40, { agg := false, size := 1, bytes := 8, zero := [.map none], d := .map 41 3 }),
  (41, { agg := false, size := 1, bytes := 4, zero := [.int .u32 0], d := .int .u32, ck := some [.u32] }),
  (42, { agg := true, size := 3, bytes := 12, zero := [.int .u32 0, .int .u32 0, .int .u32 0], d := .struct [(0, 41), (1, 41), (2, 41)], ck := some [.u32, .u32, .u32] }),
  (43, { agg := true, size := 3, bytes := 12, zero := [.int .u32 0, .int .u32 0, .int .u32 0], d := .struct [(0, 41), (1, 41), (2, 41)], ck := some [.u32, .u32, .u32] }),
  (44, { agg := false, size := 1, bytes := 8, zero := [.map none], d := .map 3 4 }),
  (48, { agg := false, size := 1, bytes := 24, zero := [.slice none 0 0], d := .slice 35 }),
  (57, { agg := false, size := 1, bytes := 24, zero := [.slice none 0 0], d := .slice 36 }),
  (59, { agg := false, size := 1, bytes := 24, zero := [.slice none 0 0], d := .slice 60 }),
  (60, { agg := false, size := 1, bytes := 8, zero := [.map none], d := .map 41 4 }),
  (65, { agg := false, size := 1, bytes := 8, zero := [.nilFunc], d := .func }),
  (84, { agg := true, size := 3, bytes := 72, zero := [.slice none 0 0, .slice none 0 0, .slice none 0 0], d := .struct [(0, 38), (2, 48)] }),
  (85, { agg := true, size := 3, bytes := 72, zero := [.slice none 0 0, .slice none 0 0, .slice none 0 0], d := .struct [(0, 38), (2, 48)] }),
  (87, { agg := true, size := 7, bytes := 56, zero := [.map none, .int .i64 0, .int .i64 0, .int .i64 0, .int .i64 0, .int .i64 0, .int .i64 0], d := .struct [(0, 25), (1, 3), (2, 3), (3, 3), (4, 3), (5, 3), (6, 3)] }),
  (88, { agg := true, size := 7, bytes := 56, zero := [.map none, .int .i64 0, .int .i64 0, .int .i64 0, .int .i64 0, .int .i64 0, .int .i64 0], d := .struct [(0, 25), (1, 3), (2, 3), (3, 3), (4, 3), (5, 3), (6, 3)] }),
  (98, { agg := false, size := 1, bytes := 8, zero := [.int .u64 0], d := .int .u64, ck := some [.u64] }),
  (99, { agg := false, size := 1, bytes := 8, zero := [.map none], d := .map 3 100 }),
  (100, { agg := true, size := 0, bytes := 0, zero := [], d := .struct [] }),
  (102, { agg := false, size := 1, bytes := 8, zero := [.map none], d := .map 103 3 }),
  (103, { agg := true, size := 2, bytes := 8, zero := [.int .u32 0, .int .u32 0], d := .arr 2 41, ck := some [.u32, .u32] }),
  (106, { agg := false, size := 1, bytes := 8, zero := [.map none], d := .map 41 35 }),
  (108, { agg := false, size := 1, bytes := 8, zero := [.pointer none], d := .ptr 111 }),
  (109, { agg := false, size := 1, bytes := 8, zero := [.map none], d := .map 41 26 }),
  (110, { agg := true, size := 6, bytes := 96, zero := [.slice none 0 0, .map none, .map none, .map none, .slice none 0 0, .slice none 0 0], d := .struct [(0, 36), (1, 109), (2, 40), (3, 40), (4, 26), (5, 57)] }),
  (111, { agg := true, size := 6, bytes := 96, zero := [.slice none 0 0, .map none, .map none, .map none, .slice none 0 0, .slice none 0 0], d := .struct [(0, 36), (1, 109), (2, 40), (3, 40), (4, 26), (5, 57)] }),
  (117, { agg := false, size := 1, bytes := 8, zero := [.nilFunc], d := .func }),
  (119, { agg := false, size := 1, bytes := 8, zero := [.nilFunc], d := .func }),
  (122, { agg := false, size := 1, bytes := 8, zero := [.map none], d := .map 41 41 }),
  (130, { agg := false, size := 1, bytes := 8, zero := [.map none], d := .map 41 100 }),
  (135, { agg := false, size := 1, bytes := 8, zero := [.int .i64 0], d := .int .i64, ck := some [.i64] }),
  (144, { agg := false, size := 1, bytes := 8, zero := [.int .u64 0], d := .int .u64, ck := some [.u64] }),
  (163, { agg := false, size := 1, bytes := 8, zero := [.int .i64 0], d := .int .i64, ck := some [.i64] }),
  (165, { agg := false, size := 1, bytes := 8, zero := [.int .u64 0], d := .int .u64, ck := some [.u64] }),
  (169, { agg := false, size := 1, bytes := 8, zero := [.pointer none], d := .ptr 3 }),
  (187, { agg := false, size := 1, bytes := 8, zero := [.pointer none], d := .ptr 165 }),
  (216, { agg := true, size := 4, bytes := 40, zero := [.pointer none, .pointer none, .pointer none, .string ⟨#[]⟩], d := .struct [(0, 17), (1, 17), (2, 17), (3, 9)] }),
  (217, { agg := true, size := 4, bytes := 40, zero := [.pointer none, .pointer none, .pointer none, .string ⟨#[]⟩], d := .struct [(0, 17), (1, 17), (2, 17), (3, 9)] }),
  (218, { agg := true, size := 0, bytes := 0, zero := [], d := .arr 0 16 }),
  (219, { agg := true, size := 0, bytes := 0, zero := [], d := .struct [(0, 218)] }),
  (220, { agg := true, size := 0, bytes := 0, zero := [], d := .struct [(0, 218)] }),
  (221, { agg := false, size := 1, bytes := 1, zero := [.int .u8 0], d := .int .u8, ck := some [.u8] }),
  (222, { agg := false, size := 1, bytes := 1, zero := [.int .u8 0], d := .int .u8, ck := some [.u8] }),
  (224, { agg := false, size := 1, bytes := 8, zero := [.pointer none], d := .ptr 5 }),
  (225, { agg := false, size := 1, bytes := 4, zero := [.int .i32 0], d := .int .i32, ck := some [.i32] }),
  (226, { agg := false, size := 1, bytes := 4, zero := [.int .i32 0], d := .int .i32, ck := some [.i32] }),
  (227, { agg := true, size := 11, bytes := 48, zero := [.int .u64 0, .int .u64 0, .int .u32 0, .int .u8 0, .int .u8 0, .int .u8 0, .int .u8 0, .nilFunc, .pointer none, .int .i32 0, .int .i32 0], d := .struct [(0, 12), (1, 12), (2, 41), (3, 221), (4, 5), (5, 5), (6, 222), (7, 223), (8, 224), (9, 225), (10, 226)] }),
  (228, { agg := true, size := 11, bytes := 48, zero := [.int .u64 0, .int .u64 0, .int .u32 0, .int .u8 0, .int .u8 0, .int .u8 0, .int .u8 0, .nilFunc, .pointer none, .int .i32 0, .int .i32 0], d := .struct [(0, 12), (1, 12), (2, 41), (3, 221), (4, 5), (5, 5), (6, 222), (7, 223), (8, 224), (9, 225), (10, 226)] })]
def tab : Tab := lookT tabL
@[simp] theorem tab_2 : tab 2 = some { agg := false, size := 1, bytes := 8, zero := [.int .i64 0], d := .int .i64, ck := some [.i64] } := rfl
@[simp] theorem tab_3 : tab 3 = some { agg := false, size := 1, bytes := 8, zero := [.int .i64 0], d := .int .i64, ck := some [.i64] } := rfl
@[simp] theorem tab_4 : tab 4 = some { agg := false, size := 1, bytes := 1, zero := [.bool false], d := .bool } := rfl
@[simp] theorem tab_5 : tab 5 = some { agg := false, size := 1, bytes := 1, zero := [.int .u8 0], d := .int .u8, ck := some [.u8] } := rfl
@[simp] theorem tab_6 : tab 6 = some { agg := false, size := 1, bytes := 1, zero := [.int .u8 0], d := .int .u8, ck := some [.u8] } := rfl
@[simp] theorem tab_7 : tab 7 = some { agg := true, size := 4, bytes := 24, zero := [.int .i64 0, .int .i64 0, .bool false, .int .u8 0], d := .struct [(0, 2), (1, 3), (2, 4), (3, 6)] } := rfl
@[simp] theorem tab_8 : tab 8 = some { agg := true, size := 4, bytes := 24, zero := [.int .i64 0, .int .i64 0, .bool false, .int .u8 0], d := .struct [(0, 2), (1, 3), (2, 4), (3, 6)] } := rfl
@[simp] theorem tab_9 : tab 9 = some { agg := false, size := 1, bytes := 16, zero := [.string ⟨#[]⟩], d := .str } := rfl
@[simp] theorem tab_10 : tab 10 = some { agg := false, size := 1, bytes := 16, zero := [.string ⟨#[]⟩], d := .str } := rfl
@[simp] theorem tab_11 : tab 11 = some { agg := false, size := 1, bytes := 16, zero := [.string ⟨#[]⟩], d := .str } := rfl
@[simp] theorem tab_12 : tab 12 = some { agg := false, size := 1, bytes := 8, zero := [.int .u64 0], d := .int .u64, ck := some [.u64] } := rfl
@[simp] theorem tab_13 : tab 13 = some { agg := true, size := 2, bytes := 24, zero := [.string ⟨#[]⟩, .int .u64 0], d := .struct [(0, 9), (1, 12)] } := rfl
@[simp] theorem tab_14 : tab 14 = some { agg := true, size := 2, bytes := 24, zero := [.string ⟨#[]⟩, .int .u64 0], d := .struct [(0, 9), (1, 12)] } := rfl
@[simp] theorem tab_15 : tab 15 = some { agg := false, size := 1, bytes := 8, zero := [.pointer none], d := .ptr 217 } := rfl
@[simp] theorem tab_16 : tab 16 = some { agg := false, size := 1, bytes := 8, zero := [.pointer none], d := .ptr 220 } := rfl
@[simp] theorem tab_17 : tab 17 = some { agg := false, size := 1, bytes := 8, zero := [.pointer none], d := .ptr 228 } := rfl
@[simp] theorem tab_18 : tab 18 = some { agg := true, size := 1, bytes := 8, zero := [.pointer none], d := .struct [(0, 17)] } := rfl
@[simp] theorem tab_19 : tab 19 = some { agg := true, size := 1, bytes := 8, zero := [.pointer none], d := .struct [(0, 17)] } := rfl
@[simp] theorem tab_21 : tab 21 = some { agg := false, size := 1, bytes := 4, zero := [.int .i32 0], d := .int .i32, ck := some [.i32] } := rfl
@[simp] theorem tab_22 : tab 22 = some { agg := false, size := 1, bytes := 24, zero := [.slice none 0 0], d := .slice 27 } := rfl
@[simp] theorem tab_24 : tab 24 = some { agg := false, size := 1, bytes := 8, zero := [.map none], d := .map 3 3 } := rfl
@[simp] theorem tab_25 : tab 25 = some { agg := false, size := 1, bytes := 8, zero := [.map none], d := .map 3 3 } := rfl
@[simp] theorem tab_26 : tab 26 = some { agg := false, size := 1, bytes := 24, zero := [.slice none 0 0], d := .slice 3 } := rfl
@[simp] theorem tab_27 : tab 27 = some { agg := false, size := 1, bytes := 2, zero := [.int .i16 0], d := .int .i16, ck := some [.i16] } := rfl
@[simp] theorem tab_35 : tab 35 = some { agg := false, size := 1, bytes := 24, zero := [.slice none 0 0], d := .slice 41 } := rfl
@[simp] theorem tab_36 : tab 36 = some { agg := false, size := 1, bytes := 24, zero := [.slice none 0 0], d := .slice 43 } := rfl
@[simp] theorem tab_37 : tab 37 = some { agg := true, size := 2, bytes := 48, zero := [.slice none 0 0, .slice none 0 0], d := .struct [(0, 35), (1, 36)] } := rfl
@[simp] theorem tab_38 : tab 38 = some { agg := true, size := 2, bytes := 48, zero := [.slice none 0 0, .slice none 0 0], d := .struct [(0, 35), (1, 36)] } := rfl
@[simp] theorem tab_40 : tab 40 = some { agg := false, size := 1, bytes := 8, zero := [.map none], d := .map 41 3 } := rfl
@[simp] theorem tab_41 : tab 41 = some { agg := false, size := 1, bytes := 4, zero := [.int .u32 0], d := .int .u32, ck := some [.u32] } := rfl
@[simp] theorem tab_42 : tab 42 = some { agg := true, size := 3, bytes := 12, zero := [.int .u32 0, .int .u32 0, .int .u32 0], d := .struct [(0, 41), (1, 41), (2, 41)], ck := some [.u32, .u32, .u32] } := rfl
@[simp] theorem tab_43 : tab 43 = some { agg := true, size := 3, bytes := 12, zero := [.int .u32 0, .int .u32 0, .int .u32 0], d := .struct [(0, 41), (1, 41), (2, 41)], ck := some [.u32, .u32, .u32] } := rfl
@[simp] theorem tab_44 : tab 44 = some { agg := false, size := 1, bytes := 8, zero := [.map none], d := .map 3 4 } := rfl
@[simp] theorem tab_48 : tab 48 = some { agg := false, size := 1, bytes := 24, zero := [.slice none 0 0], d := .slice 35 } := rfl
@[simp] theorem tab_57 : tab 57 = some { agg := false, size := 1, bytes := 24, zero := [.slice none 0 0], d := .slice 36 } := rfl
@[simp] theorem tab_59 : tab 59 = some { agg := false, size := 1, bytes := 24, zero := [.slice none 0 0], d := .slice 60 } := rfl
@[simp] theorem tab_60 : tab 60 = some { agg := false, size := 1, bytes := 8, zero := [.map none], d := .map 41 4 } := rfl
@[simp] theorem tab_65 : tab 65 = some { agg := false, size := 1, bytes := 8, zero := [.nilFunc], d := .func } := rfl
@[simp] theorem tab_84 : tab 84 = some { agg := true, size := 3, bytes := 72, zero := [.slice none 0 0, .slice none 0 0, .slice none 0 0], d := .struct [(0, 38), (2, 48)] } := rfl
@[simp] theorem tab_85 : tab 85 = some { agg := true, size := 3, bytes := 72, zero := [.slice none 0 0, .slice none 0 0, .slice none 0 0], d := .struct [(0, 38), (2, 48)] } := rfl
@[simp] theorem tab_87 : tab 87 = some { agg := true, size := 7, bytes := 56, zero := [.map none, .int .i64 0, .int .i64 0, .int .i64 0, .int .i64 0, .int .i64 0, .int .i64 0], d := .struct [(0, 25), (1, 3), (2, 3), (3, 3), (4, 3), (5, 3), (6, 3)] } := rfl
@[simp] theorem tab_88 : tab 88 = some { agg := true, size := 7, bytes := 56, zero := [.map none, .int .i64 0, .int .i64 0, .int .i64 0, .int .i64 0, .int .i64 0, .int .i64 0], d := .struct [(0, 25), (1, 3), (2, 3), (3, 3), (4, 3), (5, 3), (6, 3)] } := rfl
@[simp] theorem tab_98 : tab 98 = some { agg := false, size := 1, bytes := 8, zero := [.int .u64 0], d := .int .u64, ck := some [.u64] } := rfl
@[simp] theorem tab_99 : tab 99 = some { agg := false, size := 1, bytes := 8, zero := [.map none], d := .map 3 100 } := rfl
@[simp] theorem tab_100 : tab 100 = some { agg := true, size := 0, bytes := 0, zero := [], d := .struct [] } := rfl
@[simp] theorem tab_102 : tab 102 = some { agg := false, size := 1, bytes := 8, zero := [.map none], d := .map 103 3 } := rfl
@[simp] theorem tab_103 : tab 103 = some { agg := true, size := 2, bytes := 8, zero := [.int .u32 0, .int .u32 0], d := .arr 2 41, ck := some [.u32, .u32] } := rfl
@[simp] theorem tab_106 : tab 106 = some { agg := false, size := 1, bytes := 8, zero := [.map none], d := .map 41 35 } := rfl
@[simp] theorem tab_108 : tab 108 = some { agg := false, size := 1, bytes := 8, zero := [.pointer none], d := .ptr 111 } := rfl
@[simp] theorem tab_109 : tab 109 = some { agg := false, size := 1, bytes := 8, zero := [.map none], d := .map 41 26 } := rfl
@[simp] theorem tab_110 : tab 110 = some { agg := true, size := 6, bytes := 96, zero := [.slice none 0 0, .map none, .map none, .map none, .slice none 0 0, .slice none 0 0], d := .struct [(0, 36), (1, 109), (2, 40), (3, 40), (4, 26), (5, 57)] } := rfl
@[simp] theorem tab_111 : tab 111 = some { agg := true, size := 6, bytes := 96, zero := [.slice none 0 0, .map none, .map none, .map none, .slice none 0 0, .slice none 0 0], d := .struct [(0, 36), (1, 109), (2, 40), (3, 40), (4, 26), (5, 57)] } := rfl
@[simp] theorem tab_117 : tab 117 = some { agg := false, size := 1, bytes := 8, zero := [.nilFunc], d := .func } := rfl
@[simp] theorem tab_119 : tab 119 = some { agg := false, size := 1, bytes := 8, zero := [.nilFunc], d := .func } := rfl
@[simp] theorem tab_122 : tab 122 = some { agg := false, size := 1, bytes := 8, zero := [.map none], d := .map 41 41 } := rfl
@[simp] theorem tab_130 : tab 130 = some { agg := false, size := 1, bytes := 8, zero := [.map none], d := .map 41 100 } := rfl
@[simp] theorem tab_135 : tab 135 = some { agg := false, size := 1, bytes := 8, zero := [.int .i64 0], d := .int .i64, ck := some [.i64] } := rfl
@[simp] theorem tab_144 : tab 144 = some { agg := false, size := 1, bytes := 8, zero := [.int .u64 0], d := .int .u64, ck := some [.u64] } := rfl
@[simp] theorem tab_163 : tab 163 = some { agg := false, size := 1, bytes := 8, zero := [.int .i64 0], d := .int .i64, ck := some [.i64] } := rfl
@[simp] theorem tab_165 : tab 165 = some { agg := false, size := 1, bytes := 8, zero := [.int .u64 0], d := .int .u64, ck := some [.u64] } := rfl
@[simp] theorem tab_169 : tab 169 = some { agg := false, size := 1, bytes := 8, zero := [.pointer none], d := .ptr 3 } := rfl
@[simp] theorem tab_187 : tab 187 = some { agg := false, size := 1, bytes := 8, zero := [.pointer none], d := .ptr 165 } := rfl
@[simp] theorem tab_216 : tab 216 = some { agg := true, size := 4, bytes := 40, zero := [.pointer none, .pointer none, .pointer none, .string ⟨#[]⟩], d := .struct [(0, 17), (1, 17), (2, 17), (3, 9)] } := rfl
@[simp] theorem tab_217 : tab 217 = some { agg := true, size := 4, bytes := 40, zero := [.pointer none, .pointer none, .pointer none, .string ⟨#[]⟩], d := .struct [(0, 17), (1, 17), (2, 17), (3, 9)] } := rfl
@[simp] theorem tab_218 : tab 218 = some { agg := true, size := 0, bytes := 0, zero := [], d := .arr 0 16 } := rfl
@[simp] theorem tab_219 : tab 219 = some { agg := true, size := 0, bytes := 0, zero := [], d := .struct [(0, 218)] } := rfl
@[simp] theorem tab_220 : tab 220 = some { agg := true, size := 0, bytes := 0, zero := [], d := .struct [(0, 218)] } := rfl
@[simp] theorem tab_221 : tab 221 = some { agg := false, size := 1, bytes := 1, zero := [.int .u8 0], d := .int .u8, ck := some [.u8] } := rfl
@[simp] theorem tab_222 : tab 222 = some { agg := false, size := 1, bytes := 1, zero := [.int .u8 0], d := .int .u8, ck := some [.u8] } := rfl
@[simp] theorem tab_224 : tab 224 = some { agg := false, size := 1, bytes := 8, zero := [.pointer none], d := .ptr 5 } := rfl
@[simp] theorem tab_225 : tab 225 = some { agg := false, size := 1, bytes := 4, zero := [.int .i32 0], d := .int .i32, ck := some [.i32] } := rfl
@[simp] theorem tab_226 : tab 226 = some { agg := false, size := 1, bytes := 4, zero := [.int .i32 0], d := .int .i32, ck := some [.i32] } := rfl
@[simp] theorem tab_227 : tab 227 = some { agg := true, size := 11, bytes := 48, zero := [.int .u64 0, .int .u64 0, .int .u32 0, .int .u8 0, .int .u8 0, .int .u8 0, .int .u8 0, .nilFunc, .pointer none, .int .i32 0, .int .i32 0], d := .struct [(0, 12), (1, 12), (2, 41), (3, 221), (4, 5), (5, 5), (6, 222), (7, 223), (8, 224), (9, 225), (10, 226)] } := rfl
@[simp] theorem tab_228 : tab 228 = some { agg := true, size := 11, bytes := 48, zero := [.int .u64 0, .int .u64 0, .int .u32 0, .int .u8 0, .int .u8 0, .int .u8 0, .int .u8 0, .nilFunc, .pointer none, .int .i32 0, .int .i32 0], d := .struct [(0, 12), (1, 12), (2, 41), (3, 221), (4, 5), (5, 5), (6, 222), (7, 223), (8, 224), (9, 225), (10, 226)] } := rfl
theorem info_of {P : Program} {t size bytes : Nat} {z : Value} (h : (P.info? t).map (fun i => (i.size, i.bytes, i.zero)) = some (size, bytes, some z)) : ∃ i, P.info? t = some i ∧ i.size = size ∧ i.bytes = bytes ∧ i.zero = some z := by
  cases hi : P.info? t with
  | none => simp [hi] at h
  | some i =>
    simp only [hi, Option.map_some, Option.some.injEq, Prod.mk.injEq] at h
    exact ⟨i, rfl, h.1, h.2.1, h.2.2⟩
theorem eqOk_42 : EqOk Tryz.prog 42 true [.u32, .u32, .u32] := by
  have u41 := Tryz.underlying41
  have a41 := Tryz.isAgg41
  have z41 := Tryz.sizeOf41
  have hp : Tryz.prog.stoodInHeld 42 = false := by kernel_rfl
  refine ⟨fun w as1 bs1 h1 h2 => ?_, fun w em as1 h1 => ?_, fun _ => by kernel_rfl, (fun h => by cases h), _, Tryz.underlying42, .inr fun as1 bs1 h1 h2 => by simp [mkV, Instr.sameNow]⟩
  · match as1, bs1, h1, h2 with
    | [x0, x1, x2], [y0, y1, y2], _, _ =>
      have hS : Tryz.prog.underlying 42 = some (.struct (Tryz.prog.fieldsOf 42)) := by kernel_rfl
      simp only [mkV, mkC, if_true]
      unfold Op.equal Op.maxDepth
      rw [show (10000 : Nat) = 9999 + 1 from rfl, run_equalIn_agg w 9999 42 _ _ hS hp]
      simp only [Program.fieldsOf, Tryz.underlying42]
      go_simp
      by_cases e0 : x0 = y0 <;> by_cases e1 : x1 = y1 <;> by_cases e2 : x2 = y2 <;> simp [e0, e1, e2]
  · match as1, h1 with
    | [x0, x1, x2], _ =>
      simp only [mkV, mkC, if_true]
      unfold Instr.checkKey
      simp only [Sem.run_bind, run_underlying Tryz.underlying42, Result.andThen_ok]
      go_simp
      (try simp [chk_int u41])
theorem eqOk_43 : EqOk Tryz.prog 43 true [.u32, .u32, .u32] := by
  have u41 := Tryz.underlying41
  have a41 := Tryz.isAgg41
  have z41 := Tryz.sizeOf41
  have hp : Tryz.prog.stoodInHeld 43 = false := by kernel_rfl
  refine ⟨fun w as1 bs1 h1 h2 => ?_, fun w em as1 h1 => ?_, fun _ => by kernel_rfl, (fun h => by cases h), _, Tryz.underlying43, .inr fun as1 bs1 h1 h2 => by simp [mkV, Instr.sameNow]⟩
  · match as1, bs1, h1, h2 with
    | [x0, x1, x2], [y0, y1, y2], _, _ =>
      have hS : Tryz.prog.underlying 43 = some (.struct (Tryz.prog.fieldsOf 43)) := by kernel_rfl
      simp only [mkV, mkC, if_true]
      unfold Op.equal Op.maxDepth
      rw [show (10000 : Nat) = 9999 + 1 from rfl, run_equalIn_agg w 9999 43 _ _ hS hp]
      simp only [Program.fieldsOf, Tryz.underlying43]
      go_simp
      by_cases e0 : x0 = y0 <;> by_cases e1 : x1 = y1 <;> by_cases e2 : x2 = y2 <;> simp [e0, e1, e2]
  · match as1, h1 with
    | [x0, x1, x2], _ =>
      simp only [mkV, mkC, if_true]
      unfold Instr.checkKey
      simp only [Sem.run_bind, run_underlying Tryz.underlying43, Result.andThen_ok]
      go_simp
      (try simp [chk_int u41])
theorem eqOk_103 : EqOk Tryz.prog 103 true [.u32, .u32] := eqOk_arr2 Tryz.underlying103 Tryz.underlying41 Tryz.isAgg41 Tryz.sizeOf41 (by kernel_rfl) (by kernel_rfl)
theorem rowOk_2 : RowOk Tryz.prog 2 { agg := false, size := 1, bytes := 8, zero := [.int .i64 0], d := .int .i64, ck := some [.i64] } :=
  ⟨Tryz.isAgg2, info_of (z := .int .i64 0) (by kernel_rfl), rfl, fun _ => rfl, rfl, Tryz.underlying2, (fun ks h => by injection h with h; subst h; exact eqOk_int Tryz.underlying2)⟩
theorem rowOk_3 : RowOk Tryz.prog 3 { agg := false, size := 1, bytes := 8, zero := [.int .i64 0], d := .int .i64, ck := some [.i64] } :=
  ⟨Tryz.isAgg3, info_of (z := .int .i64 0) (by kernel_rfl), rfl, fun _ => rfl, rfl, Tryz.underlying3, (fun ks h => by injection h with h; subst h; exact eqOk_int Tryz.underlying3)⟩
theorem rowOk_4 : RowOk Tryz.prog 4 { agg := false, size := 1, bytes := 1, zero := [.bool false], d := .bool } :=
  ⟨Tryz.isAgg4, info_of (z := .bool false) (by kernel_rfl), rfl, fun _ => rfl, rfl, Tryz.underlying4, (fun ks h => by cases h)⟩
theorem rowOk_5 : RowOk Tryz.prog 5 { agg := false, size := 1, bytes := 1, zero := [.int .u8 0], d := .int .u8, ck := some [.u8] } :=
  ⟨Tryz.isAgg5, info_of (z := .int .u8 0) (by kernel_rfl), rfl, fun _ => rfl, rfl, Tryz.underlying5, (fun ks h => by injection h with h; subst h; exact eqOk_int Tryz.underlying5)⟩
theorem rowOk_6 : RowOk Tryz.prog 6 { agg := false, size := 1, bytes := 1, zero := [.int .u8 0], d := .int .u8, ck := some [.u8] } :=
  ⟨Tryz.isAgg6, info_of (z := .int .u8 0) (by kernel_rfl), rfl, fun _ => rfl, rfl, Tryz.underlying6, (fun ks h => by injection h with h; subst h; exact eqOk_int Tryz.underlying6)⟩
theorem rowOk_7 : RowOk Tryz.prog 7 { agg := true, size := 4, bytes := 24, zero := [.int .i64 0, .int .i64 0, .bool false, .int .u8 0], d := .struct [(0, 2), (1, 3), (2, 4), (3, 6)] } :=
  ⟨Tryz.isAgg7, info_of (z := .agg #[.int .i64 0, .int .i64 0, .bool false, .int .u8 0]) (by kernel_rfl), rfl, (fun h => by cases h), rfl, ⟨_, Tryz.underlying7, rfl⟩, (fun ks h => by cases h)⟩
theorem rowOk_8 : RowOk Tryz.prog 8 { agg := true, size := 4, bytes := 24, zero := [.int .i64 0, .int .i64 0, .bool false, .int .u8 0], d := .struct [(0, 2), (1, 3), (2, 4), (3, 6)] } :=
  ⟨Tryz.isAgg8, info_of (z := .agg #[.int .i64 0, .int .i64 0, .bool false, .int .u8 0]) (by kernel_rfl), rfl, (fun h => by cases h), rfl, ⟨_, Tryz.underlying8, rfl⟩, (fun ks h => by cases h)⟩
theorem rowOk_9 : RowOk Tryz.prog 9 { agg := false, size := 1, bytes := 16, zero := [.string ⟨#[]⟩], d := .str } :=
  ⟨Tryz.isAgg9, info_of (z := .string ⟨#[]⟩) (by kernel_rfl), rfl, fun _ => rfl, rfl, Tryz.underlying9, (fun ks h => by cases h)⟩
theorem rowOk_10 : RowOk Tryz.prog 10 { agg := false, size := 1, bytes := 16, zero := [.string ⟨#[]⟩], d := .str } :=
  ⟨Tryz.isAgg10, info_of (z := .string ⟨#[]⟩) (by kernel_rfl), rfl, fun _ => rfl, rfl, Tryz.underlying10, (fun ks h => by cases h)⟩
theorem rowOk_11 : RowOk Tryz.prog 11 { agg := false, size := 1, bytes := 16, zero := [.string ⟨#[]⟩], d := .str } :=
  ⟨Tryz.isAgg11, info_of (z := .string ⟨#[]⟩) (by kernel_rfl), rfl, fun _ => rfl, rfl, Tryz.underlying11, (fun ks h => by cases h)⟩
theorem rowOk_12 : RowOk Tryz.prog 12 { agg := false, size := 1, bytes := 8, zero := [.int .u64 0], d := .int .u64, ck := some [.u64] } :=
  ⟨Tryz.isAgg12, info_of (z := .int .u64 0) (by kernel_rfl), rfl, fun _ => rfl, rfl, Tryz.underlying12, (fun ks h => by injection h with h; subst h; exact eqOk_int Tryz.underlying12)⟩
theorem rowOk_13 : RowOk Tryz.prog 13 { agg := true, size := 2, bytes := 24, zero := [.string ⟨#[]⟩, .int .u64 0], d := .struct [(0, 9), (1, 12)] } :=
  ⟨Tryz.isAgg13, info_of (z := .agg #[.string ⟨#[]⟩, .int .u64 0]) (by kernel_rfl), rfl, (fun h => by cases h), rfl, ⟨_, Tryz.underlying13, rfl⟩, (fun ks h => by cases h)⟩
theorem rowOk_14 : RowOk Tryz.prog 14 { agg := true, size := 2, bytes := 24, zero := [.string ⟨#[]⟩, .int .u64 0], d := .struct [(0, 9), (1, 12)] } :=
  ⟨Tryz.isAgg14, info_of (z := .agg #[.string ⟨#[]⟩, .int .u64 0]) (by kernel_rfl), rfl, (fun h => by cases h), rfl, ⟨_, Tryz.underlying14, rfl⟩, (fun ks h => by cases h)⟩
theorem rowOk_15 : RowOk Tryz.prog 15 { agg := false, size := 1, bytes := 8, zero := [.pointer none], d := .ptr 217 } :=
  ⟨Tryz.isAgg15, info_of (z := .pointer none) (by kernel_rfl), rfl, fun _ => rfl, rfl, Tryz.underlying15, (fun ks h => by cases h)⟩
theorem rowOk_16 : RowOk Tryz.prog 16 { agg := false, size := 1, bytes := 8, zero := [.pointer none], d := .ptr 220 } :=
  ⟨Tryz.isAgg16, info_of (z := .pointer none) (by kernel_rfl), rfl, fun _ => rfl, rfl, Tryz.underlying16, (fun ks h => by cases h)⟩
theorem rowOk_17 : RowOk Tryz.prog 17 { agg := false, size := 1, bytes := 8, zero := [.pointer none], d := .ptr 228 } :=
  ⟨Tryz.isAgg17, info_of (z := .pointer none) (by kernel_rfl), rfl, fun _ => rfl, rfl, Tryz.underlying17, (fun ks h => by cases h)⟩
theorem rowOk_18 : RowOk Tryz.prog 18 { agg := true, size := 1, bytes := 8, zero := [.pointer none], d := .struct [(0, 17)] } :=
  ⟨Tryz.isAgg18, info_of (z := .agg #[.pointer none]) (by kernel_rfl), rfl, (fun h => by cases h), rfl, ⟨_, Tryz.underlying18, rfl⟩, (fun ks h => by cases h)⟩
theorem rowOk_19 : RowOk Tryz.prog 19 { agg := true, size := 1, bytes := 8, zero := [.pointer none], d := .struct [(0, 17)] } :=
  ⟨Tryz.isAgg19, info_of (z := .agg #[.pointer none]) (by kernel_rfl), rfl, (fun h => by cases h), rfl, ⟨_, Tryz.underlying19, rfl⟩, (fun ks h => by cases h)⟩
theorem rowOk_21 : RowOk Tryz.prog 21 { agg := false, size := 1, bytes := 4, zero := [.int .i32 0], d := .int .i32, ck := some [.i32] } :=
  ⟨Tryz.isAgg21, info_of (z := .int .i32 0) (by kernel_rfl), rfl, fun _ => rfl, rfl, Tryz.underlying21, (fun ks h => by injection h with h; subst h; exact eqOk_int Tryz.underlying21)⟩
theorem rowOk_22 : RowOk Tryz.prog 22 { agg := false, size := 1, bytes := 24, zero := [.slice none 0 0], d := .slice 27 } :=
  ⟨Tryz.isAgg22, info_of (z := .slice none 0 0) (by kernel_rfl), rfl, fun _ => rfl, rfl, Tryz.underlying22, (fun ks h => by cases h)⟩
theorem rowOk_24 : RowOk Tryz.prog 24 { agg := false, size := 1, bytes := 8, zero := [.map none], d := .map 3 3 } :=
  ⟨Tryz.isAgg24, info_of (z := .map none) (by kernel_rfl), rfl, fun _ => rfl, rfl, Tryz.underlying24, (fun ks h => by cases h)⟩
theorem rowOk_25 : RowOk Tryz.prog 25 { agg := false, size := 1, bytes := 8, zero := [.map none], d := .map 3 3 } :=
  ⟨Tryz.isAgg25, info_of (z := .map none) (by kernel_rfl), rfl, fun _ => rfl, rfl, Tryz.underlying25, (fun ks h => by cases h)⟩
theorem rowOk_26 : RowOk Tryz.prog 26 { agg := false, size := 1, bytes := 24, zero := [.slice none 0 0], d := .slice 3 } :=
  ⟨Tryz.isAgg26, info_of (z := .slice none 0 0) (by kernel_rfl), rfl, fun _ => rfl, rfl, Tryz.underlying26, (fun ks h => by cases h)⟩
theorem rowOk_27 : RowOk Tryz.prog 27 { agg := false, size := 1, bytes := 2, zero := [.int .i16 0], d := .int .i16, ck := some [.i16] } :=
  ⟨Tryz.isAgg27, info_of (z := .int .i16 0) (by kernel_rfl), rfl, fun _ => rfl, rfl, Tryz.underlying27, (fun ks h => by injection h with h; subst h; exact eqOk_int Tryz.underlying27)⟩
theorem rowOk_35 : RowOk Tryz.prog 35 { agg := false, size := 1, bytes := 24, zero := [.slice none 0 0], d := .slice 41 } :=
  ⟨Tryz.isAgg35, info_of (z := .slice none 0 0) (by kernel_rfl), rfl, fun _ => rfl, rfl, Tryz.underlying35, (fun ks h => by cases h)⟩
theorem rowOk_36 : RowOk Tryz.prog 36 { agg := false, size := 1, bytes := 24, zero := [.slice none 0 0], d := .slice 43 } :=
  ⟨Tryz.isAgg36, info_of (z := .slice none 0 0) (by kernel_rfl), rfl, fun _ => rfl, rfl, Tryz.underlying36, (fun ks h => by cases h)⟩
theorem rowOk_37 : RowOk Tryz.prog 37 { agg := true, size := 2, bytes := 48, zero := [.slice none 0 0, .slice none 0 0], d := .struct [(0, 35), (1, 36)] } :=
  ⟨Tryz.isAgg37, info_of (z := .agg #[.slice none 0 0, .slice none 0 0]) (by kernel_rfl), rfl, (fun h => by cases h), rfl, ⟨_, Tryz.underlying37, rfl⟩, (fun ks h => by cases h)⟩
theorem rowOk_38 : RowOk Tryz.prog 38 { agg := true, size := 2, bytes := 48, zero := [.slice none 0 0, .slice none 0 0], d := .struct [(0, 35), (1, 36)] } :=
  ⟨Tryz.isAgg38, info_of (z := .agg #[.slice none 0 0, .slice none 0 0]) (by kernel_rfl), rfl, (fun h => by cases h), rfl, ⟨_, Tryz.underlying38, rfl⟩, (fun ks h => by cases h)⟩
theorem rowOk_40 : RowOk Tryz.prog 40 { agg := false, size := 1, bytes := 8, zero := [.map none], d := .map 41 3 } :=
  ⟨Tryz.isAgg40, info_of (z := .map none) (by kernel_rfl), rfl, fun _ => rfl, rfl, Tryz.underlying40, (fun ks h => by cases h)⟩
theorem rowOk_41 : RowOk Tryz.prog 41 { agg := false, size := 1, bytes := 4, zero := [.int .u32 0], d := .int .u32, ck := some [.u32] } :=
  ⟨Tryz.isAgg41, info_of (z := .int .u32 0) (by kernel_rfl), rfl, fun _ => rfl, rfl, Tryz.underlying41, (fun ks h => by injection h with h; subst h; exact eqOk_int Tryz.underlying41)⟩
theorem rowOk_42 : RowOk Tryz.prog 42 { agg := true, size := 3, bytes := 12, zero := [.int .u32 0, .int .u32 0, .int .u32 0], d := .struct [(0, 41), (1, 41), (2, 41)], ck := some [.u32, .u32, .u32] } :=
  ⟨Tryz.isAgg42, info_of (z := .agg #[.int .u32 0, .int .u32 0, .int .u32 0]) (by kernel_rfl), rfl, (fun h => by cases h), rfl, ⟨_, Tryz.underlying42, rfl⟩, (fun ks h => by injection h with h; subst h; exact eqOk_42)⟩
theorem rowOk_43 : RowOk Tryz.prog 43 { agg := true, size := 3, bytes := 12, zero := [.int .u32 0, .int .u32 0, .int .u32 0], d := .struct [(0, 41), (1, 41), (2, 41)], ck := some [.u32, .u32, .u32] } :=
  ⟨Tryz.isAgg43, info_of (z := .agg #[.int .u32 0, .int .u32 0, .int .u32 0]) (by kernel_rfl), rfl, (fun h => by cases h), rfl, ⟨_, Tryz.underlying43, rfl⟩, (fun ks h => by injection h with h; subst h; exact eqOk_43)⟩
theorem rowOk_44 : RowOk Tryz.prog 44 { agg := false, size := 1, bytes := 8, zero := [.map none], d := .map 3 4 } :=
  ⟨Tryz.isAgg44, info_of (z := .map none) (by kernel_rfl), rfl, fun _ => rfl, rfl, Tryz.underlying44, (fun ks h => by cases h)⟩
theorem rowOk_48 : RowOk Tryz.prog 48 { agg := false, size := 1, bytes := 24, zero := [.slice none 0 0], d := .slice 35 } :=
  ⟨Tryz.isAgg48, info_of (z := .slice none 0 0) (by kernel_rfl), rfl, fun _ => rfl, rfl, Tryz.underlying48, (fun ks h => by cases h)⟩
theorem rowOk_57 : RowOk Tryz.prog 57 { agg := false, size := 1, bytes := 24, zero := [.slice none 0 0], d := .slice 36 } :=
  ⟨Tryz.isAgg57, info_of (z := .slice none 0 0) (by kernel_rfl), rfl, fun _ => rfl, rfl, Tryz.underlying57, (fun ks h => by cases h)⟩
theorem rowOk_59 : RowOk Tryz.prog 59 { agg := false, size := 1, bytes := 24, zero := [.slice none 0 0], d := .slice 60 } :=
  ⟨Tryz.isAgg59, info_of (z := .slice none 0 0) (by kernel_rfl), rfl, fun _ => rfl, rfl, Tryz.underlying59, (fun ks h => by cases h)⟩
theorem rowOk_60 : RowOk Tryz.prog 60 { agg := false, size := 1, bytes := 8, zero := [.map none], d := .map 41 4 } :=
  ⟨Tryz.isAgg60, info_of (z := .map none) (by kernel_rfl), rfl, fun _ => rfl, rfl, Tryz.underlying60, (fun ks h => by cases h)⟩
theorem rowOk_65 : RowOk Tryz.prog 65 { agg := false, size := 1, bytes := 8, zero := [.nilFunc], d := .func } :=
  ⟨Tryz.isAgg65, info_of (z := .nilFunc) (by kernel_rfl), rfl, fun _ => rfl, rfl, ⟨_, _, _, Tryz.underlying65⟩, (fun ks h => by cases h)⟩
theorem rowOk_84 : RowOk Tryz.prog 84 { agg := true, size := 3, bytes := 72, zero := [.slice none 0 0, .slice none 0 0, .slice none 0 0], d := .struct [(0, 38), (2, 48)] } :=
  ⟨Tryz.isAgg84, info_of (z := .agg #[.slice none 0 0, .slice none 0 0, .slice none 0 0]) (by kernel_rfl), rfl, (fun h => by cases h), rfl, ⟨_, Tryz.underlying84, rfl⟩, (fun ks h => by cases h)⟩
theorem rowOk_85 : RowOk Tryz.prog 85 { agg := true, size := 3, bytes := 72, zero := [.slice none 0 0, .slice none 0 0, .slice none 0 0], d := .struct [(0, 38), (2, 48)] } :=
  ⟨Tryz.isAgg85, info_of (z := .agg #[.slice none 0 0, .slice none 0 0, .slice none 0 0]) (by kernel_rfl), rfl, (fun h => by cases h), rfl, ⟨_, Tryz.underlying85, rfl⟩, (fun ks h => by cases h)⟩
theorem rowOk_87 : RowOk Tryz.prog 87 { agg := true, size := 7, bytes := 56, zero := [.map none, .int .i64 0, .int .i64 0, .int .i64 0, .int .i64 0, .int .i64 0, .int .i64 0], d := .struct [(0, 25), (1, 3), (2, 3), (3, 3), (4, 3), (5, 3), (6, 3)] } :=
  ⟨Tryz.isAgg87, info_of (z := .agg #[.map none, .int .i64 0, .int .i64 0, .int .i64 0, .int .i64 0, .int .i64 0, .int .i64 0]) (by kernel_rfl), rfl, (fun h => by cases h), rfl, ⟨_, Tryz.underlying87, rfl⟩, (fun ks h => by cases h)⟩
theorem rowOk_88 : RowOk Tryz.prog 88 { agg := true, size := 7, bytes := 56, zero := [.map none, .int .i64 0, .int .i64 0, .int .i64 0, .int .i64 0, .int .i64 0, .int .i64 0], d := .struct [(0, 25), (1, 3), (2, 3), (3, 3), (4, 3), (5, 3), (6, 3)] } :=
  ⟨Tryz.isAgg88, info_of (z := .agg #[.map none, .int .i64 0, .int .i64 0, .int .i64 0, .int .i64 0, .int .i64 0, .int .i64 0]) (by kernel_rfl), rfl, (fun h => by cases h), rfl, ⟨_, Tryz.underlying88, rfl⟩, (fun ks h => by cases h)⟩
theorem rowOk_98 : RowOk Tryz.prog 98 { agg := false, size := 1, bytes := 8, zero := [.int .u64 0], d := .int .u64, ck := some [.u64] } :=
  ⟨Tryz.isAgg98, info_of (z := .int .u64 0) (by kernel_rfl), rfl, fun _ => rfl, rfl, Tryz.underlying98, (fun ks h => by injection h with h; subst h; exact eqOk_int Tryz.underlying98)⟩
theorem rowOk_99 : RowOk Tryz.prog 99 { agg := false, size := 1, bytes := 8, zero := [.map none], d := .map 3 100 } :=
  ⟨Tryz.isAgg99, info_of (z := .map none) (by kernel_rfl), rfl, fun _ => rfl, rfl, Tryz.underlying99, (fun ks h => by cases h)⟩
theorem rowOk_100 : RowOk Tryz.prog 100 { agg := true, size := 0, bytes := 0, zero := [], d := .struct [] } :=
  ⟨Tryz.isAgg100, info_of (z := .agg #[]) (by kernel_rfl), rfl, (fun h => by cases h), rfl, ⟨_, Tryz.underlying100, rfl⟩, (fun ks h => by cases h)⟩
theorem rowOk_102 : RowOk Tryz.prog 102 { agg := false, size := 1, bytes := 8, zero := [.map none], d := .map 103 3 } :=
  ⟨Tryz.isAgg102, info_of (z := .map none) (by kernel_rfl), rfl, fun _ => rfl, rfl, Tryz.underlying102, (fun ks h => by cases h)⟩
theorem rowOk_103 : RowOk Tryz.prog 103 { agg := true, size := 2, bytes := 8, zero := [.int .u32 0, .int .u32 0], d := .arr 2 41, ck := some [.u32, .u32] } :=
  ⟨Tryz.isAgg103, info_of (z := .agg #[.int .u32 0, .int .u32 0]) (by kernel_rfl), rfl, (fun h => by cases h), rfl, Tryz.underlying103, (fun ks h => by injection h with h; subst h; exact eqOk_103)⟩
theorem rowOk_106 : RowOk Tryz.prog 106 { agg := false, size := 1, bytes := 8, zero := [.map none], d := .map 41 35 } :=
  ⟨Tryz.isAgg106, info_of (z := .map none) (by kernel_rfl), rfl, fun _ => rfl, rfl, Tryz.underlying106, (fun ks h => by cases h)⟩
theorem rowOk_108 : RowOk Tryz.prog 108 { agg := false, size := 1, bytes := 8, zero := [.pointer none], d := .ptr 111 } :=
  ⟨Tryz.isAgg108, info_of (z := .pointer none) (by kernel_rfl), rfl, fun _ => rfl, rfl, Tryz.underlying108, (fun ks h => by cases h)⟩
theorem rowOk_109 : RowOk Tryz.prog 109 { agg := false, size := 1, bytes := 8, zero := [.map none], d := .map 41 26 } :=
  ⟨Tryz.isAgg109, info_of (z := .map none) (by kernel_rfl), rfl, fun _ => rfl, rfl, Tryz.underlying109, (fun ks h => by cases h)⟩
theorem rowOk_110 : RowOk Tryz.prog 110 { agg := true, size := 6, bytes := 96, zero := [.slice none 0 0, .map none, .map none, .map none, .slice none 0 0, .slice none 0 0], d := .struct [(0, 36), (1, 109), (2, 40), (3, 40), (4, 26), (5, 57)] } :=
  ⟨Tryz.isAgg110, info_of (z := .agg #[.slice none 0 0, .map none, .map none, .map none, .slice none 0 0, .slice none 0 0]) (by kernel_rfl), rfl, (fun h => by cases h), rfl, ⟨_, Tryz.underlying110, rfl⟩, (fun ks h => by cases h)⟩
theorem rowOk_111 : RowOk Tryz.prog 111 { agg := true, size := 6, bytes := 96, zero := [.slice none 0 0, .map none, .map none, .map none, .slice none 0 0, .slice none 0 0], d := .struct [(0, 36), (1, 109), (2, 40), (3, 40), (4, 26), (5, 57)] } :=
  ⟨Tryz.isAgg111, info_of (z := .agg #[.slice none 0 0, .map none, .map none, .map none, .slice none 0 0, .slice none 0 0]) (by kernel_rfl), rfl, (fun h => by cases h), rfl, ⟨_, Tryz.underlying111, rfl⟩, (fun ks h => by cases h)⟩
theorem rowOk_117 : RowOk Tryz.prog 117 { agg := false, size := 1, bytes := 8, zero := [.nilFunc], d := .func } :=
  ⟨Tryz.isAgg117, info_of (z := .nilFunc) (by kernel_rfl), rfl, fun _ => rfl, rfl, ⟨_, _, _, Tryz.underlying117⟩, (fun ks h => by cases h)⟩
theorem rowOk_119 : RowOk Tryz.prog 119 { agg := false, size := 1, bytes := 8, zero := [.nilFunc], d := .func } :=
  ⟨Tryz.isAgg119, info_of (z := .nilFunc) (by kernel_rfl), rfl, fun _ => rfl, rfl, ⟨_, _, _, Tryz.underlying119⟩, (fun ks h => by cases h)⟩
theorem rowOk_122 : RowOk Tryz.prog 122 { agg := false, size := 1, bytes := 8, zero := [.map none], d := .map 41 41 } :=
  ⟨Tryz.isAgg122, info_of (z := .map none) (by kernel_rfl), rfl, fun _ => rfl, rfl, Tryz.underlying122, (fun ks h => by cases h)⟩
theorem rowOk_130 : RowOk Tryz.prog 130 { agg := false, size := 1, bytes := 8, zero := [.map none], d := .map 41 100 } :=
  ⟨Tryz.isAgg130, info_of (z := .map none) (by kernel_rfl), rfl, fun _ => rfl, rfl, Tryz.underlying130, (fun ks h => by cases h)⟩
theorem rowOk_135 : RowOk Tryz.prog 135 { agg := false, size := 1, bytes := 8, zero := [.int .i64 0], d := .int .i64, ck := some [.i64] } :=
  ⟨Tryz.isAgg135, info_of (z := .int .i64 0) (by kernel_rfl), rfl, fun _ => rfl, rfl, Tryz.underlying135, (fun ks h => by injection h with h; subst h; exact eqOk_int Tryz.underlying135)⟩
theorem rowOk_144 : RowOk Tryz.prog 144 { agg := false, size := 1, bytes := 8, zero := [.int .u64 0], d := .int .u64, ck := some [.u64] } :=
  ⟨Tryz.isAgg144, info_of (z := .int .u64 0) (by kernel_rfl), rfl, fun _ => rfl, rfl, Tryz.underlying144, (fun ks h => by injection h with h; subst h; exact eqOk_int Tryz.underlying144)⟩
theorem rowOk_163 : RowOk Tryz.prog 163 { agg := false, size := 1, bytes := 8, zero := [.int .i64 0], d := .int .i64, ck := some [.i64] } :=
  ⟨Tryz.isAgg163, info_of (z := .int .i64 0) (by kernel_rfl), rfl, fun _ => rfl, rfl, Tryz.underlying163, (fun ks h => by injection h with h; subst h; exact eqOk_int Tryz.underlying163)⟩
theorem rowOk_165 : RowOk Tryz.prog 165 { agg := false, size := 1, bytes := 8, zero := [.int .u64 0], d := .int .u64, ck := some [.u64] } :=
  ⟨Tryz.isAgg165, info_of (z := .int .u64 0) (by kernel_rfl), rfl, fun _ => rfl, rfl, Tryz.underlying165, (fun ks h => by injection h with h; subst h; exact eqOk_int Tryz.underlying165)⟩
theorem rowOk_169 : RowOk Tryz.prog 169 { agg := false, size := 1, bytes := 8, zero := [.pointer none], d := .ptr 3 } :=
  ⟨Tryz.isAgg169, info_of (z := .pointer none) (by kernel_rfl), rfl, fun _ => rfl, rfl, Tryz.underlying169, (fun ks h => by cases h)⟩
theorem rowOk_187 : RowOk Tryz.prog 187 { agg := false, size := 1, bytes := 8, zero := [.pointer none], d := .ptr 165 } :=
  ⟨Tryz.isAgg187, info_of (z := .pointer none) (by kernel_rfl), rfl, fun _ => rfl, rfl, Tryz.underlying187, (fun ks h => by cases h)⟩
theorem rowOk_216 : RowOk Tryz.prog 216 { agg := true, size := 4, bytes := 40, zero := [.pointer none, .pointer none, .pointer none, .string ⟨#[]⟩], d := .struct [(0, 17), (1, 17), (2, 17), (3, 9)] } :=
  ⟨Tryz.isAgg216, info_of (z := .agg #[.pointer none, .pointer none, .pointer none, .string ⟨#[]⟩]) (by kernel_rfl), rfl, (fun h => by cases h), rfl, ⟨_, Tryz.underlying216, rfl⟩, (fun ks h => by cases h)⟩
theorem rowOk_217 : RowOk Tryz.prog 217 { agg := true, size := 4, bytes := 40, zero := [.pointer none, .pointer none, .pointer none, .string ⟨#[]⟩], d := .struct [(0, 17), (1, 17), (2, 17), (3, 9)] } :=
  ⟨Tryz.isAgg217, info_of (z := .agg #[.pointer none, .pointer none, .pointer none, .string ⟨#[]⟩]) (by kernel_rfl), rfl, (fun h => by cases h), rfl, ⟨_, Tryz.underlying217, rfl⟩, (fun ks h => by cases h)⟩
theorem rowOk_218 : RowOk Tryz.prog 218 { agg := true, size := 0, bytes := 0, zero := [], d := .arr 0 16 } :=
  ⟨Tryz.isAgg218, info_of (z := .agg #[]) (by kernel_rfl), rfl, (fun h => by cases h), rfl, Tryz.underlying218, (fun ks h => by cases h)⟩
theorem rowOk_219 : RowOk Tryz.prog 219 { agg := true, size := 0, bytes := 0, zero := [], d := .struct [(0, 218)] } :=
  ⟨Tryz.isAgg219, info_of (z := .agg #[]) (by kernel_rfl), rfl, (fun h => by cases h), rfl, ⟨_, Tryz.underlying219, rfl⟩, (fun ks h => by cases h)⟩
theorem rowOk_220 : RowOk Tryz.prog 220 { agg := true, size := 0, bytes := 0, zero := [], d := .struct [(0, 218)] } :=
  ⟨Tryz.isAgg220, info_of (z := .agg #[]) (by kernel_rfl), rfl, (fun h => by cases h), rfl, ⟨_, Tryz.underlying220, rfl⟩, (fun ks h => by cases h)⟩
theorem rowOk_221 : RowOk Tryz.prog 221 { agg := false, size := 1, bytes := 1, zero := [.int .u8 0], d := .int .u8, ck := some [.u8] } :=
  ⟨Tryz.isAgg221, info_of (z := .int .u8 0) (by kernel_rfl), rfl, fun _ => rfl, rfl, Tryz.underlying221, (fun ks h => by injection h with h; subst h; exact eqOk_int Tryz.underlying221)⟩
theorem rowOk_222 : RowOk Tryz.prog 222 { agg := false, size := 1, bytes := 1, zero := [.int .u8 0], d := .int .u8, ck := some [.u8] } :=
  ⟨Tryz.isAgg222, info_of (z := .int .u8 0) (by kernel_rfl), rfl, fun _ => rfl, rfl, Tryz.underlying222, (fun ks h => by injection h with h; subst h; exact eqOk_int Tryz.underlying222)⟩
theorem rowOk_224 : RowOk Tryz.prog 224 { agg := false, size := 1, bytes := 8, zero := [.pointer none], d := .ptr 5 } :=
  ⟨Tryz.isAgg224, info_of (z := .pointer none) (by kernel_rfl), rfl, fun _ => rfl, rfl, Tryz.underlying224, (fun ks h => by cases h)⟩
theorem rowOk_225 : RowOk Tryz.prog 225 { agg := false, size := 1, bytes := 4, zero := [.int .i32 0], d := .int .i32, ck := some [.i32] } :=
  ⟨Tryz.isAgg225, info_of (z := .int .i32 0) (by kernel_rfl), rfl, fun _ => rfl, rfl, Tryz.underlying225, (fun ks h => by injection h with h; subst h; exact eqOk_int Tryz.underlying225)⟩
theorem rowOk_226 : RowOk Tryz.prog 226 { agg := false, size := 1, bytes := 4, zero := [.int .i32 0], d := .int .i32, ck := some [.i32] } :=
  ⟨Tryz.isAgg226, info_of (z := .int .i32 0) (by kernel_rfl), rfl, fun _ => rfl, rfl, Tryz.underlying226, (fun ks h => by injection h with h; subst h; exact eqOk_int Tryz.underlying226)⟩
theorem rowOk_227 : RowOk Tryz.prog 227 { agg := true, size := 11, bytes := 48, zero := [.int .u64 0, .int .u64 0, .int .u32 0, .int .u8 0, .int .u8 0, .int .u8 0, .int .u8 0, .nilFunc, .pointer none, .int .i32 0, .int .i32 0], d := .struct [(0, 12), (1, 12), (2, 41), (3, 221), (4, 5), (5, 5), (6, 222), (7, 223), (8, 224), (9, 225), (10, 226)] } :=
  ⟨Tryz.isAgg227, info_of (z := .agg #[.int .u64 0, .int .u64 0, .int .u32 0, .int .u8 0, .int .u8 0, .int .u8 0, .int .u8 0, .nilFunc, .pointer none, .int .i32 0, .int .i32 0]) (by kernel_rfl), rfl, (fun h => by cases h), rfl, ⟨_, Tryz.underlying227, rfl⟩, (fun ks h => by cases h)⟩
theorem rowOk_228 : RowOk Tryz.prog 228 { agg := true, size := 11, bytes := 48, zero := [.int .u64 0, .int .u64 0, .int .u32 0, .int .u8 0, .int .u8 0, .int .u8 0, .int .u8 0, .nilFunc, .pointer none, .int .i32 0, .int .i32 0], d := .struct [(0, 12), (1, 12), (2, 41), (3, 221), (4, 5), (5, 5), (6, 222), (7, 223), (8, 224), (9, 225), (10, 226)] } :=
  ⟨Tryz.isAgg228, info_of (z := .agg #[.int .u64 0, .int .u64 0, .int .u32 0, .int .u8 0, .int .u8 0, .int .u8 0, .int .u8 0, .nilFunc, .pointer none, .int .i32 0, .int .i32 0]) (by kernel_rfl), rfl, (fun h => by cases h), rfl, ⟨_, Tryz.underlying228, rfl⟩, (fun ks h => by cases h)⟩
theorem tabOk : TabOk Tryz.prog tab := tabOk_of tabL ⟨rowOk_2, rowOk_3, rowOk_4, rowOk_5, rowOk_6, rowOk_7, rowOk_8, rowOk_9, rowOk_10, rowOk_11, rowOk_12, rowOk_13, rowOk_14, rowOk_15, rowOk_16, rowOk_17, rowOk_18, rowOk_19, rowOk_21, rowOk_22, rowOk_24, rowOk_25, rowOk_26, rowOk_27, rowOk_35, rowOk_36, rowOk_37, rowOk_38, rowOk_40, rowOk_41, rowOk_42, rowOk_43, rowOk_44, rowOk_48, rowOk_57, rowOk_59, rowOk_60, rowOk_65, rowOk_84, rowOk_85, rowOk_87, rowOk_88, rowOk_98, rowOk_99, rowOk_100, rowOk_102, rowOk_103, rowOk_106, rowOk_108, rowOk_109, rowOk_110, rowOk_111, rowOk_117, rowOk_119, rowOk_122, rowOk_130, rowOk_135, rowOk_144, rowOk_163, rowOk_165, rowOk_169, rowOk_187, rowOk_216, rowOk_217, rowOk_218, rowOk_219, rowOk_220, rowOk_221, rowOk_222, rowOk_224, rowOk_225, rowOk_226, rowOk_227, rowOk_228, trivial⟩
end Go.Proofs.YtomfeddgeihipaaGreat.Aw
