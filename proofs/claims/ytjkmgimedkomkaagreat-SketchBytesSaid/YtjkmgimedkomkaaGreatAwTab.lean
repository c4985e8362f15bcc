/- The types of this seat's translation, as a table, and that the loaded program has them so. Written by a program (gentab.py). -/
import Derived.Test.YtjkmgimedkomkaaGreatAwDraw
import Derived.Test.YtjkmgimedkomkaaGreatAwArr
import Derived.Test.YtjkmgimedkomkaaGreatProg
import Derived.KernelRfl
import Derived.Tactics
import Derived.Laws.StructEq
namespace Go.Proofs.YtjkmgimedkomkaaGreat.Aw
open Go Go.RowKit
set_option linter.unusedSimpArgs false
set_option linter.unusedVariables false
def R3 : TRow := { agg := false, size := 1, bytes := 8, zero := [.int .i64 0], d := .int .i64, ck := some [.i64] }
def R4 : TRow := { agg := false, size := 1, bytes := 1, zero := [.bool false], d := .bool }
def R5 : TRow := { agg := false, size := 1, bytes := 1, zero := [.int .u8 0], d := .int .u8, ck := some [.u8] }
def R9 : TRow := { agg := false, size := 1, bytes := 16, zero := [.string ⟨#[]⟩], d := .str }
def R22 : TRow := { agg := false, size := 1, bytes := 24, zero := [.slice none 0 0], d := .slice 42 }
def R24 : TRow := { agg := true, size := 1, bytes := 16, zero := [.string ⟨#[]⟩], d := .struct [(0, 9)] }
def R25 : TRow := { agg := true, size := 1, bytes := 16, zero := [.string ⟨#[]⟩], d := .struct [(0, 9)] }
def R28 : TRow := { agg := false, size := 1, bytes := 8, zero := [.pointer none], d := .ptr 75 }
def R30 : TRow := { agg := false, size := 1, bytes := 8, zero := [.pointer none], d := .ptr 32 }
def R31 : TRow := { agg := true, size := 2, bytes := 24, zero := [.string ⟨#[]⟩, .int .i64 0], d := .struct [(0, 9), (1, 3)] }
def R32 : TRow := { agg := true, size := 2, bytes := 24, zero := [.string ⟨#[]⟩, .int .i64 0], d := .struct [(0, 9), (1, 3)] }
def R37 : TRow := { agg := false, size := 1, bytes := 8, zero := [.int .i64 0], d := .int .i64, ck := some [.i64] }
def R40 : TRow := { agg := false, size := 1, bytes := 4, zero := [.int .u32 0], d := .int .u32, ck := some [.u32] }
def R41 : TRow := { agg := true, size := 6, bytes := 32, zero := [.int .i64 0, .int .u32 0, .int .u32 0, .int .u32 0, .int .u32 0, .int .u32 0], d := .struct [(0, 3), (1, 40), (2, 40), (3, 40), (4, 40), (5, 40)], ck := some [.i64, .u32, .u32, .u32, .u32, .u32] }
def R42 : TRow := { agg := true, size := 6, bytes := 32, zero := [.int .i64 0, .int .u32 0, .int .u32 0, .int .u32 0, .int .u32 0, .int .u32 0], d := .struct [(0, 3), (1, 40), (2, 40), (3, 40), (4, 40), (5, 40)], ck := some [.i64, .u32, .u32, .u32, .u32, .u32] }
def R44 : TRow := { agg := false, size := 1, bytes := 24, zero := [.slice none 0 0], d := .slice 40 }
def R45 : TRow := { agg := false, size := 1, bytes := 24, zero := [.slice none 0 0], d := .slice 56 }
def R46 : TRow := { agg := true, size := 2, bytes := 48, zero := [.slice none 0 0, .slice none 0 0], d := .struct [(0, 44), (1, 45)] }
def R47 : TRow := { agg := true, size := 2, bytes := 48, zero := [.slice none 0 0, .slice none 0 0], d := .struct [(0, 44), (1, 45)] }
def R48 : TRow := { agg := false, size := 1, bytes := 24, zero := [.slice none 0 0], d := .slice 44 }
def R49 : TRow := { agg := true, size := 3, bytes := 72, zero := [.slice none 0 0, .slice none 0 0, .slice none 0 0], d := .struct [(0, 47), (2, 48)] }
def R50 : TRow := { agg := true, size := 3, bytes := 72, zero := [.slice none 0 0, .slice none 0 0, .slice none 0 0], d := .struct [(0, 47), (2, 48)] }
def R55 : TRow := { agg := true, size := 3, bytes := 12, zero := [.int .u32 0, .int .u32 0, .int .u32 0], d := .struct [(0, 40), (1, 40), (2, 40)], ck := some [.u32, .u32, .u32] }
def R56 : TRow := { agg := true, size := 3, bytes := 12, zero := [.int .u32 0, .int .u32 0, .int .u32 0], d := .struct [(0, 40), (1, 40), (2, 40)], ck := some [.u32, .u32, .u32] }
def R61 : TRow := { agg := false, size := 1, bytes := 8, zero := [.int .u64 0], d := .int .u64, ck := some [.u64] }
def R64 : TRow := { agg := true, size := 32, bytes := 32, zero := [.int .u8 0, .int .u8 0, .int .u8 0, .int .u8 0, .int .u8 0, .int .u8 0, .int .u8 0, .int .u8 0, .int .u8 0, .int .u8 0, .int .u8 0, .int .u8 0, .int .u8 0, .int .u8 0, .int .u8 0, .int .u8 0, .int .u8 0, .int .u8 0, .int .u8 0, .int .u8 0, .int .u8 0, .int .u8 0, .int .u8 0, .int .u8 0, .int .u8 0, .int .u8 0, .int .u8 0, .int .u8 0, .int .u8 0, .int .u8 0, .int .u8 0, .int .u8 0], d := .arr 32 5 }
def R65 : TRow := { agg := true, size := 32, bytes := 32, zero := [.int .u8 0, .int .u8 0, .int .u8 0, .int .u8 0, .int .u8 0, .int .u8 0, .int .u8 0, .int .u8 0, .int .u8 0, .int .u8 0, .int .u8 0, .int .u8 0, .int .u8 0, .int .u8 0, .int .u8 0, .int .u8 0, .int .u8 0, .int .u8 0, .int .u8 0, .int .u8 0, .int .u8 0, .int .u8 0, .int .u8 0, .int .u8 0, .int .u8 0, .int .u8 0, .int .u8 0, .int .u8 0, .int .u8 0, .int .u8 0, .int .u8 0, .int .u8 0], d := .arr 32 5, zz := true }
def R72 : TRow := { agg := true, size := 1, bytes := 8, zero := [.int .i64 0], d := .struct [(0, 37)], ck := some [.i64] }
def R73 : TRow := { agg := true, size := 1, bytes := 8, zero := [.int .i64 0], d := .struct [(0, 37)], ck := some [.i64] }
def R74 : TRow := { agg := true, size := 2, bytes := 24, zero := [.int .i64 0, .string ⟨#[]⟩], d := .struct [(0, 73), (1, 9)] }
def R75 : TRow := { agg := true, size := 2, bytes := 24, zero := [.int .i64 0, .string ⟨#[]⟩], d := .struct [(0, 73), (1, 9)] }
def R81 : TRow := { agg := false, size := 1, bytes := 8, zero := [.pointer none], d := .ptr 84 }
def R83 : TRow := { agg := true, size := 3, bytes := 72, zero := [.slice none 0 0, .slice none 0 0, .slice none 0 0], d := .struct [(0, 50)] }
def R84 : TRow := { agg := true, size := 3, bytes := 72, zero := [.slice none 0 0, .slice none 0 0, .slice none 0 0], d := .struct [(0, 50)] }
def R90 : TRow := { agg := false, size := 1, bytes := 24, zero := [.slice none 0 0], d := .slice 5 }
def R91 : TRow := { agg := false, size := 1, bytes := 8, zero := [.pointer none], d := .ptr 93 }
def R92 : TRow := { agg := true, size := 2, bytes := 32, zero := [.pointer none, .slice none 0 0], d := .struct [(0, 91), (1, 90)] }
def R93 : TRow := { agg := true, size := 2, bytes := 32, zero := [.pointer none, .slice none 0 0], d := .struct [(0, 91), (1, 90)] }
def R99 : TRow := { agg := false, size := 1, bytes := 8, zero := [.pointer none], d := .ptr 40 }
def R100 : TRow := { agg := false, size := 1, bytes := 24, zero := [.slice none 0 0], d := .slice 99 }
def R115 : TRow := { agg := false, size := 1, bytes := 8, zero := [.map none], d := .map 40 44 }
def R116 : TRow := { agg := false, size := 1, bytes := 8, zero := [.pointer none], d := .ptr 73 }
def R117 : TRow := { agg := false, size := 1, bytes := 24, zero := [.slice none 0 0], d := .slice 9 }
def R118 : TRow := { agg := false, size := 1, bytes := 8, zero := [.int .u64 0], d := .int .u64, ck := some [.u64] }
def R119 : TRow := { agg := true, size := 8, bytes := 8, zero := [.int .u8 0, .int .u8 0, .int .u8 0, .int .u8 0, .int .u8 0, .int .u8 0, .int .u8 0, .int .u8 0], d := .arr 8 5 }
def R120 : TRow := { agg := false, size := 1, bytes := 8, zero := [.pointer none], d := .ptr 5 }
def R143 : TRow := { agg := false, size := 1, bytes := 8, zero := [.map none], d := .map 40 3 }
def R144 : TRow := { agg := false, size := 1, bytes := 8, zero := [.map none], d := .map 40 40 }
def R146 : TRow := { agg := false, size := 1, bytes := 8, zero := [.nilFunc], d := .func }
def R171 : TRow := { agg := false, size := 1, bytes := 8, zero := [.int .i64 0], d := .int .i64, ck := some [.i64] }
def R181 : TRow := { agg := false, size := 1, bytes := 8, zero := [.nilFunc], d := .func }
def R185 : TRow := { agg := false, size := 1, bytes := 8, zero := [.int .u64 0], d := .int .u64, ck := some [.u64] }
def R188 : TRow := { agg := false, size := 1, bytes := 8, zero := [.pointer none], d := .ptr 3 }
def R197 : TRow := { agg := false, size := 1, bytes := 8, zero := [.pointer none], d := .ptr 185 }
def tabL : List (Nat × TRow) := [(3, R3), (4, R4), (5, R5), (9, R9), (22, R22), (24, R24), (25, R25), (28, R28), (30, R30), (31, R31), (32, R32), (37, R37), (40, R40), (41, R41), (42, R42), (44, R44), (45, R45), (46, R46), (47, R47), (48, R48), (49, R49), (50, R50), (55, R55), (56, R56), (61, R61), (64, R64), (65, R65), (72, R72), (73, R73), (74, R74), (75, R75), (81, R81), (83, R83), (84, R84), (90, R90), (91, R91), (92, R92), (93, R93), (99, R99), (100, R100), (115, R115), (116, R116), (117, R117), (118, R118), (119, R119), (120, R120), (143, R143), (144, R144), (146, R146), (171, R171), (181, R181), (185, R185), (188, R188), (197, R197)]
def tab : Tab := lookT tabL
@[simp] theorem tab_3 : tab 3 = some { agg := false, size := 1, bytes := 8, zero := [.int .i64 0], d := .int .i64, ck := some [.i64] } := rfl
@[simp] theorem tab_4 : tab 4 = some { agg := false, size := 1, bytes := 1, zero := [.bool false], d := .bool } := rfl
@[simp] theorem tab_5 : tab 5 = some { agg := false, size := 1, bytes := 1, zero := [.int .u8 0], d := .int .u8, ck := some [.u8] } := rfl
@[simp] theorem tab_9 : tab 9 = some { agg := false, size := 1, bytes := 16, zero := [.string ⟨#[]⟩], d := .str } := rfl
@[simp] theorem tab_22 : tab 22 = some { agg := false, size := 1, bytes := 24, zero := [.slice none 0 0], d := .slice 42 } := rfl
@[simp] theorem tab_24 : tab 24 = some { agg := true, size := 1, bytes := 16, zero := [.string ⟨#[]⟩], d := .struct [(0, 9)] } := rfl
@[simp] theorem tab_25 : tab 25 = some { agg := true, size := 1, bytes := 16, zero := [.string ⟨#[]⟩], d := .struct [(0, 9)] } := rfl
@[simp] theorem tab_28 : tab 28 = some { agg := false, size := 1, bytes := 8, zero := [.pointer none], d := .ptr 75 } := rfl
@[simp] theorem tab_30 : tab 30 = some { agg := false, size := 1, bytes := 8, zero := [.pointer none], d := .ptr 32 } := rfl
@[simp] theorem tab_31 : tab 31 = some { agg := true, size := 2, bytes := 24, zero := [.string ⟨#[]⟩, .int .i64 0], d := .struct [(0, 9), (1, 3)] } := rfl
@[simp] theorem tab_32 : tab 32 = some { agg := true, size := 2, bytes := 24, zero := [.string ⟨#[]⟩, .int .i64 0], d := .struct [(0, 9), (1, 3)] } := rfl
@[simp] theorem tab_37 : tab 37 = some { agg := false, size := 1, bytes := 8, zero := [.int .i64 0], d := .int .i64, ck := some [.i64] } := rfl
@[simp] theorem tab_40 : tab 40 = some { agg := false, size := 1, bytes := 4, zero := [.int .u32 0], d := .int .u32, ck := some [.u32] } := rfl
@[simp] theorem tab_41 : tab 41 = some { agg := true, size := 6, bytes := 32, zero := [.int .i64 0, .int .u32 0, .int .u32 0, .int .u32 0, .int .u32 0, .int .u32 0], d := .struct [(0, 3), (1, 40), (2, 40), (3, 40), (4, 40), (5, 40)], ck := some [.i64, .u32, .u32, .u32, .u32, .u32] } := rfl
@[simp] theorem tab_42 : tab 42 = some { agg := true, size := 6, bytes := 32, zero := [.int .i64 0, .int .u32 0, .int .u32 0, .int .u32 0, .int .u32 0, .int .u32 0], d := .struct [(0, 3), (1, 40), (2, 40), (3, 40), (4, 40), (5, 40)], ck := some [.i64, .u32, .u32, .u32, .u32, .u32] } := rfl
@[simp] theorem tab_44 : tab 44 = some { agg := false, size := 1, bytes := 24, zero := [.slice none 0 0], d := .slice 40 } := rfl
@[simp] theorem tab_45 : tab 45 = some { agg := false, size := 1, bytes := 24, zero := [.slice none 0 0], d := .slice 56 } := rfl
@[simp] theorem tab_46 : tab 46 = some { agg := true, size := 2, bytes := 48, zero := [.slice none 0 0, .slice none 0 0], d := .struct [(0, 44), (1, 45)] } := rfl
@[simp] theorem tab_47 : tab 47 = some { agg := true, size := 2, bytes := 48, zero := [.slice none 0 0, .slice none 0 0], d := .struct [(0, 44), (1, 45)] } := rfl
@[simp] theorem tab_48 : tab 48 = some { agg := false, size := 1, bytes := 24, zero := [.slice none 0 0], d := .slice 44 } := rfl
@[simp] theorem tab_49 : tab 49 = some { agg := true, size := 3, bytes := 72, zero := [.slice none 0 0, .slice none 0 0, .slice none 0 0], d := .struct [(0, 47), (2, 48)] } := rfl
@[simp] theorem tab_50 : tab 50 = some { agg := true, size := 3, bytes := 72, zero := [.slice none 0 0, .slice none 0 0, .slice none 0 0], d := .struct [(0, 47), (2, 48)] } := rfl
@[simp] theorem tab_55 : tab 55 = some { agg := true, size := 3, bytes := 12, zero := [.int .u32 0, .int .u32 0, .int .u32 0], d := .struct [(0, 40), (1, 40), (2, 40)], ck := some [.u32, .u32, .u32] } := rfl
@[simp] theorem tab_56 : tab 56 = some { agg := true, size := 3, bytes := 12, zero := [.int .u32 0, .int .u32 0, .int .u32 0], d := .struct [(0, 40), (1, 40), (2, 40)], ck := some [.u32, .u32, .u32] } := rfl
@[simp] theorem tab_61 : tab 61 = some { agg := false, size := 1, bytes := 8, zero := [.int .u64 0], d := .int .u64, ck := some [.u64] } := rfl
@[simp] theorem tab_64 : tab 64 = some { agg := true, size := 32, bytes := 32, zero := [.int .u8 0, .int .u8 0, .int .u8 0, .int .u8 0, .int .u8 0, .int .u8 0, .int .u8 0, .int .u8 0, .int .u8 0, .int .u8 0, .int .u8 0, .int .u8 0, .int .u8 0, .int .u8 0, .int .u8 0, .int .u8 0, .int .u8 0, .int .u8 0, .int .u8 0, .int .u8 0, .int .u8 0, .int .u8 0, .int .u8 0, .int .u8 0, .int .u8 0, .int .u8 0, .int .u8 0, .int .u8 0, .int .u8 0, .int .u8 0, .int .u8 0, .int .u8 0], d := .arr 32 5 } := rfl
@[simp] theorem tab_65 : tab 65 = some { agg := true, size := 32, bytes := 32, zero := [.int .u8 0, .int .u8 0, .int .u8 0, .int .u8 0, .int .u8 0, .int .u8 0, .int .u8 0, .int .u8 0, .int .u8 0, .int .u8 0, .int .u8 0, .int .u8 0, .int .u8 0, .int .u8 0, .int .u8 0, .int .u8 0, .int .u8 0, .int .u8 0, .int .u8 0, .int .u8 0, .int .u8 0, .int .u8 0, .int .u8 0, .int .u8 0, .int .u8 0, .int .u8 0, .int .u8 0, .int .u8 0, .int .u8 0, .int .u8 0, .int .u8 0, .int .u8 0], d := .arr 32 5, zz := true } := rfl
@[simp] theorem tab_72 : tab 72 = some { agg := true, size := 1, bytes := 8, zero := [.int .i64 0], d := .struct [(0, 37)], ck := some [.i64] } := rfl
@[simp] theorem tab_73 : tab 73 = some { agg := true, size := 1, bytes := 8, zero := [.int .i64 0], d := .struct [(0, 37)], ck := some [.i64] } := rfl
@[simp] theorem tab_74 : tab 74 = some { agg := true, size := 2, bytes := 24, zero := [.int .i64 0, .string ⟨#[]⟩], d := .struct [(0, 73), (1, 9)] } := rfl
@[simp] theorem tab_75 : tab 75 = some { agg := true, size := 2, bytes := 24, zero := [.int .i64 0, .string ⟨#[]⟩], d := .struct [(0, 73), (1, 9)] } := rfl
@[simp] theorem tab_81 : tab 81 = some { agg := false, size := 1, bytes := 8, zero := [.pointer none], d := .ptr 84 } := rfl
@[simp] theorem tab_83 : tab 83 = some { agg := true, size := 3, bytes := 72, zero := [.slice none 0 0, .slice none 0 0, .slice none 0 0], d := .struct [(0, 50)] } := rfl
@[simp] theorem tab_84 : tab 84 = some { agg := true, size := 3, bytes := 72, zero := [.slice none 0 0, .slice none 0 0, .slice none 0 0], d := .struct [(0, 50)] } := rfl
@[simp] theorem tab_90 : tab 90 = some { agg := false, size := 1, bytes := 24, zero := [.slice none 0 0], d := .slice 5 } := rfl
@[simp] theorem tab_91 : tab 91 = some { agg := false, size := 1, bytes := 8, zero := [.pointer none], d := .ptr 93 } := rfl
@[simp] theorem tab_92 : tab 92 = some { agg := true, size := 2, bytes := 32, zero := [.pointer none, .slice none 0 0], d := .struct [(0, 91), (1, 90)] } := rfl
@[simp] theorem tab_93 : tab 93 = some { agg := true, size := 2, bytes := 32, zero := [.pointer none, .slice none 0 0], d := .struct [(0, 91), (1, 90)] } := rfl
@[simp] theorem tab_99 : tab 99 = some { agg := false, size := 1, bytes := 8, zero := [.pointer none], d := .ptr 40 } := rfl
@[simp] theorem tab_100 : tab 100 = some { agg := false, size := 1, bytes := 24, zero := [.slice none 0 0], d := .slice 99 } := rfl
@[simp] theorem tab_115 : tab 115 = some { agg := false, size := 1, bytes := 8, zero := [.map none], d := .map 40 44 } := rfl
@[simp] theorem tab_116 : tab 116 = some { agg := false, size := 1, bytes := 8, zero := [.pointer none], d := .ptr 73 } := rfl
@[simp] theorem tab_117 : tab 117 = some { agg := false, size := 1, bytes := 24, zero := [.slice none 0 0], d := .slice 9 } := rfl
@[simp] theorem tab_118 : tab 118 = some { agg := false, size := 1, bytes := 8, zero := [.int .u64 0], d := .int .u64, ck := some [.u64] } := rfl
@[simp] theorem tab_119 : tab 119 = some { agg := true, size := 8, bytes := 8, zero := [.int .u8 0, .int .u8 0, .int .u8 0, .int .u8 0, .int .u8 0, .int .u8 0, .int .u8 0, .int .u8 0], d := .arr 8 5 } := rfl
@[simp] theorem tab_120 : tab 120 = some { agg := false, size := 1, bytes := 8, zero := [.pointer none], d := .ptr 5 } := rfl
@[simp] theorem tab_143 : tab 143 = some { agg := false, size := 1, bytes := 8, zero := [.map none], d := .map 40 3 } := rfl
@[simp] theorem tab_144 : tab 144 = some { agg := false, size := 1, bytes := 8, zero := [.map none], d := .map 40 40 } := rfl
@[simp] theorem tab_146 : tab 146 = some { agg := false, size := 1, bytes := 8, zero := [.nilFunc], d := .func } := rfl
@[simp] theorem tab_171 : tab 171 = some { agg := false, size := 1, bytes := 8, zero := [.int .i64 0], d := .int .i64, ck := some [.i64] } := rfl
@[simp] theorem tab_181 : tab 181 = some { agg := false, size := 1, bytes := 8, zero := [.nilFunc], d := .func } := rfl
@[simp] theorem tab_185 : tab 185 = some { agg := false, size := 1, bytes := 8, zero := [.int .u64 0], d := .int .u64, ck := some [.u64] } := rfl
@[simp] theorem tab_188 : tab 188 = some { agg := false, size := 1, bytes := 8, zero := [.pointer none], d := .ptr 3 } := rfl
@[simp] theorem tab_197 : tab 197 = some { agg := false, size := 1, bytes := 8, zero := [.pointer none], d := .ptr 185 } := rfl
theorem info_of {P : Program} {t size bytes : Nat} {z : Value} (h : (P.info? t).map (fun i => (i.size, i.bytes, i.zero)) = some (size, bytes, some z)) : ∃ i, P.info? t = some i ∧ i.size = size ∧ i.bytes = bytes ∧ i.zero = some z := by
  cases hi : P.info? t with
  | none => simp [hi] at h
  | some i =>
    simp only [hi, Option.map_some, Option.some.injEq, Prod.mk.injEq] at h
    exact ⟨i, rfl, h.1, h.2.1, h.2.2⟩
theorem eqOk_41 : EqOk Tryz.prog 41 true [.i64, .u32, .u32, .u32, .u32, .u32] := by
  have u3 := Tryz.underlying3
  have a3 := Tryz.isAgg3
  have z3 := Tryz.sizeOf3
  have u40 := Tryz.underlying40
  have a40 := Tryz.isAgg40
  have z40 := Tryz.sizeOf40
  have hp : Tryz.prog.stoodInHeld 41 = false := by kernel_rfl
  refine ⟨fun w as1 bs1 h1 h2 => ?_, fun w em as1 h1 => ?_, fun _ => by kernel_rfl, (fun h => by cases h), _, Tryz.underlying41, .inr fun as1 bs1 h1 h2 => by simp [mkV, Instr.sameNow]⟩
  · match as1, bs1, h1, h2 with
    | [x0, x1, x2, x3, x4, x5], [y0, y1, y2, y3, y4, y5], _, _ =>
      have hS : Tryz.prog.underlying 41 = some (.struct (Tryz.prog.fieldsOf 41)) := by kernel_rfl
      simp only [mkV, mkC, if_true]
      unfold Op.equal Op.maxDepth
      rw [show (10000 : Nat) = 9999 + 1 from rfl, run_equalIn_agg w 9999 41 _ _ hS hp]
      simp only [Program.fieldsOf, Tryz.underlying41]
      go_simp
      by_cases e0 : x0 = y0 <;> by_cases e1 : x1 = y1 <;> by_cases e2 : x2 = y2 <;> by_cases e3 : x3 = y3 <;> by_cases e4 : x4 = y4 <;> by_cases e5 : x5 = y5 <;> simp [e0, e1, e2, e3, e4, e5]
  · match as1, h1 with
    | [x0, x1, x2, x3, x4, x5], _ =>
      simp only [mkV, mkC, if_true]
      unfold Instr.checkKey
      simp only [Sem.run_bind, run_underlying Tryz.underlying41, Result.andThen_ok]
      go_simp
      (try simp [chk_int u3, chk_int u40])
theorem eqOk_42 : EqOk Tryz.prog 42 true [.i64, .u32, .u32, .u32, .u32, .u32] := by
  have u3 := Tryz.underlying3
  have a3 := Tryz.isAgg3
  have z3 := Tryz.sizeOf3
  have u40 := Tryz.underlying40
  have a40 := Tryz.isAgg40
  have z40 := Tryz.sizeOf40
  have hp : Tryz.prog.stoodInHeld 42 = false := by kernel_rfl
  refine ⟨fun w as1 bs1 h1 h2 => ?_, fun w em as1 h1 => ?_, fun _ => by kernel_rfl, (fun h => by cases h), _, Tryz.underlying42, .inr fun as1 bs1 h1 h2 => by simp [mkV, Instr.sameNow]⟩
  · match as1, bs1, h1, h2 with
    | [x0, x1, x2, x3, x4, x5], [y0, y1, y2, y3, y4, y5], _, _ =>
      have hS : Tryz.prog.underlying 42 = some (.struct (Tryz.prog.fieldsOf 42)) := by kernel_rfl
      simp only [mkV, mkC, if_true]
      unfold Op.equal Op.maxDepth
      rw [show (10000 : Nat) = 9999 + 1 from rfl, run_equalIn_agg w 9999 42 _ _ hS hp]
      simp only [Program.fieldsOf, Tryz.underlying42]
      go_simp
      by_cases e0 : x0 = y0 <;> by_cases e1 : x1 = y1 <;> by_cases e2 : x2 = y2 <;> by_cases e3 : x3 = y3 <;> by_cases e4 : x4 = y4 <;> by_cases e5 : x5 = y5 <;> simp [e0, e1, e2, e3, e4, e5]
  · match as1, h1 with
    | [x0, x1, x2, x3, x4, x5], _ =>
      simp only [mkV, mkC, if_true]
      unfold Instr.checkKey
      simp only [Sem.run_bind, run_underlying Tryz.underlying42, Result.andThen_ok]
      go_simp
      (try simp [chk_int u3, chk_int u40])
theorem eqOk_55 : EqOk Tryz.prog 55 true [.u32, .u32, .u32] := by
  have u40 := Tryz.underlying40
  have a40 := Tryz.isAgg40
  have z40 := Tryz.sizeOf40
  have hp : Tryz.prog.stoodInHeld 55 = false := by kernel_rfl
  refine ⟨fun w as1 bs1 h1 h2 => ?_, fun w em as1 h1 => ?_, fun _ => by kernel_rfl, (fun h => by cases h), _, Tryz.underlying55, .inr fun as1 bs1 h1 h2 => by simp [mkV, Instr.sameNow]⟩
  · match as1, bs1, h1, h2 with
    | [x0, x1, x2], [y0, y1, y2], _, _ =>
      have hS : Tryz.prog.underlying 55 = some (.struct (Tryz.prog.fieldsOf 55)) := by kernel_rfl
      simp only [mkV, mkC, if_true]
      unfold Op.equal Op.maxDepth
      rw [show (10000 : Nat) = 9999 + 1 from rfl, run_equalIn_agg w 9999 55 _ _ hS hp]
      simp only [Program.fieldsOf, Tryz.underlying55]
      go_simp
      by_cases e0 : x0 = y0 <;> by_cases e1 : x1 = y1 <;> by_cases e2 : x2 = y2 <;> simp [e0, e1, e2]
  · match as1, h1 with
    | [x0, x1, x2], _ =>
      simp only [mkV, mkC, if_true]
      unfold Instr.checkKey
      simp only [Sem.run_bind, run_underlying Tryz.underlying55, Result.andThen_ok]
      go_simp
      (try simp [chk_int u40])
theorem eqOk_56 : EqOk Tryz.prog 56 true [.u32, .u32, .u32] := by
  have u40 := Tryz.underlying40
  have a40 := Tryz.isAgg40
  have z40 := Tryz.sizeOf40
  have hp : Tryz.prog.stoodInHeld 56 = false := by kernel_rfl
  refine ⟨fun w as1 bs1 h1 h2 => ?_, fun w em as1 h1 => ?_, fun _ => by kernel_rfl, (fun h => by cases h), _, Tryz.underlying56, .inr fun as1 bs1 h1 h2 => by simp [mkV, Instr.sameNow]⟩
  · match as1, bs1, h1, h2 with
    | [x0, x1, x2], [y0, y1, y2], _, _ =>
      have hS : Tryz.prog.underlying 56 = some (.struct (Tryz.prog.fieldsOf 56)) := by kernel_rfl
      simp only [mkV, mkC, if_true]
      unfold Op.equal Op.maxDepth
      rw [show (10000 : Nat) = 9999 + 1 from rfl, run_equalIn_agg w 9999 56 _ _ hS hp]
      simp only [Program.fieldsOf, Tryz.underlying56]
      go_simp
      by_cases e0 : x0 = y0 <;> by_cases e1 : x1 = y1 <;> by_cases e2 : x2 = y2 <;> simp [e0, e1, e2]
  · match as1, h1 with
    | [x0, x1, x2], _ =>
      simp only [mkV, mkC, if_true]
      unfold Instr.checkKey
      simp only [Sem.run_bind, run_underlying Tryz.underlying56, Result.andThen_ok]
      go_simp
      (try simp [chk_int u40])
theorem eqOk_72 : EqOk Tryz.prog 72 true [.i64] := by
  have u37 := Tryz.underlying37
  have a37 := Tryz.isAgg37
  have z37 := Tryz.sizeOf37
  have hp : Tryz.prog.stoodInHeld 72 = false := by kernel_rfl
  refine ⟨fun w as1 bs1 h1 h2 => ?_, fun w em as1 h1 => ?_, fun _ => by kernel_rfl, (fun h => by cases h), _, Tryz.underlying72, .inr fun as1 bs1 h1 h2 => by simp [mkV, Instr.sameNow]⟩
  · match as1, bs1, h1, h2 with
    | [x0], [y0], _, _ =>
      have hS : Tryz.prog.underlying 72 = some (.struct (Tryz.prog.fieldsOf 72)) := by kernel_rfl
      simp only [mkV, mkC, if_true]
      unfold Op.equal Op.maxDepth
      rw [show (10000 : Nat) = 9999 + 1 from rfl, run_equalIn_agg w 9999 72 _ _ hS hp]
      simp only [Program.fieldsOf, Tryz.underlying72]
      go_simp
      by_cases e0 : x0 = y0 <;> simp [e0]
  · match as1, h1 with
    | [x0], _ =>
      simp only [mkV, mkC, if_true]
      unfold Instr.checkKey
      simp only [Sem.run_bind, run_underlying Tryz.underlying72, Result.andThen_ok]
      go_simp
      (try simp [chk_int u37])
theorem eqOk_73 : EqOk Tryz.prog 73 true [.i64] := by
  have u37 := Tryz.underlying37
  have a37 := Tryz.isAgg37
  have z37 := Tryz.sizeOf37
  have hp : Tryz.prog.stoodInHeld 73 = false := by kernel_rfl
  refine ⟨fun w as1 bs1 h1 h2 => ?_, fun w em as1 h1 => ?_, fun _ => by kernel_rfl, (fun h => by cases h), _, Tryz.underlying73, .inr fun as1 bs1 h1 h2 => by simp [mkV, Instr.sameNow]⟩
  · match as1, bs1, h1, h2 with
    | [x0], [y0], _, _ =>
      have hS : Tryz.prog.underlying 73 = some (.struct (Tryz.prog.fieldsOf 73)) := by kernel_rfl
      simp only [mkV, mkC, if_true]
      unfold Op.equal Op.maxDepth
      rw [show (10000 : Nat) = 9999 + 1 from rfl, run_equalIn_agg w 9999 73 _ _ hS hp]
      simp only [Program.fieldsOf, Tryz.underlying73]
      go_simp
      by_cases e0 : x0 = y0 <;> simp [e0]
  · match as1, h1 with
    | [x0], _ =>
      simp only [mkV, mkC, if_true]
      unfold Instr.checkKey
      simp only [Sem.run_bind, run_underlying Tryz.underlying73, Result.andThen_ok]
      go_simp
      (try simp [chk_int u37])
theorem rowOk_3 : RowOk Tryz.prog 3 R3 := ⟨Tryz.isAgg3, info_of (z := .int .i64 0) (by kernel_rfl), rfl, fun _ => rfl, rfl, Tryz.underlying3, (fun ks h => by injection h with h; subst h; exact eqOk_int Tryz.underlying3), fun h => by cases h⟩
theorem rowOk_4 : RowOk Tryz.prog 4 R4 := ⟨Tryz.isAgg4, info_of (z := .bool false) (by kernel_rfl), rfl, fun _ => rfl, rfl, Tryz.underlying4, (fun ks h => by cases h), fun h => by cases h⟩
theorem rowOk_5 : RowOk Tryz.prog 5 R5 := ⟨Tryz.isAgg5, info_of (z := .int .u8 0) (by kernel_rfl), rfl, fun _ => rfl, rfl, Tryz.underlying5, (fun ks h => by injection h with h; subst h; exact eqOk_int Tryz.underlying5), fun h => by cases h⟩
theorem rowOk_9 : RowOk Tryz.prog 9 R9 := ⟨Tryz.isAgg9, info_of (z := .string ⟨#[]⟩) (by kernel_rfl), rfl, fun _ => rfl, rfl, Tryz.underlying9, (fun ks h => by cases h), fun h => by cases h⟩
theorem rowOk_22 : RowOk Tryz.prog 22 R22 := ⟨Tryz.isAgg22, info_of (z := .slice none 0 0) (by kernel_rfl), rfl, fun _ => rfl, rfl, Tryz.underlying22, (fun ks h => by cases h), fun h => by cases h⟩
theorem rowOk_24 : RowOk Tryz.prog 24 R24 := ⟨Tryz.isAgg24, info_of (z := .agg #[.string ⟨#[]⟩]) (by kernel_rfl), rfl, (fun h => by cases h), rfl, ⟨_, Tryz.underlying24, rfl⟩, (fun ks h => by cases h), fun h => by cases h⟩
theorem rowOk_25 : RowOk Tryz.prog 25 R25 := ⟨Tryz.isAgg25, info_of (z := .agg #[.string ⟨#[]⟩]) (by kernel_rfl), rfl, (fun h => by cases h), rfl, ⟨_, Tryz.underlying25, rfl⟩, (fun ks h => by cases h), fun h => by cases h⟩
theorem rowOk_28 : RowOk Tryz.prog 28 R28 := ⟨Tryz.isAgg28, info_of (z := .pointer none) (by kernel_rfl), rfl, fun _ => rfl, rfl, Tryz.underlying28, (fun ks h => by cases h), fun h => by cases h⟩
theorem rowOk_30 : RowOk Tryz.prog 30 R30 := ⟨Tryz.isAgg30, info_of (z := .pointer none) (by kernel_rfl), rfl, fun _ => rfl, rfl, Tryz.underlying30, (fun ks h => by cases h), fun h => by cases h⟩
theorem rowOk_31 : RowOk Tryz.prog 31 R31 := ⟨Tryz.isAgg31, info_of (z := .agg #[.string ⟨#[]⟩, .int .i64 0]) (by kernel_rfl), rfl, (fun h => by cases h), rfl, ⟨_, Tryz.underlying31, rfl⟩, (fun ks h => by cases h), fun h => by cases h⟩
theorem rowOk_32 : RowOk Tryz.prog 32 R32 := ⟨Tryz.isAgg32, info_of (z := .agg #[.string ⟨#[]⟩, .int .i64 0]) (by kernel_rfl), rfl, (fun h => by cases h), rfl, ⟨_, Tryz.underlying32, rfl⟩, (fun ks h => by cases h), fun h => by cases h⟩
theorem rowOk_37 : RowOk Tryz.prog 37 R37 := ⟨Tryz.isAgg37, info_of (z := .int .i64 0) (by kernel_rfl), rfl, fun _ => rfl, rfl, Tryz.underlying37, (fun ks h => by injection h with h; subst h; exact eqOk_int Tryz.underlying37), fun h => by cases h⟩
theorem rowOk_40 : RowOk Tryz.prog 40 R40 := ⟨Tryz.isAgg40, info_of (z := .int .u32 0) (by kernel_rfl), rfl, fun _ => rfl, rfl, Tryz.underlying40, (fun ks h => by injection h with h; subst h; exact eqOk_int Tryz.underlying40), fun h => by cases h⟩
theorem rowOk_41 : RowOk Tryz.prog 41 R41 := ⟨Tryz.isAgg41, info_of (z := .agg #[.int .i64 0, .int .u32 0, .int .u32 0, .int .u32 0, .int .u32 0, .int .u32 0]) (by kernel_rfl), rfl, (fun h => by cases h), rfl, ⟨_, Tryz.underlying41, rfl⟩, (fun ks h => by injection h with h; subst h; exact eqOk_41), fun h => by cases h⟩
theorem rowOk_42 : RowOk Tryz.prog 42 R42 := ⟨Tryz.isAgg42, info_of (z := .agg #[.int .i64 0, .int .u32 0, .int .u32 0, .int .u32 0, .int .u32 0, .int .u32 0]) (by kernel_rfl), rfl, (fun h => by cases h), rfl, ⟨_, Tryz.underlying42, rfl⟩, (fun ks h => by injection h with h; subst h; exact eqOk_42), fun h => by cases h⟩
theorem rowOk_44 : RowOk Tryz.prog 44 R44 := ⟨Tryz.isAgg44, info_of (z := .slice none 0 0) (by kernel_rfl), rfl, fun _ => rfl, rfl, Tryz.underlying44, (fun ks h => by cases h), fun h => by cases h⟩
theorem rowOk_45 : RowOk Tryz.prog 45 R45 := ⟨Tryz.isAgg45, info_of (z := .slice none 0 0) (by kernel_rfl), rfl, fun _ => rfl, rfl, Tryz.underlying45, (fun ks h => by cases h), fun h => by cases h⟩
theorem rowOk_46 : RowOk Tryz.prog 46 R46 := ⟨Tryz.isAgg46, info_of (z := .agg #[.slice none 0 0, .slice none 0 0]) (by kernel_rfl), rfl, (fun h => by cases h), rfl, ⟨_, Tryz.underlying46, rfl⟩, (fun ks h => by cases h), fun h => by cases h⟩
theorem rowOk_47 : RowOk Tryz.prog 47 R47 := ⟨Tryz.isAgg47, info_of (z := .agg #[.slice none 0 0, .slice none 0 0]) (by kernel_rfl), rfl, (fun h => by cases h), rfl, ⟨_, Tryz.underlying47, rfl⟩, (fun ks h => by cases h), fun h => by cases h⟩
theorem rowOk_48 : RowOk Tryz.prog 48 R48 := ⟨Tryz.isAgg48, info_of (z := .slice none 0 0) (by kernel_rfl), rfl, fun _ => rfl, rfl, Tryz.underlying48, (fun ks h => by cases h), fun h => by cases h⟩
theorem rowOk_49 : RowOk Tryz.prog 49 R49 := ⟨Tryz.isAgg49, info_of (z := .agg #[.slice none 0 0, .slice none 0 0, .slice none 0 0]) (by kernel_rfl), rfl, (fun h => by cases h), rfl, ⟨_, Tryz.underlying49, rfl⟩, (fun ks h => by cases h), fun h => by cases h⟩
theorem rowOk_50 : RowOk Tryz.prog 50 R50 := ⟨Tryz.isAgg50, info_of (z := .agg #[.slice none 0 0, .slice none 0 0, .slice none 0 0]) (by kernel_rfl), rfl, (fun h => by cases h), rfl, ⟨_, Tryz.underlying50, rfl⟩, (fun ks h => by cases h), fun h => by cases h⟩
theorem rowOk_55 : RowOk Tryz.prog 55 R55 := ⟨Tryz.isAgg55, info_of (z := .agg #[.int .u32 0, .int .u32 0, .int .u32 0]) (by kernel_rfl), rfl, (fun h => by cases h), rfl, ⟨_, Tryz.underlying55, rfl⟩, (fun ks h => by injection h with h; subst h; exact eqOk_55), fun h => by cases h⟩
theorem rowOk_56 : RowOk Tryz.prog 56 R56 := ⟨Tryz.isAgg56, info_of (z := .agg #[.int .u32 0, .int .u32 0, .int .u32 0]) (by kernel_rfl), rfl, (fun h => by cases h), rfl, ⟨_, Tryz.underlying56, rfl⟩, (fun ks h => by injection h with h; subst h; exact eqOk_56), fun h => by cases h⟩
theorem rowOk_61 : RowOk Tryz.prog 61 R61 := ⟨Tryz.isAgg61, info_of (z := .int .u64 0) (by kernel_rfl), rfl, fun _ => rfl, rfl, Tryz.underlying61, (fun ks h => by injection h with h; subst h; exact eqOk_int Tryz.underlying61), fun h => by cases h⟩
theorem rowOk_64 : RowOk Tryz.prog 64 R64 := ⟨Tryz.isAgg64, info_of (z := .agg #[.int .u8 0, .int .u8 0, .int .u8 0, .int .u8 0, .int .u8 0, .int .u8 0, .int .u8 0, .int .u8 0, .int .u8 0, .int .u8 0, .int .u8 0, .int .u8 0, .int .u8 0, .int .u8 0, .int .u8 0, .int .u8 0, .int .u8 0, .int .u8 0, .int .u8 0, .int .u8 0, .int .u8 0, .int .u8 0, .int .u8 0, .int .u8 0, .int .u8 0, .int .u8 0, .int .u8 0, .int .u8 0, .int .u8 0, .int .u8 0, .int .u8 0, .int .u8 0]) (by kernel_rfl), rfl, (fun h => by cases h), rfl, Tryz.underlying64, (fun ks h => by cases h), fun h => by cases h⟩
theorem rowOk_65 : RowOk Tryz.prog 65 R65 := ⟨Tryz.isAgg65, info_of (z := .agg #[.int .u8 0, .int .u8 0, .int .u8 0, .int .u8 0, .int .u8 0, .int .u8 0, .int .u8 0, .int .u8 0, .int .u8 0, .int .u8 0, .int .u8 0, .int .u8 0, .int .u8 0, .int .u8 0, .int .u8 0, .int .u8 0, .int .u8 0, .int .u8 0, .int .u8 0, .int .u8 0, .int .u8 0, .int .u8 0, .int .u8 0, .int .u8 0, .int .u8 0, .int .u8 0, .int .u8 0, .int .u8 0, .int .u8 0, .int .u8 0, .int .u8 0, .int .u8 0]) (by kernel_rfl), rfl, (fun h => by cases h), rfl, Tryz.underlying65, (fun ks h => by cases h), fun _ => ⟨rfl, by kernel_rfl, fun w => by kernel_rfl⟩⟩
theorem rowOk_72 : RowOk Tryz.prog 72 R72 := ⟨Tryz.isAgg72, info_of (z := .agg #[.int .i64 0]) (by kernel_rfl), rfl, (fun h => by cases h), rfl, ⟨_, Tryz.underlying72, rfl⟩, (fun ks h => by injection h with h; subst h; exact eqOk_72), fun h => by cases h⟩
theorem rowOk_73 : RowOk Tryz.prog 73 R73 := ⟨Tryz.isAgg73, info_of (z := .agg #[.int .i64 0]) (by kernel_rfl), rfl, (fun h => by cases h), rfl, ⟨_, Tryz.underlying73, rfl⟩, (fun ks h => by injection h with h; subst h; exact eqOk_73), fun h => by cases h⟩
theorem rowOk_74 : RowOk Tryz.prog 74 R74 := ⟨Tryz.isAgg74, info_of (z := .agg #[.int .i64 0, .string ⟨#[]⟩]) (by kernel_rfl), rfl, (fun h => by cases h), rfl, ⟨_, Tryz.underlying74, rfl⟩, (fun ks h => by cases h), fun h => by cases h⟩
theorem rowOk_75 : RowOk Tryz.prog 75 R75 := ⟨Tryz.isAgg75, info_of (z := .agg #[.int .i64 0, .string ⟨#[]⟩]) (by kernel_rfl), rfl, (fun h => by cases h), rfl, ⟨_, Tryz.underlying75, rfl⟩, (fun ks h => by cases h), fun h => by cases h⟩
theorem rowOk_81 : RowOk Tryz.prog 81 R81 := ⟨Tryz.isAgg81, info_of (z := .pointer none) (by kernel_rfl), rfl, fun _ => rfl, rfl, Tryz.underlying81, (fun ks h => by cases h), fun h => by cases h⟩
theorem rowOk_83 : RowOk Tryz.prog 83 R83 := ⟨Tryz.isAgg83, info_of (z := .agg #[.slice none 0 0, .slice none 0 0, .slice none 0 0]) (by kernel_rfl), rfl, (fun h => by cases h), rfl, ⟨_, Tryz.underlying83, rfl⟩, (fun ks h => by cases h), fun h => by cases h⟩
theorem rowOk_84 : RowOk Tryz.prog 84 R84 := ⟨Tryz.isAgg84, info_of (z := .agg #[.slice none 0 0, .slice none 0 0, .slice none 0 0]) (by kernel_rfl), rfl, (fun h => by cases h), rfl, ⟨_, Tryz.underlying84, rfl⟩, (fun ks h => by cases h), fun h => by cases h⟩
theorem rowOk_90 : RowOk Tryz.prog 90 R90 := ⟨Tryz.isAgg90, info_of (z := .slice none 0 0) (by kernel_rfl), rfl, fun _ => rfl, rfl, Tryz.underlying90, (fun ks h => by cases h), fun h => by cases h⟩
theorem rowOk_91 : RowOk Tryz.prog 91 R91 := ⟨Tryz.isAgg91, info_of (z := .pointer none) (by kernel_rfl), rfl, fun _ => rfl, rfl, Tryz.underlying91, (fun ks h => by cases h), fun h => by cases h⟩
theorem rowOk_92 : RowOk Tryz.prog 92 R92 := ⟨Tryz.isAgg92, info_of (z := .agg #[.pointer none, .slice none 0 0]) (by kernel_rfl), rfl, (fun h => by cases h), rfl, ⟨_, Tryz.underlying92, rfl⟩, (fun ks h => by cases h), fun h => by cases h⟩
theorem rowOk_93 : RowOk Tryz.prog 93 R93 := ⟨Tryz.isAgg93, info_of (z := .agg #[.pointer none, .slice none 0 0]) (by kernel_rfl), rfl, (fun h => by cases h), rfl, ⟨_, Tryz.underlying93, rfl⟩, (fun ks h => by cases h), fun h => by cases h⟩
theorem rowOk_99 : RowOk Tryz.prog 99 R99 := ⟨Tryz.isAgg99, info_of (z := .pointer none) (by kernel_rfl), rfl, fun _ => rfl, rfl, Tryz.underlying99, (fun ks h => by cases h), fun h => by cases h⟩
theorem rowOk_100 : RowOk Tryz.prog 100 R100 := ⟨Tryz.isAgg100, info_of (z := .slice none 0 0) (by kernel_rfl), rfl, fun _ => rfl, rfl, Tryz.underlying100, (fun ks h => by cases h), fun h => by cases h⟩
theorem rowOk_115 : RowOk Tryz.prog 115 R115 := ⟨Tryz.isAgg115, info_of (z := .map none) (by kernel_rfl), rfl, fun _ => rfl, rfl, Tryz.underlying115, (fun ks h => by cases h), fun h => by cases h⟩
theorem rowOk_116 : RowOk Tryz.prog 116 R116 := ⟨Tryz.isAgg116, info_of (z := .pointer none) (by kernel_rfl), rfl, fun _ => rfl, rfl, Tryz.underlying116, (fun ks h => by cases h), fun h => by cases h⟩
theorem rowOk_117 : RowOk Tryz.prog 117 R117 := ⟨Tryz.isAgg117, info_of (z := .slice none 0 0) (by kernel_rfl), rfl, fun _ => rfl, rfl, Tryz.underlying117, (fun ks h => by cases h), fun h => by cases h⟩
theorem rowOk_118 : RowOk Tryz.prog 118 R118 := ⟨Tryz.isAgg118, info_of (z := .int .u64 0) (by kernel_rfl), rfl, fun _ => rfl, rfl, Tryz.underlying118, (fun ks h => by injection h with h; subst h; exact eqOk_int Tryz.underlying118), fun h => by cases h⟩
theorem rowOk_119 : RowOk Tryz.prog 119 R119 := ⟨Tryz.isAgg119, info_of (z := .agg #[.int .u8 0, .int .u8 0, .int .u8 0, .int .u8 0, .int .u8 0, .int .u8 0, .int .u8 0, .int .u8 0]) (by kernel_rfl), rfl, (fun h => by cases h), rfl, Tryz.underlying119, (fun ks h => by cases h), fun h => by cases h⟩
theorem rowOk_120 : RowOk Tryz.prog 120 R120 := ⟨Tryz.isAgg120, info_of (z := .pointer none) (by kernel_rfl), rfl, fun _ => rfl, rfl, Tryz.underlying120, (fun ks h => by cases h), fun h => by cases h⟩
theorem rowOk_143 : RowOk Tryz.prog 143 R143 := ⟨Tryz.isAgg143, info_of (z := .map none) (by kernel_rfl), rfl, fun _ => rfl, rfl, Tryz.underlying143, (fun ks h => by cases h), fun h => by cases h⟩
theorem rowOk_144 : RowOk Tryz.prog 144 R144 := ⟨Tryz.isAgg144, info_of (z := .map none) (by kernel_rfl), rfl, fun _ => rfl, rfl, Tryz.underlying144, (fun ks h => by cases h), fun h => by cases h⟩
theorem rowOk_146 : RowOk Tryz.prog 146 R146 := ⟨Tryz.isAgg146, info_of (z := .nilFunc) (by kernel_rfl), rfl, fun _ => rfl, rfl, ⟨_, _, _, Tryz.underlying146⟩, (fun ks h => by cases h), fun h => by cases h⟩
theorem rowOk_171 : RowOk Tryz.prog 171 R171 := ⟨Tryz.isAgg171, info_of (z := .int .i64 0) (by kernel_rfl), rfl, fun _ => rfl, rfl, Tryz.underlying171, (fun ks h => by injection h with h; subst h; exact eqOk_int Tryz.underlying171), fun h => by cases h⟩
theorem rowOk_181 : RowOk Tryz.prog 181 R181 := ⟨Tryz.isAgg181, info_of (z := .nilFunc) (by kernel_rfl), rfl, fun _ => rfl, rfl, ⟨_, _, _, Tryz.underlying181⟩, (fun ks h => by cases h), fun h => by cases h⟩
theorem rowOk_185 : RowOk Tryz.prog 185 R185 := ⟨Tryz.isAgg185, info_of (z := .int .u64 0) (by kernel_rfl), rfl, fun _ => rfl, rfl, Tryz.underlying185, (fun ks h => by injection h with h; subst h; exact eqOk_int Tryz.underlying185), fun h => by cases h⟩
theorem rowOk_188 : RowOk Tryz.prog 188 R188 := ⟨Tryz.isAgg188, info_of (z := .pointer none) (by kernel_rfl), rfl, fun _ => rfl, rfl, Tryz.underlying188, (fun ks h => by cases h), fun h => by cases h⟩
theorem rowOk_197 : RowOk Tryz.prog 197 R197 := ⟨Tryz.isAgg197, info_of (z := .pointer none) (by kernel_rfl), rfl, fun _ => rfl, rfl, Tryz.underlying197, (fun ks h => by cases h), fun h => by cases h⟩
theorem tabOk : TabOk Tryz.prog tab := tabOk_of tabL ⟨rowOk_3, rowOk_4, rowOk_5, rowOk_9, rowOk_22, rowOk_24, rowOk_25, rowOk_28, rowOk_30, rowOk_31, rowOk_32, rowOk_37, rowOk_40, rowOk_41, rowOk_42, rowOk_44, rowOk_45, rowOk_46, rowOk_47, rowOk_48, rowOk_49, rowOk_50, rowOk_55, rowOk_56, rowOk_61, rowOk_64, rowOk_65, rowOk_72, rowOk_73, rowOk_74, rowOk_75, rowOk_81, rowOk_83, rowOk_84, rowOk_90, rowOk_91, rowOk_92, rowOk_93, rowOk_99, rowOk_100, rowOk_115, rowOk_116, rowOk_117, rowOk_118, rowOk_119, rowOk_120, rowOk_143, rowOk_144, rowOk_146, rowOk_171, rowOk_181, rowOk_185, rowOk_188, rowOk_197, trivial⟩
end Go.Proofs.YtjkmgimedkomkaaGreat.Aw
