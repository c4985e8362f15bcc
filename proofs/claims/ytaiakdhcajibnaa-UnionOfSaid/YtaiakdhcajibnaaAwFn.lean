/- The functions of this seat's translation, as a table. Written by a program (genfn.py). -/
import Derived.Test.YtaiakdhcajibnaaAwX
import Derived.Test.YtaiakdhcajibnaaAwTab
namespace Go.Proofs.Ytaiakdhcajibnaa.Aw
open Go Go.RowKit
set_option maxRecDepth 10000
noncomputable def fnl : List (Nat × Func) := [(3, Try.f3), (4, Try.f4), (5, Try.f5), (6, Try.f6), (7, Try.f7), (8, Try.f8), (9, Try.f9), (10, Try.f10), (11, Try.f11), (12, Try.f12), (13, Try.f13), (14, Try.f14), (15, Try.f15), (16, Try.f16), (17, Try.f17), (18, Try.f18), (19, Try.f19), (20, Try.f20), (21, Try.f21), (22, Try.f22), (23, Try.f23), (24, Try.f24), (25, Try.f25), (26, Try.f26), (27, Try.f27), (28, Try.f28), (29, Try.f29), (30, Try.f30), (31, Try.f31), (32, Try.f32), (33, Try.f33), (34, Try.f34), (35, Try.f35), (36, Try.f36), (37, Try.f37), (38, Try.f38), (39, Try.f39), (40, Try.f40), (41, Try.f41), (42, Try.f42), (43, Try.f43), (44, Try.f44), (45, Try.f45), (46, Try.f46), (47, Try.f47), (48, Try.f48), (49, Try.f49), (50, Try.f50), (51, Try.f51), (52, Try.f52), (53, Try.f53), (54, Try.f54), (55, Try.f55), (56, Try.f56), (57, Try.f57), (58, Try.f58), (59, Try.f59), (60, Try.f60), (61, Try.f61), (62, Try.f62), (63, Try.f63), (64, Try.f64), (65, Try.f65), (66, Try.f66), (67, Try.f67), (68, Try.f68), (69, Try.f69), (70, Try.f70), (71, Try.f71), (72, Try.f72), (73, Try.f73), (74, Try.f74), (75, Try.f75), (76, Try.f76), (77, Try.f77), (78, Try.f78), (79, Try.f79), (80, Try.f80), (81, Try.f81), (82, Try.f82), (83, Try.f83), (84, Try.f84), (85, Try.f85), (86, Try.f86), (87, Try.f87), (88, Try.f88), (89, Try.f89), (90, Try.f90), (91, Try.f91), (92, Try.f92)]
noncomputable def fns : FuncId → Option Func := lookF fnl
theorem fnOk_3 : Try.prog.funcs[3]? = some Try.f3 ∧ (Try.f3.name == "runtime.NumGoroutine") = false := ⟨Try.func3, rfl⟩
theorem fnOk_4 : Try.prog.funcs[4]? = some Try.f4 ∧ (Try.f4.name == "runtime.NumGoroutine") = false := ⟨Try.func4, rfl⟩
theorem fnOk_5 : Try.prog.funcs[5]? = some Try.f5 ∧ (Try.f5.name == "runtime.NumGoroutine") = false := ⟨Try.func5, rfl⟩
theorem fnOk_6 : Try.prog.funcs[6]? = some Try.f6 ∧ (Try.f6.name == "runtime.NumGoroutine") = false := ⟨Try.func6, rfl⟩
theorem fnOk_7 : Try.prog.funcs[7]? = some Try.f7 ∧ (Try.f7.name == "runtime.NumGoroutine") = false := ⟨Try.func7, rfl⟩
theorem fnOk_8 : Try.prog.funcs[8]? = some Try.f8 ∧ (Try.f8.name == "runtime.NumGoroutine") = false := ⟨Try.func8, rfl⟩
theorem fnOk_9 : Try.prog.funcs[9]? = some Try.f9 ∧ (Try.f9.name == "runtime.NumGoroutine") = false := ⟨Try.func9, rfl⟩
theorem fnOk_10 : Try.prog.funcs[10]? = some Try.f10 ∧ (Try.f10.name == "runtime.NumGoroutine") = false := ⟨Try.func10, rfl⟩
theorem fnOk_11 : Try.prog.funcs[11]? = some Try.f11 ∧ (Try.f11.name == "runtime.NumGoroutine") = false := ⟨Try.func11, rfl⟩
theorem fnOk_12 : Try.prog.funcs[12]? = some Try.f12 ∧ (Try.f12.name == "runtime.NumGoroutine") = false := ⟨Try.func12, rfl⟩
theorem fnOk_13 : Try.prog.funcs[13]? = some Try.f13 ∧ (Try.f13.name == "runtime.NumGoroutine") = false := ⟨Try.func13, rfl⟩
theorem fnOk_14 : Try.prog.funcs[14]? = some Try.f14 ∧ (Try.f14.name == "runtime.NumGoroutine") = false := ⟨Try.func14, rfl⟩
theorem fnOk_15 : Try.prog.funcs[15]? = some Try.f15 ∧ (Try.f15.name == "runtime.NumGoroutine") = false := ⟨Try.func15, rfl⟩
theorem fnOk_16 : Try.prog.funcs[16]? = some Try.f16 ∧ (Try.f16.name == "runtime.NumGoroutine") = false := ⟨Try.func16, rfl⟩
theorem fnOk_17 : Try.prog.funcs[17]? = some Try.f17 ∧ (Try.f17.name == "runtime.NumGoroutine") = false := ⟨Try.func17, rfl⟩
theorem fnOk_18 : Try.prog.funcs[18]? = some Try.f18 ∧ (Try.f18.name == "runtime.NumGoroutine") = false := ⟨Try.func18, rfl⟩
theorem fnOk_19 : Try.prog.funcs[19]? = some Try.f19 ∧ (Try.f19.name == "runtime.NumGoroutine") = false := ⟨Try.func19, rfl⟩
theorem fnOk_20 : Try.prog.funcs[20]? = some Try.f20 ∧ (Try.f20.name == "runtime.NumGoroutine") = false := ⟨Try.func20, rfl⟩
theorem fnOk_21 : Try.prog.funcs[21]? = some Try.f21 ∧ (Try.f21.name == "runtime.NumGoroutine") = false := ⟨Try.func21, rfl⟩
theorem fnOk_22 : Try.prog.funcs[22]? = some Try.f22 ∧ (Try.f22.name == "runtime.NumGoroutine") = false := ⟨Try.func22, rfl⟩
theorem fnOk_23 : Try.prog.funcs[23]? = some Try.f23 ∧ (Try.f23.name == "runtime.NumGoroutine") = false := ⟨Try.func23, rfl⟩
theorem fnOk_24 : Try.prog.funcs[24]? = some Try.f24 ∧ (Try.f24.name == "runtime.NumGoroutine") = false := ⟨Try.func24, rfl⟩
theorem fnOk_25 : Try.prog.funcs[25]? = some Try.f25 ∧ (Try.f25.name == "runtime.NumGoroutine") = false := ⟨Try.func25, rfl⟩
theorem fnOk_26 : Try.prog.funcs[26]? = some Try.f26 ∧ (Try.f26.name == "runtime.NumGoroutine") = false := ⟨Try.func26, rfl⟩
theorem fnOk_27 : Try.prog.funcs[27]? = some Try.f27 ∧ (Try.f27.name == "runtime.NumGoroutine") = false := ⟨Try.func27, rfl⟩
theorem fnOk_28 : Try.prog.funcs[28]? = some Try.f28 ∧ (Try.f28.name == "runtime.NumGoroutine") = false := ⟨Try.func28, rfl⟩
theorem fnOk_29 : Try.prog.funcs[29]? = some Try.f29 ∧ (Try.f29.name == "runtime.NumGoroutine") = false := ⟨Try.func29, rfl⟩
theorem fnOk_30 : Try.prog.funcs[30]? = some Try.f30 ∧ (Try.f30.name == "runtime.NumGoroutine") = false := ⟨Try.func30, rfl⟩
theorem fnOk_31 : Try.prog.funcs[31]? = some Try.f31 ∧ (Try.f31.name == "runtime.NumGoroutine") = false := ⟨Try.func31, rfl⟩
theorem fnOk_32 : Try.prog.funcs[32]? = some Try.f32 ∧ (Try.f32.name == "runtime.NumGoroutine") = false := ⟨Try.func32, rfl⟩
theorem fnOk_33 : Try.prog.funcs[33]? = some Try.f33 ∧ (Try.f33.name == "runtime.NumGoroutine") = false := ⟨Try.func33, rfl⟩
theorem fnOk_34 : Try.prog.funcs[34]? = some Try.f34 ∧ (Try.f34.name == "runtime.NumGoroutine") = false := ⟨Try.func34, rfl⟩
theorem fnOk_35 : Try.prog.funcs[35]? = some Try.f35 ∧ (Try.f35.name == "runtime.NumGoroutine") = false := ⟨Try.func35, rfl⟩
theorem fnOk_36 : Try.prog.funcs[36]? = some Try.f36 ∧ (Try.f36.name == "runtime.NumGoroutine") = false := ⟨Try.func36, rfl⟩
theorem fnOk_37 : Try.prog.funcs[37]? = some Try.f37 ∧ (Try.f37.name == "runtime.NumGoroutine") = false := ⟨Try.func37, rfl⟩
theorem fnOk_38 : Try.prog.funcs[38]? = some Try.f38 ∧ (Try.f38.name == "runtime.NumGoroutine") = false := ⟨Try.func38, rfl⟩
theorem fnOk_39 : Try.prog.funcs[39]? = some Try.f39 ∧ (Try.f39.name == "runtime.NumGoroutine") = false := ⟨Try.func39, rfl⟩
theorem fnOk_40 : Try.prog.funcs[40]? = some Try.f40 ∧ (Try.f40.name == "runtime.NumGoroutine") = false := ⟨Try.func40, rfl⟩
theorem fnOk_41 : Try.prog.funcs[41]? = some Try.f41 ∧ (Try.f41.name == "runtime.NumGoroutine") = false := ⟨Try.func41, rfl⟩
theorem fnOk_42 : Try.prog.funcs[42]? = some Try.f42 ∧ (Try.f42.name == "runtime.NumGoroutine") = false := ⟨Try.func42, rfl⟩
theorem fnOk_43 : Try.prog.funcs[43]? = some Try.f43 ∧ (Try.f43.name == "runtime.NumGoroutine") = false := ⟨Try.func43, rfl⟩
theorem fnOk_44 : Try.prog.funcs[44]? = some Try.f44 ∧ (Try.f44.name == "runtime.NumGoroutine") = false := ⟨Try.func44, rfl⟩
theorem fnOk_45 : Try.prog.funcs[45]? = some Try.f45 ∧ (Try.f45.name == "runtime.NumGoroutine") = false := ⟨Try.func45, rfl⟩
theorem fnOk_46 : Try.prog.funcs[46]? = some Try.f46 ∧ (Try.f46.name == "runtime.NumGoroutine") = false := ⟨Try.func46, rfl⟩
theorem fnOk_47 : Try.prog.funcs[47]? = some Try.f47 ∧ (Try.f47.name == "runtime.NumGoroutine") = false := ⟨Try.func47, rfl⟩
theorem fnOk_48 : Try.prog.funcs[48]? = some Try.f48 ∧ (Try.f48.name == "runtime.NumGoroutine") = false := ⟨Try.func48, rfl⟩
theorem fnOk_49 : Try.prog.funcs[49]? = some Try.f49 ∧ (Try.f49.name == "runtime.NumGoroutine") = false := ⟨Try.func49, rfl⟩
theorem fnOk_50 : Try.prog.funcs[50]? = some Try.f50 ∧ (Try.f50.name == "runtime.NumGoroutine") = false := ⟨Try.func50, rfl⟩
theorem fnOk_51 : Try.prog.funcs[51]? = some Try.f51 ∧ (Try.f51.name == "runtime.NumGoroutine") = false := ⟨Try.func51, rfl⟩
theorem fnOk_52 : Try.prog.funcs[52]? = some Try.f52 ∧ (Try.f52.name == "runtime.NumGoroutine") = false := ⟨Try.func52, rfl⟩
theorem fnOk_53 : Try.prog.funcs[53]? = some Try.f53 ∧ (Try.f53.name == "runtime.NumGoroutine") = false := ⟨Try.func53, rfl⟩
theorem fnOk_54 : Try.prog.funcs[54]? = some Try.f54 ∧ (Try.f54.name == "runtime.NumGoroutine") = false := ⟨Try.func54, rfl⟩
theorem fnOk_55 : Try.prog.funcs[55]? = some Try.f55 ∧ (Try.f55.name == "runtime.NumGoroutine") = false := ⟨Try.func55, rfl⟩
theorem fnOk_56 : Try.prog.funcs[56]? = some Try.f56 ∧ (Try.f56.name == "runtime.NumGoroutine") = false := ⟨Try.func56, rfl⟩
theorem fnOk_57 : Try.prog.funcs[57]? = some Try.f57 ∧ (Try.f57.name == "runtime.NumGoroutine") = false := ⟨Try.func57, rfl⟩
theorem fnOk_58 : Try.prog.funcs[58]? = some Try.f58 ∧ (Try.f58.name == "runtime.NumGoroutine") = false := ⟨Try.func58, rfl⟩
theorem fnOk_59 : Try.prog.funcs[59]? = some Try.f59 ∧ (Try.f59.name == "runtime.NumGoroutine") = false := ⟨Try.func59, rfl⟩
theorem fnOk_60 : Try.prog.funcs[60]? = some Try.f60 ∧ (Try.f60.name == "runtime.NumGoroutine") = false := ⟨Try.func60, rfl⟩
theorem fnOk_61 : Try.prog.funcs[61]? = some Try.f61 ∧ (Try.f61.name == "runtime.NumGoroutine") = false := ⟨Try.func61, rfl⟩
theorem fnOk_62 : Try.prog.funcs[62]? = some Try.f62 ∧ (Try.f62.name == "runtime.NumGoroutine") = false := ⟨Try.func62, rfl⟩
theorem fnOk_63 : Try.prog.funcs[63]? = some Try.f63 ∧ (Try.f63.name == "runtime.NumGoroutine") = false := ⟨Try.func63, rfl⟩
theorem fnOk_64 : Try.prog.funcs[64]? = some Try.f64 ∧ (Try.f64.name == "runtime.NumGoroutine") = false := ⟨Try.func64, rfl⟩
theorem fnOk_65 : Try.prog.funcs[65]? = some Try.f65 ∧ (Try.f65.name == "runtime.NumGoroutine") = false := ⟨Try.func65, rfl⟩
theorem fnOk_66 : Try.prog.funcs[66]? = some Try.f66 ∧ (Try.f66.name == "runtime.NumGoroutine") = false := ⟨Try.func66, rfl⟩
theorem fnOk_67 : Try.prog.funcs[67]? = some Try.f67 ∧ (Try.f67.name == "runtime.NumGoroutine") = false := ⟨Try.func67, rfl⟩
theorem fnOk_68 : Try.prog.funcs[68]? = some Try.f68 ∧ (Try.f68.name == "runtime.NumGoroutine") = false := ⟨Try.func68, rfl⟩
theorem fnOk_69 : Try.prog.funcs[69]? = some Try.f69 ∧ (Try.f69.name == "runtime.NumGoroutine") = false := ⟨Try.func69, rfl⟩
theorem fnOk_70 : Try.prog.funcs[70]? = some Try.f70 ∧ (Try.f70.name == "runtime.NumGoroutine") = false := ⟨Try.func70, rfl⟩
theorem fnOk_71 : Try.prog.funcs[71]? = some Try.f71 ∧ (Try.f71.name == "runtime.NumGoroutine") = false := ⟨Try.func71, rfl⟩
theorem fnOk_72 : Try.prog.funcs[72]? = some Try.f72 ∧ (Try.f72.name == "runtime.NumGoroutine") = false := ⟨Try.func72, rfl⟩
theorem fnOk_73 : Try.prog.funcs[73]? = some Try.f73 ∧ (Try.f73.name == "runtime.NumGoroutine") = false := ⟨Try.func73, rfl⟩
theorem fnOk_74 : Try.prog.funcs[74]? = some Try.f74 ∧ (Try.f74.name == "runtime.NumGoroutine") = false := ⟨Try.func74, rfl⟩
theorem fnOk_75 : Try.prog.funcs[75]? = some Try.f75 ∧ (Try.f75.name == "runtime.NumGoroutine") = false := ⟨Try.func75, rfl⟩
theorem fnOk_76 : Try.prog.funcs[76]? = some Try.f76 ∧ (Try.f76.name == "runtime.NumGoroutine") = false := ⟨Try.func76, rfl⟩
theorem fnOk_77 : Try.prog.funcs[77]? = some Try.f77 ∧ (Try.f77.name == "runtime.NumGoroutine") = false := ⟨Try.func77, rfl⟩
theorem fnOk_78 : Try.prog.funcs[78]? = some Try.f78 ∧ (Try.f78.name == "runtime.NumGoroutine") = false := ⟨Try.func78, rfl⟩
theorem fnOk_79 : Try.prog.funcs[79]? = some Try.f79 ∧ (Try.f79.name == "runtime.NumGoroutine") = false := ⟨Try.func79, rfl⟩
theorem fnOk_80 : Try.prog.funcs[80]? = some Try.f80 ∧ (Try.f80.name == "runtime.NumGoroutine") = false := ⟨Try.func80, rfl⟩
theorem fnOk_81 : Try.prog.funcs[81]? = some Try.f81 ∧ (Try.f81.name == "runtime.NumGoroutine") = false := ⟨Try.func81, rfl⟩
theorem fnOk_82 : Try.prog.funcs[82]? = some Try.f82 ∧ (Try.f82.name == "runtime.NumGoroutine") = false := ⟨Try.func82, rfl⟩
theorem fnOk_83 : Try.prog.funcs[83]? = some Try.f83 ∧ (Try.f83.name == "runtime.NumGoroutine") = false := ⟨Try.func83, rfl⟩
theorem fnOk_84 : Try.prog.funcs[84]? = some Try.f84 ∧ (Try.f84.name == "runtime.NumGoroutine") = false := ⟨Try.func84, rfl⟩
theorem fnOk_85 : Try.prog.funcs[85]? = some Try.f85 ∧ (Try.f85.name == "runtime.NumGoroutine") = false := ⟨Try.func85, rfl⟩
theorem fnOk_86 : Try.prog.funcs[86]? = some Try.f86 ∧ (Try.f86.name == "runtime.NumGoroutine") = false := ⟨Try.func86, rfl⟩
theorem fnOk_87 : Try.prog.funcs[87]? = some Try.f87 ∧ (Try.f87.name == "runtime.NumGoroutine") = false := ⟨Try.func87, rfl⟩
theorem fnOk_88 : Try.prog.funcs[88]? = some Try.f88 ∧ (Try.f88.name == "runtime.NumGoroutine") = false := ⟨Try.func88, rfl⟩
theorem fnOk_89 : Try.prog.funcs[89]? = some Try.f89 ∧ (Try.f89.name == "runtime.NumGoroutine") = false := ⟨Try.func89, rfl⟩
theorem fnOk_90 : Try.prog.funcs[90]? = some Try.f90 ∧ (Try.f90.name == "runtime.NumGoroutine") = false := ⟨Try.func90, rfl⟩
theorem fnOk_91 : Try.prog.funcs[91]? = some Try.f91 ∧ (Try.f91.name == "runtime.NumGoroutine") = false := ⟨Try.func91, rfl⟩
theorem fnOk_92 : Try.prog.funcs[92]? = some Try.f92 ∧ (Try.f92.name == "runtime.NumGoroutine") = false := ⟨Try.func92, rfl⟩
theorem fnsOk : FnsOk Try.prog fns := fnsOk_of fnl ⟨fnOk_3, fnOk_4, fnOk_5, fnOk_6, fnOk_7, fnOk_8, fnOk_9, fnOk_10, fnOk_11, fnOk_12, fnOk_13, fnOk_14, fnOk_15, fnOk_16, fnOk_17, fnOk_18, fnOk_19, fnOk_20, fnOk_21, fnOk_22, fnOk_23, fnOk_24, fnOk_25, fnOk_26, fnOk_27, fnOk_28, fnOk_29, fnOk_30, fnOk_31, fnOk_32, fnOk_33, fnOk_34, fnOk_35, fnOk_36, fnOk_37, fnOk_38, fnOk_39, fnOk_40, fnOk_41, fnOk_42, fnOk_43, fnOk_44, fnOk_45, fnOk_46, fnOk_47, fnOk_48, fnOk_49, fnOk_50, fnOk_51, fnOk_52, fnOk_53, fnOk_54, fnOk_55, fnOk_56, fnOk_57, fnOk_58, fnOk_59, fnOk_60, fnOk_61, fnOk_62, fnOk_63, fnOk_64, fnOk_65, fnOk_66, fnOk_67, fnOk_68, fnOk_69, fnOk_70, fnOk_71, fnOk_72, fnOk_73, fnOk_74, fnOk_75, fnOk_76, fnOk_77, fnOk_78, fnOk_79, fnOk_80, fnOk_81, fnOk_82, fnOk_83, fnOk_84, fnOk_85, fnOk_86, fnOk_87, fnOk_88, fnOk_89, fnOk_90, fnOk_91, fnOk_92, trivial⟩
theorem mixed : Try.prog.follows .mixedOrders = true := by kernel_rfl
end Go.Proofs.Ytaiakdhcajibnaa.Aw
