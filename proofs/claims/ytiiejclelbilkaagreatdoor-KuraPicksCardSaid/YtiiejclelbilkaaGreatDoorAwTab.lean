/- The types of this seat's translation, as a table, and that the loaded program has them so. Written by a program (gentab.py). -/
import Derived.Test.YtiiejclelbilkaaGreatDoorAwDraw
import Derived.Test.YtiiejclelbilkaaGreatDoorAwArr
import Derived.Test.YtiiejclelbilkaaGreatDoorProg
import Derived.KernelRfl
import Derived.Tactics
import Derived.Laws.StructEq
namespace Go.Proofs.YtiiejclelbilkaaGreatDoor.Aw
open Go Go.RowKit
set_option linter.unusedSimpArgs false
set_option linter.unusedVariables false
def R3:TRow:={ agg:=false,size:=1,bytes:=8,zero:=[.int .i64 0],d:=.int .i64,ck:=some [.i64] }
def R4:TRow:={ agg:=false,size:=1,bytes:=1,zero:=[.bool false],d:=.bool }
def R5:TRow:={ agg:=false,size:=1,bytes:=1,zero:=[.int .u8 0],d:=.int .u8,ck:=some [.u8] }
def R9:TRow:={ agg:=false,size:=1,bytes:=16,zero:=[.string ⟨#[]⟩],d:=.str }
def R22:TRow:={ agg:=false,size:=1,bytes:=24,zero:=[.slice none 0 0],d:=.slice 25 }
def R24:TRow:={ agg:=false,size:=1,bytes:=8,zero:=[.map none],d:=.map 27 26 }
def R25:TRow:={ agg:=false,size:=1,bytes:=24,zero:=[.slice none 0 0],d:=.slice 26 }
def R26:TRow:={ agg:=false,size:=1,bytes:=4,zero:=[.int .u32 0],d:=.int .u32,ck:=some [.u32] }
def R27:TRow:={ agg:=true,size:=2,bytes:=8,zero:=[.int .u32 0,.int .u32 0],d:=.arr 2 26,ck:=some [.u32,.u32] }
def R28:TRow:={ agg:=false,size:=1,bytes:=8,zero:=[.map none],d:=.map 26 30 }
def R30:TRow:={ agg:=false,size:=1,bytes:=8,zero:=[.map none],d:=.map 26 26 }
def R33:TRow:={ agg:=false,size:=1,bytes:=24,zero:=[.slice none 0 0],d:=.slice 38 }
def R34:TRow:={ agg:=true,size:=2,bytes:=48,zero:=[.slice none 0 0,.slice none 0 0],d:=.struct [(0,25),(1,33)] }
def R35:TRow:={ agg:=true,size:=2,bytes:=48,zero:=[.slice none 0 0,.slice none 0 0],d:=.struct [(0,25),(1,33)] }
def R36:TRow:={ agg:=false,size:=1,bytes:=8,zero:=[.nilFunc],d:=.func }
def R37:TRow:={ agg:=true,size:=3,bytes:=12,zero:=[.int .u32 0,.int .u32 0,.int .u32 0],d:=.struct [(0,26),(1,26),(2,26)],ck:=some [.u32,.u32,.u32] }
def R38:TRow:={ agg:=true,size:=3,bytes:=12,zero:=[.int .u32 0,.int .u32 0,.int .u32 0],d:=.struct [(0,26),(1,26),(2,26)],ck:=some [.u32,.u32,.u32] }
def R45:TRow:={ agg:=true,size:=3,bytes:=72,zero:=[.slice none 0 0,.slice none 0 0,.slice none 0 0],d:=.struct [(0,35),(2,22)] }
def R46:TRow:={ agg:=true,size:=3,bytes:=72,zero:=[.slice none 0 0,.slice none 0 0,.slice none 0 0],d:=.struct [(0,35),(2,22)] }
def R47:TRow:={ agg:=false,size:=1,bytes:=8,zero:=[.int .i64 0],d:=.int .i64,ck:=some [.i64] }
def R51:TRow:={ agg:=false,size:=1,bytes:=8,zero:=[.int .i64 0],d:=.int .i64,ck:=some [.i64] }
def R52:TRow:={ agg:=true,size:=3,bytes:=56,zero:=[.int .i64 0,.slice none 0 0,.slice none 0 0],d:=.struct [(0,51),(1,25),(2,22)] }
def R53:TRow:={ agg:=true,size:=3,bytes:=56,zero:=[.int .i64 0,.slice none 0 0,.slice none 0 0],d:=.struct [(0,51),(1,25),(2,22)] }
def R71:TRow:={ agg:=false,size:=1,bytes:=8,zero:=[.map none],d:=.map 26 25 }
def R75:TRow:={ agg:=true,size:=2,bytes:=16,zero:=[.map none,.map none],d:=.struct [(0,71),(1,30)] }
def R76:TRow:={ agg:=true,size:=2,bytes:=16,zero:=[.map none,.map none],d:=.struct [(0,71),(1,30)] }
def R79:TRow:={ agg:=false,size:=1,bytes:=8,zero:=[.map none],d:=.map 3 3 }
def R86:TRow:={ agg:=false,size:=1,bytes:=8,zero:=[.map none],d:=.map 27 33 }
def R90:TRow:={ agg:=false,size:=1,bytes:=24,zero:=[.slice none 0 0],d:=.slice 33 }
def R101:TRow:={ agg:=false,size:=1,bytes:=8,zero:=[.map none],d:=.map 26 3 }
def R105:TRow:={ agg:=false,size:=1,bytes:=8,zero:=[.int .u64 0],d:=.int .u64,ck:=some [.u64] }
def R106:TRow:={ agg:=false,size:=1,bytes:=8,zero:=[.map none],d:=.map 27 3 }
def R115:TRow:={ agg:=false,size:=1,bytes:=8,zero:=[.pointer none],d:=.ptr 119 }
def R116:TRow:={ agg:=false,size:=1,bytes:=8,zero:=[.map none],d:=.map 26 117 }
def R117:TRow:={ agg:=false,size:=1,bytes:=24,zero:=[.slice none 0 0],d:=.slice 3 }
def R118:TRow:={ agg:=true,size:=6,bytes:=96,zero:=[.slice none 0 0,.map none,.map none,.map none,.slice none 0 0,.slice none 0 0],d:=.struct [(0,33),(1,116),(2,101),(3,101),(4,117),(5,90)] }
def R119:TRow:={ agg:=true,size:=6,bytes:=96,zero:=[.slice none 0 0,.map none,.map none,.map none,.slice none 0 0,.slice none 0 0],d:=.struct [(0,33),(1,116),(2,101),(3,101),(4,117),(5,90)] }
def R124:TRow:={ agg:=false,size:=1,bytes:=8,zero:=[.pointer none],d:=.ptr 130 }
def R126:TRow:={ agg:=false,size:=1,bytes:=24,zero:=[.slice none 0 0],d:=.slice 127 }
def R127:TRow:={ agg:=false,size:=1,bytes:=8,zero:=[.int .u64 0],d:=.int .u64,ck:=some [.u64] }
def R128:TRow:={ agg:=false,size:=1,bytes:=24,zero:=[.slice none 0 0],d:=.slice 138 }
def R129:TRow:={ agg:=true,size:=7,bytes:=120,zero:=[.slice none 0 0,.slice none 0 0,.slice none 0 0,.map none,.map none,.int .u64 0,.slice none 0 0],d:=.struct [(0,35),(2,126),(3,101),(4,106),(5,127),(6,128)] }
def R130:TRow:={ agg:=true,size:=7,bytes:=120,zero:=[.slice none 0 0,.slice none 0 0,.slice none 0 0,.map none,.map none,.int .u64 0,.slice none 0 0],d:=.struct [(0,35),(2,126),(3,101),(4,106),(5,127),(6,128)] }
def R131:TRow:={ agg:=true,size:=2,bytes:=16,zero:=[.int .u64 0,.int .u64 0],d:=.struct [(0,127),(1,127)],ck:=some [.u64,.u64] }
def R132:TRow:={ agg:=true,size:=2,bytes:=16,zero:=[.int .u64 0,.int .u64 0],d:=.struct [(0,127),(1,127)],ck:=some [.u64,.u64] }
def R137:TRow:={ agg:=true,size:=2,bytes:=32,zero:=[.slice none 0 0,.int .u64 0],d:=.struct [(0,25),(1,127)] }
def R138:TRow:={ agg:=true,size:=2,bytes:=32,zero:=[.slice none 0 0,.int .u64 0],d:=.struct [(0,25),(1,127)] }
def R140:TRow:={ agg:=false,size:=1,bytes:=8,zero:=[.nilFunc],d:=.func }
def R147:TRow:={ agg:=false,size:=1,bytes:=8,zero:=[.nilFunc],d:=.func }
def R154:TRow:={ agg:=false,size:=1,bytes:=8,zero:=[.nilFunc],d:=.func }
def R158:TRow:={ agg:=false,size:=1,bytes:=24,zero:=[.slice none 0 0],d:=.slice 132 }
def R168:TRow:={ agg:=false,size:=1,bytes:=8,zero:=[.int .i64 0],d:=.int .i64,ck:=some [.i64] }
def R190:TRow:={ agg:=true,size:=64,bytes:=64,zero:=[.int .u8 0,.int .u8 0,.int .u8 0,.int .u8 0,.int .u8 0,.int .u8 0,.int .u8 0,.int .u8 0,.int .u8 0,.int .u8 0,.int .u8 0,.int .u8 0,.int .u8 0,.int .u8 0,.int .u8 0,.int .u8 0,.int .u8 0,.int .u8 0,.int .u8 0,.int .u8 0,.int .u8 0,.int .u8 0,.int .u8 0,.int .u8 0,.int .u8 0,.int .u8 0,.int .u8 0,.int .u8 0,.int .u8 0,.int .u8 0,.int .u8 0,.int .u8 0,.int .u8 0,.int .u8 0,.int .u8 0,.int .u8 0,.int .u8 0,.int .u8 0,.int .u8 0,.int .u8 0,.int .u8 0,.int .u8 0,.int .u8 0,.int .u8 0,.int .u8 0,.int .u8 0,.int .u8 0,.int .u8 0,.int .u8 0,.int .u8 0,.int .u8 0,.int .u8 0,.int .u8 0,.int .u8 0,.int .u8 0,.int .u8 0,.int .u8 0,.int .u8 0,.int .u8 0,.int .u8 0,.int .u8 0,.int .u8 0,.int .u8 0,.int .u8 0],d:=.arr 64 5 }
def R197:TRow:={ agg:=false,size:=1,bytes:=8,zero:=[.map none],d:=.map 26 4 }
def R200:TRow:={ agg:=false,size:=1,bytes:=8,zero:=[.int .u64 0],d:=.int .u64,ck:=some [.u64] }
def R204:TRow:={ agg:=false,size:=1,bytes:=8,zero:=[.pointer none],d:=.ptr 3 }
def R213:TRow:={ agg:=false,size:=1,bytes:=8,zero:=[.pointer none],d:=.ptr 200 }
def tabL:List (Nat×TRow):=[(3,R3),(4,R4),(5,R5),(9,R9),(22,R22),(24,R24),(25,R25),(26,R26),(27,R27),(28,R28),(30,R30),(33,R33),(34,R34),(35,R35),(36,R36),(37,R37),(38,R38),(45,R45),(46,R46),(47,R47),(51,R51),(52,R52),(53,R53),(71,R71),(75,R75),(76,R76),(79,R79),(86,R86),(90,R90),(101,R101),(105,R105),(106,R106),(115,R115),(116,R116),(117,R117),(118,R118),(119,R119),(124,R124),(126,R126),(127,R127),(128,R128),(129,R129),(130,R130),(131,R131),(132,R132),(137,R137),(138,R138),(140,R140),(147,R147),(154,R154),(158,R158),(168,R168),(190,R190),(197,R197),(200,R200),(204,R204),(213,R213)]
def tab:Tab:=lookT tabL
@[simp] theorem tab_3:tab 3=some { agg:=false,size:=1,bytes:=8,zero:=[.int .i64 0],d:=.int .i64,ck:=some [.i64] }:=rfl
@[simp] theorem tab_4:tab 4=some { agg:=false,size:=1,bytes:=1,zero:=[.bool false],d:=.bool }:=rfl
@[simp] theorem tab_5:tab 5=some { agg:=false,size:=1,bytes:=1,zero:=[.int .u8 0],d:=.int .u8,ck:=some [.u8] }:=rfl
@[simp] theorem tab_9:tab 9=some { agg:=false,size:=1,bytes:=16,zero:=[.string ⟨#[]⟩],d:=.str }:=rfl
@[simp] theorem tab_22:tab 22=some { agg:=false,size:=1,bytes:=24,zero:=[.slice none 0 0],d:=.slice 25 }:=rfl
@[simp] theorem tab_24:tab 24=some { agg:=false,size:=1,bytes:=8,zero:=[.map none],d:=.map 27 26 }:=rfl
@[simp] theorem tab_25:tab 25=some { agg:=false,size:=1,bytes:=24,zero:=[.slice none 0 0],d:=.slice 26 }:=rfl
@[simp] theorem tab_26:tab 26=some { agg:=false,size:=1,bytes:=4,zero:=[.int .u32 0],d:=.int .u32,ck:=some [.u32] }:=rfl
@[simp] theorem tab_27:tab 27=some { agg:=true,size:=2,bytes:=8,zero:=[.int .u32 0,.int .u32 0],d:=.arr 2 26,ck:=some [.u32,.u32] }:=rfl
@[simp] theorem tab_28:tab 28=some { agg:=false,size:=1,bytes:=8,zero:=[.map none],d:=.map 26 30 }:=rfl
@[simp] theorem tab_30:tab 30=some { agg:=false,size:=1,bytes:=8,zero:=[.map none],d:=.map 26 26 }:=rfl
@[simp] theorem tab_33:tab 33=some { agg:=false,size:=1,bytes:=24,zero:=[.slice none 0 0],d:=.slice 38 }:=rfl
@[simp] theorem tab_34:tab 34=some { agg:=true,size:=2,bytes:=48,zero:=[.slice none 0 0,.slice none 0 0],d:=.struct [(0,25),(1,33)] }:=rfl
@[simp] theorem tab_35:tab 35=some { agg:=true,size:=2,bytes:=48,zero:=[.slice none 0 0,.slice none 0 0],d:=.struct [(0,25),(1,33)] }:=rfl
@[simp] theorem tab_36:tab 36=some { agg:=false,size:=1,bytes:=8,zero:=[.nilFunc],d:=.func }:=rfl
@[simp] theorem tab_37:tab 37=some { agg:=true,size:=3,bytes:=12,zero:=[.int .u32 0,.int .u32 0,.int .u32 0],d:=.struct [(0,26),(1,26),(2,26)],ck:=some [.u32,.u32,.u32] }:=rfl
@[simp] theorem tab_38:tab 38=some { agg:=true,size:=3,bytes:=12,zero:=[.int .u32 0,.int .u32 0,.int .u32 0],d:=.struct [(0,26),(1,26),(2,26)],ck:=some [.u32,.u32,.u32] }:=rfl
@[simp] theorem tab_45:tab 45=some { agg:=true,size:=3,bytes:=72,zero:=[.slice none 0 0,.slice none 0 0,.slice none 0 0],d:=.struct [(0,35),(2,22)] }:=rfl
@[simp] theorem tab_46:tab 46=some { agg:=true,size:=3,bytes:=72,zero:=[.slice none 0 0,.slice none 0 0,.slice none 0 0],d:=.struct [(0,35),(2,22)] }:=rfl
@[simp] theorem tab_47:tab 47=some { agg:=false,size:=1,bytes:=8,zero:=[.int .i64 0],d:=.int .i64,ck:=some [.i64] }:=rfl
@[simp] theorem tab_51:tab 51=some { agg:=false,size:=1,bytes:=8,zero:=[.int .i64 0],d:=.int .i64,ck:=some [.i64] }:=rfl
@[simp] theorem tab_52:tab 52=some { agg:=true,size:=3,bytes:=56,zero:=[.int .i64 0,.slice none 0 0,.slice none 0 0],d:=.struct [(0,51),(1,25),(2,22)] }:=rfl
@[simp] theorem tab_53:tab 53=some { agg:=true,size:=3,bytes:=56,zero:=[.int .i64 0,.slice none 0 0,.slice none 0 0],d:=.struct [(0,51),(1,25),(2,22)] }:=rfl
@[simp] theorem tab_71:tab 71=some { agg:=false,size:=1,bytes:=8,zero:=[.map none],d:=.map 26 25 }:=rfl
@[simp] theorem tab_75:tab 75=some { agg:=true,size:=2,bytes:=16,zero:=[.map none,.map none],d:=.struct [(0,71),(1,30)] }:=rfl
@[simp] theorem tab_76:tab 76=some { agg:=true,size:=2,bytes:=16,zero:=[.map none,.map none],d:=.struct [(0,71),(1,30)] }:=rfl
@[simp] theorem tab_79:tab 79=some { agg:=false,size:=1,bytes:=8,zero:=[.map none],d:=.map 3 3 }:=rfl
@[simp] theorem tab_86:tab 86=some { agg:=false,size:=1,bytes:=8,zero:=[.map none],d:=.map 27 33 }:=rfl
@[simp] theorem tab_90:tab 90=some { agg:=false,size:=1,bytes:=24,zero:=[.slice none 0 0],d:=.slice 33 }:=rfl
@[simp] theorem tab_101:tab 101=some { agg:=false,size:=1,bytes:=8,zero:=[.map none],d:=.map 26 3 }:=rfl
@[simp] theorem tab_105:tab 105=some { agg:=false,size:=1,bytes:=8,zero:=[.int .u64 0],d:=.int .u64,ck:=some [.u64] }:=rfl
@[simp] theorem tab_106:tab 106=some { agg:=false,size:=1,bytes:=8,zero:=[.map none],d:=.map 27 3 }:=rfl
@[simp] theorem tab_115:tab 115=some { agg:=false,size:=1,bytes:=8,zero:=[.pointer none],d:=.ptr 119 }:=rfl
@[simp] theorem tab_116:tab 116=some { agg:=false,size:=1,bytes:=8,zero:=[.map none],d:=.map 26 117 }:=rfl
@[simp] theorem tab_117:tab 117=some { agg:=false,size:=1,bytes:=24,zero:=[.slice none 0 0],d:=.slice 3 }:=rfl
@[simp] theorem tab_118:tab 118=some { agg:=true,size:=6,bytes:=96,zero:=[.slice none 0 0,.map none,.map none,.map none,.slice none 0 0,.slice none 0 0],d:=.struct [(0,33),(1,116),(2,101),(3,101),(4,117),(5,90)] }:=rfl
@[simp] theorem tab_119:tab 119=some { agg:=true,size:=6,bytes:=96,zero:=[.slice none 0 0,.map none,.map none,.map none,.slice none 0 0,.slice none 0 0],d:=.struct [(0,33),(1,116),(2,101),(3,101),(4,117),(5,90)] }:=rfl
@[simp] theorem tab_124:tab 124=some { agg:=false,size:=1,bytes:=8,zero:=[.pointer none],d:=.ptr 130 }:=rfl
@[simp] theorem tab_126:tab 126=some { agg:=false,size:=1,bytes:=24,zero:=[.slice none 0 0],d:=.slice 127 }:=rfl
@[simp] theorem tab_127:tab 127=some { agg:=false,size:=1,bytes:=8,zero:=[.int .u64 0],d:=.int .u64,ck:=some [.u64] }:=rfl
@[simp] theorem tab_128:tab 128=some { agg:=false,size:=1,bytes:=24,zero:=[.slice none 0 0],d:=.slice 138 }:=rfl
@[simp] theorem tab_129:tab 129=some { agg:=true,size:=7,bytes:=120,zero:=[.slice none 0 0,.slice none 0 0,.slice none 0 0,.map none,.map none,.int .u64 0,.slice none 0 0],d:=.struct [(0,35),(2,126),(3,101),(4,106),(5,127),(6,128)] }:=rfl
@[simp] theorem tab_130:tab 130=some { agg:=true,size:=7,bytes:=120,zero:=[.slice none 0 0,.slice none 0 0,.slice none 0 0,.map none,.map none,.int .u64 0,.slice none 0 0],d:=.struct [(0,35),(2,126),(3,101),(4,106),(5,127),(6,128)] }:=rfl
@[simp] theorem tab_131:tab 131=some { agg:=true,size:=2,bytes:=16,zero:=[.int .u64 0,.int .u64 0],d:=.struct [(0,127),(1,127)],ck:=some [.u64,.u64] }:=rfl
@[simp] theorem tab_132:tab 132=some { agg:=true,size:=2,bytes:=16,zero:=[.int .u64 0,.int .u64 0],d:=.struct [(0,127),(1,127)],ck:=some [.u64,.u64] }:=rfl
@[simp] theorem tab_137:tab 137=some { agg:=true,size:=2,bytes:=32,zero:=[.slice none 0 0,.int .u64 0],d:=.struct [(0,25),(1,127)] }:=rfl
@[simp] theorem tab_138:tab 138=some { agg:=true,size:=2,bytes:=32,zero:=[.slice none 0 0,.int .u64 0],d:=.struct [(0,25),(1,127)] }:=rfl
@[simp] theorem tab_140:tab 140=some { agg:=false,size:=1,bytes:=8,zero:=[.nilFunc],d:=.func }:=rfl
@[simp] theorem tab_147:tab 147=some { agg:=false,size:=1,bytes:=8,zero:=[.nilFunc],d:=.func }:=rfl
@[simp] theorem tab_154:tab 154=some { agg:=false,size:=1,bytes:=8,zero:=[.nilFunc],d:=.func }:=rfl
@[simp] theorem tab_158:tab 158=some { agg:=false,size:=1,bytes:=24,zero:=[.slice none 0 0],d:=.slice 132 }:=rfl
@[simp] theorem tab_168:tab 168=some { agg:=false,size:=1,bytes:=8,zero:=[.int .i64 0],d:=.int .i64,ck:=some [.i64] }:=rfl
@[simp] theorem tab_190:tab 190=some { agg:=true,size:=64,bytes:=64,zero:=[.int .u8 0,.int .u8 0,.int .u8 0,.int .u8 0,.int .u8 0,.int .u8 0,.int .u8 0,.int .u8 0,.int .u8 0,.int .u8 0,.int .u8 0,.int .u8 0,.int .u8 0,.int .u8 0,.int .u8 0,.int .u8 0,.int .u8 0,.int .u8 0,.int .u8 0,.int .u8 0,.int .u8 0,.int .u8 0,.int .u8 0,.int .u8 0,.int .u8 0,.int .u8 0,.int .u8 0,.int .u8 0,.int .u8 0,.int .u8 0,.int .u8 0,.int .u8 0,.int .u8 0,.int .u8 0,.int .u8 0,.int .u8 0,.int .u8 0,.int .u8 0,.int .u8 0,.int .u8 0,.int .u8 0,.int .u8 0,.int .u8 0,.int .u8 0,.int .u8 0,.int .u8 0,.int .u8 0,.int .u8 0,.int .u8 0,.int .u8 0,.int .u8 0,.int .u8 0,.int .u8 0,.int .u8 0,.int .u8 0,.int .u8 0,.int .u8 0,.int .u8 0,.int .u8 0,.int .u8 0,.int .u8 0,.int .u8 0,.int .u8 0,.int .u8 0],d:=.arr 64 5 }:=rfl
@[simp] theorem tab_197:tab 197=some { agg:=false,size:=1,bytes:=8,zero:=[.map none],d:=.map 26 4 }:=rfl
@[simp] theorem tab_200:tab 200=some { agg:=false,size:=1,bytes:=8,zero:=[.int .u64 0],d:=.int .u64,ck:=some [.u64] }:=rfl
@[simp] theorem tab_204:tab 204=some { agg:=false,size:=1,bytes:=8,zero:=[.pointer none],d:=.ptr 3 }:=rfl
@[simp] theorem tab_213:tab 213=some { agg:=false,size:=1,bytes:=8,zero:=[.pointer none],d:=.ptr 200 }:=rfl
theorem info_of {P:Program} {t size bytes:Nat} {z:Value} (h:(P.info? t).map (fun i=>(i.size,i.bytes,i.zero))=some (size,bytes,some z)):∃ i,P.info? t=some i∧i.size=size∧i.bytes=bytes∧i.zero=some z:=by
 cases hi:P.info? t with
 | none=>simp [hi] at h
 | some i=>
   simp only [hi,Option.map_some,Option.some.injEq,Prod.mk.injEq] at h
   exact ⟨i,rfl,h.1,h.2.1,h.2.2⟩
theorem eqOk_27:EqOk Tryz.prog 27 true [.u32,.u32]:=eqOk_arr2 Tryz.underlying27 Tryz.underlying26 Tryz.isAgg26 Tryz.sizeOf26 (by kernel_rfl) (by kernel_rfl)
theorem eqOk_37:EqOk Tryz.prog 37 true [.u32,.u32,.u32]:=by
 have u26:=Tryz.underlying26
 have a26:=Tryz.isAgg26
 have z26:=Tryz.sizeOf26
 have hp:Tryz.prog.stoodInHeld 37=false:=by kernel_rfl
 refine ⟨fun w as1 bs1 h1 h2=>?_,fun w em as1 h1=>?_,fun _=>by kernel_rfl,(fun h=>by cases h),_,Tryz.underlying37,.inr fun as1 bs1 h1 h2=>by simp [mkV,Instr.sameNow]⟩
 ·match as1,bs1,h1,h2 with
  | [x0,x1,x2],[y0,y1,y2],_,_=>
    have hS:Tryz.prog.underlying 37=some (.struct (Tryz.prog.fieldsOf 37)):=by kernel_rfl
    simp only [mkV,mkC,if_true]
    unfold Op.equal Op.maxDepth
    rw [show (10000:Nat)=9999+1 from rfl,run_equalIn_agg w 9999 37 _ _ hS hp]
    simp only [Program.fieldsOf,Tryz.underlying37]
    go_simp
    by_cases e0:x0=y0<;>by_cases e1:x1=y1<;>by_cases e2:x2=y2<;>simp [e0,e1,e2]
 ·match as1,h1 with
  | [x0,x1,x2],_=>
    simp only [mkV,mkC,if_true]
    unfold Instr.checkKey
    simp only [Sem.run_bind,run_underlying Tryz.underlying37,Result.andThen_ok]
    go_simp
    (try simp [chk_int u26])
theorem eqOk_38:EqOk Tryz.prog 38 true [.u32,.u32,.u32]:=by
 have u26:=Tryz.underlying26
 have a26:=Tryz.isAgg26
 have z26:=Tryz.sizeOf26
 have hp:Tryz.prog.stoodInHeld 38=false:=by kernel_rfl
 refine ⟨fun w as1 bs1 h1 h2=>?_,fun w em as1 h1=>?_,fun _=>by kernel_rfl,(fun h=>by cases h),_,Tryz.underlying38,.inr fun as1 bs1 h1 h2=>by simp [mkV,Instr.sameNow]⟩
 ·match as1,bs1,h1,h2 with
  | [x0,x1,x2],[y0,y1,y2],_,_=>
    have hS:Tryz.prog.underlying 38=some (.struct (Tryz.prog.fieldsOf 38)):=by kernel_rfl
    simp only [mkV,mkC,if_true]
    unfold Op.equal Op.maxDepth
    rw [show (10000:Nat)=9999+1 from rfl,run_equalIn_agg w 9999 38 _ _ hS hp]
    simp only [Program.fieldsOf,Tryz.underlying38]
    go_simp
    by_cases e0:x0=y0<;>by_cases e1:x1=y1<;>by_cases e2:x2=y2<;>simp [e0,e1,e2]
 ·match as1,h1 with
  | [x0,x1,x2],_=>
    simp only [mkV,mkC,if_true]
    unfold Instr.checkKey
    simp only [Sem.run_bind,run_underlying Tryz.underlying38,Result.andThen_ok]
    go_simp
    (try simp [chk_int u26])
theorem eqOk_131:EqOk Tryz.prog 131 true [.u64,.u64]:=by
 have u127:=Tryz.underlying127
 have a127:=Tryz.isAgg127
 have z127:=Tryz.sizeOf127
 have hp:Tryz.prog.stoodInHeld 131=false:=by kernel_rfl
 refine ⟨fun w as1 bs1 h1 h2=>?_,fun w em as1 h1=>?_,fun _=>by kernel_rfl,(fun h=>by cases h),_,Tryz.underlying131,.inr fun as1 bs1 h1 h2=>by simp [mkV,Instr.sameNow]⟩
 ·match as1,bs1,h1,h2 with
  | [x0,x1],[y0,y1],_,_=>
    have hS:Tryz.prog.underlying 131=some (.struct (Tryz.prog.fieldsOf 131)):=by kernel_rfl
    simp only [mkV,mkC,if_true]
    unfold Op.equal Op.maxDepth
    rw [show (10000:Nat)=9999+1 from rfl,run_equalIn_agg w 9999 131 _ _ hS hp]
    simp only [Program.fieldsOf,Tryz.underlying131]
    go_simp
    by_cases e0:x0=y0<;>by_cases e1:x1=y1<;>simp [e0,e1]
 ·match as1,h1 with
  | [x0,x1],_=>
    simp only [mkV,mkC,if_true]
    unfold Instr.checkKey
    simp only [Sem.run_bind,run_underlying Tryz.underlying131,Result.andThen_ok]
    go_simp
    (try simp [chk_int u127])
theorem eqOk_132:EqOk Tryz.prog 132 true [.u64,.u64]:=by
 have u127:=Tryz.underlying127
 have a127:=Tryz.isAgg127
 have z127:=Tryz.sizeOf127
 have hp:Tryz.prog.stoodInHeld 132=false:=by kernel_rfl
 refine ⟨fun w as1 bs1 h1 h2=>?_,fun w em as1 h1=>?_,fun _=>by kernel_rfl,(fun h=>by cases h),_,Tryz.underlying132,.inr fun as1 bs1 h1 h2=>by simp [mkV,Instr.sameNow]⟩
 ·match as1,bs1,h1,h2 with
  | [x0,x1],[y0,y1],_,_=>
    have hS:Tryz.prog.underlying 132=some (.struct (Tryz.prog.fieldsOf 132)):=by kernel_rfl
    simp only [mkV,mkC,if_true]
    unfold Op.equal Op.maxDepth
    rw [show (10000:Nat)=9999+1 from rfl,run_equalIn_agg w 9999 132 _ _ hS hp]
    simp only [Program.fieldsOf,Tryz.underlying132]
    go_simp
    by_cases e0:x0=y0<;>by_cases e1:x1=y1<;>simp [e0,e1]
 ·match as1,h1 with
  | [x0,x1],_=>
    simp only [mkV,mkC,if_true]
    unfold Instr.checkKey
    simp only [Sem.run_bind,run_underlying Tryz.underlying132,Result.andThen_ok]
    go_simp
    (try simp [chk_int u127])
theorem rowOk_3:RowOk Tryz.prog 3 R3:=⟨Tryz.isAgg3,info_of (z:=.int .i64 0) (by kernel_rfl),rfl,fun _=>rfl,rfl,Tryz.underlying3,(fun ks h=>by injection h with h;subst h;exact eqOk_int Tryz.underlying3)⟩
theorem rowOk_4:RowOk Tryz.prog 4 R4:=⟨Tryz.isAgg4,info_of (z:=.bool false) (by kernel_rfl),rfl,fun _=>rfl,rfl,Tryz.underlying4,(fun ks h=>by cases h)⟩
theorem rowOk_5:RowOk Tryz.prog 5 R5:=⟨Tryz.isAgg5,info_of (z:=.int .u8 0) (by kernel_rfl),rfl,fun _=>rfl,rfl,Tryz.underlying5,(fun ks h=>by injection h with h;subst h;exact eqOk_int Tryz.underlying5)⟩
theorem rowOk_9:RowOk Tryz.prog 9 R9:=⟨Tryz.isAgg9,info_of (z:=.string ⟨#[]⟩) (by kernel_rfl),rfl,fun _=>rfl,rfl,Tryz.underlying9,(fun ks h=>by cases h)⟩
theorem rowOk_22:RowOk Tryz.prog 22 R22:=⟨Tryz.isAgg22,info_of (z:=.slice none 0 0) (by kernel_rfl),rfl,fun _=>rfl,rfl,Tryz.underlying22,(fun ks h=>by cases h)⟩
theorem rowOk_24:RowOk Tryz.prog 24 R24:=⟨Tryz.isAgg24,info_of (z:=.map none) (by kernel_rfl),rfl,fun _=>rfl,rfl,Tryz.underlying24,(fun ks h=>by cases h)⟩
theorem rowOk_25:RowOk Tryz.prog 25 R25:=⟨Tryz.isAgg25,info_of (z:=.slice none 0 0) (by kernel_rfl),rfl,fun _=>rfl,rfl,Tryz.underlying25,(fun ks h=>by cases h)⟩
theorem rowOk_26:RowOk Tryz.prog 26 R26:=⟨Tryz.isAgg26,info_of (z:=.int .u32 0) (by kernel_rfl),rfl,fun _=>rfl,rfl,Tryz.underlying26,(fun ks h=>by injection h with h;subst h;exact eqOk_int Tryz.underlying26)⟩
theorem rowOk_27:RowOk Tryz.prog 27 R27:=⟨Tryz.isAgg27,info_of (z:=.agg #[.int .u32 0,.int .u32 0]) (by kernel_rfl),rfl,(fun h=>by cases h),rfl,Tryz.underlying27,(fun ks h=>by injection h with h;subst h;exact eqOk_27)⟩
theorem rowOk_28:RowOk Tryz.prog 28 R28:=⟨Tryz.isAgg28,info_of (z:=.map none) (by kernel_rfl),rfl,fun _=>rfl,rfl,Tryz.underlying28,(fun ks h=>by cases h)⟩
theorem rowOk_30:RowOk Tryz.prog 30 R30:=⟨Tryz.isAgg30,info_of (z:=.map none) (by kernel_rfl),rfl,fun _=>rfl,rfl,Tryz.underlying30,(fun ks h=>by cases h)⟩
theorem rowOk_33:RowOk Tryz.prog 33 R33:=⟨Tryz.isAgg33,info_of (z:=.slice none 0 0) (by kernel_rfl),rfl,fun _=>rfl,rfl,Tryz.underlying33,(fun ks h=>by cases h)⟩
theorem rowOk_34:RowOk Tryz.prog 34 R34:=⟨Tryz.isAgg34,info_of (z:=.agg #[.slice none 0 0,.slice none 0 0]) (by kernel_rfl),rfl,(fun h=>by cases h),rfl,⟨_,Tryz.underlying34,rfl⟩,(fun ks h=>by cases h)⟩
theorem rowOk_35:RowOk Tryz.prog 35 R35:=⟨Tryz.isAgg35,info_of (z:=.agg #[.slice none 0 0,.slice none 0 0]) (by kernel_rfl),rfl,(fun h=>by cases h),rfl,⟨_,Tryz.underlying35,rfl⟩,(fun ks h=>by cases h)⟩
theorem rowOk_36:RowOk Tryz.prog 36 R36:=⟨Tryz.isAgg36,info_of (z:=.nilFunc) (by kernel_rfl),rfl,fun _=>rfl,rfl,⟨_,_,_,Tryz.underlying36⟩,(fun ks h=>by cases h)⟩
theorem rowOk_37:RowOk Tryz.prog 37 R37:=⟨Tryz.isAgg37,info_of (z:=.agg #[.int .u32 0,.int .u32 0,.int .u32 0]) (by kernel_rfl),rfl,(fun h=>by cases h),rfl,⟨_,Tryz.underlying37,rfl⟩,(fun ks h=>by injection h with h;subst h;exact eqOk_37)⟩
theorem rowOk_38:RowOk Tryz.prog 38 R38:=⟨Tryz.isAgg38,info_of (z:=.agg #[.int .u32 0,.int .u32 0,.int .u32 0]) (by kernel_rfl),rfl,(fun h=>by cases h),rfl,⟨_,Tryz.underlying38,rfl⟩,(fun ks h=>by injection h with h;subst h;exact eqOk_38)⟩
theorem rowOk_45:RowOk Tryz.prog 45 R45:=⟨Tryz.isAgg45,info_of (z:=.agg #[.slice none 0 0,.slice none 0 0,.slice none 0 0]) (by kernel_rfl),rfl,(fun h=>by cases h),rfl,⟨_,Tryz.underlying45,rfl⟩,(fun ks h=>by cases h)⟩
theorem rowOk_46:RowOk Tryz.prog 46 R46:=⟨Tryz.isAgg46,info_of (z:=.agg #[.slice none 0 0,.slice none 0 0,.slice none 0 0]) (by kernel_rfl),rfl,(fun h=>by cases h),rfl,⟨_,Tryz.underlying46,rfl⟩,(fun ks h=>by cases h)⟩
theorem rowOk_47:RowOk Tryz.prog 47 R47:=⟨Tryz.isAgg47,info_of (z:=.int .i64 0) (by kernel_rfl),rfl,fun _=>rfl,rfl,Tryz.underlying47,(fun ks h=>by injection h with h;subst h;exact eqOk_int Tryz.underlying47)⟩
theorem rowOk_51:RowOk Tryz.prog 51 R51:=⟨Tryz.isAgg51,info_of (z:=.int .i64 0) (by kernel_rfl),rfl,fun _=>rfl,rfl,Tryz.underlying51,(fun ks h=>by injection h with h;subst h;exact eqOk_int Tryz.underlying51)⟩
theorem rowOk_52:RowOk Tryz.prog 52 R52:=⟨Tryz.isAgg52,info_of (z:=.agg #[.int .i64 0,.slice none 0 0,.slice none 0 0]) (by kernel_rfl),rfl,(fun h=>by cases h),rfl,⟨_,Tryz.underlying52,rfl⟩,(fun ks h=>by cases h)⟩
theorem rowOk_53:RowOk Tryz.prog 53 R53:=⟨Tryz.isAgg53,info_of (z:=.agg #[.int .i64 0,.slice none 0 0,.slice none 0 0]) (by kernel_rfl),rfl,(fun h=>by cases h),rfl,⟨_,Tryz.underlying53,rfl⟩,(fun ks h=>by cases h)⟩
theorem rowOk_71:RowOk Tryz.prog 71 R71:=⟨Tryz.isAgg71,info_of (z:=.map none) (by kernel_rfl),rfl,fun _=>rfl,rfl,Tryz.underlying71,(fun ks h=>by cases h)⟩
theorem rowOk_75:RowOk Tryz.prog 75 R75:=⟨Tryz.isAgg75,info_of (z:=.agg #[.map none,.map none]) (by kernel_rfl),rfl,(fun h=>by cases h),rfl,⟨_,Tryz.underlying75,rfl⟩,(fun ks h=>by cases h)⟩
theorem rowOk_76:RowOk Tryz.prog 76 R76:=⟨Tryz.isAgg76,info_of (z:=.agg #[.map none,.map none]) (by kernel_rfl),rfl,(fun h=>by cases h),rfl,⟨_,Tryz.underlying76,rfl⟩,(fun ks h=>by cases h)⟩
theorem rowOk_79:RowOk Tryz.prog 79 R79:=⟨Tryz.isAgg79,info_of (z:=.map none) (by kernel_rfl),rfl,fun _=>rfl,rfl,Tryz.underlying79,(fun ks h=>by cases h)⟩
theorem rowOk_86:RowOk Tryz.prog 86 R86:=⟨Tryz.isAgg86,info_of (z:=.map none) (by kernel_rfl),rfl,fun _=>rfl,rfl,Tryz.underlying86,(fun ks h=>by cases h)⟩
theorem rowOk_90:RowOk Tryz.prog 90 R90:=⟨Tryz.isAgg90,info_of (z:=.slice none 0 0) (by kernel_rfl),rfl,fun _=>rfl,rfl,Tryz.underlying90,(fun ks h=>by cases h)⟩
theorem rowOk_101:RowOk Tryz.prog 101 R101:=⟨Tryz.isAgg101,info_of (z:=.map none) (by kernel_rfl),rfl,fun _=>rfl,rfl,Tryz.underlying101,(fun ks h=>by cases h)⟩
theorem rowOk_105:RowOk Tryz.prog 105 R105:=⟨Tryz.isAgg105,info_of (z:=.int .u64 0) (by kernel_rfl),rfl,fun _=>rfl,rfl,Tryz.underlying105,(fun ks h=>by injection h with h;subst h;exact eqOk_int Tryz.underlying105)⟩
theorem rowOk_106:RowOk Tryz.prog 106 R106:=⟨Tryz.isAgg106,info_of (z:=.map none) (by kernel_rfl),rfl,fun _=>rfl,rfl,Tryz.underlying106,(fun ks h=>by cases h)⟩
theorem rowOk_115:RowOk Tryz.prog 115 R115:=⟨Tryz.isAgg115,info_of (z:=.pointer none) (by kernel_rfl),rfl,fun _=>rfl,rfl,Tryz.underlying115,(fun ks h=>by cases h)⟩
theorem rowOk_116:RowOk Tryz.prog 116 R116:=⟨Tryz.isAgg116,info_of (z:=.map none) (by kernel_rfl),rfl,fun _=>rfl,rfl,Tryz.underlying116,(fun ks h=>by cases h)⟩
theorem rowOk_117:RowOk Tryz.prog 117 R117:=⟨Tryz.isAgg117,info_of (z:=.slice none 0 0) (by kernel_rfl),rfl,fun _=>rfl,rfl,Tryz.underlying117,(fun ks h=>by cases h)⟩
theorem rowOk_118:RowOk Tryz.prog 118 R118:=⟨Tryz.isAgg118,info_of (z:=.agg #[.slice none 0 0,.map none,.map none,.map none,.slice none 0 0,.slice none 0 0]) (by kernel_rfl),rfl,(fun h=>by cases h),rfl,⟨_,Tryz.underlying118,rfl⟩,(fun ks h=>by cases h)⟩
theorem rowOk_119:RowOk Tryz.prog 119 R119:=⟨Tryz.isAgg119,info_of (z:=.agg #[.slice none 0 0,.map none,.map none,.map none,.slice none 0 0,.slice none 0 0]) (by kernel_rfl),rfl,(fun h=>by cases h),rfl,⟨_,Tryz.underlying119,rfl⟩,(fun ks h=>by cases h)⟩
theorem rowOk_124:RowOk Tryz.prog 124 R124:=⟨Tryz.isAgg124,info_of (z:=.pointer none) (by kernel_rfl),rfl,fun _=>rfl,rfl,Tryz.underlying124,(fun ks h=>by cases h)⟩
theorem rowOk_126:RowOk Tryz.prog 126 R126:=⟨Tryz.isAgg126,info_of (z:=.slice none 0 0) (by kernel_rfl),rfl,fun _=>rfl,rfl,Tryz.underlying126,(fun ks h=>by cases h)⟩
theorem rowOk_127:RowOk Tryz.prog 127 R127:=⟨Tryz.isAgg127,info_of (z:=.int .u64 0) (by kernel_rfl),rfl,fun _=>rfl,rfl,Tryz.underlying127,(fun ks h=>by injection h with h;subst h;exact eqOk_int Tryz.underlying127)⟩
theorem rowOk_128:RowOk Tryz.prog 128 R128:=⟨Tryz.isAgg128,info_of (z:=.slice none 0 0) (by kernel_rfl),rfl,fun _=>rfl,rfl,Tryz.underlying128,(fun ks h=>by cases h)⟩
theorem rowOk_129:RowOk Tryz.prog 129 R129:=⟨Tryz.isAgg129,info_of (z:=.agg #[.slice none 0 0,.slice none 0 0,.slice none 0 0,.map none,.map none,.int .u64 0,.slice none 0 0]) (by kernel_rfl),rfl,(fun h=>by cases h),rfl,⟨_,Tryz.underlying129,rfl⟩,(fun ks h=>by cases h)⟩
theorem rowOk_130:RowOk Tryz.prog 130 R130:=⟨Tryz.isAgg130,info_of (z:=.agg #[.slice none 0 0,.slice none 0 0,.slice none 0 0,.map none,.map none,.int .u64 0,.slice none 0 0]) (by kernel_rfl),rfl,(fun h=>by cases h),rfl,⟨_,Tryz.underlying130,rfl⟩,(fun ks h=>by cases h)⟩
theorem rowOk_131:RowOk Tryz.prog 131 R131:=⟨Tryz.isAgg131,info_of (z:=.agg #[.int .u64 0,.int .u64 0]) (by kernel_rfl),rfl,(fun h=>by cases h),rfl,⟨_,Tryz.underlying131,rfl⟩,(fun ks h=>by injection h with h;subst h;exact eqOk_131)⟩
theorem rowOk_132:RowOk Tryz.prog 132 R132:=⟨Tryz.isAgg132,info_of (z:=.agg #[.int .u64 0,.int .u64 0]) (by kernel_rfl),rfl,(fun h=>by cases h),rfl,⟨_,Tryz.underlying132,rfl⟩,(fun ks h=>by injection h with h;subst h;exact eqOk_132)⟩
theorem rowOk_137:RowOk Tryz.prog 137 R137:=⟨Tryz.isAgg137,info_of (z:=.agg #[.slice none 0 0,.int .u64 0]) (by kernel_rfl),rfl,(fun h=>by cases h),rfl,⟨_,Tryz.underlying137,rfl⟩,(fun ks h=>by cases h)⟩
theorem rowOk_138:RowOk Tryz.prog 138 R138:=⟨Tryz.isAgg138,info_of (z:=.agg #[.slice none 0 0,.int .u64 0]) (by kernel_rfl),rfl,(fun h=>by cases h),rfl,⟨_,Tryz.underlying138,rfl⟩,(fun ks h=>by cases h)⟩
theorem rowOk_140:RowOk Tryz.prog 140 R140:=⟨Tryz.isAgg140,info_of (z:=.nilFunc) (by kernel_rfl),rfl,fun _=>rfl,rfl,⟨_,_,_,Tryz.underlying140⟩,(fun ks h=>by cases h)⟩
theorem rowOk_147:RowOk Tryz.prog 147 R147:=⟨Tryz.isAgg147,info_of (z:=.nilFunc) (by kernel_rfl),rfl,fun _=>rfl,rfl,⟨_,_,_,Tryz.underlying147⟩,(fun ks h=>by cases h)⟩
theorem rowOk_154:RowOk Tryz.prog 154 R154:=⟨Tryz.isAgg154,info_of (z:=.nilFunc) (by kernel_rfl),rfl,fun _=>rfl,rfl,⟨_,_,_,Tryz.underlying154⟩,(fun ks h=>by cases h)⟩
theorem rowOk_158:RowOk Tryz.prog 158 R158:=⟨Tryz.isAgg158,info_of (z:=.slice none 0 0) (by kernel_rfl),rfl,fun _=>rfl,rfl,Tryz.underlying158,(fun ks h=>by cases h)⟩
theorem rowOk_168:RowOk Tryz.prog 168 R168:=⟨Tryz.isAgg168,info_of (z:=.int .i64 0) (by kernel_rfl),rfl,fun _=>rfl,rfl,Tryz.underlying168,(fun ks h=>by injection h with h;subst h;exact eqOk_int Tryz.underlying168)⟩
theorem rowOk_190:RowOk Tryz.prog 190 R190:=⟨Tryz.isAgg190,info_of (z:=.agg #[.int .u8 0,.int .u8 0,.int .u8 0,.int .u8 0,.int .u8 0,.int .u8 0,.int .u8 0,.int .u8 0,.int .u8 0,.int .u8 0,.int .u8 0,.int .u8 0,.int .u8 0,.int .u8 0,.int .u8 0,.int .u8 0,.int .u8 0,.int .u8 0,.int .u8 0,.int .u8 0,.int .u8 0,.int .u8 0,.int .u8 0,.int .u8 0,.int .u8 0,.int .u8 0,.int .u8 0,.int .u8 0,.int .u8 0,.int .u8 0,.int .u8 0,.int .u8 0,.int .u8 0,.int .u8 0,.int .u8 0,.int .u8 0,.int .u8 0,.int .u8 0,.int .u8 0,.int .u8 0,.int .u8 0,.int .u8 0,.int .u8 0,.int .u8 0,.int .u8 0,.int .u8 0,.int .u8 0,.int .u8 0,.int .u8 0,.int .u8 0,.int .u8 0,.int .u8 0,.int .u8 0,.int .u8 0,.int .u8 0,.int .u8 0,.int .u8 0,.int .u8 0,.int .u8 0,.int .u8 0,.int .u8 0,.int .u8 0,.int .u8 0,.int .u8 0]) (by kernel_rfl),rfl,(fun h=>by cases h),rfl,Tryz.underlying190,(fun ks h=>by cases h)⟩
theorem rowOk_197:RowOk Tryz.prog 197 R197:=⟨Tryz.isAgg197,info_of (z:=.map none) (by kernel_rfl),rfl,fun _=>rfl,rfl,Tryz.underlying197,(fun ks h=>by cases h)⟩
theorem rowOk_200:RowOk Tryz.prog 200 R200:=⟨Tryz.isAgg200,info_of (z:=.int .u64 0) (by kernel_rfl),rfl,fun _=>rfl,rfl,Tryz.underlying200,(fun ks h=>by injection h with h;subst h;exact eqOk_int Tryz.underlying200)⟩
theorem rowOk_204:RowOk Tryz.prog 204 R204:=⟨Tryz.isAgg204,info_of (z:=.pointer none) (by kernel_rfl),rfl,fun _=>rfl,rfl,Tryz.underlying204,(fun ks h=>by cases h)⟩
theorem rowOk_213:RowOk Tryz.prog 213 R213:=⟨Tryz.isAgg213,info_of (z:=.pointer none) (by kernel_rfl),rfl,fun _=>rfl,rfl,Tryz.underlying213,(fun ks h=>by cases h)⟩
theorem tabOk:TabOk Tryz.prog tab:=tabOk_of tabL ⟨rowOk_3,rowOk_4,rowOk_5,rowOk_9,rowOk_22,rowOk_24,rowOk_25,rowOk_26,rowOk_27,rowOk_28,rowOk_30,rowOk_33,rowOk_34,rowOk_35,rowOk_36,rowOk_37,rowOk_38,rowOk_45,rowOk_46,rowOk_47,rowOk_51,rowOk_52,rowOk_53,rowOk_71,rowOk_75,rowOk_76,rowOk_79,rowOk_86,rowOk_90,rowOk_101,rowOk_105,rowOk_106,rowOk_115,rowOk_116,rowOk_117,rowOk_118,rowOk_119,rowOk_124,rowOk_126,rowOk_127,rowOk_128,rowOk_129,rowOk_130,rowOk_131,rowOk_132,rowOk_137,rowOk_138,rowOk_140,rowOk_147,rowOk_154,rowOk_158,rowOk_168,rowOk_190,rowOk_197,rowOk_200,rowOk_204,rowOk_213,trivial⟩
end Go.Proofs.YtiiejclelbilkaaGreatDoor.Aw
