/- The types of this seat's translation, as a table, and that the loaded program has them so. Written by a program (gentab.py). -/
import Derived.Test.YtempldclppogmaaGreatDoorAwDraw
import Derived.Test.YtempldclppogmaaGreatDoorAwArr
import Derived.Test.YtempldclppogmaaGreatDoorProg
import Derived.KernelRfl
import Derived.Tactics
import Derived.Laws.StructEq
set_option linter.unusedVariables false
set_option linter.unusedSimpArgs false
namespace Go.Proofs.YtempldclppogmaaGreatDoor.Aw
open Go Go.RowKit
def R3:bD:={ agg:=false,size:=1,bytes:=8,zero:=[.int .i64 0],d:=.int .i64,ck:=some [.i64] }
def R4:bD:={ agg:=false,size:=1,bytes:=1,zero:=[.bool false],d:=.bool }
def R5:bD:={ agg:=false,size:=1,bytes:=1,zero:=[.int .u8 0],d:=.int .u8,ck:=some [.u8] }
def R9:bD:={ agg:=false,size:=1,bytes:=16,zero:=[.string ⟨#[]⟩],d:=.str }
def R22:bD:={ agg:=false,size:=1,bytes:=24,zero:=[.slice none 0 0],d:=.slice 34 }
def R23:bD:={ agg:=false,size:=1,bytes:=24,zero:=[.slice none 0 0],d:=.slice 56 }
def R24:bD:={ agg:=true,size:=2,bytes:=48,zero:=[.slice none 0 0,.slice none 0 0],d:=.struct [(0,22),(1,23)] }
def R25:bD:={ agg:=true,size:=2,bytes:=48,zero:=[.slice none 0 0,.slice none 0 0],d:=.struct [(0,22),(1,23)] }
def R28:bD:={ agg:=false,size:=1,bytes:=8,zero:=[.int .i64 0],d:=.int .i64,ck:=some [.i64] }
def R29:bD:={ agg:=false,size:=1,bytes:=24,zero:=[.slice none 0 0],d:=.slice 22 }
def R30:bD:={ agg:=true,size:=3,bytes:=56,zero:=[.int .i64 0,.slice none 0 0,.slice none 0 0],d:=.struct [(0,28),(1,22),(2,29)] }
def R31:bD:={ agg:=true,size:=3,bytes:=56,zero:=[.int .i64 0,.slice none 0 0,.slice none 0 0],d:=.struct [(0,28),(1,22),(2,29)] }
def R34:bD:={ agg:=false,size:=1,bytes:=4,zero:=[.int .u32 0],d:=.int .u32,ck:=some [.u32] }
def R38:bD:={ agg:=true,size:=3,bytes:=72,zero:=[.slice none 0 0,.slice none 0 0,.slice none 0 0],d:=.struct [(0,25),(2,29)] }
def R39:bD:={ agg:=true,size:=3,bytes:=72,zero:=[.slice none 0 0,.slice none 0 0,.slice none 0 0],d:=.struct [(0,25),(2,29)] }
def R40:bD:={ agg:=false,size:=1,bytes:=8,zero:=[.int .i64 0],d:=.int .i64,ck:=some [.i64] }
def R49:bD:={ agg:=false,size:=1,bytes:=8,zero:=[.map none],d:=.map 34 3 }
def R55:bD:={ agg:=true,size:=3,bytes:=12,zero:=[.int .u32 0,.int .u32 0,.int .u32 0],d:=.struct [(0,34),(1,34),(2,34)],ck:=some [.u32,.u32,.u32] }
def R56:bD:={ agg:=true,size:=3,bytes:=12,zero:=[.int .u32 0,.int .u32 0,.int .u32 0],d:=.struct [(0,34),(1,34),(2,34)],ck:=some [.u32,.u32,.u32] }
def R59:bD:={ agg:=false,size:=1,bytes:=8,zero:=[.map none],d:=.map 34 22 }
def R60:bD:={ agg:=false,size:=1,bytes:=8,zero:=[.map none],d:=.map 34 34 }
def R61:bD:={ agg:=true,size:=2,bytes:=16,zero:=[.map none,.map none],d:=.struct [(0,59),(1,60)] }
def R62:bD:={ agg:=true,size:=2,bytes:=16,zero:=[.map none,.map none],d:=.struct [(0,59),(1,60)] }
def R65:bD:={ agg:=false,size:=1,bytes:=8,zero:=[.map none],d:=.map 3 3 }
def R72:bD:={ agg:=false,size:=1,bytes:=8,zero:=[.map none],d:=.map 73 23 }
def R73:bD:={ agg:=true,size:=2,bytes:=8,zero:=[.int .u32 0,.int .u32 0],d:=.arr 2 34,ck:=some [.u32,.u32] }
def R77:bD:={ agg:=false,size:=1,bytes:=24,zero:=[.slice none 0 0],d:=.slice 23 }
def R80:bD:={ agg:=false,size:=1,bytes:=8,zero:=[.map none],d:=.map 34 60 }
def R93:bD:={ agg:=false,size:=1,bytes:=8,zero:=[.map none],d:=.map 3 94 }
def R94:bD:={ agg:=true,size:=0,bytes:=0,zero:=[],d:=.struct [] }
def R96:bD:={ agg:=false,size:=1,bytes:=8,zero:=[.int .u64 0],d:=.int .u64,ck:=some [.u64] }
def R97:bD:={ agg:=false,size:=1,bytes:=8,zero:=[.map none],d:=.map 73 3 }
def aOz:bD:={ agg:=false,size:=1,bytes:=8,zero:=[.pointer none],d:=.ptr 108 }
def aPi:bD:={ agg:=false,size:=1,bytes:=8,zero:=[.map none],d:=.map 34 106 }
def aPp:bD:={ agg:=false,size:=1,bytes:=24,zero:=[.slice none 0 0],d:=.slice 3 }
def aOW:bD:={ agg:=true,size:=6,bytes:=96,zero:=[.slice none 0 0,.map none,.map none,.map none,.slice none 0 0,.slice none 0 0],d:=.struct [(0,23),(1,105),(2,49),(3,49),(4,106),(5,77)] }
def aPr:bD:={ agg:=true,size:=6,bytes:=96,zero:=[.slice none 0 0,.map none,.map none,.map none,.slice none 0 0,.slice none 0 0],d:=.struct [(0,23),(1,105),(2,49),(3,49),(4,106),(5,77)] }
def aOn:bD:={ agg:=false,size:=1,bytes:=8,zero:=[.pointer none],d:=.ptr 119 }
def aOM:bD:={ agg:=false,size:=1,bytes:=24,zero:=[.slice none 0 0],d:=.slice 116 }
def aOp:bD:={ agg:=false,size:=1,bytes:=8,zero:=[.int .u64 0],d:=.int .u64,ck:=some [.u64] }
def aOv:bD:={ agg:=false,size:=1,bytes:=24,zero:=[.slice none 0 0],d:=.slice 127 }
def aOo:bD:={ agg:=true,size:=7,bytes:=120,zero:=[.slice none 0 0,.slice none 0 0,.slice none 0 0,.map none,.map none,.int .u64 0,.slice none 0 0],d:=.struct [(0,25),(2,115),(3,49),(4,97),(5,116),(6,117)] }
def aOm:bD:={ agg:=true,size:=7,bytes:=120,zero:=[.slice none 0 0,.slice none 0 0,.slice none 0 0,.map none,.map none,.int .u64 0,.slice none 0 0],d:=.struct [(0,25),(2,115),(3,49),(4,97),(5,116),(6,117)] }
def aPd:bD:={ agg:=true,size:=2,bytes:=16,zero:=[.int .u64 0,.int .u64 0],d:=.struct [(0,116),(1,116)],ck:=some [.u64,.u64] }
def aPk:bD:={ agg:=true,size:=2,bytes:=16,zero:=[.int .u64 0,.int .u64 0],d:=.struct [(0,116),(1,116)],ck:=some [.u64,.u64] }
def aPj:bD:={ agg:=true,size:=2,bytes:=32,zero:=[.slice none 0 0,.int .u64 0],d:=.struct [(0,22),(1,116)] }
def aOZ:bD:={ agg:=true,size:=2,bytes:=32,zero:=[.slice none 0 0,.int .u64 0],d:=.struct [(0,22),(1,116)] }
def aOr:bD:={ agg:=false,size:=1,bytes:=8,zero:=[.nilFunc],d:=.func }
def aOL:bD:={ agg:=false,size:=1,bytes:=8,zero:=[.nilFunc],d:=.func }
def aOx:bD:={ agg:=false,size:=1,bytes:=8,zero:=[.nilFunc],d:=.func }
def aOV:bD:={ agg:=false,size:=1,bytes:=24,zero:=[.slice none 0 0],d:=.slice 121 }
def aOO:bD:={ agg:=false,size:=1,bytes:=8,zero:=[.int .i64 0],d:=.int .i64,ck:=some [.i64] }
def aOX:bD:={ agg:=true,size:=64,bytes:=64,zero:=[.int .u8 0,.int .u8 0,.int .u8 0,.int .u8 0,.int .u8 0,.int .u8 0,.int .u8 0,.int .u8 0,.int .u8 0,.int .u8 0,.int .u8 0,.int .u8 0,.int .u8 0,.int .u8 0,.int .u8 0,.int .u8 0,.int .u8 0,.int .u8 0,.int .u8 0,.int .u8 0,.int .u8 0,.int .u8 0,.int .u8 0,.int .u8 0,.int .u8 0,.int .u8 0,.int .u8 0,.int .u8 0,.int .u8 0,.int .u8 0,.int .u8 0,.int .u8 0,.int .u8 0,.int .u8 0,.int .u8 0,.int .u8 0,.int .u8 0,.int .u8 0,.int .u8 0,.int .u8 0,.int .u8 0,.int .u8 0,.int .u8 0,.int .u8 0,.int .u8 0,.int .u8 0,.int .u8 0,.int .u8 0,.int .u8 0,.int .u8 0,.int .u8 0,.int .u8 0,.int .u8 0,.int .u8 0,.int .u8 0,.int .u8 0,.int .u8 0,.int .u8 0,.int .u8 0,.int .u8 0,.int .u8 0,.int .u8 0,.int .u8 0,.int .u8 0],d:=.arr 64 5 }
def aPo:bD:={ agg:=false,size:=1,bytes:=8,zero:=[.map none],d:=.map 34 4 }
def aPs:bD:={ agg:=false,size:=1,bytes:=8,zero:=[.int .u64 0],d:=.int .u64,ck:=some [.u64] }
def aOq:bD:={ agg:=false,size:=1,bytes:=8,zero:=[.pointer none],d:=.ptr 3 }
def aOu:bD:={ agg:=false,size:=1,bytes:=8,zero:=[.pointer none],d:=.ptr 199 }
def aOl:List (Nat×bD):=[(3,R3),(4,R4),(5,R5),(9,R9),(22,R22),(23,R23),(24,R24),(25,R25),(28,R28),(29,R29),(30,R30),(31,R31),(34,R34),(38,R38),(39,R39),(40,R40),(49,R49),(55,R55),(56,R56),(59,R59),(60,R60),(61,R61),(62,R62),(65,R65),(72,R72),(73,R73),(77,R77),(80,R80),(93,R93),(94,R94),(96,R96),(97,R97),(104,aOz),(105,aPi),(106,aPp),(107,aOW),(108,aPr),(113,aOn),(115,aOM),(116,aOp),(117,aOv),(118,aOo),(119,aOm),(120,aPd),(121,aPk),(126,aPj),(127,aOZ),(129,aOr),(140,aOL),(148,aOx),(154,aOV),(165,aOO),(189,aOX),(196,aPo),(199,aPs),(203,aOq),(212,aOu)]
def tab:Tab:=aDr aOl
@[simp] theorem aQZ:tab 3=some { agg:=false,size:=1,bytes:=8,zero:=[.int .i64 0],d:=.int .i64,ck:=some [.i64] }:=rfl
@[simp] theorem aRb:tab 4=some { agg:=false,size:=1,bytes:=1,zero:=[.bool false],d:=.bool }:=rfl
@[simp] theorem aQY:tab 5=some { agg:=false,size:=1,bytes:=1,zero:=[.int .u8 0],d:=.int .u8,ck:=some [.u8] }:=rfl
@[simp] theorem aRa:tab 9=some { agg:=false,size:=1,bytes:=16,zero:=[.string ⟨#[]⟩],d:=.str }:=rfl
@[simp] theorem aQW:tab 22=some { agg:=false,size:=1,bytes:=24,zero:=[.slice none 0 0],d:=.slice 34 }:=rfl
@[simp] theorem aQj:tab 23=some { agg:=false,size:=1,bytes:=24,zero:=[.slice none 0 0],d:=.slice 56 }:=rfl
@[simp] theorem aQE:tab 24=some { agg:=true,size:=2,bytes:=48,zero:=[.slice none 0 0,.slice none 0 0],d:=.struct [(0,22),(1,23)] }:=rfl
@[simp] theorem aQM:tab 25=some { agg:=true,size:=2,bytes:=48,zero:=[.slice none 0 0,.slice none 0 0],d:=.struct [(0,22),(1,23)] }:=rfl
@[simp] theorem aQq:tab 28=some { agg:=false,size:=1,bytes:=8,zero:=[.int .i64 0],d:=.int .i64,ck:=some [.i64] }:=rfl
@[simp] theorem aQQ:tab 29=some { agg:=false,size:=1,bytes:=24,zero:=[.slice none 0 0],d:=.slice 22 }:=rfl
@[simp] theorem aQI:tab 30=some { agg:=true,size:=3,bytes:=56,zero:=[.int .i64 0,.slice none 0 0,.slice none 0 0],d:=.struct [(0,28),(1,22),(2,29)] }:=rfl
@[simp] theorem aQc:tab 31=some { agg:=true,size:=3,bytes:=56,zero:=[.int .i64 0,.slice none 0 0,.slice none 0 0],d:=.struct [(0,28),(1,22),(2,29)] }:=rfl
@[simp] theorem aQJ:tab 34=some { agg:=false,size:=1,bytes:=4,zero:=[.int .u32 0],d:=.int .u32,ck:=some [.u32] }:=rfl
@[simp] theorem aQb:tab 38=some { agg:=true,size:=3,bytes:=72,zero:=[.slice none 0 0,.slice none 0 0,.slice none 0 0],d:=.struct [(0,25),(2,29)] }:=rfl
@[simp] theorem aQL:tab 39=some { agg:=true,size:=3,bytes:=72,zero:=[.slice none 0 0,.slice none 0 0,.slice none 0 0],d:=.struct [(0,25),(2,29)] }:=rfl
@[simp] theorem aQl:tab 40=some { agg:=false,size:=1,bytes:=8,zero:=[.int .i64 0],d:=.int .i64,ck:=some [.i64] }:=rfl
@[simp] theorem aQF:tab 49=some { agg:=false,size:=1,bytes:=8,zero:=[.map none],d:=.map 34 3 }:=rfl
@[simp] theorem aQS:tab 55=some { agg:=true,size:=3,bytes:=12,zero:=[.int .u32 0,.int .u32 0,.int .u32 0],d:=.struct [(0,34),(1,34),(2,34)],ck:=some [.u32,.u32,.u32] }:=rfl
@[simp] theorem aQd:tab 56=some { agg:=true,size:=3,bytes:=12,zero:=[.int .u32 0,.int .u32 0,.int .u32 0],d:=.struct [(0,34),(1,34),(2,34)],ck:=some [.u32,.u32,.u32] }:=rfl
@[simp] theorem aQe:tab 59=some { agg:=false,size:=1,bytes:=8,zero:=[.map none],d:=.map 34 22 }:=rfl
@[simp] theorem aQo:tab 60=some { agg:=false,size:=1,bytes:=8,zero:=[.map none],d:=.map 34 34 }:=rfl
@[simp] theorem aQB:tab 61=some { agg:=true,size:=2,bytes:=16,zero:=[.map none,.map none],d:=.struct [(0,59),(1,60)] }:=rfl
@[simp] theorem aQX:tab 62=some { agg:=true,size:=2,bytes:=16,zero:=[.map none,.map none],d:=.struct [(0,59),(1,60)] }:=rfl
@[simp] theorem aQs:tab 65=some { agg:=false,size:=1,bytes:=8,zero:=[.map none],d:=.map 3 3 }:=rfl
@[simp] theorem aQO:tab 72=some { agg:=false,size:=1,bytes:=8,zero:=[.map none],d:=.map 73 23 }:=rfl
@[simp] theorem aQN:tab 73=some { agg:=true,size:=2,bytes:=8,zero:=[.int .u32 0,.int .u32 0],d:=.arr 2 34,ck:=some [.u32,.u32] }:=rfl
@[simp] theorem aQm:tab 77=some { agg:=false,size:=1,bytes:=24,zero:=[.slice none 0 0],d:=.slice 23 }:=rfl
@[simp] theorem aQn:tab 80=some { agg:=false,size:=1,bytes:=8,zero:=[.map none],d:=.map 34 60 }:=rfl
@[simp] theorem aQu:tab 93=some { agg:=false,size:=1,bytes:=8,zero:=[.map none],d:=.map 3 94 }:=rfl
@[simp] theorem aQi:tab 94=some { agg:=true,size:=0,bytes:=0,zero:=[],d:=.struct [] }:=rfl
@[simp] theorem aQk:tab 96=some { agg:=false,size:=1,bytes:=8,zero:=[.int .u64 0],d:=.int .u64,ck:=some [.u64] }:=rfl
@[simp] theorem aQP:tab 97=some { agg:=false,size:=1,bytes:=8,zero:=[.map none],d:=.map 73 3 }:=rfl
@[simp] theorem aPJ:tab 104=some { agg:=false,size:=1,bytes:=8,zero:=[.pointer none],d:=.ptr 108 }:=rfl
@[simp] theorem aPX:tab 105=some { agg:=false,size:=1,bytes:=8,zero:=[.map none],d:=.map 34 106 }:=rfl
@[simp] theorem aPG:tab 106=some { agg:=false,size:=1,bytes:=24,zero:=[.slice none 0 0],d:=.slice 3 }:=rfl
@[simp] theorem aPw:tab 107=some { agg:=true,size:=6,bytes:=96,zero:=[.slice none 0 0,.map none,.map none,.map none,.slice none 0 0,.slice none 0 0],d:=.struct [(0,23),(1,105),(2,49),(3,49),(4,106),(5,77)] }:=rfl
@[simp] theorem aPO:tab 108=some { agg:=true,size:=6,bytes:=96,zero:=[.slice none 0 0,.map none,.map none,.map none,.slice none 0 0,.slice none 0 0],d:=.struct [(0,23),(1,105),(2,49),(3,49),(4,106),(5,77)] }:=rfl
@[simp] theorem aPP:tab 113=some { agg:=false,size:=1,bytes:=8,zero:=[.pointer none],d:=.ptr 119 }:=rfl
@[simp] theorem aPK:tab 115=some { agg:=false,size:=1,bytes:=24,zero:=[.slice none 0 0],d:=.slice 116 }:=rfl
@[simp] theorem aPU:tab 116=some { agg:=false,size:=1,bytes:=8,zero:=[.int .u64 0],d:=.int .u64,ck:=some [.u64] }:=rfl
@[simp] theorem aPF:tab 117=some { agg:=false,size:=1,bytes:=24,zero:=[.slice none 0 0],d:=.slice 127 }:=rfl
@[simp] theorem aPL:tab 118=some { agg:=true,size:=7,bytes:=120,zero:=[.slice none 0 0,.slice none 0 0,.slice none 0 0,.map none,.map none,.int .u64 0,.slice none 0 0],d:=.struct [(0,25),(2,115),(3,49),(4,97),(5,116),(6,117)] }:=rfl
@[simp] theorem aPz:tab 119=some { agg:=true,size:=7,bytes:=120,zero:=[.slice none 0 0,.slice none 0 0,.slice none 0 0,.map none,.map none,.int .u64 0,.slice none 0 0],d:=.struct [(0,25),(2,115),(3,49),(4,97),(5,116),(6,117)] }:=rfl
@[simp] theorem aPQ:tab 120=some { agg:=true,size:=2,bytes:=16,zero:=[.int .u64 0,.int .u64 0],d:=.struct [(0,116),(1,116)],ck:=some [.u64,.u64] }:=rfl
@[simp] theorem aPZ:tab 121=some { agg:=true,size:=2,bytes:=16,zero:=[.int .u64 0,.int .u64 0],d:=.struct [(0,116),(1,116)],ck:=some [.u64,.u64] }:=rfl
@[simp] theorem aPI:tab 126=some { agg:=true,size:=2,bytes:=32,zero:=[.slice none 0 0,.int .u64 0],d:=.struct [(0,22),(1,116)] }:=rfl
@[simp] theorem aPA:tab 127=some { agg:=true,size:=2,bytes:=32,zero:=[.slice none 0 0,.int .u64 0],d:=.struct [(0,22),(1,116)] }:=rfl
@[simp] theorem aPH:tab 129=some { agg:=false,size:=1,bytes:=8,zero:=[.nilFunc],d:=.func }:=rfl
@[simp] theorem aPx:tab 140=some { agg:=false,size:=1,bytes:=8,zero:=[.nilFunc],d:=.func }:=rfl
@[simp] theorem aPD:tab 148=some { agg:=false,size:=1,bytes:=8,zero:=[.nilFunc],d:=.func }:=rfl
@[simp] theorem aPN:tab 154=some { agg:=false,size:=1,bytes:=24,zero:=[.slice none 0 0],d:=.slice 121 }:=rfl
@[simp] theorem aPT:tab 165=some { agg:=false,size:=1,bytes:=8,zero:=[.int .i64 0],d:=.int .i64,ck:=some [.i64] }:=rfl
@[simp] theorem aPS:tab 189=some { agg:=true,size:=64,bytes:=64,zero:=[.int .u8 0,.int .u8 0,.int .u8 0,.int .u8 0,.int .u8 0,.int .u8 0,.int .u8 0,.int .u8 0,.int .u8 0,.int .u8 0,.int .u8 0,.int .u8 0,.int .u8 0,.int .u8 0,.int .u8 0,.int .u8 0,.int .u8 0,.int .u8 0,.int .u8 0,.int .u8 0,.int .u8 0,.int .u8 0,.int .u8 0,.int .u8 0,.int .u8 0,.int .u8 0,.int .u8 0,.int .u8 0,.int .u8 0,.int .u8 0,.int .u8 0,.int .u8 0,.int .u8 0,.int .u8 0,.int .u8 0,.int .u8 0,.int .u8 0,.int .u8 0,.int .u8 0,.int .u8 0,.int .u8 0,.int .u8 0,.int .u8 0,.int .u8 0,.int .u8 0,.int .u8 0,.int .u8 0,.int .u8 0,.int .u8 0,.int .u8 0,.int .u8 0,.int .u8 0,.int .u8 0,.int .u8 0,.int .u8 0,.int .u8 0,.int .u8 0,.int .u8 0,.int .u8 0,.int .u8 0,.int .u8 0,.int .u8 0,.int .u8 0,.int .u8 0],d:=.arr 64 5 }:=rfl
@[simp] theorem aPy:tab 196=some { agg:=false,size:=1,bytes:=8,zero:=[.map none],d:=.map 34 4 }:=rfl
@[simp] theorem aQa:tab 199=some { agg:=false,size:=1,bytes:=8,zero:=[.int .u64 0],d:=.int .u64,ck:=some [.u64] }:=rfl
@[simp] theorem aPM:tab 203=some { agg:=false,size:=1,bytes:=8,zero:=[.pointer none],d:=.ptr 3 }:=rfl
@[simp] theorem aPC:tab 212=some { agg:=false,size:=1,bytes:=8,zero:=[.pointer none],d:=.ptr 199 }:=rfl
theorem aN{P:Program}{t size bytes:Nat}{z:Value}(h:(P.info? t).map (fun i=>(i.size,i.bytes,i.zero))=some (size,bytes,some z)):∃ i,P.info? t=some i∧i.size=size∧i.bytes=bytes∧i.zero=some z:=by
 cases hi:P.info? t with
 |none=>simp[hi]at h
 |some i=>
  simp only[hi,Option.map_some,Option.some.injEq,Prod.mk.injEq]at h
  exact⟨i,rfl,h.1,h.2.1,h.2.2⟩
theorem aLB:aBU Tryz.prog 55 true [.u32,.u32,.u32]:=by
 have u34:=Tryz.underlying34
 have a34:=Tryz.isAgg34
 have z34:=Tryz.sizeOf34
 have hp:Tryz.prog.stoodInHeld 55=false:=by kernel_rfl
 refine⟨fun w as1 bs1 h1 h2=>?_,fun w em as1 h1=>?_,fun _=>by kernel_rfl,(fun h=>by cases h),_,Tryz.underlying55,.inr fun as1 bs1 h1 h2=>by simp[mkV,Instr.sameNow]⟩
 ·match as1,bs1,h1,h2 with
  |[x0,x1,x2],[y0,y1,y2],_,_=>
   have hS:Tryz.prog.underlying 55=some (.struct (Tryz.prog.fieldsOf 55)):=by kernel_rfl
   simp only[mkV,mkC,if_true]
   unfold Op.equal Op.maxDepth
   rw[show(10000:Nat)=9999+1 from rfl,run_equalIn_agg w 9999 55 _ _ hS hp]
   simp only[Program.fieldsOf,Tryz.underlying55]
   go_simp
   by_cases e0:x0=y0<;>by_cases e1:x1=y1<;>by_cases e2:x2=y2<;>simp[e0,e1,e2]
 ·match as1,h1 with
  |[x0,x1,x2],_=>
   simp only[mkV,mkC,if_true]
   unfold Instr.checkKey
   simp only[Sem.run_bind,run_underlying Tryz.underlying55,Result.andThen_ok]
   go_simp
   (try simp[nT u34])
theorem aKM:aBU Tryz.prog 56 true [.u32,.u32,.u32]:=by
 have u34:=Tryz.underlying34
 have a34:=Tryz.isAgg34
 have z34:=Tryz.sizeOf34
 have hp:Tryz.prog.stoodInHeld 56=false:=by kernel_rfl
 refine⟨fun w as1 bs1 h1 h2=>?_,fun w em as1 h1=>?_,fun _=>by kernel_rfl,(fun h=>by cases h),_,Tryz.underlying56,.inr fun as1 bs1 h1 h2=>by simp[mkV,Instr.sameNow]⟩
 ·match as1,bs1,h1,h2 with
  |[x0,x1,x2],[y0,y1,y2],_,_=>
   have hS:Tryz.prog.underlying 56=some (.struct (Tryz.prog.fieldsOf 56)):=by kernel_rfl
   simp only[mkV,mkC,if_true]
   unfold Op.equal Op.maxDepth
   rw[show(10000:Nat)=9999+1 from rfl,run_equalIn_agg w 9999 56 _ _ hS hp]
   simp only[Program.fieldsOf,Tryz.underlying56]
   go_simp
   by_cases e0:x0=y0<;>by_cases e1:x1=y1<;>by_cases e2:x2=y2<;>simp[e0,e1,e2]
 ·match as1,h1 with
  |[x0,x1,x2],_=>
   simp only[mkV,mkC,if_true]
   unfold Instr.checkKey
   simp only[Sem.run_bind,run_underlying Tryz.underlying56,Result.andThen_ok]
   go_simp
   (try simp[nT u34])
theorem aLH:aBU Tryz.prog 73 true [.u32,.u32]:=aHa Tryz.underlying73 Tryz.underlying34 Tryz.isAgg34 Tryz.sizeOf34 (by kernel_rfl) (by kernel_rfl)
theorem aKo:aBU Tryz.prog 120 true [.u64,.u64]:=by
 have u116:=Tryz.underlying116
 have a116:=Tryz.isAgg116
 have z116:=Tryz.sizeOf116
 have hp:Tryz.prog.stoodInHeld 120=false:=by kernel_rfl
 refine⟨fun w as1 bs1 h1 h2=>?_,fun w em as1 h1=>?_,fun _=>by kernel_rfl,(fun h=>by cases h),_,Tryz.underlying120,.inr fun as1 bs1 h1 h2=>by simp[mkV,Instr.sameNow]⟩
 ·match as1,bs1,h1,h2 with
  |[x0,x1],[y0,y1],_,_=>
   have hS:Tryz.prog.underlying 120=some (.struct (Tryz.prog.fieldsOf 120)):=by kernel_rfl
   simp only[mkV,mkC,if_true]
   unfold Op.equal Op.maxDepth
   rw[show(10000:Nat)=9999+1 from rfl,run_equalIn_agg w 9999 120 _ _ hS hp]
   simp only[Program.fieldsOf,Tryz.underlying120]
   go_simp
   by_cases e0:x0=y0<;>by_cases e1:x1=y1<;>simp[e0,e1]
 ·match as1,h1 with
  |[x0,x1],_=>
   simp only[mkV,mkC,if_true]
   unfold Instr.checkKey
   simp only[Sem.run_bind,run_underlying Tryz.underlying120,Result.andThen_ok]
   go_simp
   (try simp[nT u116])
theorem aIH:aBU Tryz.prog 121 true [.u64,.u64]:=by
 have u116:=Tryz.underlying116
 have a116:=Tryz.isAgg116
 have z116:=Tryz.sizeOf116
 have hp:Tryz.prog.stoodInHeld 121=false:=by kernel_rfl
 refine⟨fun w as1 bs1 h1 h2=>?_,fun w em as1 h1=>?_,fun _=>by kernel_rfl,(fun h=>by cases h),_,Tryz.underlying121,.inr fun as1 bs1 h1 h2=>by simp[mkV,Instr.sameNow]⟩
 ·match as1,bs1,h1,h2 with
  |[x0,x1],[y0,y1],_,_=>
   have hS:Tryz.prog.underlying 121=some (.struct (Tryz.prog.fieldsOf 121)):=by kernel_rfl
   simp only[mkV,mkC,if_true]
   unfold Op.equal Op.maxDepth
   rw[show(10000:Nat)=9999+1 from rfl,run_equalIn_agg w 9999 121 _ _ hS hp]
   simp only[Program.fieldsOf,Tryz.underlying121]
   go_simp
   by_cases e0:x0=y0<;>by_cases e1:x1=y1<;>simp[e0,e1]
 ·match as1,h1 with
  |[x0,x1],_=>
   simp only[mkV,mkC,if_true]
   unfold Instr.checkKey
   simp only[Sem.run_bind,run_underlying Tryz.underlying121,Result.andThen_ok]
   go_simp
   (try simp[nT u116])
theorem aLc:aV Tryz.prog 3 R3:=⟨Tryz.isAgg3,aN (z:=.int .i64 0) (by kernel_rfl),rfl,fun _=>rfl,rfl,Tryz.underlying3,(fun ks h=>by injection h with h;subst h;exact eM Tryz.underlying3)⟩
theorem aLA:aV Tryz.prog 4 R4:=⟨Tryz.isAgg4,aN (z:=.bool false) (by kernel_rfl),rfl,fun _=>rfl,rfl,Tryz.underlying4,(fun ks h=>by cases h)⟩
theorem aKV:aV Tryz.prog 5 R5:=⟨Tryz.isAgg5,aN (z:=.int .u8 0) (by kernel_rfl),rfl,fun _=>rfl,rfl,Tryz.underlying5,(fun ks h=>by injection h with h;subst h;exact eM Tryz.underlying5)⟩
theorem aMj:aV Tryz.prog 9 R9:=⟨Tryz.isAgg9,aN (z:=.string ⟨#[]⟩) (by kernel_rfl),rfl,fun _=>rfl,rfl,Tryz.underlying9,(fun ks h=>by cases h)⟩
theorem aJh:aV Tryz.prog 22 R22:=⟨Tryz.isAgg22,aN (z:=.slice none 0 0) (by kernel_rfl),rfl,fun _=>rfl,rfl,Tryz.underlying22,(fun ks h=>by cases h)⟩
theorem aJG:aV Tryz.prog 23 R23:=⟨Tryz.isAgg23,aN (z:=.slice none 0 0) (by kernel_rfl),rfl,fun _=>rfl,rfl,Tryz.underlying23,(fun ks h=>by cases h)⟩
theorem aIY:aV Tryz.prog 24 R24:=⟨Tryz.isAgg24,aN (z:=.agg #[.slice none 0 0,.slice none 0 0]) (by kernel_rfl),rfl,(fun h=>by cases h),rfl,⟨_,Tryz.underlying24,rfl⟩,(fun ks h=>by cases h)⟩
theorem aKd:aV Tryz.prog 25 R25:=⟨Tryz.isAgg25,aN (z:=.agg #[.slice none 0 0,.slice none 0 0]) (by kernel_rfl),rfl,(fun h=>by cases h),rfl,⟨_,Tryz.underlying25,rfl⟩,(fun ks h=>by cases h)⟩
theorem aIS:aV Tryz.prog 28 R28:=⟨Tryz.isAgg28,aN (z:=.int .i64 0) (by kernel_rfl),rfl,fun _=>rfl,rfl,Tryz.underlying28,(fun ks h=>by injection h with h;subst h;exact eM Tryz.underlying28)⟩
theorem aIN:aV Tryz.prog 29 R29:=⟨Tryz.isAgg29,aN (z:=.slice none 0 0) (by kernel_rfl),rfl,fun _=>rfl,rfl,Tryz.underlying29,(fun ks h=>by cases h)⟩
theorem aIT:aV Tryz.prog 30 R30:=⟨Tryz.isAgg30,aN (z:=.agg #[.int .i64 0,.slice none 0 0,.slice none 0 0]) (by kernel_rfl),rfl,(fun h=>by cases h),rfl,⟨_,Tryz.underlying30,rfl⟩,(fun ks h=>by cases h)⟩
theorem aIs:aV Tryz.prog 31 R31:=⟨Tryz.isAgg31,aN (z:=.agg #[.int .i64 0,.slice none 0 0,.slice none 0 0]) (by kernel_rfl),rfl,(fun h=>by cases h),rfl,⟨_,Tryz.underlying31,rfl⟩,(fun ks h=>by cases h)⟩
theorem aJt:aV Tryz.prog 34 R34:=⟨Tryz.isAgg34,aN (z:=.int .u32 0) (by kernel_rfl),rfl,fun _=>rfl,rfl,Tryz.underlying34,(fun ks h=>by injection h with h;subst h;exact eM Tryz.underlying34)⟩
theorem aJS:aV Tryz.prog 38 R38:=⟨Tryz.isAgg38,aN (z:=.agg #[.slice none 0 0,.slice none 0 0,.slice none 0 0]) (by kernel_rfl),rfl,(fun h=>by cases h),rfl,⟨_,Tryz.underlying38,rfl⟩,(fun ks h=>by cases h)⟩
theorem aJP:aV Tryz.prog 39 R39:=⟨Tryz.isAgg39,aN (z:=.agg #[.slice none 0 0,.slice none 0 0,.slice none 0 0]) (by kernel_rfl),rfl,(fun h=>by cases h),rfl,⟨_,Tryz.underlying39,rfl⟩,(fun ks h=>by cases h)⟩
theorem aIX:aV Tryz.prog 40 R40:=⟨Tryz.isAgg40,aN (z:=.int .i64 0) (by kernel_rfl),rfl,fun _=>rfl,rfl,Tryz.underlying40,(fun ks h=>by injection h with h;subst h;exact eM Tryz.underlying40)⟩
theorem aII:aV Tryz.prog 49 R49:=⟨Tryz.isAgg49,aN (z:=.map none) (by kernel_rfl),rfl,fun _=>rfl,rfl,Tryz.underlying49,(fun ks h=>by cases h)⟩
theorem aKb:aV Tryz.prog 55 R55:=⟨Tryz.isAgg55,aN (z:=.agg #[.int .u32 0,.int .u32 0,.int .u32 0]) (by kernel_rfl),rfl,(fun h=>by cases h),rfl,⟨_,Tryz.underlying55,rfl⟩,(fun ks h=>by injection h with h;subst h;exact aLB)⟩
theorem aKu:aV Tryz.prog 56 R56:=⟨Tryz.isAgg56,aN (z:=.agg #[.int .u32 0,.int .u32 0,.int .u32 0]) (by kernel_rfl),rfl,(fun h=>by cases h),rfl,⟨_,Tryz.underlying56,rfl⟩,(fun ks h=>by injection h with h;subst h;exact aKM)⟩
theorem aIF:aV Tryz.prog 59 R59:=⟨Tryz.isAgg59,aN (z:=.map none) (by kernel_rfl),rfl,fun _=>rfl,rfl,Tryz.underlying59,(fun ks h=>by cases h)⟩
theorem aJa:aV Tryz.prog 60 R60:=⟨Tryz.isAgg60,aN (z:=.map none) (by kernel_rfl),rfl,fun _=>rfl,rfl,Tryz.underlying60,(fun ks h=>by cases h)⟩
theorem aIn:aV Tryz.prog 61 R61:=⟨Tryz.isAgg61,aN (z:=.agg #[.map none,.map none]) (by kernel_rfl),rfl,(fun h=>by cases h),rfl,⟨_,Tryz.underlying61,rfl⟩,(fun ks h=>by cases h)⟩
theorem aIe:aV Tryz.prog 62 R62:=⟨Tryz.isAgg62,aN (z:=.agg #[.map none,.map none]) (by kernel_rfl),rfl,(fun h=>by cases h),rfl,⟨_,Tryz.underlying62,rfl⟩,(fun ks h=>by cases h)⟩
theorem aIB:aV Tryz.prog 65 R65:=⟨Tryz.isAgg65,aN (z:=.map none) (by kernel_rfl),rfl,fun _=>rfl,rfl,Tryz.underlying65,(fun ks h=>by cases h)⟩
theorem aKq:aV Tryz.prog 72 R72:=⟨Tryz.isAgg72,aN (z:=.map none) (by kernel_rfl),rfl,fun _=>rfl,rfl,Tryz.underlying72,(fun ks h=>by cases h)⟩
theorem aJe:aV Tryz.prog 73 R73:=⟨Tryz.isAgg73,aN (z:=.agg #[.int .u32 0,.int .u32 0]) (by kernel_rfl),rfl,(fun h=>by cases h),rfl,Tryz.underlying73,(fun ks h=>by injection h with h;subst h;exact aLH)⟩
theorem aJp:aV Tryz.prog 77 R77:=⟨Tryz.isAgg77,aN (z:=.slice none 0 0) (by kernel_rfl),rfl,fun _=>rfl,rfl,Tryz.underlying77,(fun ks h=>by cases h)⟩
theorem aJC:aV Tryz.prog 80 R80:=⟨Tryz.isAgg80,aN (z:=.map none) (by kernel_rfl),rfl,fun _=>rfl,rfl,Tryz.underlying80,(fun ks h=>by cases h)⟩
theorem aJI:aV Tryz.prog 93 R93:=⟨Tryz.isAgg93,aN (z:=.map none) (by kernel_rfl),rfl,fun _=>rfl,rfl,Tryz.underlying93,(fun ks h=>by cases h)⟩
theorem aJl:aV Tryz.prog 94 R94:=⟨Tryz.isAgg94,aN (z:=.agg #[]) (by kernel_rfl),rfl,(fun h=>by cases h),rfl,⟨_,Tryz.underlying94,rfl⟩,(fun ks h=>by cases h)⟩
theorem aJU:aV Tryz.prog 96 R96:=⟨Tryz.isAgg96,aN (z:=.int .u64 0) (by kernel_rfl),rfl,fun _=>rfl,rfl,Tryz.underlying96,(fun ks h=>by injection h with h;subst h;exact eM Tryz.underlying96)⟩
theorem aJW:aV Tryz.prog 97 R97:=⟨Tryz.isAgg97,aN (z:=.map none) (by kernel_rfl),rfl,fun _=>rfl,rfl,Tryz.underlying97,(fun ks h=>by cases h)⟩
theorem aHH:aV Tryz.prog 104 aOz:=⟨Tryz.isAgg104,aN (z:=.pointer none) (by kernel_rfl),rfl,fun _=>rfl,rfl,Tryz.underlying104,(fun ks h=>by cases h)⟩
theorem aHQ:aV Tryz.prog 105 aPi:=⟨Tryz.isAgg105,aN (z:=.map none) (by kernel_rfl),rfl,fun _=>rfl,rfl,Tryz.underlying105,(fun ks h=>by cases h)⟩
theorem aGY:aV Tryz.prog 106 aPp:=⟨Tryz.isAgg106,aN (z:=.slice none 0 0) (by kernel_rfl),rfl,fun _=>rfl,rfl,Tryz.underlying106,(fun ks h=>by cases h)⟩
theorem aIa:aV Tryz.prog 107 aOW:=⟨Tryz.isAgg107,aN (z:=.agg #[.slice none 0 0,.map none,.map none,.map none,.slice none 0 0,.slice none 0 0]) (by kernel_rfl),rfl,(fun h=>by cases h),rfl,⟨_,Tryz.underlying107,rfl⟩,(fun ks h=>by cases h)⟩
theorem aHf:aV Tryz.prog 108 aPr:=⟨Tryz.isAgg108,aN (z:=.agg #[.slice none 0 0,.map none,.map none,.map none,.slice none 0 0,.slice none 0 0]) (by kernel_rfl),rfl,(fun h=>by cases h),rfl,⟨_,Tryz.underlying108,rfl⟩,(fun ks h=>by cases h)⟩
theorem aGy:aV Tryz.prog 113 aOn:=⟨Tryz.isAgg113,aN (z:=.pointer none) (by kernel_rfl),rfl,fun _=>rfl,rfl,Tryz.underlying113,(fun ks h=>by cases h)⟩
theorem aGF:aV Tryz.prog 115 aOM:=⟨Tryz.isAgg115,aN (z:=.slice none 0 0) (by kernel_rfl),rfl,fun _=>rfl,rfl,Tryz.underlying115,(fun ks h=>by cases h)⟩
theorem aGf:aV Tryz.prog 116 aOp:=⟨Tryz.isAgg116,aN (z:=.int .u64 0) (by kernel_rfl),rfl,fun _=>rfl,rfl,Tryz.underlying116,(fun ks h=>by injection h with h;subst h;exact eM Tryz.underlying116)⟩
theorem aHv:aV Tryz.prog 117 aOv:=⟨Tryz.isAgg117,aN (z:=.slice none 0 0) (by kernel_rfl),rfl,fun _=>rfl,rfl,Tryz.underlying117,(fun ks h=>by cases h)⟩
theorem aHl:aV Tryz.prog 118 aOo:=⟨Tryz.isAgg118,aN (z:=.agg #[.slice none 0 0,.slice none 0 0,.slice none 0 0,.map none,.map none,.int .u64 0,.slice none 0 0]) (by kernel_rfl),rfl,(fun h=>by cases h),rfl,⟨_,Tryz.underlying118,rfl⟩,(fun ks h=>by cases h)⟩
theorem aHK:aV Tryz.prog 119 aOm:=⟨Tryz.isAgg119,aN (z:=.agg #[.slice none 0 0,.slice none 0 0,.slice none 0 0,.map none,.map none,.int .u64 0,.slice none 0 0]) (by kernel_rfl),rfl,(fun h=>by cases h),rfl,⟨_,Tryz.underlying119,rfl⟩,(fun ks h=>by cases h)⟩
theorem aGD:aV Tryz.prog 120 aPd:=⟨Tryz.isAgg120,aN (z:=.agg #[.int .u64 0,.int .u64 0]) (by kernel_rfl),rfl,(fun h=>by cases h),rfl,⟨_,Tryz.underlying120,rfl⟩,(fun ks h=>by injection h with h;subst h;exact aKo)⟩
theorem aHw:aV Tryz.prog 121 aPk:=⟨Tryz.isAgg121,aN (z:=.agg #[.int .u64 0,.int .u64 0]) (by kernel_rfl),rfl,(fun h=>by cases h),rfl,⟨_,Tryz.underlying121,rfl⟩,(fun ks h=>by injection h with h;subst h;exact aIH)⟩
theorem aGx:aV Tryz.prog 126 aPj:=⟨Tryz.isAgg126,aN (z:=.agg #[.slice none 0 0,.int .u64 0]) (by kernel_rfl),rfl,(fun h=>by cases h),rfl,⟨_,Tryz.underlying126,rfl⟩,(fun ks h=>by cases h)⟩
theorem aHm:aV Tryz.prog 127 aOZ:=⟨Tryz.isAgg127,aN (z:=.agg #[.slice none 0 0,.int .u64 0]) (by kernel_rfl),rfl,(fun h=>by cases h),rfl,⟨_,Tryz.underlying127,rfl⟩,(fun ks h=>by cases h)⟩
theorem aHh:aV Tryz.prog 129 aOr:=⟨Tryz.isAgg129,aN (z:=.nilFunc) (by kernel_rfl),rfl,fun _=>rfl,rfl,⟨_,_,_,Tryz.underlying129⟩,(fun ks h=>by cases h)⟩
theorem aHR:aV Tryz.prog 140 aOL:=⟨Tryz.isAgg140,aN (z:=.nilFunc) (by kernel_rfl),rfl,fun _=>rfl,rfl,⟨_,_,_,Tryz.underlying140⟩,(fun ks h=>by cases h)⟩
theorem aGL:aV Tryz.prog 148 aOx:=⟨Tryz.isAgg148,aN (z:=.nilFunc) (by kernel_rfl),rfl,fun _=>rfl,rfl,⟨_,_,_,Tryz.underlying148⟩,(fun ks h=>by cases h)⟩
theorem aHI:aV Tryz.prog 154 aOV:=⟨Tryz.isAgg154,aN (z:=.slice none 0 0) (by kernel_rfl),rfl,fun _=>rfl,rfl,Tryz.underlying154,(fun ks h=>by cases h)⟩
theorem aHd:aV Tryz.prog 165 aOO:=⟨Tryz.isAgg165,aN (z:=.int .i64 0) (by kernel_rfl),rfl,fun _=>rfl,rfl,Tryz.underlying165,(fun ks h=>by injection h with h;subst h;exact eM Tryz.underlying165)⟩
theorem aHP:aV Tryz.prog 189 aOX:=⟨Tryz.isAgg189,aN (z:=.agg #[.int .u8 0,.int .u8 0,.int .u8 0,.int .u8 0,.int .u8 0,.int .u8 0,.int .u8 0,.int .u8 0,.int .u8 0,.int .u8 0,.int .u8 0,.int .u8 0,.int .u8 0,.int .u8 0,.int .u8 0,.int .u8 0,.int .u8 0,.int .u8 0,.int .u8 0,.int .u8 0,.int .u8 0,.int .u8 0,.int .u8 0,.int .u8 0,.int .u8 0,.int .u8 0,.int .u8 0,.int .u8 0,.int .u8 0,.int .u8 0,.int .u8 0,.int .u8 0,.int .u8 0,.int .u8 0,.int .u8 0,.int .u8 0,.int .u8 0,.int .u8 0,.int .u8 0,.int .u8 0,.int .u8 0,.int .u8 0,.int .u8 0,.int .u8 0,.int .u8 0,.int .u8 0,.int .u8 0,.int .u8 0,.int .u8 0,.int .u8 0,.int .u8 0,.int .u8 0,.int .u8 0,.int .u8 0,.int .u8 0,.int .u8 0,.int .u8 0,.int .u8 0,.int .u8 0,.int .u8 0,.int .u8 0,.int .u8 0,.int .u8 0,.int .u8 0]) (by kernel_rfl),rfl,(fun h=>by cases h),rfl,Tryz.underlying189,(fun ks h=>by cases h)⟩
theorem aHO:aV Tryz.prog 196 aPo:=⟨Tryz.isAgg196,aN (z:=.map none) (by kernel_rfl),rfl,fun _=>rfl,rfl,Tryz.underlying196,(fun ks h=>by cases h)⟩
theorem aGJ:aV Tryz.prog 199 aPs:=⟨Tryz.isAgg199,aN (z:=.int .u64 0) (by kernel_rfl),rfl,fun _=>rfl,rfl,Tryz.underlying199,(fun ks h=>by injection h with h;subst h;exact eM Tryz.underlying199)⟩
theorem aGQ:aV Tryz.prog 203 aOq:=⟨Tryz.isAgg203,aN (z:=.pointer none) (by kernel_rfl),rfl,fun _=>rfl,rfl,Tryz.underlying203,(fun ks h=>by cases h)⟩
theorem aHX:aV Tryz.prog 212 aOu:=⟨Tryz.isAgg212,aN (z:=.pointer none) (by kernel_rfl),rfl,fun _=>rfl,rfl,Tryz.underlying212,(fun ks h=>by cases h)⟩
theorem aK:aZ Tryz.prog tab:=aCS aOl ⟨aLc,aLA,aKV,aMj,aJh,aJG,aIY,aKd,aIS,aIN,aIT,aIs,aJt,aJS,aJP,aIX,aII,aKb,aKu,aIF,aJa,aIn,aIe,aIB,aKq,aJe,aJp,aJC,aJI,aJl,aJU,aJW,aHH,aHQ,aGY,aIa,aHf,aGy,aGF,aGf,aHv,aHl,aHK,aGD,aHw,aGx,aHm,aHh,aHR,aGL,aHI,aHd,aHP,aHO,aGJ,aGQ,aHX,trivial⟩
end Go.Proofs.YtempldclppogmaaGreatDoor.Aw
