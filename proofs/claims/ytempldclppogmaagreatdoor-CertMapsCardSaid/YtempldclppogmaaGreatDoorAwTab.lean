/- The types of this seat's translation, as a table, and that the loaded program has them so. Written by a program (gentab.py). -/
import Derived.Test.YtempldclppogmaaGreatDoorAwDraw
import Derived.Test.YtempldclppogmaaGreatDoorAwArr
import Derived.Test.YtempldclppogmaaGreatDoorProg
import Derived.KernelRfl
import Derived.Tactics
import Derived.Laws.StructEq
set_option linter.unusedVariables false
set_option linter.unusedSimpArgs false
namespace Go.Proofs.YtempldclppogmaaGreatDoor.Aw
open Go Go.RowKit
def R3:bG:={ agg:=false,size:=1,bytes:=8,zero:=[.int .i64 0],d:=.int .i64,ck:=some [.i64] }
def R4:bG:={ agg:=false,size:=1,bytes:=1,zero:=[.bool false],d:=.bool }
def R5:bG:={ agg:=false,size:=1,bytes:=1,zero:=[.int .u8 0],d:=.int .u8,ck:=some [.u8] }
def R9:bG:={ agg:=false,size:=1,bytes:=16,zero:=[.string ⟨#[]⟩],d:=.str }
def R22:bG:={ agg:=false,size:=1,bytes:=24,zero:=[.slice none 0 0],d:=.slice 34 }
def R23:bG:={ agg:=false,size:=1,bytes:=24,zero:=[.slice none 0 0],d:=.slice 56 }
def R24:bG:={ agg:=true,size:=2,bytes:=48,zero:=[.slice none 0 0,.slice none 0 0],d:=.struct [(0,22),(1,23)] }
def R25:bG:={ agg:=true,size:=2,bytes:=48,zero:=[.slice none 0 0,.slice none 0 0],d:=.struct [(0,22),(1,23)] }
def R28:bG:={ agg:=false,size:=1,bytes:=8,zero:=[.int .i64 0],d:=.int .i64,ck:=some [.i64] }
def R29:bG:={ agg:=false,size:=1,bytes:=24,zero:=[.slice none 0 0],d:=.slice 22 }
def R30:bG:={ agg:=true,size:=3,bytes:=56,zero:=[.int .i64 0,.slice none 0 0,.slice none 0 0],d:=.struct [(0,28),(1,22),(2,29)] }
def R31:bG:={ agg:=true,size:=3,bytes:=56,zero:=[.int .i64 0,.slice none 0 0,.slice none 0 0],d:=.struct [(0,28),(1,22),(2,29)] }
def R34:bG:={ agg:=false,size:=1,bytes:=4,zero:=[.int .u32 0],d:=.int .u32,ck:=some [.u32] }
def R38:bG:={ agg:=true,size:=3,bytes:=72,zero:=[.slice none 0 0,.slice none 0 0,.slice none 0 0],d:=.struct [(0,25),(2,29)] }
def R39:bG:={ agg:=true,size:=3,bytes:=72,zero:=[.slice none 0 0,.slice none 0 0,.slice none 0 0],d:=.struct [(0,25),(2,29)] }
def R40:bG:={ agg:=false,size:=1,bytes:=8,zero:=[.int .i64 0],d:=.int .i64,ck:=some [.i64] }
def R49:bG:={ agg:=false,size:=1,bytes:=8,zero:=[.map none],d:=.map 34 3 }
def R55:bG:={ agg:=true,size:=3,bytes:=12,zero:=[.int .u32 0,.int .u32 0,.int .u32 0],d:=.struct [(0,34),(1,34),(2,34)],ck:=some [.u32,.u32,.u32] }
def R56:bG:={ agg:=true,size:=3,bytes:=12,zero:=[.int .u32 0,.int .u32 0,.int .u32 0],d:=.struct [(0,34),(1,34),(2,34)],ck:=some [.u32,.u32,.u32] }
def R59:bG:={ agg:=false,size:=1,bytes:=8,zero:=[.map none],d:=.map 34 22 }
def R60:bG:={ agg:=false,size:=1,bytes:=8,zero:=[.map none],d:=.map 34 34 }
def R61:bG:={ agg:=true,size:=2,bytes:=16,zero:=[.map none,.map none],d:=.struct [(0,59),(1,60)] }
def R62:bG:={ agg:=true,size:=2,bytes:=16,zero:=[.map none,.map none],d:=.struct [(0,59),(1,60)] }
def R65:bG:={ agg:=false,size:=1,bytes:=8,zero:=[.map none],d:=.map 3 3 }
def R72:bG:={ agg:=false,size:=1,bytes:=8,zero:=[.map none],d:=.map 73 23 }
def R73:bG:={ agg:=true,size:=2,bytes:=8,zero:=[.int .u32 0,.int .u32 0],d:=.arr 2 34,ck:=some [.u32,.u32] }
def R77:bG:={ agg:=false,size:=1,bytes:=24,zero:=[.slice none 0 0],d:=.slice 23 }
def R80:bG:={ agg:=false,size:=1,bytes:=8,zero:=[.map none],d:=.map 34 60 }
def R93:bG:={ agg:=false,size:=1,bytes:=8,zero:=[.map none],d:=.map 3 94 }
def R94:bG:={ agg:=true,size:=0,bytes:=0,zero:=[],d:=.struct [] }
def R96:bG:={ agg:=false,size:=1,bytes:=8,zero:=[.int .u64 0],d:=.int .u64,ck:=some [.u64] }
def R97:bG:={ agg:=false,size:=1,bytes:=8,zero:=[.map none],d:=.map 73 3 }
def aQi:bG:={ agg:=false,size:=1,bytes:=8,zero:=[.pointer none],d:=.ptr 108 }
def aQg:bG:={ agg:=false,size:=1,bytes:=8,zero:=[.map none],d:=.map 34 106 }
def aPx:bG:={ agg:=false,size:=1,bytes:=24,zero:=[.slice none 0 0],d:=.slice 3 }
def aQa:bG:={ agg:=true,size:=6,bytes:=96,zero:=[.slice none 0 0,.map none,.map none,.map none,.slice none 0 0,.slice none 0 0],d:=.struct [(0,23),(1,105),(2,49),(3,49),(4,106),(5,77)] }
def aPK:bG:={ agg:=true,size:=6,bytes:=96,zero:=[.slice none 0 0,.map none,.map none,.map none,.slice none 0 0,.slice none 0 0],d:=.struct [(0,23),(1,105),(2,49),(3,49),(4,106),(5,77)] }
def aPw:bG:={ agg:=false,size:=1,bytes:=8,zero:=[.pointer none],d:=.ptr 119 }
def aPr:bG:={ agg:=false,size:=1,bytes:=24,zero:=[.slice none 0 0],d:=.slice 116 }
def aQt:bG:={ agg:=false,size:=1,bytes:=8,zero:=[.int .u64 0],d:=.int .u64,ck:=some [.u64] }
def aPt:bG:={ agg:=false,size:=1,bytes:=24,zero:=[.slice none 0 0],d:=.slice 127 }
def aPI:bG:={ agg:=true,size:=7,bytes:=120,zero:=[.slice none 0 0,.slice none 0 0,.slice none 0 0,.map none,.map none,.int .u64 0,.slice none 0 0],d:=.struct [(0,25),(2,115),(3,49),(4,97),(5,116),(6,117)] }
def aPF:bG:={ agg:=true,size:=7,bytes:=120,zero:=[.slice none 0 0,.slice none 0 0,.slice none 0 0,.map none,.map none,.int .u64 0,.slice none 0 0],d:=.struct [(0,25),(2,115),(3,49),(4,97),(5,116),(6,117)] }
def aQu:bG:={ agg:=true,size:=2,bytes:=16,zero:=[.int .u64 0,.int .u64 0],d:=.struct [(0,116),(1,116)],ck:=some [.u64,.u64] }
def aPl:bG:={ agg:=true,size:=2,bytes:=16,zero:=[.int .u64 0,.int .u64 0],d:=.struct [(0,116),(1,116)],ck:=some [.u64,.u64] }
def aQv:bG:={ agg:=true,size:=2,bytes:=32,zero:=[.slice none 0 0,.int .u64 0],d:=.struct [(0,22),(1,116)] }
def aQq:bG:={ agg:=true,size:=2,bytes:=32,zero:=[.slice none 0 0,.int .u64 0],d:=.struct [(0,22),(1,116)] }
def aQo:bG:={ agg:=false,size:=1,bytes:=8,zero:=[.nilFunc],d:=.func }
def aPu:bG:={ agg:=false,size:=1,bytes:=8,zero:=[.nilFunc],d:=.func }
def aQz:bG:={ agg:=false,size:=1,bytes:=8,zero:=[.nilFunc],d:=.func }
def aQl:bG:={ agg:=false,size:=1,bytes:=24,zero:=[.slice none 0 0],d:=.slice 121 }
def aPS:bG:={ agg:=false,size:=1,bytes:=8,zero:=[.int .i64 0],d:=.int .i64,ck:=some [.i64] }
def aPn:bG:={ agg:=true,size:=64,bytes:=64,zero:=(List.replicate 64 (.int .u8 0)),d:=.arr 64 5 }
def aPp:bG:={ agg:=false,size:=1,bytes:=8,zero:=[.map none],d:=.map 34 4 }
def aQx:bG:={ agg:=false,size:=1,bytes:=8,zero:=[.int .u64 0],d:=.int .u64,ck:=some [.u64] }
def aPU:bG:={ agg:=false,size:=1,bytes:=8,zero:=[.pointer none],d:=.ptr 3 }
def aPq:bG:={ agg:=false,size:=1,bytes:=8,zero:=[.pointer none],d:=.ptr 199 }
def aPB:List (Nat×bG):=[(3,R3),(4,R4),(5,R5),(9,R9),(22,R22),(23,R23),(24,R24),(25,R25),(28,R28),(29,R29),(30,R30),(31,R31),(34,R34),(38,R38),(39,R39),(40,R40),(49,R49),(55,R55),(56,R56),(59,R59),(60,R60),(61,R61),(62,R62),(65,R65),(72,R72),(73,R73),(77,R77),(80,R80),(93,R93),(94,R94),(96,R96),(97,R97),(104,aQi),(105,aQg),(106,aPx),(107,aQa),(108,aPK),(113,aPw),(115,aPr),(116,aQt),(117,aPt),(118,aPI),(119,aPF),(120,aQu),(121,aPl),(126,aQv),(127,aQq),(129,aQo),(140,aPu),(148,aQz),(154,aQl),(165,aPS),(189,aPn),(196,aPp),(199,aQx),(203,aPU),(212,aPq)]
def tab:Tab:=aCi aPB
@[simp] theorem aSg:tab 3=some { agg:=false,size:=1,bytes:=8,zero:=[.int .i64 0],d:=.int .i64,ck:=some [.i64] }:=rfl
@[simp] theorem aSd:tab 4=some { agg:=false,size:=1,bytes:=1,zero:=[.bool false],d:=.bool }:=rfl
@[simp] theorem aSf:tab 5=some { agg:=false,size:=1,bytes:=1,zero:=[.int .u8 0],d:=.int .u8,ck:=some [.u8] }:=rfl
@[simp] theorem aSe:tab 9=some { agg:=false,size:=1,bytes:=16,zero:=[.string ⟨#[]⟩],d:=.str }:=rfl
@[simp] theorem aRj:tab 22=some { agg:=false,size:=1,bytes:=24,zero:=[.slice none 0 0],d:=.slice 34 }:=rfl
@[simp] theorem aRv:tab 23=some { agg:=false,size:=1,bytes:=24,zero:=[.slice none 0 0],d:=.slice 56 }:=rfl
@[simp] theorem aRl:tab 24=some { agg:=true,size:=2,bytes:=48,zero:=[.slice none 0 0,.slice none 0 0],d:=.struct [(0,22),(1,23)] }:=rfl
@[simp] theorem aSb:tab 25=some { agg:=true,size:=2,bytes:=48,zero:=[.slice none 0 0,.slice none 0 0],d:=.struct [(0,22),(1,23)] }:=rfl
@[simp] theorem aRo:tab 28=some { agg:=false,size:=1,bytes:=8,zero:=[.int .i64 0],d:=.int .i64,ck:=some [.i64] }:=rfl
@[simp] theorem aRN:tab 29=some { agg:=false,size:=1,bytes:=24,zero:=[.slice none 0 0],d:=.slice 22 }:=rfl
@[simp] theorem aRy:tab 30=some { agg:=true,size:=3,bytes:=56,zero:=[.int .i64 0,.slice none 0 0,.slice none 0 0],d:=.struct [(0,28),(1,22),(2,29)] }:=rfl
@[simp] theorem aRe:tab 31=some { agg:=true,size:=3,bytes:=56,zero:=[.int .i64 0,.slice none 0 0,.slice none 0 0],d:=.struct [(0,28),(1,22),(2,29)] }:=rfl
@[simp] theorem aRV:tab 34=some { agg:=false,size:=1,bytes:=4,zero:=[.int .u32 0],d:=.int .u32,ck:=some [.u32] }:=rfl
@[simp] theorem aRI:tab 38=some { agg:=true,size:=3,bytes:=72,zero:=[.slice none 0 0,.slice none 0 0,.slice none 0 0],d:=.struct [(0,25),(2,29)] }:=rfl
@[simp] theorem aRF:tab 39=some { agg:=true,size:=3,bytes:=72,zero:=[.slice none 0 0,.slice none 0 0,.slice none 0 0],d:=.struct [(0,25),(2,29)] }:=rfl
@[simp] theorem aRS:tab 40=some { agg:=false,size:=1,bytes:=8,zero:=[.int .i64 0],d:=.int .i64,ck:=some [.i64] }:=rfl
@[simp] theorem aRH:tab 49=some { agg:=false,size:=1,bytes:=8,zero:=[.map none],d:=.map 34 3 }:=rfl
@[simp] theorem aRU:tab 55=some { agg:=true,size:=3,bytes:=12,zero:=[.int .u32 0,.int .u32 0,.int .u32 0],d:=.struct [(0,34),(1,34),(2,34)],ck:=some [.u32,.u32,.u32] }:=rfl
@[simp] theorem aRg:tab 56=some { agg:=true,size:=3,bytes:=12,zero:=[.int .u32 0,.int .u32 0,.int .u32 0],d:=.struct [(0,34),(1,34),(2,34)],ck:=some [.u32,.u32,.u32] }:=rfl
@[simp] theorem aRJ:tab 59=some { agg:=false,size:=1,bytes:=8,zero:=[.map none],d:=.map 34 22 }:=rfl
@[simp] theorem aRk:tab 60=some { agg:=false,size:=1,bytes:=8,zero:=[.map none],d:=.map 34 34 }:=rfl
@[simp] theorem aRM:tab 61=some { agg:=true,size:=2,bytes:=16,zero:=[.map none,.map none],d:=.struct [(0,59),(1,60)] }:=rfl
@[simp] theorem aRw:tab 62=some { agg:=true,size:=2,bytes:=16,zero:=[.map none,.map none],d:=.struct [(0,59),(1,60)] }:=rfl
@[simp] theorem aRR:tab 65=some { agg:=false,size:=1,bytes:=8,zero:=[.map none],d:=.map 3 3 }:=rfl
@[simp] theorem aRQ:tab 72=some { agg:=false,size:=1,bytes:=8,zero:=[.map none],d:=.map 73 23 }:=rfl
@[simp] theorem aRf:tab 73=some { agg:=true,size:=2,bytes:=8,zero:=[.int .u32 0,.int .u32 0],d:=.arr 2 34,ck:=some [.u32,.u32] }:=rfl
@[simp] theorem aRA:tab 77=some { agg:=false,size:=1,bytes:=24,zero:=[.slice none 0 0],d:=.slice 23 }:=rfl
@[simp] theorem aRs:tab 80=some { agg:=false,size:=1,bytes:=8,zero:=[.map none],d:=.map 34 60 }:=rfl
@[simp] theorem aRE:tab 93=some { agg:=false,size:=1,bytes:=8,zero:=[.map none],d:=.map 3 94 }:=rfl
@[simp] theorem aSc:tab 94=some { agg:=true,size:=0,bytes:=0,zero:=[],d:=.struct [] }:=rfl
@[simp] theorem aRz:tab 96=some { agg:=false,size:=1,bytes:=8,zero:=[.int .u64 0],d:=.int .u64,ck:=some [.u64] }:=rfl
@[simp] theorem aRh:tab 97=some { agg:=false,size:=1,bytes:=8,zero:=[.map none],d:=.map 73 3 }:=rfl
@[simp] theorem aQM:tab 104=some { agg:=false,size:=1,bytes:=8,zero:=[.pointer none],d:=.ptr 108 }:=rfl
@[simp] theorem aQL:tab 105=some { agg:=false,size:=1,bytes:=8,zero:=[.map none],d:=.map 34 106 }:=rfl
@[simp] theorem aQS:tab 106=some { agg:=false,size:=1,bytes:=24,zero:=[.slice none 0 0],d:=.slice 3 }:=rfl
@[simp] theorem aQO:tab 107=some { agg:=true,size:=6,bytes:=96,zero:=[.slice none 0 0,.map none,.map none,.map none,.slice none 0 0,.slice none 0 0],d:=.struct [(0,23),(1,105),(2,49),(3,49),(4,106),(5,77)] }:=rfl
@[simp] theorem aQN:tab 108=some { agg:=true,size:=6,bytes:=96,zero:=[.slice none 0 0,.map none,.map none,.map none,.slice none 0 0,.slice none 0 0],d:=.struct [(0,23),(1,105),(2,49),(3,49),(4,106),(5,77)] }:=rfl
@[simp] theorem aQY:tab 113=some { agg:=false,size:=1,bytes:=8,zero:=[.pointer none],d:=.ptr 119 }:=rfl
@[simp] theorem aQG:tab 115=some { agg:=false,size:=1,bytes:=24,zero:=[.slice none 0 0],d:=.slice 116 }:=rfl
@[simp] theorem aRa:tab 116=some { agg:=false,size:=1,bytes:=8,zero:=[.int .u64 0],d:=.int .u64,ck:=some [.u64] }:=rfl
@[simp] theorem aQJ:tab 117=some { agg:=false,size:=1,bytes:=24,zero:=[.slice none 0 0],d:=.slice 127 }:=rfl
@[simp] theorem aQH:tab 118=some { agg:=true,size:=7,bytes:=120,zero:=[.slice none 0 0,.slice none 0 0,.slice none 0 0,.map none,.map none,.int .u64 0,.slice none 0 0],d:=.struct [(0,25),(2,115),(3,49),(4,97),(5,116),(6,117)] }:=rfl
@[simp] theorem aQP:tab 119=some { agg:=true,size:=7,bytes:=120,zero:=[.slice none 0 0,.slice none 0 0,.slice none 0 0,.map none,.map none,.int .u64 0,.slice none 0 0],d:=.struct [(0,25),(2,115),(3,49),(4,97),(5,116),(6,117)] }:=rfl
@[simp] theorem aQE:tab 120=some { agg:=true,size:=2,bytes:=16,zero:=[.int .u64 0,.int .u64 0],d:=.struct [(0,116),(1,116)],ck:=some [.u64,.u64] }:=rfl
@[simp] theorem aQU:tab 121=some { agg:=true,size:=2,bytes:=16,zero:=[.int .u64 0,.int .u64 0],d:=.struct [(0,116),(1,116)],ck:=some [.u64,.u64] }:=rfl
@[simp] theorem aQX:tab 126=some { agg:=true,size:=2,bytes:=32,zero:=[.slice none 0 0,.int .u64 0],d:=.struct [(0,22),(1,116)] }:=rfl
@[simp] theorem aRc:tab 127=some { agg:=true,size:=2,bytes:=32,zero:=[.slice none 0 0,.int .u64 0],d:=.struct [(0,22),(1,116)] }:=rfl
@[simp] theorem aQI:tab 129=some { agg:=false,size:=1,bytes:=8,zero:=[.nilFunc],d:=.func }:=rfl
@[simp] theorem aQD:tab 140=some { agg:=false,size:=1,bytes:=8,zero:=[.nilFunc],d:=.func }:=rfl
@[simp] theorem aQR:tab 148=some { agg:=false,size:=1,bytes:=8,zero:=[.nilFunc],d:=.func }:=rfl
@[simp] theorem aQW:tab 154=some { agg:=false,size:=1,bytes:=24,zero:=[.slice none 0 0],d:=.slice 121 }:=rfl
@[simp] theorem aQK:tab 165=some { agg:=false,size:=1,bytes:=8,zero:=[.int .i64 0],d:=.int .i64,ck:=some [.i64] }:=rfl
@[simp] theorem aQT:tab 189=some { agg:=true,size:=64,bytes:=64,zero:=(List.replicate 64 (.int .u8 0)),d:=.arr 64 5 }:=rfl
@[simp] theorem aQV:tab 196=some { agg:=false,size:=1,bytes:=8,zero:=[.map none],d:=.map 34 4 }:=rfl
@[simp] theorem aQZ:tab 199=some { agg:=false,size:=1,bytes:=8,zero:=[.int .u64 0],d:=.int .u64,ck:=some [.u64] }:=rfl
@[simp] theorem aQC:tab 203=some { agg:=false,size:=1,bytes:=8,zero:=[.pointer none],d:=.ptr 3 }:=rfl
@[simp] theorem aQF:tab 212=some { agg:=false,size:=1,bytes:=8,zero:=[.pointer none],d:=.ptr 199 }:=rfl
theorem aL{P:Program}{t size bytes:Nat}{z:Value}(h:(P.info? t).map (fun i=>(i.size,i.bytes,i.zero))=some (size,bytes,some z)):∃ i,P.info? t=some i∧i.size=size∧i.bytes=bytes∧i.zero=some z:=by
 cases hi:P.info? t with
 |none=>simp[hi]at h
 |some i=>
  simp only[hi,Option.map_some,Option.some.injEq,Prod.mk.injEq]at h
  exact⟨i,rfl,h.1,h.2.1,h.2.2⟩
theorem aLN:aBD Tryz.prog 55 true [.u32,.u32,.u32]:=by
 have u34:=Tryz.underlying34
 have a34:=Tryz.isAgg34
 have z34:=Tryz.sizeOf34
 have hp:Tryz.prog.stoodInHeld 55=false:=by kernel_rfl
 refine⟨fun w as1 bs1 h1 h2=>?_,fun w em as1 h1=>?_,fun _=>by kernel_rfl,(fun h=>by cases h),_,Tryz.underlying55,.inr fun as1 bs1 h1 h2=>by simp[mkV,Instr.sameNow]⟩
 ·match as1,bs1,h1,h2 with
  |[x0,x1,x2],[y0,y1,y2],_,_=>
   have hS:Tryz.prog.underlying 55=some (.struct (Tryz.prog.fieldsOf 55)):=by kernel_rfl
   simp only[mkV,mkC,if_true]
   unfold Op.equal Op.maxDepth
   rw[show(10000:Nat)=9999+1 from rfl,run_equalIn_agg w 9999 55 _ _ hS hp]
   simp only[Program.fieldsOf,Tryz.underlying55]
   go_simp
   by_cases e0:x0=y0<;>by_cases e1:x1=y1<;>by_cases e2:x2=y2<;>simp[e0,e1,e2]
 ·match as1,h1 with
  |[x0,x1,x2],_=>
   simp only[mkV,mkC,if_true]
   unfold Instr.checkKey
   simp only[Sem.run_bind,run_underlying Tryz.underlying55,Result.andThen_ok]
   go_simp
   (try simp[nK u34])
theorem aLC:aBD Tryz.prog 56 true [.u32,.u32,.u32]:=by
 have u34:=Tryz.underlying34
 have a34:=Tryz.isAgg34
 have z34:=Tryz.sizeOf34
 have hp:Tryz.prog.stoodInHeld 56=false:=by kernel_rfl
 refine⟨fun w as1 bs1 h1 h2=>?_,fun w em as1 h1=>?_,fun _=>by kernel_rfl,(fun h=>by cases h),_,Tryz.underlying56,.inr fun as1 bs1 h1 h2=>by simp[mkV,Instr.sameNow]⟩
 ·match as1,bs1,h1,h2 with
  |[x0,x1,x2],[y0,y1,y2],_,_=>
   have hS:Tryz.prog.underlying 56=some (.struct (Tryz.prog.fieldsOf 56)):=by kernel_rfl
   simp only[mkV,mkC,if_true]
   unfold Op.equal Op.maxDepth
   rw[show(10000:Nat)=9999+1 from rfl,run_equalIn_agg w 9999 56 _ _ hS hp]
   simp only[Program.fieldsOf,Tryz.underlying56]
   go_simp
   by_cases e0:x0=y0<;>by_cases e1:x1=y1<;>by_cases e2:x2=y2<;>simp[e0,e1,e2]
 ·match as1,h1 with
  |[x0,x1,x2],_=>
   simp only[mkV,mkC,if_true]
   unfold Instr.checkKey
   simp only[Sem.run_bind,run_underlying Tryz.underlying56,Result.andThen_ok]
   go_simp
   (try simp[nK u34])
theorem aMh:aBD Tryz.prog 73 true [.u32,.u32]:=aHc Tryz.underlying73 Tryz.underlying34 Tryz.isAgg34 Tryz.sizeOf34 (by kernel_rfl) (by kernel_rfl)
theorem aIC:aBD Tryz.prog 120 true [.u64,.u64]:=by
 have u116:=Tryz.underlying116
 have a116:=Tryz.isAgg116
 have z116:=Tryz.sizeOf116
 have hp:Tryz.prog.stoodInHeld 120=false:=by kernel_rfl
 refine⟨fun w as1 bs1 h1 h2=>?_,fun w em as1 h1=>?_,fun _=>by kernel_rfl,(fun h=>by cases h),_,Tryz.underlying120,.inr fun as1 bs1 h1 h2=>by simp[mkV,Instr.sameNow]⟩
 ·match as1,bs1,h1,h2 with
  |[x0,x1],[y0,y1],_,_=>
   have hS:Tryz.prog.underlying 120=some (.struct (Tryz.prog.fieldsOf 120)):=by kernel_rfl
   simp only[mkV,mkC,if_true]
   unfold Op.equal Op.maxDepth
   rw[show(10000:Nat)=9999+1 from rfl,run_equalIn_agg w 9999 120 _ _ hS hp]
   simp only[Program.fieldsOf,Tryz.underlying120]
   go_simp
   by_cases e0:x0=y0<;>by_cases e1:x1=y1<;>simp[e0,e1]
 ·match as1,h1 with
  |[x0,x1],_=>
   simp only[mkV,mkC,if_true]
   unfold Instr.checkKey
   simp only[Sem.run_bind,run_underlying Tryz.underlying120,Result.andThen_ok]
   go_simp
   (try simp[nK u116])
theorem aKG:aBD Tryz.prog 121 true [.u64,.u64]:=by
 have u116:=Tryz.underlying116
 have a116:=Tryz.isAgg116
 have z116:=Tryz.sizeOf116
 have hp:Tryz.prog.stoodInHeld 121=false:=by kernel_rfl
 refine⟨fun w as1 bs1 h1 h2=>?_,fun w em as1 h1=>?_,fun _=>by kernel_rfl,(fun h=>by cases h),_,Tryz.underlying121,.inr fun as1 bs1 h1 h2=>by simp[mkV,Instr.sameNow]⟩
 ·match as1,bs1,h1,h2 with
  |[x0,x1],[y0,y1],_,_=>
   have hS:Tryz.prog.underlying 121=some (.struct (Tryz.prog.fieldsOf 121)):=by kernel_rfl
   simp only[mkV,mkC,if_true]
   unfold Op.equal Op.maxDepth
   rw[show(10000:Nat)=9999+1 from rfl,run_equalIn_agg w 9999 121 _ _ hS hp]
   simp only[Program.fieldsOf,Tryz.underlying121]
   go_simp
   by_cases e0:x0=y0<;>by_cases e1:x1=y1<;>simp[e0,e1]
 ·match as1,h1 with
  |[x0,x1],_=>
   simp only[mkV,mkC,if_true]
   unfold Instr.checkKey
   simp only[Sem.run_bind,run_underlying Tryz.underlying121,Result.andThen_ok]
   go_simp
   (try simp[nK u116])
theorem aLm:aX Tryz.prog 3 R3:=⟨Tryz.isAgg3,aL (z:=.int .i64 0) (by kernel_rfl),rfl,fun _=>rfl,rfl,Tryz.underlying3,(fun ks h=>by injection h with h;subst h;exact fL Tryz.underlying3)⟩
theorem aMN:aX Tryz.prog 4 R4:=⟨Tryz.isAgg4,aL (z:=.bool false) (by kernel_rfl),rfl,fun _=>rfl,rfl,Tryz.underlying4,(fun ks h=>by cases h)⟩
theorem aNf:aX Tryz.prog 5 R5:=⟨Tryz.isAgg5,aL (z:=.int .u8 0) (by kernel_rfl),rfl,fun _=>rfl,rfl,Tryz.underlying5,(fun ks h=>by injection h with h;subst h;exact fL Tryz.underlying5)⟩
theorem aLk:aX Tryz.prog 9 R9:=⟨Tryz.isAgg9,aL (z:=.string ⟨#[]⟩) (by kernel_rfl),rfl,fun _=>rfl,rfl,Tryz.underlying9,(fun ks h=>by cases h)⟩
theorem aJN:aX Tryz.prog 22 R22:=⟨Tryz.isAgg22,aL (z:=.slice none 0 0) (by kernel_rfl),rfl,fun _=>rfl,rfl,Tryz.underlying22,(fun ks h=>by cases h)⟩
theorem aJR:aX Tryz.prog 23 R23:=⟨Tryz.isAgg23,aL (z:=.slice none 0 0) (by kernel_rfl),rfl,fun _=>rfl,rfl,Tryz.underlying23,(fun ks h=>by cases h)⟩
theorem aKV:aX Tryz.prog 24 R24:=⟨Tryz.isAgg24,aL (z:=.agg #[.slice none 0 0,.slice none 0 0]) (by kernel_rfl),rfl,(fun h=>by cases h),rfl,⟨_,Tryz.underlying24,rfl⟩,(fun ks h=>by cases h)⟩
theorem aKK:aX Tryz.prog 25 R25:=⟨Tryz.isAgg25,aL (z:=.agg #[.slice none 0 0,.slice none 0 0]) (by kernel_rfl),rfl,(fun h=>by cases h),rfl,⟨_,Tryz.underlying25,rfl⟩,(fun ks h=>by cases h)⟩
theorem aIQ:aX Tryz.prog 28 R28:=⟨Tryz.isAgg28,aL (z:=.int .i64 0) (by kernel_rfl),rfl,fun _=>rfl,rfl,Tryz.underlying28,(fun ks h=>by injection h with h;subst h;exact fL Tryz.underlying28)⟩
theorem aKu:aX Tryz.prog 29 R29:=⟨Tryz.isAgg29,aL (z:=.slice none 0 0) (by kernel_rfl),rfl,fun _=>rfl,rfl,Tryz.underlying29,(fun ks h=>by cases h)⟩
theorem aJY:aX Tryz.prog 30 R30:=⟨Tryz.isAgg30,aL (z:=.agg #[.int .i64 0,.slice none 0 0,.slice none 0 0]) (by kernel_rfl),rfl,(fun h=>by cases h),rfl,⟨_,Tryz.underlying30,rfl⟩,(fun ks h=>by cases h)⟩
theorem aIA:aX Tryz.prog 31 R31:=⟨Tryz.isAgg31,aL (z:=.agg #[.int .i64 0,.slice none 0 0,.slice none 0 0]) (by kernel_rfl),rfl,(fun h=>by cases h),rfl,⟨_,Tryz.underlying31,rfl⟩,(fun ks h=>by cases h)⟩
theorem aKb:aX Tryz.prog 34 R34:=⟨Tryz.isAgg34,aL (z:=.int .u32 0) (by kernel_rfl),rfl,fun _=>rfl,rfl,Tryz.underlying34,(fun ks h=>by injection h with h;subst h;exact fL Tryz.underlying34)⟩
theorem aKD:aX Tryz.prog 38 R38:=⟨Tryz.isAgg38,aL (z:=.agg #[.slice none 0 0,.slice none 0 0,.slice none 0 0]) (by kernel_rfl),rfl,(fun h=>by cases h),rfl,⟨_,Tryz.underlying38,rfl⟩,(fun ks h=>by cases h)⟩
theorem aJK:aX Tryz.prog 39 R39:=⟨Tryz.isAgg39,aL (z:=.agg #[.slice none 0 0,.slice none 0 0,.slice none 0 0]) (by kernel_rfl),rfl,(fun h=>by cases h),rfl,⟨_,Tryz.underlying39,rfl⟩,(fun ks h=>by cases h)⟩
theorem aKW:aX Tryz.prog 40 R40:=⟨Tryz.isAgg40,aL (z:=.int .i64 0) (by kernel_rfl),rfl,fun _=>rfl,rfl,Tryz.underlying40,(fun ks h=>by injection h with h;subst h;exact fL Tryz.underlying40)⟩
theorem aII:aX Tryz.prog 49 R49:=⟨Tryz.isAgg49,aL (z:=.map none) (by kernel_rfl),rfl,fun _=>rfl,rfl,Tryz.underlying49,(fun ks h=>by cases h)⟩
theorem aKq:aX Tryz.prog 55 R55:=⟨Tryz.isAgg55,aL (z:=.agg #[.int .u32 0,.int .u32 0,.int .u32 0]) (by kernel_rfl),rfl,(fun h=>by cases h),rfl,⟨_,Tryz.underlying55,rfl⟩,(fun ks h=>by injection h with h;subst h;exact aLN)⟩
theorem aKy:aX Tryz.prog 56 R56:=⟨Tryz.isAgg56,aL (z:=.agg #[.int .u32 0,.int .u32 0,.int .u32 0]) (by kernel_rfl),rfl,(fun h=>by cases h),rfl,⟨_,Tryz.underlying56,rfl⟩,(fun ks h=>by injection h with h;subst h;exact aLC)⟩
theorem aJy:aX Tryz.prog 59 R59:=⟨Tryz.isAgg59,aL (z:=.map none) (by kernel_rfl),rfl,fun _=>rfl,rfl,Tryz.underlying59,(fun ks h=>by cases h)⟩
theorem aIt:aX Tryz.prog 60 R60:=⟨Tryz.isAgg60,aL (z:=.map none) (by kernel_rfl),rfl,fun _=>rfl,rfl,Tryz.underlying60,(fun ks h=>by cases h)⟩
theorem aKi:aX Tryz.prog 61 R61:=⟨Tryz.isAgg61,aL (z:=.agg #[.map none,.map none]) (by kernel_rfl),rfl,(fun h=>by cases h),rfl,⟨_,Tryz.underlying61,rfl⟩,(fun ks h=>by cases h)⟩
theorem aJL:aX Tryz.prog 62 R62:=⟨Tryz.isAgg62,aL (z:=.agg #[.map none,.map none]) (by kernel_rfl),rfl,(fun h=>by cases h),rfl,⟨_,Tryz.underlying62,rfl⟩,(fun ks h=>by cases h)⟩
theorem aID:aX Tryz.prog 65 R65:=⟨Tryz.isAgg65,aL (z:=.map none) (by kernel_rfl),rfl,fun _=>rfl,rfl,Tryz.underlying65,(fun ks h=>by cases h)⟩
theorem aJz:aX Tryz.prog 72 R72:=⟨Tryz.isAgg72,aL (z:=.map none) (by kernel_rfl),rfl,fun _=>rfl,rfl,Tryz.underlying72,(fun ks h=>by cases h)⟩
theorem aKt:aX Tryz.prog 73 R73:=⟨Tryz.isAgg73,aL (z:=.agg #[.int .u32 0,.int .u32 0]) (by kernel_rfl),rfl,(fun h=>by cases h),rfl,Tryz.underlying73,(fun ks h=>by injection h with h;subst h;exact aMh)⟩
theorem aJQ:aX Tryz.prog 77 R77:=⟨Tryz.isAgg77,aL (z:=.slice none 0 0) (by kernel_rfl),rfl,fun _=>rfl,rfl,Tryz.underlying77,(fun ks h=>by cases h)⟩
theorem aJi:aX Tryz.prog 80 R80:=⟨Tryz.isAgg80,aL (z:=.map none) (by kernel_rfl),rfl,fun _=>rfl,rfl,Tryz.underlying80,(fun ks h=>by cases h)⟩
theorem aIR:aX Tryz.prog 93 R93:=⟨Tryz.isAgg93,aL (z:=.map none) (by kernel_rfl),rfl,fun _=>rfl,rfl,Tryz.underlying93,(fun ks h=>by cases h)⟩
theorem aKd:aX Tryz.prog 94 R94:=⟨Tryz.isAgg94,aL (z:=.agg #[]) (by kernel_rfl),rfl,(fun h=>by cases h),rfl,⟨_,Tryz.underlying94,rfl⟩,(fun ks h=>by cases h)⟩
theorem aJV:aX Tryz.prog 96 R96:=⟨Tryz.isAgg96,aL (z:=.int .u64 0) (by kernel_rfl),rfl,fun _=>rfl,rfl,Tryz.underlying96,(fun ks h=>by injection h with h;subst h;exact fL Tryz.underlying96)⟩
theorem aIq:aX Tryz.prog 97 R97:=⟨Tryz.isAgg97,aL (z:=.map none) (by kernel_rfl),rfl,fun _=>rfl,rfl,Tryz.underlying97,(fun ks h=>by cases h)⟩
theorem aGx:aX Tryz.prog 104 aQi:=⟨Tryz.isAgg104,aL (z:=.pointer none) (by kernel_rfl),rfl,fun _=>rfl,rfl,Tryz.underlying104,(fun ks h=>by cases h)⟩
theorem aHA:aX Tryz.prog 105 aQg:=⟨Tryz.isAgg105,aL (z:=.map none) (by kernel_rfl),rfl,fun _=>rfl,rfl,Tryz.underlying105,(fun ks h=>by cases h)⟩
theorem aIc:aX Tryz.prog 106 aPx:=⟨Tryz.isAgg106,aL (z:=.slice none 0 0) (by kernel_rfl),rfl,fun _=>rfl,rfl,Tryz.underlying106,(fun ks h=>by cases h)⟩
theorem aHH:aX Tryz.prog 107 aQa:=⟨Tryz.isAgg107,aL (z:=.agg #[.slice none 0 0,.map none,.map none,.map none,.slice none 0 0,.slice none 0 0]) (by kernel_rfl),rfl,(fun h=>by cases h),rfl,⟨_,Tryz.underlying107,rfl⟩,(fun ks h=>by cases h)⟩
theorem aHm:aX Tryz.prog 108 aPK:=⟨Tryz.isAgg108,aL (z:=.agg #[.slice none 0 0,.map none,.map none,.map none,.slice none 0 0,.slice none 0 0]) (by kernel_rfl),rfl,(fun h=>by cases h),rfl,⟨_,Tryz.underlying108,rfl⟩,(fun ks h=>by cases h)⟩
theorem aHy:aX Tryz.prog 113 aPw:=⟨Tryz.isAgg113,aL (z:=.pointer none) (by kernel_rfl),rfl,fun _=>rfl,rfl,Tryz.underlying113,(fun ks h=>by cases h)⟩
theorem aGw:aX Tryz.prog 115 aPr:=⟨Tryz.isAgg115,aL (z:=.slice none 0 0) (by kernel_rfl),rfl,fun _=>rfl,rfl,Tryz.underlying115,(fun ks h=>by cases h)⟩
theorem aGT:aX Tryz.prog 116 aQt:=⟨Tryz.isAgg116,aL (z:=.int .u64 0) (by kernel_rfl),rfl,fun _=>rfl,rfl,Tryz.underlying116,(fun ks h=>by injection h with h;subst h;exact fL Tryz.underlying116)⟩
theorem aGz:aX Tryz.prog 117 aPt:=⟨Tryz.isAgg117,aL (z:=.slice none 0 0) (by kernel_rfl),rfl,fun _=>rfl,rfl,Tryz.underlying117,(fun ks h=>by cases h)⟩
theorem aHQ:aX Tryz.prog 118 aPI:=⟨Tryz.isAgg118,aL (z:=.agg #[.slice none 0 0,.slice none 0 0,.slice none 0 0,.map none,.map none,.int .u64 0,.slice none 0 0]) (by kernel_rfl),rfl,(fun h=>by cases h),rfl,⟨_,Tryz.underlying118,rfl⟩,(fun ks h=>by cases h)⟩
theorem aGR:aX Tryz.prog 119 aPF:=⟨Tryz.isAgg119,aL (z:=.agg #[.slice none 0 0,.slice none 0 0,.slice none 0 0,.map none,.map none,.int .u64 0,.slice none 0 0]) (by kernel_rfl),rfl,(fun h=>by cases h),rfl,⟨_,Tryz.underlying119,rfl⟩,(fun ks h=>by cases h)⟩
theorem aHY:aX Tryz.prog 120 aQu:=⟨Tryz.isAgg120,aL (z:=.agg #[.int .u64 0,.int .u64 0]) (by kernel_rfl),rfl,(fun h=>by cases h),rfl,⟨_,Tryz.underlying120,rfl⟩,(fun ks h=>by injection h with h;subst h;exact aIC)⟩
theorem aIl:aX Tryz.prog 121 aPl:=⟨Tryz.isAgg121,aL (z:=.agg #[.int .u64 0,.int .u64 0]) (by kernel_rfl),rfl,(fun h=>by cases h),rfl,⟨_,Tryz.underlying121,rfl⟩,(fun ks h=>by injection h with h;subst h;exact aKG)⟩
theorem aHu:aX Tryz.prog 126 aQv:=⟨Tryz.isAgg126,aL (z:=.agg #[.slice none 0 0,.int .u64 0]) (by kernel_rfl),rfl,(fun h=>by cases h),rfl,⟨_,Tryz.underlying126,rfl⟩,(fun ks h=>by cases h)⟩
theorem aIp:aX Tryz.prog 127 aQq:=⟨Tryz.isAgg127,aL (z:=.agg #[.slice none 0 0,.int .u64 0]) (by kernel_rfl),rfl,(fun h=>by cases h),rfl,⟨_,Tryz.underlying127,rfl⟩,(fun ks h=>by cases h)⟩
theorem aGL:aX Tryz.prog 129 aQo:=⟨Tryz.isAgg129,aL (z:=.nilFunc) (by kernel_rfl),rfl,fun _=>rfl,rfl,⟨_,_,_,Tryz.underlying129⟩,(fun ks h=>by cases h)⟩
theorem aGS:aX Tryz.prog 140 aPu:=⟨Tryz.isAgg140,aL (z:=.nilFunc) (by kernel_rfl),rfl,fun _=>rfl,rfl,⟨_,_,_,Tryz.underlying140⟩,(fun ks h=>by cases h)⟩
theorem aHa:aX Tryz.prog 148 aQz:=⟨Tryz.isAgg148,aL (z:=.nilFunc) (by kernel_rfl),rfl,fun _=>rfl,rfl,⟨_,_,_,Tryz.underlying148⟩,(fun ks h=>by cases h)⟩
theorem aIn:aX Tryz.prog 154 aQl:=⟨Tryz.isAgg154,aL (z:=.slice none 0 0) (by kernel_rfl),rfl,fun _=>rfl,rfl,Tryz.underlying154,(fun ks h=>by cases h)⟩
theorem aGH:aX Tryz.prog 165 aPS:=⟨Tryz.isAgg165,aL (z:=.int .i64 0) (by kernel_rfl),rfl,fun _=>rfl,rfl,Tryz.underlying165,(fun ks h=>by injection h with h;subst h;exact fL Tryz.underlying165)⟩
theorem aHk:aX Tryz.prog 189 aPn:=⟨Tryz.isAgg189,aL (z:=.agg #[.int .u8 0,.int .u8 0,.int .u8 0,.int .u8 0,.int .u8 0,.int .u8 0,.int .u8 0,.int .u8 0,.int .u8 0,.int .u8 0,.int .u8 0,.int .u8 0,.int .u8 0,.int .u8 0,.int .u8 0,.int .u8 0,.int .u8 0,.int .u8 0,.int .u8 0,.int .u8 0,.int .u8 0,.int .u8 0,.int .u8 0,.int .u8 0,.int .u8 0,.int .u8 0,.int .u8 0,.int .u8 0,.int .u8 0,.int .u8 0,.int .u8 0,.int .u8 0,.int .u8 0,.int .u8 0,.int .u8 0,.int .u8 0,.int .u8 0,.int .u8 0,.int .u8 0,.int .u8 0,.int .u8 0,.int .u8 0,.int .u8 0,.int .u8 0,.int .u8 0,.int .u8 0,.int .u8 0,.int .u8 0,.int .u8 0,.int .u8 0,.int .u8 0,.int .u8 0,.int .u8 0,.int .u8 0,.int .u8 0,.int .u8 0,.int .u8 0,.int .u8 0,.int .u8 0,.int .u8 0,.int .u8 0,.int .u8 0,.int .u8 0,.int .u8 0]) (by kernel_rfl),rfl,(fun h=>by cases h),rfl,Tryz.underlying189,(fun ks h=>by cases h)⟩
theorem aHI:aX Tryz.prog 196 aPp:=⟨Tryz.isAgg196,aL (z:=.map none) (by kernel_rfl),rfl,fun _=>rfl,rfl,Tryz.underlying196,(fun ks h=>by cases h)⟩
theorem aIe:aX Tryz.prog 199 aQx:=⟨Tryz.isAgg199,aL (z:=.int .u64 0) (by kernel_rfl),rfl,fun _=>rfl,rfl,Tryz.underlying199,(fun ks h=>by injection h with h;subst h;exact fL Tryz.underlying199)⟩
theorem aHG:aX Tryz.prog 203 aPU:=⟨Tryz.isAgg203,aL (z:=.pointer none) (by kernel_rfl),rfl,fun _=>rfl,rfl,Tryz.underlying203,(fun ks h=>by cases h)⟩
theorem aGA:aX Tryz.prog 212 aPq:=⟨Tryz.isAgg212,aL (z:=.pointer none) (by kernel_rfl),rfl,fun _=>rfl,rfl,Tryz.underlying212,(fun ks h=>by cases h)⟩
theorem aF:bC Tryz.prog tab:=aDS aPB ⟨aLm,aMN,aNf,aLk,aJN,aJR,aKV,aKK,aIQ,aKu,aJY,aIA,aKb,aKD,aJK,aKW,aII,aKq,aKy,aJy,aIt,aKi,aJL,aID,aJz,aKt,aJQ,aJi,aIR,aKd,aJV,aIq,aGx,aHA,aIc,aHH,aHm,aHy,aGw,aGT,aGz,aHQ,aGR,aHY,aIl,aHu,aIp,aGL,aGS,aHa,aIn,aGH,aHk,aHI,aIe,aHG,aGA,trivial⟩
end Go.Proofs.YtempldclppogmaaGreatDoor.Aw
