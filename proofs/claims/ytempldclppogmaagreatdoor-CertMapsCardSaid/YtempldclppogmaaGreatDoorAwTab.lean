/- The types of this seat's translation, as a table, and that the loaded program has them so. Written by a program (gentab.py). -/
import Derived.Test.YtempldclppogmaaGreatDoorAwDraw
import Derived.Test.YtempldclppogmaaGreatDoorAwArr
import Derived.Test.YtempldclppogmaaGreatDoorProg
import Derived.KernelRfl
import Derived.Tactics
import Derived.Laws.StructEq
set_option linter.unusedVariables false
set_option linter.unusedSimpArgs false
namespace Go.Proofs.YtempldclppogmaaGreatDoor.Aw
open Go Go.RowKit
def R3:bG:={ agg:=false,size:=1,bytes:=8,zero:=[.int .i64 0],d:=.int .i64,ck:=some [.i64] }
def R4:bG:={ agg:=false,size:=1,bytes:=1,zero:=[.bool false],d:=.bool }
def R5:bG:={ agg:=false,size:=1,bytes:=1,zero:=[.int .u8 0],d:=.int .u8,ck:=some [.u8] }
def R9:bG:={ agg:=false,size:=1,bytes:=16,zero:=[.string ⟨#[]⟩],d:=.str }
def R22:bG:={ agg:=false,size:=1,bytes:=24,zero:=[.slice none 0 0],d:=.slice 34 }
def R23:bG:={ agg:=false,size:=1,bytes:=24,zero:=[.slice none 0 0],d:=.slice 56 }
def R24:bG:={ agg:=true,size:=2,bytes:=48,zero:=[.slice none 0 0,.slice none 0 0],d:=.struct [(0,22),(1,23)] }
def R25:bG:={ agg:=true,size:=2,bytes:=48,zero:=[.slice none 0 0,.slice none 0 0],d:=.struct [(0,22),(1,23)] }
def R28:bG:={ agg:=false,size:=1,bytes:=8,zero:=[.int .i64 0],d:=.int .i64,ck:=some [.i64] }
def R29:bG:={ agg:=false,size:=1,bytes:=24,zero:=[.slice none 0 0],d:=.slice 22 }
def R30:bG:={ agg:=true,size:=3,bytes:=56,zero:=[.int .i64 0,.slice none 0 0,.slice none 0 0],d:=.struct [(0,28),(1,22),(2,29)] }
def R31:bG:={ agg:=true,size:=3,bytes:=56,zero:=[.int .i64 0,.slice none 0 0,.slice none 0 0],d:=.struct [(0,28),(1,22),(2,29)] }
def R34:bG:={ agg:=false,size:=1,bytes:=4,zero:=[.int .u32 0],d:=.int .u32,ck:=some [.u32] }
def R38:bG:={ agg:=true,size:=3,bytes:=72,zero:=[.slice none 0 0,.slice none 0 0,.slice none 0 0],d:=.struct [(0,25),(2,29)] }
def R39:bG:={ agg:=true,size:=3,bytes:=72,zero:=[.slice none 0 0,.slice none 0 0,.slice none 0 0],d:=.struct [(0,25),(2,29)] }
def R40:bG:={ agg:=false,size:=1,bytes:=8,zero:=[.int .i64 0],d:=.int .i64,ck:=some [.i64] }
def R49:bG:={ agg:=false,size:=1,bytes:=8,zero:=[.map none],d:=.map 34 3 }
def R55:bG:={ agg:=true,size:=3,bytes:=12,zero:=[.int .u32 0,.int .u32 0,.int .u32 0],d:=.struct [(0,34),(1,34),(2,34)],ck:=some [.u32,.u32,.u32] }
def R56:bG:={ agg:=true,size:=3,bytes:=12,zero:=[.int .u32 0,.int .u32 0,.int .u32 0],d:=.struct [(0,34),(1,34),(2,34)],ck:=some [.u32,.u32,.u32] }
def R59:bG:={ agg:=false,size:=1,bytes:=8,zero:=[.map none],d:=.map 34 22 }
def R60:bG:={ agg:=false,size:=1,bytes:=8,zero:=[.map none],d:=.map 34 34 }
def R61:bG:={ agg:=true,size:=2,bytes:=16,zero:=[.map none,.map none],d:=.struct [(0,59),(1,60)] }
def R62:bG:={ agg:=true,size:=2,bytes:=16,zero:=[.map none,.map none],d:=.struct [(0,59),(1,60)] }
def R65:bG:={ agg:=false,size:=1,bytes:=8,zero:=[.map none],d:=.map 3 3 }
def R72:bG:={ agg:=false,size:=1,bytes:=8,zero:=[.map none],d:=.map 73 23 }
def R73:bG:={ agg:=true,size:=2,bytes:=8,zero:=[.int .u32 0,.int .u32 0],d:=.arr 2 34,ck:=some [.u32,.u32] }
def R77:bG:={ agg:=false,size:=1,bytes:=24,zero:=[.slice none 0 0],d:=.slice 23 }
def R80:bG:={ agg:=false,size:=1,bytes:=8,zero:=[.map none],d:=.map 34 60 }
def R93:bG:={ agg:=false,size:=1,bytes:=8,zero:=[.map none],d:=.map 3 94 }
def R94:bG:={ agg:=true,size:=0,bytes:=0,zero:=[],d:=.struct [] }
def R96:bG:={ agg:=false,size:=1,bytes:=8,zero:=[.int .u64 0],d:=.int .u64,ck:=some [.u64] }
def R97:bG:={ agg:=false,size:=1,bytes:=8,zero:=[.map none],d:=.map 73 3 }
def aQg:bG:={ agg:=false,size:=1,bytes:=8,zero:=[.pointer none],d:=.ptr 108 }
def aQh:bG:={ agg:=false,size:=1,bytes:=8,zero:=[.map none],d:=.map 34 106 }
def aQj:bG:={ agg:=false,size:=1,bytes:=24,zero:=[.slice none 0 0],d:=.slice 3 }
def aQa:bG:={ agg:=true,size:=6,bytes:=96,zero:=[.slice none 0 0,.map none,.map none,.map none,.slice none 0 0,.slice none 0 0],d:=.struct [(0,23),(1,105),(2,49),(3,49),(4,106),(5,77)] }
def aPF:bG:={ agg:=true,size:=6,bytes:=96,zero:=[.slice none 0 0,.map none,.map none,.map none,.slice none 0 0,.slice none 0 0],d:=.struct [(0,23),(1,105),(2,49),(3,49),(4,106),(5,77)] }
def aPr:bG:={ agg:=false,size:=1,bytes:=8,zero:=[.pointer none],d:=.ptr 119 }
def aQr:bG:={ agg:=false,size:=1,bytes:=24,zero:=[.slice none 0 0],d:=.slice 116 }
def aQs:bG:={ agg:=false,size:=1,bytes:=8,zero:=[.int .u64 0],d:=.int .u64,ck:=some [.u64] }
def aPY:bG:={ agg:=false,size:=1,bytes:=24,zero:=[.slice none 0 0],d:=.slice 127 }
def aPM:bG:={ agg:=true,size:=7,bytes:=120,zero:=[.slice none 0 0,.slice none 0 0,.slice none 0 0,.map none,.map none,.int .u64 0,.slice none 0 0],d:=.struct [(0,25),(2,115),(3,49),(4,97),(5,116),(6,117)] }
def aQl:bG:={ agg:=true,size:=7,bytes:=120,zero:=[.slice none 0 0,.slice none 0 0,.slice none 0 0,.map none,.map none,.int .u64 0,.slice none 0 0],d:=.struct [(0,25),(2,115),(3,49),(4,97),(5,116),(6,117)] }
def aPA:bG:={ agg:=true,size:=2,bytes:=16,zero:=[.int .u64 0,.int .u64 0],d:=.struct [(0,116),(1,116)],ck:=some [.u64,.u64] }
def aPK:bG:={ agg:=true,size:=2,bytes:=16,zero:=[.int .u64 0,.int .u64 0],d:=.struct [(0,116),(1,116)],ck:=some [.u64,.u64] }
def aQo:bG:={ agg:=true,size:=2,bytes:=32,zero:=[.slice none 0 0,.int .u64 0],d:=.struct [(0,22),(1,116)] }
def aPk:bG:={ agg:=true,size:=2,bytes:=32,zero:=[.slice none 0 0,.int .u64 0],d:=.struct [(0,22),(1,116)] }
def aQt:bG:={ agg:=false,size:=1,bytes:=8,zero:=[.nilFunc],d:=.func }
def aPL:bG:={ agg:=false,size:=1,bytes:=8,zero:=[.nilFunc],d:=.func }
def aPN:bG:={ agg:=false,size:=1,bytes:=8,zero:=[.nilFunc],d:=.func }
def aPX:bG:={ agg:=false,size:=1,bytes:=24,zero:=[.slice none 0 0],d:=.slice 121 }
def aQv:bG:={ agg:=false,size:=1,bytes:=8,zero:=[.int .i64 0],d:=.int .i64,ck:=some [.i64] }
def aPm:bG:={ agg:=true,size:=64,bytes:=64,zero:=(List.replicate 64 (.int .u8 0)),d:=.arr 64 5 }
def aPt:bG:={ agg:=false,size:=1,bytes:=8,zero:=[.map none],d:=.map 34 4 }
def aQd:bG:={ agg:=false,size:=1,bytes:=8,zero:=[.int .u64 0],d:=.int .u64,ck:=some [.u64] }
def aPz:bG:={ agg:=false,size:=1,bytes:=8,zero:=[.pointer none],d:=.ptr 3 }
def aQp:bG:={ agg:=false,size:=1,bytes:=8,zero:=[.pointer none],d:=.ptr 199 }
def aPw:List (Nat×bG):=[(3,R3),(4,R4),(5,R5),(9,R9),(22,R22),(23,R23),(24,R24),(25,R25),(28,R28),(29,R29),(30,R30),(31,R31),(34,R34),(38,R38),(39,R39),(40,R40),(49,R49),(55,R55),(56,R56),(59,R59),(60,R60),(61,R61),(62,R62),(65,R65),(72,R72),(73,R73),(77,R77),(80,R80),(93,R93),(94,R94),(96,R96),(97,R97),(104,aQg),(105,aQh),(106,aQj),(107,aQa),(108,aPF),(113,aPr),(115,aQr),(116,aQs),(117,aPY),(118,aPM),(119,aQl),(120,aPA),(121,aPK),(126,aQo),(127,aPk),(129,aQt),(140,aPL),(148,aPN),(154,aPX),(165,aQv),(189,aPm),(196,aPt),(199,aQd),(203,aPz),(212,aQp)]
def tab:Tab:=aDk aPw
@[simp] theorem aRX:tab 3=some { agg:=false,size:=1,bytes:=8,zero:=[.int .i64 0],d:=.int .i64,ck:=some [.i64] }:=rfl
@[simp] theorem aRY:tab 4=some { agg:=false,size:=1,bytes:=1,zero:=[.bool false],d:=.bool }:=rfl
@[simp] theorem aRZ:tab 5=some { agg:=false,size:=1,bytes:=1,zero:=[.int .u8 0],d:=.int .u8,ck:=some [.u8] }:=rfl
@[simp] theorem aSa:tab 9=some { agg:=false,size:=1,bytes:=16,zero:=[.string ⟨#[]⟩],d:=.str }:=rfl
@[simp] theorem aRy:tab 22=some { agg:=false,size:=1,bytes:=24,zero:=[.slice none 0 0],d:=.slice 34 }:=rfl
@[simp] theorem aRD:tab 23=some { agg:=false,size:=1,bytes:=24,zero:=[.slice none 0 0],d:=.slice 56 }:=rfl
@[simp] theorem aQX:tab 24=some { agg:=true,size:=2,bytes:=48,zero:=[.slice none 0 0,.slice none 0 0],d:=.struct [(0,22),(1,23)] }:=rfl
@[simp] theorem aRp:tab 25=some { agg:=true,size:=2,bytes:=48,zero:=[.slice none 0 0,.slice none 0 0],d:=.struct [(0,22),(1,23)] }:=rfl
@[simp] theorem aRV:tab 28=some { agg:=false,size:=1,bytes:=8,zero:=[.int .i64 0],d:=.int .i64,ck:=some [.i64] }:=rfl
@[simp] theorem aRB:tab 29=some { agg:=false,size:=1,bytes:=24,zero:=[.slice none 0 0],d:=.slice 22 }:=rfl
@[simp] theorem aRt:tab 30=some { agg:=true,size:=3,bytes:=56,zero:=[.int .i64 0,.slice none 0 0,.slice none 0 0],d:=.struct [(0,28),(1,22),(2,29)] }:=rfl
@[simp] theorem aRG:tab 31=some { agg:=true,size:=3,bytes:=56,zero:=[.int .i64 0,.slice none 0 0,.slice none 0 0],d:=.struct [(0,28),(1,22),(2,29)] }:=rfl
@[simp] theorem aRN:tab 34=some { agg:=false,size:=1,bytes:=4,zero:=[.int .u32 0],d:=.int .u32,ck:=some [.u32] }:=rfl
@[simp] theorem aRC:tab 38=some { agg:=true,size:=3,bytes:=72,zero:=[.slice none 0 0,.slice none 0 0,.slice none 0 0],d:=.struct [(0,25),(2,29)] }:=rfl
@[simp] theorem aRz:tab 39=some { agg:=true,size:=3,bytes:=72,zero:=[.slice none 0 0,.slice none 0 0,.slice none 0 0],d:=.struct [(0,25),(2,29)] }:=rfl
@[simp] theorem aRw:tab 40=some { agg:=false,size:=1,bytes:=8,zero:=[.int .i64 0],d:=.int .i64,ck:=some [.i64] }:=rfl
@[simp] theorem aRx:tab 49=some { agg:=false,size:=1,bytes:=8,zero:=[.map none],d:=.map 34 3 }:=rfl
@[simp] theorem aRv:tab 55=some { agg:=true,size:=3,bytes:=12,zero:=[.int .u32 0,.int .u32 0,.int .u32 0],d:=.struct [(0,34),(1,34),(2,34)],ck:=some [.u32,.u32,.u32] }:=rfl
@[simp] theorem aRP:tab 56=some { agg:=true,size:=3,bytes:=12,zero:=[.int .u32 0,.int .u32 0,.int .u32 0],d:=.struct [(0,34),(1,34),(2,34)],ck:=some [.u32,.u32,.u32] }:=rfl
@[simp] theorem aQY:tab 59=some { agg:=false,size:=1,bytes:=8,zero:=[.map none],d:=.map 34 22 }:=rfl
@[simp] theorem aRT:tab 60=some { agg:=false,size:=1,bytes:=8,zero:=[.map none],d:=.map 34 34 }:=rfl
@[simp] theorem aRq:tab 61=some { agg:=true,size:=2,bytes:=16,zero:=[.map none,.map none],d:=.struct [(0,59),(1,60)] }:=rfl
@[simp] theorem aRW:tab 62=some { agg:=true,size:=2,bytes:=16,zero:=[.map none,.map none],d:=.struct [(0,59),(1,60)] }:=rfl
@[simp] theorem aRH:tab 65=some { agg:=false,size:=1,bytes:=8,zero:=[.map none],d:=.map 3 3 }:=rfl
@[simp] theorem aRK:tab 72=some { agg:=false,size:=1,bytes:=8,zero:=[.map none],d:=.map 73 23 }:=rfl
@[simp] theorem aRo:tab 73=some { agg:=true,size:=2,bytes:=8,zero:=[.int .u32 0,.int .u32 0],d:=.arr 2 34,ck:=some [.u32,.u32] }:=rfl
@[simp] theorem aQZ:tab 77=some { agg:=false,size:=1,bytes:=24,zero:=[.slice none 0 0],d:=.slice 23 }:=rfl
@[simp] theorem aRO:tab 80=some { agg:=false,size:=1,bytes:=8,zero:=[.map none],d:=.map 34 60 }:=rfl
@[simp] theorem aRe:tab 93=some { agg:=false,size:=1,bytes:=8,zero:=[.map none],d:=.map 3 94 }:=rfl
@[simp] theorem aRj:tab 94=some { agg:=true,size:=0,bytes:=0,zero:=[],d:=.struct [] }:=rfl
@[simp] theorem aRk:tab 96=some { agg:=false,size:=1,bytes:=8,zero:=[.int .u64 0],d:=.int .u64,ck:=some [.u64] }:=rfl
@[simp] theorem aRu:tab 97=some { agg:=false,size:=1,bytes:=8,zero:=[.map none],d:=.map 73 3 }:=rfl
@[simp] theorem aQy:tab 104=some { agg:=false,size:=1,bytes:=8,zero:=[.pointer none],d:=.ptr 108 }:=rfl
@[simp] theorem aQW:tab 105=some { agg:=false,size:=1,bytes:=8,zero:=[.map none],d:=.map 34 106 }:=rfl
@[simp] theorem aQV:tab 106=some { agg:=false,size:=1,bytes:=24,zero:=[.slice none 0 0],d:=.slice 3 }:=rfl
@[simp] theorem aQB:tab 107=some { agg:=true,size:=6,bytes:=96,zero:=[.slice none 0 0,.map none,.map none,.map none,.slice none 0 0,.slice none 0 0],d:=.struct [(0,23),(1,105),(2,49),(3,49),(4,106),(5,77)] }:=rfl
@[simp] theorem aQQ:tab 108=some { agg:=true,size:=6,bytes:=96,zero:=[.slice none 0 0,.map none,.map none,.map none,.slice none 0 0,.slice none 0 0],d:=.struct [(0,23),(1,105),(2,49),(3,49),(4,106),(5,77)] }:=rfl
@[simp] theorem aQw:tab 113=some { agg:=false,size:=1,bytes:=8,zero:=[.pointer none],d:=.ptr 119 }:=rfl
@[simp] theorem aQJ:tab 115=some { agg:=false,size:=1,bytes:=24,zero:=[.slice none 0 0],d:=.slice 116 }:=rfl
@[simp] theorem aQS:tab 116=some { agg:=false,size:=1,bytes:=8,zero:=[.int .u64 0],d:=.int .u64,ck:=some [.u64] }:=rfl
@[simp] theorem aQE:tab 117=some { agg:=false,size:=1,bytes:=24,zero:=[.slice none 0 0],d:=.slice 127 }:=rfl
@[simp] theorem aQx:tab 118=some { agg:=true,size:=7,bytes:=120,zero:=[.slice none 0 0,.slice none 0 0,.slice none 0 0,.map none,.map none,.int .u64 0,.slice none 0 0],d:=.struct [(0,25),(2,115),(3,49),(4,97),(5,116),(6,117)] }:=rfl
@[simp] theorem aQH:tab 119=some { agg:=true,size:=7,bytes:=120,zero:=[.slice none 0 0,.slice none 0 0,.slice none 0 0,.map none,.map none,.int .u64 0,.slice none 0 0],d:=.struct [(0,25),(2,115),(3,49),(4,97),(5,116),(6,117)] }:=rfl
@[simp] theorem aQT:tab 120=some { agg:=true,size:=2,bytes:=16,zero:=[.int .u64 0,.int .u64 0],d:=.struct [(0,116),(1,116)],ck:=some [.u64,.u64] }:=rfl
@[simp] theorem aQG:tab 121=some { agg:=true,size:=2,bytes:=16,zero:=[.int .u64 0,.int .u64 0],d:=.struct [(0,116),(1,116)],ck:=some [.u64,.u64] }:=rfl
@[simp] theorem aQF:tab 126=some { agg:=true,size:=2,bytes:=32,zero:=[.slice none 0 0,.int .u64 0],d:=.struct [(0,22),(1,116)] }:=rfl
@[simp] theorem aQN:tab 127=some { agg:=true,size:=2,bytes:=32,zero:=[.slice none 0 0,.int .u64 0],d:=.struct [(0,22),(1,116)] }:=rfl
@[simp] theorem aQA:tab 129=some { agg:=false,size:=1,bytes:=8,zero:=[.nilFunc],d:=.func }:=rfl
@[simp] theorem aQO:tab 140=some { agg:=false,size:=1,bytes:=8,zero:=[.nilFunc],d:=.func }:=rfl
@[simp] theorem aQC:tab 148=some { agg:=false,size:=1,bytes:=8,zero:=[.nilFunc],d:=.func }:=rfl
@[simp] theorem aQU:tab 154=some { agg:=false,size:=1,bytes:=24,zero:=[.slice none 0 0],d:=.slice 121 }:=rfl
@[simp] theorem aQK:tab 165=some { agg:=false,size:=1,bytes:=8,zero:=[.int .i64 0],d:=.int .i64,ck:=some [.i64] }:=rfl
@[simp] theorem aQP:tab 189=some { agg:=true,size:=64,bytes:=64,zero:=(List.replicate 64 (.int .u8 0)),d:=.arr 64 5 }:=rfl
@[simp] theorem aQM:tab 196=some { agg:=false,size:=1,bytes:=8,zero:=[.map none],d:=.map 34 4 }:=rfl
@[simp] theorem aQL:tab 199=some { agg:=false,size:=1,bytes:=8,zero:=[.int .u64 0],d:=.int .u64,ck:=some [.u64] }:=rfl
@[simp] theorem aQI:tab 203=some { agg:=false,size:=1,bytes:=8,zero:=[.pointer none],d:=.ptr 3 }:=rfl
@[simp] theorem aQz:tab 212=some { agg:=false,size:=1,bytes:=8,zero:=[.pointer none],d:=.ptr 199 }:=rfl
theorem aL{P:Program}{t size bytes:Nat}{z:Value}(h:(P.info? t).map (fun i=>(i.size,i.bytes,i.zero))=some (size,bytes,some z)):∃ i,P.info? t=some i∧i.size=size∧i.bytes=bytes∧i.zero=some z:=by
 cases hi:P.info? t with
 |none=>simp[hi]at h
 |some i=>
  simp only[hi,Option.map_some,Option.some.injEq,Prod.mk.injEq]at h
  exact⟨i,rfl,h.1,h.2.1,h.2.2⟩
theorem aLm:aAQ Tryz.prog 55 true [.u32,.u32,.u32]:=by
 have u34:=Tryz.underlying34
 have a34:=Tryz.isAgg34
 have z34:=Tryz.sizeOf34
 have hp:Tryz.prog.stoodInHeld 55=false:=by kernel_rfl
 refine⟨fun w as1 bs1 h1 h2=>?_,fun w em as1 h1=>?_,fun _=>by kernel_rfl,(fun h=>by cases h),_,Tryz.underlying55,.inr fun as1 bs1 h1 h2=>by simp[mkV,Instr.sameNow]⟩
 ·match as1,bs1,h1,h2 with
  |[x0,x1,x2],[y0,y1,y2],_,_=>
   have hS:Tryz.prog.underlying 55=some (.struct (Tryz.prog.fieldsOf 55)):=by kernel_rfl
   simp only[mkV,mkC,if_true]
   unfold Op.equal Op.maxDepth
   rw[show(10000:Nat)=9999+1 from rfl,run_equalIn_agg w 9999 55 _ _ hS hp]
   simp only[Program.fieldsOf,Tryz.underlying55]
   go_simp
   by_cases e0:x0=y0<;>by_cases e1:x1=y1<;>by_cases e2:x2=y2<;>simp[e0,e1,e2]
 ·match as1,h1 with
  |[x0,x1,x2],_=>
   simp only[mkV,mkC,if_true]
   unfold Instr.checkKey
   simp only[Sem.run_bind,run_underlying Tryz.underlying55,Result.andThen_ok]
   go_simp
   (try simp[nH u34])
theorem aLt:aAQ Tryz.prog 56 true [.u32,.u32,.u32]:=by
 have u34:=Tryz.underlying34
 have a34:=Tryz.isAgg34
 have z34:=Tryz.sizeOf34
 have hp:Tryz.prog.stoodInHeld 56=false:=by kernel_rfl
 refine⟨fun w as1 bs1 h1 h2=>?_,fun w em as1 h1=>?_,fun _=>by kernel_rfl,(fun h=>by cases h),_,Tryz.underlying56,.inr fun as1 bs1 h1 h2=>by simp[mkV,Instr.sameNow]⟩
 ·match as1,bs1,h1,h2 with
  |[x0,x1,x2],[y0,y1,y2],_,_=>
   have hS:Tryz.prog.underlying 56=some (.struct (Tryz.prog.fieldsOf 56)):=by kernel_rfl
   simp only[mkV,mkC,if_true]
   unfold Op.equal Op.maxDepth
   rw[show(10000:Nat)=9999+1 from rfl,run_equalIn_agg w 9999 56 _ _ hS hp]
   simp only[Program.fieldsOf,Tryz.underlying56]
   go_simp
   by_cases e0:x0=y0<;>by_cases e1:x1=y1<;>by_cases e2:x2=y2<;>simp[e0,e1,e2]
 ·match as1,h1 with
  |[x0,x1,x2],_=>
   simp only[mkV,mkC,if_true]
   unfold Instr.checkKey
   simp only[Sem.run_bind,run_underlying Tryz.underlying56,Result.andThen_ok]
   go_simp
   (try simp[nH u34])
theorem aMl:aAQ Tryz.prog 73 true [.u32,.u32]:=aHm Tryz.underlying73 Tryz.underlying34 Tryz.isAgg34 Tryz.sizeOf34 (by kernel_rfl) (by kernel_rfl)
theorem aIJ:aAQ Tryz.prog 120 true [.u64,.u64]:=by
 have u116:=Tryz.underlying116
 have a116:=Tryz.isAgg116
 have z116:=Tryz.sizeOf116
 have hp:Tryz.prog.stoodInHeld 120=false:=by kernel_rfl
 refine⟨fun w as1 bs1 h1 h2=>?_,fun w em as1 h1=>?_,fun _=>by kernel_rfl,(fun h=>by cases h),_,Tryz.underlying120,.inr fun as1 bs1 h1 h2=>by simp[mkV,Instr.sameNow]⟩
 ·match as1,bs1,h1,h2 with
  |[x0,x1],[y0,y1],_,_=>
   have hS:Tryz.prog.underlying 120=some (.struct (Tryz.prog.fieldsOf 120)):=by kernel_rfl
   simp only[mkV,mkC,if_true]
   unfold Op.equal Op.maxDepth
   rw[show(10000:Nat)=9999+1 from rfl,run_equalIn_agg w 9999 120 _ _ hS hp]
   simp only[Program.fieldsOf,Tryz.underlying120]
   go_simp
   by_cases e0:x0=y0<;>by_cases e1:x1=y1<;>simp[e0,e1]
 ·match as1,h1 with
  |[x0,x1],_=>
   simp only[mkV,mkC,if_true]
   unfold Instr.checkKey
   simp only[Sem.run_bind,run_underlying Tryz.underlying120,Result.andThen_ok]
   go_simp
   (try simp[nH u116])
theorem aJf:aAQ Tryz.prog 121 true [.u64,.u64]:=by
 have u116:=Tryz.underlying116
 have a116:=Tryz.isAgg116
 have z116:=Tryz.sizeOf116
 have hp:Tryz.prog.stoodInHeld 121=false:=by kernel_rfl
 refine⟨fun w as1 bs1 h1 h2=>?_,fun w em as1 h1=>?_,fun _=>by kernel_rfl,(fun h=>by cases h),_,Tryz.underlying121,.inr fun as1 bs1 h1 h2=>by simp[mkV,Instr.sameNow]⟩
 ·match as1,bs1,h1,h2 with
  |[x0,x1],[y0,y1],_,_=>
   have hS:Tryz.prog.underlying 121=some (.struct (Tryz.prog.fieldsOf 121)):=by kernel_rfl
   simp only[mkV,mkC,if_true]
   unfold Op.equal Op.maxDepth
   rw[show(10000:Nat)=9999+1 from rfl,run_equalIn_agg w 9999 121 _ _ hS hp]
   simp only[Program.fieldsOf,Tryz.underlying121]
   go_simp
   by_cases e0:x0=y0<;>by_cases e1:x1=y1<;>simp[e0,e1]
 ·match as1,h1 with
  |[x0,x1],_=>
   simp only[mkV,mkC,if_true]
   unfold Instr.checkKey
   simp only[Sem.run_bind,run_underlying Tryz.underlying121,Result.andThen_ok]
   go_simp
   (try simp[nH u116])
theorem aMi:aX Tryz.prog 3 R3:=⟨Tryz.isAgg3,aL (z:=.int .i64 0) (by kernel_rfl),rfl,fun _=>rfl,rfl,Tryz.underlying3,(fun ks h=>by injection h with h;subst h;exact fA Tryz.underlying3)⟩
theorem aML:aX Tryz.prog 4 R4:=⟨Tryz.isAgg4,aL (z:=.bool false) (by kernel_rfl),rfl,fun _=>rfl,rfl,Tryz.underlying4,(fun ks h=>by cases h)⟩
theorem aNc:aX Tryz.prog 5 R5:=⟨Tryz.isAgg5,aL (z:=.int .u8 0) (by kernel_rfl),rfl,fun _=>rfl,rfl,Tryz.underlying5,(fun ks h=>by injection h with h;subst h;exact fA Tryz.underlying5)⟩
theorem aNk:aX Tryz.prog 9 R9:=⟨Tryz.isAgg9,aL (z:=.string ⟨#[]⟩) (by kernel_rfl),rfl,fun _=>rfl,rfl,Tryz.underlying9,(fun ks h=>by cases h)⟩
theorem aKd:aX Tryz.prog 22 R22:=⟨Tryz.isAgg22,aL (z:=.slice none 0 0) (by kernel_rfl),rfl,fun _=>rfl,rfl,Tryz.underlying22,(fun ks h=>by cases h)⟩
theorem aKL:aX Tryz.prog 23 R23:=⟨Tryz.isAgg23,aL (z:=.slice none 0 0) (by kernel_rfl),rfl,fun _=>rfl,rfl,Tryz.underlying23,(fun ks h=>by cases h)⟩
theorem aJT:aX Tryz.prog 24 R24:=⟨Tryz.isAgg24,aL (z:=.agg #[.slice none 0 0,.slice none 0 0]) (by kernel_rfl),rfl,(fun h=>by cases h),rfl,⟨_,Tryz.underlying24,rfl⟩,(fun ks h=>by cases h)⟩
theorem aKq:aX Tryz.prog 25 R25:=⟨Tryz.isAgg25,aL (z:=.agg #[.slice none 0 0,.slice none 0 0]) (by kernel_rfl),rfl,(fun h=>by cases h),rfl,⟨_,Tryz.underlying25,rfl⟩,(fun ks h=>by cases h)⟩
theorem aKF:aX Tryz.prog 28 R28:=⟨Tryz.isAgg28,aL (z:=.int .i64 0) (by kernel_rfl),rfl,fun _=>rfl,rfl,Tryz.underlying28,(fun ks h=>by injection h with h;subst h;exact fA Tryz.underlying28)⟩
theorem aIv:aX Tryz.prog 29 R29:=⟨Tryz.isAgg29,aL (z:=.slice none 0 0) (by kernel_rfl),rfl,fun _=>rfl,rfl,Tryz.underlying29,(fun ks h=>by cases h)⟩
theorem aKo:aX Tryz.prog 30 R30:=⟨Tryz.isAgg30,aL (z:=.agg #[.int .i64 0,.slice none 0 0,.slice none 0 0]) (by kernel_rfl),rfl,(fun h=>by cases h),rfl,⟨_,Tryz.underlying30,rfl⟩,(fun ks h=>by cases h)⟩
theorem aIz:aX Tryz.prog 31 R31:=⟨Tryz.isAgg31,aL (z:=.agg #[.int .i64 0,.slice none 0 0,.slice none 0 0]) (by kernel_rfl),rfl,(fun h=>by cases h),rfl,⟨_,Tryz.underlying31,rfl⟩,(fun ks h=>by cases h)⟩
theorem aIU:aX Tryz.prog 34 R34:=⟨Tryz.isAgg34,aL (z:=.int .u32 0) (by kernel_rfl),rfl,fun _=>rfl,rfl,Tryz.underlying34,(fun ks h=>by injection h with h;subst h;exact fA Tryz.underlying34)⟩
theorem aIB:aX Tryz.prog 38 R38:=⟨Tryz.isAgg38,aL (z:=.agg #[.slice none 0 0,.slice none 0 0,.slice none 0 0]) (by kernel_rfl),rfl,(fun h=>by cases h),rfl,⟨_,Tryz.underlying38,rfl⟩,(fun ks h=>by cases h)⟩
theorem aJY:aX Tryz.prog 39 R39:=⟨Tryz.isAgg39,aL (z:=.agg #[.slice none 0 0,.slice none 0 0,.slice none 0 0]) (by kernel_rfl),rfl,(fun h=>by cases h),rfl,⟨_,Tryz.underlying39,rfl⟩,(fun ks h=>by cases h)⟩
theorem aJj:aX Tryz.prog 40 R40:=⟨Tryz.isAgg40,aL (z:=.int .i64 0) (by kernel_rfl),rfl,fun _=>rfl,rfl,Tryz.underlying40,(fun ks h=>by injection h with h;subst h;exact fA Tryz.underlying40)⟩
theorem aJu:aX Tryz.prog 49 R49:=⟨Tryz.isAgg49,aL (z:=.map none) (by kernel_rfl),rfl,fun _=>rfl,rfl,Tryz.underlying49,(fun ks h=>by cases h)⟩
theorem aJk:aX Tryz.prog 55 R55:=⟨Tryz.isAgg55,aL (z:=.agg #[.int .u32 0,.int .u32 0,.int .u32 0]) (by kernel_rfl),rfl,(fun h=>by cases h),rfl,⟨_,Tryz.underlying55,rfl⟩,(fun ks h=>by injection h with h;subst h;exact aLm)⟩
theorem aJa:aX Tryz.prog 56 R56:=⟨Tryz.isAgg56,aL (z:=.agg #[.int .u32 0,.int .u32 0,.int .u32 0]) (by kernel_rfl),rfl,(fun h=>by cases h),rfl,⟨_,Tryz.underlying56,rfl⟩,(fun ks h=>by injection h with h;subst h;exact aLt)⟩
theorem aIG:aX Tryz.prog 59 R59:=⟨Tryz.isAgg59,aL (z:=.map none) (by kernel_rfl),rfl,fun _=>rfl,rfl,Tryz.underlying59,(fun ks h=>by cases h)⟩
theorem aKP:aX Tryz.prog 60 R60:=⟨Tryz.isAgg60,aL (z:=.map none) (by kernel_rfl),rfl,fun _=>rfl,rfl,Tryz.underlying60,(fun ks h=>by cases h)⟩
theorem aKb:aX Tryz.prog 61 R61:=⟨Tryz.isAgg61,aL (z:=.agg #[.map none,.map none]) (by kernel_rfl),rfl,(fun h=>by cases h),rfl,⟨_,Tryz.underlying61,rfl⟩,(fun ks h=>by cases h)⟩
theorem aJP:aX Tryz.prog 62 R62:=⟨Tryz.isAgg62,aL (z:=.agg #[.map none,.map none]) (by kernel_rfl),rfl,(fun h=>by cases h),rfl,⟨_,Tryz.underlying62,rfl⟩,(fun ks h=>by cases h)⟩
theorem aII:aX Tryz.prog 65 R65:=⟨Tryz.isAgg65,aL (z:=.map none) (by kernel_rfl),rfl,fun _=>rfl,rfl,Tryz.underlying65,(fun ks h=>by cases h)⟩
theorem aJJ:aX Tryz.prog 72 R72:=⟨Tryz.isAgg72,aL (z:=.map none) (by kernel_rfl),rfl,fun _=>rfl,rfl,Tryz.underlying72,(fun ks h=>by cases h)⟩
theorem aKJ:aX Tryz.prog 73 R73:=⟨Tryz.isAgg73,aL (z:=.agg #[.int .u32 0,.int .u32 0]) (by kernel_rfl),rfl,(fun h=>by cases h),rfl,Tryz.underlying73,(fun ks h=>by injection h with h;subst h;exact aMl)⟩
theorem aKv:aX Tryz.prog 77 R77:=⟨Tryz.isAgg77,aL (z:=.slice none 0 0) (by kernel_rfl),rfl,fun _=>rfl,rfl,Tryz.underlying77,(fun ks h=>by cases h)⟩
theorem aJZ:aX Tryz.prog 80 R80:=⟨Tryz.isAgg80,aL (z:=.map none) (by kernel_rfl),rfl,fun _=>rfl,rfl,Tryz.underlying80,(fun ks h=>by cases h)⟩
theorem aJI:aX Tryz.prog 93 R93:=⟨Tryz.isAgg93,aL (z:=.map none) (by kernel_rfl),rfl,fun _=>rfl,rfl,Tryz.underlying93,(fun ks h=>by cases h)⟩
theorem aIN:aX Tryz.prog 94 R94:=⟨Tryz.isAgg94,aL (z:=.agg #[]) (by kernel_rfl),rfl,(fun h=>by cases h),rfl,⟨_,Tryz.underlying94,rfl⟩,(fun ks h=>by cases h)⟩
theorem aIo:aX Tryz.prog 96 R96:=⟨Tryz.isAgg96,aL (z:=.int .u64 0) (by kernel_rfl),rfl,fun _=>rfl,rfl,Tryz.underlying96,(fun ks h=>by injection h with h;subst h;exact fA Tryz.underlying96)⟩
theorem aKc:aX Tryz.prog 97 R97:=⟨Tryz.isAgg97,aL (z:=.map none) (by kernel_rfl),rfl,fun _=>rfl,rfl,Tryz.underlying97,(fun ks h=>by cases h)⟩
theorem aGs:aX Tryz.prog 104 aQg:=⟨Tryz.isAgg104,aL (z:=.pointer none) (by kernel_rfl),rfl,fun _=>rfl,rfl,Tryz.underlying104,(fun ks h=>by cases h)⟩
theorem aGF:aX Tryz.prog 105 aQh:=⟨Tryz.isAgg105,aL (z:=.map none) (by kernel_rfl),rfl,fun _=>rfl,rfl,Tryz.underlying105,(fun ks h=>by cases h)⟩
theorem aHl:aX Tryz.prog 106 aQj:=⟨Tryz.isAgg106,aL (z:=.slice none 0 0) (by kernel_rfl),rfl,fun _=>rfl,rfl,Tryz.underlying106,(fun ks h=>by cases h)⟩
theorem aHC:aX Tryz.prog 107 aQa:=⟨Tryz.isAgg107,aL (z:=.agg #[.slice none 0 0,.map none,.map none,.map none,.slice none 0 0,.slice none 0 0]) (by kernel_rfl),rfl,(fun h=>by cases h),rfl,⟨_,Tryz.underlying107,rfl⟩,(fun ks h=>by cases h)⟩
theorem aGE:aX Tryz.prog 108 aPF:=⟨Tryz.isAgg108,aL (z:=.agg #[.slice none 0 0,.map none,.map none,.map none,.slice none 0 0,.slice none 0 0]) (by kernel_rfl),rfl,(fun h=>by cases h),rfl,⟨_,Tryz.underlying108,rfl⟩,(fun ks h=>by cases h)⟩
theorem aHw:aX Tryz.prog 113 aPr:=⟨Tryz.isAgg113,aL (z:=.pointer none) (by kernel_rfl),rfl,fun _=>rfl,rfl,Tryz.underlying113,(fun ks h=>by cases h)⟩
theorem aIi:aX Tryz.prog 115 aQr:=⟨Tryz.isAgg115,aL (z:=.slice none 0 0) (by kernel_rfl),rfl,fun _=>rfl,rfl,Tryz.underlying115,(fun ks h=>by cases h)⟩
theorem aIa:aX Tryz.prog 116 aQs:=⟨Tryz.isAgg116,aL (z:=.int .u64 0) (by kernel_rfl),rfl,fun _=>rfl,rfl,Tryz.underlying116,(fun ks h=>by injection h with h;subst h;exact fA Tryz.underlying116)⟩
theorem aIe:aX Tryz.prog 117 aPY:=⟨Tryz.isAgg117,aL (z:=.slice none 0 0) (by kernel_rfl),rfl,fun _=>rfl,rfl,Tryz.underlying117,(fun ks h=>by cases h)⟩
theorem aGX:aX Tryz.prog 118 aPM:=⟨Tryz.isAgg118,aL (z:=.agg #[.slice none 0 0,.slice none 0 0,.slice none 0 0,.map none,.map none,.int .u64 0,.slice none 0 0]) (by kernel_rfl),rfl,(fun h=>by cases h),rfl,⟨_,Tryz.underlying118,rfl⟩,(fun ks h=>by cases h)⟩
theorem aHS:aX Tryz.prog 119 aQl:=⟨Tryz.isAgg119,aL (z:=.agg #[.slice none 0 0,.slice none 0 0,.slice none 0 0,.map none,.map none,.int .u64 0,.slice none 0 0]) (by kernel_rfl),rfl,(fun h=>by cases h),rfl,⟨_,Tryz.underlying119,rfl⟩,(fun ks h=>by cases h)⟩
theorem aGS:aX Tryz.prog 120 aPA:=⟨Tryz.isAgg120,aL (z:=.agg #[.int .u64 0,.int .u64 0]) (by kernel_rfl),rfl,(fun h=>by cases h),rfl,⟨_,Tryz.underlying120,rfl⟩,(fun ks h=>by injection h with h;subst h;exact aIJ)⟩
theorem aGM:aX Tryz.prog 121 aPK:=⟨Tryz.isAgg121,aL (z:=.agg #[.int .u64 0,.int .u64 0]) (by kernel_rfl),rfl,(fun h=>by cases h),rfl,⟨_,Tryz.underlying121,rfl⟩,(fun ks h=>by injection h with h;subst h;exact aJf)⟩
theorem aHK:aX Tryz.prog 126 aQo:=⟨Tryz.isAgg126,aL (z:=.agg #[.slice none 0 0,.int .u64 0]) (by kernel_rfl),rfl,(fun h=>by cases h),rfl,⟨_,Tryz.underlying126,rfl⟩,(fun ks h=>by cases h)⟩
theorem aHp:aX Tryz.prog 127 aPk:=⟨Tryz.isAgg127,aL (z:=.agg #[.slice none 0 0,.int .u64 0]) (by kernel_rfl),rfl,(fun h=>by cases h),rfl,⟨_,Tryz.underlying127,rfl⟩,(fun ks h=>by cases h)⟩
theorem aGT:aX Tryz.prog 129 aQt:=⟨Tryz.isAgg129,aL (z:=.nilFunc) (by kernel_rfl),rfl,fun _=>rfl,rfl,⟨_,_,_,Tryz.underlying129⟩,(fun ks h=>by cases h)⟩
theorem aHH:aX Tryz.prog 140 aPL:=⟨Tryz.isAgg140,aL (z:=.nilFunc) (by kernel_rfl),rfl,fun _=>rfl,rfl,⟨_,_,_,Tryz.underlying140⟩,(fun ks h=>by cases h)⟩
theorem aHL:aX Tryz.prog 148 aPN:=⟨Tryz.isAgg148,aL (z:=.nilFunc) (by kernel_rfl),rfl,fun _=>rfl,rfl,⟨_,_,_,Tryz.underlying148⟩,(fun ks h=>by cases h)⟩
theorem aIh:aX Tryz.prog 154 aPX:=⟨Tryz.isAgg154,aL (z:=.slice none 0 0) (by kernel_rfl),rfl,fun _=>rfl,rfl,Tryz.underlying154,(fun ks h=>by cases h)⟩
theorem aIf:aX Tryz.prog 165 aQv:=⟨Tryz.isAgg165,aL (z:=.int .i64 0) (by kernel_rfl),rfl,fun _=>rfl,rfl,Tryz.underlying165,(fun ks h=>by injection h with h;subst h;exact fA Tryz.underlying165)⟩
theorem aHg:aX Tryz.prog 189 aPm:=⟨Tryz.isAgg189,aL (z:=.agg #[.int .u8 0,.int .u8 0,.int .u8 0,.int .u8 0,.int .u8 0,.int .u8 0,.int .u8 0,.int .u8 0,.int .u8 0,.int .u8 0,.int .u8 0,.int .u8 0,.int .u8 0,.int .u8 0,.int .u8 0,.int .u8 0,.int .u8 0,.int .u8 0,.int .u8 0,.int .u8 0,.int .u8 0,.int .u8 0,.int .u8 0,.int .u8 0,.int .u8 0,.int .u8 0,.int .u8 0,.int .u8 0,.int .u8 0,.int .u8 0,.int .u8 0,.int .u8 0,.int .u8 0,.int .u8 0,.int .u8 0,.int .u8 0,.int .u8 0,.int .u8 0,.int .u8 0,.int .u8 0,.int .u8 0,.int .u8 0,.int .u8 0,.int .u8 0,.int .u8 0,.int .u8 0,.int .u8 0,.int .u8 0,.int .u8 0,.int .u8 0,.int .u8 0,.int .u8 0,.int .u8 0,.int .u8 0,.int .u8 0,.int .u8 0,.int .u8 0,.int .u8 0,.int .u8 0,.int .u8 0,.int .u8 0,.int .u8 0,.int .u8 0,.int .u8 0]) (by kernel_rfl),rfl,(fun h=>by cases h),rfl,Tryz.underlying189,(fun ks h=>by cases h)⟩
theorem aHb:aX Tryz.prog 196 aPt:=⟨Tryz.isAgg196,aL (z:=.map none) (by kernel_rfl),rfl,fun _=>rfl,rfl,Tryz.underlying196,(fun ks h=>by cases h)⟩
theorem aHd:aX Tryz.prog 199 aQd:=⟨Tryz.isAgg199,aL (z:=.int .u64 0) (by kernel_rfl),rfl,fun _=>rfl,rfl,Tryz.underlying199,(fun ks h=>by injection h with h;subst h;exact fA Tryz.underlying199)⟩
theorem aHx:aX Tryz.prog 203 aPz:=⟨Tryz.isAgg203,aL (z:=.pointer none) (by kernel_rfl),rfl,fun _=>rfl,rfl,Tryz.underlying203,(fun ks h=>by cases h)⟩
theorem aHz:aX Tryz.prog 212 aQp:=⟨Tryz.isAgg212,aL (z:=.pointer none) (by kernel_rfl),rfl,fun _=>rfl,rfl,Tryz.underlying212,(fun ks h=>by cases h)⟩
theorem aF:bC Tryz.prog tab:=aDm aPw ⟨aMi,aML,aNc,aNk,aKd,aKL,aJT,aKq,aKF,aIv,aKo,aIz,aIU,aIB,aJY,aJj,aJu,aJk,aJa,aIG,aKP,aKb,aJP,aII,aJJ,aKJ,aKv,aJZ,aJI,aIN,aIo,aKc,aGs,aGF,aHl,aHC,aGE,aHw,aIi,aIa,aIe,aGX,aHS,aGS,aGM,aHK,aHp,aGT,aHH,aHL,aIh,aIf,aHg,aHb,aHd,aHx,aHz,trivial⟩
end Go.Proofs.YtempldclppogmaaGreatDoor.Aw
