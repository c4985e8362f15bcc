/- The types of this seat's translation, as a table, and that the loaded program has them so. Written by a program (gentab.py). -/
import Derived.Test.YtempldclppogmaaGreatDoorAwDraw
import Derived.Test.YtempldclppogmaaGreatDoorAwArr
import Derived.Test.YtempldclppogmaaGreatDoorProg
import Derived.KernelRfl
import Derived.Tactics
import Derived.Laws.StructEq
set_option linter.unusedVariables false
set_option linter.unusedSimpArgs false
namespace Go.Proofs.YtempldclppogmaaGreatDoor.Aw
open Go Go.RowKit
def R3:bG:={ agg:=false,size:=1,bytes:=8,zero:=[.int .i64 0],d:=.int .i64,ck:=some [.i64] }
def R4:bG:={ agg:=false,size:=1,bytes:=1,zero:=[.bool false],d:=.bool }
def R5:bG:={ agg:=false,size:=1,bytes:=1,zero:=[.int .u8 0],d:=.int .u8,ck:=some [.u8] }
def R9:bG:={ agg:=false,size:=1,bytes:=16,zero:=[.string ⟨#[]⟩],d:=.str }
def R22:bG:={ agg:=false,size:=1,bytes:=24,zero:=[.slice none 0 0],d:=.slice 34 }
def R23:bG:={ agg:=false,size:=1,bytes:=24,zero:=[.slice none 0 0],d:=.slice 56 }
def R24:bG:={ agg:=true,size:=2,bytes:=48,zero:=[.slice none 0 0,.slice none 0 0],d:=.struct [(0,22),(1,23)] }
def R25:bG:={ agg:=true,size:=2,bytes:=48,zero:=[.slice none 0 0,.slice none 0 0],d:=.struct [(0,22),(1,23)] }
def R28:bG:={ agg:=false,size:=1,bytes:=8,zero:=[.int .i64 0],d:=.int .i64,ck:=some [.i64] }
def R29:bG:={ agg:=false,size:=1,bytes:=24,zero:=[.slice none 0 0],d:=.slice 22 }
def R30:bG:={ agg:=true,size:=3,bytes:=56,zero:=[.int .i64 0,.slice none 0 0,.slice none 0 0],d:=.struct [(0,28),(1,22),(2,29)] }
def R31:bG:={ agg:=true,size:=3,bytes:=56,zero:=[.int .i64 0,.slice none 0 0,.slice none 0 0],d:=.struct [(0,28),(1,22),(2,29)] }
def R34:bG:={ agg:=false,size:=1,bytes:=4,zero:=[.int .u32 0],d:=.int .u32,ck:=some [.u32] }
def R38:bG:={ agg:=true,size:=3,bytes:=72,zero:=[.slice none 0 0,.slice none 0 0,.slice none 0 0],d:=.struct [(0,25),(2,29)] }
def R39:bG:={ agg:=true,size:=3,bytes:=72,zero:=[.slice none 0 0,.slice none 0 0,.slice none 0 0],d:=.struct [(0,25),(2,29)] }
def R40:bG:={ agg:=false,size:=1,bytes:=8,zero:=[.int .i64 0],d:=.int .i64,ck:=some [.i64] }
def R49:bG:={ agg:=false,size:=1,bytes:=8,zero:=[.map none],d:=.map 34 3 }
def R55:bG:={ agg:=true,size:=3,bytes:=12,zero:=[.int .u32 0,.int .u32 0,.int .u32 0],d:=.struct [(0,34),(1,34),(2,34)],ck:=some [.u32,.u32,.u32] }
def R56:bG:={ agg:=true,size:=3,bytes:=12,zero:=[.int .u32 0,.int .u32 0,.int .u32 0],d:=.struct [(0,34),(1,34),(2,34)],ck:=some [.u32,.u32,.u32] }
def R59:bG:={ agg:=false,size:=1,bytes:=8,zero:=[.map none],d:=.map 34 22 }
def R60:bG:={ agg:=false,size:=1,bytes:=8,zero:=[.map none],d:=.map 34 34 }
def R61:bG:={ agg:=true,size:=2,bytes:=16,zero:=[.map none,.map none],d:=.struct [(0,59),(1,60)] }
def R62:bG:={ agg:=true,size:=2,bytes:=16,zero:=[.map none,.map none],d:=.struct [(0,59),(1,60)] }
def R65:bG:={ agg:=false,size:=1,bytes:=8,zero:=[.map none],d:=.map 3 3 }
def R72:bG:={ agg:=false,size:=1,bytes:=8,zero:=[.map none],d:=.map 73 23 }
def R73:bG:={ agg:=true,size:=2,bytes:=8,zero:=[.int .u32 0,.int .u32 0],d:=.arr 2 34,ck:=some [.u32,.u32] }
def R77:bG:={ agg:=false,size:=1,bytes:=24,zero:=[.slice none 0 0],d:=.slice 23 }
def R80:bG:={ agg:=false,size:=1,bytes:=8,zero:=[.map none],d:=.map 34 60 }
def R93:bG:={ agg:=false,size:=1,bytes:=8,zero:=[.map none],d:=.map 3 94 }
def R94:bG:={ agg:=true,size:=0,bytes:=0,zero:=[],d:=.struct [] }
def R96:bG:={ agg:=false,size:=1,bytes:=8,zero:=[.int .u64 0],d:=.int .u64,ck:=some [.u64] }
def R97:bG:={ agg:=false,size:=1,bytes:=8,zero:=[.map none],d:=.map 73 3 }
def aQd:bG:={ agg:=false,size:=1,bytes:=8,zero:=[.pointer none],d:=.ptr 108 }
def aPV:bG:={ agg:=false,size:=1,bytes:=8,zero:=[.map none],d:=.map 34 106 }
def aQz:bG:={ agg:=false,size:=1,bytes:=24,zero:=[.slice none 0 0],d:=.slice 3 }
def aPZ:bG:={ agg:=true,size:=6,bytes:=96,zero:=[.slice none 0 0,.map none,.map none,.map none,.slice none 0 0,.slice none 0 0],d:=.struct [(0,23),(1,105),(2,49),(3,49),(4,106),(5,77)] }
def aQv:bG:={ agg:=true,size:=6,bytes:=96,zero:=[.slice none 0 0,.map none,.map none,.map none,.slice none 0 0,.slice none 0 0],d:=.struct [(0,23),(1,105),(2,49),(3,49),(4,106),(5,77)] }
def aPW:bG:={ agg:=false,size:=1,bytes:=8,zero:=[.pointer none],d:=.ptr 119 }
def aPB:bG:={ agg:=false,size:=1,bytes:=24,zero:=[.slice none 0 0],d:=.slice 116 }
def aPx:bG:={ agg:=false,size:=1,bytes:=8,zero:=[.int .u64 0],d:=.int .u64,ck:=some [.u64] }
def aPr:bG:={ agg:=false,size:=1,bytes:=24,zero:=[.slice none 0 0],d:=.slice 127 }
def aQB:bG:={ agg:=true,size:=7,bytes:=120,zero:=[.slice none 0 0,.slice none 0 0,.slice none 0 0,.map none,.map none,.int .u64 0,.slice none 0 0],d:=.struct [(0,25),(2,115),(3,49),(4,97),(5,116),(6,117)] }
def aPO:bG:={ agg:=true,size:=7,bytes:=120,zero:=[.slice none 0 0,.slice none 0 0,.slice none 0 0,.map none,.map none,.int .u64 0,.slice none 0 0],d:=.struct [(0,25),(2,115),(3,49),(4,97),(5,116),(6,117)] }
def aPQ:bG:={ agg:=true,size:=2,bytes:=16,zero:=[.int .u64 0,.int .u64 0],d:=.struct [(0,116),(1,116)],ck:=some [.u64,.u64] }
def aPq:bG:={ agg:=true,size:=2,bytes:=16,zero:=[.int .u64 0,.int .u64 0],d:=.struct [(0,116),(1,116)],ck:=some [.u64,.u64] }
def aQw:bG:={ agg:=true,size:=2,bytes:=32,zero:=[.slice none 0 0,.int .u64 0],d:=.struct [(0,22),(1,116)] }
def aQl:bG:={ agg:=true,size:=2,bytes:=32,zero:=[.slice none 0 0,.int .u64 0],d:=.struct [(0,22),(1,116)] }
def aPX:bG:={ agg:=false,size:=1,bytes:=8,zero:=[.nilFunc],d:=.func }
def aPK:bG:={ agg:=false,size:=1,bytes:=8,zero:=[.nilFunc],d:=.func }
def aPR:bG:={ agg:=false,size:=1,bytes:=8,zero:=[.nilFunc],d:=.func }
def aPM:bG:={ agg:=false,size:=1,bytes:=24,zero:=[.slice none 0 0],d:=.slice 121 }
def aPN:bG:={ agg:=false,size:=1,bytes:=8,zero:=[.int .i64 0],d:=.int .i64,ck:=some [.i64] }
def aQn:bG:={ agg:=true,size:=64,bytes:=64,zero:=(List.replicate 64 (.int .u8 0)),d:=.arr 64 5 }
def aPP:bG:={ agg:=false,size:=1,bytes:=8,zero:=[.map none],d:=.map 34 4 }
def aPA:bG:={ agg:=false,size:=1,bytes:=8,zero:=[.int .u64 0],d:=.int .u64,ck:=some [.u64] }
def aPC:bG:={ agg:=false,size:=1,bytes:=8,zero:=[.pointer none],d:=.ptr 3 }
def aPI:bG:={ agg:=false,size:=1,bytes:=8,zero:=[.pointer none],d:=.ptr 199 }
def aPE:List (Nat×bG):=[(3,R3),(4,R4),(5,R5),(9,R9),(22,R22),(23,R23),(24,R24),(25,R25),(28,R28),(29,R29),(30,R30),(31,R31),(34,R34),(38,R38),(39,R39),(40,R40),(49,R49),(55,R55),(56,R56),(59,R59),(60,R60),(61,R61),(62,R62),(65,R65),(72,R72),(73,R73),(77,R77),(80,R80),(93,R93),(94,R94),(96,R96),(97,R97),(104,aQd),(105,aPV),(106,aQz),(107,aPZ),(108,aQv),(113,aPW),(115,aPB),(116,aPx),(117,aPr),(118,aQB),(119,aPO),(120,aPQ),(121,aPq),(126,aQw),(127,aQl),(129,aPX),(140,aPK),(148,aPR),(154,aPM),(165,aPN),(189,aQn),(196,aPP),(199,aPA),(203,aPC),(212,aPI)]
def tab:Tab:=aDF aPE
@[simp] theorem aSf:tab 3=some { agg:=false,size:=1,bytes:=8,zero:=[.int .i64 0],d:=.int .i64,ck:=some [.i64] }:=rfl
@[simp] theorem aSg:tab 4=some { agg:=false,size:=1,bytes:=1,zero:=[.bool false],d:=.bool }:=rfl
@[simp] theorem aSd:tab 5=some { agg:=false,size:=1,bytes:=1,zero:=[.int .u8 0],d:=.int .u8,ck:=some [.u8] }:=rfl
@[simp] theorem aSe:tab 9=some { agg:=false,size:=1,bytes:=16,zero:=[.string ⟨#[]⟩],d:=.str }:=rfl
@[simp] theorem aSb:tab 22=some { agg:=false,size:=1,bytes:=24,zero:=[.slice none 0 0],d:=.slice 34 }:=rfl
@[simp] theorem aRZ:tab 23=some { agg:=false,size:=1,bytes:=24,zero:=[.slice none 0 0],d:=.slice 56 }:=rfl
@[simp] theorem aRB:tab 24=some { agg:=true,size:=2,bytes:=48,zero:=[.slice none 0 0,.slice none 0 0],d:=.struct [(0,22),(1,23)] }:=rfl
@[simp] theorem aRI:tab 25=some { agg:=true,size:=2,bytes:=48,zero:=[.slice none 0 0,.slice none 0 0],d:=.struct [(0,22),(1,23)] }:=rfl
@[simp] theorem aRA:tab 28=some { agg:=false,size:=1,bytes:=8,zero:=[.int .i64 0],d:=.int .i64,ck:=some [.i64] }:=rfl
@[simp] theorem aRy:tab 29=some { agg:=false,size:=1,bytes:=24,zero:=[.slice none 0 0],d:=.slice 22 }:=rfl
@[simp] theorem aRz:tab 30=some { agg:=true,size:=3,bytes:=56,zero:=[.int .i64 0,.slice none 0 0,.slice none 0 0],d:=.struct [(0,28),(1,22),(2,29)] }:=rfl
@[simp] theorem aRd:tab 31=some { agg:=true,size:=3,bytes:=56,zero:=[.int .i64 0,.slice none 0 0,.slice none 0 0],d:=.struct [(0,28),(1,22),(2,29)] }:=rfl
@[simp] theorem aRD:tab 34=some { agg:=false,size:=1,bytes:=4,zero:=[.int .u32 0],d:=.int .u32,ck:=some [.u32] }:=rfl
@[simp] theorem aRQ:tab 38=some { agg:=true,size:=3,bytes:=72,zero:=[.slice none 0 0,.slice none 0 0,.slice none 0 0],d:=.struct [(0,25),(2,29)] }:=rfl
@[simp] theorem aRl:tab 39=some { agg:=true,size:=3,bytes:=72,zero:=[.slice none 0 0,.slice none 0 0,.slice none 0 0],d:=.struct [(0,25),(2,29)] }:=rfl
@[simp] theorem aRf:tab 40=some { agg:=false,size:=1,bytes:=8,zero:=[.int .i64 0],d:=.int .i64,ck:=some [.i64] }:=rfl
@[simp] theorem aRU:tab 49=some { agg:=false,size:=1,bytes:=8,zero:=[.map none],d:=.map 34 3 }:=rfl
@[simp] theorem aRH:tab 55=some { agg:=true,size:=3,bytes:=12,zero:=[.int .u32 0,.int .u32 0,.int .u32 0],d:=.struct [(0,34),(1,34),(2,34)],ck:=some [.u32,.u32,.u32] }:=rfl
@[simp] theorem aRG:tab 56=some { agg:=true,size:=3,bytes:=12,zero:=[.int .u32 0,.int .u32 0,.int .u32 0],d:=.struct [(0,34),(1,34),(2,34)],ck:=some [.u32,.u32,.u32] }:=rfl
@[simp] theorem aRS:tab 59=some { agg:=false,size:=1,bytes:=8,zero:=[.map none],d:=.map 34 22 }:=rfl
@[simp] theorem aRM:tab 60=some { agg:=false,size:=1,bytes:=8,zero:=[.map none],d:=.map 34 34 }:=rfl
@[simp] theorem aRg:tab 61=some { agg:=true,size:=2,bytes:=16,zero:=[.map none,.map none],d:=.struct [(0,59),(1,60)] }:=rfl
@[simp] theorem aRV:tab 62=some { agg:=true,size:=2,bytes:=16,zero:=[.map none,.map none],d:=.struct [(0,59),(1,60)] }:=rfl
@[simp] theorem aRR:tab 65=some { agg:=false,size:=1,bytes:=8,zero:=[.map none],d:=.map 3 3 }:=rfl
@[simp] theorem aRn:tab 72=some { agg:=false,size:=1,bytes:=8,zero:=[.map none],d:=.map 73 23 }:=rfl
@[simp] theorem aRJ:tab 73=some { agg:=true,size:=2,bytes:=8,zero:=[.int .u32 0,.int .u32 0],d:=.arr 2 34,ck:=some [.u32,.u32] }:=rfl
@[simp] theorem aRj:tab 77=some { agg:=false,size:=1,bytes:=24,zero:=[.slice none 0 0],d:=.slice 23 }:=rfl
@[simp] theorem aRt:tab 80=some { agg:=false,size:=1,bytes:=8,zero:=[.map none],d:=.map 34 60 }:=rfl
@[simp] theorem aRP:tab 93=some { agg:=false,size:=1,bytes:=8,zero:=[.map none],d:=.map 3 94 }:=rfl
@[simp] theorem aRx:tab 94=some { agg:=true,size:=0,bytes:=0,zero:=[],d:=.struct [] }:=rfl
@[simp] theorem aRL:tab 96=some { agg:=false,size:=1,bytes:=8,zero:=[.int .u64 0],d:=.int .u64,ck:=some [.u64] }:=rfl
@[simp] theorem aRe:tab 97=some { agg:=false,size:=1,bytes:=8,zero:=[.map none],d:=.map 73 3 }:=rfl
@[simp] theorem aQJ:tab 104=some { agg:=false,size:=1,bytes:=8,zero:=[.pointer none],d:=.ptr 108 }:=rfl
@[simp] theorem aQT:tab 105=some { agg:=false,size:=1,bytes:=8,zero:=[.map none],d:=.map 34 106 }:=rfl
@[simp] theorem aRc:tab 106=some { agg:=false,size:=1,bytes:=24,zero:=[.slice none 0 0],d:=.slice 3 }:=rfl
@[simp] theorem aQM:tab 107=some { agg:=true,size:=6,bytes:=96,zero:=[.slice none 0 0,.map none,.map none,.map none,.slice none 0 0,.slice none 0 0],d:=.struct [(0,23),(1,105),(2,49),(3,49),(4,106),(5,77)] }:=rfl
@[simp] theorem aQV:tab 108=some { agg:=true,size:=6,bytes:=96,zero:=[.slice none 0 0,.map none,.map none,.map none,.slice none 0 0,.slice none 0 0],d:=.struct [(0,23),(1,105),(2,49),(3,49),(4,106),(5,77)] }:=rfl
@[simp] theorem aQX:tab 113=some { agg:=false,size:=1,bytes:=8,zero:=[.pointer none],d:=.ptr 119 }:=rfl
@[simp] theorem aQF:tab 115=some { agg:=false,size:=1,bytes:=24,zero:=[.slice none 0 0],d:=.slice 116 }:=rfl
@[simp] theorem aQG:tab 116=some { agg:=false,size:=1,bytes:=8,zero:=[.int .u64 0],d:=.int .u64,ck:=some [.u64] }:=rfl
@[simp] theorem aRb:tab 117=some { agg:=false,size:=1,bytes:=24,zero:=[.slice none 0 0],d:=.slice 127 }:=rfl
@[simp] theorem aQK:tab 118=some { agg:=true,size:=7,bytes:=120,zero:=[.slice none 0 0,.slice none 0 0,.slice none 0 0,.map none,.map none,.int .u64 0,.slice none 0 0],d:=.struct [(0,25),(2,115),(3,49),(4,97),(5,116),(6,117)] }:=rfl
@[simp] theorem aQO:tab 119=some { agg:=true,size:=7,bytes:=120,zero:=[.slice none 0 0,.slice none 0 0,.slice none 0 0,.map none,.map none,.int .u64 0,.slice none 0 0],d:=.struct [(0,25),(2,115),(3,49),(4,97),(5,116),(6,117)] }:=rfl
@[simp] theorem aQP:tab 120=some { agg:=true,size:=2,bytes:=16,zero:=[.int .u64 0,.int .u64 0],d:=.struct [(0,116),(1,116)],ck:=some [.u64,.u64] }:=rfl
@[simp] theorem aQC:tab 121=some { agg:=true,size:=2,bytes:=16,zero:=[.int .u64 0,.int .u64 0],d:=.struct [(0,116),(1,116)],ck:=some [.u64,.u64] }:=rfl
@[simp] theorem aQZ:tab 126=some { agg:=true,size:=2,bytes:=32,zero:=[.slice none 0 0,.int .u64 0],d:=.struct [(0,22),(1,116)] }:=rfl
@[simp] theorem aQN:tab 127=some { agg:=true,size:=2,bytes:=32,zero:=[.slice none 0 0,.int .u64 0],d:=.struct [(0,22),(1,116)] }:=rfl
@[simp] theorem aQI:tab 129=some { agg:=false,size:=1,bytes:=8,zero:=[.nilFunc],d:=.func }:=rfl
@[simp] theorem aQQ:tab 140=some { agg:=false,size:=1,bytes:=8,zero:=[.nilFunc],d:=.func }:=rfl
@[simp] theorem aQL:tab 148=some { agg:=false,size:=1,bytes:=8,zero:=[.nilFunc],d:=.func }:=rfl
@[simp] theorem aQD:tab 154=some { agg:=false,size:=1,bytes:=24,zero:=[.slice none 0 0],d:=.slice 121 }:=rfl
@[simp] theorem aQS:tab 165=some { agg:=false,size:=1,bytes:=8,zero:=[.int .i64 0],d:=.int .i64,ck:=some [.i64] }:=rfl
@[simp] theorem aQE:tab 189=some { agg:=true,size:=64,bytes:=64,zero:=(List.replicate 64 (.int .u8 0)),d:=.arr 64 5 }:=rfl
@[simp] theorem aQW:tab 196=some { agg:=false,size:=1,bytes:=8,zero:=[.map none],d:=.map 34 4 }:=rfl
@[simp] theorem aQH:tab 199=some { agg:=false,size:=1,bytes:=8,zero:=[.int .u64 0],d:=.int .u64,ck:=some [.u64] }:=rfl
@[simp] theorem aQU:tab 203=some { agg:=false,size:=1,bytes:=8,zero:=[.pointer none],d:=.ptr 3 }:=rfl
@[simp] theorem aRa:tab 212=some { agg:=false,size:=1,bytes:=8,zero:=[.pointer none],d:=.ptr 199 }:=rfl
theorem aL{P:Program}{t size bytes:Nat}{z:Value}(h:(P.info? t).map (fun i=>(i.size,i.bytes,i.zero))=some (size,bytes,some z)):∃ i,P.info? t=some i∧i.size=size∧i.bytes=bytes∧i.zero=some z:=by
 cases hi:P.info? t with
 |none=>simp[hi]at h
 |some i=>
  simp only[hi,Option.map_some,Option.some.injEq,Prod.mk.injEq]at h
  exact⟨i,rfl,h.1,h.2.1,h.2.2⟩
theorem aLu:aAJ Tryz.prog 55 true [.u32,.u32,.u32]:=by
 have u34:=Tryz.underlying34
 have a34:=Tryz.isAgg34
 have z34:=Tryz.sizeOf34
 have hp:Tryz.prog.stoodInHeld 55=false:=by kernel_rfl
 refine⟨fun w as1 bs1 h1 h2=>?_,fun w em as1 h1=>?_,fun _=>by kernel_rfl,(fun h=>by cases h),_,Tryz.underlying55,.inr fun as1 bs1 h1 h2=>by simp[mkV,Instr.sameNow]⟩
 ·match as1,bs1,h1,h2 with
  |[x0,x1,x2],[y0,y1,y2],_,_=>
   have hS:Tryz.prog.underlying 55=some (.struct (Tryz.prog.fieldsOf 55)):=by kernel_rfl
   simp only[mkV,mkC,if_true]
   unfold Op.equal Op.maxDepth
   rw[show(10000:Nat)=9999+1 from rfl,run_equalIn_agg w 9999 55 _ _ hS hp]
   simp only[Program.fieldsOf,Tryz.underlying55]
   go_simp
   by_cases e0:x0=y0<;>by_cases e1:x1=y1<;>by_cases e2:x2=y2<;>simp[e0,e1,e2]
 ·match as1,h1 with
  |[x0,x1,x2],_=>
   simp only[mkV,mkC,if_true]
   unfold Instr.checkKey
   simp only[Sem.run_bind,run_underlying Tryz.underlying55,Result.andThen_ok]
   go_simp
   (try simp[nF u34])
theorem aLj:aAJ Tryz.prog 56 true [.u32,.u32,.u32]:=by
 have u34:=Tryz.underlying34
 have a34:=Tryz.isAgg34
 have z34:=Tryz.sizeOf34
 have hp:Tryz.prog.stoodInHeld 56=false:=by kernel_rfl
 refine⟨fun w as1 bs1 h1 h2=>?_,fun w em as1 h1=>?_,fun _=>by kernel_rfl,(fun h=>by cases h),_,Tryz.underlying56,.inr fun as1 bs1 h1 h2=>by simp[mkV,Instr.sameNow]⟩
 ·match as1,bs1,h1,h2 with
  |[x0,x1,x2],[y0,y1,y2],_,_=>
   have hS:Tryz.prog.underlying 56=some (.struct (Tryz.prog.fieldsOf 56)):=by kernel_rfl
   simp only[mkV,mkC,if_true]
   unfold Op.equal Op.maxDepth
   rw[show(10000:Nat)=9999+1 from rfl,run_equalIn_agg w 9999 56 _ _ hS hp]
   simp only[Program.fieldsOf,Tryz.underlying56]
   go_simp
   by_cases e0:x0=y0<;>by_cases e1:x1=y1<;>by_cases e2:x2=y2<;>simp[e0,e1,e2]
 ·match as1,h1 with
  |[x0,x1,x2],_=>
   simp only[mkV,mkC,if_true]
   unfold Instr.checkKey
   simp only[Sem.run_bind,run_underlying Tryz.underlying56,Result.andThen_ok]
   go_simp
   (try simp[nF u34])
theorem aLJ:aAJ Tryz.prog 73 true [.u32,.u32]:=aIg Tryz.underlying73 Tryz.underlying34 Tryz.isAgg34 Tryz.sizeOf34 (by kernel_rfl) (by kernel_rfl)
theorem aJW:aAJ Tryz.prog 120 true [.u64,.u64]:=by
 have u116:=Tryz.underlying116
 have a116:=Tryz.isAgg116
 have z116:=Tryz.sizeOf116
 have hp:Tryz.prog.stoodInHeld 120=false:=by kernel_rfl
 refine⟨fun w as1 bs1 h1 h2=>?_,fun w em as1 h1=>?_,fun _=>by kernel_rfl,(fun h=>by cases h),_,Tryz.underlying120,.inr fun as1 bs1 h1 h2=>by simp[mkV,Instr.sameNow]⟩
 ·match as1,bs1,h1,h2 with
  |[x0,x1],[y0,y1],_,_=>
   have hS:Tryz.prog.underlying 120=some (.struct (Tryz.prog.fieldsOf 120)):=by kernel_rfl
   simp only[mkV,mkC,if_true]
   unfold Op.equal Op.maxDepth
   rw[show(10000:Nat)=9999+1 from rfl,run_equalIn_agg w 9999 120 _ _ hS hp]
   simp only[Program.fieldsOf,Tryz.underlying120]
   go_simp
   by_cases e0:x0=y0<;>by_cases e1:x1=y1<;>simp[e0,e1]
 ·match as1,h1 with
  |[x0,x1],_=>
   simp only[mkV,mkC,if_true]
   unfold Instr.checkKey
   simp only[Sem.run_bind,run_underlying Tryz.underlying120,Result.andThen_ok]
   go_simp
   (try simp[nF u116])
theorem aJu:aAJ Tryz.prog 121 true [.u64,.u64]:=by
 have u116:=Tryz.underlying116
 have a116:=Tryz.isAgg116
 have z116:=Tryz.sizeOf116
 have hp:Tryz.prog.stoodInHeld 121=false:=by kernel_rfl
 refine⟨fun w as1 bs1 h1 h2=>?_,fun w em as1 h1=>?_,fun _=>by kernel_rfl,(fun h=>by cases h),_,Tryz.underlying121,.inr fun as1 bs1 h1 h2=>by simp[mkV,Instr.sameNow]⟩
 ·match as1,bs1,h1,h2 with
  |[x0,x1],[y0,y1],_,_=>
   have hS:Tryz.prog.underlying 121=some (.struct (Tryz.prog.fieldsOf 121)):=by kernel_rfl
   simp only[mkV,mkC,if_true]
   unfold Op.equal Op.maxDepth
   rw[show(10000:Nat)=9999+1 from rfl,run_equalIn_agg w 9999 121 _ _ hS hp]
   simp only[Program.fieldsOf,Tryz.underlying121]
   go_simp
   by_cases e0:x0=y0<;>by_cases e1:x1=y1<;>simp[e0,e1]
 ·match as1,h1 with
  |[x0,x1],_=>
   simp only[mkV,mkC,if_true]
   unfold Instr.checkKey
   simp only[Sem.run_bind,run_underlying Tryz.underlying121,Result.andThen_ok]
   go_simp
   (try simp[nF u116])
theorem aLi:aW Tryz.prog 3 R3:=⟨Tryz.isAgg3,aL (z:=.int .i64 0) (by kernel_rfl),rfl,fun _=>rfl,rfl,Tryz.underlying3,(fun ks h=>by injection h with h;subst h;exact eZ Tryz.underlying3)⟩
theorem aLO:aW Tryz.prog 4 R4:=⟨Tryz.isAgg4,aL (z:=.bool false) (by kernel_rfl),rfl,fun _=>rfl,rfl,Tryz.underlying4,(fun ks h=>by cases h)⟩
theorem aLk:aW Tryz.prog 5 R5:=⟨Tryz.isAgg5,aL (z:=.int .u8 0) (by kernel_rfl),rfl,fun _=>rfl,rfl,Tryz.underlying5,(fun ks h=>by injection h with h;subst h;exact eZ Tryz.underlying5)⟩
theorem aNj:aW Tryz.prog 9 R9:=⟨Tryz.isAgg9,aL (z:=.string ⟨#[]⟩) (by kernel_rfl),rfl,fun _=>rfl,rfl,Tryz.underlying9,(fun ks h=>by cases h)⟩
theorem aIE:aW Tryz.prog 22 R22:=⟨Tryz.isAgg22,aL (z:=.slice none 0 0) (by kernel_rfl),rfl,fun _=>rfl,rfl,Tryz.underlying22,(fun ks h=>by cases h)⟩
theorem aIX:aW Tryz.prog 23 R23:=⟨Tryz.isAgg23,aL (z:=.slice none 0 0) (by kernel_rfl),rfl,fun _=>rfl,rfl,Tryz.underlying23,(fun ks h=>by cases h)⟩
theorem aKk:aW Tryz.prog 24 R24:=⟨Tryz.isAgg24,aL (z:=.agg #[.slice none 0 0,.slice none 0 0]) (by kernel_rfl),rfl,(fun h=>by cases h),rfl,⟨_,Tryz.underlying24,rfl⟩,(fun ks h=>by cases h)⟩
theorem aIr:aW Tryz.prog 25 R25:=⟨Tryz.isAgg25,aL (z:=.agg #[.slice none 0 0,.slice none 0 0]) (by kernel_rfl),rfl,(fun h=>by cases h),rfl,⟨_,Tryz.underlying25,rfl⟩,(fun ks h=>by cases h)⟩
theorem aJm:aW Tryz.prog 28 R28:=⟨Tryz.isAgg28,aL (z:=.int .i64 0) (by kernel_rfl),rfl,fun _=>rfl,rfl,Tryz.underlying28,(fun ks h=>by injection h with h;subst h;exact eZ Tryz.underlying28)⟩
theorem aJg:aW Tryz.prog 29 R29:=⟨Tryz.isAgg29,aL (z:=.slice none 0 0) (by kernel_rfl),rfl,fun _=>rfl,rfl,Tryz.underlying29,(fun ks h=>by cases h)⟩
theorem aJr:aW Tryz.prog 30 R30:=⟨Tryz.isAgg30,aL (z:=.agg #[.int .i64 0,.slice none 0 0,.slice none 0 0]) (by kernel_rfl),rfl,(fun h=>by cases h),rfl,⟨_,Tryz.underlying30,rfl⟩,(fun ks h=>by cases h)⟩
theorem aKz:aW Tryz.prog 31 R31:=⟨Tryz.isAgg31,aL (z:=.agg #[.int .i64 0,.slice none 0 0,.slice none 0 0]) (by kernel_rfl),rfl,(fun h=>by cases h),rfl,⟨_,Tryz.underlying31,rfl⟩,(fun ks h=>by cases h)⟩
theorem aJf:aW Tryz.prog 34 R34:=⟨Tryz.isAgg34,aL (z:=.int .u32 0) (by kernel_rfl),rfl,fun _=>rfl,rfl,Tryz.underlying34,(fun ks h=>by injection h with h;subst h;exact eZ Tryz.underlying34)⟩
theorem aJh:aW Tryz.prog 38 R38:=⟨Tryz.isAgg38,aL (z:=.agg #[.slice none 0 0,.slice none 0 0,.slice none 0 0]) (by kernel_rfl),rfl,(fun h=>by cases h),rfl,⟨_,Tryz.underlying38,rfl⟩,(fun ks h=>by cases h)⟩
theorem aIP:aW Tryz.prog 39 R39:=⟨Tryz.isAgg39,aL (z:=.agg #[.slice none 0 0,.slice none 0 0,.slice none 0 0]) (by kernel_rfl),rfl,(fun h=>by cases h),rfl,⟨_,Tryz.underlying39,rfl⟩,(fun ks h=>by cases h)⟩
theorem aKl:aW Tryz.prog 40 R40:=⟨Tryz.isAgg40,aL (z:=.int .i64 0) (by kernel_rfl),rfl,fun _=>rfl,rfl,Tryz.underlying40,(fun ks h=>by injection h with h;subst h;exact eZ Tryz.underlying40)⟩
theorem aKu:aW Tryz.prog 49 R49:=⟨Tryz.isAgg49,aL (z:=.map none) (by kernel_rfl),rfl,fun _=>rfl,rfl,Tryz.underlying49,(fun ks h=>by cases h)⟩
theorem aJc:aW Tryz.prog 55 R55:=⟨Tryz.isAgg55,aL (z:=.agg #[.int .u32 0,.int .u32 0,.int .u32 0]) (by kernel_rfl),rfl,(fun h=>by cases h),rfl,⟨_,Tryz.underlying55,rfl⟩,(fun ks h=>by injection h with h;subst h;exact aLu)⟩
theorem aJw:aW Tryz.prog 56 R56:=⟨Tryz.isAgg56,aL (z:=.agg #[.int .u32 0,.int .u32 0,.int .u32 0]) (by kernel_rfl),rfl,(fun h=>by cases h),rfl,⟨_,Tryz.underlying56,rfl⟩,(fun ks h=>by injection h with h;subst h;exact aLj)⟩
theorem aKU:aW Tryz.prog 59 R59:=⟨Tryz.isAgg59,aL (z:=.map none) (by kernel_rfl),rfl,fun _=>rfl,rfl,Tryz.underlying59,(fun ks h=>by cases h)⟩
theorem aJl:aW Tryz.prog 60 R60:=⟨Tryz.isAgg60,aL (z:=.map none) (by kernel_rfl),rfl,fun _=>rfl,rfl,Tryz.underlying60,(fun ks h=>by cases h)⟩
theorem aKL:aW Tryz.prog 61 R61:=⟨Tryz.isAgg61,aL (z:=.agg #[.map none,.map none]) (by kernel_rfl),rfl,(fun h=>by cases h),rfl,⟨_,Tryz.underlying61,rfl⟩,(fun ks h=>by cases h)⟩
theorem aIJ:aW Tryz.prog 62 R62:=⟨Tryz.isAgg62,aL (z:=.agg #[.map none,.map none]) (by kernel_rfl),rfl,(fun h=>by cases h),rfl,⟨_,Tryz.underlying62,rfl⟩,(fun ks h=>by cases h)⟩
theorem aJB:aW Tryz.prog 65 R65:=⟨Tryz.isAgg65,aL (z:=.map none) (by kernel_rfl),rfl,fun _=>rfl,rfl,Tryz.underlying65,(fun ks h=>by cases h)⟩
theorem aKW:aW Tryz.prog 72 R72:=⟨Tryz.isAgg72,aL (z:=.map none) (by kernel_rfl),rfl,fun _=>rfl,rfl,Tryz.underlying72,(fun ks h=>by cases h)⟩
theorem aJz:aW Tryz.prog 73 R73:=⟨Tryz.isAgg73,aL (z:=.agg #[.int .u32 0,.int .u32 0]) (by kernel_rfl),rfl,(fun h=>by cases h),rfl,Tryz.underlying73,(fun ks h=>by injection h with h;subst h;exact aLJ)⟩
theorem aIB:aW Tryz.prog 77 R77:=⟨Tryz.isAgg77,aL (z:=.slice none 0 0) (by kernel_rfl),rfl,fun _=>rfl,rfl,Tryz.underlying77,(fun ks h=>by cases h)⟩
theorem aJQ:aW Tryz.prog 80 R80:=⟨Tryz.isAgg80,aL (z:=.map none) (by kernel_rfl),rfl,fun _=>rfl,rfl,Tryz.underlying80,(fun ks h=>by cases h)⟩
theorem aJn:aW Tryz.prog 93 R93:=⟨Tryz.isAgg93,aL (z:=.map none) (by kernel_rfl),rfl,fun _=>rfl,rfl,Tryz.underlying93,(fun ks h=>by cases h)⟩
theorem aKc:aW Tryz.prog 94 R94:=⟨Tryz.isAgg94,aL (z:=.agg #[]) (by kernel_rfl),rfl,(fun h=>by cases h),rfl,⟨_,Tryz.underlying94,rfl⟩,(fun ks h=>by cases h)⟩
theorem aIZ:aW Tryz.prog 96 R96:=⟨Tryz.isAgg96,aL (z:=.int .u64 0) (by kernel_rfl),rfl,fun _=>rfl,rfl,Tryz.underlying96,(fun ks h=>by injection h with h;subst h;exact eZ Tryz.underlying96)⟩
theorem aKX:aW Tryz.prog 97 R97:=⟨Tryz.isAgg97,aL (z:=.map none) (by kernel_rfl),rfl,fun _=>rfl,rfl,Tryz.underlying97,(fun ks h=>by cases h)⟩
theorem aHl:aW Tryz.prog 104 aQd:=⟨Tryz.isAgg104,aL (z:=.pointer none) (by kernel_rfl),rfl,fun _=>rfl,rfl,Tryz.underlying104,(fun ks h=>by cases h)⟩
theorem aHW:aW Tryz.prog 105 aPV:=⟨Tryz.isAgg105,aL (z:=.map none) (by kernel_rfl),rfl,fun _=>rfl,rfl,Tryz.underlying105,(fun ks h=>by cases h)⟩
theorem aHo:aW Tryz.prog 106 aQz:=⟨Tryz.isAgg106,aL (z:=.slice none 0 0) (by kernel_rfl),rfl,fun _=>rfl,rfl,Tryz.underlying106,(fun ks h=>by cases h)⟩
theorem aIk:aW Tryz.prog 107 aPZ:=⟨Tryz.isAgg107,aL (z:=.agg #[.slice none 0 0,.map none,.map none,.map none,.slice none 0 0,.slice none 0 0]) (by kernel_rfl),rfl,(fun h=>by cases h),rfl,⟨_,Tryz.underlying107,rfl⟩,(fun ks h=>by cases h)⟩
theorem aHp:aW Tryz.prog 108 aQv:=⟨Tryz.isAgg108,aL (z:=.agg #[.slice none 0 0,.map none,.map none,.map none,.slice none 0 0,.slice none 0 0]) (by kernel_rfl),rfl,(fun h=>by cases h),rfl,⟨_,Tryz.underlying108,rfl⟩,(fun ks h=>by cases h)⟩
theorem aHc:aW Tryz.prog 113 aPW:=⟨Tryz.isAgg113,aL (z:=.pointer none) (by kernel_rfl),rfl,fun _=>rfl,rfl,Tryz.underlying113,(fun ks h=>by cases h)⟩
theorem aHa:aW Tryz.prog 115 aPB:=⟨Tryz.isAgg115,aL (z:=.slice none 0 0) (by kernel_rfl),rfl,fun _=>rfl,rfl,Tryz.underlying115,(fun ks h=>by cases h)⟩
theorem aGw:aW Tryz.prog 116 aPx:=⟨Tryz.isAgg116,aL (z:=.int .u64 0) (by kernel_rfl),rfl,fun _=>rfl,rfl,Tryz.underlying116,(fun ks h=>by injection h with h;subst h;exact eZ Tryz.underlying116)⟩
theorem aGR:aW Tryz.prog 117 aPr:=⟨Tryz.isAgg117,aL (z:=.slice none 0 0) (by kernel_rfl),rfl,fun _=>rfl,rfl,Tryz.underlying117,(fun ks h=>by cases h)⟩
theorem aHP:aW Tryz.prog 118 aQB:=⟨Tryz.isAgg118,aL (z:=.agg #[.slice none 0 0,.slice none 0 0,.slice none 0 0,.map none,.map none,.int .u64 0,.slice none 0 0]) (by kernel_rfl),rfl,(fun h=>by cases h),rfl,⟨_,Tryz.underlying118,rfl⟩,(fun ks h=>by cases h)⟩
theorem aGC:aW Tryz.prog 119 aPO:=⟨Tryz.isAgg119,aL (z:=.agg #[.slice none 0 0,.slice none 0 0,.slice none 0 0,.map none,.map none,.int .u64 0,.slice none 0 0]) (by kernel_rfl),rfl,(fun h=>by cases h),rfl,⟨_,Tryz.underlying119,rfl⟩,(fun ks h=>by cases h)⟩
theorem aIo:aW Tryz.prog 120 aPQ:=⟨Tryz.isAgg120,aL (z:=.agg #[.int .u64 0,.int .u64 0]) (by kernel_rfl),rfl,(fun h=>by cases h),rfl,⟨_,Tryz.underlying120,rfl⟩,(fun ks h=>by injection h with h;subst h;exact aJW)⟩
theorem aHg:aW Tryz.prog 121 aPq:=⟨Tryz.isAgg121,aL (z:=.agg #[.int .u64 0,.int .u64 0]) (by kernel_rfl),rfl,(fun h=>by cases h),rfl,⟨_,Tryz.underlying121,rfl⟩,(fun ks h=>by injection h with h;subst h;exact aJu)⟩
theorem aHi:aW Tryz.prog 126 aQw:=⟨Tryz.isAgg126,aL (z:=.agg #[.slice none 0 0,.int .u64 0]) (by kernel_rfl),rfl,(fun h=>by cases h),rfl,⟨_,Tryz.underlying126,rfl⟩,(fun ks h=>by cases h)⟩
theorem aHQ:aW Tryz.prog 127 aQl:=⟨Tryz.isAgg127,aL (z:=.agg #[.slice none 0 0,.int .u64 0]) (by kernel_rfl),rfl,(fun h=>by cases h),rfl,⟨_,Tryz.underlying127,rfl⟩,(fun ks h=>by cases h)⟩
theorem aGv:aW Tryz.prog 129 aPX:=⟨Tryz.isAgg129,aL (z:=.nilFunc) (by kernel_rfl),rfl,fun _=>rfl,rfl,⟨_,_,_,Tryz.underlying129⟩,(fun ks h=>by cases h)⟩
theorem aHt:aW Tryz.prog 140 aPK:=⟨Tryz.isAgg140,aL (z:=.nilFunc) (by kernel_rfl),rfl,fun _=>rfl,rfl,⟨_,_,_,Tryz.underlying140⟩,(fun ks h=>by cases h)⟩
theorem aHH:aW Tryz.prog 148 aPR:=⟨Tryz.isAgg148,aL (z:=.nilFunc) (by kernel_rfl),rfl,fun _=>rfl,rfl,⟨_,_,_,Tryz.underlying148⟩,(fun ks h=>by cases h)⟩
theorem aHO:aW Tryz.prog 154 aPM:=⟨Tryz.isAgg154,aL (z:=.slice none 0 0) (by kernel_rfl),rfl,fun _=>rfl,rfl,Tryz.underlying154,(fun ks h=>by cases h)⟩
theorem aHX:aW Tryz.prog 165 aPN:=⟨Tryz.isAgg165,aL (z:=.int .i64 0) (by kernel_rfl),rfl,fun _=>rfl,rfl,Tryz.underlying165,(fun ks h=>by injection h with h;subst h;exact eZ Tryz.underlying165)⟩
theorem aGV:aW Tryz.prog 189 aQn:=⟨Tryz.isAgg189,aL (z:=.agg #[.int .u8 0,.int .u8 0,.int .u8 0,.int .u8 0,.int .u8 0,.int .u8 0,.int .u8 0,.int .u8 0,.int .u8 0,.int .u8 0,.int .u8 0,.int .u8 0,.int .u8 0,.int .u8 0,.int .u8 0,.int .u8 0,.int .u8 0,.int .u8 0,.int .u8 0,.int .u8 0,.int .u8 0,.int .u8 0,.int .u8 0,.int .u8 0,.int .u8 0,.int .u8 0,.int .u8 0,.int .u8 0,.int .u8 0,.int .u8 0,.int .u8 0,.int .u8 0,.int .u8 0,.int .u8 0,.int .u8 0,.int .u8 0,.int .u8 0,.int .u8 0,.int .u8 0,.int .u8 0,.int .u8 0,.int .u8 0,.int .u8 0,.int .u8 0,.int .u8 0,.int .u8 0,.int .u8 0,.int .u8 0,.int .u8 0,.int .u8 0,.int .u8 0,.int .u8 0,.int .u8 0,.int .u8 0,.int .u8 0,.int .u8 0,.int .u8 0,.int .u8 0,.int .u8 0,.int .u8 0,.int .u8 0,.int .u8 0,.int .u8 0,.int .u8 0]) (by kernel_rfl),rfl,(fun h=>by cases h),rfl,Tryz.underlying189,(fun ks h=>by cases h)⟩
theorem aIp:aW Tryz.prog 196 aPP:=⟨Tryz.isAgg196,aL (z:=.map none) (by kernel_rfl),rfl,fun _=>rfl,rfl,Tryz.underlying196,(fun ks h=>by cases h)⟩
theorem aGX:aW Tryz.prog 199 aPA:=⟨Tryz.isAgg199,aL (z:=.int .u64 0) (by kernel_rfl),rfl,fun _=>rfl,rfl,Tryz.underlying199,(fun ks h=>by injection h with h;subst h;exact eZ Tryz.underlying199)⟩
theorem aGH:aW Tryz.prog 203 aPC:=⟨Tryz.isAgg203,aL (z:=.pointer none) (by kernel_rfl),rfl,fun _=>rfl,rfl,Tryz.underlying203,(fun ks h=>by cases h)⟩
theorem aIm:aW Tryz.prog 212 aPI:=⟨Tryz.isAgg212,aL (z:=.pointer none) (by kernel_rfl),rfl,fun _=>rfl,rfl,Tryz.underlying212,(fun ks h=>by cases h)⟩
theorem aF:bC Tryz.prog tab:=aCb aPE ⟨aLi,aLO,aLk,aNj,aIE,aIX,aKk,aIr,aJm,aJg,aJr,aKz,aJf,aJh,aIP,aKl,aKu,aJc,aJw,aKU,aJl,aKL,aIJ,aJB,aKW,aJz,aIB,aJQ,aJn,aKc,aIZ,aKX,aHl,aHW,aHo,aIk,aHp,aHc,aHa,aGw,aGR,aHP,aGC,aIo,aHg,aHi,aHQ,aGv,aHt,aHH,aHO,aHX,aGV,aIp,aGX,aGH,aIm,trivial⟩
end Go.Proofs.YtempldclppogmaaGreatDoor.Aw
