/- The types of this seat's translation, as a table, and that the loaded program has them so. Written by a program (gentab.py). -/
import Derived.Test.YtempldclppogmaaGreatDoorAwDraw
import Derived.Test.YtempldclppogmaaGreatDoorAwArr
import Derived.Test.YtempldclppogmaaGreatDoorProg
import Derived.KernelRfl
import Derived.Tactics
import Derived.Laws.StructEq
set_option linter.unusedVariables false
set_option linter.unusedSimpArgs false
open Go.Proofs.Tryz
namespace Go.Proofs.YtempldclppogmaaGreatDoor
namespace Aw
open Go Go.RowKit
def R3:bK:={ agg:=false,size:=1,bytes:=8,zero:=[.int .i64 0],d:=.int .i64,ck:=some [.i64] }
def R4:bK:={ agg:=false,size:=1,bytes:=1,zero:=[.bool false],d:=.bool }
def R5:bK:={ agg:=false,size:=1,bytes:=1,zero:=[.int .u8 0],d:=.int .u8,ck:=some [.u8] }
def R9:bK:={ agg:=false,size:=1,bytes:=16,zero:=[.string ⟨#[]⟩],d:=.str }
def R22:bK:={ agg:=false,size:=1,bytes:=24,zero:=[.slice none 0 0],d:=.slice 34 }
def R23:bK:={ agg:=false,size:=1,bytes:=24,zero:=[.slice none 0 0],d:=.slice 56 }
def R24:bK:={ agg:=true,size:=2,bytes:=48,zero:=[.slice none 0 0,.slice none 0 0],d:=.struct [(0,22),(1,23)] }
def R25:bK:={ agg:=true,size:=2,bytes:=48,zero:=[.slice none 0 0,.slice none 0 0],d:=.struct [(0,22),(1,23)] }
def R28:bK:={ agg:=false,size:=1,bytes:=8,zero:=[.int .i64 0],d:=.int .i64,ck:=some [.i64] }
def R29:bK:={ agg:=false,size:=1,bytes:=24,zero:=[.slice none 0 0],d:=.slice 22 }
def R30:bK:={ agg:=true,size:=3,bytes:=56,zero:=[.int .i64 0,.slice none 0 0,.slice none 0 0],d:=.struct [(0,28),(1,22),(2,29)] }
def R31:bK:={ agg:=true,size:=3,bytes:=56,zero:=[.int .i64 0,.slice none 0 0,.slice none 0 0],d:=.struct [(0,28),(1,22),(2,29)] }
def R34:bK:={ agg:=false,size:=1,bytes:=4,zero:=[.int .u32 0],d:=.int .u32,ck:=some [.u32] }
def R38:bK:={ agg:=true,size:=3,bytes:=72,zero:=[.slice none 0 0,.slice none 0 0,.slice none 0 0],d:=.struct [(0,25),(2,29)] }
def R39:bK:={ agg:=true,size:=3,bytes:=72,zero:=[.slice none 0 0,.slice none 0 0,.slice none 0 0],d:=.struct [(0,25),(2,29)] }
def R40:bK:={ agg:=false,size:=1,bytes:=8,zero:=[.int .i64 0],d:=.int .i64,ck:=some [.i64] }
def R49:bK:={ agg:=false,size:=1,bytes:=8,zero:=[.map none],d:=.map 34 3 }
def R55:bK:={ agg:=true,size:=3,bytes:=12,zero:=[.int .u32 0,.int .u32 0,.int .u32 0],d:=.struct [(0,34),(1,34),(2,34)],ck:=some [.u32,.u32,.u32] }
def R56:bK:={ agg:=true,size:=3,bytes:=12,zero:=[.int .u32 0,.int .u32 0,.int .u32 0],d:=.struct [(0,34),(1,34),(2,34)],ck:=some [.u32,.u32,.u32] }
def R59:bK:={ agg:=false,size:=1,bytes:=8,zero:=[.map none],d:=.map 34 22 }
def R60:bK:={ agg:=false,size:=1,bytes:=8,zero:=[.map none],d:=.map 34 34 }
def R61:bK:={ agg:=true,size:=2,bytes:=16,zero:=[.map none,.map none],d:=.struct [(0,59),(1,60)] }
def R62:bK:={ agg:=true,size:=2,bytes:=16,zero:=[.map none,.map none],d:=.struct [(0,59),(1,60)] }
def R65:bK:={ agg:=false,size:=1,bytes:=8,zero:=[.map none],d:=.map 3 3 }
def R72:bK:={ agg:=false,size:=1,bytes:=8,zero:=[.map none],d:=.map 73 23 }
def R73:bK:={ agg:=true,size:=2,bytes:=8,zero:=[.int .u32 0,.int .u32 0],d:=.arr 2 34,ck:=some [.u32,.u32] }
def R77:bK:={ agg:=false,size:=1,bytes:=24,zero:=[.slice none 0 0],d:=.slice 23 }
def R80:bK:={ agg:=false,size:=1,bytes:=8,zero:=[.map none],d:=.map 34 60 }
def R93:bK:={ agg:=false,size:=1,bytes:=8,zero:=[.map none],d:=.map 3 94 }
def R94:bK:={ agg:=true,size:=0,bytes:=0,zero:=[],d:=.struct [] }
def R96:bK:={ agg:=false,size:=1,bytes:=8,zero:=[.int .u64 0],d:=.int .u64,ck:=some [.u64] }
def R97:bK:={ agg:=false,size:=1,bytes:=8,zero:=[.map none],d:=.map 73 3 }
def Vr:bK:={ agg:=false,size:=1,bytes:=8,zero:=[.pointer none],d:=.ptr 108 }
def Vc:bK:={ agg:=false,size:=1,bytes:=8,zero:=[.map none],d:=.map 34 106 }
def Vs:bK:={ agg:=false,size:=1,bytes:=24,zero:=[.slice none 0 0],d:=.slice 3 }
def Vm:bK:={ agg:=true,size:=6,bytes:=96,zero:=[.slice none 0 0,.map none,.map none,.map none,.slice none 0 0,.slice none 0 0],d:=.struct [(0,23),(1,105),(2,49),(3,49),(4,106),(5,77)] }
def Vk:bK:={ agg:=true,size:=6,bytes:=96,zero:=[.slice none 0 0,.map none,.map none,.map none,.slice none 0 0,.slice none 0 0],d:=.struct [(0,23),(1,105),(2,49),(3,49),(4,106),(5,77)] }
def VD:bK:={ agg:=false,size:=1,bytes:=8,zero:=[.pointer none],d:=.ptr 119 }
def Us:bK:={ agg:=false,size:=1,bytes:=24,zero:=[.slice none 0 0],d:=.slice 116 }
def VQ:bK:={ agg:=false,size:=1,bytes:=8,zero:=[.int .u64 0],d:=.int .u64,ck:=some [.u64] }
def Vi:bK:={ agg:=false,size:=1,bytes:=24,zero:=[.slice none 0 0],d:=.slice 127 }
def VE:bK:={ agg:=true,size:=7,bytes:=120,zero:=[.slice none 0 0,.slice none 0 0,.slice none 0 0,.map none,.map none,.int .u64 0,.slice none 0 0],d:=.struct [(0,25),(2,115),(3,49),(4,97),(5,116),(6,117)] }
def VS:bK:={ agg:=true,size:=7,bytes:=120,zero:=[.slice none 0 0,.slice none 0 0,.slice none 0 0,.map none,.map none,.int .u64 0,.slice none 0 0],d:=.struct [(0,25),(2,115),(3,49),(4,97),(5,116),(6,117)] }
def Vl:bK:={ agg:=true,size:=2,bytes:=16,zero:=[.int .u64 0,.int .u64 0],d:=.struct [(0,116),(1,116)],ck:=some [.u64,.u64] }
def Ut:bK:={ agg:=true,size:=2,bytes:=16,zero:=[.int .u64 0,.int .u64 0],d:=.struct [(0,116),(1,116)],ck:=some [.u64,.u64] }
def Vn:bK:={ agg:=true,size:=2,bytes:=32,zero:=[.slice none 0 0,.int .u64 0],d:=.struct [(0,22),(1,116)] }
def VW:bK:={ agg:=true,size:=2,bytes:=32,zero:=[.slice none 0 0,.int .u64 0],d:=.struct [(0,22),(1,116)] }
def Uz:bK:={ agg:=false,size:=1,bytes:=8,zero:=[.nilFunc],d:=.func }
def Uu:bK:={ agg:=false,size:=1,bytes:=8,zero:=[.nilFunc],d:=.func }
def VM:bK:={ agg:=false,size:=1,bytes:=8,zero:=[.nilFunc],d:=.func }
def Ur:bK:={ agg:=false,size:=1,bytes:=24,zero:=[.slice none 0 0],d:=.slice 121 }
def Ve:bK:={ agg:=false,size:=1,bytes:=8,zero:=[.int .i64 0],d:=.int .i64,ck:=some [.i64] }
def VP:bK:={ agg:=true,size:=64,bytes:=64,zero:=(List.replicate 64 (.int .u8 0)),d:=.arr 64 5 }
def Vf:bK:={ agg:=false,size:=1,bytes:=8,zero:=[.map none],d:=.map 34 4 }
def Vt:bK:={ agg:=false,size:=1,bytes:=8,zero:=[.int .u64 0],d:=.int .u64,ck:=some [.u64] }
def VI:bK:={ agg:=false,size:=1,bytes:=8,zero:=[.pointer none],d:=.ptr 3 }
def VT:bK:={ agg:=false,size:=1,bytes:=8,zero:=[.pointer none],d:=.ptr 199 }
def Uw:List (Nat×bK):=[(3,R3),(4,R4),(5,R5),(9,R9),(22,R22),(23,R23),(24,R24),(25,R25),(28,R28),(29,R29),(30,R30),(31,R31),(34,R34),(38,R38),(39,R39),(40,R40),(49,R49),(55,R55),(56,R56),(59,R59),(60,R60),(61,R61),(62,R62),(65,R65),(72,R72),(73,R73),(77,R77),(80,R80),(93,R93),(94,R94),(96,R96),(97,R97),(104,Vr),(105,Vc),(106,Vs),(107,Vm),(108,Vk),(113,VD),(115,Us),(116,VQ),(117,Vi),(118,VE),(119,VS),(120,Vl),(121,Ut),(126,Vn),(127,VW),(129,Uz),(140,Uu),(148,VM),(154,Ur),(165,Ve),(189,VP),(196,Vf),(199,Vt),(203,VI),(212,VT)]
def tab:Tab:=FZ Uw
@[simp] theorem Xb:tab 3=some { agg:=false,size:=1,bytes:=8,zero:=[.int .i64 0],d:=.int .i64,ck:=some [.i64] }:=rfl
@[simp] theorem Xc:tab 4=some { agg:=false,size:=1,bytes:=1,zero:=[.bool false],d:=.bool }:=rfl
@[simp] theorem Xa:tab 5=some { agg:=false,size:=1,bytes:=1,zero:=[.int .u8 0],d:=.int .u8,ck:=some [.u8] }:=rfl
@[simp] theorem XZ:tab 9=some { agg:=false,size:=1,bytes:=16,zero:=[.string ⟨#[]⟩],d:=.str }:=rfl
@[simp] theorem We:tab 22=some { agg:=false,size:=1,bytes:=24,zero:=[.slice none 0 0],d:=.slice 34 }:=rfl
@[simp] theorem XO:tab 23=some { agg:=false,size:=1,bytes:=24,zero:=[.slice none 0 0],d:=.slice 56 }:=rfl
@[simp] theorem XV:tab 24=some { agg:=true,size:=2,bytes:=48,zero:=[.slice none 0 0,.slice none 0 0],d:=.struct [(0,22),(1,23)] }:=rfl
@[simp] theorem XJ:tab 25=some { agg:=true,size:=2,bytes:=48,zero:=[.slice none 0 0,.slice none 0 0],d:=.struct [(0,22),(1,23)] }:=rfl
@[simp] theorem XB:tab 28=some { agg:=false,size:=1,bytes:=8,zero:=[.int .i64 0],d:=.int .i64,ck:=some [.i64] }:=rfl
@[simp] theorem Wk:tab 29=some { agg:=false,size:=1,bytes:=24,zero:=[.slice none 0 0],d:=.slice 22 }:=rfl
@[simp] theorem Wq:tab 30=some { agg:=true,size:=3,bytes:=56,zero:=[.int .i64 0,.slice none 0 0,.slice none 0 0],d:=.struct [(0,28),(1,22),(2,29)] }:=rfl
@[simp] theorem XK:tab 31=some { agg:=true,size:=3,bytes:=56,zero:=[.int .i64 0,.slice none 0 0,.slice none 0 0],d:=.struct [(0,28),(1,22),(2,29)] }:=rfl
@[simp] theorem XG:tab 34=some { agg:=false,size:=1,bytes:=4,zero:=[.int .u32 0],d:=.int .u32,ck:=some [.u32] }:=rfl
@[simp] theorem Wd:tab 38=some { agg:=true,size:=3,bytes:=72,zero:=[.slice none 0 0,.slice none 0 0,.slice none 0 0],d:=.struct [(0,25),(2,29)] }:=rfl
@[simp] theorem Wl:tab 39=some { agg:=true,size:=3,bytes:=72,zero:=[.slice none 0 0,.slice none 0 0,.slice none 0 0],d:=.struct [(0,25),(2,29)] }:=rfl
@[simp] theorem Wt:tab 40=some { agg:=false,size:=1,bytes:=8,zero:=[.int .i64 0],d:=.int .i64,ck:=some [.i64] }:=rfl
@[simp] theorem Wg:tab 49=some { agg:=false,size:=1,bytes:=8,zero:=[.map none],d:=.map 34 3 }:=rfl
@[simp] theorem Wj:tab 55=some { agg:=true,size:=3,bytes:=12,zero:=[.int .u32 0,.int .u32 0,.int .u32 0],d:=.struct [(0,34),(1,34),(2,34)],ck:=some [.u32,.u32,.u32] }:=rfl
@[simp] theorem XI:tab 56=some { agg:=true,size:=3,bytes:=12,zero:=[.int .u32 0,.int .u32 0,.int .u32 0],d:=.struct [(0,34),(1,34),(2,34)],ck:=some [.u32,.u32,.u32] }:=rfl
@[simp] theorem Ww:tab 59=some { agg:=false,size:=1,bytes:=8,zero:=[.map none],d:=.map 34 22 }:=rfl
@[simp] theorem Wv:tab 60=some { agg:=false,size:=1,bytes:=8,zero:=[.map none],d:=.map 34 34 }:=rfl
@[simp] theorem Wz:tab 61=some { agg:=true,size:=2,bytes:=16,zero:=[.map none,.map none],d:=.struct [(0,59),(1,60)] }:=rfl
@[simp] theorem XP:tab 62=some { agg:=true,size:=2,bytes:=16,zero:=[.map none,.map none],d:=.struct [(0,59),(1,60)] }:=rfl
@[simp] theorem Wp:tab 65=some { agg:=false,size:=1,bytes:=8,zero:=[.map none],d:=.map 3 3 }:=rfl
@[simp] theorem XT:tab 72=some { agg:=false,size:=1,bytes:=8,zero:=[.map none],d:=.map 73 23 }:=rfl
@[simp] theorem Wf:tab 73=some { agg:=true,size:=2,bytes:=8,zero:=[.int .u32 0,.int .u32 0],d:=.arr 2 34,ck:=some [.u32,.u32] }:=rfl
@[simp] theorem Ws:tab 77=some { agg:=false,size:=1,bytes:=24,zero:=[.slice none 0 0],d:=.slice 23 }:=rfl
@[simp] theorem WZ:tab 80=some { agg:=false,size:=1,bytes:=8,zero:=[.map none],d:=.map 34 60 }:=rfl
@[simp] theorem XM:tab 93=some { agg:=false,size:=1,bytes:=8,zero:=[.map none],d:=.map 3 94 }:=rfl
@[simp] theorem XY:tab 94=some { agg:=true,size:=0,bytes:=0,zero:=[],d:=.struct [] }:=rfl
@[simp] theorem Wh:tab 96=some { agg:=false,size:=1,bytes:=8,zero:=[.int .u64 0],d:=.int .u64,ck:=some [.u64] }:=rfl
@[simp] theorem Wn:tab 97=some { agg:=false,size:=1,bytes:=8,zero:=[.map none],d:=.map 73 3 }:=rfl
@[simp] theorem WA:tab 104=some { agg:=false,size:=1,bytes:=8,zero:=[.pointer none],d:=.ptr 108 }:=rfl
@[simp] theorem WJ:tab 105=some { agg:=false,size:=1,bytes:=8,zero:=[.map none],d:=.map 34 106 }:=rfl
@[simp] theorem WR:tab 106=some { agg:=false,size:=1,bytes:=24,zero:=[.slice none 0 0],d:=.slice 3 }:=rfl
@[simp] theorem WI:tab 107=some { agg:=true,size:=6,bytes:=96,zero:=[.slice none 0 0,.map none,.map none,.map none,.slice none 0 0,.slice none 0 0],d:=.struct [(0,23),(1,105),(2,49),(3,49),(4,106),(5,77)] }:=rfl
@[simp] theorem WK:tab 108=some { agg:=true,size:=6,bytes:=96,zero:=[.slice none 0 0,.map none,.map none,.map none,.slice none 0 0,.slice none 0 0],d:=.struct [(0,23),(1,105),(2,49),(3,49),(4,106),(5,77)] }:=rfl
@[simp] theorem WV:tab 113=some { agg:=false,size:=1,bytes:=8,zero:=[.pointer none],d:=.ptr 119 }:=rfl
@[simp] theorem WB:tab 115=some { agg:=false,size:=1,bytes:=24,zero:=[.slice none 0 0],d:=.slice 116 }:=rfl
@[simp] theorem Vx:tab 116=some { agg:=false,size:=1,bytes:=8,zero:=[.int .u64 0],d:=.int .u64,ck:=some [.u64] }:=rfl
@[simp] theorem Vy:tab 117=some { agg:=false,size:=1,bytes:=24,zero:=[.slice none 0 0],d:=.slice 127 }:=rfl
@[simp] theorem Vz:tab 118=some { agg:=true,size:=7,bytes:=120,zero:=[.slice none 0 0,.slice none 0 0,.slice none 0 0,.map none,.map none,.int .u64 0,.slice none 0 0],d:=.struct [(0,25),(2,115),(3,49),(4,97),(5,116),(6,117)] }:=rfl
@[simp] theorem WG:tab 119=some { agg:=true,size:=7,bytes:=120,zero:=[.slice none 0 0,.slice none 0 0,.slice none 0 0,.map none,.map none,.int .u64 0,.slice none 0 0],d:=.struct [(0,25),(2,115),(3,49),(4,97),(5,116),(6,117)] }:=rfl
@[simp] theorem WN:tab 120=some { agg:=true,size:=2,bytes:=16,zero:=[.int .u64 0,.int .u64 0],d:=.struct [(0,116),(1,116)],ck:=some [.u64,.u64] }:=rfl
@[simp] theorem WE:tab 121=some { agg:=true,size:=2,bytes:=16,zero:=[.int .u64 0,.int .u64 0],d:=.struct [(0,116),(1,116)],ck:=some [.u64,.u64] }:=rfl
@[simp] theorem WC:tab 126=some { agg:=true,size:=2,bytes:=32,zero:=[.slice none 0 0,.int .u64 0],d:=.struct [(0,22),(1,116)] }:=rfl
@[simp] theorem Vw:tab 127=some { agg:=true,size:=2,bytes:=32,zero:=[.slice none 0 0,.int .u64 0],d:=.struct [(0,22),(1,116)] }:=rfl
@[simp] theorem WU:tab 129=some { agg:=false,size:=1,bytes:=8,zero:=[.nilFunc],d:=.func }:=rfl
@[simp] theorem WQ:tab 140=some { agg:=false,size:=1,bytes:=8,zero:=[.nilFunc],d:=.func }:=rfl
@[simp] theorem WY:tab 148=some { agg:=false,size:=1,bytes:=8,zero:=[.nilFunc],d:=.func }:=rfl
@[simp] theorem WS:tab 154=some { agg:=false,size:=1,bytes:=24,zero:=[.slice none 0 0],d:=.slice 121 }:=rfl
@[simp] theorem WL:tab 165=some { agg:=false,size:=1,bytes:=8,zero:=[.int .i64 0],d:=.int .i64,ck:=some [.i64] }:=rfl
@[simp] theorem WT:tab 189=some { agg:=true,size:=64,bytes:=64,zero:=(List.replicate 64 (.int .u8 0)),d:=.arr 64 5 }:=rfl
@[simp] theorem WX:tab 196=some { agg:=false,size:=1,bytes:=8,zero:=[.map none],d:=.map 34 4 }:=rfl
@[simp] theorem WH:tab 199=some { agg:=false,size:=1,bytes:=8,zero:=[.int .u64 0],d:=.int .u64,ck:=some [.u64] }:=rfl
@[simp] theorem WM:tab 203=some { agg:=false,size:=1,bytes:=8,zero:=[.pointer none],d:=.ptr 3 }:=rfl
@[simp] theorem WW:tab 212=some { agg:=false,size:=1,bytes:=8,zero:=[.pointer none],d:=.ptr 199 }:=rfl
theorem aM{P:Program}{t size bytes:Nat}{z:Value}(h:(P.info? t).map (fun i=>(i.size,i.bytes,i.zero))=some (size,bytes,some z)):∃ i,P.info? t=some i/\i.size=size/\i.bytes=bytes/\i.zero=some z:=by
 cases hi:P.info? t with
 |none=>simp[hi]at h
 |some i=>simp only[hi,Option.map_some,aAb,aAW]at h;exact⟨i,rfl,h.1,h.2.1,h.2.2⟩
theorem SP:Er prog 55 true [.u32,.u32,.u32]:=by
 have u34:=underlying34;have a34:=isAgg34;have z34:=Tryz.sizeOf34;have hp:prog.stoodInHeld 55=false:=by kernel_rfl
 refine⟨fun w D6 Y1 h1 h2=>?_,fun w em D6 h1=>?_,fun _=>by kernel_rfl,(fun h=>by cases h),_,underlying55,.inr fun D6 Y1 h1 h2=>by simp[mkV,Instr.sameNow]⟩
 .match D6,Y1,h1,h2 with
  |[x0,x1,x2],[y0,y1,y2],_,_=>
   have hS:prog.underlying 55=some (.struct (prog.fieldsOf 55)):=by kernel_rfl
   simp only[mkV,mkC,aBq];unfold Op.equal Op.maxDepth;rw[show(10000:Nat)=9999+1 from rfl,run_equalIn_agg w 9999 55 _ _ hS hp];simp only[Program.fieldsOf,underlying55]
   go_simp
   by_cases e0:x0=y0<;>by_cases e1:x1=y1<;>by_cases e2:x2=y2<;>simp[e0,e1,e2]
 .match D6,h1 with
  |[x0,x1,x2],_=>
   simp only[mkV,mkC,aBq];unfold Instr.checkKey;simp only[Sem.run_bind,run_underlying underlying55,Result.andThen_ok]
   go_simp
   (try simp[rQ u34])
theorem RE:Er prog 56 true [.u32,.u32,.u32]:=by
 have u34:=underlying34;have a34:=isAgg34;have z34:=Tryz.sizeOf34;have hp:prog.stoodInHeld 56=false:=by kernel_rfl
 refine⟨fun w D6 Y1 h1 h2=>?_,fun w em D6 h1=>?_,fun _=>by kernel_rfl,(fun h=>by cases h),_,underlying56,.inr fun D6 Y1 h1 h2=>by simp[mkV,Instr.sameNow]⟩
 .match D6,Y1,h1,h2 with
  |[x0,x1,x2],[y0,y1,y2],_,_=>
   have hS:prog.underlying 56=some (.struct (prog.fieldsOf 56)):=by kernel_rfl
   simp only[mkV,mkC,aBq];unfold Op.equal Op.maxDepth;rw[show(10000:Nat)=9999+1 from rfl,run_equalIn_agg w 9999 56 _ _ hS hp];simp only[Program.fieldsOf,underlying56]
   go_simp
   by_cases e0:x0=y0<;>by_cases e1:x1=y1<;>by_cases e2:x2=y2<;>simp[e0,e1,e2]
 .match D6,h1 with
  |[x0,x1,x2],_=>
   simp only[mkV,mkC,aBq];unfold Instr.checkKey;simp only[Sem.run_bind,run_underlying underlying56,Result.andThen_ok]
   go_simp
   (try simp[rQ u34])
theorem RQ:Er prog 73 true [.u32,.u32]:=Mh underlying73 underlying34 isAgg34 Tryz.sizeOf34 (by kernel_rfl) (by kernel_rfl)
theorem Oe:Er prog 120 true [.u64,.u64]:=by
 have u116:=underlying116;have a116:=isAgg116;have z116:=Tryz.sizeOf116;have hp:prog.stoodInHeld 120=false:=by kernel_rfl
 refine⟨fun w D6 Y1 h1 h2=>?_,fun w em D6 h1=>?_,fun _=>by kernel_rfl,(fun h=>by cases h),_,underlying120,.inr fun D6 Y1 h1 h2=>by simp[mkV,Instr.sameNow]⟩
 .match D6,Y1,h1,h2 with
  |[x0,x1],[y0,y1],_,_=>
   have hS:prog.underlying 120=some (.struct (prog.fieldsOf 120)):=by kernel_rfl
   simp only[mkV,mkC,aBq];unfold Op.equal Op.maxDepth;rw[show(10000:Nat)=9999+1 from rfl,run_equalIn_agg w 9999 120 _ _ hS hp];simp only[Program.fieldsOf,underlying120]
   go_simp
   by_cases e0:x0=y0<;>by_cases e1:x1=y1<;>simp[e0,e1]
 .match D6,h1 with
  |[x0,x1],_=>
   simp only[mkV,mkC,aBq];unfold Instr.checkKey;simp only[Sem.run_bind,run_underlying underlying120,Result.andThen_ok]
   go_simp
   (try simp[rQ u116])
theorem Nw:Er prog 121 true [.u64,.u64]:=by
 have u116:=underlying116;have a116:=isAgg116;have z116:=Tryz.sizeOf116;have hp:prog.stoodInHeld 121=false:=by kernel_rfl
 refine⟨fun w D6 Y1 h1 h2=>?_,fun w em D6 h1=>?_,fun _=>by kernel_rfl,(fun h=>by cases h),_,underlying121,.inr fun D6 Y1 h1 h2=>by simp[mkV,Instr.sameNow]⟩
 .match D6,Y1,h1,h2 with
  |[x0,x1],[y0,y1],_,_=>
   have hS:prog.underlying 121=some (.struct (prog.fieldsOf 121)):=by kernel_rfl
   simp only[mkV,mkC,aBq];unfold Op.equal Op.maxDepth;rw[show(10000:Nat)=9999+1 from rfl,run_equalIn_agg w 9999 121 _ _ hS hp];simp only[Program.fieldsOf,underlying121]
   go_simp
   by_cases e0:x0=y0<;>by_cases e1:x1=y1<;>simp[e0,e1]
 .match D6,h1 with
  |[x0,x1],_=>
   simp only[mkV,mkC,aBq];unfold Instr.checkKey;simp only[Sem.run_bind,run_underlying underlying121,Result.andThen_ok]
   go_simp
   (try simp[rQ u116])
theorem Se:bB prog 3 R3:=⟨isAgg3,aM (z:=.int .i64 0) (by kernel_rfl),rfl,fun _=>rfl,rfl,underlying3,(fun ks h=>by injection h with h;subst h;exact gS underlying3)⟩
theorem QZ:bB prog 4 R4:=⟨isAgg4,aM (z:=.bool false) (by kernel_rfl),rfl,fun _=>rfl,rfl,underlying4,(fun ks h=>by cases h)⟩
theorem Qh:bB prog 5 R5:=⟨isAgg5,aM (z:=.int .u8 0) (by kernel_rfl),rfl,fun _=>rfl,rfl,underlying5,(fun ks h=>by injection h with h;subst h;exact gS underlying5)⟩
theorem Rd:bB prog 9 R9:=⟨isAgg9,aM (z:=.string ⟨#[]⟩) (by kernel_rfl),rfl,fun _=>rfl,rfl,underlying9,(fun ks h=>by cases h)⟩
theorem PG:bB prog 22 R22:=⟨isAgg22,aM (z:=.slice none 0 0) (by kernel_rfl),rfl,fun _=>rfl,rfl,underlying22,(fun ks h=>by cases h)⟩
theorem QB:bB prog 23 R23:=⟨isAgg23,aM (z:=.slice none 0 0) (by kernel_rfl),rfl,fun _=>rfl,rfl,underlying23,(fun ks h=>by cases h)⟩
theorem Po:bB prog 24 R24:=⟨isAgg24,aM (z:=.agg #[.slice none 0 0,.slice none 0 0]) (by kernel_rfl),rfl,(fun h=>by cases h),rfl,⟨_,underlying24,rfl⟩,(fun ks h=>by cases h)⟩
theorem OY:bB prog 25 R25:=⟨isAgg25,aM (z:=.agg #[.slice none 0 0,.slice none 0 0]) (by kernel_rfl),rfl,(fun h=>by cases h),rfl,⟨_,underlying25,rfl⟩,(fun ks h=>by cases h)⟩
theorem NJ:bB prog 28 R28:=⟨isAgg28,aM (z:=.int .i64 0) (by kernel_rfl),rfl,fun _=>rfl,rfl,underlying28,(fun ks h=>by injection h with h;subst h;exact gS underlying28)⟩
theorem OP:bB prog 29 R29:=⟨isAgg29,aM (z:=.slice none 0 0) (by kernel_rfl),rfl,fun _=>rfl,rfl,underlying29,(fun ks h=>by cases h)⟩
theorem NH:bB prog 30 R30:=⟨isAgg30,aM (z:=.agg #[.int .i64 0,.slice none 0 0,.slice none 0 0]) (by kernel_rfl),rfl,(fun h=>by cases h),rfl,⟨_,underlying30,rfl⟩,(fun ks h=>by cases h)⟩
theorem Oz:bB prog 31 R31:=⟨isAgg31,aM (z:=.agg #[.int .i64 0,.slice none 0 0,.slice none 0 0]) (by kernel_rfl),rfl,(fun h=>by cases h),rfl,⟨_,underlying31,rfl⟩,(fun ks h=>by cases h)⟩
theorem OG:bB prog 34 R34:=⟨isAgg34,aM (z:=.int .u32 0) (by kernel_rfl),rfl,fun _=>rfl,rfl,underlying34,(fun ks h=>by injection h with h;subst h;exact gS underlying34)⟩
theorem Nz:bB prog 38 R38:=⟨isAgg38,aM (z:=.agg #[.slice none 0 0,.slice none 0 0,.slice none 0 0]) (by kernel_rfl),rfl,(fun h=>by cases h),rfl,⟨_,underlying38,rfl⟩,(fun ks h=>by cases h)⟩
theorem QV:bB prog 39 R39:=⟨isAgg39,aM (z:=.agg #[.slice none 0 0,.slice none 0 0,.slice none 0 0]) (by kernel_rfl),rfl,(fun h=>by cases h),rfl,⟨_,underlying39,rfl⟩,(fun ks h=>by cases h)⟩
theorem Nj:bB prog 40 R40:=⟨isAgg40,aM (z:=.int .i64 0) (by kernel_rfl),rfl,fun _=>rfl,rfl,underlying40,(fun ks h=>by injection h with h;subst h;exact gS underlying40)⟩
theorem PD:bB prog 49 R49:=⟨isAgg49,aM (z:=.map none) (by kernel_rfl),rfl,fun _=>rfl,rfl,underlying49,(fun ks h=>by cases h)⟩
theorem PA:bB prog 55 R55:=⟨isAgg55,aM (z:=.agg #[.int .u32 0,.int .u32 0,.int .u32 0]) (by kernel_rfl),rfl,(fun h=>by cases h),rfl,⟨_,underlying55,rfl⟩,(fun ks h=>by injection h with h;subst h;exact SP)⟩
theorem QA:bB prog 56 R56:=⟨isAgg56,aM (z:=.agg #[.int .u32 0,.int .u32 0,.int .u32 0]) (by kernel_rfl),rfl,(fun h=>by cases h),rfl,⟨_,underlying56,rfl⟩,(fun ks h=>by injection h with h;subst h;exact RE)⟩
theorem NK:bB prog 59 R59:=⟨isAgg59,aM (z:=.map none) (by kernel_rfl),rfl,fun _=>rfl,rfl,underlying59,(fun ks h=>by cases h)⟩
theorem Od:bB prog 60 R60:=⟨isAgg60,aM (z:=.map none) (by kernel_rfl),rfl,fun _=>rfl,rfl,underlying60,(fun ks h=>by cases h)⟩
theorem NQ:bB prog 61 R61:=⟨isAgg61,aM (z:=.agg #[.map none,.map none]) (by kernel_rfl),rfl,(fun h=>by cases h),rfl,⟨_,underlying61,rfl⟩,(fun ks h=>by cases h)⟩
theorem Pu:bB prog 62 R62:=⟨isAgg62,aM (z:=.agg #[.map none,.map none]) (by kernel_rfl),rfl,(fun h=>by cases h),rfl,⟨_,underlying62,rfl⟩,(fun ks h=>by cases h)⟩
theorem Np:bB prog 65 R65:=⟨isAgg65,aM (z:=.map none) (by kernel_rfl),rfl,fun _=>rfl,rfl,underlying65,(fun ks h=>by cases h)⟩
theorem OQ:bB prog 72 R72:=⟨isAgg72,aM (z:=.map none) (by kernel_rfl),rfl,fun _=>rfl,rfl,underlying72,(fun ks h=>by cases h)⟩
theorem QM:bB prog 73 R73:=⟨isAgg73,aM (z:=.agg #[.int .u32 0,.int .u32 0]) (by kernel_rfl),rfl,(fun h=>by cases h),rfl,underlying73,(fun ks h=>by injection h with h;subst h;exact RQ)⟩
theorem Nd:bB prog 77 R77:=⟨isAgg77,aM (z:=.slice none 0 0) (by kernel_rfl),rfl,fun _=>rfl,rfl,underlying77,(fun ks h=>by cases h)⟩
theorem PO:bB prog 80 R80:=⟨isAgg80,aM (z:=.map none) (by kernel_rfl),rfl,fun _=>rfl,rfl,underlying80,(fun ks h=>by cases h)⟩
theorem NN:bB prog 93 R93:=⟨isAgg93,aM (z:=.map none) (by kernel_rfl),rfl,fun _=>rfl,rfl,underlying93,(fun ks h=>by cases h)⟩
theorem PN:bB prog 94 R94:=⟨isAgg94,aM (z:=.agg #[]) (by kernel_rfl),rfl,(fun h=>by cases h),rfl,⟨_,underlying94,rfl⟩,(fun ks h=>by cases h)⟩
theorem QW:bB prog 96 R96:=⟨isAgg96,aM (z:=.int .u64 0) (by kernel_rfl),rfl,fun _=>rfl,rfl,underlying96,(fun ks h=>by injection h with h;subst h;exact gS underlying96)⟩
theorem Pp:bB prog 97 R97:=⟨isAgg97,aM (z:=.map none) (by kernel_rfl),rfl,fun _=>rfl,rfl,underlying97,(fun ks h=>by cases h)⟩
theorem Ld:bB prog 104 Vr:=⟨isAgg104,aM (z:=.pointer none) (by kernel_rfl),rfl,fun _=>rfl,rfl,underlying104,(fun ks h=>by cases h)⟩
theorem LD:bB prog 105 Vc:=⟨isAgg105,aM (z:=.map none) (by kernel_rfl),rfl,fun _=>rfl,rfl,underlying105,(fun ks h=>by cases h)⟩
theorem MG:bB prog 106 Vs:=⟨isAgg106,aM (z:=.slice none 0 0) (by kernel_rfl),rfl,fun _=>rfl,rfl,underlying106,(fun ks h=>by cases h)⟩
theorem LK:bB prog 107 Vm:=⟨isAgg107,aM (z:=.agg #[.slice none 0 0,.map none,.map none,.map none,.slice none 0 0,.slice none 0 0]) (by kernel_rfl),rfl,(fun h=>by cases h),rfl,⟨_,underlying107,rfl⟩,(fun ks h=>by cases h)⟩
theorem LX:bB prog 108 Vk:=⟨isAgg108,aM (z:=.agg #[.slice none 0 0,.map none,.map none,.map none,.slice none 0 0,.slice none 0 0]) (by kernel_rfl),rfl,(fun h=>by cases h),rfl,⟨_,underlying108,rfl⟩,(fun ks h=>by cases h)⟩
theorem Mx:bB prog 113 VD:=⟨isAgg113,aM (z:=.pointer none) (by kernel_rfl),rfl,fun _=>rfl,rfl,underlying113,(fun ks h=>by cases h)⟩
theorem MJ:bB prog 115 Us:=⟨isAgg115,aM (z:=.slice none 0 0) (by kernel_rfl),rfl,fun _=>rfl,rfl,underlying115,(fun ks h=>by cases h)⟩
theorem MB:bB prog 116 VQ:=⟨isAgg116,aM (z:=.int .u64 0) (by kernel_rfl),rfl,fun _=>rfl,rfl,underlying116,(fun ks h=>by injection h with h;subst h;exact gS underlying116)⟩
theorem Le:bB prog 117 Vi:=⟨isAgg117,aM (z:=.slice none 0 0) (by kernel_rfl),rfl,fun _=>rfl,rfl,underlying117,(fun ks h=>by cases h)⟩
theorem ME:bB prog 118 VE:=⟨isAgg118,aM (z:=.agg #[.slice none 0 0,.slice none 0 0,.slice none 0 0,.map none,.map none,.int .u64 0,.slice none 0 0]) (by kernel_rfl),rfl,(fun h=>by cases h),rfl,⟨_,underlying118,rfl⟩,(fun ks h=>by cases h)⟩
theorem MS:bB prog 119 VS:=⟨isAgg119,aM (z:=.agg #[.slice none 0 0,.slice none 0 0,.slice none 0 0,.map none,.map none,.int .u64 0,.slice none 0 0]) (by kernel_rfl),rfl,(fun h=>by cases h),rfl,⟨_,underlying119,rfl⟩,(fun ks h=>by cases h)⟩
theorem LZ:bB prog 120 Vl:=⟨isAgg120,aM (z:=.agg #[.int .u64 0,.int .u64 0]) (by kernel_rfl),rfl,(fun h=>by cases h),rfl,⟨_,underlying120,rfl⟩,(fun ks h=>by injection h with h;subst h;exact Oe)⟩
theorem Lv:bB prog 121 Ut:=⟨isAgg121,aM (z:=.agg #[.int .u64 0,.int .u64 0]) (by kernel_rfl),rfl,(fun h=>by cases h),rfl,⟨_,underlying121,rfl⟩,(fun ks h=>by injection h with h;subst h;exact Nw)⟩
theorem LL:bB prog 126 Vn:=⟨isAgg126,aM (z:=.agg #[.slice none 0 0,.int .u64 0]) (by kernel_rfl),rfl,(fun h=>by cases h),rfl,⟨_,underlying126,rfl⟩,(fun ks h=>by cases h)⟩
theorem LJ:bB prog 127 VW:=⟨isAgg127,aM (z:=.agg #[.slice none 0 0,.int .u64 0]) (by kernel_rfl),rfl,(fun h=>by cases h),rfl,⟨_,underlying127,rfl⟩,(fun ks h=>by cases h)⟩
theorem Ml:bB prog 129 Uz:=⟨isAgg129,aM (z:=.nilFunc) (by kernel_rfl),rfl,fun _=>rfl,rfl,⟨_,_,_,underlying129⟩,(fun ks h=>by cases h)⟩
theorem La:bB prog 140 Uu:=⟨isAgg140,aM (z:=.nilFunc) (by kernel_rfl),rfl,fun _=>rfl,rfl,⟨_,_,_,underlying140⟩,(fun ks h=>by cases h)⟩
theorem Mz:bB prog 148 VM:=⟨isAgg148,aM (z:=.nilFunc) (by kernel_rfl),rfl,fun _=>rfl,rfl,⟨_,_,_,underlying148⟩,(fun ks h=>by cases h)⟩
theorem LS:bB prog 154 Ur:=⟨isAgg154,aM (z:=.slice none 0 0) (by kernel_rfl),rfl,fun _=>rfl,rfl,underlying154,(fun ks h=>by cases h)⟩
theorem My:bB prog 165 Ve:=⟨isAgg165,aM (z:=.int .i64 0) (by kernel_rfl),rfl,fun _=>rfl,rfl,underlying165,(fun ks h=>by injection h with h;subst h;exact gS underlying165)⟩
theorem Li:bB prog 189 VP:=⟨isAgg189,aM (z:=.agg #[.int .u8 0,.int .u8 0,.int .u8 0,.int .u8 0,.int .u8 0,.int .u8 0,.int .u8 0,.int .u8 0,.int .u8 0,.int .u8 0,.int .u8 0,.int .u8 0,.int .u8 0,.int .u8 0,.int .u8 0,.int .u8 0,.int .u8 0,.int .u8 0,.int .u8 0,.int .u8 0,.int .u8 0,.int .u8 0,.int .u8 0,.int .u8 0,.int .u8 0,.int .u8 0,.int .u8 0,.int .u8 0,.int .u8 0,.int .u8 0,.int .u8 0,.int .u8 0,.int .u8 0,.int .u8 0,.int .u8 0,.int .u8 0,.int .u8 0,.int .u8 0,.int .u8 0,.int .u8 0,.int .u8 0,.int .u8 0,.int .u8 0,.int .u8 0,.int .u8 0,.int .u8 0,.int .u8 0,.int .u8 0,.int .u8 0,.int .u8 0,.int .u8 0,.int .u8 0,.int .u8 0,.int .u8 0,.int .u8 0,.int .u8 0,.int .u8 0,.int .u8 0,.int .u8 0,.int .u8 0,.int .u8 0,.int .u8 0,.int .u8 0,.int .u8 0]) (by kernel_rfl),rfl,(fun h=>by cases h),rfl,underlying189,(fun ks h=>by cases h)⟩
theorem Mq:bB prog 196 Vf:=⟨isAgg196,aM (z:=.map none) (by kernel_rfl),rfl,fun _=>rfl,rfl,underlying196,(fun ks h=>by cases h)⟩
theorem LN:bB prog 199 Vt:=⟨isAgg199,aM (z:=.int .u64 0) (by kernel_rfl),rfl,fun _=>rfl,rfl,underlying199,(fun ks h=>by injection h with h;subst h;exact gS underlying199)⟩
theorem Mf:bB prog 203 VI:=⟨isAgg203,aM (z:=.pointer none) (by kernel_rfl),rfl,fun _=>rfl,rfl,underlying203,(fun ks h=>by cases h)⟩
theorem NC:bB prog 212 VT:=⟨isAgg212,aM (z:=.pointer none) (by kernel_rfl),rfl,fun _=>rfl,rfl,underlying212,(fun ks h=>by cases h)⟩
theorem nB:bJ prog tab:=Gh Uw ⟨Se,QZ,Qh,Rd,PG,QB,Po,OY,NJ,OP,NH,Oz,OG,Nz,QV,Nj,PD,PA,QA,NK,Od,NQ,Pu,Np,OQ,QM,Nd,PO,NN,PN,QW,Pp,Ld,LD,MG,LK,LX,Mx,MJ,MB,Le,ME,MS,LZ,Lv,LL,LJ,Ml,La,Mz,LS,My,Li,Mq,LN,Mf,NC,trivial⟩
end Aw
end Go.Proofs.YtempldclppogmaaGreatDoor
