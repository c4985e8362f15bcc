/- The types of this seat's translation, as a table, and that the loaded program has them so. Written by a program (gentab.py). -/
import Derived.Test.YtempldclppogmaaGreatDoorAwDraw
import Derived.Test.YtempldclppogmaaGreatDoorAwArr
import Derived.Test.YtempldclppogmaaGreatDoorProg
import Derived.KernelRfl
import Derived.Tactics
import Derived.Laws.StructEq
set_option linter.unusedVariables false
set_option linter.unusedSimpArgs false
open Go.Proofs.Tryz
namespace Go.Proofs.YtempldclppogmaaGreatDoor
namespace Aw
open Go Go.RowKit
def R3:bI:={ agg:=false,size:=1,bytes:=8,zero:=[.int .i64 0],d:=.int .i64,ck:=some [.i64] }
def R4:bI:={ agg:=false,size:=1,bytes:=1,zero:=[.bool false],d:=.bool }
def R5:bI:={ agg:=false,size:=1,bytes:=1,zero:=[.int .u8 0],d:=.int .u8,ck:=some [.u8] }
def R9:bI:={ agg:=false,size:=1,bytes:=16,zero:=[.string ⟨#[]⟩],d:=.str }
def R22:bI:={ agg:=false,size:=1,bytes:=24,zero:=[.slice none 0 0],d:=.slice 34 }
def R23:bI:={ agg:=false,size:=1,bytes:=24,zero:=[.slice none 0 0],d:=.slice 56 }
def R24:bI:={ agg:=true,size:=2,bytes:=48,zero:=[.slice none 0 0,.slice none 0 0],d:=.struct [(0,22),(1,23)] }
def R25:bI:={ agg:=true,size:=2,bytes:=48,zero:=[.slice none 0 0,.slice none 0 0],d:=.struct [(0,22),(1,23)] }
def R28:bI:={ agg:=false,size:=1,bytes:=8,zero:=[.int .i64 0],d:=.int .i64,ck:=some [.i64] }
def R29:bI:={ agg:=false,size:=1,bytes:=24,zero:=[.slice none 0 0],d:=.slice 22 }
def R30:bI:={ agg:=true,size:=3,bytes:=56,zero:=[.int .i64 0,.slice none 0 0,.slice none 0 0],d:=.struct [(0,28),(1,22),(2,29)] }
def R31:bI:={ agg:=true,size:=3,bytes:=56,zero:=[.int .i64 0,.slice none 0 0,.slice none 0 0],d:=.struct [(0,28),(1,22),(2,29)] }
def R34:bI:={ agg:=false,size:=1,bytes:=4,zero:=[.int .u32 0],d:=.int .u32,ck:=some [.u32] }
def R38:bI:={ agg:=true,size:=3,bytes:=72,zero:=[.slice none 0 0,.slice none 0 0,.slice none 0 0],d:=.struct [(0,25),(2,29)] }
def R39:bI:={ agg:=true,size:=3,bytes:=72,zero:=[.slice none 0 0,.slice none 0 0,.slice none 0 0],d:=.struct [(0,25),(2,29)] }
def R40:bI:={ agg:=false,size:=1,bytes:=8,zero:=[.int .i64 0],d:=.int .i64,ck:=some [.i64] }
def R49:bI:={ agg:=false,size:=1,bytes:=8,zero:=[.map none],d:=.map 34 3 }
def R55:bI:={ agg:=true,size:=3,bytes:=12,zero:=[.int .u32 0,.int .u32 0,.int .u32 0],d:=.struct [(0,34),(1,34),(2,34)],ck:=some [.u32,.u32,.u32] }
def R56:bI:={ agg:=true,size:=3,bytes:=12,zero:=[.int .u32 0,.int .u32 0,.int .u32 0],d:=.struct [(0,34),(1,34),(2,34)],ck:=some [.u32,.u32,.u32] }
def R59:bI:={ agg:=false,size:=1,bytes:=8,zero:=[.map none],d:=.map 34 22 }
def R60:bI:={ agg:=false,size:=1,bytes:=8,zero:=[.map none],d:=.map 34 34 }
def R61:bI:={ agg:=true,size:=2,bytes:=16,zero:=[.map none,.map none],d:=.struct [(0,59),(1,60)] }
def R62:bI:={ agg:=true,size:=2,bytes:=16,zero:=[.map none,.map none],d:=.struct [(0,59),(1,60)] }
def R65:bI:={ agg:=false,size:=1,bytes:=8,zero:=[.map none],d:=.map 3 3 }
def R72:bI:={ agg:=false,size:=1,bytes:=8,zero:=[.map none],d:=.map 73 23 }
def R73:bI:={ agg:=true,size:=2,bytes:=8,zero:=[.int .u32 0,.int .u32 0],d:=.arr 2 34,ck:=some [.u32,.u32] }
def R77:bI:={ agg:=false,size:=1,bytes:=24,zero:=[.slice none 0 0],d:=.slice 23 }
def R80:bI:={ agg:=false,size:=1,bytes:=8,zero:=[.map none],d:=.map 34 60 }
def R93:bI:={ agg:=false,size:=1,bytes:=8,zero:=[.map none],d:=.map 3 94 }
def R94:bI:={ agg:=true,size:=0,bytes:=0,zero:=[],d:=.struct [] }
def R96:bI:={ agg:=false,size:=1,bytes:=8,zero:=[.int .u64 0],d:=.int .u64,ck:=some [.u64] }
def R97:bI:={ agg:=false,size:=1,bytes:=8,zero:=[.map none],d:=.map 73 3 }
def VG:bI:={ agg:=false,size:=1,bytes:=8,zero:=[.pointer none],d:=.ptr 108 }
def Vg:bI:={ agg:=false,size:=1,bytes:=8,zero:=[.map none],d:=.map 34 106 }
def Vn:bI:={ agg:=false,size:=1,bytes:=24,zero:=[.slice none 0 0],d:=.slice 3 }
def VL:bI:={ agg:=true,size:=6,bytes:=96,zero:=[.slice none 0 0,.map none,.map none,.map none,.slice none 0 0,.slice none 0 0],d:=.struct [(0,23),(1,105),(2,49),(3,49),(4,106),(5,77)] }
def VX:bI:={ agg:=true,size:=6,bytes:=96,zero:=[.slice none 0 0,.map none,.map none,.map none,.slice none 0 0,.slice none 0 0],d:=.struct [(0,23),(1,105),(2,49),(3,49),(4,106),(5,77)] }
def Ve:bI:={ agg:=false,size:=1,bytes:=8,zero:=[.pointer none],d:=.ptr 119 }
def VI:bI:={ agg:=false,size:=1,bytes:=24,zero:=[.slice none 0 0],d:=.slice 116 }
def Uq:bI:={ agg:=false,size:=1,bytes:=8,zero:=[.int .u64 0],d:=.int .u64,ck:=some [.u64] }
def Us:bI:={ agg:=false,size:=1,bytes:=24,zero:=[.slice none 0 0],d:=.slice 127 }
def Va:bI:={ agg:=true,size:=7,bytes:=120,zero:=[.slice none 0 0,.slice none 0 0,.slice none 0 0,.map none,.map none,.int .u64 0,.slice none 0 0],d:=.struct [(0,25),(2,115),(3,49),(4,97),(5,116),(6,117)] }
def Vs:bI:={ agg:=true,size:=7,bytes:=120,zero:=[.slice none 0 0,.slice none 0 0,.slice none 0 0,.map none,.map none,.int .u64 0,.slice none 0 0],d:=.struct [(0,25),(2,115),(3,49),(4,97),(5,116),(6,117)] }
def Vt:bI:={ agg:=true,size:=2,bytes:=16,zero:=[.int .u64 0,.int .u64 0],d:=.struct [(0,116),(1,116)],ck:=some [.u64,.u64] }
def Vh:bI:={ agg:=true,size:=2,bytes:=16,zero:=[.int .u64 0,.int .u64 0],d:=.struct [(0,116),(1,116)],ck:=some [.u64,.u64] }
def VO:bI:={ agg:=true,size:=2,bytes:=32,zero:=[.slice none 0 0,.int .u64 0],d:=.struct [(0,22),(1,116)] }
def VS:bI:={ agg:=true,size:=2,bytes:=32,zero:=[.slice none 0 0,.int .u64 0],d:=.struct [(0,22),(1,116)] }
def Vk:bI:={ agg:=false,size:=1,bytes:=8,zero:=[.nilFunc],d:=.func }
def Vb:bI:={ agg:=false,size:=1,bytes:=8,zero:=[.nilFunc],d:=.func }
def Vx:bI:={ agg:=false,size:=1,bytes:=8,zero:=[.nilFunc],d:=.func }
def Vz:bI:={ agg:=false,size:=1,bytes:=24,zero:=[.slice none 0 0],d:=.slice 121 }
def Vc:bI:={ agg:=false,size:=1,bytes:=8,zero:=[.int .i64 0],d:=.int .i64,ck:=some [.i64] }
def VY:bI:={ agg:=true,size:=64,bytes:=64,zero:=(List.replicate 64 (.int .u8 0)),d:=.arr 64 5 }
def Vy:bI:={ agg:=false,size:=1,bytes:=8,zero:=[.map none],d:=.map 34 4 }
def VU:bI:={ agg:=false,size:=1,bytes:=8,zero:=[.int .u64 0],d:=.int .u64,ck:=some [.u64] }
def VJ:bI:={ agg:=false,size:=1,bytes:=8,zero:=[.pointer none],d:=.ptr 3 }
def VM:bI:={ agg:=false,size:=1,bytes:=8,zero:=[.pointer none],d:=.ptr 199 }
def Uz:List (Nat×bI):=[(3,R3),(4,R4),(5,R5),(9,R9),(22,R22),(23,R23),(24,R24),(25,R25),(28,R28),(29,R29),(30,R30),(31,R31),(34,R34),(38,R38),(39,R39),(40,R40),(49,R49),(55,R55),(56,R56),(59,R59),(60,R60),(61,R61),(62,R62),(65,R65),(72,R72),(73,R73),(77,R77),(80,R80),(93,R93),(94,R94),(96,R96),(97,R97),(104,VG),(105,Vg),(106,Vn),(107,VL),(108,VX),(113,Ve),(115,VI),(116,Uq),(117,Us),(118,Va),(119,Vs),(120,Vt),(121,Vh),(126,VO),(127,VS),(129,Vk),(140,Vb),(148,Vx),(154,Vz),(165,Vc),(189,VY),(196,Vy),(199,VU),(203,VJ),(212,VM)]
def tab:Tab:=Ge Uz
@[simp] theorem Xf:tab 3=some { agg:=false,size:=1,bytes:=8,zero:=[.int .i64 0],d:=.int .i64,ck:=some [.i64] }:=rfl
@[simp] theorem Xc:tab 4=some { agg:=false,size:=1,bytes:=1,zero:=[.bool false],d:=.bool }:=rfl
@[simp] theorem Xe:tab 5=some { agg:=false,size:=1,bytes:=1,zero:=[.int .u8 0],d:=.int .u8,ck:=some [.u8] }:=rfl
@[simp] theorem Xd:tab 9=some { agg:=false,size:=1,bytes:=16,zero:=[.string ⟨#[]⟩],d:=.str }:=rfl
@[simp] theorem Wu:tab 22=some { agg:=false,size:=1,bytes:=24,zero:=[.slice none 0 0],d:=.slice 34 }:=rfl
@[simp] theorem XX:tab 23=some { agg:=false,size:=1,bytes:=24,zero:=[.slice none 0 0],d:=.slice 56 }:=rfl
@[simp] theorem Wq:tab 24=some { agg:=true,size:=2,bytes:=48,zero:=[.slice none 0 0,.slice none 0 0],d:=.struct [(0,22),(1,23)] }:=rfl
@[simp] theorem Wz:tab 25=some { agg:=true,size:=2,bytes:=48,zero:=[.slice none 0 0,.slice none 0 0],d:=.struct [(0,22),(1,23)] }:=rfl
@[simp] theorem XZ:tab 28=some { agg:=false,size:=1,bytes:=8,zero:=[.int .i64 0],d:=.int .i64,ck:=some [.i64] }:=rfl
@[simp] theorem XB:tab 29=some { agg:=false,size:=1,bytes:=24,zero:=[.slice none 0 0],d:=.slice 22 }:=rfl
@[simp] theorem XC:tab 30=some { agg:=true,size:=3,bytes:=56,zero:=[.int .i64 0,.slice none 0 0,.slice none 0 0],d:=.struct [(0,28),(1,22),(2,29)] }:=rfl
@[simp] theorem We:tab 31=some { agg:=true,size:=3,bytes:=56,zero:=[.int .i64 0,.slice none 0 0,.slice none 0 0],d:=.struct [(0,28),(1,22),(2,29)] }:=rfl
@[simp] theorem Wh:tab 34=some { agg:=false,size:=1,bytes:=4,zero:=[.int .u32 0],d:=.int .u32,ck:=some [.u32] }:=rfl
@[simp] theorem Ww:tab 38=some { agg:=true,size:=3,bytes:=72,zero:=[.slice none 0 0,.slice none 0 0,.slice none 0 0],d:=.struct [(0,25),(2,29)] }:=rfl
@[simp] theorem XO:tab 39=some { agg:=true,size:=3,bytes:=72,zero:=[.slice none 0 0,.slice none 0 0,.slice none 0 0],d:=.struct [(0,25),(2,29)] }:=rfl
@[simp] theorem XG:tab 40=some { agg:=false,size:=1,bytes:=8,zero:=[.int .i64 0],d:=.int .i64,ck:=some [.i64] }:=rfl
@[simp] theorem XN:tab 49=some { agg:=false,size:=1,bytes:=8,zero:=[.map none],d:=.map 34 3 }:=rfl
@[simp] theorem Wi:tab 55=some { agg:=true,size:=3,bytes:=12,zero:=[.int .u32 0,.int .u32 0,.int .u32 0],d:=.struct [(0,34),(1,34),(2,34)],ck:=some [.u32,.u32,.u32] }:=rfl
@[simp] theorem XK:tab 56=some { agg:=true,size:=3,bytes:=12,zero:=[.int .u32 0,.int .u32 0,.int .u32 0],d:=.struct [(0,34),(1,34),(2,34)],ck:=some [.u32,.u32,.u32] }:=rfl
@[simp] theorem Wm:tab 59=some { agg:=false,size:=1,bytes:=8,zero:=[.map none],d:=.map 34 22 }:=rfl
@[simp] theorem Wj:tab 60=some { agg:=false,size:=1,bytes:=8,zero:=[.map none],d:=.map 34 34 }:=rfl
@[simp] theorem XW:tab 61=some { agg:=true,size:=2,bytes:=16,zero:=[.map none,.map none],d:=.struct [(0,59),(1,60)] }:=rfl
@[simp] theorem XA:tab 62=some { agg:=true,size:=2,bytes:=16,zero:=[.map none,.map none],d:=.struct [(0,59),(1,60)] }:=rfl
@[simp] theorem XT:tab 65=some { agg:=false,size:=1,bytes:=8,zero:=[.map none],d:=.map 3 3 }:=rfl
@[simp] theorem XU:tab 72=some { agg:=false,size:=1,bytes:=8,zero:=[.map none],d:=.map 73 23 }:=rfl
@[simp] theorem XP:tab 73=some { agg:=true,size:=2,bytes:=8,zero:=[.int .u32 0,.int .u32 0],d:=.arr 2 34,ck:=some [.u32,.u32] }:=rfl
@[simp] theorem Wr:tab 77=some { agg:=false,size:=1,bytes:=24,zero:=[.slice none 0 0],d:=.slice 23 }:=rfl
@[simp] theorem XH:tab 80=some { agg:=false,size:=1,bytes:=8,zero:=[.map none],d:=.map 34 60 }:=rfl
@[simp] theorem Wv:tab 93=some { agg:=false,size:=1,bytes:=8,zero:=[.map none],d:=.map 3 94 }:=rfl
@[simp] theorem XY:tab 94=some { agg:=true,size:=0,bytes:=0,zero:=[],d:=.struct [] }:=rfl
@[simp] theorem XF:tab 96=some { agg:=false,size:=1,bytes:=8,zero:=[.int .u64 0],d:=.int .u64,ck:=some [.u64] }:=rfl
@[simp] theorem Wo:tab 97=some { agg:=false,size:=1,bytes:=8,zero:=[.map none],d:=.map 73 3 }:=rfl
@[simp] theorem WI:tab 104=some { agg:=false,size:=1,bytes:=8,zero:=[.pointer none],d:=.ptr 108 }:=rfl
@[simp] theorem WL:tab 105=some { agg:=false,size:=1,bytes:=8,zero:=[.map none],d:=.map 34 106 }:=rfl
@[simp] theorem Wb:tab 106=some { agg:=false,size:=1,bytes:=24,zero:=[.slice none 0 0],d:=.slice 3 }:=rfl
@[simp] theorem WQ:tab 107=some { agg:=true,size:=6,bytes:=96,zero:=[.slice none 0 0,.map none,.map none,.map none,.slice none 0 0,.slice none 0 0],d:=.struct [(0,23),(1,105),(2,49),(3,49),(4,106),(5,77)] }:=rfl
@[simp] theorem WW:tab 108=some { agg:=true,size:=6,bytes:=96,zero:=[.slice none 0 0,.map none,.map none,.map none,.slice none 0 0,.slice none 0 0],d:=.struct [(0,23),(1,105),(2,49),(3,49),(4,106),(5,77)] }:=rfl
@[simp] theorem WZ:tab 113=some { agg:=false,size:=1,bytes:=8,zero:=[.pointer none],d:=.ptr 119 }:=rfl
@[simp] theorem WK:tab 115=some { agg:=false,size:=1,bytes:=24,zero:=[.slice none 0 0],d:=.slice 116 }:=rfl
@[simp] theorem WD:tab 116=some { agg:=false,size:=1,bytes:=8,zero:=[.int .u64 0],d:=.int .u64,ck:=some [.u64] }:=rfl
@[simp] theorem WX:tab 117=some { agg:=false,size:=1,bytes:=24,zero:=[.slice none 0 0],d:=.slice 127 }:=rfl
@[simp] theorem WJ:tab 118=some { agg:=true,size:=7,bytes:=120,zero:=[.slice none 0 0,.slice none 0 0,.slice none 0 0,.map none,.map none,.int .u64 0,.slice none 0 0],d:=.struct [(0,25),(2,115),(3,49),(4,97),(5,116),(6,117)] }:=rfl
@[simp] theorem Wa:tab 119=some { agg:=true,size:=7,bytes:=120,zero:=[.slice none 0 0,.slice none 0 0,.slice none 0 0,.map none,.map none,.int .u64 0,.slice none 0 0],d:=.struct [(0,25),(2,115),(3,49),(4,97),(5,116),(6,117)] }:=rfl
@[simp] theorem WG:tab 120=some { agg:=true,size:=2,bytes:=16,zero:=[.int .u64 0,.int .u64 0],d:=.struct [(0,116),(1,116)],ck:=some [.u64,.u64] }:=rfl
@[simp] theorem WR:tab 121=some { agg:=true,size:=2,bytes:=16,zero:=[.int .u64 0,.int .u64 0],d:=.struct [(0,116),(1,116)],ck:=some [.u64,.u64] }:=rfl
@[simp] theorem WS:tab 126=some { agg:=true,size:=2,bytes:=32,zero:=[.slice none 0 0,.int .u64 0],d:=.struct [(0,22),(1,116)] }:=rfl
@[simp] theorem WO:tab 127=some { agg:=true,size:=2,bytes:=32,zero:=[.slice none 0 0,.int .u64 0],d:=.struct [(0,22),(1,116)] }:=rfl
@[simp] theorem Wc:tab 129=some { agg:=false,size:=1,bytes:=8,zero:=[.nilFunc],d:=.func }:=rfl
@[simp] theorem WM:tab 140=some { agg:=false,size:=1,bytes:=8,zero:=[.nilFunc],d:=.func }:=rfl
@[simp] theorem WH:tab 148=some { agg:=false,size:=1,bytes:=8,zero:=[.nilFunc],d:=.func }:=rfl
@[simp] theorem WV:tab 154=some { agg:=false,size:=1,bytes:=24,zero:=[.slice none 0 0],d:=.slice 121 }:=rfl
@[simp] theorem WT:tab 165=some { agg:=false,size:=1,bytes:=8,zero:=[.int .i64 0],d:=.int .i64,ck:=some [.i64] }:=rfl
@[simp] theorem WY:tab 189=some { agg:=true,size:=64,bytes:=64,zero:=(List.replicate 64 (.int .u8 0)),d:=.arr 64 5 }:=rfl
@[simp] theorem Wd:tab 196=some { agg:=false,size:=1,bytes:=8,zero:=[.map none],d:=.map 34 4 }:=rfl
@[simp] theorem WN:tab 199=some { agg:=false,size:=1,bytes:=8,zero:=[.int .u64 0],d:=.int .u64,ck:=some [.u64] }:=rfl
@[simp] theorem WE:tab 203=some { agg:=false,size:=1,bytes:=8,zero:=[.pointer none],d:=.ptr 3 }:=rfl
@[simp] theorem WC:tab 212=some { agg:=false,size:=1,bytes:=8,zero:=[.pointer none],d:=.ptr 199 }:=rfl
theorem aM{P:Program}{t size bytes:Nat}{z:Value}(h:(P.info? t).map (fun i=>(i.size,i.bytes,i.zero))=some (size,bytes,some z)):∃ i,P.info? t=some i/\i.size=size/\i.bytes=bytes/\i.zero=some z:=by
 cases hi:P.info? t with
 |none=>simp[hi]at h
 |some i=>simp only[hi,Option.map_some,aAb,aAV]at h;exact⟨i,rfl,h.1,h.2.1,h.2.2⟩
theorem Rd:FD prog 55 true [.u32,.u32,.u32]:=by
 have u34:=underlying34;have a34:=isAgg34;have z34:=Tryz.sizeOf34;have hp:prog.stoodInHeld 55=false:=by kernel_rfl
 refine⟨fun w E4 X0 h1 h2=>?_,fun w em E4 h1=>?_,fun _=>by kernel_rfl,(fun h=>by cases h),_,underlying55,.inr fun E4 X0 h1 h2=>by simp[mkV,Instr.sameNow]⟩
 .match E4,X0,h1,h2 with
  |[x0,x1,x2],[y0,y1,y2],_,_=>
   have hS:prog.underlying 55=some (.struct (prog.fieldsOf 55)):=by kernel_rfl
   simp only[mkV,mkC,aBn];unfold Op.equal Op.maxDepth;rw[show(10000:Nat)=9999+1 from rfl,run_equalIn_agg w 9999 55 _ _ hS hp];simp only[Program.fieldsOf,underlying55]
   go_simp
   by_cases e0:x0=y0<;>by_cases e1:x1=y1<;>by_cases e2:x2=y2<;>simp[e0,e1,e2]
 .match E4,h1 with
  |[x0,x1,x2],_=>
   simp only[mkV,mkC,aBn];unfold Instr.checkKey;simp only[Sem.run_bind,run_underlying underlying55,Result.andThen_ok]
   go_simp
   (try simp[rI u34])
theorem RA:FD prog 56 true [.u32,.u32,.u32]:=by
 have u34:=underlying34;have a34:=isAgg34;have z34:=Tryz.sizeOf34;have hp:prog.stoodInHeld 56=false:=by kernel_rfl
 refine⟨fun w E4 X0 h1 h2=>?_,fun w em E4 h1=>?_,fun _=>by kernel_rfl,(fun h=>by cases h),_,underlying56,.inr fun E4 X0 h1 h2=>by simp[mkV,Instr.sameNow]⟩
 .match E4,X0,h1,h2 with
  |[x0,x1,x2],[y0,y1,y2],_,_=>
   have hS:prog.underlying 56=some (.struct (prog.fieldsOf 56)):=by kernel_rfl
   simp only[mkV,mkC,aBn];unfold Op.equal Op.maxDepth;rw[show(10000:Nat)=9999+1 from rfl,run_equalIn_agg w 9999 56 _ _ hS hp];simp only[Program.fieldsOf,underlying56]
   go_simp
   by_cases e0:x0=y0<;>by_cases e1:x1=y1<;>by_cases e2:x2=y2<;>simp[e0,e1,e2]
 .match E4,h1 with
  |[x0,x1,x2],_=>
   simp only[mkV,mkC,aBn];unfold Instr.checkKey;simp only[Sem.run_bind,run_underlying underlying56,Result.andThen_ok]
   go_simp
   (try simp[rI u34])
theorem Qd:FD prog 73 true [.u32,.u32]:=MD underlying73 underlying34 isAgg34 Tryz.sizeOf34 (by kernel_rfl) (by kernel_rfl)
theorem Nj:FD prog 120 true [.u64,.u64]:=by
 have u116:=underlying116;have a116:=isAgg116;have z116:=Tryz.sizeOf116;have hp:prog.stoodInHeld 120=false:=by kernel_rfl
 refine⟨fun w E4 X0 h1 h2=>?_,fun w em E4 h1=>?_,fun _=>by kernel_rfl,(fun h=>by cases h),_,underlying120,.inr fun E4 X0 h1 h2=>by simp[mkV,Instr.sameNow]⟩
 .match E4,X0,h1,h2 with
  |[x0,x1],[y0,y1],_,_=>
   have hS:prog.underlying 120=some (.struct (prog.fieldsOf 120)):=by kernel_rfl
   simp only[mkV,mkC,aBn];unfold Op.equal Op.maxDepth;rw[show(10000:Nat)=9999+1 from rfl,run_equalIn_agg w 9999 120 _ _ hS hp];simp only[Program.fieldsOf,underlying120]
   go_simp
   by_cases e0:x0=y0<;>by_cases e1:x1=y1<;>simp[e0,e1]
 .match E4,h1 with
  |[x0,x1],_=>
   simp only[mkV,mkC,aBn];unfold Instr.checkKey;simp only[Sem.run_bind,run_underlying underlying120,Result.andThen_ok]
   go_simp
   (try simp[rI u116])
theorem On:FD prog 121 true [.u64,.u64]:=by
 have u116:=underlying116;have a116:=isAgg116;have z116:=Tryz.sizeOf116;have hp:prog.stoodInHeld 121=false:=by kernel_rfl
 refine⟨fun w E4 X0 h1 h2=>?_,fun w em E4 h1=>?_,fun _=>by kernel_rfl,(fun h=>by cases h),_,underlying121,.inr fun E4 X0 h1 h2=>by simp[mkV,Instr.sameNow]⟩
 .match E4,X0,h1,h2 with
  |[x0,x1],[y0,y1],_,_=>
   have hS:prog.underlying 121=some (.struct (prog.fieldsOf 121)):=by kernel_rfl
   simp only[mkV,mkC,aBn];unfold Op.equal Op.maxDepth;rw[show(10000:Nat)=9999+1 from rfl,run_equalIn_agg w 9999 121 _ _ hS hp];simp only[Program.fieldsOf,underlying121]
   go_simp
   by_cases e0:x0=y0<;>by_cases e1:x1=y1<;>simp[e0,e1]
 .match E4,h1 with
  |[x0,x1],_=>
   simp only[mkV,mkC,aBn];unfold Instr.checkKey;simp only[Sem.run_bind,run_underlying underlying121,Result.andThen_ok]
   go_simp
   (try simp[rI u116])
theorem SM:bA prog 3 R3:=⟨isAgg3,aM (z:=.int .i64 0) (by kernel_rfl),rfl,fun _=>rfl,rfl,underlying3,(fun ks h=>by injection h with h;subst h;exact gC underlying3)⟩
theorem RJ:bA prog 4 R4:=⟨isAgg4,aM (z:=.bool false) (by kernel_rfl),rfl,fun _=>rfl,rfl,underlying4,(fun ks h=>by cases h)⟩
theorem RE:bA prog 5 R5:=⟨isAgg5,aM (z:=.int .u8 0) (by kernel_rfl),rfl,fun _=>rfl,rfl,underlying5,(fun ks h=>by injection h with h;subst h;exact gC underlying5)⟩
theorem RI:bA prog 9 R9:=⟨isAgg9,aM (z:=.string ⟨#[]⟩) (by kernel_rfl),rfl,fun _=>rfl,rfl,underlying9,(fun ks h=>by cases h)⟩
theorem Pg:bA prog 22 R22:=⟨isAgg22,aM (z:=.slice none 0 0) (by kernel_rfl),rfl,fun _=>rfl,rfl,underlying22,(fun ks h=>by cases h)⟩
theorem PX:bA prog 23 R23:=⟨isAgg23,aM (z:=.slice none 0 0) (by kernel_rfl),rfl,fun _=>rfl,rfl,underlying23,(fun ks h=>by cases h)⟩
theorem PT:bA prog 24 R24:=⟨isAgg24,aM (z:=.agg #[.slice none 0 0,.slice none 0 0]) (by kernel_rfl),rfl,(fun h=>by cases h),rfl,⟨_,underlying24,rfl⟩,(fun ks h=>by cases h)⟩
theorem NJ:bA prog 25 R25:=⟨isAgg25,aM (z:=.agg #[.slice none 0 0,.slice none 0 0]) (by kernel_rfl),rfl,(fun h=>by cases h),rfl,⟨_,underlying25,rfl⟩,(fun ks h=>by cases h)⟩
theorem PG:bA prog 28 R28:=⟨isAgg28,aM (z:=.int .i64 0) (by kernel_rfl),rfl,fun _=>rfl,rfl,underlying28,(fun ks h=>by injection h with h;subst h;exact gC underlying28)⟩
theorem PV:bA prog 29 R29:=⟨isAgg29,aM (z:=.slice none 0 0) (by kernel_rfl),rfl,fun _=>rfl,rfl,underlying29,(fun ks h=>by cases h)⟩
theorem QB:bA prog 30 R30:=⟨isAgg30,aM (z:=.agg #[.int .i64 0,.slice none 0 0,.slice none 0 0]) (by kernel_rfl),rfl,(fun h=>by cases h),rfl,⟨_,underlying30,rfl⟩,(fun ks h=>by cases h)⟩
theorem OQ:bA prog 31 R31:=⟨isAgg31,aM (z:=.agg #[.int .i64 0,.slice none 0 0,.slice none 0 0]) (by kernel_rfl),rfl,(fun h=>by cases h),rfl,⟨_,underlying31,rfl⟩,(fun ks h=>by cases h)⟩
theorem QK:bA prog 34 R34:=⟨isAgg34,aM (z:=.int .u32 0) (by kernel_rfl),rfl,fun _=>rfl,rfl,underlying34,(fun ks h=>by injection h with h;subst h;exact gC underlying34)⟩
theorem OL:bA prog 38 R38:=⟨isAgg38,aM (z:=.agg #[.slice none 0 0,.slice none 0 0,.slice none 0 0]) (by kernel_rfl),rfl,(fun h=>by cases h),rfl,⟨_,underlying38,rfl⟩,(fun ks h=>by cases h)⟩
theorem Ph:bA prog 39 R39:=⟨isAgg39,aM (z:=.agg #[.slice none 0 0,.slice none 0 0,.slice none 0 0]) (by kernel_rfl),rfl,(fun h=>by cases h),rfl,⟨_,underlying39,rfl⟩,(fun ks h=>by cases h)⟩
theorem PC:bA prog 40 R40:=⟨isAgg40,aM (z:=.int .i64 0) (by kernel_rfl),rfl,fun _=>rfl,rfl,underlying40,(fun ks h=>by injection h with h;subst h;exact gC underlying40)⟩
theorem NH:bA prog 49 R49:=⟨isAgg49,aM (z:=.map none) (by kernel_rfl),rfl,fun _=>rfl,rfl,underlying49,(fun ks h=>by cases h)⟩
theorem Pw:bA prog 55 R55:=⟨isAgg55,aM (z:=.agg #[.int .u32 0,.int .u32 0,.int .u32 0]) (by kernel_rfl),rfl,(fun h=>by cases h),rfl,⟨_,underlying55,rfl⟩,(fun ks h=>by injection h with h;subst h;exact Rd)⟩
theorem OB:bA prog 56 R56:=⟨isAgg56,aM (z:=.agg #[.int .u32 0,.int .u32 0,.int .u32 0]) (by kernel_rfl),rfl,(fun h=>by cases h),rfl,⟨_,underlying56,rfl⟩,(fun ks h=>by injection h with h;subst h;exact RA)⟩
theorem Ou:bA prog 59 R59:=⟨isAgg59,aM (z:=.map none) (by kernel_rfl),rfl,fun _=>rfl,rfl,underlying59,(fun ks h=>by cases h)⟩
theorem NI:bA prog 60 R60:=⟨isAgg60,aM (z:=.map none) (by kernel_rfl),rfl,fun _=>rfl,rfl,underlying60,(fun ks h=>by cases h)⟩
theorem QX:bA prog 61 R61:=⟨isAgg61,aM (z:=.agg #[.map none,.map none]) (by kernel_rfl),rfl,(fun h=>by cases h),rfl,⟨_,underlying61,rfl⟩,(fun ks h=>by cases h)⟩
theorem Nh:bA prog 62 R62:=⟨isAgg62,aM (z:=.agg #[.map none,.map none]) (by kernel_rfl),rfl,(fun h=>by cases h),rfl,⟨_,underlying62,rfl⟩,(fun ks h=>by cases h)⟩
theorem PK:bA prog 65 R65:=⟨isAgg65,aM (z:=.map none) (by kernel_rfl),rfl,fun _=>rfl,rfl,underlying65,(fun ks h=>by cases h)⟩
theorem Ns:bA prog 72 R72:=⟨isAgg72,aM (z:=.map none) (by kernel_rfl),rfl,fun _=>rfl,rfl,underlying72,(fun ks h=>by cases h)⟩
theorem PL:bA prog 73 R73:=⟨isAgg73,aM (z:=.agg #[.int .u32 0,.int .u32 0]) (by kernel_rfl),rfl,(fun h=>by cases h),rfl,underlying73,(fun ks h=>by injection h with h;subst h;exact Qd)⟩
theorem Ol:bA prog 77 R77:=⟨isAgg77,aM (z:=.slice none 0 0) (by kernel_rfl),rfl,fun _=>rfl,rfl,underlying77,(fun ks h=>by cases h)⟩
theorem Ng:bA prog 80 R80:=⟨isAgg80,aM (z:=.map none) (by kernel_rfl),rfl,fun _=>rfl,rfl,underlying80,(fun ks h=>by cases h)⟩
theorem Qc:bA prog 93 R93:=⟨isAgg93,aM (z:=.map none) (by kernel_rfl),rfl,fun _=>rfl,rfl,underlying93,(fun ks h=>by cases h)⟩
theorem QY:bA prog 94 R94:=⟨isAgg94,aM (z:=.agg #[]) (by kernel_rfl),rfl,(fun h=>by cases h),rfl,⟨_,underlying94,rfl⟩,(fun ks h=>by cases h)⟩
theorem Ps:bA prog 96 R96:=⟨isAgg96,aM (z:=.int .u64 0) (by kernel_rfl),rfl,fun _=>rfl,rfl,underlying96,(fun ks h=>by injection h with h;subst h;exact gC underlying96)⟩
theorem OW:bA prog 97 R97:=⟨isAgg97,aM (z:=.map none) (by kernel_rfl),rfl,fun _=>rfl,rfl,underlying97,(fun ks h=>by cases h)⟩
theorem LP:bA prog 104 VG:=⟨isAgg104,aM (z:=.pointer none) (by kernel_rfl),rfl,fun _=>rfl,rfl,underlying104,(fun ks h=>by cases h)⟩
theorem MY:bA prog 105 Vg:=⟨isAgg105,aM (z:=.map none) (by kernel_rfl),rfl,fun _=>rfl,rfl,underlying105,(fun ks h=>by cases h)⟩
theorem Ms:bA prog 106 Vn:=⟨isAgg106,aM (z:=.slice none 0 0) (by kernel_rfl),rfl,fun _=>rfl,rfl,underlying106,(fun ks h=>by cases h)⟩
theorem MN:bA prog 107 VL:=⟨isAgg107,aM (z:=.agg #[.slice none 0 0,.map none,.map none,.map none,.slice none 0 0,.slice none 0 0]) (by kernel_rfl),rfl,(fun h=>by cases h),rfl,⟨_,underlying107,rfl⟩,(fun ks h=>by cases h)⟩
theorem Lf:bA prog 108 VX:=⟨isAgg108,aM (z:=.agg #[.slice none 0 0,.map none,.map none,.map none,.slice none 0 0,.slice none 0 0]) (by kernel_rfl),rfl,(fun h=>by cases h),rfl,⟨_,underlying108,rfl⟩,(fun ks h=>by cases h)⟩
theorem LB:bA prog 113 Ve:=⟨isAgg113,aM (z:=.pointer none) (by kernel_rfl),rfl,fun _=>rfl,rfl,underlying113,(fun ks h=>by cases h)⟩
theorem LF:bA prog 115 VI:=⟨isAgg115,aM (z:=.slice none 0 0) (by kernel_rfl),rfl,fun _=>rfl,rfl,underlying115,(fun ks h=>by cases h)⟩
theorem Li:bA prog 116 Uq:=⟨isAgg116,aM (z:=.int .u64 0) (by kernel_rfl),rfl,fun _=>rfl,rfl,underlying116,(fun ks h=>by injection h with h;subst h;exact gC underlying116)⟩
theorem MV:bA prog 117 Us:=⟨isAgg117,aM (z:=.slice none 0 0) (by kernel_rfl),rfl,fun _=>rfl,rfl,underlying117,(fun ks h=>by cases h)⟩
theorem MR:bA prog 118 Va:=⟨isAgg118,aM (z:=.agg #[.slice none 0 0,.slice none 0 0,.slice none 0 0,.map none,.map none,.int .u64 0,.slice none 0 0]) (by kernel_rfl),rfl,(fun h=>by cases h),rfl,⟨_,underlying118,rfl⟩,(fun ks h=>by cases h)⟩
theorem MB:bA prog 119 Vs:=⟨isAgg119,aM (z:=.agg #[.slice none 0 0,.slice none 0 0,.slice none 0 0,.map none,.map none,.int .u64 0,.slice none 0 0]) (by kernel_rfl),rfl,(fun h=>by cases h),rfl,⟨_,underlying119,rfl⟩,(fun ks h=>by cases h)⟩
theorem MA:bA prog 120 Vt:=⟨isAgg120,aM (z:=.agg #[.int .u64 0,.int .u64 0]) (by kernel_rfl),rfl,(fun h=>by cases h),rfl,⟨_,underlying120,rfl⟩,(fun ks h=>by injection h with h;subst h;exact Nj)⟩
theorem LQ:bA prog 121 Vh:=⟨isAgg121,aM (z:=.agg #[.int .u64 0,.int .u64 0]) (by kernel_rfl),rfl,(fun h=>by cases h),rfl,⟨_,underlying121,rfl⟩,(fun ks h=>by injection h with h;subst h;exact On)⟩
theorem NA:bA prog 126 VO:=⟨isAgg126,aM (z:=.agg #[.slice none 0 0,.int .u64 0]) (by kernel_rfl),rfl,(fun h=>by cases h),rfl,⟨_,underlying126,rfl⟩,(fun ks h=>by cases h)⟩
theorem Ky:bA prog 127 VS:=⟨isAgg127,aM (z:=.agg #[.slice none 0 0,.int .u64 0]) (by kernel_rfl),rfl,(fun h=>by cases h),rfl,⟨_,underlying127,rfl⟩,(fun ks h=>by cases h)⟩
theorem MZ:bA prog 129 Vk:=⟨isAgg129,aM (z:=.nilFunc) (by kernel_rfl),rfl,fun _=>rfl,rfl,⟨_,_,_,underlying129⟩,(fun ks h=>by cases h)⟩
theorem LR:bA prog 140 Vb:=⟨isAgg140,aM (z:=.nilFunc) (by kernel_rfl),rfl,fun _=>rfl,rfl,⟨_,_,_,underlying140⟩,(fun ks h=>by cases h)⟩
theorem Ly:bA prog 148 Vx:=⟨isAgg148,aM (z:=.nilFunc) (by kernel_rfl),rfl,fun _=>rfl,rfl,⟨_,_,_,underlying148⟩,(fun ks h=>by cases h)⟩
theorem LZ:bA prog 154 Vz:=⟨isAgg154,aM (z:=.slice none 0 0) (by kernel_rfl),rfl,fun _=>rfl,rfl,underlying154,(fun ks h=>by cases h)⟩
theorem Lt:bA prog 165 Vc:=⟨isAgg165,aM (z:=.int .i64 0) (by kernel_rfl),rfl,fun _=>rfl,rfl,underlying165,(fun ks h=>by injection h with h;subst h;exact gC underlying165)⟩
theorem Mw:bA prog 189 VY:=⟨isAgg189,aM (z:=.agg #[.int .u8 0,.int .u8 0,.int .u8 0,.int .u8 0,.int .u8 0,.int .u8 0,.int .u8 0,.int .u8 0,.int .u8 0,.int .u8 0,.int .u8 0,.int .u8 0,.int .u8 0,.int .u8 0,.int .u8 0,.int .u8 0,.int .u8 0,.int .u8 0,.int .u8 0,.int .u8 0,.int .u8 0,.int .u8 0,.int .u8 0,.int .u8 0,.int .u8 0,.int .u8 0,.int .u8 0,.int .u8 0,.int .u8 0,.int .u8 0,.int .u8 0,.int .u8 0,.int .u8 0,.int .u8 0,.int .u8 0,.int .u8 0,.int .u8 0,.int .u8 0,.int .u8 0,.int .u8 0,.int .u8 0,.int .u8 0,.int .u8 0,.int .u8 0,.int .u8 0,.int .u8 0,.int .u8 0,.int .u8 0,.int .u8 0,.int .u8 0,.int .u8 0,.int .u8 0,.int .u8 0,.int .u8 0,.int .u8 0,.int .u8 0,.int .u8 0,.int .u8 0,.int .u8 0,.int .u8 0,.int .u8 0,.int .u8 0,.int .u8 0,.int .u8 0]) (by kernel_rfl),rfl,(fun h=>by cases h),rfl,underlying189,(fun ks h=>by cases h)⟩
theorem MQ:bA prog 196 Vy:=⟨isAgg196,aM (z:=.map none) (by kernel_rfl),rfl,fun _=>rfl,rfl,underlying196,(fun ks h=>by cases h)⟩
theorem Mj:bA prog 199 VU:=⟨isAgg199,aM (z:=.int .u64 0) (by kernel_rfl),rfl,fun _=>rfl,rfl,underlying199,(fun ks h=>by injection h with h;subst h;exact gC underlying199)⟩
theorem MO:bA prog 203 VJ:=⟨isAgg203,aM (z:=.pointer none) (by kernel_rfl),rfl,fun _=>rfl,rfl,underlying203,(fun ks h=>by cases h)⟩
theorem MP:bA prog 212 VM:=⟨isAgg212,aM (z:=.pointer none) (by kernel_rfl),rfl,fun _=>rfl,rfl,underlying212,(fun ks h=>by cases h)⟩
theorem mL:bF prog tab:=Gf Uz ⟨SM,RJ,RE,RI,Pg,PX,PT,NJ,PG,PV,QB,OQ,QK,OL,Ph,PC,NH,Pw,OB,Ou,NI,QX,Nh,PK,Ns,PL,Ol,Ng,Qc,QY,Ps,OW,LP,MY,Ms,MN,Lf,LB,LF,Li,MV,MR,MB,MA,LQ,NA,Ky,MZ,LR,Ly,LZ,Lt,Mw,MQ,Mj,MO,MP,trivial⟩
end Aw
end Go.Proofs.YtempldclppogmaaGreatDoor
