/- The types of this seat's translation, as a table, and that the loaded program has them so. Written by a program (gentab.py). -/
import Derived.Test.YtbgngpdonpeboaaGreatDoorAwDraw
import Derived.Test.YtbgngpdonpeboaaGreatDoorAwArr
import Derived.Test.YtbgngpdonpeboaaGreatDoorProg
import Derived.KernelRfl
import Derived.Tactics
import Derived.Laws.StructEq
set_option linter.unusedVariables false
set_option linter.unusedSimpArgs false
open Go.Proofs.Tryz
namespace Go.Proofs.YtbgngpdonpeboaaGreatDoor
namespace Aw
open Go Go.RowKit
def R3:bI:={ agg:=false,size:=1,bytes:=8,zero:=[.int .i64 0],d:=.int .i64,ck:=some [.i64] }
def R4:bI:={ agg:=false,size:=1,bytes:=1,zero:=[.bool false],d:=.bool }
def R5:bI:={ agg:=false,size:=1,bytes:=1,zero:=[.int .u8 0],d:=.int .u8,ck:=some [.u8] }
def R9:bI:={ agg:=false,size:=1,bytes:=16,zero:=[.string ⟨#[]⟩],d:=.str }
def R22:bI:={ agg:=false,size:=1,bytes:=24,zero:=[.slice none 0 0],d:=.slice 34 }
def R23:bI:={ agg:=false,size:=1,bytes:=24,zero:=[.slice none 0 0],d:=.slice 36 }
def R24:bI:={ agg:=true,size:=2,bytes:=48,zero:=[.slice none 0 0,.slice none 0 0],d:=.struct [(0,22),(1,23)] }
def R25:bI:={ agg:=true,size:=2,bytes:=48,zero:=[.slice none 0 0,.slice none 0 0],d:=.struct [(0,22),(1,23)] }
def R26:bI:={ agg:=false,size:=1,bytes:=24,zero:=[.slice none 0 0],d:=.slice 22 }
def R27:bI:={ agg:=true,size:=3,bytes:=72,zero:=[.slice none 0 0,.slice none 0 0,.slice none 0 0],d:=.struct [(0,25),(2,26)] }
def R28:bI:={ agg:=true,size:=3,bytes:=72,zero:=[.slice none 0 0,.slice none 0 0,.slice none 0 0],d:=.struct [(0,25),(2,26)] }
def R34:bI:={ agg:=false,size:=1,bytes:=4,zero:=[.int .u32 0],d:=.int .u32,ck:=some [.u32] }
def R35:bI:={ agg:=true,size:=3,bytes:=12,zero:=[.int .u32 0,.int .u32 0,.int .u32 0],d:=.struct [(0,34),(1,34),(2,34)],ck:=some [.u32,.u32,.u32] }
def R36:bI:={ agg:=true,size:=3,bytes:=12,zero:=[.int .u32 0,.int .u32 0,.int .u32 0],d:=.struct [(0,34),(1,34),(2,34)],ck:=some [.u32,.u32,.u32] }
def R51:bI:={ agg:=false,size:=1,bytes:=8,zero:=[.int .i64 0],d:=.int .i64,ck:=some [.i64] }
def R59:bI:={ agg:=false,size:=1,bytes:=8,zero:=[.nilFunc],d:=.func }
def R61:bI:={ agg:=false,size:=1,bytes:=8,zero:=[.nilFunc],d:=.func }
def R62:bI:={ agg:=false,size:=1,bytes:=8,zero:=[.map none],d:=.map 34 22 }
def R64:bI:={ agg:=false,size:=1,bytes:=8,zero:=[.map none],d:=.map 34 3 }
def R66:bI:={ agg:=false,size:=1,bytes:=8,zero:=[.int .i64 0],d:=.int .i64,ck:=some [.i64] }
def R74:bI:={ agg:=true,size:=3,bytes:=56,zero:=[.int .i64 0,.slice none 0 0,.slice none 0 0],d:=.struct [(0,51),(1,22),(2,26)] }
def R75:bI:={ agg:=true,size:=3,bytes:=56,zero:=[.int .i64 0,.slice none 0 0,.slice none 0 0],d:=.struct [(0,51),(1,22),(2,26)] }
def R78:bI:={ agg:=false,size:=1,bytes:=8,zero:=[.map none],d:=.map 79 23 }
def R79:bI:={ agg:=true,size:=2,bytes:=8,zero:=[.int .u32 0,.int .u32 0],d:=.arr 2 34,ck:=some [.u32,.u32] }
def R83:bI:={ agg:=false,size:=1,bytes:=24,zero:=[.slice none 0 0],d:=.slice 23 }
def R87:bI:={ agg:=false,size:=1,bytes:=8,zero:=[.map none],d:=.map 34 93 }
def R93:bI:={ agg:=false,size:=1,bytes:=8,zero:=[.map none],d:=.map 34 34 }
def Xs:bI:={ agg:=false,size:=1,bytes:=8,zero:=[.int .u64 0],d:=.int .u64,ck:=some [.u64] }
def XF:bI:={ agg:=true,size:=2,bytes:=16,zero:=[.map none,.map none],d:=.struct [(0,62),(1,93)] }
def YA:bI:={ agg:=true,size:=2,bytes:=16,zero:=[.map none,.map none],d:=.struct [(0,62),(1,93)] }
def YW:bI:={ agg:=false,size:=1,bytes:=8,zero:=[.map none],d:=.map 3 3 }
def YB:bI:={ agg:=false,size:=1,bytes:=8,zero:=[.map none],d:=.map 79 3 }
def Xu:bI:={ agg:=false,size:=1,bytes:=8,zero:=[.pointer none],d:=.ptr 126 }
def YM:bI:={ agg:=false,size:=1,bytes:=8,zero:=[.map none],d:=.map 34 124 }
def Wv:bI:={ agg:=false,size:=1,bytes:=24,zero:=[.slice none 0 0],d:=.slice 3 }
def Xv:bI:={ agg:=true,size:=6,bytes:=96,zero:=[.slice none 0 0,.map none,.map none,.map none,.slice none 0 0,.slice none 0 0],d:=.struct [(0,23),(1,123),(2,64),(3,64),(4,124),(5,83)] }
def Wy:bI:={ agg:=true,size:=6,bytes:=96,zero:=[.slice none 0 0,.map none,.map none,.map none,.slice none 0 0,.slice none 0 0],d:=.struct [(0,23),(1,123),(2,64),(3,64),(4,124),(5,83)] }
def Xc:bI:={ agg:=false,size:=1,bytes:=8,zero:=[.pointer none],d:=.ptr 136 }
def Xb:bI:={ agg:=false,size:=1,bytes:=24,zero:=[.slice none 0 0],d:=.slice 133 }
def YK:bI:={ agg:=false,size:=1,bytes:=8,zero:=[.int .u64 0],d:=.int .u64,ck:=some [.u64] }
def YS:bI:={ agg:=false,size:=1,bytes:=24,zero:=[.slice none 0 0],d:=.slice 144 }
def Yb:bI:={ agg:=true,size:=7,bytes:=120,zero:=[.slice none 0 0,.slice none 0 0,.slice none 0 0,.map none,.map none,.int .u64 0,.slice none 0 0],d:=.struct [(0,25),(2,132),(3,64),(4,120),(5,133),(6,134)] }
def YQ:bI:={ agg:=true,size:=7,bytes:=120,zero:=[.slice none 0 0,.slice none 0 0,.slice none 0 0,.map none,.map none,.int .u64 0,.slice none 0 0],d:=.struct [(0,25),(2,132),(3,64),(4,120),(5,133),(6,134)] }
def XI:bI:={ agg:=true,size:=2,bytes:=16,zero:=[.int .u64 0,.int .u64 0],d:=.struct [(0,133),(1,133)],ck:=some [.u64,.u64] }
def Xo:bI:={ agg:=true,size:=2,bytes:=16,zero:=[.int .u64 0,.int .u64 0],d:=.struct [(0,133),(1,133)],ck:=some [.u64,.u64] }
def XG:bI:={ agg:=true,size:=2,bytes:=32,zero:=[.slice none 0 0,.int .u64 0],d:=.struct [(0,22),(1,133)] }
def Xq:bI:={ agg:=true,size:=2,bytes:=32,zero:=[.slice none 0 0,.int .u64 0],d:=.struct [(0,22),(1,133)] }
def YC:bI:={ agg:=false,size:=1,bytes:=8,zero:=[.nilFunc],d:=.func }
def Xj:bI:={ agg:=false,size:=1,bytes:=8,zero:=[.int .i64 0],d:=.int .i64,ck:=some [.i64] }
def Wx:bI:={ agg:=false,size:=1,bytes:=24,zero:=[.slice none 0 0],d:=.slice 138 }
def Xy:bI:={ agg:=false,size:=1,bytes:=8,zero:=[.map none],d:=.map 34 4 }
def XE:bI:={ agg:=false,size:=1,bytes:=8,zero:=[.int .u64 0],d:=.int .u64,ck:=some [.u64] }
def XM:bI:={ agg:=false,size:=1,bytes:=8,zero:=[.pointer none],d:=.ptr 3 }
def XL:bI:={ agg:=true,size:=64,bytes:=64,zero:=(List.replicate 64 (.int .u8 0)),d:=.arr 64 5 }
def Wu:bI:={ agg:=false,size:=1,bytes:=8,zero:=[.pointer none],d:=.ptr 184 }
def XZ:List (Nat×bI):=[(3,R3),(4,R4),(5,R5),(9,R9),(22,R22),(23,R23),(24,R24),(25,R25),(26,R26),(27,R27),(28,R28),(34,R34),(35,R35),(36,R36),(51,R51),(59,R59),(61,R61),(62,R62),(64,R64),(66,R66),(74,R74),(75,R75),(78,R78),(79,R79),(83,R83),(87,R87),(93,R93),(109,Xs),(112,XF),(113,YA),(116,YW),(120,YB),(122,Xu),(123,YM),(124,Wv),(125,Xv),(126,Wy),(130,Xc),(132,Xb),(133,YK),(134,YS),(135,Yb),(136,YQ),(137,XI),(138,Xo),(143,XG),(144,Xq),(145,YC),(154,Xj),(171,Wx),(177,Xy),(184,XE),(188,XM),(200,XL),(203,Wu)]
def tab:Tab:=HD XZ
@[simp] theorem C4:tab 3=some { agg:=false,size:=1,bytes:=8,zero:=[.int .i64 0],d:=.int .i64,ck:=some [.i64] }:=rfl
@[simp] theorem C1:tab 4=some { agg:=false,size:=1,bytes:=1,zero:=[.bool false],d:=.bool }:=rfl
@[simp] theorem C3:tab 5=some { agg:=false,size:=1,bytes:=1,zero:=[.int .u8 0],d:=.int .u8,ck:=some [.u8] }:=rfl
@[simp] theorem C2:tab 9=some { agg:=false,size:=1,bytes:=16,zero:=[.string ⟨#[]⟩],d:=.str }:=rfl
@[simp] theorem Zf:tab 22=some { agg:=false,size:=1,bytes:=24,zero:=[.slice none 0 0],d:=.slice 34 }:=rfl
@[simp] theorem Ze:tab 23=some { agg:=false,size:=1,bytes:=24,zero:=[.slice none 0 0],d:=.slice 36 }:=rfl
@[simp] theorem ZT:tab 24=some { agg:=true,size:=2,bytes:=48,zero:=[.slice none 0 0,.slice none 0 0],d:=.struct [(0,22),(1,23)] }:=rfl
@[simp] theorem ZK:tab 25=some { agg:=true,size:=2,bytes:=48,zero:=[.slice none 0 0,.slice none 0 0],d:=.struct [(0,22),(1,23)] }:=rfl
@[simp] theorem Zz:tab 26=some { agg:=false,size:=1,bytes:=24,zero:=[.slice none 0 0],d:=.slice 22 }:=rfl
@[simp] theorem Zu:tab 27=some { agg:=true,size:=3,bytes:=72,zero:=[.slice none 0 0,.slice none 0 0,.slice none 0 0],d:=.struct [(0,25),(2,26)] }:=rfl
@[simp] theorem Zk:tab 28=some { agg:=true,size:=3,bytes:=72,zero:=[.slice none 0 0,.slice none 0 0,.slice none 0 0],d:=.struct [(0,25),(2,26)] }:=rfl
@[simp] theorem ZL:tab 34=some { agg:=false,size:=1,bytes:=4,zero:=[.int .u32 0],d:=.int .u32,ck:=some [.u32] }:=rfl
@[simp] theorem C0:tab 35=some { agg:=true,size:=3,bytes:=12,zero:=[.int .u32 0,.int .u32 0,.int .u32 0],d:=.struct [(0,34),(1,34),(2,34)],ck:=some [.u32,.u32,.u32] }:=rfl
@[simp] theorem ZM:tab 36=some { agg:=true,size:=3,bytes:=12,zero:=[.int .u32 0,.int .u32 0,.int .u32 0],d:=.struct [(0,34),(1,34),(2,34)],ck:=some [.u32,.u32,.u32] }:=rfl
@[simp] theorem Zi:tab 51=some { agg:=false,size:=1,bytes:=8,zero:=[.int .i64 0],d:=.int .i64,ck:=some [.i64] }:=rfl
@[simp] theorem Zh:tab 59=some { agg:=false,size:=1,bytes:=8,zero:=[.nilFunc],d:=.func }:=rfl
@[simp] theorem ZS:tab 61=some { agg:=false,size:=1,bytes:=8,zero:=[.nilFunc],d:=.func }:=rfl
@[simp] theorem A3:tab 62=some { agg:=false,size:=1,bytes:=8,zero:=[.map none],d:=.map 34 22 }:=rfl
@[simp] theorem ZO:tab 64=some { agg:=false,size:=1,bytes:=8,zero:=[.map none],d:=.map 34 3 }:=rfl
@[simp] theorem B9:tab 66=some { agg:=false,size:=1,bytes:=8,zero:=[.int .i64 0],d:=.int .i64,ck:=some [.i64] }:=rfl
@[simp] theorem Zc:tab 74=some { agg:=true,size:=3,bytes:=56,zero:=[.int .i64 0,.slice none 0 0,.slice none 0 0],d:=.struct [(0,51),(1,22),(2,26)] }:=rfl
@[simp] theorem B5:tab 75=some { agg:=true,size:=3,bytes:=56,zero:=[.int .i64 0,.slice none 0 0,.slice none 0 0],d:=.struct [(0,51),(1,22),(2,26)] }:=rfl
@[simp] theorem Zw:tab 78=some { agg:=false,size:=1,bytes:=8,zero:=[.map none],d:=.map 79 23 }:=rfl
@[simp] theorem B8:tab 79=some { agg:=true,size:=2,bytes:=8,zero:=[.int .u32 0,.int .u32 0],d:=.arr 2 34,ck:=some [.u32,.u32] }:=rfl
@[simp] theorem Zq:tab 83=some { agg:=false,size:=1,bytes:=24,zero:=[.slice none 0 0],d:=.slice 23 }:=rfl
@[simp] theorem ZV:tab 87=some { agg:=false,size:=1,bytes:=8,zero:=[.map none],d:=.map 34 93 }:=rfl
@[simp] theorem Zn:tab 93=some { agg:=false,size:=1,bytes:=8,zero:=[.map none],d:=.map 34 34 }:=rfl
@[simp] theorem Yj:tab 109=some { agg:=false,size:=1,bytes:=8,zero:=[.int .u64 0],d:=.int .u64,ck:=some [.u64] }:=rfl
@[simp] theorem Yu:tab 112=some { agg:=true,size:=2,bytes:=16,zero:=[.map none,.map none],d:=.struct [(0,62),(1,93)] }:=rfl
@[simp] theorem Yf:tab 113=some { agg:=true,size:=2,bytes:=16,zero:=[.map none,.map none],d:=.struct [(0,62),(1,93)] }:=rfl
@[simp] theorem Yr:tab 116=some { agg:=false,size:=1,bytes:=8,zero:=[.map none],d:=.map 3 3 }:=rfl
@[simp] theorem ZH:tab 120=some { agg:=false,size:=1,bytes:=8,zero:=[.map none],d:=.map 79 3 }:=rfl
@[simp] theorem Yt:tab 122=some { agg:=false,size:=1,bytes:=8,zero:=[.pointer none],d:=.ptr 126 }:=rfl
@[simp] theorem Yp:tab 123=some { agg:=false,size:=1,bytes:=8,zero:=[.map none],d:=.map 34 124 }:=rfl
@[simp] theorem Yk:tab 124=some { agg:=false,size:=1,bytes:=24,zero:=[.slice none 0 0],d:=.slice 3 }:=rfl
@[simp] theorem Yi:tab 125=some { agg:=true,size:=6,bytes:=96,zero:=[.slice none 0 0,.map none,.map none,.map none,.slice none 0 0,.slice none 0 0],d:=.struct [(0,23),(1,123),(2,64),(3,64),(4,124),(5,83)] }:=rfl
@[simp] theorem Ys:tab 126=some { agg:=true,size:=6,bytes:=96,zero:=[.slice none 0 0,.map none,.map none,.map none,.slice none 0 0,.slice none 0 0],d:=.struct [(0,23),(1,123),(2,64),(3,64),(4,124),(5,83)] }:=rfl
@[simp] theorem Yy:tab 130=some { agg:=false,size:=1,bytes:=8,zero:=[.pointer none],d:=.ptr 136 }:=rfl
@[simp] theorem ZB:tab 132=some { agg:=false,size:=1,bytes:=24,zero:=[.slice none 0 0],d:=.slice 133 }:=rfl
@[simp] theorem ZI:tab 133=some { agg:=false,size:=1,bytes:=8,zero:=[.int .u64 0],d:=.int .u64,ck:=some [.u64] }:=rfl
@[simp] theorem ZA:tab 134=some { agg:=false,size:=1,bytes:=24,zero:=[.slice none 0 0],d:=.slice 144 }:=rfl
@[simp] theorem Yn:tab 135=some { agg:=true,size:=7,bytes:=120,zero:=[.slice none 0 0,.slice none 0 0,.slice none 0 0,.map none,.map none,.int .u64 0,.slice none 0 0],d:=.struct [(0,25),(2,132),(3,64),(4,120),(5,133),(6,134)] }:=rfl
@[simp] theorem Yh:tab 136=some { agg:=true,size:=7,bytes:=120,zero:=[.slice none 0 0,.slice none 0 0,.slice none 0 0,.map none,.map none,.int .u64 0,.slice none 0 0],d:=.struct [(0,25),(2,132),(3,64),(4,120),(5,133),(6,134)] }:=rfl
@[simp] theorem ZJ:tab 137=some { agg:=true,size:=2,bytes:=16,zero:=[.int .u64 0,.int .u64 0],d:=.struct [(0,133),(1,133)],ck:=some [.u64,.u64] }:=rfl
@[simp] theorem ZG:tab 138=some { agg:=true,size:=2,bytes:=16,zero:=[.int .u64 0,.int .u64 0],d:=.struct [(0,133),(1,133)],ck:=some [.u64,.u64] }:=rfl
@[simp] theorem Yz:tab 143=some { agg:=true,size:=2,bytes:=32,zero:=[.slice none 0 0,.int .u64 0],d:=.struct [(0,22),(1,133)] }:=rfl
@[simp] theorem Yl:tab 144=some { agg:=true,size:=2,bytes:=32,zero:=[.slice none 0 0,.int .u64 0],d:=.struct [(0,22),(1,133)] }:=rfl
@[simp] theorem Yg:tab 145=some { agg:=false,size:=1,bytes:=8,zero:=[.nilFunc],d:=.func }:=rfl
@[simp] theorem Yo:tab 154=some { agg:=false,size:=1,bytes:=8,zero:=[.int .i64 0],d:=.int .i64,ck:=some [.i64] }:=rfl
@[simp] theorem ZC:tab 171=some { agg:=false,size:=1,bytes:=24,zero:=[.slice none 0 0],d:=.slice 138 }:=rfl
@[simp] theorem Yx:tab 177=some { agg:=false,size:=1,bytes:=8,zero:=[.map none],d:=.map 34 4 }:=rfl
@[simp] theorem Yq:tab 184=some { agg:=false,size:=1,bytes:=8,zero:=[.int .u64 0],d:=.int .u64,ck:=some [.u64] }:=rfl
@[simp] theorem Ye:tab 188=some { agg:=false,size:=1,bytes:=8,zero:=[.pointer none],d:=.ptr 3 }:=rfl
@[simp] theorem ZE:tab 200=some { agg:=true,size:=64,bytes:=64,zero:=(List.replicate 64 (.int .u8 0)),d:=.arr 64 5 }:=rfl
@[simp] theorem Yv:tab 203=some { agg:=false,size:=1,bytes:=8,zero:=[.pointer none],d:=.ptr 184 }:=rfl
theorem aK{P:Program}{t size bytes:Nat}{z:Value}(h:(P.info? t).map (fun i=>(i.size,i.bytes,i.zero))=some (size,bytes,some z)):∃ i,P.info? t=some i/\i.size=size/\i.bytes=bytes/\i.zero=some z:=by
 cases hi:P.info? t with
 |none=>simp[hi]at h
 |some i=>simp only[hi,Option.map_some,aAb,aAW]at h;exact⟨i,rfl,h.1,h.2.1,h.2.2⟩
theorem UJ:Fa prog 35 true [.u32,.u32,.u32]:=by
 have u34:=underlying34;have a34:=isAgg34;have z34:=Tryz.sizeOf34;have hp:prog.stoodInHeld 35=false:=by kernel_rfl
 refine⟨fun w T7 bs1 h1 h2=>?_,fun w em T7 h1=>?_,fun _=>by kernel_rfl,(fun h=>by cases h),_,underlying35,.inr fun T7 bs1 h1 h2=>by simp[mkV,Instr.sameNow]⟩
 .match T7,bs1,h1,h2 with
  |[x0,x1,x2],[y0,y1,y2],_,_=>
   have hS:prog.underlying 35=some (.struct (prog.fieldsOf 35)):=by kernel_rfl
   simp only[mkV,mkC,aBq];unfold Op.equal Op.maxDepth;rw[show(10000:Nat)=9999+1 from rfl,run_equalIn_agg w 9999 35 _ _ hS hp];simp only[Program.fieldsOf,underlying35]
   go_simp
   by_cases e0:x0=y0<;>by_cases e1:x1=y1<;>by_cases e2:x2=y2<;>simp[e0,e1,e2]
 .match T7,h1 with
  |[x0,x1,x2],_=>
   simp only[mkV,mkC,aBq];unfold Instr.checkKey;simp only[Sem.run_bind,run_underlying underlying35,Result.andThen_ok]
   go_simp
   (try simp[qZ u34])
theorem Tf:Fa prog 36 true [.u32,.u32,.u32]:=by
 have u34:=underlying34;have a34:=isAgg34;have z34:=Tryz.sizeOf34;have hp:prog.stoodInHeld 36=false:=by kernel_rfl
 refine⟨fun w T7 bs1 h1 h2=>?_,fun w em T7 h1=>?_,fun _=>by kernel_rfl,(fun h=>by cases h),_,underlying36,.inr fun T7 bs1 h1 h2=>by simp[mkV,Instr.sameNow]⟩
 .match T7,bs1,h1,h2 with
  |[x0,x1,x2],[y0,y1,y2],_,_=>
   have hS:prog.underlying 36=some (.struct (prog.fieldsOf 36)):=by kernel_rfl
   simp only[mkV,mkC,aBq];unfold Op.equal Op.maxDepth;rw[show(10000:Nat)=9999+1 from rfl,run_equalIn_agg w 9999 36 _ _ hS hp];simp only[Program.fieldsOf,underlying36]
   go_simp
   by_cases e0:x0=y0<;>by_cases e1:x1=y1<;>by_cases e2:x2=y2<;>simp[e0,e1,e2]
 .match T7,h1 with
  |[x0,x1,x2],_=>
   simp only[mkV,mkC,aBq];unfold Instr.checkKey;simp only[Sem.run_bind,run_underlying underlying36,Result.andThen_ok]
   go_simp
   (try simp[qZ u34])
theorem Ss:Fa prog 79 true [.u32,.u32]:=NO underlying79 underlying34 isAgg34 Tryz.sizeOf34 (by kernel_rfl) (by kernel_rfl)
theorem RJ:Fa prog 137 true [.u64,.u64]:=by
 have u133:=underlying133;have a133:=isAgg133;have z133:=Tryz.sizeOf133;have hp:prog.stoodInHeld 137=false:=by kernel_rfl
 refine⟨fun w T7 bs1 h1 h2=>?_,fun w em T7 h1=>?_,fun _=>by kernel_rfl,(fun h=>by cases h),_,underlying137,.inr fun T7 bs1 h1 h2=>by simp[mkV,Instr.sameNow]⟩
 .match T7,bs1,h1,h2 with
  |[x0,x1],[y0,y1],_,_=>
   have hS:prog.underlying 137=some (.struct (prog.fieldsOf 137)):=by kernel_rfl
   simp only[mkV,mkC,aBq];unfold Op.equal Op.maxDepth;rw[show(10000:Nat)=9999+1 from rfl,run_equalIn_agg w 9999 137 _ _ hS hp];simp only[Program.fieldsOf,underlying137]
   go_simp
   by_cases e0:x0=y0<;>by_cases e1:x1=y1<;>simp[e0,e1]
 .match T7,h1 with
  |[x0,x1],_=>
   simp only[mkV,mkC,aBq];unfold Instr.checkKey;simp only[Sem.run_bind,run_underlying underlying137,Result.andThen_ok]
   go_simp
   (try simp[qZ u133])
theorem QN:Fa prog 138 true [.u64,.u64]:=by
 have u133:=underlying133;have a133:=isAgg133;have z133:=Tryz.sizeOf133;have hp:prog.stoodInHeld 138=false:=by kernel_rfl
 refine⟨fun w T7 bs1 h1 h2=>?_,fun w em T7 h1=>?_,fun _=>by kernel_rfl,(fun h=>by cases h),_,underlying138,.inr fun T7 bs1 h1 h2=>by simp[mkV,Instr.sameNow]⟩
 .match T7,bs1,h1,h2 with
  |[x0,x1],[y0,y1],_,_=>
   have hS:prog.underlying 138=some (.struct (prog.fieldsOf 138)):=by kernel_rfl
   simp only[mkV,mkC,aBq];unfold Op.equal Op.maxDepth;rw[show(10000:Nat)=9999+1 from rfl,run_equalIn_agg w 9999 138 _ _ hS hp];simp only[Program.fieldsOf,underlying138]
   go_simp
   by_cases e0:x0=y0<;>by_cases e1:x1=y1<;>simp[e0,e1]
 .match T7,h1 with
  |[x0,x1],_=>
   simp only[mkV,mkC,aBq];unfold Instr.checkKey;simp only[Sem.run_bind,run_underlying underlying138,Result.andThen_ok]
   go_simp
   (try simp[qZ u133])
theorem Up:aW prog 3 R3:=⟨isAgg3,aK (z:=.int .i64 0) (by kernel_rfl),rfl,fun _=>rfl,rfl,underlying3,(fun ks h=>by injection h with h;subst h;exact gU underlying3)⟩
theorem TV:aW prog 4 R4:=⟨isAgg4,aK (z:=.bool false) (by kernel_rfl),rfl,fun _=>rfl,rfl,underlying4,(fun ks h=>by cases h)⟩
theorem Ts:aW prog 5 R5:=⟨isAgg5,aK (z:=.int .u8 0) (by kernel_rfl),rfl,fun _=>rfl,rfl,underlying5,(fun ks h=>by injection h with h;subst h;exact gU underlying5)⟩
theorem Sn:aW prog 9 R9:=⟨isAgg9,aK (z:=.string ⟨#[]⟩) (by kernel_rfl),rfl,fun _=>rfl,rfl,underlying9,(fun ks h=>by cases h)⟩
theorem Rm:aW prog 22 R22:=⟨isAgg22,aK (z:=.slice none 0 0) (by kernel_rfl),rfl,fun _=>rfl,rfl,underlying22,(fun ks h=>by cases h)⟩
theorem PN:aW prog 23 R23:=⟨isAgg23,aK (z:=.slice none 0 0) (by kernel_rfl),rfl,fun _=>rfl,rfl,underlying23,(fun ks h=>by cases h)⟩
theorem SE:aW prog 24 R24:=⟨isAgg24,aK (z:=.agg #[.slice none 0 0,.slice none 0 0]) (by kernel_rfl),rfl,(fun h=>by cases h),rfl,⟨_,underlying24,rfl⟩,(fun ks h=>by cases h)⟩
theorem PZ:aW prog 25 R25:=⟨isAgg25,aK (z:=.agg #[.slice none 0 0,.slice none 0 0]) (by kernel_rfl),rfl,(fun h=>by cases h),rfl,⟨_,underlying25,rfl⟩,(fun ks h=>by cases h)⟩
theorem QD:aW prog 26 R26:=⟨isAgg26,aK (z:=.slice none 0 0) (by kernel_rfl),rfl,fun _=>rfl,rfl,underlying26,(fun ks h=>by cases h)⟩
theorem Rq:aW prog 27 R27:=⟨isAgg27,aK (z:=.agg #[.slice none 0 0,.slice none 0 0,.slice none 0 0]) (by kernel_rfl),rfl,(fun h=>by cases h),rfl,⟨_,underlying27,rfl⟩,(fun ks h=>by cases h)⟩
theorem QB:aW prog 28 R28:=⟨isAgg28,aK (z:=.agg #[.slice none 0 0,.slice none 0 0,.slice none 0 0]) (by kernel_rfl),rfl,(fun h=>by cases h),rfl,⟨_,underlying28,rfl⟩,(fun ks h=>by cases h)⟩
theorem Ol:aW prog 34 R34:=⟨isAgg34,aK (z:=.int .u32 0) (by kernel_rfl),rfl,fun _=>rfl,rfl,underlying34,(fun ks h=>by injection h with h;subst h;exact gU underlying34)⟩
theorem On:aW prog 35 R35:=⟨isAgg35,aK (z:=.agg #[.int .u32 0,.int .u32 0,.int .u32 0]) (by kernel_rfl),rfl,(fun h=>by cases h),rfl,⟨_,underlying35,rfl⟩,(fun ks h=>by injection h with h;subst h;exact UJ)⟩
theorem Rf:aW prog 36 R36:=⟨isAgg36,aK (z:=.agg #[.int .u32 0,.int .u32 0,.int .u32 0]) (by kernel_rfl),rfl,(fun h=>by cases h),rfl,⟨_,underlying36,rfl⟩,(fun ks h=>by injection h with h;subst h;exact Tf)⟩
theorem Px:aW prog 51 R51:=⟨isAgg51,aK (z:=.int .i64 0) (by kernel_rfl),rfl,fun _=>rfl,rfl,underlying51,(fun ks h=>by injection h with h;subst h;exact gU underlying51)⟩
theorem RT:aW prog 59 R59:=⟨isAgg59,aK (z:=.nilFunc) (by kernel_rfl),rfl,fun _=>rfl,rfl,⟨_,_,_,underlying59⟩,(fun ks h=>by cases h)⟩
theorem PL:aW prog 61 R61:=⟨isAgg61,aK (z:=.nilFunc) (by kernel_rfl),rfl,fun _=>rfl,rfl,⟨_,_,_,underlying61⟩,(fun ks h=>by cases h)⟩
theorem Ps:aW prog 62 R62:=⟨isAgg62,aK (z:=.map none) (by kernel_rfl),rfl,fun _=>rfl,rfl,underlying62,(fun ks h=>by cases h)⟩
theorem Pw:aW prog 64 R64:=⟨isAgg64,aK (z:=.map none) (by kernel_rfl),rfl,fun _=>rfl,rfl,underlying64,(fun ks h=>by cases h)⟩
theorem RN:aW prog 66 R66:=⟨isAgg66,aK (z:=.int .i64 0) (by kernel_rfl),rfl,fun _=>rfl,rfl,underlying66,(fun ks h=>by injection h with h;subst h;exact gU underlying66)⟩
theorem Oj:aW prog 74 R74:=⟨isAgg74,aK (z:=.agg #[.int .i64 0,.slice none 0 0,.slice none 0 0]) (by kernel_rfl),rfl,(fun h=>by cases h),rfl,⟨_,underlying74,rfl⟩,(fun ks h=>by cases h)⟩
theorem Re:aW prog 75 R75:=⟨isAgg75,aK (z:=.agg #[.int .i64 0,.slice none 0 0,.slice none 0 0]) (by kernel_rfl),rfl,(fun h=>by cases h),rfl,⟨_,underlying75,rfl⟩,(fun ks h=>by cases h)⟩
theorem Qc:aW prog 78 R78:=⟨isAgg78,aK (z:=.map none) (by kernel_rfl),rfl,fun _=>rfl,rfl,underlying78,(fun ks h=>by cases h)⟩
theorem Og:aW prog 79 R79:=⟨isAgg79,aK (z:=.agg #[.int .u32 0,.int .u32 0]) (by kernel_rfl),rfl,(fun h=>by cases h),rfl,underlying79,(fun ks h=>by injection h with h;subst h;exact Ss)⟩
theorem Ob:aW prog 83 R83:=⟨isAgg83,aK (z:=.slice none 0 0) (by kernel_rfl),rfl,fun _=>rfl,rfl,underlying83,(fun ks h=>by cases h)⟩
theorem Rc:aW prog 87 R87:=⟨isAgg87,aK (z:=.map none) (by kernel_rfl),rfl,fun _=>rfl,rfl,underlying87,(fun ks h=>by cases h)⟩
theorem Rn:aW prog 93 R93:=⟨isAgg93,aK (z:=.map none) (by kernel_rfl),rfl,fun _=>rfl,rfl,underlying93,(fun ks h=>by cases h)⟩
theorem OA:aW prog 109 Xs:=⟨isAgg109,aK (z:=.int .u64 0) (by kernel_rfl),rfl,fun _=>rfl,rfl,underlying109,(fun ks h=>by injection h with h;subst h;exact gU underlying109)⟩
theorem MS:aW prog 112 XF:=⟨isAgg112,aK (z:=.agg #[.map none,.map none]) (by kernel_rfl),rfl,(fun h=>by cases h),rfl,⟨_,underlying112,rfl⟩,(fun ks h=>by cases h)⟩
theorem OW:aW prog 113 YA:=⟨isAgg113,aK (z:=.agg #[.map none,.map none]) (by kernel_rfl),rfl,(fun h=>by cases h),rfl,⟨_,underlying113,rfl⟩,(fun ks h=>by cases h)⟩
theorem MC:aW prog 116 YW:=⟨isAgg116,aK (z:=.map none) (by kernel_rfl),rfl,fun _=>rfl,rfl,underlying116,(fun ks h=>by cases h)⟩
theorem Mw:aW prog 120 YB:=⟨isAgg120,aK (z:=.map none) (by kernel_rfl),rfl,fun _=>rfl,rfl,underlying120,(fun ks h=>by cases h)⟩
theorem OU:aW prog 122 Xu:=⟨isAgg122,aK (z:=.pointer none) (by kernel_rfl),rfl,fun _=>rfl,rfl,underlying122,(fun ks h=>by cases h)⟩
theorem MR:aW prog 123 YM:=⟨isAgg123,aK (z:=.map none) (by kernel_rfl),rfl,fun _=>rfl,rfl,underlying123,(fun ks h=>by cases h)⟩
theorem NA:aW prog 124 Wv:=⟨isAgg124,aK (z:=.slice none 0 0) (by kernel_rfl),rfl,fun _=>rfl,rfl,underlying124,(fun ks h=>by cases h)⟩
theorem OB:aW prog 125 Xv:=⟨isAgg125,aK (z:=.agg #[.slice none 0 0,.map none,.map none,.map none,.slice none 0 0,.slice none 0 0]) (by kernel_rfl),rfl,(fun h=>by cases h),rfl,⟨_,underlying125,rfl⟩,(fun ks h=>by cases h)⟩
theorem Na:aW prog 126 Wy:=⟨isAgg126,aK (z:=.agg #[.slice none 0 0,.map none,.map none,.map none,.slice none 0 0,.slice none 0 0]) (by kernel_rfl),rfl,(fun h=>by cases h),rfl,⟨_,underlying126,rfl⟩,(fun ks h=>by cases h)⟩
theorem Nr:aW prog 130 Xc:=⟨isAgg130,aK (z:=.pointer none) (by kernel_rfl),rfl,fun _=>rfl,rfl,underlying130,(fun ks h=>by cases h)⟩
theorem NY:aW prog 132 Xb:=⟨isAgg132,aK (z:=.slice none 0 0) (by kernel_rfl),rfl,fun _=>rfl,rfl,underlying132,(fun ks h=>by cases h)⟩
theorem Mq:aW prog 133 YK:=⟨isAgg133,aK (z:=.int .u64 0) (by kernel_rfl),rfl,fun _=>rfl,rfl,underlying133,(fun ks h=>by injection h with h;subst h;exact gU underlying133)⟩
theorem Nt:aW prog 134 YS:=⟨isAgg134,aK (z:=.slice none 0 0) (by kernel_rfl),rfl,fun _=>rfl,rfl,underlying134,(fun ks h=>by cases h)⟩
theorem MY:aW prog 135 Yb:=⟨isAgg135,aK (z:=.agg #[.slice none 0 0,.slice none 0 0,.slice none 0 0,.map none,.map none,.int .u64 0,.slice none 0 0]) (by kernel_rfl),rfl,(fun h=>by cases h),rfl,⟨_,underlying135,rfl⟩,(fun ks h=>by cases h)⟩
theorem MN:aW prog 136 YQ:=⟨isAgg136,aK (z:=.agg #[.slice none 0 0,.slice none 0 0,.slice none 0 0,.map none,.map none,.int .u64 0,.slice none 0 0]) (by kernel_rfl),rfl,(fun h=>by cases h),rfl,⟨_,underlying136,rfl⟩,(fun ks h=>by cases h)⟩
theorem NU:aW prog 137 XI:=⟨isAgg137,aK (z:=.agg #[.int .u64 0,.int .u64 0]) (by kernel_rfl),rfl,(fun h=>by cases h),rfl,⟨_,underlying137,rfl⟩,(fun ks h=>by injection h with h;subst h;exact RJ)⟩
theorem Mz:aW prog 138 Xo:=⟨isAgg138,aK (z:=.agg #[.int .u64 0,.int .u64 0]) (by kernel_rfl),rfl,(fun h=>by cases h),rfl,⟨_,underlying138,rfl⟩,(fun ks h=>by injection h with h;subst h;exact QN)⟩
theorem OJ:aW prog 143 XG:=⟨isAgg143,aK (z:=.agg #[.slice none 0 0,.int .u64 0]) (by kernel_rfl),rfl,(fun h=>by cases h),rfl,⟨_,underlying143,rfl⟩,(fun ks h=>by cases h)⟩
theorem MT:aW prog 144 Xq:=⟨isAgg144,aK (z:=.agg #[.slice none 0 0,.int .u64 0]) (by kernel_rfl),rfl,(fun h=>by cases h),rfl,⟨_,underlying144,rfl⟩,(fun ks h=>by cases h)⟩
theorem MW:aW prog 145 YC:=⟨isAgg145,aK (z:=.nilFunc) (by kernel_rfl),rfl,fun _=>rfl,rfl,⟨_,_,_,underlying145⟩,(fun ks h=>by cases h)⟩
theorem NM:aW prog 154 Xj:=⟨isAgg154,aK (z:=.int .i64 0) (by kernel_rfl),rfl,fun _=>rfl,rfl,underlying154,(fun ks h=>by injection h with h;subst h;exact gU underlying154)⟩
theorem Np:aW prog 171 Wx:=⟨isAgg171,aK (z:=.slice none 0 0) (by kernel_rfl),rfl,fun _=>rfl,rfl,underlying171,(fun ks h=>by cases h)⟩
theorem OO:aW prog 177 Xy:=⟨isAgg177,aK (z:=.map none) (by kernel_rfl),rfl,fun _=>rfl,rfl,underlying177,(fun ks h=>by cases h)⟩
theorem OV:aW prog 184 XE:=⟨isAgg184,aK (z:=.int .u64 0) (by kernel_rfl),rfl,fun _=>rfl,rfl,underlying184,(fun ks h=>by injection h with h;subst h;exact gU underlying184)⟩
theorem Mj:aW prog 188 XM:=⟨isAgg188,aK (z:=.pointer none) (by kernel_rfl),rfl,fun _=>rfl,rfl,underlying188,(fun ks h=>by cases h)⟩
theorem Mo:aW prog 200 XL:=⟨isAgg200,aK (z:=.agg #[.int .u8 0,.int .u8 0,.int .u8 0,.int .u8 0,.int .u8 0,.int .u8 0,.int .u8 0,.int .u8 0,.int .u8 0,.int .u8 0,.int .u8 0,.int .u8 0,.int .u8 0,.int .u8 0,.int .u8 0,.int .u8 0,.int .u8 0,.int .u8 0,.int .u8 0,.int .u8 0,.int .u8 0,.int .u8 0,.int .u8 0,.int .u8 0,.int .u8 0,.int .u8 0,.int .u8 0,.int .u8 0,.int .u8 0,.int .u8 0,.int .u8 0,.int .u8 0,.int .u8 0,.int .u8 0,.int .u8 0,.int .u8 0,.int .u8 0,.int .u8 0,.int .u8 0,.int .u8 0,.int .u8 0,.int .u8 0,.int .u8 0,.int .u8 0,.int .u8 0,.int .u8 0,.int .u8 0,.int .u8 0,.int .u8 0,.int .u8 0,.int .u8 0,.int .u8 0,.int .u8 0,.int .u8 0,.int .u8 0,.int .u8 0,.int .u8 0,.int .u8 0,.int .u8 0,.int .u8 0,.int .u8 0,.int .u8 0,.int .u8 0,.int .u8 0]) (by kernel_rfl),rfl,(fun h=>by cases h),rfl,underlying200,(fun ks h=>by cases h)⟩
theorem Nn:aW prog 203 Wu:=⟨isAgg203,aK (z:=.pointer none) (by kernel_rfl),rfl,fun _=>rfl,rfl,underlying203,(fun ks h=>by cases h)⟩
theorem mN:aZ prog tab:=HR XZ ⟨Up,TV,Ts,Sn,Rm,PN,SE,PZ,QD,Rq,QB,Ol,On,Rf,Px,RT,PL,Ps,Pw,RN,Oj,Re,Qc,Og,Ob,Rc,Rn,OA,MS,OW,MC,Mw,OU,MR,NA,OB,Na,Nr,NY,Mq,Nt,MY,MN,NU,Mz,OJ,MT,MW,NM,Np,OO,OV,Mj,Mo,Nn,trivial⟩
end Aw
end Go.Proofs.YtbgngpdonpeboaaGreatDoor
