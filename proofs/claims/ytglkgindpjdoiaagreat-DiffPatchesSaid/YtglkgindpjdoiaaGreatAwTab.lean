/- The types of this seat's translation, as a table, and that the loaded program has them so. Written by a program (gentab.py). -/
import Derived.Test.YtglkgindpjdoiaaGreatAwDraw
import Derived.Test.YtglkgindpjdoiaaGreatAwArr
import Derived.Test.YtglkgindpjdoiaaGreatProg
import Derived.KernelRfl
import Derived.Tactics
import Derived.Laws.StructEq
namespace Go.Proofs.YtglkgindpjdoiaaGreat.Aw
open Go Go.RowKit
set_option linter.unusedSimpArgs false
set_option linter.unusedVariables false
def R3:TRow:={ agg:=false,size:=1,bytes:=8,zero:=[.int .i64 0],d:=.int .i64,ck:=some [.i64] }
def R4:TRow:={ agg:=false,size:=1,bytes:=1,zero:=[.bool false],d:=.bool }
def R5:TRow:={ agg:=false,size:=1,bytes:=1,zero:=[.int .u8 0],d:=.int .u8,ck:=some [.u8] }
def R9:TRow:={ agg:=false,size:=1,bytes:=16,zero:=[.string ⟨#[]⟩],d:=.str }
def R22:TRow:={ agg:=false,size:=1,bytes:=24,zero:=[.slice none 0 0],d:=.slice 29 }
def R23:TRow:={ agg:=false,size:=1,bytes:=24,zero:=[.slice none 0 0],d:=.slice 31 }
def R24:TRow:={ agg:=true,size:=2,bytes:=48,zero:=[.slice none 0 0,.slice none 0 0],d:=.struct [(0,22),(1,23)] }
def R25:TRow:={ agg:=true,size:=2,bytes:=48,zero:=[.slice none 0 0,.slice none 0 0],d:=.struct [(0,22),(1,23)] }
def R26:TRow:={ agg:=false,size:=1,bytes:=24,zero:=[.slice none 0 0],d:=.slice 22 }
def R27:TRow:={ agg:=true,size:=3,bytes:=72,zero:=[.slice none 0 0,.slice none 0 0,.slice none 0 0],d:=.struct [(0,25),(2,26)] }
def R28:TRow:={ agg:=true,size:=3,bytes:=72,zero:=[.slice none 0 0,.slice none 0 0,.slice none 0 0],d:=.struct [(0,25),(2,26)] }
def R29:TRow:={ agg:=false,size:=1,bytes:=4,zero:=[.int .u32 0],d:=.int .u32,ck:=some [.u32] }
def R30:TRow:={ agg:=true,size:=3,bytes:=12,zero:=[.int .u32 0,.int .u32 0,.int .u32 0],d:=.struct [(0,29),(1,29),(2,29)],ck:=some [.u32,.u32,.u32] }
def R31:TRow:={ agg:=true,size:=3,bytes:=12,zero:=[.int .u32 0,.int .u32 0,.int .u32 0],d:=.struct [(0,29),(1,29),(2,29)],ck:=some [.u32,.u32,.u32] }
def R34:TRow:={ agg:=false,size:=1,bytes:=8,zero:=[.int .i64 0],d:=.int .i64,ck:=some [.i64] }
def R37:TRow:={ agg:=true,size:=6,bytes:=32,zero:=[.int .i64 0,.int .u32 0,.int .u32 0,.int .u32 0,.int .u32 0,.int .u32 0],d:=.struct [(0,3),(1,29),(2,29),(3,29),(4,29),(5,29)],ck:=some [.i64,.u32,.u32,.u32,.u32,.u32] }
def R38:TRow:={ agg:=true,size:=6,bytes:=32,zero:=[.int .i64 0,.int .u32 0,.int .u32 0,.int .u32 0,.int .u32 0,.int .u32 0],d:=.struct [(0,3),(1,29),(2,29),(3,29),(4,29),(5,29)],ck:=some [.i64,.u32,.u32,.u32,.u32,.u32] }
def R45:TRow:={ agg:=false,size:=1,bytes:=24,zero:=[.slice none 0 0],d:=.slice 38 }
def R58:TRow:={ agg:=false,size:=1,bytes:=8,zero:=[.pointer none],d:=.ptr 61 }
def R60:TRow:={ agg:=true,size:=3,bytes:=72,zero:=[.slice none 0 0,.slice none 0 0,.slice none 0 0],d:=.struct [(0,28)] }
def R61:TRow:={ agg:=true,size:=3,bytes:=72,zero:=[.slice none 0 0,.slice none 0 0,.slice none 0 0],d:=.struct [(0,28)] }
def R63:TRow:={ agg:=false,size:=1,bytes:=8,zero:=[.map none],d:=.map 29 29 }
def R65:TRow:={ agg:=false,size:=1,bytes:=8,zero:=[.map none],d:=.map 29 3 }
def R66:TRow:={ agg:=false,size:=1,bytes:=8,zero:=[.nilFunc],d:=.func }
def R87:TRow:={ agg:=false,size:=1,bytes:=8,zero:=[.int .u64 0],d:=.int .u64,ck:=some [.u64] }
def R102:TRow:={ agg:=false,size:=1,bytes:=8,zero:=[.map none],d:=.map 29 22 }
def R123:TRow:={ agg:=false,size:=1,bytes:=8,zero:=[.map none],d:=.map 29 4 }
def R140:TRow:={ agg:=false,size:=1,bytes:=8,zero:=[.int .i64 0],d:=.int .i64,ck:=some [.i64] }
def R148:TRow:={ agg:=false,size:=1,bytes:=8,zero:=[.int .u64 0],d:=.int .u64,ck:=some [.u64] }
def R151:TRow:={ agg:=false,size:=1,bytes:=8,zero:=[.nilFunc],d:=.func }
def R155:TRow:={ agg:=false,size:=1,bytes:=8,zero:=[.int .u64 0],d:=.int .u64,ck:=some [.u64] }
def R159:TRow:={ agg:=false,size:=1,bytes:=8,zero:=[.pointer none],d:=.ptr 3 }
def R168:TRow:={ agg:=false,size:=1,bytes:=8,zero:=[.pointer none],d:=.ptr 155 }
def tabL:List (Nat×TRow):=[(3,R3),(4,R4),(5,R5),(9,R9),(22,R22),(23,R23),(24,R24),(25,R25),(26,R26),(27,R27),(28,R28),(29,R29),(30,R30),(31,R31),(34,R34),(37,R37),(38,R38),(45,R45),(58,R58),(60,R60),(61,R61),(63,R63),(65,R65),(66,R66),(87,R87),(102,R102),(123,R123),(140,R140),(148,R148),(151,R151),(155,R155),(159,R159),(168,R168)]
def tab:Tab:=lookT tabL
@[simp] theorem tab_3:tab 3=some { agg:=false,size:=1,bytes:=8,zero:=[.int .i64 0],d:=.int .i64,ck:=some [.i64] }:=rfl
@[simp] theorem tab_4:tab 4=some { agg:=false,size:=1,bytes:=1,zero:=[.bool false],d:=.bool }:=rfl
@[simp] theorem tab_5:tab 5=some { agg:=false,size:=1,bytes:=1,zero:=[.int .u8 0],d:=.int .u8,ck:=some [.u8] }:=rfl
@[simp] theorem tab_9:tab 9=some { agg:=false,size:=1,bytes:=16,zero:=[.string ⟨#[]⟩],d:=.str }:=rfl
@[simp] theorem tab_22:tab 22=some { agg:=false,size:=1,bytes:=24,zero:=[.slice none 0 0],d:=.slice 29 }:=rfl
@[simp] theorem tab_23:tab 23=some { agg:=false,size:=1,bytes:=24,zero:=[.slice none 0 0],d:=.slice 31 }:=rfl
@[simp] theorem tab_24:tab 24=some { agg:=true,size:=2,bytes:=48,zero:=[.slice none 0 0,.slice none 0 0],d:=.struct [(0,22),(1,23)] }:=rfl
@[simp] theorem tab_25:tab 25=some { agg:=true,size:=2,bytes:=48,zero:=[.slice none 0 0,.slice none 0 0],d:=.struct [(0,22),(1,23)] }:=rfl
@[simp] theorem tab_26:tab 26=some { agg:=false,size:=1,bytes:=24,zero:=[.slice none 0 0],d:=.slice 22 }:=rfl
@[simp] theorem tab_27:tab 27=some { agg:=true,size:=3,bytes:=72,zero:=[.slice none 0 0,.slice none 0 0,.slice none 0 0],d:=.struct [(0,25),(2,26)] }:=rfl
@[simp] theorem tab_28:tab 28=some { agg:=true,size:=3,bytes:=72,zero:=[.slice none 0 0,.slice none 0 0,.slice none 0 0],d:=.struct [(0,25),(2,26)] }:=rfl
@[simp] theorem tab_29:tab 29=some { agg:=false,size:=1,bytes:=4,zero:=[.int .u32 0],d:=.int .u32,ck:=some [.u32] }:=rfl
@[simp] theorem tab_30:tab 30=some { agg:=true,size:=3,bytes:=12,zero:=[.int .u32 0,.int .u32 0,.int .u32 0],d:=.struct [(0,29),(1,29),(2,29)],ck:=some [.u32,.u32,.u32] }:=rfl
@[simp] theorem tab_31:tab 31=some { agg:=true,size:=3,bytes:=12,zero:=[.int .u32 0,.int .u32 0,.int .u32 0],d:=.struct [(0,29),(1,29),(2,29)],ck:=some [.u32,.u32,.u32] }:=rfl
@[simp] theorem tab_34:tab 34=some { agg:=false,size:=1,bytes:=8,zero:=[.int .i64 0],d:=.int .i64,ck:=some [.i64] }:=rfl
@[simp] theorem tab_37:tab 37=some { agg:=true,size:=6,bytes:=32,zero:=[.int .i64 0,.int .u32 0,.int .u32 0,.int .u32 0,.int .u32 0,.int .u32 0],d:=.struct [(0,3),(1,29),(2,29),(3,29),(4,29),(5,29)],ck:=some [.i64,.u32,.u32,.u32,.u32,.u32] }:=rfl
@[simp] theorem tab_38:tab 38=some { agg:=true,size:=6,bytes:=32,zero:=[.int .i64 0,.int .u32 0,.int .u32 0,.int .u32 0,.int .u32 0,.int .u32 0],d:=.struct [(0,3),(1,29),(2,29),(3,29),(4,29),(5,29)],ck:=some [.i64,.u32,.u32,.u32,.u32,.u32] }:=rfl
@[simp] theorem tab_45:tab 45=some { agg:=false,size:=1,bytes:=24,zero:=[.slice none 0 0],d:=.slice 38 }:=rfl
@[simp] theorem tab_58:tab 58=some { agg:=false,size:=1,bytes:=8,zero:=[.pointer none],d:=.ptr 61 }:=rfl
@[simp] theorem tab_60:tab 60=some { agg:=true,size:=3,bytes:=72,zero:=[.slice none 0 0,.slice none 0 0,.slice none 0 0],d:=.struct [(0,28)] }:=rfl
@[simp] theorem tab_61:tab 61=some { agg:=true,size:=3,bytes:=72,zero:=[.slice none 0 0,.slice none 0 0,.slice none 0 0],d:=.struct [(0,28)] }:=rfl
@[simp] theorem tab_63:tab 63=some { agg:=false,size:=1,bytes:=8,zero:=[.map none],d:=.map 29 29 }:=rfl
@[simp] theorem tab_65:tab 65=some { agg:=false,size:=1,bytes:=8,zero:=[.map none],d:=.map 29 3 }:=rfl
@[simp] theorem tab_66:tab 66=some { agg:=false,size:=1,bytes:=8,zero:=[.nilFunc],d:=.func }:=rfl
@[simp] theorem tab_87:tab 87=some { agg:=false,size:=1,bytes:=8,zero:=[.int .u64 0],d:=.int .u64,ck:=some [.u64] }:=rfl
@[simp] theorem tab_102:tab 102=some { agg:=false,size:=1,bytes:=8,zero:=[.map none],d:=.map 29 22 }:=rfl
@[simp] theorem tab_123:tab 123=some { agg:=false,size:=1,bytes:=8,zero:=[.map none],d:=.map 29 4 }:=rfl
@[simp] theorem tab_140:tab 140=some { agg:=false,size:=1,bytes:=8,zero:=[.int .i64 0],d:=.int .i64,ck:=some [.i64] }:=rfl
@[simp] theorem tab_148:tab 148=some { agg:=false,size:=1,bytes:=8,zero:=[.int .u64 0],d:=.int .u64,ck:=some [.u64] }:=rfl
@[simp] theorem tab_151:tab 151=some { agg:=false,size:=1,bytes:=8,zero:=[.nilFunc],d:=.func }:=rfl
@[simp] theorem tab_155:tab 155=some { agg:=false,size:=1,bytes:=8,zero:=[.int .u64 0],d:=.int .u64,ck:=some [.u64] }:=rfl
@[simp] theorem tab_159:tab 159=some { agg:=false,size:=1,bytes:=8,zero:=[.pointer none],d:=.ptr 3 }:=rfl
@[simp] theorem tab_168:tab 168=some { agg:=false,size:=1,bytes:=8,zero:=[.pointer none],d:=.ptr 155 }:=rfl
theorem info_of {P:Program} {t size bytes:Nat} {z:Value} (h:(P.info? t).map (fun i=>(i.size,i.bytes,i.zero))=some (size,bytes,some z)):∃ i,P.info? t=some i∧i.size=size∧i.bytes=bytes∧i.zero=some z:=by
 cases hi:P.info? t with
 | none=>simp [hi] at h
 | some i=>
   simp only [hi,Option.map_some,Option.some.injEq,Prod.mk.injEq] at h
   exact ⟨i,rfl,h.1,h.2.1,h.2.2⟩
theorem eqOk_30:EqOk Tryz.prog 30 true [.u32,.u32,.u32]:=by
 have u29:=Tryz.underlying29
 have a29:=Tryz.isAgg29
 have z29:=Tryz.sizeOf29
 have hp:Tryz.prog.stoodInHeld 30=false:=by kernel_rfl
 refine ⟨fun w as1 bs1 h1 h2=>?_,fun w em as1 h1=>?_,fun _=>by kernel_rfl,(fun h=>by cases h),_,Tryz.underlying30,.inr fun as1 bs1 h1 h2=>by simp [mkV,Instr.sameNow]⟩
 ·match as1,bs1,h1,h2 with
  | [x0,x1,x2],[y0,y1,y2],_,_=>
    have hS:Tryz.prog.underlying 30=some (.struct (Tryz.prog.fieldsOf 30)):=by kernel_rfl
    simp only [mkV,mkC,if_true]
    unfold Op.equal Op.maxDepth
    rw [show (10000:Nat)=9999+1 from rfl,run_equalIn_agg w 9999 30 _ _ hS hp]
    simp only [Program.fieldsOf,Tryz.underlying30]
    go_simp
    by_cases e0:x0=y0<;>by_cases e1:x1=y1<;>by_cases e2:x2=y2<;>simp [e0,e1,e2]
 ·match as1,h1 with
  | [x0,x1,x2],_=>
    simp only [mkV,mkC,if_true]
    unfold Instr.checkKey
    simp only [Sem.run_bind,run_underlying Tryz.underlying30,Result.andThen_ok]
    go_simp
    (try simp [chk_int u29])
theorem eqOk_31:EqOk Tryz.prog 31 true [.u32,.u32,.u32]:=by
 have u29:=Tryz.underlying29
 have a29:=Tryz.isAgg29
 have z29:=Tryz.sizeOf29
 have hp:Tryz.prog.stoodInHeld 31=false:=by kernel_rfl
 refine ⟨fun w as1 bs1 h1 h2=>?_,fun w em as1 h1=>?_,fun _=>by kernel_rfl,(fun h=>by cases h),_,Tryz.underlying31,.inr fun as1 bs1 h1 h2=>by simp [mkV,Instr.sameNow]⟩
 ·match as1,bs1,h1,h2 with
  | [x0,x1,x2],[y0,y1,y2],_,_=>
    have hS:Tryz.prog.underlying 31=some (.struct (Tryz.prog.fieldsOf 31)):=by kernel_rfl
    simp only [mkV,mkC,if_true]
    unfold Op.equal Op.maxDepth
    rw [show (10000:Nat)=9999+1 from rfl,run_equalIn_agg w 9999 31 _ _ hS hp]
    simp only [Program.fieldsOf,Tryz.underlying31]
    go_simp
    by_cases e0:x0=y0<;>by_cases e1:x1=y1<;>by_cases e2:x2=y2<;>simp [e0,e1,e2]
 ·match as1,h1 with
  | [x0,x1,x2],_=>
    simp only [mkV,mkC,if_true]
    unfold Instr.checkKey
    simp only [Sem.run_bind,run_underlying Tryz.underlying31,Result.andThen_ok]
    go_simp
    (try simp [chk_int u29])
theorem eqOk_37:EqOk Tryz.prog 37 true [.i64,.u32,.u32,.u32,.u32,.u32]:=by
 have u3:=Tryz.underlying3
 have a3:=Tryz.isAgg3
 have z3:=Tryz.sizeOf3
 have u29:=Tryz.underlying29
 have a29:=Tryz.isAgg29
 have z29:=Tryz.sizeOf29
 have hp:Tryz.prog.stoodInHeld 37=false:=by kernel_rfl
 refine ⟨fun w as1 bs1 h1 h2=>?_,fun w em as1 h1=>?_,fun _=>by kernel_rfl,(fun h=>by cases h),_,Tryz.underlying37,.inr fun as1 bs1 h1 h2=>by simp [mkV,Instr.sameNow]⟩
 ·match as1,bs1,h1,h2 with
  | [x0,x1,x2,x3,x4,x5],[y0,y1,y2,y3,y4,y5],_,_=>
    have hS:Tryz.prog.underlying 37=some (.struct (Tryz.prog.fieldsOf 37)):=by kernel_rfl
    simp only [mkV,mkC,if_true]
    unfold Op.equal Op.maxDepth
    rw [show (10000:Nat)=9999+1 from rfl,run_equalIn_agg w 9999 37 _ _ hS hp]
    simp only [Program.fieldsOf,Tryz.underlying37]
    go_simp
    by_cases e0:x0=y0<;>by_cases e1:x1=y1<;>by_cases e2:x2=y2<;>by_cases e3:x3=y3<;>by_cases e4:x4=y4<;>by_cases e5:x5=y5<;>simp [e0,e1,e2,e3,e4,e5]
 ·match as1,h1 with
  | [x0,x1,x2,x3,x4,x5],_=>
    simp only [mkV,mkC,if_true]
    unfold Instr.checkKey
    simp only [Sem.run_bind,run_underlying Tryz.underlying37,Result.andThen_ok]
    go_simp
    (try simp [chk_int u3,chk_int u29])
theorem eqOk_38:EqOk Tryz.prog 38 true [.i64,.u32,.u32,.u32,.u32,.u32]:=by
 have u3:=Tryz.underlying3
 have a3:=Tryz.isAgg3
 have z3:=Tryz.sizeOf3
 have u29:=Tryz.underlying29
 have a29:=Tryz.isAgg29
 have z29:=Tryz.sizeOf29
 have hp:Tryz.prog.stoodInHeld 38=false:=by kernel_rfl
 refine ⟨fun w as1 bs1 h1 h2=>?_,fun w em as1 h1=>?_,fun _=>by kernel_rfl,(fun h=>by cases h),_,Tryz.underlying38,.inr fun as1 bs1 h1 h2=>by simp [mkV,Instr.sameNow]⟩
 ·match as1,bs1,h1,h2 with
  | [x0,x1,x2,x3,x4,x5],[y0,y1,y2,y3,y4,y5],_,_=>
    have hS:Tryz.prog.underlying 38=some (.struct (Tryz.prog.fieldsOf 38)):=by kernel_rfl
    simp only [mkV,mkC,if_true]
    unfold Op.equal Op.maxDepth
    rw [show (10000:Nat)=9999+1 from rfl,run_equalIn_agg w 9999 38 _ _ hS hp]
    simp only [Program.fieldsOf,Tryz.underlying38]
    go_simp
    by_cases e0:x0=y0<;>by_cases e1:x1=y1<;>by_cases e2:x2=y2<;>by_cases e3:x3=y3<;>by_cases e4:x4=y4<;>by_cases e5:x5=y5<;>simp [e0,e1,e2,e3,e4,e5]
 ·match as1,h1 with
  | [x0,x1,x2,x3,x4,x5],_=>
    simp only [mkV,mkC,if_true]
    unfold Instr.checkKey
    simp only [Sem.run_bind,run_underlying Tryz.underlying38,Result.andThen_ok]
    go_simp
    (try simp [chk_int u3,chk_int u29])
theorem rowOk_3:RowOk Tryz.prog 3 R3:=⟨Tryz.isAgg3,info_of (z:=.int .i64 0) (by kernel_rfl),rfl,fun _=>rfl,rfl,Tryz.underlying3,(fun ks h=>by injection h with h;subst h;exact eqOk_int Tryz.underlying3)⟩
theorem rowOk_4:RowOk Tryz.prog 4 R4:=⟨Tryz.isAgg4,info_of (z:=.bool false) (by kernel_rfl),rfl,fun _=>rfl,rfl,Tryz.underlying4,(fun ks h=>by cases h)⟩
theorem rowOk_5:RowOk Tryz.prog 5 R5:=⟨Tryz.isAgg5,info_of (z:=.int .u8 0) (by kernel_rfl),rfl,fun _=>rfl,rfl,Tryz.underlying5,(fun ks h=>by injection h with h;subst h;exact eqOk_int Tryz.underlying5)⟩
theorem rowOk_9:RowOk Tryz.prog 9 R9:=⟨Tryz.isAgg9,info_of (z:=.string ⟨#[]⟩) (by kernel_rfl),rfl,fun _=>rfl,rfl,Tryz.underlying9,(fun ks h=>by cases h)⟩
theorem rowOk_22:RowOk Tryz.prog 22 R22:=⟨Tryz.isAgg22,info_of (z:=.slice none 0 0) (by kernel_rfl),rfl,fun _=>rfl,rfl,Tryz.underlying22,(fun ks h=>by cases h)⟩
theorem rowOk_23:RowOk Tryz.prog 23 R23:=⟨Tryz.isAgg23,info_of (z:=.slice none 0 0) (by kernel_rfl),rfl,fun _=>rfl,rfl,Tryz.underlying23,(fun ks h=>by cases h)⟩
theorem rowOk_24:RowOk Tryz.prog 24 R24:=⟨Tryz.isAgg24,info_of (z:=.agg #[.slice none 0 0,.slice none 0 0]) (by kernel_rfl),rfl,(fun h=>by cases h),rfl,⟨_,Tryz.underlying24,rfl⟩,(fun ks h=>by cases h)⟩
theorem rowOk_25:RowOk Tryz.prog 25 R25:=⟨Tryz.isAgg25,info_of (z:=.agg #[.slice none 0 0,.slice none 0 0]) (by kernel_rfl),rfl,(fun h=>by cases h),rfl,⟨_,Tryz.underlying25,rfl⟩,(fun ks h=>by cases h)⟩
theorem rowOk_26:RowOk Tryz.prog 26 R26:=⟨Tryz.isAgg26,info_of (z:=.slice none 0 0) (by kernel_rfl),rfl,fun _=>rfl,rfl,Tryz.underlying26,(fun ks h=>by cases h)⟩
theorem rowOk_27:RowOk Tryz.prog 27 R27:=⟨Tryz.isAgg27,info_of (z:=.agg #[.slice none 0 0,.slice none 0 0,.slice none 0 0]) (by kernel_rfl),rfl,(fun h=>by cases h),rfl,⟨_,Tryz.underlying27,rfl⟩,(fun ks h=>by cases h)⟩
theorem rowOk_28:RowOk Tryz.prog 28 R28:=⟨Tryz.isAgg28,info_of (z:=.agg #[.slice none 0 0,.slice none 0 0,.slice none 0 0]) (by kernel_rfl),rfl,(fun h=>by cases h),rfl,⟨_,Tryz.underlying28,rfl⟩,(fun ks h=>by cases h)⟩
theorem rowOk_29:RowOk Tryz.prog 29 R29:=⟨Tryz.isAgg29,info_of (z:=.int .u32 0) (by kernel_rfl),rfl,fun _=>rfl,rfl,Tryz.underlying29,(fun ks h=>by injection h with h;subst h;exact eqOk_int Tryz.underlying29)⟩
theorem rowOk_30:RowOk Tryz.prog 30 R30:=⟨Tryz.isAgg30,info_of (z:=.agg #[.int .u32 0,.int .u32 0,.int .u32 0]) (by kernel_rfl),rfl,(fun h=>by cases h),rfl,⟨_,Tryz.underlying30,rfl⟩,(fun ks h=>by injection h with h;subst h;exact eqOk_30)⟩
theorem rowOk_31:RowOk Tryz.prog 31 R31:=⟨Tryz.isAgg31,info_of (z:=.agg #[.int .u32 0,.int .u32 0,.int .u32 0]) (by kernel_rfl),rfl,(fun h=>by cases h),rfl,⟨_,Tryz.underlying31,rfl⟩,(fun ks h=>by injection h with h;subst h;exact eqOk_31)⟩
theorem rowOk_34:RowOk Tryz.prog 34 R34:=⟨Tryz.isAgg34,info_of (z:=.int .i64 0) (by kernel_rfl),rfl,fun _=>rfl,rfl,Tryz.underlying34,(fun ks h=>by injection h with h;subst h;exact eqOk_int Tryz.underlying34)⟩
theorem rowOk_37:RowOk Tryz.prog 37 R37:=⟨Tryz.isAgg37,info_of (z:=.agg #[.int .i64 0,.int .u32 0,.int .u32 0,.int .u32 0,.int .u32 0,.int .u32 0]) (by kernel_rfl),rfl,(fun h=>by cases h),rfl,⟨_,Tryz.underlying37,rfl⟩,(fun ks h=>by injection h with h;subst h;exact eqOk_37)⟩
theorem rowOk_38:RowOk Tryz.prog 38 R38:=⟨Tryz.isAgg38,info_of (z:=.agg #[.int .i64 0,.int .u32 0,.int .u32 0,.int .u32 0,.int .u32 0,.int .u32 0]) (by kernel_rfl),rfl,(fun h=>by cases h),rfl,⟨_,Tryz.underlying38,rfl⟩,(fun ks h=>by injection h with h;subst h;exact eqOk_38)⟩
theorem rowOk_45:RowOk Tryz.prog 45 R45:=⟨Tryz.isAgg45,info_of (z:=.slice none 0 0) (by kernel_rfl),rfl,fun _=>rfl,rfl,Tryz.underlying45,(fun ks h=>by cases h)⟩
theorem rowOk_58:RowOk Tryz.prog 58 R58:=⟨Tryz.isAgg58,info_of (z:=.pointer none) (by kernel_rfl),rfl,fun _=>rfl,rfl,Tryz.underlying58,(fun ks h=>by cases h)⟩
theorem rowOk_60:RowOk Tryz.prog 60 R60:=⟨Tryz.isAgg60,info_of (z:=.agg #[.slice none 0 0,.slice none 0 0,.slice none 0 0]) (by kernel_rfl),rfl,(fun h=>by cases h),rfl,⟨_,Tryz.underlying60,rfl⟩,(fun ks h=>by cases h)⟩
theorem rowOk_61:RowOk Tryz.prog 61 R61:=⟨Tryz.isAgg61,info_of (z:=.agg #[.slice none 0 0,.slice none 0 0,.slice none 0 0]) (by kernel_rfl),rfl,(fun h=>by cases h),rfl,⟨_,Tryz.underlying61,rfl⟩,(fun ks h=>by cases h)⟩
theorem rowOk_63:RowOk Tryz.prog 63 R63:=⟨Tryz.isAgg63,info_of (z:=.map none) (by kernel_rfl),rfl,fun _=>rfl,rfl,Tryz.underlying63,(fun ks h=>by cases h)⟩
theorem rowOk_65:RowOk Tryz.prog 65 R65:=⟨Tryz.isAgg65,info_of (z:=.map none) (by kernel_rfl),rfl,fun _=>rfl,rfl,Tryz.underlying65,(fun ks h=>by cases h)⟩
theorem rowOk_66:RowOk Tryz.prog 66 R66:=⟨Tryz.isAgg66,info_of (z:=.nilFunc) (by kernel_rfl),rfl,fun _=>rfl,rfl,⟨_,_,_,Tryz.underlying66⟩,(fun ks h=>by cases h)⟩
theorem rowOk_87:RowOk Tryz.prog 87 R87:=⟨Tryz.isAgg87,info_of (z:=.int .u64 0) (by kernel_rfl),rfl,fun _=>rfl,rfl,Tryz.underlying87,(fun ks h=>by injection h with h;subst h;exact eqOk_int Tryz.underlying87)⟩
theorem rowOk_102:RowOk Tryz.prog 102 R102:=⟨Tryz.isAgg102,info_of (z:=.map none) (by kernel_rfl),rfl,fun _=>rfl,rfl,Tryz.underlying102,(fun ks h=>by cases h)⟩
theorem rowOk_123:RowOk Tryz.prog 123 R123:=⟨Tryz.isAgg123,info_of (z:=.map none) (by kernel_rfl),rfl,fun _=>rfl,rfl,Tryz.underlying123,(fun ks h=>by cases h)⟩
theorem rowOk_140:RowOk Tryz.prog 140 R140:=⟨Tryz.isAgg140,info_of (z:=.int .i64 0) (by kernel_rfl),rfl,fun _=>rfl,rfl,Tryz.underlying140,(fun ks h=>by injection h with h;subst h;exact eqOk_int Tryz.underlying140)⟩
theorem rowOk_148:RowOk Tryz.prog 148 R148:=⟨Tryz.isAgg148,info_of (z:=.int .u64 0) (by kernel_rfl),rfl,fun _=>rfl,rfl,Tryz.underlying148,(fun ks h=>by injection h with h;subst h;exact eqOk_int Tryz.underlying148)⟩
theorem rowOk_151:RowOk Tryz.prog 151 R151:=⟨Tryz.isAgg151,info_of (z:=.nilFunc) (by kernel_rfl),rfl,fun _=>rfl,rfl,⟨_,_,_,Tryz.underlying151⟩,(fun ks h=>by cases h)⟩
theorem rowOk_155:RowOk Tryz.prog 155 R155:=⟨Tryz.isAgg155,info_of (z:=.int .u64 0) (by kernel_rfl),rfl,fun _=>rfl,rfl,Tryz.underlying155,(fun ks h=>by injection h with h;subst h;exact eqOk_int Tryz.underlying155)⟩
theorem rowOk_159:RowOk Tryz.prog 159 R159:=⟨Tryz.isAgg159,info_of (z:=.pointer none) (by kernel_rfl),rfl,fun _=>rfl,rfl,Tryz.underlying159,(fun ks h=>by cases h)⟩
theorem rowOk_168:RowOk Tryz.prog 168 R168:=⟨Tryz.isAgg168,info_of (z:=.pointer none) (by kernel_rfl),rfl,fun _=>rfl,rfl,Tryz.underlying168,(fun ks h=>by cases h)⟩
theorem tabOk:TabOk Tryz.prog tab:=tabOk_of tabL ⟨rowOk_3,rowOk_4,rowOk_5,rowOk_9,rowOk_22,rowOk_23,rowOk_24,rowOk_25,rowOk_26,rowOk_27,rowOk_28,rowOk_29,rowOk_30,rowOk_31,rowOk_34,rowOk_37,rowOk_38,rowOk_45,rowOk_58,rowOk_60,rowOk_61,rowOk_63,rowOk_65,rowOk_66,rowOk_87,rowOk_102,rowOk_123,rowOk_140,rowOk_148,rowOk_151,rowOk_155,rowOk_159,rowOk_168,trivial⟩
end Go.Proofs.YtglkgindpjdoiaaGreat.Aw
