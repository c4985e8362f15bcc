/- The types of this seat's translation, as a table, and that the loaded program has them so. Written by a program (gentab.py). -/
import Derived.Test.YtkcokoefodgigaaGreatAwDraw
import Derived.Test.YtkcokoefodgigaaGreatAwArr
import Derived.Test.YtkcokoefodgigaaGreatProg
import Derived.KernelRfl
import Derived.Tactics
import Derived.Laws.StructEq
namespace Go.Proofs.YtkcokoefodgigaaGreat.Aw
open Go Go.RowKit
set_option linter.unusedSimpArgs false
set_option linter.unusedVariables false
def R3:TRow:={ agg:=false,size:=1,bytes:=8,zero:=[.int .i64 0],d:=.int .i64,ck:=some [.i64] }
def R4:TRow:={ agg:=false,size:=1,bytes:=1,zero:=[.bool false],d:=.bool }
def R5:TRow:={ agg:=false,size:=1,bytes:=1,zero:=[.int .u8 0],d:=.int .u8,ck:=some [.u8] }
def R9:TRow:={ agg:=false,size:=1,bytes:=16,zero:=[.string ⟨#[]⟩],d:=.str }
def R22:TRow:={ agg:=false,size:=1,bytes:=24,zero:=[.slice none 0 0],d:=.slice 32 }
def R23:TRow:={ agg:=false,size:=1,bytes:=24,zero:=[.slice none 0 0],d:=.slice 34 }
def R24:TRow:={ agg:=true,size:=2,bytes:=48,zero:=[.slice none 0 0,.slice none 0 0],d:=.struct [(0,22),(1,23)] }
def R25:TRow:={ agg:=true,size:=2,bytes:=48,zero:=[.slice none 0 0,.slice none 0 0],d:=.struct [(0,22),(1,23)] }
def R28:TRow:={ agg:=false,size:=1,bytes:=24,zero:=[.slice none 0 0],d:=.slice 23 }
def R30:TRow:={ agg:=false,size:=1,bytes:=24,zero:=[.slice none 0 0],d:=.slice 31 }
def R31:TRow:={ agg:=false,size:=1,bytes:=8,zero:=[.map none],d:=.map 32 4 }
def R32:TRow:={ agg:=false,size:=1,bytes:=4,zero:=[.int .u32 0],d:=.int .u32,ck:=some [.u32] }
def R33:TRow:={ agg:=true,size:=3,bytes:=12,zero:=[.int .u32 0,.int .u32 0,.int .u32 0],d:=.struct [(0,32),(1,32),(2,32)],ck:=some [.u32,.u32,.u32] }
def R34:TRow:={ agg:=true,size:=3,bytes:=12,zero:=[.int .u32 0,.int .u32 0,.int .u32 0],d:=.struct [(0,32),(1,32),(2,32)],ck:=some [.u32,.u32,.u32] }
def R36:TRow:={ agg:=false,size:=1,bytes:=24,zero:=[.slice none 0 0],d:=.slice 22 }
def R41:TRow:={ agg:=false,size:=1,bytes:=8,zero:=[.pointer none],d:=.ptr 46 }
def R42:TRow:={ agg:=false,size:=1,bytes:=8,zero:=[.map none],d:=.map 32 44 }
def R43:TRow:={ agg:=false,size:=1,bytes:=8,zero:=[.map none],d:=.map 32 3 }
def R44:TRow:={ agg:=false,size:=1,bytes:=24,zero:=[.slice none 0 0],d:=.slice 3 }
def R45:TRow:={ agg:=true,size:=6,bytes:=96,zero:=[.slice none 0 0,.map none,.map none,.map none,.slice none 0 0,.slice none 0 0],d:=.struct [(0,23),(1,42),(2,43),(3,43),(4,44),(5,28)] }
def R46:TRow:={ agg:=true,size:=6,bytes:=96,zero:=[.slice none 0 0,.map none,.map none,.map none,.slice none 0 0,.slice none 0 0],d:=.struct [(0,23),(1,42),(2,43),(3,43),(4,44),(5,28)] }
def R52:TRow:={ agg:=false,size:=1,bytes:=8,zero:=[.nilFunc],d:=.func }
def R54:TRow:={ agg:=false,size:=1,bytes:=8,zero:=[.nilFunc],d:=.func }
def R55:TRow:={ agg:=false,size:=1,bytes:=8,zero:=[.map none],d:=.map 32 22 }
def R62:TRow:={ agg:=false,size:=1,bytes:=8,zero:=[.int .u64 0],d:=.int .u64,ck:=some [.u64] }
def R75:TRow:={ agg:=false,size:=1,bytes:=8,zero:=[.int .i64 0],d:=.int .i64,ck:=some [.i64] }
def R78:TRow:={ agg:=false,size:=1,bytes:=8,zero:=[.int .i64 0],d:=.int .i64,ck:=some [.i64] }
def R87:TRow:={ agg:=false,size:=1,bytes:=8,zero:=[.int .u64 0],d:=.int .u64,ck:=some [.u64] }
def R100:TRow:={ agg:=false,size:=1,bytes:=8,zero:=[.int .u64 0],d:=.int .u64,ck:=some [.u64] }
def R104:TRow:={ agg:=false,size:=1,bytes:=8,zero:=[.pointer none],d:=.ptr 3 }
def R119:TRow:={ agg:=false,size:=1,bytes:=8,zero:=[.pointer none],d:=.ptr 100 }
def tabL:List (Nat×TRow):=[(3,R3),(4,R4),(5,R5),(9,R9),(22,R22),(23,R23),(24,R24),(25,R25),(28,R28),(30,R30),(31,R31),(32,R32),(33,R33),(34,R34),(36,R36),(41,R41),(42,R42),(43,R43),(44,R44),(45,R45),(46,R46),(52,R52),(54,R54),(55,R55),(62,R62),(75,R75),(78,R78),(87,R87),(100,R100),(104,R104),(119,R119)]
def tab:Tab:=lookT tabL
@[simp] theorem tab_3:tab 3=some { agg:=false,size:=1,bytes:=8,zero:=[.int .i64 0],d:=.int .i64,ck:=some [.i64] }:=rfl
@[simp] theorem tab_4:tab 4=some { agg:=false,size:=1,bytes:=1,zero:=[.bool false],d:=.bool }:=rfl
@[simp] theorem tab_5:tab 5=some { agg:=false,size:=1,bytes:=1,zero:=[.int .u8 0],d:=.int .u8,ck:=some [.u8] }:=rfl
@[simp] theorem tab_9:tab 9=some { agg:=false,size:=1,bytes:=16,zero:=[.string ⟨#[]⟩],d:=.str }:=rfl
@[simp] theorem tab_22:tab 22=some { agg:=false,size:=1,bytes:=24,zero:=[.slice none 0 0],d:=.slice 32 }:=rfl
@[simp] theorem tab_23:tab 23=some { agg:=false,size:=1,bytes:=24,zero:=[.slice none 0 0],d:=.slice 34 }:=rfl
@[simp] theorem tab_24:tab 24=some { agg:=true,size:=2,bytes:=48,zero:=[.slice none 0 0,.slice none 0 0],d:=.struct [(0,22),(1,23)] }:=rfl
@[simp] theorem tab_25:tab 25=some { agg:=true,size:=2,bytes:=48,zero:=[.slice none 0 0,.slice none 0 0],d:=.struct [(0,22),(1,23)] }:=rfl
@[simp] theorem tab_28:tab 28=some { agg:=false,size:=1,bytes:=24,zero:=[.slice none 0 0],d:=.slice 23 }:=rfl
@[simp] theorem tab_30:tab 30=some { agg:=false,size:=1,bytes:=24,zero:=[.slice none 0 0],d:=.slice 31 }:=rfl
@[simp] theorem tab_31:tab 31=some { agg:=false,size:=1,bytes:=8,zero:=[.map none],d:=.map 32 4 }:=rfl
@[simp] theorem tab_32:tab 32=some { agg:=false,size:=1,bytes:=4,zero:=[.int .u32 0],d:=.int .u32,ck:=some [.u32] }:=rfl
@[simp] theorem tab_33:tab 33=some { agg:=true,size:=3,bytes:=12,zero:=[.int .u32 0,.int .u32 0,.int .u32 0],d:=.struct [(0,32),(1,32),(2,32)],ck:=some [.u32,.u32,.u32] }:=rfl
@[simp] theorem tab_34:tab 34=some { agg:=true,size:=3,bytes:=12,zero:=[.int .u32 0,.int .u32 0,.int .u32 0],d:=.struct [(0,32),(1,32),(2,32)],ck:=some [.u32,.u32,.u32] }:=rfl
@[simp] theorem tab_36:tab 36=some { agg:=false,size:=1,bytes:=24,zero:=[.slice none 0 0],d:=.slice 22 }:=rfl
@[simp] theorem tab_41:tab 41=some { agg:=false,size:=1,bytes:=8,zero:=[.pointer none],d:=.ptr 46 }:=rfl
@[simp] theorem tab_42:tab 42=some { agg:=false,size:=1,bytes:=8,zero:=[.map none],d:=.map 32 44 }:=rfl
@[simp] theorem tab_43:tab 43=some { agg:=false,size:=1,bytes:=8,zero:=[.map none],d:=.map 32 3 }:=rfl
@[simp] theorem tab_44:tab 44=some { agg:=false,size:=1,bytes:=24,zero:=[.slice none 0 0],d:=.slice 3 }:=rfl
@[simp] theorem tab_45:tab 45=some { agg:=true,size:=6,bytes:=96,zero:=[.slice none 0 0,.map none,.map none,.map none,.slice none 0 0,.slice none 0 0],d:=.struct [(0,23),(1,42),(2,43),(3,43),(4,44),(5,28)] }:=rfl
@[simp] theorem tab_46:tab 46=some { agg:=true,size:=6,bytes:=96,zero:=[.slice none 0 0,.map none,.map none,.map none,.slice none 0 0,.slice none 0 0],d:=.struct [(0,23),(1,42),(2,43),(3,43),(4,44),(5,28)] }:=rfl
@[simp] theorem tab_52:tab 52=some { agg:=false,size:=1,bytes:=8,zero:=[.nilFunc],d:=.func }:=rfl
@[simp] theorem tab_54:tab 54=some { agg:=false,size:=1,bytes:=8,zero:=[.nilFunc],d:=.func }:=rfl
@[simp] theorem tab_55:tab 55=some { agg:=false,size:=1,bytes:=8,zero:=[.map none],d:=.map 32 22 }:=rfl
@[simp] theorem tab_62:tab 62=some { agg:=false,size:=1,bytes:=8,zero:=[.int .u64 0],d:=.int .u64,ck:=some [.u64] }:=rfl
@[simp] theorem tab_75:tab 75=some { agg:=false,size:=1,bytes:=8,zero:=[.int .i64 0],d:=.int .i64,ck:=some [.i64] }:=rfl
@[simp] theorem tab_78:tab 78=some { agg:=false,size:=1,bytes:=8,zero:=[.int .i64 0],d:=.int .i64,ck:=some [.i64] }:=rfl
@[simp] theorem tab_87:tab 87=some { agg:=false,size:=1,bytes:=8,zero:=[.int .u64 0],d:=.int .u64,ck:=some [.u64] }:=rfl
@[simp] theorem tab_100:tab 100=some { agg:=false,size:=1,bytes:=8,zero:=[.int .u64 0],d:=.int .u64,ck:=some [.u64] }:=rfl
@[simp] theorem tab_104:tab 104=some { agg:=false,size:=1,bytes:=8,zero:=[.pointer none],d:=.ptr 3 }:=rfl
@[simp] theorem tab_119:tab 119=some { agg:=false,size:=1,bytes:=8,zero:=[.pointer none],d:=.ptr 100 }:=rfl
theorem info_of {P:Program} {t size bytes:Nat} {z:Value} (h:(P.info? t).map (fun i=>(i.size,i.bytes,i.zero))=some (size,bytes,some z)):∃ i,P.info? t=some i∧i.size=size∧i.bytes=bytes∧i.zero=some z:=by
 cases hi:P.info? t with
 | none=>simp [hi] at h
 | some i=>
   simp only [hi,Option.map_some,Option.some.injEq,Prod.mk.injEq] at h
   exact ⟨i,rfl,h.1,h.2.1,h.2.2⟩
theorem eqOk_33:EqOk Tryz.prog 33 true [.u32,.u32,.u32]:=by
 have u32:=Tryz.underlying32
 have a32:=Tryz.isAgg32
 have z32:=Tryz.sizeOf32
 have hp:Tryz.prog.stoodInHeld 33=false:=by kernel_rfl
 refine ⟨fun w as1 bs1 h1 h2=>?_,fun w em as1 h1=>?_,fun _=>by kernel_rfl,(fun h=>by cases h),_,Tryz.underlying33,.inr fun as1 bs1 h1 h2=>by simp [mkV,Instr.sameNow]⟩
 ·match as1,bs1,h1,h2 with
  | [x0,x1,x2],[y0,y1,y2],_,_=>
    have hS:Tryz.prog.underlying 33=some (.struct (Tryz.prog.fieldsOf 33)):=by kernel_rfl
    simp only [mkV,mkC,if_true]
    unfold Op.equal Op.maxDepth
    rw [show (10000:Nat)=9999+1 from rfl,run_equalIn_agg w 9999 33 _ _ hS hp]
    simp only [Program.fieldsOf,Tryz.underlying33]
    go_simp
    by_cases e0:x0=y0<;>by_cases e1:x1=y1<;>by_cases e2:x2=y2<;>simp [e0,e1,e2]
 ·match as1,h1 with
  | [x0,x1,x2],_=>
    simp only [mkV,mkC,if_true]
    unfold Instr.checkKey
    simp only [Sem.run_bind,run_underlying Tryz.underlying33,Result.andThen_ok]
    go_simp
    (try simp [chk_int u32])
theorem eqOk_34:EqOk Tryz.prog 34 true [.u32,.u32,.u32]:=by
 have u32:=Tryz.underlying32
 have a32:=Tryz.isAgg32
 have z32:=Tryz.sizeOf32
 have hp:Tryz.prog.stoodInHeld 34=false:=by kernel_rfl
 refine ⟨fun w as1 bs1 h1 h2=>?_,fun w em as1 h1=>?_,fun _=>by kernel_rfl,(fun h=>by cases h),_,Tryz.underlying34,.inr fun as1 bs1 h1 h2=>by simp [mkV,Instr.sameNow]⟩
 ·match as1,bs1,h1,h2 with
  | [x0,x1,x2],[y0,y1,y2],_,_=>
    have hS:Tryz.prog.underlying 34=some (.struct (Tryz.prog.fieldsOf 34)):=by kernel_rfl
    simp only [mkV,mkC,if_true]
    unfold Op.equal Op.maxDepth
    rw [show (10000:Nat)=9999+1 from rfl,run_equalIn_agg w 9999 34 _ _ hS hp]
    simp only [Program.fieldsOf,Tryz.underlying34]
    go_simp
    by_cases e0:x0=y0<;>by_cases e1:x1=y1<;>by_cases e2:x2=y2<;>simp [e0,e1,e2]
 ·match as1,h1 with
  | [x0,x1,x2],_=>
    simp only [mkV,mkC,if_true]
    unfold Instr.checkKey
    simp only [Sem.run_bind,run_underlying Tryz.underlying34,Result.andThen_ok]
    go_simp
    (try simp [chk_int u32])
theorem rowOk_3:RowOk Tryz.prog 3 R3:=⟨Tryz.isAgg3,info_of (z:=.int .i64 0) (by kernel_rfl),rfl,fun _=>rfl,rfl,Tryz.underlying3,(fun ks h=>by injection h with h;subst h;exact eqOk_int Tryz.underlying3)⟩
theorem rowOk_4:RowOk Tryz.prog 4 R4:=⟨Tryz.isAgg4,info_of (z:=.bool false) (by kernel_rfl),rfl,fun _=>rfl,rfl,Tryz.underlying4,(fun ks h=>by cases h)⟩
theorem rowOk_5:RowOk Tryz.prog 5 R5:=⟨Tryz.isAgg5,info_of (z:=.int .u8 0) (by kernel_rfl),rfl,fun _=>rfl,rfl,Tryz.underlying5,(fun ks h=>by injection h with h;subst h;exact eqOk_int Tryz.underlying5)⟩
theorem rowOk_9:RowOk Tryz.prog 9 R9:=⟨Tryz.isAgg9,info_of (z:=.string ⟨#[]⟩) (by kernel_rfl),rfl,fun _=>rfl,rfl,Tryz.underlying9,(fun ks h=>by cases h)⟩
theorem rowOk_22:RowOk Tryz.prog 22 R22:=⟨Tryz.isAgg22,info_of (z:=.slice none 0 0) (by kernel_rfl),rfl,fun _=>rfl,rfl,Tryz.underlying22,(fun ks h=>by cases h)⟩
theorem rowOk_23:RowOk Tryz.prog 23 R23:=⟨Tryz.isAgg23,info_of (z:=.slice none 0 0) (by kernel_rfl),rfl,fun _=>rfl,rfl,Tryz.underlying23,(fun ks h=>by cases h)⟩
theorem rowOk_24:RowOk Tryz.prog 24 R24:=⟨Tryz.isAgg24,info_of (z:=.agg #[.slice none 0 0,.slice none 0 0]) (by kernel_rfl),rfl,(fun h=>by cases h),rfl,⟨_,Tryz.underlying24,rfl⟩,(fun ks h=>by cases h)⟩
theorem rowOk_25:RowOk Tryz.prog 25 R25:=⟨Tryz.isAgg25,info_of (z:=.agg #[.slice none 0 0,.slice none 0 0]) (by kernel_rfl),rfl,(fun h=>by cases h),rfl,⟨_,Tryz.underlying25,rfl⟩,(fun ks h=>by cases h)⟩
theorem rowOk_28:RowOk Tryz.prog 28 R28:=⟨Tryz.isAgg28,info_of (z:=.slice none 0 0) (by kernel_rfl),rfl,fun _=>rfl,rfl,Tryz.underlying28,(fun ks h=>by cases h)⟩
theorem rowOk_30:RowOk Tryz.prog 30 R30:=⟨Tryz.isAgg30,info_of (z:=.slice none 0 0) (by kernel_rfl),rfl,fun _=>rfl,rfl,Tryz.underlying30,(fun ks h=>by cases h)⟩
theorem rowOk_31:RowOk Tryz.prog 31 R31:=⟨Tryz.isAgg31,info_of (z:=.map none) (by kernel_rfl),rfl,fun _=>rfl,rfl,Tryz.underlying31,(fun ks h=>by cases h)⟩
theorem rowOk_32:RowOk Tryz.prog 32 R32:=⟨Tryz.isAgg32,info_of (z:=.int .u32 0) (by kernel_rfl),rfl,fun _=>rfl,rfl,Tryz.underlying32,(fun ks h=>by injection h with h;subst h;exact eqOk_int Tryz.underlying32)⟩
theorem rowOk_33:RowOk Tryz.prog 33 R33:=⟨Tryz.isAgg33,info_of (z:=.agg #[.int .u32 0,.int .u32 0,.int .u32 0]) (by kernel_rfl),rfl,(fun h=>by cases h),rfl,⟨_,Tryz.underlying33,rfl⟩,(fun ks h=>by injection h with h;subst h;exact eqOk_33)⟩
theorem rowOk_34:RowOk Tryz.prog 34 R34:=⟨Tryz.isAgg34,info_of (z:=.agg #[.int .u32 0,.int .u32 0,.int .u32 0]) (by kernel_rfl),rfl,(fun h=>by cases h),rfl,⟨_,Tryz.underlying34,rfl⟩,(fun ks h=>by injection h with h;subst h;exact eqOk_34)⟩
theorem rowOk_36:RowOk Tryz.prog 36 R36:=⟨Tryz.isAgg36,info_of (z:=.slice none 0 0) (by kernel_rfl),rfl,fun _=>rfl,rfl,Tryz.underlying36,(fun ks h=>by cases h)⟩
theorem rowOk_41:RowOk Tryz.prog 41 R41:=⟨Tryz.isAgg41,info_of (z:=.pointer none) (by kernel_rfl),rfl,fun _=>rfl,rfl,Tryz.underlying41,(fun ks h=>by cases h)⟩
theorem rowOk_42:RowOk Tryz.prog 42 R42:=⟨Tryz.isAgg42,info_of (z:=.map none) (by kernel_rfl),rfl,fun _=>rfl,rfl,Tryz.underlying42,(fun ks h=>by cases h)⟩
theorem rowOk_43:RowOk Tryz.prog 43 R43:=⟨Tryz.isAgg43,info_of (z:=.map none) (by kernel_rfl),rfl,fun _=>rfl,rfl,Tryz.underlying43,(fun ks h=>by cases h)⟩
theorem rowOk_44:RowOk Tryz.prog 44 R44:=⟨Tryz.isAgg44,info_of (z:=.slice none 0 0) (by kernel_rfl),rfl,fun _=>rfl,rfl,Tryz.underlying44,(fun ks h=>by cases h)⟩
theorem rowOk_45:RowOk Tryz.prog 45 R45:=⟨Tryz.isAgg45,info_of (z:=.agg #[.slice none 0 0,.map none,.map none,.map none,.slice none 0 0,.slice none 0 0]) (by kernel_rfl),rfl,(fun h=>by cases h),rfl,⟨_,Tryz.underlying45,rfl⟩,(fun ks h=>by cases h)⟩
theorem rowOk_46:RowOk Tryz.prog 46 R46:=⟨Tryz.isAgg46,info_of (z:=.agg #[.slice none 0 0,.map none,.map none,.map none,.slice none 0 0,.slice none 0 0]) (by kernel_rfl),rfl,(fun h=>by cases h),rfl,⟨_,Tryz.underlying46,rfl⟩,(fun ks h=>by cases h)⟩
theorem rowOk_52:RowOk Tryz.prog 52 R52:=⟨Tryz.isAgg52,info_of (z:=.nilFunc) (by kernel_rfl),rfl,fun _=>rfl,rfl,⟨_,_,_,Tryz.underlying52⟩,(fun ks h=>by cases h)⟩
theorem rowOk_54:RowOk Tryz.prog 54 R54:=⟨Tryz.isAgg54,info_of (z:=.nilFunc) (by kernel_rfl),rfl,fun _=>rfl,rfl,⟨_,_,_,Tryz.underlying54⟩,(fun ks h=>by cases h)⟩
theorem rowOk_55:RowOk Tryz.prog 55 R55:=⟨Tryz.isAgg55,info_of (z:=.map none) (by kernel_rfl),rfl,fun _=>rfl,rfl,Tryz.underlying55,(fun ks h=>by cases h)⟩
theorem rowOk_62:RowOk Tryz.prog 62 R62:=⟨Tryz.isAgg62,info_of (z:=.int .u64 0) (by kernel_rfl),rfl,fun _=>rfl,rfl,Tryz.underlying62,(fun ks h=>by injection h with h;subst h;exact eqOk_int Tryz.underlying62)⟩
theorem rowOk_75:RowOk Tryz.prog 75 R75:=⟨Tryz.isAgg75,info_of (z:=.int .i64 0) (by kernel_rfl),rfl,fun _=>rfl,rfl,Tryz.underlying75,(fun ks h=>by injection h with h;subst h;exact eqOk_int Tryz.underlying75)⟩
theorem rowOk_78:RowOk Tryz.prog 78 R78:=⟨Tryz.isAgg78,info_of (z:=.int .i64 0) (by kernel_rfl),rfl,fun _=>rfl,rfl,Tryz.underlying78,(fun ks h=>by injection h with h;subst h;exact eqOk_int Tryz.underlying78)⟩
theorem rowOk_87:RowOk Tryz.prog 87 R87:=⟨Tryz.isAgg87,info_of (z:=.int .u64 0) (by kernel_rfl),rfl,fun _=>rfl,rfl,Tryz.underlying87,(fun ks h=>by injection h with h;subst h;exact eqOk_int Tryz.underlying87)⟩
theorem rowOk_100:RowOk Tryz.prog 100 R100:=⟨Tryz.isAgg100,info_of (z:=.int .u64 0) (by kernel_rfl),rfl,fun _=>rfl,rfl,Tryz.underlying100,(fun ks h=>by injection h with h;subst h;exact eqOk_int Tryz.underlying100)⟩
theorem rowOk_104:RowOk Tryz.prog 104 R104:=⟨Tryz.isAgg104,info_of (z:=.pointer none) (by kernel_rfl),rfl,fun _=>rfl,rfl,Tryz.underlying104,(fun ks h=>by cases h)⟩
theorem rowOk_119:RowOk Tryz.prog 119 R119:=⟨Tryz.isAgg119,info_of (z:=.pointer none) (by kernel_rfl),rfl,fun _=>rfl,rfl,Tryz.underlying119,(fun ks h=>by cases h)⟩
theorem tabOk:TabOk Tryz.prog tab:=tabOk_of tabL ⟨rowOk_3,rowOk_4,rowOk_5,rowOk_9,rowOk_22,rowOk_23,rowOk_24,rowOk_25,rowOk_28,rowOk_30,rowOk_31,rowOk_32,rowOk_33,rowOk_34,rowOk_36,rowOk_41,rowOk_42,rowOk_43,rowOk_44,rowOk_45,rowOk_46,rowOk_52,rowOk_54,rowOk_55,rowOk_62,rowOk_75,rowOk_78,rowOk_87,rowOk_100,rowOk_104,rowOk_119,trivial⟩
end Go.Proofs.YtkcokoefodgigaaGreat.Aw
