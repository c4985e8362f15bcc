/- Lemmas. -/
import Derived.Test.YtbgngpdonpeboaaGreatDoorAwDraw
import Derived.Test.YtbgngpdonpeboaaGreatDoorAwArr
import Derived.Test.YtbgngpdonpeboaaGreatDoorProg
import Derived.KernelRfl
set_option linter.defProp false
open Go.Proofs.Tryz
namespace Go.Proofs.YtbgngpdonpeboaaGreatDoor
namespace Aw
open Go Go.RowKit
@[simp] def R3:bQ:={ agg:=false,size:=1,bytes:=8,zero:=[.int .i64 0],d:=.int .i64,ck:=some [.i64] }
@[simp] def R4:bQ:={ agg:=false,size:=1,bytes:=1,zero:=[.bool false],d:=.bool }
@[simp] def R5:bQ:={ agg:=false,size:=1,bytes:=1,zero:=[.int .u8 0],d:=.int .u8,ck:=some [.u8] }
@[simp] def R9:bQ:={ agg:=false,size:=1,bytes:=16,zero:=[.string ⟨#[]⟩],d:=.str }
@[simp] def yc:bQ:={ agg:=false,size:=1,bytes:=24,zero:=[.slice none 0 0],d:=.slice 34 }
@[simp] def yd:bQ:={ agg:=false,size:=1,bytes:=24,zero:=[.slice none 0 0],d:=.slice 36 }
@[simp] def vu:bQ:={ agg:=true,size:=2,bytes:=48,zero:=[.slice none 0 0,.slice none 0 0],d:=.struct [(0,22),(1,23)] }
@[simp] def ye:bQ:=vu
@[simp] def yf:bQ:={ agg:=false,size:=1,bytes:=24,zero:=[.slice none 0 0],d:=.slice 22 }
@[simp] def vv:bQ:={ agg:=true,size:=3,bytes:=72,zero:=[.slice none 0 0,.slice none 0 0,.slice none 0 0],d:=.struct [(0,25),(2,26)] }
@[simp] def yg:bQ:=vv
@[simp] def yh:bQ:={ agg:=false,size:=1,bytes:=4,zero:=[.int .u32 0],d:=.int .u32,ck:=some [.u32] }
@[simp] def vx:bQ:={ agg:=true,size:=3,bytes:=12,zero:=[.int .u32 0,.int .u32 0,.int .u32 0],d:=.struct [(0,34),(1,34),(2,34)],ck:=some [.u32,.u32,.u32] }
@[simp] def yj:bQ:=vx
@[simp] def uh:bQ:={ agg:=false,size:=1,bytes:=8,zero:=[.nilFunc],d:=.func }
@[simp] def yk:bQ:=uh
@[simp] def yl:bQ:={ agg:=false,size:=1,bytes:=8,zero:=[.map none],d:=.map 34 22 }
@[simp] def ym:bQ:={ agg:=false,size:=1,bytes:=8,zero:=[.map none],d:=.map 34 3 }
@[simp] def yn:bQ:=R3
@[simp] def yo:bQ:={ agg:=false,size:=1,bytes:=8,zero:=[.map none],d:=.map 79 23 }
@[simp] def yp:bQ:={ agg:=true,size:=2,bytes:=8,zero:=[.int .u32 0,.int .u32 0],d:=.arr 2 34,ck:=some [.u32,.u32] }
@[simp] def yq:bQ:={ agg:=false,size:=1,bytes:=24,zero:=[.slice none 0 0],d:=.slice 23 }
@[simp] def yr:bQ:={ agg:=false,size:=1,bytes:=8,zero:=[.map none],d:=.map 34 93 }
@[simp] def yt:bQ:={ agg:=false,size:=1,bytes:=8,zero:=[.map none],d:=.map 34 34 }
@[simp] def Ti:bQ:={ agg:=false,size:=1,bytes:=8,zero:=[.int .u64 0],d:=.int .u64,ck:=some [.u64] }
@[simp] def C9:bQ:={ agg:=false,size:=1,bytes:=8,zero:=[.map none],d:=.map 79 3 }
@[simp] def C8:bQ:={ agg:=false,size:=1,bytes:=8,zero:=[.pointer none],d:=.ptr 126 }
@[simp] def Zm:bQ:={ agg:=false,size:=1,bytes:=8,zero:=[.map none],d:=.map 34 124 }
@[simp] def B8:bQ:={ agg:=false,size:=1,bytes:=24,zero:=[.slice none 0 0],d:=.slice 3 }
@[simp] def Xp:bQ:={ agg:=true,size:=6,bytes:=96,zero:=[.slice none 0 0,.map none,.map none,.map none,.slice none 0 0,.slice none 0 0],d:=.struct [(0,23),(1,123),(2,64),(3,64),(4,124),(5,83)] }
@[simp] def Yb:bQ:=Xp
@[simp] def Yh:bQ:={ agg:=false,size:=1,bytes:=8,zero:=[.pointer none],d:=.ptr 136 }
@[simp] def ZA:bQ:={ agg:=false,size:=1,bytes:=24,zero:=[.slice none 0 0],d:=.slice 133 }
@[simp] def Yu:bQ:=Ti
@[simp] def ZI:bQ:={ agg:=false,size:=1,bytes:=24,zero:=[.slice none 0 0],d:=.slice 144 }
@[simp] def YA:bQ:={ agg:=true,size:=7,bytes:=120,zero:=[.slice none 0 0,.slice none 0 0,.slice none 0 0,.map none,.map none,.int .u64 0,.slice none 0 0],d:=.struct [(0,25),(2,132),(3,64),(4,120),(5,133),(6,134)] }
@[simp] def C2:bQ:=YA
@[simp] def Vu:bQ:={ agg:=true,size:=2,bytes:=16,zero:=[.int .u64 0,.int .u64 0],d:=.struct [(0,133),(1,133)],ck:=some [.u64,.u64] }
@[simp] def Zh:bQ:=Vu
@[simp] def Xw:bQ:={ agg:=true,size:=2,bytes:=32,zero:=[.slice none 0 0,.int .u64 0],d:=.struct [(0,22),(1,133)] }
@[simp] def Yy:bQ:=Xw
@[simp] def ZV:bQ:=uh
@[simp] def Zo:bQ:=R3
@[simp] def ZM:bQ:={ agg:=false,size:=1,bytes:=24,zero:=[.slice none 0 0],d:=.slice 138 }
@[simp] def C4:bQ:={ agg:=false,size:=1,bytes:=8,zero:=[.map none],d:=.map 34 4 }
@[simp] def Zk:bQ:=Ti
@[simp] def ZJ:bQ:={ agg:=false,size:=1,bytes:=8,zero:=[.pointer none],d:=.ptr 3 }
@[simp] def ZQ:bQ:={ agg:=true,size:=64,bytes:=64,zero:=(List.replicate 64 (.int .u8 0)),d:=.arr 64 5 }
@[simp] def Zv:bQ:={ agg:=false,size:=1,bytes:=8,zero:=[.pointer none],d:=.ptr 184 }
def K9:List (Nat×bQ):=[(3,R3),(4,R4),(5,R5),(9,R9),(22,yc),(23,yd),(24,vu),(25,ye),(26,yf),(27,vv),(28,yg),(34,yh),(35,vx),(36,yj),(59,uh),(61,yk),(62,yl),(64,ym),(66,yn),(78,yo),(79,yp),(83,yq),(87,yr),(93,yt),(109,Ti),(120,C9),(122,C8),(123,Zm),(124,B8),(125,Xp),(126,Yb),(130,Yh),(132,ZA),(133,Yu),(134,ZI),(135,YA),(136,C2),(137,Vu),(138,Zh),(143,Xw),(144,Yy),(145,ZV),(154,Zo),(171,ZM),(177,C4),(184,Zk),(188,ZJ),(200,ZQ),(203,Zv)]
def tab:bg:=JY K9
@[simp] theorem Z5:tab 3=some R3:=rfl
@[simp] theorem Z6:tab 4=some R4:=rfl
@[simp] theorem Z3:tab 5=some R5:=rfl
@[simp] theorem Z4:tab 9=some R9:=rfl
@[simp] theorem T9:tab 22=some yc:=rfl
@[simp] theorem X0:tab 23=some yd:=rfl
@[simp] theorem W7:tab 24=some vu:=rfl
@[simp] theorem Y1:tab 25=some ye:=rfl
@[simp] theorem S4:tab 26=some yf:=rfl
@[simp] theorem W9:tab 27=some vv:=rfl
@[simp] theorem V4:tab 28=some yg:=rfl
@[simp] theorem S8:tab 34=some yh:=rfl
@[simp] theorem T7:tab 35=some vx:=rfl
@[simp] theorem S3:tab 36=some yj:=rfl
@[simp] theorem T6:tab 59=some uh:=rfl
@[simp] theorem X3:tab 61=some yk:=rfl
@[simp] theorem Y4:tab 62=some yl:=rfl
@[simp] theorem U0:tab 64=some ym:=rfl
@[simp] theorem V7:tab 66=some yn:=rfl
@[simp] theorem T0:tab 78=some yo:=rfl
@[simp] theorem W6:tab 79=some yp:=rfl
@[simp] theorem Y6:tab 83=some yq:=rfl
@[simp] theorem X6:tab 87=some yr:=rfl
@[simp] theorem T8:tab 93=some yt:=rfl
@[simp] theorem O2:tab 109=some Ti:=rfl
@[simp] theorem O8:tab 120=some C9:=rfl
@[simp] theorem P7:tab 122=some C8:=rfl
@[simp] theorem O9:tab 123=some Zm:=rfl
@[simp] theorem P8:tab 124=some B8:=rfl
@[simp] theorem O6:tab 125=some Xp:=rfl
@[simp] theorem P4:tab 126=some Yb:=rfl
@[simp] theorem O7:tab 130=some Yh:=rfl
@[simp] theorem Q3:tab 132=some ZA:=rfl
@[simp] theorem P3:tab 133=some Yu:=rfl
@[simp] theorem O3:tab 134=some ZI:=rfl
@[simp] theorem P6:tab 135=some YA:=rfl
@[simp] theorem Q5:tab 136=some C2:=rfl
@[simp] theorem O5:tab 137=some Vu:=rfl
@[simp] theorem P9:tab 138=some Zh:=rfl
@[simp] theorem Q7:tab 143=some Xw:=rfl
@[simp] theorem R6:tab 144=some Yy:=rfl
@[simp] theorem Q4:tab 145=some ZV:=rfl
@[simp] theorem O0:tab 154=some Zo:=rfl
@[simp] theorem O4:tab 171=some ZM:=rfl
@[simp] theorem Q1:tab 177=some C4:=rfl
@[simp] theorem N8:tab 184=some Zk:=rfl
@[simp] theorem Q9:tab 188=some ZJ:=rfl
@[simp] theorem R7:tab 200=some ZQ:=rfl
@[simp] theorem N9:tab 203=some Zv:=rfl
variable{t:Nat}{P:Program}{r:bQ}
def XL{size bytes:Nat}{z:Value}(h:(P.info? t).map (fun i=>(i.size,i.bytes,i.zero))=some (size,bytes,some z)):∃ i,P.info? t=some i/\i.size=size/\i.bytes=bytes/\i.zero=some z:=by
 cases a:P.info? t with
 |none=>simp[a]at h
 |some i=>simp only[a,Option.map_some,ap,fj]at h;exact⟨i,rfl,h.1,h.2.1,h.2.2⟩
def Vg:Da prog 35 true [.u32,.u32,.u32]:=by
 have u34:=underlying34;have a34:=isAgg34;have z34:=Tryz.sizeOf34;have hp:prog.stoodInHeld 35=false:=by kernel_rfl
 refine⟨fun w as1 bs1 h1 h2=>?_,fun w em as1 h1=>?_,fun _=>by kernel_rfl,(fun h=>by cases h),_,underlying35,.inr fun as1 bs1 h1 h2=>by simp[cg,Instr.sameNow]⟩
 .match as1,bs1,h1,h2 with
  |[x0,x1,x2],[y0,y1,y2],_,_=>
   have hS:prog.underlying 35=some (.struct (prog.fieldsOf 35)):=by kernel_rfl
   simp only[cg,fp,ef];unfold Op.equal Op.maxDepth;rw[show(10000:Nat)=9999+1 from rfl,run_equalIn_agg w 9999 35 _ _ hS hp];simp only[Program.fieldsOf,underlying35]
   go_simp
   by_cases e0:x0=y0<;>by_cases e1:x1=y1<;>by_cases e2:x2=y2<;>simp[e0,e1,e2]
 .match as1,h1 with
  |[x0,x1,x2],_=>
   simp only[cg,fp,ef];unfold Instr.checkKey;simp only[Sem.run_bind,run_underlying underlying35,Result.andThen_ok]
   go_simp
   (try simp[uX u34])
def Xf:Da prog 36 true [.u32,.u32,.u32]:=by
 have u34:=underlying34;have a34:=isAgg34;have z34:=Tryz.sizeOf34;have hp:prog.stoodInHeld 36=false:=by kernel_rfl
 refine⟨fun w as1 bs1 h1 h2=>?_,fun w em as1 h1=>?_,fun _=>by kernel_rfl,(fun h=>by cases h),_,underlying36,.inr fun as1 bs1 h1 h2=>by simp[cg,Instr.sameNow]⟩
 .match as1,bs1,h1,h2 with
  |[x0,x1,x2],[y0,y1,y2],_,_=>
   have hS:prog.underlying 36=some (.struct (prog.fieldsOf 36)):=by kernel_rfl
   simp only[cg,fp,ef];unfold Op.equal Op.maxDepth;rw[show(10000:Nat)=9999+1 from rfl,run_equalIn_agg w 9999 36 _ _ hS hp];simp only[Program.fieldsOf,underlying36]
   go_simp
   by_cases e0:x0=y0<;>by_cases e1:x1=y1<;>by_cases e2:x2=y2<;>simp[e0,e1,e2]
 .match as1,h1 with
  |[x0,x1,x2],_=>
   simp only[cg,fp,ef];unfold Instr.checkKey;simp only[Sem.run_bind,run_underlying underlying36,Result.andThen_ok]
   go_simp
   (try simp[uX u34])
def XJ:Da prog 79 true [.u32,.u32]:=Qv underlying79 underlying34 isAgg34 Tryz.sizeOf34 (by kernel_rfl) (by kernel_rfl)
def SE:Da prog 137 true [.u64,.u64]:=by
 have u133:=underlying133;have a133:=isAgg133;have z133:=Tryz.sizeOf133;have hp:prog.stoodInHeld 137=false:=by kernel_rfl
 refine⟨fun w as1 bs1 h1 h2=>?_,fun w em as1 h1=>?_,fun _=>by kernel_rfl,(fun h=>by cases h),_,underlying137,.inr fun as1 bs1 h1 h2=>by simp[cg,Instr.sameNow]⟩
 .match as1,bs1,h1,h2 with
  |[x0,x1],[y0,y1],_,_=>
   have hS:prog.underlying 137=some (.struct (prog.fieldsOf 137)):=by kernel_rfl
   simp only[cg,fp,ef];unfold Op.equal Op.maxDepth;rw[show(10000:Nat)=9999+1 from rfl,run_equalIn_agg w 9999 137 _ _ hS hp];simp only[Program.fieldsOf,underlying137]
   go_simp
   by_cases e0:x0=y0<;>by_cases e1:x1=y1<;>simp[e0,e1]
 .match as1,h1 with
  |[x0,x1],_=>
   simp only[cg,fp,ef];unfold Instr.checkKey;simp only[Sem.run_bind,run_underlying underlying137,Result.andThen_ok]
   go_simp
   (try simp[uX u133])
def SN:Da prog 138 true [.u64,.u64]:=by
 have u133:=underlying133;have a133:=isAgg133;have z133:=Tryz.sizeOf133;have hp:prog.stoodInHeld 138=false:=by kernel_rfl
 refine⟨fun w as1 bs1 h1 h2=>?_,fun w em as1 h1=>?_,fun _=>by kernel_rfl,(fun h=>by cases h),_,underlying138,.inr fun as1 bs1 h1 h2=>by simp[cg,Instr.sameNow]⟩
 .match as1,bs1,h1,h2 with
  |[x0,x1],[y0,y1],_,_=>
   have hS:prog.underlying 138=some (.struct (prog.fieldsOf 138)):=by kernel_rfl
   simp only[cg,fp,ef];unfold Op.equal Op.maxDepth;rw[show(10000:Nat)=9999+1 from rfl,run_equalIn_agg w 9999 138 _ _ hS hp];simp only[Program.fieldsOf,underlying138]
   go_simp
   by_cases e0:x0=y0<;>by_cases e1:x1=y1<;>simp[e0,e1]
 .match as1,h1 with
  |[x0,x1],_=>
   simp only[cg,fp,ef];unfold Instr.checkKey;simp only[Sem.run_bind,run_underlying underlying138,Result.andThen_ok]
   go_simp
   (try simp[uX u133])
def di(h1:∀ w,(isAgg t).run P w=.ok r.agg w)(h2:fS P t r.d)(h3:∀ ks,r.ck=some ks->Da P t r.agg ks:=by intro ks h;cases h)(h4:(P.info? t).map (fun i=>(i.size,i.bytes,i.zero))=some (r.size,r.bytes,some r.zeroV):=by kernel_rfl)(h5:r.zero.length=r.size:=by rfl)(h6:r.agg=false->r.size=1:=by first|exact fun _=>rfl|exact fun h=>by cases h)(h7:r.zero.all Value.oneCell'=true:=by rfl):bJ P t r:=⟨h1,XL h4,h5,h6,h7,h2,h3⟩
def ox{k:IntKind}(h:P.underlying t=some (.int k))(hr:r.ck=some [k]:=by rfl)(ha:r.agg=false:=by rfl):∀ ks,r.ck=some ks->Da P t r.agg ks:=fun ks e=>by rw[hr]at e;injection e with e;subst e;rw[ha];exact Ra h
def XF:bJ prog 3 R3:=di isAgg3 underlying3 (ox underlying3)
def Ws:bJ prog 4 R4:=di isAgg4 underlying4
def Wr:bJ prog 5 R5:=di isAgg5 underlying5 (ox underlying5)
def XK:bJ prog 9 R9:=di isAgg9 underlying9
def SM:bJ prog 22 yc:=di isAgg22 underlying22
def UW:bJ prog 23 yd:=di isAgg23 underlying23
def Sb:bJ prog 24 vu:=di isAgg24 ⟨_,underlying24,rfl⟩
def TP:bJ prog 25 ye:=di isAgg25 ⟨_,underlying25,rfl⟩
def Ut:bJ prog 26 yf:=di isAgg26 underlying26
def RY:bJ prog 27 vv:=di isAgg27 ⟨_,underlying27,rfl⟩
def Sw:bJ prog 28 yg:=di isAgg28 ⟨_,underlying28,rfl⟩
def Uv:bJ prog 34 yh:=di isAgg34 underlying34 (ox underlying34)
def Ui:bJ prog 35 vx:=di isAgg35 ⟨_,underlying35,rfl⟩ (fun a h=>by injection h with h;subst h;exact Vg)
def Ro:bJ prog 36 yj:=di isAgg36 ⟨_,underlying36,rfl⟩ (fun a h=>by injection h with h;subst h;exact Xf)
def Rj:bJ prog 59 uh:=di isAgg59 ⟨_,_,_,underlying59⟩
def Sa:bJ prog 61 yk:=di isAgg61 ⟨_,_,_,underlying61⟩
def Tl:bJ prog 62 yl:=di isAgg62 underlying62
def Tg:bJ prog 64 ym:=di isAgg64 underlying64
def Ux:bJ prog 66 yn:=di isAgg66 underlying66 (ox underlying66)
def Tm:bJ prog 78 yo:=di isAgg78 underlying78
def Rh:bJ prog 79 yp:=di isAgg79 underlying79 (fun a h=>by injection h with h;subst h;exact XJ)
def Rb:bJ prog 83 yq:=di isAgg83 underlying83
def SC:bJ prog 87 yr:=di isAgg87 underlying87
def TK:bJ prog 93 yt:=di isAgg93 underlying93
def Qq:bJ prog 109 Ti:=di isAgg109 underlying109 (ox underlying109)
def Ow:bJ prog 120 C9:=di isAgg120 underlying120
def PX:bJ prog 122 C8:=di isAgg122 underlying122
def QF:bJ prog 123 Zm:=di isAgg123 underlying123
def Qf:bJ prog 124 B8:=di isAgg124 underlying124
def PU:bJ prog 125 Xp:=di isAgg125 ⟨_,underlying125,rfl⟩
def RO:bJ prog 126 Yb:=di isAgg126 ⟨_,underlying126,rfl⟩
def PD:bJ prog 130 Yh:=di isAgg130 underlying130
def Pk:bJ prog 132 ZA:=di isAgg132 underlying132
def Ot:bJ prog 133 Yu:=di isAgg133 underlying133 (ox underlying133)
def Qr:bJ prog 134 ZI:=di isAgg134 underlying134
def Oy:bJ prog 135 YA:=di isAgg135 ⟨_,underlying135,rfl⟩
def PO:bJ prog 136 C2:=di isAgg136 ⟨_,underlying136,rfl⟩
def QT:bJ prog 137 Vu:=di isAgg137 ⟨_,underlying137,rfl⟩ (fun a h=>by injection h with h;subst h;exact SE)
def QS:bJ prog 138 Zh:=di isAgg138 ⟨_,underlying138,rfl⟩ (fun a h=>by injection h with h;subst h;exact SN)
def RU:bJ prog 143 Xw:=di isAgg143 ⟨_,underlying143,rfl⟩
def Qj:bJ prog 144 Yy:=di isAgg144 ⟨_,underlying144,rfl⟩
def Qm:bJ prog 145 ZV:=di isAgg145 ⟨_,_,_,underlying145⟩
def QX:bJ prog 154 Zo:=di isAgg154 underlying154 (ox underlying154)
def Qd:bJ prog 171 ZM:=di isAgg171 underlying171
def QB:bJ prog 177 C4:=di isAgg177 underlying177
def QV:bJ prog 184 Zk:=di isAgg184 underlying184 (ox underlying184)
def Qs:bJ prog 188 ZJ:=di isAgg188 underlying188
def PW:bJ prog 200 ZQ:=di isAgg200 underlying200
def PS:bJ prog 203 Zv:=di isAgg203 underlying203
def oP:bE prog tab:=JD K9 ⟨XF,Ws,Wr,XK,SM,UW,Sb,TP,Ut,RY,Sw,Uv,Ui,Ro,Rj,Sa,Tl,Tg,Ux,Tm,Rh,Rb,SC,TK,Qq,Ow,PX,QF,Qf,PU,RO,PD,Pk,Ot,Qr,Oy,PO,QT,QS,RU,Qj,Qm,QX,Qd,QB,QV,Qs,PW,PS,trivial⟩
end Aw
end Go.Proofs.YtbgngpdonpeboaaGreatDoor
