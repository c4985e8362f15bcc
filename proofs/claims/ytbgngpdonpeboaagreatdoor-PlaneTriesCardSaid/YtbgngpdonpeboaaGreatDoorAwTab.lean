/- The types of this seat's translation, as a table, and that the loaded program has them so. Written by a program (gentab.py). -/
import Derived.Test.YtbgngpdonpeboaaGreatDoorAwDraw
import Derived.Test.YtbgngpdonpeboaaGreatDoorAwArr
import Derived.Test.YtbgngpdonpeboaaGreatDoorProg
import Derived.KernelRfl
import Derived.Tactics
import Derived.Laws.StructEq
set_option linter.unusedVariables false
set_option linter.unusedSimpArgs false
open Go.Proofs.Tryz
namespace Go.Proofs.YtbgngpdonpeboaaGreatDoor
namespace Aw
open Go Go.RowKit
@[simp] def R3:bK:={ agg:=false,size:=1,bytes:=8,zero:=[.int .i64 0],d:=.int .i64,ck:=some [.i64] }
@[simp] def R4:bK:={ agg:=false,size:=1,bytes:=1,zero:=[.bool false],d:=.bool }
@[simp] def R5:bK:={ agg:=false,size:=1,bytes:=1,zero:=[.int .u8 0],d:=.int .u8,ck:=some [.u8] }
@[simp] def R9:bK:={ agg:=false,size:=1,bytes:=16,zero:=[.string ⟨#[]⟩],d:=.str }
@[simp] def R22:bK:={ agg:=false,size:=1,bytes:=24,zero:=[.slice none 0 0],d:=.slice 34 }
@[simp] def R23:bK:={ agg:=false,size:=1,bytes:=24,zero:=[.slice none 0 0],d:=.slice 36 }
@[simp] def R24:bK:={ agg:=true,size:=2,bytes:=48,zero:=[.slice none 0 0,.slice none 0 0],d:=.struct [(0,22),(1,23)] }
@[simp] def R25:bK:=R24
@[simp] def R26:bK:={ agg:=false,size:=1,bytes:=24,zero:=[.slice none 0 0],d:=.slice 22 }
@[simp] def R27:bK:={ agg:=true,size:=3,bytes:=72,zero:=[.slice none 0 0,.slice none 0 0,.slice none 0 0],d:=.struct [(0,25),(2,26)] }
@[simp] def R28:bK:=R27
@[simp] def R34:bK:={ agg:=false,size:=1,bytes:=4,zero:=[.int .u32 0],d:=.int .u32,ck:=some [.u32] }
@[simp] def R35:bK:={ agg:=true,size:=3,bytes:=12,zero:=[.int .u32 0,.int .u32 0,.int .u32 0],d:=.struct [(0,34),(1,34),(2,34)],ck:=some [.u32,.u32,.u32] }
@[simp] def R36:bK:=R35
@[simp] def R59:bK:={ agg:=false,size:=1,bytes:=8,zero:=[.nilFunc],d:=.func }
@[simp] def R61:bK:=R59
@[simp] def R62:bK:={ agg:=false,size:=1,bytes:=8,zero:=[.map none],d:=.map 34 22 }
@[simp] def R64:bK:={ agg:=false,size:=1,bytes:=8,zero:=[.map none],d:=.map 34 3 }
@[simp] def R66:bK:=R3
@[simp] def R78:bK:={ agg:=false,size:=1,bytes:=8,zero:=[.map none],d:=.map 79 23 }
@[simp] def R79:bK:={ agg:=true,size:=2,bytes:=8,zero:=[.int .u32 0,.int .u32 0],d:=.arr 2 34,ck:=some [.u32,.u32] }
@[simp] def R83:bK:={ agg:=false,size:=1,bytes:=24,zero:=[.slice none 0 0],d:=.slice 23 }
@[simp] def R87:bK:={ agg:=false,size:=1,bytes:=8,zero:=[.map none],d:=.map 34 93 }
@[simp] def R93:bK:={ agg:=false,size:=1,bytes:=8,zero:=[.map none],d:=.map 34 34 }
@[simp] def Sk:bK:={ agg:=false,size:=1,bytes:=8,zero:=[.int .u64 0],d:=.int .u64,ck:=some [.u64] }
@[simp] def XY:bK:={ agg:=false,size:=1,bytes:=8,zero:=[.map none],d:=.map 79 3 }
@[simp] def Xn:bK:={ agg:=false,size:=1,bytes:=8,zero:=[.pointer none],d:=.ptr 126 }
@[simp] def Xy:bK:={ agg:=false,size:=1,bytes:=8,zero:=[.map none],d:=.map 34 124 }
@[simp] def YC:bK:={ agg:=false,size:=1,bytes:=24,zero:=[.slice none 0 0],d:=.slice 3 }
@[simp] def VY:bK:={ agg:=true,size:=6,bytes:=96,zero:=[.slice none 0 0,.map none,.map none,.map none,.slice none 0 0,.slice none 0 0],d:=.struct [(0,23),(1,123),(2,64),(3,64),(4,124),(5,83)] }
@[simp] def Wi:bK:=VY
@[simp] def Xd:bK:={ agg:=false,size:=1,bytes:=8,zero:=[.pointer none],d:=.ptr 136 }
@[simp] def Xq:bK:={ agg:=false,size:=1,bytes:=24,zero:=[.slice none 0 0],d:=.slice 133 }
@[simp] def YY:bK:=Sk
@[simp] def XN:bK:={ agg:=false,size:=1,bytes:=24,zero:=[.slice none 0 0],d:=.slice 144 }
@[simp] def Tw:bK:={ agg:=true,size:=7,bytes:=120,zero:=[.slice none 0 0,.slice none 0 0,.slice none 0 0,.map none,.map none,.int .u64 0,.slice none 0 0],d:=.struct [(0,25),(2,132),(3,64),(4,120),(5,133),(6,134)] }
@[simp] def YW:bK:=Tw
@[simp] def VN:bK:={ agg:=true,size:=2,bytes:=16,zero:=[.int .u64 0,.int .u64 0],d:=.struct [(0,133),(1,133)],ck:=some [.u64,.u64] }
@[simp] def Xk:bK:=VN
@[simp] def Vp:bK:={ agg:=true,size:=2,bytes:=32,zero:=[.slice none 0 0,.int .u64 0],d:=.struct [(0,22),(1,133)] }
@[simp] def XC:bK:=Vp
@[simp] def YU:bK:=R59
@[simp] def YB:bK:=R3
@[simp] def Wj:bK:={ agg:=false,size:=1,bytes:=24,zero:=[.slice none 0 0],d:=.slice 138 }
@[simp] def XT:bK:={ agg:=false,size:=1,bytes:=8,zero:=[.map none],d:=.map 34 4 }
@[simp] def XO:bK:=Sk
@[simp] def YV:bK:={ agg:=false,size:=1,bytes:=8,zero:=[.pointer none],d:=.ptr 3 }
@[simp] def Wu:bK:={ agg:=true,size:=64,bytes:=64,zero:=(List.replicate 64 (.int .u8 0)),d:=.arr 64 5 }
@[simp] def XW:bK:={ agg:=false,size:=1,bytes:=8,zero:=[.pointer none],d:=.ptr 184 }
def ZN:List (Nat×bK):=[(3,R3),(4,R4),(5,R5),(9,R9),(22,R22),(23,R23),(24,R24),(25,R25),(26,R26),(27,R27),(28,R28),(34,R34),(35,R35),(36,R36),(59,R59),(61,R61),(62,R62),(64,R64),(66,R66),(78,R78),(79,R79),(83,R83),(87,R87),(93,R93),(109,Sk),(120,XY),(122,Xn),(123,Xy),(124,YC),(125,VY),(126,Wi),(130,Xd),(132,Xq),(133,YY),(134,XN),(135,Tw),(136,YW),(137,VN),(138,Xk),(143,Vp),(144,XC),(145,YU),(154,YB),(171,Wj),(177,XT),(184,XO),(188,YV),(200,Wu),(203,XW)]
def tab:Tab:=HE ZN
@[simp] theorem K4:tab 3=some R3:=rfl
@[simp] theorem K5:tab 4=some R4:=rfl
@[simp] theorem K3:tab 5=some R5:=rfl
@[simp] theorem K6:tab 9=some R9:=rfl
@[simp] theorem D6:tab 22=some R22:=rfl
@[simp] theorem E6:tab 23=some R23:=rfl
@[simp] theorem E4:tab 24=some R24:=rfl
@[simp] theorem F6:tab 25=some R25:=rfl
@[simp] theorem H7:tab 26=some R26:=rfl
@[simp] theorem G6:tab 27=some R27:=rfl
@[simp] theorem I3:tab 28=some R28:=rfl
@[simp] theorem C9:tab 34=some R34:=rfl
@[simp] theorem H9:tab 35=some R35:=rfl
@[simp] theorem F9:tab 36=some R36:=rfl
@[simp] theorem E9:tab 59=some R59:=rfl
@[simp] theorem F8:tab 61=some R61:=rfl
@[simp] theorem J8:tab 62=some R62:=rfl
@[simp] theorem I6:tab 64=some R64:=rfl
@[simp] theorem F5:tab 66=some R66:=rfl
@[simp] theorem G2:tab 78=some R78:=rfl
@[simp] theorem G7:tab 79=some R79:=rfl
@[simp] theorem D5:tab 83=some R83:=rfl
@[simp] theorem I1:tab 87=some R87:=rfl
@[simp] theorem F0:tab 93=some R93:=rfl
@[simp] theorem A5:tab 109=some Sk:=rfl
@[simp] theorem Zz:tab 120=some XY:=rfl
@[simp] theorem B4:tab 122=some Xn:=rfl
@[simp] theorem Zy:tab 123=some Xy:=rfl
@[simp] theorem C4:tab 124=some YC:=rfl
@[simp] theorem A4:tab 125=some VY:=rfl
@[simp] theorem Zx:tab 126=some Wi:=rfl
@[simp] theorem Zv:tab 130=some Xd:=rfl
@[simp] theorem B6:tab 132=some Xq:=rfl
@[simp] theorem C0:tab 133=some YY:=rfl
@[simp] theorem Zw:tab 134=some XN:=rfl
@[simp] theorem B9:tab 135=some Tw:=rfl
@[simp] theorem C1:tab 136=some YW:=rfl
@[simp] theorem A7:tab 137=some VN:=rfl
@[simp] theorem B3:tab 138=some Xk:=rfl
@[simp] theorem B7:tab 143=some Vp:=rfl
@[simp] theorem C7:tab 144=some XC:=rfl
@[simp] theorem B5:tab 145=some YU:=rfl
@[simp] theorem A8:tab 154=some YB:=rfl
@[simp] theorem C3:tab 171=some Wj:=rfl
@[simp] theorem A6:tab 177=some XT:=rfl
@[simp] theorem C6:tab 184=some XO:=rfl
@[simp] theorem A3:tab 188=some YV:=rfl
@[simp] theorem C8:tab 200=some Wu:=rfl
@[simp] theorem B8:tab 203=some XW:=rfl
theorem Ug{P:Program}{t size bytes:Nat}{z:Value}(h:(P.info? t).map (fun i=>(i.size,i.bytes,i.zero))=some (size,bytes,some z)):∃ i,P.info? t=some i/\i.size=size/\i.bytes=bytes/\i.zero=some z:=by
 cases hi:P.info? t with
 |none=>simp[hi]at h
 |some i=>simp only[hi,Option.map_some,aAb,aBd]at h;exact⟨i,rfl,h.1,h.2.1,h.2.2⟩
theorem VI:BU prog 35 true [.u32,.u32,.u32]:=by
 have u34:=underlying34;have a34:=isAgg34;have z34:=Tryz.sizeOf34;have hp:prog.stoodInHeld 35=false:=by kernel_rfl
 refine⟨fun w as1 bs1 h1 h2=>?_,fun w em as1 h1=>?_,fun _=>by kernel_rfl,(fun h=>by cases h),_,underlying35,.inr fun as1 bs1 h1 h2=>by simp[mkV,Instr.sameNow]⟩
 .match as1,bs1,h1,h2 with
  |[x0,x1,x2],[y0,y1,y2],_,_=>
   have hS:prog.underlying 35=some (.struct (prog.fieldsOf 35)):=by kernel_rfl
   simp only[mkV,mkC,aBs];unfold Op.equal Op.maxDepth;rw[show(10000:Nat)=9999+1 from rfl,run_equalIn_agg w 9999 35 _ _ hS hp];simp only[Program.fieldsOf,underlying35]
   go_simp
   by_cases e0:x0=y0<;>by_cases e1:x1=y1<;>by_cases e2:x2=y2<;>simp[e0,e1,e2]
 .match as1,h1 with
  |[x0,x1,x2],_=>
   simp only[mkV,mkC,aBs];unfold Instr.checkKey;simp only[Sem.run_bind,run_underlying underlying35,Result.andThen_ok]
   go_simp
   (try simp[sO u34])
theorem Ui:BU prog 36 true [.u32,.u32,.u32]:=by
 have u34:=underlying34;have a34:=isAgg34;have z34:=Tryz.sizeOf34;have hp:prog.stoodInHeld 36=false:=by kernel_rfl
 refine⟨fun w as1 bs1 h1 h2=>?_,fun w em as1 h1=>?_,fun _=>by kernel_rfl,(fun h=>by cases h),_,underlying36,.inr fun as1 bs1 h1 h2=>by simp[mkV,Instr.sameNow]⟩
 .match as1,bs1,h1,h2 with
  |[x0,x1,x2],[y0,y1,y2],_,_=>
   have hS:prog.underlying 36=some (.struct (prog.fieldsOf 36)):=by kernel_rfl
   simp only[mkV,mkC,aBs];unfold Op.equal Op.maxDepth;rw[show(10000:Nat)=9999+1 from rfl,run_equalIn_agg w 9999 36 _ _ hS hp];simp only[Program.fieldsOf,underlying36]
   go_simp
   by_cases e0:x0=y0<;>by_cases e1:x1=y1<;>by_cases e2:x2=y2<;>simp[e0,e1,e2]
 .match as1,h1 with
  |[x0,x1,x2],_=>
   simp only[mkV,mkC,aBs];unfold Instr.checkKey;simp only[Sem.run_bind,run_underlying underlying36,Result.andThen_ok]
   go_simp
   (try simp[sO u34])
theorem Uk:BU prog 79 true [.u32,.u32]:=PU underlying79 underlying34 isAgg34 Tryz.sizeOf34 (by kernel_rfl) (by kernel_rfl)
theorem Qr:BU prog 137 true [.u64,.u64]:=by
 have u133:=underlying133;have a133:=isAgg133;have z133:=Tryz.sizeOf133;have hp:prog.stoodInHeld 137=false:=by kernel_rfl
 refine⟨fun w as1 bs1 h1 h2=>?_,fun w em as1 h1=>?_,fun _=>by kernel_rfl,(fun h=>by cases h),_,underlying137,.inr fun as1 bs1 h1 h2=>by simp[mkV,Instr.sameNow]⟩
 .match as1,bs1,h1,h2 with
  |[x0,x1],[y0,y1],_,_=>
   have hS:prog.underlying 137=some (.struct (prog.fieldsOf 137)):=by kernel_rfl
   simp only[mkV,mkC,aBs];unfold Op.equal Op.maxDepth;rw[show(10000:Nat)=9999+1 from rfl,run_equalIn_agg w 9999 137 _ _ hS hp];simp only[Program.fieldsOf,underlying137]
   go_simp
   by_cases e0:x0=y0<;>by_cases e1:x1=y1<;>simp[e0,e1]
 .match as1,h1 with
  |[x0,x1],_=>
   simp only[mkV,mkC,aBs];unfold Instr.checkKey;simp only[Sem.run_bind,run_underlying underlying137,Result.andThen_ok]
   go_simp
   (try simp[sO u133])
theorem Rw:BU prog 138 true [.u64,.u64]:=by
 have u133:=underlying133;have a133:=isAgg133;have z133:=Tryz.sizeOf133;have hp:prog.stoodInHeld 138=false:=by kernel_rfl
 refine⟨fun w as1 bs1 h1 h2=>?_,fun w em as1 h1=>?_,fun _=>by kernel_rfl,(fun h=>by cases h),_,underlying138,.inr fun as1 bs1 h1 h2=>by simp[mkV,Instr.sameNow]⟩
 .match as1,bs1,h1,h2 with
  |[x0,x1],[y0,y1],_,_=>
   have hS:prog.underlying 138=some (.struct (prog.fieldsOf 138)):=by kernel_rfl
   simp only[mkV,mkC,aBs];unfold Op.equal Op.maxDepth;rw[show(10000:Nat)=9999+1 from rfl,run_equalIn_agg w 9999 138 _ _ hS hp];simp only[Program.fieldsOf,underlying138]
   go_simp
   by_cases e0:x0=y0<;>by_cases e1:x1=y1<;>simp[e0,e1]
 .match as1,h1 with
  |[x0,x1],_=>
   simp only[mkV,mkC,aBs];unfold Instr.checkKey;simp only[Sem.run_bind,run_underlying underlying138,Result.andThen_ok]
   go_simp
   (try simp[sO u133])
theorem rOk{P:Program}{t:Nat}{r:bK}(h1:∀ w,(isAgg t).run P w=.ok r.agg w)(h2:eH P t r.d)(h3:∀ ks,r.ck=some ks->BU P t r.agg ks:=by intro ks h;cases h)(h4:(P.info? t).map (fun i=>(i.size,i.bytes,i.zero))=some (r.size,r.bytes,some r.zeroV):=by kernel_rfl)(h5:r.zero.length=r.size:=by rfl)(h6:r.agg=false->r.size=1:=by first|exact fun _=>rfl|exact fun h=>by cases h)(h7:r.zero.all Value.oneCell'=true:=by rfl):bE P t r:=⟨h1,Ug h4,h5,h6,h7,h2,h3⟩
theorem eOk{P:Program}{t:Nat}{r:bK}{k:IntKind}(h:P.underlying t=some (.int k))(hr:r.ck=some [k]:=by rfl)(ha:r.agg=false:=by rfl):∀ ks,r.ck=some ks->BU P t r.agg ks:=fun ks e=>by rw[hr]at e;injection e with e;subst e;rw[ha];exact Rq h
theorem Vr:bE prog 3 R3:=rOk isAgg3 underlying3 (eOk underlying3)
theorem Vg:bE prog 4 R4:=rOk isAgg4 underlying4
theorem UI:bE prog 5 R5:=rOk isAgg5 underlying5 (eOk underlying5)
theorem Vq:bE prog 9 R9:=rOk isAgg9 underlying9
theorem Rf:bE prog 22 R22:=rOk isAgg22 underlying22
theorem QD:bE prog 23 R23:=rOk isAgg23 underlying23
theorem Rj:bE prog 24 R24:=rOk isAgg24 ⟨_,underlying24,rfl⟩
theorem RO:bE prog 25 R25:=rOk isAgg25 ⟨_,underlying25,rfl⟩
theorem Qo:bE prog 26 R26:=rOk isAgg26 underlying26
theorem SO:bE prog 27 R27:=rOk isAgg27 ⟨_,underlying27,rfl⟩
theorem Pf:bE prog 28 R28:=rOk isAgg28 ⟨_,underlying28,rfl⟩
theorem Sb:bE prog 34 R34:=rOk isAgg34 underlying34 (eOk underlying34)
theorem QL:bE prog 35 R35:=rOk isAgg35 ⟨_,underlying35,rfl⟩ (fun ks h=>by injection h with h;subst h;exact VI)
theorem Qt:bE prog 36 R36:=rOk isAgg36 ⟨_,underlying36,rfl⟩ (fun ks h=>by injection h with h;subst h;exact Ui)
theorem Su:bE prog 59 R59:=rOk isAgg59 ⟨_,_,_,underlying59⟩
theorem RL:bE prog 61 R61:=rOk isAgg61 ⟨_,_,_,underlying61⟩
theorem SM:bE prog 62 R62:=rOk isAgg62 underlying62
theorem Px:bE prog 64 R64:=rOk isAgg64 underlying64
theorem Pp:bE prog 66 R66:=rOk isAgg66 underlying66 (eOk underlying66)
theorem RY:bE prog 78 R78:=rOk isAgg78 underlying78
theorem SG:bE prog 79 R79:=rOk isAgg79 underlying79 (fun ks h=>by injection h with h;subst h;exact Uk)
theorem SF:bE prog 83 R83:=rOk isAgg83 underlying83
theorem Rk:bE prog 87 R87:=rOk isAgg87 underlying87
theorem RC:bE prog 93 R93:=rOk isAgg93 underlying93
theorem OT:bE prog 109 Sk:=rOk isAgg109 underlying109 (eOk underlying109)
theorem NO:bE prog 120 XY:=rOk isAgg120 underlying120
theorem NL:bE prog 122 Xn:=rOk isAgg122 underlying122
theorem Oj:bE prog 123 Xy:=rOk isAgg123 underlying123
theorem NA:bE prog 124 YC:=rOk isAgg124 underlying124
theorem Ny:bE prog 125 VY:=rOk isAgg125 ⟨_,underlying125,rfl⟩
theorem NM:bE prog 126 Wi:=rOk isAgg126 ⟨_,underlying126,rfl⟩
theorem NQ:bE prog 130 Xd:=rOk isAgg130 underlying130
theorem OM:bE prog 132 Xq:=rOk isAgg132 underlying132
theorem NF:bE prog 133 YY:=rOk isAgg133 underlying133 (eOk underlying133)
theorem OL:bE prog 134 XN:=rOk isAgg134 underlying134
theorem Nn:bE prog 135 Tw:=rOk isAgg135 ⟨_,underlying135,rfl⟩
theorem Od:bE prog 136 YW:=rOk isAgg136 ⟨_,underlying136,rfl⟩
theorem NJ:bE prog 137 VN:=rOk isAgg137 ⟨_,underlying137,rfl⟩ (fun ks h=>by injection h with h;subst h;exact Qr)
theorem Oh:bE prog 138 Xk:=rOk isAgg138 ⟨_,underlying138,rfl⟩ (fun ks h=>by injection h with h;subst h;exact Rw)
theorem Oa:bE prog 143 Vp:=rOk isAgg143 ⟨_,underlying143,rfl⟩
theorem Nd:bE prog 144 XC:=rOk isAgg144 ⟨_,underlying144,rfl⟩
theorem OH:bE prog 145 YU:=rOk isAgg145 ⟨_,_,_,underlying145⟩
theorem NV:bE prog 154 YB:=rOk isAgg154 underlying154 (eOk underlying154)
theorem Ol:bE prog 171 Wj:=rOk isAgg171 underlying171
theorem PV:bE prog 177 XT:=rOk isAgg177 underlying177
theorem OJ:bE prog 184 XO:=rOk isAgg184 underlying184 (eOk underlying184)
theorem PD:bE prog 188 YV:=rOk isAgg188 underlying188
theorem PS:bE prog 200 Wu:=rOk isAgg200 underlying200
theorem OW:bE prog 203 XW:=rOk isAgg203 underlying203
theorem nK:aZ prog tab:=Gf ZN ⟨Vr,Vg,UI,Vq,Rf,QD,Rj,RO,Qo,SO,Pf,Sb,QL,Qt,Su,RL,SM,Px,Pp,RY,SG,SF,Rk,RC,OT,NO,NL,Oj,NA,Ny,NM,NQ,OM,NF,OL,Nn,Od,NJ,Oh,Oa,Nd,OH,NV,Ol,PV,OJ,PD,PS,OW,trivial⟩
end Aw
end Go.Proofs.YtbgngpdonpeboaaGreatDoor
