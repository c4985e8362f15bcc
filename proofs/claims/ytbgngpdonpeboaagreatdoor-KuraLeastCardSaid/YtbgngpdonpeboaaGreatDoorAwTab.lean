/- The types of this seat's translation, as a table, and that the loaded program has them so. Written by a program (gentab.py). -/
import Derived.Test.YtbgngpdonpeboaaGreatDoorAwDraw
import Derived.Test.YtbgngpdonpeboaaGreatDoorAwArr
import Derived.Test.YtbgngpdonpeboaaGreatDoorProg
import Derived.KernelRfl
import Derived.Tactics
import Derived.Laws.StructEq
set_option linter.unusedVariables false
set_option linter.unusedSimpArgs false
open Go.Proofs.Tryz
namespace Go.Proofs.YtbgngpdonpeboaaGreatDoor
namespace Aw
open Go Go.RowKit
@[simp] def R3:bH:={ agg:=false,size:=1,bytes:=8,zero:=[.int .i64 0],d:=.int .i64,ck:=some [.i64] }
@[simp] def R4:bH:={ agg:=false,size:=1,bytes:=1,zero:=[.bool false],d:=.bool }
@[simp] def R5:bH:={ agg:=false,size:=1,bytes:=1,zero:=[.int .u8 0],d:=.int .u8,ck:=some [.u8] }
@[simp] def R9:bH:={ agg:=false,size:=1,bytes:=16,zero:=[.string ⟨#[]⟩],d:=.str }
@[simp] def R22:bH:={ agg:=false,size:=1,bytes:=24,zero:=[.slice none 0 0],d:=.slice 34 }
@[simp] def R23:bH:={ agg:=false,size:=1,bytes:=24,zero:=[.slice none 0 0],d:=.slice 36 }
@[simp] def R24:bH:={ agg:=true,size:=2,bytes:=48,zero:=[.slice none 0 0,.slice none 0 0],d:=.struct [(0,22),(1,23)] }
@[simp] def R25:bH:=R24
@[simp] def R26:bH:={ agg:=false,size:=1,bytes:=24,zero:=[.slice none 0 0],d:=.slice 22 }
@[simp] def R27:bH:={ agg:=true,size:=3,bytes:=72,zero:=[.slice none 0 0,.slice none 0 0,.slice none 0 0],d:=.struct [(0,25),(2,26)] }
@[simp] def R28:bH:=R27
@[simp] def R34:bH:={ agg:=false,size:=1,bytes:=4,zero:=[.int .u32 0],d:=.int .u32,ck:=some [.u32] }
@[simp] def R35:bH:={ agg:=true,size:=3,bytes:=12,zero:=[.int .u32 0,.int .u32 0,.int .u32 0],d:=.struct [(0,34),(1,34),(2,34)],ck:=some [.u32,.u32,.u32] }
@[simp] def R36:bH:=R35
@[simp] def R59:bH:={ agg:=false,size:=1,bytes:=8,zero:=[.nilFunc],d:=.func }
@[simp] def R61:bH:=R59
@[simp] def R62:bH:={ agg:=false,size:=1,bytes:=8,zero:=[.map none],d:=.map 34 22 }
@[simp] def R64:bH:={ agg:=false,size:=1,bytes:=8,zero:=[.map none],d:=.map 34 3 }
@[simp] def R66:bH:=R3
@[simp] def R78:bH:={ agg:=false,size:=1,bytes:=8,zero:=[.map none],d:=.map 79 23 }
@[simp] def R79:bH:={ agg:=true,size:=2,bytes:=8,zero:=[.int .u32 0,.int .u32 0],d:=.arr 2 34,ck:=some [.u32,.u32] }
@[simp] def R83:bH:={ agg:=false,size:=1,bytes:=24,zero:=[.slice none 0 0],d:=.slice 23 }
@[simp] def R87:bH:={ agg:=false,size:=1,bytes:=8,zero:=[.map none],d:=.map 34 93 }
@[simp] def R93:bH:={ agg:=false,size:=1,bytes:=8,zero:=[.map none],d:=.map 34 34 }
@[simp] def QW:bH:={ agg:=false,size:=1,bytes:=8,zero:=[.int .u64 0],d:=.int .u64,ck:=some [.u64] }
@[simp] def Xf:bH:={ agg:=false,size:=1,bytes:=8,zero:=[.map none],d:=.map 79 3 }
@[simp] def XZ:bH:={ agg:=false,size:=1,bytes:=8,zero:=[.pointer none],d:=.ptr 126 }
@[simp] def Wb:bH:={ agg:=false,size:=1,bytes:=8,zero:=[.map none],d:=.map 34 124 }
@[simp] def WT:bH:={ agg:=false,size:=1,bytes:=24,zero:=[.slice none 0 0],d:=.slice 3 }
@[simp] def Td:bH:={ agg:=true,size:=6,bytes:=96,zero:=[.slice none 0 0,.map none,.map none,.map none,.slice none 0 0,.slice none 0 0],d:=.struct [(0,23),(1,123),(2,64),(3,64),(4,124),(5,83)] }
@[simp] def XB:bH:=Td
@[simp] def Wf:bH:={ agg:=false,size:=1,bytes:=8,zero:=[.pointer none],d:=.ptr 136 }
@[simp] def WJ:bH:={ agg:=false,size:=1,bytes:=24,zero:=[.slice none 0 0],d:=.slice 133 }
@[simp] def XT:bH:=QW
@[simp] def XF:bH:={ agg:=false,size:=1,bytes:=24,zero:=[.slice none 0 0],d:=.slice 144 }
@[simp] def Va:bH:={ agg:=true,size:=7,bytes:=120,zero:=[.slice none 0 0,.slice none 0 0,.slice none 0 0,.map none,.map none,.int .u64 0,.slice none 0 0],d:=.struct [(0,25),(2,132),(3,64),(4,120),(5,133),(6,134)] }
@[simp] def Wt:bH:=Va
@[simp] def TQ:bH:={ agg:=true,size:=2,bytes:=16,zero:=[.int .u64 0,.int .u64 0],d:=.struct [(0,133),(1,133)],ck:=some [.u64,.u64] }
@[simp] def WA:bH:=TQ
@[simp] def UH:bH:={ agg:=true,size:=2,bytes:=32,zero:=[.slice none 0 0,.int .u64 0],d:=.struct [(0,22),(1,133)] }
@[simp] def Ww:bH:=UH
@[simp] def WM:bH:=R59
@[simp] def Wv:bH:=R3
@[simp] def Xs:bH:={ agg:=false,size:=1,bytes:=24,zero:=[.slice none 0 0],d:=.slice 138 }
@[simp] def WW:bH:={ agg:=false,size:=1,bytes:=8,zero:=[.map none],d:=.map 34 4 }
@[simp] def XA:bH:=QW
@[simp] def Xr:bH:={ agg:=false,size:=1,bytes:=8,zero:=[.pointer none],d:=.ptr 3 }
@[simp] def XH:bH:={ agg:=true,size:=64,bytes:=64,zero:=(List.replicate 64 (.int .u8 0)),d:=.arr 64 5 }
@[simp] def WH:bH:={ agg:=false,size:=1,bytes:=8,zero:=[.pointer none],d:=.ptr 184 }
def YF:List (Nat×bH):=[(3,R3),(4,R4),(5,R5),(9,R9),(22,R22),(23,R23),(24,R24),(25,R25),(26,R26),(27,R27),(28,R28),(34,R34),(35,R35),(36,R36),(59,R59),(61,R61),(62,R62),(64,R64),(66,R66),(78,R78),(79,R79),(83,R83),(87,R87),(93,R93),(109,QW),(120,Xf),(122,XZ),(123,Wb),(124,WT),(125,Td),(126,XB),(130,Wf),(132,WJ),(133,XT),(134,XF),(135,Va),(136,Wt),(137,TQ),(138,WA),(143,UH),(144,Ww),(145,WM),(154,Wv),(171,Xs),(177,WW),(184,XA),(188,Xr),(200,XH),(203,WH)]
def tab:Tab:=Gw YF
@[simp] theorem G1:tab 3=some R3:=rfl
@[simp] theorem G3:tab 4=some R4:=rfl
@[simp] theorem G2:tab 5=some R5:=rfl
@[simp] theorem G4:tab 9=some R9:=rfl
@[simp] theorem B7:tab 22=some R22:=rfl
@[simp] theorem D9:tab 23=some R23:=rfl
@[simp] theorem F9:tab 24=some R24:=rfl
@[simp] theorem C8:tab 25=some R25:=rfl
@[simp] theorem D5:tab 26=some R26:=rfl
@[simp] theorem C3:tab 27=some R27:=rfl
@[simp] theorem A7:tab 28=some R28:=rfl
@[simp] theorem E8:tab 34=some R34:=rfl
@[simp] theorem Zm:tab 35=some R35:=rfl
@[simp] theorem D8:tab 36=some R36:=rfl
@[simp] theorem D6:tab 59=some R59:=rfl
@[simp] theorem A4:tab 61=some R61:=rfl
@[simp] theorem F4:tab 62=some R62:=rfl
@[simp] theorem Zx:tab 64=some R64:=rfl
@[simp] theorem E6:tab 66=some R66:=rfl
@[simp] theorem Zz:tab 78=some R78:=rfl
@[simp] theorem B3:tab 79=some R79:=rfl
@[simp] theorem A3:tab 83=some R83:=rfl
@[simp] theorem Zu:tab 87=some R87:=rfl
@[simp] theorem E7:tab 93=some R93:=rfl
@[simp] theorem Zh:tab 109=some QW:=rfl
@[simp] theorem ZY:tab 120=some Xf:=rfl
@[simp] theorem Zl:tab 122=some XZ:=rfl
@[simp] theorem Zd:tab 123=some Wb:=rfl
@[simp] theorem ZQ:tab 124=some WT:=rfl
@[simp] theorem ZM:tab 125=some Td:=rfl
@[simp] theorem Zf:tab 126=some XB:=rfl
@[simp] theorem Zj:tab 130=some Wf:=rfl
@[simp] theorem ZK:tab 132=some WJ:=rfl
@[simp] theorem ZW:tab 133=some XT:=rfl
@[simp] theorem Zi:tab 134=some XF:=rfl
@[simp] theorem Zk:tab 135=some Va:=rfl
@[simp] theorem Ze:tab 136=some Wt:=rfl
@[simp] theorem ZL:tab 137=some TQ:=rfl
@[simp] theorem ZP:tab 138=some WA:=rfl
@[simp] theorem ZT:tab 143=some UH:=rfl
@[simp] theorem ZX:tab 144=some Ww:=rfl
@[simp] theorem ZO:tab 145=some WM:=rfl
@[simp] theorem Zb:tab 154=some Wv:=rfl
@[simp] theorem Zg:tab 171=some Xs:=rfl
@[simp] theorem Za:tab 177=some WW:=rfl
@[simp] theorem ZV:tab 184=some XA:=rfl
@[simp] theorem ZZ:tab 188=some Xr:=rfl
@[simp] theorem Zc:tab 200=some XH:=rfl
@[simp] theorem ZJ:tab 203=some WH:=rfl
theorem VC{P:Program}{t size bytes:Nat}{z:Value}(h:(P.info? t).map (fun i=>(i.size,i.bytes,i.zero))=some (size,bytes,some z)):∃ i,P.info? t=some i/\i.size=size/\i.bytes=bytes/\i.zero=some z:=by
 cases hi:P.info? t with
 |none=>simp[hi]at h
 |some i=>simp only[hi,Option.map_some,aAb,aBd]at h;exact⟨i,rfl,h.1,h.2.1,h.2.2⟩
theorem TE:BM prog 35 true [.u32,.u32,.u32]:=by
 have u34:=underlying34;have a34:=isAgg34;have z34:=Tryz.sizeOf34;have hp:prog.stoodInHeld 35=false:=by kernel_rfl
 refine⟨fun w W9 bs1 h1 h2=>?_,fun w em W9 h1=>?_,fun _=>by kernel_rfl,(fun h=>by cases h),_,underlying35,.inr fun W9 bs1 h1 h2=>by simp[mkV,Instr.sameNow]⟩
 .match W9,bs1,h1,h2 with
  |[x0,x1,x2],[y0,y1,y2],_,_=>
   have hS:prog.underlying 35=some (.struct (prog.fieldsOf 35)):=by kernel_rfl
   simp only[mkV,mkC,aBq];unfold Op.equal Op.maxDepth;rw[show(10000:Nat)=9999+1 from rfl,run_equalIn_agg w 9999 35 _ _ hS hp];simp only[Program.fieldsOf,underlying35]
   go_simp
   by_cases e0:x0=y0<;>by_cases e1:x1=y1<;>by_cases e2:x2=y2<;>simp[e0,e1,e2]
 .match W9,h1 with
  |[x0,x1,x2],_=>
   simp only[mkV,mkC,aBq];unfold Instr.checkKey;simp only[Sem.run_bind,run_underlying underlying35,Result.andThen_ok]
   go_simp
   (try simp[sD u34])
theorem UL:BM prog 36 true [.u32,.u32,.u32]:=by
 have u34:=underlying34;have a34:=isAgg34;have z34:=Tryz.sizeOf34;have hp:prog.stoodInHeld 36=false:=by kernel_rfl
 refine⟨fun w W9 bs1 h1 h2=>?_,fun w em W9 h1=>?_,fun _=>by kernel_rfl,(fun h=>by cases h),_,underlying36,.inr fun W9 bs1 h1 h2=>by simp[mkV,Instr.sameNow]⟩
 .match W9,bs1,h1,h2 with
  |[x0,x1,x2],[y0,y1,y2],_,_=>
   have hS:prog.underlying 36=some (.struct (prog.fieldsOf 36)):=by kernel_rfl
   simp only[mkV,mkC,aBq];unfold Op.equal Op.maxDepth;rw[show(10000:Nat)=9999+1 from rfl,run_equalIn_agg w 9999 36 _ _ hS hp];simp only[Program.fieldsOf,underlying36]
   go_simp
   by_cases e0:x0=y0<;>by_cases e1:x1=y1<;>by_cases e2:x2=y2<;>simp[e0,e1,e2]
 .match W9,h1 with
  |[x0,x1,x2],_=>
   simp only[mkV,mkC,aBq];unfold Instr.checkKey;simp only[Sem.run_bind,run_underlying underlying36,Result.andThen_ok]
   go_simp
   (try simp[sD u34])
theorem Th:BM prog 79 true [.u32,.u32]:=ON underlying79 underlying34 isAgg34 Tryz.sizeOf34 (by kernel_rfl) (by kernel_rfl)
theorem Ry:BM prog 137 true [.u64,.u64]:=by
 have u133:=underlying133;have a133:=isAgg133;have z133:=Tryz.sizeOf133;have hp:prog.stoodInHeld 137=false:=by kernel_rfl
 refine⟨fun w W9 bs1 h1 h2=>?_,fun w em W9 h1=>?_,fun _=>by kernel_rfl,(fun h=>by cases h),_,underlying137,.inr fun W9 bs1 h1 h2=>by simp[mkV,Instr.sameNow]⟩
 .match W9,bs1,h1,h2 with
  |[x0,x1],[y0,y1],_,_=>
   have hS:prog.underlying 137=some (.struct (prog.fieldsOf 137)):=by kernel_rfl
   simp only[mkV,mkC,aBq];unfold Op.equal Op.maxDepth;rw[show(10000:Nat)=9999+1 from rfl,run_equalIn_agg w 9999 137 _ _ hS hp];simp only[Program.fieldsOf,underlying137]
   go_simp
   by_cases e0:x0=y0<;>by_cases e1:x1=y1<;>simp[e0,e1]
 .match W9,h1 with
  |[x0,x1],_=>
   simp only[mkV,mkC,aBq];unfold Instr.checkKey;simp only[Sem.run_bind,run_underlying underlying137,Result.andThen_ok]
   go_simp
   (try simp[sD u133])
theorem RN:BM prog 138 true [.u64,.u64]:=by
 have u133:=underlying133;have a133:=isAgg133;have z133:=Tryz.sizeOf133;have hp:prog.stoodInHeld 138=false:=by kernel_rfl
 refine⟨fun w W9 bs1 h1 h2=>?_,fun w em W9 h1=>?_,fun _=>by kernel_rfl,(fun h=>by cases h),_,underlying138,.inr fun W9 bs1 h1 h2=>by simp[mkV,Instr.sameNow]⟩
 .match W9,bs1,h1,h2 with
  |[x0,x1],[y0,y1],_,_=>
   have hS:prog.underlying 138=some (.struct (prog.fieldsOf 138)):=by kernel_rfl
   simp only[mkV,mkC,aBq];unfold Op.equal Op.maxDepth;rw[show(10000:Nat)=9999+1 from rfl,run_equalIn_agg w 9999 138 _ _ hS hp];simp only[Program.fieldsOf,underlying138]
   go_simp
   by_cases e0:x0=y0<;>by_cases e1:x1=y1<;>simp[e0,e1]
 .match W9,h1 with
  |[x0,x1],_=>
   simp only[mkV,mkC,aBq];unfold Instr.checkKey;simp only[Sem.run_bind,run_underlying underlying138,Result.andThen_ok]
   go_simp
   (try simp[sD u133])
theorem rOk{P:Program}{t:Nat}{r:bH}(h1:∀ w,(isAgg t).run P w=.ok r.agg w)(h2:eN P t r.d)(h3:∀ ks,r.ck=some ks->BM P t r.agg ks:=by intro ks h;cases h)(h4:(P.info? t).map (fun i=>(i.size,i.bytes,i.zero))=some (r.size,r.bytes,some r.zeroV):=by kernel_rfl)(h5:r.zero.length=r.size:=by rfl)(h6:r.agg=false->r.size=1:=by first|exact fun _=>rfl|exact fun h=>by cases h)(h7:r.zero.all Value.oneCell'=true:=by rfl):bC P t r:=⟨h1,VC h4,h5,h6,h7,h2,h3⟩
theorem eOk{P:Program}{t:Nat}{r:bH}{k:IntKind}(h:P.underlying t=some (.int k))(hr:r.ck=some [k]:=by rfl)(ha:r.agg=false:=by rfl):∀ ks,r.ck=some ks->BM P t r.agg ks:=fun ks e=>by rw[hr]at e;injection e with e;subst e;rw[ha];exact Sa h
theorem Tr:bC prog 3 R3:=rOk isAgg3 underlying3 (eOk underlying3)
theorem UT:bC prog 4 R4:=rOk isAgg4 underlying4
theorem VH:bC prog 5 R5:=rOk isAgg5 underlying5 (eOk underlying5)
theorem TW:bC prog 9 R9:=rOk isAgg9 underlying9
theorem Qy:bC prog 22 R22:=rOk isAgg22 underlying22
theorem Ru:bC prog 23 R23:=rOk isAgg23 underlying23
theorem RL:bC prog 24 R24:=rOk isAgg24 ⟨_,underlying24,rfl⟩
theorem QM:bC prog 25 R25:=rOk isAgg25 ⟨_,underlying25,rfl⟩
theorem Sj:bC prog 26 R26:=rOk isAgg26 underlying26
theorem PD:bC prog 27 R27:=rOk isAgg27 ⟨_,underlying27,rfl⟩
theorem Pf:bC prog 28 R28:=rOk isAgg28 ⟨_,underlying28,rfl⟩
theorem Ox:bC prog 34 R34:=rOk isAgg34 underlying34 (eOk underlying34)
theorem RS:bC prog 35 R35:=rOk isAgg35 ⟨_,underlying35,rfl⟩ (fun ks h=>by injection h with h;subst h;exact TE)
theorem QU:bC prog 36 R36:=rOk isAgg36 ⟨_,underlying36,rfl⟩ (fun ks h=>by injection h with h;subst h;exact UL)
theorem SN:bC prog 59 R59:=rOk isAgg59 ⟨_,_,_,underlying59⟩
theorem SC:bC prog 61 R61:=rOk isAgg61 ⟨_,_,_,underlying61⟩
theorem Qi:bC prog 62 R62:=rOk isAgg62 underlying62
theorem SS:bC prog 64 R64:=rOk isAgg64 underlying64
theorem QO:bC prog 66 R66:=rOk isAgg66 underlying66 (eOk underlying66)
theorem PO:bC prog 78 R78:=rOk isAgg78 underlying78
theorem Qp:bC prog 79 R79:=rOk isAgg79 underlying79 (fun ks h=>by injection h with h;subst h;exact Th)
theorem RU:bC prog 83 R83:=rOk isAgg83 underlying83
theorem QD:bC prog 87 R87:=rOk isAgg87 underlying87
theorem Qs:bC prog 93 R93:=rOk isAgg93 underlying93
theorem Md:bC prog 109 QW:=rOk isAgg109 underlying109 (eOk underlying109)
theorem Ng:bC prog 120 Xf:=rOk isAgg120 underlying120
theorem Nr:bC prog 122 XZ:=rOk isAgg122 underlying122
theorem Ob:bC prog 123 Wb:=rOk isAgg123 underlying123
theorem MT:bC prog 124 WT:=rOk isAgg124 underlying124
theorem NF:bC prog 125 Td:=rOk isAgg125 ⟨_,underlying125,rfl⟩
theorem Nq:bC prog 126 XB:=rOk isAgg126 ⟨_,underlying126,rfl⟩
theorem Mx:bC prog 130 Wf:=rOk isAgg130 underlying130
theorem Nk:bC prog 132 WJ:=rOk isAgg132 underlying132
theorem On:bC prog 133 XT:=rOk isAgg133 underlying133 (eOk underlying133)
theorem Oc:bC prog 134 XF:=rOk isAgg134 underlying134
theorem OQ:bC prog 135 Va:=rOk isAgg135 ⟨_,underlying135,rfl⟩
theorem Mt:bC prog 136 Wt:=rOk isAgg136 ⟨_,underlying136,rfl⟩
theorem Mw:bC prog 137 TQ:=rOk isAgg137 ⟨_,underlying137,rfl⟩ (fun ks h=>by injection h with h;subst h;exact Ry)
theorem OC:bC prog 138 WA:=rOk isAgg138 ⟨_,underlying138,rfl⟩ (fun ks h=>by injection h with h;subst h;exact RN)
theorem Nf:bC prog 143 UH:=rOk isAgg143 ⟨_,underlying143,rfl⟩
theorem Oi:bC prog 144 Ww:=rOk isAgg144 ⟨_,underlying144,rfl⟩
theorem NJ:bC prog 145 WM:=rOk isAgg145 ⟨_,_,_,underlying145⟩
theorem Oo:bC prog 154 Wv:=rOk isAgg154 underlying154 (eOk underlying154)
theorem Mq:bC prog 171 Xs:=rOk isAgg171 underlying171
theorem OH:bC prog 177 WW:=rOk isAgg177 underlying177
theorem Nz:bC prog 184 XA:=rOk isAgg184 underlying184 (eOk underlying184)
theorem OV:bC prog 188 Xr:=rOk isAgg188 underlying188
theorem Me:bC prog 200 XH:=rOk isAgg200 underlying200
theorem OK:bC prog 203 WH:=rOk isAgg203 underlying203
theorem nB:aX prog tab:=Ib YF ⟨Tr,UT,VH,TW,Qy,Ru,RL,QM,Sj,PD,Pf,Ox,RS,QU,SN,SC,Qi,SS,QO,PO,Qp,RU,QD,Qs,Md,Ng,Nr,Ob,MT,NF,Nq,Mx,Nk,On,Oc,OQ,Mt,Mw,OC,Nf,Oi,NJ,Oo,Mq,OH,Nz,OV,Me,OK,trivial⟩
end Aw
end Go.Proofs.YtbgngpdonpeboaaGreatDoor
