/- The types of this seat's translation, as a table, and that the loaded program has them so. Written by a program (gentab.py). -/
import Derived.Test.YtbgngpdonpeboaaGreatDoorAwDraw
import Derived.Test.YtbgngpdonpeboaaGreatDoorAwArr
import Derived.Test.YtbgngpdonpeboaaGreatDoorProg
import Derived.KernelRfl
import Derived.Tactics
import Derived.Laws.StructEq
set_option linter.defProp false
set_option linter.unusedVariables false
set_option linter.unusedSimpArgs false
open Go.Proofs.Tryz
namespace Go.Proofs.YtbgngpdonpeboaaGreatDoor
namespace Aw
open Go Go.RowKit
@[simp] def R3:bI:={ agg:=false,size:=1,bytes:=8,zero:=[.int .i64 0],d:=.int .i64,ck:=some [.i64] }
@[simp] def R4:bI:={ agg:=false,size:=1,bytes:=1,zero:=[.bool false],d:=.bool }
@[simp] def R5:bI:={ agg:=false,size:=1,bytes:=1,zero:=[.int .u8 0],d:=.int .u8,ck:=some [.u8] }
@[simp] def R9:bI:={ agg:=false,size:=1,bytes:=16,zero:=[.string ⟨#[]⟩],d:=.str }
@[simp] def vq:bI:={ agg:=false,size:=1,bytes:=24,zero:=[.slice none 0 0],d:=.slice 34 }
@[simp] def vt:bI:={ agg:=false,size:=1,bytes:=24,zero:=[.slice none 0 0],d:=.slice 36 }
@[simp] def tp:bI:={ agg:=true,size:=2,bytes:=48,zero:=[.slice none 0 0,.slice none 0 0],d:=.struct [(0,22),(1,23)] }
@[simp] def vu:bI:=tp
@[simp] def vv:bI:={ agg:=false,size:=1,bytes:=24,zero:=[.slice none 0 0],d:=.slice 22 }
@[simp] def tr:bI:={ agg:=true,size:=3,bytes:=72,zero:=[.slice none 0 0,.slice none 0 0,.slice none 0 0],d:=.struct [(0,25),(2,26)] }
@[simp] def vx:bI:=tr
@[simp] def vz:bI:={ agg:=false,size:=1,bytes:=4,zero:=[.int .u32 0],d:=.int .u32,ck:=some [.u32] }
@[simp] def ts:bI:={ agg:=true,size:=3,bytes:=12,zero:=[.int .u32 0,.int .u32 0,.int .u32 0],d:=.struct [(0,34),(1,34),(2,34)],ck:=some [.u32,.u32,.u32] }
@[simp] def v6:bI:=ts
@[simp] def rq:bI:={ agg:=false,size:=1,bytes:=8,zero:=[.nilFunc],d:=.func }
@[simp] def we:bI:=rq
@[simp] def wg:bI:={ agg:=false,size:=1,bytes:=8,zero:=[.map none],d:=.map 34 22 }
@[simp] def wh:bI:={ agg:=false,size:=1,bytes:=8,zero:=[.map none],d:=.map 34 3 }
@[simp] def wi:bI:=R3
@[simp] def wk:bI:={ agg:=false,size:=1,bytes:=8,zero:=[.map none],d:=.map 79 23 }
@[simp] def wl:bI:={ agg:=true,size:=2,bytes:=8,zero:=[.int .u32 0,.int .u32 0],d:=.arr 2 34,ck:=some [.u32,.u32] }
@[simp] def wm:bI:={ agg:=false,size:=1,bytes:=24,zero:=[.slice none 0 0],d:=.slice 23 }
@[simp] def wn:bI:={ agg:=false,size:=1,bytes:=8,zero:=[.map none],d:=.map 34 93 }
@[simp] def wo:bI:={ agg:=false,size:=1,bytes:=8,zero:=[.map none],d:=.map 34 34 }
@[simp] def Pj:bI:={ agg:=false,size:=1,bytes:=8,zero:=[.int .u64 0],d:=.int .u64,ck:=some [.u64] }
@[simp] def XF:bI:={ agg:=false,size:=1,bytes:=8,zero:=[.map none],d:=.map 79 3 }
@[simp] def Xt:bI:={ agg:=false,size:=1,bytes:=8,zero:=[.pointer none],d:=.ptr 126 }
@[simp] def Xq:bI:={ agg:=false,size:=1,bytes:=8,zero:=[.map none],d:=.map 34 124 }
@[simp] def Xr:bI:={ agg:=false,size:=1,bytes:=24,zero:=[.slice none 0 0],d:=.slice 3 }
@[simp] def Vq:bI:={ agg:=true,size:=6,bytes:=96,zero:=[.slice none 0 0,.map none,.map none,.map none,.slice none 0 0,.slice none 0 0],d:=.struct [(0,23),(1,123),(2,64),(3,64),(4,124),(5,83)] }
@[simp] def XJ:bI:=Vq
@[simp] def XX:bI:={ agg:=false,size:=1,bytes:=8,zero:=[.pointer none],d:=.ptr 136 }
@[simp] def XY:bI:={ agg:=false,size:=1,bytes:=24,zero:=[.slice none 0 0],d:=.slice 133 }
@[simp] def Xg:bI:=Pj
@[simp] def Wv:bI:={ agg:=false,size:=1,bytes:=24,zero:=[.slice none 0 0],d:=.slice 144 }
@[simp] def UA:bI:={ agg:=true,size:=7,bytes:=120,zero:=[.slice none 0 0,.slice none 0 0,.slice none 0 0,.map none,.map none,.int .u64 0,.slice none 0 0],d:=.struct [(0,25),(2,132),(3,64),(4,120),(5,133),(6,134)] }
@[simp] def Wy:bI:=UA
@[simp] def VX:bI:={ agg:=true,size:=2,bytes:=16,zero:=[.int .u64 0,.int .u64 0],d:=.struct [(0,133),(1,133)],ck:=some [.u64,.u64] }
@[simp] def Xz:bI:=VX
@[simp] def VV:bI:={ agg:=true,size:=2,bytes:=32,zero:=[.slice none 0 0,.int .u64 0],d:=.struct [(0,22),(1,133)] }
@[simp] def Xa:bI:=VV
@[simp] def Wr:bI:=rq
@[simp] def Wl:bI:=R3
@[simp] def Xk:bI:={ agg:=false,size:=1,bytes:=24,zero:=[.slice none 0 0],d:=.slice 138 }
@[simp] def Wf:bI:={ agg:=false,size:=1,bytes:=8,zero:=[.map none],d:=.map 34 4 }
@[simp] def Xl:bI:=Pj
@[simp] def Wk:bI:={ agg:=false,size:=1,bytes:=8,zero:=[.pointer none],d:=.ptr 3 }
@[simp] def XL:bI:={ agg:=true,size:=64,bytes:=64,zero:=(List.replicate 64 (.int .u8 0)),d:=.arr 64 5 }
@[simp] def Wa:bI:={ agg:=false,size:=1,bytes:=8,zero:=[.pointer none],d:=.ptr 184 }
def YY:List (Nat×bI):=[(3,R3),(4,R4),(5,R5),(9,R9),(22,vq),(23,vt),(24,tp),(25,vu),(26,vv),(27,tr),(28,vx),(34,vz),(35,ts),(36,v6),(59,rq),(61,we),(62,wg),(64,wh),(66,wi),(78,wk),(79,wl),(83,wm),(87,wn),(93,wo),(109,Pj),(120,XF),(122,Xt),(123,Xq),(124,Xr),(125,Vq),(126,XJ),(130,XX),(132,XY),(133,Xg),(134,Wv),(135,UA),(136,Wy),(137,VX),(138,Xz),(143,VV),(144,Xa),(145,Wr),(154,Wl),(171,Xk),(177,Wf),(184,Xl),(188,Wk),(200,XL),(203,Wa)]
def tab:az:=Gw YY
@[simp] theorem I2:tab 3=some R3:=rfl
@[simp] theorem I1:tab 4=some R4:=rfl
@[simp] theorem I4:tab 5=some R5:=rfl
@[simp] theorem I3:tab 9=some R9:=rfl
@[simp] theorem A3:tab 22=some vq:=rfl
@[simp] theorem H7:tab 23=some vt:=rfl
@[simp] theorem C7:tab 24=some tp:=rfl
@[simp] theorem I0:tab 25=some vu:=rfl
@[simp] theorem Zy:tab 26=some vv:=rfl
@[simp] theorem B6:tab 27=some tr:=rfl
@[simp] theorem G2:tab 28=some vx:=rfl
@[simp] theorem C0:tab 34=some vz:=rfl
@[simp] theorem C5:tab 35=some ts:=rfl
@[simp] theorem H6:tab 36=some v6:=rfl
@[simp] theorem A8:tab 59=some rq:=rfl
@[simp] theorem F6:tab 61=some we:=rfl
@[simp] theorem B8:tab 62=some wg:=rfl
@[simp] theorem G5:tab 64=some wh:=rfl
@[simp] theorem D7:tab 66=some wi:=rfl
@[simp] theorem E7:tab 78=some wk:=rfl
@[simp] theorem D9:tab 79=some wl:=rfl
@[simp] theorem D6:tab 83=some wm:=rfl
@[simp] theorem A6:tab 87=some wn:=rfl
@[simp] theorem C6:tab 93=some wo:=rfl
@[simp] theorem ZU:tab 109=some Pj:=rfl
@[simp] theorem Zl:tab 120=some XF:=rfl
@[simp] theorem ZZ:tab 122=some Xt:=rfl
@[simp] theorem Zt:tab 123=some Xq:=rfl
@[simp] theorem Zs:tab 124=some Xr:=rfl
@[simp] theorem ZY:tab 125=some Vq:=rfl
@[simp] theorem Zi:tab 126=some XJ:=rfl
@[simp] theorem Zn:tab 130=some XX:=rfl
@[simp] theorem Zu:tab 132=some XY:=rfl
@[simp] theorem Zv:tab 133=some Xg:=rfl
@[simp] theorem Zj:tab 134=some Wv:=rfl
@[simp] theorem Zo:tab 135=some UA:=rfl
@[simp] theorem Zw:tab 136=some Wy:=rfl
@[simp] theorem Ze:tab 137=some VX:=rfl
@[simp] theorem Zq:tab 138=some Xz:=rfl
@[simp] theorem ZX:tab 143=some VV:=rfl
@[simp] theorem Zm:tab 144=some Xa:=rfl
@[simp] theorem Zp:tab 145=some Wr:=rfl
@[simp] theorem Zd:tab 154=some Wl:=rfl
@[simp] theorem Zf:tab 171=some Xk:=rfl
@[simp] theorem ZW:tab 177=some Wf:=rfl
@[simp] theorem Zg:tab 184=some Xl:=rfl
@[simp] theorem ZV:tab 188=some Wk:=rfl
@[simp] theorem Zc:tab 200=some XL:=rfl
@[simp] theorem Za:tab 203=some Wa:=rfl
def Tu{P:Program}{t size bytes:Nat}{z:Value}(h:(P.info? t).map (fun i=>(i.size,i.bytes,i.zero))=some (size,bytes,some z)):∃ i,P.info? t=some i/\i.size=size/\i.bytes=bytes/\i.zero=some z:=by
 cases a:P.info? t with
 |none=>simp[a]at h
 |some i=>simp only[a,Option.map_some,ap,fx]at h;exact⟨i,rfl,h.1,h.2.1,h.2.2⟩
def VY:CX prog 35 true [.u32,.u32,.u32]:=by
 have u34:=underlying34;have a34:=isAgg34;have z34:=Tryz.sizeOf34;have hp:prog.stoodInHeld 35=false:=by kernel_rfl
 refine⟨fun w as1 bs1 h1 h2=>?_,fun w em as1 h1=>?_,fun _=>by kernel_rfl,(fun h=>by cases h),_,underlying35,.inr fun as1 bs1 h1 h2=>by simp[cj,Instr.sameNow]⟩
 .match as1,bs1,h1,h2 with
  |[x0,x1,x2],[y0,y1,y2],_,_=>
   have hS:prog.underlying 35=some (.struct (prog.fieldsOf 35)):=by kernel_rfl
   simp only[cj,fb,dE];unfold Op.equal Op.maxDepth;rw[show(10000:Nat)=9999+1 from rfl,run_equalIn_agg w 9999 35 _ _ hS hp];simp only[Program.fieldsOf,underlying35]
   go_simp
   by_cases e0:x0=y0<;>by_cases e1:x1=y1<;>by_cases e2:x2=y2<;>simp[e0,e1,e2]
 .match as1,h1 with
  |[x0,x1,x2],_=>
   simp only[cj,fb,dE];unfold Instr.checkKey;simp only[Sem.run_bind,run_underlying underlying35,Result.andThen_ok]
   go_simp
   (try simp[rX u34])
def VP:CX prog 36 true [.u32,.u32,.u32]:=by
 have u34:=underlying34;have a34:=isAgg34;have z34:=Tryz.sizeOf34;have hp:prog.stoodInHeld 36=false:=by kernel_rfl
 refine⟨fun w as1 bs1 h1 h2=>?_,fun w em as1 h1=>?_,fun _=>by kernel_rfl,(fun h=>by cases h),_,underlying36,.inr fun as1 bs1 h1 h2=>by simp[cj,Instr.sameNow]⟩
 .match as1,bs1,h1,h2 with
  |[x0,x1,x2],[y0,y1,y2],_,_=>
   have hS:prog.underlying 36=some (.struct (prog.fieldsOf 36)):=by kernel_rfl
   simp only[cj,fb,dE];unfold Op.equal Op.maxDepth;rw[show(10000:Nat)=9999+1 from rfl,run_equalIn_agg w 9999 36 _ _ hS hp];simp only[Program.fieldsOf,underlying36]
   go_simp
   by_cases e0:x0=y0<;>by_cases e1:x1=y1<;>by_cases e2:x2=y2<;>simp[e0,e1,e2]
 .match as1,h1 with
  |[x0,x1,x2],_=>
   simp only[cj,fb,dE];unfold Instr.checkKey;simp only[Sem.run_bind,run_underlying underlying36,Result.andThen_ok]
   go_simp
   (try simp[rX u34])
def VR:CX prog 79 true [.u32,.u32]:=NO underlying79 underlying34 isAgg34 Tryz.sizeOf34 (by kernel_rfl) (by kernel_rfl)
def Re:CX prog 137 true [.u64,.u64]:=by
 have u133:=underlying133;have a133:=isAgg133;have z133:=Tryz.sizeOf133;have hp:prog.stoodInHeld 137=false:=by kernel_rfl
 refine⟨fun w as1 bs1 h1 h2=>?_,fun w em as1 h1=>?_,fun _=>by kernel_rfl,(fun h=>by cases h),_,underlying137,.inr fun as1 bs1 h1 h2=>by simp[cj,Instr.sameNow]⟩
 .match as1,bs1,h1,h2 with
  |[x0,x1],[y0,y1],_,_=>
   have hS:prog.underlying 137=some (.struct (prog.fieldsOf 137)):=by kernel_rfl
   simp only[cj,fb,dE];unfold Op.equal Op.maxDepth;rw[show(10000:Nat)=9999+1 from rfl,run_equalIn_agg w 9999 137 _ _ hS hp];simp only[Program.fieldsOf,underlying137]
   go_simp
   by_cases e0:x0=y0<;>by_cases e1:x1=y1<;>simp[e0,e1]
 .match as1,h1 with
  |[x0,x1],_=>
   simp only[cj,fb,dE];unfold Instr.checkKey;simp only[Sem.run_bind,run_underlying underlying137,Result.andThen_ok]
   go_simp
   (try simp[rX u133])
def SM:CX prog 138 true [.u64,.u64]:=by
 have u133:=underlying133;have a133:=isAgg133;have z133:=Tryz.sizeOf133;have hp:prog.stoodInHeld 138=false:=by kernel_rfl
 refine⟨fun w as1 bs1 h1 h2=>?_,fun w em as1 h1=>?_,fun _=>by kernel_rfl,(fun h=>by cases h),_,underlying138,.inr fun as1 bs1 h1 h2=>by simp[cj,Instr.sameNow]⟩
 .match as1,bs1,h1,h2 with
  |[x0,x1],[y0,y1],_,_=>
   have hS:prog.underlying 138=some (.struct (prog.fieldsOf 138)):=by kernel_rfl
   simp only[cj,fb,dE];unfold Op.equal Op.maxDepth;rw[show(10000:Nat)=9999+1 from rfl,run_equalIn_agg w 9999 138 _ _ hS hp];simp only[Program.fieldsOf,underlying138]
   go_simp
   by_cases e0:x0=y0<;>by_cases e1:x1=y1<;>simp[e0,e1]
 .match as1,h1 with
  |[x0,x1],_=>
   simp only[cj,fb,dE];unfold Instr.checkKey;simp only[Sem.run_bind,run_underlying underlying138,Result.andThen_ok]
   go_simp
   (try simp[rX u133])
def df{P:Program}{t:Nat}{r:bI}(h1:∀ w,(isAgg t).run P w=.ok r.agg w)(h2:eK P t r.d)(h3:∀ ks,r.ck=some ks->CX P t r.agg ks:=by intro ks h;cases h)(h4:(P.info? t).map (fun i=>(i.size,i.bytes,i.zero))=some (r.size,r.bytes,some r.zeroV):=by kernel_rfl)(h5:r.zero.length=r.size:=by rfl)(h6:r.agg=false->r.size=1:=by first|exact fun _=>rfl|exact fun h=>by cases h)(h7:r.zero.all Value.oneCell'=true:=by rfl):bD P t r:=⟨h1,Tu h4,h5,h6,h7,h2,h3⟩
def nr{P:Program}{t:Nat}{r:bI}{k:IntKind}(h:P.underlying t=some (.int k))(hr:r.ck=some [k]:=by rfl)(ha:r.agg=false:=by rfl):∀ ks,r.ck=some ks->CX P t r.agg ks:=fun ks e=>by rw[hr]at e;injection e with e;subst e;rw[ha];exact Pt h
def Vm:bD prog 3 R3:=df isAgg3 underlying3 (nr underlying3)
def VN:bD prog 4 R4:=df isAgg4 underlying4
def UQ:bD prog 5 R5:=df isAgg5 underlying5 (nr underlying5)
def Vt:bD prog 9 R9:=df isAgg9 underlying9
def SK:bD prog 22 vq:=df isAgg22 underlying22
def SN:bD prog 23 vt:=df isAgg23 underlying23
def SI:bD prog 24 tp:=df isAgg24 ⟨_,underlying24,rfl⟩
def Ru:bD prog 25 vu:=df isAgg25 ⟨_,underlying25,rfl⟩
def Ra:bD prog 26 vv:=df isAgg26 underlying26
def Sn:bD prog 27 tr:=df isAgg27 ⟨_,underlying27,rfl⟩
def Rh:bD prog 28 vx:=df isAgg28 ⟨_,underlying28,rfl⟩
def Qn:bD prog 34 vz:=df isAgg34 underlying34 (nr underlying34)
def Ph:bD prog 35 ts:=df isAgg35 ⟨_,underlying35,rfl⟩ (fun a h=>by injection h with h;subst h;exact VY)
def TH:bD prog 36 v6:=df isAgg36 ⟨_,underlying36,rfl⟩ (fun a h=>by injection h with h;subst h;exact VP)
def Pn:bD prog 59 rq:=df isAgg59 ⟨_,_,_,underlying59⟩
def QG:bD prog 61 we:=df isAgg61 ⟨_,_,_,underlying61⟩
def Qv:bD prog 62 wg:=df isAgg62 underlying62
def Rp:bD prog 64 wh:=df isAgg64 underlying64
def SO:bD prog 66 wi:=df isAgg66 underlying66 (nr underlying66)
def Sy:bD prog 78 wk:=df isAgg78 underlying78
def QD:bD prog 79 wl:=df isAgg79 underlying79 (fun a h=>by injection h with h;subst h;exact VR)
def Pv:bD prog 83 wm:=df isAgg83 underlying83
def QN:bD prog 87 wn:=df isAgg87 underlying87
def RX:bD prog 93 wo:=df isAgg93 underlying93
def NU:bD prog 109 Pj:=df isAgg109 underlying109 (nr underlying109)
def Nn:bD prog 120 XF:=df isAgg120 underlying120
def Ob:bD prog 122 Xt:=df isAgg122 underlying122
def NY:bD prog 123 Xq:=df isAgg123 underlying123
def Nc:bD prog 124 Xr:=df isAgg124 underlying124
def ON:bD prog 125 Vq:=df isAgg125 ⟨_,underlying125,rfl⟩
def PK:bD prog 126 XJ:=df isAgg126 ⟨_,underlying126,rfl⟩
def Oc:bD prog 130 XX:=df isAgg130 underlying130
def OM:bD prog 132 XY:=df isAgg132 underlying132
def Oe:bD prog 133 Xg:=df isAgg133 underlying133 (nr underlying133)
def NP:bD prog 134 Wv:=df isAgg134 underlying134
def Nd:bD prog 135 UA:=df isAgg135 ⟨_,underlying135,rfl⟩
def Oa:bD prog 136 Wy:=df isAgg136 ⟨_,underlying136,rfl⟩
def OE:bD prog 137 VX:=df isAgg137 ⟨_,underlying137,rfl⟩ (fun a h=>by injection h with h;subst h;exact Re)
def NT:bD prog 138 Xz:=df isAgg138 ⟨_,underlying138,rfl⟩ (fun a h=>by injection h with h;subst h;exact SM)
def NQ:bD prog 143 VV:=df isAgg143 ⟨_,underlying143,rfl⟩
def Oy:bD prog 144 Xa:=df isAgg144 ⟨_,underlying144,rfl⟩
def NA:bD prog 145 Wr:=df isAgg145 ⟨_,_,_,underlying145⟩
def Ov:bD prog 154 Wl:=df isAgg154 underlying154 (nr underlying154)
def NL:bD prog 171 Xk:=df isAgg171 underlying171
def Nq:bD prog 177 Wf:=df isAgg177 underlying177
def Ot:bD prog 184 Xl:=df isAgg184 underlying184 (nr underlying184)
def OK:bD prog 188 Wk:=df isAgg188 underlying188
def Np:bD prog 200 XL:=df isAgg200 underlying200
def NS:bD prog 203 Wa:=df isAgg203 underlying203
def lV:aZ prog tab:=Gg YY ⟨Vm,VN,UQ,Vt,SK,SN,SI,Ru,Ra,Sn,Rh,Qn,Ph,TH,Pn,QG,Qv,Rp,SO,Sy,QD,Pv,QN,RX,NU,Nn,Ob,NY,Nc,ON,PK,Oc,OM,Oe,NP,Nd,Oa,OE,NT,NQ,Oy,NA,Ov,NL,Nq,Ot,OK,Np,NS,trivial⟩
end Aw
end Go.Proofs.YtbgngpdonpeboaaGreatDoor
