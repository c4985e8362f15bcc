/- Lemmas. -/
import Derived.Test.YtbgngpdonpeboaaGreatDoorAwTab
set_option linter.defProp false
open Go.Proofs.Tryz
namespace Go.Proofs.YtbgngpdonpeboaaGreatDoor
namespace Aw
open Go Go.RowKit
abbrev u(n:Int):LV:=.atom (.int .u32 n)
abbrev i(n:Int):LV:=.atom (.int .i64 n)
abbrev bb(b:Bool):LV:=.atom (.bool b)
abbrev us(l:PP):QQ:=l.map u
theorem HB(a:ah)(i j:Nat)(v:LV):de a i v j=if j=i then v else a j:=rfl
theorem cN(a:St)(o:cT)(l:Nat):(a.new o).H l=if l=a.z then o else a.H l:=rfl
def aK(a:St)(o:cT):(a.new o).z=a.z+1:=rfl
theorem cC(a:St)(q:Nat)(o:cT)(l:Nat):(a.set q o).H l=if l=q then o else a.H l:=rfl
variable{l:Nat}{A B Q p p0 p1 p10 p11 p12 p13 p14 p15 p16 p17 p18 p19 p2 p20 p21 p3 p4 p5 p6 p7 p8 p9 q:Prop}{S:St}{o:cT}
def ay(h:¬l=S.z):(S.new o).H l=S.H l:=by rw[cN,aa h]
def az(h:l=S.z):(S.new o).H l=o:=by rw[cN,ac h]
def aA{q:Nat}(h:¬l=q):(S.set q o).H l=S.H l:=by rw[cC,aa h]
def aB{q:Nat}(h:l=q):(S.set q o).H l=o:=by rw[cC,ac h]
def aE(h:p:=by(try simp only[bP,aK]);omega):p:=h
def bf(h:p:=by(try simp only[bP,aK])):p:=h
def bP(a:St)(q:Nat)(o:cT):(a.set q o).z=a.z:=rfl
structure aC(st st':St):Prop where
 z:st.z<=st'.z
 H:∀ l,l<st.z->st'.H l=st.H l
theorem aC.refl(a:St):aC a a:=⟨au _,fun _ _=>rfl⟩
theorem aC.trans{a b c:St}(h:aC a b)(k:aC b c):aC a c:=⟨fa h.z k.z,fun l d=>(k.H l (dc d h.z)).trans (h.H l d)⟩
theorem aC.new(st:St)(o:cT):aC st (st.new o):=⟨ub _,fun l a=>by grind [cN]⟩
theorem aC.set{a b:St}(h:aC a b){q:Nat}(d:a.z<=q)(o:cT):aC a (b.set q o):=⟨h.z,fun l c=>by rw[cC,aa O];exact h.H l c⟩
section
variable {P:Program} {T:bg} {N:Nat} {ops:Array Oper} {M B:List Nat} {J:ah->St->Prop} {rest:List Oper} {d:Option Nat} {fr:ah} {st j9:St} {π:List (Nat×Bool×Oper)} {nd:Bool}
theorem qE{f:FuncId}{args a:QQ}{R:LV->St->Prop}(h:aD P f a st R)(c:args.map norm=a)(e:∀ r b,R r b->cV P T N ops M J rest (bR fr d r) b):DF P T N ops M J rest d fr st f args:=by
 grind [PZ]
theorem qD{f:FuncId}{args a:QQ}{R:LV->St->Prop}(h:aD P f a st R)(c:args.map norm=a)(e:∀ r b,R r b->(nd=true->SB B j9 b)/\fL P T ops M B j9 J π (bR fr d r) b):Db P T ops M B j9 J π nd d fr st f args:=by subst c;exact aS h.of_norm e
end
theorem oV{w:World}{g:G}{x:LV}{post:QQ}:∀(a:QQ) (b:List Value),aG w g (a++x::post) b->∃ v,Rep w g x v/\∀ d y,Ext w g w d->Rep w d y v->aG w d (a++y::post) b
 |[],b,h=>by
  grind [aG,aG.mono]
 |c::a,b,h=>by
  simp only[List.cons_append,aG]at h ⊢;obtain⟨v,e,rfl,j,f⟩:=h;obtain⟨u,k,l⟩:=oV a e f
  grind [Rep.mono]
def zX{P:Program}{f:FuncId}{pre post:QQ}{st:St}{Q:LV->St->Prop}{n e s:Nat}{cs:QQ}(y:st.H l=.box e s cs)(z:n*s<=cs.length)(h:aD P f (pre++.sl 0 n (cs.take (n*s))::post) (st.set l .dead) Q):aD P f (pre++.ms l 0 n::post) st Q:=by
 refine⟨h.1,fun w g m t B=>?_⟩;obtain⟨v,E,p⟩:=oV pre m B
 obtain⟨d,C,D,k⟩:=jC (fr:=de (fun _=>.dead) 0 (.ms l 0 n)) 0 rfl y z { tmps:=#[v],defers:=[] } w g t (by
  intro j;unfold de;by_cases F:j=0
  .simp_all
  grind [Rep])
 refine(h.2 w d m C (p d _ k (D 0))).mono ?_;rintro x I ⟨v,r,c,o,rfl,A,a,b,q⟩;exact⟨v,r,c,o,rfl,A,a,b,k.trans q⟩
def ak:(∀(P:Program) (N:Nat) (Q:AQ) (e:Exit) (a:ah) (b:St),AK P N Q [] e a b=Q e a b)/\
 (∀(P:Program) (N:Nat) (Q:AQ) (k:List iM) (c:Code) (a:ah) (b:St),AK P N Q (.code c::k) .normal a b=bq P N c (AK P N Q k) a b/\(∀ i,AK P N Q (.code c::k) (.exit i) a b=AK P N Q k (.exit i) a b)/\AK P N Q (.code c::k) .ret a b=AK P N Q k .ret a b)/\
 (∀(P:Program) (N:Nat) (Q:AQ) (k:List iM) (id:Nat) (a:ah) (b:St),AK P N Q (.blk id::k) .normal a b=AK P N Q k .normal a b/\AK P N Q (.blk id::k) .ret a b=AK P N Q k .ret a b/\∀ i,AK P N Q (.blk id::k) (.exit i) a b=if i=id then AK P N Q k .normal a b else AK P N Q k (.exit i) a b)/\
 (∀(P:Program) (N:Nat) (Q:AQ) (k:List iM) (J:ah->St->Prop) (a:ah) (b:St),AK P N Q (.head J::k) .normal a b=J a b/\(∀ i,AK P N Q (.head J::k) (.exit i) a b=AK P N Q k (.exit i) a b)/\AK P N Q (.head J::k) .ret a b=AK P N Q k .ret a b)/\
 (∀(T:bg) (d:List ResultVar) (Q:LV->St->Prop) (a:ah) (b:St),Body T d Q .ret a b=BA T Q a b d/\Body T d Q .normal a b=BA T Q a b d):=
 ⟨fun _ _ _ _ _ _=>rfl,fun _ _ _ _ _ _ _=>⟨rfl,fun _=>rfl,rfl⟩,fun _ _ _ _ _ _ _=>⟨rfl,rfl,fun _=>rfl⟩,fun _ _ _ _ _ _ _=>⟨rfl,fun _=>rfl,rfl⟩,fun _ _ _ _ _=>⟨rfl,rfl⟩⟩
attribute [simp] MY L8 bG TS Nq VX VT wX Hw vW yH fX Yn A5 bR HB aM HA dD JC Xx Wq Ce fW Ue AP mC CF fO Cx Wu TT xP BR XO eS Gy HZ tU uF Gd gN nO WR Vs YB BL Zd BM HY FX dN uJ Qu yJ vY norm gG kn kQ
attribute [simp] N5 C1 Vn Zb W5 Z0 d_a Y3 W8 d_l Zw C5 aW gB oE RL uN Iy C7 Vo
attribute [simp] List.take_of_length_le
attribute [simp] sameBox xY Od rK wQ EF nilPtr Ku HF isStr Mq pJ xS yS xI VY EZ jJ Di Ud
attribute [simp] H7 Yv D3 WU ZG
attribute [simp] wW kO GR Ay Yr Lp nQ Gz HR JF mY UN LB BA xH DV one
@[simp] theorem Q6(c:LV)(a:QQ):oe (c::a)=c:=rfl
attribute [simp] cN aK cC bP
section
variable {N:Nat} {Q:AQ} {fr:ah} {st:St} {id:Nat}
theorem ca{a b:Prop}(hb:b)(ha:a:=by first|omega|assumption|(simp only[maxLen];omega)|decide):a/\b:=⟨ha,hb⟩
theorem w_e{ops:Array Oper}(M:PQ)(h:∀ J:ah->St->Prop,(∀ fr st,Q .normal fr st->J fr st)->cV prog tab N ops M J ops.toList fr st)(hk:dJ N ops ops.toList=true:=by exact rfl):bq prog N (.region id ops false) Q fr st:=nE oP M hk h
theorem w_q{l:List Oper}(h:∀ J:ah->St->Prop,(∀ fr st,Q .normal fr st->J fr st)->iW tab l.toArray J l fr st)(hm:prog.follows .mixedOrders=true:=by kernel_rfl)(hB:Region.lexB .any l.toArray=true:=by kernel_rfl)(hk:dJ N l.toArray l=true:=by exact rfl)(hq:l.all (fun o=>aW o.op)=true:=by exact rfl):bq prog N (.region id l.toArray true) Q fr st:=RH oP hm hB hk hq h
theorem w_s{ops:Array Oper}(M B:PQ)(π:List (Nat×Bool))(h:∀ J:ah->St->Prop,(∀ fr st,Q .normal fr st->J fr st)->fL prog tab ops M B st J (pick ops π) fr st)(hm:prog.follows .mixedOrders=true:=by kernel_rfl)(hk:dJ N ops ops.toList=true:=by exact rfl)
 (hπ:(nI ops ((pick ops π).map (·.1)) (Array.replicate ops.size false)&&((pick ops π).length==ops.size)&&(π.all fun p=>!lI ops p.1||p.2))=true:=by kernel_rfl):bq prog N (.region id ops true) Q fr st:=Qw oP M B π hm hk hπ h
end
section
variable {N:Nat} {Q:AQ} {fr:ah} {st:St} {id:Nat}
theorem zJ{P R:ah->St->Prop}{b:Prop}(h:∀ f s,P f s->R f s)(k:b)(e:b->P fr st:=by simp only[ak,reduceIte];exact fun h=>h):R fr st:=h _ _ (e k)
theorem zE{ops:Array Oper}{b:Prop}(k:b)(e:b->∀ J:ah->St->Prop,(∀ fr st,Q .normal fr st->J fr st)->cV prog tab N ops [] J ops.toList fr st:=by intro k J hJ;simp only[];revert J hJ;exact k)(hk:dJ N ops ops.toList=true:=by exact rfl):bq prog N (.region id ops false) Q fr st:=w_e [] (e k) hk
theorem zN{f:FuncId}{fn:Func}{c:Code}{args:QQ}{R:LV->St->Prop}(hf:prog.funcs[f]?=some fn)(hN:fn.ntmps=N)(rs:List ResultVar)(h:bq prog N c (AK prog N (Body tab rs R) []) (vY args) st)(hb:fn.body=some c:=by exact rfl)(hn:(fn.name== "runtime.NumGoroutine")=false:=by exact rfl)(hr:fn.results.toList=rs:=by exact rfl)(hl:args.length<=N:=by simp):aD prog f args st R:=qO oP hf hb hn hN hr hl h
def zK(a:Array Oper)(l:PQ):List (Nat×Bool×Oper):=pick a (l.map fun c=>(c / 2,c % 2==0))
@[simp] theorem Q8(a:Array Oper)(c:Nat)(l:PQ):zK a (c::l)=match a[c / 2]? with|some o=>(c / 2,c % 2==0,o)::zK a l|none=>zK a l:=by unfold zK;rw[ax,uN];rfl
@[simp] theorem W4(a:Array Oper):zK a []=[]:=rfl
theorem zS{ops:Array Oper}(M B l:PQ)(h:∀ J:ah->St->Prop,(∀ fr st,Q .normal fr st->J fr st)->fL prog tab ops M B st J (zK ops l) fr st)(hm:prog.follows .mixedOrders=true:=by kernel_rfl)(hk:dJ N ops ops.toList=true:=by exact rfl)
 (hp:(nI ops ((pick ops (l.map fun c=>(c / 2,c % 2==0))).map (·.1)) (Array.replicate ops.size false)&&((pick ops (l.map fun c=>(c / 2,c % 2==0))).length==ops.size)&&((l.map fun c=>(c / 2,c % 2==0)).all fun p=>!lI ops p.1||p.2))=true:=by kernel_rfl):bq prog N (.region id ops true) Q fr st:=w_s M B (l.map fun c=>(c / 2,c % 2==0)) h hm hk hp
end
def cY(p:Prop):Prop:=p
def ez(k:B)(h:True->cY B->A:=by intro _ kB;(repeat' (first|refine qS ?_|refine qB ?_|((first|refine qK ?_|refine qX ?_);simp only[ak,reduceIte])|(refine qR (zZ ?_);simp[])|(refine qC ?_;simp[];(try with_reducible refine⟨?_,?_⟩)<;>(try with_reducible intro hc)<;>try (exfalso;omega))|((first|(refine w_e [] ?_;intro J hJ;simp only[])|(refine w_q ?_;intro J hJ)|refine cP ?_);simp[];(repeat refine ca ?_);(try ((try with_reducible refine⟨?_,?_⟩)<;>(try with_reducible intro Z9)<;>refine hJ _ _ ?_<;>(try clear hJ J)<;>simp only[ak,reduceIte]<;>try subst Z9)))));revert J;exact kB):A:=h trivial k
def jn(a1:p1)(k:B)(h:p1->cY B->A:=by intro aF kB;(repeat' (first|refine qS ?_|refine qB ?_|((first|refine qK ?_|refine qX ?_);simp only[ak,reduceIte])|(refine qR (zZ ?_);simp[aF])|(refine qC ?_;simp[aF];(try with_reducible refine⟨?_,?_⟩)<;>(try with_reducible intro hc)<;>try (exfalso;omega))|((first|(refine w_e [] ?_;intro J hJ;simp only[])|(refine w_q ?_;intro J hJ)|refine cP ?_);simp[aF];(repeat refine ca ?_);(try ((try with_reducible refine⟨?_,?_⟩)<;>(try with_reducible intro Z9)<;>refine hJ _ _ ?_<;>(try clear hJ J)<;>simp only[ak,reduceIte]<;>try subst Z9)))));revert J;exact kB):A:=h a1 k
def nV(hJ:Q)(k:B)(h:Q->True->cY B->A:=by intro hJ _ kB;(repeat' (first|refine qS ?_|refine qB ?_|((first|refine qK ?_|refine qX ?_);simp only[ak,reduceIte])|(refine qR (zZ ?_);simp[])|(refine qC ?_;simp[];(try with_reducible refine⟨?_,?_⟩)<;>(try with_reducible intro hc)<;>try (exfalso;omega))|((first|(refine w_e [] ?_;intro J hJ;simp only[])|(refine w_q ?_;intro J hJ)|refine cP ?_);simp[];(repeat refine ca ?_);(try ((try with_reducible refine⟨?_,?_⟩)<;>(try with_reducible intro Z9)<;>refine hJ _ _ ?_<;>(try clear hJ J)<;>simp only[ak,reduceIte]<;>try subst Z9)))));revert J;exact kB):A:=h hJ trivial k
def Ci(hJ:Q)(a1:p1)(k:B)(h:Q->p1->cY B->A:=by intro hJ aF kB;(repeat' (first|refine qS ?_|refine qB ?_|((first|refine qK ?_|refine qX ?_);simp only[ak,reduceIte])|(refine qR (zZ ?_);simp[aF])|(refine qC ?_;simp[aF];(try with_reducible refine⟨?_,?_⟩)<;>(try with_reducible intro hc)<;>try (exfalso;omega))|((first|(refine w_e [] ?_;intro J hJ;simp only[])|(refine w_q ?_;intro J hJ)|refine cP ?_);simp[aF];(repeat refine ca ?_);(try ((try with_reducible refine⟨?_,?_⟩)<;>(try with_reducible intro Z9)<;>refine hJ _ _ ?_<;>(try clear hJ J)<;>simp only[ak,reduceIte]<;>try subst Z9)))));revert J;exact kB):A:=h hJ a1 k
def vz(h:True->A:=by intro _;(repeat' (first|refine qS ?_|refine qB ?_|((first|refine qK ?_|refine qX ?_);simp only[ak,reduceIte])|(refine qR (zZ ?_);simp[])|(refine qC ?_;simp[];(try with_reducible refine⟨?_,?_⟩)<;>(try with_reducible intro hc)<;>try (exfalso;omega))|((first|(refine w_e [] ?_;intro J hJ;simp only[])|(refine w_q ?_;intro J hJ)|refine cP ?_);simp[];(repeat refine ca ?_);(try ((try with_reducible refine⟨?_,?_⟩)<;>(try with_reducible intro Z9)<;>refine hJ _ _ ?_<;>(try clear hJ J)<;>simp only[ak,reduceIte]<;>try subst Z9)))))):A:=h trivial
def rz(a1:p1)(h:p1->A:=by intro aF;(repeat' (first|refine qS ?_|refine qB ?_|((first|refine qK ?_|refine qX ?_);simp only[ak,reduceIte])|(refine qR (zZ ?_);simp[aF])|(refine qC ?_;simp[aF];(try with_reducible refine⟨?_,?_⟩)<;>(try with_reducible intro hc)<;>try (exfalso;omega))|((first|(refine w_e [] ?_;intro J hJ;simp only[])|(refine w_q ?_;intro J hJ)|refine cP ?_);simp[aF];(repeat refine ca ?_);(try ((try with_reducible refine⟨?_,?_⟩)<;>(try with_reducible intro Z9)<;>refine hJ _ _ ?_<;>(try clear hJ J)<;>simp only[ak,reduceIte]<;>try subst Z9)))))):A:=h a1
def JZ(hJ:Q)(h:Q->True->A:=by intro hJ _;(repeat' (first|refine qS ?_|refine qB ?_|((first|refine qK ?_|refine qX ?_);simp only[ak,reduceIte])|(refine qR (zZ ?_);simp[])|(refine qC ?_;simp[];(try with_reducible refine⟨?_,?_⟩)<;>(try with_reducible intro hc)<;>try (exfalso;omega))|((first|(refine w_e [] ?_;intro J hJ;simp only[])|(refine w_q ?_;intro J hJ)|refine cP ?_);simp[];(repeat refine ca ?_);(try ((try with_reducible refine⟨?_,?_⟩)<;>(try with_reducible intro Z9)<;>refine hJ _ _ ?_<;>(try clear hJ J)<;>simp only[ak,reduceIte]<;>try subst Z9)))))):A:=h hJ trivial
def TW(hJ:Q)(a1:p1)(h:Q->p1->A:=by intro hJ aF;(repeat' (first|refine qS ?_|refine qB ?_|((first|refine qK ?_|refine qX ?_);simp only[ak,reduceIte])|(refine qR (zZ ?_);simp[aF])|(refine qC ?_;simp[aF];(try with_reducible refine⟨?_,?_⟩)<;>(try with_reducible intro hc)<;>try (exfalso;omega))|((first|(refine w_e [] ?_;intro J hJ;simp only[])|(refine w_q ?_;intro J hJ)|refine cP ?_);simp[aF];(repeat refine ca ?_);(try ((try with_reducible refine⟨?_,?_⟩)<;>(try with_reducible intro Z9)<;>refine hJ _ _ ?_<;>(try clear hJ J)<;>simp only[ak,reduceIte]<;>try subst Z9)))))):A:=h hJ a1
def bz(k:B)(h:True->cY B->A:=by intro _ kB;(repeat' (first|refine qS ?_|refine qB ?_|((first|refine qK ?_|refine qX ?_);simp only[ak,reduceIte])|(refine qR (zZ ?_);simp[])|(refine qC ?_;simp[];(try with_reducible refine⟨?_,?_⟩)<;>(try with_reducible intro hc)<;>try (exfalso;omega))|((first|(refine w_e [] ?_;intro J hJ;simp only[])|(refine w_q ?_;intro J hJ)|refine cP ?_);simp[];(repeat refine ca ?_);(try ((try with_reducible refine⟨?_,?_⟩)<;>(try with_reducible intro Z9)<;>refine hJ _ _ ?_<;>(try clear hJ J)<;>simp only[ak,reduceIte]<;>try subst Z9)))));exact kB):A:=h trivial k
def df(a1:p1)(k:B)(h:p1->cY B->A:=by intro aF kB;(repeat' (first|refine qS ?_|refine qB ?_|((first|refine qK ?_|refine qX ?_);simp only[ak,reduceIte])|(refine qR (zZ ?_);simp[aF])|(refine qC ?_;simp[aF];(try with_reducible refine⟨?_,?_⟩)<;>(try with_reducible intro hc)<;>try (exfalso;omega))|((first|(refine w_e [] ?_;intro J hJ;simp only[])|(refine w_q ?_;intro J hJ)|refine cP ?_);simp[aF];(repeat refine ca ?_);(try ((try with_reducible refine⟨?_,?_⟩)<;>(try with_reducible intro Z9)<;>refine hJ _ _ ?_<;>(try clear hJ J)<;>simp only[ak,reduceIte]<;>try subst Z9)))));exact kB):A:=h a1 k
def dU(hJ:Q)(k:B)(h:Q->True->cY B->A:=by intro hJ _ kB;(repeat' (first|refine qS ?_|refine qB ?_|((first|refine qK ?_|refine qX ?_);simp only[ak,reduceIte])|(refine qR (zZ ?_);simp[])|(refine qC ?_;simp[];(try with_reducible refine⟨?_,?_⟩)<;>(try with_reducible intro hc)<;>try (exfalso;omega))|((first|(refine w_e [] ?_;intro J hJ;simp only[])|(refine w_q ?_;intro J hJ)|refine cP ?_);simp[];(repeat refine ca ?_);(try ((try with_reducible refine⟨?_,?_⟩)<;>(try with_reducible intro Z9)<;>refine hJ _ _ ?_<;>(try clear hJ J)<;>simp only[ak,reduceIte]<;>try subst Z9)))));exact kB):A:=h hJ trivial k
def pY(hJ:Q)(a1:p1)(k:B)(h:Q->p1->cY B->A:=by intro hJ aF kB;(repeat' (first|refine qS ?_|refine qB ?_|((first|refine qK ?_|refine qX ?_);simp only[ak,reduceIte])|(refine qR (zZ ?_);simp[aF])|(refine qC ?_;simp[aF];(try with_reducible refine⟨?_,?_⟩)<;>(try with_reducible intro hc)<;>try (exfalso;omega))|((first|(refine w_e [] ?_;intro J hJ;simp only[])|(refine w_q ?_;intro J hJ)|refine cP ?_);simp[aF];(repeat refine ca ?_);(try ((try with_reducible refine⟨?_,?_⟩)<;>(try with_reducible intro Z9)<;>refine hJ _ _ ?_<;>(try clear hJ J)<;>simp only[ak,reduceIte]<;>try subst Z9)))));exact kB):A:=h hJ a1 k
def B7(a1:p1)(a2:p2)(a3:p3)(a4:p4)(a5:p5)(a6:p6)(a7:p7)(a8:p8)(a9:p9)(a10:p10)(k:B)(h:p1/\p2/\p3/\p4/\p5/\p6/\p7/\p8/\p9/\p10->cY B->A:=by intro aF kB;exact jn aF kB):A:=h ⟨a1,a2,a3,a4,a5,a6,a7,a8,a9,a10⟩ k
def U7(a1:p1)(a2:p2)(a3:p3)(a4:p4)(a5:p5)(a6:p6)(a7:p7)(a8:p8)(a9:p9)(a10:p10)(a11:p11)(k:B)(h:p1/\p2/\p3/\p4/\p5/\p6/\p7/\p8/\p9/\p10/\p11->cY B->A:=by intro aF kB;exact jn aF kB):A:=h ⟨a1,a2,a3,a4,a5,a6,a7,a8,a9,a10,a11⟩ k
def X8(a1:p1)(a2:p2)(a3:p3)(a4:p4)(a5:p5)(a6:p6)(a7:p7)(a8:p8)(a9:p9)(a10:p10)(a11:p11)(a12:p12)(k:B)(h:p1/\p2/\p3/\p4/\p5/\p6/\p7/\p8/\p9/\p10/\p11/\p12->cY B->A:=by intro aF kB;exact jn aF kB):A:=h ⟨a1,a2,a3,a4,a5,a6,a7,a8,a9,a10,a11,a12⟩ k
def V5(a1:p1)(a2:p2)(a3:p3)(a4:p4)(a5:p5)(a6:p6)(a7:p7)(a8:p8)(a9:p9)(a10:p10)(a11:p11)(a12:p12)(a13:p13)(k:B)(h:p1/\p2/\p3/\p4/\p5/\p6/\p7/\p8/\p9/\p10/\p11/\p12/\p13->cY B->A:=by intro aF kB;exact jn aF kB):A:=h ⟨a1,a2,a3,a4,a5,a6,a7,a8,a9,a10,a11,a12,a13⟩ k
def Y8(a1:p1)(a2:p2)(a3:p3)(a4:p4)(a5:p5)(a6:p6)(a7:p7)(a8:p8)(a9:p9)(a10:p10)(a11:p11)(a12:p12)(a13:p13)(a14:p14)(a15:p15)(k:B)(h:p1/\p2/\p3/\p4/\p5/\p6/\p7/\p8/\p9/\p10/\p11/\p12/\p13/\p14/\p15->cY B->A:=by intro aF kB;exact jn aF kB):A:=h ⟨a1,a2,a3,a4,a5,a6,a7,a8,a9,a10,a11,a12,a13,a14,a15⟩ k
def qh(a1:p1)(a2:p2)(k:B)(h:p1/\p2->cY B->A:=by intro aF kB;exact jn aF kB):A:=h ⟨a1,a2⟩ k
def S5(a1:p1)(a2:p2)(a3:p3)(a4:p4)(a5:p5)(a6:p6)(a7:p7)(a8:p8)(a9:p9)(a10:p10)(a11:p11)(a12:p12)(a13:p13)(a14:p14)(a15:p15)(a16:p16)(a17:p17)(a18:p18)(a19:p19)(a20:p20)(k:B)(h:p1/\p2/\p3/\p4/\p5/\p6/\p7/\p8/\p9/\p10/\p11/\p12/\p13/\p14/\p15/\p16/\p17/\p18/\p19/\p20->cY B->A:=by intro aF kB;exact jn aF kB):A:=h ⟨a1,a2,a3,a4,a5,a6,a7,a8,a9,a10,a11,a12,a13,a14,a15,a16,a17,a18,a19,a20⟩ k
def yu(a1:p1)(a2:p2)(a3:p3)(k:B)(h:p1/\p2/\p3->cY B->A:=by intro aF kB;exact jn aF kB):A:=h ⟨a1,a2,a3⟩ k
def rC(a1:p1)(a2:p2)(a3:p3)(a4:p4)(k:B)(h:p1/\p2/\p3/\p4->cY B->A:=by intro aF kB;exact jn aF kB):A:=h ⟨a1,a2,a3,a4⟩ k
def vL(a1:p1)(a2:p2)(a3:p3)(a4:p4)(a5:p5)(k:B)(h:p1/\p2/\p3/\p4/\p5->cY B->A:=by intro aF kB;exact jn aF kB):A:=h ⟨a1,a2,a3,a4,a5⟩ k
def v6(a1:p1)(a2:p2)(a3:p3)(a4:p4)(a5:p5)(a6:p6)(k:B)(h:p1/\p2/\p3/\p4/\p5/\p6->cY B->A:=by intro aF kB;exact jn aF kB):A:=h ⟨a1,a2,a3,a4,a5,a6⟩ k
def Hm(a1:p1)(a2:p2)(a3:p3)(a4:p4)(a5:p5)(a6:p6)(a7:p7)(k:B)(h:p1/\p2/\p3/\p4/\p5/\p6/\p7->cY B->A:=by intro aF kB;exact jn aF kB):A:=h ⟨a1,a2,a3,a4,a5,a6,a7⟩ k
def yv(a1:p1)(a2:p2)(a3:p3)(a4:p4)(a5:p5)(a6:p6)(a7:p7)(a8:p8)(k:B)(h:p1/\p2/\p3/\p4/\p5/\p6/\p7/\p8->cY B->A:=by intro aF kB;exact jn aF kB):A:=h ⟨a1,a2,a3,a4,a5,a6,a7,a8⟩ k
def Hn(a1:p1)(a2:p2)(a3:p3)(a4:p4)(a5:p5)(a6:p6)(a7:p7)(a8:p8)(a9:p9)(k:B)(h:p1/\p2/\p3/\p4/\p5/\p6/\p7/\p8/\p9->cY B->A:=by intro aF kB;exact jn aF kB):A:=h ⟨a1,a2,a3,a4,a5,a6,a7,a8,a9⟩ k
def N0(hJ:Q)(a1:p1)(a2:p2)(a3:p3)(a4:p4)(a5:p5)(a6:p6)(a7:p7)(a8:p8)(a9:p9)(a10:p10)(k:B)(h:Q->p1/\p2/\p3/\p4/\p5/\p6/\p7/\p8/\p9/\p10->cY B->A:=by intro hJ aF kB;exact Ci hJ aF kB):A:=h hJ ⟨a1,a2,a3,a4,a5,a6,a7,a8,a9,a10⟩ k
def G1(hJ:Q)(a1:p1)(a2:p2)(a3:p3)(a4:p4)(a5:p5)(a6:p6)(a7:p7)(a8:p8)(a9:p9)(a10:p10)(a11:p11)(a12:p12)(a13:p13)(a14:p14)(a15:p15)(k:B)(h:Q->p1/\p2/\p3/\p4/\p5/\p6/\p7/\p8/\p9/\p10/\p11/\p12/\p13/\p14/\p15->cY B->A:=by intro hJ aF kB;exact Ci hJ aF kB):A:=h hJ ⟨a1,a2,a3,a4,a5,a6,a7,a8,a9,a10,a11,a12,a13,a14,a15⟩ k
def Hs(hJ:Q)(a1:p1)(a2:p2)(k:B)(h:Q->p1/\p2->cY B->A:=by intro hJ aF kB;exact Ci hJ aF kB):A:=h hJ ⟨a1,a2⟩ k
def V0(hJ:Q)(a1:p1)(a2:p2)(a3:p3)(k:B)(h:Q->p1/\p2/\p3->cY B->A:=by intro hJ aF kB;exact Ci hJ aF kB):A:=h hJ ⟨a1,a2,a3⟩ k
def U9(hJ:Q)(a1:p1)(a2:p2)(a3:p3)(a4:p4)(k:B)(h:Q->p1/\p2/\p3/\p4->cY B->A:=by intro hJ aF kB;exact Ci hJ aF kB):A:=h hJ ⟨a1,a2,a3,a4⟩ k
def N4(hJ:Q)(a1:p1)(a2:p2)(a3:p3)(a4:p4)(a5:p5)(k:B)(h:Q->p1/\p2/\p3/\p4/\p5->cY B->A:=by intro hJ aF kB;exact Ci hJ aF kB):A:=h hJ ⟨a1,a2,a3,a4,a5⟩ k
def Zp(hJ:Q)(a1:p1)(a2:p2)(a3:p3)(a4:p4)(a5:p5)(a6:p6)(a7:p7)(k:B)(h:Q->p1/\p2/\p3/\p4/\p5/\p6/\p7->cY B->A:=by intro hJ aF kB;exact Ci hJ aF kB):A:=h hJ ⟨a1,a2,a3,a4,a5,a6,a7⟩ k
def U2(hJ:Q)(a1:p1)(a2:p2)(a3:p3)(a4:p4)(a5:p5)(a6:p6)(a7:p7)(a8:p8)(k:B)(h:Q->p1/\p2/\p3/\p4/\p5/\p6/\p7/\p8->cY B->A:=by intro hJ aF kB;exact Ci hJ aF kB):A:=h hJ ⟨a1,a2,a3,a4,a5,a6,a7,a8⟩ k
def Hq(a1:p1)(a2:p2)(h:p1/\p2->A:=by intro aF;exact rz aF):A:=h ⟨a1,a2⟩
def yw(a1:p1)(a2:p2)(a3:p3)(h:p1/\p2/\p3->A:=by intro aF;exact rz aF):A:=h ⟨a1,a2,a3⟩
def Ht(a1:p1)(a2:p2)(a3:p3)(a4:p4)(h:p1/\p2/\p3/\p4->A:=by intro aF;exact rz aF):A:=h ⟨a1,a2,a3,a4⟩
def Lb(a1:p1)(a2:p2)(a3:p3)(a4:p4)(a5:p5)(a6:p6)(a7:p7)(h:p1/\p2/\p3/\p4/\p5/\p6/\p7->A:=by intro aF;exact rz aF):A:=h ⟨a1,a2,a3,a4,a5,a6,a7⟩
def Zy(hJ:Q)(a1:p1)(a2:p2)(h:Q->p1/\p2->A:=by intro hJ aF;exact TW hJ aF):A:=h hJ ⟨a1,a2⟩
def V8(hJ:Q)(a1:p1)(a2:p2)(a3:p3)(h:Q->p1/\p2/\p3->A:=by intro hJ aF;exact TW hJ aF):A:=h hJ ⟨a1,a2,a3⟩
def X4(hJ:Q)(a1:p1)(a2:p2)(a3:p3)(a4:p4)(h:Q->p1/\p2/\p3/\p4->A:=by intro hJ aF;exact TW hJ aF):A:=h hJ ⟨a1,a2,a3,a4⟩
def II(a1:p1)(a2:p2)(a3:p3)(a4:p4)(a5:p5)(a6:p6)(a7:p7)(a8:p8)(a9:p9)(a10:p10)(k:B)(h:p1/\p2/\p3/\p4/\p5/\p6/\p7/\p8/\p9/\p10->cY B->A:=by intro aF kB;exact df aF kB):A:=h ⟨a1,a2,a3,a4,a5,a6,a7,a8,a9,a10⟩ k
def Xk(a1:p1)(a2:p2)(a3:p3)(a4:p4)(a5:p5)(a6:p6)(a7:p7)(a8:p8)(a9:p9)(a10:p10)(a11:p11)(k:B)(h:p1/\p2/\p3/\p4/\p5/\p6/\p7/\p8/\p9/\p10/\p11->cY B->A:=by intro aF kB;exact df aF kB):A:=h ⟨a1,a2,a3,a4,a5,a6,a7,a8,a9,a10,a11⟩ k
def I8(a1:p1)(a2:p2)(a3:p3)(a4:p4)(a5:p5)(a6:p6)(a7:p7)(a8:p8)(a9:p9)(a10:p10)(a11:p11)(a12:p12)(a13:p13)(k:B)(h:p1/\p2/\p3/\p4/\p5/\p6/\p7/\p8/\p9/\p10/\p11/\p12/\p13->cY B->A:=by intro aF kB;exact df aF kB):A:=h ⟨a1,a2,a3,a4,a5,a6,a7,a8,a9,a10,a11,a12,a13⟩ k
def F9(a1:p1)(a2:p2)(a3:p3)(a4:p4)(a5:p5)(a6:p6)(a7:p7)(a8:p8)(a9:p9)(a10:p10)(a11:p11)(a12:p12)(a13:p13)(a14:p14)(k:B)(h:p1/\p2/\p3/\p4/\p5/\p6/\p7/\p8/\p9/\p10/\p11/\p12/\p13/\p14->cY B->A:=by intro aF kB;exact df aF kB):A:=h ⟨a1,a2,a3,a4,a5,a6,a7,a8,a9,a10,a11,a12,a13,a14⟩ k
def M0(a1:p1)(a2:p2)(a3:p3)(a4:p4)(a5:p5)(a6:p6)(a7:p7)(a8:p8)(a9:p9)(a10:p10)(a11:p11)(a12:p12)(a13:p13)(a14:p14)(a15:p15)(k:B)(h:p1/\p2/\p3/\p4/\p5/\p6/\p7/\p8/\p9/\p10/\p11/\p12/\p13/\p14/\p15->cY B->A:=by intro aF kB;exact df aF kB):A:=h ⟨a1,a2,a3,a4,a5,a6,a7,a8,a9,a10,a11,a12,a13,a14,a15⟩ k
def Rn(a1:p1)(a2:p2)(a3:p3)(a4:p4)(a5:p5)(a6:p6)(a7:p7)(a8:p8)(a9:p9)(a10:p10)(a11:p11)(a12:p12)(a13:p13)(a14:p14)(a15:p15)(a16:p16)(k:B)(h:p1/\p2/\p3/\p4/\p5/\p6/\p7/\p8/\p9/\p10/\p11/\p12/\p13/\p14/\p15/\p16->cY B->A:=by intro aF kB;exact df aF kB):A:=h ⟨a1,a2,a3,a4,a5,a6,a7,a8,a9,a10,a11,a12,a13,a14,a15,a16⟩ k
def V6(a1:p1)(a2:p2)(a3:p3)(a4:p4)(a5:p5)(a6:p6)(a7:p7)(a8:p8)(a9:p9)(a10:p10)(a11:p11)(a12:p12)(a13:p13)(a14:p14)(a15:p15)(a16:p16)(a17:p17)(k:B)(h:p1/\p2/\p3/\p4/\p5/\p6/\p7/\p8/\p9/\p10/\p11/\p12/\p13/\p14/\p15/\p16/\p17->cY B->A:=by intro aF kB;exact df aF kB):A:=h ⟨a1,a2,a3,a4,a5,a6,a7,a8,a9,a10,a11,a12,a13,a14,a15,a16,a17⟩ k
def G4(a1:p1)(a2:p2)(a3:p3)(a4:p4)(a5:p5)(a6:p6)(a7:p7)(a8:p8)(a9:p9)(a10:p10)(a11:p11)(a12:p12)(a13:p13)(a14:p14)(a15:p15)(a16:p16)(a17:p17)(a18:p18)(k:B)(h:p1/\p2/\p3/\p4/\p5/\p6/\p7/\p8/\p9/\p10/\p11/\p12/\p13/\p14/\p15/\p16/\p17/\p18->cY B->A:=by intro aF kB;exact df aF kB):A:=h ⟨a1,a2,a3,a4,a5,a6,a7,a8,a9,a10,a11,a12,a13,a14,a15,a16,a17,a18⟩ k
def cm(a1:p1)(a2:p2)(k:B)(h:p1/\p2->cY B->A:=by intro aF kB;exact df aF kB):A:=h ⟨a1,a2⟩ k
def V3(a1:p1)(a2:p2)(a3:p3)(a4:p4)(a5:p5)(a6:p6)(a7:p7)(a8:p8)(a9:p9)(a10:p10)(a11:p11)(a12:p12)(a13:p13)(a14:p14)(a15:p15)(a16:p16)(a17:p17)(a18:p18)(a19:p19)(a20:p20)(k:B)(h:p1/\p2/\p3/\p4/\p5/\p6/\p7/\p8/\p9/\p10/\p11/\p12/\p13/\p14/\p15/\p16/\p17/\p18/\p19/\p20->cY B->A:=by intro aF kB;exact df aF kB):A:=h ⟨a1,a2,a3,a4,a5,a6,a7,a8,a9,a10,a11,a12,a13,a14,a15,a16,a17,a18,a19,a20⟩ k
def Y0(a1:p1)(a2:p2)(a3:p3)(a4:p4)(a5:p5)(a6:p6)(a7:p7)(a8:p8)(a9:p9)(a10:p10)(a11:p11)(a12:p12)(a13:p13)(a14:p14)(a15:p15)(a16:p16)(a17:p17)(a18:p18)(a19:p19)(a20:p20)(a21:p21)(k:B)(h:p1/\p2/\p3/\p4/\p5/\p6/\p7/\p8/\p9/\p10/\p11/\p12/\p13/\p14/\p15/\p16/\p17/\p18/\p19/\p20/\p21->cY B->A:=by intro aF kB;exact df aF kB):A:=h ⟨a1,a2,a3,a4,a5,a6,a7,a8,a9,a10,a11,a12,a13,a14,a15,a16,a17,a18,a19,a20,a21⟩ k
def X5{p22 p23 p24:Prop}(a1:p1)(a2:p2)(a3:p3)(a4:p4)(a5:p5)(a6:p6)(a7:p7)(a8:p8)(a9:p9)(a10:p10)(a11:p11)(a12:p12)(a13:p13)(a14:p14)(a15:p15)(a16:p16)(a17:p17)(a18:p18)(a19:p19)(a20:p20)(a21:p21)(a22:p22)(a23:p23)(a24:p24)(k:B)(h:p1/\p2/\p3/\p4/\p5/\p6/\p7/\p8/\p9/\p10/\p11/\p12/\p13/\p14/\p15/\p16/\p17/\p18/\p19/\p20/\p21/\p22/\p23/\p24->cY B->A:=by intro aF kB;exact df aF kB):A:=h ⟨a1,a2,a3,a4,a5,a6,a7,a8,a9,a10,a11,a12,a13,a14,a15,a16,a17,a18,a19,a20,a21,a22,a23,a24⟩ k
def fw(a1:p1)(a2:p2)(a3:p3)(k:B)(h:p1/\p2/\p3->cY B->A:=by intro aF kB;exact df aF kB):A:=h ⟨a1,a2,a3⟩ k
def eI(a1:p1)(a2:p2)(a3:p3)(a4:p4)(k:B)(h:p1/\p2/\p3/\p4->cY B->A:=by intro aF kB;exact df aF kB):A:=h ⟨a1,a2,a3,a4⟩ k
def jl(a1:p1)(a2:p2)(a3:p3)(a4:p4)(a5:p5)(k:B)(h:p1/\p2/\p3/\p4/\p5->cY B->A:=by intro aF kB;exact df aF kB):A:=h ⟨a1,a2,a3,a4,a5⟩ k
def ls(a1:p1)(a2:p2)(a3:p3)(a4:p4)(a5:p5)(a6:p6)(k:B)(h:p1/\p2/\p3/\p4/\p5/\p6->cY B->A:=by intro aF kB;exact df aF kB):A:=h ⟨a1,a2,a3,a4,a5,a6⟩ k
def oh(a1:p1)(a2:p2)(a3:p3)(a4:p4)(a5:p5)(a6:p6)(a7:p7)(k:B)(h:p1/\p2/\p3/\p4/\p5/\p6/\p7->cY B->A:=by intro aF kB;exact df aF kB):A:=h ⟨a1,a2,a3,a4,a5,a6,a7⟩ k
def mf(a1:p1)(a2:p2)(a3:p3)(a4:p4)(a5:p5)(a6:p6)(a7:p7)(a8:p8)(k:B)(h:p1/\p2/\p3/\p4/\p5/\p6/\p7/\p8->cY B->A:=by intro aF kB;exact df aF kB):A:=h ⟨a1,a2,a3,a4,a5,a6,a7,a8⟩ k
def oy(a1:p1)(a2:p2)(a3:p3)(a4:p4)(a5:p5)(a6:p6)(a7:p7)(a8:p8)(a9:p9)(k:B)(h:p1/\p2/\p3/\p4/\p5/\p6/\p7/\p8/\p9->cY B->A:=by intro aF kB;exact df aF kB):A:=h ⟨a1,a2,a3,a4,a5,a6,a7,a8,a9⟩ k
def E5(hJ:Q)(a1:p1)(a2:p2)(a3:p3)(a4:p4)(a5:p5)(a6:p6)(a7:p7)(a8:p8)(a9:p9)(a10:p10)(a11:p11)(a12:p12)(a13:p13)(a14:p14)(a15:p15)(k:B)(h:Q->p1/\p2/\p3/\p4/\p5/\p6/\p7/\p8/\p9/\p10/\p11/\p12/\p13/\p14/\p15->cY B->A:=by intro hJ aF kB;exact pY hJ aF kB):A:=h hJ ⟨a1,a2,a3,a4,a5,a6,a7,a8,a9,a10,a11,a12,a13,a14,a15⟩ k
def J9(hJ:Q)(a1:p1)(a2:p2)(a3:p3)(a4:p4)(a5:p5)(a6:p6)(a7:p7)(a8:p8)(a9:p9)(a10:p10)(a11:p11)(a12:p12)(a13:p13)(a14:p14)(a15:p15)(a16:p16)(k:B)(h:Q->p1/\p2/\p3/\p4/\p5/\p6/\p7/\p8/\p9/\p10/\p11/\p12/\p13/\p14/\p15/\p16->cY B->A:=by intro hJ aF kB;exact pY hJ aF kB):A:=h hJ ⟨a1,a2,a3,a4,a5,a6,a7,a8,a9,a10,a11,a12,a13,a14,a15,a16⟩ k
def oG(hJ:Q)(a1:p1)(a2:p2)(k:B)(h:Q->p1/\p2->cY B->A:=by intro hJ aF kB;exact pY hJ aF kB):A:=h hJ ⟨a1,a2⟩ k
def wT(hJ:Q)(a1:p1)(a2:p2)(a3:p3)(k:B)(h:Q->p1/\p2/\p3->cY B->A:=by intro hJ aF kB;exact pY hJ aF kB):A:=h hJ ⟨a1,a2,a3⟩ k
def Y5(hJ:Q)(a1:p1)(a2:p2)(a3:p3)(a4:p4)(k:B)(h:Q->p1/\p2/\p3/\p4->cY B->A:=by intro hJ aF kB;exact pY hJ aF kB):A:=h hJ ⟨a1,a2,a3,a4⟩ k
def Ya(hJ:Q)(a1:p1)(a2:p2)(a3:p3)(a4:p4)(a5:p5)(k:B)(h:Q->p1/\p2/\p3/\p4/\p5->cY B->A:=by intro hJ aF kB;exact pY hJ aF kB):A:=h hJ ⟨a1,a2,a3,a4,a5⟩ k
def T5(hJ:Q)(a1:p1)(a2:p2)(a3:p3)(a4:p4)(a5:p5)(a6:p6)(a7:p7)(k:B)(h:Q->p1/\p2/\p3/\p4/\p5/\p6/\p7->cY B->A:=by intro hJ aF kB;exact pY hJ aF kB):A:=h hJ ⟨a1,a2,a3,a4,a5,a6,a7⟩ k
def Za(hJ:Q)(a1:p1)(a2:p2)(a3:p3)(a4:p4)(a5:p5)(a6:p6)(a7:p7)(a8:p8)(k:B)(h:Q->p1/\p2/\p3/\p4/\p5/\p6/\p7/\p8->cY B->A:=by intro hJ aF kB;exact pY hJ aF kB):A:=h hJ ⟨a1,a2,a3,a4,a5,a6,a7,a8⟩ k
def Y7(hJ:Q)(a1:p1)(a2:p2)(a3:p3)(a4:p4)(a5:p5)(a6:p6)(a7:p7)(a8:p8)(a9:p9)(k:B)(h:Q->p1/\p2/\p3/\p4/\p5/\p6/\p7/\p8/\p9->cY B->A:=by intro hJ aF kB;exact pY hJ aF kB):A:=h hJ ⟨a1,a2,a3,a4,a5,a6,a7,a8,a9⟩ k
def Z(a0:p0)(h:p0->q:=by intro a;simp[a]):q:=h a0
def ek(a0:p0)(a1:p1)(h:p0/\p1->q:=by intro a;simp[a]):q:=h ⟨a0,a1⟩
def jy(a0:p0)(a1:p1)(a2:p2)(h:p0/\p1/\p2->q:=by intro a;simp[a]):q:=h ⟨a0,a1,a2⟩
def gS(a0:p0)(a1:p1)(a2:p2)(a3:p3)(h:p0/\p1/\p2/\p3->q:=by intro a;simp[a]):q:=h ⟨a0,a1,a2,a3⟩
def qi(a0:p0)(a1:p1)(a2:p2)(a3:p3)(a4:p4)(h:p0/\p1/\p2/\p3/\p4->q:=by intro a;simp[a]):q:=h ⟨a0,a1,a2,a3,a4⟩
def yx(a0:p0)(a1:p1)(a2:p2)(a3:p3)(a4:p4)(a5:p5)(h:p0/\p1/\p2/\p3/\p4/\p5->q:=by intro a;simp[a]):q:=h ⟨a0,a1,a2,a3,a4,a5⟩
section
variable {P:Program} {T:bg} {N:Nat} {ops:Array Oper} {M B:List Nat} {J:ah->St->Prop} {rest:List Oper} {d:Option Nat} {fr:ah} {st j9 s1:St} {f:FuncId} {args args':List LV} {r0:LV} {π:List (Nat×Bool×Oper)} {nd:Bool}
theorem jr(h:aD P f args' st fun r st'=>r=r0/\st'=s1)(hk:cV P T N ops M J rest (bR fr d r0) s1)(ha:args.map norm=args':=by simp):DF P T N ops M J rest d fr st f args:=qE h ha (by rintro r s ⟨rfl,rfl⟩;exact hk)
theorem eL(h:aD P f args' st fun r st'=>r=r0/\st'=s1)(hk:(nd=true->SB B j9 s1)/\fL P T ops M B j9 J π (bR fr d r0) s1)(ha:args.map norm=args':=by simp):Db P T ops M B j9 J π nd d fr st f args:=qD h ha (by rintro r s ⟨rfl,rfl⟩;exact hk)
end
end Aw
end Go.Proofs.YtbgngpdonpeboaaGreatDoor
