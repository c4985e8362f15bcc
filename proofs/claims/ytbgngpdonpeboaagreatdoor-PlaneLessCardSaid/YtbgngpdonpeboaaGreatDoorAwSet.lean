/- Short words for logical values; the rules by which a walk is simplified. -/
import Derived.Test.YtbgngpdonpeboaaGreatDoorAwTab
set_option linter.defProp false
set_option linter.unusedVariables false
set_option linter.unusedSimpArgs false
open Go.Proofs.Tryz
namespace Go.Proofs.YtbgngpdonpeboaaGreatDoor
namespace Aw
open Go Go.RowKit
abbrev u(n:Int):LV:=.atom (.int .u32 n)
abbrev i(n:Int):LV:=.atom (.int .i64 n)
abbrev bb(b:Bool):LV:=.atom (.bool b)
abbrev us(l:AN):List LV:=l.map u
theorem Eb(a:af)(i j:Nat)(v:LV):cY a i v j=if j=i then v else a j:=rfl
theorem cB(a:St)(o:cK)(l:Nat):(a.new o).H l=if l=a.z then o else a.H l:=rfl
def aH(a:St)(o:cK):(a.new o).z=a.z+1:=rfl
theorem bP(a:St)(q:Nat)(o:cK)(l:Nat):(a.set q o).H l=if l=q then o else a.H l:=rfl
def bh{S:St}{o:cK}{l:Nat}(h:¬l=S.z):(S.new o).H l=S.H l:=by rw[cB,ac h]
def bi{S:St}{o:cK}{l:Nat}(h:l=S.z):(S.new o).H l=o:=by rw[cB,ad h]
def bj{S:St}{o:cK}{q l:Nat}(h:¬l=q):(S.set q o).H l=S.H l:=by rw[bP,ac h]
def bk{S:St}{o:cK}{q l:Nat}(h:l=q):(S.set q o).H l=o:=by rw[bP,ad h]
def bm{p:Prop}(h:p:=by(try simp only[bN,aH]);omega):p:=h
def bo{p:Prop}(h:p:=by(try simp only[bN,aH])):p:=h
def bN(a:St)(q:Nat)(o:cK):(a.set q o).z=a.z:=rfl
structure aA(st st':St):Prop where
 z:st.z<=st'.z
 H:∀ l,l<st.z->st'.H l=st.H l
theorem aA.refl(a:St):aA a a:=⟨au _,fun _ _=>rfl⟩
theorem aA.trans{a b c:St}(h:aA a b)(k:aA b c):aA a c:=⟨er h.z k.z,fun l d=>(k.H l (cz d h.z)).trans (h.H l d)⟩
theorem aA.new(st:St)(o:cK):aA st (st.new o):=⟨rj _,fun l a=>by grind [cB]⟩
theorem aA.set{a b:St}(h:aA a b){q:Nat}(d:a.z<=q)(o:cK):aA a (b.set q o):=⟨h.z,fun l c=>by rw[bP,ac oO];exact h.H l c⟩
section
variable {P:Program} {T:az} {N:Nat} {ops:Array Oper} {M B:List Nat} {J:af->St->Prop} {rest:List Oper} {d:Option Nat} {fr:af} {st j8:St} {π:List (Nat×Bool×Oper)} {nd:Bool}
theorem qE{f:FuncId}{args b:List LV}{R:LV->St->Prop}(h:aB P f b st R)(c:args.map norm=b)(e:∀ r a,R r a->cG P T N ops M J rest (bL fr d r) a):Bi P T N ops M J rest d fr st f args:=by
 grind [NN]
theorem qD{f:FuncId}{args b:List LV}{R:LV->St->Prop}(h:aB P f b st R)(c:args.map norm=b)(e:∀ r a,R r a->(nd=true->SB B j8 a)/\eE P T ops M B j8 J π (bL fr d r) a):BP P T ops M B j8 J π nd d fr st f args:=by subst c;exact aO h.of_norm e
end
theorem nK{w:World}{g:G}{x:LV}{post:List LV}:∀(a:List LV) (b:List Value),aC w g (a++x::post) b->∃ v,Rep w g x v/\∀ d y,Ext w g w d->Rep w d y v->aC w d (a++y::post) b
 |[],b,h=>by
  grind [aC,aC.mono]
 |c::a,b,h=>by
  simp only[List.cons_append,aC]at h ⊢;obtain⟨v,e,rfl,j,f⟩:=h;obtain⟨u,k,l⟩:=nK a e f
  grind [Rep.mono]
def fQ{P:Program}{f:FuncId}{pre post:List LV}{st:St}{Q:LV->St->Prop}{l n e s:Nat}{cs:List LV}(y:st.H l=.box e s cs)(z:n*s<=cs.length)(h:aB P f (pre++.sl 0 n (cs.take (n*s))::post) (st.set l .dead) Q):aB P f (pre++.ms l 0 n::post) st Q:=by
 refine⟨h.1,fun w g d t B=>?_⟩;obtain⟨v,E,p⟩:=nK pre d B
 obtain⟨b,C,D,c⟩:=iH (fr:=cY (fun _=>.dead) 0 (.ms l 0 n)) 0 rfl y z { tmps:=#[v],defers:=[] } w g t (by
  intro j;unfold cY;by_cases F:j=0
  .simp_all
  grind [Rep])
 refine(h.2 w b d C (p b _ c (D 0))).mono ?_;rintro x I ⟨v,r,a,o,rfl,A,k,m,q⟩;exact⟨v,r,a,o,rfl,A,k,m,c.trans q⟩
def ak:(∀(P:Program) (N:Nat) (Q:AQ) (e:Exit) (a:af) (b:St),AK P N Q [] e a b=Q e a b)/\
 (∀(P:Program) (N:Nat) (Q:AQ) (k:List gQ) (c:Code) (a:af) (b:St),AK P N Q (.code c::k) .normal a b=bq P N c (AK P N Q k) a b/\(∀ i,AK P N Q (.code c::k) (.exit i) a b=AK P N Q k (.exit i) a b)/\AK P N Q (.code c::k) .ret a b=AK P N Q k .ret a b)/\
 (∀(P:Program) (N:Nat) (Q:AQ) (k:List gQ) (id:Nat) (a:af) (b:St),AK P N Q (.blk id::k) .normal a b=AK P N Q k .normal a b/\AK P N Q (.blk id::k) .ret a b=AK P N Q k .ret a b/\∀ i,AK P N Q (.blk id::k) (.exit i) a b=if i=id then AK P N Q k .normal a b else AK P N Q k (.exit i) a b)/\
 (∀(P:Program) (N:Nat) (Q:AQ) (k:List gQ) (J:af->St->Prop) (a:af) (b:St),AK P N Q (.head J::k) .normal a b=J a b/\(∀ i,AK P N Q (.head J::k) (.exit i) a b=AK P N Q k (.exit i) a b)/\AK P N Q (.head J::k) .ret a b=AK P N Q k .ret a b)/\
 (∀(T:az) (d:List ResultVar) (Q:LV->St->Prop) (a:af) (b:St),Body T d Q .ret a b=yQ T Q a b d/\Body T d Q .normal a b=yQ T Q a b d):=
 ⟨fun _ _ _ _ _ _=>rfl,fun _ _ _ _ _ _ _=>⟨rfl,fun _=>rfl,rfl⟩,fun _ _ _ _ _ _ _=>⟨rfl,rfl,fun _=>rfl⟩,fun _ _ _ _ _ _ _=>⟨rfl,fun _=>rfl,rfl⟩,fun _ _ _ _ _=>⟨rfl,rfl⟩⟩
attribute [simp] KS Yw bB Qo LN Uf Sg tC En tO uP fy YD XI bL Eb aI GI cP Hw VA VZ CM eN PN wQ lN Bj eI As Vj SJ tW zV Tx dW GO Fc pO sF GJ fL lX Vp TV Uw AE Wm zQ FD EF dD rV NC uY tN norm eZ jr jP
attribute [simp] Yt Wb Ti XU G9 G7 d_a F4 G4 d_l YA Wc aL eX mP Nv sH Iw XN VL
attribute [simp] List.take_of_length_le
attribute [simp] sameBox uB ME nV tA BO nilPtr HG Ek isStr JY nI vF uQ vH Tp Cg iL CB Ql
attribute [simp] Yl WR YK Ta Wu
attribute [simp] tF jG GR yD WT Jj lZ GX GM Hr lF RE HS yQ vC CK one
@[simp] theorem Zr(c:LV)(a:List LV):ki (c::a)=c:=rfl
attribute [simp] cB aH bP bN
section
variable {N:Nat} {Q:AQ} {fr:af} {st:St} {id:Nat}
theorem ca{a b:Prop}(hb:b)(ha:a:=by first|omega|assumption|(simp only[maxLen];omega)|decide):a/\b:=⟨ha,hb⟩
theorem w_e{ops:Array Oper}(M:List Nat)(h:∀ J:af->St->Prop,(∀ fr st,Q .normal fr st->J fr st)->cG prog tab N ops M J ops.toList fr st)(hk:cR N ops ops.toList=true:=by exact rfl):bq prog N (.region id ops false) Q fr st:=lS lV M hk h
theorem w_q{l:List Oper}(h:∀ J:af->St->Prop,(∀ fr st,Q .normal fr st->J fr st)->hU tab l.toArray J l fr st)(hm:prog.follows .mixedOrders=true:=by kernel_rfl)(hB:Region.lexB .any l.toArray=true:=by kernel_rfl)(hk:cR N l.toArray l=true:=by exact rfl)(hq:l.all (fun o=>aL o.op)=true:=by exact rfl):bq prog N (.region id l.toArray true) Q fr st:=OR lV hm hB hk hq h
theorem w_s{ops:Array Oper}(M B:List Nat)(π:List (Nat×Bool))(h:∀ J:af->St->Prop,(∀ fr st,Q .normal fr st->J fr st)->eE prog tab ops M B st J (pick ops π) fr st)(hm:prog.follows .mixedOrders=true:=by kernel_rfl)(hk:cR N ops ops.toList=true:=by exact rfl)
 (hπ:(lW ops ((pick ops π).map (·.1)) (Array.replicate ops.size false)&&((pick ops π).length==ops.size)&&(π.all fun p=>!kC ops p.1||p.2))=true:=by kernel_rfl):bq prog N (.region id ops true) Q fr st:=Nh lV M B π hm hk hπ h
end
section
variable {N:Nat} {Q:AQ} {fr:af} {st:St} {id:Nat}
theorem zJ{P R:af->St->Prop}{b:Prop}(h:∀ f s,P f s->R f s)(k:b)(e:b->P fr st:=by simp only[ak,reduceIte];exact fun h=>h):R fr st:=h _ _ (e k)
theorem zE{ops:Array Oper}{b:Prop}(k:b)(e:b->∀ J:af->St->Prop,(∀ fr st,Q .normal fr st->J fr st)->cG prog tab N ops [] J ops.toList fr st:=by intro k J hJ;simp only[];revert J hJ;exact k)(hk:cR N ops ops.toList=true:=by exact rfl):bq prog N (.region id ops false) Q fr st:=w_e [] (e k) hk
theorem zN{f:FuncId}{fn:Func}{c:Code}{args:List LV}{R:LV->St->Prop}(hf:prog.funcs[f]?=some fn)(hN:fn.ntmps=N)(rs:List ResultVar)(h:bq prog N c (AK prog N (Body tab rs R) []) (tN args) st)(hb:fn.body=some c:=by exact rfl)(hn:(fn.name== "runtime.NumGoroutine")=false:=by exact rfl)(hr:fn.results.toList=rs:=by exact rfl)(hl:args.length<=N:=by simp):aB prog f args st R:=qO lV hf hb hn hN hr hl h
def zK(a:Array Oper)(l:List Nat):List (Nat×Bool×Oper):=pick a (l.map fun c=>(c / 2,c % 2==0))
@[simp] theorem Zh(a:Array Oper)(c:Nat)(l:List Nat):zK a (c::l)=match a[c / 2]? with|some o=>(c / 2,c % 2==0,o)::zK a l|none=>zK a l:=by unfold zK;rw[ax,sH];rfl
@[simp] theorem D3(a:Array Oper):zK a []=[]:=rfl
theorem zS{ops:Array Oper}(M B l:List Nat)(h:∀ J:af->St->Prop,(∀ fr st,Q .normal fr st->J fr st)->eE prog tab ops M B st J (zK ops l) fr st)(hm:prog.follows .mixedOrders=true:=by kernel_rfl)(hk:cR N ops ops.toList=true:=by exact rfl)
 (hp:(lW ops ((pick ops (l.map fun c=>(c / 2,c % 2==0))).map (·.1)) (Array.replicate ops.size false)&&((pick ops (l.map fun c=>(c / 2,c % 2==0))).length==ops.size)&&((l.map fun c=>(c / 2,c % 2==0)).all fun p=>!kC ops p.1||p.2))=true:=by kernel_rfl):bq prog N (.region id ops true) Q fr st:=w_s M B (l.map fun c=>(c / 2,c % 2==0)) h hm hk hp
end
def dc(p:Prop):Prop:=p
def eu{A B:Prop}(k:B)(h:True->dc B->A:=by intro _ kB;(repeat' (first|refine qS ?_|refine qB ?_|((first|refine qK ?_|refine qX ?_);simp only[ak,reduceIte])|(refine qR (zZ ?_);simp[])|(refine qC ?_;simp[];(try with_reducible refine⟨?_,?_⟩)<;>(try with_reducible intro hc)<;>try (exfalso;omega))|((first|(refine w_e [] ?_;intro J hJ;simp only[])|(refine w_q ?_;intro J hJ)|refine cL ?_);simp[];(repeat refine ca ?_);(try ((try with_reducible refine⟨?_,?_⟩)<;>(try with_reducible intro y9)<;>refine hJ _ _ ?_<;>(try clear hJ J)<;>simp only[ak,reduceIte]<;>try subst y9)))));revert J;exact kB):A:=h trivial k
def jf{p1 A B:Prop}(a1:p1)(k:B)(h:p1->dc B->A:=by intro aF kB;(repeat' (first|refine qS ?_|refine qB ?_|((first|refine qK ?_|refine qX ?_);simp only[ak,reduceIte])|(refine qR (zZ ?_);simp[aF])|(refine qC ?_;simp[aF];(try with_reducible refine⟨?_,?_⟩)<;>(try with_reducible intro hc)<;>try (exfalso;omega))|((first|(refine w_e [] ?_;intro J hJ;simp only[])|(refine w_q ?_;intro J hJ)|refine cL ?_);simp[aF];(repeat refine ca ?_);(try ((try with_reducible refine⟨?_,?_⟩)<;>(try with_reducible intro y9)<;>refine hJ _ _ ?_<;>(try clear hJ J)<;>simp only[ak,reduceIte]<;>try subst y9)))));revert J;exact kB):A:=h a1 k
def mQ{A Q B:Prop}(hJ:Q)(k:B)(h:Q->True->dc B->A:=by intro hJ _ kB;(repeat' (first|refine qS ?_|refine qB ?_|((first|refine qK ?_|refine qX ?_);simp only[ak,reduceIte])|(refine qR (zZ ?_);simp[])|(refine qC ?_;simp[];(try with_reducible refine⟨?_,?_⟩)<;>(try with_reducible intro hc)<;>try (exfalso;omega))|((first|(refine w_e [] ?_;intro J hJ;simp only[])|(refine w_q ?_;intro J hJ)|refine cL ?_);simp[];(repeat refine ca ?_);(try ((try with_reducible refine⟨?_,?_⟩)<;>(try with_reducible intro y9)<;>refine hJ _ _ ?_<;>(try clear hJ J)<;>simp only[ak,reduceIte]<;>try subst y9)))));revert J;exact kB):A:=h hJ trivial k
def IE{p1 A Q B:Prop}(hJ:Q)(a1:p1)(k:B)(h:Q->p1->dc B->A:=by intro hJ aF kB;(repeat' (first|refine qS ?_|refine qB ?_|((first|refine qK ?_|refine qX ?_);simp only[ak,reduceIte])|(refine qR (zZ ?_);simp[aF])|(refine qC ?_;simp[aF];(try with_reducible refine⟨?_,?_⟩)<;>(try with_reducible intro hc)<;>try (exfalso;omega))|((first|(refine w_e [] ?_;intro J hJ;simp only[])|(refine w_q ?_;intro J hJ)|refine cL ?_);simp[aF];(repeat refine ca ?_);(try ((try with_reducible refine⟨?_,?_⟩)<;>(try with_reducible intro y9)<;>refine hJ _ _ ?_<;>(try clear hJ J)<;>simp only[ak,reduceIte]<;>try subst y9)))));revert J;exact kB):A:=h hJ a1 k
def tt{A:Prop}(h:True->A:=by intro _;(repeat' (first|refine qS ?_|refine qB ?_|((first|refine qK ?_|refine qX ?_);simp only[ak,reduceIte])|(refine qR (zZ ?_);simp[])|(refine qC ?_;simp[];(try with_reducible refine⟨?_,?_⟩)<;>(try with_reducible intro hc)<;>try (exfalso;omega))|((first|(refine w_e [] ?_;intro J hJ;simp only[])|(refine w_q ?_;intro J hJ)|refine cL ?_);simp[];(repeat refine ca ?_);(try ((try with_reducible refine⟨?_,?_⟩)<;>(try with_reducible intro y9)<;>refine hJ _ _ ?_<;>(try clear hJ J)<;>simp only[ak,reduceIte]<;>try subst y9)))))):A:=h trivial
def po{p1 A:Prop}(a1:p1)(h:p1->A:=by intro aF;(repeat' (first|refine qS ?_|refine qB ?_|((first|refine qK ?_|refine qX ?_);simp only[ak,reduceIte])|(refine qR (zZ ?_);simp[aF])|(refine qC ?_;simp[aF];(try with_reducible refine⟨?_,?_⟩)<;>(try with_reducible intro hc)<;>try (exfalso;omega))|((first|(refine w_e [] ?_;intro J hJ;simp only[])|(refine w_q ?_;intro J hJ)|refine cL ?_);simp[aF];(repeat refine ca ?_);(try ((try with_reducible refine⟨?_,?_⟩)<;>(try with_reducible intro y9)<;>refine hJ _ _ ?_<;>(try clear hJ J)<;>simp only[ak,reduceIte]<;>try subst y9)))))):A:=h a1
def UX{A Q:Prop}(hJ:Q)(h:Q->True->A:=by intro hJ _;(repeat' (first|refine qS ?_|refine qB ?_|((first|refine qK ?_|refine qX ?_);simp only[ak,reduceIte])|(refine qR (zZ ?_);simp[])|(refine qC ?_;simp[];(try with_reducible refine⟨?_,?_⟩)<;>(try with_reducible intro hc)<;>try (exfalso;omega))|((first|(refine w_e [] ?_;intro J hJ;simp only[])|(refine w_q ?_;intro J hJ)|refine cL ?_);simp[];(repeat refine ca ?_);(try ((try with_reducible refine⟨?_,?_⟩)<;>(try with_reducible intro y9)<;>refine hJ _ _ ?_<;>(try clear hJ J)<;>simp only[ak,reduceIte]<;>try subst y9)))))):A:=h hJ trivial
def OQ{p1 A Q:Prop}(hJ:Q)(a1:p1)(h:Q->p1->A:=by intro hJ aF;(repeat' (first|refine qS ?_|refine qB ?_|((first|refine qK ?_|refine qX ?_);simp only[ak,reduceIte])|(refine qR (zZ ?_);simp[aF])|(refine qC ?_;simp[aF];(try with_reducible refine⟨?_,?_⟩)<;>(try with_reducible intro hc)<;>try (exfalso;omega))|((first|(refine w_e [] ?_;intro J hJ;simp only[])|(refine w_q ?_;intro J hJ)|refine cL ?_);simp[aF];(repeat refine ca ?_);(try ((try with_reducible refine⟨?_,?_⟩)<;>(try with_reducible intro y9)<;>refine hJ _ _ ?_<;>(try clear hJ J)<;>simp only[ak,reduceIte]<;>try subst y9)))))):A:=h hJ a1
def bz{A B:Prop}(k:B)(h:True->dc B->A:=by intro _ kB;(repeat' (first|refine qS ?_|refine qB ?_|((first|refine qK ?_|refine qX ?_);simp only[ak,reduceIte])|(refine qR (zZ ?_);simp[])|(refine qC ?_;simp[];(try with_reducible refine⟨?_,?_⟩)<;>(try with_reducible intro hc)<;>try (exfalso;omega))|((first|(refine w_e [] ?_;intro J hJ;simp only[])|(refine w_q ?_;intro J hJ)|refine cL ?_);simp[];(repeat refine ca ?_);(try ((try with_reducible refine⟨?_,?_⟩)<;>(try with_reducible intro y9)<;>refine hJ _ _ ?_<;>(try clear hJ J)<;>simp only[ak,reduceIte]<;>try subst y9)))));exact kB):A:=h trivial k
def dd{p1 A B:Prop}(a1:p1)(k:B)(h:p1->dc B->A:=by intro aF kB;(repeat' (first|refine qS ?_|refine qB ?_|((first|refine qK ?_|refine qX ?_);simp only[ak,reduceIte])|(refine qR (zZ ?_);simp[aF])|(refine qC ?_;simp[aF];(try with_reducible refine⟨?_,?_⟩)<;>(try with_reducible intro hc)<;>try (exfalso;omega))|((first|(refine w_e [] ?_;intro J hJ;simp only[])|(refine w_q ?_;intro J hJ)|refine cL ?_);simp[aF];(repeat refine ca ?_);(try ((try with_reducible refine⟨?_,?_⟩)<;>(try with_reducible intro y9)<;>refine hJ _ _ ?_<;>(try clear hJ J)<;>simp only[ak,reduceIte]<;>try subst y9)))));exact kB):A:=h a1 k
def dB{A Q B:Prop}(hJ:Q)(k:B)(h:Q->True->dc B->A:=by intro hJ _ kB;(repeat' (first|refine qS ?_|refine qB ?_|((first|refine qK ?_|refine qX ?_);simp only[ak,reduceIte])|(refine qR (zZ ?_);simp[])|(refine qC ?_;simp[];(try with_reducible refine⟨?_,?_⟩)<;>(try with_reducible intro hc)<;>try (exfalso;omega))|((first|(refine w_e [] ?_;intro J hJ;simp only[])|(refine w_q ?_;intro J hJ)|refine cL ?_);simp[];(repeat refine ca ?_);(try ((try with_reducible refine⟨?_,?_⟩)<;>(try with_reducible intro y9)<;>refine hJ _ _ ?_<;>(try clear hJ J)<;>simp only[ak,reduceIte]<;>try subst y9)))));exact kB):A:=h hJ trivial k
def pH{p1 A Q B:Prop}(hJ:Q)(a1:p1)(k:B)(h:Q->p1->dc B->A:=by intro hJ aF kB;(repeat' (first|refine qS ?_|refine qB ?_|((first|refine qK ?_|refine qX ?_);simp only[ak,reduceIte])|(refine qR (zZ ?_);simp[aF])|(refine qC ?_;simp[aF];(try with_reducible refine⟨?_,?_⟩)<;>(try with_reducible intro hc)<;>try (exfalso;omega))|((first|(refine w_e [] ?_;intro J hJ;simp only[])|(refine w_q ?_;intro J hJ)|refine cL ?_);simp[aF];(repeat refine ca ?_);(try ((try with_reducible refine⟨?_,?_⟩)<;>(try with_reducible intro y9)<;>refine hJ _ _ ?_<;>(try clear hJ J)<;>simp only[ak,reduceIte]<;>try subst y9)))));exact kB):A:=h hJ a1 k
def Wt{p1 p2 p3 p4 p5 p6 p7 p8 p9 O1 A B:Prop}(a1:p1)(a2:p2)(a3:p3)(a4:p4)(a5:p5)(a6:p6)(a7:p7)(a8:p8)(a9:p9)(V9:O1)(k:B)(h:p1/\p2/\p3/\p4/\p5/\p6/\p7/\p8/\p9/\O1->dc B->A:=by intro aF kB;exact jf aF kB):A:=h ⟨a1,a2,a3,a4,a5,a6,a7,a8,a9,V9⟩ k
def H9{p1 p2 p3 p4 p5 p6 p7 p8 p9 O1 Q7 S5 A B:Prop}(a1:p1)(a2:p2)(a3:p3)(a4:p4)(a5:p5)(a6:p6)(a7:p7)(a8:p8)(a9:p9)(V9:O1)(Y6:Q7)(a12:S5)(k:B)(h:p1/\p2/\p3/\p4/\p5/\p6/\p7/\p8/\p9/\O1/\Q7/\S5->dc B->A:=by intro aF kB;exact jf aF kB):A:=h ⟨a1,a2,a3,a4,a5,a6,a7,a8,a9,V9,Y6,a12⟩ k
def A7{p1 p2 p3 p4 p5 p6 p7 p8 p9 O1 Q7 S5 U3 A B:Prop}(a1:p1)(a2:p2)(a3:p3)(a4:p4)(a5:p5)(a6:p6)(a7:p7)(a8:p8)(a9:p9)(V9:O1)(Y6:Q7)(a12:S5)(a13:U3)(k:B)(h:p1/\p2/\p3/\p4/\p5/\p6/\p7/\p8/\p9/\O1/\Q7/\S5/\U3->dc B->A:=by intro aF kB;exact jf aF kB):A:=h ⟨a1,a2,a3,a4,a5,a6,a7,a8,a9,V9,Y6,a12,a13⟩ k
def G8{p1 p2 p3 p4 p5 p6 p7 p8 p9 O1 Q7 S5 U3 X6 Z5 A B:Prop}(a1:p1)(a2:p2)(a3:p3)(a4:p4)(a5:p5)(a6:p6)(a7:p7)(a8:p8)(a9:p9)(V9:O1)(Y6:Q7)(a12:S5)(a13:U3)(a14:X6)(a15:Z5)(k:B)(h:p1/\p2/\p3/\p4/\p5/\p6/\p7/\p8/\p9/\O1/\Q7/\S5/\U3/\X6/\Z5->dc B->A:=by intro aF kB;exact jf aF kB):A:=h ⟨a1,a2,a3,a4,a5,a6,a7,a8,a9,V9,Y6,a12,a13,a14,a15⟩ k
def oj{p1 p2 A B:Prop}(a1:p1)(a2:p2)(k:B)(h:p1/\p2->dc B->A:=by intro aF kB;exact jf aF kB):A:=h ⟨a1,a2⟩ k
def C3{p1 p2 p3 p4 p5 p6 p7 p8 p9 O1 Q7 S5 U3 X6 Z5 p16 p17 p18 p19 p20 A B:Prop}(a1:p1)(a2:p2)(a3:p3)(a4:p4)(a5:p5)(a6:p6)(a7:p7)(a8:p8)(a9:p9)(V9:O1)(Y6:Q7)(a12:S5)(a13:U3)(a14:X6)(a15:Z5)(a16:p16)(a17:p17)(a18:p18)(a19:p19)(a20:p20)(k:B)(h:p1/\p2/\p3/\p4/\p5/\p6/\p7/\p8/\p9/\O1/\Q7/\S5/\U3/\X6/\Z5/\p16/\p17/\p18/\p19/\p20->dc B->A:=by intro aF kB;exact jf aF kB):A:=h ⟨a1,a2,a3,a4,a5,a6,a7,a8,a9,V9,Y6,a12,a13,a14,a15,a16,a17,a18,a19,a20⟩ k
def ol{p1 p2 p3 A B:Prop}(a1:p1)(a2:p2)(a3:p3)(k:B)(h:p1/\p2/\p3->dc B->A:=by intro aF kB;exact jf aF kB):A:=h ⟨a1,a2,a3⟩ k
def pq{p1 p2 p3 p4 A B:Prop}(a1:p1)(a2:p2)(a3:p3)(a4:p4)(k:B)(h:p1/\p2/\p3/\p4->dc B->A:=by intro aF kB;exact jf aF kB):A:=h ⟨a1,a2,a3,a4⟩ k
def tv{p1 p2 p3 p4 p5 A B:Prop}(a1:p1)(a2:p2)(a3:p3)(a4:p4)(a5:p5)(k:B)(h:p1/\p2/\p3/\p4/\p5->dc B->A:=by intro aF kB;exact jf aF kB):A:=h ⟨a1,a2,a3,a4,a5⟩ k
def ua{p1 p2 p3 p4 p5 p6 A B:Prop}(a1:p1)(a2:p2)(a3:p3)(a4:p4)(a5:p5)(a6:p6)(k:B)(h:p1/\p2/\p3/\p4/\p5/\p6->dc B->A:=by intro aF kB;exact jf aF kB):A:=h ⟨a1,a2,a3,a4,a5,a6⟩ k
def yx{p1 p2 p3 p4 p5 p6 p7 A B:Prop}(a1:p1)(a2:p2)(a3:p3)(a4:p4)(a5:p5)(a6:p6)(a7:p7)(k:B)(h:p1/\p2/\p3/\p4/\p5/\p6/\p7->dc B->A:=by intro aF kB;exact jf aF kB):A:=h ⟨a1,a2,a3,a4,a5,a6,a7⟩ k
def wq{p1 p2 p3 p4 p5 p6 p7 p8 A B:Prop}(a1:p1)(a2:p2)(a3:p3)(a4:p4)(a5:p5)(a6:p6)(a7:p7)(a8:p8)(k:B)(h:p1/\p2/\p3/\p4/\p5/\p6/\p7/\p8->dc B->A:=by intro aF kB;exact jf aF kB):A:=h ⟨a1,a2,a3,a4,a5,a6,a7,a8⟩ k
def yy{p1 p2 p3 p4 p5 p6 p7 p8 p9 A B:Prop}(a1:p1)(a2:p2)(a3:p3)(a4:p4)(a5:p5)(a6:p6)(a7:p7)(a8:p8)(a9:p9)(k:B)(h:p1/\p2/\p3/\p4/\p5/\p6/\p7/\p8/\p9->dc B->A:=by intro aF kB;exact jf aF kB):A:=h ⟨a1,a2,a3,a4,a5,a6,a7,a8,a9⟩ k
def Yr{p1 p2 p3 p4 p5 p6 p7 p8 p9 O1 Q7 S5 U3 X6 Z5 A Q B:Prop}(hJ:Q)(a1:p1)(a2:p2)(a3:p3)(a4:p4)(a5:p5)(a6:p6)(a7:p7)(a8:p8)(a9:p9)(V9:O1)(Y6:Q7)(a12:S5)(a13:U3)(a14:X6)(a15:Z5)(k:B)(h:Q->p1/\p2/\p3/\p4/\p5/\p6/\p7/\p8/\p9/\O1/\Q7/\S5/\U3/\X6/\Z5->dc B->A:=by intro hJ aF kB;exact IE hJ aF kB):A:=h hJ ⟨a1,a2,a3,a4,a5,a6,a7,a8,a9,V9,Y6,a12,a13,a14,a15⟩ k
def OY{p1 p2 A Q B:Prop}(hJ:Q)(a1:p1)(a2:p2)(k:B)(h:Q->p1/\p2->dc B->A:=by intro hJ aF kB;exact IE hJ aF kB):A:=h hJ ⟨a1,a2⟩ k
def E0{p1 p2 p3 A Q B:Prop}(hJ:Q)(a1:p1)(a2:p2)(a3:p3)(k:B)(h:Q->p1/\p2/\p3->dc B->A:=by intro hJ aF kB;exact IE hJ aF kB):A:=h hJ ⟨a1,a2,a3⟩ k
def YP{p1 p2 p3 p4 p5 A Q B:Prop}(hJ:Q)(a1:p1)(a2:p2)(a3:p3)(a4:p4)(a5:p5)(k:B)(h:Q->p1/\p2/\p3/\p4/\p5->dc B->A:=by intro hJ aF kB;exact IE hJ aF kB):A:=h hJ ⟨a1,a2,a3,a4,a5⟩ k
def B9{p1 p2 p3 p4 p5 p6 p7 A Q B:Prop}(hJ:Q)(a1:p1)(a2:p2)(a3:p3)(a4:p4)(a5:p5)(a6:p6)(a7:p7)(k:B)(h:Q->p1/\p2/\p3/\p4/\p5/\p6/\p7->dc B->A:=by intro hJ aF kB;exact IE hJ aF kB):A:=h hJ ⟨a1,a2,a3,a4,a5,a6,a7⟩ k
def E9{p1 p2 p3 p4 p5 p6 p7 p8 A Q B:Prop}(hJ:Q)(a1:p1)(a2:p2)(a3:p3)(a4:p4)(a5:p5)(a6:p6)(a7:p7)(a8:p8)(k:B)(h:Q->p1/\p2/\p3/\p4/\p5/\p6/\p7/\p8->dc B->A:=by intro hJ aF kB;exact IE hJ aF kB):A:=h hJ ⟨a1,a2,a3,a4,a5,a6,a7,a8⟩ k
def ub{p1 p2 A:Prop}(a1:p1)(a2:p2)(h:p1/\p2->A:=by intro aF;exact po aF):A:=h ⟨a1,a2⟩
def wu{p1 p2 p3 A:Prop}(a1:p1)(a2:p2)(a3:p3)(h:p1/\p2/\p3->A:=by intro aF;exact po aF):A:=h ⟨a1,a2,a3⟩
def yz{p1 p2 p3 p4 A:Prop}(a1:p1)(a2:p2)(a3:p3)(a4:p4)(h:p1/\p2/\p3/\p4->A:=by intro aF;exact po aF):A:=h ⟨a1,a2,a3,a4⟩
def zo{p1 p2 p3 p4 p5 p6 p7 A:Prop}(a1:p1)(a2:p2)(a3:p3)(a4:p4)(a5:p5)(a6:p6)(a7:p7)(h:p1/\p2/\p3/\p4/\p5/\p6/\p7->A:=by intro aF;exact po aF):A:=h ⟨a1,a2,a3,a4,a5,a6,a7⟩
def Wj{p1 p2 A Q:Prop}(hJ:Q)(a1:p1)(a2:p2)(h:Q->p1/\p2->A:=by intro hJ aF;exact OQ hJ aF):A:=h hJ ⟨a1,a2⟩
def Zz{p1 p2 p3 A Q:Prop}(hJ:Q)(a1:p1)(a2:p2)(a3:p3)(h:Q->p1/\p2/\p3->A:=by intro hJ aF;exact OQ hJ aF):A:=h hJ ⟨a1,a2,a3⟩
def F9{p1 p2 p3 p4 A Q:Prop}(hJ:Q)(a1:p1)(a2:p2)(a3:p3)(a4:p4)(h:Q->p1/\p2/\p3/\p4->A:=by intro hJ aF;exact OQ hJ aF):A:=h hJ ⟨a1,a2,a3,a4⟩
def H8{p1 p2 p3 p4 p5 p6 A Q:Prop}(hJ:Q)(a1:p1)(a2:p2)(a3:p3)(a4:p4)(a5:p5)(a6:p6)(h:Q->p1/\p2/\p3/\p4/\p5/\p6->A:=by intro hJ aF;exact OQ hJ aF):A:=h hJ ⟨a1,a2,a3,a4,a5,a6⟩
def Gx{p1 p2 p3 p4 p5 p6 p7 p8 p9 O1 A B:Prop}(a1:p1)(a2:p2)(a3:p3)(a4:p4)(a5:p5)(a6:p6)(a7:p7)(a8:p8)(a9:p9)(V9:O1)(k:B)(h:p1/\p2/\p3/\p4/\p5/\p6/\p7/\p8/\p9/\O1->dc B->A:=by intro aF kB;exact dd aF kB):A:=h ⟨a1,a2,a3,a4,a5,a6,a7,a8,a9,V9⟩ k
def Wo{p1 p2 p3 p4 p5 p6 p7 p8 p9 O1 Q7 A B:Prop}(a1:p1)(a2:p2)(a3:p3)(a4:p4)(a5:p5)(a6:p6)(a7:p7)(a8:p8)(a9:p9)(V9:O1)(Y6:Q7)(k:B)(h:p1/\p2/\p3/\p4/\p5/\p6/\p7/\p8/\p9/\O1/\Q7->dc B->A:=by intro aF kB;exact dd aF kB):A:=h ⟨a1,a2,a3,a4,a5,a6,a7,a8,a9,V9,Y6⟩ k
def E5{p1 p2 p3 p4 p5 p6 p7 p8 p9 O1 Q7 S5 U3 A B:Prop}(a1:p1)(a2:p2)(a3:p3)(a4:p4)(a5:p5)(a6:p6)(a7:p7)(a8:p8)(a9:p9)(V9:O1)(Y6:Q7)(a12:S5)(a13:U3)(k:B)(h:p1/\p2/\p3/\p4/\p5/\p6/\p7/\p8/\p9/\O1/\Q7/\S5/\U3->dc B->A:=by intro aF kB;exact dd aF kB):A:=h ⟨a1,a2,a3,a4,a5,a6,a7,a8,a9,V9,Y6,a12,a13⟩ k
def Ya{p1 p2 p3 p4 p5 p6 p7 p8 p9 O1 Q7 S5 U3 X6 A B:Prop}(a1:p1)(a2:p2)(a3:p3)(a4:p4)(a5:p5)(a6:p6)(a7:p7)(a8:p8)(a9:p9)(V9:O1)(Y6:Q7)(a12:S5)(a13:U3)(a14:X6)(k:B)(h:p1/\p2/\p3/\p4/\p5/\p6/\p7/\p8/\p9/\O1/\Q7/\S5/\U3/\X6->dc B->A:=by intro aF kB;exact dd aF kB):A:=h ⟨a1,a2,a3,a4,a5,a6,a7,a8,a9,V9,Y6,a12,a13,a14⟩ k
def B3{p1 p2 p3 p4 p5 p6 p7 p8 p9 O1 Q7 S5 U3 X6 Z5 A B:Prop}(a1:p1)(a2:p2)(a3:p3)(a4:p4)(a5:p5)(a6:p6)(a7:p7)(a8:p8)(a9:p9)(V9:O1)(Y6:Q7)(a12:S5)(a13:U3)(a14:X6)(a15:Z5)(k:B)(h:p1/\p2/\p3/\p4/\p5/\p6/\p7/\p8/\p9/\O1/\Q7/\S5/\U3/\X6/\Z5->dc B->A:=by intro aF kB;exact dd aF kB):A:=h ⟨a1,a2,a3,a4,a5,a6,a7,a8,a9,V9,Y6,a12,a13,a14,a15⟩ k
def Pk{p1 p2 p3 p4 p5 p6 p7 p8 p9 O1 Q7 S5 U3 X6 Z5 p16 A B:Prop}(a1:p1)(a2:p2)(a3:p3)(a4:p4)(a5:p5)(a6:p6)(a7:p7)(a8:p8)(a9:p9)(V9:O1)(Y6:Q7)(a12:S5)(a13:U3)(a14:X6)(a15:Z5)(a16:p16)(k:B)(h:p1/\p2/\p3/\p4/\p5/\p6/\p7/\p8/\p9/\O1/\Q7/\S5/\U3/\X6/\Z5/\p16->dc B->A:=by intro aF kB;exact dd aF kB):A:=h ⟨a1,a2,a3,a4,a5,a6,a7,a8,a9,V9,Y6,a12,a13,a14,a15,a16⟩ k
def C8{p1 p2 p3 p4 p5 p6 p7 p8 p9 O1 Q7 S5 U3 X6 Z5 p16 p17 A B:Prop}(a1:p1)(a2:p2)(a3:p3)(a4:p4)(a5:p5)(a6:p6)(a7:p7)(a8:p8)(a9:p9)(V9:O1)(Y6:Q7)(a12:S5)(a13:U3)(a14:X6)(a15:Z5)(a16:p16)(a17:p17)(k:B)(h:p1/\p2/\p3/\p4/\p5/\p6/\p7/\p8/\p9/\O1/\Q7/\S5/\U3/\X6/\Z5/\p16/\p17->dc B->A:=by intro aF kB;exact dd aF kB):A:=h ⟨a1,a2,a3,a4,a5,a6,a7,a8,a9,V9,Y6,a12,a13,a14,a15,a16,a17⟩ k
def ZP{p1 p2 p3 p4 p5 p6 p7 p8 p9 O1 Q7 S5 U3 X6 Z5 p16 p17 p18 A B:Prop}(a1:p1)(a2:p2)(a3:p3)(a4:p4)(a5:p5)(a6:p6)(a7:p7)(a8:p8)(a9:p9)(V9:O1)(Y6:Q7)(a12:S5)(a13:U3)(a14:X6)(a15:Z5)(a16:p16)(a17:p17)(a18:p18)(k:B)(h:p1/\p2/\p3/\p4/\p5/\p6/\p7/\p8/\p9/\O1/\Q7/\S5/\U3/\X6/\Z5/\p16/\p17/\p18->dc B->A:=by intro aF kB;exact dd aF kB):A:=h ⟨a1,a2,a3,a4,a5,a6,a7,a8,a9,V9,Y6,a12,a13,a14,a15,a16,a17,a18⟩ k
def cy{p1 p2 A B:Prop}(a1:p1)(a2:p2)(k:B)(h:p1/\p2->dc B->A:=by intro aF kB;exact dd aF kB):A:=h ⟨a1,a2⟩ k
def B4{p1 p2 p3 p4 p5 p6 p7 p8 p9 O1 Q7 S5 U3 X6 Z5 p16 p17 p18 p19 p20 A B:Prop}(a1:p1)(a2:p2)(a3:p3)(a4:p4)(a5:p5)(a6:p6)(a7:p7)(a8:p8)(a9:p9)(V9:O1)(Y6:Q7)(a12:S5)(a13:U3)(a14:X6)(a15:Z5)(a16:p16)(a17:p17)(a18:p18)(a19:p19)(a20:p20)(k:B)(h:p1/\p2/\p3/\p4/\p5/\p6/\p7/\p8/\p9/\O1/\Q7/\S5/\U3/\X6/\Z5/\p16/\p17/\p18/\p19/\p20->dc B->A:=by intro aF kB;exact dd aF kB):A:=h ⟨a1,a2,a3,a4,a5,a6,a7,a8,a9,V9,Y6,a12,a13,a14,a15,a16,a17,a18,a19,a20⟩ k
def D5{p1 p2 p3 p4 p5 p6 p7 p8 p9 O1 Q7 S5 U3 X6 Z5 p16 p17 p18 p19 p20 p21 A B:Prop}(a1:p1)(a2:p2)(a3:p3)(a4:p4)(a5:p5)(a6:p6)(a7:p7)(a8:p8)(a9:p9)(V9:O1)(Y6:Q7)(a12:S5)(a13:U3)(a14:X6)(a15:Z5)(a16:p16)(a17:p17)(a18:p18)(a19:p19)(a20:p20)(a21:p21)(k:B)(h:p1/\p2/\p3/\p4/\p5/\p6/\p7/\p8/\p9/\O1/\Q7/\S5/\U3/\X6/\Z5/\p16/\p17/\p18/\p19/\p20/\p21->dc B->A:=by intro aF kB;exact dd aF kB):A:=h ⟨a1,a2,a3,a4,a5,a6,a7,a8,a9,V9,Y6,a12,a13,a14,a15,a16,a17,a18,a19,a20,a21⟩ k
def fk{p1 p2 p3 A B:Prop}(a1:p1)(a2:p2)(a3:p3)(k:B)(h:p1/\p2/\p3->dc B->A:=by intro aF kB;exact dd aF kB):A:=h ⟨a1,a2,a3⟩ k
def ef{p1 p2 p3 p4 A B:Prop}(a1:p1)(a2:p2)(a3:p3)(a4:p4)(k:B)(h:p1/\p2/\p3/\p4->dc B->A:=by intro aF kB;exact dd aF kB):A:=h ⟨a1,a2,a3,a4⟩ k
def jg{p1 p2 p3 p4 p5 A B:Prop}(a1:p1)(a2:p2)(a3:p3)(a4:p4)(a5:p5)(k:B)(h:p1/\p2/\p3/\p4/\p5->dc B->A:=by intro aF kB;exact dd aF kB):A:=h ⟨a1,a2,a3,a4,a5⟩ k
def kj{p1 p2 p3 p4 p5 p6 A B:Prop}(a1:p1)(a2:p2)(a3:p3)(a4:p4)(a5:p5)(a6:p6)(k:B)(h:p1/\p2/\p3/\p4/\p5/\p6->dc B->A:=by intro aF kB;exact dd aF kB):A:=h ⟨a1,a2,a3,a4,a5,a6⟩ k
def mu{p1 p2 p3 p4 p5 p6 p7 A B:Prop}(a1:p1)(a2:p2)(a3:p3)(a4:p4)(a5:p5)(a6:p6)(a7:p7)(k:B)(h:p1/\p2/\p3/\p4/\p5/\p6/\p7->dc B->A:=by intro aF kB;exact dd aF kB):A:=h ⟨a1,a2,a3,a4,a5,a6,a7⟩ k
def kk{p1 p2 p3 p4 p5 p6 p7 p8 A B:Prop}(a1:p1)(a2:p2)(a3:p3)(a4:p4)(a5:p5)(a6:p6)(a7:p7)(a8:p8)(k:B)(h:p1/\p2/\p3/\p4/\p5/\p6/\p7/\p8->dc B->A:=by intro aF kB;exact dd aF kB):A:=h ⟨a1,a2,a3,a4,a5,a6,a7,a8⟩ k
def lz{p1 p2 p3 p4 p5 p6 p7 p8 p9 A B:Prop}(a1:p1)(a2:p2)(a3:p3)(a4:p4)(a5:p5)(a6:p6)(a7:p7)(a8:p8)(a9:p9)(k:B)(h:p1/\p2/\p3/\p4/\p5/\p6/\p7/\p8/\p9->dc B->A:=by intro aF kB;exact dd aF kB):A:=h ⟨a1,a2,a3,a4,a5,a6,a7,a8,a9⟩ k
def vY{p1 p2 A Q B:Prop}(hJ:Q)(a1:p1)(a2:p2)(k:B)(h:Q->p1/\p2->dc B->A:=by intro hJ aF kB;exact pH hJ aF kB):A:=h hJ ⟨a1,a2⟩ k
def sW{p1 p2 p3 A Q B:Prop}(hJ:Q)(a1:p1)(a2:p2)(a3:p3)(k:B)(h:Q->p1/\p2/\p3->dc B->A:=by intro hJ aF kB;exact pH hJ aF kB):A:=h hJ ⟨a1,a2,a3⟩ k
def A4{p1 p2 p3 p4 A Q B:Prop}(hJ:Q)(a1:p1)(a2:p2)(a3:p3)(a4:p4)(k:B)(h:Q->p1/\p2/\p3/\p4->dc B->A:=by intro hJ aF kB;exact pH hJ aF kB):A:=h hJ ⟨a1,a2,a3,a4⟩ k
def YF{p1 p2 p3 p4 p5 A Q B:Prop}(hJ:Q)(a1:p1)(a2:p2)(a3:p3)(a4:p4)(a5:p5)(k:B)(h:Q->p1/\p2/\p3/\p4/\p5->dc B->A:=by intro hJ aF kB;exact pH hJ aF kB):A:=h hJ ⟨a1,a2,a3,a4,a5⟩ k
def C1{p1 p2 p3 p4 p5 p6 A Q B:Prop}(hJ:Q)(a1:p1)(a2:p2)(a3:p3)(a4:p4)(a5:p5)(a6:p6)(k:B)(h:Q->p1/\p2/\p3/\p4/\p5/\p6->dc B->A:=by intro hJ aF kB;exact pH hJ aF kB):A:=h hJ ⟨a1,a2,a3,a4,a5,a6⟩ k
def Wq{p1 p2 p3 p4 p5 p6 p7 p8 A Q B:Prop}(hJ:Q)(a1:p1)(a2:p2)(a3:p3)(a4:p4)(a5:p5)(a6:p6)(a7:p7)(a8:p8)(k:B)(h:Q->p1/\p2/\p3/\p4/\p5/\p6/\p7/\p8->dc B->A:=by intro hJ aF kB;exact pH hJ aF kB):A:=h hJ ⟨a1,a2,a3,a4,a5,a6,a7,a8⟩ k
def aa{p0 q:Prop}(a0:p0)(h:p0->q:=by intro a;simp[a]):q:=h a0
def dg{p0 p1 q:Prop}(a0:p0)(a1:p1)(h:p0/\p1->q:=by intro a;simp[a]):q:=h ⟨a0,a1⟩
def gv{p0 p1 p2 q:Prop}(a0:p0)(a1:p1)(a2:p2)(h:p0/\p1/\p2->q:=by intro a;simp[a]):q:=h ⟨a0,a1,a2⟩
def gq{p0 p1 p2 p3 q:Prop}(a0:p0)(a1:p1)(a2:p2)(a3:p3)(h:p0/\p1/\p2/\p3->q:=by intro a;simp[a]):q:=h ⟨a0,a1,a2,a3⟩
def la{p0 p1 p2 p3 p4 q:Prop}(a0:p0)(a1:p1)(a2:p2)(a3:p3)(a4:p4)(h:p0/\p1/\p2/\p3/\p4->q:=by intro a;simp[a]):q:=h ⟨a0,a1,a2,a3,a4⟩
def ww{p0 p1 p2 p3 p4 p5 q:Prop}(a0:p0)(a1:p1)(a2:p2)(a3:p3)(a4:p4)(a5:p5)(h:p0/\p1/\p2/\p3/\p4/\p5->q:=by intro a;simp[a]):q:=h ⟨a0,a1,a2,a3,a4,a5⟩
section
variable {P:Program} {T:az} {N:Nat} {ops:Array Oper} {M B:List Nat} {J:af->St->Prop} {rest:List Oper} {d:Option Nat} {fr:af} {st j8 s1:St} {f:FuncId} {args Q3:List LV} {r0:LV} {π:List (Nat×Bool×Oper)} {nd:Bool}
theorem jh(h:aB P f Q3 st fun r st'=>r=r0/\st'=s1)(hk:cG P T N ops M J rest (bL fr d r0) s1)(ha:args.map norm=Q3:=by simp):Bi P T N ops M J rest d fr st f args:=qE h ha (by rintro r s ⟨rfl,rfl⟩;exact hk)
theorem fI(h:aB P f Q3 st fun r st'=>r=r0/\st'=s1)(hk:(nd=true->SB B j8 s1)/\eE P T ops M B j8 J π (bL fr d r0) s1)(ha:args.map norm=Q3:=by simp):BP P T ops M B j8 J π nd d fr st f args:=qD h ha (by rintro r s ⟨rfl,rfl⟩;exact hk)
end
end Aw
end Go.Proofs.YtbgngpdonpeboaaGreatDoor
