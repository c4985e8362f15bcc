/- Short words for logical values; the rules by which a walk is simplified. -/
import Derived.Test.YtempldclppogmaaGreatDoorAwTab
set_option linter.unusedVariables false
set_option linter.unusedSimpArgs false
open Go.Proofs.Tryz
namespace Go.Proofs.YtempldclppogmaaGreatDoor
namespace Aw
open Go Go.RowKit
abbrev u(n:Int):LV:=.atom (.int .u32 n)
abbrev i(n:Int):LV:=.atom (.int .i64 n)
abbrev bb(b:Bool):LV:=.atom (.bool b)
abbrev us(l:List Int):List LV:=l.map u
theorem xG(fr:Frm)(i j:Nat)(v:LV):upd fr i v j=if j=i then v else fr j:=rfl
theorem bX(st:St)(o:cI)(l:Nat):(st.new o).H l=if l=st.next then o else st.H l:=rfl
theorem aJ(st:St)(o:cI):(st.new o).next=st.next+1:=rfl
theorem bF(st:St)(q:Nat)(o:cI)(l:Nat):(st.set q o).H l=if l=q then o else st.H l:=rfl
theorem nHh{S:St}{o:cI}{l:Nat}(h:¬l=S.next):(S.new o).H l=S.H l:=by rw[bX,aAa h]
theorem nIi{S:St}{o:cI}{l:Nat}(h:l=S.next):(S.new o).H l=o:=by rw[bX,aAe h]
theorem sHh{S:St}{o:cI}{q l:Nat}(h:¬l=q):(S.set q o).H l=S.H l:=by rw[bF,aAa h]
theorem sIi{S:St}{o:cI}{q l:Nat}(h:l=q):(S.set q o).H l=o:=by rw[bF,aAe h]
theorem nOo{p:Prop}(h:p:=by(try simp only[bS,aJ]);omega):p:=h
theorem nQq{p:Prop}(h:p:=by(try simp only[bS,aJ])):p:=h
theorem bS(st:St)(q:Nat)(o:cI):(st.set q o).next=st.next:=rfl
structure aA(st st':St):Prop where
 next:st.next<=st'.next
 H:∀ l,l<st.next->st'.H l=st.H l
theorem aA.refl(st:St):aA st st:=⟨aAk _,fun _ _=>rfl⟩
theorem aA.trans{a b c:St}(h:aA a b)(k:aA b c):aA a c:=⟨aBj h.next k.next,fun l hl=>(k.H l (aAp hl h.next)).trans (h.H l hl)⟩
theorem aA.new(st:St)(o:cI):aA st (st.new o):=⟨aDX _,fun l hl=>by rw[bX,aAa oO]⟩
theorem aA.set{a b:St}(h:aA a b){q:Nat}(hq:a.next<=q)(o:cI):aA a (b.set q o):=⟨h.next,fun l hl=>by rw[bF,aAa oO];exact h.H l hl⟩
section
variable {P:Program} {T:Tab} {N:Nat} {ops:Array Oper} {M B:List Nat} {J:Frm->St->Prop} {rest:List Oper} {d:Option Nat} {fr:Frm} {st Xo:St} {π:List (Nat×Bool×Oper)} {nd:Bool}
theorem qE{f:FuncId}{args P7:List LV}{R:LV->St->Prop}(h:aB P f P7 st R)(ha:args.map norm=P7)(hk:∀ r st',R r st'->cT P T N ops M J rest (bU fr d r) st'):Gc P T N ops M J rest d fr st f args:=by subst ha;exact NA h hk
theorem qD{f:FuncId}{args P7:List LV}{R:LV->St->Prop}(h:aB P f P7 st R)(ha:args.map norm=P7)(hk:∀ r st',R r st'->(nd=true->SB B Xo st')/\eC P T ops M B Xo J π (bU fr d r) st'):Es P T ops M B Xo J π nd d fr st f args:=by subst ha;exact aK h.of_norm hk
end
theorem mR{w:World}{g:G}{x:LV}{post:List LV}:∀(pre:List LV) (vs:List Value),aC w g (pre++x::post) vs->∃ v,Rep w g x v/\∀ g' y,Ext w g w g'->Rep w g' y v->aC w g' (pre++y::post) vs
 |[],vs,h=>by simp only[List.nil_append,aC]at h ⊢;obtain⟨v,vs',rfl,h1,h2⟩:=h;exact⟨v,h1,fun g' y he hy=>⟨v,vs',rfl,hy,aC.mono he _ _ h2⟩⟩
 |c::pre,vs,h=>by simp only[List.cons_append,aC]at h ⊢;obtain⟨v,vs',rfl,h1,h2⟩:=h;obtain⟨u,k1,k2⟩:=mR pre vs' h2;exact⟨u,k1,fun g' y he hy=>⟨v,vs',rfl,Rep.mono he _ _ h1,k2 g' y he hy⟩⟩
theorem vZ{P:Program}{f:FuncId}{pre post:List LV}{st:St}{Q:LV->St->Prop}{l n e s:Nat}{cs:List LV}(hl:st.H l=.box e s cs)(hn:n*s<=cs.length)(h:aB P f (pre++.sl 0 n (cs.take (n*s))::post) (st.set l .dead) Q):aB P f (pre++.ms l 0 n::post) st Q:=by
 refine⟨h.1,fun w g vs hi hr=>?_⟩;obtain⟨v,h1,h2⟩:=mR pre vs hr
 obtain⟨g',k1,k2,k3⟩:=gJ (fr:=upd (fun _=>.dead) 0 (.ms l 0 n)) 0 rfl hl hn { tmps:=#[v],defers:=[] } w g hi (by
  intro j;unfold upd;by_cases hj:j=0
  .subst hj;rw[aAe rfl];exact h1
  .rw[aAa hj];simp only[Rep])
 refine(h.2 w g' vs k1 (h2 g' _ k3 (k2 0))).mono ?_;rintro x w' ⟨v,r,st',g2,rfl,hq,YF,Yq,he⟩;exact⟨v,r,st',g2,rfl,hq,YF,Yq,k3.trans he⟩
theorem ak:(∀(P:Program) (N:Nat) (Q:AQ) (e:Exit) (fr:Frm) (st:St),AK P N Q [] e fr st=Q e fr st)/\
 (∀(P:Program) (N:Nat) (Q:AQ) (k:List fU) (c:Code) (fr:Frm) (st:St),AK P N Q (.code c::k) .normal fr st=AWp P N c (AK P N Q k) fr st/\(∀ i,AK P N Q (.code c::k) (.exit i) fr st=AK P N Q k (.exit i) fr st)/\AK P N Q (.code c::k) .ret fr st=AK P N Q k .ret fr st)/\
 (∀(P:Program) (N:Nat) (Q:AQ) (k:List fU) (id:Nat) (fr:Frm) (st:St),AK P N Q (.blk id::k) .normal fr st=AK P N Q k .normal fr st/\AK P N Q (.blk id::k) .ret fr st=AK P N Q k .ret fr st/\∀ i,AK P N Q (.blk id::k) (.exit i) fr st=if i=id then AK P N Q k .normal fr st else AK P N Q k (.exit i) fr st)/\
 (∀(P:Program) (N:Nat) (Q:AQ) (k:List fU) (J:Frm->St->Prop) (fr:Frm) (st:St),AK P N Q (.head J::k) .normal fr st=J fr st/\(∀ i,AK P N Q (.head J::k) (.exit i) fr st=AK P N Q k (.exit i) fr st)/\AK P N Q (.head J::k) .ret fr st=AK P N Q k .ret fr st)/\
 (∀(T:Tab) (rs:List ResultVar) (Q:LV->St->Prop) (fr:Frm) (st:St),Body T rs Q .ret fr st=yM T Q fr st rs/\Body T rs Q .normal fr st=yM T Q fr st rs):=
 ⟨fun _ _ _ _ _ _=>rfl,fun _ _ _ _ _ _ _=>⟨rfl,fun _=>rfl,rfl⟩,fun _ _ _ _ _ _ _=>⟨rfl,rfl,fun _=>rfl⟩,fun _ _ _ _ _ _ _=>⟨rfl,fun _=>rfl,rfl⟩,fun _ _ _ _ _=>⟨rfl,rfl⟩⟩
attribute [simp] JK VO bI Ns Jo Re Pb sY Dl tG uU aop To Ta bU xG aH Ef cL GH Sq RK BZ eE OD vV lE BB dY AX SM QH vG zQ RC dK Ej EY pM qW Di dO lT Qc SG Qt zF TS yZ FG CV cR rO LP uY sG norm eM inM gW
attribute [simp] Uo TV SN Tj Wy XL d_a Wc XW d_l Tg TQ aX eJ mI Mt qY GU Ue Si
attribute [simp] List.take_of_length_le
attribute [simp] sameBox tL KA nO qH AV nilPtr FW Ei isStr CJ kU vC tQ uI Sa yK gG Ap NF
attribute [simp] VZ UH UI Rv Tu
attribute [simp] tC iR Du yC Uj IQ mD Dv Dx Fm kM Ox HJ yM uP Be one
@[simp] theorem Vv(c:LV)(cs:List LV):hdL (c::cs)=c:=rfl
attribute [simp] bX aJ bF bS
section
variable {N:Nat} {Q:AQ} {fr:Frm} {st:St} {id:Nat}
theorem ca{a b:Prop}(hb:b)(ha:a:=by first|omega|assumption|(simp only[maxLen];omega)|decide):a/\b:=⟨ha,hb⟩
theorem w_e{ops:Array Oper}(M:List Nat)(h:∀ J:Frm->St->Prop,(∀ fr st,Q .normal fr st->J fr st)->cT prog tab N ops M J ops.toList fr st)(hk:cV N ops ops.toList=true:=by exact rfl):AWp prog N (.region id ops false) Q fr st:=lZ nB M hk h
theorem w_q{l:List Oper}(h:∀ J:Frm->St->Prop,(∀ fr st,Q .normal fr st->J fr st)->gT tab l.toArray J l fr st)(hm:prog.follows .mixedOrders=true:=by kernel_rfl)(hB:Region.lexB .any l.toArray=true:=by kernel_rfl)(hk:cV N l.toArray l=true:=by exact rfl)(hq:l.all (fun o=>aX o.op)=true:=by exact rfl):AWp prog N (.region id l.toArray true) Q fr st:=Md nB hm hB hk hq h
theorem w_s{ops:Array Oper}(M B:List Nat)(π:List (Nat×Bool))(h:∀ J:Frm->St->Prop,(∀ fr st,Q .normal fr st->J fr st)->eC prog tab ops M B st J (pick ops π) fr st)(hm:prog.follows .mixedOrders=true:=by kernel_rfl)(hk:cV N ops ops.toList=true:=by exact rfl)
 (hπ:(lO ops ((pick ops π).map (·.1)) (Array.replicate ops.size false)&&((pick ops π).length==ops.size)&&(π.all fun p=>!jO ops p.1||p.2))=true:=by kernel_rfl):AWp prog N (.region id ops true) Q fr st:=LW nB M B π hm hk hπ h
end
section
variable {N:Nat} {Q:AQ} {fr:Frm} {st:St} {id:Nat}
theorem zJ{P R:Frm->St->Prop}{b:Prop}(h:∀ f s,P f s->R f s)(k:b)(e:b->P fr st:=by simp only[ak,reduceIte];exact fun h=>h):R fr st:=h _ _ (e k)
theorem zE{ops:Array Oper}{b:Prop}(k:b)(e:b->∀ J:Frm->St->Prop,(∀ fr st,Q .normal fr st->J fr st)->cT prog tab N ops [] J ops.toList fr st:=by intro k J hJ;simp only[];revert J hJ;exact k)(hk:cV N ops ops.toList=true:=by exact rfl):AWp prog N (.region id ops false) Q fr st:=w_e [] (e k) hk
theorem zN{f:FuncId}{fn:Func}{c:Code}{args:List LV}{R:LV->St->Prop}(hf:prog.funcs[f]?=some fn)(hN:fn.ntmps=N)(rs:List ResultVar)(h:AWp prog N c (AK prog N (Body tab rs R) []) (sG args) st)(hb:fn.body=some c:=by exact rfl)(hn:(fn.name== "runtime.NumGoroutine")=false:=by exact rfl)(hr:fn.results.toList=rs:=by exact rfl)(hl:args.length<=N:=by simp):aB prog f args st R:=qO nB hf hb hn hN hr hl h
def zK(ops:Array Oper)(l:List Nat):List (Nat×Bool×Oper):=pick ops (l.map fun c=>(c / 2,c % 2==0))
@[simp] theorem WO(ops:Array Oper)(c:Nat)(l:List Nat):zK ops (c::l)=match ops[c / 2]? with|some o=>(c / 2,c % 2==0,o)::zK ops l|none=>zK ops l:=by unfold zK;rw[aAi,qY];rfl
@[simp] theorem XQ(ops:Array Oper):zK ops []=[]:=rfl
theorem zS{ops:Array Oper}(M B l:List Nat)(h:∀ J:Frm->St->Prop,(∀ fr st,Q .normal fr st->J fr st)->eC prog tab ops M B st J (zK ops l) fr st)(hm:prog.follows .mixedOrders=true:=by kernel_rfl)(hk:cV N ops ops.toList=true:=by exact rfl)
 (hp:(lO ops ((pick ops (l.map fun c=>(c / 2,c % 2==0))).map (·.1)) (Array.replicate ops.size false)&&((pick ops (l.map fun c=>(c / 2,c % 2==0))).length==ops.size)&&((l.map fun c=>(c / 2,c % 2==0)).all fun p=>!jO ops p.1||p.2))=true:=by kernel_rfl):AWp prog N (.region id ops true) Q fr st:=w_s M B (l.map fun c=>(c / 2,c % 2==0)) h hm hk hp
end
end Aw
end Go.Proofs.YtempldclppogmaaGreatDoor
