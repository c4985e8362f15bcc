/- Short words for logical values; the rules by which a walk is simplified. -/
import Derived.Test.YtempldclppogmaaGreatDoorAwTab
set_option linter.unusedVariables false
set_option linter.unusedSimpArgs false
open Go.Proofs.Tryz
namespace Go.Proofs.YtempldclppogmaaGreatDoor
namespace Aw
open Go Go.RowKit
abbrev u(n:Int):LV:=.atom (.int .u32 n)
abbrev i(n:Int):LV:=.atom (.int .i64 n)
abbrev bb(b:Bool):LV:=.atom (.bool b)
abbrev us(l:List Int):List LV:=l.map u
theorem vQ(fr:Frm)(i j:Nat)(v:LV):upd fr i v j=if j=i then v else fr j:=rfl
theorem cB(st:St)(o:cI)(l:Nat):(st.new o).H l=if l=st.next then o else st.H l:=rfl
theorem aF(st:St)(o:cI):(st.new o).next=st.next+1:=rfl
theorem bN(st:St)(q:Nat)(o:cI)(l:Nat):(st.set q o).H l=if l=q then o else st.H l:=rfl
theorem nHh{S:St}{o:cI}{l:Nat}(h:¬l=S.next):(S.new o).H l=S.H l:=by rw[cB,aAa h]
theorem nIi{S:St}{o:cI}{l:Nat}(h:l=S.next):(S.new o).H l=o:=by rw[cB,aAe h]
theorem sHh{S:St}{o:cI}{q l:Nat}(h:¬l=q):(S.set q o).H l=S.H l:=by rw[bN,aAa h]
theorem sIi{S:St}{o:cI}{q l:Nat}(h:l=q):(S.set q o).H l=o:=by rw[bN,aAe h]
theorem nOo{p:Prop}(h:p:=by(try simp only[bC,aF]);omega):p:=h
theorem nQq{p:Prop}(h:p:=by(try simp only[bC,aF])):p:=h
theorem bC(st:St)(q:Nat)(o:cI):(st.set q o).next=st.next:=rfl
structure aA(st st':St):Prop where
 next:st.next<=st'.next
 H:∀ l,l<st.next->st'.H l=st.H l
theorem aA.refl(st:St):aA st st:=⟨aAi _,fun _ _=>rfl⟩
theorem aA.trans{a b c:St}(h:aA a b)(k:aA b c):aA a c:=⟨aBh h.next k.next,fun l hl=>(k.H l (aAp hl h.next)).trans (h.H l hl)⟩
theorem aA.new(st:St)(o:cI):aA st (st.new o):=⟨aDS _,fun l hl=>by rw[cB,aAa oO]⟩
theorem aA.set{a b:St}(h:aA a b){q:Nat}(hq:a.next<=q)(o:cI):aA a (b.set q o):=⟨h.next,fun l hl=>by rw[bN,aAa oO];exact h.H l hl⟩
section
variable {P:Program} {T:Tab} {N:Nat} {ops:Array Oper} {M B:List Nat} {J:Frm->St->Prop} {rest:List Oper} {d:Option Nat} {fr:Frm} {st Xs:St} {π:List (Nat×Bool×Oper)} {nd:Bool}
theorem qE{f:FuncId}{args E3:List LV}{R:LV->St->Prop}(h:aB P f E3 st R)(ha:args.map norm=E3)(hk:∀ r st',R r st'->cM P T N ops M J rest (bP fr d r) st'):DK P T N ops M J rest d fr st f args:=by subst ha;exact MX h hk
theorem qD{f:FuncId}{args E3:List LV}{R:LV->St->Prop}(h:aB P f E3 st R)(ha:args.map norm=E3)(hk:∀ r st',R r st'->(nd=true->SB B Xs st')/\dW P T ops M B Xs J π (bP fr d r) st'):Ez P T ops M B Xs J π nd d fr st f args:=by subst ha;exact aJ h.of_norm hk
end
theorem mG{w:World}{g:G}{x:LV}{post:List LV}:∀(pre:List LV) (vs:List Value),aC w g (pre++x::post) vs->∃ v,Rep w g x v/\∀ g' y,Ext w g w g'->Rep w g' y v->aC w g' (pre++y::post) vs
 |[],vs,h=>by simp only[List.nil_append,aC]at h ⊢;obtain⟨v,vs',rfl,h1,h2⟩:=h;exact⟨v,h1,fun g' y he hy=>⟨v,vs',rfl,hy,aC.mono he _ _ h2⟩⟩
 |c::pre,vs,h=>by simp only[List.cons_append,aC]at h ⊢;obtain⟨v,vs',rfl,h1,h2⟩:=h;obtain⟨u,k1,k2⟩:=mG pre vs' h2;exact⟨u,k1,fun g' y he hy=>⟨v,vs',rfl,Rep.mono he _ _ h1,k2 g' y he hy⟩⟩
theorem vI{P:Program}{f:FuncId}{pre post:List LV}{st:St}{Q:LV->St->Prop}{l n e s:Nat}{cs:List LV}(hl:st.H l=.box e s cs)(hn:n*s<=cs.length)(h:aB P f (pre++.sl 0 n (cs.take (n*s))::post) (st.set l .dead) Q):aB P f (pre++.ms l 0 n::post) st Q:=by
 refine⟨h.1,fun w g vs hi hr=>?_⟩;obtain⟨v,h1,h2⟩:=mG pre vs hr
 obtain⟨g',k1,k2,k3⟩:=gB (fr:=upd (fun _=>.dead) 0 (.ms l 0 n)) 0 rfl hl hn { tmps:=#[v],defers:=[] } w g hi (by
  intro j;unfold upd;by_cases hj:j=0
  .subst hj;rw[aAe rfl];exact h1
  .rw[aAa hj];simp only[Rep])
 refine(h.2 w g' vs k1 (h2 g' _ k3 (k2 0))).mono ?_;rintro x w' ⟨v,r,st',g2,rfl,hq,YF,Yo,he⟩;exact⟨v,r,st',g2,rfl,hq,YF,Yo,k3.trans he⟩
theorem ak:(∀(P:Program) (N:Nat) (Q:AQ) (e:Exit) (fr:Frm) (st:St),AK P N Q [] e fr st=Q e fr st)/\
 (∀(P:Program) (N:Nat) (Q:AQ) (k:List fS) (c:Code) (fr:Frm) (st:St),AK P N Q (.code c::k) .normal fr st=AWp P N c (AK P N Q k) fr st/\(∀ i,AK P N Q (.code c::k) (.exit i) fr st=AK P N Q k (.exit i) fr st)/\AK P N Q (.code c::k) .ret fr st=AK P N Q k .ret fr st)/\
 (∀(P:Program) (N:Nat) (Q:AQ) (k:List fS) (id:Nat) (fr:Frm) (st:St),AK P N Q (.blk id::k) .normal fr st=AK P N Q k .normal fr st/\AK P N Q (.blk id::k) .ret fr st=AK P N Q k .ret fr st/\∀ i,AK P N Q (.blk id::k) (.exit i) fr st=if i=id then AK P N Q k .normal fr st else AK P N Q k (.exit i) fr st)/\
 (∀(P:Program) (N:Nat) (Q:AQ) (k:List fS) (J:Frm->St->Prop) (fr:Frm) (st:St),AK P N Q (.head J::k) .normal fr st=J fr st/\(∀ i,AK P N Q (.head J::k) (.exit i) fr st=AK P N Q k (.exit i) fr st)/\AK P N Q (.head J::k) .ret fr st=AK P N Q k .ret fr st)/\
 (∀(T:Tab) (rs:List ResultVar) (Q:LV->St->Prop) (fr:Frm) (st:St),Body T rs Q .ret fr st=yK T Q fr st rs/\Body T rs Q .normal fr st=yK T Q fr st rs):=
 ⟨fun _ _ _ _ _ _=>rfl,fun _ _ _ _ _ _ _=>⟨rfl,fun _=>rfl,rfl⟩,fun _ _ _ _ _ _ _=>⟨rfl,rfl,fun _=>rfl⟩,fun _ _ _ _ _ _ _=>⟨rfl,fun _=>rfl,rfl⟩,fun _ _ _ _ _=>⟨rfl,rfl⟩⟩
attribute [simp] JT Vf bG NW JZ SJ Pk sJ Ef tC uT aop Tu UZ bP vQ aI EE cH Fm Rz Qx AR dZ OV wM kM AU dV BM RW NZ tJ yV SP dK Ex Dq pD rJ Dp dP lU RB Ry SR zO Th yY DX DB cO rF Lc tR sQ norm eJ inM gR
attribute [simp] VQ Ul Ro Ts Wt Wk d_a Wg XE d_l UF Ud aX eI lZ Mq qZ GZ Tj Sq
attribute [simp] List.take_of_length_le
attribute [simp] sameBox uI KR nJ pF BP nilPtr Fl ET isStr CI jY uH uP tT Rf yD fZ AM Pv
attribute [simp] WA UG Ug Qy TU
attribute [simp] sR iK Dh xP Ui Is lW EN Dn Gi kX QA FV yK uM AE one
@[simp] theorem WB(c:LV)(cs:List LV):hdL (c::cs)=c:=rfl
attribute [simp] cB aF bN bC
section
variable {N:Nat} {Q:AQ} {fr:Frm} {st:St} {id:Nat}
theorem ca{a b:Prop}(hb:b)(ha:a:=by first|omega|assumption|(simp only[maxLen];omega)|decide):a/\b:=⟨ha,hb⟩
theorem w_e{ops:Array Oper}(M:List Nat)(h:∀ J:Frm->St->Prop,(∀ fr st,Q .normal fr st->J fr st)->cM prog tab N ops M J ops.toList fr st)(hk:cW N ops ops.toList=true:=by exact rfl):AWp prog N (.region id ops false) Q fr st:=lY mL M hk h
theorem w_q{l:List Oper}(h:∀ J:Frm->St->Prop,(∀ fr st,Q .normal fr st->J fr st)->gF tab l.toArray J l fr st)(hm:prog.follows .mixedOrders=true:=by kernel_rfl)(hB:Region.lexB .any l.toArray=true:=by kernel_rfl)(hk:cW N l.toArray l=true:=by exact rfl)(hq:l.all (fun o=>aX o.op)=true:=by exact rfl):AWp prog N (.region id l.toArray true) Q fr st:=LO mL hm hB hk hq h
theorem w_s{ops:Array Oper}(M B:List Nat)(π:List (Nat×Bool))(h:∀ J:Frm->St->Prop,(∀ fr st,Q .normal fr st->J fr st)->dW prog tab ops M B st J (pick ops π) fr st)(hm:prog.follows .mixedOrders=true:=by kernel_rfl)(hk:cW N ops ops.toList=true:=by exact rfl)
 (hπ:(lN ops ((pick ops π).map (·.1)) (Array.replicate ops.size false)&&((pick ops π).length==ops.size)&&(π.all fun p=>!jG ops p.1||p.2))=true:=by kernel_rfl):AWp prog N (.region id ops true) Q fr st:=LU mL M B π hm hk hπ h
end
section
variable {N:Nat} {Q:AQ} {fr:Frm} {st:St} {id:Nat}
theorem zJ{P R:Frm->St->Prop}{b:Prop}(h:∀ f s,P f s->R f s)(k:b)(e:b->P fr st:=by simp only[ak,reduceIte];exact fun h=>h):R fr st:=h _ _ (e k)
theorem zE{ops:Array Oper}{b:Prop}(k:b)(e:b->∀ J:Frm->St->Prop,(∀ fr st,Q .normal fr st->J fr st)->cM prog tab N ops [] J ops.toList fr st:=by intro k J hJ;simp only[];revert J hJ;exact k)(hk:cW N ops ops.toList=true:=by exact rfl):AWp prog N (.region id ops false) Q fr st:=w_e [] (e k) hk
theorem zN{f:FuncId}{fn:Func}{c:Code}{args:List LV}{R:LV->St->Prop}(hf:prog.funcs[f]?=some fn)(hN:fn.ntmps=N)(rs:List ResultVar)(h:AWp prog N c (AK prog N (Body tab rs R) []) (sQ args) st)(hb:fn.body=some c:=by exact rfl)(hn:(fn.name== "runtime.NumGoroutine")=false:=by exact rfl)(hr:fn.results.toList=rs:=by exact rfl)(hl:args.length<=N:=by simp):aB prog f args st R:=qO mL hf hb hn hN hr hl h
def zK(ops:Array Oper)(l:List Nat):List (Nat×Bool×Oper):=pick ops (l.map fun c=>(c / 2,c % 2==0))
@[simp] theorem WU(ops:Array Oper)(c:Nat)(l:List Nat):zK ops (c::l)=match ops[c / 2]? with|some o=>(c / 2,c % 2==0,o)::zK ops l|none=>zK ops l:=by unfold zK;rw[aAj,qZ];rfl
@[simp] theorem XI(ops:Array Oper):zK ops []=[]:=rfl
theorem zS{ops:Array Oper}(M B l:List Nat)(h:∀ J:Frm->St->Prop,(∀ fr st,Q .normal fr st->J fr st)->dW prog tab ops M B st J (zK ops l) fr st)(hm:prog.follows .mixedOrders=true:=by kernel_rfl)(hk:cW N ops ops.toList=true:=by exact rfl)
 (hp:(lN ops ((pick ops (l.map fun c=>(c / 2,c % 2==0))).map (·.1)) (Array.replicate ops.size false)&&((pick ops (l.map fun c=>(c / 2,c % 2==0))).length==ops.size)&&((l.map fun c=>(c / 2,c % 2==0)).all fun p=>!jG ops p.1||p.2))=true:=by kernel_rfl):AWp prog N (.region id ops true) Q fr st:=w_s M B (l.map fun c=>(c / 2,c % 2==0)) h hm hk hp
end
end Aw
end Go.Proofs.YtempldclppogmaaGreatDoor
