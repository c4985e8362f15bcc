/- Short words for logical values; the rules by which a walk is simplified. -/
import Derived.Test.YtbgngpdonpeboaaGreatDoorAwTab
set_option linter.unusedVariables false
set_option linter.unusedSimpArgs false
open Go.Proofs.Tryz
namespace Go.Proofs.YtbgngpdonpeboaaGreatDoor
namespace Aw
open Go Go.RowKit
abbrev u(n:Int):LV:=.atom (.int .u32 n)
abbrev i(n:Int):LV:=.atom (.int .i64 n)
abbrev bb(b:Bool):LV:=.atom (.bool b)
abbrev us(l:List Int):List LV:=l.map u
theorem Eo(fr:Frm)(i j:Nat)(v:LV):upd fr i v j=if j=i then v else fr j:=rfl
theorem bY(st:St)(o:cN)(l:Nat):(st.new o).H l=if l=st.next then o else st.H l:=rfl
theorem aG(st:St)(o:cN):(st.new o).next=st.next+1:=rfl
theorem bQ(st:St)(q:Nat)(o:cN)(l:Nat):(st.set q o).H l=if l=q then o else st.H l:=rfl
theorem nHh{S:St}{o:cN}{l:Nat}(h:¬l=S.next):(S.new o).H l=S.H l:=by rw[bY,aAa h]
theorem nIi{S:St}{o:cN}{l:Nat}(h:l=S.next):(S.new o).H l=o:=by rw[bY,aAj h]
theorem sHh{S:St}{o:cN}{q l:Nat}(h:¬l=q):(S.set q o).H l=S.H l:=by rw[bQ,aAa h]
theorem sIi{S:St}{o:cN}{q l:Nat}(h:l=q):(S.set q o).H l=o:=by rw[bQ,aAj h]
theorem nOo{p:Prop}(h:p:=by(try simp only[bH,aG]);omega):p:=h
theorem nQq{p:Prop}(h:p:=by(try simp only[bH,aG])):p:=h
theorem bH(st:St)(q:Nat)(o:cN):(st.set q o).next=st.next:=rfl
structure aA(st st':St):Prop where
 next:st.next<=st'.next
 H:∀ l,l<st.next->st'.H l=st.H l
theorem aA.refl(st:St):aA st st:=⟨aAl _,fun _ _=>rfl⟩
theorem aA.trans{a b c:St}(h:aA a b)(k:aA b c):aA a c:=⟨aBa h.next k.next,fun l hl=>(k.H l (aAs hl h.next)).trans (h.H l hl)⟩
theorem aA.new(st:St)(o:cN):aA st (st.new o):=⟨aDR _,fun l hl=>by grind [bY]⟩
theorem aA.set{a b:St}(h:aA a b){q:Nat}(hq:a.next<=q)(o:cN):aA a (b.set q o):=⟨h.next,fun l hl=>by rw[bQ,aAa oO];exact h.H l hl⟩
section
variable {P:Program} {T:Tab} {N:Nat} {ops:Array Oper} {M B:List Nat} {J:Frm->St->Prop} {rest:List Oper} {d:Option Nat} {fr:Frm} {st j9:St} {π:List (Nat×Bool×Oper)} {nd:Bool}
theorem qE{f:FuncId}{args T8:List LV}{R:LV->St->Prop}(h:aB P f T8 st R)(ha:args.map norm=T8)(hk:∀ r st',R r st'->cM P T N ops M J rest (bM fr d r) st'):CO P T N ops M J rest d fr st f args:=by
 grind [OB]
theorem qD{f:FuncId}{args T8:List LV}{R:LV->St->Prop}(h:aB P f T8 st R)(ha:args.map norm=T8)(hk:∀ r st',R r st'->(nd=true->SB B j9 st')/\eE P T ops M B j9 J π (bM fr d r) st'):Bb P T ops M B j9 J π nd d fr st f args:=by subst ha;exact aO h.of_norm hk
end
theorem nD{w:World}{g:G}{x:LV}{post:List LV}:∀(pre:List LV) (vs:List Value),aC w g (pre++x::post) vs->∃ v,Rep w g x v/\∀ g' y,Ext w g w g'->Rep w g' y v->aC w g' (pre++y::post) vs
 |[],vs,h=>by
  grind [aC,aC.mono]
 |c::pre,vs,h=>by
  simp only[List.cons_append,aC]at h ⊢;obtain⟨v,vs',rfl,h1,h2⟩:=h;obtain⟨u,k1,k2⟩:=nD pre vs' h2
  grind [Rep.mono]
theorem wL{P:Program}{f:FuncId}{pre post:List LV}{st:St}{Q:LV->St->Prop}{l n e s:Nat}{cs:List LV}(hl:st.H l=.box e s cs)(hn:n*s<=cs.length)(h:aB P f (pre++.sl 0 n (cs.take (n*s))::post) (st.set l .dead) Q):aB P f (pre++.ms l 0 n::post) st Q:=by
 refine⟨h.1,fun w g vs hi hr=>?_⟩;obtain⟨v,h1,h2⟩:=nD pre vs hr
 obtain⟨g',k1,k2,k3⟩:=iK (fr:=upd (fun _=>.dead) 0 (.ms l 0 n)) 0 rfl hl hn { tmps:=#[v],defers:=[] } w g hi (by
  intro j;unfold upd;by_cases hj:j=0
  .simp_all
  grind [Rep])
 refine(h.2 w g' vs k1 (h2 g' _ k3 (k2 0))).mono ?_;rintro x w' ⟨v,r,st',g2,rfl,hq,K9,M4,he⟩;exact⟨v,r,st',g2,rfl,hq,K9,M4,k3.trans he⟩
theorem ak:(∀(P:Program) (N:Nat) (Q:AQ) (e:Exit) (fr:Frm) (st:St),AK P N Q [] e fr st=Q e fr st)/\
 (∀(P:Program) (N:Nat) (Q:AQ) (k:List gO) (c:Code) (fr:Frm) (st:St),AK P N Q (.code c::k) .normal fr st=AWp P N c (AK P N Q k) fr st/\(∀ i,AK P N Q (.code c::k) (.exit i) fr st=AK P N Q k (.exit i) fr st)/\AK P N Q (.code c::k) .ret fr st=AK P N Q k .ret fr st)/\
 (∀(P:Program) (N:Nat) (Q:AQ) (k:List gO) (id:Nat) (fr:Frm) (st:St),AK P N Q (.blk id::k) .normal fr st=AK P N Q k .normal fr st/\AK P N Q (.blk id::k) .ret fr st=AK P N Q k .ret fr st/\∀ i,AK P N Q (.blk id::k) (.exit i) fr st=if i=id then AK P N Q k .normal fr st else AK P N Q k (.exit i) fr st)/\
 (∀(P:Program) (N:Nat) (Q:AQ) (k:List gO) (J:Frm->St->Prop) (fr:Frm) (st:St),AK P N Q (.head J::k) .normal fr st=J fr st/\(∀ i,AK P N Q (.head J::k) (.exit i) fr st=AK P N Q k (.exit i) fr st)/\AK P N Q (.head J::k) .ret fr st=AK P N Q k .ret fr st)/\
 (∀(T:Tab) (rs:List ResultVar) (Q:LV->St->Prop) (fr:Frm) (st:St),Body T rs Q .ret fr st=zH T Q fr st rs/\Body T rs Q .normal fr st=zH T Q fr st rs):=
 ⟨fun _ _ _ _ _ _=>rfl,fun _ _ _ _ _ _ _=>⟨rfl,fun _=>rfl,rfl⟩,fun _ _ _ _ _ _ _=>⟨rfl,rfl,fun _=>rfl⟩,fun _ _ _ _ _ _ _=>⟨rfl,fun _=>rfl,rfl⟩,fun _ _ _ _ _=>⟨rfl,rfl⟩⟩
attribute [simp] Jg Yz bB Qh MK TW SY tN FZ uD vB aop YQ XK bM Eo aH GC cH HG Vm VL Co eP Qy xI lR CF eK BP Uo Rc vI AZ Um dV FE Ee pN sG FL dZ mJ VA Un Ur AO XP Ae Ff DO cR rV Nt vV uF norm eY inM iM
attribute [simp] Zq YE UA Yg K1 G5 d_a K0 D9 d_l Xc Xp aS eW mU Nc sD Ig YX Uu
attribute [simp] List.take_of_length_le
attribute [simp] sameBox vF MA pD tW CJ nilPtr Hr Es isStr Ct kW vU uM vM Vj zG iR BO QV
attribute [simp] Zi Yd Wn Tr Wm
attribute [simp] uG jK Fu yD Xs JX mF GX FK HP lN SK Ih zH vX Bc one
@[simp] theorem C2(c:LV)(cs:List LV):hdL (c::cs)=c:=rfl
attribute [simp] bY aG bQ bH
section
variable {N:Nat} {Q:AQ} {fr:Frm} {st:St} {id:Nat}
theorem ca{a b:Prop}(hb:b)(ha:a:=by first|omega|assumption|(simp only[maxLen];omega)|decide):a/\b:=⟨ha,hb⟩
theorem w_e{ops:Array Oper}(M:List Nat)(h:∀ J:Frm->St->Prop,(∀ fr st,Q .normal fr st->J fr st)->cM prog tab N ops M J ops.toList fr st)(hk:cV N ops ops.toList=true:=by exact rfl):AWp prog N (.region id ops false) Q fr st:=mO nK M hk h
theorem w_q{l:List Oper}(h:∀ J:Frm->St->Prop,(∀ fr st,Q .normal fr st->J fr st)->iF tab l.toArray J l fr st)(hm:prog.follows .mixedOrders=true:=by kernel_rfl)(hB:Region.lexB .any l.toArray=true:=by kernel_rfl)(hk:cV N l.toArray l=true:=by exact rfl)(hq:l.all (fun o=>aS o.op)=true:=by exact rfl):AWp prog N (.region id l.toArray true) Q fr st:=PB nK hm hB hk hq h
theorem w_s{ops:Array Oper}(M B:List Nat)(π:List (Nat×Bool))(h:∀ J:Frm->St->Prop,(∀ fr st,Q .normal fr st->J fr st)->eE prog tab ops M B st J (pick ops π) fr st)(hm:prog.follows .mixedOrders=true:=by kernel_rfl)(hk:cV N ops ops.toList=true:=by exact rfl)
 (hπ:(mS ops ((pick ops π).map (·.1)) (Array.replicate ops.size false)&&((pick ops π).length==ops.size)&&(π.all fun p=>!kH ops p.1||p.2))=true:=by kernel_rfl):AWp prog N (.region id ops true) Q fr st:=Ox nK M B π hm hk hπ h
end
section
variable {N:Nat} {Q:AQ} {fr:Frm} {st:St} {id:Nat}
theorem zJ{P R:Frm->St->Prop}{b:Prop}(h:∀ f s,P f s->R f s)(k:b)(e:b->P fr st:=by simp only[ak,reduceIte];exact fun h=>h):R fr st:=h _ _ (e k)
theorem zE{ops:Array Oper}{b:Prop}(k:b)(e:b->∀ J:Frm->St->Prop,(∀ fr st,Q .normal fr st->J fr st)->cM prog tab N ops [] J ops.toList fr st:=by intro k J hJ;simp only[];revert J hJ;exact k)(hk:cV N ops ops.toList=true:=by exact rfl):AWp prog N (.region id ops false) Q fr st:=w_e [] (e k) hk
theorem zN{f:FuncId}{fn:Func}{c:Code}{args:List LV}{R:LV->St->Prop}(hf:prog.funcs[f]?=some fn)(hN:fn.ntmps=N)(rs:List ResultVar)(h:AWp prog N c (AK prog N (Body tab rs R) []) (uF args) st)(hb:fn.body=some c:=by exact rfl)(hn:(fn.name== "runtime.NumGoroutine")=false:=by exact rfl)(hr:fn.results.toList=rs:=by exact rfl)(hl:args.length<=N:=by simp):aB prog f args st R:=qO nK hf hb hn hN hr hl h
def zK(ops:Array Oper)(l:List Nat):List (Nat×Bool×Oper):=pick ops (l.map fun c=>(c / 2,c % 2==0))
@[simp] theorem C5(ops:Array Oper)(c:Nat)(l:List Nat):zK ops (c::l)=match ops[c / 2]? with|some o=>(c / 2,c % 2==0,o)::zK ops l|none=>zK ops l:=by unfold zK;rw[aAm,sD];rfl
@[simp] theorem F7(ops:Array Oper):zK ops []=[]:=rfl
theorem zS{ops:Array Oper}(M B l:List Nat)(h:∀ J:Frm->St->Prop,(∀ fr st,Q .normal fr st->J fr st)->eE prog tab ops M B st J (zK ops l) fr st)(hm:prog.follows .mixedOrders=true:=by kernel_rfl)(hk:cV N ops ops.toList=true:=by exact rfl)
 (hp:(mS ops ((pick ops (l.map fun c=>(c / 2,c % 2==0))).map (·.1)) (Array.replicate ops.size false)&&((pick ops (l.map fun c=>(c / 2,c % 2==0))).length==ops.size)&&((l.map fun c=>(c / 2,c % 2==0)).all fun p=>!kH ops p.1||p.2))=true:=by kernel_rfl):AWp prog N (.region id ops true) Q fr st:=w_s M B (l.map fun c=>(c / 2,c % 2==0)) h hm hk hp
end
def xWr(p:Prop):Prop:=p
theorem xj0{A B:Prop}(k:B)(h:True->xWr B->A:=by intro _ kB;(repeat' (first|refine qS ?_|refine qB ?_|((first|refine qK ?_|refine qX ?_);simp only[ak,reduceIte])|(refine qR (zZ ?_);simp[])|(refine qC ?_;simp[];(try with_reducible refine⟨?_,?_⟩)<;>(try with_reducible intro hc)<;>try (exfalso;omega))|((first|(refine w_e [] ?_;intro J hJ;simp only[])|(refine w_q ?_;intro J hJ)|refine cI ?_);simp[];(repeat refine ca ?_);(try ((try with_reducible refine⟨?_,?_⟩)<;>(try with_reducible intro u9)<;>refine hJ _ _ ?_<;>(try clear hJ J)<;>simp only[ak,reduceIte]<;>try subst u9)))));revert J;exact kB):A:=h trivial k
theorem xj1{p1 A B:Prop}(a1:p1)(k:B)(h:p1->xWr B->A:=by intro aF kB;(repeat' (first|refine qS ?_|refine qB ?_|((first|refine qK ?_|refine qX ?_);simp only[ak,reduceIte])|(refine qR (zZ ?_);simp[aF])|(refine qC ?_;simp[aF];(try with_reducible refine⟨?_,?_⟩)<;>(try with_reducible intro hc)<;>try (exfalso;omega))|((first|(refine w_e [] ?_;intro J hJ;simp only[])|(refine w_q ?_;intro J hJ)|refine cI ?_);simp[aF];(repeat refine ca ?_);(try ((try with_reducible refine⟨?_,?_⟩)<;>(try with_reducible intro u9)<;>refine hJ _ _ ?_<;>(try clear hJ J)<;>simp only[ak,reduceIte]<;>try subst u9)))));revert J;exact kB):A:=h a1 k
theorem pG{A Q B:Prop}(hJ:Q)(k:B)(h:Q->True->xWr B->A:=by intro hJ _ kB;(repeat' (first|refine qS ?_|refine qB ?_|((first|refine qK ?_|refine qX ?_);simp only[ak,reduceIte])|(refine qR (zZ ?_);simp[])|(refine qC ?_;simp[];(try with_reducible refine⟨?_,?_⟩)<;>(try with_reducible intro hc)<;>try (exfalso;omega))|((first|(refine w_e [] ?_;intro J hJ;simp only[])|(refine w_q ?_;intro J hJ)|refine cI ?_);simp[];(repeat refine ca ?_);(try ((try with_reducible refine⟨?_,?_⟩)<;>(try with_reducible intro u9)<;>refine hJ _ _ ?_<;>(try clear hJ J)<;>simp only[ak,reduceIte]<;>try subst u9)))));revert J;exact kB):A:=h hJ trivial k
theorem JB{p1 A Q B:Prop}(hJ:Q)(a1:p1)(k:B)(h:Q->p1->xWr B->A:=by intro hJ aF kB;(repeat' (first|refine qS ?_|refine qB ?_|((first|refine qK ?_|refine qX ?_);simp only[ak,reduceIte])|(refine qR (zZ ?_);simp[aF])|(refine qC ?_;simp[aF];(try with_reducible refine⟨?_,?_⟩)<;>(try with_reducible intro hc)<;>try (exfalso;omega))|((first|(refine w_e [] ?_;intro J hJ;simp only[])|(refine w_q ?_;intro J hJ)|refine cI ?_);simp[aF];(repeat refine ca ?_);(try ((try with_reducible refine⟨?_,?_⟩)<;>(try with_reducible intro u9)<;>refine hJ _ _ ?_<;>(try clear hJ J)<;>simp only[ak,reduceIte]<;>try subst u9)))));revert J;exact kB):A:=h hJ a1 k
theorem xv0{A:Prop}(h:True->A:=by intro _;(repeat' (first|refine qS ?_|refine qB ?_|((first|refine qK ?_|refine qX ?_);simp only[ak,reduceIte])|(refine qR (zZ ?_);simp[])|(refine qC ?_;simp[];(try with_reducible refine⟨?_,?_⟩)<;>(try with_reducible intro hc)<;>try (exfalso;omega))|((first|(refine w_e [] ?_;intro J hJ;simp only[])|(refine w_q ?_;intro J hJ)|refine cI ?_);simp[];(repeat refine ca ?_);(try ((try with_reducible refine⟨?_,?_⟩)<;>(try with_reducible intro u9)<;>refine hJ _ _ ?_<;>(try clear hJ J)<;>simp only[ak,reduceIte]<;>try subst u9)))))):A:=h trivial
theorem xv1{p1 A:Prop}(a1:p1)(h:p1->A:=by intro aF;(repeat' (first|refine qS ?_|refine qB ?_|((first|refine qK ?_|refine qX ?_);simp only[ak,reduceIte])|(refine qR (zZ ?_);simp[aF])|(refine qC ?_;simp[aF];(try with_reducible refine⟨?_,?_⟩)<;>(try with_reducible intro hc)<;>try (exfalso;omega))|((first|(refine w_e [] ?_;intro J hJ;simp only[])|(refine w_q ?_;intro J hJ)|refine cI ?_);simp[aF];(repeat refine ca ?_);(try ((try with_reducible refine⟨?_,?_⟩)<;>(try with_reducible intro u9)<;>refine hJ _ _ ?_<;>(try clear hJ J)<;>simp only[ak,reduceIte]<;>try subst u9)))))):A:=h a1
theorem Tt{A Q:Prop}(hJ:Q)(h:Q->True->A:=by intro hJ _;(repeat' (first|refine qS ?_|refine qB ?_|((first|refine qK ?_|refine qX ?_);simp only[ak,reduceIte])|(refine qR (zZ ?_);simp[])|(refine qC ?_;simp[];(try with_reducible refine⟨?_,?_⟩)<;>(try with_reducible intro hc)<;>try (exfalso;omega))|((first|(refine w_e [] ?_;intro J hJ;simp only[])|(refine w_q ?_;intro J hJ)|refine cI ?_);simp[];(repeat refine ca ?_);(try ((try with_reducible refine⟨?_,?_⟩)<;>(try with_reducible intro u9)<;>refine hJ _ _ ?_<;>(try clear hJ J)<;>simp only[ak,reduceIte]<;>try subst u9)))))):A:=h hJ trivial
theorem PN{p1 A Q:Prop}(hJ:Q)(a1:p1)(h:Q->p1->A:=by intro hJ aF;(repeat' (first|refine qS ?_|refine qB ?_|((first|refine qK ?_|refine qX ?_);simp only[ak,reduceIte])|(refine qR (zZ ?_);simp[aF])|(refine qC ?_;simp[aF];(try with_reducible refine⟨?_,?_⟩)<;>(try with_reducible intro hc)<;>try (exfalso;omega))|((first|(refine w_e [] ?_;intro J hJ;simp only[])|(refine w_q ?_;intro J hJ)|refine cI ?_);simp[aF];(repeat refine ca ?_);(try ((try with_reducible refine⟨?_,?_⟩)<;>(try with_reducible intro u9)<;>refine hJ _ _ ?_<;>(try clear hJ J)<;>simp only[ak,reduceIte]<;>try subst u9)))))):A:=h hJ a1
theorem xw0{A B:Prop}(k:B)(h:True->xWr B->A:=by intro _ kB;(repeat' (first|refine qS ?_|refine qB ?_|((first|refine qK ?_|refine qX ?_);simp only[ak,reduceIte])|(refine qR (zZ ?_);simp[])|(refine qC ?_;simp[];(try with_reducible refine⟨?_,?_⟩)<;>(try with_reducible intro hc)<;>try (exfalso;omega))|((first|(refine w_e [] ?_;intro J hJ;simp only[])|(refine w_q ?_;intro J hJ)|refine cI ?_);simp[];(repeat refine ca ?_);(try ((try with_reducible refine⟨?_,?_⟩)<;>(try with_reducible intro u9)<;>refine hJ _ _ ?_<;>(try clear hJ J)<;>simp only[ak,reduceIte]<;>try subst u9)))));exact kB):A:=h trivial k
theorem xw1{p1 A B:Prop}(a1:p1)(k:B)(h:p1->xWr B->A:=by intro aF kB;(repeat' (first|refine qS ?_|refine qB ?_|((first|refine qK ?_|refine qX ?_);simp only[ak,reduceIte])|(refine qR (zZ ?_);simp[aF])|(refine qC ?_;simp[aF];(try with_reducible refine⟨?_,?_⟩)<;>(try with_reducible intro hc)<;>try (exfalso;omega))|((first|(refine w_e [] ?_;intro J hJ;simp only[])|(refine w_q ?_;intro J hJ)|refine cI ?_);simp[aF];(repeat refine ca ?_);(try ((try with_reducible refine⟨?_,?_⟩)<;>(try with_reducible intro u9)<;>refine hJ _ _ ?_<;>(try clear hJ J)<;>simp only[ak,reduceIte]<;>try subst u9)))));exact kB):A:=h a1 k
theorem dQ{A Q B:Prop}(hJ:Q)(k:B)(h:Q->True->xWr B->A:=by intro hJ _ kB;(repeat' (first|refine qS ?_|refine qB ?_|((first|refine qK ?_|refine qX ?_);simp only[ak,reduceIte])|(refine qR (zZ ?_);simp[])|(refine qC ?_;simp[];(try with_reducible refine⟨?_,?_⟩)<;>(try with_reducible intro hc)<;>try (exfalso;omega))|((first|(refine w_e [] ?_;intro J hJ;simp only[])|(refine w_q ?_;intro J hJ)|refine cI ?_);simp[];(repeat refine ca ?_);(try ((try with_reducible refine⟨?_,?_⟩)<;>(try with_reducible intro u9)<;>refine hJ _ _ ?_<;>(try clear hJ J)<;>simp only[ak,reduceIte]<;>try subst u9)))));exact kB):A:=h hJ trivial k
theorem nL{p1 A Q B:Prop}(hJ:Q)(a1:p1)(k:B)(h:Q->p1->xWr B->A:=by intro hJ aF kB;(repeat' (first|refine qS ?_|refine qB ?_|((first|refine qK ?_|refine qX ?_);simp only[ak,reduceIte])|(refine qR (zZ ?_);simp[aF])|(refine qC ?_;simp[aF];(try with_reducible refine⟨?_,?_⟩)<;>(try with_reducible intro hc)<;>try (exfalso;omega))|((first|(refine w_e [] ?_;intro J hJ;simp only[])|(refine w_q ?_;intro J hJ)|refine cI ?_);simp[aF];(repeat refine ca ?_);(try ((try with_reducible refine⟨?_,?_⟩)<;>(try with_reducible intro u9)<;>refine hJ _ _ ?_<;>(try clear hJ J)<;>simp only[ak,reduceIte]<;>try subst u9)))));exact kB):A:=h hJ a1 k
theorem XA{p1 p2 p3 p4 p5 p6 p7 p8 p9 P6 A B:Prop}(a1:p1)(a2:p2)(a3:p3)(a4:p4)(a5:p5)(a6:p6)(a7:p7)(a8:p8)(a9:p9)(W7:P6)(k:B)(h:p1/\p2/\p3/\p4/\p5/\p6/\p7/\p8/\p9/\P6->xWr B->A:=by intro aF kB;exact xj1 aF kB):A:=h ⟨a1,a2,a3,a4,a5,a6,a7,a8,a9,W7⟩ k
theorem E5{p1 p2 p3 p4 p5 p6 p7 p8 p9 P6 S3 U2 A B:Prop}(a1:p1)(a2:p2)(a3:p3)(a4:p4)(a5:p5)(a6:p6)(a7:p7)(a8:p8)(a9:p9)(W7:P6)(Y6:S3)(a12:U2)(k:B)(h:p1/\p2/\p3/\p4/\p5/\p6/\p7/\p8/\p9/\P6/\S3/\U2->xWr B->A:=by intro aF kB;exact xj1 aF kB):A:=h ⟨a1,a2,a3,a4,a5,a6,a7,a8,a9,W7,Y6,a12⟩ k
theorem I5{p1 p2 p3 p4 p5 p6 p7 p8 p9 P6 S3 U2 V0 A B:Prop}(a1:p1)(a2:p2)(a3:p3)(a4:p4)(a5:p5)(a6:p6)(a7:p7)(a8:p8)(a9:p9)(W7:P6)(Y6:S3)(a12:U2)(a13:V0)(k:B)(h:p1/\p2/\p3/\p4/\p5/\p6/\p7/\p8/\p9/\P6/\S3/\U2/\V0->xWr B->A:=by intro aF kB;exact xj1 aF kB):A:=h ⟨a1,a2,a3,a4,a5,a6,a7,a8,a9,W7,Y6,a12,a13⟩ k
theorem J4{p1 p2 p3 p4 p5 p6 p7 p8 p9 P6 S3 U2 V0 X4 Z0 A B:Prop}(a1:p1)(a2:p2)(a3:p3)(a4:p4)(a5:p5)(a6:p6)(a7:p7)(a8:p8)(a9:p9)(W7:P6)(Y6:S3)(a12:U2)(a13:V0)(a14:X4)(a15:Z0)(k:B)(h:p1/\p2/\p3/\p4/\p5/\p6/\p7/\p8/\p9/\P6/\S3/\U2/\V0/\X4/\Z0->xWr B->A:=by intro aF kB;exact xj1 aF kB):A:=h ⟨a1,a2,a3,a4,a5,a6,a7,a8,a9,W7,Y6,a12,a13,a14,a15⟩ k
theorem xj2{p1 p2 A B:Prop}(a1:p1)(a2:p2)(k:B)(h:p1/\p2->xWr B->A:=by intro aF kB;exact xj1 aF kB):A:=h ⟨a1,a2⟩ k
theorem G9{p1 p2 p3 p4 p5 p6 p7 p8 p9 P6 S3 U2 V0 X4 Z0 p16 p17 p18 p19 p20 A B:Prop}(a1:p1)(a2:p2)(a3:p3)(a4:p4)(a5:p5)(a6:p6)(a7:p7)(a8:p8)(a9:p9)(W7:P6)(Y6:S3)(a12:U2)(a13:V0)(a14:X4)(a15:Z0)(a16:p16)(a17:p17)(a18:p18)(a19:p19)(a20:p20)(k:B)(h:p1/\p2/\p3/\p4/\p5/\p6/\p7/\p8/\p9/\P6/\S3/\U2/\V0/\X4/\Z0/\p16/\p17/\p18/\p19/\p20->xWr B->A:=by intro aF kB;exact xj1 aF kB):A:=h ⟨a1,a2,a3,a4,a5,a6,a7,a8,a9,W7,Y6,a12,a13,a14,a15,a16,a17,a18,a19,a20⟩ k
theorem xj3{p1 p2 p3 A B:Prop}(a1:p1)(a2:p2)(a3:p3)(k:B)(h:p1/\p2/\p3->xWr B->A:=by intro aF kB;exact xj1 aF kB):A:=h ⟨a1,a2,a3⟩ k
theorem xj4{p1 p2 p3 p4 A B:Prop}(a1:p1)(a2:p2)(a3:p3)(a4:p4)(k:B)(h:p1/\p2/\p3/\p4->xWr B->A:=by intro aF kB;exact xj1 aF kB):A:=h ⟨a1,a2,a3,a4⟩ k
theorem xj5{p1 p2 p3 p4 p5 A B:Prop}(a1:p1)(a2:p2)(a3:p3)(a4:p4)(a5:p5)(k:B)(h:p1/\p2/\p3/\p4/\p5->xWr B->A:=by intro aF kB;exact xj1 aF kB):A:=h ⟨a1,a2,a3,a4,a5⟩ k
theorem xj6{p1 p2 p3 p4 p5 p6 A B:Prop}(a1:p1)(a2:p2)(a3:p3)(a4:p4)(a5:p5)(a6:p6)(k:B)(h:p1/\p2/\p3/\p4/\p5/\p6->xWr B->A:=by intro aF kB;exact xj1 aF kB):A:=h ⟨a1,a2,a3,a4,a5,a6⟩ k
theorem xj7{p1 p2 p3 p4 p5 p6 p7 A B:Prop}(a1:p1)(a2:p2)(a3:p3)(a4:p4)(a5:p5)(a6:p6)(a7:p7)(k:B)(h:p1/\p2/\p3/\p4/\p5/\p6/\p7->xWr B->A:=by intro aF kB;exact xj1 aF kB):A:=h ⟨a1,a2,a3,a4,a5,a6,a7⟩ k
theorem xj8{p1 p2 p3 p4 p5 p6 p7 p8 A B:Prop}(a1:p1)(a2:p2)(a3:p3)(a4:p4)(a5:p5)(a6:p6)(a7:p7)(a8:p8)(k:B)(h:p1/\p2/\p3/\p4/\p5/\p6/\p7/\p8->xWr B->A:=by intro aF kB;exact xj1 aF kB):A:=h ⟨a1,a2,a3,a4,a5,a6,a7,a8⟩ k
theorem xj9{p1 p2 p3 p4 p5 p6 p7 p8 p9 A B:Prop}(a1:p1)(a2:p2)(a3:p3)(a4:p4)(a5:p5)(a6:p6)(a7:p7)(a8:p8)(a9:p9)(k:B)(h:p1/\p2/\p3/\p4/\p5/\p6/\p7/\p8/\p9->xWr B->A:=by intro aF kB;exact xj1 aF kB):A:=h ⟨a1,a2,a3,a4,a5,a6,a7,a8,a9⟩ k
theorem Zt{p1 p2 p3 p4 p5 p6 p7 p8 p9 P6 S3 U2 V0 X4 Z0 A Q B:Prop}(hJ:Q)(a1:p1)(a2:p2)(a3:p3)(a4:p4)(a5:p5)(a6:p6)(a7:p7)(a8:p8)(a9:p9)(W7:P6)(Y6:S3)(a12:U2)(a13:V0)(a14:X4)(a15:Z0)(k:B)(h:Q->p1/\p2/\p3/\p4/\p5/\p6/\p7/\p8/\p9/\P6/\S3/\U2/\V0/\X4/\Z0->xWr B->A:=by intro hJ aF kB;exact JB hJ aF kB):A:=h hJ ⟨a1,a2,a3,a4,a5,a6,a7,a8,a9,W7,Y6,a12,a13,a14,a15⟩ k
theorem NI{p1 p2 A Q B:Prop}(hJ:Q)(a1:p1)(a2:p2)(k:B)(h:Q->p1/\p2->xWr B->A:=by intro hJ aF kB;exact JB hJ aF kB):A:=h hJ ⟨a1,a2⟩ k
theorem I9{p1 p2 p3 A Q B:Prop}(hJ:Q)(a1:p1)(a2:p2)(a3:p3)(k:B)(h:Q->p1/\p2/\p3->xWr B->A:=by intro hJ aF kB;exact JB hJ aF kB):A:=h hJ ⟨a1,a2,a3⟩ k
theorem E0{p1 p2 p3 p4 A Q B:Prop}(hJ:Q)(a1:p1)(a2:p2)(a3:p3)(a4:p4)(k:B)(h:Q->p1/\p2/\p3/\p4->xWr B->A:=by intro hJ aF kB;exact JB hJ aF kB):A:=h hJ ⟨a1,a2,a3,a4⟩ k
theorem Yj{p1 p2 p3 p4 p5 A Q B:Prop}(hJ:Q)(a1:p1)(a2:p2)(a3:p3)(a4:p4)(a5:p5)(k:B)(h:Q->p1/\p2/\p3/\p4/\p5->xWr B->A:=by intro hJ aF kB;exact JB hJ aF kB):A:=h hJ ⟨a1,a2,a3,a4,a5⟩ k
theorem D7{p1 p2 p3 p4 p5 p6 p7 A Q B:Prop}(hJ:Q)(a1:p1)(a2:p2)(a3:p3)(a4:p4)(a5:p5)(a6:p6)(a7:p7)(k:B)(h:Q->p1/\p2/\p3/\p4/\p5/\p6/\p7->xWr B->A:=by intro hJ aF kB;exact JB hJ aF kB):A:=h hJ ⟨a1,a2,a3,a4,a5,a6,a7⟩ k
theorem I4{p1 p2 p3 p4 p5 p6 p7 p8 A Q B:Prop}(hJ:Q)(a1:p1)(a2:p2)(a3:p3)(a4:p4)(a5:p5)(a6:p6)(a7:p7)(a8:p8)(k:B)(h:Q->p1/\p2/\p3/\p4/\p5/\p6/\p7/\p8->xWr B->A:=by intro hJ aF kB;exact JB hJ aF kB):A:=h hJ ⟨a1,a2,a3,a4,a5,a6,a7,a8⟩ k
theorem xv2{p1 p2 A:Prop}(a1:p1)(a2:p2)(h:p1/\p2->A:=by intro aF;exact xv1 aF):A:=h ⟨a1,a2⟩
theorem xv3{p1 p2 p3 A:Prop}(a1:p1)(a2:p2)(a3:p3)(h:p1/\p2/\p3->A:=by intro aF;exact xv1 aF):A:=h ⟨a1,a2,a3⟩
theorem xv4{p1 p2 p3 p4 A:Prop}(a1:p1)(a2:p2)(a3:p3)(a4:p4)(h:p1/\p2/\p3/\p4->A:=by intro aF;exact xv1 aF):A:=h ⟨a1,a2,a3,a4⟩
theorem xv7{p1 p2 p3 p4 p5 p6 p7 A:Prop}(a1:p1)(a2:p2)(a3:p3)(a4:p4)(a5:p5)(a6:p6)(a7:p7)(h:p1/\p2/\p3/\p4/\p5/\p6/\p7->A:=by intro aF;exact xv1 aF):A:=h ⟨a1,a2,a3,a4,a5,a6,a7⟩
theorem XM{p1 p2 A Q:Prop}(hJ:Q)(a1:p1)(a2:p2)(h:Q->p1/\p2->A:=by intro hJ aF;exact PN hJ aF):A:=h hJ ⟨a1,a2⟩
theorem G3{p1 p2 p3 A Q:Prop}(hJ:Q)(a1:p1)(a2:p2)(a3:p3)(h:Q->p1/\p2/\p3->A:=by intro hJ aF;exact PN hJ aF):A:=h hJ ⟨a1,a2,a3⟩
theorem I7{p1 p2 p3 p4 A Q:Prop}(hJ:Q)(a1:p1)(a2:p2)(a3:p3)(a4:p4)(h:Q->p1/\p2/\p3/\p4->A:=by intro hJ aF;exact PN hJ aF):A:=h hJ ⟨a1,a2,a3,a4⟩
theorem Fx{p1 p2 p3 p4 p5 p6 p7 p8 p9 P6 A B:Prop}(a1:p1)(a2:p2)(a3:p3)(a4:p4)(a5:p5)(a6:p6)(a7:p7)(a8:p8)(a9:p9)(W7:P6)(k:B)(h:p1/\p2/\p3/\p4/\p5/\p6/\p7/\p8/\p9/\P6->xWr B->A:=by intro aF kB;exact xw1 aF kB):A:=h ⟨a1,a2,a3,a4,a5,a6,a7,a8,a9,W7⟩ k
theorem YZ{p1 p2 p3 p4 p5 p6 p7 p8 p9 P6 S3 A B:Prop}(a1:p1)(a2:p2)(a3:p3)(a4:p4)(a5:p5)(a6:p6)(a7:p7)(a8:p8)(a9:p9)(W7:P6)(Y6:S3)(k:B)(h:p1/\p2/\p3/\p4/\p5/\p6/\p7/\p8/\p9/\P6/\S3->xWr B->A:=by intro aF kB;exact xw1 aF kB):A:=h ⟨a1,a2,a3,a4,a5,a6,a7,a8,a9,W7,Y6⟩ k
theorem Zf{p1 p2 p3 p4 p5 p6 p7 p8 p9 P6 S3 U2 V0 A B:Prop}(a1:p1)(a2:p2)(a3:p3)(a4:p4)(a5:p5)(a6:p6)(a7:p7)(a8:p8)(a9:p9)(W7:P6)(Y6:S3)(a12:U2)(a13:V0)(k:B)(h:p1/\p2/\p3/\p4/\p5/\p6/\p7/\p8/\p9/\P6/\S3/\U2/\V0->xWr B->A:=by intro aF kB;exact xw1 aF kB):A:=h ⟨a1,a2,a3,a4,a5,a6,a7,a8,a9,W7,Y6,a12,a13⟩ k
theorem XH{p1 p2 p3 p4 p5 p6 p7 p8 p9 P6 S3 U2 V0 X4 A B:Prop}(a1:p1)(a2:p2)(a3:p3)(a4:p4)(a5:p5)(a6:p6)(a7:p7)(a8:p8)(a9:p9)(W7:P6)(Y6:S3)(a12:U2)(a13:V0)(a14:X4)(k:B)(h:p1/\p2/\p3/\p4/\p5/\p6/\p7/\p8/\p9/\P6/\S3/\U2/\V0/\X4->xWr B->A:=by intro aF kB;exact xw1 aF kB):A:=h ⟨a1,a2,a3,a4,a5,a6,a7,a8,a9,W7,Y6,a12,a13,a14⟩ k
theorem E3{p1 p2 p3 p4 p5 p6 p7 p8 p9 P6 S3 U2 V0 X4 Z0 A B:Prop}(a1:p1)(a2:p2)(a3:p3)(a4:p4)(a5:p5)(a6:p6)(a7:p7)(a8:p8)(a9:p9)(W7:P6)(Y6:S3)(a12:U2)(a13:V0)(a14:X4)(a15:Z0)(k:B)(h:p1/\p2/\p3/\p4/\p5/\p6/\p7/\p8/\p9/\P6/\S3/\U2/\V0/\X4/\Z0->xWr B->A:=by intro aF kB;exact xw1 aF kB):A:=h ⟨a1,a2,a3,a4,a5,a6,a7,a8,a9,W7,Y6,a12,a13,a14,a15⟩ k
theorem RU{p1 p2 p3 p4 p5 p6 p7 p8 p9 P6 S3 U2 V0 X4 Z0 p16 A B:Prop}(a1:p1)(a2:p2)(a3:p3)(a4:p4)(a5:p5)(a6:p6)(a7:p7)(a8:p8)(a9:p9)(W7:P6)(Y6:S3)(a12:U2)(a13:V0)(a14:X4)(a15:Z0)(a16:p16)(k:B)(h:p1/\p2/\p3/\p4/\p5/\p6/\p7/\p8/\p9/\P6/\S3/\U2/\V0/\X4/\Z0/\p16->xWr B->A:=by intro aF kB;exact xw1 aF kB):A:=h ⟨a1,a2,a3,a4,a5,a6,a7,a8,a9,W7,Y6,a12,a13,a14,a15,a16⟩ k
theorem K2{p1 p2 p3 p4 p5 p6 p7 p8 p9 P6 S3 U2 V0 X4 Z0 p16 p17 A B:Prop}(a1:p1)(a2:p2)(a3:p3)(a4:p4)(a5:p5)(a6:p6)(a7:p7)(a8:p8)(a9:p9)(W7:P6)(Y6:S3)(a12:U2)(a13:V0)(a14:X4)(a15:Z0)(a16:p16)(a17:p17)(k:B)(h:p1/\p2/\p3/\p4/\p5/\p6/\p7/\p8/\p9/\P6/\S3/\U2/\V0/\X4/\Z0/\p16/\p17->xWr B->A:=by intro aF kB;exact xw1 aF kB):A:=h ⟨a1,a2,a3,a4,a5,a6,a7,a8,a9,W7,Y6,a12,a13,a14,a15,a16,a17⟩ k
theorem ZW{p1 p2 p3 p4 p5 p6 p7 p8 p9 P6 S3 U2 V0 X4 Z0 p16 p17 p18 A B:Prop}(a1:p1)(a2:p2)(a3:p3)(a4:p4)(a5:p5)(a6:p6)(a7:p7)(a8:p8)(a9:p9)(W7:P6)(Y6:S3)(a12:U2)(a13:V0)(a14:X4)(a15:Z0)(a16:p16)(a17:p17)(a18:p18)(k:B)(h:p1/\p2/\p3/\p4/\p5/\p6/\p7/\p8/\p9/\P6/\S3/\U2/\V0/\X4/\Z0/\p16/\p17/\p18->xWr B->A:=by intro aF kB;exact xw1 aF kB):A:=h ⟨a1,a2,a3,a4,a5,a6,a7,a8,a9,W7,Y6,a12,a13,a14,a15,a16,a17,a18⟩ k
theorem xw2{p1 p2 A B:Prop}(a1:p1)(a2:p2)(k:B)(h:p1/\p2->xWr B->A:=by intro aF kB;exact xw1 aF kB):A:=h ⟨a1,a2⟩ k
theorem F4{p1 p2 p3 p4 p5 p6 p7 p8 p9 P6 S3 U2 V0 X4 Z0 p16 p17 p18 p19 p20 A B:Prop}(a1:p1)(a2:p2)(a3:p3)(a4:p4)(a5:p5)(a6:p6)(a7:p7)(a8:p8)(a9:p9)(W7:P6)(Y6:S3)(a12:U2)(a13:V0)(a14:X4)(a15:Z0)(a16:p16)(a17:p17)(a18:p18)(a19:p19)(a20:p20)(k:B)(h:p1/\p2/\p3/\p4/\p5/\p6/\p7/\p8/\p9/\P6/\S3/\U2/\V0/\X4/\Z0/\p16/\p17/\p18/\p19/\p20->xWr B->A:=by intro aF kB;exact xw1 aF kB):A:=h ⟨a1,a2,a3,a4,a5,a6,a7,a8,a9,W7,Y6,a12,a13,a14,a15,a16,a17,a18,a19,a20⟩ k
theorem J3{p1 p2 p3 p4 p5 p6 p7 p8 p9 P6 S3 U2 V0 X4 Z0 p16 p17 p18 p19 p20 p21 A B:Prop}(a1:p1)(a2:p2)(a3:p3)(a4:p4)(a5:p5)(a6:p6)(a7:p7)(a8:p8)(a9:p9)(W7:P6)(Y6:S3)(a12:U2)(a13:V0)(a14:X4)(a15:Z0)(a16:p16)(a17:p17)(a18:p18)(a19:p19)(a20:p20)(a21:p21)(k:B)(h:p1/\p2/\p3/\p4/\p5/\p6/\p7/\p8/\p9/\P6/\S3/\U2/\V0/\X4/\Z0/\p16/\p17/\p18/\p19/\p20/\p21->xWr B->A:=by intro aF kB;exact xw1 aF kB):A:=h ⟨a1,a2,a3,a4,a5,a6,a7,a8,a9,W7,Y6,a12,a13,a14,a15,a16,a17,a18,a19,a20,a21⟩ k
theorem G4{p1 p2 p3 p4 p5 p6 p7 p8 p9 P6 S3 U2 V0 X4 Z0 p16 p17 p18 p19 p20 p21 p22 p23 p24 A B:Prop}(a1:p1)(a2:p2)(a3:p3)(a4:p4)(a5:p5)(a6:p6)(a7:p7)(a8:p8)(a9:p9)(W7:P6)(Y6:S3)(a12:U2)(a13:V0)(a14:X4)(a15:Z0)(a16:p16)(a17:p17)(a18:p18)(a19:p19)(a20:p20)(a21:p21)(a22:p22)(a23:p23)(a24:p24)(k:B)(h:p1/\p2/\p3/\p4/\p5/\p6/\p7/\p8/\p9/\P6/\S3/\U2/\V0/\X4/\Z0/\p16/\p17/\p18/\p19/\p20/\p21/\p22/\p23/\p24->xWr B->A:=by intro aF kB;exact xw1 aF kB):A:=h ⟨a1,a2,a3,a4,a5,a6,a7,a8,a9,W7,Y6,a12,a13,a14,a15,a16,a17,a18,a19,a20,a21,a22,a23,a24⟩ k
theorem xw3{p1 p2 p3 A B:Prop}(a1:p1)(a2:p2)(a3:p3)(k:B)(h:p1/\p2/\p3->xWr B->A:=by intro aF kB;exact xw1 aF kB):A:=h ⟨a1,a2,a3⟩ k
theorem xw4{p1 p2 p3 p4 A B:Prop}(a1:p1)(a2:p2)(a3:p3)(a4:p4)(k:B)(h:p1/\p2/\p3/\p4->xWr B->A:=by intro aF kB;exact xw1 aF kB):A:=h ⟨a1,a2,a3,a4⟩ k
theorem xw5{p1 p2 p3 p4 p5 A B:Prop}(a1:p1)(a2:p2)(a3:p3)(a4:p4)(a5:p5)(k:B)(h:p1/\p2/\p3/\p4/\p5->xWr B->A:=by intro aF kB;exact xw1 aF kB):A:=h ⟨a1,a2,a3,a4,a5⟩ k
theorem xw6{p1 p2 p3 p4 p5 p6 A B:Prop}(a1:p1)(a2:p2)(a3:p3)(a4:p4)(a5:p5)(a6:p6)(k:B)(h:p1/\p2/\p3/\p4/\p5/\p6->xWr B->A:=by intro aF kB;exact xw1 aF kB):A:=h ⟨a1,a2,a3,a4,a5,a6⟩ k
theorem xw7{p1 p2 p3 p4 p5 p6 p7 A B:Prop}(a1:p1)(a2:p2)(a3:p3)(a4:p4)(a5:p5)(a6:p6)(a7:p7)(k:B)(h:p1/\p2/\p3/\p4/\p5/\p6/\p7->xWr B->A:=by intro aF kB;exact xw1 aF kB):A:=h ⟨a1,a2,a3,a4,a5,a6,a7⟩ k
theorem xw8{p1 p2 p3 p4 p5 p6 p7 p8 A B:Prop}(a1:p1)(a2:p2)(a3:p3)(a4:p4)(a5:p5)(a6:p6)(a7:p7)(a8:p8)(k:B)(h:p1/\p2/\p3/\p4/\p5/\p6/\p7/\p8->xWr B->A:=by intro aF kB;exact xw1 aF kB):A:=h ⟨a1,a2,a3,a4,a5,a6,a7,a8⟩ k
theorem xw9{p1 p2 p3 p4 p5 p6 p7 p8 p9 A B:Prop}(a1:p1)(a2:p2)(a3:p3)(a4:p4)(a5:p5)(a6:p6)(a7:p7)(a8:p8)(a9:p9)(k:B)(h:p1/\p2/\p3/\p4/\p5/\p6/\p7/\p8/\p9->xWr B->A:=by intro aF kB;exact xw1 aF kB):A:=h ⟨a1,a2,a3,a4,a5,a6,a7,a8,a9⟩ k
theorem vP{p1 p2 A Q B:Prop}(hJ:Q)(a1:p1)(a2:p2)(k:B)(h:Q->p1/\p2->xWr B->A:=by intro hJ aF kB;exact nL hJ aF kB):A:=h hJ ⟨a1,a2⟩ k
theorem wJ{p1 p2 p3 A Q B:Prop}(hJ:Q)(a1:p1)(a2:p2)(a3:p3)(k:B)(h:Q->p1/\p2/\p3->xWr B->A:=by intro hJ aF kB;exact nL hJ aF kB):A:=h hJ ⟨a1,a2,a3⟩ k
theorem ZP{p1 p2 p3 p4 A Q B:Prop}(hJ:Q)(a1:p1)(a2:p2)(a3:p3)(a4:p4)(k:B)(h:Q->p1/\p2/\p3/\p4->xWr B->A:=by intro hJ aF kB;exact nL hJ aF kB):A:=h hJ ⟨a1,a2,a3,a4⟩ k
theorem VT{p1 p2 p3 p4 p5 A Q B:Prop}(hJ:Q)(a1:p1)(a2:p2)(a3:p3)(a4:p4)(a5:p5)(k:B)(h:Q->p1/\p2/\p3/\p4/\p5->xWr B->A:=by intro hJ aF kB;exact nL hJ aF kB):A:=h hJ ⟨a1,a2,a3,a4,a5⟩ k
theorem ZX{p1 p2 p3 p4 p5 p6 p7 A Q B:Prop}(hJ:Q)(a1:p1)(a2:p2)(a3:p3)(a4:p4)(a5:p5)(a6:p6)(a7:p7)(k:B)(h:Q->p1/\p2/\p3/\p4/\p5/\p6/\p7->xWr B->A:=by intro hJ aF kB;exact nL hJ aF kB):A:=h hJ ⟨a1,a2,a3,a4,a5,a6,a7⟩ k
theorem Xz{p1 p2 p3 p4 p5 p6 p7 p8 A Q B:Prop}(hJ:Q)(a1:p1)(a2:p2)(a3:p3)(a4:p4)(a5:p5)(a6:p6)(a7:p7)(a8:p8)(k:B)(h:Q->p1/\p2/\p3/\p4/\p5/\p6/\p7/\p8->xWr B->A:=by intro hJ aF kB;exact nL hJ aF kB):A:=h hJ ⟨a1,a2,a3,a4,a5,a6,a7,a8⟩ k
theorem sF1{p0 q:Prop}(a0:p0)(h:p0->q:=by intro a;simp[a]):q:=h a0
theorem sF2{p0 p1 q:Prop}(a0:p0)(a1:p1)(h:p0/\p1->q:=by intro a;simp[a]):q:=h ⟨a0,a1⟩
theorem sF3{p0 p1 p2 q:Prop}(a0:p0)(a1:p1)(a2:p2)(h:p0/\p1/\p2->q:=by intro a;simp[a]):q:=h ⟨a0,a1,a2⟩
theorem sF4{p0 p1 p2 p3 q:Prop}(a0:p0)(a1:p1)(a2:p2)(a3:p3)(h:p0/\p1/\p2/\p3->q:=by intro a;simp[a]):q:=h ⟨a0,a1,a2,a3⟩
theorem sF5{p0 p1 p2 p3 p4 q:Prop}(a0:p0)(a1:p1)(a2:p2)(a3:p3)(a4:p4)(h:p0/\p1/\p2/\p3/\p4->q:=by intro a;simp[a]):q:=h ⟨a0,a1,a2,a3,a4⟩
theorem sF6{p0 p1 p2 p3 p4 p5 q:Prop}(a0:p0)(a1:p1)(a2:p2)(a3:p3)(a4:p4)(a5:p5)(h:p0/\p1/\p2/\p3/\p4/\p5->q:=by intro a;simp[a]):q:=h ⟨a0,a1,a2,a3,a4,a5⟩
section
variable {P:Program} {T:Tab} {N:Nat} {ops:Array Oper} {M B:List Nat} {J:Frm->St->Prop} {rest:List Oper} {d:Option Nat} {fr:Frm} {st j9 s1:St} {f:FuncId} {args T8:List LV} {r0:LV} {π:List (Nat×Bool×Oper)} {nd:Bool}
theorem xcP(h:aB P f T8 st fun r st'=>r=r0/\st'=s1)(hk:cM P T N ops M J rest (bM fr d r0) s1)(ha:args.map norm=T8:=by simp):CO P T N ops M J rest d fr st f args:=qE h ha (by rintro r s ⟨rfl,rfl⟩;exact hk)
theorem xdP(h:aB P f T8 st fun r st'=>r=r0/\st'=s1)(hk:(nd=true->SB B j9 s1)/\eE P T ops M B j9 J π (bM fr d r0) s1)(ha:args.map norm=T8:=by simp):Bb P T ops M B j9 J π nd d fr st f args:=qD h ha (by rintro r s ⟨rfl,rfl⟩;exact hk)
end
end Aw
end Go.Proofs.YtbgngpdonpeboaaGreatDoor
