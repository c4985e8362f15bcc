/- Running a region by evaluation; a function's contract out of its body. No program is named here. -/
import Derived.Test.YtempldclppogmaaGreatDoorAwSound3
import Derived.StillTail
set_option linter.unusedVariables false
set_option linter.unusedSimpArgs false
namespace Go.Proofs.YtempldclppogmaaGreatDoor
namespace Aw
open Go Go.RowKit
def inM(M:List Nat):Option Nat->Bool
 |some d=>M.contains d
 |none=>false
def Ef:BinOp->Option Bool
 |.eql=>some false
 |.neq=>some true
 |_=>none
def tC:LV->Option Nat
 |.sl _ n _=>some n
 |.emp=>some 0
 |.ms _ _ n=>some n
 |_=>none
def sJ(T:Tab)(o:Oper)(fr:Frm):Option (Bool×Nat):=
 match o.op with
 |.binOp op t x (.const (.slice none 0 0)) _=>match cO T t,Ef op,tC (aI fr x) with
  |some _,some ng,some n=>some (ng,n)
  |_,_,_=>none
 |_=>none
theorem Ev{w:World}{g:G}{lv:LV}{v:Value}{n:Nat}(h:tC lv=some n)(hr:Rep w g lv v):∃ A c,v=.slice A n c/\(A=none->n=0):=by
 cases lv with
 |sl t n' cs=>simp only[tC,aAb]at h;subst h;simp only[Rep]at hr;obtain⟨A,cap,hv,G8,hm,_⟩:=hr;exact⟨A,cap,hv,fun hA=>by have:=hm.2 hA;omega⟩
 |emp=>simp only[tC,aAb]at h;subst h;simp only[Rep]at hr;obtain⟨A,hv⟩:=hr;exact⟨A,0,hv,fun _=>rfl⟩
 |ms l o n'=>
  simp only[tC,aAb]at h;subst h;simp only[Rep]at hr;obtain⟨A,cap,hv,G8,hm,_,L9,_⟩:=hr;refine⟨A,cap,hv,fun hA=>?_⟩;rcases aCY n' with h0|h0
  .exact h0
  .have:=L9 oO;rw[hA]at this;cases this
 |_=>simp[tC]at h
def cM(P:Program)(T:Tab)(N:Nat)(ops:Array Oper)(M:List Nat)(J:Frm->St->Prop):List Oper->Frm->St->Prop
 |[],fr,st=>J fr st
 |o::rest,fr,st=>match bG ops fr o.guard with
  |some b=>(b=true->(match o.op with
    |.call { callee:=.value x,args:=args,argTypes:=_ }=>match eJ (aI fr x) with
     |some (f,cY)=>∃ R,aB P f ((args.toList.map (aI fr))++cY) st R/\∀ r st',R r st'->cM P T N ops M J rest (bP fr o.dst r) st'
     |none=>False
    |_=>match sJ T o fr with
     |some (ng,n)=>∀ b:Bool,(b=true->n=0)->cM P T N ops M J rest (bP fr o.dst (.atom (.bool (b != ng)))) st
     |none=>match aop T (inM M o.dst) o fr st with
      |some r=>r.c/\cM P T N ops M J rest (bP fr o.dst r.v) r.s
      |none=>False))/\(b=false->cM P T N ops M J rest (bP fr o.dst (.tu [])) st)
  |none=>False
def DK(P:Program)(T:Tab)(N:Nat)(ops:Array Oper)(M:List Nat)(J:Frm->St->Prop)(rest:List Oper)(d:Option Nat)(fr:Frm)(st:St)(f:FuncId)(args:List LV):Prop:=
 ∃ R,aB P f args st R/\∀ r st',R r st'->cM P T N ops M J rest (bP fr d r) st'
def KI(P:Program)(T:Tab)(N:Nat)(ops:Array Oper)(M:List Nat)(J:Frm->St->Prop)(rest:List Oper)(d:Option Nat)(fr:Frm)(st:St)(args:List LV):Option (FuncId×List LV)->Prop
 |some (f,cY)=>DK P T N ops M J rest d fr st f (args++cY)
 |none=>False
def KS(P:Program)(T:Tab)(N:Nat)(ops:Array Oper)(M:List Nat)(J:Frm->St->Prop)(rest:List Oper)(d:Option Nat)(fr:Frm):Option bT->Prop
 |some r=>r.c/\cM P T N ops M J rest (bP fr d r.v) r.s
 |none=>False
def Cc(P:Program)(T:Tab)(N:Nat)(ops:Array Oper)(M:List Nat)(J:Frm->St->Prop)(rest:List Oper)(o:Oper)(fr:Frm)(st:St):Option (Bool×Nat)->Prop
 |some (ng,n)=>∀ b:Bool,(b=true->n=0)->cM P T N ops M J rest (bP fr o.dst (.atom (.bool (b != ng)))) st
 |none=>KS P T N ops M J rest o.dst fr (aop T (inM M o.dst) o fr st)
def uT(P:Program)(T:Tab)(N:Nat)(ops:Array Oper)(M:List Nat)(J:Frm->St->Prop)(rest:List Oper)(o:Oper)(fr:Frm)(st:St):Prop:=
 match o.op with
 |.call { callee:=.value x,args:=args,argTypes:=_ }=>KI P T N ops M J rest o.dst fr st (args.toList.map (aI fr)) (eJ (aI fr x))
 |_=>Cc P T N ops M J rest o fr st (sJ T o fr)
def AD(P:Program)(T:Tab)(N:Nat)(ops:Array Oper)(M:List Nat)(J:Frm->St->Prop)(rest:List Oper)(o:Oper)(fr:Frm)(st:St):Option Bool->Prop
 |some b=>(b=true->uT P T N ops M J rest o fr st)/\(b=false->cM P T N ops M J rest (bP fr o.dst (.tu [])) st)
 |none=>False
section
variable {P:Program} {T:Tab} {N:Nat} {ops:Array Oper} {M:List Nat} {J:Frm->St->Prop} {rest:List Oper} {o:Oper} {fr:Frm} {st:St} {d:Option Nat}
theorem Vf:cM P T N ops M J [] fr st=J fr st:=rfl
theorem JT:cM P T N ops M J (o::rest) fr st=AD P T N ops M J rest o fr st (bG ops fr o.guard):=by
 unfold cM AD uT;cases bG ops fr o.guard with
 |none=>rfl
 |some b=>
  simp only
  congr 1
theorem NW:AD P T N ops M J rest o fr st (some true)=uT P T N ops M J rest o fr st:=by simp[AD]
theorem JZ:AD P T N ops M J rest o fr st (some false)=cM P T N ops M J rest (bP fr o.dst (.tu [])) st:=by simp[AD]
theorem SJ:Cc P T N ops M J rest o fr st none=KS P T N ops M J rest o.dst fr (aop T (inM M o.dst) o fr st):=rfl
theorem Pk(ng:Bool)(n:Nat):Cc P T N ops M J rest o fr st (some (ng,n))=∀ b:Bool,(b=true->n=0)->cM P T N ops M J rest (bP fr o.dst (.atom (.bool (b != ng)))) st:=rfl
theorem Tu(r:bT):KS P T N ops M J rest d fr (some r)=(r.c/\cM P T N ops M J rest (bP fr d r.v) r.s):=rfl
theorem UZ(f:FuncId)(cY args:List LV):KI P T N ops M J rest d fr st args (some (f,cY))=DK P T N ops M J rest d fr st f (args++cY):=rfl
theorem CY{w:World}{g:G}:∀(xs:List LV) (vs:List Value),aC w g xs vs->aC w g (xs.map norm) vs
 |[],vs,h=>h
 |x::xs,vs,h=>by simp only[aC,aAj]at h ⊢;obtain⟨v,vs',rfl,h1,h2⟩:=h;exact⟨v,vs',rfl,uR h1,CY xs vs' h2⟩
theorem aB.of_norm{f:FuncId}{args:List LV}{R:LV->St->Prop}(h:aB P f (args.map norm) st R):aB P f args st R:=
 ⟨h.1,fun w g vs hi hr=>h.2 w g vs hi (CY _ _ hr)⟩
theorem aD(h:cM P T N ops M J rest fr st):cM P T N ops M J rest fr st:=h
theorem qF{f:FuncId}{args:List LV}{R:LV->St->Prop}(h:aB P f args st R)(hk:∀ r st',R r st'->cM P T N ops M J rest (bP fr d r) st'):DK P T N ops M J rest d fr st f args:=⟨R,h,hk⟩
theorem IA{w:World}{t:TypeId}{e:TypeId}(ht:P.underlying t=some (.slice e))(A:Option Addr)(n c:Nat)(x y:Operand):
 (do eqGuard .eql t x y (.slice A n c) (.slice none 0 0);binOp .eql t (.slice A n c) (.slice none 0 0):Sem Value).run P w=.ok (.bool A.isNone) w/\
 (do eqGuard .neq t x y (.slice A n c) (.slice none 0 0);binOp .neq t (.slice A n c) (.slice none 0 0):Sem Value).run P w=.ok (.bool (!A.isNone)) w:=by
 have hd:∀ d,(Op.equalIn (d+1) t (.slice A n c) (.slice none 0 0)).run P w=.ok A.isNone w:=by intro d;cases A<;>simp[Op.equalIn,run_underlying ht]
 have he:(Op.equal t (.slice A n c) (.slice none 0 0)).run P w=.ok A.isNone w:=hd 9999;constructor
 .unfold eqGuard;simp[binOp,he]
 .unfold eqGuard;simp[binOp,he]
theorem He(hT:bF P T){Q:AQ}{ng:Bool}{n:Nat}(hn:sJ T o fr=some (ng,n))
 (hw:bG ops fr o.guard=some true) (hk:jQ N ops o.guard=true) (hd:oH N o.dst=true)
 (h:∀ b:Bool,(b=true->n=0)->Az P N ops rest Q (bP fr o.dst (.atom (.bool (b != ng)))) st):Az P N ops (o::rest) Q fr st:=by
 intro a w g hi hr hs E7;have key:∃ b:Bool,(b=true->n=0)/\(execOp a.eval o).run P w=.ok (.value (.bool (b != ng))) w:=by
  unfold sJ at hn
  split at hn
  .rename_i op t x t' u7
   split at hn
   .rename_i e ng' n' hse F5 hln;simp only[aAb,aAV]at hn;obtain⟨rfl,rfl⟩:=hn;obtain⟨A,c,hv,hA⟩:=Ev hln (aE hr x);have Xv:=IA (P:=P) (w:=w) (cF hT hse) A n' c x (.const (.slice none 0 0));refine⟨A.isNone,fun hb=>hA (by simpa using hb),?_⟩;cases op<;>simp only[Ef,aAb,reduceCtorEq]at F5
    .subst F5;have hc:a.eval (.const (.slice none 0 0))=.slice none 0 0:=rfl;simp only[execOp,u7,hv,hc];rw[Sem.run_bind,Xv.1];simp
    .subst F5;have hc:a.eval (.const (.slice none 0 0))=.slice none 0 0:=rfl;simp only[execOp,u7,hv,hc];rw[Sem.run_bind,Xv.2];simp
   .simp at hn
  .simp at hn
 obtain⟨b,hb,Xv⟩:=key;have hwt:Region.wanted o (yielded ops a.tmps)=true:=eG hr hw (by rw[hs];exact hU hk);simp only[wpList,hwt,aBn];left;unfold Oper.wp;rw[Xv,Oper.upon_value];exact h b hb _ w g hi (dR hr (by rw[hs];exact hd) (by simp only[Rep])) (by rw[bS];exact hs) (by rw[put_defers];exact E7)
theorem MX{f:FuncId}{args:List LV}{R:LV->St->Prop}(h:aB P f (args.map norm) st R)(hk:∀ r st',R r st'->cM P T N ops M J rest (bP fr d r) st'):DK P T N ops M J rest d fr st f args:=⟨R,h.of_norm,hk⟩
def cW(N:Nat)(ops:Array Oper)(l:List Oper):Bool:=l.all fun o=>oH N o.dst&&jQ N ops o.guard
theorem lH(hT:bF P T){Q:AQ}(hJ:∀ fr st,J fr st->Q .normal fr st):∀(rest:List Oper) (fr:Frm) (st:St),cW N ops rest=true->cM P T N ops M J rest fr st->Az P N ops rest Q fr st
 |[],fr,st,_,h=>OU (hJ _ _ h)
 |o::rest,fr,st,hk,h=>by
  simp only[cW,List.all_cons,aAS]at hk;obtain⟨⟨hd,hg⟩,hk⟩:=hk;have ih:=lH hT hJ rest;have ZA:cW N ops rest=true:=hk;unfold cM at h;cases hw:bG ops fr o.guard with
  |none=>rw[hw]at h;exact h.elim
  |some b=>
   rw[hw]at h;cases b with
   |false=>exact MF hw hg hd (ih _ _ ZA (h.2 rfl))
   |true=>
    have h1:=h.1 rfl
    split at h1
    .rename_i x args U2 u7
     split at h1
     .rename_i f cY hf;obtain⟨R,hR,hn⟩:=h1;exact LD u7 hw hg hd hf hR (fun r st' hr=>ih _ _ ZA (hn r st' hr))
     .exact h1.elim
    .split at h1
     .rename_i ng n G8;exact He hT G8 hw hg hd (fun b hb=>ih _ _ ZA (h1 b hb))
     .split at h1
      .rename_i r hr;exact SX hw hg hd (uX hT hr h1.1) (ih _ _ ZA h1.2)
      .exact h1.elim
theorem lY(hT:bF P T)(M:List Nat){Q:AQ}{id:Nat}(hk:cW N ops ops.toList=true)
 (h:∀ J:Frm->St->Prop,(∀ fr st,Q .normal fr st->J fr st)->cM P T N ops M J ops.toList fr st):AWp P N (.region id ops false) Q fr st:=
 Hw (lH (M:=M) hT (J:=fun fr st=>Q .normal fr st) (fun _ _ h=>h) _ _ _ hk (h _ (fun _ _ h=>h)))
end
section
variable {P:Program} {T:Tab} {N:Nat} {ops:Array Oper} {M:List Nat} {fr:Frm} {st:St}
def gF(T:Tab)(ops:Array Oper)(J:Frm->St->Prop):List Oper->Frm->St->Prop
 |[],fr,st=>J fr st
 |o::rest,fr,st=>match bG ops fr o.guard with
  |some b=>(b=true->match aop T false o fr st with
    |some r=>r.c/\gF T ops J rest (bP fr o.dst r.v) st
    |none=>False)/\(b=false->gF T ops J rest (bP fr o.dst (.tu [])) st)
  |none=>False
def Ij(T:Tab)(ops:Array Oper)(J:Frm->St->Prop)(rest:List Oper)(d:Option Nat)(fr:Frm)(st:St):Option bT->Prop
 |some r=>r.c/\gF T ops J rest (bP fr d r.v) st
 |none=>False
def vX(T:Tab)(ops:Array Oper)(J:Frm->St->Prop)(rest:List Oper)(o:Oper)(fr:Frm)(st:St):Option Bool->Prop
 |some b=>(b=true->Ij T ops J rest o.dst fr st (aop T false o fr st))/\(b=false->gF T ops J rest (bP fr o.dst (.tu [])) st)
 |none=>False
theorem WA{J:Frm->St->Prop}:gF T ops J [] fr st=J fr st:=rfl
theorem UG{J:Frm->St->Prop}{o:Oper}{rest:List Oper}:gF T ops J (o::rest) fr st=vX T ops J rest o fr st (bG ops fr o.guard):=by unfold gF vX;cases bG ops fr o.guard<;>rfl
theorem Ug{J:Frm->St->Prop}{o:Oper}{rest:List Oper}:vX T ops J rest o fr st (some true)=Ij T ops J rest o.dst fr st (aop T false o fr st):=by simp[vX]
theorem Qy{J:Frm->St->Prop}{o:Oper}{rest:List Oper}:vX T ops J rest o fr st (some false)=gF T ops J rest (bP fr o.dst (.tu [])) st:=by simp[vX]
theorem TU{J:Frm->St->Prop}{d:Option Nat}{rest:List Oper}(r:bT):Ij T ops J rest d fr st (some r)=(r.c/\gF T ops J rest (bP fr d r.v) st):=rfl
theorem pW(hT:bF P T){J:Frm->St->Prop}{w:World}{g:G}{R:Act->Prop}(hi:Inv w g st)(hR:∀ a fr,dO w g a fr->a.tmps.size=N->a.defers=[]->J fr st->R a):
 ∀(rest:List Oper) (fr:Frm) (a:Act),dO w g a fr->a.tmps.size=N->a.defers=[]->cW N ops rest=true->rest.all (fun o=>aX o.op)=true->gF T ops J rest fr st->wpStill P ops w R rest a
 |[],fr,a,hr,hs,hd,_,_,h=>hR a fr hr hs hd h
 |o::rest,fr,a,hr,hs,hd,hk,hq,h=>by
  simp only[cW,List.all_cons,aAS]at hk hq;obtain⟨⟨K6,hg⟩,hk⟩:=hk;have ih:=pW hT hi hR rest;have ZA:cW N ops rest=true:=hk;unfold gF at h;unfold wpStill;cases hw:bG ops fr o.guard with
  |none=>rw[hw]at h;exact h.elim
  |some b=>
   rw[hw]at h;have hwt:Region.wanted o (yielded ops a.tmps)=b:=eG hr hw (by rw[hs];exact hU hg);rw[hwt];cases b with
   |false=>simp only[aAR,aBB];exact ih _ _ (dR hr (by rw[hs];exact K6) wJ) (by rw[bS];exact hs) (by rw[put_defers];exact hd) ZA hq.2 (h.2 rfl)
   |true=>
    simp only[aBn];have h1:=h.1 rfl
    split at h1
    .rename_i r he;obtain⟨x,w',g',k1,k2,k3,k4,k5⟩:=uX (N:=N) hT he h1.1 a w g hi hr hs;obtain⟨rfl,rfl,YL,v,rfl⟩:=k5 hq.1;unfold Oper.still;rw[k1,Oper.stillUpon_value];rcases k2 with⟨v',hv,YF⟩|⟨hv,_⟩
     .injection hv with hv;subst hv;exact ih _ _ (dR hr (by rw[hs];exact K6) YF) (by rw[bS];exact hs) (by rw[put_defers];exact hd) ZA hq.2 h1.2
     .cases hv
    .exact h1.elim
theorem MG(hT:bF P T)(M:List Nat)(n:Nat){Q:AQ}{id:Nat}{l:List Oper}(hm:P.follows .mixedOrders=true)(hB:Region.lexTailB .any l.toArray n=true)(hk:cW N l.toArray l=true)(hq:(l.take n).all (fun o=>aX o.op)=true)
 (h:∀ J:Frm->St->Prop,(∀ fr st,Q .normal fr st->J fr st)->gF T l.toArray (fun fr st=>cM P T N l.toArray M J (l.drop n) fr st) (l.take n) fr st):AWp P N (.region id l.toArray true) Q fr st:=by
 intro a w g hi hr hs hd;refine wp_region_still_tail n hm hB ?_;have Xn:cW N l.toArray (l.take n)=true:=by unfold cW at hk ⊢;rw[aBC]at hk ⊢;exact fun o ho=>hk o (aCu ho)
 have Xx:cW N l.toArray (l.drop n)=true:=by unfold cW at hk ⊢;rw[aBC]at hk ⊢;exact fun o ho=>hk o (aDO ho)
 have Zs:Ext w g { w with drawn:=w.drawn+1 } g:=dH w g;refine pW (w:={ w with drawn:=w.drawn+1 }) hT hi.drew (fun a' Xj o9 J5 Yw hj=>?_) _ fr a (hr.mono Zs) hs hd Xn hq (h (fun fr st=>Q .normal fr st) (fun _ _ h=>h));exact dI (fun _ _ _ p=>p.pre Zs) _ _ _ (lH (M:=M) hT (J:=fun fr st=>Q .normal fr st) (Q:=Q) (fun _ _ h=>h) _ _ _ Xx hj a' _ g hi.drew o9 J5 Yw)
theorem LO(hT:bF P T){Q:AQ}{id:Nat}{l:List Oper}(hm:P.follows .mixedOrders=true)(hB:Region.lexB .any l.toArray=true)(hk:cW N l.toArray l=true)(hq:l.all (fun o=>aX o.op)=true)
 (h:∀ J:Frm->St->Prop,(∀ fr st,Q .normal fr st->J fr st)->gF T l.toArray J l fr st):AWp P N (.region id l.toArray true) Q fr st:=by
 intro a w g hi hr hs hd;refine wp_region_still_lit hm hB ?_;have Zs:Ext w g { w with drawn:=w.drawn+1 } g:=dH w g;refine pW (w:={ w with drawn:=w.drawn+1 }) hT hi.drew (fun a' Xj o9 J5 Yw hj=>?_) _ fr a (hr.mono Zs) hs hd hk hq (h (fun fr st=>Q .normal fr st) (fun _ _ h=>h));exact⟨Xj,st,g,hj,hi.drew,o9,J5,Yw,Zs⟩
end
section
variable {P:Program} {T:Tab} {N:Nat} {Q:AQ} {fr:Frm} {st:St} {c:Code}
theorem oP{w:World}{g:G}{a:Act}(h:dO w g a fr)(d:Nat){lv:LV}(hv:Rep w g lv (a.tmps.getD d undef)):dO w g a (upd fr d lv):=by
 intro i;unfold upd;by_cases hi:i=d
 .subst hi;rw[aAe rfl];exact hv
 .rw[aAa hi];exact h i
theorem jK(d e s:Nat)(hd:fr d=.nil)(h:AWp P N c Q (upd fr d (.sl st.next 0 [])) (st.new (.own e s 0))):AWp P N c Q fr st:=by refine iG (fun a w g hi hr _=>?_) h;refine⟨g.addNil,iP hi _ (.inl ⟨e,s,rfl⟩),oP (hr.mono (ext_nil w g)) d ?_,ext_nil w g⟩;have h1:=hr d;rw[hd]at h1;simp only[Rep]at h1 ⊢;exact⟨none,0,h1,aAi _,⟨aBr _,fun _=>rfl⟩,fun _=>by simp[G.addNil,hi.next],fun h=>absurd rfl h⟩
theorem UT(d:Nat){t n e:Nat}{cs:List LV}(hd:fr d=.sl t n cs)(hl:st.H t=.own e 1 n)(hn:0<n)(ht:t≠0)(h:AWp P N c Q (upd fr d (.qu t 0 n cs)) (st.set t (.que e n))):AWp P N c Q fr st:=by
 refine iG (fun a w g hi hr _=>?_) h;have h1:=hr d;rw[hd]at h1;simp only[Rep]at h1;obtain⟨A,cap,hv,G8,M3,htok,x7⟩:=h1;obtain⟨hA,rfl,dN⟩:=htok ht;obtain⟨o1,o2,o3,o4⟩:=hi.own t e 1 n hl;have Xl:g.nl t=false:=by
  cases h0:g.nl t with
  |false=>rfl
  |true=>have:=o3 h0;omega
 obtain⟨q1,q2⟩:=IV o2;refine⟨g,Cz hi hl Xl,oP hr d ?_,Ext.refl w g⟩;simp only[Rep];exact⟨A,_,hv,G8,o2,dN,by rw[q2,aBt],fun _=>by rw[q1];exact hA Xl,x7⟩
theorem tI(d e s:Nat)(hd:fr d=.nil)(h:AWp P N c Q (upd fr d (.ms st.next 0 0)) (st.new (.box e s []))):AWp P N c Q fr st:=by refine iG (fun a w g hi hr _=>?_) h;refine⟨g.addNil,iP hi _ (.inr ⟨e,s,rfl⟩),oP (hr.mono (ext_nil w g)) d ?_,ext_nil w g⟩;have h1:=hr d;rw[hd]at h1;simp only[Rep]at h1 ⊢;exact⟨none,0,h1,aAi _,aBr _,by simp[G.addNil,hi.next],sS,by simp[G.addNil,hi.next]⟩
theorem JM(k:Nat){l e s:Nat}{cs:List LV}(hl:st.H l=.box e s cs)(h:AWp P N c Q fr (st.set l (.box e s (cs.take k)))):AWp P N c Q fr st:=
 iG (fun a w g hi hr _=>⟨g,sH hi k hl,hr,Ext.refl w g⟩) h
def G.raise(g:G)(b k:Nat):G:={ g with φ:=fun x=>if x=b then some k else g.φ x }
theorem gB(d:Nat){l n e s:Nat}{cs:List LV}(hd:fr d=.ms l 0 n)(hl:st.H l=.box e s cs)(hn:n*s<=cs.length)(a:Act)(w:World)(g:G)(hi:Inv w g st)(hr:dO w g a fr):
 ∃ g',Inv w g' (st.set l .dead)/\dO w g' a (upd fr d (.sl 0 n (cs.take (n*s))))/\Ext w g w g':=by
 have dN:l<st.next:=Bd hi hl sS;obtain⟨q1,q2,q3⟩:=hi.box l e s cs hl;have h1:=hr d;rw[hd]at h1;simp only[Rep]at h1;obtain⟨A,cap,hv,G8,M3,hA,L9,_⟩:=h1;cases Xl:g.nl l with
 |true=>obtain⟨Yj,rfl⟩:=q2 Xl;refine⟨g,hi.drop l dN,oP hr d ?_,Ext.refl w g⟩;simp only[Rep];exact⟨A,cap,hv,G8,⟨M3,fun _=>(hA trivial).1.trans Yj⟩,fun h=>absurd rfl h,fun h=>absurd sS h⟩
 |false=>
  obtain⟨Xo,k1,k2,k3,k4,k5⟩:=q3 Xl;have he:Ext w g w (g.raise (g.β l) (n*s)):=by
   refine⟨rfl,rfl,rfl,aAi _,aAi _,fun _ _=>rfl,fun _ _=>rfl,fun _ _=>rfl,?_,?_⟩
   .intro b hb hn;have Wx:b≠g.β l:=by rintro rfl;rw[k5]at hn;cases hn
    exact⟨by simp[G.raise,Wx,hn],rfl⟩
   .intro b k hb hk;by_cases Wx:b=g.β l
    .subst Wx;rw[k5]at hk;injection hk with hk;subst hk;exact⟨n*s,by simp[G.raise],aBr _,fun o ho=>absurd ho (aEh _)⟩
    .exact⟨k,by simp[G.raise,Wx,hk],aAi _,fun _ _=>rfl⟩
  have Yw:=hi.drop l dN;have Wx:∀ x,blk g (st.set l .dead) x->g.β x≠g.β l:=by
   intro x hx hh;have Zm:x≠l/\blk g st x:=by
    unfold blk at hx ⊢;simp only[St.set]at hx;by_cases e0:x=l
    .simp[e0]at hx
    .rw[aAa e0]at hx;exact⟨e0,hx⟩
   exact Zm.1 (hi.inj x l Zm.2 (by unfold blk;rw[hl];exact Xl) hh)
  refine⟨g.raise (g.β l) (n*s),⟨Yw.next,Yw.pos,Yw.fresh,Yw.lt,Yw.inj,?_,?_,fun x ag ks es hx=>(Yw.mp x ag ks es hx).keep he (Yw.map_lt hx) rfl (by simp only[G.raise];rw[aAa (Wx x (Yw.map_blk hx))]),fun x e n hx=>(Yw.qu x e n hx).keep he (Yw.que_lt hx) rfl (by simp only[G.raise];rw[aAa (Wx x (Yw.que_blk hx))]),Yw.aside.keep he fun _ _=>rfl⟩,oP (hr.mono he) d ?_,he⟩
  .intro x e' s' n' hx;obtain⟨z1,z2,z3,z4⟩:=Yw.own x e' s' n' hx;refine⟨z1,z2,z3,fun hxn=>?_⟩;obtain⟨c',y1,y2,y3⟩:=z4 hxn;have hxne:=Wx x (by unfold blk;rw[hx];exact hxn);exact⟨c',y1,y2,by simp only[G.raise];rw[aAa hxne];exact y3⟩
  .intro x e' s' cs' hx;obtain⟨z1,z2,z3⟩:=Yw.box x e' s' cs' hx;refine⟨z1,z2,fun hxn=>?_⟩;obtain⟨c',y1,y2,y3,y4,y5⟩:=z3 hxn;have hxne:=Wx x (by unfold blk;rw[hx];exact hxn);exact⟨c',y1,y2,y3,aC.mono he _ _ y4,by simp only[G.raise];rw[aAa hxne];exact y5⟩
  .obtain rfl:=(hA trivial).2 Xl;simp only[Rep];refine⟨_,cap,hv,G8,⟨M3,sS⟩,fun h=>absurd rfl h,fun _=>⟨g.β l,0,rfl,iF _ (Xo.take (n*s)) 0 ?_ (fun j hj=>?_) (fun j hj=>?_)⟩⟩
   .have:=dQ (n*s) _ _ k4;rw[aBS,aCt hn]at this;exact aC.mono he _ _ this
   .rw[cell_of_row w _ _ _ _ _ k1,aBt];simp only[aAo]at hj;simp[show j<n*s by omega]
   .intro k hk;simp[G.raise]at hk;simp only[aAo]at hj;omega
theorem sY(d:Nat){l n e s:Nat}{cs:List LV}(hd:fr d=.ms l 0 n)(hl:st.H l=.box e s cs)(hn:n*s<=cs.length)(h:AWp P N c Q (upd fr d (.sl 0 n (cs.take (n*s)))) (st.set l .dead)):AWp P N c Q fr st:=
 iG (fun a w g hi hr _=>gB d hd hl hn a w g hi hr) h
end
section
variable {P:Program} {T:Tab}
def sQ(args:List LV):Frm:=fun i=>args.getD i .dead
def AE(T:Tab)(fr:Frm)(st:St):ResultVar->Option bT
 |.tmp t=>some ⟨True,fr t,st⟩
 |.cell a t=>AR T t (fr a) st
def uM(T:Tab)(fr:Frm)(st:St):List ResultVar->Option (Prop×List LV)
 |[]=>some (True,[])
 |r::rs=>match AE T fr st r,uM T fr st rs with
  |some x,some (c,l)=>some (x.c/\c,x.v::l)
  |_,_=>none
def one(l:List LV):LV:=match l with|[x]=>x|l=>.tu l
def yK(T:Tab)(Q:LV->St->Prop)(fr:Frm)(st:St)(rs:List ResultVar):Prop:=
 match uM T fr st rs with
 |some (c,l)=>c/\Q (one l) st
 |none=>False
def Body(T:Tab)(rs:List ResultVar)(Q:LV->St->Prop):AQ:=fun e fr st=>match e with
 |.normal=>yK T Q fr st rs
 |.ret=>yK T Q fr st rs
 |_=>False
theorem QA{rs:List ResultVar}{Q:LV->St->Prop}{fr:Frm}{st:St}:Body T rs Q .ret fr st=yK T Q fr st rs:=rfl
theorem FV{rs:List ResultVar}{Q:LV->St->Prop}{fr:Frm}{st:St}:Body T rs Q .normal fr st=yK T Q fr st rs:=rfl
theorem xY(hT:bF P T){w:World}{g:G}{a:Act}{fr:Frm}{st:St}(hi:Inv w g st)(hr:dO w g a fr):∀(rs:List ResultVar) (c:Prop) (l:List LV),uM T fr st rs=some (c,l)->c->
 ∃ vs:List Value,(rs.mapM fun|.tmp t=>pure (a.tmps.getD t undef)|.cell x t=>do loadVar t (<- asAddr (a.tmps.getD x undef)):Sem (List Value)).run P w=.ok vs w/\aC w g l vs
 |[],c,l,h,_=>by simp only[uM,aAb,aAV]at h;obtain⟨_,rfl⟩:=h;exact⟨[],sS,by simp only[aC]⟩
 |r::rs,c,l,h,hc=>by
  simp only[uM]at h
  split at h
  .rename_i x c' l' hx hl;simp only[aAb,aAV]at h;obtain⟨rfl,rfl⟩:=h;obtain⟨vs,h1,h2⟩:=xY hT hi hr rs c' l' hl hc.2;cases r with
   |tmp t=>simp only[AE,aAb]at hx;subst hx;refine⟨a.tmps.getD t undef::vs,?_,by simp only[aC];exact⟨_,_,rfl,hr t,h2⟩⟩;simp only[aEx,Sem.run_bind,Sem.run_pure,Result.andThen_ok,h1]
   |cell q t=>
    simp only[AE]at hx;obtain⟨_,u,k1,k2⟩:=Bi hT hi hx hc.1 (hr q);refine⟨u::vs,?_,by simp only[aC];exact⟨_,_,rfl,k2,h2⟩⟩;have hp:∃ ad,a.tmps.getD q undef=.pointer (some ad):=by
     unfold AR at hx;cases hpc:dZ st (fr q) with
     |none=>rw[hpc]at hx;simp at hx
     |some cs=>obtain⟨b,o,vs,hv,_⟩:=Jr hi hpc (hr q);exact⟨_,hv⟩
    obtain⟨ad,hp⟩:=hp;rw[hp]at k1;simp only[Instr.loadAt,Instr.sureAddr,Sem.run_bind,Sem.run_pure,Result.andThen_ok]at k1;have hq:(asAddr (.pointer (some ad)):Sem Addr)=pure ad:=rfl;simp only[aEx,Sem.run_bind,Sem.run_pure,Result.andThen_ok,hp,hq,k1,h1]
  .simp at h
theorem qO(hT:bF P T){f:FuncId}{fn:Func}{c:Code}{args:List LV}{st:St}{Q:LV->St->Prop}{N:Nat}{rs:List ResultVar}(hf:P.funcs[f]?=some fn)(hb:fn.body=some c)
 (hname:(fn.name== "runtime.NumGoroutine")=false) (hN:fn.ntmps=N) (hrs:fn.results.toList=rs) (hlen:args.length<=N) (h:AWp P N c (AK P N (Body T rs Q) []) (sQ args) st):aB P f args st Q:=by
 refine⟨enters_of hf hname hb,fun w g vs hi hr=>?_⟩;subst hN hrs;have hl:=aL _ _ hr;refine calls_of_wp hf hb ?_;have ZH:(vs.toArray++Array.replicate (fn.ntmps-vs.toArray.size) undef).size=fn.ntmps:=by simp;omega
 refine Code.wp_mono (fun e a' w' p=>?_) (h { tmps:=vs.toArray++Array.replicate (fn.ntmps-vs.toArray.size) undef,defers:=[] } w g hi ?_ ZH rfl)
 .obtain⟨Xj,st',g',hq,Yo,o9,J5,Yw,he⟩:=p;rw[sR]at hq;have key:yK T Q Xj st' fn.results.toList->a'.defers=[]/\∃ v,(results fn a'.tmps).run P w'=.ok v w'/\(∃ v_1 r st' g',Ending.returned v=.returned v_1/\Q r st'/\Rep w' g' r v_1/\Inv w' g' st'/\Ext w g w' g'):=by
   intro hk;unfold yK at hk;cases U3:uM T Xj st' fn.results.toList with
   |none=>rw[U3]at hk;exact hk.elim
   |some p=>
    obtain⟨c,l⟩:=p;rw[U3]at hk;obtain⟨us,h1,h2⟩:=xY hT Yo o9 _ c l U3 hk.1;have Xv:(results fn a'.tmps).run P w'=.ok (if h:us.toArray.size=1 then us.toArray[0]else .tuple us.toArray) w':=by unfold results;rw[Sem.run_bind,aDZ,Sem.run_map];exact congrArg (fun r:Result (List Value)=>(r.andThen fun a w'=>Result.ok a.toArray w').andThen fun a w'=>Sem.run P (pure (if h:a.size=1 then a[0]else Value.tuple a)) w') h1
    refine⟨Yw,_,Xv,_,_,st',g',rfl,hk.2,?_,Yo,he⟩;unfold one
    split
    .rename_i x;simp only[aC]at h2;obtain⟨v,us',rfl,k1,rfl⟩:=h2;simpa using k1
    .rename_i Wx;have:us.length≠1:=by
      intro h1;rw[<- aL _ _ h2]at h1
      match l,h1 with
      |[x],_=>exact Wx x rfl
     rw[dif_neg (by simpa using this)];simp only[Rep];exact⟨us,rfl,h2⟩
  cases e with
  |normal=>exact key hq
  |ret=>exact key hq
  |_=>exact hq.elim
 .intro i;unfold sQ;by_cases hi2:i<args.length
  .have h1:args.getD i .dead=args[i]:=by simp[List.getD,hi2]
   obtain⟨v,hv,hrv⟩:=uS i args vs args[i] hr (aAd hi2);rw[h1];have:(vs.toArray++Array.replicate (fn.ntmps-vs.toArray.size) undef).getD i undef=v:=by rw[aBK,Array.getElem?_append_left (by simp;omega)];simp[hv]
   simp only[this];exact hrv
  .have h1:args.getD i .dead=.dead:=by simp[List.getD,aBw (Nat.le_of_not_lt hi2)]
   rw[h1];simp only[Rep]
theorem xZ{f:FuncId}{args:List LV}{st:St}{Q:LV->St->Prop}(h:aB P f args st fun r st'=>Q (norm r) st'):aB P f args st Q:=by refine⟨h.1,fun w g vs hi hr=>(h.2 w g vs hi hr).mono ?_⟩;rintro e w' ⟨v,r,st',g',rfl,hq,YF,Yo,he⟩;exact⟨v,norm r,st',g',rfl,hq,uR YF,Yo,he⟩
theorem iQ(e s:Nat){f:FuncId}{args:List LV}{st:St}{Q:LV->St->Prop}(h:aB P f args st fun r st'=>(r=.nil/\Q (.ms st'.next 0 0) (st'.new (.box e s [])))\/Q r st'):aB P f args st Q:=by
 refine⟨h.1,fun w g vs hi hr=>(h.2 w g vs hi hr).mono ?_⟩;rintro x w' ⟨v,r,st',g',rfl,hq,YF,Yo,he⟩;rcases hq with⟨rfl,hq⟩|hq
 .refine⟨v,_,_,g'.addNil,rfl,hq,?_,iP Yo _ (.inr ⟨e,s,rfl⟩),he.trans (ext_nil w' g')⟩;simp only[Rep]at YF;subst YF;simp only[Rep,G.addNil,Yo.next];exact⟨none,0,rfl,aAi _,aBr _,sS,sS,oO⟩
 .exact⟨v,r,st',g',rfl,hq,YF,Yo,he⟩
theorem cD{f:FuncId}{args:List LV}{st:St}{Q:LV->St->Prop}(h:aB P f args st fun r st'=>∃ l n e s cs,r=.ms l 0 n/\st'.H l=.box e s cs/\n*s<=cs.length/\Q (.sl 0 n (cs.take (n*s))) (st'.set l .dead)):aB P f args st Q:=by
 refine⟨h.1,fun w g vs hi hr=>(h.2 w g vs hi hr).mono ?_⟩;rintro x w' ⟨v,r,st',g',rfl,⟨l,n,e,s,cs,rfl,hl,hn,hq⟩,YF,Yo,he⟩
 obtain⟨g2,h1,h2,h3⟩:=gB (fr:=upd (fun _=>.dead) 0 (.ms l 0 n)) 0 rfl hl hn { tmps:=#[v],defers:=[] } w' g' Yo (by
  intro j;unfold upd;by_cases hj:j=0
  .subst hj;rw[aAe rfl];exact YF
  .rw[aAa hj];simp only[Rep])
 exact⟨v,_,_,g2,rfl,hq,h2 0,h1,he.trans h3⟩
theorem yC{f:FuncId}{args:List LV}{vs:List Value}{w:World}{R:Value->Prop}(hG:gU w ⟨1,fun _=>none,fun _=>0,fun _=>0,fun _=>false⟩)(hr:aC w ⟨1,fun _=>none,fun _=>0,fun _=>0,fun _=>false⟩ args vs)
 (h:aB P f args ⟨1,fun _=>.dead⟩ fun r _=>∃ v,r=.atom v/\R v):Calls P f vs.toArray w fun e w'=>(∃ v,e=.returned v/\R v)/\Below w.heap.size w w':=by
 have hi:Inv w ⟨1,fun _=>none,fun _=>0,fun _=>0,fun _=>false⟩ ⟨1,fun _=>.dead⟩:=by refine⟨rfl,by decide,fun _ _=>rfl,fun l hl=>hl.elim,fun l l' hl=>hl.elim,fun l e s n hl=>(by cases hl),fun l e s cs hl=>(by cases hl),fun l ag ks es hl=>(by cases hl),fun l e n hl=>(by cases hl),sP hG fun _=>rfl⟩
 refine(h.2 w _ vs hi hr).mono ?_;rintro e w' ⟨v,r,st',g',rfl,⟨v',rfl,Q4⟩,YF,_,he⟩;simp only[Rep]at YF;subst YF;exact⟨⟨_,rfl,Q4⟩,⟨he.os,he.tape,he.output,he.size,fun k hk=>(he.still k hk rfl).2⟩⟩
end
end Aw
end Go.Proofs.YtempldclppogmaaGreatDoor
