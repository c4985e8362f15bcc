/- Running a region by evaluation; a function's contract out of its body. No program is named here. -/
import Derived.Test.YtempldclppogmaaGreatDoorAwSound3
import Derived.StillTail
set_option linter.unusedVariables false
set_option linter.unusedSimpArgs false
namespace Go.Proofs.YtempldclppogmaaGreatDoor
namespace Aw
open Go Go.RowKit
def inM(M:List Nat):Option Nat->Bool
 |some d=>M.contains d
 |none=>false
def Dl:BinOp->Option Bool
 |.eql=>some false
 |.neq=>some true
 |_=>none
def tG:LV->Option Nat
 |.sl _ n _=>some n
 |.emp=>some 0
 |.ms _ _ n=>some n
 |_=>none
def sY(T:Tab)(o:Oper)(fr:Frm):Option (Bool×Nat):=
 match o.op with
 |.binOp op t x (.const (.slice none 0 0)) _=>match cR T t,Dl op,tG (aH fr x) with
  |some _,some ng,some n=>some (ng,n)
  |_,_,_=>none
 |_=>none
theorem FJ{w:World}{g:G}{lv:LV}{v:Value}{n:Nat}(h:tG lv=some n)(hr:Rep w g lv v):∃ A c,v=.slice A n c/\(A=none->n=0):=by
 cases lv with
 |sl t n' cs=>simp only[tG,aAb]at h;subst h;simp only[Rep]at hr;obtain⟨A,cap,hv,G3,hm,_⟩:=hr;exact⟨A,cap,hv,fun hA=>by have:=hm.2 hA;omega⟩
 |emp=>simp only[tG,aAb]at h;subst h;simp only[Rep]at hr;obtain⟨A,hv⟩:=hr;exact⟨A,0,hv,fun _=>rfl⟩
 |ms l o n'=>
  simp only[tG,aAb]at h;subst h;simp only[Rep]at hr;obtain⟨A,cap,hv,G3,hm,_,K4,_⟩:=hr;refine⟨A,cap,hv,fun hA=>?_⟩;rcases aDt n' with h0|h0
  .exact h0
  .have:=K4 oO;rw[hA]at this;cases this
 |_=>simp[tG]at h
def cT(P:Program)(T:Tab)(N:Nat)(ops:Array Oper)(M:List Nat)(J:Frm->St->Prop):List Oper->Frm->St->Prop
 |[],fr,st=>J fr st
 |o::rest,fr,st=>match bI ops fr o.guard with
  |some b=>(b=true->(match o.op with
    |.call { callee:=.value x,args:=args,argTypes:=_ }=>match eM (aH fr x) with
     |some (f,cX)=>∃ R,aB P f ((args.toList.map (aH fr))++cX) st R/\∀ r st',R r st'->cT P T N ops M J rest (bU fr o.dst r) st'
     |none=>False
    |_=>match sY T o fr with
     |some (ng,n)=>∀ b:Bool,(b=true->n=0)->cT P T N ops M J rest (bU fr o.dst (.atom (.bool (b != ng)))) st
     |none=>match aop T (inM M o.dst) o fr st with
      |some r=>r.c/\cT P T N ops M J rest (bU fr o.dst r.v) r.s
      |none=>False))/\(b=false->cT P T N ops M J rest (bU fr o.dst (.tu [])) st)
  |none=>False
def Gc(P:Program)(T:Tab)(N:Nat)(ops:Array Oper)(M:List Nat)(J:Frm->St->Prop)(rest:List Oper)(d:Option Nat)(fr:Frm)(st:St)(f:FuncId)(args:List LV):Prop:=
 ∃ R,aB P f args st R/\∀ r st',R r st'->cT P T N ops M J rest (bU fr d r) st'
def KY(P:Program)(T:Tab)(N:Nat)(ops:Array Oper)(M:List Nat)(J:Frm->St->Prop)(rest:List Oper)(d:Option Nat)(fr:Frm)(st:St)(args:List LV):Option (FuncId×List LV)->Prop
 |some (f,cX)=>Gc P T N ops M J rest d fr st f (args++cX)
 |none=>False
def KK(P:Program)(T:Tab)(N:Nat)(ops:Array Oper)(M:List Nat)(J:Frm->St->Prop)(rest:List Oper)(d:Option Nat)(fr:Frm):Option bW->Prop
 |some r=>r.c/\cT P T N ops M J rest (bU fr d r.v) r.s
 |none=>False
def Cw(P:Program)(T:Tab)(N:Nat)(ops:Array Oper)(M:List Nat)(J:Frm->St->Prop)(rest:List Oper)(o:Oper)(fr:Frm)(st:St):Option (Bool×Nat)->Prop
 |some (ng,n)=>∀ b:Bool,(b=true->n=0)->cT P T N ops M J rest (bU fr o.dst (.atom (.bool (b != ng)))) st
 |none=>KK P T N ops M J rest o.dst fr (aop T (inM M o.dst) o fr st)
def uU(P:Program)(T:Tab)(N:Nat)(ops:Array Oper)(M:List Nat)(J:Frm->St->Prop)(rest:List Oper)(o:Oper)(fr:Frm)(st:St):Prop:=
 match o.op with
 |.call { callee:=.value x,args:=args,argTypes:=_ }=>KY P T N ops M J rest o.dst fr st (args.toList.map (aH fr)) (eM (aH fr x))
 |_=>Cw P T N ops M J rest o fr st (sY T o fr)
def BD(P:Program)(T:Tab)(N:Nat)(ops:Array Oper)(M:List Nat)(J:Frm->St->Prop)(rest:List Oper)(o:Oper)(fr:Frm)(st:St):Option Bool->Prop
 |some b=>(b=true->uU P T N ops M J rest o fr st)/\(b=false->cT P T N ops M J rest (bU fr o.dst (.tu [])) st)
 |none=>False
section
variable {P:Program} {T:Tab} {N:Nat} {ops:Array Oper} {M:List Nat} {J:Frm->St->Prop} {rest:List Oper} {o:Oper} {fr:Frm} {st:St} {d:Option Nat}
theorem VO:cT P T N ops M J [] fr st=J fr st:=rfl
theorem JK:cT P T N ops M J (o::rest) fr st=BD P T N ops M J rest o fr st (bI ops fr o.guard):=by
 unfold cT BD uU;cases bI ops fr o.guard with
 |none=>rfl
 |some b=>
  simp only
  congr 1
theorem Ns:BD P T N ops M J rest o fr st (some true)=uU P T N ops M J rest o fr st:=by simp[BD]
theorem Jo:BD P T N ops M J rest o fr st (some false)=cT P T N ops M J rest (bU fr o.dst (.tu [])) st:=by simp[BD]
theorem Re:Cw P T N ops M J rest o fr st none=KK P T N ops M J rest o.dst fr (aop T (inM M o.dst) o fr st):=rfl
theorem Pb(ng:Bool)(n:Nat):Cw P T N ops M J rest o fr st (some (ng,n))=∀ b:Bool,(b=true->n=0)->cT P T N ops M J rest (bU fr o.dst (.atom (.bool (b != ng)))) st:=rfl
theorem To(r:bW):KK P T N ops M J rest d fr (some r)=(r.c/\cT P T N ops M J rest (bU fr d r.v) r.s):=rfl
theorem Ta(f:FuncId)(cX args:List LV):KY P T N ops M J rest d fr st args (some (f,cX))=Gc P T N ops M J rest d fr st f (args++cX):=rfl
theorem Cz{w:World}{g:G}:∀(xs:List LV) (vs:List Value),aC w g xs vs->aC w g (xs.map norm) vs
 |[],vs,h=>h
 |x::xs,vs,h=>by simp only[aC,aAi]at h ⊢;obtain⟨v,vs',rfl,h1,h2⟩:=h;exact⟨v,vs',rfl,uA h1,Cz xs vs' h2⟩
theorem aB.of_norm{f:FuncId}{args:List LV}{R:LV->St->Prop}(h:aB P f (args.map norm) st R):aB P f args st R:=
 ⟨h.1,fun w g vs hi hr=>h.2 w g vs hi (Cz _ _ hr)⟩
theorem aF(h:cT P T N ops M J rest fr st):cT P T N ops M J rest fr st:=h
theorem qF{f:FuncId}{args:List LV}{R:LV->St->Prop}(h:aB P f args st R)(hk:∀ r st',R r st'->cT P T N ops M J rest (bU fr d r) st'):Gc P T N ops M J rest d fr st f args:=⟨R,h,hk⟩
theorem Ib{w:World}{t:TypeId}{e:TypeId}(ht:P.underlying t=some (.slice e))(A:Option Addr)(n c:Nat)(x y:Operand):
 (do eqGuard .eql t x y (.slice A n c) (.slice none 0 0);binOp .eql t (.slice A n c) (.slice none 0 0):Sem Value).run P w=.ok (.bool A.isNone) w/\
 (do eqGuard .neq t x y (.slice A n c) (.slice none 0 0);binOp .neq t (.slice A n c) (.slice none 0 0):Sem Value).run P w=.ok (.bool (!A.isNone)) w:=by
 have hd:∀ d,(Op.equalIn (d+1) t (.slice A n c) (.slice none 0 0)).run P w=.ok A.isNone w:=by intro d;cases A<;>simp[Op.equalIn,run_underlying ht]
 have he:(Op.equal t (.slice A n c) (.slice none 0 0)).run P w=.ok A.isNone w:=hd 9999;constructor
 .unfold eqGuard;simp[binOp,he]
 .unfold eqGuard;simp[binOp,he]
theorem Gj(hT:bJ P T){Q:AQ}{ng:Bool}{n:Nat}(hn:sY T o fr=some (ng,n))
 (hw:bI ops fr o.guard=some true) (hk:jU N ops o.guard=true) (hd:oL N o.dst=true)
 (h:∀ b:Bool,(b=true->n=0)->At P N ops rest Q (bU fr o.dst (.atom (.bool (b != ng)))) st):At P N ops (o::rest) Q fr st:=by
 intro a w g hi hr hs F7;have key:∃ b:Bool,(b=true->n=0)/\(execOp a.eval o).run P w=.ok (.value (.bool (b != ng))) w:=by
  unfold sY at hn
  split at hn
  .rename_i op t x t' o9
   split at hn
   .rename_i e ng' n' hse C0 hln;simp only[aAb,aAW]at hn;obtain⟨rfl,rfl⟩:=hn;obtain⟨A,c,hv,hA⟩:=FJ hln (aD hr x);have Xr:=Ib (P:=P) (w:=w) (cK hT hse) A n' c x (.const (.slice none 0 0));refine⟨A.isNone,fun hb=>hA (by simpa using hb),?_⟩;cases op<;>simp only[Dl,aAb,reduceCtorEq]at C0
    .subst C0;have hc:a.eval (.const (.slice none 0 0))=.slice none 0 0:=rfl;simp only[execOp,o9,hv,hc];rw[Sem.run_bind,Xr.1];simp
    .subst C0;have hc:a.eval (.const (.slice none 0 0))=.slice none 0 0:=rfl;simp only[execOp,o9,hv,hc];rw[Sem.run_bind,Xr.2];simp
   .simp at hn
  .simp at hn
 obtain⟨b,hb,Xr⟩:=key;have hwt:Region.wanted o (yielded ops a.tmps)=true:=eH hr hw (by rw[hs];exact iD hk);simp only[wpList,hwt,aBq];left;unfold Oper.wp;rw[Xr,Oper.upon_value];exact h b hb _ w g hi (dQ hr (by rw[hs];exact hd) (by simp only[Rep])) (by rw[bV];exact hs) (by rw[put_defers];exact F7)
theorem NA{f:FuncId}{args:List LV}{R:LV->St->Prop}(h:aB P f (args.map norm) st R)(hk:∀ r st',R r st'->cT P T N ops M J rest (bU fr d r) st'):Gc P T N ops M J rest d fr st f args:=⟨R,h.of_norm,hk⟩
def cV(N:Nat)(ops:Array Oper)(l:List Oper):Bool:=l.all fun o=>oL N o.dst&&jU N ops o.guard
theorem lU(hT:bJ P T){Q:AQ}(hJ:∀ fr st,J fr st->Q .normal fr st):∀(rest:List Oper) (fr:Frm) (st:St),cV N ops rest=true->cT P T N ops M J rest fr st->At P N ops rest Q fr st
 |[],fr,st,_,h=>OZ (hJ _ _ h)
 |o::rest,fr,st,hk,h=>by
  simp only[cV,List.all_cons,aAT]at hk;obtain⟨⟨hd,hg⟩,hk⟩:=hk;have ih:=lU hT hJ rest;have ZU:cV N ops rest=true:=hk;unfold cT at h;cases hw:bI ops fr o.guard with
  |none=>rw[hw]at h;exact h.elim
  |some b=>
   rw[hw]at h;cases b with
   |false=>exact Lj hw hg hd (ih _ _ ZU (h.2 rfl))
   |true=>
    have h1:=h.1 rfl
    split at h1
    .rename_i x args T5 o9
     split at h1
     .rename_i f cX hf;obtain⟨R,hR,hn⟩:=h1;exact LO o9 hw hg hd hf hR (fun r st' hr=>ih _ _ ZU (hn r st' hr))
     .exact h1.elim
    .split at h1
     .rename_i ng n G3;exact Gj hT G3 hw hg hd (fun b hb=>ih _ _ ZU (h1 b hb))
     .split at h1
      .rename_i r hr;exact RD hw hg hd (vP hT hr h1.1) (ih _ _ ZU h1.2)
      .exact h1.elim
theorem lZ(hT:bJ P T)(M:List Nat){Q:AQ}{id:Nat}(hk:cV N ops ops.toList=true)
 (h:∀ J:Frm->St->Prop,(∀ fr st,Q .normal fr st->J fr st)->cT P T N ops M J ops.toList fr st):AWp P N (.region id ops false) Q fr st:=
 JT (lU (M:=M) hT (J:=fun fr st=>Q .normal fr st) (fun _ _ h=>h) _ _ _ hk (h _ (fun _ _ h=>h)))
end
section
variable {P:Program} {T:Tab} {N:Nat} {ops:Array Oper} {M:List Nat} {fr:Frm} {st:St}
def gT(T:Tab)(ops:Array Oper)(J:Frm->St->Prop):List Oper->Frm->St->Prop
 |[],fr,st=>J fr st
 |o::rest,fr,st=>match bI ops fr o.guard with
  |some b=>(b=true->match aop T false o fr st with
    |some r=>r.c/\gT T ops J rest (bU fr o.dst r.v) st
    |none=>False)/\(b=false->gT T ops J rest (bU fr o.dst (.tu [])) st)
  |none=>False
def IL(T:Tab)(ops:Array Oper)(J:Frm->St->Prop)(rest:List Oper)(d:Option Nat)(fr:Frm)(st:St):Option bW->Prop
 |some r=>r.c/\gT T ops J rest (bU fr d r.v) st
 |none=>False
def wQ(T:Tab)(ops:Array Oper)(J:Frm->St->Prop)(rest:List Oper)(o:Oper)(fr:Frm)(st:St):Option Bool->Prop
 |some b=>(b=true->IL T ops J rest o.dst fr st (aop T false o fr st))/\(b=false->gT T ops J rest (bU fr o.dst (.tu [])) st)
 |none=>False
theorem VZ{J:Frm->St->Prop}:gT T ops J [] fr st=J fr st:=rfl
theorem UH{J:Frm->St->Prop}{o:Oper}{rest:List Oper}:gT T ops J (o::rest) fr st=wQ T ops J rest o fr st (bI ops fr o.guard):=by unfold gT wQ;cases bI ops fr o.guard<;>rfl
theorem UI{J:Frm->St->Prop}{o:Oper}{rest:List Oper}:wQ T ops J rest o fr st (some true)=IL T ops J rest o.dst fr st (aop T false o fr st):=by simp[wQ]
theorem Rv{J:Frm->St->Prop}{o:Oper}{rest:List Oper}:wQ T ops J rest o fr st (some false)=gT T ops J rest (bU fr o.dst (.tu [])) st:=by simp[wQ]
theorem Tu{J:Frm->St->Prop}{d:Option Nat}{rest:List Oper}(r:bW):IL T ops J rest d fr st (some r)=(r.c/\gT T ops J rest (bU fr d r.v) st):=rfl
theorem pH(hT:bJ P T){J:Frm->St->Prop}{w:World}{g:G}{R:Act->Prop}(hi:Inv w g st)(hR:∀ a fr,dN w g a fr->a.tmps.size=N->a.defers=[]->J fr st->R a):
 ∀(rest:List Oper) (fr:Frm) (a:Act),dN w g a fr->a.tmps.size=N->a.defers=[]->cV N ops rest=true->rest.all (fun o=>aX o.op)=true->gT T ops J rest fr st->wpStill P ops w R rest a
 |[],fr,a,hr,hs,hd,_,_,h=>hR a fr hr hs hd h
 |o::rest,fr,a,hr,hs,hd,hk,hq,h=>by
  simp only[cV,List.all_cons,aAT]at hk hq;obtain⟨⟨J4,hg⟩,hk⟩:=hk;have ih:=pH hT hi hR rest;have ZU:cV N ops rest=true:=hk;unfold gT at h;unfold wpStill;cases hw:bI ops fr o.guard with
  |none=>rw[hw]at h;exact h.elim
  |some b=>
   rw[hw]at h;have hwt:Region.wanted o (yielded ops a.tmps)=b:=eH hr hw (by rw[hs];exact iD hg);rw[hwt];cases b with
   |false=>simp only[aAS,aBD];exact ih _ _ (dQ hr (by rw[hs];exact J4) wM) (by rw[bV];exact hs) (by rw[put_defers];exact hd) ZU hq.2 (h.2 rfl)
   |true=>
    simp only[aBq];have h1:=h.1 rfl
    split at h1
    .rename_i r he;obtain⟨x,w',g',k1,k2,k3,k4,k5⟩:=vP (N:=N) hT he h1.1 a w g hi hr hs;obtain⟨rfl,rfl,YY,v,rfl⟩:=k5 hq.1;unfold Oper.still;rw[k1,Oper.stillUpon_value];rcases k2 with⟨v',hv,YF⟩|⟨hv,_⟩
     .injection hv with hv;subst hv;exact ih _ _ (dQ hr (by rw[hs];exact J4) YF) (by rw[bV];exact hs) (by rw[put_defers];exact hd) ZU hq.2 h1.2
     .cases hv
    .exact h1.elim
theorem MF(hT:bJ P T)(M:List Nat)(n:Nat){Q:AQ}{id:Nat}{l:List Oper}(hm:P.follows .mixedOrders=true)(hB:Region.lexTailB .any l.toArray n=true)(hk:cV N l.toArray l=true)(hq:(l.take n).all (fun o=>aX o.op)=true)
 (h:∀ J:Frm->St->Prop,(∀ fr st,Q .normal fr st->J fr st)->gT T l.toArray (fun fr st=>cT P T N l.toArray M J (l.drop n) fr st) (l.take n) fr st):AWp P N (.region id l.toArray true) Q fr st:=by
 intro a w g hi hr hs hd;refine wp_region_still_tail n hm hB ?_;have Xp:cV N l.toArray (l.take n)=true:=by unfold cV at hk ⊢;rw[aBr]at hk ⊢;exact fun o ho=>hk o (aCv ho)
 have Xq:cV N l.toArray (l.drop n)=true:=by unfold cV at hk ⊢;rw[aBr]at hk ⊢;exact fun o ho=>hk o (aDS ho)
 have C4:Ext w g { w with drawn:=w.drawn+1 } g:=dH w g;refine pH (w:={ w with drawn:=w.drawn+1 }) hT hi.drew (fun a' Xg j5 I3 Zh hj=>?_) _ fr a (hr.mono C4) hs hd Xp hq (h (fun fr st=>Q .normal fr st) (fun _ _ h=>h));exact dG (fun _ _ _ p=>p.pre C4) _ _ _ (lU (M:=M) hT (J:=fun fr st=>Q .normal fr st) (Q:=Q) (fun _ _ h=>h) _ _ _ Xq hj a' _ g hi.drew j5 I3 Zh)
theorem Md(hT:bJ P T){Q:AQ}{id:Nat}{l:List Oper}(hm:P.follows .mixedOrders=true)(hB:Region.lexB .any l.toArray=true)(hk:cV N l.toArray l=true)(hq:l.all (fun o=>aX o.op)=true)
 (h:∀ J:Frm->St->Prop,(∀ fr st,Q .normal fr st->J fr st)->gT T l.toArray J l fr st):AWp P N (.region id l.toArray true) Q fr st:=by
 intro a w g hi hr hs hd;refine wp_region_still_lit hm hB ?_;have C4:Ext w g { w with drawn:=w.drawn+1 } g:=dH w g;refine pH (w:={ w with drawn:=w.drawn+1 }) hT hi.drew (fun a' Xg j5 I3 Zh hj=>?_) _ fr a (hr.mono C4) hs hd hk hq (h (fun fr st=>Q .normal fr st) (fun _ _ h=>h));exact⟨Xg,st,g,hj,hi.drew,j5,I3,Zh,C4⟩
end
section
variable {P:Program} {T:Tab} {N:Nat} {Q:AQ} {fr:Frm} {st:St} {c:Code}
theorem pP{w:World}{g:G}{a:Act}(h:dN w g a fr)(d:Nat){lv:LV}(hv:Rep w g lv (a.tmps.getD d undef)):dN w g a (upd fr d lv):=by
 intro i;unfold upd;by_cases hi:i=d
 .subst hi;rw[aAe rfl];exact hv
 .rw[aAa hi];exact h i
theorem yV(d e s:Nat)(hd:fr d=.nil)(h:AWp P N c Q (upd fr d (.sl st.next 0 [])) (st.new (.own e s 0))):AWp P N c Q fr st:=by refine iK (fun a w g hi hr _=>?_) h;refine⟨g.addNil,iQ hi _ (.inl ⟨e,s,rfl⟩),pP (hr.mono (ext_nil w g)) d ?_,ext_nil w g⟩;have h1:=hr d;rw[hd]at h1;simp only[Rep]at h1 ⊢;exact⟨none,0,h1,aAk _,⟨aBs _,fun _=>rfl⟩,fun _=>by simp[G.addNil,hi.next],fun h=>absurd rfl h⟩
theorem UP(d:Nat){t n e:Nat}{cs:List LV}(hd:fr d=.sl t n cs)(hl:st.H t=.own e 1 n)(hn:0<n)(ht:t≠0)(h:AWp P N c Q (upd fr d (.qu t 0 n cs)) (st.set t (.que e n))):AWp P N c Q fr st:=by
 refine iK (fun a w g hi hr _=>?_) h;have h1:=hr d;rw[hd]at h1;simp only[Rep]at h1;obtain⟨A,cap,hv,G3,K9,htok,v7⟩:=h1;obtain⟨hA,rfl,GD⟩:=htok ht;obtain⟨o1,o2,o3,o4⟩:=hi.own t e 1 n hl;have Xi:g.nl t=false:=by
  cases h0:g.nl t with
  |false=>rfl
  |true=>have:=o3 h0;omega
 obtain⟨q1,q2⟩:=JE o2;refine⟨g,DU hi hl Xi,pP hr d ?_,Ext.refl w g⟩;simp only[Rep];exact⟨A,_,hv,G3,o2,GD,by rw[q2,aBv],fun _=>by rw[q1];exact hA Xi,v7⟩
theorem uG(d e s:Nat)(hd:fr d=.nil)(h:AWp P N c Q (upd fr d (.ms st.next 0 0)) (st.new (.box e s []))):AWp P N c Q fr st:=by refine iK (fun a w g hi hr _=>?_) h;refine⟨g.addNil,iQ hi _ (.inr ⟨e,s,rfl⟩),pP (hr.mono (ext_nil w g)) d ?_,ext_nil w g⟩;have h1:=hr d;rw[hd]at h1;simp only[Rep]at h1 ⊢;exact⟨none,0,h1,aAk _,aBs _,by simp[G.addNil,hi.next],sS,by simp[G.addNil,hi.next]⟩
theorem JA(k:Nat){l e s:Nat}{cs:List LV}(hl:st.H l=.box e s cs)(h:AWp P N c Q fr (st.set l (.box e s (cs.take k)))):AWp P N c Q fr st:=
 iK (fun a w g hi hr _=>⟨g,sQ hi k hl,hr,Ext.refl w g⟩) h
def G.raise(g:G)(b k:Nat):G:={ g with φ:=fun x=>if x=b then some k else g.φ x }
theorem gJ(d:Nat){l n e s:Nat}{cs:List LV}(hd:fr d=.ms l 0 n)(hl:st.H l=.box e s cs)(hn:n*s<=cs.length)(a:Act)(w:World)(g:G)(hi:Inv w g st)(hr:dN w g a fr):
 ∃ g',Inv w g' (st.set l .dead)/\dN w g' a (upd fr d (.sl 0 n (cs.take (n*s))))/\Ext w g w g':=by
 have GD:l<st.next:=Bd hi hl sS;obtain⟨q1,q2,q3⟩:=hi.box l e s cs hl;have h1:=hr d;rw[hd]at h1;simp only[Rep]at h1;obtain⟨A,cap,hv,G3,K9,hA,K4,_⟩:=h1;cases Xi:g.nl l with
 |true=>obtain⟨Ye,rfl⟩:=q2 Xi;refine⟨g,hi.drop l GD,pP hr d ?_,Ext.refl w g⟩;simp only[Rep];exact⟨A,cap,hv,G3,⟨K9,fun _=>(hA trivial).1.trans Ye⟩,fun h=>absurd rfl h,fun h=>absurd sS h⟩
 |false=>
  obtain⟨Xk,k1,k2,k3,k4,k5⟩:=q3 Xi;have he:Ext w g w (g.raise (g.β l) (n*s)):=by
   refine⟨rfl,rfl,rfl,aAk _,aAk _,fun _ _=>rfl,fun _ _=>rfl,fun _ _=>rfl,?_,?_⟩
   .intro b hb hn;have Wu:b≠g.β l:=by rintro rfl;rw[k5]at hn;cases hn
    exact⟨by simp[G.raise,Wu,hn],rfl⟩
   .intro b k hb hk;by_cases Wu:b=g.β l
    .subst Wu;rw[k5]at hk;injection hk with hk;subst hk;exact⟨n*s,by simp[G.raise],aBs _,fun o ho=>absurd ho (aEq _)⟩
    .exact⟨k,by simp[G.raise,Wu,hk],aAk _,fun _ _=>rfl⟩
  have Zh:=hi.drop l GD;have Wu:∀ x,blk g (st.set l .dead) x->g.β x≠g.β l:=by
   intro x hx hh;have Zn:x≠l/\blk g st x:=by
    unfold blk at hx ⊢;simp only[St.set]at hx;by_cases e0:x=l
    .simp[e0]at hx
    .rw[aAa e0]at hx;exact⟨e0,hx⟩
   exact Zn.1 (hi.inj x l Zn.2 (by unfold blk;rw[hl];exact Xi) hh)
  refine⟨g.raise (g.β l) (n*s),⟨Zh.next,Zh.pos,Zh.fresh,Zh.lt,Zh.inj,?_,?_,fun x ag ks es hx=>(Zh.mp x ag ks es hx).keep he (Zh.map_lt hx) rfl (by simp only[G.raise];rw[aAa (Wu x (Zh.map_blk hx))]),fun x e n hx=>(Zh.qu x e n hx).keep he (Zh.que_lt hx) rfl (by simp only[G.raise];rw[aAa (Wu x (Zh.que_blk hx))]),Zh.aside.keep he fun _ _=>rfl⟩,pP (hr.mono he) d ?_,he⟩
  .intro x e' s' n' hx;obtain⟨z1,z2,z3,z4⟩:=Zh.own x e' s' n' hx;refine⟨z1,z2,z3,fun hxn=>?_⟩;obtain⟨c',y1,y2,y3⟩:=z4 hxn;have hxne:=Wu x (by unfold blk;rw[hx];exact hxn);exact⟨c',y1,y2,by simp only[G.raise];rw[aAa hxne];exact y3⟩
  .intro x e' s' cs' hx;obtain⟨z1,z2,z3⟩:=Zh.box x e' s' cs' hx;refine⟨z1,z2,fun hxn=>?_⟩;obtain⟨c',y1,y2,y3,y4,y5⟩:=z3 hxn;have hxne:=Wu x (by unfold blk;rw[hx];exact hxn);exact⟨c',y1,y2,y3,aC.mono he _ _ y4,by simp only[G.raise];rw[aAa hxne];exact y5⟩
  .obtain rfl:=(hA trivial).2 Xi;simp only[Rep];refine⟨_,cap,hv,G3,⟨K9,sS⟩,fun h=>absurd rfl h,fun _=>⟨g.β l,0,rfl,iL _ (Xk.take (n*s)) 0 ?_ (fun j hj=>?_) (fun j hj=>?_)⟩⟩
   .have:=dU (n*s) _ _ k4;rw[aBZ,aCu hn]at this;exact aC.mono he _ _ this
   .rw[cell_of_row w _ _ _ _ _ k1,aBv];simp only[aAq]at hj;simp[show j<n*s by omega]
   .intro k hk;simp[G.raise]at hk;simp only[aAq]at hj;omega
theorem sK(d:Nat){l n e s:Nat}{cs:List LV}(hd:fr d=.ms l 0 n)(hl:st.H l=.box e s cs)(hn:n*s<=cs.length)(h:AWp P N c Q (upd fr d (.sl 0 n (cs.take (n*s)))) (st.set l .dead)):AWp P N c Q fr st:=
 iK (fun a w g hi hr _=>gJ d hd hl hn a w g hi hr) h
end
section
variable {P:Program} {T:Tab}
def sG(args:List LV):Frm:=fun i=>args.getD i .dead
def Be(T:Tab)(fr:Frm)(st:St):ResultVar->Option bW
 |.tmp t=>some ⟨True,fr t,st⟩
 |.cell a t=>BZ T t (fr a) st
def uP(T:Tab)(fr:Frm)(st:St):List ResultVar->Option (Prop×List LV)
 |[]=>some (True,[])
 |r::rs=>match Be T fr st r,uP T fr st rs with
  |some x,some (c,l)=>some (x.c/\c,x.v::l)
  |_,_=>none
def one(l:List LV):LV:=match l with|[x]=>x|l=>.tu l
def yM(T:Tab)(Q:LV->St->Prop)(fr:Frm)(st:St)(rs:List ResultVar):Prop:=
 match uP T fr st rs with
 |some (c,l)=>c/\Q (one l) st
 |none=>False
def Body(T:Tab)(rs:List ResultVar)(Q:LV->St->Prop):AQ:=fun e fr st=>match e with
 |.normal=>yM T Q fr st rs
 |.ret=>yM T Q fr st rs
 |_=>False
theorem Ox{rs:List ResultVar}{Q:LV->St->Prop}{fr:Frm}{st:St}:Body T rs Q .ret fr st=yM T Q fr st rs:=rfl
theorem HJ{rs:List ResultVar}{Q:LV->St->Prop}{fr:Frm}{st:St}:Body T rs Q .normal fr st=yM T Q fr st rs:=rfl
theorem yH(hT:bJ P T){w:World}{g:G}{a:Act}{fr:Frm}{st:St}(hi:Inv w g st)(hr:dN w g a fr):∀(rs:List ResultVar) (c:Prop) (l:List LV),uP T fr st rs=some (c,l)->c->
 ∃ vs:List Value,(rs.mapM fun|.tmp t=>pure (a.tmps.getD t undef)|.cell x t=>do loadVar t (<- asAddr (a.tmps.getD x undef)):Sem (List Value)).run P w=.ok vs w/\aC w g l vs
 |[],c,l,h,_=>by simp only[uP,aAb,aAW]at h;obtain⟨_,rfl⟩:=h;exact⟨[],sS,by simp only[aC]⟩
 |r::rs,c,l,h,hc=>by
  simp only[uP]at h
  split at h
  .rename_i x c' l' hx hl;simp only[aAb,aAW]at h;obtain⟨rfl,rfl⟩:=h;obtain⟨vs,h1,h2⟩:=yH hT hi hr rs c' l' hl hc.2;cases r with
   |tmp t=>simp only[Be,aAb]at hx;subst hx;refine⟨a.tmps.getD t undef::vs,?_,by simp only[aC];exact⟨_,_,rfl,hr t,h2⟩⟩;simp only[aEF,Sem.run_bind,Sem.run_pure,Result.andThen_ok,h1]
   |cell q t=>
    simp only[Be]at hx;obtain⟨_,u,k1,k2⟩:=Br hT hi hx hc.1 (hr q);refine⟨u::vs,?_,by simp only[aC];exact⟨_,_,rfl,k2,h2⟩⟩;have hp:∃ ad,a.tmps.getD q undef=.pointer (some ad):=by
     unfold BZ at hx;cases hpc:eE st (fr q) with
     |none=>rw[hpc]at hx;simp at hx
     |some cs=>obtain⟨b,o,vs,hv,_⟩:=KU hi hpc (hr q);exact⟨_,hv⟩
    obtain⟨ad,hp⟩:=hp;rw[hp]at k1;simp only[Instr.loadAt,Instr.sureAddr,Sem.run_bind,Sem.run_pure,Result.andThen_ok]at k1;have hq:(asAddr (.pointer (some ad)):Sem Addr)=pure ad:=rfl;simp only[aEF,Sem.run_bind,Sem.run_pure,Result.andThen_ok,hp,hq,k1,h1]
  .simp at h
theorem qO(hT:bJ P T){f:FuncId}{fn:Func}{c:Code}{args:List LV}{st:St}{Q:LV->St->Prop}{N:Nat}{rs:List ResultVar}(hf:P.funcs[f]?=some fn)(hb:fn.body=some c)
 (hname:(fn.name== "runtime.NumGoroutine")=false) (hN:fn.ntmps=N) (hrs:fn.results.toList=rs) (hlen:args.length<=N) (h:AWp P N c (AK P N (Body T rs Q) []) (sG args) st):aB P f args st Q:=by
 refine⟨enters_of hf hname hb,fun w g vs hi hr=>?_⟩;subst hN hrs;have hl:=aL _ _ hr;refine calls_of_wp hf hb ?_;have Yz:(vs.toArray++Array.replicate (fn.ntmps-vs.toArray.size) undef).size=fn.ntmps:=by simp;omega
 refine Code.wp_mono (fun e a' w' p=>?_) (h { tmps:=vs.toArray++Array.replicate (fn.ntmps-vs.toArray.size) undef,defers:=[] } w g hi ?_ Yz rfl)
 .obtain⟨Xg,st',g',hq,Yq,j5,I3,Zh,he⟩:=p;rw[tC]at hq;have key:yM T Q Xg st' fn.results.toList->a'.defers=[]/\∃ v,(results fn a'.tmps).run P w'=.ok v w'/\(∃ v_1 r st' g',Ending.returned v=.returned v_1/\Q r st'/\Rep w' g' r v_1/\Inv w' g' st'/\Ext w g w' g'):=by
   intro hk;unfold yM at hk;cases U1:uP T Xg st' fn.results.toList with
   |none=>rw[U1]at hk;exact hk.elim
   |some p=>
    obtain⟨c,l⟩:=p;rw[U1]at hk;obtain⟨us,h1,h2⟩:=yH hT Yq j5 _ c l U1 hk.1;have Xr:(results fn a'.tmps).run P w'=.ok (if h:us.toArray.size=1 then us.toArray[0]else .tuple us.toArray) w':=by unfold results;rw[Sem.run_bind,aEf,Sem.run_map];exact congrArg (fun r:Result (List Value)=>(r.andThen fun a w'=>Result.ok a.toArray w').andThen fun a w'=>Sem.run P (pure (if h:a.size=1 then a[0]else Value.tuple a)) w') h1
    refine⟨Zh,_,Xr,_,_,st',g',rfl,hk.2,?_,Yq,he⟩;unfold one
    split
    .rename_i x;simp only[aC]at h2;obtain⟨v,us',rfl,k1,rfl⟩:=h2;simpa using k1
    .rename_i Wu;have:us.length≠1:=by
      intro h1;rw[<- aL _ _ h2]at h1
      match l,h1 with
      |[x],_=>exact Wu x rfl
     rw[dif_neg (by simpa using this)];simp only[Rep];exact⟨us,rfl,h2⟩
  cases e with
  |normal=>exact key hq
  |ret=>exact key hq
  |_=>exact hq.elim
 .intro i;unfold sG;by_cases hi2:i<args.length
  .have h1:args.getD i .dead=args[i]:=by simp[List.getD,hi2]
   obtain⟨v,hv,hrv⟩:=tT i args vs args[i] hr (aAd hi2);rw[h1];have:(vs.toArray++Array.replicate (fn.ntmps-vs.toArray.size) undef).getD i undef=v:=by rw[aBM,Array.getElem?_append_left (by simp;omega)];simp[hv]
   simp only[this];exact hrv
  .have h1:args.getD i .dead=.dead:=by simp[List.getD,aBz (Nat.le_of_not_lt hi2)]
   rw[h1];simp only[Rep]
theorem xO{f:FuncId}{args:List LV}{st:St}{Q:LV->St->Prop}(h:aB P f args st fun r st'=>Q (norm r) st'):aB P f args st Q:=by refine⟨h.1,fun w g vs hi hr=>(h.2 w g vs hi hr).mono ?_⟩;rintro e w' ⟨v,r,st',g',rfl,hq,YF,Yq,he⟩;exact⟨v,norm r,st',g',rfl,hq,uA YF,Yq,he⟩
theorem jD(e s:Nat){f:FuncId}{args:List LV}{st:St}{Q:LV->St->Prop}(h:aB P f args st fun r st'=>(r=.nil/\Q (.ms st'.next 0 0) (st'.new (.box e s [])))\/Q r st'):aB P f args st Q:=by
 refine⟨h.1,fun w g vs hi hr=>(h.2 w g vs hi hr).mono ?_⟩;rintro x w' ⟨v,r,st',g',rfl,hq,YF,Yq,he⟩;rcases hq with⟨rfl,hq⟩|hq
 .refine⟨v,_,_,g'.addNil,rfl,hq,?_,iQ Yq _ (.inr ⟨e,s,rfl⟩),he.trans (ext_nil w' g')⟩;simp only[Rep]at YF;subst YF;simp only[Rep,G.addNil,Yq.next];exact⟨none,0,rfl,aAk _,aBs _,sS,sS,oO⟩
 .exact⟨v,r,st',g',rfl,hq,YF,Yq,he⟩
theorem cG{f:FuncId}{args:List LV}{st:St}{Q:LV->St->Prop}(h:aB P f args st fun r st'=>∃ l n e s cs,r=.ms l 0 n/\st'.H l=.box e s cs/\n*s<=cs.length/\Q (.sl 0 n (cs.take (n*s))) (st'.set l .dead)):aB P f args st Q:=by
 refine⟨h.1,fun w g vs hi hr=>(h.2 w g vs hi hr).mono ?_⟩;rintro x w' ⟨v,r,st',g',rfl,⟨l,n,e,s,cs,rfl,hl,hn,hq⟩,YF,Yq,he⟩
 obtain⟨g2,h1,h2,h3⟩:=gJ (fr:=upd (fun _=>.dead) 0 (.ms l 0 n)) 0 rfl hl hn { tmps:=#[v],defers:=[] } w' g' Yq (by
  intro j;unfold upd;by_cases hj:j=0
  .subst hj;rw[aAe rfl];exact YF
  .rw[aAa hj];simp only[Rep])
 exact⟨v,_,_,g2,rfl,hq,h2 0,h1,he.trans h3⟩
theorem yO{f:FuncId}{args:List LV}{vs:List Value}{w:World}{R:Value->Prop}(hG:iO w ⟨1,fun _=>none,fun _=>0,fun _=>0,fun _=>false⟩)(hr:aC w ⟨1,fun _=>none,fun _=>0,fun _=>0,fun _=>false⟩ args vs)
 (h:aB P f args ⟨1,fun _=>.dead⟩ fun r _=>∃ v,r=.atom v/\R v):Calls P f vs.toArray w fun e w'=>(∃ v,e=.returned v/\R v)/\Below w.heap.size w w':=by
 have hi:Inv w ⟨1,fun _=>none,fun _=>0,fun _=>0,fun _=>false⟩ ⟨1,fun _=>.dead⟩:=by refine⟨rfl,by decide,fun _ _=>rfl,fun l hl=>hl.elim,fun l l' hl=>hl.elim,fun l e s n hl=>(by cases hl),fun l e s cs hl=>(by cases hl),fun l ag ks es hl=>(by cases hl),fun l e n hl=>(by cases hl),Ae hG fun _=>rfl⟩
 refine(h.2 w _ vs hi hr).mono ?_;rintro e w' ⟨v,r,st',g',rfl,⟨v',rfl,Q7⟩,YF,_,he⟩;simp only[Rep]at YF;subst YF;exact⟨⟨_,rfl,Q7⟩,⟨he.os,he.tape,he.output,he.size,fun k hk=>(he.still k hk rfl).2⟩⟩
end
end Aw
end Go.Proofs.YtempldclppogmaaGreatDoor
