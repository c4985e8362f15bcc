/- Running a region by evaluation; a function's contract out of its body. No program is named here. -/
import Derived.Test.YtbgngpdonpeboaaGreatDoorAwSound3
import Derived.StillTail
set_option linter.unusedVariables false
set_option linter.unusedSimpArgs false
namespace Go.Proofs.YtbgngpdonpeboaaGreatDoor
namespace Aw
open Go Go.RowKit
def inM(M:List Nat):Option Nat->Bool
 |some d=>M.contains d
 |none=>false
def FZ:BinOp->Option Bool
 |.eql=>some false
 |.neq=>some true
 |_=>none
def uD:LV->Option Nat
 |.sl _ n _=>some n
 |.emp=>some 0
 |.ms _ _ n=>some n
 |_=>none
def tN(T:Tab)(o:Oper)(fr:Frm):Option (Bool×Nat):=
 match o.op with
 |.binOp op t x (.const (.slice none 0 0)) _=>match cR T t,FZ op,uD (aH fr x) with
  |some _,some ng,some n=>some (ng,n)
  |_,_,_=>none
 |_=>none
theorem FW{w:World}{g:G}{lv:LV}{v:Value}{n:Nat}(h:uD lv=some n)(hr:Rep w g lv v):∃ A c,v=.slice A n c/\(A=none->n=0):=by
 cases lv with
 |sl t n' cs=>
  grind [uD,Rep]
 |emp=>
  grind [uD,Rep]
 |ms l o n'=>
  grind [uD,Rep]
 |_=>simp[uD]at h
def cM(P:Program)(T:Tab)(N:Nat)(ops:Array Oper)(M:List Nat)(J:Frm->St->Prop):List Oper->Frm->St->Prop
 |[],fr,st=>J fr st
 |o::rest,fr,st=>match bB ops fr o.guard with
  |some b=>(b=true->(match o.op with
    |.call { callee:=.value x,args:=args,argTypes:=_ }=>match eY (aH fr x) with
     |some (f,Gj)=>∃ R,aB P f ((args.toList.map (aH fr))++Gj) st R/\∀ r st',R r st'->cM P T N ops M J rest (bM fr o.dst r) st'
     |none=>False
    |_=>match tN T o fr with
     |some (ng,n)=>∀ b:Bool,(b=true->n=0)->cM P T N ops M J rest (bM fr o.dst (.atom (.bool (b != ng)))) st
     |none=>match aop T (inM M o.dst) o fr st with
      |some r=>r.c/\cM P T N ops M J rest (bM fr o.dst r.v) r.s
      |none=>False))/\(b=false->cM P T N ops M J rest (bM fr o.dst (.tu [])) st)
  |none=>False
def CO(P:Program)(T:Tab)(N:Nat)(ops:Array Oper)(M:List Nat)(J:Frm->St->Prop)(rest:List Oper)(d:Option Nat)(fr:Frm)(st:St)(f:FuncId)(args:List LV):Prop:=
 ∃ R,aB P f args st R/\∀ r st',R r st'->cM P T N ops M J rest (bM fr d r) st'
def Kz(P:Program)(T:Tab)(N:Nat)(ops:Array Oper)(M:List Nat)(J:Frm->St->Prop)(rest:List Oper)(d:Option Nat)(fr:Frm)(st:St)(args:List LV):Option (FuncId×List LV)->Prop
 |some (f,Gj)=>CO P T N ops M J rest d fr st f (args++Gj)
 |none=>False
def Lc(P:Program)(T:Tab)(N:Nat)(ops:Array Oper)(M:List Nat)(J:Frm->St->Prop)(rest:List Oper)(d:Option Nat)(fr:Frm):Option bR->Prop
 |some r=>r.c/\cM P T N ops M J rest (bM fr d r.v) r.s
 |none=>False
def De(P:Program)(T:Tab)(N:Nat)(ops:Array Oper)(M:List Nat)(J:Frm->St->Prop)(rest:List Oper)(o:Oper)(fr:Frm)(st:St):Option (Bool×Nat)->Prop
 |some (ng,n)=>∀ b:Bool,(b=true->n=0)->cM P T N ops M J rest (bM fr o.dst (.atom (.bool (b != ng)))) st
 |none=>Lc P T N ops M J rest o.dst fr (aop T (inM M o.dst) o fr st)
def vB(P:Program)(T:Tab)(N:Nat)(ops:Array Oper)(M:List Nat)(J:Frm->St->Prop)(rest:List Oper)(o:Oper)(fr:Frm)(st:St):Prop:=
 match o.op with
 |.call { callee:=.value x,args:=args,argTypes:=_ }=>Kz P T N ops M J rest o.dst fr st (args.toList.map (aH fr)) (eY (aH fr x))
 |_=>De P T N ops M J rest o fr st (tN T o fr)
def BC(P:Program)(T:Tab)(N:Nat)(ops:Array Oper)(M:List Nat)(J:Frm->St->Prop)(rest:List Oper)(o:Oper)(fr:Frm)(st:St):Option Bool->Prop
 |some b=>(b=true->vB P T N ops M J rest o fr st)/\(b=false->cM P T N ops M J rest (bM fr o.dst (.tu [])) st)
 |none=>False
section
variable {P:Program} {T:Tab} {N:Nat} {ops:Array Oper} {M:List Nat} {J:Frm->St->Prop} {rest:List Oper} {o:Oper} {fr:Frm} {st:St} {d:Option Nat}
theorem Yz:cM P T N ops M J [] fr st=J fr st:=rfl
theorem Jg:cM P T N ops M J (o::rest) fr st=BC P T N ops M J rest o fr st (bB ops fr o.guard):=by
 unfold cM BC vB;cases bB ops fr o.guard with
 |none=>rfl
 |some b=>
  simp only
  congr 1
theorem Qh:BC P T N ops M J rest o fr st (some true)=vB P T N ops M J rest o fr st:=by simp[BC]
theorem MK:BC P T N ops M J rest o fr st (some false)=cM P T N ops M J rest (bM fr o.dst (.tu [])) st:=by simp[BC]
theorem TW:De P T N ops M J rest o fr st none=Lc P T N ops M J rest o.dst fr (aop T (inM M o.dst) o fr st):=rfl
theorem SY(ng:Bool)(n:Nat):De P T N ops M J rest o fr st (some (ng,n))=∀ b:Bool,(b=true->n=0)->cM P T N ops M J rest (bM fr o.dst (.atom (.bool (b != ng)))) st:=rfl
theorem YQ(r:bR):Lc P T N ops M J rest d fr (some r)=(r.c/\cM P T N ops M J rest (bM fr d r.v) r.s):=rfl
theorem XK(f:FuncId)(Gj args:List LV):Kz P T N ops M J rest d fr st args (some (f,Gj))=CO P T N ops M J rest d fr st f (args++Gj):=rfl
theorem Ds{w:World}{g:G}:∀(xs:List LV) (vs:List Value),aC w g xs vs->aC w g (xs.map norm) vs
 |[],vs,h=>h
 |x::xs,vs,h=>by simp only[aC,aAm]at h ⊢;obtain⟨v,vs',rfl,h1,h2⟩:=h;exact⟨v,vs',rfl,CB h1,Ds xs vs' h2⟩
theorem aB.of_norm{f:FuncId}{args:List LV}{R:LV->St->Prop}(h:aB P f (args.map norm) st R):aB P f args st R:=
 ⟨h.1,fun w g vs hi hr=>h.2 w g vs hi (Ds _ _ hr)⟩
theorem cI(h:cM P T N ops M J rest fr st):cM P T N ops M J rest fr st:=h
theorem qF{f:FuncId}{args:List LV}{R:LV->St->Prop}(h:aB P f args st R)(hk:∀ r st',R r st'->cM P T N ops M J rest (bM fr d r) st'):CO P T N ops M J rest d fr st f args:=⟨R,h,hk⟩
theorem Ka{w:World}{t:TypeId}{e:TypeId}(ht:P.underlying t=some (.slice e))(A:Option Addr)(n c:Nat)(x y:Operand):
 (do eqGuard .eql t x y (.slice A n c) (.slice none 0 0);binOp .eql t (.slice A n c) (.slice none 0 0):Sem Value).run P w=.ok (.bool A.isNone) w/\
 (do eqGuard .neq t x y (.slice A n c) (.slice none 0 0);binOp .neq t (.slice A n c) (.slice none 0 0):Sem Value).run P w=.ok (.bool (!A.isNone)) w:=by
 have hd:∀ d,(Op.equalIn (d+1) t (.slice A n c) (.slice none 0 0)).run P w=.ok A.isNone w:=by intro d;cases A<;>simp[Op.equalIn,run_underlying ht]
 have he:(Op.equal t (.slice A n c) (.slice none 0 0)).run P w=.ok A.isNone w:=hd 9999;constructor
 .unfold eqGuard;simp[binOp,he]
 .unfold eqGuard;simp[binOp,he]
theorem Gm(hT:aZ P T){Q:AQ}{ng:Bool}{n:Nat}(hn:tN T o fr=some (ng,n))
 (hw:bB ops fr o.guard=some true) (hk:kQ N ops o.guard=true) (hd:pI N o.dst=true)
 (h:∀ b:Bool,(b=true->n=0)->BT P N ops rest Q (bM fr o.dst (.atom (.bool (b != ng)))) st):BT P N ops (o::rest) Q fr st:=by
 intro a w g hi hr hs hdf;have key:∃ b:Bool,(b=true->n=0)/\(execOp a.eval o).run P w=.ok (.value (.bool (b != ng))) w:=by
  unfold tN at hn
  split at hn
  .rename_i op t x t' hop
   split at hn
   .rename_i e ng' n' hse hfl hln;simp only[aAb,aBd]at hn;obtain⟨rfl,rfl⟩:=hn;obtain⟨A,c,hv,hA⟩:=FW hln (aD hr x);have o9:=Ka (P:=P) (w:=w) (cG hT hse) A n' c x (.const (.slice none 0 0));refine⟨A.isNone,fun hb=>hA (by simp_all),?_⟩;cases op<;>simp only[FZ,aAb,reduceCtorEq]at hfl
    .subst hfl;have hc:a.eval (.const (.slice none 0 0))=.slice none 0 0:=rfl;simp only[execOp,hop,hv,hc];rw[Sem.run_bind,o9.1];simp
    .subst hfl;have hc:a.eval (.const (.slice none 0 0))=.slice none 0 0:=rfl;simp only[execOp,hop,hv,hc];rw[Sem.run_bind,o9.2];simp
   grind
  .grind
 obtain⟨b,hb,o9⟩:=key;have hwt:Region.wanted o (yielded ops a.tmps)=true:=eS hr hw (by rw[hs];exact jD hk);simp only[wpList,hwt,aBs];left;unfold Oper.wp;rw[o9,Oper.upon_value];exact h b hb _ w g hi (dY hr (by grind) (by grind [Rep])) (by grind [cF]) (by grind [put_defers])
theorem OB{f:FuncId}{args:List LV}{R:LV->St->Prop}(h:aB P f (args.map norm) st R)(hk:∀ r st',R r st'->cM P T N ops M J rest (bM fr d r) st'):CO P T N ops M J rest d fr st f args:=⟨R,h.of_norm,hk⟩
def cV(N:Nat)(ops:Array Oper)(l:List Oper):Bool:=l.all fun o=>pI N o.dst&&kQ N ops o.guard
theorem mH(hT:aZ P T){Q:AQ}(hJ:∀ fr st,J fr st->Q .normal fr st):∀(rest:List Oper) (fr:Frm) (st:St),cV N ops rest=true->cM P T N ops M J rest fr st->BT P N ops rest Q fr st
 |[],fr,st,_,h=>QB (hJ _ _ h)
 |o::rest,fr,st,hk,h=>by
  simp only[cV,List.all_cons,aAX]at hk;obtain⟨⟨hd,hg⟩,hk⟩:=hk;have ih:=mH hT hJ rest;have P0:cV N ops rest=true:=hk;unfold cM at h;cases hw:bB ops fr o.guard with
  |none=>grind
  |some b=>
   rw[hw]at h;cases b with
   |false=>grind [NW]
   |true=>
    have h1:=h.1 rfl
    split at h1
    .grind [Nq]
    .split at h1
     .rename_i ng n hnc;exact Gm hT hnc hw hg hd (fun b hb=>ih _ _ P0 (h1 b hb))
     .split at h1
      .rename_i r hr;exact TV hw hg hd (wK hT hr h1.1) (ih _ _ P0 h1.2)
      grind
theorem mO(hT:aZ P T)(M:List Nat){Q:AQ}{id:Nat}(hk:cV N ops ops.toList=true)
 (h:∀ J:Frm->St->Prop,(∀ fr st,Q .normal fr st->J fr st)->cM P T N ops M J ops.toList fr st):AWp P N (.region id ops false) Q fr st:=
 Kg (mH (M:=M) hT (J:=fun fr st=>Q .normal fr st) (fun _ _ h=>h) _ _ _ hk (h _ (fun _ _ h=>h)))
end
section
variable {P:Program} {T:Tab} {N:Nat} {ops:Array Oper} {M:List Nat} {fr:Frm} {st:St}
def iF(T:Tab)(ops:Array Oper)(J:Frm->St->Prop):List Oper->Frm->St->Prop
 |[],fr,st=>J fr st
 |o::rest,fr,st=>match bB ops fr o.guard with
  |some b=>(b=true->match aop T false o fr st with
    |some r=>r.c/\iF T ops J rest (bM fr o.dst r.v) st
    |none=>False)/\(b=false->iF T ops J rest (bM fr o.dst (.tu [])) st)
  |none=>False
def KS(T:Tab)(ops:Array Oper)(J:Frm->St->Prop)(rest:List Oper)(d:Option Nat)(fr:Frm)(st:St):Option bR->Prop
 |some r=>r.c/\iF T ops J rest (bM fr d r.v) st
 |none=>False
def xV(T:Tab)(ops:Array Oper)(J:Frm->St->Prop)(rest:List Oper)(o:Oper)(fr:Frm)(st:St):Option Bool->Prop
 |some b=>(b=true->KS T ops J rest o.dst fr st (aop T false o fr st))/\(b=false->iF T ops J rest (bM fr o.dst (.tu [])) st)
 |none=>False
theorem Zi{J:Frm->St->Prop}:iF T ops J [] fr st=J fr st:=rfl
theorem Yd{J:Frm->St->Prop}{o:Oper}{rest:List Oper}:iF T ops J (o::rest) fr st=xV T ops J rest o fr st (bB ops fr o.guard):=by unfold iF xV;cases bB ops fr o.guard<;>rfl
theorem Wn{J:Frm->St->Prop}{o:Oper}{rest:List Oper}:xV T ops J rest o fr st (some true)=KS T ops J rest o.dst fr st (aop T false o fr st):=by simp[xV]
theorem Tr{J:Frm->St->Prop}{o:Oper}{rest:List Oper}:xV T ops J rest o fr st (some false)=iF T ops J rest (bM fr o.dst (.tu [])) st:=by simp[xV]
theorem Wm{J:Frm->St->Prop}{d:Option Nat}{rest:List Oper}(r:bR):KS T ops J rest d fr st (some r)=(r.c/\iF T ops J rest (bM fr d r.v) st):=rfl
theorem pO(hT:aZ P T){J:Frm->St->Prop}{w:World}{g:G}{R:Act->Prop}(hi:Inv w g st)(hR:∀ a fr,dX w g a fr->a.tmps.size=N->a.defers=[]->J fr st->R a):
 ∀(rest:List Oper) (fr:Frm) (a:Act),dX w g a fr->a.tmps.size=N->a.defers=[]->cV N ops rest=true->rest.all (fun o=>aS o.op)=true->iF T ops J rest fr st->wpStill P ops w R rest a
 |[],fr,a,hr,hs,hd,_,_,h=>hR a fr hr hs hd h
 |o::rest,fr,a,hr,hs,hd,hk,hq,h=>by
  simp only[cV,List.all_cons,aAX]at hk hq;obtain⟨⟨hdst,hg⟩,hk⟩:=hk;have ih:=pO hT hi hR rest;have P0:cV N ops rest=true:=hk;unfold iF at h;unfold wpStill;cases hw:bB ops fr o.guard with
  |none=>grind
  |some b=>
   rw[hw]at h;have hwt:Region.wanted o (yielded ops a.tmps)=b:=eS hr hw (by rw[hs];exact jD hg);rw[hwt];cases b with
   |false=>
    grind [dY,wW,cF,put_defers]
   |true=>
    simp only[aBs];have h1:=h.1 rfl
    split at h1
    .rename_i r he;obtain⟨x,w',g',k1,k2,k3,k4,k5⟩:=wK (N:=N) hT he h1.1 a w g hi hr hs
     grind [Oper.still,Oper.stillUpon_value,dY,cF,put_defers]
    grind
theorem Om(hT:aZ P T)(M:List Nat)(n:Nat){Q:AQ}{id:Nat}{l:List Oper}(hm:P.follows .mixedOrders=true)(hB:Region.lexTailB .any l.toArray n=true)(hk:cV N l.toArray l=true)(hq:(l.take n).all (fun o=>aS o.op)=true)
 (h:∀ J:Frm->St->Prop,(∀ fr st,Q .normal fr st->J fr st)->iF T l.toArray (fun fr st=>cM P T N l.toArray M J (l.drop n) fr st) (l.take n) fr st):AWp P N (.region id l.toArray true) Q fr st:=by
 intro a w g hi hr hs hd;refine wp_region_still_tail n hm hB ?_;have j7:cV N l.toArray (l.take n)=true:=by unfold cV at hk ⊢;rw[aBJ]at hk ⊢;exact fun o ho=>hk o (aBT ho)
 have u6:cV N l.toArray (l.drop n)=true:=by unfold cV at hk ⊢;rw[aBJ]at hk ⊢;exact fun o ho=>hk o (aDg ho)
 have W5:Ext w g { w with drawn:=w.drawn+1 } g:=dU w g;refine pO (w:={ w with drawn:=w.drawn+1 }) hT hi.drew (fun a' c8 T0 hs' Q6 hj=>?_) _ fr a (hr.mono W5) hs hd j7 hq (h (fun fr st=>Q .normal fr st) (fun _ _ h=>h));exact dO (fun _ _ _ p=>p.pre W5) _ _ _ (mH (M:=M) hT (J:=fun fr st=>Q .normal fr st) (Q:=Q) (fun _ _ h=>h) _ _ _ u6 hj a' _ g hi.drew T0 hs' Q6)
theorem PB(hT:aZ P T){Q:AQ}{id:Nat}{l:List Oper}(hm:P.follows .mixedOrders=true)(hB:Region.lexB .any l.toArray=true)(hk:cV N l.toArray l=true)(hq:l.all (fun o=>aS o.op)=true)
 (h:∀ J:Frm->St->Prop,(∀ fr st,Q .normal fr st->J fr st)->iF T l.toArray J l fr st):AWp P N (.region id l.toArray true) Q fr st:=by
 intro a w g hi hr hs hd;refine wp_region_still_lit hm hB ?_;have W5:Ext w g { w with drawn:=w.drawn+1 } g:=dU w g;refine pO (w:={ w with drawn:=w.drawn+1 }) hT hi.drew (fun a' c8 T0 hs' Q6 hj=>?_) _ fr a (hr.mono W5) hs hd hk hq (h (fun fr st=>Q .normal fr st) (fun _ _ h=>h));exact⟨c8,st,g,hj,hi.drew,T0,hs',Q6,W5⟩
end
section
variable {P:Program} {T:Tab} {N:Nat} {Q:AQ} {fr:Frm} {st:St} {c:Code}
theorem rG{w:World}{g:G}{a:Act}(h:dX w g a fr)(d:Nat){lv:LV}(hv:Rep w g lv (a.tmps.getD d undef)):dX w g a (upd fr d lv):=by
 intro i;unfold upd;by_cases hi:i=d
 .grind
 .rw[aAa hi];exact h i
theorem kM(d e s:Nat)(hd:fr d=.nil)(h:AWp P N c Q (upd fr d (.sl st.next 0 [])) (st.new (.own e s 0))):AWp P N c Q fr st:=by refine jA (fun a w g hi hr _=>?_) h;refine⟨g.addNil,jH hi _ (.inl ⟨e,s,rfl⟩),rG (hr.mono (ext_nil w g)) d ?_,ext_nil w g⟩;have h1:=hr d;rw[hd]at h1;simp only[Rep]at h1 ⊢;exact⟨none,0,h1,aAl _,⟨aBI _,fun _=>rfl⟩,fun _=>by simp[G.addNil,hi.next],fun h=>absurd rfl h⟩
theorem XJ(d:Nat){t n e:Nat}{cs:List LV}(hd:fr d=.sl t n cs)(hl:st.H t=.own e 1 n)(hn:0<n)(ht:t≠0)(h:AWp P N c Q (upd fr d (.qu t 0 n cs)) (st.set t (.que e n))):AWp P N c Q fr st:=by
 refine jA (fun a w g hi hr _=>?_) h;have h1:=hr d;rw[hd]at h1;simp only[Rep]at h1;obtain⟨A,cap,hv,hnc,hcm,htok,hcells⟩:=h1;obtain⟨hA,rfl,dA⟩:=htok ht;obtain⟨o1,o2,o3,o4⟩:=hi.own t e 1 n hl;have r9:g.nl t=false:=by
  cases h0:g.nl t with
  |false=>rfl
  |true=>grind
 obtain⟨q1,q2⟩:=KN o2;refine⟨g,ES hi hl r9,rG hr d ?_,Ext.refl w g⟩
 grind [Rep]
theorem uN(d e s:Nat)(hd:fr d=.nil)(h:AWp P N c Q (upd fr d (.ms st.next 0 0)) (st.new (.box e s []))):AWp P N c Q fr st:=by refine jA (fun a w g hi hr _=>?_) h;refine⟨g.addNil,jH hi _ (.inr ⟨e,s,rfl⟩),rG (hr.mono (ext_nil w g)) d ?_,ext_nil w g⟩;have h1:=hr d;rw[hd]at h1;simp only[Rep]at h1 ⊢;exact⟨none,0,h1,aAl _,aBI _,by simp[G.addNil,hi.next],sS,by simp[G.addNil,hi.next]⟩
theorem Ku(k:Nat){l e s:Nat}{cs:List LV}(hl:st.H l=.box e s cs)(h:AWp P N c Q fr (st.set l (.box e s (cs.take k)))):AWp P N c Q fr st:=
 jA (fun a w g hi hr _=>⟨g,tY hi k hl,hr,Ext.refl w g⟩) h
def G.raise(g:G)(b k:Nat):G:={ g with φ:=fun x=>if x=b then some k else g.φ x }
theorem iK(d:Nat){l n e s:Nat}{cs:List LV}(hd:fr d=.ms l 0 n)(hl:st.H l=.box e s cs)(hn:n*s<=cs.length)(a:Act)(w:World)(g:G)(hi:Inv w g st)(hr:dX w g a fr):
 ∃ g',Inv w g' (st.set l .dead)/\dX w g' a (upd fr d (.sl 0 n (cs.take (n*s))))/\Ext w g w g':=by
 have dA:l<st.next:=BN hi hl sS;obtain⟨q1,q2,q3⟩:=hi.box l e s cs hl;have h1:=hr d;rw[hd]at h1;simp only[Rep]at h1;obtain⟨A,cap,hv,hnc,hcm,hA,hA',_⟩:=h1;cases r9:g.nl l with
 |true=>
  obtain⟨S7,rfl⟩:=q2 r9;refine⟨g,hi.drop l dA,rG hr d ?_,Ext.refl w g⟩
  grind [Rep]
 |false=>
  obtain⟨n9,k1,k2,k3,k4,k5⟩:=q3 r9;have he:Ext w g w (g.raise (g.β l) (n*s)):=by
   refine⟨rfl,rfl,rfl,aAl _,aAl _,fun _ _=>rfl,fun _ _=>rfl,fun _ _=>rfl,?_,?_⟩
   .grind [G.raise]
   .intro b k hb hk;by_cases c7:b=g.β l
    .subst c7;rw[k5]at hk;injection hk with hk;subst hk
     grind [G.raise]
    grind [G.raise]
  have Q6:=hi.drop l dA;have c7:∀ x,blk g (st.set l .dead) x->g.β x≠g.β l:=by
   intro x hx hh;have U9:x≠l/\blk g st x:=by
    unfold blk at hx ⊢;simp only[St.set]at hx;by_cases e0:x=l
    .grind
    .grind
   exact U9.1 (hi.inj x l U9.2 (by grind [blk]) hh)
  refine⟨g.raise (g.β l) (n*s),⟨Q6.next,Q6.pos,Q6.fresh,Q6.lt,Q6.inj,?_,?_,fun x ag ks es hx=>(Q6.mp x ag ks es hx).keep he (Q6.map_lt hx) rfl (by simp only[G.raise];rw[aAa (c7 x (Q6.map_blk hx))]),fun x e n hx=>(Q6.qu x e n hx).keep he (Q6.que_lt hx) rfl (by simp only[G.raise];rw[aAa (c7 x (Q6.que_blk hx))]),Q6.aside.keep he fun _ _=>rfl⟩,rG (hr.mono he) d ?_,he⟩
  .intro x e' s' n' hx;obtain⟨z1,z2,z3,z4⟩:=Q6.own x e' s' n' hx;refine⟨z1,z2,z3,fun hxn=>?_⟩;obtain⟨c',y1,y2,y3⟩:=z4 hxn;have hxne:=c7 x (by unfold blk;rw[hx];exact hxn);exact⟨c',y1,y2,by grind [G.raise]⟩
  .intro x e' s' cs' hx;obtain⟨z1,z2,z3⟩:=Q6.box x e' s' cs' hx;refine⟨z1,z2,fun hxn=>?_⟩;obtain⟨c',y1,y2,y3,y4,y5⟩:=z3 hxn;have hxne:=c7 x (by unfold blk;rw[hx];exact hxn);exact⟨c',y1,y2,y3,aC.mono he _ _ y4,by grind [G.raise]⟩
  .obtain rfl:=(hA trivial).2 r9;simp only[Rep];refine⟨_,cap,hv,hnc,⟨hcm,sS⟩,fun h=>absurd rfl h,fun _=>⟨g.β l,0,rfl,jC _ (n9.take (n*s)) 0 ?_ (fun j hj=>?_) (fun j hj=>?_)⟩⟩
   .have:=dK (n*s) _ _ k4
    grind [aC.mono]
   .rw[cell_of_row w _ _ _ _ _ k1,aBv]
    grind
   .intro k hk
    grind [G.raise]
theorem tL(d:Nat){l n e s:Nat}{cs:List LV}(hd:fr d=.ms l 0 n)(hl:st.H l=.box e s cs)(hn:n*s<=cs.length)(h:AWp P N c Q (upd fr d (.sl 0 n (cs.take (n*s)))) (st.set l .dead)):AWp P N c Q fr st:=
 jA (fun a w g hi hr _=>iK d hd hl hn a w g hi hr) h
end
section
variable {P:Program} {T:Tab}
def uF(args:List LV):Frm:=fun i=>args.getD i .dead
def Bc(T:Tab)(fr:Frm)(st:St):ResultVar->Option bR
 |.tmp t=>some ⟨True,fr t,st⟩
 |.cell a t=>Co T t (fr a) st
def vX(T:Tab)(fr:Frm)(st:St):List ResultVar->Option (Prop×List LV)
 |[]=>some (True,[])
 |r::rs=>match Bc T fr st r,vX T fr st rs with
  |some x,some (c,l)=>some (x.c/\c,x.v::l)
  |_,_=>none
def one(l:List LV):LV:=match l with|[x]=>x|l=>.tu l
def zH(T:Tab)(Q:LV->St->Prop)(fr:Frm)(st:St)(rs:List ResultVar):Prop:=
 match vX T fr st rs with
 |some (c,l)=>c/\Q (one l) st
 |none=>False
def Body(T:Tab)(rs:List ResultVar)(Q:LV->St->Prop):AQ:=fun e fr st=>match e with
 |.normal=>zH T Q fr st rs
 |.ret=>zH T Q fr st rs
 |_=>False
theorem SK{rs:List ResultVar}{Q:LV->St->Prop}{fr:Frm}{st:St}:Body T rs Q .ret fr st=zH T Q fr st rs:=rfl
theorem Ih{rs:List ResultVar}{Q:LV->St->Prop}{fr:Frm}{st:St}:Body T rs Q .normal fr st=zH T Q fr st rs:=rfl
theorem yW(hT:aZ P T){w:World}{g:G}{a:Act}{fr:Frm}{st:St}(hi:Inv w g st)(hr:dX w g a fr):∀(rs:List ResultVar) (c:Prop) (l:List LV),vX T fr st rs=some (c,l)->c->
 ∃ vs:List Value,(rs.mapM fun|.tmp t=>pure (a.tmps.getD t undef)|.cell x t=>do loadVar t (<- asAddr (a.tmps.getD x undef)):Sem (List Value)).run P w=.ok vs w/\aC w g l vs
 |[],c,l,h,_=>by simp only[vX,aAb,aBd]at h;obtain⟨_,rfl⟩:=h;exact⟨[],sS,by grind [aC]⟩
 |r::rs,c,l,h,hc=>by
  simp only[vX]at h
  split at h
  .rename_i x c' l' hx hl;simp only[aAb,aBd]at h;obtain⟨rfl,rfl⟩:=h;obtain⟨vs,h1,h2⟩:=yW hT hi hr rs c' l' hl hc.2;cases r with
   |tmp t=>simp only[Bc,aAb]at hx;subst hx;refine⟨a.tmps.getD t undef::vs,?_,by simp only[aC];exact⟨_,_,rfl,hr t,h2⟩⟩;simp_all
   |cell q t=>
    simp only[Bc]at hx;obtain⟨_,u,k1,k2⟩:=Aj hT hi hx hc.1 (hr q);refine⟨u::vs,?_,by grind [aC]⟩;have hp:∃ ad,a.tmps.getD q undef=.pointer (some ad):=by
     unfold Co at hx;cases hpc:eP st (fr q) with
     |none=>grind
     |some cs=>
      obtain⟨b,o,vs,hv,_⟩:=Lw hi hpc (hr q)
      grind
    grind [Instr.loadAt,Instr.sureAddr,Sem.run_bind,Sem.run_pure,Result.andThen_ok,asAddr]
  grind
theorem qO(hT:aZ P T){f:FuncId}{fn:Func}{c:Code}{args:List LV}{st:St}{Q:LV->St->Prop}{N:Nat}{rs:List ResultVar}(hf:P.funcs[f]?=some fn)(hb:fn.body=some c)
 (hname:(fn.name== "runtime.NumGoroutine")=false) (hN:fn.ntmps=N) (hrs:fn.results.toList=rs) (hlen:args.length<=N) (h:AWp P N c (AK P N (Body T rs Q) []) (uF args) st):aB P f args st Q:=by
 refine⟨enters_of hf hname hb,fun w g vs hi hr=>?_⟩;subst hN hrs;have hl:=aJ _ _ hr;refine calls_of_wp hf hb ?_;have U0:(vs.toArray++Array.replicate (fn.ntmps-vs.toArray.size) undef).size=fn.ntmps:=by simp;omega
 refine Code.wp_mono (fun e a' w' p=>?_) (h { tmps:=vs.toArray++Array.replicate (fn.ntmps-vs.toArray.size) undef,defers:=[] } w g hi ?_ U0 rfl)
 .obtain⟨c8,st',g',hq,M4,T0,hs',Q6,he⟩:=p;rw[uG]at hq;have key:zH T Q c8 st' fn.results.toList->a'.defers=[]/\∃ v,(results fn a'.tmps).run P w'=.ok v w'/\(∃ v_1 r st' g',Ending.returned v=.returned v_1/\Q r st'/\Rep w' g' r v_1/\Inv w' g' st'/\Ext w g w' g'):=by
   intro hk;unfold zH at hk;cases hres:vX T c8 st' fn.results.toList with
   |none=>grind
   |some p=>
    obtain⟨c,l⟩:=p;rw[hres]at hk;obtain⟨us,h1,h2⟩:=yW hT M4 T0 _ c l hres hk.1;have o9:(results fn a'.tmps).run P w'=.ok (if h:us.toArray.size=1 then us.toArray[0]else .tuple us.toArray) w':=by unfold results;rw[Sem.run_bind,aDW,Sem.run_map];exact congrArg (fun r:Result (List Value)=>(r.andThen fun a w'=>Result.ok a.toArray w').andThen fun a w'=>Sem.run P (pure (if h:a.size=1 then a[0]else Value.tuple a)) w') h1
    refine⟨Q6,_,o9,_,_,st',g',rfl,hk.2,?_,M4,he⟩;unfold one
    split
    .grind [aC]
    .rename_i c7;have:us.length≠1:=by
      intro h1;rw[<- aJ _ _ h2]at h1
      match l,h1 with
      |[x],_=>grind
     grind [Rep]
  cases e with
  |normal=>exact key hq
  |ret=>exact key hq
  |_=>exact hq.elim
 .intro i;unfold uF;by_cases hi2:i<args.length
  .have h1:args.getD i .dead=args[i]:=by simp[List.getD,hi2]
   obtain⟨v,hv,hrv⟩:=uV i args vs args[i] hr (aAh hi2);rw[h1];have:(vs.toArray++Array.replicate (fn.ntmps-vs.toArray.size) undef).getD i undef=v:=by rw[aCD,aDU (by grind)];simp[hv]
   grind
  grind [Rep]
theorem yH{f:FuncId}{args:List LV}{st:St}{Q:LV->St->Prop}(h:aB P f args st fun r st'=>Q (norm r) st'):aB P f args st Q:=by refine⟨h.1,fun w g vs hi hr=>(h.2 w g vs hi hr).mono ?_⟩;rintro e w' ⟨v,r,st',g',rfl,hq,K9,M4,he⟩;exact⟨v,norm r,st',g',rfl,hq,CB K9,M4,he⟩
theorem jO(e s:Nat){f:FuncId}{args:List LV}{st:St}{Q:LV->St->Prop}(h:aB P f args st fun r st'=>(r=.nil/\Q (.ms st'.next 0 0) (st'.new (.box e s [])))\/Q r st'):aB P f args st Q:=by
 refine⟨h.1,fun w g vs hi hr=>(h.2 w g vs hi hr).mono ?_⟩;rintro x w' ⟨v,r,st',g',rfl,hq,K9,M4,he⟩;rcases hq with⟨rfl,hq⟩|hq
 .refine⟨v,_,_,g'.addNil,rfl,hq,?_,jH M4 _ (.inr ⟨e,s,rfl⟩),he.trans (ext_nil w' g')⟩;simp only[Rep]at K9;subst K9;simp only[Rep,G.addNil,M4.next]
  grind
 grind
theorem cD{f:FuncId}{args:List LV}{st:St}{Q:LV->St->Prop}(h:aB P f args st fun r st'=>∃ l n e s cs,r=.ms l 0 n/\st'.H l=.box e s cs/\n*s<=cs.length/\Q (.sl 0 n (cs.take (n*s))) (st'.set l .dead)):aB P f args st Q:=by
 refine⟨h.1,fun w g vs hi hr=>(h.2 w g vs hi hr).mono ?_⟩;rintro x w' ⟨v,r,st',g',rfl,⟨l,n,e,s,cs,rfl,hl,hn,hq⟩,K9,M4,he⟩
 obtain⟨g2,h1,h2,h3⟩:=iK (fr:=upd (fun _=>.dead) 0 (.ms l 0 n)) 0 rfl hl hn { tmps:=#[v],defers:=[] } w' g' M4 (by
  intro j;unfold upd;by_cases hj:j=0
  .simp_all
  grind [Rep])
 exact⟨v,_,_,g2,rfl,hq,h2 0,h1,he.trans h3⟩
theorem zP{f:FuncId}{args:List LV}{vs:List Value}{w:World}{R:Value->Prop}(hG:gY w ⟨1,fun _=>none,fun _=>0,fun _=>0,fun _=>false⟩)(hr:aC w ⟨1,fun _=>none,fun _=>0,fun _=>0,fun _=>false⟩ args vs)
 (h:aB P f args ⟨1,fun _=>.dead⟩ fun r _=>∃ v,r=.atom v/\R v):Calls P f vs.toArray w fun e w'=>(∃ v,e=.returned v/\R v)/\Below w.heap.size w w':=by
 have hi:Inv w ⟨1,fun _=>none,fun _=>0,fun _=>0,fun _=>false⟩ ⟨1,fun _=>.dead⟩:=by refine⟨rfl,by decide,fun _ _=>rfl,fun l hl=>hl.elim,fun l l' hl=>hl.elim,fun l e s n hl=>(by grind),fun l e s cs hl=>(by grind),fun l ag ks es hl=>(by grind),fun l e n hl=>(by grind),uH hG fun _=>rfl⟩
 refine(h.2 w _ vs hi hr).mono ?_;rintro e w' ⟨v,r,st',g',rfl,⟨v',rfl,hv'⟩,K9,_,he⟩;simp only[Rep]at K9;subst K9;exact⟨⟨_,rfl,hv'⟩,⟨he.os,he.tape,he.output,he.size,fun k hk=>(he.still k hk rfl).2⟩⟩
end
end Aw
end Go.Proofs.YtbgngpdonpeboaaGreatDoor
