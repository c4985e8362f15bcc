/- Running a region by evaluation; a function's contract out of its body. No program is named here. -/
import Derived.Test.YtbgngpdonpeboaaGreatDoorAwSound3
import Derived.StillTail
set_option linter.unusedVariables false
set_option linter.unusedSimpArgs false
namespace Go.Proofs.YtbgngpdonpeboaaGreatDoor
namespace Aw
open Go Go.RowKit
def inM(M:List Nat):Option Nat->Bool
 |some d=>M.contains d
 |none=>false
def Ea:BinOp->Option Bool
 |.eql=>some false
 |.neq=>some true
 |_=>none
def tZ:LV->Option Nat
 |.sl _ n _=>some n
 |.emp=>some 0
 |.ms _ _ n=>some n
 |_=>none
def uB(T:Tab)(o:Oper)(fr:Frm):Option (Bool×Nat):=
 match o.op with
 |.binOp op t x (.const (.slice none 0 0)) _=>match cO T t,Ea op,tZ (aH fr x) with
  |some _,some ng,some n=>some (ng,n)
  |_,_,_=>none
 |_=>none
theorem Fj{w:World}{g:G}{lv:LV}{v:Value}{n:Nat}(h:tZ lv=some n)(hr:Rep w g lv v):∃ A c,v=.slice A n c/\(A=none->n=0):=by
 cases lv with
 |sl t n' cs=>
  grind [tZ,Rep]
 |emp=>
  grind [tZ,Rep]
 |ms l o n'=>
  grind [tZ,Rep]
 |_=>simp[tZ]at h
def cM(P:Program)(T:Tab)(N:Nat)(ops:Array Oper)(M:List Nat)(J:Frm->St->Prop):List Oper->Frm->St->Prop
 |[],fr,st=>J fr st
 |o::rest,fr,st=>match aY ops fr o.guard with
  |some b=>(b=true->(match o.op with
    |.call { callee:=.value x,args:=args,argTypes:=_ }=>match fA (aH fr x) with
     |some (f,IQ)=>∃ R,aB P f ((args.toList.map (aH fr))++IQ) st R/\∀ r st',R r st'->cM P T N ops M J rest (bK fr o.dst r) st'
     |none=>False
    |_=>match uB T o fr with
     |some (ng,n)=>∀ b:Bool,(b=true->n=0)->cM P T N ops M J rest (bK fr o.dst (.atom (.bool (b != ng)))) st
     |none=>match aop T (inM M o.dst) o fr st with
      |some r=>r.c/\cM P T N ops M J rest (bK fr o.dst r.v) r.s
      |none=>False))/\(b=false->cM P T N ops M J rest (bK fr o.dst (.tu [])) st)
  |none=>False
def Bz(P:Program)(T:Tab)(N:Nat)(ops:Array Oper)(M:List Nat)(J:Frm->St->Prop)(rest:List Oper)(d:Option Nat)(fr:Frm)(st:St)(f:FuncId)(args:List LV):Prop:=
 ∃ R,aB P f args st R/\∀ r st',R r st'->cM P T N ops M J rest (bK fr d r) st'
def MI(P:Program)(T:Tab)(N:Nat)(ops:Array Oper)(M:List Nat)(J:Frm->St->Prop)(rest:List Oper)(d:Option Nat)(fr:Frm)(st:St)(args:List LV):Option (FuncId×List LV)->Prop
 |some (f,IQ)=>Bz P T N ops M J rest d fr st f (args++IQ)
 |none=>False
def LH(P:Program)(T:Tab)(N:Nat)(ops:Array Oper)(M:List Nat)(J:Frm->St->Prop)(rest:List Oper)(d:Option Nat)(fr:Frm):Option bP->Prop
 |some r=>r.c/\cM P T N ops M J rest (bK fr d r.v) r.s
 |none=>False
def DS(P:Program)(T:Tab)(N:Nat)(ops:Array Oper)(M:List Nat)(J:Frm->St->Prop)(rest:List Oper)(o:Oper)(fr:Frm)(st:St):Option (Bool×Nat)->Prop
 |some (ng,n)=>∀ b:Bool,(b=true->n=0)->cM P T N ops M J rest (bK fr o.dst (.atom (.bool (b != ng)))) st
 |none=>LH P T N ops M J rest o.dst fr (aop T (inM M o.dst) o fr st)
def uQ(P:Program)(T:Tab)(N:Nat)(ops:Array Oper)(M:List Nat)(J:Frm->St->Prop)(rest:List Oper)(o:Oper)(fr:Frm)(st:St):Prop:=
 match o.op with
 |.call { callee:=.value x,args:=args,argTypes:=_ }=>MI P T N ops M J rest o.dst fr st (args.toList.map (aH fr)) (fA (aH fr x))
 |_=>DS P T N ops M J rest o fr st (uB T o fr)
def BZ(P:Program)(T:Tab)(N:Nat)(ops:Array Oper)(M:List Nat)(J:Frm->St->Prop)(rest:List Oper)(o:Oper)(fr:Frm)(st:St):Option Bool->Prop
 |some b=>(b=true->uQ P T N ops M J rest o fr st)/\(b=false->cM P T N ops M J rest (bK fr o.dst (.tu [])) st)
 |none=>False
section
variable {P:Program} {T:Tab} {N:Nat} {ops:Array Oper} {M:List Nat} {J:Frm->St->Prop} {rest:List Oper} {o:Oper} {fr:Frm} {st:St} {d:Option Nat}
theorem YP:cM P T N ops M J [] fr st=J fr st:=rfl
theorem JM:cM P T N ops M J (o::rest) fr st=BZ P T N ops M J rest o fr st (aY ops fr o.guard):=by
 unfold cM BZ uQ;cases aY ops fr o.guard with
 |none=>rfl
 |some b=>
  simp only
  congr 1
theorem Rh:BZ P T N ops M J rest o fr st (some true)=uQ P T N ops M J rest o fr st:=by simp[BZ]
theorem Kt:BZ P T N ops M J rest o fr st (some false)=cM P T N ops M J rest (bK fr o.dst (.tu [])) st:=by simp[BZ]
theorem VD:DS P T N ops M J rest o fr st none=LH P T N ops M J rest o.dst fr (aop T (inM M o.dst) o fr st):=rfl
theorem PC(ng:Bool)(n:Nat):DS P T N ops M J rest o fr st (some (ng,n))=∀ b:Bool,(b=true->n=0)->cM P T N ops M J rest (bK fr o.dst (.atom (.bool (b != ng)))) st:=rfl
theorem Wd(r:bP):LH P T N ops M J rest d fr (some r)=(r.c/\cM P T N ops M J rest (bK fr d r.v) r.s):=rfl
theorem Wx(f:FuncId)(IQ args:List LV):MI P T N ops M J rest d fr st args (some (f,IQ))=Bz P T N ops M J rest d fr st f (args++IQ):=rfl
theorem DM{w:World}{g:G}:∀(xs:List LV) (vs:List Value),aC w g xs vs->aC w g (xs.map norm) vs
 |[],vs,h=>h
 |x::xs,vs,h=>by simp only[aC,aAl]at h ⊢;obtain⟨v,vs',rfl,h1,h2⟩:=h;exact⟨v,vs',rfl,Au h1,DM xs vs' h2⟩
theorem aB.of_norm{f:FuncId}{args:List LV}{R:LV->St->Prop}(h:aB P f (args.map norm) st R):aB P f args st R:=
 ⟨h.1,fun w g vs hi hr=>h.2 w g vs hi (DM _ _ hr)⟩
theorem cS(h:cM P T N ops M J rest fr st):cM P T N ops M J rest fr st:=h
theorem qF{f:FuncId}{args:List LV}{R:LV->St->Prop}(h:aB P f args st R)(hk:∀ r st',R r st'->cM P T N ops M J rest (bK fr d r) st'):Bz P T N ops M J rest d fr st f args:=⟨R,h,hk⟩
theorem KN{w:World}{t:TypeId}{e:TypeId}(ht:P.underlying t=some (.slice e))(A:Option Addr)(n c:Nat)(x y:Operand):
 (do eqGuard .eql t x y (.slice A n c) (.slice none 0 0);binOp .eql t (.slice A n c) (.slice none 0 0):Sem Value).run P w=.ok (.bool A.isNone) w/\
 (do eqGuard .neq t x y (.slice A n c) (.slice none 0 0);binOp .neq t (.slice A n c) (.slice none 0 0):Sem Value).run P w=.ok (.bool (!A.isNone)) w:=by
 have hd:∀ d,(Op.equalIn (d+1) t (.slice A n c) (.slice none 0 0)).run P w=.ok A.isNone w:=by intro d;cases A<;>simp[Op.equalIn,run_underlying ht]
 have he:(Op.equal t (.slice A n c) (.slice none 0 0)).run P w=.ok A.isNone w:=hd 9999;constructor
 .unfold eqGuard;simp[binOp,he]
 .unfold eqGuard;simp[binOp,he]
theorem IZ(hT:aX P T){Q:AQ}{ng:Bool}{n:Nat}(hn:uB T o fr=some (ng,n))
 (hw:aY ops fr o.guard=some true) (hk:kD N ops o.guard=true) (hd:pB N o.dst=true)
 (h:∀ b:Bool,(b=true->n=0)->CQ P N ops rest Q (bK fr o.dst (.atom (.bool (b != ng)))) st):CQ P N ops (o::rest) Q fr st:=by
 intro a w g hi hr hs hdf;have key:∃ b:Bool,(b=true->n=0)/\(execOp a.eval o).run P w=.ok (.value (.bool (b != ng))) w:=by
  unfold uB at hn
  split at hn
  .rename_i op t x t' hop
   split at hn
   .rename_i e ng' n' hse U4 hln;simp only[aAb,aBd]at hn;obtain⟨rfl,rfl⟩:=hn;obtain⟨A,c,hv,hA⟩:=Fj hln (aD hr x);have o6:=KN (P:=P) (w:=w) (cF hT hse) A n' c x (.const (.slice none 0 0));refine⟨A.isNone,fun hb=>hA (by simp_all),?_⟩;cases op<;>simp only[Ea,aAb,reduceCtorEq]at U4
    .subst U4;have hc:a.eval (.const (.slice none 0 0))=.slice none 0 0:=rfl;simp only[execOp,hop,hv,hc];rw[Sem.run_bind,o6.1];simp
    .subst U4;have hc:a.eval (.const (.slice none 0 0))=.slice none 0 0:=rfl;simp only[execOp,hop,hv,hc];rw[Sem.run_bind,o6.2];simp
   grind
  .grind
 obtain⟨b,hb,o6⟩:=key;have hwt:Region.wanted o (yielded ops a.tmps)=true:=eV hr hw (by rw[hs];exact iO hk);simp only[wpList,hwt,aBq];left;unfold Oper.wp;rw[o6,Oper.upon_value];exact h b hb _ w g hi (eG hr (by grind) (by grind [Rep])) (by grind [cC]) (by grind [put_defers])
theorem Mv{f:FuncId}{args:List LV}{R:LV->St->Prop}(h:aB P f (args.map norm) st R)(hk:∀ r st',R r st'->cM P T N ops M J rest (bK fr d r) st'):Bz P T N ops M J rest d fr st f args:=⟨R,h.of_norm,hk⟩
def cW(N:Nat)(ops:Array Oper)(l:List Oper):Bool:=l.all fun o=>pB N o.dst&&kD N ops o.guard
theorem lW(hT:aX P T){Q:AQ}(hJ:∀ fr st,J fr st->Q .normal fr st):∀(rest:List Oper) (fr:Frm) (st:St),cW N ops rest=true->cM P T N ops M J rest fr st->CQ P N ops rest Q fr st
 |[],fr,st,_,h=>PW (hJ _ _ h)
 |o::rest,fr,st,hk,h=>by
  simp only[cW,List.all_cons,aAW]at hk;obtain⟨⟨hd,hg⟩,hk⟩:=hk;have ih:=lW hT hJ rest;have Q0:cW N ops rest=true:=hk;unfold cM at h;cases hw:aY ops fr o.guard with
  |none=>grind
  |some b=>
   rw[hw]at h;cases b with
   |false=>grind [Nh]
   |true=>
    have h1:=h.1 rfl
    split at h1
    .grind [Nj]
    .split at h1
     .rename_i ng n hnc;exact IZ hT hnc hw hg hd (fun b hb=>ih _ _ Q0 (h1 b hb))
     .split at h1
      .rename_i r hr;exact Sx hw hg hd (xE hT hr h1.1) (ih _ _ Q0 h1.2)
      grind
theorem mL(hT:aX P T)(M:List Nat){Q:AQ}{id:Nat}(hk:cW N ops ops.toList=true)
 (h:∀ J:Frm->St->Prop,(∀ fr st,Q .normal fr st->J fr st)->cM P T N ops M J ops.toList fr st):AWp P N (.region id ops false) Q fr st:=
 JH (lW (M:=M) hT (J:=fun fr st=>Q .normal fr st) (fun _ _ h=>h) _ _ _ hk (h _ (fun _ _ h=>h)))
end
section
variable {P:Program} {T:Tab} {N:Nat} {ops:Array Oper} {M:List Nat} {fr:Frm} {st:St}
def iB(T:Tab)(ops:Array Oper)(J:Frm->St->Prop):List Oper->Frm->St->Prop
 |[],fr,st=>J fr st
 |o::rest,fr,st=>match aY ops fr o.guard with
  |some b=>(b=true->match aop T false o fr st with
    |some r=>r.c/\iB T ops J rest (bK fr o.dst r.v) st
    |none=>False)/\(b=false->iB T ops J rest (bK fr o.dst (.tu [])) st)
  |none=>False
def Jm(T:Tab)(ops:Array Oper)(J:Frm->St->Prop)(rest:List Oper)(d:Option Nat)(fr:Frm)(st:St):Option bP->Prop
 |some r=>r.c/\iB T ops J rest (bK fr d r.v) st
 |none=>False
def vX(T:Tab)(ops:Array Oper)(J:Frm->St->Prop)(rest:List Oper)(o:Oper)(fr:Frm)(st:St):Option Bool->Prop
 |some b=>(b=true->Jm T ops J rest o.dst fr st (aop T false o fr st))/\(b=false->iB T ops J rest (bK fr o.dst (.tu [])) st)
 |none=>False
theorem Xy{J:Frm->St->Prop}:iB T ops J [] fr st=J fr st:=rfl
theorem Xe{J:Frm->St->Prop}{o:Oper}{rest:List Oper}:iB T ops J (o::rest) fr st=vX T ops J rest o fr st (aY ops fr o.guard):=by unfold iB vX;cases aY ops fr o.guard<;>rfl
theorem XX{J:Frm->St->Prop}{o:Oper}{rest:List Oper}:vX T ops J rest o fr st (some true)=Jm T ops J rest o.dst fr st (aop T false o fr st):=by simp[vX]
theorem Tx{J:Frm->St->Prop}{o:Oper}{rest:List Oper}:vX T ops J rest o fr st (some false)=iB T ops J rest (bK fr o.dst (.tu [])) st:=by simp[vX]
theorem Wg{J:Frm->St->Prop}{d:Option Nat}{rest:List Oper}(r:bP):Jm T ops J rest d fr st (some r)=(r.c/\iB T ops J rest (bK fr d r.v) st):=rfl
theorem pZ(hT:aX P T){J:Frm->St->Prop}{w:World}{g:G}{R:Act->Prop}(hi:Inv w g st)(hR:∀ a fr,eD w g a fr->a.tmps.size=N->a.defers=[]->J fr st->R a):
 ∀(rest:List Oper) (fr:Frm) (a:Act),eD w g a fr->a.tmps.size=N->a.defers=[]->cW N ops rest=true->rest.all (fun o=>aR o.op)=true->iB T ops J rest fr st->wpStill P ops w R rest a
 |[],fr,a,hr,hs,hd,_,_,h=>hR a fr hr hs hd h
 |o::rest,fr,a,hr,hs,hd,hk,hq,h=>by
  simp only[cW,List.all_cons,aAW]at hk hq;obtain⟨⟨hdst,hg⟩,hk⟩:=hk;have ih:=pZ hT hi hR rest;have Q0:cW N ops rest=true:=hk;unfold iB at h;unfold wpStill;cases hw:aY ops fr o.guard with
  |none=>grind
  |some b=>
   rw[hw]at h;have hwt:Region.wanted o (yielded ops a.tmps)=b:=eV hr hw (by rw[hs];exact iO hg);rw[hwt];cases b with
   |false=>
    grind [eG,xR,cC,put_defers]
   |true=>
    simp only[aBq];have h1:=h.1 rfl
    split at h1
    .rename_i r he;obtain⟨x,w',g',k1,k2,k3,k4,k5⟩:=xE (N:=N) hT he h1.1 a w g hi hr hs
     grind [Oper.still,Oper.stillUpon_value,eG,cC,put_defers]
    grind
theorem NI(hT:aX P T)(M:List Nat)(n:Nat){Q:AQ}{id:Nat}{l:List Oper}(hm:P.follows .mixedOrders=true)(hB:Region.lexTailB .any l.toArray n=true)(hk:cW N l.toArray l=true)(hq:(l.take n).all (fun o=>aR o.op)=true)
 (h:∀ J:Frm->St->Prop,(∀ fr st,Q .normal fr st->J fr st)->iB T l.toArray (fun fr st=>cM P T N l.toArray M J (l.drop n) fr st) (l.take n) fr st):AWp P N (.region id l.toArray true) Q fr st:=by
 intro a w g hi hr hs hd;refine wp_region_still_tail n hm hB ?_;have c8:cW N l.toArray (l.take n)=true:=by unfold cW at hk ⊢;rw[aBG]at hk ⊢;exact fun o ho=>hk o (aCm ho)
 have o8:cW N l.toArray (l.drop n)=true:=by unfold cW at hk ⊢;rw[aBG]at hk ⊢;exact fun o ho=>hk o (aDH ho)
 have X6:Ext w g { w with drawn:=w.drawn+1 } g:=dS w g;refine pZ (w:={ w with drawn:=w.drawn+1 }) hT hi.drew (fun a' c7 O1 Y6 K7 hj=>?_) _ fr a (hr.mono X6) hs hd c8 hq (h (fun fr st=>Q .normal fr st) (fun _ _ h=>h));exact dR (fun _ _ _ p=>p.pre X6) _ _ _ (lW (M:=M) hT (J:=fun fr st=>Q .normal fr st) (Q:=Q) (fun _ _ h=>h) _ _ _ o8 hj a' _ g hi.drew O1 Y6 K7)
theorem NZ(hT:aX P T){Q:AQ}{id:Nat}{l:List Oper}(hm:P.follows .mixedOrders=true)(hB:Region.lexB .any l.toArray=true)(hk:cW N l.toArray l=true)(hq:l.all (fun o=>aR o.op)=true)
 (h:∀ J:Frm->St->Prop,(∀ fr st,Q .normal fr st->J fr st)->iB T l.toArray J l fr st):AWp P N (.region id l.toArray true) Q fr st:=by
 intro a w g hi hr hs hd;refine wp_region_still_lit hm hB ?_;have X6:Ext w g { w with drawn:=w.drawn+1 } g:=dS w g;refine pZ (w:={ w with drawn:=w.drawn+1 }) hT hi.drew (fun a' c7 O1 Y6 K7 hj=>?_) _ fr a (hr.mono X6) hs hd hk hq (h (fun fr st=>Q .normal fr st) (fun _ _ h=>h));exact⟨c7,st,g,hj,hi.drew,O1,Y6,K7,X6⟩
end
section
variable {P:Program} {T:Tab} {N:Nat} {Q:AQ} {fr:Frm} {st:St} {c:Code}
theorem qQ{w:World}{g:G}{a:Act}(h:eD w g a fr)(d:Nat){lv:LV}(hv:Rep w g lv (a.tmps.getD d undef)):eD w g a (upd fr d lv):=by
 intro i;unfold upd;by_cases hi:i=d
 .grind
 .rw[aAa hi];exact h i
theorem AD(d e s:Nat)(hd:fr d=.nil)(h:AWp P N c Q (upd fr d (.sl st.next 0 [])) (st.new (.own e s 0))):AWp P N c Q fr st:=by refine iY (fun a w g hi hr _=>?_) h;refine⟨g.addNil,jF hi _ (.inl ⟨e,s,rfl⟩),qQ (hr.mono (ext_nil w g)) d ?_,ext_nil w g⟩;have h1:=hr d;rw[hd]at h1;simp only[Rep]at h1 ⊢;exact⟨none,0,h1,aAm _,⟨aBD _,fun _=>rfl⟩,fun _=>by simp[G.addNil,hi.next],fun h=>absurd rfl h⟩
theorem Xk(d:Nat){t n e:Nat}{cs:List LV}(hd:fr d=.sl t n cs)(hl:st.H t=.own e 1 n)(hn:0<n)(ht:t≠0)(h:AWp P N c Q (upd fr d (.qu t 0 n cs)) (st.set t (.que e n))):AWp P N c Q fr st:=by
 refine iY (fun a w g hi hr _=>?_) h;have h1:=hr d;rw[hd]at h1;simp only[Rep]at h1;obtain⟨A,cap,hv,hnc,hcm,htok,hcells⟩:=h1;obtain⟨hA,rfl,dG⟩:=htok ht;obtain⟨o1,o2,o3,o4⟩:=hi.own t e 1 n hl;have r8:g.nl t=false:=by
  cases h0:g.nl t with
  |false=>rfl
  |true=>grind
 obtain⟨q1,q2⟩:=JN o2;refine⟨g,Cx hi hl r8,qQ hr d ?_,Ext.refl w g⟩
 grind [Rep]
theorem CW(d e s:Nat)(hd:fr d=.nil)(h:AWp P N c Q (upd fr d (.ms st.next 0 0)) (st.new (.box e s []))):AWp P N c Q fr st:=by refine iY (fun a w g hi hr _=>?_) h;refine⟨g.addNil,jF hi _ (.inr ⟨e,s,rfl⟩),qQ (hr.mono (ext_nil w g)) d ?_,ext_nil w g⟩;have h1:=hr d;rw[hd]at h1;simp only[Rep]at h1 ⊢;exact⟨none,0,h1,aAm _,aBD _,by simp[G.addNil,hi.next],sS,by simp[G.addNil,hi.next]⟩
theorem JA(k:Nat){l e s:Nat}{cs:List LV}(hl:st.H l=.box e s cs)(h:AWp P N c Q fr (st.set l (.box e s (cs.take k)))):AWp P N c Q fr st:=
 iY (fun a w g hi hr _=>⟨g,tN hi k hl,hr,Ext.refl w g⟩) h
def G.raise(g:G)(b k:Nat):G:={ g with φ:=fun x=>if x=b then some k else g.φ x }
theorem gZ(d:Nat){l n e s:Nat}{cs:List LV}(hd:fr d=.ms l 0 n)(hl:st.H l=.box e s cs)(hn:n*s<=cs.length)(a:Act)(w:World)(g:G)(hi:Inv w g st)(hr:eD w g a fr):
 ∃ g',Inv w g' (st.set l .dead)/\eD w g' a (upd fr d (.sl 0 n (cs.take (n*s))))/\Ext w g w g':=by
 have dG:l<st.next:=BI hi hl sS;obtain⟨q1,q2,q3⟩:=hi.box l e s cs hl;have h1:=hr d;rw[hd]at h1;simp only[Rep]at h1;obtain⟨A,cap,hv,hnc,hcm,hA,hA',_⟩:=h1;cases r8:g.nl l with
 |true=>
  obtain⟨N9,rfl⟩:=q2 r8;refine⟨g,hi.drop l dG,qQ hr d ?_,Ext.refl w g⟩
  grind [Rep]
 |false=>
  obtain⟨j8,k1,k2,k3,k4,k5⟩:=q3 r8;have he:Ext w g w (g.raise (g.β l) (n*s)):=by
   refine⟨rfl,rfl,rfl,aAm _,aAm _,fun _ _=>rfl,fun _ _=>rfl,fun _ _=>rfl,?_,?_⟩
   .grind [G.raise]
   .intro b k hb hk;by_cases Zo:b=g.β l
    .subst Zo;rw[k5]at hk;injection hk with hk;subst hk
     grind [G.raise]
    grind [G.raise]
  have K7:=hi.drop l dG;have Zo:∀ x,blk g (st.set l .dead) x->g.β x≠g.β l:=by
   intro x hx hh;have P3:x≠l/\blk g st x:=by
    unfold blk at hx ⊢;simp only[St.set]at hx;by_cases e0:x=l
    .grind
    .grind
   exact P3.1 (hi.inj x l P3.2 (by grind [blk]) hh)
  refine⟨g.raise (g.β l) (n*s),⟨K7.next,K7.pos,K7.fresh,K7.lt,K7.inj,?_,?_,fun x ag ks es hx=>(K7.mp x ag ks es hx).keep he (K7.map_lt hx) rfl (by simp only[G.raise];rw[aAa (Zo x (K7.map_blk hx))]),fun x e n hx=>(K7.qu x e n hx).keep he (K7.que_lt hx) rfl (by simp only[G.raise];rw[aAa (Zo x (K7.que_blk hx))]),K7.aside.keep he fun _ _=>rfl⟩,qQ (hr.mono he) d ?_,he⟩
  .intro x e' s' n' hx;obtain⟨z1,z2,z3,z4⟩:=K7.own x e' s' n' hx;refine⟨z1,z2,z3,fun hxn=>?_⟩;obtain⟨c',y1,y2,y3⟩:=z4 hxn;have hxne:=Zo x (by unfold blk;rw[hx];exact hxn);exact⟨c',y1,y2,by grind [G.raise]⟩
  .intro x e' s' cs' hx;obtain⟨z1,z2,z3⟩:=K7.box x e' s' cs' hx;refine⟨z1,z2,fun hxn=>?_⟩;obtain⟨c',y1,y2,y3,y4,y5⟩:=z3 hxn;have hxne:=Zo x (by unfold blk;rw[hx];exact hxn);exact⟨c',y1,y2,y3,aC.mono he _ _ y4,by grind [G.raise]⟩
  .obtain rfl:=(hA trivial).2 r8;simp only[Rep];refine⟨_,cap,hv,hnc,⟨hcm,sS⟩,fun h=>absurd rfl h,fun _=>⟨g.β l,0,rfl,jA _ (j8.take (n*s)) 0 ?_ (fun j hj=>?_) (fun j hj=>?_)⟩⟩
   .have:=dM (n*s) _ _ k4
    grind [aC.mono]
   .rw[cell_of_row w _ _ _ _ _ k1,aBy]
    grind
   .intro k hk
    grind [G.raise]
theorem tK(d:Nat){l n e s:Nat}{cs:List LV}(hd:fr d=.ms l 0 n)(hl:st.H l=.box e s cs)(hn:n*s<=cs.length)(h:AWp P N c Q (upd fr d (.sl 0 n (cs.take (n*s)))) (st.set l .dead)):AWp P N c Q fr st:=
 iY (fun a w g hi hr _=>gZ d hd hl hn a w g hi hr) h
end
section
variable {P:Program} {T:Tab}
def tJ(args:List LV):Frm:=fun i=>args.getD i .dead
def Aq(T:Tab)(fr:Frm)(st:St):ResultVar->Option bP
 |.tmp t=>some ⟨True,fr t,st⟩
 |.cell a t=>BH T t (fr a) st
def vQ(T:Tab)(fr:Frm)(st:St):List ResultVar->Option (Prop×List LV)
 |[]=>some (True,[])
 |r::rs=>match Aq T fr st r,vQ T fr st rs with
  |some x,some (c,l)=>some (x.c/\c,x.v::l)
  |_,_=>none
def one(l:List LV):LV:=match l with|[x]=>x|l=>.tu l
def yS(T:Tab)(Q:LV->St->Prop)(fr:Frm)(st:St)(rs:List ResultVar):Prop:=
 match vQ T fr st rs with
 |some (c,l)=>c/\Q (one l) st
 |none=>False
def Body(T:Tab)(rs:List ResultVar)(Q:LV->St->Prop):AQ:=fun e fr st=>match e with
 |.normal=>yS T Q fr st rs
 |.ret=>yS T Q fr st rs
 |_=>False
theorem Ou{rs:List ResultVar}{Q:LV->St->Prop}{fr:Frm}{st:St}:Body T rs Q .ret fr st=yS T Q fr st rs:=rfl
theorem Ik{rs:List ResultVar}{Q:LV->St->Prop}{fr:Frm}{st:St}:Body T rs Q .normal fr st=yS T Q fr st rs:=rfl
theorem yK(hT:aX P T){w:World}{g:G}{a:Act}{fr:Frm}{st:St}(hi:Inv w g st)(hr:eD w g a fr):∀(rs:List ResultVar) (c:Prop) (l:List LV),vQ T fr st rs=some (c,l)->c->
 ∃ vs:List Value,(rs.mapM fun|.tmp t=>pure (a.tmps.getD t undef)|.cell x t=>do loadVar t (<- asAddr (a.tmps.getD x undef)):Sem (List Value)).run P w=.ok vs w/\aC w g l vs
 |[],c,l,h,_=>by simp only[vQ,aAb,aBd]at h;obtain⟨_,rfl⟩:=h;exact⟨[],sS,by grind [aC]⟩
 |r::rs,c,l,h,hc=>by
  simp only[vQ]at h
  split at h
  .rename_i x c' l' hx hl;simp only[aAb,aBd]at h;obtain⟨rfl,rfl⟩:=h;obtain⟨vs,h1,h2⟩:=yK hT hi hr rs c' l' hl hc.2;cases r with
   |tmp t=>simp only[Aq,aAb]at hx;subst hx;refine⟨a.tmps.getD t undef::vs,?_,by simp only[aC];exact⟨_,_,rfl,hr t,h2⟩⟩;simp_all
   |cell q t=>
    simp only[Aq]at hx;obtain⟨_,u,k1,k2⟩:=Ab hT hi hx hc.1 (hr q);refine⟨u::vs,?_,by grind [aC]⟩;have hp:∃ ad,a.tmps.getD q undef=.pointer (some ad):=by
     unfold BH at hx;cases hpc:eR st (fr q) with
     |none=>grind
     |some cs=>
      obtain⟨b,o,vs,hv,_⟩:=La hi hpc (hr q)
      grind
    grind [Instr.loadAt,Instr.sureAddr,Sem.run_bind,Sem.run_pure,Result.andThen_ok,asAddr]
  grind
theorem qO(hT:aX P T){f:FuncId}{fn:Func}{c:Code}{args:List LV}{st:St}{Q:LV->St->Prop}{N:Nat}{rs:List ResultVar}(hf:P.funcs[f]?=some fn)(hb:fn.body=some c)
 (hname:(fn.name== "runtime.NumGoroutine")=false) (hN:fn.ntmps=N) (hrs:fn.results.toList=rs) (hlen:args.length<=N) (h:AWp P N c (AK P N (Body T rs Q) []) (tJ args) st):aB P f args st Q:=by
 refine⟨enters_of hf hname hb,fun w g vs hi hr=>?_⟩;subst hN hrs;have hl:=aK _ _ hr;refine calls_of_wp hf hb ?_;have O4:(vs.toArray++Array.replicate (fn.ntmps-vs.toArray.size) undef).size=fn.ntmps:=by simp;omega
 refine Code.wp_mono (fun e a' w' p=>?_) (h { tmps:=vs.toArray++Array.replicate (fn.ntmps-vs.toArray.size) undef,defers:=[] } w g hi ?_ O4 rfl)
 .obtain⟨c7,st',g',hq,I4,O1,Y6,K7,he⟩:=p;rw[tL]at hq;have key:yS T Q c7 st' fn.results.toList->a'.defers=[]/\∃ v,(results fn a'.tmps).run P w'=.ok v w'/\(∃ v_1 r st' g',Ending.returned v=.returned v_1/\Q r st'/\Rep w' g' r v_1/\Inv w' g' st'/\Ext w g w' g'):=by
   intro hk;unfold yS at hk;cases hres:vQ T c7 st' fn.results.toList with
   |none=>grind
   |some p=>
    obtain⟨c,l⟩:=p;rw[hres]at hk;obtain⟨us,h1,h2⟩:=yK hT I4 O1 _ c l hres hk.1;have o6:(results fn a'.tmps).run P w'=.ok (if h:us.toArray.size=1 then us.toArray[0]else .tuple us.toArray) w':=by unfold results;rw[Sem.run_bind,aDT,Sem.run_map];exact congrArg (fun r:Result (List Value)=>(r.andThen fun a w'=>Result.ok a.toArray w').andThen fun a w'=>Sem.run P (pure (if h:a.size=1 then a[0]else Value.tuple a)) w') h1
    refine⟨K7,_,o6,_,_,st',g',rfl,hk.2,?_,I4,he⟩;unfold one
    split
    .grind [aC]
    .rename_i Zo;have:us.length≠1:=by
      intro h1;rw[<- aK _ _ h2]at h1
      match l,h1 with
      |[x],_=>grind
     grind [Rep]
  cases e with
  |normal=>exact key hq
  |ret=>exact key hq
  |_=>exact hq.elim
 .intro i;unfold tJ;by_cases hi2:i<args.length
  .have h1:args.getD i .dead=args[i]:=by simp[List.getD,hi2]
   obtain⟨v,hv,hrv⟩:=vS i args vs args[i] hr (aAh hi2);rw[h1];have:(vs.toArray++Array.replicate (fn.ntmps-vs.toArray.size) undef).getD i undef=v:=by rw[aCA,aDP (by grind)];simp[hv]
   grind
  grind [Rep]
theorem Io{f:FuncId}{args:List LV}{st:St}{Q:LV->St->Prop}(h:aB P f args st fun r st'=>Q (norm r) st'):aB P f args st Q:=by refine⟨h.1,fun w g vs hi hr=>(h.2 w g vs hi hr).mono ?_⟩;rintro e w' ⟨v,r,st',g',rfl,hq,G9,I4,he⟩;exact⟨v,norm r,st',g',rfl,hq,Au G9,I4,he⟩
theorem jK(e s:Nat){f:FuncId}{args:List LV}{st:St}{Q:LV->St->Prop}(h:aB P f args st fun r st'=>(r=.nil/\Q (.ms st'.next 0 0) (st'.new (.box e s [])))\/Q r st'):aB P f args st Q:=by
 refine⟨h.1,fun w g vs hi hr=>(h.2 w g vs hi hr).mono ?_⟩;rintro x w' ⟨v,r,st',g',rfl,hq,G9,I4,he⟩;rcases hq with⟨rfl,hq⟩|hq
 .refine⟨v,_,_,g'.addNil,rfl,hq,?_,jF I4 _ (.inr ⟨e,s,rfl⟩),he.trans (ext_nil w' g')⟩;simp only[Rep]at G9;subst G9;simp only[Rep,G.addNil,I4.next]
  grind
 grind
theorem cH{f:FuncId}{args:List LV}{st:St}{Q:LV->St->Prop}(h:aB P f args st fun r st'=>∃ l n e s cs,r=.ms l 0 n/\st'.H l=.box e s cs/\n*s<=cs.length/\Q (.sl 0 n (cs.take (n*s))) (st'.set l .dead)):aB P f args st Q:=by
 refine⟨h.1,fun w g vs hi hr=>(h.2 w g vs hi hr).mono ?_⟩;rintro x w' ⟨v,r,st',g',rfl,⟨l,n,e,s,cs,rfl,hl,hn,hq⟩,G9,I4,he⟩
 obtain⟨g2,h1,h2,h3⟩:=gZ (fr:=upd (fun _=>.dead) 0 (.ms l 0 n)) 0 rfl hl hn { tmps:=#[v],defers:=[] } w' g' I4 (by
  intro j;unfold upd;by_cases hj:j=0
  .simp_all
  grind [Rep])
 exact⟨v,_,_,g2,rfl,hq,h2 0,h1,he.trans h3⟩
theorem zB{f:FuncId}{args:List LV}{vs:List Value}{w:World}{R:Value->Prop}(hG:iD w ⟨1,fun _=>none,fun _=>0,fun _=>0,fun _=>false⟩)(hr:aC w ⟨1,fun _=>none,fun _=>0,fun _=>0,fun _=>false⟩ args vs)
 (h:aB P f args ⟨1,fun _=>.dead⟩ fun r _=>∃ v,r=.atom v/\R v):Calls P f vs.toArray w fun e w'=>(∃ v,e=.returned v/\R v)/\Below w.heap.size w w':=by
 have hi:Inv w ⟨1,fun _=>none,fun _=>0,fun _=>0,fun _=>false⟩ ⟨1,fun _=>.dead⟩:=by refine⟨rfl,by decide,fun _ _=>rfl,fun l hl=>hl.elim,fun l l' hl=>hl.elim,fun l e s n hl=>(by grind),fun l e s cs hl=>(by grind),fun l ag ks es hl=>(by grind),fun l e n hl=>(by grind),tE hG fun _=>rfl⟩
 refine(h.2 w _ vs hi hr).mono ?_;rintro e w' ⟨v,r,st',g',rfl,⟨v',rfl,hv'⟩,G9,_,he⟩;simp only[Rep]at G9;subst G9;exact⟨⟨_,rfl,hv'⟩,⟨he.os,he.tape,he.output,he.size,fun k hk=>(he.still k hk rfl).2⟩⟩
end
end Aw
end Go.Proofs.YtbgngpdonpeboaaGreatDoor
