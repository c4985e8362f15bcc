/- Running a region by evaluation; a function's contract out of its body. No program is named here. -/
import Derived.Test.YtempldclppogmaaGreatDoorAwSound3
import Derived.StillTail
set_option linter.unusedVariables false
set_option linter.unusedSimpArgs false
namespace Go.Proofs.YtempldclppogmaaGreatDoor.Aw
open Go Go.RowKit
def inM(M:List Nat):Option Nat→Bool
 |some d=>M.contains d
 |none=>false
def aBa:BinOp→Option Bool
 |.eql=>some false
 |.neq=>some true
 |_=>none
def oS:LV→Option Nat
 |.sl _ n _=>some n
 |.emp=>some 0
 |.ms _ _ n=>some n
 |_=>none
def oJ(T:Tab)(o:Oper)(fr:Frm):Option (Bool×Nat):=
 match o.op with
 |.binOp op t x (.const (.slice none 0 0)) _=>match cA T t,aBa op,oS (aJ fr x) with
  |some _,some ng,some n=>some (ng,n)
  |_,_,_=>none
 |_=>none
theorem aBy{w:World}{g:G}{lv:LV}{v:Value}{n:Nat}(h:oS lv=some n)(hr:Rep w g lv v):∃ A c,v=.slice A n c∧(A=none→n=0):=by
 cases lv with
 |sl t n' cs=>
  simp only[oS,Option.some.injEq]at h
  subst h
  simp only[Rep]at hr
  obtain⟨A,cap,hv,hnc,hm,_⟩:=hr
  exact⟨A,cap,hv,fun hA=>by have:=hm.2 hA;omega⟩
 |emp=>
  simp only[oS,Option.some.injEq]at h
  subst h
  simp only[Rep]at hr
  obtain⟨A,hv⟩:=hr
  exact⟨A,0,hv,fun _=>rfl⟩
 |ms l o n'=>
  simp only[oS,Option.some.injEq]at h
  subst h
  simp only[Rep]at hr
  obtain⟨A,cap,hv,hnc,hm,_,hA',_⟩:=hr
  refine⟨A,cap,hv,fun hA=>?_⟩
  rcases Nat.eq_zero_or_pos n' with h0|h0
  ·exact h0
  ·have:=hA' (by omega);rw[hA]at this;cases this
 |_=>simp[oS]at h
def cB(P:Program)(T:Tab)(N:Nat)(ops:Array Oper)(M:List Nat)(J:Frm→St→Prop):List Oper→Frm→St→Prop
 |[],fr,st=>J fr st
 |o::rest,fr,st=>match aY ops fr o.guard with
  |some b=>(b=true→(match o.op with
    |.call { callee:=.value x,args:=args,argTypes:=_ }=>match dH (aJ fr x) with
     |some (f,caps)=>∃ R,aF P f ((args.toList.map (aJ fr))++caps) st R∧∀ r st',R r st'→cB P T N ops M J rest (bI fr o.dst r) st'
     |none=>False
    |_=>match oJ T o fr with
     |some (ng,n)=>∀ b:Bool,(b=true→n=0)→cB P T N ops M J rest (bI fr o.dst (.atom (.bool (b != ng)))) st
     |none=>match aop T (inM M o.dst) o fr st with
      |some r=>r.c∧cB P T N ops M J rest (bI fr o.dst r.v) r.s
      |none=>False))∧(b=false→cB P T N ops M J rest (bI fr o.dst (.tu [])) st)
  |none=>False
def aAE(P:Program)(T:Tab)(N:Nat)(ops:Array Oper)(M:List Nat)(J:Frm→St→Prop)(rest:List Oper)(d:Option Nat)(fr:Frm)(st:St)(f:FuncId)(args:List LV):Prop:=
 ∃ R,aF P f args st R∧∀ r st',R r st'→cB P T N ops M J rest (bI fr d r) st'
def aFT(P:Program)(T:Tab)(N:Nat)(ops:Array Oper)(M:List Nat)(J:Frm→St→Prop)(rest:List Oper)(d:Option Nat)(fr:Frm)(st:St)(args:List LV):Option (FuncId×List LV)→Prop
 |some (f,caps)=>aAE P T N ops M J rest d fr st f (args++caps)
 |none=>False
def aFE(P:Program)(T:Tab)(N:Nat)(ops:Array Oper)(M:List Nat)(J:Frm→St→Prop)(rest:List Oper)(d:Option Nat)(fr:Frm):Option bJ→Prop
 |some r=>r.c∧cB P T N ops M J rest (bI fr d r.v) r.s
 |none=>False
def aAu(P:Program)(T:Tab)(N:Nat)(ops:Array Oper)(M:List Nat)(J:Frm→St→Prop)(rest:List Oper)(o:Oper)(fr:Frm)(st:St):Option (Bool×Nat)→Prop
 |some (ng,n)=>∀ b:Bool,(b=true→n=0)→cB P T N ops M J rest (bI fr o.dst (.atom (.bool (b != ng)))) st
 |none=>aFE P T N ops M J rest o.dst fr (aop T (inM M o.dst) o fr st)
def pL(P:Program)(T:Tab)(N:Nat)(ops:Array Oper)(M:List Nat)(J:Frm→St→Prop)(rest:List Oper)(o:Oper)(fr:Frm)(st:St):Prop:=
 match o.op with
 |.call { callee:=.value x,args:=args,argTypes:=_ }=>aFT P T N ops M J rest o.dst fr st (args.toList.map (aJ fr)) (dH (aJ fr x))
 |_=>aAu P T N ops M J rest o fr st (oJ T o fr)
def wU(P:Program)(T:Tab)(N:Nat)(ops:Array Oper)(M:List Nat)(J:Frm→St→Prop)(rest:List Oper)(o:Oper)(fr:Frm)(st:St):Option Bool→Prop
 |some b=>(b=true→pL P T N ops M J rest o fr st)∧(b=false→cB P T N ops M J rest (bI fr o.dst (.tu [])) st)
 |none=>False
section
variable {P:Program} {T:Tab} {N:Nat} {ops:Array Oper} {M:List Nat} {J:Frm→St→Prop} {rest:List Oper} {o:Oper} {fr:Frm} {st:St} {d:Option Nat}
theorem aOB:cB P T N ops M J [] fr st=J fr st:=rfl
theorem aFd:cB P T N ops M J (o::rest) fr st=wU P T N ops M J rest o fr st (aY ops fr o.guard):=by
 unfold cB wU pL
 cases aY ops fr o.guard with
 |none=>rfl
 |some b=>
  simp only
  congr 1
theorem aJr:wU P T N ops M J rest o fr st (some true)=pL P T N ops M J rest o fr st:=by simp[wU]
theorem aFQ:wU P T N ops M J rest o fr st (some false)=cB P T N ops M J rest (bI fr o.dst (.tu [])) st:=by simp[wU]
theorem aMp:aAu P T N ops M J rest o fr st none=aFE P T N ops M J rest o.dst fr (aop T (inM M o.dst) o fr st):=rfl
theorem aJz(ng:Bool)(n:Nat):aAu P T N ops M J rest o fr st (some (ng,n))=∀ b:Bool,(b=true→n=0)→cB P T N ops M J rest (bI fr o.dst (.atom (.bool (b != ng)))) st:=rfl
theorem aNV(r:bJ):aFE P T N ops M J rest d fr (some r)=(r.c∧cB P T N ops M J rest (bI fr d r.v) r.s):=rfl
theorem aNq(f:FuncId)(caps args:List LV):aFT P T N ops M J rest d fr st args (some (f,caps))=aAE P T N ops M J rest d fr st f (args++caps):=rfl
theorem aAf{w:World}{g:G}:∀(xs:List LV) (vs:List Value),aH w g xs vs→aH w g (xs.map norm) vs
 |[],vs,h=>h
 |x::xs,vs,h=>by
  simp only[aH,List.map_cons]at h ⊢
  obtain⟨v,vs',rfl,h1,h2⟩:=h
  exact⟨v,vs',rfl,pA h1,aAf xs vs' h2⟩
theorem aF.of_norm{f:FuncId}{args:List LV}{R:LV→St→Prop}(h:aF P f (args.map norm) st R):aF P f args st R:=
 ⟨h.1,fun w g vs hi hr=>h.2 w g vs hi (aAf _ _ hr)⟩
theorem aL(h:cB P T N ops M J rest fr st):cB P T N ops M J rest fr st:=h
theorem qF{f:FuncId}{args:List LV}{R:LV→St→Prop}(h:aF P f args st R)(hk:∀ r st',R r st'→cB P T N ops M J rest (bI fr d r) st'):aAE P T N ops M J rest d fr st f args:=⟨R,h,hk⟩
theorem aEd{w:World}{t:TypeId}{e:TypeId}(ht:P.underlying t=some (.slice e))(A:Option Addr)(n c:Nat)(x y:Operand):
 (do eqGuard .eql t x y (.slice A n c) (.slice none 0 0);binOp .eql t (.slice A n c) (.slice none 0 0):Sem Value).run P w=.ok (.bool A.isNone) w∧
 (do eqGuard .neq t x y (.slice A n c) (.slice none 0 0);binOp .neq t (.slice A n c) (.slice none 0 0):Sem Value).run P w=.ok (.bool (!A.isNone)) w:=by
 have hd:∀ d,(Op.equalIn (d+1) t (.slice A n c) (.slice none 0 0)).run P w=.ok A.isNone w:=by
  intro d
  cases A<;>simp[Op.equalIn,run_underlying ht]
 have he:(Op.equal t (.slice A n c) (.slice none 0 0)).run P w=.ok A.isNone w:=hd 9999
 constructor
 ·unfold eqGuard;simp[binOp,he]
 ·unfold eqGuard;simp[binOp,he]
theorem aCA(hT:aZ P T){Q:AQ}{ng:Bool}{n:Nat}(hn:oJ T o fr=some (ng,n))
 (hw:aY ops fr o.guard=some true) (hk:fL N ops o.guard=true) (hd:jO N o.dst=true)
 (h:∀ b:Bool,(b=true→n=0)→xQ P N ops rest Q (bI fr o.dst (.atom (.bool (b != ng)))) st):xQ P N ops (o::rest) Q fr st:=by
 intro a w g hi hr hs hdf
 have key:∃ b:Bool,(b=true→n=0)∧(execOp a.eval o).run P w=.ok (.value (.bool (b != ng))) w:=by
  unfold oJ at hn
  split at hn
  ·rename_i op t x t' hop
   split at hn
   ·rename_i e ng' n' hse hfl hln
    simp only[Option.some.injEq,Prod.mk.injEq]at hn
    obtain⟨rfl,rfl⟩:=hn
    obtain⟨A,c,hv,hA⟩:=aBy hln (aI hr x)
    have hrun:=aEd (P:=P) (w:=w) (bT hT hse) A n' c x (.const (.slice none 0 0))
    refine⟨A.isNone,fun hb=>hA (by simpa using hb),?_⟩
    cases op<;>simp only[aBa,Option.some.injEq,reduceCtorEq]at hfl
    ·subst hfl
     have hc:a.eval (.const (.slice none 0 0))=.slice none 0 0:=rfl
     simp only[execOp,hop,hv,hc]
     rw[Sem.run_bind,hrun.1]
     simp
    ·subst hfl
     have hc:a.eval (.const (.slice none 0 0))=.slice none 0 0:=rfl
     simp only[execOp,hop,hv,hc]
     rw[Sem.run_bind,hrun.2]
     simp
   ·simp at hn
  ·simp at hn
 obtain⟨b,hb,hrun⟩:=key
 have hwt:Region.wanted o (yielded ops a.tmps)=true:=dB hr hw (by rw[hs];exact fB hk)
 simp only[wpList,hwt,if_true]
 left
 unfold Oper.wp
 rw[hrun,Oper.upon_value]
 exact h b hb _ w g hi (cP hr (by rw[hs];exact hd) (by simp only[Rep])) (by rw[aU];exact hs) (by rw[put_defers];exact hdf)
theorem aGv{f:FuncId}{args:List LV}{R:LV→St→Prop}(h:aF P f (args.map norm) st R)(hk:∀ r st',R r st'→cB P T N ops M J rest (bI fr d r) st'):aAE P T N ops M J rest d fr st f args:=⟨R,h.of_norm,hk⟩
def cE(N:Nat)(ops:Array Oper)(l:List Oper):Bool:=l.all fun o=>jO N o.dst&&fL N ops o.guard
theorem iS(hT:aZ P T){Q:AQ}(hJ:∀ fr st,J fr st→Q .normal fr st):∀(rest:List Oper) (fr:Frm) (st:St),cE N ops rest=true→cB P T N ops M J rest fr st→xQ P N ops rest Q fr st
 |[],fr,st,_,h=>aJF (hJ _ _ h)
 |o::rest,fr,st,hk,h=>by
  simp only[cE,List.all_cons,Bool.and_eq_true]at hk
  obtain⟨⟨hd,hg⟩,hk⟩:=hk
  have ih:=iS hT hJ rest
  have hk':cE N ops rest=true:=hk
  unfold cB at h
  cases hw:aY ops fr o.guard with
  |none=>rw[hw]at h;exact h.elim
  |some b=>
   rw[hw]at h
   cases b with
   |false=>exact aHL hw hg hd (ih _ _ hk' (h.2 rfl))
   |true=>
    have h1:=h.1 rfl
    split at h1
    ·rename_i x args tys hop
     split at h1
     ·rename_i f caps hf
      obtain⟨R,hR,hn⟩:=h1
      exact aGP hop hw hg hd hf hR (fun r st' hr=>ih _ _ hk' (hn r st' hr))
     ·exact h1.elim
    ·split at h1
     ·rename_i ng n hnc
      exact aCA hT hnc hw hg hd (fun b hb=>ih _ _ hk' (h1 b hb))
     ·split at h1
      ·rename_i r hr
       exact aLe hw hg hd (rO hT hr h1.1) (ih _ _ hk' h1.2)
      ·exact h1.elim
theorem iZ(hT:aZ P T)(M:List Nat){Q:AQ}{id:Nat}(hk:cE N ops ops.toList=true)
 (h:∀ J:Frm→St→Prop,(∀ fr st,Q .normal fr st→J fr st)→cB P T N ops M J ops.toList fr st):AWp P N (.region id ops false) Q fr st:=
 aEz (iS (M:=M) hT (J:=fun fr st=>Q .normal fr st) (fun _ _ h=>h) _ _ _ hk (h _ (fun _ _ h=>h)))
end
section
variable {P:Program} {T:Tab} {N:Nat} {ops:Array Oper} {M:List Nat} {fr:Frm} {st:St}
def eO(T:Tab)(ops:Array Oper)(J:Frm→St→Prop):List Oper→Frm→St→Prop
 |[],fr,st=>J fr st
 |o::rest,fr,st=>match aY ops fr o.guard with
  |some b=>(b=true→match aop T false o fr st with
    |some r=>r.c∧eO T ops J rest (bI fr o.dst r.v) st
    |none=>False)∧(b=false→eO T ops J rest (bI fr o.dst (.tu [])) st)
  |none=>False
def aEU(T:Tab)(ops:Array Oper)(J:Frm→St→Prop)(rest:List Oper)(d:Option Nat)(fr:Frm)(st:St):Option bJ→Prop
 |some r=>r.c∧eO T ops J rest (bI fr d r.v) st
 |none=>False
def rJ(T:Tab)(ops:Array Oper)(J:Frm→St→Prop)(rest:List Oper)(o:Oper)(fr:Frm)(st:St):Option Bool→Prop
 |some b=>(b=true→aEU T ops J rest o.dst fr st (aop T false o fr st))∧(b=false→eO T ops J rest (bI fr o.dst (.tu [])) st)
 |none=>False
theorem aOI{J:Frm→St→Prop}:eO T ops J [] fr st=J fr st:=rfl
theorem aNI{J:Frm→St→Prop}{o:Oper}{rest:List Oper}:eO T ops J (o::rest) fr st=rJ T ops J rest o fr st (aY ops fr o.guard):=by
 unfold eO rJ
 cases aY ops fr o.guard<;>rfl
theorem aNQ{J:Frm→St→Prop}{o:Oper}{rest:List Oper}:rJ T ops J rest o fr st (some true)=aEU T ops J rest o.dst fr st (aop T false o fr st):=by simp[rJ]
theorem aKD{J:Frm→St→Prop}{o:Oper}{rest:List Oper}:rJ T ops J rest o fr st (some false)=eO T ops J rest (bI fr o.dst (.tu [])) st:=by simp[rJ]
theorem aOe{J:Frm→St→Prop}{d:Option Nat}{rest:List Oper}(r:bJ):aEU T ops J rest d fr st (some r)=(r.c∧eO T ops J rest (bI fr d r.v) st):=rfl
theorem mK(hT:aZ P T){J:Frm→St→Prop}{w:World}{g:G}{R:Act→Prop}(hi:Inv w g st)(hR:∀ a fr,bS w g a fr→a.tmps.size=N→a.defers=[]→J fr st→R a):
 ∀(rest:List Oper) (fr:Frm) (a:Act),bS w g a fr→a.tmps.size=N→a.defers=[]→cE N ops rest=true→rest.all (fun o=>aT o.op)=true→eO T ops J rest fr st→wpStill P ops w R rest a
 |[],fr,a,hr,hs,hd,_,_,h=>hR a fr hr hs hd h
 |o::rest,fr,a,hr,hs,hd,hk,hq,h=>by
  simp only[cE,List.all_cons,Bool.and_eq_true]at hk hq
  obtain⟨⟨hdst,hg⟩,hk⟩:=hk
  have ih:=mK hT hi hR rest
  have hk':cE N ops rest=true:=hk
  unfold eO at h
  unfold wpStill
  cases hw:aY ops fr o.guard with
  |none=>rw[hw]at h;exact h.elim
  |some b=>
   rw[hw]at h
   have hwt:Region.wanted o (yielded ops a.tmps)=b:=dB hr hw (by rw[hs];exact fB hg)
   rw[hwt]
   cases b with
   |false=>
    simp only[Bool.false_eq_true,if_false]
    exact ih _ _ (cP hr (by rw[hs];exact hdst) rM) (by rw[aU];exact hs) (by rw[put_defers];exact hd) hk' hq.2 (h.2 rfl)
   |true=>
    simp only[if_true]
    have h1:=h.1 rfl
    split at h1
    ·rename_i r he
     obtain⟨x,w',g',k1,k2,k3,k4,k5⟩:=rO (N:=N) hT he h1.1 a w g hi hr hs
     obtain⟨rfl,rfl,hst,v,rfl⟩:=k5 hq.1
     unfold Oper.still
     rw[k1,Oper.stillUpon_value]
     rcases k2 with⟨v',hv,hrep⟩|⟨hv,_⟩
     ·injection hv with hv;subst hv
      exact ih _ _ (cP hr (by rw[hs];exact hdst) hrep) (by rw[aU];exact hs) (by rw[put_defers];exact hd) hk' hq.2 h1.2
     ·cases hv
    ·exact h1.elim
theorem aGR(hT:aZ P T)(M:List Nat)(n:Nat){Q:AQ}{id:Nat}{l:List Oper}(hm:P.follows .mixedOrders=true)(hB:Region.lexTailB .any l.toArray n=true)(hk:cE N l.toArray l=true)(hq:(l.take n).all (fun o=>aT o.op)=true)
 (h:∀ J:Frm→St→Prop,(∀ fr st,Q .normal fr st→J fr st)→eO T l.toArray (fun fr st=>cB P T N l.toArray M J (l.drop n) fr st) (l.take n) fr st):AWp P N (.region id l.toArray true) Q fr st:=by
 intro a w g hi hr hs hd
 refine wp_region_still_tail n hm hB ?_
 have hk1:cE N l.toArray (l.take n)=true:=by
  unfold cE at hk ⊢
  rw[List.all_eq_true]at hk ⊢
  exact fun o ho=>hk o (List.mem_of_mem_take ho)
 have hk2:cE N l.toArray (l.drop n)=true:=by
  unfold cE at hk ⊢
  rw[List.all_eq_true]at hk ⊢
  exact fun o ho=>hk o (List.mem_of_mem_drop ho)
 have hdr:Ext w g { w with drawn:=w.drawn+1 } g:=cG w g
 refine mK (w:={ w with drawn:=w.drawn+1 }) hT hi.drew (fun a' fr' hr' hs' hd' hj=>?_) _ fr a (hr.mono hdr) hs hd hk1 hq (h (fun fr st=>Q .normal fr st) (fun _ _ h=>h))
 exact cM (fun _ _ _ p=>p.pre hdr) _ _ _ (iS (M:=M) hT (J:=fun fr st=>Q .normal fr st) (Q:=Q) (fun _ _ h=>h) _ _ _ hk2 hj a' _ g hi.drew hr' hs' hd')
theorem aHB(hT:aZ P T){Q:AQ}{id:Nat}{l:List Oper}(hm:P.follows .mixedOrders=true)(hB:Region.lexB .any l.toArray=true)(hk:cE N l.toArray l=true)(hq:l.all (fun o=>aT o.op)=true)
 (h:∀ J:Frm→St→Prop,(∀ fr st,Q .normal fr st→J fr st)→eO T l.toArray J l fr st):AWp P N (.region id l.toArray true) Q fr st:=by
 intro a w g hi hr hs hd
 refine wp_region_still_lit hm hB ?_
 have hdr:Ext w g { w with drawn:=w.drawn+1 } g:=cG w g
 refine mK (w:={ w with drawn:=w.drawn+1 }) hT hi.drew (fun a' fr' hr' hs' hd' hj=>?_) _ fr a (hr.mono hdr) hs hd hk hq (h (fun fr st=>Q .normal fr st) (fun _ _ h=>h))
 exact⟨fr',st,g,hj,hi.drew,hr',hs',hd',hdr⟩
end
section
variable {P:Program} {T:Tab} {N:Nat} {Q:AQ} {fr:Frm} {st:St} {c:Code}
theorem mV{w:World}{g:G}{a:Act}(h:bS w g a fr)(d:Nat){lv:LV}(hv:Rep w g lv (a.tmps.getD d undef)):bS w g a (upd fr d lv):=by
 intro i
 unfold upd
 by_cases hi:i=d
 ·subst hi;rw[if_pos rfl];exact hv
 ·rw[if_neg hi];exact h i
theorem qW(d e s:Nat)(hd:fr d=.nil)(h:AWp P N c Q (upd fr d (.sl st.next 0 [])) (st.new (.own e s 0))):AWp P N c Q fr st:=by
 refine fH (fun a w g hi hr _=>?_) h
 refine⟨g.addNil,fN hi _ (.inl ⟨e,s,rfl⟩),mV (hr.mono (ext_nil w g)) d ?_,ext_nil w g⟩
 have h1:=hr d
 rw[hd]at h1
 simp only[Rep]at h1 ⊢
 exact⟨none,0,h1,Nat.le_refl _,⟨Nat.zero_le _,fun _=>rfl⟩,fun _=>by simp[G.addNil,hi.next],fun h=>absurd rfl h⟩
theorem aNc(d:Nat){t n e:Nat}{cs:List LV}(hd:fr d=.sl t n cs)(hl:st.H t=.own e 1 n)(hn:0<n)(ht:t≠0)(h:AWp P N c Q (upd fr d (.qu t 0 n cs)) (st.set t (.que e n))):AWp P N c Q fr st:=by
 refine fH (fun a w g hi hr _=>?_) h
 have h1:=hr d
 rw[hd]at h1
 simp only[Rep]at h1
 obtain⟨A,cap,hv,hnc,hcm,htok,hcells⟩:=h1
 obtain⟨hA,rfl,hlt⟩:=htok ht
 obtain⟨o1,o2,o3,o4⟩:=hi.own t e 1 n hl
 have hnl:g.nl t=false:=by
  cases h0:g.nl t with
  |false=>rfl
  |true=>have:=o3 h0;omega
 obtain⟨q1,q2⟩:=aET o2
 refine⟨g,zK hi hl hnl,mV hr d ?_,Ext.refl w g⟩
 simp only[Rep]
 exact⟨A,_,hv,hnc,o2,hlt,by rw[q2,Nat.zero_add],fun _=>by rw[q1];exact hA hnl,hcells⟩
theorem pT(d e s:Nat)(hd:fr d=.nil)(h:AWp P N c Q (upd fr d (.ms st.next 0 0)) (st.new (.box e s []))):AWp P N c Q fr st:=by
 refine fH (fun a w g hi hr _=>?_) h
 refine⟨g.addNil,fN hi _ (.inr ⟨e,s,rfl⟩),mV (hr.mono (ext_nil w g)) d ?_,ext_nil w g⟩
 have h1:=hr d
 rw[hd]at h1
 simp only[Rep]at h1 ⊢
 exact⟨none,0,h1,Nat.le_refl _,Nat.zero_le _,by simp[G.addNil,hi.next],by simp,by simp[G.addNil,hi.next]⟩
theorem aDY(k:Nat){l e s:Nat}{cs:List LV}(hl:st.H l=.box e s cs)(h:AWp P N c Q fr (st.set l (.box e s (cs.take k)))):AWp P N c Q fr st:=
 fH (fun a w g hi hr _=>⟨g,oV hi k hl,hr,Ext.refl w g⟩) h
def G.raise(g:G)(b k:Nat):G:={ g with φ:=fun x=>if x=b then some k else g.φ x }
theorem eU(d:Nat){l n e s:Nat}{cs:List LV}(hd:fr d=.ms l 0 n)(hl:st.H l=.box e s cs)(hn:n*s≤cs.length)(a:Act)(w:World)(g:G)(hi:Inv w g st)(hr:bS w g a fr):
 ∃ g',Inv w g' (st.set l .dead)∧bS w g' a (upd fr d (.sl 0 n (cs.take (n*s))))∧Ext w g w g':=by
 have hlt:l<st.next:=wX hi hl (by simp)
 obtain⟨q1,q2,q3⟩:=hi.box l e s cs hl
 have h1:=hr d
 rw[hd]at h1
 simp only[Rep]at h1
 obtain⟨A,cap,hv,hnc,hcm,hA,hA',_⟩:=h1
 cases hnl:g.nl l with
 |true=>
  obtain⟨hk0,rfl⟩:=q2 hnl
  refine⟨g,hi.drop l hlt,mV hr d ?_,Ext.refl w g⟩
  simp only[Rep]
  exact⟨A,cap,hv,hnc,⟨hcm,fun _=>(hA trivial).1.trans hk0⟩,fun h=>absurd rfl h,fun h=>absurd (by simp) h⟩
 |false=>
  obtain⟨cur,k1,k2,k3,k4,k5⟩:=q3 hnl
  have he:Ext w g w (g.raise (g.β l) (n*s)):=by
   refine⟨rfl,rfl,rfl,Nat.le_refl _,Nat.le_refl _,fun _ _=>rfl,fun _ _=>rfl,fun _ _=>rfl,?_,?_⟩
   ·intro b hb hn
    have hne:b≠g.β l:=by rintro rfl;rw[k5]at hn;cases hn
    exact⟨by simp[G.raise,hne,hn],rfl⟩
   ·intro b k hb hk
    by_cases hne:b=g.β l
    ·subst hne
     rw[k5]at hk;injection hk with hk;subst hk
     exact⟨n*s,by simp[G.raise],Nat.zero_le _,fun o ho=>absurd ho (Nat.not_lt_zero _)⟩
    ·exact⟨k,by simp[G.raise,hne,hk],Nat.le_refl _,fun _ _=>rfl⟩
  have hd':=hi.drop l hlt
  have hne:∀ x,blk g (st.set l .dead) x→g.β x≠g.β l:=by
   intro x hx hh
   have hx':x≠l∧blk g st x:=by
    unfold blk at hx ⊢
    simp only[St.set]at hx
    by_cases e0:x=l
    ·simp[e0]at hx
    ·rw[if_neg e0]at hx;exact⟨e0,hx⟩
   exact hx'.1 (hi.inj x l hx'.2 (by unfold blk;rw[hl];exact hnl) hh)
  refine⟨g.raise (g.β l) (n*s),⟨hd'.next,hd'.pos,hd'.fresh,hd'.lt,hd'.inj,?_,?_,fun x ag ks es hx=>(hd'.mp x ag ks es hx).keep he (hd'.map_lt hx) rfl (by simp only[G.raise];rw[if_neg (hne x (hd'.map_blk hx))]),fun x e n hx=>(hd'.qu x e n hx).keep he (hd'.que_lt hx) rfl (by simp only[G.raise];rw[if_neg (hne x (hd'.que_blk hx))]),hd'.aside.keep he fun _ _=>rfl⟩,mV (hr.mono he) d ?_,he⟩
  ·intro x e' s' n' hx
   obtain⟨z1,z2,z3,z4⟩:=hd'.own x e' s' n' hx
   refine⟨z1,z2,z3,fun hxn=>?_⟩
   obtain⟨c',y1,y2,y3⟩:=z4 hxn
   have hxne:=hne x (by unfold blk;rw[hx];exact hxn)
   exact⟨c',y1,y2,by simp only[G.raise];rw[if_neg hxne];exact y3⟩
  ·intro x e' s' cs' hx
   obtain⟨z1,z2,z3⟩:=hd'.box x e' s' cs' hx
   refine⟨z1,z2,fun hxn=>?_⟩
   obtain⟨c',y1,y2,y3,y4,y5⟩:=z3 hxn
   have hxne:=hne x (by unfold blk;rw[hx];exact hxn)
   exact⟨c',y1,y2,y3,aH.mono he _ _ y4,by simp only[G.raise];rw[if_neg hxne];exact y5⟩
  ·obtain rfl:=(hA trivial).2 hnl
   simp only[Rep]
   refine⟨_,cap,hv,hnc,⟨hcm,by simp⟩,fun h=>absurd rfl h,fun _=>⟨g.β l,0,rfl,dP _ (cur.take (n*s)) 0 ?_ (fun j hj=>?_) (fun j hj=>?_)⟩⟩
   ·have:=cJ (n*s) _ _ k4
    rw[List.take_take,Nat.min_eq_left hn]at this
    exact aH.mono he _ _ this
   ·rw[cell_of_row w _ _ _ _ _ k1,Nat.zero_add]
    simp only[List.length_take]at hj
    simp[show j<n*s by omega]
   ·intro k hk
    simp[G.raise]at hk
    simp only[List.length_take]at hj
    omega
theorem kY(d:Nat){l n e s:Nat}{cs:List LV}(hd:fr d=.ms l 0 n)(hl:st.H l=.box e s cs)(hn:n*s≤cs.length)(h:AWp P N c Q (upd fr d (.sl 0 n (cs.take (n*s)))) (st.set l .dead)):AWp P N c Q fr st:=
 fH (fun a w g hi hr _=>eU d hd hl hn a w g hi hr) h
end
section
variable {P:Program} {T:Tab}
def sI(args:List LV):Frm:=fun i=>args.getD i .dead
def xW(T:Tab)(fr:Frm)(st:St):ResultVar→Option bJ
 |.tmp t=>some ⟨True,fr t,st⟩
 |.cell a t=>wC T t (fr a) st
def pR(T:Tab)(fr:Frm)(st:St):List ResultVar→Option (Prop×List LV)
 |[]=>some (True,[])
 |r::rs=>match xW T fr st r,pR T fr st rs with
  |some x,some (c,l)=>some (x.c∧c,x.v::l)
  |_,_=>none
def one(l:List LV):LV:=match l with|[x]=>x|l=>.tu l
def tK(T:Tab)(Q:LV→St→Prop)(fr:Frm)(st:St)(rs:List ResultVar):Prop:=
 match pR T fr st rs with
 |some (c,l)=>c∧Q (one l) st
 |none=>False
def Body(T:Tab)(rs:List ResultVar)(Q:LV→St→Prop):AQ:=fun e fr st=>match e with
 |.normal=>tK T Q fr st rs
 |.ret=>tK T Q fr st rs
 |_=>False
theorem aJu{rs:List ResultVar}{Q:LV→St→Prop}{fr:Frm}{st:St}:Body T rs Q .ret fr st=tK T Q fr st rs:=rfl
theorem aDm{rs:List ResultVar}{Q:LV→St→Prop}{fr:Frm}{st:St}:Body T rs Q .normal fr st=tK T Q fr st rs:=rfl
theorem tF(hT:aZ P T){w:World}{g:G}{a:Act}{fr:Frm}{st:St}(hi:Inv w g st)(hr:bS w g a fr):∀(rs:List ResultVar) (c:Prop) (l:List LV),pR T fr st rs=some (c,l)→c→
 ∃ vs:List Value,(rs.mapM fun|.tmp t=>pure (a.tmps.getD t undef)|.cell x t=>do loadVar t (← asAddr (a.tmps.getD x undef)):Sem (List Value)).run P w=.ok vs w∧aH w g l vs
 |[],c,l,h,_=>by
  simp only[pR,Option.some.injEq,Prod.mk.injEq]at h
  obtain⟨_,rfl⟩:=h
  exact⟨[],by simp,by simp only[aH]⟩
 |r::rs,c,l,h,hc=>by
  simp only[pR]at h
  split at h
  ·rename_i x c' l' hx hl
   simp only[Option.some.injEq,Prod.mk.injEq]at h
   obtain⟨rfl,rfl⟩:=h
   obtain⟨vs,h1,h2⟩:=tF hT hi hr rs c' l' hl hc.2
   cases r with
   |tmp t=>
    simp only[xW,Option.some.injEq]at hx
    subst hx
    refine⟨a.tmps.getD t undef::vs,?_,by simp only[aH];exact⟨_,_,rfl,hr t,h2⟩⟩
    simp only[List.mapM_cons,Sem.run_bind,Sem.run_pure,Result.andThen_ok,h1]
   |cell q t=>
    simp only[xW]at hx
    obtain⟨_,u,k1,k2⟩:=xA hT hi hx hc.1 (hr q)
    refine⟨u::vs,?_,by simp only[aH];exact⟨_,_,rfl,k2,h2⟩⟩
    have hp:∃ ad,a.tmps.getD q undef=.pointer (some ad):=by
     unfold wC at hx
     cases hpc:cX st (fr q) with
     |none=>rw[hpc]at hx;simp at hx
     |some cs=>
      obtain⟨b,o,vs,hv,_⟩:=aFl hi hpc (hr q)
      exact⟨_,hv⟩
    obtain⟨ad,hp⟩:=hp
    rw[hp]at k1
    simp only[Instr.loadAt,Instr.sureAddr,Sem.run_bind,Sem.run_pure,Result.andThen_ok]at k1
    have hq:(asAddr (.pointer (some ad)):Sem Addr)=pure ad:=rfl
    simp only[List.mapM_cons,Sem.run_bind,Sem.run_pure,Result.andThen_ok,hp,hq,k1,h1]
  ·simp at h
theorem qO(hT:aZ P T){f:FuncId}{fn:Func}{c:Code}{args:List LV}{st:St}{Q:LV→St→Prop}{N:Nat}{rs:List ResultVar}(hf:P.funcs[f]?=some fn)(hb:fn.body=some c)
 (hname:(fn.name== "runtime.NumGoroutine")=false) (hN:fn.ntmps=N) (hrs:fn.results.toList=rs) (hlen:args.length≤N) (h:AWp P N c (AK P N (Body T rs Q) []) (sI args) st):aF P f args st Q:=by
 refine⟨enters_of hf hname hb,fun w g vs hi hr=>?_⟩
 subst hN hrs
 have hl:=aM _ _ hr
 refine calls_of_wp hf hb ?_
 have hsz:(vs.toArray++Array.replicate (fn.ntmps-vs.toArray.size) undef).size=fn.ntmps:=by simp;omega
 refine Code.wp_mono (fun e a' w' p=>?_) (h { tmps:=vs.toArray++Array.replicate (fn.ntmps-vs.toArray.size) undef,defers:=[] } w g hi ?_ hsz rfl)
 ·obtain⟨fr',st',g',hq,hi',hr',hs',hd',he⟩:=p
  rw[oR]at hq
  have key:tK T Q fr' st' fn.results.toList→a'.defers=[]∧∃ v,(results fn a'.tmps).run P w'=.ok v w'∧(∃ v_1 r st' g',Ending.returned v=.returned v_1∧Q r st'∧Rep w' g' r v_1∧Inv w' g' st'∧Ext w g w' g'):=by
   intro hk
   unfold tK at hk
   cases hres:pR T fr' st' fn.results.toList with
   |none=>rw[hres]at hk;exact hk.elim
   |some p=>
    obtain⟨c,l⟩:=p
    rw[hres]at hk
    obtain⟨us,h1,h2⟩:=tF hT hi' hr' _ c l hres hk.1
    have hrun:(results fn a'.tmps).run P w'=.ok (if h:us.toArray.size=1 then us.toArray[0]else .tuple us.toArray) w':=by
     unfold results
     rw[Sem.run_bind,Array.mapM_eq_mapM_toList,Sem.run_map]
     exact congrArg (fun r:Result (List Value)=>(r.andThen fun a w'=>Result.ok a.toArray w').andThen fun a w'=>Sem.run P (pure (if h:a.size=1 then a[0]else Value.tuple a)) w') h1
    refine⟨hd',_,hrun,_,_,st',g',rfl,hk.2,?_,hi',he⟩
    unfold one
    split
    ·rename_i x
     simp only[aH]at h2
     obtain⟨v,us',rfl,k1,rfl⟩:=h2
     simpa using k1
    ·rename_i hne
     have:us.length≠1:=by
      intro h1
      rw[← aM _ _ h2]at h1
      match l,h1 with
      |[x],_=>exact hne x rfl
     rw[dif_neg (by simpa using this)]
     simp only[Rep]
     exact⟨us,rfl,h2⟩
  cases e with
  |normal=>exact key hq
  |ret=>exact key hq
  |_=>exact hq.elim
 ·intro i
  unfold sI
  by_cases hi2:i<args.length
  ·have h1:args.getD i .dead=args[i]:=by simp[List.getD,hi2]
   obtain⟨v,hv,hrv⟩:=pD i args vs args[i] hr (List.getElem?_eq_getElem hi2)
   rw[h1]
   have:(vs.toArray++Array.replicate (fn.ntmps-vs.toArray.size) undef).getD i undef=v:=by
    rw[Array.getD_eq_getD_getElem?,Array.getElem?_append_left (by simp;omega)]
    simp[hv]
   simp only[this]
   exact hrv
  ·have h1:args.getD i .dead=.dead:=by simp[List.getD,List.getElem?_eq_none (Nat.le_of_not_lt hi2)]
   rw[h1]
   simp only[Rep]
theorem aDH{f:FuncId}{args:List LV}{st:St}{Q:LV→St→Prop}(h:aF P f args st fun r st'=>Q (norm r) st'):aF P f args st Q:=by
 refine⟨h.1,fun w g vs hi hr=>(h.2 w g vs hi hr).mono ?_⟩
 rintro e w' ⟨v,r,st',g',rfl,hq,hrep,hi',he⟩
 exact⟨v,norm r,st',g',rfl,hq,pA hrep,hi',he⟩
theorem fT(e s:Nat){f:FuncId}{args:List LV}{st:St}{Q:LV→St→Prop}(h:aF P f args st fun r st'=>(r=.nil∧Q (.ms st'.next 0 0) (st'.new (.box e s [])))∨Q r st'):aF P f args st Q:=by
 refine⟨h.1,fun w g vs hi hr=>(h.2 w g vs hi hr).mono ?_⟩
 rintro x w' ⟨v,r,st',g',rfl,hq,hrep,hi',he⟩
 rcases hq with⟨rfl,hq⟩|hq
 ·refine⟨v,_,_,g'.addNil,rfl,hq,?_,fN hi' _ (.inr ⟨e,s,rfl⟩),he.trans (ext_nil w' g')⟩
  simp only[Rep]at hrep
  subst hrep
  simp only[Rep,G.addNil,hi'.next]
  exact⟨none,0,rfl,Nat.le_refl _,Nat.zero_le _,by simp,by simp,by omega⟩
 ·exact⟨v,r,st',g',rfl,hq,hrep,hi',he⟩
theorem bV{f:FuncId}{args:List LV}{st:St}{Q:LV→St→Prop}(h:aF P f args st fun r st'=>∃ l n e s cs,r=.ms l 0 n∧st'.H l=.box e s cs∧n*s≤cs.length∧Q (.sl 0 n (cs.take (n*s))) (st'.set l .dead)):aF P f args st Q:=by
 refine⟨h.1,fun w g vs hi hr=>(h.2 w g vs hi hr).mono ?_⟩
 rintro x w' ⟨v,r,st',g',rfl,⟨l,n,e,s,cs,rfl,hl,hn,hq⟩,hrep,hi',he⟩
 obtain⟨g2,h1,h2,h3⟩:=eU (fr:=upd (fun _=>.dead) 0 (.ms l 0 n)) 0 rfl hl hn { tmps:=#[v],defers:=[] } w' g' hi' (by
  intro j
  unfold upd
  by_cases hj:j=0
  ·subst hj;rw[if_pos rfl];exact hrep
  ·rw[if_neg hj];simp only[Rep])
 exact⟨v,_,_,g2,rfl,hq,h2 0,h1,he.trans h3⟩
theorem tN{f:FuncId}{args:List LV}{vs:List Value}{w:World}{R:Value→Prop}(hG:fF w ⟨1,fun _=>none,fun _=>0,fun _=>0,fun _=>false⟩)(hr:aH w ⟨1,fun _=>none,fun _=>0,fun _=>0,fun _=>false⟩ args vs)
 (h:aF P f args ⟨1,fun _=>.dead⟩ fun r _=>∃ v,r=.atom v∧R v):Calls P f vs.toArray w fun e w'=>(∃ v,e=.returned v∧R v)∧Below w.heap.size w w':=by
 have hi:Inv w ⟨1,fun _=>none,fun _=>0,fun _=>0,fun _=>false⟩ ⟨1,fun _=>.dead⟩:=by
  refine⟨rfl,by decide,fun _ _=>rfl,fun l hl=>hl.elim,fun l l' hl=>hl.elim,fun l e s n hl=>(by cases hl),fun l e s cs hl=>(by cases hl),fun l ag ks es hl=>(by cases hl),fun l e n hl=>(by cases hl),kP hG fun _=>rfl⟩
 refine(h.2 w _ vs hi hr).mono ?_
 rintro e w' ⟨v,r,st',g',rfl,⟨v',rfl,hv'⟩,hrep,_,he⟩
 simp only[Rep]at hrep
 subst hrep
 exact⟨⟨_,rfl,hv'⟩,⟨he.os,he.tape,he.output,he.size,fun k hk=>(he.still k hk rfl).2⟩⟩
end
end Go.Proofs.YtempldclppogmaaGreatDoor.Aw
