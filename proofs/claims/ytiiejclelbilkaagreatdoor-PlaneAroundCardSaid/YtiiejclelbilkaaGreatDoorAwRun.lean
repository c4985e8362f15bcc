/- Running a region by evaluation; a function's contract out of its body. No program is named here. -/
import Derived.Test.YtiiejclelbilkaaGreatDoorAwSound3
import Derived.StillTail
namespace Go.Proofs.YtiiejclelbilkaaGreatDoor.Aw
open Go Go.RowKit
set_option linter.unusedSimpArgs false
set_option linter.unusedVariables false
def inM (M:List Nat):Option Nat→Bool
 | some d=>M.contains d
 | none=>false
def nilFlag:BinOp→Option Bool
 | .eql=>some false
 | .neq=>some true
 | _=>none
def nilLen:LV→Option Nat
 | .sl _ n _=>some n
 | .emp=>some 0
 | .ms _ _ n=>some n
 | _=>none
def nilCmp (T:Tab) (o:Oper) (fr:Frm):Option (Bool×Nat):=
 match o.op with
 | .binOp op t x (.const (.slice none 0 0)) _=>match sliceE T t,nilFlag op,nilLen (evalL fr x) with
   | some _,some ng,some n=>some (ng,n)
   | _,_,_=>none
 | _=>none
theorem nilLen_sound {w:World} {g:G} {lv:LV} {v:Value} {n:Nat} (h:nilLen lv=some n) (hr:Rep w g lv v):∃ A c,v=.slice A n c∧(A=none→n=0):=by
 cases lv with
 | sl t n' cs=>
   simp only [nilLen,Option.some.injEq] at h
   subst h
   simp only [Rep] at hr
   obtain ⟨A,cap,hv,hnc,hm,_⟩:=hr
   exact ⟨A,cap,hv,fun hA=>by have:=hm.2 hA;omega⟩
 | emp=>
   simp only [nilLen,Option.some.injEq] at h
   subst h
   simp only [Rep] at hr
   obtain ⟨A,hv⟩:=hr
   exact ⟨A,0,hv,fun _=>rfl⟩
 | ms l o n'=>
   simp only [nilLen,Option.some.injEq] at h
   subst h
   simp only [Rep] at hr
   obtain ⟨A,cap,hv,hnc,hm,_,hA',_⟩:=hr
   refine ⟨A,cap,hv,fun hA=>?_⟩
   rcases Nat.eq_zero_or_pos n' with h0 | h0
   ·exact h0
   ·have:=hA' (by omega);rw [hA] at this;cases this
 | _=>simp [nilLen] at h
def AOpsE (P:Program) (T:Tab) (N:Nat) (ops:Array Oper) (M:List Nat) (J:Frm→St→Prop):List Oper→Frm→St→Prop
 | [],fr,st=>J fr st
 | o::rest,fr,st=>match wantedL ops fr o.guard with
   | some b=>(b=true→(match o.op with
      | .call { callee:=.value x,args:=args,argTypes:=_ }=>match calleeL (evalL fr x) with
        | some (f,caps)=>∃ R,ACalls P f ((args.toList.map (evalL fr))++caps) st R∧∀ r st',R r st'→AOpsE P T N ops M J rest (updO fr o.dst r) st'
        | none=>False
      | _=>match nilCmp T o fr with
        | some (ng,n)=>∀ b:Bool,(b=true→n=0)→AOpsE P T N ops M J rest (updO fr o.dst (.atom (.bool (b != ng)))) st
        | none=>match aop T (inM M o.dst) o fr st with
          | some r=>r.c∧AOpsE P T N ops M J rest (updO fr o.dst r.v) r.s
          | none=>False))∧(b=false→AOpsE P T N ops M J rest (updO fr o.dst (.tu [])) st)
   | none=>False
def CallK (P:Program) (T:Tab) (N:Nat) (ops:Array Oper) (M:List Nat) (J:Frm→St→Prop) (rest:List Oper) (d:Option Nat) (fr:Frm) (st:St) (f:FuncId) (args:List LV):Prop:=
 ∃ R,ACalls P f args st R∧∀ r st',R r st'→AOpsE P T N ops M J rest (updO fr d r) st'
def callS (P:Program) (T:Tab) (N:Nat) (ops:Array Oper) (M:List Nat) (J:Frm→St→Prop) (rest:List Oper) (d:Option Nat) (fr:Frm) (st:St) (args:List LV):Option (FuncId×List LV)→Prop
 | some (f,caps)=>CallK P T N ops M J rest d fr st f (args++caps)
 | none=>False
def stepA (P:Program) (T:Tab) (N:Nat) (ops:Array Oper) (M:List Nat) (J:Frm→St→Prop) (rest:List Oper) (d:Option Nat) (fr:Frm):Option ARes→Prop
 | some r=>r.c∧AOpsE P T N ops M J rest (updO fr d r.v) r.s
 | none=>False
def stepN (P:Program) (T:Tab) (N:Nat) (ops:Array Oper) (M:List Nat) (J:Frm→St→Prop) (rest:List Oper) (o:Oper) (fr:Frm) (st:St):Option (Bool×Nat)→Prop
 | some (ng,n)=>∀ b:Bool,(b=true→n=0)→AOpsE P T N ops M J rest (updO fr o.dst (.atom (.bool (b != ng)))) st
 | none=>stepA P T N ops M J rest o.dst fr (aop T (inM M o.dst) o fr st)
def stepR (P:Program) (T:Tab) (N:Nat) (ops:Array Oper) (M:List Nat) (J:Frm→St→Prop) (rest:List Oper) (o:Oper) (fr:Frm) (st:St):Prop:=
 match o.op with
 | .call { callee:=.value x,args:=args,argTypes:=_ }=>callS P T N ops M J rest o.dst fr st (args.toList.map (evalL fr)) (calleeL (evalL fr x))
 | _=>stepN P T N ops M J rest o fr st (nilCmp T o fr)
def stepW (P:Program) (T:Tab) (N:Nat) (ops:Array Oper) (M:List Nat) (J:Frm→St→Prop) (rest:List Oper) (o:Oper) (fr:Frm) (st:St):Option Bool→Prop
 | some b=>(b=true→stepR P T N ops M J rest o fr st)∧(b=false→AOpsE P T N ops M J rest (updO fr o.dst (.tu [])) st)
 | none=>False
section
variable {P:Program} {T:Tab} {N:Nat} {ops:Array Oper} {M:List Nat} {J:Frm→St→Prop} {rest:List Oper} {o:Oper} {fr:Frm} {st:St} {d:Option Nat}
theorem e_nil:AOpsE P T N ops M J [] fr st=J fr st:=rfl
theorem e_cons:AOpsE P T N ops M J (o::rest) fr st=stepW P T N ops M J rest o fr st (wantedL ops fr o.guard):=by
 unfold AOpsE stepW stepR
 cases wantedL ops fr o.guard with
 | none=>rfl
 | some b=>
   simp only
   congr 1
theorem e_true:stepW P T N ops M J rest o fr st (some true)=stepR P T N ops M J rest o fr st:=by simp [stepW]
theorem e_false:stepW P T N ops M J rest o fr st (some false)=AOpsE P T N ops M J rest (updO fr o.dst (.tu [])) st:=by simp [stepW]
theorem e_plain:stepN P T N ops M J rest o fr st none=stepA P T N ops M J rest o.dst fr (aop T (inM M o.dst) o fr st):=rfl
theorem e_nilcmp (ng:Bool) (n:Nat):stepN P T N ops M J rest o fr st (some (ng,n))=∀ b:Bool,(b=true→n=0)→AOpsE P T N ops M J rest (updO fr o.dst (.atom (.bool (b != ng)))) st:=rfl
theorem e_some (r:ARes):stepA P T N ops M J rest d fr (some r)=(r.c∧AOpsE P T N ops M J rest (updO fr d r.v) r.s):=rfl
theorem e_call (f:FuncId) (caps args:List LV):callS P T N ops M J rest d fr st args (some (f,caps))=CallK P T N ops M J rest d fr st f (args++caps):=rfl
theorem repL_norm {w:World} {g:G}:∀ (xs:List LV) (vs:List Value),RepL w g xs vs→RepL w g (xs.map norm) vs
 | [],vs,h=>h
 | x::xs,vs,h=>by
   simp only [RepL,List.map_cons] at h ⊢
   obtain ⟨v,vs',rfl,h1,h2⟩:=h
   exact ⟨v,vs',rfl,rep_norm h1,repL_norm xs vs' h2⟩
theorem ACalls.of_norm {f:FuncId} {args:List LV} {R:LV→St→Prop} (h:ACalls P f (args.map norm) st R):ACalls P f args st R:=
 ⟨h.1,fun w g vs hi hr=>h.2 w g vs hi (repL_norm _ _ hr)⟩
theorem e_go (h:AOpsE P T N ops M J rest fr st):AOpsE P T N ops M J rest fr st:=h
theorem qF {f:FuncId} {args:List LV} {R:LV→St→Prop} (h:ACalls P f args st R) (hk:∀ r st',R r st'→AOpsE P T N ops M J rest (updO fr d r) st'):CallK P T N ops M J rest d fr st f args:=⟨R,h,hk⟩
theorem run_nilCmp {w:World} {t:TypeId} {e:TypeId} (ht:P.underlying t=some (.slice e)) (A:Option Addr) (n c:Nat) (x y:Operand):
 (do eqGuard .eql t x y (.slice A n c) (.slice none 0 0);binOp .eql t (.slice A n c) (.slice none 0 0):Sem Value).run P w=.ok (.bool A.isNone) w∧
 (do eqGuard .neq t x y (.slice A n c) (.slice none 0 0);binOp .neq t (.slice A n c) (.slice none 0 0):Sem Value).run P w=.ok (.bool (!A.isNone)) w:=by
 have hd:∀ d,(Op.equalIn (d+1) t (.slice A n c) (.slice none 0 0)).run P w=.ok A.isNone w:=by
  intro d
  cases A<;>simp [Op.equalIn,run_underlying ht]
 have he:(Op.equal t (.slice A n c) (.slice none 0 0)).run P w=.ok A.isNone w:=hd 9999
 constructor
 ·unfold eqGuard;simp [binOp,he]
 ·unfold eqGuard;simp [binOp,he]
theorem aops_nilCmp (hT:TabOk P T) {Q:AQ} {ng:Bool} {n:Nat} (hn:nilCmp T o fr=some (ng,n))
 (hw:wantedL ops fr o.guard=some true) (hk:guardOk N ops o.guard=true) (hd:dstOk N o.dst=true)
 (h:∀ b:Bool,(b=true→n=0)→AOps P N ops rest Q (updO fr o.dst (.atom (.bool (b != ng)))) st):AOps P N ops (o::rest) Q fr st:=by
 intro a w g hi hr hs hdf
 have key:∃ b:Bool,(b=true→n=0)∧(execOp a.eval o).run P w=.ok (.value (.bool (b != ng))) w:=by
  unfold nilCmp at hn
  split at hn
  ·rename_i op t x t' hop
   split at hn
   ·rename_i e ng' n' hse hfl hln
    simp only [Option.some.injEq,Prod.mk.injEq] at hn
    obtain ⟨rfl,rfl⟩:=hn
    obtain ⟨A,c,hv,hA⟩:=nilLen_sound hln (rep_eval hr x)
    have hrun:=run_nilCmp (P:=P) (w:=w) (sliceE_ok hT hse) A n' c x (.const (.slice none 0 0))
    refine ⟨A.isNone,fun hb=>hA (by simpa using hb),?_⟩
    cases op<;>simp only [nilFlag,Option.some.injEq,reduceCtorEq] at hfl
    ·subst hfl
     have hc:a.eval (.const (.slice none 0 0))=.slice none 0 0:=rfl
     simp only [execOp,hop,hv,hc]
     rw [Sem.run_bind,hrun.1]
     simp
    ·subst hfl
     have hc:a.eval (.const (.slice none 0 0))=.slice none 0 0:=rfl
     simp only [execOp,hop,hv,hc]
     rw [Sem.run_bind,hrun.2]
     simp
   ·simp at hn
  ·simp at hn
 obtain ⟨b,hb,hrun⟩:=key
 have hwt:Region.wanted o (yielded ops a.tmps)=true:=wantedL_sound hr hw (by rw [hs];exact guardOk_lt hk)
 simp only [wpList,hwt,if_true]
 left
 unfold Oper.wp
 rw [hrun,Oper.upon_value]
 exact h b hb _ w g hi (repF_putO hr (by rw [hs];exact hd) (by simp only [Rep])) (by rw [put_size];exact hs) (by rw [put_defers];exact hdf)
theorem callK_ofN {f:FuncId} {args:List LV} {R:LV→St→Prop} (h:ACalls P f (args.map norm) st R) (hk:∀ r st',R r st'→AOpsE P T N ops M J rest (updO fr d r) st'):CallK P T N ops M J rest d fr st f args:=⟨R,h.of_norm,hk⟩
def regOk (N:Nat) (ops:Array Oper) (l:List Oper):Bool:=l.all fun o=>dstOk N o.dst&&guardOk N ops o.guard
theorem aopsE_sound (hT:TabOk P T) {Q:AQ} (hJ:∀ fr st,J fr st→Q .normal fr st):∀ (rest:List Oper) (fr:Frm) (st:St),regOk N ops rest=true→AOpsE P T N ops M J rest fr st→AOps P N ops rest Q fr st
 | [],fr,st,_,h=>aops_nil (hJ _ _ h)
 | o::rest,fr,st,hk,h=>by
   simp only [regOk,List.all_cons,Bool.and_eq_true] at hk
   obtain ⟨⟨hd,hg⟩,hk⟩:=hk
   have ih:=aopsE_sound hT hJ rest
   have hk':regOk N ops rest=true:=hk
   unfold AOpsE at h
   cases hw:wantedL ops fr o.guard with
   | none=>rw [hw] at h;exact h.elim
   | some b=>
     rw [hw] at h
     cases b with
     | false=>exact aops_skip hw hg hd (ih _ _ hk' (h.2 rfl))
     | true=>
       have h1:=h.1 rfl
       split at h1
       ·rename_i x args tys hop
        split at h1
        ·rename_i f caps hf
         obtain ⟨R,hR,hn⟩:=h1
         exact aops_call hop hw hg hd hf hR (fun r st' hr=>ih _ _ hk' (hn r st' hr))
        ·exact h1.elim
       ·split at h1
        ·rename_i ng n hnc
         exact aops_nilCmp hT hnc hw hg hd (fun b hb=>ih _ _ hk' (h1 b hb))
        ·split at h1
         ·rename_i r hr
          exact aops_op hw hg hd (aop_sound hT hr h1.1) (ih _ _ hk' h1.2)
         ·exact h1.elim
theorem awp_regionE (hT:TabOk P T) (M:List Nat) {Q:AQ} {id:Nat} (hk:regOk N ops ops.toList=true)
 (h:∀ J:Frm→St→Prop,(∀ fr st,Q .normal fr st→J fr st)→AOpsE P T N ops M J ops.toList fr st):AWp P N (.region id ops false) Q fr st:=
 awp_region (aopsE_sound (M:=M) hT (J:=fun fr st=>Q .normal fr st) (fun _ _ h=>h) _ _ _ hk (h _ (fun _ _ h=>h)))
end
section
variable {P:Program} {T:Tab} {N:Nat} {ops:Array Oper} {M:List Nat} {fr:Frm} {st:St}
def AStill (T:Tab) (ops:Array Oper) (J:Frm→St→Prop):List Oper→Frm→St→Prop
 | [],fr,st=>J fr st
 | o::rest,fr,st=>match wantedL ops fr o.guard with
   | some b=>(b=true→match aop T false o fr st with
      | some r=>r.c∧AStill T ops J rest (updO fr o.dst r.v) st
      | none=>False)∧(b=false→AStill T ops J rest (updO fr o.dst (.tu [])) st)
   | none=>False
def stillA (T:Tab) (ops:Array Oper) (J:Frm→St→Prop) (rest:List Oper) (d:Option Nat) (fr:Frm) (st:St):Option ARes→Prop
 | some r=>r.c∧AStill T ops J rest (updO fr d r.v) st
 | none=>False
def stillW (T:Tab) (ops:Array Oper) (J:Frm→St→Prop) (rest:List Oper) (o:Oper) (fr:Frm) (st:St):Option Bool→Prop
 | some b=>(b=true→stillA T ops J rest o.dst fr st (aop T false o fr st))∧(b=false→AStill T ops J rest (updO fr o.dst (.tu [])) st)
 | none=>False
theorem q_nil {J:Frm→St→Prop}:AStill T ops J [] fr st=J fr st:=rfl
theorem q_cons {J:Frm→St→Prop} {o:Oper} {rest:List Oper}:AStill T ops J (o::rest) fr st=stillW T ops J rest o fr st (wantedL ops fr o.guard):=by
 unfold AStill stillW
 cases wantedL ops fr o.guard<;>rfl
theorem q_true {J:Frm→St→Prop} {o:Oper} {rest:List Oper}:stillW T ops J rest o fr st (some true)=stillA T ops J rest o.dst fr st (aop T false o fr st):=by simp [stillW]
theorem q_false {J:Frm→St→Prop} {o:Oper} {rest:List Oper}:stillW T ops J rest o fr st (some false)=AStill T ops J rest (updO fr o.dst (.tu [])) st:=by simp [stillW]
theorem q_some {J:Frm→St→Prop} {d:Option Nat} {rest:List Oper} (r:ARes):stillA T ops J rest d fr st (some r)=(r.c∧AStill T ops J rest (updO fr d r.v) st):=rfl
theorem still_sound (hT:TabOk P T) {J:Frm→St→Prop} {w:World} {g:G} {R:Act→Prop} (hi:Inv w g st) (hR:∀ a fr,RepF w g a fr→a.tmps.size=N→a.defers=[]→J fr st→R a):
 ∀ (rest:List Oper) (fr:Frm) (a:Act),RepF w g a fr→a.tmps.size=N→a.defers=[]→regOk N ops rest=true→rest.all (fun o=>quietOp o.op)=true→AStill T ops J rest fr st→wpStill P ops w R rest a
 | [],fr,a,hr,hs,hd,_,_,h=>hR a fr hr hs hd h
 | o::rest,fr,a,hr,hs,hd,hk,hq,h=>by
   simp only [regOk,List.all_cons,Bool.and_eq_true] at hk hq
   obtain ⟨⟨hdst,hg⟩,hk⟩:=hk
   have ih:=still_sound hT hi hR rest
   have hk':regOk N ops rest=true:=hk
   unfold AStill at h
   unfold wpStill
   cases hw:wantedL ops fr o.guard with
   | none=>rw [hw] at h;exact h.elim
   | some b=>
     rw [hw] at h
     have hwt:Region.wanted o (yielded ops a.tmps)=b:=wantedL_sound hr hw (by rw [hs];exact guardOk_lt hg)
     rw [hwt]
     cases b with
     | false=>
       simp only [Bool.false_eq_true,if_false]
       exact ih _ _ (repF_putO hr (by rw [hs];exact hdst) rep_undef) (by rw [put_size];exact hs) (by rw [put_defers];exact hd) hk' hq.2 (h.2 rfl)
     | true=>
       simp only [if_true]
       have h1:=h.1 rfl
       split at h1
       ·rename_i r he
        obtain ⟨x,w',g',k1,k2,k3,k4,k5⟩:=aop_sound (N:=N) hT he h1.1 a w g hi hr hs
        obtain ⟨rfl,rfl,hst,v,rfl⟩:=k5 hq.1
        unfold Oper.still
        rw [k1,Oper.stillUpon_value]
        rcases k2 with ⟨v',hv,hrep⟩ | ⟨hv,_⟩
        ·injection hv with hv;subst hv
         exact ih _ _ (repF_putO hr (by rw [hs];exact hdst) hrep) (by rw [put_size];exact hs) (by rw [put_defers];exact hd) hk' hq.2 h1.2
        ·cases hv
       ·exact h1.elim
theorem awp_drawE (hT:TabOk P T) (M:List Nat) (n:Nat) {Q:AQ} {id:Nat} {l:List Oper} (hm:P.follows .mixedOrders=true) (hB:Region.lexTailB .any l.toArray n=true) (hk:regOk N l.toArray l=true) (hq:(l.take n).all (fun o=>quietOp o.op)=true)
 (h:∀ J:Frm→St→Prop,(∀ fr st,Q .normal fr st→J fr st)→AStill T l.toArray (fun fr st=>AOpsE P T N l.toArray M J (l.drop n) fr st) (l.take n) fr st):AWp P N (.region id l.toArray true) Q fr st:=by
 intro a w g hi hr hs hd
 refine wp_region_still_tail n hm hB ?_
 have hk1:regOk N l.toArray (l.take n)=true:=by
  unfold regOk at hk ⊢
  rw [List.all_eq_true] at hk ⊢
  exact fun o ho=>hk o (List.mem_of_mem_take ho)
 have hk2:regOk N l.toArray (l.drop n)=true:=by
  unfold regOk at hk ⊢
  rw [List.all_eq_true] at hk ⊢
  exact fun o ho=>hk o (List.mem_of_mem_drop ho)
 have hdr:Ext w g { w with drawn:=w.drawn+1 } g:=ext_drew w g
 refine still_sound (w:={ w with drawn:=w.drawn+1 }) hT hi.drew (fun a' fr' hr' hs' hd' hj=>?_) _ fr a (hr.mono hdr) hs hd hk1 hq (h (fun fr st=>Q .normal fr st) (fun _ _ h=>h))
 exact wpList_mono (fun _ _ _ p=>p.pre hdr) _ _ _ (aopsE_sound (M:=M) hT (J:=fun fr st=>Q .normal fr st) (Q:=Q) (fun _ _ h=>h) _ _ _ hk2 hj a' _ g hi.drew hr' hs' hd')
theorem awp_drawQ (hT:TabOk P T) {Q:AQ} {id:Nat} {l:List Oper} (hm:P.follows .mixedOrders=true) (hB:Region.lexB .any l.toArray=true) (hk:regOk N l.toArray l=true) (hq:l.all (fun o=>quietOp o.op)=true)
 (h:∀ J:Frm→St→Prop,(∀ fr st,Q .normal fr st→J fr st)→AStill T l.toArray J l fr st):AWp P N (.region id l.toArray true) Q fr st:=by
 intro a w g hi hr hs hd
 refine wp_region_still_lit hm hB ?_
 have hdr:Ext w g { w with drawn:=w.drawn+1 } g:=ext_drew w g
 refine still_sound (w:={ w with drawn:=w.drawn+1 }) hT hi.drew (fun a' fr' hr' hs' hd' hj=>?_) _ fr a (hr.mono hdr) hs hd hk hq (h (fun fr st=>Q .normal fr st) (fun _ _ h=>h))
 exact ⟨fr',st,g,hj,hi.drew,hr',hs',hd',hdr⟩
end
section
variable {P:Program} {T:Tab} {N:Nat} {Q:AQ} {fr:Frm} {st:St} {c:Code}
theorem repF_upd {w:World} {g:G} {a:Act} (h:RepF w g a fr) (d:Nat) {lv:LV} (hv:Rep w g lv (a.tmps.getD d undef)):RepF w g a (upd fr d lv):=by
 intro i
 unfold upd
 by_cases hi:i=d
 ·subst hi;rw [if_pos rfl];exact hv
 ·rw [if_neg hi];exact h i
theorem awp_own (d e s:Nat) (hd:fr d=.nil) (h:AWp P N c Q (upd fr d (.sl st.next 0 [])) (st.new (.own e s 0))):AWp P N c Q fr st:=by
 refine awp_ghost (fun a w g hi hr _=>?_) h
 refine ⟨g.addNil,inv_nil hi _ (.inl ⟨e,s,rfl⟩),repF_upd (hr.mono (ext_nil w g)) d ?_,ext_nil w g⟩
 have h1:=hr d
 rw [hd] at h1
 simp only [Rep] at h1 ⊢
 exact ⟨none,0,h1,Nat.le_refl _,⟨Nat.zero_le _,fun _=>rfl⟩,fun _=>by simp [G.addNil,hi.next],fun h=>absurd rfl h⟩
theorem awp_qu (d:Nat) {t n e:Nat} {cs:List LV} (hd:fr d=.sl t n cs) (hl:st.H t=.own e 1 n) (hn:0 < n) (ht:t≠0) (h:AWp P N c Q (upd fr d (.qu t 0 n cs)) (st.set t (.que e n))):AWp P N c Q fr st:=by
 refine awp_ghost (fun a w g hi hr _=>?_) h
 have h1:=hr d
 rw [hd] at h1
 simp only [Rep] at h1
 obtain ⟨A,cap,hv,hnc,hcm,htok,hcells⟩:=h1
 obtain ⟨hA,rfl,hlt⟩:=htok ht
 obtain ⟨o1,o2,o3,o4⟩:=hi.own t e 1 n hl
 have hnl:g.nl t=false:=by
  cases h0:g.nl t with
  | false=>rfl
  | true=>have:=o3 h0;omega
 obtain ⟨q1,q2⟩:=qM_cap o2
 refine ⟨g,inv_toQue hi hl hnl,repF_upd hr d ?_,Ext.refl w g⟩
 simp only [Rep]
 exact ⟨A,_,hv,hnc,o2,hlt,by rw [q2,Nat.zero_add],fun _=>by rw [q1];exact hA hnl,hcells⟩
theorem awp_ownM (d e s:Nat) (hd:fr d=.nil) (h:AWp P N c Q (upd fr d (.ms st.next 0 0)) (st.new (.box e s []))):AWp P N c Q fr st:=by
 refine awp_ghost (fun a w g hi hr _=>?_) h
 refine ⟨g.addNil,inv_nil hi _ (.inr ⟨e,s,rfl⟩),repF_upd (hr.mono (ext_nil w g)) d ?_,ext_nil w g⟩
 have h1:=hr d
 rw [hd] at h1
 simp only [Rep] at h1 ⊢
 exact ⟨none,0,h1,Nat.le_refl _,Nat.zero_le _,by simp [G.addNil,hi.next],by simp,by simp [G.addNil,hi.next]⟩
theorem awp_shrink (k:Nat) {l e s:Nat} {cs:List LV} (hl:st.H l=.box e s cs) (h:AWp P N c Q fr (st.set l (.box e s (cs.take k)))):AWp P N c Q fr st:=
 awp_ghost (fun a w g hi hr _=>⟨g,inv_shrink hi k hl,hr,Ext.refl w g⟩) h
def G.raise (g:G) (b k:Nat):G:={ g with φ:=fun x=>if x=b then some k else g.φ x }
theorem ghost_freeze (d:Nat) {l n e s:Nat} {cs:List LV} (hd:fr d=.ms l 0 n) (hl:st.H l=.box e s cs) (hn:n * s≤cs.length) (a:Act) (w:World) (g:G) (hi:Inv w g st) (hr:RepF w g a fr):
 ∃ g',Inv w g' (st.set l .dead)∧RepF w g' a (upd fr d (.sl 0 n (cs.take (n * s))))∧Ext w g w g':=by
 have hlt:l < st.next:=box_lt hi hl (by simp)
 obtain ⟨q1,q2,q3⟩:=hi.box l e s cs hl
 have h1:=hr d
 rw [hd] at h1
 simp only [Rep] at h1
 obtain ⟨A,cap,hv,hnc,hcm,hA,hA',_⟩:=h1
 cases hnl:g.nl l with
 | true=>
   obtain ⟨hk0,rfl⟩:=q2 hnl
   refine ⟨g,hi.drop l hlt,repF_upd hr d ?_,Ext.refl w g⟩
   simp only [Rep]
   exact ⟨A,cap,hv,hnc,⟨hcm,fun _=>(hA trivial).1.trans hk0⟩,fun h=>absurd rfl h,fun h=>absurd (by simp) h⟩
 | false=>
   obtain ⟨cur,k1,k2,k3,k4,k5⟩:=q3 hnl
   have he:Ext w g w (g.raise (g.β l) (n * s)):=by
    refine ⟨rfl,rfl,rfl,Nat.le_refl _,Nat.le_refl _,fun _ _=>rfl,fun _ _=>rfl,fun _ _=>rfl,?_,?_⟩
    ·intro b hb hn
     have hne:b≠g.β l:=by rintro rfl;rw [k5] at hn;cases hn
     exact ⟨by simp [G.raise,hne,hn],rfl⟩
    ·intro b k hb hk
     by_cases hne:b=g.β l
     ·subst hne
      rw [k5] at hk;injection hk with hk;subst hk
      exact ⟨n * s,by simp [G.raise],Nat.zero_le _,fun o ho=>absurd ho (Nat.not_lt_zero _)⟩
     ·exact ⟨k,by simp [G.raise,hne,hk],Nat.le_refl _,fun _ _=>rfl⟩
   have hd':=hi.drop l hlt
   have hne:∀ x,blk g (st.set l .dead) x→g.β x≠g.β l:=by
    intro x hx hh
    have hx':x≠l∧blk g st x:=by
     unfold blk at hx ⊢
     simp only [St.set] at hx
     by_cases e0:x=l
     ·simp [e0] at hx
     ·rw [if_neg e0] at hx;exact ⟨e0,hx⟩
    exact hx'.1 (hi.inj x l hx'.2 (by unfold blk;rw [hl];exact hnl) hh)
   refine ⟨g.raise (g.β l) (n * s),⟨hd'.next,hd'.pos,hd'.fresh,hd'.lt,hd'.inj,?_,?_,fun x ag ks es hx=>(hd'.mp x ag ks es hx).keep he (hd'.map_lt hx) rfl (by simp only [G.raise];rw [if_neg (hne x (hd'.map_blk hx))]),fun x e n hx=>(hd'.qu x e n hx).keep he (hd'.que_lt hx) rfl (by simp only [G.raise];rw [if_neg (hne x (hd'.que_blk hx))]),hd'.aside.keep he fun _ _=>rfl⟩,repF_upd (hr.mono he) d ?_,he⟩
   ·intro x e' s' n' hx
    obtain ⟨z1,z2,z3,z4⟩:=hd'.own x e' s' n' hx
    refine ⟨z1,z2,z3,fun hxn=>?_⟩
    obtain ⟨c',y1,y2,y3⟩:=z4 hxn
    have hxne:=hne x (by unfold blk;rw [hx];exact hxn)
    exact ⟨c',y1,y2,by simp only [G.raise];rw [if_neg hxne];exact y3⟩
   ·intro x e' s' cs' hx
    obtain ⟨z1,z2,z3⟩:=hd'.box x e' s' cs' hx
    refine ⟨z1,z2,fun hxn=>?_⟩
    obtain ⟨c',y1,y2,y3,y4,y5⟩:=z3 hxn
    have hxne:=hne x (by unfold blk;rw [hx];exact hxn)
    exact ⟨c',y1,y2,y3,RepL.mono he _ _ y4,by simp only [G.raise];rw [if_neg hxne];exact y5⟩
   ·obtain rfl:=(hA trivial).2 hnl
    simp only [Rep]
    refine ⟨_,cap,hv,hnc,⟨hcm,by simp⟩,fun h=>absurd rfl h,fun _=>⟨g.β l,0,rfl,repRow_of _ (cur.take (n * s)) 0 ?_ (fun j hj=>?_) (fun j hj=>?_)⟩⟩
    ·have:=repL_take (n * s) _ _ k4
     rw [List.take_take,Nat.min_eq_left hn] at this
     exact RepL.mono he _ _ this
    ·rw [cell_of_row w _ _ _ _ _ k1,Nat.zero_add]
     simp only [List.length_take] at hj
     simp [show j < n * s by omega]
    ·intro k hk
     simp [G.raise] at hk
     simp only [List.length_take] at hj
     omega
theorem awp_freeze (d:Nat) {l n e s:Nat} {cs:List LV} (hd:fr d=.ms l 0 n) (hl:st.H l=.box e s cs) (hn:n * s≤cs.length) (h:AWp P N c Q (upd fr d (.sl 0 n (cs.take (n * s)))) (st.set l .dead)):AWp P N c Q fr st:=
 awp_ghost (fun a w g hi hr _=>ghost_freeze d hd hl hn a w g hi hr) h
end
section
variable {P:Program} {T:Tab}
def frame0 (args:List LV):Frm:=fun i=>args.getD i .dead
def resOne (T:Tab) (fr:Frm) (st:St):ResultVar→Option ARes
 | .tmp t=>some ⟨True,fr t,st⟩
 | .cell a t=>loadL T t (fr a) st
def resLs (T:Tab) (fr:Frm) (st:St):List ResultVar→Option (Prop×List LV)
 | []=>some (True,[])
 | r::rs=>match resOne T fr st r,resLs T fr st rs with
   | some x,some (c,l)=>some (x.c∧c,x.v::l)
   | _,_=>none
def one (l:List LV):LV:=match l with | [x]=>x | l=>.tu l
def resK (T:Tab) (Q:LV→St→Prop) (fr:Frm) (st:St) (rs:List ResultVar):Prop:=
 match resLs T fr st rs with
 | some (c,l)=>c∧Q (one l) st
 | none=>False
def Body (T:Tab) (rs:List ResultVar) (Q:LV→St→Prop):AQ:=fun e fr st=>match e with
 | .normal=>resK T Q fr st rs
 | .ret=>resK T Q fr st rs
 | _=>False
theorem body_ret {rs:List ResultVar} {Q:LV→St→Prop} {fr:Frm} {st:St}:Body T rs Q .ret fr st=resK T Q fr st rs:=rfl
theorem body_normal {rs:List ResultVar} {Q:LV→St→Prop} {fr:Frm} {st:St}:Body T rs Q .normal fr st=resK T Q fr st rs:=rfl
theorem resLs_sound (hT:TabOk P T) {w:World} {g:G} {a:Act} {fr:Frm} {st:St} (hi:Inv w g st) (hr:RepF w g a fr):∀ (rs:List ResultVar) (c:Prop) (l:List LV),resLs T fr st rs=some (c,l)→c→
 ∃ vs:List Value,(rs.mapM fun | .tmp t=>pure (a.tmps.getD t undef) | .cell x t=>do loadVar t (← asAddr (a.tmps.getD x undef)):Sem (List Value)).run P w=.ok vs w∧RepL w g l vs
 | [],c,l,h,_=>by
   simp only [resLs,Option.some.injEq,Prod.mk.injEq] at h
   obtain ⟨_,rfl⟩:=h
   exact ⟨[],by simp,by simp only [RepL]⟩
 | r::rs,c,l,h,hc=>by
   simp only [resLs] at h
   split at h
   ·rename_i x c' l' hx hl
    simp only [Option.some.injEq,Prod.mk.injEq] at h
    obtain ⟨rfl,rfl⟩:=h
    obtain ⟨vs,h1,h2⟩:=resLs_sound hT hi hr rs c' l' hl hc.2
    cases r with
    | tmp t=>
      simp only [resOne,Option.some.injEq] at hx
      subst hx
      refine ⟨a.tmps.getD t undef::vs,?_,by simp only [RepL];exact ⟨_,_,rfl,hr t,h2⟩⟩
      simp only [List.mapM_cons,Sem.run_bind,Sem.run_pure,Result.andThen_ok,h1]
    | cell q t=>
      simp only [resOne] at hx
      obtain ⟨_,u,k1,k2⟩:=load_sound hT hi hx hc.1 (hr q)
      refine ⟨u::vs,?_,by simp only [RepL];exact ⟨_,_,rfl,k2,h2⟩⟩
      have hp:∃ ad,a.tmps.getD q undef=.pointer (some ad):=by
       unfold loadL at hx
       cases hpc:ptrCells st (fr q) with
       | none=>rw [hpc] at hx;simp at hx
       | some cs=>
         obtain ⟨b,o,vs,hv,_⟩:=ptr_src hi hpc (hr q)
         exact ⟨_,hv⟩
      obtain ⟨ad,hp⟩:=hp
      rw [hp] at k1
      simp only [Instr.loadAt,Instr.sureAddr,Sem.run_bind,Sem.run_pure,Result.andThen_ok] at k1
      have hq:(asAddr (.pointer (some ad)):Sem Addr)=pure ad:=rfl
      simp only [List.mapM_cons,Sem.run_bind,Sem.run_pure,Result.andThen_ok,hp,hq,k1,h1]
   ·simp at h
theorem qO (hT:TabOk P T) {f:FuncId} {fn:Func} {c:Code} {args:List LV} {st:St} {Q:LV→St→Prop} {N:Nat} {rs:List ResultVar} (hf:P.funcs[f]?=some fn) (hb:fn.body=some c)
 (hname:(fn.name== "runtime.NumGoroutine")=false) (hN:fn.ntmps=N) (hrs:fn.results.toList=rs) (hlen:args.length≤N) (h:AWp P N c (AK P N (Body T rs Q) []) (frame0 args) st):ACalls P f args st Q:=by
 refine ⟨enters_of hf hname hb,fun w g vs hi hr=>?_⟩
 subst hN hrs
 have hl:=repL_length _ _ hr
 refine calls_of_wp hf hb ?_
 have hsz:(vs.toArray++Array.replicate (fn.ntmps - vs.toArray.size) undef).size=fn.ntmps:=by simp;omega
 refine Code.wp_mono (fun e a' w' p=>?_) (h { tmps:=vs.toArray++Array.replicate (fn.ntmps - vs.toArray.size) undef,defers:=[] } w g hi ?_ hsz rfl)
 ·obtain ⟨fr',st',g',hq,hi',hr',hs',hd',he⟩:=p
  rw [ak_nil] at hq
  have key:resK T Q fr' st' fn.results.toList→a'.defers=[]∧∃ v,(results fn a'.tmps).run P w'=.ok v w'∧(∃ v_1 r st' g',Ending.returned v=.returned v_1∧Q r st'∧Rep w' g' r v_1∧Inv w' g' st'∧Ext w g w' g'):=by
   intro hk
   unfold resK at hk
   cases hres:resLs T fr' st' fn.results.toList with
   | none=>rw [hres] at hk;exact hk.elim
   | some p=>
     obtain ⟨c,l⟩:=p
     rw [hres] at hk
     obtain ⟨us,h1,h2⟩:=resLs_sound hT hi' hr' _ c l hres hk.1
     have hrun:(results fn a'.tmps).run P w'=.ok (if h:us.toArray.size=1 then us.toArray[0] else .tuple us.toArray) w':=by
      unfold results
      rw [Sem.run_bind,Array.mapM_eq_mapM_toList,Sem.run_map]
      exact congrArg (fun r:Result (List Value)=>(r.andThen fun a w'=>Result.ok a.toArray w').andThen fun a w'=>Sem.run P (pure (if h:a.size=1 then a[0] else Value.tuple a)) w') h1
     refine ⟨hd',_,hrun,_,_,st',g',rfl,hk.2,?_,hi',he⟩
     unfold one
     split
     ·rename_i x
      simp only [RepL] at h2
      obtain ⟨v,us',rfl,k1,rfl⟩:=h2
      simpa using k1
     ·rename_i hne
      have:us.length≠1:=by
       intro h1
       rw [← repL_length _ _ h2] at h1
       match l,h1 with
       | [x],_=>exact hne x rfl
      rw [dif_neg (by simpa using this)]
      simp only [Rep]
      exact ⟨us,rfl,h2⟩
  cases e with
  | normal=>exact key hq
  | ret=>exact key hq
  | _=>exact hq.elim
 ·intro i
  unfold frame0
  by_cases hi2:i < args.length
  ·have h1:args.getD i .dead=args[i]:=by simp [List.getD,hi2]
   obtain ⟨v,hv,hrv⟩:=repL_get i args vs args[i] hr (List.getElem?_eq_getElem hi2)
   rw [h1]
   have:(vs.toArray++Array.replicate (fn.ntmps - vs.toArray.size) undef).getD i undef=v:=by
    rw [Array.getD_eq_getD_getElem?,Array.getElem?_append_left (by simp;omega)]
    simp [hv]
   simp only [this]
   exact hrv
  ·have h1:args.getD i .dead=.dead:=by simp [List.getD,List.getElem?_eq_none (Nat.le_of_not_lt hi2)]
   rw [h1]
   simp only [Rep]
theorem acalls_norm {f:FuncId} {args:List LV} {st:St} {Q:LV→St→Prop} (h:ACalls P f args st fun r st'=>Q (norm r) st'):ACalls P f args st Q:=by
 refine ⟨h.1,fun w g vs hi hr=>(h.2 w g vs hi hr).mono ?_⟩
 rintro e w' ⟨v,r,st',g',rfl,hq,hrep,hi',he⟩
 exact ⟨v,norm r,st',g',rfl,hq,rep_norm hrep,hi',he⟩
theorem acalls_nilM (e s:Nat) {f:FuncId} {args:List LV} {st:St} {Q:LV→St→Prop} (h:ACalls P f args st fun r st'=>(r=.nil∧Q (.ms st'.next 0 0) (st'.new (.box e s [])))∨Q r st'):ACalls P f args st Q:=by
 refine ⟨h.1,fun w g vs hi hr=>(h.2 w g vs hi hr).mono ?_⟩
 rintro x w' ⟨v,r,st',g',rfl,hq,hrep,hi',he⟩
 rcases hq with ⟨rfl,hq⟩ | hq
 ·refine ⟨v,_,_,g'.addNil,rfl,hq,?_,inv_nil hi' _ (.inr ⟨e,s,rfl⟩),he.trans (ext_nil w' g')⟩
  simp only [Rep] at hrep
  subst hrep
  simp only [Rep,G.addNil,hi'.next]
  exact ⟨none,0,rfl,Nat.le_refl _,Nat.zero_le _,by simp,by simp,by omega⟩
 ·exact ⟨v,r,st',g',rfl,hq,hrep,hi',he⟩
theorem acalls_freeze {f:FuncId} {args:List LV} {st:St} {Q:LV→St→Prop} (h:ACalls P f args st fun r st'=>∃ l n e s cs,r=.ms l 0 n∧st'.H l=.box e s cs∧n * s≤cs.length∧Q (.sl 0 n (cs.take (n * s))) (st'.set l .dead)):ACalls P f args st Q:=by
 refine ⟨h.1,fun w g vs hi hr=>(h.2 w g vs hi hr).mono ?_⟩
 rintro x w' ⟨v,r,st',g',rfl,⟨l,n,e,s,cs,rfl,hl,hn,hq⟩,hrep,hi',he⟩
 obtain ⟨g2,h1,h2,h3⟩:=ghost_freeze (fr:=upd (fun _=>.dead) 0 (.ms l 0 n)) 0 rfl hl hn { tmps:=#[v],defers:=[] } w' g' hi' (by
  intro j
  unfold upd
  by_cases hj:j=0
  ·subst hj;rw [if_pos rfl];exact hrep
  ·rw [if_neg hj];simp only [Rep])
 exact ⟨v,_,_,g2,rfl,hq,h2 0,h1,he.trans h3⟩
theorem calls_of_acalls {f:FuncId} {args:List LV} {vs:List Value} {w:World} {R:Value→Prop} (hG:GlobOk w ⟨1,fun _=>none,fun _=>0,fun _=>0,fun _=>false⟩) (hr:RepL w ⟨1,fun _=>none,fun _=>0,fun _=>0,fun _=>false⟩ args vs)
 (h:ACalls P f args ⟨1,fun _=>.dead⟩ fun r _=>∃ v,r=.atom v∧R v):Calls P f vs.toArray w fun e w'=>(∃ v,e=.returned v∧R v)∧Below w.heap.size w w':=by
 have hi:Inv w ⟨1,fun _=>none,fun _=>0,fun _=>0,fun _=>false⟩ ⟨1,fun _=>.dead⟩:=by
  refine ⟨rfl,by decide,fun _ _=>rfl,fun l hl=>hl.elim,fun l l' hl=>hl.elim,fun l e s n hl=>(by cases hl),fun l e s cs hl=>(by cases hl),fun l ag ks es hl=>(by cases hl),fun l e n hl=>(by cases hl),aside_bare hG fun _=>rfl⟩
 refine (h.2 w _ vs hi hr).mono ?_
 rintro e w' ⟨v,r,st',g',rfl,⟨v',rfl,hv'⟩,hrep,_,he⟩
 simp only [Rep] at hrep
 subst hrep
 exact ⟨⟨_,rfl,hv'⟩,⟨he.os,he.tape,he.output,he.size,fun k hk=>(he.still k hk rfl).2⟩⟩
end
end Go.Proofs.YtiiejclelbilkaaGreatDoor.Aw
