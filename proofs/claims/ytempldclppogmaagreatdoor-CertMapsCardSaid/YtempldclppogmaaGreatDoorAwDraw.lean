/- Regions whose order is open, at large: what only looks is taken as soon as it may come; the rest one behind the other. No program is named here. -/
import Derived.Test.YtempldclppogmaaGreatDoorAwRun
import Derived.Orders
set_option linter.unusedVariables false
set_option linter.unusedSimpArgs false
namespace Go.Proofs.YtempldclppogmaaGreatDoor.Aw
open Go Go.RowKit
def dQ:Op→Bool
 |.load ..=>true
 |.lookup ..=>true
 |.call { callee:=.builtin .len,.. }=>true
 |_=>false
def aJd:LV→LV
 |.mp l=>.pt l 0
 |_=>.ep []
section
variable {P:Program} {T:Tab} {N:Nat} {ops:Array Oper} {M:List Nat}
def gR(P:Program)(T:Tab)(ops:Array Oper)(M:List Nat)(o:Oper)(K:Frm→St→Prop)(fr:Frm)(st:St):Prop:=
 match bB ops fr o.guard with
 |some b=>(b=true→(match o.op with
   |.call { callee:=.value x,args:=args,argTypes:=_ }=>match dR (aH fr x) with
    |some (f,caps)=>∃ R,aB P f ((args.toList.map (aH fr))++caps) st R∧∀ r st',R r st'→K (bK fr o.dst r) st'
    |none=>False
   |_=>match aop T (inM M o.dst) o fr st with
    |some r=>r.c∧K (bK fr o.dst r.v) r.s
    |none=>False))∧(b=false→K (bK fr o.dst (.tu [])) st)
 |none=>False
theorem gR.mono{o:Oper}{K K':Frm→St→Prop}{fr:Frm}{st:St}(hk:∀ fr st,K fr st→K' fr st)(h:gR P T ops M o K fr st):gR P T ops M o K' fr st:=by
 unfold gR at h ⊢
 cases hw:bB ops fr o.guard with
 |none=>rw[hw]at h;exact h
 |some b=>
  rw[hw]at h
  refine⟨fun hb=>?_,fun hb=>hk _ _ (h.2 hb)⟩
  have h1:=h.1 hb
  split at h1
  ·split at h1
   ·obtain⟨R,hR,hn⟩:=h1
    exact⟨R,hR,fun r st' hr=>hk _ _ (hn r st' hr)⟩
   ·exact h1
  ·split at h1
   ·exact⟨h1.1,hk _ _ h1.2⟩
   ·exact h1
def iB(ops:Array Oper)(j:Nat):Bool:=
 match ops[j]? with
 |none=>false
 |some oj=>(List.range ops.size).any fun i=>i != j&&((ops[i]?).map fun oi=>dQ oi.op).getD false&&!(oj.after.any fun e=>Region.binds .any e&&e.on==i)
def Kx(ops:Array Oper)(S:St→Prop)(i:Nat)(o:Oper)(st st':St):Prop:=if aS o.op=true then st'=st else(iB ops i=true→S st')
def gN(P:Program)(T:Tab)(ops:Array Oper)(M:List Nat)(S:St→Prop)(J:Frm→St→Prop):Nat→Array Bool→Frm→St→Prop
 |0,listed,fr,st=>Region.ready .any ops listed=[]∧J fr st
 |fuel+1,listed,fr,st=>(Region.ready .any ops listed=[]→J fr st)∧
  ∀ i∈Region.ready .any ops listed,∃ o,ops[i]?=some o∧gR P T ops M o (fun fr' st'=>Kx ops S i o st st'∧gN P T ops M S J fuel (listed.setIfInBounds i true) fr' st') fr st
theorem tC(hT:bC P T){o:Oper}{Q:Exit→Act→World→Prop}{K:Frm→St→Prop}{K':Act→World→Prop}{w0:World}{g0:G}{fr:Frm}{st:St}{a:Act}{w:World}{g:G}{i:Nat}(ho:ops[i]?=some o)
 (hdst:jR N o.dst=true) (hgd:gE N ops o.guard=true) (hi:Inv w g st) (hr:bS w g a fr) (hs:a.tmps.size=N) (hd:a.defers=[]) (he0:Ext w0 g0 w g)
 (hK:∀ fr' st' a' w' g',Inv w' g' st'→bS w' g' a' fr'→a'.tmps.size=N→a'.defers=[]→Ext w0 g0 w' g'→K fr' st'→K' a' w') (h:gR P T ops M o K fr st):wpOp P ops Q i K' a w:=by
 unfold gR at h
 unfold wpOp
 simp only[ho]
 cases hw:bB ops fr o.guard with
 |none=>rw[hw]at h;exact h.elim
 |some b=>
  rw[hw]at h
  have hwt:Region.wanted o (yielded ops a.tmps)=b:=dO hr hw (by rw[hs];exact gB hgd)
  rw[hwt]
  cases b with
  |false=>
   simp only[Bool.false_eq_true,if_false]
   exact hK _ _ _ _ g hi (dF hr (by rw[hs];exact hdst) sF) (by rw[aT];exact hs) (by rw[put_defers];exact hd) he0 (h.2 rfl)
  |true=>
   simp only[if_true]
   left
   have h1:=h.1 rfl
   unfold Oper.wp
   split at h1
   ·rename_i x args tys hop
    split at h1
    ·rename_i f caps hf
     obtain⟨R,hR,hn⟩:=h1
     have hx:=aD hr x
     revert hf hx
     cases hev:aH fr x with
     |fn f' caps'=>
      cases f' with
      |func f'=>
       intro hf hx
       simp only[dR,Option.some.injEq,Prod.mk.injEq]at hf
       obtain⟨rfl,rfl⟩:=hf
       simp only[Rep]at hx
       obtain⟨us,hx,hus⟩:=hx
       have hrun:(execOp a.eval o).run P w=.ok (.enter f' ((args.toList.map a.eval++us).toArray)) w:=by
        unfold execOp
        simp only[hop,resolve,invoke,hx,Deferred.ofValue,Sem.run_bind,Sem.run_pure,Result.andThen_ok]
        simp only[Array.empty_append]
        rw[hR.1]
        simp
       rw[hrun,Oper.upon_enter]
       refine(hR.2 w g _ hi (bP _ _ _ _ (wY hr args.toList) hus)).mono ?_
       rintro e w' ⟨v,r,st',g',rfl,hq,hv,hi',he⟩
       exact hK _ _ _ _ g' hi' (dF (hr.mono he) (by rw[hs];exact hdst) hv) (by rw[aT];exact hs) (by rw[put_defers];exact hd) (he0.trans he) (hn r st' hq)
      |_=>intro hf;simp[dR]at hf
     |_=>intro hf;simp[dR]at hf
    ·exact h1.elim
   ·split at h1
    ·rename_i r hr'
     obtain⟨x,w',g',hrun,hx,hi',he,_⟩:=rI (N:=N) hT hr' h1.1 a w g hi hr hs
     rw[hrun]
     rcases hx with⟨v,rfl,hv⟩|⟨rfl,hdead⟩
     ·rw[Oper.upon_value]
      exact hK _ _ _ _ g' hi' (dF (hr.mono he) (by rw[hs];exact hdst) hv) (by rw[aT];exact hs) (by rw[put_defers];exact hd) (he0.trans he) h1.2
     ·rw[Oper.upon_skip]
      rw[hdead]at h1
      exact hK _ _ _ _ g' hi' (dF (hr.mono he) (by rw[hs];exact hdst) (by simp only[Rep])) (by rw[aT];exact hs) (by rw[put_defers];exact hd) (he0.trans he) h1.2
    ·exact h1.elim
theorem kX(hT:bC P T){S:St→Prop}{J:Frm→St→Prop}{Q:AQ}(hk:cE N ops ops.toList=true)(hJ:∀ fr st,J fr st→Q .normal fr st){w0:World}{g0:G}:
 ∀(fuel:Nat) (listed:Array Bool) (fr:Frm) (st:St) (a:Act) (w:World) (g:G),Inv w g st→bS w g a fr→a.tmps.size=N→a.defers=[]→Ext w0 g0 w g→
  gN P T ops M S J fuel listed fr st→wpAny P .any ops (iI N Q w0 g0) fuel listed a w
 |0,listed,fr,st,a,w,g,hi,hr,hs,hd,he,h=>⟨h.1,fr,st,g,hJ _ _ h.2,hi,hr,hs,hd,he⟩
 |fuel+1,listed,fr,st,a,w,g,hi,hr,hs,hd,he,h=>by
  refine⟨fun h0=>⟨fr,st,g,hJ _ _ (h.1 h0),hi,hr,hs,hd,he⟩,fun i hmem=>?_⟩
  obtain⟨o,ho,hst⟩:=h.2 i hmem
  have hko:jR N o.dst=true∧gE N ops o.guard=true:=by
   unfold cE at hk
   rw[List.all_eq_true]at hk
   have:=hk o (Array.mem_toList_iff.2 (Array.mem_of_getElem? ho))
   simpa using this
  exact tC (N:=N) hT ho hko.1 hko.2 hi hr hs hd he (fun fr' st' a' w' g' hi' hr' hs' hd' he' hK=>kX hT hk hJ fuel _ fr' st' a' w' g' hi' hr' hs' hd' he' hK.2) hst
theorem aGU{fr:Frm}{d:Option Nat}{v:LV}{x:Operand}(h:∀ t,d=some t→x≠.tmp t):aH (bK fr d v) x=aH fr x:=by
 cases d with
 |none=>rfl
 |some d=>
  cases x with
  |tmp t=>
   have:t≠d:=fun e=>h d rfl (by rw[e])
   simp[aH,bK,upd,this]
  |_=>rfl
theorem zW{m:Bool}{o:Oper}{fr fr':Frm}{st:St}(h:∀ x∈o.op.operands,aH fr x=aH fr' x):aop T m o fr st=aop T m o fr' st:=by
 obtain⟨dst,op,ty,pos,after,guard⟩:=o
 simp only at h
 cases op<;>simp only[aop,Op.operands]at h ⊢<;>try rfl
 case move x=>rw[h x sS]
 case assign x=>rw[h x sS]
 case pick c a b=>rw[h c sS,h a sS,h b sS]
 case binOp op t x y t'=>rw[h x sS,h y sS]
 case unOp op t x=>rw[h x sS]
 case convert s d x=>rw[h x sS]
 case load t x=>rw[h x sS]
 case store t x v=>rw[h x sS,h v sS]
 case indexAddr t x i=>rw[h x sS,h i sS]
 case fieldAddr t x f=>rw[h x sS]
 case field t x f=>rw[h x sS]
 case slice t x lo hi mx=>
  rw[h x sS]
  have h1:lo.map (aH fr)=lo.map (aH fr'):=by cases lo with|none=>rfl|some y=>simp only[Option.map_some];rw[h y sS]
  have h2:hi.map (aH fr)=hi.map (aH fr'):=by cases hi with|none=>rfl|some y=>simp only[Option.map_some];rw[h y sS]
  have h3:mx.map (aH fr)=mx.map (aH fr'):=by cases mx with|none=>rfl|some y=>simp only[Option.map_some];rw[h y sS]
  rw[h1,h2,h3]
 case box t x=>rw[h x sS]
 case build t ps=>
  have:(ps.toList.map fun p=>(p.1,aH fr p.2))=ps.toList.map fun p=>(p.1,aH fr' p.2):=List.map_congr_left fun p hp=>by
   rw[h p.2 (by simp;exact⟨p.1,by simpa using hp⟩)]
  rw[this]
 case buildSlice t n ps=>
  have:(ps.toList.map fun p=>(p.1,aH fr p.2))=ps.toList.map fun p=>(p.1,aH fr' p.2):=List.map_congr_left fun p hp=>by
   rw[h p.2 (by simp;exact⟨p.1,by simpa using hp⟩)]
  rw[this]
 case makeFunc f first caps=>
  have:caps.toList.map (aH fr)=caps.toList.map (aH fr'):=List.map_congr_left fun p hp=>h p (by simp;right;simpa using hp)
  rw[this]
 case extract x i=>rw[h x sS]
 case nilCheck x=>rw[h x sS]
 case lookup t x i ok=>rw[h x sS,h i sS]
 case index t x i=>rw[h x sS,h i sS]
 case mapUpdate t x i v=>rw[h x sS,h i sS,h v sS]
 case insert t x i v=>rw[h x sS,h i sS,h v sS]
 case makeSlice t l c=>rw[h l sS,h c sS]
 case makeMap t r=>
  have h1:r.map (aH fr)=r.map (aH fr'):=by cases r with|none=>rfl|some y=>simp only[Option.map_some];rw[h y sS]
  rw[h1]
 case call c=>
  obtain⟨callee,args,tys⟩:=c
  obtain⟨args⟩:=args
  have ha:∀ x∈args,aH fr x=aH fr' x:=fun x hx=>h x (by simp[Call.operands];right;exact hx)
  clear h
  unfold aAp
  split<;>simp_all
def iY(T:Tab)(ops:Array Oper)(M:List Nat)(S:St→Prop)(o:Oper)(v:LV)(fr:Frm):Prop:=
 (bB ops fr o.guard=some true∧aS o.op=true∧∀ st,S st→∃ r,aop T (inM M o.dst) o fr st=some r∧r.c∧r.v=v∧r.s=st)∨(bB ops fr o.guard=some false∧v=.tu [])
theorem iY.step{S:St→Prop}{o:Oper}{v:LV}{fr:Frm}{st:St}{K:Frm→St→Prop}(hy:iY T ops M S o v fr)(hS:S st)(h:K (bK fr o.dst v) st):gR P T ops M o K fr st:=by
 unfold gR
 rcases hy with⟨hw,hq,hv⟩|⟨hw,rfl⟩
 ·rw[hw]
  refine⟨fun _=>?_,(fun hb=>by cases hb)⟩
  obtain⟨r,h1,h2,h3,h4⟩:=hv st hS
  split
  ·rename_i hop;rw[hop]at hq;simp[aS]at hq
  ·rw[h1]
   exact⟨h2,by rw[h3,h4];exact h⟩
 ·rw[hw]
  exact⟨(fun hb=>by cases hb),fun _=>h⟩
theorem sO{o:Oper}{fr:Frm}{d:Option Nat}{v:LV}(h:∀ t,d=some t→t∉o.looksAt ops):∀ x∈o.op.operands,aH (bK fr d v) x=aH fr x:=by
 intro x hx
 refine aGU fun t ht hxt=>h t ht ?_
 subst hxt
 exact List.mem_append_left _ (List.mem_filterMap.2 ⟨.tmp t,by simpa using hx,rfl⟩)
theorem jH{o:Oper}{fr:Frm}{d:Option Nat}{v:LV}(h:∀ t,d=some t→t∉o.looksAt ops):bB ops (bK fr d v) o.guard=bB ops fr o.guard:=by
 cases d with
 |none=>rfl
 |some d=>
  unfold bB
  cases hg:o.guard with
  |none=>rfl
  |some p=>
   obtain⟨j,want⟩:=p
   simp only
   cases hd:(ops[j]?).bind (·.dst) with
   |none=>rfl
   |some t=>
    have hne:t≠d:=by
     rintro rfl
     refine h t rfl (List.mem_append_right _ ?_)
     simp[hg,hd]
    simp[bK,upd,hne]
theorem iY.keep{S:St→Prop}{o:Oper}{v:LV}{fr:Frm}(hy:iY T ops M S o v fr){d:Option Nat}(h:∀ t,d=some t→t∉o.looksAt ops)(u:LV):iY T ops M S o v (bK fr d u):=by
 rcases hy with⟨hw,hq,hv⟩|⟨hw,rfl⟩
 ·left
  refine⟨by rw[jH h];exact hw,hq,fun st hS=>?_⟩
  rw[zW (sO h)]
  exact hv st hS
 ·right
  exact⟨by rw[jH h];exact hw,rfl⟩
theorem aGQ{fr:Frm}{d e:Option Nat}{u v:LV}(h:∀ t,d=some t→e≠some t):bK (bK fr d u) e v=bK (bK fr e v) d u:=by
 cases d with
 |none=>rfl
 |some d=>
  cases e with
  |none=>rfl
  |some e=>
   have hne:e≠d:=fun h0=>h d rfl (by rw[h0])
   funext i
   simp only[bK,upd]
   by_cases h1:i=e
   ·subst h1;simp[hne]
   ·by_cases h2:i=d
    ·simp[h1,h2,Ne.symm hne]
    ·simp[h1,h2]
theorem aGC{S:St→Prop}{oi oj:Oper}{v:LV}(hap:oi.apart ops oj=true){K:Frm→St→Prop}{fr:Frm}{st:St}(hy:iY T ops M S oi v fr)
 (h:gR P T ops M oj K (bK fr oi.dst v) st):gR P T ops M oj (fun fr' st'=>iY T ops M S oi v fr'∧K (bK fr' oi.dst v) st') fr st:=by
 obtain⟨h1,h2,h3⟩:=Oper.apart_spec hap
 have hev:=sO (fr:=fr) (v:=v) h1
 unfold gR at h ⊢
 rw[jH h1]at h
 cases hw:bB ops fr oj.guard with
 |none=>rw[hw]at h;exact h
 |some b=>
  rw[hw]at h
  have hk:∀ r,bK (bK fr oi.dst v) oj.dst r=bK (bK fr oj.dst r) oi.dst v:=fun r=>aGQ h2
  refine⟨fun hb=>?_,fun hb=>⟨hy.keep h3 _,by rw[← hk];exact h.2 hb⟩⟩
  have g:=h.1 hb
  split at g
  ·rename_i x args tys hop
   simp only
   have hx:aH (bK fr oi.dst v) x=aH fr x:=hev x (by rw[hop];simp[Op.operands,Call.operands])
   have hargs:(args.toList.map (aH (bK fr oi.dst v)))=args.toList.map (aH fr):=List.map_congr_left fun y hy'=>by
    rw[hev y (by rw[hop];simp[Op.operands,Call.operands];right;simpa using hy')]
   rw[hx,hargs]at g
   split at g
   ·obtain⟨R,hR,hn⟩:=g
    exact⟨R,hR,fun r st' hr=>⟨hy.keep h3 _,by rw[← hk];exact hn r st' hr⟩⟩
   ·exact g
  ·rename_i hnc
   rw[zW hev]at g
   cases hr:aop T (inM M oj.dst) oj fr st with
   |none=>rw[hr]at g;exact g
   |some r=>
    rw[hr]at g
    exact⟨g.1,hy.keep h3 _,by rw[← hk];exact g.2⟩
theorem aKu{i j:Nat}{oi oj:Oper}(hi:ops[i]?=some oi)(hj:ops[j]?=some oj)(hne:j≠i)(hh:dQ oi.op=true)(hno:∀ e∈oj.after,Region.binds .any e=true→e.on≠i):iB ops j=true:=by
 unfold iB
 rw[hj]
 simp only[List.any_eq_true,List.mem_range]
 refine⟨i,(Array.getElem?_eq_some_iff.1 hi).1,?_⟩
 simp only[hi,Option.map_some,Option.getD_some,hh,Bool.and_true,Bool.and_eq_true,bne_iff_ne,ne_eq,Bool.not_eq_true']
 refine⟨fun h=>hne h.symm,?_⟩
 rw[Array.any_eq_false']
 intro e he
 simp only[Bool.and_eq_true,beq_iff_eq,not_and]
 exact fun hb=>hno e he hb
theorem fX{S:St→Prop}{J:Frm→St→Prop}{i:Nat}{oi:Oper}{v:LV}(hi:ops[i]?=some oi):
 ∀(fuel:Nat) (listed:Array Bool) (fr:Frm) (st:St),
  (∀ j oj,ops[j]?=some oj→j≠i→listed.getD j true=false→(∀ e∈oj.after,Region.binds .any e=true→e.on≠i)→oi.apart ops oj=true)→
  i∈Region.ready .any ops listed→iY T ops M (fun st=>dQ oi.op=true→S st) oi v fr→(dQ oi.op=true→S st)→aS oi.op=true→
  gN P T ops M S J fuel (listed.setIfInBounds i true) (bK fr oi.dst v) st→gN P T ops M S J (fuel+1) listed fr st:=by
 intro fuel
 induction fuel with
 |zero=>
  intro listed fr st _ hr hy hS hq H
  refine⟨fun h=>(by rw[h]at hr;cases hr),fun j hj=>?_⟩
  by_cases hji:j=i
  ·subst hji;exact⟨oi,hi,hy.step hS ⟨by unfold Kx;rw[if_pos hq],H⟩⟩
  ·have:=ready_mono hj hji
   rw[H.1]at this
   cases this
 |succ fuel ih=>
  intro listed fr st hfree hr hy hS hq H
  refine⟨fun h=>(by rw[h]at hr;cases hr),fun j hj=>?_⟩
  by_cases hji:j=i
  ·subst hji;exact⟨oi,hi,hy.step hS ⟨by unfold Kx;rw[if_pos hq],H⟩⟩
  ·obtain⟨oj',hoj',h1⟩:=H.2 j (ready_mono hj hji)
   obtain⟨hjun,oj,hoj,hall⟩:=mem_ready.1 hj
   have hoo:oj'=oj:=by rw[hoj]at hoj';exact(Option.some.inj hoj').symm
   subst hoo
   have hnot:∀ e∈oj'.after,Region.binds .any e=true→e.on≠i:=fun e he hb heq=>by
    have h1:=hall e he hb
    have h0:=(mem_ready.1 hr).1
    rw[heq]at h1
    rcases Nat.lt_or_ge i listed.size with h'|h'
    ·simp[h']at h0 h1;rw[h0]at h1;cases h1
    ·simp[Array.getElem?_eq_none h']at h1
   have h2:=aGC (hfree j oj' hoj hji hjun hnot) hy h1
   have hfree':∀ k ok,ops[k]?=some ok→k≠i→(listed.setIfInBounds j true).getD k true=false→
    (∀ e∈ok.after,Region.binds .any e=true→e.on≠i)→oi.apart ops ok=true:=fun k ok hk hki hun hno=>by
    refine hfree k ok hk hki ?_ hno
    by_cases hjk:j=k
    ·subst hjk;exact hjun
    ·rw[getD_set_ne true hjk]at hun;exact hun
   refine⟨oj',hoj,h2.mono fun fr' st' h3=>⟨h3.2.1,?_⟩⟩
   refine ih (listed.setIfInBounds j true) fr' st' hfree' (ready_mono hr (Ne.symm hji)) h3.1 (fun hh=>?_) hq ?_
   ·have hk:=h3.2.1
    unfold Kx at hk
    split at hk
    ·rw[hk];exact hS hh
    ·exact hk (aKu hi hoj hji hh hnot)
   ·rw[Array.setIfInBounds_comm _ _ hji]
    exact h3.2.2
def kY(ops:Array Oper):List Nat→Array Bool→Bool
 |[],listed=>(Region.ready .any ops listed).isEmpty
 |i::π,listed=>match ops[i]? with
  |some o=>(if aS o.op then(Region.ready .any ops listed).contains i&&Region.free .any ops listed i else Region.ready .any ops listed==[i])&&kY ops π (listed.setIfInBounds i true)
  |none=>false
def aHT(B:List Nat):LV→Prop
 |.pt l _=>l∈B
 |.ep _=>True
 |_=>False
def jP(fr:Frm):Op→LV
 |.load _ x=>aH fr x
 |.lookup _ x _ _=>aJd (aH fr x)
 |.call { callee:=.builtin .len,args:=⟨x::_⟩,.. }=>aJd (aH fr x)
 |_=>.ep []
def SB(B:List Nat)(st0 st:St):Prop:=∀ l∈B,st.H l=st0.H l
def dM(P:Program)(T:Tab)(ops:Array Oper)(M B:List Nat)(st0:St)(J:Frm→St→Prop):List (Nat×Bool×Oper)→Frm→St→Prop
 |[],fr,st=>J fr st
 |(_,nd,o)::π,fr,st=>match aS o.op with
  |true=>match bB ops fr o.guard with
   |some b=>(b=true→((dQ o.op=true→SB B st0 st)∧aHT B (jP fr o.op)∧match aop T (inM M o.dst) o fr st with
     |some r=>r.c∧dM P T ops M B st0 J π (bK fr o.dst r.v) st
     |none=>False))∧(b=false→(dQ o.op=true→SB B st0 st)∧dM P T ops M B st0 J π (bK fr o.dst (.tu [])) st)
   |none=>False
  |false=>gR P T ops M o (fun fr' st'=>(nd=true→SB B st0 st')∧dM P T ops M B st0 J π fr' st') fr st
theorem lF{o:Oper}{fr:Frm}{m:Bool}{st st':St}{r:bL}(hq:aS o.op=true)(hh:∀ l k,jP fr o.op=.pt l k→st'.H l=st.H l)(h:aop T m o fr st=some r):
 aop T m o fr st'=some (@bL.mk r.c r.v st' r.d):=by
 obtain⟨dst,op,ty,pos,after,guard⟩:=o
 simp only at hq hh
 cases op<;>simp only[aS,Bool.false_eq_true]at hq<;>simp only[aop]at h ⊢
 case move x=>simp only[Option.some.injEq]at h;subst h;rfl
 case assign x=>simp only[Option.some.injEq]at h;subst h;rfl
 case pick c a b=>
  split at h
  ·simp only[Option.some.injEq]at h;subst h;rfl
  ·simp at h
 case binOp op t x y t'=>
  unfold aDD at h ⊢
  split at h
  ·simp only[Option.map_eq_some_iff]at h ⊢
   obtain⟨p,h1,rfl⟩:=h
   exact⟨p,h1,rfl⟩
  ·split at h
   ·simp only[Option.some.injEq]at h;subst h;rfl
   ·simp only[Option.some.injEq]at h;subst h;rfl
   ·simp at h
  ·split at h
   ·split at h
    ·simp only[Option.some.injEq]at h;subst h;simp_all
    ·simp only[Option.some.injEq]at h;subst h;simp_all
    ·simp at h
   ·simp at h
  ·split at h
   ·simp only[Option.some.injEq]at h;subst h;simp_all
   ·simp only[Option.some.injEq]at h;subst h;simp_all
   ·simp at h
  ·split at h
   ·simp only[Option.some.injEq]at h;subst h;simp_all
   ·simp only[Option.some.injEq]at h;subst h;simp_all
   ·simp at h
  ·split at h
   ·simp only[Option.some.injEq]at h;subst h;simp_all
   ·simp only[Option.some.injEq]at h;subst h;simp_all
   ·simp at h
  ·split at h
   ·simp only[Option.some.injEq]at h;subst h;simp_all
   ·simp only[Option.some.injEq]at h;subst h;simp_all
   ·simp at h
  ·simp at h
 case unOp op t x=>
  unfold aMU at h ⊢
  split at h
  ·simp only[Option.some.injEq]at h;subst h;rfl
  ·simp only[Option.some.injEq]at h;subst h;rfl
  ·simp at h
 case convert s d x=>
  split at h
  ·simp only[Option.some.injEq]at h;subst h;rfl
  ·simp at h
 case load t x=>
  unfold wW at h ⊢
  have hp:dJ st' (aH fr x)=dJ st (aH fr x):=by
   cases hx:aH fr x with
   |pt l k=>simp only[dJ];rw[hh l k hx]
   |_=>rfl
  rw[hp]
  split at h
  ·split at h
   ·simp only[Option.some.injEq]at h;subst h;rename_i h1 h2 h3;simp[h3]
   ·simp only[Option.some.injEq]at h;subst h;rename_i h1 h2 h3;simp[h3]
  ·simp at h
 case indexAddr t x i=>
  unfold aKx at h ⊢
  split at h
  ·split at h
   ·split at h
    ·simp only[Option.some.injEq]at h;subst h;rfl
    ·split at h
     ·simp only[Option.some.injEq]at h;subst h;simp_all
     ·simp at h
   ·simp at h
  ·simp at h
 case fieldAddr t x f=>
  unfold iH at h ⊢
  split at h
  ·split at h
   ·split at h
    ·split at h
     ·simp only[Option.some.injEq]at h;subst h;simp_all
     ·simp only[Option.some.injEq]at h;subst h;simp_all
     ·simp only[Option.some.injEq]at h;subst h;rfl
     ·simp at h
    ·simp at h
   ·simp at h
  ·simp at h
 case field t x f=>
  unfold vW at h ⊢
  split at h
  ·split at h
   ·split at h
    ·split at h
     ·simp only[Option.some.injEq]at h;subst h;simp_all
     ·simp only[Option.some.injEq]at h;subst h;simp_all
    ·simp at h
   ·simp at h
  ·simp at h
 case slice t x lo hi mx=>
  unfold yD at h ⊢
  split at h
  ·split at h
   ·split at h
    ·split at h
     ·split at h
      ·simp only[Option.some.injEq]at h;subst h;simp_all
      ·simp at h
     ·split at h
      ·simp only[Option.some.injEq]at h;subst h;simp_all
      ·simp at h
     ·split at h
      ·simp only[Option.some.injEq]at h;subst h;simp_all
      ·simp at h
     ·split at h
      ·simp only[Option.some.injEq]at h;subst h;simp_all
      ·simp at h
     ·split at h
      ·split at h
       ·simp only[Option.some.injEq]at h;subst h;simp_all
       ·simp at h
      ·simp at h
    ·split at h
     ·simp only[Option.some.injEq]at h;subst h;simp_all
     ·split at h
      ·simp only[Option.some.injEq]at h;subst h;simp_all
      ·simp only[Option.some.injEq]at h;subst h;simp_all
      ·simp at h
     ·simp at h
    ·simp at h
   ·simp at h
  ·simp at h
 case extract x i=>
  split at h
  ·split at h
   ·simp only[Option.some.injEq]at h;subst h;simp_all
   ·simp at h
  ·simp at h
 case nilCheck x=>
  split at h
  ·simp only[Option.some.injEq]at h;subst h;rfl
  ·simp only[Option.some.injEq]at h;subst h;rfl
  ·simp at h
 case index t x i=>
  unfold aBJ at h ⊢
  split at h
  ·simp only[Option.some.injEq]at h;subst h;simp_all
  ·simp at h
 case lookup t x i ok=>
  unfold lB at h ⊢
  have hp:∀ l,aH fr x=.mp l→st'.H l=st.H l:=fun l hl=>hh l 0 (by simp[jP,hl,aJd])
  split at h
  ·split at h
   ·split at h
    ·rename_i l hx
     have hq:=hp l hx
     split at h
     ·rename_i hH
      simp only[Option.some.injEq]at h;subst h
      have hH':=hq.trans hH
      clear hq hp hh
      simp_all
     ·simp at h
    ·simp only[Option.some.injEq]at h;subst h;simp_all
    ·simp at h
   ·simp at h
  ·simp at h
 case makeFunc f first caps=>
  split at h
  ·simp only[Option.some.injEq]at h;subst h;simp_all
  ·simp at h
 case call c=>
  obtain⟨callee,args,tys⟩:=c
  unfold aAp at h ⊢
  split at h<;>rename_i hcal _<;>(try simp only at hcal)
  ·rename_i x t' ts hargs htys
   simp only at hargs htys
   have hp:∀ l,aH fr x=.mp l→st'.H l=st.H l:=fun l hl=>hh l 0 (by
    have hargs':args=#[x]:=Array.ext' hcal
    rw[hargs',hargs]
    simp[jP,hl,aJd])
   cases hmk:gK T t' with
   |some p=>
    simp only[hmk]at h ⊢
    unfold aLy at h ⊢
    simp only[hmk]at h ⊢
    split at h
    ·rename_i l _ hx
     have hq:=hp l hx
     split at h
     ·rename_i hH
      simp only[Option.some.injEq]at h;subst h
      have hH':=hq.trans hH
      clear hq hp hh
      simp_all
     ·simp at h
    ·simp at h
   |none=>
   simp only[hmk]at h ⊢
   unfold aLU at h ⊢
   split at h
   ·split at h
    ·simp only[Option.some.injEq]at h;subst h;simp_all
    ·simp only[Option.some.injEq]at h;subst h;simp_all
    ·split at h
     ·simp only[Option.some.injEq]at h;subst h;simp_all
     ·simp at h
   ·simp at h
  ·unfold aMJ at h ⊢
   split at h
   ·simp only[Option.some.injEq]at h;subst h;simp_all
   ·simp at h
  ·unfold aMS at h ⊢
   split at h
   ·simp only[Option.some.injEq]at h;subst h;simp_all
   ·simp at h
  all_goals (first|(exfalso;revert hq;simp_all[aS];done)|(simp at h;done)|(exfalso;simp_all[aS];done))
theorem aBI{fr:Frm}{op:Op}{l k:Nat}(h:jP fr op=.pt l k):dQ op=true:=by
 unfold jP at h
 split at h
 ·rfl
 ·rfl
 ·rfl
 ·cases h
theorem xU{B:List Nat}{st0:St}{J:Frm→St→Prop}:∀(π:List (Nat×Bool×Oper)) (listed:Array Bool) (fr:Frm) (st:St),(∀ p∈π,ops[p.1]?=some p.2.2∧(iB ops p.1=true→p.2.1=true))→kY ops (π.map (·.1)) listed=true→
 dM P T ops M B st0 J π fr st→gN P T ops M (SB B st0) J π.length listed fr st
 |[],listed,fr,st,_,hk,h=>by
  simp only[List.map_nil,kY,List.isEmpty_iff]at hk
  exact⟨hk,h⟩
 |(i,nd,o)::π,listed,fr,st,hp,hk,h=>by
  obtain⟨ho,hnd⟩:ops[i]?=some o∧(iB ops i=true→nd=true):=hp (i,nd,o) sS
  simp only[List.map_cons,kY,ho,Bool.and_eq_true]at hk
  have ih:∀ fr st,(∀ p∈π,ops[p.1]?=some p.2.2∧(iB ops p.1=true→p.2.1=true))→kY ops (π.map (·.1)) (listed.setIfInBounds i true)=true→dM P T ops M B st0 J π fr st→gN P T ops M (SB B st0) J π.length (listed.setIfInBounds i true) fr st:=
   fun fr st=>xU π (listed.setIfInBounds i true) fr st
  have hp':∀ p∈π,ops[p.1]?=some p.2.2∧(iB ops p.1=true→p.2.1=true):=fun p hm=>hp p (by simp[hm])
  unfold dM at h
  cases hq:aS o.op with
  |true=>
   simp only[hq,if_true,Bool.and_eq_true]at hk h
   obtain⟨⟨hrd,hfr⟩,hk⟩:=hk
   cases hw:bB ops fr o.guard with
   |none=>rw[hw]at h;exact h.elim
   |some b=>
    rw[hw]at h
    cases b with
    |false=>
     exact fX ho _ listed fr st (Region.free_spec ho hfr) (by simpa using hrd) (.inr ⟨hw,rfl⟩) (h.2 rfl).1 hq (ih _ _ hp' hk (h.2 rfl).2)
    |true=>
     obtain⟨hS,hpt,h1⟩:=h.1 rfl
     split at h1
     ·rename_i r hr
      refine fX ho _ listed fr st (Region.free_spec ho hfr) (by simpa using hrd) (.inl ⟨hw,hq,fun st' hS'=>?_⟩) hS hq (ih _ _ hp' hk h1.2)
      refine⟨@bL.mk r.c r.v st' r.d,lF hq (fun l k hl=>?_) hr,h1.1,rfl,rfl⟩
      rw[hl]at hpt
      have hh:dQ o.op=true:=aBI hl
      rw[hS' hh l hpt,hS hh l hpt]
     ·exact h1.elim
  |false=>
   simp only[hq,Bool.false_eq_true,if_false]at hk h
   obtain⟨hrd,hk⟩:=hk
   have hrd':Region.ready .any ops listed=[i]:=by simpa using hrd
   refine⟨fun h0=>(by rw[h0]at hrd';cases hrd'),fun j hj=>?_⟩
   rw[hrd']at hj
   obtain rfl:j=i:=by simpa using hj
   refine⟨o,ho,h.mono fun fr' st' hh=>⟨?_,ih _ _ hp' hk hh.2⟩⟩
   unfold Kx
   simp only[hq,Bool.false_eq_true,if_false]
   exact fun hn=>hh.1 (hnd hn)
def pick(ops:Array Oper)(π:List (Nat×Bool)):List (Nat×Bool×Oper):=π.filterMap fun p=>(ops[p.1]?).map fun o=>(p.1,p.2,o)
theorem aHO(hT:bC P T)(M B:List Nat)(π:List (Nat×Bool)){Q:AQ}{id:Nat}{fr:Frm}{st:St}(hm:P.follows .mixedOrders=true)(hk:cE N ops ops.toList=true)
 (hπ:(kY ops ((pick ops π).map (·.1)) (Array.replicate ops.size false)&&((pick ops π).length==ops.size)&&(π.all fun p=>!iB ops p.1||p.2))=true)
 (h:∀ J:Frm→St→Prop,(∀ fr st,Q .normal fr st→J fr st)→dM P T ops M B st J (pick ops π) fr st):AWp P N (.region id ops true) Q fr st:=by
 intro a w g hi hr hs hd
 simp only[Bool.and_eq_true,beq_iff_eq]at hπ
 obtain⟨⟨hπ1,hπ2⟩,hπ3⟩:=hπ
 refine wp_region_any hm ?_
 have hp:∀ p∈pick ops π,ops[p.1]?=some p.2.2∧(iB ops p.1=true→p.2.1=true):=by
  intro p hp
  unfold pick at hp
  simp only[List.mem_filterMap,Option.map_eq_some_iff]at hp
  obtain⟨q,hq,o,ho,rfl⟩:=hp
  refine⟨ho,fun hn=>?_⟩
  rw[List.all_eq_true]at hπ3
  have:=hπ3 q hq
  simpa[hn]using this
 have hA:=xU (pick ops π) (Array.replicate ops.size false) fr st hp hπ1 (h (fun fr st=>Q .normal fr st) (fun _ _ h=>h))
 rw[hπ2]at hA
 have hdr:Ext w g { w with drawn:=w.drawn+1 } g:=cT w g
 exact kX hT hk (fun _ _ h=>h) _ _ fr st a { w with drawn:=w.drawn+1 } g hi.drew (hr.mono hdr) hs hd hdr hA
def aGI(P:Program)(T:Tab)(ops:Array Oper)(M B:List Nat)(st0:St)(J:Frm→St→Prop)(π:List (Nat×Bool×Oper))(o:Oper)(fr:Frm)(st:St):Option Bool→Prop
 |some b=>(b=true→((dQ o.op=true→SB B st0 st)∧aHT B (jP fr o.op)∧match aop T (inM M o.dst) o fr st with
   |some r=>r.c∧dM P T ops M B st0 J π (bK fr o.dst r.v) st
   |none=>False))∧(b=false→(dQ o.op=true→SB B st0 st)∧dM P T ops M B st0 J π (bK fr o.dst (.tu [])) st)
 |none=>False
def aPf(P:Program)(T:Tab)(ops:Array Oper)(M B:List Nat)(st0:St)(J:Frm→St→Prop)(π:List (Nat×Bool×Oper))(o:Oper)(fr:Frm)(st:St):Option bL→Prop
 |some r=>r.c∧dM P T ops M B st0 J π (bK fr o.dst r.v) st
 |none=>False
def aPC(P:Program)(T:Tab)(ops:Array Oper)(M B:List Nat)(st0:St)(J:Frm→St→Prop)(π:List (Nat×Bool×Oper))(nd:Bool)(o:Oper)(fr:Frm):Option bL→Prop
 |some r=>r.c∧(nd=true→SB B st0 r.s)∧dM P T ops M B st0 J π (bK fr o.dst r.v) r.s
 |none=>False
def aAG(P:Program)(T:Tab)(ops:Array Oper)(M B:List Nat)(st0:St)(J:Frm→St→Prop)(π:List (Nat×Bool×Oper))(nd:Bool)(d:Option Nat)(fr:Frm)(st:St)(f:FuncId)(args:List LV):Prop:=
 ∃ R,aB P f args st R∧∀ r st',R r st'→(nd=true→SB B st0 st')∧dM P T ops M B st0 J π (bK fr d r) st'
def aPg(P:Program)(T:Tab)(ops:Array Oper)(M B:List Nat)(st0:St)(J:Frm→St→Prop)(π:List (Nat×Bool×Oper))(nd:Bool)(d:Option Nat)(fr:Frm)(st:St)(args:List LV):Option (FuncId×List LV)→Prop
 |some (f,caps)=>aAG P T ops M B st0 J π nd d fr st f (args++caps)
 |none=>False
def aNP(P:Program)(T:Tab)(ops:Array Oper)(M B:List Nat)(st0:St)(J:Frm→St→Prop)(π:List (Nat×Bool×Oper))(nd:Bool)(o:Oper)(fr:Frm)(st:St):Prop:=
 match o.op with
 |.call { callee:=.value x,args:=args,argTypes:=_ }=>aPg P T ops M B st0 J π nd o.dst fr st (args.toList.map (aH fr)) (dR (aH fr x))
 |_=>aPC P T ops M B st0 J π nd o fr (aop T (inM M o.dst) o fr st)
def aEs(P:Program)(T:Tab)(ops:Array Oper)(M B:List Nat)(st0:St)(J:Frm→St→Prop)(π:List (Nat×Bool×Oper))(nd:Bool)(o:Oper)(fr:Frm)(st:St):Option Bool→Prop
 |some b=>(b=true→aNP P T ops M B st0 J π nd o fr st)∧(b=false→(nd=true→SB B st0 st)∧dM P T ops M B st0 J π (bK fr o.dst (.tu [])) st)
 |none=>False
def aJi(P:Program)(T:Tab)(ops:Array Oper)(M B:List Nat)(st0:St)(J:Frm→St→Prop)(π:List (Nat×Bool×Oper))(nd:Bool)(o:Oper)(fr:Frm)(st:St):Bool→Prop
 |true=>aGI P T ops M B st0 J π o fr st (bB ops fr o.guard)
 |false=>aEs P T ops M B st0 J π nd o fr st (bB ops fr o.guard)
variable {B:List Nat} {st0:St} {J:Frm→St→Prop} {π:List (Nat×Bool×Oper)} {nd:Bool} {o:Oper} {fr:Frm} {st:St} {d:Option Nat}
theorem aPy:dM P T ops M B st0 J [] fr st=J fr st:=rfl
theorem aOV(i:Nat):dM P T ops M B st0 J ((i,nd,o)::π) fr st=aJi P T ops M B st0 J π nd o fr st (aS o.op):=by
 unfold dM
 cases hq:aS o.op with
 |true=>
  simp only[aJi]
  cases bB ops fr o.guard<;>rfl
 |false=>
  simp only[aJi]
  unfold gR
  cases bB ops fr o.guard with
  |none=>rfl
  |some b=>
   simp only[aEs]
   congr 1
theorem aMa:aJi P T ops M B st0 J π nd o fr st true=aGI P T ops M B st0 J π o fr st (bB ops fr o.guard):=rfl
theorem aOo:aJi P T ops M B st0 J π nd o fr st false=aEs P T ops M B st0 J π nd o fr st (bB ops fr o.guard):=rfl
theorem aRA:aGI P T ops M B st0 J π o fr st (some true)=((dQ o.op=true→SB B st0 st)∧aHT B (jP fr o.op)∧aPf P T ops M B st0 J π o fr st (aop T (inM M o.dst) o fr st)):=by
 simp only[aGI,forall_const,Bool.true_eq_false,false_implies,and_true]
 cases aop T (inM M o.dst) o fr st<;>rfl
theorem aRR:aGI P T ops M B st0 J π o fr st (some false)=((dQ o.op=true→SB B st0 st)∧dM P T ops M B st0 J π (bK fr o.dst (.tu [])) st):=by simp[aGI]
theorem d_a(r:bL):aPf P T ops M B st0 J π o fr st (some r)=(r.c∧dM P T ops M B st0 J π (bK fr o.dst r.v) st):=rfl
theorem aRs:aEs P T ops M B st0 J π nd o fr st (some true)=aNP P T ops M B st0 J π nd o fr st:=by simp[aEs]
theorem aRa:aEs P T ops M B st0 J π nd o fr st (some false)=((nd=true→SB B st0 st)∧dM P T ops M B st0 J π (bK fr o.dst (.tu [])) st):=by simp[aEs]
theorem d_l(r:bL):aPC P T ops M B st0 J π nd o fr (some r)=(r.c∧(nd=true→SB B st0 r.s)∧dM P T ops M B st0 J π (bK fr o.dst r.v) r.s):=rfl
theorem aOA(f:FuncId)(caps args:List LV):aPg P T ops M B st0 J π nd d fr st args (some (f,caps))=aAG P T ops M B st0 J π nd d fr st f (args++caps):=rfl
theorem bE(h:dM P T ops M B st0 J π fr st):dM P T ops M B st0 J π fr st:=h
theorem aO{f:FuncId}{args:List LV}{R:LV→St→Prop}(h:aB P f args st R)(hk:∀ r st',R r st'→(nd=true→SB B st0 st')∧dM P T ops M B st0 J π (bK fr d r) st'):aAG P T ops M B st0 J π nd d fr st f args:=⟨R,h,hk⟩
theorem rR(p:Nat×Bool)(l:List (Nat×Bool)):pick ops (p::l)=match ops[p.1]? with|some o=>(p.1,p.2,o)::pick ops l|none=>pick ops l:=by
 unfold pick
 simp only[List.filterMap_cons]
 cases ops[p.1]?<;>rfl
theorem aCG:pick ops []=[]:=rfl
theorem aOy:SB [] st0 st=True:=by simp[SB]
theorem aKT(b:Nat)(l:List Nat):SB (b::l) st0 st=(st.H b=st0.H b∧SB l st0 st):=by simp[SB]
end
end Go.Proofs.YtempldclppogmaaGreatDoor.Aw
