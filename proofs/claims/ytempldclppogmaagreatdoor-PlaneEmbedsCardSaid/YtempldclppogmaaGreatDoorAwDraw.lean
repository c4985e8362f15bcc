/- Regions whose order is open, at large: what only looks is taken as soon as it may come; the rest one behind the other. No program is named here. -/
import Derived.Test.YtempldclppogmaaGreatDoorAwRun
import Derived.Orders
set_option linter.unusedVariables false
set_option linter.unusedSimpArgs false
namespace Go.Proofs.YtempldclppogmaaGreatDoor
namespace Aw
open Go Go.RowKit
def eI:Op->Bool
 |.load ..=>true
 |.lookup ..=>true
 |.call { callee:=.builtin .len,.. }=>true
 |_=>false
def Pv:LV->LV
 |.mp l=>.pt l 0
 |_=>.ep []
section
variable {P:Program} {T:Tab} {N:Nat} {ops:Array Oper} {M:List Nat}
def kG(P:Program)(T:Tab)(ops:Array Oper)(M:List Nat)(o:Oper)(K:Frm->St->Prop)(fr:Frm)(st:St):Prop:=
 match bG ops fr o.guard with
 |some b=>(b=true->(match o.op with
   |.call { callee:=.value x,args:=args,argTypes:=_ }=>match eJ (aI fr x) with
    |some (f,cY)=>∃ R,aB P f ((args.toList.map (aI fr))++cY) st R/\∀ r st',R r st'->K (bP fr o.dst r) st'
    |none=>False
   |_=>match aop T (inM M o.dst) o fr st with
    |some r=>r.c/\K (bP fr o.dst r.v) r.s
    |none=>False))/\(b=false->K (bP fr o.dst (.tu [])) st)
 |none=>False
theorem kG.mono{o:Oper}{K K':Frm->St->Prop}{fr:Frm}{st:St}(hk:∀ fr st,K fr st->K' fr st)(h:kG P T ops M o K fr st):kG P T ops M o K' fr st:=by
 unfold kG at h ⊢;cases hw:bG ops fr o.guard with
 |none=>rw[hw]at h;exact h
 |some b=>
  rw[hw]at h;refine⟨fun hb=>?_,fun hb=>hk _ _ (h.2 hb)⟩;have h1:=h.1 hb
  split at h1
  .split at h1
   .obtain⟨R,hR,hn⟩:=h1;exact⟨R,hR,fun r st' hr=>hk _ _ (hn r st' hr)⟩
   .exact h1
  .split at h1
   .exact⟨h1.1,hk _ _ h1.2⟩
   .exact h1
def jG(ops:Array Oper)(j:Nat):Bool:=
 match ops[j]? with
 |none=>false
 |some oj=>(List.range ops.size).any fun i=>i != j&&((ops[i]?).map fun oi=>eI oi.op).getD false&&!(oj.after.any fun e=>Region.binds .any e&&e.on==i)
def Kx(ops:Array Oper)(S:St->Prop)(i:Nat)(o:Oper)(st st':St):Prop:=if aX o.op=true then st'=st else(jG ops i=true->S st')
def iY(P:Program)(T:Tab)(ops:Array Oper)(M:List Nat)(S:St->Prop)(J:Frm->St->Prop):Nat->Array Bool->Frm->St->Prop
 |0,listed,fr,st=>Region.ready .any ops listed=[]/\J fr st
 |fuel+1,listed,fr,st=>(Region.ready .any ops listed=[]->J fr st)/\
  ∀ i∈Region.ready .any ops listed,∃ o,ops[i]?=some o/\kG P T ops M o (fun Xj st'=>Kx ops S i o st st'/\iY P T ops M S J fuel (listed.setIfInBounds i true) Xj st') fr st
theorem FY(hT:bF P T){o:Oper}{Q:Exit->Act->World->Prop}{K:Frm->St->Prop}{K':Act->World->Prop}{w0:World}{g0:G}{fr:Frm}{st:St}{a:Act}{w:World}{g:G}{i:Nat}(ho:ops[i]?=some o)
 (K6:oH N o.dst=true) (hgd:jQ N ops o.guard=true) (hi:Inv w g st) (hr:dO w g a fr) (hs:a.tmps.size=N) (hd:a.defers=[]) (he0:Ext w0 g0 w g)
 (hK:∀ Xj st' a' w' g',Inv w' g' st'->dO w' g' a' Xj->a'.tmps.size=N->a'.defers=[]->Ext w0 g0 w' g'->K Xj st'->K' a' w') (h:kG P T ops M o K fr st):wpOp P ops Q i K' a w:=by
 unfold kG at h;unfold wpOp;simp only[ho];cases hw:bG ops fr o.guard with
 |none=>rw[hw]at h;exact h.elim
 |some b=>
  rw[hw]at h;have hwt:Region.wanted o (yielded ops a.tmps)=b:=eG hr hw (by rw[hs];exact hU hgd);rw[hwt];cases b with
  |false=>simp only[aAR,aBB];exact hK _ _ _ _ g hi (dR hr (by rw[hs];exact K6) wJ) (by rw[bS];exact hs) (by rw[put_defers];exact hd) he0 (h.2 rfl)
  |true=>
   simp only[aBn];left;have h1:=h.1 rfl;unfold Oper.wp
   split at h1
   .rename_i x args U2 u7
    split at h1
    .rename_i f cY hf;obtain⟨R,hR,hn⟩:=h1;have hx:=aE hr x;revert hf hx;cases hev:aI fr x with
     |fn f' caps'=>
      cases f' with
      |func f'=>
       intro hf hx;simp only[eJ,aAb,aAV]at hf;obtain⟨rfl,rfl⟩:=hf;simp only[Rep]at hx;obtain⟨us,hx,hus⟩:=hx;have Xv:(execOp a.eval o).run P w=.ok (.enter f' ((args.toList.map a.eval++us).toArray)) w:=by unfold execOp;simp only[u7,resolve,invoke,hx,Deferred.ofValue,Sem.run_bind,Sem.run_pure,Result.andThen_ok];simp only[Array.empty_append];rw[hR.1];simp
       rw[Xv,Oper.upon_enter];refine(hR.2 w g _ hi (bZ _ _ _ _ (BN hr args.toList) hus)).mono ?_;rintro e w' ⟨v,r,st',g',rfl,hq,hv,Yo,he⟩;exact hK _ _ _ _ g' Yo (dR (hr.mono he) (by rw[hs];exact K6) hv) (by rw[bS];exact hs) (by rw[put_defers];exact hd) (he0.trans he) (hn r st' hq)
      |_=>intro hf;simp[eJ]at hf
     |_=>intro hf;simp[eJ]at hf
    .exact h1.elim
   .split at h1
    .rename_i r o9;obtain⟨x,w',g',Xv,hx,Yo,he,_⟩:=uX (N:=N) hT o9 h1.1 a w g hi hr hs;rw[Xv];rcases hx with⟨v,rfl,hv⟩|⟨rfl,hdead⟩
     .rw[Oper.upon_value];exact hK _ _ _ _ g' Yo (dR (hr.mono he) (by rw[hs];exact K6) hv) (by rw[bS];exact hs) (by rw[put_defers];exact hd) (he0.trans he) h1.2
     .rw[Oper.upon_skip];rw[hdead]at h1;exact hK _ _ _ _ g' Yo (dR (hr.mono he) (by rw[hs];exact K6) (by simp only[Rep])) (by rw[bS];exact hs) (by rw[put_defers];exact hd) (he0.trans he) h1.2
    .exact h1.elim
theorem nE(hT:bF P T){S:St->Prop}{J:Frm->St->Prop}{Q:AQ}(hk:cW N ops ops.toList=true)(hJ:∀ fr st,J fr st->Q .normal fr st){w0:World}{g0:G}:
 ∀(fuel:Nat) (listed:Array Bool) (fr:Frm) (st:St) (a:Act) (w:World) (g:G),Inv w g st->dO w g a fr->a.tmps.size=N->a.defers=[]->Ext w0 g0 w g->
  iY P T ops M S J fuel listed fr st->wpAny P .any ops (kZ N Q w0 g0) fuel listed a w
 |0,listed,fr,st,a,w,g,hi,hr,hs,hd,he,h=>⟨h.1,fr,st,g,hJ _ _ h.2,hi,hr,hs,hd,he⟩
 |fuel+1,listed,fr,st,a,w,g,hi,hr,hs,hd,he,h=>by
  refine⟨fun h0=>⟨fr,st,g,hJ _ _ (h.1 h0),hi,hr,hs,hd,he⟩,fun i Zt=>?_⟩;obtain⟨o,ho,YL⟩:=h.2 i Zt;have hko:oH N o.dst=true/\jQ N ops o.guard=true:=by unfold cW at hk;rw[aBC]at hk;have:=hk o (aEH.2 (aEy ho));simpa using this
  exact FY (N:=N) hT ho hko.1 hko.2 hi hr hs hd he (fun Xj st' a' w' g' Yo o9 J5 Yw G6 hK=>nE hT hk hJ fuel _ Xj st' a' w' g' Yo o9 J5 Yw G6 hK.2) YL
theorem Lv{fr:Frm}{d:Option Nat}{v:LV}{x:Operand}(h:∀ t,d=some t->x≠.tmp t):aI (bP fr d v) x=aI fr x:=by
 cases d with
 |none=>rfl
 |some d=>
  cases x with
  |tmp t=>have:t≠d:=fun e=>h d rfl (by rw[e]);simp[aI,bP,upd,this]
  |_=>rfl
theorem CK{m:Bool}{o:Oper}{fr Xj:Frm}{st:St}(h:∀ x∈o.op.operands,aI fr x=aI Xj x):aop T m o fr st=aop T m o Xj st:=by
 obtain⟨dst,op,ty,pos,after,guard⟩:=o;simp only at h;cases op<;>simp only[aop,Op.operands]at h ⊢<;>try rfl
 case move x=>rw[h x sS]
 case assign x=>rw[h x sS]
 case pick c a b=>rw[h c sS,h a sS,h b sS]
 case binOp op t x y t'=>rw[h x sS,h y sS]
 case unOp op t x=>rw[h x sS]
 case convert s d x=>rw[h x sS]
 case load t x=>rw[h x sS]
 case store t x v=>rw[h x sS,h v sS]
 case indexAddr t x i=>rw[h x sS,h i sS]
 case fieldAddr t x f=>rw[h x sS]
 case field t x f=>rw[h x sS]
 case slice t x lo hi mx=>
  rw[h x sS];have h1:lo.map (aI fr)=lo.map (aI Xj):=by cases lo with|none=>rfl|some y=>simp only[Option.map_some];rw[h y sS]
  have h2:hi.map (aI fr)=hi.map (aI Xj):=by cases hi with|none=>rfl|some y=>simp only[Option.map_some];rw[h y sS]
  have h3:mx.map (aI fr)=mx.map (aI Xj):=by cases mx with|none=>rfl|some y=>simp only[Option.map_some];rw[h y sS]
  rw[h1,h2,h3]
 case box t x=>rw[h x sS]
 case build t ps=>
  have:(ps.toList.map fun p=>(p.1,aI fr p.2))=ps.toList.map fun p=>(p.1,aI Xj p.2):=aAW fun p hp=>by rw[h p.2 (by simp;exact⟨p.1,by simpa using hp⟩)]
  rw[this]
 case buildSlice t n ps=>
  have:(ps.toList.map fun p=>(p.1,aI fr p.2))=ps.toList.map fun p=>(p.1,aI Xj p.2):=aAW fun p hp=>by rw[h p.2 (by simp;exact⟨p.1,by simpa using hp⟩)]
  rw[this]
 case makeFunc f first cY=>
  have:cY.toList.map (aI fr)=cY.toList.map (aI Xj):=aAW fun p hp=>h p (by simp;right;simpa using hp);rw[this]
 case extract x i=>rw[h x sS]
 case nilCheck x=>rw[h x sS]
 case lookup t x i ok=>rw[h x sS,h i sS]
 case index t x i=>rw[h x sS,h i sS]
 case mapUpdate t x i v=>rw[h x sS,h i sS,h v sS]
 case insert t x i v=>rw[h x sS,h i sS,h v sS]
 case makeSlice t l c=>rw[h l sS,h c sS]
 case makeMap t r=>
  have h1:r.map (aI fr)=r.map (aI Xj):=by cases r with|none=>rfl|some y=>simp only[Option.map_some];rw[h y sS]
  rw[h1]
 case call c=>
  obtain⟨callee,args,U2⟩:=c;obtain⟨args⟩:=args;have ha:∀ x∈args,aI fr x=aI Xj x:=fun x hx=>h x (by simp[Call.operands];right;exact hx);clear h;unfold DB
  split<;>simp_all
def lI(T:Tab)(ops:Array Oper)(M:List Nat)(S:St->Prop)(o:Oper)(v:LV)(fr:Frm):Prop:=
 (bG ops fr o.guard=some true/\aX o.op=true/\∀ st,S st->∃ r,aop T (inM M o.dst) o fr st=some r/\r.c/\r.v=v/\r.s=st)\/(bG ops fr o.guard=some false/\v=.tu [])
theorem lI.step{S:St->Prop}{o:Oper}{v:LV}{fr:Frm}{st:St}{K:Frm->St->Prop}(hy:lI T ops M S o v fr)(hS:S st)(h:K (bP fr o.dst v) st):kG P T ops M o K fr st:=by
 unfold kG;rcases hy with⟨hw,hq,hv⟩|⟨hw,rfl⟩
 .rw[hw];refine⟨fun _=>?_,(fun hb=>by cases hb)⟩;obtain⟨r,h1,h2,h3,h4⟩:=hv st hS
  split
  .rename_i u7;rw[u7]at hq;simp[aX]at hq
  .rw[h1];exact⟨h2,by rw[h3,h4];exact h⟩
 .rw[hw];exact⟨(fun hb=>by cases hb),fun _=>h⟩
theorem xL{o:Oper}{fr:Frm}{d:Option Nat}{v:LV}(h:∀ t,d=some t->t∉o.looksAt ops):∀ x∈o.op.operands,aI (bP fr d v) x=aI fr x:=by intro x hx;refine Lv fun t ht Y6=>h t ht ?_;subst Y6;exact aAw _ (List.mem_filterMap.2 ⟨.tmp t,by simpa using hx,rfl⟩)
theorem mE{o:Oper}{fr:Frm}{d:Option Nat}{v:LV}(h:∀ t,d=some t->t∉o.looksAt ops):bG ops (bP fr d v) o.guard=bG ops fr o.guard:=by
 cases d with
 |none=>rfl
 |some d=>
  unfold bG;cases hg:o.guard with
  |none=>rfl
  |some p=>
   obtain⟨j,want⟩:=p;simp only;cases hd:(ops[j]?).bind (·.dst) with
   |none=>rfl
   |some t=>
    have Wx:t≠d:=by rintro rfl;refine h t rfl (aAI _ ?_);simp[hg,hd]
    simp[bP,upd,Wx]
theorem lI.keep{S:St->Prop}{o:Oper}{v:LV}{fr:Frm}(hy:lI T ops M S o v fr){d:Option Nat}(h:∀ t,d=some t->t∉o.looksAt ops)(u:LV):lI T ops M S o v (bP fr d u):=by
 rcases hy with⟨hw,hq,hv⟩|⟨hw,rfl⟩
 .left;refine⟨by rw[mE h];exact hw,hq,fun st hS=>?_⟩;rw[CK (xL h)];exact hv st hS
 .right;exact⟨by rw[mE h];exact hw,rfl⟩
theorem LL{fr:Frm}{d e:Option Nat}{u v:LV}(h:∀ t,d=some t->e≠some t):bP (bP fr d u) e v=bP (bP fr e v) d u:=by
 cases d with
 |none=>rfl
 |some d=>
  cases e with
  |none=>rfl
  |some e=>
   have Wx:e≠d:=fun h0=>h d rfl (by rw[h0])
   funext i
   simp only[bP,upd];by_cases h1:i=e
   .subst h1;simp[Wx]
   .by_cases h2:i=d
    .simp[h1,h2,aDi Wx]
    .simp[h1,h2]
theorem MK{S:St->Prop}{oi oj:Oper}{v:LV}(hap:oi.apart ops oj=true){K:Frm->St->Prop}{fr:Frm}{st:St}(hy:lI T ops M S oi v fr)
 (h:kG P T ops M oj K (bP fr oi.dst v) st):kG P T ops M oj (fun Xj st'=>lI T ops M S oi v Xj/\K (bP Xj oi.dst v) st') fr st:=by
 obtain⟨h1,h2,h3⟩:=Oper.apart_spec hap;have hev:=xL (fr:=fr) (v:=v) h1;unfold kG at h ⊢;rw[mE h1]at h;cases hw:bG ops fr oj.guard with
 |none=>rw[hw]at h;exact h
 |some b=>
  rw[hw]at h;have hk:∀ r,bP (bP fr oi.dst v) oj.dst r=bP (bP fr oj.dst r) oi.dst v:=fun r=>LL h2;refine⟨fun hb=>?_,fun hb=>⟨hy.keep h3 _,by rw[<- hk];exact h.2 hb⟩⟩;have g:=h.1 hb
  split at g
  .rename_i x args U2 u7;simp only;have hx:aI (bP fr oi.dst v) x=aI fr x:=hev x (by rw[u7];simp[Op.operands,Call.operands]);have hargs:(args.toList.map (aI (bP fr oi.dst v)))=args.toList.map (aI fr):=aAW fun y P5=>by rw[hev y (by rw[u7];simp[Op.operands,Call.operands];right;simpa using P5)]
   rw[hx,hargs]at g
   split at g
   .obtain⟨R,hR,hn⟩:=g;exact⟨R,hR,fun r st' hr=>⟨hy.keep h3 _,by rw[<- hk];exact hn r st' hr⟩⟩
   .exact g
  .rename_i G8;rw[CK hev]at g;cases hr:aop T (inM M oj.dst) oj fr st with
   |none=>rw[hr]at g;exact g
   |some r=>rw[hr]at g;exact⟨g.1,hy.keep h3 _,by rw[<- hk];exact g.2⟩
theorem NU{i j:Nat}{oi oj:Oper}(hi:ops[i]?=some oi)(hj:ops[j]?=some oj)(Wx:j≠i)(hh:eI oi.op=true)(YI:∀ e∈oj.after,Region.binds .any e=true->e.on≠i):jG ops j=true:=by unfold jG;rw[hj];simp only[aBO,aAX];refine⟨i,(aAt.1 hi).1,?_⟩;simp only[hi,Option.map_some,Option.getD_some,hh,aEJ,aAS,bne_iff_ne,ne_eq,aDY];refine⟨fun h=>Wx h.symm,?_⟩;rw[Array.any_eq_false'];intro e he;simp only[aAS,aCL,not_and];exact fun hb=>YI e he hb
theorem iH{S:St->Prop}{J:Frm->St->Prop}{i:Nat}{oi:Oper}{v:LV}(hi:ops[i]?=some oi):
 ∀(fuel:Nat) (listed:Array Bool) (fr:Frm) (st:St),
  (∀ j oj,ops[j]?=some oj->j≠i->listed.getD j true=false->(∀ e∈oj.after,Region.binds .any e=true->e.on≠i)->oi.apart ops oj=true)->
  i∈Region.ready .any ops listed->lI T ops M (fun st=>eI oi.op=true->S st) oi v fr->(eI oi.op=true->S st)->aX oi.op=true->
  iY P T ops M S J fuel (listed.setIfInBounds i true) (bP fr oi.dst v) st->iY P T ops M S J (fuel+1) listed fr st:=by
 intro fuel;induction fuel with
 |zero=>
  intro listed fr st _ hr hy hS hq H;refine⟨fun h=>(by rw[h]at hr;cases hr),fun j hj=>?_⟩;by_cases R7:j=i
  .subst R7;exact⟨oi,hi,hy.step hS ⟨by unfold Kx;rw[aAe hq],H⟩⟩
  .have:=ready_mono hj R7;rw[H.1]at this;cases this
 |succ fuel ih=>
  intro listed fr st hfree hr hy hS hq H;refine⟨fun h=>(by rw[h]at hr;cases hr),fun j hj=>?_⟩;by_cases R7:j=i
  .subst R7;exact⟨oi,hi,hy.step hS ⟨by unfold Kx;rw[aAe hq],H⟩⟩
  .obtain⟨oj',hoj',h1⟩:=H.2 j (ready_mono hj R7);obtain⟨hjun,oj,hoj,hall⟩:=mem_ready.1 hj;have hoo:oj'=oj:=by rw[hoj]at hoj';exact(aBb hoj').symm
   subst hoo;have hnot:∀ e∈oj'.after,Region.binds .any e=true->e.on≠i:=fun e he hb J8=>by
    have h1:=hall e he hb;have h0:=(mem_ready.1 hr).1;rw[J8]at h1;rcases aAB i listed.size with h'|h'
    .simp[h']at h0 h1;rw[h0]at h1;cases h1
    .simp[aEp h']at h1
   have h2:=MK (hfree j oj' hoj R7 hjun hnot) hy h1
   have hfree':∀ k ok,ops[k]?=some ok->k≠i->(listed.setIfInBounds j true).getD k true=false->
    (∀ e∈ok.after,Region.binds .any e=true->e.on≠i)->oi.apart ops ok=true:=fun k ok hk hki hun YI=>by
    refine hfree k ok hk hki ?_ YI;by_cases I6:j=k
    .subst I6;exact hjun
    .rw[getD_set_ne true I6]at hun;exact hun
   refine⟨oj',hoj,h2.mono fun Xj st' h3=>⟨h3.2.1,?_⟩⟩;refine ih (listed.setIfInBounds j true) Xj st' hfree' (ready_mono hr (aDi R7)) h3.1 (fun hh=>?_) hq ?_
   .have hk:=h3.2.1;unfold Kx at hk
    split at hk
    .rw[hk];exact hS hh
    .exact hk (NU hi hoj R7 hh hnot)
   .rw[Array.setIfInBounds_comm _ _ R7];exact h3.2.2
def lN(ops:Array Oper):List Nat->Array Bool->Bool
 |[],listed=>(Region.ready .any ops listed).isEmpty
 |i::π,listed=>match ops[i]? with
  |some o=>(if aX o.op then(Region.ready .any ops listed).contains i&&Region.free .any ops listed i else Region.ready .any ops listed==[i])&&lN ops π (listed.setIfInBounds i true)
  |none=>false
def Mq(B:List Nat):LV->Prop
 |.pt l _=>l∈B
 |.ep _=>True
 |_=>False
def lZ(fr:Frm):Op->LV
 |.load _ x=>aI fr x
 |.lookup _ x _ _=>Pv (aI fr x)
 |.call { callee:=.builtin .len,args:=⟨x::_⟩,.. }=>Pv (aI fr x)
 |_=>.ep []
def SB(B:List Nat)(Xs st:St):Prop:=∀ l∈B,st.H l=Xs.H l
def dW(P:Program)(T:Tab)(ops:Array Oper)(M B:List Nat)(Xs:St)(J:Frm->St->Prop):List (Nat×Bool×Oper)->Frm->St->Prop
 |[],fr,st=>J fr st
 |(_,nd,o)::π,fr,st=>match aX o.op with
  |true=>match bG ops fr o.guard with
   |some b=>(b=true->((eI o.op=true->SB B Xs st)/\Mq B (lZ fr o.op)/\match aop T (inM M o.dst) o fr st with
     |some r=>r.c/\dW P T ops M B Xs J π (bP fr o.dst r.v) st
     |none=>False))/\(b=false->(eI o.op=true->SB B Xs st)/\dW P T ops M B Xs J π (bP fr o.dst (.tu [])) st)
   |none=>False
  |false=>kG P T ops M o (fun Xj st'=>(nd=true->SB B Xs st')/\dW P T ops M B Xs J π Xj st') fr st
theorem nT{o:Oper}{fr:Frm}{m:Bool}{st st':St}{r:bT}(hq:aX o.op=true)(hh:∀ l k,lZ fr o.op=.pt l k->st'.H l=st.H l)(h:aop T m o fr st=some r):
 aop T m o fr st'=some (@bT.mk r.c r.v st' r.d):=by
 obtain⟨dst,op,ty,pos,after,guard⟩:=o;simp only at hq hh;cases op<;>simp only[aX,aAR]at hq<;>simp only[aop]at h ⊢
 case move x=>simp only[aAb]at h;subst h;rfl
 case assign x=>simp only[aAb]at h;subst h;rfl
 case pick c a b=>
  split at h
  .simp only[aAb]at h;subst h;rfl
  .simp at h
 case binOp op t x y t'=>
  unfold Fm at h ⊢
  split at h
  .simp only[aBm]at h ⊢;obtain⟨p,h1,rfl⟩:=h;exact⟨p,h1,rfl⟩
  .split at h
   .simp only[aAb]at h;subst h;rfl
   .simp only[aAb]at h;subst h;rfl
   .simp at h
  .split at h
   .split at h
    .simp only[aAb]at h;subst h;simp_all
    .simp only[aAb]at h;subst h;simp_all
    .simp at h
   .simp at h
  .split at h
   .simp only[aAb]at h;subst h;simp_all
   .simp only[aAb]at h;subst h;simp_all
   .simp at h
  .split at h
   .simp only[aAb]at h;subst h;simp_all
   .simp only[aAb]at h;subst h;simp_all
   .simp at h
  .split at h
   .simp only[aAb]at h;subst h;simp_all
   .simp only[aAb]at h;subst h;simp_all
   .simp at h
  .split at h
   .simp only[aAb]at h;subst h;simp_all
   .simp only[aAb]at h;subst h;simp_all
   .simp at h
  .simp at h
 case unOp op t x=>
  unfold Qx at h ⊢
  split at h
  .simp only[aAb]at h;subst h;rfl
  .simp only[aAb]at h;subst h;rfl
  .simp at h
 case convert s d x=>
  split at h
  .simp only[aAb]at h;subst h;rfl
  .simp at h
 case load t x=>
  unfold AR at h ⊢;have hp:dZ st' (aI fr x)=dZ st (aI fr x):=by
   cases hx:aI fr x with
   |pt l k=>simp only[dZ];rw[hh l k hx]
   |_=>rfl
  rw[hp]
  split at h
  .split at h
   .simp only[aAb]at h;subst h;rename_i h1 h2 h3;simp[h3]
   .simp only[aAb]at h;subst h;rename_i h1 h2 h3;simp[h3]
  .simp at h
 case indexAddr t x i=>
  unfold OV at h ⊢
  split at h
  .split at h
   .split at h
    .simp only[aAb]at h;subst h;rfl
    .split at h
     .simp only[aAb]at h;subst h;simp_all
     .simp at h
   .simp at h
  .simp at h
 case fieldAddr t x f=>
  unfold kM at h ⊢
  split at h
  .split at h
   .split at h
    .split at h
     .simp only[aAb]at h;subst h;simp_all
     .simp only[aAb]at h;subst h;simp_all
     .simp only[aAb]at h;subst h;rfl
     .simp at h
    .simp at h
   .simp at h
  .simp at h
 case field t x f=>
  unfold AU at h ⊢
  split at h
  .split at h
   .split at h
    .split at h
     .simp only[aAb]at h;subst h;simp_all
     .simp only[aAb]at h;subst h;simp_all
    .simp at h
   .simp at h
  .simp at h
 case slice t x lo hi mx=>
  unfold BM at h ⊢
  split at h
  .split at h
   .split at h
    .split at h
     .split at h
      .simp only[aAb]at h;subst h;simp_all
      .simp at h
     .split at h
      .simp only[aAb]at h;subst h;simp_all
      .simp at h
     .split at h
      .simp only[aAb]at h;subst h;simp_all
      .simp at h
     .split at h
      .simp only[aAb]at h;subst h;simp_all
      .simp at h
     .split at h
      .split at h
       .simp only[aAb]at h;subst h;simp_all
       .simp at h
      .simp at h
    .split at h
     .simp only[aAb]at h;subst h;simp_all
     .split at h
      .simp only[aAb]at h;subst h;simp_all
      .simp only[aAb]at h;subst h;simp_all
      .simp at h
     .simp at h
    .simp at h
   .simp at h
  .simp at h
 case extract x i=>
  split at h
  .split at h
   .simp only[aAb]at h;subst h;simp_all
   .simp at h
  .simp at h
 case nilCheck x=>
  split at h
  .simp only[aAb]at h;subst h;rfl
  .simp only[aAb]at h;subst h;rfl
  .simp at h
 case index t x i=>
  unfold ET at h ⊢
  split at h
  .simp only[aAb]at h;subst h;simp_all
  .simp at h
 case lookup t x i ok=>
  unfold uH at h ⊢;have hp:∀ l,aI fr x=.mp l->st'.H l=st.H l:=fun l hl=>hh l 0 (by simp[lZ,hl,Pv])
  split at h
  .split at h
   .split at h
    .rename_i l hx;have hq:=hp l hx
     split at h
     .rename_i hH;simp only[aAb]at h;subst h;have hH':=hq.trans hH;clear hq hp hh;simp_all
     .simp at h
    .simp only[aAb]at h;subst h;simp_all
    .simp at h
   .simp at h
  .simp at h
 case makeFunc f first cY=>
  split at h
  .simp only[aAb]at h;subst h;simp_all
  .simp at h
 case call c=>
  obtain⟨callee,args,U2⟩:=c;unfold DB at h ⊢
  split at h<;>rename_i ZC _<;>(try simp only at ZC)
  .rename_i x t' ts hargs Zo;simp only at hargs Zo
   have hp:∀ l,aI fr x=.mp l->st'.H l=st.H l:=fun l hl=>hh l 0 (by
    have hargs':args=#[x]:=aEG ZC;rw[hargs',hargs]
    simp[lZ,hl,Pv])
   cases hmk:jY T t' with
   |some p=>
    simp only[hmk]at h ⊢;unfold Rf at h ⊢;simp only[hmk]at h ⊢
    split at h
    .rename_i l _ hx;have hq:=hp l hx
     split at h
     .rename_i hH;simp only[aAb]at h;subst h;have hH':=hq.trans hH;clear hq hp hh;simp_all
     .simp at h
    .simp at h
   |none=>
   simp only[hmk]at h ⊢;unfold RB at h ⊢
   split at h
   .split at h
    .simp only[aAb]at h;subst h;simp_all
    .simp only[aAb]at h;subst h;simp_all
    .split at h
     .simp only[aAb]at h;subst h;simp_all
     .simp at h
   .simp at h
  .unfold Ry at h ⊢
   split at h
   .simp only[aAb]at h;subst h;simp_all
   .simp at h
  .unfold SR at h ⊢
   split at h
   .simp only[aAb]at h;subst h;simp_all
   .simp at h
  all_goals (first|(exfalso;revert hq;simp_all[aX];done)|(simp at h;done)|(exfalso;simp_all[aX];done))
theorem EG{fr:Frm}{op:Op}{l k:Nat}(h:lZ fr op=.pt l k):eI op=true:=by
 unfold lZ at h
 split at h
 .rfl
 .rfl
 .rfl
 .cases h
theorem Ap{B:List Nat}{Xs:St}{J:Frm->St->Prop}:∀(π:List (Nat×Bool×Oper)) (listed:Array Bool) (fr:Frm) (st:St),(∀ p∈π,ops[p.1]?=some p.2.2/\(jG ops p.1=true->p.2.1=true))->lN ops (π.map (·.1)) listed=true->
 dW P T ops M B Xs J π fr st->iY P T ops M (SB B Xs) J π.length listed fr st
 |[],listed,fr,st,_,hk,h=>by simp only[aBz,lN,List.isEmpty_iff]at hk;exact⟨hk,h⟩
 |(i,nd,o)::π,listed,fr,st,hp,hk,h=>by
  obtain⟨ho,hnd⟩:ops[i]?=some o/\(jG ops i=true->nd=true):=hp (i,nd,o) sS;simp only[aAj,lN,ho,aAS]at hk
  have ih:∀ fr st,(∀ p∈π,ops[p.1]?=some p.2.2/\(jG ops p.1=true->p.2.1=true))->lN ops (π.map (·.1)) (listed.setIfInBounds i true)=true->dW P T ops M B Xs J π fr st->iY P T ops M (SB B Xs) J π.length (listed.setIfInBounds i true) fr st:=
   fun fr st=>Ap π (listed.setIfInBounds i true) fr st
  have Zh:∀ p∈π,ops[p.1]?=some p.2.2/\(jG ops p.1=true->p.2.1=true):=fun p hm=>hp p (by simp[hm]);unfold dW at h;cases hq:aX o.op with
  |true=>
   simp only[hq,aBn,aAS]at hk h;obtain⟨⟨G7,T7⟩,hk⟩:=hk;cases hw:bG ops fr o.guard with
   |none=>rw[hw]at h;exact h.elim
   |some b=>
    rw[hw]at h;cases b with
    |false=>exact iH ho _ listed fr st (Region.free_spec ho T7) (by simpa using G7) (.inr ⟨hw,rfl⟩) (h.2 rfl).1 hq (ih _ _ Zh hk (h.2 rfl).2)
    |true=>
     obtain⟨hS,Y3,h1⟩:=h.1 rfl
     split at h1
     .rename_i r hr;refine iH ho _ listed fr st (Region.free_spec ho T7) (by simpa using G7) (.inl ⟨hw,hq,fun st' hS'=>?_⟩) hS hq (ih _ _ Zh hk h1.2);refine⟨@bT.mk r.c r.v st' r.d,nT hq (fun l k hl=>?_) hr,h1.1,rfl,rfl⟩;rw[hl]at Y3;have hh:eI o.op=true:=EG hl;rw[hS' hh l Y3,hS hh l Y3]
     .exact h1.elim
  |false=>
   simp only[hq,aAR,aBB]at hk h;obtain⟨G7,hk⟩:=hk;have T9:Region.ready .any ops listed=[i]:=by simpa using G7
   refine⟨fun h0=>(by rw[h0]at T9;cases T9),fun j hj=>?_⟩;rw[T9]at hj;obtain rfl:j=i:=by simpa using hj
   refine⟨o,ho,h.mono fun Xj st' hh=>⟨?_,ih _ _ Zh hk hh.2⟩⟩;unfold Kx;simp only[hq,aAR,aBB];exact fun hn=>hh.1 (hnd hn)
def pick(ops:Array Oper)(π:List (Nat×Bool)):List (Nat×Bool×Oper):=π.filterMap fun p=>(ops[p.1]?).map fun o=>(p.1,p.2,o)
theorem LU(hT:bF P T)(M B:List Nat)(π:List (Nat×Bool)){Q:AQ}{id:Nat}{fr:Frm}{st:St}(hm:P.follows .mixedOrders=true)(hk:cW N ops ops.toList=true)
 (hπ:(lN ops ((pick ops π).map (·.1)) (Array.replicate ops.size false)&&((pick ops π).length==ops.size)&&(π.all fun p=>!jG ops p.1||p.2))=true)
 (h:∀ J:Frm->St->Prop,(∀ fr st,Q .normal fr st->J fr st)->dW P T ops M B st J (pick ops π) fr st):AWp P N (.region id ops true) Q fr st:=by
 intro a w g hi hr hs hd;simp only[aAS,aCL]at hπ;obtain⟨⟨hπ1,hπ2⟩,hπ3⟩:=hπ;refine wp_region_any hm ?_;have hp:∀ p∈pick ops π,ops[p.1]?=some p.2.2/\(jG ops p.1=true->p.2.1=true):=by intro p hp;unfold pick at hp;simp only[List.mem_filterMap,aBm]at hp;obtain⟨q,hq,o,ho,rfl⟩:=hp;refine⟨ho,fun hn=>?_⟩;rw[aBC]at hπ3;have:=hπ3 q hq;simpa[hn]using this
 have hA:=Ap (pick ops π) (Array.replicate ops.size false) fr st hp hπ1 (h (fun fr st=>Q .normal fr st) (fun _ _ h=>h));rw[hπ2]at hA;have Zs:Ext w g { w with drawn:=w.drawn+1 } g:=dH w g;exact nE hT hk (fun _ _ h=>h) _ _ fr st a { w with drawn:=w.drawn+1 } g hi.drew (hr.mono Zs) hs hd Zs hA
def MC(P:Program)(T:Tab)(ops:Array Oper)(M B:List Nat)(Xs:St)(J:Frm->St->Prop)(π:List (Nat×Bool×Oper))(o:Oper)(fr:Frm)(st:St):Option Bool->Prop
 |some b=>(b=true->((eI o.op=true->SB B Xs st)/\Mq B (lZ fr o.op)/\match aop T (inM M o.dst) o fr st with
   |some r=>r.c/\dW P T ops M B Xs J π (bP fr o.dst r.v) st
   |none=>False))/\(b=false->(eI o.op=true->SB B Xs st)/\dW P T ops M B Xs J π (bP fr o.dst (.tu [])) st)
 |none=>False
def VE(P:Program)(T:Tab)(ops:Array Oper)(M B:List Nat)(Xs:St)(J:Frm->St->Prop)(π:List (Nat×Bool×Oper))(o:Oper)(fr:Frm)(st:St):Option bT->Prop
 |some r=>r.c/\dW P T ops M B Xs J π (bP fr o.dst r.v) st
 |none=>False
def VR(P:Program)(T:Tab)(ops:Array Oper)(M B:List Nat)(Xs:St)(J:Frm->St->Prop)(π:List (Nat×Bool×Oper))(nd:Bool)(o:Oper)(fr:Frm):Option bT->Prop
 |some r=>r.c/\(nd=true->SB B Xs r.s)/\dW P T ops M B Xs J π (bP fr o.dst r.v) r.s
 |none=>False
def Ez(P:Program)(T:Tab)(ops:Array Oper)(M B:List Nat)(Xs:St)(J:Frm->St->Prop)(π:List (Nat×Bool×Oper))(nd:Bool)(d:Option Nat)(fr:Frm)(st:St)(f:FuncId)(args:List LV):Prop:=
 ∃ R,aB P f args st R/\∀ r st',R r st'->(nd=true->SB B Xs st')/\dW P T ops M B Xs J π (bP fr d r) st'
def Vo(P:Program)(T:Tab)(ops:Array Oper)(M B:List Nat)(Xs:St)(J:Frm->St->Prop)(π:List (Nat×Bool×Oper))(nd:Bool)(d:Option Nat)(fr:Frm)(st:St)(args:List LV):Option (FuncId×List LV)->Prop
 |some (f,cY)=>Ez P T ops M B Xs J π nd d fr st f (args++cY)
 |none=>False
def Ud(P:Program)(T:Tab)(ops:Array Oper)(M B:List Nat)(Xs:St)(J:Frm->St->Prop)(π:List (Nat×Bool×Oper))(nd:Bool)(o:Oper)(fr:Frm)(st:St):Prop:=
 match o.op with
 |.call { callee:=.value x,args:=args,argTypes:=_ }=>Vo P T ops M B Xs J π nd o.dst fr st (args.toList.map (aI fr)) (eJ (aI fr x))
 |_=>VR P T ops M B Xs J π nd o fr (aop T (inM M o.dst) o fr st)
def ID(P:Program)(T:Tab)(ops:Array Oper)(M B:List Nat)(Xs:St)(J:Frm->St->Prop)(π:List (Nat×Bool×Oper))(nd:Bool)(o:Oper)(fr:Frm)(st:St):Option Bool->Prop
 |some b=>(b=true->Ud P T ops M B Xs J π nd o fr st)/\(b=false->(nd=true->SB B Xs st)/\dW P T ops M B Xs J π (bP fr o.dst (.tu [])) st)
 |none=>False
def OJ(P:Program)(T:Tab)(ops:Array Oper)(M B:List Nat)(Xs:St)(J:Frm->St->Prop)(π:List (Nat×Bool×Oper))(nd:Bool)(o:Oper)(fr:Frm)(st:St):Bool->Prop
 |true=>MC P T ops M B Xs J π o fr st (bG ops fr o.guard)
 |false=>ID P T ops M B Xs J π nd o fr st (bG ops fr o.guard)
variable {B:List Nat} {Xs:St} {J:Frm->St->Prop} {π:List (Nat×Bool×Oper)} {nd:Bool} {o:Oper} {fr:Frm} {st:St} {d:Option Nat}
theorem VQ:dW P T ops M B Xs J [] fr st=J fr st:=rfl
theorem Ul(i:Nat):dW P T ops M B Xs J ((i,nd,o)::π) fr st=OJ P T ops M B Xs J π nd o fr st (aX o.op):=by
 unfold dW;cases hq:aX o.op with
 |true=>simp only[OJ];cases bG ops fr o.guard<;>rfl
 |false=>
  simp only[OJ];unfold kG;cases bG ops fr o.guard with
  |none=>rfl
  |some b=>
   simp only[ID]
   congr 1
theorem Ro:OJ P T ops M B Xs J π nd o fr st true=MC P T ops M B Xs J π o fr st (bG ops fr o.guard):=rfl
theorem Ts:OJ P T ops M B Xs J π nd o fr st false=ID P T ops M B Xs J π nd o fr st (bG ops fr o.guard):=rfl
theorem Wt:MC P T ops M B Xs J π o fr st (some true)=((eI o.op=true->SB B Xs st)/\Mq B (lZ fr o.op)/\VE P T ops M B Xs J π o fr st (aop T (inM M o.dst) o fr st)):=by simp only[MC,forall_const,Bool.true_eq_false,false_implies,aDo];cases aop T (inM M o.dst) o fr st<;>rfl
theorem Wk:MC P T ops M B Xs J π o fr st (some false)=((eI o.op=true->SB B Xs st)/\dW P T ops M B Xs J π (bP fr o.dst (.tu [])) st):=by simp[MC]
theorem d_a(r:bT):VE P T ops M B Xs J π o fr st (some r)=(r.c/\dW P T ops M B Xs J π (bP fr o.dst r.v) st):=rfl
theorem Wg:ID P T ops M B Xs J π nd o fr st (some true)=Ud P T ops M B Xs J π nd o fr st:=by simp[ID]
theorem XE:ID P T ops M B Xs J π nd o fr st (some false)=((nd=true->SB B Xs st)/\dW P T ops M B Xs J π (bP fr o.dst (.tu [])) st):=by simp[ID]
theorem d_l(r:bT):VR P T ops M B Xs J π nd o fr (some r)=(r.c/\(nd=true->SB B Xs r.s)/\dW P T ops M B Xs J π (bP fr o.dst r.v) r.s):=rfl
theorem UF(f:FuncId)(cY args:List LV):Vo P T ops M B Xs J π nd d fr st args (some (f,cY))=Ez P T ops M B Xs J π nd d fr st f (args++cY):=rfl
theorem aV(h:dW P T ops M B Xs J π fr st):dW P T ops M B Xs J π fr st:=h
theorem aJ{f:FuncId}{args:List LV}{R:LV->St->Prop}(h:aB P f args st R)(hk:∀ r st',R r st'->(nd=true->SB B Xs st')/\dW P T ops M B Xs J π (bP fr d r) st'):Ez P T ops M B Xs J π nd d fr st f args:=⟨R,h,hk⟩
theorem qZ(p:Nat×Bool)(l:List (Nat×Bool)):pick ops (p::l)=match ops[p.1]? with|some o=>(p.1,p.2,o)::pick ops l|none=>pick ops l:=by unfold pick;simp only[List.filterMap_cons];cases ops[p.1]?<;>rfl
theorem GZ:pick ops []=[]:=rfl
theorem Tj:SB [] Xs st=True:=by simp[SB]
theorem Sq(b:Nat)(l:List Nat):SB (b::l) Xs st=(st.H b=Xs.H b/\SB l Xs st):=by simp[SB]
end
end Aw
end Go.Proofs.YtempldclppogmaaGreatDoor
