/- Regions whose order is open, at large: what only looks is taken as soon as it may come; the rest one behind the other. No program is named here. -/
import Derived.Test.YtempldclppogmaaGreatDoorAwRun
import Derived.Orders
set_option linter.unusedVariables false
set_option linter.unusedSimpArgs false
namespace Go.Proofs.YtempldclppogmaaGreatDoor
namespace Aw
open Go Go.RowKit
def eH:Op->Bool
 |.load ..=>true
 |.lookup ..=>true
 |.call { callee:=.builtin .len,.. }=>true
 |_=>false
def Oi:LV->LV
 |.mp l=>.pt l 0
 |_=>.ep []
section
variable {P:Program} {T:Tab} {N:Nat} {ops:Array Oper} {M:List Nat}
def kV(P:Program)(T:Tab)(ops:Array Oper)(M:List Nat)(o:Oper)(K:Frm->St->Prop)(fr:Frm)(st:St):Prop:=
 match bG ops fr o.guard with
 |some b=>(b=true->(match o.op with
   |.call { callee:=.value x,args:=args,argTypes:=_ }=>match eJ (aI fr x) with
    |some (f,cY)=>∃ R,aB P f ((args.toList.map (aI fr))++cY) st R/\∀ r st',R r st'->K (bP fr o.dst r) st'
    |none=>False
   |_=>match aop T (inM M o.dst) o fr st with
    |some r=>r.c/\K (bP fr o.dst r.v) r.s
    |none=>False))/\(b=false->K (bP fr o.dst (.tu [])) st)
 |none=>False
theorem kV.mono{o:Oper}{K K':Frm->St->Prop}{fr:Frm}{st:St}(hk:∀ fr st,K fr st->K' fr st)(h:kV P T ops M o K fr st):kV P T ops M o K' fr st:=by
 unfold kV at h ⊢;cases hw:bG ops fr o.guard with
 |none=>rw[hw]at h;exact h
 |some b=>
  rw[hw]at h;refine⟨fun hb=>?_,fun hb=>hk _ _ (h.2 hb)⟩;have h1:=h.1 hb
  split at h1
  .split at h1
   .obtain⟨R,hR,hn⟩:=h1;exact⟨R,hR,fun r st' hr=>hk _ _ (hn r st' hr)⟩
   .exact h1
  .split at h1
   .exact⟨h1.1,hk _ _ h1.2⟩
   .exact h1
def jI(ops:Array Oper)(j:Nat):Bool:=
 match ops[j]? with
 |none=>false
 |some oj=>(List.range ops.size).any fun i=>i != j&&((ops[i]?).map fun oi=>eH oi.op).getD false&&!(oj.after.any fun e=>Region.binds .any e&&e.on==i)
def Kx(ops:Array Oper)(S:St->Prop)(i:Nat)(o:Oper)(st st':St):Prop:=if aX o.op=true then st'=st else(jI ops i=true->S st')
def iX(P:Program)(T:Tab)(ops:Array Oper)(M:List Nat)(S:St->Prop)(J:Frm->St->Prop):Nat->Array Bool->Frm->St->Prop
 |0,listed,fr,st=>Region.ready .any ops listed=[]/\J fr st
 |fuel+1,listed,fr,st=>(Region.ready .any ops listed=[]->J fr st)/\
  ∀ i∈Region.ready .any ops listed,∃ o,ops[i]?=some o/\kV P T ops M o (fun Xj st'=>Kx ops S i o st st'/\iX P T ops M S J fuel (listed.setIfInBounds i true) Xj st') fr st
theorem HA(hT:bF P T){o:Oper}{Q:Exit->Act->World->Prop}{K:Frm->St->Prop}{K':Act->World->Prop}{w0:World}{g0:G}{fr:Frm}{st:St}{a:Act}{w:World}{g:G}{i:Nat}(ho:ops[i]?=some o)
 (K8:oF N o.dst=true) (hgd:jM N ops o.guard=true) (hi:Inv w g st) (hr:dO w g a fr) (hs:a.tmps.size=N) (hd:a.defers=[]) (he0:Ext w0 g0 w g)
 (hK:∀ Xj st' a' w' g',Inv w' g' st'->dO w' g' a' Xj->a'.tmps.size=N->a'.defers=[]->Ext w0 g0 w' g'->K Xj st'->K' a' w') (h:kV P T ops M o K fr st):wpOp P ops Q i K' a w:=by
 unfold kV at h;unfold wpOp;simp only[ho];cases hw:bG ops fr o.guard with
 |none=>rw[hw]at h;exact h.elim
 |some b=>
  rw[hw]at h;have hwt:Region.wanted o (yielded ops a.tmps)=b:=eE hr hw (by rw[hs];exact iD hgd);rw[hwt];cases b with
  |false=>simp only[aAR,aBB];exact hK _ _ _ _ g hi (dQ hr (by rw[hs];exact K8) uZ) (by rw[bS];exact hs) (by rw[put_defers];exact hd) he0 (h.2 rfl)
  |true=>
   simp only[aBn];left;have h1:=h.1 rfl;unfold Oper.wp
   split at h1
   .rename_i x args V0 u5
    split at h1
    .rename_i f cY hf;obtain⟨R,hR,hn⟩:=h1;have hx:=aE hr x;revert hf hx;cases hev:aI fr x with
     |fn f' caps'=>
      cases f' with
      |func f'=>
       intro hf hx;simp only[eJ,aAb,aAV]at hf;obtain⟨rfl,rfl⟩:=hf;simp only[Rep]at hx;obtain⟨us,hx,hus⟩:=hx;have Xv:(execOp a.eval o).run P w=.ok (.enter f' ((args.toList.map a.eval++us).toArray)) w:=by unfold execOp;simp only[u5,resolve,invoke,hx,Deferred.ofValue,Sem.run_bind,Sem.run_pure,Result.andThen_ok];simp only[Array.empty_append];rw[hR.1];simp
       rw[Xv,Oper.upon_enter];refine(hR.2 w g _ hi (bZ _ _ _ _ (Bf hr args.toList) hus)).mono ?_;rintro e w' ⟨v,r,st',g',rfl,hq,hv,Yp,he⟩;exact hK _ _ _ _ g' Yp (dQ (hr.mono he) (by rw[hs];exact K8) hv) (by rw[bS];exact hs) (by rw[put_defers];exact hd) (he0.trans he) (hn r st' hq)
      |_=>intro hf;simp[eJ]at hf
     |_=>intro hf;simp[eJ]at hf
    .exact h1.elim
   .split at h1
    .rename_i r c8;obtain⟨x,w',g',Xv,hx,Yp,he,_⟩:=wM (N:=N) hT c8 h1.1 a w g hi hr hs;rw[Xv];rcases hx with⟨v,rfl,hv⟩|⟨rfl,hdead⟩
     .rw[Oper.upon_value];exact hK _ _ _ _ g' Yp (dQ (hr.mono he) (by rw[hs];exact K8) hv) (by rw[bS];exact hs) (by rw[put_defers];exact hd) (he0.trans he) h1.2
     .rw[Oper.upon_skip];rw[hdead]at h1;exact hK _ _ _ _ g' Yp (dQ (hr.mono he) (by rw[hs];exact K8) (by simp only[Rep])) (by rw[bS];exact hs) (by rw[put_defers];exact hd) (he0.trans he) h1.2
    .exact h1.elim
theorem nS(hT:bF P T){S:St->Prop}{J:Frm->St->Prop}{Q:AQ}(hk:cX N ops ops.toList=true)(hJ:∀ fr st,J fr st->Q .normal fr st){w0:World}{g0:G}:
 ∀(fuel:Nat) (listed:Array Bool) (fr:Frm) (st:St) (a:Act) (w:World) (g:G),Inv w g st->dO w g a fr->a.tmps.size=N->a.defers=[]->Ext w0 g0 w g->
  iX P T ops M S J fuel listed fr st->wpAny P .any ops (kR N Q w0 g0) fuel listed a w
 |0,listed,fr,st,a,w,g,hi,hr,hs,hd,he,h=>⟨h.1,fr,st,g,hJ _ _ h.2,hi,hr,hs,hd,he⟩
 |fuel+1,listed,fr,st,a,w,g,hi,hr,hs,hd,he,h=>by
  refine⟨fun h0=>⟨fr,st,g,hJ _ _ (h.1 h0),hi,hr,hs,hd,he⟩,fun i Zu=>?_⟩;obtain⟨o,ho,YJ⟩:=h.2 i Zu;have hko:oF N o.dst=true/\jM N ops o.guard=true:=by unfold cX at hk;rw[aBC]at hk;have:=hk o (aEH.2 (aEy ho));simpa using this
  exact HA (N:=N) hT ho hko.1 hko.2 hi hr hs hd he (fun Xj st' a' w' g' Yp c8 J4 Yw G4 hK=>nS hT hk hJ fuel _ Xj st' a' w' g' Yp c8 J4 Yw G4 hK.2) YJ
theorem La{fr:Frm}{d:Option Nat}{v:LV}{x:Operand}(h:∀ t,d=some t->x≠.tmp t):aI (bP fr d v) x=aI fr x:=by
 cases d with
 |none=>rfl
 |some d=>
  cases x with
  |tmp t=>have:t≠d:=fun e=>h d rfl (by rw[e]);simp[aI,bP,upd,this]
  |_=>rfl
theorem Cs{m:Bool}{o:Oper}{fr Xj:Frm}{st:St}(h:∀ x∈o.op.operands,aI fr x=aI Xj x):aop T m o fr st=aop T m o Xj st:=by
 obtain⟨dst,op,ty,pos,after,guard⟩:=o;simp only at h;cases op<;>simp only[aop,Op.operands]at h ⊢<;>try rfl
 case move x=>rw[h x sS]
 case assign x=>rw[h x sS]
 case pick c a b=>rw[h c sS,h a sS,h b sS]
 case binOp op t x y t'=>rw[h x sS,h y sS]
 case unOp op t x=>rw[h x sS]
 case convert s d x=>rw[h x sS]
 case load t x=>rw[h x sS]
 case store t x v=>rw[h x sS,h v sS]
 case indexAddr t x i=>rw[h x sS,h i sS]
 case fieldAddr t x f=>rw[h x sS]
 case field t x f=>rw[h x sS]
 case slice t x lo hi mx=>
  rw[h x sS];have h1:lo.map (aI fr)=lo.map (aI Xj):=by cases lo with|none=>rfl|some y=>simp only[Option.map_some];rw[h y sS]
  have h2:hi.map (aI fr)=hi.map (aI Xj):=by cases hi with|none=>rfl|some y=>simp only[Option.map_some];rw[h y sS]
  have h3:mx.map (aI fr)=mx.map (aI Xj):=by cases mx with|none=>rfl|some y=>simp only[Option.map_some];rw[h y sS]
  rw[h1,h2,h3]
 case box t x=>rw[h x sS]
 case build t ps=>
  have:(ps.toList.map fun p=>(p.1,aI fr p.2))=ps.toList.map fun p=>(p.1,aI Xj p.2):=aAW fun p hp=>by rw[h p.2 (by simp;exact⟨p.1,by simpa using hp⟩)]
  rw[this]
 case buildSlice t n ps=>
  have:(ps.toList.map fun p=>(p.1,aI fr p.2))=ps.toList.map fun p=>(p.1,aI Xj p.2):=aAW fun p hp=>by rw[h p.2 (by simp;exact⟨p.1,by simpa using hp⟩)]
  rw[this]
 case makeFunc f first cY=>
  have:cY.toList.map (aI fr)=cY.toList.map (aI Xj):=aAW fun p hp=>h p (by simp;right;simpa using hp);rw[this]
 case extract x i=>rw[h x sS]
 case nilCheck x=>rw[h x sS]
 case lookup t x i ok=>rw[h x sS,h i sS]
 case index t x i=>rw[h x sS,h i sS]
 case mapUpdate t x i v=>rw[h x sS,h i sS,h v sS]
 case insert t x i v=>rw[h x sS,h i sS,h v sS]
 case makeSlice t l c=>rw[h l sS,h c sS]
 case makeMap t r=>
  have h1:r.map (aI fr)=r.map (aI Xj):=by cases r with|none=>rfl|some y=>simp only[Option.map_some];rw[h y sS]
  rw[h1]
 case call c=>
  obtain⟨callee,args,V0⟩:=c;obtain⟨args⟩:=args;have ha:∀ x∈args,aI fr x=aI Xj x:=fun x hx=>h x (by simp[Call.operands];right;exact hx);clear h;unfold CK
  split<;>simp_all
def lK(T:Tab)(ops:Array Oper)(M:List Nat)(S:St->Prop)(o:Oper)(v:LV)(fr:Frm):Prop:=
 (bG ops fr o.guard=some true/\aX o.op=true/\∀ st,S st->∃ r,aop T (inM M o.dst) o fr st=some r/\r.c/\r.v=v/\r.s=st)\/(bG ops fr o.guard=some false/\v=.tu [])
theorem lK.step{S:St->Prop}{o:Oper}{v:LV}{fr:Frm}{st:St}{K:Frm->St->Prop}(hy:lK T ops M S o v fr)(hS:S st)(h:K (bP fr o.dst v) st):kV P T ops M o K fr st:=by
 unfold kV;rcases hy with⟨hw,hq,hv⟩|⟨hw,rfl⟩
 .rw[hw];refine⟨fun _=>?_,(fun hb=>by cases hb)⟩;obtain⟨r,h1,h2,h3,h4⟩:=hv st hS
  split
  .rename_i u5;rw[u5]at hq;simp[aX]at hq
  .rw[h1];exact⟨h2,by rw[h3,h4];exact h⟩
 .rw[hw];exact⟨(fun hb=>by cases hb),fun _=>h⟩
theorem xF{o:Oper}{fr:Frm}{d:Option Nat}{v:LV}(h:∀ t,d=some t->t∉o.looksAt ops):∀ x∈o.op.operands,aI (bP fr d v) x=aI fr x:=by intro x hx;refine La fun t ht Y6=>h t ht ?_;subst Y6;exact aAw _ (List.mem_filterMap.2 ⟨.tmp t,by simpa using hx,rfl⟩)
theorem lZ{o:Oper}{fr:Frm}{d:Option Nat}{v:LV}(h:∀ t,d=some t->t∉o.looksAt ops):bG ops (bP fr d v) o.guard=bG ops fr o.guard:=by
 cases d with
 |none=>rfl
 |some d=>
  unfold bG;cases hg:o.guard with
  |none=>rfl
  |some p=>
   obtain⟨j,want⟩:=p;simp only;cases hd:(ops[j]?).bind (·.dst) with
   |none=>rfl
   |some t=>
    have Wm:t≠d:=by rintro rfl;refine h t rfl (aAI _ ?_);simp[hg,hd]
    simp[bP,upd,Wm]
theorem lK.keep{S:St->Prop}{o:Oper}{v:LV}{fr:Frm}(hy:lK T ops M S o v fr){d:Option Nat}(h:∀ t,d=some t->t∉o.looksAt ops)(u:LV):lK T ops M S o v (bP fr d u):=by
 rcases hy with⟨hw,hq,hv⟩|⟨hw,rfl⟩
 .left;refine⟨by rw[lZ h];exact hw,hq,fun st hS=>?_⟩;rw[Cs (xF h)];exact hv st hS
 .right;exact⟨by rw[lZ h];exact hw,rfl⟩
theorem Mu{fr:Frm}{d e:Option Nat}{u v:LV}(h:∀ t,d=some t->e≠some t):bP (bP fr d u) e v=bP (bP fr e v) d u:=by
 cases d with
 |none=>rfl
 |some d=>
  cases e with
  |none=>rfl
  |some e=>
   have Wm:e≠d:=fun h0=>h d rfl (by rw[h0])
   funext i
   simp only[bP,upd];by_cases h1:i=e
   .subst h1;simp[Wm]
   .by_cases h2:i=d
    .simp[h1,h2,aDi Wm]
    .simp[h1,h2]
theorem Ld{S:St->Prop}{oi oj:Oper}{v:LV}(hap:oi.apart ops oj=true){K:Frm->St->Prop}{fr:Frm}{st:St}(hy:lK T ops M S oi v fr)
 (h:kV P T ops M oj K (bP fr oi.dst v) st):kV P T ops M oj (fun Xj st'=>lK T ops M S oi v Xj/\K (bP Xj oi.dst v) st') fr st:=by
 obtain⟨h1,h2,h3⟩:=Oper.apart_spec hap;have hev:=xF (fr:=fr) (v:=v) h1;unfold kV at h ⊢;rw[lZ h1]at h;cases hw:bG ops fr oj.guard with
 |none=>rw[hw]at h;exact h
 |some b=>
  rw[hw]at h;have hk:∀ r,bP (bP fr oi.dst v) oj.dst r=bP (bP fr oj.dst r) oi.dst v:=fun r=>Mu h2;refine⟨fun hb=>?_,fun hb=>⟨hy.keep h3 _,by rw[<- hk];exact h.2 hb⟩⟩;have g:=h.1 hb
  split at g
  .rename_i x args V0 u5;simp only;have hx:aI (bP fr oi.dst v) x=aI fr x:=hev x (by rw[u5];simp[Op.operands,Call.operands]);have hargs:(args.toList.map (aI (bP fr oi.dst v)))=args.toList.map (aI fr):=aAW fun y P3=>by rw[hev y (by rw[u5];simp[Op.operands,Call.operands];right;simpa using P3)]
   rw[hx,hargs]at g
   split at g
   .obtain⟨R,hR,hn⟩:=g;exact⟨R,hR,fun r st' hr=>⟨hy.keep h3 _,by rw[<- hk];exact hn r st' hr⟩⟩
   .exact g
  .rename_i H6;rw[Cs hev]at g;cases hr:aop T (inM M oj.dst) oj fr st with
   |none=>rw[hr]at g;exact g
   |some r=>rw[hr]at g;exact⟨g.1,hy.keep h3 _,by rw[<- hk];exact g.2⟩
theorem OH{i j:Nat}{oi oj:Oper}(hi:ops[i]?=some oi)(hj:ops[j]?=some oj)(Wm:j≠i)(hh:eH oi.op=true)(YI:∀ e∈oj.after,Region.binds .any e=true->e.on≠i):jI ops j=true:=by unfold jI;rw[hj];simp only[aBO,aAX];refine⟨i,(aAt.1 hi).1,?_⟩;simp only[hi,Option.map_some,Option.getD_some,hh,aEJ,aAS,bne_iff_ne,ne_eq,aDY];refine⟨fun h=>Wm h.symm,?_⟩;rw[Array.any_eq_false'];intro e he;simp only[aAS,aCL,not_and];exact fun hb=>YI e he hb
theorem gV{S:St->Prop}{J:Frm->St->Prop}{i:Nat}{oi:Oper}{v:LV}(hi:ops[i]?=some oi):
 ∀(fuel:Nat) (listed:Array Bool) (fr:Frm) (st:St),
  (∀ j oj,ops[j]?=some oj->j≠i->listed.getD j true=false->(∀ e∈oj.after,Region.binds .any e=true->e.on≠i)->oi.apart ops oj=true)->
  i∈Region.ready .any ops listed->lK T ops M (fun st=>eH oi.op=true->S st) oi v fr->(eH oi.op=true->S st)->aX oi.op=true->
  iX P T ops M S J fuel (listed.setIfInBounds i true) (bP fr oi.dst v) st->iX P T ops M S J (fuel+1) listed fr st:=by
 intro fuel;induction fuel with
 |zero=>
  intro listed fr st _ hr hy hS hq H;refine⟨fun h=>(by rw[h]at hr;cases hr),fun j hj=>?_⟩;by_cases S1:j=i
  .subst S1;exact⟨oi,hi,hy.step hS ⟨by unfold Kx;rw[aAe hq],H⟩⟩
  .have:=ready_mono hj S1;rw[H.1]at this;cases this
 |succ fuel ih=>
  intro listed fr st hfree hr hy hS hq H;refine⟨fun h=>(by rw[h]at hr;cases hr),fun j hj=>?_⟩;by_cases S1:j=i
  .subst S1;exact⟨oi,hi,hy.step hS ⟨by unfold Kx;rw[aAe hq],H⟩⟩
  .obtain⟨oj',hoj',h1⟩:=H.2 j (ready_mono hj S1);obtain⟨hjun,oj,hoj,hall⟩:=mem_ready.1 hj;have hoo:oj'=oj:=by rw[hoj]at hoj';exact(aBb hoj').symm
   subst hoo;have hnot:∀ e∈oj'.after,Region.binds .any e=true->e.on≠i:=fun e he hb K4=>by
    have h1:=hall e he hb;have h0:=(mem_ready.1 hr).1;rw[K4]at h1;rcases aAB i listed.size with h'|h'
    .simp[h']at h0 h1;rw[h0]at h1;cases h1
    .simp[aEp h']at h1
   have h2:=Ld (hfree j oj' hoj S1 hjun hnot) hy h1
   have hfree':∀ k ok,ops[k]?=some ok->k≠i->(listed.setIfInBounds j true).getD k true=false->
    (∀ e∈ok.after,Region.binds .any e=true->e.on≠i)->oi.apart ops ok=true:=fun k ok hk Z8 hun YI=>by
    refine hfree k ok hk Z8 ?_ YI;by_cases I6:j=k
    .subst I6;exact hjun
    .rw[getD_set_ne true I6]at hun;exact hun
   refine⟨oj',hoj,h2.mono fun Xj st' h3=>⟨h3.2.1,?_⟩⟩;refine ih (listed.setIfInBounds j true) Xj st' hfree' (ready_mono hr (aDi S1)) h3.1 (fun hh=>?_) hq ?_
   .have hk:=h3.2.1;unfold Kx at hk
    split at hk
    .rw[hk];exact hS hh
    .exact hk (OH hi hoj S1 hh hnot)
   .rw[Array.setIfInBounds_comm _ _ S1];exact h3.2.2
def lF(ops:Array Oper):List Nat->Array Bool->Bool
 |[],listed=>(Region.ready .any ops listed).isEmpty
 |i::π,listed=>match ops[i]? with
  |some o=>(if aX o.op then(Region.ready .any ops listed).contains i&&Region.free .any ops listed i else Region.ready .any ops listed==[i])&&lF ops π (listed.setIfInBounds i true)
  |none=>false
def Lc(B:List Nat):LV->Prop
 |.pt l _=>l∈B
 |.ep _=>True
 |_=>False
def mF(fr:Frm):Op->LV
 |.load _ x=>aI fr x
 |.lookup _ x _ _=>Oi (aI fr x)
 |.call { callee:=.builtin .len,args:=⟨x::_⟩,.. }=>Oi (aI fr x)
 |_=>.ep []
def SB(B:List Nat)(Xs st:St):Prop:=∀ l∈B,st.H l=Xs.H l
def dV(P:Program)(T:Tab)(ops:Array Oper)(M B:List Nat)(Xs:St)(J:Frm->St->Prop):List (Nat×Bool×Oper)->Frm->St->Prop
 |[],fr,st=>J fr st
 |(_,nd,o)::π,fr,st=>match aX o.op with
  |true=>match bG ops fr o.guard with
   |some b=>(b=true->((eH o.op=true->SB B Xs st)/\Lc B (mF fr o.op)/\match aop T (inM M o.dst) o fr st with
     |some r=>r.c/\dV P T ops M B Xs J π (bP fr o.dst r.v) st
     |none=>False))/\(b=false->(eH o.op=true->SB B Xs st)/\dV P T ops M B Xs J π (bP fr o.dst (.tu [])) st)
   |none=>False
  |false=>kV P T ops M o (fun Xj st'=>(nd=true->SB B Xs st')/\dV P T ops M B Xs J π Xj st') fr st
theorem nF{o:Oper}{fr:Frm}{m:Bool}{st st':St}{r:bT}(hq:aX o.op=true)(hh:∀ l k,mF fr o.op=.pt l k->st'.H l=st.H l)(h:aop T m o fr st=some r):
 aop T m o fr st'=some (@bT.mk r.c r.v st' r.d):=by
 obtain⟨dst,op,ty,pos,after,guard⟩:=o;simp only at hq hh;cases op<;>simp only[aX,aAR]at hq<;>simp only[aop]at h ⊢
 case move x=>simp only[aAb]at h;subst h;rfl
 case assign x=>simp only[aAb]at h;subst h;rfl
 case pick c a b=>
  split at h
  .simp only[aAb]at h;subst h;rfl
  .simp at h
 case binOp op t x y t'=>
  unfold GS at h ⊢
  split at h
  .simp only[aBm]at h ⊢;obtain⟨p,h1,rfl⟩:=h;exact⟨p,h1,rfl⟩
  .split at h
   .simp only[aAb]at h;subst h;rfl
   .simp only[aAb]at h;subst h;rfl
   .simp at h
  .split at h
   .split at h
    .simp only[aAb]at h;subst h;simp_all
    .simp only[aAb]at h;subst h;simp_all
    .simp at h
   .simp at h
  .split at h
   .simp only[aAb]at h;subst h;simp_all
   .simp only[aAb]at h;subst h;simp_all
   .simp at h
  .split at h
   .simp only[aAb]at h;subst h;simp_all
   .simp only[aAb]at h;subst h;simp_all
   .simp at h
  .split at h
   .simp only[aAb]at h;subst h;simp_all
   .simp only[aAb]at h;subst h;simp_all
   .simp at h
  .split at h
   .simp only[aAb]at h;subst h;simp_all
   .simp only[aAb]at h;subst h;simp_all
   .simp at h
  .simp at h
 case unOp op t x=>
  unfold SD at h ⊢
  split at h
  .simp only[aAb]at h;subst h;rfl
  .simp only[aAb]at h;subst h;rfl
  .simp at h
 case convert s d x=>
  split at h
  .simp only[aAb]at h;subst h;rfl
  .simp at h
 case load t x=>
  unfold Ax at h ⊢;have hp:eD st' (aI fr x)=eD st (aI fr x):=by
   cases hx:aI fr x with
   |pt l k=>simp only[eD];rw[hh l k hx]
   |_=>rfl
  rw[hp]
  split at h
  .split at h
   .simp only[aAb]at h;subst h;rename_i h1 h2 h3;simp[h3]
   .simp only[aAb]at h;subst h;rename_i h1 h2 h3;simp[h3]
  .simp at h
 case indexAddr t x i=>
  unfold OE at h ⊢
  split at h
  .split at h
   .split at h
    .simp only[aAb]at h;subst h;rfl
    .split at h
     .simp only[aAb]at h;subst h;simp_all
     .simp at h
   .simp at h
  .simp at h
 case fieldAddr t x f=>
  unfold lA at h ⊢
  split at h
  .split at h
   .split at h
    .split at h
     .simp only[aAb]at h;subst h;simp_all
     .simp only[aAb]at h;subst h;simp_all
     .simp only[aAb]at h;subst h;rfl
     .simp at h
    .simp at h
   .simp at h
  .simp at h
 case field t x f=>
  unfold BS at h ⊢
  split at h
  .split at h
   .split at h
    .split at h
     .simp only[aAb]at h;subst h;simp_all
     .simp only[aAb]at h;subst h;simp_all
    .simp at h
   .simp at h
  .simp at h
 case slice t x lo hi mx=>
  unfold BJ at h ⊢
  split at h
  .split at h
   .split at h
    .split at h
     .split at h
      .simp only[aAb]at h;subst h;simp_all
      .simp at h
     .split at h
      .simp only[aAb]at h;subst h;simp_all
      .simp at h
     .split at h
      .simp only[aAb]at h;subst h;simp_all
      .simp at h
     .split at h
      .simp only[aAb]at h;subst h;simp_all
      .simp at h
     .split at h
      .split at h
       .simp only[aAb]at h;subst h;simp_all
       .simp at h
      .simp at h
    .split at h
     .simp only[aAb]at h;subst h;simp_all
     .split at h
      .simp only[aAb]at h;subst h;simp_all
      .simp only[aAb]at h;subst h;simp_all
      .simp at h
     .simp at h
    .simp at h
   .simp at h
  .simp at h
 case extract x i=>
  split at h
  .split at h
   .simp only[aAb]at h;subst h;simp_all
   .simp at h
  .simp at h
 case nilCheck x=>
  split at h
  .simp only[aAb]at h;subst h;rfl
  .simp only[aAb]at h;subst h;rfl
  .simp at h
 case index t x i=>
  unfold En at h ⊢
  split at h
  .simp only[aAb]at h;subst h;simp_all
  .simp at h
 case lookup t x i ok=>
  unfold tY at h ⊢;have hp:∀ l,aI fr x=.mp l->st'.H l=st.H l:=fun l hl=>hh l 0 (by simp[mF,hl,Oi])
  split at h
  .split at h
   .split at h
    .rename_i l hx;have hq:=hp l hx
     split at h
     .rename_i hH;simp only[aAb]at h;subst h;have hH':=hq.trans hH;clear hq hp hh;simp_all
     .simp at h
    .simp only[aAb]at h;subst h;simp_all
    .simp at h
   .simp at h
  .simp at h
 case makeFunc f first cY=>
  split at h
  .simp only[aAb]at h;subst h;simp_all
  .simp at h
 case call c=>
  obtain⟨callee,args,V0⟩:=c;unfold CK at h ⊢
  split at h<;>rename_i ZG _<;>(try simp only at ZG)
  .rename_i x t' ts hargs Zo;simp only at hargs Zo
   have hp:∀ l,aI fr x=.mp l->st'.H l=st.H l:=fun l hl=>hh l 0 (by
    have hargs':args=#[x]:=aEG ZG;rw[hargs',hargs]
    simp[mF,hl,Oi])
   cases hmk:kQ T t' with
   |some p=>
    simp only[hmk]at h ⊢;unfold RW at h ⊢;simp only[hmk]at h ⊢
    split at h
    .rename_i l _ hx;have hq:=hp l hx
     split at h
     .rename_i hH;simp only[aAb]at h;subst h;have hH':=hq.trans hH;clear hq hp hh;simp_all
     .simp at h
    .simp at h
   |none=>
   simp only[hmk]at h ⊢;unfold Qe at h ⊢
   split at h
   .split at h
    .simp only[aAb]at h;subst h;simp_all
    .simp only[aAb]at h;subst h;simp_all
    .split at h
     .simp only[aAb]at h;subst h;simp_all
     .simp at h
   .simp at h
  .unfold RO at h ⊢
   split at h
   .simp only[aAb]at h;subst h;simp_all
   .simp at h
  .unfold Qi at h ⊢
   split at h
   .simp only[aAb]at h;subst h;simp_all
   .simp at h
  all_goals (first|(exfalso;revert hq;simp_all[aX];done)|(simp at h;done)|(exfalso;simp_all[aX];done))
theorem DX{fr:Frm}{op:Op}{l k:Nat}(h:mF fr op=.pt l k):eH op=true:=by
 unfold mF at h
 split at h
 .rfl
 .rfl
 .rfl
 .cases h
theorem BK{B:List Nat}{Xs:St}{J:Frm->St->Prop}:∀(π:List (Nat×Bool×Oper)) (listed:Array Bool) (fr:Frm) (st:St),(∀ p∈π,ops[p.1]?=some p.2.2/\(jI ops p.1=true->p.2.1=true))->lF ops (π.map (·.1)) listed=true->
 dV P T ops M B Xs J π fr st->iX P T ops M (SB B Xs) J π.length listed fr st
 |[],listed,fr,st,_,hk,h=>by simp only[aBz,lF,List.isEmpty_iff]at hk;exact⟨hk,h⟩
 |(i,nd,o)::π,listed,fr,st,hp,hk,h=>by
  obtain⟨ho,hnd⟩:ops[i]?=some o/\(jI ops i=true->nd=true):=hp (i,nd,o) sS;simp only[aAj,lF,ho,aAS]at hk
  have ih:∀ fr st,(∀ p∈π,ops[p.1]?=some p.2.2/\(jI ops p.1=true->p.2.1=true))->lF ops (π.map (·.1)) (listed.setIfInBounds i true)=true->dV P T ops M B Xs J π fr st->iX P T ops M (SB B Xs) J π.length (listed.setIfInBounds i true) fr st:=
   fun fr st=>BK π (listed.setIfInBounds i true) fr st
  have Zg:∀ p∈π,ops[p.1]?=some p.2.2/\(jI ops p.1=true->p.2.1=true):=fun p hm=>hp p (by simp[hm]);unfold dV at h;cases hq:aX o.op with
  |true=>
   simp only[hq,aBn,aAS]at hk h;obtain⟨⟨G7,S9⟩,hk⟩:=hk;cases hw:bG ops fr o.guard with
   |none=>rw[hw]at h;exact h.elim
   |some b=>
    rw[hw]at h;cases b with
    |false=>exact gV ho _ listed fr st (Region.free_spec ho S9) (by simpa using G7) (.inr ⟨hw,rfl⟩) (h.2 rfl).1 hq (ih _ _ Zg hk (h.2 rfl).2)
    |true=>
     obtain⟨hS,hpt,h1⟩:=h.1 rfl
     split at h1
     .rename_i r hr;refine gV ho _ listed fr st (Region.free_spec ho S9) (by simpa using G7) (.inl ⟨hw,hq,fun st' hS'=>?_⟩) hS hq (ih _ _ Zg hk h1.2);refine⟨@bT.mk r.c r.v st' r.d,nF hq (fun l k hl=>?_) hr,h1.1,rfl,rfl⟩;rw[hl]at hpt;have hh:eH o.op=true:=DX hl;rw[hS' hh l hpt,hS hh l hpt]
     .exact h1.elim
  |false=>
   simp only[hq,aAR,aBB]at hk h;obtain⟨G7,hk⟩:=hk;have U3:Region.ready .any ops listed=[i]:=by simpa using G7
   refine⟨fun h0=>(by rw[h0]at U3;cases U3),fun j hj=>?_⟩;rw[U3]at hj;obtain rfl:j=i:=by simpa using hj
   refine⟨o,ho,h.mono fun Xj st' hh=>⟨?_,ih _ _ Zg hk hh.2⟩⟩;unfold Kx;simp only[hq,aAR,aBB];exact fun hn=>hh.1 (hnd hn)
def pick(ops:Array Oper)(π:List (Nat×Bool)):List (Nat×Bool×Oper):=π.filterMap fun p=>(ops[p.1]?).map fun o=>(p.1,p.2,o)
theorem Lf(hT:bF P T)(M B:List Nat)(π:List (Nat×Bool)){Q:AQ}{id:Nat}{fr:Frm}{st:St}(hm:P.follows .mixedOrders=true)(hk:cX N ops ops.toList=true)
 (hπ:(lF ops ((pick ops π).map (·.1)) (Array.replicate ops.size false)&&((pick ops π).length==ops.size)&&(π.all fun p=>!jI ops p.1||p.2))=true)
 (h:∀ J:Frm->St->Prop,(∀ fr st,Q .normal fr st->J fr st)->dV P T ops M B st J (pick ops π) fr st):AWp P N (.region id ops true) Q fr st:=by
 intro a w g hi hr hs hd;simp only[aAS,aCL]at hπ;obtain⟨⟨hπ1,hπ2⟩,hπ3⟩:=hπ;refine wp_region_any hm ?_;have hp:∀ p∈pick ops π,ops[p.1]?=some p.2.2/\(jI ops p.1=true->p.2.1=true):=by intro p hp;unfold pick at hp;simp only[List.mem_filterMap,aBm]at hp;obtain⟨q,hq,o,ho,rfl⟩:=hp;refine⟨ho,fun hn=>?_⟩;rw[aBC]at hπ3;have:=hπ3 q hq;simpa[hn]using this
 have hA:=BK (pick ops π) (Array.replicate ops.size false) fr st hp hπ1 (h (fun fr st=>Q .normal fr st) (fun _ _ h=>h));rw[hπ2]at hA;have Zv:Ext w g { w with drawn:=w.drawn+1 } g:=dG w g;exact nS hT hk (fun _ _ h=>h) _ _ fr st a { w with drawn:=w.drawn+1 } g hi.drew (hr.mono Zv) hs hd Zv hA
def MF(P:Program)(T:Tab)(ops:Array Oper)(M B:List Nat)(Xs:St)(J:Frm->St->Prop)(π:List (Nat×Bool×Oper))(o:Oper)(fr:Frm)(st:St):Option Bool->Prop
 |some b=>(b=true->((eH o.op=true->SB B Xs st)/\Lc B (mF fr o.op)/\match aop T (inM M o.dst) o fr st with
   |some r=>r.c/\dV P T ops M B Xs J π (bP fr o.dst r.v) st
   |none=>False))/\(b=false->(eH o.op=true->SB B Xs st)/\dV P T ops M B Xs J π (bP fr o.dst (.tu [])) st)
 |none=>False
def Vy(P:Program)(T:Tab)(ops:Array Oper)(M B:List Nat)(Xs:St)(J:Frm->St->Prop)(π:List (Nat×Bool×Oper))(o:Oper)(fr:Frm)(st:St):Option bT->Prop
 |some r=>r.c/\dV P T ops M B Xs J π (bP fr o.dst r.v) st
 |none=>False
def Ve(P:Program)(T:Tab)(ops:Array Oper)(M B:List Nat)(Xs:St)(J:Frm->St->Prop)(π:List (Nat×Bool×Oper))(nd:Bool)(o:Oper)(fr:Frm):Option bT->Prop
 |some r=>r.c/\(nd=true->SB B Xs r.s)/\dV P T ops M B Xs J π (bP fr o.dst r.v) r.s
 |none=>False
def EK(P:Program)(T:Tab)(ops:Array Oper)(M B:List Nat)(Xs:St)(J:Frm->St->Prop)(π:List (Nat×Bool×Oper))(nd:Bool)(d:Option Nat)(fr:Frm)(st:St)(f:FuncId)(args:List LV):Prop:=
 ∃ R,aB P f args st R/\∀ r st',R r st'->(nd=true->SB B Xs st')/\dV P T ops M B Xs J π (bP fr d r) st'
def Vm(P:Program)(T:Tab)(ops:Array Oper)(M B:List Nat)(Xs:St)(J:Frm->St->Prop)(π:List (Nat×Bool×Oper))(nd:Bool)(d:Option Nat)(fr:Frm)(st:St)(args:List LV):Option (FuncId×List LV)->Prop
 |some (f,cY)=>EK P T ops M B Xs J π nd d fr st f (args++cY)
 |none=>False
def Ua(P:Program)(T:Tab)(ops:Array Oper)(M B:List Nat)(Xs:St)(J:Frm->St->Prop)(π:List (Nat×Bool×Oper))(nd:Bool)(o:Oper)(fr:Frm)(st:St):Prop:=
 match o.op with
 |.call { callee:=.value x,args:=args,argTypes:=_ }=>Vm P T ops M B Xs J π nd o.dst fr st (args.toList.map (aI fr)) (eJ (aI fr x))
 |_=>Ve P T ops M B Xs J π nd o fr (aop T (inM M o.dst) o fr st)
def IM(P:Program)(T:Tab)(ops:Array Oper)(M B:List Nat)(Xs:St)(J:Frm->St->Prop)(π:List (Nat×Bool×Oper))(nd:Bool)(o:Oper)(fr:Frm)(st:St):Option Bool->Prop
 |some b=>(b=true->Ua P T ops M B Xs J π nd o fr st)/\(b=false->(nd=true->SB B Xs st)/\dV P T ops M B Xs J π (bP fr o.dst (.tu [])) st)
 |none=>False
def Oe(P:Program)(T:Tab)(ops:Array Oper)(M B:List Nat)(Xs:St)(J:Frm->St->Prop)(π:List (Nat×Bool×Oper))(nd:Bool)(o:Oper)(fr:Frm)(st:St):Bool->Prop
 |true=>MF P T ops M B Xs J π o fr st (bG ops fr o.guard)
 |false=>IM P T ops M B Xs J π nd o fr st (bG ops fr o.guard)
variable {B:List Nat} {Xs:St} {J:Frm->St->Prop} {π:List (Nat×Bool×Oper)} {nd:Bool} {o:Oper} {fr:Frm} {st:St} {d:Option Nat}
theorem Va:dV P T ops M B Xs J [] fr st=J fr st:=rfl
theorem Ui(i:Nat):dV P T ops M B Xs J ((i,nd,o)::π) fr st=Oe P T ops M B Xs J π nd o fr st (aX o.op):=by
 unfold dV;cases hq:aX o.op with
 |true=>simp only[Oe];cases bG ops fr o.guard<;>rfl
 |false=>
  simp only[Oe];unfold kV;cases bG ops fr o.guard with
  |none=>rfl
  |some b=>
   simp only[IM]
   congr 1
theorem Ql:Oe P T ops M B Xs J π nd o fr st true=MF P T ops M B Xs J π o fr st (bG ops fr o.guard):=rfl
theorem Tt:Oe P T ops M B Xs J π nd o fr st false=IM P T ops M B Xs J π nd o fr st (bG ops fr o.guard):=rfl
theorem Wo:MF P T ops M B Xs J π o fr st (some true)=((eH o.op=true->SB B Xs st)/\Lc B (mF fr o.op)/\Vy P T ops M B Xs J π o fr st (aop T (inM M o.dst) o fr st)):=by simp only[MF,forall_const,Bool.true_eq_false,false_implies,aDo];cases aop T (inM M o.dst) o fr st<;>rfl
theorem XL:MF P T ops M B Xs J π o fr st (some false)=((eH o.op=true->SB B Xs st)/\dV P T ops M B Xs J π (bP fr o.dst (.tu [])) st):=by simp[MF]
theorem d_a(r:bT):Vy P T ops M B Xs J π o fr st (some r)=(r.c/\dV P T ops M B Xs J π (bP fr o.dst r.v) st):=rfl
theorem Xb:IM P T ops M B Xs J π nd o fr st (some true)=Ua P T ops M B Xs J π nd o fr st:=by simp[IM]
theorem XN:IM P T ops M B Xs J π nd o fr st (some false)=((nd=true->SB B Xs st)/\dV P T ops M B Xs J π (bP fr o.dst (.tu [])) st):=by simp[IM]
theorem d_l(r:bT):Ve P T ops M B Xs J π nd o fr (some r)=(r.c/\(nd=true->SB B Xs r.s)/\dV P T ops M B Xs J π (bP fr o.dst r.v) r.s):=rfl
theorem Ub(f:FuncId)(cY args:List LV):Vm P T ops M B Xs J π nd d fr st args (some (f,cY))=EK P T ops M B Xs J π nd d fr st f (args++cY):=rfl
theorem aV(h:dV P T ops M B Xs J π fr st):dV P T ops M B Xs J π fr st:=h
theorem aJ{f:FuncId}{args:List LV}{R:LV->St->Prop}(h:aB P f args st R)(hk:∀ r st',R r st'->(nd=true->SB B Xs st')/\dV P T ops M B Xs J π (bP fr d r) st'):EK P T ops M B Xs J π nd d fr st f args:=⟨R,h,hk⟩
theorem rK(p:Nat×Bool)(l:List (Nat×Bool)):pick ops (p::l)=match ops[p.1]? with|some o=>(p.1,p.2,o)::pick ops l|none=>pick ops l:=by unfold pick;simp only[List.filterMap_cons];cases ops[p.1]?<;>rfl
theorem Fm:pick ops []=[]:=rfl
theorem UF:SB [] Xs st=True:=by simp[SB]
theorem Rr(b:Nat)(l:List Nat):SB (b::l) Xs st=(st.H b=Xs.H b/\SB l Xs st):=by simp[SB]
end
end Aw
end Go.Proofs.YtempldclppogmaaGreatDoor
