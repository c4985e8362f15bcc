/- Regions whose order is open, at large: what only looks is taken as soon as it may come; the rest one behind the other. No program is named here. -/
import Derived.Test.YtempldclppogmaaGreatDoorAwRun
import Derived.Orders
set_option linter.unusedVariables false
set_option linter.unusedSimpArgs false
namespace Go.Proofs.YtempldclppogmaaGreatDoor
namespace Aw
open Go Go.RowKit
def eJ:Op->Bool
 |.load ..=>true
 |.lookup ..=>true
 |.call { callee:=.builtin .len,.. }=>true
 |_=>false
def NF:LV->LV
 |.mp l=>.pt l 0
 |_=>.ep []
section
variable {P:Program} {T:Tab} {N:Nat} {ops:Array Oper} {M:List Nat}
def kI(P:Program)(T:Tab)(ops:Array Oper)(M:List Nat)(o:Oper)(K:Frm->St->Prop)(fr:Frm)(st:St):Prop:=
 match bI ops fr o.guard with
 |some b=>(b=true->(match o.op with
   |.call { callee:=.value x,args:=args,argTypes:=_ }=>match eM (aH fr x) with
    |some (f,cX)=>∃ R,aB P f ((args.toList.map (aH fr))++cX) st R/\∀ r st',R r st'->K (bU fr o.dst r) st'
    |none=>False
   |_=>match aop T (inM M o.dst) o fr st with
    |some r=>r.c/\K (bU fr o.dst r.v) r.s
    |none=>False))/\(b=false->K (bU fr o.dst (.tu [])) st)
 |none=>False
theorem kI.mono{o:Oper}{K K':Frm->St->Prop}{fr:Frm}{st:St}(hk:∀ fr st,K fr st->K' fr st)(h:kI P T ops M o K fr st):kI P T ops M o K' fr st:=by
 unfold kI at h ⊢;cases hw:bI ops fr o.guard with
 |none=>rw[hw]at h;exact h
 |some b=>
  rw[hw]at h;refine⟨fun hb=>?_,fun hb=>hk _ _ (h.2 hb)⟩;have h1:=h.1 hb
  split at h1
  .split at h1
   .obtain⟨R,hR,hn⟩:=h1;exact⟨R,hR,fun r st' hr=>hk _ _ (hn r st' hr)⟩
   .exact h1
  .split at h1
   .exact⟨h1.1,hk _ _ h1.2⟩
   .exact h1
def jO(ops:Array Oper)(j:Nat):Bool:=
 match ops[j]? with
 |none=>false
 |some oj=>(List.range ops.size).any fun i=>i != j&&((ops[i]?).map fun oi=>eJ oi.op).getD false&&!(oj.after.any fun e=>Region.binds .any e&&e.on==i)
def Kx(ops:Array Oper)(S:St->Prop)(i:Nat)(o:Oper)(st st':St):Prop:=if aX o.op=true then st'=st else(jO ops i=true->S st')
def jM(P:Program)(T:Tab)(ops:Array Oper)(M:List Nat)(S:St->Prop)(J:Frm->St->Prop):Nat->Array Bool->Frm->St->Prop
 |0,listed,fr,st=>Region.ready .any ops listed=[]/\J fr st
 |fuel+1,listed,fr,st=>(Region.ready .any ops listed=[]->J fr st)/\
  ∀ i∈Region.ready .any ops listed,∃ o,ops[i]?=some o/\kI P T ops M o (fun Xg st'=>Kx ops S i o st st'/\jM P T ops M S J fuel (listed.setIfInBounds i true) Xg st') fr st
theorem Gv(hT:bJ P T){o:Oper}{Q:Exit->Act->World->Prop}{K:Frm->St->Prop}{K':Act->World->Prop}{w0:World}{g0:G}{fr:Frm}{st:St}{a:Act}{w:World}{g:G}{i:Nat}(ho:ops[i]?=some o)
 (J4:oL N o.dst=true) (hgd:jU N ops o.guard=true) (hi:Inv w g st) (hr:dN w g a fr) (hs:a.tmps.size=N) (hd:a.defers=[]) (he0:Ext w0 g0 w g)
 (hK:∀ Xg st' a' w' g',Inv w' g' st'->dN w' g' a' Xg->a'.tmps.size=N->a'.defers=[]->Ext w0 g0 w' g'->K Xg st'->K' a' w') (h:kI P T ops M o K fr st):wpOp P ops Q i K' a w:=by
 unfold kI at h;unfold wpOp;simp only[ho];cases hw:bI ops fr o.guard with
 |none=>rw[hw]at h;exact h.elim
 |some b=>
  rw[hw]at h;have hwt:Region.wanted o (yielded ops a.tmps)=b:=eH hr hw (by rw[hs];exact iD hgd);rw[hwt];cases b with
  |false=>simp only[aAS,aBD];exact hK _ _ _ _ g hi (dQ hr (by rw[hs];exact J4) wM) (by rw[bV];exact hs) (by rw[put_defers];exact hd) he0 (h.2 rfl)
  |true=>
   simp only[aBq];left;have h1:=h.1 rfl;unfold Oper.wp
   split at h1
   .rename_i x args T5 o9
    split at h1
    .rename_i f cX hf;obtain⟨R,hR,hn⟩:=h1;have hx:=aD hr x;revert hf hx;cases hev:aH fr x with
     |fn f' caps'=>
      cases f' with
      |func f'=>
       intro hf hx;simp only[eM,aAb,aAW]at hf;obtain⟨rfl,rfl⟩:=hf;simp only[Rep]at hx;obtain⟨us,hx,hus⟩:=hx;have Xr:(execOp a.eval o).run P w=.ok (.enter f' ((args.toList.map a.eval++us).toArray)) w:=by unfold execOp;simp only[o9,resolve,invoke,hx,Deferred.ofValue,Sem.run_bind,Sem.run_pure,Result.andThen_ok];simp only[Array.empty_append];rw[hR.1];simp
       rw[Xr,Oper.upon_enter];refine(hR.2 w g _ hi (cB _ _ _ _ (Av hr args.toList) hus)).mono ?_;rintro e w' ⟨v,r,st',g',rfl,hq,hv,Yq,he⟩;exact hK _ _ _ _ g' Yq (dQ (hr.mono he) (by rw[hs];exact J4) hv) (by rw[bV];exact hs) (by rw[put_defers];exact hd) (he0.trans he) (hn r st' hq)
      |_=>intro hf;simp[eM]at hf
     |_=>intro hf;simp[eM]at hf
    .exact h1.elim
   .split at h1
    .rename_i r j5;obtain⟨x,w',g',Xr,hx,Yq,he,_⟩:=vP (N:=N) hT j5 h1.1 a w g hi hr hs;rw[Xr];rcases hx with⟨v,rfl,hv⟩|⟨rfl,hdead⟩
     .rw[Oper.upon_value];exact hK _ _ _ _ g' Yq (dQ (hr.mono he) (by rw[hs];exact J4) hv) (by rw[bV];exact hs) (by rw[put_defers];exact hd) (he0.trans he) h1.2
     .rw[Oper.upon_skip];rw[hdead]at h1;exact hK _ _ _ _ g' Yq (dQ (hr.mono he) (by rw[hs];exact J4) (by simp only[Rep])) (by rw[bV];exact hs) (by rw[put_defers];exact hd) (he0.trans he) h1.2
    .exact h1.elim
theorem nW(hT:bJ P T){S:St->Prop}{J:Frm->St->Prop}{Q:AQ}(hk:cV N ops ops.toList=true)(hJ:∀ fr st,J fr st->Q .normal fr st){w0:World}{g0:G}:
 ∀(fuel:Nat) (listed:Array Bool) (fr:Frm) (st:St) (a:Act) (w:World) (g:G),Inv w g st->dN w g a fr->a.tmps.size=N->a.defers=[]->Ext w0 g0 w g->
  jM P T ops M S J fuel listed fr st->wpAny P .any ops (lI N Q w0 g0) fuel listed a w
 |0,listed,fr,st,a,w,g,hi,hr,hs,hd,he,h=>⟨h.1,fr,st,g,hJ _ _ h.2,hi,hr,hs,hd,he⟩
 |fuel+1,listed,fr,st,a,w,g,hi,hr,hs,hd,he,h=>by
  refine⟨fun h0=>⟨fr,st,g,hJ _ _ (h.1 h0),hi,hr,hs,hd,he⟩,fun i Yp=>?_⟩;obtain⟨o,ho,YY⟩:=h.2 i Yp;have hko:oL N o.dst=true/\jU N ops o.guard=true:=by unfold cV at hk;rw[aBr]at hk;have:=hk o (aEN.2 (aEG ho));simpa using this
  exact Gv (N:=N) hT ho hko.1 hko.2 hi hr hs hd he (fun Xg st' a' w' g' Yq j5 I3 Zh F8 hK=>nW hT hk hJ fuel _ Xg st' a' w' g' Yq j5 I3 Zh F8 hK.2) YY
theorem NB{fr:Frm}{d:Option Nat}{v:LV}{x:Operand}(h:∀ t,d=some t->x≠.tmp t):aH (bU fr d v) x=aH fr x:=by
 cases d with
 |none=>rfl
 |some d=>
  cases x with
  |tmp t=>have:t≠d:=fun e=>h d rfl (by rw[e]);simp[aH,bU,upd,this]
  |_=>rfl
theorem Cg{m:Bool}{o:Oper}{fr Xg:Frm}{st:St}(h:∀ x∈o.op.operands,aH fr x=aH Xg x):aop T m o fr st=aop T m o Xg st:=by
 obtain⟨dst,op,ty,pos,after,guard⟩:=o;simp only at h;cases op<;>simp only[aop,Op.operands]at h ⊢<;>try rfl
 case move x=>rw[h x sS]
 case assign x=>rw[h x sS]
 case pick c a b=>rw[h c sS,h a sS,h b sS]
 case binOp op t x y t'=>rw[h x sS,h y sS]
 case unOp op t x=>rw[h x sS]
 case convert s d x=>rw[h x sS]
 case load t x=>rw[h x sS]
 case store t x v=>rw[h x sS,h v sS]
 case indexAddr t x i=>rw[h x sS,h i sS]
 case fieldAddr t x f=>rw[h x sS]
 case field t x f=>rw[h x sS]
 case slice t x lo hi mx=>
  rw[h x sS];have h1:lo.map (aH fr)=lo.map (aH Xg):=by cases lo with|none=>rfl|some y=>simp only[Option.map_some];rw[h y sS]
  have h2:hi.map (aH fr)=hi.map (aH Xg):=by cases hi with|none=>rfl|some y=>simp only[Option.map_some];rw[h y sS]
  have h3:mx.map (aH fr)=mx.map (aH Xg):=by cases mx with|none=>rfl|some y=>simp only[Option.map_some];rw[h y sS]
  rw[h1,h2,h3]
 case box t x=>rw[h x sS]
 case build t ps=>
  have:(ps.toList.map fun p=>(p.1,aH fr p.2))=ps.toList.map fun p=>(p.1,aH Xg p.2):=aAU fun p hp=>by rw[h p.2 (by simp;exact⟨p.1,by simpa using hp⟩)]
  rw[this]
 case buildSlice t n ps=>
  have:(ps.toList.map fun p=>(p.1,aH fr p.2))=ps.toList.map fun p=>(p.1,aH Xg p.2):=aAU fun p hp=>by rw[h p.2 (by simp;exact⟨p.1,by simpa using hp⟩)]
  rw[this]
 case makeFunc f first cX=>
  have:cX.toList.map (aH fr)=cX.toList.map (aH Xg):=aAU fun p hp=>h p (by simp;right;simpa using hp);rw[this]
 case extract x i=>rw[h x sS]
 case nilCheck x=>rw[h x sS]
 case lookup t x i ok=>rw[h x sS,h i sS]
 case index t x i=>rw[h x sS,h i sS]
 case mapUpdate t x i v=>rw[h x sS,h i sS,h v sS]
 case insert t x i v=>rw[h x sS,h i sS,h v sS]
 case makeSlice t l c=>rw[h l sS,h c sS]
 case makeMap t r=>
  have h1:r.map (aH fr)=r.map (aH Xg):=by cases r with|none=>rfl|some y=>simp only[Option.map_some];rw[h y sS]
  rw[h1]
 case call c=>
  obtain⟨callee,args,T5⟩:=c;obtain⟨args⟩:=args;have ha:∀ x∈args,aH fr x=aH Xg x:=fun x hx=>h x (by simp[Call.operands];right;exact hx);clear h;unfold CV
  split<;>simp_all
def lR(T:Tab)(ops:Array Oper)(M:List Nat)(S:St->Prop)(o:Oper)(v:LV)(fr:Frm):Prop:=
 (bI ops fr o.guard=some true/\aX o.op=true/\∀ st,S st->∃ r,aop T (inM M o.dst) o fr st=some r/\r.c/\r.v=v/\r.s=st)\/(bI ops fr o.guard=some false/\v=.tu [])
theorem lR.step{S:St->Prop}{o:Oper}{v:LV}{fr:Frm}{st:St}{K:Frm->St->Prop}(hy:lR T ops M S o v fr)(hS:S st)(h:K (bU fr o.dst v) st):kI P T ops M o K fr st:=by
 unfold kI;rcases hy with⟨hw,hq,hv⟩|⟨hw,rfl⟩
 .rw[hw];refine⟨fun _=>?_,(fun hb=>by cases hb)⟩;obtain⟨r,h1,h2,h3,h4⟩:=hv st hS
  split
  .rename_i o9;rw[o9]at hq;simp[aX]at hq
  .rw[h1];exact⟨h2,by rw[h3,h4];exact h⟩
 .rw[hw];exact⟨(fun hb=>by cases hb),fun _=>h⟩
theorem xQ{o:Oper}{fr:Frm}{d:Option Nat}{v:LV}(h:∀ t,d=some t->t∉o.looksAt ops):∀ x∈o.op.operands,aH (bU fr d v) x=aH fr x:=by intro x hx;refine NB fun t ht hxt=>h t ht ?_;subst hxt;exact aAt _ (List.mem_filterMap.2 ⟨.tmp t,by simpa using hx,rfl⟩)
theorem mM{o:Oper}{fr:Frm}{d:Option Nat}{v:LV}(h:∀ t,d=some t->t∉o.looksAt ops):bI ops (bU fr d v) o.guard=bI ops fr o.guard:=by
 cases d with
 |none=>rfl
 |some d=>
  unfold bI;cases hg:o.guard with
  |none=>rfl
  |some p=>
   obtain⟨j,want⟩:=p;simp only;cases hd:(ops[j]?).bind (·.dst) with
   |none=>rfl
   |some t=>
    have Wu:t≠d:=by rintro rfl;refine h t rfl (aAI _ ?_);simp[hg,hd]
    simp[bU,upd,Wu]
theorem lR.keep{S:St->Prop}{o:Oper}{v:LV}{fr:Frm}(hy:lR T ops M S o v fr){d:Option Nat}(h:∀ t,d=some t->t∉o.looksAt ops)(u:LV):lR T ops M S o v (bU fr d u):=by
 rcases hy with⟨hw,hq,hv⟩|⟨hw,rfl⟩
 .left;refine⟨by rw[mM h];exact hw,hq,fun st hS=>?_⟩;rw[Cg (xQ h)];exact hv st hS
 .right;exact⟨by rw[mM h];exact hw,rfl⟩
theorem LH{fr:Frm}{d e:Option Nat}{u v:LV}(h:∀ t,d=some t->e≠some t):bU (bU fr d u) e v=bU (bU fr e v) d u:=by
 cases d with
 |none=>rfl
 |some d=>
  cases e with
  |none=>rfl
  |some e=>
   have Wu:e≠d:=fun h0=>h d rfl (by rw[h0])
   funext i
   simp only[bU,upd];by_cases h1:i=e
   .subst h1;simp[Wu]
   .by_cases h2:i=d
    .simp[h1,h2,aDi Wu]
    .simp[h1,h2]
theorem MN{S:St->Prop}{oi oj:Oper}{v:LV}(hap:oi.apart ops oj=true){K:Frm->St->Prop}{fr:Frm}{st:St}(hy:lR T ops M S oi v fr)
 (h:kI P T ops M oj K (bU fr oi.dst v) st):kI P T ops M oj (fun Xg st'=>lR T ops M S oi v Xg/\K (bU Xg oi.dst v) st') fr st:=by
 obtain⟨h1,h2,h3⟩:=Oper.apart_spec hap;have hev:=xQ (fr:=fr) (v:=v) h1;unfold kI at h ⊢;rw[mM h1]at h;cases hw:bI ops fr oj.guard with
 |none=>rw[hw]at h;exact h
 |some b=>
  rw[hw]at h;have hk:∀ r,bU (bU fr oi.dst v) oj.dst r=bU (bU fr oj.dst r) oi.dst v:=fun r=>LH h2;refine⟨fun hb=>?_,fun hb=>⟨hy.keep h3 _,by rw[<- hk];exact h.2 hb⟩⟩;have g:=h.1 hb
  split at g
  .rename_i x args T5 o9;simp only;have hx:aH (bU fr oi.dst v) x=aH fr x:=hev x (by rw[o9];simp[Op.operands,Call.operands]);have hargs:(args.toList.map (aH (bU fr oi.dst v)))=args.toList.map (aH fr):=aAU fun y O4=>by rw[hev y (by rw[o9];simp[Op.operands,Call.operands];right;simpa using O4)]
   rw[hx,hargs]at g
   split at g
   .obtain⟨R,hR,hn⟩:=g;exact⟨R,hR,fun r st' hr=>⟨hy.keep h3 _,by rw[<- hk];exact hn r st' hr⟩⟩
   .exact g
  .rename_i G3;rw[Cg hev]at g;cases hr:aop T (inM M oj.dst) oj fr st with
   |none=>rw[hr]at g;exact g
   |some r=>rw[hr]at g;exact⟨g.1,hy.keep h3 _,by rw[<- hk];exact g.2⟩
theorem Nh{i j:Nat}{oi oj:Oper}(hi:ops[i]?=some oi)(hj:ops[j]?=some oj)(Wu:j≠i)(hh:eJ oi.op=true)(YD:∀ e∈oj.after,Region.binds .any e=true->e.on≠i):jO ops j=true:=by unfold jO;rw[hj];simp only[aBX,aBa];refine⟨i,(aAw.1 hi).1,?_⟩;simp only[hi,Option.map_some,Option.getD_some,hh,aEP,aAT,bne_iff_ne,ne_eq,aDe];refine⟨fun h=>Wu h.symm,?_⟩;rw[Array.any_eq_false'];intro e he;simp only[aAT,aCW,not_and];exact fun hb=>YD e he hb
theorem iB{S:St->Prop}{J:Frm->St->Prop}{i:Nat}{oi:Oper}{v:LV}(hi:ops[i]?=some oi):
 ∀(fuel:Nat) (listed:Array Bool) (fr:Frm) (st:St),
  (∀ j oj,ops[j]?=some oj->j≠i->listed.getD j true=false->(∀ e∈oj.after,Region.binds .any e=true->e.on≠i)->oi.apart ops oj=true)->
  i∈Region.ready .any ops listed->lR T ops M (fun st=>eJ oi.op=true->S st) oi v fr->(eJ oi.op=true->S st)->aX oi.op=true->
  jM P T ops M S J fuel (listed.setIfInBounds i true) (bU fr oi.dst v) st->jM P T ops M S J (fuel+1) listed fr st:=by
 intro fuel;induction fuel with
 |zero=>
  intro listed fr st _ hr hy hS hq H;refine⟨fun h=>(by rw[h]at hr;cases hr),fun j hj=>?_⟩;by_cases P0:j=i
  .subst P0;exact⟨oi,hi,hy.step hS ⟨by unfold Kx;rw[aAe hq],H⟩⟩
  .have:=ready_mono hj P0;rw[H.1]at this;cases this
 |succ fuel ih=>
  intro listed fr st hfree hr hy hS hq H;refine⟨fun h=>(by rw[h]at hr;cases hr),fun j hj=>?_⟩;by_cases P0:j=i
  .subst P0;exact⟨oi,hi,hy.step hS ⟨by unfold Kx;rw[aAe hq],H⟩⟩
  .obtain⟨oj',hoj',h1⟩:=H.2 j (ready_mono hj P0);obtain⟨hjun,oj,hoj,hall⟩:=mem_ready.1 hj;have hoo:oj'=oj:=by rw[hoj]at hoj';exact(aBf hoj').symm
   subst hoo;have hnot:∀ e∈oj'.after,Region.binds .any e=true->e.on≠i:=fun e he hb M5=>by
    have h1:=hall e he hb;have h0:=(mem_ready.1 hr).1;rw[M5]at h1;rcases aAN i listed.size with h'|h'
    .simp[h']at h0 h1;rw[h0]at h1;cases h1
    .simp[aEx h']at h1
   have h2:=MN (hfree j oj' hoj P0 hjun hnot) hy h1
   have hfree':∀ k ok,ops[k]?=some ok->k≠i->(listed.setIfInBounds j true).getD k true=false->
    (∀ e∈ok.after,Region.binds .any e=true->e.on≠i)->oi.apart ops ok=true:=fun k ok hk hki hun YD=>by
    refine hfree k ok hk hki ?_ YD;by_cases K8:j=k
    .subst K8;exact hjun
    .rw[getD_set_ne true K8]at hun;exact hun
   refine⟨oj',hoj,h2.mono fun Xg st' h3=>⟨h3.2.1,?_⟩⟩;refine ih (listed.setIfInBounds j true) Xg st' hfree' (ready_mono hr (aDi P0)) h3.1 (fun hh=>?_) hq ?_
   .have hk:=h3.2.1;unfold Kx at hk
    split at hk
    .rw[hk];exact hS hh
    .exact hk (Nh hi hoj P0 hh hnot)
   .rw[Array.setIfInBounds_comm _ _ P0];exact h3.2.2
def lO(ops:Array Oper):List Nat->Array Bool->Bool
 |[],listed=>(Region.ready .any ops listed).isEmpty
 |i::π,listed=>match ops[i]? with
  |some o=>(if aX o.op then(Region.ready .any ops listed).contains i&&Region.free .any ops listed i else Region.ready .any ops listed==[i])&&lO ops π (listed.setIfInBounds i true)
  |none=>false
def Mt(B:List Nat):LV->Prop
 |.pt l _=>l∈B
 |.ep _=>True
 |_=>False
def mI(fr:Frm):Op->LV
 |.load _ x=>aH fr x
 |.lookup _ x _ _=>NF (aH fr x)
 |.call { callee:=.builtin .len,args:=⟨x::_⟩,.. }=>NF (aH fr x)
 |_=>.ep []
def SB(B:List Nat)(Xo st:St):Prop:=∀ l∈B,st.H l=Xo.H l
def eC(P:Program)(T:Tab)(ops:Array Oper)(M B:List Nat)(Xo:St)(J:Frm->St->Prop):List (Nat×Bool×Oper)->Frm->St->Prop
 |[],fr,st=>J fr st
 |(_,nd,o)::π,fr,st=>match aX o.op with
  |true=>match bI ops fr o.guard with
   |some b=>(b=true->((eJ o.op=true->SB B Xo st)/\Mt B (mI fr o.op)/\match aop T (inM M o.dst) o fr st with
     |some r=>r.c/\eC P T ops M B Xo J π (bU fr o.dst r.v) st
     |none=>False))/\(b=false->(eJ o.op=true->SB B Xo st)/\eC P T ops M B Xo J π (bU fr o.dst (.tu [])) st)
   |none=>False
  |false=>kI P T ops M o (fun Xg st'=>(nd=true->SB B Xo st')/\eC P T ops M B Xo J π Xg st') fr st
theorem nZ{o:Oper}{fr:Frm}{m:Bool}{st st':St}{r:bW}(hq:aX o.op=true)(hh:∀ l k,mI fr o.op=.pt l k->st'.H l=st.H l)(h:aop T m o fr st=some r):
 aop T m o fr st'=some (@bW.mk r.c r.v st' r.d):=by
 obtain⟨dst,op,ty,pos,after,guard⟩:=o;simp only at hq hh;cases op<;>simp only[aX,aAS]at hq<;>simp only[aop]at h ⊢
 case move x=>simp only[aAb]at h;subst h;rfl
 case assign x=>simp only[aAb]at h;subst h;rfl
 case pick c a b=>
  split at h
  .simp only[aAb]at h;subst h;rfl
  .simp at h
 case binOp op t x y t'=>
  unfold GH at h ⊢
  split at h
  .simp only[aBn]at h ⊢;obtain⟨p,h1,rfl⟩:=h;exact⟨p,h1,rfl⟩
  .split at h
   .simp only[aAb]at h;subst h;rfl
   .simp only[aAb]at h;subst h;rfl
   .simp at h
  .split at h
   .split at h
    .simp only[aAb]at h;subst h;simp_all
    .simp only[aAb]at h;subst h;simp_all
    .simp at h
   .simp at h
  .split at h
   .simp only[aAb]at h;subst h;simp_all
   .simp only[aAb]at h;subst h;simp_all
   .simp at h
  .split at h
   .simp only[aAb]at h;subst h;simp_all
   .simp only[aAb]at h;subst h;simp_all
   .simp at h
  .split at h
   .simp only[aAb]at h;subst h;simp_all
   .simp only[aAb]at h;subst h;simp_all
   .simp at h
  .split at h
   .simp only[aAb]at h;subst h;simp_all
   .simp only[aAb]at h;subst h;simp_all
   .simp at h
  .simp at h
 case unOp op t x=>
  unfold RK at h ⊢
  split at h
  .simp only[aAb]at h;subst h;rfl
  .simp only[aAb]at h;subst h;rfl
  .simp at h
 case convert s d x=>
  split at h
  .simp only[aAb]at h;subst h;rfl
  .simp at h
 case load t x=>
  unfold BZ at h ⊢;have hp:eE st' (aH fr x)=eE st (aH fr x):=by
   cases hx:aH fr x with
   |pt l k=>simp only[eE];rw[hh l k hx]
   |_=>rfl
  rw[hp]
  split at h
  .split at h
   .simp only[aAb]at h;subst h;rename_i h1 h2 h3;simp[h3]
   .simp only[aAb]at h;subst h;rename_i h1 h2 h3;simp[h3]
  .simp at h
 case indexAddr t x i=>
  unfold OD at h ⊢
  split at h
  .split at h
   .split at h
    .simp only[aAb]at h;subst h;rfl
    .split at h
     .simp only[aAb]at h;subst h;simp_all
     .simp at h
   .simp at h
  .simp at h
 case fieldAddr t x f=>
  unfold lE at h ⊢
  split at h
  .split at h
   .split at h
    .split at h
     .simp only[aAb]at h;subst h;simp_all
     .simp only[aAb]at h;subst h;simp_all
     .simp only[aAb]at h;subst h;rfl
     .simp at h
    .simp at h
   .simp at h
  .simp at h
 case field t x f=>
  unfold BB at h ⊢
  split at h
  .split at h
   .split at h
    .split at h
     .simp only[aAb]at h;subst h;simp_all
     .simp only[aAb]at h;subst h;simp_all
    .simp at h
   .simp at h
  .simp at h
 case slice t x lo hi mx=>
  unfold AX at h ⊢
  split at h
  .split at h
   .split at h
    .split at h
     .split at h
      .simp only[aAb]at h;subst h;simp_all
      .simp at h
     .split at h
      .simp only[aAb]at h;subst h;simp_all
      .simp at h
     .split at h
      .simp only[aAb]at h;subst h;simp_all
      .simp at h
     .split at h
      .simp only[aAb]at h;subst h;simp_all
      .simp at h
     .split at h
      .split at h
       .simp only[aAb]at h;subst h;simp_all
       .simp at h
      .simp at h
    .split at h
     .simp only[aAb]at h;subst h;simp_all
     .split at h
      .simp only[aAb]at h;subst h;simp_all
      .simp only[aAb]at h;subst h;simp_all
      .simp at h
     .simp at h
    .simp at h
   .simp at h
  .simp at h
 case extract x i=>
  split at h
  .split at h
   .simp only[aAb]at h;subst h;simp_all
   .simp at h
  .simp at h
 case nilCheck x=>
  split at h
  .simp only[aAb]at h;subst h;rfl
  .simp only[aAb]at h;subst h;rfl
  .simp at h
 case index t x i=>
  unfold Ei at h ⊢
  split at h
  .simp only[aAb]at h;subst h;simp_all
  .simp at h
 case lookup t x i ok=>
  unfold vC at h ⊢;have hp:∀ l,aH fr x=.mp l->st'.H l=st.H l:=fun l hl=>hh l 0 (by simp[mI,hl,NF])
  split at h
  .split at h
   .split at h
    .rename_i l hx;have hq:=hp l hx
     split at h
     .rename_i hH;simp only[aAb]at h;subst h;have hH':=hq.trans hH;clear hq hp hh;simp_all
     .simp at h
    .simp only[aAb]at h;subst h;simp_all
    .simp at h
   .simp at h
  .simp at h
 case makeFunc f first cX=>
  split at h
  .simp only[aAb]at h;subst h;simp_all
  .simp at h
 case call c=>
  obtain⟨callee,args,T5⟩:=c;unfold CV at h ⊢
  split at h<;>rename_i Yv _<;>(try simp only at Yv)
  .rename_i x t' ts hargs Zl;simp only at hargs Zl
   have hp:∀ l,aH fr x=.mp l->st'.H l=st.H l:=fun l hl=>hh l 0 (by
    have hargs':args=#[x]:=aEM Yv;rw[hargs',hargs]
    simp[mI,hl,NF])
   cases hmk:kU T t' with
   |some p=>
    simp only[hmk]at h ⊢;unfold Sa at h ⊢;simp only[hmk]at h ⊢
    split at h
    .rename_i l _ hx;have hq:=hp l hx
     split at h
     .rename_i hH;simp only[aAb]at h;subst h;have hH':=hq.trans hH;clear hq hp hh;simp_all
     .simp at h
    .simp at h
   |none=>
   simp only[hmk]at h ⊢;unfold Qc at h ⊢
   split at h
   .split at h
    .simp only[aAb]at h;subst h;simp_all
    .simp only[aAb]at h;subst h;simp_all
    .split at h
     .simp only[aAb]at h;subst h;simp_all
     .simp at h
   .simp at h
  .unfold SG at h ⊢
   split at h
   .simp only[aAb]at h;subst h;simp_all
   .simp at h
  .unfold Qt at h ⊢
   split at h
   .simp only[aAb]at h;subst h;simp_all
   .simp at h
  all_goals (first|(exfalso;revert hq;simp_all[aX];done)|(simp at h;done)|(exfalso;simp_all[aX];done))
theorem Dj{fr:Frm}{op:Op}{l k:Nat}(h:mI fr op=.pt l k):eJ op=true:=by
 unfold mI at h
 split at h
 .rfl
 .rfl
 .rfl
 .cases h
theorem CD{B:List Nat}{Xo:St}{J:Frm->St->Prop}:∀(π:List (Nat×Bool×Oper)) (listed:Array Bool) (fr:Frm) (st:St),(∀ p∈π,ops[p.1]?=some p.2.2/\(jO ops p.1=true->p.2.1=true))->lO ops (π.map (·.1)) listed=true->
 eC P T ops M B Xo J π fr st->jM P T ops M (SB B Xo) J π.length listed fr st
 |[],listed,fr,st,_,hk,h=>by simp only[aBt,lO,List.isEmpty_iff]at hk;exact⟨hk,h⟩
 |(i,nd,o)::π,listed,fr,st,hp,hk,h=>by
  obtain⟨ho,hnd⟩:ops[i]?=some o/\(jO ops i=true->nd=true):=hp (i,nd,o) sS;simp only[aAi,lO,ho,aAT]at hk
  have ih:∀ fr st,(∀ p∈π,ops[p.1]?=some p.2.2/\(jO ops p.1=true->p.2.1=true))->lO ops (π.map (·.1)) (listed.setIfInBounds i true)=true->eC P T ops M B Xo J π fr st->jM P T ops M (SB B Xo) J π.length (listed.setIfInBounds i true) fr st:=
   fun fr st=>CD π (listed.setIfInBounds i true) fr st
  have ZY:∀ p∈π,ops[p.1]?=some p.2.2/\(jO ops p.1=true->p.2.1=true):=fun p hm=>hp p (by simp[hm]);unfold eC at h;cases hq:aX o.op with
  |true=>
   simp only[hq,aBq,aAT]at hk h;obtain⟨⟨F9,S1⟩,hk⟩:=hk;cases hw:bI ops fr o.guard with
   |none=>rw[hw]at h;exact h.elim
   |some b=>
    rw[hw]at h;cases b with
    |false=>exact iB ho _ listed fr st (Region.free_spec ho S1) (by simpa using F9) (.inr ⟨hw,rfl⟩) (h.2 rfl).1 hq (ih _ _ ZY hk (h.2 rfl).2)
    |true=>
     obtain⟨hS,hpt,h1⟩:=h.1 rfl
     split at h1
     .rename_i r hr;refine iB ho _ listed fr st (Region.free_spec ho S1) (by simpa using F9) (.inl ⟨hw,hq,fun st' hS'=>?_⟩) hS hq (ih _ _ ZY hk h1.2);refine⟨@bW.mk r.c r.v st' r.d,nZ hq (fun l k hl=>?_) hr,h1.1,rfl,rfl⟩;rw[hl]at hpt;have hh:eJ o.op=true:=Dj hl;rw[hS' hh l hpt,hS hh l hpt]
     .exact h1.elim
  |false=>
   simp only[hq,aAS,aBD]at hk h;obtain⟨F9,hk⟩:=hk;have V0:Region.ready .any ops listed=[i]:=by simpa using F9
   refine⟨fun h0=>(by rw[h0]at V0;cases V0),fun j hj=>?_⟩;rw[V0]at hj;obtain rfl:j=i:=by simpa using hj
   refine⟨o,ho,h.mono fun Xg st' hh=>⟨?_,ih _ _ ZY hk hh.2⟩⟩;unfold Kx;simp only[hq,aAS,aBD];exact fun hn=>hh.1 (hnd hn)
def pick(ops:Array Oper)(π:List (Nat×Bool)):List (Nat×Bool×Oper):=π.filterMap fun p=>(ops[p.1]?).map fun o=>(p.1,p.2,o)
theorem LW(hT:bJ P T)(M B:List Nat)(π:List (Nat×Bool)){Q:AQ}{id:Nat}{fr:Frm}{st:St}(hm:P.follows .mixedOrders=true)(hk:cV N ops ops.toList=true)
 (hπ:(lO ops ((pick ops π).map (·.1)) (Array.replicate ops.size false)&&((pick ops π).length==ops.size)&&(π.all fun p=>!jO ops p.1||p.2))=true)
 (h:∀ J:Frm->St->Prop,(∀ fr st,Q .normal fr st->J fr st)->eC P T ops M B st J (pick ops π) fr st):AWp P N (.region id ops true) Q fr st:=by
 intro a w g hi hr hs hd;simp only[aAT,aCW]at hπ;obtain⟨⟨hπ1,hπ2⟩,hπ3⟩:=hπ;refine wp_region_any hm ?_;have hp:∀ p∈pick ops π,ops[p.1]?=some p.2.2/\(jO ops p.1=true->p.2.1=true):=by intro p hp;unfold pick at hp;simp only[List.mem_filterMap,aBn]at hp;obtain⟨q,hq,o,ho,rfl⟩:=hp;refine⟨ho,fun hn=>?_⟩;rw[aBr]at hπ3;have:=hπ3 q hq;simpa[hn]using this
 have hA:=CD (pick ops π) (Array.replicate ops.size false) fr st hp hπ1 (h (fun fr st=>Q .normal fr st) (fun _ _ h=>h));rw[hπ2]at hA;have C4:Ext w g { w with drawn:=w.drawn+1 } g:=dH w g;exact nW hT hk (fun _ _ h=>h) _ _ fr st a { w with drawn:=w.drawn+1 } g hi.drew (hr.mono C4) hs hd C4 hA
def LF(P:Program)(T:Tab)(ops:Array Oper)(M B:List Nat)(Xo:St)(J:Frm->St->Prop)(π:List (Nat×Bool×Oper))(o:Oper)(fr:Frm)(st:St):Option Bool->Prop
 |some b=>(b=true->((eJ o.op=true->SB B Xo st)/\Mt B (mI fr o.op)/\match aop T (inM M o.dst) o fr st with
   |some r=>r.c/\eC P T ops M B Xo J π (bU fr o.dst r.v) st
   |none=>False))/\(b=false->(eJ o.op=true->SB B Xo st)/\eC P T ops M B Xo J π (bU fr o.dst (.tu [])) st)
 |none=>False
def VU(P:Program)(T:Tab)(ops:Array Oper)(M B:List Nat)(Xo:St)(J:Frm->St->Prop)(π:List (Nat×Bool×Oper))(o:Oper)(fr:Frm)(st:St):Option bW->Prop
 |some r=>r.c/\eC P T ops M B Xo J π (bU fr o.dst r.v) st
 |none=>False
def Un(P:Program)(T:Tab)(ops:Array Oper)(M B:List Nat)(Xo:St)(J:Frm->St->Prop)(π:List (Nat×Bool×Oper))(nd:Bool)(o:Oper)(fr:Frm):Option bW->Prop
 |some r=>r.c/\(nd=true->SB B Xo r.s)/\eC P T ops M B Xo J π (bU fr o.dst r.v) r.s
 |none=>False
def Es(P:Program)(T:Tab)(ops:Array Oper)(M B:List Nat)(Xo:St)(J:Frm->St->Prop)(π:List (Nat×Bool×Oper))(nd:Bool)(d:Option Nat)(fr:Frm)(st:St)(f:FuncId)(args:List LV):Prop:=
 ∃ R,aB P f args st R/\∀ r st',R r st'->(nd=true->SB B Xo st')/\eC P T ops M B Xo J π (bU fr d r) st'
def VX(P:Program)(T:Tab)(ops:Array Oper)(M B:List Nat)(Xo:St)(J:Frm->St->Prop)(π:List (Nat×Bool×Oper))(nd:Bool)(d:Option Nat)(fr:Frm)(st:St)(args:List LV):Option (FuncId×List LV)->Prop
 |some (f,cX)=>Es P T ops M B Xo J π nd d fr st f (args++cX)
 |none=>False
def TQ(P:Program)(T:Tab)(ops:Array Oper)(M B:List Nat)(Xo:St)(J:Frm->St->Prop)(π:List (Nat×Bool×Oper))(nd:Bool)(o:Oper)(fr:Frm)(st:St):Prop:=
 match o.op with
 |.call { callee:=.value x,args:=args,argTypes:=_ }=>VX P T ops M B Xo J π nd o.dst fr st (args.toList.map (aH fr)) (eM (aH fr x))
 |_=>Un P T ops M B Xo J π nd o fr (aop T (inM M o.dst) o fr st)
def JM(P:Program)(T:Tab)(ops:Array Oper)(M B:List Nat)(Xo:St)(J:Frm->St->Prop)(π:List (Nat×Bool×Oper))(nd:Bool)(o:Oper)(fr:Frm)(st:St):Option Bool->Prop
 |some b=>(b=true->TQ P T ops M B Xo J π nd o fr st)/\(b=false->(nd=true->SB B Xo st)/\eC P T ops M B Xo J π (bU fr o.dst (.tu [])) st)
 |none=>False
def NS(P:Program)(T:Tab)(ops:Array Oper)(M B:List Nat)(Xo:St)(J:Frm->St->Prop)(π:List (Nat×Bool×Oper))(nd:Bool)(o:Oper)(fr:Frm)(st:St):Bool->Prop
 |true=>LF P T ops M B Xo J π o fr st (bI ops fr o.guard)
 |false=>JM P T ops M B Xo J π nd o fr st (bI ops fr o.guard)
variable {B:List Nat} {Xo:St} {J:Frm->St->Prop} {π:List (Nat×Bool×Oper)} {nd:Bool} {o:Oper} {fr:Frm} {st:St} {d:Option Nat}
theorem Uo:eC P T ops M B Xo J [] fr st=J fr st:=rfl
theorem TV(i:Nat):eC P T ops M B Xo J ((i,nd,o)::π) fr st=NS P T ops M B Xo J π nd o fr st (aX o.op):=by
 unfold eC;cases hq:aX o.op with
 |true=>simp only[NS];cases bI ops fr o.guard<;>rfl
 |false=>
  simp only[NS];unfold kI;cases bI ops fr o.guard with
  |none=>rfl
  |some b=>
   simp only[JM]
   congr 1
theorem SN:NS P T ops M B Xo J π nd o fr st true=LF P T ops M B Xo J π o fr st (bI ops fr o.guard):=rfl
theorem Tj:NS P T ops M B Xo J π nd o fr st false=JM P T ops M B Xo J π nd o fr st (bI ops fr o.guard):=rfl
theorem Wy:LF P T ops M B Xo J π o fr st (some true)=((eJ o.op=true->SB B Xo st)/\Mt B (mI fr o.op)/\VU P T ops M B Xo J π o fr st (aop T (inM M o.dst) o fr st)):=by simp only[LF,forall_const,Bool.true_eq_false,false_implies,aDn];cases aop T (inM M o.dst) o fr st<;>rfl
theorem XL:LF P T ops M B Xo J π o fr st (some false)=((eJ o.op=true->SB B Xo st)/\eC P T ops M B Xo J π (bU fr o.dst (.tu [])) st):=by simp[LF]
theorem d_a(r:bW):VU P T ops M B Xo J π o fr st (some r)=(r.c/\eC P T ops M B Xo J π (bU fr o.dst r.v) st):=rfl
theorem Wc:JM P T ops M B Xo J π nd o fr st (some true)=TQ P T ops M B Xo J π nd o fr st:=by simp[JM]
theorem XW:JM P T ops M B Xo J π nd o fr st (some false)=((nd=true->SB B Xo st)/\eC P T ops M B Xo J π (bU fr o.dst (.tu [])) st):=by simp[JM]
theorem d_l(r:bW):Un P T ops M B Xo J π nd o fr (some r)=(r.c/\(nd=true->SB B Xo r.s)/\eC P T ops M B Xo J π (bU fr o.dst r.v) r.s):=rfl
theorem Tg(f:FuncId)(cX args:List LV):VX P T ops M B Xo J π nd d fr st args (some (f,cX))=Es P T ops M B Xo J π nd d fr st f (args++cX):=rfl
theorem aS(h:eC P T ops M B Xo J π fr st):eC P T ops M B Xo J π fr st:=h
theorem aK{f:FuncId}{args:List LV}{R:LV->St->Prop}(h:aB P f args st R)(hk:∀ r st',R r st'->(nd=true->SB B Xo st')/\eC P T ops M B Xo J π (bU fr d r) st'):Es P T ops M B Xo J π nd d fr st f args:=⟨R,h,hk⟩
theorem qY(p:Nat×Bool)(l:List (Nat×Bool)):pick ops (p::l)=match ops[p.1]? with|some o=>(p.1,p.2,o)::pick ops l|none=>pick ops l:=by unfold pick;simp only[List.filterMap_cons];cases ops[p.1]?<;>rfl
theorem GU:pick ops []=[]:=rfl
theorem Ue:SB [] Xo st=True:=by simp[SB]
theorem Si(b:Nat)(l:List Nat):SB (b::l) Xo st=(st.H b=Xo.H b/\SB l Xo st):=by simp[SB]
end
end Aw
end Go.Proofs.YtempldclppogmaaGreatDoor
