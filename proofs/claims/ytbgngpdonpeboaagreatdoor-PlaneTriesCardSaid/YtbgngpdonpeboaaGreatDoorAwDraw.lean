/- Regions whose order is open, at large: what only looks is taken as soon as it may come; the rest one behind the other. No program is named here. -/
import Derived.Test.YtbgngpdonpeboaaGreatDoorAwRun
import Derived.Orders
set_option linter.unusedVariables false
set_option linter.unusedSimpArgs false
namespace Go.Proofs.YtbgngpdonpeboaaGreatDoor
namespace Aw
open Go Go.RowKit
def eW:Op->Bool
 |.load ..=>true
 |.lookup ..=>true
 |.call { callee:=.builtin .len,.. }=>true
 |_=>false
def QV:LV->LV
 |.mp l=>.pt l 0
 |_=>.ep []
section
variable {P:Program} {T:Tab} {N:Nat} {ops:Array Oper} {M:List Nat}
def kX(P:Program)(T:Tab)(ops:Array Oper)(M:List Nat)(o:Oper)(K:Frm->St->Prop)(fr:Frm)(st:St):Prop:=
 match bB ops fr o.guard with
 |some b=>(b=true->(match o.op with
   |.call { callee:=.value x,args:=args,argTypes:=_ }=>match eY (aH fr x) with
    |some (f,Gj)=>∃ R,aB P f ((args.toList.map (aH fr))++Gj) st R/\∀ r st',R r st'->K (bM fr o.dst r) st'
    |none=>False
   |_=>match aop T (inM M o.dst) o fr st with
    |some r=>r.c/\K (bM fr o.dst r.v) r.s
    |none=>False))/\(b=false->K (bM fr o.dst (.tu [])) st)
 |none=>False
theorem kX.mono{o:Oper}{K K':Frm->St->Prop}{fr:Frm}{st:St}(hk:∀ fr st,K fr st->K' fr st)(h:kX P T ops M o K fr st):kX P T ops M o K' fr st:=by
 unfold kX at h ⊢;cases hw:bB ops fr o.guard with
 |none=>simp_all
 |some b=>
  rw[hw]at h;refine⟨fun hb=>?_,fun hb=>hk _ _ (h.2 hb)⟩;have h1:=h.1 hb
  split at h1
  .split at h1
   .grind
   omega
  .split at h1
   .grind
   omega
def kH(ops:Array Oper)(j:Nat):Bool:=
 match ops[j]? with
 |none=>false
 |some oj=>(List.range ops.size).any fun i=>i != j&&((ops[i]?).map fun oi=>eW oi.op).getD false&&!(oj.after.any fun e=>Region.binds .any e&&e.on==i)
def Kx(ops:Array Oper)(S:St->Prop)(i:Nat)(o:Oper)(st st':St):Prop:=if aS o.op=true then st'=st else(kH ops i=true->S st')
def jX(P:Program)(T:Tab)(ops:Array Oper)(M:List Nat)(S:St->Prop)(J:Frm->St->Prop):Nat->Array Bool->Frm->St->Prop
 |0,listed,fr,st=>Region.ready .any ops listed=[]/\J fr st
 |fuel+1,listed,fr,st=>(Region.ready .any ops listed=[]->J fr st)/\
  ∀ i∈Region.ready .any ops listed,∃ o,ops[i]?=some o/\kX P T ops M o (fun c8 st'=>Kx ops S i o st st'/\jX P T ops M S J fuel (listed.setIfInBounds i true) c8 st') fr st
theorem Hp(hT:aZ P T){o:Oper}{Q:Exit->Act->World->Prop}{K:Frm->St->Prop}{K':Act->World->Prop}{w0:World}{g0:G}{fr:Frm}{st:St}{a:Act}{w:World}{g:G}{i:Nat}(ho:ops[i]?=some o)
 (hdst:pI N o.dst=true) (hgd:kQ N ops o.guard=true) (hi:Inv w g st) (hr:dX w g a fr) (hs:a.tmps.size=N) (hd:a.defers=[]) (he0:Ext w0 g0 w g)
 (hK:∀ c8 st' a' w' g',Inv w' g' st'->dX w' g' a' c8->a'.tmps.size=N->a'.defers=[]->Ext w0 g0 w' g'->K c8 st'->K' a' w') (h:kX P T ops M o K fr st):wpOp P ops Q i K' a w:=by
 unfold kX at h;unfold wpOp;simp only[ho];cases hw:bB ops fr o.guard with
 |none=>simp_all
 |some b=>
  rw[hw]at h;have hwt:Region.wanted o (yielded ops a.tmps)=b:=eS hr hw (by rw[hs];exact jD hgd);rw[hwt];cases b with
  |false=>
   grind [dY,wW,cF,put_defers]
  |true=>
   simp only[aBs];left;have h1:=h.1 rfl;unfold Oper.wp
   split at h1
   .rename_i x args tys hop
    split at h1
    .rename_i f Gj hf;obtain⟨R,hR,hn⟩:=h1;have hx:=aD hr x;revert hf hx;cases hev:aH fr x with
     |fn f' caps'=>
      cases f' with
      |func f'=>
       intro hf hx;simp only[eY,aAb,aBd]at hf;obtain⟨rfl,rfl⟩:=hf;simp only[Rep]at hx;obtain⟨us,hx,hus⟩:=hx;have o9:(execOp a.eval o).run P w=.ok (.enter f' ((args.toList.map a.eval++us).toArray)) w:=by unfold execOp;simp only[hop,resolve,invoke,hx,Deferred.ofValue,Sem.run_bind,Sem.run_pure,Result.andThen_ok];simp only[Array.empty_append];rw[hR.1];simp
       rw[o9,Oper.upon_enter];refine(hR.2 w g _ hi (bW _ _ _ _ (Bu hr args.toList) hus)).mono ?_;rintro e w' ⟨v,r,st',g',rfl,hq,hv,M4,he⟩;exact hK _ _ _ _ g' M4 (dY (hr.mono he) (by grind) hv) (by grind [cF]) (by grind [put_defers]) (he0.trans he) (hn r st' hq)
      |_=>grind [eY]
     |_=>intro hf;simp[eY]at hf
    grind
   .split at h1
    .rename_i r T0;obtain⟨x,w',g',o9,hx,M4,he,_⟩:=wK (N:=N) hT T0 h1.1 a w g hi hr hs;rw[o9];rcases hx with⟨v,rfl,hv⟩|⟨rfl,hdead⟩
     .rw[Oper.upon_value];exact hK _ _ _ _ g' M4 (dY (hr.mono he) (by grind) hv) (by grind [cF]) (by grind [put_defers]) (he0.trans he) h1.2
     .rw[Oper.upon_skip];rw[hdead]at h1;exact hK _ _ _ _ g' M4 (dY (hr.mono he) (by grind) (by grind [Rep])) (by grind [cF]) (by grind [put_defers]) (he0.trans he) h1.2
    grind
theorem oJ(hT:aZ P T){S:St->Prop}{J:Frm->St->Prop}{Q:AQ}(hk:cV N ops ops.toList=true)(hJ:∀ fr st,J fr st->Q .normal fr st){w0:World}{g0:G}:
 ∀(fuel:Nat) (listed:Array Bool) (fr:Frm) (st:St) (a:Act) (w:World) (g:G),Inv w g st->dX w g a fr->a.tmps.size=N->a.defers=[]->Ext w0 g0 w g->
  jX P T ops M S J fuel listed fr st->wpAny P .any ops (lU N Q w0 g0) fuel listed a w
 |0,listed,fr,st,a,w,g,hi,hr,hs,hd,he,h=>⟨h.1,fr,st,g,hJ _ _ h.2,hi,hr,hs,hd,he⟩
 |fuel+1,listed,fr,st,a,w,g,hi,hr,hs,hd,he,h=>by
  refine⟨fun h0=>⟨fr,st,g,hJ _ _ (h.1 h0),hi,hr,hs,hd,he⟩,fun i N5=>?_⟩;obtain⟨o,ho,D3⟩:=h.2 i N5;have hko:pI N o.dst=true/\kQ N ops o.guard=true:=by unfold cV at hk;rw[aBJ]at hk;have:=hk o (aEC.2 (aEs ho));simpa using this
  exact Hp (N:=N) hT ho hko.1 hko.2 hi hr hs hd he (fun c8 st' a' w' g' M4 T0 hs' Q6 he' hK=>oJ hT hk hJ fuel _ c8 st' a' w' g' M4 T0 hs' Q6 he' hK.2) D3
theorem PK{fr:Frm}{d:Option Nat}{v:LV}{x:Operand}(h:∀ t,d=some t->x≠.tmp t):aH (bM fr d v) x=aH fr x:=by
 cases d with
 |none=>rfl
 |some d=>
  cases x with
  |tmp t=>have:t≠d:=fun e=>h d rfl (by rw[e]);simp[aH,bM,upd,this]
  |_=>rfl
theorem DZ{m:Bool}{o:Oper}{fr c8:Frm}{st:St}(h:∀ x∈o.op.operands,aH fr x=aH c8 x):aop T m o fr st=aop T m o c8 st:=by
 obtain⟨dst,op,ty,pos,after,guard⟩:=o;simp only at h;cases op<;>simp only[aop,Op.operands]at h ⊢<;>try rfl
 case move x=>rw[h x sS]
 case assign x=>rw[h x sS]
 case pick c a b=>simp_all
 case binOp op t x y t'=>rw[h x sS,h y sS]
 case unOp op t x=>rw[h x sS]
 case convert s d x=>rw[h x sS]
 case load t x=>rw[h x sS]
 case store t x v=>grind
 case indexAddr t x i=>grind
 case fieldAddr t x f=>rw[h x sS]
 case field t x f=>rw[h x sS]
 case slice t x lo hi mx=>
  rw[h x sS];have h1:lo.map (aH fr)=lo.map (aH c8):=by cases lo with|none=>rfl|some y=>simp only[Option.map_some];rw[h y sS]
  have h2:hi.map (aH fr)=hi.map (aH c8):=by cases hi with|none=>rfl|some y=>simp only[Option.map_some];rw[h y sS]
  have h3:mx.map (aH fr)=mx.map (aH c8):=by cases mx with|none=>rfl|some y=>simp only[Option.map_some];rw[h y sS]
  grind
 case box t x=>rw[h x sS]
 case build t ps=>
  grind [List.map_congr_left]
 case buildSlice t n ps=>
  grind [List.map_congr_left]
 case makeFunc f first Gj=>
  grind [List.map_congr_left]
 case extract x i=>rw[h x sS]
 case nilCheck x=>rw[h x sS]
 case lookup t x i ok=>grind
 case index t x i=>grind
 case mapUpdate t x i v=>grind
 case insert t x i v=>grind
 case makeSlice t l c=>grind
 case makeMap t r=>
  have h1:r.map (aH fr)=r.map (aH c8):=by cases r with|none=>rfl|some y=>simp only[Option.map_some];rw[h y sS]
  rw[h1]
 case call c=>
  obtain⟨callee,args,tys⟩:=c;obtain⟨args⟩:=args;have ha:∀ x∈args,aH fr x=aH c8 x:=fun x hx=>h x (by simp[Call.operands];right;exact hx);clear h;unfold DO
  split<;>simp_all
def mQ(T:Tab)(ops:Array Oper)(M:List Nat)(S:St->Prop)(o:Oper)(v:LV)(fr:Frm):Prop:=
 (bB ops fr o.guard=some true/\aS o.op=true/\∀ st,S st->∃ r,aop T (inM M o.dst) o fr st=some r/\r.c/\r.v=v/\r.s=st)\/(bB ops fr o.guard=some false/\v=.tu [])
theorem mQ.step{S:St->Prop}{o:Oper}{v:LV}{fr:Frm}{st:St}{K:Frm->St->Prop}(hy:mQ T ops M S o v fr)(hS:S st)(h:K (bM fr o.dst v) st):kX P T ops M o K fr st:=by
 unfold kX;rcases hy with⟨hw,hq,hv⟩|⟨hw,rfl⟩
 .rw[hw];refine⟨fun _=>?_,(fun hb=>by grind)⟩;obtain⟨r,h1,h2,h3,h4⟩:=hv st hS
  split
  .grind [aS]
  simp_all
 simp_all
theorem yT{o:Oper}{fr:Frm}{d:Option Nat}{v:LV}(h:∀ t,d=some t->t∉o.looksAt ops):∀ x∈o.op.operands,aH (bM fr d v) x=aH fr x:=by intro x hx;refine PK fun t ht hxt=>h t ht ?_;subst hxt;exact aAr _ (List.mem_filterMap.2 ⟨.tmp t,by grind,rfl⟩)
theorem mY{o:Oper}{fr:Frm}{d:Option Nat}{v:LV}(h:∀ t,d=some t->t∉o.looksAt ops):bB ops (bM fr d v) o.guard=bB ops fr o.guard:=by
 cases d with
 |none=>rfl
 |some d=>
  unfold bB;cases hg:o.guard with
  |none=>rfl
  |some p=>
   obtain⟨j,want⟩:=p;simp only;cases hd:(ops[j]?).bind (·.dst) with
   |none=>rfl
   |some t=>
    have c7:t≠d:=by rintro rfl;refine h t rfl (aAx _ ?_);simp[hg,hd]
    simp[bM,upd,c7]
theorem mQ.keep{S:St->Prop}{o:Oper}{v:LV}{fr:Frm}(hy:mQ T ops M S o v fr){d:Option Nat}(h:∀ t,d=some t->t∉o.looksAt ops)(u:LV):mQ T ops M S o v (bM fr d u):=by
 rcases hy with⟨hw,hq,hv⟩|⟨hw,rfl⟩
 .left;refine⟨by grind [mY],hq,fun st hS=>?_⟩;rw[DZ (yT h)]
  grind
 .right
  grind [mY]
theorem Oo{fr:Frm}{d e:Option Nat}{u v:LV}(h:∀ t,d=some t->e≠some t):bM (bM fr d u) e v=bM (bM fr e v) d u:=by
 cases d with
 |none=>rfl
 |some d=>
  cases e with
  |none=>rfl
  |some e=>
   have c7:e≠d:=fun h0=>h d rfl (by rw[h0])
   funext i
   simp only[bM,upd]
   grind
theorem Nj{S:St->Prop}{oi oj:Oper}{v:LV}(hap:oi.apart ops oj=true){K:Frm->St->Prop}{fr:Frm}{st:St}(hy:mQ T ops M S oi v fr)
 (h:kX P T ops M oj K (bM fr oi.dst v) st):kX P T ops M oj (fun c8 st'=>mQ T ops M S oi v c8/\K (bM c8 oi.dst v) st') fr st:=by
 obtain⟨h1,h2,h3⟩:=Oper.apart_spec hap;have hev:=yT (fr:=fr) (v:=v) h1;unfold kX at h ⊢;rw[mY h1]at h;cases hw:bB ops fr oj.guard with
 |none=>simp_all
 |some b=>
  rw[hw]at h;have hk:∀ r,bM (bM fr oi.dst v) oj.dst r=bM (bM fr oj.dst r) oi.dst v:=fun r=>Oo h2;refine⟨fun hb=>?_,fun hb=>⟨hy.keep h3 _,by grind⟩⟩;have g:=h.1 hb
  split at g
  .rename_i x args tys hop;simp only;have hx:aH (bM fr oi.dst v) x=aH fr x:=hev x (by grind [Op.operands,Call.operands]);have hargs:(args.toList.map (aH (bM fr oi.dst v)))=args.toList.map (aH fr):=aAQ fun y hy'=>by
    grind [Op.operands,Call.operands]
   rw[hx,hargs]at g
   split at g
   .obtain⟨R,hR,hn⟩:=g;exact⟨R,hR,fun r st' hr=>⟨hy.keep h3 _,by grind⟩⟩
   omega
  .rename_i hnc;rw[DZ hev]at g;cases hr:aop T (inM M oj.dst) oj fr st with
   |none=>simp_all
   |some r=>rw[hr]at g;exact⟨g.1,hy.keep h3 _,by grind⟩
theorem SD{i j:Nat}{oi oj:Oper}(hi:ops[i]?=some oi)(hj:ops[j]?=some oj)(c7:j≠i)(hh:eW oi.op=true)(x9:∀ e∈oj.after,Region.binds .any e=true->e.on≠i):kH ops j=true:=by
 unfold kH;rw[hj]
 grind
theorem iZ{S:St->Prop}{J:Frm->St->Prop}{i:Nat}{oi:Oper}{v:LV}(hi:ops[i]?=some oi):
 ∀(fuel:Nat) (listed:Array Bool) (fr:Frm) (st:St),
  (∀ j oj,ops[j]?=some oj->j≠i->listed.getD j true=false->(∀ e∈oj.after,Region.binds .any e=true->e.on≠i)->oi.apart ops oj=true)->
  i∈Region.ready .any ops listed->mQ T ops M (fun st=>eW oi.op=true->S st) oi v fr->(eW oi.op=true->S st)->aS oi.op=true->
  jX P T ops M S J fuel (listed.setIfInBounds i true) (bM fr oi.dst v) st->jX P T ops M S J (fuel+1) listed fr st:=by
 intro fuel;induction fuel with
 |zero=>
  intro listed fr st _ hr hy hS hq H;refine⟨fun h=>(by grind),fun j hj=>?_⟩;by_cases hji:j=i
  .subst hji;exact⟨oi,hi,hy.step hS ⟨by grind [Kx],H⟩⟩
  .have:=ready_mono hj hji;rw[H.1]at this
   grind
 |succ fuel ih=>
  intro listed fr st hfree hr hy hS hq H;refine⟨fun h=>(by grind),fun j hj=>?_⟩;by_cases hji:j=i
  .subst hji;exact⟨oi,hi,hy.step hS ⟨by grind [Kx],H⟩⟩
  .obtain⟨oj',hoj',h1⟩:=H.2 j (ready_mono hj hji);obtain⟨hjun,oj,hoj,hall⟩:=mem_ready.1 hj;have hoo:oj'=oj:=by rw[hoj]at hoj';exact(aBn hoj').symm
   subst hoo;have hnot:∀ e∈oj'.after,Region.binds .any e=true->e.on≠i:=fun e he hb heq=>by
    have h1:=hall e he hb;have h0:=(mem_ready.1 hr).1;rw[heq]at h1;rcases aAM i listed.size with h'|h'
    .grind
    grind
   have h2:=Nj (hfree j oj' hoj hji hjun hnot) hy h1
   have hfree':∀ k ok,ops[k]?=some ok->k≠i->(listed.setIfInBounds j true).getD k true=false->
    (∀ e∈ok.after,Region.binds .any e=true->e.on≠i)->oi.apart ops ok=true:=fun k ok hk hki hun x9=>by
    refine hfree k ok hk hki ?_ x9;by_cases hjk:j=k
    .subst hjk;omega
    .rw[getD_set_ne true hjk]at hun;omega
   refine⟨oj',hoj,h2.mono fun c8 st' h3=>⟨h3.2.1,?_⟩⟩;refine ih (listed.setIfInBounds j true) c8 st' hfree' (ready_mono hr (aCE hji)) h3.1 (fun hh=>?_) hq ?_
   .have hk:=h3.2.1;unfold Kx at hk
    split at hk
    .grind
    .exact hk (SD hi hoj hji hh hnot)
   .rw[Array.setIfInBounds_comm _ _ hji]
    grind
def mS(ops:Array Oper):List Nat->Array Bool->Bool
 |[],listed=>(Region.ready .any ops listed).isEmpty
 |i::π,listed=>match ops[i]? with
  |some o=>(if aS o.op then(Region.ready .any ops listed).contains i&&Region.free .any ops listed i else Region.ready .any ops listed==[i])&&mS ops π (listed.setIfInBounds i true)
  |none=>false
def Nc(B:List Nat):LV->Prop
 |.pt l _=>l∈B
 |.ep _=>True
 |_=>False
def mU(fr:Frm):Op->LV
 |.load _ x=>aH fr x
 |.lookup _ x _ _=>QV (aH fr x)
 |.call { callee:=.builtin .len,args:=⟨x::_⟩,.. }=>QV (aH fr x)
 |_=>.ep []
def SB(B:List Nat)(j9 st:St):Prop:=∀ l∈B,st.H l=j9.H l
def eE(P:Program)(T:Tab)(ops:Array Oper)(M B:List Nat)(j9:St)(J:Frm->St->Prop):List (Nat×Bool×Oper)->Frm->St->Prop
 |[],fr,st=>J fr st
 |(_,nd,o)::π,fr,st=>match aS o.op with
  |true=>match bB ops fr o.guard with
   |some b=>(b=true->((eW o.op=true->SB B j9 st)/\Nc B (mU fr o.op)/\match aop T (inM M o.dst) o fr st with
     |some r=>r.c/\eE P T ops M B j9 J π (bM fr o.dst r.v) st
     |none=>False))/\(b=false->(eW o.op=true->SB B j9 st)/\eE P T ops M B j9 J π (bM fr o.dst (.tu [])) st)
   |none=>False
  |false=>kX P T ops M o (fun c8 st'=>(nd=true->SB B j9 st')/\eE P T ops M B j9 J π c8 st') fr st
theorem pF{o:Oper}{fr:Frm}{m:Bool}{st st':St}{r:bR}(hq:aS o.op=true)(hh:∀ l k,mU fr o.op=.pt l k->st'.H l=st.H l)(h:aop T m o fr st=some r):
 aop T m o fr st'=some (@bR.mk r.c r.v st' r.d):=by
 obtain⟨dst,op,ty,pos,after,guard⟩:=o;simp only at hq hh;cases op<;>simp only[aS,aBg]at hq<;>simp only[aop]at h ⊢
 case move x=>simp only[aAb]at h;subst h;rfl
 case assign x=>simp only[aAb]at h;subst h;rfl
 case pick c a b=>
  split at h
  .simp only[aAb]at h;subst h;rfl
  grind
 case binOp op t x y t'=>
  unfold HG at h ⊢
  split at h
  .simp only[aBk]at h ⊢;obtain⟨p,h1,rfl⟩:=h
   grind
  .split at h
   .simp only[aAb]at h;subst h;rfl
   .simp only[aAb]at h;subst h;rfl
   grind
  .split at h
   .split at h
    .simp only[aAb]at h;subst h;grind
    .simp only[aAb]at h;subst h;grind
    grind
   grind
  .split at h
   .simp only[aAb]at h;subst h;grind
   .simp only[aAb]at h;subst h;grind
   grind
  .split at h
   .simp only[aAb]at h;subst h;grind
   .simp only[aAb]at h;subst h;grind
   grind
  .split at h
   .simp only[aAb]at h;subst h;grind
   .simp only[aAb]at h;subst h;grind
   grind
  .split at h
   .simp only[aAb]at h;subst h;grind
   .simp only[aAb]at h;subst h;grind
   grind
  grind
 case unOp op t x=>
  unfold VL at h ⊢
  split at h
  .simp only[aAb]at h;subst h;rfl
  .simp only[aAb]at h;subst h;rfl
  grind
 case convert s d x=>
  split at h
  .simp only[aAb]at h;subst h;rfl
  grind
 case load t x=>
  unfold Co at h ⊢;have hp:eP st' (aH fr x)=eP st (aH fr x):=by
   cases hx:aH fr x with
   |pt l k=>simp only[eP];rw[hh l k hx]
   |_=>rfl
  rw[hp]
  split at h
  .split at h
   .simp only[aAb]at h;subst h;grind
   .simp only[aAb]at h;subst h;grind
  grind
 case indexAddr t x i=>
  unfold Qy at h ⊢
  split at h
  .split at h
   .split at h
    .simp only[aAb]at h;subst h;rfl
    .split at h
     .simp only[aAb]at h;subst h;grind
     grind
   grind
  grind
 case fieldAddr t x f=>
  unfold lR at h ⊢
  split at h
  .split at h
   .split at h
    .split at h
     .simp only[aAb]at h;subst h;grind
     .simp only[aAb]at h;subst h;grind
     .simp only[aAb]at h;subst h;rfl
     grind
    grind
   grind
  grind
 case field t x f=>
  unfold CF at h ⊢
  split at h
  .split at h
   .split at h
    .split at h
     .simp only[aAb]at h;subst h;grind
     .simp only[aAb]at h;subst h;grind
    grind
   grind
  grind
 case slice t x lo hi mx=>
  unfold BP at h ⊢
  split at h
  .split at h
   .split at h
    .split at h
     .split at h
      .simp only[aAb]at h;subst h;grind
      grind
     .split at h
      .simp only[aAb]at h;subst h;grind
      grind
     .split at h
      .simp only[aAb]at h;subst h;grind
      grind
     .split at h
      .simp only[aAb]at h;subst h;grind
      grind
     .split at h
      .split at h
       .simp only[aAb]at h;subst h;grind
       grind
      grind
    .split at h
     .simp only[aAb]at h;subst h;grind
     .split at h
      .simp only[aAb]at h;subst h;grind
      .simp only[aAb]at h;subst h;grind
      grind
     grind
    grind
   grind
  grind
 case extract x i=>
  split at h
  .split at h
   .simp only[aAb]at h;subst h;grind
   grind
  grind
 case nilCheck x=>
  split at h
  .simp only[aAb]at h;subst h;rfl
  .simp only[aAb]at h;subst h;rfl
  grind
 case index t x i=>
  unfold Es at h ⊢
  split at h
  .simp only[aAb]at h;subst h;grind
  grind
 case lookup t x i ok=>
  unfold vU at h ⊢;have hp:∀ l,aH fr x=.mp l->st'.H l=st.H l:=fun l hl=>hh l 0 (by grind [mU,QV])
  split at h
  .split at h
   .split at h
    .rename_i l hx;have hq:=hp l hx
     split at h
     .rename_i hH;simp only[aAb]at h;subst h;simp_all
     grind
    .simp only[aAb]at h;subst h;grind
    grind
   grind
  grind
 case makeFunc f first Gj=>
  split at h
  .simp only[aAb]at h;subst h;grind
  grind
 case call c=>
  obtain⟨callee,args,tys⟩:=c;unfold DO at h ⊢
  split at h<;>rename_i O9 _<;>(try simp only at O9)
  .rename_i x t' ts hargs U8;simp only at hargs U8
   have hp:∀ l,aH fr x=.mp l->st'.H l=st.H l:=fun l hl=>hh l 0 (by
    have hargs':args=#[x]:=aEB O9
    grind [mU,QV])
   cases hmk:kW T t' with
   |some p=>
    simp only[hmk]at h ⊢;unfold Vj at h ⊢;simp only[hmk]at h ⊢
    split at h
    .rename_i l _ hx;have hq:=hp l hx
     split at h
     .rename_i hH;simp only[aAb]at h;subst h;simp_all
     grind
    grind
   |none=>
   simp only[hmk]at h ⊢;unfold VA at h ⊢
   split at h
   .split at h
    .simp only[aAb]at h;subst h;grind
    .simp only[aAb]at h;subst h;grind
    .split at h
     .simp only[aAb]at h;subst h;grind
     grind
   grind
  .unfold Un at h ⊢
   split at h
   .simp only[aAb]at h;subst h;grind
   grind
  .unfold Ur at h ⊢
   split at h
   .simp only[aAb]at h;subst h;grind
   grind
  all_goals (first|(exfalso;revert hq;simp_all[aS];done)|(simp at h;done)|(exfalso;simp_all[aS];done))
theorem FQ{fr:Frm}{op:Op}{l k:Nat}(h:mU fr op=.pt l k):eW op=true:=by
 unfold mU at h
 split at h
 .rfl
 .rfl
 .rfl
 grind
theorem Ce{B:List Nat}{j9:St}{J:Frm->St->Prop}:∀(π:List (Nat×Bool×Oper)) (listed:Array Bool) (fr:Frm) (st:St),(∀ p∈π,ops[p.1]?=some p.2.2/\(kH ops p.1=true->p.2.1=true))->mS ops (π.map (·.1)) listed=true->
 eE P T ops M B j9 J π fr st->jX P T ops M (SB B j9) J π.length listed fr st
 |[],listed,fr,st,_,hk,h=>by simp only[aCL,mS,List.isEmpty_iff]at hk;exact⟨hk,h⟩
 |(i,nd,o)::π,listed,fr,st,hp,hk,h=>by
  obtain⟨ho,hnd⟩:ops[i]?=some o/\(kH ops i=true->nd=true):=hp (i,nd,o) sS;simp only[aAm,mS,ho,aAX]at hk
  have ih:∀ fr st,(∀ p∈π,ops[p.1]?=some p.2.2/\(kH ops p.1=true->p.2.1=true))->mS ops (π.map (·.1)) (listed.setIfInBounds i true)=true->eE P T ops M B j9 J π fr st->jX P T ops M (SB B j9) J π.length (listed.setIfInBounds i true) fr st:=
   fun fr st=>Ce π (listed.setIfInBounds i true) fr st
  have U5:∀ p∈π,ops[p.1]?=some p.2.2/\(kH ops p.1=true->p.2.1=true):=fun p hm=>hp p (by grind);unfold eE at h;cases hq:aS o.op with
  |true=>
   simp only[hq,aBs,aAX]at hk h;obtain⟨⟨hrd,hfr⟩,hk⟩:=hk;cases hw:bB ops fr o.guard with
   |none=>simp_all
   |some b=>
    rw[hw]at h;cases b with
    |false=>exact iZ ho _ listed fr st (Region.free_spec ho hfr) (by grind) (.inr ⟨hw,rfl⟩) (h.2 rfl).1 hq (ih _ _ U5 hk (h.2 rfl).2)
    |true=>
     obtain⟨hS,hpt,h1⟩:=h.1 rfl
     split at h1
     .rename_i r hr;refine iZ ho _ listed fr st (Region.free_spec ho hfr) (by grind) (.inl ⟨hw,hq,fun st' hS'=>?_⟩) hS hq (ih _ _ U5 hk h1.2);refine⟨@bR.mk r.c r.v st' r.d,pF hq (fun l k hl=>?_) hr,h1.1,rfl,rfl⟩;rw[hl]at hpt;have hh:eW o.op=true:=FQ hl;rw[hS' hh l hpt,hS hh l hpt]
     grind
  |false=>
   simp only[hq,aBg,aBS]at hk h;obtain⟨hrd,hk⟩:=hk;have hrd':Region.ready .any ops listed=[i]:=by simpa using hrd
   refine⟨fun h0=>(by grind),fun j hj=>?_⟩;rw[hrd']at hj;obtain rfl:j=i:=by grind
   refine⟨o,ho,h.mono fun c8 st' hh=>⟨?_,ih _ _ U5 hk hh.2⟩⟩
   grind [Kx]
def pick(ops:Array Oper)(π:List (Nat×Bool)):List (Nat×Bool×Oper):=π.filterMap fun p=>(ops[p.1]?).map fun o=>(p.1,p.2,o)
theorem Ox(hT:aZ P T)(M B:List Nat)(π:List (Nat×Bool)){Q:AQ}{id:Nat}{fr:Frm}{st:St}(hm:P.follows .mixedOrders=true)(hk:cV N ops ops.toList=true)
 (hπ:(mS ops ((pick ops π).map (·.1)) (Array.replicate ops.size false)&&((pick ops π).length==ops.size)&&(π.all fun p=>!kH ops p.1||p.2))=true)
 (h:∀ J:Frm->St->Prop,(∀ fr st,Q .normal fr st->J fr st)->eE P T ops M B st J (pick ops π) fr st):AWp P N (.region id ops true) Q fr st:=by
 intro a w g hi hr hs hd;simp only[aAX,aDV]at hπ;obtain⟨⟨hπ1,hπ2⟩,hπ3⟩:=hπ;refine wp_region_any hm ?_;have hp:∀ p∈pick ops π,ops[p.1]?=some p.2.2/\(kH ops p.1=true->p.2.1=true):=by intro p hp;unfold pick at hp;simp only[List.mem_filterMap,aBk]at hp;obtain⟨q,hq,o,ho,rfl⟩:=hp;refine⟨ho,fun hn=>?_⟩;rw[aBJ]at hπ3;have:=hπ3 q hq;simpa[hn]using this
 have hA:=Ce (pick ops π) (Array.replicate ops.size false) fr st hp hπ1 (h (fun fr st=>Q .normal fr st) (fun _ _ h=>h));rw[hπ2]at hA;have W5:Ext w g { w with drawn:=w.drawn+1 } g:=dU w g;exact oJ hT hk (fun _ _ h=>h) _ _ fr st a { w with drawn:=w.drawn+1 } g hi.drew (hr.mono W5) hs hd W5 hA
def NN(P:Program)(T:Tab)(ops:Array Oper)(M B:List Nat)(j9:St)(J:Frm->St->Prop)(π:List (Nat×Bool×Oper))(o:Oper)(fr:Frm)(st:St):Option Bool->Prop
 |some b=>(b=true->((eW o.op=true->SB B j9 st)/\Nc B (mU fr o.op)/\match aop T (inM M o.dst) o fr st with
   |some r=>r.c/\eE P T ops M B j9 J π (bM fr o.dst r.v) st
   |none=>False))/\(b=false->(eW o.op=true->SB B j9 st)/\eE P T ops M B j9 J π (bM fr o.dst (.tu [])) st)
 |none=>False
def ZQ(P:Program)(T:Tab)(ops:Array Oper)(M B:List Nat)(j9:St)(J:Frm->St->Prop)(π:List (Nat×Bool×Oper))(o:Oper)(fr:Frm)(st:St):Option bR->Prop
 |some r=>r.c/\eE P T ops M B j9 J π (bM fr o.dst r.v) st
 |none=>False
def Yy(P:Program)(T:Tab)(ops:Array Oper)(M B:List Nat)(j9:St)(J:Frm->St->Prop)(π:List (Nat×Bool×Oper))(nd:Bool)(o:Oper)(fr:Frm):Option bR->Prop
 |some r=>r.c/\(nd=true->SB B j9 r.s)/\eE P T ops M B j9 J π (bM fr o.dst r.v) r.s
 |none=>False
def Bb(P:Program)(T:Tab)(ops:Array Oper)(M B:List Nat)(j9:St)(J:Frm->St->Prop)(π:List (Nat×Bool×Oper))(nd:Bool)(d:Option Nat)(fr:Frm)(st:St)(f:FuncId)(args:List LV):Prop:=
 ∃ R,aB P f args st R/\∀ r st',R r st'->(nd=true->SB B j9 st')/\eE P T ops M B j9 J π (bM fr d r) st'
def ZF(P:Program)(T:Tab)(ops:Array Oper)(M B:List Nat)(j9:St)(J:Frm->St->Prop)(π:List (Nat×Bool×Oper))(nd:Bool)(d:Option Nat)(fr:Frm)(st:St)(args:List LV):Option (FuncId×List LV)->Prop
 |some (f,Gj)=>Bb P T ops M B j9 J π nd d fr st f (args++Gj)
 |none=>False
def Xp(P:Program)(T:Tab)(ops:Array Oper)(M B:List Nat)(j9:St)(J:Frm->St->Prop)(π:List (Nat×Bool×Oper))(nd:Bool)(o:Oper)(fr:Frm)(st:St):Prop:=
 match o.op with
 |.call { callee:=.value x,args:=args,argTypes:=_ }=>ZF P T ops M B j9 J π nd o.dst fr st (args.toList.map (aH fr)) (eY (aH fr x))
 |_=>Yy P T ops M B j9 J π nd o fr (aop T (inM M o.dst) o fr st)
def Jk(P:Program)(T:Tab)(ops:Array Oper)(M B:List Nat)(j9:St)(J:Frm->St->Prop)(π:List (Nat×Bool×Oper))(nd:Bool)(o:Oper)(fr:Frm)(st:St):Option Bool->Prop
 |some b=>(b=true->Xp P T ops M B j9 J π nd o fr st)/\(b=false->(nd=true->SB B j9 st)/\eE P T ops M B j9 J π (bM fr o.dst (.tu [])) st)
 |none=>False
def Pj(P:Program)(T:Tab)(ops:Array Oper)(M B:List Nat)(j9:St)(J:Frm->St->Prop)(π:List (Nat×Bool×Oper))(nd:Bool)(o:Oper)(fr:Frm)(st:St):Bool->Prop
 |true=>NN P T ops M B j9 J π o fr st (bB ops fr o.guard)
 |false=>Jk P T ops M B j9 J π nd o fr st (bB ops fr o.guard)
variable {B:List Nat} {j9:St} {J:Frm->St->Prop} {π:List (Nat×Bool×Oper)} {nd:Bool} {o:Oper} {fr:Frm} {st:St} {d:Option Nat}
theorem Zq:eE P T ops M B j9 J [] fr st=J fr st:=rfl
theorem YE(i:Nat):eE P T ops M B j9 J ((i,nd,o)::π) fr st=Pj P T ops M B j9 J π nd o fr st (aS o.op):=by
 unfold eE;cases hq:aS o.op with
 |true=>simp only[Pj];cases bB ops fr o.guard<;>rfl
 |false=>
  simp only[Pj];unfold kX;cases bB ops fr o.guard with
  |none=>rfl
  |some b=>
   simp only[Jk]
   congr 1
theorem UA:Pj P T ops M B j9 J π nd o fr st true=NN P T ops M B j9 J π o fr st (bB ops fr o.guard):=rfl
theorem Yg:Pj P T ops M B j9 J π nd o fr st false=Jk P T ops M B j9 J π nd o fr st (bB ops fr o.guard):=rfl
theorem K1:NN P T ops M B j9 J π o fr st (some true)=((eW o.op=true->SB B j9 st)/\Nc B (mU fr o.op)/\ZQ P T ops M B j9 J π o fr st (aop T (inM M o.dst) o fr st)):=by simp only[NN,forall_const,Bool.true_eq_false,false_implies,aEx];cases aop T (inM M o.dst) o fr st<;>rfl
theorem G5:NN P T ops M B j9 J π o fr st (some false)=((eW o.op=true->SB B j9 st)/\eE P T ops M B j9 J π (bM fr o.dst (.tu [])) st):=by simp[NN]
theorem d_a(r:bR):ZQ P T ops M B j9 J π o fr st (some r)=(r.c/\eE P T ops M B j9 J π (bM fr o.dst r.v) st):=rfl
theorem K0:Jk P T ops M B j9 J π nd o fr st (some true)=Xp P T ops M B j9 J π nd o fr st:=by simp[Jk]
theorem D9:Jk P T ops M B j9 J π nd o fr st (some false)=((nd=true->SB B j9 st)/\eE P T ops M B j9 J π (bM fr o.dst (.tu [])) st):=by simp[Jk]
theorem d_l(r:bR):Yy P T ops M B j9 J π nd o fr (some r)=(r.c/\(nd=true->SB B j9 r.s)/\eE P T ops M B j9 J π (bM fr o.dst r.v) r.s):=rfl
theorem Xc(f:FuncId)(Gj args:List LV):ZF P T ops M B j9 J π nd d fr st args (some (f,Gj))=Bb P T ops M B j9 J π nd d fr st f (args++Gj):=rfl
theorem bJ(h:eE P T ops M B j9 J π fr st):eE P T ops M B j9 J π fr st:=h
theorem aO{f:FuncId}{args:List LV}{R:LV->St->Prop}(h:aB P f args st R)(hk:∀ r st',R r st'->(nd=true->SB B j9 st')/\eE P T ops M B j9 J π (bM fr d r) st'):Bb P T ops M B j9 J π nd d fr st f args:=⟨R,h,hk⟩
theorem sD(p:Nat×Bool)(l:List (Nat×Bool)):pick ops (p::l)=match ops[p.1]? with|some o=>(p.1,p.2,o)::pick ops l|none=>pick ops l:=by unfold pick;simp only[List.filterMap_cons];cases ops[p.1]?<;>rfl
theorem Ig:pick ops []=[]:=rfl
theorem YX:SB [] j9 st=True:=by simp[SB]
theorem Uu(b:Nat)(l:List Nat):SB (b::l) j9 st=(st.H b=j9.H b/\SB l j9 st):=by simp[SB]
end
end Aw
end Go.Proofs.YtbgngpdonpeboaaGreatDoor
