/- Regions whose order is open, at large: what only looks is taken as soon as it may come; the rest one behind the other. No program is named here. -/
import Derived.Test.YtbgngpdonpeboaaGreatDoorAwRun
import Derived.Orders
set_option linter.unusedVariables false
set_option linter.unusedSimpArgs false
namespace Go.Proofs.YtbgngpdonpeboaaGreatDoor
namespace Aw
open Go Go.RowKit
def eY:Op->Bool
 |.load ..=>true
 |.lookup ..=>true
 |.call { callee:=.builtin .len,.. }=>true
 |_=>false
def Rq:LV->LV
 |.mp l=>.pt l 0
 |_=>.ep []
section
variable {P:Program} {T:Tab} {N:Nat} {ops:Array Oper} {M:List Nat}
def kZ(P:Program)(T:Tab)(ops:Array Oper)(M:List Nat)(o:Oper)(K:Frm->St->Prop)(fr:Frm)(st:St):Prop:=
 match aY ops fr o.guard with
 |some b=>(b=true->(match o.op with
   |.call { callee:=.value x,args:=args,argTypes:=_ }=>match fA (aH fr x) with
    |some (f,IQ)=>∃ R,aB P f ((args.toList.map (aH fr))++IQ) st R/\∀ r st',R r st'->K (bK fr o.dst r) st'
    |none=>False
   |_=>match aop T (inM M o.dst) o fr st with
    |some r=>r.c/\K (bK fr o.dst r.v) r.s
    |none=>False))/\(b=false->K (bK fr o.dst (.tu [])) st)
 |none=>False
theorem kZ.mono{o:Oper}{K K':Frm->St->Prop}{fr:Frm}{st:St}(hk:∀ fr st,K fr st->K' fr st)(h:kZ P T ops M o K fr st):kZ P T ops M o K' fr st:=by
 unfold kZ at h ⊢;cases hw:aY ops fr o.guard with
 |none=>simp_all
 |some b=>
  rw[hw]at h;refine⟨fun hb=>?_,fun hb=>hk _ _ (h.2 hb)⟩;have h1:=h.1 hb
  split at h1
  .split at h1
   .grind
   omega
  .split at h1
   .grind
   omega
def jU(ops:Array Oper)(j:Nat):Bool:=
 match ops[j]? with
 |none=>false
 |some oj=>(List.range ops.size).any fun i=>i != j&&((ops[i]?).map fun oi=>eY oi.op).getD false&&!(oj.after.any fun e=>Region.binds .any e&&e.on==i)
def Kx(ops:Array Oper)(S:St->Prop)(i:Nat)(o:Oper)(st st':St):Prop:=if aR o.op=true then st'=st else(jU ops i=true->S st')
def jS(P:Program)(T:Tab)(ops:Array Oper)(M:List Nat)(S:St->Prop)(J:Frm->St->Prop):Nat->Array Bool->Frm->St->Prop
 |0,listed,fr,st=>Region.ready .any ops listed=[]/\J fr st
 |fuel+1,listed,fr,st=>(Region.ready .any ops listed=[]->J fr st)/\
  ∀ i∈Region.ready .any ops listed,∃ o,ops[i]?=some o/\kZ P T ops M o (fun c7 st'=>Kx ops S i o st st'/\jS P T ops M S J fuel (listed.setIfInBounds i true) c7 st') fr st
theorem HN(hT:aX P T){o:Oper}{Q:Exit->Act->World->Prop}{K:Frm->St->Prop}{K':Act->World->Prop}{w0:World}{g0:G}{fr:Frm}{st:St}{a:Act}{w:World}{g:G}{i:Nat}(ho:ops[i]?=some o)
 (hdst:pB N o.dst=true) (hgd:kD N ops o.guard=true) (hi:Inv w g st) (hr:eD w g a fr) (hs:a.tmps.size=N) (hd:a.defers=[]) (he0:Ext w0 g0 w g)
 (hK:∀ c7 st' a' w' g',Inv w' g' st'->eD w' g' a' c7->a'.tmps.size=N->a'.defers=[]->Ext w0 g0 w' g'->K c7 st'->K' a' w') (h:kZ P T ops M o K fr st):wpOp P ops Q i K' a w:=by
 unfold kZ at h;unfold wpOp;simp only[ho];cases hw:aY ops fr o.guard with
 |none=>simp_all
 |some b=>
  rw[hw]at h;have hwt:Region.wanted o (yielded ops a.tmps)=b:=eV hr hw (by rw[hs];exact iO hgd);rw[hwt];cases b with
  |false=>
   grind [eG,xR,cC,put_defers]
  |true=>
   simp only[aBq];left;have h1:=h.1 rfl;unfold Oper.wp
   split at h1
   .rename_i x args tys hop
    split at h1
    .rename_i f IQ hf;obtain⟨R,hR,hn⟩:=h1;have hx:=aD hr x;revert hf hx;cases hev:aH fr x with
     |fn f' caps'=>
      cases f' with
      |func f'=>
       intro hf hx;simp only[fA,aAb,aBd]at hf;obtain⟨rfl,rfl⟩:=hf;simp only[Rep]at hx;obtain⟨us,hx,hus⟩:=hx;have o6:(execOp a.eval o).run P w=.ok (.enter f' ((args.toList.map a.eval++us).toArray)) w:=by unfold execOp;simp only[hop,resolve,invoke,hx,Deferred.ofValue,Sem.run_bind,Sem.run_pure,Result.andThen_ok];simp only[Array.empty_append];rw[hR.1];simp
       rw[o6,Oper.upon_enter];refine(hR.2 w g _ hi (bW _ _ _ _ (Ce hr args.toList) hus)).mono ?_;rintro e w' ⟨v,r,st',g',rfl,hq,hv,I4,he⟩;exact hK _ _ _ _ g' I4 (eG (hr.mono he) (by grind) hv) (by grind [cC]) (by grind [put_defers]) (he0.trans he) (hn r st' hq)
      |_=>grind [fA]
     |_=>intro hf;simp[fA]at hf
    grind
   .split at h1
    .rename_i r O1;obtain⟨x,w',g',o6,hx,I4,he,_⟩:=xE (N:=N) hT O1 h1.1 a w g hi hr hs;rw[o6];rcases hx with⟨v,rfl,hv⟩|⟨rfl,hdead⟩
     .rw[Oper.upon_value];exact hK _ _ _ _ g' I4 (eG (hr.mono he) (by grind) hv) (by grind [cC]) (by grind [put_defers]) (he0.trans he) h1.2
     .rw[Oper.upon_skip];rw[hdead]at h1;exact hK _ _ _ _ g' I4 (eG (hr.mono he) (by grind) (by grind [Rep])) (by grind [cC]) (by grind [put_defers]) (he0.trans he) h1.2
    grind
theorem oP(hT:aX P T){S:St->Prop}{J:Frm->St->Prop}{Q:AQ}(hk:cW N ops ops.toList=true)(hJ:∀ fr st,J fr st->Q .normal fr st){w0:World}{g0:G}:
 ∀(fuel:Nat) (listed:Array Bool) (fr:Frm) (st:St) (a:Act) (w:World) (g:G),Inv w g st->eD w g a fr->a.tmps.size=N->a.defers=[]->Ext w0 g0 w g->
  jS P T ops M S J fuel listed fr st->wpAny P .any ops (lJ N Q w0 g0) fuel listed a w
 |0,listed,fr,st,a,w,g,hi,hr,hs,hd,he,h=>⟨h.1,fr,st,g,hJ _ _ h.2,hi,hr,hs,hd,he⟩
 |fuel+1,listed,fr,st,a,w,g,hi,hr,hs,hd,he,h=>by
  refine⟨fun h0=>⟨fr,st,g,hJ _ _ (h.1 h0),hi,hr,hs,hd,he⟩,fun i J8=>?_⟩;obtain⟨o,ho,I2⟩:=h.2 i J8;have hko:pB N o.dst=true/\kD N ops o.guard=true:=by unfold cW at hk;rw[aBG]at hk;have:=hk o (aEy.2 (aEo ho));simpa using this
  exact HN (N:=N) hT ho hko.1 hko.2 hi hr hs hd he (fun c7 st' a' w' g' I4 O1 Y6 K7 he' hK=>oP hT hk hJ fuel _ c7 st' a' w' g' I4 O1 Y6 K7 he' hK.2) I2
theorem Od{fr:Frm}{d:Option Nat}{v:LV}{x:Operand}(h:∀ t,d=some t->x≠.tmp t):aH (bK fr d v) x=aH fr x:=by
 cases d with
 |none=>rfl
 |some d=>
  cases x with
  |tmp t=>have:t≠d:=fun e=>h d rfl (by rw[e]);simp[aH,bK,upd,this]
  |_=>rfl
theorem EH{m:Bool}{o:Oper}{fr c7:Frm}{st:St}(h:∀ x∈o.op.operands,aH fr x=aH c7 x):aop T m o fr st=aop T m o c7 st:=by
 obtain⟨dst,op,ty,pos,after,guard⟩:=o;simp only at h;cases op<;>simp only[aop,Op.operands]at h ⊢<;>try rfl
 case move x=>rw[h x sS]
 case assign x=>rw[h x sS]
 case pick c a b=>simp_all
 case binOp op t x y t'=>rw[h x sS,h y sS]
 case unOp op t x=>rw[h x sS]
 case convert s d x=>rw[h x sS]
 case load t x=>rw[h x sS]
 case store t x v=>grind
 case indexAddr t x i=>grind
 case fieldAddr t x f=>rw[h x sS]
 case field t x f=>rw[h x sS]
 case slice t x lo hi mx=>
  rw[h x sS];have h1:lo.map (aH fr)=lo.map (aH c7):=by cases lo with|none=>rfl|some y=>simp only[Option.map_some];rw[h y sS]
  have h2:hi.map (aH fr)=hi.map (aH c7):=by cases hi with|none=>rfl|some y=>simp only[Option.map_some];rw[h y sS]
  have h3:mx.map (aH fr)=mx.map (aH c7):=by cases mx with|none=>rfl|some y=>simp only[Option.map_some];rw[h y sS]
  grind
 case box t x=>rw[h x sS]
 case build t ps=>
  grind [List.map_congr_left]
 case buildSlice t n ps=>
  grind [List.map_congr_left]
 case makeFunc f first IQ=>
  grind [List.map_congr_left]
 case extract x i=>rw[h x sS]
 case nilCheck x=>rw[h x sS]
 case lookup t x i ok=>grind
 case index t x i=>grind
 case mapUpdate t x i v=>grind
 case insert t x i v=>grind
 case makeSlice t l c=>grind
 case makeMap t r=>
  have h1:r.map (aH fr)=r.map (aH c7):=by cases r with|none=>rfl|some y=>simp only[Option.map_some];rw[h y sS]
  rw[h1]
 case call c=>
  obtain⟨callee,args,tys⟩:=c;obtain⟨args⟩:=args;have ha:∀ x∈args,aH fr x=aH c7 x:=fun x hx=>h x (by simp[Call.operands];right;exact hx);clear h;unfold DA
  split<;>simp_all
def mK(T:Tab)(ops:Array Oper)(M:List Nat)(S:St->Prop)(o:Oper)(v:LV)(fr:Frm):Prop:=
 (aY ops fr o.guard=some true/\aR o.op=true/\∀ st,S st->∃ r,aop T (inM M o.dst) o fr st=some r/\r.c/\r.v=v/\r.s=st)\/(aY ops fr o.guard=some false/\v=.tu [])
theorem mK.step{S:St->Prop}{o:Oper}{v:LV}{fr:Frm}{st:St}{K:Frm->St->Prop}(hy:mK T ops M S o v fr)(hS:S st)(h:K (bK fr o.dst v) st):kZ P T ops M o K fr st:=by
 unfold kZ;rcases hy with⟨hw,hq,hv⟩|⟨hw,rfl⟩
 .rw[hw];refine⟨fun _=>?_,(fun hb=>by grind)⟩;obtain⟨r,h1,h2,h3,h4⟩:=hv st hS
  split
  .grind [aR]
  simp_all
 simp_all
theorem yE{o:Oper}{fr:Frm}{d:Option Nat}{v:LV}(h:∀ t,d=some t->t∉o.looksAt ops):∀ x∈o.op.operands,aH (bK fr d v) x=aH fr x:=by intro x hx;refine Od fun t ht hxt=>h t ht ?_;subst hxt;exact aAq _ (List.mem_filterMap.2 ⟨.tmp t,by grind,rfl⟩)
theorem mO{o:Oper}{fr:Frm}{d:Option Nat}{v:LV}(h:∀ t,d=some t->t∉o.looksAt ops):aY ops (bK fr d v) o.guard=aY ops fr o.guard:=by
 cases d with
 |none=>rfl
 |some d=>
  unfold aY;cases hg:o.guard with
  |none=>rfl
  |some p=>
   obtain⟨j,want⟩:=p;simp only;cases hd:(ops[j]?).bind (·.dst) with
   |none=>rfl
   |some t=>
    have Zo:t≠d:=by rintro rfl;refine h t rfl (aAx _ ?_);simp[hg,hd]
    simp[bK,upd,Zo]
theorem mK.keep{S:St->Prop}{o:Oper}{v:LV}{fr:Frm}(hy:mK T ops M S o v fr){d:Option Nat}(h:∀ t,d=some t->t∉o.looksAt ops)(u:LV):mK T ops M S o v (bK fr d u):=by
 rcases hy with⟨hw,hq,hv⟩|⟨hw,rfl⟩
 .left;refine⟨by grind [mO],hq,fun st hS=>?_⟩;rw[EH (yE h)]
  grind
 .right
  grind [mO]
theorem OR{fr:Frm}{d e:Option Nat}{u v:LV}(h:∀ t,d=some t->e≠some t):bK (bK fr d u) e v=bK (bK fr e v) d u:=by
 cases d with
 |none=>rfl
 |some d=>
  cases e with
  |none=>rfl
  |some e=>
   have Zo:e≠d:=fun h0=>h d rfl (by rw[h0])
   funext i
   simp only[bK,upd]
   grind
theorem OP{S:St->Prop}{oi oj:Oper}{v:LV}(hap:oi.apart ops oj=true){K:Frm->St->Prop}{fr:Frm}{st:St}(hy:mK T ops M S oi v fr)
 (h:kZ P T ops M oj K (bK fr oi.dst v) st):kZ P T ops M oj (fun c7 st'=>mK T ops M S oi v c7/\K (bK c7 oi.dst v) st') fr st:=by
 obtain⟨h1,h2,h3⟩:=Oper.apart_spec hap;have hev:=yE (fr:=fr) (v:=v) h1;unfold kZ at h ⊢;rw[mO h1]at h;cases hw:aY ops fr oj.guard with
 |none=>simp_all
 |some b=>
  rw[hw]at h;have hk:∀ r,bK (bK fr oi.dst v) oj.dst r=bK (bK fr oj.dst r) oi.dst v:=fun r=>OR h2;refine⟨fun hb=>?_,fun hb=>⟨hy.keep h3 _,by grind⟩⟩;have g:=h.1 hb
  split at g
  .rename_i x args tys hop;simp only;have hx:aH (bK fr oi.dst v) x=aH fr x:=hev x (by grind [Op.operands,Call.operands]);have hargs:(args.toList.map (aH (bK fr oi.dst v)))=args.toList.map (aH fr):=aAN fun y hy'=>by
    grind [Op.operands,Call.operands]
   rw[hx,hargs]at g
   split at g
   .obtain⟨R,hR,hn⟩:=g;exact⟨R,hR,fun r st' hr=>⟨hy.keep h3 _,by grind⟩⟩
   omega
  .rename_i hnc;rw[EH hev]at g;cases hr:aop T (inM M oj.dst) oj fr st with
   |none=>simp_all
   |some r=>rw[hr]at g;exact⟨g.1,hy.keep h3 _,by grind⟩
theorem PJ{i j:Nat}{oi oj:Oper}(hi:ops[i]?=some oi)(hj:ops[j]?=some oj)(Zo:j≠i)(hh:eY oi.op=true)(x8:∀ e∈oj.after,Region.binds .any e=true->e.on≠i):jU ops j=true:=by
 unfold jU;rw[hj]
 grind
theorem iX{S:St->Prop}{J:Frm->St->Prop}{i:Nat}{oi:Oper}{v:LV}(hi:ops[i]?=some oi):
 ∀(fuel:Nat) (listed:Array Bool) (fr:Frm) (st:St),
  (∀ j oj,ops[j]?=some oj->j≠i->listed.getD j true=false->(∀ e∈oj.after,Region.binds .any e=true->e.on≠i)->oi.apart ops oj=true)->
  i∈Region.ready .any ops listed->mK T ops M (fun st=>eY oi.op=true->S st) oi v fr->(eY oi.op=true->S st)->aR oi.op=true->
  jS P T ops M S J fuel (listed.setIfInBounds i true) (bK fr oi.dst v) st->jS P T ops M S J (fuel+1) listed fr st:=by
 intro fuel;induction fuel with
 |zero=>
  intro listed fr st _ hr hy hS hq H;refine⟨fun h=>(by grind),fun j hj=>?_⟩;by_cases hji:j=i
  .subst hji;exact⟨oi,hi,hy.step hS ⟨by grind [Kx],H⟩⟩
  .have:=ready_mono hj hji;rw[H.1]at this
   grind
 |succ fuel ih=>
  intro listed fr st hfree hr hy hS hq H;refine⟨fun h=>(by grind),fun j hj=>?_⟩;by_cases hji:j=i
  .subst hji;exact⟨oi,hi,hy.step hS ⟨by grind [Kx],H⟩⟩
  .obtain⟨oj',hoj',h1⟩:=H.2 j (ready_mono hj hji);obtain⟨hjun,oj,hoj,hall⟩:=mem_ready.1 hj;have hoo:oj'=oj:=by rw[hoj]at hoj';exact(aBn hoj').symm
   subst hoo;have hnot:∀ e∈oj'.after,Region.binds .any e=true->e.on≠i:=fun e he hb heq=>by
    have h1:=hall e he hb;have h0:=(mem_ready.1 hr).1;rw[heq]at h1;rcases aAS i listed.size with h'|h'
    .grind
    grind
   have h2:=OP (hfree j oj' hoj hji hjun hnot) hy h1
   have hfree':∀ k ok,ops[k]?=some ok->k≠i->(listed.setIfInBounds j true).getD k true=false->
    (∀ e∈ok.after,Region.binds .any e=true->e.on≠i)->oi.apart ops ok=true:=fun k ok hk hki hun x8=>by
    refine hfree k ok hk hki ?_ x8;by_cases hjk:j=k
    .subst hjk;omega
    .rw[getD_set_ne true hjk]at hun;omega
   refine⟨oj',hoj,h2.mono fun c7 st' h3=>⟨h3.2.1,?_⟩⟩;refine ih (listed.setIfInBounds j true) c7 st' hfree' (ready_mono hr (aCB hji)) h3.1 (fun hh=>?_) hq ?_
   .have hk:=h3.2.1;unfold Kx at hk
    split at hk
    .grind
    .exact hk (PJ hi hoj hji hh hnot)
   .rw[Array.setIfInBounds_comm _ _ hji]
    grind
def mI(ops:Array Oper):List Nat->Array Bool->Bool
 |[],listed=>(Region.ready .any ops listed).isEmpty
 |i::π,listed=>match ops[i]? with
  |some o=>(if aR o.op then(Region.ready .any ops listed).contains i&&Region.free .any ops listed i else Region.ready .any ops listed==[i])&&mI ops π (listed.setIfInBounds i true)
  |none=>false
def Mj(B:List Nat):LV->Prop
 |.pt l _=>l∈B
 |.ep _=>True
 |_=>False
def mR(fr:Frm):Op->LV
 |.load _ x=>aH fr x
 |.lookup _ x _ _=>Rq (aH fr x)
 |.call { callee:=.builtin .len,args:=⟨x::_⟩,.. }=>Rq (aH fr x)
 |_=>.ep []
def SB(B:List Nat)(j7 st:St):Prop:=∀ l∈B,st.H l=j7.H l
def eI(P:Program)(T:Tab)(ops:Array Oper)(M B:List Nat)(j7:St)(J:Frm->St->Prop):List (Nat×Bool×Oper)->Frm->St->Prop
 |[],fr,st=>J fr st
 |(_,nd,o)::π,fr,st=>match aR o.op with
  |true=>match aY ops fr o.guard with
   |some b=>(b=true->((eY o.op=true->SB B j7 st)/\Mj B (mR fr o.op)/\match aop T (inM M o.dst) o fr st with
     |some r=>r.c/\eI P T ops M B j7 J π (bK fr o.dst r.v) st
     |none=>False))/\(b=false->(eY o.op=true->SB B j7 st)/\eI P T ops M B j7 J π (bK fr o.dst (.tu [])) st)
   |none=>False
  |false=>kZ P T ops M o (fun c7 st'=>(nd=true->SB B j7 st')/\eI P T ops M B j7 J π c7 st') fr st
theorem oN{o:Oper}{fr:Frm}{m:Bool}{st st':St}{r:bP}(hq:aR o.op=true)(hh:∀ l k,mR fr o.op=.pt l k->st'.H l=st.H l)(h:aop T m o fr st=some r):
 aop T m o fr st'=some (@bP.mk r.c r.v st' r.d):=by
 obtain⟨dst,op,ty,pos,after,guard⟩:=o;simp only at hq hh;cases op<;>simp only[aR,aBb]at hq<;>simp only[aop]at h ⊢
 case move x=>simp only[aAb]at h;subst h;rfl
 case assign x=>simp only[aAb]at h;subst h;rfl
 case pick c a b=>
  split at h
  .simp only[aAb]at h;subst h;rfl
  grind
 case binOp op t x y t'=>
  unfold HA at h ⊢
  split at h
  .simp only[aBj]at h ⊢;obtain⟨p,h1,rfl⟩:=h
   grind
  .split at h
   .simp only[aAb]at h;subst h;rfl
   .simp only[aAb]at h;subst h;rfl
   grind
  .split at h
   .split at h
    .simp only[aAb]at h;subst h;grind
    .simp only[aAb]at h;subst h;grind
    grind
   grind
  .split at h
   .simp only[aAb]at h;subst h;grind
   .simp only[aAb]at h;subst h;grind
   grind
  .split at h
   .simp only[aAb]at h;subst h;grind
   .simp only[aAb]at h;subst h;grind
   grind
  .split at h
   .simp only[aAb]at h;subst h;grind
   .simp only[aAb]at h;subst h;grind
   grind
  .split at h
   .simp only[aAb]at h;subst h;grind
   .simp only[aAb]at h;subst h;grind
   grind
  grind
 case unOp op t x=>
  unfold UZ at h ⊢
  split at h
  .simp only[aAb]at h;subst h;rfl
  .simp only[aAb]at h;subst h;rfl
  grind
 case convert s d x=>
  split at h
  .simp only[aAb]at h;subst h;rfl
  grind
 case load t x=>
  unfold BH at h ⊢;have hp:eR st' (aH fr x)=eR st (aH fr x):=by
   cases hx:aH fr x with
   |pt l k=>simp only[eR];rw[hh l k hx]
   |_=>rfl
  rw[hp]
  split at h
  .split at h
   .simp only[aAb]at h;subst h;grind
   .simp only[aAb]at h;subst h;grind
  grind
 case indexAddr t x i=>
  unfold Ql at h ⊢
  split at h
  .split at h
   .split at h
    .simp only[aAb]at h;subst h;rfl
    .split at h
     .simp only[aAb]at h;subst h;grind
     grind
   grind
  grind
 case fieldAddr t x f=>
  unfold lF at h ⊢
  split at h
  .split at h
   .split at h
    .split at h
     .simp only[aAb]at h;subst h;grind
     .simp only[aAb]at h;subst h;grind
     .simp only[aAb]at h;subst h;rfl
     grind
    grind
   grind
  grind
 case field t x f=>
  unfold Ad at h ⊢
  split at h
  .split at h
   .split at h
    .split at h
     .simp only[aAb]at h;subst h;grind
     .simp only[aAb]at h;subst h;grind
    grind
   grind
  grind
 case slice t x lo hi mx=>
  unfold CB at h ⊢
  split at h
  .split at h
   .split at h
    .split at h
     .split at h
      .simp only[aAb]at h;subst h;grind
      grind
     .split at h
      .simp only[aAb]at h;subst h;grind
      grind
     .split at h
      .simp only[aAb]at h;subst h;grind
      grind
     .split at h
      .simp only[aAb]at h;subst h;grind
      grind
     .split at h
      .split at h
       .simp only[aAb]at h;subst h;grind
       grind
      grind
    .split at h
     .simp only[aAb]at h;subst h;grind
     .split at h
      .simp only[aAb]at h;subst h;grind
      .simp only[aAb]at h;subst h;grind
      grind
     grind
    grind
   grind
  grind
 case extract x i=>
  split at h
  .split at h
   .simp only[aAb]at h;subst h;grind
   grind
  grind
 case nilCheck x=>
  split at h
  .simp only[aAb]at h;subst h;rfl
  .simp only[aAb]at h;subst h;rfl
  grind
 case index t x i=>
  unfold Fe at h ⊢
  split at h
  .simp only[aAb]at h;subst h;grind
  grind
 case lookup t x i ok=>
  unfold uJ at h ⊢;have hp:∀ l,aH fr x=.mp l->st'.H l=st.H l:=fun l hl=>hh l 0 (by grind [mR,Rq])
  split at h
  .split at h
   .split at h
    .rename_i l hx;have hq:=hp l hx
     split at h
     .rename_i hH;simp only[aAb]at h;subst h;simp_all
     grind
    .simp only[aAb]at h;subst h;grind
    grind
   grind
  grind
 case makeFunc f first IQ=>
  split at h
  .simp only[aAb]at h;subst h;grind
  grind
 case call c=>
  obtain⟨callee,args,tys⟩:=c;unfold DA at h ⊢
  split at h<;>rename_i K1 _<;>(try simp only at K1)
  .rename_i x t' ts hargs P5;simp only at hargs P5
   have hp:∀ l,aH fr x=.mp l->st'.H l=st.H l:=fun l hl=>hh l 0 (by
    have hargs':args=#[x]:=aEx K1
    grind [mR,Rq])
   cases hmk:kR T t' with
   |some p=>
    simp only[hmk]at h ⊢;unfold TZ at h ⊢;simp only[hmk]at h ⊢
    split at h
    .rename_i l _ hx;have hq:=hp l hx
     split at h
     .rename_i hH;simp only[aAb]at h;subst h;simp_all
     grind
    grind
   |none=>
   simp only[hmk]at h ⊢;unfold Ss at h ⊢
   split at h
   .split at h
    .simp only[aAb]at h;subst h;grind
    .simp only[aAb]at h;subst h;grind
    .split at h
     .simp only[aAb]at h;subst h;grind
     grind
   grind
  .unfold VJ at h ⊢
   split at h
   .simp only[aAb]at h;subst h;grind
   grind
  .unfold UK at h ⊢
   split at h
   .simp only[aAb]at h;subst h;grind
   grind
  all_goals (first|(exfalso;revert hq;simp_all[aR];done)|(simp at h;done)|(exfalso;simp_all[aR];done))
theorem Fg{fr:Frm}{op:Op}{l k:Nat}(h:mR fr op=.pt l k):eY op=true:=by
 unfold mR at h
 split at h
 .rfl
 .rfl
 .rfl
 grind
theorem BO{B:List Nat}{j7:St}{J:Frm->St->Prop}:∀(π:List (Nat×Bool×Oper)) (listed:Array Bool) (fr:Frm) (st:St),(∀ p∈π,ops[p.1]?=some p.2.2/\(jU ops p.1=true->p.2.1=true))->mI ops (π.map (·.1)) listed=true->
 eI P T ops M B j7 J π fr st->jS P T ops M (SB B j7) J π.length listed fr st
 |[],listed,fr,st,_,hk,h=>by simp only[aCx,mI,List.isEmpty_iff]at hk;exact⟨hk,h⟩
 |(i,nd,o)::π,listed,fr,st,hp,hk,h=>by
  obtain⟨ho,hnd⟩:ops[i]?=some o/\(jU ops i=true->nd=true):=hp (i,nd,o) sS;simp only[aAl,mI,ho,aAW]at hk
  have ih:∀ fr st,(∀ p∈π,ops[p.1]?=some p.2.2/\(jU ops p.1=true->p.2.1=true))->mI ops (π.map (·.1)) (listed.setIfInBounds i true)=true->eI P T ops M B j7 J π fr st->jS P T ops M (SB B j7) J π.length (listed.setIfInBounds i true) fr st:=
   fun fr st=>BO π (listed.setIfInBounds i true) fr st
  have O9:∀ p∈π,ops[p.1]?=some p.2.2/\(jU ops p.1=true->p.2.1=true):=fun p hm=>hp p (by grind);unfold eI at h;cases hq:aR o.op with
  |true=>
   simp only[hq,aBq,aAW]at hk h;obtain⟨⟨hrd,hfr⟩,hk⟩:=hk;cases hw:aY ops fr o.guard with
   |none=>simp_all
   |some b=>
    rw[hw]at h;cases b with
    |false=>exact iX ho _ listed fr st (Region.free_spec ho hfr) (by grind) (.inr ⟨hw,rfl⟩) (h.2 rfl).1 hq (ih _ _ O9 hk (h.2 rfl).2)
    |true=>
     obtain⟨hS,hpt,h1⟩:=h.1 rfl
     split at h1
     .rename_i r hr;refine iX ho _ listed fr st (Region.free_spec ho hfr) (by grind) (.inl ⟨hw,hq,fun st' hS'=>?_⟩) hS hq (ih _ _ O9 hk h1.2);refine⟨@bP.mk r.c r.v st' r.d,oN hq (fun l k hl=>?_) hr,h1.1,rfl,rfl⟩;rw[hl]at hpt;have hh:eY o.op=true:=Fg hl;rw[hS' hh l hpt,hS hh l hpt]
     grind
  |false=>
   simp only[hq,aBb,aBE]at hk h;obtain⟨hrd,hk⟩:=hk;have hrd':Region.ready .any ops listed=[i]:=by simpa using hrd
   refine⟨fun h0=>(by grind),fun j hj=>?_⟩;rw[hrd']at hj;obtain rfl:j=i:=by grind
   refine⟨o,ho,h.mono fun c7 st' hh=>⟨?_,ih _ _ O9 hk hh.2⟩⟩
   grind [Kx]
def pick(ops:Array Oper)(π:List (Nat×Bool)):List (Nat×Bool×Oper):=π.filterMap fun p=>(ops[p.1]?).map fun o=>(p.1,p.2,o)
theorem Nc(hT:aX P T)(M B:List Nat)(π:List (Nat×Bool)){Q:AQ}{id:Nat}{fr:Frm}{st:St}(hm:P.follows .mixedOrders=true)(hk:cW N ops ops.toList=true)
 (hπ:(mI ops ((pick ops π).map (·.1)) (Array.replicate ops.size false)&&((pick ops π).length==ops.size)&&(π.all fun p=>!jU ops p.1||p.2))=true)
 (h:∀ J:Frm->St->Prop,(∀ fr st,Q .normal fr st->J fr st)->eI P T ops M B st J (pick ops π) fr st):AWp P N (.region id ops true) Q fr st:=by
 intro a w g hi hr hs hd;simp only[aAW,aDS]at hπ;obtain⟨⟨hπ1,hπ2⟩,hπ3⟩:=hπ;refine wp_region_any hm ?_;have hp:∀ p∈pick ops π,ops[p.1]?=some p.2.2/\(jU ops p.1=true->p.2.1=true):=by intro p hp;unfold pick at hp;simp only[List.mem_filterMap,aBj]at hp;obtain⟨q,hq,o,ho,rfl⟩:=hp;refine⟨ho,fun hn=>?_⟩;rw[aBG]at hπ3;have:=hπ3 q hq;simpa[hn]using this
 have hA:=BO (pick ops π) (Array.replicate ops.size false) fr st hp hπ1 (h (fun fr st=>Q .normal fr st) (fun _ _ h=>h));rw[hπ2]at hA;have X6:Ext w g { w with drawn:=w.drawn+1 } g:=dS w g;exact oP hT hk (fun _ _ h=>h) _ _ fr st a { w with drawn:=w.drawn+1 } g hi.drew (hr.mono X6) hs hd X6 hA
def Mc(P:Program)(T:Tab)(ops:Array Oper)(M B:List Nat)(j7:St)(J:Frm->St->Prop)(π:List (Nat×Bool×Oper))(o:Oper)(fr:Frm)(st:St):Option Bool->Prop
 |some b=>(b=true->((eY o.op=true->SB B j7 st)/\Mj B (mR fr o.op)/\match aop T (inM M o.dst) o fr st with
   |some r=>r.c/\eI P T ops M B j7 J π (bK fr o.dst r.v) st
   |none=>False))/\(b=false->(eY o.op=true->SB B j7 st)/\eI P T ops M B j7 J π (bK fr o.dst (.tu [])) st)
 |none=>False
def YR(P:Program)(T:Tab)(ops:Array Oper)(M B:List Nat)(j7:St)(J:Frm->St->Prop)(π:List (Nat×Bool×Oper))(o:Oper)(fr:Frm)(st:St):Option bP->Prop
 |some r=>r.c/\eI P T ops M B j7 J π (bK fr o.dst r.v) st
 |none=>False
def YB(P:Program)(T:Tab)(ops:Array Oper)(M B:List Nat)(j7:St)(J:Frm->St->Prop)(π:List (Nat×Bool×Oper))(nd:Bool)(o:Oper)(fr:Frm):Option bP->Prop
 |some r=>r.c/\(nd=true->SB B j7 r.s)/\eI P T ops M B j7 J π (bK fr o.dst r.v) r.s
 |none=>False
def BW(P:Program)(T:Tab)(ops:Array Oper)(M B:List Nat)(j7:St)(J:Frm->St->Prop)(π:List (Nat×Bool×Oper))(nd:Bool)(d:Option Nat)(fr:Frm)(st:St)(f:FuncId)(args:List LV):Prop:=
 ∃ R,aB P f args st R/\∀ r st',R r st'->(nd=true->SB B j7 st')/\eI P T ops M B j7 J π (bK fr d r) st'
def YC(P:Program)(T:Tab)(ops:Array Oper)(M B:List Nat)(j7:St)(J:Frm->St->Prop)(π:List (Nat×Bool×Oper))(nd:Bool)(d:Option Nat)(fr:Frm)(st:St)(args:List LV):Option (FuncId×List LV)->Prop
 |some (f,IQ)=>BW P T ops M B j7 J π nd d fr st f (args++IQ)
 |none=>False
def WL(P:Program)(T:Tab)(ops:Array Oper)(M B:List Nat)(j7:St)(J:Frm->St->Prop)(π:List (Nat×Bool×Oper))(nd:Bool)(o:Oper)(fr:Frm)(st:St):Prop:=
 match o.op with
 |.call { callee:=.value x,args:=args,argTypes:=_ }=>YC P T ops M B j7 J π nd o.dst fr st (args.toList.map (aH fr)) (fA (aH fr x))
 |_=>YB P T ops M B j7 J π nd o fr (aop T (inM M o.dst) o fr st)
def Js(P:Program)(T:Tab)(ops:Array Oper)(M B:List Nat)(j7:St)(J:Frm->St->Prop)(π:List (Nat×Bool×Oper))(nd:Bool)(o:Oper)(fr:Frm)(st:St):Option Bool->Prop
 |some b=>(b=true->WL P T ops M B j7 J π nd o fr st)/\(b=false->(nd=true->SB B j7 st)/\eI P T ops M B j7 J π (bK fr o.dst (.tu [])) st)
 |none=>False
def PT(P:Program)(T:Tab)(ops:Array Oper)(M B:List Nat)(j7:St)(J:Frm->St->Prop)(π:List (Nat×Bool×Oper))(nd:Bool)(o:Oper)(fr:Frm)(st:St):Bool->Prop
 |true=>Mc P T ops M B j7 J π o fr st (aY ops fr o.guard)
 |false=>Js P T ops M B j7 J π nd o fr st (aY ops fr o.guard)
variable {B:List Nat} {j7:St} {J:Frm->St->Prop} {π:List (Nat×Bool×Oper)} {nd:Bool} {o:Oper} {fr:Frm} {st:St} {d:Option Nat}
theorem ZA:eI P T ops M B j7 J [] fr st=J fr st:=rfl
theorem XS(i:Nat):eI P T ops M B j7 J ((i,nd,o)::π) fr st=PT P T ops M B j7 J π nd o fr st (aR o.op):=by
 unfold eI;cases hq:aR o.op with
 |true=>simp only[PT];cases aY ops fr o.guard<;>rfl
 |false=>
  simp only[PT];unfold kZ;cases aY ops fr o.guard with
  |none=>rfl
  |some b=>
   simp only[Js]
   congr 1
theorem Uj:PT P T ops M B j7 J π nd o fr st true=Mc P T ops M B j7 J π o fr st (aY ops fr o.guard):=rfl
theorem Wy:PT P T ops M B j7 J π nd o fr st false=Js P T ops M B j7 J π nd o fr st (aY ops fr o.guard):=rfl
theorem C4:Mc P T ops M B j7 J π o fr st (some true)=((eY o.op=true->SB B j7 st)/\Mj B (mR fr o.op)/\YR P T ops M B j7 J π o fr st (aop T (inM M o.dst) o fr st)):=by simp only[Mc,forall_const,Bool.true_eq_false,false_implies,aEu];cases aop T (inM M o.dst) o fr st<;>rfl
theorem D7:Mc P T ops M B j7 J π o fr st (some false)=((eY o.op=true->SB B j7 st)/\eI P T ops M B j7 J π (bK fr o.dst (.tu [])) st):=by simp[Mc]
theorem d_a(r:bP):YR P T ops M B j7 J π o fr st (some r)=(r.c/\eI P T ops M B j7 J π (bK fr o.dst r.v) st):=rfl
theorem Zv:Js P T ops M B j7 J π nd o fr st (some true)=WL P T ops M B j7 J π nd o fr st:=by simp[Js]
theorem Zy:Js P T ops M B j7 J π nd o fr st (some false)=((nd=true->SB B j7 st)/\eI P T ops M B j7 J π (bK fr o.dst (.tu [])) st):=by simp[Js]
theorem d_l(r:bP):YB P T ops M B j7 J π nd o fr (some r)=(r.c/\(nd=true->SB B j7 r.s)/\eI P T ops M B j7 J π (bK fr o.dst r.v) r.s):=rfl
theorem XQ(f:FuncId)(IQ args:List LV):YC P T ops M B j7 J π nd d fr st args (some (f,IQ))=BW P T ops M B j7 J π nd d fr st f (args++IQ):=rfl
theorem bI(h:eI P T ops M B j7 J π fr st):eI P T ops M B j7 J π fr st:=h
theorem aN{f:FuncId}{args:List LV}{R:LV->St->Prop}(h:aB P f args st R)(hk:∀ r st',R r st'->(nd=true->SB B j7 st')/\eI P T ops M B j7 J π (bK fr d r) st'):BW P T ops M B j7 J π nd d fr st f args:=⟨R,h,hk⟩
theorem rV(p:Nat×Bool)(l:List (Nat×Bool)):pick ops (p::l)=match ops[p.1]? with|some o=>(p.1,p.2,o)::pick ops l|none=>pick ops l:=by unfold pick;simp only[List.filterMap_cons];cases ops[p.1]?<;>rfl
theorem Gk:pick ops []=[]:=rfl
theorem WB:SB [] j7 st=True:=by simp[SB]
theorem Ve(b:Nat)(l:List Nat):SB (b::l) j7 st=(st.H b=j7.H b/\SB l j7 st):=by simp[SB]
end
end Aw
end Go.Proofs.YtbgngpdonpeboaaGreatDoor
