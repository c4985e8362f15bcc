/- Regions whose order is open, at large: what only looks is taken as soon as it may come; the rest one behind the other. No program is named here. -/
import Derived.Test.YtbgngpdonpeboaaGreatDoorAwRun
import Derived.Orders
set_option linter.unusedVariables false
set_option linter.unusedSimpArgs false
namespace Go.Proofs.YtbgngpdonpeboaaGreatDoor
namespace Aw
open Go Go.RowKit
def eV:Op->Bool
 |.load ..=>true
 |.lookup ..=>true
 |.call { callee:=.builtin .len,.. }=>true
 |_=>false
def Oe:LV->LV
 |.mp l=>.pt l 0
 |_=>.ep []
section
variable {P:Program} {T:Tab} {N:Nat} {ops:Array Oper} {M:List Nat}
def kV(P:Program)(T:Tab)(ops:Array Oper)(M:List Nat)(o:Oper)(K:Frm->St->Prop)(fr:Frm)(st:St):Prop:=
 match bA ops fr o.guard with
 |some b=>(b=true->(match o.op with
   |.call { callee:=.value x,args:=args,argTypes:=_ }=>match eY (aH fr x) with
    |some (f,GK)=>∃ R,aB P f ((args.toList.map (aH fr))++GK) st R/\∀ r st',R r st'->K (bN fr o.dst r) st'
    |none=>False
   |_=>match aop T (inM M o.dst) o fr st with
    |some r=>r.c/\K (bN fr o.dst r.v) r.s
    |none=>False))/\(b=false->K (bN fr o.dst (.tu [])) st)
 |none=>False
theorem kV.mono{o:Oper}{K K':Frm->St->Prop}{fr:Frm}{st:St}(hk:∀ fr st,K fr st->K' fr st)(h:kV P T ops M o K fr st):kV P T ops M o K' fr st:=by
 unfold kV at h ⊢;cases hw:bA ops fr o.guard with
 |none=>simp_all
 |some b=>
  rw[hw]at h;refine⟨fun hb=>?_,fun hb=>hk _ _ (h.2 hb)⟩;have h1:=h.1 hb
  split at h1
  .split at h1
   .grind
   omega
  .split at h1
   .grind
   omega
def jT(ops:Array Oper)(j:Nat):Bool:=
 match ops[j]? with
 |none=>false
 |some oj=>(List.range ops.size).any fun i=>i != j&&((ops[i]?).map fun oi=>eV oi.op).getD false&&!(oj.after.any fun e=>Region.binds .any e&&e.on==i)
def Kx(ops:Array Oper)(S:St->Prop)(i:Nat)(o:Oper)(st st':St):Prop:=if aR o.op=true then st'=st else(jT ops i=true->S st')
def jQ(P:Program)(T:Tab)(ops:Array Oper)(M:List Nat)(S:St->Prop)(J:Frm->St->Prop):Nat->Array Bool->Frm->St->Prop
 |0,listed,fr,st=>Region.ready .any ops listed=[]/\J fr st
 |fuel+1,listed,fr,st=>(Region.ready .any ops listed=[]->J fr st)/\
  ∀ i∈Region.ready .any ops listed,∃ o,ops[i]?=some o/\kV P T ops M o (fun c7 st'=>Kx ops S i o st st'/\jQ P T ops M S J fuel (listed.setIfInBounds i true) c7 st') fr st
theorem Gq(hT:aZ P T){o:Oper}{Q:Exit->Act->World->Prop}{K:Frm->St->Prop}{K':Act->World->Prop}{w0:World}{g0:G}{fr:Frm}{st:St}{a:Act}{w:World}{g:G}{i:Nat}(ho:ops[i]?=some o)
 (hdst:oA N o.dst=true) (hgd:kC N ops o.guard=true) (hi:Inv w g st) (hr:dV w g a fr) (hs:a.tmps.size=N) (hd:a.defers=[]) (he0:Ext w0 g0 w g)
 (hK:∀ c7 st' a' w' g',Inv w' g' st'->dV w' g' a' c7->a'.tmps.size=N->a'.defers=[]->Ext w0 g0 w' g'->K c7 st'->K' a' w') (h:kV P T ops M o K fr st):wpOp P ops Q i K' a w:=by
 unfold kV at h;unfold wpOp;simp only[ho];cases hw:bA ops fr o.guard with
 |none=>simp_all
 |some b=>
  rw[hw]at h;have hwt:Region.wanted o (yielded ops a.tmps)=b:=eP hr hw (by rw[hs];exact iX hgd);rw[hwt];cases b with
  |false=>
   grind [dZ,wU,cG,put_defers]
  |true=>
   simp only[aBq];left;have h1:=h.1 rfl;unfold Oper.wp
   split at h1
   .rename_i x args tys hop
    split at h1
    .rename_i f GK hf;obtain⟨R,hR,hn⟩:=h1;have hx:=aD hr x;revert hf hx;cases hev:aH fr x with
     |fn f' caps'=>
      cases f' with
      |func f'=>
       intro hf hx;simp only[eY,aAb,aAW]at hf;obtain⟨rfl,rfl⟩:=hf;simp only[Rep]at hx;obtain⟨us,hx,hus⟩:=hx;have o7:(execOp a.eval o).run P w=.ok (.enter f' ((args.toList.map a.eval++us).toArray)) w:=by unfold execOp;simp only[hop,resolve,invoke,hx,Deferred.ofValue,Sem.run_bind,Sem.run_pure,Result.andThen_ok];simp only[Array.empty_append];rw[hR.1];simp
       rw[o7,Oper.upon_enter];refine(hR.2 w g _ hi (bX _ _ _ _ (Ap hr args.toList) hus)).mono ?_;rintro e w' ⟨v,r,st',g',rfl,hq,hv,D8,he⟩;exact hK _ _ _ _ g' D8 (dZ (hr.mono he) (by grind) hv) (by grind [cG]) (by grind [put_defers]) (he0.trans he) (hn r st' hq)
      |_=>grind [eY]
     |_=>intro hf;simp[eY]at hf
    grind
   .split at h1
    .rename_i r M5;obtain⟨x,w',g',o7,hx,D8,he,_⟩:=wJ (N:=N) hT M5 h1.1 a w g hi hr hs;rw[o7];rcases hx with⟨v,rfl,hv⟩|⟨rfl,hdead⟩
     .rw[Oper.upon_value];exact hK _ _ _ _ g' D8 (dZ (hr.mono he) (by grind) hv) (by grind [cG]) (by grind [put_defers]) (he0.trans he) h1.2
     .rw[Oper.upon_skip];rw[hdead]at h1;exact hK _ _ _ _ g' D8 (dZ (hr.mono he) (by grind) (by grind [Rep])) (by grind [cG]) (by grind [put_defers]) (he0.trans he) h1.2
    grind
theorem nF(hT:aZ P T){S:St->Prop}{J:Frm->St->Prop}{Q:AQ}(hk:cV N ops ops.toList=true)(hJ:∀ fr st,J fr st->Q .normal fr st){w0:World}{g0:G}:
 ∀(fuel:Nat) (listed:Array Bool) (fr:Frm) (st:St) (a:Act) (w:World) (g:G),Inv w g st->dV w g a fr->a.tmps.size=N->a.defers=[]->Ext w0 g0 w g->
  jQ P T ops M S J fuel listed fr st->wpAny P .any ops (lA N Q w0 g0) fuel listed a w
 |0,listed,fr,st,a,w,g,hi,hr,hs,hd,he,h=>⟨h.1,fr,st,g,hJ _ _ h.2,hi,hr,hs,hd,he⟩
 |fuel+1,listed,fr,st,a,w,g,hi,hr,hs,hd,he,h=>by
  refine⟨fun h0=>⟨fr,st,g,hJ _ _ (h.1 h0),hi,hr,hs,hd,he⟩,fun i E7=>?_⟩;obtain⟨o,ho,z8⟩:=h.2 i E7;have hko:oA N o.dst=true/\kC N ops o.guard=true:=by unfold cV at hk;rw[aBO]at hk;have:=hk o (aEr.2 (aEi ho));simpa using this
  exact Gq (N:=N) hT ho hko.1 hko.2 hi hr hs hd he (fun c7 st' a' w' g' D8 M5 W2 I1 he' hK=>nF hT hk hJ fuel _ c7 st' a' w' g' D8 M5 W2 I1 he' hK.2) z8
theorem OM{fr:Frm}{d:Option Nat}{v:LV}{x:Operand}(h:∀ t,d=some t->x≠.tmp t):aH (bN fr d v) x=aH fr x:=by
 cases d with
 |none=>rfl
 |some d=>
  cases x with
  |tmp t=>have:t≠d:=fun e=>h d rfl (by rw[e]);simp[aH,bN,upd,this]
  |_=>rfl
theorem Di{m:Bool}{o:Oper}{fr c7:Frm}{st:St}(h:∀ x∈o.op.operands,aH fr x=aH c7 x):aop T m o fr st=aop T m o c7 st:=by
 obtain⟨dst,op,ty,pos,after,guard⟩:=o;simp only at h;cases op<;>simp only[aop,Op.operands]at h ⊢<;>try rfl
 case move x=>rw[h x sS]
 case assign x=>rw[h x sS]
 case pick c a b=>simp_all
 case binOp op t x y t'=>rw[h x sS,h y sS]
 case unOp op t x=>rw[h x sS]
 case convert s d x=>rw[h x sS]
 case load t x=>rw[h x sS]
 case store t x v=>grind
 case indexAddr t x i=>grind
 case fieldAddr t x f=>rw[h x sS]
 case field t x f=>rw[h x sS]
 case slice t x lo hi mx=>
  rw[h x sS];have h1:lo.map (aH fr)=lo.map (aH c7):=by cases lo with|none=>rfl|some y=>simp only[Option.map_some];rw[h y sS]
  have h2:hi.map (aH fr)=hi.map (aH c7):=by cases hi with|none=>rfl|some y=>simp only[Option.map_some];rw[h y sS]
  have h3:mx.map (aH fr)=mx.map (aH c7):=by cases mx with|none=>rfl|some y=>simp only[Option.map_some];rw[h y sS]
  grind
 case box t x=>rw[h x sS]
 case build t ps=>
  grind [List.map_congr_left]
 case buildSlice t n ps=>
  grind [List.map_congr_left]
 case makeFunc f first GK=>
  grind [List.map_congr_left]
 case extract x i=>rw[h x sS]
 case nilCheck x=>rw[h x sS]
 case lookup t x i ok=>grind
 case index t x i=>grind
 case mapUpdate t x i v=>grind
 case insert t x i v=>grind
 case makeSlice t l c=>grind
 case makeMap t r=>
  have h1:r.map (aH fr)=r.map (aH c7):=by cases r with|none=>rfl|some y=>simp only[Option.map_some];rw[h y sS]
  rw[h1]
 case call c=>
  obtain⟨callee,args,tys⟩:=c;obtain⟨args⟩:=args;have ha:∀ x∈args,aH fr x=aH c7 x:=fun x hx=>h x (by simp[Call.operands];right;exact hx);clear h;unfold Cs
  split<;>simp_all
def lT(T:Tab)(ops:Array Oper)(M:List Nat)(S:St->Prop)(o:Oper)(v:LV)(fr:Frm):Prop:=
 (bA ops fr o.guard=some true/\aR o.op=true/\∀ st,S st->∃ r,aop T (inM M o.dst) o fr st=some r/\r.c/\r.v=v/\r.s=st)\/(bA ops fr o.guard=some false/\v=.tu [])
theorem lT.step{S:St->Prop}{o:Oper}{v:LV}{fr:Frm}{st:St}{K:Frm->St->Prop}(hy:lT T ops M S o v fr)(hS:S st)(h:K (bN fr o.dst v) st):kV P T ops M o K fr st:=by
 unfold kV;rcases hy with⟨hw,hq,hv⟩|⟨hw,rfl⟩
 .rw[hw];refine⟨fun _=>?_,(fun hb=>by grind)⟩;obtain⟨r,h1,h2,h3,h4⟩:=hv st hS
  split
  .grind [aR]
  simp_all
 simp_all
theorem xH{o:Oper}{fr:Frm}{d:Option Nat}{v:LV}(h:∀ t,d=some t->t∉o.looksAt ops):∀ x∈o.op.operands,aH (bN fr d v) x=aH fr x:=by intro x hx;refine OM fun t ht hxt=>h t ht ?_;subst hxt;exact aAr _ (List.mem_filterMap.2 ⟨.tmp t,by grind,rfl⟩)
theorem mD{o:Oper}{fr:Frm}{d:Option Nat}{v:LV}(h:∀ t,d=some t->t∉o.looksAt ops):bA ops (bN fr d v) o.guard=bA ops fr o.guard:=by
 cases d with
 |none=>rfl
 |some d=>
  unfold bA;cases hg:o.guard with
  |none=>rfl
  |some p=>
   obtain⟨j,want⟩:=p;simp only;cases hd:(ops[j]?).bind (·.dst) with
   |none=>rfl
   |some t=>
    have Zy:t≠d:=by rintro rfl;refine h t rfl (aAx _ ?_);simp[hg,hd]
    simp[bN,upd,Zy]
theorem lT.keep{S:St->Prop}{o:Oper}{v:LV}{fr:Frm}(hy:lT T ops M S o v fr){d:Option Nat}(h:∀ t,d=some t->t∉o.looksAt ops)(u:LV):lT T ops M S o v (bN fr d u):=by
 rcases hy with⟨hw,hq,hv⟩|⟨hw,rfl⟩
 .left;refine⟨by grind [mD],hq,fun st hS=>?_⟩;rw[Di (xH h)]
  grind
 .right
  grind [mD]
theorem MO{fr:Frm}{d e:Option Nat}{u v:LV}(h:∀ t,d=some t->e≠some t):bN (bN fr d u) e v=bN (bN fr e v) d u:=by
 cases d with
 |none=>rfl
 |some d=>
  cases e with
  |none=>rfl
  |some e=>
   have Zy:e≠d:=fun h0=>h d rfl (by rw[h0])
   funext i
   simp only[bN,upd]
   grind
theorem NI{S:St->Prop}{oi oj:Oper}{v:LV}(hap:oi.apart ops oj=true){K:Frm->St->Prop}{fr:Frm}{st:St}(hy:lT T ops M S oi v fr)
 (h:kV P T ops M oj K (bN fr oi.dst v) st):kV P T ops M oj (fun c7 st'=>lT T ops M S oi v c7/\K (bN c7 oi.dst v) st') fr st:=by
 obtain⟨h1,h2,h3⟩:=Oper.apart_spec hap;have hev:=xH (fr:=fr) (v:=v) h1;unfold kV at h ⊢;rw[mD h1]at h;cases hw:bA ops fr oj.guard with
 |none=>simp_all
 |some b=>
  rw[hw]at h;have hk:∀ r,bN (bN fr oi.dst v) oj.dst r=bN (bN fr oj.dst r) oi.dst v:=fun r=>MO h2;refine⟨fun hb=>?_,fun hb=>⟨hy.keep h3 _,by grind⟩⟩;have g:=h.1 hb
  split at g
  .rename_i x args tys hop;simp only;have hx:aH (bN fr oi.dst v) x=aH fr x:=hev x (by grind [Op.operands,Call.operands]);have hargs:(args.toList.map (aH (bN fr oi.dst v)))=args.toList.map (aH fr):=aAP fun y hy'=>by
    grind [Op.operands,Call.operands]
   rw[hx,hargs]at g
   split at g
   .obtain⟨R,hR,hn⟩:=g;exact⟨R,hR,fun r st' hr=>⟨hy.keep h3 _,by grind⟩⟩
   omega
  .rename_i hnc;rw[Di hev]at g;cases hr:aop T (inM M oj.dst) oj fr st with
   |none=>simp_all
   |some r=>rw[hr]at g;exact⟨g.1,hy.keep h3 _,by grind⟩
theorem Qg{i j:Nat}{oi oj:Oper}(hi:ops[i]?=some oi)(hj:ops[j]?=some oj)(Zy:j≠i)(hh:eV oi.op=true)(x9:∀ e∈oj.after,Region.binds .any e=true->e.on≠i):jT ops j=true:=by
 unfold jT;rw[hj]
 grind
theorem iJ{S:St->Prop}{J:Frm->St->Prop}{i:Nat}{oi:Oper}{v:LV}(hi:ops[i]?=some oi):
 ∀(fuel:Nat) (listed:Array Bool) (fr:Frm) (st:St),
  (∀ j oj,ops[j]?=some oj->j≠i->listed.getD j true=false->(∀ e∈oj.after,Region.binds .any e=true->e.on≠i)->oi.apart ops oj=true)->
  i∈Region.ready .any ops listed->lT T ops M (fun st=>eV oi.op=true->S st) oi v fr->(eV oi.op=true->S st)->aR oi.op=true->
  jQ P T ops M S J fuel (listed.setIfInBounds i true) (bN fr oi.dst v) st->jQ P T ops M S J (fuel+1) listed fr st:=by
 intro fuel;induction fuel with
 |zero=>
  intro listed fr st _ hr hy hS hq H;refine⟨fun h=>(by grind),fun j hj=>?_⟩;by_cases hji:j=i
  .subst hji;exact⟨oi,hi,hy.step hS ⟨by grind [Kx],H⟩⟩
  .have:=ready_mono hj hji;rw[H.1]at this
   grind
 |succ fuel ih=>
  intro listed fr st hfree hr hy hS hq H;refine⟨fun h=>(by grind),fun j hj=>?_⟩;by_cases hji:j=i
  .subst hji;exact⟨oi,hi,hy.step hS ⟨by grind [Kx],H⟩⟩
  .obtain⟨oj',hoj',h1⟩:=H.2 j (ready_mono hj hji);obtain⟨hjun,oj,hoj,hall⟩:=mem_ready.1 hj;have hoo:oj'=oj:=by rw[hoj]at hoj';exact(aBj hoj').symm
   subst hoo;have hnot:∀ e∈oj'.after,Region.binds .any e=true->e.on≠i:=fun e he hb heq=>by
    have h1:=hall e he hb;have h0:=(mem_ready.1 hr).1;rw[heq]at h1;rcases aAK i listed.size with h'|h'
    .grind
    grind
   have h2:=NI (hfree j oj' hoj hji hjun hnot) hy h1
   have hfree':∀ k ok,ops[k]?=some ok->k≠i->(listed.setIfInBounds j true).getD k true=false->
    (∀ e∈ok.after,Region.binds .any e=true->e.on≠i)->oi.apart ops ok=true:=fun k ok hk hki hun x9=>by
    refine hfree k ok hk hki ?_ x9;by_cases X9:j=k
    .subst X9;omega
    .rw[getD_set_ne true X9]at hun;omega
   refine⟨oj',hoj,h2.mono fun c7 st' h3=>⟨h3.2.1,?_⟩⟩;refine ih (listed.setIfInBounds j true) c7 st' hfree' (ready_mono hr (aCv hji)) h3.1 (fun hh=>?_) hq ?_
   .have hk:=h3.2.1;unfold Kx at hk
    split at hk
    .grind
    .exact hk (Qg hi hoj hji hh hnot)
   .rw[Array.setIfInBounds_comm _ _ hji]
    grind
def lM(ops:Array Oper):List Nat->Array Bool->Bool
 |[],listed=>(Region.ready .any ops listed).isEmpty
 |i::π,listed=>match ops[i]? with
  |some o=>(if aR o.op then(Region.ready .any ops listed).contains i&&Region.free .any ops listed i else Region.ready .any ops listed==[i])&&lM ops π (listed.setIfInBounds i true)
  |none=>false
def Nc(B:List Nat):LV->Prop
 |.pt l _=>l∈B
 |.ep _=>True
 |_=>False
def lY(fr:Frm):Op->LV
 |.load _ x=>aH fr x
 |.lookup _ x _ _=>Oe (aH fr x)
 |.call { callee:=.builtin .len,args:=⟨x::_⟩,.. }=>Oe (aH fr x)
 |_=>.ep []
def SB(B:List Nat)(j8 st:St):Prop:=∀ l∈B,st.H l=j8.H l
def eE(P:Program)(T:Tab)(ops:Array Oper)(M B:List Nat)(j8:St)(J:Frm->St->Prop):List (Nat×Bool×Oper)->Frm->St->Prop
 |[],fr,st=>J fr st
 |(_,nd,o)::π,fr,st=>match aR o.op with
  |true=>match bA ops fr o.guard with
   |some b=>(b=true->((eV o.op=true->SB B j8 st)/\Nc B (lY fr o.op)/\match aop T (inM M o.dst) o fr st with
     |some r=>r.c/\eE P T ops M B j8 J π (bN fr o.dst r.v) st
     |none=>False))/\(b=false->(eV o.op=true->SB B j8 st)/\eE P T ops M B j8 J π (bN fr o.dst (.tu [])) st)
   |none=>False
  |false=>kV P T ops M o (fun c7 st'=>(nd=true->SB B j8 st')/\eE P T ops M B j8 J π c7 st') fr st
theorem nA{o:Oper}{fr:Frm}{m:Bool}{st st':St}{r:bT}(hq:aR o.op=true)(hh:∀ l k,lY fr o.op=.pt l k->st'.H l=st.H l)(h:aop T m o fr st=some r):
 aop T m o fr st'=some (@bT.mk r.c r.v st' r.d):=by
 obtain⟨dst,op,ty,pos,after,guard⟩:=o;simp only at hq hh;cases op<;>simp only[aR,aBa]at hq<;>simp only[aop]at h ⊢
 case move x=>simp only[aAb]at h;subst h;rfl
 case assign x=>simp only[aAb]at h;subst h;rfl
 case pick c a b=>
  split at h
  .simp only[aAb]at h;subst h;rfl
  grind
 case binOp op t x y t'=>
  unfold Gu at h ⊢
  split at h
  .simp only[aBe]at h ⊢;obtain⟨p,h1,rfl⟩:=h
   grind
  .split at h
   .simp only[aAb]at h;subst h;rfl
   .simp only[aAb]at h;subst h;rfl
   grind
  .split at h
   .split at h
    .simp only[aAb]at h;subst h;grind
    .simp only[aAb]at h;subst h;grind
    grind
   grind
  .split at h
   .simp only[aAb]at h;subst h;grind
   .simp only[aAb]at h;subst h;grind
   grind
  .split at h
   .simp only[aAb]at h;subst h;grind
   .simp only[aAb]at h;subst h;grind
   grind
  .split at h
   .simp only[aAb]at h;subst h;grind
   .simp only[aAb]at h;subst h;grind
   grind
  .split at h
   .simp only[aAb]at h;subst h;grind
   .simp only[aAb]at h;subst h;grind
   grind
  grind
 case unOp op t x=>
  unfold Ti at h ⊢
  split at h
  .simp only[aAb]at h;subst h;rfl
  .simp only[aAb]at h;subst h;rfl
  grind
 case convert s d x=>
  split at h
  .simp only[aAb]at h;subst h;rfl
  grind
 case load t x=>
  unfold Bh at h ⊢;have hp:eO st' (aH fr x)=eO st (aH fr x):=by
   cases hx:aH fr x with
   |pt l k=>simp only[eO];rw[hh l k hx]
   |_=>rfl
  rw[hp]
  split at h
  .split at h
   .simp only[aAb]at h;subst h;grind
   .simp only[aAb]at h;subst h;grind
  grind
 case indexAddr t x i=>
  unfold Ox at h ⊢
  split at h
  .split at h
   .split at h
    .simp only[aAb]at h;subst h;rfl
    .split at h
     .simp only[aAb]at h;subst h;grind
     grind
   grind
  grind
 case fieldAddr t x f=>
  unfold kN at h ⊢
  split at h
  .split at h
   .split at h
    .split at h
     .simp only[aAb]at h;subst h;grind
     .simp only[aAb]at h;subst h;grind
     .simp only[aAb]at h;subst h;rfl
     grind
    grind
   grind
  grind
 case field t x f=>
  unfold CL at h ⊢
  split at h
  .split at h
   .split at h
    .split at h
     .simp only[aAb]at h;subst h;grind
     .simp only[aAb]at h;subst h;grind
    grind
   grind
  grind
 case slice t x lo hi mx=>
  unfold Bz at h ⊢
  split at h
  .split at h
   .split at h
    .split at h
     .split at h
      .simp only[aAb]at h;subst h;grind
      grind
     .split at h
      .simp only[aAb]at h;subst h;grind
      grind
     .split at h
      .simp only[aAb]at h;subst h;grind
      grind
     .split at h
      .simp only[aAb]at h;subst h;grind
      grind
     .split at h
      .split at h
       .simp only[aAb]at h;subst h;grind
       grind
      grind
    .split at h
     .simp only[aAb]at h;subst h;grind
     .split at h
      .simp only[aAb]at h;subst h;grind
      .simp only[aAb]at h;subst h;grind
      grind
     grind
    grind
   grind
  grind
 case extract x i=>
  split at h
  .split at h
   .simp only[aAb]at h;subst h;grind
   grind
  grind
 case nilCheck x=>
  split at h
  .simp only[aAb]at h;subst h;rfl
  .simp only[aAb]at h;subst h;rfl
  grind
 case index t x i=>
  unfold FH at h ⊢
  split at h
  .simp only[aAb]at h;subst h;grind
  grind
 case lookup t x i ok=>
  unfold tW at h ⊢;have hp:∀ l,aH fr x=.mp l->st'.H l=st.H l:=fun l hl=>hh l 0 (by grind [lY,Oe])
  split at h
  .split at h
   .split at h
    .rename_i l hx;have hq:=hp l hx
     split at h
     .rename_i hH;simp only[aAb]at h;subst h;simp_all
     grind
    .simp only[aAb]at h;subst h;grind
    grind
   grind
  grind
 case makeFunc f first GK=>
  split at h
  .simp only[aAb]at h;subst h;grind
  grind
 case call c=>
  obtain⟨callee,args,tys⟩:=c;unfold Cs at h ⊢
  split at h<;>rename_i G4 _<;>(try simp only at G4)
  .rename_i x t' ts hargs L8;simp only at hargs L8
   have hp:∀ l,aH fr x=.mp l->st'.H l=st.H l:=fun l hl=>hh l 0 (by
    have hargs':args=#[x]:=aEq G4
    grind [lY,Oe])
   cases hmk:kZ T t' with
   |some p=>
    simp only[hmk]at h ⊢;unfold TH at h ⊢;simp only[hmk]at h ⊢
    split at h
    .rename_i l _ hx;have hq:=hp l hx
     split at h
     .rename_i hH;simp only[aAb]at h;subst h;simp_all
     grind
    grind
   |none=>
   simp only[hmk]at h ⊢;unfold Sg at h ⊢
   split at h
   .split at h
    .simp only[aAb]at h;subst h;grind
    .simp only[aAb]at h;subst h;grind
    .split at h
     .simp only[aAb]at h;subst h;grind
     grind
   grind
  .unfold UN at h ⊢
   split at h
   .simp only[aAb]at h;subst h;grind
   grind
  .unfold SZ at h ⊢
   split at h
   .simp only[aAb]at h;subst h;grind
   grind
  all_goals (first|(exfalso;revert hq;simp_all[aR];done)|(simp at h;done)|(exfalso;simp_all[aR];done))
theorem Ep{fr:Frm}{op:Op}{l k:Nat}(h:lY fr op=.pt l k):eV op=true:=by
 unfold lY at h
 split at h
 .rfl
 .rfl
 .rfl
 grind
theorem BW{B:List Nat}{j8:St}{J:Frm->St->Prop}:∀(π:List (Nat×Bool×Oper)) (listed:Array Bool) (fr:Frm) (st:St),(∀ p∈π,ops[p.1]?=some p.2.2/\(jT ops p.1=true->p.2.1=true))->lM ops (π.map (·.1)) listed=true->
 eE P T ops M B j8 J π fr st->jQ P T ops M (SB B j8) J π.length listed fr st
 |[],listed,fr,st,_,hk,h=>by simp only[aCM,lM,List.isEmpty_iff]at hk;exact⟨hk,h⟩
 |(i,nd,o)::π,listed,fr,st,hp,hk,h=>by
  obtain⟨ho,hnd⟩:ops[i]?=some o/\(jT ops i=true->nd=true):=hp (i,nd,o) sS;simp only[aAn,lM,ho,aAQ]at hk
  have ih:∀ fr st,(∀ p∈π,ops[p.1]?=some p.2.2/\(jT ops p.1=true->p.2.1=true))->lM ops (π.map (·.1)) (listed.setIfInBounds i true)=true->eE P T ops M B j8 J π fr st->jQ P T ops M (SB B j8) J π.length (listed.setIfInBounds i true) fr st:=
   fun fr st=>BW π (listed.setIfInBounds i true) fr st
  have O1:∀ p∈π,ops[p.1]?=some p.2.2/\(jT ops p.1=true->p.2.1=true):=fun p hm=>hp p (by grind);unfold eE at h;cases hq:aR o.op with
  |true=>
   simp only[hq,aBq,aAQ]at hk h;obtain⟨⟨hrd,hfr⟩,hk⟩:=hk;cases hw:bA ops fr o.guard with
   |none=>simp_all
   |some b=>
    rw[hw]at h;cases b with
    |false=>exact iJ ho _ listed fr st (Region.free_spec ho hfr) (by grind) (.inr ⟨hw,rfl⟩) (h.2 rfl).1 hq (ih _ _ O1 hk (h.2 rfl).2)
    |true=>
     obtain⟨hS,hpt,h1⟩:=h.1 rfl
     split at h1
     .rename_i r hr;refine iJ ho _ listed fr st (Region.free_spec ho hfr) (by grind) (.inl ⟨hw,hq,fun st' hS'=>?_⟩) hS hq (ih _ _ O1 hk h1.2);refine⟨@bT.mk r.c r.v st' r.d,nA hq (fun l k hl=>?_) hr,h1.1,rfl,rfl⟩;rw[hl]at hpt;have hh:eV o.op=true:=Ep hl;rw[hS' hh l hpt,hS hh l hpt]
     grind
  |false=>
   simp only[hq,aBa,aBN]at hk h;obtain⟨hrd,hk⟩:=hk;have hrd':Region.ready .any ops listed=[i]:=by simpa using hrd
   refine⟨fun h0=>(by grind),fun j hj=>?_⟩;rw[hrd']at hj;obtain rfl:j=i:=by grind
   refine⟨o,ho,h.mono fun c7 st' hh=>⟨?_,ih _ _ O1 hk hh.2⟩⟩
   grind [Kx]
def pick(ops:Array Oper)(π:List (Nat×Bool)):List (Nat×Bool×Oper):=π.filterMap fun p=>(ops[p.1]?).map fun o=>(p.1,p.2,o)
theorem NG(hT:aZ P T)(M B:List Nat)(π:List (Nat×Bool)){Q:AQ}{id:Nat}{fr:Frm}{st:St}(hm:P.follows .mixedOrders=true)(hk:cV N ops ops.toList=true)
 (hπ:(lM ops ((pick ops π).map (·.1)) (Array.replicate ops.size false)&&((pick ops π).length==ops.size)&&(π.all fun p=>!jT ops p.1||p.2))=true)
 (h:∀ J:Frm->St->Prop,(∀ fr st,Q .normal fr st->J fr st)->eE P T ops M B st J (pick ops π) fr st):AWp P N (.region id ops true) Q fr st:=by
 intro a w g hi hr hs hd;simp only[aAQ,aDJ]at hπ;obtain⟨⟨hπ1,hπ2⟩,hπ3⟩:=hπ;refine wp_region_any hm ?_;have hp:∀ p∈pick ops π,ops[p.1]?=some p.2.2/\(jT ops p.1=true->p.2.1=true):=by intro p hp;unfold pick at hp;simp only[List.mem_filterMap,aBe]at hp;obtain⟨q,hq,o,ho,rfl⟩:=hp;refine⟨ho,fun hn=>?_⟩;rw[aBO]at hπ3;have:=hπ3 q hq;simpa[hn]using this
 have hA:=BW (pick ops π) (Array.replicate ops.size false) fr st hp hπ1 (h (fun fr st=>Q .normal fr st) (fun _ _ h=>h));rw[hπ2]at hA;have O0:Ext w g { w with drawn:=w.drawn+1 } g:=dN w g;exact nF hT hk (fun _ _ h=>h) _ _ fr st a { w with drawn:=w.drawn+1 } g hi.drew (hr.mono O0) hs hd O0 hA
def NX(P:Program)(T:Tab)(ops:Array Oper)(M B:List Nat)(j8:St)(J:Frm->St->Prop)(π:List (Nat×Bool×Oper))(o:Oper)(fr:Frm)(st:St):Option Bool->Prop
 |some b=>(b=true->((eV o.op=true->SB B j8 st)/\Nc B (lY fr o.op)/\match aop T (inM M o.dst) o fr st with
   |some r=>r.c/\eE P T ops M B j8 J π (bN fr o.dst r.v) st
   |none=>False))/\(b=false->(eV o.op=true->SB B j8 st)/\eE P T ops M B j8 J π (bN fr o.dst (.tu [])) st)
 |none=>False
def YN(P:Program)(T:Tab)(ops:Array Oper)(M B:List Nat)(j8:St)(J:Frm->St->Prop)(π:List (Nat×Bool×Oper))(o:Oper)(fr:Frm)(st:St):Option bT->Prop
 |some r=>r.c/\eE P T ops M B j8 J π (bN fr o.dst r.v) st
 |none=>False
def YI(P:Program)(T:Tab)(ops:Array Oper)(M B:List Nat)(j8:St)(J:Frm->St->Prop)(π:List (Nat×Bool×Oper))(nd:Bool)(o:Oper)(fr:Frm):Option bT->Prop
 |some r=>r.c/\(nd=true->SB B j8 r.s)/\eE P T ops M B j8 J π (bN fr o.dst r.v) r.s
 |none=>False
def BM(P:Program)(T:Tab)(ops:Array Oper)(M B:List Nat)(j8:St)(J:Frm->St->Prop)(π:List (Nat×Bool×Oper))(nd:Bool)(d:Option Nat)(fr:Frm)(st:St)(f:FuncId)(args:List LV):Prop:=
 ∃ R,aB P f args st R/\∀ r st',R r st'->(nd=true->SB B j8 st')/\eE P T ops M B j8 J π (bN fr d r) st'
def XQ(P:Program)(T:Tab)(ops:Array Oper)(M B:List Nat)(j8:St)(J:Frm->St->Prop)(π:List (Nat×Bool×Oper))(nd:Bool)(d:Option Nat)(fr:Frm)(st:St)(args:List LV):Option (FuncId×List LV)->Prop
 |some (f,GK)=>BM P T ops M B j8 J π nd d fr st f (args++GK)
 |none=>False
def WT(P:Program)(T:Tab)(ops:Array Oper)(M B:List Nat)(j8:St)(J:Frm->St->Prop)(π:List (Nat×Bool×Oper))(nd:Bool)(o:Oper)(fr:Frm)(st:St):Prop:=
 match o.op with
 |.call { callee:=.value x,args:=args,argTypes:=_ }=>XQ P T ops M B j8 J π nd o.dst fr st (args.toList.map (aH fr)) (eY (aH fr x))
 |_=>YI P T ops M B j8 J π nd o fr (aop T (inM M o.dst) o fr st)
def Jt(P:Program)(T:Tab)(ops:Array Oper)(M B:List Nat)(j8:St)(J:Frm->St->Prop)(π:List (Nat×Bool×Oper))(nd:Bool)(o:Oper)(fr:Frm)(st:St):Option Bool->Prop
 |some b=>(b=true->WT P T ops M B j8 J π nd o fr st)/\(b=false->(nd=true->SB B j8 st)/\eE P T ops M B j8 J π (bN fr o.dst (.tu [])) st)
 |none=>False
def RV(P:Program)(T:Tab)(ops:Array Oper)(M B:List Nat)(j8:St)(J:Frm->St->Prop)(π:List (Nat×Bool×Oper))(nd:Bool)(o:Oper)(fr:Frm)(st:St):Bool->Prop
 |true=>NX P T ops M B j8 J π o fr st (bA ops fr o.guard)
 |false=>Jt P T ops M B j8 J π nd o fr st (bA ops fr o.guard)
variable {B:List Nat} {j8:St} {J:Frm->St->Prop} {π:List (Nat×Bool×Oper)} {nd:Bool} {o:Oper} {fr:Frm} {st:St} {d:Option Nat}
theorem YP:eE P T ops M B j8 J [] fr st=J fr st:=rfl
theorem Wh(i:Nat):eE P T ops M B j8 J ((i,nd,o)::π) fr st=RV P T ops M B j8 J π nd o fr st (aR o.op):=by
 unfold eE;cases hq:aR o.op with
 |true=>simp only[RV];cases bA ops fr o.guard<;>rfl
 |false=>
  simp only[RV];unfold kV;cases bA ops fr o.guard with
  |none=>rfl
  |some b=>
   simp only[Jt]
   congr 1
theorem TX:RV P T ops M B j8 J π nd o fr st true=NX P T ops M B j8 J π o fr st (bA ops fr o.guard):=rfl
theorem Vo:RV P T ops M B j8 J π nd o fr st false=Jt P T ops M B j8 J π nd o fr st (bA ops fr o.guard):=rfl
theorem Zv:NX P T ops M B j8 J π o fr st (some true)=((eV o.op=true->SB B j8 st)/\Nc B (lY fr o.op)/\YN P T ops M B j8 J π o fr st (aop T (inM M o.dst) o fr st)):=by simp only[NX,forall_const,Bool.true_eq_false,false_implies,aEn];cases aop T (inM M o.dst) o fr st<;>rfl
theorem A6:NX P T ops M B j8 J π o fr st (some false)=((eV o.op=true->SB B j8 st)/\eE P T ops M B j8 J π (bN fr o.dst (.tu [])) st):=by simp[NX]
theorem d_a(r:bT):YN P T ops M B j8 J π o fr st (some r)=(r.c/\eE P T ops M B j8 J π (bN fr o.dst r.v) st):=rfl
theorem Zm:Jt P T ops M B j8 J π nd o fr st (some true)=WT P T ops M B j8 J π nd o fr st:=by simp[Jt]
theorem Zj:Jt P T ops M B j8 J π nd o fr st (some false)=((nd=true->SB B j8 st)/\eE P T ops M B j8 J π (bN fr o.dst (.tu [])) st):=by simp[Jt]
theorem d_l(r:bT):YI P T ops M B j8 J π nd o fr (some r)=(r.c/\(nd=true->SB B j8 r.s)/\eE P T ops M B j8 J π (bN fr o.dst r.v) r.s):=rfl
theorem WR(f:FuncId)(GK args:List LV):XQ P T ops M B j8 J π nd d fr st args (some (f,GK))=BM P T ops M B j8 J π nd d fr st f (args++GK):=rfl
theorem bL(h:eE P T ops M B j8 J π fr st):eE P T ops M B j8 J π fr st:=h
theorem aO{f:FuncId}{args:List LV}{R:LV->St->Prop}(h:aB P f args st R)(hk:∀ r st',R r st'->(nd=true->SB B j8 st')/\eE P T ops M B j8 J π (bN fr d r) st'):BM P T ops M B j8 J π nd d fr st f args:=⟨R,h,hk⟩
theorem rE(p:Nat×Bool)(l:List (Nat×Bool)):pick ops (p::l)=match ops[p.1]? with|some o=>(p.1,p.2,o)::pick ops l|none=>pick ops l:=by unfold pick;simp only[List.filterMap_cons];cases ops[p.1]?<;>rfl
theorem GS:pick ops []=[]:=rfl
theorem WQ:SB [] j8 st=True:=by simp[SB]
theorem Ub(b:Nat)(l:List Nat):SB (b::l) j8 st=(st.H b=j8.H b/\SB l j8 st):=by simp[SB]
end
end Aw
end Go.Proofs.YtbgngpdonpeboaaGreatDoor
