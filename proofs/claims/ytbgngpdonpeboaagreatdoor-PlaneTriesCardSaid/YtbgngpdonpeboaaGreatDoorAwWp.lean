/- The abstract program logic: code over frames of logical values. No program is named here. -/
import Derived.Test.YtbgngpdonpeboaaGreatDoorAwCore
import Derived.Tactics
import Derived.LoopN
import Derived.Scope
import Derived.Shelf.Abstract
set_option linter.unusedVariables false
set_option linter.unusedSimpArgs false
namespace Go.Proofs.YtbgngpdonpeboaaGreatDoor
namespace Aw
open Go Go.RowKit
abbrev AQ:=Exit->Frm->St->Prop
def lU(N:Nat)(Q:AQ)(w:World)(g:G)(e:Exit)(a':Act)(w':World):Prop:=
 ∃ c8 st' g',Q e c8 st'/\Inv w' g' st'/\dX w' g' a' c8/\a'.tmps.size=N/\a'.defers=[]/\Ext w g w' g'
theorem lU.pre{N:Nat}{Q:AQ}{w w1:World}{g g1:G}(h:Ext w g w1 g1){e:Exit}{a':Act}{w':World}(p:lU N Q w1 g1 e a' w'):lU N Q w g e a' w':=by obtain⟨c8,st',g',hq,hi,hr,hs,hd,he⟩:=p;exact⟨c8,st',g',hq,hi,hr,hs,hd,h.trans he⟩
theorem lU.mono{N:Nat}{Q Q':AQ}{w:World}{g:G}{e e':Exit}{a':Act}{w':World}(p:lU N Q w g e a' w')(h:∀ fr st,Q e fr st->Q' e' fr st):lU N Q' w g e' a' w':=by obtain⟨c8,st',g',hq,r⟩:=p;exact⟨c8,st',g',h _ _ hq,r⟩
def AWp(P:Program)(N:Nat)(c:Code)(Q:AQ)(fr:Frm)(st:St):Prop:=
 ∀(a:Act) (w:World) (g:G),Inv w g st->dX w g a fr->a.tmps.size=N->a.defers=[]->c.wp P (lU N Q w g) a w
inductive gO where
 |code (c:Code)
 |blk (id:Nat)
 |head (J:Frm->St->Prop)
def AK(P:Program)(N:Nat)(Q:AQ):List gO->AQ
 |[],e,fr,st=>Q e fr st
 |.code c::k,e,fr,st=>match e with|.normal=>AWp P N c (AK P N Q k) fr st|e=>AK P N Q k e fr st
 |.blk id::k,e,fr,st=>match e with|.exit i=>if i=id then AK P N Q k .normal fr st else AK P N Q k (.exit i) fr st|e=>AK P N Q k e fr st
 |.head J::k,e,fr,st=>match e with|.normal=>J fr st|e=>AK P N Q k e fr st
section
variable {P:Program} {N:Nat} {Q:AQ} {k:List gO} {fr:Frm} {st:St}
theorem uG(e:Exit):AK P N Q [] e fr st=Q e fr st:=rfl
theorem jK(c:Code):AK P N Q (.code c::k) .normal fr st=AWp P N c (AK P N Q k) fr st:=rfl
theorem Fu(c:Code)(i:Nat):AK P N Q (.code c::k) (.exit i) fr st=AK P N Q k (.exit i) fr st:=rfl
theorem yD(c:Code):AK P N Q (.code c::k) .ret fr st=AK P N Q k .ret fr st:=rfl
theorem Xs(id:Nat):AK P N Q (.blk id::k) .normal fr st=AK P N Q k .normal fr st:=rfl
theorem JX(id:Nat):AK P N Q (.blk id::k) .ret fr st=AK P N Q k .ret fr st:=rfl
theorem mF(id i:Nat):AK P N Q (.blk id::k) (.exit i) fr st=if i=id then AK P N Q k .normal fr st else AK P N Q k (.exit i) fr st:=rfl
theorem GX(J:Frm->St->Prop):AK P N Q (.head J::k) .normal fr st=J fr st:=rfl
theorem FK(J:Frm->St->Prop)(i:Nat):AK P N Q (.head J::k) (.exit i) fr st=AK P N Q k (.exit i) fr st:=rfl
theorem HP(J:Frm->St->Prop):AK P N Q (.head J::k) .ret fr st=AK P N Q k .ret fr st:=rfl
theorem dD{c:Code}{Q':AQ}(h:AWp P N c Q fr st)(hq:∀ e fr st,Q e fr st->Q' e fr st):AWp P N c Q' fr st:=
 fun a w g hi hr hs hd=>Code.wp_mono (fun _ _ _ p=>p.mono (hq _)) (h a w g hi hr hs hd)
theorem qK(h:AK P N Q k .normal fr st):AWp P N .skip (AK P N Q k) fr st:=
 fun _ w g hi hr hs hd=>wp_skip ⟨fr,st,g,h,hi,hr,hs,hd,Ext.refl w g⟩
theorem qX{id:Nat}(h:AK P N Q k (.exit id) fr st):AWp P N (.exit id) (AK P N Q k) fr st:=
 fun _ w g hi hr hs hd=>wp_exit ⟨fr,st,g,h,hi,hr,hs,hd,Ext.refl w g⟩
theorem qR(h:AK P N Q k .ret fr st):AWp P N .ret (AK P N Q k) fr st:=
 fun _ w g hi hr hs hd=>wp_ret ⟨fr,st,g,h,hi,hr,hs,hd,Ext.refl w g⟩
theorem DT{l:Nat}(h:AK P N Q k .normal fr st):AWp P N (.label l) (AK P N Q k) fr st:=
 fun _ w g hi hr hs hd=>wp_label ⟨fr,st,g,h,hi,hr,hs,hd,Ext.refl w g⟩
theorem qS{x y:Code}(h:AWp P N x (AK P N Q (.code y::k)) fr st):AWp P N (.seq x y) (AK P N Q k) fr st:=by
 intro a w g hi hr hs hd;refine wp_seq (Code.wp_mono (fun e a' w' p=>?_) (h a w g hi hr hs hd));cases e with
 |normal=>obtain⟨c8,st',g',hq,M4,T0,hs',Q6,he⟩:=p;exact Code.wp_mono (fun _ _ _ p'=>p'.pre he) (hq a' w' g' M4 T0 hs' Q6)
 |_=>exact p
theorem qB{id:Nat}{c:Code}(h:AWp P N c (AK P N Q (.blk id::k)) fr st):AWp P N (.block id c) (AK P N Q k) fr st:=by
 intro a w g hi hr hs hd;refine wp_block (Code.wp_mono (fun e a' w' p=>?_) (h a w g hi hr hs hd));cases e with
 |exit i=>
  simp only[Exit.inBlock];by_cases h0:i=id
  .subst h0;rw[aAj rfl];exact p.mono (fun fr st hq=>by grind [mF])
  .rw[aAa h0];exact p.mono (fun fr st hq=>by grind [mF])
 |_=>exact p
theorem PE{c:Code}(h:AWp P N c (AK P N Q k) fr st)(hg:∀ l fr st,¬AK P N Q k (.goto l) fr st):AWp P N (.scope c) (AK P N Q k) fr st:=by
 intro a w g hi hr hs hd;refine wp_scope_straight (Code.wp_mono (fun e a' w' p=>?_) (h a w g hi hr hs hd));cases e with
 |goto l=>obtain⟨c8,st',g',hq,_⟩:=p;grind
 |_=>exact p
def cH:Value->LV
 |.slice none 0 0=>.nil
 |v=>.atom v
def GC:Value->LV
 |.agg cs=>.ag (cs.toList.map cH)
 |v=>cH v
def aH(fr:Frm):Operand->LV
 |.tmp t=>fr t
 |.const v=>GC v
 |.func f=>.fn (.func f) []
 |.global _=>.dead
theorem tV(w:World)(g:G)(v:Value):Rep w g (cH v) v:=by
 unfold cH
 grind [Rep]
theorem cL(w:World)(g:G):∀ vs:List Value,aC w g (vs.map cH) vs
 |[]=>by grind [aC]
 |v::vs=>by simp only[aAm,aC];exact⟨v,vs,rfl,tV w g v,cL w g vs⟩
theorem Ji(w:World)(g:G)(v:Value):Rep w g (GC v) v:=by
 unfold GC
 split
 .grind [Rep,cL]
 grind [tV]
theorem aD{w:World}{g:G}{a:Act}(h:dX w g a fr)(x:Operand):Rep w g (aH fr x) (a.eval x):=by
 cases x with
 |tmp t=>exact h t
 |const v=>exact Ji w g v
 |func f=>grind [aH,Act.eval,Rep,aC]
 |global b=>grind [aH,Rep]
def WR(P:Program)(N:Nat)(Q:AQ)(k:List gO)(fr:Frm)(st:St)(x y:Code):LV->Prop
 |.atom (.bool b)=>(b=true->AWp P N x (AK P N Q k) fr st)/\(b=false->AWp P N y (AK P N Q k) fr st)
 |_=>False
theorem lN(b:Bool)(x y:Code):WR P N Q k fr st x y (.atom (.bool b))=((b=true->AWp P N x (AK P N Q k) fr st)/\(b=false->AWp P N y (AK P N Q k) fr st)):=rfl
theorem qC{c:Operand}{x y:Code}(h:WR P N Q k fr st x y (aH fr c)):AWp P N (.cond c x y) (AK P N Q k) fr st:=by
 intro a w g hi hr hs hd;have hc:=aD hr c;revert h hc;cases aH fr c with
 |atom v=>
  cases v with
  |bool b=>intro h hc;simp only[Rep]at hc;rw[lN]at h;exact wp_cond_split hc (fun hb=>h.1 hb a w g hi hr hs hd) (fun hb=>h.2 hb a w g hi hr hs hd)
  |_=>intro h;exact h.elim
 |_=>intro h;exact h.elim
theorem IX{c:Code}{R:Exit->Act->World->Prop}:∀(n m:Nat),n<=m->∀ a w,Code.rounds P c R n a w->Code.rounds P c R m a w:=by
 intro n;induction n with
 |zero=>intro m _ a w h;exact h.elim
 |succ n ih=>
  intro m hm a w h;cases m with
  |zero=>omega
  |succ m=>
   rw[rounds_succ]at h ⊢;refine Code.wp_mono (fun e a' w' p=>?_) h;cases e with
   |normal=>exact ih m oO a' w' p
   |_=>exact p
theorem qL{c:Code}(I:Nat->Frm->St->Prop)(n:Nat)(h0:I n fr st)
 (h:∀ n fr st,I n fr st->∀ J:Frm->St->Prop,(∀ m c8 st',m<n->I m c8 st'->J c8 st')->AWp P N c (AK P N Q (.head J::k)) fr st):
 AWp P N (.loop c) (AK P N Q k) fr st:=by
 intro a w g hi hr hs hd;have key:∀ n fr st a w g,I n fr st->Inv w g st->dX w g a fr->a.tmps.size=N->a.defers=[]->∀ w0 g0,Ext w0 g0 w g->Code.rounds P c (lU N (AK P N Q k) w0 g0) (n+1) a w:=by
  intro n;induction n using Nat.strongRecOn with
  |ind n ih=>
   intro fr st a w g hI hi hr hs hd w0 g0 he0;rw[rounds_succ];refine Code.wp_mono (fun e a' w' p=>?_) (h n fr st hI (fun c8 st'=>∃ m,m<n/\I m c8 st') (fun m c8 st' hm hI'=>⟨m,hm,hI'⟩) a w g hi hr hs hd);cases e with
   |normal=>obtain⟨c8,st',g',⟨m,hm,hI'⟩,M4,T0,hs',Q6,he⟩:=p;exact IX (m+1) n oO a' w' (ih m hm c8 st' a' w' g' hI' M4 T0 hs' Q6 w0 g0 (he0.trans he))
   |_=>exact lU.pre he0 p
 exact wp_loop_rounds (n+1) (key n fr st a w g h0 hi hr hs hd w g (Ext.refl w g))
theorem jA{c:Code}{c8:Frm}{st':St}(hgh:∀(a:Act) (w:World) (g:G),Inv w g st->dX w g a fr->a.tmps.size=N->∃ g',Inv w g' st'/\dX w g' a c8/\Ext w g w g')
 (h:AWp P N c Q c8 st'):AWp P N c Q fr st:=by
 intro a w g hi hr hs hd;obtain⟨g',M4,T0,he⟩:=hgh a w g hi hr hs;exact Code.wp_mono (fun _ _ _ p=>p.pre he) (h a w g' M4 T0 hs hd)
end
def bM(fr:Frm)(d:Option Nat)(v:LV):Frm:=match d with|some d=>upd fr d v|none=>fr
def BT(P:Program)(N:Nat)(ops:Array Oper)(rest:List Oper)(Q:AQ)(fr:Frm)(st:St):Prop:=
 ∀(a:Act) (w:World) (g:G),Inv w g st->dX w g a fr->a.tmps.size=N->a.defers=[]->wpList P ops (lU N Q w g) rest a w
section
variable {P:Program} {N:Nat} {Q:AQ} {k:List gO} {fr:Frm} {st:St} {ops:Array Oper} {rest:List Oper} {o:Oper}
theorem dO{R R':Exit->Act->World->Prop}(hR:∀ e a w,R e a w->R' e a w):∀(rest:List Oper) (a:Act) (w:World),wpList P ops R rest a w->wpList P ops R' rest a w
 |[],a,w,h=>hR _ _ _ h
 |o::rest,a,w,h=>by
  simp only[wpList]at h ⊢
  split
  .rename_i hw;rw[aAj hw]at h;rcases h with h|h
   .left;unfold Oper.wp at h ⊢;revert h;cases (execOp a.eval o).run P w with
    |halt x w1=>cases x<;>simp only[Oper.upon]<;>first|exact fun h=>h.elim|grind
    |ok x w1=>
     cases x<;>simp only[Oper.upon]<;>first
      |exact fun h=>h.elim
      |exact fun h=>dO hR rest _ _ h
      |(intro h;refine Calls.mono h ?_;intro e w2 h2;cases e<;>first|exact dO hR rest _ _ h2|exact hR _ _ _ h2|exact⟨h2.choose,h2.choose_spec.choose,hR _ _ _ h2.choose_spec.choose_spec⟩)
      |(intro h;refine Rows.mono h ?_;intro e w2 h2;exact dO hR rest _ _ h2)
   .right;exact⟨h.1,h.2.choose,h.2.choose_spec.choose,hR _ _ _ h.2.choose_spec.choose_spec⟩
  .rename_i hw;rw[aAa hw]at h;exact dO hR rest _ _ h
theorem Kg{id:Nat}(h:BT P N ops ops.toList Q fr st):AWp P N (.region id ops false) Q fr st:=
 fun a w g hi hr hs hd=>wp_region_list (h a w g hi hr hs hd)
theorem QB(h:Q .normal fr st):BT P N ops [] Q fr st:=
 fun _ w g hi hr hs hd=>wpList_nil ⟨fr,st,g,h,hi,hr,hs,hd,Ext.refl w g⟩
def Op1(P:Program)(N:Nat)(q:Bool)(o:Oper)(fr:Frm)(st:St)(lv:LV)(st':St):Prop:=
 ∀(a:Act) (w:World) (g:G),Inv w g st->dX w g a fr->a.tmps.size=N->
  ∃ x w' g',(execOp a.eval o).run P w=.ok x w'/\((∃ v,x=.value v/\Rep w' g' lv v)\/(x=.skip/\lv=.dead))/\Inv w' g' st'/\Ext w g w' g'/\(q=true->w=w'/\g=g'/\st'=st/\∃ v,x=.value v)
def pI(N:Nat):Option Nat->Bool
 |some d=>decide (d<N)
 |none=>true
theorem dY{w:World}{g:G}{a:Act}(h:dX w g a fr){d:Option Nat}(hd:pI a.tmps.size d=true){v:Value}{lv:LV}(hv:Rep w g lv v):
 dX w g (a.put d v) (bM fr d lv):=by
 cases d with
 |none=>exact h
 |some d=>exact h.put (by grind [pI]) hv
def bB(ops:Array Oper)(fr:Frm)(gd:Option (Nat×Bool)):Option Bool:=
 match gd with
 |none=>some true
 |some (j,want)=>match(ops[j]?).bind (·.dst) with
  |some d=>match fr d with
   |.atom (.bool b)=>some (b==want)
   |.tu []=>some false
   |_=>none
  |none=>none
theorem eS{w:World}{g:G}{a:Act}(h:dX w g a fr){b:Bool}(hw:bB ops fr o.guard=some b)(dA:∀ j want d,o.guard=some (j,want)->(ops[j]?).bind (·.dst)=some d->d<a.tmps.size):
 Region.wanted o (yielded ops a.tmps)=b:=by
 unfold bB at hw;unfold Region.wanted;cases hg:o.guard with
 |none=>grind
 |some p=>
  obtain⟨j,want⟩:=p;simp only[hg]at hw ⊢;unfold yielded;cases hd:(ops[j]?).bind (·.dst) with
  |none=>grind
  |some d=>
   simp only[hd]at hw;have hdl:=dA j want d hg hd;have hr:=h d;revert hw hr;cases fr d with
   |tu vs=>
    cases vs with
    |nil=>intro hw hr;simp only[Rep,aC]at hr;simp_all
    |cons _ _=>grind
   |atom v=>
    cases v with
    |bool b'=>intro hw hr;simp only[Rep]at hr;simp_all
    |_=>intro hw;simp at hw
   |_=>intro hw;simp at hw
def kQ(N:Nat)(ops:Array Oper)(gd:Option (Nat×Bool)):Bool:=
 match gd with
 |none=>true
 |some (j,_)=>match(ops[j]?).bind (·.dst)with|some d=>decide (d<N)|none=>true
theorem jD(h:kQ N ops o.guard=true):∀ j want d,o.guard=some (j,want)->(ops[j]?).bind (·.dst)=some d->d<N:=by
 grind [kQ]
theorem wW{w:World}{g:G}:Rep w g (.tu []) undef:=by simp only[Rep,aC];exact⟨[],rfl,rfl⟩
theorem NW(hw:bB ops fr o.guard=some false)(hk:kQ N ops o.guard=true)(hd:pI N o.dst=true)(h:BT P N ops rest Q (bM fr o.dst (.tu [])) st):BT P N ops (o::rest) Q fr st:=by intro a w g hi hr hs hdf;have h1:Region.wanted o (yielded ops a.tmps)=false:=eS hr hw (by rw[hs];exact jD hk);simp only[wpList,h1];exact h _ w g hi (dY hr (by grind) wW) (by grind [cF]) (by grind [put_defers])
theorem TV{q:Bool}{lv:LV}{st':St}(hw:bB ops fr o.guard=some true)(hk:kQ N ops o.guard=true)(hd:pI N o.dst=true)(h1:Op1 P N q o fr st lv st')
 (h:BT P N ops rest Q (bM fr o.dst lv) st'):BT P N ops (o::rest) Q fr st:=by
 intro a w g hi hr hs hdf;have hwt:Region.wanted o (yielded ops a.tmps)=true:=eS hr hw (by rw[hs];exact jD hk);simp only[wpList,hwt,aBs];left;obtain⟨x,w',g',o9,hx,M4,he,_⟩:=h1 a w g hi hr hs;unfold Oper.wp;rw[o9];have T0:=hr.mono he;rcases hx with⟨v,rfl,hv⟩|⟨rfl,rfl⟩
 .rw[Oper.upon_value];exact dO (fun _ _ _ p=>p.pre he) _ _ _ (h _ w' g' M4 (dY T0 (by grind) hv) (by grind [cF]) (by grind [put_defers]))
 .rw[Oper.upon_skip];exact dO (fun _ _ _ p=>p.pre he) _ _ _ (h _ w' g' M4 (dY T0 (by grind) (by grind [Rep])) (by grind [cF]) (by grind [put_defers]))
def aB(P:Program)(f:FuncId)(args:List LV)(st:St)(Q:LV->St->Prop):Prop:=
 Enters P f/\∀(w:World) (g:G) (vs:List Value),Inv w g st->aC w g args vs->
  Calls P f vs.toArray w fun e w'=>∃ v r st' g',e=.returned v/\Q r st'/\Rep w' g' r v/\Inv w' g' st'/\Ext w g w' g'
theorem aB.mono{f:FuncId}{args:List LV}{R R':LV->St->Prop}(h:aB P f args st R)(hR:∀ r st',R r st'->R' r st'):aB P f args st R':=
 ⟨h.1,fun w g vs hi hr=>(h.2 w g vs hi hr).mono fun _ _ ⟨v,r,st',g',he,hq,rest⟩=>⟨v,r,st',g',he,hR _ _ hq,rest⟩⟩
def norm:LV->LV
 |.nil=>.sl 0 0 []
 |lv=>lv
theorem CB{w:World}{g:G}{lv:LV}{v:Value}(h:Rep w g lv v):Rep w g (norm lv) v:=by
 cases lv with
 |nil=>
  simp only[Rep]at h;simp only[norm,Rep]
  grind
 |_=>exact h
theorem Bu{w:World}{g:G}{a:Act}(h:dX w g a fr):∀(xs:List Operand),aC w g (xs.map (aH fr)) (xs.map a.eval)
 |[]=>by grind [aC]
 |x::xs=>by simp only[aAm,aC];exact⟨_,_,rfl,aD h x,Bu h xs⟩
theorem bW{w:World}{g:G}:∀(xs:List LV) (vs:List Value) (bs:List LV) (us:List Value),aC w g xs vs->aC w g bs us->aC w g (xs++bs) (vs++us)
 |[],vs,bs,us,h,h'=>by grind [aC]
 |x::xs,vs,bs,us,h,h'=>by simp only[aC]at h;obtain⟨v,vs',rfl,h1,h2⟩:=h;simp only[List.cons_append,aC];exact⟨v,vs'++us,rfl,h1,bW xs vs' bs us h2 h'⟩
def eY:LV->Option (FuncId×List LV)
 |.fn (.func f) Gj=>some (f,Gj)
 |_=>none
theorem Nq{x:Operand}{args:Array Operand}{tys:Array TypeId}{f:FuncId}{Gj:List LV}{R:LV->St->Prop}(hop:o.op=.call { callee:=.value x,args:=args,argTypes:=tys })
 (hw:bB ops fr o.guard=some true) (hk:kQ N ops o.guard=true) (hd:pI N o.dst=true)
 (hf:eY (aH fr x)=some (f,Gj)) (hc:aB P f ((args.toList.map (aH fr))++Gj) st R)
 (h:∀ r st',R r st'->BT P N ops rest Q (bM fr o.dst r) st'):BT P N ops (o::rest) Q fr st:=by
 intro a w g hi hr hs hdf;have hwt:Region.wanted o (yielded ops a.tmps)=true:=eS hr hw (by rw[hs];exact jD hk);simp only[wpList,hwt,aBs];left;have hx:=aD hr x;revert hf hx;cases hev:aH fr x with
 |fn f' caps'=>
  cases f' with
  |func f'=>
   intro hf hx;simp only[eY,aAb,aBd]at hf;obtain⟨rfl,rfl⟩:=hf;simp only[Rep]at hx;obtain⟨us,hx,hus⟩:=hx;have o9:(execOp a.eval o).run P w=.ok (.enter f' ((args.toList.map a.eval++us).toArray)) w:=by unfold execOp;simp only[hop,resolve,invoke,hx,Deferred.ofValue,Sem.run_bind,Sem.run_pure,Result.andThen_ok];simp only[Array.empty_append];rw[hc.1];simp
   unfold Oper.wp;rw[o9,Oper.upon_enter];refine(hc.2 w g _ hi (bW _ _ _ _ (Bu hr args.toList) hus)).mono ?_;rintro e w' ⟨v,r,st',g',rfl,hq,hv,M4,he⟩;exact dO (fun _ _ _ p=>p.pre he) _ _ _ (h r st' hq _ w' g' M4 (dY (hr.mono he) (by grind) hv) (by grind [cF]) (by grind [put_defers]))
  |_=>grind [eY]
 |_=>intro hf;simp[eY]at hf
end
end Aw
end Go.Proofs.YtbgngpdonpeboaaGreatDoor
