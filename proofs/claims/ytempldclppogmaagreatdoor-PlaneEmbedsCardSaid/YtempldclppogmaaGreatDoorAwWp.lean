/- The abstract program logic: code over frames of logical values. No program is named here. -/
import Derived.Test.YtempldclppogmaaGreatDoorAwCore
import Derived.Tactics
import Derived.LoopN
import Derived.Scope
import Derived.Shelf.Abstract
set_option linter.unusedVariables false
set_option linter.unusedSimpArgs false
namespace Go.Proofs.YtempldclppogmaaGreatDoor
namespace Aw
open Go Go.RowKit
abbrev AQ:=Exit->Frm->St->Prop
def kZ(N:Nat)(Q:AQ)(w:World)(g:G)(e:Exit)(a':Act)(w':World):Prop:=
 ∃ Xj st' g',Q e Xj st'/\Inv w' g' st'/\dO w' g' a' Xj/\a'.tmps.size=N/\a'.defers=[]/\Ext w g w' g'
theorem kZ.pre{N:Nat}{Q:AQ}{w w1:World}{g g1:G}(h:Ext w g w1 g1){e:Exit}{a':Act}{w':World}(p:kZ N Q w1 g1 e a' w'):kZ N Q w g e a' w':=by obtain⟨Xj,st',g',hq,hi,hr,hs,hd,he⟩:=p;exact⟨Xj,st',g',hq,hi,hr,hs,hd,h.trans he⟩
theorem kZ.mono{N:Nat}{Q Q':AQ}{w:World}{g:G}{e e':Exit}{a':Act}{w':World}(p:kZ N Q w g e a' w')(h:∀ fr st,Q e fr st->Q' e' fr st):kZ N Q' w g e' a' w':=by obtain⟨Xj,st',g',hq,r⟩:=p;exact⟨Xj,st',g',h _ _ hq,r⟩
def AWp(P:Program)(N:Nat)(c:Code)(Q:AQ)(fr:Frm)(st:St):Prop:=
 ∀(a:Act) (w:World) (g:G),Inv w g st->dO w g a fr->a.tmps.size=N->a.defers=[]->c.wp P (kZ N Q w g) a w
inductive fS where
 |code (c:Code)
 |blk (id:Nat)
 |head (J:Frm->St->Prop)
def AK(P:Program)(N:Nat)(Q:AQ):List fS->AQ
 |[],e,fr,st=>Q e fr st
 |.code c::k,e,fr,st=>match e with|.normal=>AWp P N c (AK P N Q k) fr st|e=>AK P N Q k e fr st
 |.blk id::k,e,fr,st=>match e with|.exit i=>if i=id then AK P N Q k .normal fr st else AK P N Q k (.exit i) fr st|e=>AK P N Q k e fr st
 |.head J::k,e,fr,st=>match e with|.normal=>J fr st|e=>AK P N Q k e fr st
section
variable {P:Program} {N:Nat} {Q:AQ} {k:List fS} {fr:Frm} {st:St}
theorem sR(e:Exit):AK P N Q [] e fr st=Q e fr st:=rfl
theorem iK(c:Code):AK P N Q (.code c::k) .normal fr st=AWp P N c (AK P N Q k) fr st:=rfl
theorem Dh(c:Code)(i:Nat):AK P N Q (.code c::k) (.exit i) fr st=AK P N Q k (.exit i) fr st:=rfl
theorem xP(c:Code):AK P N Q (.code c::k) .ret fr st=AK P N Q k .ret fr st:=rfl
theorem Ui(id:Nat):AK P N Q (.blk id::k) .normal fr st=AK P N Q k .normal fr st:=rfl
theorem Is(id:Nat):AK P N Q (.blk id::k) .ret fr st=AK P N Q k .ret fr st:=rfl
theorem lW(id i:Nat):AK P N Q (.blk id::k) (.exit i) fr st=if i=id then AK P N Q k .normal fr st else AK P N Q k (.exit i) fr st:=rfl
theorem EN(J:Frm->St->Prop):AK P N Q (.head J::k) .normal fr st=J fr st:=rfl
theorem Dn(J:Frm->St->Prop)(i:Nat):AK P N Q (.head J::k) (.exit i) fr st=AK P N Q k (.exit i) fr st:=rfl
theorem Gi(J:Frm->St->Prop):AK P N Q (.head J::k) .ret fr st=AK P N Q k .ret fr st:=rfl
theorem cZ{c:Code}{Q':AQ}(h:AWp P N c Q fr st)(hq:∀ e fr st,Q e fr st->Q' e fr st):AWp P N c Q' fr st:=
 fun a w g hi hr hs hd=>Code.wp_mono (fun _ _ _ p=>p.mono (hq _)) (h a w g hi hr hs hd)
theorem qK(h:AK P N Q k .normal fr st):AWp P N .skip (AK P N Q k) fr st:=
 fun _ w g hi hr hs hd=>wp_skip ⟨fr,st,g,h,hi,hr,hs,hd,Ext.refl w g⟩
theorem qX{id:Nat}(h:AK P N Q k (.exit id) fr st):AWp P N (.exit id) (AK P N Q k) fr st:=
 fun _ w g hi hr hs hd=>wp_exit ⟨fr,st,g,h,hi,hr,hs,hd,Ext.refl w g⟩
theorem qR(h:AK P N Q k .ret fr st):AWp P N .ret (AK P N Q k) fr st:=
 fun _ w g hi hr hs hd=>wp_ret ⟨fr,st,g,h,hi,hr,hs,hd,Ext.refl w g⟩
theorem Cd{l:Nat}(h:AK P N Q k .normal fr st):AWp P N (.label l) (AK P N Q k) fr st:=
 fun _ w g hi hr hs hd=>wp_label ⟨fr,st,g,h,hi,hr,hs,hd,Ext.refl w g⟩
theorem qS{x y:Code}(h:AWp P N x (AK P N Q (.code y::k)) fr st):AWp P N (.seq x y) (AK P N Q k) fr st:=by
 intro a w g hi hr hs hd;refine wp_seq (Code.wp_mono (fun e a' w' p=>?_) (h a w g hi hr hs hd));cases e with
 |normal=>obtain⟨Xj,st',g',hq,Yo,o9,J5,Yw,he⟩:=p;exact Code.wp_mono (fun _ _ _ p'=>p'.pre he) (hq a' w' g' Yo o9 J5 Yw)
 |_=>exact p
theorem qB{id:Nat}{c:Code}(h:AWp P N c (AK P N Q (.blk id::k)) fr st):AWp P N (.block id c) (AK P N Q k) fr st:=by
 intro a w g hi hr hs hd;refine wp_block (Code.wp_mono (fun e a' w' p=>?_) (h a w g hi hr hs hd));cases e with
 |exit i=>
  simp only[Exit.inBlock];by_cases h0:i=id
  .subst h0;rw[aAe rfl];exact p.mono (fun fr st hq=>by rw[lW,aAe rfl]at hq;exact hq)
  .rw[aAa h0];exact p.mono (fun fr st hq=>by rw[lW,aAa h0]at hq;exact hq)
 |_=>exact p
theorem MU{c:Code}(h:AWp P N c (AK P N Q k) fr st)(hg:∀ l fr st,¬AK P N Q k (.goto l) fr st):AWp P N (.scope c) (AK P N Q k) fr st:=by
 intro a w g hi hr hs hd;refine wp_scope_straight (Code.wp_mono (fun e a' w' p=>?_) (h a w g hi hr hs hd));cases e with
 |goto l=>obtain⟨Xj,st',g',hq,_⟩:=p;exact(hg l Xj st' hq).elim
 |_=>exact p
def cH:Value->LV
 |.slice none 0 0=>.nil
 |v=>.atom v
def EE:Value->LV
 |.agg cs=>.ag (cs.toList.map cH)
 |v=>cH v
def aI(fr:Frm):Operand->LV
 |.tmp t=>fr t
 |.const v=>EE v
 |.func f=>.fn (.func f) []
 |.global _=>.dead
theorem sI(w:World)(g:G)(v:Value):Rep w g (cH v) v:=by
 unfold cH
 split
 .simp only[Rep]
 .simp only[Rep]
theorem cL(w:World)(g:G):∀ vs:List Value,aC w g (vs.map cH) vs
 |[]=>by simp only[aBz,aC]
 |v::vs=>by simp only[aAj,aC];exact⟨v,vs,rfl,sI w g v,cL w g vs⟩
theorem Iu(w:World)(g:G)(v:Value):Rep w g (EE v) v:=by
 unfold EE
 split
 .rename_i cs;simp only[Rep];exact⟨cs.toList,sS,cL w g _⟩
 .exact sI w g _
theorem aE{w:World}{g:G}{a:Act}(h:dO w g a fr)(x:Operand):Rep w g (aI fr x) (a.eval x):=by
 cases x with
 |tmp t=>exact h t
 |const v=>exact Iu w g v
 |func f=>simp only[aI,Act.eval,Rep,aC];exact⟨[],rfl,rfl⟩
 |global b=>simp only[aI,Rep]
def TB(P:Program)(N:Nat)(Q:AQ)(k:List fS)(fr:Frm)(st:St)(x y:Code):LV->Prop
 |.atom (.bool b)=>(b=true->AWp P N x (AK P N Q k) fr st)/\(b=false->AWp P N y (AK P N Q k) fr st)
 |_=>False
theorem kX(b:Bool)(x y:Code):TB P N Q k fr st x y (.atom (.bool b))=((b=true->AWp P N x (AK P N Q k) fr st)/\(b=false->AWp P N y (AK P N Q k) fr st)):=rfl
theorem qC{c:Operand}{x y:Code}(h:TB P N Q k fr st x y (aI fr c)):AWp P N (.cond c x y) (AK P N Q k) fr st:=by
 intro a w g hi hr hs hd;have hc:=aE hr c;revert h hc;cases aI fr c with
 |atom v=>
  cases v with
  |bool b=>intro h hc;simp only[Rep]at hc;rw[kX]at h;exact wp_cond_split hc (fun hb=>h.1 hb a w g hi hr hs hd) (fun hb=>h.2 hb a w g hi hr hs hd)
  |_=>intro h;exact h.elim
 |_=>intro h;exact h.elim
theorem Gs{c:Code}{R:Exit->Act->World->Prop}:∀(n m:Nat),n<=m->∀ a w,Code.rounds P c R n a w->Code.rounds P c R m a w:=by
 intro n;induction n with
 |zero=>intro m _ a w h;exact h.elim
 |succ n ih=>
  intro m hm a w h;cases m with
  |zero=>omega
  |succ m=>
   rw[rounds_succ]at h ⊢;refine Code.wp_mono (fun e a' w' p=>?_) h;cases e with
   |normal=>exact ih m oO a' w' p
   |_=>exact p
theorem qL{c:Code}(I:Nat->Frm->St->Prop)(n:Nat)(h0:I n fr st)
 (h:∀ n fr st,I n fr st->∀ J:Frm->St->Prop,(∀ m Xj st',m<n->I m Xj st'->J Xj st')->AWp P N c (AK P N Q (.head J::k)) fr st):
 AWp P N (.loop c) (AK P N Q k) fr st:=by
 intro a w g hi hr hs hd;have key:∀ n fr st a w g,I n fr st->Inv w g st->dO w g a fr->a.tmps.size=N->a.defers=[]->∀ w0 g0,Ext w0 g0 w g->Code.rounds P c (kZ N (AK P N Q k) w0 g0) (n+1) a w:=by
  intro n;induction n using Nat.strongRecOn with
  |ind n ih=>
   intro fr st a w g hI hi hr hs hd w0 g0 he0;rw[rounds_succ];refine Code.wp_mono (fun e a' w' p=>?_) (h n fr st hI (fun Xj st'=>∃ m,m<n/\I m Xj st') (fun m Xj st' hm hI'=>⟨m,hm,hI'⟩) a w g hi hr hs hd);cases e with
   |normal=>obtain⟨Xj,st',g',⟨m,hm,hI'⟩,Yo,o9,J5,Yw,he⟩:=p;exact Gs (m+1) n oO a' w' (ih m hm Xj st' a' w' g' hI' Yo o9 J5 Yw w0 g0 (he0.trans he))
   |_=>exact kZ.pre he0 p
 exact wp_loop_rounds (n+1) (key n fr st a w g h0 hi hr hs hd w g (Ext.refl w g))
theorem iG{c:Code}{Xj:Frm}{st':St}(hgh:∀(a:Act) (w:World) (g:G),Inv w g st->dO w g a fr->a.tmps.size=N->∃ g',Inv w g' st'/\dO w g' a Xj/\Ext w g w g')
 (h:AWp P N c Q Xj st'):AWp P N c Q fr st:=by
 intro a w g hi hr hs hd;obtain⟨g',Yo,o9,he⟩:=hgh a w g hi hr hs;exact Code.wp_mono (fun _ _ _ p=>p.pre he) (h a w g' Yo o9 hs hd)
end
def bP(fr:Frm)(d:Option Nat)(v:LV):Frm:=match d with|some d=>upd fr d v|none=>fr
def Az(P:Program)(N:Nat)(ops:Array Oper)(rest:List Oper)(Q:AQ)(fr:Frm)(st:St):Prop:=
 ∀(a:Act) (w:World) (g:G),Inv w g st->dO w g a fr->a.tmps.size=N->a.defers=[]->wpList P ops (kZ N Q w g) rest a w
section
variable {P:Program} {N:Nat} {Q:AQ} {k:List fS} {fr:Frm} {st:St} {ops:Array Oper} {rest:List Oper} {o:Oper}
theorem dI{R R':Exit->Act->World->Prop}(hR:∀ e a w,R e a w->R' e a w):∀(rest:List Oper) (a:Act) (w:World),wpList P ops R rest a w->wpList P ops R' rest a w
 |[],a,w,h=>hR _ _ _ h
 |o::rest,a,w,h=>by
  simp only[wpList]at h ⊢
  split
  .rename_i hw;rw[aAe hw]at h;rcases h with h|h
   .left;unfold Oper.wp at h ⊢;revert h;cases (execOp a.eval o).run P w with
    |halt x w1=>cases x<;>simp only[Oper.upon]<;>first|exact fun h=>h.elim|exact fun h=>hR _ _ _ h
    |ok x w1=>
     cases x<;>simp only[Oper.upon]<;>first
      |exact fun h=>h.elim
      |exact fun h=>dI hR rest _ _ h
      |(intro h;refine Calls.mono h ?_;intro e w2 h2;cases e<;>first|exact dI hR rest _ _ h2|exact hR _ _ _ h2|exact⟨h2.choose,h2.choose_spec.choose,hR _ _ _ h2.choose_spec.choose_spec⟩)
      |(intro h;refine Rows.mono h ?_;intro e w2 h2;exact dI hR rest _ _ h2)
   .right;exact⟨h.1,h.2.choose,h.2.choose_spec.choose,hR _ _ _ h.2.choose_spec.choose_spec⟩
  .rename_i hw;rw[aAa hw]at h;exact dI hR rest _ _ h
theorem Hw{id:Nat}(h:Az P N ops ops.toList Q fr st):AWp P N (.region id ops false) Q fr st:=
 fun a w g hi hr hs hd=>wp_region_list (h a w g hi hr hs hd)
theorem OU(h:Q .normal fr st):Az P N ops [] Q fr st:=
 fun _ w g hi hr hs hd=>wpList_nil ⟨fr,st,g,h,hi,hr,hs,hd,Ext.refl w g⟩
def Op1(P:Program)(N:Nat)(q:Bool)(o:Oper)(fr:Frm)(st:St)(lv:LV)(st':St):Prop:=
 ∀(a:Act) (w:World) (g:G),Inv w g st->dO w g a fr->a.tmps.size=N->
  ∃ x w' g',(execOp a.eval o).run P w=.ok x w'/\((∃ v,x=.value v/\Rep w' g' lv v)\/(x=.skip/\lv=.dead))/\Inv w' g' st'/\Ext w g w' g'/\(q=true->w=w'/\g=g'/\st'=st/\∃ v,x=.value v)
def oH(N:Nat):Option Nat->Bool
 |some d=>decide (d<N)
 |none=>true
theorem dR{w:World}{g:G}{a:Act}(h:dO w g a fr){d:Option Nat}(hd:oH a.tmps.size d=true){v:Value}{lv:LV}(hv:Rep w g lv v):
 dO w g (a.put d v) (bP fr d lv):=by
 cases d with
 |none=>exact h
 |some d=>exact h.put (by simpa[oH]using hd) hv
def bG(ops:Array Oper)(fr:Frm)(gd:Option (Nat×Bool)):Option Bool:=
 match gd with
 |none=>some true
 |some (j,want)=>match(ops[j]?).bind (·.dst) with
  |some d=>match fr d with
   |.atom (.bool b)=>some (b==want)
   |.tu []=>some false
   |_=>none
  |none=>none
theorem eG{w:World}{g:G}{a:Act}(h:dO w g a fr){b:Bool}(hw:bG ops fr o.guard=some b)(dN:∀ j want d,o.guard=some (j,want)->(ops[j]?).bind (·.dst)=some d->d<a.tmps.size):
 Region.wanted o (yielded ops a.tmps)=b:=by
 unfold bG at hw;unfold Region.wanted;cases hg:o.guard with
 |none=>simp only[hg]at hw ⊢;exact(aBb hw)
 |some p=>
  obtain⟨j,want⟩:=p;simp only[hg]at hw ⊢;unfold yielded;cases hd:(ops[j]?).bind (·.dst) with
  |none=>simp[hd]at hw
  |some d=>
   simp only[hd]at hw;have u6:=dN j want d hg hd;have hr:=h d;revert hw hr;cases fr d with
   |tu vs=>
    cases vs with
    |nil=>
     intro hw hr;simp only[Rep,aC]at hr;obtain⟨us,hu,rfl⟩:=hr;have hw':=aBb hw;have:a.tmps[d]?=some (.tuple #[]):=by rw[aBK,aCr u6]at hu;rw[aCr u6];simpa using hu
     simp only[Option.bind_some,this];rw[<- hw'];rfl
    |cons _ _=>intro hw;simp at hw
   |atom v=>
    cases v with
    |bool b'=>
     intro hw hr;simp only[Rep]at hr;have hw':=aBb hw;have:a.tmps[d]?=some (.bool b'):=by rw[aBK,aCr u6]at hr;rw[aCr u6];simpa using hr
     simp only[Option.bind_some,this];rw[<- hw'];cases b'<;>cases want<;>rfl
    |_=>intro hw;simp at hw
   |_=>intro hw;simp at hw
def jQ(N:Nat)(ops:Array Oper)(gd:Option (Nat×Bool)):Bool:=
 match gd with
 |none=>true
 |some (j,_)=>match(ops[j]?).bind (·.dst)with|some d=>decide (d<N)|none=>true
theorem hU(h:jQ N ops o.guard=true):∀ j want d,o.guard=some (j,want)->(ops[j]?).bind (·.dst)=some d->d<N:=by intro j want d hg hd;rw[hg]at h;simp only[jQ,hd]at h;simpa using h
theorem wJ{w:World}{g:G}:Rep w g (.tu []) undef:=by simp only[Rep,aC];exact⟨[],rfl,rfl⟩
theorem MF(hw:bG ops fr o.guard=some false)(hk:jQ N ops o.guard=true)(hd:oH N o.dst=true)(h:Az P N ops rest Q (bP fr o.dst (.tu [])) st):Az P N ops (o::rest) Q fr st:=by intro a w g hi hr hs E7;have h1:Region.wanted o (yielded ops a.tmps)=false:=eG hr hw (by rw[hs];exact hU hk);simp only[wpList,h1];exact h _ w g hi (dR hr (by rw[hs];exact hd) wJ) (by rw[bS];exact hs) (by rw[put_defers];exact E7)
theorem SX{q:Bool}{lv:LV}{st':St}(hw:bG ops fr o.guard=some true)(hk:jQ N ops o.guard=true)(hd:oH N o.dst=true)(h1:Op1 P N q o fr st lv st')
 (h:Az P N ops rest Q (bP fr o.dst lv) st'):Az P N ops (o::rest) Q fr st:=by
 intro a w g hi hr hs E7;have hwt:Region.wanted o (yielded ops a.tmps)=true:=eG hr hw (by rw[hs];exact hU hk);simp only[wpList,hwt,aBn];left;obtain⟨x,w',g',Xv,hx,Yo,he,_⟩:=h1 a w g hi hr hs;unfold Oper.wp;rw[Xv];have o9:=hr.mono he;rcases hx with⟨v,rfl,hv⟩|⟨rfl,rfl⟩
 .rw[Oper.upon_value];exact dI (fun _ _ _ p=>p.pre he) _ _ _ (h _ w' g' Yo (dR o9 (by rw[hs];exact hd) hv) (by rw[bS];exact hs) (by rw[put_defers];exact E7))
 .rw[Oper.upon_skip];exact dI (fun _ _ _ p=>p.pre he) _ _ _ (h _ w' g' Yo (dR o9 (by rw[hs];exact hd) (by simp only[Rep])) (by rw[bS];exact hs) (by rw[put_defers];exact E7))
def aB(P:Program)(f:FuncId)(args:List LV)(st:St)(Q:LV->St->Prop):Prop:=
 Enters P f/\∀(w:World) (g:G) (vs:List Value),Inv w g st->aC w g args vs->
  Calls P f vs.toArray w fun e w'=>∃ v r st' g',e=.returned v/\Q r st'/\Rep w' g' r v/\Inv w' g' st'/\Ext w g w' g'
theorem aB.mono{f:FuncId}{args:List LV}{R R':LV->St->Prop}(h:aB P f args st R)(hR:∀ r st',R r st'->R' r st'):aB P f args st R':=
 ⟨h.1,fun w g vs hi hr=>(h.2 w g vs hi hr).mono fun _ _ ⟨v,r,st',g',he,hq,rest⟩=>⟨v,r,st',g',he,hR _ _ hq,rest⟩⟩
def norm:LV->LV
 |.nil=>.sl 0 0 []
 |lv=>lv
theorem uR{w:World}{g:G}{lv:LV}{v:Value}(h:Rep w g lv v):Rep w g (norm lv) v:=by
 cases lv with
 |nil=>simp only[Rep]at h;simp only[norm,Rep];exact⟨none,0,h,aAi _,⟨aBr _,fun _=>rfl⟩,fun h=>absurd rfl h,fun h=>absurd rfl h⟩
 |_=>exact h
theorem BN{w:World}{g:G}{a:Act}(h:dO w g a fr):∀(xs:List Operand),aC w g (xs.map (aI fr)) (xs.map a.eval)
 |[]=>by simp only[aBz,aC]
 |x::xs=>by simp only[aAj,aC];exact⟨_,_,rfl,aE h x,BN h xs⟩
theorem bZ{w:World}{g:G}:∀(xs:List LV) (vs:List Value) (bs:List LV) (us:List Value),aC w g xs vs->aC w g bs us->aC w g (xs++bs) (vs++us)
 |[],vs,bs,us,h,h'=>by simp only[aC]at h;subst h;exact h'
 |x::xs,vs,bs,us,h,h'=>by simp only[aC]at h;obtain⟨v,vs',rfl,h1,h2⟩:=h;simp only[List.cons_append,aC];exact⟨v,vs'++us,rfl,h1,bZ xs vs' bs us h2 h'⟩
def eJ:LV->Option (FuncId×List LV)
 |.fn (.func f) cY=>some (f,cY)
 |_=>none
theorem LD{x:Operand}{args:Array Operand}{U2:Array TypeId}{f:FuncId}{cY:List LV}{R:LV->St->Prop}(u7:o.op=.call { callee:=.value x,args:=args,argTypes:=U2 })
 (hw:bG ops fr o.guard=some true) (hk:jQ N ops o.guard=true) (hd:oH N o.dst=true)
 (hf:eJ (aI fr x)=some (f,cY)) (hc:aB P f ((args.toList.map (aI fr))++cY) st R)
 (h:∀ r st',R r st'->Az P N ops rest Q (bP fr o.dst r) st'):Az P N ops (o::rest) Q fr st:=by
 intro a w g hi hr hs E7;have hwt:Region.wanted o (yielded ops a.tmps)=true:=eG hr hw (by rw[hs];exact hU hk);simp only[wpList,hwt,aBn];left;have hx:=aE hr x;revert hf hx;cases hev:aI fr x with
 |fn f' caps'=>
  cases f' with
  |func f'=>
   intro hf hx;simp only[eJ,aAb,aAV]at hf;obtain⟨rfl,rfl⟩:=hf;simp only[Rep]at hx;obtain⟨us,hx,hus⟩:=hx;have Xv:(execOp a.eval o).run P w=.ok (.enter f' ((args.toList.map a.eval++us).toArray)) w:=by unfold execOp;simp only[u7,resolve,invoke,hx,Deferred.ofValue,Sem.run_bind,Sem.run_pure,Result.andThen_ok];simp only[Array.empty_append];rw[hc.1];simp
   unfold Oper.wp;rw[Xv,Oper.upon_enter];refine(hc.2 w g _ hi (bZ _ _ _ _ (BN hr args.toList) hus)).mono ?_;rintro e w' ⟨v,r,st',g',rfl,hq,hv,Yo,he⟩;exact dI (fun _ _ _ p=>p.pre he) _ _ _ (h r st' hq _ w' g' Yo (dR (hr.mono he) (by rw[hs];exact hd) hv) (by rw[bS];exact hs) (by rw[put_defers];exact E7))
  |_=>intro hf;simp[eJ]at hf
 |_=>intro hf;simp[eJ]at hf
end
end Aw
end Go.Proofs.YtempldclppogmaaGreatDoor
