/- Lemmas. -/
import Derived.Test.YtbgngpdonpeboaaGreatDoorAwCore
import Derived.Tactics
import Derived.LoopN
import Derived.Scope
import Derived.Shelf.Abstract
set_option linter.defProp false
namespace Go.Proofs.YtbgngpdonpeboaaGreatDoor
namespace Aw
open Go Go.RowKit
abbrev AQ:=Exit->ah->St->Prop
def mP(N:Nat)(Q:AQ)(w:World)(g:G)(e:Exit)(b:Act)(d:World):Prop:=
 ∃ f a c,Q e f a/\Inv d c a/\eY d c b f/\b.tmps.size=N/\b.defers=[]/\Ext w g d c
variable{Q:AQ}{e:Exit}{g:G}{N:Nat}{w:World}
def mP.pre{f:World}{c:G}(h:Ext w g f c){b:Act}{d:World}(p:mP N Q f c e b d):mP N Q w g e b d:=by obtain⟨j,a,k,o,n,q,r,l,m⟩:=p;exact⟨j,a,k,o,n,q,r,l,h.trans m⟩
theorem mP.mono{b:AQ}{d:Exit}{c:Act}{k:World}(p:mP N Q w g e c k)(h:∀ f j,Q e f j->b d f j):mP N b w g d c k:=by obtain⟨l,a,m,n,r⟩:=p;exact⟨l,a,m,h _ _ n,r⟩
def bq(P:Program)(N:Nat)(c:Code)(Q:AQ)(b:ah)(d:St):Prop:=
 ∀(a:Act) (w:World) (g:G),Inv w g d->eY w g a b->a.tmps.size=N->a.defers=[]->c.wp P (mP N Q w g) a w
inductive iM where
 |code (c:Code)
 |blk (id:Nat)
 |head (J:ah->St->Prop)
def AK(P:Program)(N:Nat)(Q:AQ):List iM->AQ
 |[],e,fr,st=>Q e fr st
 |.code c::k,e,fr,st=>match e with|.normal=>bq P N c (AK P N Q k) fr st|e=>AK P N Q k e fr st
 |.blk id::k,e,fr,st=>match e with|.exit i=>if i=id then AK P N Q k .normal fr st else AK P N Q k (.exit i) fr st|e=>AK P N Q k e fr st
 |.head J::k,e,fr,st=>match e with|.normal=>J fr st|e=>AK P N Q k e fr st
section
variable {P:Program} {N:Nat} {Q:AQ} {k:List iM} {fr:ah} {st:St}
theorem wW(e:Exit):AK P N Q [] e fr st=Q e fr st:=rfl
theorem kO(c:Code):AK P N Q (.code c::k) .normal fr st=bq P N c (AK P N Q k) fr st:=rfl
theorem GR(c:Code)(i:Nat):AK P N Q (.code c::k) (.exit i) fr st=AK P N Q k (.exit i) fr st:=rfl
theorem Ay(c:Code):AK P N Q (.code c::k) .ret fr st=AK P N Q k .ret fr st:=rfl
theorem Yr(id:Nat):AK P N Q (.blk id::k) .normal fr st=AK P N Q k .normal fr st:=rfl
theorem Lp(id:Nat):AK P N Q (.blk id::k) .ret fr st=AK P N Q k .ret fr st:=rfl
theorem nQ(id i:Nat):AK P N Q (.blk id::k) (.exit i) fr st=if i=id then AK P N Q k .normal fr st else AK P N Q k (.exit i) fr st:=rfl
theorem Gz(J:ah->St->Prop):AK P N Q (.head J::k) .normal fr st=J fr st:=rfl
theorem HR(J:ah->St->Prop)(i:Nat):AK P N Q (.head J::k) (.exit i) fr st=AK P N Q k (.exit i) fr st:=rfl
theorem JF(J:ah->St->Prop):AK P N Q (.head J::k) .ret fr st=AK P N Q k .ret fr st:=rfl
theorem dR{c:Code}{b:AQ}(h:bq P N c Q fr st)(j:∀ e fr st,Q e fr st->b e fr st):bq P N c b fr st:=
 fun a w g f l m d=>Code.wp_mono (fun _ _ _ p=>p.mono (j _)) (h a w g f l m d)
theorem qK(h:AK P N Q k .normal fr st):bq P N .skip (AK P N Q k) fr st:=
 fun _ w g b c d a=>wp_skip ⟨fr,st,g,h,b,c,d,a,Ext.refl w g⟩
theorem qX{id:Nat}(h:AK P N Q k (.exit id) fr st):bq P N (.exit id) (AK P N Q k) fr st:=
 fun _ w g b c d a=>wp_exit ⟨fr,st,g,h,b,c,d,a,Ext.refl w g⟩
theorem qR(h:AK P N Q k .ret fr st):bq P N .ret (AK P N Q k) fr st:=
 fun _ w g b c d a=>wp_ret ⟨fr,st,g,h,b,c,d,a,Ext.refl w g⟩
theorem Eh{l:Nat}(h:AK P N Q k .normal fr st):bq P N (.label l) (AK P N Q k) fr st:=
 fun _ w g b c d a=>wp_label ⟨fr,st,g,h,b,c,d,a,Ext.refl w g⟩
theorem qS{x y:Code}(h:bq P N x (AK P N Q (.code y::k)) fr st):bq P N (.seq x y) (AK P N Q k) fr st:=by
 intro a w g o r s m;refine wp_seq (Code.wp_mono (fun e j z p=>?_) (h a w g o r s m));cases e with
 |normal=>obtain⟨A,v,l,q,c,d,f,b,n⟩:=p;exact Code.wp_mono (fun _ _ _ t=>t.pre n) (q j z l c d f b)
 |_=>exact p
theorem qB{id:Nat}{c:Code}(h:bq P N c (AK P N Q (.blk id::k)) fr st):bq P N (.block id c) (AK P N Q k) fr st:=by
 intro a w g f l m d;refine wp_block (Code.wp_mono (fun e n o p=>?_) (h a w g f l m d));cases e with
 |exit i=>
  simp only[Exit.inBlock];by_cases b:i=id
  .subst b;rw[ac rfl];exact p.mono (fun fr st j=>by grind [nQ])
  .rw[aa b];exact p.mono (fun fr st j=>by grind [nQ])
 |_=>exact p
theorem QN{c:Code}(h:bq P N c (AK P N Q k) fr st)(r:∀ l fr st,¬AK P N Q k (.goto l) fr st):bq P N (.scope c) (AK P N Q k) fr st:=by
 intro a w g d f j b;refine wp_scope_straight (Code.wp_mono (fun e n t p=>?_) (h a w g d f j b));cases e with
 |goto l=>obtain⟨o,m,q,s,_⟩:=p;grind
 |_=>exact p
def dD:Value->LV
 |.slice none 0 0=>.nil
 |v=>.atom v
def HA:Value->LV
 |.agg cs=>.ag (cs.toList.map dD)
 |v=>dD v
def aM(fr:ah):Operand->LV
 |.tmp t=>fr t
 |.const v=>HA v
 |.func f=>.fn (.func f) []
 |.global _=>.dead
theorem vZ(w:World)(g:G)(v:Value):Rep w g (dD v) v:=by
 unfold dD
 grind [Rep]
theorem dI(w:World)(g:G):∀ a:List Value,aG w g (a.map dD) a
 |[]=>by grind [aG]
 |v::a=>by simp only[ax,aG];exact⟨v,a,rfl,vZ w g v,dI w g a⟩
theorem MT(w:World)(g:G)(v:Value):Rep w g (HA v) v:=by
 unfold HA
 split
 .grind [Rep,dI]
 grind [vZ]
theorem aJ{w:World}{g:G}{a:Act}(h:eY w g a fr)(x:Operand):Rep w g (aM fr x) (a.eval x):=by
 cases x with
 |tmp t=>exact h t
 |const v=>exact MT w g v
 |func f=>grind [aM,Act.eval,Rep,aG]
 |global b=>grind [aM,Rep]
def YS(P:Program)(N:Nat)(Q:AQ)(k:List iM)(fr:ah)(st:St)(x y:Code):LV->Prop
 |.atom (.bool b)=>(b=true->bq P N x (AK P N Q k) fr st)/\(b=false->bq P N y (AK P N Q k) fr st)
 |_=>False
theorem mY(b:Bool)(x y:Code):YS P N Q k fr st x y (.atom (.bool b))=((b=true->bq P N x (AK P N Q k) fr st)/\(b=false->bq P N y (AK P N Q k) fr st)):=rfl
theorem qC{c:Operand}{x y:Code}(h:YS P N Q k fr st x y (aM fr c)):bq P N (.cond c x y) (AK P N Q k) fr st:=by
 intro a w g l f m j;have d:=aJ f c;revert h d;cases aM fr c with
 |atom v=>
  cases v with
  |bool b=>intro h d;simp only[Rep]at d;rw[mY]at h;exact wp_cond_split d (fun e=>h.1 e a w g l f m j) (fun e=>h.2 e a w g l f m j)
  |_=>intro h;exact h.elim
 |_=>intro h;exact h.elim
theorem Ik{c:Code}{R:Exit->Act->World->Prop}:∀(n m:Nat),n<=m->∀ a w,Code.rounds P c R n a w->Code.rounds P c R m a w:=by
 intro n;induction n with
 |zero=>intro m _ a w h;exact h.elim
 |succ n d=>
  intro m g a w h;cases m with
  |zero=>omega
  |succ m=>
   rw[rounds_succ]at h ⊢;refine Code.wp_mono (fun e b f p=>?_) h;cases e with
   |normal=>exact d m O b f p
   |_=>exact p
theorem qL{c:Code}(I:Nat->ah->St->Prop)(n:Nat)(A:I n fr st)
 (h:∀ n fr st,I n fr st->∀ J:ah->St->Prop,(∀ m d b,m<n->I m d b->J d b)->bq P N c (AK P N Q (.head J::k)) fr st):
 bq P N (.loop c) (AK P N Q k) fr st:=by
 intro a w g q s t o;have v:∀ n fr st a w g,I n fr st->Inv w g st->eY w g a fr->a.tmps.size=N->a.defers=[]->∀ l g0,Ext l g0 w g->Code.rounds P c (mP N (AK P N Q k) l g0) (n+1) a w:=by
  intro n;induction n using Nat.strongRecOn with
  |ind n ih=>
   intro fr st a w g B q s t o l g0 j;rw[rounds_succ];refine Code.wp_mono (fun e x y p=>?_) (h n fr st B (fun d b=>∃ m,m<n/\I m d b) (fun m d b r f=>⟨m,r,f⟩) a w g q s t o);cases e with
   |normal=>obtain⟨d,b,z,⟨m,r,f⟩,hi',hr',hs',hd',he⟩:=p;exact Ik (m+1) n O x y (ih m r d b x y z f hi' hr' hs' hd' l g0 (j.trans he))
   |_=>exact mP.pre j p
 exact wp_loop_rounds (n+1) (v n fr st a w g A q s t o w g (Ext.refl w g))
theorem jQ{c:Code}{l:ah}{d:St}(e:∀(a:Act) (w:World) (g:G),Inv w g st->eY w g a fr->a.tmps.size=N->∃ b,Inv w b d/\eY w b a l/\Ext w g w b)
 (h:bq P N c Q l d):bq P N c Q fr st:=by
 intro a w g q r m n;obtain⟨b,f,j,o⟩:=e a w g q r m;exact Code.wp_mono (fun _ _ _ p=>p.pre o) (h a w b f j m n)
end
def bR(a:ah)(d:Option Nat)(v:LV):ah:=match d with|some d=>de a d v|none=>a
def CL(P:Program)(N:Nat)(b:Array Oper)(rest:List Oper)(Q:AQ)(c:ah)(d:St):Prop:=
 ∀(a:Act) (w:World) (g:G),Inv w g d->eY w g a c->a.tmps.size=N->a.defers=[]->wpList P b (mP N Q w g) rest a w
section
variable {P:Program} {N:Nat} {Q:AQ} {k:List iM} {fr:ah} {st:St} {ops:Array Oper} {rest:List Oper} {o:Oper}
theorem eN{R f:Exit->Act->World->Prop}(b:∀ e a w,R e a w->f e a w):∀(rest:List Oper) (a:Act) (w:World),wpList P ops R rest a w->wpList P ops f rest a w
 |[],a,w,h=>b _ _ _ h
 |o::rest,a,w,h=>by
  simp only[wpList]at h ⊢
  split
  .rename_i d;rw[ac d]at h;rcases h with h|h
   .left;unfold Oper.wp at h ⊢;revert h;cases (execOp a.eval o).run P w with
    |halt x w1=>cases x<;>simp only[Oper.upon]<;>first|exact fun h=>h.elim|grind
    |ok x w1=>
     cases x<;>simp only[Oper.upon]<;>first
      |exact fun h=>h.elim
      |exact fun h=>eN b rest _ _ h
      |(intro h;refine Calls.mono h ?_;intro e g c;cases e<;>first|exact eN b rest _ _ c|exact b _ _ _ c|exact⟨c.choose,c.choose_spec.choose,b _ _ _ c.choose_spec.choose_spec⟩)
      |(intro h;refine Rows.mono h ?_;intro e g c;exact eN b rest _ _ c)
   .right;exact⟨h.1,h.2.choose,h.2.choose_spec.choose,b _ _ _ h.2.choose_spec.choose_spec⟩
  .rename_i d;rw[aa d]at h;exact eN b rest _ _ h
theorem MA{id:Nat}(h:CL P N ops ops.toList Q fr st):bq P N (.region id ops false) Q fr st:=
 fun a w g c d e b=>wp_region_list (h a w g c d e b)
theorem SP(h:Q .normal fr st):CL P N ops [] Q fr st:=
 fun _ w g b c d a=>wpList_nil ⟨fr,st,g,h,b,c,d,a,Ext.refl w g⟩
def ug(P:Program)(N:Nat)(q:Bool)(o:Oper)(fr:ah)(st:St)(e:LV)(b:St):Prop:=
 ∀(a:Act) (w:World) (g:G),Inv w g st->eY w g a fr->a.tmps.size=N->
  ∃ x c d,(execOp a.eval o).run P w=.ok x c/\((∃ v,x=.value v/\Rep c d e v)\/(x=.skip/\e=.dead))/\Inv c d b/\Ext w g c d/\(q=true->w=c/\g=d/\b=st/\∃ v,x=.value v)
def rW(N:Nat):Option Nat->Bool
 |some d=>decide (d<N)
 |none=>true
theorem fG{w:World}{g:G}{a:Act}(h:eY w g a fr){d:Option Nat}(e:rW a.tmps.size d=true){v:Value}{b:LV}(c:Rep w g b v):
 eY w g (a.put d v) (bR fr d b):=by
 cases d with
 |none=>exact h
 |some d=>exact h.put (by grind [rW]) c
def bG(ops:Array Oper)(fr:ah)(a:Option (Nat×Bool)):Option Bool:=
 match a with
 |none=>some true
 |some (j,want)=>match(ops[j]?).bind (·.dst) with
  |some d=>match fr d with
   |.atom (.bool b)=>some (b==want)
   |.tu []=>some false
   |_=>none
  |none=>none
theorem fZ{w:World}{g:G}{a:Act}(h:eY w g a fr){b:Bool}(c:bG ops fr o.guard=some b)(dS:∀ j want d,o.guard=some (j,want)->(ops[j]?).bind (·.dst)=some d->d<a.tmps.size):
 Region.wanted o (yielded ops a.tmps)=b:=by
 unfold bG at c;unfold Region.wanted;cases l:o.guard with
 |none=>grind
 |some p=>
  obtain⟨j,want⟩:=p;simp only[l]at c ⊢;unfold yielded;cases f:(ops[j]?).bind (·.dst) with
  |none=>grind
  |some d=>
   simp only[f]at c;have m:=dS j want d l f;have e:=h d;revert c e;cases fr d with
   |tu vs=>
    cases vs with
    |nil=>intro c e;simp only[Rep,aG]at e;simp_all
    |cons _ _=>grind
   |atom v=>
    cases v with
    |bool b'=>intro c e;simp only[Rep]at e;simp_all
    |_=>intro c;simp at c
   |_=>intro c;simp at c
def lV(N:Nat)(ops:Array Oper)(a:Option (Nat×Bool)):Bool:=
 match a with
 |none=>true
 |some (j,_)=>match(ops[j]?).bind (·.dst)with|some d=>decide (d<N)|none=>true
theorem jU(h:lV N ops o.guard=true):∀ j want d,o.guard=some (j,want)->(ops[j]?).bind (·.dst)=some d->d<N:=by
 grind [lV]
theorem zU{w:World}{g:G}:Rep w g (.tu []) undef:=by simp only[Rep,aG];exact⟨[],rfl,rfl⟩
theorem RF(l:bG ops fr o.guard=some false)(f:lV N ops o.guard=true)(m:rW N o.dst=true)(h:CL P N ops rest Q (bR fr o.dst (.tu [])) st):CL P N ops (o::rest) Q fr st:=by intro a w g e b j d;have c:Region.wanted o (yielded ops a.tmps)=false:=fZ b l (by rw[j];exact jU f);simp only[wpList,c];exact h _ w g e (fG b (by grind) zU) (by grind [cL]) (by grind [put_defers])
theorem Xu{q:Bool}{n:LV}{d:St}(B:bG ops fr o.guard=some true)(z:lV N ops o.guard=true)(E:rW N o.dst=true)(s:ug P N q o fr st n d)
 (h:CL P N ops rest Q (bR fr o.dst n) d):CL P N ops (o::rest) Q fr st:=by
 intro a w g y f m t;have j:Region.wanted o (yielded ops a.tmps)=true:=fZ f B (by rw[m];exact jU z);simp only[wpList,j,ef];left;obtain⟨x,r,l,D,C,b,e,_⟩:=s a w g y f m;unfold Oper.wp;rw[D];have c:=f.mono e;rcases C with⟨v,rfl,A⟩|⟨rfl,rfl⟩
 .rw[Oper.upon_value];exact eN (fun _ _ _ p=>p.pre e) _ _ _ (h _ r l b (fG c (by grind) A) (by grind [cL]) (by grind [put_defers]))
 .rw[Oper.upon_skip];exact eN (fun _ _ _ p=>p.pre e) _ _ _ (h _ r l b (fG c (by grind) (by grind [Rep])) (by grind [cL]) (by grind [put_defers]))
def aD(P:Program)(f:FuncId)(args:QQ)(st:St)(Q:LV->St->Prop):Prop:=
 Enters P f/\∀(w:World) (g:G) (d:List Value),Inv w g st->aG w g args d->
  Calls P f d.toArray w fun e c=>∃ v r a b,e=.returned v/\Q r a/\Rep c b r v/\Inv c b a/\Ext w g c b
theorem aD.mono{f:FuncId}{args:QQ}{R b:LV->St->Prop}(h:aD P f args st R)(d:∀ r a,R r a->b r a):aD P f args st b:=
 ⟨h.1,fun w g n j m=>(h.2 w g n j m).mono fun _ _ ⟨v,r,a,c,e,l,rest⟩=>⟨v,r,a,c,e,d _ _ l,rest⟩⟩
def norm:LV->LV
 |.nil=>.sl 0 0 []
 |lv=>lv
theorem Cq{w:World}{g:G}{a:LV}{v:Value}(h:Rep w g a v):Rep w g (norm a) v:=by
 cases a with
 |nil=>
  simp only[Rep]at h;simp only[norm,Rep]
  grind
 |_=>exact h
theorem CV{w:World}{g:G}{a:Act}(h:eY w g a fr):∀(b:List Operand),aG w g (b.map (aM fr)) (b.map a.eval)
 |[]=>by grind [aG]
 |x::b=>by simp only[ax,aG];exact⟨_,_,rfl,aJ h x,CV h b⟩
theorem cR{w:World}{g:G}:∀(d:QQ) (c:List Value) (a:QQ) (us:List Value),aG w g d c->aG w g a us->aG w g (d++a) (c++us)
 |[],c,a,us,h,h'=>by grind [aG]
 |x::d,c,a,us,h,h'=>by simp only[aG]at h;obtain⟨v,b,rfl,e,f⟩:=h;simp only[List.cons_append,aG];exact⟨v,b++us,rfl,e,cR d b a us f h'⟩
def gG:LV->Option (FuncId×QQ)
 |.fn (.func f) Kz=>some (f,Kz)
 |_=>none
theorem QL{x:Operand}{args:Array Operand}{s:Array TypeId}{f:FuncId}{Kz:QQ}{R:LV->St->Prop}(m:o.op=.call { callee:=.value x,args:=args,argTypes:=s })
 (I:bG ops fr o.guard=some true) (D:lV N ops o.guard=true) (L:rW N o.dst=true)
 (hf:gG (aM fr x)=some (f,Kz)) (t:aD P f ((args.toList.map (aM fr))++Kz) st R)
 (h:∀ r b,R r b->CL P N ops rest Q (bR fr o.dst r) b):CL P N ops (o::rest) Q fr st:=by
 intro a w g C d F A;have q:Region.wanted o (yielded ops a.tmps)=true:=fZ d I (by rw[F];exact jU D);simp only[wpList,q,ef];left;have c:=aJ d x;revert hf c;cases B:aM fr x with
 |fn j caps'=>
  cases j with
  |func j=>
   intro hf c;simp only[gG,ap,fj]at hf;obtain⟨rfl,rfl⟩:=hf;simp only[Rep]at c;obtain⟨us,c,n⟩:=c;have J:(execOp a.eval o).run P w=.ok (.enter j ((args.toList.map a.eval++us).toArray)) w:=by unfold execOp;simp only[m,resolve,invoke,c,Deferred.ofValue,Sem.run_bind,Sem.run_pure,Result.andThen_ok];simp only[Array.empty_append];rw[t.1];simp
   unfold Oper.wp;rw[J,Oper.upon_enter];refine(t.2 w g _ C (cR _ _ _ _ (CV d args.toList) n)).mono ?_;rintro e K ⟨v,r,b,z,rfl,E,H,l,y⟩;exact eN (fun _ _ _ p=>p.pre y) _ _ _ (h r b E _ K z l (fG (d.mono y) (by grind) H) (by grind [cL]) (by grind [put_defers]))
  |_=>grind [gG]
 |_=>intro hf;simp[gG]at hf
end
end Aw
end Go.Proofs.YtbgngpdonpeboaaGreatDoor
