/- Lemmas. -/
import Derived.Test.YtbgngpdonpeboaaGreatDoorAwRun
import Derived.Orders
set_option linter.defProp false
namespace Go.Proofs.YtbgngpdonpeboaaGreatDoor
namespace Aw
open Go Go.RowKit
def gB:Op->Bool
 |.load ..=>true
 |.lookup ..=>true
 |.call { callee:=.builtin .len,.. }=>true
 |_=>false
def Ud:LV->LV
 |.mp l=>.pt l 0
 |_=>.ep []
section
variable {P:Program} {T:bg} {N:Nat} {ops:Array Oper} {M:List Nat}
def mU(P:Program)(T:bg)(ops:Array Oper)(M:PQ)(o:Oper)(K:ah->St->Prop)(a:ah)(e:St):Prop:=
 match bG ops a o.guard with
 |some b=>(b=true->(match o.op with
   |.call { callee:=.value x,args:=args,argTypes:=_ }=>match gG (aM a x) with
    |some (f,Kz)=>∃ R,aD P f ((args.toList.map (aM a))++Kz) e R/\∀ r d,R r d->K (bR a o.dst r) d
    |none=>False
   |_=>match fX T (kn M o.dst) o a e with
    |some r=>r.c/\K (bR a o.dst r.v) r.s
    |none=>False))/\(b=false->K (bR a o.dst (.tu [])) e)
 |none=>False
theorem mU.mono{o:Oper}{K f:ah->St->Prop}{a:ah}{c:St}(g:∀ a c,K a c->f a c)(h:mU P T ops M o K a c):mU P T ops M o f a c:=by
 unfold mU at h ⊢;cases j:bG ops a o.guard with
 |none=>simp_all
 |some b=>
  rw[j]at h;refine⟨fun e=>?_,fun e=>g _ _ (h.2 e)⟩;have d:=h.1 e
  split at d
  .split at d
   .grind
   omega
  .split at d
   .grind
   omega
def lI(ops:Array Oper)(j:Nat):Bool:=
 match ops[j]? with
 |none=>false
 |some b=>(List.range ops.size).any fun i=>i != j&&((ops[i]?).map fun a=>gB a.op).getD false&&!(b.after.any fun e=>Region.binds .any e&&e.on==i)
def Kx(ops:Array Oper)(S:St->Prop)(i:Nat)(o:Oper)(b a:St):Prop:=if aW o.op=true then a=b else(lI ops i=true->S a)
def lA(P:Program)(T:bg)(ops:Array Oper)(M:PQ)(S:St->Prop)(J:ah->St->Prop):Nat->Array Bool->ah->St->Prop
 |0,listed,fr,st=>Region.ready .any ops listed=[]/\J fr st
 |fuel+1,listed,fr,st=>(Region.ready .any ops listed=[]->J fr st)/\
  ∀ i∈Region.ready .any ops listed,∃ o,ops[i]?=some o/\mU P T ops M o (fun b a=>Kx ops S i o st a/\lA P T ops M S J fuel (listed.setIfInBounds i true) b a) fr st
theorem Ir(hT:bE P T){o:Oper}{Q:Exit->Act->World->Prop}{K:ah->St->Prop}{J:Act->World->Prop}{w0:World}{g0:G}{y:ah}{st:St}{a:Act}{w:World}{g:G}{i:Nat}(ho:ops[i]?=some o)
 (U:rW N o.dst=true) (B:lV N ops o.guard=true) (V:Inv w g st) (q:eY w g a y) (W:a.tmps.size=N) (hd:a.defers=[]) (p:Ext w0 g0 w g)
 (A:∀ L d t s j,Inv s j d->eY s j t L->t.tmps.size=N->t.defers=[]->Ext w0 g0 s j->K L d->J t s) (h:mU P T ops M o K y st):wpOp P ops Q i J a w:=by
 unfold mU at h;unfold wpOp;simp only[ho];cases X:bG ops y o.guard with
 |none=>simp_all
 |some b=>
  rw[X]at h;have H:Region.wanted o (yielded ops a.tmps)=b:=fZ q X (by rw[W];exact jU B);rw[H];cases b with
  |false=>
   grind [fG,zU,cL,put_defers]
  |true=>
   simp only[ef];left;have k:=h.1 rfl;unfold Oper.wp
   split at k
   .rename_i x args tys C
    split at k
    .rename_i f Kz hf;obtain⟨R,S,hn⟩:=k;have l:=aJ q x;revert hf l;cases hev:aM y x with
     |fn z caps'=>
      cases z with
      |func z=>
       intro hf l;simp only[gG,ap,fj]at hf;obtain⟨rfl,rfl⟩:=hf;simp only[Rep]at l;obtain⟨us,l,E⟩:=l;have I:(execOp a.eval o).run P w=.ok (.enter z ((args.toList.map a.eval++us).toArray)) w:=by unfold execOp;simp only[C,resolve,invoke,l,Deferred.ofValue,Sem.run_bind,Sem.run_pure,Result.andThen_ok];simp only[Array.empty_append];rw[S.1];simp
       rw[I,Oper.upon_enter];refine(S.2 w g _ V (cR _ _ _ _ (CV q args.toList) E)).mono ?_;rintro e s ⟨v,r,d,j,rfl,hq,F,c,n⟩;exact A _ _ _ _ j c (fG (q.mono n) (by grind) F) (by grind [cL]) (by grind [put_defers]) (p.trans n) (hn r d hq)
      |_=>grind [gG]
     |_=>intro hf;simp[gG]at hf
    grind
   .split at k
    .rename_i r D;obtain⟨x,s,j,I,l,c,n,_⟩:=zB (N:=N) hT D k.1 a w g V q W;rw[I];rcases l with⟨v,rfl,F⟩|⟨rfl,m⟩
     .rw[Oper.upon_value];exact A _ _ _ _ j c (fG (q.mono n) (by grind) F) (by grind [cL]) (by grind [put_defers]) (p.trans n) k.2
     .rw[Oper.upon_skip];rw[m]at k;exact A _ _ _ _ j c (fG (q.mono n) (by grind) (by grind [Rep])) (by grind [cL]) (by grind [put_defers]) (p.trans n) k.2
    grind
theorem rO(t:bE P T){S:St->Prop}{J:ah->St->Prop}{Q:AQ}(j:dJ N ops ops.toList=true)(k:∀ c d,J c d->Q .normal c d){x:World}{g0:G}:
 ∀(b:Nat) (listed:Array Bool) (c:ah) (d:St) (a:Act) (w:World) (g:G),Inv w g d->eY w g a c->a.tmps.size=N->a.defers=[]->Ext x g0 w g->
  lA P T ops M S J b listed c d->wpAny P .any ops (mP N Q x g0) b listed a w
 |0,listed,c,d,a,w,g,hi,hr,hs,hd,he,h=>⟨h.1,c,d,g,k _ _ h.2,hi,hr,hs,hd,he⟩
 |b+1,listed,c,d,a,w,g,hi,hr,hs,hd,he,h=>by
  refine⟨fun B=>⟨c,d,g,k _ _ (h.1 B),hi,hr,hs,hd,he⟩,fun i f=>?_⟩;obtain⟨o,v,r⟩:=h.2 i f;have e:rW N o.dst=true/\lV N ops o.guard=true:=by unfold dJ at j;rw[lL]at j;have:=j o (Hb.2 (Do v));simpa using this
  exact Ir (N:=N) t v e.1 e.2 hi hr hs hd he (fun z s y D A n p q l m C=>rO t j k b _ z s y D A n p q l m C.2) r
theorem QD{a:ah}{d:Option Nat}{v:LV}{x:Operand}(h:∀ t,d=some t->x≠.tmp t):aM (bR a d v) x=aM a x:=by
 cases d with
 |none=>rfl
 |some d=>
  cases x with
  |tmp t=>have:t≠d:=fun e=>h d rfl (by rw[e]);simp[aM,bR,de,this]
  |_=>rfl
theorem Fc{m:Bool}{o:Oper}{g e:ah}{p:St}(h:∀ x∈o.op.operands,aM g x=aM e x):fX T m o g p=fX T m o e p:=by
 obtain⟨q,j,E,z,after,guard⟩:=o;simp only at h;cases j<;>simp only[fX,Op.operands]at h ⊢<;>try rfl
 case move x=>rw[h x Y]
 case assign x=>rw[h x Y]
 case pick c a b=>simp_all
 case binOp j t x y t'=>rw[h x Y,h y Y]
 case unOp j t x=>rw[h x Y]
 case convert s d x=>rw[h x Y]
 case load t x=>rw[h x Y]
 case store t x v=>grind
 case indexAddr t x i=>grind
 case fieldAddr t x f=>rw[h x Y]
 case field t x f=>rw[h x Y]
 case slice t x lo hi mx=>
  rw[h x Y];have k:lo.map (aM g)=lo.map (aM e):=by cases lo with|none=>rfl|some y=>simp only[Option.map_some];rw[h y Y]
  have B:hi.map (aM g)=hi.map (aM e):=by cases hi with|none=>rfl|some y=>simp only[Option.map_some];rw[h y Y]
  have C:mx.map (aM g)=mx.map (aM e):=by cases mx with|none=>rfl|some y=>simp only[Option.map_some];rw[h y Y]
  grind
 case box t x=>rw[h x Y]
 case build t ps=>
  grind [List.map_congr_left]
 case buildSlice t n ps=>
  grind [List.map_congr_left]
 case makeFunc f first Kz=>
  grind [List.map_congr_left]
 case extract x i=>rw[h x Y]
 case nilCheck x=>rw[h x Y]
 case lookup t x i ok=>grind
 case index t x i=>grind
 case mapUpdate t x i v=>grind
 case insert t x i v=>grind
 case makeSlice t l c=>grind
 case makeMap t r=>
  have k:r.map (aM g)=r.map (aM e):=by cases r with|none=>rfl|some y=>simp only[Option.map_some];rw[h y Y]
  rw[k]
 case call c=>
  obtain⟨callee,args,A⟩:=c;obtain⟨args⟩:=args;have D:∀ x∈args,aM g x=aM e x:=fun x w=>h x (by simp[Call.operands];right;exact w);clear h;unfold FX
  split<;>simp_all
def nD(T:bg)(ops:Array Oper)(M:PQ)(S:St->Prop)(o:Oper)(v:LV)(a:ah):Prop:=
 (bG ops a o.guard=some true/\aW o.op=true/\∀ b,S b->∃ r,fX T (kn M o.dst) o a b=some r/\r.c/\r.v=v/\r.s=b)\/(bG ops a o.guard=some false/\v=.tu [])
theorem nD.step{S:St->Prop}{o:Oper}{v:LV}{b:ah}{a:St}{K:ah->St->Prop}(f:nD T ops M S o v b)(d:S a)(h:K (bR b o.dst v) a):mU P T ops M o K b a:=by
 unfold mU;rcases f with⟨c,n,e⟩|⟨c,rfl⟩
 .rw[c];refine⟨fun _=>?_,(fun m=>by grind)⟩;obtain⟨r,g,j,k,l⟩:=e a d
  split
  .grind [aW]
  simp_all
 simp_all
theorem Ae{o:Oper}{fr:ah}{d:Option Nat}{v:LV}(h:∀ t,d=some t->t∉o.looksAt ops):∀ x∈o.op.operands,aM (bR fr d v) x=aM fr x:=by intro x c;refine QD fun t b a=>h t b ?_;subst a;exact dg _ (List.mem_filterMap.2 ⟨.tmp t,by grind,rfl⟩)
theorem oF{o:Oper}{a:ah}{d:Option Nat}{v:LV}(h:∀ t,d=some t->t∉o.looksAt ops):bG ops (bR a d v) o.guard=bG ops a o.guard:=by
 cases d with
 |none=>rfl
 |some d=>
  unfold bG;cases c:o.guard with
  |none=>rfl
  |some p=>
   obtain⟨j,want⟩:=p;simp only;cases b:(ops[j]?).bind (·.dst) with
   |none=>rfl
   |some t=>
    have Tv:t≠d:=by rintro rfl;refine h t rfl (dE _ ?_);simp[c,b]
    simp[bR,de,Tv]
theorem nD.keep{S:St->Prop}{o:Oper}{v:LV}{a:ah}(e:nD T ops M S o v a){d:Option Nat}(h:∀ t,d=some t->t∉o.looksAt ops)(u:LV):nD T ops M S o v (bR a d u):=by
 rcases e with⟨c,b,g⟩|⟨c,rfl⟩
 .left;refine⟨by grind [oF],b,fun j f=>?_⟩;rw[Fc (Ae h)]
  grind
 .right
  grind [oF]
theorem QK{a:ah}{d e:Option Nat}{u v:LV}(h:∀ t,d=some t->e≠some t):bR (bR a d u) e v=bR (bR a e v) d u:=by
 cases d with
 |none=>rfl
 |some d=>
  cases e with
  |none=>rfl
  |some e=>
   have Tv:e≠d:=fun b=>h d rfl (by rw[b])
   funext i
   simp only[bR,de]
   grind
theorem Pp{S:St->Prop}{c d:Oper}{v:LV}(l:c.apart ops d=true){K:ah->St->Prop}{a:ah}{n:St}(m:nD T ops M S c v a)
 (h:mU P T ops M d K (bR a c.dst v) n):mU P T ops M d (fun o j=>nD T ops M S c v o/\K (bR o c.dst v) j) a n:=by
 obtain⟨p,t,k⟩:=Oper.apart_spec l;have f:=Ae (fr:=a) (v:=v) p;unfold mU at h ⊢;rw[oF p]at h;cases B:bG ops a d.guard with
 |none=>simp_all
 |some b=>
  rw[B]at h;have F:∀ r,bR (bR a c.dst v) d.dst r=bR (bR a d.dst r) c.dst v:=fun r=>QK t;refine⟨fun q=>?_,fun q=>⟨m.keep k _,by grind⟩⟩;have g:=h.1 q
  split at g
  .rename_i x args E A;simp only;have C:aM (bR a c.dst v) x=aM a x:=f x (by grind [Op.operands,Call.operands]);have e:(args.toList.map (aM (bR a c.dst v)))=args.toList.map (aM a):=jf fun y D=>by
    grind [Op.operands,Call.operands]
   rw[C,e]at g
   split at g
   .obtain⟨R,w,H⟩:=g;exact⟨R,w,fun r j s=>⟨m.keep k _,by grind⟩⟩
   omega
  .rename_i z;rw[Fc f]at g;cases s:fX T (kn M d.dst) d a n with
   |none=>simp_all
   |some r=>rw[s]at g;exact⟨g.1,m.keep k _,by grind⟩
theorem SO{i j:Nat}{a b:Oper}(f:ops[i]?=some a)(c:ops[j]?=some b)(Tv:j≠i)(d:gB a.op=true)(g:∀ e∈b.after,Region.binds .any e=true->e.on≠i):lI ops j=true:=by
 unfold lI;rw[c]
 grind
theorem jY{S:St->Prop}{J:ah->St->Prop}{i:Nat}{d:Oper}{v:LV}(E:ops[i]?=some d):
 ∀(b:Nat) (listed:Array Bool) (p:ah) (o:St),
  (∀ j w,ops[j]?=some w->j≠i->listed.getD j true=false->(∀ e∈w.after,Region.binds .any e=true->e.on≠i)->d.apart ops w=true)->
  i∈Region.ready .any ops listed->nD T ops M (fun o=>gB d.op=true->S o) d v p->(gB d.op=true->S o)->aW d.op=true->
  lA P T ops M S J b (listed.setIfInBounds i true) (bR p d.dst v) o->lA P T ops M S J (b+1) listed p o:=by
 intro b;induction b with
 |zero=>
  intro listed p o _ K z C R H;refine⟨fun h=>(by grind),fun j y=>?_⟩;by_cases a:j=i
  .subst a;exact⟨d,E,z.step C ⟨by grind [Kx],H⟩⟩
  .have:=ready_mono y a;rw[H.1]at this
   grind
 |succ b ih=>
  intro listed p o c K z C R H;refine⟨fun h=>(by grind),fun j y=>?_⟩;by_cases a:j=i
  .subst a;exact⟨d,E,z.step C ⟨by grind [Kx],H⟩⟩
  .obtain⟨l,n,A⟩:=H.2 j (ready_mono y a);obtain⟨s,w,g,q⟩:=mem_ready.1 y;have I:l=w:=by rw[g]at n;exact(ji n).symm
   subst I;have m:∀ e∈l.after,Region.binds .any e=true->e.on≠i:=fun e he X D=>by
    have A:=q e he X;have h0:=(mem_ready.1 K).1;rw[D]at A;rcases ec i listed.size with V|V
    .grind
    grind
   have W:=Pp (c j l g a s m) z A
   have f:∀ k x,ops[k]?=some x->k≠i->(listed.setIfInBounds j true).getD k true=false->
    (∀ e∈x.after,Region.binds .any e=true->e.on≠i)->d.apart ops x=true:=fun k x t F L o7=>by
    refine c k x t F ?_ o7;by_cases r:j=k
    .subst r;omega
    .rw[getD_set_ne true r]at L;omega
   refine⟨l,g,W.mono fun U Q B=>⟨B.2.1,?_⟩⟩;refine ih (listed.setIfInBounds j true) U Q f (ready_mono K (jk a)) B.1 (fun hh=>?_) R ?_
   .have t:=B.2.1;unfold Kx at t
    split at t
    .grind
    .exact t (SO E g a hh m)
   .rw[Array.setIfInBounds_comm _ _ a]
    grind
def nI(ops:Array Oper):PQ->Array Bool->Bool
 |[],listed=>(Region.ready .any ops listed).isEmpty
 |i::π,listed=>match ops[i]? with
  |some o=>(if aW o.op then(Region.ready .any ops listed).contains i&&Region.free .any ops listed i else Region.ready .any ops listed==[i])&&nI ops π (listed.setIfInBounds i true)
  |none=>false
def RL(B:PQ):LV->Prop
 |.pt l _=>l∈B
 |.ep _=>True
 |_=>False
def oE(a:ah):Op->LV
 |.load _ x=>aM a x
 |.lookup _ x _ _=>Ud (aM a x)
 |.call { callee:=.builtin .len,args:=⟨x::_⟩,.. }=>Ud (aM a x)
 |_=>.ep []
def SB(B:PQ)(a b:St):Prop:=∀ l∈B,b.H l=a.H l
def fL(P:Program)(T:bg)(ops:Array Oper)(M B:PQ)(a:St)(J:ah->St->Prop):List (Nat×Bool×Oper)->ah->St->Prop
 |[],fr,st=>J fr st
 |(_,nd,o)::π,fr,st=>match aW o.op with
  |true=>match bG ops fr o.guard with
   |some b=>(b=true->((gB o.op=true->SB B a st)/\RL B (oE fr o.op)/\match fX T (kn M o.dst) o fr st with
     |some r=>r.c/\fL P T ops M B a J π (bR fr o.dst r.v) st
     |none=>False))/\(b=false->(gB o.op=true->SB B a st)/\fL P T ops M B a J π (bR fr o.dst (.tu [])) st)
   |none=>False
  |false=>mU P T ops M o (fun e d=>(nd=true->SB B a d)/\fL P T ops M B a J π e d) fr st
theorem qZ{o:Oper}{g:ah}{m:Bool}{C e:St}{r:bV}(z:aW o.op=true)(E:∀ l k,oE g o.op=.pt l k->e.H l=C.H l)(h:fX T m o g C=some r):
 fX T m o g e=some (@bV.mk r.c r.v e r.d):=by
 obtain⟨J,F,V,Q,after,guard⟩:=o;simp only at z E;cases F<;>simp only[aW,ir]at z<;>simp only[fX]at h ⊢
 case move x=>simp only[ap]at h;subst h;rfl
 case assign x=>simp only[ap]at h;subst h;rfl
 case pick c a b=>
  split at h
  .simp only[ap]at h;subst h;rfl
  grind
 case binOp F t x y I=>
  unfold JC at h ⊢
  split at h
  .simp only[kj]at h ⊢;obtain⟨p,S,rfl⟩:=h
   grind
  .split at h
   .simp only[ap]at h;subst h;rfl
   .simp only[ap]at h;subst h;rfl
   grind
  .split at h
   .split at h
    .simp only[ap]at h;subst h;grind
    .simp only[ap]at h;subst h;grind
    grind
   grind
  .split at h
   .simp only[ap]at h;subst h;grind
   .simp only[ap]at h;subst h;grind
   grind
  .split at h
   .simp only[ap]at h;subst h;grind
   .simp only[ap]at h;subst h;grind
   grind
  .split at h
   .simp only[ap]at h;subst h;grind
   .simp only[ap]at h;subst h;grind
   grind
  .split at h
   .simp only[ap]at h;subst h;grind
   .simp only[ap]at h;subst h;grind
   grind
  grind
 case unOp F t x=>
  unfold Wq at h ⊢
  split at h
  .simp only[ap]at h;subst h;rfl
  .simp only[ap]at h;subst h;rfl
  grind
 case convert s d x=>
  split at h
  .simp only[ap]at h;subst h;rfl
  grind
 case load t x=>
  unfold Ce at h ⊢;have w:fW e (aM g x)=fW C (aM g x):=by
   cases B:aM g x with
   |pt l k=>simp only[fW];rw[E l k B]
   |_=>rfl
  rw[w]
  split at h
  .split at h
   .simp only[ap]at h;subst h;grind
   .simp only[ap]at h;subst h;grind
  grind
 case indexAddr t x i=>
  unfold Ue at h ⊢
  split at h
  .split at h
   .split at h
    .simp only[ap]at h;subst h;rfl
    .split at h
     .simp only[ap]at h;subst h;grind
     grind
   grind
  grind
 case fieldAddr t x f=>
  unfold mC at h ⊢
  split at h
  .split at h
   .split at h
    .split at h
     .simp only[ap]at h;subst h;grind
     .simp only[ap]at h;subst h;grind
     .simp only[ap]at h;subst h;rfl
     grind
    grind
   grind
  grind
 case field t x f=>
  unfold CF at h ⊢
  split at h
  .split at h
   .split at h
    .split at h
     .simp only[ap]at h;subst h;grind
     .simp only[ap]at h;subst h;grind
    grind
   grind
  grind
 case slice t x lo hi mx=>
  unfold Cx at h ⊢
  split at h
  .split at h
   .split at h
    .split at h
     .split at h
      .simp only[ap]at h;subst h;grind
      grind
     .split at h
      .simp only[ap]at h;subst h;grind
      grind
     .split at h
      .simp only[ap]at h;subst h;grind
      grind
     .split at h
      .simp only[ap]at h;subst h;grind
      grind
     .split at h
      .split at h
       .simp only[ap]at h;subst h;grind
       grind
      grind
    .split at h
     .simp only[ap]at h;subst h;grind
     .split at h
      .simp only[ap]at h;subst h;grind
      .simp only[ap]at h;subst h;grind
      grind
     grind
    grind
   grind
  grind
 case extract x i=>
  split at h
  .split at h
   .simp only[ap]at h;subst h;grind
   grind
  grind
 case nilCheck x=>
  split at h
  .simp only[ap]at h;subst h;rfl
  .simp only[ap]at h;subst h;rfl
  grind
 case index t x i=>
  unfold HF at h ⊢
  split at h
  .simp only[ap]at h;subst h;grind
  grind
 case lookup t x i ok=>
  unfold xS at h ⊢;have w:∀ l,aM g x=.mp l->e.H l=C.H l:=fun l L=>E l 0 (by grind [oE,Ud])
  split at h
  .split at h
   .split at h
    .rename_i l B;have z:=w l B
     split at h
     .rename_i K;simp only[ap]at h;subst h;simp_all
     grind
    .simp only[ap]at h;subst h;grind
    grind
   grind
  grind
 case makeFunc f first Kz=>
  split at h
  .simp only[ap]at h;subst h;grind
  grind
 case call c=>
  obtain⟨callee,args,R⟩:=c;unfold FX at h ⊢
  split at h<;>rename_i j _<;>(try simp only at j)
  .rename_i x I U n A;simp only at n A
   have w:∀ l,aM g x=.mp l->e.H l=C.H l:=fun l L=>E l 0 (by
    have D:args=#[x]:=Array.ext' j
    grind [oE,Ud])
   cases q:pJ T I with
   |some p=>
    simp only[q]at h ⊢;unfold VY at h ⊢;simp only[q]at h ⊢
    split at h
    .rename_i l _ B;have z:=w l B
     split at h
     .rename_i K;simp only[ap]at h;subst h;simp_all
     grind
    grind
   |none=>
   simp only[q]at h ⊢;unfold WR at h ⊢
   split at h
   .split at h
    .simp only[ap]at h;subst h;grind
    .simp only[ap]at h;subst h;grind
    .split at h
     .simp only[ap]at h;subst h;grind
     grind
   grind
  .unfold Vs at h ⊢
   split at h
   .simp only[ap]at h;subst h;grind
   grind
  .unfold YB at h ⊢
   split at h
   .simp only[ap]at h;subst h;grind
   grind
  all_goals (first|(exfalso;revert z;simp_all[aW];done)|(simp at h;done)|(exfalso;simp_all[aW];done))
theorem Hg{b:ah}{a:Op}{l k:Nat}(h:oE b a=.pt l k):gB a=true:=by
 unfold oE at h
 split at h
 .rfl
 .rfl
 .rfl
 grind
theorem Ct{B:PQ}{A:St}{J:ah->St->Prop}:∀(g:List (Nat×Bool×Oper)) (listed:Array Bool) (e:ah) (f:St),(∀ p∈g,ops[p.1]?=some p.2.2/\(lI ops p.1=true->p.2.1=true))->nI ops (g.map (·.1)) listed=true->
 fL P T ops M B A J g e f->lA P T ops M (SB B A) J g.length listed e f
 |[],listed,e,f,_,a,h=>by simp only[mB,nI,List.isEmpty_iff]at a;exact⟨a,h⟩
 |(i,nd,o)::g,listed,e,f,hp,a,h=>by
  obtain⟨q,L⟩:ops[i]?=some o/\(lI ops i=true->nd=true):=hp (i,nd,o) Y;simp only[ax,nI,q,gg]at a
  have F:∀ e f,(∀ p∈g,ops[p.1]?=some p.2.2/\(lI ops p.1=true->p.2.1=true))->nI ops (g.map (·.1)) (listed.setIfInBounds i true)=true->fL P T ops M B A J g e f->lA P T ops M (SB B A) J g.length (listed.setIfInBounds i true) e f:=
   fun e f=>Ct g (listed.setIfInBounds i true) e f
  have m:∀ p∈g,ops[p.1]?=some p.2.2/\(lI ops p.1=true->p.2.1=true):=fun p U=>hp p (by grind);unfold fL at h;cases s:aW o.op with
  |true=>
   simp only[s,ef,gg]at a h;obtain⟨⟨w,t⟩,a⟩:=a;cases E:bG ops e o.guard with
   |none=>simp_all
   |some b=>
    rw[E]at h;cases b with
    |false=>exact jY q _ listed e f (Region.free_spec q t) (by grind) (.inr ⟨E,rfl⟩) (h.2 rfl).1 s (F _ _ m a (h.2 rfl).2)
    |true=>
     obtain⟨H,n,C⟩:=h.1 rfl
     split at C
     .rename_i r Q;refine jY q _ listed e f (Region.free_spec q t) (by grind) (.inl ⟨E,s,fun y D=>?_⟩) H s (F _ _ m a C.2);refine⟨@bV.mk r.c r.v y r.d,qZ s (fun l k I=>?_) Q,C.1,rfl,rfl⟩;rw[I]at n;have z:gB o.op=true:=Hg I;rw[D z l n,H z l n]
     grind
  |false=>
   simp only[s,ir,gI]at a h;obtain⟨w,a⟩:=a;have x:Region.ready .any ops listed=[i]:=by simpa using w
   refine⟨fun S=>(by grind),fun j K=>?_⟩;rw[x]at K;obtain rfl:j=i:=by grind
   refine⟨o,q,h.mono fun R y z=>⟨?_,F _ _ m a z.2⟩⟩
   grind [Kx]
def pick(ops:Array Oper)(a:List (Nat×Bool)):List (Nat×Bool×Oper):=a.filterMap fun p=>(ops[p.1]?).map fun o=>(p.1,p.2,o)
theorem Qw(n:bE P T)(M B:PQ)(d:List (Nat×Bool)){Q:AQ}{id:Nat}{c:ah}{b:St}(v:P.follows .mixedOrders=true)(t:dJ N ops ops.toList=true)
 (j:(nI ops ((pick ops d).map (·.1)) (Array.replicate ops.size false)&&((pick ops d).length==ops.size)&&(d.all fun p=>!lI ops p.1||p.2))=true)
 (h:∀ J:ah->St->Prop,(∀ c b,Q .normal c b->J c b)->fL P T ops M B b J (pick ops d) c b):bq P N (.region id ops true) Q c b:=by
 intro a w g s A C r;simp only[gg,ud]at j;obtain⟨⟨k,l⟩,hπ3⟩:=j;refine wp_region_any v ?_;have f:∀ p∈pick ops d,ops[p.1]?=some p.2.2/\(lI ops p.1=true->p.2.1=true):=by intro p f;unfold pick at f;simp only[List.mem_filterMap,kj]at f;obtain⟨q,z,o,y,rfl⟩:=f;refine⟨y,fun x=>?_⟩;rw[lL]at hπ3;have:=hπ3 q z;simpa[x]using this
 have m:=Ct (pick ops d) (Array.replicate ops.size false) c b f k (h (fun c b=>Q .normal c b) (fun _ _ h=>h));rw[l]at m;have e:Ext w g { w with drawn:=w.drawn+1 } g:=fA w g;exact rO n t (fun _ _ h=>h) _ _ c b a { w with drawn:=w.drawn+1 } g s.drew (A.mono e) C r e m
def RE(P:Program)(T:bg)(ops:Array Oper)(M B:PQ)(e:St)(J:ah->St->Prop)(f:List (Nat×Bool×Oper))(o:Oper)(d:ah)(a:St):Option Bool->Prop
 |some b=>(b=true->((gB o.op=true->SB B e a)/\RL B (oE d o.op)/\match fX T (kn M o.dst) o d a with
   |some r=>r.c/\fL P T ops M B e J f (bR d o.dst r.v) a
   |none=>False))/\(b=false->(gB o.op=true->SB B e a)/\fL P T ops M B e J f (bR d o.dst (.tu [])) a)
 |none=>False
def K0(P:Program)(T:bg)(ops:Array Oper)(M B:PQ)(b:St)(J:ah->St->Prop)(e:List (Nat×Bool×Oper))(o:Oper)(a:ah)(d:St):Option bV->Prop
 |some r=>r.c/\fL P T ops M B b J e (bR a o.dst r.v) d
 |none=>False
def D9(P:Program)(T:bg)(ops:Array Oper)(M B:PQ)(a:St)(J:ah->St->Prop)(e:List (Nat×Bool×Oper))(d:Bool)(o:Oper)(b:ah):Option bV->Prop
 |some r=>r.c/\(d=true->SB B a r.s)/\fL P T ops M B a J e (bR b o.dst r.v) r.s
 |none=>False
def Db(P:Program)(T:bg)(ops:Array Oper)(M B:PQ)(b:St)(J:ah->St->Prop)(h:List (Nat×Bool×Oper))(e:Bool)(d:Option Nat)(c:ah)(g:St)(f:FuncId)(args:QQ):Prop:=
 ∃ R,aD P f args g R/\∀ r a,R r a->(e=true->SB B b a)/\fL P T ops M B b J h (bR c d r) a
def J8(P:Program)(T:bg)(ops:Array Oper)(M B:PQ)(b:St)(J:ah->St->Prop)(g:List (Nat×Bool×Oper))(c:Bool)(d:Option Nat)(a:ah)(e:St)(args:QQ):Option (FuncId×QQ)->Prop
 |some (f,Kz)=>Db P T ops M B b J g c d a e f (args++Kz)
 |none=>False
def C5(P:Program)(T:bg)(ops:Array Oper)(M B:PQ)(b:St)(J:ah->St->Prop)(e:List (Nat×Bool×Oper))(c:Bool)(o:Oper)(a:ah)(d:St):Prop:=
 match o.op with
 |.call { callee:=.value x,args:=args,argTypes:=_ }=>J8 P T ops M B b J e c o.dst a d (args.toList.map (aM a)) (gG (aM a x))
 |_=>D9 P T ops M B b J e c o a (fX T (kn M o.dst) o a d)
def Lh(P:Program)(T:bg)(ops:Array Oper)(M B:PQ)(a:St)(J:ah->St->Prop)(f:List (Nat×Bool×Oper))(e:Bool)(o:Oper)(d:ah)(c:St):Option Bool->Prop
 |some b=>(b=true->C5 P T ops M B a J f e o d c)/\(b=false->(e=true->SB B a c)/\fL P T ops M B a J f (bR d o.dst (.tu [])) c)
 |none=>False
def TX(P:Program)(T:bg)(ops:Array Oper)(M B:PQ)(b:St)(J:ah->St->Prop)(d:List (Nat×Bool×Oper))(e:Bool)(o:Oper)(a:ah)(c:St):Bool->Prop
 |true=>RE P T ops M B b J d o a c (bG ops a o.guard)
 |false=>Lh P T ops M B b J d e o a c (bG ops a o.guard)
variable {B:List Nat} {j9:St} {J:ah->St->Prop} {π:List (Nat×Bool×Oper)} {nd:Bool} {o:Oper} {fr:ah} {st:St} {d:Option Nat}
theorem N5:fL P T ops M B j9 J [] fr st=J fr st:=rfl
theorem C1(i:Nat):fL P T ops M B j9 J ((i,nd,o)::π) fr st=TX P T ops M B j9 J π nd o fr st (aW o.op):=by
 unfold fL;cases a:aW o.op with
 |true=>simp only[TX];cases bG ops fr o.guard<;>rfl
 |false=>
  simp only[TX];unfold mU;cases bG ops fr o.guard with
  |none=>rfl
  |some b=>
   simp only[Lh]
   congr 1
theorem Vn:TX P T ops M B j9 J π nd o fr st true=RE P T ops M B j9 J π o fr st (bG ops fr o.guard):=rfl
theorem Zb:TX P T ops M B j9 J π nd o fr st false=Lh P T ops M B j9 J π nd o fr st (bG ops fr o.guard):=rfl
theorem W5:RE P T ops M B j9 J π o fr st (some true)=((gB o.op=true->SB B j9 st)/\RL B (oE fr o.op)/\K0 P T ops M B j9 J π o fr st (fX T (kn M o.dst) o fr st)):=by simp only[RE,forall_const,Bool.true_eq_false,xv,qf];cases fX T (kn M o.dst) o fr st<;>rfl
theorem Z0:RE P T ops M B j9 J π o fr st (some false)=((gB o.op=true->SB B j9 st)/\fL P T ops M B j9 J π (bR fr o.dst (.tu [])) st):=by simp[RE]
theorem d_a(r:bV):K0 P T ops M B j9 J π o fr st (some r)=(r.c/\fL P T ops M B j9 J π (bR fr o.dst r.v) st):=rfl
theorem Y3:Lh P T ops M B j9 J π nd o fr st (some true)=C5 P T ops M B j9 J π nd o fr st:=by simp[Lh]
theorem W8:Lh P T ops M B j9 J π nd o fr st (some false)=((nd=true->SB B j9 st)/\fL P T ops M B j9 J π (bR fr o.dst (.tu [])) st):=by simp[Lh]
theorem d_l(r:bV):D9 P T ops M B j9 J π nd o fr (some r)=(r.c/\(nd=true->SB B j9 r.s)/\fL P T ops M B j9 J π (bR fr o.dst r.v) r.s):=rfl
theorem Zw(f:FuncId)(Kz args:QQ):J8 P T ops M B j9 J π nd d fr st args (some (f,Kz))=Db P T ops M B j9 J π nd d fr st f (args++Kz):=rfl
theorem bM(h:fL P T ops M B j9 J π fr st):fL P T ops M B j9 J π fr st:=h
theorem aS{f:FuncId}{args:QQ}{R:LV->St->Prop}(h:aD P f args st R)(b:∀ r a,R r a->(nd=true->SB B j9 a)/\fL P T ops M B j9 J π (bR fr d r) a):Db P T ops M B j9 J π nd d fr st f args:=⟨R,h,b⟩
theorem uN(p:Nat×Bool)(l:List (Nat×Bool)):pick ops (p::l)=match ops[p.1]? with|some o=>(p.1,p.2,o)::pick ops l|none=>pick ops l:=by unfold pick;simp only[List.filterMap_cons];cases ops[p.1]?<;>rfl
theorem Iy:pick ops []=[]:=rfl
theorem C7:SB [] j9 st=True:=by simp[SB]
theorem Vo(b:Nat)(l:PQ):SB (b::l) j9 st=(st.H b=j9.H b/\SB l j9 st):=by simp[SB]
end
end Aw
end Go.Proofs.YtbgngpdonpeboaaGreatDoor
