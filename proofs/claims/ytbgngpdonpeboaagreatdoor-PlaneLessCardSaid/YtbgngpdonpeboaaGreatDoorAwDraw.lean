/- Regions whose order is open, at large: what only looks is taken as soon as it may come; the rest one behind the other. No program is named here. -/
import Derived.Test.YtbgngpdonpeboaaGreatDoorAwRun
import Derived.Orders
set_option linter.defProp false
set_option linter.unusedVariables false
set_option linter.unusedSimpArgs false
namespace Go.Proofs.YtbgngpdonpeboaaGreatDoor
namespace Aw
open Go Go.RowKit
def eX:Op->Bool
 |.load ..=>true
 |.lookup ..=>true
 |.call { callee:=.builtin .len,.. }=>true
 |_=>false
def Ql:LV->LV
 |.mp l=>.pt l 0
 |_=>.ep []
section
variable {P:Program} {T:az} {N:Nat} {ops:Array Oper} {M:List Nat}
def iG(P:Program)(T:az)(ops:Array Oper)(M:List Nat)(o:Oper)(K:af->St->Prop)(a:af)(e:St):Prop:=
 match bB ops a o.guard with
 |some b=>(b=true->(match o.op with
   |.call { callee:=.value x,args:=args,argTypes:=_ }=>match eZ (aI a x) with
    |some (f,IQ)=>∃ R,aB P f ((args.toList.map (aI a))++IQ) e R/\∀ r d,R r d->K (bL a o.dst r) d
    |none=>False
   |_=>match fy T (jr M o.dst) o a e with
    |some r=>r.c/\K (bL a o.dst r.v) r.s
    |none=>False))/\(b=false->K (bL a o.dst (.tu [])) e)
 |none=>False
theorem iG.mono{o:Oper}{K f:af->St->Prop}{a:af}{c:St}(g:∀ a c,K a c->f a c)(h:iG P T ops M o K a c):iG P T ops M o f a c:=by
 unfold iG at h ⊢;cases j:bB ops a o.guard with
 |none=>simp_all
 |some b=>
  rw[j]at h;refine⟨fun e=>?_,fun e=>g _ _ (h.2 e)⟩;have d:=h.1 e
  split at d
  .split at d
   .grind
   omega
  .split at d
   .grind
   omega
def kC(ops:Array Oper)(j:Nat):Bool:=
 match ops[j]? with
 |none=>false
 |some b=>(List.range ops.size).any fun i=>i != j&&((ops[i]?).map fun a=>eX a.op).getD false&&!(b.after.any fun e=>Region.binds .any e&&e.on==i)
def Kx(ops:Array Oper)(S:St->Prop)(i:Nat)(o:Oper)(b a:St):Prop:=if aL o.op=true then a=b else(kC ops i=true->S a)
def jR(P:Program)(T:az)(ops:Array Oper)(M:List Nat)(S:St->Prop)(J:af->St->Prop):Nat->Array Bool->af->St->Prop
 |0,listed,fr,st=>Region.ready .any ops listed=[]/\J fr st
 |fuel+1,listed,fr,st=>(Region.ready .any ops listed=[]->J fr st)/\
  ∀ i∈Region.ready .any ops listed,∃ o,ops[i]?=some o/\iG P T ops M o (fun UK a=>Kx ops S i o st a/\jR P T ops M S J fuel (listed.setIfInBounds i true) UK a) fr st
theorem Hf(Y:aZ P T){o:Oper}{Q:Exit->Act->World->Prop}{K:af->St->Prop}{I:Act->World->Prop}{W:World}{g0:G}{y:af}{V:St}{a:Act}{w:World}{g:G}{i:Nat}(ho:ops[i]?=some o)
 (L:pE N o.dst=true) (B:kJ N ops o.guard=true) (O:Inv w g V) (p:dY w g a y) (S:a.tmps.size=N) (hd:a.defers=[]) (n:Ext W g0 w g)
 (A:∀ UK c t q d,Inv q d c->dY q d t UK->t.tmps.size=N->t.defers=[]->Ext W g0 q d->K UK c->I t q) (h:iG P T ops M o K y V):wpOp P ops Q i I a w:=by
 unfold iG at h;unfold wpOp;simp only[ho];cases U:bB ops y o.guard with
 |none=>simp_all
 |some b=>
  rw[U]at h;have F:Region.wanted o (yielded ops a.tmps)=b:=eT p U (by rw[S];exact iS B);rw[F];cases b with
  |false=>
   grind [eD,xK,cF,put_defers]
  |true=>
   simp only[dE];left;have j:=h.1 rfl;unfold Oper.wp
   split at j
   .rename_i x args tys C
    split at j
    .rename_i f IQ hf;obtain⟨R,J,hn⟩:=j;have k:=aD p x;revert hf k;cases Z:aI y x with
     |fn z caps'=>
      cases z with
      |func z=>
       intro hf k;simp only[eZ,ap,fx]at hf;obtain⟨rfl,rfl⟩:=hf;simp only[Rep]at k;obtain⟨us,k,D⟩:=k;have H:(execOp a.eval o).run P w=.ok (.enter z ((args.toList.map a.eval++us).toArray)) w:=by unfold execOp;simp only[C,resolve,invoke,k,Deferred.ofValue,Sem.run_bind,Sem.run_pure,Result.andThen_ok];simp only[Array.empty_append];rw[J.1];simp
       rw[H,Oper.upon_enter];refine(J.2 w g _ O (cI _ _ _ _ (BJ p args.toList) D)).mono ?_;rintro e q ⟨v,r,c,d,rfl,hq,E,s,m⟩;exact A _ _ _ _ d s (eD (p.mono m) (by grind) E) (by grind [cF]) (by grind [put_defers]) (n.trans m) (hn r c hq)
      |_=>grind [eZ]
     |_=>intro hf;simp[eZ]at hf
    grind
   .split at j
    .rename_i r X;obtain⟨x,q,d,H,k,s,m,_⟩:=xC (N:=N) Y X j.1 a w g O p S;rw[H];rcases k with⟨v,rfl,E⟩|⟨rfl,l⟩
     .rw[Oper.upon_value];exact A _ _ _ _ d s (eD (p.mono m) (by grind) E) (by grind [cF]) (by grind [put_defers]) (n.trans m) j.2
     .rw[Oper.upon_skip];rw[l]at j;exact A _ _ _ _ d s (eD (p.mono m) (by grind) (by grind [Rep])) (by grind [cF]) (by grind [put_defers]) (n.trans m) j.2
    grind
theorem oW(m:aZ P T){S:St->Prop}{J:af->St->Prop}{Q:AQ}(f:cR N ops ops.toList=true)(j:∀ c d,J c d->Q .normal c d){p:World}{g0:G}:
 ∀(b:Nat) (listed:Array Bool) (c:af) (d:St) (a:Act) (w:World) (g:G),Inv w g d->dY w g a c->a.tmps.size=N->a.defers=[]->Ext p g0 w g->
  jR P T ops M S J b listed c d->wpAny P .any ops (lB N Q p g0) b listed a w
 |0,listed,c,d,a,w,g,hi,hr,hs,hd,he,h=>⟨h.1,c,d,g,j _ _ h.2,hi,hr,hs,hd,he⟩
 |b+1,listed,c,d,a,w,g,hi,hr,hs,hd,he,h=>by
  refine⟨fun A=>⟨c,d,g,j _ _ (h.1 A),hi,hr,hs,hd,he⟩,fun i s=>?_⟩;obtain⟨o,n,q⟩:=h.2 i s;have e:pE N o.dst=true/\kJ N ops o.guard=true:=by unfold cR at f;rw[kw]at f;have:=f o (yr.2 (yj n));simpa using this
  exact Hf (N:=N) m n e.1 e.2 hi hr hs hd he (fun UK l y C z r v x t k B=>oW m f j b _ UK l y C z r v x t k B.2) q
theorem OS{a:af}{d:Option Nat}{v:LV}{x:Operand}(h:∀ t,d=some t->x≠.tmp t):aI (bL a d v) x=aI a x:=by
 cases d with
 |none=>rfl
 |some d=>
  cases x with
  |tmp t=>have:t≠d:=fun e=>h d rfl (by rw[e]);simp[aI,bL,cY,this]
  |_=>rfl
theorem DL{m:Bool}{o:Oper}{e UK:af}{k:St}(h:∀ x∈o.op.operands,aI e x=aI UK x):fy T m o e k=fy T m o UK k:=by
 obtain⟨p,g,D,w,after,guard⟩:=o;simp only at h;cases g<;>simp only[fy,Op.operands]at h ⊢<;>try rfl
 case move x=>rw[h x sS]
 case assign x=>rw[h x sS]
 case pick c a b=>simp_all
 case binOp g t x y t'=>rw[h x sS,h y sS]
 case unOp g t x=>rw[h x sS]
 case convert s d x=>rw[h x sS]
 case load t x=>rw[h x sS]
 case store t x v=>grind
 case indexAddr t x i=>grind
 case fieldAddr t x f=>rw[h x sS]
 case field t x f=>rw[h x sS]
 case slice t x lo hi mx=>
  rw[h x sS];have j:lo.map (aI e)=lo.map (aI UK):=by cases lo with|none=>rfl|some y=>simp only[Option.map_some];rw[h y sS]
  have A:hi.map (aI e)=hi.map (aI UK):=by cases hi with|none=>rfl|some y=>simp only[Option.map_some];rw[h y sS]
  have B:mx.map (aI e)=mx.map (aI UK):=by cases mx with|none=>rfl|some y=>simp only[Option.map_some];rw[h y sS]
  grind
 case box t x=>rw[h x sS]
 case build t ps=>
  grind [List.map_congr_left]
 case buildSlice t n ps=>
  grind [List.map_congr_left]
 case makeFunc f first IQ=>
  grind [List.map_congr_left]
 case extract x i=>rw[h x sS]
 case nilCheck x=>rw[h x sS]
 case lookup t x i ok=>grind
 case index t x i=>grind
 case mapUpdate t x i v=>grind
 case insert t x i v=>grind
 case makeSlice t l c=>grind
 case makeMap t r=>
  have j:r.map (aI e)=r.map (aI UK):=by cases r with|none=>rfl|some y=>simp only[Option.map_some];rw[h y sS]
  rw[j]
 case call c=>
  obtain⟨callee,args,z⟩:=c;obtain⟨args⟩:=args;have C:∀ x∈args,aI e x=aI UK x:=fun x q=>h x (by simp[Call.operands];right;exact q);clear h;unfold EF
  split<;>simp_all
def mK(T:az)(ops:Array Oper)(M:List Nat)(S:St->Prop)(o:Oper)(v:LV)(a:af):Prop:=
 (bB ops a o.guard=some true/\aL o.op=true/\∀ b,S b->∃ r,fy T (jr M o.dst) o a b=some r/\r.c/\r.v=v/\r.s=b)\/(bB ops a o.guard=some false/\v=.tu [])
theorem mK.step{S:St->Prop}{o:Oper}{v:LV}{b:af}{a:St}{K:af->St->Prop}(f:mK T ops M S o v b)(d:S a)(h:K (bL b o.dst v) a):iG P T ops M o K b a:=by
 unfold iG;rcases f with⟨c,n,e⟩|⟨c,rfl⟩
 .rw[c];refine⟨fun _=>?_,(fun m=>by grind)⟩;obtain⟨r,g,j,k,l⟩:=e a d
  split
  .grind [aL]
  simp_all
 simp_all
theorem xQ{o:Oper}{fr:af}{d:Option Nat}{v:LV}(h:∀ t,d=some t->t∉o.looksAt ops):∀ x∈o.op.operands,aI (bL fr d v) x=aI fr x:=by intro x c;refine OS fun t b a=>h t b ?_;subst a;exact cX _ (List.mem_filterMap.2 ⟨.tmp t,by grind,rfl⟩)
theorem mN{o:Oper}{a:af}{d:Option Nat}{v:LV}(h:∀ t,d=some t->t∉o.looksAt ops):bB ops (bL a d v) o.guard=bB ops a o.guard:=by
 cases d with
 |none=>rfl
 |some d=>
  unfold bB;cases e:o.guard with
  |none=>rfl
  |some p=>
   obtain⟨j,want⟩:=p;simp only;cases c:(ops[j]?).bind (·.dst) with
   |none=>rfl
   |some t=>
    have b:t≠d:=by rintro rfl;refine h t rfl (dv _ ?_);simp[e,c]
    simp[bL,cY,b]
theorem mK.keep{S:St->Prop}{o:Oper}{v:LV}{a:af}(e:mK T ops M S o v a){d:Option Nat}(h:∀ t,d=some t->t∉o.looksAt ops)(u:LV):mK T ops M S o v (bL a d u):=by
 rcases e with⟨c,b,g⟩|⟨c,rfl⟩
 .left;refine⟨by grind [mN],b,fun j f=>?_⟩;rw[DL (xQ h)]
  grind
 .right
  grind [mN]
theorem OW{a:af}{d e:Option Nat}{u v:LV}(h:∀ t,d=some t->e≠some t):bL (bL a d u) e v=bL (bL a e v) d u:=by
 cases d with
 |none=>rfl
 |some d=>
  cases e with
  |none=>rfl
  |some e=>
   have c:e≠d:=fun b=>h d rfl (by rw[b])
   funext i
   simp only[bL,cY]
   grind
theorem Nf{S:St->Prop}{c d:Oper}{v:LV}(l:c.apart ops d=true){K:af->St->Prop}{a:af}{n:St}(m:mK T ops M S c v a)
 (h:iG P T ops M d K (bL a c.dst v) n):iG P T ops M d (fun UK j=>mK T ops M S c v UK/\K (bL UK c.dst v) j) a n:=by
 obtain⟨o,s,k⟩:=Oper.apart_spec l;have f:=xQ (fr:=a) (v:=v) o;unfold iG at h ⊢;rw[mN o]at h;cases A:bB ops a d.guard with
 |none=>simp_all
 |some b=>
  rw[A]at h;have E:∀ r,bL (bL a c.dst v) d.dst r=bL (bL a d.dst r) c.dst v:=fun r=>OW s;refine⟨fun p=>?_,fun p=>⟨m.keep k _,by grind⟩⟩;have g:=h.1 p
  split at g
  .rename_i x args D z;simp only;have B:aI (bL a c.dst v) x=aI a x:=f x (by grind [Op.operands,Call.operands]);have e:(args.toList.map (aI (bL a c.dst v)))=args.toList.map (aI a):=ii fun y C=>by
    grind [Op.operands,Call.operands]
   rw[B,e]at g
   split at g
   .obtain⟨R,t,F⟩:=g;exact⟨R,t,fun r j q=>⟨m.keep k _,by grind⟩⟩
   omega
  .rename_i w;rw[DL f]at g;cases q:fy T (jr M d.dst) d a n with
   |none=>simp_all
   |some r=>rw[q]at g;exact⟨g.1,m.keep k _,by grind⟩
theorem Pw{i j:Nat}{a b:Oper}(g:ops[i]?=some a)(c:ops[j]?=some b)(d:j≠i)(f:eX a.op=true)(h:∀ e∈b.after,Region.binds .any e=true->e.on≠i):kC ops j=true:=by
 unfold kC;rw[c]
 grind
theorem jE{S:St->Prop}{J:af->St->Prop}{i:Nat}{d:Oper}{v:LV}(E:ops[i]?=some d):
 ∀(b:Nat) (listed:Array Bool) (p:af) (o:St),
  (∀ j w,ops[j]?=some w->j≠i->listed.getD j true=false->(∀ e∈w.after,Region.binds .any e=true->e.on≠i)->d.apart ops w=true)->
  i∈Region.ready .any ops listed->mK T ops M (fun o=>eX d.op=true->S o) d v p->(eX d.op=true->S o)->aL d.op=true->
  jR P T ops M S J b (listed.setIfInBounds i true) (bL p d.dst v) o->jR P T ops M S J (b+1) listed p o:=by
 intro b;induction b with
 |zero=>
  intro listed p o _ K z C Q H;refine⟨fun h=>(by grind),fun j y=>?_⟩;by_cases a:j=i
  .subst a;exact⟨d,E,z.step C ⟨by grind [Kx],H⟩⟩
  .have:=ready_mono y a;rw[H.1]at this
   grind
 |succ b Y=>
  intro listed p o c K z C Q H;refine⟨fun h=>(by grind),fun j y=>?_⟩;by_cases a:j=i
  .subst a;exact⟨d,E,z.step C ⟨by grind [Kx],H⟩⟩
  .obtain⟨l,n,A⟩:=H.2 j (ready_mono y a);obtain⟨s,w,g,q⟩:=mem_ready.1 y;have I:l=w:=by rw[g]at n;exact(im n).symm
   subst I;have m:∀ e∈l.after,Region.binds .any e=true->e.on≠i:=fun e W V D=>by
    have A:=q e W V;have h0:=(mem_ready.1 K).1;rw[D]at A;rcases dC i listed.size with R|R
    .grind
    grind
   have U:=Nf (c j l g a s m) z A
   have f:∀ k x,ops[k]?=some x->k≠i->(listed.setIfInBounds j true).getD k true=false->
    (∀ e∈x.after,Region.binds .any e=true->e.on≠i)->d.apart ops x=true:=fun k x t F L Z=>by
    refine c k x t F ?_ Z;by_cases r:j=k
    .subst r;omega
    .rw[getD_set_ne true r]at L;omega
   refine⟨l,g,U.mono fun UK O B=>⟨B.2.1,?_⟩⟩;refine Y (listed.setIfInBounds j true) UK O f (ready_mono K (fD a)) B.1 (fun X=>?_) Q ?_
   .have t:=B.2.1;unfold Kx at t
    split at t
    .grind
    .exact t (Pw E g a X m)
   .rw[Array.setIfInBounds_comm _ _ a]
    grind
def lW(ops:Array Oper):List Nat->Array Bool->Bool
 |[],listed=>(Region.ready .any ops listed).isEmpty
 |i::π,listed=>match ops[i]? with
  |some o=>(if aL o.op then(Region.ready .any ops listed).contains i&&Region.free .any ops listed i else Region.ready .any ops listed==[i])&&lW ops π (listed.setIfInBounds i true)
  |none=>false
def Nv(B:List Nat):LV->Prop
 |.pt l _=>l∈B
 |.ep _=>True
 |_=>False
def mP(a:af):Op->LV
 |.load _ x=>aI a x
 |.lookup _ x _ _=>Ql (aI a x)
 |.call { callee:=.builtin .len,args:=⟨x::_⟩,.. }=>Ql (aI a x)
 |_=>.ep []
def SB(B:List Nat)(a b:St):Prop:=∀ l∈B,b.H l=a.H l
def eE(P:Program)(T:az)(ops:Array Oper)(M B:List Nat)(a:St)(J:af->St->Prop):List (Nat×Bool×Oper)->af->St->Prop
 |[],fr,st=>J fr st
 |(_,nd,o)::π,fr,st=>match aL o.op with
  |true=>match bB ops fr o.guard with
   |some b=>(b=true->((eX o.op=true->SB B a st)/\Nv B (mP fr o.op)/\match fy T (jr M o.dst) o fr st with
     |some r=>r.c/\eE P T ops M B a J π (bL fr o.dst r.v) st
     |none=>False))/\(b=false->(eX o.op=true->SB B a st)/\eE P T ops M B a J π (bL fr o.dst (.tu [])) st)
   |none=>False
  |false=>iG P T ops M o (fun UK d=>(nd=true->SB B a d)/\eE P T ops M B a J π UK d) fr st
theorem nU{o:Oper}{g:af}{m:Bool}{A e:St}{r:bS}(w:aL o.op=true)(C:∀ l k,mP g o.op=.pt l k->e.H l=A.H l)(h:fy T m o g A=some r):
 fy T m o g e=some (@bS.mk r.c r.v e r.d):=by
 obtain⟨J,D,U,O,after,guard⟩:=o;simp only at w C;cases D<;>simp only[aL,iv]at w<;>simp only[fy]at h ⊢
 case move x=>simp only[ap]at h;subst h;rfl
 case assign x=>simp only[ap]at h;subst h;rfl
 case pick c a b=>
  split at h
  .simp only[ap]at h;subst h;rfl
  grind
 case binOp D t x y F=>
  unfold Hw at h ⊢
  split at h
  .simp only[jp]at h ⊢;obtain⟨p,R,rfl⟩:=h
   grind
  .split at h
   .simp only[ap]at h;subst h;rfl
   .simp only[ap]at h;subst h;rfl
   grind
  .split at h
   .split at h
    .simp only[ap]at h;subst h;grind
    .simp only[ap]at h;subst h;grind
    grind
   grind
  .split at h
   .simp only[ap]at h;subst h;grind
   .simp only[ap]at h;subst h;grind
   grind
  .split at h
   .simp only[ap]at h;subst h;grind
   .simp only[ap]at h;subst h;grind
   grind
  .split at h
   .simp only[ap]at h;subst h;grind
   .simp only[ap]at h;subst h;grind
   grind
  .split at h
   .simp only[ap]at h;subst h;grind
   .simp only[ap]at h;subst h;grind
   grind
  grind
 case unOp D t x=>
  unfold VZ at h ⊢
  split at h
  .simp only[ap]at h;subst h;rfl
  .simp only[ap]at h;subst h;rfl
  grind
 case convert s d x=>
  split at h
  .simp only[ap]at h;subst h;rfl
  grind
 case load t x=>
  unfold CM at h ⊢;have q:eN e (aI g x)=eN A (aI g x):=by
   cases z:aI g x with
   |pt l k=>simp only[eN];rw[C l k z]
   |_=>rfl
  rw[q]
  split at h
  .split at h
   .simp only[ap]at h;subst h;grind
   .simp only[ap]at h;subst h;grind
  grind
 case indexAddr t x i=>
  unfold PN at h ⊢
  split at h
  .split at h
   .split at h
    .simp only[ap]at h;subst h;rfl
    .split at h
     .simp only[ap]at h;subst h;grind
     grind
   grind
  grind
 case fieldAddr t x f=>
  unfold lN at h ⊢
  split at h
  .split at h
   .split at h
    .split at h
     .simp only[ap]at h;subst h;grind
     .simp only[ap]at h;subst h;grind
     .simp only[ap]at h;subst h;rfl
     grind
    grind
   grind
  grind
 case field t x f=>
  unfold Bj at h ⊢
  split at h
  .split at h
   .split at h
    .split at h
     .simp only[ap]at h;subst h;grind
     .simp only[ap]at h;subst h;grind
    grind
   grind
  grind
 case slice t x lo hi mx=>
  unfold As at h ⊢
  split at h
  .split at h
   .split at h
    .split at h
     .split at h
      .simp only[ap]at h;subst h;grind
      grind
     .split at h
      .simp only[ap]at h;subst h;grind
      grind
     .split at h
      .simp only[ap]at h;subst h;grind
      grind
     .split at h
      .simp only[ap]at h;subst h;grind
      grind
     .split at h
      .split at h
       .simp only[ap]at h;subst h;grind
       grind
      grind
    .split at h
     .simp only[ap]at h;subst h;grind
     .split at h
      .simp only[ap]at h;subst h;grind
      .simp only[ap]at h;subst h;grind
      grind
     grind
    grind
   grind
  grind
 case extract x i=>
  split at h
  .split at h
   .simp only[ap]at h;subst h;grind
   grind
  grind
 case nilCheck x=>
  split at h
  .simp only[ap]at h;subst h;rfl
  .simp only[ap]at h;subst h;rfl
  grind
 case index t x i=>
  unfold Ek at h ⊢
  split at h
  .simp only[ap]at h;subst h;grind
  grind
 case lookup t x i ok=>
  unfold vF at h ⊢;have q:∀ l,aI g x=.mp l->e.H l=A.H l:=fun l L=>C l 0 (by grind [mP,Ql])
  split at h
  .split at h
   .split at h
    .rename_i l z;have w:=q l z
     split at h
     .rename_i K;simp only[ap]at h;subst h;simp_all
     grind
    .simp only[ap]at h;subst h;grind
    grind
   grind
  grind
 case makeFunc f first IQ=>
  split at h
  .simp only[ap]at h;subst h;grind
  grind
 case call c=>
  obtain⟨callee,args,Q⟩:=c;unfold EF at h ⊢
  split at h<;>rename_i E _<;>(try simp only at E)
  .rename_i x F S j I;simp only at j I
   have q:∀ l,aI g x=.mp l->e.H l=A.H l:=fun l L=>C l 0 (by
    have B:args=#[x]:=Array.ext' E
    grind [mP,Ql])
   cases n:nI T F with
   |some p=>
    simp only[n]at h ⊢;unfold Tp at h ⊢;simp only[n]at h ⊢
    split at h
    .rename_i l _ z;have w:=q l z
     split at h
     .rename_i K;simp only[ap]at h;subst h;simp_all
     grind
    grind
   |none=>
   simp only[n]at h ⊢;unfold Vp at h ⊢
   split at h
   .split at h
    .simp only[ap]at h;subst h;grind
    .simp only[ap]at h;subst h;grind
    .split at h
     .simp only[ap]at h;subst h;grind
     grind
   grind
  .unfold TV at h ⊢
   split at h
   .simp only[ap]at h;subst h;grind
   grind
  .unfold Uw at h ⊢
   split at h
   .simp only[ap]at h;subst h;grind
   grind
  all_goals (first|(exfalso;revert w;simp_all[aL];done)|(simp at h;done)|(exfalso;simp_all[aL];done))
theorem ET{b:af}{a:Op}{l k:Nat}(h:mP b a=.pt l k):eX a=true:=by
 unfold mP at h
 split at h
 .rfl
 .rfl
 .rfl
 grind
theorem CD{B:List Nat}{z:St}{J:af->St->Prop}:∀(g:List (Nat×Bool×Oper)) (listed:Array Bool) (e:af) (f:St),(∀ p∈g,ops[p.1]?=some p.2.2/\(kC ops p.1=true->p.2.1=true))->lW ops (g.map (·.1)) listed=true->
 eE P T ops M B z J g e f->jR P T ops M (SB B z) J g.length listed e f
 |[],listed,e,f,_,a,h=>by simp only[np,lW,List.isEmpty_iff]at a;exact⟨a,h⟩
 |(i,nd,o)::g,listed,e,f,hp,a,h=>by
  obtain⟨n,L⟩:ops[i]?=some o/\(kC ops i=true->nd=true):=hp (i,nd,o) sS;simp only[ax,lW,n,fw]at a
  have F:∀ e f,(∀ p∈g,ops[p.1]?=some p.2.2/\(kC ops p.1=true->p.2.1=true))->lW ops (g.map (·.1)) (listed.setIfInBounds i true)=true->eE P T ops M B z J g e f->jR P T ops M (SB B z) J g.length (listed.setIfInBounds i true) e f:=
   fun e f=>CD g (listed.setIfInBounds i true) e f
  have A:∀ p∈g,ops[p.1]?=some p.2.2/\(kC ops p.1=true->p.2.1=true):=fun p R=>hp p (by grind);unfold eE at h;cases q:aL o.op with
  |true=>
   simp only[q,dE,fw]at a h;obtain⟨⟨t,s⟩,a⟩:=a;cases E:bB ops e o.guard with
   |none=>simp_all
   |some b=>
    rw[E]at h;cases b with
    |false=>exact jE n _ listed e f (Region.free_spec n s) (by grind) (.inr ⟨E,rfl⟩) (h.2 rfl).1 q (F _ _ A a (h.2 rfl).2)
    |true=>
     obtain⟨H,m,C⟩:=h.1 rfl
     split at C
     .rename_i r O;refine jE n _ listed e f (Region.free_spec n s) (by grind) (.inl ⟨E,q,fun x D=>?_⟩) H q (F _ _ A a C.2);refine⟨@bS.mk r.c r.v x r.d,nU q (fun l k I=>?_) O,C.1,rfl,rfl⟩;rw[I]at m;have y:eX o.op=true:=ET I;rw[D y l m,H y l m]
     grind
  |false=>
   simp only[q,iv,gx]at a h;obtain⟨t,a⟩:=a;have w:Region.ready .any ops listed=[i]:=by simpa using t
   refine⟨fun Q=>(by grind),fun j K=>?_⟩;rw[w]at K;obtain rfl:j=i:=by grind
   refine⟨o,n,h.mono fun UK x y=>⟨?_,F _ _ A a y.2⟩⟩
   grind [Kx]
def pick(ops:Array Oper)(a:List (Nat×Bool)):List (Nat×Bool×Oper):=a.filterMap fun p=>(ops[p.1]?).map fun o=>(p.1,p.2,o)
theorem Nh(n:aZ P T)(M B:List Nat)(d:List (Nat×Bool)){Q:AQ}{id:Nat}{c:af}{b:St}(v:P.follows .mixedOrders=true)(t:cR N ops ops.toList=true)
 (j:(lW ops ((pick ops d).map (·.1)) (Array.replicate ops.size false)&&((pick ops d).length==ops.size)&&(d.all fun p=>!kC ops p.1||p.2))=true)
 (h:∀ J:af->St->Prop,(∀ c b,Q .normal c b->J c b)->eE P T ops M B b J (pick ops d) c b):bq P N (.region id ops true) Q c b:=by
 intro a w g s A C r;simp only[fw,rl]at j;obtain⟨⟨k,l⟩,hπ3⟩:=j;refine wp_region_any v ?_;have f:∀ p∈pick ops d,ops[p.1]?=some p.2.2/\(kC ops p.1=true->p.2.1=true):=by intro p f;unfold pick at f;simp only[List.mem_filterMap,jp]at f;obtain⟨q,z,o,y,rfl⟩:=f;refine⟨y,fun x=>?_⟩;rw[kw]at hπ3;have:=hπ3 q z;simpa[x]using this
 have m:=CD (pick ops d) (Array.replicate ops.size false) c b f k (h (fun c b=>Q .normal c b) (fun _ _ h=>h));rw[l]at m;have e:Ext w g { w with drawn:=w.drawn+1 } g:=eC w g;exact oW n t (fun _ _ h=>h) _ _ c b a { w with drawn:=w.drawn+1 } g s.drew (A.mono e) C r e m
def NJ(P:Program)(T:az)(ops:Array Oper)(M B:List Nat)(e:St)(J:af->St->Prop)(f:List (Nat×Bool×Oper))(o:Oper)(d:af)(a:St):Option Bool->Prop
 |some b=>(b=true->((eX o.op=true->SB B e a)/\Nv B (mP d o.op)/\match fy T (jr M o.dst) o d a with
   |some r=>r.c/\eE P T ops M B e J f (bL d o.dst r.v) a
   |none=>False))/\(b=false->(eX o.op=true->SB B e a)/\eE P T ops M B e J f (bL d o.dst (.tu [])) a)
 |none=>False
def ZK(P:Program)(T:az)(ops:Array Oper)(M B:List Nat)(b:St)(J:af->St->Prop)(e:List (Nat×Bool×Oper))(o:Oper)(a:af)(d:St):Option bS->Prop
 |some r=>r.c/\eE P T ops M B b J e (bL a o.dst r.v) d
 |none=>False
def Yi(P:Program)(T:az)(ops:Array Oper)(M B:List Nat)(a:St)(J:af->St->Prop)(e:List (Nat×Bool×Oper))(d:Bool)(o:Oper)(b:af):Option bS->Prop
 |some r=>r.c/\(d=true->SB B a r.s)/\eE P T ops M B a J e (bL b o.dst r.v) r.s
 |none=>False
def BP(P:Program)(T:az)(ops:Array Oper)(M B:List Nat)(b:St)(J:af->St->Prop)(h:List (Nat×Bool×Oper))(e:Bool)(d:Option Nat)(c:af)(g:St)(f:FuncId)(args:List LV):Prop:=
 ∃ R,aB P f args g R/\∀ r a,R r a->(e=true->SB B b a)/\eE P T ops M B b J h (bL c d r) a
def Yu(P:Program)(T:az)(ops:Array Oper)(M B:List Nat)(b:St)(J:af->St->Prop)(g:List (Nat×Bool×Oper))(c:Bool)(d:Option Nat)(a:af)(e:St)(args:List LV):Option (FuncId×List LV)->Prop
 |some (f,IQ)=>BP P T ops M B b J g c d a e f (args++IQ)
 |none=>False
def Wc(P:Program)(T:az)(ops:Array Oper)(M B:List Nat)(b:St)(J:af->St->Prop)(e:List (Nat×Bool×Oper))(c:Bool)(o:Oper)(a:af)(d:St):Prop:=
 match o.op with
 |.call { callee:=.value x,args:=args,argTypes:=_ }=>Yu P T ops M B b J e c o.dst a d (args.toList.map (aI a)) (eZ (aI a x))
 |_=>Yi P T ops M B b J e c o a (fy T (jr M o.dst) o a d)
def Jv(P:Program)(T:az)(ops:Array Oper)(M B:List Nat)(a:St)(J:af->St->Prop)(f:List (Nat×Bool×Oper))(e:Bool)(o:Oper)(d:af)(c:St):Option Bool->Prop
 |some b=>(b=true->Wc P T ops M B a J f e o d c)/\(b=false->(e=true->SB B a c)/\eE P T ops M B a J f (bL d o.dst (.tu [])) c)
 |none=>False
def QT(P:Program)(T:az)(ops:Array Oper)(M B:List Nat)(b:St)(J:af->St->Prop)(d:List (Nat×Bool×Oper))(e:Bool)(o:Oper)(a:af)(c:St):Bool->Prop
 |true=>NJ P T ops M B b J d o a c (bB ops a o.guard)
 |false=>Jv P T ops M B b J d e o a c (bB ops a o.guard)
variable {B:List Nat} {j8:St} {J:af->St->Prop} {π:List (Nat×Bool×Oper)} {nd:Bool} {o:Oper} {fr:af} {st:St} {d:Option Nat}
theorem Yt:eE P T ops M B j8 J [] fr st=J fr st:=rfl
theorem Wb(i:Nat):eE P T ops M B j8 J ((i,nd,o)::π) fr st=QT P T ops M B j8 J π nd o fr st (aL o.op):=by
 unfold eE;cases a:aL o.op with
 |true=>simp only[QT];cases bB ops fr o.guard<;>rfl
 |false=>
  simp only[QT];unfold iG;cases bB ops fr o.guard with
  |none=>rfl
  |some b=>
   simp only[Jv]
   congr 1
theorem Ti:QT P T ops M B j8 J π nd o fr st true=NJ P T ops M B j8 J π o fr st (bB ops fr o.guard):=rfl
theorem XU:QT P T ops M B j8 J π nd o fr st false=Jv P T ops M B j8 J π nd o fr st (bB ops fr o.guard):=rfl
theorem G9:NJ P T ops M B j8 J π o fr st (some true)=((eX o.op=true->SB B j8 st)/\Nv B (mP fr o.op)/\ZK P T ops M B j8 J π o fr st (fy T (jr M o.dst) o fr st)):=by simp only[NJ,forall_const,Bool.true_eq_false,false_implies,rm];cases fy T (jr M o.dst) o fr st<;>rfl
theorem G7:NJ P T ops M B j8 J π o fr st (some false)=((eX o.op=true->SB B j8 st)/\eE P T ops M B j8 J π (bL fr o.dst (.tu [])) st):=by simp[NJ]
theorem d_a(r:bS):ZK P T ops M B j8 J π o fr st (some r)=(r.c/\eE P T ops M B j8 J π (bL fr o.dst r.v) st):=rfl
theorem F4:Jv P T ops M B j8 J π nd o fr st (some true)=Wc P T ops M B j8 J π nd o fr st:=by simp[Jv]
theorem G4:Jv P T ops M B j8 J π nd o fr st (some false)=((nd=true->SB B j8 st)/\eE P T ops M B j8 J π (bL fr o.dst (.tu [])) st):=by simp[Jv]
theorem d_l(r:bS):Yi P T ops M B j8 J π nd o fr (some r)=(r.c/\(nd=true->SB B j8 r.s)/\eE P T ops M B j8 J π (bL fr o.dst r.v) r.s):=rfl
theorem YA(f:FuncId)(IQ args:List LV):Yu P T ops M B j8 J π nd d fr st args (some (f,IQ))=BP P T ops M B j8 J π nd d fr st f (args++IQ):=rfl
theorem bM(h:eE P T ops M B j8 J π fr st):eE P T ops M B j8 J π fr st:=h
theorem aO{f:FuncId}{args:List LV}{R:LV->St->Prop}(h:aB P f args st R)(b:∀ r a,R r a->(nd=true->SB B j8 a)/\eE P T ops M B j8 J π (bL fr d r) a):BP P T ops M B j8 J π nd d fr st f args:=⟨R,h,b⟩
theorem sH(p:Nat×Bool)(l:List (Nat×Bool)):pick ops (p::l)=match ops[p.1]? with|some o=>(p.1,p.2,o)::pick ops l|none=>pick ops l:=by unfold pick;simp only[List.filterMap_cons];cases ops[p.1]?<;>rfl
theorem Iw:pick ops []=[]:=rfl
theorem XN:SB [] j8 st=True:=by simp[SB]
theorem VL(b:Nat)(l:List Nat):SB (b::l) j8 st=(st.H b=j8.H b/\SB l j8 st):=by simp[SB]
end
end Aw
end Go.Proofs.YtbgngpdonpeboaaGreatDoor
