/- Lemmas. -/
import Derived.Test.YtbgngpdonpeboaaGreatDoorAwDraw
set_option linter.defProp false
namespace Go.Proofs.YtbgngpdonpeboaaGreatDoor
namespace Aw
open Go Go.RowKit
mutual
def XW:LV->LV->Bool
 |.dead,.dead=>true
 |.nil,.nil=>true
 |.emp,.emp=>true
 |.atom (.int k a),.atom (.int k' b)=>k==k'&&a==b
 |.atom (.bool a),.atom (.bool b)=>a==b
 |.sl t n cs,.sl t' n' cs'=>t==t'&&n==n'&&yA cs cs'
 |.ms l o n,.ms l' o' n'=>l==l'&&o==o'&&n==n'
 |.ag cs,.ag cs'=>yA cs cs'
 |.pt l o,.pt l' o'=>l==l'&&o==o'
 |.ep cs,.ep cs'=>yA cs cs'
 |.mp l,.mp l'=>l==l'
 |.fn (.func f) cs,.fn (.func f') cs'=>f==f'&&yA cs cs'
 |.tu cs,.tu cs'=>yA cs cs'
 |_,_=>false
def yA:QQ->QQ->Bool
 |[],[]=>true
 |a::as1,b::bs=>XW a b&&yA as1 bs
 |_,_=>false
end
mutual
theorem Ca:∀(a b:LV),XW a b=true->a=b
 |a,b,h=>by
  unfold XW at h
  split at h
  .rfl
  .rfl
  .rfl
  .grind
  .grind
  .simp at h;obtain⟨⟨rfl,rfl⟩,h⟩:=h;rw[gM _ _ h]
  .grind
  .rw[gM _ _ h]
  .grind
  .rw[gM _ _ h]
  .grind
  .simp at h;obtain⟨rfl,h⟩:=h;rw[gM _ _ h]
  .rw[gM _ _ h]
  grind
theorem gM:∀(a b:QQ),yA a b=true->a=b
 |a,b,h=>by
  unfold yA at h
  split at h
  .rfl
  .simp at h;rw[Ca _ _ h.1,gM _ _ h.2]
  grind
end
def FC:List (PP×LV)->List (PP×LV)->Bool
 |[],[]=>true
 |p::a,q::b=>p.1==q.1&&XW p.2 q.2&&FC a b
 |_,_=>false
theorem Ad:∀ a b,FC a b=true->a=b
 |[],[],_=>rfl
 |p::a,q::b,h=>by
  simp only[FC,gg,ud]at h;rw[Ad a b h.2]
  grind [Ca]
 |[],_::_,h=>by grind [FC]
 |_::_,[],h=>by grind [FC]
def Lx:cT->cT->Bool
 |.dead,.dead=>true
 |.own e s n,.own e' s' n'=>e==e'&&s==s'&&n==n'
 |.box e s cs,.box e' s' cs'=>e==e'&&s==s'&&yA cs cs'
 |.map ag ks es,.map ag' ks' es'=>ag==ag'&&decide (ks=ks')&&FC es es'
 |_,_=>false
theorem Gv(a b:cT)(h:Lx a b=true):a=b:=by
 unfold Lx at h
 split at h
 .rfl
 .grind
 .grind [gM]
 .grind [Ad]
 grind
abbrev lH:=FuncId->QQ->St->Option (List (LV×St))
def LD{b c:Type}(f:b->Option (List c)):List b->Option (List c)
 |[]=>some []
 |a::l=>match f a with
  |some x=>match LD f l with
   |some y=>some (x++y)
   |none=>none
  |none=>none
theorem lZ{e g:Type}{f:e->Option (List g)}:∀ {l:List e} {r:List g},LD f l=some r->∀ a∈l,∃ x,f a=some x/\∀ b∈x,b∈r
 |[],r,_,a,d=>by grind
 |c::l,r,h,a,d=>by
  simp only[LD]at h
  split at h
  .rename_i x n
   split at h
   .rename_i y j;injection h with h;subst h;rcases ai.1 d with rfl|d
    .grind
    .obtain⟨z,k,m⟩:=lZ j a d
     grind
   grind
  grind
def MP(T:bg)(o:Oper)(a:ah)(b:St):Option (LV×St):=
 match fX T o.dst.isSome o a b with
 |some r=>if @decide r.c r.d then some (r.v,r.s)else none
 |none=>none
variable{a:Array Oper}{f:FuncId}{B L M:List Nat}{rest:List Oper}{N:Nat}{o:Oper}{P:Program}{d:St}{b:ah}{J:ah->St->Prop}{T:bg}
def vS{a:St}{v:LV}(h:MP T o b d=some (v,a)):∃ r,fX T o.dst.isSome o b d=some r/\r.c/\r.v=v/\r.s=a:=by
 grind [MP]
def Qz:Option (LV×St)->Option (List (LV×St))
 |some p=>some [p]
 |none=>none
def WS(call:lH)(x:Operand)(args:Array Operand)(a:ah)(b:St):Option (List (LV×St)):=
 match gG (aM a x) with
 |some (f,Kz)=>call f ((args.toList.map (aM a))++Kz) b
 |none=>none
def YX(T:bg)(call:lH)(o:Oper)(b:ah)(a:St):Option (List (LV×St)):=
 match o.op with
 |.call { callee:=.value x,args:=args,argTypes:=_ }=>WS call x args b a
 |_=>match wX T o b with
  |some (ng,n)=>if n=0 then some [(.atom (.bool (false != ng)),a),(.atom (.bool (true != ng)),a)]else some [(.atom (.bool (false != ng)),a)]
  |none=>Qz (MP T o b a)
def QA(T:bg)(call:lH)(a:Array Oper):List Oper->ah->St->Option (List (ah×St))
 |[],fr,st=>some [(fr,st)]
 |o::rest,fr,st=>match bG a fr o.guard with
  |some true=>match YX T call o fr st with
   |some b=>LD (fun p=>QA T call a rest (bR fr o.dst p.1) p.2) b
   |none=>none
  |some false=>QA T call a rest (bR fr o.dst (.tu [])) st
  |none=>none
def rR(P:Program)(call:lH):Prop:=∀ f args c b,call f args c=some b->aD P f args c fun d a=>(d,a)∈b
def zG{d:Option Nat}(h:rW N d=true):kn (List.range N) d=d.isSome:=by
 cases d with
 |none=>rfl
 |some d=>grind [rW,kn]
def MB{x:Operand}{args:Array Operand}{c:Array TypeId}(e:o.op=.call { callee:=.value x,args:=args,argTypes:=c }):
 yH P T N a M J rest o b d=NJ P T N a M J rest o.dst b d (args.toList.map (aM b)) (gG (aM b x)):=by
 grind [yH]
def LX(Tv:∀(x:Operand) (args:Array Operand) (c:Array TypeId),o.op=.call { callee:=.value x,args:=args,argTypes:=c }->False):
 yH P T N a M J rest o b d=En P T N a M J rest o b d (wX T o b):=by
 grind [yH]
theorem CX{P:Program}{T:bg}{call:lH}{ops:Array Oper}{N:Nat}(A:rR P call){R:List (ah×St)}:∀(rest:List Oper) (d:ah) (g:St) (L:List (ah×St)),dJ N ops rest=true->QA T call ops rest d g=some L->(∀ p∈L,p∈R)->
 cV P T N ops (List.range N) (fun f s=>(f,s)∈R) rest d g
 |[],d,g,L,_,h,hR=>by simp only[QA,ap]at h;subst h;exact hR _ Y
 |o::rest,d,g,L,hk,h,hR=>by
  simp only[dJ,List.all_cons,gg]at hk;obtain⟨⟨C,_⟩,hk⟩:=hk;have I:=CX (T:=T) (ops:=ops) (N:=N) A (R:=R) rest;have m:dJ N ops rest=true:=hk;rw[MY];simp only[QA]at h
  split at h
  .rename_i H;rw[H,TS]
   split at h
   .rename_i J a;have j:=lZ h;have z:∀ v c,(v,c)∈J->cV P T N ops (List.range N) (fun f s=>(f,s)∈R) rest (bR d o.dst v) c:=by intro v c D;obtain⟨x,k,l⟩:=j (v,c) D;exact I _ _ x m k (fun p E=>hR p (l p E))
    unfold YX at a
    split at a
    .rename_i x args K w;rw[MB w];unfold WS at a
     split at a
     .rename_i f Kz hf;rw[hf];exact⟨_,A _ _ _ _ a,fun r y F=>z r y F⟩
     grind
    .rename_i Tv;rw[LX Tv]
     split at a
     .rename_i M n q;rw[q]
      split at a
      .rename_i t;injection a with a;subst a;intro b B;cases b with
       |true=>grind
       |false=>grind
      .rename_i t;injection a with a;subst a;intro b B
       grind
     .rename_i q;rw[q];cases e:MP T o d g with
      |none=>grind [Qz]
      |some p=>obtain⟨v,c⟩:=p;rw[e]at a;simp only[Qz,ap]at a;subst a;obtain⟨r,k,l,rfl,rfl⟩:=vS e;simp only[En,zG C,k];exact⟨l,z _ _ Y⟩
   grind
  .grind [Nq]
  grind
def zc(B:PQ)(a b:St):Bool:=B.all fun l=>Lx (b.H l) (a.H l)
theorem RQ{a b:St}(h:zc B a b=true):SB B a b:=by
 intro l c
 grind [zc,Gv]
def UR:LV->Option (PQ)
 |.pt l _=>some [l]
 |.ep _=>some []
 |_=>none
def Je{x:LV}(h:UR x=some L)(a:∀ l∈L,l∈B):RL B x:=by
 unfold UR at h
 split at h
 .simp only[ap]at h;subst h;exact a _ Y
 .simp[RL]
 grind
def YT(T:bg)(call:lH)(o:Oper)(a:ah)(b:St):Option (List (LV×St)):=
 match o.op with
 |.call { callee:=.value x,args:=args,argTypes:=_ }=>WS call x args a b
 |_=>Qz (MP T o a b)
abbrev XD:=ah×St×PQ×List St
def MV(L:PQ)(S:List St):Option (List XD)->Option (List XD)
 |some (q::l)=>some ((q::l).map fun p=>(p.1,p.2.1,L++p.2.2.1,S++p.2.2.2))
 |_=>none
def PT{S:List St}{x:Option (List XD)}{r:List XD}(h:MV L S x=some r):∃ l,x=some l/\l≠[]/\∀ p∈l,(p.1,p.2.1,L++p.2.2.1,S++p.2.2.2)∈r:=by
 unfold MV at h
 grind
def Nb(a:Array Oper)(i:Nat):Bool:=match a[i]? with
 |some o=>aW o.op
 |none=>false
def JE(T:bg)(call:lH)(a:Array Oper):Nat->Array Bool->ah->St->Option (List XD)
 |0,listed,fr,st=>match Region.ready .any a listed with
  |[]=>some [(fr,st,[],[])]
  |_=>none
 |n+1,listed,fr,st=>match(Region.ready .any a listed).find? (fun i=>Nb a i&&Region.free .any a listed i) with
  |some i=>match a[i]? with
   |some o=>match bG a fr o.guard with
    |some true=>match UR (oE fr o.op),MP T o fr st with
     |some L,some (v,_)=>MV L (if gB o.op then [st]else []) (JE T call a n (listed.setIfInBounds i true) (bR fr o.dst v) st)
     |_,_=>none
    |some false=>MV [] (if gB o.op then [st]else []) (JE T call a n (listed.setIfInBounds i true) (bR fr o.dst (.tu [])) st)
    |none=>none
   |none=>none
  |none=>match Region.ready .any a listed with
   |[]=>some [(fr,st,[],[])]
   |rd=>LD (fun i=>match a[i]? with
    |some o=>if aW o.op then none else match bG a fr o.guard with
     |some true=>match YT T call o fr st with
      |some b=>LD (fun p=>MV [] (if lI a i then [p.2]else []) (JE T call a n (listed.setIfInBounds i true) (bR fr o.dst p.1) p.2)) b
      |none=>none
     |some false=>MV [] (if lI a i then [st]else []) (JE T call a n (listed.setIfInBounds i true) (bR fr o.dst (.tu [])) st)
     |none=>none
    |none=>none) rd
theorem Bu{P:Program}{T:bg}{call:lH}{a:Array Oper}{N:Nat}(hc:rR P call)(W:dJ N a a.toList=true){B:PQ}{j9:St}{R:List (ah×St)}:∀(n:Nat) (listed:Array Bool) (w:ah) (e:St) (L:List XD),
 JE T call a n listed w e=some L->(∀ p∈L,(p.1,p.2.1)∈R/\(∀ l∈p.2.2.1,l∈B)/\∀ s∈p.2.2.2,SB B j9 s)->lA P T a (List.range N) (SB B j9) (fun f s=>(f,s)∈R) n listed w e
 |0,listed,w,e,L,h,hR=>by
  simp only[JE]at h
  split at h
  .rename_i K;injection h with h;subst h;exact⟨K,(hR (w,e,[],[]) Y).1⟩
  grind
 |n+1,listed,w,e,L,h,hR=>by
  have ih:=Bu (T:=T) (N:=N) hc W (B:=B) (j9:=j9) (R:=R) n;have D:∀(i:Nat) (o:Oper),a[i]?=some o->rW N o.dst=true:=by intro i o m;unfold dJ at W;rw[lL]at W;have:=W o (Hb.2 (Do m));simp only[gg]at this;exact this.1
  have C:∀(x:Option (List XD)) (V:PQ) (S:List St) (r:List XD),MV V S x=some r->(∀ p∈r,(p.1,p.2.1)∈R/\(∀ l∈p.2.2.1,l∈B)/\∀ s∈p.2.2.2,SB B j9 s)->
   ∃ l,x=some l/\(∀ p∈l,(p.1,p.2.1)∈R/\(∀ l∈p.2.2.1,l∈B)/\∀ s∈p.2.2.2,SB B j9 s)/\(∀ q∈V,q∈B)/\∀ s∈S,SB B j9 s:=by
   intro x V S r j K;obtain⟨l,g,Tv,z⟩:=PT j;refine⟨l,g,fun p I=>?_,?_⟩
   .obtain⟨a1,a2,a3⟩:=K _ (z p I)
    grind
   .obtain⟨p,I⟩:=gv l Tv;obtain⟨_,a2,a3⟩:=K _ (z p I)
    grind
  simp only[JE]at h
  split at h
  .rename_i i hf;have A:=rl hf;have E:=qq hf;simp only[gg]at A
   split at h
   .rename_i o m;have F:aW o.op=true:=by have:=A.1;unfold Nb at this;rw[m]at this;exact this
    have hm:=zG (D i o m)
    split at h
    .rename_i M
     split at h
     .rename_i V v b hL j;obtain⟨l,g,z,b1,b2⟩:=C _ _ _ _ h hR;obtain⟨r,k1,k2,rfl,rfl⟩:=vS j;have hS:gB o.op=true->SB B j9 e:=fun H=>b2 e (by grind);refine jY m n listed w e (Region.free_spec m A.2) E (.inl ⟨M,F,fun t hS'=>?_⟩) hS F (ih _ _ _ l g z);have J:=Je hL b1;refine⟨@bV.mk r.c r.v t r.d,?_,k2,rfl,rfl⟩;rw[hm];refine qZ F (fun l' k Q=>?_) k1;rw[Q]at J;have H:gB o.op=true:=Hg Q;rw[hS' H l' J,hS H l' J]
     grind
    .rename_i M;obtain⟨l,g,z,b1,b2⟩:=C _ _ _ _ h hR;exact jY m n listed w e (Region.free_spec m A.2) E (.inr ⟨M,rfl⟩) (fun H=>b2 e (by grind)) F (ih _ _ _ l g z)
    grind
   grind
  .split at h
   .rename_i K;injection h with h;subst h;refine⟨fun _=>(hR (w,e,[],[]) Y).1,fun i hi=>by grind⟩
   .rename_i K;refine⟨fun h0=>absurd h0 K,fun i hi=>?_⟩;obtain⟨x,g,z⟩:=lZ h i hi
    split at g
    .rename_i o m;refine⟨o,m,?_⟩;have hm:=zG (D i o m)
     split at g
     .grind
     .rename_i F;have F:aW o.op=false:=by simpa using F
      have hKx:∀ t,(lI a i=true->SB B j9 t)->Kx a (SB B j9) i o e t:=by intro t H;unfold Kx;simp only[F,ir,gI];exact H
      unfold mU
      split at g
      .rename_i M;rw[M];refine⟨fun _=>?_,(fun hb=>by grind)⟩
       split at g
       .rename_i rs j;have X:=lZ g;have go:∀ v b,(v,b)∈rs->Kx a (SB B j9) i o e b/\lA P T a (List.range N) (SB B j9) (fun f s=>(f,s)∈R) n (listed.setIfInBounds i true) (bR w o.dst v) b:=by intro v b hmm;obtain⟨y,g1,g2⟩:=X (v,b) hmm;obtain⟨l,q1,q2,_,q4⟩:=C _ _ _ _ g1 (fun p I=>hR p (z p (g2 p I)));exact⟨hKx _ (fun H=>q4 b (by grind)),ih _ _ _ l q1 q2⟩
        unfold YT at j
        split at j
        .rename_i x' args tys hop;unfold WS at j
         split at j
         .rename_i f Kz hf';rw[hop];simp only[hf'];exact⟨_,hc _ _ _ _ j,fun r st2 hr'=>go r st2 hr'⟩
         grind
        .rename_i Tv;cases U:MP T o w e with
         |none=>grind [Qz]
         |some p=>
          obtain⟨v,b⟩:=p;rw[U]at j;simp only[Qz,ap]at j;subst j;obtain⟨r,k1,k2,rfl,rfl⟩:=vS U
          grind
       grind
      .rename_i M;rw[M];refine⟨(fun hb=>by grind),fun _=>?_⟩;obtain⟨l,q1,q2,_,q4⟩:=C _ _ _ _ g (fun p I=>hR p (z p I))
       grind
      grind
    grind
def Jp(T:bg)(a:ah)(b:St):List ResultVar->Option (QQ)
 |[]=>some []
 |r::rs=>match DV T a b r,Jp T a b rs with
  |some x,some l=>if @decide x.c x.d then some (x.v::l)else none
  |_,_=>none
theorem DN{T:bg}{b:ah}{e:St}:∀(a:List ResultVar) (l:QQ),Jp T b e a=some l->∃ c,xH T b e a=some (c,l)/\c
 |[],l,h=>by simp only[Jp,ap]at h;subst h;exact⟨True,rfl,trivial⟩
 |r::a,l,h=>by
  simp only[Jp]at h
  split at h
  .rename_i x k n j
   split at h
   .rename_i g;simp only[ap]at h;subst h;obtain⟨c,m,f⟩:=DN a k j;exact⟨x.c/\c,by grind [xH],@ov _ x.d g,f⟩
   grind
  grind
abbrev XR:=Exit×ah×St
def F5(T:bg)(a:List ResultVar)(p:XR):Option (List (LV×St)):=match p.1 with
 |.ret=>match Jp T p.2.1 p.2.2 a with
  |some l=>some [(one l,p.2.2)]
  |none=>none
 |.normal=>match Jp T p.2.1 p.2.2 a with
  |some l=>some [(one l,p.2.2)]
  |none=>none
 |_=>none
def Nh(T:bg)(a:List ResultVar):Option (List XR)->Option (List (LV×St))
 |some l=>LD (F5 T a) l
 |none=>none
def G7(a:St):Option (List XD)->Option (List (ah×St))
 |some l=>if l.all (fun p=>p.2.2.2.all (zc (l.flatMap fun q=>q.2.2.1) a))then some (l.map fun p=>(p.1,p.2.1))else none
 |none=>none
def Zt(T:bg)(call:lH)(N:Nat)(a:Array Oper)(d:Bool)(c:ah)(b:St):Option (List (ah×St)):=
 if dJ N a a.toList then
  match d with
  |false=>QA T call a a.toList c b
  |true=>G7 b (JE T call a a.size (Array.replicate a.size false) c b)
 else none
def YI(g:ah->St->Option (List XR))(p:XR):Option (List XR):=match p.1 with
 |.normal=>g p.2.1 p.2.2
 |_=>some [p]
def OK(g:ah->St->Option (List XR)):Option (List XR)->Option (List XR)
 |some l=>LD (YI g) l
 |none=>none
def Vx(id:Nat)(p:XR):XR:=match p.1 with
 |.exit i=>if i=id then(.normal,p.2)else p
 |_=>p
def noGoto(p:XR):Bool:=match p.1 with
 |.goto _=>false
 |_=>true
def kC(T:bg)(eg:FuncId->Option Func)(e:lH):Nat->Nat->Code->ah->St->Option (List XR)
 |0,_,_,_,_=>none
 |n+1,N,c,fr,d=>match c with
  |.skip=>some [(.normal,fr,d)]
  |.label _=>some [(.normal,fr,d)]
  |.exit i=>some [(.exit i,fr,d)]
  |.ret=>some [(.ret,fr,d)]
  |.seq a b=>OK (fun h g=>kC T eg e n N b h g) (kC T eg e n N a fr d)
  |.block id c=>match kC T eg e n N c fr d with
   |some l=>some (l.map (Vx id))
   |none=>none
  |.scope c=>match kC T eg e n N c fr d with
   |some l=>if l.all noGoto then some l else none
   |none=>none
  |.cond x a b=>match aM fr x with
   |.atom (.bool true)=>kC T eg e n N a fr d
   |.atom (.bool false)=>kC T eg e n N b fr d
   |_=>none
  |.loop c=>OK (fun h g=>kC T eg e n N (.loop c) h g) (kC T eg e n N c fr d)
  |.region _ ops dr=>match Zt T (fun f args d=>match e f args d with
    |some r=>some r
    |none=>match eg f with
     |some fn=>match fn.body with
      |some c=>if args.length<=fn.ntmps then Nh T fn.results.toList (kC T eg e n fn.ntmps c (vY args) d)else none
      |none=>none
     |none=>none) N ops dr fr d with
   |some l=>some (l.map fun p=>(.normal,p.1,p.2))
   |none=>none
  |_=>none
def Af(T:bg)(eg:FuncId->Option Func)(a:lH)(n:Nat):lH:=fun f args b=>match a f args b with
 |some r=>some r
 |none=>match eg f with
  |some fn=>match fn.body with
   |some c=>if args.length<=fn.ntmps then Nh T fn.results.toList (kC T eg a n fn.ntmps c (vY args) b)else none
   |none=>none
  |none=>none
def FN(P:Program)(eg:FuncId->Option Func):Prop:=∀ f fn,eg f=some fn->P.funcs[f]?=some fn/\(fn.name== "runtime.NumGoroutine")=false
section
variable {P:Program} {T:bg} {eg:FuncId->Option Func} {pr:lH}
def lK(L:List XR):AQ:=fun e f s=>(e,f,s)∈L
theorem tV(x:bE P T)(hf:FN P eg)(B:rR P pr){n:Nat}(D:∀ N c r j L,kC T eg pr n N c r j=some L->bq P N c (lK L) r j):rR P (Af T eg pr n):=by
 intro f args j F h;unfold Af at h
 split at h
 .rename_i q C;injection h with h;subst h;exact B _ _ _ _ C
 split at h
 .rename_i fn o;obtain⟨v,w⟩:=hf f fn o
  split at h
  .rename_i c z
   split at h
   .rename_i d;cases t:kC T eg pr n fn.ntmps c (vY args) j with
    |none=>grind [Nh]
    |some L=>
     rw[t]at h;simp only[Nh]at h;have k:=lZ h;refine qO x v z w rfl rfl d (dR (D _ _ _ _ _ t) ?_);intro e b a A;obtain⟨y,m,H⟩:=k (e,b,a) A;rw[wW];have g:(match Jp T b a fn.results.toList with|some l=>some [(one l,a)]|none=>none)=some y->BA T (fun E p=>(E,p)∈F) b a fn.results.toList:=by
      intro s;cases I:Jp T b a fn.results.toList with
      |none=>grind
      |some l=>
       grind [DN,BA]
     unfold F5 at m;cases e with
     |normal=>exact g m
     |ret=>exact g m
     |_=>grind
   grind
  grind
 grind
theorem Dw{g:ah->St->Option (List XR)}{x:Option (List XR)}{L:List XR}(h:OK g x=some L):∃ l,x=some l/\∀ p∈l,(∃ y,YI g p=some y/\∀ q∈y,q∈L):=by
 unfold OK at h
 grind [lZ]
theorem Me{N:Nat}{d:Array Oper}{M:PQ}{J l:ah->St->Prop}(m:∀ f s,J f s->l f s):∀(rest:List Oper) (e:ah) (g:St),cV P T N d M J rest e g->cV P T N d M l rest e g:=by
 intro rest;induction rest with
 |nil=>intro e g h;exact m _ _ h
 |cons o rest c=>
  intro e g b;rw[MY]at b ⊢;unfold CG at b ⊢
  split at b
  .refine⟨fun j=>?_,fun j=>c _ _ (b.2 j)⟩;have a:=b.1 j;unfold yH at a ⊢
   split at a
   .unfold NJ at a ⊢
    split at a
    .obtain⟨R,p,q⟩:=a;exact⟨R,p,fun r k n=>c _ _ (q r k n)⟩
    omega
   .unfold En at a ⊢
    split at a
    .simp_all
    .unfold OU at a ⊢
     grind
  omega
theorem CR(hT:bE P T)(hf:FN P eg)(A:rR P pr)(hm:P.follows .mixedOrders=true):∀(n N:Nat) (c:Code) (v:ah) (t:St) (L:List XR),kC T eg pr n N c v t=some L->bq P N c (lK L) v t:=by
 intro n;induction n using Nat.strongRecOn with
 |ind n ihs=>
  intro N c v t L h;cases n with
  |zero=>grind [kC]
  |succ n=>
  have M:=ihs n (tj n);cases c with
  |skip=>simp only[kC,ap]at h;subst h;exact qK (Q:=lK _) (k:=[]) (by simp[wW,lK])
  |label l=>simp only[kC,ap]at h;subst h;exact Eh (Q:=lK _) (k:=[]) (by simp[wW,lK])
  |exit i=>simp only[kC,ap]at h;subst h;exact qX (Q:=lK _) (k:=[]) (by simp[wW,lK])
  |ret=>simp only[kC,ap]at h;subst h;exact qR (Q:=lK _) (k:=[]) (by simp[wW,lK])
  |seq x y=>
   refine qS (Q:=lK L) (k:=[]) ?_;simp only[kC]at h;obtain⟨l,o,I⟩:=Dw h;refine dR (M _ _ _ _ _ o) ?_;intro e C E j;obtain⟨z,D,V⟩:=I _ j;cases e with
   |normal=>rw[kO];exact dR (M _ _ _ _ _ D) (fun e f s K=>V _ K)
   |_=>injection D with D;subst D;exact V _ Y
  |block id x=>
   refine qB (Q:=lK L) (k:=[]) ?_;simp only[kC]at h
   split at h
   .rename_i l o;injection h with h;subst h;refine dR (M _ _ _ _ _ o) ?_;intro e C E j;have S:Vx id (e,C,E)∈l.map (Vx id):=ao.2 ⟨_,j,rfl⟩;cases e with
    |exit i=>
     rw[nQ];simp only[Vx]at S
     split
     .rename_i X;rw[ac X]at S;exact S
     .rename_i X;rw[aa X]at S;exact S
    |_=>exact S
   grind
  |scope x=>
   simp only[kC]at h
   split at h
   .rename_i l o
    split at h
    .rename_i F;injection h with h;subst h;refine QN (Q:=lK l) (k:=[]) (M _ _ _ _ _ o) ?_;intro k C E j;have:=lL.1 F _ j
     grind [noGoto]
    grind
   grind
  |cond x a b=>
   refine qC (Q:=lK L) (k:=[]) ?_;simp only[kC]at h
   split at h
   .rename_i o;rw[o,mY];exact⟨fun _=>M _ _ _ _ _ h,(fun hb=>by grind)⟩
   .rename_i o;rw[o,mY];exact⟨(fun hb=>by grind),fun _=>M _ _ _ _ _ h⟩
   grind
  |loop x=>
   refine qL (Q:=lK L) (k:=[]) (fun m v t=>m<=n+1/\∃ L',kC T eg pr m N (.loop x) v t=some L'/\∀ p∈L',p∈L) (n+1) ⟨au _,L,h,fun p A=>A⟩ ?_;rintro m fr1 st1 ⟨u7,L',hI,H⟩ J hJ;cases m with
   |zero=>grind [kC]
   |succ m=>
    have ihm:=ihs m O;simp only[kC]at hI;obtain⟨l,o,I⟩:=Dw hI;refine dR (ihm _ _ _ _ _ o) ?_;intro e C E j;obtain⟨z,D,V⟩:=I _ j;cases e with
    |normal=>rw[Gz];exact hJ m _ _ (tj m) ⟨O,z,D,fun p A=>H p (V p A)⟩
    |_=>injection D with D;subst D;exact H _ (V _ Y)
  |region id ops dr=>
   simp only[kC]at h;have r:rR P (Af T eg pr n):=tV hT hf A (fun N c v t L o=>M N c v t L o)
   split at h
   .rename_i l o;injection h with h;subst h;have d:Zt T (Af T eg pr n) N ops dr v t=some l:=o;have U:∀ f s,(f,s)∈l->lK (l.map fun p=>(Exit.normal,p.1,p.2)) .normal f s:=fun f s K=>ao.2 ⟨(f,s),K,rfl⟩;unfold Zt at d
    split at d
    .rename_i hk;cases dr with
     |false=>simp only at d;refine nE hT (List.range N) hk fun J hJ=>?_;exact Me (fun f s K=>hJ _ _ (U f s K)) _ _ _ (CX (N:=N) (R:=l) r _ _ _ l hk d (fun p A=>A))
     |true=>
      simp only at d;unfold G7 at d
      split at d
      .rename_i L1 hxa
       split at d
       .rename_i F;injection d with d;subst d;intro a w g X hr hs hd;refine wp_region_any hm ?_
        have hA:=Bu (N:=N) (B:=L1.flatMap fun q=>q.2.2.1) (j9:=t) (R:=L1.map fun p=>(p.1,p.2.1)) r hk _ _ v t L1 hxa (fun p A=>⟨ao.2 ⟨p,A,rfl⟩,fun l' hl'=>fu.2 ⟨p,A,hl'⟩,fun s hs'=>by
         grind [RQ]⟩)
        have W:Ext w g { w with drawn:=w.drawn+1 } g:=fA w g;exact rO hT hk (fun f s K=>U f s K) _ _ v t a { w with drawn:=w.drawn+1 } g X.drew (hr.mono W) hs hd W hA
       grind
      grind
    grind
   grind
  |_=>grind [kC]
end
def Kv:List (Nat×Func)->FuncId->Option Func
 |[],_=>none
 |p::l,f=>if f=p.1 then some p.2 else Kv l f
def N7(P:Program):List (Nat×Func)->Prop
 |[]=>True
 |p::l=>(P.funcs[p.1]?=some p.2/\(p.2.name== "runtime.NumGoroutine")=false)/\N7 P l
theorem Jf{P:Program}:∀(l:List (Nat×Func)),N7 P l->FN P (Kv l)
 |[],_,f,fn,h=>by grind [Kv]
 |p::l,ha,f,fn,h=>by
  simp only[Kv]at h
  split at h
  .rename_i hf;injection h with h;subst hf h;exact ha.1
  .exact Jf l ha.2 f fn h
def Gp{y:St}{R:Value->Prop}(h:aD P f [] ⟨1,fun _=>.dead⟩ fun r _=>∃ v,r=.atom v/\R v):aD P f [] y fun r q=>(∃ v,r=.atom v/\R v)/\q=y:=by
 refine⟨h.1,fun w g L d Q=>?_⟩;have t:Inv w ⟨1,fun _=>none,fun _=>0,fun _=>0,fun _=>false⟩ ⟨1,fun _=>.dead⟩:=by refine⟨rfl,by decide,fun _ _=>rfl,fun l a=>a.elim,fun l S a=>a.elim,fun l e s n a=>(by grind),fun l e s A a=>(by grind),fun l ag C B a=>(by grind),fun l e n a=>(by grind),wO (d.aside.glob.phi fun _ _ _ _ _=>rfl) fun _=>rfl⟩
 refine(h.2 w _ L t (by grind [aG])).mono ?_;rintro e D ⟨v,r,q,M,rfl,⟨K,rfl,x⟩,hrep,_,he⟩;have c:∀ b,b<w.heap.size->D.heap[b]?=w.heap[b]?:=fun b m=>(he.still b m rfl).2;have j:Ext w g D g:=by refine⟨he.os,he.tape,he.output,he.size,au _,fun _ _=>rfl,fun _ _=>rfl,fun _ _=>rfl,fun b m J=>⟨J,c b m⟩,fun b k m I=>⟨k,I,au _,fun o _=>World.cell?_of_block (w:=w) (c b m)⟩⟩
 refine⟨v,_,y,g,rfl,⟨⟨K,rfl,x⟩,rfl⟩,hrep,?_,j⟩;refine⟨d.z,d.pos,d.fresh,fun l a=>dc (d.lt l a) he.size,d.inj,?_,?_,?_,?_,d.aside.keep j fun _ _=>rfl⟩
 .intro l e s n a;obtain⟨E,F,H,N⟩:=d.own l e s n a
  grind
 .intro l e s A a;obtain⟨E,F,H⟩:=d.box l e s A a
  grind [aG.mono]
 .intro l ag C B a;have p:=d.mp l ag C B a;exact p.keep j (d.map_lt a) (c _ p.blk_lt) rfl
 .intro l e n a;have p:=d.qu l e n a;exact p.keep j (d.que_lt a) (c _ p.blk_lt) rfl
def H0(b:Bool)(p:LV×St):Bool:=match p.1 with
 |.atom (.bool c)=>c==b
 |_=>false
def Ss(r:Option (List (LV×St)))(b:Bool):Bool:=match r with
 |some l=>l.all (H0 b)
 |none=>false
def vI{eg:FuncId->Option Func}{e:lH}(j:bE P T)(hf:FN P eg)(k:rR P e)(o:P.follows .mixedOrders=true)(n:Nat)(b:Bool)
 (h:Ss (Af T eg e n f [] ⟨1,fun _=>.dead⟩) b=true):aD P f [] d fun r g=>r=.atom (.bool b)/\g=d:=by
 cases a:Af T eg e n f [] ⟨1,fun _=>.dead⟩ with
 |none=>grind [Ss]
 |some l=>
  rw[a]at h;simp only[Ss]at h;rw[lL]at h;have:=tV j hf k (fun N c m d L a=>CR j hf k o n N c m d L a) f [] _ l a;refine(Gp (R:=fun v=>v=.bool b) (this.mono ?_)).mono ?_
  .grind [H0]
  grind
end Aw
end Go.Proofs.YtbgngpdonpeboaaGreatDoor
