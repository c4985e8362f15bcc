/- An evaluator of calls whose arguments are written out; what it finds is so. No program is named here. -/
import Derived.Test.YtbgngpdonpeboaaGreatDoorAwDraw
import Derived.Tactics
set_option linter.defProp false
set_option linter.unusedVariables false
set_option linter.unusedSimpArgs false
namespace Go.Proofs.YtbgngpdonpeboaaGreatDoor
namespace Aw
open Go Go.RowKit
mutual
def Tb:LV->LV->Bool
 |.dead,.dead=>true
 |.nil,.nil=>true
 |.emp,.emp=>true
 |.atom (.int k a),.atom (.int k' b)=>k==k'&&a==b
 |.atom (.bool a),.atom (.bool b)=>a==b
 |.sl t n cs,.sl t' n' cs'=>t==t'&&n==n'&&vM cs cs'
 |.ms l o n,.ms l' o' n'=>l==l'&&o==o'&&n==n'
 |.ag cs,.ag cs'=>vM cs cs'
 |.pt l o,.pt l' o'=>l==l'&&o==o'
 |.ep cs,.ep cs'=>vM cs cs'
 |.mp l,.mp l'=>l==l'
 |.fn (.func f) cs,.fn (.func f') cs'=>f==f'&&vM cs cs'
 |.tu cs,.tu cs'=>vM cs cs'
 |_,_=>false
def vM:List LV->List LV->Bool
 |[],[]=>true
 |a::as1,b::bs=>Tb a b&&vM as1 bs
 |_,_=>false
end
mutual
theorem CT:∀(a b:LV),Tb a b=true->a=b
 |a,b,h=>by
  unfold Tb at h
  split at h
  .rfl
  .rfl
  .rfl
  .grind
  .grind
  .simp at h;obtain⟨⟨rfl,rfl⟩,h⟩:=h;rw[fF _ _ h]
  .grind
  .rw[fF _ _ h]
  .grind
  .rw[fF _ _ h]
  .grind
  .simp at h;obtain⟨rfl,h⟩:=h;rw[fF _ _ h]
  .rw[fF _ _ h]
  grind
theorem fF:∀(a b:List LV),vM a b=true->a=b
 |a,b,h=>by
  unfold vM at h
  split at h
  .rfl
  .simp at h;rw[CT _ _ h.1,fF _ _ h.2]
  grind
end
def EL:List (AN×LV)->List (AN×LV)->Bool
 |[],[]=>true
 |p::a,q::b=>p.1==q.1&&Tb p.2 q.2&&EL a b
 |_,_=>false
theorem yF:∀ a b,EL a b=true->a=b
 |[],[],_=>rfl
 |p::a,q::b,h=>by
  simp only[EL,fw,rl]at h;rw[yF a b h.2]
  grind [CT]
 |[],_::_,h=>by grind [EL]
 |_::_,[],h=>by grind [EL]
def Jw:cK->cK->Bool
 |.dead,.dead=>true
 |.own e s n,.own e' s' n'=>e==e'&&s==s'&&n==n'
 |.box e s cs,.box e' s' cs'=>e==e'&&s==s'&&vM cs cs'
 |.map ag ks es,.map ag' V6 es'=>ag==ag'&&decide (ks=V6)&&EL es es'
 |_,_=>false
theorem Ej(a b:cK)(h:Jw a b=true):a=b:=by
 unfold Jw at h
 split at h
 .rfl
 .grind
 .grind [fF]
 .grind [yF]
 grind
abbrev kH:=FuncId->List LV->St->Option (List (LV×St))
def Hu{b c:Type}(f:b->Option (List c)):List b->Option (List c)
 |[]=>some []
 |a::l=>match f a with
  |some x=>match Hu f l with
   |some y=>some (x++y)
   |none=>none
  |none=>none
theorem kR{e g:Type}{f:e->Option (List g)}:∀ {l:List e} {r:List g},Hu f l=some r->∀ a∈l,∃ x,f a=some x/\∀ b∈x,b∈r
 |[],r,_,a,d=>by grind
 |c::l,r,h,a,d=>by
  simp only[Hu]at h
  split at h
  .rename_i x n
   split at h
   .rename_i y j;injection h with h;subst h;rcases ah.1 d with rfl|d
    .grind
    .obtain⟨z,k,m⟩:=kR j a d
     grind
   grind
  grind
def KZ(T:az)(o:Oper)(a:af)(b:St):Option (LV×St):=
 match fy T o.dst.isSome o a b with
 |some r=>if @decide r.c r.d then some (r.v,r.s)else none
 |none=>none
def tK{T:az}{o:Oper}{b:af}{d a:St}{v:LV}(h:KZ T o b d=some (v,a)):∃ r,fy T o.dst.isSome o b d=some r/\r.c/\r.v=v/\r.s=a:=by
 grind [KZ]
def OL:Option (LV×St)->Option (List (LV×St))
 |some p=>some [p]
 |none=>none
def TU(call:kH)(x:Operand)(args:Array Operand)(a:af)(b:St):Option (List (LV×St)):=
 match eZ (aI a x) with
 |some (f,IQ)=>call f ((args.toList.map (aI a))++IQ) b
 |none=>none
def WB(T:az)(call:kH)(o:Oper)(b:af)(a:St):Option (List (LV×St)):=
 match o.op with
 |.call { callee:=.value x,args:=args,argTypes:=_ }=>TU call x args b a
 |_=>match tC T o b with
  |some (ng,n)=>if n=0 then some [(.atom (.bool (false != ng)),a),(.atom (.bool (true != ng)),a)]else some [(.atom (.bool (false != ng)),a)]
  |none=>OL (KZ T o b a)
def Oi(T:az)(call:kH)(a:Array Oper):List Oper->af->St->Option (List (af×St))
 |[],fr,st=>some [(fr,st)]
 |o::rest,fr,st=>match bB a fr o.guard with
  |some true=>match WB T call o fr st with
   |some b=>Hu (fun p=>Oi T call a rest (bL fr o.dst p.1) p.2) b
   |none=>none
  |some false=>Oi T call a rest (bL fr o.dst (.tu [])) st
  |none=>none
def oS(P:Program)(call:kH):Prop:=∀ f args c b,call f args c=some b->aB P f args c fun d a=>(d,a)∈b
def wI{N:Nat}{d:Option Nat}(h:pE N d=true):jr (List.range N) d=d.isSome:=by
 cases d with
 |none=>rfl
 |some d=>grind [pE,jr]
def Jt{P:Program}{T:az}{N:Nat}{a:Array Oper}{M:List Nat}{J:af->St->Prop}{rest:List Oper}{o:Oper}{b:af}{d:St}{x:Operand}{args:Array Operand}{c:Array TypeId}(e:o.op=.call { callee:=.value x,args:=args,argTypes:=c }):
 uP P T N a M J rest o b d=LW P T N a M J rest o.dst b d (args.toList.map (aI b)) (eZ (aI b x)):=by
 grind [uP]
def KD{P:Program}{T:az}{N:Nat}{a:Array Oper}{M:List Nat}{J:af->St->Prop}{rest:List Oper}{o:Oper}{b:af}{d:St}(e:∀(x:Operand) (args:Array Operand) (c:Array TypeId),o.op=.call { callee:=.value x,args:=args,argTypes:=c }->False):
 uP P T N a M J rest o b d=DM P T N a M J rest o b d (tC T o b):=by
 grind [uP]
theorem Cc{P:Program}{T:az}{call:kH}{ops:Array Oper}{N:Nat}(y:oS P call){R:List (af×St)}:∀(rest:List Oper) (d:af) (g:St) (L:List (af×St)),cR N ops rest=true->Oi T call ops rest d g=some L->(∀ p∈L,p∈R)->
 cG P T N ops (List.range N) (fun f s=>(f,s)∈R) rest d g
 |[],d,g,L,_,h,hR=>by simp only[Oi,ap]at h;subst h;exact hR _ sS
 |o::rest,d,g,L,hk,h,hR=>by
  simp only[cR,List.all_cons,fw]at hk;obtain⟨⟨D,_⟩,hk⟩:=hk;have J:=Cc (T:=T) (ops:=ops) (N:=N) y (R:=R) rest;have z:cR N ops rest=true:=hk;rw[KS];simp only[Oi]at h
  split at h
  .rename_i I;rw[I,Qo]
   split at h
   .rename_i K a;have j:=kR h;have w:∀ v c,(v,c)∈K->cG P T N ops (List.range N) (fun f s=>(f,s)∈R) rest (bL d o.dst v) c:=by intro v c E;obtain⟨x,k,l⟩:=j (v,c) E;exact J _ _ x z k (fun p F=>hR p (l p F))
    unfold WB at a
    split at a
    .rename_i x args M q;rw[Jt q];unfold TU at a
     split at a
     .rename_i f IQ hf;rw[hf];exact⟨_,y _ _ _ _ a,fun r t H=>w r t H⟩
     grind
    .rename_i B;rw[KD B]
     split at a
     .rename_i O n m;rw[m]
      split at a
      .rename_i A;injection a with a;subst a;intro b C;cases b with
       |true=>grind
       |false=>grind
      .rename_i A;injection a with a;subst a;intro b C
       grind
     .rename_i m;rw[m];cases e:KZ T o d g with
      |none=>grind [OL]
      |some p=>obtain⟨v,c⟩:=p;rw[e]at a;simp only[OL,ap]at a;subst a;obtain⟨r,k,l,rfl,rfl⟩:=tK e;simp only[DM,wI D,k];exact⟨l,w _ _ sS⟩
   grind
  .grind [LN]
  grind
def xc(B:List Nat)(a b:St):Bool:=B.all fun l=>Jw (b.H l) (a.H l)
theorem OZ{B:List Nat}{a b:St}(h:xc B a b=true):SB B a b:=by
 intro l c
 grind [xc,Ej]
def Qj:LV->Option (List Nat)
 |.pt l _=>some [l]
 |.ep _=>some []
 |_=>none
def Hl{B L:List Nat}{x:LV}(h:Qj x=some L)(a:∀ l∈L,l∈B):Nv B x:=by
 unfold Qj at h
 split at h
 .simp only[ap]at h;subst h;exact a _ sS
 .simp[Nv]
 grind
def WH(T:az)(call:kH)(o:Oper)(a:af)(b:St):Option (List (LV×St)):=
 match o.op with
 |.call { callee:=.value x,args:=args,argTypes:=_ }=>TU call x args a b
 |_=>OL (KZ T o a b)
abbrev XD:=af×St×List Nat×List St
def JR(L:List Nat)(S:List St):Option (List XD)->Option (List XD)
 |some (q::l)=>some ((q::l).map fun p=>(p.1,p.2.1,L++p.2.2.1,S++p.2.2.2))
 |_=>none
def Ow{L:List Nat}{S:List St}{x:Option (List XD)}{r:List XD}(h:JR L S x=some r):∃ l,x=some l/\l≠[]/\∀ p∈l,(p.1,p.2.1,L++p.2.2.1,S++p.2.2.2)∈r:=by
 unfold JR at h
 grind
def LF(a:Array Oper)(i:Nat):Bool:=match a[i]? with
 |some o=>aL o.op
 |none=>false
def Gb(T:az)(call:kH)(a:Array Oper):Nat->Array Bool->af->St->Option (List XD)
 |0,listed,fr,st=>match Region.ready .any a listed with
  |[]=>some [(fr,st,[],[])]
  |_=>none
 |n+1,listed,fr,st=>match(Region.ready .any a listed).find? (fun i=>LF a i&&Region.free .any a listed i) with
  |some i=>match a[i]? with
   |some o=>match bB a fr o.guard with
    |some true=>match Qj (mP fr o.op),KZ T o fr st with
     |some L,some (v,_)=>JR L (if eX o.op then [st]else []) (Gb T call a n (listed.setIfInBounds i true) (bL fr o.dst v) st)
     |_,_=>none
    |some false=>JR [] (if eX o.op then [st]else []) (Gb T call a n (listed.setIfInBounds i true) (bL fr o.dst (.tu [])) st)
    |none=>none
   |none=>none
  |none=>match Region.ready .any a listed with
   |[]=>some [(fr,st,[],[])]
   |rd=>Hu (fun i=>match a[i]? with
    |some o=>if aL o.op then none else match bB a fr o.guard with
     |some true=>match WH T call o fr st with
      |some b=>Hu (fun p=>JR [] (if kC a i then [p.2]else []) (Gb T call a n (listed.setIfInBounds i true) (bL fr o.dst p.1) p.2)) b
      |none=>none
     |some false=>JR [] (if kC a i then [st]else []) (Gb T call a n (listed.setIfInBounds i true) (bL fr o.dst (.tu [])) st)
     |none=>none
    |none=>none) rd
theorem Bz{P:Program}{T:az}{call:kH}{a:Array Oper}{N:Nat}(hc:oS P call)(Q:cR N a a.toList=true){B:List Nat}{j8:St}{R:List (af×St)}:∀(n:Nat) (listed:Array Bool) (w:af) (e:St) (L:List XD),
 Gb T call a n listed w e=some L->(∀ p∈L,(p.1,p.2.1)∈R/\(∀ l∈p.2.2.1,l∈B)/\∀ s∈p.2.2.2,SB B j8 s)->jR P T a (List.range N) (SB B j8) (fun f s=>(f,s)∈R) n listed w e
 |0,listed,w,e,L,h,hR=>by
  simp only[Gb]at h
  split at h
  .rename_i J;injection h with h;subst h;exact⟨J,(hR (w,e,[],[]) sS).1⟩
  grind
 |n+1,listed,w,e,L,h,hR=>by
  have ih:=Bz (T:=T) (N:=N) hc Q (B:=B) (j8:=j8) (R:=R) n;have D:∀(i:Nat) (o:Oper),a[i]?=some o->pE N o.dst=true:=by intro i o m;unfold cR at Q;rw[kw]at Q;have:=Q o (yr.2 (yj m));simp only[fw]at this;exact this.1
  have C:∀(x:Option (List XD)) (O:List Nat) (S:List St) (r:List XD),JR O S x=some r->(∀ p∈r,(p.1,p.2.1)∈R/\(∀ l∈p.2.2.1,l∈B)/\∀ s∈p.2.2.2,SB B j8 s)->
   ∃ l,x=some l/\(∀ p∈l,(p.1,p.2.1)∈R/\(∀ l∈p.2.2.1,l∈B)/\∀ s∈p.2.2.2,SB B j8 s)/\(∀ q∈O,q∈B)/\∀ s∈S,SB B j8 s:=by
   intro x O S r j J;obtain⟨l,g,c7,z⟩:=Ow j;refine⟨l,g,fun p H=>?_,?_⟩
   .obtain⟨a1,a2,a3⟩:=J _ (z p H)
    grind
   .obtain⟨p,H⟩:=gS l c7;obtain⟨_,a2,a3⟩:=J _ (z p H)
    grind
  simp only[Gb]at h
  split at h
  .rename_i i hf;have A:=o0 hf;have L7:=ow hf;simp only[fw]at A
   split at h
   .rename_i o m;have E:aL o.op=true:=by have:=A.1;unfold LF at this;rw[m]at this;exact this
    have hm:=wI (D i o m)
    split at h
    .rename_i K
     split at h
     .rename_i O v b hL j;obtain⟨l,g,z,b1,V⟩:=C _ _ _ _ h hR;obtain⟨r,k1,k2,rfl,rfl⟩:=tK j;have hS:eX o.op=true->SB B j8 e:=fun F=>V e (by grind);refine jE m n listed w e (Region.free_spec m A.2) L7 (.inl ⟨K,E,fun t X=>?_⟩) hS E (ih _ _ _ l g z);have I:=Hl hL b1;refine⟨@bS.mk r.c r.v t r.d,?_,k2,rfl,rfl⟩;rw[hm];refine nU E (fun l' k M5=>?_) k1;rw[M5]at I;have F:eX o.op=true:=ET M5;rw[X F l' I,hS F l' I]
     grind
    .rename_i K;obtain⟨l,g,z,b1,V⟩:=C _ _ _ _ h hR;exact jE m n listed w e (Region.free_spec m A.2) L7 (.inr ⟨K,rfl⟩) (fun F=>V e (by grind)) E (ih _ _ _ l g z)
    grind
   grind
  .split at h
   .rename_i J;injection h with h;subst h;refine⟨fun _=>(hR (w,e,[],[]) sS).1,fun i hi=>by grind⟩
   .rename_i J;refine⟨fun h0=>absurd h0 J,fun i hi=>?_⟩;obtain⟨x,g,z⟩:=kR h i hi
    split at g
    .rename_i o m;refine⟨o,m,?_⟩;have hm:=wI (D i o m)
     split at g
     .grind
     .rename_i E;have E:aL o.op=false:=by simpa using E
      have W:∀ t,(kC a i=true->SB B j8 t)->Kx a (SB B j8) i o e t:=by intro t F;unfold Kx;simp only[E,iv,gx];exact F
      unfold iG
      split at g
      .rename_i K;rw[K];refine⟨fun _=>?_,(fun hb=>by grind)⟩
       split at g
       .rename_i rs j;have U:=kR g;have go:∀ v b,(v,b)∈rs->Kx a (SB B j8) i o e b/\jR P T a (List.range N) (SB B j8) (fun f s=>(f,s)∈R) n (listed.setIfInBounds i true) (bL w o.dst v) b:=by intro v b Y;obtain⟨y,g1,g2⟩:=U (v,b) Y;obtain⟨l,q1,q2,_,q4⟩:=C _ _ _ _ g1 (fun p H=>hR p (z p (g2 p H)));exact⟨W _ (fun F=>q4 b (by grind)),ih _ _ _ l q1 q2⟩
        unfold WH at j
        split at j
        .rename_i x' args tys Z;unfold TU at j
         split at j
         .rename_i f IQ T9;rw[Z];simp only[T9];exact⟨_,hc _ _ _ _ j,fun r st2 P8=>go r st2 P8⟩
         grind
        .rename_i c7;cases M:KZ T o w e with
         |none=>grind [OL]
         |some p=>
          obtain⟨v,b⟩:=p;rw[M]at j;simp only[OL,ap]at j;subst j;obtain⟨r,k1,k2,rfl,rfl⟩:=tK M
          grind
       grind
      .rename_i K;rw[K];refine⟨(fun hb=>by grind),fun _=>?_⟩;obtain⟨l,q1,q2,_,q4⟩:=C _ _ _ _ g (fun p H=>hR p (z p H))
       grind
      grind
    grind
def JE(T:az)(a:af)(b:St):List ResultVar->Option (List LV)
 |[]=>some []
 |r::rs=>match CK T a b r,JE T a b rs with
  |some x,some l=>if @decide x.c x.d then some (x.v::l)else none
  |_,_=>none
theorem BT{T:az}{b:af}{e:St}:∀(a:List ResultVar) (l:List LV),JE T b e a=some l->∃ c,vC T b e a=some (c,l)/\c
 |[],l,h=>by simp only[JE,ap]at h;subst h;exact⟨True,rfl,trivial⟩
 |r::a,l,h=>by
  simp only[JE]at h
  split at h
  .rename_i x k n j
   split at h
   .rename_i g;simp only[ap]at h;subst h;obtain⟨c,m,f⟩:=BT a k j;exact⟨x.c/\c,by grind [vC],@nj _ x.d g,f⟩
   grind
  grind
abbrev XR:=Exit×af×St
def YN(T:az)(a:List ResultVar)(p:XR):Option (List (LV×St)):=match p.1 with
 |.ret=>match JE T p.2.1 p.2.2 a with
  |some l=>some [(one l,p.2.2)]
  |none=>none
 |.normal=>match JE T p.2.1 p.2.2 a with
  |some l=>some [(one l,p.2.2)]
  |none=>none
 |_=>none
def Mk(T:az)(a:List ResultVar):Option (List XR)->Option (List (LV×St))
 |some l=>Hu (YN T a) l
 |none=>none
def Yo(a:St):Option (List XD)->Option (List (af×St))
 |some l=>if l.all (fun p=>p.2.2.2.all (xc (l.flatMap fun q=>q.2.2.1) a))then some (l.map fun p=>(p.1,p.2.1))else none
 |none=>none
def Xi(T:az)(call:kH)(N:Nat)(a:Array Oper)(d:Bool)(c:af)(b:St):Option (List (af×St)):=
 if cR N a a.toList then
  match d with
  |false=>Oi T call a a.toList c b
  |true=>Yo b (Gb T call a a.size (Array.replicate a.size false) c b)
 else none
def WC(g:af->St->Option (List XR))(p:XR):Option (List XR):=match p.1 with
 |.normal=>g p.2.1 p.2.2
 |_=>some [p]
def La(g:af->St->Option (List XR)):Option (List XR)->Option (List XR)
 |some l=>Hu (WC g) l
 |none=>none
def TZ(id:Nat)(p:XR):XR:=match p.1 with
 |.exit i=>if i=id then(.normal,p.2)else p
 |_=>p
def noGoto(p:XR):Bool:=match p.1 with
 |.goto _=>false
 |_=>true
def iW(T:az)(dP:FuncId->Option Func)(e:kH):Nat->Nat->Code->af->St->Option (List XR)
 |0,_,_,_,_=>none
 |n+1,N,c,fr,d=>match c with
  |.skip=>some [(.normal,fr,d)]
  |.label _=>some [(.normal,fr,d)]
  |.exit i=>some [(.exit i,fr,d)]
  |.ret=>some [(.ret,fr,d)]
  |.seq a b=>La (fun UK g=>iW T dP e n N b UK g) (iW T dP e n N a fr d)
  |.block id c=>match iW T dP e n N c fr d with
   |some l=>some (l.map (TZ id))
   |none=>none
  |.scope c=>match iW T dP e n N c fr d with
   |some l=>if l.all noGoto then some l else none
   |none=>none
  |.cond x a b=>match aI fr x with
   |.atom (.bool true)=>iW T dP e n N a fr d
   |.atom (.bool false)=>iW T dP e n N b fr d
   |_=>none
  |.loop c=>La (fun UK g=>iW T dP e n N (.loop c) UK g) (iW T dP e n N c fr d)
  |.region _ ops dr=>match Xi T (fun f args d=>match e f args d with
    |some r=>some r
    |none=>match dP f with
     |some fn=>match fn.body with
      |some c=>if args.length<=fn.ntmps then Mk T fn.results.toList (iW T dP e n fn.ntmps c (tN args) d)else none
      |none=>none
     |none=>none) N ops dr fr d with
   |some l=>some (l.map fun p=>(.normal,p.1,p.2))
   |none=>none
  |_=>none
def xU(T:az)(dP:FuncId->Option Func)(a:kH)(n:Nat):kH:=fun f args b=>match a f args b with
 |some r=>some r
 |none=>match dP f with
  |some fn=>match fn.body with
   |some c=>if args.length<=fn.ntmps then Mk T fn.results.toList (iW T dP a n fn.ntmps c (tN args) b)else none
   |none=>none
  |none=>none
def Dj(P:Program)(dP:FuncId->Option Func):Prop:=∀ f fn,dP f=some fn->P.funcs[f]?=some fn/\(fn.name== "runtime.NumGoroutine")=false
section
variable {P:Program} {T:az} {dP:FuncId->Option Func} {pr:kH}
def kG(L:List XR):AQ:=fun e f s=>(e,f,s)∈L
theorem rE(x:aZ P T)(hf:Dj P dP)(B:oS P pr){n:Nat}(D:∀ N c p j L,iW T dP pr n N c p j=some L->bq P N c (kG L) p j):oS P (xU T dP pr n):=by
 intro f args j F h;unfold xU at h
 split at h
 .rename_i q C;injection h with h;subst h;exact B _ _ _ _ C
 split at h
 .rename_i fn o;obtain⟨v,w⟩:=hf f fn o
  split at h
  .rename_i c z
   split at h
   .rename_i d;cases s:iW T dP pr n fn.ntmps c (tN args) j with
    |none=>grind [Mk]
    |some L=>
     rw[s]at h;simp only[Mk]at h;have k:=kR h;refine qO x v z w rfl rfl d (dG (D _ _ _ _ _ s) ?_);intro e b a A;obtain⟨y,m,H⟩:=k (e,b,a) A;rw[tF];have g:(match JE T b a fn.results.toList with|some l=>some [(one l,a)]|none=>none)=some y->yQ T (fun E t=>(E,t)∈F) b a fn.results.toList:=by
      intro r;cases I:JE T b a fn.results.toList with
      |none=>grind
      |some l=>
       grind [BT,yQ]
     unfold YN at m;cases e with
     |normal=>exact g m
     |ret=>exact g m
     |_=>grind
   grind
  grind
 grind
theorem Ba{g:af->St->Option (List XR)}{x:Option (List XR)}{L:List XR}(h:La g x=some L):∃ l,x=some l/\∀ p∈l,(∃ y,WC g p=some y/\∀ q∈y,q∈L):=by
 unfold La at h
 grind [kR]
theorem Jd{N:Nat}{d:Array Oper}{M:List Nat}{J l:af->St->Prop}(m:∀ f s,J f s->l f s):∀(rest:List Oper) (e:af) (g:St),cG P T N d M J rest e g->cG P T N d M l rest e g:=by
 intro rest;induction rest with
 |nil=>intro e g h;exact m _ _ h
 |cons o rest c=>
  intro e g b;rw[KS]at b ⊢;unfold Ca at b ⊢
  split at b
  .refine⟨fun j=>?_,fun j=>c _ _ (b.2 j)⟩;have a:=b.1 j;unfold uP at a ⊢
   split at a
   .unfold LW at a ⊢
    split at a
    .obtain⟨R,p,q⟩:=a;exact⟨R,p,fun r k n=>c _ _ (q r k n)⟩
    omega
   .unfold DM at a ⊢
    split at a
    .simp_all
    .unfold LS at a ⊢
     grind
  omega
theorem Ah(Z:aZ P T)(hf:Dj P dP)(v:oS P pr)(hm:P.follows .mixedOrders=true):∀(n N:Nat) (c:Code) (t:af) (r:St) (L:List XR),iW T dP pr n N c t r=some L->bq P N c (kG L) t r:=by
 intro n;induction n using Nat.strongRecOn with
 |ind n ihs=>
  intro N c t r L h;cases n with
  |zero=>grind [iW]
  |succ n=>
  have I:=ihs n (qv n);cases c with
  |skip=>simp only[iW,ap]at h;subst h;exact qK (Q:=kG _) (k:=[]) (by simp[tF,kG])
  |label l=>simp only[iW,ap]at h;subst h;exact EA (Q:=kG _) (k:=[]) (by simp[tF,kG])
  |exit i=>simp only[iW,ap]at h;subst h;exact qX (Q:=kG _) (k:=[]) (by simp[tF,kG])
  |ret=>simp only[iW,ap]at h;subst h;exact qR (Q:=kG _) (k:=[]) (by simp[tF,kG])
  |seq x y=>
   refine qS (Q:=kG L) (k:=[]) ?_;simp only[iW]at h;obtain⟨l,j,F⟩:=Ba h;refine dG (I _ _ _ _ _ j) ?_;intro e A D d;obtain⟨z,C,O⟩:=F _ d;cases e with
   |normal=>rw[jG];exact dG (I _ _ _ _ _ C) (fun e f s H=>O _ H)
   |_=>injection C with C;subst C;exact O _ sS
  |block id x=>
   refine qB (Q:=kG L) (k:=[]) ?_;simp only[iW]at h
   split at h
   .rename_i l j;injection h with h;subst h;refine dG (I _ _ _ _ _ j) ?_;intro e A D d;have K:TZ id (e,A,D)∈l.map (TZ id):=aq.2 ⟨_,d,rfl⟩;cases e with
    |exit i=>
     rw[lZ];simp only[TZ]at K
     split
     .rename_i U;rw[ad U]at K;exact K
     .rename_i U;rw[ac U]at K;exact K
    |_=>exact K
   grind
  |scope x=>
   simp only[iW]at h
   split at h
   .rename_i l j
    split at h
    .rename_i E;injection h with h;subst h;refine OG (Q:=kG l) (k:=[]) (I _ _ _ _ _ j) ?_;intro k A D d;have:=kw.1 E _ d
     grind [noGoto]
    grind
   grind
  |cond x a b=>
   refine qC (Q:=kG L) (k:=[]) ?_;simp only[iW]at h
   split at h
   .rename_i j;rw[j,lF];exact⟨fun _=>I _ _ _ _ _ h,(fun hb=>by grind)⟩
   .rename_i j;rw[j,lF];exact⟨(fun hb=>by grind),fun _=>I _ _ _ _ _ h⟩
   grind
  |loop x=>
   refine qL (Q:=kG L) (k:=[]) (fun m t r=>m<=n+1/\∃ W,iW T dP pr m N (.loop x) t r=some W/\∀ p∈W,p∈L) (n+1) ⟨au _,L,h,fun p v=>v⟩ ?_;rintro m fr1 st1 ⟨v7,W,hI,J8⟩ J Y;cases m with
   |zero=>grind [iW]
   |succ m=>
    have ihm:=ihs m oO;simp only[iW]at hI;obtain⟨l,j,F⟩:=Ba hI;refine dG (ihm _ _ _ _ _ j) ?_;intro e A D d;obtain⟨z,C,O⟩:=F _ d;cases e with
    |normal=>rw[GX];exact Y m _ _ (qv m) ⟨oO,z,C,fun p v=>J8 p (O p v)⟩
    |_=>injection C with C;subst C;exact J8 _ (O _ sS)
  |region id ops dr=>
   simp only[iW]at h;have J4:oS P (xU T dP pr n):=rE Z hf v (fun N c t r L j=>I N c t r L j)
   split at h
   .rename_i l j;injection h with h;subst h;have o:Xi T (xU T dP pr n) N ops dr t r=some l:=j;have M:∀ f s,(f,s)∈l->kG (l.map fun p=>(Exit.normal,p.1,p.2)) .normal f s:=fun f s H=>aq.2 ⟨(f,s),H,rfl⟩;unfold Xi at o
    split at o
    .rename_i V;cases dr with
     |false=>simp only at o;refine lS Z (List.range N) V fun J Y=>?_;exact Jd (fun f s H=>Y _ _ (M f s H)) _ _ _ (Cc (N:=N) (R:=l) J4 _ _ _ l V o (fun p v=>v))
     |true=>
      simp only at o;unfold Yo at o
      split at o
      .rename_i X hxa
       split at o
       .rename_i E;injection o with o;subst o;intro a w g U hr hs hd;refine wp_region_any hm ?_
        have hA:=Bz (N:=N) (B:=X.flatMap fun q=>q.2.2.1) (j8:=r) (R:=X.map fun p=>(p.1,p.2.1)) J4 V _ _ t r X hxa (fun p v=>⟨aq.2 ⟨p,v,rfl⟩,fun l' M5=>gh.2 ⟨p,v,M5⟩,fun s T0=>by
         grind [OZ]⟩)
        have S:Ext w g { w with drawn:=w.drawn+1 } g:=eC w g;exact oW Z V (fun f s H=>M f s H) _ _ t r a { w with drawn:=w.drawn+1 } g U.drew (hr.mono S) hs hd S hA
       grind
      grind
    grind
   grind
  |_=>grind [iW]
end
def HV:List (Nat×Func)->FuncId->Option Func
 |[],_=>none
 |p::l,f=>if f=p.1 then some p.2 else HV l f
def YW(P:Program):List (Nat×Func)->Prop
 |[]=>True
 |p::l=>(P.funcs[p.1]?=some p.2/\(p.2.name== "runtime.NumGoroutine")=false)/\YW P l
theorem II{P:Program}:∀(l:List (Nat×Func)),YW P l->Dj P (HV l)
 |[],_,f,fn,h=>by grind [HV]
 |p::l,ha,f,fn,h=>by
  simp only[HV]at h
  split at h
  .rename_i hf;injection h with h;subst hf h;exact ha.1
  .exact II l ha.2 f fn h
def Fv{P:Program}{f:FuncId}{y:St}{R:Value->Prop}(h:aB P f [] ⟨1,fun _=>.dead⟩ fun r _=>∃ v,r=.atom v/\R v):aB P f [] y fun r p=>(∃ v,r=.atom v/\R v)/\p=y:=by
 refine⟨h.1,fun w g L c O=>?_⟩;have t:Inv w ⟨1,fun _=>none,fun _=>0,fun _=>0,fun _=>false⟩ ⟨1,fun _=>.dead⟩:=by refine⟨rfl,by decide,fun _ _=>rfl,fun l a=>a.elim,fun l Q a=>a.elim,fun l e s n a=>(by grind),fun l e s A a=>(by grind),fun l ag C B a=>(by grind),fun l e n a=>(by grind),tQ (c.aside.glob.phi fun _ _ _ _ _=>rfl) fun _=>rfl⟩
 refine(h.2 w _ L t (by grind [aC])).mono ?_;rintro e D ⟨v,r,p,M,rfl,⟨K,rfl,x⟩,J5,_,he⟩;have q:∀ b,b<w.heap.size->D.heap[b]?=w.heap[b]?:=fun b j=>(he.still b j rfl).2;have d:Ext w g D g:=by refine⟨he.os,he.tape,he.output,he.size,au _,fun _ _=>rfl,fun _ _=>rfl,fun _ _=>rfl,fun b j J=>⟨J,q b j⟩,fun b k j I=>⟨k,I,au _,fun o _=>World.cell?_of_block (w:=w) (q b j)⟩⟩
 refine⟨v,_,y,g,rfl,⟨⟨K,rfl,x⟩,rfl⟩,J5,?_,d⟩;refine⟨c.z,c.pos,c.fresh,fun l a=>cz (c.lt l a) he.size,c.inj,?_,?_,?_,?_,c.aside.keep d fun _ _=>rfl⟩
 .intro l e s n a;obtain⟨E,F,H,N⟩:=c.own l e s n a
  grind
 .intro l e s A a;obtain⟨E,F,H⟩:=c.box l e s A a
  grind [aC.mono]
 .intro l ag C B a;have m:=c.mp l ag C B a;exact m.keep d (c.map_lt a) (q _ m.blk_lt) rfl
 .intro l e n a;have m:=c.qu l e n a;exact m.keep d (c.que_lt a) (q _ m.blk_lt) rfl
def zb(b:Bool)(p:LV×St):Bool:=match p.1 with
 |.atom (.bool c)=>c==b
 |_=>false
def SY(r:Option (List (LV×St)))(b:Bool):Bool:=match r with
 |some l=>l.all (zb b)
 |none=>false
def sM{P:Program}{T:az}{dP:FuncId->Option Func}{e:kH}(j:aZ P T)(hf:Dj P dP)(k:oS P e)(o:P.follows .mixedOrders=true)(n:Nat){f:FuncId}(b:Bool){d:St}
 (h:SY (xU T dP e n f [] ⟨1,fun _=>.dead⟩) b=true):aB P f [] d fun r g=>r=.atom (.bool b)/\g=d:=by
 cases a:xU T dP e n f [] ⟨1,fun _=>.dead⟩ with
 |none=>grind [SY]
 |some l=>
  rw[a]at h;simp only[SY]at h;rw[kw]at h;have:=rE j hf k (fun N c m d L a=>Ah j hf k o n N c m d L a) f [] _ l a;refine(Fv (R:=fun v=>v=.bool b) (this.mono ?_)).mono ?_
  .grind [zb]
  grind
end Aw
end Go.Proofs.YtbgngpdonpeboaaGreatDoor
