/- An evaluator of calls whose arguments are written out; what it finds is so. No program is named here. -/
import Derived.Test.YtempldclppogmaaGreatDoorAwDraw
import Derived.Tactics
set_option linter.unusedVariables false
set_option linter.unusedSimpArgs false
namespace Go.Proofs.YtempldclppogmaaGreatDoor
namespace Aw
open Go Go.RowKit
mutual
def Rm:LV->LV->Bool
 |.dead,.dead=>true
 |.nil,.nil=>true
 |.emp,.emp=>true
 |.atom (.int k a),.atom (.int k' b)=>k==k'&&a==b
 |.atom (.bool a),.atom (.bool b)=>a==b
 |.sl t n cs,.sl t' n' cs'=>t==t'&&n==n'&&tR cs cs'
 |.ms l o n,.ms l' o' n'=>l==l'&&o==o'&&n==n'
 |.ag cs,.ag cs'=>tR cs cs'
 |.pt l o,.pt l' o'=>l==l'&&o==o'
 |.ep cs,.ep cs'=>tR cs cs'
 |.mp l,.mp l'=>l==l'
 |.fn (.func f) cs,.fn (.func f') cs'=>f==f'&&tR cs cs'
 |.tu cs,.tu cs'=>tR cs cs'
 |_,_=>false
def tR:List LV->List LV->Bool
 |[],[]=>true
 |a::E6,b::bs=>Rm a b&&tR E6 bs
 |_,_=>false
end
mutual
theorem zX:∀(a b:LV),Rm a b=true->a=b
 |a,b,h=>by
  unfold Rm at h
  split at h
  .rfl
  .rfl
  .rfl
  .simp at h;obtain⟨rfl,rfl⟩:=h;rfl
  .simp at h;subst h;rfl
  .simp at h;obtain⟨⟨rfl,rfl⟩,h⟩:=h;rw[eM _ _ h]
  .simp at h;obtain⟨⟨rfl,rfl⟩,rfl⟩:=h;rfl
  .rw[eM _ _ h]
  .simp at h;obtain⟨rfl,rfl⟩:=h;rfl
  .rw[eM _ _ h]
  .simp at h;subst h;rfl
  .simp at h;obtain⟨rfl,h⟩:=h;rw[eM _ _ h]
  .rw[eM _ _ h]
  .cases h
theorem eM:∀(a b:List LV),tR a b=true->a=b
 |a,b,h=>by
  unfold tR at h
  split at h
  .rfl
  .simp at h;rw[zX _ _ h.1,eM _ _ h.2]
  .cases h
end
def DB:List (List Int×LV)->List (List Int×LV)->Bool
 |[],[]=>true
 |p::a,q::b=>p.1==q.1&&Rm p.2 q.2&&DB a b
 |_,_=>false
theorem xM:∀ a b,DB a b=true->a=b
 |[],[],_=>rfl
 |p::a,q::b,h=>by
  simp only[DB,aAS,aCL]at h;rw[xM a b h.2]
  congr 1
  exact aDD h.1.1 (zX _ _ h.1.2)
 |[],_::_,h=>by simp[DB]at h
 |_::_,[],h=>by simp[DB]at h
def JE:cI->cI->Bool
 |.dead,.dead=>true
 |.own e s n,.own e' s' n'=>e==e'&&s==s'&&n==n'
 |.box e s cs,.box e' s' cs'=>e==e'&&s==s'&&tR cs cs'
 |.map ag ks es,.map S4 Zz es'=>ag==S4&&decide (ks=Zz)&&DB es es'
 |_,_=>false
theorem Dp(a b:cI)(h:JE a b=true):a=b:=by
 unfold JE at h
 split at h
 .rfl
 .simp at h;obtain⟨⟨rfl,rfl⟩,rfl⟩:=h;rfl
 .simp at h;obtain⟨⟨rfl,rfl⟩,h⟩:=h;rw[eM _ _ h]
 .simp at h;obtain⟨⟨rfl,rfl⟩,h⟩:=h;rw[xM _ _ h]
 .cases h
abbrev jE:=FuncId->List LV->St->Option (List (LV×St))
def Gi{α β:Type}(f:α->Option (List β)):List α->Option (List β)
 |[]=>some []
 |a::l=>match f a with
  |some x=>match Gi f l with
   |some y=>some (x++y)
   |none=>none
  |none=>none
theorem jU{α β:Type}{f:α->Option (List β)}:∀ {l:List α} {r:List β},Gi f l=some r->∀ a∈l,∃ x,f a=some x/\∀ b∈x,b∈r
 |[],r,_,a,ha=>by simp at ha
 |c::l,r,h,a,ha=>by
  simp only[Gi]at h
  split at h
  .rename_i x hx
   split at h
   .rename_i y hy;injection h with h;subst h;rcases aAf.1 ha with rfl|ha
    .exact⟨x,hx,fun b hb=>aAw _ hb⟩
    .obtain⟨z,h1,h2⟩:=jU hy a ha;exact⟨z,h1,fun b hb=>aAI _ (h2 b hb)⟩
   .cases h
  .cases h
def IZ(T:Tab)(o:Oper)(fr:Frm)(st:St):Option (LV×St):=
 match aop T o.dst.isSome o fr st with
 |some r=>if @decide r.c r.d then some (r.v,r.s)else none
 |none=>none
theorem sX{T:Tab}{o:Oper}{fr:Frm}{st st':St}{v:LV}(h:IZ T o fr st=some (v,st')):∃ r,aop T o.dst.isSome o fr st=some r/\r.c/\r.v=v/\r.s=st':=by
 unfold IZ at h
 split at h
 .rename_i r hr
  split at h
  .rename_i hc;simp only[aAb,aAV]at h;exact⟨r,hr,@aBY _ r.d hc,h.1,h.2⟩
  .cases h
 .cases h
def LS:Option (LV×St)->Option (List (LV×St))
 |some p=>some [p]
 |none=>none
def Ri(call:jE)(x:Operand)(args:Array Operand)(fr:Frm)(st:St):Option (List (LV×St)):=
 match eJ (aI fr x) with
 |some (f,cY)=>call f ((args.toList.map (aI fr))++cY) st
 |none=>none
def TC(T:Tab)(call:jE)(o:Oper)(fr:Frm)(st:St):Option (List (LV×St)):=
 match o.op with
 |.call { callee:=.value x,args:=args,argTypes:=_ }=>Ri call x args fr st
 |_=>match sQ T o fr with
  |some (ng,n)=>if n=0 then some [(.atom (.bool (false != ng)),st),(.atom (.bool (true != ng)),st)]else some [(.atom (.bool (false != ng)),st)]
  |none=>LS (IZ T o fr st)
def MT(T:Tab)(call:jE)(ops:Array Oper):List Oper->Frm->St->Option (List (Frm×St))
 |[],fr,st=>some [(fr,st)]
 |o::rest,fr,st=>match bG ops fr o.guard with
  |some true=>match TC T call o fr st with
   |some rs=>Gi (fun p=>MT T call ops rest (bP fr o.dst p.1) p.2) rs
   |none=>none
  |some false=>MT T call ops rest (bP fr o.dst (.tu [])) st
  |none=>none
def nO(P:Program)(call:jE):Prop:=∀ f args st rs,call f args st=some rs->aB P f args st fun r1 Yv=>(r1,Yv)∈rs
theorem wK{N:Nat}{d:Option Nat}(h:oF N d=true):inM (List.range N) d=d.isSome:=by
 cases d with
 |none=>rfl
 |some d=>simp[oF]at h;simp[inM,h]
theorem IA{P:Program}{T:Tab}{N:Nat}{ops:Array Oper}{M:List Nat}{J:Frm->St->Prop}{rest:List Oper}{o:Oper}{fr:Frm}{st:St}{x:Operand}{args:Array Operand}{V0:Array TypeId}(u5:o.op=.call { callee:=.value x,args:=args,argTypes:=V0 }):
 uI P T N ops M J rest o fr st=KV P T N ops M J rest o.dst fr st (args.toList.map (aI fr)) (eJ (aI fr x)):=by
 unfold uI;rw[u5]
theorem IL{P:Program}{T:Tab}{N:Nat}{ops:Array Oper}{M:List Nat}{J:Frm->St->Prop}{rest:List Oper}{o:Oper}{fr:Frm}{st:St}(Wm:∀(x:Operand) (args:Array Operand) (V0:Array TypeId),o.op=.call { callee:=.value x,args:=args,argTypes:=V0 }->False):
 uI P T N ops M J rest o fr st=Cm P T N ops M J rest o fr st (sQ T o fr):=by
 unfold uI
 split
 .rename_i u5;exact(Wm _ _ _ u5).elim
 .rfl
theorem Ai{P:Program}{T:Tab}{call:jE}{ops:Array Oper}{N:Nat}(hc:nO P call){R:List (Frm×St)}:∀(rest:List Oper) (fr:Frm) (st:St) (L:List (Frm×St)),cX N ops rest=true->MT T call ops rest fr st=some L->(∀ p∈L,p∈R)->
 cN P T N ops (List.range N) (fun f s=>(f,s)∈R) rest fr st
 |[],fr,st,L,_,h,hR=>by simp only[MT,aAb]at h;subst h;exact hR _ sS
 |o::rest,fr,st,L,hk,h,hR=>by
  simp only[cX,List.all_cons,aAS]at hk;obtain⟨⟨hd,_⟩,hk⟩:=hk;have ih:=Ai (T:=T) (ops:=ops) (N:=N) hc (R:=R) rest;have Yy:cX N ops rest=true:=hk;rw[Is];simp only[MT]at h
  split at h
  .rename_i hw;rw[hw,Qa]
   split at h
   .rename_i rs hx;have all:=jU h;have go:∀ v Yv,(v,Yv)∈rs->cN P T N ops (List.range N) (fun f s=>(f,s)∈R) rest (bP fr o.dst v) Yv:=by intro v Yv hm;obtain⟨x,h1,h2⟩:=all (v,Yv) hm;exact ih _ _ x Yy h1 (fun p hp=>hR p (h2 p hp))
    unfold TC at hx
    split at hx
    .rename_i x args V0 u5;rw[IA u5];unfold Ri at hx
     split at hx
     .rename_i f cY hf;rw[hf];exact⟨_,hc _ _ _ _ hx,fun r st2 hr=>go r st2 hr⟩
     .cases hx
    .rename_i Wm;rw[IL Wm]
     split at hx
     .rename_i ng n hn;rw[hn]
      split at hx
      .rename_i u7;injection hx with hx;subst hx;intro b hb;cases b with
       |true=>exact go _ _ sS
       |false=>exact go _ _ sS
      .rename_i u7;injection hx with hx;subst hx;intro b hb;cases b with
       |true=>exact absurd (hb rfl) u7
       |false=>exact go _ _ sS
     .rename_i hn;rw[hn];cases W5:IZ T o fr st with
      |none=>rw[W5]at hx;simp[LS]at hx
      |some p=>obtain⟨v,Yv⟩:=p;rw[W5]at hx;simp only[LS,aAb]at hx;subst hx;obtain⟨r,h1,h2,rfl,rfl⟩:=sX W5;simp only[Cm,wK hd,h1];exact⟨h2,go _ _ sS⟩
   .cases h
  .rename_i hw;rw[hw,KP];exact ih _ _ L Yy h hR
  .cases h
def sbB(B:List Nat)(Xs st:St):Bool:=B.all fun l=>JE (st.H l) (Xs.H l)
theorem LX{B:List Nat}{Xs st:St}(h:sbB B Xs st=true):SB B Xs st:=by intro l hl;unfold sbB at h;rw[aBC]at h;exact Dp _ _ (h l hl)
def QT:LV->Option (List Nat)
 |.pt l _=>some [l]
 |.ep _=>some []
 |_=>none
theorem HW{B L:List Nat}{x:LV}(h:QT x=some L)(hB:∀ l∈L,l∈B):Lc B x:=by
 unfold QT at h
 split at h
 .simp only[aAb]at h;subst h;exact hB _ sS
 .simp[Lc]
 .cases h
def Sw(T:Tab)(call:jE)(o:Oper)(fr:Frm)(st:St):Option (List (LV×St)):=
 match o.op with
 |.call { callee:=.value x,args:=args,argTypes:=_ }=>Ri call x args fr st
 |_=>LS (IZ T o fr st)
abbrev XD:=Frm×St×List Nat×List St
def It(L:List Nat)(S:List St):Option (List XD)->Option (List XD)
 |some (q::l)=>some ((q::l).map fun p=>(p.1,p.2.1,L++p.2.2.1,S++p.2.2.2))
 |_=>none
theorem Lg{L:List Nat}{S:List St}{x:Option (List XD)}{r:List XD}(h:It L S x=some r):∃ l,x=some l/\l≠[]/\∀ p∈l,(p.1,p.2.1,L++p.2.2.1,S++p.2.2.2)∈r:=by
 unfold It at h
 split at h
 .rename_i q l;injection h with h;subst h;exact⟨q::l,rfl,sS,fun p hp=>aAm.2 ⟨p,hp,rfl⟩⟩
 .cases h
def Ja(ops:Array Oper)(i:Nat):Bool:=match ops[i]? with
 |some o=>aX o.op
 |none=>false
def HI(T:Tab)(call:jE)(ops:Array Oper):Nat->Array Bool->Frm->St->Option (List XD)
 |0,listed,fr,st=>match Region.ready .any ops listed with
  |[]=>some [(fr,st,[],[])]
  |_=>none
 |n+1,listed,fr,st=>match(Region.ready .any ops listed).find? (fun i=>Ja ops i&&Region.free .any ops listed i) with
  |some i=>match ops[i]? with
   |some o=>match bG ops fr o.guard with
    |some true=>match QT (mF fr o.op),IZ T o fr st with
     |some L,some (v,_)=>It L (if eH o.op then [st]else []) (HI T call ops n (listed.setIfInBounds i true) (bP fr o.dst v) st)
     |_,_=>none
    |some false=>It [] (if eH o.op then [st]else []) (HI T call ops n (listed.setIfInBounds i true) (bP fr o.dst (.tu [])) st)
    |none=>none
   |none=>none
  |none=>match Region.ready .any ops listed with
   |[]=>some [(fr,st,[],[])]
   |rd=>Gi (fun i=>match ops[i]? with
    |some o=>if aX o.op then none else match bG ops fr o.guard with
     |some true=>match Sw T call o fr st with
      |some rs=>Gi (fun p=>It [] (if jI ops i then [p.2]else []) (HI T call ops n (listed.setIfInBounds i true) (bP fr o.dst p.1) p.2)) rs
      |none=>none
     |some false=>It [] (if jI ops i then [st]else []) (HI T call ops n (listed.setIfInBounds i true) (bP fr o.dst (.tu [])) st)
     |none=>none
    |none=>none) rd
theorem Ay{P:Program}{T:Tab}{call:jE}{ops:Array Oper}{N:Nat}(hc:nO P call)(hk:cX N ops ops.toList=true){B:List Nat}{Xs:St}{R:List (Frm×St)}:∀(n:Nat) (listed:Array Bool) (fr:Frm) (st:St) (L:List XD),
 HI T call ops n listed fr st=some L->(∀ p∈L,(p.1,p.2.1)∈R/\(∀ l∈p.2.2.1,l∈B)/\∀ s∈p.2.2.2,SB B Xs s)->iX P T ops (List.range N) (SB B Xs) (fun f s=>(f,s)∈R) n listed fr st
 |0,listed,fr,st,L,h,hR=>by
  simp only[HI]at h
  split at h
  .rename_i hr;injection h with h;subst h;exact⟨hr,(hR (fr,st,[],[]) sS).1⟩
  .cases h
 |n+1,listed,fr,st,L,h,hR=>by
  have ih:=Ay (T:=T) (N:=N) hc hk (B:=B) (Xs:=Xs) (R:=R) n;have K8:∀(i:Nat) (o:Oper),ops[i]?=some o->oF N o.dst=true:=by intro i o ho;unfold cX at hk;rw[aBC]at hk;have:=hk o (aEH.2 (aEy ho));simp only[aAS]at this;exact this.1
  have wit:∀(x:Option (List XD)) (L':List Nat) (S:List St) (r:List XD),It L' S x=some r->(∀ p∈r,(p.1,p.2.1)∈R/\(∀ l∈p.2.2.1,l∈B)/\∀ s∈p.2.2.2,SB B Xs s)->
   ∃ l,x=some l/\(∀ p∈l,(p.1,p.2.1)∈R/\(∀ l∈p.2.2.1,l∈B)/\∀ s∈p.2.2.2,SB B Xs s)/\(∀ q∈L',q∈B)/\∀ s∈S,SB B Xs s:=by
   intro x L' S r hx hr;obtain⟨l,h1,Wm,h2⟩:=Lg hx;refine⟨l,h1,fun p hp=>?_,?_⟩
   .obtain⟨a1,a2,a3⟩:=hr _ (h2 p hp);exact⟨a1,fun q hq=>a2 q (aAI _ hq),fun s hs=>a3 s (aAI _ hs)⟩
   .obtain⟨p,hp⟩:=aBp l Wm;obtain⟨_,a2,a3⟩:=hr _ (h2 p hp);exact⟨fun q hq=>a2 q (aAw _ hq),fun s hs=>a3 s (aAw _ hs)⟩
  simp only[HI]at h
  split at h
  .rename_i i hf;have hfi:=aDr hf;have Zu:=aCq hf;simp only[aAS]at hfi
   split at h
   .rename_i o ho;have hq:aX o.op=true:=by have:=hfi.1;unfold Ja at this;rw[ho]at this;exact this
    have hm:=wK (K8 i o ho)
    split at h
    .rename_i hw
     split at h
     .rename_i L' v Yv hL hx;obtain⟨l,h1,h2,b1,b2⟩:=wit _ _ _ _ h hR;obtain⟨r,k1,k2,rfl,rfl⟩:=sX hx;have hS:eH o.op=true->SB B Xs st:=fun hh=>b2 st (by simp[hh]);refine gV ho n listed fr st (Region.free_spec ho hfi.2) Zu (.inl ⟨hw,hq,fun st' hS'=>?_⟩) hS hq (ih _ _ _ l h1 h2);have hpt:=HW hL b1;refine⟨@bT.mk r.c r.v st' r.d,?_,k2,rfl,rfl⟩;rw[hm];refine nF hq (fun l' k Yu=>?_) k1;rw[Yu]at hpt;have hh:eH o.op=true:=DX Yu;rw[hS' hh l' hpt,hS hh l' hpt]
     .cases h
    .rename_i hw;obtain⟨l,h1,h2,b1,b2⟩:=wit _ _ _ _ h hR;exact gV ho n listed fr st (Region.free_spec ho hfi.2) Zu (.inr ⟨hw,rfl⟩) (fun hh=>b2 st (by simp[hh])) hq (ih _ _ _ l h1 h2)
    .cases h
   .cases h
  .split at h
   .rename_i hr;injection h with h;subst h;refine⟨fun _=>(hR (fr,st,[],[]) sS).1,fun i hi=>by rw[hr]at hi;simp at hi⟩
   .rename_i hr;refine⟨fun h0=>absurd h0 hr,fun i hi=>?_⟩;obtain⟨x,h1,h2⟩:=jU h i hi
    split at h1
    .rename_i o ho;refine⟨o,ho,?_⟩;have hm:=wK (K8 i o ho)
     split at h1
     .cases h1
     .rename_i hq;have hq:aX o.op=false:=by simpa using hq
      have hKx:∀ st',(jI ops i=true->SB B Xs st')->Kx ops (SB B Xs) i o st st':=by intro st' hh;unfold Kx;simp only[hq,aAR,aBB];exact hh
      unfold kV
      split at h1
      .rename_i hw;rw[hw];refine⟨fun _=>?_,(fun hb=>by cases hb)⟩
       split at h1
       .rename_i rs hx;have all:=jU h1;have go:∀ v Yv,(v,Yv)∈rs->Kx ops (SB B Xs) i o st Yv/\iX P T ops (List.range N) (SB B Xs) (fun f s=>(f,s)∈R) n (listed.setIfInBounds i true) (bP fr o.dst v) Yv:=by intro v Yv L9;obtain⟨y,g1,g2⟩:=all (v,Yv) L9;obtain⟨l,q1,q2,_,q4⟩:=wit _ _ _ _ g1 (fun p hp=>hR p (h2 p (g2 p hp)));exact⟨hKx _ (fun hh=>q4 Yv (by simp[hh])),ih _ _ _ l q1 q2⟩
        unfold Sw at hx
        split at hx
        .rename_i x' args V0 u5;unfold Ri at hx
         split at hx
         .rename_i f cY A6;rw[u5];simp only[A6];exact⟨_,hc _ _ _ _ hx,fun r st2 c8=>go r st2 c8⟩
         .cases hx
        .rename_i Wm;cases W5:IZ T o fr st with
         |none=>rw[W5]at hx;simp[LS]at hx
         |some p=>
          obtain⟨v,Yv⟩:=p;rw[W5]at hx;simp only[LS,aAb]at hx;subst hx;obtain⟨r,k1,k2,rfl,rfl⟩:=sX W5
          split
          .rename_i u5;exact(Wm _ _ _ u5).elim
          .rw[hm,k1];exact⟨k2,go _ _ sS⟩
       .cases h1
      .rename_i hw;rw[hw];refine⟨(fun hb=>by cases hb),fun _=>?_⟩;obtain⟨l,q1,q2,_,q4⟩:=wit _ _ _ _ h1 (fun p hp=>hR p (h2 p hp));exact⟨hKx _ (fun hh=>q4 st (by simp[hh])),ih _ _ _ l q1 q2⟩
      .cases h1
    .cases h1
def FV(T:Tab)(fr:Frm)(st:St):List ResultVar->Option (List LV)
 |[]=>some []
 |r::rs=>match AY T fr st r,FV T fr st rs with
  |some x,some l=>if @decide x.c x.d then some (x.v::l)else none
  |_,_=>none
theorem BI{T:Tab}{fr:Frm}{st:St}:∀(rs:List ResultVar) (l:List LV),FV T fr st rs=some l->∃ c,uT T fr st rs=some (c,l)/\c
 |[],l,h=>by simp only[FV,aAb]at h;subst h;exact⟨True,rfl,trivial⟩
 |r::rs,l,h=>by
  simp only[FV]at h
  split at h
  .rename_i x l' hx hl
   split at h
   .rename_i hc;simp only[aAb]at h;subst h;obtain⟨c,h1,h2⟩:=BI rs l' hl;exact⟨x.c/\c,by simp only[uT,hx,h1],@aBY _ x.d hc,h2⟩
   .cases h
  .cases h
abbrev XR:=Exit×Frm×St
def VM(T:Tab)(rs:List ResultVar)(p:XR):Option (List (LV×St)):=match p.1 with
 |.ret=>match FV T p.2.1 p.2.2 rs with
  |some l=>some [(one l,p.2.2)]
  |none=>none
 |.normal=>match FV T p.2.1 p.2.2 rs with
  |some l=>some [(one l,p.2.2)]
  |none=>none
 |_=>none
def Jl(T:Tab)(rs:List ResultVar):Option (List XR)->Option (List (LV×St))
 |some l=>Gi (VM T rs) l
 |none=>none
def VP(Xs:St):Option (List XD)->Option (List (Frm×St))
 |some l=>if l.all (fun p=>p.2.2.2.all (sbB (l.flatMap fun q=>q.2.2.1) Xs))then some (l.map fun p=>(p.1,p.2.1))else none
 |none=>none
def Td(T:Tab)(call:jE)(N:Nat)(ops:Array Oper)(dr:Bool)(fr:Frm)(st:St):Option (List (Frm×St)):=
 if cX N ops ops.toList then
  match dr with
  |false=>MT T call ops ops.toList fr st
  |true=>VP st (HI T call ops ops.size (Array.replicate ops.size false) fr st)
 else none
def TK(g:Frm->St->Option (List XR))(p:XR):Option (List XR):=match p.1 with
 |.normal=>g p.2.1 p.2.2
 |_=>some [p]
def Jf(g:Frm->St->Option (List XR)):Option (List XR)->Option (List XR)
 |some l=>Gi (TK g) l
 |none=>none
def Sl(id:Nat)(p:XR):XR:=match p.1 with
 |.exit i=>if i=id then(.normal,p.2)else p
 |_=>p
def noGoto(p:XR):Bool:=match p.1 with
 |.goto _=>false
 |_=>true
def gW(T:Tab)(fns:FuncId->Option Func)(pr:jE):Nat->Nat->Code->Frm->St->Option (List XR)
 |0,_,_,_,_=>none
 |n+1,N,c,fr,st=>match c with
  |.skip=>some [(.normal,fr,st)]
  |.label _=>some [(.normal,fr,st)]
  |.exit i=>some [(.exit i,fr,st)]
  |.ret=>some [(.ret,fr,st)]
  |.seq a b=>Jf (fun Xj st'=>gW T fns pr n N b Xj st') (gW T fns pr n N a fr st)
  |.block id c=>match gW T fns pr n N c fr st with
   |some l=>some (l.map (Sl id))
   |none=>none
  |.scope c=>match gW T fns pr n N c fr st with
   |some l=>if l.all noGoto then some l else none
   |none=>none
  |.cond x a b=>match aI fr x with
   |.atom (.bool true)=>gW T fns pr n N a fr st
   |.atom (.bool false)=>gW T fns pr n N b fr st
   |_=>none
  |.loop c=>Jf (fun Xj st'=>gW T fns pr n N (.loop c) Xj st') (gW T fns pr n N c fr st)
  |.region _ ops dr=>match Td T (fun f args st=>match pr f args st with
    |some r=>some r
    |none=>match fns f with
     |some fn=>match fn.body with
      |some c=>if args.length<=fn.ntmps then Jl T fn.results.toList (gW T fns pr n fn.ntmps c (sF args) st)else none
      |none=>none
     |none=>none) N ops dr fr st with
   |some l=>some (l.map fun p=>(.normal,p.1,p.2))
   |none=>none
  |_=>none
def xO(T:Tab)(fns:FuncId->Option Func)(pr:jE)(n:Nat):jE:=fun f args st=>match pr f args st with
 |some r=>some r
 |none=>match fns f with
  |some fn=>match fn.body with
   |some c=>if args.length<=fn.ntmps then Jl T fn.results.toList (gW T fns pr n fn.ntmps c (sF args) st)else none
   |none=>none
  |none=>none
def Cp(P:Program)(fns:FuncId->Option Func):Prop:=∀ f fn,fns f=some fn->P.funcs[f]?=some fn/\(fn.name== "runtime.NumGoroutine")=false
section
variable {P:Program} {T:Tab} {fns:FuncId->Option Func} {pr:jE}
def jG(L:List XR):AQ:=fun e f s=>(e,f,s)∈L
theorem pD(hT:bF P T)(hf:Cp P fns)(hp:nO P pr){n:Nat}(ih:∀ N c fr st L,gW T fns pr n N c fr st=some L->AWp P N c (jG L) fr st):nO P (xO T fns pr n):=by
 intro f args st rs h;unfold xO at h
 split at h
 .rename_i q hq;injection h with h;subst h;exact hp _ _ _ _ hq
 split at h
 .rename_i fn hfn;obtain⟨h1,h2⟩:=hf f fn hfn
  split at h
  .rename_i c hb
   split at h
   .rename_i hlen;cases hx:gW T fns pr n fn.ntmps c (sF args) st with
    |none=>rw[hx]at h;simp[Jl]at h
    |some L=>
     rw[hx]at h;simp only[Jl]at h;have all:=jU h;refine qO hT h1 hb h2 rfl rfl hlen (cZ (ih _ _ _ _ _ hx) ?_);intro e fr1 Yv hm;obtain⟨y,g1,g2⟩:=all (e,fr1,Yv) hm;rw[sV];have key:(match FV T fr1 Yv fn.results.toList with|some l=>some [(one l,Yv)]|none=>none)=some y->yC T (fun r1 Yz=>(r1,Yz)∈rs) fr1 Yv fn.results.toList:=by
      intro V6;cases hr:FV T fr1 Yv fn.results.toList with
      |none=>simp[hr]at V6
      |some l=>simp only[hr,aAb]at V6;subst V6;obtain⟨cc,k1,k2⟩:=BI _ _ hr;unfold yC;rw[k1];exact⟨k2,g2 _ sS⟩
     unfold VM at g1;cases e with
     |normal=>exact key g1
     |ret=>exact key g1
     |_=>cases g1
   .cases h
  .cases h
 .cases h
theorem BL{g:Frm->St->Option (List XR)}{x:Option (List XR)}{L:List XR}(h:Jf g x=some L):∃ l,x=some l/\∀ p∈l,(∃ y,TK g p=some y/\∀ q∈y,q∈L):=by
 unfold Jf at h
 split at h
 .rename_i l;exact⟨l,rfl,fun p hp=>jU h p hp⟩
 .cases h
theorem Ig{N:Nat}{ops:Array Oper}{M:List Nat}{J J':Frm->St->Prop}(hJ:∀ f s,J f s->J' f s):∀(rest:List Oper) (fr:Frm) (st:St),cN P T N ops M J rest fr st->cN P T N ops M J' rest fr st:=by
 intro rest;induction rest with
 |nil=>intro fr st h;exact hJ _ _ h
 |cons o rest ihr=>
  intro fr st hh;rw[Is]at hh ⊢;unfold Aa at hh ⊢
  split at hh
  .refine⟨fun hb=>?_,fun hb=>ihr _ _ (hh.2 hb)⟩;have h1:=hh.1 hb;unfold uI at h1 ⊢
   split at h1
   .unfold KV at h1 ⊢
    split at h1
    .obtain⟨R,k1,k2⟩:=h1;exact⟨R,k1,fun r st' hr=>ihr _ _ (k2 r st' hr)⟩
    .exact h1
   .unfold Cm at h1 ⊢
    split at h1
    .exact fun b hb=>ihr _ _ (h1 b hb)
    .unfold KT at h1 ⊢
     split at h1
     .exact⟨h1.1,ihr _ _ h1.2⟩
     .exact h1
  .exact hh
theorem AR(hT:bF P T)(hf:Cp P fns)(hp:nO P pr)(hm:P.follows .mixedOrders=true):∀(n N:Nat) (c:Code) (fr:Frm) (st:St) (L:List XR),gW T fns pr n N c fr st=some L->AWp P N c (jG L) fr st:=by
 intro n;induction n using Nat.strongRecOn with
 |ind n ihs=>
  intro N c fr st L h;cases n with
  |zero=>simp[gW]at h
  |succ n=>
  have ih:=ihs n (aCP n);cases c with
  |skip=>simp only[gW,aAb]at h;subst h;exact qK (Q:=jG _) (k:=[]) (by simp[sV,jG])
  |label l=>simp only[gW,aAb]at h;subst h;exact Cw (Q:=jG _) (k:=[]) (by simp[sV,jG])
  |exit i=>simp only[gW,aAb]at h;subst h;exact qX (Q:=jG _) (k:=[]) (by simp[sV,jG])
  |ret=>simp only[gW,aAb]at h;subst h;exact qR (Q:=jG _) (k:=[]) (by simp[sV,jG])
  |seq x y=>
   refine qS (Q:=jG L) (k:=[]) ?_;simp only[gW]at h;obtain⟨l,hx,all⟩:=BL h;refine cZ (ih _ _ _ _ _ hx) ?_;intro e Zr st2 L9;obtain⟨z,g1,g2⟩:=all _ L9;cases e with
   |normal=>rw[iK];exact cZ (ih _ _ _ _ _ g1) (fun e f s hh=>g2 _ hh)
   |_=>injection g1 with g1;subst g1;exact g2 _ sS
  |block id x=>
   refine qB (Q:=jG L) (k:=[]) ?_;simp only[gW]at h
   split at h
   .rename_i l hx;injection h with h;subst h;refine cZ (ih _ _ _ _ _ hx) ?_;intro e Zr st2 L9;have Xt:Sl id (e,Zr,st2)∈l.map (Sl id):=aAm.2 ⟨_,L9,rfl⟩;cases e with
    |exit i=>
     rw[lN];simp only[Sl]at Xt
     split
     .rename_i hi;rw[aAe hi]at Xt;exact Xt
     .rename_i hi;rw[aAa hi]at Xt;exact Xt
    |_=>exact Xt
   .cases h
  |scope x=>
   simp only[gW]at h
   split at h
   .rename_i l hx
    split at h
    .rename_i hall;injection h with h;subst h;refine ME (Q:=jG l) (k:=[]) (ih _ _ _ _ _ hx) ?_;intro k Zr st2 L9;have:=aBC.1 hall _ L9;simp[noGoto]at this
    .cases h
   .cases h
  |cond x a b=>
   refine qC (Q:=jG L) (k:=[]) ?_;simp only[gW]at h
   split at h
   .rename_i hx;rw[hx,kU];exact⟨fun _=>ih _ _ _ _ _ h,(fun hb=>by cases hb)⟩
   .rename_i hx;rw[hx,kU];exact⟨(fun hb=>by cases hb),fun _=>ih _ _ _ _ _ h⟩
   .cases h
  |loop x=>
   refine qL (Q:=jG L) (k:=[]) (fun m fr st=>m<=n+1/\∃ L',gW T fns pr m N (.loop x) fr st=some L'/\∀ p∈L',p∈L) (n+1) ⟨aAi _,L,h,fun p hp=>hp⟩ ?_;rintro m fr1 Yv ⟨Xr,L',hI,Yt⟩ J hJ;cases m with
   |zero=>simp[gW]at hI
   |succ m=>
    have ihm:=ihs m oO;simp only[gW]at hI;obtain⟨l,hx,all⟩:=BL hI;refine cZ (ihm _ _ _ _ _ hx) ?_;intro e Zr st2 L9;obtain⟨z,g1,g2⟩:=all _ L9;cases e with
    |normal=>rw[Dd];exact hJ m _ _ (aCP m) ⟨oO,z,g1,fun p hp=>Yt p (g2 p hp)⟩
    |_=>injection g1 with g1;subst g1;exact Yt _ (g2 _ sS)
  |region id ops dr=>
   simp only[gW]at h;have YS:nO P (xO T fns pr n):=pD hT hf hp (fun N c fr st L hx=>ih N c fr st L hx)
   split at h
   .rename_i l hx;injection h with h;subst h;have Zn:Td T (xO T fns pr n) N ops dr fr st=some l:=hx;have fin:∀ f s,(f,s)∈l->jG (l.map fun p=>(Exit.normal,p.1,p.2)) .normal f s:=fun f s hh=>aAm.2 ⟨(f,s),hh,rfl⟩;unfold Td at Zn
    split at Zn
    .rename_i hk;cases dr with
     |false=>simp only at Zn;refine lU hT (List.range N) hk fun J hJ=>?_;exact Ig (fun f s hh=>hJ _ _ (fin f s hh)) _ _ _ (Ai (N:=N) (R:=l) YS _ _ _ l hk Zn (fun p hp=>hp))
     |true=>
      simp only at Zn;unfold VP at Zn
      split at Zn
      .rename_i L1 W5
       split at Zn
       .rename_i hall;injection Zn with Zn;subst Zn;intro a w g hi hr hs hd;refine wp_region_any hm ?_
        have hA:=Ay (N:=N) (B:=L1.flatMap fun q=>q.2.2.1) (Xs:=st) (R:=L1.map fun p=>(p.1,p.2.1)) YS hk _ _ fr st L1 W5 (fun p hp=>⟨aAm.2 ⟨p,hp,rfl⟩,fun l' Yu=>aAT.2 ⟨p,hp,Yu⟩,fun s J4=>by
         rw[aBC]at hall;have:=hall p hp;rw[aBC]at this
         exact LX (this s J4)⟩)
        have Zv:Ext w g { w with drawn:=w.drawn+1 } g:=dG w g;exact nS hT hk (fun f s hh=>fin f s hh) _ _ fr st a { w with drawn:=w.drawn+1 } g hi.drew (hr.mono Zv) hs hd Zv hA
       .cases Zn
      .cases Zn
    .cases Zn
   .cases h
  |_=>simp[gW]at h
end
def Fg:List (Nat×Func)->FuncId->Option Func
 |[],_=>none
 |p::l,f=>if f=p.1 then some p.2 else Fg l f
def Ur(P:Program):List (Nat×Func)->Prop
 |[]=>True
 |p::l=>(P.funcs[p.1]?=some p.2/\(p.2.name== "runtime.NumGoroutine")=false)/\Ur P l
theorem FU{P:Program}:∀(l:List (Nat×Func)),Ur P l->Cp P (Fg l)
 |[],_,f,fn,h=>by simp[Fg]at h
 |p::l,ha,f,fn,h=>by
  simp only[Fg]at h
  split at h
  .rename_i hf;injection h with h;subst hf h;exact ha.1
  .exact FU l ha.2 f fn h
theorem Er{P:Program}{f:FuncId}{st:St}{R:Value->Prop}(h:aB P f [] ⟨1,fun _=>.dead⟩ fun r _=>∃ v,r=.atom v/\R v):aB P f [] st fun r st'=>(∃ v,r=.atom v/\R v)/\st'=st:=by
 refine⟨h.1,fun w g vs hi hr=>?_⟩;have hi0:Inv w ⟨1,fun _=>none,fun _=>0,fun _=>0,fun _=>false⟩ ⟨1,fun _=>.dead⟩:=by refine⟨rfl,by decide,fun _ _=>rfl,fun l hl=>hl.elim,fun l l' hl=>hl.elim,fun l e s n hl=>(by cases hl),fun l e s cs hl=>(by cases hl),fun l ag ks es hl=>(by cases hl),fun l e n hl=>(by cases hl),sM (hi.aside.glob.phi fun _ _ _ _ _=>rfl) fun _=>rfl⟩
 refine(h.2 w _ vs hi0 (by simp only[aC]at hr ⊢;exact hr)).mono ?_;rintro e w' ⟨v,r,st',g',rfl,⟨v',rfl,R7⟩,YG,_,he⟩;have Ym:∀ b,b<w.heap.size->w'.heap[b]?=w.heap[b]?:=fun b hb=>(he.still b hb rfl).2;have G4:Ext w g w' g:=by refine⟨he.os,he.tape,he.output,he.size,aAi _,fun _ _=>rfl,fun _ _=>rfl,fun _ _=>rfl,fun b hb hn=>⟨hn,Ym b hb⟩,fun b k hb hk=>⟨k,hk,aAi _,fun o _=>World.cell?_of_block (w:=w) (Ym b hb)⟩⟩
 refine⟨v,_,st,g,rfl,⟨⟨v',rfl,R7⟩,rfl⟩,YG,?_,G4⟩;refine⟨hi.next,hi.pos,hi.fresh,fun l hl=>aAp (hi.lt l hl) he.size,hi.inj,?_,?_,?_,?_,hi.aside.keep G4 fun _ _=>rfl⟩
 .intro l e s n hl;obtain⟨h1,h2,h3,h4⟩:=hi.own l e s n hl;refine⟨h1,h2,h3,fun Xl=>?_⟩;obtain⟨Xp,k1,k2,k3⟩:=h4 Xl;exact⟨Xp,by rw[Ym _ (aAt.1 k1).1];exact k1,k2,k3⟩
 .intro l e s cs hl;obtain⟨h1,h2,h3⟩:=hi.box l e s cs hl;refine⟨h1,h2,fun Xl=>?_⟩;obtain⟨Xp,k1,k2,k3,k4,k5⟩:=h3 Xl;exact⟨Xp,by rw[Ym _ (aAt.1 k1).1];exact k1,k2,k3,aC.mono G4 _ _ k4,k5⟩
 .intro l ag ks es hl;have hm:=hi.mp l ag ks es hl;exact hm.keep G4 (hi.map_lt hl) (Ym _ hm.blk_lt) rfl
 .intro l e n hl;have hm:=hi.qu l e n hl;exact hm.keep G4 (hi.que_lt hl) (Ym _ hm.blk_lt) rfl
def isB(b:Bool)(p:LV×St):Bool:=match p.1 with
 |.atom (.bool c)=>c==b
 |_=>false
def PB(r:Option (List (LV×St)))(b:Bool):Bool:=match r with
 |some l=>l.all (isB b)
 |none=>false
theorem rW{P:Program}{T:Tab}{fns:FuncId->Option Func}{pr:jE}(hT:bF P T)(hf:Cp P fns)(hp:nO P pr)(hm:P.follows .mixedOrders=true)(n:Nat){f:FuncId}(b:Bool){st:St}
 (h:PB (xO T fns pr n f [] ⟨1,fun _=>.dead⟩) b=true):aB P f [] st fun r st'=>r=.atom (.bool b)/\st'=st:=by
 cases hx:xO T fns pr n f [] ⟨1,fun _=>.dead⟩ with
 |none=>rw[hx]at h;simp[PB]at h
 |some l=>
  rw[hx]at h;simp only[PB]at h;rw[aBC]at h;have:=pD hT hf hp (fun N c fr st L hx=>AR hT hf hp hm n N c fr st L hx) f [] _ l hx;refine(Er (R:=fun v=>v=.bool b) (this.mono ?_)).mono ?_
  .intro r1 Yv L9;have hb:=h _ L9;unfold isB at hb
   split at hb
   .rename_i c hc;simp only at hc;simp at hb;exact⟨_,hc,by rw[hb]⟩
   .cases hb
  .rintro r1 Yv ⟨⟨v,rfl,rfl⟩,rfl⟩;exact⟨rfl,rfl⟩
end Aw
end Go.Proofs.YtempldclppogmaaGreatDoor
