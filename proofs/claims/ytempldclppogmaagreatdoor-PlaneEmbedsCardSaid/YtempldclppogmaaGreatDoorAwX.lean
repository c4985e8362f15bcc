/- An evaluator of calls whose arguments are written out; what it finds is so. No program is named here. -/
import Derived.Test.YtempldclppogmaaGreatDoorAwDraw
import Derived.Tactics
set_option linter.unusedVariables false
set_option linter.unusedSimpArgs false
namespace Go.Proofs.YtempldclppogmaaGreatDoor
namespace Aw
open Go Go.RowKit
mutual
def Qq:LV->LV->Bool
 |.dead,.dead=>true
 |.nil,.nil=>true
 |.emp,.emp=>true
 |.atom (.int k a),.atom (.int k' b)=>k==k'&&a==b
 |.atom (.bool a),.atom (.bool b)=>a==b
 |.sl t n cs,.sl t' n' cs'=>t==t'&&n==n'&&tQ cs cs'
 |.ms l o n,.ms l' o' n'=>l==l'&&o==o'&&n==n'
 |.ag cs,.ag cs'=>tQ cs cs'
 |.pt l o,.pt l' o'=>l==l'&&o==o'
 |.ep cs,.ep cs'=>tQ cs cs'
 |.mp l,.mp l'=>l==l'
 |.fn (.func f) cs,.fn (.func f') cs'=>f==f'&&tQ cs cs'
 |.tu cs,.tu cs'=>tQ cs cs'
 |_,_=>false
def tQ:List LV->List LV->Bool
 |[],[]=>true
 |a::E4,b::bs=>Qq a b&&tQ E4 bs
 |_,_=>false
end
mutual
theorem Ak:∀(a b:LV),Qq a b=true->a=b
 |a,b,h=>by
  unfold Qq at h
  split at h
  .rfl
  .rfl
  .rfl
  .simp at h;obtain⟨rfl,rfl⟩:=h;rfl
  .simp at h;subst h;rfl
  .simp at h;obtain⟨⟨rfl,rfl⟩,h⟩:=h;rw[eM _ _ h]
  .simp at h;obtain⟨⟨rfl,rfl⟩,rfl⟩:=h;rfl
  .rw[eM _ _ h]
  .simp at h;obtain⟨rfl,rfl⟩:=h;rfl
  .rw[eM _ _ h]
  .simp at h;subst h;rfl
  .simp at h;obtain⟨rfl,h⟩:=h;rw[eM _ _ h]
  .rw[eM _ _ h]
  .cases h
theorem eM:∀(a b:List LV),tQ a b=true->a=b
 |a,b,h=>by
  unfold tQ at h
  split at h
  .rfl
  .simp at h;rw[Ak _ _ h.1,eM _ _ h.2]
  .cases h
end
def Cv:List (List Int×LV)->List (List Int×LV)->Bool
 |[],[]=>true
 |p::a,q::b=>p.1==q.1&&Qq p.2 q.2&&Cv a b
 |_,_=>false
theorem xS:∀ a b,Cv a b=true->a=b
 |[],[],_=>rfl
 |p::a,q::b,h=>by
  simp only[Cv,aAS,aCL]at h;rw[xS a b h.2]
  congr 1
  exact aDD h.1.1 (Ak _ _ h.1.2)
 |[],_::_,h=>by simp[Cv]at h
 |_::_,[],h=>by simp[Cv]at h
def Hy:cI->cI->Bool
 |.dead,.dead=>true
 |.own e s n,.own e' s' n'=>e==e'&&s==s'&&n==n'
 |.box e s cs,.box e' s' cs'=>e==e'&&s==s'&&tQ cs cs'
 |.map ag ks es,.map Q9 Zy es'=>ag==Q9&&decide (ks=Zy)&&Cv es es'
 |_,_=>false
theorem Eo(a b:cI)(h:Hy a b=true):a=b:=by
 unfold Hy at h
 split at h
 .rfl
 .simp at h;obtain⟨⟨rfl,rfl⟩,rfl⟩:=h;rfl
 .simp at h;obtain⟨⟨rfl,rfl⟩,h⟩:=h;rw[eM _ _ h]
 .simp at h;obtain⟨⟨rfl,rfl⟩,h⟩:=h;rw[xS _ _ h]
 .cases h
abbrev jD:=FuncId->List LV->St->Option (List (LV×St))
def FU{α β:Type}(f:α->Option (List β)):List α->Option (List β)
 |[]=>some []
 |a::l=>match f a with
  |some x=>match FU f l with
   |some y=>some (x++y)
   |none=>none
  |none=>none
theorem jS{α β:Type}{f:α->Option (List β)}:∀ {l:List α} {r:List β},FU f l=some r->∀ a∈l,∃ x,f a=some x/\∀ b∈x,b∈r
 |[],r,_,a,ha=>by simp at ha
 |c::l,r,h,a,ha=>by
  simp only[FU]at h
  split at h
  .rename_i x hx
   split at h
   .rename_i y hy;injection h with h;subst h;rcases aAf.1 ha with rfl|ha
    .exact⟨x,hx,fun b hb=>aAw _ hb⟩
    .obtain⟨z,h1,h2⟩:=jS hy a ha;exact⟨z,h1,fun b hb=>aAI _ (h2 b hb)⟩
   .cases h
  .cases h
def JF(T:Tab)(o:Oper)(fr:Frm)(st:St):Option (LV×St):=
 match aop T o.dst.isSome o fr st with
 |some r=>if @decide r.c r.d then some (r.v,r.s)else none
 |none=>none
theorem sO{T:Tab}{o:Oper}{fr:Frm}{st st':St}{v:LV}(h:JF T o fr st=some (v,st')):∃ r,aop T o.dst.isSome o fr st=some r/\r.c/\r.v=v/\r.s=st':=by
 unfold JF at h
 split at h
 .rename_i r hr
  split at h
  .rename_i hc;simp only[aAb,aAV]at h;exact⟨r,hr,@aBY _ r.d hc,h.1,h.2⟩
  .cases h
 .cases h
def MS:Option (LV×St)->Option (List (LV×St))
 |some p=>some [p]
 |none=>none
def SI(call:jD)(x:Operand)(args:Array Operand)(fr:Frm)(st:St):Option (List (LV×St)):=
 match eJ (aI fr x) with
 |some (f,cY)=>call f ((args.toList.map (aI fr))++cY) st
 |none=>none
def TE(T:Tab)(call:jD)(o:Oper)(fr:Frm)(st:St):Option (List (LV×St)):=
 match o.op with
 |.call { callee:=.value x,args:=args,argTypes:=_ }=>SI call x args fr st
 |_=>match sJ T o fr with
  |some (ng,n)=>if n=0 then some [(.atom (.bool (false != ng)),st),(.atom (.bool (true != ng)),st)]else some [(.atom (.bool (false != ng)),st)]
  |none=>MS (JF T o fr st)
def MH(T:Tab)(call:jD)(ops:Array Oper):List Oper->Frm->St->Option (List (Frm×St))
 |[],fr,st=>some [(fr,st)]
 |o::rest,fr,st=>match bG ops fr o.guard with
  |some true=>match TE T call o fr st with
   |some rs=>FU (fun p=>MH T call ops rest (bP fr o.dst p.1) p.2) rs
   |none=>none
  |some false=>MH T call ops rest (bP fr o.dst (.tu [])) st
  |none=>none
def oA(P:Program)(call:jD):Prop:=∀ f args st rs,call f args st=some rs->aB P f args st fun r1 Yt=>(r1,Yt)∈rs
theorem vV{N:Nat}{d:Option Nat}(h:oH N d=true):inM (List.range N) d=d.isSome:=by
 cases d with
 |none=>rfl
 |some d=>simp[oH]at h;simp[inM,h]
theorem Ip{P:Program}{T:Tab}{N:Nat}{ops:Array Oper}{M:List Nat}{J:Frm->St->Prop}{rest:List Oper}{o:Oper}{fr:Frm}{st:St}{x:Operand}{args:Array Operand}{U2:Array TypeId}(u7:o.op=.call { callee:=.value x,args:=args,argTypes:=U2 }):
 uT P T N ops M J rest o fr st=KI P T N ops M J rest o.dst fr st (args.toList.map (aI fr)) (eJ (aI fr x)):=by
 unfold uT;rw[u7]
theorem Hp{P:Program}{T:Tab}{N:Nat}{ops:Array Oper}{M:List Nat}{J:Frm->St->Prop}{rest:List Oper}{o:Oper}{fr:Frm}{st:St}(Wx:∀(x:Operand) (args:Array Operand) (U2:Array TypeId),o.op=.call { callee:=.value x,args:=args,argTypes:=U2 }->False):
 uT P T N ops M J rest o fr st=Cc P T N ops M J rest o fr st (sJ T o fr):=by
 unfold uT
 split
 .rename_i u7;exact(Wx _ _ _ u7).elim
 .rfl
theorem Bl{P:Program}{T:Tab}{call:jD}{ops:Array Oper}{N:Nat}(hc:oA P call){R:List (Frm×St)}:∀(rest:List Oper) (fr:Frm) (st:St) (L:List (Frm×St)),cW N ops rest=true->MH T call ops rest fr st=some L->(∀ p∈L,p∈R)->
 cM P T N ops (List.range N) (fun f s=>(f,s)∈R) rest fr st
 |[],fr,st,L,_,h,hR=>by simp only[MH,aAb]at h;subst h;exact hR _ sS
 |o::rest,fr,st,L,hk,h,hR=>by
  simp only[cW,List.all_cons,aAS]at hk;obtain⟨⟨hd,_⟩,hk⟩:=hk;have ih:=Bl (T:=T) (ops:=ops) (N:=N) hc (R:=R) rest;have ZA:cW N ops rest=true:=hk;rw[JT];simp only[MH]at h
  split at h
  .rename_i hw;rw[hw,NW]
   split at h
   .rename_i rs hx;have all:=jS h;have go:∀ v Yt,(v,Yt)∈rs->cM P T N ops (List.range N) (fun f s=>(f,s)∈R) rest (bP fr o.dst v) Yt:=by intro v Yt hm;obtain⟨x,h1,h2⟩:=all (v,Yt) hm;exact ih _ _ x ZA h1 (fun p hp=>hR p (h2 p hp))
    unfold TE at hx
    split at hx
    .rename_i x args U2 u7;rw[Ip u7];unfold SI at hx
     split at hx
     .rename_i f cY hf;rw[hf];exact⟨_,hc _ _ _ _ hx,fun r st2 hr=>go r st2 hr⟩
     .cases hx
    .rename_i Wx;rw[Hp Wx]
     split at hx
     .rename_i ng n hn;rw[hn]
      split at hx
      .rename_i p8;injection hx with hx;subst hx;intro b hb;cases b with
       |true=>exact go _ _ sS
       |false=>exact go _ _ sS
      .rename_i p8;injection hx with hx;subst hx;intro b hb;cases b with
       |true=>exact absurd (hb rfl) p8
       |false=>exact go _ _ sS
     .rename_i hn;rw[hn];cases W8:JF T o fr st with
      |none=>rw[W8]at hx;simp[MS]at hx
      |some p=>obtain⟨v,Yt⟩:=p;rw[W8]at hx;simp only[MS,aAb]at hx;subst hx;obtain⟨r,h1,h2,rfl,rfl⟩:=sO W8;simp only[Cc,vV hd,h1];exact⟨h2,go _ _ sS⟩
   .cases h
  .rename_i hw;rw[hw,JZ];exact ih _ _ L ZA h hR
  .cases h
def sbB(B:List Nat)(Xs st:St):Bool:=B.all fun l=>Hy (st.H l) (Xs.H l)
theorem Lh{B:List Nat}{Xs st:St}(h:sbB B Xs st=true):SB B Xs st:=by intro l hl;unfold sbB at h;rw[aBC]at h;exact Eo _ _ (h l hl)
def QD:LV->Option (List Nat)
 |.pt l _=>some [l]
 |.ep _=>some []
 |_=>none
theorem HU{B L:List Nat}{x:LV}(h:QD x=some L)(hB:∀ l∈L,l∈B):Mq B x:=by
 unfold QD at h
 split at h
 .simp only[aAb]at h;subst h;exact hB _ sS
 .simp[Mq]
 .cases h
def TH(T:Tab)(call:jD)(o:Oper)(fr:Frm)(st:St):Option (List (LV×St)):=
 match o.op with
 |.call { callee:=.value x,args:=args,argTypes:=_ }=>SI call x args fr st
 |_=>MS (JF T o fr st)
abbrev XD:=Frm×St×List Nat×List St
def IY(L:List Nat)(S:List St):Option (List XD)->Option (List XD)
 |some (q::l)=>some ((q::l).map fun p=>(p.1,p.2.1,L++p.2.2.1,S++p.2.2.2))
 |_=>none
theorem Lu{L:List Nat}{S:List St}{x:Option (List XD)}{r:List XD}(h:IY L S x=some r):∃ l,x=some l/\l≠[]/\∀ p∈l,(p.1,p.2.1,L++p.2.2.1,S++p.2.2.2)∈r:=by
 unfold IY at h
 split at h
 .rename_i q l;injection h with h;subst h;exact⟨q::l,rfl,sS,fun p hp=>aAm.2 ⟨p,hp,rfl⟩⟩
 .cases h
def KP(ops:Array Oper)(i:Nat):Bool:=match ops[i]? with
 |some o=>aX o.op
 |none=>false
def Hj(T:Tab)(call:jD)(ops:Array Oper):Nat->Array Bool->Frm->St->Option (List XD)
 |0,listed,fr,st=>match Region.ready .any ops listed with
  |[]=>some [(fr,st,[],[])]
  |_=>none
 |n+1,listed,fr,st=>match(Region.ready .any ops listed).find? (fun i=>KP ops i&&Region.free .any ops listed i) with
  |some i=>match ops[i]? with
   |some o=>match bG ops fr o.guard with
    |some true=>match QD (lZ fr o.op),JF T o fr st with
     |some L,some (v,_)=>IY L (if eI o.op then [st]else []) (Hj T call ops n (listed.setIfInBounds i true) (bP fr o.dst v) st)
     |_,_=>none
    |some false=>IY [] (if eI o.op then [st]else []) (Hj T call ops n (listed.setIfInBounds i true) (bP fr o.dst (.tu [])) st)
    |none=>none
   |none=>none
  |none=>match Region.ready .any ops listed with
   |[]=>some [(fr,st,[],[])]
   |rd=>FU (fun i=>match ops[i]? with
    |some o=>if aX o.op then none else match bG ops fr o.guard with
     |some true=>match TH T call o fr st with
      |some rs=>FU (fun p=>IY [] (if jG ops i then [p.2]else []) (Hj T call ops n (listed.setIfInBounds i true) (bP fr o.dst p.1) p.2)) rs
      |none=>none
     |some false=>IY [] (if jG ops i then [st]else []) (Hj T call ops n (listed.setIfInBounds i true) (bP fr o.dst (.tu [])) st)
     |none=>none
    |none=>none) rd
theorem Bj{P:Program}{T:Tab}{call:jD}{ops:Array Oper}{N:Nat}(hc:oA P call)(hk:cW N ops ops.toList=true){B:List Nat}{Xs:St}{R:List (Frm×St)}:∀(n:Nat) (listed:Array Bool) (fr:Frm) (st:St) (L:List XD),
 Hj T call ops n listed fr st=some L->(∀ p∈L,(p.1,p.2.1)∈R/\(∀ l∈p.2.2.1,l∈B)/\∀ s∈p.2.2.2,SB B Xs s)->iY P T ops (List.range N) (SB B Xs) (fun f s=>(f,s)∈R) n listed fr st
 |0,listed,fr,st,L,h,hR=>by
  simp only[Hj]at h
  split at h
  .rename_i hr;injection h with h;subst h;exact⟨hr,(hR (fr,st,[],[]) sS).1⟩
  .cases h
 |n+1,listed,fr,st,L,h,hR=>by
  have ih:=Bj (T:=T) (N:=N) hc hk (B:=B) (Xs:=Xs) (R:=R) n;have K6:∀(i:Nat) (o:Oper),ops[i]?=some o->oH N o.dst=true:=by intro i o ho;unfold cW at hk;rw[aBC]at hk;have:=hk o (aEH.2 (aEy ho));simp only[aAS]at this;exact this.1
  have wit:∀(x:Option (List XD)) (L':List Nat) (S:List St) (r:List XD),IY L' S x=some r->(∀ p∈r,(p.1,p.2.1)∈R/\(∀ l∈p.2.2.1,l∈B)/\∀ s∈p.2.2.2,SB B Xs s)->
   ∃ l,x=some l/\(∀ p∈l,(p.1,p.2.1)∈R/\(∀ l∈p.2.2.1,l∈B)/\∀ s∈p.2.2.2,SB B Xs s)/\(∀ q∈L',q∈B)/\∀ s∈S,SB B Xs s:=by
   intro x L' S r hx hr;obtain⟨l,h1,Wx,h2⟩:=Lu hx;refine⟨l,h1,fun p hp=>?_,?_⟩
   .obtain⟨a1,a2,a3⟩:=hr _ (h2 p hp);exact⟨a1,fun q hq=>a2 q (aAI _ hq),fun s hs=>a3 s (aAI _ hs)⟩
   .obtain⟨p,hp⟩:=aBp l Wx;obtain⟨_,a2,a3⟩:=hr _ (h2 p hp);exact⟨fun q hq=>a2 q (aAw _ hq),fun s hs=>a3 s (aAw _ hs)⟩
  simp only[Hj]at h
  split at h
  .rename_i i hf;have hfi:=aDr hf;have Zt:=aCq hf;simp only[aAS]at hfi
   split at h
   .rename_i o ho;have hq:aX o.op=true:=by have:=hfi.1;unfold KP at this;rw[ho]at this;exact this
    have hm:=vV (K6 i o ho)
    split at h
    .rename_i hw
     split at h
     .rename_i L' v Yt hL hx;obtain⟨l,h1,h2,b1,b2⟩:=wit _ _ _ _ h hR;obtain⟨r,k1,k2,rfl,rfl⟩:=sO hx;have hS:eI o.op=true->SB B Xs st:=fun hh=>b2 st (by simp[hh]);refine iH ho n listed fr st (Region.free_spec ho hfi.2) Zt (.inl ⟨hw,hq,fun st' hS'=>?_⟩) hS hq (ih _ _ _ l h1 h2);have Y3:=HU hL b1;refine⟨@bT.mk r.c r.v st' r.d,?_,k2,rfl,rfl⟩;rw[hm];refine nT hq (fun l' k Yu=>?_) k1;rw[Yu]at Y3;have hh:eI o.op=true:=EG Yu;rw[hS' hh l' Y3,hS hh l' Y3]
     .cases h
    .rename_i hw;obtain⟨l,h1,h2,b1,b2⟩:=wit _ _ _ _ h hR;exact iH ho n listed fr st (Region.free_spec ho hfi.2) Zt (.inr ⟨hw,rfl⟩) (fun hh=>b2 st (by simp[hh])) hq (ih _ _ _ l h1 h2)
    .cases h
   .cases h
  .split at h
   .rename_i hr;injection h with h;subst h;refine⟨fun _=>(hR (fr,st,[],[]) sS).1,fun i hi=>by rw[hr]at hi;simp at hi⟩
   .rename_i hr;refine⟨fun h0=>absurd h0 hr,fun i hi=>?_⟩;obtain⟨x,h1,h2⟩:=jS h i hi
    split at h1
    .rename_i o ho;refine⟨o,ho,?_⟩;have hm:=vV (K6 i o ho)
     split at h1
     .cases h1
     .rename_i hq;have hq:aX o.op=false:=by simpa using hq
      have hKx:∀ st',(jG ops i=true->SB B Xs st')->Kx ops (SB B Xs) i o st st':=by intro st' hh;unfold Kx;simp only[hq,aAR,aBB];exact hh
      unfold kG
      split at h1
      .rename_i hw;rw[hw];refine⟨fun _=>?_,(fun hb=>by cases hb)⟩
       split at h1
       .rename_i rs hx;have all:=jS h1;have go:∀ v Yt,(v,Yt)∈rs->Kx ops (SB B Xs) i o st Yt/\iY P T ops (List.range N) (SB B Xs) (fun f s=>(f,s)∈R) n (listed.setIfInBounds i true) (bP fr o.dst v) Yt:=by intro v Yt M4;obtain⟨y,g1,g2⟩:=all (v,Yt) M4;obtain⟨l,q1,q2,_,q4⟩:=wit _ _ _ _ g1 (fun p hp=>hR p (h2 p (g2 p hp)));exact⟨hKx _ (fun hh=>q4 Yt (by simp[hh])),ih _ _ _ l q1 q2⟩
        unfold TH at hx
        split at hx
        .rename_i x' args U2 u7;unfold SI at hx
         split at hx
         .rename_i f cY A6;rw[u7];simp only[A6];exact⟨_,hc _ _ _ _ hx,fun r st2 o9=>go r st2 o9⟩
         .cases hx
        .rename_i Wx;cases W8:JF T o fr st with
         |none=>rw[W8]at hx;simp[MS]at hx
         |some p=>
          obtain⟨v,Yt⟩:=p;rw[W8]at hx;simp only[MS,aAb]at hx;subst hx;obtain⟨r,k1,k2,rfl,rfl⟩:=sO W8
          split
          .rename_i u7;exact(Wx _ _ _ u7).elim
          .rw[hm,k1];exact⟨k2,go _ _ sS⟩
       .cases h1
      .rename_i hw;rw[hw];refine⟨(fun hb=>by cases hb),fun _=>?_⟩;obtain⟨l,q1,q2,_,q4⟩:=wit _ _ _ _ h1 (fun p hp=>hR p (h2 p hp));exact⟨hKx _ (fun hh=>q4 st (by simp[hh])),ih _ _ _ l q1 q2⟩
      .cases h1
    .cases h1
def HI(T:Tab)(fr:Frm)(st:St):List ResultVar->Option (List LV)
 |[]=>some []
 |r::rs=>match AE T fr st r,HI T fr st rs with
  |some x,some l=>if @decide x.c x.d then some (x.v::l)else none
  |_,_=>none
theorem Bp{T:Tab}{fr:Frm}{st:St}:∀(rs:List ResultVar) (l:List LV),HI T fr st rs=some l->∃ c,uM T fr st rs=some (c,l)/\c
 |[],l,h=>by simp only[HI,aAb]at h;subst h;exact⟨True,rfl,trivial⟩
 |r::rs,l,h=>by
  simp only[HI]at h
  split at h
  .rename_i x l' hx hl
   split at h
   .rename_i hc;simp only[aAb]at h;subst h;obtain⟨c,h1,h2⟩:=Bp rs l' hl;exact⟨x.c/\c,by simp only[uM,hx,h1],@aBY _ x.d hc,h2⟩
   .cases h
  .cases h
abbrev XR:=Exit×Frm×St
def Vr(T:Tab)(rs:List ResultVar)(p:XR):Option (List (LV×St)):=match p.1 with
 |.ret=>match HI T p.2.1 p.2.2 rs with
  |some l=>some [(one l,p.2.2)]
  |none=>none
 |.normal=>match HI T p.2.1 p.2.2 rs with
  |some l=>some [(one l,p.2.2)]
  |none=>none
 |_=>none
def Jm(T:Tab)(rs:List ResultVar):Option (List XR)->Option (List (LV×St))
 |some l=>FU (Vr T rs) l
 |none=>none
def Vp(Xs:St):Option (List XD)->Option (List (Frm×St))
 |some l=>if l.all (fun p=>p.2.2.2.all (sbB (l.flatMap fun q=>q.2.2.1) Xs))then some (l.map fun p=>(p.1,p.2.1))else none
 |none=>none
def Tg(T:Tab)(call:jD)(N:Nat)(ops:Array Oper)(dr:Bool)(fr:Frm)(st:St):Option (List (Frm×St)):=
 if cW N ops ops.toList then
  match dr with
  |false=>MH T call ops ops.toList fr st
  |true=>Vp st (Hj T call ops ops.size (Array.replicate ops.size false) fr st)
 else none
def TC(g:Frm->St->Option (List XR))(p:XR):Option (List XR):=match p.1 with
 |.normal=>g p.2.1 p.2.2
 |_=>some [p]
def KN(g:Frm->St->Option (List XR)):Option (List XR)->Option (List XR)
 |some l=>FU (TC g) l
 |none=>none
def Se(id:Nat)(p:XR):XR:=match p.1 with
 |.exit i=>if i=id then(.normal,p.2)else p
 |_=>p
def noGoto(p:XR):Bool:=match p.1 with
 |.goto _=>false
 |_=>true
def iB(T:Tab)(fns:FuncId->Option Func)(pr:jD):Nat->Nat->Code->Frm->St->Option (List XR)
 |0,_,_,_,_=>none
 |n+1,N,c,fr,st=>match c with
  |.skip=>some [(.normal,fr,st)]
  |.label _=>some [(.normal,fr,st)]
  |.exit i=>some [(.exit i,fr,st)]
  |.ret=>some [(.ret,fr,st)]
  |.seq a b=>KN (fun Xj st'=>iB T fns pr n N b Xj st') (iB T fns pr n N a fr st)
  |.block id c=>match iB T fns pr n N c fr st with
   |some l=>some (l.map (Se id))
   |none=>none
  |.scope c=>match iB T fns pr n N c fr st with
   |some l=>if l.all noGoto then some l else none
   |none=>none
  |.cond x a b=>match aI fr x with
   |.atom (.bool true)=>iB T fns pr n N a fr st
   |.atom (.bool false)=>iB T fns pr n N b fr st
   |_=>none
  |.loop c=>KN (fun Xj st'=>iB T fns pr n N (.loop c) Xj st') (iB T fns pr n N c fr st)
  |.region _ ops dr=>match Tg T (fun f args st=>match pr f args st with
    |some r=>some r
    |none=>match fns f with
     |some fn=>match fn.body with
      |some c=>if args.length<=fn.ntmps then Jm T fn.results.toList (iB T fns pr n fn.ntmps c (sQ args) st)else none
      |none=>none
     |none=>none) N ops dr fr st with
   |some l=>some (l.map fun p=>(.normal,p.1,p.2))
   |none=>none
  |_=>none
def xQ(T:Tab)(fns:FuncId->Option Func)(pr:jD)(n:Nat):jD:=fun f args st=>match pr f args st with
 |some r=>some r
 |none=>match fns f with
  |some fn=>match fn.body with
   |some c=>if args.length<=fn.ntmps then Jm T fn.results.toList (iB T fns pr n fn.ntmps c (sQ args) st)else none
   |none=>none
  |none=>none
def DV(P:Program)(fns:FuncId->Option Func):Prop:=∀ f fn,fns f=some fn->P.funcs[f]?=some fn/\(fn.name== "runtime.NumGoroutine")=false
section
variable {P:Program} {T:Tab} {fns:FuncId->Option Func} {pr:jD}
def jI(L:List XR):AQ:=fun e f s=>(e,f,s)∈L
theorem pI(hT:bF P T)(hf:DV P fns)(hp:oA P pr){n:Nat}(ih:∀ N c fr st L,iB T fns pr n N c fr st=some L->AWp P N c (jI L) fr st):oA P (xQ T fns pr n):=by
 intro f args st rs h;unfold xQ at h
 split at h
 .rename_i q hq;injection h with h;subst h;exact hp _ _ _ _ hq
 split at h
 .rename_i fn hfn;obtain⟨h1,h2⟩:=hf f fn hfn
  split at h
  .rename_i c hb
   split at h
   .rename_i hlen;cases hx:iB T fns pr n fn.ntmps c (sQ args) st with
    |none=>rw[hx]at h;simp[Jm]at h
    |some L=>
     rw[hx]at h;simp only[Jm]at h;have all:=jS h;refine qO hT h1 hb h2 rfl rfl hlen (cZ (ih _ _ _ _ _ hx) ?_);intro e fr1 Yt hm;obtain⟨y,g1,g2⟩:=all (e,fr1,Yt) hm;rw[sR];have key:(match HI T fr1 Yt fn.results.toList with|some l=>some [(one l,Yt)]|none=>none)=some y->yK T (fun r1 Yy=>(r1,Yy)∈rs) fr1 Yt fn.results.toList:=by
      intro U3;cases hr:HI T fr1 Yt fn.results.toList with
      |none=>simp[hr]at U3
      |some l=>simp only[hr,aAb]at U3;subst U3;obtain⟨cc,k1,k2⟩:=Bp _ _ hr;unfold yK;rw[k1];exact⟨k2,g2 _ sS⟩
     unfold Vr at g1;cases e with
     |normal=>exact key g1
     |ret=>exact key g1
     |_=>cases g1
   .cases h
  .cases h
 .cases h
theorem Ag{g:Frm->St->Option (List XR)}{x:Option (List XR)}{L:List XR}(h:KN g x=some L):∃ l,x=some l/\∀ p∈l,(∃ y,TC g p=some y/\∀ q∈y,q∈L):=by
 unfold KN at h
 split at h
 .rename_i l;exact⟨l,rfl,fun p hp=>jS h p hp⟩
 .cases h
theorem IC{N:Nat}{ops:Array Oper}{M:List Nat}{J J':Frm->St->Prop}(hJ:∀ f s,J f s->J' f s):∀(rest:List Oper) (fr:Frm) (st:St),cM P T N ops M J rest fr st->cM P T N ops M J' rest fr st:=by
 intro rest;induction rest with
 |nil=>intro fr st h;exact hJ _ _ h
 |cons o rest ihr=>
  intro fr st hh;rw[JT]at hh ⊢;unfold AD at hh ⊢
  split at hh
  .refine⟨fun hb=>?_,fun hb=>ihr _ _ (hh.2 hb)⟩;have h1:=hh.1 hb;unfold uT at h1 ⊢
   split at h1
   .unfold KI at h1 ⊢
    split at h1
    .obtain⟨R,k1,k2⟩:=h1;exact⟨R,k1,fun r st' hr=>ihr _ _ (k2 r st' hr)⟩
    .exact h1
   .unfold Cc at h1 ⊢
    split at h1
    .exact fun b hb=>ihr _ _ (h1 b hb)
    .unfold KS at h1 ⊢
     split at h1
     .exact⟨h1.1,ihr _ _ h1.2⟩
     .exact h1
  .exact hh
theorem Bc(hT:bF P T)(hf:DV P fns)(hp:oA P pr)(hm:P.follows .mixedOrders=true):∀(n N:Nat) (c:Code) (fr:Frm) (st:St) (L:List XR),iB T fns pr n N c fr st=some L->AWp P N c (jI L) fr st:=by
 intro n;induction n using Nat.strongRecOn with
 |ind n ihs=>
  intro N c fr st L h;cases n with
  |zero=>simp[iB]at h
  |succ n=>
  have ih:=ihs n (aCP n);cases c with
  |skip=>simp only[iB,aAb]at h;subst h;exact qK (Q:=jI _) (k:=[]) (by simp[sR,jI])
  |label l=>simp only[iB,aAb]at h;subst h;exact Cd (Q:=jI _) (k:=[]) (by simp[sR,jI])
  |exit i=>simp only[iB,aAb]at h;subst h;exact qX (Q:=jI _) (k:=[]) (by simp[sR,jI])
  |ret=>simp only[iB,aAb]at h;subst h;exact qR (Q:=jI _) (k:=[]) (by simp[sR,jI])
  |seq x y=>
   refine qS (Q:=jI L) (k:=[]) ?_;simp only[iB]at h;obtain⟨l,hx,all⟩:=Ag h;refine cZ (ih _ _ _ _ _ hx) ?_;intro e Zr st2 M4;obtain⟨z,g1,g2⟩:=all _ M4;cases e with
   |normal=>rw[iK];exact cZ (ih _ _ _ _ _ g1) (fun e f s hh=>g2 _ hh)
   |_=>injection g1 with g1;subst g1;exact g2 _ sS
  |block id x=>
   refine qB (Q:=jI L) (k:=[]) ?_;simp only[iB]at h
   split at h
   .rename_i l hx;injection h with h;subst h;refine cZ (ih _ _ _ _ _ hx) ?_;intro e Zr st2 M4;have Xt:Se id (e,Zr,st2)∈l.map (Se id):=aAm.2 ⟨_,M4,rfl⟩;cases e with
    |exit i=>
     rw[lW];simp only[Se]at Xt
     split
     .rename_i hi;rw[aAe hi]at Xt;exact Xt
     .rename_i hi;rw[aAa hi]at Xt;exact Xt
    |_=>exact Xt
   .cases h
  |scope x=>
   simp only[iB]at h
   split at h
   .rename_i l hx
    split at h
    .rename_i hall;injection h with h;subst h;refine MU (Q:=jI l) (k:=[]) (ih _ _ _ _ _ hx) ?_;intro k Zr st2 M4;have:=aBC.1 hall _ M4;simp[noGoto]at this
    .cases h
   .cases h
  |cond x a b=>
   refine qC (Q:=jI L) (k:=[]) ?_;simp only[iB]at h
   split at h
   .rename_i hx;rw[hx,kX];exact⟨fun _=>ih _ _ _ _ _ h,(fun hb=>by cases hb)⟩
   .rename_i hx;rw[hx,kX];exact⟨(fun hb=>by cases hb),fun _=>ih _ _ _ _ _ h⟩
   .cases h
  |loop x=>
   refine qL (Q:=jI L) (k:=[]) (fun m fr st=>m<=n+1/\∃ L',iB T fns pr m N (.loop x) fr st=some L'/\∀ p∈L',p∈L) (n+1) ⟨aAi _,L,h,fun p hp=>hp⟩ ?_;rintro m fr1 Yt ⟨Xr,L',hI,Yv⟩ J hJ;cases m with
   |zero=>simp[iB]at hI
   |succ m=>
    have ihm:=ihs m oO;simp only[iB]at hI;obtain⟨l,hx,all⟩:=Ag hI;refine cZ (ihm _ _ _ _ _ hx) ?_;intro e Zr st2 M4;obtain⟨z,g1,g2⟩:=all _ M4;cases e with
    |normal=>rw[EN];exact hJ m _ _ (aCP m) ⟨oO,z,g1,fun p hp=>Yv p (g2 p hp)⟩
    |_=>injection g1 with g1;subst g1;exact Yv _ (g2 _ sS)
  |region id ops dr=>
   simp only[iB]at h;have YS:oA P (xQ T fns pr n):=pI hT hf hp (fun N c fr st L hx=>ih N c fr st L hx)
   split at h
   .rename_i l hx;injection h with h;subst h;have Zm:Tg T (xQ T fns pr n) N ops dr fr st=some l:=hx;have fin:∀ f s,(f,s)∈l->jI (l.map fun p=>(Exit.normal,p.1,p.2)) .normal f s:=fun f s hh=>aAm.2 ⟨(f,s),hh,rfl⟩;unfold Tg at Zm
    split at Zm
    .rename_i hk;cases dr with
     |false=>simp only at Zm;refine lY hT (List.range N) hk fun J hJ=>?_;exact IC (fun f s hh=>hJ _ _ (fin f s hh)) _ _ _ (Bl (N:=N) (R:=l) YS _ _ _ l hk Zm (fun p hp=>hp))
     |true=>
      simp only at Zm;unfold Vp at Zm
      split at Zm
      .rename_i L1 W8
       split at Zm
       .rename_i hall;injection Zm with Zm;subst Zm;intro a w g hi hr hs hd;refine wp_region_any hm ?_
        have hA:=Bj (N:=N) (B:=L1.flatMap fun q=>q.2.2.1) (Xs:=st) (R:=L1.map fun p=>(p.1,p.2.1)) YS hk _ _ fr st L1 W8 (fun p hp=>⟨aAm.2 ⟨p,hp,rfl⟩,fun l' Yu=>aAT.2 ⟨p,hp,Yu⟩,fun s J5=>by
         rw[aBC]at hall;have:=hall p hp;rw[aBC]at this
         exact Lh (this s J5)⟩)
        have Zs:Ext w g { w with drawn:=w.drawn+1 } g:=dH w g;exact nE hT hk (fun f s hh=>fin f s hh) _ _ fr st a { w with drawn:=w.drawn+1 } g hi.drew (hr.mono Zs) hs hd Zs hA
       .cases Zm
      .cases Zm
    .cases Zm
   .cases h
  |_=>simp[iB]at h
end
def Gl:List (Nat×Func)->FuncId->Option Func
 |[],_=>none
 |p::l,f=>if f=p.1 then some p.2 else Gl l f
def Uw(P:Program):List (Nat×Func)->Prop
 |[]=>True
 |p::l=>(P.funcs[p.1]?=some p.2/\(p.2.name== "runtime.NumGoroutine")=false)/\Uw P l
theorem GY{P:Program}:∀(l:List (Nat×Func)),Uw P l->DV P (Gl l)
 |[],_,f,fn,h=>by simp[Gl]at h
 |p::l,ha,f,fn,h=>by
  simp only[Gl]at h
  split at h
  .rename_i hf;injection h with h;subst hf h;exact ha.1
  .exact GY l ha.2 f fn h
theorem Da{P:Program}{f:FuncId}{st:St}{R:Value->Prop}(h:aB P f [] ⟨1,fun _=>.dead⟩ fun r _=>∃ v,r=.atom v/\R v):aB P f [] st fun r st'=>(∃ v,r=.atom v/\R v)/\st'=st:=by
 refine⟨h.1,fun w g vs hi hr=>?_⟩;have hi0:Inv w ⟨1,fun _=>none,fun _=>0,fun _=>0,fun _=>false⟩ ⟨1,fun _=>.dead⟩:=by refine⟨rfl,by decide,fun _ _=>rfl,fun l hl=>hl.elim,fun l l' hl=>hl.elim,fun l e s n hl=>(by cases hl),fun l e s cs hl=>(by cases hl),fun l ag ks es hl=>(by cases hl),fun l e n hl=>(by cases hl),sP (hi.aside.glob.phi fun _ _ _ _ _=>rfl) fun _=>rfl⟩
 refine(h.2 w _ vs hi0 (by simp only[aC]at hr ⊢;exact hr)).mono ?_;rintro e w' ⟨v,r,st',g',rfl,⟨v',rfl,Q4⟩,YF,_,he⟩;have Ym:∀ b,b<w.heap.size->w'.heap[b]?=w.heap[b]?:=fun b hb=>(he.still b hb rfl).2;have G6:Ext w g w' g:=by refine⟨he.os,he.tape,he.output,he.size,aAi _,fun _ _=>rfl,fun _ _=>rfl,fun _ _=>rfl,fun b hb hn=>⟨hn,Ym b hb⟩,fun b k hb hk=>⟨k,hk,aAi _,fun o _=>World.cell?_of_block (w:=w) (Ym b hb)⟩⟩
 refine⟨v,_,st,g,rfl,⟨⟨v',rfl,Q4⟩,rfl⟩,YF,?_,G6⟩;refine⟨hi.next,hi.pos,hi.fresh,fun l hl=>aAp (hi.lt l hl) he.size,hi.inj,?_,?_,?_,?_,hi.aside.keep G6 fun _ _=>rfl⟩
 .intro l e s n hl;obtain⟨h1,h2,h3,h4⟩:=hi.own l e s n hl;refine⟨h1,h2,h3,fun Xl=>?_⟩;obtain⟨Xo,k1,k2,k3⟩:=h4 Xl;exact⟨Xo,by rw[Ym _ (aAt.1 k1).1];exact k1,k2,k3⟩
 .intro l e s cs hl;obtain⟨h1,h2,h3⟩:=hi.box l e s cs hl;refine⟨h1,h2,fun Xl=>?_⟩;obtain⟨Xo,k1,k2,k3,k4,k5⟩:=h3 Xl;exact⟨Xo,by rw[Ym _ (aAt.1 k1).1];exact k1,k2,k3,aC.mono G6 _ _ k4,k5⟩
 .intro l ag ks es hl;have hm:=hi.mp l ag ks es hl;exact hm.keep G6 (hi.map_lt hl) (Ym _ hm.blk_lt) rfl
 .intro l e n hl;have hm:=hi.qu l e n hl;exact hm.keep G6 (hi.que_lt hl) (Ym _ hm.blk_lt) rfl
def isB(b:Bool)(p:LV×St):Bool:=match p.1 with
 |.atom (.bool c)=>c==b
 |_=>false
def Oh(r:Option (List (LV×St)))(b:Bool):Bool:=match r with
 |some l=>l.all (isB b)
 |none=>false
theorem sC{P:Program}{T:Tab}{fns:FuncId->Option Func}{pr:jD}(hT:bF P T)(hf:DV P fns)(hp:oA P pr)(hm:P.follows .mixedOrders=true)(n:Nat){f:FuncId}(b:Bool){st:St}
 (h:Oh (xQ T fns pr n f [] ⟨1,fun _=>.dead⟩) b=true):aB P f [] st fun r st'=>r=.atom (.bool b)/\st'=st:=by
 cases hx:xQ T fns pr n f [] ⟨1,fun _=>.dead⟩ with
 |none=>rw[hx]at h;simp[Oh]at h
 |some l=>
  rw[hx]at h;simp only[Oh]at h;rw[aBC]at h;have:=pI hT hf hp (fun N c fr st L hx=>Bc hT hf hp hm n N c fr st L hx) f [] _ l hx;refine(Da (R:=fun v=>v=.bool b) (this.mono ?_)).mono ?_
  .intro r1 Yt M4;have hb:=h _ M4;unfold isB at hb
   split at hb
   .rename_i c hc;simp only at hc;simp at hb;exact⟨_,hc,by rw[hb]⟩
   .cases hb
  .rintro r1 Yt ⟨⟨v,rfl,rfl⟩,rfl⟩;exact⟨rfl,rfl⟩
end Aw
end Go.Proofs.YtempldclppogmaaGreatDoor
