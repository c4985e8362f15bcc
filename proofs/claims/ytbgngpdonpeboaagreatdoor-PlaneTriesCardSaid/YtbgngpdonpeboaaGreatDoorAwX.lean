/- An evaluator of calls whose arguments are written out; what it finds is so. No program is named here. -/
import Derived.Test.YtbgngpdonpeboaaGreatDoorAwDraw
import Derived.Tactics
set_option linter.unusedVariables false
set_option linter.unusedSimpArgs false
namespace Go.Proofs.YtbgngpdonpeboaaGreatDoor
namespace Aw
open Go Go.RowKit
mutual
def Uz:LV->LV->Bool
 |.dead,.dead=>true
 |.nil,.nil=>true
 |.emp,.emp=>true
 |.atom (.int k a),.atom (.int k' b)=>k==k'&&a==b
 |.atom (.bool a),.atom (.bool b)=>a==b
 |.sl t n cs,.sl t' n' cs'=>t==t'&&n==n'&&vN cs cs'
 |.ms l o n,.ms l' o' n'=>l==l'&&o==o'&&n==n'
 |.ag cs,.ag cs'=>vN cs cs'
 |.pt l o,.pt l' o'=>l==l'&&o==o'
 |.ep cs,.ep cs'=>vN cs cs'
 |.mp l,.mp l'=>l==l'
 |.fn (.func f) cs,.fn (.func f') cs'=>f==f'&&vN cs cs'
 |.tu cs,.tu cs'=>vN cs cs'
 |_,_=>false
def vN:List LV->List LV->Bool
 |[],[]=>true
 |a::as1,b::bs=>Uz a b&&vN as1 bs
 |_,_=>false
end
mutual
theorem Bh:∀(a b:LV),Uz a b=true->a=b
 |a,b,h=>by
  unfold Uz at h
  split at h
  .rfl
  .rfl
  .rfl
  .grind
  .grind
  .simp at h;obtain⟨⟨rfl,rfl⟩,h⟩:=h;rw[fH _ _ h]
  .grind
  .rw[fH _ _ h]
  .grind
  .rw[fH _ _ h]
  .grind
  .simp at h;obtain⟨rfl,h⟩:=h;rw[fH _ _ h]
  .rw[fH _ _ h]
  grind
theorem fH:∀(a b:List LV),vN a b=true->a=b
 |a,b,h=>by
  unfold vN at h
  split at h
  .rfl
  .simp at h;rw[Bh _ _ h.1,fH _ _ h.2]
  grind
end
def DX:List (List Int×LV)->List (List Int×LV)->Bool
 |[],[]=>true
 |p::a,q::b=>p.1==q.1&&Uz p.2 q.2&&DX a b
 |_,_=>false
theorem yN:∀ a b,DX a b=true->a=b
 |[],[],_=>rfl
 |p::a,q::b,h=>by
  simp only[DX,aAX,aDV]at h;rw[yN a b h.2]
  grind [Bh]
 |[],_::_,h=>by grind [DX]
 |_::_,[],h=>by grind [DX]
def KJ:cN->cN->Bool
 |.dead,.dead=>true
 |.own e s n,.own e' s' n'=>e==e'&&s==s'&&n==n'
 |.box e s cs,.box e' s' cs'=>e==e'&&s==s'&&vN cs cs'
 |.map ag ks es,.map ag' V5 es'=>ag==ag'&&decide (ks=V5)&&DX es es'
 |_,_=>false
theorem Fj(a b:cN)(h:KJ a b=true):a=b:=by
 unfold KJ at h
 split at h
 .rfl
 .grind
 .grind [fH]
 .grind [yN]
 grind
abbrev kG:=FuncId->List LV->St->Option (List (LV×St))
def Hv{α β:Type}(f:α->Option (List β)):List α->Option (List β)
 |[]=>some []
 |a::l=>match f a with
  |some x=>match Hv f l with
   |some y=>some (x++y)
   |none=>none
  |none=>none
theorem kT{α β:Type}{f:α->Option (List β)}:∀ {l:List α} {r:List β},Hv f l=some r->∀ a∈l,∃ x,f a=some x/\∀ b∈x,b∈r
 |[],r,_,a,ha=>by grind
 |c::l,r,h,a,ha=>by
  simp only[Hv]at h
  split at h
  .rename_i x hx
   split at h
   .rename_i y hy;injection h with h;subst h;rcases aAe.1 ha with rfl|ha
    .grind
    .obtain⟨z,h1,h2⟩:=kT hy a ha
     grind
   grind
  grind
def KE(T:Tab)(o:Oper)(fr:Frm)(st:St):Option (LV×St):=
 match aop T o.dst.isSome o fr st with
 |some r=>if @decide r.c r.d then some (r.v,r.s)else none
 |none=>none
theorem uE{T:Tab}{o:Oper}{fr:Frm}{st st':St}{v:LV}(h:KE T o fr st=some (v,st')):∃ r,aop T o.dst.isSome o fr st=some r/\r.c/\r.v=v/\r.s=st':=by
 grind [KE]
def Oc:Option (LV×St)->Option (List (LV×St))
 |some p=>some [p]
 |none=>none
def VH(call:kG)(x:Operand)(args:Array Operand)(fr:Frm)(st:St):Option (List (LV×St)):=
 match eY (aH fr x) with
 |some (f,Gj)=>call f ((args.toList.map (aH fr))++Gj) st
 |none=>none
def WW(T:Tab)(call:kG)(o:Oper)(fr:Frm)(st:St):Option (List (LV×St)):=
 match o.op with
 |.call { callee:=.value x,args:=args,argTypes:=_ }=>VH call x args fr st
 |_=>match tN T o fr with
  |some (ng,n)=>if n=0 then some [(.atom (.bool (false != ng)),st),(.atom (.bool (true != ng)),st)]else some [(.atom (.bool (false != ng)),st)]
  |none=>Oc (KE T o fr st)
def PI(T:Tab)(call:kG)(ops:Array Oper):List Oper->Frm->St->Option (List (Frm×St))
 |[],fr,st=>some [(fr,st)]
 |o::rest,fr,st=>match bB ops fr o.guard with
  |some true=>match WW T call o fr st with
   |some rs=>Hv (fun p=>PI T call ops rest (bM fr o.dst p.1) p.2) rs
   |none=>none
  |some false=>PI T call ops rest (bM fr o.dst (.tu [])) st
  |none=>none
def pC(P:Program)(call:kG):Prop:=∀ f args st rs,call f args st=some rs->aB P f args st fun r1 st1=>(r1,st1)∈rs
theorem xP{N:Nat}{d:Option Nat}(h:pI N d=true):inM (List.range N) d=d.isSome:=by
 cases d with
 |none=>rfl
 |some d=>grind [pI,inM]
theorem Jf{P:Program}{T:Tab}{N:Nat}{ops:Array Oper}{M:List Nat}{J:Frm->St->Prop}{rest:List Oper}{o:Oper}{fr:Frm}{st:St}{x:Operand}{args:Array Operand}{tys:Array TypeId}(hop:o.op=.call { callee:=.value x,args:=args,argTypes:=tys }):
 vB P T N ops M J rest o fr st=Kz P T N ops M J rest o.dst fr st (args.toList.map (aH fr)) (eY (aH fr x)):=by
 grind [vB]
theorem KU{P:Program}{T:Tab}{N:Nat}{ops:Array Oper}{M:List Nat}{J:Frm->St->Prop}{rest:List Oper}{o:Oper}{fr:Frm}{st:St}(c7:∀(x:Operand) (args:Array Operand) (tys:Array TypeId),o.op=.call { callee:=.value x,args:=args,argTypes:=tys }->False):
 vB P T N ops M J rest o fr st=De P T N ops M J rest o fr st (tN T o fr):=by
 grind [vB]
theorem CK{P:Program}{T:Tab}{call:kG}{ops:Array Oper}{N:Nat}(hc:pC P call){R:List (Frm×St)}:∀(rest:List Oper) (fr:Frm) (st:St) (L:List (Frm×St)),cV N ops rest=true->PI T call ops rest fr st=some L->(∀ p∈L,p∈R)->
 cM P T N ops (List.range N) (fun f s=>(f,s)∈R) rest fr st
 |[],fr,st,L,_,h,hR=>by simp only[PI,aAb]at h;subst h;exact hR _ sS
 |o::rest,fr,st,L,hk,h,hR=>by
  simp only[cV,List.all_cons,aAX]at hk;obtain⟨⟨hd,_⟩,hk⟩:=hk;have ih:=CK (T:=T) (ops:=ops) (N:=N) hc (R:=R) rest;have P0:cV N ops rest=true:=hk;rw[Jg];simp only[PI]at h
  split at h
  .rename_i hw;rw[hw,Qh]
   split at h
   .rename_i rs hx;have all:=kT h;have go:∀ v st1,(v,st1)∈rs->cM P T N ops (List.range N) (fun f s=>(f,s)∈R) rest (bM fr o.dst v) st1:=by intro v st1 hm;obtain⟨x,h1,h2⟩:=all (v,st1) hm;exact ih _ _ x P0 h1 (fun p hp=>hR p (h2 p hp))
    unfold WW at hx
    split at hx
    .rename_i x args tys hop;rw[Jf hop];unfold VH at hx
     split at hx
     .rename_i f Gj hf;rw[hf];exact⟨_,hc _ _ _ _ hx,fun r st2 hr=>go r st2 hr⟩
     grind
    .rename_i c7;rw[KU c7]
     split at hx
     .rename_i ng n hn;rw[hn]
      split at hx
      .rename_i X9;injection hx with hx;subst hx;intro b hb;cases b with
       |true=>grind
       |false=>grind
      .rename_i X9;injection hx with hx;subst hx;intro b hb
       grind
     .rename_i hn;rw[hn];cases hxa:KE T o fr st with
      |none=>grind [Oc]
      |some p=>obtain⟨v,st1⟩:=p;rw[hxa]at hx;simp only[Oc,aAb]at hx;subst hx;obtain⟨r,h1,h2,rfl,rfl⟩:=uE hxa;simp only[De,xP hd,h1];exact⟨h2,go _ _ sS⟩
   grind
  .grind [MK]
  grind
def sbB(B:List Nat)(j9 st:St):Bool:=B.all fun l=>KJ (st.H l) (j9.H l)
theorem NB{B:List Nat}{j9 st:St}(h:sbB B j9 st=true):SB B j9 st:=by
 intro l hl
 grind [sbB,Fj]
def Sa:LV->Option (List Nat)
 |.pt l _=>some [l]
 |.ep _=>some []
 |_=>none
theorem JE{B L:List Nat}{x:LV}(h:Sa x=some L)(hB:∀ l∈L,l∈B):Nc B x:=by
 unfold Sa at h
 split at h
 .simp only[aAb]at h;subst h;exact hB _ sS
 .simp[Nc]
 grind
def WJ(T:Tab)(call:kG)(o:Oper)(fr:Frm)(st:St):Option (List (LV×St)):=
 match o.op with
 |.call { callee:=.value x,args:=args,argTypes:=_ }=>VH call x args fr st
 |_=>Oc (KE T o fr st)
abbrev XD:=Frm×St×List Nat×List St
def Ko(L:List Nat)(S:List St):Option (List XD)->Option (List XD)
 |some (q::l)=>some ((q::l).map fun p=>(p.1,p.2.1,L++p.2.2.1,S++p.2.2.2))
 |_=>none
theorem Nz{L:List Nat}{S:List St}{x:Option (List XD)}{r:List XD}(h:Ko L S x=some r):∃ l,x=some l/\l≠[]/\∀ p∈l,(p.1,p.2.1,L++p.2.2.1,S++p.2.2.2)∈r:=by
 unfold Ko at h
 grind
def Mq(ops:Array Oper)(i:Nat):Bool:=match ops[i]? with
 |some o=>aS o.op
 |none=>false
def IK(T:Tab)(call:kG)(ops:Array Oper):Nat->Array Bool->Frm->St->Option (List XD)
 |0,listed,fr,st=>match Region.ready .any ops listed with
  |[]=>some [(fr,st,[],[])]
  |_=>none
 |n+1,listed,fr,st=>match(Region.ready .any ops listed).find? (fun i=>Mq ops i&&Region.free .any ops listed i) with
  |some i=>match ops[i]? with
   |some o=>match bB ops fr o.guard with
    |some true=>match Sa (mU fr o.op),KE T o fr st with
     |some L,some (v,_)=>Ko L (if eW o.op then [st]else []) (IK T call ops n (listed.setIfInBounds i true) (bM fr o.dst v) st)
     |_,_=>none
    |some false=>Ko [] (if eW o.op then [st]else []) (IK T call ops n (listed.setIfInBounds i true) (bM fr o.dst (.tu [])) st)
    |none=>none
   |none=>none
  |none=>match Region.ready .any ops listed with
   |[]=>some [(fr,st,[],[])]
   |rd=>Hv (fun i=>match ops[i]? with
    |some o=>if aS o.op then none else match bB ops fr o.guard with
     |some true=>match WJ T call o fr st with
      |some rs=>Hv (fun p=>Ko [] (if kH ops i then [p.2]else []) (IK T call ops n (listed.setIfInBounds i true) (bM fr o.dst p.1) p.2)) rs
      |none=>none
     |some false=>Ko [] (if kH ops i then [st]else []) (IK T call ops n (listed.setIfInBounds i true) (bM fr o.dst (.tu [])) st)
     |none=>none
    |none=>none) rd
theorem BE{P:Program}{T:Tab}{call:kG}{ops:Array Oper}{N:Nat}(hc:pC P call)(hk:cV N ops ops.toList=true){B:List Nat}{j9:St}{R:List (Frm×St)}:∀(n:Nat) (listed:Array Bool) (fr:Frm) (st:St) (L:List XD),
 IK T call ops n listed fr st=some L->(∀ p∈L,(p.1,p.2.1)∈R/\(∀ l∈p.2.2.1,l∈B)/\∀ s∈p.2.2.2,SB B j9 s)->jX P T ops (List.range N) (SB B j9) (fun f s=>(f,s)∈R) n listed fr st
 |0,listed,fr,st,L,h,hR=>by
  simp only[IK]at h
  split at h
  .rename_i hr;injection h with h;subst h;exact⟨hr,(hR (fr,st,[],[]) sS).1⟩
  grind
 |n+1,listed,fr,st,L,h,hR=>by
  have ih:=BE (T:=T) (N:=N) hc hk (B:=B) (j9:=j9) (R:=R) n;have hdst:∀(i:Nat) (o:Oper),ops[i]?=some o->pI N o.dst=true:=by intro i o ho;unfold cV at hk;rw[aBJ]at hk;have:=hk o (aEC.2 (aEs ho));simp only[aAX]at this;exact this.1
  have wit:∀(x:Option (List XD)) (L':List Nat) (S:List St) (r:List XD),Ko L' S x=some r->(∀ p∈r,(p.1,p.2.1)∈R/\(∀ l∈p.2.2.1,l∈B)/\∀ s∈p.2.2.2,SB B j9 s)->
   ∃ l,x=some l/\(∀ p∈l,(p.1,p.2.1)∈R/\(∀ l∈p.2.2.1,l∈B)/\∀ s∈p.2.2.2,SB B j9 s)/\(∀ q∈L',q∈B)/\∀ s∈S,SB B j9 s:=by
   intro x L' S r hx hr;obtain⟨l,h1,c7,h2⟩:=Nz hx;refine⟨l,h1,fun p hp=>?_,?_⟩
   .obtain⟨a1,a2,a3⟩:=hr _ (h2 p hp)
    grind
   .obtain⟨p,hp⟩:=aAP l c7;obtain⟨_,a2,a3⟩:=hr _ (h2 p hp)
    grind
  simp only[IK]at h
  split at h
  .rename_i i hf;have hfi:=aCS hf;have N5:=aBY hf;simp only[aAX]at hfi
   split at h
   .rename_i o ho;have hq:aS o.op=true:=by have:=hfi.1;unfold Mq at this;rw[ho]at this;exact this
    have hm:=xP (hdst i o ho)
    split at h
    .rename_i hw
     split at h
     .rename_i L' v st1 hL hx;obtain⟨l,h1,h2,b1,b2⟩:=wit _ _ _ _ h hR;obtain⟨r,k1,k2,rfl,rfl⟩:=uE hx;have hS:eW o.op=true->SB B j9 st:=fun hh=>b2 st (by grind);refine iZ ho n listed fr st (Region.free_spec ho hfi.2) N5 (.inl ⟨hw,hq,fun st' hS'=>?_⟩) hS hq (ih _ _ _ l h1 h2);have hpt:=JE hL b1;refine⟨@bR.mk r.c r.v st' r.d,?_,k2,rfl,rfl⟩;rw[hm];refine pF hq (fun l' k O5=>?_) k1;rw[O5]at hpt;have hh:eW o.op=true:=FQ O5;rw[hS' hh l' hpt,hS hh l' hpt]
     grind
    .rename_i hw;obtain⟨l,h1,h2,b1,b2⟩:=wit _ _ _ _ h hR;exact iZ ho n listed fr st (Region.free_spec ho hfi.2) N5 (.inr ⟨hw,rfl⟩) (fun hh=>b2 st (by grind)) hq (ih _ _ _ l h1 h2)
    grind
   grind
  .split at h
   .rename_i hr;injection h with h;subst h;refine⟨fun _=>(hR (fr,st,[],[]) sS).1,fun i hi=>by grind⟩
   .rename_i hr;refine⟨fun h0=>absurd h0 hr,fun i hi=>?_⟩;obtain⟨x,h1,h2⟩:=kT h i hi
    split at h1
    .rename_i o ho;refine⟨o,ho,?_⟩;have hm:=xP (hdst i o ho)
     split at h1
     .grind
     .rename_i hq;have hq:aS o.op=false:=by simpa using hq
      have hKx:∀ st',(kH ops i=true->SB B j9 st')->Kx ops (SB B j9) i o st st':=by intro st' hh;unfold Kx;simp only[hq,aBg,aBS];exact hh
      unfold kX
      split at h1
      .rename_i hw;rw[hw];refine⟨fun _=>?_,(fun hb=>by grind)⟩
       split at h1
       .rename_i rs hx;have all:=kT h1;have go:∀ v st1,(v,st1)∈rs->Kx ops (SB B j9) i o st st1/\jX P T ops (List.range N) (SB B j9) (fun f s=>(f,s)∈R) n (listed.setIfInBounds i true) (bM fr o.dst v) st1:=by intro v st1 hmm;obtain⟨y,g1,g2⟩:=all (v,st1) hmm;obtain⟨l,q1,q2,_,q4⟩:=wit _ _ _ _ g1 (fun p hp=>hR p (h2 p (g2 p hp)));exact⟨hKx _ (fun hh=>q4 st1 (by grind)),ih _ _ _ l q1 q2⟩
        unfold WJ at hx
        split at hx
        .rename_i x' args tys hop;unfold VH at hx
         split at hx
         .rename_i f Gj W4;rw[hop];simp only[W4];exact⟨_,hc _ _ _ _ hx,fun r st2 T0=>go r st2 T0⟩
         grind
        .rename_i c7;cases hxa:KE T o fr st with
         |none=>grind [Oc]
         |some p=>
          obtain⟨v,st1⟩:=p;rw[hxa]at hx;simp only[Oc,aAb]at hx;subst hx;obtain⟨r,k1,k2,rfl,rfl⟩:=uE hxa
          grind
       grind
      .rename_i hw;rw[hw];refine⟨(fun hb=>by grind),fun _=>?_⟩;obtain⟨l,q1,q2,_,q4⟩:=wit _ _ _ _ h1 (fun p hp=>hR p (h2 p hp))
       grind
      grind
    grind
def JC(T:Tab)(fr:Frm)(st:St):List ResultVar->Option (List LV)
 |[]=>some []
 |r::rs=>match Bc T fr st r,JC T fr st rs with
  |some x,some l=>if @decide x.c x.d then some (x.v::l)else none
  |_,_=>none
theorem Ba{T:Tab}{fr:Frm}{st:St}:∀(rs:List ResultVar) (l:List LV),JC T fr st rs=some l->∃ c,vX T fr st rs=some (c,l)/\c
 |[],l,h=>by simp only[JC,aAb]at h;subst h;exact⟨True,rfl,trivial⟩
 |r::rs,l,h=>by
  simp only[JC]at h
  split at h
  .rename_i x l' hx hl
   split at h
   .rename_i hc;simp only[aAb]at h;subst h;obtain⟨c,h1,h2⟩:=Ba rs l' hl;exact⟨x.c/\c,by grind [vX],@aCl _ x.d hc,h2⟩
   grind
  grind
abbrev XR:=Exit×Frm×St
def Yk(T:Tab)(rs:List ResultVar)(p:XR):Option (List (LV×St)):=match p.1 with
 |.ret=>match JC T p.2.1 p.2.2 rs with
  |some l=>some [(one l,p.2.2)]
  |none=>none
 |.normal=>match JC T p.2.1 p.2.2 rs with
  |some l=>some [(one l,p.2.2)]
  |none=>none
 |_=>none
def Mz(T:Tab)(rs:List ResultVar):Option (List XR)->Option (List (LV×St))
 |some l=>Hv (Yk T rs) l
 |none=>none
def Zg(j9:St):Option (List XD)->Option (List (Frm×St))
 |some l=>if l.all (fun p=>p.2.2.2.all (sbB (l.flatMap fun q=>q.2.2.1) j9))then some (l.map fun p=>(p.1,p.2.1))else none
 |none=>none
def XX(T:Tab)(call:kG)(N:Nat)(ops:Array Oper)(dr:Bool)(fr:Frm)(st:St):Option (List (Frm×St)):=
 if cV N ops ops.toList then
  match dr with
  |false=>PI T call ops ops.toList fr st
  |true=>Zg st (IK T call ops ops.size (Array.replicate ops.size false) fr st)
 else none
def WQ(g:Frm->St->Option (List XR))(p:XR):Option (List XR):=match p.1 with
 |.normal=>g p.2.1 p.2.2
 |_=>some [p]
def Ky(g:Frm->St->Option (List XR)):Option (List XR)->Option (List XR)
 |some l=>Hv (WQ g) l
 |none=>none
def Uf(id:Nat)(p:XR):XR:=match p.1 with
 |.exit i=>if i=id then(.normal,p.2)else p
 |_=>p
def noGoto(p:XR):Bool:=match p.1 with
 |.goto _=>false
 |_=>true
def iS(T:Tab)(fns:FuncId->Option Func)(pr:kG):Nat->Nat->Code->Frm->St->Option (List XR)
 |0,_,_,_,_=>none
 |n+1,N,c,fr,st=>match c with
  |.skip=>some [(.normal,fr,st)]
  |.label _=>some [(.normal,fr,st)]
  |.exit i=>some [(.exit i,fr,st)]
  |.ret=>some [(.ret,fr,st)]
  |.seq a b=>Ky (fun c8 st'=>iS T fns pr n N b c8 st') (iS T fns pr n N a fr st)
  |.block id c=>match iS T fns pr n N c fr st with
   |some l=>some (l.map (Uf id))
   |none=>none
  |.scope c=>match iS T fns pr n N c fr st with
   |some l=>if l.all noGoto then some l else none
   |none=>none
  |.cond x a b=>match aH fr x with
   |.atom (.bool true)=>iS T fns pr n N a fr st
   |.atom (.bool false)=>iS T fns pr n N b fr st
   |_=>none
  |.loop c=>Ky (fun c8 st'=>iS T fns pr n N (.loop c) c8 st') (iS T fns pr n N c fr st)
  |.region _ ops dr=>match XX T (fun f args st=>match pr f args st with
    |some r=>some r
    |none=>match fns f with
     |some fn=>match fn.body with
      |some c=>if args.length<=fn.ntmps then Mz T fn.results.toList (iS T fns pr n fn.ntmps c (uF args) st)else none
      |none=>none
     |none=>none) N ops dr fr st with
   |some l=>some (l.map fun p=>(.normal,p.1,p.2))
   |none=>none
  |_=>none
def yI(T:Tab)(fns:FuncId->Option Func)(pr:kG)(n:Nat):kG:=fun f args st=>match pr f args st with
 |some r=>some r
 |none=>match fns f with
  |some fn=>match fn.body with
   |some c=>if args.length<=fn.ntmps then Mz T fn.results.toList (iS T fns pr n fn.ntmps c (uF args) st)else none
   |none=>none
  |none=>none
def DP(P:Program)(fns:FuncId->Option Func):Prop:=∀ f fn,fns f=some fn->P.funcs[f]?=some fn/\(fn.name== "runtime.NumGoroutine")=false
section
variable {P:Program} {T:Tab} {fns:FuncId->Option Func} {pr:kG}
def kD(L:List XR):AQ:=fun e f s=>(e,f,s)∈L
theorem pT(hT:aZ P T)(hf:DP P fns)(hp:pC P pr){n:Nat}(ih:∀ N c fr st L,iS T fns pr n N c fr st=some L->AWp P N c (kD L) fr st):pC P (yI T fns pr n):=by
 intro f args st rs h;unfold yI at h
 split at h
 .rename_i q hq;injection h with h;subst h;exact hp _ _ _ _ hq
 split at h
 .rename_i fn hfn;obtain⟨h1,h2⟩:=hf f fn hfn
  split at h
  .rename_i c hb
   split at h
   .rename_i hlen;cases hx:iS T fns pr n fn.ntmps c (uF args) st with
    |none=>grind [Mz]
    |some L=>
     rw[hx]at h;simp only[Mz]at h;have all:=kT h;refine qO hT h1 hb h2 rfl rfl hlen (dD (ih _ _ _ _ _ hx) ?_);intro e fr1 st1 hm;obtain⟨y,g1,g2⟩:=all (e,fr1,st1) hm;rw[uG];have key:(match JC T fr1 st1 fn.results.toList with|some l=>some [(one l,st1)]|none=>none)=some y->zH T (fun r1 O4=>(r1,O4)∈rs) fr1 st1 fn.results.toList:=by
      intro hres;cases hr:JC T fr1 st1 fn.results.toList with
      |none=>grind
      |some l=>
       grind [Ba,zH]
     unfold Yk at g1;cases e with
     |normal=>exact key g1
     |ret=>exact key g1
     |_=>grind
   grind
  grind
 grind
theorem BL{g:Frm->St->Option (List XR)}{x:Option (List XR)}{L:List XR}(h:Ky g x=some L):∃ l,x=some l/\∀ p∈l,(∃ y,WQ g p=some y/\∀ q∈y,q∈L):=by
 unfold Ky at h
 grind [kT]
theorem JR{N:Nat}{ops:Array Oper}{M:List Nat}{J J':Frm->St->Prop}(hJ:∀ f s,J f s->J' f s):∀(rest:List Oper) (fr:Frm) (st:St),cM P T N ops M J rest fr st->cM P T N ops M J' rest fr st:=by
 intro rest;induction rest with
 |nil=>intro fr st h;exact hJ _ _ h
 |cons o rest ihr=>
  intro fr st hh;rw[Jg]at hh ⊢;unfold BC at hh ⊢
  split at hh
  .refine⟨fun hb=>?_,fun hb=>ihr _ _ (hh.2 hb)⟩;have h1:=hh.1 hb;unfold vB at h1 ⊢
   split at h1
   .unfold Kz at h1 ⊢
    split at h1
    .obtain⟨R,k1,k2⟩:=h1;exact⟨R,k1,fun r st' hr=>ihr _ _ (k2 r st' hr)⟩
    omega
   .unfold De at h1 ⊢
    split at h1
    .simp_all
    .unfold Lc at h1 ⊢
     grind
  omega
theorem CZ(hT:aZ P T)(hf:DP P fns)(hp:pC P pr)(hm:P.follows .mixedOrders=true):∀(n N:Nat) (c:Code) (fr:Frm) (st:St) (L:List XR),iS T fns pr n N c fr st=some L->AWp P N c (kD L) fr st:=by
 intro n;induction n using Nat.strongRecOn with
 |ind n ihs=>
  intro N c fr st L h;cases n with
  |zero=>grind [iS]
  |succ n=>
  have ih:=ihs n (aDe n);cases c with
  |skip=>simp only[iS,aAb]at h;subst h;exact qK (Q:=kD _) (k:=[]) (by simp[uG,kD])
  |label l=>simp only[iS,aAb]at h;subst h;exact DT (Q:=kD _) (k:=[]) (by simp[uG,kD])
  |exit i=>simp only[iS,aAb]at h;subst h;exact qX (Q:=kD _) (k:=[]) (by simp[uG,kD])
  |ret=>simp only[iS,aAb]at h;subst h;exact qR (Q:=kD _) (k:=[]) (by simp[uG,kD])
  |seq x y=>
   refine qS (Q:=kD L) (k:=[]) ?_;simp only[iS]at h;obtain⟨l,hx,all⟩:=BL h;refine dD (ih _ _ _ _ _ hx) ?_;intro e fr2 st2 hmm;obtain⟨z,g1,g2⟩:=all _ hmm;cases e with
   |normal=>rw[jK];exact dD (ih _ _ _ _ _ g1) (fun e f s hh=>g2 _ hh)
   |_=>injection g1 with g1;subst g1;exact g2 _ sS
  |block id x=>
   refine qB (Q:=kD L) (k:=[]) ?_;simp only[iS]at h
   split at h
   .rename_i l hx;injection h with h;subst h;refine dD (ih _ _ _ _ _ hx) ?_;intro e fr2 st2 hmm;have j5:Uf id (e,fr2,st2)∈l.map (Uf id):=aAi.2 ⟨_,hmm,rfl⟩;cases e with
    |exit i=>
     rw[mF];simp only[Uf]at j5
     split
     .rename_i hi;rw[aAj hi]at j5;exact j5
     .rename_i hi;rw[aAa hi]at j5;exact j5
    |_=>exact j5
   grind
  |scope x=>
   simp only[iS]at h
   split at h
   .rename_i l hx
    split at h
    .rename_i hall;injection h with h;subst h;refine PE (Q:=kD l) (k:=[]) (ih _ _ _ _ _ hx) ?_;intro k fr2 st2 hmm;have:=aBJ.1 hall _ hmm
     grind [noGoto]
    grind
   grind
  |cond x a b=>
   refine qC (Q:=kD L) (k:=[]) ?_;simp only[iS]at h
   split at h
   .rename_i hx;rw[hx,lN];exact⟨fun _=>ih _ _ _ _ _ h,(fun hb=>by grind)⟩
   .rename_i hx;rw[hx,lN];exact⟨(fun hb=>by grind),fun _=>ih _ _ _ _ _ h⟩
   grind
  |loop x=>
   refine qL (Q:=kD L) (k:=[]) (fun m fr st=>m<=n+1/\∃ L',iS T fns pr m N (.loop x) fr st=some L'/\∀ p∈L',p∈L) (n+1) ⟨aAl _,L,h,fun p hp=>hp⟩ ?_;rintro m fr1 st1 ⟨u7,L',hI,L6⟩ J hJ;cases m with
   |zero=>grind [iS]
   |succ m=>
    have ihm:=ihs m oO;simp only[iS]at hI;obtain⟨l,hx,all⟩:=BL hI;refine dD (ihm _ _ _ _ _ hx) ?_;intro e fr2 st2 hmm;obtain⟨z,g1,g2⟩:=all _ hmm;cases e with
    |normal=>rw[GX];exact hJ m _ _ (aDe m) ⟨oO,z,g1,fun p hp=>L6 p (g2 p hp)⟩
    |_=>injection g1 with g1;subst g1;exact L6 _ (g2 _ sS)
  |region id ops dr=>
   simp only[iS]at h;have L3:pC P (yI T fns pr n):=pT hT hf hp (fun N c fr st L hx=>ih N c fr st L hx)
   split at h
   .rename_i l hx;injection h with h;subst h;have U9:XX T (yI T fns pr n) N ops dr fr st=some l:=hx;have fin:∀ f s,(f,s)∈l->kD (l.map fun p=>(Exit.normal,p.1,p.2)) .normal f s:=fun f s hh=>aAi.2 ⟨(f,s),hh,rfl⟩;unfold XX at U9
    split at U9
    .rename_i hk;cases dr with
     |false=>simp only at U9;refine mO hT (List.range N) hk fun J hJ=>?_;exact JR (fun f s hh=>hJ _ _ (fin f s hh)) _ _ _ (CK (N:=N) (R:=l) L3 _ _ _ l hk U9 (fun p hp=>hp))
     |true=>
      simp only at U9;unfold Zg at U9
      split at U9
      .rename_i L1 hxa
       split at U9
       .rename_i hall;injection U9 with U9;subst U9;intro a w g hi hr hs hd;refine wp_region_any hm ?_
        have hA:=BE (N:=N) (B:=L1.flatMap fun q=>q.2.2.1) (j9:=st) (R:=L1.map fun p=>(p.1,p.2.1)) L3 hk _ _ fr st L1 hxa (fun p hp=>⟨aAi.2 ⟨p,hp,rfl⟩,fun l' O5=>aAY.2 ⟨p,hp,O5⟩,fun s hs'=>by
         grind [NB]⟩)
        have W5:Ext w g { w with drawn:=w.drawn+1 } g:=dU w g;exact oJ hT hk (fun f s hh=>fin f s hh) _ _ fr st a { w with drawn:=w.drawn+1 } g hi.drew (hr.mono W5) hs hd W5 hA
       grind
      grind
    grind
   grind
  |_=>grind [iS]
end
def Io:List (Nat×Func)->FuncId->Option Func
 |[],_=>none
 |p::l,f=>if f=p.1 then some p.2 else Io l f
def Zk(P:Program):List (Nat×Func)->Prop
 |[]=>True
 |p::l=>(P.funcs[p.1]?=some p.2/\(p.2.name== "runtime.NumGoroutine")=false)/\Zk P l
theorem Ho{P:Program}:∀(l:List (Nat×Func)),Zk P l->DP P (Io l)
 |[],_,f,fn,h=>by grind [Io]
 |p::l,ha,f,fn,h=>by
  simp only[Io]at h
  split at h
  .rename_i hf;injection h with h;subst hf h;exact ha.1
  .exact Ho l ha.2 f fn h
theorem FG{P:Program}{f:FuncId}{st:St}{R:Value->Prop}(h:aB P f [] ⟨1,fun _=>.dead⟩ fun r _=>∃ v,r=.atom v/\R v):aB P f [] st fun r st'=>(∃ v,r=.atom v/\R v)/\st'=st:=by
 refine⟨h.1,fun w g vs hi hr=>?_⟩;have hi0:Inv w ⟨1,fun _=>none,fun _=>0,fun _=>0,fun _=>false⟩ ⟨1,fun _=>.dead⟩:=by refine⟨rfl,by decide,fun _ _=>rfl,fun l hl=>hl.elim,fun l l' hl=>hl.elim,fun l e s n hl=>(by grind),fun l e s cs hl=>(by grind),fun l ag ks es hl=>(by grind),fun l e n hl=>(by grind),uH (hi.aside.glob.phi fun _ _ _ _ _=>rfl) fun _=>rfl⟩
 refine(h.2 w _ vs hi0 (by grind [aC])).mono ?_;rintro e w' ⟨v,r,st',g',rfl,⟨v',rfl,hv'⟩,K9,_,he⟩;have T6:∀ b,b<w.heap.size->w'.heap[b]?=w.heap[b]?:=fun b hb=>(he.still b hb rfl).2;have he':Ext w g w' g:=by refine⟨he.os,he.tape,he.output,he.size,aAl _,fun _ _=>rfl,fun _ _=>rfl,fun _ _=>rfl,fun b hb hn=>⟨hn,T6 b hb⟩,fun b k hb hk=>⟨k,hk,aAl _,fun o _=>World.cell?_of_block (w:=w) (T6 b hb)⟩⟩
 refine⟨v,_,st,g,rfl,⟨⟨v',rfl,hv'⟩,rfl⟩,K9,?_,he'⟩;refine⟨hi.next,hi.pos,hi.fresh,fun l hl=>aAs (hi.lt l hl) he.size,hi.inj,?_,?_,?_,?_,hi.aside.keep he' fun _ _=>rfl⟩
 .intro l e s n hl;obtain⟨h1,h2,h3,h4⟩:=hi.own l e s n hl
  grind
 .intro l e s cs hl;obtain⟨h1,h2,h3⟩:=hi.box l e s cs hl
  grind [aC.mono]
 .intro l ag ks es hl;have hm:=hi.mp l ag ks es hl;exact hm.keep he' (hi.map_lt hl) (T6 _ hm.blk_lt) rfl
 .intro l e n hl;have hm:=hi.qu l e n hl;exact hm.keep he' (hi.que_lt hl) (T6 _ hm.blk_lt) rfl
def isB(b:Bool)(p:LV×St):Bool:=match p.1 with
 |.atom (.bool c)=>c==b
 |_=>false
def Pv(r:Option (List (LV×St)))(b:Bool):Bool:=match r with
 |some l=>l.all (isB b)
 |none=>false
theorem tA{P:Program}{T:Tab}{fns:FuncId->Option Func}{pr:kG}(hT:aZ P T)(hf:DP P fns)(hp:pC P pr)(hm:P.follows .mixedOrders=true)(n:Nat){f:FuncId}(b:Bool){st:St}
 (h:Pv (yI T fns pr n f [] ⟨1,fun _=>.dead⟩) b=true):aB P f [] st fun r st'=>r=.atom (.bool b)/\st'=st:=by
 cases hx:yI T fns pr n f [] ⟨1,fun _=>.dead⟩ with
 |none=>grind [Pv]
 |some l=>
  rw[hx]at h;simp only[Pv]at h;rw[aBJ]at h;have:=pT hT hf hp (fun N c fr st L hx=>CZ hT hf hp hm n N c fr st L hx) f [] _ l hx;refine(FG (R:=fun v=>v=.bool b) (this.mono ?_)).mono ?_
  .grind [isB]
  grind
end Aw
end Go.Proofs.YtbgngpdonpeboaaGreatDoor
