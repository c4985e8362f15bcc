/- An evaluator of calls whose arguments are written out; what it finds is so. No program is named here. -/
import Derived.Test.YtbgngpdonpeboaaGreatDoorAwDraw
import Derived.Tactics
set_option linter.unusedVariables false
set_option linter.unusedSimpArgs false
namespace Go.Proofs.YtbgngpdonpeboaaGreatDoor
namespace Aw
open Go Go.RowKit
mutual
def TH:LV->LV->Bool
 |.dead,.dead=>true
 |.nil,.nil=>true
 |.emp,.emp=>true
 |.atom (.int k a),.atom (.int k' b)=>k==k'&&a==b
 |.atom (.bool a),.atom (.bool b)=>a==b
 |.sl t n cs,.sl t' n' cs'=>t==t'&&n==n'&&vR cs cs'
 |.ms l o n,.ms l' o' n'=>l==l'&&o==o'&&n==n'
 |.ag cs,.ag cs'=>vR cs cs'
 |.pt l o,.pt l' o'=>l==l'&&o==o'
 |.ep cs,.ep cs'=>vR cs cs'
 |.mp l,.mp l'=>l==l'
 |.fn (.func f) cs,.fn (.func f') cs'=>f==f'&&vR cs cs'
 |.tu cs,.tu cs'=>vR cs cs'
 |_,_=>false
def vR:List LV->List LV->Bool
 |[],[]=>true
 |a::W9,b::bs=>TH a b&&vR W9 bs
 |_,_=>false
end
mutual
theorem BA:∀(a b:LV),TH a b=true->a=b
 |a,b,h=>by
  unfold TH at h
  split at h
  .rfl
  .rfl
  .rfl
  .grind
  .grind
  .simp at h;obtain⟨⟨rfl,rfl⟩,h⟩:=h;rw[fF _ _ h]
  .grind
  .rw[fF _ _ h]
  .grind
  .rw[fF _ _ h]
  .grind
  .simp at h;obtain⟨rfl,h⟩:=h;rw[fF _ _ h]
  .rw[fF _ _ h]
  grind
theorem fF:∀(a b:List LV),vR a b=true->a=b
 |a,b,h=>by
  unfold vR at h
  split at h
  .rfl
  .simp at h;rw[BA _ _ h.1,fF _ _ h.2]
  grind
end
def DZ:List (List Int×LV)->List (List Int×LV)->Bool
 |[],[]=>true
 |p::a,q::b=>p.1==q.1&&TH p.2 q.2&&DZ a b
 |_,_=>false
theorem yA:∀ a b,DZ a b=true->a=b
 |[],[],_=>rfl
 |p::a,q::b,h=>by
  simp only[DZ,aAW,aDS]at h;rw[yA a b h.2]
  grind [BA]
 |[],_::_,h=>by grind [DZ]
 |_::_,[],h=>by grind [DZ]
def KW:cI->cI->Bool
 |.dead,.dead=>true
 |.own e s n,.own e' s' n'=>e==e'&&s==s'&&n==n'
 |.box e s cs,.box e' s' cs'=>e==e'&&s==s'&&vR cs cs'
 |.map ag ks es,.map ag' R6 es'=>ag==ag'&&decide (ks=R6)&&DZ es es'
 |_,_=>false
theorem GD(a b:cI)(h:KW a b=true):a=b:=by
 unfold KW at h
 split at h
 .rfl
 .grind
 .grind [fF]
 .grind [yA]
 grind
abbrev kC:=FuncId->List LV->St->Option (List (LV×St))
def Hg{α β:Type}(f:α->Option (List β)):List α->Option (List β)
 |[]=>some []
 |a::l=>match f a with
  |some x=>match Hg f l with
   |some y=>some (x++y)
   |none=>none
  |none=>none
theorem kO{α β:Type}{f:α->Option (List β)}:∀ {l:List α} {r:List β},Hg f l=some r->∀ a∈l,∃ x,f a=some x/\∀ b∈x,b∈r
 |[],r,_,a,ha=>by grind
 |c::l,r,h,a,ha=>by
  simp only[Hg]at h
  split at h
  .rename_i x hx
   split at h
   .rename_i y hy;injection h with h;subst h;rcases aAe.1 ha with rfl|ha
    .grind
    .obtain⟨z,h1,h2⟩:=kO hy a ha
     grind
   grind
  grind
def JR(T:Tab)(o:Oper)(fr:Frm)(st:St):Option (LV×St):=
 match aop T o.dst.isSome o fr st with
 |some r=>if @decide r.c r.d then some (r.v,r.s)else none
 |none=>none
theorem tF{T:Tab}{o:Oper}{fr:Frm}{st st':St}{v:LV}(h:JR T o fr st=some (v,st')):∃ r,aop T o.dst.isSome o fr st=some r/\r.c/\r.v=v/\r.s=st':=by
 grind [JR]
def OL:Option (LV×St)->Option (List (LV×St))
 |some p=>some [p]
 |none=>none
def VR(call:kC)(x:Operand)(args:Array Operand)(fr:Frm)(st:St):Option (List (LV×St)):=
 match fA (aH fr x) with
 |some (f,IQ)=>call f ((args.toList.map (aH fr))++IQ) st
 |none=>none
def Vm(T:Tab)(call:kC)(o:Oper)(fr:Frm)(st:St):Option (List (LV×St)):=
 match o.op with
 |.call { callee:=.value x,args:=args,argTypes:=_ }=>VR call x args fr st
 |_=>match uB T o fr with
  |some (ng,n)=>if n=0 then some [(.atom (.bool (false != ng)),st),(.atom (.bool (true != ng)),st)]else some [(.atom (.bool (false != ng)),st)]
  |none=>OL (JR T o fr st)
def Mr(T:Tab)(call:kC)(ops:Array Oper):List Oper->Frm->St->Option (List (Frm×St))
 |[],fr,st=>some [(fr,st)]
 |o::rest,fr,st=>match aY ops fr o.guard with
  |some true=>match Vm T call o fr st with
   |some rs=>Hg (fun p=>Mr T call ops rest (bK fr o.dst p.1) p.2) rs
   |none=>none
  |some false=>Mr T call ops rest (bK fr o.dst (.tu [])) st
  |none=>none
def oF(P:Program)(call:kC):Prop:=∀ f args st rs,call f args st=some rs->aB P f args st fun r1 st1=>(r1,st1)∈rs
theorem xL{N:Nat}{d:Option Nat}(h:pB N d=true):inM (List.range N) d=d.isSome:=by
 cases d with
 |none=>rfl
 |some d=>grind [pB,inM]
theorem KL{P:Program}{T:Tab}{N:Nat}{ops:Array Oper}{M:List Nat}{J:Frm->St->Prop}{rest:List Oper}{o:Oper}{fr:Frm}{st:St}{x:Operand}{args:Array Operand}{tys:Array TypeId}(hop:o.op=.call { callee:=.value x,args:=args,argTypes:=tys }):
 uQ P T N ops M J rest o fr st=MI P T N ops M J rest o.dst fr st (args.toList.map (aH fr)) (fA (aH fr x)):=by
 grind [uQ]
theorem KO{P:Program}{T:Tab}{N:Nat}{ops:Array Oper}{M:List Nat}{J:Frm->St->Prop}{rest:List Oper}{o:Oper}{fr:Frm}{st:St}(Zo:∀(x:Operand) (args:Array Operand) (tys:Array TypeId),o.op=.call { callee:=.value x,args:=args,argTypes:=tys }->False):
 uQ P T N ops M J rest o fr st=DS P T N ops M J rest o fr st (uB T o fr):=by
 grind [uQ]
theorem BX{P:Program}{T:Tab}{call:kC}{ops:Array Oper}{N:Nat}(hc:oF P call){R:List (Frm×St)}:∀(rest:List Oper) (fr:Frm) (st:St) (L:List (Frm×St)),cW N ops rest=true->Mr T call ops rest fr st=some L->(∀ p∈L,p∈R)->
 cM P T N ops (List.range N) (fun f s=>(f,s)∈R) rest fr st
 |[],fr,st,L,_,h,hR=>by simp only[Mr,aAb]at h;subst h;exact hR _ sS
 |o::rest,fr,st,L,hk,h,hR=>by
  simp only[cW,List.all_cons,aAW]at hk;obtain⟨⟨hd,_⟩,hk⟩:=hk;have ih:=BX (T:=T) (ops:=ops) (N:=N) hc (R:=R) rest;have Q0:cW N ops rest=true:=hk;rw[JM];simp only[Mr]at h
  split at h
  .rename_i hw;rw[hw,Rh]
   split at h
   .rename_i rs hx;have all:=kO h;have go:∀ v st1,(v,st1)∈rs->cM P T N ops (List.range N) (fun f s=>(f,s)∈R) rest (bK fr o.dst v) st1:=by intro v st1 hm;obtain⟨x,h1,h2⟩:=all (v,st1) hm;exact ih _ _ x Q0 h1 (fun p hp=>hR p (h2 p hp))
    unfold Vm at hx
    split at hx
    .rename_i x args tys hop;rw[KL hop];unfold VR at hx
     split at hx
     .rename_i f IQ hf;rw[hf];exact⟨_,hc _ _ _ _ hx,fun r st2 hr=>go r st2 hr⟩
     grind
    .rename_i Zo;rw[KO Zo]
     split at hx
     .rename_i ng n hn;rw[hn]
      split at hx
      .rename_i U7;injection hx with hx;subst hx;intro b hb;cases b with
       |true=>grind
       |false=>grind
      .rename_i U7;injection hx with hx;subst hx;intro b hb
       grind
     .rename_i hn;rw[hn];cases hxa:JR T o fr st with
      |none=>grind [OL]
      |some p=>obtain⟨v,st1⟩:=p;rw[hxa]at hx;simp only[OL,aAb]at hx;subst hx;obtain⟨r,h1,h2,rfl,rfl⟩:=tF hxa;simp only[DS,xL hd,h1];exact⟨h2,go _ _ sS⟩
   grind
  .grind [Kt]
  grind
def sbB(B:List Nat)(j7 st:St):Bool:=B.all fun l=>KW (st.H l) (j7.H l)
theorem My{B:List Nat}{j7 st:St}(h:sbB B j7 st=true):SB B j7 st:=by
 intro l hl
 grind [sbB,GD]
def RG:LV->Option (List Nat)
 |.pt l _=>some [l]
 |.ep _=>some []
 |_=>none
theorem IV{B L:List Nat}{x:LV}(h:RG x=some L)(hB:∀ l∈L,l∈B):Mj B x:=by
 unfold RG at h
 split at h
 .simp only[aAb]at h;subst h;exact hB _ sS
 .simp[Mj]
 grind
def Vi(T:Tab)(call:kC)(o:Oper)(fr:Frm)(st:St):Option (List (LV×St)):=
 match o.op with
 |.call { callee:=.value x,args:=args,argTypes:=_ }=>VR call x args fr st
 |_=>OL (JR T o fr st)
abbrev XD:=Frm×St×List Nat×List St
def KU(L:List Nat)(S:List St):Option (List XD)->Option (List XD)
 |some (q::l)=>some ((q::l).map fun p=>(p.1,p.2.1,L++p.2.2.1,S++p.2.2.2))
 |_=>none
theorem NU{L:List Nat}{S:List St}{x:Option (List XD)}{r:List XD}(h:KU L S x=some r):∃ l,x=some l/\l≠[]/\∀ p∈l,(p.1,p.2.1,L++p.2.2.1,S++p.2.2.2)∈r:=by
 unfold KU at h
 grind
def Lf(ops:Array Oper)(i:Nat):Bool:=match ops[i]? with
 |some o=>aR o.op
 |none=>false
def HH(T:Tab)(call:kC)(ops:Array Oper):Nat->Array Bool->Frm->St->Option (List XD)
 |0,listed,fr,st=>match Region.ready .any ops listed with
  |[]=>some [(fr,st,[],[])]
  |_=>none
 |n+1,listed,fr,st=>match(Region.ready .any ops listed).find? (fun i=>Lf ops i&&Region.free .any ops listed i) with
  |some i=>match ops[i]? with
   |some o=>match aY ops fr o.guard with
    |some true=>match RG (mR fr o.op),JR T o fr st with
     |some L,some (v,_)=>KU L (if eY o.op then [st]else []) (HH T call ops n (listed.setIfInBounds i true) (bK fr o.dst v) st)
     |_,_=>none
    |some false=>KU [] (if eY o.op then [st]else []) (HH T call ops n (listed.setIfInBounds i true) (bK fr o.dst (.tu [])) st)
    |none=>none
   |none=>none
  |none=>match Region.ready .any ops listed with
   |[]=>some [(fr,st,[],[])]
   |rd=>Hg (fun i=>match ops[i]? with
    |some o=>if aR o.op then none else match aY ops fr o.guard with
     |some true=>match Vi T call o fr st with
      |some rs=>Hg (fun p=>KU [] (if jU ops i then [p.2]else []) (HH T call ops n (listed.setIfInBounds i true) (bK fr o.dst p.1) p.2)) rs
      |none=>none
     |some false=>KU [] (if jU ops i then [st]else []) (HH T call ops n (listed.setIfInBounds i true) (bK fr o.dst (.tu [])) st)
     |none=>none
    |none=>none) rd
theorem Ak{P:Program}{T:Tab}{call:kC}{ops:Array Oper}{N:Nat}(hc:oF P call)(hk:cW N ops ops.toList=true){B:List Nat}{j7:St}{R:List (Frm×St)}:∀(n:Nat) (listed:Array Bool) (fr:Frm) (st:St) (L:List XD),
 HH T call ops n listed fr st=some L->(∀ p∈L,(p.1,p.2.1)∈R/\(∀ l∈p.2.2.1,l∈B)/\∀ s∈p.2.2.2,SB B j7 s)->jS P T ops (List.range N) (SB B j7) (fun f s=>(f,s)∈R) n listed fr st
 |0,listed,fr,st,L,h,hR=>by
  simp only[HH]at h
  split at h
  .rename_i hr;injection h with h;subst h;exact⟨hr,(hR (fr,st,[],[]) sS).1⟩
  grind
 |n+1,listed,fr,st,L,h,hR=>by
  have ih:=Ak (T:=T) (N:=N) hc hk (B:=B) (j7:=j7) (R:=R) n;have hdst:∀(i:Nat) (o:Oper),ops[i]?=some o->pB N o.dst=true:=by intro i o ho;unfold cW at hk;rw[aBG]at hk;have:=hk o (aEy.2 (aEo ho));simp only[aAW]at this;exact this.1
  have wit:∀(x:Option (List XD)) (L':List Nat) (S:List St) (r:List XD),KU L' S x=some r->(∀ p∈r,(p.1,p.2.1)∈R/\(∀ l∈p.2.2.1,l∈B)/\∀ s∈p.2.2.2,SB B j7 s)->
   ∃ l,x=some l/\(∀ p∈l,(p.1,p.2.1)∈R/\(∀ l∈p.2.2.1,l∈B)/\∀ s∈p.2.2.2,SB B j7 s)/\(∀ q∈L',q∈B)/\∀ s∈S,SB B j7 s:=by
   intro x L' S r hx hr;obtain⟨l,h1,Zo,h2⟩:=NU hx;refine⟨l,h1,fun p hp=>?_,?_⟩
   .obtain⟨a1,a2,a3⟩:=hr _ (h2 p hp)
    grind
   .obtain⟨p,hp⟩:=aAM l Zo;obtain⟨_,a2,a3⟩:=hr _ (h2 p hp)
    grind
  simp only[HH]at h
  split at h
  .rename_i i hf;have hfi:=aCM hf;have J8:=aBT hf;simp only[aAW]at hfi
   split at h
   .rename_i o ho;have hq:aR o.op=true:=by have:=hfi.1;unfold Lf at this;rw[ho]at this;exact this
    have hm:=xL (hdst i o ho)
    split at h
    .rename_i hw
     split at h
     .rename_i L' v st1 hL hx;obtain⟨l,h1,h2,b1,b2⟩:=wit _ _ _ _ h hR;obtain⟨r,k1,k2,rfl,rfl⟩:=tF hx;have hS:eY o.op=true->SB B j7 st:=fun hh=>b2 st (by grind);refine iX ho n listed fr st (Region.free_spec ho hfi.2) J8 (.inl ⟨hw,hq,fun st' hS'=>?_⟩) hS hq (ih _ _ _ l h1 h2);have hpt:=IV hL b1;refine⟨@bP.mk r.c r.v st' r.d,?_,k2,rfl,rfl⟩;rw[hm];refine oN hq (fun l' k K3=>?_) k1;rw[K3]at hpt;have hh:eY o.op=true:=Fg K3;rw[hS' hh l' hpt,hS hh l' hpt]
     grind
    .rename_i hw;obtain⟨l,h1,h2,b1,b2⟩:=wit _ _ _ _ h hR;exact iX ho n listed fr st (Region.free_spec ho hfi.2) J8 (.inr ⟨hw,rfl⟩) (fun hh=>b2 st (by grind)) hq (ih _ _ _ l h1 h2)
    grind
   grind
  .split at h
   .rename_i hr;injection h with h;subst h;refine⟨fun _=>(hR (fr,st,[],[]) sS).1,fun i hi=>by grind⟩
   .rename_i hr;refine⟨fun h0=>absurd h0 hr,fun i hi=>?_⟩;obtain⟨x,h1,h2⟩:=kO h i hi
    split at h1
    .rename_i o ho;refine⟨o,ho,?_⟩;have hm:=xL (hdst i o ho)
     split at h1
     .grind
     .rename_i hq;have hq:aR o.op=false:=by simpa using hq
      have hKx:∀ st',(jU ops i=true->SB B j7 st')->Kx ops (SB B j7) i o st st':=by intro st' hh;unfold Kx;simp only[hq,aBb,aBE];exact hh
      unfold kZ
      split at h1
      .rename_i hw;rw[hw];refine⟨fun _=>?_,(fun hb=>by grind)⟩
       split at h1
       .rename_i rs hx;have all:=kO h1;have go:∀ v st1,(v,st1)∈rs->Kx ops (SB B j7) i o st st1/\jS P T ops (List.range N) (SB B j7) (fun f s=>(f,s)∈R) n (listed.setIfInBounds i true) (bK fr o.dst v) st1:=by intro v st1 hmm;obtain⟨y,g1,g2⟩:=all (v,st1) hmm;obtain⟨l,q1,q2,_,q4⟩:=wit _ _ _ _ g1 (fun p hp=>hR p (h2 p (g2 p hp)));exact⟨hKx _ (fun hh=>q4 st1 (by grind)),ih _ _ _ l q1 q2⟩
        unfold Vi at hx
        split at hx
        .rename_i x' args tys hop;unfold VR at hx
         split at hx
         .rename_i f IQ Q8;rw[hop];simp only[Q8];exact⟨_,hc _ _ _ _ hx,fun r st2 O1=>go r st2 O1⟩
         grind
        .rename_i Zo;cases hxa:JR T o fr st with
         |none=>grind [OL]
         |some p=>
          obtain⟨v,st1⟩:=p;rw[hxa]at hx;simp only[OL,aAb]at hx;subst hx;obtain⟨r,k1,k2,rfl,rfl⟩:=tF hxa
          grind
       grind
      .rename_i hw;rw[hw];refine⟨(fun hb=>by grind),fun _=>?_⟩;obtain⟨l,q1,q2,_,q4⟩:=wit _ _ _ _ h1 (fun p hp=>hR p (h2 p hp))
       grind
      grind
    grind
def Ih(T:Tab)(fr:Frm)(st:St):List ResultVar->Option (List LV)
 |[]=>some []
 |r::rs=>match Aq T fr st r,Ih T fr st rs with
  |some x,some l=>if @decide x.c x.d then some (x.v::l)else none
  |_,_=>none
theorem Bf{T:Tab}{fr:Frm}{st:St}:∀(rs:List ResultVar) (l:List LV),Ih T fr st rs=some l->∃ c,vQ T fr st rs=some (c,l)/\c
 |[],l,h=>by simp only[Ih,aAb]at h;subst h;exact⟨True,rfl,trivial⟩
 |r::rs,l,h=>by
  simp only[Ih]at h
  split at h
  .rename_i x l' hx hl
   split at h
   .rename_i hc;simp only[aAb]at h;subst h;obtain⟨c,h1,h2⟩:=Bf rs l' hl;exact⟨x.c/\c,by grind [vQ],@aCh _ x.d hc,h2⟩
   grind
  grind
abbrev XR:=Exit×Frm×St
def YS(T:Tab)(rs:List ResultVar)(p:XR):Option (List (LV×St)):=match p.1 with
 |.ret=>match Ih T p.2.1 p.2.2 rs with
  |some l=>some [(one l,p.2.2)]
  |none=>none
 |.normal=>match Ih T p.2.1 p.2.2 rs with
  |some l=>some [(one l,p.2.2)]
  |none=>none
 |_=>none
def Le(T:Tab)(rs:List ResultVar):Option (List XR)->Option (List (LV×St))
 |some l=>Hg (YS T rs) l
 |none=>none
def Yy(j7:St):Option (List XD)->Option (List (Frm×St))
 |some l=>if l.all (fun p=>p.2.2.2.all (sbB (l.flatMap fun q=>q.2.2.1) j7))then some (l.map fun p=>(p.1,p.2.1))else none
 |none=>none
def Wi(T:Tab)(call:kC)(N:Nat)(ops:Array Oper)(dr:Bool)(fr:Frm)(st:St):Option (List (Frm×St)):=
 if cW N ops ops.toList then
  match dr with
  |false=>Mr T call ops ops.toList fr st
  |true=>Yy st (HH T call ops ops.size (Array.replicate ops.size false) fr st)
 else none
def Vn(g:Frm->St->Option (List XR))(p:XR):Option (List XR):=match p.1 with
 |.normal=>g p.2.1 p.2.2
 |_=>some [p]
def LL(g:Frm->St->Option (List XR)):Option (List XR)->Option (List XR)
 |some l=>Hg (Vn g) l
 |none=>none
def TV(id:Nat)(p:XR):XR:=match p.1 with
 |.exit i=>if i=id then(.normal,p.2)else p
 |_=>p
def noGoto(p:XR):Bool:=match p.1 with
 |.goto _=>false
 |_=>true
def iZ(T:Tab)(fns:FuncId->Option Func)(pr:kC):Nat->Nat->Code->Frm->St->Option (List XR)
 |0,_,_,_,_=>none
 |n+1,N,c,fr,st=>match c with
  |.skip=>some [(.normal,fr,st)]
  |.label _=>some [(.normal,fr,st)]
  |.exit i=>some [(.exit i,fr,st)]
  |.ret=>some [(.ret,fr,st)]
  |.seq a b=>LL (fun c7 st'=>iZ T fns pr n N b c7 st') (iZ T fns pr n N a fr st)
  |.block id c=>match iZ T fns pr n N c fr st with
   |some l=>some (l.map (TV id))
   |none=>none
  |.scope c=>match iZ T fns pr n N c fr st with
   |some l=>if l.all noGoto then some l else none
   |none=>none
  |.cond x a b=>match aH fr x with
   |.atom (.bool true)=>iZ T fns pr n N a fr st
   |.atom (.bool false)=>iZ T fns pr n N b fr st
   |_=>none
  |.loop c=>LL (fun c7 st'=>iZ T fns pr n N (.loop c) c7 st') (iZ T fns pr n N c fr st)
  |.region _ ops dr=>match Wi T (fun f args st=>match pr f args st with
    |some r=>some r
    |none=>match fns f with
     |some fn=>match fn.body with
      |some c=>if args.length<=fn.ntmps then Le T fn.results.toList (iZ T fns pr n fn.ntmps c (tJ args) st)else none
      |none=>none
     |none=>none) N ops dr fr st with
   |some l=>some (l.map fun p=>(.normal,p.1,p.2))
   |none=>none
  |_=>none
def yC(T:Tab)(fns:FuncId->Option Func)(pr:kC)(n:Nat):kC:=fun f args st=>match pr f args st with
 |some r=>some r
 |none=>match fns f with
  |some fn=>match fn.body with
   |some c=>if args.length<=fn.ntmps then Le T fn.results.toList (iZ T fns pr n fn.ntmps c (tJ args) st)else none
   |none=>none
  |none=>none
def EN(P:Program)(fns:FuncId->Option Func):Prop:=∀ f fn,fns f=some fn->P.funcs[f]?=some fn/\(fn.name== "runtime.NumGoroutine")=false
section
variable {P:Program} {T:Tab} {fns:FuncId->Option Func} {pr:kC}
def jX(L:List XR):AQ:=fun e f s=>(e,f,s)∈L
theorem qP(hT:aX P T)(hf:EN P fns)(hp:oF P pr){n:Nat}(ih:∀ N c fr st L,iZ T fns pr n N c fr st=some L->AWp P N c (jX L) fr st):oF P (yC T fns pr n):=by
 intro f args st rs h;unfold yC at h
 split at h
 .rename_i q hq;injection h with h;subst h;exact hp _ _ _ _ hq
 split at h
 .rename_i fn hfn;obtain⟨h1,h2⟩:=hf f fn hfn
  split at h
  .rename_i c hb
   split at h
   .rename_i hlen;cases hx:iZ T fns pr n fn.ntmps c (tJ args) st with
    |none=>grind [Le]
    |some L=>
     rw[hx]at h;simp only[Le]at h;have all:=kO h;refine qO hT h1 hb h2 rfl rfl hlen (dH (ih _ _ _ _ _ hx) ?_);intro e fr1 st1 hm;obtain⟨y,g1,g2⟩:=all (e,fr1,st1) hm;rw[tL];have key:(match Ih T fr1 st1 fn.results.toList with|some l=>some [(one l,st1)]|none=>none)=some y->yS T (fun r1 O0=>(r1,O0)∈rs) fr1 st1 fn.results.toList:=by
      intro hres;cases hr:Ih T fr1 st1 fn.results.toList with
      |none=>grind
      |some l=>
       grind [Bf,yS]
     unfold YS at g1;cases e with
     |normal=>exact key g1
     |ret=>exact key g1
     |_=>grind
   grind
  grind
 grind
theorem Cc{g:Frm->St->Option (List XR)}{x:Option (List XR)}{L:List XR}(h:LL g x=some L):∃ l,x=some l/\∀ p∈l,(∃ y,Vn g p=some y/\∀ q∈y,q∈L):=by
 unfold LL at h
 grind [kO]
theorem JK{N:Nat}{ops:Array Oper}{M:List Nat}{J J':Frm->St->Prop}(hJ:∀ f s,J f s->J' f s):∀(rest:List Oper) (fr:Frm) (st:St),cM P T N ops M J rest fr st->cM P T N ops M J' rest fr st:=by
 intro rest;induction rest with
 |nil=>intro fr st h;exact hJ _ _ h
 |cons o rest ihr=>
  intro fr st hh;rw[JM]at hh ⊢;unfold BZ at hh ⊢
  split at hh
  .refine⟨fun hb=>?_,fun hb=>ihr _ _ (hh.2 hb)⟩;have h1:=hh.1 hb;unfold uQ at h1 ⊢
   split at h1
   .unfold MI at h1 ⊢
    split at h1
    .obtain⟨R,k1,k2⟩:=h1;exact⟨R,k1,fun r st' hr=>ihr _ _ (k2 r st' hr)⟩
    omega
   .unfold DS at h1 ⊢
    split at h1
    .simp_all
    .unfold LH at h1 ⊢
     grind
  omega
theorem Be(hT:aX P T)(hf:EN P fns)(hp:oF P pr)(hm:P.follows .mixedOrders=true):∀(n N:Nat) (c:Code) (fr:Frm) (st:St) (L:List XR),iZ T fns pr n N c fr st=some L->AWp P N c (jX L) fr st:=by
 intro n;induction n using Nat.strongRecOn with
 |ind n ihs=>
  intro N c fr st L h;cases n with
  |zero=>grind [iZ]
  |succ n=>
  have ih:=ihs n (aDa n);cases c with
  |skip=>simp only[iZ,aAb]at h;subst h;exact qK (Q:=jX _) (k:=[]) (by simp[tL,jX])
  |label l=>simp only[iZ,aAb]at h;subst h;exact Dv (Q:=jX _) (k:=[]) (by simp[tL,jX])
  |exit i=>simp only[iZ,aAb]at h;subst h;exact qX (Q:=jX _) (k:=[]) (by simp[tL,jX])
  |ret=>simp only[iZ,aAb]at h;subst h;exact qR (Q:=jX _) (k:=[]) (by simp[tL,jX])
  |seq x y=>
   refine qS (Q:=jX L) (k:=[]) ?_;simp only[iZ]at h;obtain⟨l,hx,all⟩:=Cc h;refine dH (ih _ _ _ _ _ hx) ?_;intro e fr2 st2 hmm;obtain⟨z,g1,g2⟩:=all _ hmm;cases e with
   |normal=>rw[jE];exact dH (ih _ _ _ _ _ g1) (fun e f s hh=>g2 _ hh)
   |_=>injection g1 with g1;subst g1;exact g2 _ sS
  |block id x=>
   refine qB (Q:=jX L) (k:=[]) ?_;simp only[iZ]at h
   split at h
   .rename_i l hx;injection h with h;subst h;refine dH (ih _ _ _ _ _ hx) ?_;intro e fr2 st2 hmm;have j5:TV id (e,fr2,st2)∈l.map (TV id):=aAi.2 ⟨_,hmm,rfl⟩;cases e with
    |exit i=>
     rw[lY];simp only[TV]at j5
     split
     .rename_i hi;rw[aAj hi]at j5;exact j5
     .rename_i hi;rw[aAa hi]at j5;exact j5
    |_=>exact j5
   grind
  |scope x=>
   simp only[iZ]at h
   split at h
   .rename_i l hx
    split at h
    .rename_i hall;injection h with h;subst h;refine MV (Q:=jX l) (k:=[]) (ih _ _ _ _ _ hx) ?_;intro k fr2 st2 hmm;have:=aBG.1 hall _ hmm
     grind [noGoto]
    grind
   grind
  |cond x a b=>
   refine qC (Q:=jX L) (k:=[]) ?_;simp only[iZ]at h
   split at h
   .rename_i hx;rw[hx,lB];exact⟨fun _=>ih _ _ _ _ _ h,(fun hb=>by grind)⟩
   .rename_i hx;rw[hx,lB];exact⟨(fun hb=>by grind),fun _=>ih _ _ _ _ _ h⟩
   grind
  |loop x=>
   refine qL (Q:=jX L) (k:=[]) (fun m fr st=>m<=n+1/\∃ L',iZ T fns pr m N (.loop x) fr st=some L'/\∀ p∈L',p∈L) (n+1) ⟨aAm _,L,h,fun p hp=>hp⟩ ?_;rintro m fr1 st1 ⟨u7,L',hI,H7⟩ J hJ;cases m with
   |zero=>grind [iZ]
   |succ m=>
    have ihm:=ihs m oO;simp only[iZ]at hI;obtain⟨l,hx,all⟩:=Cc hI;refine dH (ihm _ _ _ _ _ hx) ?_;intro e fr2 st2 hmm;obtain⟨z,g1,g2⟩:=all _ hmm;cases e with
    |normal=>rw[GC];exact hJ m _ _ (aDa m) ⟨oO,z,g1,fun p hp=>H7 p (g2 p hp)⟩
    |_=>injection g1 with g1;subst g1;exact H7 _ (g2 _ sS)
  |region id ops dr=>
   simp only[iZ]at h;have H6:oF P (yC T fns pr n):=qP hT hf hp (fun N c fr st L hx=>ih N c fr st L hx)
   split at h
   .rename_i l hx;injection h with h;subst h;have P3:Wi T (yC T fns pr n) N ops dr fr st=some l:=hx;have fin:∀ f s,(f,s)∈l->jX (l.map fun p=>(Exit.normal,p.1,p.2)) .normal f s:=fun f s hh=>aAi.2 ⟨(f,s),hh,rfl⟩;unfold Wi at P3
    split at P3
    .rename_i hk;cases dr with
     |false=>simp only at P3;refine mL hT (List.range N) hk fun J hJ=>?_;exact JK (fun f s hh=>hJ _ _ (fin f s hh)) _ _ _ (BX (N:=N) (R:=l) H6 _ _ _ l hk P3 (fun p hp=>hp))
     |true=>
      simp only at P3;unfold Yy at P3
      split at P3
      .rename_i L1 hxa
       split at P3
       .rename_i hall;injection P3 with P3;subst P3;intro a w g hi hr hs hd;refine wp_region_any hm ?_
        have hA:=Ak (N:=N) (B:=L1.flatMap fun q=>q.2.2.1) (j7:=st) (R:=L1.map fun p=>(p.1,p.2.1)) H6 hk _ _ fr st L1 hxa (fun p hp=>⟨aAi.2 ⟨p,hp,rfl⟩,fun l' K3=>aAY.2 ⟨p,hp,K3⟩,fun s Y6=>by
         grind [My]⟩)
        have X6:Ext w g { w with drawn:=w.drawn+1 } g:=dS w g;exact oP hT hk (fun f s hh=>fin f s hh) _ _ fr st a { w with drawn:=w.drawn+1 } g hi.drew (hr.mono X6) hs hd X6 hA
       grind
      grind
    grind
   grind
  |_=>grind [iZ]
end
def Iv:List (Nat×Func)->FuncId->Option Func
 |[],_=>none
 |p::l,f=>if f=p.1 then some p.2 else Iv l f
def YO(P:Program):List (Nat×Func)->Prop
 |[]=>True
 |p::l=>(P.funcs[p.1]?=some p.2/\(p.2.name== "runtime.NumGoroutine")=false)/\YO P l
theorem HB{P:Program}:∀(l:List (Nat×Func)),YO P l->EN P (Iv l)
 |[],_,f,fn,h=>by grind [Iv]
 |p::l,ha,f,fn,h=>by
  simp only[Iv]at h
  split at h
  .rename_i hf;injection h with h;subst hf h;exact ha.1
  .exact HB l ha.2 f fn h
theorem Fp{P:Program}{f:FuncId}{st:St}{R:Value->Prop}(h:aB P f [] ⟨1,fun _=>.dead⟩ fun r _=>∃ v,r=.atom v/\R v):aB P f [] st fun r st'=>(∃ v,r=.atom v/\R v)/\st'=st:=by
 refine⟨h.1,fun w g vs hi hr=>?_⟩;have hi0:Inv w ⟨1,fun _=>none,fun _=>0,fun _=>0,fun _=>false⟩ ⟨1,fun _=>.dead⟩:=by refine⟨rfl,by decide,fun _ _=>rfl,fun l hl=>hl.elim,fun l l' hl=>hl.elim,fun l e s n hl=>(by grind),fun l e s cs hl=>(by grind),fun l ag ks es hl=>(by grind),fun l e n hl=>(by grind),tE (hi.aside.glob.phi fun _ _ _ _ _=>rfl) fun _=>rfl⟩
 refine(h.2 w _ vs hi0 (by grind [aC])).mono ?_;rintro e w' ⟨v,r,st',g',rfl,⟨v',rfl,hv'⟩,G9,_,he⟩;have O8:∀ b,b<w.heap.size->w'.heap[b]?=w.heap[b]?:=fun b hb=>(he.still b hb rfl).2;have he':Ext w g w' g:=by refine⟨he.os,he.tape,he.output,he.size,aAm _,fun _ _=>rfl,fun _ _=>rfl,fun _ _=>rfl,fun b hb hn=>⟨hn,O8 b hb⟩,fun b k hb hk=>⟨k,hk,aAm _,fun o _=>World.cell?_of_block (w:=w) (O8 b hb)⟩⟩
 refine⟨v,_,st,g,rfl,⟨⟨v',rfl,hv'⟩,rfl⟩,G9,?_,he'⟩;refine⟨hi.next,hi.pos,hi.fresh,fun l hl=>aAr (hi.lt l hl) he.size,hi.inj,?_,?_,?_,?_,hi.aside.keep he' fun _ _=>rfl⟩
 .intro l e s n hl;obtain⟨h1,h2,h3,h4⟩:=hi.own l e s n hl
  grind
 .intro l e s cs hl;obtain⟨h1,h2,h3⟩:=hi.box l e s cs hl
  grind [aC.mono]
 .intro l ag ks es hl;have hm:=hi.mp l ag ks es hl;exact hm.keep he' (hi.map_lt hl) (O8 _ hm.blk_lt) rfl
 .intro l e n hl;have hm:=hi.qu l e n hl;exact hm.keep he' (hi.que_lt hl) (O8 _ hm.blk_lt) rfl
def isB(b:Bool)(p:LV×St):Bool:=match p.1 with
 |.atom (.bool c)=>c==b
 |_=>false
def Sk(r:Option (List (LV×St)))(b:Bool):Bool:=match r with
 |some l=>l.all (isB b)
 |none=>false
theorem sZ{P:Program}{T:Tab}{fns:FuncId->Option Func}{pr:kC}(hT:aX P T)(hf:EN P fns)(hp:oF P pr)(hm:P.follows .mixedOrders=true)(n:Nat){f:FuncId}(b:Bool){st:St}
 (h:Sk (yC T fns pr n f [] ⟨1,fun _=>.dead⟩) b=true):aB P f [] st fun r st'=>r=.atom (.bool b)/\st'=st:=by
 cases hx:yC T fns pr n f [] ⟨1,fun _=>.dead⟩ with
 |none=>grind [Sk]
 |some l=>
  rw[hx]at h;simp only[Sk]at h;rw[aBG]at h;have:=qP hT hf hp (fun N c fr st L hx=>Be hT hf hp hm n N c fr st L hx) f [] _ l hx;refine(Fp (R:=fun v=>v=.bool b) (this.mono ?_)).mono ?_
  .grind [isB]
  grind
end Aw
end Go.Proofs.YtbgngpdonpeboaaGreatDoor
