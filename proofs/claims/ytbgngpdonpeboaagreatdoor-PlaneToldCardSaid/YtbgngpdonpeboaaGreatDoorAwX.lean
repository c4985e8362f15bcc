/- An evaluator of calls whose arguments are written out; what it finds is so. No program is named here. -/
import Derived.Test.YtbgngpdonpeboaaGreatDoorAwDraw
import Derived.Tactics
set_option linter.unusedVariables false
set_option linter.unusedSimpArgs false
namespace Go.Proofs.YtbgngpdonpeboaaGreatDoor
namespace Aw
open Go Go.RowKit
mutual
def Te:LV->LV->Bool
 |.dead,.dead=>true
 |.nil,.nil=>true
 |.emp,.emp=>true
 |.atom (.int k a),.atom (.int k' b)=>k==k'&&a==b
 |.atom (.bool a),.atom (.bool b)=>a==b
 |.sl t n cs,.sl t' n' cs'=>t==t'&&n==n'&&uI cs cs'
 |.ms l o n,.ms l' o' n'=>l==l'&&o==o'&&n==n'
 |.ag cs,.ag cs'=>uI cs cs'
 |.pt l o,.pt l' o'=>l==l'&&o==o'
 |.ep cs,.ep cs'=>uI cs cs'
 |.mp l,.mp l'=>l==l'
 |.fn (.func f) cs,.fn (.func f') cs'=>f==f'&&uI cs cs'
 |.tu cs,.tu cs'=>uI cs cs'
 |_,_=>false
def uI:List LV->List LV->Bool
 |[],[]=>true
 |a::T7,b::bs=>Te a b&&uI T7 bs
 |_,_=>false
end
mutual
theorem BR:∀(a b:LV),Te a b=true->a=b
 |a,b,h=>by
  unfold Te at h
  split at h
  .rfl
  .rfl
  .rfl
  .grind
  .grind
  .simp at h;obtain⟨⟨rfl,rfl⟩,h⟩:=h;rw[fA _ _ h]
  .grind
  .rw[fA _ _ h]
  .grind
  .rw[fA _ _ h]
  .grind
  .simp at h;obtain⟨rfl,h⟩:=h;rw[fA _ _ h]
  .rw[fA _ _ h]
  grind
theorem fA:∀(a b:List LV),uI a b=true->a=b
 |a,b,h=>by
  unfold uI at h
  split at h
  .rfl
  .simp at h;rw[BR _ _ h.1,fA _ _ h.2]
  grind
end
def DS:List (List Int×LV)->List (List Int×LV)->Bool
 |[],[]=>true
 |p::a,q::b=>p.1==q.1&&Te p.2 q.2&&DS a b
 |_,_=>false
theorem xQ:∀ a b,DS a b=true->a=b
 |[],[],_=>rfl
 |p::a,q::b,h=>by
  simp only[DS,aAQ,aDJ]at h;rw[xQ a b h.2]
  grind [BR]
 |[],_::_,h=>by grind [DS]
 |_::_,[],h=>by grind [DS]
def Jg:cN->cN->Bool
 |.dead,.dead=>true
 |.own e s n,.own e' s' n'=>e==e'&&s==s'&&n==n'
 |.box e s cs,.box e' s' cs'=>e==e'&&s==s'&&uI cs cs'
 |.map ag ks es,.map ag' M9 es'=>ag==ag'&&decide (ks=M9)&&DS es es'
 |_,_=>false
theorem Dz(a b:cN)(h:Jg a b=true):a=b:=by
 unfold Jg at h
 split at h
 .rfl
 .grind
 .grind [fA]
 .grind [xQ]
 grind
abbrev jR:=FuncId->List LV->St->Option (List (LV×St))
def II{α β:Type}(f:α->Option (List β)):List α->Option (List β)
 |[]=>some []
 |a::l=>match f a with
  |some x=>match II f l with
   |some y=>some (x++y)
   |none=>none
  |none=>none
theorem kJ{α β:Type}{f:α->Option (List β)}:∀ {l:List α} {r:List β},II f l=some r->∀ a∈l,∃ x,f a=some x/\∀ b∈x,b∈r
 |[],r,_,a,ha=>by grind
 |c::l,r,h,a,ha=>by
  simp only[II]at h
  split at h
  .rename_i x hx
   split at h
   .rename_i y hy;injection h with h;subst h;rcases aAe.1 ha with rfl|ha
    .grind
    .obtain⟨z,h1,h2⟩:=kJ hy a ha
     grind
   grind
  grind
def Ih(T:Tab)(o:Oper)(fr:Frm)(st:St):Option (LV×St):=
 match aop T o.dst.isSome o fr st with
 |some r=>if @decide r.c r.d then some (r.v,r.s)else none
 |none=>none
theorem tF{T:Tab}{o:Oper}{fr:Frm}{st st':St}{v:LV}(h:Ih T o fr st=some (v,st')):∃ r,aop T o.dst.isSome o fr st=some r/\r.c/\r.v=v/\r.s=st':=by
 grind [Ih]
def Nd:Option (LV×St)->Option (List (LV×St))
 |some p=>some [p]
 |none=>none
def Sq(call:jR)(x:Operand)(args:Array Operand)(fr:Frm)(st:St):Option (List (LV×St)):=
 match eY (aH fr x) with
 |some (f,GK)=>call f ((args.toList.map (aH fr))++GK) st
 |none=>none
def VT(T:Tab)(call:jR)(o:Oper)(fr:Frm)(st:St):Option (List (LV×St)):=
 match o.op with
 |.call { callee:=.value x,args:=args,argTypes:=_ }=>Sq call x args fr st
 |_=>match sI T o fr with
  |some (ng,n)=>if n=0 then some [(.atom (.bool (false != ng)),st),(.atom (.bool (true != ng)),st)]else some [(.atom (.bool (false != ng)),st)]
  |none=>Nd (Ih T o fr st)
def Mm(T:Tab)(call:jR)(ops:Array Oper):List Oper->Frm->St->Option (List (Frm×St))
 |[],fr,st=>some [(fr,st)]
 |o::rest,fr,st=>match bA ops fr o.guard with
  |some true=>match VT T call o fr st with
   |some rs=>II (fun p=>Mm T call ops rest (bN fr o.dst p.1) p.2) rs
   |none=>none
  |some false=>Mm T call ops rest (bN fr o.dst (.tu [])) st
  |none=>none
def nX(P:Program)(call:jR):Prop:=∀ f args st rs,call f args st=some rs->aB P f args st fun r1 st1=>(r1,st1)∈rs
theorem vT{N:Nat}{d:Option Nat}(h:oA N d=true):inM (List.range N) d=d.isSome:=by
 cases d with
 |none=>rfl
 |some d=>grind [oA,inM]
theorem IZ{P:Program}{T:Tab}{N:Nat}{ops:Array Oper}{M:List Nat}{J:Frm->St->Prop}{rest:List Oper}{o:Oper}{fr:Frm}{st:St}{x:Operand}{args:Array Operand}{tys:Array TypeId}(hop:o.op=.call { callee:=.value x,args:=args,argTypes:=tys }):
 uF P T N ops M J rest o fr st=Kn P T N ops M J rest o.dst fr st (args.toList.map (aH fr)) (eY (aH fr x)):=by
 grind [uF]
theorem Jd{P:Program}{T:Tab}{N:Nat}{ops:Array Oper}{M:List Nat}{J:Frm->St->Prop}{rest:List Oper}{o:Oper}{fr:Frm}{st:St}(Zy:∀(x:Operand) (args:Array Operand) (tys:Array TypeId),o.op=.call { callee:=.value x,args:=args,argTypes:=tys }->False):
 uF P T N ops M J rest o fr st=Cn P T N ops M J rest o fr st (sI T o fr):=by
 grind [uF]
theorem Ay{P:Program}{T:Tab}{call:jR}{ops:Array Oper}{N:Nat}(hc:nX P call){R:List (Frm×St)}:∀(rest:List Oper) (fr:Frm) (st:St) (L:List (Frm×St)),cV N ops rest=true->Mm T call ops rest fr st=some L->(∀ p∈L,p∈R)->
 cL P T N ops (List.range N) (fun f s=>(f,s)∈R) rest fr st
 |[],fr,st,L,_,h,hR=>by simp only[Mm,aAb]at h;subst h;exact hR _ sS
 |o::rest,fr,st,L,hk,h,hR=>by
  simp only[cV,List.all_cons,aAQ]at hk;obtain⟨⟨hd,_⟩,hk⟩:=hk;have ih:=Ay (T:=T) (ops:=ops) (N:=N) hc (R:=R) rest;have I4:cV N ops rest=true:=hk;rw[IP];simp only[Mm]at h
  split at h
  .rename_i hw;rw[hw,RI]
   split at h
   .rename_i rs hx;have all:=kJ h;have go:∀ v st1,(v,st1)∈rs->cL P T N ops (List.range N) (fun f s=>(f,s)∈R) rest (bN fr o.dst v) st1:=by intro v st1 hm;obtain⟨x,h1,h2⟩:=all (v,st1) hm;exact ih _ _ x I4 h1 (fun p hp=>hR p (h2 p hp))
    unfold VT at hx
    split at hx
    .rename_i x args tys hop;rw[IZ hop];unfold Sq at hx
     split at hx
     .rename_i f GK hf;rw[hf];exact⟨_,hc _ _ _ _ hx,fun r st2 hr=>go r st2 hr⟩
     grind
    .rename_i Zy;rw[Jd Zy]
     split at hx
     .rename_i ng n hn;rw[hn]
      split at hx
      .rename_i P6;injection hx with hx;subst hx;intro b hb;cases b with
       |true=>grind
       |false=>grind
      .rename_i P6;injection hx with hx;subst hx;intro b hb
       grind
     .rename_i hn;rw[hn];cases hxa:Ih T o fr st with
      |none=>grind [Nd]
      |some p=>obtain⟨v,st1⟩:=p;rw[hxa]at hx;simp only[Nd,aAb]at hx;subst hx;obtain⟨r,h1,h2,rfl,rfl⟩:=tF hxa;simp only[Cn,vT hd,h1];exact⟨h2,go _ _ sS⟩
   grind
  .grind [Lx]
  grind
def sbB(B:List Nat)(j8 st:St):Bool:=B.all fun l=>Jg (st.H l) (j8.H l)
theorem MX{B:List Nat}{j8 st:St}(h:sbB B j8 st=true):SB B j8 st:=by
 intro l hl
 grind [sbB,Dz]
def RS:LV->Option (List Nat)
 |.pt l _=>some [l]
 |.ep _=>some []
 |_=>none
theorem GO{B L:List Nat}{x:LV}(h:RS x=some L)(hB:∀ l∈L,l∈B):Nc B x:=by
 unfold RS at h
 split at h
 .simp only[aAb]at h;subst h;exact hB _ sS
 .simp[Nc]
 grind
def VO(T:Tab)(call:jR)(o:Oper)(fr:Frm)(st:St):Option (List (LV×St)):=
 match o.op with
 |.call { callee:=.value x,args:=args,argTypes:=_ }=>Sq call x args fr st
 |_=>Nd (Ih T o fr st)
abbrev XD:=Frm×St×List Nat×List St
def Iw(L:List Nat)(S:List St):Option (List XD)->Option (List XD)
 |some (q::l)=>some ((q::l).map fun p=>(p.1,p.2.1,L++p.2.2.1,S++p.2.2.2))
 |_=>none
theorem OG{L:List Nat}{S:List St}{x:Option (List XD)}{r:List XD}(h:Iw L S x=some r):∃ l,x=some l/\l≠[]/\∀ p∈l,(p.1,p.2.1,L++p.2.2.1,S++p.2.2.2)∈r:=by
 unfold Iw at h
 grind
def Kj(ops:Array Oper)(i:Nat):Bool:=match ops[i]? with
 |some o=>aR o.op
 |none=>false
def Gz(T:Tab)(call:jR)(ops:Array Oper):Nat->Array Bool->Frm->St->Option (List XD)
 |0,listed,fr,st=>match Region.ready .any ops listed with
  |[]=>some [(fr,st,[],[])]
  |_=>none
 |n+1,listed,fr,st=>match(Region.ready .any ops listed).find? (fun i=>Kj ops i&&Region.free .any ops listed i) with
  |some i=>match ops[i]? with
   |some o=>match bA ops fr o.guard with
    |some true=>match RS (lY fr o.op),Ih T o fr st with
     |some L,some (v,_)=>Iw L (if eV o.op then [st]else []) (Gz T call ops n (listed.setIfInBounds i true) (bN fr o.dst v) st)
     |_,_=>none
    |some false=>Iw [] (if eV o.op then [st]else []) (Gz T call ops n (listed.setIfInBounds i true) (bN fr o.dst (.tu [])) st)
    |none=>none
   |none=>none
  |none=>match Region.ready .any ops listed with
   |[]=>some [(fr,st,[],[])]
   |rd=>II (fun i=>match ops[i]? with
    |some o=>if aR o.op then none else match bA ops fr o.guard with
     |some true=>match VO T call o fr st with
      |some rs=>II (fun p=>Iw [] (if jT ops i then [p.2]else []) (Gz T call ops n (listed.setIfInBounds i true) (bN fr o.dst p.1) p.2)) rs
      |none=>none
     |some false=>Iw [] (if jT ops i then [st]else []) (Gz T call ops n (listed.setIfInBounds i true) (bN fr o.dst (.tu [])) st)
     |none=>none
    |none=>none) rd
theorem Ai{P:Program}{T:Tab}{call:jR}{ops:Array Oper}{N:Nat}(hc:nX P call)(hk:cV N ops ops.toList=true){B:List Nat}{j8:St}{R:List (Frm×St)}:∀(n:Nat) (listed:Array Bool) (fr:Frm) (st:St) (L:List XD),
 Gz T call ops n listed fr st=some L->(∀ p∈L,(p.1,p.2.1)∈R/\(∀ l∈p.2.2.1,l∈B)/\∀ s∈p.2.2.2,SB B j8 s)->jQ P T ops (List.range N) (SB B j8) (fun f s=>(f,s)∈R) n listed fr st
 |0,listed,fr,st,L,h,hR=>by
  simp only[Gz]at h
  split at h
  .rename_i hr;injection h with h;subst h;exact⟨hr,(hR (fr,st,[],[]) sS).1⟩
  grind
 |n+1,listed,fr,st,L,h,hR=>by
  have ih:=Ai (T:=T) (N:=N) hc hk (B:=B) (j8:=j8) (R:=R) n;have hdst:∀(i:Nat) (o:Oper),ops[i]?=some o->oA N o.dst=true:=by intro i o ho;unfold cV at hk;rw[aBO]at hk;have:=hk o (aEr.2 (aEi ho));simp only[aAQ]at this;exact this.1
  have wit:∀(x:Option (List XD)) (L':List Nat) (S:List St) (r:List XD),Iw L' S x=some r->(∀ p∈r,(p.1,p.2.1)∈R/\(∀ l∈p.2.2.1,l∈B)/\∀ s∈p.2.2.2,SB B j8 s)->
   ∃ l,x=some l/\(∀ p∈l,(p.1,p.2.1)∈R/\(∀ l∈p.2.2.1,l∈B)/\∀ s∈p.2.2.2,SB B j8 s)/\(∀ q∈L',q∈B)/\∀ s∈S,SB B j8 s:=by
   intro x L' S r hx hr;obtain⟨l,h1,Zy,h2⟩:=OG hx;refine⟨l,h1,fun p hp=>?_,?_⟩
   .obtain⟨a1,a2,a3⟩:=hr _ (h2 p hp)
    grind
   .obtain⟨p,hp⟩:=aAS l Zy;obtain⟨_,a2,a3⟩:=hr _ (h2 p hp)
    grind
  simp only[Gz]at h
  split at h
  .rename_i i hf;have hfi:=aCY hf;have E7:=aCh hf;simp only[aAQ]at hfi
   split at h
   .rename_i o ho;have hq:aR o.op=true:=by have:=hfi.1;unfold Kj at this;rw[ho]at this;exact this
    have hm:=vT (hdst i o ho)
    split at h
    .rename_i hw
     split at h
     .rename_i L' v st1 hL hx;obtain⟨l,h1,h2,b1,b2⟩:=wit _ _ _ _ h hR;obtain⟨r,k1,k2,rfl,rfl⟩:=tF hx;have hS:eV o.op=true->SB B j8 st:=fun hh=>b2 st (by grind);refine iJ ho n listed fr st (Region.free_spec ho hfi.2) E7 (.inl ⟨hw,hq,fun st' hS'=>?_⟩) hS hq (ih _ _ _ l h1 h2);have hpt:=GO hL b1;refine⟨@bT.mk r.c r.v st' r.d,?_,k2,rfl,rfl⟩;rw[hm];refine nA hq (fun l' k G5=>?_) k1;rw[G5]at hpt;have hh:eV o.op=true:=Ep G5;rw[hS' hh l' hpt,hS hh l' hpt]
     grind
    .rename_i hw;obtain⟨l,h1,h2,b1,b2⟩:=wit _ _ _ _ h hR;exact iJ ho n listed fr st (Region.free_spec ho hfi.2) E7 (.inr ⟨hw,rfl⟩) (fun hh=>b2 st (by grind)) hq (ih _ _ _ l h1 h2)
    grind
   grind
  .split at h
   .rename_i hr;injection h with h;subst h;refine⟨fun _=>(hR (fr,st,[],[]) sS).1,fun i hi=>by grind⟩
   .rename_i hr;refine⟨fun h0=>absurd h0 hr,fun i hi=>?_⟩;obtain⟨x,h1,h2⟩:=kJ h i hi
    split at h1
    .rename_i o ho;refine⟨o,ho,?_⟩;have hm:=vT (hdst i o ho)
     split at h1
     .grind
     .rename_i hq;have hq:aR o.op=false:=by simpa using hq
      have hKx:∀ st',(jT ops i=true->SB B j8 st')->Kx ops (SB B j8) i o st st':=by intro st' hh;unfold Kx;simp only[hq,aBa,aBN];exact hh
      unfold kV
      split at h1
      .rename_i hw;rw[hw];refine⟨fun _=>?_,(fun hb=>by grind)⟩
       split at h1
       .rename_i rs hx;have all:=kJ h1;have go:∀ v st1,(v,st1)∈rs->Kx ops (SB B j8) i o st st1/\jQ P T ops (List.range N) (SB B j8) (fun f s=>(f,s)∈R) n (listed.setIfInBounds i true) (bN fr o.dst v) st1:=by intro v st1 hmm;obtain⟨y,g1,g2⟩:=all (v,st1) hmm;obtain⟨l,q1,q2,_,q4⟩:=wit _ _ _ _ g1 (fun p hp=>hR p (h2 p (g2 p hp)));exact⟨hKx _ (fun hh=>q4 st1 (by grind)),ih _ _ _ l q1 q2⟩
        unfold VO at hx
        split at hx
        .rename_i x' args tys hop;unfold Sq at hx
         split at hx
         .rename_i f GK O3;rw[hop];simp only[O3];exact⟨_,hc _ _ _ _ hx,fun r st2 M5=>go r st2 M5⟩
         grind
        .rename_i Zy;cases hxa:Ih T o fr st with
         |none=>grind [Nd]
         |some p=>
          obtain⟨v,st1⟩:=p;rw[hxa]at hx;simp only[Nd,aAb]at hx;subst hx;obtain⟨r,k1,k2,rfl,rfl⟩:=tF hxa
          grind
       grind
      .rename_i hw;rw[hw];refine⟨(fun hb=>by grind),fun _=>?_⟩;obtain⟨l,q1,q2,_,q4⟩:=wit _ _ _ _ h1 (fun p hp=>hR p (h2 p hp))
       grind
      grind
    grind
def HG(T:Tab)(fr:Frm)(st:St):List ResultVar->Option (List LV)
 |[]=>some []
 |r::rs=>match AR T fr st r,HG T fr st rs with
  |some x,some l=>if @decide x.c x.d then some (x.v::l)else none
  |_,_=>none
theorem zY{T:Tab}{fr:Frm}{st:St}:∀(rs:List ResultVar) (l:List LV),HG T fr st rs=some l->∃ c,uY T fr st rs=some (c,l)/\c
 |[],l,h=>by simp only[HG,aAb]at h;subst h;exact⟨True,rfl,trivial⟩
 |r::rs,l,h=>by
  simp only[HG]at h
  split at h
  .rename_i x l' hx hl
   split at h
   .rename_i hc;simp only[aAb]at h;subst h;obtain⟨c,h1,h2⟩:=zY rs l' hl;exact⟨x.c/\c,by grind [uY],@aCc _ x.d hc,h2⟩
   grind
  grind
abbrev XR:=Exit×Frm×St
def XX(T:Tab)(rs:List ResultVar)(p:XR):Option (List (LV×St)):=match p.1 with
 |.ret=>match HG T p.2.1 p.2.2 rs with
  |some l=>some [(one l,p.2.2)]
  |none=>none
 |.normal=>match HG T p.2.1 p.2.2 rs with
  |some l=>some [(one l,p.2.2)]
  |none=>none
 |_=>none
def Lb(T:Tab)(rs:List ResultVar):Option (List XR)->Option (List (LV×St))
 |some l=>II (XX T rs) l
 |none=>none
def Xn(j8:St):Option (List XD)->Option (List (Frm×St))
 |some l=>if l.all (fun p=>p.2.2.2.all (sbB (l.flatMap fun q=>q.2.2.1) j8))then some (l.map fun p=>(p.1,p.2.1))else none
 |none=>none
def Ve(T:Tab)(call:jR)(N:Nat)(ops:Array Oper)(dr:Bool)(fr:Frm)(st:St):Option (List (Frm×St)):=
 if cV N ops ops.toList then
  match dr with
  |false=>Mm T call ops ops.toList fr st
  |true=>Xn st (Gz T call ops ops.size (Array.replicate ops.size false) fr st)
 else none
def VD(g:Frm->St->Option (List XR))(p:XR):Option (List XR):=match p.1 with
 |.normal=>g p.2.1 p.2.2
 |_=>some [p]
def La(g:Frm->St->Option (List XR)):Option (List XR)->Option (List XR)
 |some l=>II (VD g) l
 |none=>none
def Se(id:Nat)(p:XR):XR:=match p.1 with
 |.exit i=>if i=id then(.normal,p.2)else p
 |_=>p
def noGoto(p:XR):Bool:=match p.1 with
 |.goto _=>false
 |_=>true
def iQ(T:Tab)(fns:FuncId->Option Func)(pr:jR):Nat->Nat->Code->Frm->St->Option (List XR)
 |0,_,_,_,_=>none
 |n+1,N,c,fr,st=>match c with
  |.skip=>some [(.normal,fr,st)]
  |.label _=>some [(.normal,fr,st)]
  |.exit i=>some [(.exit i,fr,st)]
  |.ret=>some [(.ret,fr,st)]
  |.seq a b=>La (fun c7 st'=>iQ T fns pr n N b c7 st') (iQ T fns pr n N a fr st)
  |.block id c=>match iQ T fns pr n N c fr st with
   |some l=>some (l.map (Se id))
   |none=>none
  |.scope c=>match iQ T fns pr n N c fr st with
   |some l=>if l.all noGoto then some l else none
   |none=>none
  |.cond x a b=>match aH fr x with
   |.atom (.bool true)=>iQ T fns pr n N a fr st
   |.atom (.bool false)=>iQ T fns pr n N b fr st
   |_=>none
  |.loop c=>La (fun c7 st'=>iQ T fns pr n N (.loop c) c7 st') (iQ T fns pr n N c fr st)
  |.region _ ops dr=>match Ve T (fun f args st=>match pr f args st with
    |some r=>some r
    |none=>match fns f with
     |some fn=>match fn.body with
      |some c=>if args.length<=fn.ntmps then Lb T fn.results.toList (iQ T fns pr n fn.ntmps c (tE args) st)else none
      |none=>none
     |none=>none) N ops dr fr st with
   |some l=>some (l.map fun p=>(.normal,p.1,p.2))
   |none=>none
  |_=>none
def xE(T:Tab)(fns:FuncId->Option Func)(pr:jR)(n:Nat):jR:=fun f args st=>match pr f args st with
 |some r=>some r
 |none=>match fns f with
  |some fn=>match fn.body with
   |some c=>if args.length<=fn.ntmps then Lb T fn.results.toList (iQ T fns pr n fn.ntmps c (tE args) st)else none
   |none=>none
  |none=>none
def Ck(P:Program)(fns:FuncId->Option Func):Prop:=∀ f fn,fns f=some fn->P.funcs[f]?=some fn/\(fn.name== "runtime.NumGoroutine")=false
section
variable {P:Program} {T:Tab} {fns:FuncId->Option Func} {pr:jR}
def jU(L:List XR):AQ:=fun e f s=>(e,f,s)∈L
theorem pR(hT:aZ P T)(hf:Ck P fns)(hp:nX P pr){n:Nat}(ih:∀ N c fr st L,iQ T fns pr n N c fr st=some L->AWp P N c (jU L) fr st):nX P (xE T fns pr n):=by
 intro f args st rs h;unfold xE at h
 split at h
 .rename_i q hq;injection h with h;subst h;exact hp _ _ _ _ hq
 split at h
 .rename_i fn hfn;obtain⟨h1,h2⟩:=hf f fn hfn
  split at h
  .rename_i c hb
   split at h
   .rename_i hlen;cases hx:iQ T fns pr n fn.ntmps c (tE args) st with
    |none=>grind [Lb]
    |some L=>
     rw[hx]at h;simp only[Lb]at h;have all:=kJ h;refine qO hT h1 hb h2 rfl rfl hlen (cW (ih _ _ _ _ _ hx) ?_);intro e fr1 st1 hm;obtain⟨y,g1,g2⟩:=all (e,fr1,st1) hm;rw[sM];have key:(match HG T fr1 st1 fn.results.toList with|some l=>some [(one l,st1)]|none=>none)=some y->yA T (fun r1 F9=>(r1,F9)∈rs) fr1 st1 fn.results.toList:=by
      intro hres;cases hr:HG T fr1 st1 fn.results.toList with
      |none=>grind
      |some l=>
       grind [zY,yA]
     unfold XX at g1;cases e with
     |normal=>exact key g1
     |ret=>exact key g1
     |_=>grind
   grind
  grind
 grind
theorem CJ{g:Frm->St->Option (List XR)}{x:Option (List XR)}{L:List XR}(h:La g x=some L):∃ l,x=some l/\∀ p∈l,(∃ y,VD g p=some y/\∀ q∈y,q∈L):=by
 unfold La at h
 grind [kJ]
theorem Jf{N:Nat}{ops:Array Oper}{M:List Nat}{J J':Frm->St->Prop}(hJ:∀ f s,J f s->J' f s):∀(rest:List Oper) (fr:Frm) (st:St),cL P T N ops M J rest fr st->cL P T N ops M J' rest fr st:=by
 intro rest;induction rest with
 |nil=>intro fr st h;exact hJ _ _ h
 |cons o rest ihr=>
  intro fr st hh;rw[IP]at hh ⊢;unfold AP at hh ⊢
  split at hh
  .refine⟨fun hb=>?_,fun hb=>ihr _ _ (hh.2 hb)⟩;have h1:=hh.1 hb;unfold uF at h1 ⊢
   split at h1
   .unfold Kn at h1 ⊢
    split at h1
    .obtain⟨R,k1,k2⟩:=h1;exact⟨R,k1,fun r st' hr=>ihr _ _ (k2 r st' hr)⟩
    omega
   .unfold Cn at h1 ⊢
    split at h1
    .simp_all
    .unfold LD at h1 ⊢
     grind
  omega
theorem AZ(hT:aZ P T)(hf:Ck P fns)(hp:nX P pr)(hm:P.follows .mixedOrders=true):∀(n N:Nat) (c:Code) (fr:Frm) (st:St) (L:List XR),iQ T fns pr n N c fr st=some L->AWp P N c (jU L) fr st:=by
 intro n;induction n using Nat.strongRecOn with
 |ind n ihs=>
  intro N c fr st L h;cases n with
  |zero=>grind [iQ]
  |succ n=>
  have ih:=ihs n (aCQ n);cases c with
  |skip=>simp only[iQ,aAb]at h;subst h;exact qK (Q:=jU _) (k:=[]) (by simp[sM,jU])
  |label l=>simp only[iQ,aAb]at h;subst h;exact Cl (Q:=jU _) (k:=[]) (by simp[sM,jU])
  |exit i=>simp only[iQ,aAb]at h;subst h;exact qX (Q:=jU _) (k:=[]) (by simp[sM,jU])
  |ret=>simp only[iQ,aAb]at h;subst h;exact qR (Q:=jU _) (k:=[]) (by simp[sM,jU])
  |seq x y=>
   refine qS (Q:=jU L) (k:=[]) ?_;simp only[iQ]at h;obtain⟨l,hx,all⟩:=CJ h;refine cW (ih _ _ _ _ _ hx) ?_;intro e Y5 st2 hmm;obtain⟨z,g1,g2⟩:=all _ hmm;cases e with
   |normal=>rw[jA];exact cW (ih _ _ _ _ _ g1) (fun e f s hh=>g2 _ hh)
   |_=>injection g1 with g1;subst g1;exact g2 _ sS
  |block id x=>
   refine qB (Q:=jU L) (k:=[]) ?_;simp only[iQ]at h
   split at h
   .rename_i l hx;injection h with h;subst h;refine cW (ih _ _ _ _ _ hx) ?_;intro e Y5 st2 hmm;have c8:Se id (e,Y5,st2)∈l.map (Se id):=aAj.2 ⟨_,hmm,rfl⟩;cases e with
    |exit i=>
     rw[lX];simp only[Se]at c8
     split
     .rename_i hi;rw[aAk hi]at c8;exact c8
     .rename_i hi;rw[aAa hi]at c8;exact c8
    |_=>exact c8
   grind
  |scope x=>
   simp only[iQ]at h
   split at h
   .rename_i l hx
    split at h
    .rename_i hall;injection h with h;subst h;refine Mu (Q:=jU l) (k:=[]) (ih _ _ _ _ _ hx) ?_;intro k Y5 st2 hmm;have:=aBO.1 hall _ hmm
     grind [noGoto]
    grind
   grind
  |cond x a b=>
   refine qC (Q:=jU L) (k:=[]) ?_;simp only[iQ]at h
   split at h
   .rename_i hx;rw[hx,kX];exact⟨fun _=>ih _ _ _ _ _ h,(fun hb=>by grind)⟩
   .rename_i hx;rw[hx,kX];exact⟨(fun hb=>by grind),fun _=>ih _ _ _ _ _ h⟩
   grind
  |loop x=>
   refine qL (Q:=jU L) (k:=[]) (fun m fr st=>m<=n+1/\∃ L',iQ T fns pr m N (.loop x) fr st=some L'/\∀ p∈L',p∈L) (n+1) ⟨aAl _,L,h,fun p hp=>hp⟩ ?_;rintro m fr1 st1 ⟨u9,L',hI,D5⟩ J hJ;cases m with
   |zero=>grind [iQ]
   |succ m=>
    have ihm:=ihs m oO;simp only[iQ]at hI;obtain⟨l,hx,all⟩:=CJ hI;refine cW (ihm _ _ _ _ _ hx) ?_;intro e Y5 st2 hmm;obtain⟨z,g1,g2⟩:=all _ hmm;cases e with
    |normal=>rw[EU];exact hJ m _ _ (aCQ m) ⟨oO,z,g1,fun p hp=>D5 p (g2 p hp)⟩
    |_=>injection g1 with g1;subst g1;exact D5 _ (g2 _ sS)
  |region id ops dr=>
   simp only[iQ]at h;have D3:nX P (xE T fns pr n):=pR hT hf hp (fun N c fr st L hx=>ih N c fr st L hx)
   split at h
   .rename_i l hx;injection h with h;subst h;have L9:Ve T (xE T fns pr n) N ops dr fr st=some l:=hx;have fin:∀ f s,(f,s)∈l->jU (l.map fun p=>(Exit.normal,p.1,p.2)) .normal f s:=fun f s hh=>aAj.2 ⟨(f,s),hh,rfl⟩;unfold Ve at L9
    split at L9
    .rename_i hk;cases dr with
     |false=>simp only at L9;refine lJ hT (List.range N) hk fun J hJ=>?_;exact Jf (fun f s hh=>hJ _ _ (fin f s hh)) _ _ _ (Ay (N:=N) (R:=l) D3 _ _ _ l hk L9 (fun p hp=>hp))
     |true=>
      simp only at L9;unfold Xn at L9
      split at L9
      .rename_i L1 hxa
       split at L9
       .rename_i hall;injection L9 with L9;subst L9;intro a w g hi hr hs hd;refine wp_region_any hm ?_
        have hA:=Ai (N:=N) (B:=L1.flatMap fun q=>q.2.2.1) (j8:=st) (R:=L1.map fun p=>(p.1,p.2.1)) D3 hk _ _ fr st L1 hxa (fun p hp=>⟨aAj.2 ⟨p,hp,rfl⟩,fun l' G5=>aBk.2 ⟨p,hp,G5⟩,fun s W2=>by
         grind [MX]⟩)
        have O0:Ext w g { w with drawn:=w.drawn+1 } g:=dN w g;exact nF hT hk (fun f s hh=>fin f s hh) _ _ fr st a { w with drawn:=w.drawn+1 } g hi.drew (hr.mono O0) hs hd O0 hA
       grind
      grind
    grind
   grind
  |_=>grind [iQ]
end
def Fx:List (Nat×Func)->FuncId->Option Func
 |[],_=>none
 |p::l,f=>if f=p.1 then some p.2 else Fx l f
def XA(P:Program):List (Nat×Func)->Prop
 |[]=>True
 |p::l=>(P.funcs[p.1]?=some p.2/\(p.2.name== "runtime.NumGoroutine")=false)/\XA P l
theorem Ge{P:Program}:∀(l:List (Nat×Func)),XA P l->Ck P (Fx l)
 |[],_,f,fn,h=>by grind [Fx]
 |p::l,ha,f,fn,h=>by
  simp only[Fx]at h
  split at h
  .rename_i hf;injection h with h;subst hf h;exact ha.1
  .exact Ge l ha.2 f fn h
theorem Ei{P:Program}{f:FuncId}{st:St}{R:Value->Prop}(h:aB P f [] ⟨1,fun _=>.dead⟩ fun r _=>∃ v,r=.atom v/\R v):aB P f [] st fun r st'=>(∃ v,r=.atom v/\R v)/\st'=st:=by
 refine⟨h.1,fun w g vs hi hr=>?_⟩;have hi0:Inv w ⟨1,fun _=>none,fun _=>0,fun _=>0,fun _=>false⟩ ⟨1,fun _=>.dead⟩:=by refine⟨rfl,by decide,fun _ _=>rfl,fun l hl=>hl.elim,fun l l' hl=>hl.elim,fun l e s n hl=>(by grind),fun l e s cs hl=>(by grind),fun l ag ks es hl=>(by grind),fun l e n hl=>(by grind),sG (hi.aside.glob.phi fun _ _ _ _ _=>rfl) fun _=>rfl⟩
 refine(h.2 w _ vs hi0 (by grind [aC])).mono ?_;rintro e w' ⟨v,r,st',g',rfl,⟨v',rfl,W6⟩,C8,_,he⟩;have L5:∀ b,b<w.heap.size->w'.heap[b]?=w.heap[b]?:=fun b hb=>(he.still b hb rfl).2;have he':Ext w g w' g:=by refine⟨he.os,he.tape,he.output,he.size,aAl _,fun _ _=>rfl,fun _ _=>rfl,fun _ _=>rfl,fun b hb hn=>⟨hn,L5 b hb⟩,fun b k hb hk=>⟨k,hk,aAl _,fun o _=>World.cell?_of_block (w:=w) (L5 b hb)⟩⟩
 refine⟨v,_,st,g,rfl,⟨⟨v',rfl,W6⟩,rfl⟩,C8,?_,he'⟩;refine⟨hi.next,hi.pos,hi.fresh,fun l hl=>aAs (hi.lt l hl) he.size,hi.inj,?_,?_,?_,?_,hi.aside.keep he' fun _ _=>rfl⟩
 .intro l e s n hl;obtain⟨h1,h2,h3,h4⟩:=hi.own l e s n hl
  grind
 .intro l e s cs hl;obtain⟨h1,h2,h3⟩:=hi.box l e s cs hl
  grind [aC.mono]
 .intro l ag ks es hl;have hm:=hi.mp l ag ks es hl;exact hm.keep he' (hi.map_lt hl) (L5 _ hm.blk_lt) rfl
 .intro l e n hl;have hm:=hi.qu l e n hl;exact hm.keep he' (hi.que_lt hl) (L5 _ hm.blk_lt) rfl
def isB(b:Bool)(p:LV×St):Bool:=match p.1 with
 |.atom (.bool c)=>c==b
 |_=>false
def RF(r:Option (List (LV×St)))(b:Bool):Bool:=match r with
 |some l=>l.all (isB b)
 |none=>false
theorem rU{P:Program}{T:Tab}{fns:FuncId->Option Func}{pr:jR}(hT:aZ P T)(hf:Ck P fns)(hp:nX P pr)(hm:P.follows .mixedOrders=true)(n:Nat){f:FuncId}(b:Bool){st:St}
 (h:RF (xE T fns pr n f [] ⟨1,fun _=>.dead⟩) b=true):aB P f [] st fun r st'=>r=.atom (.bool b)/\st'=st:=by
 cases hx:xE T fns pr n f [] ⟨1,fun _=>.dead⟩ with
 |none=>grind [RF]
 |some l=>
  rw[hx]at h;simp only[RF]at h;rw[aBO]at h;have:=pR hT hf hp (fun N c fr st L hx=>AZ hT hf hp hm n N c fr st L hx) f [] _ l hx;refine(Ei (R:=fun v=>v=.bool b) (this.mono ?_)).mono ?_
  .grind [isB]
  grind
end Aw
end Go.Proofs.YtbgngpdonpeboaaGreatDoor
