/- An evaluator of calls whose arguments are written out; what it finds is so. No program is named here. -/
import Derived.Test.YtempldclppogmaaGreatDoorAwDraw
import Derived.Tactics
set_option linter.unusedVariables false
set_option linter.unusedSimpArgs false
namespace Go.Proofs.YtempldclppogmaaGreatDoor
namespace Aw
open Go Go.RowKit
mutual
def SJ:LV->LV->Bool
 |.dead,.dead=>true
 |.nil,.nil=>true
 |.emp,.emp=>true
 |.atom (.int k a),.atom (.int k' b)=>k==k'&&a==b
 |.atom (.bool a),.atom (.bool b)=>a==b
 |.sl t n cs,.sl t' n' cs'=>t==t'&&n==n'&&vE cs cs'
 |.ms l o n,.ms l' o' n'=>l==l'&&o==o'&&n==n'
 |.ag cs,.ag cs'=>vE cs cs'
 |.pt l o,.pt l' o'=>l==l'&&o==o'
 |.ep cs,.ep cs'=>vE cs cs'
 |.mp l,.mp l'=>l==l'
 |.fn (.func f) cs,.fn (.func f') cs'=>f==f'&&vE cs cs'
 |.tu cs,.tu cs'=>vE cs cs'
 |_,_=>false
def vE:List LV->List LV->Bool
 |[],[]=>true
 |a::D6,b::bs=>SJ a b&&vE D6 bs
 |_,_=>false
end
mutual
theorem Aa:∀(a b:LV),SJ a b=true->a=b
 |a,b,h=>by
  unfold SJ at h
  split at h
  .rfl
  .rfl
  .rfl
  .simp at h;obtain⟨rfl,rfl⟩:=h;rfl
  .simp at h;subst h;rfl
  .simp at h;obtain⟨⟨rfl,rfl⟩,h⟩:=h;rw[eO _ _ h]
  .simp at h;obtain⟨⟨rfl,rfl⟩,rfl⟩:=h;rfl
  .rw[eO _ _ h]
  .simp at h;obtain⟨rfl,rfl⟩:=h;rfl
  .rw[eO _ _ h]
  .simp at h;subst h;rfl
  .simp at h;obtain⟨rfl,h⟩:=h;rw[eO _ _ h]
  .rw[eO _ _ h]
  .cases h
theorem eO:∀(a b:List LV),vE a b=true->a=b
 |a,b,h=>by
  unfold vE at h
  split at h
  .rfl
  .simp at h;rw[Aa _ _ h.1,eO _ _ h.2]
  .cases h
end
def Cm:List (List Int×LV)->List (List Int×LV)->Bool
 |[],[]=>true
 |p::a,q::b=>p.1==q.1&&SJ p.2 q.2&&Cm a b
 |_,_=>false
theorem xW:∀ a b,Cm a b=true->a=b
 |[],[],_=>rfl
 |p::a,q::b,h=>by
  simp only[Cm,aAT,aCW]at h;rw[xW a b h.2]
  congr 1
  exact aDG h.1.1 (Aa _ _ h.1.2)
 |[],_::_,h=>by simp[Cm]at h
 |_::_,[],h=>by simp[Cm]at h
def Iq:cI->cI->Bool
 |.dead,.dead=>true
 |.own e s n,.own e' s' n'=>e==e'&&s==s'&&n==n'
 |.box e s cs,.box e' s' cs'=>e==e'&&s==s'&&vE cs cs'
 |.map ag ks es,.map P6 Zy es'=>ag==P6&&decide (ks=Zy)&&Cm es es'
 |_,_=>false
theorem Ey(a b:cI)(h:Iq a b=true):a=b:=by
 unfold Iq at h
 split at h
 .rfl
 .simp at h;obtain⟨⟨rfl,rfl⟩,rfl⟩:=h;rfl
 .simp at h;obtain⟨⟨rfl,rfl⟩,h⟩:=h;rw[eO _ _ h]
 .simp at h;obtain⟨⟨rfl,rfl⟩,h⟩:=h;rw[xW _ _ h]
 .cases h
abbrev kR:=FuncId->List LV->St->Option (List (LV×St))
def HC{α β:Type}(f:α->Option (List β)):List α->Option (List β)
 |[]=>some []
 |a::l=>match f a with
  |some x=>match HC f l with
   |some y=>some (x++y)
   |none=>none
  |none=>none
theorem kC{α β:Type}{f:α->Option (List β)}:∀ {l:List α} {r:List β},HC f l=some r->∀ a∈l,∃ x,f a=some x/\∀ b∈x,b∈r
 |[],r,_,a,ha=>by simp at ha
 |c::l,r,h,a,ha=>by
  simp only[HC]at h
  split at h
  .rename_i x hx
   split at h
   .rename_i y hy;injection h with h;subst h;rcases aAf.1 ha with rfl|ha
    .exact⟨x,hx,fun b hb=>aAt _ hb⟩
    .obtain⟨z,h1,h2⟩:=kC hy a ha;exact⟨z,h1,fun b hb=>aAI _ (h2 b hb)⟩
   .cases h
  .cases h
def JF(T:Tab)(o:Oper)(fr:Frm)(st:St):Option (LV×St):=
 match aop T o.dst.isSome o fr st with
 |some r=>if @decide r.c r.d then some (r.v,r.s)else none
 |none=>none
theorem sX{T:Tab}{o:Oper}{fr:Frm}{st st':St}{v:LV}(h:JF T o fr st=some (v,st')):∃ r,aop T o.dst.isSome o fr st=some r/\r.c/\r.v=v/\r.s=st':=by
 unfold JF at h
 split at h
 .rename_i r hr
  split at h
  .rename_i hc;simp only[aAb,aAW]at h;exact⟨r,hr,@aBR _ r.d hc,h.1,h.2⟩
  .cases h
 .cases h
def MW:Option (LV×St)->Option (List (LV×St))
 |some p=>some [p]
 |none=>none
def Rk(call:kR)(x:Operand)(args:Array Operand)(fr:Frm)(st:St):Option (List (LV×St)):=
 match eM (aH fr x) with
 |some (f,cX)=>call f ((args.toList.map (aH fr))++cX) st
 |none=>none
def Sz(T:Tab)(call:kR)(o:Oper)(fr:Frm)(st:St):Option (List (LV×St)):=
 match o.op with
 |.call { callee:=.value x,args:=args,argTypes:=_ }=>Rk call x args fr st
 |_=>match sY T o fr with
  |some (ng,n)=>if n=0 then some [(.atom (.bool (false != ng)),st),(.atom (.bool (true != ng)),st)]else some [(.atom (.bool (false != ng)),st)]
  |none=>MW (JF T o fr st)
def Mi(T:Tab)(call:kR)(ops:Array Oper):List Oper->Frm->St->Option (List (Frm×St))
 |[],fr,st=>some [(fr,st)]
 |o::rest,fr,st=>match bI ops fr o.guard with
  |some true=>match Sz T call o fr st with
   |some rs=>HC (fun p=>Mi T call ops rest (bU fr o.dst p.1) p.2) rs
   |none=>none
  |some false=>Mi T call ops rest (bU fr o.dst (.tu [])) st
  |none=>none
def pF(P:Program)(call:kR):Prop:=∀ f args st rs,call f args st=some rs->aB P f args st fun r1 Yy=>(r1,Yy)∈rs
theorem xJ{N:Nat}{d:Option Nat}(h:oL N d=true):inM (List.range N) d=d.isSome:=by
 cases d with
 |none=>rfl
 |some d=>simp[oL]at h;simp[inM,h]
theorem Ih{P:Program}{T:Tab}{N:Nat}{ops:Array Oper}{M:List Nat}{J:Frm->St->Prop}{rest:List Oper}{o:Oper}{fr:Frm}{st:St}{x:Operand}{args:Array Operand}{T5:Array TypeId}(o9:o.op=.call { callee:=.value x,args:=args,argTypes:=T5 }):
 uU P T N ops M J rest o fr st=KY P T N ops M J rest o.dst fr st (args.toList.map (aH fr)) (eM (aH fr x)):=by
 unfold uU;rw[o9]
theorem Im{P:Program}{T:Tab}{N:Nat}{ops:Array Oper}{M:List Nat}{J:Frm->St->Prop}{rest:List Oper}{o:Oper}{fr:Frm}{st:St}(Wu:∀(x:Operand) (args:Array Operand) (T5:Array TypeId),o.op=.call { callee:=.value x,args:=args,argTypes:=T5 }->False):
 uU P T N ops M J rest o fr st=Cw P T N ops M J rest o fr st (sY T o fr):=by
 unfold uU
 split
 .rename_i o9;exact(Wu _ _ _ o9).elim
 .rfl
theorem An{P:Program}{T:Tab}{call:kR}{ops:Array Oper}{N:Nat}(hc:pF P call){R:List (Frm×St)}:∀(rest:List Oper) (fr:Frm) (st:St) (L:List (Frm×St)),cV N ops rest=true->Mi T call ops rest fr st=some L->(∀ p∈L,p∈R)->
 cT P T N ops (List.range N) (fun f s=>(f,s)∈R) rest fr st
 |[],fr,st,L,_,h,hR=>by simp only[Mi,aAb]at h;subst h;exact hR _ sS
 |o::rest,fr,st,L,hk,h,hR=>by
  simp only[cV,List.all_cons,aAT]at hk;obtain⟨⟨hd,_⟩,hk⟩:=hk;have ih:=An (T:=T) (ops:=ops) (N:=N) hc (R:=R) rest;have ZU:cV N ops rest=true:=hk;rw[JK];simp only[Mi]at h
  split at h
  .rename_i hw;rw[hw,Ns]
   split at h
   .rename_i rs hx;have all:=kC h;have go:∀ v Yy,(v,Yy)∈rs->cT P T N ops (List.range N) (fun f s=>(f,s)∈R) rest (bU fr o.dst v) Yy:=by intro v Yy hm;obtain⟨x,h1,h2⟩:=all (v,Yy) hm;exact ih _ _ x ZU h1 (fun p hp=>hR p (h2 p hp))
    unfold Sz at hx
    split at hx
    .rename_i x args T5 o9;rw[Ih o9];unfold Rk at hx
     split at hx
     .rename_i f cX hf;rw[hf];exact⟨_,hc _ _ _ _ hx,fun r st2 hr=>go r st2 hr⟩
     .cases hx
    .rename_i Wu;rw[Im Wu]
     split at hx
     .rename_i ng n hn;rw[hn]
      split at hx
      .rename_i u9;injection hx with hx;subst hx;intro b hb;cases b with
       |true=>exact go _ _ sS
       |false=>exact go _ _ sS
      .rename_i u9;injection hx with hx;subst hx;intro b hb;cases b with
       |true=>exact absurd (hb rfl) u9
       |false=>exact go _ _ sS
     .rename_i hn;rw[hn];cases W7:JF T o fr st with
      |none=>rw[W7]at hx;simp[MW]at hx
      |some p=>obtain⟨v,Yy⟩:=p;rw[W7]at hx;simp only[MW,aAb]at hx;subst hx;obtain⟨r,h1,h2,rfl,rfl⟩:=sX W7;simp only[Cw,xJ hd,h1];exact⟨h2,go _ _ sS⟩
   .cases h
  .rename_i hw;rw[hw,Jo];exact ih _ _ L ZU h hR
  .cases h
def sbB(B:List Nat)(Xo st:St):Bool:=B.all fun l=>Iq (st.H l) (Xo.H l)
theorem Lx{B:List Nat}{Xo st:St}(h:sbB B Xo st=true):SB B Xo st:=by intro l hl;unfold sbB at h;rw[aBr]at h;exact Ey _ _ (h l hl)
def Nb:LV->Option (List Nat)
 |.pt l _=>some [l]
 |.ep _=>some []
 |_=>none
theorem Fh{B L:List Nat}{x:LV}(h:Nb x=some L)(hB:∀ l∈L,l∈B):Mt B x:=by
 unfold Nb at h
 split at h
 .simp only[aAb]at h;subst h;exact hB _ sS
 .simp[Mt]
 .cases h
def Sy(T:Tab)(call:kR)(o:Oper)(fr:Frm)(st:St):Option (List (LV×St)):=
 match o.op with
 |.call { callee:=.value x,args:=args,argTypes:=_ }=>Rk call x args fr st
 |_=>MW (JF T o fr st)
abbrev XD:=Frm×St×List Nat×List St
def Ip(L:List Nat)(S:List St):Option (List XD)->Option (List XD)
 |some (q::l)=>some ((q::l).map fun p=>(p.1,p.2.1,L++p.2.2.1,S++p.2.2.2))
 |_=>none
theorem MU{L:List Nat}{S:List St}{x:Option (List XD)}{r:List XD}(h:Ip L S x=some r):∃ l,x=some l/\l≠[]/\∀ p∈l,(p.1,p.2.1,L++p.2.2.1,S++p.2.2.2)∈r:=by
 unfold Ip at h
 split at h
 .rename_i q l;injection h with h;subst h;exact⟨q::l,rfl,sS,fun p hp=>aAm.2 ⟨p,hp,rfl⟩⟩
 .cases h
def Jt(ops:Array Oper)(i:Nat):Bool:=match ops[i]? with
 |some o=>aX o.op
 |none=>false
def Hf(T:Tab)(call:kR)(ops:Array Oper):Nat->Array Bool->Frm->St->Option (List XD)
 |0,listed,fr,st=>match Region.ready .any ops listed with
  |[]=>some [(fr,st,[],[])]
  |_=>none
 |n+1,listed,fr,st=>match(Region.ready .any ops listed).find? (fun i=>Jt ops i&&Region.free .any ops listed i) with
  |some i=>match ops[i]? with
   |some o=>match bI ops fr o.guard with
    |some true=>match Nb (mI fr o.op),JF T o fr st with
     |some L,some (v,_)=>Ip L (if eJ o.op then [st]else []) (Hf T call ops n (listed.setIfInBounds i true) (bU fr o.dst v) st)
     |_,_=>none
    |some false=>Ip [] (if eJ o.op then [st]else []) (Hf T call ops n (listed.setIfInBounds i true) (bU fr o.dst (.tu [])) st)
    |none=>none
   |none=>none
  |none=>match Region.ready .any ops listed with
   |[]=>some [(fr,st,[],[])]
   |rd=>HC (fun i=>match ops[i]? with
    |some o=>if aX o.op then none else match bI ops fr o.guard with
     |some true=>match Sy T call o fr st with
      |some rs=>HC (fun p=>Ip [] (if jO ops i then [p.2]else []) (Hf T call ops n (listed.setIfInBounds i true) (bU fr o.dst p.1) p.2)) rs
      |none=>none
     |some false=>Ip [] (if jO ops i then [st]else []) (Hf T call ops n (listed.setIfInBounds i true) (bU fr o.dst (.tu [])) st)
     |none=>none
    |none=>none) rd
theorem CA{P:Program}{T:Tab}{call:kR}{ops:Array Oper}{N:Nat}(hc:pF P call)(hk:cV N ops ops.toList=true){B:List Nat}{Xo:St}{R:List (Frm×St)}:∀(n:Nat) (listed:Array Bool) (fr:Frm) (st:St) (L:List XD),
 Hf T call ops n listed fr st=some L->(∀ p∈L,(p.1,p.2.1)∈R/\(∀ l∈p.2.2.1,l∈B)/\∀ s∈p.2.2.2,SB B Xo s)->jM P T ops (List.range N) (SB B Xo) (fun f s=>(f,s)∈R) n listed fr st
 |0,listed,fr,st,L,h,hR=>by
  simp only[Hf]at h
  split at h
  .rename_i hr;injection h with h;subst h;exact⟨hr,(hR (fr,st,[],[]) sS).1⟩
  .cases h
 |n+1,listed,fr,st,L,h,hR=>by
  have ih:=CA (T:=T) (N:=N) hc hk (B:=B) (Xo:=Xo) (R:=R) n;have J4:∀(i:Nat) (o:Oper),ops[i]?=some o->oL N o.dst=true:=by intro i o ho;unfold cV at hk;rw[aBr]at hk;have:=hk o (aEN.2 (aEG ho));simp only[aAT]at this;exact this.1
  have wit:∀(x:Option (List XD)) (L':List Nat) (S:List St) (r:List XD),Ip L' S x=some r->(∀ p∈r,(p.1,p.2.1)∈R/\(∀ l∈p.2.2.1,l∈B)/\∀ s∈p.2.2.2,SB B Xo s)->
   ∃ l,x=some l/\(∀ p∈l,(p.1,p.2.1)∈R/\(∀ l∈p.2.2.1,l∈B)/\∀ s∈p.2.2.2,SB B Xo s)/\(∀ q∈L',q∈B)/\∀ s∈S,SB B Xo s:=by
   intro x L' S r hx hr;obtain⟨l,h1,Wu,h2⟩:=MU hx;refine⟨l,h1,fun p hp=>?_,?_⟩
   .obtain⟨a1,a2,a3⟩:=hr _ (h2 p hp);exact⟨a1,fun q hq=>a2 q (aAI _ hq),fun s hs=>a3 s (aAI _ hs)⟩
   .obtain⟨p,hp⟩:=aBo l Wu;obtain⟨_,a2,a3⟩:=hr _ (h2 p hp);exact⟨fun q hq=>a2 q (aAt _ hq),fun s hs=>a3 s (aAt _ hs)⟩
  simp only[Hf]at h
  split at h
  .rename_i i hf;have hfi:=aDq hf;have Yp:=aCr hf;simp only[aAT]at hfi
   split at h
   .rename_i o ho;have hq:aX o.op=true:=by have:=hfi.1;unfold Jt at this;rw[ho]at this;exact this
    have hm:=xJ (J4 i o ho)
    split at h
    .rename_i hw
     split at h
     .rename_i L' v Yy hL hx;obtain⟨l,h1,h2,b1,b2⟩:=wit _ _ _ _ h hR;obtain⟨r,k1,k2,rfl,rfl⟩:=sX hx;have hS:eJ o.op=true->SB B Xo st:=fun hh=>b2 st (by simp[hh]);refine iB ho n listed fr st (Region.free_spec ho hfi.2) Yp (.inl ⟨hw,hq,fun st' hS'=>?_⟩) hS hq (ih _ _ _ l h1 h2);have hpt:=Fh hL b1;refine⟨@bW.mk r.c r.v st' r.d,?_,k2,rfl,rfl⟩;rw[hm];refine nZ hq (fun l' k Yn=>?_) k1;rw[Yn]at hpt;have hh:eJ o.op=true:=Dj Yn;rw[hS' hh l' hpt,hS hh l' hpt]
     .cases h
    .rename_i hw;obtain⟨l,h1,h2,b1,b2⟩:=wit _ _ _ _ h hR;exact iB ho n listed fr st (Region.free_spec ho hfi.2) Yp (.inr ⟨hw,rfl⟩) (fun hh=>b2 st (by simp[hh])) hq (ih _ _ _ l h1 h2)
    .cases h
   .cases h
  .split at h
   .rename_i hr;injection h with h;subst h;refine⟨fun _=>(hR (fr,st,[],[]) sS).1,fun i hi=>by rw[hr]at hi;simp at hi⟩
   .rename_i hr;refine⟨fun h0=>absurd h0 hr,fun i hi=>?_⟩;obtain⟨x,h1,h2⟩:=kC h i hi
    split at h1
    .rename_i o ho;refine⟨o,ho,?_⟩;have hm:=xJ (J4 i o ho)
     split at h1
     .cases h1
     .rename_i hq;have hq:aX o.op=false:=by simpa using hq
      have hKx:∀ st',(jO ops i=true->SB B Xo st')->Kx ops (SB B Xo) i o st st':=by intro st' hh;unfold Kx;simp only[hq,aAS,aBD];exact hh
      unfold kI
      split at h1
      .rename_i hw;rw[hw];refine⟨fun _=>?_,(fun hb=>by cases hb)⟩
       split at h1
       .rename_i rs hx;have all:=kC h1;have go:∀ v Yy,(v,Yy)∈rs->Kx ops (SB B Xo) i o st Yy/\jM P T ops (List.range N) (SB B Xo) (fun f s=>(f,s)∈R) n (listed.setIfInBounds i true) (bU fr o.dst v) Yy:=by intro v Yy O3;obtain⟨y,g1,g2⟩:=all (v,Yy) O3;obtain⟨l,q1,q2,_,q4⟩:=wit _ _ _ _ g1 (fun p hp=>hR p (h2 p (g2 p hp)));exact⟨hKx _ (fun hh=>q4 Yy (by simp[hh])),ih _ _ _ l q1 q2⟩
        unfold Sy at hx
        split at hx
        .rename_i x' args T5 o9;unfold Rk at hx
         split at hx
         .rename_i f cX u5;rw[o9];simp only[u5];exact⟨_,hc _ _ _ _ hx,fun r st2 j5=>go r st2 j5⟩
         .cases hx
        .rename_i Wu;cases W7:JF T o fr st with
         |none=>rw[W7]at hx;simp[MW]at hx
         |some p=>
          obtain⟨v,Yy⟩:=p;rw[W7]at hx;simp only[MW,aAb]at hx;subst hx;obtain⟨r,k1,k2,rfl,rfl⟩:=sX W7
          split
          .rename_i o9;exact(Wu _ _ _ o9).elim
          .rw[hm,k1];exact⟨k2,go _ _ sS⟩
       .cases h1
      .rename_i hw;rw[hw];refine⟨(fun hb=>by cases hb),fun _=>?_⟩;obtain⟨l,q1,q2,_,q4⟩:=wit _ _ _ _ h1 (fun p hp=>hR p (h2 p hp));exact⟨hKx _ (fun hh=>q4 st (by simp[hh])),ih _ _ _ l q1 q2⟩
      .cases h1
    .cases h1
def HB(T:Tab)(fr:Frm)(st:St):List ResultVar->Option (List LV)
 |[]=>some []
 |r::rs=>match Be T fr st r,HB T fr st rs with
  |some x,some l=>if @decide x.c x.d then some (x.v::l)else none
  |_,_=>none
theorem Az{T:Tab}{fr:Frm}{st:St}:∀(rs:List ResultVar) (l:List LV),HB T fr st rs=some l->∃ c,uP T fr st rs=some (c,l)/\c
 |[],l,h=>by simp only[HB,aAb]at h;subst h;exact⟨True,rfl,trivial⟩
 |r::rs,l,h=>by
  simp only[HB]at h
  split at h
  .rename_i x l' hx hl
   split at h
   .rename_i hc;simp only[aAb]at h;subst h;obtain⟨c,h1,h2⟩:=Az rs l' hl;exact⟨x.c/\c,by simp only[uP,hx,h1],@aBR _ x.d hc,h2⟩
   .cases h
  .cases h
abbrev XR:=Exit×Frm×St
def VL(T:Tab)(rs:List ResultVar)(p:XR):Option (List (LV×St)):=match p.1 with
 |.ret=>match HB T p.2.1 p.2.2 rs with
  |some l=>some [(one l,p.2.2)]
  |none=>none
 |.normal=>match HB T p.2.1 p.2.2 rs with
  |some l=>some [(one l,p.2.2)]
  |none=>none
 |_=>none
def JZ(T:Tab)(rs:List ResultVar):Option (List XR)->Option (List (LV×St))
 |some l=>HC (VL T rs) l
 |none=>none
def Ul(Xo:St):Option (List XD)->Option (List (Frm×St))
 |some l=>if l.all (fun p=>p.2.2.2.all (sbB (l.flatMap fun q=>q.2.2.1) Xo))then some (l.map fun p=>(p.1,p.2.1))else none
 |none=>none
def UK(T:Tab)(call:kR)(N:Nat)(ops:Array Oper)(dr:Bool)(fr:Frm)(st:St):Option (List (Frm×St)):=
 if cV N ops ops.toList then
  match dr with
  |false=>Mi T call ops ops.toList fr st
  |true=>Ul st (Hf T call ops ops.size (Array.replicate ops.size false) fr st)
 else none
def TB(g:Frm->St->Option (List XR))(p:XR):Option (List XR):=match p.1 with
 |.normal=>g p.2.1 p.2.2
 |_=>some [p]
def KL(g:Frm->St->Option (List XR)):Option (List XR)->Option (List XR)
 |some l=>HC (TB g) l
 |none=>none
def Rn(id:Nat)(p:XR):XR:=match p.1 with
 |.exit i=>if i=id then(.normal,p.2)else p
 |_=>p
def noGoto(p:XR):Bool:=match p.1 with
 |.goto _=>false
 |_=>true
def iP(T:Tab)(fns:FuncId->Option Func)(pr:kR):Nat->Nat->Code->Frm->St->Option (List XR)
 |0,_,_,_,_=>none
 |n+1,N,c,fr,st=>match c with
  |.skip=>some [(.normal,fr,st)]
  |.label _=>some [(.normal,fr,st)]
  |.exit i=>some [(.exit i,fr,st)]
  |.ret=>some [(.ret,fr,st)]
  |.seq a b=>KL (fun Xg st'=>iP T fns pr n N b Xg st') (iP T fns pr n N a fr st)
  |.block id c=>match iP T fns pr n N c fr st with
   |some l=>some (l.map (Rn id))
   |none=>none
  |.scope c=>match iP T fns pr n N c fr st with
   |some l=>if l.all noGoto then some l else none
   |none=>none
  |.cond x a b=>match aH fr x with
   |.atom (.bool true)=>iP T fns pr n N a fr st
   |.atom (.bool false)=>iP T fns pr n N b fr st
   |_=>none
  |.loop c=>KL (fun Xg st'=>iP T fns pr n N (.loop c) Xg st') (iP T fns pr n N c fr st)
  |.region _ ops dr=>match UK T (fun f args st=>match pr f args st with
    |some r=>some r
    |none=>match fns f with
     |some fn=>match fn.body with
      |some c=>if args.length<=fn.ntmps then JZ T fn.results.toList (iP T fns pr n fn.ntmps c (sG args) st)else none
      |none=>none
     |none=>none) N ops dr fr st with
   |some l=>some (l.map fun p=>(.normal,p.1,p.2))
   |none=>none
  |_=>none
def DR(T:Tab)(fns:FuncId->Option Func)(pr:kR)(n:Nat):kR:=fun f args st=>match pr f args st with
 |some r=>some r
 |none=>match fns f with
  |some fn=>match fn.body with
   |some c=>if args.length<=fn.ntmps then JZ T fn.results.toList (iP T fns pr n fn.ntmps c (sG args) st)else none
   |none=>none
  |none=>none
def HD(P:Program)(fns:FuncId->Option Func):Prop:=∀ f fn,fns f=some fn->P.funcs[f]?=some fn/\(fn.name== "runtime.NumGoroutine")=false
section
variable {P:Program} {T:Tab} {fns:FuncId->Option Func} {pr:kR}
def jQ(L:List XR):AQ:=fun e f s=>(e,f,s)∈L
theorem xK(hT:bJ P T)(hf:HD P fns)(hp:pF P pr){n:Nat}(ih:∀ N c fr st L,iP T fns pr n N c fr st=some L->AWp P N c (jQ L) fr st):pF P (DR T fns pr n):=by
 intro f args st rs h;unfold DR at h
 split at h
 .rename_i q hq;injection h with h;subst h;exact hp _ _ _ _ hq
 split at h
 .rename_i fn hfn;obtain⟨h1,h2⟩:=hf f fn hfn
  split at h
  .rename_i c hb
   split at h
   .rename_i hlen;cases hx:iP T fns pr n fn.ntmps c (sG args) st with
    |none=>rw[hx]at h;simp[JZ]at h
    |some L=>
     rw[hx]at h;simp only[JZ]at h;have all:=kC h;refine qO hT h1 hb h2 rfl rfl hlen (cY (ih _ _ _ _ _ hx) ?_);intro e fr1 Yy hm;obtain⟨y,g1,g2⟩:=all (e,fr1,Yy) hm;rw[tC];have key:(match HB T fr1 Yy fn.results.toList with|some l=>some [(one l,Yy)]|none=>none)=some y->yM T (fun r1 ZW=>(r1,ZW)∈rs) fr1 Yy fn.results.toList:=by
      intro U1;cases hr:HB T fr1 Yy fn.results.toList with
      |none=>simp[hr]at U1
      |some l=>simp only[hr,aAb]at U1;subst U1;obtain⟨cc,k1,k2⟩:=Az _ _ hr;unfold yM;rw[k1];exact⟨k2,g2 _ sS⟩
     unfold VL at g1;cases e with
     |normal=>exact key g1
     |ret=>exact key g1
     |_=>cases g1
   .cases h
  .cases h
 .cases h
theorem Bt{g:Frm->St->Option (List XR)}{x:Option (List XR)}{L:List XR}(h:KL g x=some L):∃ l,x=some l/\∀ p∈l,(∃ y,TB g p=some y/\∀ q∈y,q∈L):=by
 unfold KL at h
 split at h
 .rename_i l;exact⟨l,rfl,fun p hp=>kC h p hp⟩
 .cases h
theorem JW{N:Nat}{ops:Array Oper}{M:List Nat}{J J':Frm->St->Prop}(hJ:∀ f s,J f s->J' f s):∀(rest:List Oper) (fr:Frm) (st:St),cT P T N ops M J rest fr st->cT P T N ops M J' rest fr st:=by
 intro rest;induction rest with
 |nil=>intro fr st h;exact hJ _ _ h
 |cons o rest ihr=>
  intro fr st hh;rw[JK]at hh ⊢;unfold BD at hh ⊢
  split at hh
  .refine⟨fun hb=>?_,fun hb=>ihr _ _ (hh.2 hb)⟩;have h1:=hh.1 hb;unfold uU at h1 ⊢
   split at h1
   .unfold KY at h1 ⊢
    split at h1
    .obtain⟨R,k1,k2⟩:=h1;exact⟨R,k1,fun r st' hr=>ihr _ _ (k2 r st' hr)⟩
    .exact h1
   .unfold Cw at h1 ⊢
    split at h1
    .exact fun b hb=>ihr _ _ (h1 b hb)
    .unfold KK at h1 ⊢
     split at h1
     .exact⟨h1.1,ihr _ _ h1.2⟩
     .exact h1
  .exact hh
theorem JP(hT:bJ P T)(hf:HD P fns)(hp:pF P pr)(hm:P.follows .mixedOrders=true):∀(n N:Nat) (c:Code) (fr:Frm) (st:St) (L:List XR),iP T fns pr n N c fr st=some L->AWp P N c (jQ L) fr st:=by
 intro n;induction n using Nat.strongRecOn with
 |ind n ihs=>
  intro N c fr st L h;cases n with
  |zero=>simp[iP]at h
  |succ n=>
  have ih:=ihs n (aCL n);cases c with
  |skip=>simp only[iP,aAb]at h;subst h;exact qK (Q:=jQ _) (k:=[]) (by simp[tC,jQ])
  |label l=>simp only[iP,aAb]at h;subst h;exact vT (Q:=jQ _) (k:=[]) (by simp[tC,jQ])
  |exit i=>simp only[iP,aAb]at h;subst h;exact qX (Q:=jQ _) (k:=[]) (by simp[tC,jQ])
  |ret=>simp only[iP,aAb]at h;subst h;exact qR (Q:=jQ _) (k:=[]) (by simp[tC,jQ])
  |seq x y=>
   refine qS (Q:=jQ L) (k:=[]) ?_;simp only[iP]at h;obtain⟨l,hx,all⟩:=Bt h;refine cY (ih _ _ _ _ _ hx) ?_;intro e Zq st2 O3;obtain⟨z,g1,g2⟩:=all _ O3;cases e with
   |normal=>rw[iR];exact cY (ih _ _ _ _ _ g1) (fun e f s hh=>g2 _ hh)
   |_=>injection g1 with g1;subst g1;exact g2 _ sS
  |block id x=>
   refine qB (Q:=jQ L) (k:=[]) ?_;simp only[iP]at h
   split at h
   .rename_i l hx;injection h with h;subst h;refine cY (ih _ _ _ _ _ hx) ?_;intro e Zq st2 O3;have Xl:Rn id (e,Zq,st2)∈l.map (Rn id):=aAm.2 ⟨_,O3,rfl⟩;cases e with
    |exit i=>
     rw[mD];simp only[Rn]at Xl
     split
     .rename_i hi;rw[aAe hi]at Xl;exact Xl
     .rename_i hi;rw[aAa hi]at Xl;exact Xl
    |_=>exact Xl
   .cases h
  |scope x=>
   simp only[iP]at h
   split at h
   .rename_i l hx
    split at h
    .rename_i hall;injection h with h;subst h;refine Lw (Q:=jQ l) (k:=[]) (ih _ _ _ _ _ hx) ?_;intro k Zq st2 O3;have:=aBr.1 hall _ O3;simp[noGoto]at this
    .cases h
   .cases h
  |cond x a b=>
   refine qC (Q:=jQ L) (k:=[]) ?_;simp only[iP]at h
   split at h
   .rename_i hx;rw[hx,kM];exact⟨fun _=>ih _ _ _ _ _ h,(fun hb=>by cases hb)⟩
   .rename_i hx;rw[hx,kM];exact⟨(fun hb=>by cases hb),fun _=>ih _ _ _ _ _ h⟩
   .cases h
  |loop x=>
   refine qL (Q:=jQ L) (k:=[]) (fun m fr st=>m<=n+1/\∃ L',iP T fns pr m N (.loop x) fr st=some L'/\∀ p∈L',p∈L) (n+1) ⟨aAk _,L,h,fun p hp=>hp⟩ ?_;rintro m fr1 Yy ⟨Xm,L',hI,YW⟩ J hJ;cases m with
   |zero=>simp[iP]at hI
   |succ m=>
    have ihm:=ihs m oO;simp only[iP]at hI;obtain⟨l,hx,all⟩:=Bt hI;refine cY (ihm _ _ _ _ _ hx) ?_;intro e Zq st2 O3;obtain⟨z,g1,g2⟩:=all _ O3;cases e with
    |normal=>rw[Dv];exact hJ m _ _ (aCL m) ⟨oO,z,g1,fun p hp=>YW p (g2 p hp)⟩
    |_=>injection g1 with g1;subst g1;exact YW _ (g2 _ sS)
  |region id ops dr=>
   simp only[iP]at h;have YO:pF P (DR T fns pr n):=xK hT hf hp (fun N c fr st L hx=>ih N c fr st L hx)
   split at h
   .rename_i l hx;injection h with h;subst h;have Zn:UK T (DR T fns pr n) N ops dr fr st=some l:=hx;have fin:∀ f s,(f,s)∈l->jQ (l.map fun p=>(Exit.normal,p.1,p.2)) .normal f s:=fun f s hh=>aAm.2 ⟨(f,s),hh,rfl⟩;unfold UK at Zn
    split at Zn
    .rename_i hk;cases dr with
     |false=>simp only at Zn;refine lZ hT (List.range N) hk fun J hJ=>?_;exact JW (fun f s hh=>hJ _ _ (fin f s hh)) _ _ _ (An (N:=N) (R:=l) YO _ _ _ l hk Zn (fun p hp=>hp))
     |true=>
      simp only at Zn;unfold Ul at Zn
      split at Zn
      .rename_i L1 W7
       split at Zn
       .rename_i hall;injection Zn with Zn;subst Zn;intro a w g hi hr hs hd;refine wp_region_any hm ?_
        have hA:=CA (N:=N) (B:=L1.flatMap fun q=>q.2.2.1) (Xo:=st) (R:=L1.map fun p=>(p.1,p.2.1)) YO hk _ _ fr st L1 W7 (fun p hp=>⟨aAm.2 ⟨p,hp,rfl⟩,fun l' Yn=>aAR.2 ⟨p,hp,Yn⟩,fun s I3=>by
         rw[aBr]at hall;have:=hall p hp;rw[aBr]at this
         exact Lx (this s I3)⟩)
        have C4:Ext w g { w with drawn:=w.drawn+1 } g:=dH w g;exact nW hT hk (fun f s hh=>fin f s hh) _ _ fr st a { w with drawn:=w.drawn+1 } g hi.drew (hr.mono C4) hs hd C4 hA
       .cases Zn
      .cases Zn
    .cases Zn
   .cases h
  |_=>simp[iP]at h
end
def GS:List (Nat×Func)->FuncId->Option Func
 |[],_=>none
 |p::l,f=>if f=p.1 then some p.2 else GS l f
def VK(P:Program):List (Nat×Func)->Prop
 |[]=>True
 |p::l=>(P.funcs[p.1]?=some p.2/\(p.2.name== "runtime.NumGoroutine")=false)/\VK P l
theorem FR{P:Program}:∀(l:List (Nat×Func)),VK P l->HD P (GS l)
 |[],_,f,fn,h=>by simp[GS]at h
 |p::l,ha,f,fn,h=>by
  simp only[GS]at h
  split at h
  .rename_i hf;injection h with h;subst hf h;exact ha.1
  .exact FR l ha.2 f fn h
theorem tR{P:Program}{f:FuncId}{st:St}{R:Value->Prop}(h:aB P f [] ⟨1,fun _=>.dead⟩ fun r _=>∃ v,r=.atom v/\R v):aB P f [] st fun r st'=>(∃ v,r=.atom v/\R v)/\st'=st:=by
 refine⟨h.1,fun w g vs hi hr=>?_⟩;have hi0:Inv w ⟨1,fun _=>none,fun _=>0,fun _=>0,fun _=>false⟩ ⟨1,fun _=>.dead⟩:=by refine⟨rfl,by decide,fun _ _=>rfl,fun l hl=>hl.elim,fun l l' hl=>hl.elim,fun l e s n hl=>(by cases hl),fun l e s cs hl=>(by cases hl),fun l ag ks es hl=>(by cases hl),fun l e n hl=>(by cases hl),Ae (hi.aside.glob.phi fun _ _ _ _ _=>rfl) fun _=>rfl⟩
 refine(h.2 w _ vs hi0 (by simp only[aC]at hr ⊢;exact hr)).mono ?_;rintro e w' ⟨v,r,st',g',rfl,⟨v',rfl,Q7⟩,YF,_,he⟩;have YS:∀ b,b<w.heap.size->w'.heap[b]?=w.heap[b]?:=fun b hb=>(he.still b hb rfl).2;have F8:Ext w g w' g:=by refine⟨he.os,he.tape,he.output,he.size,aAk _,fun _ _=>rfl,fun _ _=>rfl,fun _ _=>rfl,fun b hb hn=>⟨hn,YS b hb⟩,fun b k hb hk=>⟨k,hk,aAk _,fun o _=>World.cell?_of_block (w:=w) (YS b hb)⟩⟩
 refine⟨v,_,st,g,rfl,⟨⟨v',rfl,Q7⟩,rfl⟩,YF,?_,F8⟩;refine⟨hi.next,hi.pos,hi.fresh,fun l hl=>aAp (hi.lt l hl) he.size,hi.inj,?_,?_,?_,?_,hi.aside.keep F8 fun _ _=>rfl⟩
 .intro l e s n hl;obtain⟨h1,h2,h3,h4⟩:=hi.own l e s n hl;refine⟨h1,h2,h3,fun Xi=>?_⟩;obtain⟨Xk,k1,k2,k3⟩:=h4 Xi;exact⟨Xk,by rw[YS _ (aAw.1 k1).1];exact k1,k2,k3⟩
 .intro l e s cs hl;obtain⟨h1,h2,h3⟩:=hi.box l e s cs hl;refine⟨h1,h2,fun Xi=>?_⟩;obtain⟨Xk,k1,k2,k3,k4,k5⟩:=h3 Xi;exact⟨Xk,by rw[YS _ (aAw.1 k1).1];exact k1,k2,k3,aC.mono F8 _ _ k4,k5⟩
 .intro l ag ks es hl;have hm:=hi.mp l ag ks es hl;exact hm.keep F8 (hi.map_lt hl) (YS _ hm.blk_lt) rfl
 .intro l e n hl;have hm:=hi.qu l e n hl;exact hm.keep F8 (hi.que_lt hl) (YS _ hm.blk_lt) rfl
def isB(b:Bool)(p:LV×St):Bool:=match p.1 with
 |.atom (.bool c)=>c==b
 |_=>false
def Om(r:Option (List (LV×St)))(b:Bool):Bool:=match r with
 |some l=>l.all (isB b)
 |none=>false
theorem CT{P:Program}{T:Tab}{fns:FuncId->Option Func}{pr:kR}(hT:bJ P T)(hf:HD P fns)(hp:pF P pr)(hm:P.follows .mixedOrders=true)(n:Nat){f:FuncId}(b:Bool){st:St}
 (h:Om (DR T fns pr n f [] ⟨1,fun _=>.dead⟩) b=true):aB P f [] st fun r st'=>r=.atom (.bool b)/\st'=st:=by
 cases hx:DR T fns pr n f [] ⟨1,fun _=>.dead⟩ with
 |none=>rw[hx]at h;simp[Om]at h
 |some l=>
  rw[hx]at h;simp only[Om]at h;rw[aBr]at h;have:=xK hT hf hp (fun N c fr st L hx=>JP hT hf hp hm n N c fr st L hx) f [] _ l hx;refine(tR (R:=fun v=>v=.bool b) (this.mono ?_)).mono ?_
  .intro r1 Yy O3;have hb:=h _ O3;unfold isB at hb
   split at hb
   .rename_i c hc;simp only at hc;simp at hb;exact⟨_,hc,by rw[hb]⟩
   .cases hb
  .rintro r1 Yy ⟨⟨v,rfl,rfl⟩,rfl⟩;exact⟨rfl,rfl⟩
end Aw
end Go.Proofs.YtempldclppogmaaGreatDoor
