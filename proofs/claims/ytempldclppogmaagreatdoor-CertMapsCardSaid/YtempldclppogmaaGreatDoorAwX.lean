/- An evaluator of calls whose arguments are written out; what it finds is so. No program is named here. -/
import Derived.Test.YtempldclppogmaaGreatDoorAwDraw
import Derived.Tactics
set_option linter.unusedVariables false
set_option linter.unusedSimpArgs false
namespace Go.Proofs.YtempldclppogmaaGreatDoor.Aw
open Go Go.RowKit
mutual
def aMQ:LV→LV→Bool
 |.dead,.dead=>true
 |.nil,.nil=>true
 |.emp,.emp=>true
 |.atom (.int k a),.atom (.int k' b)=>k==k'&&a==b
 |.atom (.bool a),.atom (.bool b)=>a==b
 |.sl t n cs,.sl t' n' cs'=>t==t'&&n==n'&&pA cs cs'
 |.ms l o n,.ms l' o' n'=>l==l'&&o==o'&&n==n'
 |.ag cs,.ag cs'=>pA cs cs'
 |.pt l o,.pt l' o'=>l==l'&&o==o'
 |.ep cs,.ep cs'=>pA cs cs'
 |.mp l,.mp l'=>l==l'
 |.fn (.func f) cs,.fn (.func f') cs'=>f==f'&&pA cs cs'
 |.tu cs,.tu cs'=>pA cs cs'
 |_,_=>false
def pA:List LV→List LV→Bool
 |[],[]=>true
 |a::as1,b::bs=>aMQ a b&&pA as1 bs
 |_,_=>false
end
mutual
theorem vD:∀(a b:LV),aMQ a b=true→a=b
 |a,b,h=>by
  unfold aMQ at h
  split at h
  ·rfl
  ·rfl
  ·rfl
  ·simp at h;obtain⟨rfl,rfl⟩:=h;rfl
  ·simp at h;subst h;rfl
  ·simp at h;obtain⟨⟨rfl,rfl⟩,h⟩:=h;rw[dW _ _ h]
  ·simp at h;obtain⟨⟨rfl,rfl⟩,rfl⟩:=h;rfl
  ·rw[dW _ _ h]
  ·simp at h;obtain⟨rfl,rfl⟩:=h;rfl
  ·rw[dW _ _ h]
  ·simp at h;subst h;rfl
  ·simp at h;obtain⟨rfl,h⟩:=h;rw[dW _ _ h]
  ·rw[dW _ _ h]
  ·cases h
theorem dW:∀(a b:List LV),pA a b=true→a=b
 |a,b,h=>by
  unfold pA at h
  split at h
  ·rfl
  ·simp at h;rw[vD _ _ h.1,dW _ _ h.2]
  ·cases h
end
def aAw:List (List Int×LV)→List (List Int×LV)→Bool
 |[],[]=>true
 |p::a,q::b=>p.1==q.1&&aMQ p.2 q.2&&aAw a b
 |_,_=>false
theorem tJ:∀ a b,aAw a b=true→a=b
 |[],[],_=>rfl
 |p::a,q::b,h=>by
  simp only[aAw,Bool.and_eq_true,beq_iff_eq]at h
  rw[tJ a b h.2]
  congr 1
  exact Prod.ext h.1.1 (vD _ _ h.1.2)
 |[],_::_,h=>by simp[aAw]at h
 |_::_,[],h=>by simp[aAw]at h
def aEI:bZ→bZ→Bool
 |.dead,.dead=>true
 |.own e s n,.own e' s' n'=>e==e'&&s==s'&&n==n'
 |.box e s cs,.box e' s' cs'=>e==e'&&s==s'&&pA cs cs'
 |.map ag ks es,.map ag' ks' es'=>ag==ag'&&decide (ks=ks')&&aAw es es'
 |_,_=>false
theorem aAS(a b:bZ)(h:aEI a b=true):a=b:=by
 unfold aEI at h
 split at h
 ·rfl
 ·simp at h;obtain⟨⟨rfl,rfl⟩,rfl⟩:=h;rfl
 ·simp at h;obtain⟨⟨rfl,rfl⟩,h⟩:=h;rw[dW _ _ h]
 ·simp at h;obtain⟨⟨rfl,rfl⟩,h⟩:=h;rw[tJ _ _ h]
 ·cases h
abbrev fQ:=FuncId→List LV→St→Option (List (LV×St))
def aCf{α β:Type}(f:α→Option (List β)):List α→Option (List β)
 |[]=>some []
 |a::l=>match f a with
  |some x=>match aCf f l with
   |some y=>some (x++y)
   |none=>none
  |none=>none
theorem gY{α β:Type}{f:α→Option (List β)}:∀ {l:List α} {r:List β},aCf f l=some r→∀ a∈l,∃ x,f a=some x∧∀ b∈x,b∈r
 |[],r,_,a,ha=>by simp at ha
 |c::l,r,h,a,ha=>by
  simp only[aCf]at h
  split at h
  ·rename_i x hx
   split at h
   ·rename_i y hy
    injection h with h
    subst h
    rcases List.mem_cons.1 ha with rfl|ha
    ·exact⟨x,hx,fun b hb=>List.mem_append_left _ hb⟩
    ·obtain⟨z,h1,h2⟩:=gY hy a ha
     exact⟨z,h1,fun b hb=>List.mem_append_right _ (h2 b hb)⟩
   ·cases h
  ·cases h
def aFk(T:Tab)(o:Oper)(fr:Frm)(st:St):Option (LV×St):=
 match aop T o.dst.isSome o fr st with
 |some r=>if @decide r.c r.d then some (r.v,r.s)else none
 |none=>none
theorem oS{T:Tab}{o:Oper}{fr:Frm}{st st':St}{v:LV}(h:aFk T o fr st=some (v,st')):∃ r,aop T o.dst.isSome o fr st=some r∧r.c∧r.v=v∧r.s=st':=by
 unfold aFk at h
 split at h
 ·rename_i r hr
  split at h
  ·rename_i hc
   simp only[Option.some.injEq,Prod.mk.injEq]at h
   exact⟨r,hr,@of_decide_eq_true _ r.d hc,h.1,h.2⟩
  ·cases h
 ·cases h
def aGI:Option (LV×St)→Option (List (LV×St))
 |some p=>some [p]
 |none=>none
def aMI(call:fQ)(x:Operand)(args:Array Operand)(fr:Frm)(st:St):Option (List (LV×St)):=
 match dS (aH fr x) with
 |some (f,caps)=>call f ((args.toList.map (aH fr))++caps) st
 |none=>none
def aNA(T:Tab)(call:fQ)(o:Oper)(fr:Frm)(st:St):Option (List (LV×St)):=
 match o.op with
 |.call { callee:=.value x,args:=args,argTypes:=_ }=>aMI call x args fr st
 |_=>match oL T o fr with
  |some (ng,n)=>if n=0 then some [(.atom (.bool (false != ng)),st),(.atom (.bool (true != ng)),st)]else some [(.atom (.bool (false != ng)),st)]
  |none=>aGI (aFk T o fr st)
def aHf(T:Tab)(call:fQ)(ops:Array Oper):List Oper→Frm→St→Option (List (Frm×St))
 |[],fr,st=>some [(fr,st)]
 |o::rest,fr,st=>match bB ops fr o.guard with
  |some true=>match aNA T call o fr st with
   |some rs=>aCf (fun p=>aHf T call ops rest (bK fr o.dst p.1) p.2) rs
   |none=>none
  |some false=>aHf T call ops rest (bK fr o.dst (.tu [])) st
  |none=>none
def jK(P:Program)(call:fQ):Prop:=∀ f args st rs,call f args st=some rs→aB P f args st fun r1 st1=>(r1,st1)∈rs
theorem rF{N:Nat}{d:Option Nat}(h:jX N d=true):inM (List.range N) d=d.isSome:=by
 cases d with
 |none=>rfl
 |some d=>simp[jX]at h;simp[inM,h]
theorem aEY{P:Program}{T:Tab}{N:Nat}{ops:Array Oper}{M:List Nat}{J:Frm→St→Prop}{rest:List Oper}{o:Oper}{fr:Frm}{st:St}{x:Operand}{args:Array Operand}{tys:Array TypeId}(hop:o.op=.call { callee:=.value x,args:=args,argTypes:=tys }):
 rB P T N ops M J rest o fr st=aFE P T N ops M J rest o.dst fr st (args.toList.map (aH fr)) (dS (aH fr x)):=by
 unfold rB;rw[hop]
theorem aFe{P:Program}{T:Tab}{N:Nat}{ops:Array Oper}{M:List Nat}{J:Frm→St→Prop}{rest:List Oper}{o:Oper}{fr:Frm}{st:St}(hne:∀(x:Operand) (args:Array Operand) (tys:Array TypeId),o.op=.call { callee:=.value x,args:=args,argTypes:=tys }→False):
 rB P T N ops M J rest o fr st=aAj P T N ops M J rest o fr st (oL T o fr):=by
 unfold rB
 split
 ·rename_i hop;exact(hne _ _ _ hop).elim
 ·rfl
theorem vQ{P:Program}{T:Tab}{call:fQ}{ops:Array Oper}{N:Nat}(hc:jK P call){R:List (Frm×St)}:∀(rest:List Oper) (fr:Frm) (st:St) (L:List (Frm×St)),cE N ops rest=true→aHf T call ops rest fr st=some L→(∀ p∈L,p∈R)→
 cF P T N ops (List.range N) (fun f s=>(f,s)∈R) rest fr st
 |[],fr,st,L,_,h,hR=>by
  simp only[aHf,Option.some.injEq]at h
  subst h
  exact hR _ sS
 |o::rest,fr,st,L,hk,h,hR=>by
  simp only[cE,List.all_cons,Bool.and_eq_true]at hk
  obtain⟨⟨hd,_⟩,hk⟩:=hk
  have ih:=vQ (T:=T) (ops:=ops) (N:=N) hc (R:=R) rest
  have hk':cE N ops rest=true:=hk
  rw[aEf]
  simp only[aHf]at h
  split at h
  ·rename_i hw
   rw[hw,aJV]
   split at h
   ·rename_i rs hx
    have all:=gY h
    have go:∀ v st1,(v,st1)∈rs→cF P T N ops (List.range N) (fun f s=>(f,s)∈R) rest (bK fr o.dst v) st1:=by
     intro v st1 hm
     obtain⟨x,h1,h2⟩:=all (v,st1) hm
     exact ih _ _ x hk' h1 (fun p hp=>hR p (h2 p hp))
    unfold aNA at hx
    split at hx
    ·rename_i x args tys hop
     rw[aEY hop]
     unfold aMI at hx
     split at hx
     ·rename_i f caps hf
      rw[hf]
      exact⟨_,hc _ _ _ _ hx,fun r st2 hr=>go r st2 hr⟩
     ·cases hx
    ·rename_i hne
     rw[aFe hne]
     split at hx
     ·rename_i ng n hn
      rw[hn]
      split at hx
      ·rename_i hn0
       injection hx with hx
       subst hx
       intro b hb
       cases b with
       |true=>exact go _ _ sS
       |false=>exact go _ _ sS
      ·rename_i hn0
       injection hx with hx
       subst hx
       intro b hb
       cases b with
       |true=>exact absurd (hb rfl) hn0
       |false=>exact go _ _ sS
     ·rename_i hn
      rw[hn]
      cases hxa:aFk T o fr st with
      |none=>rw[hxa]at hx;simp[aGI]at hx
      |some p=>
       obtain⟨v,st1⟩:=p
       rw[hxa]at hx
       simp only[aGI,Option.some.injEq]at hx
       subst hx
       obtain⟨r,h1,h2,rfl,rfl⟩:=oS hxa
       simp only[aAj,rF hd,h1]
       exact⟨h2,go _ _ sS⟩
   ·cases h
  ·rename_i hw
   rw[hw,aGd]
   exact ih _ _ L hk' h hR
  ·cases h
def sbB(B:List Nat)(st0 st:St):Bool:=B.all fun l=>aEI (st.H l) (st0.H l)
theorem aGA{B:List Nat}{st0 st:St}(h:sbB B st0 st=true):SB B st0 st:=by
 intro l hl
 unfold sbB at h
 rw[List.all_eq_true]at h
 exact aAS _ _ (h l hl)
def aKt:LV→Option (List Nat)
 |.pt l _=>some [l]
 |.ep _=>some []
 |_=>none
theorem aCG{B L:List Nat}{x:LV}(h:aKt x=some L)(hB:∀ l∈L,l∈B):aGZ B x:=by
 unfold aKt at h
 split at h
 ·simp only[Option.some.injEq]at h;subst h;exact hB _ sS
 ·simp[aGZ]
 ·cases h
def aNs(T:Tab)(call:fQ)(o:Oper)(fr:Frm)(st:St):Option (List (LV×St)):=
 match o.op with
 |.call { callee:=.value x,args:=args,argTypes:=_ }=>aMI call x args fr st
 |_=>aGI (aFk T o fr st)
abbrev XD:=Frm×St×List Nat×List St
def aEc(L:List Nat)(S:List St):Option (List XD)→Option (List XD)
 |some (q::l)=>some ((q::l).map fun p=>(p.1,p.2.1,L++p.2.2.1,S++p.2.2.2))
 |_=>none
theorem aHK{L:List Nat}{S:List St}{x:Option (List XD)}{r:List XD}(h:aEc L S x=some r):∃ l,x=some l∧l≠[]∧∀ p∈l,(p.1,p.2.1,L++p.2.2.1,S++p.2.2.2)∈r:=by
 unfold aEc at h
 split at h
 ·rename_i q l
  injection h with h
  subst h
  exact⟨q::l,rfl,sS,fun p hp=>List.mem_map.2 ⟨p,hp,rfl⟩⟩
 ·cases h
def aFU(ops:Array Oper)(i:Nat):Bool:=match ops[i]? with
 |some o=>aS o.op
 |none=>false
def aDO(T:Tab)(call:fQ)(ops:Array Oper):Nat→Array Bool→Frm→St→Option (List XD)
 |0,listed,fr,st=>match Region.ready .any ops listed with
  |[]=>some [(fr,st,[],[])]
  |_=>none
 |n+1,listed,fr,st=>match(Region.ready .any ops listed).find? (fun i=>aFU ops i&&Region.free .any ops listed i) with
  |some i=>match ops[i]? with
   |some o=>match bB ops fr o.guard with
    |some true=>match aKt (jQ fr o.op),aFk T o fr st with
     |some L,some (v,_)=>aEc L (if dQ o.op then [st]else []) (aDO T call ops n (listed.setIfInBounds i true) (bK fr o.dst v) st)
     |_,_=>none
    |some false=>aEc [] (if dQ o.op then [st]else []) (aDO T call ops n (listed.setIfInBounds i true) (bK fr o.dst (.tu [])) st)
    |none=>none
   |none=>none
  |none=>match Region.ready .any ops listed with
   |[]=>some [(fr,st,[],[])]
   |rd=>aCf (fun i=>match ops[i]? with
    |some o=>if aS o.op then none else match bB ops fr o.guard with
     |some true=>match aNs T call o fr st with
      |some rs=>aCf (fun p=>aEc [] (if iU ops i then [p.2]else []) (aDO T call ops n (listed.setIfInBounds i true) (bK fr o.dst p.1) p.2)) rs
      |none=>none
     |some false=>aEc [] (if iU ops i then [st]else []) (aDO T call ops n (listed.setIfInBounds i true) (bK fr o.dst (.tu [])) st)
     |none=>none
    |none=>none) rd
theorem wR{P:Program}{T:Tab}{call:fQ}{ops:Array Oper}{N:Nat}(hc:jK P call)(hk:cE N ops ops.toList=true){B:List Nat}{st0:St}{R:List (Frm×St)}:∀(n:Nat) (listed:Array Bool) (fr:Frm) (st:St) (L:List XD),
 aDO T call ops n listed fr st=some L→(∀ p∈L,(p.1,p.2.1)∈R∧(∀ l∈p.2.2.1,l∈B)∧∀ s∈p.2.2.2,SB B st0 s)→gP P T ops (List.range N) (SB B st0) (fun f s=>(f,s)∈R) n listed fr st
 |0,listed,fr,st,L,h,hR=>by
  simp only[aDO]at h
  split at h
  ·rename_i hr
   injection h with h
   subst h
   exact⟨hr,(hR (fr,st,[],[]) sS).1⟩
  ·cases h
 |n+1,listed,fr,st,L,h,hR=>by
  have ih:=wR (T:=T) (N:=N) hc hk (B:=B) (st0:=st0) (R:=R) n
  have hdst:∀(i:Nat) (o:Oper),ops[i]?=some o→jX N o.dst=true:=by
   intro i o ho
   unfold cE at hk
   rw[List.all_eq_true]at hk
   have:=hk o (Array.mem_toList_iff.2 (Array.mem_of_getElem? ho))
   simp only[Bool.and_eq_true]at this
   exact this.1
  have wit:∀(x:Option (List XD)) (L':List Nat) (S:List St) (r:List XD),aEc L' S x=some r→(∀ p∈r,(p.1,p.2.1)∈R∧(∀ l∈p.2.2.1,l∈B)∧∀ s∈p.2.2.2,SB B st0 s)→
   ∃ l,x=some l∧(∀ p∈l,(p.1,p.2.1)∈R∧(∀ l∈p.2.2.1,l∈B)∧∀ s∈p.2.2.2,SB B st0 s)∧(∀ q∈L',q∈B)∧∀ s∈S,SB B st0 s:=by
   intro x L' S r hx hr
   obtain⟨l,h1,hne,h2⟩:=aHK hx
   refine⟨l,h1,fun p hp=>?_,?_⟩
   ·obtain⟨a1,a2,a3⟩:=hr _ (h2 p hp)
    exact⟨a1,fun q hq=>a2 q (List.mem_append_right _ hq),fun s hs=>a3 s (List.mem_append_right _ hs)⟩
   ·obtain⟨p,hp⟩:=List.exists_mem_of_ne_nil l hne
    obtain⟨_,a2,a3⟩:=hr _ (h2 p hp)
    exact⟨fun q hq=>a2 q (List.mem_append_left _ hq),fun s hs=>a3 s (List.mem_append_left _ hs)⟩
  simp only[aDO]at h
  split at h
  ·rename_i i hf
   have hfi:=List.find?_some hf
   have hmem:=List.mem_of_find?_eq_some hf
   simp only[Bool.and_eq_true]at hfi
   split at h
   ·rename_i o ho
    have hq:aS o.op=true:=by have:=hfi.1;unfold aFU at this;rw[ho]at this;exact this
    have hm:=rF (hdst i o ho)
    split at h
    ·rename_i hw
     split at h
     ·rename_i L' v st1 hL hx
      obtain⟨l,h1,h2,b1,b2⟩:=wit _ _ _ _ h hR
      obtain⟨r,k1,k2,rfl,rfl⟩:=oS hx
      have hS:dQ o.op=true→SB B st0 st:=fun hh=>b2 st (by simp[hh])
      refine fZ ho n listed fr st (Region.free_spec ho hfi.2) hmem (.inl ⟨hw,hq,fun st' hS'=>?_⟩) hS hq (ih _ _ _ l h1 h2)
      have hpt:=aCG hL b1
      refine⟨@bL.mk r.c r.v st' r.d,?_,k2,rfl,rfl⟩
      rw[hm]
      refine lC hq (fun l' k hl'=>?_) k1
      rw[hl']at hpt
      have hh:dQ o.op=true:=aAO hl'
      rw[hS' hh l' hpt,hS hh l' hpt]
     ·cases h
    ·rename_i hw
     obtain⟨l,h1,h2,b1,b2⟩:=wit _ _ _ _ h hR
     exact fZ ho n listed fr st (Region.free_spec ho hfi.2) hmem (.inr ⟨hw,rfl⟩) (fun hh=>b2 st (by simp[hh])) hq (ih _ _ _ l h1 h2)
    ·cases h
   ·cases h
  ·split at h
   ·rename_i hr
    injection h with h
    subst h
    refine⟨fun _=>(hR (fr,st,[],[]) sS).1,fun i hi=>by rw[hr]at hi;simp at hi⟩
   ·rename_i hr
    refine⟨fun h0=>absurd h0 hr,fun i hi=>?_⟩
    obtain⟨x,h1,h2⟩:=gY h i hi
    split at h1
    ·rename_i o ho
     refine⟨o,ho,?_⟩
     have hm:=rF (hdst i o ho)
     split at h1
     ·cases h1
     ·rename_i hq
      have hq:aS o.op=false:=by simpa using hq
      have hKx:∀ st',(iU ops i=true→SB B st0 st')→Kx ops (SB B st0) i o st st':=by
       intro st' hh
       unfold Kx
       simp only[hq,Bool.false_eq_true,if_false]
       exact hh
      unfold gS
      split at h1
      ·rename_i hw
       rw[hw]
       refine⟨fun _=>?_,(fun hb=>by cases hb)⟩
       split at h1
       ·rename_i rs hx
        have all:=gY h1
        have go:∀ v st1,(v,st1)∈rs→Kx ops (SB B st0) i o st st1∧gP P T ops (List.range N) (SB B st0) (fun f s=>(f,s)∈R) n (listed.setIfInBounds i true) (bK fr o.dst v) st1:=by
         intro v st1 hmm
         obtain⟨y,g1,g2⟩:=all (v,st1) hmm
         obtain⟨l,q1,q2,_,q4⟩:=wit _ _ _ _ g1 (fun p hp=>hR p (h2 p (g2 p hp)))
         exact⟨hKx _ (fun hh=>q4 st1 (by simp[hh])),ih _ _ _ l q1 q2⟩
        unfold aNs at hx
        split at hx
        ·rename_i x' args tys hop
         unfold aMI at hx
         split at hx
         ·rename_i f caps hf'
          rw[hop]
          simp only[hf']
          exact⟨_,hc _ _ _ _ hx,fun r st2 hr'=>go r st2 hr'⟩
         ·cases hx
        ·rename_i hne
         cases hxa:aFk T o fr st with
         |none=>rw[hxa]at hx;simp[aGI]at hx
         |some p=>
          obtain⟨v,st1⟩:=p
          rw[hxa]at hx
          simp only[aGI,Option.some.injEq]at hx
          subst hx
          obtain⟨r,k1,k2,rfl,rfl⟩:=oS hxa
          split
          ·rename_i hop;exact(hne _ _ _ hop).elim
          ·rw[hm,k1]
           exact⟨k2,go _ _ sS⟩
       ·cases h1
      ·rename_i hw
       rw[hw]
       refine⟨(fun hb=>by cases hb),fun _=>?_⟩
       obtain⟨l,q1,q2,_,q4⟩:=wit _ _ _ _ h1 (fun p hp=>hR p (h2 p hp))
       exact⟨hKx _ (fun hh=>q4 st (by simp[hh])),ih _ _ _ l q1 q2⟩
      ·cases h1
    ·cases h1
def aCj(T:Tab)(fr:Frm)(st:St):List ResultVar→Option (List LV)
 |[]=>some []
 |r::rs=>match yQ T fr st r,aCj T fr st rs with
  |some x,some l=>if @decide x.c x.d then some (x.v::l)else none
  |_,_=>none
theorem yJ{T:Tab}{fr:Frm}{st:St}:∀(rs:List ResultVar) (l:List LV),aCj T fr st rs=some l→∃ c,qY T fr st rs=some (c,l)∧c
 |[],l,h=>by simp only[aCj,Option.some.injEq]at h;subst h;exact⟨True,rfl,trivial⟩
 |r::rs,l,h=>by
  simp only[aCj]at h
  split at h
  ·rename_i x l' hx hl
   split at h
   ·rename_i hc
    simp only[Option.some.injEq]at h
    subst h
    obtain⟨c,h1,h2⟩:=yJ rs l' hl
    exact⟨x.c∧c,by simp only[qY,hx,h1],@of_decide_eq_true _ x.d hc,h2⟩
   ·cases h
  ·cases h
abbrev XR:=Exit×Frm×St
def aQA(T:Tab)(rs:List ResultVar)(p:XR):Option (List (LV×St)):=match p.1 with
 |.ret=>match aCj T p.2.1 p.2.2 rs with
  |some l=>some [(one l,p.2.2)]
  |none=>none
 |.normal=>match aCj T p.2.1 p.2.2 rs with
  |some l=>some [(one l,p.2.2)]
  |none=>none
 |_=>none
def aFB(T:Tab)(rs:List ResultVar):Option (List XR)→Option (List (LV×St))
 |some l=>aCf (aQA T rs) l
 |none=>none
def aQk(st0:St):Option (List XD)→Option (List (Frm×St))
 |some l=>if l.all (fun p=>p.2.2.2.all (sbB (l.flatMap fun q=>q.2.2.1) st0))then some (l.map fun p=>(p.1,p.2.1))else none
 |none=>none
def aOP(T:Tab)(call:fQ)(N:Nat)(ops:Array Oper)(dr:Bool)(fr:Frm)(st:St):Option (List (Frm×St)):=
 if cE N ops ops.toList then
  match dr with
  |false=>aHf T call ops ops.toList fr st
  |true=>aQk st (aDO T call ops ops.size (Array.replicate ops.size false) fr st)
 else none
def aNy(g:Frm→St→Option (List XR))(p:XR):Option (List XR):=match p.1 with
 |.normal=>g p.2.1 p.2.2
 |_=>some [p]
def aFL(g:Frm→St→Option (List XR)):Option (List XR)→Option (List XR)
 |some l=>aCf (aNy g) l
 |none=>none
def aLr(id:Nat)(p:XR):XR:=match p.1 with
 |.exit i=>if i=id then(.normal,p.2)else p
 |_=>p
def noGoto(p:XR):Bool:=match p.1 with
 |.goto _=>false
 |_=>true
def aAr(P:Program)(fns:FuncId→Option Func):Prop:=∀ f fn,fns f=some fn→P.funcs[f]?=some fn∧(fn.name=="runtime.NumGoroutine")=false
section
variable {P:Program} {T:Tab} {fns:FuncId→Option Func} {pr:fQ}
def gT(L:List XR):AQ:=fun e f s=>(e,f,s)∈L
theorem yA{g:Frm→St→Option (List XR)}{x:Option (List XR)}{L:List XR}(h:aFL g x=some L):∃ l,x=some l∧∀ p∈l,(∃ y,aNy g p=some y∧∀ q∈y,q∈L):=by
 unfold aFL at h
 split at h
 ·rename_i l
  exact⟨l,rfl,fun p hp=>gY h p hp⟩
 ·cases h
theorem aFp{N:Nat}{ops:Array Oper}{M:List Nat}{J J':Frm→St→Prop}(hJ:∀ f s,J f s→J' f s):∀(rest:List Oper) (fr:Frm) (st:St),cF P T N ops M J rest fr st→cF P T N ops M J' rest fr st:=by
 intro rest
 induction rest with
 |nil=>intro fr st h;exact hJ _ _ h
 |cons o rest ihr=>
  intro fr st hh
  rw[aEf]at hh ⊢
  unfold wM at hh ⊢
  split at hh
  ·refine⟨fun hb=>?_,fun hb=>ihr _ _ (hh.2 hb)⟩
   have h1:=hh.1 hb
   unfold rB at h1 ⊢
   split at h1
   ·unfold aFE at h1 ⊢
    split at h1
    ·obtain⟨R,k1,k2⟩:=h1
     exact⟨R,k1,fun r st' hr=>ihr _ _ (k2 r st' hr)⟩
    ·exact h1
   ·unfold aAj at h1 ⊢
    split at h1
    ·exact fun b hb=>ihr _ _ (h1 b hb)
    ·unfold aGq at h1 ⊢
     split at h1
     ·exact⟨h1.1,ihr _ _ h1.2⟩
     ·exact h1
  ·exact hh
end
def aCT:List (Nat×Func)→FuncId→Option Func
 |[],_=>none
 |p::l,f=>if f=p.1 then some p.2 else aCT l f
def aPS(P:Program):List (Nat×Func)→Prop
 |[]=>True
 |p::l=>(P.funcs[p.1]?=some p.2∧(p.2.name=="runtime.NumGoroutine")=false)∧aPS P l
theorem aCq{P:Program}:∀(l:List (Nat×Func)),aPS P l→aAr P (aCT l)
 |[],_,f,fn,h=>by simp[aCT]at h
 |p::l,ha,f,fn,h=>by
  simp only[aCT]at h
  split at h
  ·rename_i hf
   injection h with h
   subst hf h
   exact ha.1
  ·exact aCq l ha.2 f fn h
theorem aAT{P:Program}{f:FuncId}{st:St}{R:Value→Prop}(h:aB P f [] ⟨1,fun _=>.dead⟩ fun r _=>∃ v,r=.atom v∧R v):aB P f [] st fun r st'=>(∃ v,r=.atom v∧R v)∧st'=st:=by
 refine⟨h.1,fun w g vs hi hr=>?_⟩
 have hi0:Inv w ⟨1,fun _=>none,fun _=>0,fun _=>0,fun _=>false⟩ ⟨1,fun _=>.dead⟩:=by
  refine⟨rfl,by decide,fun _ _=>rfl,fun l hl=>hl.elim,fun l l' hl=>hl.elim,fun l e s n hl=>(by cases hl),fun l e s cs hl=>(by cases hl),fun l ag ks es hl=>(by cases hl),fun l e n hl=>(by cases hl),oM (hi.aside.glob.phi fun _ _ _ _ _=>rfl) fun _=>rfl⟩
 refine(h.2 w _ vs hi0 (by simp only[aG]at hr ⊢;exact hr)).mono ?_
 rintro e w' ⟨v,r,st',g',rfl,⟨v',rfl,hv'⟩,hrep,_,he⟩
 have hold:∀ b,b<w.heap.size→w'.heap[b]?=w.heap[b]?:=fun b hb=>(he.still b hb rfl).2
 have he':Ext w g w' g:=by
  refine⟨he.os,he.tape,he.output,he.size,Nat.le_refl _,fun _ _=>rfl,fun _ _=>rfl,fun _ _=>rfl,fun b hb hn=>⟨hn,hold b hb⟩,fun b k hb hk=>⟨k,hk,Nat.le_refl _,fun o _=>World.cell?_of_block (w:=w) (hold b hb)⟩⟩
 refine⟨v,_,st,g,rfl,⟨⟨v',rfl,hv'⟩,rfl⟩,hrep,?_,he'⟩
 refine⟨hi.next,hi.pos,hi.fresh,fun l hl=>Nat.lt_of_lt_of_le (hi.lt l hl) he.size,hi.inj,?_,?_,?_,?_,hi.aside.keep he' fun _ _=>rfl⟩
 ·intro l e s n hl
  obtain⟨h1,h2,h3,h4⟩:=hi.own l e s n hl
  refine⟨h1,h2,h3,fun hnl=>?_⟩
  obtain⟨cur,k1,k2,k3⟩:=h4 hnl
  exact⟨cur,by rw[hold _ (Array.getElem?_eq_some_iff.1 k1).1];exact k1,k2,k3⟩
 ·intro l e s cs hl
  obtain⟨h1,h2,h3⟩:=hi.box l e s cs hl
  refine⟨h1,h2,fun hnl=>?_⟩
  obtain⟨cur,k1,k2,k3,k4,k5⟩:=h3 hnl
  exact⟨cur,by rw[hold _ (Array.getElem?_eq_some_iff.1 k1).1];exact k1,k2,k3,aG.mono he' _ _ k4,k5⟩
 ·intro l ag ks es hl
  have hm:=hi.mp l ag ks es hl
  exact hm.keep he' (hi.map_lt hl) (hold _ hm.blk_lt) rfl
 ·intro l e n hl
  have hm:=hi.qu l e n hl
  exact hm.keep he' (hi.que_lt hl) (hold _ hm.blk_lt) rfl
def isB(b:Bool)(p:LV×St):Bool:=match p.1 with
 |.atom (.bool c)=>c==b
 |_=>false
def aJK(r:Option (List (LV×St)))(b:Bool):Bool:=match r with
 |some l=>l.all (isB b)
 |none=>false
end Go.Proofs.YtempldclppogmaaGreatDoor.Aw
