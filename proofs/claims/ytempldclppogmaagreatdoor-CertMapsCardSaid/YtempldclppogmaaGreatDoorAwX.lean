/- An evaluator of calls whose arguments are written out; what it finds is so. No program is named here. -/
import Derived.Test.YtempldclppogmaaGreatDoorAwDraw
import Derived.Tactics
set_option linter.unusedVariables false
set_option linter.unusedSimpArgs false
namespace Go.Proofs.YtempldclppogmaaGreatDoor.Aw
open Go Go.RowKit
mutual
def aLp:LV→LV→Bool
 |.dead,.dead=>true
 |.nil,.nil=>true
 |.emp,.emp=>true
 |.atom (.int k a),.atom (.int k' b)=>k==k'&&a==b
 |.atom (.bool a),.atom (.bool b)=>a==b
 |.sl t n cs,.sl t' n' cs'=>t==t'&&n==n'&&pB cs cs'
 |.ms l o n,.ms l' o' n'=>l==l'&&o==o'&&n==n'
 |.ag cs,.ag cs'=>pB cs cs'
 |.pt l o,.pt l' o'=>l==l'&&o==o'
 |.ep cs,.ep cs'=>pB cs cs'
 |.mp l,.mp l'=>l==l'
 |.fn (.func f) cs,.fn (.func f') cs'=>f==f'&&pB cs cs'
 |.tu cs,.tu cs'=>pB cs cs'
 |_,_=>false
def pB:List LV→List LV→Bool
 |[],[]=>true
 |a::as1,b::bs=>aLp a b&&pB as1 bs
 |_,_=>false
end
mutual
theorem wD:∀(a b:LV),aLp a b=true→a=b
 |a,b,h=>by
  unfold aLp at h
  split at h
  ·rfl
  ·rfl
  ·rfl
  ·simp at h;obtain⟨rfl,rfl⟩:=h;rfl
  ·simp at h;subst h;rfl
  ·simp at h;obtain⟨⟨rfl,rfl⟩,h⟩:=h;rw[dV _ _ h]
  ·simp at h;obtain⟨⟨rfl,rfl⟩,rfl⟩:=h;rfl
  ·rw[dV _ _ h]
  ·simp at h;obtain⟨rfl,rfl⟩:=h;rfl
  ·rw[dV _ _ h]
  ·simp at h;subst h;rfl
  ·simp at h;obtain⟨rfl,h⟩:=h;rw[dV _ _ h]
  ·rw[dV _ _ h]
  ·cases h
theorem dV:∀(a b:List LV),pB a b=true→a=b
 |a,b,h=>by
  unfold pB at h
  split at h
  ·rfl
  ·simp at h;rw[wD _ _ h.1,dV _ _ h.2]
  ·cases h
end
def aAr:List (List Int×LV)→List (List Int×LV)→Bool
 |[],[]=>true
 |p::a,q::b=>p.1==q.1&&aLp p.2 q.2&&aAr a b
 |_,_=>false
theorem sZ:∀ a b,aAr a b=true→a=b
 |[],[],_=>rfl
 |p::a,q::b,h=>by
  simp only[aAr,Bool.and_eq_true,beq_iff_eq]at h
  rw[sZ a b h.2]
  congr 1
  exact Prod.ext h.1.1 (wD _ _ h.1.2)
 |[],_::_,h=>by simp[aAr]at h
 |_::_,[],h=>by simp[aAr]at h
def aEI:cA→cA→Bool
 |.dead,.dead=>true
 |.own e s n,.own e' s' n'=>e==e'&&s==s'&&n==n'
 |.box e s cs,.box e' s' cs'=>e==e'&&s==s'&&pB cs cs'
 |.map ag ks es,.map ag' ks' es'=>ag==ag'&&decide (ks=ks')&&aAr es es'
 |_,_=>false
theorem aBe(a b:cA)(h:aEI a b=true):a=b:=by
 unfold aEI at h
 split at h
 ·rfl
 ·simp at h;obtain⟨⟨rfl,rfl⟩,rfl⟩:=h;rfl
 ·simp at h;obtain⟨⟨rfl,rfl⟩,h⟩:=h;rw[dV _ _ h]
 ·simp at h;obtain⟨⟨rfl,rfl⟩,h⟩:=h;rw[sZ _ _ h]
 ·cases h
abbrev fO:=FuncId→List LV→St→Option (List (LV×St))
def aCI{α β:Type}(f:α→Option (List β)):List α→Option (List β)
 |[]=>some []
 |a::l=>match f a with
  |some x=>match aCI f l with
   |some y=>some (x++y)
   |none=>none
  |none=>none
theorem gW{α β:Type}{f:α→Option (List β)}:∀ {l:List α} {r:List β},aCI f l=some r→∀ a∈l,∃ x,f a=some x∧∀ b∈x,b∈r
 |[],r,_,a,ha=>by simp at ha
 |c::l,r,h,a,ha=>by
  simp only[aCI]at h
  split at h
  ·rename_i x hx
   split at h
   ·rename_i y hy
    injection h with h
    subst h
    rcases List.mem_cons.1 ha with rfl|ha
    ·exact⟨x,hx,fun b hb=>List.mem_append_left _ hb⟩
    ·obtain⟨z,h1,h2⟩:=gW hy a ha
     exact⟨z,h1,fun b hb=>List.mem_append_right _ (h2 b hb)⟩
   ·cases h
  ·cases h
def aFe(T:Tab)(o:Oper)(fr:Frm)(st:St):Option (LV×St):=
 match aop T o.dst.isSome o fr st with
 |some r=>if @decide r.c r.d then some (r.v,r.s)else none
 |none=>none
theorem oB{T:Tab}{o:Oper}{fr:Frm}{st st':St}{v:LV}(h:aFe T o fr st=some (v,st')):∃ r,aop T o.dst.isSome o fr st=some r∧r.c∧r.v=v∧r.s=st':=by
 unfold aFe at h
 split at h
 ·rename_i r hr
  split at h
  ·rename_i hc
   simp only[Option.some.injEq,Prod.mk.injEq]at h
   exact⟨r,hr,@of_decide_eq_true _ r.d hc,h.1,h.2⟩
  ·cases h
 ·cases h
def aGV:Option (LV×St)→Option (List (LV×St))
 |some p=>some [p]
 |none=>none
def aLK(call:fO)(x:Operand)(args:Array Operand)(fr:Frm)(st:St):Option (List (LV×St)):=
 match dR (aH fr x) with
 |some (f,caps)=>call f ((args.toList.map (aH fr))++caps) st
 |none=>none
def aNs(T:Tab)(call:fO)(o:Oper)(fr:Frm)(st:St):Option (List (LV×St)):=
 match o.op with
 |.call { callee:=.value x,args:=args,argTypes:=_ }=>aLK call x args fr st
 |_=>match oK T o fr with
  |some (ng,n)=>if n=0 then some [(.atom (.bool (false != ng)),st),(.atom (.bool (true != ng)),st)]else some [(.atom (.bool (false != ng)),st)]
  |none=>aGV (aFe T o fr st)
def aGJ(T:Tab)(call:fO)(ops:Array Oper):List Oper→Frm→St→Option (List (Frm×St))
 |[],fr,st=>some [(fr,st)]
 |o::rest,fr,st=>match bB ops fr o.guard with
  |some true=>match aNs T call o fr st with
   |some rs=>aCI (fun p=>aGJ T call ops rest (bK fr o.dst p.1) p.2) rs
   |none=>none
  |some false=>aGJ T call ops rest (bK fr o.dst (.tu [])) st
  |none=>none
def jM(P:Program)(call:fO):Prop:=∀ f args st rs,call f args st=some rs→aB P f args st fun r1 st1=>(r1,st1)∈rs
theorem rO{N:Nat}{d:Option Nat}(h:jR N d=true):inM (List.range N) d=d.isSome:=by
 cases d with
 |none=>rfl
 |some d=>simp[jR]at h;simp[inM,h]
theorem aEa{P:Program}{T:Tab}{N:Nat}{ops:Array Oper}{M:List Nat}{J:Frm→St→Prop}{rest:List Oper}{o:Oper}{fr:Frm}{st:St}{x:Operand}{args:Array Operand}{tys:Array TypeId}(hop:o.op=.call { callee:=.value x,args:=args,argTypes:=tys }):
 qU P T N ops M J rest o fr st=aGk P T N ops M J rest o.dst fr st (args.toList.map (aH fr)) (dR (aH fr x)):=by
 unfold qU;rw[hop]
theorem aEX{P:Program}{T:Tab}{N:Nat}{ops:Array Oper}{M:List Nat}{J:Frm→St→Prop}{rest:List Oper}{o:Oper}{fr:Frm}{st:St}(hne:∀(x:Operand) (args:Array Operand) (tys:Array TypeId),o.op=.call { callee:=.value x,args:=args,argTypes:=tys }→False):
 qU P T N ops M J rest o fr st=aAu P T N ops M J rest o fr st (oK T o fr):=by
 unfold qU
 split
 ·rename_i hop;exact(hne _ _ _ hop).elim
 ·rfl
theorem wQ{P:Program}{T:Tab}{call:fO}{ops:Array Oper}{N:Nat}(hc:jM P call){R:List (Frm×St)}:∀(rest:List Oper) (fr:Frm) (st:St) (L:List (Frm×St)),cE N ops rest=true→aGJ T call ops rest fr st=some L→(∀ p∈L,p∈R)→
 cD P T N ops (List.range N) (fun f s=>(f,s)∈R) rest fr st
 |[],fr,st,L,_,h,hR=>by
  simp only[aGJ,Option.some.injEq]at h
  subst h
  exact hR _ sS
 |o::rest,fr,st,L,hk,h,hR=>by
  simp only[cE,List.all_cons,Bool.and_eq_true]at hk
  obtain⟨⟨hd,_⟩,hk⟩:=hk
  have ih:=wQ (T:=T) (ops:=ops) (N:=N) hc (R:=R) rest
  have hk':cE N ops rest=true:=hk
  rw[aED]
  simp only[aGJ]at h
  split at h
  ·rename_i hw
   rw[hw,aIR]
   split at h
   ·rename_i rs hx
    have all:=gW h
    have go:∀ v st1,(v,st1)∈rs→cD P T N ops (List.range N) (fun f s=>(f,s)∈R) rest (bK fr o.dst v) st1:=by
     intro v st1 hm
     obtain⟨x,h1,h2⟩:=all (v,st1) hm
     exact ih _ _ x hk' h1 (fun p hp=>hR p (h2 p hp))
    unfold aNs at hx
    split at hx
    ·rename_i x args tys hop
     rw[aEa hop]
     unfold aLK at hx
     split at hx
     ·rename_i f caps hf
      rw[hf]
      exact⟨_,hc _ _ _ _ hx,fun r st2 hr=>go r st2 hr⟩
     ·cases hx
    ·rename_i hne
     rw[aEX hne]
     split at hx
     ·rename_i ng n hn
      rw[hn]
      split at hx
      ·rename_i hn0
       injection hx with hx
       subst hx
       intro b hb
       cases b with
       |true=>exact go _ _ sS
       |false=>exact go _ _ sS
      ·rename_i hn0
       injection hx with hx
       subst hx
       intro b hb
       cases b with
       |true=>exact absurd (hb rfl) hn0
       |false=>exact go _ _ sS
     ·rename_i hn
      rw[hn]
      cases hxa:aFe T o fr st with
      |none=>rw[hxa]at hx;simp[aGV]at hx
      |some p=>
       obtain⟨v,st1⟩:=p
       rw[hxa]at hx
       simp only[aGV,Option.some.injEq]at hx
       subst hx
       obtain⟨r,h1,h2,rfl,rfl⟩:=oB hxa
       simp only[aAu,rO hd,h1]
       exact⟨h2,go _ _ sS⟩
   ·cases h
  ·rename_i hw
   rw[hw,aFE]
   exact ih _ _ L hk' h hR
  ·cases h
def sbB(B:List Nat)(st0 st:St):Bool:=B.all fun l=>aEI (st.H l) (st0.H l)
theorem aHh{B:List Nat}{st0 st:St}(h:sbB B st0 st=true):SB B st0 st:=by
 intro l hl
 unfold sbB at h
 rw[List.all_eq_true]at h
 exact aBe _ _ (h l hl)
def aJK:LV→Option (List Nat)
 |.pt l _=>some [l]
 |.ep _=>some []
 |_=>none
theorem aDG{B L:List Nat}{x:LV}(h:aJK x=some L)(hB:∀ l∈L,l∈B):aHT B x:=by
 unfold aJK at h
 split at h
 ·simp only[Option.some.injEq]at h;subst h;exact hB _ sS
 ·simp[aHT]
 ·cases h
def aNt(T:Tab)(call:fO)(o:Oper)(fr:Frm)(st:St):Option (List (LV×St)):=
 match o.op with
 |.call { callee:=.value x,args:=args,argTypes:=_ }=>aLK call x args fr st
 |_=>aGV (aFe T o fr st)
abbrev XD:=Frm×St×List Nat×List St
def aEJ(L:List Nat)(S:List St):Option (List XD)→Option (List XD)
 |some (q::l)=>some ((q::l).map fun p=>(p.1,p.2.1,L++p.2.2.1,S++p.2.2.2))
 |_=>none
theorem aHD{L:List Nat}{S:List St}{x:Option (List XD)}{r:List XD}(h:aEJ L S x=some r):∃ l,x=some l∧l≠[]∧∀ p∈l,(p.1,p.2.1,L++p.2.2.1,S++p.2.2.2)∈r:=by
 unfold aEJ at h
 split at h
 ·rename_i q l
  injection h with h
  subst h
  exact⟨q::l,rfl,sS,fun p hp=>List.mem_map.2 ⟨p,hp,rfl⟩⟩
 ·cases h
def aGa(ops:Array Oper)(i:Nat):Bool:=match ops[i]? with
 |some o=>aS o.op
 |none=>false
def aDg(T:Tab)(call:fO)(ops:Array Oper):Nat→Array Bool→Frm→St→Option (List XD)
 |0,listed,fr,st=>match Region.ready .any ops listed with
  |[]=>some [(fr,st,[],[])]
  |_=>none
 |n+1,listed,fr,st=>match(Region.ready .any ops listed).find? (fun i=>aGa ops i&&Region.free .any ops listed i) with
  |some i=>match ops[i]? with
   |some o=>match bB ops fr o.guard with
    |some true=>match aJK (jP fr o.op),aFe T o fr st with
     |some L,some (v,_)=>aEJ L (if dQ o.op then [st]else []) (aDg T call ops n (listed.setIfInBounds i true) (bK fr o.dst v) st)
     |_,_=>none
    |some false=>aEJ [] (if dQ o.op then [st]else []) (aDg T call ops n (listed.setIfInBounds i true) (bK fr o.dst (.tu [])) st)
    |none=>none
   |none=>none
  |none=>match Region.ready .any ops listed with
   |[]=>some [(fr,st,[],[])]
   |rd=>aCI (fun i=>match ops[i]? with
    |some o=>if aS o.op then none else match bB ops fr o.guard with
     |some true=>match aNt T call o fr st with
      |some rs=>aCI (fun p=>aEJ [] (if iB ops i then [p.2]else []) (aDg T call ops n (listed.setIfInBounds i true) (bK fr o.dst p.1) p.2)) rs
      |none=>none
     |some false=>aEJ [] (if iB ops i then [st]else []) (aDg T call ops n (listed.setIfInBounds i true) (bK fr o.dst (.tu [])) st)
     |none=>none
    |none=>none) rd
theorem wT{P:Program}{T:Tab}{call:fO}{ops:Array Oper}{N:Nat}(hc:jM P call)(hk:cE N ops ops.toList=true){B:List Nat}{st0:St}{R:List (Frm×St)}:∀(n:Nat) (listed:Array Bool) (fr:Frm) (st:St) (L:List XD),
 aDg T call ops n listed fr st=some L→(∀ p∈L,(p.1,p.2.1)∈R∧(∀ l∈p.2.2.1,l∈B)∧∀ s∈p.2.2.2,SB B st0 s)→gN P T ops (List.range N) (SB B st0) (fun f s=>(f,s)∈R) n listed fr st
 |0,listed,fr,st,L,h,hR=>by
  simp only[aDg]at h
  split at h
  ·rename_i hr
   injection h with h
   subst h
   exact⟨hr,(hR (fr,st,[],[]) sS).1⟩
  ·cases h
 |n+1,listed,fr,st,L,h,hR=>by
  have ih:=wT (T:=T) (N:=N) hc hk (B:=B) (st0:=st0) (R:=R) n
  have hdst:∀(i:Nat) (o:Oper),ops[i]?=some o→jR N o.dst=true:=by
   intro i o ho
   unfold cE at hk
   rw[List.all_eq_true]at hk
   have:=hk o (Array.mem_toList_iff.2 (Array.mem_of_getElem? ho))
   simp only[Bool.and_eq_true]at this
   exact this.1
  have wit:∀(x:Option (List XD)) (L':List Nat) (S:List St) (r:List XD),aEJ L' S x=some r→(∀ p∈r,(p.1,p.2.1)∈R∧(∀ l∈p.2.2.1,l∈B)∧∀ s∈p.2.2.2,SB B st0 s)→
   ∃ l,x=some l∧(∀ p∈l,(p.1,p.2.1)∈R∧(∀ l∈p.2.2.1,l∈B)∧∀ s∈p.2.2.2,SB B st0 s)∧(∀ q∈L',q∈B)∧∀ s∈S,SB B st0 s:=by
   intro x L' S r hx hr
   obtain⟨l,h1,hne,h2⟩:=aHD hx
   refine⟨l,h1,fun p hp=>?_,?_⟩
   ·obtain⟨a1,a2,a3⟩:=hr _ (h2 p hp)
    exact⟨a1,fun q hq=>a2 q (List.mem_append_right _ hq),fun s hs=>a3 s (List.mem_append_right _ hs)⟩
   ·obtain⟨p,hp⟩:=List.exists_mem_of_ne_nil l hne
    obtain⟨_,a2,a3⟩:=hr _ (h2 p hp)
    exact⟨fun q hq=>a2 q (List.mem_append_left _ hq),fun s hs=>a3 s (List.mem_append_left _ hs)⟩
  simp only[aDg]at h
  split at h
  ·rename_i i hf
   have hfi:=List.find?_some hf
   have hmem:=List.mem_of_find?_eq_some hf
   simp only[Bool.and_eq_true]at hfi
   split at h
   ·rename_i o ho
    have hq:aS o.op=true:=by have:=hfi.1;unfold aGa at this;rw[ho]at this;exact this
    have hm:=rO (hdst i o ho)
    split at h
    ·rename_i hw
     split at h
     ·rename_i L' v st1 hL hx
      obtain⟨l,h1,h2,b1,b2⟩:=wit _ _ _ _ h hR
      obtain⟨r,k1,k2,rfl,rfl⟩:=oB hx
      have hS:dQ o.op=true→SB B st0 st:=fun hh=>b2 st (by simp[hh])
      refine fX ho n listed fr st (Region.free_spec ho hfi.2) hmem (.inl ⟨hw,hq,fun st' hS'=>?_⟩) hS hq (ih _ _ _ l h1 h2)
      have hpt:=aDG hL b1
      refine⟨@bL.mk r.c r.v st' r.d,?_,k2,rfl,rfl⟩
      rw[hm]
      refine lF hq (fun l' k hl'=>?_) k1
      rw[hl']at hpt
      have hh:dQ o.op=true:=aBI hl'
      rw[hS' hh l' hpt,hS hh l' hpt]
     ·cases h
    ·rename_i hw
     obtain⟨l,h1,h2,b1,b2⟩:=wit _ _ _ _ h hR
     exact fX ho n listed fr st (Region.free_spec ho hfi.2) hmem (.inr ⟨hw,rfl⟩) (fun hh=>b2 st (by simp[hh])) hq (ih _ _ _ l h1 h2)
    ·cases h
   ·cases h
  ·split at h
   ·rename_i hr
    injection h with h
    subst h
    refine⟨fun _=>(hR (fr,st,[],[]) sS).1,fun i hi=>by rw[hr]at hi;simp at hi⟩
   ·rename_i hr
    refine⟨fun h0=>absurd h0 hr,fun i hi=>?_⟩
    obtain⟨x,h1,h2⟩:=gW h i hi
    split at h1
    ·rename_i o ho
     refine⟨o,ho,?_⟩
     have hm:=rO (hdst i o ho)
     split at h1
     ·cases h1
     ·rename_i hq
      have hq:aS o.op=false:=by simpa using hq
      have hKx:∀ st',(iB ops i=true→SB B st0 st')→Kx ops (SB B st0) i o st st':=by
       intro st' hh
       unfold Kx
       simp only[hq,Bool.false_eq_true,if_false]
       exact hh
      unfold gR
      split at h1
      ·rename_i hw
       rw[hw]
       refine⟨fun _=>?_,(fun hb=>by cases hb)⟩
       split at h1
       ·rename_i rs hx
        have all:=gW h1
        have go:∀ v st1,(v,st1)∈rs→Kx ops (SB B st0) i o st st1∧gN P T ops (List.range N) (SB B st0) (fun f s=>(f,s)∈R) n (listed.setIfInBounds i true) (bK fr o.dst v) st1:=by
         intro v st1 hmm
         obtain⟨y,g1,g2⟩:=all (v,st1) hmm
         obtain⟨l,q1,q2,_,q4⟩:=wit _ _ _ _ g1 (fun p hp=>hR p (h2 p (g2 p hp)))
         exact⟨hKx _ (fun hh=>q4 st1 (by simp[hh])),ih _ _ _ l q1 q2⟩
        unfold aNt at hx
        split at hx
        ·rename_i x' args tys hop
         unfold aLK at hx
         split at hx
         ·rename_i f caps hf'
          rw[hop]
          simp only[hf']
          exact⟨_,hc _ _ _ _ hx,fun r st2 hr'=>go r st2 hr'⟩
         ·cases hx
        ·rename_i hne
         cases hxa:aFe T o fr st with
         |none=>rw[hxa]at hx;simp[aGV]at hx
         |some p=>
          obtain⟨v,st1⟩:=p
          rw[hxa]at hx
          simp only[aGV,Option.some.injEq]at hx
          subst hx
          obtain⟨r,k1,k2,rfl,rfl⟩:=oB hxa
          split
          ·rename_i hop;exact(hne _ _ _ hop).elim
          ·rw[hm,k1]
           exact⟨k2,go _ _ sS⟩
       ·cases h1
      ·rename_i hw
       rw[hw]
       refine⟨(fun hb=>by cases hb),fun _=>?_⟩
       obtain⟨l,q1,q2,_,q4⟩:=wit _ _ _ _ h1 (fun p hp=>hR p (h2 p hp))
       exact⟨hKx _ (fun hh=>q4 st (by simp[hh])),ih _ _ _ l q1 q2⟩
      ·cases h1
    ·cases h1
def aDq(T:Tab)(fr:Frm)(st:St):List ResultVar→Option (List LV)
 |[]=>some []
 |r::rs=>match yG T fr st r,aDq T fr st rs with
  |some x,some l=>if @decide x.c x.d then some (x.v::l)else none
  |_,_=>none
theorem vL{T:Tab}{fr:Frm}{st:St}:∀(rs:List ResultVar) (l:List LV),aDq T fr st rs=some l→∃ c,pC T fr st rs=some (c,l)∧c
 |[],l,h=>by simp only[aDq,Option.some.injEq]at h;subst h;exact⟨True,rfl,trivial⟩
 |r::rs,l,h=>by
  simp only[aDq]at h
  split at h
  ·rename_i x l' hx hl
   split at h
   ·rename_i hc
    simp only[Option.some.injEq]at h
    subst h
    obtain⟨c,h1,h2⟩:=vL rs l' hl
    exact⟨x.c∧c,by simp only[pC,hx,h1],@of_decide_eq_true _ x.d hc,h2⟩
   ·cases h
  ·cases h
abbrev XR:=Exit×Frm×St
def aPh(T:Tab)(rs:List ResultVar)(p:XR):Option (List (LV×St)):=match p.1 with
 |.ret=>match aDq T p.2.1 p.2.2 rs with
  |some l=>some [(one l,p.2.2)]
  |none=>none
 |.normal=>match aDq T p.2.1 p.2.2 rs with
  |some l=>some [(one l,p.2.2)]
  |none=>none
 |_=>none
def aFR(T:Tab)(rs:List ResultVar):Option (List XR)→Option (List (LV×St))
 |some l=>aCI (aPh T rs) l
 |none=>none
def aQn(st0:St):Option (List XD)→Option (List (Frm×St))
 |some l=>if l.all (fun p=>p.2.2.2.all (sbB (l.flatMap fun q=>q.2.2.1) st0))then some (l.map fun p=>(p.1,p.2.1))else none
 |none=>none
def aNK(T:Tab)(call:fO)(N:Nat)(ops:Array Oper)(dr:Bool)(fr:Frm)(st:St):Option (List (Frm×St)):=
 if cE N ops ops.toList then
  match dr with
  |false=>aGJ T call ops ops.toList fr st
  |true=>aQn st (aDg T call ops ops.size (Array.replicate ops.size false) fr st)
 else none
def aNy(g:Frm→St→Option (List XR))(p:XR):Option (List XR):=match p.1 with
 |.normal=>g p.2.1 p.2.2
 |_=>some [p]
def aFw(g:Frm→St→Option (List XR)):Option (List XR)→Option (List XR)
 |some l=>aCI (aNy g) l
 |none=>none
def aNe(id:Nat)(p:XR):XR:=match p.1 with
 |.exit i=>if i=id then(.normal,p.2)else p
 |_=>p
def noGoto(p:XR):Bool:=match p.1 with
 |.goto _=>false
 |_=>true
def zO(P:Program)(fns:FuncId→Option Func):Prop:=∀ f fn,fns f=some fn→P.funcs[f]?=some fn∧(fn.name== "runtime.NumGoroutine")=false
section
variable {P:Program} {T:Tab} {fns:FuncId→Option Func} {pr:fO}
def gS(L:List XR):AQ:=fun e f s=>(e,f,s)∈L
theorem wG{g:Frm→St→Option (List XR)}{x:Option (List XR)}{L:List XR}(h:aFw g x=some L):∃ l,x=some l∧∀ p∈l,(∃ y,aNy g p=some y∧∀ q∈y,q∈L):=by
 unfold aFw at h
 split at h
 ·rename_i l
  exact⟨l,rfl,fun p hp=>gW h p hp⟩
 ·cases h
theorem aEe{N:Nat}{ops:Array Oper}{M:List Nat}{J J':Frm→St→Prop}(hJ:∀ f s,J f s→J' f s):∀(rest:List Oper) (fr:Frm) (st:St),cD P T N ops M J rest fr st→cD P T N ops M J' rest fr st:=by
 intro rest
 induction rest with
 |nil=>intro fr st h;exact hJ _ _ h
 |cons o rest ihr=>
  intro fr st hh
  rw[aED]at hh ⊢
  unfold xK at hh ⊢
  split at hh
  ·refine⟨fun hb=>?_,fun hb=>ihr _ _ (hh.2 hb)⟩
   have h1:=hh.1 hb
   unfold qU at h1 ⊢
   split at h1
   ·unfold aGk at h1 ⊢
    split at h1
    ·obtain⟨R,k1,k2⟩:=h1
     exact⟨R,k1,fun r st' hr=>ihr _ _ (k2 r st' hr)⟩
    ·exact h1
   ·unfold aAu at h1 ⊢
    split at h1
    ·exact fun b hb=>ihr _ _ (h1 b hb)
    ·unfold aFH at h1 ⊢
     split at h1
     ·exact⟨h1.1,ihr _ _ h1.2⟩
     ·exact h1
  ·exact hh
end
def aCZ:List (Nat×Func)→FuncId→Option Func
 |[],_=>none
 |p::l,f=>if f=p.1 then some p.2 else aCZ l f
def aPZ(P:Program):List (Nat×Func)→Prop
 |[]=>True
 |p::l=>(P.funcs[p.1]?=some p.2∧(p.2.name== "runtime.NumGoroutine")=false)∧aPZ P l
theorem aDh{P:Program}:∀(l:List (Nat×Func)),aPZ P l→zO P (aCZ l)
 |[],_,f,fn,h=>by simp[aCZ]at h
 |p::l,ha,f,fn,h=>by
  simp only[aCZ]at h
  split at h
  ·rename_i hf
   injection h with h
   subst hf h
   exact ha.1
  ·exact aDh l ha.2 f fn h
theorem aBA{P:Program}{f:FuncId}{st:St}{R:Value→Prop}(h:aB P f [] ⟨1,fun _=>.dead⟩ fun r _=>∃ v,r=.atom v∧R v):aB P f [] st fun r st'=>(∃ v,r=.atom v∧R v)∧st'=st:=by
 refine⟨h.1,fun w g vs hi hr=>?_⟩
 have hi0:Inv w ⟨1,fun _=>none,fun _=>0,fun _=>0,fun _=>false⟩ ⟨1,fun _=>.dead⟩:=by
  refine⟨rfl,by decide,fun _ _=>rfl,fun l hl=>hl.elim,fun l l' hl=>hl.elim,fun l e s n hl=>(by cases hl),fun l e s cs hl=>(by cases hl),fun l ag ks es hl=>(by cases hl),fun l e n hl=>(by cases hl),oV (hi.aside.glob.phi fun _ _ _ _ _=>rfl) fun _=>rfl⟩
 refine(h.2 w _ vs hi0 (by simp only[aG]at hr ⊢;exact hr)).mono ?_
 rintro e w' ⟨v,r,st',g',rfl,⟨v',rfl,hv'⟩,hrep,_,he⟩
 have hold:∀ b,b<w.heap.size→w'.heap[b]?=w.heap[b]?:=fun b hb=>(he.still b hb rfl).2
 have he':Ext w g w' g:=by
  refine⟨he.os,he.tape,he.output,he.size,Nat.le_refl _,fun _ _=>rfl,fun _ _=>rfl,fun _ _=>rfl,fun b hb hn=>⟨hn,hold b hb⟩,fun b k hb hk=>⟨k,hk,Nat.le_refl _,fun o _=>World.cell?_of_block (w:=w) (hold b hb)⟩⟩
 refine⟨v,_,st,g,rfl,⟨⟨v',rfl,hv'⟩,rfl⟩,hrep,?_,he'⟩
 refine⟨hi.next,hi.pos,hi.fresh,fun l hl=>Nat.lt_of_lt_of_le (hi.lt l hl) he.size,hi.inj,?_,?_,?_,?_,hi.aside.keep he' fun _ _=>rfl⟩
 ·intro l e s n hl
  obtain⟨h1,h2,h3,h4⟩:=hi.own l e s n hl
  refine⟨h1,h2,h3,fun hnl=>?_⟩
  obtain⟨cur,k1,k2,k3⟩:=h4 hnl
  exact⟨cur,by rw[hold _ (Array.getElem?_eq_some_iff.1 k1).1];exact k1,k2,k3⟩
 ·intro l e s cs hl
  obtain⟨h1,h2,h3⟩:=hi.box l e s cs hl
  refine⟨h1,h2,fun hnl=>?_⟩
  obtain⟨cur,k1,k2,k3,k4,k5⟩:=h3 hnl
  exact⟨cur,by rw[hold _ (Array.getElem?_eq_some_iff.1 k1).1];exact k1,k2,k3,aG.mono he' _ _ k4,k5⟩
 ·intro l ag ks es hl
  have hm:=hi.mp l ag ks es hl
  exact hm.keep he' (hi.map_lt hl) (hold _ hm.blk_lt) rfl
 ·intro l e n hl
  have hm:=hi.qu l e n hl
  exact hm.keep he' (hi.que_lt hl) (hold _ hm.blk_lt) rfl
def isB(b:Bool)(p:LV×St):Bool:=match p.1 with
 |.atom (.bool c)=>c==b
 |_=>false
def aIr(r:Option (List (LV×St)))(b:Bool):Bool:=match r with
 |some l=>l.all (isB b)
 |none=>false
end Go.Proofs.YtempldclppogmaaGreatDoor.Aw
