/- An evaluator of calls whose arguments are written out; what it finds is so. No program is named here. -/
import Derived.Test.YtiiejclelbilkaaGreatDoorAwDraw
import Derived.Tactics
namespace Go.Proofs.YtiiejclelbilkaaGreatDoor.Aw
open Go Go.RowKit
set_option linter.unusedSimpArgs false
set_option linter.unusedVariables false
mutual
def lvEq:LV→LV→Bool
 | .dead,.dead=>true
 | .nil,.nil=>true
 | .emp,.emp=>true
 | .atom (.int k a),.atom (.int k' b)=>k==k'&&a==b
 | .atom (.bool a),.atom (.bool b)=>a==b
 | .sl t n cs,.sl t' n' cs'=>t==t'&&n==n'&&lvsEq cs cs'
 | .ms l o n,.ms l' o' n'=>l==l'&&o==o'&&n==n'
 | .ag cs,.ag cs'=>lvsEq cs cs'
 | .pt l o,.pt l' o'=>l==l'&&o==o'
 | .ep cs,.ep cs'=>lvsEq cs cs'
 | .mp l,.mp l'=>l==l'
 | .fn (.func f) cs,.fn (.func f') cs'=>f==f'&&lvsEq cs cs'
 | .tu cs,.tu cs'=>lvsEq cs cs'
 | _,_=>false
def lvsEq:List LV→List LV→Bool
 | [],[]=>true
 | a::as1,b::bs=>lvEq a b&&lvsEq as1 bs
 | _,_=>false
end
mutual
theorem lvEq_sound:∀ (a b:LV),lvEq a b=true→a=b
 | a,b,h=>by
   unfold lvEq at h
   split at h
   ·rfl
   ·rfl
   ·rfl
   ·simp at h;obtain ⟨rfl,rfl⟩:=h;rfl
   ·simp at h;subst h;rfl
   ·simp at h;obtain ⟨⟨rfl,rfl⟩,h⟩:=h;rw [lvsEq_sound _ _ h]
   ·simp at h;obtain ⟨⟨rfl,rfl⟩,rfl⟩:=h;rfl
   ·rw [lvsEq_sound _ _ h]
   ·simp at h;obtain ⟨rfl,rfl⟩:=h;rfl
   ·rw [lvsEq_sound _ _ h]
   ·simp at h;subst h;rfl
   ·simp at h;obtain ⟨rfl,h⟩:=h;rw [lvsEq_sound _ _ h]
   ·rw [lvsEq_sound _ _ h]
   ·cases h
theorem lvsEq_sound:∀ (a b:List LV),lvsEq a b=true→a=b
 | a,b,h=>by
   unfold lvsEq at h
   split at h
   ·rfl
   ·simp at h;rw [lvEq_sound _ _ h.1,lvsEq_sound _ _ h.2]
   ·cases h
end
def mapEq:List (List Int×LV)→List (List Int×LV)→Bool
 | [],[]=>true
 | p::a,q::b=>p.1==q.1&&lvEq p.2 q.2&&mapEq a b
 | _,_=>false
theorem mapEq_sound:∀ a b,mapEq a b=true→a=b
 | [],[],_=>rfl
 | p::a,q::b,h=>by
   simp only [mapEq,Bool.and_eq_true,beq_iff_eq] at h
   rw [mapEq_sound a b h.2]
   congr 1
   exact Prod.ext h.1.1 (lvEq_sound _ _ h.1.2)
 | [],_::_,h=>by simp [mapEq] at h
 | _::_,[],h=>by simp [mapEq] at h
def lobjEq:LObj→LObj→Bool
 | .dead,.dead=>true
 | .own e s n,.own e' s' n'=>e==e'&&s==s'&&n==n'
 | .box e s cs,.box e' s' cs'=>e==e'&&s==s'&&lvsEq cs cs'
 | .map ag ks es,.map ag' ks' es'=>ag==ag'&&decide (ks=ks')&&mapEq es es'
 | _,_=>false
theorem lobjEq_sound (a b:LObj) (h:lobjEq a b=true):a=b:=by
 unfold lobjEq at h
 split at h
 ·rfl
 ·simp at h;obtain ⟨⟨rfl,rfl⟩,rfl⟩:=h;rfl
 ·simp at h;obtain ⟨⟨rfl,rfl⟩,h⟩:=h;rw [lvsEq_sound _ _ h]
 ·simp at h;obtain ⟨⟨rfl,rfl⟩,h⟩:=h;rw [mapEq_sound _ _ h]
 ·cases h
abbrev XCall:=FuncId→List LV→St→Option (List (LV×St))
def xall {α β:Type} (f:α→Option (List β)):List α→Option (List β)
 | []=>some []
 | a::l=>match f a with
   | some x=>match xall f l with
     | some y=>some (x++y)
     | none=>none
   | none=>none
theorem xall_some {α β:Type} {f:α→Option (List β)}:∀ {l:List α} {r:List β},xall f l=some r→∀ a∈l,∃ x,f a=some x∧∀ b∈x,b∈r
 | [],r,_,a,ha=>by simp at ha
 | c::l,r,h,a,ha=>by
   simp only [xall] at h
   split at h
   ·rename_i x hx
    split at h
    ·rename_i y hy
     injection h with h
     subst h
     rcases List.mem_cons.1 ha with rfl | ha
     ·exact ⟨x,hx,fun b hb=>List.mem_append_left _ hb⟩
     ·obtain ⟨z,h1,h2⟩:=xall_some hy a ha
      exact ⟨z,h1,fun b hb=>List.mem_append_right _ (h2 b hb)⟩
    ·cases h
   ·cases h
def xaop (T:Tab) (o:Oper) (fr:Frm) (st:St):Option (LV×St):=
 match aop T o.dst.isSome o fr st with
 | some r=>if @decide r.c r.d then some (r.v,r.s) else none
 | none=>none
theorem xaop_sound {T:Tab} {o:Oper} {fr:Frm} {st st':St} {v:LV} (h:xaop T o fr st=some (v,st')):∃ r,aop T o.dst.isSome o fr st=some r∧r.c∧r.v=v∧r.s=st':=by
 unfold xaop at h
 split at h
 ·rename_i r hr
  split at h
  ·rename_i hc
   simp only [Option.some.injEq,Prod.mk.injEq] at h
   exact ⟨r,hr,@of_decide_eq_true _ r.d hc,h.1,h.2⟩
  ·cases h
 ·cases h
def one1:Option (LV×St)→Option (List (LV×St))
 | some p=>some [p]
 | none=>none
def xcal (call:XCall) (x:Operand) (args:Array Operand) (fr:Frm) (st:St):Option (List (LV×St)):=
 match calleeL (evalL fr x) with
 | some (f,caps)=>call f ((args.toList.map (evalL fr))++caps) st
 | none=>none
def xstep (T:Tab) (call:XCall) (o:Oper) (fr:Frm) (st:St):Option (List (LV×St)):=
 match o.op with
 | .call { callee:=.value x,args:=args,argTypes:=_ }=>xcal call x args fr st
 | _=>match nilCmp T o fr with
   | some (ng,n)=>if n=0 then some [(.atom (.bool (false != ng)),st),(.atom (.bool (true != ng)),st)] else some [(.atom (.bool (false != ng)),st)]
   | none=>one1 (xaop T o fr st)
def xops (T:Tab) (call:XCall) (ops:Array Oper):List Oper→Frm→St→Option (List (Frm×St))
 | [],fr,st=>some [(fr,st)]
 | o::rest,fr,st=>match wantedL ops fr o.guard with
   | some true=>match xstep T call o fr st with
     | some rs=>xall (fun p=>xops T call ops rest (updO fr o.dst p.1) p.2) rs
     | none=>none
   | some false=>xops T call ops rest (updO fr o.dst (.tu [])) st
   | none=>none
def CallOk (P:Program) (call:XCall):Prop:=∀ f args st rs,call f args st=some rs→ACalls P f args st fun r1 st1=>(r1,st1)∈rs
theorem inM_range {N:Nat} {d:Option Nat} (h:dstOk N d=true):inM (List.range N) d=d.isSome:=by
 cases d with
 | none=>rfl
 | some d=>simp [dstOk] at h;simp [inM,h]
theorem stepR_call {P:Program} {T:Tab} {N:Nat} {ops:Array Oper} {M:List Nat} {J:Frm→St→Prop} {rest:List Oper} {o:Oper} {fr:Frm} {st:St} {x:Operand} {args:Array Operand} {tys:Array TypeId} (hop:o.op=.call { callee:=.value x,args:=args,argTypes:=tys }):
 stepR P T N ops M J rest o fr st=callS P T N ops M J rest o.dst fr st (args.toList.map (evalL fr)) (calleeL (evalL fr x)):=by
 unfold stepR;rw [hop]
theorem stepR_else {P:Program} {T:Tab} {N:Nat} {ops:Array Oper} {M:List Nat} {J:Frm→St→Prop} {rest:List Oper} {o:Oper} {fr:Frm} {st:St} (hne:∀ (x:Operand) (args:Array Operand) (tys:Array TypeId),o.op=.call { callee:=.value x,args:=args,argTypes:=tys }→False):
 stepR P T N ops M J rest o fr st=stepN P T N ops M J rest o fr st (nilCmp T o fr):=by
 unfold stepR
 split
 ·rename_i hop;exact (hne _ _ _ hop).elim
 ·rfl
theorem xops_sound {P:Program} {T:Tab} {call:XCall} {ops:Array Oper} {N:Nat} (hc:CallOk P call) {R:List (Frm×St)}:∀ (rest:List Oper) (fr:Frm) (st:St) (L:List (Frm×St)),regOk N ops rest=true→xops T call ops rest fr st=some L→(∀ p∈L,p∈R)→
 AOpsE P T N ops (List.range N) (fun f s=>(f,s)∈R) rest fr st
 | [],fr,st,L,_,h,hR=>by
   simp only [xops,Option.some.injEq] at h
   subst h
   exact hR _ (by simp)
 | o::rest,fr,st,L,hk,h,hR=>by
   simp only [regOk,List.all_cons,Bool.and_eq_true] at hk
   obtain ⟨⟨hd,_⟩,hk⟩:=hk
   have ih:=xops_sound (T:=T) (ops:=ops) (N:=N) hc (R:=R) rest
   have hk':regOk N ops rest=true:=hk
   rw [e_cons]
   simp only [xops] at h
   split at h
   ·rename_i hw
    rw [hw,e_true]
    split at h
    ·rename_i rs hx
     have all:=xall_some h
     have go:∀ v st1,(v,st1)∈rs→AOpsE P T N ops (List.range N) (fun f s=>(f,s)∈R) rest (updO fr o.dst v) st1:=by
      intro v st1 hm
      obtain ⟨x,h1,h2⟩:=all (v,st1) hm
      exact ih _ _ x hk' h1 (fun p hp=>hR p (h2 p hp))
     unfold xstep at hx
     split at hx
     ·rename_i x args tys hop
      rw [stepR_call hop]
      unfold xcal at hx
      split at hx
      ·rename_i f caps hf
       rw [hf]
       exact ⟨_,hc _ _ _ _ hx,fun r st2 hr=>go r st2 hr⟩
      ·cases hx
     ·rename_i hne
      rw [stepR_else hne]
      split at hx
      ·rename_i ng n hn
       rw [hn]
       split at hx
       ·rename_i hn0
        injection hx with hx
        subst hx
        intro b hb
        cases b with
        | true=>exact go _ _ (by simp)
        | false=>exact go _ _ (by simp)
       ·rename_i hn0
        injection hx with hx
        subst hx
        intro b hb
        cases b with
        | true=>exact absurd (hb rfl) hn0
        | false=>exact go _ _ (by simp)
      ·rename_i hn
       rw [hn]
       cases hxa:xaop T o fr st with
       | none=>rw [hxa] at hx;simp [one1] at hx
       | some p=>
         obtain ⟨v,st1⟩:=p
         rw [hxa] at hx
         simp only [one1,Option.some.injEq] at hx
         subst hx
         obtain ⟨r,h1,h2,rfl,rfl⟩:=xaop_sound hxa
         simp only [stepN,inM_range hd,h1]
         exact ⟨h2,go _ _ (by simp)⟩
    ·cases h
   ·rename_i hw
    rw [hw,e_false]
    exact ih _ _ L hk' h hR
   ·cases h
def sbB (B:List Nat) (st0 st:St):Bool:=B.all fun l=>lobjEq (st.H l) (st0.H l)
theorem sbB_sound {B:List Nat} {st0 st:St} (h:sbB B st0 st=true):SB B st0 st:=by
 intro l hl
 unfold sbB at h
 rw [List.all_eq_true] at h
 exact lobjEq_sound _ _ (h l hl)
def locOf:LV→Option (List Nat)
 | .pt l _=>some [l]
 | .ep _=>some []
 | _=>none
theorem locOf_sound {B L:List Nat} {x:LV} (h:locOf x=some L) (hB:∀ l∈L,l∈B):ptIn B x:=by
 unfold locOf at h
 split at h
 ·simp only [Option.some.injEq] at h;subst h;exact hB _ (by simp)
 ·simp [ptIn]
 ·cases h
def xloud (T:Tab) (call:XCall) (o:Oper) (fr:Frm) (st:St):Option (List (LV×St)):=
 match o.op with
 | .call { callee:=.value x,args:=args,argTypes:=_ }=>xcal call x args fr st
 | _=>one1 (xaop T o fr st)
abbrev XD:=Frm×St×List Nat×List St
def xadd (L:List Nat) (S:List St):Option (List XD)→Option (List XD)
 | some (q::l)=>some ((q::l).map fun p=>(p.1,p.2.1,L++p.2.2.1,S++p.2.2.2))
 | _=>none
theorem xadd_some {L:List Nat} {S:List St} {x:Option (List XD)} {r:List XD} (h:xadd L S x=some r):∃ l,x=some l∧l≠[]∧∀ p∈l,(p.1,p.2.1,L++p.2.2.1,S++p.2.2.2)∈r:=by
 unfold xadd at h
 split at h
 ·rename_i q l
  injection h with h
  subst h
  exact ⟨q::l,rfl,by simp,fun p hp=>List.mem_map.2 ⟨p,hp,rfl⟩⟩
 ·cases h
def isQuiet (ops:Array Oper) (i:Nat):Bool:=match ops[i]? with
 | some o=>quietOp o.op
 | none=>false
def xany (T:Tab) (call:XCall) (ops:Array Oper):Nat→Array Bool→Frm→St→Option (List XD)
 | 0,listed,fr,st=>match Region.ready .any ops listed with
   | []=>some [(fr,st,[],[])]
   | _=>none
 | n+1,listed,fr,st=>match (Region.ready .any ops listed).find? (fun i=>isQuiet ops i&&Region.free .any ops listed i) with
   | some i=>match ops[i]? with
     | some o=>match wantedL ops fr o.guard with
       | some true=>match locOf (heldAt fr o.op),xaop T o fr st with
         | some L,some (v,_)=>xadd L (if heldOp o.op then [st] else []) (xany T call ops n (listed.setIfInBounds i true) (updO fr o.dst v) st)
         | _,_=>none
       | some false=>xadd [] (if heldOp o.op then [st] else []) (xany T call ops n (listed.setIfInBounds i true) (updO fr o.dst (.tu [])) st)
       | none=>none
     | none=>none
   | none=>match Region.ready .any ops listed with
     | []=>some [(fr,st,[],[])]
     | rd=>xall (fun i=>match ops[i]? with
       | some o=>if quietOp o.op then none else match wantedL ops fr o.guard with
         | some true=>match xloud T call o fr st with
           | some rs=>xall (fun p=>xadd [] (if needS ops i then [p.2] else []) (xany T call ops n (listed.setIfInBounds i true) (updO fr o.dst p.1) p.2)) rs
           | none=>none
         | some false=>xadd [] (if needS ops i then [st] else []) (xany T call ops n (listed.setIfInBounds i true) (updO fr o.dst (.tu [])) st)
         | none=>none
       | none=>none) rd
theorem xany_sound {P:Program} {T:Tab} {call:XCall} {ops:Array Oper} {N:Nat} (hc:CallOk P call) (hk:regOk N ops ops.toList=true) {B:List Nat} {st0:St} {R:List (Frm×St)}:∀ (n:Nat) (listed:Array Bool) (fr:Frm) (st:St) (L:List XD),
 xany T call ops n listed fr st=some L→(∀ p∈L,(p.1,p.2.1)∈R∧(∀ l∈p.2.2.1,l∈B)∧∀ s∈p.2.2.2,SB B st0 s)→AAny P T ops (List.range N) (SB B st0) (fun f s=>(f,s)∈R) n listed fr st
 | 0,listed,fr,st,L,h,hR=>by
   simp only [xany] at h
   split at h
   ·rename_i hr
    injection h with h
    subst h
    exact ⟨hr,(hR (fr,st,[],[]) (by simp)).1⟩
   ·cases h
 | n+1,listed,fr,st,L,h,hR=>by
   have ih:=xany_sound (T:=T) (N:=N) hc hk (B:=B) (st0:=st0) (R:=R) n
   have hdst:∀ (i:Nat) (o:Oper),ops[i]?=some o→dstOk N o.dst=true:=by
    intro i o ho
    unfold regOk at hk
    rw [List.all_eq_true] at hk
    have:=hk o (Array.mem_toList_iff.2 (Array.mem_of_getElem? ho))
    simp only [Bool.and_eq_true] at this
    exact this.1
   have wit:∀ (x:Option (List XD)) (L':List Nat) (S:List St) (r:List XD),xadd L' S x=some r→(∀ p∈r,(p.1,p.2.1)∈R∧(∀ l∈p.2.2.1,l∈B)∧∀ s∈p.2.2.2,SB B st0 s)→
    ∃ l,x=some l∧(∀ p∈l,(p.1,p.2.1)∈R∧(∀ l∈p.2.2.1,l∈B)∧∀ s∈p.2.2.2,SB B st0 s)∧(∀ q∈L',q∈B)∧∀ s∈S,SB B st0 s:=by
    intro x L' S r hx hr
    obtain ⟨l,h1,hne,h2⟩:=xadd_some hx
    refine ⟨l,h1,fun p hp=>?_,?_⟩
    ·obtain ⟨a1,a2,a3⟩:=hr _ (h2 p hp)
     exact ⟨a1,fun q hq=>a2 q (List.mem_append_right _ hq),fun s hs=>a3 s (List.mem_append_right _ hs)⟩
    ·obtain ⟨p,hp⟩:=List.exists_mem_of_ne_nil l hne
     obtain ⟨_,a2,a3⟩:=hr _ (h2 p hp)
     exact ⟨fun q hq=>a2 q (List.mem_append_left _ hq),fun s hs=>a3 s (List.mem_append_left _ hs)⟩
   simp only [xany] at h
   split at h
   ·rename_i i hf
    have hfi:=List.find?_some hf
    have hmem:=List.mem_of_find?_eq_some hf
    simp only [Bool.and_eq_true] at hfi
    split at h
    ·rename_i o ho
     have hq:quietOp o.op=true:=by have:=hfi.1;unfold isQuiet at this;rw [ho] at this;exact this
     have hm:=inM_range (hdst i o ho)
     split at h
     ·rename_i hw
      split at h
      ·rename_i L' v st1 hL hx
       obtain ⟨l,h1,h2,b1,b2⟩:=wit _ _ _ _ h hR
       obtain ⟨r,k1,k2,rfl,rfl⟩:=xaop_sound hx
       have hS:heldOp o.op=true→SB B st0 st:=fun hh=>b2 st (by simp [hh])
       refine aany_first ho n listed fr st (Region.free_spec ho hfi.2) hmem (.inl ⟨hw,hq,fun st' hS'=>?_⟩) hS hq (ih _ _ _ l h1 h2)
       have hpt:=locOf_sound hL b1
       refine ⟨@ARes.mk r.c r.v st' r.d,?_,k2,rfl,rfl⟩
       rw [hm]
       refine quiet_stable hq (fun l' k hl'=>?_) k1
       rw [hl'] at hpt
       have hh:heldOp o.op=true:=held_of hl'
       rw [hS' hh l' hpt,hS hh l' hpt]
      ·cases h
     ·rename_i hw
      obtain ⟨l,h1,h2,b1,b2⟩:=wit _ _ _ _ h hR
      exact aany_first ho n listed fr st (Region.free_spec ho hfi.2) hmem (.inr ⟨hw,rfl⟩) (fun hh=>b2 st (by simp [hh])) hq (ih _ _ _ l h1 h2)
     ·cases h
    ·cases h
   ·split at h
    ·rename_i hr
     injection h with h
     subst h
     refine ⟨fun _=>(hR (fr,st,[],[]) (by simp)).1,fun i hi=>by rw [hr] at hi;simp at hi⟩
    ·rename_i hr
     refine ⟨fun h0=>absurd h0 hr,fun i hi=>?_⟩
     obtain ⟨x,h1,h2⟩:=xall_some h i hi
     split at h1
     ·rename_i o ho
      refine ⟨o,ho,?_⟩
      have hm:=inM_range (hdst i o ho)
      split at h1
      ·cases h1
      ·rename_i hq
       have hq:quietOp o.op=false:=by simpa using hq
       have hKx:∀ st',(needS ops i=true→SB B st0 st')→Kx ops (SB B st0) i o st st':=by
        intro st' hh
        unfold Kx
        simp only [hq,Bool.false_eq_true,if_false]
        exact hh
       unfold AStep
       split at h1
       ·rename_i hw
        rw [hw]
        refine ⟨fun _=>?_,(fun hb=>by cases hb)⟩
        split at h1
        ·rename_i rs hx
         have all:=xall_some h1
         have go:∀ v st1,(v,st1)∈rs→Kx ops (SB B st0) i o st st1∧AAny P T ops (List.range N) (SB B st0) (fun f s=>(f,s)∈R) n (listed.setIfInBounds i true) (updO fr o.dst v) st1:=by
          intro v st1 hmm
          obtain ⟨y,g1,g2⟩:=all (v,st1) hmm
          obtain ⟨l,q1,q2,_,q4⟩:=wit _ _ _ _ g1 (fun p hp=>hR p (h2 p (g2 p hp)))
          exact ⟨hKx _ (fun hh=>q4 st1 (by simp [hh])),ih _ _ _ l q1 q2⟩
         unfold xloud at hx
         split at hx
         ·rename_i x' args tys hop
          unfold xcal at hx
          split at hx
          ·rename_i f caps hf'
           rw [hop]
           simp only [hf']
           exact ⟨_,hc _ _ _ _ hx,fun r st2 hr'=>go r st2 hr'⟩
          ·cases hx
         ·rename_i hne
          cases hxa:xaop T o fr st with
          | none=>rw [hxa] at hx;simp [one1] at hx
          | some p=>
            obtain ⟨v,st1⟩:=p
            rw [hxa] at hx
            simp only [one1,Option.some.injEq] at hx
            subst hx
            obtain ⟨r,k1,k2,rfl,rfl⟩:=xaop_sound hxa
            split
            ·rename_i hop;exact (hne _ _ _ hop).elim
            ·rw [hm,k1]
             exact ⟨k2,go _ _ (by simp)⟩
        ·cases h1
       ·rename_i hw
        rw [hw]
        refine ⟨(fun hb=>by cases hb),fun _=>?_⟩
        obtain ⟨l,q1,q2,_,q4⟩:=wit _ _ _ _ h1 (fun p hp=>hR p (h2 p hp))
        exact ⟨hKx _ (fun hh=>q4 st (by simp [hh])),ih _ _ _ l q1 q2⟩
       ·cases h1
     ·cases h1
def resX (T:Tab) (fr:Frm) (st:St):List ResultVar→Option (List LV)
 | []=>some []
 | r::rs=>match resOne T fr st r,resX T fr st rs with
   | some x,some l=>if @decide x.c x.d then some (x.v::l) else none
   | _,_=>none
theorem resX_sound {T:Tab} {fr:Frm} {st:St}:∀ (rs:List ResultVar) (l:List LV),resX T fr st rs=some l→∃ c,resLs T fr st rs=some (c,l)∧c
 | [],l,h=>by simp only [resX,Option.some.injEq] at h;subst h;exact ⟨True,rfl,trivial⟩
 | r::rs,l,h=>by
   simp only [resX] at h
   split at h
   ·rename_i x l' hx hl
    split at h
    ·rename_i hc
     simp only [Option.some.injEq] at h
     subst h
     obtain ⟨c,h1,h2⟩:=resX_sound rs l' hl
     exact ⟨x.c∧c,by simp only [resLs,hx,h1],@of_decide_eq_true _ x.d hc,h2⟩
    ·cases h
   ·cases h
abbrev XR:=Exit×Frm×St
def xret (T:Tab) (rs:List ResultVar) (p:XR):Option (List (LV×St)):=match p.1 with
 | .ret=>match resX T p.2.1 p.2.2 rs with
   | some l=>some [(one l,p.2.2)]
   | none=>none
 | .normal=>match resX T p.2.1 p.2.2 rs with
   | some l=>some [(one l,p.2.2)]
   | none=>none
 | _=>none
def xrets (T:Tab) (rs:List ResultVar):Option (List XR)→Option (List (LV×St))
 | some l=>xall (xret T rs) l
 | none=>none
def xchk (st0:St):Option (List XD)→Option (List (Frm×St))
 | some l=>if l.all (fun p=>p.2.2.2.all (sbB (l.flatMap fun q=>q.2.2.1) st0)) then some (l.map fun p=>(p.1,p.2.1)) else none
 | none=>none
def xreg (T:Tab) (call:XCall) (N:Nat) (ops:Array Oper) (dr:Bool) (fr:Frm) (st:St):Option (List (Frm×St)):=
 if regOk N ops ops.toList then
  match dr with
  | false=>xops T call ops ops.toList fr st
  | true=>xchk st (xany T call ops ops.size (Array.replicate ops.size false) fr st)
 else none
def xnext (g:Frm→St→Option (List XR)) (p:XR):Option (List XR):=match p.1 with
 | .normal=>g p.2.1 p.2.2
 | _=>some [p]
def xthen (g:Frm→St→Option (List XR)):Option (List XR)→Option (List XR)
 | some l=>xall (xnext g) l
 | none=>none
def xblk (id:Nat) (p:XR):XR:=match p.1 with
 | .exit i=>if i=id then (.normal,p.2) else p
 | _=>p
def noGoto (p:XR):Bool:=match p.1 with
 | .goto _=>false
 | _=>true
def xrun (T:Tab) (fns:FuncId→Option Func) (pr:XCall):Nat→Nat→Code→Frm→St→Option (List XR)
 | 0,_,_,_,_=>none
 | n+1,N,c,fr,st=>match c with
   | .skip=>some [(.normal,fr,st)]
   | .label _=>some [(.normal,fr,st)]
   | .exit i=>some [(.exit i,fr,st)]
   | .ret=>some [(.ret,fr,st)]
   | .seq a b=>xthen (fun fr' st'=>xrun T fns pr n N b fr' st') (xrun T fns pr n N a fr st)
   | .block id c=>match xrun T fns pr n N c fr st with
     | some l=>some (l.map (xblk id))
     | none=>none
   | .scope c=>match xrun T fns pr n N c fr st with
     | some l=>if l.all noGoto then some l else none
     | none=>none
   | .cond x a b=>match evalL fr x with
     | .atom (.bool true)=>xrun T fns pr n N a fr st
     | .atom (.bool false)=>xrun T fns pr n N b fr st
     | _=>none
   | .loop c=>xthen (fun fr' st'=>xrun T fns pr n N (.loop c) fr' st') (xrun T fns pr n N c fr st)
   | .region _ ops dr=>match xreg T (fun f args st=>match pr f args st with
      | some r=>some r
      | none=>match fns f with
        | some fn=>match fn.body with
          | some c=>if args.length≤fn.ntmps then xrets T fn.results.toList (xrun T fns pr n fn.ntmps c (frame0 args) st) else none
          | none=>none
        | none=>none) N ops dr fr st with
     | some l=>some (l.map fun p=>(.normal,p.1,p.2))
     | none=>none
   | _=>none
def xcall (T:Tab) (fns:FuncId→Option Func) (pr:XCall) (n:Nat):XCall:=fun f args st=>match pr f args st with
 | some r=>some r
 | none=>match fns f with
   | some fn=>match fn.body with
     | some c=>if args.length≤fn.ntmps then xrets T fn.results.toList (xrun T fns pr n fn.ntmps c (frame0 args) st) else none
     | none=>none
   | none=>none
def FnsOk (P:Program) (fns:FuncId→Option Func):Prop:=∀ f fn,fns f=some fn→P.funcs[f]?=some fn∧(fn.name== "runtime.NumGoroutine")=false
section
variable {P:Program} {T:Tab} {fns:FuncId→Option Func} {pr:XCall}
def among (L:List XR):AQ:=fun e f s=>(e,f,s)∈L
theorem xcall_sound (hT:TabOk P T) (hf:FnsOk P fns) (hp:CallOk P pr) {n:Nat} (ih:∀ N c fr st L,xrun T fns pr n N c fr st=some L→AWp P N c (among L) fr st):CallOk P (xcall T fns pr n):=by
 intro f args st rs h
 unfold xcall at h
 split at h
 ·rename_i q hq
  injection h with h
  subst h
  exact hp _ _ _ _ hq
 split at h
 ·rename_i fn hfn
  obtain ⟨h1,h2⟩:=hf f fn hfn
  split at h
  ·rename_i c hb
   split at h
   ·rename_i hlen
    cases hx:xrun T fns pr n fn.ntmps c (frame0 args) st with
    | none=>rw [hx] at h;simp [xrets] at h
    | some L=>
      rw [hx] at h
      simp only [xrets] at h
      have all:=xall_some h
      refine qO hT h1 hb h2 rfl rfl hlen (awp_mono (ih _ _ _ _ _ hx) ?_)
      intro e fr1 st1 hm
      obtain ⟨y,g1,g2⟩:=all (e,fr1,st1) hm
      rw [ak_nil]
      have key:(match resX T fr1 st1 fn.results.toList with | some l=>some [(one l,st1)] | none=>none)=some y→resK T (fun r1 st3=>(r1,st3)∈rs) fr1 st1 fn.results.toList:=by
       intro hres
       cases hr:resX T fr1 st1 fn.results.toList with
       | none=>simp [hr] at hres
       | some l=>
         simp only [hr,Option.some.injEq] at hres
         subst hres
         obtain ⟨cc,k1,k2⟩:=resX_sound _ _ hr
         unfold resK
         rw [k1]
         exact ⟨k2,g2 _ (by simp)⟩
      unfold xret at g1
      cases e with
      | normal=>exact key g1
      | ret=>exact key g1
      | _=>cases g1
   ·cases h
  ·cases h
 ·cases h
theorem xthen_some {g:Frm→St→Option (List XR)} {x:Option (List XR)} {L:List XR} (h:xthen g x=some L):∃ l,x=some l∧∀ p∈l,(∃ y,xnext g p=some y∧∀ q∈y,q∈L):=by
 unfold xthen at h
 split at h
 ·rename_i l
  exact ⟨l,rfl,fun p hp=>xall_some h p hp⟩
 ·cases h
theorem aopsE_mono {N:Nat} {ops:Array Oper} {M:List Nat} {J J':Frm→St→Prop} (hJ:∀ f s,J f s→J' f s):∀ (rest:List Oper) (fr:Frm) (st:St),AOpsE P T N ops M J rest fr st→AOpsE P T N ops M J' rest fr st:=by
 intro rest
 induction rest with
 | nil=>intro fr st h;exact hJ _ _ h
 | cons o rest ihr=>
   intro fr st hh
   rw [e_cons] at hh ⊢
   unfold stepW at hh ⊢
   split at hh
   ·refine ⟨fun hb=>?_,fun hb=>ihr _ _ (hh.2 hb)⟩
    have h1:=hh.1 hb
    unfold stepR at h1 ⊢
    split at h1
    ·unfold callS at h1 ⊢
     split at h1
     ·obtain ⟨R,k1,k2⟩:=h1
      exact ⟨R,k1,fun r st' hr=>ihr _ _ (k2 r st' hr)⟩
     ·exact h1
    ·unfold stepN at h1 ⊢
     split at h1
     ·exact fun b hb=>ihr _ _ (h1 b hb)
     ·unfold stepA at h1 ⊢
      split at h1
      ·exact ⟨h1.1,ihr _ _ h1.2⟩
      ·exact h1
   ·exact hh
theorem xrun_sound (hT:TabOk P T) (hf:FnsOk P fns) (hp:CallOk P pr) (hm:P.follows .mixedOrders=true):∀ (n N:Nat) (c:Code) (fr:Frm) (st:St) (L:List XR),xrun T fns pr n N c fr st=some L→AWp P N c (among L) fr st:=by
 intro n
 induction n using Nat.strongRecOn with
 | ind n ihs=>
   intro N c fr st L h
   cases n with
   | zero=>simp [xrun] at h
   | succ n=>
   have ih:=ihs n (Nat.lt_succ_self n)
   cases c with
   | skip=>simp only [xrun,Option.some.injEq] at h;subst h;exact qK (Q:=among _) (k:=[]) (by simp [ak_nil,among])
   | label l=>simp only [xrun,Option.some.injEq] at h;subst h;exact awp_label (Q:=among _) (k:=[]) (by simp [ak_nil,among])
   | exit i=>simp only [xrun,Option.some.injEq] at h;subst h;exact qX (Q:=among _) (k:=[]) (by simp [ak_nil,among])
   | ret=>simp only [xrun,Option.some.injEq] at h;subst h;exact qR (Q:=among _) (k:=[]) (by simp [ak_nil,among])
   | seq x y=>
     refine qS (Q:=among L) (k:=[]) ?_
     simp only [xrun] at h
     obtain ⟨l,hx,all⟩:=xthen_some h
     refine awp_mono (ih _ _ _ _ _ hx) ?_
     intro e fr2 st2 hmm
     obtain ⟨z,g1,g2⟩:=all _ hmm
     cases e with
     | normal=>
       rw [ak_code]
       exact awp_mono (ih _ _ _ _ _ g1) (fun e f s hh=>g2 _ hh)
     | _=>injection g1 with g1;subst g1;exact g2 _ (by simp)
   | block id x=>
     refine qB (Q:=among L) (k:=[]) ?_
     simp only [xrun] at h
     split at h
     ·rename_i l hx
      injection h with h
      subst h
      refine awp_mono (ih _ _ _ _ _ hx) ?_
      intro e fr2 st2 hmm
      have hin:xblk id (e,fr2,st2)∈l.map (xblk id):=List.mem_map.2 ⟨_,hmm,rfl⟩
      cases e with
      | exit i=>
        rw [ak_blk_exit]
        simp only [xblk] at hin
        split
        ·rename_i hi;rw [if_pos hi] at hin;exact hin
        ·rename_i hi;rw [if_neg hi] at hin;exact hin
      | _=>exact hin
     ·cases h
   | scope x=>
     simp only [xrun] at h
     split at h
     ·rename_i l hx
      split at h
      ·rename_i hall
       injection h with h
       subst h
       refine awp_scope (Q:=among l) (k:=[]) (ih _ _ _ _ _ hx) ?_
       intro k fr2 st2 hmm
       have:=List.all_eq_true.1 hall _ hmm
       simp [noGoto] at this
      ·cases h
     ·cases h
   | cond x a b=>
     refine qC (Q:=among L) (k:=[]) ?_
     simp only [xrun] at h
     split at h
     ·rename_i hx
      rw [hx,condL_bool]
      exact ⟨fun _=>ih _ _ _ _ _ h,(fun hb=>by cases hb)⟩
     ·rename_i hx
      rw [hx,condL_bool]
      exact ⟨(fun hb=>by cases hb),fun _=>ih _ _ _ _ _ h⟩
     ·cases h
   | loop x=>
     refine qL (Q:=among L) (k:=[]) (fun m fr st=>m≤n+1∧∃ L',xrun T fns pr m N (.loop x) fr st=some L'∧∀ p∈L',p∈L) (n+1) ⟨Nat.le_refl _,L,h,fun p hp=>hp⟩ ?_
     rintro m fr1 st1 ⟨hle,L',hI,hsub⟩ J hJ
     cases m with
     | zero=>simp [xrun] at hI
     | succ m=>
       have ihm:=ihs m (by omega)
       simp only [xrun] at hI
       obtain ⟨l,hx,all⟩:=xthen_some hI
       refine awp_mono (ihm _ _ _ _ _ hx) ?_
       intro e fr2 st2 hmm
       obtain ⟨z,g1,g2⟩:=all _ hmm
       cases e with
       | normal=>
         rw [ak_head]
         exact hJ m _ _ (Nat.lt_succ_self m) ⟨by omega,z,g1,fun p hp=>hsub p (g2 p hp)⟩
       | _=>injection g1 with g1;subst g1;exact hsub _ (g2 _ (by simp))
   | region id ops dr=>
     simp only [xrun] at h
     have hcall:CallOk P (xcall T fns pr n):=xcall_sound hT hf hp (fun N c fr st L hx=>ih N c fr st L hx)
     split at h
     ·rename_i l hx
      injection h with h
      subst h
      have hx':xreg T (xcall T fns pr n) N ops dr fr st=some l:=hx
      have fin:∀ f s,(f,s)∈l→among (l.map fun p=>(Exit.normal,p.1,p.2)) .normal f s:=fun f s hh=>List.mem_map.2 ⟨(f,s),hh,rfl⟩
      unfold xreg at hx'
      split at hx'
      ·rename_i hk
       cases dr with
       | false=>
         simp only at hx'
         refine awp_regionE hT (List.range N) hk fun J hJ=>?_
         exact aopsE_mono (fun f s hh=>hJ _ _ (fin f s hh)) _ _ _ (xops_sound (N:=N) (R:=l) hcall _ _ _ l hk hx' (fun p hp=>hp))
       | true=>
         simp only at hx'
         unfold xchk at hx'
         split at hx'
         ·rename_i L1 hxa
          split at hx'
          ·rename_i hall
           injection hx' with hx'
           subst hx'
           intro a w g hi hr hs hd
           refine wp_region_any hm ?_
           have hA:=xany_sound (N:=N) (B:=L1.flatMap fun q=>q.2.2.1) (st0:=st) (R:=L1.map fun p=>(p.1,p.2.1)) hcall hk _ _ fr st L1 hxa (fun p hp=>⟨List.mem_map.2 ⟨p,hp,rfl⟩,fun l' hl'=>List.mem_flatMap.2 ⟨p,hp,hl'⟩,fun s hs'=>by
            rw [List.all_eq_true] at hall
            have:=hall p hp
            rw [List.all_eq_true] at this
            exact sbB_sound (this s hs')⟩)
           have hdr:Ext w g { w with drawn:=w.drawn+1 } g:=ext_drew w g
           exact aany_sound hT hk (fun f s hh=>fin f s hh) _ _ fr st a { w with drawn:=w.drawn+1 } g hi.drew (hr.mono hdr) hs hd hdr hA
          ·cases hx'
         ·cases hx'
      ·cases hx'
     ·cases h
   | _=>simp [xrun] at h
end
def lookF:List (Nat×Func)→FuncId→Option Func
 | [],_=>none
 | p::l,f=>if f=p.1 then some p.2 else lookF l f
def AllF (P:Program):List (Nat×Func)→Prop
 | []=>True
 | p::l=>(P.funcs[p.1]?=some p.2∧(p.2.name== "runtime.NumGoroutine")=false)∧AllF P l
theorem fnsOk_of {P:Program}:∀ (l:List (Nat×Func)),AllF P l→FnsOk P (lookF l)
 | [],_,f,fn,h=>by simp [lookF] at h
 | p::l,ha,f,fn,h=>by
   simp only [lookF] at h
   split at h
   ·rename_i hf
    injection h with h
    subst hf h
    exact ha.1
   ·exact fnsOk_of l ha.2 f fn h
theorem acalls_frame {P:Program} {f:FuncId} {st:St} {R:Value→Prop} (h:ACalls P f [] ⟨1,fun _=>.dead⟩ fun r _=>∃ v,r=.atom v∧R v):ACalls P f [] st fun r st'=>(∃ v,r=.atom v∧R v)∧st'=st:=by
 refine ⟨h.1,fun w g vs hi hr=>?_⟩
 have hi0:Inv w ⟨1,fun _=>none,fun _=>0,fun _=>0,fun _=>false⟩ ⟨1,fun _=>.dead⟩:=by
  refine ⟨rfl,by decide,fun _ _=>rfl,fun l hl=>hl.elim,fun l l' hl=>hl.elim,fun l e s n hl=>(by cases hl),fun l e s cs hl=>(by cases hl),fun l ag ks es hl=>(by cases hl),fun l e n hl=>(by cases hl),aside_bare (hi.aside.glob.phi fun _ _ _ _ _=>rfl) fun _=>rfl⟩
 refine (h.2 w _ vs hi0 (by simp only [RepL] at hr ⊢;exact hr)).mono ?_
 rintro e w' ⟨v,r,st',g',rfl,⟨v',rfl,hv'⟩,hrep,_,he⟩
 have hold:∀ b,b < w.heap.size→w'.heap[b]?=w.heap[b]?:=fun b hb=>(he.still b hb rfl).2
 have he':Ext w g w' g:=by
  refine ⟨he.os,he.tape,he.output,he.size,Nat.le_refl _,fun _ _=>rfl,fun _ _=>rfl,fun _ _=>rfl,fun b hb hn=>⟨hn,hold b hb⟩,fun b k hb hk=>⟨k,hk,Nat.le_refl _,fun o _=>World.cell?_of_block (w:=w) (hold b hb)⟩⟩
 refine ⟨v,_,st,g,rfl,⟨⟨v',rfl,hv'⟩,rfl⟩,hrep,?_,he'⟩
 refine ⟨hi.next,hi.pos,hi.fresh,fun l hl=>Nat.lt_of_lt_of_le (hi.lt l hl) he.size,hi.inj,?_,?_,?_,?_,hi.aside.keep he' fun _ _=>rfl⟩
 ·intro l e s n hl
  obtain ⟨h1,h2,h3,h4⟩:=hi.own l e s n hl
  refine ⟨h1,h2,h3,fun hnl=>?_⟩
  obtain ⟨cur,k1,k2,k3⟩:=h4 hnl
  exact ⟨cur,by rw [hold _ (Array.getElem?_eq_some_iff.1 k1).1];exact k1,k2,k3⟩
 ·intro l e s cs hl
  obtain ⟨h1,h2,h3⟩:=hi.box l e s cs hl
  refine ⟨h1,h2,fun hnl=>?_⟩
  obtain ⟨cur,k1,k2,k3,k4,k5⟩:=h3 hnl
  exact ⟨cur,by rw [hold _ (Array.getElem?_eq_some_iff.1 k1).1];exact k1,k2,k3,RepL.mono he' _ _ k4,k5⟩
 ·intro l ag ks es hl
  have hm:=hi.mp l ag ks es hl
  exact hm.keep he' (hi.map_lt hl) (hold _ hm.blk_lt) rfl
 ·intro l e n hl
  have hm:=hi.qu l e n hl
  exact hm.keep he' (hi.que_lt hl) (hold _ hm.blk_lt) rfl
def isB (b:Bool) (p:LV×St):Bool:=match p.1 with
 | .atom (.bool c)=>c==b
 | _=>false
def xBool (r:Option (List (LV×St))) (b:Bool):Bool:=match r with
 | some l=>l.all (isB b)
 | none=>false
theorem acalls_closed {P:Program} {T:Tab} {fns:FuncId→Option Func} {pr:XCall} (hT:TabOk P T) (hf:FnsOk P fns) (hp:CallOk P pr) (hm:P.follows .mixedOrders=true) (n:Nat) {f:FuncId} (b:Bool) {st:St}
 (h:xBool (xcall T fns pr n f [] ⟨1,fun _=>.dead⟩) b=true):ACalls P f [] st fun r st'=>r=.atom (.bool b)∧st'=st:=by
 cases hx:xcall T fns pr n f [] ⟨1,fun _=>.dead⟩ with
 | none=>rw [hx] at h;simp [xBool] at h
 | some l=>
   rw [hx] at h
   simp only [xBool] at h
   rw [List.all_eq_true] at h
   have:=xcall_sound hT hf hp (fun N c fr st L hx=>xrun_sound hT hf hp hm n N c fr st L hx) f [] _ l hx
   refine (acalls_frame (R:=fun v=>v=.bool b) (this.mono ?_)).mono ?_
   ·intro r1 st1 hmm
    have hb:=h _ hmm
    unfold isB at hb
    split at hb
    ·rename_i c hc
     simp only at hc
     simp at hb
     exact ⟨_,hc,by rw [hb]⟩
    ·cases hb
   ·rintro r1 st1 ⟨⟨v,rfl,rfl⟩,rfl⟩;exact ⟨rfl,rfl⟩
end Go.Proofs.YtiiejclelbilkaaGreatDoor.Aw
