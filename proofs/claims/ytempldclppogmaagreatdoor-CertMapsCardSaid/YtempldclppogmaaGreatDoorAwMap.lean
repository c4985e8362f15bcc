/- Maps: what a look-up, an update, a new one do; '==' of structs. No program is named here. -/
import Derived.Test.YtempldclppogmaaGreatDoorAwSound2
import Derived.MapKept
import Derived.Laws.StructEq
set_option linter.unusedVariables false
set_option linter.unusedSimpArgs false
namespace Go.Proofs.YtempldclppogmaaGreatDoor.Aw
open Go Go.RowKit
section
variable {P:Program} {T:Tab} {w:World} {g:G} {st:St}
theorem jG:∀(cs:List LV) (vs:List Value) (ks:List IntKind) (ns:List Int),eW cs=some (ks,ns)→aG w g cs vs→vs=mkC ks ns∧ns.length=ks.length
 |[],vs,ks,ns,h,hr=>by
  simp only[eW,Option.some.injEq,Prod.mk.injEq]at h
  obtain⟨rfl,rfl⟩:=h
  simp only[aG]at hr
  exact⟨hr,rfl⟩
 |c::cs,vs,ks,ns,h,hr=>by
  simp only[aG]at hr
  obtain⟨v,vs',rfl,h1,h2⟩:=hr
  cases c with
  |atom x=>
   cases x with
   |int k n=>
    simp only[eW]at h
    cases hi:eW cs with
    |none=>simp[hi]at h
    |some p=>
     obtain⟨ks',ns'⟩:=p
     simp only[hi,Option.some.injEq,Prod.mk.injEq]at h
     obtain⟨rfl,rfl⟩:=h
     obtain⟨k1,k2⟩:=jG cs vs' ks' ns' hi h2
     simp only[Rep]at h1
     exact⟨by rw[h1,k1];rfl,by simp[k2]⟩
   |_=>simp[eW]at h
  |_=>simp[eW]at h
theorem kL{x:LV}{v:Value}{ag:Bool}{ks:List IntKind}{xs1:List Int}(h:rA x=some (ag,ks,xs1))(hr:Rep w g x v):v=mkV ag ks xs1∧xs1.length=ks.length:=by
 cases x with
 |atom y=>
  cases y with
  |int k n=>
   simp only[rA,Option.some.injEq,Prod.mk.injEq]at h
   obtain⟨rfl,rfl,rfl⟩:=h
   simp only[Rep]at hr
   exact⟨by rw[hr];rfl,rfl⟩
  |_=>simp[rA]at h
 |ag cs=>
  simp only[rA]at h
  cases hi:eW cs with
  |none=>simp[hi]at h
  |some p=>
   obtain⟨ks',ns'⟩:=p
   simp only[hi,Option.some.injEq,Prod.mk.injEq]at h
   obtain⟨rfl,rfl,rfl⟩:=h
   simp only[Rep]at hr
   obtain⟨vs,rfl,hr⟩:=hr
   obtain⟨k1,k2⟩:=jG cs vs _ _ hi hr
   exact⟨by rw[k1];rfl,k2⟩
 |_=>simp[rA]at h
def fnd(xs1:List Int):List (List Int×LV)→List MapEntry→Nat→Option (Nat×Value)
 |p::es,e::ents,i=>if xs1==p.1 then some (i,e.val)else fnd xs1 es ents (i+1)
 |_,_,_=>none
theorem gM{t:Nat}{ag:Bool}{ks:List IntKind}(E:aAQ P t ag ks){xs1:List Int}(ha:xs1.length=ks.length)(es:List (List Int×LV))(ents:List MapEntry)(hk:ents.map (·.key)=es.map (fun p=>mkV ag ks p.1))(hl:∀ p∈es,p.1.length=ks.length):
 (Instr.findKey t (mkV ag ks xs1) ents).run P w=.ok (fnd xs1 es ents 0) w:=by
 obtain⟨d,hd,hn⟩:=E.now
 have ask:∀(es:List (List Int×LV)) (ents:List MapEntry) (i:Nat),ents.map (·.key)=es.map (fun p=>mkV ag ks p.1)→(∀ p∈es,p.1.length=ks.length)→(Instr.findAsking t (mkV ag ks xs1) ents i).run P w=.ok (fnd xs1 es ents i) w:=by
  intro es
  induction es with
  |nil=>intro ents i h1 _;cases ents with|nil=>simp[Instr.findAsking,fnd]|cons e ents=>simp at h1
  |cons p es ih=>
   intro ents i h1 h2
   cases ents with
   |nil=>simp at h1
   |cons e ents=>
    simp only[List.map_cons,List.cons.injEq]at h1
    have hq:=E.eq w xs1 p.1 ha (h2 p sS)
    simp only[Instr.findAsking,h1.1,Sem.run_bind,hq,Result.andThen_ok,Sem.run_ite,Sem.run_pure,fnd]
    split
    ·rfl
    ·exact ih ents (i+1) h1.2 (fun q hq=>h2 q (by simp[hq]))
 rcases hn with hn|hn
 ·have now:∀(es:List (List Int×LV)) (ents:List MapEntry) (i:Nat),ents.map (·.key)=es.map (fun p=>mkV ag ks p.1)→(∀ p∈es,p.1.length=ks.length)→Instr.findNow d (mkV ag ks xs1) ents i=some (fnd xs1 es ents i):=by
   intro es
   induction es with
   |nil=>intro ents i h1 _;cases ents with|nil=>simp[Instr.findNow,fnd]|cons e ents=>simp at h1
   |cons p es ih=>
    intro ents i h1 h2
    cases ents with
    |nil=>simp at h1
    |cons e ents=>
     simp only[List.map_cons,List.cons.injEq]at h1
     have hq:=hn xs1 p.1 ha (h2 p sS)
     simp only[Instr.findNow,h1.1,hq,fnd]
     cases hb:(xs1==p.1)
     ·simp only[Bool.false_eq_true,if_false];exact ih ents (i+1) h1.2 (fun q hq=>h2 q (by simp[hq]))
     ·simp
  exact MapKept.run_findKey hd (now es ents 0 hk hl)
 ·cases es with
  |nil=>cases ents with|nil=>simp[Instr.findKey,run_underlying hd,Instr.findNow,fnd]|cons e ents=>simp at hk
  |cons p es=>
   cases ents with
   |nil=>simp at hk
   |cons e ents=>
    have hk':=hk
    simp only[List.map_cons,List.cons.injEq]at hk
    have hq:=hn xs1 p.1 ha (hl p sS)
    have:Instr.findNow d (mkV ag ks xs1) (e::ents) 0=none:=by simp[Instr.findNow,hk.1,hq]
    simp only[Instr.findKey,Sem.run_bind,run_underlying hd,Result.andThen_ok,this]
    exact ask (p::es) (e::ents) 0 hk' hl
theorem mJ(xs1:List Int):∀(es:List (List Int×LV)) (ents:List MapEntry) (i:Nat),aY es xs1=none→fnd xs1 es ents i=none
 |[],ents,i,_=>by simp[fnd]
 |p::es,[],i,_=>by simp[fnd]
 |p::es,e::ents,i,h=>by
  simp only[aY]at h
  split at h
  ·cases h
  ·rename_i hne
   simp only[fnd,if_neg hne]
   exact mJ xs1 es ents (i+1) h
theorem mG(xs1:List Int):∀(es:List (List Int×LV)) (ents:List MapEntry) (i:Nat) (lv:LV),aG w g (es.map (·.2)) (ents.map (·.val))→aY es xs1=some lv→∃ j e,fnd xs1 es ents i=some (i+j,e.val)∧ents[j]?=some e∧Rep w g lv e.val∧(es[j]?).map (·.1)=some xs1
 |[],ents,i,lv,_,h=>by simp[aY]at h
 |p::es,[],i,lv,hr,h=>by simp[aG]at hr
 |p::es,e::ents,i,lv,hr,h=>by
  simp only[List.map_cons,aG]at hr
  obtain⟨v,vs,hv,h1,h2⟩:=hr
  injection hv with hv1 hv2
  subst hv1 hv2
  simp only[aY]at h
  split at h
  ·rename_i hq
   injection h with h;subst h
   exact⟨0,e,by simp[fnd,hq],rfl,h1,by simp at hq ⊢;exact hq.symm⟩
  ·rename_i hq
   obtain⟨j,e',k1,k2,k3,k4⟩:=mG xs1 es ents (i+1) lv h2 h
   exact⟨j+1,e',by simp only[fnd,if_neg hq,k1];congr 2;omega,by simpa using k2,k3,by simpa using k4⟩
theorem aAz{t:Nat}{r:bG}(h:aX P t r):Rep w g (jX r) r.zeroV:=by
 unfold jX bG.zeroV
 cases ha:r.agg with
 |true=>simp only[if_true,Rep];exact⟨r.zero,rfl,cF w g _⟩
 |false=>
  simp only[Bool.false_eq_true,if_false]
  have h1:=h.one ha
  have h2:=h.zl
  cases hz:r.zero with
  |nil=>rw[hz]at h2;simp at h2;omega
  |cons z zs=>simp only[List.map_cons,hdL,List.headD_cons];exact oC w g z
theorem oY(hT:bC P T)(hi:Inv w g st){t:TypeId}{x i:LV}{v vi:Value}{ok:Bool}{r:bL}(he:lB T t x i ok st=some r)(hc:r.c)(h:Rep w g x v)(hvi:Rep w g i vi):
 r.s=st∧∃ u,(Instr.lookup t v vi ok).run P w=.ok u w∧Rep w g r.v u:=by
 unfold lB at he
 cases hm:gK T t with
 |none=>simp[hm]at he
 |some p=>
  obtain⟨k,e⟩:=p
  simp only[hm]at he
  have hu:=kD hT hm
  cases hk:T k with
  |none=>simp[hk]at he
  |some rk=>
   cases hte:T e with
   |none=>simp[hk,hte]at he
   |some re=>
    cases hki:rA i with
    |none=>simp[hk,hte,hki]at he
    |some q=>
     obtain⟨ag,ks,xs1⟩:=q
     simp only[hk,hte,hki]at he
     obtain⟨rfl,hlen⟩:=kL hki hvi
     have hz:=(hT e re hte).zeroValue w
     have hzr:=aAz (w:=w) (g:=g) (hT e re hte)
     cases x with
     |mp l=>
      simp only at he
      cases hl:st.H l with
      |map ag' ks' es=>
       simp only[hl,Option.some.injEq]at he
       subst he
       obtain⟨c1,rfl,rfl,rfl⟩:=hc
       have E:=(hT k rk hk).eqk _ c1
       obtain⟨_,m1,ents,clock,m2,m3,m4,m5,m6,m7⟩:=hi.mp l _ _ es hl
       simp only[Rep]at h
       obtain⟨rfl,_⟩:=h
       have hrun:=gM (w:=w) E hlen es ents m3 m1
       have hchk:=fun em=>E.chk w em xs1 hlen
       refine⟨rfl,?_⟩
       have key:∀ fv:Value×Bool,(match fnd xs1 es ents 0 with|some (_,v)=>(v,true)|none=>(re.zeroV,false))=fv→(Instr.lookup t (.map (some (g.β l))) (mkV rk.agg ks' xs1) ok).run P w=.ok (if ok then .tuple #[fv.1,.bool fv.2]else fv.1) w:=by
        intro fv hfv
        unfold Instr.lookup
        simp only[Sem.run_bind,run_underlying hu,Result.andThen_ok,MapKept.run_getObj_map m2,Sem.run_pure,hchk,hrun]
        cases hf:fnd xs1 es ents 0 with
        |none=>rw[hf]at hfv;subst hfv;simp[hz]
        |some q=>obtain⟨j,u⟩:=q;rw[hf]at hfv;subst hfv;simp
       cases hg:aY es xs1 with
       |none=>
        have hf:=mJ xs1 es ents 0 hg
        refine⟨_,key _ rfl,?_⟩
        rw[hf]
        cases ok
        ·simpa using hzr
        ·simp only[Option.getD_none,Option.isSome_none,if_true,Rep,aG]
         exact⟨[re.zeroV,.bool false],rfl,_,_,rfl,hzr,_,_,rfl,rfl,rfl⟩
       |some lv=>
        obtain⟨j,en,hf,_,hrep,_⟩:=mG (w:=w) (g:=g) xs1 es ents 0 lv m4 hg
        refine⟨_,key _ rfl,?_⟩
        rw[hf]
        cases ok
        ·simpa using hrep
        ·simp only[Option.getD_some,Option.isSome_some,if_true,Rep,aG]
         exact⟨[en.val,.bool true],rfl,_,_,rfl,hrep,_,_,rfl,rfl,rfl⟩
      |_=>simp[hl]at he
     |atom y=>
      cases y with
      |map b=>
       cases b with
       |none=>
        simp only[Option.some.injEq]at he
        subst he
        obtain⟨c1,rfl⟩:=hc
        have E:=(hT k rk hk).eqk _ c1
        simp only[Rep]at h
        subst h
        have hrun:=gM (w:=w) E hlen [] [] rfl sS
        have hchk:=fun em=>E.chk w em xs1 hlen
        refine⟨rfl,(if ok then .tuple #[re.zeroV,.bool false]else re.zeroV),?_,?_⟩
        ·unfold Instr.lookup
         simp only[Sem.run_bind,run_underlying hu,Result.andThen_ok,Sem.run_pure,hchk,hrun,fnd,hz]
        ·cases ok
         ·simpa using hzr
         ·simp only[if_true,Rep,aG]
          exact⟨[re.zeroV,.bool false],rfl,_,_,rfl,hzr,_,_,rfl,rfl,rfl⟩
       |some b=>simp at he
      |_=>simp at he
     |_=>simp at he
theorem eF(h:Inv w g st){l:Nat}{ag:Bool}{ks:List IntKind}{es es':List (List Int×LV)}{ents':List MapEntry}{clock':Nat}(hl:st.H l=.map ag ks es)(h1:∀ p∈es',p.1.length=ks.length)
 (h2:ents'.map (·.key)=es'.map (fun p=>mkV ag ks p.1)) (h3:aG w g (es'.map (·.2)) (ents'.map (·.val))) (h4:∀ x∈ents',x.born<clock') (h5:(ents'.map (·.born)).Nodup):
 Inv { w with heap:=w.heap.setIfInBounds (g.β l) (.map ents'.toArray clock') } g (st.set l (.map ag ks es'))∧Ext w g { w with heap:=w.heap.setIfInBounds (g.β l) (.map ents'.toArray clock') } g:=by
 obtain⟨m0,m1,ents,clock,m2,m3,m4,m5,m6,m7⟩:=h.mp l _ _ es hl
 have hbl:=h.map_blk hl
 have hlt:=(h.mp l _ _ es hl).blk_lt
 have hoth:∀ b,b≠g.β l→(w.heap.setIfInBounds (g.β l) (.map ents'.toArray clock'))[b]?=w.heap[b]?:=by
  intro b hb;rw[Array.getElem?_setIfInBounds,if_neg (Ne.symm hb)]
 have hself:(w.heap.setIfInBounds (g.β l) (.map ents'.toArray clock'))[g.β l]?=some (.map ents'.toArray clock'):=by
  simp[Array.getElem?_setIfInBounds,hlt]
 have he:Ext w g { w with heap:=w.heap.setIfInBounds (g.β l) (.map ents'.toArray clock') } g:=by
  refine⟨rfl,rfl,rfl,sS,Nat.le_refl _,fun _ _=>rfl,fun _ _=>rfl,fun _ _=>rfl,?_,?_⟩
  ·intro b hb hn
   exact⟨hn,hoth b (by rintro rfl;rw[m5]at hn;cases hn)⟩
  ·intro b k hb hk
   refine⟨k,hk,Nat.le_refl _,fun o ho=>?_⟩
   by_cases hb':b=g.β l
   ·subst hb';rw[m5]at hk;injection hk with hk;omega
   ·exact World.cell?_of_block (w:=w) (hoth b hb')
 have hb:∀ x,blk g (st.set l (.map ag ks es')) x↔blk g st x:=by
  intro x
  unfold blk
  simp only[St.set]
  by_cases hx:x=l
  ·subst hx;simp[hl]
  ·rw[if_neg hx]
 have hltn:l<st.next:=by rw[← h.next];exact h.map_lt hl
 refine⟨⟨h.next,h.pos,?_,?_,?_,?_,?_,?_,?_,h.aside.keep he (gC rfl)⟩,he⟩
 ·intro x hx
  simp only[St.set]at hx ⊢
  rw[if_neg oO]
  exact h.fresh x hx
 ·intro x hx;simpa using h.lt x ((hb x).1 hx)
 ·intro x y hx hy;exact h.inj x y ((hb x).1 hx) ((hb y).1 hy)
 ·intro x e' s n hx
  by_cases e0:x=l
  ·simp[St.set,e0]at hx
  ·simp only[St.set,if_neg e0]at hx
   obtain⟨k1,k2,k3,k4⟩:=h.own x e' s n hx
   refine⟨k1,k2,k3,fun hnl=>?_⟩
   obtain⟨cur',q1,q2,q3⟩:=k4 hnl
   have hbx:blk g st x:=by unfold blk;rw[hx];exact hnl
   exact⟨cur',by rw[hoth _ (fun hh=>e0 (h.inj x l hbx hbl hh))];exact q1,q2,q3⟩
 ·intro x e' s' cs'' hx
  by_cases e0:x=l
  ·simp[St.set,e0]at hx
  ·simp only[St.set,if_neg e0]at hx
   obtain⟨q3,q0,q'⟩:=h.box x e' s' cs'' hx
   refine⟨q3,q0,fun hx'=>?_⟩
   obtain⟨cur',q1,q2,q4,q5,q6⟩:=q' hx'
   have hbx:blk g st x:=by unfold blk;rw[hx];exact hx'
   exact⟨cur',by rw[hoth _ (fun hh=>e0 (h.inj x l hbx hbl hh))];exact q1,q2,q4,aG.mono he _ _ q5,q6⟩
 ·intro x ag' ks' es'' hx
  by_cases e0:x=l
  ·simp only[St.set,if_pos e0]at hx
   injection hx with a1 a2 a3
   subst a1 a2 a3 e0
   exact⟨m0,h1,ents',clock',hself,h2,aG.mono he _ _ h3,m5,h4,h5⟩
  ·simp only[St.set,if_neg e0]at hx
   exact(h.mp x _ _ _ hx).keep he (h.map_lt hx) (hoth _ (fun hh=>e0 (h.inj x l (h.map_blk hx) hbl hh))) rfl
 ·intro x e' n hx
  by_cases e0:x=l
  ·simp[St.set,e0]at hx
  ·simp only[St.set,if_neg e0]at hx
   exact(h.qu x _ _ hx).keep he (h.que_lt hx) (hoth _ (fun hh=>e0 (h.inj x l (h.que_blk hx) hbl hh))) rfl
theorem pA{ag:Bool}{ks:List IntKind}{xs1:List Int}(h1:ag=false→ks.length=1)(h2:xs1.length=ks.length):Instr.sameBits 10000 (mkV ag ks xs1) (mkV ag ks xs1)=true:=by
 have hz:∀(ks:List IntKind) (xs1:List Int) (n:Nat),((mkC ks xs1).zip (mkC ks xs1)).all (fun p=>Instr.sameBits n p.1 p.2)=true:=by
  intro ks
  induction ks with
  |nil=>intro xs1 n;simp[mkC]
  |cons k ks ih=>
   intro xs1 n
   cases xs1 with
   |nil=>simp[mkC]
   |cons a xs1=>simp only[mkC,List.zip_cons_cons,List.all_cons,ih,Bool.and_true];cases n<;>simp[Instr.sameBits]
 cases ag with
 |true=>
  simp only[mkV,if_true,Instr.sameBits]
  simpa using hz ks xs1 9999
 |false=>
  have hk:=h1 rfl
  match ks,xs1,hk,h2 with
  |[k],[a],_,_=>simp[mkV,mkC,Instr.sameBits]
theorem pZ{es:List (List Int×LV)}{xs1:List Int}{v:LV}{n:Nat}(h:∀ p∈es,p.1.length=n)(ha:xs1.length=n):∀ p∈aV es xs1 v,p.1.length=n:=by
 induction es with
 |nil=>intro p hp;simp[aV]at hp;subst hp;exact ha
 |cons q es ih=>
  intro p hp
  simp only[aV]at hp
  split at hp
  ·rcases List.mem_cons.1 hp with rfl|hp
   ·exact ha
   ·exact h p (by simp[hp])
  ·rcases List.mem_cons.1 hp with rfl|hp
   ·exact h p sS
   ·exact ih (fun p hp=>h p (by simp[hp])) p hp
theorem uZ{ag:Bool}{ks:List IntKind}{xs1:List Int}{lv:LV}{vv:Value}(c:Nat)(hrep:Rep w g lv vv):∀(es:List (List Int×LV)) (ents:List MapEntry),aY es xs1=none→ents.map (·.key)=es.map (fun p=>mkV ag ks p.1)→aG w g (es.map (·.2)) (ents.map (·.val))→
 (ents++[(⟨mkV ag ks xs1,vv,c⟩:MapEntry)]).map (·.key)=(aV es xs1 lv).map (fun p=>mkV ag ks p.1)∧aG w g ((aV es xs1 lv).map (·.2)) ((ents++[(⟨mkV ag ks xs1,vv,c⟩:MapEntry)]).map (·.val))
 |[],ents,_,h2,h3=>by
  have:ents=[]:=by simpa using h2
  subst this
  simp only[aV,List.nil_append,List.map_cons,List.map_nil,aG]
  exact⟨trivial,_,_,rfl,hrep,rfl⟩
 |p::es,[],_,h2,_=>by simp at h2
 |p::es,e::ents,h1,h2,h3=>by
  simp only[aY]at h1
  split at h1
  ·cases h1
  ·rename_i hne
   simp only[List.map_cons,List.cons.injEq]at h2
   simp only[List.map_cons,aG]at h3
   obtain⟨v,vs,hv,k1,k2⟩:=h3
   injection hv with hv1 hv2
   subst hv1 hv2
   obtain⟨a1,a2⟩:=uZ c hrep es ents h1 h2.2 k2
   simp only[aV,if_neg hne,List.cons_append,List.map_cons,aG,h2.1,a1]
   exact⟨trivial,_,_,rfl,k1,a2⟩
theorem vJ{ag:Bool}{ks:List IntKind}{xs1:List Int}{lv:LV}{vv:Value}(hrep:Rep w g lv vv):∀(es:List (List Int×LV)) (ents:List MapEntry) (i j:Nat) (v0:Value),fnd xs1 es ents i=some (i+j,v0)→ents.map (·.key)=es.map (fun p=>mkV ag ks p.1)→aG w g (es.map (·.2)) (ents.map (·.val))→
 (ents.modify j fun e=>{ e with key:=mkV ag ks xs1,val:=vv }).map (·.key)=(aV es xs1 lv).map (fun p=>mkV ag ks p.1)∧aG w g ((aV es xs1 lv).map (·.2)) ((ents.modify j fun e=>{ e with key:=mkV ag ks xs1,val:=vv }).map (·.val))∧
   (ents.modify j fun e=>{ e with key:=mkV ag ks xs1,val:=vv }).map (·.born)=ents.map (·.born)
 |[],ents,i,j,v0,h1,_,_=>by simp[fnd]at h1
 |p::es,[],i,j,v0,h1,_,_=>by simp[fnd]at h1
 |p::es,e::ents,i,j,v0,h1,h2,h3=>by
  simp only[List.map_cons,List.cons.injEq]at h2
  simp only[List.map_cons,aG]at h3
  obtain⟨v,vs,hv,k1,k2⟩:=h3
  injection hv with hv1 hv2
  subst hv1 hv2
  simp only[fnd]at h1
  split at h1
  ·rename_i hq
   simp only[Option.some.injEq,Prod.mk.injEq]at h1
   obtain rfl:j=0:=oO
   simp only[aV,if_pos hq,List.modify_zero_cons,List.map_cons,aG,h2.2]
   exact⟨trivial,⟨_,_,rfl,hrep,k2⟩,trivial⟩
  ·rename_i hq
   have hj:∃ j',j=j'+1:=by
    cases j with
    |succ j'=>exact⟨j',rfl⟩
    |zero=>
     exfalso
     have:∀(es:List (List Int×LV)) (ents:List MapEntry) (i m:Nat) (v:Value),fnd xs1 es ents i=some (m,v)→i≤m:=by
      intro es
      induction es with
      |nil=>intro ents i m v h;simp[fnd]at h
      |cons p es ih=>
       intro ents i m v h
       cases ents with
       |nil=>simp[fnd]at h
       |cons e ents=>
        simp only[fnd]at h
        split at h
        ·simp at h;omega
        ·have:=ih _ _ _ _ h;omega
     have:=this _ _ _ _ _ h1
     omega
   obtain⟨j',rfl⟩:=hj
   obtain⟨a1,a2,a3⟩:=vJ (ag:=ag) (ks:=ks) hrep es ents (i+1) j' v0 (by rw[h1];congr 2;omega) h2.2 k2
   simp only[aV,if_neg hq,List.modify_succ_cons,List.map_cons,aG,h2.1,a1,a3]
   exact⟨trivial,⟨_,_,rfl,k1,a2⟩,trivial⟩
theorem oW(hT:bC P T)(hi:Inv w g st){t:TypeId}{x i y:LV}{v vi vy:Value}{r:bL}(he:pR T t x i y st=some r)(hc:r.c)(h:Rep w g x v)(hvi:Rep w g i vi)(hvy:Rep w g y vy):
 r.v=.dead∧∃ w',(Instr.mapUpdate t v vi vy).run P w=.ok () w'∧Inv w' g r.s∧Ext w g w' g:=by
 unfold pR at he
 cases hm:gK T t with
 |none=>simp[hm]at he
 |some p=>
  obtain⟨k,e⟩:=p
  simp only[hm]at he
  have hu:=kD hT hm
  cases hk:T k with
  |none=>simp[hk]at he
  |some rk=>
   cases hki:rA i with
   |none=>simp[hk,hki]at he
   |some q=>
    obtain⟨ag,ks,xs1⟩:=q
    simp only[hk,hki]at he
    obtain⟨rfl,hlen⟩:=kL hki hvi
    cases x with
    |mp l=>
     simp only at he
     cases hl:st.H l with
     |map ag' ks' es=>
      simp only[hl,Option.some.injEq]at he
      subst he
      obtain⟨c1,rfl,rfl,rfl⟩:=hc
      have E:=(hT k rk hk).eqk _ c1
      obtain⟨m0,m1,ents,clock,m2,m3,m4,m5,m6,m7⟩:=hi.mp l _ _ es hl
      simp only[Rep]at h
      obtain⟨rfl,_⟩:=h
      have hrun:=gM (w:=w) E hlen es ents m3 m1
      have hchk:=fun em=>E.chk w em xs1 hlen
      refine⟨rfl,?_⟩
      cases hg:aY es xs1 with
      |none=>
       have hf:=mJ xs1 es ents 0 hg
       obtain⟨a1,a2⟩:=uZ (ag:=rk.agg) (ks:=ks') clock hvy es ents hg m3 m4
       obtain⟨b1,b2⟩:=eF (clock':=clock+1) hi hl (pZ m1 hlen) a1 a2 (fun z hz=>by
        rcases List.mem_append.1 hz with hz|hz
        ·have:=m6 z hz;omega
        ·simp at hz;subst hz;simp) (by
        rw[List.map_append,List.nodup_append]
        refine⟨m7,sS,?_⟩
        intro a ha b hb
        simp at hb;subst hb
        obtain⟨z,hz,rfl⟩:=List.mem_map.1 ha
        have:=m6 z hz
        omega)
       refine⟨_,?_,b1,b2⟩
       unfold Instr.mapUpdate
       simp only[Sem.run_bind,run_underlying hu,Result.andThen_ok,MapKept.run_getObj_map m2,hchk,hrun,hf]
       rw[MapKept.run_setObj_map _ m2]
       simp
      |some lv=>
       obtain⟨j,en,hf,hen,hrep,hkey⟩:=mG (w:=w) (g:=g) xs1 es ents 0 lv m4 hg
       obtain⟨a1,a2,a3⟩:=vJ (ag:=rk.agg) (ks:=ks') hvy es ents 0 j en.val hf m3 m4
       obtain⟨b1,b2⟩:=eF (clock':=clock) hi hl (pZ m1 hlen) a1 a2 (fun z hz=>by
        have:z.born∈(ents.map (·.born)):=by rw[← a3];exact List.mem_map.2 ⟨z,hz,rfl⟩
        obtain⟨z',hz',hb⟩:=List.mem_map.1 this
        rw[← hb];exact m6 z' hz') (by rw[a3];exact m7)
       refine⟨_,?_,b1,b2⟩
       have hek:en.key=mkV rk.agg ks' xs1:=by
        have h1:(ents.map (·.key))[j]?=some en.key:=by simp[hen]
        rw[m3,List.getElem?_map]at h1
        cases hej:es[j]? with
        |none=>simp[hej]at hkey
        |some q=>simp[hej]at hkey h1;rw[← h1,hkey]
       unfold Instr.mapUpdate
       simp only[Sem.run_bind,run_underlying hu,Result.andThen_ok,MapKept.run_getObj_map m2,hchk,hrun,hf]
       have hst:(Instr.keyThatStays (((ents.toArray[0+j]?).map (·.key)).getD (mkV rk.agg ks' xs1)) (mkV rk.agg ks' xs1)).run P w=.ok (mkV rk.agg ks' xs1) w:=by
        have:(((ents.toArray[0+j]?).map (·.key)).getD (mkV rk.agg ks' xs1))=mkV rk.agg ks' xs1:=by simp[hen,hek]
        rw[this]
        unfold Instr.keyThatStays
        rw[pA E.one hlen]
        simp
       rw[hst]
       simp only[Result.andThen_ok]
       rw[MapKept.run_setObj_map _ m2]
       simp
     |_=>simp[hl]at he
    |_=>simp at he
theorem sD{xs1:List Int}:∀(es:List (List Int×LV)),aY es xs1=none→tY es xs1=es
 |[],_=>rfl
 |p::es,h=>by
  simp only[aY]at h
  split at h
  ·cases h
  ·rename_i hne
   simp only[tY,if_neg hne,sD es h]
theorem vS{xs1:List Int}{p:List Int×LV}:∀(es:List (List Int×LV)),p∈tY es xs1→p∈es
 |[],h=>h
 |q::es,h=>by
  simp only[tY]at h
  split at h
  ·exact List.mem_cons_of_mem _ h
  ·rcases List.mem_cons.1 h with rfl|h
   ·exact List.mem_cons_self
   ·exact List.mem_cons_of_mem _ (vS es h)
theorem aDV{ag:Bool}{ks:List IntKind}{xs1:List Int}:∀(es:List (List Int×LV)) (ents:List MapEntry) (i j:Nat) (v0:Value),fnd xs1 es ents i=some (i+j,v0)→ents.map (·.key)=es.map (fun p=>mkV ag ks p.1)→aG w g (es.map (·.2)) (ents.map (·.val))→
 (ents.eraseIdx j).map (·.key)=(tY es xs1).map (fun p=>mkV ag ks p.1)∧aG w g ((tY es xs1).map (·.2)) ((ents.eraseIdx j).map (·.val))∧j<ents.length
 |[],ents,i,j,v0,h1,_,_=>by simp[fnd]at h1
 |p::es,[],i,j,v0,h1,_,_=>by simp[fnd]at h1
 |p::es,e::ents,i,j,v0,h1,h2,h3=>by
  simp only[List.map_cons,List.cons.injEq]at h2
  simp only[List.map_cons,aG]at h3
  obtain⟨v,vs,hv,k1,k2⟩:=h3
  injection hv with hv1 hv2
  subst hv1 hv2
  simp only[fnd]at h1
  split at h1
  ·rename_i hq
   simp only[Option.some.injEq,Prod.mk.injEq]at h1
   obtain rfl:j=0:=oO
   simp only[tY,if_pos hq,List.eraseIdx_zero,List.tail_cons]
   exact⟨h2.2,k2,sS⟩
  ·rename_i hq
   have hj:∃ j',j=j'+1:=by
    cases j with
    |succ j'=>exact⟨j',rfl⟩
    |zero=>
     exfalso
     have:∀(es:List (List Int×LV)) (ents:List MapEntry) (i m:Nat) (v:Value),fnd xs1 es ents i=some (m,v)→i≤m:=by
      intro es
      induction es with
      |nil=>intro ents i m v h;simp[fnd]at h
      |cons p es ih=>
       intro ents i m v h
       cases ents with
       |nil=>simp[fnd]at h
       |cons e ents=>
        simp only[fnd]at h
        split at h
        ·simp at h;omega
        ·have:=ih _ _ _ _ h;omega
     have:=this _ _ _ _ _ h1
     omega
   obtain⟨j',rfl⟩:=hj
   obtain⟨a1,a2,a3⟩:=aDV (ag:=ag) (ks:=ks) es ents (i+1) j' v0 (by rw[h1];congr 2;omega) h2.2 k2
   simp only[tY,if_neg hq,List.eraseIdx_cons_succ,List.map_cons,aG,h2.1,a1,List.length_cons]
   exact⟨trivial,⟨_,_,rfl,k1,a2⟩,oO⟩
theorem aBi(hT:bC P T)(hi:Inv w g st){t kt ty:TypeId}{x i:LV}{v vi:Value}{r:bL}(he:uB T t x i st=some r)(hc:r.c)(h:Rep w g x v)(hvi:Rep w g i vi):
 r.v=.tu []∧∃ w',(Builtin.delete_ #[t,kt] ty #[v,vi]).run P w=.ok (.tuple #[]) w'∧Inv w' g r.s∧Ext w g w' g:=by
 unfold uB at he
 cases hm:gK T t with
 |none=>simp[hm]at he
 |some p=>
  obtain⟨k,e⟩:=p
  simp only[hm]at he
  have hu:=kD hT hm
  cases hk:T k with
  |none=>simp[hk]at he
  |some rk=>
   cases hki:rA i with
   |none=>simp[hk,hki]at he
   |some q=>
    obtain⟨ag,ks,xs1⟩:=q
    simp only[hk,hki]at he
    obtain⟨rfl,hlen⟩:=kL hki hvi
    cases x with
    |mp l=>
     simp only at he
     cases hl:st.H l with
     |map ag' ks' es=>
      simp only[hl,Option.some.injEq]at he
      subst he
      obtain⟨c1,rfl,rfl,rfl⟩:=hc
      have E:=(hT k rk hk).eqk _ c1
      obtain⟨m0,m1,ents,clock,m2,m3,m4,m5,m6,m7⟩:=hi.mp l _ _ es hl
      simp only[Rep]at h
      obtain⟨rfl,_⟩:=h
      have hrun:=gM (w:=w) E hlen es ents m3 m1
      have hchk:=fun em=>E.chk w em xs1 hlen
      refine⟨rfl,?_⟩
      cases hg:aY es xs1 with
      |none=>
       have hf:=mJ xs1 es ents 0 hg
       obtain⟨b1,b2⟩:=eF (ents':=ents) (clock':=clock) hi hl (es':=tY es xs1) (fun p hp=>m1 p (vS es hp)) (by rw[sD es hg];exact m3) (by rw[sD es hg];exact m4) m6 m7
       refine⟨_,?_,b1,b2⟩
       unfold Builtin.delete_
       simp[Sem.run_bind,run_underlying hu,Result.andThen_ok,MapKept.run_getObj_map m2,hchk,hrun,hf]
       rw[MapKept.run_setObj_map _ m2]
       simp
      |some lv=>
       obtain⟨j,en,hf,hen,hrep,hkey⟩:=mG (w:=w) (g:=g) xs1 es ents 0 lv m4 hg
       obtain⟨a1,a2,a3⟩:=aDV (ag:=rk.agg) (ks:=ks') es ents 0 j en.val hf m3 m4
       have hsub:(ents.eraseIdx j).Sublist ents:=List.eraseIdx_sublist ents j
       obtain⟨b1,b2⟩:=eF (ents':=ents.eraseIdx j) (clock':=clock) hi hl (es':=tY es xs1) (fun p hp=>m1 p (vS es hp)) a1 a2 (fun z hz=>m6 z (hsub.subset hz)) (m7.sublist (hsub.map _))
       refine⟨_,?_,b1,b2⟩
       unfold Builtin.delete_
       simp[Sem.run_bind,run_underlying hu,Result.andThen_ok,MapKept.run_getObj_map m2,hchk,hrun,hf]
       rw[MapKept.run_setObj_map _ m2]
       simp
     |_=>simp[hl]at he
    |_=>simp at he
theorem aFk(h:Inv w g st)(ag:Bool)(ks:List IntKind):Inv (w.alloc (.map #[] 0)) (g.add w.heap.size 0 0 false) (st.new (.map ag ks [])):=by
 have he:=cV w g (.map #[] 0) 0 0 false
 have hn:=h.next
 refine⟨by simp[G.add,St.new,hn],by simp[St.new],?_,?_,?_,?_,?_,?_,?_,h.aside.keep he (kN rfl)⟩
 ·intro l hl
  simp only[St.new]at hl ⊢
  rw[if_neg oO]
  exact h.fresh l oO
 ·intro l hl
  by_cases e0:l=st.next
  ·subst e0;simp[G.add,hn]
  ·rw[cJ hn e0]at hl
   have:=h.lt l hl
   simp only[G.add,hn,if_neg e0]
   simp;omega
 ·intro l l' hl hl' hb
  by_cases e0:l=st.next<;>by_cases e1:l'=st.next
  ·omega
  ·rw[cJ hn e1]at hl'
   have:=h.lt l' hl'
   simp only[G.add,hn,if_pos e0,if_neg e1]at hb
   omega
  ·rw[cJ hn e0]at hl
   have:=h.lt l hl
   simp only[G.add,hn,if_pos e1,if_neg e0]at hb
   omega
  ·rw[cJ hn e0]at hl
   rw[cJ hn e1]at hl'
   simp only[G.add,hn,if_neg e1,if_neg e0]at hb
   exact h.inj l l' hl hl' hb
 ·intro l e' s n hl
  by_cases e0:l=st.next
  ·simp[St.new,e0]at hl
  ·simp only[St.new,if_neg e0]at hl
   obtain⟨h1,h2,h3,h4⟩:=h.own l e' s n hl
   simp only[G.add,hn,if_neg e0]
   refine⟨h1,h2,h3,fun hnl=>?_⟩
   obtain⟨cur,k1,k2,k3⟩:=h4 hnl
   have hlt:g.β l<w.heap.size:=(Array.getElem?_eq_some_iff.1 k1).1
   exact⟨cur,by rw[heap_alloc_old w _ _ hlt];exact k1,k2,by rw[if_neg oO];exact k3⟩
 ·intro l e' s' cs' hl
  by_cases e0:l=st.next
  ·simp[St.new,e0]at hl
  ·simp only[St.new,if_neg e0]at hl
   obtain⟨k3,k0,k'⟩:=h.box l e' s' cs' hl
   refine⟨?_,?_,fun hnl=>?_⟩
   ·simp only[G.add,hn,if_neg e0];exact k3
   ·simp only[G.add,hn,if_neg e0];exact k0
   simp only[G.add,hn,if_neg e0]at hnl
   obtain⟨cur',k1,k2,k4,k5,k6⟩:=k' hnl
   have hlt:g.β l<w.heap.size:=(Array.getElem?_eq_some_iff.1 k1).1
   refine⟨cur',?_,?_,k4,aG.mono he _ _ k5,?_⟩
   ·simp only[G.add,hn,if_neg e0];rw[heap_alloc_old w _ _ hlt];exact k1
   ·simp only[G.add,hn,if_neg e0];exact k2
   ·simp only[G.add,hn,if_neg e0];rw[if_neg oO];exact k6
 ·intro l ag' ks' es hl
  by_cases e0:l=st.next
  ·simp only[St.new,if_pos e0]at hl
   injection hl with a1 a2 a3
   subst a1 a2 a3
   refine⟨by simp[G.add,hn,e0],sS,[],0,?_,rfl,by simp[aG],by simp[G.add,hn,e0],sS,sS⟩
   simp only[G.add,hn,if_pos e0];exact heap_alloc_new w _
  ·simp only[St.new,if_neg e0]at hl
   have hm:=h.mp l _ _ es hl
   have hlt:=hm.blk_lt
   exact hm.keep he (h.map_lt hl) (heap_alloc_old w _ _ hlt) (by simp only[G.add];rw[if_neg oO])
 ·intro l e' n hl
  by_cases e0:l=st.next
  ·simp[St.new,e0]at hl
  ·simp only[St.new,if_neg e0]at hl
   have hm:=h.qu l e' n hl
   have hlt:=hm.blk_lt
   exact hm.keep he (h.que_lt hl) (heap_alloc_old w _ _ hlt) (by simp only[G.add];rw[if_neg oO])
theorem yV(hT:bC P T)(hi:Inv w g st){t:TypeId}{rs:Option LV}{vr:Option Value}{r:bL}(he:pL T t rs st=some r)(hvr:∀ x,rs=some x→∃ v,vr=some v∧Rep w g x v)(hvn:rs=none→vr=none):
 ∃ u w' g',(Instr.makeMap t vr).run P w=.ok u w'∧Rep w' g' r.v u∧Inv w' g' r.s∧Ext w g w' g':=by
 unfold pL at he
 cases hm:gK T t with
 |none=>simp[hm]at he
 |some p=>
  obtain⟨k,e⟩:=p
  simp only[hm]at he
  have hu:=kD hT hm
  cases hk:T k with
  |none=>simp[hk]at he
  |some rk=>
   simp only[hk]at he
   cases hck:rk.ck with
   |none=>simp[hck]at he
   |some ks=>
    simp only[hck]at he
    have key:r=⟨True,.mp st.next,st.new (.map rk.agg ks [])⟩→(∃ w',w'=w∧(Instr.makeMap t vr).run P w=.ok (.map (some w.heap.size)) (w'.alloc (.map #[] 0)))→∃ u w' g',(Instr.makeMap t vr).run P w=.ok u w'∧Rep w' g' r.v u∧Inv w' g' r.s∧Ext w g w' g':=by
     rintro rfl ⟨_,rfl,hrun⟩
     refine⟨_,_,_,hrun,?_,aFk hi rk.agg ks,cV _ _ _ _ _ _⟩
     simp only[Rep,G.add,hi.next,if_pos]
     exact⟨trivial,Nat.lt_succ_self _⟩
    split at he
    ·simp only[Option.some.injEq]at he
     refine key he.symm ⟨w,rfl,?_⟩
     rw[hvn rfl]
     simp[Instr.makeMap]
    ·rename_i kk nn
     simp only[Option.some.injEq]at he
     refine key he.symm ⟨w,rfl,?_⟩
     obtain⟨vv,rfl,hv⟩:=hvr _ rfl
     simp only[Rep]at hv
     subst hv
     first|(simp[Instr.makeMap,run_underlying hu];done)|simp[Instr.makeMap,run_underlying hu,asInt,asIntOf]
    ·simp at he
theorem aCP{t:Nat}{r:bG}(h:aX P t r){ks:List IntKind}(hck:r.ck=some ks)(ha:r.agg=true){xs1 bs:List Int}(h1:xs1.length=ks.length)(h2:bs.length=ks.length)(ox oy:Operand)(op:BinOp)(neg:Bool)(hop:(op=.eql∧neg=false)∨(op=.neq∧neg=true)):
 (do eqGuard op t ox oy (mkV true ks xs1) (mkV true ks bs);binOp op t (mkV true ks xs1) (mkV true ks bs):Sem Value).run P w=.ok (.bool ((xs1==bs) != neg)) w:=by
 have E:=h.eqk ks hck
 rw[ha]at E
 have hq:=E.eq w xs1 bs h1 h2
 have hg:=E.guard rfl
 simp only[mkV,if_true]at hq ⊢
 rw[Sem.run_bind,run_eqGuard_agg w op t ox oy _ _ hg]
 simp only[Result.andThen_ok]
 rcases hop with⟨rfl,rfl⟩|⟨rfl,rfl⟩
 ·simp only[binOp,Sem.run_bind,hq,Result.andThen_ok,Sem.run_pure]
  simp
 ·simp only[binOp,Sem.run_bind,hq,Result.andThen_ok,Sem.run_pure]
  simp
theorem nH{t:Nat}{k:IntKind}(h:P.underlying t=some (.int k))(w:World)(em:Bool)(a:Int):(Instr.checkKey em 9999 t (.int k a)).run P w=.ok () w:=by
 rw[show(9999:Nat)=9998+1 from rfl]
 unfold Instr.checkKey
 simp[run_underlying h]
theorem fA{t:Nat}{k:IntKind}(h:P.underlying t=some (.int k)):aAQ P t false [k]:=by
 refine⟨fun w xs1 bs h1 h2=>?_,fun w em xs1 h1=>?_,(fun h=>by cases h),fun _=>rfl,_,h,.inl fun xs1 bs h1 h2=>?_⟩
 ·match xs1,bs,h1,h2 with
  |[a],[b],_,_=>
   have:=run_equalIn_int (P:=P) w 9999 t k k a b h
   simp only[mkV,mkC,Bool.false_eq_true,if_false,List.headD_cons]
   unfold Op.equal Op.maxDepth
   rw[this]
   simp
 ·match xs1,h1 with
  |[a],_=>
   simp only[mkV,mkC,Bool.false_eq_true,if_false,List.headD_cons]
   unfold Instr.checkKey
   simp[run_underlying h]
 ·match xs1,bs,h1,h2 with
  |[a],[b],_,_=>simp[mkV,mkC,Instr.sameNow]
end
end Go.Proofs.YtempldclppogmaaGreatDoor.Aw
