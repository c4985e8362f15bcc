/- Maps: what a look-up, an update, a new one do; '==' of structs. No program is named here. -/
import Derived.Test.YtbgngpdonpeboaaGreatDoorAwSound2
import Derived.MapKept
import Derived.Laws.StructEq
set_option linter.unusedVariables false
set_option linter.unusedSimpArgs false
namespace Go.Proofs.YtbgngpdonpeboaaGreatDoor
namespace Aw
open Go Go.RowKit
section
variable {P:Program} {T:Tab} {w:World} {g:G} {st:St}
theorem mI:∀(cs:List LV) (vs:List Value) (ks:List IntKind) (ns:List Int),iR cs=some (ks,ns)->aC w g cs vs->vs=mkC ks ns/\ns.length=ks.length
 |[],vs,ks,ns,h,hr=>by simp only[iR,aAb,aBd]at h;obtain⟨rfl,rfl⟩:=h;simp only[aC]at hr;exact⟨hr,rfl⟩
 |c::cs,vs,ks,ns,h,hr=>by
  simp only[aC]at hr;obtain⟨v,vs',rfl,h1,h2⟩:=hr;cases c with
  |atom x=>
   cases x with
   |int k n=>
    simp only[iR]at h;cases hi:iR cs with
    |none=>grind
    |some p=>obtain⟨V5,ns'⟩:=p;simp only[hi,aAb,aBd]at h;obtain⟨rfl,rfl⟩:=h;obtain⟨k1,k2⟩:=mI cs vs' V5 ns' hi h2;simp only[Rep]at h1;exact⟨by rw[h1,k1];rfl,by grind⟩
   |_=>simp[iR]at h
  |_=>simp[iR]at h
theorem tT{x:LV}{v:Value}{ag:Bool}{ks:List IntKind}{o7:List Int}(h:zG x=some (ag,ks,o7))(hr:Rep w g x v):v=mkV ag ks o7/\o7.length=ks.length:=by
 cases x with
 |atom y=>
  cases y with
  |int k n=>simp only[zG,aAb,aBd]at h;obtain⟨rfl,rfl,rfl⟩:=h;simp only[Rep]at hr;exact⟨by rw[hr];rfl,rfl⟩
  |_=>simp[zG]at h
 |ag cs=>
  simp only[zG]at h;cases hi:iR cs with
  |none=>grind
  |some p=>obtain⟨V5,ns'⟩:=p;simp only[hi,aAb,aBd]at h;obtain⟨rfl,rfl,rfl⟩:=h;simp only[Rep]at hr;obtain⟨vs,rfl,hr⟩:=hr;obtain⟨k1,k2⟩:=mI cs vs _ _ hi hr;exact⟨by rw[k1];rfl,k2⟩
 |_=>simp[zG]at h
def fnd(o7:List Int):List (List Int×LV)->List MapEntry->Nat->Option (Nat×Value)
 |p::es,e::cO,i=>if o7==p.1 then some (i,e.val)else fnd o7 es cO (i+1)
 |_,_,_=>none
theorem mP{t:Nat}{ag:Bool}{ks:List IntKind}(E:BU P t ag ks){o7:List Int}(ha:o7.length=ks.length)(es:List (List Int×LV))(cO:List MapEntry)(hk:cO.map (·.key)=es.map (fun p=>mkV ag ks p.1))(hl:∀ p∈es,p.1.length=ks.length):
 (Instr.findKey t (mkV ag ks o7) cO).run P w=.ok (fnd o7 es cO 0) w:=by
 obtain⟨d,hd,hn⟩:=E.now;have ask:∀(es:List (List Int×LV)) (cO:List MapEntry) (i:Nat),cO.map (·.key)=es.map (fun p=>mkV ag ks p.1)->(∀ p∈es,p.1.length=ks.length)->(Instr.findAsking t (mkV ag ks o7) cO i).run P w=.ok (fnd o7 es cO i) w:=by
  intro es;induction es with
  |nil=>intro cO i h1 _;cases cO with|nil=>simp[Instr.findAsking,fnd]|cons e cO=>grind
  |cons p es ih=>
   intro cO i h1 h2;cases cO with
   |nil=>grind
   |cons e cO=>
    simp only[aAm,aBw]at h1;have hq:=E.eq w o7 p.1 ha (h2 p sS)
    grind [Instr.findAsking,Sem.run_bind,Result.andThen_ok,Sem.run_pure,fnd]
 rcases hn with hn|hn
 .have now:∀(es:List (List Int×LV)) (cO:List MapEntry) (i:Nat),cO.map (·.key)=es.map (fun p=>mkV ag ks p.1)->(∀ p∈es,p.1.length=ks.length)->Instr.findNow d (mkV ag ks o7) cO i=some (fnd o7 es cO i):=by
   intro es;induction es with
   |nil=>intro cO i h1 _;cases cO with|nil=>simp[Instr.findNow,fnd]|cons e cO=>grind
   |cons p es ih=>
    intro cO i h1 h2;cases cO with
    |nil=>grind
    |cons e cO=>
     grind [Instr.findNow,fnd]
  grind [MapKept.run_findKey]
 .cases es with
  |nil=>cases cO with|nil=>simp[Instr.findKey,run_underlying hd,Instr.findNow,fnd]|cons e cO=>grind
  |cons p es=>
   cases cO with
   |nil=>grind
   |cons e cO=>
    have P0:=hk;simp only[aAm,aBw]at hk;have hq:=hn o7 p.1 ha (hl p sS);have:Instr.findNow d (mkV ag ks o7) (e::cO) 0=none:=by simp[Instr.findNow,hk.1,hq]
    simp only[Instr.findKey,Sem.run_bind,run_underlying hd,Result.andThen_ok,this]
    grind
theorem vC(o7:List Int):∀(es:List (List Int×LV)) (cO:List MapEntry) (i:Nat),bS es o7=none->fnd o7 es cO i=none
 |[],cO,i,_=>by simp[fnd]
 |p::es,[],i,_=>by simp[fnd]
 |p::es,e::cO,i,h=>by
  simp only[bS]at h
  split at h
  .cases h
  .rename_i c7;simp only[fnd,aAa c7];exact vC o7 es cO (i+1) h
theorem uS(o7:List Int):∀(es:List (List Int×LV)) (cO:List MapEntry) (i:Nat) (lv:LV),aC w g (es.map (·.2)) (cO.map (·.val))->bS es o7=some lv->∃ j e,fnd o7 es cO i=some (i+j,e.val)/\cO[j]?=some e/\Rep w g lv e.val/\(es[j]?).map (·.1)=some o7
 |[],cO,i,lv,_,h=>by grind [bS]
 |p::es,[],i,lv,hr,h=>by grind [aC]
 |p::es,e::cO,i,lv,hr,h=>by
  simp only[aAm,aC]at hr;obtain⟨v,vs,hv,h1,h2⟩:=hr;injection hv with hv1 hv2;subst hv1 hv2;simp only[bS]at h
  split at h
  .rename_i hq;injection h with h;subst h;exact⟨0,e,by grind [fnd],rfl,h1,by grind⟩
  .rename_i hq;obtain⟨j,e',k1,k2,k3,k4⟩:=uS o7 es cO (i+1) lv h2 h;exact⟨j+1,e',by grind [fnd],by grind,k3,by grind⟩
theorem OK{t:Nat}{r:bK}(h:bE P t r):Rep w g (BO r) r.zeroV:=by
 unfold BO bK.zeroV;cases ha:r.agg with
 |true=>grind [Rep,cL]
 |false=>
  simp only[aBg,aBS];have h1:=h.one ha;have h2:=h.zl;cases hz:r.zero with
  |nil=>grind
  |cons z zs=>grind [hdL,tV]
theorem FN(hT:aZ P T)(hi:Inv w g st){t:TypeId}{x i:LV}{v vi:Value}{ok:Bool}{r:bR}(he:vU T t x i ok st=some r)(hc:r.c)(h:Rep w g x v)(hvi:Rep w g i vi):
 r.s=st/\∃ u,(Instr.lookup t v vi ok).run P w=.ok u w/\Rep w g r.v u:=by
 unfold vU at he;cases hm:kW T t with
 |none=>grind
 |some p=>
  obtain⟨k,e⟩:=p;simp only[hm]at he;have hu:=rP hT hm;cases hk:T k with
  |none=>grind
  |some rk=>
   cases Q8:T e with
   |none=>grind
   |some re=>
    cases hki:zG i with
    |none=>grind
    |some q=>
     obtain⟨ag,ks,o7⟩:=q;simp only[hk,Q8,hki]at he;obtain⟨rfl,hlen⟩:=tT hki hvi;have hz:=(hT e re Q8).zeroValue w;have hzr:=OK (w:=w) (g:=g) (hT e re Q8);cases x with
     |mp l=>
      simp only at he;cases hl:st.H l with
      |map ag' V5 es=>
       simp only[hl,aAb]at he;subst he;obtain⟨c1,rfl,rfl,rfl⟩:=hc;have E:=(hT k rk hk).eqk _ c1;obtain⟨_,m1,cO,clock,m2,m3,m4,m5,m6,m7⟩:=hi.mp l _ _ es hl;simp only[Rep]at h;obtain⟨rfl,_⟩:=h;have o9:=mP (w:=w) E hlen es cO m3 m1;have hchk:=fun em=>E.chk w em o7 hlen;refine⟨rfl,?_⟩;have key:∀ fv:Value×Bool,(match fnd o7 es cO 0 with|some (_,v)=>(v,true)|none=>(re.zeroV,false))=fv->(Instr.lookup t (.map (some (g.β l))) (mkV rk.agg V5 o7) ok).run P w=.ok (if ok then .tuple #[fv.1,.bool fv.2]else fv.1) w:=by
        intro fv hfv;unfold Instr.lookup;simp only[Sem.run_bind,run_underlying hu,Result.andThen_ok,MapKept.run_getObj_map m2,Sem.run_pure,hchk,o9];cases hf:fnd o7 es cO 0 with
        |none=>rw[hf]at hfv;subst hfv;simp_all
        |some q=>simp_all
       cases hg:bS es o7 with
       |none=>
        grind [vC,Rep,aC]
       |some lv=>
        obtain⟨j,en,hf,_,K9,_⟩:=uS (w:=w) (g:=g) o7 es cO 0 lv m4 hg
        grind [Rep,aC]
      |_=>grind
     |atom y=>
      cases y with
      |map b=>
       cases b with
       |none=>
        simp only[aAb]at he;subst he;obtain⟨c1,rfl⟩:=hc;have E:=(hT k rk hk).eqk _ c1;simp only[Rep]at h;subst h;have o9:=mP (w:=w) E hlen [] [] rfl sS;have hchk:=fun em=>E.chk w em o7 hlen;refine⟨rfl,(if ok then .tuple #[re.zeroV,.bool false]else re.zeroV),?_,?_⟩
        .unfold Instr.lookup;simp only[Sem.run_bind,run_underlying hu,Result.andThen_ok,Sem.run_pure,hchk,o9,fnd,hz]
        grind [Rep,aC]
       |some b=>grind
      |_=>simp at he
     |_=>simp at he
theorem oS(h:Inv w g st){l:Nat}{ag:Bool}{ks:List IntKind}{es es':List (List Int×LV)}{S6:List MapEntry}{clock':Nat}(hl:st.H l=.map ag ks es)(h1:∀ p∈es',p.1.length=ks.length)
 (h2:S6.map (·.key)=es'.map (fun p=>mkV ag ks p.1)) (h3:aC w g (es'.map (·.2)) (S6.map (·.val))) (h4:∀ x∈S6,x.born<clock') (h5:(S6.map (·.born)).Nodup):
 Inv { w with heap:=w.heap.setIfInBounds (g.β l) (.map S6.toArray clock') } g (st.set l (.map ag ks es'))/\Ext w g { w with heap:=w.heap.setIfInBounds (g.β l) (.map S6.toArray clock') } g:=by
 obtain⟨m0,m1,cO,clock,m2,m3,m4,m5,m6,m7⟩:=h.mp l _ _ es hl;have U4:=h.map_blk hl;have dA:=(h.mp l _ _ es hl).blk_lt;have W0:∀ b,b≠g.β l->(w.heap.setIfInBounds (g.β l) (.map S6.toArray clock'))[b]?=w.heap[b]?:=by intro b hb;rw[aBD,aAa (aCE hb)]
 have hself:(w.heap.setIfInBounds (g.β l) (.map S6.toArray clock'))[g.β l]?=some (.map S6.toArray clock'):=by simp[aBD,dA]
 have he:Ext w g { w with heap:=w.heap.setIfInBounds (g.β l) (.map S6.toArray clock') } g:=by
  refine⟨rfl,rfl,rfl,sS,aAl _,fun _ _=>rfl,fun _ _=>rfl,fun _ _=>rfl,?_,?_⟩
  .grind
  .grind [World.cell?_of_block]
 have hb:∀ x,blk g (st.set l (.map ag ks es')) x↔blk g st x:=by
  intro x;unfold blk;simp only[St.set];by_cases hx:x=l
  .grind
  .grind
 have hltn:l<st.next:=by rw[<- h.next];exact h.map_lt hl
 refine⟨⟨h.next,h.pos,?_,?_,?_,?_,?_,?_,?_,h.aside.keep he (jJ rfl)⟩,he⟩
 .intro x hx;simp only[St.set]at hx ⊢;rw[aAa oO];exact h.fresh x hx
 .intro x hx;simpa using h.lt x ((hb x).1 hx)
 .intro x y hx hy;exact h.inj x y ((hb x).1 hx) ((hb y).1 hy)
 .intro x e' s n hx;by_cases e0:x=l
  .grind [St.set]
  .simp only[St.set,aAa e0]at hx;obtain⟨k1,k2,k3,k4⟩:=h.own x e' s n hx
   grind
 .intro x e' s' cs'' hx;by_cases e0:x=l
  .grind [St.set]
  .simp only[St.set,aAa e0]at hx;obtain⟨q3,q0,q'⟩:=h.box x e' s' cs'' hx
   grind [aC.mono]
 .intro x ag' V5 es'' hx;by_cases e0:x=l
  .simp only[St.set,aAj e0]at hx;injection hx with a1 a2 a3;subst a1 a2 a3 e0;exact⟨m0,h1,S6,clock',hself,h2,aC.mono he _ _ h3,m5,h4,h5⟩
  .simp only[St.set,aAa e0]at hx;exact(h.mp x _ _ _ hx).keep he (h.map_lt hx) (W0 _ (fun hh=>e0 (h.inj x l (h.map_blk hx) U4 hh))) rfl
 .intro x e' n hx;by_cases e0:x=l
  .grind [St.set]
  .simp only[St.set,aAa e0]at hx;exact(h.qu x _ _ hx).keep he (h.que_lt hx) (W0 _ (fun hh=>e0 (h.inj x l (h.que_blk hx) U4 hh))) rfl
theorem Ex{ag:Bool}{ks:List IntKind}{o7:List Int}(h1:ag=false->ks.length=1)(h2:o7.length=ks.length):Instr.sameBits 10000 (mkV ag ks o7) (mkV ag ks o7)=true:=by
 have hz:∀(ks:List IntKind) (o7:List Int) (n:Nat),((mkC ks o7).zip (mkC ks o7)).all (fun p=>Instr.sameBits n p.1 p.2)=true:=by
  intro ks;induction ks with
  |nil=>intro o7 n;simp[mkC]
  |cons k ks ih=>
   intro o7 n;cases o7 with
   |nil=>simp[mkC]
   |cons a o7=>simp only[mkC,List.zip_cons_cons,List.all_cons,ih,Bool.and_true];grind [Instr.sameBits]
 cases ag with
 |true=>simp only[mkV,aBs,Instr.sameBits];simpa using hz ks o7 9999
 |false=>
  have hk:=h1 rfl
  match ks,o7,hk,h2 with
  |[k],[a],_,_=>simp[mkV,mkC,Instr.sameBits]
theorem Gz{es:List (List Int×LV)}{o7:List Int}{v:LV}{n:Nat}(h:∀ p∈es,p.1.length=n)(ha:o7.length=n):∀ p∈bV es o7 v,p.1.length=n:=by
 induction es with
 |nil=>grind [bV]
 |cons q es ih=>
  grind [bV]
theorem HK{ag:Bool}{ks:List IntKind}{o7:List Int}{lv:LV}{vv:Value}(c:Nat)(K9:Rep w g lv vv):∀(es:List (List Int×LV)) (cO:List MapEntry),bS es o7=none->cO.map (·.key)=es.map (fun p=>mkV ag ks p.1)->aC w g (es.map (·.2)) (cO.map (·.val))->
 (cO++[(⟨mkV ag ks o7,vv,c⟩:MapEntry)]).map (·.key)=(bV es o7 lv).map (fun p=>mkV ag ks p.1)/\aC w g ((bV es o7 lv).map (·.2)) ((cO++[(⟨mkV ag ks o7,vv,c⟩:MapEntry)]).map (·.val))
 |[],cO,_,h2,h3=>by
  grind [bV,aC]
 |p::es,[],_,h2,_=>by grind
 |p::es,e::cO,h1,h2,h3=>by
  simp only[bS]at h1
  split at h1
  .grind
  .rename_i c7;simp only[aAm,aBw]at h2;simp only[aAm,aC]at h3;obtain⟨v,vs,hv,k1,k2⟩:=h3;injection hv with hv1 hv2;subst hv1 hv2;obtain⟨a1,a2⟩:=HK c K9 es cO h1 h2.2 k2
   grind [bV,aC]
theorem IE{ag:Bool}{ks:List IntKind}{o7:List Int}{lv:LV}{vv:Value}(K9:Rep w g lv vv):∀(es:List (List Int×LV)) (cO:List MapEntry) (i j:Nat) (v0:Value),fnd o7 es cO i=some (i+j,v0)->cO.map (·.key)=es.map (fun p=>mkV ag ks p.1)->aC w g (es.map (·.2)) (cO.map (·.val))->
 (cO.modify j fun e=>{ e with key:=mkV ag ks o7,val:=vv }).map (·.key)=(bV es o7 lv).map (fun p=>mkV ag ks p.1)/\aC w g ((bV es o7 lv).map (·.2)) ((cO.modify j fun e=>{ e with key:=mkV ag ks o7,val:=vv }).map (·.val))/\
   (cO.modify j fun e=>{ e with key:=mkV ag ks o7,val:=vv }).map (·.born)=cO.map (·.born)
 |[],cO,i,j,v0,h1,_,_=>by grind [fnd]
 |p::es,[],i,j,v0,h1,_,_=>by grind
 |p::es,e::cO,i,j,v0,h1,h2,h3=>by
  simp only[aAm,aBw]at h2;simp only[aAm,aC]at h3;obtain⟨v,vs,hv,k1,k2⟩:=h3;injection hv with hv1 hv2;subst hv1 hv2;simp only[fnd]at h1
  split at h1
  .rename_i hq;simp only[aAb,aBd]at h1
   grind [bV,aC]
  .rename_i hq;have hj:∃ j',j=j'+1:=by
    cases j with
    |succ j'=>grind
    |zero=>
     exfalso;have:∀(es:List (List Int×LV)) (cO:List MapEntry) (i m:Nat) (v:Value),fnd o7 es cO i=some (m,v)->i<=m:=by
      intro es;induction es with
      |nil=>grind [fnd]
      |cons p es ih=>
       intro cO i m v h;cases cO with
       |nil=>grind [fnd]
       |cons e cO=>
        grind [fnd]
     grind
   obtain⟨j',rfl⟩:=hj;obtain⟨a1,a2,a3⟩:=IE (ag:=ag) (ks:=ks) K9 es cO (i+1) j' v0 (by rw[h1];grind) h2.2 k2
   grind [bV,aC]
theorem uY(hT:aZ P T)(hi:Inv w g st){t:TypeId}{x i y:LV}{v vi vy:Value}{r:bR}(he:uM T t x i y st=some r)(hc:r.c)(h:Rep w g x v)(hvi:Rep w g i vi)(hvy:Rep w g y vy):
 r.v=.dead/\∃ w',(Instr.mapUpdate t v vi vy).run P w=.ok () w'/\Inv w' g r.s/\Ext w g w' g:=by
 unfold uM at he;cases hm:kW T t with
 |none=>grind
 |some p=>
  obtain⟨k,e⟩:=p;simp only[hm]at he;have hu:=rP hT hm;cases hk:T k with
  |none=>grind
  |some rk=>
   cases hki:zG i with
   |none=>grind
   |some q=>
    obtain⟨ag,ks,o7⟩:=q;simp only[hk,hki]at he;obtain⟨rfl,hlen⟩:=tT hki hvi;cases x with
    |mp l=>
     simp only at he;cases hl:st.H l with
     |map ag' V5 es=>
      simp only[hl,aAb]at he;subst he;obtain⟨c1,rfl,rfl,rfl⟩:=hc;have E:=(hT k rk hk).eqk _ c1;obtain⟨m0,m1,cO,clock,m2,m3,m4,m5,m6,m7⟩:=hi.mp l _ _ es hl;simp only[Rep]at h;obtain⟨rfl,_⟩:=h;have o9:=mP (w:=w) E hlen es cO m3 m1;have hchk:=fun em=>E.chk w em o7 hlen;refine⟨rfl,?_⟩;cases hg:bS es o7 with
      |none=>
       have hf:=vC o7 es cO 0 hg;obtain⟨a1,a2⟩:=HK (ag:=rk.agg) (ks:=V5) clock hvy es cO hg m3 m4
       obtain⟨b1,b2⟩:=oS (clock':=clock+1) hi hl (Gz m1 hlen) a1 a2 (fun z hz=>by
        grind) (by
        grind)
       refine⟨_,?_,b1,b2⟩;unfold Instr.mapUpdate;simp only[Sem.run_bind,run_underlying hu,Result.andThen_ok,MapKept.run_getObj_map m2,hchk,o9,hf]
       grind [MapKept.run_setObj_map]
      |some lv=>
       obtain⟨j,en,hf,hen,K9,N8⟩:=uS (w:=w) (g:=g) o7 es cO 0 lv m4 hg;obtain⟨a1,a2,a3⟩:=IE (ag:=rk.agg) (ks:=V5) hvy es cO 0 j en.val hf m3 m4
       obtain⟨b1,b2⟩:=oS (clock':=clock) hi hl (Gz m1 hlen) a1 a2 (fun z hz=>by
        have:z.born∈(cO.map (·.born)):=by rw[<- a3];exact aAi.2 ⟨z,hz,rfl⟩
        grind) (by grind)
       refine⟨_,?_,b1,b2⟩;have hek:en.key=mkV rk.agg V5 o7:=by
        have h1:(cO.map (·.key))[j]?=some en.key:=by simp[hen]
        rw[m3,aCm]at h1;cases hej:es[j]? with
        |none=>grind
        |some q=>grind
       unfold Instr.mapUpdate;simp only[Sem.run_bind,run_underlying hu,Result.andThen_ok,MapKept.run_getObj_map m2,hchk,o9,hf];have D3:(Instr.keyThatStays (((cO.toArray[0+j]?).map (·.key)).getD (mkV rk.agg V5 o7)) (mkV rk.agg V5 o7)).run P w=.ok (mkV rk.agg V5 o7) w:=by
        have:(((cO.toArray[0+j]?).map (·.key)).getD (mkV rk.agg V5 o7))=mkV rk.agg V5 o7:=by simp[hen,hek]
        rw[this];unfold Instr.keyThatStays;rw[Ex E.one hlen];simp
       grind [Result.andThen_ok,MapKept.run_setObj_map]
     |_=>grind
    |_=>simp at he
theorem xK{o7:List Int}:∀(es:List (List Int×LV)),bS es o7=none->zF es o7=es
 |[],_=>rfl
 |p::es,h=>by
  simp only[bS]at h
  split at h
  .cases h
  .rename_i c7;simp only[zF,aAa c7,xK es h]
theorem Be{o7:List Int}{p:List Int×LV}:∀(es:List (List Int×LV)),p∈zF es o7->p∈es
 |[],h=>h
 |q::es,h=>by
  simp only[zF]at h
  split at h
  .grind
  .rcases aAe.1 h with rfl|h
   .grind
   .exact aAc _ (Be es h)
theorem IM{ag:Bool}{ks:List IntKind}{o7:List Int}:∀(es:List (List Int×LV)) (cO:List MapEntry) (i j:Nat) (v0:Value),fnd o7 es cO i=some (i+j,v0)->cO.map (·.key)=es.map (fun p=>mkV ag ks p.1)->aC w g (es.map (·.2)) (cO.map (·.val))->
 (cO.eraseIdx j).map (·.key)=(zF es o7).map (fun p=>mkV ag ks p.1)/\aC w g ((zF es o7).map (·.2)) ((cO.eraseIdx j).map (·.val))/\j<cO.length
 |[],cO,i,j,v0,h1,_,_=>by grind [fnd]
 |p::es,[],i,j,v0,h1,_,_=>by grind
 |p::es,e::cO,i,j,v0,h1,h2,h3=>by
  simp only[aAm,aBw]at h2;simp only[aAm,aC]at h3;obtain⟨v,vs,hv,k1,k2⟩:=h3;injection hv with hv1 hv2;subst hv1 hv2;simp only[fnd]at h1
  split at h1
  .rename_i hq;simp only[aAb,aBd]at h1
   grind [zF]
  .rename_i hq;have hj:∃ j',j=j'+1:=by
    cases j with
    |succ j'=>grind
    |zero=>
     exfalso;have:∀(es:List (List Int×LV)) (cO:List MapEntry) (i m:Nat) (v:Value),fnd o7 es cO i=some (m,v)->i<=m:=by
      intro es;induction es with
      |nil=>grind [fnd]
      |cons p es ih=>
       intro cO i m v h;cases cO with
       |nil=>grind [fnd]
       |cons e cO=>
        grind [fnd]
     grind
   obtain⟨j',rfl⟩:=hj;obtain⟨a1,a2,a3⟩:=IM (ag:=ag) (ks:=ks) es cO (i+1) j' v0 (by rw[h1];grind) h2.2 k2
   grind [zF,aC]
theorem GI(hT:aZ P T)(hi:Inv w g st){t kt ty:TypeId}{x i:LV}{v vi:Value}{r:bR}(he:AZ T t x i st=some r)(hc:r.c)(h:Rep w g x v)(hvi:Rep w g i vi):
 r.v=.tu []/\∃ w',(Builtin.delete_ #[t,kt] ty #[v,vi]).run P w=.ok (.tuple #[]) w'/\Inv w' g r.s/\Ext w g w' g:=by
 unfold AZ at he;cases hm:kW T t with
 |none=>grind
 |some p=>
  obtain⟨k,e⟩:=p;simp only[hm]at he;have hu:=rP hT hm;cases hk:T k with
  |none=>grind
  |some rk=>
   cases hki:zG i with
   |none=>grind
   |some q=>
    obtain⟨ag,ks,o7⟩:=q;simp only[hk,hki]at he;obtain⟨rfl,hlen⟩:=tT hki hvi;cases x with
    |mp l=>
     simp only at he;cases hl:st.H l with
     |map ag' V5 es=>
      simp only[hl,aAb]at he;subst he;obtain⟨c1,rfl,rfl,rfl⟩:=hc;have E:=(hT k rk hk).eqk _ c1;obtain⟨m0,m1,cO,clock,m2,m3,m4,m5,m6,m7⟩:=hi.mp l _ _ es hl;simp only[Rep]at h;obtain⟨rfl,_⟩:=h;have o9:=mP (w:=w) E hlen es cO m3 m1;have hchk:=fun em=>E.chk w em o7 hlen;refine⟨rfl,?_⟩;cases hg:bS es o7 with
      |none=>have hf:=vC o7 es cO 0 hg;obtain⟨b1,b2⟩:=oS (S6:=cO) (clock':=clock) hi hl (es':=zF es o7) (fun p hp=>m1 p (Be es hp)) (by grind [xK]) (by grind [xK]) m6 m7;refine⟨_,?_,b1,b2⟩;unfold Builtin.delete_;simp[Sem.run_bind,run_underlying hu,Result.andThen_ok,MapKept.run_getObj_map m2,hchk,o9,hf];rw[MapKept.run_setObj_map _ m2];simp
      |some lv=>obtain⟨j,en,hf,hen,K9,N8⟩:=uS (w:=w) (g:=g) o7 es cO 0 lv m4 hg;obtain⟨a1,a2,a3⟩:=IM (ag:=rk.agg) (ks:=V5) es cO 0 j en.val hf m3 m4;have L6:(cO.eraseIdx j).Sublist cO:=List.eraseIdx_sublist cO j;obtain⟨b1,b2⟩:=oS (S6:=cO.eraseIdx j) (clock':=clock) hi hl (es':=zF es o7) (fun p hp=>m1 p (Be es hp)) a1 a2 (fun z hz=>m6 z (L6.subset hz)) (m7.sublist (L6.map _));refine⟨_,?_,b1,b2⟩;unfold Builtin.delete_;simp[Sem.run_bind,run_underlying hu,Result.andThen_ok,MapKept.run_getObj_map m2,hchk,o9,hf];rw[MapKept.run_setObj_map _ m2];simp
     |_=>grind
    |_=>simp at he
theorem Kk(h:Inv w g st)(ag:Bool)(ks:List IntKind):Inv (w.alloc (.map #[] 0)) (g.add w.heap.size 0 0 false) (st.new (.map ag ks [])):=by
 have he:=dM w g (.map #[] 0) 0 0 false;have hn:=h.next;refine⟨by grind [G.add,St.new],by simp[St.new],?_,?_,?_,?_,?_,?_,?_,h.aside.keep he (oK rfl)⟩
 .intro l hl;simp only[St.new]at hl ⊢;rw[aAa oO];exact h.fresh l oO
 .intro l hl;by_cases e0:l=st.next
  .subst e0;simp[G.add,hn]
  .rw[cQ hn e0]at hl;have:=h.lt l hl;simp only[G.add,hn,aAa e0];simp;omega
 .intro l l' hl O5 hb;by_cases e0:l=st.next<;>by_cases e1:l'=st.next
  .omega
  .rw[cQ hn e1]at O5;have:=h.lt l' O5
   grind [G.add]
  .rw[cQ hn e0]at hl;have:=h.lt l hl
   grind [G.add]
  .rw[cQ hn e0]at hl;rw[cQ hn e1]at O5;simp only[G.add,hn,aAa e1,aAa e0]at hb;exact h.inj l l' hl O5 hb
 .intro l e' s n hl;by_cases e0:l=st.next
  .grind [St.new]
  .simp only[St.new,aAa e0]at hl;obtain⟨h1,h2,h3,h4⟩:=h.own l e' s n hl;simp only[G.add,hn,aAa e0]
   grind [heap_alloc_old]
 .intro l e' s' cs' hl;by_cases e0:l=st.next
  .grind [St.new]
  .simp only[St.new,aAa e0]at hl;obtain⟨k3,k0,k'⟩:=h.box l e' s' cs' hl;refine⟨?_,?_,fun r9=>?_⟩
   .grind [G.add]
   .grind [G.add]
   simp only[G.add,hn,aAa e0]at r9;obtain⟨S8,k1,k2,k4,k5,k6⟩:=k' r9;have dA:g.β l<w.heap.size:=(aAJ.1 k1).1;refine⟨S8,?_,?_,k4,aC.mono he _ _ k5,?_⟩
   .grind [G.add,heap_alloc_old]
   .grind [G.add]
   grind [G.add]
 .intro l ag' V5 es hl;by_cases e0:l=st.next
  .simp only[St.new,aAj e0]at hl;injection hl with a1 a2 a3;subst a1 a2 a3;refine⟨by grind [G.add],sS,[],0,?_,rfl,by simp[aC],by grind [G.add],sS,sS⟩
   grind [G.add,heap_alloc_new]
  .simp only[St.new,aAa e0]at hl;have hm:=h.mp l _ _ es hl;have dA:=hm.blk_lt;exact hm.keep he (h.map_lt hl) (heap_alloc_old w _ _ dA) (by grind [G.add])
 .intro l e' n hl;by_cases e0:l=st.next
  .grind [St.new]
  .simp only[St.new,aAa e0]at hl;have hm:=h.qu l e' n hl;have dA:=hm.blk_lt;exact hm.keep he (h.que_lt hl) (heap_alloc_old w _ _ dA) (by grind [G.add])
theorem DA(hT:aZ P T)(hi:Inv w g st){t:TypeId}{rs:Option LV}{vr:Option Value}{r:bR}(he:vM T t rs st=some r)(hvr:∀ x,rs=some x->∃ v,vr=some v/\Rep w g x v)(hvn:rs=none->vr=none):
 ∃ u w' g',(Instr.makeMap t vr).run P w=.ok u w'/\Rep w' g' r.v u/\Inv w' g' r.s/\Ext w g w' g':=by
 unfold vM at he;cases hm:kW T t with
 |none=>grind
 |some p=>
  obtain⟨k,e⟩:=p;simp only[hm]at he;have hu:=rP hT hm;cases hk:T k with
  |none=>grind
  |some rk=>
   simp only[hk]at he;cases hck:rk.ck with
   |none=>grind
   |some ks=>
    simp only[hck]at he;have key:r=⟨True,.mp st.next,st.new (.map rk.agg ks [])⟩->(∃ w',w'=w/\(Instr.makeMap t vr).run P w=.ok (.map (some w.heap.size)) (w'.alloc (.map #[] 0)))->∃ u w' g',(Instr.makeMap t vr).run P w=.ok u w'/\Rep w' g' r.v u/\Inv w' g' r.s/\Ext w g w' g':=by rintro rfl ⟨_,rfl,o9⟩;refine⟨_,_,_,o9,?_,Kk hi rk.agg ks,dM _ _ _ _ _ _⟩;simp only[Rep,G.add,hi.next,aAj];exact⟨trivial,aDe _⟩
    split at he
    .simp only[aAb]at he;refine key he.symm ⟨w,rfl,?_⟩;rw[hvn rfl];simp[Instr.makeMap]
    .rename_i kk nn;simp only[aAb]at he;refine key he.symm ⟨w,rfl,?_⟩;obtain⟨vv,rfl,hv⟩:=hvr _ rfl;simp only[Rep]at hv;subst hv
     first|(simp[Instr.makeMap,run_underlying hu];done)|simp[Instr.makeMap,run_underlying hu,asInt,asIntOf]
    grind
theorem Ir{t:Nat}{r:bK}(h:bE P t r){ks:List IntKind}(hck:r.ck=some ks)(ha:r.agg=true){o7 bs:List Int}(h1:o7.length=ks.length)(h2:bs.length=ks.length)(ox oy:Operand)(op:BinOp)(neg:Bool)(hop:(op=.eql/\neg=false)\/(op=.neq/\neg=true)):
 (do eqGuard op t ox oy (mkV true ks o7) (mkV true ks bs);binOp op t (mkV true ks o7) (mkV true ks bs):Sem Value).run P w=.ok (.bool ((o7==bs) != neg)) w:=by
 have E:=h.eqk ks hck;rw[ha]at E;have hq:=E.eq w o7 bs h1 h2;have hg:=E.guard rfl;simp only[mkV,aBs]at hq ⊢;rw[Sem.run_bind,run_eqGuard_agg w op t ox oy _ _ hg];simp only[Result.andThen_ok];rcases hop with⟨rfl,rfl⟩|⟨rfl,rfl⟩
 .grind [binOp,Sem.run_bind,Result.andThen_ok,Sem.run_pure]
 .simp only[binOp,Sem.run_bind,hq,Result.andThen_ok,Sem.run_pure];simp
theorem sO{t:Nat}{k:IntKind}(h:P.underlying t=some (.int k))(w:World)(em:Bool)(a:Int):(Instr.checkKey em 9999 t (.int k a)).run P w=.ok () w:=by rw[show(9999:Nat)=9998+1 from rfl];unfold Instr.checkKey;simp[run_underlying h]
theorem Rq{t:Nat}{k:IntKind}(h:P.underlying t=some (.int k)):BU P t false [k]:=by
 refine⟨fun w o7 bs h1 h2=>?_,fun w em o7 h1=>?_,(fun h=>by cases h),fun _=>rfl,_,h,.inl fun o7 bs h1 h2=>?_⟩
 .match o7,bs,h1,h2 with
  |[a],[b],_,_=>have:=run_equalIn_int (P:=P) w 9999 t k k a b h;simp only[mkV,mkC,aBg,aBS,List.headD_cons];unfold Op.equal Op.maxDepth;simp_all
 .match o7,h1 with
  |[a],_=>simp only[mkV,mkC,aBg,aBS,List.headD_cons];unfold Instr.checkKey;simp[run_underlying h]
 .match o7,bs,h1,h2 with
  |[a],[b],_,_=>simp[mkV,mkC,Instr.sameNow]
end
end Aw
end Go.Proofs.YtbgngpdonpeboaaGreatDoor
