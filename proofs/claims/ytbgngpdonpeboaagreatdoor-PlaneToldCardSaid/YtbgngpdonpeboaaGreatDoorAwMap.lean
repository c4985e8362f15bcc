/- Maps: what a look-up, an update, a new one do; '==' of structs. No program is named here. -/
import Derived.Test.YtbgngpdonpeboaaGreatDoorAwSound2
import Derived.MapKept
import Derived.Laws.StructEq
set_option linter.unusedVariables false
set_option linter.unusedSimpArgs false
namespace Go.Proofs.YtbgngpdonpeboaaGreatDoor
namespace Aw
open Go Go.RowKit
section
variable {P:Program} {T:Tab} {w:World} {g:G} {st:St}
theorem lN:∀(cs:List LV) (vs:List Value) (ks:List IntKind) (ns:List Int),iG cs=some (ks,ns)->aC w g cs vs->vs=mkC ks ns/\ns.length=ks.length
 |[],vs,ks,ns,h,hr=>by simp only[iG,aAb,aAW]at h;obtain⟨rfl,rfl⟩:=h;simp only[aC]at hr;exact⟨hr,rfl⟩
 |c::cs,vs,ks,ns,h,hr=>by
  simp only[aC]at hr;obtain⟨v,vs',rfl,h1,h2⟩:=hr;cases c with
  |atom x=>
   cases x with
   |int k n=>
    simp only[iG]at h;cases hi:iG cs with
    |none=>grind
    |some p=>obtain⟨M9,ns'⟩:=p;simp only[hi,aAb,aAW]at h;obtain⟨rfl,rfl⟩:=h;obtain⟨k1,k2⟩:=lN cs vs' M9 ns' hi h2;simp only[Rep]at h1;exact⟨by rw[h1,k1];rfl,by grind⟩
   |_=>simp[iG]at h
  |_=>simp[iG]at h
theorem sZ{x:LV}{v:Value}{ag:Bool}{ks:List IntKind}{o6:List Int}(h:yJ x=some (ag,ks,o6))(hr:Rep w g x v):v=mkV ag ks o6/\o6.length=ks.length:=by
 cases x with
 |atom y=>
  cases y with
  |int k n=>simp only[yJ,aAb,aAW]at h;obtain⟨rfl,rfl,rfl⟩:=h;simp only[Rep]at hr;exact⟨by rw[hr];rfl,rfl⟩
  |_=>simp[yJ]at h
 |ag cs=>
  simp only[yJ]at h;cases hi:iG cs with
  |none=>grind
  |some p=>obtain⟨M9,ns'⟩:=p;simp only[hi,aAb,aAW]at h;obtain⟨rfl,rfl,rfl⟩:=h;simp only[Rep]at hr;obtain⟨vs,rfl,hr⟩:=hr;obtain⟨k1,k2⟩:=lN cs vs _ _ hi hr;exact⟨by rw[k1];rfl,k2⟩
 |_=>simp[yJ]at h
def fnd(o6:List Int):List (List Int×LV)->List MapEntry->Nat->Option (Nat×Value)
 |p::es,e::cZ,i=>if o6==p.1 then some (i,e.val)else fnd o6 es cZ (i+1)
 |_,_,_=>none
theorem lS{t:Nat}{ag:Bool}{ks:List IntKind}(E:Fa P t ag ks){o6:List Int}(ha:o6.length=ks.length)(es:List (List Int×LV))(cZ:List MapEntry)(hk:cZ.map (·.key)=es.map (fun p=>mkV ag ks p.1))(hl:∀ p∈es,p.1.length=ks.length):
 (Instr.findKey t (mkV ag ks o6) cZ).run P w=.ok (fnd o6 es cZ 0) w:=by
 obtain⟨d,hd,hn⟩:=E.now;have ask:∀(es:List (List Int×LV)) (cZ:List MapEntry) (i:Nat),cZ.map (·.key)=es.map (fun p=>mkV ag ks p.1)->(∀ p∈es,p.1.length=ks.length)->(Instr.findAsking t (mkV ag ks o6) cZ i).run P w=.ok (fnd o6 es cZ i) w:=by
  intro es;induction es with
  |nil=>intro cZ i h1 _;cases cZ with|nil=>simp[Instr.findAsking,fnd]|cons e cZ=>grind
  |cons p es ih=>
   intro cZ i h1 h2;cases cZ with
   |nil=>grind
   |cons e cZ=>
    simp only[aAn,aBt]at h1;have hq:=E.eq w o6 p.1 ha (h2 p sS)
    grind [Instr.findAsking,Sem.run_bind,Result.andThen_ok,Sem.run_pure,fnd]
 rcases hn with hn|hn
 .have now:∀(es:List (List Int×LV)) (cZ:List MapEntry) (i:Nat),cZ.map (·.key)=es.map (fun p=>mkV ag ks p.1)->(∀ p∈es,p.1.length=ks.length)->Instr.findNow d (mkV ag ks o6) cZ i=some (fnd o6 es cZ i):=by
   intro es;induction es with
   |nil=>intro cZ i h1 _;cases cZ with|nil=>simp[Instr.findNow,fnd]|cons e cZ=>grind
   |cons p es ih=>
    intro cZ i h1 h2;cases cZ with
    |nil=>grind
    |cons e cZ=>
     grind [Instr.findNow,fnd]
  grind [MapKept.run_findKey]
 .cases es with
  |nil=>cases cZ with|nil=>simp[Instr.findKey,run_underlying hd,Instr.findNow,fnd]|cons e cZ=>grind
  |cons p es=>
   cases cZ with
   |nil=>grind
   |cons e cZ=>
    have I4:=hk;simp only[aAn,aBt]at hk;have hq:=hn o6 p.1 ha (hl p sS);have:Instr.findNow d (mkV ag ks o6) (e::cZ) 0=none:=by simp[Instr.findNow,hk.1,hq]
    simp only[Instr.findKey,Sem.run_bind,run_underlying hd,Result.andThen_ok,this]
    grind
theorem uU(o6:List Int):∀(es:List (List Int×LV)) (cZ:List MapEntry) (i:Nat),bS es o6=none->fnd o6 es cZ i=none
 |[],cZ,i,_=>by simp[fnd]
 |p::es,[],i,_=>by simp[fnd]
 |p::es,e::cZ,i,h=>by
  simp only[bS]at h
  split at h
  .cases h
  .rename_i Zy;simp only[fnd,aAa Zy];exact uU o6 es cZ (i+1) h
theorem tI(o6:List Int):∀(es:List (List Int×LV)) (cZ:List MapEntry) (i:Nat) (lv:LV),aC w g (es.map (·.2)) (cZ.map (·.val))->bS es o6=some lv->∃ j e,fnd o6 es cZ i=some (i+j,e.val)/\cZ[j]?=some e/\Rep w g lv e.val/\(es[j]?).map (·.1)=some o6
 |[],cZ,i,lv,_,h=>by grind [bS]
 |p::es,[],i,lv,hr,h=>by grind [aC]
 |p::es,e::cZ,i,lv,hr,h=>by
  simp only[aAn,aC]at hr;obtain⟨v,vs,hv,h1,h2⟩:=hr;injection hv with U7 hv2;subst U7 hv2;simp only[bS]at h
  split at h
  .rename_i hq;injection h with h;subst h;exact⟨0,e,by grind [fnd],rfl,h1,by grind⟩
  .rename_i hq;obtain⟨j,e',k1,k2,k3,k4⟩:=tI o6 es cZ (i+1) lv h2 h;exact⟨j+1,e',by grind [fnd],by grind,k3,by grind⟩
theorem MI{t:Nat}{r:bI}(h:aW P t r):Rep w g (Bv r) r.zeroV:=by
 unfold Bv bI.zeroV;cases ha:r.agg with
 |true=>grind [Rep,cO]
 |false=>
  simp only[aBa,aBN];have h1:=h.one ha;have h2:=h.zl;cases hz:r.zero with
  |nil=>grind
  |cons z zs=>grind [hdL,sX]
theorem EO(hT:aZ P T)(hi:Inv w g st){t:TypeId}{x i:LV}{v vi:Value}{ok:Bool}{r:bT}(he:tW T t x i ok st=some r)(hc:r.c)(h:Rep w g x v)(hvi:Rep w g i vi):
 r.s=st/\∃ u,(Instr.lookup t v vi ok).run P w=.ok u w/\Rep w g r.v u:=by
 unfold tW at he;cases hm:kZ T t with
 |none=>grind
 |some p=>
  obtain⟨k,e⟩:=p;simp only[hm]at he;have hu:=oN hT hm;cases hk:T k with
  |none=>grind
  |some rk=>
   cases J5:T e with
   |none=>grind
   |some re=>
    cases hki:yJ i with
    |none=>grind
    |some q=>
     obtain⟨ag,ks,o6⟩:=q;simp only[hk,J5,hki]at he;obtain⟨rfl,hlen⟩:=sZ hki hvi;have hz:=(hT e re J5).zeroValue w;have hzr:=MI (w:=w) (g:=g) (hT e re J5);cases x with
     |mp l=>
      simp only at he;cases hl:st.H l with
      |map ag' M9 es=>
       simp only[hl,aAb]at he;subst he;obtain⟨c1,rfl,rfl,rfl⟩:=hc;have E:=(hT k rk hk).eqk _ c1;obtain⟨_,m1,cZ,clock,m2,m3,m4,m5,m6,m7⟩:=hi.mp l _ _ es hl;simp only[Rep]at h;obtain⟨rfl,_⟩:=h;have o7:=lS (w:=w) E hlen es cZ m3 m1;have hchk:=fun em=>E.chk w em o6 hlen;refine⟨rfl,?_⟩;have key:∀ fv:Value×Bool,(match fnd o6 es cZ 0 with|some (_,v)=>(v,true)|none=>(re.zeroV,false))=fv->(Instr.lookup t (.map (some (g.β l))) (mkV rk.agg M9 o6) ok).run P w=.ok (if ok then .tuple #[fv.1,.bool fv.2]else fv.1) w:=by
        intro fv hfv;unfold Instr.lookup;simp only[Sem.run_bind,run_underlying hu,Result.andThen_ok,MapKept.run_getObj_map m2,Sem.run_pure,hchk,o7];cases hf:fnd o6 es cZ 0 with
        |none=>rw[hf]at hfv;subst hfv;simp_all
        |some q=>simp_all
       cases hg:bS es o6 with
       |none=>
        grind [uU,Rep,aC]
       |some lv=>
        obtain⟨j,en,hf,_,C8,_⟩:=tI (w:=w) (g:=g) o6 es cZ 0 lv m4 hg
        grind [Rep,aC]
      |_=>grind
     |atom y=>
      cases y with
      |map b=>
       cases b with
       |none=>
        simp only[aAb]at he;subst he;obtain⟨c1,rfl⟩:=hc;have E:=(hT k rk hk).eqk _ c1;simp only[Rep]at h;subst h;have o7:=lS (w:=w) E hlen [] [] rfl sS;have hchk:=fun em=>E.chk w em o6 hlen;refine⟨rfl,(if ok then .tuple #[re.zeroV,.bool false]else re.zeroV),?_,?_⟩
        .unfold Instr.lookup;simp only[Sem.run_bind,run_underlying hu,Result.andThen_ok,Sem.run_pure,hchk,o7,fnd,hz]
        grind [Rep,aC]
       |some b=>grind
      |_=>simp at he
     |_=>simp at he
theorem mZ(h:Inv w g st){l:Nat}{ag:Bool}{ks:List IntKind}{es es':List (List Int×LV)}{K0:List MapEntry}{clock':Nat}(hl:st.H l=.map ag ks es)(h1:∀ p∈es',p.1.length=ks.length)
 (h2:K0.map (·.key)=es'.map (fun p=>mkV ag ks p.1)) (h3:aC w g (es'.map (·.2)) (K0.map (·.val))) (h4:∀ x∈K0,x.born<clock') (h5:(K0.map (·.born)).Nodup):
 Inv { w with heap:=w.heap.setIfInBounds (g.β l) (.map K0.toArray clock') } g (st.set l (.map ag ks es'))/\Ext w g { w with heap:=w.heap.setIfInBounds (g.β l) (.map K0.toArray clock') } g:=by
 obtain⟨m0,m1,cZ,clock,m2,m3,m4,m5,m6,m7⟩:=h.mp l _ _ es hl;have L6:=h.map_blk hl;have dQ:=(h.mp l _ _ es hl).blk_lt;have N8:∀ b,b≠g.β l->(w.heap.setIfInBounds (g.β l) (.map K0.toArray clock'))[b]?=w.heap[b]?:=by intro b hb;rw[aBx,aAa (aCv hb)]
 have hself:(w.heap.setIfInBounds (g.β l) (.map K0.toArray clock'))[g.β l]?=some (.map K0.toArray clock'):=by simp[aBx,dQ]
 have he:Ext w g { w with heap:=w.heap.setIfInBounds (g.β l) (.map K0.toArray clock') } g:=by
  refine⟨rfl,rfl,rfl,sS,aAl _,fun _ _=>rfl,fun _ _=>rfl,fun _ _=>rfl,?_,?_⟩
  .grind
  .grind [World.cell?_of_block]
 have hb:∀ x,blk g (st.set l (.map ag ks es')) x↔blk g st x:=by
  intro x;unfold blk;simp only[St.set];by_cases hx:x=l
  .grind
  .grind
 have hltn:l<st.next:=by rw[<- h.next];exact h.map_lt hl
 refine⟨⟨h.next,h.pos,?_,?_,?_,?_,?_,?_,?_,h.aside.keep he (iY rfl)⟩,he⟩
 .intro x hx;simp only[St.set]at hx ⊢;rw[aAa oO];exact h.fresh x hx
 .intro x hx;simpa using h.lt x ((hb x).1 hx)
 .intro x y hx hy;exact h.inj x y ((hb x).1 hx) ((hb y).1 hy)
 .intro x e' s n hx;by_cases e0:x=l
  .grind [St.set]
  .simp only[St.set,aAa e0]at hx;obtain⟨k1,k2,k3,k4⟩:=h.own x e' s n hx
   grind
 .intro x e' s' cs'' hx;by_cases e0:x=l
  .grind [St.set]
  .simp only[St.set,aAa e0]at hx;obtain⟨q3,q0,q'⟩:=h.box x e' s' cs'' hx
   grind [aC.mono]
 .intro x ag' M9 es'' hx;by_cases e0:x=l
  .simp only[St.set,aAk e0]at hx;injection hx with a1 a2 a3;subst a1 a2 a3 e0;exact⟨m0,h1,K0,clock',hself,h2,aC.mono he _ _ h3,m5,h4,h5⟩
  .simp only[St.set,aAa e0]at hx;exact(h.mp x _ _ _ hx).keep he (h.map_lt hx) (N8 _ (fun hh=>e0 (h.inj x l (h.map_blk hx) L6 hh))) rfl
 .intro x e' n hx;by_cases e0:x=l
  .grind [St.set]
  .simp only[St.set,aAa e0]at hx;exact(h.qu x _ _ hx).keep he (h.que_lt hx) (N8 _ (fun hh=>e0 (h.inj x l (h.que_blk hx) L6 hh))) rfl
theorem EE{ag:Bool}{ks:List IntKind}{o6:List Int}(h1:ag=false->ks.length=1)(h2:o6.length=ks.length):Instr.sameBits 10000 (mkV ag ks o6) (mkV ag ks o6)=true:=by
 have hz:∀(ks:List IntKind) (o6:List Int) (n:Nat),((mkC ks o6).zip (mkC ks o6)).all (fun p=>Instr.sameBits n p.1 p.2)=true:=by
  intro ks;induction ks with
  |nil=>intro o6 n;simp[mkC]
  |cons k ks ih=>
   intro o6 n;cases o6 with
   |nil=>simp[mkC]
   |cons a o6=>simp only[mkC,List.zip_cons_cons,List.all_cons,ih,Bool.and_true];grind [Instr.sameBits]
 cases ag with
 |true=>simp only[mkV,aBq,Instr.sameBits];simpa using hz ks o6 9999
 |false=>
  have hk:=h1 rfl
  match ks,o6,hk,h2 with
  |[k],[a],_,_=>simp[mkV,mkC,Instr.sameBits]
theorem GW{es:List (List Int×LV)}{o6:List Int}{v:LV}{n:Nat}(h:∀ p∈es,p.1.length=n)(ha:o6.length=n):∀ p∈bV es o6 v,p.1.length=n:=by
 induction es with
 |nil=>grind [bV]
 |cons q es ih=>
  grind [bV]
theorem Gf{ag:Bool}{ks:List IntKind}{o6:List Int}{lv:LV}{vv:Value}(c:Nat)(C8:Rep w g lv vv):∀(es:List (List Int×LV)) (cZ:List MapEntry),bS es o6=none->cZ.map (·.key)=es.map (fun p=>mkV ag ks p.1)->aC w g (es.map (·.2)) (cZ.map (·.val))->
 (cZ++[(⟨mkV ag ks o6,vv,c⟩:MapEntry)]).map (·.key)=(bV es o6 lv).map (fun p=>mkV ag ks p.1)/\aC w g ((bV es o6 lv).map (·.2)) ((cZ++[(⟨mkV ag ks o6,vv,c⟩:MapEntry)]).map (·.val))
 |[],cZ,_,h2,h3=>by
  grind [bV,aC]
 |p::es,[],_,h2,_=>by grind
 |p::es,e::cZ,h1,h2,h3=>by
  simp only[bS]at h1
  split at h1
  .grind
  .rename_i Zy;simp only[aAn,aBt]at h2;simp only[aAn,aC]at h3;obtain⟨v,vs,hv,k1,k2⟩:=h3;injection hv with U7 hv2;subst U7 hv2;obtain⟨a1,a2⟩:=Gf c C8 es cZ h1 h2.2 k2
   grind [bV,aC]
theorem IJ{ag:Bool}{ks:List IntKind}{o6:List Int}{lv:LV}{vv:Value}(C8:Rep w g lv vv):∀(es:List (List Int×LV)) (cZ:List MapEntry) (i j:Nat) (v0:Value),fnd o6 es cZ i=some (i+j,v0)->cZ.map (·.key)=es.map (fun p=>mkV ag ks p.1)->aC w g (es.map (·.2)) (cZ.map (·.val))->
 (cZ.modify j fun e=>{ e with key:=mkV ag ks o6,val:=vv }).map (·.key)=(bV es o6 lv).map (fun p=>mkV ag ks p.1)/\aC w g ((bV es o6 lv).map (·.2)) ((cZ.modify j fun e=>{ e with key:=mkV ag ks o6,val:=vv }).map (·.val))/\
   (cZ.modify j fun e=>{ e with key:=mkV ag ks o6,val:=vv }).map (·.born)=cZ.map (·.born)
 |[],cZ,i,j,v0,h1,_,_=>by grind [fnd]
 |p::es,[],i,j,v0,h1,_,_=>by grind
 |p::es,e::cZ,i,j,v0,h1,h2,h3=>by
  simp only[aAn,aBt]at h2;simp only[aAn,aC]at h3;obtain⟨v,vs,hv,k1,k2⟩:=h3;injection hv with U7 hv2;subst U7 hv2;simp only[fnd]at h1
  split at h1
  .rename_i hq;simp only[aAb,aAW]at h1
   grind [bV,aC]
  .rename_i hq;have hj:∃ j',j=j'+1:=by
    cases j with
    |succ j'=>grind
    |zero=>
     exfalso;have:∀(es:List (List Int×LV)) (cZ:List MapEntry) (i m:Nat) (v:Value),fnd o6 es cZ i=some (m,v)->i<=m:=by
      intro es;induction es with
      |nil=>grind [fnd]
      |cons p es ih=>
       intro cZ i m v h;cases cZ with
       |nil=>grind [fnd]
       |cons e cZ=>
        grind [fnd]
     grind
   obtain⟨j',rfl⟩:=hj;obtain⟨a1,a2,a3⟩:=IJ (ag:=ag) (ks:=ks) C8 es cZ (i+1) j' v0 (by rw[h1];grind) h2.2 k2
   grind [bV,aC]
theorem uD(hT:aZ P T)(hi:Inv w g st){t:TypeId}{x i y:LV}{v vi vy:Value}{r:bT}(he:uZ T t x i y st=some r)(hc:r.c)(h:Rep w g x v)(hvi:Rep w g i vi)(hvy:Rep w g y vy):
 r.v=.dead/\∃ w',(Instr.mapUpdate t v vi vy).run P w=.ok () w'/\Inv w' g r.s/\Ext w g w' g:=by
 unfold uZ at he;cases hm:kZ T t with
 |none=>grind
 |some p=>
  obtain⟨k,e⟩:=p;simp only[hm]at he;have hu:=oN hT hm;cases hk:T k with
  |none=>grind
  |some rk=>
   cases hki:yJ i with
   |none=>grind
   |some q=>
    obtain⟨ag,ks,o6⟩:=q;simp only[hk,hki]at he;obtain⟨rfl,hlen⟩:=sZ hki hvi;cases x with
    |mp l=>
     simp only at he;cases hl:st.H l with
     |map ag' M9 es=>
      simp only[hl,aAb]at he;subst he;obtain⟨c1,rfl,rfl,rfl⟩:=hc;have E:=(hT k rk hk).eqk _ c1;obtain⟨m0,m1,cZ,clock,m2,m3,m4,m5,m6,m7⟩:=hi.mp l _ _ es hl;simp only[Rep]at h;obtain⟨rfl,_⟩:=h;have o7:=lS (w:=w) E hlen es cZ m3 m1;have hchk:=fun em=>E.chk w em o6 hlen;refine⟨rfl,?_⟩;cases hg:bS es o6 with
      |none=>
       have hf:=uU o6 es cZ 0 hg;obtain⟨a1,a2⟩:=Gf (ag:=rk.agg) (ks:=M9) clock hvy es cZ hg m3 m4
       obtain⟨b1,b2⟩:=mZ (clock':=clock+1) hi hl (GW m1 hlen) a1 a2 (fun z hz=>by
        grind) (by
        grind)
       refine⟨_,?_,b1,b2⟩;unfold Instr.mapUpdate;simp only[Sem.run_bind,run_underlying hu,Result.andThen_ok,MapKept.run_getObj_map m2,hchk,o7,hf]
       grind [MapKept.run_setObj_map]
      |some lv=>
       obtain⟨j,en,hf,hen,C8,E9⟩:=tI (w:=w) (g:=g) o6 es cZ 0 lv m4 hg;obtain⟨a1,a2,a3⟩:=IJ (ag:=rk.agg) (ks:=M9) hvy es cZ 0 j en.val hf m3 m4
       obtain⟨b1,b2⟩:=mZ (clock':=clock) hi hl (GW m1 hlen) a1 a2 (fun z hz=>by
        have:z.born∈(cZ.map (·.born)):=by rw[<- a3];exact aAj.2 ⟨z,hz,rfl⟩
        grind) (by grind)
       refine⟨_,?_,b1,b2⟩;have hek:en.key=mkV rk.agg M9 o6:=by
        have h1:(cZ.map (·.key))[j]?=some en.key:=by simp[hen]
        rw[m3,aCd]at h1;cases hej:es[j]? with
        |none=>grind
        |some q=>grind
       unfold Instr.mapUpdate;simp only[Sem.run_bind,run_underlying hu,Result.andThen_ok,MapKept.run_getObj_map m2,hchk,o7,hf];have z8:(Instr.keyThatStays (((cZ.toArray[0+j]?).map (·.key)).getD (mkV rk.agg M9 o6)) (mkV rk.agg M9 o6)).run P w=.ok (mkV rk.agg M9 o6) w:=by
        have:(((cZ.toArray[0+j]?).map (·.key)).getD (mkV rk.agg M9 o6))=mkV rk.agg M9 o6:=by simp[hen,hek]
        rw[this];unfold Instr.keyThatStays;rw[EE E.one hlen];simp
       grind [Result.andThen_ok,MapKept.run_setObj_map]
     |_=>grind
    |_=>simp at he
theorem wQ{o6:List Int}:∀(es:List (List Int×LV)),bS es o6=none->yF es o6=es
 |[],_=>rfl
 |p::es,h=>by
  simp only[bS]at h
  split at h
  .cases h
  .rename_i Zy;simp only[yF,aAa Zy,wQ es h]
theorem BB{o6:List Int}{p:List Int×LV}:∀(es:List (List Int×LV)),p∈yF es o6->p∈es
 |[],h=>h
 |q::es,h=>by
  simp only[yF]at h
  split at h
  .grind
  .rcases aAe.1 h with rfl|h
   .grind
   .exact aAc _ (BB es h)
theorem Ga{ag:Bool}{ks:List IntKind}{o6:List Int}:∀(es:List (List Int×LV)) (cZ:List MapEntry) (i j:Nat) (v0:Value),fnd o6 es cZ i=some (i+j,v0)->cZ.map (·.key)=es.map (fun p=>mkV ag ks p.1)->aC w g (es.map (·.2)) (cZ.map (·.val))->
 (cZ.eraseIdx j).map (·.key)=(yF es o6).map (fun p=>mkV ag ks p.1)/\aC w g ((yF es o6).map (·.2)) ((cZ.eraseIdx j).map (·.val))/\j<cZ.length
 |[],cZ,i,j,v0,h1,_,_=>by grind [fnd]
 |p::es,[],i,j,v0,h1,_,_=>by grind
 |p::es,e::cZ,i,j,v0,h1,h2,h3=>by
  simp only[aAn,aBt]at h2;simp only[aAn,aC]at h3;obtain⟨v,vs,hv,k1,k2⟩:=h3;injection hv with U7 hv2;subst U7 hv2;simp only[fnd]at h1
  split at h1
  .rename_i hq;simp only[aAb,aAW]at h1
   grind [yF]
  .rename_i hq;have hj:∃ j',j=j'+1:=by
    cases j with
    |succ j'=>grind
    |zero=>
     exfalso;have:∀(es:List (List Int×LV)) (cZ:List MapEntry) (i m:Nat) (v:Value),fnd o6 es cZ i=some (m,v)->i<=m:=by
      intro es;induction es with
      |nil=>grind [fnd]
      |cons p es ih=>
       intro cZ i m v h;cases cZ with
       |nil=>grind [fnd]
       |cons e cZ=>
        grind [fnd]
     grind
   obtain⟨j',rfl⟩:=hj;obtain⟨a1,a2,a3⟩:=Ga (ag:=ag) (ks:=ks) es cZ (i+1) j' v0 (by rw[h1];grind) h2.2 k2
   grind [yF,aC]
theorem FR(hT:aZ P T)(hi:Inv w g st){t kt ty:TypeId}{x i:LV}{v vi:Value}{r:bT}(he:yM T t x i st=some r)(hc:r.c)(h:Rep w g x v)(hvi:Rep w g i vi):
 r.v=.tu []/\∃ w',(Builtin.delete_ #[t,kt] ty #[v,vi]).run P w=.ok (.tuple #[]) w'/\Inv w' g r.s/\Ext w g w' g:=by
 unfold yM at he;cases hm:kZ T t with
 |none=>grind
 |some p=>
  obtain⟨k,e⟩:=p;simp only[hm]at he;have hu:=oN hT hm;cases hk:T k with
  |none=>grind
  |some rk=>
   cases hki:yJ i with
   |none=>grind
   |some q=>
    obtain⟨ag,ks,o6⟩:=q;simp only[hk,hki]at he;obtain⟨rfl,hlen⟩:=sZ hki hvi;cases x with
    |mp l=>
     simp only at he;cases hl:st.H l with
     |map ag' M9 es=>
      simp only[hl,aAb]at he;subst he;obtain⟨c1,rfl,rfl,rfl⟩:=hc;have E:=(hT k rk hk).eqk _ c1;obtain⟨m0,m1,cZ,clock,m2,m3,m4,m5,m6,m7⟩:=hi.mp l _ _ es hl;simp only[Rep]at h;obtain⟨rfl,_⟩:=h;have o7:=lS (w:=w) E hlen es cZ m3 m1;have hchk:=fun em=>E.chk w em o6 hlen;refine⟨rfl,?_⟩;cases hg:bS es o6 with
      |none=>have hf:=uU o6 es cZ 0 hg;obtain⟨b1,b2⟩:=mZ (K0:=cZ) (clock':=clock) hi hl (es':=yF es o6) (fun p hp=>m1 p (BB es hp)) (by grind [wQ]) (by grind [wQ]) m6 m7;refine⟨_,?_,b1,b2⟩;unfold Builtin.delete_;simp[Sem.run_bind,run_underlying hu,Result.andThen_ok,MapKept.run_getObj_map m2,hchk,o7,hf];rw[MapKept.run_setObj_map _ m2];simp
      |some lv=>obtain⟨j,en,hf,hen,C8,E9⟩:=tI (w:=w) (g:=g) o6 es cZ 0 lv m4 hg;obtain⟨a1,a2,a3⟩:=Ga (ag:=rk.agg) (ks:=M9) es cZ 0 j en.val hf m3 m4;have D5:(cZ.eraseIdx j).Sublist cZ:=List.eraseIdx_sublist cZ j;obtain⟨b1,b2⟩:=mZ (K0:=cZ.eraseIdx j) (clock':=clock) hi hl (es':=yF es o6) (fun p hp=>m1 p (BB es hp)) a1 a2 (fun z hz=>m6 z (D5.subset hz)) (m7.sublist (D5.map _));refine⟨_,?_,b1,b2⟩;unfold Builtin.delete_;simp[Sem.run_bind,run_underlying hu,Result.andThen_ok,MapKept.run_getObj_map m2,hchk,o7,hf];rw[MapKept.run_setObj_map _ m2];simp
     |_=>grind
    |_=>simp at he
theorem IQ(h:Inv w g st)(ag:Bool)(ks:List IntKind):Inv (w.alloc (.map #[] 0)) (g.add w.heap.size 0 0 false) (st.new (.map ag ks [])):=by
 have he:=dI w g (.map #[] 0) 0 0 false;have hn:=h.next;refine⟨by grind [G.add,St.new],by simp[St.new],?_,?_,?_,?_,?_,?_,?_,h.aside.keep he (nM rfl)⟩
 .intro l hl;simp only[St.new]at hl ⊢;rw[aAa oO];exact h.fresh l oO
 .intro l hl;by_cases e0:l=st.next
  .subst e0;simp[G.add,hn]
  .rw[cP hn e0]at hl;have:=h.lt l hl;simp only[G.add,hn,aAa e0];simp;omega
 .intro l l' hl G5 hb;by_cases e0:l=st.next<;>by_cases e1:l'=st.next
  .omega
  .rw[cP hn e1]at G5;have:=h.lt l' G5
   grind [G.add]
  .rw[cP hn e0]at hl;have:=h.lt l hl
   grind [G.add]
  .rw[cP hn e0]at hl;rw[cP hn e1]at G5;simp only[G.add,hn,aAa e1,aAa e0]at hb;exact h.inj l l' hl G5 hb
 .intro l e' s n hl;by_cases e0:l=st.next
  .grind [St.new]
  .simp only[St.new,aAa e0]at hl;obtain⟨h1,h2,h3,h4⟩:=h.own l e' s n hl;simp only[G.add,hn,aAa e0]
   grind [heap_alloc_old]
 .intro l e' s' cs' hl;by_cases e0:l=st.next
  .grind [St.new]
  .simp only[St.new,aAa e0]at hl;obtain⟨k3,k0,k'⟩:=h.box l e' s' cs' hl;refine⟨?_,?_,fun r8=>?_⟩
   .grind [G.add]
   .grind [G.add]
   simp only[G.add,hn,aAa e0]at r8;obtain⟨K4,k1,k2,k4,k5,k6⟩:=k' r8;have dQ:g.β l<w.heap.size:=(aAH.1 k1).1;refine⟨K4,?_,?_,k4,aC.mono he _ _ k5,?_⟩
   .grind [G.add,heap_alloc_old]
   .grind [G.add]
   grind [G.add]
 .intro l ag' M9 es hl;by_cases e0:l=st.next
  .simp only[St.new,aAk e0]at hl;injection hl with a1 a2 a3;subst a1 a2 a3;refine⟨by grind [G.add],sS,[],0,?_,rfl,by simp[aC],by grind [G.add],sS,sS⟩
   grind [G.add,heap_alloc_new]
  .simp only[St.new,aAa e0]at hl;have hm:=h.mp l _ _ es hl;have dQ:=hm.blk_lt;exact hm.keep he (h.map_lt hl) (heap_alloc_old w _ _ dQ) (by grind [G.add])
 .intro l e' n hl;by_cases e0:l=st.next
  .grind [St.new]
  .simp only[St.new,aAa e0]at hl;have hm:=h.qu l e' n hl;have dQ:=hm.blk_lt;exact hm.keep he (h.que_lt hl) (heap_alloc_old w _ _ dQ) (by grind [G.add])
theorem CT(hT:aZ P T)(hi:Inv w g st){t:TypeId}{rs:Option LV}{vr:Option Value}{r:bT}(he:tG T t rs st=some r)(hvr:∀ x,rs=some x->∃ v,vr=some v/\Rep w g x v)(hvn:rs=none->vr=none):
 ∃ u w' g',(Instr.makeMap t vr).run P w=.ok u w'/\Rep w' g' r.v u/\Inv w' g' r.s/\Ext w g w' g':=by
 unfold tG at he;cases hm:kZ T t with
 |none=>grind
 |some p=>
  obtain⟨k,e⟩:=p;simp only[hm]at he;have hu:=oN hT hm;cases hk:T k with
  |none=>grind
  |some rk=>
   simp only[hk]at he;cases hck:rk.ck with
   |none=>grind
   |some ks=>
    simp only[hck]at he;have key:r=⟨True,.mp st.next,st.new (.map rk.agg ks [])⟩->(∃ w',w'=w/\(Instr.makeMap t vr).run P w=.ok (.map (some w.heap.size)) (w'.alloc (.map #[] 0)))->∃ u w' g',(Instr.makeMap t vr).run P w=.ok u w'/\Rep w' g' r.v u/\Inv w' g' r.s/\Ext w g w' g':=by rintro rfl ⟨_,rfl,o7⟩;refine⟨_,_,_,o7,?_,IQ hi rk.agg ks,dI _ _ _ _ _ _⟩;simp only[Rep,G.add,hi.next,aAk];exact⟨trivial,aCQ _⟩
    split at he
    .simp only[aAb]at he;refine key he.symm ⟨w,rfl,?_⟩;rw[hvn rfl];simp[Instr.makeMap]
    .rename_i kk nn;simp only[aAb]at he;refine key he.symm ⟨w,rfl,?_⟩;obtain⟨vv,rfl,hv⟩:=hvr _ rfl;simp only[Rep]at hv;subst hv
     first|(simp[Instr.makeMap,run_underlying hu];done)|simp[Instr.makeMap,run_underlying hu,asInt,asIntOf]
    grind
theorem IC{t:Nat}{r:bI}(h:aW P t r){ks:List IntKind}(hck:r.ck=some ks)(ha:r.agg=true){o6 bs:List Int}(h1:o6.length=ks.length)(h2:bs.length=ks.length)(ox oy:Operand)(op:BinOp)(neg:Bool)(hop:(op=.eql/\neg=false)\/(op=.neq/\neg=true)):
 (do eqGuard op t ox oy (mkV true ks o6) (mkV true ks bs);binOp op t (mkV true ks o6) (mkV true ks bs):Sem Value).run P w=.ok (.bool ((o6==bs) != neg)) w:=by
 have E:=h.eqk ks hck;rw[ha]at E;have hq:=E.eq w o6 bs h1 h2;have hg:=E.guard rfl;simp only[mkV,aBq]at hq ⊢;rw[Sem.run_bind,run_eqGuard_agg w op t ox oy _ _ hg];simp only[Result.andThen_ok];rcases hop with⟨rfl,rfl⟩|⟨rfl,rfl⟩
 .grind [binOp,Sem.run_bind,Result.andThen_ok,Sem.run_pure]
 .simp only[binOp,Sem.run_bind,hq,Result.andThen_ok,Sem.run_pure];simp
theorem qZ{t:Nat}{k:IntKind}(h:P.underlying t=some (.int k))(w:World)(em:Bool)(a:Int):(Instr.checkKey em 9999 t (.int k a)).run P w=.ok () w:=by rw[show(9999:Nat)=9998+1 from rfl];unfold Instr.checkKey;simp[run_underlying h]
theorem gU{t:Nat}{k:IntKind}(h:P.underlying t=some (.int k)):Fa P t false [k]:=by
 refine⟨fun w o6 bs h1 h2=>?_,fun w em o6 h1=>?_,(fun h=>by cases h),fun _=>rfl,_,h,.inl fun o6 bs h1 h2=>?_⟩
 .match o6,bs,h1,h2 with
  |[a],[b],_,_=>have:=run_equalIn_int (P:=P) w 9999 t k k a b h;simp only[mkV,mkC,aBa,aBN,List.headD_cons];unfold Op.equal Op.maxDepth;simp_all
 .match o6,h1 with
  |[a],_=>simp only[mkV,mkC,aBa,aBN,List.headD_cons];unfold Instr.checkKey;simp[run_underlying h]
 .match o6,bs,h1,h2 with
  |[a],[b],_,_=>simp[mkV,mkC,Instr.sameNow]
end
end Aw
end Go.Proofs.YtbgngpdonpeboaaGreatDoor
