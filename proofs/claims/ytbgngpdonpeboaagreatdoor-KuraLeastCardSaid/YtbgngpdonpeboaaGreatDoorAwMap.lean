/- Maps: what a look-up, an update, a new one do; '==' of structs. No program is named here. -/
import Derived.Test.YtbgngpdonpeboaaGreatDoorAwSound2
import Derived.MapKept
import Derived.Laws.StructEq
set_option linter.unusedVariables false
set_option linter.unusedSimpArgs false
namespace Go.Proofs.YtbgngpdonpeboaaGreatDoor
namespace Aw
open Go Go.RowKit
section
variable {P:Program} {T:Tab} {w:World} {g:G} {st:St}
theorem mH:∀(cs:List LV) (vs:List Value) (ks:List IntKind) (ns:List Int),iL cs=some (ks,ns)->aC w g cs vs->vs=mkC ks ns/\ns.length=ks.length
 |[],vs,ks,ns,h,hr=>by simp only[iL,aAb,aBd]at h;obtain⟨rfl,rfl⟩:=h;simp only[aC]at hr;exact⟨hr,rfl⟩
 |c::cs,vs,ks,ns,h,hr=>by
  simp only[aC]at hr;obtain⟨v,vs',rfl,h1,h2⟩:=hr;cases c with
  |atom x=>
   cases x with
   |int k n=>
    simp only[iL]at h;cases hi:iL cs with
    |none=>grind
    |some p=>obtain⟨R6,ns'⟩:=p;simp only[hi,aAb,aBd]at h;obtain⟨rfl,rfl⟩:=h;obtain⟨k1,k2⟩:=mH cs vs' R6 ns' hi h2;simp only[Rep]at h1;exact⟨by rw[h1,k1];rfl,by grind⟩
   |_=>simp[iL]at h
  |_=>simp[iL]at h
theorem tM{x:LV}{v:Value}{ag:Bool}{ks:List IntKind}{n9:List Int}(h:yU x=some (ag,ks,n9))(hr:Rep w g x v):v=mkV ag ks n9/\n9.length=ks.length:=by
 cases x with
 |atom y=>
  cases y with
  |int k n=>simp only[yU,aAb,aBd]at h;obtain⟨rfl,rfl,rfl⟩:=h;simp only[Rep]at hr;exact⟨by rw[hr];rfl,rfl⟩
  |_=>simp[yU]at h
 |ag cs=>
  simp only[yU]at h;cases hi:iL cs with
  |none=>grind
  |some p=>obtain⟨R6,ns'⟩:=p;simp only[hi,aAb,aBd]at h;obtain⟨rfl,rfl,rfl⟩:=h;simp only[Rep]at hr;obtain⟨vs,rfl,hr⟩:=hr;obtain⟨k1,k2⟩:=mH cs vs _ _ hi hr;exact⟨by rw[k1];rfl,k2⟩
 |_=>simp[yU]at h
def fnd(n9:List Int):List (List Int×LV)->List MapEntry->Nat->Option (Nat×Value)
 |p::es,e::cV,i=>if n9==p.1 then some (i,e.val)else fnd n9 es cV (i+1)
 |_,_,_=>none
theorem lX{t:Nat}{ag:Bool}{ks:List IntKind}(E:BM P t ag ks){n9:List Int}(ha:n9.length=ks.length)(es:List (List Int×LV))(cV:List MapEntry)(hk:cV.map (·.key)=es.map (fun p=>mkV ag ks p.1))(hl:∀ p∈es,p.1.length=ks.length):
 (Instr.findKey t (mkV ag ks n9) cV).run P w=.ok (fnd n9 es cV 0) w:=by
 obtain⟨d,hd,hn⟩:=E.now;have ask:∀(es:List (List Int×LV)) (cV:List MapEntry) (i:Nat),cV.map (·.key)=es.map (fun p=>mkV ag ks p.1)->(∀ p∈es,p.1.length=ks.length)->(Instr.findAsking t (mkV ag ks n9) cV i).run P w=.ok (fnd n9 es cV i) w:=by
  intro es;induction es with
  |nil=>intro cV i h1 _;cases cV with|nil=>simp[Instr.findAsking,fnd]|cons e cV=>grind
  |cons p es ih=>
   intro cV i h1 h2;cases cV with
   |nil=>grind
   |cons e cV=>
    simp only[aAl,aBt]at h1;have hq:=E.eq w n9 p.1 ha (h2 p sS)
    grind [Instr.findAsking,Sem.run_bind,Result.andThen_ok,Sem.run_pure,fnd]
 rcases hn with hn|hn
 .have now:∀(es:List (List Int×LV)) (cV:List MapEntry) (i:Nat),cV.map (·.key)=es.map (fun p=>mkV ag ks p.1)->(∀ p∈es,p.1.length=ks.length)->Instr.findNow d (mkV ag ks n9) cV i=some (fnd n9 es cV i):=by
   intro es;induction es with
   |nil=>intro cV i h1 _;cases cV with|nil=>simp[Instr.findNow,fnd]|cons e cV=>grind
   |cons p es ih=>
    intro cV i h1 h2;cases cV with
    |nil=>grind
    |cons e cV=>
     grind [Instr.findNow,fnd]
  grind [MapKept.run_findKey]
 .cases es with
  |nil=>cases cV with|nil=>simp[Instr.findKey,run_underlying hd,Instr.findNow,fnd]|cons e cV=>grind
  |cons p es=>
   cases cV with
   |nil=>grind
   |cons e cV=>
    have Q0:=hk;simp only[aAl,aBt]at hk;have hq:=hn n9 p.1 ha (hl p sS);have:Instr.findNow d (mkV ag ks n9) (e::cV) 0=none:=by simp[Instr.findNow,hk.1,hq]
    simp only[Instr.findKey,Sem.run_bind,run_underlying hd,Result.andThen_ok,this]
    grind
theorem vP(n9:List Int):∀(es:List (List Int×LV)) (cV:List MapEntry) (i:Nat),bN es n9=none->fnd n9 es cV i=none
 |[],cV,i,_=>by simp[fnd]
 |p::es,[],i,_=>by simp[fnd]
 |p::es,e::cV,i,h=>by
  simp only[bN]at h
  split at h
  .cases h
  .rename_i Zo;simp only[fnd,aAa Zo];exact vP n9 es cV (i+1) h
theorem uV(n9:List Int):∀(es:List (List Int×LV)) (cV:List MapEntry) (i:Nat) (lv:LV),aC w g (es.map (·.2)) (cV.map (·.val))->bN es n9=some lv->∃ j e,fnd n9 es cV i=some (i+j,e.val)/\cV[j]?=some e/\Rep w g lv e.val/\(es[j]?).map (·.1)=some n9
 |[],cV,i,lv,_,h=>by grind [bN]
 |p::es,[],i,lv,hr,h=>by grind [aC]
 |p::es,e::cV,i,lv,hr,h=>by
  simp only[aAl,aC]at hr;obtain⟨v,vs,hv,h1,h2⟩:=hr;injection hv with X8 hv2;subst X8 hv2;simp only[bN]at h
  split at h
  .rename_i hq;injection h with h;subst h;exact⟨0,e,by grind [fnd],rfl,h1,by grind⟩
  .rename_i hq;obtain⟨j,e',k1,k2,k3,k4⟩:=uV n9 es cV (i+1) lv h2 h;exact⟨j+1,e',by grind [fnd],by grind,k3,by grind⟩
theorem ND{t:Nat}{r:bH}(h:bC P t r):Rep w g (CT r) r.zeroV:=by
 unfold CT bH.zeroV;cases ha:r.agg with
 |true=>grind [Rep,cK]
 |false=>
  simp only[aBb,aBE];have h1:=h.one ha;have h2:=h.zl;cases hz:r.zero with
  |nil=>grind
  |cons z zs=>grind [hdL,tD]
theorem Fz(hT:aX P T)(hi:Inv w g st){t:TypeId}{x i:LV}{v vi:Value}{ok:Bool}{r:bP}(he:uJ T t x i ok st=some r)(hc:r.c)(h:Rep w g x v)(hvi:Rep w g i vi):
 r.s=st/\∃ u,(Instr.lookup t v vi ok).run P w=.ok u w/\Rep w g r.v u:=by
 unfold uJ at he;cases hm:kR T t with
 |none=>grind
 |some p=>
  obtain⟨k,e⟩:=p;simp only[hm]at he;have hu:=pR hT hm;cases hk:T k with
  |none=>grind
  |some rk=>
   cases M5:T e with
   |none=>grind
   |some re=>
    cases hki:yU i with
    |none=>grind
    |some q=>
     obtain⟨ag,ks,n9⟩:=q;simp only[hk,M5,hki]at he;obtain⟨rfl,hlen⟩:=tM hki hvi;have hz:=(hT e re M5).zeroValue w;have hzr:=ND (w:=w) (g:=g) (hT e re M5);cases x with
     |mp l=>
      simp only at he;cases hl:st.H l with
      |map ag' R6 es=>
       simp only[hl,aAb]at he;subst he;obtain⟨c1,rfl,rfl,rfl⟩:=hc;have E:=(hT k rk hk).eqk _ c1;obtain⟨_,m1,cV,clock,m2,m3,m4,m5,m6,m7⟩:=hi.mp l _ _ es hl;simp only[Rep]at h;obtain⟨rfl,_⟩:=h;have o6:=lX (w:=w) E hlen es cV m3 m1;have hchk:=fun em=>E.chk w em n9 hlen;refine⟨rfl,?_⟩;have key:∀ fv:Value×Bool,(match fnd n9 es cV 0 with|some (_,v)=>(v,true)|none=>(re.zeroV,false))=fv->(Instr.lookup t (.map (some (g.β l))) (mkV rk.agg R6 n9) ok).run P w=.ok (if ok then .tuple #[fv.1,.bool fv.2]else fv.1) w:=by
        intro fv hfv;unfold Instr.lookup;simp only[Sem.run_bind,run_underlying hu,Result.andThen_ok,MapKept.run_getObj_map m2,Sem.run_pure,hchk,o6];cases hf:fnd n9 es cV 0 with
        |none=>rw[hf]at hfv;subst hfv;simp_all
        |some q=>simp_all
       cases hg:bN es n9 with
       |none=>
        grind [vP,Rep,aC]
       |some lv=>
        obtain⟨j,en,hf,_,G9,_⟩:=uV (w:=w) (g:=g) n9 es cV 0 lv m4 hg
        grind [Rep,aC]
      |_=>grind
     |atom y=>
      cases y with
      |map b=>
       cases b with
       |none=>
        simp only[aAb]at he;subst he;obtain⟨c1,rfl⟩:=hc;have E:=(hT k rk hk).eqk _ c1;simp only[Rep]at h;subst h;have o6:=lX (w:=w) E hlen [] [] rfl sS;have hchk:=fun em=>E.chk w em n9 hlen;refine⟨rfl,(if ok then .tuple #[re.zeroV,.bool false]else re.zeroV),?_,?_⟩
        .unfold Instr.lookup;simp only[Sem.run_bind,run_underlying hu,Result.andThen_ok,Sem.run_pure,hchk,o6,fnd,hz]
        grind [Rep,aC]
       |some b=>grind
      |_=>simp at he
     |_=>simp at he
theorem nT(h:Inv w g st){l:Nat}{ag:Bool}{ks:List IntKind}{es es':List (List Int×LV)}{N3:List MapEntry}{clock':Nat}(hl:st.H l=.map ag ks es)(h1:∀ p∈es',p.1.length=ks.length)
 (h2:N3.map (·.key)=es'.map (fun p=>mkV ag ks p.1)) (h3:aC w g (es'.map (·.2)) (N3.map (·.val))) (h4:∀ x∈N3,x.born<clock') (h5:(N3.map (·.born)).Nodup):
 Inv { w with heap:=w.heap.setIfInBounds (g.β l) (.map N3.toArray clock') } g (st.set l (.map ag ks es'))/\Ext w g { w with heap:=w.heap.setIfInBounds (g.β l) (.map N3.toArray clock') } g:=by
 obtain⟨m0,m1,cV,clock,m2,m3,m4,m5,m6,m7⟩:=h.mp l _ _ es hl;have P0:=h.map_blk hl;have dG:=(h.mp l _ _ es hl).blk_lt;have S3:∀ b,b≠g.β l->(w.heap.setIfInBounds (g.β l) (.map N3.toArray clock'))[b]?=w.heap[b]?:=by intro b hb;rw[aBB,aAa (aCB hb)]
 have hself:(w.heap.setIfInBounds (g.β l) (.map N3.toArray clock'))[g.β l]?=some (.map N3.toArray clock'):=by simp[aBB,dG]
 have he:Ext w g { w with heap:=w.heap.setIfInBounds (g.β l) (.map N3.toArray clock') } g:=by
  refine⟨rfl,rfl,rfl,sS,aAm _,fun _ _=>rfl,fun _ _=>rfl,fun _ _=>rfl,?_,?_⟩
  .grind
  .grind [World.cell?_of_block]
 have hb:∀ x,blk g (st.set l (.map ag ks es')) x↔blk g st x:=by
  intro x;unfold blk;simp only[St.set];by_cases hx:x=l
  .grind
  .grind
 have hltn:l<st.next:=by rw[<- h.next];exact h.map_lt hl
 refine⟨⟨h.next,h.pos,?_,?_,?_,?_,?_,?_,?_,h.aside.keep he (jI rfl)⟩,he⟩
 .intro x hx;simp only[St.set]at hx ⊢;rw[aAa oO];exact h.fresh x hx
 .intro x hx;simpa using h.lt x ((hb x).1 hx)
 .intro x y hx hy;exact h.inj x y ((hb x).1 hx) ((hb y).1 hy)
 .intro x e' s n hx;by_cases e0:x=l
  .grind [St.set]
  .simp only[St.set,aAa e0]at hx;obtain⟨k1,k2,k3,k4⟩:=h.own x e' s n hx
   grind
 .intro x e' s' cs'' hx;by_cases e0:x=l
  .grind [St.set]
  .simp only[St.set,aAa e0]at hx;obtain⟨q3,q0,q'⟩:=h.box x e' s' cs'' hx
   grind [aC.mono]
 .intro x ag' R6 es'' hx;by_cases e0:x=l
  .simp only[St.set,aAj e0]at hx;injection hx with a1 a2 a3;subst a1 a2 a3 e0;exact⟨m0,h1,N3,clock',hself,h2,aC.mono he _ _ h3,m5,h4,h5⟩
  .simp only[St.set,aAa e0]at hx;exact(h.mp x _ _ _ hx).keep he (h.map_lt hx) (S3 _ (fun hh=>e0 (h.inj x l (h.map_blk hx) P0 hh))) rfl
 .intro x e' n hx;by_cases e0:x=l
  .grind [St.set]
  .simp only[St.set,aAa e0]at hx;exact(h.qu x _ _ hx).keep he (h.que_lt hx) (S3 _ (fun hh=>e0 (h.inj x l (h.que_blk hx) P0 hh))) rfl
theorem FD{ag:Bool}{ks:List IntKind}{n9:List Int}(h1:ag=false->ks.length=1)(h2:n9.length=ks.length):Instr.sameBits 10000 (mkV ag ks n9) (mkV ag ks n9)=true:=by
 have hz:∀(ks:List IntKind) (n9:List Int) (n:Nat),((mkC ks n9).zip (mkC ks n9)).all (fun p=>Instr.sameBits n p.1 p.2)=true:=by
  intro ks;induction ks with
  |nil=>intro n9 n;simp[mkC]
  |cons k ks ih=>
   intro n9 n;cases n9 with
   |nil=>simp[mkC]
   |cons a n9=>simp only[mkC,List.zip_cons_cons,List.all_cons,ih,Bool.and_true];grind [Instr.sameBits]
 cases ag with
 |true=>simp only[mkV,aBq,Instr.sameBits];simpa using hz ks n9 9999
 |false=>
  have hk:=h1 rfl
  match ks,n9,hk,h2 with
  |[k],[a],_,_=>simp[mkV,mkC,Instr.sameBits]
theorem HI{es:List (List Int×LV)}{n9:List Int}{v:LV}{n:Nat}(h:∀ p∈es,p.1.length=n)(ha:n9.length=n):∀ p∈bQ es n9 v,p.1.length=n:=by
 induction es with
 |nil=>grind [bQ]
 |cons q es ih=>
  grind [bQ]
theorem II{ag:Bool}{ks:List IntKind}{n9:List Int}{lv:LV}{vv:Value}(c:Nat)(G9:Rep w g lv vv):∀(es:List (List Int×LV)) (cV:List MapEntry),bN es n9=none->cV.map (·.key)=es.map (fun p=>mkV ag ks p.1)->aC w g (es.map (·.2)) (cV.map (·.val))->
 (cV++[(⟨mkV ag ks n9,vv,c⟩:MapEntry)]).map (·.key)=(bQ es n9 lv).map (fun p=>mkV ag ks p.1)/\aC w g ((bQ es n9 lv).map (·.2)) ((cV++[(⟨mkV ag ks n9,vv,c⟩:MapEntry)]).map (·.val))
 |[],cV,_,h2,h3=>by
  grind [bQ,aC]
 |p::es,[],_,h2,_=>by grind
 |p::es,e::cV,h1,h2,h3=>by
  simp only[bN]at h1
  split at h1
  .grind
  .rename_i Zo;simp only[aAl,aBt]at h2;simp only[aAl,aC]at h3;obtain⟨v,vs,hv,k1,k2⟩:=h3;injection hv with X8 hv2;subst X8 hv2;obtain⟨a1,a2⟩:=II c G9 es cV h1 h2.2 k2
   grind [bQ,aC]
theorem IC{ag:Bool}{ks:List IntKind}{n9:List Int}{lv:LV}{vv:Value}(G9:Rep w g lv vv):∀(es:List (List Int×LV)) (cV:List MapEntry) (i j:Nat) (v0:Value),fnd n9 es cV i=some (i+j,v0)->cV.map (·.key)=es.map (fun p=>mkV ag ks p.1)->aC w g (es.map (·.2)) (cV.map (·.val))->
 (cV.modify j fun e=>{ e with key:=mkV ag ks n9,val:=vv }).map (·.key)=(bQ es n9 lv).map (fun p=>mkV ag ks p.1)/\aC w g ((bQ es n9 lv).map (·.2)) ((cV.modify j fun e=>{ e with key:=mkV ag ks n9,val:=vv }).map (·.val))/\
   (cV.modify j fun e=>{ e with key:=mkV ag ks n9,val:=vv }).map (·.born)=cV.map (·.born)
 |[],cV,i,j,v0,h1,_,_=>by grind [fnd]
 |p::es,[],i,j,v0,h1,_,_=>by grind
 |p::es,e::cV,i,j,v0,h1,h2,h3=>by
  simp only[aAl,aBt]at h2;simp only[aAl,aC]at h3;obtain⟨v,vs,hv,k1,k2⟩:=h3;injection hv with X8 hv2;subst X8 hv2;simp only[fnd]at h1
  split at h1
  .rename_i hq;simp only[aAb,aBd]at h1
   grind [bQ,aC]
  .rename_i hq;have hj:∃ j',j=j'+1:=by
    cases j with
    |succ j'=>grind
    |zero=>
     exfalso;have:∀(es:List (List Int×LV)) (cV:List MapEntry) (i m:Nat) (v:Value),fnd n9 es cV i=some (m,v)->i<=m:=by
      intro es;induction es with
      |nil=>grind [fnd]
      |cons p es ih=>
       intro cV i m v h;cases cV with
       |nil=>grind [fnd]
       |cons e cV=>
        grind [fnd]
     grind
   obtain⟨j',rfl⟩:=hj;obtain⟨a1,a2,a3⟩:=IC (ag:=ag) (ks:=ks) G9 es cV (i+1) j' v0 (by rw[h1];grind) h2.2 k2
   grind [bQ,aC]
theorem vD(hT:aX P T)(hi:Inv w g st){t:TypeId}{x i y:LV}{v vi vy:Value}{r:bP}(he:uE T t x i y st=some r)(hc:r.c)(h:Rep w g x v)(hvi:Rep w g i vi)(hvy:Rep w g y vy):
 r.v=.dead/\∃ w',(Instr.mapUpdate t v vi vy).run P w=.ok () w'/\Inv w' g r.s/\Ext w g w' g:=by
 unfold uE at he;cases hm:kR T t with
 |none=>grind
 |some p=>
  obtain⟨k,e⟩:=p;simp only[hm]at he;have hu:=pR hT hm;cases hk:T k with
  |none=>grind
  |some rk=>
   cases hki:yU i with
   |none=>grind
   |some q=>
    obtain⟨ag,ks,n9⟩:=q;simp only[hk,hki]at he;obtain⟨rfl,hlen⟩:=tM hki hvi;cases x with
    |mp l=>
     simp only at he;cases hl:st.H l with
     |map ag' R6 es=>
      simp only[hl,aAb]at he;subst he;obtain⟨c1,rfl,rfl,rfl⟩:=hc;have E:=(hT k rk hk).eqk _ c1;obtain⟨m0,m1,cV,clock,m2,m3,m4,m5,m6,m7⟩:=hi.mp l _ _ es hl;simp only[Rep]at h;obtain⟨rfl,_⟩:=h;have o6:=lX (w:=w) E hlen es cV m3 m1;have hchk:=fun em=>E.chk w em n9 hlen;refine⟨rfl,?_⟩;cases hg:bN es n9 with
      |none=>
       have hf:=vP n9 es cV 0 hg;obtain⟨a1,a2⟩:=II (ag:=rk.agg) (ks:=R6) clock hvy es cV hg m3 m4
       obtain⟨b1,b2⟩:=nT (clock':=clock+1) hi hl (HI m1 hlen) a1 a2 (fun z hz=>by
        grind) (by
        grind)
       refine⟨_,?_,b1,b2⟩;unfold Instr.mapUpdate;simp only[Sem.run_bind,run_underlying hu,Result.andThen_ok,MapKept.run_getObj_map m2,hchk,o6,hf]
       grind [MapKept.run_setObj_map]
      |some lv=>
       obtain⟨j,en,hf,hen,G9,J4⟩:=uV (w:=w) (g:=g) n9 es cV 0 lv m4 hg;obtain⟨a1,a2,a3⟩:=IC (ag:=rk.agg) (ks:=R6) hvy es cV 0 j en.val hf m3 m4
       obtain⟨b1,b2⟩:=nT (clock':=clock) hi hl (HI m1 hlen) a1 a2 (fun z hz=>by
        have:z.born∈(cV.map (·.born)):=by rw[<- a3];exact aAi.2 ⟨z,hz,rfl⟩
        grind) (by grind)
       refine⟨_,?_,b1,b2⟩;have hek:en.key=mkV rk.agg R6 n9:=by
        have h1:(cV.map (·.key))[j]?=some en.key:=by simp[hen]
        rw[m3,aCi]at h1;cases hej:es[j]? with
        |none=>grind
        |some q=>grind
       unfold Instr.mapUpdate;simp only[Sem.run_bind,run_underlying hu,Result.andThen_ok,MapKept.run_getObj_map m2,hchk,o6,hf];have I2:(Instr.keyThatStays (((cV.toArray[0+j]?).map (·.key)).getD (mkV rk.agg R6 n9)) (mkV rk.agg R6 n9)).run P w=.ok (mkV rk.agg R6 n9) w:=by
        have:(((cV.toArray[0+j]?).map (·.key)).getD (mkV rk.agg R6 n9))=mkV rk.agg R6 n9:=by simp[hen,hek]
        rw[this];unfold Instr.keyThatStays;rw[FD E.one hlen];simp
       grind [Result.andThen_ok,MapKept.run_setObj_map]
     |_=>grind
    |_=>simp at he
theorem wH{n9:List Int}:∀(es:List (List Int×LV)),bN es n9=none->yT es n9=es
 |[],_=>rfl
 |p::es,h=>by
  simp only[bN]at h
  split at h
  .cases h
  .rename_i Zo;simp only[yT,aAa Zo,wH es h]
theorem CG{n9:List Int}{p:List Int×LV}:∀(es:List (List Int×LV)),p∈yT es n9->p∈es
 |[],h=>h
 |q::es,h=>by
  simp only[yT]at h
  split at h
  .grind
  .rcases aAe.1 h with rfl|h
   .grind
   .exact aAc _ (CG es h)
theorem Ia{ag:Bool}{ks:List IntKind}{n9:List Int}:∀(es:List (List Int×LV)) (cV:List MapEntry) (i j:Nat) (v0:Value),fnd n9 es cV i=some (i+j,v0)->cV.map (·.key)=es.map (fun p=>mkV ag ks p.1)->aC w g (es.map (·.2)) (cV.map (·.val))->
 (cV.eraseIdx j).map (·.key)=(yT es n9).map (fun p=>mkV ag ks p.1)/\aC w g ((yT es n9).map (·.2)) ((cV.eraseIdx j).map (·.val))/\j<cV.length
 |[],cV,i,j,v0,h1,_,_=>by grind [fnd]
 |p::es,[],i,j,v0,h1,_,_=>by grind
 |p::es,e::cV,i,j,v0,h1,h2,h3=>by
  simp only[aAl,aBt]at h2;simp only[aAl,aC]at h3;obtain⟨v,vs,hv,k1,k2⟩:=h3;injection hv with X8 hv2;subst X8 hv2;simp only[fnd]at h1
  split at h1
  .rename_i hq;simp only[aAb,aBd]at h1
   grind [yT]
  .rename_i hq;have hj:∃ j',j=j'+1:=by
    cases j with
    |succ j'=>grind
    |zero=>
     exfalso;have:∀(es:List (List Int×LV)) (cV:List MapEntry) (i m:Nat) (v:Value),fnd n9 es cV i=some (m,v)->i<=m:=by
      intro es;induction es with
      |nil=>grind [fnd]
      |cons p es ih=>
       intro cV i m v h;cases cV with
       |nil=>grind [fnd]
       |cons e cV=>
        grind [fnd]
     grind
   obtain⟨j',rfl⟩:=hj;obtain⟨a1,a2,a3⟩:=Ia (ag:=ag) (ks:=ks) es cV (i+1) j' v0 (by rw[h1];grind) h2.2 k2
   grind [yT,aC]
theorem Ek(hT:aX P T)(hi:Inv w g st){t kt ty:TypeId}{x i:LV}{v vi:Value}{r:bP}(he:zQ T t x i st=some r)(hc:r.c)(h:Rep w g x v)(hvi:Rep w g i vi):
 r.v=.tu []/\∃ w',(Builtin.delete_ #[t,kt] ty #[v,vi]).run P w=.ok (.tuple #[]) w'/\Inv w' g r.s/\Ext w g w' g:=by
 unfold zQ at he;cases hm:kR T t with
 |none=>grind
 |some p=>
  obtain⟨k,e⟩:=p;simp only[hm]at he;have hu:=pR hT hm;cases hk:T k with
  |none=>grind
  |some rk=>
   cases hki:yU i with
   |none=>grind
   |some q=>
    obtain⟨ag,ks,n9⟩:=q;simp only[hk,hki]at he;obtain⟨rfl,hlen⟩:=tM hki hvi;cases x with
    |mp l=>
     simp only at he;cases hl:st.H l with
     |map ag' R6 es=>
      simp only[hl,aAb]at he;subst he;obtain⟨c1,rfl,rfl,rfl⟩:=hc;have E:=(hT k rk hk).eqk _ c1;obtain⟨m0,m1,cV,clock,m2,m3,m4,m5,m6,m7⟩:=hi.mp l _ _ es hl;simp only[Rep]at h;obtain⟨rfl,_⟩:=h;have o6:=lX (w:=w) E hlen es cV m3 m1;have hchk:=fun em=>E.chk w em n9 hlen;refine⟨rfl,?_⟩;cases hg:bN es n9 with
      |none=>have hf:=vP n9 es cV 0 hg;obtain⟨b1,b2⟩:=nT (N3:=cV) (clock':=clock) hi hl (es':=yT es n9) (fun p hp=>m1 p (CG es hp)) (by grind [wH]) (by grind [wH]) m6 m7;refine⟨_,?_,b1,b2⟩;unfold Builtin.delete_;simp[Sem.run_bind,run_underlying hu,Result.andThen_ok,MapKept.run_getObj_map m2,hchk,o6,hf];rw[MapKept.run_setObj_map _ m2];simp
      |some lv=>obtain⟨j,en,hf,hen,G9,J4⟩:=uV (w:=w) (g:=g) n9 es cV 0 lv m4 hg;obtain⟨a1,a2,a3⟩:=Ia (ag:=rk.agg) (ks:=R6) es cV 0 j en.val hf m3 m4;have H7:(cV.eraseIdx j).Sublist cV:=List.eraseIdx_sublist cV j;obtain⟨b1,b2⟩:=nT (N3:=cV.eraseIdx j) (clock':=clock) hi hl (es':=yT es n9) (fun p hp=>m1 p (CG es hp)) a1 a2 (fun z hz=>m6 z (H7.subset hz)) (m7.sublist (H7.map _));refine⟨_,?_,b1,b2⟩;unfold Builtin.delete_;simp[Sem.run_bind,run_underlying hu,Result.andThen_ok,MapKept.run_getObj_map m2,hchk,o6,hf];rw[MapKept.run_setObj_map _ m2];simp
     |_=>grind
    |_=>simp at he
theorem Iz(h:Inv w g st)(ag:Bool)(ks:List IntKind):Inv (w.alloc (.map #[] 0)) (g.add w.heap.size 0 0 false) (st.new (.map ag ks [])):=by
 have he:=dN w g (.map #[] 0) 0 0 false;have hn:=h.next;refine⟨by grind [G.add,St.new],by simp[St.new],?_,?_,?_,?_,?_,?_,?_,h.aside.keep he (nW rfl)⟩
 .intro l hl;simp only[St.new]at hl ⊢;rw[aAa oO];exact h.fresh l oO
 .intro l hl;by_cases e0:l=st.next
  .subst e0;simp[G.add,hn]
  .rw[cN hn e0]at hl;have:=h.lt l hl;simp only[G.add,hn,aAa e0];simp;omega
 .intro l l' hl K3 hb;by_cases e0:l=st.next<;>by_cases e1:l'=st.next
  .omega
  .rw[cN hn e1]at K3;have:=h.lt l' K3
   grind [G.add]
  .rw[cN hn e0]at hl;have:=h.lt l hl
   grind [G.add]
  .rw[cN hn e0]at hl;rw[cN hn e1]at K3;simp only[G.add,hn,aAa e1,aAa e0]at hb;exact h.inj l l' hl K3 hb
 .intro l e' s n hl;by_cases e0:l=st.next
  .grind [St.new]
  .simp only[St.new,aAa e0]at hl;obtain⟨h1,h2,h3,h4⟩:=h.own l e' s n hl;simp only[G.add,hn,aAa e0]
   grind [heap_alloc_old]
 .intro l e' s' cs' hl;by_cases e0:l=st.next
  .grind [St.new]
  .simp only[St.new,aAa e0]at hl;obtain⟨k3,k0,k'⟩:=h.box l e' s' cs' hl;refine⟨?_,?_,fun r8=>?_⟩
   .grind [G.add]
   .grind [G.add]
   simp only[G.add,hn,aAa e0]at r8;obtain⟨N6,k1,k2,k4,k5,k6⟩:=k' r8;have dG:g.β l<w.heap.size:=(aAH.1 k1).1;refine⟨N6,?_,?_,k4,aC.mono he _ _ k5,?_⟩
   .grind [G.add,heap_alloc_old]
   .grind [G.add]
   grind [G.add]
 .intro l ag' R6 es hl;by_cases e0:l=st.next
  .simp only[St.new,aAj e0]at hl;injection hl with a1 a2 a3;subst a1 a2 a3;refine⟨by grind [G.add],sS,[],0,?_,rfl,by simp[aC],by grind [G.add],sS,sS⟩
   grind [G.add,heap_alloc_new]
  .simp only[St.new,aAa e0]at hl;have hm:=h.mp l _ _ es hl;have dG:=hm.blk_lt;exact hm.keep he (h.map_lt hl) (heap_alloc_old w _ _ dG) (by grind [G.add])
 .intro l e' n hl;by_cases e0:l=st.next
  .grind [St.new]
  .simp only[St.new,aAa e0]at hl;have hm:=h.qu l e' n hl;have dG:=hm.blk_lt;exact hm.keep he (h.que_lt hl) (heap_alloc_old w _ _ dG) (by grind [G.add])
theorem Cj(hT:aX P T)(hi:Inv w g st){t:TypeId}{rs:Option LV}{vr:Option Value}{r:bP}(he:vL T t rs st=some r)(hvr:∀ x,rs=some x->∃ v,vr=some v/\Rep w g x v)(hvn:rs=none->vr=none):
 ∃ u w' g',(Instr.makeMap t vr).run P w=.ok u w'/\Rep w' g' r.v u/\Inv w' g' r.s/\Ext w g w' g':=by
 unfold vL at he;cases hm:kR T t with
 |none=>grind
 |some p=>
  obtain⟨k,e⟩:=p;simp only[hm]at he;have hu:=pR hT hm;cases hk:T k with
  |none=>grind
  |some rk=>
   simp only[hk]at he;cases hck:rk.ck with
   |none=>grind
   |some ks=>
    simp only[hck]at he;have key:r=⟨True,.mp st.next,st.new (.map rk.agg ks [])⟩->(∃ w',w'=w/\(Instr.makeMap t vr).run P w=.ok (.map (some w.heap.size)) (w'.alloc (.map #[] 0)))->∃ u w' g',(Instr.makeMap t vr).run P w=.ok u w'/\Rep w' g' r.v u/\Inv w' g' r.s/\Ext w g w' g':=by rintro rfl ⟨_,rfl,o6⟩;refine⟨_,_,_,o6,?_,Iz hi rk.agg ks,dN _ _ _ _ _ _⟩;simp only[Rep,G.add,hi.next,aAj];exact⟨trivial,aDa _⟩
    split at he
    .simp only[aAb]at he;refine key he.symm ⟨w,rfl,?_⟩;rw[hvn rfl];simp[Instr.makeMap]
    .rename_i kk nn;simp only[aAb]at he;refine key he.symm ⟨w,rfl,?_⟩;obtain⟨vv,rfl,hv⟩:=hvr _ rfl;simp only[Rep]at hv;subst hv
     first|(simp[Instr.makeMap,run_underlying hu];done)|simp[Instr.makeMap,run_underlying hu,asInt,asIntOf]
    grind
theorem HY{t:Nat}{r:bH}(h:bC P t r){ks:List IntKind}(hck:r.ck=some ks)(ha:r.agg=true){n9 bs:List Int}(h1:n9.length=ks.length)(h2:bs.length=ks.length)(ox oy:Operand)(op:BinOp)(neg:Bool)(hop:(op=.eql/\neg=false)\/(op=.neq/\neg=true)):
 (do eqGuard op t ox oy (mkV true ks n9) (mkV true ks bs);binOp op t (mkV true ks n9) (mkV true ks bs):Sem Value).run P w=.ok (.bool ((n9==bs) != neg)) w:=by
 have E:=h.eqk ks hck;rw[ha]at E;have hq:=E.eq w n9 bs h1 h2;have hg:=E.guard rfl;simp only[mkV,aBq]at hq ⊢;rw[Sem.run_bind,run_eqGuard_agg w op t ox oy _ _ hg];simp only[Result.andThen_ok];rcases hop with⟨rfl,rfl⟩|⟨rfl,rfl⟩
 .grind [binOp,Sem.run_bind,Result.andThen_ok,Sem.run_pure]
 .simp only[binOp,Sem.run_bind,hq,Result.andThen_ok,Sem.run_pure];simp
theorem sD{t:Nat}{k:IntKind}(h:P.underlying t=some (.int k))(w:World)(em:Bool)(a:Int):(Instr.checkKey em 9999 t (.int k a)).run P w=.ok () w:=by rw[show(9999:Nat)=9998+1 from rfl];unfold Instr.checkKey;simp[run_underlying h]
theorem Sa{t:Nat}{k:IntKind}(h:P.underlying t=some (.int k)):BM P t false [k]:=by
 refine⟨fun w n9 bs h1 h2=>?_,fun w em n9 h1=>?_,(fun h=>by cases h),fun _=>rfl,_,h,.inl fun n9 bs h1 h2=>?_⟩
 .match n9,bs,h1,h2 with
  |[a],[b],_,_=>have:=run_equalIn_int (P:=P) w 9999 t k k a b h;simp only[mkV,mkC,aBb,aBE,List.headD_cons];unfold Op.equal Op.maxDepth;simp_all
 .match n9,h1 with
  |[a],_=>simp only[mkV,mkC,aBb,aBE,List.headD_cons];unfold Instr.checkKey;simp[run_underlying h]
 .match n9,bs,h1,h2 with
  |[a],[b],_,_=>simp[mkV,mkC,Instr.sameNow]
end
end Aw
end Go.Proofs.YtbgngpdonpeboaaGreatDoor
