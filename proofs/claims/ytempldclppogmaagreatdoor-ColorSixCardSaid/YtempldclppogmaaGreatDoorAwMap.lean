/- Maps: what a look-up, an update, a new one do; '==' of structs. No program is named here. -/
import Derived.Test.YtempldclppogmaaGreatDoorAwSound2
import Derived.MapKept
import Derived.Laws.StructEq
set_option linter.unusedVariables false
set_option linter.unusedSimpArgs false
namespace Go.Proofs.YtempldclppogmaaGreatDoor
namespace Aw
open Go Go.RowKit
section
variable {P:Program} {T:Tab} {w:World} {g:G} {st:St}
theorem lV:∀(cs:List LV) (vs:List Value) (ks:List IntKind) (ns:List Int),gG cs=some (ks,ns)->aC w g cs vs->vs=mkC ks ns/\ns.length=ks.length
 |[],vs,ks,ns,h,hr=>by simp only[gG,aAb,aAW]at h;obtain⟨rfl,rfl⟩:=h;simp only[aC]at hr;exact⟨hr,rfl⟩
 |c::cs,vs,ks,ns,h,hr=>by
  simp only[aC]at hr;obtain⟨v,vs',rfl,h1,h2⟩:=hr;cases c with
  |atom x=>
   cases x with
   |int k n=>
    simp only[gG]at h;cases hi:gG cs with
    |none=>simp[hi]at h
    |some p=>obtain⟨Zy,ns'⟩:=p;simp only[hi,aAb,aAW]at h;obtain⟨rfl,rfl⟩:=h;obtain⟨k1,k2⟩:=lV cs vs' Zy ns' hi h2;simp only[Rep]at h1;exact⟨by rw[h1,k1];rfl,by simp[k2]⟩
   |_=>simp[gG]at h
  |_=>simp[gG]at h
theorem tF{x:LV}{v:Value}{ag:Bool}{ks:List IntKind}{Xs:List Int}(h:yK x=some (ag,ks,Xs))(hr:Rep w g x v):v=mkV ag ks Xs/\Xs.length=ks.length:=by
 cases x with
 |atom y=>
  cases y with
  |int k n=>simp only[yK,aAb,aAW]at h;obtain⟨rfl,rfl,rfl⟩:=h;simp only[Rep]at hr;exact⟨by rw[hr];rfl,rfl⟩
  |_=>simp[yK]at h
 |ag cs=>
  simp only[yK]at h;cases hi:gG cs with
  |none=>simp[hi]at h
  |some p=>obtain⟨Zy,ns'⟩:=p;simp only[hi,aAb,aAW]at h;obtain⟨rfl,rfl,rfl⟩:=h;simp only[Rep]at hr;obtain⟨vs,rfl,hr⟩:=hr;obtain⟨k1,k2⟩:=lV cs vs _ _ hi hr;exact⟨by rw[k1];rfl,k2⟩
 |_=>simp[yK]at h
def fnd(Xs:List Int):List (List Int×LV)->List MapEntry->Nat->Option (Nat×Value)
 |p::es,e::dX,i=>if Xs==p.1 then some (i,e.val)else fnd Xs es dX (i+1)
 |_,_,_=>none
theorem mE{t:Nat}{ag:Bool}{ks:List IntKind}(E:Er P t ag ks){Xs:List Int}(ha:Xs.length=ks.length)(es:List (List Int×LV))(dX:List MapEntry)(hk:dX.map (·.key)=es.map (fun p=>mkV ag ks p.1))(hl:∀ p∈es,p.1.length=ks.length):
 (Instr.findKey t (mkV ag ks Xs) dX).run P w=.ok (fnd Xs es dX 0) w:=by
 obtain⟨d,hd,hn⟩:=E.now;have ask:∀(es:List (List Int×LV)) (dX:List MapEntry) (i:Nat),dX.map (·.key)=es.map (fun p=>mkV ag ks p.1)->(∀ p∈es,p.1.length=ks.length)->(Instr.findAsking t (mkV ag ks Xs) dX i).run P w=.ok (fnd Xs es dX i) w:=by
  intro es;induction es with
  |nil=>intro dX i h1 _;cases dX with|nil=>simp[Instr.findAsking,fnd]|cons e dX=>simp at h1
  |cons p es ih=>
   intro dX i h1 h2;cases dX with
   |nil=>simp at h1
   |cons e dX=>
    simp only[aAi,aBi]at h1;have hq:=E.eq w Xs p.1 ha (h2 p sS);simp only[Instr.findAsking,h1.1,Sem.run_bind,hq,Result.andThen_ok,Sem.run_ite,Sem.run_pure,fnd]
    split
    .rfl
    .exact ih dX (i+1) h1.2 (fun q hq=>h2 q (by simp[hq]))
 rcases hn with hn|hn
 .have now:∀(es:List (List Int×LV)) (dX:List MapEntry) (i:Nat),dX.map (·.key)=es.map (fun p=>mkV ag ks p.1)->(∀ p∈es,p.1.length=ks.length)->Instr.findNow d (mkV ag ks Xs) dX i=some (fnd Xs es dX i):=by
   intro es;induction es with
   |nil=>intro dX i h1 _;cases dX with|nil=>simp[Instr.findNow,fnd]|cons e dX=>simp at h1
   |cons p es ih=>
    intro dX i h1 h2;cases dX with
    |nil=>simp at h1
    |cons e dX=>
     simp only[aAi,aBi]at h1;have hq:=hn Xs p.1 ha (h2 p sS);simp only[Instr.findNow,h1.1,hq,fnd];cases hb:(Xs==p.1)
     .simp only[aAS,aBD];exact ih dX (i+1) h1.2 (fun q hq=>h2 q (by simp[hq]))
     .simp
  exact MapKept.run_findKey hd (now es dX 0 hk hl)
 .cases es with
  |nil=>cases dX with|nil=>simp[Instr.findKey,run_underlying hd,Instr.findNow,fnd]|cons e dX=>simp at hk
  |cons p es=>
   cases dX with
   |nil=>simp at hk
   |cons e dX=>
    have ZU:=hk;simp only[aAi,aBi]at hk;have hq:=hn Xs p.1 ha (hl p sS);have:Instr.findNow d (mkV ag ks Xs) (e::dX) 0=none:=by simp[Instr.findNow,hk.1,hq]
    simp only[Instr.findKey,Sem.run_bind,run_underlying hd,Result.andThen_ok,this];exact ask (p::es) (e::dX) 0 ZU hl
theorem tZ(Xs:List Int):∀(es:List (List Int×LV)) (dX:List MapEntry) (i:Nat),bQ es Xs=none->fnd Xs es dX i=none
 |[],dX,i,_=>by simp[fnd]
 |p::es,[],i,_=>by simp[fnd]
 |p::es,e::dX,i,h=>by
  simp only[bQ]at h
  split at h
  .cases h
  .rename_i Wu;simp only[fnd,aAa Wu];exact tZ Xs es dX (i+1) h
theorem tK(Xs:List Int):∀(es:List (List Int×LV)) (dX:List MapEntry) (i:Nat) (lv:LV),aC w g (es.map (·.2)) (dX.map (·.val))->bQ es Xs=some lv->∃ j e,fnd Xs es dX i=some (i+j,e.val)/\dX[j]?=some e/\Rep w g lv e.val/\(es[j]?).map (·.1)=some Xs
 |[],dX,i,lv,_,h=>by simp[bQ]at h
 |p::es,[],i,lv,hr,h=>by simp[aC]at hr
 |p::es,e::dX,i,lv,hr,h=>by
  simp only[aAi,aC]at hr;obtain⟨v,vs,hv,h1,h2⟩:=hr;injection hv with F5 hv2;subst F5 hv2;simp only[bQ]at h
  split at h
  .rename_i hq;injection h with h;subst h;exact⟨0,e,by simp[fnd,hq],rfl,h1,by simp at hq ⊢;exact hq.symm⟩
  .rename_i hq;obtain⟨j,e',k1,k2,k3,k4⟩:=tK Xs es dX (i+1) lv h2 h;exact⟨j+1,e',by simp only[fnd,aAa hq,k1];congr 2;omega,by simpa using k2,k3,by simpa using k4⟩
theorem Mw{t:Nat}{r:bK}(h:bB P t r):Rep w g (Ap r) r.zeroV:=by
 unfold Ap bK.zeroV;cases ha:r.agg with
 |true=>simp only[aBq,Rep];exact⟨r.zero,rfl,cO w g _⟩
 |false=>
  simp only[aAS,aBD];have h1:=h.one ha;have h2:=h.zl;cases hz:r.zero with
  |nil=>rw[hz]at h2;simp at h2;omega
  |cons z zs=>simp only[aAi,hdL,List.headD_cons];exact sP w g z
theorem Ee(hT:bJ P T)(hi:Inv w g st){t:TypeId}{x i:LV}{v vi:Value}{ok:Bool}{r:bW}(he:vC T t x i ok st=some r)(hc:r.c)(h:Rep w g x v)(hvi:Rep w g i vi):
 r.s=st/\∃ u,(Instr.lookup t v vi ok).run P w=.ok u w/\Rep w g r.v u:=by
 unfold vC at he;cases hm:kU T t with
 |none=>simp[hm]at he
 |some p=>
  obtain⟨k,e⟩:=p;simp only[hm]at he;have hu:=pS hT hm;cases hk:T k with
  |none=>simp[hk]at he
  |some rk=>
   cases ZE:T e with
   |none=>simp[hk,ZE]at he
   |some re=>
    cases hki:yK i with
    |none=>simp[hk,ZE,hki]at he
    |some q=>
     obtain⟨ag,ks,Xs⟩:=q;simp only[hk,ZE,hki]at he;obtain⟨rfl,hlen⟩:=tF hki hvi;have hz:=(hT e re ZE).zeroValue w;have X3:=Mw (w:=w) (g:=g) (hT e re ZE);cases x with
     |mp l=>
      simp only at he;cases hl:st.H l with
      |map P6 Zy es=>
       simp only[hl,aAb]at he;subst he;obtain⟨c1,rfl,rfl,rfl⟩:=hc;have E:=(hT k rk hk).eqk _ c1;obtain⟨_,m1,dX,clock,m2,m3,m4,m5,m6,m7⟩:=hi.mp l _ _ es hl;simp only[Rep]at h;obtain⟨rfl,_⟩:=h;have Xr:=mE (w:=w) E hlen es dX m3 m1;have M9:=fun em=>E.chk w em Xs hlen;refine⟨rfl,?_⟩;have key:∀ fv:Value×Bool,(match fnd Xs es dX 0 with|some (_,v)=>(v,true)|none=>(re.zeroV,false))=fv->(Instr.lookup t (.map (some (g.β l))) (mkV rk.agg Zy Xs) ok).run P w=.ok (if ok then .tuple #[fv.1,.bool fv.2]else fv.1) w:=by
        intro fv hfv;unfold Instr.lookup;simp only[Sem.run_bind,run_underlying hu,Result.andThen_ok,MapKept.run_getObj_map m2,Sem.run_pure,M9,Xr];cases hf:fnd Xs es dX 0 with
        |none=>rw[hf]at hfv;subst hfv;simp[hz]
        |some q=>obtain⟨j,u⟩:=q;rw[hf]at hfv;subst hfv;simp
       cases hg:bQ es Xs with
       |none=>
        have hf:=tZ Xs es dX 0 hg;refine⟨_,key _ rfl,?_⟩;rw[hf];cases ok
        .simpa using X3
        .simp only[Option.getD_none,Option.isSome_none,aBq,Rep,aC];exact⟨[re.zeroV,.bool false],rfl,_,_,rfl,X3,_,_,rfl,rfl,rfl⟩
       |some lv=>
        obtain⟨j,en,hf,_,YF,_⟩:=tK (w:=w) (g:=g) Xs es dX 0 lv m4 hg;refine⟨_,key _ rfl,?_⟩;rw[hf];cases ok
        .simpa using YF
        .simp only[Option.getD_some,Option.isSome_some,aBq,Rep,aC];exact⟨[en.val,.bool true],rfl,_,_,rfl,YF,_,_,rfl,rfl,rfl⟩
      |_=>simp[hl]at he
     |atom y=>
      cases y with
      |map b=>
       cases b with
       |none=>
        simp only[aAb]at he;subst he;obtain⟨c1,rfl⟩:=hc;have E:=(hT k rk hk).eqk _ c1;simp only[Rep]at h;subst h;have Xr:=mE (w:=w) E hlen [] [] rfl sS;have M9:=fun em=>E.chk w em Xs hlen;refine⟨rfl,(if ok then .tuple #[re.zeroV,.bool false]else re.zeroV),?_,?_⟩
        .unfold Instr.lookup;simp only[Sem.run_bind,run_underlying hu,Result.andThen_ok,Sem.run_pure,M9,Xr,fnd,hz]
        .cases ok
         .simpa using X3
         .simp only[aBq,Rep,aC];exact⟨[re.zeroV,.bool false],rfl,_,_,rfl,X3,_,_,rfl,rfl,rfl⟩
       |some b=>simp at he
      |_=>simp at he
     |_=>simp at he
theorem oH(h:Inv w g st){l:Nat}{ag:Bool}{ks:List IntKind}{es es':List (List Int×LV)}{ZR:List MapEntry}{clock':Nat}(hl:st.H l=.map ag ks es)(h1:∀ p∈es',p.1.length=ks.length)
 (h2:ZR.map (·.key)=es'.map (fun p=>mkV ag ks p.1)) (h3:aC w g (es'.map (·.2)) (ZR.map (·.val))) (h4:∀ x∈ZR,x.born<clock') (h5:(ZR.map (·.born)).Nodup):
 Inv { w with heap:=w.heap.setIfInBounds (g.β l) (.map ZR.toArray clock') } g (st.set l (.map ag ks es'))/\Ext w g { w with heap:=w.heap.setIfInBounds (g.β l) (.map ZR.toArray clock') } g:=by
 obtain⟨m0,m1,dX,clock,m2,m3,m4,m5,m6,m7⟩:=h.mp l _ _ es hl;have ZQ:=h.map_blk hl;have GD:=(h.mp l _ _ es hl).blk_lt;have ZX:∀ b,b≠g.β l->(w.heap.setIfInBounds (g.β l) (.map ZR.toArray clock'))[b]?=w.heap[b]?:=by intro b hb;rw[aBe,aAa (aDi hb)]
 have hself:(w.heap.setIfInBounds (g.β l) (.map ZR.toArray clock'))[g.β l]?=some (.map ZR.toArray clock'):=by simp[aBe,GD]
 have he:Ext w g { w with heap:=w.heap.setIfInBounds (g.β l) (.map ZR.toArray clock') } g:=by
  refine⟨rfl,rfl,rfl,sS,aAk _,fun _ _=>rfl,fun _ _=>rfl,fun _ _=>rfl,?_,?_⟩
  .intro b hb hn;exact⟨hn,ZX b (by rintro rfl;rw[m5]at hn;cases hn)⟩
  .intro b k hb hk;refine⟨k,hk,aAk _,fun o ho=>?_⟩;by_cases hb':b=g.β l
   .subst hb';rw[m5]at hk;injection hk with hk;omega
   .exact World.cell?_of_block (w:=w) (ZX b hb')
 have hb:∀ x,blk g (st.set l (.map ag ks es')) x↔blk g st x:=by
  intro x;unfold blk;simp only[St.set];by_cases hx:x=l
  .subst hx;simp[hl]
  .rw[aAa hx]
 have hltn:l<st.next:=by rw[<- h.next];exact h.map_lt hl
 refine⟨⟨h.next,h.pos,?_,?_,?_,?_,?_,?_,?_,h.aside.keep he (iW rfl)⟩,he⟩
 .intro x hx;simp only[St.set]at hx ⊢;rw[aAa oO];exact h.fresh x hx
 .intro x hx;simpa using h.lt x ((hb x).1 hx)
 .intro x y hx hy;exact h.inj x y ((hb x).1 hx) ((hb y).1 hy)
 .intro x e' s n hx;by_cases e0:x=l
  .simp[St.set,e0]at hx
  .simp only[St.set,aAa e0]at hx;obtain⟨k1,k2,k3,k4⟩:=h.own x e' s n hx;refine⟨k1,k2,k3,fun Xi=>?_⟩;obtain⟨Ym,q1,q2,q3⟩:=k4 Xi;have E9:blk g st x:=by unfold blk;rw[hx];exact Xi
   exact⟨Ym,by rw[ZX _ (fun hh=>e0 (h.inj x l E9 ZQ hh))];exact q1,q2,q3⟩
 .intro x e' s' cs'' hx;by_cases e0:x=l
  .simp[St.set,e0]at hx
  .simp only[St.set,aAa e0]at hx;obtain⟨q3,q0,q'⟩:=h.box x e' s' cs'' hx;refine⟨q3,q0,fun Zn=>?_⟩;obtain⟨Ym,q1,q2,q4,q5,q6⟩:=q' Zn;have E9:blk g st x:=by unfold blk;rw[hx];exact Zn
   exact⟨Ym,by rw[ZX _ (fun hh=>e0 (h.inj x l E9 ZQ hh))];exact q1,q2,q4,aC.mono he _ _ q5,q6⟩
 .intro x P6 Zy es'' hx;by_cases e0:x=l
  .simp only[St.set,aAe e0]at hx;injection hx with a1 a2 a3;subst a1 a2 a3 e0;exact⟨m0,h1,ZR,clock',hself,h2,aC.mono he _ _ h3,m5,h4,h5⟩
  .simp only[St.set,aAa e0]at hx;exact(h.mp x _ _ _ hx).keep he (h.map_lt hx) (ZX _ (fun hh=>e0 (h.inj x l (h.map_blk hx) ZQ hh))) rfl
 .intro x e' n hx;by_cases e0:x=l
  .simp[St.set,e0]at hx
  .simp only[St.set,aAa e0]at hx;exact(h.qu x _ _ hx).keep he (h.que_lt hx) (ZX _ (fun hh=>e0 (h.inj x l (h.que_blk hx) ZQ hh))) rfl
theorem Dn{ag:Bool}{ks:List IntKind}{Xs:List Int}(h1:ag=false->ks.length=1)(h2:Xs.length=ks.length):Instr.sameBits 10000 (mkV ag ks Xs) (mkV ag ks Xs)=true:=by
 have hz:∀(ks:List IntKind) (Xs:List Int) (n:Nat),((mkC ks Xs).zip (mkC ks Xs)).all (fun p=>Instr.sameBits n p.1 p.2)=true:=by
  intro ks;induction ks with
  |nil=>intro Xs n;simp[mkC]
  |cons k ks ih=>
   intro Xs n;cases Xs with
   |nil=>simp[mkC]
   |cons a Xs=>simp only[mkC,List.zip_cons_cons,List.all_cons,ih,aEP];cases n<;>simp[Instr.sameBits]
 cases ag with
 |true=>simp only[mkV,aBq,Instr.sameBits];simpa using hz ks Xs 9999
 |false=>
  have hk:=h1 rfl
  match ks,Xs,hk,h2 with
  |[k],[a],_,_=>simp[mkV,mkC,Instr.sameBits]
theorem GO{es:List (List Int×LV)}{Xs:List Int}{v:LV}{n:Nat}(h:∀ p∈es,p.1.length=n)(ha:Xs.length=n):∀ p∈bP es Xs v,p.1.length=n:=by
 induction es with
 |nil=>intro p hp;simp[bP]at hp;subst hp;exact ha
 |cons q es ih=>
  intro p hp;simp only[bP]at hp
  split at hp
  .rcases aAf.1 hp with rfl|hp
   .exact ha
   .exact h p (by simp[hp])
  .rcases aAf.1 hp with rfl|hp
   .exact h p sS
   .exact ih (fun p hp=>h p (by simp[hp])) p hp
theorem FN{ag:Bool}{ks:List IntKind}{Xs:List Int}{lv:LV}{vv:Value}(c:Nat)(YF:Rep w g lv vv):∀(es:List (List Int×LV)) (dX:List MapEntry),bQ es Xs=none->dX.map (·.key)=es.map (fun p=>mkV ag ks p.1)->aC w g (es.map (·.2)) (dX.map (·.val))->
 (dX++[(⟨mkV ag ks Xs,vv,c⟩:MapEntry)]).map (·.key)=(bP es Xs lv).map (fun p=>mkV ag ks p.1)/\aC w g ((bP es Xs lv).map (·.2)) ((dX++[(⟨mkV ag ks Xs,vv,c⟩:MapEntry)]).map (·.val))
 |[],dX,_,h2,h3=>by
  have:dX=[]:=by simpa using h2
  subst this;simp only[bP,List.nil_append,aAi,aBt,aC];exact⟨trivial,_,_,rfl,YF,rfl⟩
 |p::es,[],_,h2,_=>by simp at h2
 |p::es,e::dX,h1,h2,h3=>by
  simp only[bQ]at h1
  split at h1
  .cases h1
  .rename_i Wu;simp only[aAi,aBi]at h2;simp only[aAi,aC]at h3;obtain⟨v,vs,hv,k1,k2⟩:=h3;injection hv with F5 hv2;subst F5 hv2;obtain⟨a1,a2⟩:=FN c YF es dX h1 h2.2 k2;simp only[bP,aAa Wu,List.cons_append,aAi,aC,h2.1,a1];exact⟨trivial,_,_,rfl,k1,a2⟩
theorem Gb{ag:Bool}{ks:List IntKind}{Xs:List Int}{lv:LV}{vv:Value}(YF:Rep w g lv vv):∀(es:List (List Int×LV)) (dX:List MapEntry) (i j:Nat) (v0:Value),fnd Xs es dX i=some (i+j,v0)->dX.map (·.key)=es.map (fun p=>mkV ag ks p.1)->aC w g (es.map (·.2)) (dX.map (·.val))->
 (dX.modify j fun e=>{ e with key:=mkV ag ks Xs,val:=vv }).map (·.key)=(bP es Xs lv).map (fun p=>mkV ag ks p.1)/\aC w g ((bP es Xs lv).map (·.2)) ((dX.modify j fun e=>{ e with key:=mkV ag ks Xs,val:=vv }).map (·.val))/\
   (dX.modify j fun e=>{ e with key:=mkV ag ks Xs,val:=vv }).map (·.born)=dX.map (·.born)
 |[],dX,i,j,v0,h1,_,_=>by simp[fnd]at h1
 |p::es,[],i,j,v0,h1,_,_=>by simp[fnd]at h1
 |p::es,e::dX,i,j,v0,h1,h2,h3=>by
  simp only[aAi,aBi]at h2;simp only[aAi,aC]at h3;obtain⟨v,vs,hv,k1,k2⟩:=h3;injection hv with F5 hv2;subst F5 hv2;simp only[fnd]at h1
  split at h1
  .rename_i hq;simp only[aAb,aAW]at h1;obtain rfl:j=0:=oO;simp only[bP,aAe hq,List.modify_zero_cons,aAi,aC,h2.2];exact⟨trivial,⟨_,_,rfl,YF,k2⟩,trivial⟩
  .rename_i hq;have hj:∃ j',j=j'+1:=by
    cases j with
    |succ j'=>exact⟨j',rfl⟩
    |zero=>
     exfalso;have:∀(es:List (List Int×LV)) (dX:List MapEntry) (i m:Nat) (v:Value),fnd Xs es dX i=some (m,v)->i<=m:=by
      intro es;induction es with
      |nil=>intro dX i m v h;simp[fnd]at h
      |cons p es ih=>
       intro dX i m v h;cases dX with
       |nil=>simp[fnd]at h
       |cons e dX=>
        simp only[fnd]at h
        split at h
        .simp at h;omega
        .have:=ih _ _ _ _ h;omega
     have:=this _ _ _ _ _ h1;omega
   obtain⟨j',rfl⟩:=hj;obtain⟨a1,a2,a3⟩:=Gb (ag:=ag) (ks:=ks) YF es dX (i+1) j' v0 (by rw[h1];congr 2;omega) h2.2 k2;simp only[bP,aAa hq,List.modify_succ_cons,aAi,aC,h2.1,a1,a3];exact⟨trivial,⟨_,_,rfl,k1,a2⟩,trivial⟩
theorem tO(hT:bJ P T)(hi:Inv w g st){t:TypeId}{x i y:LV}{v vi vy:Value}{r:bW}(he:tQ T t x i y st=some r)(hc:r.c)(h:Rep w g x v)(hvi:Rep w g i vi)(hvy:Rep w g y vy):
 r.v=.dead/\∃ w',(Instr.mapUpdate t v vi vy).run P w=.ok () w'/\Inv w' g r.s/\Ext w g w' g:=by
 unfold tQ at he;cases hm:kU T t with
 |none=>simp[hm]at he
 |some p=>
  obtain⟨k,e⟩:=p;simp only[hm]at he;have hu:=pS hT hm;cases hk:T k with
  |none=>simp[hk]at he
  |some rk=>
   cases hki:yK i with
   |none=>simp[hk,hki]at he
   |some q=>
    obtain⟨ag,ks,Xs⟩:=q;simp only[hk,hki]at he;obtain⟨rfl,hlen⟩:=tF hki hvi;cases x with
    |mp l=>
     simp only at he;cases hl:st.H l with
     |map P6 Zy es=>
      simp only[hl,aAb]at he;subst he;obtain⟨c1,rfl,rfl,rfl⟩:=hc;have E:=(hT k rk hk).eqk _ c1;obtain⟨m0,m1,dX,clock,m2,m3,m4,m5,m6,m7⟩:=hi.mp l _ _ es hl;simp only[Rep]at h;obtain⟨rfl,_⟩:=h;have Xr:=mE (w:=w) E hlen es dX m3 m1;have M9:=fun em=>E.chk w em Xs hlen;refine⟨rfl,?_⟩;cases hg:bQ es Xs with
      |none=>
       have hf:=tZ Xs es dX 0 hg;obtain⟨a1,a2⟩:=FN (ag:=rk.agg) (ks:=Zy) clock hvy es dX hg m3 m4
       obtain⟨b1,b2⟩:=oH (clock':=clock+1) hi hl (GO m1 hlen) a1 a2 (fun z hz=>by
        rcases aAg.1 hz with hz|hz
        .have:=m6 z hz;omega
        .simp at hz;subst hz;simp) (by
        rw[aAu,aAs];refine⟨m7,sS,?_⟩;intro a ha b hb;simp at hb;subst hb;obtain⟨z,hz,rfl⟩:=aAm.1 ha;have:=m6 z hz
        omega)
       refine⟨_,?_,b1,b2⟩;unfold Instr.mapUpdate;simp only[Sem.run_bind,run_underlying hu,Result.andThen_ok,MapKept.run_getObj_map m2,M9,Xr,hf];rw[MapKept.run_setObj_map _ m2];simp
      |some lv=>
       obtain⟨j,en,hf,hen,YF,Yd⟩:=tK (w:=w) (g:=g) Xs es dX 0 lv m4 hg;obtain⟨a1,a2,a3⟩:=Gb (ag:=rk.agg) (ks:=Zy) hvy es dX 0 j en.val hf m3 m4
       obtain⟨b1,b2⟩:=oH (clock':=clock) hi hl (GO m1 hlen) a1 a2 (fun z hz=>by
        have:z.born∈(dX.map (·.born)):=by rw[<- a3];exact aAm.2 ⟨z,hz,rfl⟩
        obtain⟨z',hz',hb⟩:=aAm.1 this
        rw[<- hb];exact m6 z' hz') (by rw[a3];exact m7)
       refine⟨_,?_,b1,b2⟩;have hek:en.key=mkV rk.agg Zy Xs:=by
        have h1:(dX.map (·.key))[j]?=some en.key:=by simp[hen]
        rw[m3,aBN]at h1;cases hej:es[j]? with
        |none=>simp[hej]at Yd
        |some q=>simp[hej]at Yd h1;rw[<- h1,Yd]
       unfold Instr.mapUpdate;simp only[Sem.run_bind,run_underlying hu,Result.andThen_ok,MapKept.run_getObj_map m2,M9,Xr,hf];have YY:(Instr.keyThatStays (((dX.toArray[0+j]?).map (·.key)).getD (mkV rk.agg Zy Xs)) (mkV rk.agg Zy Xs)).run P w=.ok (mkV rk.agg Zy Xs) w:=by
        have:(((dX.toArray[0+j]?).map (·.key)).getD (mkV rk.agg Zy Xs))=mkV rk.agg Zy Xs:=by simp[hen,hek]
        rw[this];unfold Instr.keyThatStays;rw[Dn E.one hlen];simp
       rw[YY];simp only[Result.andThen_ok];rw[MapKept.run_setObj_map _ m2];simp
     |_=>simp[hl]at he
    |_=>simp at he
theorem vQ{Xs:List Int}:∀(es:List (List Int×LV)),bQ es Xs=none->uM es Xs=es
 |[],_=>rfl
 |p::es,h=>by
  simp only[bQ]at h
  split at h
  .cases h
  .rename_i Wu;simp only[uM,aAa Wu,vQ es h]
theorem Bo{Xs:List Int}{p:List Int×LV}:∀(es:List (List Int×LV)),p∈uM es Xs->p∈es
 |[],h=>h
 |q::es,h=>by
  simp only[uM]at h
  split at h
  .exact aAj _ h
  .rcases aAf.1 h with rfl|h
   .exact aAo
   .exact aAj _ (Bo es h)
theorem FT{ag:Bool}{ks:List IntKind}{Xs:List Int}:∀(es:List (List Int×LV)) (dX:List MapEntry) (i j:Nat) (v0:Value),fnd Xs es dX i=some (i+j,v0)->dX.map (·.key)=es.map (fun p=>mkV ag ks p.1)->aC w g (es.map (·.2)) (dX.map (·.val))->
 (dX.eraseIdx j).map (·.key)=(uM es Xs).map (fun p=>mkV ag ks p.1)/\aC w g ((uM es Xs).map (·.2)) ((dX.eraseIdx j).map (·.val))/\j<dX.length
 |[],dX,i,j,v0,h1,_,_=>by simp[fnd]at h1
 |p::es,[],i,j,v0,h1,_,_=>by simp[fnd]at h1
 |p::es,e::dX,i,j,v0,h1,h2,h3=>by
  simp only[aAi,aBi]at h2;simp only[aAi,aC]at h3;obtain⟨v,vs,hv,k1,k2⟩:=h3;injection hv with F5 hv2;subst F5 hv2;simp only[fnd]at h1
  split at h1
  .rename_i hq;simp only[aAb,aAW]at h1;obtain rfl:j=0:=oO;simp only[uM,aAe hq,List.eraseIdx_zero,List.tail_cons];exact⟨h2.2,k2,sS⟩
  .rename_i hq;have hj:∃ j',j=j'+1:=by
    cases j with
    |succ j'=>exact⟨j',rfl⟩
    |zero=>
     exfalso;have:∀(es:List (List Int×LV)) (dX:List MapEntry) (i m:Nat) (v:Value),fnd Xs es dX i=some (m,v)->i<=m:=by
      intro es;induction es with
      |nil=>intro dX i m v h;simp[fnd]at h
      |cons p es ih=>
       intro dX i m v h;cases dX with
       |nil=>simp[fnd]at h
       |cons e dX=>
        simp only[fnd]at h
        split at h
        .simp at h;omega
        .have:=ih _ _ _ _ h;omega
     have:=this _ _ _ _ _ h1;omega
   obtain⟨j',rfl⟩:=hj;obtain⟨a1,a2,a3⟩:=FT (ag:=ag) (ks:=ks) es dX (i+1) j' v0 (by rw[h1];congr 2;omega) h2.2 k2;simp only[uM,aAa hq,List.eraseIdx_cons_succ,aAi,aC,h2.1,a1,List.length_cons];exact⟨trivial,⟨_,_,rfl,k1,a2⟩,oO⟩
theorem EB(hT:bJ P T)(hi:Inv w g st){t kt ty:TypeId}{x i:LV}{v vi:Value}{r:bW}(he:zQ T t x i st=some r)(hc:r.c)(h:Rep w g x v)(hvi:Rep w g i vi):
 r.v=.tu []/\∃ w',(Builtin.delete_ #[t,kt] ty #[v,vi]).run P w=.ok (.tuple #[]) w'/\Inv w' g r.s/\Ext w g w' g:=by
 unfold zQ at he;cases hm:kU T t with
 |none=>simp[hm]at he
 |some p=>
  obtain⟨k,e⟩:=p;simp only[hm]at he;have hu:=pS hT hm;cases hk:T k with
  |none=>simp[hk]at he
  |some rk=>
   cases hki:yK i with
   |none=>simp[hk,hki]at he
   |some q=>
    obtain⟨ag,ks,Xs⟩:=q;simp only[hk,hki]at he;obtain⟨rfl,hlen⟩:=tF hki hvi;cases x with
    |mp l=>
     simp only at he;cases hl:st.H l with
     |map P6 Zy es=>
      simp only[hl,aAb]at he;subst he;obtain⟨c1,rfl,rfl,rfl⟩:=hc;have E:=(hT k rk hk).eqk _ c1;obtain⟨m0,m1,dX,clock,m2,m3,m4,m5,m6,m7⟩:=hi.mp l _ _ es hl;simp only[Rep]at h;obtain⟨rfl,_⟩:=h;have Xr:=mE (w:=w) E hlen es dX m3 m1;have M9:=fun em=>E.chk w em Xs hlen;refine⟨rfl,?_⟩;cases hg:bQ es Xs with
      |none=>have hf:=tZ Xs es dX 0 hg;obtain⟨b1,b2⟩:=oH (ZR:=dX) (clock':=clock) hi hl (es':=uM es Xs) (fun p hp=>m1 p (Bo es hp)) (by rw[vQ es hg];exact m3) (by rw[vQ es hg];exact m4) m6 m7;refine⟨_,?_,b1,b2⟩;unfold Builtin.delete_;simp[Sem.run_bind,run_underlying hu,Result.andThen_ok,MapKept.run_getObj_map m2,M9,Xr,hf];rw[MapKept.run_setObj_map _ m2];simp
      |some lv=>obtain⟨j,en,hf,hen,YF,Yd⟩:=tK (w:=w) (g:=g) Xs es dX 0 lv m4 hg;obtain⟨a1,a2,a3⟩:=FT (ag:=rk.agg) (ks:=Zy) es dX 0 j en.val hf m3 m4;have YW:(dX.eraseIdx j).Sublist dX:=List.eraseIdx_sublist dX j;obtain⟨b1,b2⟩:=oH (ZR:=dX.eraseIdx j) (clock':=clock) hi hl (es':=uM es Xs) (fun p hp=>m1 p (Bo es hp)) a1 a2 (fun z hz=>m6 z (YW.subset hz)) (m7.sublist (YW.map _));refine⟨_,?_,b1,b2⟩;unfold Builtin.delete_;simp[Sem.run_bind,run_underlying hu,Result.andThen_ok,MapKept.run_getObj_map m2,M9,Xr,hf];rw[MapKept.run_setObj_map _ m2];simp
     |_=>simp[hl]at he
    |_=>simp at he
theorem JQ(h:Inv w g st)(ag:Bool)(ks:List IntKind):Inv (w.alloc (.map #[] 0)) (g.add w.heap.size 0 0 false) (st.new (.map ag ks [])):=by
 have he:=dB w g (.map #[] 0) 0 0 false;have hn:=h.next;refine⟨by simp[G.add,St.new,hn],by simp[St.new],?_,?_,?_,?_,?_,?_,?_,h.aside.keep he (nR rfl)⟩
 .intro l hl;simp only[St.new]at hl ⊢;rw[aAa oO];exact h.fresh l oO
 .intro l hl;by_cases e0:l=st.next
  .subst e0;simp[G.add,hn]
  .rw[cQ hn e0]at hl;have:=h.lt l hl;simp only[G.add,hn,aAa e0];simp;omega
 .intro l l' hl Yn hb;by_cases e0:l=st.next<;>by_cases e1:l'=st.next
  .omega
  .rw[cQ hn e1]at Yn;have:=h.lt l' Yn;simp only[G.add,hn,aAe e0,aAa e1]at hb;omega
  .rw[cQ hn e0]at hl;have:=h.lt l hl;simp only[G.add,hn,aAe e1,aAa e0]at hb;omega
  .rw[cQ hn e0]at hl;rw[cQ hn e1]at Yn;simp only[G.add,hn,aAa e1,aAa e0]at hb;exact h.inj l l' hl Yn hb
 .intro l e' s n hl;by_cases e0:l=st.next
  .simp[St.new,e0]at hl
  .simp only[St.new,aAa e0]at hl;obtain⟨h1,h2,h3,h4⟩:=h.own l e' s n hl;simp only[G.add,hn,aAa e0];refine⟨h1,h2,h3,fun Xi=>?_⟩;obtain⟨Xk,k1,k2,k3⟩:=h4 Xi;have GD:g.β l<w.heap.size:=(aAw.1 k1).1;exact⟨Xk,by rw[heap_alloc_old w _ _ GD];exact k1,k2,by rw[aAa oO];exact k3⟩
 .intro l e' s' cs' hl;by_cases e0:l=st.next
  .simp[St.new,e0]at hl
  .simp only[St.new,aAa e0]at hl;obtain⟨k3,k0,k'⟩:=h.box l e' s' cs' hl;refine⟨?_,?_,fun Xi=>?_⟩
   .simp only[G.add,hn,aAa e0];exact k3
   .simp only[G.add,hn,aAa e0];exact k0
   simp only[G.add,hn,aAa e0]at Xi;obtain⟨Ym,k1,k2,k4,k5,k6⟩:=k' Xi;have GD:g.β l<w.heap.size:=(aAw.1 k1).1;refine⟨Ym,?_,?_,k4,aC.mono he _ _ k5,?_⟩
   .simp only[G.add,hn,aAa e0];rw[heap_alloc_old w _ _ GD];exact k1
   .simp only[G.add,hn,aAa e0];exact k2
   .simp only[G.add,hn,aAa e0];rw[aAa oO];exact k6
 .intro l P6 Zy es hl;by_cases e0:l=st.next
  .simp only[St.new,aAe e0]at hl;injection hl with a1 a2 a3;subst a1 a2 a3;refine⟨by simp[G.add,hn,e0],sS,[],0,?_,rfl,by simp[aC],by simp[G.add,hn,e0],sS,sS⟩;simp only[G.add,hn,aAe e0];exact heap_alloc_new w _
  .simp only[St.new,aAa e0]at hl;have hm:=h.mp l _ _ es hl;have GD:=hm.blk_lt;exact hm.keep he (h.map_lt hl) (heap_alloc_old w _ _ GD) (by simp only[G.add];rw[aAa oO])
 .intro l e' n hl;by_cases e0:l=st.next
  .simp[St.new,e0]at hl
  .simp only[St.new,aAa e0]at hl;have hm:=h.qu l e' n hl;have GD:=hm.blk_lt;exact hm.keep he (h.que_lt hl) (heap_alloc_old w _ _ GD) (by simp only[G.add];rw[aAa oO])
theorem CG(hT:bJ P T)(hi:Inv w g st){t:TypeId}{rs:Option LV}{vr:Option Value}{r:bW}(he:uI T t rs st=some r)(hvr:∀ x,rs=some x->∃ v,vr=some v/\Rep w g x v)(hvn:rs=none->vr=none):
 ∃ u w' g',(Instr.makeMap t vr).run P w=.ok u w'/\Rep w' g' r.v u/\Inv w' g' r.s/\Ext w g w' g':=by
 unfold uI at he;cases hm:kU T t with
 |none=>simp[hm]at he
 |some p=>
  obtain⟨k,e⟩:=p;simp only[hm]at he;have hu:=pS hT hm;cases hk:T k with
  |none=>simp[hk]at he
  |some rk=>
   simp only[hk]at he;cases D7:rk.ck with
   |none=>simp[D7]at he
   |some ks=>
    simp only[D7]at he;have key:r=⟨True,.mp st.next,st.new (.map rk.agg ks [])⟩->(∃ w',w'=w/\(Instr.makeMap t vr).run P w=.ok (.map (some w.heap.size)) (w'.alloc (.map #[] 0)))->∃ u w' g',(Instr.makeMap t vr).run P w=.ok u w'/\Rep w' g' r.v u/\Inv w' g' r.s/\Ext w g w' g':=by rintro rfl ⟨_,rfl,Xr⟩;refine⟨_,_,_,Xr,?_,JQ hi rk.agg ks,dB _ _ _ _ _ _⟩;simp only[Rep,G.add,hi.next,aAe];exact⟨trivial,aCL _⟩
    split at he
    .simp only[aAb]at he;refine key he.symm ⟨w,rfl,?_⟩;rw[hvn rfl];simp[Instr.makeMap]
    .rename_i kk nn;simp only[aAb]at he;refine key he.symm ⟨w,rfl,?_⟩;obtain⟨vv,rfl,hv⟩:=hvr _ rfl;simp only[Rep]at hv;subst hv
     first|(simp[Instr.makeMap,run_underlying hu];done)|simp[Instr.makeMap,run_underlying hu,asInt,asIntOf]
    .simp at he
theorem Gz{t:Nat}{r:bK}(h:bB P t r){ks:List IntKind}(D7:r.ck=some ks)(ha:r.agg=true){Xs bs:List Int}(h1:Xs.length=ks.length)(h2:bs.length=ks.length)(ox oy:Operand)(op:BinOp)(neg:Bool)(o9:(op=.eql/\neg=false)\/(op=.neq/\neg=true)):
 (do eqGuard op t ox oy (mkV true ks Xs) (mkV true ks bs);binOp op t (mkV true ks Xs) (mkV true ks bs):Sem Value).run P w=.ok (.bool ((Xs==bs) != neg)) w:=by
 have E:=h.eqk ks D7;rw[ha]at E;have hq:=E.eq w Xs bs h1 h2;have hg:=E.guard rfl;simp only[mkV,aBq]at hq ⊢;rw[Sem.run_bind,run_eqGuard_agg w op t ox oy _ _ hg];simp only[Result.andThen_ok];rcases o9 with⟨rfl,rfl⟩|⟨rfl,rfl⟩
 .simp only[binOp,Sem.run_bind,hq,Result.andThen_ok,Sem.run_pure];simp
 .simp only[binOp,Sem.run_bind,hq,Result.andThen_ok,Sem.run_pure];simp
theorem rQ{t:Nat}{k:IntKind}(h:P.underlying t=some (.int k))(w:World)(em:Bool)(a:Int):(Instr.checkKey em 9999 t (.int k a)).run P w=.ok () w:=by rw[show(9999:Nat)=9998+1 from rfl];unfold Instr.checkKey;simp[run_underlying h]
theorem gS{t:Nat}{k:IntKind}(h:P.underlying t=some (.int k)):Er P t false [k]:=by
 refine⟨fun w Xs bs h1 h2=>?_,fun w em Xs h1=>?_,(fun h=>by cases h),fun _=>rfl,_,h,.inl fun Xs bs h1 h2=>?_⟩
 .match Xs,bs,h1,h2 with
  |[a],[b],_,_=>have:=run_equalIn_int (P:=P) w 9999 t k k a b h;simp only[mkV,mkC,aAS,aBD,List.headD_cons];unfold Op.equal Op.maxDepth;rw[this];simp
 .match Xs,h1 with
  |[a],_=>simp only[mkV,mkC,aAS,aBD,List.headD_cons];unfold Instr.checkKey;simp[run_underlying h]
 .match Xs,bs,h1,h2 with
  |[a],[b],_,_=>simp[mkV,mkC,Instr.sameNow]
end
end Aw
end Go.Proofs.YtempldclppogmaaGreatDoor
