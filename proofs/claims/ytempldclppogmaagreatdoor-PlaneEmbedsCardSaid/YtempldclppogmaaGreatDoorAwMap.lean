/- Maps: what a look-up, an update, a new one do; '==' of structs. No program is named here. -/
import Derived.Test.YtempldclppogmaaGreatDoorAwSound2
import Derived.MapKept
import Derived.Laws.StructEq
set_option linter.unusedVariables false
set_option linter.unusedSimpArgs false
namespace Go.Proofs.YtempldclppogmaaGreatDoor
namespace Aw
open Go Go.RowKit
section
variable {P:Program} {T:Tab} {w:World} {g:G} {st:St}
theorem lV:∀(cs:List LV) (vs:List Value) (ks:List IntKind) (ns:List Int),fZ cs=some (ks,ns)->aC w g cs vs->vs=mkC ks ns/\ns.length=ks.length
 |[],vs,ks,ns,h,hr=>by simp only[fZ,aAb,aAV]at h;obtain⟨rfl,rfl⟩:=h;simp only[aC]at hr;exact⟨hr,rfl⟩
 |c::cs,vs,ks,ns,h,hr=>by
  simp only[aC]at hr;obtain⟨v,vs',rfl,h1,h2⟩:=hr;cases c with
  |atom x=>
   cases x with
   |int k n=>
    simp only[fZ]at h;cases hi:fZ cs with
    |none=>simp[hi]at h
    |some p=>obtain⟨Zy,ns'⟩:=p;simp only[hi,aAb,aAV]at h;obtain⟨rfl,rfl⟩:=h;obtain⟨k1,k2⟩:=lV cs vs' Zy ns' hi h2;simp only[Rep]at h1;exact⟨by rw[h1,k1];rfl,by simp[k2]⟩
   |_=>simp[fZ]at h
  |_=>simp[fZ]at h
theorem tA{x:LV}{v:Value}{ag:Bool}{ks:List IntKind}{Xw:List Int}(h:yD x=some (ag,ks,Xw))(hr:Rep w g x v):v=mkV ag ks Xw/\Xw.length=ks.length:=by
 cases x with
 |atom y=>
  cases y with
  |int k n=>simp only[yD,aAb,aAV]at h;obtain⟨rfl,rfl,rfl⟩:=h;simp only[Rep]at hr;exact⟨by rw[hr];rfl,rfl⟩
  |_=>simp[yD]at h
 |ag cs=>
  simp only[yD]at h;cases hi:fZ cs with
  |none=>simp[hi]at h
  |some p=>obtain⟨Zy,ns'⟩:=p;simp only[hi,aAb,aAV]at h;obtain⟨rfl,rfl,rfl⟩:=h;simp only[Rep]at hr;obtain⟨vs,rfl,hr⟩:=hr;obtain⟨k1,k2⟩:=lV cs vs _ _ hi hr;exact⟨by rw[k1];rfl,k2⟩
 |_=>simp[yD]at h
def fnd(Xw:List Int):List (List Int×LV)->List MapEntry->Nat->Option (Nat×Value)
 |p::es,e::Gz,i=>if Xw==p.1 then some (i,e.val)else fnd Xw es Gz (i+1)
 |_,_,_=>none
theorem lP{t:Nat}{ag:Bool}{ks:List IntKind}(E:FD P t ag ks){Xw:List Int}(ha:Xw.length=ks.length)(es:List (List Int×LV))(Gz:List MapEntry)(hk:Gz.map (·.key)=es.map (fun p=>mkV ag ks p.1))(hl:∀ p∈es,p.1.length=ks.length):
 (Instr.findKey t (mkV ag ks Xw) Gz).run P w=.ok (fnd Xw es Gz 0) w:=by
 obtain⟨d,hd,hn⟩:=E.now;have ask:∀(es:List (List Int×LV)) (Gz:List MapEntry) (i:Nat),Gz.map (·.key)=es.map (fun p=>mkV ag ks p.1)->(∀ p∈es,p.1.length=ks.length)->(Instr.findAsking t (mkV ag ks Xw) Gz i).run P w=.ok (fnd Xw es Gz i) w:=by
  intro es;induction es with
  |nil=>intro Gz i h1 _;cases Gz with|nil=>simp[Instr.findAsking,fnd]|cons e Gz=>simp at h1
  |cons p es ih=>
   intro Gz i h1 h2;cases Gz with
   |nil=>simp at h1
   |cons e Gz=>
    simp only[aAj,aBj]at h1;have hq:=E.eq w Xw p.1 ha (h2 p sS);simp only[Instr.findAsking,h1.1,Sem.run_bind,hq,Result.andThen_ok,Sem.run_ite,Sem.run_pure,fnd]
    split
    .rfl
    .exact ih Gz (i+1) h1.2 (fun q hq=>h2 q (by simp[hq]))
 rcases hn with hn|hn
 .have now:∀(es:List (List Int×LV)) (Gz:List MapEntry) (i:Nat),Gz.map (·.key)=es.map (fun p=>mkV ag ks p.1)->(∀ p∈es,p.1.length=ks.length)->Instr.findNow d (mkV ag ks Xw) Gz i=some (fnd Xw es Gz i):=by
   intro es;induction es with
   |nil=>intro Gz i h1 _;cases Gz with|nil=>simp[Instr.findNow,fnd]|cons e Gz=>simp at h1
   |cons p es ih=>
    intro Gz i h1 h2;cases Gz with
    |nil=>simp at h1
    |cons e Gz=>
     simp only[aAj,aBj]at h1;have hq:=hn Xw p.1 ha (h2 p sS);simp only[Instr.findNow,h1.1,hq,fnd];cases hb:(Xw==p.1)
     .simp only[aAR,aBB];exact ih Gz (i+1) h1.2 (fun q hq=>h2 q (by simp[hq]))
     .simp
  exact MapKept.run_findKey hd (now es Gz 0 hk hl)
 .cases es with
  |nil=>cases Gz with|nil=>simp[Instr.findKey,run_underlying hd,Instr.findNow,fnd]|cons e Gz=>simp at hk
  |cons p es=>
   cases Gz with
   |nil=>simp at hk
   |cons e Gz=>
    have ZA:=hk;simp only[aAj,aBj]at hk;have hq:=hn Xw p.1 ha (hl p sS);have:Instr.findNow d (mkV ag ks Xw) (e::Gz) 0=none:=by simp[Instr.findNow,hk.1,hq]
    simp only[Instr.findKey,Sem.run_bind,run_underlying hd,Result.andThen_ok,this];exact ask (p::es) (e::Gz) 0 ZA hl
theorem tO(Xw:List Int):∀(es:List (List Int×LV)) (Gz:List MapEntry) (i:Nat),bR es Xw=none->fnd Xw es Gz i=none
 |[],Gz,i,_=>by simp[fnd]
 |p::es,[],i,_=>by simp[fnd]
 |p::es,e::Gz,i,h=>by
  simp only[bR]at h
  split at h
  .cases h
  .rename_i Wx;simp only[fnd,aAa Wx];exact tO Xw es Gz (i+1) h
theorem tN(Xw:List Int):∀(es:List (List Int×LV)) (Gz:List MapEntry) (i:Nat) (lv:LV),aC w g (es.map (·.2)) (Gz.map (·.val))->bR es Xw=some lv->∃ j e,fnd Xw es Gz i=some (i+j,e.val)/\Gz[j]?=some e/\Rep w g lv e.val/\(es[j]?).map (·.1)=some Xw
 |[],Gz,i,lv,_,h=>by simp[bR]at h
 |p::es,[],i,lv,hr,h=>by simp[aC]at hr
 |p::es,e::Gz,i,lv,hr,h=>by
  simp only[aAj,aC]at hr;obtain⟨v,vs,hv,h1,h2⟩:=hr;injection hv with F9 hv2;subst F9 hv2;simp only[bR]at h
  split at h
  .rename_i hq;injection h with h;subst h;exact⟨0,e,by simp[fnd,hq],rfl,h1,by simp at hq ⊢;exact hq.symm⟩
  .rename_i hq;obtain⟨j,e',k1,k2,k3,k4⟩:=tN Xw es Gz (i+1) lv h2 h;exact⟨j+1,e',by simp only[fnd,aAa hq,k1];congr 2;omega,by simpa using k2,k3,by simpa using k4⟩
theorem Mk{t:Nat}{r:bI}(h:bA P t r):Rep w g (AM r) r.zeroV:=by
 unfold AM bI.zeroV;cases ha:r.agg with
 |true=>simp only[aBn,Rep];exact⟨r.zero,rfl,cL w g _⟩
 |false=>
  simp only[aAR,aBB];have h1:=h.one ha;have h2:=h.zl;cases hz:r.zero with
  |nil=>rw[hz]at h2;simp at h2;omega
  |cons z zs=>simp only[aAj,hdL,List.headD_cons];exact sI w g z
theorem Et(hT:bF P T)(hi:Inv w g st){t:TypeId}{x i:LV}{v vi:Value}{ok:Bool}{r:bT}(he:uH T t x i ok st=some r)(hc:r.c)(h:Rep w g x v)(hvi:Rep w g i vi):
 r.s=st/\∃ u,(Instr.lookup t v vi ok).run P w=.ok u w/\Rep w g r.v u:=by
 unfold uH at he;cases hm:jY T t with
 |none=>simp[hm]at he
 |some p=>
  obtain⟨k,e⟩:=p;simp only[hm]at he;have hu:=oY hT hm;cases hk:T k with
  |none=>simp[hk]at he
  |some rk=>
   cases ZL:T e with
   |none=>simp[hk,ZL]at he
   |some re=>
    cases hki:yD i with
    |none=>simp[hk,ZL,hki]at he
    |some q=>
     obtain⟨ag,ks,Xw⟩:=q;simp only[hk,ZL,hki]at he;obtain⟨rfl,hlen⟩:=tA hki hvi;have hz:=(hT e re ZL).zeroValue w;have X3:=Mk (w:=w) (g:=g) (hT e re ZL);cases x with
     |mp l=>
      simp only at he;cases hl:st.H l with
      |map Q9 Zy es=>
       simp only[hl,aAb]at he;subst he;obtain⟨c1,rfl,rfl,rfl⟩:=hc;have E:=(hT k rk hk).eqk _ c1;obtain⟨_,m1,Gz,clock,m2,m3,m4,m5,m6,m7⟩:=hi.mp l _ _ es hl;simp only[Rep]at h;obtain⟨rfl,_⟩:=h;have Xv:=lP (w:=w) E hlen es Gz m3 m1;have M8:=fun em=>E.chk w em Xw hlen;refine⟨rfl,?_⟩;have key:∀ fv:Value×Bool,(match fnd Xw es Gz 0 with|some (_,v)=>(v,true)|none=>(re.zeroV,false))=fv->(Instr.lookup t (.map (some (g.β l))) (mkV rk.agg Zy Xw) ok).run P w=.ok (if ok then .tuple #[fv.1,.bool fv.2]else fv.1) w:=by
        intro fv hfv;unfold Instr.lookup;simp only[Sem.run_bind,run_underlying hu,Result.andThen_ok,MapKept.run_getObj_map m2,Sem.run_pure,M8,Xv];cases hf:fnd Xw es Gz 0 with
        |none=>rw[hf]at hfv;subst hfv;simp[hz]
        |some q=>obtain⟨j,u⟩:=q;rw[hf]at hfv;subst hfv;simp
       cases hg:bR es Xw with
       |none=>
        have hf:=tO Xw es Gz 0 hg;refine⟨_,key _ rfl,?_⟩;rw[hf];cases ok
        .simpa using X3
        .simp only[Option.getD_none,Option.isSome_none,aBn,Rep,aC];exact⟨[re.zeroV,.bool false],rfl,_,_,rfl,X3,_,_,rfl,rfl,rfl⟩
       |some lv=>
        obtain⟨j,en,hf,_,YF,_⟩:=tN (w:=w) (g:=g) Xw es Gz 0 lv m4 hg;refine⟨_,key _ rfl,?_⟩;rw[hf];cases ok
        .simpa using YF
        .simp only[Option.getD_some,Option.isSome_some,aBn,Rep,aC];exact⟨[en.val,.bool true],rfl,_,_,rfl,YF,_,_,rfl,rfl,rfl⟩
      |_=>simp[hl]at he
     |atom y=>
      cases y with
      |map b=>
       cases b with
       |none=>
        simp only[aAb]at he;subst he;obtain⟨c1,rfl⟩:=hc;have E:=(hT k rk hk).eqk _ c1;simp only[Rep]at h;subst h;have Xv:=lP (w:=w) E hlen [] [] rfl sS;have M8:=fun em=>E.chk w em Xw hlen;refine⟨rfl,(if ok then .tuple #[re.zeroV,.bool false]else re.zeroV),?_,?_⟩
        .unfold Instr.lookup;simp only[Sem.run_bind,run_underlying hu,Result.andThen_ok,Sem.run_pure,M8,Xv,fnd,hz]
        .cases ok
         .simpa using X3
         .simp only[aBn,Rep,aC];exact⟨[re.zeroV,.bool false],rfl,_,_,rfl,X3,_,_,rfl,rfl,rfl⟩
       |some b=>simp at he
      |_=>simp at he
     |_=>simp at he
theorem nQ(h:Inv w g st){l:Nat}{ag:Bool}{ks:List IntKind}{es es':List (List Int×LV)}{ZU:List MapEntry}{clock':Nat}(hl:st.H l=.map ag ks es)(h1:∀ p∈es',p.1.length=ks.length)
 (h2:ZU.map (·.key)=es'.map (fun p=>mkV ag ks p.1)) (h3:aC w g (es'.map (·.2)) (ZU.map (·.val))) (h4:∀ x∈ZU,x.born<clock') (h5:(ZU.map (·.born)).Nodup):
 Inv { w with heap:=w.heap.setIfInBounds (g.β l) (.map ZU.toArray clock') } g (st.set l (.map ag ks es'))/\Ext w g { w with heap:=w.heap.setIfInBounds (g.β l) (.map ZU.toArray clock') } g:=by
 obtain⟨m0,m1,Gz,clock,m2,m3,m4,m5,m6,m7⟩:=h.mp l _ _ es hl;have ZR:=h.map_blk hl;have dN:=(h.mp l _ _ es hl).blk_lt;have Za:∀ b,b≠g.β l->(w.heap.setIfInBounds (g.β l) (.map ZU.toArray clock'))[b]?=w.heap[b]?:=by intro b hb;rw[aBg,aAa (aDi hb)]
 have hself:(w.heap.setIfInBounds (g.β l) (.map ZU.toArray clock'))[g.β l]?=some (.map ZU.toArray clock'):=by simp[aBg,dN]
 have he:Ext w g { w with heap:=w.heap.setIfInBounds (g.β l) (.map ZU.toArray clock') } g:=by
  refine⟨rfl,rfl,rfl,sS,aAi _,fun _ _=>rfl,fun _ _=>rfl,fun _ _=>rfl,?_,?_⟩
  .intro b hb hn;exact⟨hn,Za b (by rintro rfl;rw[m5]at hn;cases hn)⟩
  .intro b k hb hk;refine⟨k,hk,aAi _,fun o ho=>?_⟩;by_cases hb':b=g.β l
   .subst hb';rw[m5]at hk;injection hk with hk;omega
   .exact World.cell?_of_block (w:=w) (Za b hb')
 have hb:∀ x,blk g (st.set l (.map ag ks es')) x↔blk g st x:=by
  intro x;unfold blk;simp only[St.set];by_cases hx:x=l
  .subst hx;simp[hl]
  .rw[aAa hx]
 have hltn:l<st.next:=by rw[<- h.next];exact h.map_lt hl
 refine⟨⟨h.next,h.pos,?_,?_,?_,?_,?_,?_,?_,h.aside.keep he (iL rfl)⟩,he⟩
 .intro x hx;simp only[St.set]at hx ⊢;rw[aAa oO];exact h.fresh x hx
 .intro x hx;simpa using h.lt x ((hb x).1 hx)
 .intro x y hx hy;exact h.inj x y ((hb x).1 hx) ((hb y).1 hy)
 .intro x e' s n hx;by_cases e0:x=l
  .simp[St.set,e0]at hx
  .simp only[St.set,aAa e0]at hx;obtain⟨k1,k2,k3,k4⟩:=h.own x e' s n hx;refine⟨k1,k2,k3,fun Xl=>?_⟩;obtain⟨Yq,q1,q2,q3⟩:=k4 Xl;have G2:blk g st x:=by unfold blk;rw[hx];exact Xl
   exact⟨Yq,by rw[Za _ (fun hh=>e0 (h.inj x l G2 ZR hh))];exact q1,q2,q3⟩
 .intro x e' s' cs'' hx;by_cases e0:x=l
  .simp[St.set,e0]at hx
  .simp only[St.set,aAa e0]at hx;obtain⟨q3,q0,q'⟩:=h.box x e' s' cs'' hx;refine⟨q3,q0,fun Zm=>?_⟩;obtain⟨Yq,q1,q2,q4,q5,q6⟩:=q' Zm;have G2:blk g st x:=by unfold blk;rw[hx];exact Zm
   exact⟨Yq,by rw[Za _ (fun hh=>e0 (h.inj x l G2 ZR hh))];exact q1,q2,q4,aC.mono he _ _ q5,q6⟩
 .intro x Q9 Zy es'' hx;by_cases e0:x=l
  .simp only[St.set,aAe e0]at hx;injection hx with a1 a2 a3;subst a1 a2 a3 e0;exact⟨m0,h1,ZU,clock',hself,h2,aC.mono he _ _ h3,m5,h4,h5⟩
  .simp only[St.set,aAa e0]at hx;exact(h.mp x _ _ _ hx).keep he (h.map_lt hx) (Za _ (fun hh=>e0 (h.inj x l (h.map_blk hx) ZR hh))) rfl
 .intro x e' n hx;by_cases e0:x=l
  .simp[St.set,e0]at hx
  .simp only[St.set,aAa e0]at hx;exact(h.qu x _ _ hx).keep he (h.que_lt hx) (Za _ (fun hh=>e0 (h.inj x l (h.que_blk hx) ZR hh))) rfl
theorem Dt{ag:Bool}{ks:List IntKind}{Xw:List Int}(h1:ag=false->ks.length=1)(h2:Xw.length=ks.length):Instr.sameBits 10000 (mkV ag ks Xw) (mkV ag ks Xw)=true:=by
 have hz:∀(ks:List IntKind) (Xw:List Int) (n:Nat),((mkC ks Xw).zip (mkC ks Xw)).all (fun p=>Instr.sameBits n p.1 p.2)=true:=by
  intro ks;induction ks with
  |nil=>intro Xw n;simp[mkC]
  |cons k ks ih=>
   intro Xw n;cases Xw with
   |nil=>simp[mkC]
   |cons a Xw=>simp only[mkC,List.zip_cons_cons,List.all_cons,ih,aEJ];cases n<;>simp[Instr.sameBits]
 cases ag with
 |true=>simp only[mkV,aBn,Instr.sameBits];simpa using hz ks Xw 9999
 |false=>
  have hk:=h1 rfl
  match ks,Xw,hk,h2 with
  |[k],[a],_,_=>simp[mkV,mkC,Instr.sameBits]
theorem Ff{es:List (List Int×LV)}{Xw:List Int}{v:LV}{n:Nat}(h:∀ p∈es,p.1.length=n)(ha:Xw.length=n):∀ p∈bQ es Xw v,p.1.length=n:=by
 induction es with
 |nil=>intro p hp;simp[bQ]at hp;subst hp;exact ha
 |cons q es ih=>
  intro p hp;simp only[bQ]at hp
  split at hp
  .rcases aAf.1 hp with rfl|hp
   .exact ha
   .exact h p (by simp[hp])
  .rcases aAf.1 hp with rfl|hp
   .exact h p sS
   .exact ih (fun p hp=>h p (by simp[hp])) p hp
theorem Fq{ag:Bool}{ks:List IntKind}{Xw:List Int}{lv:LV}{vv:Value}(c:Nat)(YF:Rep w g lv vv):∀(es:List (List Int×LV)) (Gz:List MapEntry),bR es Xw=none->Gz.map (·.key)=es.map (fun p=>mkV ag ks p.1)->aC w g (es.map (·.2)) (Gz.map (·.val))->
 (Gz++[(⟨mkV ag ks Xw,vv,c⟩:MapEntry)]).map (·.key)=(bQ es Xw lv).map (fun p=>mkV ag ks p.1)/\aC w g ((bQ es Xw lv).map (·.2)) ((Gz++[(⟨mkV ag ks Xw,vv,c⟩:MapEntry)]).map (·.val))
 |[],Gz,_,h2,h3=>by
  have:Gz=[]:=by simpa using h2
  subst this;simp only[bQ,List.nil_append,aAj,aBz,aC];exact⟨trivial,_,_,rfl,YF,rfl⟩
 |p::es,[],_,h2,_=>by simp at h2
 |p::es,e::Gz,h1,h2,h3=>by
  simp only[bR]at h1
  split at h1
  .cases h1
  .rename_i Wx;simp only[aAj,aBj]at h2;simp only[aAj,aC]at h3;obtain⟨v,vs,hv,k1,k2⟩:=h3;injection hv with F9 hv2;subst F9 hv2;obtain⟨a1,a2⟩:=Fq c YF es Gz h1 h2.2 k2;simp only[bQ,aAa Wx,List.cons_append,aAj,aC,h2.1,a1];exact⟨trivial,_,_,rfl,k1,a2⟩
theorem Hg{ag:Bool}{ks:List IntKind}{Xw:List Int}{lv:LV}{vv:Value}(YF:Rep w g lv vv):∀(es:List (List Int×LV)) (Gz:List MapEntry) (i j:Nat) (v0:Value),fnd Xw es Gz i=some (i+j,v0)->Gz.map (·.key)=es.map (fun p=>mkV ag ks p.1)->aC w g (es.map (·.2)) (Gz.map (·.val))->
 (Gz.modify j fun e=>{ e with key:=mkV ag ks Xw,val:=vv }).map (·.key)=(bQ es Xw lv).map (fun p=>mkV ag ks p.1)/\aC w g ((bQ es Xw lv).map (·.2)) ((Gz.modify j fun e=>{ e with key:=mkV ag ks Xw,val:=vv }).map (·.val))/\
   (Gz.modify j fun e=>{ e with key:=mkV ag ks Xw,val:=vv }).map (·.born)=Gz.map (·.born)
 |[],Gz,i,j,v0,h1,_,_=>by simp[fnd]at h1
 |p::es,[],i,j,v0,h1,_,_=>by simp[fnd]at h1
 |p::es,e::Gz,i,j,v0,h1,h2,h3=>by
  simp only[aAj,aBj]at h2;simp only[aAj,aC]at h3;obtain⟨v,vs,hv,k1,k2⟩:=h3;injection hv with F9 hv2;subst F9 hv2;simp only[fnd]at h1
  split at h1
  .rename_i hq;simp only[aAb,aAV]at h1;obtain rfl:j=0:=oO;simp only[bQ,aAe hq,List.modify_zero_cons,aAj,aC,h2.2];exact⟨trivial,⟨_,_,rfl,YF,k2⟩,trivial⟩
  .rename_i hq;have hj:∃ j',j=j'+1:=by
    cases j with
    |succ j'=>exact⟨j',rfl⟩
    |zero=>
     exfalso;have:∀(es:List (List Int×LV)) (Gz:List MapEntry) (i m:Nat) (v:Value),fnd Xw es Gz i=some (m,v)->i<=m:=by
      intro es;induction es with
      |nil=>intro Gz i m v h;simp[fnd]at h
      |cons p es ih=>
       intro Gz i m v h;cases Gz with
       |nil=>simp[fnd]at h
       |cons e Gz=>
        simp only[fnd]at h
        split at h
        .simp at h;omega
        .have:=ih _ _ _ _ h;omega
     have:=this _ _ _ _ _ h1;omega
   obtain⟨j',rfl⟩:=hj;obtain⟨a1,a2,a3⟩:=Hg (ag:=ag) (ks:=ks) YF es Gz (i+1) j' v0 (by rw[h1];congr 2;omega) h2.2 k2;simp only[bQ,aAa hq,List.modify_succ_cons,aAj,aC,h2.1,a1,a3];exact⟨trivial,⟨_,_,rfl,k1,a2⟩,trivial⟩
theorem uA(hT:bF P T)(hi:Inv w g st){t:TypeId}{x i y:LV}{v vi vy:Value}{r:bT}(he:uP T t x i y st=some r)(hc:r.c)(h:Rep w g x v)(hvi:Rep w g i vi)(hvy:Rep w g y vy):
 r.v=.dead/\∃ w',(Instr.mapUpdate t v vi vy).run P w=.ok () w'/\Inv w' g r.s/\Ext w g w' g:=by
 unfold uP at he;cases hm:jY T t with
 |none=>simp[hm]at he
 |some p=>
  obtain⟨k,e⟩:=p;simp only[hm]at he;have hu:=oY hT hm;cases hk:T k with
  |none=>simp[hk]at he
  |some rk=>
   cases hki:yD i with
   |none=>simp[hk,hki]at he
   |some q=>
    obtain⟨ag,ks,Xw⟩:=q;simp only[hk,hki]at he;obtain⟨rfl,hlen⟩:=tA hki hvi;cases x with
    |mp l=>
     simp only at he;cases hl:st.H l with
     |map Q9 Zy es=>
      simp only[hl,aAb]at he;subst he;obtain⟨c1,rfl,rfl,rfl⟩:=hc;have E:=(hT k rk hk).eqk _ c1;obtain⟨m0,m1,Gz,clock,m2,m3,m4,m5,m6,m7⟩:=hi.mp l _ _ es hl;simp only[Rep]at h;obtain⟨rfl,_⟩:=h;have Xv:=lP (w:=w) E hlen es Gz m3 m1;have M8:=fun em=>E.chk w em Xw hlen;refine⟨rfl,?_⟩;cases hg:bR es Xw with
      |none=>
       have hf:=tO Xw es Gz 0 hg;obtain⟨a1,a2⟩:=Fq (ag:=rk.agg) (ks:=Zy) clock hvy es Gz hg m3 m4
       obtain⟨b1,b2⟩:=nQ (clock':=clock+1) hi hl (Ff m1 hlen) a1 a2 (fun z hz=>by
        rcases aAg.1 hz with hz|hz
        .have:=m6 z hz;omega
        .simp at hz;subst hz;simp) (by
        rw[aAv,aAs];refine⟨m7,sS,?_⟩;intro a ha b hb;simp at hb;subst hb;obtain⟨z,hz,rfl⟩:=aAm.1 ha;have:=m6 z hz
        omega)
       refine⟨_,?_,b1,b2⟩;unfold Instr.mapUpdate;simp only[Sem.run_bind,run_underlying hu,Result.andThen_ok,MapKept.run_getObj_map m2,M8,Xv,hf];rw[MapKept.run_setObj_map _ m2];simp
      |some lv=>
       obtain⟨j,en,hf,hen,YF,Yf⟩:=tN (w:=w) (g:=g) Xw es Gz 0 lv m4 hg;obtain⟨a1,a2,a3⟩:=Hg (ag:=rk.agg) (ks:=Zy) hvy es Gz 0 j en.val hf m3 m4
       obtain⟨b1,b2⟩:=nQ (clock':=clock) hi hl (Ff m1 hlen) a1 a2 (fun z hz=>by
        have:z.born∈(Gz.map (·.born)):=by rw[<- a3];exact aAm.2 ⟨z,hz,rfl⟩
        obtain⟨z',hz',hb⟩:=aAm.1 this
        rw[<- hb];exact m6 z' hz') (by rw[a3];exact m7)
       refine⟨_,?_,b1,b2⟩;have hek:en.key=mkV rk.agg Zy Xw:=by
        have h1:(Gz.map (·.key))[j]?=some en.key:=by simp[hen]
        rw[m3,aBL]at h1;cases hej:es[j]? with
        |none=>simp[hej]at Yf
        |some q=>simp[hej]at Yf h1;rw[<- h1,Yf]
       unfold Instr.mapUpdate;simp only[Sem.run_bind,run_underlying hu,Result.andThen_ok,MapKept.run_getObj_map m2,M8,Xv,hf];have YL:(Instr.keyThatStays (((Gz.toArray[0+j]?).map (·.key)).getD (mkV rk.agg Zy Xw)) (mkV rk.agg Zy Xw)).run P w=.ok (mkV rk.agg Zy Xw) w:=by
        have:(((Gz.toArray[0+j]?).map (·.key)).getD (mkV rk.agg Zy Xw))=mkV rk.agg Zy Xw:=by simp[hen,hek]
        rw[this];unfold Instr.keyThatStays;rw[Dt E.one hlen];simp
       rw[YL];simp only[Result.andThen_ok];rw[MapKept.run_setObj_map _ m2];simp
     |_=>simp[hl]at he
    |_=>simp at he
theorem vR{Xw:List Int}:∀(es:List (List Int×LV)),bR es Xw=none->yJ es Xw=es
 |[],_=>rfl
 |p::es,h=>by
  simp only[bR]at h
  split at h
  .cases h
  .rename_i Wx;simp only[yJ,aAa Wx,vR es h]
theorem BT{Xw:List Int}{p:List Int×LV}:∀(es:List (List Int×LV)),p∈yJ es Xw->p∈es
 |[],h=>h
 |q::es,h=>by
  simp only[yJ]at h
  split at h
  .exact aAk _ h
  .rcases aAf.1 h with rfl|h
   .exact aAq
   .exact aAk _ (BT es h)
theorem Fx{ag:Bool}{ks:List IntKind}{Xw:List Int}:∀(es:List (List Int×LV)) (Gz:List MapEntry) (i j:Nat) (v0:Value),fnd Xw es Gz i=some (i+j,v0)->Gz.map (·.key)=es.map (fun p=>mkV ag ks p.1)->aC w g (es.map (·.2)) (Gz.map (·.val))->
 (Gz.eraseIdx j).map (·.key)=(yJ es Xw).map (fun p=>mkV ag ks p.1)/\aC w g ((yJ es Xw).map (·.2)) ((Gz.eraseIdx j).map (·.val))/\j<Gz.length
 |[],Gz,i,j,v0,h1,_,_=>by simp[fnd]at h1
 |p::es,[],i,j,v0,h1,_,_=>by simp[fnd]at h1
 |p::es,e::Gz,i,j,v0,h1,h2,h3=>by
  simp only[aAj,aBj]at h2;simp only[aAj,aC]at h3;obtain⟨v,vs,hv,k1,k2⟩:=h3;injection hv with F9 hv2;subst F9 hv2;simp only[fnd]at h1
  split at h1
  .rename_i hq;simp only[aAb,aAV]at h1;obtain rfl:j=0:=oO;simp only[yJ,aAe hq,List.eraseIdx_zero,List.tail_cons];exact⟨h2.2,k2,sS⟩
  .rename_i hq;have hj:∃ j',j=j'+1:=by
    cases j with
    |succ j'=>exact⟨j',rfl⟩
    |zero=>
     exfalso;have:∀(es:List (List Int×LV)) (Gz:List MapEntry) (i m:Nat) (v:Value),fnd Xw es Gz i=some (m,v)->i<=m:=by
      intro es;induction es with
      |nil=>intro Gz i m v h;simp[fnd]at h
      |cons p es ih=>
       intro Gz i m v h;cases Gz with
       |nil=>simp[fnd]at h
       |cons e Gz=>
        simp only[fnd]at h
        split at h
        .simp at h;omega
        .have:=ih _ _ _ _ h;omega
     have:=this _ _ _ _ _ h1;omega
   obtain⟨j',rfl⟩:=hj;obtain⟨a1,a2,a3⟩:=Fx (ag:=ag) (ks:=ks) es Gz (i+1) j' v0 (by rw[h1];congr 2;omega) h2.2 k2;simp only[yJ,aAa hq,List.eraseIdx_cons_succ,aAj,aC,h2.1,a1,List.length_cons];exact⟨trivial,⟨_,_,rfl,k1,a2⟩,oO⟩
theorem EY(hT:bF P T)(hi:Inv w g st){t kt ty:TypeId}{x i:LV}{v vi:Value}{r:bT}(he:yV T t x i st=some r)(hc:r.c)(h:Rep w g x v)(hvi:Rep w g i vi):
 r.v=.tu []/\∃ w',(Builtin.delete_ #[t,kt] ty #[v,vi]).run P w=.ok (.tuple #[]) w'/\Inv w' g r.s/\Ext w g w' g:=by
 unfold yV at he;cases hm:jY T t with
 |none=>simp[hm]at he
 |some p=>
  obtain⟨k,e⟩:=p;simp only[hm]at he;have hu:=oY hT hm;cases hk:T k with
  |none=>simp[hk]at he
  |some rk=>
   cases hki:yD i with
   |none=>simp[hk,hki]at he
   |some q=>
    obtain⟨ag,ks,Xw⟩:=q;simp only[hk,hki]at he;obtain⟨rfl,hlen⟩:=tA hki hvi;cases x with
    |mp l=>
     simp only at he;cases hl:st.H l with
     |map Q9 Zy es=>
      simp only[hl,aAb]at he;subst he;obtain⟨c1,rfl,rfl,rfl⟩:=hc;have E:=(hT k rk hk).eqk _ c1;obtain⟨m0,m1,Gz,clock,m2,m3,m4,m5,m6,m7⟩:=hi.mp l _ _ es hl;simp only[Rep]at h;obtain⟨rfl,_⟩:=h;have Xv:=lP (w:=w) E hlen es Gz m3 m1;have M8:=fun em=>E.chk w em Xw hlen;refine⟨rfl,?_⟩;cases hg:bR es Xw with
      |none=>have hf:=tO Xw es Gz 0 hg;obtain⟨b1,b2⟩:=nQ (ZU:=Gz) (clock':=clock) hi hl (es':=yJ es Xw) (fun p hp=>m1 p (BT es hp)) (by rw[vR es hg];exact m3) (by rw[vR es hg];exact m4) m6 m7;refine⟨_,?_,b1,b2⟩;unfold Builtin.delete_;simp[Sem.run_bind,run_underlying hu,Result.andThen_ok,MapKept.run_getObj_map m2,M8,Xv,hf];rw[MapKept.run_setObj_map _ m2];simp
      |some lv=>obtain⟨j,en,hf,hen,YF,Yf⟩:=tN (w:=w) (g:=g) Xw es Gz 0 lv m4 hg;obtain⟨a1,a2,a3⟩:=Fx (ag:=rk.agg) (ks:=Zy) es Gz 0 j en.val hf m3 m4;have Yv:(Gz.eraseIdx j).Sublist Gz:=List.eraseIdx_sublist Gz j;obtain⟨b1,b2⟩:=nQ (ZU:=Gz.eraseIdx j) (clock':=clock) hi hl (es':=yJ es Xw) (fun p hp=>m1 p (BT es hp)) a1 a2 (fun z hz=>m6 z (Yv.subset hz)) (m7.sublist (Yv.map _));refine⟨_,?_,b1,b2⟩;unfold Builtin.delete_;simp[Sem.run_bind,run_underlying hu,Result.andThen_ok,MapKept.run_getObj_map m2,M8,Xv,hf];rw[MapKept.run_setObj_map _ m2];simp
     |_=>simp[hl]at he
    |_=>simp at he
theorem Ia(h:Inv w g st)(ag:Bool)(ks:List IntKind):Inv (w.alloc (.map #[] 0)) (g.add w.heap.size 0 0 false) (st.new (.map ag ks [])):=by
 have he:=dD w g (.map #[] 0) 0 0 false;have hn:=h.next;refine⟨by simp[G.add,St.new,hn],by simp[St.new],?_,?_,?_,?_,?_,?_,?_,h.aside.keep he (nZ rfl)⟩
 .intro l hl;simp only[St.new]at hl ⊢;rw[aAa oO];exact h.fresh l oO
 .intro l hl;by_cases e0:l=st.next
  .subst e0;simp[G.add,hn]
  .rw[cN hn e0]at hl;have:=h.lt l hl;simp only[G.add,hn,aAa e0];simp;omega
 .intro l l' hl Yu hb;by_cases e0:l=st.next<;>by_cases e1:l'=st.next
  .omega
  .rw[cN hn e1]at Yu;have:=h.lt l' Yu;simp only[G.add,hn,aAe e0,aAa e1]at hb;omega
  .rw[cN hn e0]at hl;have:=h.lt l hl;simp only[G.add,hn,aAe e1,aAa e0]at hb;omega
  .rw[cN hn e0]at hl;rw[cN hn e1]at Yu;simp only[G.add,hn,aAa e1,aAa e0]at hb;exact h.inj l l' hl Yu hb
 .intro l e' s n hl;by_cases e0:l=st.next
  .simp[St.new,e0]at hl
  .simp only[St.new,aAa e0]at hl;obtain⟨h1,h2,h3,h4⟩:=h.own l e' s n hl;simp only[G.add,hn,aAa e0];refine⟨h1,h2,h3,fun Xl=>?_⟩;obtain⟨Xo,k1,k2,k3⟩:=h4 Xl;have dN:g.β l<w.heap.size:=(aAt.1 k1).1;exact⟨Xo,by rw[heap_alloc_old w _ _ dN];exact k1,k2,by rw[aAa oO];exact k3⟩
 .intro l e' s' cs' hl;by_cases e0:l=st.next
  .simp[St.new,e0]at hl
  .simp only[St.new,aAa e0]at hl;obtain⟨k3,k0,k'⟩:=h.box l e' s' cs' hl;refine⟨?_,?_,fun Xl=>?_⟩
   .simp only[G.add,hn,aAa e0];exact k3
   .simp only[G.add,hn,aAa e0];exact k0
   simp only[G.add,hn,aAa e0]at Xl;obtain⟨Yq,k1,k2,k4,k5,k6⟩:=k' Xl;have dN:g.β l<w.heap.size:=(aAt.1 k1).1;refine⟨Yq,?_,?_,k4,aC.mono he _ _ k5,?_⟩
   .simp only[G.add,hn,aAa e0];rw[heap_alloc_old w _ _ dN];exact k1
   .simp only[G.add,hn,aAa e0];exact k2
   .simp only[G.add,hn,aAa e0];rw[aAa oO];exact k6
 .intro l Q9 Zy es hl;by_cases e0:l=st.next
  .simp only[St.new,aAe e0]at hl;injection hl with a1 a2 a3;subst a1 a2 a3;refine⟨by simp[G.add,hn,e0],sS,[],0,?_,rfl,by simp[aC],by simp[G.add,hn,e0],sS,sS⟩;simp only[G.add,hn,aAe e0];exact heap_alloc_new w _
  .simp only[St.new,aAa e0]at hl;have hm:=h.mp l _ _ es hl;have dN:=hm.blk_lt;exact hm.keep he (h.map_lt hl) (heap_alloc_old w _ _ dN) (by simp only[G.add];rw[aAa oO])
 .intro l e' n hl;by_cases e0:l=st.next
  .simp[St.new,e0]at hl
  .simp only[St.new,aAa e0]at hl;have hm:=h.qu l e' n hl;have dN:=hm.blk_lt;exact hm.keep he (h.que_lt hl) (heap_alloc_old w _ _ dN) (by simp only[G.add];rw[aAa oO])
theorem CB(hT:bF P T)(hi:Inv w g st){t:TypeId}{rs:Option LV}{vr:Option Value}{r:bT}(he:tT T t rs st=some r)(hvr:∀ x,rs=some x->∃ v,vr=some v/\Rep w g x v)(hvn:rs=none->vr=none):
 ∃ u w' g',(Instr.makeMap t vr).run P w=.ok u w'/\Rep w' g' r.v u/\Inv w' g' r.s/\Ext w g w' g':=by
 unfold tT at he;cases hm:jY T t with
 |none=>simp[hm]at he
 |some p=>
  obtain⟨k,e⟩:=p;simp only[hm]at he;have hu:=oY hT hm;cases hk:T k with
  |none=>simp[hk]at he
  |some rk=>
   simp only[hk]at he;cases hck:rk.ck with
   |none=>simp[hck]at he
   |some ks=>
    simp only[hck]at he;have key:r=⟨True,.mp st.next,st.new (.map rk.agg ks [])⟩->(∃ w',w'=w/\(Instr.makeMap t vr).run P w=.ok (.map (some w.heap.size)) (w'.alloc (.map #[] 0)))->∃ u w' g',(Instr.makeMap t vr).run P w=.ok u w'/\Rep w' g' r.v u/\Inv w' g' r.s/\Ext w g w' g':=by rintro rfl ⟨_,rfl,Xv⟩;refine⟨_,_,_,Xv,?_,Ia hi rk.agg ks,dD _ _ _ _ _ _⟩;simp only[Rep,G.add,hi.next,aAe];exact⟨trivial,aCP _⟩
    split at he
    .simp only[aAb]at he;refine key he.symm ⟨w,rfl,?_⟩;rw[hvn rfl];simp[Instr.makeMap]
    .rename_i kk nn;simp only[aAb]at he;refine key he.symm ⟨w,rfl,?_⟩;obtain⟨vv,rfl,hv⟩:=hvr _ rfl;simp only[Rep]at hv;subst hv
     first|(simp[Instr.makeMap,run_underlying hu];done)|simp[Instr.makeMap,run_underlying hu,asInt,asIntOf]
    .simp at he
theorem HP{t:Nat}{r:bI}(h:bA P t r){ks:List IntKind}(hck:r.ck=some ks)(ha:r.agg=true){Xw bs:List Int}(h1:Xw.length=ks.length)(h2:bs.length=ks.length)(ox oy:Operand)(op:BinOp)(neg:Bool)(u7:(op=.eql/\neg=false)\/(op=.neq/\neg=true)):
 (do eqGuard op t ox oy (mkV true ks Xw) (mkV true ks bs);binOp op t (mkV true ks Xw) (mkV true ks bs):Sem Value).run P w=.ok (.bool ((Xw==bs) != neg)) w:=by
 have E:=h.eqk ks hck;rw[ha]at E;have hq:=E.eq w Xw bs h1 h2;have hg:=E.guard rfl;simp only[mkV,aBn]at hq ⊢;rw[Sem.run_bind,run_eqGuard_agg w op t ox oy _ _ hg];simp only[Result.andThen_ok];rcases u7 with⟨rfl,rfl⟩|⟨rfl,rfl⟩
 .simp only[binOp,Sem.run_bind,hq,Result.andThen_ok,Sem.run_pure];simp
 .simp only[binOp,Sem.run_bind,hq,Result.andThen_ok,Sem.run_pure];simp
theorem rI{t:Nat}{k:IntKind}(h:P.underlying t=some (.int k))(w:World)(em:Bool)(a:Int):(Instr.checkKey em 9999 t (.int k a)).run P w=.ok () w:=by rw[show(9999:Nat)=9998+1 from rfl];unfold Instr.checkKey;simp[run_underlying h]
theorem gC{t:Nat}{k:IntKind}(h:P.underlying t=some (.int k)):FD P t false [k]:=by
 refine⟨fun w Xw bs h1 h2=>?_,fun w em Xw h1=>?_,(fun h=>by cases h),fun _=>rfl,_,h,.inl fun Xw bs h1 h2=>?_⟩
 .match Xw,bs,h1,h2 with
  |[a],[b],_,_=>have:=run_equalIn_int (P:=P) w 9999 t k k a b h;simp only[mkV,mkC,aAR,aBB,List.headD_cons];unfold Op.equal Op.maxDepth;rw[this];simp
 .match Xw,h1 with
  |[a],_=>simp only[mkV,mkC,aAR,aBB,List.headD_cons];unfold Instr.checkKey;simp[run_underlying h]
 .match Xw,bs,h1,h2 with
  |[a],[b],_,_=>simp[mkV,mkC,Instr.sameNow]
end
end Aw
end Go.Proofs.YtempldclppogmaaGreatDoor
