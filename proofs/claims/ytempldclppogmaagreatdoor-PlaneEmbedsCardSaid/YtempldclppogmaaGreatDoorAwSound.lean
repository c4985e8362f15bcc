/- The operations' soundness. No program is named here. -/
import Derived.Test.YtempldclppogmaaGreatDoorAwOps
set_option linter.unusedVariables false
set_option linter.unusedSimpArgs false
namespace Go.Proofs.YtempldclppogmaaGreatDoor
namespace Aw
open Go Go.RowKit
section
variable {P:Program} {T:Tab} {w:World} {g:G} {st:St}
theorem pB{x:LV}{v:Value}{q n:Nat}{cs:List LV}(hx:wM x=some (q,n,cs))(h:Rep w g x v):Rep w g (.sl q n cs) v:=by
 cases x with
 |sl q' n' cs'=>simp only[wM,aAb,aAV]at hx;obtain⟨rfl,rfl,rfl⟩:=hx;exact h
 |nil=>simp only[wM,aAb,aAV]at hx;obtain⟨rfl,rfl,rfl⟩:=hx;exact uR h
 |emp=>simp only[wM,aAb,aAV]at hx;obtain⟨rfl,rfl,rfl⟩:=hx;simp only[Rep]at h ⊢;obtain⟨A,h⟩:=h;exact⟨A,0,h,aAi _,⟨aBr _,fun _=>rfl⟩,fun h=>absurd rfl h,fun h=>absurd rfl h⟩
 |qu t o n' cs'=>
  simp only[wM,aAb,aAV]at hx;obtain⟨rfl,rfl,rfl⟩:=hx;simp only[Rep]at h ⊢;obtain⟨A,cap,hv,hn,hc,_,_,hA,ZJ⟩:=h;refine⟨A,cap,hv,hn,⟨hc,fun h0=>?_⟩,fun h0=>absurd rfl h0,ZJ⟩;by_cases h1:cap=0
  .exact h1
  .rw[hA h1]at h0;cases h0
 |_=>simp[wM]at hx
theorem Jr(hi:Inv w g st){x:LV}{v:Value}{cs:List LV}(hx:dZ st x=some cs)(h:Rep w g x v):
 ∃ b o vs,v=.pointer (some ⟨b,o,none⟩)/\aC w g cs vs/\∀ j,j<cs.length->w.cell? ⟨b,o+j,none⟩=vs[j]?:=by
 cases x with
 |ep cs'=>simp only[dZ,aAb]at hx;subst hx;simp only[Rep]at h;obtain⟨b,o,rfl,hr⟩:=h;obtain⟨vs,h1,h2⟩:=fP _ _ hr;exact⟨b,o,vs,rfl,h1,h2⟩
 |pe l cs'=>simp only[dZ,aAb]at hx;subst hx;simp only[Rep]at h;obtain⟨rfl,_,hr⟩:=h;obtain⟨vs,h1,h2⟩:=fP _ _ hr;exact⟨_,0,vs,rfl,h1,h2⟩
 |pt l o=>
  simp only[dZ]at hx;cases hH:st.H l with
  |box e s cs'=>
   simp only[hH,aAb]at hx;subst hx;simp only[Rep]at h;obtain⟨rfl,_⟩:=h;obtain⟨_,k0,k'⟩:=hi.box l e s cs' hH;cases Xl:g.nl l with
   |true=>obtain⟨_,rfl⟩:=k0 Xl;exact⟨g.β l,o,[],rfl,by simp only[aDW,aC],sS⟩
   |false=>obtain⟨Xo,k1,k2,k4,k5,_⟩:=k' Xl;refine⟨g.β l,o,(Xo.take cs'.length).drop o,rfl,gV _ _ _ k5,fun j hj=>?_⟩;rw[cell_of_row w _ _ _ _ _ k1];simp only[aAN]at hj;simp[show o+j<cs'.length by omega]
  |_=>simp[hH]at hx
 |_=>simp[dZ]at hx
theorem kT{b o:Nat}{cs:List LV}{vs:List Value}(hr:aC w g cs vs)(hc:∀ j,j<cs.length->w.cell? ⟨b,o+j,none⟩=vs[j]?)(n:Nat)(hn:n<=cs.length):
 (loadCells ⟨b,o,none⟩ n).run P w=.ok (vs.take n).toArray w:=by
 have hl:=aL _ _ hr
 have:=run_loadCells_list (P:=P) w ⟨b,o,none⟩ (vs.take n) (fun j v hv=>by
  rw[add_lit];have hj:j<n:=by
   rw[aBv]at hv
   split at hv
   .assumption
   .cases hv
  rw[hc j oO];rw[aBv,aAe hj]at hv
  exact hv)
 rw[aAo,aCt oO]at this;exact this
theorem Bi(hT:bF P T)(hi:Inv w g st){t:TypeId}{x:LV}{v:Value}{r:bT}(he:AR T t x st=some r)(hc:r.c)(h:Rep w g x v):
 r.s=st/\∃ u,(Instr.loadAt t v).run P w=.ok u w/\Rep w g r.v u:=by
 unfold AR at he;cases ht:T t with
 |none=>simp[ht]at he
 |some row=>
  cases hp:dZ st x with
  |none=>simp[ht,hp]at he
  |some cs=>
   simp only[ht,hp]at he;obtain⟨b,o,vs,rfl,h1,h2⟩:=Jr hi hp h;have Rp:=hT t row ht;have hlen:=aL _ _ h1;cases ha:row.agg with
   |true=>
    simp only[ha,aBn,aAb]at he;subst he;refine⟨rfl,.agg (vs.take row.size).toArray,?_,?_⟩
    .simp[Instr.loadAt,Instr.sureAddr,loadVar,Rp.agg,ha,Rp.sizeOf,kT (P:=P) h1 h2 row.size hc]
    .simp only[Rep];exact⟨_,rfl,dQ _ _ _ h1⟩
   |false=>
    simp only[ha,aAR,aBB,aAb]at he;subst he;cases cs with
    |nil=>simp at hc
    |cons c cs=>simp only[aC]at h1;obtain⟨u,us,rfl,k1,k2⟩:=h1;have h0:=h2 0 sS;simp only[Nat.add_zero,List.getElem?_cons_zero]at h0;refine⟨rfl,u,?_,k1⟩;simp[Instr.loadAt,Instr.sureAddr,loadVar,Rp.agg,ha,load,Sem.run,h0]
theorem Mx(hT:bF P T){t:TypeId}{x i:LV}{v vi:Value}{r:bT}(he:OV T t x i st=some r)(hc:r.c)(h:Rep w g x v)(hvi:Rep w g i vi):
 r.s=st/\∃ u,(Instr.indexAt t v vi).run P w=.ok u w/\Rep w g r.v u:=by
 unfold OV at he
 split at he
 .rename_i e k i' ht;have hd:P.underlying t=some (.slice e):=cF hT ht;simp only[Rep]at hvi;subst hvi
  split at he
  .rename_i row ZL;have Rp:=hT e row ZL
   split at he
   .rename_i l o n;simp only[aAb]at he;subst he;obtain⟨c1,c2⟩:=hc;simp only[Rep]at h;obtain⟨A,cap,rfl,hn,hm,_,hA,hl⟩:=h;obtain rfl:=hA oO;refine⟨rfl,.pointer (some ⟨g.β l,o+i'.toNat*row.size,none⟩),?_,by simp[Rep,hl]⟩;simp[Instr.indexAt,asIntOf,run_underlying hd,c1,c2,Rp.sizeOf,add_lit]
   .split at he
    .rename_i q n cs hs;simp only[aAb]at he;subst he;obtain⟨c1,c2,c3⟩:=hc;have h':=pB hs h;simp only[Rep]at h';obtain⟨A,cap,rfl,hn,hm,_,O7⟩:=h';obtain⟨b,o,rfl,O8⟩:=O7 (fun e0=>by subst e0;simp at c3);refine⟨rfl,.pointer (some ⟨b,o+i'.toNat*row.size,none⟩),?_,?_⟩
     .simp[Instr.indexAt,asIntOf,run_underlying hd,c1,c2,Rp.sizeOf,add_lit]
     .simp only[Rep];exact⟨b,_,rfl,fQ _ _ _ O8⟩
    .simp at he
  .simp at he
 .simp at he
theorem Af{y:Option LV}{vy:Option Value}{d:Nat}{l:Int}(ho:dV y d=some l)(h:∀ q,y=some q->∃ u,vy=some u/\Rep w g q u)(h0:y=none->vy=none):
 (vy=none/\l=(d:Int))\/∃ k,vy=some (.int k l):=by
 cases y with
 |none=>simp only[dV,aAb]at ho;exact .inl ⟨h0 rfl,ho.symm⟩
 |some q=>
  obtain⟨u,rfl,hu⟩:=h q rfl;right;unfold dV at ho
  split at ho
  .rename_i J8;cases J8
  .rename_i k i J8;injection J8 with J8;subst J8;simp only[aAb]at ho;subst ho;simp only[Rep]at hu;exact⟨k,by rw[hu]⟩
  .cases ho
theorem xK{n cap:Nat}{lo hi:Option LV}{vlo vhi:Option Value}{l hh:Int}(A3:dV lo 0=some l)(Y7:dV hi n=some hh)(c1:0<=l)(c2:l<=hh)(c3:hh<=cap)(hn:n<=cap)
 (x9:∀ l,lo=some l->∃ u,vlo=some u/\Rep w g l u) (J7:lo=none->vlo=none) (hhi:∀ l,hi=some l->∃ u,vhi=some u/\Rep w g l u) (O1:hi=none->vhi=none):
 (Instr.sliceBounds true n cap vlo vhi none).run P w=.ok (l.toNat,hh.toNat,cap) w:=by
 have k1:hh<=(cap:Int):=oO;have k2:0<=hh:=oO;rcases Af A3 x9 J7 with⟨rfl,rfl⟩|⟨kl,rfl⟩<;>rcases Af Y7 hhi O1 with⟨rfl,rfl⟩|⟨kh,rfl⟩
 .simp[Instr.sliceBounds]
 .simp[Instr.sliceBounds,Instr.sliceBound,asIntOf,k1,k2]
 .have k3:l.toNat<=n:=oO;simp[Instr.sliceBounds,Instr.sliceBound,asIntOf,c1,c2]
 .have k3:l<=((hh.toNat:Nat):Int):=oO;simp[Instr.sliceBounds,Instr.sliceBound,asIntOf,c1,k1,k2];exact fun h0=>absurd h0 oO
theorem nY{n cap:Nat}{lo hi:Option LV}{vlo vhi:Option Value}{l hh:Int}(A3:dV lo 0=some l)(Y7:dV hi n=some hh)(c1:0<=l)(c2:l<=hh)(c3:hh<=n)(hn:n<=cap)
 (x9:∀ l,lo=some l->∃ u,vlo=some u/\Rep w g l u) (J7:lo=none->vlo=none) (hhi:∀ l,hi=some l->∃ u,vhi=some u/\Rep w g l u) (O1:hi=none->vhi=none):
 (Instr.sliceBounds true n cap vlo vhi none).run P w=.ok (l.toNat,hh.toNat,cap) w:=
 xK A3 Y7 c1 c2 oO hn x9 J7 hhi O1
theorem FL(hT:bF P T){t:TypeId}{x:LV}{lo hi mx:Option LV}{v:Value}{vlo vhi vmx:Option Value}{r:bT}(he:BM T t x lo hi mx st=some r)(hc:r.c)(h:Rep w g x v)
 (x9:∀ l,lo=some l->∃ u,vlo=some u/\Rep w g l u) (J7:lo=none->vlo=none) (hhi:∀ l,hi=some l->∃ u,vhi=some u/\Rep w g l u) (O1:hi=none->vhi=none)
 (hmx:∀ l,mx=some l->∃ u,vmx=some u/\Rep w g l u) (hmx0:mx=none->vmx=none):
 r.s=st/\∃ u,(Instr.sliceAt t v vlo vhi vmx).run P w=.ok u w/\Rep w g r.v u:=by
 unfold BM at he
 split at he
 .rename_i e ht;have hd:P.underlying t=some (.slice e):=cF hT ht
  split at he
  .rename_i row ZL;have Rp:=hT e row ZL
   split at he
   .obtain rfl:=hmx0 rfl
    split at he
    .rename_i b o n
     split at he
     .rename_i l hh A3 Y7;simp only[aAb]at he;subst he;obtain⟨c1,c2,c3,c4⟩:=hc;simp only[Rep]at h;obtain⟨A,cap,rfl,hn,hm,h0,hA,hb⟩:=h;have hbr:=nY (P:=P) (w:=w) (g:=g) A3 Y7 c1 c2 c3 hn x9 J7 hhi O1;refine⟨rfl,.slice (if cap=l.toNat then A else A.map (·.add (l.toNat*row.size))) (hh.toNat-l.toNat) (cap-l.toNat),?_,?_⟩
      .simp[Instr.sliceAt,Instr.slice,run_underlying hd,hbr,Rp.sizeOf]
      .simp only[Rep];refine⟨_,_,rfl,oO,oO,fun ho=>?_,fun Wx=>?_,hb⟩
       .have ho0:o=0:=oO;have v7:l.toNat=0:=by
         have h1:l.toNat*row.size=0:=oO;rcases aEi.1 h1 with h2|h2
         .exact h2
         .omega
        obtain⟨k1,k2⟩:=h0 ho0;refine⟨oO,fun Xl=>?_⟩;rw[k2 Xl,v7]
        split<;>simp[Addr.add]
       .have hne':n≠0:=oO;rw[hA hne',aAa oO];simp[add_lit]
     .simp at he
    .rename_i b n c
     split at he
     .rename_i l hh A3 Y7;simp only[aAb]at he;subst he;obtain⟨c1,c2,c3,c4⟩:=hc;simp only[Rep]at h;obtain⟨A,rfl,hn,hm,hk,hb,hA,Xl⟩:=h;have hbr:=xK (P:=P) (w:=w) (g:=g) A3 Y7 c1 c2 c3 hn x9 J7 hhi O1;refine⟨rfl,.slice (if c=l.toNat then A else A.map (·.add (l.toNat*row.size))) (hh.toNat-l.toNat) (c-l.toNat),?_,?_⟩
      .simp[Instr.sliceAt,Instr.slice,run_underlying hd,hbr,Rp.sizeOf]
      .cases lo with
       |none=>
        simp only[dV,aAb]at A3;subst A3;simp only[Option.isNone_none,aBn,Rep];refine⟨_,rfl,oO,oO,oO,hb,fun h0=>?_,fun h0=>by have:=Xl h0;omega⟩;rw[hA h0]
        split<;>simp[Addr.add]
       |some y=>
        simp only[Option.isNone_some,aAR,aBB,Rep];refine⟨_,_,rfl,oO,oO,fun ho=>?_,fun Wx=>?_,hb⟩
        .have v7:l.toNat=0:=by
          rcases aEi.1 ho with h2|h2
          .exact h2
          .omega
         refine⟨oO,fun h0=>?_⟩;rw[hA h0,v7]
         split<;>simp[Addr.add]
        .have h0:g.nl b=false:=by
          cases h0:g.nl b with
          |false=>rfl
          |true=>have:=Xl h0;omega
         rw[hA h0,aAa oO];simp[add_lit]
     .simp at he
    .split at he
     .rename_i l hh A3 Y7;simp only[aAb]at he;subst he;obtain⟨rfl,rfl⟩:=hc;simp only[Rep]at h;subst h;have hbr:=nY (P:=P) (w:=w) (g:=g) (n:=0) (cap:=0) A3 Y7 oO oO oO oO x9 J7 hhi O1;refine⟨rfl,.slice none 0 0,?_,by simp only[Rep]⟩;simp[Instr.sliceAt,Instr.slice,run_underlying hd,hbr,Rp.sizeOf]
     .simp at he
    .rename_i t' o n cs
     split at he
     .rename_i l hh A3 Y7;simp only[aAb]at he;subst he;obtain⟨c1,c2,c3,c4⟩:=hc;simp only[Rep]at h;obtain⟨A,cap,rfl,hn,hm,F0,hk,hA,O7⟩:=h;have hbr:=nY (P:=P) (w:=w) (g:=g) A3 Y7 c1 c2 c3 hn x9 J7 hhi O1;refine⟨rfl,.slice (if cap=l.toNat then A else A.map (·.add (l.toNat*row.size))) (hh.toNat-l.toNat) (cap-l.toNat),?_,?_⟩
      .simp[Instr.sliceAt,Instr.slice,run_underlying hd,hbr,Rp.sizeOf]
      .simp only[Rep];refine⟨_,_,rfl,oO,oO,F0,oO,fun Wx=>?_,fun Wx=>?_⟩
       .rw[aAa oO,hA oO,c4];simp only[Option.map_some,add_lit,aCF,aDp]
       .have hlh:hh.toNat-l.toNat≠0:=fun h0=>by rw[h0]at Wx;simp at Wx
        have ZJ:cs≠[]:=by rintro rfl;simp at Wx
        obtain⟨b,o',hAb,O8⟩:=O7 ZJ;rw[aAa oO,hAb,c4];refine⟨b,o'+l.toNat,by simp only[Option.map_some,add_lit,aCF],pG _ _ _ (fQ _ _ _ O8)⟩
     .simp at he
    .split at he
     .rename_i q n cs hs
      split at he
      .rename_i l hh A3 Y7;simp only[aAb]at he;subst he;obtain⟨c1,c2,c3⟩:=hc;have h':=pB hs h;simp only[Rep]at h';obtain⟨A,cap,rfl,hn,hm,_,O7⟩:=h';have hbr:=nY (P:=P) (w:=w) (g:=g) A3 Y7 c1 c2 c3 hn x9 J7 hhi O1;refine⟨rfl,.slice (if cap=l.toNat then A else A.map (·.add (l.toNat*row.size))) (hh.toNat-l.toNat) (cap-l.toNat),?_,?_⟩
       .simp[Instr.sliceAt,Instr.slice,run_underlying hd,hbr,Rp.sizeOf]
       .simp only[Rep];refine⟨_,_,rfl,oO,⟨by have:=hm.1;omega,fun hA0=>?_⟩,fun e0=>absurd rfl e0,fun Wx=>?_⟩
        .have L3:A=none:=by
          split at hA0
          .exact hA0
          .simpa using hA0
         have:=hm.2 L3;omega
        have dN:l.toNat<hh.toNat:=by
         rcases aAB l.toNat hh.toNat with h0|h0
         .exact h0
         .rw[show hh.toNat-l.toNat=0 by omega]at Wx;simp at Wx
        have ZJ:cs≠[]:=by rintro rfl;simp at Wx
        obtain⟨b,o,rfl,O8⟩:=O7 ZJ;refine⟨b,o+l.toNat*row.size,?_,?_⟩
        .rw[aAa oO];simp[add_lit]
        .exact pG _ _ _ (fQ _ _ _ O8)
      .simp at he
     .simp at he
   .rename_i k m
    split at he
    .rename_i k' hh p hs;simp only[aAb]at he;subst he;obtain⟨rfl,rfl⟩:=hc;obtain⟨q,n,cs⟩:=p;have h':=pB hs h;simp only[Rep]at h';obtain⟨A,cap,rfl,hn,hm,_,_⟩:=h';obtain⟨u,rfl,hu⟩:=hhi _ rfl;obtain⟨u',rfl,P4⟩:=hmx _ rfl;simp only[Rep]at hu P4;subst hu P4;obtain rfl:=J7 rfl;refine⟨rfl,.slice A 0 0,?_,by simp only[Rep];exact⟨A,rfl⟩⟩;simp[Instr.sliceAt,Instr.slice,run_underlying hd,Instr.sliceBounds,Instr.sliceBound,asIntOf,Rp.sizeOf]
    .rename_i kl ll kh hh I1
     split at he
     .rename_i b o n;simp only[aAb]at he;subst he;obtain⟨c1,c2,c3,c4⟩:=hc;simp only[Rep]at h;obtain⟨A,cap,rfl,hn,hm,h0,hA,hb⟩:=h;obtain⟨u1,rfl,W6⟩:=x9 _ rfl;obtain⟨u2,rfl,hu2⟩:=hhi _ rfl;obtain⟨u3,rfl,hu3⟩:=hmx _ rfl;simp only[Rep]at W6 hu2 hu3;subst W6 hu2 hu3;have e1:m<=(cap:Int):=oO;have e2:(0:Int)<=m:=oO;have e3:(0:Int)<=hh:=oO;refine⟨rfl,.slice (if m.toNat=ll.toNat then A else A.map (·.add (ll.toNat*row.size))) (hh.toNat-ll.toNat) (m.toNat-ll.toNat),?_,by simp only[Rep]⟩;have e4:hh<=max m 0:=oO;have e5:ll<=max hh 0:=oO;simp[Instr.sliceAt,Instr.slice,run_underlying hd,Instr.sliceBounds,Instr.sliceBound,asIntOf,Rp.sizeOf,e1,e2,e3,c1];rw[aAe e4,aAe e5]
     .rename_i b n cap;simp only[aAb]at he;subst he;obtain⟨c1,c2,c3,c4⟩:=hc;simp only[Rep]at h;obtain⟨A,rfl,hn,hm,_⟩:=h;obtain⟨u1,rfl,W6⟩:=x9 _ rfl;obtain⟨u2,rfl,hu2⟩:=hhi _ rfl;obtain⟨u3,rfl,hu3⟩:=hmx _ rfl;simp only[Rep]at W6 hu2 hu3;subst W6 hu2 hu3;have e1:m<=(cap:Int):=oO;have e2:(0:Int)<=m:=oO;have e3:(0:Int)<=hh:=oO;refine⟨rfl,.slice (if m.toNat=ll.toNat then A else A.map (·.add (ll.toNat*row.size))) (hh.toNat-ll.toNat) (m.toNat-ll.toNat),?_,by simp only[Rep]⟩;have e4:hh<=max m 0:=oO;have e5:ll<=max hh 0:=oO;simp[Instr.sliceAt,Instr.slice,run_underlying hd,Instr.sliceBounds,Instr.sliceBound,asIntOf,Rp.sizeOf,e1,e2,e3,c1];rw[aAe e4,aAe e5]
     .simp at he
    .simp at he
   .simp at he
  .simp at he
 .simp at he
theorem pK{x:LV}{v:Value}{cs:List LV}(hx:dK x=some cs)(h:Rep w g x v):aC w g cs v.cells.toList:=by
 have key:∀ lv:LV,cs=[lv]->Rep w g lv v->(∀ cells,v≠.agg cells)->aC w g cs v.cells.toList:=by
  intro lv h1 h2 h3;subst h1;have:v.cells=#[v]:=by cases v<;>first|rfl|exact absurd rfl (h3 _)
  rw[this];simp only[aC];exact⟨v,[],rfl,h2,rfl⟩
 cases x with
 |ag cs'=>simp only[dK,aAb]at hx;subst hx;simp only[Rep]at h;obtain⟨vs,rfl,h⟩:=h;simpa[Value.cells]using h
 |dead=>simp[dK]at hx
 |tu vs=>simp[dK]at hx
 |nil=>simp only[dK,aAb]at hx;refine key _ hx.symm h ?_;simp only[Rep]at h;subst h;simp
 |emp=>simp only[dK,aAb]at hx;refine key _ hx.symm h ?_;simp only[Rep]at h;obtain⟨A,rfl⟩:=h;simp
 |ms l o n=>simp only[dK,aAb]at hx;refine key _ hx.symm h ?_;simp only[Rep]at h;obtain⟨A,cap,rfl,_⟩:=h;simp
 |atom y=>have h':=h;simp only[Rep]at h';subst h';cases v<;>simp only[dK,aAb]at hx<;>first|exact key _ hx.symm h (by simp)|cases hx
 |sl q n cs'=>simp only[dK,aAb]at hx;refine key _ hx.symm h ?_;simp only[Rep]at h;obtain⟨A,cap,rfl,_⟩:=h;simp
 |pt l o=>simp only[dK,aAb]at hx;refine key _ hx.symm h ?_;simp only[Rep]at h;rw[h.1];simp
 |ep cs'=>simp only[dK,aAb]at hx;refine key _ hx.symm h ?_;simp only[Rep]at h;obtain⟨b,o,rfl,_⟩:=h;simp
 |mp l=>simp only[dK,aAb]at hx;refine key _ hx.symm h ?_;simp only[Rep]at h;rw[h.1];simp
 |fn f cY=>simp only[dK,aAb]at hx;refine key _ hx.symm h ?_;simp only[Rep]at h;obtain⟨vs,rfl,_⟩:=h;simp
 |qu t o n cs'=>simp only[dK,aAb]at hx;refine key _ hx.symm h ?_;simp only[Rep]at h;obtain⟨A,cap,rfl,_⟩:=h;simp
 |pe l cs'=>simp only[dK,aAb]at hx;refine key _ hx.symm h ?_;simp only[Rep]at h;rw[h.1];simp
 |kap l n c=>simp only[dK,aAb]at hx;refine key _ hx.symm h ?_;simp only[Rep]at h;obtain⟨A,rfl,_⟩:=h;simp
theorem Ln{x:LV}{v:Value}(hx:gR x=true)(h:Rep w g x v):v.oneCell'=true:=by
 cases x with
 |ag cs=>simp[gR]at hx
 |dead=>simp[gR]at hx
 |tu vs=>simp[gR]at hx
 |nil=>simp only[Rep]at h;subst h;rfl
 |emp=>simp only[Rep]at h;obtain⟨A,rfl⟩:=h;rfl
 |ms l o n=>simp only[Rep]at h;obtain⟨A,cap,rfl,_⟩:=h;rfl
 |atom y=>simp only[Rep]at h;subst h;cases v<;>first|rfl|simp[gR]at hx
 |sl q n cs=>simp only[Rep]at h;obtain⟨A,cap,rfl,_⟩:=h;rfl
 |pt l o=>simp only[Rep]at h;rw[h.1];rfl
 |ep cs=>simp only[Rep]at h;obtain⟨b,o,rfl,_⟩:=h;rfl
 |mp l=>simp only[Rep]at h;rw[h.1];rfl
 |fn f cY=>simp only[Rep]at h;obtain⟨vs,rfl,_⟩:=h;rfl
 |qu t o n cs=>simp only[Rep]at h;obtain⟨A,cap,rfl,_⟩:=h;rfl
 |pe l cs=>simp only[Rep]at h;rw[h.1];rfl
 |kap l n c=>simp only[Rep]at h;obtain⟨A,rfl,_⟩:=h;rfl
theorem fH:∀(cs:List LV) (vs:List Value),cs.all gR=true->aC w g cs vs->∀ u∈vs,u.oneCell'=true
 |[],vs,_,h=>by simp only[aC]at h;subst h;simp
 |c::cs,vs,ha,h=>by
  simp only[aC]at h;obtain⟨v,vs',rfl,h1,h2⟩:=h;simp only[List.all_cons,aAS]at ha;intro u hu;rcases aAf.1 hu with rfl|hu
  .exact Ln ha.1 h1
  .exact fH cs vs' ha.2 h2 u hu
theorem Bd(hi:Inv w g st){l:Nat}{o:cI}(h:st.H l=o)(ho:o≠.dead):l<st.next:=by
 rcases aAB l st.next with h0|h0
 .exact h0
 .rw[hi.fresh l h0]at h;exact absurd h.symm ho
theorem sG(hi:Inv w g st){l o e s:Nat}{cs ds:List LV}{us:List Value}(hH:st.H l=.box e s cs)(Xl:g.nl l=false)(c2:o+ds.length<=cs.length)(Xk:aC w g ds us)(Yx:∀ u∈us,u.oneCell'=true):
 ∃ w',(storeCells ⟨g.β l,o,none⟩ us 0).run P w=.ok () w'/\Inv w' g (st.set l (.box e s (cs.take o++ds++cs.drop (o+ds.length))))/\Ext w g w' g:=by
 obtain⟨_,k0,k'⟩:=hi.box l e s cs hH;have hlen:=aL _ _ Xk;obtain⟨Xo,k1,k2,k4,k5,k6⟩:=k' Xl;have YL:=run_storeCells_at P (g.β l) o e us 0 Xo.toArray w k1 (by simp;omega) Yx;simp only[Nat.add_zero]at YL
 have Xp:=xM (cs':=cs.take o++ds++cs.drop (o+ds.length)) (vs':=Xo.take o++us++Xo.drop (o+us.length)) hi hH Xl (by
  rw[<- k2];simp only[aAh,aAo,aAN];omega) (by simp only[aAh,aAo,aAN];omega) (by
  have hx1:(cs.take o++ds++cs.drop (o+ds.length)).length=cs.length:=by simp only[aAh,aAo,aAN];omega
  have Ys:(Xo.take o++us++Xo.drop (o+us.length)).take cs.length=(Xo.take cs.length).take o++us++(Xo.take cs.length).drop (o+us.length):=by
   rw[aCE,aCE,aBS,aBS,aEt];simp only[aAh,aAo];rw[show min cs.length o=o by omega,show min o cs.length=o by omega];rw[aAr (l:=us) oO]
   congr 2
   omega
  rw[hx1,Ys,hlen]
  exact bZ _ _ _ _ (bZ _ _ _ _ (dQ o _ _ k5) Xk) (gV _ _ _ k5))
 exact⟨_,YL,Xp.1,Xp.2⟩
theorem HB(hT:bF P T)(hi:Inv w g st){t:TypeId}{x y:LV}{v u:Value}{r:bT}(he:Dq T t x y st=some r)(hc:r.c)(h:Rep w g x v)(hu:Rep w g y u):
 r.v=.dead/\∃ w',(Instr.storeAt t v u).run P w=.ok () w'/\Inv w' g r.s/\Ext w g w' g:=by
 unfold Dq at he
 split at he
 .rename_i row l o ds ht H6;cases hH:st.H l with
  |box e s cs=>
   simp only[hH,aAb]at he;subst he;obtain⟨c1,c2,c3⟩:=hc;simp only[Rep]at h;obtain⟨rfl,hl⟩:=h;have Rp:=hT t row ht;have Xk:=pK H6 hu;have hlen:=aL _ _ Xk;have ZH:u.cells.size=row.size:=by rw[<- c1,hlen];simp
   obtain⟨_,k0,k'⟩:=hi.box l e s cs hH;cases Xl:g.nl l with
   |true=>
    obtain⟨_,rfl⟩:=k0 Xl;have hd0:ds=[]:=aAE (by simp at c2;simpa using c2.2);subst hd0;have hu0:u.cells.toList=[]:=aAE hlen.symm;refine⟨rfl,w,?_,?_,Ext.refl w g⟩
    .simp[Instr.storeAt,Instr.sureAddr,storeVar,Rp.sizeOf,ZH,hu0,storeCells]
    .have:st.set l (.box e s (([]:List LV).take o++[]++([]:List LV).drop (o+([]:List LV).length)))=st:=by
      cases st with
      |mk nx H=>
       simp only[St.set,aEK,aAP,aDW]
       congr 1
       funext x
       by_cases hx:x=l
       .rw[aAe hx,hx];exact hH.symm
       .rw[aAa hx]
     simp only[this];exact hi
   |false=>obtain⟨w',YL,Xp⟩:=sG (P:=P) hi hH Xl c2 Xk (fH _ _ c3 Xk);refine⟨rfl,w',?_,Xp.1,Xp.2⟩;simp[Instr.storeAt,Instr.sureAddr,storeVar,Rp.sizeOf,ZH];simpa using YL
  |_=>simp[hH]at he
 .simp at he
theorem yG(hT:bF P T){t:TypeId}{x:LV}{v:Value}{f:Nat}{r:bT}(he:kM T t x f st=some r)(hc:r.c)(h:Rep w g x v):
 r.s=st/\∃ u,(Instr.fieldAt t v f).run P w=.ok u w/\Rep w g r.v u:=by
 unfold kM at he
 split at he
 .rename_i fs hs
  split at he
  .rename_i off ty hf
   split at he
   .rename_i row Rp;obtain⟨F,hd,hF⟩:=tD hT hs;have hfld:∃ fd,F[f]?=some fd/\fd.offset=off/\fd.type=ty:=by rw[<- hF]at hf;simp only[aBL,aBm]at hf;obtain⟨fd,h1,h2⟩:=hf;simp only[aAV]at h2;exact⟨fd,by simpa using h1,h2.1,h2.2⟩
    obtain⟨fd,h1,rfl,rfl⟩:=hfld;have hr:=hT _ row Rp
    split at he
    .rename_i l o;simp only[aAb]at he;subst he;simp only[Rep]at h;obtain⟨rfl,hl⟩:=h;refine⟨rfl,.pointer (some ⟨g.β l,o+fd.offset,none⟩),?_,by simp[Rep,hl]⟩;simp[Instr.fieldAt,run_underlying hd,h1,Instr.sureAddr,fieldPlace,hr.sizeOf,add_lit];intro h0;exact absurd h0 hc
    .rename_i cs;simp only[aAb]at he;subst he;simp only[Rep]at h;obtain⟨b,o,rfl,O8⟩:=h;refine⟨rfl,.pointer (some ⟨b,o+fd.offset,none⟩),?_,by simp only[Rep];exact⟨b,_,rfl,fQ _ _ _ O8⟩⟩;simp[Instr.fieldAt,run_underlying hd,h1,Instr.sureAddr,fieldPlace,hr.sizeOf,add_lit];intro h0;exact absurd h0 hc
    .rename_i l cs;simp only[aAb]at he;subst he;simp only[Rep]at h;obtain⟨rfl,_,O8⟩:=h;refine⟨rfl,.pointer (some ⟨g.β l,0+fd.offset,none⟩),?_,by simp only[Rep];exact⟨_,_,rfl,fQ _ _ _ O8⟩⟩;simp[Instr.fieldAt,run_underlying hd,h1,Instr.sureAddr,fieldPlace,hr.sizeOf,add_lit];intro h0;exact absurd h0 hc
    .simp at he
   .simp at he
  .simp at he
 .simp at he
theorem Fb(hT:bF P T){t:TypeId}{x:LV}{v:Value}{f:Nat}{r:bT}(he:AU T t x f st=some r)(hc:r.c)(h:Rep w g x v):
 r.s=st/\∃ u,(Instr.field t v f).run P w=.ok u w/\Rep w g r.v u:=by
 unfold AU at he
 split at he
 .rename_i fs cs hs
  split at he
  .rename_i off ty hf
   split at he
   .rename_i row Rp;obtain⟨F,hd,hF⟩:=tD hT hs;have hfld:∃ fd,F[f]?=some fd/\fd.offset=off/\fd.type=ty:=by rw[<- hF]at hf;simp only[aBL,aBm]at hf;obtain⟨fd,h1,h2⟩:=hf;simp only[aAV]at h2;exact⟨fd,by simpa using h1,h2.1,h2.2⟩
    obtain⟨fd,h1,rfl,rfl⟩:=hfld;have hr:=hT _ row Rp;simp only[Rep]at h;obtain⟨vs,rfl,hl⟩:=h;cases ha:row.agg with
    |true=>simp only[ha,aBn,aAb]at he;subst he;refine⟨rfl,.agg ((vs.drop fd.offset).take row.size).toArray,?_,by simp only[Rep];exact⟨_,rfl,dQ _ _ _ (gV _ _ _ hl)⟩⟩;simp[Instr.field,run_underlying hd,h1,part,asAgg,hr.agg,ha,hr.sizeOf]
    |false=>
     simp only[ha,aAR,aBB,aAb]at he;subst he;have hlen:=aL _ _ hl;have x8:fd.offset<cs.length:=hc;obtain⟨u,hu,hru⟩:=uS fd.offset cs vs cs[fd.offset] hl (aAd x8);refine⟨rfl,u,?_,?_⟩
     .simp[Instr.field,run_underlying hd,h1,part,asAgg,hr.agg,ha,hu]
     .rw[aAM x8];exact hru
   .simp at he
  .simp at he
 .simp at he
theorem Mc(hi:Inv w g st){t:TypeId}{x:LV}{v:Value}{r:bT}(he:RW t x st=some r)(h:Rep w g x v):
 ∃ u w' g',(Instr.box t v).run P w=.ok u w'/\Rep w' g' r.v u/\Inv w' g' r.s/\Ext w g w' g':=by
 unfold RW at he;cases hx:dK x with
 |none=>simp[hx]at he
 |some cs=>
  simp only[hx,aAb]at he;subst he;have Xk:=pK hx h;have hlen:=aL _ _ Xk;have h1:=tY hi t cs.length 1 (by rw[hlen];simp) (by simp[maxLen]) (aDv hlen) (by rw[aAr (aDv hlen.symm)];exact Xk);have h2:=dD w g (.cells v.cells.toList.toArray t) 0 1 false;refine⟨.pointer (some ⟨w.heap.size,0,none⟩),_,_,?_,?_,h1,h2⟩
  .simp[Instr.box,newVar,newRow]
  .simp only[Rep];simp[G.add,hi.next]
theorem cX{t:Nat}{row:bI}(h:bA P t row):row.zeroV.cells=row.zero.toArray:=by
 have Yx:∀ v∈row.zero,v.oneCell'=true:=by simpa using h.zone
 unfold bI.zeroV;cases ha:row.agg with
 |true=>rfl
 |false=>
  have h1:=h.one ha;have h2:=h.zl
  match hz:row.zero with
  |[]=>rw[hz,h1]at h2;simp at h2
  |[z]=>have:=Yx z (by rw[hz];simp);cases z<;>first|rfl|simp[Value.oneCell']at this
  |a::b::l=>rw[hz,h1]at h2;simp at h2
end
end Aw
end Go.Proofs.YtempldclppogmaaGreatDoor
