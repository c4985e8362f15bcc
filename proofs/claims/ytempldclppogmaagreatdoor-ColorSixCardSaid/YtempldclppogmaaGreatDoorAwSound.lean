/- The operations' soundness. No program is named here. -/
import Derived.Test.YtempldclppogmaaGreatDoorAwOps
set_option linter.unusedVariables false
set_option linter.unusedSimpArgs false
namespace Go.Proofs.YtempldclppogmaaGreatDoor
namespace Aw
open Go Go.RowKit
section
variable {P:Program} {T:Tab} {w:World} {g:G} {st:St}
theorem pY{x:LV}{v:Value}{q n:Nat}{cs:List LV}(hx:vV x=some (q,n,cs))(h:Rep w g x v):Rep w g (.sl q n cs) v:=by
 cases x with
 |sl q' n' cs'=>simp only[vV,aAb,aAW]at hx;obtain⟨rfl,rfl,rfl⟩:=hx;exact h
 |nil=>simp only[vV,aAb,aAW]at hx;obtain⟨rfl,rfl,rfl⟩:=hx;exact uA h
 |emp=>simp only[vV,aAb,aAW]at hx;obtain⟨rfl,rfl,rfl⟩:=hx;simp only[Rep]at h ⊢;obtain⟨A,h⟩:=h;exact⟨A,0,h,aAk _,⟨aBs _,fun _=>rfl⟩,fun h=>absurd rfl h,fun h=>absurd rfl h⟩
 |qu t o n' cs'=>
  simp only[vV,aAb,aAW]at hx;obtain⟨rfl,rfl,rfl⟩:=hx;simp only[Rep]at h ⊢;obtain⟨A,cap,hv,hn,hc,_,_,hA,ZC⟩:=h;refine⟨A,cap,hv,hn,⟨hc,fun h0=>?_⟩,fun h0=>absurd rfl h0,ZC⟩;by_cases h1:cap=0
  .exact h1
  .rw[hA h1]at h0;cases h0
 |_=>simp[vV]at hx
theorem KU(hi:Inv w g st){x:LV}{v:Value}{cs:List LV}(hx:eE st x=some cs)(h:Rep w g x v):
 ∃ b o vs,v=.pointer (some ⟨b,o,none⟩)/\aC w g cs vs/\∀ j,j<cs.length->w.cell? ⟨b,o+j,none⟩=vs[j]?:=by
 cases x with
 |ep cs'=>simp only[eE,aAb]at hx;subst hx;simp only[Rep]at h;obtain⟨b,o,rfl,hr⟩:=h;obtain⟨vs,h1,h2⟩:=fX _ _ hr;exact⟨b,o,vs,rfl,h1,h2⟩
 |pe l cs'=>simp only[eE,aAb]at hx;subst hx;simp only[Rep]at h;obtain⟨rfl,_,hr⟩:=h;obtain⟨vs,h1,h2⟩:=fX _ _ hr;exact⟨_,0,vs,rfl,h1,h2⟩
 |pt l o=>
  simp only[eE]at hx;cases hH:st.H l with
  |box e s cs'=>
   simp only[hH,aAb]at hx;subst hx;simp only[Rep]at h;obtain⟨rfl,_⟩:=h;obtain⟨_,k0,k'⟩:=hi.box l e s cs' hH;cases Xi:g.nl l with
   |true=>obtain⟨_,rfl⟩:=k0 Xi;exact⟨g.β l,o,[],rfl,by simp only[aEc,aC],sS⟩
   |false=>obtain⟨Xk,k1,k2,k4,k5,_⟩:=k' Xi;refine⟨g.β l,o,(Xk.take cs'.length).drop o,rfl,iE _ _ _ k5,fun j hj=>?_⟩;rw[cell_of_row w _ _ _ _ _ k1];simp only[aAP]at hj;simp[show o+j<cs'.length by omega]
  |_=>simp[hH]at hx
 |_=>simp[eE]at hx
theorem kL{b o:Nat}{cs:List LV}{vs:List Value}(hr:aC w g cs vs)(hc:∀ j,j<cs.length->w.cell? ⟨b,o+j,none⟩=vs[j]?)(n:Nat)(hn:n<=cs.length):
 (loadCells ⟨b,o,none⟩ n).run P w=.ok (vs.take n).toArray w:=by
 have hl:=aL _ _ hr
 have:=run_loadCells_list (P:=P) w ⟨b,o,none⟩ (vs.take n) (fun j v hv=>by
  rw[add_lit];have hj:j<n:=by
   rw[aBy]at hv
   split at hv
   .assumption
   .cases hv
  rw[hc j oO];rw[aBy,aAe hj]at hv
  exact hv)
 rw[aAq,aCu oO]at this;exact this
theorem Br(hT:bJ P T)(hi:Inv w g st){t:TypeId}{x:LV}{v:Value}{r:bW}(he:BZ T t x st=some r)(hc:r.c)(h:Rep w g x v):
 r.s=st/\∃ u,(Instr.loadAt t v).run P w=.ok u w/\Rep w g r.v u:=by
 unfold BZ at he;cases ht:T t with
 |none=>simp[ht]at he
 |some row=>
  cases hp:eE st x with
  |none=>simp[ht,hp]at he
  |some cs=>
   simp only[ht,hp]at he;obtain⟨b,o,vs,rfl,h1,h2⟩:=KU hi hp h;have RN:=hT t row ht;have hlen:=aL _ _ h1;cases ha:row.agg with
   |true=>
    simp only[ha,aBq,aAb]at he;subst he;refine⟨rfl,.agg (vs.take row.size).toArray,?_,?_⟩
    .simp[Instr.loadAt,Instr.sureAddr,loadVar,RN.agg,ha,RN.sizeOf,kL (P:=P) h1 h2 row.size hc]
    .simp only[Rep];exact⟨_,rfl,dU _ _ _ h1⟩
   |false=>
    simp only[ha,aAS,aBD,aAb]at he;subst he;cases cs with
    |nil=>simp at hc
    |cons c cs=>simp only[aC]at h1;obtain⟨u,us,rfl,k1,k2⟩:=h1;have h0:=h2 0 sS;simp only[Nat.add_zero,List.getElem?_cons_zero]at h0;refine⟨rfl,u,?_,k1⟩;simp[Instr.loadAt,Instr.sureAddr,loadVar,RN.agg,ha,load,Sem.run,h0]
theorem Ln(hT:bJ P T){t:TypeId}{x i:LV}{v vi:Value}{r:bW}(he:OD T t x i st=some r)(hc:r.c)(h:Rep w g x v)(hvi:Rep w g i vi):
 r.s=st/\∃ u,(Instr.indexAt t v vi).run P w=.ok u w/\Rep w g r.v u:=by
 unfold OD at he
 split at he
 .rename_i e k i' ht;have hd:P.underlying t=some (.slice e):=cK hT ht;simp only[Rep]at hvi;subst hvi
  split at he
  .rename_i row ZE;have RN:=hT e row ZE
   split at he
   .rename_i l o n;simp only[aAb]at he;subst he;obtain⟨c1,c2⟩:=hc;simp only[Rep]at h;obtain⟨A,cap,rfl,hn,hm,_,hA,hl⟩:=h;obtain rfl:=hA oO;refine⟨rfl,.pointer (some ⟨g.β l,o+i'.toNat*row.size,none⟩),?_,by simp[Rep,hl]⟩;simp[Instr.indexAt,asIntOf,run_underlying hd,c1,c2,RN.sizeOf,add_lit]
   .split at he
    .rename_i q n cs hs;simp only[aAb]at he;subst he;obtain⟨c1,c2,c3⟩:=hc;have h':=pY hs h;simp only[Rep]at h';obtain⟨A,cap,rfl,hn,hm,_,M7⟩:=h';obtain⟨b,o,rfl,M8⟩:=M7 (fun e0=>by subst e0;simp at c3);refine⟨rfl,.pointer (some ⟨b,o+i'.toNat*row.size,none⟩),?_,?_⟩
     .simp[Instr.indexAt,asIntOf,run_underlying hd,c1,c2,RN.sizeOf,add_lit]
     .simp only[Rep];exact⟨b,_,rfl,fY _ _ _ M8⟩
    .simp at he
  .simp at he
 .simp at he
theorem Ad{y:Option LV}{vy:Option Value}{d:Nat}{l:Int}(ho:dY y d=some l)(h:∀ q,y=some q->∃ u,vy=some u/\Rep w g q u)(h0:y=none->vy=none):
 (vy=none/\l=(d:Int))\/∃ k,vy=some (.int k l):=by
 cases y with
 |none=>simp only[dY,aAb]at ho;exact .inl ⟨h0 rfl,ho.symm⟩
 |some q=>
  obtain⟨u,rfl,hu⟩:=h q rfl;right;unfold dY at ho
  split at ho
  .rename_i M5;cases M5
  .rename_i k i M5;injection M5 with M5;subst M5;simp only[aAb]at ho;subst ho;simp only[Rep]at hu;exact⟨k,by rw[hu]⟩
  .cases ho
theorem xM{n cap:Nat}{lo hi:Option LV}{vlo vhi:Option Value}{l hh:Int}(v8:dY lo 0=some l)(Z7:dY hi n=some hh)(c1:0<=l)(c2:l<=hh)(c3:hh<=cap)(hn:n<=cap)
 (C1:∀ l,lo=some l->∃ u,vlo=some u/\Rep w g l u) (I9:lo=none->vlo=none) (hhi:∀ l,hi=some l->∃ u,vhi=some u/\Rep w g l u) (M0:hi=none->vhi=none):
 (Instr.sliceBounds true n cap vlo vhi none).run P w=.ok (l.toNat,hh.toNat,cap) w:=by
 have k1:hh<=(cap:Int):=oO;have k2:0<=hh:=oO;rcases Ad v8 C1 I9 with⟨rfl,rfl⟩|⟨kl,rfl⟩<;>rcases Ad Z7 hhi M0 with⟨rfl,rfl⟩|⟨kh,rfl⟩
 .simp[Instr.sliceBounds]
 .simp[Instr.sliceBounds,Instr.sliceBound,asIntOf,k1,k2]
 .have k3:l.toNat<=n:=oO;simp[Instr.sliceBounds,Instr.sliceBound,asIntOf,c1,c2]
 .have k3:l<=((hh.toNat:Nat):Int):=oO;simp[Instr.sliceBounds,Instr.sliceBound,asIntOf,c1,k1,k2];exact fun h0=>absurd h0 oO
theorem nY{n cap:Nat}{lo hi:Option LV}{vlo vhi:Option Value}{l hh:Int}(v8:dY lo 0=some l)(Z7:dY hi n=some hh)(c1:0<=l)(c2:l<=hh)(c3:hh<=n)(hn:n<=cap)
 (C1:∀ l,lo=some l->∃ u,vlo=some u/\Rep w g l u) (I9:lo=none->vlo=none) (hhi:∀ l,hi=some l->∃ u,vhi=some u/\Rep w g l u) (M0:hi=none->vhi=none):
 (Instr.sliceBounds true n cap vlo vhi none).run P w=.ok (l.toNat,hh.toNat,cap) w:=
 xM v8 Z7 c1 c2 oO hn C1 I9 hhi M0
theorem HW(hT:bJ P T){t:TypeId}{x:LV}{lo hi mx:Option LV}{v:Value}{vlo vhi vmx:Option Value}{r:bW}(he:AX T t x lo hi mx st=some r)(hc:r.c)(h:Rep w g x v)
 (C1:∀ l,lo=some l->∃ u,vlo=some u/\Rep w g l u) (I9:lo=none->vlo=none) (hhi:∀ l,hi=some l->∃ u,vhi=some u/\Rep w g l u) (M0:hi=none->vhi=none)
 (hmx:∀ l,mx=some l->∃ u,vmx=some u/\Rep w g l u) (hmx0:mx=none->vmx=none):
 r.s=st/\∃ u,(Instr.sliceAt t v vlo vhi vmx).run P w=.ok u w/\Rep w g r.v u:=by
 unfold AX at he
 split at he
 .rename_i e ht;have hd:P.underlying t=some (.slice e):=cK hT ht
  split at he
  .rename_i row ZE;have RN:=hT e row ZE
   split at he
   .obtain rfl:=hmx0 rfl
    split at he
    .rename_i b o n
     split at he
     .rename_i l hh v8 Z7;simp only[aAb]at he;subst he;obtain⟨c1,c2,c3,c4⟩:=hc;simp only[Rep]at h;obtain⟨A,cap,rfl,hn,hm,h0,hA,hb⟩:=h;have hbr:=nY (P:=P) (w:=w) (g:=g) v8 Z7 c1 c2 c3 hn C1 I9 hhi M0;refine⟨rfl,.slice (if cap=l.toNat then A else A.map (·.add (l.toNat*row.size))) (hh.toNat-l.toNat) (cap-l.toNat),?_,?_⟩
      .simp[Instr.sliceAt,Instr.slice,run_underlying hd,hbr,RN.sizeOf]
      .simp only[Rep];refine⟨_,_,rfl,oO,oO,fun ho=>?_,fun Wu=>?_,hb⟩
       .have ho0:o=0:=oO;have Zu:l.toNat=0:=by
         have h1:l.toNat*row.size=0:=oO;rcases aEr.1 h1 with h2|h2
         .exact h2
         .omega
        obtain⟨k1,k2⟩:=h0 ho0;refine⟨oO,fun Xi=>?_⟩;rw[k2 Xi,Zu]
        split<;>simp[Addr.add]
       .have hne':n≠0:=oO;rw[hA hne',aAa oO];simp[add_lit]
     .simp at he
    .rename_i b n c
     split at he
     .rename_i l hh v8 Z7;simp only[aAb]at he;subst he;obtain⟨c1,c2,c3,c4⟩:=hc;simp only[Rep]at h;obtain⟨A,rfl,hn,hm,hk,hb,hA,Xi⟩:=h;have hbr:=xM (P:=P) (w:=w) (g:=g) v8 Z7 c1 c2 c3 hn C1 I9 hhi M0;refine⟨rfl,.slice (if c=l.toNat then A else A.map (·.add (l.toNat*row.size))) (hh.toNat-l.toNat) (c-l.toNat),?_,?_⟩
      .simp[Instr.sliceAt,Instr.slice,run_underlying hd,hbr,RN.sizeOf]
      .cases lo with
       |none=>
        simp only[dY,aAb]at v8;subst v8;simp only[Option.isNone_none,aBq,Rep];refine⟨_,rfl,oO,oO,oO,hb,fun h0=>?_,fun h0=>by have:=Xi h0;omega⟩;rw[hA h0]
        split<;>simp[Addr.add]
       |some y=>
        simp only[Option.isNone_some,aAS,aBD,Rep];refine⟨_,_,rfl,oO,oO,fun ho=>?_,fun Wu=>?_,hb⟩
        .have Zu:l.toNat=0:=by
          rcases aEr.1 ho with h2|h2
          .exact h2
          .omega
         refine⟨oO,fun h0=>?_⟩;rw[hA h0,Zu]
         split<;>simp[Addr.add]
        .have h0:g.nl b=false:=by
          cases h0:g.nl b with
          |false=>rfl
          |true=>have:=Xi h0;omega
         rw[hA h0,aAa oO];simp[add_lit]
     .simp at he
    .split at he
     .rename_i l hh v8 Z7;simp only[aAb]at he;subst he;obtain⟨rfl,rfl⟩:=hc;simp only[Rep]at h;subst h;have hbr:=nY (P:=P) (w:=w) (g:=g) (n:=0) (cap:=0) v8 Z7 oO oO oO oO C1 I9 hhi M0;refine⟨rfl,.slice none 0 0,?_,by simp only[Rep]⟩;simp[Instr.sliceAt,Instr.slice,run_underlying hd,hbr,RN.sizeOf]
     .simp at he
    .rename_i t' o n cs
     split at he
     .rename_i l hh v8 Z7;simp only[aAb]at he;subst he;obtain⟨c1,c2,c3,c4⟩:=hc;simp only[Rep]at h;obtain⟨A,cap,rfl,hn,hm,F0,hk,hA,M7⟩:=h;have hbr:=nY (P:=P) (w:=w) (g:=g) v8 Z7 c1 c2 c3 hn C1 I9 hhi M0;refine⟨rfl,.slice (if cap=l.toNat then A else A.map (·.add (l.toNat*row.size))) (hh.toNat-l.toNat) (cap-l.toNat),?_,?_⟩
      .simp[Instr.sliceAt,Instr.slice,run_underlying hd,hbr,RN.sizeOf]
      .simp only[Rep];refine⟨_,_,rfl,oO,oO,F0,oO,fun Wu=>?_,fun Wu=>?_⟩
       .rw[aAa oO,hA oO,c4];simp only[Option.map_some,add_lit,aCE,aDp]
       .have hlh:hh.toNat-l.toNat≠0:=fun h0=>by rw[h0]at Wu;simp at Wu
        have ZC:cs≠[]:=by rintro rfl;simp at Wu
        obtain⟨b,o',hAb,M8⟩:=M7 ZC;rw[aAa oO,hAb,c4];refine⟨b,o'+l.toNat,by simp only[Option.map_some,add_lit,aCE],pD _ _ _ (fY _ _ _ M8)⟩
     .simp at he
    .split at he
     .rename_i q n cs hs
      split at he
      .rename_i l hh v8 Z7;simp only[aAb]at he;subst he;obtain⟨c1,c2,c3⟩:=hc;have h':=pY hs h;simp only[Rep]at h';obtain⟨A,cap,rfl,hn,hm,_,M7⟩:=h';have hbr:=nY (P:=P) (w:=w) (g:=g) v8 Z7 c1 c2 c3 hn C1 I9 hhi M0;refine⟨rfl,.slice (if cap=l.toNat then A else A.map (·.add (l.toNat*row.size))) (hh.toNat-l.toNat) (cap-l.toNat),?_,?_⟩
       .simp[Instr.sliceAt,Instr.slice,run_underlying hd,hbr,RN.sizeOf]
       .simp only[Rep];refine⟨_,_,rfl,oO,⟨by have:=hm.1;omega,fun hA0=>?_⟩,fun e0=>absurd rfl e0,fun Wu=>?_⟩
        .have Q1:A=none:=by
          split at hA0
          .exact hA0
          .simpa using hA0
         have:=hm.2 Q1;omega
        have GD:l.toNat<hh.toNat:=by
         rcases aAN l.toNat hh.toNat with h0|h0
         .exact h0
         .rw[show hh.toNat-l.toNat=0 by omega]at Wu;simp at Wu
        have ZC:cs≠[]:=by rintro rfl;simp at Wu
        obtain⟨b,o,rfl,M8⟩:=M7 ZC;refine⟨b,o+l.toNat*row.size,?_,?_⟩
        .rw[aAa oO];simp[add_lit]
        .exact pD _ _ _ (fY _ _ _ M8)
      .simp at he
     .simp at he
   .rename_i k m
    split at he
    .rename_i k' hh p hs;simp only[aAb]at he;subst he;obtain⟨rfl,rfl⟩:=hc;obtain⟨q,n,cs⟩:=p;have h':=pY hs h;simp only[Rep]at h';obtain⟨A,cap,rfl,hn,hm,_,_⟩:=h';obtain⟨u,rfl,hu⟩:=hhi _ rfl;obtain⟨u',rfl,O5⟩:=hmx _ rfl;simp only[Rep]at hu O5;subst hu O5;obtain rfl:=I9 rfl;refine⟨rfl,.slice A 0 0,?_,by simp only[Rep];exact⟨A,rfl⟩⟩;simp[Instr.sliceAt,Instr.slice,run_underlying hd,Instr.sliceBounds,Instr.sliceBound,asIntOf,RN.sizeOf]
    .rename_i kl ll kh hh D5
     split at he
     .rename_i b o n;simp only[aAb]at he;subst he;obtain⟨c1,c2,c3,c4⟩:=hc;simp only[Rep]at h;obtain⟨A,cap,rfl,hn,hm,h0,hA,hb⟩:=h;obtain⟨u1,rfl,X8⟩:=C1 _ rfl;obtain⟨u2,rfl,hu2⟩:=hhi _ rfl;obtain⟨u3,rfl,hu3⟩:=hmx _ rfl;simp only[Rep]at X8 hu2 hu3;subst X8 hu2 hu3;have e1:m<=(cap:Int):=oO;have e2:(0:Int)<=m:=oO;have e3:(0:Int)<=hh:=oO;refine⟨rfl,.slice (if m.toNat=ll.toNat then A else A.map (·.add (ll.toNat*row.size))) (hh.toNat-ll.toNat) (m.toNat-ll.toNat),?_,by simp only[Rep]⟩;have e4:hh<=max m 0:=oO;have e5:ll<=max hh 0:=oO;simp[Instr.sliceAt,Instr.slice,run_underlying hd,Instr.sliceBounds,Instr.sliceBound,asIntOf,RN.sizeOf,e1,e2,e3,c1];rw[aAe e4,aAe e5]
     .rename_i b n cap;simp only[aAb]at he;subst he;obtain⟨c1,c2,c3,c4⟩:=hc;simp only[Rep]at h;obtain⟨A,rfl,hn,hm,_⟩:=h;obtain⟨u1,rfl,X8⟩:=C1 _ rfl;obtain⟨u2,rfl,hu2⟩:=hhi _ rfl;obtain⟨u3,rfl,hu3⟩:=hmx _ rfl;simp only[Rep]at X8 hu2 hu3;subst X8 hu2 hu3;have e1:m<=(cap:Int):=oO;have e2:(0:Int)<=m:=oO;have e3:(0:Int)<=hh:=oO;refine⟨rfl,.slice (if m.toNat=ll.toNat then A else A.map (·.add (ll.toNat*row.size))) (hh.toNat-ll.toNat) (m.toNat-ll.toNat),?_,by simp only[Rep]⟩;have e4:hh<=max m 0:=oO;have e5:ll<=max hh 0:=oO;simp[Instr.sliceAt,Instr.slice,run_underlying hd,Instr.sliceBounds,Instr.sliceBound,asIntOf,RN.sizeOf,e1,e2,e3,c1];rw[aAe e4,aAe e5]
     .simp at he
    .simp at he
   .simp at he
  .simp at he
 .simp at he
theorem qA{x:LV}{v:Value}{cs:List LV}(hx:dK x=some cs)(h:Rep w g x v):aC w g cs v.cells.toList:=by
 have key:∀ lv:LV,cs=[lv]->Rep w g lv v->(∀ cells,v≠.agg cells)->aC w g cs v.cells.toList:=by
  intro lv h1 h2 h3;subst h1;have:v.cells=#[v]:=by cases v<;>first|rfl|exact absurd rfl (h3 _)
  rw[this];simp only[aC];exact⟨v,[],rfl,h2,rfl⟩
 cases x with
 |ag cs'=>simp only[dK,aAb]at hx;subst hx;simp only[Rep]at h;obtain⟨vs,rfl,h⟩:=h;simpa[Value.cells]using h
 |dead=>simp[dK]at hx
 |tu vs=>simp[dK]at hx
 |nil=>simp only[dK,aAb]at hx;refine key _ hx.symm h ?_;simp only[Rep]at h;subst h;simp
 |emp=>simp only[dK,aAb]at hx;refine key _ hx.symm h ?_;simp only[Rep]at h;obtain⟨A,rfl⟩:=h;simp
 |ms l o n=>simp only[dK,aAb]at hx;refine key _ hx.symm h ?_;simp only[Rep]at h;obtain⟨A,cap,rfl,_⟩:=h;simp
 |atom y=>have h':=h;simp only[Rep]at h';subst h';cases v<;>simp only[dK,aAb]at hx<;>first|exact key _ hx.symm h (by simp)|cases hx
 |sl q n cs'=>simp only[dK,aAb]at hx;refine key _ hx.symm h ?_;simp only[Rep]at h;obtain⟨A,cap,rfl,_⟩:=h;simp
 |pt l o=>simp only[dK,aAb]at hx;refine key _ hx.symm h ?_;simp only[Rep]at h;rw[h.1];simp
 |ep cs'=>simp only[dK,aAb]at hx;refine key _ hx.symm h ?_;simp only[Rep]at h;obtain⟨b,o,rfl,_⟩:=h;simp
 |mp l=>simp only[dK,aAb]at hx;refine key _ hx.symm h ?_;simp only[Rep]at h;rw[h.1];simp
 |fn f cX=>simp only[dK,aAb]at hx;refine key _ hx.symm h ?_;simp only[Rep]at h;obtain⟨vs,rfl,_⟩:=h;simp
 |qu t o n cs'=>simp only[dK,aAb]at hx;refine key _ hx.symm h ?_;simp only[Rep]at h;obtain⟨A,cap,rfl,_⟩:=h;simp
 |pe l cs'=>simp only[dK,aAb]at hx;refine key _ hx.symm h ?_;simp only[Rep]at h;rw[h.1];simp
 |kap l n c=>simp only[dK,aAb]at hx;refine key _ hx.symm h ?_;simp only[Rep]at h;obtain⟨A,rfl,_⟩:=h;simp
theorem Mo{x:LV}{v:Value}(hx:gW x=true)(h:Rep w g x v):v.oneCell'=true:=by
 cases x with
 |ag cs=>simp[gW]at hx
 |dead=>simp[gW]at hx
 |tu vs=>simp[gW]at hx
 |nil=>simp only[Rep]at h;subst h;rfl
 |emp=>simp only[Rep]at h;obtain⟨A,rfl⟩:=h;rfl
 |ms l o n=>simp only[Rep]at h;obtain⟨A,cap,rfl,_⟩:=h;rfl
 |atom y=>simp only[Rep]at h;subst h;cases v<;>first|rfl|simp[gW]at hx
 |sl q n cs=>simp only[Rep]at h;obtain⟨A,cap,rfl,_⟩:=h;rfl
 |pt l o=>simp only[Rep]at h;rw[h.1];rfl
 |ep cs=>simp only[Rep]at h;obtain⟨b,o,rfl,_⟩:=h;rfl
 |mp l=>simp only[Rep]at h;rw[h.1];rfl
 |fn f cX=>simp only[Rep]at h;obtain⟨vs,rfl,_⟩:=h;rfl
 |qu t o n cs=>simp only[Rep]at h;obtain⟨A,cap,rfl,_⟩:=h;rfl
 |pe l cs=>simp only[Rep]at h;rw[h.1];rfl
 |kap l n c=>simp only[Rep]at h;obtain⟨A,rfl,_⟩:=h;rfl
theorem fS:∀(cs:List LV) (vs:List Value),cs.all gW=true->aC w g cs vs->∀ u∈vs,u.oneCell'=true
 |[],vs,_,h=>by simp only[aC]at h;subst h;simp
 |c::cs,vs,ha,h=>by
  simp only[aC]at h;obtain⟨v,vs',rfl,h1,h2⟩:=h;simp only[List.all_cons,aAT]at ha;intro u hu;rcases aAf.1 hu with rfl|hu
  .exact Mo ha.1 h1
  .exact fS cs vs' ha.2 h2 u hu
theorem Bd(hi:Inv w g st){l:Nat}{o:cI}(h:st.H l=o)(ho:o≠.dead):l<st.next:=by
 rcases aAN l st.next with h0|h0
 .exact h0
 .rw[hi.fresh l h0]at h;exact absurd h.symm ho
theorem sV(hi:Inv w g st){l o e s:Nat}{cs ds:List LV}{us:List Value}(hH:st.H l=.box e s cs)(Xi:g.nl l=false)(c2:o+ds.length<=cs.length)(Xh:aC w g ds us)(Yr:∀ u∈us,u.oneCell'=true):
 ∃ w',(storeCells ⟨g.β l,o,none⟩ us 0).run P w=.ok () w'/\Inv w' g (st.set l (.box e s (cs.take o++ds++cs.drop (o+ds.length))))/\Ext w g w' g:=by
 obtain⟨_,k0,k'⟩:=hi.box l e s cs hH;have hlen:=aL _ _ Xh;obtain⟨Xk,k1,k2,k4,k5,k6⟩:=k' Xi;have YY:=run_storeCells_at P (g.β l) o e us 0 Xk.toArray w k1 (by simp;omega) Yr;simp only[Nat.add_zero]at YY
 have Xj:=xY (cs':=cs.take o++ds++cs.drop (o+ds.length)) (vs':=Xk.take o++us++Xk.drop (o+us.length)) hi hH Xi (by
  rw[<- k2];simp only[aAh,aAq,aAP];omega) (by simp only[aAh,aAq,aAP];omega) (by
  have hx1:(cs.take o++ds++cs.drop (o+ds.length)).length=cs.length:=by simp only[aAh,aAq,aAP];omega
  have Ys:(Xk.take o++us++Xk.drop (o+us.length)).take cs.length=(Xk.take cs.length).take o++us++(Xk.take cs.length).drop (o+us.length):=by
   rw[aCC,aCC,aBZ,aBZ,aEB];simp only[aAh,aAq];rw[show min cs.length o=o by omega,show min o cs.length=o by omega];rw[aAv (l:=us) oO]
   congr 2
   omega
  rw[hx1,Ys,hlen]
  exact cB _ _ _ _ (cB _ _ _ _ (dU o _ _ k5) Xh) (iE _ _ _ k5))
 exact⟨_,YY,Xj.1,Xj.2⟩
theorem Gm(hT:bJ P T)(hi:Inv w g st){t:TypeId}{x y:LV}{v u:Value}{r:bW}(he:EY T t x y st=some r)(hc:r.c)(h:Rep w g x v)(hu:Rep w g y u):
 r.v=.dead/\∃ w',(Instr.storeAt t v u).run P w=.ok () w'/\Inv w' g r.s/\Ext w g w' g:=by
 unfold EY at he
 split at he
 .rename_i row l o ds ht G6;cases hH:st.H l with
  |box e s cs=>
   simp only[hH,aAb]at he;subst he;obtain⟨c1,c2,c3⟩:=hc;simp only[Rep]at h;obtain⟨rfl,hl⟩:=h;have RN:=hT t row ht;have Xh:=qA G6 hu;have hlen:=aL _ _ Xh;have Yz:u.cells.size=row.size:=by rw[<- c1,hlen];simp
   obtain⟨_,k0,k'⟩:=hi.box l e s cs hH;cases Xi:g.nl l with
   |true=>
    obtain⟨_,rfl⟩:=k0 Xi;have hd0:ds=[]:=aAE (by simp at c2;simpa using c2.2);subst hd0;have hu0:u.cells.toList=[]:=aAE hlen.symm;refine⟨rfl,w,?_,?_,Ext.refl w g⟩
    .simp[Instr.storeAt,Instr.sureAddr,storeVar,RN.sizeOf,Yz,hu0,storeCells]
    .have:st.set l (.box e s (([]:List LV).take o++[]++([]:List LV).drop (o+([]:List LV).length)))=st:=by
      cases st with
      |mk nx H=>
       simp only[St.set,aEQ,aAK,aEc]
       congr 1
       funext x
       by_cases hx:x=l
       .rw[aAe hx,hx];exact hH.symm
       .rw[aAa hx]
     simp only[this];exact hi
   |false=>obtain⟨w',YY,Xj⟩:=sV (P:=P) hi hH Xi c2 Xh (fS _ _ c3 Xh);refine⟨rfl,w',?_,Xj.1,Xj.2⟩;simp[Instr.storeAt,Instr.sureAddr,storeVar,RN.sizeOf,Yz];simpa using YY
  |_=>simp[hH]at he
 .simp at he
theorem yJ(hT:bJ P T){t:TypeId}{x:LV}{v:Value}{f:Nat}{r:bW}(he:lE T t x f st=some r)(hc:r.c)(h:Rep w g x v):
 r.s=st/\∃ u,(Instr.fieldAt t v f).run P w=.ok u w/\Rep w g r.v u:=by
 unfold lE at he
 split at he
 .rename_i fs hs
  split at he
  .rename_i off ty hf
   split at he
   .rename_i row RN;obtain⟨F,hd,hF⟩:=sM hT hs;have hfld:∃ fd,F[f]?=some fd/\fd.offset=off/\fd.type=ty:=by rw[<- hF]at hf;simp only[aBN,aBn]at hf;obtain⟨fd,h1,h2⟩:=hf;simp only[aAW]at h2;exact⟨fd,by simpa using h1,h2.1,h2.2⟩
    obtain⟨fd,h1,rfl,rfl⟩:=hfld;have hr:=hT _ row RN
    split at he
    .rename_i l o;simp only[aAb]at he;subst he;simp only[Rep]at h;obtain⟨rfl,hl⟩:=h;refine⟨rfl,.pointer (some ⟨g.β l,o+fd.offset,none⟩),?_,by simp[Rep,hl]⟩;simp[Instr.fieldAt,run_underlying hd,h1,Instr.sureAddr,fieldPlace,hr.sizeOf,add_lit];intro h0;exact absurd h0 hc
    .rename_i cs;simp only[aAb]at he;subst he;simp only[Rep]at h;obtain⟨b,o,rfl,M8⟩:=h;refine⟨rfl,.pointer (some ⟨b,o+fd.offset,none⟩),?_,by simp only[Rep];exact⟨b,_,rfl,fY _ _ _ M8⟩⟩;simp[Instr.fieldAt,run_underlying hd,h1,Instr.sureAddr,fieldPlace,hr.sizeOf,add_lit];intro h0;exact absurd h0 hc
    .rename_i l cs;simp only[aAb]at he;subst he;simp only[Rep]at h;obtain⟨rfl,_,M8⟩:=h;refine⟨rfl,.pointer (some ⟨g.β l,0+fd.offset,none⟩),?_,by simp only[Rep];exact⟨_,_,rfl,fY _ _ _ M8⟩⟩;simp[Instr.fieldAt,run_underlying hd,h1,Instr.sureAddr,fieldPlace,hr.sizeOf,add_lit];intro h0;exact absurd h0 hc
    .simp at he
   .simp at he
  .simp at he
 .simp at he
theorem Hu(hT:bJ P T){t:TypeId}{x:LV}{v:Value}{f:Nat}{r:bW}(he:BB T t x f st=some r)(hc:r.c)(h:Rep w g x v):
 r.s=st/\∃ u,(Instr.field t v f).run P w=.ok u w/\Rep w g r.v u:=by
 unfold BB at he
 split at he
 .rename_i fs cs hs
  split at he
  .rename_i off ty hf
   split at he
   .rename_i row RN;obtain⟨F,hd,hF⟩:=sM hT hs;have hfld:∃ fd,F[f]?=some fd/\fd.offset=off/\fd.type=ty:=by rw[<- hF]at hf;simp only[aBN,aBn]at hf;obtain⟨fd,h1,h2⟩:=hf;simp only[aAW]at h2;exact⟨fd,by simpa using h1,h2.1,h2.2⟩
    obtain⟨fd,h1,rfl,rfl⟩:=hfld;have hr:=hT _ row RN;simp only[Rep]at h;obtain⟨vs,rfl,hl⟩:=h;cases ha:row.agg with
    |true=>simp only[ha,aBq,aAb]at he;subst he;refine⟨rfl,.agg ((vs.drop fd.offset).take row.size).toArray,?_,by simp only[Rep];exact⟨_,rfl,dU _ _ _ (iE _ _ _ hl)⟩⟩;simp[Instr.field,run_underlying hd,h1,part,asAgg,hr.agg,ha,hr.sizeOf]
    |false=>
     simp only[ha,aAS,aBD,aAb]at he;subst he;have hlen:=aL _ _ hl;have C8:fd.offset<cs.length:=hc;obtain⟨u,hu,hru⟩:=tT fd.offset cs vs cs[fd.offset] hl (aAd C8);refine⟨rfl,u,?_,?_⟩
     .simp[Instr.field,run_underlying hd,h1,part,asAgg,hr.agg,ha,hu]
     .rw[aAO C8];exact hru
   .simp at he
  .simp at he
 .simp at he
theorem MZ(hi:Inv w g st){t:TypeId}{x:LV}{v:Value}{r:bW}(he:SM t x st=some r)(h:Rep w g x v):
 ∃ u w' g',(Instr.box t v).run P w=.ok u w'/\Rep w' g' r.v u/\Inv w' g' r.s/\Ext w g w' g':=by
 unfold SM at he;cases hx:dK x with
 |none=>simp[hx]at he
 |some cs=>
  simp only[hx,aAb]at he;subst he;have Xh:=qA hx h;have hlen:=aL _ _ Xh;have h1:=tI hi t cs.length 1 (by rw[hlen];simp) (by simp[maxLen]) (aDu hlen) (by rw[aAv (aDu hlen.symm)];exact Xh);have h2:=dB w g (.cells v.cells.toList.toArray t) 0 1 false;refine⟨.pointer (some ⟨w.heap.size,0,none⟩),_,_,?_,?_,h1,h2⟩
  .simp[Instr.box,newVar,newRow]
  .simp only[Rep];simp[G.add,hi.next]
theorem cW{t:Nat}{row:bK}(h:bB P t row):row.zeroV.cells=row.zero.toArray:=by
 have Yr:∀ v∈row.zero,v.oneCell'=true:=by simpa using h.zone
 unfold bK.zeroV;cases ha:row.agg with
 |true=>rfl
 |false=>
  have h1:=h.one ha;have h2:=h.zl
  match hz:row.zero with
  |[]=>rw[hz,h1]at h2;simp at h2
  |[z]=>have:=Yr z (by rw[hz];simp);cases z<;>first|rfl|simp[Value.oneCell']at this
  |a::b::l=>rw[hz,h1]at h2;simp at h2
end
end Aw
end Go.Proofs.YtempldclppogmaaGreatDoor
