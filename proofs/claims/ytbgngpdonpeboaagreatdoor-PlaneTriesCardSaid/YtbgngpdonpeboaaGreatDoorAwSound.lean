/- The operations' soundness. No program is named here. -/
import Derived.Test.YtbgngpdonpeboaaGreatDoorAwOps
set_option linter.unusedVariables false
set_option linter.unusedSimpArgs false
namespace Go.Proofs.YtbgngpdonpeboaaGreatDoor
namespace Aw
open Go Go.RowKit
section
variable {P:Program} {T:Tab} {w:World} {g:G} {st:St}
theorem pW{x:LV}{v:Value}{q n:Nat}{cs:List LV}(hx:xI x=some (q,n,cs))(h:Rep w g x v):Rep w g (.sl q n cs) v:=by
 cases x with
 |sl q' n' cs'=>
  grind [xI]
 |nil=>simp only[xI,aAb,aBd]at hx;obtain⟨rfl,rfl,rfl⟩:=hx;exact CB h
 |emp=>
  grind [xI,Rep]
 |qu t o n' cs'=>
  grind [xI,Rep]
 |_=>simp[xI]at hx
theorem Lw(hi:Inv w g st){x:LV}{v:Value}{cs:List LV}(hx:eP st x=some cs)(h:Rep w g x v):
 ∃ b o vs,v=.pointer (some ⟨b,o,none⟩)/\aC w g cs vs/\∀ j,j<cs.length->w.cell? ⟨b,o+j,none⟩=vs[j]?:=by
 cases x with
 |ep cs'=>
  grind [eP,Rep,gQ]
 |pe l cs'=>
  grind [eP,Rep,gQ]
 |pt l o=>
  simp only[eP]at hx;cases hH:st.H l with
  |box e s cs'=>
   simp only[hH,aAb]at hx;subst hx;simp only[Rep]at h;obtain⟨rfl,_⟩:=h;obtain⟨_,k0,k'⟩:=hi.box l e s cs' hH;cases r9:g.nl l with
   |true=>obtain⟨_,rfl⟩:=k0 r9;exact⟨g.β l,o,[],rfl,by grind [aC],sS⟩
   |false=>
    obtain⟨n9,k1,k2,k4,k5,_⟩:=k' r9;refine⟨g.β l,o,(n9.take cs'.length).drop o,rfl,gM _ _ _ k5,fun j hj=>?_⟩;rw[cell_of_row w _ _ _ _ _ k1]
    grind
  |_=>grind
 |_=>simp[eP]at hx
theorem lB{b o:Nat}{cs:List LV}{vs:List Value}(hr:aC w g cs vs)(hc:∀ j,j<cs.length->w.cell? ⟨b,o+j,none⟩=vs[j]?)(n:Nat)(hn:n<=cs.length):
 (loadCells ⟨b,o,none⟩ n).run P w=.ok (vs.take n).toArray w:=by
 grind [aJ,run_loadCells_list,add_lit,List.length_take]
theorem Aj(hT:aZ P T)(hi:Inv w g st){t:TypeId}{x:LV}{v:Value}{r:bR}(he:Co T t x st=some r)(hc:r.c)(h:Rep w g x v):
 r.s=st/\∃ u,(Instr.loadAt t v).run P w=.ok u w/\Rep w g r.v u:=by
 unfold Co at he;cases ht:T t with
 |none=>grind
 |some row=>
  cases hp:eP st x with
  |none=>grind
  |some cs=>
   simp only[ht,hp]at he;obtain⟨b,o,vs,rfl,h1,h2⟩:=Lw hi hp h;have Tf:=hT t row ht;have hlen:=aJ _ _ h1;cases ha:row.agg with
   |true=>
    simp only[ha,aBs,aAb]at he;subst he;refine⟨rfl,.agg (vs.take row.size).toArray,?_,?_⟩
    .simp[Instr.loadAt,Instr.sureAddr,loadVar,Tf.agg,ha,Tf.sizeOf,lB (P:=P) h1 h2 row.size hc]
    grind [Rep,dK]
   |false=>
    simp only[ha,aBg,aBS,aAb]at he;subst he;cases cs with
    |nil=>grind
    |cons c cs=>simp only[aC]at h1;obtain⟨u,us,rfl,k1,k2⟩:=h1;have h0:=h2 0 sS;simp only[Nat.add_zero,List.getElem?_cons_zero]at h0;refine⟨rfl,u,?_,k1⟩;simp[Instr.loadAt,Instr.sureAddr,loadVar,Tf.agg,ha,load,Sem.run,h0]
theorem PO(hT:aZ P T){t:TypeId}{x i:LV}{v vi:Value}{r:bR}(he:Qy T t x i st=some r)(hc:r.c)(h:Rep w g x v)(hvi:Rep w g i vi):
 r.s=st/\∃ u,(Instr.indexAt t v vi).run P w=.ok u w/\Rep w g r.v u:=by
 unfold Qy at he
 split at he
 .rename_i e k i' ht;have hd:P.underlying t=some (.slice e):=cG hT ht;simp only[Rep]at hvi;subst hvi
  split at he
  .rename_i row Q8;have Tf:=hT e row Q8
   split at he
   .rename_i l o n;simp only[aAb]at he;subst he;obtain⟨c1,c2⟩:=hc;simp only[Rep]at h;obtain⟨A,cap,rfl,hn,hm,_,hA,hl⟩:=h;obtain rfl:=hA oO;refine⟨rfl,.pointer (some ⟨g.β l,o+i'.toNat*row.size,none⟩),?_,by grind [Rep]⟩;simp[Instr.indexAt,asIntOf,run_underlying hd,c1,c2,Tf.sizeOf,add_lit]
   .split at he
    .rename_i q n cs hs;simp only[aAb]at he;subst he;obtain⟨c1,c2,c3⟩:=hc;have h':=pW hs h;simp only[Rep]at h';obtain⟨A,cap,rfl,hn,hm,_,hrw⟩:=h';obtain⟨b,o,rfl,hrr⟩:=hrw (fun e0=>by grind);refine⟨rfl,.pointer (some ⟨b,o+i'.toNat*row.size,none⟩),?_,?_⟩
     .simp[Instr.indexAt,asIntOf,run_underlying hd,c1,c2,Tf.sizeOf,add_lit]
     .simp only[Rep];exact⟨b,_,rfl,gN _ _ _ hrr⟩
    grind
  grind
 grind
theorem CN{y:Option LV}{vy:Option Value}{d:Nat}{l:Int}(ho:eK y d=some l)(h:∀ q,y=some q->∃ u,vy=some u/\Rep w g q u)(h0:y=none->vy=none):
 (vy=none/\l=(d:Int))\/∃ k,vy=some (.int k l):=by
 cases y with
 |none=>
  grind [eK]
 |some q=>
  obtain⟨u,rfl,hu⟩:=h q rfl;right;unfold eK at ho
  split at ho
  .grind
  .grind [Rep]
  grind
theorem yS{n cap:Nat}{lo hi:Option LV}{vlo vhi:Option Value}{l hh:Int}(Y2:eK lo 0=some l)(hoh:eK hi n=some hh)(c1:0<=l)(c2:l<=hh)(c3:hh<=cap)(hn:n<=cap)
 (hlo:∀ l,lo=some l->∃ u,vlo=some u/\Rep w g l u) (hlo0:lo=none->vlo=none) (hhi:∀ l,hi=some l->∃ u,vhi=some u/\Rep w g l u) (hhi0:hi=none->vhi=none):
 (Instr.sliceBounds true n cap vlo vhi none).run P w=.ok (l.toNat,hh.toNat,cap) w:=by
 have k1:hh<=(cap:Int):=oO;have k2:0<=hh:=oO;rcases CN Y2 hlo hlo0 with⟨rfl,rfl⟩|⟨kl,rfl⟩<;>rcases CN hoh hhi hhi0 with⟨rfl,rfl⟩|⟨kh,rfl⟩
 .simp[Instr.sliceBounds]
 .simp[Instr.sliceBounds,Instr.sliceBound,asIntOf,k1,k2]
 .have k3:l.toNat<=n:=oO;simp[Instr.sliceBounds,Instr.sliceBound,asIntOf,c1,c2]
 .have k3:l<=((hh.toNat:Nat):Int):=oO;simp[Instr.sliceBounds,Instr.sliceBound,asIntOf,c1,k1,k2];omega
theorem nZ{n cap:Nat}{lo hi:Option LV}{vlo vhi:Option Value}{l hh:Int}(Y2:eK lo 0=some l)(hoh:eK hi n=some hh)(c1:0<=l)(c2:l<=hh)(c3:hh<=n)(hn:n<=cap)
 (hlo:∀ l,lo=some l->∃ u,vlo=some u/\Rep w g l u) (hlo0:lo=none->vlo=none) (hhi:∀ l,hi=some l->∃ u,vhi=some u/\Rep w g l u) (hhi0:hi=none->vhi=none):
 (Instr.sliceBounds true n cap vlo vhi none).run P w=.ok (l.toNat,hh.toNat,cap) w:=
 yS Y2 hoh c1 c2 oO hn hlo hlo0 hhi hhi0
theorem IV(hT:aZ P T){t:TypeId}{x:LV}{lo hi mx:Option LV}{v:Value}{vlo vhi vmx:Option Value}{r:bR}(he:BP T t x lo hi mx st=some r)(hc:r.c)(h:Rep w g x v)
 (hlo:∀ l,lo=some l->∃ u,vlo=some u/\Rep w g l u) (hlo0:lo=none->vlo=none) (hhi:∀ l,hi=some l->∃ u,vhi=some u/\Rep w g l u) (hhi0:hi=none->vhi=none)
 (hmx:∀ l,mx=some l->∃ u,vmx=some u/\Rep w g l u) (hmx0:mx=none->vmx=none):
 r.s=st/\∃ u,(Instr.sliceAt t v vlo vhi vmx).run P w=.ok u w/\Rep w g r.v u:=by
 unfold BP at he
 split at he
 .rename_i e ht;have hd:P.underlying t=some (.slice e):=cG hT ht
  split at he
  .rename_i row Q8;have Tf:=hT e row Q8
   split at he
   .obtain rfl:=hmx0 rfl
    split at he
    .rename_i b o n
     split at he
     .rename_i l hh Y2 hoh;simp only[aAb]at he;subst he;obtain⟨c1,c2,c3,c4⟩:=hc;simp only[Rep]at h;obtain⟨A,cap,rfl,hn,hm,h0,hA,hb⟩:=h;have hbr:=nZ (P:=P) (w:=w) (g:=g) Y2 hoh c1 c2 c3 hn hlo hlo0 hhi hhi0;refine⟨rfl,.slice (if cap=l.toNat then A else A.map (·.add (l.toNat*row.size))) (hh.toNat-l.toNat) (cap-l.toNat),?_,?_⟩
      .simp[Instr.sliceAt,Instr.slice,run_underlying hd,hbr,Tf.sizeOf]
      .simp only[Rep]
       grind [Nat.mul_eq_zero,add_lit]
     grind
    .rename_i b n c
     split at he
     .rename_i l hh Y2 hoh;simp only[aAb]at he;subst he;obtain⟨c1,c2,c3,c4⟩:=hc;simp only[Rep]at h;obtain⟨A,rfl,hn,hm,hk,hb,hA,r9⟩:=h;have hbr:=yS (P:=P) (w:=w) (g:=g) Y2 hoh c1 c2 c3 hn hlo hlo0 hhi hhi0;refine⟨rfl,.slice (if c=l.toNat then A else A.map (·.add (l.toNat*row.size))) (hh.toNat-l.toNat) (c-l.toNat),?_,?_⟩
      .simp[Instr.sliceAt,Instr.slice,run_underlying hd,hbr,Tf.sizeOf]
      .cases lo with
       |none=>
        simp only[eK,aAb]at Y2;subst Y2
        grind [Rep,Addr.add]
       |some y=>
        simp only[Option.isNone_some,aBg,aBS,Rep];refine⟨_,_,rfl,oO,oO,fun ho=>?_,fun c7=>?_,hb⟩
        .grind [Nat.mul_eq_zero,Addr.add]
        .have h0:g.nl b=false:=by
          cases h0:g.nl b with
          |false=>rfl
          |true=>grind
         grind [add_lit]
     grind
    .split at he
     .rename_i l hh Y2 hoh;simp only[aAb]at he;subst he;obtain⟨rfl,rfl⟩:=hc;simp only[Rep]at h;subst h;have hbr:=nZ (P:=P) (w:=w) (g:=g) (n:=0) (cap:=0) Y2 hoh oO oO oO oO hlo hlo0 hhi hhi0;refine⟨rfl,.slice none 0 0,?_,by grind [Rep]⟩;simp[Instr.sliceAt,Instr.slice,run_underlying hd,hbr,Tf.sizeOf]
     grind
    .rename_i t' o n cs
     split at he
     .rename_i l hh Y2 hoh;simp only[aAb]at he;subst he;obtain⟨c1,c2,c3,c4⟩:=hc;simp only[Rep]at h;obtain⟨A,cap,rfl,hn,hm,ht',hk,hA,hrw⟩:=h;have hbr:=nZ (P:=P) (w:=w) (g:=g) Y2 hoh c1 c2 c3 hn hlo hlo0 hhi hhi0;refine⟨rfl,.slice (if cap=l.toNat then A else A.map (·.add (l.toNat*row.size))) (hh.toNat-l.toNat) (cap-l.toNat),?_,?_⟩
      .simp[Instr.sliceAt,Instr.slice,run_underlying hd,hbr,Tf.sizeOf]
      .simp only[Rep];refine⟨_,_,rfl,oO,oO,ht',oO,fun c7=>?_,fun c7=>?_⟩
       .grind [add_lit]
       .have hlh:hh.toNat-l.toNat≠0:=fun h0=>by grind
        have P9:cs≠[]:=by rintro rfl;simp at c7
        obtain⟨b,o',hAb,hrr⟩:=hrw P9;rw[aAa oO,hAb,c4];refine⟨b,o'+l.toNat,by grind [add_lit],qH _ _ _ (gN _ _ _ hrr)⟩
     grind
    .split at he
     .rename_i q n cs hs
      split at he
      .rename_i l hh Y2 hoh;simp only[aAb]at he;subst he;obtain⟨c1,c2,c3⟩:=hc;have h':=pW hs h;simp only[Rep]at h';obtain⟨A,cap,rfl,hn,hm,_,hrw⟩:=h';have hbr:=nZ (P:=P) (w:=w) (g:=g) Y2 hoh c1 c2 c3 hn hlo hlo0 hhi hhi0;refine⟨rfl,.slice (if cap=l.toNat then A else A.map (·.add (l.toNat*row.size))) (hh.toNat-l.toNat) (cap-l.toNat),?_,?_⟩
       .simp[Instr.sliceAt,Instr.slice,run_underlying hd,hbr,Tf.sizeOf]
       .simp only[Rep];refine⟨_,_,rfl,oO,⟨oO,fun hA0=>?_⟩,fun e0=>absurd rfl e0,fun c7=>?_⟩
        .have hA1:A=none:=by
          split at hA0
          .omega
          .simp_all
         grind
        have dA:l.toNat<hh.toNat:=by
         rcases aAM l.toNat hh.toNat with h0|h0
         .omega
         .simp_all
        have P9:cs≠[]:=by rintro rfl;simp at c7
        obtain⟨b,o,rfl,hrr⟩:=hrw P9;refine⟨b,o+l.toNat*row.size,?_,?_⟩
        .grind [add_lit]
        .exact qH _ _ _ (gN _ _ _ hrr)
      grind
     grind
   .rename_i k m
    split at he
    .rename_i k' hh p hs;simp only[aAb]at he;subst he;obtain⟨rfl,rfl⟩:=hc;obtain⟨q,n,cs⟩:=p;have h':=pW hs h;simp only[Rep]at h';obtain⟨A,cap,rfl,hn,hm,_,_⟩:=h';obtain⟨u,rfl,hu⟩:=hhi _ rfl;obtain⟨u',rfl,hu'⟩:=hmx _ rfl;simp only[Rep]at hu hu';subst hu hu';obtain rfl:=hlo0 rfl;refine⟨rfl,.slice A 0 0,?_,by grind [Rep]⟩;simp[Instr.sliceAt,Instr.slice,run_underlying hd,Instr.sliceBounds,Instr.sliceBound,asIntOf,Tf.sizeOf]
    .rename_i kl ll kh hh hsl
     split at he
     .rename_i b o n;simp only[aAb]at he;subst he;obtain⟨c1,c2,c3,c4⟩:=hc;simp only[Rep]at h;obtain⟨A,cap,rfl,hn,hm,h0,hA,hb⟩:=h;obtain⟨u1,rfl,hu1⟩:=hlo _ rfl;obtain⟨u2,rfl,hu2⟩:=hhi _ rfl;obtain⟨u3,rfl,hu3⟩:=hmx _ rfl;simp only[Rep]at hu1 hu2 hu3;subst hu1 hu2 hu3;have e1:m<=(cap:Int):=oO;have e2:(0:Int)<=m:=oO;have e3:(0:Int)<=hh:=oO;refine⟨rfl,.slice (if m.toNat=ll.toNat then A else A.map (·.add (ll.toNat*row.size))) (hh.toNat-ll.toNat) (m.toNat-ll.toNat),?_,by grind [Rep]⟩;have e4:hh<=max m 0:=oO;have e5:ll<=max hh 0:=oO;simp[Instr.sliceAt,Instr.slice,run_underlying hd,Instr.sliceBounds,Instr.sliceBound,asIntOf,Tf.sizeOf,e1,e2,e3,c1]
      grind
     .rename_i b n cap;simp only[aAb]at he;subst he;obtain⟨c1,c2,c3,c4⟩:=hc;simp only[Rep]at h;obtain⟨A,rfl,hn,hm,_⟩:=h;obtain⟨u1,rfl,hu1⟩:=hlo _ rfl;obtain⟨u2,rfl,hu2⟩:=hhi _ rfl;obtain⟨u3,rfl,hu3⟩:=hmx _ rfl;simp only[Rep]at hu1 hu2 hu3;subst hu1 hu2 hu3;have e1:m<=(cap:Int):=oO;have e2:(0:Int)<=m:=oO;have e3:(0:Int)<=hh:=oO;refine⟨rfl,.slice (if m.toNat=ll.toNat then A else A.map (·.add (ll.toNat*row.size))) (hh.toNat-ll.toNat) (m.toNat-ll.toNat),?_,by grind [Rep]⟩;have e4:hh<=max m 0:=oO;have e5:ll<=max hh 0:=oO;simp[Instr.sliceAt,Instr.slice,run_underlying hd,Instr.sliceBounds,Instr.sliceBound,asIntOf,Tf.sizeOf,e1,e2,e3,c1]
      grind
     grind
    grind
   grind
  grind
 grind
theorem rN{x:LV}{v:Value}{cs:List LV}(hx:dV x=some cs)(h:Rep w g x v):aC w g cs v.cells.toList:=by
 have key:∀ lv:LV,cs=[lv]->Rep w g lv v->(∀ cells,v≠.agg cells)->aC w g cs v.cells.toList:=by
  intro lv h1 h2 h3;subst h1;have:v.cells=#[v]:=by cases v<;>first|rfl|grind
  rw[this];simp only[aC];exact⟨v,[],rfl,h2,rfl⟩
 cases x with
 |ag cs'=>
  grind [dV,Rep,Value.cells]
 |dead=>grind [dV]
 |tu vs=>grind [dV]
 |nil=>
  grind [dV,Rep]
 |emp=>
  grind [dV,Rep]
 |ms l o n=>
  grind [dV,Rep]
 |atom y=>have h':=h;simp only[Rep]at h';subst h';cases v<;>simp only[dV,aAb]at hx<;>first|exact key _ hx.symm h (by simp)|grind
 |sl q n cs'=>
  grind [dV,Rep]
 |pt l o=>
  grind [dV,Rep]
 |ep cs'=>
  grind [dV,Rep]
 |mp l=>
  grind [dV,Rep]
 |fn f Gj=>
  grind [dV,Rep]
 |qu t o n cs'=>
  grind [dV,Rep]
 |pe l cs'=>
  grind [dV,Rep]
 |kap l n c=>
  grind [dV,Rep]
theorem PJ{x:LV}{v:Value}(hx:iM x=true)(h:Rep w g x v):v.oneCell'=true:=by
 cases x with
 |ag cs=>grind [iM]
 |dead=>grind [iM]
 |tu vs=>grind [iM]
 |nil=>simp only[Rep]at h;subst h;rfl
 |emp=>simp only[Rep]at h;obtain⟨A,rfl⟩:=h;rfl
 |ms l o n=>simp only[Rep]at h;obtain⟨A,cap,rfl,_⟩:=h;rfl
 |atom y=>simp only[Rep]at h;subst h;cases v<;>first|rfl|grind [iM]
 |sl q n cs=>simp only[Rep]at h;obtain⟨A,cap,rfl,_⟩:=h;rfl
 |pt l o=>simp only[Rep]at h;rw[h.1];rfl
 |ep cs=>simp only[Rep]at h;obtain⟨b,o,rfl,_⟩:=h;rfl
 |mp l=>simp only[Rep]at h;rw[h.1];rfl
 |fn f Gj=>simp only[Rep]at h;obtain⟨vs,rfl,_⟩:=h;rfl
 |qu t o n cs=>simp only[Rep]at h;obtain⟨A,cap,rfl,_⟩:=h;rfl
 |pe l cs=>simp only[Rep]at h;rw[h.1];rfl
 |kap l n c=>simp only[Rep]at h;obtain⟨A,rfl,_⟩:=h;rfl
theorem gK:∀(cs:List LV) (vs:List Value),cs.all iM=true->aC w g cs vs->∀ u∈vs,u.oneCell'=true
 |[],vs,_,h=>by grind [aC]
 |c::cs,vs,ha,h=>by
  simp only[aC]at h;obtain⟨v,vs',rfl,h1,h2⟩:=h;simp only[List.all_cons,aAX]at ha;intro u hu;rcases aAe.1 hu with rfl|hu
  .grind [PJ]
  .exact gK cs vs' ha.2 h2 u hu
theorem BN(hi:Inv w g st){l:Nat}{o:cN}(h:st.H l=o)(ho:o≠.dead):l<st.next:=by
 rcases aAM l st.next with h0|h0
 .omega
 .rw[hi.fresh l h0]at h;grind
theorem uA(hi:Inv w g st){l o e s:Nat}{cs ds:List LV}{us:List Value}(hH:st.H l=.box e s cs)(r9:g.nl l=false)(c2:o+ds.length<=cs.length)(r8:aC w g ds us)(M9:∀ u∈us,u.oneCell'=true):
 ∃ w',(storeCells ⟨g.β l,o,none⟩ us 0).run P w=.ok () w'/\Inv w' g (st.set l (.box e s (cs.take o++ds++cs.drop (o+ds.length))))/\Ext w g w' g:=by
 obtain⟨_,k0,k'⟩:=hi.box l e s cs hH;have hlen:=aJ _ _ r8;obtain⟨n9,k1,k2,k4,k5,k6⟩:=k' r9;have D3:=run_storeCells_at P (g.β l) o e us 0 n9.toArray w k1 (by grind) M9;simp only[Nat.add_zero]at D3
 have v7:=rS (cs':=cs.take o++ds++cs.drop (o+ds.length)) (vs':=n9.take o++us++n9.drop (o+us.length)) hi hH r9 (by
  grind) (by grind) (by
  have hx1:(cs.take o++ds++cs.drop (o+ds.length)).length=cs.length:=by simp only[aAn,aAw,aAL];omega
  have Y3:(n9.take o++us++n9.drop (o+us.length)).take cs.length=(n9.take cs.length).take o++us++(n9.take cs.length).drop (o+us.length):=by
   rw[aCo,aCo,aCh,aCh,aDP];simp only[aAn,aAw];rw[show min cs.length o=o by omega,show min o cs.length=o by omega];rw[aAu (l:=us) oO]
   congr 2
   omega
  grind [bW,dK,gM])
 grind
theorem Gb(hT:aZ P T)(hi:Inv w g st){t:TypeId}{x y:LV}{v u:Value}{r:bR}(he:Ee T t x y st=some r)(hc:r.c)(h:Rep w g x v)(hu:Rep w g y u):
 r.v=.dead/\∃ w',(Instr.storeAt t v u).run P w=.ok () w'/\Inv w' g r.s/\Ext w g w' g:=by
 unfold Ee at he
 split at he
 .rename_i row l o ds ht hds;cases hH:st.H l with
  |box e s cs=>
   simp only[hH,aAb]at he;subst he;obtain⟨c1,c2,c3⟩:=hc;simp only[Rep]at h;obtain⟨rfl,hl⟩:=h;have Tf:=hT t row ht;have r8:=rN hds hu;have hlen:=aJ _ _ r8;have U0:u.cells.size=row.size:=by rw[<- c1,hlen];simp
   obtain⟨_,k0,k'⟩:=hi.box l e s cs hH;cases r9:g.nl l with
   |true=>
    obtain⟨_,rfl⟩:=k0 r9;have hd0:ds=[]:=aAK (by grind);subst hd0;have hu0:u.cells.toList=[]:=aAK hlen.symm;refine⟨rfl,w,?_,?_,Ext.refl w g⟩
    .simp[Instr.storeAt,Instr.sureAddr,storeVar,Tf.sizeOf,U0,hu0,storeCells]
    .have:st.set l (.box e s (([]:List LV).take o++[]++([]:List LV).drop (o+([]:List LV).length)))=st:=by
      cases st with
      |mk nx H=>
       simp only[St.set,List.take_nil,aAS,List.drop_nil]
       congr 1
       grind
     grind
   |false=>obtain⟨w',D3,v7⟩:=uA (P:=P) hi hH r9 c2 r8 (gK _ _ c3 r8);refine⟨rfl,w',?_,v7.1,v7.2⟩;simp[Instr.storeAt,Instr.sureAddr,storeVar,Tf.sizeOf,U0];omega
  |_=>grind
 grind
theorem zL(hT:aZ P T){t:TypeId}{x:LV}{v:Value}{f:Nat}{r:bR}(he:lR T t x f st=some r)(hc:r.c)(h:Rep w g x v):
 r.s=st/\∃ u,(Instr.fieldAt t v f).run P w=.ok u w/\Rep w g r.v u:=by
 unfold lR at he
 split at he
 .rename_i fs hs
  split at he
  .rename_i off ty hf
   split at he
   .rename_i row Tf;obtain⟨F,hd,hF⟩:=uJ hT hs;have hfld:∃ fd,F[f]?=some fd/\fd.offset=off/\fd.type=ty:=by rw[<- hF]at hf;simp only[aCm,aBk]at hf;obtain⟨fd,h1,h2⟩:=hf;simp only[aBd]at h2;exact⟨fd,by grind,h2.1,h2.2⟩
    obtain⟨fd,h1,rfl,rfl⟩:=hfld;have hr:=hT _ row Tf
    split at he
    .rename_i l o;simp only[aAb]at he;subst he;simp only[Rep]at h;obtain⟨rfl,hl⟩:=h;refine⟨rfl,.pointer (some ⟨g.β l,o+fd.offset,none⟩),?_,by grind [Rep]⟩;simp[Instr.fieldAt,run_underlying hd,h1,Instr.sureAddr,fieldPlace,hr.sizeOf,add_lit];omega
    .rename_i cs;simp only[aAb]at he;subst he;simp only[Rep]at h;obtain⟨b,o,rfl,hrr⟩:=h;refine⟨rfl,.pointer (some ⟨b,o+fd.offset,none⟩),?_,by simp only[Rep];exact⟨b,_,rfl,gN _ _ _ hrr⟩⟩;simp[Instr.fieldAt,run_underlying hd,h1,Instr.sureAddr,fieldPlace,hr.sizeOf,add_lit];omega
    .rename_i l cs;simp only[aAb]at he;subst he;simp only[Rep]at h;obtain⟨rfl,_,hrr⟩:=h;refine⟨rfl,.pointer (some ⟨g.β l,0+fd.offset,none⟩),?_,by simp only[Rep];exact⟨_,_,rfl,gN _ _ _ hrr⟩⟩;simp[Instr.fieldAt,run_underlying hd,h1,Instr.sureAddr,fieldPlace,hr.sizeOf,add_lit];omega
    grind
   grind
  grind
 grind
theorem ID(hT:aZ P T){t:TypeId}{x:LV}{v:Value}{f:Nat}{r:bR}(he:CF T t x f st=some r)(hc:r.c)(h:Rep w g x v):
 r.s=st/\∃ u,(Instr.field t v f).run P w=.ok u w/\Rep w g r.v u:=by
 unfold CF at he
 split at he
 .rename_i fs cs hs
  split at he
  .rename_i off ty hf
   split at he
   .rename_i row Tf;obtain⟨F,hd,hF⟩:=uJ hT hs;have hfld:∃ fd,F[f]?=some fd/\fd.offset=off/\fd.type=ty:=by rw[<- hF]at hf;simp only[aCm,aBk]at hf;obtain⟨fd,h1,h2⟩:=hf;simp only[aBd]at h2;exact⟨fd,by grind,h2.1,h2.2⟩
    obtain⟨fd,h1,rfl,rfl⟩:=hfld;have hr:=hT _ row Tf;simp only[Rep]at h;obtain⟨vs,rfl,hl⟩:=h;cases ha:row.agg with
    |true=>simp only[ha,aBs,aAb]at he;subst he;refine⟨rfl,.agg ((vs.drop fd.offset).take row.size).toArray,?_,by grind [Rep,dK,gM]⟩;simp[Instr.field,run_underlying hd,h1,part,asAgg,hr.agg,ha,hr.sizeOf]
    |false=>
     simp only[ha,aBg,aBS,aAb]at he;subst he;have hlen:=aJ _ _ hl;have hc':fd.offset<cs.length:=hc;obtain⟨u,hu,hru⟩:=uV fd.offset cs vs cs[fd.offset] hl (aAh hc');refine⟨rfl,u,?_,?_⟩
     .simp[Instr.field,run_underlying hd,h1,part,asAgg,hr.agg,ha,hu]
     .rw[aAN hc'];exact hru
   grind
  grind
 grind
theorem Oy(hi:Inv w g st){t:TypeId}{x:LV}{v:Value}{r:bR}(he:Uo t x st=some r)(h:Rep w g x v):
 ∃ u w' g',(Instr.box t v).run P w=.ok u w'/\Rep w' g' r.v u/\Inv w' g' r.s/\Ext w g w' g':=by
 unfold Uo at he;cases hx:dV x with
 |none=>grind
 |some cs=>
  simp only[hx,aAb]at he;subst he;have r8:=rN hx h;have hlen:=aJ _ _ r8;have h1:=vK hi t cs.length 1 oO (by simp[maxLen]) (aEf hlen) (by grind);have h2:=dM w g (.cells v.cells.toList.toArray t) 0 1 false;refine⟨.pointer (some ⟨w.heap.size,0,none⟩),_,_,?_,?_,h1,h2⟩
  .simp[Instr.box,newVar,newRow]
  .simp only[Rep];simp[G.add,hi.next]
theorem cW{t:Nat}{row:bK}(h:bE P t row):row.zeroV.cells=row.zero.toArray:=by
 have M9:∀ v∈row.zero,v.oneCell'=true:=by simpa using h.zone
 unfold bK.zeroV;cases ha:row.agg with
 |true=>rfl
 |false=>
  have h1:=h.one ha;have h2:=h.zl
  match hz:row.zero with
  |[]=>grind
  |[z]=>have:=M9 z (by grind);cases z<;>first|rfl|grind [Value.oneCell']
  |a::b::l=>grind
end
end Aw
end Go.Proofs.YtbgngpdonpeboaaGreatDoor
