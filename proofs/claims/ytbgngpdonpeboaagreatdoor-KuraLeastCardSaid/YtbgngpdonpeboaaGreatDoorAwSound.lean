/- The operations' soundness. No program is named here. -/
import Derived.Test.YtbgngpdonpeboaaGreatDoorAwOps
set_option linter.unusedVariables false
set_option linter.unusedSimpArgs false
namespace Go.Proofs.YtbgngpdonpeboaaGreatDoor
namespace Aw
open Go Go.RowKit
section
variable {P:Program} {T:Tab} {w:World} {g:G} {st:St}
theorem qA{x:LV}{v:Value}{q n:Nat}{cs:List LV}(hx:vU x=some (q,n,cs))(h:Rep w g x v):Rep w g (.sl q n cs) v:=by
 cases x with
 |sl q' n' cs'=>
  grind [vU]
 |nil=>simp only[vU,aAb,aBd]at hx;obtain⟨rfl,rfl,rfl⟩:=hx;exact Au h
 |emp=>
  grind [vU,Rep]
 |qu t o n' cs'=>
  grind [vU,Rep]
 |_=>simp[vU]at hx
theorem La(hi:Inv w g st){x:LV}{v:Value}{cs:List LV}(hx:eR st x=some cs)(h:Rep w g x v):
 ∃ b o vs,v=.pointer (some ⟨b,o,none⟩)/\aC w g cs vs/\∀ j,j<cs.length->w.cell? ⟨b,o+j,none⟩=vs[j]?:=by
 cases x with
 |ep cs'=>
  grind [eR,Rep,gM]
 |pe l cs'=>
  grind [eR,Rep,gM]
 |pt l o=>
  simp only[eR]at hx;cases hH:st.H l with
  |box e s cs'=>
   simp only[hH,aAb]at hx;subst hx;simp only[Rep]at h;obtain⟨rfl,_⟩:=h;obtain⟨_,k0,k'⟩:=hi.box l e s cs' hH;cases r8:g.nl l with
   |true=>obtain⟨_,rfl⟩:=k0 r8;exact⟨g.β l,o,[],rfl,by grind [aC],sS⟩
   |false=>
    obtain⟨j8,k1,k2,k4,k5,_⟩:=k' r8;refine⟨g.β l,o,(j8.take cs'.length).drop o,rfl,gK _ _ _ k5,fun j hj=>?_⟩;rw[cell_of_row w _ _ _ _ _ k1]
    grind
  |_=>grind
 |_=>simp[eR]at hx
theorem lG{b o:Nat}{cs:List LV}{vs:List Value}(hr:aC w g cs vs)(hc:∀ j,j<cs.length->w.cell? ⟨b,o+j,none⟩=vs[j]?)(n:Nat)(hn:n<=cs.length):
 (loadCells ⟨b,o,none⟩ n).run P w=.ok (vs.take n).toArray w:=by
 grind [aK,run_loadCells_list,add_lit,List.length_take]
theorem Ab(hT:aX P T)(hi:Inv w g st){t:TypeId}{x:LV}{v:Value}{r:bP}(he:BH T t x st=some r)(hc:r.c)(h:Rep w g x v):
 r.s=st/\∃ u,(Instr.loadAt t v).run P w=.ok u w/\Rep w g r.v u:=by
 unfold BH at he;cases ht:T t with
 |none=>grind
 |some row=>
  cases hp:eR st x with
  |none=>grind
  |some cs=>
   simp only[ht,hp]at he;obtain⟨b,o,vs,rfl,h1,h2⟩:=La hi hp h;have VU:=hT t row ht;have hlen:=aK _ _ h1;cases ha:row.agg with
   |true=>
    simp only[ha,aBq,aAb]at he;subst he;refine⟨rfl,.agg (vs.take row.size).toArray,?_,?_⟩
    .simp[Instr.loadAt,Instr.sureAddr,loadVar,VU.agg,ha,VU.sizeOf,lG (P:=P) h1 h2 row.size hc]
    grind [Rep,dM]
   |false=>
    simp only[ha,aBb,aBE,aAb]at he;subst he;cases cs with
    |nil=>grind
    |cons c cs=>simp only[aC]at h1;obtain⟨u,us,rfl,k1,k2⟩:=h1;have h0:=h2 0 sS;simp only[Nat.add_zero,List.getElem?_cons_zero]at h0;refine⟨rfl,u,?_,k1⟩;simp[Instr.loadAt,Instr.sureAddr,loadVar,VU.agg,ha,load,Sem.run,h0]
theorem MX(hT:aX P T){t:TypeId}{x i:LV}{v vi:Value}{r:bP}(he:Ql T t x i st=some r)(hc:r.c)(h:Rep w g x v)(hvi:Rep w g i vi):
 r.s=st/\∃ u,(Instr.indexAt t v vi).run P w=.ok u w/\Rep w g r.v u:=by
 unfold Ql at he
 split at he
 .rename_i e k i' ht;have hd:P.underlying t=some (.slice e):=cF hT ht;simp only[Rep]at hvi;subst hvi
  split at he
  .rename_i row M5;have VU:=hT e row M5
   split at he
   .rename_i l o n;simp only[aAb]at he;subst he;obtain⟨c1,c2⟩:=hc;simp only[Rep]at h;obtain⟨A,cap,rfl,hn,hm,_,hA,hl⟩:=h;obtain rfl:=hA oO;refine⟨rfl,.pointer (some ⟨g.β l,o+i'.toNat*row.size,none⟩),?_,by grind [Rep]⟩;simp[Instr.indexAt,asIntOf,run_underlying hd,c1,c2,VU.sizeOf,add_lit]
   .split at he
    .rename_i q n cs hs;simp only[aAb]at he;subst he;obtain⟨c1,c2,c3⟩:=hc;have h':=qA hs h;simp only[Rep]at h';obtain⟨A,cap,rfl,hn,hm,_,hrw⟩:=h';obtain⟨b,o,rfl,hrr⟩:=hrw (fun e0=>by grind);refine⟨rfl,.pointer (some ⟨b,o+i'.toNat*row.size,none⟩),?_,?_⟩
     .simp[Instr.indexAt,asIntOf,run_underlying hd,c1,c2,VU.sizeOf,add_lit]
     .simp only[Rep];exact⟨b,_,rfl,gL _ _ _ hrr⟩
    grind
  grind
 grind
theorem CM{y:Option LV}{vy:Option Value}{d:Nat}{l:Int}(ho:eO y d=some l)(h:∀ q,y=some q->∃ u,vy=some u/\Rep w g q u)(h0:y=none->vy=none):
 (vy=none/\l=(d:Int))\/∃ k,vy=some (.int k l):=by
 cases y with
 |none=>
  grind [eO]
 |some q=>
  obtain⟨u,rfl,hu⟩:=h q rfl;right;unfold eO at ho
  split at ho
  .grind
  .grind [Rep]
  grind
theorem xU{n cap:Nat}{lo hi:Option LV}{vlo vhi:Option Value}{l hh:Int}(V7:eO lo 0=some l)(hoh:eO hi n=some hh)(c1:0<=l)(c2:l<=hh)(c3:hh<=cap)(hn:n<=cap)
 (hlo:∀ l,lo=some l->∃ u,vlo=some u/\Rep w g l u) (hlo0:lo=none->vlo=none) (hhi:∀ l,hi=some l->∃ u,vhi=some u/\Rep w g l u) (hhi0:hi=none->vhi=none):
 (Instr.sliceBounds true n cap vlo vhi none).run P w=.ok (l.toNat,hh.toNat,cap) w:=by
 have k1:hh<=(cap:Int):=oO;have k2:0<=hh:=oO;rcases CM V7 hlo hlo0 with⟨rfl,rfl⟩|⟨kl,rfl⟩<;>rcases CM hoh hhi hhi0 with⟨rfl,rfl⟩|⟨kh,rfl⟩
 .simp[Instr.sliceBounds]
 .simp[Instr.sliceBounds,Instr.sliceBound,asIntOf,k1,k2]
 .have k3:l.toNat<=n:=oO;simp[Instr.sliceBounds,Instr.sliceBound,asIntOf,c1,c2]
 .have k3:l<=((hh.toNat:Nat):Int):=oO;simp[Instr.sliceBounds,Instr.sliceBound,asIntOf,c1,k1,k2];omega
theorem nR{n cap:Nat}{lo hi:Option LV}{vlo vhi:Option Value}{l hh:Int}(V7:eO lo 0=some l)(hoh:eO hi n=some hh)(c1:0<=l)(c2:l<=hh)(c3:hh<=n)(hn:n<=cap)
 (hlo:∀ l,lo=some l->∃ u,vlo=some u/\Rep w g l u) (hlo0:lo=none->vlo=none) (hhi:∀ l,hi=some l->∃ u,vhi=some u/\Rep w g l u) (hhi0:hi=none->vhi=none):
 (Instr.sliceBounds true n cap vlo vhi none).run P w=.ok (l.toNat,hh.toNat,cap) w:=
 xU V7 hoh c1 c2 oO hn hlo hlo0 hhi hhi0
theorem It(hT:aX P T){t:TypeId}{x:LV}{lo hi mx:Option LV}{v:Value}{vlo vhi vmx:Option Value}{r:bP}(he:CB T t x lo hi mx st=some r)(hc:r.c)(h:Rep w g x v)
 (hlo:∀ l,lo=some l->∃ u,vlo=some u/\Rep w g l u) (hlo0:lo=none->vlo=none) (hhi:∀ l,hi=some l->∃ u,vhi=some u/\Rep w g l u) (hhi0:hi=none->vhi=none)
 (hmx:∀ l,mx=some l->∃ u,vmx=some u/\Rep w g l u) (hmx0:mx=none->vmx=none):
 r.s=st/\∃ u,(Instr.sliceAt t v vlo vhi vmx).run P w=.ok u w/\Rep w g r.v u:=by
 unfold CB at he
 split at he
 .rename_i e ht;have hd:P.underlying t=some (.slice e):=cF hT ht
  split at he
  .rename_i row M5;have VU:=hT e row M5
   split at he
   .obtain rfl:=hmx0 rfl
    split at he
    .rename_i b o n
     split at he
     .rename_i l hh V7 hoh;simp only[aAb]at he;subst he;obtain⟨c1,c2,c3,c4⟩:=hc;simp only[Rep]at h;obtain⟨A,cap,rfl,hn,hm,h0,hA,hb⟩:=h;have hbr:=nR (P:=P) (w:=w) (g:=g) V7 hoh c1 c2 c3 hn hlo hlo0 hhi hhi0;refine⟨rfl,.slice (if cap=l.toNat then A else A.map (·.add (l.toNat*row.size))) (hh.toNat-l.toNat) (cap-l.toNat),?_,?_⟩
      .simp[Instr.sliceAt,Instr.slice,run_underlying hd,hbr,VU.sizeOf]
      .simp only[Rep]
       grind [Nat.mul_eq_zero,add_lit]
     grind
    .rename_i b n c
     split at he
     .rename_i l hh V7 hoh;simp only[aAb]at he;subst he;obtain⟨c1,c2,c3,c4⟩:=hc;simp only[Rep]at h;obtain⟨A,rfl,hn,hm,hk,hb,hA,r8⟩:=h;have hbr:=xU (P:=P) (w:=w) (g:=g) V7 hoh c1 c2 c3 hn hlo hlo0 hhi hhi0;refine⟨rfl,.slice (if c=l.toNat then A else A.map (·.add (l.toNat*row.size))) (hh.toNat-l.toNat) (c-l.toNat),?_,?_⟩
      .simp[Instr.sliceAt,Instr.slice,run_underlying hd,hbr,VU.sizeOf]
      .cases lo with
       |none=>
        simp only[eO,aAb]at V7;subst V7
        grind [Rep,Addr.add]
       |some y=>
        simp only[Option.isNone_some,aBb,aBE,Rep];refine⟨_,_,rfl,oO,oO,fun ho=>?_,fun Zo=>?_,hb⟩
        .grind [Nat.mul_eq_zero,Addr.add]
        .have h0:g.nl b=false:=by
          cases h0:g.nl b with
          |false=>rfl
          |true=>grind
         grind [add_lit]
     grind
    .split at he
     .rename_i l hh V7 hoh;simp only[aAb]at he;subst he;obtain⟨rfl,rfl⟩:=hc;simp only[Rep]at h;subst h;have hbr:=nR (P:=P) (w:=w) (g:=g) (n:=0) (cap:=0) V7 hoh oO oO oO oO hlo hlo0 hhi hhi0;refine⟨rfl,.slice none 0 0,?_,by grind [Rep]⟩;simp[Instr.sliceAt,Instr.slice,run_underlying hd,hbr,VU.sizeOf]
     grind
    .rename_i t' o n cs
     split at he
     .rename_i l hh V7 hoh;simp only[aAb]at he;subst he;obtain⟨c1,c2,c3,c4⟩:=hc;simp only[Rep]at h;obtain⟨A,cap,rfl,hn,hm,Y4,hk,hA,hrw⟩:=h;have hbr:=nR (P:=P) (w:=w) (g:=g) V7 hoh c1 c2 c3 hn hlo hlo0 hhi hhi0;refine⟨rfl,.slice (if cap=l.toNat then A else A.map (·.add (l.toNat*row.size))) (hh.toNat-l.toNat) (cap-l.toNat),?_,?_⟩
      .simp[Instr.sliceAt,Instr.slice,run_underlying hd,hbr,VU.sizeOf]
      .simp only[Rep];refine⟨_,_,rfl,oO,oO,Y4,oO,fun Zo=>?_,fun Zo=>?_⟩
       .grind [add_lit]
       .have hlh:hh.toNat-l.toNat≠0:=fun h0=>by grind
        have L5:cs≠[]:=by rintro rfl;simp at Zo
        obtain⟨b,o',hAb,hrr⟩:=hrw L5;rw[aAa oO,hAb,c4];refine⟨b,o'+l.toNat,by grind [add_lit],pW _ _ _ (gL _ _ _ hrr)⟩
     grind
    .split at he
     .rename_i q n cs hs
      split at he
      .rename_i l hh V7 hoh;simp only[aAb]at he;subst he;obtain⟨c1,c2,c3⟩:=hc;have h':=qA hs h;simp only[Rep]at h';obtain⟨A,cap,rfl,hn,hm,_,hrw⟩:=h';have hbr:=nR (P:=P) (w:=w) (g:=g) V7 hoh c1 c2 c3 hn hlo hlo0 hhi hhi0;refine⟨rfl,.slice (if cap=l.toNat then A else A.map (·.add (l.toNat*row.size))) (hh.toNat-l.toNat) (cap-l.toNat),?_,?_⟩
       .simp[Instr.sliceAt,Instr.slice,run_underlying hd,hbr,VU.sizeOf]
       .simp only[Rep];refine⟨_,_,rfl,oO,⟨oO,fun hA0=>?_⟩,fun e0=>absurd rfl e0,fun Zo=>?_⟩
        .have hA1:A=none:=by
          split at hA0
          .omega
          .simp_all
         grind
        have dG:l.toNat<hh.toNat:=by
         rcases aAS l.toNat hh.toNat with h0|h0
         .omega
         .simp_all
        have L5:cs≠[]:=by rintro rfl;simp at Zo
        obtain⟨b,o,rfl,hrr⟩:=hrw L5;refine⟨b,o+l.toNat*row.size,?_,?_⟩
        .grind [add_lit]
        .exact pW _ _ _ (gL _ _ _ hrr)
      grind
     grind
   .rename_i k m
    split at he
    .rename_i k' hh p hs;simp only[aAb]at he;subst he;obtain⟨rfl,rfl⟩:=hc;obtain⟨q,n,cs⟩:=p;have h':=qA hs h;simp only[Rep]at h';obtain⟨A,cap,rfl,hn,hm,_,_⟩:=h';obtain⟨u,rfl,hu⟩:=hhi _ rfl;obtain⟨u',rfl,hu'⟩:=hmx _ rfl;simp only[Rep]at hu hu';subst hu hu';obtain rfl:=hlo0 rfl;refine⟨rfl,.slice A 0 0,?_,by grind [Rep]⟩;simp[Instr.sliceAt,Instr.slice,run_underlying hd,Instr.sliceBounds,Instr.sliceBound,asIntOf,VU.sizeOf]
    .rename_i kl ll kh hh hsl
     split at he
     .rename_i b o n;simp only[aAb]at he;subst he;obtain⟨c1,c2,c3,c4⟩:=hc;simp only[Rep]at h;obtain⟨A,cap,rfl,hn,hm,h0,hA,hb⟩:=h;obtain⟨u1,rfl,hu1⟩:=hlo _ rfl;obtain⟨u2,rfl,hu2⟩:=hhi _ rfl;obtain⟨u3,rfl,hu3⟩:=hmx _ rfl;simp only[Rep]at hu1 hu2 hu3;subst hu1 hu2 hu3;have e1:m<=(cap:Int):=oO;have e2:(0:Int)<=m:=oO;have e3:(0:Int)<=hh:=oO;refine⟨rfl,.slice (if m.toNat=ll.toNat then A else A.map (·.add (ll.toNat*row.size))) (hh.toNat-ll.toNat) (m.toNat-ll.toNat),?_,by grind [Rep]⟩;have e4:hh<=max m 0:=oO;have e5:ll<=max hh 0:=oO;simp[Instr.sliceAt,Instr.slice,run_underlying hd,Instr.sliceBounds,Instr.sliceBound,asIntOf,VU.sizeOf,e1,e2,e3,c1]
      grind
     .rename_i b n cap;simp only[aAb]at he;subst he;obtain⟨c1,c2,c3,c4⟩:=hc;simp only[Rep]at h;obtain⟨A,rfl,hn,hm,_⟩:=h;obtain⟨u1,rfl,hu1⟩:=hlo _ rfl;obtain⟨u2,rfl,hu2⟩:=hhi _ rfl;obtain⟨u3,rfl,hu3⟩:=hmx _ rfl;simp only[Rep]at hu1 hu2 hu3;subst hu1 hu2 hu3;have e1:m<=(cap:Int):=oO;have e2:(0:Int)<=m:=oO;have e3:(0:Int)<=hh:=oO;refine⟨rfl,.slice (if m.toNat=ll.toNat then A else A.map (·.add (ll.toNat*row.size))) (hh.toNat-ll.toNat) (m.toNat-ll.toNat),?_,by grind [Rep]⟩;have e4:hh<=max m 0:=oO;have e5:ll<=max hh 0:=oO;simp[Instr.sliceAt,Instr.slice,run_underlying hd,Instr.sliceBounds,Instr.sliceBound,asIntOf,VU.sizeOf,e1,e2,e3,c1]
      grind
     grind
    grind
   grind
  grind
 grind
theorem pX{x:LV}{v:Value}{cs:List LV}(hx:dY x=some cs)(h:Rep w g x v):aC w g cs v.cells.toList:=by
 have key:∀ lv:LV,cs=[lv]->Rep w g lv v->(∀ cells,v≠.agg cells)->aC w g cs v.cells.toList:=by
  intro lv h1 h2 h3;subst h1;have:v.cells=#[v]:=by cases v<;>first|rfl|grind
  rw[this];simp only[aC];exact⟨v,[],rfl,h2,rfl⟩
 cases x with
 |ag cs'=>
  grind [dY,Rep,Value.cells]
 |dead=>grind [dY]
 |tu vs=>grind [dY]
 |nil=>
  grind [dY,Rep]
 |emp=>
  grind [dY,Rep]
 |ms l o n=>
  grind [dY,Rep]
 |atom y=>have h':=h;simp only[Rep]at h';subst h';cases v<;>simp only[dY,aAb]at hx<;>first|exact key _ hx.symm h (by simp)|grind
 |sl q n cs'=>
  grind [dY,Rep]
 |pt l o=>
  grind [dY,Rep]
 |ep cs'=>
  grind [dY,Rep]
 |mp l=>
  grind [dY,Rep]
 |fn f IQ=>
  grind [dY,Rep]
 |qu t o n cs'=>
  grind [dY,Rep]
 |pe l cs'=>
  grind [dY,Rep]
 |kap l n c=>
  grind [dY,Rep]
theorem OO{x:LV}{v:Value}(hx:iK x=true)(h:Rep w g x v):v.oneCell'=true:=by
 cases x with
 |ag cs=>grind [iK]
 |dead=>grind [iK]
 |tu vs=>grind [iK]
 |nil=>simp only[Rep]at h;subst h;rfl
 |emp=>simp only[Rep]at h;obtain⟨A,rfl⟩:=h;rfl
 |ms l o n=>simp only[Rep]at h;obtain⟨A,cap,rfl,_⟩:=h;rfl
 |atom y=>simp only[Rep]at h;subst h;cases v<;>first|rfl|grind [iK]
 |sl q n cs=>simp only[Rep]at h;obtain⟨A,cap,rfl,_⟩:=h;rfl
 |pt l o=>simp only[Rep]at h;rw[h.1];rfl
 |ep cs=>simp only[Rep]at h;obtain⟨b,o,rfl,_⟩:=h;rfl
 |mp l=>simp only[Rep]at h;rw[h.1];rfl
 |fn f IQ=>simp only[Rep]at h;obtain⟨vs,rfl,_⟩:=h;rfl
 |qu t o n cs=>simp only[Rep]at h;obtain⟨A,cap,rfl,_⟩:=h;rfl
 |pe l cs=>simp only[Rep]at h;rw[h.1];rfl
 |kap l n c=>simp only[Rep]at h;obtain⟨A,rfl,_⟩:=h;rfl
theorem gD:∀(cs:List LV) (vs:List Value),cs.all iK=true->aC w g cs vs->∀ u∈vs,u.oneCell'=true
 |[],vs,_,h=>by grind [aC]
 |c::cs,vs,ha,h=>by
  simp only[aC]at h;obtain⟨v,vs',rfl,h1,h2⟩:=h;simp only[List.all_cons,aAW]at ha;intro u hu;rcases aAe.1 hu with rfl|hu
  .grind [OO]
  .exact gD cs vs' ha.2 h2 u hu
theorem BI(hi:Inv w g st){l:Nat}{o:cI}(h:st.H l=o)(ho:o≠.dead):l<st.next:=by
 rcases aAS l st.next with h0|h0
 .omega
 .rw[hi.fresh l h0]at h;grind
theorem tC(hi:Inv w g st){l o e s:Nat}{cs ds:List LV}{us:List Value}(hH:st.H l=.box e s cs)(r8:g.nl l=false)(c2:o+ds.length<=cs.length)(o7:aC w g ds us)(I5:∀ u∈us,u.oneCell'=true):
 ∃ w',(storeCells ⟨g.β l,o,none⟩ us 0).run P w=.ok () w'/\Inv w' g (st.set l (.box e s (cs.take o++ds++cs.drop (o+ds.length))))/\Ext w g w' g:=by
 obtain⟨_,k0,k'⟩:=hi.box l e s cs hH;have hlen:=aK _ _ o7;obtain⟨j8,k1,k2,k4,k5,k6⟩:=k' r8;have I2:=run_storeCells_at P (g.β l) o e us 0 j8.toArray w k1 (by grind) I5;simp only[Nat.add_zero]at I2
 have u6:=pL (cs':=cs.take o++ds++cs.drop (o+ds.length)) (vs':=j8.take o++us++j8.drop (o+us.length)) hi hH r8 (by
  grind) (by grind) (by
  have hx1:(cs.take o++ds++cs.drop (o+ds.length)).length=cs.length:=by simp only[aAn,aAw,aAT];omega
  have U1:(j8.take o++us++j8.drop (o+us.length)).take cs.length=(j8.take cs.length).take o++us++(j8.take cs.length).drop (o+us.length):=by
   rw[aCv,aCv,aCu,aCu,aEl];simp only[aAn,aAw];rw[show min cs.length o=o by omega,show min o cs.length=o by omega];rw[aAv (l:=us) oO]
   congr 2
   omega
  grind [bW,dM,gK])
 grind
theorem GZ(hT:aX P T)(hi:Inv w g st){t:TypeId}{x y:LV}{v u:Value}{r:bP}(he:FX T t x y st=some r)(hc:r.c)(h:Rep w g x v)(hu:Rep w g y u):
 r.v=.dead/\∃ w',(Instr.storeAt t v u).run P w=.ok () w'/\Inv w' g r.s/\Ext w g w' g:=by
 unfold FX at he
 split at he
 .rename_i row l o ds ht W8;cases hH:st.H l with
  |box e s cs=>
   simp only[hH,aAb]at he;subst he;obtain⟨c1,c2,c3⟩:=hc;simp only[Rep]at h;obtain⟨rfl,hl⟩:=h;have VU:=hT t row ht;have o7:=pX W8 hu;have hlen:=aK _ _ o7;have O4:u.cells.size=row.size:=by rw[<- c1,hlen];simp
   obtain⟨_,k0,k'⟩:=hi.box l e s cs hH;cases r8:g.nl l with
   |true=>
    obtain⟨_,rfl⟩:=k0 r8;have hd0:ds=[]:=aAK (by grind);subst hd0;have hu0:u.cells.toList=[]:=aAK hlen.symm;refine⟨rfl,w,?_,?_,Ext.refl w g⟩
    .simp[Instr.storeAt,Instr.sureAddr,storeVar,VU.sizeOf,O4,hu0,storeCells]
    .have:st.set l (.box e s (([]:List LV).take o++[]++([]:List LV).drop (o+([]:List LV).length)))=st:=by
      cases st with
      |mk nx H=>
       simp only[St.set,List.take_nil,aAO,List.drop_nil]
       congr 1
       grind
     grind
   |false=>obtain⟨w',I2,u6⟩:=tC (P:=P) hi hH r8 c2 o7 (gD _ _ c3 o7);refine⟨rfl,w',?_,u6.1,u6.2⟩;simp[Instr.storeAt,Instr.sureAddr,storeVar,VU.sizeOf,O4];omega
  |_=>grind
 grind
theorem zA(hT:aX P T){t:TypeId}{x:LV}{v:Value}{f:Nat}{r:bP}(he:lF T t x f st=some r)(hc:r.c)(h:Rep w g x v):
 r.s=st/\∃ u,(Instr.fieldAt t v f).run P w=.ok u w/\Rep w g r.v u:=by
 unfold lF at he
 split at he
 .rename_i fs hs
  split at he
  .rename_i off ty hf
   split at he
   .rename_i row VU;obtain⟨F,hd,hF⟩:=tQ hT hs;have hfld:∃ fd,F[f]?=some fd/\fd.offset=off/\fd.type=ty:=by rw[<- hF]at hf;simp only[aCi,aBj]at hf;obtain⟨fd,h1,h2⟩:=hf;simp only[aBd]at h2;exact⟨fd,by grind,h2.1,h2.2⟩
    obtain⟨fd,h1,rfl,rfl⟩:=hfld;have hr:=hT _ row VU
    split at he
    .rename_i l o;simp only[aAb]at he;subst he;simp only[Rep]at h;obtain⟨rfl,hl⟩:=h;refine⟨rfl,.pointer (some ⟨g.β l,o+fd.offset,none⟩),?_,by grind [Rep]⟩;simp[Instr.fieldAt,run_underlying hd,h1,Instr.sureAddr,fieldPlace,hr.sizeOf,add_lit];omega
    .rename_i cs;simp only[aAb]at he;subst he;simp only[Rep]at h;obtain⟨b,o,rfl,hrr⟩:=h;refine⟨rfl,.pointer (some ⟨b,o+fd.offset,none⟩),?_,by simp only[Rep];exact⟨b,_,rfl,gL _ _ _ hrr⟩⟩;simp[Instr.fieldAt,run_underlying hd,h1,Instr.sureAddr,fieldPlace,hr.sizeOf,add_lit];omega
    .rename_i l cs;simp only[aAb]at he;subst he;simp only[Rep]at h;obtain⟨rfl,_,hrr⟩:=h;refine⟨rfl,.pointer (some ⟨g.β l,0+fd.offset,none⟩),?_,by simp only[Rep];exact⟨_,_,rfl,gL _ _ _ hrr⟩⟩;simp[Instr.fieldAt,run_underlying hd,h1,Instr.sureAddr,fieldPlace,hr.sizeOf,add_lit];omega
    grind
   grind
  grind
 grind
theorem HF(hT:aX P T){t:TypeId}{x:LV}{v:Value}{f:Nat}{r:bP}(he:Ad T t x f st=some r)(hc:r.c)(h:Rep w g x v):
 r.s=st/\∃ u,(Instr.field t v f).run P w=.ok u w/\Rep w g r.v u:=by
 unfold Ad at he
 split at he
 .rename_i fs cs hs
  split at he
  .rename_i off ty hf
   split at he
   .rename_i row VU;obtain⟨F,hd,hF⟩:=tQ hT hs;have hfld:∃ fd,F[f]?=some fd/\fd.offset=off/\fd.type=ty:=by rw[<- hF]at hf;simp only[aCi,aBj]at hf;obtain⟨fd,h1,h2⟩:=hf;simp only[aBd]at h2;exact⟨fd,by grind,h2.1,h2.2⟩
    obtain⟨fd,h1,rfl,rfl⟩:=hfld;have hr:=hT _ row VU;simp only[Rep]at h;obtain⟨vs,rfl,hl⟩:=h;cases ha:row.agg with
    |true=>simp only[ha,aBq,aAb]at he;subst he;refine⟨rfl,.agg ((vs.drop fd.offset).take row.size).toArray,?_,by grind [Rep,dM,gK]⟩;simp[Instr.field,run_underlying hd,h1,part,asAgg,hr.agg,ha,hr.sizeOf]
    |false=>
     simp only[ha,aBb,aBE,aAb]at he;subst he;have hlen:=aK _ _ hl;have hc':fd.offset<cs.length:=hc;obtain⟨u,hu,hru⟩:=vS fd.offset cs vs cs[fd.offset] hl (aAh hc');refine⟨rfl,u,?_,?_⟩
     .simp[Instr.field,run_underlying hd,h1,part,asAgg,hr.agg,ha,hu]
     .rw[aAL hc'];exact hru
   grind
  grind
 grind
theorem Oj(hi:Inv w g st){t:TypeId}{x:LV}{v:Value}{r:bP}(he:VX t x st=some r)(h:Rep w g x v):
 ∃ u w' g',(Instr.box t v).run P w=.ok u w'/\Rep w' g' r.v u/\Inv w' g' r.s/\Ext w g w' g':=by
 unfold VX at he;cases hx:dY x with
 |none=>grind
 |some cs=>
  simp only[hx,aAb]at he;subst he;have o7:=pX hx h;have hlen:=aK _ _ o7;have h1:=uI hi t cs.length 1 oO (by simp[maxLen]) (aDY hlen) (by grind);have h2:=dN w g (.cells v.cells.toList.toArray t) 0 1 false;refine⟨.pointer (some ⟨w.heap.size,0,none⟩),_,_,?_,?_,h1,h2⟩
  .simp[Instr.box,newVar,newRow]
  .simp only[Rep];simp[G.add,hi.next]
theorem cU{t:Nat}{row:bH}(h:bC P t row):row.zeroV.cells=row.zero.toArray:=by
 have I5:∀ v∈row.zero,v.oneCell'=true:=by simpa using h.zone
 unfold bH.zeroV;cases ha:row.agg with
 |true=>rfl
 |false=>
  have h1:=h.one ha;have h2:=h.zl
  match hz:row.zero with
  |[]=>grind
  |[z]=>have:=I5 z (by grind);cases z<;>first|rfl|grind [Value.oneCell']
  |a::b::l=>grind
end
end Aw
end Go.Proofs.YtbgngpdonpeboaaGreatDoor
