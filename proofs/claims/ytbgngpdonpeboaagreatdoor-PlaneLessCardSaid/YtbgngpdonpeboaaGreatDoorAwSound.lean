/- The operations' soundness. No program is named here. -/
import Derived.Test.YtbgngpdonpeboaaGreatDoorAwOps
set_option linter.defProp false
set_option linter.unusedVariables false
set_option linter.unusedSimpArgs false
namespace Go.Proofs.YtbgngpdonpeboaaGreatDoor
namespace Aw
open Go Go.RowKit
section
variable {P:Program} {T:az} {w:World} {g:G} {st:St}
theorem pM{x:LV}{v:Value}{q n:Nat}{b:List LV}(a:wQ x=some (q,n,b))(h:Rep w g x v):Rep w g (.sl q n b) v:=by
 cases x with
 |sl q' n' cs'=>
  grind [wQ]
 |nil=>simp only[wQ,ap,fx]at a;obtain⟨rfl,rfl,rfl⟩:=a;exact AU h
 |emp=>
  grind [wQ,Rep]
 |qu t o n' cs'=>
  grind [wQ,Rep]
 |_=>simp[wQ]at a
theorem Mq(m:Inv w g st){x:LV}{v:Value}{c:List LV}(a:eN st x=some c)(h:Rep w g x v):
 ∃ b o k,v=.pointer (some ⟨b,o,none⟩)/\aC w g c k/\∀ j,j<c.length->w.cell? ⟨b,o+j,none⟩=k[j]?:=by
 cases x with
 |ep cs'=>
  grind [eN,Rep,gP]
 |pe l cs'=>
  grind [eN,Rep,gP]
 |pt l o=>
  simp only[eN]at a;cases d:st.H l with
  |box e s cs'=>
   simp only[d,ap]at a;subst a;simp only[Rep]at h;obtain⟨rfl,_⟩:=h;obtain⟨_,p,n⟩:=m.box l e s cs' d;cases f:g.nl l with
   |true=>obtain⟨_,rfl⟩:=p f;exact⟨g.β l,o,[],rfl,by grind [aC],sS⟩
   |false=>
    obtain⟨t,q,z,A,r,_⟩:=n f;refine⟨g.β l,o,(t.take cs'.length).drop o,rfl,iV _ _ _ r,fun j y=>?_⟩;rw[cell_of_row w _ _ _ _ _ q]
    grind
  |_=>grind
 |_=>simp[eN]at a
theorem Am{b o:Nat}{a:List LV}{c:List Value}(f:aC w g a c)(d:∀ j,j<a.length->w.cell? ⟨b,o+j,none⟩=c[j]?)(n:Nat)(e:n<=a.length):
 (loadCells ⟨b,o,none⟩ n).run P w=.ok (c.take n).toArray w:=by
 grind [aM,run_loadCells_list,add_lit,List.length_take]
theorem BK(y:aZ P T)(A:Inv w g st){t:TypeId}{x:LV}{v:Value}{r:bS}(d:CM T t x st=some r)(z:r.c)(h:Rep w g x v):
 r.s=st/\∃ u,(Instr.loadAt t v).run P w=.ok u w/\Rep w g r.v u:=by
 unfold CM at d;cases q:T t with
 |none=>grind
 |some a=>
  cases p:eN st x with
  |none=>grind
  |some k=>
   simp only[q,p]at d;obtain⟨b,o,C,rfl,e,m⟩:=Mq A p h;have j:=y t a q;have n:=aM _ _ e;cases f:a.agg with
   |true=>
    simp only[f,dE,ap]at d;subst d;refine⟨rfl,.agg (C.take a.size).toArray,?_,?_⟩
    .simp[Instr.loadAt,Instr.sureAddr,loadVar,j.agg,f,j.sizeOf,Am (P:=P) e m a.size z]
    grind [Rep,fP]
   |false=>
    simp only[f,iv,gx,ap]at d;subst d;cases k with
    |nil=>grind
    |cons c k=>simp only[aC]at e;obtain⟨u,us,rfl,B,D⟩:=e;have l:=m 0 sS;simp only[Nat.add_zero,List.getElem?_cons_zero]at l;refine⟨rfl,u,?_,B⟩;simp[Instr.loadAt,Instr.sureAddr,loadVar,j.agg,f,load,Sem.run,l]
theorem Nt(C:aZ P T){t:TypeId}{x i:LV}{v I:Value}{r:bS}(a:PN T t x i st=some r)(D:r.c)(h:Rep w g x v)(f:Rep w g i I):
 r.s=st/\∃ u,(Instr.indexAt t v I).run P w=.ok u w/\Rep w g r.v u:=by
 unfold PN at a
 split at a
 .rename_i e k F O;have E:P.underlying t=some (.slice e):=cZ C O;simp only[Rep]at f;subst f
  split at a
  .rename_i d J;have H:=C e d J
   split at a
   .rename_i l o n;simp only[ap]at a;subst a;obtain⟨j,m⟩:=D;simp only[Rep]at h;obtain⟨A,p,rfl,M,L,_,K,U⟩:=h;obtain rfl:=K oO;refine⟨rfl,.pointer (some ⟨g.β l,o+F.toNat*d.size,none⟩),?_,by grind [Rep]⟩;simp[Instr.indexAt,asIntOf,run_underlying E,j,m,H.sizeOf,add_lit]
   .split at a
    .rename_i q n R N;simp only[ap]at a;subst a;obtain⟨j,m,Q⟩:=D;have B:=pM N h;simp only[Rep]at B;obtain⟨A,p,rfl,M,L,_,z⟩:=B;obtain⟨b,o,rfl,y⟩:=z (fun S=>by grind);refine⟨rfl,.pointer (some ⟨b,o+F.toNat*d.size,none⟩),?_,?_⟩
     .simp[Instr.indexAt,asIntOf,run_underlying E,j,m,H.sizeOf,add_lit]
     .simp only[Rep];exact⟨b,_,rfl,gK _ _ _ y⟩
    grind
  grind
 grind
theorem CP{y:Option LV}{a:Option Value}{d:Nat}{l:Int}(b:eI y d=some l)(h:∀ q,y=some q->∃ u,a=some u/\Rep w g q u)(c:y=none->a=none):
 (a=none/\l=(d:Int))\/∃ k,a=some (.int k l):=by
 cases y with
 |none=>
  grind [eI]
 |some q=>
  obtain⟨u,rfl,e⟩:=h q rfl;right;unfold eI at b
  split at b
  .grind
  .grind [Rep]
  grind
theorem xT{n a:Nat}{p j:Option LV}{d c:Option Value}{l b:Int}(o:eI p 0=some l)(m:eI j n=some b)(q:0<=l)(t:l<=b)(x:b<=a)(y:n<=a)
 (k:∀ l,p=some l->∃ u,d=some u/\Rep w g l u) (f:p=none->d=none) (h:∀ l,j=some l->∃ u,c=some u/\Rep w g l u) (e:j=none->c=none):
 (Instr.sliceBounds true n a d c none).run P w=.ok (l.toNat,b.toNat,a) w:=by
 have r:b<=(a:Int):=oO;have s:0<=b:=oO;rcases CP o k f with⟨rfl,rfl⟩|⟨A,rfl⟩<;>rcases CP m h e with⟨rfl,rfl⟩|⟨z,rfl⟩
 .simp[Instr.sliceBounds]
 .simp[Instr.sliceBounds,Instr.sliceBound,asIntOf,r,s]
 .have v:l.toNat<=n:=oO;simp[Instr.sliceBounds,Instr.sliceBound,asIntOf,q,t]
 .have v:l<=((b.toNat:Nat):Int):=oO;simp[Instr.sliceBounds,Instr.sliceBound,asIntOf,q,r,s];omega
theorem oK{n cap:Nat}{o h:Option LV}{b a:Option Value}{l e:Int}(m:eI o 0=some l)(k:eI h n=some e)(p:0<=l)(q:l<=e)(s:e<=n)(r:n<=cap)
 (j:∀ l,o=some l->∃ u,b=some u/\Rep w g l u) (d:o=none->b=none) (f:∀ l,h=some l->∃ u,a=some u/\Rep w g l u) (c:h=none->a=none):
 (Instr.sliceBounds true n cap b a none).run P w=.ok (l.toNat,e.toNat,cap) w:=
 xT m k p q oO r j d f c
theorem IZ(hT:aZ P T){t:TypeId}{x:LV}{lo hi mx:Option LV}{v:Value}{vlo vhi vmx:Option Value}{r:bS}(d:As T t x lo hi mx st=some r)(R:r.c)(h:Rep w g x v)
 (H:∀ l,lo=some l->∃ u,vlo=some u/\Rep w g l u) (z:lo=none->vlo=none) (D:∀ l,hi=some l->∃ u,vhi=some u/\Rep w g l u) (E:hi=none->vhi=none)
 (V:∀ l,mx=some l->∃ u,vmx=some u/\Rep w g l u) (hmx0:mx=none->vmx=none):
 r.s=st/\∃ u,(Instr.sliceAt t v vlo vhi vmx).run P w=.ok u w/\Rep w g r.v u:=by
 unfold As at d
 split at d
 .rename_i e ht;have S:P.underlying t=some (.slice e):=cZ hT ht
  split at d
  .rename_i F S2;have U:=hT e F S2
   split at d
   .obtain rfl:=hmx0 rfl
    split at d
    .rename_i b o n
     split at d
     .rename_i l j f C;simp only[ap]at d;subst d;obtain⟨I,O,Q,c4⟩:=R;simp only[Rep]at h;obtain⟨A,a,rfl,M,Z,Y,hA,hb⟩:=h;have B:=oK (P:=P) (w:=w) (g:=g) f C I O Q M H z D E;refine⟨rfl,.slice (if a=l.toNat then A else A.map (·.add (l.toNat*F.size))) (j.toNat-l.toNat) (a-l.toNat),?_,?_⟩
      .simp[Instr.sliceAt,Instr.slice,run_underlying S,B,U.sizeOf]
      .simp only[Rep]
       grind [Nat.mul_eq_zero,add_lit]
     grind
    .rename_i b n c
     split at d
     .rename_i l j f C;simp only[ap]at d;subst d;obtain⟨I,O,Q,c4⟩:=R;simp only[Rep]at h;obtain⟨A,rfl,M,Z,hk,hb,hA,v8⟩:=h;have B:=xT (P:=P) (w:=w) (g:=g) f C I O Q M H z D E;refine⟨rfl,.slice (if c=l.toNat then A else A.map (·.add (l.toNat*F.size))) (j.toNat-l.toNat) (c-l.toNat),?_,?_⟩
      .simp[Instr.sliceAt,Instr.slice,run_underlying S,B,U.sizeOf]
      .cases lo with
       |none=>
        simp only[eI,ap]at f;subst f
        grind [Rep,Addr.add]
       |some y=>
        simp only[Option.isNone_some,iv,gx,Rep];refine⟨_,_,rfl,oO,oO,fun ho=>?_,fun c7=>?_,hb⟩
        .grind [Nat.mul_eq_zero,Addr.add]
        .have Y:g.nl b=false:=by
          cases Y:g.nl b with
          |false=>rfl
          |true=>grind
         grind [add_lit]
     grind
    .split at d
     .rename_i l j f C;simp only[ap]at d;subst d;obtain⟨rfl,rfl⟩:=R;simp only[Rep]at h;subst h;have B:=oK (P:=P) (w:=w) (g:=g) (n:=0) (cap:=0) f C oO oO oO oO H z D E;refine⟨rfl,.slice none 0 0,?_,by grind [Rep]⟩;simp[Instr.sliceAt,Instr.slice,run_underlying S,B,U.sizeOf]
     grind
    .rename_i t' o n cs
     split at d
     .rename_i l j f C;simp only[ap]at d;subst d;obtain⟨I,O,Q,c4⟩:=R;simp only[Rep]at h;obtain⟨A,a,rfl,M,Z,ht',hk,hA,X⟩:=h;have B:=oK (P:=P) (w:=w) (g:=g) f C I O Q M H z D E;refine⟨rfl,.slice (if a=l.toNat then A else A.map (·.add (l.toNat*F.size))) (j.toNat-l.toNat) (a-l.toNat),?_,?_⟩
      .simp[Instr.sliceAt,Instr.slice,run_underlying S,B,U.sizeOf]
      .simp only[Rep];refine⟨_,_,rfl,oO,oO,ht',oO,fun c7=>?_,fun c7=>?_⟩
       .grind [add_lit]
       .have hlh:j.toNat-l.toNat≠0:=fun Y=>by grind
        have N5:cs≠[]:=by rintro rfl;simp at c7
        obtain⟨b,o',hAb,W⟩:=X N5;rw[ac oO,hAb,c4];refine⟨b,o'+l.toNat,by grind [add_lit],pZ _ _ _ (gK _ _ _ W)⟩
     grind
    .split at d
     .rename_i q n cs hs
      split at d
      .rename_i l j f C;simp only[ap]at d;subst d;obtain⟨I,O,Q⟩:=R;have h':=pM hs h;simp only[Rep]at h';obtain⟨A,a,rfl,M,Z,_,X⟩:=h';have B:=oK (P:=P) (w:=w) (g:=g) f C I O Q M H z D E;refine⟨rfl,.slice (if a=l.toNat then A else A.map (·.add (l.toNat*F.size))) (j.toNat-l.toNat) (a-l.toNat),?_,?_⟩
       .simp[Instr.sliceAt,Instr.slice,run_underlying S,B,U.sizeOf]
       .simp only[Rep];refine⟨_,_,rfl,oO,⟨oO,fun hA0=>?_⟩,fun e0=>absurd rfl e0,fun c7=>?_⟩
        .have hA1:A=none:=by
          split at hA0
          .omega
          .simp_all
         grind
        have dF:l.toNat<j.toNat:=by
         rcases dC l.toNat j.toNat with Y|Y
         .omega
         .simp_all
        have N5:cs≠[]:=by rintro rfl;simp at c7
        obtain⟨b,o,rfl,W⟩:=X N5;refine⟨b,o+l.toNat*F.size,?_,?_⟩
        .grind [add_lit]
        .exact pZ _ _ _ (gK _ _ _ W)
      grind
     grind
   .rename_i k m
    split at d
    .rename_i k' j p hs;simp only[ap]at d;subst d;obtain⟨rfl,rfl⟩:=R;obtain⟨q,n,cs⟩:=p;have h':=pM hs h;simp only[Rep]at h';obtain⟨A,a,rfl,M,Z,_,_⟩:=h';obtain⟨u,rfl,hu⟩:=D _ rfl;obtain⟨u',rfl,hu'⟩:=V _ rfl;simp only[Rep]at hu hu';subst hu hu';obtain rfl:=z rfl;refine⟨rfl,.slice A 0 0,?_,by grind [Rep]⟩;simp[Instr.sliceAt,Instr.slice,run_underlying S,Instr.sliceBounds,Instr.sliceBound,asIntOf,U.sizeOf]
    .rename_i kl N kh j hsl
     split at d
     .rename_i b o n;simp only[ap]at d;subst d;obtain⟨I,O,Q,c4⟩:=R;simp only[Rep]at h;obtain⟨A,a,rfl,M,Z,Y,hA,hb⟩:=h;obtain⟨u1,rfl,J⟩:=H _ rfl;obtain⟨u2,rfl,K⟩:=D _ rfl;obtain⟨u3,rfl,L⟩:=V _ rfl;simp only[Rep]at J K L;subst J K L;have e1:m<=(a:Int):=oO;have e2:(0:Int)<=m:=oO;have e3:(0:Int)<=j:=oO;refine⟨rfl,.slice (if m.toNat=N.toNat then A else A.map (·.add (N.toNat*F.size))) (j.toNat-N.toNat) (m.toNat-N.toNat),?_,by grind [Rep]⟩;have e4:j<=max m 0:=oO;have e5:N<=max j 0:=oO;simp[Instr.sliceAt,Instr.slice,run_underlying S,Instr.sliceBounds,Instr.sliceBound,asIntOf,U.sizeOf,e1,e2,e3,I]
      grind
     .rename_i b n a;simp only[ap]at d;subst d;obtain⟨I,O,Q,c4⟩:=R;simp only[Rep]at h;obtain⟨A,rfl,M,Z,_⟩:=h;obtain⟨u1,rfl,J⟩:=H _ rfl;obtain⟨u2,rfl,K⟩:=D _ rfl;obtain⟨u3,rfl,L⟩:=V _ rfl;simp only[Rep]at J K L;subst J K L;have e1:m<=(a:Int):=oO;have e2:(0:Int)<=m:=oO;have e3:(0:Int)<=j:=oO;refine⟨rfl,.slice (if m.toNat=N.toNat then A else A.map (·.add (N.toNat*F.size))) (j.toNat-N.toNat) (m.toNat-N.toNat),?_,by grind [Rep]⟩;have e4:j<=max m 0:=oO;have e5:N<=max j 0:=oO;simp[Instr.sliceAt,Instr.slice,run_underlying S,Instr.sliceBounds,Instr.sliceBound,asIntOf,U.sizeOf,e1,e2,e3,I]
      grind
     grind
    grind
   grind
  grind
 grind
theorem qW{x:LV}{v:Value}{a:List LV}(j:dW x=some a)(h:Rep w g x v):aC w g a v.cells.toList:=by
 have b:∀ d:LV,a=[d]->Rep w g d v->(∀ cells,v≠.agg cells)->aC w g a v.cells.toList:=by
  intro d k m p;subst k;have:v.cells=#[v]:=by cases v<;>first|rfl|grind
  rw[this];simp only[aC];exact⟨v,[],rfl,m,rfl⟩
 cases x with
 |ag cs'=>
  grind [dW,Rep,Value.cells]
 |dead=>grind [dW]
 |tu vs=>grind [dW]
 |nil=>
  grind [dW,Rep]
 |emp=>
  grind [dW,Rep]
 |ms l o n=>
  grind [dW,Rep]
 |atom y=>have e:=h;simp only[Rep]at e;subst e;cases v<;>simp only[dW,ap]at j<;>first|exact b _ j.symm h (by simp)|grind
 |sl q n cs'=>
  grind [dW,Rep]
 |pt l o=>
  grind [dW,Rep]
 |ep cs'=>
  grind [dW,Rep]
 |mp l=>
  grind [dW,Rep]
 |fn f IQ=>
  grind [dW,Rep]
 |qu t o n cs'=>
  grind [dW,Rep]
 |pe l cs'=>
  grind [dW,Rep]
 |kap l n c=>
  grind [dW,Rep]
theorem My{x:LV}{v:Value}(e:jP x=true)(h:Rep w g x v):v.oneCell'=true:=by
 cases x with
 |ag cs=>grind [jP]
 |dead=>grind [jP]
 |tu d=>grind [jP]
 |nil=>simp only[Rep]at h;subst h;rfl
 |emp=>simp only[Rep]at h;obtain⟨A,rfl⟩:=h;rfl
 |ms l o n=>simp only[Rep]at h;obtain⟨A,a,rfl,_⟩:=h;rfl
 |atom y=>simp only[Rep]at h;subst h;cases v<;>first|rfl|grind [jP]
 |sl q n cs=>simp only[Rep]at h;obtain⟨A,a,rfl,_⟩:=h;rfl
 |pt l o=>simp only[Rep]at h;rw[h.1];rfl
 |ep cs=>simp only[Rep]at h;obtain⟨b,o,rfl,_⟩:=h;rfl
 |mp l=>simp only[Rep]at h;rw[h.1];rfl
 |fn f IQ=>simp only[Rep]at h;obtain⟨d,rfl,_⟩:=h;rfl
 |qu t o n cs=>simp only[Rep]at h;obtain⟨A,a,rfl,_⟩:=h;rfl
 |pe l cs=>simp only[Rep]at h;rw[h.1];rfl
 |kap l n c=>simp only[Rep]at h;obtain⟨A,rfl,_⟩:=h;rfl
theorem oM:∀(a:List LV) (b:List Value),a.all jP=true->aC w g a b->∀ u∈b,u.oneCell'=true
 |[],b,_,h=>by grind [aC]
 |c::a,b,ha,h=>by
  simp only[aC]at h;obtain⟨v,e,rfl,j,f⟩:=h;simp only[List.all_cons,fw]at ha;intro u d;rcases ah.1 d with rfl|d
  .grind [My]
  .exact oM a e ha.2 f u d
theorem Bq(b:Inv w g st){l:Nat}{o:cK}(h:st.H l=o)(c:o≠.dead):l<st.z:=by
 rcases dC l st.z with a|a
 .omega
 .rw[b.fresh l a]at h;grind
theorem BZ(h:Inv w g st){l o e s:Nat}{a ds:List LV}{us:List Value}(d:st.H l=.box e s a)(k:g.nl l=false)(x:o+ds.length<=a.length)(t:aC w g ds us)(n:∀ u∈us,u.oneCell'=true):
 ∃ c,(storeCells ⟨g.β l,o,none⟩ us 0).run P w=.ok () c/\Inv c g (st.set l (.box e s (a.take o++ds++a.drop (o+ds.length))))/\Ext w g c g:=by
 obtain⟨_,y,q⟩:=h.box l e s a d;have j:=aM _ _ t;obtain⟨b,r,z,A,B,C⟩:=q k;have m:=run_storeCells_at P (g.β l) o e us 0 b.toArray w r (by grind) n;simp only[Nat.add_zero]at m
 have f:=yI (cs':=a.take o++ds++a.drop (o+ds.length)) (vs':=b.take o++us++b.drop (o+us.length)) h d k (by
  grind) (by grind) (by
  have p:(a.take o++ds++a.drop (o+ds.length)).length=a.length:=by simp only[cf,dn,gk];omega
  have v:(b.take o++us++b.drop (o+us.length)).take a.length=(b.take a.length).take o++us++(b.take a.length).drop (o+us.length):=by
   rw[qw,qw,rh,rh,List.drop_take];simp only[cf,dn];rw[show min a.length o=o by omega,show min o a.length=o by omega];rw[dp (l:=us) oO]
   congr 2
   omega
  grind [cI,fP,iV])
 grind
theorem Ge(J:aZ P T)(z:Inv w g st){t:TypeId}{x y:LV}{v u:Value}{r:bS}(j:Fc T t x y st=some r)(K:r.c)(h:Rep w g x v)(M:Rep w g y u):
 r.v=.dead/\∃ f,(Instr.storeAt t v u).run P w=.ok () f/\Inv f g r.s/\Ext w g f g:=by
 unfold Fc at j
 split at j
 .rename_i d l o I L C;cases k:st.H l with
  |box e s cs=>
   simp only[k,ap]at j;subst j;obtain⟨D,E,F⟩:=K;simp only[Rep]at h;obtain⟨rfl,Q⟩:=h;have A:=J t d L;have p:=qW C M;have b:=aM _ _ p;have q:u.cells.size=d.size:=by rw[<- D,b];simp
   obtain⟨_,N,R⟩:=z.box l e s cs k;cases B:g.nl l with
   |true=>
    obtain⟨_,rfl⟩:=N B;have m:I=[]:=gI (by grind);subst m;have n:u.cells.toList=[]:=gI b.symm;refine⟨rfl,w,?_,?_,Ext.refl w g⟩
    .simp[Instr.storeAt,Instr.sureAddr,storeVar,A.sizeOf,q,n,storeCells]
    .have:st.set l (.box e s (([]:List LV).take o++[]++([]:List LV).drop (o+([]:List LV).length)))=st:=by
      cases st with
      |mk nx H=>
       simp only[St.set,List.take_nil,eP,List.drop_nil]
       congr 1
       grind
     grind
   |false=>obtain⟨f,O,a⟩:=BZ (P:=P) z k B E p (oM _ _ F p);refine⟨rfl,f,?_,a.1,a.2⟩;simp[Instr.storeAt,Instr.sureAddr,storeVar,A.sizeOf,q];omega
  |_=>grind
 grind
theorem yP(y:aZ P T){t:TypeId}{x:LV}{v:Value}{f:Nat}{r:bS}(a:lN T t x f st=some r)(H:r.c)(h:Rep w g x v):
 r.s=st/\∃ u,(Instr.fieldAt t v f).run P w=.ok u w/\Rep w g r.v u:=by
 unfold lN at a
 split at a
 .rename_i E B
  split at a
  .rename_i off D hf
   split at a
   .rename_i q C;obtain⟨F,n,A⟩:=tJ y B;have j:∃ d,F[f]?=some d/\d.offset=off/\d.type=D:=by rw[<- A]at hf;simp only[nk,jp]at hf;obtain⟨d,k,m⟩:=hf;simp only[fx]at m;exact⟨d,by grind,m.1,m.2⟩
    obtain⟨d,k,rfl,rfl⟩:=j;have p:=y _ q C
    split at a
    .rename_i l o;simp only[ap]at a;subst a;simp only[Rep]at h;obtain⟨rfl,I⟩:=h;refine⟨rfl,.pointer (some ⟨g.β l,o+d.offset,none⟩),?_,by grind [Rep]⟩;simp[Instr.fieldAt,run_underlying n,k,Instr.sureAddr,fieldPlace,p.sizeOf,add_lit];omega
    .rename_i z;simp only[ap]at a;subst a;simp only[Rep]at h;obtain⟨b,o,rfl,e⟩:=h;refine⟨rfl,.pointer (some ⟨b,o+d.offset,none⟩),?_,by simp only[Rep];exact⟨b,_,rfl,gK _ _ _ e⟩⟩;simp[Instr.fieldAt,run_underlying n,k,Instr.sureAddr,fieldPlace,p.sizeOf,add_lit];omega
    .rename_i l z;simp only[ap]at a;subst a;simp only[Rep]at h;obtain⟨rfl,_,e⟩:=h;refine⟨rfl,.pointer (some ⟨g.β l,0+d.offset,none⟩),?_,by simp only[Rep];exact⟨_,_,rfl,gK _ _ _ e⟩⟩;simp[Instr.fieldAt,run_underlying n,k,Instr.sureAddr,fieldPlace,p.sizeOf,add_lit];omega
    grind
   grind
  grind
 grind
theorem HR(q:aZ P T){t:TypeId}{x:LV}{v:Value}{f:Nat}{r:bS}(b:Bj T t x f st=some r)(D:r.c)(h:Rep w g x v):
 r.s=st/\∃ u,(Instr.field t v f).run P w=.ok u w/\Rep w g r.v u:=by
 unfold Bj at b
 split at b
 .rename_i K l E
  split at b
  .rename_i off J hf
   split at b
   .rename_i d I;obtain⟨F,y,C⟩:=tJ q E;have j:∃ a,F[f]?=some a/\a.offset=off/\a.type=J:=by rw[<- C]at hf;simp only[nk,jp]at hf;obtain⟨a,m,n⟩:=hf;simp only[fx]at n;exact⟨a,by grind,n.1,n.2⟩
    obtain⟨a,m,rfl,rfl⟩:=j;have o:=q _ d I;simp only[Rep]at h;obtain⟨B,rfl,z⟩:=h;cases k:d.agg with
    |true=>simp only[k,dE,ap]at b;subst b;refine⟨rfl,.agg ((B.drop a.offset).take d.size).toArray,?_,by grind [Rep,fP,iV]⟩;simp[Instr.field,run_underlying y,m,part,asAgg,o.agg,k,o.sizeOf]
    |false=>
     simp only[k,iv,gx,ap]at b;subst b;have A:=aM _ _ z;have e:a.offset<l.length:=D;obtain⟨u,H,p⟩:=vE a.offset l B l[a.offset] z (cg e);refine⟨rfl,u,?_,?_⟩
     .simp[Instr.field,run_underlying y,m,part,asAgg,o.agg,k,H]
     .rw[ir e];exact p
   grind
  grind
 grind
theorem NG(e:Inv w g st){t:TypeId}{x:LV}{v:Value}{r:bS}(d:Vj t x st=some r)(h:Rep w g x v):
 ∃ u b c,(Instr.box t v).run P w=.ok u b/\Rep b c r.v u/\Inv b c r.s/\Ext w g b c:=by
 unfold Vj at d;cases f:dW x with
 |none=>grind
 |some j=>
  simp only[f,ap]at d;subst d;have m:=qW f h;have a:=aM _ _ m;have k:=uV e t j.length 1 oO (by simp[maxLen]) (tn a) (by grind);have l:=dN w g (.cells v.cells.toList.toArray t) 0 1 false;refine⟨.pointer (some ⟨w.heap.size,0,none⟩),_,_,?_,?_,k,l⟩
  .simp[Instr.box,newVar,newRow]
  .simp only[Rep];simp[G.add,e.z]
theorem dR{t:Nat}{c:bI}(h:bD P t c):c.zeroV.cells=c.zero.toArray:=by
 have d:∀ v∈c.zero,v.oneCell'=true:=by simpa using h.zone
 unfold bI.zeroV;cases e:c.agg with
 |true=>rfl
 |false=>
  have f:=h.one e;have j:=h.zl
  match k:c.zero with
  |[]=>grind
  |[z]=>have:=d z (by grind);cases z<;>first|rfl|grind [Value.oneCell']
  |a::b::l=>grind
end
end Aw
end Go.Proofs.YtbgngpdonpeboaaGreatDoor
