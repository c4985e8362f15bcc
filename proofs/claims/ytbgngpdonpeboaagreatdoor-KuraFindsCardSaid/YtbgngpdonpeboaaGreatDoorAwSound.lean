/- Lemmas. -/
import Derived.Test.YtbgngpdonpeboaaGreatDoorAwOps
set_option linter.defProp false
namespace Go.Proofs.YtbgngpdonpeboaaGreatDoor
namespace Aw
open Go Go.RowKit
section
variable {P:Program} {T:bg} {w:World} {g:G} {st:St}
theorem sQ{x:LV}{v:Value}{q n:Nat}{b:QQ}(a:AP x=some (q,n,b))(h:Rep w g x v):Rep w g (.sl q n b) v:=by
 cases x with
 |sl q' n' cs'=>
  grind [AP]
 |nil=>simp only[AP,ap,fj]at a;obtain⟨rfl,rfl,rfl⟩:=a;exact Cq h
 |emp=>
  grind [AP,Rep]
 |qu t o n' cs'=>
  grind [AP,Rep]
 |_=>simp[AP]at a
theorem NZ(m:Inv w g st){x:LV}{v:Value}{c:QQ}(a:fW st x=some c)(h:Rep w g x v):
 ∃ b o k,v=.pointer (some ⟨b,o,none⟩)/\aG w g c k/\∀ j,j<c.length->w.cell? ⟨b,o+j,none⟩=k[j]?:=by
 cases x with
 |ep cs'=>
  grind [fW,Rep,iO]
 |pe l cs'=>
  grind [fW,Rep,iO]
 |pt l o=>
  simp only[fW]at a;cases d:st.H l with
  |box e s cs'=>
   simp only[d,ap]at a;subst a;simp only[Rep]at h;obtain⟨rfl,_⟩:=h;obtain⟨_,p,n⟩:=m.box l e s cs' d;cases f:g.nl l with
   |true=>obtain⟨_,rfl⟩:=p f;exact⟨g.β l,o,[],rfl,by grind [aG],Y⟩
   |false=>
    obtain⟨r,q,y,z,k5,_⟩:=n f;refine⟨g.β l,o,(r.take cs'.length).drop o,rfl,kF _ _ _ k5,fun j t=>?_⟩;rw[cell_of_row w _ _ _ _ _ q]
    grind
  |_=>grind
 |_=>simp[fW]at a
theorem Br{b o:Nat}{a:QQ}{c:List Value}(f:aG w g a c)(d:∀ j,j<a.length->w.cell? ⟨b,o+j,none⟩=c[j]?)(n:Nat)(e:n<=a.length):
 (loadCells ⟨b,o,none⟩ n).run P w=.ok (c.take n).toArray w:=by
 grind [aO,run_loadCells_list,add_lit,List.length_take]
theorem CE(y:bE P T)(A:Inv w g st){t:TypeId}{x:LV}{v:Value}{r:bV}(d:Ce T t x st=some r)(z:r.c)(h:Rep w g x v):
 r.s=st/\∃ u,(Instr.loadAt t v).run P w=.ok u w/\Rep w g r.v u:=by
 unfold Ce at d;cases q:T t with
 |none=>grind
 |some a=>
  cases p:fW st x with
  |none=>grind
  |some k=>
   simp only[q,p]at d;obtain⟨b,o,C,rfl,e,m⟩:=NZ A p h;have j:=y t a q;have n:=aO _ _ e;cases f:a.agg with
   |true=>
    simp only[f,ef,ap]at d;subst d;refine⟨rfl,.agg (C.take a.size).toArray,?_,?_⟩
    .simp[Instr.loadAt,Instr.sureAddr,loadVar,j.agg,f,j.sizeOf,Br (P:=P) e m a.size z]
    grind [Rep,gQ]
   |false=>
    simp only[f,ir,gI,ap]at d;subst d;cases k with
    |nil=>grind
    |cons c k=>simp only[aG]at e;obtain⟨u,us,rfl,B,D⟩:=e;have l:=m 0 Y;simp only[Nat.add_zero,List.getElem?_cons_zero]at l;refine⟨rfl,u,?_,B⟩;simp[Instr.loadAt,Instr.sureAddr,loadVar,j.agg,f,load,Sem.run,l]
theorem Qi(E:bE P T){t:TypeId}{x i:LV}{v J:Value}{r:bV}(a:Ue T t x i st=some r)(F:r.c)(h:Rep w g x v)(f:Rep w g i J):
 r.s=st/\∃ u,(Instr.indexAt t v J).run P w=.ok u w/\Rep w g r.v u:=by
 unfold Ue at a
 split at a
 .rename_i e k I Q;have H:P.underlying t=some (.slice e):=dL E Q;simp only[Rep]at f;subst f
  split at a
  .rename_i d B;have C:=E e d B
   split at a
   .rename_i l o n;simp only[ap]at a;subst a;obtain⟨j,m⟩:=F;simp only[Rep]at h;obtain⟨A,p,rfl,M,L,_,K,V⟩:=h;obtain rfl:=K O;refine⟨rfl,.pointer (some ⟨g.β l,o+I.toNat*d.size,none⟩),?_,by grind [Rep]⟩;simp[Instr.indexAt,asIntOf,run_underlying H,j,m,C.sizeOf,add_lit]
   .split at a
    .rename_i q n S N;simp only[ap]at a;subst a;obtain⟨j,m,R⟩:=F;have D:=sQ N h;simp only[Rep]at D;obtain⟨A,p,rfl,M,L,_,z⟩:=D;obtain⟨b,o,rfl,y⟩:=z (fun U=>by grind);refine⟨rfl,.pointer (some ⟨b,o+I.toNat*d.size,none⟩),?_,?_⟩
     .simp[Instr.indexAt,asIntOf,run_underlying H,j,m,C.sizeOf,add_lit]
     .simp only[Rep];exact⟨b,_,rfl,iR _ _ _ y⟩
    grind
  grind
 grind
theorem Dn{y:Option LV}{a:Option Value}{d:Nat}{l:Int}(b:fO y d=some l)(h:∀ q,y=some q->∃ u,a=some u/\Rep w g q u)(c:y=none->a=none):
 (a=none/\l=(d:Int))\/∃ k,a=some (.int k l):=by
 cases y with
 |none=>
  grind [fO]
 |some q=>
  obtain⟨u,rfl,e⟩:=h q rfl;right;unfold fO at b
  split at b
  .grind
  .grind [Rep]
  grind
theorem Ar{n a:Nat}{p j:Option LV}{d c:Option Value}{l b:Int}(o:fO p 0=some l)(m:fO j n=some b)(q:0<=l)(t:l<=b)(x:b<=a)(y:n<=a)
 (k:∀ l,p=some l->∃ u,d=some u/\Rep w g l u) (f:p=none->d=none) (h:∀ l,j=some l->∃ u,c=some u/\Rep w g l u) (e:j=none->c=none):
 (Instr.sliceBounds true n a d c none).run P w=.ok (l.toNat,b.toNat,a) w:=by
 have r:b<=(a:Int):=O;have s:0<=b:=O;rcases Dn o k f with⟨rfl,rfl⟩|⟨A,rfl⟩<;>rcases Dn m h e with⟨rfl,rfl⟩|⟨z,rfl⟩
 .simp[Instr.sliceBounds]
 .simp[Instr.sliceBounds,Instr.sliceBound,asIntOf,r,s]
 .have v:l.toNat<=n:=O;simp[Instr.sliceBounds,Instr.sliceBound,asIntOf,q,t]
 .have v:l<=((b.toNat:Nat):Int):=O;simp[Instr.sliceBounds,Instr.sliceBound,asIntOf,q,r,s];omega
theorem rP{n cap:Nat}{o h:Option LV}{b a:Option Value}{l e:Int}(m:fO o 0=some l)(k:fO h n=some e)(p:0<=l)(q:l<=e)(s:e<=n)(r:n<=cap)
 (j:∀ l,o=some l->∃ u,b=some u/\Rep w g l u) (d:o=none->b=none) (f:∀ l,h=some l->∃ u,a=some u/\Rep w g l u) (c:h=none->a=none):
 (Instr.sliceBounds true n cap b a none).run P w=.ok (l.toNat,e.toNat,cap) w:=
 Ar m k p q O r j d f c
theorem KD(hT:bE P T){t:TypeId}{x:LV}{lo hi mx:Option LV}{v:Value}{vlo vhi vmx:Option Value}{r:bV}(d:Cx T t x lo hi mx st=some r)(U:r.c)(h:Rep w g x v)
 (H:∀ l,lo=some l->∃ u,vlo=some u/\Rep w g l u) (z:lo=none->vlo=none) (D:∀ l,hi=some l->∃ u,vhi=some u/\Rep w g l u) (E:hi=none->vhi=none)
 (X:∀ l,mx=some l->∃ u,vmx=some u/\Rep w g l u) (hmx0:mx=none->vmx=none):
 r.s=st/\∃ u,(Instr.sliceAt t v vlo vhi vmx).run P w=.ok u w/\Rep w g r.v u:=by
 unfold Cx at d
 split at d
 .rename_i e ht;have V:P.underlying t=some (.slice e):=dL hT ht
  split at d
  .rename_i F hte;have S:=hT e F hte
   split at d
   .obtain rfl:=hmx0 rfl
    split at d
    .rename_i b o n
     split at d
     .rename_i l j f C;simp only[ap]at d;subst d;obtain⟨I,Q,R,c4⟩:=U;simp only[Rep]at h;obtain⟨A,a,rfl,M,hm,h0,hA,hb⟩:=h;have B:=rP (P:=P) (w:=w) (g:=g) f C I Q R M H z D E;refine⟨rfl,.slice (if a=l.toNat then A else A.map (·.add (l.toNat*F.size))) (j.toNat-l.toNat) (a-l.toNat),?_,?_⟩
      .simp[Instr.sliceAt,Instr.slice,run_underlying V,B,S.sizeOf]
      .simp only[Rep]
       grind [Nat.mul_eq_zero,add_lit]
     grind
    .rename_i b n c
     split at d
     .rename_i l j f C;simp only[ap]at d;subst d;obtain⟨I,Q,R,c4⟩:=U;simp only[Rep]at h;obtain⟨A,rfl,M,hm,hk,hb,hA,v8⟩:=h;have B:=Ar (P:=P) (w:=w) (g:=g) f C I Q R M H z D E;refine⟨rfl,.slice (if c=l.toNat then A else A.map (·.add (l.toNat*F.size))) (j.toNat-l.toNat) (c-l.toNat),?_,?_⟩
      .simp[Instr.sliceAt,Instr.slice,run_underlying V,B,S.sizeOf]
      .cases lo with
       |none=>
        simp only[fO,ap]at f;subst f
        grind [Rep,Addr.add]
       |some y=>
        simp only[Option.isNone_some,ir,gI,Rep];refine⟨_,_,rfl,O,O,fun ho=>?_,fun Tv=>?_,hb⟩
        .grind [Nat.mul_eq_zero,Addr.add]
        .have h0:g.nl b=false:=by
          cases h0:g.nl b with
          |false=>rfl
          |true=>grind
         grind [add_lit]
     grind
    .split at d
     .rename_i l j f C;simp only[ap]at d;subst d;obtain⟨rfl,rfl⟩:=U;simp only[Rep]at h;subst h;have B:=rP (P:=P) (w:=w) (g:=g) (n:=0) (cap:=0) f C O O O O H z D E;refine⟨rfl,.slice none 0 0,?_,by grind [Rep]⟩;simp[Instr.sliceAt,Instr.slice,run_underlying V,B,S.sizeOf]
     grind
    .rename_i t' o n cs
     split at d
     .rename_i l j f C;simp only[ap]at d;subst d;obtain⟨I,Q,R,c4⟩:=U;simp only[Rep]at h;obtain⟨A,a,rfl,M,hm,ht',hk,hA,hrw⟩:=h;have B:=rP (P:=P) (w:=w) (g:=g) f C I Q R M H z D E;refine⟨rfl,.slice (if a=l.toNat then A else A.map (·.add (l.toNat*F.size))) (j.toNat-l.toNat) (a-l.toNat),?_,?_⟩
      .simp[Instr.sliceAt,Instr.slice,run_underlying V,B,S.sizeOf]
      .simp only[Rep];refine⟨_,_,rfl,O,O,ht',O,fun Tv=>?_,fun Tv=>?_⟩
       .grind [add_lit]
       .have hlh:j.toNat-l.toNat≠0:=fun h0=>by grind
        have W:cs≠[]:=by rintro rfl;simp at Tv
        obtain⟨b,o',hAb,hrr⟩:=hrw W;rw[aa O,hAb,c4];refine⟨b,o'+l.toNat,by grind [add_lit],uE _ _ _ (iR _ _ _ hrr)⟩
     grind
    .split at d
     .rename_i q n cs hs
      split at d
      .rename_i l j f C;simp only[ap]at d;subst d;obtain⟨I,Q,R⟩:=U;have h':=sQ hs h;simp only[Rep]at h';obtain⟨A,a,rfl,M,hm,_,hrw⟩:=h';have B:=rP (P:=P) (w:=w) (g:=g) f C I Q R M H z D E;refine⟨rfl,.slice (if a=l.toNat then A else A.map (·.add (l.toNat*F.size))) (j.toNat-l.toNat) (a-l.toNat),?_,?_⟩
       .simp[Instr.sliceAt,Instr.slice,run_underlying V,B,S.sizeOf]
       .simp only[Rep];refine⟨_,_,rfl,O,⟨O,fun hA0=>?_⟩,fun e0=>absurd rfl e0,fun Tv=>?_⟩
        .have hA1:A=none:=by
          split at hA0
          .omega
          .simp_all
         grind
        have dS:l.toNat<j.toNat:=by
         rcases ec l.toNat j.toNat with h0|h0
         .omega
         .simp_all
        have W:cs≠[]:=by rintro rfl;simp at Tv
        obtain⟨b,o,rfl,hrr⟩:=hrw W;refine⟨b,o+l.toNat*F.size,?_,?_⟩
        .grind [add_lit]
        .exact uE _ _ _ (iR _ _ _ hrr)
      grind
     grind
   .rename_i k m
    split at d
    .rename_i k' j p hs;simp only[ap]at d;subst d;obtain⟨rfl,rfl⟩:=U;obtain⟨q,n,cs⟩:=p;have h':=sQ hs h;simp only[Rep]at h';obtain⟨A,a,rfl,M,hm,_,_⟩:=h';obtain⟨u,rfl,hu⟩:=D _ rfl;obtain⟨u',rfl,hu'⟩:=X _ rfl;simp only[Rep]at hu hu';subst hu hu';obtain rfl:=z rfl;refine⟨rfl,.slice A 0 0,?_,by grind [Rep]⟩;simp[Instr.sliceAt,Instr.slice,run_underlying V,Instr.sliceBounds,Instr.sliceBound,asIntOf,S.sizeOf]
    .rename_i kl N kh j hsl
     split at d
     .rename_i b o n;simp only[ap]at d;subst d;obtain⟨I,Q,R,c4⟩:=U;simp only[Rep]at h;obtain⟨A,a,rfl,M,hm,h0,hA,hb⟩:=h;obtain⟨u1,rfl,J⟩:=H _ rfl;obtain⟨u2,rfl,K⟩:=D _ rfl;obtain⟨u3,rfl,L⟩:=X _ rfl;simp only[Rep]at J K L;subst J K L;have e1:m<=(a:Int):=O;have e2:(0:Int)<=m:=O;have e3:(0:Int)<=j:=O;refine⟨rfl,.slice (if m.toNat=N.toNat then A else A.map (·.add (N.toNat*F.size))) (j.toNat-N.toNat) (m.toNat-N.toNat),?_,by grind [Rep]⟩;have e4:j<=max m 0:=O;have e5:N<=max j 0:=O;simp[Instr.sliceAt,Instr.slice,run_underlying V,Instr.sliceBounds,Instr.sliceBound,asIntOf,S.sizeOf,e1,e2,e3,I]
      grind
     .rename_i b n a;simp only[ap]at d;subst d;obtain⟨I,Q,R,c4⟩:=U;simp only[Rep]at h;obtain⟨A,rfl,M,hm,_⟩:=h;obtain⟨u1,rfl,J⟩:=H _ rfl;obtain⟨u2,rfl,K⟩:=D _ rfl;obtain⟨u3,rfl,L⟩:=X _ rfl;simp only[Rep]at J K L;subst J K L;have e1:m<=(a:Int):=O;have e2:(0:Int)<=m:=O;have e3:(0:Int)<=j:=O;refine⟨rfl,.slice (if m.toNat=N.toNat then A else A.map (·.add (N.toNat*F.size))) (j.toNat-N.toNat) (m.toNat-N.toNat),?_,by grind [Rep]⟩;have e4:j<=max m 0:=O;have e5:N<=max j 0:=O;simp[Instr.sliceAt,Instr.slice,run_underlying V,Instr.sliceBounds,Instr.sliceBound,asIntOf,S.sizeOf,e1,e2,e3,I]
      grind
     grind
    grind
   grind
  grind
 grind
theorem tL{x:LV}{v:Value}{a:QQ}(j:eS x=some a)(h:Rep w g x v):aG w g a v.cells.toList:=by
 have b:∀ d:LV,a=[d]->Rep w g d v->(∀ cells,v≠.agg cells)->aG w g a v.cells.toList:=by
  intro d k m p;subst k;have:v.cells=#[v]:=by cases v<;>first|rfl|grind
  rw[this];simp only[aG];exact⟨v,[],rfl,m,rfl⟩
 cases x with
 |ag cs'=>
  grind [eS,Rep,Value.cells]
 |dead=>grind [eS]
 |tu vs=>grind [eS]
 |nil=>
  grind [eS,Rep]
 |emp=>
  grind [eS,Rep]
 |ms l o n=>
  grind [eS,Rep]
 |atom y=>have e:=h;simp only[Rep]at e;subst e;cases v<;>simp only[eS,ap]at j<;>first|exact b _ j.symm h (by simp)|grind
 |sl q n cs'=>
  grind [eS,Rep]
 |pt l o=>
  grind [eS,Rep]
 |ep cs'=>
  grind [eS,Rep]
 |mp l=>
  grind [eS,Rep]
 |fn f Kz=>
  grind [eS,Rep]
 |qu t o n cs'=>
  grind [eS,Rep]
 |pe l cs'=>
  grind [eS,Rep]
 |kap l n c=>
  grind [eS,Rep]
theorem PG{x:LV}{v:Value}(e:kQ x=true)(h:Rep w g x v):v.oneCell'=true:=by
 cases x with
 |ag cs=>grind [kQ]
 |dead=>grind [kQ]
 |tu d=>grind [kQ]
 |nil=>simp only[Rep]at h;subst h;rfl
 |emp=>simp only[Rep]at h;obtain⟨A,rfl⟩:=h;rfl
 |ms l o n=>simp only[Rep]at h;obtain⟨A,a,rfl,_⟩:=h;rfl
 |atom y=>simp only[Rep]at h;subst h;cases v<;>first|rfl|grind [kQ]
 |sl q n cs=>simp only[Rep]at h;obtain⟨A,a,rfl,_⟩:=h;rfl
 |pt l o=>simp only[Rep]at h;rw[h.1];rfl
 |ep cs=>simp only[Rep]at h;obtain⟨b,o,rfl,_⟩:=h;rfl
 |mp l=>simp only[Rep]at h;rw[h.1];rfl
 |fn f Kz=>simp only[Rep]at h;obtain⟨d,rfl,_⟩:=h;rfl
 |qu t o n cs=>simp only[Rep]at h;obtain⟨A,a,rfl,_⟩:=h;rfl
 |pe l cs=>simp only[Rep]at h;rw[h.1];rfl
 |kap l n c=>simp only[Rep]at h;obtain⟨A,rfl,_⟩:=h;rfl
theorem rF:∀(a:QQ) (b:List Value),a.all kQ=true->aG w g a b->∀ u∈b,u.oneCell'=true
 |[],b,_,h=>by grind [aG]
 |c::a,b,ha,h=>by
  simp only[aG]at h;obtain⟨v,e,rfl,j,f⟩:=h;simp only[List.all_cons,gg]at ha;intro u d;rcases ai.1 d with rfl|d
  .grind [PG]
  .exact rF a e ha.2 f u d
theorem EJ(b:Inv w g st){l:Nat}{o:cT}(h:st.H l=o)(c:o≠.dead):l<st.z:=by
 rcases ec l st.z with a|a
 .omega
 .rw[b.fresh l a]at h;grind
theorem CM(j:Inv w g st){l o e s:Nat}{a ds:QQ}{us:List Value}(h:st.H l=.box e s a)(m:g.nl l=false)(v:o+ds.length<=a.length)(t:aG w g ds us)(c:∀ u∈us,u.oneCell'=true):
 ∃ f,(storeCells ⟨g.β l,o,none⟩ us 0).run P w=.ok () f/\Inv f g (st.set l (.box e s (a.take o++ds++a.drop (o+ds.length))))/\Ext w g f g:=by
 obtain⟨_,x,q⟩:=j.box l e s a h;have k:=aO _ _ t;obtain⟨b,r,y,z,k5,A⟩:=q m;have d:=run_storeCells_at P (g.β l) o e us 0 b.toArray w r (by grind) c;simp only[Nat.add_zero]at d
 have B:=Ab (cs':=a.take o++ds++a.drop (o+ds.length)) (vs':=b.take o++us++b.drop (o+us.length)) j h m (by
  grind) (by grind) (by
  have n:(a.take o++ds++a.drop (o+ds.length)).length=a.length:=by simp only[cb,dj,gy];omega
  have p:(b.take o++us++b.drop (o+us.length)).take a.length=(b.take a.length).take o++us++(b.take a.length).drop (o+us.length):=by
   rw[tn,tn,tK,tK,List.drop_take];simp only[cb,dj];rw[show min a.length o=o by omega,show min o a.length=o by omega];rw[ej (l:=us) O]
   congr 2
   omega
  grind [cR,gQ,kF])
 grind
theorem KR(J:bE P T)(A:Inv w g st){t:TypeId}{x y:LV}{v u:Value}{r:bV}(j:HZ T t x y st=some r)(K:r.c)(h:Rep w g x v)(N:Rep w g y u):
 r.v=.dead/\∃ f,(Instr.storeAt t v u).run P w=.ok () f/\Inv f g r.s/\Ext w g f g:=by
 unfold HZ at j
 split at j
 .rename_i d l o I M n;cases k:st.H l with
  |box e s cs=>
   simp only[k,ap]at j;subst j;obtain⟨D,E,F⟩:=K;simp only[Rep]at h;obtain⟨rfl,R⟩:=h;have z:=J t d M;have q:=tL n N;have a:=aO _ _ q;have b:u.cells.size=d.size:=by rw[<- D,a];simp
   obtain⟨_,Q,S⟩:=A.box l e s cs k;cases B:g.nl l with
   |true=>
    obtain⟨_,rfl⟩:=Q B;have m:I=[]:=jc (by grind);subst m;have p:u.cells.toList=[]:=jc a.symm;refine⟨rfl,w,?_,?_,Ext.refl w g⟩
    .simp[Instr.storeAt,Instr.sureAddr,storeVar,z.sizeOf,b,p,storeCells]
    .have:st.set l (.box e s (([]:QQ).take o++[]++([]:QQ).drop (o+([]:QQ).length)))=st:=by
      cases st with
      |mk nx H=>
       simp only[St.set,List.take_nil,dT,List.drop_nil]
       congr 1
       grind
     grind
   |false=>obtain⟨f,L,C⟩:=CM (P:=P) A k B E q (rF _ _ F q);refine⟨rfl,f,?_,C.1,C.2⟩;simp[Instr.storeAt,Instr.sureAddr,storeVar,z.sizeOf,b];omega
  |_=>grind
 grind
theorem BG(y:bE P T){t:TypeId}{x:LV}{v:Value}{f:Nat}{r:bV}(a:mC T t x f st=some r)(H:r.c)(h:Rep w g x v):
 r.s=st/\∃ u,(Instr.fieldAt t v f).run P w=.ok u w/\Rep w g r.v u:=by
 unfold mC at a
 split at a
 .rename_i E C
  split at a
  .rename_i off D hf
   split at a
   .rename_i q z;obtain⟨F,n,B⟩:=wH y C;have j:∃ d,F[f]?=some d/\d.offset=off/\d.type=D:=by rw[<- B]at hf;simp only[ow,kj]at hf;obtain⟨d,k,m⟩:=hf;simp only[fj]at m;exact⟨d,by grind,m.1,m.2⟩
    obtain⟨d,k,rfl,rfl⟩:=j;have p:=y _ q z
    split at a
    .rename_i l o;simp only[ap]at a;subst a;simp only[Rep]at h;obtain⟨rfl,I⟩:=h;refine⟨rfl,.pointer (some ⟨g.β l,o+d.offset,none⟩),?_,by grind [Rep]⟩;simp[Instr.fieldAt,run_underlying n,k,Instr.sureAddr,fieldPlace,p.sizeOf,add_lit];omega
    .rename_i A;simp only[ap]at a;subst a;simp only[Rep]at h;obtain⟨b,o,rfl,e⟩:=h;refine⟨rfl,.pointer (some ⟨b,o+d.offset,none⟩),?_,by simp only[Rep];exact⟨b,_,rfl,iR _ _ _ e⟩⟩;simp[Instr.fieldAt,run_underlying n,k,Instr.sureAddr,fieldPlace,p.sizeOf,add_lit];omega
    .rename_i l A;simp only[ap]at a;subst a;simp only[Rep]at h;obtain⟨rfl,_,e⟩:=h;refine⟨rfl,.pointer (some ⟨g.β l,0+d.offset,none⟩),?_,by simp only[Rep];exact⟨_,_,rfl,iR _ _ _ e⟩⟩;simp[Instr.fieldAt,run_underlying n,k,Instr.sureAddr,fieldPlace,p.sizeOf,add_lit];omega
    grind
   grind
  grind
 grind
theorem JV(q:bE P T){t:TypeId}{x:LV}{v:Value}{f:Nat}{r:bV}(b:CF T t x f st=some r)(E:r.c)(h:Rep w g x v):
 r.s=st/\∃ u,(Instr.field t v f).run P w=.ok u w/\Rep w g r.v u:=by
 unfold CF at b
 split at b
 .rename_i K l H
  split at b
  .rename_i off J hf
   split at b
   .rename_i d C;obtain⟨F,y,D⟩:=wH q H;have j:∃ a,F[f]?=some a/\a.offset=off/\a.type=J:=by rw[<- D]at hf;simp only[ow,kj]at hf;obtain⟨a,m,n⟩:=hf;simp only[fj]at n;exact⟨a,by grind,n.1,n.2⟩
    obtain⟨a,m,rfl,rfl⟩:=j;have o:=q _ d C;simp only[Rep]at h;obtain⟨B,rfl,z⟩:=h;cases k:d.agg with
    |true=>simp only[k,ef,ap]at b;subst b;refine⟨rfl,.agg ((B.drop a.offset).take d.size).toArray,?_,by grind [Rep,gQ,kF]⟩;simp[Instr.field,run_underlying y,m,part,asAgg,o.agg,k,o.sizeOf]
    |false=>
     simp only[k,ir,gI,ap]at b;subst b;have A:=aO _ _ z;have e:a.offset<l.length:=E;obtain⟨u,I,p⟩:=wY a.offset l B l[a.offset] z (bu e);refine⟨rfl,u,?_,?_⟩
     .simp[Instr.field,run_underlying y,m,part,asAgg,o.agg,k,I]
     .rw[jm e];exact p
   grind
  grind
 grind
theorem PV(e:Inv w g st){t:TypeId}{x:LV}{v:Value}{r:bV}(d:Wu t x st=some r)(h:Rep w g x v):
 ∃ u b c,(Instr.box t v).run P w=.ok u b/\Rep b c r.v u/\Inv b c r.s/\Ext w g b c:=by
 unfold Wu at d;cases f:eS x with
 |none=>grind
 |some j=>
  simp only[f,ap]at d;subst d;have m:=tL f h;have a:=aO _ _ m;have k:=xQ e t j.length 1 O (by simp[maxLen]) (vq a) (by grind);have l:=dZ w g (.cells v.cells.toList.toArray t) 0 1 false;refine⟨.pointer (some ⟨w.heap.size,0,none⟩),_,_,?_,?_,k,l⟩
  .simp[Instr.box,newVar,newRow]
  .simp only[Rep];simp[G.add,e.z]
theorem eE{t:Nat}{c:bQ}(h:bJ P t c):c.zeroV.cells=c.zero.toArray:=by
 have d:∀ v∈c.zero,v.oneCell'=true:=by simpa using h.zone
 unfold bQ.zeroV;cases e:c.agg with
 |true=>rfl
 |false=>
  have f:=h.one e;have j:=h.zl
  match k:c.zero with
  |[]=>grind
  |[z]=>have:=d z (by grind);cases z<;>first|rfl|grind [Value.oneCell']
  |a::b::l=>grind
end
end Aw
end Go.Proofs.YtbgngpdonpeboaaGreatDoor
