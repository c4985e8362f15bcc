/- Plain: the search finds a way, if there is one. -/
import Derived.Test.YtempldclppogmaaGreatDoorJi
set_option linter.unusedVariables false
set_option linter.unusedSimpArgs false
set_option linter.unusedSectionVars false
namespace Go.Proofs.YtempldclppogmaaGreatDoor
namespace Aw
open Go Go.RowKit Pl Eu
abbrev kA(A:Led)(k:Nat):Int:=(A.getD k (0,0)).1
abbrev pA(A:Led)(k:Nat):Int:=(A.getD k (0,0)).2
theorem vK{A B:Led}{k:Nat}(h:k<A.length):(A++B).getD k (0,0)=A.getD k (0,0):=by rw[aAc,aAY h,<- aAc]
theorem OO{A:Led}{v:Int}(h:v∈A.map (·.1)):∃ k,k<A.length/\kA A k=v:=by obtain⟨p,hp,rfl⟩:=aAm.1 h;obtain⟨k,hk,rfl⟩:=aAy hp;exact⟨k,hk,by unfold kA;rw[aAc,aAd hk];rfl⟩
section
variable {near:Int->List Int} {may:Int->Bool} {Wn to:Int} {vs:List Int}
structure LA(near:Int->List Int)(may:Int->Bool)(Wn:Int)(A:Led):Prop where
 nd:(A.map (·.1)).Nodup
 pos:0<A.length
 hd:kA A 0=Wn
 par:∀ k,0<k->k<A.length->∃ j,j<k/\kA A j=pA A k/\kA A k∈near (pA A k)/\(pA A k=Wn\/may (pA A k)=true)
theorem LA.snoc{A:Led}(h:LA near may Wn A){w v:Int}(hw:w∉A.map (·.1))(hv:v∈A.map (·.1))(hn:w∈near v)(hm:v=Wn\/may v=true):LA near may Wn (A++[(w,v)]):=by
 refine⟨?_,sS,?_,fun k h0 hk=>?_⟩
 .rw[aAv,aAs];exact⟨h.nd,sS,fun a ha b hb e=>hw (by rw[List.map_singleton,aAl]at hb;have hb':b=w:=hb;rw[<- hb',<- e];exact ha)⟩
 .show((A++[(w,v)]).getD 0 (0,0)).1=Wn;rw[vK h.pos];exact h.hd
 .rw[aAh,List.length_singleton]at hk;by_cases hl:k<A.length
  .obtain⟨j,h1,h2,h3,h4⟩:=h.par k h0 hl;refine⟨j,h1,?_,?_,?_⟩
   .show((A++[(w,v)]).getD j (0,0)).1=((A++[(w,v)]).getD k (0,0)).2;rw[vK hl,vK oO];exact h2
   .show((A++[(w,v)]).getD k (0,0)).1∈near ((A++[(w,v)]).getD k (0,0)).2;rw[vK hl];exact h3
   .show((A++[(w,v)]).getD k (0,0)).2=Wn\/may ((A++[(w,v)]).getD k (0,0)).2=true;rw[vK hl];exact h4
  .have e:k=A.length:=oO;have g:(A++[(w,v)]).getD k (0,0)=(w,v):=by rw[e];simp
   obtain⟨j,hj,hjv⟩:=OO hv;refine⟨j,oO,?_,?_,?_⟩
   .show((A++[(w,v)]).getD j (0,0)).1=((A++[(w,v)]).getD k (0,0)).2;rw[vK hj,g];exact hjv
   .show((A++[(w,v)]).getD k (0,0)).1∈near ((A++[(w,v)]).getD k (0,0)).2;rw[g];exact hn
   .show((A++[(w,v)]).getD k (0,0)).2=Wn\/may ((A++[(w,v)]).getD k (0,0)).2=true;rw[g];exact hm
theorem Db{v:Int}(hm:v=Wn\/may v=true):∀(row:List Int) (A:Led) (Q:List Int),LA near may Wn A->v∈A.map (·.1)->to∉A.map (·.1)->(∀ u∈row,u∈near v)->
 ∃ D Q' hit,dG may to v ⟨A,Q,false⟩ row=⟨A++D,Q++Q',hit⟩/\LA near may Wn (A++D)/\(∀ p∈D,p.1∈row)/\(hit=true->to∈D.map (·.1))/\
  (hit=false->to∉(A++D).map (·.1)/\(∀ u∈row,u∈(A++D).map (·.1))/\(∀ u∈D.map (·.1),may u=true->u∈Q')/\(∀ q∈Q',q∈D.map (·.1)/\may q=true)/\Q'.length<=D.length)
 |[],A,Q,hA,_,ht,_=>⟨[],[],false,by simp[dG],by simpa using hA,sS,sS,by simpa using ht⟩
 |u::row,A,Q,hA,hv,ht,hr=>by
  have o9:∀ x∈row,x∈near v:=fun x hx=>hr x (aAk _ hx);have e0:dG may to v ⟨A,Q,false⟩ (u::row)=dG may to v (fT may to v ⟨A,Q,false⟩ u) row:=rfl;by_cases hu:u∈A.map (·.1)
  .have e1:fT may to v ⟨A,Q,false⟩ u=⟨A,Q,false⟩:=by simp only[fT];rw[aAa sS,aAe hu]
   obtain⟨D,Q',hit,h1,h2,h3,h4,h5⟩:=Db hm row A Q hA hv ht o9;refine⟨D,Q',hit,by rw[e0,e1];exact h1,h2,fun p hp=>aAk _ (h3 p hp),h4,fun h=>?_⟩;obtain⟨k1,k2,k3⟩:=h5 h;refine⟨k1,fun x hx=>?_,k3⟩;rcases aAf.1 hx with rfl|hx
   .rw[aAv];exact aAw _ hu
   .exact k2 x hx
  .have L9:=hA.snoc hu hv (hr u aAq) hm;by_cases hut:u=to
   .have e1:fT may to v ⟨A,Q,false⟩ u=⟨A++[(u,v)],Q,true⟩:=by simp only[fT];rw[aAa sS,aAa hu,aAe hut]
    refine⟨[(u,v)],[],true,?_,L9,sS,by simp[hut],sS⟩;rw[e0,e1,Ck _ _ _ rfl,aAP]
   .have e1:fT may to v ⟨A,Q,false⟩ u=⟨A++[(u,v)],if may u=true then Q++[u]else Q,false⟩:=by simp only[fT];rw[aAa sS,aAa hu,aAa hut]
    have e2:(if may u=true then Q++[u]else Q)=Q++if may u=true then [u]else []:=by split<;>simp
    obtain⟨D,Q',hit,h1,h2,h3,h4,h5⟩:=Db hm row (A++[(u,v)]) (Q++if may u=true then [u]else []) L9 (by rw[aAv];exact aAw _ hv) (by
     rw[aAv,aAg];rintro(k|k)
     .exact ht k
     .simp at k;exact hut k.symm) o9
    refine⟨(u,v)::D,(if may u=true then [u]else [])++Q',hit,?_,by simpa using h2,?_,fun h=>?_,fun h=>?_⟩
    .rw[e0,e1,e2,h1];simp
    .intro p hp;rcases aAf.1 hp with rfl|hp
     .exact aAq
     .exact aAk _ (h3 p hp)
    .rw[aAj];exact aAk _ (h4 h)
    .obtain⟨k1,k2,k3,k4,k5⟩:=h5 h;have el:A++(u,v)::D=A++[(u,v)]++D:=sS;rw[el];refine⟨k1,fun x hx=>?_,fun x hx hmx=>?_,fun q hq=>?_,?_⟩
     .rcases aAf.1 hx with rfl|hx
      .simp
      .exact k2 x hx
     .rw[aAj]at hx;rcases aAf.1 hx with e|hx
      .subst e;rw[aAe hmx];simp
      .exact aAI _ (k3 x hx hmx)
     .rw[aAj];rcases aAg.1 hq with hq|hq
      .split at hq
       .rename_i hmu;rw[aAl]at hq;subst hq;exact⟨aAq,hmu⟩
       .cases hq
      .exact⟨aAk _ (k4 q hq).1,(k4 q hq).2⟩
     .rw[aAh,List.length_cons]
      split
      .simp;omega
      .simp;omega
def UI(near:Int->List Int)(may:Int->Bool)(Wn:Int)(S:Int->Prop):Prop:=S Wn/\∀ v,S v->(v=Wn\/may v=true)->∀ w∈near v,S w
theorem Nd(M7:∀ v,∀ w∈near v,w∈vs):∀(n:Nat) (A:Led) (Q:List Int),LA near may Wn A->to∉A.map (·.1)->(∀ v∈A.map (·.1),v∈vs)->(∀ q∈Q,q∈A.map (·.1)/\(q=Wn\/may q=true))->
 (∀ v∈A.map (·.1),v∉Q->(v=Wn\/may v=true)->∀ w∈near v,w∈A.map (·.1))->Q.length+vs.length<=n+A.length->
 (∃ A',bfs near may to n A Q=some (some A')/\LA near may Wn A'/\to∈A'.map (·.1)/\∀ v∈A'.map (·.1),v∈vs)\/∃ S,UI near may Wn S/\¬S to
 |n,A,[],hA,ht,_,_,hc,_=>.inr ⟨fun v=>v∈A.map (·.1),⟨by
   have:=hA.hd;rw[<- this];unfold kA;rw[aAc,aAd hA.pos]
   exact aAx (aAu _),fun v hv hm w hw=>hc v hv sS hm w hw⟩,ht⟩
 |0,A,v::Q,hA,_,hs,_,_,hl=>by have:=aAC hA.nd hs;rw[aAA]at this;rw[List.length_cons]at hl;omega
 |n+1,A,v::Q,hA,ht,hs,hq,hc,hl=>by
  obtain⟨hv,hm⟩:=hq v aAq;obtain⟨D,Q',hit,h1,h2,h3,h4,h5⟩:=Db (to:=to) hm (near v) A Q hA hv ht fun _ h=>h;have J5:∀ x∈(A++D).map (·.1),x∈vs:=fun x hx=>by
   rw[aAv]at hx;rcases aAg.1 hx with hx|hx
   .exact hs x hx
   .obtain⟨p,hp,rfl⟩:=aAm.1 hx;exact M7 _ _ (h3 p hp)
  simp only[bfs,h1];cases hit with
  |true=>exact .inl ⟨_,sS,h2,by rw[aAv];exact aAI _ (h4 rfl),J5⟩
  |false=>
   obtain⟨k1,k2,k3,k4,k5⟩:=h5 rfl;rw[aAa sS];refine Nd M7 n (A++D) (Q++Q') h2 k1 J5 (fun q hqm=>?_) (fun u hu hnq hmu w hw=>?_) ?_
   .rw[aAv];rcases aAg.1 hqm with h|h
    .have:=hq q (aAk _ h);exact⟨aAw _ this.1,this.2⟩
    .exact⟨aAI _ (k4 q h).1,.inr (k4 q h).2⟩
   .rw[aAg,aCv]at hnq;by_cases huA:u∈A.map (·.1)
    .by_cases e:u=v
     .subst e;exact k2 w hw
     .rw[aAv];exact aAw _ (hc u huA (by rw[aAf,aCv];exact⟨e,hnq.1⟩) hmu w hw)
    .rw[aAv]at hu;have hD:=(aAg.1 hu).resolve_left huA;rcases hmu with e|hmu
     .exfalso;apply huA;rw[e,<- hA.hd];unfold kA;rw[aAc,aAd hA.pos];exact aAx (aAu _)
     .exact absurd (k3 u hD hmu) hnq.2
   .simp only[aAh,List.length_cons]at hl ⊢;omega
theorem Om:∀ {A:Led},(A.map (·.1)).Nodup->∀ {k:Nat},k<A.length->jE A (kA A k)=some (pA A k)
 |a::A,hn,0,_=>by simp[jE,kA,pA]
 |a::A,hn,k+1,h=>by
  rw[aAj,aAD]at hn;have ih:=Om hn.2 (k:=k) (by simpa using h)
  have Wx:kA A k≠a.1:=fun e=>hn.1 (by
   rw[<- e];unfold kA;rw[aAc,aAd (by simpa using h)]
   exact aAx (aAu _))
  show jE (a::A) (kA A k)=some (pA A k);unfold jE;rw[aAa Wx];exact ih
theorem SH{A:Led}(hA:LA near may Wn A):∀(n k:Nat),k<A.length->k<=n->∃ l,gT A Wn n (kA A k)=some l/\(kA A k::l).getLast (by simp)=Wn/\(∀ x y,(x,y)∈lnk (kA A k::l)->x∈near y/\(y=Wn\/may y=true))/\
 (∀ y∈l,∃ j,j<k/\kA A j=y)/\(kA A k::l).Nodup:=by
 have hinj:∀ i j,i<A.length->j<A.length->kA A i=kA A j->i=j:=fun i j hi hj e=>by
  have e1:(A.map (·.1))[i]'(by simpa using hi)=(A.map (·.1))[j]'(by simpa using hj):=by unfold kA at e;rw[aAc,aAd hi,aAc,aAd hj]at e;simpa using e
  exact get_inj hA.nd _ _ e1
 have base:∀ n k,k<A.length->kA A k=Wn->∃ l,gT A Wn n (kA A k)=some l/\(kA A k::l).getLast (by simp)=Wn/\(∀ x y,(x,y)∈lnk (kA A k::l)->x∈near y/\(y=Wn\/may y=true))/\(∀ y∈l,∃ j,j<k/\kA A j=y)/\(kA A k::l).Nodup:=fun n k hk e=>by refine⟨[],?_,by simpa using e,fun x y h=>by simp[lnk]at h,sS,sS⟩;cases n<;>simp[gT,e]
 intro n;induction n with
 |zero=>intro k hk hkn;have:k=0:=oO;subst this;exact base 0 0 hk hA.hd
 |succ n ih=>
  intro k hk hkn;by_cases e:kA A k=Wn
  .exact base _ _ hk e
  have h0:0<k:=by
   rcases aCY k with h|h
   .subst h;exact absurd hA.hd e
   .exact h
  obtain⟨j,j1,j2,j3,j4⟩:=hA.par k h0 hk;obtain⟨l,l1,l2,l3,l4,l5⟩:=ih j oO oO;have hb:gT A Wn (n+1) (kA A k)=some (kA A j::l):=by rw[gT,aAa e,Om hA.nd hk];show(gT A Wn n (pA A k)).map _=_;rw[<- j2,l1];rfl
  refine⟨kA A j::l,hb,?_,fun x y h=>?_,fun y hy=>?_,?_⟩
  .rw[List.getLast_cons sS];exact l2
  .rcases aAf.1 h with h|h
   .injection h with e1 e2;subst e1;subst e2;rw[j2];exact⟨j3,j4⟩
   .exact l3 x y h
  .rcases aAf.1 hy with rfl|hy
   .exact⟨j,j1,rfl⟩
   .obtain⟨i,i1,i2⟩:=l4 y hy;exact⟨i,oO,i2⟩
  .refine aAD.2 ⟨fun hm=>?_,l5⟩;rcases aAf.1 hm with h|h
   .have:=hinj k j hk oO h;omega
   .obtain⟨i,i1,i2⟩:=l4 _ h;have:=hinj i k oO hk i2;omega
theorem KY:∀ {l:List Int} {a y:Int},y∈l->∃ x,(x,y)∈lnk (a::l)
 |b::l,a,y,h=>by
  rcases aAf.1 h with rfl|h
  .exact⟨a,by simp[lnk]⟩
  .obtain⟨x,hx⟩:=KY (a:=b) h;exact⟨x,aAk _ hx⟩
theorem Je(M7:∀ v,∀ w∈near v,w∈vs)(hf:Wn∈vs)(ht:to∈vs)(Wx:Wn≠to){n:Nat}(hn:vs.length+1<=n)(hr:∀ S,UI near may Wn S->S to):
 ∃ w,uO vs near may Wn to n=some w/\w.Nodup/\2<=w.length/\w.length<=vs.length/\(∀ v∈w,v∈vs)/\w.getD 0 0=Wn/\w.getD (w.length-1) 0=to/\(∀ x y,(x,y)∈lnk w->y∈near x)/\∀ v∈eT w,may v=true:=by
 have hA0:LA near may Wn [(Wn,Wn)]:=⟨sS,sS,rfl,fun k h0 hk=>by simp at hk;omega⟩;rcases Nd (may:=may) (to:=to) M7 n [(Wn,Wn)] [Wn] hA0 (by simpa using fun e=>Wx e.symm) (by simpa using hf) sS (fun v hv hnq=>by simp at hv;exact absurd (by simp[hv]) hnq) (by simp;omega)with⟨A,h1,hA,h2,h3⟩|⟨S,h1,h2⟩;rotate_left
 .exact absurd (hr S h1) h2
 obtain⟨k,hk,hkt⟩:=OO h2;have hl:A.length<=vs.length:=by
  have:=aAC hA.nd h3
  rwa [aAA]at this
 obtain⟨l,l1,l2,l3,l4,l5⟩:=SH hA n k hk oO;rw[hkt]at l1 l2 l3 l5;have Xt:∀ v∈to::l,v∈vs:=fun v hv=>by
  rcases aAf.1 hv with rfl|hv
  .exact ht
  .obtain⟨j,j1,rfl⟩:=l4 v hv;refine h3 _ ?_;unfold kA;rw[aAc,aAd oO];exact aAx (aAu _)
 have hlne:l≠[]:=by rintro rfl;simp at l2;exact Wx l2.symm
 have hw:uO vs near may Wn to n=some (to::l).reverse:=by unfold uO;rw[aAa (by simp[hf,ht]),aAa Wx,h1];show(gT A Wn n to).map _=_;rw[l1];rfl
 have hnd:((to::l).reverse).Nodup:=(aCy _).nodup_iff.2 l5;have hlen:2<=((to::l).reverse).length:=by have:=aBi.2 hlne;rw[aEO,List.length_cons];omega
 have g0:((to::l).reverse).getD 0 0=Wn:=by
  have e:(to::l)=(to::l).dropLast++[Wn]:=by rw[<- l2,List.dropLast_concat_getLast]
  rw[e,aCD];rfl
 have g1:((to::l).reverse).getD (((to::l).reverse).length-1) 0=to:=by rw[aEO,List.length_cons,aCd,aCK,aAc,aBl sS];simp
 refine⟨_,hw,hnd,hlen,?_,fun v hv=>Xt v (aBP.1 hv),g0,g1,fun x y h=>?_,fun v hv=>?_⟩
 .exact aAC hnd fun v hv=>Xt v (aBP.1 hv)
 .rw[(nH _).mem_iff,aAm]at h;obtain⟨q,hq,e⟩:=h;have:q=(y,x):=by rw[<- aEv q,e];rfl
  rw[this]at hq;exact(l3 y x hq).1
 .have hs:=wO hlen;rw[g0,g1]at hs;have hv2:=qA hv;have C7:v∈to::l:=aBP.1 hv2;rw[hs]at hnd;have n1:v≠Wn:=fun e=>(aAD.1 hnd).1 (by rw[<- e];exact aAw _ hv);have n2:v≠to:=fun e=>(aAs.1 (aAD.1 hnd).2).2.2 v hv to sS e;have hv3:v∈l:=(aAf.1 C7).resolve_left n2;obtain⟨x,hx⟩:=KY (a:=to) hv3;exact(l3 x v hx).2.resolve_left n1
end
theorem HX(a b:Int)(M:List Int):prs (a::(M++[b]))=lnk (a::(M++[b]))++[(b,a)]:=by
 have e:prs (a::(M++[b]))=lnk ((a::M)++b::[a]):=by unfold prs;simp
 rw[e,iO];rfl
theorem Si{a b m:Int}{M:List Int}(hn:(a::(m::M++[b])).Nodup):(a,b)∉lnk (a::(m::M++[b]))/\(b,a)∉lnk (a::(m::M++[b])):=by
 obtain⟨h1,h2⟩:=aAD.1 hn;have hb:b∈m::M++[b]:=sS;have u5:m≠b:=fun e=>(aAD.1 h2).1 (by rw[e];simp);have e:lnk (a::(m::M++[b]))=(a,m)::lnk (m::M++[b]):=rfl;rw[e];constructor
 .intro h;rcases aAf.1 h with h|h
  .injection h with _ h;exact u5 h.symm
  .exact h1 (gA h).1
 .intro h;rcases aAf.1 h with h|h
  .injection h with h _;exact h1 (by rw[<- h];exact hb)
  .exact h1 (gA h).2
theorem Drn.start{E:List Ed}{x:Ed}{m:Int}{M ring:List Int}(hx:x∈E)(hr:ring=x.a::(m::M++[x.b]))(hn:ring.Nodup)(hp:∀ u v,(u,v)∈lnk ring->∃ e∈E,prE e=prP u v):
 Drn E ⟨kF (kF [] ring) [x.a,x.b],ring++[x.a,x.b],[ring,ring.reverse]⟩:=by
 obtain⟨n1,n2⟩:=gY hn;have YI:=Si (by rw[<- hr];exact hn);rw[<- hr]at YI;have YA:x.a≠x.b:=fun e=>by rw[hr]at hn;exact(aAD.1 hn).1 (by rw[e];simp)
 have pr1:prs ring=lnk ring++[(x.b,x.a)]:=by
  have:=HX x.a x.b (m::M)
  rwa [<- hr]at this
 have pr2:prs ring.reverse=lnk ring.reverse++[(x.a,x.b)]:=by
  have e:ring.reverse=x.b::((m::M).reverse++[x.a]):=by rw[hr];simp
  rw[e];exact HX _ _ _
 have I2:∀ u v,prP u v∈iV ring↔(u,v)∈lnk ring\/(v,u)∈lnk ring:=fun u v=>by
  rw[gK,aAm];constructor
  .rintro⟨q,hq,e⟩;rcases cG e with⟨e1,e2⟩|⟨e1,e2⟩
   .left;rw[<- e1,<- e2];exact hq
   .right;rw[<- e1,<- e2];exact hq
  .rintro(k|k)
   .exact⟨_,k,rfl⟩
   .exact⟨_,k,bL _ _⟩
 have M9:∀ u v,(u,v)∈lnk ring.reverse↔(v,u)∈lnk ring:=fun u v=>by
  rw[(nH ring).mem_iff,aAm];constructor
  .rintro⟨q,hq,e⟩;have:q=(v,u):=by rw[<- aEv q,e];rfl
   rw[<- this];exact hq
  .intro k;exact⟨_,k,rfl⟩
 have hL:kF (kF [] ring) [x.a,x.b]=iV ring++[prP x.a x.b]:=by
  have e1:kF [] ring=iV ring:=by
   have:=mM (iV ring) [] (kK hn) fun p _ h=>by cases h
   rw[List.nil_append]at this;exact this
  rw[e1];exact mM [prP x.a x.b] (iV ring) sS fun p ZF Zg=>by rw[aAl]at ZF;subst ZF;exact((I2 _ _).1 Zg).elim YI.1 YI.2
 have ZP:2<=ring.length:=by rw[hr];simp
 have ha:x.a∈ring:=by rw[hr];simp
 have hb:x.b∈ring:=by rw[hr];simp
 have hPF:PF [ring,ring.reverse]=(lnk ring++[(x.b,x.a)])++(lnk ring.reverse++[(x.a,x.b)]):=by simp[PF,pr1,pr2]
 rw[hL];refine⟨?_,fun u v=>?_,?_,?_,fun v=>?_,?_,?_,?_⟩
 .show(PF [ring,ring.reverse]).Nodup;rw[hPF];have n3:=(gY ((aCy ring).nodup_iff.2 hn)).1;refine aAs.2 ⟨aAs.2 ⟨n1,sS,?_⟩,aAs.2 ⟨n3,sS,?_⟩,?_⟩
  .rintro p ZF q hq rfl;rw[aAl]at hq;subst hq;exact YI.2 ZF
  .rintro p ZF q hq rfl;rw[aAl]at hq;subst hq;exact YI.2 ((M9 _ _).1 ZF)
  .rintro⟨u,v⟩ ZF q hq rfl;rcases aAg.1 ZF with k|k
   .rcases aAg.1 hq with k2|k2
    .exact(n2 u v k).2 ((M9 _ _).1 k2)
    .rw[aAl]at k2;injection k2 with e1 e2;subst e1;subst e2;exact YI.1 k
   .rw[aAl]at k;injection k with e1 e2;subst e1;subst e2;rcases aAg.1 hq with k2|k2
    .exact YI.1 ((M9 _ _).1 k2)
    .rw[aAl]at k2;injection k2 with e1 e2;exact YA e2
 .show(u,v)∈PF [ring,ring.reverse]↔u≠v/\prP u v∈iV ring++[prP x.a x.b];rw[hPF];simp only[aAg,aAl,M9,I2,aAV];constructor
  .rintro((k|⟨rfl,rfl⟩)|k|⟨rfl,rfl⟩)
   .exact⟨(n2 _ _ k).1,.inl (.inl k)⟩
   .exact⟨fun e=>YA e.symm,.inr (bL _ _)⟩
   .exact⟨fun e=>(n2 _ _ k).1 e.symm,.inl (.inr k)⟩
   .exact⟨YA,.inr rfl⟩
  .rintro⟨_,(k|k)|k⟩
   .exact .inl (.inl k)
   .exact .inr (.inl k)
   .rcases cG k with⟨e1,e2⟩|⟨e1,e2⟩
    .exact .inr (.inr ⟨e1,e2⟩)
    .exact .inl (.inr ⟨e1,e2⟩)
 .refine aAs.2 ⟨kK hn,sS,?_⟩;rintro p ZF q hq rfl;rw[aAl]at hq;subst hq;exact((I2 _ _).1 ZF).elim YI.1 YI.2
 .intro p Xi;rcases aAg.1 Xi with k|k
  .rw[gK]at k;obtain⟨q,hq,rfl⟩:=aAm.1 k;exact hp _ _ hq
  .exact⟨x,hx,(aAl.1 k).symm⟩
 .show v∈ring++[x.a,x.b]↔∃ u,u≠v/\prP u v∈iV ring++[prP x.a x.b];have e:v∈ring++[x.a,x.b]↔v∈ring:=by
   simp only[aAg,aAf,aCe,aDE];constructor
   .rintro(k|rfl|rfl)
    .exact k
    .exact ha
    .exact hb
   .exact .inl
  rw[e];constructor
  .intro k;obtain⟨u,k|k⟩:=vD ZP k
   .exact⟨u,(n2 _ _ k).1,aAw _ ((I2 u v).2 (.inl k))⟩
   .exact⟨u,fun e=>(n2 _ _ k).1 e.symm,aAw _ ((I2 u v).2 (.inr k))⟩
  .rintro⟨u,k1,k2⟩;rcases aAg.1 k2 with k|k
   .rcases(I2 u v).1 k with k|k
    .exact(gA k).2
    .exact(gA k).1
   .rcases cG (aAl.1 k)with⟨e1,e2⟩|⟨e1,e2⟩
    .rw[e2];exact hb
    .rw[e2];exact ha
 .have hvw:∀ v∈ring,v∈vsF E:=fun v hv=>by
   obtain⟨u,k|k⟩:=vD ZP hv
   .obtain⟨e,he,Zb⟩:=hp _ _ k;rw[bJ];rcases cG Zb with⟨e1,e2⟩|⟨e1,e2⟩
    .exact⟨e,he,.inr e2.symm⟩
    .exact⟨e,he,.inl e1.symm⟩
   .obtain⟨e,he,Zb⟩:=hp _ _ k;rw[bJ];rcases cG Zb with⟨e1,e2⟩|⟨e1,e2⟩
    .exact⟨e,he,.inl e1.symm⟩
    .exact⟨e,he,.inr e2.symm⟩
  have hc:=HK (l:=vsF E) (M:=ring) (on:=[]) (w:=ring++[x.a,x.b]) ((kR E).imp fun k=>by omega) hn hvw (fun v _ h=>by cases h) fun v _=>⟨fun k=>by
   rcases aAg.1 k with k|k
   .exact .inl k
   .rcases aAf.1 k with rfl|k
    .exact .inl ha
    .rw[aAl]at k;subst k;exact .inl hb,fun k=>k.elim (aAw _) And.left⟩
  have h0:((vsF E).filter fun v=>decide (v∈([]:List Int)))=[]:=sS;rw[h0,List.nil_append]at hc;have hwl:=mQ ring;show 2+((vsF E).filter fun v=>decide (v∈ring++[x.a,x.b])).length=(iV ring++[prP x.a x.b]).length+2;rw[hc,aAh];simp only[List.length_nil,List.length_cons];omega
 .intro R hs ht o9 YT p Zh q P3;have w1:=o9 ring sS;have w2:=o9 ring.reverse sS;have c1:(x.b,x.a)∈prs ring:=by rw[pr1];simp
  have c2:(x.a,x.b)∈prs ring.reverse:=by rw[pr2];simp
  have cc:R (x.b,x.a) (x.a,x.b):=YT _ (fX.2 ⟨ring,sS,c1⟩);have all:∀ p∈PF [ring,ring.reverse],R p (x.a,x.b):=fun p W2=>by
   obtain⟨t,F0,k⟩:=fX.1 W2;rcases aAf.1 F0 with e|e
   .rw[e]at k;exact ht _ _ _ (w1 p k _ c1) cc
   .rw[aAl.1 e]at k;exact w2 p k _ c2
  exact ht _ _ _ (all p Zh) (hs _ _ (all q P3))
 .intro t ht;rcases aAf.1 ht with rfl|ht
  .rw[hr];simp
  .rw[aAl]at ht;subst ht;rw[hr];simp
theorem zY{α:Type}[DecidableEq α]{A B:List α}(hA:A.Nodup)(hB:B.Nodup)(hs:∀ x∈A,x∈B)(hl:B.length<=A.length):A.Perm B:=by
 refine(aBk hA hB).2 fun x=>⟨hs x,fun hx=>aAL fun YI=>?_⟩;have:=aAC (aAD.2 ⟨YI,hA⟩) (l₂:=B) fun y hy=>by
  rcases aAf.1 hy with rfl|hy
  .exact hx
  .exact hs y hy
 rw[List.length_cons]at this;omega
structure iX(E:List Ed)(F:List (List Int)):Prop where
 nd:(PF F).Nodup
 mem:∀ u v,(u,v)∈PF F↔∃ e∈E,prE e=prP u v
 cnt:F.length+(vsF E).length=E.length+2
 con:Con F
 ne:∀ r∈F,r≠[]
theorem Drn.done{E:List Ed}{h:Sh}(hD:Drn E h)(Wx:∀ e∈E,e.a≠e.b)(hs:(E.map prE).Nodup)(hl:E.length<=h.L.length):iX E h.F:=by
 have hp:h.L.Perm (E.map prE):=by refine zY hD.lnd hs (fun p hp=>?_) (by rw[aAA];exact hl);obtain⟨e,he,rfl⟩:=hD.sub p hp;exact aAx he
 have hL:∀ p,p∈h.L↔∃ e∈E,prE e=p:=fun p=>by rw[hp.mem_iff,aAm]
 refine⟨hD.nd,fun u v=>?_,?_,hD.con,hD.ne⟩
 .rw[hD.mem,hL];constructor
  .exact And.right
  .rintro⟨e,he,Zb⟩;refine⟨fun k=>?_,e,he,Zb⟩;have:=Wx e he;rcases cG Zb with⟨e1,e2⟩|⟨e1,e2⟩<;>omega
 .have h1:=hD.cnt;have h2:((vsF E).filter fun v=>decide (v∈h.on))=vsF E:=aCR.2 fun v hv=>by
   rw[aAO,hD.on];obtain⟨e,he,k⟩:=(bJ v E).1 hv;have:=Wx e he;rcases k with rfl|rfl
   .exact⟨e.b,fun k=>this k.symm,(hL _).2 ⟨e,he,bL _ _⟩⟩
   .exact⟨e.a,this,(hL _).2 ⟨e,he,rfl⟩⟩
  have h3:=hp.length_eq;rw[aAA]at h3;rw[h2]at h1;omega
theorem Oc{e:Ed}(Wx:e.a≠e.b):iX [e] [[e.a,e.b]]:=by
 have hPF:PF [[e.a,e.b]]=[(e.a,e.b),(e.b,e.a)]:=rfl;have hv:(vsF [e]).length=2:=by
  have hp:(vsF [e]).Perm [e.a,e.b]:=(aBk ((kR _).imp fun k=>by omega) (by simp[Wx])).2 fun v=>by rw[bJ];simp
  rw[hp.length_eq];rfl
 refine⟨by rw[hPF];simp[Wx],fun u v=>?_,by rw[hv];rfl,fun R hs ht hr YT p hp q hq=>?_,sS⟩
 .rw[hPF];simp only[aAf,aCe,aDE,aAV,exists_eq_left];constructor
  .rintro(⟨rfl,rfl⟩|⟨rfl,rfl⟩)
   .rfl
   .exact bL _ _
  .intro k;rcases cG k with⟨e1,e2⟩|⟨e1,e2⟩
   .exact .inl ⟨e1.symm,e2.symm⟩
   .exact .inr ⟨e2.symm,e1.symm⟩
 .exact hr [e.a,e.b] sS p (by simpa[PF]using hp) q (by simpa[PF]using hq)
theorem Jw:∀(l:List Int) (k:Nat),k+1<l.length->(lnk l)[k]?=some (l.getD k 0,l.getD (k+1) 0)
 |[],k,h=>by simp at h
 |[_],k,h=>by simp at h
 |a::b::l,0,_=>by simp[lnk]
 |a::b::l,k+1,h=>by have:=Jw (b::l) k (by simpa using h);simpa[lnk]using this
theorem qJ(r:List Int):(prs r).length=r.length:=by
 unfold prs;rw[yZ,aAh,aAo];cases r with
 |nil=>rfl
 |cons a r=>simp
theorem Du(r:List Int)(k:Nat)(h:k<r.length):(prs r)[k]?=some (r.getD k 0,r.getD ((k+1) % r.length) 0):=by
 have hl:(r++r.take 1).length=r.length+1:=by rw[aAh,aAo];omega
 unfold prs;rw[Jw _ k oO];have e1:(r++r.take 1).getD k 0=r.getD k 0:=by rw[aAc,aAY h,<- aAc]
 have e2:(r++r.take 1).getD (k+1) 0=r.getD ((k+1) % r.length) 0:=by
  rw[aAc];by_cases hk:k+1<r.length
  .rw[aAY hk,aAK hk,<- aAc]
  .have:k+1=r.length:=oO;rw[aBl oO,this,aDu,aES,List.getElem?_take_of_lt oO,<- aAc]
 rw[e1,e2]
def trs(r:List Int):List (Int×Int×Int):=(List.range r.length).map fun k=>(r.getD (iW r.length k) 0,r.getD k 0,r.getD ((k+1) % r.length) 0)
def Bk(A:Tn)(t:Int×Int×Int):Tn:=gN t.2.1 t.1 t.2.2 A
theorem pO{n k:Nat}(h:k<n):iW n k<n/\(iW n k+1) % n=k:=by
 unfold iW
 split
 .rename_i e;subst e;exact⟨oO,by rw[show n-1+1=n by omega,aDu]⟩
 .exact⟨oO,by rw[show k-1+1=k by omega,aAK h]⟩
theorem Cr(r:List Int)(A:Tn):∀ j,j<=r.length->jF r A j=((trs r).take j).foldl Bk A
 |0,_=>rfl
 |j+1,h=>by
  have ht:(trs r).take (j+1)=(trs r).take j++[(r.getD (iW r.length j) 0,r.getD j 0,r.getD ((j+1) % r.length) 0)]:=by unfold trs;rw[aAn (by simp;omega)];simp
  rw[ht,aBo,<- Cr r A j oO];rfl
theorem xF(F:List (List Int)):aY F=(F.flatMap trs).foldl Bk []:=by
 unfold aY;have key:∀(F:List (List Int)) (A:Tn),F.foldl (fun A r=>jF r A r.length) A=(F.flatMap trs).foldl Bk A:=by
  intro F;induction F with
  |nil=>intro A;rfl
  |cons r F ih=>intro A;rw[List.foldl_cons,ih,aAJ,aBo,Cr r A _ (aAi _),aAr (by simp[trs])]
 exact key F []
theorem DF(v v' x y:Int):∀ A:Tn,dB v' (gN v x y A)=if v'=v then oQ x y (dB v A)else dB v' A
 |[]=>by
  unfold gN;by_cases h:v'=v
  .subst h;simp[dB,oQ]
  .simp only[dB,aAa h,aAa (fun e:v=v'=>h e.symm)]
 |a::A=>by
  have ih:=DF v v' x y A;unfold gN;by_cases ha:a.1=v
  .rw[aAe ha];by_cases h:v'=v
   .subst h;simp[dB,ha]
   .simp only[dB,aAa h,aAa (fun e:v=v'=>h e.symm),aAa (fun e:a.1=v'=>h (by rw[<- e,ha]))]
  .rw[aAa ha];by_cases h:v'=v
   .subst h;rw[aAe rfl]at ih ⊢;simp only[dB,aAa ha,ih]
   .rw[aAa h]at ih ⊢;simp only[dB,ih]
theorem FG(x y:Int):∀ P:List (Int×Int),x∉P.map (·.1)->oQ x y P=P++[(x,y)]
 |[],_=>rfl
 |p::P,h=>by rw[aAj,aAf,aCv]at h;unfold oQ;rw[aAa fun e=>h.1 e.symm,FG x y P h.2];rfl
theorem Mm(v:Int):∀(T:List (Int×Int×Int)),(T.map fun t=>(t.1,t.2.1)).Nodup->dB v (T.foldl Bk [])=(T.filter fun t=>decide (t.2.1=v)).map fun t=>(t.1,t.2.2):=by
 intro T;induction T using xA with
 |h0=>intro _;rfl
 |h1 T t ih=>
  intro hn;rw[aAv,aAs]at hn;have ih:=ih hn.1;rw[aBo,List.foldl_cons,List.foldl_nil,aBu,aAv,<- ih];rw[show Bk (T.foldl Bk []) t=gN t.2.1 t.1 t.2.2 (T.foldl Bk []) from rfl,DF];by_cases h:v=t.2.1
  .subst h;rw[aAe rfl,FG]
   .simp
   .rw[ih,aBf];intro hm;obtain⟨s,hs,e⟩:=aAm.1 hm;rw[aAz,aAO]at hs;exact hn.2.2 _ (aAx (f:=fun t:Int×Int×Int=>(t.1,t.2.1)) hs.1) (t.1,t.2.1) sS (aDD e hs.2)
  .rw[aAa h];have:¬t.2.1=v:=fun e=>h e.symm;simp[this]
theorem RN(r:List Int):((trs r).map fun t=>(t.1,t.2.1)).Perm (prs r):=by
 have e:prs r=(List.range r.length).map fun k=>(r.getD k 0,r.getD ((k+1) % r.length) 0):=by
  refine aDh fun k=>?_;by_cases h:k<r.length
  .rw[Du r k h];simp[h]
  .rw[aBw (by rw[qJ];omega),aBw (by simp;omega)]
 have e2:((trs r).map fun t=>(t.1,t.2.1))=((List.range r.length).map (iW r.length)).map fun k=>(r.getD k 0,r.getD ((k+1) % r.length) 0):=by unfold trs;rw[aBf,aBf];refine aAW fun k hk=>?_;have:=(pO (aAX.1 hk)).2;simp only[Function.comp_apply,this]
 rw[e,e2];refine List.Perm.map _ (zY ?_ aDH (fun x hx=>?_) sS)
 .unfold List.Nodup;rw[aAU];refine aBN.imp_of_mem fun {a b} ha hb YA h=>?_;have h1:=(pO (aAX.1 ha)).2;have h2:=(pO (aAX.1 hb)).2;rw[h]at h1;omega
 .obtain⟨k,hk,rfl⟩:=aAm.1 hx;exact aAX.2 (pO (aAX.1 hk)).1
theorem uZ(F:List (List Int)):((F.flatMap trs).map fun t=>(t.1,t.2.1)).Perm (PF F):=by
 induction F with
 |nil=>exact .refl _
 |cons r F ih=>unfold PF at ih ⊢;rw[aAJ,aAJ,aAv];exact(RN r).append ih
def cd(p:Int×Int):Int:=p.1*4194304+p.2
theorem wZ{p:Int×Int}(h:0<=p.2/\p.2<4194304):cd p / 4194304=p.1:=by unfold cd;omega
theorem pL{p q:Int×Int}(h:0<=p.2/\p.2<4194304)(k:0<=q.2/\q.2<4194304)(e:cd p=cd q):p=q:=by unfold cd at e;exact aDD oO oO
theorem QG{r:List Int}(hn:(prs r).Nodup)(hb:∀ v∈r,0<=v/\v<4194304){t:Int×Int×Int}(ht:t∈trs r):(t.1,t.2.1)∈prs r/\(t.2.1,t.2.2)∈prs r/\nx ((prs r).map cd) (cd (t.1,t.2.1))=cd (t.2.1,t.2.2):=by
 unfold trs at ht;obtain⟨k,hk,rfl⟩:=aAm.1 ht;rw[aAX]at hk;obtain⟨p1,p2⟩:=pO hk;have hl:=qJ r;have g1:(prs r)[iW r.length k]'(by omega)=(r.getD (iW r.length k) 0,r.getD k 0):=by have:=Du r _ p1;rw[aAd oO,aAb]at this;rw[this,p2]
 have g2:(prs r)[k]'(by omega)=(r.getD k 0,r.getD ((k+1) % r.length) 0):=by have:=Du r _ hk;rw[aAd oO,aAb]at this;exact this
 have Xt:∀ p∈prs r,0<=p.2/\p.2<4194304:=fun p hp=>hb _ (Um (x:=p.1) hp).2;have E6:((prs r).map cd).Nodup:=by unfold List.Nodup;rw[aAU];exact hn.imp_of_mem fun {a b} ha hb Wx e=>Wx (pL (Xt a ha) (Xt b hb) e)
 have Yu:((prs r).map cd).length=r.length:=by rw[aAA,hl]
 refine⟨by rw[<- g1];exact aAu _,by rw[<- g2];exact aAu _,?_⟩;simp only;rw[<- g1,<- g2];have:=gM E6 (j:=iW r.length k) oO;simp only[aCn]at this;rw[this]
 congr 1
 simp only[Yu,p2]
def tws(E:List Ed):List (Int×Int):=E.map fun e=>(cd (e.a,e.b),cd (e.b,e.a))
theorem Eh(s:Int->Int){x:Int}:∀ P:List (Int×Int),(∀ p∈P,x≠p.1/\x≠p.2)->swP s P x=s x
 |[],_=>rfl
 |p::P,h=>by unfold swP;rw[uF (h p aAq).1 (h p aAq).2];exact Eh s P fun q hq=>h q (aAk _ hq)
theorem Jq(s:Int->Int){u v:Int}:∀ E:List Ed,(∀ e∈E,(0<=e.a/\e.a<4194304)/\0<=e.b/\e.b<4194304)->(E.map prE).Nodup->(∃ e∈E,prE e=prP u v)->swP s (tws E) (cd (v,u))=s (cd (u,v))
 |[],_,_,h=>by obtain⟨_,h,_⟩:=h;cases h
 |e::E,hb,hn,h=>by
  rw[aAj,aAD]at hn;have b0:=hb e aAq;have hbE:=fun e he=>hb e (aAk _ he);by_cases he:prE e=prP u v
  .have YY:∀ x y,prP x y=prE e->(0<=x/\x<4194304)->(0<=y/\y<4194304)->∀ p∈tws E,cd (x,y)≠p.1/\cd (x,y)≠p.2:=by
    intro x y YH hx hy p hp;obtain⟨f,hf,rfl⟩:=aAm.1 hp;have bf:=hbE f hf;constructor
    .intro k;have:=pL (p:=(x,y)) (q:=(f.a,f.b)) hy bf.2 k;injection this with k1 k2;exact hn.1 (aAm.2 ⟨f,hf,by rw[<- YH,k1,k2]⟩)
    .intro k;have:=pL (p:=(x,y)) (q:=(f.b,f.a)) hy bf.1 k;injection this with k1 k2;exact hn.1 (aAm.2 ⟨f,hf,by rw[<- YH,k1,k2];exact bL _ _⟩)
   show swP s (tws E) (Eu.sw (cd (e.a,e.b)) (cd (e.b,e.a)) (cd (v,u)))=_;rcases cG he with⟨e1,e2⟩|⟨e1,e2⟩
   .rw[<- e1,<- e2,FO,Eh s _ (YY e.a e.b rfl b0.1 b0.2)]
   .rw[<- e1,<- e2,CA,Eh s _ (YY e.b e.a (bL _ _) b0.2 b0.1)]
  .obtain⟨f,hf,hp⟩:=h;rcases aAf.1 hf with rfl|hf
   .exact absurd hp he
   show swP s (tws E) (Eu.sw (cd (e.a,e.b)) (cd (e.b,e.a)) (cd (v,u)))=_;have bf:=hbE f hf;have bu:(0<=u/\u<4194304)/\0<=v/\v<4194304:=by
    rcases cG hp with⟨e1,e2⟩|⟨e1,e2⟩
    .rw[<- e1,<- e2];exact bf
    .rw[<- e1,<- e2];exact⟨bf.2,bf.1⟩
   rw[uF]
   .exact Jq s E hbE hn.2 ⟨f,hf,hp⟩
   .intro k;have:=pL (p:=(v,u)) (q:=(e.a,e.b)) bu.1 b0.2 k;injection this with k1 k2;exact he (by rw[k1,k2];exact bL _ _)
   .intro k;have:=pL (p:=(v,u)) (q:=(e.b,e.a)) bu.1 b0.1 k;injection this with k1 k2;exact he (by rw[k1,k2])
def Rws(F:List (List Int)):List (List Int):=F.map fun r=>(prs r).map cd
theorem gO(F:List (List Int)):(Rws F).flatten=(PF F).map cd:=by unfold Rws PF;rw[aEd,<- List.flatMap_def]
theorem iT{E:List Ed}{e:Ed}(he:e∈E){x y:Int}(h:prE e=prP x y):x∈vsF E/\y∈vsF E:=by
 rw[bJ,bJ];rcases cG h with⟨e1,e2⟩|⟨e1,e2⟩
 .exact⟨⟨e,he,.inl e1.symm⟩,⟨e,he,.inr e2.symm⟩⟩
 .exact⟨⟨e,he,.inr e2.symm⟩,⟨e,he,.inl e1.symm⟩⟩
structure BlE(E:List Ed):Prop where
 ne:∀ e∈E,e.a≠e.b
 sim:(E.map prE).Nodup
 bnd:∀ v∈vsF E,0<=v/\v<4194304
section
variable {E:List Ed} {F:List (List Int)} (hO:iX E F) (hE:BlE E)
include hO hE
theorem iX.b2{p:Int×Int}(h:p∈PF F):(0<=p.1/\p.1<4194304)/\0<=p.2/\p.2<4194304:=by obtain⟨e,he,hp⟩:=(hO.mem p.1 p.2).1 h;have:=iT he hp;exact⟨hE.bnd _ this.1,hE.bnd _ this.2⟩
theorem iX.cdnd:((Rws F).flatten).Nodup:=by rw[gO];unfold List.Nodup;rw[aAU];exact hO.nd.imp_of_mem fun {p q} hp hq Wx e=>Wx (pL (hO.b2 hE hp).2 (hO.b2 hE hq).2 e)
theorem iX.swap{u v:Int}(h:(u,v)∈PF F):(v,u)∈PF F:=by obtain⟨e,he,hp⟩:=(hO.mem u v).1 h;exact(hO.mem v u).2 ⟨e,he,by rw[hp];exact bL _ _⟩
theorem iX.next{u v:Int}(h:(u,v)∈PF F):∃ w,(u,v,w)∈F.flatMap trs/\∃ r∈F,(u,v)∈prs r/\(v,w)∈prs r/\sgR (Rws F) (cd (u,v))=cd (v,w):=by
 have:=(uZ F).mem_iff.2 h;obtain⟨t,ht,e⟩:=aAm.1 this;obtain⟨r,hr,htr⟩:=aAT.1 ht;have Yv:∀ p∈prs r,p∈PF F:=fun p hp=>fX.2 ⟨r,hr,hp⟩;have hn:(prs r).Nodup:=by have h0:=hO.nd;unfold PF at h0;rw[List.flatMap_def]at h0;exact row_nodup' h0 (aAx hr)
 have hb:∀ v∈r,0<=v/\v<4194304:=fun v hv=>by obtain⟨x,hx⟩:=Hu hv;exact(hO.b2 hE (Yv _ hx)).1
 obtain⟨h1,h2,h3⟩:=QG hn hb htr;injection e with e1 e2;rw[e1,e2]at h1 h3;rw[e2]at h2;refine⟨t.2.2,?_,r,hr,h1,h2,?_⟩
 .rw[<- e1,<- e2];exact ht
 .rw[fD (hO.cdnd hE) (t:=(prs r).map cd) (aAx (f:=fun r=>(prs r).map cd) hr) (aAx h1),h3]
where
 row_nodup' {α:Type} {L:List (List α)} (hn:L.flatten.Nodup) {t:List α} (ht:t∈L):t.Nodup:=(aBA ht).nodup hn
abbrev sgV(E:List Ed)(F:List (List Int)):Int->Int:=swP (sgR (Rws F)) (tws E)
theorem iX.tws_mem:∀ p∈tws E,p.1∈(Rws F).flatten/\p.2∈(Rws F).flatten/\p.1≠p.2:=fun p hp=>by obtain⟨e,he,rfl⟩:=aAm.1 hp;have h1:=(hO.mem e.a e.b).2 ⟨e,he,rfl⟩;have h2:=hO.swap hE h1;rw[gO];refine⟨aAx h1,aAx h2,fun k=>hE.ne e he ?_⟩;have:=pL (hO.b2 hE h1).2 (hO.b2 hE h2).2 k;injection this
theorem iX.sgV_at{u v:Int}(h:(u,v)∈PF F):sgV E F (cd (v,u))=sgR (Rws F) (cd (u,v)):=
 Jq _ E (fun e he=>⟨hE.bnd _ ((bJ _ _).2 ⟨e,he,.inl rfl⟩),hE.bnd _ ((bJ _ _).2 ⟨e,he,.inr rfl⟩)⟩) hE.sim ((hO.mem u v).1 h)
theorem iX.sgV_permOn:gW (Rws F).flatten (sgV E F):=sV (kC (hO.cdnd hE)) _ fun p hp=>⟨(hO.tws_mem hE p hp).1,(hO.tws_mem hE p hp).2.1⟩
theorem iX.sgV_base(x:Int):sgV E F x / 4194304=x / 4194304:=by
 by_cases hx:x∈(Rws F).flatten
 .rw[gO]at hx;obtain⟨⟨v,u⟩,hp,rfl⟩:=aAm.1 hx;have h2:=hO.swap hE hp;obtain⟨w,_,r,hr,k1,k2,k3⟩:=hO.next hE h2;have k4:=fX.2 ⟨r,hr,k2⟩;rw[hO.sgV_at hE h2,k3,wZ (hO.b2 hE k4).2,wZ (hO.b2 hE hp).2]
 .rw[(hO.sgV_permOn hE).out x hx]
theorem iX.sgV_it:∀(n:Nat) (x:Int),it (sgV E F) n x / 4194304=x / 4194304
 |0,_=>rfl
 |n+1,x=>by rw[cT,hO.sgV_base hE,iX.sgV_it n x]
theorem iX.one_turn(h0:E≠[]){v u u':Int}(h:(u,v)∈PF F)(h':(u',v)∈PF F):Orb (sgV E F) (cd (v,u)) (cd (v,u')):=by
 have hn:=hO.cdnd hE;have L7:=kC hn;have hσ:=hO.sgV_permOn hE;obtain⟨_,c,hc⟩:=DH L7 (tws E) (hO.tws_mem hE);have hM:=rE L7.per.eqv (tws E);have hall:∀ x∈(Rws F).flatten,∀ y∈(Rws F).flatten,mgP (Orb (sgR (Rws F))) (tws E) x y:=by
  intro x hx y hy;rw[gO]at hx hy;obtain⟨p,hp,rfl⟩:=aAm.1 hx;obtain⟨q,hq,rfl⟩:=aAm.1 hy;refine hO.con (fun p q=>mgP (Orb (sgR (Rws F))) (tws E) (cd p) (cd q)) (fun _ _ k=>hM.symm k) (fun _ _ _ k l=>hM.trans k l) (fun r hr p hp q hq=>?_) (fun p hp=>?_) p hp q hq
  .exact Po _ ((ES hn (aAx (f:=fun r=>(prs r).map cd) hr) (aAx hp)).2 (aAx hq))
  .obtain⟨e,he,Zb⟩:=(hO.mem p.1 p.2).1 hp;have:=IW L7.per.eqv (tws E) (p:=(cd (e.a,e.b),cd (e.b,e.a))) (aAx (f:=fun e:Ed=>(cd (e.a,e.b),cd (e.b,e.a))) he);rcases cG Zb with⟨e1,e2⟩|⟨e1,e2⟩
   .rw[e1,e2]at this;exact this
   .rw[e1,e2]at this;exact hM.symm this
 have hD0:(Rws F).flatten≠[]:=by rw[gO];intro e;have:=aCS.1 e;rw[this]at h;cases h
 rw[Sl hall hD0]at hc;have hF:ncl (Orb (sgR (Rws F))) (Rws F).flatten=F.length:=by rw[Jl hn,aCR.2,Rws,aAA];intro t ht;obtain⟨r,hr,rfl⟩:=aAm.1 ht;have h1:=hO.ne r hr;have h2:=qJ r;rw[aAO];intro e;have h3:=congrArg List.length e;rw[aAA,h2]at h3;exact h1 (aCz.1 h3)
 rw[hF,tws,aAA]at hc;let B:Int->Int->Prop:=fun x y=>x / 4194304=y / 4194304;have hB:Eqv B:=⟨fun _=>rfl,fun h=>Eq.symm h,fun h k=>Eq.trans h k⟩;have hBn:(vsF E).length<=ncl B (Rws F).flatten:=by
  refine nI (R:=B) (fun x=>x / 4194304) (fun _ _ _ _ h=>h) (vsF E) ((kR E).imp fun k=>by omega) fun a ha=>?_;obtain⟨e,he,k⟩:=(bJ a E).1 ha;have h1:=(hO.mem e.a e.b).2 ⟨e,he,rfl⟩;have h2:=hO.swap hE h1;rcases k with rfl|rfl
  .exact⟨_,by rw[gO];exact aAx h1,wZ (hO.b2 hE h1).2⟩
  .exact⟨_,by rw[gO];exact aAx h2,wZ (hO.b2 hE h2).2⟩
 have hcnt:=hO.cnt;have a1:=hO.swap hE h;have a2:=hO.swap hE h';refine QL hσ.per.eqv hB (l:=(Rws F).flatten) (fun x y ⟨n,hn⟩=>?_) (by simp only[sgV,tws]at *;omega) (by rw[gO];exact aAx a1) (by rw[gO];exact aAx a2) ?_
 .show x / 4194304=y / 4194304;rw[<- hn,hO.sgV_it hE]
 .show cd (v,u) / 4194304=cd (v,u') / 4194304;rw[wZ (hO.b2 hE a1).2,wZ (hO.b2 hE a2).2]
end
theorem Ku:∀ {P:List (Int×Int)},(P.map (·.1)).Nodup->∀ {u w:Int},(u,w)∈P->nF P u=w
 |p::P,hn,u,w,h=>by
  rw[aAj,aAD]at hn;unfold nF;rcases aAf.1 h with rfl|h
  .rw[aAe rfl]
  .rw[aAa fun e=>hn.1 (by rw[e];exact aAx (f:=(·.1)) h)];exact Ku hn.2 h
section
variable {E:List Ed} {F:List (List Int)} (hO:iX E F) (hE:BlE E)
include hO hE
theorem iX.getA_eq(v:Int):dB v (aY F)=((F.flatMap trs).filter fun t=>decide (t.2.1=v)).map fun t=>(t.1,t.2.2):=by rw[xF,Mm v _ ((uZ F).nodup_iff.2 hO.nd)]
theorem iX.keys(v:Int):((dB v (aY F)).map (·.1)).Nodup/\∀ u,u∈(dB v (aY F)).map (·.1)↔(u,v)∈PF F:=by
 rw[hO.getA_eq hE,aBf];have hn:=(uZ F).nodup_iff.2 hO.nd;constructor
 .unfold List.Nodup at hn ⊢;rw[aAU]at hn ⊢;refine(hn.sublist aBq).imp_of_mem fun {s t} hs ht Wx e=>Wx ?_;rw[aAz,aAO]at hs ht;exact aDD e (by rw[hs.2,ht.2])
 .intro u;rw[<- (uZ F).mem_iff,aAm,aAm];constructor
  .rintro⟨t,ht,rfl⟩;rw[aAz,aAO]at ht;exact⟨t,ht.1,by rw[<- ht.2];rfl⟩
  .rintro⟨t,ht,e⟩;injection e with e1 e2;exact⟨t,by rw[aAz,aAO];exact⟨ht,e2⟩,e1⟩
theorem iX.step{u v:Int}(h:(u,v)∈PF F):(∃ r∈F,(u,v)∈prs r/\(v,nF (dB v (aY F)) u)∈prs r)/\sgV E F (cd (v,u))=cd (v,nF (dB v (aY F)) u):=by
 obtain⟨w,h1,r,hr,k1,k2,k3⟩:=hO.next hE h;have Xt:(u,w)∈dB v (aY F):=by rw[hO.getA_eq hE];exact aAm.2 ⟨(u,v,w),by rw[aAz];exact⟨h1,sS⟩,rfl⟩
 rw[Ku (hO.keys hE v).1 Xt,hO.sgV_at hE h];exact⟨⟨r,hr,k1,k2⟩,k3⟩
theorem iX.round(h0:E≠[]){v:Int}(hv:v∈vsF E):(bY (dB v (aY F))).Nodup/\bY (dB v (aY F))≠[]/\(∀ u,u∈bY (dB v (aY F))↔∃ e∈E,prE e=prP v u)/\
 ∀ u∈bY (dB v (aY F)),∃ r∈F,(u,v)∈prs r/\(v,nx (bY (dB v (aY F))) u)∈prs r:=by
 have hk:=hO.keys hE v;have YR:=fun u (h:(u,v)∈PF F)=>hO.step hE h;have Yx:=fun u u' (h:(u,v)∈PF F) (h':(u',v)∈PF F)=>hO.one_turn hE h0 h h';have hb:=fun p (h:p∈PF F)=>hO.b2 hE h;obtain⟨u0,hu0⟩:∃ u,(u,v)∈PF F:=by
  obtain⟨e,he,k⟩:=(bJ v E).1 hv;have h1:=(hO.mem e.a e.b).2 ⟨e,he,rfl⟩;rcases k with rfl|rfl
  .exact⟨_,hO.swap hE h1⟩
  .exact⟨_,h1⟩
 have hswap:=fun u w (h:(u,w)∈PF F)=>hO.swap hE h;generalize dB v (aY F)=P at *;have hK0:P.map (·.1)≠[]:=aCc ((hk.2 u0).2 hu0);have hP:P≠[]:=fun e=>hK0 (by rw[e];rfl);have hf:(mn (P.map (·.1)),v)∈PF F:=(hk.2 _).1 (pP hK0);generalize hfe:mn (P.map (·.1))=f at *;let nv:Int->Int:=fun x=>if x∈P.map (·.1)then nF P x else x
 have nvin:∀ u,(u,v)∈PF F->nv u=nF P u:=fun u hu=>aAe ((hk.2 u).2 hu);have nvPF:∀ u,(u,v)∈PF F->(nv u,v)∈PF F:=fun u hu=>by rw[nvin u hu];obtain⟨⟨r,hr,_,k⟩,_⟩:=YR u hu;exact hswap _ _ (fX.2 ⟨r,hr,k⟩)
 have itPF:∀ n u,(u,v)∈PF F->(it nv n u,v)∈PF F/\it (sgV E F) n (cd (v,u))=cd (v,it nv n u):=by
  intro n;induction n with
  |zero=>intro u hu;exact⟨hu,rfl⟩
  |succ n ih=>intro u hu;obtain⟨i1,i2⟩:=ih u hu;rw[cT,cT,i2,(YR _ i1).2,<- nvin _ i1];exact⟨nvPF _ i1,rfl⟩
 have orb:∀ u u',(u,v)∈PF F->(u',v)∈PF F->Orb nv u u':=fun u u' hu P4=>by obtain⟨n,hn⟩:=Yx u u' hu P4;rw[(itPF n u hu).2]at hn;have:=pL (hb _ (hswap _ _ (itPF n u hu).1)).2 (hb _ (hswap _ _ P4)).2 hn;injection this with _ e;exact⟨n,e⟩
 have hper:∃ p,0<p/\it nv p f=f:=by obtain⟨n,hn⟩:=orb (nv f) f (nvPF f hf) hf;exact⟨n+1,oO,hn⟩
 obtain⟨p,⟨hp0,hpf⟩,Yp⟩:=least (P:=fun n=>0<n/\it nv n f=f) hper.choose_spec;have hdist:∀ i j,i<j->j<p->it nv i f≠it nv j f:=by
  intro i j hij hj e;have h1:it nv (p-j) (it nv j f)=f:=by rw[<- oV,show p-j+j=p by omega,hpf]
  rw[<- e,<- oV]at h1;exact Yp (p-j+i) oO ⟨oO,h1⟩
 have hnd:((List.range p).map fun k=>it nv k f).Nodup:=by unfold List.Nodup;rw[aAU];exact(aBN (n:=p)).imp_of_mem fun {i j} _ hj hij=>hdist i j hij (aAX.1 hj)
 have Zt:∀ u,u∈((List.range p).map fun k=>it nv k f)↔(u,v)∈PF F:=fun u=>by
  constructor
  .intro h;obtain⟨k,_,rfl⟩:=aAm.1 h;exact(itPF k f hf).1
  .intro hu;obtain⟨n,rfl⟩:=orb f u hf hu;exact aAm.2 ⟨n % p,aAX.2 (aCj _ hp0),(Hv hp0 hpf n).symm⟩
 have hlen:p=P.length:=by
  have:=(zY hnd hk.1 (fun x hx=>(hk.2 x).2 ((Zt x).1 hx)) (by
   refine aAC hk.1 fun x hx=>(Zt x).2 ((hk.2 x).1 hx))).length_eq
  simpa using this
 have F7:∀ m k,k+m=p->0<m->goR P f m (it nv k f)=(List.range' k m).map fun k=>it nv k f:=by
  intro m;induction m with
  |zero=>intro k _ h;omega
  |succ m ih=>
   intro k ZA _;have e1:nF P (it nv k f)=it nv (k+1) f:=by rw[cT,nvin _ (itPF k f hf).1]
   rw[List.range'_succ,aAj,goR,e1]
   congr 1
   by_cases hm:0<m
   .rw[aAe ⟨fun e=>Yp (k+1) oO ⟨oO,e⟩,hm⟩];exact ih (k+1) oO hm
   .rw[aAa fun h=>hm h.2];have:m=0:=oO;subst this;rfl
 have hR:bY P=(List.range p).map fun k=>it nv k f:=by unfold bY;rw[hfe,<- hlen,List.range_eq_range'];exact F7 p 0 oO hp0
 rw[hR];refine⟨hnd,?_,fun u=>?_,fun u hu=>?_⟩
 .intro e;have:=congrArg List.length e;simp at this;omega
 .rw[Zt,hO.mem];constructor
  .rintro⟨e,he,k⟩;exact⟨e,he,by rw[k];exact bL _ _⟩
  .rintro⟨e,he,k⟩;exact⟨e,he,by rw[k];exact bL _ _⟩
 .have huv:=(Zt u).1 hu;obtain⟨⟨r,hr,k1,k2⟩,_⟩:=YR u huv;refine⟨r,hr,k1,?_⟩;obtain⟨k,ZA,rfl⟩:=aAm.1 hu;rw[aAX]at ZA;have hl:((List.range p).map fun k=>it nv k f).length=p:=sS;have e1:=gM hnd (j:=k) (by rw[hl];exact ZA);simp only[aCn,List.getElem_range,hl]at e1;rw[e1,<- Hv hp0 hpf,cT,nvin _ huv];exact k2
end
theorem Iv{P Q:List Int}{y z:Int}(hn:(P++y::z::Q).Nodup):nx (P++y::z::Q) y=z:=by
 have hk:P.length<(P++y::z::Q).length:=sS;have e:(P++y::z::Q)[P.length]=y:=by rw[aBx (aAi _)];simp
 have:=gM hn hk;rw[e]at this;rw[this];have e2:(P.length+1) % (P++y::z::Q).length=P.length+1:=aAK sS;simp only[e2];rw[aBx oO];simp
theorem Er{z:Int}{Q P:List Int}{y:Int}(hn:(z::Q).Nodup)(h:z::Q=P++[y]):nx (z::Q) y=z:=by
 have h0:(P++[y])[0]?=some z:=by rw[<- h];rfl
 rw[h]at hn ⊢;have hk:P.length<(P++[y]).length:=sS;have e:(P++[y])[P.length]=y:=by rw[aBx (aAi _)];simp
 have:=gM hn hk;rw[e]at this;rw[this];have e2:(P.length+1) % (P++[y]).length=0:=sS;simp only[e2];rw[aAd sS,aAb]at h0;exact h0
theorem Uo{R:List Int}{S:Int->List Int}(hR:R.Nodup)(hn:(R.flatMap S).Nodup)(hS:∀ x∈R,S x≠[]){x:Int}(hx:x∈R):
 (∀ p y z q,S x=p++y::z::q->nx (R.flatMap S) y=z)/\∀ p y,S x=p++[y]->∃ z q,S (nx R x)=z::q/\nx (R.flatMap S) y=z:=by
 obtain⟨A,B,rfl⟩:=aCf hx;constructor
 .intro p y z q h;have e:(A++x::B).flatMap S=(A.flatMap S++p)++y::z::(q++B.flatMap S):=by simp[aCC,aAJ,h]
  rw[e]at hn ⊢;exact Iv hn
 .intro p y h;cases B with
  |cons x' B=>
   have h2:=hS x' sS;obtain⟨z,q,hz⟩:=aCl h2;refine⟨z,q,?_,?_⟩
   .rw[Iv hR,hz]
   .have e:(A++x::x'::B).flatMap S=(A.flatMap S++p)++y::z::(q++B.flatMap S):=by simp[aCC,aAJ,h,hz]
    rw[e]at hn ⊢;exact Iv hn
  |nil=>
   cases A with
   |nil=>
    obtain⟨z,q,hz⟩:=aCl (hS x sS);refine⟨z,q,?_,?_⟩
    .have e:nx [x] x=x:=Er (z:=x) (Q:=[]) (P:=[]) sS rfl;rw[List.nil_append,e,hz]
    .have e:([]++[x]).flatMap S=z::q:=by simp[hz]
     rw[e]at hn ⊢;exact Er hn (by rw[<- hz,h])
   |cons x' A=>
    obtain⟨z,q,hz⟩:=aCl (hS x' sS);refine⟨z,q,?_,?_⟩
    .have e:nx (x'::A++[x]) x=x':=Er (z:=x') (Q:=A++[x]) (P:=x'::A) (by simpa using hR) sS;rw[e,hz]
    .have e:(x'::A++[x]).flatMap S=z::(q++A.flatMap S++(p++[y])):=by simp[aCC,aAJ,h,hz]
     rw[e]at hn ⊢;exact Er (P:=z::(q++A.flatMap S++p)) hn sS
theorem lA:∀ G:List (List (List Int)),(G.map List.flatten).flatten=G.flatten.flatten
 |[]=>rfl
 |a::G=>by rw[aAj,List.flatten_cons,List.flatten_cons,aBZ,lA G]
noncomputable def fcs(al:Int->Int)(D:List Int)(Rs:List (List Int)):Nat:=ncl (Orb fun d=>sgR Rs (al d)) D
def fK(Rs:List (List Int)):Nat:=(Rs.filter fun t=>decide (t≠[])).length
structure Inv2(al:Int->Int)(D:List Int):Prop where
 two:∀ d,al (al d)=d
 mem:∀ d∈D,al d∈D
section
variable {al:Int->Int} {D:List Int} (F8:Inv2 al D) (YY:∀ d,d∉D->al d=d)
include F8 YY
theorem JH{Rs:List (List Int)}(hn:Rs.flatten.Nodup)(hD:∀ d∈Rs.flatten,d∈D):gW D fun d=>sgR Rs (al d):=by
 have h:=kC hn;refine⟨fun x hx=>?_,fun x y e=>?_,fun x hx=>?_⟩
 .by_cases hy:al x∈Rs.flatten
  .exact hD _ (h.mem _ hy)
  .show sgR Rs (al x)∈D;rw[h.out _ hy];exact F8.mem x hx
 .have:=h.inj _ _ e;rw[<- F8.two x,this,F8.two]
 .show sgR Rs (al x)=x;rw[YY x hx,h.out x fun k=>hx (hD x k)]
theorem Vq(a b d:Int):Eu.sw a b (al d)=al (Eu.sw (al a) (al b) d):=by
 by_cases h1:d=al a
 .subst h1;rw[CA,F8.two,F8.two,CA]
 .by_cases h2:d=al b
  .subst h2;rw[FO,F8.two,F8.two,FO]
  .rw[uF h1 h2,uF (fun e=>h1 (by rw[<- e,F8.two])) (fun e=>h2 (by rw[<- e,F8.two]))]
omit F8 YY in
theorem pQ{Rs T6:List (List Int)}(hn:Rs.flatten.Nodup)(hp:Rs.Perm T6):fcs al D Rs=fcs al D T6:=by
 unfold fcs;have:(fun d=>sgR Rs (al d))=fun d=>sgR T6 (al d):=by funext d;exact NV hn hp _
 rw[this]
omit F8 YY in
theorem mT{Rs T6:List (List Int)}(hp:Rs.Perm T6):fK Rs=fK T6:=(hp.filter _).length_eq
omit F8 YY in
theorem Ey(Rs:List (List Int)):fcs al D ([]::Rs)=fcs al D Rs:=by
 unfold fcs;have:(fun d=>sgR ([]::Rs) (al d))=fun d=>sgR Rs (al d):=by
  funext d;unfold sgR;rw[aDd sS]
 rw[this]
omit F8 YY in
theorem Bf(Rs:List (List Int)):fK ([]::Rs)=fK Rs:=by simp[fK]
theorem UM{A B:List Int}{Rs:List (List Int)}(hn:(A::B::Rs).flatten.Nodup)(hD:∀ d∈(A::B::Rs).flatten,d∈D):fcs al D (A::B::Rs)+fK ((A++B)::Rs)<=fcs al D ((A++B)::Rs)+fK (A::B::Rs):=by
 by_cases hA:A=[]
 .subst hA;rw[Ey,Bf,List.nil_append];exact aAi _
 by_cases hB:B=[]
 .subst hB;have hp:(A::[]::Rs).Perm ([]::A::Rs):=List.Perm.swap _ _ _;rw[pQ hn hp,mT hp,Ey,Bf,aAP];exact aAi _
 have e:(fun d=>sgR ((A++B)::Rs) (al d))=fun d=>(fun d=>sgR (A::B::Rs) (al d)) (Eu.sw (al (A.getLast hA)) (al (B.getLast hB)) d):=by
  funext d
  show sgR ((A++B)::Rs) (al d)=sgR (A::B::Rs) (al (Eu.sw (al (A.getLast hA)) (al (B.getLast hB)) d));rw[Qr hn hA hB,Vq F8 YY]
 have hP:=JH F8 YY hn hD;have ha:al (A.getLast hA)∈D:=F8.mem _ (hD _ sS);have hb:al (B.getLast hB)∈D:=F8.mem _ (hD _ sS);have:=UL hP ha hb;have h1:fcs al D (A::B::Rs)<=fcs al D ((A++B)::Rs)+1:=by unfold fcs;rw[e];exact this
 have h2:fK (A::B::Rs)=fK Rs+2:=by simp[fK,hA,hB]
 have h3:fK ((A++B)::Rs)=fK Rs+1:=by simp[fK,hA]
 omega
theorem NM:∀(L:List (List Int)) {Rs:List (List Int)},(L++Rs).flatten.Nodup->(∀ d∈(L++Rs).flatten,d∈D)->fcs al D (L++Rs)+fK (L.flatten::Rs)<=fcs al D (L.flatten::Rs)+fK (L++Rs)
 |[],Rs,_,_=>by rw[List.nil_append,List.flatten_nil,Ey,Bf];exact aAi _
 |A::L,Rs,hn,hD=>by have p1:(A::L++Rs).Perm (L++A::Rs):=aBW.symm;have YZ:(L++A::Rs).flatten.Nodup:=p1.flatten.nodup_iff.1 hn;have hD1:∀ d∈(L++A::Rs).flatten,d∈D:=fun d hd=>hD d (p1.flatten.mem_iff.2 hd);have ih:=NM L YZ hD1;have e2:(L.flatten::A::Rs).flatten=(L++A::Rs).flatten:=sS;have p2:(L.flatten::A::Rs).Perm (A::L.flatten::Rs):=List.Perm.swap _ _ _;have ZI:(A::L.flatten::Rs).flatten.Nodup:=p2.flatten.nodup_iff.1 (by rw[e2];exact YZ);have hD2:∀ d∈(A::L.flatten::Rs).flatten,d∈D:=fun d hd=>hD1 d (by rw[<- e2];exact p2.flatten.mem_iff.2 hd);have m1:=UM F8 YY ZI hD2;rw[pQ hn p1,mT p1,List.flatten_cons];rw[pQ (by rw[e2];exact YZ) p2,mT p2]at ih;omega
theorem QZ:∀(G:List (List (List Int))) {Rs:List (List Int)},(G.flatten++Rs).flatten.Nodup->(∀ d∈(G.flatten++Rs).flatten,d∈D)->fcs al D (G.flatten++Rs)+fK (G.map List.flatten++Rs)<=fcs al D (G.map List.flatten++Rs)+fK (G.flatten++Rs)
 |[],Rs,_,_=>by simp
 |L::G,Rs,hn,hD=>by
  have e0:(L::G).flatten++Rs=L++(G.flatten++Rs):=sS;rw[e0]at hn hD;have m1:=NM F8 YY L hn hD;have p1:(L.flatten::(G.flatten++Rs)).Perm (G.flatten++L.flatten::Rs):=aBW.symm;have e1:(L.flatten::(G.flatten++Rs)).flatten=(L++(G.flatten++Rs)).flatten:=sS;have YZ:(L.flatten::(G.flatten++Rs)).flatten.Nodup:=by rw[e1];exact hn
  have ZI:(G.flatten++L.flatten::Rs).flatten.Nodup:=p1.flatten.nodup_iff.1 YZ;have hD2:∀ d∈(G.flatten++L.flatten::Rs).flatten,d∈D:=fun d hd=>hD d (by rw[<- e1];exact p1.flatten.mem_iff.2 hd);have ih:=QZ G ZI hD2;have p2:(G.map List.flatten++L.flatten::Rs).Perm (L.flatten::(G.map List.flatten++Rs)):=aBW;have hf:(G.map List.flatten++L.flatten::Rs).flatten.Perm (G.flatten++L.flatten::Rs).flatten:=by
   have:(G.map List.flatten++L.flatten::Rs).flatten=(G.flatten++L.flatten::Rs).flatten:=by rw[aBZ,aBZ,lA]
   rw[this]
  have hn3:(G.map List.flatten++L.flatten::Rs).flatten.Nodup:=hf.nodup_iff.2 ZI;rw[pQ YZ p1,mT p1]at m1;rw[pQ hn3 p2,mT p2]at ih;rw[e0,aAj,List.cons_append];omega
end
theorem Js{x y:Ed}:bes x y=true↔prE x=prE y:=by
 rw[rG];constructor
 .rintro(⟨h1,h2⟩|⟨h1,h2⟩)
  .show prP _ _=prP _ _;rw[h1,h2]
  .show prP _ _=prP _ _;rw[h1,h2];exact bL _ _
 .intro h;rcases cG h with⟨h1,h2⟩|⟨h1,h2⟩
  .exact .inl ⟨h1,h2⟩
  .exact .inr ⟨h1,h2⟩
theorem AV(l:List Ed):((sE l).map prE).Nodup:=by unfold List.Nodup;rw[aAU];exact(Fp l).imp fun {x y} h e=>by rw[Js.2 e]at h;cases h
theorem Gv{l:List Ed}:l.Pairwise (fun x y=>x.id<y.id)->∀ x∈l,∃ y∈sE l,prE y=prE x/\y.id<=x.id:=by
 induction l using xA with
 |h0=>intro _ x hx;cases hx
 |h1 l z ih=>
  intro hp x hx;rw[aBG]at hp;rw[lO];rcases aAg.1 hx with h|h
  .obtain⟨y,h1,h2⟩:=ih hp.1 x h
   split
   .exact⟨y,h1,h2⟩
   .exact⟨y,aAw _ h1,h2⟩
  .rw[aAl]at h;subst h
   split
   .rename_i ha;rw[aBO]at ha;obtain⟨y,h1,h2⟩:=ha;exact⟨y,h1,(Js.1 h2).symm,Int.le_of_lt (hp.2.2 y (nX _ y h1) x sS)⟩
   .exact⟨x,sS,rfl,aCg _⟩
theorem kN{α β:Type}{f:α->List β}:∀ {l:List α},l.Nodup->(∀ x∈l,(f x).Nodup)->(∀ x∈l,∀ y∈l,∀ z,z∈f x->z∈f y->x=y)->(l.flatMap f).Nodup
 |[],_,_,_=>.nil
 |x::l,hl,h1,h2=>by obtain⟨k1,k2⟩:=aAD.1 hl;rw[aAJ,aAs];refine⟨h1 x aAq,kN k2 (fun y hy=>h1 y (aAk _ hy)) fun y hy z hz=>h2 y (aAk _ hy) z (aAk _ hz),?_⟩;rintro a ha b hb rfl;obtain⟨y,hy,hay⟩:=aAT.1 hb;have:=h2 x aAq y (aAk _ hy) a ha hay;exact k1 (by rw[this];exact hy)
theorem JE{P Q:List Int}{y z:Int}(hn:(P++y::z::Q).Nodup):pv (P++y::z::Q) z=y:=by
 have hk:P.length+1<(P++y::z::Q).length:=sS;have e:(P++y::z::Q)[P.length+1]=z:=by rw[aBx oO];simp
 have hz:z∈P++y::z::Q:=sS;have hi:(P++y::z::Q).idxOf z=P.length+1:=by
  have:=hn.idxOf_getElem (P.length+1) hk
  rwa [e]at this
 unfold pv;rw[aAe hz,hi];have e2:(P.length+1+((P++y::z::Q).length-1)) % (P++y::z::Q).length=P.length:=by have hl:(P++y::z::Q).length=P.length+(Q.length+2):=sS;rw[show P.length+1+((P++y::z::Q).length-1)=P.length+(P++y::z::Q).length by omega,aDy,aAK oO]
 rw[e2,aAc,aBl (aAi _)];simp
abbrev seg(g:Gr)(v x:Int):List Int:=eO (iZ g v x) v x
def dAt(v:Int)(e:Ed):Int:=2*e.id+if e.b=v then 1 else 0
theorem iS(v:Int)(e:Ed):dAt v e / 2=e.id:=by unfold dAt;split<;>omega
theorem nB{g:Gr}{v x:Int}{e:Ed}:e∈iZ g v x↔e∈g.es/\prE e=prP v x:=by unfold iZ jC;rw[aAz,aAO]
theorem jM{g:Gr}{v x d:Int}:d∈seg g v x↔∃ e∈g.es,prE e=prP v x/\d=dAt v e:=by
 unfold seg eO;have key:d∈((iZ g v x).map fun e=>2*e.id+if e.b=v then 1 else 0)↔∃ e∈g.es,prE e=prP v x/\d=dAt v e:=by
  rw[aAm];constructor
  .rintro⟨e,he,rfl⟩;exact⟨e,(nB.1 he).1,(nB.1 he).2,rfl⟩
  .rintro⟨e,h1,h2,rfl⟩;exact⟨e,nB.2 ⟨h1,h2⟩,rfl⟩
 split
 .rw[aBP,key]
 .exact key
section
variable {g:Gr} (hg:GoodE g)
include hg
theorem QW{e:Ed}(he:e∈g.es){v x:Int}(h:prE e=prP v x):tw (dAt v e)=dAt x e:=by
 have Wx:=hg.ne e he;unfold tw dAt;rcases cG h with⟨h1,h2⟩|⟨h1,h2⟩
 .rw[aAa (show ¬e.b=v by omega),aAe (show e.b=x by omega),aAe oO];omega
 .rw[aAe (show e.b=v by omega),aAa (show ¬e.b=x by omega),aAa oO];omega
theorem PE{e f:Ed}(he:e∈g.es)(hf:f∈g.es)(h:e.id=f.id):e=f:=id_eq hg.ids he hf h
theorem mK(v x:Int):(seg g v x).Nodup:=by
 have key:((iZ g v x).map fun e=>2*e.id+if e.b=v then 1 else 0).Nodup:=by unfold List.Nodup;rw[aAU];refine(hg.ids.sublist (aBq (p:=fun e=>decide (prE e=prP v x)))).imp fun {a b} h e=>?_;have h1:=iS v a;have h2:=iS v b;unfold dAt at h1 h2;omega
 unfold seg eO
 split
 .exact(aCy _).nodup_iff.2 key
 .exact key
theorem Uj{v x:Int}(Wx:v≠x):seg g x v=((seg g v x).map tw).reverse:=by
 have hb:iZ g x v=iZ g v x:=by unfold iZ;rw[bL]
 have key:((iZ g v x).map fun e=>2*e.id+if e.b=x then 1 else 0)=((iZ g v x).map fun e=>2*e.id+if e.b=v then 1 else 0).map tw:=by rw[aBf];refine aAW fun e he=>?_;exact(QW hg (nB.1 he).1 (nB.1 he).2).symm
 unfold seg eO;rw[hb,key];by_cases h:x<v
 .rw[aAa oO,aAe h,List.map_reverse,aEC]
 .rw[aAe oO,aAa h]
def edD(g:Gr)(d:Int):Ed:=(g.es.find? fun e=>decide (e.id=d / 2)).getD ed0
def dvt(g:Gr)(d:Int):Int:=if d % 2=0 then(edD g d).a else(edD g d).b
def dot(g:Gr)(d:Int):Int:=if d % 2=0 then(edD g d).b else(edD g d).a
theorem TN{e:Ed}(he:e∈g.es){d:Int}(h:d / 2=e.id):edD g d=e:=by
 unfold edD;cases hf:g.es.find? fun e=>decide (e.id=d / 2) with
 |none=>exact absurd h.symm (by simpa using aCG.1 hf e he)
 |some f=>have h1:=aCq hf;have h2:=aDr hf;rw[aAO]at h2;show f=e;exact PE hg h1 he oO
theorem Oa{e:Ed}(he:e∈g.es){v x:Int}(h:prE e=prP v x):dvt g (dAt v e)=v/\dot g (dAt v e)=x:=by
 have Wx:=hg.ne e he;unfold dvt dot;rw[TN hg he (iS v e)];unfold dAt;rcases cG h with⟨h1,h2⟩|⟨h1,h2⟩
 .rw[aAa (show ¬e.b=v by omega),aAe oO,aAe oO];exact⟨h1,h2⟩
 .rw[aAe (show e.b=v by omega),aAa oO,aAa oO];exact⟨h2,h1⟩
theorem xT{v x d:Int}(h:d∈seg g v x):dvt g d=v/\dot g d=x:=by obtain⟨e,he,hp,rfl⟩:=jM.1 h;exact Oa hg he hp
theorem OY{d:Int}(h:d∈aS g.es):∃ e∈g.es,prE e=prP (dvt g d) (dot g d)/\d=dAt (dvt g d) e/\d∈seg g (dvt g d) (dot g d):=by
 obtain⟨e,he,hd⟩:=fR.1 h;have Wx:=hg.ne e he;have key:∀ v x,prE e=prP v x->d=dAt v e->∃ e∈g.es,prE e=prP (dvt g d) (dot g d)/\d=dAt (dvt g d) e/\d∈seg g (dvt g d) (dot g d):=fun v x hp hd=>by obtain⟨k1,k2⟩:=Oa hg he hp;rw[<- hd]at k1 k2;rw[k1,k2];exact⟨e,he,hp,hd,jM.2 ⟨e,he,hp,hd⟩⟩
 rcases hd with hd|hd
 .exact key e.a e.b rfl (by unfold dAt;rw[aAa (fun k=>Wx k.symm)];omega)
 .exact key e.b e.a (bL _ _) (by unfold dAt;rw[aAe rfl];exact hd)
theorem GF{v x d:Int}(h:d∈seg g v x):d∈aS g.es:=by obtain⟨e,he,hp,rfl⟩:=jM.1 h;exact bX.2 ⟨e,he,(iS _ _).symm⟩
theorem NY{v d:Int}:d∈ends g.es v↔∃ e∈g.es,(∃ x,prE e=prP v x)/\d=dAt v e:=by
 rw[eW];constructor
 .rintro⟨e,he,⟨h1,h2⟩|⟨h1,h2⟩⟩
  .have:=hg.ne e he;exact⟨e,he,⟨e.b,by rw[<- h1]⟩,by unfold dAt;rw[aAa oO];omega⟩
  .exact⟨e,he,⟨e.a,by rw[<- h1];exact bL _ _⟩,by unfold dAt;rw[aAe h1];exact h2⟩
 .rintro⟨e,he,⟨x,hp⟩,rfl⟩;have:=hg.ne e he;refine⟨e,he,?_⟩;unfold dAt;rcases cG hp with⟨h1,h2⟩|⟨h1,h2⟩
  .exact .inl ⟨h1,by rw[aAa oO];omega⟩
  .exact .inr ⟨h2,by rw[aAe h2]⟩
end
def bt(g:Gr)(F:List (List Int))(v:Int):List Int:=(bY (dB v (aY F))).flatMap (seg g v)
theorem Cp(v v':Int)(ds:List Int):∀ T:TL,dS v (oK v' ds T)=if v=v' then dS v T++ds else dS v T
 |[]=>by
  unfold oK dS dS;by_cases h:v=v'
  .simp[h]
  .rw[aAa fun e=>h e.symm,aAa h]
 |p::T=>by
  have ih:=Cp v v' ds T;unfold oK;by_cases hp:p.1=v'
  .rw[aAe hp];by_cases h:v=v'
   .simp[dS,h,hp]
   .simp only[dS,aAa h,aAa (fun e:v'=v=>h e.symm),aAa (fun e:p.1=v=>h (by rw[<- e,hp]))]
  .rw[aAa hp];by_cases h:v=v'
   .rw[aAe h]at ih ⊢;simp only[dS,aAa (fun e:p.1=v=>hp (by rw[e,h])),ih]
   .rw[aAa h]at ih ⊢;simp only[dS,ih]
theorem BH(g:Gr)(v v':Int):∀(L:List Int) (T:TL),dS v (dL g v' L T)=if v=v' then dS v T++L.flatMap (seg g v')else dS v T
 |[],T=>by simp[dL]
 |x::L,T=>by
  have ih:=BH g v v' L (oK v' (seg g v' x) T);have e:dL g v' (x::L) T=dL g v' L (oK v' (seg g v' x) T):=rfl;rw[e,ih,Cp];by_cases h:v=v'
  .simp[h,aAJ]
  .simp[h]
theorem As(g:Gr)(A:Tn)(v:Int):∀(K:List Int) (T:TL),K.Nodup->dS v (eS g A K T)=if v∈K then dS v T++(bY (dB v A)).flatMap (seg g v)else dS v T
 |[],T,_=>by simp[eS]
 |k::K,T,hn=>by
  obtain⟨h1,h2⟩:=aAD.1 hn;have ih:=As g A v K (dL g k (bY (dB k A)) T) h2;have e:eS g A (k::K) T=eS g A K (dL g k (bY (dB k A)) T):=rfl;rw[e,ih,BH];by_cases h:v=k
  .subst h;rw[aAa h1,aAe rfl,aAe aAq]
  .rw[aAa h];by_cases h3:v∈K
   .rw[aAe h3,aAe (aAk _ h3)]
   .rw[aAa h3,aAa (by simp[h,h3])]
theorem Ci{v:Int}:∀ {A:Tn},v∉A.map (·.1)->dB v A=[]
 |[],_=>rfl
 |a::A,h=>by rw[aAj,aAf,aCv]at h;unfold dB;rw[aAa fun e=>h.1 e.symm,Ci h.2]
theorem mX:bY []=[]:=rfl
theorem LI(g:Gr)(F:List (List Int))(T:TL)(v:Int):dS v (tZ g F T)=dS v T++bt g F v:=by
 have hn:(pN ((aY F).map (·.1))).Nodup:=(yW _).imp fun k=>by omega
 unfold tZ;rw[As g _ v _ T hn]
 split
 .rfl
 .rename_i h;rw[pU]at h;unfold bt;rw[Ci h,mX];simp
theorem Bh(g:Gr):∀(bl:List (List Ed)) (T T':TL),Dl g bl T=some (some T')->∃ Bs:List (List Ed×List (List Int)),Bs.map (·.1)=bl/\(∀ p∈Bs,Aq p.1=some (some p.2))/\∀ v,dS v T'=dS v T++Bs.flatMap fun p=>bt g p.2 v
 |[],T,T',h=>by
  simp only[Dl,aAb]at h;subst h;refine⟨[],?_,?_,?_⟩
  .rfl
  .intro p hp;cases hp
  .intro v;simp
 |l::bl,T,T',h=>by
  unfold Dl at h;cases hd:Aq l with
  |none=>rw[hd]at h;simp at h
  |some o=>
   rw[hd]at h;cases o with
   |none=>simp at h
   |some F=>
    simp only[Option.bind_some]at h
    split at h
    .obtain⟨Bs,h1,h2,h3⟩:=Bh g bl _ T' h;refine⟨(l,F)::Bs,by rw[aAj,h1],fun p hp=>?_,fun v=>?_⟩
     .rcases aAf.1 hp with rfl|hp
      .exact hd
      .exact h2 p hp
     .rw[h3,LI,aAJ,aAF]
    .cases h
abbrev BsT:=List (List Ed×List (List Int))
structure Sys(g:Gr)(Bs:BsT):Prop where
 gE:GoodE g
 ok:∀ p∈Bs,iX p.1 p.2/\BlE p.1/\p.1≠[]
 flat:(Bs.flatMap (·.1)).Perm (sE g.es)
theorem zG{α β:Type}{f:α->List β}:∀ {l:List α},(l.flatMap f).Nodup->∀ x∈l,∀ y∈l,∀ z,z∈f x->z∈f y->x=y
 |[],_,_,hx,_,_,_,_,_=>by cases hx
 |a::l,hn,x,hx,y,hy,z,h1,h2=>by
  rw[aAJ,aAs]at hn;rcases aAf.1 hx with ex|hx
  .rcases aAf.1 hy with ey|hy
   .rw[ex,ey]
   .exact absurd rfl (hn.2.2 z (by rw[<- ex];exact h1) z (aAT.2 ⟨y,hy,h2⟩))
  .rcases aAf.1 hy with ey|hy
   .exact absurd rfl (hn.2.2 z (by rw[<- ey];exact h2) z (aAT.2 ⟨x,hx,h1⟩))
   .exact zG hn.2.1 x hx y hy z h1 h2
theorem OS{α β:Type}{f:α->List β}:∀ {l:List α},(l.flatMap f).Nodup->(∀ x∈l,f x≠[])->l.Nodup/\∀ x∈l,(f x).Nodup
 |[],_,_=>⟨.nil,fun _ h=>by cases h⟩
 |a::l,hn,h=>by
  rw[aAJ,aAs]at hn;obtain⟨k1,k2⟩:=OS hn.2.1 fun x hx=>h x (aAk _ hx);refine⟨aAD.2 ⟨fun ha=>?_,k1⟩,fun x hx=>?_⟩
  .obtain⟨z,hz⟩:=aBp _ (h a aAq);exact hn.2.2 z hz z (aAT.2 ⟨a,ha,hz⟩) rfl
  .rcases aAf.1 hx with rfl|hx
   .exact hn.1
   .exact k2 x hx
theorem nD{E:List Ed}{F:List (List Int)}(hO:iX E F)(hE:BlE E){v:Int}(hv:v∉vsF E):dB v (aY F)=[]:=by
 have hk:=(hO.keys hE v).2;cases h:dB v (aY F) with
 |nil=>rfl
 |cons p P=>rw[h]at hk;obtain⟨e,he,hp⟩:=(hO.mem p.1 v).1 ((hk p.1).1 sS);exact absurd (iT he hp).2 hv
def rgO(Bs:BsT)(p:Int×Int):List (Int×Int):=match(Bs.flatMap (·.2)).find? (fun r=>decide (p∈prs r)) with
 |some r=>prs r
 |none=>[]
def lab(g:Gr)(Bs:BsT)(d:Int):List (Int×Int) ⊕ Int:=
 if(seg g (dvt g d) (dot g d)).head?=some d then .inl (rgO Bs (dvt g d,dot g d))else .inr (max (d / 2) (pv (seg g (dvt g d) (dot g d)) d / 2))
def grp(g:Gr)(Bs:BsT):List (List (List Int)):=g.vs.map fun v=>Bs.map fun p=>bt g p.2 v
def jV(g:Gr)(Bs:BsT)(v:Int):List Int:=Bs.flatMap fun p=>bt g p.2 v
theorem FE(g:Gr)(Bs:BsT):(grp g Bs).map List.flatten=g.vs.map (jV g Bs):=by unfold grp jV;rw[aBf];exact aAW fun v _=>by rw[Function.comp_apply,List.flatMap_def]
section
variable {g:Gr} {Bs:BsT} (hS:Sys g Bs)
include hS
theorem Sys.sim:(Bs.flatMap fun p=>p.1.map prE).Nodup:=by
 have:=(hS.flat.map prE).nodup_iff.2 (AV g.es)
 rwa [aEd]at this
theorem Sys.nd:Bs.Nodup:=(OS hS.sim fun p hp=>by rw[Ne,aCS];exact(hS.ok p hp).2.2).1
theorem Sys.same{p p':List Ed×List (List Int)}(hp:p∈Bs)(Zh:p'∈Bs){e e':Ed}(he:e∈p.1)(G6:e'∈p'.1)(h:prE e=prE e'):p=p':=
 zG hS.sim p hp p' Zh (prE e) (aAx he) (by rw[h];exact aAx G6)
theorem Sys.blk{e:Ed}(he:e∈g.es):∃ p∈Bs,∃ e1∈p.1,prE e1=prE e:=by obtain⟨y,h1,h2,_⟩:=Gv hS.gE.ids e he;obtain⟨p,hp,hy⟩:=aAT.1 (hS.flat.mem_iff.2 h1);exact⟨p,hp,y,hy,h2⟩
theorem Sys.sub{p:List Ed×List (List Int)}(hp:p∈Bs){e:Ed}(he:e∈p.1):e∈sE g.es/\e∈g.es:=by have:=hS.flat.mem_iff.1 (aAT.2 ⟨p,hp,he⟩);exact⟨this,nX _ _ this⟩
theorem Sys.bt_mem{p:List Ed×List (List Int)}(hp:p∈Bs){v d:Int}:d∈bt g p.2 v↔∃ e∈g.es,(∃ x,prE e=prP v x)/\d=dAt v e/\∃ e1∈p.1,prE e1=prE e:=by
 obtain⟨hO,hE,h0⟩:=hS.ok p hp;by_cases hv:v∈vsF p.1
 .have hR:=(hO.round hE h0 hv).2.2.1;unfold bt;rw[aAT];constructor
  .rintro⟨x,hx,hd⟩;obtain⟨e,he,Zb,rfl⟩:=jM.1 hd;obtain⟨e1,B7,ZF⟩:=(hR x).1 hx;exact⟨e,he,⟨x,Zb⟩,rfl,e1,B7,by rw[ZF,Zb]⟩
  .rintro⟨e,he,⟨x,Zb⟩,rfl,e1,B7,ZF⟩;exact⟨x,(hR x).2 ⟨e1,B7,by rw[ZF,Zb]⟩,jM.2 ⟨e,he,Zb,rfl⟩⟩
 .unfold bt;rw[nD hO hE hv,mX];simp only[aDG,aCe,false_iff];rintro⟨e,he,⟨x,Zb⟩,_,e1,B7,ZF⟩;exact hv (iT B7 (by rw[ZF,Zb])).1
theorem Sys.bt_nodup{p:List Ed×List (List Int)}(hp:p∈Bs)(v:Int):(bt g p.2 v).Nodup:=by
 obtain⟨hO,hE,h0⟩:=hS.ok p hp;unfold bt;by_cases hv:v∈vsF p.1
 .refine kN (hO.round hE h0 hv).1 (fun x _=>mK hS.gE v x) fun x _ y _ d h1 h2=>?_;rw[<- (xT hS.gE h1).2,(xT hS.gE h2).2]
 .rw[nD hO hE hv,mX];exact .nil
theorem Sys.turn_nodup(v:Int):(jV g Bs v).Nodup:=by refine kN hS.nd (fun p hp=>hS.bt_nodup hp v) fun p hp p' Zh d h1 h2=>?_;obtain⟨e,he,_,k1,e1,a1,a2⟩:=(hS.bt_mem hp).1 h1;obtain⟨f,hf,_,k2,f1,b1,b2⟩:=(hS.bt_mem Zh).1 h2;have:e=f:=PE hS.gE he hf (by rw[<- iS v e,<- k1,k2,iS]);subst this;exact hS.same hp Zh a1 b1 (by rw[a2,b2])
theorem Sys.turn_mem{v d:Int}:d∈jV g Bs v↔d∈ends g.es v:=by
 unfold jV;rw[NY hS.gE,aAT];constructor
 .rintro⟨p,hp,h⟩;obtain⟨e,he,hx,hd,_⟩:=(hS.bt_mem hp).1 h;exact⟨e,he,hx,hd⟩
 .rintro⟨e,he,hx,hd⟩;obtain⟨p,hp,e1,h1,h2⟩:=hS.blk he;exact⟨p,hp,(hS.bt_mem hp).2 ⟨e,he,hx,hd,e1,h1,h2⟩⟩
theorem Sys.turn_perm(v:Int):(jV g Bs v).Perm (ends g.es v):=
 (aBk (hS.turn_nodup v) (kB (wV hS.gE.ids v))).2 fun _=>hS.turn_mem
theorem Sys.grp_ff:(grp g Bs).flatten.flatten=g.vs.flatMap (jV g Bs):=by rw[<- lA,FE,List.flatMap_def]
theorem Sys.grp_nd:(grp g Bs).flatten.flatten.Nodup:=by rw[hS.grp_ff];refine kN hS.gE.toGood.nodup (fun v _=>hS.turn_nodup v) fun v _ w _ d h1 h2=>?_;exact jR hS.gE.ids (hS.turn_mem.1 h1) (hS.turn_mem.1 h2)
theorem Sys.grp_mem{d:Int}:d∈(grp g Bs).flatten.flatten↔d∈aS g.es:=by
 rw[hS.grp_ff,aAT];constructor
 .rintro⟨v,_,h⟩;exact vB (hS.turn_mem.1 h)
 .intro h;obtain⟨v,h1,x,hx,_,h2⟩:=KL h;have:=hS.gE.ends x hx;exact⟨v,by rcases h2 with rfl|rfl;(· exact this.1);(· exact this.2),hS.turn_mem.2 h1⟩
theorem Sys.ring_at{p:List Ed×List (List Int)}(hp:p∈Bs){r:List Int}(hr:r∈p.2){q:Int×Int}(hq:q∈prs r):rgO Bs q=prs r:=by
 unfold rgO;cases hf:(Bs.flatMap (·.2)).find? fun r=>decide (q∈prs r) with
 |none=>exact absurd hq (by simpa using aCG.1 hf r (aAT.2 ⟨p,hp,hr⟩))
 |some r'=>have h1:=aCq hf;have h2:=aDr hf;rw[aAO]at h2;obtain⟨p',Zh,o9⟩:=aAT.1 h1;obtain⟨e,he,k⟩:=((hS.ok p hp).1.mem q.1 q.2).1 (fX.2 ⟨r,hr,hq⟩);obtain⟨e',G6,k'⟩:=((hS.ok p' Zh).1.mem q.1 q.2).1 (fX.2 ⟨r',o9,h2⟩);have:=hS.same hp Zh he G6 (by rw[k,k']);subst this;have:=zG (f:=prs) (hS.ok p hp).1.nd r hr r' o9 q hq h2;rw[this]
theorem Sys.lab_inv{d:Int}(hd:d∈aS g.es):lab g Bs (sgR (grp g Bs).flatten (al g.es d))=lab g Bs d:=by
 have hg:=hS.gE;rw[uB hd];obtain⟨e,he,Zb,hde,H6⟩:=OY hg hd;have hlab:lab g Bs d=if(seg g (dvt g d) (dot g d)).head?=some d then .inl (rgO Bs (dvt g d,dot g d))else .inr (max (d / 2) (pv (seg g (dvt g d) (dot g d)) d / 2)):=rfl
 rw[hlab];generalize dvt g d=v at *;generalize dot g d=x at *;obtain⟨p,hp,e1,B7,ZF⟩:=hS.blk he;obtain⟨hO,hE,h0⟩:=hS.ok p hp;have hxv:prE e1=prP x v:=by rw[ZF,Zb];exact bL _ _
 have hx:=(iT B7 hxv).1;obtain⟨r1,r2,r3,r4⟩:=hO.round hE h0 hx;have hvR:=(r3 v).2 ⟨e1,B7,hxv⟩;have Wx:v≠x:=fun k=>by have:=hg.ne e he;rcases cG Zb with⟨k1,k2⟩|⟨k1,k2⟩<;>omega
 have htw:tw d∈seg g x v:=jM.2 ⟨e,he,by rw[Zb];exact bL _ _,by rw[hde];exact QW hg he Zb⟩;have hxg:x∈g.vs:=by
  have:=hg.ends e he;rcases cG Zb with⟨_,k2⟩|⟨k1,_⟩
  .rw[<- k2];exact this.2
  .rw[<- k1];exact this.1
 have Rp:bt g p.2 x∈(grp g Bs).flatten:=aAZ.2 ⟨_,aAx (f:=fun v=>Bs.map fun p=>bt g p.2 v) hxg,aAx (f:=fun p:List Ed×List (List Int)=>bt g p.2 x) hp⟩;have htr:tw d∈bt g p.2 x:=by unfold bt;exact aAT.2 ⟨v,hvR,htw⟩
 rw[fD hS.grp_nd Rp htr];have hbn:=hS.bt_nodup hp x;have hseg:∀ y∈bY (dB x (aY p.2)),seg g x y≠[]:=fun y hy=>by obtain⟨f,hf,hpf⟩:=(r3 y).1 hy;exact aCc (jM.2 ⟨f,(hS.sub hp hf).2,hpf,rfl⟩)
 obtain⟨n1,n2⟩:=Uo r1 hbn hseg hvR;have N8:=mK hg v x;have N6:=mK hg x v;obtain⟨P,Q,hL⟩:=aCf H6;have hL':seg g x v=(Q.map tw).reverse++tw d::(P.map tw).reverse:=by rw[Uj hg Wx,hL];simp
 show lab g Bs (nx (bt g p.2 x) (tw d))=_;rcases aDj P with hP|⟨P',y,hP⟩
 .subst hP;rw[aBz,List.reverse_nil]at hL';obtain⟨z,q,hz,hzz⟩:=n2 _ _ hL';have hw:=(r4 v hvR);have F4:nx (bt g p.2 x) (tw d)=z:=hzz;rw[F4,aAe (by rw[hL];rfl)];have hzs:z∈seg g x (nx (bY (dB x (aY p.2))) v):=by rw[hz];exact aAq
  obtain⟨z1,z2⟩:=xT hg hzs;unfold lab;rw[z1,z2,hz,aAe (show(z::q).head?=some z from rfl)];obtain⟨r,hr,k1,k2⟩:=hw;rw[hS.ring_at hp hr k1,hS.ring_at hp hr k2]
 .rw[hP,aDk,aAF,List.singleton_append]at hL;have N5:seg g x v=(Q.map tw).reverse++tw d::tw y::(P'.map tw).reverse:=by rw[hL',hP];simp
  have F4:nx (bt g p.2 x) (tw d)=tw y:=n1 _ _ _ _ N5;rw[F4];have N9:tw y∈seg g x v:=by rw[N5];simp
  obtain⟨z1,z2⟩:=xT hg N9;have h1:¬(seg g v x).head?=some d:=by
   rw[hL]at N8 ⊢;intro k;cases P' with
   |nil=>simp at k;subst k;simp at N8
   |cons a P'=>simp at k;subst k;simp at N8
  have h2:¬(seg g x v).head?=some (tw y):=by
   rw[N5]at N6 ⊢;intro k;cases hQ:(Q.map tw).reverse with
   |nil=>rw[hQ]at k N6;simp at k;rw[k]at N6;simp at N6
   |cons a Q'=>rw[hQ]at k N6;simp at k;rw[k]at N6;simp at N6
  rw[aAa h1];unfold lab;rw[z1,z2,aAa h2];have p1:pv (seg g v x) d=y:=by rw[hL];rw[hL]at N8;exact JE N8
  have p2:pv (seg g x v) (tw y)=tw d:=by rw[N5];rw[N5]at N6;exact JE N6
  rw[p1,p2,EJ,EJ,Int.max_comm]
theorem Sys.faces:(Bs.flatMap (·.2)).length+(g.es.length-(sE g.es).length)<=fcs (al g.es) (aS g.es) (grp g Bs).flatten:=by
 have hg:=hS.gE;let X1:List (List (Int×Int) ⊕ Int):=(Bs.flatMap (·.2)).map fun r=>.inl (prs r);let X2:List (List (Int×Int) ⊕ Int):=(g.es.filter fun e=>!decide (e∈sE g.es)).map fun e=>.inr e.id;have hlen:(X1++X2).length=(Bs.flatMap (·.2)).length+(g.es.length-(sE g.es).length):=by
  have hn:g.es.Nodup:=hg.ids.imp fun {a b} h e=>by rw[e]at h;omega
  have h1:(g.es.filter fun e=>decide (e∈sE g.es)).length+(g.es.filter fun e=>!decide (e∈sE g.es)).length=g.es.length:=by
   have:∀ l:List Ed,(l.filter fun e=>decide (e∈sE g.es)).length+(l.filter fun e=>!decide (e∈sE g.es)).length=l.length:=by
    intro l;induction l with
    |nil=>rfl
    |cons a l ih=>by_cases h:a∈sE g.es<;>simp[h]at ih ⊢<;>omega
   exact this _
  have h2:(g.es.filter fun e=>decide (e∈sE g.es)).length=(sE g.es).length:=by
   refine((aBk (hn.sublist aBq) ?_).2 fun e=>?_).length_eq
   .have:=AV g.es;exact(aAU.1 this).imp fun {a b} h e=>h (by rw[e])
   .rw[aAz,aAO];exact⟨And.right,fun h=>⟨nX _ _ h,h⟩⟩
  rw[aAh,aAA,aAA];omega
 rw[<- hlen];unfold fcs;have YR:∀ d,d∈aS g.es->lab g Bs (sgR (grp g Bs).flatten (al g.es d))=lab g Bs d:=fun d hd=>hS.lab_inv hd;have Xt:∀ d,d∈aS g.es->sgR (grp g Bs).flatten (al g.es d)∈aS g.es:=fun d hd=>by have h1:al g.es d∈aS g.es:=(Ds _ _ _).2 hd;exact hS.grp_mem.1 ((kC hS.grp_nd).mem _ (hS.grp_mem.2 h1))
 refine nI (lab g Bs) (fun x hx y _ ho=>?_) (X1++X2) ?_ fun a ha=>?_
 .have key:∀ n,it (fun d=>sgR (grp g Bs).flatten (al g.es d)) n x∈aS g.es/\lab g Bs (it (fun d=>sgR (grp g Bs).flatten (al g.es d)) n x)=lab g Bs x:=by
   intro n;induction n with
   |zero=>exact⟨hx,rfl⟩
   |succ n ih=>rw[cT];exact⟨Xt _ ih.1,by rw[YR _ ih.1,ih.2]⟩
  obtain⟨n,hn⟩:=ho;rw[<- hn];exact(key n).2.symm
 .refine aAs.2 ⟨?_,?_,?_⟩
  ·
   have hpf:((Bs.flatMap (·.2)).flatMap prs).Nodup:=by rw[List.flatMap_assoc];refine kN hS.nd (fun p hp=>(hS.ok p hp).1.nd) fun p hp p' Zh q h1 h2=>?_;obtain⟨e,he,k⟩:=((hS.ok p hp).1.mem q.1 q.2).1 h1;obtain⟨e',G6,k'⟩:=((hS.ok p' Zh).1.mem q.1 q.2).1 h2;exact hS.same hp Zh he G6 (by rw[k,k'])
   have Wx:∀ r∈Bs.flatMap (·.2),prs r≠[]:=fun r hr e=>by obtain⟨p,hp,hr⟩:=aAT.1 hr;have h1:=(hS.ok p hp).1.ne r hr;have h2:=qJ r;rw[e]at h2;exact h1 (aCz.1 h2.symm)
   have hnd:=(OS hpf Wx).1;show(List.map _ _).Nodup;unfold List.Nodup;rw[aAU];refine hnd.imp_of_mem fun {r r'} hr o9 O8 e=>O8 ?_;injection e with e;obtain⟨z,hz⟩:=aBp _ (Wx r hr);exact zG hpf r hr r' o9 z hz (by rw[<- e];exact hz)
  .show(List.map _ _).Nodup;unfold List.Nodup;rw[aAU];refine(hg.ids.sublist aBq).imp fun {a b} h e=>?_;injection e with e;omega
  .rintro a h1 b h2 rfl;obtain⟨r,_,k1⟩:=aAm.1 h1;obtain⟨e,_,k2⟩:=aAm.1 h2;rw[<- k1]at k2;cases k2
 .rcases aAg.1 ha with ha|ha
  .obtain⟨r,hr,rfl⟩:=aAm.1 ha;obtain⟨p,hp,hr⟩:=aAT.1 hr;obtain⟨hO,hE,h0⟩:=hS.ok p hp;obtain⟨v,hv⟩:=aBp _ (hO.ne r hr);obtain⟨x,hx⟩:=Hu hv;obtain⟨e1,B7,ZF⟩:=(hO.mem v x).1 (fX.2 ⟨r,hr,hx⟩);have hs:seg g v x≠[]:=aCc (jM.2 ⟨e1,(hS.sub hp B7).2,ZF,rfl⟩);obtain⟨d,q,hd⟩:=aCl hs;have H6:d∈seg g v x:=by rw[hd];exact aAq
   obtain⟨k1,k2⟩:=xT hg H6;refine⟨d,GF hg H6,?_⟩;unfold lab;rw[k1,k2,hd,aAe (show(d::q).head?=some d from rfl),hS.ring_at hp hr hx]
  .obtain⟨e,he,rfl⟩:=aAm.1 ha;rw[aAz]at he;obtain⟨he,YI⟩:=he;have YI:e∉sE g.es:=by simpa using YI
   obtain⟨f,hf,hpf,Xr⟩:=Gv hg.ids e he;have hfe:f≠e:=fun k=>YI (by rw[<- k];exact hf);have hfg:=nX _ _ hf;have dN:f.id<e.id:=by
    rcases Int.lt_or_eq_of_le Xr with h|h
    .exact h
    .exact absurd (PE hg hfg he h) hfe
   obtain⟨v,x,hvx,Zb⟩:∃ v x,v<x/\prE e=prP v x:=by
    have:=hg.ne e he;rcases Int.lt_or_gt_of_ne this with h|h
    .exact⟨e.a,e.b,h,rfl⟩
    .exact⟨e.b,e.a,h,bL _ _⟩
   have hseg:seg g v x=(iZ g v x).map (dAt v):=by unfold seg eO;rw[aAa oO];rfl
   have heb:e∈iZ g v x:=nB.2 ⟨he,Zb⟩;have hfb:f∈iZ g v x:=nB.2 ⟨hfg,by rw[hpf,Zb]⟩;have M0:(iZ g v x).Pairwise fun a b=>a.id<b.id:=hg.ids.sublist aBq;obtain⟨A,B,hAB⟩:=aCf heb;have hfA:f∈A:=by
    rw[hAB]at hfb M0;rcases aAg.1 hfb with h|h
    .exact h
    .rcases aAf.1 h with h|h
     .exact absurd h hfe
     .have:=(aBc.1 (aBG.1 M0).2.1).1 f h;omega
   rcases aDj A with hA|⟨A',y,hA⟩
   .rw[hA]at hfA;cases hfA
   rw[aDk]at hA;have hL:seg g v x=A'.map (dAt v)++dAt v y::dAt v e::B.map (dAt v):=by rw[hseg,hAB,hA];simp
   have N8:=mK hg v x;have hye:y.id<e.id:=by rw[hAB,hA]at M0;exact(aBG.1 M0).2.2 y sS e sS
   have H6:dAt v e∈seg g v x:=by rw[hL];simp
   obtain⟨k1,k2⟩:=xT hg H6;refine⟨dAt v e,GF hg H6,?_⟩;unfold lab;rw[k1,k2,aAa,show pv (seg g v x) (dAt v e)=dAt v y by rw[hL];rw[hL]at N8;exact JE N8,iS,iS,Int.max_eq_left oO];rw[hL]at N8 ⊢;intro k;cases A' with
   |nil=>simp at k;rw[k]at N8;simp at N8
   |cons a A'=>simp at k;rw[aAj,k]at N8;simp at N8
end
def oth(x:Ed)(v:Int):Int:=if x.a=v then x.b else x.a
abbrev eAt(es:List Ed)(i:Nat):Ed:=es.getD i ed0
def atP(es:List Ed)(v:Int):List Nat:=(List.range es.length).filter fun i=>decide ((eAt es i).a=v\/(eAt es i).b=v)
structure Bw where
 vis:List Int
 low:List Int
 stk:List Nat
 out:List (List Nat)
def nmW(V:List Int)(v:Int):Int:=if v∈V then(V.idxOf v:Int)+1 else 0
def lwW(s:Bw)(v:Int):Int:=s.low.getD (s.vis.idxOf v) 0
def mV(s:Bw)(v x:Int):Bw:={ s with low:=s.low.set (s.vis.idxOf v) x }
def eD(s:Bw)(i:Nat):Bw:={ s with stk:=s.stk++[i] }
def iU(l:List Nat)(i:Nat):Nat:=l.length-1-l.reverse.idxOf i
def sW(n:Nat)(seg:List Nat):List Nat:=(List.range n).filter fun i=>decide (i∈seg)
def Gy(n:Nat)(s:Bw)(i:Nat):Option Bw:=if i∈s.stk then some { s with stk:=s.stk.take (iU s.stk i),out:=s.out++[sW n (s.stk.drop (iU s.stk i))] } else none
def goB(f:Bw->Nat->Option Bw):List Nat->Bw->Option Bw
 |[],s=>some s
 |i::l,s=>(f s i).bind (goB f l)
def LY(n:Nat)(v mine:Int)(i:Nat)(u:Int)(s1:Bw):Option Bw:=
 if mine<=lwW s1 u then Gy n (mV s1 v (min (lwW s1 v) (lwW s1 u))) i else some (mV s1 v (min (lwW s1 v) (lwW s1 u)))
def fW(rec:Int->Int->Bw->Option Bw)(es:List Ed)(v YN mine:Int)(s:Bw)(i:Nat):Option Bw:=
 if(i:Int)=YN then some s
 else if oth (eAt es i) v∈s.vis then
  (if nmW s.vis (oth (eAt es i) v)<mine then some (mV (eD s i) v (min (lwW s v) (nmW s.vis (oth (eAt es i) v))))else some s)
 else(rec (oth (eAt es i) v) i (eD s i)).bind (LY es.length v mine i (oth (eAt es i) v))
def oN(s:Bw)(v:Int):Bw:={ s with vis:=s.vis++[v],low:=s.low++[(s.vis.length:Int)+1] }
def nO(es:List Ed):Nat->Int->Int->Bw->Option Bw
 |0,_,_,_=>none
 |n+1,v,YN,s=>goB (fW (nO es n) es v YN ((s.vis.length:Int)+1)) (atP es v) (oN s v)
def sN(es:List Ed)(n:Nat):List Int->Bw->Option Bw
 |[],s=>some s
 |v::l,s=>if v∈s.vis then sN es n l s else(nO es n v (-1) s).bind (sN es n l)
inductive RIn(es:List Ed)(S:Int->Prop)(x:Int):Int->Prop
 |refl (h:S x):RIn es S x x
 |step {y z:Int} (h:RIn es S x y) (hz:z∈nbr es y) (hs:S z):RIn es S x z
theorem RIn.here{es:List Ed}{S:Int->Prop}{x y:Int}(h:RIn es S x y):S x/\S y:=by
 induction h with
 |refl h=>exact⟨h,h⟩
 |step _ _ hs ih=>exact⟨ih.1,hs⟩
theorem RIn.trans{es:List Ed}{S:Int->Prop}{x y z:Int}(h:RIn es S x y)(k:RIn es S y z):RIn es S x z:=by
 induction k with
 |refl=>exact h
 |step _ hz hs ih=>exact .step ih hz hs
theorem RIn.symm{es:List Ed}{S:Int->Prop}{x y:Int}(h:RIn es S x y):RIn es S y x:=by
 induction h with
 |refl h=>exact .refl h
 |step h hz hs ih=>exact(RIn.step (.refl hs) (qH hz) h.here.2).trans ih
theorem RIn.mono{es:List Ed}{S S':Int->Prop}{x y:Int}(h:RIn es S x y)(hS:∀ z,S z->S' z):RIn es S' x y:=by
 induction h with
 |refl h=>exact .refl (hS _ h)
 |step _ hz hs ih=>exact .step ih hz (hS _ hs)
theorem RIn.closed{es:List Ed}{S L:Int->Prop}{x y:Int}(h:RIn es S x y)(hx:L x)(hc:∀ z,L z->∀ w∈nbr es z,S w->L w):L y:=by
 induction h with
 |refl=>exact hx
 |step h hz hs ih=>exact hc _ ih _ hz hs
def QM(es:List Ed)(w:Int)(x y:Ed):Prop:=(x.a=w\/x.b=w)/\(y.a=w\/y.b=w)/\RIn es (·≠w) (oth x w) (oth y w)
def GC(es:List Ed)(x y:Ed):Prop:=∃ w,QM es w x y
theorem GC.symm{es:List Ed}{x y:Ed}:GC es x y->GC es y x:=fun⟨w,h1,h2,h3⟩=>⟨w,h2,h1,h3.symm⟩
inductive mF(es:List Ed)(i:Nat):Nat->Prop
 |refl:mF es i i
 |step {j k:Nat} (h:mF es i j) (hj:j<es.length) (hk:k<es.length) (hr:GC es (eAt es j) (eAt es k)):mF es i k
theorem mF.trans{es:List Ed}{i j k:Nat}(h:mF es i j)(h2:mF es j k):mF es i k:=by
 induction h2 with
 |refl=>exact h
 |step _ hj hk hr ih=>exact .step ih hj hk hr
theorem mF.symm{es:List Ed}{i j:Nat}(h:mF es i j):mF es j i:=by
 induction h with
 |refl=>exact .refl
 |step _ hj hk hr ih=>exact(mF.step .refl hk hj hr.symm).trans ih
structure dJ(es:List Ed)(B:List Nat):Prop where
 ne:B≠[]
 rise:B.Pairwise (· < ·)
 lt:∀ i∈B,i<es.length
 rel:∀ i∈B,∀ j∈B,mF es i j
 all:∀ i∈B,∀ j,j<es.length->GC es (eAt es i) (eAt es j)->j∈B
theorem dJ.iff{es:List Ed}{B:List Nat}(h:dJ es B){i j:Nat}(hi:i∈B):j∈B↔mF es i j:=by
 refine⟨h.rel i hi j,fun hr=>?_⟩;induction hr with
 |refl=>exact hi
 |step _ _ hk hr ih=>exact h.all _ ih _ hk hr
theorem aU{es:List Ed}{v:Int}{i:Nat}:i∈atP es v↔i<es.length/\((eAt es i).a=v\/(eAt es i).b=v):=by unfold atP;rw[aAz,aAX,aAO]
theorem nN{es:List Ed}{i:Nat}(h:i<es.length):eAt es i∈es:=by unfold eAt;rw[cV _ _ h];exact aAu _
theorem lM{x:Ed}{v:Int}(h:x.a=v\/x.b=v):oth x (oth x v)=v:=by
 unfold oth;rcases h with h|h
 .rw[aAe h];split<;>omega
 .split
  .split<;>omega
  .rw[aAe rfl,h]
theorem lT(x:Ed)(v:Int):x.a=oth x v\/x.b=oth x v:=by
 unfold oth;split
 .exact .inr rfl
 .exact .inl rfl
theorem US{x:Ed}{v:Int}(h:x.a≠x.b)(hv:x.a=v\/x.b=v):oth x v≠v:=by unfold oth;split<;>omega
theorem eU{x:Ed}{v:Int}(hv:x.a=v\/x.b=v)(c:Int):(x.a=c\/x.b=c)↔(c=v\/c=oth x v):=by unfold oth;split<;>omega
theorem lS{es:List Ed}{i:Nat}{v:Int}(h:i∈atP es v):oth (eAt es i) v∈nbr es v:=by
 obtain⟨h1,h2⟩:=aU.1 h;rw[cU];refine⟨_,nN h1,?_⟩;unfold oth
 split
 .exact .inl ⟨by assumption,rfl⟩
 .refine .inr ⟨oO,rfl⟩
theorem Ek{es:List Ed}{v w:Int}(h:w∈nbr es v):∃ i∈atP es v,oth (eAt es i) v=w:=by
 rw[cU]at h;obtain⟨x,hx,h⟩:=h;obtain⟨i,hi,rfl⟩:=aAy hx;have e:eAt es i=es[i]:=cV _ _ hi;refine⟨i,aU.2 ⟨hi,by rw[e];omega⟩,?_⟩;unfold oth;rw[e]
 split<;>omega
theorem yO{es:List Ed}{i:Nat}{v:Int}(h:i∈atP es v):i∈atP es (oth (eAt es i) v):=aU.2 ⟨(aU.1 h).1,lT _ _⟩
structure yI(g:Gr)(A:Int->Prop)(s:Bw)(v YN:Int):Prop where
 ln:s.low.length=s.vis.length
 nd:s.vis.Nodup
 act:∀ a,A a->a∈s.vis
 fin:∀ w∈s.vis,¬A w->∀ i∈atP g.es w,oth (eAt g.es i) w∈s.vis
 new:v∉s.vis
 con:∀ a b,A a->A b->RIn g.es A a b
 par:(YN = -1/\∀ a,¬A a)\/∃ i:Nat,YN=i/\i∈atP g.es v/\A (oth (eAt g.es i) v)
structure JY(g:Gr)(s:Bw)(v YN:Int)(s1:Bw)(C:List Int)(T:List Nat)(N:List (List Nat)):Prop where
 vis:s1.vis=s.vis++C
 hd:v∈C
 nd:s1.vis.Nodup
 ln:s1.low.length=s1.vis.length
 low:∀ w∈s.vis,lwW s1 w=lwW s w
 clo:∀ c∈C,∀ i∈atP g.es c,oth (eAt g.es i) c∈s1.vis
 stk:s1.stk=s.stk++T
 out:s1.out=s.out++N
 pl:∀ i,(i∈T++N.flatten)↔i<g.es.length/\(i:Int)≠YN/\((eAt g.es i).a∈C\/(eAt g.es i).b∈C)
 pn:(T++N.flatten).Nodup
 lw1:lwW s1 v<=(s.vis.length:Int)+1
 lw2:∀ c∈C,∀ i∈atP g.es c,(i:Int)≠YN->oth (eAt g.es i) c∉C->lwW s1 v<=nmW s.vis (oth (eAt g.es i) c)
 lw3:lwW s1 v<(s.vis.length:Int)+1->∃ c∈C,∃ i∈atP g.es c,(i:Int)≠YN/\oth (eAt g.es i) c∈s.vis/\nmW s.vis (oth (eAt g.es i) c)=lwW s1 v
 rel:∀ i∈T,∃ b:Nat,YN=b/\mF g.es b i
 good:∀ B∈N,dJ g.es B
 cn:∀ c∈C,RIn g.es (·∈C) v c
structure BLp(g:Gr)(s0:Bw)(v YN:Int)(Q:List Nat)(s:Bw)(D:List Int)(T:List Nat)(N:List (List Nat)):Prop where
 vis:s.vis=s0.vis++v::D
 nd:s.vis.Nodup
 ln:s.low.length=s.vis.length
 low:∀ w∈s0.vis,lwW s w=lwW s0 w
 qs:∀ i∈Q,i∈atP g.es v
 cloQ:∀ i∈Q,oth (eAt g.es i) v∈s.vis
 cloD:∀ c∈D,∀ i∈atP g.es c,oth (eAt g.es i) c∈s.vis
 stk:s.stk=s0.stk++T
 out:s.out=s0.out++N
 pl:∀ i,(i∈T++N.flatten)↔i<g.es.length/\(i:Int)≠YN/\(((eAt g.es i).a∈D\/(eAt g.es i).b∈D)\/(i∈Q/\oth (eAt g.es i) v∈s0.vis))
 pn:(T++N.flatten).Nodup
 lw1:lwW s v<=(s0.vis.length:Int)+1
 lwD:∀ c∈D,∀ i∈atP g.es c,oth (eAt g.es i) c∉D->oth (eAt g.es i) c≠v->lwW s v<=nmW s0.vis (oth (eAt g.es i) c)
 lwQ:∀ i∈Q,(i:Int)≠YN->oth (eAt g.es i) v∈s0.vis->lwW s v<=nmW s0.vis (oth (eAt g.es i) v)
 lw3:lwW s v<(s0.vis.length:Int)+1->∃ c∈v::D,∃ i∈atP g.es c,(i:Int)≠YN/\oth (eAt g.es i) c∈s0.vis/\nmW s0.vis (oth (eAt g.es i) c)=lwW s v
 rel:∀ i∈T,∃ b:Nat,YN=b/\mF g.es b i
 good:∀ B∈N,dJ g.es B
 cn:∀ c∈D,RIn g.es (fun x=>x=v\/x∈D) v c
theorem Dj{V W:List Int}{x:Int}(h:x∈V):nmW (V++W) x=nmW V x:=by unfold nmW;rw[aAe (aAw _ h),aAe h,aCx,aAe h]
theorem Ke{V W:List Int}{x:Int}(h:x∉V)(h2:x∈W):(V.length:Int)+1<=nmW (V++W) x:=by unfold nmW;rw[aAe (aAI _ h2),aCx,aAa h];omega
theorem Ny{V:List Int}{x:Int}(h:x∈V):nmW V x<(V.length:Int)+1:=by unfold nmW;rw[aAe h];have:=aBa h;omega
theorem FB{s:Bw}(hl:s.low.length=s.vis.length){v w x:Int}(hv:v∈s.vis)(hw:w∈s.vis):lwW (mV s v x) w=if w=v then x else lwW s w:=by
 unfold lwW mV;have h1:=aBa hv;have h2:=aBa hw;simp only;rw[aN _ _ (by rw[aCI];omega),List.getElem_set,aN _ _ oO];by_cases e:w=v
 .subst e;rw[aAe rfl,aAe rfl]
 .rw[aAa e,aAa];intro k;apply e;have e1:=aCb h1;have e2:=aCb h2;rw[<- e1,<- e2]
  congr 1
  exact k.symm
theorem Sc{s:Bw}{v w:Int}(hl:s.low.length=s.vis.length)(hw:w∈s.vis):lwW (oN s v) w=lwW s w:=by unfold lwW oN;have h2:=aBa hw;simp only;rw[aCx,aAe hw,aN _ _ (by rw[aAh];omega),aN _ _ oO,aCs oO]
theorem Nw{s:Bw}{v:Int}(hl:s.low.length=s.vis.length)(hv:v∉s.vis):lwW (oN s v) v=(s.vis.length:Int)+1:=by unfold lwW oN;simp only;rw[aCx,aAa hv,List.idxOf_cons_self,aBt,aN _ _ (by rw[aAh];simp;omega),aBx oO];simp[hl]
theorem wX{P R:List Nat}{i:Nat}(h:i∉R):iU (P++i::R) i=P.length:=by unfold iU;rw[aCD,aCK,aAF,aCx,aAa (by simpa using h)];simp
theorem jZ{n:Nat}{S:List Nat}{i:Nat}:i∈sW n S↔i<n/\i∈S:=by unfold sW;rw[aAz,aAX,aAO]
theorem vN(n:Nat)(S:List Nat):(sW n S).Pairwise (· < ·):=aCM _ (aBN)
theorem wQ{n:Nat}{S:List Nat}(hn:S.Nodup)(hl:∀ i∈S,i<n):(sW n S).Perm S:=
 (aBk ((vN n S).imp fun h=>aBs h) hn).2 fun i=>by rw[jZ];exact⟨fun h=>h.2,fun h=>⟨hl i h,h⟩⟩
section
variable {g:Gr} (hg:GoodE g)
include hg
theorem sX{i:Nat}{v:Int}(h:i∈atP g.es v):oth (eAt g.es i) v≠v:=US (hg.ne _ (nN (aU.1 h).1)) (aU.1 h).2
omit hg in
theorem yI.start{A:Int->Prop}{s:Bw}{v YN:Int}(h:yI g A s v YN):BLp g s v YN [] (oN s v) [] [] [] where
 vis:=rfl
 nd:=by show(s.vis++[v]).Nodup;rw[aAs];exact⟨h.nd,sS,fun a ha b hb=>by rintro rfl;rw[aAl]at hb;subst hb;exact h.new ha⟩
 ln:=by show(s.low++[_]).length=(s.vis++[v]).length;simp[h.ln]
 low:=fun w hw=>Sc h.ln hw
 qs:=fun i hi=>by cases hi
 cloQ:=fun i hi=>by cases hi
 cloD:=fun i hi=>by cases hi
 stk:=by show s.stk=s.stk++[];simp
 out:=by show s.out=s.out++[];simp
 pl:=fun i=>by simp
 pn:=sS
 lw1:=by rw[Nw h.ln h.new];exact aCg _
 lwD:=fun i hi=>by cases hi
 lwQ:=fun i hi=>by cases hi
 lw3:=fun hl=>by rw[Nw h.ln h.new]at hl;omega
 rel:=fun i hi=>by cases hi
 good:=fun i hi=>by cases hi
 cn:=fun i hi=>by cases hi
theorem BLp.done{A:Int->Prop}{s0 s:Bw}{v YN:Int}{D:List Int}{T:List Nat}{N:List (List Nat)}(h0:yI g A s0 v YN)(h:BLp g s0 v YN (atP g.es v) s D T N):JY g s0 v YN s (v::D) T N where
 vis:=h.vis
 hd:=sS
 nd:=h.nd
 ln:=h.ln
 low:=h.low
 clo:=fun c hc i hi=>by
  rcases aAf.1 hc with rfl|hc
  .exact h.cloQ i hi
  .exact h.cloD c hc i hi
 stk:=h.stk
 out:=h.out
 pl:=fun i=>by
  rw[h.pl i];refine⟨fun⟨h1,h2,h3⟩=>⟨h1,h2,?_⟩,fun⟨h1,h2,h3⟩=>⟨h1,h2,?_⟩⟩
  .rcases h3 with(h3|h3)|⟨h3,_⟩
   .exact .inl (aAk _ h3)
   .exact .inr (aAk _ h3)
   .rcases(aU.1 h3).2 with e|e
    .exact .inl (by rw[e];simp)
    .exact .inr (by rw[e];simp)
  .by_cases hv:(eAt g.es i).a=v\/(eAt g.es i).b=v
   .have hi:i∈atP g.es v:=aU.2 ⟨h1,hv⟩;have hq:=h.cloQ i hi;rw[h.vis,aAg,aAf]at hq;rcases hq with hq|hq|hq
    .exact .inr ⟨hi,hq⟩
    .exact absurd hq (sX hg hi)
    .refine .inl ?_;rcases lT (eAt g.es i) v with e|e
     .exact .inl (by rw[e];exact hq)
     .exact .inr (by rw[e];exact hq)
   .refine .inl (h3.imp (fun k=>?_) (fun k=>?_))
    .exact(aAf.1 k).resolve_left fun e=>hv (.inl e)
    .exact(aAf.1 k).resolve_left fun e=>hv (.inr e)
 pn:=h.pn
 lw1:=h.lw1
 lw2:=fun c hc i hi hb ho=>by
  have W4:=ho;rw[aAf,aCv]at W4;rcases aAf.1 hc with rfl|hc
  .refine h.lwQ i hi hb ?_;have hq:=h.cloQ i hi;rw[h.vis,aAg]at hq;exact hq.resolve_right ho
  .exact h.lwD c hc i hi W4.2 W4.1
 lw3:=h.lw3
 rel:=h.rel
 good:=h.good
 cn:=fun c hc=>by
  rcases aAf.1 hc with rfl|hc
  .exact .refl sS
  .exact(h.cn c hc).mono fun z hz=>aAf.2 hz
end
end Aw
end Go.Proofs.YtempldclppogmaaGreatDoor
